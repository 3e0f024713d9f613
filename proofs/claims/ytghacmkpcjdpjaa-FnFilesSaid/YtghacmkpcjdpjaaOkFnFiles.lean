import Derived.Test.YtghacmkpcjdpjaaOkFnFilesx1
set_option linter.unusedVariables false
set_option maxRecDepth 4000
namespace Go.Told
open Go Go.Im Go.Proofs
noncomputable def c42:Code:=(Try.f42.body).getD .skip
theorem wX.ok (a1:zA) (a2:ByteArray):Ok Try.prog 42 [pp 0,pp 1] [.box (zA.enc true a1),.box [sv a2]] ((wX a1 a2).map fun r=>(iv r.1,[.box (zA.enc true r.2),.box [sv a2]])):=by
 refine zS c42 Try.f42 2 7 (fun q=>?_)
 unfold wX
 refine yB 0 (cs':=[rr 2 a1.Files,iv a1.Budget,iv a1.Writes,iv a1.Stop,bv a1.Down]) (es:=[(2,rE 2 (File.enc true) a1.Files)]) rfl (.cons (.own 2) (.cons (.same rfl rfl) (.cons (.same rfl rfl) (.cons (.same rfl rfl) (.cons (.same rfl rfl) (.nil)))))) rfl (by kernel_rfl) (by kernel_rfl) ?_
 refine xW [(0,pp 0),(1,pp 1)] [(0,.box [rr 2 a1.Files,iv a1.Budget,iv a1.Writes,iv a1.Stop,bv a1.Down]),(1,.box [sv a2]),(2,rE 2 (File.enc true) a1.Files)] (by kernel_rfl) ?_
 refine J_g 2 [] [(0,pp 0),(1,pp 1)] [(0,.box [rr 2 a1.Files,iv a1.Budget,iv a1.Writes,iv a1.Stop,bv a1.Down]),(1,.box [sv a2]),(2,rE 2 (File.enc true) a1.Files)] zC ?_
 refine yI 0 (cs':=[so 2 (File.enc true) a1.Files,iv a1.Budget,iv a1.Writes,iv a1.Stop,bv a1.Down]) (ts:=[2]) rfl (.move (.tail _ (.head _)) (List.length_map _) (by decide) (.keep rfl (.keep rfl (.keep rfl (.keep rfl (.nil)))))) ?_
 refine xW [(0,pp 0),(1,pp 1)] [(0,.box (zA.enc true a1)),(1,.box [sv a2])] (by kernel_rfl) ?_
 refine zB (fun x3 h4=>?_)
 refine J_g 6 [] [(3,iv x3.1)] [(0,.box (zA.enc true x3.2)),(1,.box [sv a2])] (zP 2 (wH («as»:=[pp 0,sv a2]) [(.tmp 4),(.tmp 5)] [55,9] false [(0,.box (zA.enc true a1))] [0] (.cons (.pt rfl) (.cons (.same rfl) (.nil))) (wG.ok a1 a2) h4 (.same rfl rfl)) zC) ?_
 refine yB 0 (cs':=[rr 2 x3.2.Files,iv x3.2.Budget,iv x3.2.Writes,iv x3.2.Stop,bv x3.2.Down]) (es:=[(2,rE 2 (File.enc true) x3.2.Files)]) rfl (.cons (.own 2) (.cons (.same rfl rfl) (.cons (.same rfl rfl) (.cons (.same rfl rfl) (.cons (.same rfl rfl) (.nil)))))) rfl (by kernel_rfl) (by kernel_rfl) ?_
 refine xW [(3,iv x3.1)] [(0,.box [rr 2 x3.2.Files,iv x3.2.Budget,iv x3.2.Writes,iv x3.2.Stop,bv x3.2.Down]),(1,.box [sv a2]),(2,rE 2 (File.enc true) x3.2.Files)] (by kernel_rfl) ?_
 refine yI 0 (cs':=[so 2 (File.enc true) x3.2.Files,iv x3.2.Budget,iv x3.2.Writes,iv x3.2.Stop,bv x3.2.Down]) (ts:=[2]) rfl (.move (.tail _ (.head _)) (List.length_map _) (by decide) (.keep rfl (.keep rfl (.keep rfl (.keep rfl (.nil)))))) ?_
 refine xW [(3,iv x3.1)] [(0,.box (zA.enc true x3.2)),(1,.box [sv a2])] (by kernel_rfl) ?_
 exact xI rfl
theorem yH.ok (a1:zA) (a2:ByteArray):Ok Try.prog 27 [.ag (zA.enc false a1),.fn 42 [pp 0]] [.box [sv a2]] ((yH a1 a2).map fun r=>(.ag (zG.enc true r),[.box [sv a2]])):=by
 refine zS c27 Try.f27 1 26 (fun q=>?_)
 unfold yH
 refine J_d 2 [(0,1),(1,2)] [0,2,4] [(2,pp 1),(4,pp 2)] [1,2] [(1,.box (zA.enc false a1)),(2,.box [iv 0,nv,iv 0,iv 0,iv 0,bv false])] zC ?_
 refine zB (fun x3 h4=>?_)
 refine J_d 6 [] [5] [(5,iv x3)] [] [] (zP 1 (tJ [(.tmp 7)] [26] (zI.ok a1) h4) zC) ?_
 refine xV (atI c27 29) (fun v6:Bool=>St.mk' [(1,.fn 42 [pp 0]),(2,pp 1),(4,pp 2),(5,iv x3),(14,bv v6)] [(0,.box [sv a2]),(1,.box (zA.enc false a1)),(2,.box [iv 0,nv,iv 0,iv 0,iv 0,bv false])]) (fun v6=>?_) (fun jv6=>?_)
 ·refine xV (atI c27 15) (fun v8:Int=>St.mk' [(1,.fn 42 [pp 0]),(2,pp 1),(4,pp 2),(5,iv v8)] [(0,.box [sv a2]),(1,.box (zA.enc false a1)),(2,.box [iv 0,nv,iv 0,iv 0,iv 0,bv false])]) (fun v8=>?_) (fun jv8=>?_)
  ·refine J_d 60 [] [16] [(16,bv (v8 !=0))] [] [] zC ?_
   refine zU 16 (fun h9=>?_) (fun h9=>?_)
   ·refine J_g 244 [] [(4,pp 2)] [(0,.box [sv a2]),(2,.box [iv v8,nv,iv 0,iv 0,iv 0,bv false])] zC ?_
    exact jS (ds:=[.ag [iv v8,nv,iv 0,iv 0,iv 0,bv false]]) (ds':=[.ag [iv v8,so 2 (File.enc true) ([]:List File),iv 0,iv 0,iv 0,bv false]]) (.cons (.ag (.keep rfl (.nilsl true 2 (.keep rfl (.keep rfl (.keep rfl (.keep rfl (.nil)))))))) (.nil) (by decide)) rfl
   ·refine zB (fun x10 h11=>?_)
    refine J_g 62 [(2,4)] [(1,.fn 42 [pp 0]),(4,pp 2),(6,pp 4)] [(0,.box [sv a2]),(2,.box [iv 0,nv,iv 0,iv 0,iv 0,bv false]),(3,rE 2 (File.enc true) x10.Files),(4,.box [rr 3 x10.Files,iv x10.Budget,iv x10.Writes,iv x10.Stop,bv x10.Down])] (zP 1 (wH («as»:=[.ag (zA.enc false a1)]) [(.tmp 19)] [26] false [] [] (.cons (.same rfl) (.nil)) (yG.ok a1) h11 (.ag (.cons (.own 3) (.cons (.same rfl rfl) (.cons (.same rfl rfl) (.cons (.same rfl rfl) (.cons (.same rfl rfl) (.nil)))))))) zC) ?_
    refine yI 4 (cs':=[so 2 (File.enc true) x10.Files,iv x10.Budget,iv x10.Writes,iv x10.Stop,bv x10.Down]) (ts:=[3]) rfl (.move (.tail _ (.tail _ (.head _))) (List.length_map _) (by decide) (.keep rfl (.keep rfl (.keep rfl (.keep rfl (.nil)))))) ?_
    refine xW [(1,.fn 42 [pp 0]),(4,pp 2),(6,pp 4)] [(0,.box [sv a2]),(2,.box [iv 0,nv,iv 0,iv 0,iv 0,bv false]),(4,.box (zA.enc true x10))] (by kernel_rfl) ?_
    refine zB (fun x12 h13=>?_)
    refine J_g 126 [] [(4,pp 2),(5,iv x12.1),(6,pp 4)] [(0,.box [sv a2]),(2,.box [iv 0,nv,iv 0,iv 0,iv 0,bv false]),(4,.box (zA.enc true x12.2))] (zP 1 (zEi 21 [(.tmp 6)] [55] false [(4,.box (zA.enc true x10)),(0,.box [sv a2])] [4,0] [pp 4] [pp 0] (.cons (.pt rfl) (.cons (.pt rfl) (.nil))) (wX.ok x10 a2) h13 (.same rfl rfl)) zC) ?_
    refine yB 4 (cs':=[rr 5 x12.2.Files,iv x12.2.Budget,iv x12.2.Writes,iv x12.2.Stop,bv x12.2.Down]) (es:=[(5,rE 2 (File.enc true) x12.2.Files)]) rfl (.cons (.own 5) (.cons (.same rfl rfl) (.cons (.same rfl rfl) (.cons (.same rfl rfl) (.cons (.same rfl rfl) (.nil)))))) rfl (by kernel_rfl) (by kernel_rfl) ?_
    refine xW [(4,pp 2),(5,iv x12.1),(6,pp 4)] [(0,.box [sv a2]),(2,.box [iv 0,nv,iv 0,iv 0,iv 0,bv false]),(4,.box [rr 5 x12.2.Files,iv x12.2.Budget,iv x12.2.Writes,iv x12.2.Stop,bv x12.2.Down]),(5,rE 2 (File.enc true) x12.2.Files)] (by kernel_rfl) ?_
    refine zB (fun x14 h15=>?_)
    refine J_g 254 [] [(4,pp 2)] [(0,.box [sv a2]),(2,.box [iv x14.Code,rr 6 x14.zA.Files,iv x14.zA.Budget,iv x14.zA.Writes,iv x14.zA.Stop,bv x14.zA.Down]),(6,rE 2 (File.enc true) x14.zA.Files)] (zP 2 (wH («as»:=[.ag [rr 5 x12.2.Files,iv x12.2.Budget,iv x12.2.Writes,iv x12.2.Stop,bv x12.2.Down],iv x12.1]) [(.tmp 23),(.tmp 24)] [26,2] false [(5,rE 2 (File.enc true) x12.2.Files)] [5] (.cons (.ag (.cons (.rf rfl) (.cons (.same rfl) (.cons (.same rfl) (.cons (.same rfl) (.cons (.same rfl) (.nil))))))) (.cons (.same rfl) (.nil))) (zBb.ok x12.2 x12.1) h15 (.ag (.cons (.same rfl rfl) (.cons (.own 6) (.cons (.same rfl rfl) (.cons (.same rfl rfl) (.cons (.same rfl rfl) (.cons (.same rfl rfl) (.nil))))))))) zC) ?_
    exact jS (ds:=[.ag [iv x14.Code,rr 6 x14.zA.Files,iv x14.zA.Budget,iv x14.zA.Writes,iv x14.zA.Stop,bv x14.zA.Down]]) (ds':=[.ag (zG.enc true x14)]) (.cons (.ag (.keep rfl (.move (.tail _ (.tail _ (.head _))) (List.length_map _) (by decide) (.keep rfl (.keep rfl (.keep rfl (.keep rfl (.nil)))))))) (.nil) (by decide)) rfl
  ·refine zU 14 (fun h7=>?_) (fun h7=>?_)
   ·refine J_d 58 [] [5,14] [(5,iv 9)] [] [] zC ?_
    exact xZ (J_j (jv8 9)) rfl
   ·exact xZ (J_j (jv8 x3)) rfl
 ·refine xK (fun h5=>?_) (fun h5=>?_)
  ·refine J_d 28 [] [14] [(14,bv a1.Down)] [] [] (yQ 2 [(10,bv (x3==0))] [] h5 zC) ?_
   exact xZ (J_j (jv6 a1.Down)) rfl
  ·refine J_d 28 [] [14] [(14,bv false)] [] [] (yQ 2 [(10,bv (x3==0))] [] h5 zC) ?_
   exact xZ (J_j (jv6 false)) rfl
noncomputable def c13:Code:=(Try.f13.body).getD .skip
theorem vM.ok (a1:zA) (a2:ByteArray):Ok Try.prog 13 [.ag (zA.enc false a1),sv a2] [] ((vM a1 a2).map fun r=>(.ag (zG.enc true r),[])):=by
 refine zS c13 Try.f13 0 8 (fun q=>?_)
 unfold vM
 refine J_g 2 [(0,0),(1,1),(2,2)] [(2,pp 0),(3,pp 1),(4,pp 2)] [(0,.box (zA.enc false a1)),(1,.box [sv a2]),(2,.box [iv 0,nv,iv 0,iv 0,iv 0,bv false])] zC ?_
 refine zB (fun x3 h4=>?_)
 refine J_g 6 [] [(4,pp 2)] [(2,.box [iv x3.Code,rr 3 x3.zA.Files,iv x3.zA.Budget,iv x3.zA.Writes,iv x3.zA.Stop,bv x3.zA.Down]),(3,rE 2 (File.enc true) x3.zA.Files)] (zP 2 (zDN [(1,.box [sv a2])] [(3,rE 2 (File.enc true) x3.zA.Files)] (wH («as»:=[.ag (zA.enc false a1),.fn 42 [pp 1]]) [(.tmp 5),(.tmp 6)] [26,54] false [(1,.box [sv a2])] [1] (.cons (.same rfl) (.cons (.fn (.cons (.pt rfl) (.nil))) (.nil))) (yH.ok a1 a2) h4 (.ag (.cons (.same rfl rfl) (.cons (.own 3) (.cons (.same rfl rfl) (.cons (.same rfl rfl) (.cons (.same rfl rfl) (.cons (.same rfl rfl) (.nil)))))))))) zC) ?_
 exact jS (ds:=[.ag [iv x3.Code,rr 3 x3.zA.Files,iv x3.zA.Budget,iv x3.zA.Writes,iv x3.zA.Stop,bv x3.zA.Down]]) (ds':=[.ag (zG.enc true x3)]) (.cons (.ag (.keep rfl (.move (.tail _ (.head _)) (List.length_map _) (by decide) (.keep rfl (.keep rfl (.keep rfl (.keep rfl (.nil)))))))) (.nil) (by decide)) rfl
noncomputable def c64:Code:=(Try.f64.body).getD .skip
theorem zY.ok (a1:ByteArray) (a2:ByteArray):Ok Try.prog 64 [sv a1,sv a2] [] ((zY a1 a2).map fun r=>(bv r,[])):=by
 refine zS c64 Try.f64 0 18 (fun q=>?_)
 unfold zY
 refine J_d 2 [] [] [] [] [] zC ?_
 refine xK (fun h3=>?_) (fun h3=>?_)
 ·refine zB (fun x4 h5=>?_)
  refine J_g 6 [] [(4,bv (seq x4 a2))] [] (yQ 5 [(9,bv (decide ((a1.size:Int)≥(a2.size:Int))))] [] h3 (tH 9 5 10 true (zFR 9 (.tmp 11) none (some (.tmp 13)) h5) zC)) ?_
  exact xI rfl
 ·refine J_g 6 [] [(4,bv false)] [] (yQ 5 [(9,bv (decide ((a1.size:Int)≥(a2.size:Int))))] [] h3 zC) ?_
  exact xI rfl
noncomputable def c58:Code:=(Try.f58.body).getD .skip
theorem strings_HasPrefix.ok (a1:ByteArray) (a2:ByteArray):Ok Try.prog 58 [sv a1,sv a2] [] ((strings_HasPrefix a1 a2).map fun r=>(bv r,[])):=by
 refine zS c58 Try.f58 0 8 (fun q=>?_)
 unfold strings_HasPrefix
 refine J_d 2 [] [] [] [] [] zC ?_
 refine zB (fun x3 h4=>?_)
 refine J_g 6 [] [(4,bv x3)] [] (zP 2 (tJ [(.tmp 5),(.tmp 6)] [9,9] (zY.ok a1 a2) h4) zC) ?_
 exact xI rfl
noncomputable def c45:Code:=(Try.f45.body).getD .skip
theorem wZ.ok (a1:zA) (a2:ByteArray) (q:Wd) (kn:(List ByteArray)→Option (D×List Ent)) (hk:∀v:(List ByteArray),J (q.g Try.prog 45 0 27) c45 (atI c45 15) (St.mk' [(5,rr 1 v)] [(1,rE 1 eStr v)]) (some v) kn):
  ∀s12:((List ByteArray)×Int),J (q.g Try.prog 45 0 27) c45 (atI c45 116) (St.mk' [(1,sv a2),(5,rr 1 s12.1),(10,sl 2 (File.enc false) a1.Files),(11,iv (a1.Files.length:Int)),(12,iv s12.2)] [(1,rE 1 eStr s12.1)]) (wZ a1 a2 s12) kn:=by
 refine zBg (fun g ih s12=>?_)
 unfold wM
 refine J_d 232 [] [13] [(13,bv (decide (s12.2< (a1.Files.length:Int))))] [] [] zC ?_
 refine zU 13 (fun h13=>?_) (fun h13=>?_)
 ·refine zB (fun x14 h15=>?_)
  refine J_d 3736 [(2,2)] [7,13] [(7,pp 2)] [2] [(2,.box (File.enc false x14))] (zP 0 (zBl (kk:=.i64) 24 35 2 (File.enc false) (.tmp 10) (.tmp 12) h15) zC) ?_
  refine zB (fun x16 h17=>?_)
  refine J_d 7474 [] [19] [(19,bv x16)] [] [] (zP 3 (tJ [(.tmp 17),(.tmp 18)] [9,9] (strings_HasPrefix.ok x14.Path a2) h17) zC) ?_
  refine xV (aft c45 1868) (fun v21:(List ByteArray)=>St.mk' [(1,sv a2),(5,rr 4 v21),(10,sl 2 (File.enc false) a1.Files),(11,iv (a1.Files.length:Int)),(12,iv s12.2)] [(4,rE 1 eStr v21)]) (fun v21=>?_) (fun jv21=>?_)
  ·refine J_d 935 [] [12] [(12,iv (w64 (s12.2+1)))] [] [] zC ?_
   refine zAT 4 1 (Nat.le_of_ble_eq_true rfl) (Nat.le_of_ble_eq_true rfl) ?_
   exact J_q (J_b (ih (v21,w64 (s12.2+1)))) rfl
  ·refine zU 19 (fun h18=>?_) (fun h18=>?_)
   ·refine zB (fun x19 h20=>?_)
    refine J_d 14950 [] [5,7,19] [(5,rr 4 x19)] [1,2,4] [(4,rE 1 eStr x19)] (zP 3 (zAN 44 9 1 3 eStr [x14.Path] [0] [(.tmp 22)] [sv x14.Path]) (zP 4 (zEg 44 44 9 9 1 16 4 1 3 eStr (.tmp 20) (.tmp 23) h20) zC)) ?_
    exact xZ (J_j (jv21 x19)) rfl
   ·refine zAT 1 4 (Nat.le_of_ble_eq_true rfl) (Nat.le_of_ble_eq_true rfl) ?_
    exact xZ (J_j (jv21 s12.1)) rfl
 ·exact xZ (hk s12.1) rfl
theorem wQ.ok (a1:zA) (a2:ByteArray):Ok Try.prog 45 [.ag (zA.enc false a1),sv a2] [] ((wQ a1 a2).map fun r=>(so 1 eStr r,[])):=by
 refine zS c45 Try.f45 0 27 (fun q=>?_)
 unfold wQ
 refine J_g 2 [(0,0)] [(1,sv a2),(2,pp 0)] [(0,.box (zA.enc false a1))] zC ?_
 refine J_g 6 [] [(1,sv a2),(2,pp 0),(5,rr 1 ([]:List ByteArray))] [(0,.box (zA.enc false a1)),(1,rE 1 eStr ([]:List ByteArray))] (zP 0 (zAN 44 9 1 1 eStr ([]:List ByteArray) [] [] []) zC) ?_
 refine J_d 28 [] [2,10,11,12] [(10,sl 2 (File.enc false) a1.Files),(11,iv (a1.Files.length:Int)),(12,iv 0)] [0] [] zC ?_
 refine zDi (wZ.ok a1 a2 q _ (fun v22=>J_j ?_) (([]:List ByteArray),0))
 refine J_g 30 [] [(4,rr 1 v22)] [(1,rE 1 eStr v22)] zC ?_
 exact jS (ds:=[rr 1 v22]) (ds':=[so 1 eStr v22]) (.cons (.cell (.move (.head _) (List.length_map _) (by decide) (.nil))) (.nil) (by decide)) rfl
noncomputable def c16:Code:=(Try.f16.body).getD .skip
theorem wI.ok (a1:zA) (a2:ByteArray):Ok Try.prog 16 [.ag (zA.enc false a1),sv a2] [] ((wI a1 a2).map fun r=>(.ag [iv r.Code,so 1 eStr r.Names],[])):=by
 refine zS c16 Try.f16 0 16 (fun q=>?_)
 unfold wI
 refine J_g 2 [(0,0),(1,1)] [(1,sv a2),(2,pp 0),(4,pp 1)] [(0,.box (zA.enc false a1)),(1,.box [iv 0,nv])] zC ?_
 refine zB (fun x3 h4=>?_)
 refine J_g 12 [] [(1,sv a2),(2,pp 0),(4,pp 1),(5,iv x3)] [(0,.box (zA.enc false a1)),(1,.box [iv 0,nv])] (zP 1 (tJ [(.tmp 6)] [26] (zI.ok a1) h4) zC) ?_
 refine J_d 26 [] [9] [(9,bv (x3 !=0))] [] [] zC ?_
 refine zU 9 (fun h5=>?_) (fun h5=>?_)
 ·refine J_g 108 [] [(4,pp 1)] [(1,.box [iv x3,nv])] zC ?_
  exact jS (ds:=[.ag [iv x3,nv]]) (ds':=[.ag [iv x3,so 1 eStr ([]:List ByteArray)]]) (.cons (.ag (.keep rfl (.nilsl true 1 (.nil)))) (.nil) (by decide)) rfl
 ·refine zB (fun x6 h7=>?_)
  refine J_g 14 [] [(4,pp 1)] [(1,.box [iv 0,rr 2 x6]),(2,rE 1 eStr x6)] (zP 2 (wH («as»:=[.ag (zA.enc false a1),sv a2]) [(.tmp 12),(.tmp 13)] [26,9] false [] [] (.cons (.same rfl) (.cons (.same rfl) (.nil))) (wQ.ok a1 a2) h7 (.own 2)) zC) ?_
  exact jS (ds:=[.ag [iv 0,rr 2 x6]]) (ds':=[.ag [iv 0,so 1 eStr x6]]) (.cons (.ag (.keep rfl (.move (.tail _ (.head _)) (List.length_map _) (by decide) (.nil)))) (.nil) (by decide)) rfl
noncomputable def c15:Code:=(Try.f15.body).getD .skip
theorem vX.ok (a1:(List ByteArray)) (a2:ByteArray) (q:Wd) (kn:Unit→Option (D×List Ent)) (hk:∀v:Unit,J (q.g Try.prog 15 0 18) c15 (atI c15 7) (St.mk' [] []) (some v) kn):
  ∀s7:Int,J (q.g Try.prog 15 0 18) c15 (atI c15 52) (St.mk' [(0,sl 1 eStr a1),(1,sv a2),(5,iv s7)] []) (vX a1 a2 s7) (Fl.go (fun r:Bool=>some (bv r,[])) kn):=by
 refine zBg (fun g ih s7=>?_)
 unfold uM
 refine J_d 208 [] [9] [(9,bv (decide (s7< (a1.length:Int))))] [] [] zC ?_
 refine zU 9 (fun h8=>?_) (fun h8=>?_)
 ·refine zB (fun x9 h10=>?_)
  refine J_d 840 [] [9,17] [(17,bv (seq x9 a2))] [] [] (zP 2 (zBl (kk:=.i64) 44 9 1 eStr (.tmp 12) (.tmp 13) h10) zC) ?_
  refine zU 17 (fun h11=>?_) (fun h11=>?_)
  ·refine J_g 3364 [] [(4,bv true)] [] zC ?_
   exact xI rfl
  ·refine J_d 211 [] [5,17] [(5,iv (w64 (s7+1)))] [] [] zC ?_
   exact J_q (J_b (ih (w64 (s7+1)))) rfl
 ·exact xZ (hk ()) rfl
theorem wB.ok (a1:(List ByteArray)) (a2:ByteArray):Ok Try.prog 15 [sl 1 eStr a1,sv a2] [] ((wB a1 a2).map fun r=>(bv r,[])):=by
 refine zS c15 Try.f15 0 18 (fun q=>?_)
 unfold wB
 refine J_g 2 [] [(0,sl 1 eStr a1),(1,sv a2)] [] zC ?_
 refine J_d 12 [] [5] [(5,iv 0)] [] [] zC ?_
 refine zB9 (K0:=(fun r:Bool=>some (bv r,[]))) (fun _=>rfl) (vX.ok a1 a2 q _ (fun v12=>J_j ?_) 0)
 refine J_g 14 [] [(4,bv false)] [] zC ?_
 exact xI rfl
noncomputable def c3:Code:=(Try.f3.body).getD .skip
theorem vL.ok (a1:(List Int)):Ok Try.prog 3 [sl 1 eU8 a1] [] ((vL a1).map fun r=>(bv r,[])):=by
 refine zS c3 Try.f3 0 156 (fun q=>?_)
 unfold vL
 refine J_g 2 [] [(0,sl 1 eU8 a1)] [] zC ?_
 refine zB (fun x2 h3=>?_)
 refine J_g 12 [] [(0,sl 1 eU8 a1),(13,bv x2)] [] (zP 1 (tJ [(.tmp 12)] [22] (uQ.ok a1) h3) zC) ?_
 refine zU 13 (fun h4=>?_) (fun h4=>?_)
 ·refine J_g 52 [] [(2,bv true)] [] zC ?_
  exact xI rfl
 ·refine zB (fun x5 h6=>?_)
  refine J_g 14 [(6,2)] [(3,pp 2),(4,sv x5.2.1),(5,rr 1 x5.2.2)] [(0,rE 2 (File.enc false) x5.1.Files),(1,rE 1 eU8 x5.2.2),(2,.box [rr 0 x5.1.Files,iv x5.1.Budget,iv x5.1.Writes,iv x5.1.Stop,bv x5.1.Down])] (zP 1 (wH («as»:=[sl 1 eU8 a1]) [(.tmp 15)] [22] false [] [] (.cons (.same rfl) (.nil)) (yZ.ok a1) h6 (.tu (.cons (.ag (.cons (.own 0) (.cons (.same rfl rfl) (.cons (.same rfl rfl) (.cons (.same rfl rfl) (.cons (.same rfl rfl) (.nil))))))) (.cons (.same rfl rfl) (.cons (.own 1) (.nil)))))) zC) ?_
  refine zB (fun x7 h8=>?_)
  refine J_d 30 [(4,4)] [6] [(6,pp 4)] [3,4] [(3,rE 2 (File.enc true) x7.zA.Files),(4,.box [iv x7.Code,rr 3 x7.zA.Files,iv x7.zA.Budget,iv x7.zA.Writes,iv x7.zA.Stop,bv x7.zA.Down])] (zP 3 (wH («as»:=[.ag [rr 0 x5.1.Files,iv x5.1.Budget,iv x5.1.Writes,iv x5.1.Stop,bv x5.1.Down],sv x5.2.1,rr 1 x5.2.2]) [(.tmp 20),(.tmp 21),(.tmp 22)] [26,9,22] true [(0,rE 2 (File.enc false) x5.1.Files),(1,rE 1 eU8 x5.2.2)] [] (.cons (.ag (.cons (jP (.head _) (File.ro false) rfl) (.cons (.same rfl) (.cons (.same rfl) (.cons (.same rfl) (.cons (.same rfl) (.nil))))))) (.cons (.same rfl) (.cons (jP (.tail _ (.head _)) (fun _=>rfl) rfl) (.nil)))) (xA.ok x5.1 x5.2.1 x5.2.2) h8 (.ag (.cons (.same rfl rfl) (.cons (.own 3) (.cons (.same rfl rfl) (.cons (.same rfl rfl) (.cons (.same rfl rfl) (.cons (.same rfl rfl) (.nil)))))))) (hbor:=fun _=>⟨fhN,(vQ (zG.fl _))⟩)) zC) ?_
  refine xV (atI c3 125) (fun v13:Bool=>St.mk' [(3,pp 2),(4,sv x5.2.1),(5,rr 1 x5.2.2),(6,pp 4),(36,bv v13)] [(0,rE 2 (File.enc false) x5.1.Files),(1,rE 1 eU8 x5.2.2),(2,.box [rr 0 x5.1.Files,iv x5.1.Budget,iv x5.1.Writes,iv x5.1.Stop,bv x5.1.Down]),(3,rE 2 (File.enc true) x7.zA.Files),(4,.box [iv x7.Code,rr 3 x7.zA.Files,iv x7.zA.Budget,iv x7.zA.Writes,iv x7.zA.Stop,bv x7.zA.Down])]) (fun v13=>?_) (fun jv13=>?_)
  ·refine zU 36 (fun h14=>?_) (fun h14=>?_)
   ·refine zB (fun x15 h16=>?_)
    refine J_d 500 [(3,6)] [5,7,36] [(7,pp 6)] [1,5,6] [(5,rE 2 (File.enc true) x15.zA.Files),(6,.box [iv x15.Code,rr 5 x15.zA.Files,iv x15.zA.Budget,iv x15.zA.Writes,iv x15.zA.Stop,bv x15.zA.Down])] (zP 2 (wH («as»:=[.ag [rr 3 x7.zA.Files,iv x7.zA.Budget,iv x7.zA.Writes,iv x7.zA.Stop,bv x7.zA.Down],iv (-1)]) [(.tmp 38),(.const (.int .i64 (-1)))] [26,2] true [(3,rE 2 (File.enc true) x7.zA.Files)] [] (.cons (.ag (.cons (jP (.head _) (File.ro true) rfl) (.cons (.same rfl) (.cons (.same rfl) (.cons (.same rfl) (.cons (.same rfl) (.nil))))))) (.cons (.same rfl) (.nil))) (vE.ok x7.zA (-1)) h16 (.ag (.cons (.same rfl rfl) (.cons (.own 5) (.cons (.same rfl rfl) (.cons (.same rfl rfl) (.cons (.same rfl rfl) (.cons (.same rfl rfl) (.nil)))))))) (hbor:=fun _=>⟨fhN,(vQ (zG.fl _))⟩)) zC) ?_
    refine zB (fun x17 h18=>?_)
    refine J_d 1002 [(4,8)] [7,8] [(8,pp 8)] [5,6,7,8] [(7,rE 1 eU8 x17.File.Data),(8,.box [iv x17.Code,sv x17.File.Path,rr 7 x17.File.Data])] (zP 3 (wH («as»:=[.ag [rr 5 x15.zA.Files,iv x15.zA.Budget,iv x15.zA.Writes,iv x15.zA.Stop,bv x15.zA.Down],sv x5.2.1]) [(.tmp 41),(.tmp 42)] [26,9] true [(5,rE 2 (File.enc true) x15.zA.Files)] [] (.cons (.ag (.cons (jP (.head _) (File.ro true) rfl) (.cons (.same rfl) (.cons (.same rfl) (.cons (.same rfl) (.cons (.same rfl) (.nil))))))) (.cons (.same rfl) (.nil))) (yV.ok x15.zA x5.2.1) h18 (.ag (.cons (.same rfl rfl) (.cons (.same rfl rfl) (.cons (.own 7) (.nil))))) (hbor:=fun _=>⟨fhN,(vQ (yE.fl _))⟩)) zC) ?_
    refine zB (fun x19 h20=>?_)
    refine J_d 2006 [(3,10)] [4,9] [(9,pp 10)] [9,10] [(9,rE 1 eU8 x19.File.Data),(10,.box [iv x19.Code,sv x19.File.Path,rr 9 x19.File.Data])] (zP 2 (wH («as»:=[.ag [rr 0 x5.1.Files,iv x5.1.Budget,iv x5.1.Writes,iv x5.1.Stop,bv x5.1.Down],sv x5.2.1]) [(.tmp 44),(.tmp 45)] [26,9] true [(0,rE 2 (File.enc false) x5.1.Files)] [] (.cons (.ag (.cons (jP (.head _) (File.ro false) rfl) (.cons (.same rfl) (.cons (.same rfl) (.cons (.same rfl) (.cons (.same rfl) (.nil))))))) (.cons (.same rfl) (.nil))) (vB.ok x5.1 x5.2.1) h20 (.ag (.cons (.same rfl rfl) (.cons (.same rfl rfl) (.cons (.own 9) (.nil))))) (hbor:=fun _=>⟨fhN,(vQ (yE.fl _))⟩)) zC) ?_
    refine xK (fun h21=>?_) (fun h21=>?_)
    ·refine xK (fun h22=>?_) (fun h22=>?_)
     ·refine xK (fun h23=>?_) (fun h23=>?_)
      ·refine xK (fun h24=>?_) (fun h24=>?_)
       ·refine zB (fun x25 h26=>?_)
        refine zB (fun x27 h28=>?_)
        refine J_g 4014 [] [(2,bv (x25.Value==x27.Value))] [] (yQ 3 [(49,bv x7.zA.Down)] [] h21 (yQ 8 [(54,bv (decide (x5.1.Stop≥0)))] [] h22 (yQ 15 [(61,bv (x17.Code==x19.Code))] [] h23 (tH 19 15 62 true (tN (xs:=x17.File.Data) 22 9 5 7 (.tmp 65)) (tH 23 15 62 true (tN (xs:=x19.File.Data) 22 9 5 9 (.tmp 69)) (yQ 26 [(72,bv (seq (b2s x17.File.Data) (b2s x19.File.Data)))] [] h24 (tH 29 26 73 true (wH («as»:=[.ag [rr 3 x7.zA.Files,iv x7.zA.Budget,iv x7.zA.Writes,iv x7.zA.Stop,bv x7.zA.Down]]) [(.tmp 75)] [26] true [(3,rE 2 (File.enc true) x7.zA.Files)] [] (.cons (.ag (.cons (jP (.head _) (File.ro true) rfl) (.cons (.same rfl) (.cons (.same rfl) (.cons (.same rfl) (.cons (.same rfl) (.nil))))))) (.nil)) (yS.ok x7.zA) h26 (.ag (.cons (.same rfl rfl) (.cons (.same rfl rfl) (.nil)))) (hbor:=fun _=>⟨fhN,(vQ (xQ.fl _))⟩)) (tH 32 26 73 true (wH («as»:=[.ag [rr 0 x5.1.Files,iv x5.1.Budget,iv x5.1.Writes,iv x5.1.Stop,bv x5.1.Down]]) [(.tmp 78)] [26] true [(0,rE 2 (File.enc false) x5.1.Files)] [] (.cons (.ag (.cons (jP (.head _) (File.ro false) rfl) (.cons (.same rfl) (.cons (.same rfl) (.cons (.same rfl) (.cons (.same rfl) (.nil))))))) (.nil)) (yS.ok x5.1) h28 (.ag (.cons (.same rfl rfl) (.cons (.same rfl rfl) (.nil)))) (hbor:=fun _=>⟨fhN,(vQ (xQ.fl _))⟩)) zC)))))))) ?_
        exact xI rfl
       ·refine J_g 4014 [] [(2,bv false)] [] (yQ 3 [(49,bv x7.zA.Down)] [] h21 (yQ 8 [(54,bv (decide (x5.1.Stop≥0)))] [] h22 (yQ 15 [(61,bv (x17.Code==x19.Code))] [] h23 (tH 19 15 62 true (tN (xs:=x17.File.Data) 22 9 5 7 (.tmp 65)) (tH 23 15 62 true (tN (xs:=x19.File.Data) 22 9 5 9 (.tmp 69)) (yQ 26 [(72,bv (seq (b2s x17.File.Data) (b2s x19.File.Data)))] [] h24 zC)))))) ?_
        exact xI rfl
      ·refine J_g 4014 [] [(2,bv false)] [] (yQ 3 [(49,bv x7.zA.Down)] [] h21 (yQ 8 [(54,bv (decide (x5.1.Stop≥0)))] [] h22 (yQ 15 [(61,bv (x17.Code==x19.Code))] [] h23 zC))) ?_
       exact xI rfl
     ·refine J_g 4014 [] [(2,bv false)] [] (yQ 3 [(49,bv x7.zA.Down)] [] h21 (yQ 8 [(54,bv (decide (x5.1.Stop≥0)))] [] h22 zC)) ?_
      exact xI rfl
    ·refine J_g 4014 [] [(2,bv false)] [] (yQ 3 [(49,bv x7.zA.Down)] [] h21 zC) ?_
     exact xI rfl
   ·refine J_d 252 [] [36,85] [(85,bv (x7.Code !=0))] [] [] zC ?_
    refine zU 85 (fun h29=>?_) (fun h29=>?_)
    ·refine zB (fun x30 h31=>?_)
     refine J_g 1012 [] [(2,bv (x30.Code==x7.Code))] [] (zP 3 (wH («as»:=[.ag [rr 0 x5.1.Files,iv x5.1.Budget,iv x5.1.Writes,iv x5.1.Stop,bv x5.1.Down],sv x5.2.1,rr 1 x5.2.2]) [(.tmp 86),(.tmp 87),(.tmp 88)] [26,9,22] false [(0,rE 2 (File.enc false) x5.1.Files),(1,rE 1 eU8 x5.2.2)] [0,1] (.cons (.ag (.cons (.rf rfl) (.cons (.same rfl) (.cons (.same rfl) (.cons (.same rfl) (.cons (.same rfl) (.nil))))))) (.cons (.same rfl) (.cons (.rf rfl) (.nil)))) (zAt.ok x5.1 x5.2.1 x5.2.2) h31 (.ag (.cons (.same rfl rfl) (.cons (.own 5) (.cons (.same rfl rfl) (.cons (.same rfl rfl) (.cons (.same rfl rfl) (.cons (.same rfl rfl) (.nil))))))))) zC) ?_
     exact xI rfl
    ·refine zB (fun x32 h33=>?_)
     refine J_d 254 [(4,6)] [10,85] [(10,pp 6)] [5,6] [(5,rE 1 eU8 x32.File.Data),(6,.box [iv x32.Code,sv x32.File.Path,rr 5 x32.File.Data])] (zP 3 (wH («as»:=[.ag [rr 3 x7.zA.Files,iv x7.zA.Budget,iv x7.zA.Writes,iv x7.zA.Stop,bv x7.zA.Down],sv x5.2.1]) [(.tmp 95),(.tmp 96)] [26,9] true [(3,rE 2 (File.enc true) x7.zA.Files)] [] (.cons (.ag (.cons (jP (.head _) (File.ro true) rfl) (.cons (.same rfl) (.cons (.same rfl) (.cons (.same rfl) (.cons (.same rfl) (.nil))))))) (.cons (.same rfl) (.nil))) (yV.ok x7.zA x5.2.1) h33 (.ag (.cons (.same rfl rfl) (.cons (.same rfl rfl) (.cons (.own 5) (.nil))))) (hbor:=fun _=>⟨fhN,(vQ (yE.fl _))⟩)) zC) ?_
     refine zB (fun x34 h35=>?_)
     refine J_d 510 [(4,8)] [11] [(11,pp 8)] [7,8] [(7,rE 2 (File.enc true) x34.zA.Files),(8,.box [iv x34.Code,rr 7 x34.zA.Files,iv x34.zA.Budget,iv x34.zA.Writes,iv x34.zA.Stop,bv x34.zA.Down])] (zP 3 (wH («as»:=[.ag [rr 3 x7.zA.Files,iv x7.zA.Budget,iv x7.zA.Writes,iv x7.zA.Stop,bv x7.zA.Down],sv x5.2.1]) [(.tmp 99),(.tmp 100)] [26,9] true [(3,rE 2 (File.enc true) x7.zA.Files)] [] (.cons (.ag (.cons (jP (.head _) (File.ro true) rfl) (.cons (.same rfl) (.cons (.same rfl) (.cons (.same rfl) (.cons (.same rfl) (.nil))))))) (.cons (.same rfl) (.nil))) (vM.ok x7.zA x5.2.1) h35 (.ag (.cons (.same rfl rfl) (.cons (.own 7) (.cons (.same rfl rfl) (.cons (.same rfl rfl) (.cons (.same rfl rfl) (.cons (.same rfl rfl) (.nil)))))))) (hbor:=fun _=>⟨fhN,(vQ (zG.fl _))⟩)) zC) ?_
     refine zB (fun x36 h37=>?_)
     refine xK (fun h38=>?_) (fun h38=>?_)
     ·refine xK (fun h39=>?_) (fun h39=>?_)
      ·refine xK (fun h40=>?_) (fun h40=>?_)
       ·refine zB (fun x41 h42=>?_)
        refine xK (fun h43=>?_) (fun h43=>?_)
        ·refine zB (fun x44 h45=>?_)
         refine zB (fun x46 h47=>?_)
         refine xK (fun h48=>?_) (fun h48=>?_)
         ·refine xK (fun h49=>?_) (fun h49=>?_)
          ·refine J_g 1022 [] [(2,bv true)] [] (zP 2 (wH («as»:=[.ag [rr 3 x7.zA.Files,iv x7.zA.Budget,iv x7.zA.Writes,iv x7.zA.Stop,bv x7.zA.Down]]) [(.tmp 103)] [26] true [(3,rE 2 (File.enc true) x7.zA.Files)] [] (.cons (.ag (.cons (jP (.head _) (File.ro true) rfl) (.cons (.same rfl) (.cons (.same rfl) (.cons (.same rfl) (.cons (.same rfl) (.nil))))))) (.nil)) (zI.ok x7.zA) h37 (.same rfl rfl) (hbor:=fun _=>⟨fhN,yK⟩)) (yQ 4 [(105,bv (x36==0))] [] h38 (yQ 9 [(110,bv (x32.Code==0))] [] h39 (tH 13 9 111 true (tN (xs:=x32.File.Data) 22 9 5 5 (.tmp 114)) (tH 15 9 111 true (tN (xs:=x5.2.2) 22 9 5 1 (.tmp 116)) (yQ 18 [(119,bv (seq (b2s x32.File.Data) (b2s x5.2.2)))] [] h40 (tH 21 18 120 true (wH («as»:=[.ag [rr 3 x7.zA.Files,iv x7.zA.Budget,iv x7.zA.Writes,iv x7.zA.Stop,bv x7.zA.Down]]) [(.tmp 122)] [26] true [(3,rE 2 (File.enc true) x7.zA.Files)] [] (.cons (.ag (.cons (jP (.head _) (File.ro true) rfl) (.cons (.same rfl) (.cons (.same rfl) (.cons (.same rfl) (.cons (.same rfl) (.nil))))))) (.nil)) (yS.ok x7.zA) h42 (.ag (.cons (.same rfl rfl) (.cons (.same rfl rfl) (.nil)))) (hbor:=fun _=>⟨fhN,(vQ (xQ.fl _))⟩)) (yQ 27 [(128,bv (decide (x41.Value≤x5.1.Budget)))] [] h43 (tH 31 27 129 true (wH («as»:=[.ag [rr 3 x7.zA.Files,iv x7.zA.Budget,iv x7.zA.Writes,iv x7.zA.Stop,bv x7.zA.Down],sv x5.2.1]) [(.tmp 131),(.tmp 132)] [26,9] true [(3,rE 2 (File.enc true) x7.zA.Files)] [] (.cons (.ag (.cons (jP (.head _) (File.ro true) rfl) (.cons (.same rfl) (.cons (.same rfl) (.cons (.same rfl) (.cons (.same rfl) (.nil))))))) (.cons (.same rfl) (.nil))) (wI.ok x7.zA x5.2.1) h45 (.ag (.cons (.same rfl rfl) (.cons (.own 9) (.nil)))) (hbor:=fun _=>⟨fhN,(vQ (yN.fl _))⟩)) (tH 34 27 129 true (wH («as»:=[rr 9 x44.Names,sv x5.2.1]) [(.tmp 134),(.tmp 135)] [44,9] true [(9,rE 1 eStr x44.Names)] [] (.cons (jP (.head _) (fun _=>rfl) rfl) (.cons (.same rfl) (.nil))) (wB.ok x44.Names x5.2.1) h47 (.same rfl rfl) (hbor:=fun _=>⟨fhN,yK⟩)) (yQ 36 [(137,bv x46)] [] h48 (jX 40 36 138 true [(141,bv (x34.Code==9))] [] h49 (wT 44 (wU (i:=44) (g:=40) (t:=142) (b:=false) (v:=(.bool true)) (.inl rfl) (by kernel_rfl) (by kernel_rfl)) (wT 45 (wU (i:=45) (g:=44) (t:=146) (b:=true) (v:=undef) (.inr rfl) (by kernel_rfl) (by kernel_rfl)) (wT 46 (wU (i:=46) (g:=44) (t:=146) (b:=true) (v:=undef) (.inr rfl) (by kernel_rfl) (by kernel_rfl)) (wT 47 (wU (i:=47) (g:=44) (t:=146) (b:=true) (v:=undef) (.inr rfl) (by kernel_rfl) (by kernel_rfl)) (wT 48 (wU (i:=48) (g:=44) (t:=146) (b:=true) (v:=undef) (.inr rfl) (by kernel_rfl) (by kernel_rfl)) (wT 49 (wU (i:=49) (g:=44) (t:=146) (b:=true) (v:=undef) (.inr rfl) (by kernel_rfl) (by kernel_rfl)) (wT 50 (wU (i:=50) (g:=44) (t:=146) (b:=true) (v:=undef) (.inr rfl) (by kernel_rfl) (by kernel_rfl)) zC))))))))))))))))))) ?_
           exact xI rfl
          ·refine xK (fun h50=>?_) (fun h50=>?_)
           ·refine zB (fun x51 h52=>?_)
            refine J_g 1022 [] [(2,bv (x51.Code==4))] [] (zP 2 (wH («as»:=[.ag [rr 3 x7.zA.Files,iv x7.zA.Budget,iv x7.zA.Writes,iv x7.zA.Stop,bv x7.zA.Down]]) [(.tmp 103)] [26] true [(3,rE 2 (File.enc true) x7.zA.Files)] [] (.cons (.ag (.cons (jP (.head _) (File.ro true) rfl) (.cons (.same rfl) (.cons (.same rfl) (.cons (.same rfl) (.cons (.same rfl) (.nil))))))) (.nil)) (zI.ok x7.zA) h37 (.same rfl rfl) (hbor:=fun _=>⟨fhN,yK⟩)) (yQ 4 [(105,bv (x36==0))] [] h38 (yQ 9 [(110,bv (x32.Code==0))] [] h39 (tH 13 9 111 true (tN (xs:=x32.File.Data) 22 9 5 5 (.tmp 114)) (tH 15 9 111 true (tN (xs:=x5.2.2) 22 9 5 1 (.tmp 116)) (yQ 18 [(119,bv (seq (b2s x32.File.Data) (b2s x5.2.2)))] [] h40 (tH 21 18 120 true (wH («as»:=[.ag [rr 3 x7.zA.Files,iv x7.zA.Budget,iv x7.zA.Writes,iv x7.zA.Stop,bv x7.zA.Down]]) [(.tmp 122)] [26] true [(3,rE 2 (File.enc true) x7.zA.Files)] [] (.cons (.ag (.cons (jP (.head _) (File.ro true) rfl) (.cons (.same rfl) (.cons (.same rfl) (.cons (.same rfl) (.cons (.same rfl) (.nil))))))) (.nil)) (yS.ok x7.zA) h42 (.ag (.cons (.same rfl rfl) (.cons (.same rfl rfl) (.nil)))) (hbor:=fun _=>⟨fhN,(vQ (xQ.fl _))⟩)) (yQ 27 [(128,bv (decide (x41.Value≤x5.1.Budget)))] [] h43 (tH 31 27 129 true (wH («as»:=[.ag [rr 3 x7.zA.Files,iv x7.zA.Budget,iv x7.zA.Writes,iv x7.zA.Stop,bv x7.zA.Down],sv x5.2.1]) [(.tmp 131),(.tmp 132)] [26,9] true [(3,rE 2 (File.enc true) x7.zA.Files)] [] (.cons (.ag (.cons (jP (.head _) (File.ro true) rfl) (.cons (.same rfl) (.cons (.same rfl) (.cons (.same rfl) (.cons (.same rfl) (.nil))))))) (.cons (.same rfl) (.nil))) (wI.ok x7.zA x5.2.1) h45 (.ag (.cons (.same rfl rfl) (.cons (.own 9) (.nil)))) (hbor:=fun _=>⟨fhN,(vQ (yN.fl _))⟩)) (tH 34 27 129 true (wH («as»:=[rr 9 x44.Names,sv x5.2.1]) [(.tmp 134),(.tmp 135)] [44,9] true [(9,rE 1 eStr x44.Names)] [] (.cons (jP (.head _) (fun _=>rfl) rfl) (.cons (.same rfl) (.nil))) (wB.ok x44.Names x5.2.1) h47 (.same rfl rfl) (hbor:=fun _=>⟨fhN,yK⟩)) (yQ 36 [(137,bv x46)] [] h48 (jX 40 36 138 true [(141,bv (x34.Code==9))] [] h49 (jX 44 40 142 false [(145,bv (x34.Code==0))] [] h50 (tH 48 44 146 true (wH («as»:=[.ag [rr 7 x34.zA.Files,iv x34.zA.Budget,iv x34.zA.Writes,iv x34.zA.Stop,bv x34.zA.Down],sv x5.2.1]) [(.tmp 148),(.tmp 149)] [26,9] true [(7,rE 2 (File.enc true) x34.zA.Files)] [] (.cons (.ag (.cons (jP (.head _) (File.ro true) rfl) (.cons (.same rfl) (.cons (.same rfl) (.cons (.same rfl) (.cons (.same rfl) (.nil))))))) (.cons (.same rfl) (.nil))) (yV.ok x34.zA x5.2.1) h52 (.ag (.cons (.same rfl rfl) (.cons (.same rfl rfl) (.cons (.own 10) (.nil))))) (hbor:=fun _=>⟨fhN,(vQ (yE.fl _))⟩)) zC)))))))))))))) ?_
            exact xI rfl
           ·refine J_g 1022 [] [(2,bv false)] [] (zP 2 (wH («as»:=[.ag [rr 3 x7.zA.Files,iv x7.zA.Budget,iv x7.zA.Writes,iv x7.zA.Stop,bv x7.zA.Down]]) [(.tmp 103)] [26] true [(3,rE 2 (File.enc true) x7.zA.Files)] [] (.cons (.ag (.cons (jP (.head _) (File.ro true) rfl) (.cons (.same rfl) (.cons (.same rfl) (.cons (.same rfl) (.cons (.same rfl) (.nil))))))) (.nil)) (zI.ok x7.zA) h37 (.same rfl rfl) (hbor:=fun _=>⟨fhN,yK⟩)) (yQ 4 [(105,bv (x36==0))] [] h38 (yQ 9 [(110,bv (x32.Code==0))] [] h39 (tH 13 9 111 true (tN (xs:=x32.File.Data) 22 9 5 5 (.tmp 114)) (tH 15 9 111 true (tN (xs:=x5.2.2) 22 9 5 1 (.tmp 116)) (yQ 18 [(119,bv (seq (b2s x32.File.Data) (b2s x5.2.2)))] [] h40 (tH 21 18 120 true (wH («as»:=[.ag [rr 3 x7.zA.Files,iv x7.zA.Budget,iv x7.zA.Writes,iv x7.zA.Stop,bv x7.zA.Down]]) [(.tmp 122)] [26] true [(3,rE 2 (File.enc true) x7.zA.Files)] [] (.cons (.ag (.cons (jP (.head _) (File.ro true) rfl) (.cons (.same rfl) (.cons (.same rfl) (.cons (.same rfl) (.cons (.same rfl) (.nil))))))) (.nil)) (yS.ok x7.zA) h42 (.ag (.cons (.same rfl rfl) (.cons (.same rfl rfl) (.nil)))) (hbor:=fun _=>⟨fhN,(vQ (xQ.fl _))⟩)) (yQ 27 [(128,bv (decide (x41.Value≤x5.1.Budget)))] [] h43 (tH 31 27 129 true (wH («as»:=[.ag [rr 3 x7.zA.Files,iv x7.zA.Budget,iv x7.zA.Writes,iv x7.zA.Stop,bv x7.zA.Down],sv x5.2.1]) [(.tmp 131),(.tmp 132)] [26,9] true [(3,rE 2 (File.enc true) x7.zA.Files)] [] (.cons (.ag (.cons (jP (.head _) (File.ro true) rfl) (.cons (.same rfl) (.cons (.same rfl) (.cons (.same rfl) (.cons (.same rfl) (.nil))))))) (.cons (.same rfl) (.nil))) (wI.ok x7.zA x5.2.1) h45 (.ag (.cons (.same rfl rfl) (.cons (.own 9) (.nil)))) (hbor:=fun _=>⟨fhN,(vQ (yN.fl _))⟩)) (tH 34 27 129 true (wH («as»:=[rr 9 x44.Names,sv x5.2.1]) [(.tmp 134),(.tmp 135)] [44,9] true [(9,rE 1 eStr x44.Names)] [] (.cons (jP (.head _) (fun _=>rfl) rfl) (.cons (.same rfl) (.nil))) (wB.ok x44.Names x5.2.1) h47 (.same rfl rfl) (hbor:=fun _=>⟨fhN,yK⟩)) (yQ 36 [(137,bv x46)] [] h48 (jX 40 36 138 true [(141,bv (x34.Code==9))] [] h49 (jX 44 40 142 false [(145,bv (x34.Code==0))] [] h50 zC))))))))))))) ?_
            exact xI rfl
         ·refine J_g 1022 [] [(2,bv false)] [] (zP 2 (wH («as»:=[.ag [rr 3 x7.zA.Files,iv x7.zA.Budget,iv x7.zA.Writes,iv x7.zA.Stop,bv x7.zA.Down]]) [(.tmp 103)] [26] true [(3,rE 2 (File.enc true) x7.zA.Files)] [] (.cons (.ag (.cons (jP (.head _) (File.ro true) rfl) (.cons (.same rfl) (.cons (.same rfl) (.cons (.same rfl) (.cons (.same rfl) (.nil))))))) (.nil)) (zI.ok x7.zA) h37 (.same rfl rfl) (hbor:=fun _=>⟨fhN,yK⟩)) (yQ 4 [(105,bv (x36==0))] [] h38 (yQ 9 [(110,bv (x32.Code==0))] [] h39 (tH 13 9 111 true (tN (xs:=x32.File.Data) 22 9 5 5 (.tmp 114)) (tH 15 9 111 true (tN (xs:=x5.2.2) 22 9 5 1 (.tmp 116)) (yQ 18 [(119,bv (seq (b2s x32.File.Data) (b2s x5.2.2)))] [] h40 (tH 21 18 120 true (wH («as»:=[.ag [rr 3 x7.zA.Files,iv x7.zA.Budget,iv x7.zA.Writes,iv x7.zA.Stop,bv x7.zA.Down]]) [(.tmp 122)] [26] true [(3,rE 2 (File.enc true) x7.zA.Files)] [] (.cons (.ag (.cons (jP (.head _) (File.ro true) rfl) (.cons (.same rfl) (.cons (.same rfl) (.cons (.same rfl) (.cons (.same rfl) (.nil))))))) (.nil)) (yS.ok x7.zA) h42 (.ag (.cons (.same rfl rfl) (.cons (.same rfl rfl) (.nil)))) (hbor:=fun _=>⟨fhN,(vQ (xQ.fl _))⟩)) (yQ 27 [(128,bv (decide (x41.Value≤x5.1.Budget)))] [] h43 (tH 31 27 129 true (wH («as»:=[.ag [rr 3 x7.zA.Files,iv x7.zA.Budget,iv x7.zA.Writes,iv x7.zA.Stop,bv x7.zA.Down],sv x5.2.1]) [(.tmp 131),(.tmp 132)] [26,9] true [(3,rE 2 (File.enc true) x7.zA.Files)] [] (.cons (.ag (.cons (jP (.head _) (File.ro true) rfl) (.cons (.same rfl) (.cons (.same rfl) (.cons (.same rfl) (.cons (.same rfl) (.nil))))))) (.cons (.same rfl) (.nil))) (wI.ok x7.zA x5.2.1) h45 (.ag (.cons (.same rfl rfl) (.cons (.own 9) (.nil)))) (hbor:=fun _=>⟨fhN,(vQ (yN.fl _))⟩)) (tH 34 27 129 true (wH («as»:=[rr 9 x44.Names,sv x5.2.1]) [(.tmp 134),(.tmp 135)] [44,9] true [(9,rE 1 eStr x44.Names)] [] (.cons (jP (.head _) (fun _=>rfl) rfl) (.cons (.same rfl) (.nil))) (wB.ok x44.Names x5.2.1) h47 (.same rfl rfl) (hbor:=fun _=>⟨fhN,yK⟩)) (yQ 36 [(137,bv x46)] [] h48 (wT 40 (wU (i:=40) (g:=36) (t:=138) (b:=true) (v:=(.bool false)) (.inl rfl) (by kernel_rfl) (by kernel_rfl)) (wT 41 (wU (i:=41) (g:=40) (t:=142) (b:=false) (v:=undef) (.inr rfl) (by kernel_rfl) (by kernel_rfl)) (wT 42 (wU (i:=42) (g:=40) (t:=142) (b:=false) (v:=undef) (.inr rfl) (by kernel_rfl) (by kernel_rfl)) (wT 43 (wU (i:=43) (g:=40) (t:=142) (b:=false) (v:=undef) (.inr rfl) (by kernel_rfl) (by kernel_rfl)) (wT 44 (wU (i:=44) (g:=40) (t:=142) (b:=false) (v:=undef) (.inr rfl) (by kernel_rfl) (by kernel_rfl)) (wT 45 (wU (i:=45) (g:=44) (t:=146) (b:=true) (v:=undef) (.inr rfl) (by kernel_rfl) (by kernel_rfl)) (wT 46 (wU (i:=46) (g:=44) (t:=146) (b:=true) (v:=undef) (.inr rfl) (by kernel_rfl) (by kernel_rfl)) (wT 47 (wU (i:=47) (g:=44) (t:=146) (b:=true) (v:=undef) (.inr rfl) (by kernel_rfl) (by kernel_rfl)) (wT 48 (wU (i:=48) (g:=44) (t:=146) (b:=true) (v:=undef) (.inr rfl) (by kernel_rfl) (by kernel_rfl)) (wT 49 (wU (i:=49) (g:=44) (t:=146) (b:=true) (v:=undef) (.inr rfl) (by kernel_rfl) (by kernel_rfl)) (wT 50 (wU (i:=50) (g:=44) (t:=146) (b:=true) (v:=undef) (.inr rfl) (by kernel_rfl) (by kernel_rfl)) (wT 51 (wU (i:=51) (g:=40) (t:=142) (b:=false) (v:=undef) (.inr rfl) (by kernel_rfl) (by kernel_rfl)) zC))))))))))))))))))))))) ?_
          exact xI rfl
        ·refine J_g 1022 [] [(2,bv false)] [] (zP 2 (wH («as»:=[.ag [rr 3 x7.zA.Files,iv x7.zA.Budget,iv x7.zA.Writes,iv x7.zA.Stop,bv x7.zA.Down]]) [(.tmp 103)] [26] true [(3,rE 2 (File.enc true) x7.zA.Files)] [] (.cons (.ag (.cons (jP (.head _) (File.ro true) rfl) (.cons (.same rfl) (.cons (.same rfl) (.cons (.same rfl) (.cons (.same rfl) (.nil))))))) (.nil)) (zI.ok x7.zA) h37 (.same rfl rfl) (hbor:=fun _=>⟨fhN,yK⟩)) (yQ 4 [(105,bv (x36==0))] [] h38 (yQ 9 [(110,bv (x32.Code==0))] [] h39 (tH 13 9 111 true (tN (xs:=x32.File.Data) 22 9 5 5 (.tmp 114)) (tH 15 9 111 true (tN (xs:=x5.2.2) 22 9 5 1 (.tmp 116)) (yQ 18 [(119,bv (seq (b2s x32.File.Data) (b2s x5.2.2)))] [] h40 (tH 21 18 120 true (wH («as»:=[.ag [rr 3 x7.zA.Files,iv x7.zA.Budget,iv x7.zA.Writes,iv x7.zA.Stop,bv x7.zA.Down]]) [(.tmp 122)] [26] true [(3,rE 2 (File.enc true) x7.zA.Files)] [] (.cons (.ag (.cons (jP (.head _) (File.ro true) rfl) (.cons (.same rfl) (.cons (.same rfl) (.cons (.same rfl) (.cons (.same rfl) (.nil))))))) (.nil)) (yS.ok x7.zA) h42 (.ag (.cons (.same rfl rfl) (.cons (.same rfl rfl) (.nil)))) (hbor:=fun _=>⟨fhN,(vQ (xQ.fl _))⟩)) (yQ 27 [(128,bv (decide (x41.Value≤x5.1.Budget)))] [] h43 (wT 40 (wU (i:=40) (g:=36) (t:=138) (b:=true) (v:=(.bool false)) (.inl rfl) (by kernel_rfl) (by kernel_rfl)) (wT 41 (wU (i:=41) (g:=40) (t:=142) (b:=false) (v:=undef) (.inr rfl) (by kernel_rfl) (by kernel_rfl)) (wT 42 (wU (i:=42) (g:=40) (t:=142) (b:=false) (v:=undef) (.inr rfl) (by kernel_rfl) (by kernel_rfl)) (wT 43 (wU (i:=43) (g:=40) (t:=142) (b:=false) (v:=undef) (.inr rfl) (by kernel_rfl) (by kernel_rfl)) (wT 44 (wU (i:=44) (g:=40) (t:=142) (b:=false) (v:=undef) (.inr rfl) (by kernel_rfl) (by kernel_rfl)) (wT 45 (wU (i:=45) (g:=44) (t:=146) (b:=true) (v:=undef) (.inr rfl) (by kernel_rfl) (by kernel_rfl)) (wT 46 (wU (i:=46) (g:=44) (t:=146) (b:=true) (v:=undef) (.inr rfl) (by kernel_rfl) (by kernel_rfl)) (wT 47 (wU (i:=47) (g:=44) (t:=146) (b:=true) (v:=undef) (.inr rfl) (by kernel_rfl) (by kernel_rfl)) (wT 48 (wU (i:=48) (g:=44) (t:=146) (b:=true) (v:=undef) (.inr rfl) (by kernel_rfl) (by kernel_rfl)) (wT 49 (wU (i:=49) (g:=44) (t:=146) (b:=true) (v:=undef) (.inr rfl) (by kernel_rfl) (by kernel_rfl)) (wT 50 (wU (i:=50) (g:=44) (t:=146) (b:=true) (v:=undef) (.inr rfl) (by kernel_rfl) (by kernel_rfl)) (wT 51 (wU (i:=51) (g:=40) (t:=142) (b:=false) (v:=undef) (.inr rfl) (by kernel_rfl) (by kernel_rfl)) zC)))))))))))))))))))) ?_
         exact xI rfl
       ·refine J_g 1022 [] [(2,bv false)] [] (zP 2 (wH («as»:=[.ag [rr 3 x7.zA.Files,iv x7.zA.Budget,iv x7.zA.Writes,iv x7.zA.Stop,bv x7.zA.Down]]) [(.tmp 103)] [26] true [(3,rE 2 (File.enc true) x7.zA.Files)] [] (.cons (.ag (.cons (jP (.head _) (File.ro true) rfl) (.cons (.same rfl) (.cons (.same rfl) (.cons (.same rfl) (.cons (.same rfl) (.nil))))))) (.nil)) (zI.ok x7.zA) h37 (.same rfl rfl) (hbor:=fun _=>⟨fhN,yK⟩)) (yQ 4 [(105,bv (x36==0))] [] h38 (yQ 9 [(110,bv (x32.Code==0))] [] h39 (tH 13 9 111 true (tN (xs:=x32.File.Data) 22 9 5 5 (.tmp 114)) (tH 15 9 111 true (tN (xs:=x5.2.2) 22 9 5 1 (.tmp 116)) (yQ 18 [(119,bv (seq (b2s x32.File.Data) (b2s x5.2.2)))] [] h40 (wT 40 (wU (i:=40) (g:=36) (t:=138) (b:=true) (v:=(.bool false)) (.inl rfl) (by kernel_rfl) (by kernel_rfl)) (wT 41 (wU (i:=41) (g:=40) (t:=142) (b:=false) (v:=undef) (.inr rfl) (by kernel_rfl) (by kernel_rfl)) (wT 42 (wU (i:=42) (g:=40) (t:=142) (b:=false) (v:=undef) (.inr rfl) (by kernel_rfl) (by kernel_rfl)) (wT 43 (wU (i:=43) (g:=40) (t:=142) (b:=false) (v:=undef) (.inr rfl) (by kernel_rfl) (by kernel_rfl)) (wT 44 (wU (i:=44) (g:=40) (t:=142) (b:=false) (v:=undef) (.inr rfl) (by kernel_rfl) (by kernel_rfl)) (wT 45 (wU (i:=45) (g:=44) (t:=146) (b:=true) (v:=undef) (.inr rfl) (by kernel_rfl) (by kernel_rfl)) (wT 46 (wU (i:=46) (g:=44) (t:=146) (b:=true) (v:=undef) (.inr rfl) (by kernel_rfl) (by kernel_rfl)) (wT 47 (wU (i:=47) (g:=44) (t:=146) (b:=true) (v:=undef) (.inr rfl) (by kernel_rfl) (by kernel_rfl)) (wT 48 (wU (i:=48) (g:=44) (t:=146) (b:=true) (v:=undef) (.inr rfl) (by kernel_rfl) (by kernel_rfl)) (wT 49 (wU (i:=49) (g:=44) (t:=146) (b:=true) (v:=undef) (.inr rfl) (by kernel_rfl) (by kernel_rfl)) (wT 50 (wU (i:=50) (g:=44) (t:=146) (b:=true) (v:=undef) (.inr rfl) (by kernel_rfl) (by kernel_rfl)) (wT 51 (wU (i:=51) (g:=40) (t:=142) (b:=false) (v:=undef) (.inr rfl) (by kernel_rfl) (by kernel_rfl)) zC)))))))))))))))))) ?_
        exact xI rfl
      ·refine J_g 1022 [] [(2,bv false)] [] (zP 2 (wH («as»:=[.ag [rr 3 x7.zA.Files,iv x7.zA.Budget,iv x7.zA.Writes,iv x7.zA.Stop,bv x7.zA.Down]]) [(.tmp 103)] [26] true [(3,rE 2 (File.enc true) x7.zA.Files)] [] (.cons (.ag (.cons (jP (.head _) (File.ro true) rfl) (.cons (.same rfl) (.cons (.same rfl) (.cons (.same rfl) (.cons (.same rfl) (.nil))))))) (.nil)) (zI.ok x7.zA) h37 (.same rfl rfl) (hbor:=fun _=>⟨fhN,yK⟩)) (yQ 4 [(105,bv (x36==0))] [] h38 (yQ 9 [(110,bv (x32.Code==0))] [] h39 (wT 40 (wU (i:=40) (g:=36) (t:=138) (b:=true) (v:=(.bool false)) (.inl rfl) (by kernel_rfl) (by kernel_rfl)) (wT 41 (wU (i:=41) (g:=40) (t:=142) (b:=false) (v:=undef) (.inr rfl) (by kernel_rfl) (by kernel_rfl)) (wT 42 (wU (i:=42) (g:=40) (t:=142) (b:=false) (v:=undef) (.inr rfl) (by kernel_rfl) (by kernel_rfl)) (wT 43 (wU (i:=43) (g:=40) (t:=142) (b:=false) (v:=undef) (.inr rfl) (by kernel_rfl) (by kernel_rfl)) (wT 44 (wU (i:=44) (g:=40) (t:=142) (b:=false) (v:=undef) (.inr rfl) (by kernel_rfl) (by kernel_rfl)) (wT 45 (wU (i:=45) (g:=44) (t:=146) (b:=true) (v:=undef) (.inr rfl) (by kernel_rfl) (by kernel_rfl)) (wT 46 (wU (i:=46) (g:=44) (t:=146) (b:=true) (v:=undef) (.inr rfl) (by kernel_rfl) (by kernel_rfl)) (wT 47 (wU (i:=47) (g:=44) (t:=146) (b:=true) (v:=undef) (.inr rfl) (by kernel_rfl) (by kernel_rfl)) (wT 48 (wU (i:=48) (g:=44) (t:=146) (b:=true) (v:=undef) (.inr rfl) (by kernel_rfl) (by kernel_rfl)) (wT 49 (wU (i:=49) (g:=44) (t:=146) (b:=true) (v:=undef) (.inr rfl) (by kernel_rfl) (by kernel_rfl)) (wT 50 (wU (i:=50) (g:=44) (t:=146) (b:=true) (v:=undef) (.inr rfl) (by kernel_rfl) (by kernel_rfl)) (wT 51 (wU (i:=51) (g:=40) (t:=142) (b:=false) (v:=undef) (.inr rfl) (by kernel_rfl) (by kernel_rfl)) zC))))))))))))))) ?_
       exact xI rfl
     ·refine J_g 1022 [] [(2,bv false)] [] (zP 2 (wH («as»:=[.ag [rr 3 x7.zA.Files,iv x7.zA.Budget,iv x7.zA.Writes,iv x7.zA.Stop,bv x7.zA.Down]]) [(.tmp 103)] [26] true [(3,rE 2 (File.enc true) x7.zA.Files)] [] (.cons (.ag (.cons (jP (.head _) (File.ro true) rfl) (.cons (.same rfl) (.cons (.same rfl) (.cons (.same rfl) (.cons (.same rfl) (.nil))))))) (.nil)) (zI.ok x7.zA) h37 (.same rfl rfl) (hbor:=fun _=>⟨fhN,yK⟩)) (yQ 4 [(105,bv (x36==0))] [] h38 (wT 40 (wU (i:=40) (g:=36) (t:=138) (b:=true) (v:=(.bool false)) (.inl rfl) (by kernel_rfl) (by kernel_rfl)) (wT 41 (wU (i:=41) (g:=40) (t:=142) (b:=false) (v:=undef) (.inr rfl) (by kernel_rfl) (by kernel_rfl)) (wT 42 (wU (i:=42) (g:=40) (t:=142) (b:=false) (v:=undef) (.inr rfl) (by kernel_rfl) (by kernel_rfl)) (wT 43 (wU (i:=43) (g:=40) (t:=142) (b:=false) (v:=undef) (.inr rfl) (by kernel_rfl) (by kernel_rfl)) (wT 44 (wU (i:=44) (g:=40) (t:=142) (b:=false) (v:=undef) (.inr rfl) (by kernel_rfl) (by kernel_rfl)) (wT 45 (wU (i:=45) (g:=44) (t:=146) (b:=true) (v:=undef) (.inr rfl) (by kernel_rfl) (by kernel_rfl)) (wT 46 (wU (i:=46) (g:=44) (t:=146) (b:=true) (v:=undef) (.inr rfl) (by kernel_rfl) (by kernel_rfl)) (wT 47 (wU (i:=47) (g:=44) (t:=146) (b:=true) (v:=undef) (.inr rfl) (by kernel_rfl) (by kernel_rfl)) (wT 48 (wU (i:=48) (g:=44) (t:=146) (b:=true) (v:=undef) (.inr rfl) (by kernel_rfl) (by kernel_rfl)) (wT 49 (wU (i:=49) (g:=44) (t:=146) (b:=true) (v:=undef) (.inr rfl) (by kernel_rfl) (by kernel_rfl)) (wT 50 (wU (i:=50) (g:=44) (t:=146) (b:=true) (v:=undef) (.inr rfl) (by kernel_rfl) (by kernel_rfl)) (wT 51 (wU (i:=51) (g:=40) (t:=142) (b:=false) (v:=undef) (.inr rfl) (by kernel_rfl) (by kernel_rfl)) zC)))))))))))))) ?_
      exact xI rfl
  ·refine xK (fun h9=>?_) (fun h9=>?_)
   ·refine xK (fun h10=>?_) (fun h10=>?_)
    ·refine zB (fun x11 h12=>?_)
     refine J_d 124 [] [36] [(36,bv (x11==0))] [] [] (yQ 3 [(26,bv (x7.Code==9))] [] h9 (yQ 8 [(31,bv (!x5.1.Down))] [] h10 (tH 10 8 32 true (wH («as»:=[.ag [rr 0 x5.1.Files,iv x5.1.Budget,iv x5.1.Writes,iv x5.1.Stop,bv x5.1.Down]]) [(.tmp 33)] [26] true [(0,rE 2 (File.enc false) x5.1.Files)] [] (.cons (.ag (.cons (jP (.head _) (File.ro false) rfl) (.cons (.same rfl) (.cons (.same rfl) (.cons (.same rfl) (.cons (.same rfl) (.nil))))))) (.nil)) (yD.ok x5.1) h12 (.same rfl rfl) (hbor:=fun _=>⟨fhN,yK⟩)) zC))) ?_
     exact xZ (J_j (jv13 (x11==0))) rfl
    ·refine J_d 124 [] [36] [(36,bv false)] [] [] (yQ 3 [(26,bv (x7.Code==9))] [] h9 (yQ 8 [(31,bv (!x5.1.Down))] [] h10 zC)) ?_
     exact xZ (J_j (jv13 false)) rfl
   ·refine J_d 124 [] [36] [(36,bv false)] [] [] (yQ 3 [(26,bv (x7.Code==9))] [] h9 zC) ?_
    exact xZ (J_j (jv13 false)) rfl
end Go.Told

import Derived.Test.YtlagdfkkokgakaaToldDropFile
import Derived.Test.YtlagdfkkokgakaaShelfDropFile
import Derived.Test.YtlagdfkkokgakaaProg
import Derived.Deep.LoopGhost
import Derived.Deep.RegionLaw
import Derived.Laws.Externs
import Derived.Laws.IdiomCopy
import Derived.Laws.NewBlocks
import Derived.Lib.AppendZeros
import Derived.Lib.AppendZerosOnto
import Derived.Lib.JoinLaws
import Derived.Lib.Overlaps
import Derived.Lib.SliceRun
import Derived.Lib.SlicesDelete
import Derived.Lib.Walk
import Derived.Shelf.Lays2
import Derived.Shelf.RegionOpenPlain
import Derived.Shelf.Spec.SlicesInsert
import Derived.Sort.WalkB12
import Derived.WalkKit
set_option linter.unusedVariables false
set_option maxRecDepth 4000
namespace Go.Told
open Go Go.Im Go.Proofs
noncomputable def c57:Code:=(Try.f57.body).getD .skip
theorem wU.ok (a1:(List Int)) (a2:Int):Ok Try.prog 57 [sl 1 eU8 a1,iv a2] [] ((wU a1 a2).map fun r=>(iv r,[])):=by
 refine zO c57 Try.f57 0 12 (fun q=>?_)
 unfold wU
 refine J_g 2 [] [(0,sl 1 eU8 a1),(1,iv a2)] [] zF ?_
 refine J_g 6 [] [(1,iv (w64 (a2-(a1.length:Int))))] [] zF ?_
 refine J_d 28 [] [10] [(10,bv (decide ((w64 (a2-(a1.length:Int)))<0)))] [] [] zF ?_
 refine zN 10 (fun h3=>?_) (fun h3=>?_)
 ·refine J_g 116 [] [(4,iv (-1))] [] zF ?_
  exact yE rfl
 ·refine J_g 30 [] [(4,iv (w64 (a2-(a1.length:Int))))] [] zF ?_
  exact yE rfl
noncomputable def c36:Code:=(Try.f36.body).getD .skip
theorem vW.ok (a1:File) (a2:Int):Ok Try.prog 36 [.ag (File.enc false a1),iv a2] [] ((vW a1 a2).map fun r=>(iv r,[])):=by
 refine zO c36 Try.f36 0 19 (fun q=>?_)
 unfold vW
 refine J_g 2 [(0,0)] [(1,iv a2),(2,pp 0)] [(0,.box (File.enc false a1))] zF ?_
 refine J_g 6 [] [(1,iv (w64 (a2-(a1.Path.size:Int)))),(2,pp 0)] [(0,.box (File.enc false a1))] zF ?_
 refine J_d 28 [] [11] [(11,bv (decide ((w64 (a2-(a1.Path.size:Int)))<0)))] [] [] zF ?_
 refine zN 11 (fun h3=>?_) (fun h3=>?_)
 ·refine J_g 116 [] [(4,iv (-1))] [] zF ?_
  exact yE rfl
 ·refine zG (fun x4 h5=>?_)
  refine J_g 30 [] [(1,iv x4)] [] (zX 3 (uT [(.tmp 13),(.tmp 14)] [38,3] (wU.ok a1.Data (w64 (a2-(a1.Path.size:Int)))) h5) zF) ?_
  refine J_g 124 [] [(1,iv x4),(17,bv (decide (x4<0)))] [] zF ?_
  refine zN 17 (fun h6=>?_) (fun h6=>?_)
  ·refine J_g 500 [] [(4,iv (-1))] [] zF ?_
   exact yE rfl
  ·refine J_g 126 [] [(4,iv x4)] [] zF ?_
   exact yE rfl
noncomputable def c19:Code:=(Try.f19.body).getD .skip
theorem vC.ok (a1:(List File)) (q:Wd) (kn:Int→Option (D×List Ent)) (hk:∀v:Int,J (q.g Try.prog 19 0 27) c19 (atI c19 31) (St.mk' [(1,iv v)] []) (some v) kn):
  ∀s10:(Int×Int),J (q.g Try.prog 19 0 27) c19 (atI c19 244) (St.mk' [(0,sl 2 (File.enc false) a1),(1,iv s10.1),(5,iv s10.2)] []) (vC a1 s10) (Fl.go (fun r:Int=>some (iv r,[])) kn):=by
 refine zAB (fun g ih s10=>?_)
 unfold wK
 refine J_d 976 [] [15] [(15,bv (decide (s10.2< (a1.length:Int))))] [] [] zF ?_
 refine zN 15 (fun h11=>?_) (fun h11=>?_)
 ·refine zG (fun x12 h13=>?_)
  refine zG (fun x14 h15=>?_)
  refine J_g 3912 [] [(0,sl 2 (File.enc false) a1),(1,iv x14),(5,iv s10.2)] [] (zX 2 (zAm (kk:=.i64) 22 61 2 (File.enc false) (.tmp 18) (.tmp 19) h13) (zX 5 (uT [(.tmp 21),(.tmp 22)] [61,3] (vW.ok x12 s10.1) h15) zF)) ?_
  refine J_d 7826 [] [25] [(25,bv (decide (x14<0)))] [] [] zF ?_
  refine zN 25 (fun h16=>?_) (fun h16=>?_)
  ·refine J_g 31308 [] [(4,iv (-1))] [] zF ?_
   exact yE rfl
  ·refine J_d 979 [] [5,25] [(5,iv (w64 (s10.2+1)))] [] [] zF ?_
   exact J_q (J_b (ih (x14,w64 (s10.2+1)))) rfl
 ·exact uP (hk s10.1) rfl
theorem wY.ok (a1:(List File)) (a2:Int):Ok Try.prog 19 [sl 2 (File.enc false) a1,iv a2] [] ((wY a1 a2).map fun r=>(iv r,[])):=by
 refine zO c19 Try.f19 0 27 (fun q=>?_)
 unfold wY
 refine J_g 2 [] [(0,sl 2 (File.enc false) a1),(1,iv a2)] [] zF ?_
 refine J_g 6 [] [(0,sl 2 (File.enc false) a1),(1,iv (w64 (a2-(a1.length:Int))))] [] zF ?_
 refine J_d 28 [] [11] [(11,bv (decide ((w64 (a2-(a1.length:Int)))<0)))] [] [] zF ?_
 refine zN 11 (fun h3=>?_) (fun h3=>?_)
 ·refine J_g 116 [] [(4,iv (-1))] [] zF ?_
  exact yE rfl
 ·refine J_d 60 [] [5,11] [(5,iv 0)] [] [] zF ?_
  refine zA0 (K0:=(fun r:Int=>some (iv r,[]))) (fun _=>rfl) (vC.ok a1 q _ (fun v17=>J_j ?_) (w64 (a2-(a1.length:Int)),0))
  refine J_g 62 [] [(4,iv v17)] [] zF ?_
  exact yE rfl
noncomputable def c5:Code:=(Try.f5.body).getD .skip
theorem uD.ok (a1:zA) (a2:Int):Ok Try.prog 5 [.ag (zA.enc false a1),iv a2] [] ((uD a1 a2).map fun r=>(iv r,[])):=by
 refine zO c5 Try.f5 0 12 (fun q=>?_)
 unfold uD
 refine J_g 2 [(0,0)] [(1,iv a2),(2,pp 0)] [(0,.box (zA.enc false a1))] zF ?_
 refine zG (fun x3 h4=>?_)
 refine J_g 6 [] [(1,iv x3)] [] (zX 3 (uT [(.tmp 6),(.tmp 7)] [22,3] (wY.ok a1.Files a2) h4) zF) ?_
 refine J_g 28 [] [(1,iv x3),(10,bv (decide (x3<0)))] [] zF ?_
 refine zN 10 (fun h5=>?_) (fun h5=>?_)
 ·refine J_g 116 [] [(4,iv (-1))] [] zF ?_
  exact yE rfl
 ·refine J_g 30 [] [(4,iv x3)] [] zF ?_
  exact yE rfl
noncomputable def c15:Code:=(Try.f15.body).getD .skip
theorem wT.ok (a1:(List Int)) (q:Wd) (kn:(List Int)→Option (D×List Ent)) (hk:∀v:(List Int),J (q.g Try.prog 15 0 22) c15 (atI c15 15) (St.mk' [(3,rr 0 v)] [(0,rE 1 eU8 v)]) (some v) kn):
  ∀s9:((List Int)×Int),J (q.g Try.prog 15 0 22) c15 (atI c15 116) (St.mk' [(0,sl 1 eU8 a1),(3,rr 0 s9.1),(4,iv s9.2)] [(0,rE 1 eU8 s9.1)]) (wT a1 s9) kn:=by
 refine zAB (fun g ih s9=>?_)
 unfold vS
 refine J_d 464 [] [11] [(11,bv (decide (s9.2< (a1.length:Int))))] [] [] zF ?_
 refine zN 11 (fun h10=>?_) (fun h10=>?_)
 ·refine zG (fun x11 h12=>?_)
  refine zG (fun x13 h14=>?_)
  refine J_g 932 [] [(0,sl 1 eU8 a1),(3,rr 0 s9.1),(4,iv s9.2)] [(0,rE 1 eU8 (s9.1.set s9.2.toNat x11))] (zX 4 (zAm (kk:=.i64) 38 5 1 eU8 (.tmp 16) (.tmp 17) h12) (zX 6 (zCC (kk:=.i64) 38 5 1 0 eU8 (.tmp 14) (.tmp 15) h14) (zEY 7 (zFk (b:=x11) 5 1 0 0 eU8 (uv x11) (.tmp 20) (.tmp 19) h14 rfl) zF))) ?_
  refine zE2 (σ':=St.mk' [(0,sl 1 eU8 a1),(3,rr 0 (s9.1.set s9.2.toNat x11)),(4,iv s9.2)] [(0,rE 1 eU8 (s9.1.set s9.2.toNat x11))]) (by simp only [rr,List.length_set]) ?_
  refine J_d 467 [] [4] [(4,iv (w64 (s9.2+1)))] [] [] zF ?_
  exact J_q (J_b (ih (s9.1.set s9.2.toNat x11,w64 (s9.2+1)))) rfl
 ·exact uP (hk s9.1) rfl
theorem vG.ok (a1:(List Int)):Ok Try.prog 15 [sl 1 eU8 a1] [] ((vG a1).map fun r=>(so 1 eU8 r,[])):=by
 refine zO c15 Try.f15 0 22 (fun q=>?_)
 unfold vG
 refine J_g 2 [] [(0,sl 1 eU8 a1)] [] zF ?_
 refine zG (fun x2 h3=>?_)
 refine J_g 6 [] [(0,sl 1 eU8 a1),(3,rr 0 x2)] [(0,rE 1 eU8 x2)] (zX 2 (zF4 38 5 1 1 0 eU8 0 (.tmp 6) h3 (.keep rfl (.nil))) zF) ?_
 refine J_d 28 [] [4] [(4,iv 0)] [] [] zF ?_
 refine zDo (wT.ok a1 q _ (fun v15=>J_j ?_) (x2,0))
 refine J_g 30 [] [(2,rr 0 v15)] [(0,rE 1 eU8 v15)] zF ?_
 exact zAI (ds:=[rr 0 v15]) (ds':=[so 1 eU8 v15]) (.cons (.cell (.move (.head _) (List.length_map _) (by decide) (.nil))) (.nil) (by decide)) rfl
noncomputable def c39:Code:=(Try.f39.body).getD .skip
theorem uE.ok (a1:File):Ok Try.prog 39 [.ag (File.enc false a1)] [] ((uE a1).map fun r=>(.ag [sv r.Path,so 1 eU8 r.Data],[])):=by
 refine zO c39 Try.f39 0 12 (fun q=>?_)
 unfold uE
 refine J_g 2 [(0,0),(1,1)] [(1,pp 0),(2,pp 1)] [(0,.box (File.enc false a1)),(1,.box [sv ByteArray.empty,nv])] zF ?_
 refine J_g 6 [(0,2)] [(1,pp 0),(2,pp 1),(3,pp 2)] [(0,.box (File.enc false a1)),(1,.box [sv ByteArray.empty,nv]),(2,.box [sv ByteArray.empty,nv])] zF ?_
 refine J_d 14 [] [] [] [2] [(2,.box [sv a1.Path,nv])] zF ?_
 refine zG (fun x2 h3=>?_)
 refine J_g 30 [] [(2,pp 1),(3,pp 2)] [(1,.box [sv ByteArray.empty,nv]),(2,.box [sv a1.Path,rr 3 x2]),(3,rE 1 eU8 x2)] (zX 2 (tT («as»:=[sl 1 eU8 a1.Data]) [(.tmp 8)] [38] false [] [] (.cons (.same rfl) (.nil)) (vG.ok a1.Data) h3 (.own 3)) zF) ?_
 refine J_g 62 [] [(2,pp 1)] [(1,.box [sv a1.Path,rr 3 x2]),(3,rE 1 eU8 x2)] zF ?_
 exact zAI (ds:=[.ag [sv a1.Path,rr 3 x2]]) (ds':=[.ag [sv a1.Path,so 1 eU8 x2]]) (.cons (.ag (.keep rfl (.move (.tail _ (.head _)) (List.length_map _) (by decide) (.nil)))) (.nil) (by decide)) rfl
noncomputable def c24:Code:=(Try.f24.body).getD .skip
theorem vH.ok (a1:(List File)) (q:Wd) (kn:(List File)→Option (D×List Ent)) (hk:∀v:(List File),J (q.g Try.prog 24 0 23) c24 (atI c24 15) (St.mk' [(3,rr 0 v)] [(0,rE 2 (File.enc true) v)]) (some v) kn):
  ∀s11:((List File)×Int),J (q.g Try.prog 24 0 23) c24 (atI c24 116) (St.mk' [(0,sl 2 (File.enc false) a1),(3,rr 0 s11.1),(4,iv s11.2)] [(0,rE 2 (File.enc true) s11.1)]) (vH a1 s11) kn:=by
 refine zAB (fun g ih s11=>?_)
 unfold vR
 refine J_d 464 [] [11] [(11,bv (decide (s11.2< (a1.length:Int))))] [] [] zF ?_
 refine zN 11 (fun h12=>?_) (fun h12=>?_)
 ·refine zG (fun x13 h14=>?_)
  refine zG (fun x15 h16=>?_)
  refine zG (fun x17 h18=>?_)
  refine J_g 932 [] [(0,sl 2 (File.enc false) a1),(3,rr 0 s11.1),(4,iv s11.2)] [(0,rE 2 (File.enc true) (s11.1.set s11.2.toNat x15))] (zX 4 (zAm (kk:=.i64) 22 61 2 (File.enc false) (.tmp 16) (.tmp 17) h14) (zX 6 (tT («as»:=[.ag (File.enc false x13)]) [(.tmp 19)] [61] false [] [] (.cons (.same rfl) (.nil)) (uE.ok x13) h16 (.ag (.cons (.same rfl rfl) (.cons (.own 1) (.nil))))) (zX 7 (zCC (kk:=.i64) 26 62 2 0 (File.enc true) (.tmp 14) (.tmp 15) h18) (zEY 8 (zFl (b:=x15) (es':=[sv x15.Path,so 1 eU8 x15.Data]) (ts:=[1]) 62 2 0 0 (File.enc true) (.ag [sv x15.Path,rr 1 x15.Data]) (.tmp 21) (.tmp 20) [(1,rE 1 eU8 x15.Data)] h18 (.keep rfl (.move (.head _) (List.length_map _) (by decide) (.nil))) rfl) zF)))) ?_
  refine zE2 (σ':=St.mk' [(0,sl 2 (File.enc false) a1),(3,rr 0 (s11.1.set s11.2.toNat x15)),(4,iv s11.2)] [(0,rE 2 (File.enc true) (s11.1.set s11.2.toNat x15))]) (by simp only [rr,List.length_set]) ?_
  refine J_d 467 [] [4] [(4,iv (w64 (s11.2+1)))] [] [] zF ?_
  exact J_q (J_b (ih (s11.1.set s11.2.toNat x15,w64 (s11.2+1)))) rfl
 ·exact uP (hk s11.1) rfl
theorem wR.ok (a1:(List File)):Ok Try.prog 24 [sl 2 (File.enc false) a1] [] ((wR a1).map fun r=>(so 2 (File.enc true) r,[])):=by
 refine zO c24 Try.f24 0 23 (fun q=>?_)
 unfold wR
 refine J_d 2 [] [] [] [] [] zF ?_
 refine zG (fun x2 h3=>?_)
 refine J_g 6 [] [(0,sl 2 (File.enc false) a1),(3,rr 0 x2)] [(0,rE 2 (File.enc true) x2)] (zX 2 (zF4 26 62 2 40 0 (File.enc true) ({Path:=ByteArray.empty,Data:=([]:List Int)}:File) (.tmp 6) h3 (.keep rfl (.nilsl true 1 (.nil)))) zF) ?_
 refine J_d 28 [] [4] [(4,iv 0)] [] [] zF ?_
 refine zDo (vH.ok a1 q _ (fun v19=>J_j ?_) (x2,0))
 refine J_g 30 [] [(2,rr 0 v19)] [(0,rE 2 (File.enc true) v19)] zF ?_
 exact zAI (ds:=[rr 0 v19]) (ds':=[so 2 (File.enc true) v19]) (.cons (.cell (.move (.head _) (List.length_map _) (by decide) (.nil))) (.nil) (by decide)) rfl
noncomputable def c7:Code:=(Try.f7.body).getD .skip
theorem yL.ok (a1:zA):Ok Try.prog 7 [.ag (zA.enc false a1)] [] ((yL a1).map fun r=>(.ag (zA.enc true r),[])):=by
 refine zO c7 Try.f7 0 21 (fun q=>?_)
 unfold yL
 refine J_g 2 [(0,0),(1,1)] [(1,pp 0),(2,pp 1)] [(0,.box (zA.enc false a1)),(1,.box [nv,iv 0,iv 0,iv 0,bv false])] zF ?_
 refine J_d 6 [(0,2)] [3] [(3,pp 2)] [2] [(2,.box [nv,iv 0,iv 0,iv 0,bv false])] zF ?_
 refine zG (fun x2 h3=>?_)
 refine J_g 14 [] [(1,pp 0),(2,pp 1),(3,pp 2)] [(0,.box (zA.enc false a1)),(1,.box [nv,iv 0,iv 0,iv 0,bv false]),(2,.box [rr 3 x2,iv 0,iv 0,iv 0,bv false]),(3,rE 2 (File.enc true) x2)] (zX 2 (tT («as»:=[sl 2 (File.enc false) a1.Files]) [(.tmp 5)] [22] false [] [] (.cons (.same rfl) (.nil)) (wR.ok a1.Files) h3 (.own 3)) zF) ?_
 refine J_g 30 [] [(1,pp 0),(2,pp 1),(3,pp 2)] [(0,.box (zA.enc false a1)),(1,.box [nv,iv 0,iv 0,iv 0,bv false]),(2,.box [rr 3 x2,iv a1.Budget,iv 0,iv 0,bv false]),(3,rE 2 (File.enc true) x2)] zF ?_
 refine J_g 62 [] [(1,pp 0),(2,pp 1),(3,pp 2)] [(0,.box (zA.enc false a1)),(1,.box [nv,iv 0,iv 0,iv 0,bv false]),(2,.box [rr 3 x2,iv a1.Budget,iv a1.Writes,iv 0,bv false]),(3,rE 2 (File.enc true) x2)] zF ?_
 refine J_g 126 [] [(1,pp 0),(2,pp 1),(3,pp 2)] [(0,.box (zA.enc false a1)),(1,.box [nv,iv 0,iv 0,iv 0,bv false]),(2,.box [rr 3 x2,iv a1.Budget,iv a1.Writes,iv a1.Stop,bv false]),(3,rE 2 (File.enc true) x2)] zF ?_
 refine J_g 254 [] [(2,pp 1),(3,pp 2)] [(1,.box [nv,iv 0,iv 0,iv 0,bv false]),(2,.box [rr 3 x2,iv a1.Budget,iv a1.Writes,iv a1.Stop,bv a1.Down]),(3,rE 2 (File.enc true) x2)] zF ?_
 refine J_g 510 [] [(2,pp 1)] [(1,.box [rr 3 x2,iv a1.Budget,iv a1.Writes,iv a1.Stop,bv a1.Down]),(3,rE 2 (File.enc true) x2)] zF ?_
 exact zAI (ds:=[.ag [rr 3 x2,iv a1.Budget,iv a1.Writes,iv a1.Stop,bv a1.Down]]) (ds':=[.ag [so 2 (File.enc true) x2,iv a1.Budget,iv a1.Writes,iv a1.Stop,bv a1.Down]]) (.cons (.ag (.move (.tail _ (.head _)) (List.length_map _) (by decide) (.keep rfl (.keep rfl (.keep rfl (.keep rfl (.nil))))))) (.nil) (by decide)) rfl
noncomputable def c58:Code:=(Try.f58.body).getD .skip
theorem xK.ok (a1:Int) (a2:Int) (a3:Int):Ok Try.prog 58 [iv a1,iv a2,iv a3] [] ((xK a1 a2 a3).map fun r=>(bv r,[])):=by
 refine zO c58 Try.f58 0 15 (fun q=>?_)
 unfold xK
 refine J_d 2 [] [] [] [] [] zF ?_
 refine vO (fun h4=>?_) (fun h4=>?_)
 ·refine J_g 6 [] [(6,bv (decide (a1≤a3)))] [] (wJ 3 [(9,bv (decide (a1≥a2)))] [] h4 zF) ?_
  exact yE rfl
 ·refine J_g 6 [] [(6,bv false)] [] (wJ 3 [(9,bv (decide (a1≥a2)))] [] h4 zF) ?_
  exact yE rfl
noncomputable def c69:Code:=(Try.f69.body).getD .skip
theorem xM.ok (a1:Int):Ok Try.prog 69 [uv a1] [] ((xM a1).map fun r=>(bv r,[])):=by
 refine zO c69 Try.f69 0 9 (fun q=>?_)
 unfold xM
 refine J_g 2 [] [(0,uv a1)] [] zF ?_
 refine vO (fun h2=>?_) (fun h2=>?_)
 ·refine J_g 6 [] [(2,bv (decide (a1≤122)))] [] (wJ 2 [(4,bv (decide (a1≥97)))] [] h2 zF) ?_
  exact yE rfl
 ·refine J_g 6 [] [(2,bv false)] [] (wJ 2 [(4,bv (decide (a1≥97)))] [] h2 zF) ?_
  exact yE rfl
noncomputable def c70:Code:=(Try.f70.body).getD .skip
theorem wX.ok (a1:Int):Ok Try.prog 70 [uv a1] [] ((wX a1).map fun r=>(bv r,[])):=by
 refine zO c70 Try.f70 0 9 (fun q=>?_)
 unfold wX
 refine J_g 2 [] [(0,uv a1)] [] zF ?_
 refine vO (fun h2=>?_) (fun h2=>?_)
 ·refine J_g 6 [] [(2,bv (decide (a1≤57)))] [] (wJ 2 [(4,bv (decide (a1≥48)))] [] h2 zF) ?_
  exact yE rfl
 ·refine J_g 6 [] [(2,bv false)] [] (wJ 2 [(4,bv (decide (a1≥48)))] [] h2 zF) ?_
  exact yE rfl
noncomputable def c65:Code:=(Try.f65.body).getD .skip
theorem xV.ok (a1:Int):Ok Try.prog 65 [uv a1] [] ((xV a1).map fun r=>(bv r,[])):=by
 refine zO c65 Try.f65 0 13 (fun q=>?_)
 unfold xV
 refine J_g 2 [] [(0,uv a1)] [] zF ?_
 refine zG (fun x2 h3=>?_)
 refine vO (fun h4=>?_) (fun h4=>?_)
 ·refine J_g 6 [] [(2,bv true)] [] (zX 1 (uT [(.tmp 3)] [5] (xM.ok a1) h3) (wJ 2 [(4,bv x2)] [] h4 zF)) ?_
  exact yE rfl
 ·refine zG (fun x5 h6=>?_)
  refine vO (fun h7=>?_) (fun h7=>?_)
  ·refine J_g 6 [] [(2,bv true)] [] (zX 1 (uT [(.tmp 3)] [5] (xM.ok a1) h3) (wJ 2 [(4,bv x2)] [] h4 (zBX 4 2 5 false (uT [(.tmp 6)] [5] (wX.ok a1) h6) (wJ 6 [(8,bv x5)] [] h7 zF)))) ?_
   exact yE rfl
  ·refine J_g 6 [] [(2,bv (a1==95))] [] (zX 1 (uT [(.tmp 3)] [5] (xM.ok a1) h3) (wJ 2 [(4,bv x2)] [] h4 (zBX 4 2 5 false (uT [(.tmp 6)] [5] (wX.ok a1) h6) (wJ 6 [(8,bv x5)] [] h7 zF)))) ?_
   exact yE rfl
noncomputable def c50:Code:=(Try.f50.body).getD .skip
theorem vY.ok (a1:Int):Ok Try.prog 50 [uv a1] [] ((vY a1).map fun r=>(bv r,[])):=by
 refine zO c50 Try.f50 0 17 (fun q=>?_)
 unfold vY
 refine J_g 2 [] [(0,uv a1)] [] zF ?_
 refine zG (fun x2 h3=>?_)
 refine vO (fun h4=>?_) (fun h4=>?_)
 ·refine J_g 6 [] [(2,bv true)] [] (zX 1 (uT [(.tmp 3)] [5] (xV.ok a1) h3) (wJ 2 [(4,bv x2)] [] h4 zF)) ?_
  exact yE rfl
 ·refine vO (fun h5=>?_) (fun h5=>?_)
  ·refine J_g 6 [] [(2,bv true)] [] (zX 1 (uT [(.tmp 3)] [5] (xV.ok a1) h3) (wJ 2 [(4,bv x2)] [] h4 (wJ 6 [(8,bv (a1==46))] [] h5 zF))) ?_
   exact yE rfl
  ·refine vO (fun h6=>?_) (fun h6=>?_)
   ·refine J_g 6 [] [(2,bv true)] [] (zX 1 (uT [(.tmp 3)] [5] (xV.ok a1) h3) (wJ 2 [(4,bv x2)] [] h4 (wJ 6 [(8,bv (a1==46))] [] h5 (wJ 10 [(12,bv (a1==45))] [] h6 zF)))) ?_
    exact yE rfl
   ·refine J_g 6 [] [(2,bv (a1==47))] [] (zX 1 (uT [(.tmp 3)] [5] (xV.ok a1) h3) (wJ 2 [(4,bv x2)] [] h4 (wJ 6 [(8,bv (a1==46))] [] h5 (wJ 10 [(12,bv (a1==45))] [] h6 zF)))) ?_
    exact yE rfl
noncomputable def c31:Code:=(Try.f31.body).getD .skip
theorem yJ.ok (a1:ByteArray) (q:Wd) (kn:Unit→Option (D×List Ent)) (hk:∀v:Unit,J (q.g Try.prog 31 0 23) c31 (atI c31 15) (St.mk' [] []) (some v) kn):
  ∀s11:Int,J (q.g Try.prog 31 0 23) c31 (atI c31 116) (St.mk' [(0,sv a1),(3,iv s11)] []) (yJ a1 s11) (Fl.go (fun r:Int=>some (iv r,[])) kn):=by
 refine zAB (fun g ih s11=>?_)
 unfold yR
 refine J_d 464 [] [15] [(15,bv (decide (s11< (a1.size:Int))))] [] [] zF ?_
 refine zN 15 (fun h12=>?_) (fun h12=>?_)
 ·refine zG (fun x13 h14=>?_)
  refine zG (fun x15 h16=>?_)
  refine J_d 1864 [] [15,22] [(22,bv (!x15))] [] [] (zX 2 (zF1 (kk:=.i64) 9 (.tmp 18) (.tmp 19) h14) (zX 3 (uT [(.tmp 20)] [5] (vY.ok x13) h16) zF)) ?_
  refine zN 22 (fun h17=>?_) (fun h17=>?_)
  ·refine J_g 7460 [] [(2,iv 5)] [] zF ?_
   exact yE rfl
  ·refine J_g 467 [] [(0,sv a1),(3,iv (w64 (s11+1)))] [] zF ?_
   exact J_q (J_b (ih (w64 (s11+1)))) rfl
 ·exact uP (hk ()) rfl
theorem zY.ok (a1:ByteArray):Ok Try.prog 31 [sv a1] [] ((zY a1).map fun r=>(iv r,[])):=by
 refine zO c31 Try.f31 0 23 (fun q=>?_)
 unfold zY
 refine J_g 2 [] [(0,sv a1)] [] zF ?_
 refine uW (atI c31 13) (fun v3:Bool=>St.mk' [(0,sv a1),(11,bv v3)] []) (fun v3=>?_) (fun jv3=>?_)
 ·refine zN 11 (fun h4=>?_) (fun h4=>?_)
  ·refine J_g 52 [] [(2,iv 5)] [] zF ?_
   exact yE rfl
  ·refine J_g 28 [] [(0,sv a1),(3,iv 0)] [] zF ?_
   refine zA0 (K0:=(fun r:Int=>some (iv r,[]))) (fun _=>rfl) (yJ.ok a1 q _ (fun v18=>J_j ?_) 0)
   refine J_g 30 [] [(2,iv 0)] [] zF ?_
   exact yE rfl
 ·refine vO (fun h2=>?_) (fun h2=>?_)
  ·refine J_g 12 [] [(0,sv a1),(11,bv true)] [] (wJ 3 [(6,bv (decide ((a1.size:Int)<1)))] [] h2 zF) ?_
   exact uP (J_j (jv3 true)) rfl
  ·refine J_g 12 [] [(0,sv a1),(11,bv (decide ((a1.size:Int)>40)))] [] (wJ 3 [(6,bv (decide ((a1.size:Int)<1)))] [] h2 zF) ?_
   exact uP (J_j (jv3 (decide ((a1.size:Int)>40)))) rfl
noncomputable def c51:Code:=(Try.f51.body).getD .skip
theorem wW.ok (a1:zA) (q:Wd) (kn:Int→Option (D×List Ent)) (hk:∀v:Int,J (q.g Try.prog 51 1 26) c51 (atI c51 15) (St.mk' [(3,iv v)] [(0,.box (zA.enc false a1))]) (some v) kn):
  ∀s5:(Int×Int),J (q.g Try.prog 51 1 26) c51 (atI c51 116) (St.mk' [(0,pp 0),(3,iv s5.1),(4,iv s5.2)] [(0,.box (zA.enc false a1))]) (wW a1 s5) kn:=by
 refine zAB (fun g ih s5=>?_)
 unfold wN
 refine J_d 464 [] [11] [(11,bv (decide (s5.2< (a1.Files.length:Int))))] [] [] zF ?_
 refine zN 11 (fun h6=>?_) (fun h6=>?_)
 ·refine zG (fun x7 h8=>?_)
  refine J_g 932 [] [(0,pp 0),(3,iv (w64 (s5.1+(x7.Data.length:Int)))),(4,iv s5.2)] [(0,.box (zA.enc false a1))] (zX 6 (zAm (kk:=.i64) 26 62 2 (File.enc false) (.tmp 18) (.tmp 19) h8) zF) ?_
  refine J_d 467 [] [4] [(4,iv (w64 (s5.2+1)))] [] [] zF ?_
  exact J_q (J_b (ih (w64 (s5.1+(x7.Data.length:Int)),w64 (s5.2+1)))) rfl
 ·exact uP (hk s5.1) rfl
theorem vE.ok (a1:zA):Ok Try.prog 51 [pp 0] [.box (zA.enc false a1)] ((vE a1).map fun r=>(iv r,[.box (zA.enc false a1)])):=by
 refine zO c51 Try.f51 1 26 (fun q=>?_)
 unfold vE
 refine J_g 2 [] [(0,pp 0)] [(0,.box (zA.enc false a1))] zF ?_
 refine J_g 6 [] [(0,pp 0),(3,iv 0)] [(0,.box (zA.enc false a1))] zF ?_
 refine J_d 28 [] [4] [(4,iv 0)] [] [] zF ?_
 refine zDo (wW.ok a1 q _ (fun v9=>J_j ?_) (0,0))
 refine J_d 30 [] [2,3] [(2,iv v9)] [] [] zF ?_
 exact yE rfl
noncomputable def c37:Code:=(Try.f37.body).getD .skip
theorem yI.ok (a1:zA) (q:Wd) (kn:Unit→Option (D×List Ent)) (hk:∀v:Unit,J (q.g Try.prog 37 0 72) c37 (atI c37 31) (St.mk' [(1,pp 0)] [(0,.box (zA.enc false a1))]) (some v) kn):
  ∀s29:Int,J (q.g Try.prog 37 0 72) c37 (atI c37 244) (St.mk' [(1,pp 0),(3,iv s29)] [(0,.box (zA.enc false a1))]) (yI a1 s29) (Fl.go (fun r:Int=>some (iv r,[])) kn):=by
 refine zAB (fun g ih s29=>?_)
 unfold yS
 refine J_d 976 [] [29] [(29,bv (decide (s29< (a1.Files.length:Int))))] [] [] zF ?_
 refine zN 29 (fun h30=>?_) (fun h30=>?_)
 ·refine zG (fun x31 h32=>?_)
  refine zG (fun x33 h34=>?_)
  refine J_g 7824 [] [(1,pp 0),(3,iv s29),(4,iv x33)] [(0,.box (zA.enc false a1))] (zX 3 (zAm (kk:=.i64) 26 62 2 (File.enc false) (.tmp 33) (.tmp 34) h32) (zX 6 (uT [(.tmp 37)] [9] (zY.ok x31.Path) h34) zF)) ?_
  refine J_d 15650 [] [40] [(40,bv (x33 !=0))] [] [] zF ?_
  refine zN 40 (fun h35=>?_) (fun h35=>?_)
  ·refine J_g 62604 [] [(2,iv x33)] [] zF ?_
   exact yE rfl
  ·refine uW (atI c37 15653) (fun v41:Bool=>St.mk' [(1,pp 0),(3,iv s29),(59,bv v41)] [(0,.box (zA.enc false a1))]) (fun v41=>?_) (fun jv41=>?_)
   ·refine zN 59 (fun h42=>?_) (fun h42=>?_)
    ·refine J_g 62612 [] [(2,iv 1)] [] zF ?_
     exact yE rfl
    ·refine zG (fun x43 h44=>?_)
     refine J_d 15654 [] [59,67] [(67,bv (decide ((x43.Data.length:Int)>4000)))] [] [] (zX 3 (zAm (kk:=.i64) 26 62 2 (File.enc false) (.tmp 61) (.tmp 62) h44) zF) ?_
     refine zN 67 (fun h45=>?_) (fun h45=>?_)
     ·refine J_g 62620 [] [(2,iv 2)] [] zF ?_
      exact yE rfl
     ·refine J_d 979 [] [3,67] [(3,iv (w64 (s29+1)))] [] [] zF ?_
      exact J_q (J_b (ih (w64 (s29+1)))) rfl
   ·refine vO (fun h36=>?_) (fun h36=>?_)
    ·refine zG (fun x37 h38=>?_)
     refine zG (fun x39 h40=>?_)
     refine J_d 15652 [] [4,40,59] [(59,bv (slt x37.Path x39.Path||seq x37.Path x39.Path))] [] [] (wJ 2 [(43,bv (decide (s29>0)))] [] h36 (zBX 6 2 44 true (zAm (kk:=.i64) 26 62 2 (File.enc false) (.tmp 46) (.tmp 47) h38) (zBX 13 2 44 true (zAm (kk:=.i64) 26 62 2 (File.enc false) (.tmp 52) (.tmp 54) h40) zF))) ?_
     exact uP (J_j (jv41 (slt x37.Path x39.Path||seq x37.Path x39.Path))) rfl
    ·refine J_d 15652 [] [4,40,59] [(59,bv false)] [] [] (wJ 2 [(43,bv (decide (s29>0)))] [] h36 zF) ?_
     exact uP (J_j (jv41 false)) rfl
 ·exact uP (hk ()) rfl
theorem yM.ok (a1:zA):Ok Try.prog 37 [.ag (zA.enc false a1)] [] ((yM a1).map fun r=>(iv r,[])):=by
 refine zO c37 Try.f37 0 72 (fun q=>?_)
 unfold yM
 refine J_g 2 [(0,0)] [(1,pp 0)] [(0,.box (zA.enc false a1))] zF ?_
 refine zG (fun x2 h3=>?_)
 refine uW (atI c37 13) (fun v10:Bool=>St.mk' [(1,pp 0),(20,bv v10)] [(0,.box (zA.enc false a1))]) (fun v10=>?_) (fun jv10=>?_)
 ·refine zN 20 (fun h11=>?_) (fun h11=>?_)
  ·refine J_g 52 [] [(2,iv 3)] [] zF ?_
   exact yE rfl
  ·refine J_d 28 [] [20,24] [(24,bv (decide ((a1.Files.length:Int)>120)))] [] [] zF ?_
   refine zN 24 (fun h12=>?_) (fun h12=>?_)
   ·refine J_g 116 [] [(2,iv 2)] [] zF ?_
    exact yE rfl
   ·refine J_d 60 [] [3,24] [(3,iv 0)] [] [] zF ?_
    refine zA0 (K0:=(fun r:Int=>some (iv r,[]))) (fun _=>rfl) (yI.ok a1 q _ (fun v46=>J_j ?_) 0)
    refine zG (fun x47 h48=>?_)
    refine J_g 124 [] [(71,bv (decide (x47>a1.Budget)))] [] (zX 0 (zFd [(0,.box (zA.enc false a1))] [] (tT («as»:=[pp 0]) [(.tmp 1)] [48] false [(0,.box (zA.enc false a1))] [0] (.cons (.pt rfl) (.nil)) (vE.ok a1) h48 (.same rfl rfl))) zF) ?_
    refine zN 71 (fun h49=>?_) (fun h49=>?_)
    ·refine J_g 500 [] [(2,iv 8)] [] zF ?_
     exact yE rfl
    ·refine J_g 126 [] [(2,iv 0)] [] zF ?_
     exact yE rfl
 ·refine vO (fun h4=>?_) (fun h4=>?_)
  ·refine J_d 12 [] [20] [(20,bv true)] [] [] (zX 2 (uT [(.tmp 6),(.const (.int .i64 0)),(.const (.int .i64 20000))] [2,2,2] (xK.ok a1.Budget 0 20000) h3) (wJ 4 [(8,bv (!x2))] [] h4 zF)) ?_
   exact uP (J_j (jv10 true)) rfl
  ·refine zG (fun x5 h6=>?_)
   refine vO (fun h7=>?_) (fun h7=>?_)
   ·refine J_d 12 [] [20] [(20,bv true)] [] [] (zX 2 (uT [(.tmp 6),(.const (.int .i64 0)),(.const (.int .i64 20000))] [2,2,2] (xK.ok a1.Budget 0 20000) h3) (wJ 4 [(8,bv (!x2))] [] h4 (zBX 7 4 9 false (uT [(.tmp 11),(.const (.int .i64 0)),(.const (.int .i64 1000000000))] [2,2,2] (xK.ok a1.Writes 0 1000000000) h6) (wJ 10 [(14,bv (!x5))] [] h7 zF)))) ?_
    exact uP (J_j (jv10 true)) rfl
   ·refine zG (fun x8 h9=>?_)
    refine J_d 12 [] [20] [(20,bv (!x8))] [] [] (zX 2 (uT [(.tmp 6),(.const (.int .i64 0)),(.const (.int .i64 20000))] [2,2,2] (xK.ok a1.Budget 0 20000) h3) (wJ 4 [(8,bv (!x2))] [] h4 (zBX 7 4 9 false (uT [(.tmp 11),(.const (.int .i64 0)),(.const (.int .i64 1000000000))] [2,2,2] (xK.ok a1.Writes 0 1000000000) h6) (wJ 10 [(14,bv (!x5))] [] h7 (zBX 13 10 15 false (uT [(.tmp 17),(.const (.int .i64 (-1))),(.const (.int .i64 1000000000))] [2,2,2] (xK.ok a1.Stop (-1) 1000000000) h9) zF))))) ?_
    exact uP (J_j (jv10 (!x8))) rfl
noncomputable def c20:Code:=(Try.f20.body).getD .skip
theorem uF.ok (a1:zA):Ok Try.prog 20 [.ag (zA.enc false a1)] [] ((uF a1).map fun r=>(iv r,[])):=by
 refine zO c20 Try.f20 0 11 (fun q=>?_)
 unfold uF
 refine J_g 2 [(0,0)] [(1,pp 0)] [(0,.box (zA.enc false a1))] zF ?_
 refine zG (fun x2 h3=>?_)
 refine J_g 12 [] [(1,pp 0),(3,iv x2)] [(0,.box (zA.enc false a1))] (zX 1 (uT [(.tmp 4)] [28] (yM.ok a1) h3) zF) ?_
 refine J_d 26 [] [7] [(7,bv (x2 !=0))] [] [] zF ?_
 refine zN 7 (fun h4=>?_) (fun h4=>?_)
 ·refine J_g 108 [] [(2,iv x2)] [] zF ?_
  exact yE rfl
 ·refine J_g 28 [] [(10,bv a1.Down)] [] zF ?_
  refine zN 10 (fun h5=>?_) (fun h5=>?_)
  ·refine J_g 116 [] [(2,iv 9)] [] zF ?_
   exact yE rfl
  ·refine J_g 30 [] [(2,iv 0)] [] zF ?_
   exact yE rfl
noncomputable def c21:Code:=(Try.f21.body).getD .skip
theorem xS.ok (a1:zA) (q:Wd) (kn:(List File)→Option (D×List Ent)) (hk:∀v:(List File),J (q.g Try.prog 21 0 35) c21 (atI c21 31) (St.mk' [(2,pp 1),(3,pp 2)] [(1,.box [nv,iv 0,iv 0,iv 0,bv false]),(2,.box [rr 3 v,iv a1.Budget,iv a1.Writes,iv a1.Stop,bv a1.Down]),(3,rE 2 (File.enc true) v)]) (some v) kn):
  ∀s20:((List File)×Int),J (q.g Try.prog 21 0 35) c21 (atI c21 244) (St.mk' [(1,pp 0),(2,pp 1),(3,pp 2),(4,iv s20.2)] [(0,.box (zA.enc false a1)),(1,.box [nv,iv 0,iv 0,iv 0,bv false]),(2,.box [rr 3 s20.1,iv a1.Budget,iv a1.Writes,iv a1.Stop,bv a1.Down]),(3,rE 2 (File.enc true) s20.1)]) (xS a1 s20) kn:=by
 refine zAB (fun g ih s20=>?_)
 unfold wB
 refine J_d 976 [] [11] [(11,bv (decide (s20.2< (a1.Files.length:Int))))] [] [] zF ?_
 refine zN 11 (fun h21=>?_) (fun h21=>?_)
 ·refine zG (fun x22 h23=>?_)
  refine zG (fun x24 h25=>?_)
  refine zG (fun x26 h27=>?_)
  refine zG (fun x28 h29=>?_)
  refine J_g 1956 [] [(1,pp 0),(2,pp 1),(3,pp 2),(4,iv s20.2)] [(0,.box (zA.enc false a1)),(1,.box [nv,iv 0,iv 0,iv 0,bv false]),(2,.box [rr 7 x28,iv a1.Budget,iv a1.Writes,iv a1.Stop,bv a1.Down]),(7,rE 2 (File.enc true) x28)] (zX 5 (zAm (kk:=.i64) 26 62 2 (File.enc false) (.tmp 17) (.tmp 18) h23) (zX 8 (zEZ 38 5 1 4 eU8 ([]:List Int) [] [] []) (zX 12 (zAm (kk:=.i64) 26 62 2 (File.enc false) (.tmp 24) (.tmp 25) h25) (zX 15 (zEL 38 38 5 5 1 1 5 4 eU8 (.tmp 22) (.tmp 28) h27) (zX 17 (zFz (ds:=[sv x22.Path,rr 5 x26]) (ts:=[5]) 26 62 2 6 (File.enc true) [({Path:=x22.Path,Data:=x26}:File)] [0] [(.tmp 30)] [.ag [sv x22.Path,rr 5 x26]] [(5,rE 1 eU8 x26)] (.keep rfl (.move (.head _) (List.length_map _) (by decide) (.nil)))) (zX 18 (zF2 26 26 62 62 2 40 7 3 6 (File.enc true) (.tmp 15) (.tmp 31) h29) zF)))))) ?_
  refine J_d 979 [] [4] [(4,iv (w64 (s20.2+1)))] [] [] zF ?_
  refine zEM 7 3 (Nat.le_of_ble_eq_true rfl) (Nat.le_of_ble_eq_true rfl) ?_
  exact J_q (J_b (ih (x28,w64 (s20.2+1)))) rfl
 ·exact uP (hk s20.1) rfl
theorem wH.ok (a1:zA):Ok Try.prog 21 [.ag (zA.enc false a1)] [] ((wH a1).map fun r=>(.ag (zA.enc true r),[])):=by
 refine zO c21 Try.f21 0 35 (fun q=>?_)
 unfold wH
 refine J_g 2 [(0,0),(1,1)] [(1,pp 0),(2,pp 1)] [(0,.box (zA.enc false a1)),(1,.box [nv,iv 0,iv 0,iv 0,bv false])] zF ?_
 refine J_g 6 [(1,2)] [(1,pp 0),(2,pp 1),(3,pp 2)] [(0,.box (zA.enc false a1)),(1,.box [nv,iv 0,iv 0,iv 0,bv false]),(2,.box (zA.enc false a1))] zF ?_
 refine J_g 14 [] [(1,pp 0),(2,pp 1),(3,pp 2)] [(0,.box (zA.enc false a1)),(1,.box [nv,iv 0,iv 0,iv 0,bv false]),(2,.box [nv,iv a1.Budget,iv a1.Writes,iv a1.Stop,bv a1.Down])] zF ?_
 refine J_d 60 [] [4] [(4,iv 0)] [] [] zF ?_
 refine zDM 2 0 3 2 rfl rfl (Nat.le_of_ble_eq_true rfl) (by kernel_rfl) ?_
 refine zDo (xS.ok a1 q _ (fun v30=>J_j ?_) (([]:List File),0))
 refine J_g 62 [] [(2,pp 1)] [(1,.box [rr 3 v30,iv a1.Budget,iv a1.Writes,iv a1.Stop,bv a1.Down]),(3,rE 2 (File.enc true) v30)] zF ?_
 exact zAI (ds:=[.ag [rr 3 v30,iv a1.Budget,iv a1.Writes,iv a1.Stop,bv a1.Down]]) (ds':=[.ag [so 2 (File.enc true) v30,iv a1.Budget,iv a1.Writes,iv a1.Stop,bv a1.Down]]) (.cons (.ag (.move (.tail _ (.head _)) (List.length_map _) (by decide) (.keep rfl (.keep rfl (.keep rfl (.keep rfl (.nil))))))) (.nil) (by decide)) rfl
noncomputable def c22:Code:=(Try.f22.body).getD .skip
theorem zAg.ok (a1:zA) (a2:ByteArray) (q:Wd) (kn:Unit→Option (D×List Ent)) (hk:∀v:Unit,J (q.g Try.prog 22 1 26) c22 (atI c22 7) (St.mk' [] [(0,.box [rr 1 a1.Files,iv a1.Budget,iv a1.Writes,iv a1.Stop,bv a1.Down]),(1,rE 2 (File.enc true) a1.Files)]) (some v) kn):
  ∀s7:Int,J (q.g Try.prog 22 1 26) c22 (atI c22 52) (St.mk' [(0,pp 0),(1,sv a2),(5,iv s7)] [(0,.box [rr 1 a1.Files,iv a1.Budget,iv a1.Writes,iv a1.Stop,bv a1.Down]),(1,rE 2 (File.enc true) a1.Files)]) (uZ a1 a2 s7) (Fl.go (fun r:Int=>some (iv r,[.box (zA.enc true a1)])) kn):=by
 refine zAB (fun g ih s7=>?_)
 unfold vD
 refine J_d 208 [] [12] [(12,bv (decide (s7< (a1.Files.length:Int))))] [] [] zF ?_
 refine zN 12 (fun h8=>?_) (fun h8=>?_)
 ·refine zG (fun x9 h10=>?_)
  refine J_d 840 [] [12,24] [(24,bv (seq x9.Path a2))] [] [] (zX 5 (zCC (kk:=.i64) 26 62 2 1 (File.enc true) (.tmp 18) (.tmp 19) h10) (zX 7 (zFt (d:=sv x9.Path) 9 2 1 0 (File.enc true) (.tmp 21) h10 (by kernel_rfl)) zF)) ?_
  refine zN 24 (fun h11=>?_) (fun h11=>?_)
  ·refine J_g 3364 [] [(4,iv s7)] [(0,.box [rr 1 a1.Files,iv a1.Budget,iv a1.Writes,iv a1.Stop,bv a1.Down]),(1,rE 2 (File.enc true) a1.Files)] zF ?_
   refine vQ 0 (cs':=[so 2 (File.enc true) a1.Files,iv a1.Budget,iv a1.Writes,iv a1.Stop,bv a1.Down]) (ts:=[1]) rfl (.move (.head _) (List.length_map _) (by decide) (.keep rfl (.keep rfl (.keep rfl (.keep rfl (.nil)))))) ?_
   refine tC [(4,iv s7)] [(0,.box (zA.enc true a1))] (by kernel_rfl) ?_
   exact yE rfl
  ·refine J_d 211 [] [5,24] [(5,iv (w64 (s7+1)))] [] [] zF ?_
   exact J_q (J_b (ih (w64 (s7+1)))) rfl
 ·exact uP (hk ()) rfl
theorem kP.ok (a1:zA) (a2:ByteArray):Ok Try.prog 22 [pp 0,sv a2] [.box (zA.enc true a1)] ((xB a1 a2).map fun r=>(iv r,[.box (zA.enc true a1)])):=by
 refine zO c22 Try.f22 1 26 (fun q=>?_)
 unfold xB
 refine wF 0 (cs':=[rr 1 a1.Files,iv a1.Budget,iv a1.Writes,iv a1.Stop,bv a1.Down]) (es:=[(1,rE 2 (File.enc true) a1.Files)]) rfl (.cons (.own 1) (.cons (.same rfl rfl) (.cons (.same rfl rfl) (.cons (.same rfl rfl) (.cons (.same rfl rfl) (.nil)))))) rfl (by kernel_rfl) (by kernel_rfl) ?_
 refine tC [(0,pp 0),(1,sv a2)] [(0,.box [rr 1 a1.Files,iv a1.Budget,iv a1.Writes,iv a1.Stop,bv a1.Down]),(1,rE 2 (File.enc true) a1.Files)] (by kernel_rfl) ?_
 refine J_g 2 [] [(0,pp 0),(1,sv a2)] [(0,.box [rr 1 a1.Files,iv a1.Budget,iv a1.Writes,iv a1.Stop,bv a1.Down]),(1,rE 2 (File.enc true) a1.Files)] zF ?_
 refine J_d 12 [] [5] [(5,iv 0)] [] [] zF ?_
 refine zA0 (K0:=(fun r:Int=>some (iv r,[.box (zA.enc true a1)]))) (fun _=>rfl) (zAg.ok a1 a2 q _ (fun v12=>J_j ?_) 0)
 refine J_g 14 [] [(4,iv (-1))] [(0,.box [rr 1 a1.Files,iv a1.Budget,iv a1.Writes,iv a1.Stop,bv a1.Down]),(1,rE 2 (File.enc true) a1.Files)] zF ?_
 refine vQ 0 (cs':=[so 2 (File.enc true) a1.Files,iv a1.Budget,iv a1.Writes,iv a1.Stop,bv a1.Down]) (ts:=[1]) rfl (.move (.head _) (List.length_map _) (by decide) (.keep rfl (.keep rfl (.keep rfl (.keep rfl (.nil)))))) ?_
 refine tC [(4,iv (-1))] [(0,.box (zA.enc true a1))] (by kernel_rfl) ?_
 exact yE rfl
noncomputable def c38:Code:=(Try.f38.body).getD .skip
theorem vZ.ok (a1:zA):Ok Try.prog 38 [pp 0] [.box (zA.enc true a1)] ((vZ a1).map fun r=>(bv r.1,[.box (zA.enc true r.2)])):=by
 refine zO c38 Try.f38 1 34 (fun q=>?_)
 unfold vZ
 refine wF 0 (cs':=[rr 1 a1.Files,iv a1.Budget,iv a1.Writes,iv a1.Stop,bv a1.Down]) (es:=[(1,rE 2 (File.enc true) a1.Files)]) rfl (.cons (.own 1) (.cons (.same rfl rfl) (.cons (.same rfl rfl) (.cons (.same rfl rfl) (.cons (.same rfl rfl) (.nil)))))) rfl (by kernel_rfl) (by kernel_rfl) ?_
 refine tC [(0,pp 0)] [(0,.box [rr 1 a1.Files,iv a1.Budget,iv a1.Writes,iv a1.Stop,bv a1.Down]),(1,rE 2 (File.enc true) a1.Files)] (by kernel_rfl) ?_
 refine J_g 2 [] [(0,pp 0)] [(0,.box [rr 1 a1.Files,iv a1.Budget,iv a1.Writes,iv a1.Stop,bv a1.Down]),(1,rE 2 (File.enc true) a1.Files)] zF ?_
 refine J_d 12 [] [6] [(6,bv a1.Down)] [] [] zF ?_
 refine zN 6 (fun h2=>?_) (fun h2=>?_)
 ·refine J_g 52 [] [(2,bv false)] [(0,.box [rr 1 a1.Files,iv a1.Budget,iv a1.Writes,iv a1.Stop,bv a1.Down]),(1,rE 2 (File.enc true) a1.Files)] zF ?_
  refine vQ 0 (cs':=[so 2 (File.enc true) a1.Files,iv a1.Budget,iv a1.Writes,iv a1.Stop,bv a1.Down]) (ts:=[1]) rfl (.move (.head _) (List.length_map _) (by decide) (.keep rfl (.keep rfl (.keep rfl (.keep rfl (.nil)))))) ?_
  refine tC [(2,bv false)] [(0,.box (zA.enc true a1))] (by kernel_rfl) ?_
  exact yE rfl
 ·refine uW (atI c38 29) (fun v4:Bool=>St.mk' [(0,pp 0),(22,bv v4)] [(0,.box [rr 1 a1.Files,iv a1.Budget,iv a1.Writes,iv a1.Stop,bv a1.Down]),(1,rE 2 (File.enc true) a1.Files)]) (fun v4=>?_) (fun jv4=>?_)
  ·refine zN 22 (fun h5=>?_) (fun h5=>?_)
   ·refine J_g 116 [] [] [(0,.box [rr 1 a1.Files,iv a1.Budget,iv a1.Writes,iv a1.Stop,bv true]),(1,rE 2 (File.enc true) a1.Files)] zF ?_
    refine J_g 234 [] [(2,bv false)] [(0,.box [rr 1 a1.Files,iv a1.Budget,iv a1.Writes,iv a1.Stop,bv true]),(1,rE 2 (File.enc true) a1.Files)] zF ?_
    refine vQ 0 (cs':=[so 2 (File.enc true) a1.Files,iv a1.Budget,iv a1.Writes,iv a1.Stop,bv true]) (ts:=[1]) rfl (.move (.head _) (List.length_map _) (by decide) (.keep rfl (.keep rfl (.keep rfl (.keep rfl (.nil)))))) ?_
    refine tC [(2,bv false)] [(0,.box [so 2 (File.enc true) a1.Files,iv a1.Budget,iv a1.Writes,iv a1.Stop,bv true])] (by kernel_rfl) ?_
    exact yE rfl
   ·refine J_g 30 [] [] [(0,.box [rr 1 a1.Files,iv a1.Budget,iv (w64 (a1.Writes+1)),iv a1.Stop,bv a1.Down]),(1,rE 2 (File.enc true) a1.Files)] zF ?_
    refine J_g 62 [] [(2,bv true)] [(0,.box [rr 1 a1.Files,iv a1.Budget,iv (w64 (a1.Writes+1)),iv a1.Stop,bv a1.Down]),(1,rE 2 (File.enc true) a1.Files)] zF ?_
    refine vQ 0 (cs':=[so 2 (File.enc true) a1.Files,iv a1.Budget,iv (w64 (a1.Writes+1)),iv a1.Stop,bv a1.Down]) (ts:=[1]) rfl (.move (.head _) (List.length_map _) (by decide) (.keep rfl (.keep rfl (.keep rfl (.keep rfl (.nil)))))) ?_
    refine tC [(2,bv true)] [(0,.box [so 2 (File.enc true) a1.Files,iv a1.Budget,iv (w64 (a1.Writes+1)),iv a1.Stop,bv a1.Down])] (by kernel_rfl) ?_
    exact yE rfl
  ·refine vO (fun h3=>?_) (fun h3=>?_)
   ·refine J_d 28 [] [6,22] [(22,bv (decide (a1.Writes≥a1.Stop)))] [] [] (wJ 5 [(11,bv (a1.Stop !=(-1)))] [] h3 zF) ?_
    exact uP (J_j (jv4 (decide (a1.Writes≥a1.Stop)))) rfl
   ·refine J_d 28 [] [6,22] [(22,bv false)] [] [] (wJ 5 [(11,bv (a1.Stop !=(-1)))] [] h3 zF) ?_
    exact uP (J_j (jv4 false)) rfl
noncomputable def c23:Code:=(Try.f23.body).getD .skip
theorem vI.ok (a1:zA) (a2:ByteArray):Ok Try.prog 23 [pp 0,sv a2] [.box (zA.enc true a1)] ((vI a1 a2).map fun r=>(bv r.1,[.box [so 2 (File.enc false) r.2.Files,iv r.2.Budget,iv r.2.Writes,iv r.2.Stop,bv r.2.Down]])):=by
 refine zO c23 Try.f23 1 31 (fun q=>?_)
 unfold vI
 refine wF 0 (cs':=[rr 1 a1.Files,iv a1.Budget,iv a1.Writes,iv a1.Stop,bv a1.Down]) (es:=[(1,rE 2 (File.enc true) a1.Files)]) rfl (.cons (.own 1) (.cons (.same rfl rfl) (.cons (.same rfl rfl) (.cons (.same rfl rfl) (.cons (.same rfl rfl) (.nil)))))) rfl (by kernel_rfl) (by kernel_rfl) ?_
 refine tC [(0,pp 0),(1,sv a2)] [(0,.box [rr 1 a1.Files,iv a1.Budget,iv a1.Writes,iv a1.Stop,bv a1.Down]),(1,rE 2 (File.enc true) a1.Files)] (by kernel_rfl) ?_
 refine J_g 2 [] [(0,pp 0),(1,sv a2)] [(0,.box [rr 1 a1.Files,iv a1.Budget,iv a1.Writes,iv a1.Stop,bv a1.Down]),(1,rE 2 (File.enc true) a1.Files)] zF ?_
 refine vQ 0 (cs':=[so 2 (File.enc true) a1.Files,iv a1.Budget,iv a1.Writes,iv a1.Stop,bv a1.Down]) (ts:=[1]) rfl (.move (.head _) (List.length_map _) (by decide) (.keep rfl (.keep rfl (.keep rfl (.keep rfl (.nil)))))) ?_
 refine tC [(0,pp 0),(1,sv a2)] [(0,.box (zA.enc true a1))] (by kernel_rfl) ?_
 refine zG (fun x3 h4=>?_)
 refine J_g 12 [] [(0,pp 0),(1,sv a2),(8,bv (!x3.1))] [(0,.box (zA.enc true x3.2))] (zX 1 (tT («as»:=[pp 0]) [(.tmp 6)] [48] false [(0,.box (zA.enc true a1))] [0] (.cons (.pt rfl) (.nil)) (vZ.ok a1) h4 (.same rfl rfl)) zF) ?_
 refine wF 0 (cs':=[rr 1 x3.2.Files,iv x3.2.Budget,iv x3.2.Writes,iv x3.2.Stop,bv x3.2.Down]) (es:=[(1,rE 2 (File.enc true) x3.2.Files)]) rfl (.cons (.own 1) (.cons (.same rfl rfl) (.cons (.same rfl rfl) (.cons (.same rfl rfl) (.cons (.same rfl rfl) (.nil)))))) rfl (by kernel_rfl) (by kernel_rfl) ?_
 refine tC [(0,pp 0),(1,sv a2),(8,bv (!x3.1))] [(0,.box [rr 1 x3.2.Files,iv x3.2.Budget,iv x3.2.Writes,iv x3.2.Stop,bv x3.2.Down]),(1,rE 2 (File.enc true) x3.2.Files)] (by kernel_rfl) ?_
 refine zN 8 (fun h5=>?_) (fun h5=>?_)
 ·refine J_g 52 [] [(4,bv false)] [(0,.box [rr 1 x3.2.Files,iv x3.2.Budget,iv x3.2.Writes,iv x3.2.Stop,bv x3.2.Down]),(1,rE 2 (File.enc true) x3.2.Files)] zF ?_
  refine tC [(4,bv false)] [(1,rE 2 (File.enc true) x3.2.Files),(0,.box [rr 1 x3.2.Files,iv x3.2.Budget,iv x3.2.Writes,iv x3.2.Stop,bv x3.2.Down])] (by kernel_rfl) ?_
  refine zEP 1 (zAo (enc:=(File.enc true)) (enc':=(File.enc false)) (File.ro true) _) ?_
  refine tC [(4,bv false)] [(0,.box [rr 1 x3.2.Files,iv x3.2.Budget,iv x3.2.Writes,iv x3.2.Stop,bv x3.2.Down]),(1,rE 2 (File.enc false) x3.2.Files)] (by kernel_rfl) ?_
  refine vQ 0 (cs':=[so 2 (File.enc false) x3.2.Files,iv x3.2.Budget,iv x3.2.Writes,iv x3.2.Stop,bv x3.2.Down]) (ts:=[1]) rfl (.move (.head _) (List.length_map _) (by decide) (.keep rfl (.keep rfl (.keep rfl (.keep rfl (.nil)))))) ?_
  refine tC [(4,bv false)] [(0,.box [so 2 (File.enc false) x3.2.Files,iv x3.2.Budget,iv x3.2.Writes,iv x3.2.Stop,bv x3.2.Down])] (by kernel_rfl) ?_
  exact yE rfl
 ·refine vQ 0 (cs':=[so 2 (File.enc true) x3.2.Files,iv x3.2.Budget,iv x3.2.Writes,iv x3.2.Stop,bv x3.2.Down]) (ts:=[1]) rfl (.move (.head _) (List.length_map _) (by decide) (.keep rfl (.keep rfl (.keep rfl (.keep rfl (.nil)))))) ?_
  refine tC [(0,pp 0),(1,sv a2),(8,bv false)] [(0,.box (zA.enc true x3.2))] (by kernel_rfl) ?_
  refine zG (fun x6 h7=>?_)
  refine J_g 14 [] [(0,pp 0),(5,iv x6)] [(0,.box (zA.enc true x3.2))] (zX 2 (zFd [(0,.box (zA.enc true x3.2))] [] (tT («as»:=[pp 0,sv a2]) [(.tmp 9),(.tmp 10)] [48,9] false [(0,.box (zA.enc true x3.2))] [0] (.cons (.pt rfl) (.cons (.same rfl) (.nil))) (kP.ok x3.2 a2) h7 (.same rfl rfl))) zF) ?_
  refine wF 0 (cs':=[rr 1 x3.2.Files,iv x3.2.Budget,iv x3.2.Writes,iv x3.2.Stop,bv x3.2.Down]) (es:=[(1,rE 2 (File.enc true) x3.2.Files)]) rfl (.cons (.own 1) (.cons (.same rfl rfl) (.cons (.same rfl rfl) (.cons (.same rfl rfl) (.cons (.same rfl rfl) (.nil)))))) rfl (by kernel_rfl) (by kernel_rfl) ?_
  refine tC [(0,pp 0),(5,iv x6)] [(0,.box [rr 1 x3.2.Files,iv x3.2.Budget,iv x3.2.Writes,iv x3.2.Stop,bv x3.2.Down]),(1,rE 2 (File.enc true) x3.2.Files)] (by kernel_rfl) ?_
  refine zG (fun x8 h9=>?_)
  refine tC [(0,pp 0),(5,iv x6)] [(1,rE 2 (File.enc true) x3.2.Files),(0,.box [rr 1 x3.2.Files,iv x3.2.Budget,iv x3.2.Writes,iv x3.2.Stop,bv x3.2.Down])] (by kernel_rfl) ?_
  refine zEP 1 (zAo (enc:=(File.enc true)) (enc':=(File.enc false)) (File.ro true) _) ?_
  refine tC [(0,pp 0),(5,iv x6)] [(0,.box [rr 1 x3.2.Files,iv x3.2.Budget,iv x3.2.Writes,iv x3.2.Stop,bv x3.2.Down]),(1,rE 2 (File.enc false) x3.2.Files)] (by kernel_rfl) ?_
  refine zG (fun x10 h11=>?_)
  refine zG (fun x12 h13=>?_)
  refine zG (fun x14 h15=>?_)
  refine J_g 30 [] [] [(0,.box [rr 4 x14,iv x3.2.Budget,iv x3.2.Writes,iv x3.2.Stop,bv x3.2.Down]),(4,rE 2 (File.enc false) x14)] (zX 1 (zEZ 26 62 2 2 (File.enc false) ([]:List File) [] [] []) (zX 7 (zER 26 62 2 1 (File.enc false) (.tmp 17) none (some (.tmp 18)) h9) (zX 8 (zEI (ys:=x3.2.Files) (l:=0) (hi:=x6) 26 26 62 62 2 40 3 2 1 (File.enc false) (.tmp 13) (.tmp 19) h9 h11) (zX 15 (zER 26 62 2 1 (File.enc false) (.tmp 24) (some (.tmp 26)) none h13) (zX 16 (zEI (ys:=x3.2.Files) (l:=w64 (x6+1)) (hi:=(x3.2.Files.length:Int)) 26 26 62 62 2 40 4 3 1 (File.enc false) (.tmp 20) (.tmp 27) h13 h15) zF))))) ?_
  refine J_g 62 [] [(4,bv true)] [(0,.box [rr 4 x14,iv x3.2.Budget,iv x3.2.Writes,iv x3.2.Stop,bv x3.2.Down]),(4,rE 2 (File.enc false) x14)] zF ?_
  refine vQ 0 (cs':=[so 2 (File.enc false) x14,iv x3.2.Budget,iv x3.2.Writes,iv x3.2.Stop,bv x3.2.Down]) (ts:=[4]) rfl (.move (.head _) (List.length_map _) (by decide) (.keep rfl (.keep rfl (.keep rfl (.keep rfl (.nil)))))) ?_
  refine tC [(4,bv true)] [(0,.box [so 2 (File.enc false) x14,iv x3.2.Budget,iv x3.2.Writes,iv x3.2.Stop,bv x3.2.Down])] (by kernel_rfl) ?_
  exact yE rfl
noncomputable def c6:Code:=(Try.f6.body).getD .skip
theorem xL.ok (a1:zA) (a2:ByteArray):Ok Try.prog 6 [.ag (zA.enc false a1),sv a2] [] ((xL a1 a2).map fun r=>(.ag [iv r.Code,so 2 (File.enc false) r.zA.Files,iv r.zA.Budget,iv r.zA.Writes,iv r.zA.Stop,bv r.zA.Down],[])):=by
 refine zO c6 Try.f6 0 26 (fun q=>?_)
 unfold xL
 refine J_g 2 [(0,0),(1,1)] [(1,sv a2),(2,pp 0),(4,pp 1)] [(0,.box (zA.enc false a1)),(1,.box [iv 0,nv,iv 0,iv 0,iv 0,bv false])] zF ?_
 refine zG (fun x3 h4=>?_)
 refine J_g 12 [] [(1,sv a2),(2,pp 0),(4,pp 1),(5,iv x3)] [(0,.box (zA.enc false a1)),(1,.box [iv 0,nv,iv 0,iv 0,iv 0,bv false])] (zX 1 (uT [(.tmp 7)] [28] (uF.ok a1) h4) zF) ?_
 refine J_d 26 [] [10] [(10,bv (x3 !=0))] [] [] zF ?_
 refine zN 10 (fun h5=>?_) (fun h5=>?_)
 ·refine J_g 108 [] [(4,pp 1)] [(1,.box [iv x3,nv,iv 0,iv 0,iv 0,bv false])] zF ?_
  exact zAI (ds:=[.ag [iv x3,nv,iv 0,iv 0,iv 0,bv false]]) (ds':=[.ag [iv x3,so 2 (File.enc false) ([]:List File),iv 0,iv 0,iv 0,bv false]]) (.cons (.ag (.keep rfl (.nilsl true 2 (.keep rfl (.keep rfl (.keep rfl (.keep rfl (.nil)))))))) (.nil) (by decide)) rfl
 ·refine zG (fun x6 h7=>?_)
  refine J_g 14 [(2,3)] [(1,sv a2),(4,pp 1),(6,pp 3)] [(1,.box [iv 0,nv,iv 0,iv 0,iv 0,bv false]),(2,rE 2 (File.enc true) x6.Files),(3,.box [rr 2 x6.Files,iv x6.Budget,iv x6.Writes,iv x6.Stop,bv x6.Down])] (zX 1 (tT («as»:=[.ag (zA.enc false a1)]) [(.tmp 13)] [28] false [] [] (.cons (.same rfl) (.nil)) (wH.ok a1) h7 (.ag (.cons (.own 2) (.cons (.same rfl rfl) (.cons (.same rfl rfl) (.cons (.same rfl rfl) (.cons (.same rfl rfl) (.nil)))))))) zF) ?_
  refine vQ 3 (cs':=[so 2 (File.enc true) x6.Files,iv x6.Budget,iv x6.Writes,iv x6.Stop,bv x6.Down]) (ts:=[2]) rfl (.move (.tail _ (.head _)) (List.length_map _) (by decide) (.keep rfl (.keep rfl (.keep rfl (.keep rfl (.nil)))))) ?_
  refine tC [(1,sv a2),(4,pp 1),(6,pp 3)] [(1,.box [iv 0,nv,iv 0,iv 0,iv 0,bv false]),(3,.box (zA.enc true x6))] (by kernel_rfl) ?_
  refine zG (fun x8 h9=>?_)
  refine J_g 60 [] [(1,sv a2),(4,pp 1),(6,pp 3),(17,bv (decide (x8<0)))] [(1,.box [iv 0,nv,iv 0,iv 0,iv 0,bv false]),(3,.box (zA.enc true x6))] (zX 1 (zFd [(3,.box (zA.enc true x6))] [] (tT («as»:=[pp 3,sv a2]) [(.tmp 6),(.tmp 15)] [48,9] false [(3,.box (zA.enc true x6))] [3] (.cons (.pt rfl) (.cons (.same rfl) (.nil))) (kP.ok x6 a2) h9 (.same rfl rfl))) zF) ?_
  refine wF 3 (cs':=[rr 4 x6.Files,iv x6.Budget,iv x6.Writes,iv x6.Stop,bv x6.Down]) (es:=[(4,rE 2 (File.enc true) x6.Files)]) rfl (.cons (.own 4) (.cons (.same rfl rfl) (.cons (.same rfl rfl) (.cons (.same rfl rfl) (.cons (.same rfl rfl) (.nil)))))) rfl (by kernel_rfl) (by kernel_rfl) ?_
  refine tC [(1,sv a2),(4,pp 1),(6,pp 3),(17,bv (decide (x8<0)))] [(1,.box [iv 0,nv,iv 0,iv 0,iv 0,bv false]),(3,.box [rr 4 x6.Files,iv x6.Budget,iv x6.Writes,iv x6.Stop,bv x6.Down]),(4,rE 2 (File.enc true) x6.Files)] (by kernel_rfl) ?_
  refine zN 17 (fun h10=>?_) (fun h10=>?_)
  ·refine J_g 244 [] [(4,pp 1)] [(1,.box [iv 4,nv,iv 0,iv 0,iv 0,bv false])] zF ?_
   exact zAI (ds:=[.ag [iv 4,nv,iv 0,iv 0,iv 0,bv false]]) (ds':=[.ag [iv 4,so 2 (File.enc false) ([]:List File),iv 0,iv 0,iv 0,bv false]]) (.cons (.ag (.keep rfl (.nilsl true 2 (.keep rfl (.keep rfl (.keep rfl (.keep rfl (.nil)))))))) (.nil) (by decide)) rfl
  ·refine vQ 3 (cs':=[so 2 (File.enc true) x6.Files,iv x6.Budget,iv x6.Writes,iv x6.Stop,bv x6.Down]) (ts:=[4]) rfl (.move (.tail _ (.head _)) (List.length_map _) (by decide) (.keep rfl (.keep rfl (.keep rfl (.keep rfl (.nil)))))) ?_
   refine tC [(1,sv a2),(4,pp 1),(6,pp 3),(17,bv false)] [(1,.box [iv 0,nv,iv 0,iv 0,iv 0,bv false]),(3,.box (zA.enc true x6))] (by kernel_rfl) ?_
   refine zG (fun x11 h12=>?_)
   refine J_g 124 [] [(4,pp 1),(6,pp 3),(21,bv (!x11.1))] [(1,.box [iv 0,nv,iv 0,iv 0,iv 0,bv false]),(3,.box [so 2 (File.enc false) x11.2.Files,iv x11.2.Budget,iv x11.2.Writes,iv x11.2.Stop,bv x11.2.Down])] (zX 1 (tT («as»:=[pp 3,sv a2]) [(.tmp 6),(.tmp 19)] [48,9] false [(3,.box (zA.enc true x6))] [3] (.cons (.pt rfl) (.cons (.same rfl) (.nil))) (vI.ok x6 a2) h12 (.same rfl rfl)) zF) ?_
   refine wF 3 (cs':=[rr 4 x11.2.Files,iv x11.2.Budget,iv x11.2.Writes,iv x11.2.Stop,bv x11.2.Down]) (es:=[(4,rE 2 (File.enc false) x11.2.Files)]) rfl (.cons (.own 4) (.cons (.same rfl rfl) (.cons (.same rfl rfl) (.cons (.same rfl rfl) (.cons (.same rfl rfl) (.nil)))))) rfl (by kernel_rfl) (by kernel_rfl) ?_
   refine tC [(4,pp 1),(6,pp 3),(21,bv (!x11.1))] [(1,.box [iv 0,nv,iv 0,iv 0,iv 0,bv false]),(3,.box [rr 4 x11.2.Files,iv x11.2.Budget,iv x11.2.Writes,iv x11.2.Stop,bv x11.2.Down]),(4,rE 2 (File.enc false) x11.2.Files)] (by kernel_rfl) ?_
   refine zN 21 (fun h13=>?_) (fun h13=>?_)
   ·refine J_g 500 [] [(4,pp 1)] [(1,.box [iv 9,rr 4 x11.2.Files,iv x11.2.Budget,iv x11.2.Writes,iv x11.2.Stop,bv x11.2.Down]),(4,rE 2 (File.enc false) x11.2.Files)] zF ?_
    exact zAI (ds:=[.ag [iv 9,rr 4 x11.2.Files,iv x11.2.Budget,iv x11.2.Writes,iv x11.2.Stop,bv x11.2.Down]]) (ds':=[.ag [iv 9,so 2 (File.enc false) x11.2.Files,iv x11.2.Budget,iv x11.2.Writes,iv x11.2.Stop,bv x11.2.Down]]) (.cons (.ag (.keep rfl (.move (.tail _ (.head _)) (List.length_map _) (by decide) (.keep rfl (.keep rfl (.keep rfl (.keep rfl (.nil)))))))) (.nil) (by decide)) rfl
   ·refine J_g 126 [] [(4,pp 1)] [(1,.box [iv 0,rr 4 x11.2.Files,iv x11.2.Budget,iv x11.2.Writes,iv x11.2.Stop,bv x11.2.Down]),(4,rE 2 (File.enc false) x11.2.Files)] zF ?_
    exact zAI (ds:=[.ag [iv 0,rr 4 x11.2.Files,iv x11.2.Budget,iv x11.2.Writes,iv x11.2.Stop,bv x11.2.Down]]) (ds':=[.ag [iv 0,so 2 (File.enc false) x11.2.Files,iv x11.2.Budget,iv x11.2.Writes,iv x11.2.Stop,bv x11.2.Down]]) (.cons (.ag (.keep rfl (.move (.tail _ (.head _)) (List.length_map _) (by decide) (.keep rfl (.keep rfl (.keep rfl (.keep rfl (.nil)))))))) (.nil) (by decide)) rfl
noncomputable def c59:Code:=(Try.f59.body).getD .skip
theorem yU.ok (a1:Int) (a2:Int) (a3:Int):Ok Try.prog 59 [iv a1,iv a2,iv a3] [] ((yU a1 a2 a3).map fun r=>(bv r,[])):=by
 refine zO c59 Try.f59 0 15 (fun q=>?_)
 unfold yU
 refine J_d 2 [] [] [] [] [] zF ?_
 refine vO (fun h4=>?_) (fun h4=>?_)
 ·refine J_g 6 [] [(6,bv (decide (a1≤a3)))] [] (wJ 3 [(9,bv (decide (a2≤a1)))] [] h4 zF) ?_
  exact yE rfl
 ·refine J_g 6 [] [(6,bv false)] [] (wJ 3 [(9,bv (decide (a2≤a1)))] [] h4 zF) ?_
  exact yE rfl
noncomputable def c66:Code:=(Try.f66.body).getD .skip
theorem zW.ok (a1:Int):Ok Try.prog 66 [uv a1] [] ((zW a1).map fun r=>(bv r,[])):=by
 refine zO c66 Try.f66 0 21 (fun q=>?_)
 unfold zW
 refine J_g 2 [] [(0,uv a1)] [] zF ?_
 refine vO (fun h2=>?_) (fun h2=>?_)
 ·refine vO (fun h3=>?_) (fun h3=>?_)
  ·refine J_g 6 [] [(2,bv true)] [] (wJ 2 [(4,bv (decide (a1≥97)))] [] h2 (wJ 6 [(8,bv (decide (a1≤122)))] [] h3 (zFj 9 (zFg (i:=9) (g:=6) (t:=9) (b:=false) (v:=(.bool true)) (.inl rfl) (by kernel_rfl) (by kernel_rfl)) (zFj 10 (zFg (i:=10) (g:=9) (t:=12) (b:=true) (v:=undef) (.inr rfl) (by kernel_rfl) (by kernel_rfl)) (zFj 11 (zFg (i:=11) (g:=9) (t:=12) (b:=true) (v:=undef) (.inr rfl) (by kernel_rfl) (by kernel_rfl)) zF))))) ?_
   exact yE rfl
  ·refine vO (fun h4=>?_) (fun h4=>?_)
   ·refine vO (fun h5=>?_) (fun h5=>?_)
    ·refine J_g 6 [] [(2,bv true)] [] (wJ 2 [(4,bv (decide (a1≥97)))] [] h2 (wJ 6 [(8,bv (decide (a1≤122)))] [] h3 (zCm 9 6 9 false [(11,bv (decide (a1≥48)))] [] h4 (wJ 14 [(16,bv (decide (a1≤57)))] [] h5 zF)))) ?_
     exact yE rfl
    ·refine J_g 6 [] [(2,bv (a1==95))] [] (wJ 2 [(4,bv (decide (a1≥97)))] [] h2 (wJ 6 [(8,bv (decide (a1≤122)))] [] h3 (zCm 9 6 9 false [(11,bv (decide (a1≥48)))] [] h4 (wJ 14 [(16,bv (decide (a1≤57)))] [] h5 zF)))) ?_
     exact yE rfl
   ·refine J_g 6 [] [(2,bv (a1==95))] [] (wJ 2 [(4,bv (decide (a1≥97)))] [] h2 (wJ 6 [(8,bv (decide (a1≤122)))] [] h3 (zCm 9 6 9 false [(11,bv (decide (a1≥48)))] [] h4 zF))) ?_
    exact yE rfl
 ·refine vO (fun h6=>?_) (fun h6=>?_)
  ·refine vO (fun h7=>?_) (fun h7=>?_)
   ·refine J_g 6 [] [(2,bv true)] [] (wJ 2 [(4,bv (decide (a1≥97)))] [] h2 (zCm 9 6 9 false [(11,bv (decide (a1≥48)))] [] h6 (wJ 14 [(16,bv (decide (a1≤57)))] [] h7 zF))) ?_
    exact yE rfl
   ·refine J_g 6 [] [(2,bv (a1==95))] [] (wJ 2 [(4,bv (decide (a1≥97)))] [] h2 (zCm 9 6 9 false [(11,bv (decide (a1≥48)))] [] h6 (wJ 14 [(16,bv (decide (a1≤57)))] [] h7 zF))) ?_
    exact yE rfl
  ·refine J_g 6 [] [(2,bv (a1==95))] [] (wJ 2 [(4,bv (decide (a1≥97)))] [] h2 (zCm 9 6 9 false [(11,bv (decide (a1≥48)))] [] h6 zF)) ?_
   exact yE rfl
noncomputable def c53:Code:=(Try.f53.body).getD .skip
theorem yY.ok (a1:ByteArray) (q:Wd) (kn:Unit→Option (D×List Ent)) (hk:∀v:Unit,J (q.g Try.prog 53 0 37) c53 (atI c53 15) (St.mk' [] []) (some v) kn):
  ∀s15:Int,J (q.g Try.prog 53 0 37) c53 (atI c53 116) (St.mk' [(0,sv a1),(14,iv (a1.size:Int)),(15,iv s15)] []) (yY a1 s15) (Fl.go (fun r:Int=>some (iv r,[])) kn):=by
 refine zAB (fun g ih s15=>?_)
 unfold uH
 refine J_d 232 [] [16] [(16,bv (decide (s15< (a1.size:Int))))] [] [] zF ?_
 refine zN 16 (fun h16=>?_) (fun h16=>?_)
 ·refine J_d 3736 [] [3,16] [(3,iv s15)] [] [] zF ?_
  refine zG (fun x17 h18=>?_)
  refine J_d 7474 [] [3,4] [(4,uv x17)] [] [] (zX 2 (zF1 (kk:=.i64) 9 (.tmp 18) (.tmp 19) h18) zF) ?_
  refine zG (fun x19 h20=>?_)
  refine uW (atI c53 14951) (fun v24:Bool=>St.mk' [(0,sv a1),(14,iv (a1.size:Int)),(15,iv s15),(35,bv v24)] []) (fun v24=>?_) (fun jv24=>?_)
  ·refine zN 35 (fun h25=>?_) (fun h25=>?_)
   ·refine J_g 59804 [] [(2,iv 5)] [] zF ?_
    exact yE rfl
   ·refine J_d 935 [] [15,35] [(15,iv (w64 (s15+1)))] [] [] zF ?_
    exact J_q (J_b (ih (w64 (s15+1)))) rfl
  ·refine vO (fun h21=>?_) (fun h21=>?_)
   ·refine vO (fun h22=>?_) (fun h22=>?_)
    ·refine vO (fun h23=>?_) (fun h23=>?_)
     ·refine J_d 14950 [] [4,35] [(35,bv (x17 !=47))] [] [] (zX 1 (uT [(.tmp 21)] [5] (zW.ok x17) h20) (wJ 3 [(23,bv (!x19))] [] h21 (wJ 7 [(27,bv (x17 !=46))] [] h22 (wJ 11 [(31,bv (x17 !=45))] [] h23 zF)))) ?_
      exact uP (J_j (jv24 (x17 !=47))) rfl
     ·refine J_d 14950 [] [4,35] [(35,bv false)] [] [] (zX 1 (uT [(.tmp 21)] [5] (zW.ok x17) h20) (wJ 3 [(23,bv (!x19))] [] h21 (wJ 7 [(27,bv (x17 !=46))] [] h22 (wJ 11 [(31,bv (x17 !=45))] [] h23 zF)))) ?_
      exact uP (J_j (jv24 false)) rfl
    ·refine J_d 14950 [] [4,35] [(35,bv false)] [] [] (zX 1 (uT [(.tmp 21)] [5] (zW.ok x17) h20) (wJ 3 [(23,bv (!x19))] [] h21 (wJ 7 [(27,bv (x17 !=46))] [] h22 zF))) ?_
     exact uP (J_j (jv24 false)) rfl
   ·refine J_d 14950 [] [4,35] [(35,bv false)] [] [] (zX 1 (uT [(.tmp 21)] [5] (zW.ok x17) h20) (wJ 3 [(23,bv (!x19))] [] h21 zF)) ?_
    exact uP (J_j (jv24 false)) rfl
 ·exact uP (hk ()) rfl
theorem xW.ok (a1:ByteArray):Ok Try.prog 53 [sv a1] [] ((xW a1).map fun r=>(iv r,[])):=by
 refine zO c53 Try.f53 0 37 (fun q=>?_)
 unfold xW
 refine J_g 2 [] [(0,sv a1)] [] zF ?_
 refine uW (atI c53 13) (fun v3:Bool=>St.mk' [(0,sv a1),(12,bv v3)] []) (fun v3=>?_) (fun jv3=>?_)
 ·refine zN 12 (fun h4=>?_) (fun h4=>?_)
  ·refine J_g 52 [] [(2,iv 5)] [] zF ?_
   exact yE rfl
  ·refine J_g 28 [] [(0,sv a1),(14,iv (a1.size:Int)),(15,iv 0)] [] zF ?_
   refine zA0 (K0:=(fun r:Int=>some (iv r,[]))) (fun _=>rfl) (yY.ok a1 q _ (fun v26=>J_j ?_) 0)
   refine J_g 30 [] [(2,iv 0)] [] zF ?_
   exact yE rfl
 ·refine vO (fun h2=>?_) (fun h2=>?_)
  ·refine J_g 12 [] [(0,sv a1),(12,bv true)] [] (wJ 3 [(7,bv (decide ((a1.size:Int)<1)))] [] h2 zF) ?_
   exact uP (J_j (jv3 true)) rfl
  ·refine J_g 12 [] [(0,sv a1),(12,bv (decide ((a1.size:Int)>40)))] [] (wJ 3 [(7,bv (decide ((a1.size:Int)<1)))] [] h2 zF) ?_
   exact uP (J_j (jv3 (decide ((a1.size:Int)>40)))) rfl
noncomputable def c54:Code:=(Try.f54.body).getD .skip
theorem wP.ok (a1:zA) (q:Wd) (kn:Int→Option (D×List Ent)) (hk:∀v:Int,J (q.g Try.prog 54 0 20) c54 (atI c54 15) (St.mk' [(3,iv v)] []) (some v) kn):
  ∀s5:(Int×Int),J (q.g Try.prog 54 0 20) c54 (atI c54 116) (St.mk' [(3,iv s5.1),(7,sl 2 (File.enc false) a1.Files),(8,iv (a1.Files.length:Int)),(9,iv s5.2)] []) (wP a1 s5) kn:=by
 refine zAB (fun g ih s5=>?_)
 unfold uU
 refine J_d 232 [] [10] [(10,bv (decide (s5.2< (a1.Files.length:Int))))] [] [] zF ?_
 refine zN 10 (fun h6=>?_) (fun h6=>?_)
 ·refine zG (fun x7 h8=>?_)
  refine J_g 3736 [(2,0)] [(3,iv s5.1),(5,pp 0),(7,sl 2 (File.enc false) a1.Files),(8,iv (a1.Files.length:Int)),(9,iv s5.2)] [(0,.box (File.enc false x7))] (zX 0 (zAm (kk:=.i64) 26 62 2 (File.enc false) (.tmp 7) (.tmp 9) h8) zF) ?_
  refine J_g 3737 [] [(3,iv (w64 (s5.1+(x7.Data.length:Int)))),(7,sl 2 (File.enc false) a1.Files),(8,iv (a1.Files.length:Int)),(9,iv s5.2)] [] zF ?_
  refine J_d 935 [] [9] [(9,iv (w64 (s5.2+1)))] [] [] zF ?_
  exact J_q (J_b (ih (w64 (s5.1+(x7.Data.length:Int)),w64 (s5.2+1)))) rfl
 ·exact uP (hk s5.1) rfl
theorem vB.ok (a1:zA):Ok Try.prog 54 [.ag (zA.enc false a1)] [] ((vB a1).map fun r=>(iv r,[])):=by
 refine zO c54 Try.f54 0 20 (fun q=>?_)
 unfold vB
 refine J_g 2 [(0,0)] [(1,pp 0)] [(0,.box (zA.enc false a1))] zF ?_
 refine J_g 6 [] [(1,pp 0),(3,iv 0)] [(0,.box (zA.enc false a1))] zF ?_
 refine J_g 28 [] [(3,iv 0),(7,sl 2 (File.enc false) a1.Files),(8,iv (a1.Files.length:Int)),(9,iv 0)] [] zF ?_
 refine zDo (wP.ok a1 q _ (fun v9=>J_j ?_) (0,0))
 refine J_g 30 [] [(2,iv v9)] [] zF ?_
 exact yE rfl
noncomputable def c40:Code:=(Try.f40.body).getD .skip
theorem yX.ok (a1:zA) (q:Wd) (kn:Unit→Option (D×List Ent)) (hk:∀v:Unit,J (q.g Try.prog 40 0 68) c40 (atI c40 15) (St.mk' [(1,pp 0)] [(0,.box (zA.enc false a1))]) (some v) kn):
  ∀s25:Int,J (q.g Try.prog 40 0 68) c40 (atI c40 116) (St.mk' [(1,pp 0),(29,sl 2 (File.enc false) a1.Files),(30,iv (a1.Files.length:Int)),(31,iv s25)] [(0,.box (zA.enc false a1))]) (yX a1 s25) (Fl.go (fun r:Int=>some (iv r,[])) kn):=by
 refine zAB (fun g ih s25=>?_)
 unfold uI
 refine J_d 232 [] [32] [(32,bv (decide (s25< (a1.Files.length:Int))))] [] [] zF ?_
 refine zN 32 (fun h26=>?_) (fun h26=>?_)
 ·refine zG (fun x27 h28=>?_)
  refine J_d 3736 [(3,1)] [3,4,32] [(3,iv s25),(4,pp 1)] [1] [(1,.box (File.enc false x27))] (zX 1 (zAm (kk:=.i64) 26 62 2 (File.enc false) (.tmp 29) (.tmp 31) h28) zF) ?_
  refine zG (fun x29 h30=>?_)
  refine J_g 14948 [] [(1,pp 0),(3,iv s25),(4,pp 1),(5,iv x29),(29,sl 2 (File.enc false) a1.Files),(30,iv (a1.Files.length:Int)),(31,iv s25)] [(0,.box (zA.enc false a1)),(1,.box (File.enc false x27))] (zX 2 (uT [(.tmp 37)] [9] (xW.ok x27.Path) h30) zF) ?_
  refine J_d 29898 [] [40] [(40,bv (x29 !=0))] [] [] zF ?_
  refine zN 40 (fun h31=>?_) (fun h31=>?_)
  ·refine J_g 119596 [] [(2,iv x29)] [] zF ?_
   exact yE rfl
  ·refine uW (atI c40 29901) (fun v35:Bool=>St.mk' [(1,pp 0),(4,pp 1),(29,sl 2 (File.enc false) a1.Files),(30,iv (a1.Files.length:Int)),(31,iv s25),(42,bv v35)] [(0,.box (zA.enc false a1)),(1,.box (File.enc false x27))]) (fun v35=>?_) (fun jv35=>?_)
   ·refine zN 42 (fun h36=>?_) (fun h36=>?_)
    ·refine J_g 119604 [] [(2,iv 1)] [] zF ?_
     exact yE rfl
    ·refine J_d 119606 [] [4,42,57] [(57,bv (decide ((x27.Data.length:Int)>4000)))] [1] [] zF ?_
     refine zN 57 (fun h37=>?_) (fun h37=>?_)
     ·refine J_g 478428 [] [(2,iv 2)] [] zF ?_
      exact yE rfl
     ·refine J_d 935 [] [31,57] [(31,iv (w64 (s25+1)))] [] [] zF ?_
      exact J_q (J_b (ih (w64 (s25+1)))) rfl
   ·refine vO (fun h32=>?_) (fun h32=>?_)
    ·refine zG (fun x33 h34=>?_)
     refine J_d 29900 [] [3,5,40,42] [(42,bv (slt x27.Path x33.Path||seq x27.Path x33.Path))] [] [] (wJ 2 [(44,bv (decide (s25>0)))] [] h32 (zBX 9 2 45 true (zAm (kk:=.i64) 26 62 2 (File.enc false) (.tmp 49) (.tmp 51) h34) zF)) ?_
     exact uP (J_j (jv35 (slt x27.Path x33.Path||seq x27.Path x33.Path))) rfl
    ·refine J_d 29900 [] [3,5,40,42] [(42,bv false)] [] [] (wJ 2 [(44,bv (decide (s25>0)))] [] h32 zF) ?_
     exact uP (J_j (jv35 false)) rfl
 ·exact uP (hk ()) rfl
theorem xR.ok (a1:zA):Ok Try.prog 40 [.ag (zA.enc false a1)] [] ((xR a1).map fun r=>(iv r,[])):=by
 refine zO c40 Try.f40 0 68 (fun q=>?_)
 unfold xR
 refine J_g 2 [(0,0)] [(1,pp 0)] [(0,.box (zA.enc false a1))] zF ?_
 refine zG (fun x2 h3=>?_)
 refine uW (atI c40 25) (fun v10:Bool=>St.mk' [(1,pp 0),(6,bv v10)] [(0,.box (zA.enc false a1))]) (fun v10=>?_) (fun jv10=>?_)
 ·refine zN 6 (fun h11=>?_) (fun h11=>?_)
  ·refine J_g 100 [] [(2,iv 3)] [] zF ?_
   exact yE rfl
  ·refine J_d 102 [] [6,23] [(23,bv (decide ((a1.Files.length:Int)>120)))] [] [] zF ?_
   refine zN 23 (fun h12=>?_) (fun h12=>?_)
   ·refine J_g 412 [] [(2,iv 2)] [] zF ?_
    exact yE rfl
   ·refine J_d 28 [] [23,29,30,31] [(29,sl 2 (File.enc false) a1.Files),(30,iv (a1.Files.length:Int)),(31,iv 0)] [] [] zF ?_
    refine zA0 (K0:=(fun r:Int=>some (iv r,[]))) (fun _=>rfl) (yX.ok a1 q _ (fun v38=>J_j ?_) 0)
    refine zG (fun x39 h40=>?_)
    refine J_g 60 [] [(67,bv (decide (x39>a1.Budget)))] [] (zX 1 (uT [(.tmp 63)] [28] (vB.ok a1) h40) zF) ?_
    refine zN 67 (fun h41=>?_) (fun h41=>?_)
    ·refine J_g 244 [] [(2,iv 8)] [] zF ?_
     exact yE rfl
    ·refine J_g 62 [] [(2,iv 0)] [] zF ?_
     exact yE rfl
 ·refine vO (fun h4=>?_) (fun h4=>?_)
  ·refine J_d 24 [] [6] [(6,bv true)] [] [] (zX 2 (uT [(.tmp 8),(.const (.int .i64 0)),(.const (.int .i64 20000))] [2,2,2] (yU.ok a1.Budget 0 20000) h3) (wJ 4 [(10,bv (!x2))] [] h4 zF)) ?_
   exact uP (J_j (jv10 true)) rfl
  ·refine zG (fun x5 h6=>?_)
   refine vO (fun h7=>?_) (fun h7=>?_)
   ·refine J_d 24 [] [6] [(6,bv true)] [] [] (zX 2 (uT [(.tmp 8),(.const (.int .i64 0)),(.const (.int .i64 20000))] [2,2,2] (yU.ok a1.Budget 0 20000) h3) (wJ 4 [(10,bv (!x2))] [] h4 (zBX 7 4 11 false (uT [(.tmp 13),(.const (.int .i64 0)),(.const (.int .i64 1000000000))] [2,2,2] (yU.ok a1.Writes 0 1000000000) h6) (wJ 10 [(16,bv (!x5))] [] h7 zF)))) ?_
    exact uP (J_j (jv10 true)) rfl
   ·refine zG (fun x8 h9=>?_)
    refine J_d 24 [] [6] [(6,bv (!x8))] [] [] (zX 2 (uT [(.tmp 8),(.const (.int .i64 0)),(.const (.int .i64 20000))] [2,2,2] (yU.ok a1.Budget 0 20000) h3) (wJ 4 [(10,bv (!x2))] [] h4 (zBX 7 4 11 false (uT [(.tmp 13),(.const (.int .i64 0)),(.const (.int .i64 1000000000))] [2,2,2] (yU.ok a1.Writes 0 1000000000) h6) (wJ 10 [(16,bv (!x5))] [] h7 (zBX 13 10 17 false (uT [(.tmp 19),(.const (.int .i64 (-1))),(.const (.int .i64 1000000000))] [2,2,2] (yU.ok a1.Stop (-1) 1000000000) h9) zF))))) ?_
    exact uP (J_j (jv10 (!x8))) rfl
noncomputable def c60:Code:=(Try.f60.body).getD .skip
theorem yQ.ok (a1:(List Int)):Ok Try.prog 60 [sl 1 eU8 a1] [] ((yQ a1).map fun r=>(so 1 eU8 r,[])):=by
 refine zO c60 Try.f60 0 8 (fun q=>?_)
 unfold yQ
 refine J_g 2 [] [(0,sl 1 eU8 a1)] [] zF ?_
 refine J_d 12 [] [4] [(4,.nb a1.length)] [] [] (zX 1 (zEj (xs:=a1) 38 5 38 1 eU8 (.tmp 3)) zF) ?_
 refine zFG 4 rfl (fun h2=>?_) ?_
 ·obtain rfl:a1=[]:=List.eq_nil_of_length_eq_zero h2
  refine zEF (e':=some ([]:List Int)) (by kernel_rfl) ?_
  refine J_g 52 [] [(2,nv)] [] zF ?_
  exact zAI (ds:=[nv]) (ds':=[so 1 eU8 ([]:List Int)]) (.cons (.cell (.nilsl true 1 (.nil))) (.nil) (by decide)) rfl
 ·refine zG (fun x3 h4=>?_)
  refine J_g 14 [] [(2,rr 1 x3)] [(1,rE 1 eU8 x3)] (zX 0 (zEZ 38 5 1 0 eU8 ([]:List Int) [] [] []) (zX 2 (zEL 38 38 5 5 1 1 1 0 eU8 (.tmp 5) (.tmp 6) h4) zF)) ?_
  exact zAI (ds:=[rr 1 x3]) (ds':=[so 1 eU8 x3]) (.cons (.cell (.move (.head _) (List.length_map _) (by decide) (.nil))) (.nil) (by decide)) rfl
noncomputable def c41:Code:=(Try.f41.body).getD .skip
theorem yK.ok (a1:zA) (q:Wd) (kn:(List File)→Option (D×List Ent)) (hk:∀v:(List File),J (q.g Try.prog 41 0 28) c41 (atI c41 31) (St.mk' [(2,pp 1),(3,pp 2)] [(1,.box [nv,iv 0,iv 0,iv 0,bv false]),(2,.box [rr 3 v,iv a1.Budget,iv a1.Writes,iv a1.Stop,bv a1.Down]),(3,rE 2 (File.enc true) v)]) (some v) kn):
  ∀s16:((List File)×Int),J (q.g Try.prog 41 0 28) c41 (atI c41 244) (St.mk' [(2,pp 1),(3,pp 2),(9,sl 2 (File.enc false) a1.Files),(10,iv (a1.Files.length:Int)),(11,iv s16.2)] [(1,.box [nv,iv 0,iv 0,iv 0,bv false]),(2,.box [rr 3 s16.1,iv a1.Budget,iv a1.Writes,iv a1.Stop,bv a1.Down]),(3,rE 2 (File.enc true) s16.1)]) (yK a1 s16) kn:=by
 refine zAB (fun g ih s16=>?_)
 unfold vN
 refine J_d 488 [] [12] [(12,bv (decide (s16.2< (a1.Files.length:Int))))] [] [] zF ?_
 refine zN 12 (fun h17=>?_) (fun h17=>?_)
 ·refine zG (fun x18 h19=>?_)
  refine J_d 7832 [(2,4)] [5,12] [(5,pp 4)] [4] [(4,.box (File.enc false x18))] (zX 0 (zAm (kk:=.i64) 26 62 2 (File.enc false) (.tmp 9) (.tmp 11) h19) zF) ?_
  refine zG (fun x20 h21=>?_)
  refine zG (fun x22 h23=>?_)
  refine J_g 7833 [] [(2,pp 1),(3,pp 2),(9,sl 2 (File.enc false) a1.Files),(10,iv (a1.Files.length:Int)),(11,iv s16.2)] [(1,.box [nv,iv 0,iv 0,iv 0,bv false]),(2,.box [rr 7 x22,iv a1.Budget,iv a1.Writes,iv a1.Stop,bv a1.Down]),(7,rE 2 (File.enc true) x22)] (zX 6 (tT («as»:=[sl 1 eU8 x18.Data]) [(.tmp 20)] [38] false [] [] (.cons (.same rfl) (.nil)) (yQ.ok x18.Data) h21 (.own 5)) (zX 8 (zFz (ds:=[sv x18.Path,rr 5 x20]) (ts:=[5]) 26 62 2 6 (File.enc true) [({Path:=x18.Path,Data:=x20}:File)] [0] [(.tmp 22)] [.ag [sv x18.Path,rr 5 x20]] [(5,rE 1 eU8 x20)] (.keep rfl (.move (.head _) (List.length_map _) (by decide) (.nil)))) (zX 9 (zF2 26 26 62 62 2 40 7 3 6 (File.enc true) (.tmp 16) (.tmp 23) h23) zF))) ?_
  refine J_d 1959 [] [11] [(11,iv (w64 (s16.2+1)))] [] [] zF ?_
  refine zEM 7 3 (Nat.le_of_ble_eq_true rfl) (Nat.le_of_ble_eq_true rfl) ?_
  exact J_q (J_b (ih (x22,w64 (s16.2+1)))) rfl
 ·exact uP (hk s16.1) rfl
theorem yG.ok (a1:zA):Ok Try.prog 41 [.ag (zA.enc false a1)] [] ((yG a1).map fun r=>(.ag (zA.enc true r),[])):=by
 refine zO c41 Try.f41 0 28 (fun q=>?_)
 unfold yG
 refine J_g 2 [(0,0),(1,1)] [(1,pp 0),(2,pp 1)] [(0,.box (zA.enc false a1)),(1,.box [nv,iv 0,iv 0,iv 0,bv false])] zF ?_
 refine J_g 6 [(1,2)] [(1,pp 0),(2,pp 1),(3,pp 2)] [(0,.box (zA.enc false a1)),(1,.box [nv,iv 0,iv 0,iv 0,bv false]),(2,.box (zA.enc false a1))] zF ?_
 refine J_g 14 [] [(1,pp 0),(2,pp 1),(3,pp 2)] [(0,.box (zA.enc false a1)),(1,.box [nv,iv 0,iv 0,iv 0,bv false]),(2,.box [nv,iv a1.Budget,iv a1.Writes,iv a1.Stop,bv a1.Down])] zF ?_
 refine J_d 60 [] [1,9,10,11] [(9,sl 2 (File.enc false) a1.Files),(10,iv (a1.Files.length:Int)),(11,iv 0)] [0] [] zF ?_
 refine zDM 2 0 3 2 rfl rfl (Nat.le_of_ble_eq_true rfl) (by kernel_rfl) ?_
 refine zDo (yK.ok a1 q _ (fun v24=>J_j ?_) (([]:List File),0))
 refine J_g 62 [] [(2,pp 1)] [(1,.box [rr 3 v24,iv a1.Budget,iv a1.Writes,iv a1.Stop,bv a1.Down]),(3,rE 2 (File.enc true) v24)] zF ?_
 exact zAI (ds:=[.ag [rr 3 v24,iv a1.Budget,iv a1.Writes,iv a1.Stop,bv a1.Down]]) (ds':=[.ag [so 2 (File.enc true) v24,iv a1.Budget,iv a1.Writes,iv a1.Stop,bv a1.Down]]) (.cons (.ag (.move (.tail _ (.head _)) (List.length_map _) (by decide) (.keep rfl (.keep rfl (.keep rfl (.keep rfl (.nil))))))) (.nil) (by decide)) rfl
theorem bytealg_CompareString.ok (a1 a2:ByteArray):Ok Try.prog 68 [sv a1,sv a2] [] ((bytealg_CompareString a1 a2).map fun r=>(iv r,[])):=
 zFi (vs:=[.string a1,.string a2]) (fun w=>Try.bytealg_CompareString a1 a2 w)
noncomputable def c63:Code:=(Try.f63.body).getD .skip
theorem strings_Compare.ok (a1:ByteArray) (a2:ByteArray):Ok Try.prog 63 [sv a1,sv a2] [] ((strings_Compare a1 a2).map fun r=>(iv r,[])):=by
 refine zO c63 Try.f63 0 8 (fun q=>?_)
 unfold strings_Compare
 refine J_d 2 [] [] [] [] [] zF ?_
 refine zG (fun x3 h4=>?_)
 refine J_g 6 [] [(4,iv x3)] [] (zX 2 (uT [(.tmp 5),(.tmp 6)] [9,9] (bytealg_CompareString.ok a1 a2) h4) zF) ?_
 exact yE rfl
noncomputable def c62:Code:=(Try.f62.body).getD .skip
theorem yA.ok (a1:File) (a2:ByteArray):Ok Try.prog 62 [.ag (File.enc false a1),sv a2] [] ((yA a1 a2).map fun r=>(iv r,[])):=by
 refine zO c62 Try.f62 0 9 (fun q=>?_)
 unfold yA
 refine J_g 2 [(0,0)] [(1,sv a2),(2,pp 0)] [(0,.box (File.enc false a1))] zF ?_
 refine zG (fun x3 h4=>?_)
 refine J_g 6 [] [(4,iv x3)] [] (zX 3 (uT [(.tmp 6),(.tmp 7)] [9,9] (strings_Compare.ok a1.Path a2) h4) zF) ?_
 exact yE rfl
noncomputable def c61:Code:=(Try.f61.body).getD .skip
theorem zH.ok (a1:(List File)) (a2:ByteArray) (q:Wd) (kn:Int→Option (D×List Ent)) (hk:∀v:Int,J (q.g Try.prog 61 0 49) c61 (atI c61 31) (St.mk' [(0,sl 2 (File.enc false) a1),(1,sv a2),(2,.fn 62 []),(8,iv (a1.length:Int)),(9,iv v)] []) (some v) kn):
  ∀s9:(Int×Int),J (q.g Try.prog 61 0 49) c61 (atI c61 120) (St.mk' [(0,sl 2 (File.enc false) a1),(1,sv a2),(2,.fn 62 []),(8,iv (a1.length:Int)),(9,iv s9.1),(10,iv s9.2)] []) (zH a1 a2 s9) kn:=by
 refine zAB (fun g ih s9=>?_)
 unfold zK
 refine J_d 480 [] [17] [(17,bv (decide (s9.1<s9.2)))] [] [] zF ?_
 refine zN 17 (fun h10=>?_) (fun h10=>?_)
 ·refine J_d 964 [] [11,17] [(11,iv (w64 ((IntKind.u64.wrap (w64 (s9.1+s9.2))).fdiv (2^(min (1:Int).toNat 64)))))] [] [] zF ?_
  refine zG (fun x11 h12=>?_)
  refine zG (fun x13 h14=>?_)
  refine J_d 1930 [] [31] [(31,bv (decide (x13<0)))] [] [] (zX 3 (zAm (kk:=.i64) 26 62 2 (File.enc false) (.tmp 25) (.tmp 26) h12) (zX 6 (zET («as»:=[.ag (File.enc false x11),sv a2]) (caps:=[]) 24 [(.tmp 28),(.tmp 29)] [62,9] (yA.ok x11 a2) h14) zF)) ?_
  refine zN 31 (fun h15=>?_) (fun h15=>?_)
  ·refine J_d 3862 [] [9,11,31] [(9,iv (w64 ((w64 ((IntKind.u64.wrap (w64 (s9.1+s9.2))).fdiv (2^(min (1:Int).toNat 64))))+1)))] [] [] zF ?_
   exact J_q (J_b (ih (w64 ((w64 ((IntKind.u64.wrap (w64 (s9.1+s9.2))).fdiv (2^(min (1:Int).toNat 64))))+1),s9.2))) rfl
  ·refine J_d 3863 [] [10,11,31] [(10,iv (w64 ((IntKind.u64.wrap (w64 (s9.1+s9.2))).fdiv (2^(min (1:Int).toNat 64)))))] [] [] zF ?_
   exact J_q (J_b (ih (s9.1,w64 ((IntKind.u64.wrap (w64 (s9.1+s9.2))).fdiv (2^(min (1:Int).toNat 64)))))) rfl
 ·exact uP (hk s9.1) rfl
theorem zB.ok (a1:(List File)) (a2:ByteArray):Ok Try.prog 61 [sl 2 (File.enc false) a1,sv a2,.fn 62 []] [] ((zB a1 a2).map fun r=>(.tu [iv r.1,bv r.2],[])):=by
 refine zO c61 Try.f61 0 49 (fun q=>?_)
 unfold zB
 refine J_g 2 [] [(0,sl 2 (File.enc false) a1),(1,sv a2),(2,.fn 62 [])] [] zF ?_
 refine J_g 6 [] [(0,sl 2 (File.enc false) a1),(1,sv a2),(2,.fn 62 []),(8,iv (a1.length:Int))] [] zF ?_
 refine J_d 14 [] [9,10] [(9,iv 0),(10,iv (a1.length:Int))] [] [] zF ?_
 refine zDo (zH.ok a1 a2 q _ (fun v16=>J_j ?_) (0,(a1.length:Int)))
 refine vO (fun h17=>?_) (fun h17=>?_)
 ·refine zG (fun x18 h19=>?_)
  refine zG (fun x20 h21=>?_)
  refine J_g 62 [] [(6,iv v16),(7,bv (x20==0))] [] (wJ 4 [(38,bv (decide (v16< (a1.length:Int))))] [] h17 (zBX 8 4 39 true (zAm (kk:=.i64) 26 62 2 (File.enc false) (.tmp 41) (.tmp 42) h19) (zBX 11 4 39 true (zET («as»:=[.ag (File.enc false x18),sv a2]) (caps:=[]) 40 [(.tmp 44),(.tmp 45)] [62,9] (yA.ok x18 a2) h21) zF))) ?_
  exact zFb rfl
 ·refine J_g 62 [] [(6,iv v16),(7,bv false)] [] (wJ 4 [(38,bv (decide (v16< (a1.length:Int))))] [] h17 zF) ?_
  exact zFb rfl
noncomputable def c43:Code:=(Try.f43.body).getD .skip
theorem xD.ok (a1:zA) (a2:ByteArray):Ok Try.prog 43 [.ag (zA.enc false a1),sv a2] [] ((xD a1 a2).map fun r=>(.tu [iv r.1,bv r.2],[])):=by
 refine zO c43 Try.f43 0 12 (fun q=>?_)
 unfold xD
 refine J_g 2 [(0,0)] [(1,sv a2),(2,pp 0)] [(0,.box (zA.enc false a1))] zF ?_
 refine zG (fun x3 h4=>?_)
 refine J_g 6 [] [(4,iv x3.1),(5,bv x3.2)] [] (zX 3 (tT («as»:=[sl 2 (File.enc false) a1.Files,sv a2,.fn 62 []]) [(.tmp 7),(.tmp 8),(.func 62)] [26,9,80] false [] [] (.cons (.same rfl) (.cons (.same rfl) (.cons (.fn (.nil)) (.nil)))) (zB.ok a1.Files a2) h4 (.tu (.cons (.same rfl rfl) (.cons (.same rfl rfl) (.nil))))) zF) ?_
 exact zFb rfl
section
open Go.Shelf Go.RowKit Go.Lib
set_option linter.unusedVariables false
set_option linter.unusedSimpArgs false
set_option maxHeartbeats 4000000 in
set_option maxRecDepth 1000000 in
theorem zD2 (b off n cap i j:Nat) (news:List Value) (w:World) (hcap:n≤cap) (hij:i<j) (hj:j≤n) (hlen:news.length=(n-j)*2)
  (hcs:∀k v,news[k]? =some v→w.cell? ⟨b,off+j*2+k,none⟩=some v) (h1c:∀u∈news,u.oneCell'=true)
  (hsp:∀k,k<n*2→(w.cell? ⟨b,off+k,none⟩).isSome =true∧w.frozen? ⟨b,off+k,none⟩=false)
  (zs:List Value) (hcl:∀ty W,W=w.drew.setCells b (off+i*2) news→(Builtin.clear_ #[26] ty #[.slice (some ⟨b,off+(i+(n-j))*2,none⟩) (n-(i+(n-j))) (cap-(i+(n-j)))]).run Try.prog W= .ok (.tuple #[]) (W.setCells b (off+(i+(n-j))*2) zs)):
  Calls Try.prog 46 #[.slice (some ⟨b,off,none⟩) n cap,.int .i64 i,.int .i64 j] w fun e w'=>e= .returned (.slice (some ⟨b,off,none⟩) (i+(n-j)) cap)∧w'=(w.drew.setCells b (off+i*2) news).setCells b (off+(i+(n-j))*2) zs:=by
 obtain ⟨A,hA,hsrc⟩:∃A:Addr,(if cap=j then some (⟨b,off,none⟩:Addr) else some ⟨b,off+j*2,none⟩)=some A∧Hid (∀t u,news[t]? =some u→w.drew.cell? (A.add t)=some u):=by
  by_cases h:cap=j
  ·refine ⟨⟨b,off,none⟩,by simp [h],fun t u hu=>?_⟩
   have h0:news.length=0:=by omega
   rw [List.length_eq_zero_iff.1 h0] at hu
   simp at hu
  ·exact ⟨⟨b,off+j*2,none⟩,by simp [h],fun t u hu=>by rw [Addr.add_lit]; exact hcs t u hu⟩
 have s1:Hid (news.length=(n-j)*2):=hlen
 have s2:Hid (∀u∈news,u.oneCell'=true):=h1c
 have s3:Hid (∀t,t<news.length→(w.drew.cell? ⟨b,off+i*2+t,none⟩).isSome =true∧w.drew.frozen? ⟨b,off+i*2+t,none⟩=false):=by
  intro t ht
  rw [Nat.add_assoc]
  exact hsp (i*2+t) (by omega)
 obtain ⟨W1,hW1⟩:∃W1,W1=w.drew.setCells b (off+i*2) news:=⟨_,rfl⟩
 have hW:Hid (W1=w.drew.setCells b (off+i*2) news):=hW1
 have hcl':∀ty,(Builtin.clear_ #[26] ty #[.slice (some ⟨b,off+(i+(n-j))*2,none⟩) (n-(i+(n-j))) (cap-(i+(n-j)))]).run Try.prog W1= .ok (.tuple #[]) (W1.setCells b (off+(i+(n-j))*2) zs):=fun ty=>hcl ty W1 hW1
 have X:Aside (W1=w.drew.setCells b (off+i*2) news):=hW1
 have hic:i≤cap:=by omega
 have hjc:j≤cap:=by omega
 have hi0:Try.prog.info? 62=some Try.t62:=by kernel_rfl
 have hi1:Try.t62.size=2:=by kernel_rfl
 have mixed:Try.prog.follows .mixedOrders =true:=by kernel_rfl
 clear hW1 hcl hlen hcs h1c hsp
 go_enter Try.func46,Try.ntmps46
 go_wp2_with fail
 go_region_law_o (refine step_append_room rfl (.tmp 22) (.tmp 25) 26 rfl 62 Try.t62 2 Try.underlying26 hi0 hi1 b off i cap (by simp [Act.eval,Act.put]) A (n-j) (cap-j) news (by simp [Act.eval,Act.put]) s1.out hsrc.out s2.out (by omega) s3.out ?_; rw [←hW.out])
 go_wp2
 go_ret
 exact ⟨rfl,by rw [←X.out]⟩
set_option maxHeartbeats 4000000 in
set_option maxRecDepth 1000000 in
theorem zBu (base:Option Addr) (n cap i:Nat) (w:World) (hnc:n≤cap) (hi:i≤n) (hnil:base=none→n=0∧cap=0):Calls Try.prog 46 #[.slice base n cap,.int .i64 i,.int .i64 i] w fun e w'=>e= .returned (.slice base n cap)∧w'=w:=by
 have mixed:Try.prog.follows .mixedOrders =true:=by kernel_rfl
 cases base with
 |none=>
  obtain ⟨rfl,rfl⟩:=hnil rfl
  obtain rfl:i=0:=by omega
  go_enter Try.func46,Try.ntmps46
  go_wp2
  all_goals (go_ret; exact ⟨rfl,rfl⟩)
 |some a=>
  obtain ⟨ab,ao,asp⟩:=a
  go_enter Try.func46,Try.ntmps46
  go_wp2
  all_goals (go_ret; exact ⟨rfl,rfl⟩)
theorem zDz (n:Nat) (i j:Int) (h0:0≤i) (h1:i≤j) (h2:j≤n) (hbig:n≤1099511627776) (w:World) (v:Value) (wx:List Value) (bx:List Nat) (hD1:Dst w 2 n v wx bx) (hlt:∀b∈bx,b<w.heap.size) (q1:∀q∈wx,Value.oneCell q=true):
  Calls Try.prog 46 #[v,.int .i64 i,.int .i64 j] w fun e w'=>∃r,e= .returned r∧zE5 w w' 2 (i.toNat+(n-j.toNat)) 0 (wx.take (i.toNat*2)++wx.drop (j.toNat*2)) [] bx r:=by
 obtain ⟨i,rfl⟩:=Int.eq_ofNat_of_zero_le h0
 obtain ⟨j,rfl⟩:=Int.eq_ofNat_of_zero_le (show 0≤j by omega)
 rw [Int.toNat_natCast,Int.toNat_natCast]
 have hij:i≤j:=by omega
 have hj:j≤n:=by omega
 have e1:∀q∈wx,q.oneCell'=true:=fun q hq=>by rw [kF]; exact q1 q hq
 by_cases hc:i=j
 ·subst hc
  rw [List.take_append_drop,show i+(n-i)=n by omega]
  rcases hD1 with ⟨rfl,rfl,rfl,rfl⟩|⟨b,off,c,rfl,rfl,hnc,hO1,hl1⟩
  ·refine (zBu none 0 0 i w (Nat.le_refl _) hj (fun _=>⟨rfl,rfl⟩)).mono ?_
   rintro e w' ⟨rfl,rfl⟩
   exact ⟨_,rfl,⟨rfl,rfl⟩,.inl ⟨rfl,rfl,rfl,rfl⟩⟩
  ·refine (zBu (some ⟨b,off,none⟩) n c i w hnc hj (fun h=>by cases h)).mono ?_
   rintro e w' ⟨rfl,rfl⟩
   exact ⟨_,rfl,⟨rfl,rfl⟩,.inr ⟨b,off,c,rfl,hnc,by rw [List.append_nil]; exact hO1,hlt b (by simp),.inl ⟨rfl,fun _ _=>rfl,rfl⟩⟩⟩
 ·rcases hD1 with ⟨_,hn0,_⟩|⟨b,off,c,rfl,rfl,hnc,hO1,hl1⟩
  ·omega
  obtain ⟨arr,e,lo,hi,g1,g2,g3,g4⟩:=id hO1
  have hz2:(zB3 Try.prog 62).cells.size =2:=by kernel_rfl
  have hsp:∀k,k<n*2→(w.cell? ⟨b,off+k,none⟩).isSome =true∧w.frozen? ⟨b,off+k,none⟩=false:=fun k hk=>by
   refine ⟨?_,zCq g1 g2 (by omega)⟩
   rw [cell_of g1,Array.getElem?_eq_getElem (by omega)]; rfl
  have hld:(wx.drop (j*2)).length =(n-j)*2:=by rw [List.length_drop,hl1]; omega
  refine (zD2 b off n c i j (wx.drop (j*2)) w hnc (by omega) hj hld (fun k v hk=>?_) (fun u hu=>e1 u (List.mem_of_mem_drop hu)) hsp (Builtin.zeroCells (zB3 Try.prog 62).cells (n-(i+(n-j)))).toList (fun ty W hW=>?_)).mono ?_
  ·rw [List.getElem?_drop] at hk
   obtain ⟨hlt',rfl⟩:=List.getElem?_eq_some_iff.1 hk
   rw [Nat.add_assoc]
   exact hO1.has.cell _ hlt'
  ·refine zB7 W 26 62 ty (zB3 Try.prog 62) 2 Try.underlying26 (by kernel_rfl) hz2 (by kernel_rfl) b _ _ _ (by omega) (fun k hk=>?_) (fun k hk=>?_)
   ·rw [hW,Nat.add_assoc]
    refine isSome_setCells b _ _ _ (fun t ht=>?_) _ ?_
    ·rw [Nat.add_assoc]; exact (hsp _ (by omega)).1
    ·exact (hsp _ (by omega)).1
   ·rw [hW,World.frozen?_setCells,Nat.add_assoc]
    exact (hsp _ (by omega)).2
  ·rintro e w' ⟨rfl,rfl⟩
   refine ⟨_,rfl,?_⟩
   rw [yZ,yZ]
   exact zDx (w:=w) (w0:=w.drew) ⟨rfl,rfl,rfl⟩ hO1 hl1 hij hj hnc (by simp [Builtin.zeroCells,hz2]; omega)
theorem zZ.ok (a1:List File) (a2 a3:Int):Ok Try.prog 46 [rr 0 a1,iv a2,iv a3] [rE 2 (File.enc true) a1] ((zZ a1 a2 a3).map fun r=>(so 2 (File.enc true) r,[])):=by
 unfold zZ
 split
 ·rename_i h
  obtain ⟨h0,h1,h2,h3⟩:=h
  exact zCF (fun _=>rfl) h0 h1 h2 (fun w v wx bx hD1 hlt q1=>zDz a1.length a2 a3 h0 h1 h2 h3 w v wx bx hD1 hlt q1)
 ·exact fun _ h=>by cases h
end
noncomputable def c45:Code:=(Try.f45.body).getD .skip
theorem yT.ok (a1:zA) (a2:Int):Ok Try.prog 45 [.pb [pp 0],pp 1] [.box (zA.enc true a1),.box [iv a2]] ((yT a1 a2).map fun r=>(.tu [],[.box (zA.enc true r),.box [iv a2]])):=by
 refine zO c45 Try.f45 2 13 (fun q=>?_)
 unfold yT
 refine wF 0 (cs':=[rr 2 a1.Files,iv a1.Budget,iv a1.Writes,iv a1.Stop,bv a1.Down]) (es:=[(2,rE 2 (File.enc true) a1.Files)]) rfl (.cons (.own 2) (.cons (.same rfl rfl) (.cons (.same rfl rfl) (.cons (.same rfl rfl) (.cons (.same rfl rfl) (.nil)))))) rfl (by kernel_rfl) (by kernel_rfl) ?_
 refine tC [(0,.pb [pp 0]),(1,pp 1)] [(0,.box [rr 2 a1.Files,iv a1.Budget,iv a1.Writes,iv a1.Stop,bv a1.Down]),(1,.box [iv a2]),(2,rE 2 (File.enc true) a1.Files)] (by kernel_rfl) ?_
 refine zG (fun x3 h4=>?_)
 refine J_g 1 [] [] [(0,.box [rr 3 x3,iv a1.Budget,iv a1.Writes,iv a1.Stop,bv a1.Down]),(1,.box [iv a2]),(3,rE 2 (File.enc true) x3)] (zX 0 (zBZ (d:=pp 0) 48 (.tmp 0) [pp 0]) (zX 1 (zBZ (d:=pp 0) 48 (.tmp 0) [pp 0]) (zX 8 (tT («as»:=[rr 2 a1.Files,iv a2,iv (w64 (a2+1))]) [(.tmp 6),(.tmp 7),(.tmp 9)] [26,3,3] false [(2,rE 2 (File.enc true) a1.Files)] [2] (.cons (.rf rfl) (.cons (.same rfl) (.cons (.same rfl) (.nil)))) (zZ.ok a1.Files a2 (w64 (a2+1))) h4 (.own 3)) zF))) ?_
 refine vQ 0 (cs':=[so 2 (File.enc true) x3,iv a1.Budget,iv a1.Writes,iv a1.Stop,bv a1.Down]) (ts:=[3]) rfl (.move (.tail _ (.head _)) (List.length_map _) (by decide) (.keep rfl (.keep rfl (.keep rfl (.keep rfl (.nil)))))) ?_
 refine tC [] [(0,.box [so 2 (File.enc true) x3,iv a1.Budget,iv a1.Writes,iv a1.Stop,bv a1.Down]),(1,.box [iv a2])] (by kernel_rfl) ?_
 exact zFb rfl
noncomputable def c44:Code:=(Try.f44.body).getD .skip
theorem zL.ok (a1:zA) (a2:Int):Ok Try.prog 44 [pp 0,.fn 45 [.pb [pp 0],pp 1]] [.box (zA.enc true a1),.box [iv a2]] ((zL a1 a2).map fun r=>(iv r.1,[.box (zA.enc true r.2),.box [iv a2]])):=by
 refine zO c44 Try.f44 2 33 (fun q=>?_)
 unfold zL
 refine wF 0 (cs':=[rr 2 a1.Files,iv a1.Budget,iv a1.Writes,iv a1.Stop,bv a1.Down]) (es:=[(2,rE 2 (File.enc true) a1.Files)]) rfl (.cons (.own 2) (.cons (.same rfl rfl) (.cons (.same rfl rfl) (.cons (.same rfl rfl) (.cons (.same rfl rfl) (.nil)))))) rfl (by kernel_rfl) (by kernel_rfl) ?_
 refine tC [(0,pp 0),(1,.fn 45 [.pb [pp 0],pp 1])] [(0,.box [rr 2 a1.Files,iv a1.Budget,iv a1.Writes,iv a1.Stop,bv a1.Down]),(1,.box [iv a2]),(2,rE 2 (File.enc true) a1.Files)] (by kernel_rfl) ?_
 refine J_d 2 [] [] [] [] [] zF ?_
 refine uW (atI c44 13) (fun v4:Bool=>St.mk' [(0,pp 0),(1,.fn 45 [.pb [pp 0],pp 1]),(20,bv v4)] [(0,.box [rr 2 a1.Files,iv a1.Budget,iv a1.Writes,iv a1.Stop,bv a1.Down]),(1,.box [iv a2]),(2,rE 2 (File.enc true) a1.Files)]) (fun v4=>?_) (fun jv4=>?_)
 ·refine zN 20 (fun h5=>?_) (fun h5=>?_)
  ·refine J_g 52 [] [] [(0,.box [rr 2 a1.Files,iv a1.Budget,iv a1.Writes,iv a1.Stop,bv true]),(1,.box [iv a2]),(2,rE 2 (File.enc true) a1.Files)] zF ?_
   refine J_g 106 [] [(4,iv 9)] [(0,.box [rr 2 a1.Files,iv a1.Budget,iv a1.Writes,iv a1.Stop,bv true]),(1,.box [iv a2]),(2,rE 2 (File.enc true) a1.Files)] zF ?_
   refine vQ 0 (cs':=[so 2 (File.enc true) a1.Files,iv a1.Budget,iv a1.Writes,iv a1.Stop,bv true]) (ts:=[2]) rfl (.move (.tail _ (.head _)) (List.length_map _) (by decide) (.keep rfl (.keep rfl (.keep rfl (.keep rfl (.nil)))))) ?_
   refine tC [(4,iv 9)] [(0,.box [so 2 (File.enc true) a1.Files,iv a1.Budget,iv a1.Writes,iv a1.Stop,bv true]),(1,.box [iv a2])] (by kernel_rfl) ?_
   exact yE rfl
  ·refine vQ 0 (cs':=[so 2 (File.enc true) a1.Files,iv a1.Budget,iv a1.Writes,iv a1.Stop,bv a1.Down]) (ts:=[2]) rfl (.move (.tail _ (.head _)) (List.length_map _) (by decide) (.keep rfl (.keep rfl (.keep rfl (.keep rfl (.nil)))))) ?_
   refine tC [(0,pp 0),(1,.fn 45 [.pb [pp 0],pp 1]),(20,bv false)] [(0,.box (zA.enc true a1)),(1,.box [iv a2])] (by kernel_rfl) ?_
   refine zG (fun x6 h7=>?_)
   refine J_g 14 [] [(0,pp 0)] [(0,.box (zA.enc true x6)),(1,.box [iv a2])] (zX 1 (zE6 24 [] [] false [(0,.box (zA.enc true a1)),(1,.box [iv a2])] [0,1] [] [.pb [pp 0],pp 1] (.cons (.pb (.cons (.pt rfl) (.nil))) (.cons (.pt rfl) (.nil))) (yT.ok a1 a2) h7 (.tu (.nil))) zF) ?_
   refine wF 0 (cs':=[rr 2 x6.Files,iv x6.Budget,iv x6.Writes,iv x6.Stop,bv x6.Down]) (es:=[(2,rE 2 (File.enc true) x6.Files)]) rfl (.cons (.own 2) (.cons (.same rfl rfl) (.cons (.same rfl rfl) (.cons (.same rfl rfl) (.cons (.same rfl rfl) (.nil)))))) rfl (by kernel_rfl) (by kernel_rfl) ?_
   refine tC [(0,pp 0)] [(0,.box [rr 2 x6.Files,iv x6.Budget,iv x6.Writes,iv x6.Stop,bv x6.Down]),(1,.box [iv a2]),(2,rE 2 (File.enc true) x6.Files)] (by kernel_rfl) ?_
   refine J_g 30 [] [] [(0,.box [rr 2 x6.Files,iv x6.Budget,iv (w64 (x6.Writes+1)),iv x6.Stop,bv x6.Down]),(1,.box [iv a2]),(2,rE 2 (File.enc true) x6.Files)] zF ?_
   refine J_g 62 [] [(4,iv 0)] [(0,.box [rr 2 x6.Files,iv x6.Budget,iv (w64 (x6.Writes+1)),iv x6.Stop,bv x6.Down]),(1,.box [iv a2]),(2,rE 2 (File.enc true) x6.Files)] zF ?_
   refine vQ 0 (cs':=[so 2 (File.enc true) x6.Files,iv x6.Budget,iv (w64 (x6.Writes+1)),iv x6.Stop,bv x6.Down]) (ts:=[2]) rfl (.move (.tail _ (.head _)) (List.length_map _) (by decide) (.keep rfl (.keep rfl (.keep rfl (.keep rfl (.nil)))))) ?_
   refine tC [(4,iv 0)] [(0,.box [so 2 (File.enc true) x6.Files,iv x6.Budget,iv (w64 (x6.Writes+1)),iv x6.Stop,bv x6.Down]),(1,.box [iv a2])] (by kernel_rfl) ?_
   exact yE rfl
 ·refine vO (fun h3=>?_) (fun h3=>?_)
  ·refine J_d 12 [] [20] [(20,bv (decide (a1.Writes≥a1.Stop)))] [] [] (wJ 5 [(9,bv (decide (a1.Stop≥0)))] [] h3 zF) ?_
   exact uP (J_j (jv4 (decide (a1.Writes≥a1.Stop)))) rfl
  ·refine J_d 12 [] [20] [(20,bv false)] [] [] (wJ 5 [(9,bv (decide (a1.Stop≥0)))] [] h3 zF) ?_
   exact uP (J_j (jv4 false)) rfl
noncomputable def c27:Code:=(Try.f27.body).getD .skip
theorem yD.ok (a1:zA) (a2:ByteArray):Ok Try.prog 27 [pp 0,sv a2] [.box (zA.enc true a1)] ((yD a1 a2).map fun r=>(iv r.1,[.box (zA.enc true r.2)])):=by
 refine zO c27 Try.f27 1 20 (fun q=>?_)
 unfold yD
 refine wF 0 (cs':=[rr 1 a1.Files,iv a1.Budget,iv a1.Writes,iv a1.Stop,bv a1.Down]) (es:=[(1,rE 2 (File.enc true) a1.Files)]) rfl (.cons (.own 1) (.cons (.same rfl rfl) (.cons (.same rfl rfl) (.cons (.same rfl rfl) (.cons (.same rfl rfl) (.nil)))))) rfl (by kernel_rfl) (by kernel_rfl) ?_
 refine tC [(0,pp 0),(1,sv a2)] [(0,.box [rr 1 a1.Files,iv a1.Budget,iv a1.Writes,iv a1.Stop,bv a1.Down]),(1,rE 2 (File.enc true) a1.Files)] (by kernel_rfl) ?_
 refine J_d 2 [] [0,2] [(2,.pb [pp 0])] [] [] (zX 0 (zEb 48 (.tmp 0) (pp 0)) zF) ?_
 refine zG (fun x3 h4=>?_)
 refine J_g 6 [(8,2)] [(2,.pb [pp 0]),(5,pp 2),(6,bv x3.2)] [(0,.box [rr 1 a1.Files,iv a1.Budget,iv a1.Writes,iv a1.Stop,bv a1.Down]),(1,rE 2 (File.enc true) a1.Files),(2,.box [iv x3.1])] (zX 0 (zBZ (d:=pp 0) 48 (.tmp 2) [pp 0]) (zX 4 (tT («as»:=[.ag [rr 1 a1.Files,iv a1.Budget,iv a1.Writes,iv a1.Stop,bv a1.Down],sv a2]) [(.tmp 10),(.tmp 11)] [48,9] true [(1,rE 2 (File.enc true) a1.Files)] [] (.cons (.ag (.cons (zCh (.head _) (File.ro true) rfl) (.cons (.same rfl) (.cons (.same rfl) (.cons (.same rfl) (.cons (.same rfl) (.nil))))))) (.cons (.same rfl) (.nil))) (xD.ok a1 a2) h4 (.tu (.cons (.same rfl rfl) (.cons (.same rfl rfl) (.nil)))) (hbor:=fun _=>⟨fhN,(zEa (flatK wE (flatK wE zCB)))⟩)) zF)) ?_
 refine J_d 28 [] [6,16] [(16,bv (!x3.2))] [] [] zF ?_
 refine zN 16 (fun h5=>?_) (fun h5=>?_)
 ·refine J_g 116 [] [(4,iv 4)] [(0,.box [rr 1 a1.Files,iv a1.Budget,iv a1.Writes,iv a1.Stop,bv a1.Down]),(1,rE 2 (File.enc true) a1.Files)] zF ?_
  refine vQ 0 (cs':=[so 2 (File.enc true) a1.Files,iv a1.Budget,iv a1.Writes,iv a1.Stop,bv a1.Down]) (ts:=[1]) rfl (.move (.head _) (List.length_map _) (by decide) (.keep rfl (.keep rfl (.keep rfl (.keep rfl (.nil)))))) ?_
  refine tC [(4,iv 4)] [(0,.box (zA.enc true a1))] (by kernel_rfl) ?_
  exact yE rfl
 ·refine vQ 0 (cs':=[so 2 (File.enc true) a1.Files,iv a1.Budget,iv a1.Writes,iv a1.Stop,bv a1.Down]) (ts:=[1]) rfl (.move (.head _) (List.length_map _) (by decide) (.keep rfl (.keep rfl (.keep rfl (.keep rfl (.nil)))))) ?_
  refine tC [(2,.pb [pp 0]),(5,pp 2),(16,bv false)] [(0,.box (zA.enc true a1)),(2,.box [iv x3.1])] (by kernel_rfl) ?_
  refine zG (fun x6 h7=>?_)
  refine J_g 30 [] [(4,iv x6.1)] [(0,.box (zA.enc true x6.2))] (zX 0 (zBZ (d:=pp 0) 48 (.tmp 2) [pp 0]) (zX 2 (tT («as»:=[pp 0,.fn 45 [.pb [pp 0],pp 2]]) [(.tmp 17),(.tmp 18)] [48,1] false [(0,.box (zA.enc true a1)),(2,.box [iv x3.1])] [0,2] (.cons (.pt rfl) (.cons (.fn (.cons (.pb (.cons (.pt rfl) (.nil))) (.cons (.pt rfl) (.nil)))) (.nil))) (zL.ok a1 x3.1) h7 (.same rfl rfl)) zF)) ?_
  refine wF 0 (cs':=[rr 1 x6.2.Files,iv x6.2.Budget,iv x6.2.Writes,iv x6.2.Stop,bv x6.2.Down]) (es:=[(1,rE 2 (File.enc true) x6.2.Files)]) rfl (.cons (.own 1) (.cons (.same rfl rfl) (.cons (.same rfl rfl) (.cons (.same rfl rfl) (.cons (.same rfl rfl) (.nil)))))) rfl (by kernel_rfl) (by kernel_rfl) ?_
  refine tC [(4,iv x6.1)] [(0,.box [rr 1 x6.2.Files,iv x6.2.Budget,iv x6.2.Writes,iv x6.2.Stop,bv x6.2.Down]),(1,rE 2 (File.enc true) x6.2.Files)] (by kernel_rfl) ?_
  refine vQ 0 (cs':=[so 2 (File.enc true) x6.2.Files,iv x6.2.Budget,iv x6.2.Writes,iv x6.2.Stop,bv x6.2.Down]) (ts:=[1]) rfl (.move (.head _) (List.length_map _) (by decide) (.keep rfl (.keep rfl (.keep rfl (.keep rfl (.nil)))))) ?_
  refine tC [(4,iv x6.1)] [(0,.box (zA.enc true x6.2))] (by kernel_rfl) ?_
  exact yE rfl
noncomputable def c26:Code:=(Try.f26.body).getD .skip
theorem xI.ok (a1:zA) (a2:ByteArray):Ok Try.prog 26 [pp 0,pp 1] [.box (zA.enc true a1),.box [sv a2]] ((xI a1 a2).map fun r=>(iv r.1,[.box (zA.enc true r.2),.box [sv a2]])):=by
 refine zO c26 Try.f26 2 7 (fun q=>?_)
 unfold xI
 refine wF 0 (cs':=[rr 2 a1.Files,iv a1.Budget,iv a1.Writes,iv a1.Stop,bv a1.Down]) (es:=[(2,rE 2 (File.enc true) a1.Files)]) rfl (.cons (.own 2) (.cons (.same rfl rfl) (.cons (.same rfl rfl) (.cons (.same rfl rfl) (.cons (.same rfl rfl) (.nil)))))) rfl (by kernel_rfl) (by kernel_rfl) ?_
 refine tC [(0,pp 0),(1,pp 1)] [(0,.box [rr 2 a1.Files,iv a1.Budget,iv a1.Writes,iv a1.Stop,bv a1.Down]),(1,.box [sv a2]),(2,rE 2 (File.enc true) a1.Files)] (by kernel_rfl) ?_
 refine J_g 2 [] [(0,pp 0),(1,pp 1)] [(0,.box [rr 2 a1.Files,iv a1.Budget,iv a1.Writes,iv a1.Stop,bv a1.Down]),(1,.box [sv a2]),(2,rE 2 (File.enc true) a1.Files)] zF ?_
 refine vQ 0 (cs':=[so 2 (File.enc true) a1.Files,iv a1.Budget,iv a1.Writes,iv a1.Stop,bv a1.Down]) (ts:=[2]) rfl (.move (.tail _ (.head _)) (List.length_map _) (by decide) (.keep rfl (.keep rfl (.keep rfl (.keep rfl (.nil)))))) ?_
 refine tC [(0,pp 0),(1,pp 1)] [(0,.box (zA.enc true a1)),(1,.box [sv a2])] (by kernel_rfl) ?_
 refine zG (fun x3 h4=>?_)
 refine J_g 6 [] [(3,iv x3.1)] [(0,.box (zA.enc true x3.2)),(1,.box [sv a2])] (zX 2 (tT («as»:=[pp 0,sv a2]) [(.tmp 4),(.tmp 5)] [48,9] false [(0,.box (zA.enc true a1))] [0] (.cons (.pt rfl) (.cons (.same rfl) (.nil))) (yD.ok a1 a2) h4 (.same rfl rfl)) zF) ?_
 refine wF 0 (cs':=[rr 2 x3.2.Files,iv x3.2.Budget,iv x3.2.Writes,iv x3.2.Stop,bv x3.2.Down]) (es:=[(2,rE 2 (File.enc true) x3.2.Files)]) rfl (.cons (.own 2) (.cons (.same rfl rfl) (.cons (.same rfl rfl) (.cons (.same rfl rfl) (.cons (.same rfl rfl) (.nil)))))) rfl (by kernel_rfl) (by kernel_rfl) ?_
 refine tC [(3,iv x3.1)] [(0,.box [rr 2 x3.2.Files,iv x3.2.Budget,iv x3.2.Writes,iv x3.2.Stop,bv x3.2.Down]),(1,.box [sv a2]),(2,rE 2 (File.enc true) x3.2.Files)] (by kernel_rfl) ?_
 refine vQ 0 (cs':=[so 2 (File.enc true) x3.2.Files,iv x3.2.Budget,iv x3.2.Writes,iv x3.2.Stop,bv x3.2.Down]) (ts:=[2]) rfl (.move (.tail _ (.head _)) (List.length_map _) (by decide) (.keep rfl (.keep rfl (.keep rfl (.keep rfl (.nil)))))) ?_
 refine tC [(3,iv x3.1)] [(0,.box (zA.enc true x3.2)),(1,.box [sv a2])] (by kernel_rfl) ?_
 exact yE rfl
noncomputable def c42:Code:=(Try.f42.body).getD .skip
theorem uO.ok (a1:zA) (a2:Int):Ok Try.prog 42 [.ag (zA.enc false a1),iv a2] [] ((uO a1 a2).map fun r=>(.ag (zD.enc false r),[])):=by
 refine zO c42 Try.f42 0 16 (fun q=>?_)
 unfold uO
 refine J_g 2 [(0,0),(1,1)] [(1,iv a2),(2,pp 0),(4,pp 1)] [(0,.box (zA.enc false a1)),(1,.box [iv 0,nv,iv 0,iv 0,iv 0,bv false])] zF ?_
 refine uW (atI c42 13) (fun v4:Bool=>St.mk' [(1,iv a2),(2,pp 0),(4,pp 1),(10,bv v4)] [(0,.box (zA.enc false a1)),(1,.box [iv 0,nv,iv 0,iv 0,iv 0,bv false])]) (fun v4=>?_) (fun jv4=>?_)
 ·refine zN 10 (fun h5=>?_) (fun h5=>?_)
  ·refine J_g 52 [] [(4,pp 1)] [(1,.box [iv a2,nv,iv 0,iv 0,iv 0,bv false])] zF ?_
   exact zAI (ds:=[.ag [iv a2,nv,iv 0,iv 0,iv 0,bv false]]) (ds':=[.ag [iv a2,sl 2 (File.enc false) ([]:List File),iv 0,iv 0,iv 0,bv false]]) (.cons (.ag (.keep rfl (.nilsl false 2 (.keep rfl (.keep rfl (.keep rfl (.keep rfl (.nil)))))))) (.nil) (by decide)) rfl
  ·refine J_g 14 [] [(4,pp 1)] [(1,.box [iv a2,sl 2 (File.enc false) a1.Files,iv a1.Budget,iv a1.Writes,iv a1.Stop,bv a1.Down])] zF ?_
   exact yE rfl
 ·refine vO (fun h3=>?_) (fun h3=>?_)
  ·refine J_d 12 [] [10] [(10,bv (a2 !=9))] [] [] (wJ 2 [(6,bv (a2 !=0))] [] h3 zF) ?_
   exact uP (J_j (jv4 (a2 !=9))) rfl
  ·refine J_d 12 [] [10] [(10,bv false)] [] [] (wJ 2 [(6,bv (a2 !=0))] [] h3 zF) ?_
   exact uP (J_j (jv4 false)) rfl
theorem zCA.ok (a1:zA) (a2:Int):Ok Try.prog 42 [.ag [rr 0 a1.Files,iv a1.Budget,iv a1.Writes,iv a1.Stop,bv a1.Down],iv a2] [rE 2 (File.enc true) a1.Files] ((uO a1 a2).map fun r=>(.ag (zD.enc true r),[])):=by
 refine zO c42 Try.f42 1 16 (fun q=>?_)
 unfold uO
 refine J_d 2 [(0,1),(1,2)] [0,2,4] [(2,pp 1),(4,pp 2)] [1,2] [(1,.box [rr 0 a1.Files,iv a1.Budget,iv a1.Writes,iv a1.Stop,bv a1.Down]),(2,.box [iv 0,nv,iv 0,iv 0,iv 0,bv false])] zF ?_
 refine uW (atI c42 13) (fun v4:Bool=>St.mk' [(1,iv a2),(2,pp 1),(4,pp 2),(10,bv v4)] [(0,rE 2 (File.enc true) a1.Files),(1,.box [rr 0 a1.Files,iv a1.Budget,iv a1.Writes,iv a1.Stop,bv a1.Down]),(2,.box [iv 0,nv,iv 0,iv 0,iv 0,bv false])]) (fun v4=>?_) (fun jv4=>?_)
 ·refine zN 10 (fun h5=>?_) (fun h5=>?_)
  ·refine J_g 52 [] [(4,pp 2)] [(0,rE 2 (File.enc true) a1.Files),(2,.box [iv a2,nv,iv 0,iv 0,iv 0,bv false])] zF ?_
   exact zAI (ds:=[.ag [iv a2,nv,iv 0,iv 0,iv 0,bv false]]) (ds':=[.ag [iv a2,so 2 (File.enc true) ([]:List File),iv 0,iv 0,iv 0,bv false]]) (.cons (.ag (.keep rfl (.nilsl true 2 (.keep rfl (.keep rfl (.keep rfl (.keep rfl (.nil)))))))) (.nil) (by decide)) rfl
  ·refine J_g 14 [] [(4,pp 2)] [(0,rE 2 (File.enc true) a1.Files),(2,.box [iv a2,rr 0 a1.Files,iv a1.Budget,iv a1.Writes,iv a1.Stop,bv a1.Down])] zF ?_
   exact zAI (ds:=[.ag [iv a2,rr 0 a1.Files,iv a1.Budget,iv a1.Writes,iv a1.Stop,bv a1.Down]]) (ds':=[.ag [iv a2,so 2 (File.enc true) a1.Files,iv a1.Budget,iv a1.Writes,iv a1.Stop,bv a1.Down]]) (.cons (.ag (.keep rfl (.move (.head _) (List.length_map _) (by decide) (.keep rfl (.keep rfl (.keep rfl (.keep rfl (.nil)))))))) (.nil) (by decide)) rfl
 ·refine vO (fun h3=>?_) (fun h3=>?_)
  ·refine J_d 12 [] [10] [(10,bv (a2 !=9))] [] [] (wJ 2 [(6,bv (a2 !=0))] [] h3 zF) ?_
   exact uP (J_j (jv4 (a2 !=9))) rfl
  ·refine J_d 12 [] [10] [(10,bv false)] [] [] (wJ 2 [(6,bv (a2 !=0))] [] h3 zF) ?_
   exact uP (J_j (jv4 false)) rfl
noncomputable def c25:Code:=(Try.f25.body).getD .skip
theorem zP.ok (a1:zA) (a2:ByteArray):Ok Try.prog 25 [.ag (zA.enc false a1),.fn 26 [pp 0]] [.box [sv a2]] ((zP a1 a2).map fun r=>(.ag (zD.enc true r),[.box [sv a2]])):=by
 refine zO c25 Try.f25 1 26 (fun q=>?_)
 unfold zP
 refine J_d 2 [(0,1),(1,2)] [0,2,4] [(2,pp 1),(4,pp 2)] [1,2] [(1,.box (zA.enc false a1)),(2,.box [iv 0,nv,iv 0,iv 0,iv 0,bv false])] zF ?_
 refine zG (fun x3 h4=>?_)
 refine J_d 6 [] [5] [(5,iv x3)] [] [] (zX 1 (uT [(.tmp 7)] [28] (xR.ok a1) h4) zF) ?_
 refine uW (atI c25 29) (fun v6:Bool=>St.mk' [(1,.fn 26 [pp 0]),(2,pp 1),(4,pp 2),(5,iv x3),(14,bv v6)] [(0,.box [sv a2]),(1,.box (zA.enc false a1)),(2,.box [iv 0,nv,iv 0,iv 0,iv 0,bv false])]) (fun v6=>?_) (fun jv6=>?_)
 ·refine uW (atI c25 15) (fun v8:Int=>St.mk' [(1,.fn 26 [pp 0]),(2,pp 1),(4,pp 2),(5,iv v8)] [(0,.box [sv a2]),(1,.box (zA.enc false a1)),(2,.box [iv 0,nv,iv 0,iv 0,iv 0,bv false])]) (fun v8=>?_) (fun jv8=>?_)
  ·refine J_d 60 [] [16] [(16,bv (v8 !=0))] [] [] zF ?_
   refine zN 16 (fun h9=>?_) (fun h9=>?_)
   ·refine J_g 244 [] [(4,pp 2)] [(0,.box [sv a2]),(2,.box [iv v8,nv,iv 0,iv 0,iv 0,bv false])] zF ?_
    exact zAI (ds:=[.ag [iv v8,nv,iv 0,iv 0,iv 0,bv false]]) (ds':=[.ag [iv v8,so 2 (File.enc true) ([]:List File),iv 0,iv 0,iv 0,bv false]]) (.cons (.ag (.keep rfl (.nilsl true 2 (.keep rfl (.keep rfl (.keep rfl (.keep rfl (.nil)))))))) (.nil) (by decide)) rfl
   ·refine zG (fun x10 h11=>?_)
    refine J_g 62 [(2,4)] [(1,.fn 26 [pp 0]),(4,pp 2),(6,pp 4)] [(0,.box [sv a2]),(2,.box [iv 0,nv,iv 0,iv 0,iv 0,bv false]),(3,rE 2 (File.enc true) x10.Files),(4,.box [rr 3 x10.Files,iv x10.Budget,iv x10.Writes,iv x10.Stop,bv x10.Down])] (zX 1 (tT («as»:=[.ag (zA.enc false a1)]) [(.tmp 19)] [28] false [] [] (.cons (.same rfl) (.nil)) (yG.ok a1) h11 (.ag (.cons (.own 3) (.cons (.same rfl rfl) (.cons (.same rfl rfl) (.cons (.same rfl rfl) (.cons (.same rfl rfl) (.nil)))))))) zF) ?_
    refine vQ 4 (cs':=[so 2 (File.enc true) x10.Files,iv x10.Budget,iv x10.Writes,iv x10.Stop,bv x10.Down]) (ts:=[3]) rfl (.move (.tail _ (.tail _ (.head _))) (List.length_map _) (by decide) (.keep rfl (.keep rfl (.keep rfl (.keep rfl (.nil)))))) ?_
    refine tC [(1,.fn 26 [pp 0]),(4,pp 2),(6,pp 4)] [(0,.box [sv a2]),(2,.box [iv 0,nv,iv 0,iv 0,iv 0,bv false]),(4,.box (zA.enc true x10))] (by kernel_rfl) ?_
    refine zG (fun x12 h13=>?_)
    refine J_g 126 [] [(4,pp 2),(5,iv x12.1),(6,pp 4)] [(0,.box [sv a2]),(2,.box [iv 0,nv,iv 0,iv 0,iv 0,bv false]),(4,.box (zA.enc true x12.2))] (zX 1 (zE6 21 [(.tmp 6)] [48] false [(4,.box (zA.enc true x10)),(0,.box [sv a2])] [4,0] [pp 4] [pp 0] (.cons (.pt rfl) (.cons (.pt rfl) (.nil))) (xI.ok x10 a2) h13 (.same rfl rfl)) zF) ?_
    refine wF 4 (cs':=[rr 5 x12.2.Files,iv x12.2.Budget,iv x12.2.Writes,iv x12.2.Stop,bv x12.2.Down]) (es:=[(5,rE 2 (File.enc true) x12.2.Files)]) rfl (.cons (.own 5) (.cons (.same rfl rfl) (.cons (.same rfl rfl) (.cons (.same rfl rfl) (.cons (.same rfl rfl) (.nil)))))) rfl (by kernel_rfl) (by kernel_rfl) ?_
    refine tC [(4,pp 2),(5,iv x12.1),(6,pp 4)] [(0,.box [sv a2]),(2,.box [iv 0,nv,iv 0,iv 0,iv 0,bv false]),(4,.box [rr 5 x12.2.Files,iv x12.2.Budget,iv x12.2.Writes,iv x12.2.Stop,bv x12.2.Down]),(5,rE 2 (File.enc true) x12.2.Files)] (by kernel_rfl) ?_
    refine zG (fun x14 h15=>?_)
    refine J_g 254 [] [(4,pp 2)] [(0,.box [sv a2]),(2,.box [iv x14.Code,rr 6 x14.zA.Files,iv x14.zA.Budget,iv x14.zA.Writes,iv x14.zA.Stop,bv x14.zA.Down]),(6,rE 2 (File.enc true) x14.zA.Files)] (zX 2 (tT («as»:=[.ag [rr 5 x12.2.Files,iv x12.2.Budget,iv x12.2.Writes,iv x12.2.Stop,bv x12.2.Down],iv x12.1]) [(.tmp 23),(.tmp 24)] [28,2] false [(5,rE 2 (File.enc true) x12.2.Files)] [5] (.cons (.ag (.cons (.rf rfl) (.cons (.same rfl) (.cons (.same rfl) (.cons (.same rfl) (.cons (.same rfl) (.nil))))))) (.cons (.same rfl) (.nil))) (zCA.ok x12.2 x12.1) h15 (.ag (.cons (.same rfl rfl) (.cons (.own 6) (.cons (.same rfl rfl) (.cons (.same rfl rfl) (.cons (.same rfl rfl) (.cons (.same rfl rfl) (.nil))))))))) zF) ?_
    exact zAI (ds:=[.ag [iv x14.Code,rr 6 x14.zA.Files,iv x14.zA.Budget,iv x14.zA.Writes,iv x14.zA.Stop,bv x14.zA.Down]]) (ds':=[.ag (zD.enc true x14)]) (.cons (.ag (.keep rfl (.move (.tail _ (.tail _ (.head _))) (List.length_map _) (by decide) (.keep rfl (.keep rfl (.keep rfl (.keep rfl (.nil)))))))) (.nil) (by decide)) rfl
  ·refine zN 14 (fun h7=>?_) (fun h7=>?_)
   ·refine J_d 58 [] [5,14] [(5,iv 9)] [] [] zF ?_
    exact uP (J_j (jv8 9)) rfl
   ·exact uP (J_j (jv8 x3)) rfl
 ·refine vO (fun h5=>?_) (fun h5=>?_)
  ·refine J_d 28 [] [14] [(14,bv a1.Down)] [] [] (wJ 2 [(10,bv (x3==0))] [] h5 zF) ?_
   exact uP (J_j (jv6 a1.Down)) rfl
  ·refine J_d 28 [] [14] [(14,bv false)] [] [] (wJ 2 [(10,bv (x3==0))] [] h5 zF) ?_
   exact uP (J_j (jv6 false)) rfl
noncomputable def c8:Code:=(Try.f8.body).getD .skip
theorem yO.ok (a1:zA) (a2:ByteArray):Ok Try.prog 8 [.ag (zA.enc false a1),sv a2] [] ((yO a1 a2).map fun r=>(.ag (zD.enc true r),[])):=by
 refine zO c8 Try.f8 0 8 (fun q=>?_)
 unfold yO
 refine J_g 2 [(0,0),(1,1),(2,2)] [(2,pp 0),(3,pp 1),(4,pp 2)] [(0,.box (zA.enc false a1)),(1,.box [sv a2]),(2,.box [iv 0,nv,iv 0,iv 0,iv 0,bv false])] zF ?_
 refine zG (fun x3 h4=>?_)
 refine J_g 6 [] [(4,pp 2)] [(2,.box [iv x3.Code,rr 3 x3.zA.Files,iv x3.zA.Budget,iv x3.zA.Writes,iv x3.zA.Stop,bv x3.zA.Down]),(3,rE 2 (File.enc true) x3.zA.Files)] (zX 2 (zFd [(1,.box [sv a2])] [(3,rE 2 (File.enc true) x3.zA.Files)] (tT («as»:=[.ag (zA.enc false a1),.fn 26 [pp 1]]) [(.tmp 5),(.tmp 6)] [28,53] false [(1,.box [sv a2])] [1] (.cons (.same rfl) (.cons (.fn (.cons (.pt rfl) (.nil))) (.nil))) (zP.ok a1 a2) h4 (.ag (.cons (.same rfl rfl) (.cons (.own 3) (.cons (.same rfl rfl) (.cons (.same rfl rfl) (.cons (.same rfl rfl) (.cons (.same rfl rfl) (.nil)))))))))) zF) ?_
 exact zAI (ds:=[.ag [iv x3.Code,rr 3 x3.zA.Files,iv x3.zA.Budget,iv x3.zA.Writes,iv x3.zA.Stop,bv x3.zA.Down]]) (ds':=[.ag (zD.enc true x3)]) (.cons (.ag (.keep rfl (.move (.tail _ (.head _)) (List.length_map _) (by decide) (.keep rfl (.keep rfl (.keep rfl (.keep rfl (.nil)))))))) (.nil) (by decide)) rfl
noncomputable def c17:Code:=(Try.f17.body).getD .skip
theorem wS.ok (a1:(List Int)) (a2:(List Int)) (q:Wd) (kn:Unit→Option (D×List Ent)) (hk:∀v:Unit,J (q.g Try.prog 17 0 26) c17 (atI c17 15) (St.mk' [] []) (some v) kn):
  ∀s10:Int,J (q.g Try.prog 17 0 26) c17 (atI c17 116) (St.mk' [(0,sl 1 eU8 a1),(1,sl 1 eU8 a2),(5,iv s10)] []) (wS a1 a2 s10) (Fl.go (fun r:Bool=>some (bv r,[])) kn):=by
 refine zAB (fun g ih s10=>?_)
 unfold vT
 refine J_d 464 [] [14] [(14,bv (decide (s10< (a1.length:Int))))] [] [] zF ?_
 refine zN 14 (fun h11=>?_) (fun h11=>?_)
 ·refine zG (fun x12 h13=>?_)
  refine zG (fun x14 h15=>?_)
  refine J_d 1864 [] [14,25] [(25,bv (x12 !=x14))] [] [] (zX 2 (zAm (kk:=.i64) 38 5 1 eU8 (.tmp 17) (.tmp 18) h13) (zX 6 (zAm (kk:=.i64) 38 5 1 eU8 (.tmp 21) (.tmp 22) h15) zF)) ?_
  refine zN 25 (fun h16=>?_) (fun h16=>?_)
  ·refine J_g 7460 [] [(4,bv false)] [] zF ?_
   exact yE rfl
  ·refine J_d 467 [] [5,25] [(5,iv (w64 (s10+1)))] [] [] zF ?_
   exact J_q (J_b (ih (w64 (s10+1)))) rfl
 ·exact uP (hk ()) rfl
theorem wQ.ok (a1:(List Int)) (a2:(List Int)):Ok Try.prog 17 [sl 1 eU8 a1,sl 1 eU8 a2] [] ((wQ a1 a2).map fun r=>(bv r,[])):=by
 refine zO c17 Try.f17 0 26 (fun q=>?_)
 unfold wQ
 refine J_g 2 [] [(0,sl 1 eU8 a1),(1,sl 1 eU8 a2)] [] zF ?_
 refine J_d 12 [] [10] [(10,bv ((a1.length:Int) !=(a2.length:Int)))] [] [] zF ?_
 refine zN 10 (fun h3=>?_) (fun h3=>?_)
 ·refine J_g 52 [] [(4,bv false)] [] zF ?_
  exact yE rfl
 ·refine J_d 28 [] [5,10] [(5,iv 0)] [] [] zF ?_
  refine zA0 (K0:=(fun r:Bool=>some (bv r,[]))) (fun _=>rfl) (wS.ok a1 a2 q _ (fun v17=>J_j ?_) 0)
  refine J_g 30 [] [(4,bv true)] [] zF ?_
  exact yE rfl
noncomputable def c47:Code:=(Try.f47.body).getD .skip
theorem vX.ok (a1:File) (a2:File):Ok Try.prog 47 [.ag (File.enc false a1),.ag (File.enc false a2)] [] ((vX a1 a2).map fun r=>(bv r,[])):=by
 refine zO c47 Try.f47 0 16 (fun q=>?_)
 unfold vX
 refine J_g 2 [(0,0),(1,1)] [(2,pp 0),(3,pp 1)] [(0,.box (File.enc false a1)),(1,.box (File.enc false a2))] zF ?_
 refine J_d 12 [] [9] [(9,bv (!(seq a1.Path a2.Path)))] [] [] zF ?_
 refine zN 9 (fun h3=>?_) (fun h3=>?_)
 ·refine J_g 52 [] [(4,bv false)] [] zF ?_
  exact yE rfl
 ·refine zG (fun x4 h5=>?_)
  refine J_g 28 [] [(15,bv (!x4))] [] (zX 4 (uT [(.tmp 11),(.tmp 13)] [38,38] (wQ.ok a1.Data a2.Data) h5) zF) ?_
  refine zN 15 (fun h6=>?_) (fun h6=>?_)
  ·refine J_g 116 [] [(4,bv false)] [] zF ?_
   exact yE rfl
  ·refine J_g 30 [] [(4,bv true)] [] zF ?_
   exact yE rfl
noncomputable def c28:Code:=(Try.f28.body).getD .skip
theorem wV.ok (a1:(List File)) (a2:(List File)) (q:Wd) (kn:Unit→Option (D×List Ent)) (hk:∀v:Unit,J (q.g Try.prog 28 0 27) c28 (atI c28 15) (St.mk' [] []) (some v) kn):
  ∀s12:Int,J (q.g Try.prog 28 0 27) c28 (atI c28 116) (St.mk' [(0,sl 2 (File.enc false) a1),(1,sl 2 (File.enc false) a2),(5,iv s12)] []) (wV a1 a2 s12) (Fl.go (fun r:Bool=>some (bv r,[])) kn):=by
 refine zAB (fun g ih s12=>?_)
 unfold vU
 refine J_d 464 [] [14] [(14,bv (decide (s12< (a1.length:Int))))] [] [] zF ?_
 refine zN 14 (fun h13=>?_) (fun h13=>?_)
 ·refine zG (fun x14 h15=>?_)
  refine zG (fun x16 h17=>?_)
  refine zG (fun x18 h19=>?_)
  refine J_d 1864 [] [14,26] [(26,bv (!x18))] [] [] (zX 2 (zAm (kk:=.i64) 26 62 2 (File.enc false) (.tmp 17) (.tmp 18) h15) (zX 6 (zAm (kk:=.i64) 26 62 2 (File.enc false) (.tmp 21) (.tmp 22) h17) (zX 8 (uT [(.tmp 20),(.tmp 24)] [62,62] (vX.ok x14 x16) h19) zF))) ?_
  refine zN 26 (fun h20=>?_) (fun h20=>?_)
  ·refine J_g 7460 [] [(4,bv false)] [] zF ?_
   exact yE rfl
  ·refine J_d 467 [] [5,26] [(5,iv (w64 (s12+1)))] [] [] zF ?_
   exact J_q (J_b (ih (w64 (s12+1)))) rfl
 ·exact uP (hk ()) rfl
theorem wZ.ok (a1:(List File)) (a2:(List File)):Ok Try.prog 28 [sl 2 (File.enc false) a1,sl 2 (File.enc false) a2] [] ((wZ a1 a2).map fun r=>(bv r,[])):=by
 refine zO c28 Try.f28 0 27 (fun q=>?_)
 unfold wZ
 refine J_g 2 [] [(0,sl 2 (File.enc false) a1),(1,sl 2 (File.enc false) a2)] [] zF ?_
 refine J_d 12 [] [10] [(10,bv ((a1.length:Int) !=(a2.length:Int)))] [] [] zF ?_
 refine zN 10 (fun h3=>?_) (fun h3=>?_)
 ·refine J_g 52 [] [(4,bv false)] [] zF ?_
  exact yE rfl
 ·refine J_d 28 [] [5,10] [(5,iv 0)] [] [] zF ?_
  refine zA0 (K0:=(fun r:Bool=>some (bv r,[]))) (fun _=>rfl) (wV.ok a1 a2 q _ (fun v21=>J_j ?_) 0)
  refine J_g 30 [] [(4,bv true)] [] zF ?_
  exact yE rfl
noncomputable def c10:Code:=(Try.f10.body).getD .skip
theorem wG.ok (a1:zA) (a2:zA):Ok Try.prog 10 [.ag (zA.enc false a1),.ag (zA.enc false a2)] [] ((wG a1 a2).map fun r=>(bv r,[])):=by
 refine zO c10 Try.f10 0 31 (fun q=>?_)
 unfold wG
 refine J_g 2 [(0,0),(1,1)] [(2,pp 0),(3,pp 1)] [(0,.box (zA.enc false a1)),(1,.box (zA.enc false a2))] zF ?_
 refine zG (fun x3 h4=>?_)
 refine J_d 12 [] [10] [(10,bv (!x3))] [] [] (zX 4 (uT [(.tmp 6),(.tmp 8)] [26,26] (wZ.ok a1.Files a2.Files) h4) zF) ?_
 refine zN 10 (fun h5=>?_) (fun h5=>?_)
 ·refine J_g 52 [] [(4,bv false)] [] zF ?_
  exact yE rfl
 ·refine J_d 28 [] [10,15] [(15,bv (a1.Budget !=a2.Budget))] [] [] zF ?_
  refine zN 15 (fun h6=>?_) (fun h6=>?_)
  ·refine J_g 116 [] [(4,bv false)] [] zF ?_
   exact yE rfl
  ·refine J_d 60 [] [15,20] [(20,bv (a1.Writes !=a2.Writes))] [] [] zF ?_
   refine zN 20 (fun h7=>?_) (fun h7=>?_)
   ·refine J_g 244 [] [(4,bv false)] [] zF ?_
    exact yE rfl
   ·refine J_d 124 [] [20,25] [(25,bv (a1.Stop !=a2.Stop))] [] [] zF ?_
    refine zN 25 (fun h8=>?_) (fun h8=>?_)
    ·refine J_g 500 [] [(4,bv false)] [] zF ?_
     exact yE rfl
    ·refine J_g 252 [] [(30,bv (!(a1.Down==a2.Down)))] [] zF ?_
     refine zN 30 (fun h9=>?_) (fun h9=>?_)
     ·refine J_g 1012 [] [(4,bv false)] [] zF ?_
      exact yE rfl
     ·refine J_g 254 [] [(4,bv true)] [] zF ?_
      exact yE rfl
noncomputable def c9:Code:=(Try.f9.body).getD .skip
theorem zQ.ok (a1:zD) (a2:zD):Ok Try.prog 9 [.ag (zD.enc false a1),.ag (zD.enc false a2)] [] ((zQ a1 a2).map fun r=>(bv r,[])):=by
 refine zO c9 Try.f9 0 16 (fun q=>?_)
 unfold zQ
 refine J_g 2 [(0,0),(1,1)] [(2,pp 0),(3,pp 1)] [(0,.box (zD.enc false a1)),(1,.box (zD.enc false a2))] zF ?_
 refine J_d 12 [] [9] [(9,bv (a1.Code !=a2.Code))] [] [] zF ?_
 refine zN 9 (fun h3=>?_) (fun h3=>?_)
 ·refine J_g 52 [] [(4,bv false)] [] zF ?_
  exact yE rfl
 ·refine zG (fun x4 h5=>?_)
  refine J_g 28 [] [(15,bv (!x4))] [] (zX 4 (uT [(.tmp 11),(.tmp 13)] [28,28] (wG.ok a1.zA a2.zA) h5) zF) ?_
  refine zN 15 (fun h6=>?_) (fun h6=>?_)
  ·refine J_g 116 [] [(4,bv false)] [] zF ?_
   exact yE rfl
  ·refine J_g 30 [] [(4,bv true)] [] zF ?_
   exact yE rfl
noncomputable def c48:Code:=(Try.f48.body).getD .skip
theorem wM.ok (q:Wd) (kn:ByteArray→Option (D×List Ent)) (hk:∀v:ByteArray,J (q.g Try.prog 48 0 20) c48 (atI c48 31) (St.mk' [(3,sv v)] []) (some v) kn):
  ∀s6:(Int×ByteArray),J (q.g Try.prog 48 0 20) c48 (atI c48 120) (St.mk' [(0,iv s6.1),(3,sv s6.2)] []) (wM s6) kn:=by
 refine zAB (fun g ih s6=>?_)
 unfold vL
 refine J_d 480 [] [7] [(7,bv (decide (s6.1>0)))] [] [] zF ?_
 refine zN 7 (fun h7=>?_) (fun h7=>?_)
 ·refine zG (fun x8 h9=>?_)
  refine J_g 964 [] [(0,iv s6.1),(3,sv x8)] [] (zX 4 (zEZ 38 5 1 0 eU8 [IntKind.u8.wrap (w64 (48+(s6.1.tmod 10)))] [0] [(.tmp 11)] [uv (IntKind.u8.wrap (w64 (48+(s6.1.tmod 10))))]) (zX 5 (zED (xs:=[IntKind.u8.wrap (w64 (48+(s6.1.tmod 10)))]) 38 9 5 0 (.tmp 12)) (zX 7 (zES 9 9 (.tmp 13) (.tmp 14) h9) zF))) ?_
  refine J_g 965 [] [(0,iv (w64 (s6.1.tdiv 10))),(3,sv x8)] [] zF ?_
  exact J_q (J_b (ih (w64 (s6.1.tdiv 10),x8))) rfl
 ·exact uP (hk s6.2) rfl
theorem yC.ok (a1:Int):Ok Try.prog 48 [iv a1] [] ((yC a1).map fun r=>(sv r,[])):=by
 refine zO c48 Try.f48 0 20 (fun q=>?_)
 unfold yC
 refine J_g 2 [] [(0,iv a1)] [] zF ?_
 refine J_g 12 [] [(0,iv a1),(5,bv (decide (a1≤0)))] [] zF ?_
 refine zN 5 (fun h2=>?_) (fun h2=>?_)
 ·refine J_g 52 [] [(2,sv (bs [109,48]))] [] zF ?_
  exact yE rfl
 ·refine J_g 14 [] [(0,iv a1),(3,sv (bs []))] [] zF ?_
  refine zDo (wM.ok q _ (fun v10=>J_j ?_) (a1,bs []))
  refine zG (fun x11 h12=>?_)
  refine J_g 62 [] [(2,sv x11)] [] (zX 1 (zES 9 9 (.const (.string (bs [109]))) (.tmp 18) h12) zF) ?_
  exact yE rfl
noncomputable def c18:Code:=(Try.f18.body).getD .skip
theorem xP.ok (q:Wd) (kn:((List Int)×Int)→Option (D×List Ent)) (hk:∀v:((List Int)×Int),J (q.g Try.prog 18 1 20) c18 (atI c18 7) (St.mk' [(1,iv v.2)] [(0,rE 1 eU8 v.1)]) (some v) kn):
  ∀s6:((List Int)×Int×Int),J (q.g Try.prog 18 1 20) c18 (atI c18 52) (St.mk' [(0,rr 0 s6.1),(1,iv s6.2.1),(5,iv s6.2.2)] [(0,rE 1 eU8 s6.1)]) (xP s6) kn:=by
 refine zAB (fun g ih s6=>?_)
 unfold xE
 refine J_d 208 [] [9] [(9,bv (decide (s6.2.2< (s6.1.length:Int))))] [] [] zF ?_
 refine zN 9 (fun h7=>?_) (fun h7=>?_)
 ·refine zG (fun x8 h9=>?_)
  refine J_g 840 [] [(0,rr 0 s6.1),(1,iv s6.2.1),(5,iv s6.2.2)] [(0,rE 1 eU8 (s6.1.set s6.2.2.toNat (IntKind.u8.wrap (s6.2.1))))] (zX 4 (zCC (kk:=.i64) 38 5 1 0 eU8 (.tmp 12) (.tmp 13) h9) (zEY 5 (zFk (b:=IntKind.u8.wrap (s6.2.1)) 5 1 0 0 eU8 (uv (IntKind.u8.wrap (s6.2.1))) (.tmp 16) (.tmp 15) h9 rfl) zF)) ?_
  refine zE2 (σ':=St.mk' [(0,rr 0 (s6.1.set s6.2.2.toNat (IntKind.u8.wrap (s6.2.1)))),(1,iv s6.2.1),(5,iv s6.2.2)] [(0,rE 1 eU8 (s6.1.set s6.2.2.toNat (IntKind.u8.wrap (s6.2.1))))]) (by simp only [rr,List.length_set]) ?_
  refine J_g 841 [] [(0,rr 0 (s6.1.set s6.2.2.toNat (IntKind.u8.wrap (s6.2.1)))),(1,iv (w64 (s6.2.1+1))),(5,iv s6.2.2)] [(0,rE 1 eU8 (s6.1.set s6.2.2.toNat (IntKind.u8.wrap (s6.2.1))))] zF ?_
  refine J_d 211 [] [5] [(5,iv (w64 (s6.2.2+1)))] [] [] zF ?_
  exact J_q (J_b (ih (s6.1.set s6.2.2.toNat (IntKind.u8.wrap (s6.2.1)),w64 (s6.2.1+1),w64 (s6.2.2+1)))) rfl
 ·exact uP (hk (s6.1,s6.2.1)) rfl
theorem xA.ok (a1:(List Int)) (a2:Int):Ok Try.prog 18 [rr 0 a1,iv a2] [rE 1 eU8 a1] ((xA a1 a2).map fun r=>(iv r.1,[rE 1 eU8 r.2])):=by
 refine zO c18 Try.f18 1 20 (fun q=>?_)
 unfold xA
 refine J_g 2 [] [(0,rr 0 a1),(1,iv a2)] [(0,rE 1 eU8 a1)] zF ?_
 refine J_d 12 [] [5] [(5,iv 0)] [] [] zF ?_
 refine zDo (xP.ok q _ (fun v10=>J_j ?_) (a1,a2,0))
 refine J_g 14 [] [(4,iv v10.2)] [(0,rE 1 eU8 v10.1)] zF ?_
 exact yE rfl
noncomputable def c29:Code:=(Try.f29.body).getD .skip
theorem xQ.ok (q:Wd) (kn:((List File)×Int)→Option (D×List Ent)) (hk:∀v:((List File)×Int),J (q.g Try.prog 29 1 28) c29 (atI c29 7) (St.mk' [(1,iv v.2)] [(0,rE 2 (File.enc true) v.1)]) (some v) kn):
  ∀s14:((List File)×Int×Int),J (q.g Try.prog 29 1 28) c29 (atI c29 52) (St.mk' [(0,rr 0 s14.1),(1,iv s14.2.1),(5,iv s14.2.2)] [(0,rE 2 (File.enc true) s14.1)]) (xQ s14) kn:=by
 refine zAB (fun g ih s14=>?_)
 unfold xG
 refine J_d 208 [] [9] [(9,bv (decide (s14.2.2< (s14.1.length:Int))))] [] [] zF ?_
 refine zN 9 (fun h15=>?_) (fun h15=>?_)
 ·refine zG (fun x16 h17=>?_)
  refine zG (fun x18 h19=>?_)
  refine J_g 840 [] [(0,rr 0 s14.1),(1,iv s14.2.1),(5,iv s14.2.2)] [(0,rE 2 (File.enc true) (s14.1.set s14.2.2.toNat ({Path:=x16,Data:=x18.Data}:File)))] (zX 3 (uT [(.tmp 14)] [3] (yC.ok s14.2.1) h17) (zX 4 (zCC (kk:=.i64) 26 62 2 0 (File.enc true) (.tmp 12) (.tmp 13) h19) (zEY 6 (zFk (b:=({Path:=x16,Data:=x18.Data}:File)) 9 2 0 0 (File.enc true) (sv x16) (.tmp 17) (.tmp 15) h19 rfl) zF))) ?_
  refine zE2 (σ':=St.mk' [(0,rr 0 (s14.1.set s14.2.2.toNat ({Path:=x16,Data:=x18.Data}:File))),(1,iv s14.2.1),(5,iv s14.2.2)] [(0,rE 2 (File.enc true) (s14.1.set s14.2.2.toNat ({Path:=x16,Data:=x18.Data}:File)))]) (by simp only [rr,List.length_set]) ?_
  refine J_d 1682 [] [1] [(1,iv (w64 (s14.2.1+1)))] [] [] zF ?_
  refine zG (fun x20 h21=>?_)
  refine zEr (ix:=s14.2.2) (enc:=(File.enc true)) 0 1 1 h21 rfl rfl (by kernel_rfl) ?_
  refine tC [(0,rr 0 (s14.1.set s14.2.2.toNat ({Path:=x16,Data:=x18.Data}:File))),(1,iv (w64 (s14.2.1+1))),(5,iv s14.2.2)] [(0,.lent 2 ((s14.1.set s14.2.2.toNat ({Path:=x16,Data:=x18.Data}:File)).map (File.enc true)) s14.2.2.toNat 1 1 x20.Data.length),(1,rE 1 eU8 x20.Data)] (by kernel_rfl) ?_
  refine zG (fun x22 h23=>?_)
  refine J_g 1683 [] [(0,rr 0 (s14.1.set s14.2.2.toNat ({Path:=x16,Data:=x18.Data}:File))),(1,iv x22.1),(5,iv s14.2.2)] [(0,.lent 2 ((s14.1.set s14.2.2.toNat ({Path:=x16,Data:=x18.Data}:File)).map (File.enc true)) s14.2.2.toNat 1 1 x20.Data.length),(1,rE 1 eU8 x22.2)] (zX 2 (zF0 (kk:=.i64) 26 62 2 0 (File.enc true) (.tmp 20) (.tmp 21) s14.2.2.toNat 1 1 x20.Data.length h21) (zX 4 (zFr 38 0 (.tmp 23) 2 (File.enc true) (s14.1.set s14.2.2.toNat ({Path:=x16,Data:=x18.Data}:File)) s14.2.2.toNat 1 1 x20.Data.length) (zX 6 (tT («as»:=[rr 1 x20.Data,iv (w64 (s14.2.1+1))]) [(.tmp 24),(.tmp 25)] [38,3] false [(1,rE 1 eU8 x20.Data)] [1] (.cons (.rf rfl) (.cons (.same rfl) (.nil))) (xA.ok x20.Data (w64 (s14.2.1+1))) h23 (.same rfl rfl)) zF))) ?_
  refine zG (fun u24 h25=>?_)
  refine zEx (ix:=s14.2.2) (enc:=(File.enc true)) (b:=({Path:=x20.Path,Data:=x22.2}:File)) 0 1 1 h21 rfl rfl rfl rfl (zAP h25) (Nat.le_of_ble_eq_true rfl) ((List.length_map _).trans (zAP h25)) ?_
  refine tC [(0,rr 0 (s14.1.set s14.2.2.toNat ({Path:=x16,Data:=x18.Data}:File))),(1,iv x22.1),(5,iv s14.2.2)] [(0,rE 2 (File.enc true) ((s14.1.set s14.2.2.toNat ({Path:=x16,Data:=x18.Data}:File)).set s14.2.2.toNat ({Path:=x20.Path,Data:=x22.2}:File)))] (by kernel_rfl) ?_
  refine zE2 (σ':=St.mk' [(0,rr 0 ((s14.1.set s14.2.2.toNat ({Path:=x16,Data:=x18.Data}:File)).set s14.2.2.toNat ({Path:=x20.Path,Data:=x22.2}:File))),(1,iv x22.1),(5,iv s14.2.2)] [(0,rE 2 (File.enc true) ((s14.1.set s14.2.2.toNat ({Path:=x16,Data:=x18.Data}:File)).set s14.2.2.toNat ({Path:=x20.Path,Data:=x22.2}:File)))]) (by simp only [rr,List.length_set]) ?_
  refine J_d 211 [] [5] [(5,iv (w64 (s14.2.2+1)))] [] [] zF ?_
  exact J_q (J_b (ih ((s14.1.set s14.2.2.toNat ({Path:=x16,Data:=x18.Data}:File)).set s14.2.2.toNat ({Path:=x20.Path,Data:=x22.2}:File),x22.1,w64 (s14.2.2+1)))) rfl
 ·exact uP (hk (s14.1,s14.2.1)) rfl
theorem xC.ok (a1:(List File)) (a2:Int):Ok Try.prog 29 [rr 0 a1,iv a2] [rE 2 (File.enc true) a1] ((xC a1 a2).map fun r=>(iv r.1,[rE 2 (File.enc true) r.2])):=by
 refine zO c29 Try.f29 1 28 (fun q=>?_)
 unfold xC
 refine J_g 2 [] [(0,rr 0 a1),(1,iv a2)] [(0,rE 2 (File.enc true) a1)] zF ?_
 refine J_d 12 [] [5] [(5,iv 0)] [] [] zF ?_
 refine zDo (xQ.ok q _ (fun v26=>J_j ?_) (a1,a2,0))
 refine J_d 14 [] [1,4] [(4,iv v26.2)] [] [] zF ?_
 exact yE rfl
noncomputable def c11:Code:=(Try.f11.body).getD .skip
theorem yN.ok (a1:zA) (a2:Int):Ok Try.prog 11 [.ag [rr 0 a1.Files,iv a1.Budget,iv a1.Writes,iv a1.Stop,bv a1.Down],iv a2] [rE 2 (File.enc true) a1.Files] ((yN a1 a2).map fun r=>(iv r.1,[rE 2 (File.enc true) r.2])):=by
 refine zO c11 Try.f11 1 10 (fun q=>?_)
 unfold yN
 refine J_d 2 [(0,1)] [0,2] [(2,pp 1)] [1] [(1,.box [rr 0 a1.Files,iv a1.Budget,iv a1.Writes,iv a1.Stop,bv a1.Down])] zF ?_
 refine zG (fun x3 h4=>?_)
 refine J_g 6 [] [(1,iv x3.1)] [(0,rE 2 (File.enc true) x3.2)] (zX 3 (tT («as»:=[rr 0 a1.Files,iv a2]) [(.tmp 6),(.tmp 7)] [26,3] false [(0,rE 2 (File.enc true) a1.Files)] [0] (.cons (.rf rfl) (.cons (.same rfl) (.nil))) (xC.ok a1.Files a2) h4 (.same rfl rfl)) zF) ?_
 refine zG (fun u5 h6=>?_)
 refine J_d 14 [] [1,4] [(4,iv x3.1)] [] [] zF ?_
 exact yE rfl
noncomputable def c12:Code:=(Try.f12.body).getD .skip
theorem zV.ok (a1:zD) (a2:Int):Ok Try.prog 12 [.ag [iv a1.Code,rr 0 a1.zA.Files,iv a1.zA.Budget,iv a1.zA.Writes,iv a1.zA.Stop,bv a1.zA.Down],iv a2] [rE 2 (File.enc true) a1.zA.Files] ((zV a1 a2).map fun r=>(iv r.1,[rE 2 (File.enc true) r.2])):=by
 refine zO c12 Try.f12 1 10 (fun q=>?_)
 unfold zV
 refine J_d 2 [(0,1)] [0,2] [(2,pp 1)] [1] [(1,.box [iv a1.Code,rr 0 a1.zA.Files,iv a1.zA.Budget,iv a1.zA.Writes,iv a1.zA.Stop,bv a1.zA.Down])] zF ?_
 refine zG (fun x3 h4=>?_)
 refine J_g 6 [] [(1,iv x3.1)] [(0,rE 2 (File.enc true) x3.2)] (zX 3 (tT («as»:=[.ag [rr 0 a1.zA.Files,iv a1.zA.Budget,iv a1.zA.Writes,iv a1.zA.Stop,bv a1.zA.Down],iv a2]) [(.tmp 6),(.tmp 7)] [28,3] false [(0,rE 2 (File.enc true) a1.zA.Files)] [0] (.cons (.ag (.cons (.rf rfl) (.cons (.same rfl) (.cons (.same rfl) (.cons (.same rfl) (.cons (.same rfl) (.nil))))))) (.cons (.same rfl) (.nil))) (yN.ok a1.zA a2) h4 (.same rfl rfl)) zF) ?_
 refine zG (fun u5 h6=>?_)
 refine J_d 14 [] [1,4] [(4,iv x3.1)] [] [] zF ?_
 exact yE rfl
noncomputable def c64:Code:=(Try.f64.body).getD .skip
theorem xY.ok (a1:(List Int)) (q:Wd) (kn:Int→Option (D×List Ent)) (hk:∀v:Int,J (q.g Try.prog 64 0 22) c64 (atI c64 7) (St.mk' [(1,iv v)] []) (some v) kn):
  ∀s7:(Int×Int),J (q.g Try.prog 64 0 22) c64 (atI c64 52) (St.mk' [(0,sl 1 eU8 a1),(1,iv s7.1),(5,iv s7.2)] []) (xY a1 s7) (Fl.go (fun r:Int=>some (iv r,[])) kn):=by
 refine zAB (fun g ih s7=>?_)
 unfold xJ
 refine J_d 208 [] [9] [(9,bv (decide (s7.2< (a1.length:Int))))] [] [] zF ?_
 refine zN 9 (fun h8=>?_) (fun h8=>?_)
 ·refine zG (fun x9 h10=>?_)
  refine J_d 1680 [] [9,18] [(18,bv (x9 !=(IntKind.u8.wrap (s7.1))))] [] [] (zX 2 (zAm (kk:=.i64) 38 5 1 eU8 (.tmp 12) (.tmp 13) h10) zF) ?_
  refine zN 18 (fun h11=>?_) (fun h11=>?_)
  ·refine J_g 6724 [] [(4,iv (-1))] [] zF ?_
   exact yE rfl
  ·refine J_g 841 [] [(0,sl 1 eU8 a1),(1,iv (w64 (s7.1+1))),(5,iv s7.2)] [] zF ?_
   refine J_d 211 [] [5] [(5,iv (w64 (s7.2+1)))] [] [] zF ?_
   exact J_q (J_b (ih (w64 (s7.1+1),w64 (s7.2+1)))) rfl
 ·exact uP (hk s7.1) rfl
theorem xX.ok (a1:(List Int)) (a2:Int):Ok Try.prog 64 [sl 1 eU8 a1,iv a2] [] ((xX a1 a2).map fun r=>(iv r,[])):=by
 refine zO c64 Try.f64 0 22 (fun q=>?_)
 unfold xX
 refine J_g 2 [] [(0,sl 1 eU8 a1),(1,iv a2)] [] zF ?_
 refine J_d 12 [] [5] [(5,iv 0)] [] [] zF ?_
 refine zA0 (K0:=(fun r:Int=>some (iv r,[]))) (fun _=>rfl) (xY.ok a1 q _ (fun v12=>J_j ?_) (a2,0))
 refine J_g 14 [] [(4,iv v12)] [] zF ?_
 exact yE rfl
noncomputable def c49:Code:=(Try.f49.body).getD .skip
theorem xZ.ok (a1:(List File)) (q:Wd) (kn:Int→Option (D×List Ent)) (hk:∀v:Int,J (q.g Try.prog 49 0 32) c49 (atI c49 7) (St.mk' [(1,iv v)] []) (some v) kn):
  ∀s14:(Int×Int),J (q.g Try.prog 49 0 32) c49 (atI c49 52) (St.mk' [(0,sl 2 (File.enc false) a1),(1,iv s14.1),(5,iv s14.2)] []) (xZ a1 s14) (Fl.go (fun r:Int=>some (iv r,[])) kn):=by
 refine zAB (fun g ih s14=>?_)
 unfold xO
 refine J_d 208 [] [9] [(9,bv (decide (s14.2< (a1.length:Int))))] [] [] zF ?_
 refine zN 9 (fun h15=>?_) (fun h15=>?_)
 ·refine zG (fun x16 h17=>?_)
  refine zG (fun x18 h19=>?_)
  refine J_d 1680 [] [9,19] [(19,bv (!(seq x16.Path x18)))] [] [] (zX 2 (zAm (kk:=.i64) 26 62 2 (File.enc false) (.tmp 12) (.tmp 13) h17) (zX 6 (uT [(.tmp 17)] [3] (yC.ok s14.1) h19) zF)) ?_
  refine zN 19 (fun h20=>?_) (fun h20=>?_)
  ·refine J_g 6724 [] [(4,iv (-1))] [] zF ?_
   exact yE rfl
  ·refine J_d 1682 [] [1,19] [(1,iv (w64 (s14.1+1)))] [] [] zF ?_
   refine zG (fun x21 h22=>?_)
   refine zG (fun x23 h24=>?_)
   refine J_g 3366 [] [(0,sl 2 (File.enc false) a1),(1,iv x23),(5,iv s14.2)] [] (zX 2 (zAm (kk:=.i64) 26 62 2 (File.enc false) (.tmp 22) (.tmp 23) h22) (zX 6 (uT [(.tmp 26),(.tmp 27)] [38,3] (xX.ok x21.Data (w64 (s14.1+1))) h24) zF)) ?_
   refine J_d 6734 [] [30] [(30,bv (decide (x23<0)))] [] [] zF ?_
   refine zN 30 (fun h25=>?_) (fun h25=>?_)
   ·refine J_g 26940 [] [(4,iv (-1))] [] zF ?_
    exact yE rfl
   ·refine J_d 211 [] [5,30] [(5,iv (w64 (s14.2+1)))] [] [] zF ?_
    exact J_q (J_b (ih (x23,w64 (s14.2+1)))) rfl
 ·exact uP (hk s14.1) rfl
theorem xU.ok (a1:(List File)) (a2:Int):Ok Try.prog 49 [sl 2 (File.enc false) a1,iv a2] [] ((xU a1 a2).map fun r=>(iv r,[])):=by
 refine zO c49 Try.f49 0 32 (fun q=>?_)
 unfold xU
 refine J_g 2 [] [(0,sl 2 (File.enc false) a1),(1,iv a2)] [] zF ?_
 refine J_d 12 [] [5] [(5,iv 0)] [] [] zF ?_
 refine zA0 (K0:=(fun r:Int=>some (iv r,[]))) (fun _=>rfl) (xZ.ok a1 q _ (fun v26=>J_j ?_) (a2,0))
 refine J_g 14 [] [(4,iv v26)] [] zF ?_
 exact yE rfl
noncomputable def c30:Code:=(Try.f30.body).getD .skip
theorem wD.ok (a1:zA) (a2:Int):Ok Try.prog 30 [.ag (zA.enc false a1),iv a2] [] ((wD a1 a2).map fun r=>(iv r,[])):=by
 refine zO c30 Try.f30 0 12 (fun q=>?_)
 unfold wD
 refine J_g 2 [(0,0)] [(1,iv a2),(2,pp 0)] [(0,.box (zA.enc false a1))] zF ?_
 refine zG (fun x3 h4=>?_)
 refine J_g 6 [] [(1,iv x3)] [] (zX 3 (uT [(.tmp 6),(.tmp 7)] [26,3] (xU.ok a1.Files a2) h4) zF) ?_
 refine J_g 28 [] [(1,iv x3),(10,bv (decide (x3<0)))] [] zF ?_
 refine zN 10 (fun h5=>?_) (fun h5=>?_)
 ·refine J_g 116 [] [(4,iv (-1))] [] zF ?_
  exact yE rfl
 ·refine J_g 30 [] [(4,iv x3)] [] zF ?_
  exact yE rfl
noncomputable def c13:Code:=(Try.f13.body).getD .skip
theorem zR.ok (a1:zD) (a2:Int):Ok Try.prog 13 [.ag (zD.enc false a1),iv a2] [] ((zR a1 a2).map fun r=>(iv r,[])):=by
 refine zO c13 Try.f13 0 12 (fun q=>?_)
 unfold zR
 refine J_g 2 [(0,0)] [(1,iv a2),(2,pp 0)] [(0,.box (zD.enc false a1))] zF ?_
 refine zG (fun x3 h4=>?_)
 refine J_g 6 [] [(1,iv x3)] [] (zX 3 (uT [(.tmp 6),(.tmp 7)] [28,3] (wD.ok a1.zA a2) h4) zF) ?_
 refine J_g 28 [] [(1,iv x3),(10,bv (decide (x3<0)))] [] zF ?_
 refine zN 10 (fun h5=>?_) (fun h5=>?_)
 ·refine J_g 116 [] [(4,iv (-1))] [] zF ?_
  exact yE rfl
 ·refine J_g 30 [] [(4,iv x3)] [] zF ?_
  exact yE rfl
noncomputable def c3:Code:=(Try.f3.body).getD .skip
theorem zU.ok (a1:zA) (a2:ByteArray):Ok Try.prog 3 [.ag (zA.enc false a1),sv a2] [] ((zU a1 a2).map fun r=>(bv r,[])):=by
 refine zO c3 Try.f3 0 77 (fun q=>?_)
 unfold zU
 refine J_g 2 [(0,0)] [(1,sv a2),(2,pp 0)] [(0,.box (zA.enc false a1))] zF ?_
 refine J_d 12 [] [15] [(15,bv (decide ((a2.size:Int)>1048576)))] [] [] zF ?_
 refine zN 15 (fun h3=>?_) (fun h3=>?_)
 ·refine J_g 52 [] [(4,bv true)] [] zF ?_
  exact yE rfl
 ·refine J_d 14 [] [5,15] [(5,iv 1048576)] [] [] zF ?_
  refine zG (fun x4 h5=>?_)
  refine J_g 30 [] [(1,sv a2),(2,pp 0),(5,iv x4)] [(0,.box (zA.enc false a1))] (zX 2 (uT [(.tmp 16),(.tmp 17)] [24,3] (uD.ok a1 1048576) h5) zF) ?_
  refine J_d 124 [] [5,20] [(20,bv (decide (x4<0)))] [] [] zF ?_
  refine zN 20 (fun h6=>?_) (fun h6=>?_)
  ·refine J_g 500 [] [(4,bv true)] [] zF ?_
   exact yE rfl
  ·refine zG (fun x7 h8=>?_)
   refine zG (fun x9 h10=>?_)
   refine J_d 126 [(4,3)] [6,20] [(6,pp 3)] [2,3] [(2,rE 2 (File.enc false) x9.zA.Files),(3,.box [iv x9.Code,rr 2 x9.zA.Files,iv x9.zA.Budget,iv x9.zA.Writes,iv x9.zA.Stop,bv x9.zA.Down])] (zX 1 (zF9 (d2:=.ag (zA.enc false x7)) (tT («as»:=[.ag (zA.enc false a1)]) [(.tmp 21)] [24] false [] [] (.cons (.same rfl) (.nil)) (yL.ok a1) h8 (.ag (.cons (.own 1) (.cons (.same rfl rfl) (.cons (.same rfl rfl) (.cons (.same rfl rfl) (.cons (.same rfl rfl) (.nil)))))))) (.ag (.cons (.rf (Nat.le_of_eq (by simp)) (zDO (enc:=(File.enc true)) (enc':=(File.enc false)) (File.ro true) x7.Files rfl rfl)) (.cons (.keep rfl) (.cons (.keep rfl) (.cons (.keep rfl) (.cons (.keep rfl) (.nil)))))))) (zX 3 (tT («as»:=[.ag (zA.enc false x7),sv a2]) [(.tmp 22),(.tmp 23)] [28,9] false [] [] (.cons (.same rfl) (.cons (.same rfl) (.nil))) (xL.ok x7 a2) h10 (.ag (.cons (.same rfl rfl) (.cons (.own 2) (.cons (.same rfl rfl) (.cons (.same rfl rfl) (.cons (.same rfl rfl) (.cons (.same rfl rfl) (.nil))))))))) zF)) ?_
   refine zG (fun x11 h12=>?_)
   refine J_d 254 [(2,5)] [7] [(7,pp 5)] [4,5] [(4,rE 2 (File.enc true) x11.Files),(5,.box [rr 4 x11.Files,iv x11.Budget,iv x11.Writes,iv x11.Stop,bv x11.Down])] (zX 1 (tT («as»:=[.ag (zA.enc false a1)]) [(.tmp 25)] [24] false [] [] (.cons (.same rfl) (.nil)) (yL.ok a1) h12 (.ag (.cons (.own 4) (.cons (.same rfl rfl) (.cons (.same rfl rfl) (.cons (.same rfl rfl) (.cons (.same rfl rfl) (.nil)))))))) zF) ?_
   refine zG (fun x13 h14=>?_)
   refine J_d 510 [(3,7)] [8] [(8,pp 7)] [6,7] [(6,rE 2 (File.enc true) x13.zA.Files),(7,.box [iv x13.Code,rr 6 x13.zA.Files,iv x13.zA.Budget,iv x13.zA.Writes,iv x13.zA.Stop,bv x13.zA.Down])] (zX 2 (tT («as»:=[.ag [rr 4 x11.Files,iv x11.Budget,iv x11.Writes,iv x11.Stop,bv x11.Down],sv a2]) [(.tmp 27),(.tmp 28)] [28,9] true [(4,rE 2 (File.enc true) x11.Files)] [] (.cons (.ag (.cons (zCh (.head _) (File.ro true) rfl) (.cons (.same rfl) (.cons (.same rfl) (.cons (.same rfl) (.cons (.same rfl) (.nil))))))) (.cons (.same rfl) (.nil))) (yO.ok x11 a2) h14 (.ag (.cons (.same rfl rfl) (.cons (.own 6) (.cons (.same rfl rfl) (.cons (.same rfl rfl) (.cons (.same rfl rfl) (.cons (.same rfl rfl) (.nil)))))))) (hbor:=fun _=>⟨fhN,(zDg (zD.fl _))⟩)) zF) ?_
   refine zG (fun x15 h16=>?_)
   refine J_d 2044 [] [33] [(33,bv (!x15))] [] [] (zX 2 (tT («as»:=[.ag [iv x13.Code,rr 6 x13.zA.Files,iv x13.zA.Budget,iv x13.zA.Writes,iv x13.zA.Stop,bv x13.zA.Down],.ag [iv x9.Code,rr 2 x9.zA.Files,iv x9.zA.Budget,iv x9.zA.Writes,iv x9.zA.Stop,bv x9.zA.Down]]) [(.tmp 30),(.tmp 31)] [30,30] true [(6,rE 2 (File.enc true) x13.zA.Files),(2,rE 2 (File.enc false) x9.zA.Files)] [] (.cons (.ag (.cons (.same rfl) (.cons (zCh (.head _) (File.ro true) rfl) (.cons (.same rfl) (.cons (.same rfl) (.cons (.same rfl) (.cons (.same rfl) (.nil)))))))) (.cons (.ag (.cons (.same rfl) (.cons (zCh (.tail _ (.head _)) (File.ro false) rfl) (.cons (.same rfl) (.cons (.same rfl) (.cons (.same rfl) (.cons (.same rfl) (.nil)))))))) (.nil))) (zQ.ok x13 x9) h16 (.same rfl rfl) (hbor:=fun _=>⟨fhN,wE⟩)) zF) ?_
   refine zN 33 (fun h17=>?_) (fun h17=>?_)
   ·refine J_g 8180 [] [(4,bv false)] [] zF ?_
    exact yE rfl
   ·refine zG (fun x18 h19=>?_)
    refine zG (fun x20 h21=>?_)
    refine J_d 4092 [] [33,38] [(38,bv (!x20))] [] [] (zX 2 (tT («as»:=[.ag (zA.enc false a1)]) [(.tmp 35)] [24] false [] [] (.cons (.same rfl) (.nil)) (yL.ok a1) h19 (.ag (.cons (.own 8) (.cons (.same rfl rfl) (.cons (.same rfl rfl) (.cons (.same rfl rfl) (.cons (.same rfl rfl) (.nil)))))))) (zX 3 (tT («as»:=[.ag [rr 4 x11.Files,iv x11.Budget,iv x11.Writes,iv x11.Stop,bv x11.Down],.ag [rr 8 x18.Files,iv x18.Budget,iv x18.Writes,iv x18.Stop,bv x18.Down]]) [(.tmp 34),(.tmp 36)] [28,28] true [(4,rE 2 (File.enc true) x11.Files),(8,rE 2 (File.enc true) x18.Files)] [] (.cons (.ag (.cons (zCh (.head _) (File.ro true) rfl) (.cons (.same rfl) (.cons (.same rfl) (.cons (.same rfl) (.cons (.same rfl) (.nil))))))) (.cons (.ag (.cons (zCh (.tail _ (.head _)) (File.ro true) rfl) (.cons (.same rfl) (.cons (.same rfl) (.cons (.same rfl) (.cons (.same rfl) (.nil))))))) (.nil))) (wG.ok x11 x18) h21 (.same rfl rfl) (hbor:=fun _=>⟨fhN,wE⟩)) zF)) ?_
    refine zN 38 (fun h22=>?_) (fun h22=>?_)
    ·refine J_g 16372 [] [(4,bv false)] [] zF ?_
     exact yE rfl
    ·refine J_d 4094 [] [9,38] [(9,iv 1)] [] [] zF ?_
     refine zG (fun x23 h24=>?_)
     refine J_g 8190 [] [(1,sv a2),(2,pp 0),(6,pp 3),(8,pp 7),(9,iv x23.1)] [(0,.box (zA.enc false a1)),(2,rE 2 (File.enc false) x9.zA.Files),(3,.box [iv x9.Code,rr 2 x9.zA.Files,iv x9.zA.Budget,iv x9.zA.Writes,iv x9.zA.Stop,bv x9.zA.Down]),(6,rE 2 (File.enc true) x13.zA.Files),(7,.box [iv x13.Code,rr 6 x13.zA.Files,iv x13.zA.Budget,iv x13.zA.Writes,iv x13.zA.Stop,bv x13.zA.Down])] (zX 2 (tT («as»:=[.ag [rr 4 x11.Files,iv x11.Budget,iv x11.Writes,iv x11.Stop,bv x11.Down],iv 1]) [(.tmp 39),(.tmp 40)] [28,3] false [(4,rE 2 (File.enc true) x11.Files)] [4] (.cons (.ag (.cons (.rf rfl) (.cons (.same rfl) (.cons (.same rfl) (.cons (.same rfl) (.cons (.same rfl) (.nil))))))) (.cons (.same rfl) (.nil))) (yN.ok x11 1) h24 (.same rfl rfl)) zF) ?_
     refine uW (atI c3 32765) (fun v28:Bool=>St.mk' [(1,sv a2),(2,pp 0),(6,pp 3),(8,pp 7),(49,bv v28)] [(0,.box (zA.enc false a1)),(2,rE 2 (File.enc false) x9.zA.Files),(3,.box [iv x9.Code,rr 2 x9.zA.Files,iv x9.zA.Budget,iv x9.zA.Writes,iv x9.zA.Stop,bv x9.zA.Down]),(6,rE 2 (File.enc true) x13.zA.Files),(7,.box [iv x13.Code,rr 6 x13.zA.Files,iv x13.zA.Budget,iv x13.zA.Writes,iv x13.zA.Stop,bv x13.zA.Down])]) (fun v28=>?_) (fun jv28=>?_)
     ·refine zN 49 (fun h29=>?_) (fun h29=>?_)
      ·refine J_g 131060 [] [(4,bv false)] [] zF ?_
       exact yE rfl
      ·refine J_d 32766 [] [10,49] [(10,iv 1)] [] [] zF ?_
       refine zG (fun x30 h31=>?_)
       refine J_g 65534 [] [(1,sv a2),(2,pp 0),(6,pp 3),(8,pp 7),(10,iv x30.1)] [(0,.box (zA.enc false a1)),(2,rE 2 (File.enc false) x9.zA.Files),(3,.box [iv x9.Code,rr 2 x9.zA.Files,iv x9.zA.Budget,iv x9.zA.Writes,iv x9.zA.Stop,bv x9.zA.Down]),(6,rE 2 (File.enc true) x30.2),(7,.box [iv x13.Code,rr 6 x13.zA.Files,iv x13.zA.Budget,iv x13.zA.Writes,iv x13.zA.Stop,bv x13.zA.Down])] (zX 2 (tT («as»:=[.ag [iv x13.Code,rr 6 x13.zA.Files,iv x13.zA.Budget,iv x13.zA.Writes,iv x13.zA.Stop,bv x13.zA.Down],iv 1]) [(.tmp 50),(.tmp 51)] [30,3] false [(6,rE 2 (File.enc true) x13.zA.Files)] [6] (.cons (.ag (.cons (.same rfl) (.cons (.rf rfl) (.cons (.same rfl) (.cons (.same rfl) (.cons (.same rfl) (.cons (.same rfl) (.nil)))))))) (.cons (.same rfl) (.nil))) (zV.ok x13 1) h31 (.same rfl rfl)) zF) ?_
       refine zG (fun u32 h33=>?_)
       refine zE2 (σ':=St.mk' [(1,sv a2),(2,pp 0),(6,pp 3),(8,pp 7),(10,iv x30.1)] [(0,.box (zA.enc false a1)),(2,rE 2 (File.enc false) x9.zA.Files),(3,.box [iv x9.Code,rr 2 x9.zA.Files,iv x9.zA.Budget,iv x9.zA.Writes,iv x9.zA.Stop,bv x9.zA.Down]),(6,rE 2 (File.enc true) x30.2),(7,.box [iv x13.Code,rr 6 x30.2,iv x13.zA.Budget,iv x13.zA.Writes,iv x13.zA.Stop,bv x13.zA.Down])]) (by simp only [rr,zAP h33]) ?_
       refine J_d 131070 [] [11] [(11,iv 1)] [] [] zF ?_
       refine zG (fun x34 h35=>?_)
       refine J_g 262142 [] [(1,sv a2),(2,pp 0),(6,pp 3),(8,pp 7),(10,iv x30.1),(11,iv x34)] [(0,.box (zA.enc false a1)),(2,rE 2 (File.enc false) x9.zA.Files),(3,.box [iv x9.Code,rr 2 x9.zA.Files,iv x9.zA.Budget,iv x9.zA.Writes,iv x9.zA.Stop,bv x9.zA.Down]),(6,rE 2 (File.enc true) x30.2),(7,.box [iv x13.Code,rr 6 x30.2,iv x13.zA.Budget,iv x13.zA.Writes,iv x13.zA.Stop,bv x13.zA.Down])] (zX 2 (tT («as»:=[.ag [iv x13.Code,rr 6 x30.2,iv x13.zA.Budget,iv x13.zA.Writes,iv x13.zA.Stop,bv x13.zA.Down],iv 1]) [(.tmp 53),(.tmp 54)] [30,3] true [(6,rE 2 (File.enc true) x30.2)] [] (.cons (.ag (.cons (.same rfl) (.cons (zCh (.head _) (File.ro true) rfl) (.cons (.same rfl) (.cons (.same rfl) (.cons (.same rfl) (.cons (.same rfl) (.nil)))))))) (.cons (.same rfl) (.nil))) (zR.ok ({Code:=x13.Code,zA:=({Files:=x30.2,Budget:=x13.zA.Budget,Writes:=x13.zA.Writes,Stop:=x13.zA.Stop,Down:=x13.zA.Down}:zA)}:zD) 1) h35 (.same rfl rfl) (hbor:=fun _=>⟨fhN,wE⟩)) zF) ?_
       refine J_d 1048572 [] [57] [(57,bv (decide (x34<0)))] [] [] zF ?_
       refine zN 57 (fun h36=>?_) (fun h36=>?_)
       ·refine J_g 4194292 [] [(4,bv false)] [] zF ?_
        exact yE rfl
       ·refine J_d 2097148 [] [11,57,60] [(60,bv (x34 !=x30.1))] [] [] zF ?_
        refine zN 60 (fun h37=>?_) (fun h37=>?_)
        ·refine J_g 8388596 [] [(4,bv false)] [] zF ?_
         exact yE rfl
        ·refine zG (fun x38 h39=>?_)
         refine zG (fun x40 h41=>?_)
         refine J_d 2097150 [(4,10)] [1,2,12,60] [(12,pp 10)] [0,9,10] [(9,rE 2 (File.enc true) x40.zA.Files),(10,.box [iv x40.Code,rr 9 x40.zA.Files,iv x40.zA.Budget,iv x40.zA.Writes,iv x40.zA.Stop,bv x40.zA.Down])] (zX 1 (tT («as»:=[.ag (zA.enc false a1)]) [(.tmp 61)] [24] false [] [] (.cons (.same rfl) (.nil)) (yL.ok a1) h39 (.ag (.cons (.own 8) (.cons (.same rfl rfl) (.cons (.same rfl rfl) (.cons (.same rfl rfl) (.cons (.same rfl rfl) (.nil)))))))) (zX 3 (tT («as»:=[.ag [rr 8 x38.Files,iv x38.Budget,iv x38.Writes,iv x38.Stop,bv x38.Down],sv a2]) [(.tmp 62),(.tmp 63)] [28,9] true [(8,rE 2 (File.enc true) x38.Files)] [] (.cons (.ag (.cons (zCh (.head _) (File.ro true) rfl) (.cons (.same rfl) (.cons (.same rfl) (.cons (.same rfl) (.cons (.same rfl) (.nil))))))) (.cons (.same rfl) (.nil))) (yO.ok x38 a2) h41 (.ag (.cons (.same rfl rfl) (.cons (.own 9) (.cons (.same rfl rfl) (.cons (.same rfl rfl) (.cons (.same rfl rfl) (.cons (.same rfl rfl) (.nil)))))))) (hbor:=fun _=>⟨fhN,(zDg (zD.fl _))⟩)) zF)) ?_
         refine zG (fun x42 h43=>?_)
         refine J_d 8388604 [] [6,12,68] [(68,bv (!x42))] [2,3,9,10] [] (zX 2 (tT («as»:=[.ag [iv x40.Code,rr 9 x40.zA.Files,iv x40.zA.Budget,iv x40.zA.Writes,iv x40.zA.Stop,bv x40.zA.Down],.ag [iv x9.Code,rr 2 x9.zA.Files,iv x9.zA.Budget,iv x9.zA.Writes,iv x9.zA.Stop,bv x9.zA.Down]]) [(.tmp 65),(.tmp 66)] [30,30] true [(9,rE 2 (File.enc true) x40.zA.Files),(2,rE 2 (File.enc false) x9.zA.Files)] [] (.cons (.ag (.cons (.same rfl) (.cons (zCh (.head _) (File.ro true) rfl) (.cons (.same rfl) (.cons (.same rfl) (.cons (.same rfl) (.cons (.same rfl) (.nil)))))))) (.cons (.ag (.cons (.same rfl) (.cons (zCh (.tail _ (.head _)) (File.ro false) rfl) (.cons (.same rfl) (.cons (.same rfl) (.cons (.same rfl) (.cons (.same rfl) (.nil)))))))) (.nil))) (zQ.ok x40 x9) h43 (.same rfl rfl) (hbor:=fun _=>⟨fhN,wE⟩)) zF) ?_
         refine zN 68 (fun h44=>?_) (fun h44=>?_)
         ·refine J_g 33554420 [] [(4,bv false)] [] zF ?_
          exact yE rfl
         ·refine J_d 8388606 [] [11,68] [(11,iv 1)] [] [] zF ?_
          refine zG (fun x45 h46=>?_)
          refine J_g 16777214 [] [(10,iv x30.1),(11,iv x45)] [] (zX 2 (tT («as»:=[.ag [iv x13.Code,rr 6 x30.2,iv x13.zA.Budget,iv x13.zA.Writes,iv x13.zA.Stop,bv x13.zA.Down],iv 1]) [(.tmp 69),(.tmp 70)] [30,3] true [(6,rE 2 (File.enc true) x30.2)] [] (.cons (.ag (.cons (.same rfl) (.cons (zCh (.head _) (File.ro true) rfl) (.cons (.same rfl) (.cons (.same rfl) (.cons (.same rfl) (.cons (.same rfl) (.nil)))))))) (.cons (.same rfl) (.nil))) (zR.ok ({Code:=x13.Code,zA:=({Files:=x30.2,Budget:=x13.zA.Budget,Writes:=x13.zA.Writes,Stop:=x13.zA.Stop,Down:=x13.zA.Down}:zA)}:zD) 1) h46 (.same rfl rfl) (hbor:=fun _=>⟨fhN,wE⟩)) zF) ?_
          refine J_d 67108860 [] [73] [(73,bv (decide (x45<0)))] [] [] zF ?_
          refine zN 73 (fun h47=>?_) (fun h47=>?_)
          ·refine J_g 268435444 [] [(4,bv false)] [] zF ?_
           exact yE rfl
          ·refine J_g 134217724 [] [(76,bv (x45 !=x30.1))] [] zF ?_
           refine zN 76 (fun h48=>?_) (fun h48=>?_)
           ·refine J_g 536870900 [] [(4,bv false)] [] zF ?_
            exact yE rfl
           ·refine J_g 134217726 [] [(4,bv true)] [] zF ?_
            exact yE rfl
     ·refine vO (fun h25=>?_) (fun h25=>?_)
      ·refine J_d 32764 [] [9,49] [(49,bv true)] [] [] (wJ 2 [(43,bv (decide (x23.1<0)))] [] h25 zF) ?_
       exact uP (J_j (jv28 true)) rfl
      ·refine zG (fun x26 h27=>?_)
       refine J_d 32764 [] [9,49] [(49,bv (!x26))] [] [] (wJ 2 [(43,bv (decide (x23.1<0)))] [] h25 (zBX 5 2 44 false (tT («as»:=[.ag [iv x13.Code,rr 6 x13.zA.Files,iv x13.zA.Budget,iv x13.zA.Writes,iv x13.zA.Stop,bv x13.zA.Down],.ag [iv x9.Code,rr 2 x9.zA.Files,iv x9.zA.Budget,iv x9.zA.Writes,iv x9.zA.Stop,bv x9.zA.Down]]) [(.tmp 45),(.tmp 46)] [30,30] true [(6,rE 2 (File.enc true) x13.zA.Files),(2,rE 2 (File.enc false) x9.zA.Files)] [] (.cons (.ag (.cons (.same rfl) (.cons (zCh (.head _) (File.ro true) rfl) (.cons (.same rfl) (.cons (.same rfl) (.cons (.same rfl) (.cons (.same rfl) (.nil)))))))) (.cons (.ag (.cons (.same rfl) (.cons (zCh (.tail _ (.head _)) (File.ro false) rfl) (.cons (.same rfl) (.cons (.same rfl) (.cons (.same rfl) (.cons (.same rfl) (.nil)))))))) (.nil))) (zQ.ok x13 x9) h27 (.same rfl rfl) (hbor:=fun _=>⟨fhN,wE⟩)) zF)) ?_
       exact uP (J_j (jv28 (!x26))) rfl
end Go.Told

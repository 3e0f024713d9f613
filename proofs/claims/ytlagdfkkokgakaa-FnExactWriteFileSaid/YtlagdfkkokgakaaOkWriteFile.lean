import Derived.Test.YtlagdfkkokgakaaToldWriteFile
import Derived.Test.YtlagdfkkokgakaaShelfWriteFile
import Derived.Test.YtlagdfkkokgakaaProg
import Derived.Deep.LoopGhost
import Derived.Deep.RegionLaw
import Derived.Laws.Externs
import Derived.Laws.IdiomCopy
import Derived.Laws.NewBlocks
import Derived.Lib.AppendZeros
import Derived.Lib.AppendZerosOnto
import Derived.Lib.JoinLaws
import Derived.Lib.Overlaps
import Derived.Lib.SliceRun
import Derived.Lib.SlicesDelete
import Derived.Lib.Walk
import Derived.Shelf.Lays2
import Derived.Shelf.RegionOpenPlain
import Derived.Shelf.Spec.SlicesInsert
import Derived.Sort.WalkB12
import Derived.WalkKit
set_option linter.unusedVariables false
set_option maxRecDepth 4000
namespace Go.Told
open Go Go.Im Go.Proofs
noncomputable def c57:Code:=(Try.f57.body).getD .skip
theorem vO.ok (a1:(List Int)) (a2:Int):Ok Try.prog 57 [sl 1 eU8 a1,iv a2] [] ((vO a1 a2).map fun r=>(iv r,[])):=by
 refine zO c57 Try.f57 0 12 (fun q=>?_)
 unfold vO
 refine J_g 2 [] [(0,sl 1 eU8 a1),(1,iv a2)] [] zD ?_
 refine J_g 6 [] [(1,iv (w64 (a2-(a1.length:Int))))] [] zD ?_
 refine J_d 28 [] [10] [(10,bv (decide ((w64 (a2-(a1.length:Int)))<0)))] [] [] zD ?_
 refine zN 10 (fun h3=>?_) (fun h3=>?_)
 ·refine J_g 116 [] [(4,iv (-1))] [] zD ?_
  exact yJ rfl
 ·refine J_g 30 [] [(4,iv (w64 (a2-(a1.length:Int))))] [] zD ?_
  exact yJ rfl
noncomputable def c36:Code:=(Try.f36.body).getD .skip
theorem uN.ok (a1:File) (a2:Int):Ok Try.prog 36 [.ag (File.enc false a1),iv a2] [] ((uN a1 a2).map fun r=>(iv r,[])):=by
 refine zO c36 Try.f36 0 19 (fun q=>?_)
 unfold uN
 refine J_g 2 [(0,0)] [(1,iv a2),(2,pp 0)] [(0,.box (File.enc false a1))] zD ?_
 refine J_g 6 [] [(1,iv (w64 (a2-(a1.Path.size:Int)))),(2,pp 0)] [(0,.box (File.enc false a1))] zD ?_
 refine J_d 28 [] [11] [(11,bv (decide ((w64 (a2-(a1.Path.size:Int)))<0)))] [] [] zD ?_
 refine zN 11 (fun h3=>?_) (fun h3=>?_)
 ·refine J_g 116 [] [(4,iv (-1))] [] zD ?_
  exact yJ rfl
 ·refine zG (fun x4 h5=>?_)
  refine J_g 30 [] [(1,iv x4)] [] (zU 3 (tF [(.tmp 13),(.tmp 14)] [38,3] (vO.ok a1.Data (w64 (a2-(a1.Path.size:Int)))) h5) zD) ?_
  refine J_g 124 [] [(1,iv x4),(17,bv (decide (x4<0)))] [] zD ?_
  refine zN 17 (fun h6=>?_) (fun h6=>?_)
  ·refine J_g 500 [] [(4,iv (-1))] [] zD ?_
   exact yJ rfl
  ·refine J_g 126 [] [(4,iv x4)] [] zD ?_
   exact yJ rfl
noncomputable def c19:Code:=(Try.f19.body).getD .skip
theorem vK.ok (a1:(List File)) (q:Wd) (kn:Int→Option (D×List Ent)) (hk:∀v:Int,J (q.g Try.prog 19 0 27) c19 (atI c19 31) (St.mk' [(1,iv v)] []) (some v) kn):
  ∀s10:(Int×Int),J (q.g Try.prog 19 0 27) c19 (atI c19 244) (St.mk' [(0,sl 2 (File.enc false) a1),(1,iv s10.1),(5,iv s10.2)] []) (vK a1 s10) (Fl.go (fun r:Int=>some (iv r,[])) kn):=by
 refine zAF (fun g ih s10=>?_)
 unfold wZ
 refine J_d 976 [] [15] [(15,bv (decide (s10.2< (a1.length:Int))))] [] [] zD ?_
 refine zN 15 (fun h11=>?_) (fun h11=>?_)
 ·refine zG (fun x12 h13=>?_)
  refine zG (fun x14 h15=>?_)
  refine J_g 3912 [] [(0,sl 2 (File.enc false) a1),(1,iv x14),(5,iv s10.2)] [] (zU 2 (zAk (kk:=.i64) 22 61 2 (File.enc false) (.tmp 18) (.tmp 19) h13) (zU 5 (tF [(.tmp 21),(.tmp 22)] [61,3] (uN.ok x12 s10.1) h15) zD)) ?_
  refine J_d 7826 [] [25] [(25,bv (decide (x14<0)))] [] [] zD ?_
  refine zN 25 (fun h16=>?_) (fun h16=>?_)
  ·refine J_g 31308 [] [(4,iv (-1))] [] zD ?_
   exact yJ rfl
  ·refine J_d 979 [] [5,25] [(5,iv (w64 (s10.2+1)))] [] [] zD ?_
   exact J_q (J_b (ih (x14,w64 (s10.2+1)))) rfl
 ·exact vS (hk s10.1) rfl
theorem vL.ok (a1:(List File)) (a2:Int):Ok Try.prog 19 [sl 2 (File.enc false) a1,iv a2] [] ((vL a1 a2).map fun r=>(iv r,[])):=by
 refine zO c19 Try.f19 0 27 (fun q=>?_)
 unfold vL
 refine J_g 2 [] [(0,sl 2 (File.enc false) a1),(1,iv a2)] [] zD ?_
 refine J_g 6 [] [(0,sl 2 (File.enc false) a1),(1,iv (w64 (a2-(a1.length:Int))))] [] zD ?_
 refine J_d 28 [] [11] [(11,bv (decide ((w64 (a2-(a1.length:Int)))<0)))] [] [] zD ?_
 refine zN 11 (fun h3=>?_) (fun h3=>?_)
 ·refine J_g 116 [] [(4,iv (-1))] [] zD ?_
  exact yJ rfl
 ·refine J_d 60 [] [5,11] [(5,iv 0)] [] [] zD ?_
  refine zAH (K0:=(fun r:Int=>some (iv r,[]))) (fun _=>rfl) (vK.ok a1 q _ (fun v17=>J_j ?_) (w64 (a2-(a1.length:Int)),0))
  refine J_g 62 [] [(4,iv v17)] [] zD ?_
  exact yJ rfl
noncomputable def c5:Code:=(Try.f5.body).getD .skip
theorem uM.ok (a1:zA) (a2:Int):Ok Try.prog 5 [.ag (zA.enc false a1),iv a2] [] ((uM a1 a2).map fun r=>(iv r,[])):=by
 refine zO c5 Try.f5 0 12 (fun q=>?_)
 unfold uM
 refine J_g 2 [(0,0)] [(1,iv a2),(2,pp 0)] [(0,.box (zA.enc false a1))] zD ?_
 refine zG (fun x3 h4=>?_)
 refine J_g 6 [] [(1,iv x3)] [] (zU 3 (tF [(.tmp 6),(.tmp 7)] [22,3] (vL.ok a1.Files a2) h4) zD) ?_
 refine J_g 28 [] [(1,iv x3),(10,bv (decide (x3<0)))] [] zD ?_
 refine zN 10 (fun h5=>?_) (fun h5=>?_)
 ·refine J_g 116 [] [(4,iv (-1))] [] zD ?_
  exact yJ rfl
 ·refine J_g 30 [] [(4,iv x3)] [] zD ?_
  exact yJ rfl
noncomputable def c15:Code:=(Try.f15.body).getD .skip
theorem vF.ok (a1:(List Int)) (q:Wd) (kn:(List Int)→Option (D×List Ent)) (hk:∀v:(List Int),J (q.g Try.prog 15 0 22) c15 (atI c15 15) (St.mk' [(3,rr 0 v)] [(0,rE 1 eU8 v)]) (some v) kn):
  ∀s9:((List Int)×Int),J (q.g Try.prog 15 0 22) c15 (atI c15 116) (St.mk' [(0,sl 1 eU8 a1),(3,rr 0 s9.1),(4,iv s9.2)] [(0,rE 1 eU8 s9.1)]) (vF a1 s9) kn:=by
 refine zAF (fun g ih s9=>?_)
 unfold uD
 refine J_d 464 [] [11] [(11,bv (decide (s9.2< (a1.length:Int))))] [] [] zD ?_
 refine zN 11 (fun h10=>?_) (fun h10=>?_)
 ·refine zG (fun x11 h12=>?_)
  refine zG (fun x13 h14=>?_)
  refine J_g 932 [] [(0,sl 1 eU8 a1),(3,rr 0 s9.1),(4,iv s9.2)] [(0,rE 1 eU8 (s9.1.set s9.2.toNat x11))] (zU 4 (zAk (kk:=.i64) 38 5 1 eU8 (.tmp 16) (.tmp 17) h12) (zU 6 (zAJ (kk:=.i64) 38 5 1 0 eU8 (.tmp 14) (.tmp 15) h14) (zEY 7 (zFA (b:=x11) 5 1 0 0 eU8 (uv x11) (.tmp 20) (.tmp 19) h14 rfl) zD))) ?_
  refine zEm (σ':=St.mk' [(0,sl 1 eU8 a1),(3,rr 0 (s9.1.set s9.2.toNat x11)),(4,iv s9.2)] [(0,rE 1 eU8 (s9.1.set s9.2.toNat x11))]) (by simp only [rr,List.length_set]) ?_
  refine J_d 467 [] [4] [(4,iv (w64 (s9.2+1)))] [] [] zD ?_
  exact J_q (J_b (ih (s9.1.set s9.2.toNat x11,w64 (s9.2+1)))) rfl
 ·exact vS (hk s9.1) rfl
theorem zW.ok (a1:(List Int)):Ok Try.prog 15 [sl 1 eU8 a1] [] ((zW a1).map fun r=>(so 1 eU8 r,[])):=by
 refine zO c15 Try.f15 0 22 (fun q=>?_)
 unfold zW
 refine J_g 2 [] [(0,sl 1 eU8 a1)] [] zD ?_
 refine zG (fun x2 h3=>?_)
 refine J_g 6 [] [(0,sl 1 eU8 a1),(3,rr 0 x2)] [(0,rE 1 eU8 x2)] (zU 2 (zFT 38 5 1 1 0 eU8 0 (.tmp 6) h3 (.keep rfl (.nil))) zD) ?_
 refine J_d 28 [] [4] [(4,iv 0)] [] [] zD ?_
 refine zCX (vF.ok a1 q _ (fun v15=>J_j ?_) (x2,0))
 refine J_g 30 [] [(2,rr 0 v15)] [(0,rE 1 eU8 v15)] zD ?_
 exact zA7 (ds:=[rr 0 v15]) (ds':=[so 1 eU8 v15]) (.cons (.cell (.move (.head _) (List.length_map _) (by decide) (.nil))) (.nil) (by decide)) rfl
noncomputable def c39:Code:=(Try.f39.body).getD .skip
theorem uI.ok (a1:File):Ok Try.prog 39 [.ag (File.enc false a1)] [] ((uI a1).map fun r=>(.ag [sv r.Path,so 1 eU8 r.Data],[])):=by
 refine zO c39 Try.f39 0 12 (fun q=>?_)
 unfold uI
 refine J_g 2 [(0,0),(1,1)] [(1,pp 0),(2,pp 1)] [(0,.box (File.enc false a1)),(1,.box [sv ByteArray.empty,nv])] zD ?_
 refine J_g 6 [(0,2)] [(1,pp 0),(2,pp 1),(3,pp 2)] [(0,.box (File.enc false a1)),(1,.box [sv ByteArray.empty,nv]),(2,.box [sv ByteArray.empty,nv])] zD ?_
 refine J_d 14 [] [] [] [2] [(2,.box [sv a1.Path,nv])] zD ?_
 refine zG (fun x2 h3=>?_)
 refine J_g 30 [] [(2,pp 1),(3,pp 2)] [(1,.box [sv ByteArray.empty,nv]),(2,.box [sv a1.Path,rr 3 x2]),(3,rE 1 eU8 x2)] (zU 2 (tK («as»:=[sl 1 eU8 a1.Data]) [(.tmp 8)] [38] false [] [] (.cons (.same rfl) (.nil)) (zW.ok a1.Data) h3 (.own 3)) zD) ?_
 refine J_g 62 [] [(2,pp 1)] [(1,.box [sv a1.Path,rr 3 x2]),(3,rE 1 eU8 x2)] zD ?_
 exact zA7 (ds:=[.ag [sv a1.Path,rr 3 x2]]) (ds':=[.ag [sv a1.Path,so 1 eU8 x2]]) (.cons (.ag (.keep rfl (.move (.tail _ (.head _)) (List.length_map _) (by decide) (.nil)))) (.nil) (by decide)) rfl
noncomputable def c24:Code:=(Try.f24.body).getD .skip
theorem vH.ok (a1:(List File)) (q:Wd) (kn:(List File)→Option (D×List Ent)) (hk:∀v:(List File),J (q.g Try.prog 24 0 23) c24 (atI c24 15) (St.mk' [(3,rr 0 v)] [(0,rE 2 (File.enc true) v)]) (some v) kn):
  ∀s11:((List File)×Int),J (q.g Try.prog 24 0 23) c24 (atI c24 116) (St.mk' [(0,sl 2 (File.enc false) a1),(3,rr 0 s11.1),(4,iv s11.2)] [(0,rE 2 (File.enc true) s11.1)]) (vH a1 s11) kn:=by
 refine zAF (fun g ih s11=>?_)
 unfold uE
 refine J_d 464 [] [11] [(11,bv (decide (s11.2< (a1.length:Int))))] [] [] zD ?_
 refine zN 11 (fun h12=>?_) (fun h12=>?_)
 ·refine zG (fun x13 h14=>?_)
  refine zG (fun x15 h16=>?_)
  refine zG (fun x17 h18=>?_)
  refine J_g 932 [] [(0,sl 2 (File.enc false) a1),(3,rr 0 s11.1),(4,iv s11.2)] [(0,rE 2 (File.enc true) (s11.1.set s11.2.toNat x15))] (zU 4 (zAk (kk:=.i64) 22 61 2 (File.enc false) (.tmp 16) (.tmp 17) h14) (zU 6 (tK («as»:=[.ag (File.enc false x13)]) [(.tmp 19)] [61] false [] [] (.cons (.same rfl) (.nil)) (uI.ok x13) h16 (.ag (.cons (.same rfl rfl) (.cons (.own 1) (.nil))))) (zU 7 (zAJ (kk:=.i64) 26 62 2 0 (File.enc true) (.tmp 14) (.tmp 15) h18) (zEY 8 (zE0 (b:=x15) (es':=[sv x15.Path,so 1 eU8 x15.Data]) (ts:=[1]) 62 2 0 0 (File.enc true) (.ag [sv x15.Path,rr 1 x15.Data]) (.tmp 21) (.tmp 20) [(1,rE 1 eU8 x15.Data)] h18 (.keep rfl (.move (.head _) (List.length_map _) (by decide) (.nil))) rfl) zD)))) ?_
  refine zEm (σ':=St.mk' [(0,sl 2 (File.enc false) a1),(3,rr 0 (s11.1.set s11.2.toNat x15)),(4,iv s11.2)] [(0,rE 2 (File.enc true) (s11.1.set s11.2.toNat x15))]) (by simp only [rr,List.length_set]) ?_
  refine J_d 467 [] [4] [(4,iv (w64 (s11.2+1)))] [] [] zD ?_
  exact J_q (J_b (ih (s11.1.set s11.2.toNat x15,w64 (s11.2+1)))) rfl
 ·exact vS (hk s11.1) rfl
theorem vG.ok (a1:(List File)):Ok Try.prog 24 [sl 2 (File.enc false) a1] [] ((vG a1).map fun r=>(so 2 (File.enc true) r,[])):=by
 refine zO c24 Try.f24 0 23 (fun q=>?_)
 unfold vG
 refine J_d 2 [] [] [] [] [] zD ?_
 refine zG (fun x2 h3=>?_)
 refine J_g 6 [] [(0,sl 2 (File.enc false) a1),(3,rr 0 x2)] [(0,rE 2 (File.enc true) x2)] (zU 2 (zFT 26 62 2 40 0 (File.enc true) ({Path:=ByteArray.empty,Data:=([]:List Int)}:File) (.tmp 6) h3 (.keep rfl (.nilsl true 1 (.nil)))) zD) ?_
 refine J_d 28 [] [4] [(4,iv 0)] [] [] zD ?_
 refine zCX (vH.ok a1 q _ (fun v19=>J_j ?_) (x2,0))
 refine J_g 30 [] [(2,rr 0 v19)] [(0,rE 2 (File.enc true) v19)] zD ?_
 exact zA7 (ds:=[rr 0 v19]) (ds':=[so 2 (File.enc true) v19]) (.cons (.cell (.move (.head _) (List.length_map _) (by decide) (.nil))) (.nil) (by decide)) rfl
noncomputable def c7:Code:=(Try.f7.body).getD .skip
theorem yS.ok (a1:zA):Ok Try.prog 7 [.ag (zA.enc false a1)] [] ((yS a1).map fun r=>(.ag (zA.enc true r),[])):=by
 refine zO c7 Try.f7 0 21 (fun q=>?_)
 unfold yS
 refine J_g 2 [(0,0),(1,1)] [(1,pp 0),(2,pp 1)] [(0,.box (zA.enc false a1)),(1,.box [nv,iv 0,iv 0,iv 0,bv false])] zD ?_
 refine J_d 6 [(0,2)] [3] [(3,pp 2)] [2] [(2,.box [nv,iv 0,iv 0,iv 0,bv false])] zD ?_
 refine zG (fun x2 h3=>?_)
 refine J_g 14 [] [(1,pp 0),(2,pp 1),(3,pp 2)] [(0,.box (zA.enc false a1)),(1,.box [nv,iv 0,iv 0,iv 0,bv false]),(2,.box [rr 3 x2,iv 0,iv 0,iv 0,bv false]),(3,rE 2 (File.enc true) x2)] (zU 2 (tK («as»:=[sl 2 (File.enc false) a1.Files]) [(.tmp 5)] [22] false [] [] (.cons (.same rfl) (.nil)) (vG.ok a1.Files) h3 (.own 3)) zD) ?_
 refine J_g 30 [] [(1,pp 0),(2,pp 1),(3,pp 2)] [(0,.box (zA.enc false a1)),(1,.box [nv,iv 0,iv 0,iv 0,bv false]),(2,.box [rr 3 x2,iv a1.Budget,iv 0,iv 0,bv false]),(3,rE 2 (File.enc true) x2)] zD ?_
 refine J_g 62 [] [(1,pp 0),(2,pp 1),(3,pp 2)] [(0,.box (zA.enc false a1)),(1,.box [nv,iv 0,iv 0,iv 0,bv false]),(2,.box [rr 3 x2,iv a1.Budget,iv a1.Writes,iv 0,bv false]),(3,rE 2 (File.enc true) x2)] zD ?_
 refine J_g 126 [] [(1,pp 0),(2,pp 1),(3,pp 2)] [(0,.box (zA.enc false a1)),(1,.box [nv,iv 0,iv 0,iv 0,bv false]),(2,.box [rr 3 x2,iv a1.Budget,iv a1.Writes,iv a1.Stop,bv false]),(3,rE 2 (File.enc true) x2)] zD ?_
 refine J_g 254 [] [(2,pp 1),(3,pp 2)] [(1,.box [nv,iv 0,iv 0,iv 0,bv false]),(2,.box [rr 3 x2,iv a1.Budget,iv a1.Writes,iv a1.Stop,bv a1.Down]),(3,rE 2 (File.enc true) x2)] zD ?_
 refine J_g 510 [] [(2,pp 1)] [(1,.box [rr 3 x2,iv a1.Budget,iv a1.Writes,iv a1.Stop,bv a1.Down]),(3,rE 2 (File.enc true) x2)] zD ?_
 exact zA7 (ds:=[.ag [rr 3 x2,iv a1.Budget,iv a1.Writes,iv a1.Stop,bv a1.Down]]) (ds':=[.ag [so 2 (File.enc true) x2,iv a1.Budget,iv a1.Writes,iv a1.Stop,bv a1.Down]]) (.cons (.ag (.move (.tail _ (.head _)) (List.length_map _) (by decide) (.keep rfl (.keep rfl (.keep rfl (.keep rfl (.nil))))))) (.nil) (by decide)) rfl
noncomputable def c58:Code:=(Try.f58.body).getD .skip
theorem xW.ok (a1:Int) (a2:Int) (a3:Int):Ok Try.prog 58 [iv a1,iv a2,iv a3] [] ((xW a1 a2 a3).map fun r=>(bv r,[])):=by
 refine zO c58 Try.f58 0 15 (fun q=>?_)
 unfold xW
 refine J_d 2 [] [] [] [] [] zD ?_
 refine wS (fun h4=>?_) (fun h4=>?_)
 ·refine J_g 6 [] [(6,bv (decide (a1≤a3)))] [] (xS 3 [(9,bv (decide (a1≥a2)))] [] h4 zD) ?_
  exact yJ rfl
 ·refine J_g 6 [] [(6,bv false)] [] (xS 3 [(9,bv (decide (a1≥a2)))] [] h4 zD) ?_
  exact yJ rfl
noncomputable def c69:Code:=(Try.f69.body).getD .skip
theorem wC.ok (a1:Int):Ok Try.prog 69 [uv a1] [] ((wC a1).map fun r=>(bv r,[])):=by
 refine zO c69 Try.f69 0 9 (fun q=>?_)
 unfold wC
 refine J_g 2 [] [(0,uv a1)] [] zD ?_
 refine wS (fun h2=>?_) (fun h2=>?_)
 ·refine J_g 6 [] [(2,bv (decide (a1≤122)))] [] (xS 2 [(4,bv (decide (a1≥97)))] [] h2 zD) ?_
  exact yJ rfl
 ·refine J_g 6 [] [(2,bv false)] [] (xS 2 [(4,bv (decide (a1≥97)))] [] h2 zD) ?_
  exact yJ rfl
noncomputable def c70:Code:=(Try.f70.body).getD .skip
theorem vJ.ok (a1:Int):Ok Try.prog 70 [uv a1] [] ((vJ a1).map fun r=>(bv r,[])):=by
 refine zO c70 Try.f70 0 9 (fun q=>?_)
 unfold vJ
 refine J_g 2 [] [(0,uv a1)] [] zD ?_
 refine wS (fun h2=>?_) (fun h2=>?_)
 ·refine J_g 6 [] [(2,bv (decide (a1≤57)))] [] (xS 2 [(4,bv (decide (a1≥48)))] [] h2 zD) ?_
  exact yJ rfl
 ·refine J_g 6 [] [(2,bv false)] [] (xS 2 [(4,bv (decide (a1≥48)))] [] h2 zD) ?_
  exact yJ rfl
noncomputable def c65:Code:=(Try.f65.body).getD .skip
theorem wJ.ok (a1:Int):Ok Try.prog 65 [uv a1] [] ((wJ a1).map fun r=>(bv r,[])):=by
 refine zO c65 Try.f65 0 13 (fun q=>?_)
 unfold wJ
 refine J_g 2 [] [(0,uv a1)] [] zD ?_
 refine zG (fun x2 h3=>?_)
 refine wS (fun h4=>?_) (fun h4=>?_)
 ·refine J_g 6 [] [(2,bv true)] [] (zU 1 (tF [(.tmp 3)] [5] (wC.ok a1) h3) (xS 2 [(4,bv x2)] [] h4 zD)) ?_
  exact yJ rfl
 ·refine zG (fun x5 h6=>?_)
  refine wS (fun h7=>?_) (fun h7=>?_)
  ·refine J_g 6 [] [(2,bv true)] [] (zU 1 (tF [(.tmp 3)] [5] (wC.ok a1) h3) (xS 2 [(4,bv x2)] [] h4 (zB1 4 2 5 false (tF [(.tmp 6)] [5] (vJ.ok a1) h6) (xS 6 [(8,bv x5)] [] h7 zD)))) ?_
   exact yJ rfl
  ·refine J_g 6 [] [(2,bv (a1==95))] [] (zU 1 (tF [(.tmp 3)] [5] (wC.ok a1) h3) (xS 2 [(4,bv x2)] [] h4 (zB1 4 2 5 false (tF [(.tmp 6)] [5] (vJ.ok a1) h6) (xS 6 [(8,bv x5)] [] h7 zD)))) ?_
   exact yJ rfl
noncomputable def c50:Code:=(Try.f50.body).getD .skip
theorem uK.ok (a1:Int):Ok Try.prog 50 [uv a1] [] ((uK a1).map fun r=>(bv r,[])):=by
 refine zO c50 Try.f50 0 17 (fun q=>?_)
 unfold uK
 refine J_g 2 [] [(0,uv a1)] [] zD ?_
 refine zG (fun x2 h3=>?_)
 refine wS (fun h4=>?_) (fun h4=>?_)
 ·refine J_g 6 [] [(2,bv true)] [] (zU 1 (tF [(.tmp 3)] [5] (wJ.ok a1) h3) (xS 2 [(4,bv x2)] [] h4 zD)) ?_
  exact yJ rfl
 ·refine wS (fun h5=>?_) (fun h5=>?_)
  ·refine J_g 6 [] [(2,bv true)] [] (zU 1 (tF [(.tmp 3)] [5] (wJ.ok a1) h3) (xS 2 [(4,bv x2)] [] h4 (xS 6 [(8,bv (a1==46))] [] h5 zD))) ?_
   exact yJ rfl
  ·refine wS (fun h6=>?_) (fun h6=>?_)
   ·refine J_g 6 [] [(2,bv true)] [] (zU 1 (tF [(.tmp 3)] [5] (wJ.ok a1) h3) (xS 2 [(4,bv x2)] [] h4 (xS 6 [(8,bv (a1==46))] [] h5 (xS 10 [(12,bv (a1==45))] [] h6 zD)))) ?_
    exact yJ rfl
   ·refine J_g 6 [] [(2,bv (a1==47))] [] (zU 1 (tF [(.tmp 3)] [5] (wJ.ok a1) h3) (xS 2 [(4,bv x2)] [] h4 (xS 6 [(8,bv (a1==46))] [] h5 (xS 10 [(12,bv (a1==45))] [] h6 zD)))) ?_
    exact yJ rfl
noncomputable def c31:Code:=(Try.f31.body).getD .skip
theorem yT.ok (a1:ByteArray) (q:Wd) (kn:Unit→Option (D×List Ent)) (hk:∀v:Unit,J (q.g Try.prog 31 0 23) c31 (atI c31 15) (St.mk' [] []) (some v) kn):
  ∀s11:Int,J (q.g Try.prog 31 0 23) c31 (atI c31 116) (St.mk' [(0,sv a1),(3,iv s11)] []) (yT a1 s11) (Fl.go (fun r:Int=>some (iv r,[])) kn):=by
 refine zAF (fun g ih s11=>?_)
 unfold xB
 refine J_d 464 [] [15] [(15,bv (decide (s11< (a1.size:Int))))] [] [] zD ?_
 refine zN 15 (fun h12=>?_) (fun h12=>?_)
 ·refine zG (fun x13 h14=>?_)
  refine zG (fun x15 h16=>?_)
  refine J_d 1864 [] [15,22] [(22,bv (!x15))] [] [] (zU 2 (zFQ (kk:=.i64) 9 (.tmp 18) (.tmp 19) h14) (zU 3 (tF [(.tmp 20)] [5] (uK.ok x13) h16) zD)) ?_
  refine zN 22 (fun h17=>?_) (fun h17=>?_)
  ·refine J_g 7460 [] [(2,iv 5)] [] zD ?_
   exact yJ rfl
  ·refine J_g 467 [] [(0,sv a1),(3,iv (w64 (s11+1)))] [] zD ?_
   exact J_q (J_b (ih (w64 (s11+1)))) rfl
 ·exact vS (hk ()) rfl
theorem zV.ok (a1:ByteArray):Ok Try.prog 31 [sv a1] [] ((zV a1).map fun r=>(iv r,[])):=by
 refine zO c31 Try.f31 0 23 (fun q=>?_)
 unfold zV
 refine J_g 2 [] [(0,sv a1)] [] zD ?_
 refine vZ (atI c31 13) (fun v3:Bool=>St.mk' [(0,sv a1),(11,bv v3)] []) (fun v3=>?_) (fun jv3=>?_)
 ·refine zN 11 (fun h4=>?_) (fun h4=>?_)
  ·refine J_g 52 [] [(2,iv 5)] [] zD ?_
   exact yJ rfl
  ·refine J_g 28 [] [(0,sv a1),(3,iv 0)] [] zD ?_
   refine zAH (K0:=(fun r:Int=>some (iv r,[]))) (fun _=>rfl) (yT.ok a1 q _ (fun v18=>J_j ?_) 0)
   refine J_g 30 [] [(2,iv 0)] [] zD ?_
   exact yJ rfl
 ·refine wS (fun h2=>?_) (fun h2=>?_)
  ·refine J_g 12 [] [(0,sv a1),(11,bv true)] [] (xS 3 [(6,bv (decide ((a1.size:Int)<1)))] [] h2 zD) ?_
   exact vS (J_j (jv3 true)) rfl
  ·refine J_g 12 [] [(0,sv a1),(11,bv (decide ((a1.size:Int)>40)))] [] (xS 3 [(6,bv (decide ((a1.size:Int)<1)))] [] h2 zD) ?_
   exact vS (J_j (jv3 (decide ((a1.size:Int)>40)))) rfl
noncomputable def c51:Code:=(Try.f51.body).getD .skip
theorem wP.ok (a1:zA) (q:Wd) (kn:Int→Option (D×List Ent)) (hk:∀v:Int,J (q.g Try.prog 51 1 26) c51 (atI c51 15) (St.mk' [(3,iv v)] [(0,.box (zA.enc false a1))]) (some v) kn):
  ∀s5:(Int×Int),J (q.g Try.prog 51 1 26) c51 (atI c51 116) (St.mk' [(0,pp 0),(3,iv s5.1),(4,iv s5.2)] [(0,.box (zA.enc false a1))]) (wP a1 s5) kn:=by
 refine zAF (fun g ih s5=>?_)
 unfold xU
 refine J_d 464 [] [11] [(11,bv (decide (s5.2< (a1.Files.length:Int))))] [] [] zD ?_
 refine zN 11 (fun h6=>?_) (fun h6=>?_)
 ·refine zG (fun x7 h8=>?_)
  refine J_g 932 [] [(0,pp 0),(3,iv (w64 (s5.1+(x7.Data.length:Int)))),(4,iv s5.2)] [(0,.box (zA.enc false a1))] (zU 6 (zAk (kk:=.i64) 26 62 2 (File.enc false) (.tmp 18) (.tmp 19) h8) zD) ?_
  refine J_d 467 [] [4] [(4,iv (w64 (s5.2+1)))] [] [] zD ?_
  exact J_q (J_b (ih (w64 (s5.1+(x7.Data.length:Int)),w64 (s5.2+1)))) rfl
 ·exact vS (hk s5.1) rfl
theorem yQ.ok (a1:zA):Ok Try.prog 51 [pp 0] [.box (zA.enc false a1)] ((yQ a1).map fun r=>(iv r,[.box (zA.enc false a1)])):=by
 refine zO c51 Try.f51 1 26 (fun q=>?_)
 unfold yQ
 refine J_g 2 [] [(0,pp 0)] [(0,.box (zA.enc false a1))] zD ?_
 refine J_g 6 [] [(0,pp 0),(3,iv 0)] [(0,.box (zA.enc false a1))] zD ?_
 refine J_d 28 [] [4] [(4,iv 0)] [] [] zD ?_
 refine zCX (wP.ok a1 q _ (fun v9=>J_j ?_) (0,0))
 refine J_d 30 [] [2,3] [(2,iv v9)] [] [] zD ?_
 exact yJ rfl
noncomputable def c37:Code:=(Try.f37.body).getD .skip
theorem yV.ok (a1:zA) (q:Wd) (kn:Unit→Option (D×List Ent)) (hk:∀v:Unit,J (q.g Try.prog 37 0 72) c37 (atI c37 31) (St.mk' [(1,pp 0)] [(0,.box (zA.enc false a1))]) (some v) kn):
  ∀s29:Int,J (q.g Try.prog 37 0 72) c37 (atI c37 244) (St.mk' [(1,pp 0),(3,iv s29)] [(0,.box (zA.enc false a1))]) (yV a1 s29) (Fl.go (fun r:Int=>some (iv r,[])) kn):=by
 refine zAF (fun g ih s29=>?_)
 unfold xD
 refine J_d 976 [] [29] [(29,bv (decide (s29< (a1.Files.length:Int))))] [] [] zD ?_
 refine zN 29 (fun h30=>?_) (fun h30=>?_)
 ·refine zG (fun x31 h32=>?_)
  refine zG (fun x33 h34=>?_)
  refine J_g 7824 [] [(1,pp 0),(3,iv s29),(4,iv x33)] [(0,.box (zA.enc false a1))] (zU 3 (zAk (kk:=.i64) 26 62 2 (File.enc false) (.tmp 33) (.tmp 34) h32) (zU 6 (tF [(.tmp 37)] [9] (zV.ok x31.Path) h34) zD)) ?_
  refine J_d 15650 [] [40] [(40,bv (x33 !=0))] [] [] zD ?_
  refine zN 40 (fun h35=>?_) (fun h35=>?_)
  ·refine J_g 62604 [] [(2,iv x33)] [] zD ?_
   exact yJ rfl
  ·refine vZ (atI c37 15653) (fun v41:Bool=>St.mk' [(1,pp 0),(3,iv s29),(59,bv v41)] [(0,.box (zA.enc false a1))]) (fun v41=>?_) (fun jv41=>?_)
   ·refine zN 59 (fun h42=>?_) (fun h42=>?_)
    ·refine J_g 62612 [] [(2,iv 1)] [] zD ?_
     exact yJ rfl
    ·refine zG (fun x43 h44=>?_)
     refine J_d 15654 [] [59,67] [(67,bv (decide ((x43.Data.length:Int)>4000)))] [] [] (zU 3 (zAk (kk:=.i64) 26 62 2 (File.enc false) (.tmp 61) (.tmp 62) h44) zD) ?_
     refine zN 67 (fun h45=>?_) (fun h45=>?_)
     ·refine J_g 62620 [] [(2,iv 2)] [] zD ?_
      exact yJ rfl
     ·refine J_d 979 [] [3,67] [(3,iv (w64 (s29+1)))] [] [] zD ?_
      exact J_q (J_b (ih (w64 (s29+1)))) rfl
   ·refine wS (fun h36=>?_) (fun h36=>?_)
    ·refine zG (fun x37 h38=>?_)
     refine zG (fun x39 h40=>?_)
     refine J_d 15652 [] [4,40,59] [(59,bv (slt x37.Path x39.Path||seq x37.Path x39.Path))] [] [] (xS 2 [(43,bv (decide (s29>0)))] [] h36 (zB1 6 2 44 true (zAk (kk:=.i64) 26 62 2 (File.enc false) (.tmp 46) (.tmp 47) h38) (zB1 13 2 44 true (zAk (kk:=.i64) 26 62 2 (File.enc false) (.tmp 52) (.tmp 54) h40) zD))) ?_
     exact vS (J_j (jv41 (slt x37.Path x39.Path||seq x37.Path x39.Path))) rfl
    ·refine J_d 15652 [] [4,40,59] [(59,bv false)] [] [] (xS 2 [(43,bv (decide (s29>0)))] [] h36 zD) ?_
     exact vS (J_j (jv41 false)) rfl
 ·exact vS (hk ()) rfl
theorem xA.ok (a1:zA):Ok Try.prog 37 [.ag (zA.enc false a1)] [] ((xA a1).map fun r=>(iv r,[])):=by
 refine zO c37 Try.f37 0 72 (fun q=>?_)
 unfold xA
 refine J_g 2 [(0,0)] [(1,pp 0)] [(0,.box (zA.enc false a1))] zD ?_
 refine zG (fun x2 h3=>?_)
 refine vZ (atI c37 13) (fun v10:Bool=>St.mk' [(1,pp 0),(20,bv v10)] [(0,.box (zA.enc false a1))]) (fun v10=>?_) (fun jv10=>?_)
 ·refine zN 20 (fun h11=>?_) (fun h11=>?_)
  ·refine J_g 52 [] [(2,iv 3)] [] zD ?_
   exact yJ rfl
  ·refine J_d 28 [] [20,24] [(24,bv (decide ((a1.Files.length:Int)>120)))] [] [] zD ?_
   refine zN 24 (fun h12=>?_) (fun h12=>?_)
   ·refine J_g 116 [] [(2,iv 2)] [] zD ?_
    exact yJ rfl
   ·refine J_d 60 [] [3,24] [(3,iv 0)] [] [] zD ?_
    refine zAH (K0:=(fun r:Int=>some (iv r,[]))) (fun _=>rfl) (yV.ok a1 q _ (fun v46=>J_j ?_) 0)
    refine zG (fun x47 h48=>?_)
    refine J_g 124 [] [(71,bv (decide (x47>a1.Budget)))] [] (zU 0 (zF1 [(0,.box (zA.enc false a1))] [] (tK («as»:=[pp 0]) [(.tmp 1)] [48] false [(0,.box (zA.enc false a1))] [0] (.cons (.pt rfl) (.nil)) (yQ.ok a1) h48 (.same rfl rfl))) zD) ?_
    refine zN 71 (fun h49=>?_) (fun h49=>?_)
    ·refine J_g 500 [] [(2,iv 8)] [] zD ?_
     exact yJ rfl
    ·refine J_g 126 [] [(2,iv 0)] [] zD ?_
     exact yJ rfl
 ·refine wS (fun h4=>?_) (fun h4=>?_)
  ·refine J_d 12 [] [20] [(20,bv true)] [] [] (zU 2 (tF [(.tmp 6),(.const (.int .i64 0)),(.const (.int .i64 20000))] [2,2,2] (xW.ok a1.Budget 0 20000) h3) (xS 4 [(8,bv (!x2))] [] h4 zD)) ?_
   exact vS (J_j (jv10 true)) rfl
  ·refine zG (fun x5 h6=>?_)
   refine wS (fun h7=>?_) (fun h7=>?_)
   ·refine J_d 12 [] [20] [(20,bv true)] [] [] (zU 2 (tF [(.tmp 6),(.const (.int .i64 0)),(.const (.int .i64 20000))] [2,2,2] (xW.ok a1.Budget 0 20000) h3) (xS 4 [(8,bv (!x2))] [] h4 (zB1 7 4 9 false (tF [(.tmp 11),(.const (.int .i64 0)),(.const (.int .i64 1000000000))] [2,2,2] (xW.ok a1.Writes 0 1000000000) h6) (xS 10 [(14,bv (!x5))] [] h7 zD)))) ?_
    exact vS (J_j (jv10 true)) rfl
   ·refine zG (fun x8 h9=>?_)
    refine J_d 12 [] [20] [(20,bv (!x8))] [] [] (zU 2 (tF [(.tmp 6),(.const (.int .i64 0)),(.const (.int .i64 20000))] [2,2,2] (xW.ok a1.Budget 0 20000) h3) (xS 4 [(8,bv (!x2))] [] h4 (zB1 7 4 9 false (tF [(.tmp 11),(.const (.int .i64 0)),(.const (.int .i64 1000000000))] [2,2,2] (xW.ok a1.Writes 0 1000000000) h6) (xS 10 [(14,bv (!x5))] [] h7 (zB1 13 10 15 false (tF [(.tmp 17),(.const (.int .i64 (-1))),(.const (.int .i64 1000000000))] [2,2,2] (xW.ok a1.Stop (-1) 1000000000) h9) zD))))) ?_
    exact vS (J_j (jv10 (!x8))) rfl
noncomputable def c20:Code:=(Try.f20.body).getD .skip
theorem uP.ok (a1:zA):Ok Try.prog 20 [.ag (zA.enc false a1)] [] ((uP a1).map fun r=>(iv r,[])):=by
 refine zO c20 Try.f20 0 11 (fun q=>?_)
 unfold uP
 refine J_g 2 [(0,0)] [(1,pp 0)] [(0,.box (zA.enc false a1))] zD ?_
 refine zG (fun x2 h3=>?_)
 refine J_g 12 [] [(1,pp 0),(3,iv x2)] [(0,.box (zA.enc false a1))] (zU 1 (tF [(.tmp 4)] [28] (xA.ok a1) h3) zD) ?_
 refine J_d 26 [] [7] [(7,bv (x2 !=0))] [] [] zD ?_
 refine zN 7 (fun h4=>?_) (fun h4=>?_)
 ·refine J_g 108 [] [(2,iv x2)] [] zD ?_
  exact yJ rfl
 ·refine J_g 28 [] [(10,bv a1.Down)] [] zD ?_
  refine zN 10 (fun h5=>?_) (fun h5=>?_)
  ·refine J_g 116 [] [(2,iv 9)] [] zD ?_
   exact yJ rfl
  ·refine J_g 30 [] [(2,iv 0)] [] zD ?_
   exact yJ rfl
noncomputable def c21:Code:=(Try.f21.body).getD .skip
theorem wI.ok (a1:zA) (q:Wd) (kn:(List File)→Option (D×List Ent)) (hk:∀v:(List File),J (q.g Try.prog 21 0 35) c21 (atI c21 31) (St.mk' [(2,pp 1),(3,pp 2)] [(1,.box [nv,iv 0,iv 0,iv 0,bv false]),(2,.box [rr 3 v,iv a1.Budget,iv a1.Writes,iv a1.Stop,bv a1.Down]),(3,rE 2 (File.enc true) v)]) (some v) kn):
  ∀s20:((List File)×Int),J (q.g Try.prog 21 0 35) c21 (atI c21 244) (St.mk' [(1,pp 0),(2,pp 1),(3,pp 2),(4,iv s20.2)] [(0,.box (zA.enc false a1)),(1,.box [nv,iv 0,iv 0,iv 0,bv false]),(2,.box [rr 3 s20.1,iv a1.Budget,iv a1.Writes,iv a1.Stop,bv a1.Down]),(3,rE 2 (File.enc true) s20.1)]) (wI a1 s20) kn:=by
 refine zAF (fun g ih s20=>?_)
 unfold wO
 refine J_d 976 [] [11] [(11,bv (decide (s20.2< (a1.Files.length:Int))))] [] [] zD ?_
 refine zN 11 (fun h21=>?_) (fun h21=>?_)
 ·refine zG (fun x22 h23=>?_)
  refine zG (fun x24 h25=>?_)
  refine zG (fun x26 h27=>?_)
  refine zG (fun x28 h29=>?_)
  refine J_g 1956 [] [(1,pp 0),(2,pp 1),(3,pp 2),(4,iv s20.2)] [(0,.box (zA.enc false a1)),(1,.box [nv,iv 0,iv 0,iv 0,bv false]),(2,.box [rr 7 x28,iv a1.Budget,iv a1.Writes,iv a1.Stop,bv a1.Down]),(7,rE 2 (File.enc true) x28)] (zU 5 (zAk (kk:=.i64) 26 62 2 (File.enc false) (.tmp 17) (.tmp 18) h23) (zU 8 (zEX 38 5 1 4 eU8 ([]:List Int) [] [] []) (zU 12 (zAk (kk:=.i64) 26 62 2 (File.enc false) (.tmp 24) (.tmp 25) h25) (zU 15 (zEO 38 38 5 5 1 1 5 4 eU8 (.tmp 22) (.tmp 28) h27) (zU 17 (zF0 (ds:=[sv x22.Path,rr 5 x26]) (ts:=[5]) 26 62 2 6 (File.enc true) [({Path:=x22.Path,Data:=x26}:File)] [0] [(.tmp 30)] [.ag [sv x22.Path,rr 5 x26]] [(5,rE 1 eU8 x26)] (.keep rfl (.move (.head _) (List.length_map _) (by decide) (.nil)))) (zU 18 (zFC 26 26 62 62 2 40 7 3 6 (File.enc true) (.tmp 15) (.tmp 31) h29) zD)))))) ?_
  refine J_d 979 [] [4] [(4,iv (w64 (s20.2+1)))] [] [] zD ?_
  refine zE8 7 3 (Nat.le_of_ble_eq_true rfl) (Nat.le_of_ble_eq_true rfl) ?_
  exact J_q (J_b (ih (x28,w64 (s20.2+1)))) rfl
 ·exact vS (hk s20.1) rfl
theorem wV.ok (a1:zA):Ok Try.prog 21 [.ag (zA.enc false a1)] [] ((wV a1).map fun r=>(.ag (zA.enc true r),[])):=by
 refine zO c21 Try.f21 0 35 (fun q=>?_)
 unfold wV
 refine J_g 2 [(0,0),(1,1)] [(1,pp 0),(2,pp 1)] [(0,.box (zA.enc false a1)),(1,.box [nv,iv 0,iv 0,iv 0,bv false])] zD ?_
 refine J_g 6 [(1,2)] [(1,pp 0),(2,pp 1),(3,pp 2)] [(0,.box (zA.enc false a1)),(1,.box [nv,iv 0,iv 0,iv 0,bv false]),(2,.box (zA.enc false a1))] zD ?_
 refine J_g 14 [] [(1,pp 0),(2,pp 1),(3,pp 2)] [(0,.box (zA.enc false a1)),(1,.box [nv,iv 0,iv 0,iv 0,bv false]),(2,.box [nv,iv a1.Budget,iv a1.Writes,iv a1.Stop,bv a1.Down])] zD ?_
 refine J_d 60 [] [4] [(4,iv 0)] [] [] zD ?_
 refine zEn 2 0 3 2 rfl rfl (Nat.le_of_ble_eq_true rfl) (by kernel_rfl) ?_
 refine zCX (wI.ok a1 q _ (fun v30=>J_j ?_) (([]:List File),0))
 refine J_g 62 [] [(2,pp 1)] [(1,.box [rr 3 v30,iv a1.Budget,iv a1.Writes,iv a1.Stop,bv a1.Down]),(3,rE 2 (File.enc true) v30)] zD ?_
 exact zA7 (ds:=[.ag [rr 3 v30,iv a1.Budget,iv a1.Writes,iv a1.Stop,bv a1.Down]]) (ds':=[.ag [so 2 (File.enc true) v30,iv a1.Budget,iv a1.Writes,iv a1.Stop,bv a1.Down]]) (.cons (.ag (.move (.tail _ (.head _)) (List.length_map _) (by decide) (.keep rfl (.keep rfl (.keep rfl (.keep rfl (.nil))))))) (.nil) (by decide)) rfl
noncomputable def c22:Code:=(Try.f22.body).getD .skip
theorem zA0.ok (a1:zA) (a2:ByteArray) (q:Wd) (kn:Unit→Option (D×List Ent)) (hk:∀v:Unit,J (q.g Try.prog 22 1 26) c22 (atI c22 7) (St.mk' [] [(0,.box [rr 1 a1.Files,iv a1.Budget,iv a1.Writes,iv a1.Stop,bv a1.Down]),(1,rE 2 (File.enc true) a1.Files)]) (some v) kn):
  ∀s7:Int,J (q.g Try.prog 22 1 26) c22 (atI c22 52) (St.mk' [(0,pp 0),(1,sv a2),(5,iv s7)] [(0,.box [rr 1 a1.Files,iv a1.Budget,iv a1.Writes,iv a1.Stop,bv a1.Down]),(1,rE 2 (File.enc true) a1.Files)]) (tV a1 a2 s7) (Fl.go (fun r:Int=>some (iv r,[.box (zA.enc true a1)])) kn):=by
 refine zAF (fun g ih s7=>?_)
 unfold vN
 refine J_d 208 [] [12] [(12,bv (decide (s7< (a1.Files.length:Int))))] [] [] zD ?_
 refine zN 12 (fun h8=>?_) (fun h8=>?_)
 ·refine zG (fun x9 h10=>?_)
  refine J_d 840 [] [12,24] [(24,bv (seq x9.Path a2))] [] [] (zU 5 (zAJ (kk:=.i64) 26 62 2 1 (File.enc true) (.tmp 18) (.tmp 19) h10) (zU 7 (zFu (d:=sv x9.Path) 9 2 1 0 (File.enc true) (.tmp 21) h10 (by kernel_rfl)) zD)) ?_
  refine zN 24 (fun h11=>?_) (fun h11=>?_)
  ·refine J_g 3364 [] [(4,iv s7)] [(0,.box [rr 1 a1.Files,iv a1.Budget,iv a1.Writes,iv a1.Stop,bv a1.Down]),(1,rE 2 (File.enc true) a1.Files)] zD ?_
   refine wD 0 (cs':=[so 2 (File.enc true) a1.Files,iv a1.Budget,iv a1.Writes,iv a1.Stop,bv a1.Down]) (ts:=[1]) rfl (.move (.head _) (List.length_map _) (by decide) (.keep rfl (.keep rfl (.keep rfl (.keep rfl (.nil)))))) ?_
   refine uQ [(4,iv s7)] [(0,.box (zA.enc true a1))] (by kernel_rfl) ?_
   exact yJ rfl
  ·refine J_d 211 [] [5,24] [(5,iv (w64 (s7+1)))] [] [] zD ?_
   exact J_q (J_b (ih (w64 (s7+1)))) rfl
 ·exact vS (hk ()) rfl
theorem zB9.ok (a1:zA) (a2:ByteArray):Ok Try.prog 22 [pp 0,sv a2] [.box (zA.enc true a1)] ((vP a1 a2).map fun r=>(iv r,[.box (zA.enc true a1)])):=by
 refine zO c22 Try.f22 1 26 (fun q=>?_)
 unfold vP
 refine xP 0 (cs':=[rr 1 a1.Files,iv a1.Budget,iv a1.Writes,iv a1.Stop,bv a1.Down]) (es:=[(1,rE 2 (File.enc true) a1.Files)]) rfl (.cons (.own 1) (.cons (.same rfl rfl) (.cons (.same rfl rfl) (.cons (.same rfl rfl) (.cons (.same rfl rfl) (.nil)))))) rfl (by kernel_rfl) (by kernel_rfl) ?_
 refine uQ [(0,pp 0),(1,sv a2)] [(0,.box [rr 1 a1.Files,iv a1.Budget,iv a1.Writes,iv a1.Stop,bv a1.Down]),(1,rE 2 (File.enc true) a1.Files)] (by kernel_rfl) ?_
 refine J_g 2 [] [(0,pp 0),(1,sv a2)] [(0,.box [rr 1 a1.Files,iv a1.Budget,iv a1.Writes,iv a1.Stop,bv a1.Down]),(1,rE 2 (File.enc true) a1.Files)] zD ?_
 refine J_d 12 [] [5] [(5,iv 0)] [] [] zD ?_
 refine zAH (K0:=(fun r:Int=>some (iv r,[.box (zA.enc true a1)]))) (fun _=>rfl) (zA0.ok a1 a2 q _ (fun v12=>J_j ?_) 0)
 refine J_g 14 [] [(4,iv (-1))] [(0,.box [rr 1 a1.Files,iv a1.Budget,iv a1.Writes,iv a1.Stop,bv a1.Down]),(1,rE 2 (File.enc true) a1.Files)] zD ?_
 refine wD 0 (cs':=[so 2 (File.enc true) a1.Files,iv a1.Budget,iv a1.Writes,iv a1.Stop,bv a1.Down]) (ts:=[1]) rfl (.move (.head _) (List.length_map _) (by decide) (.keep rfl (.keep rfl (.keep rfl (.keep rfl (.nil)))))) ?_
 refine uQ [(4,iv (-1))] [(0,.box (zA.enc true a1))] (by kernel_rfl) ?_
 exact yJ rfl
theorem zAh.ok (a1:zA) (q:Wd) (kn:Int→Option (D×List Ent)) (hk:∀v:Int,J (q.g Try.prog 51 1 26) c51 (atI c51 15) (St.mk' [(3,iv v)] [(0,.box [rr 1 a1.Files,iv a1.Budget,iv a1.Writes,iv a1.Stop,bv a1.Down]),(1,rE 2 (File.enc true) a1.Files)]) (some v) kn):
  ∀s5:(Int×Int),J (q.g Try.prog 51 1 26) c51 (atI c51 116) (St.mk' [(0,pp 0),(3,iv s5.1),(4,iv s5.2)] [(0,.box [rr 1 a1.Files,iv a1.Budget,iv a1.Writes,iv a1.Stop,bv a1.Down]),(1,rE 2 (File.enc true) a1.Files)]) (wP a1 s5) kn:=by
 refine zAF (fun g ih s5=>?_)
 unfold xU
 refine J_d 464 [] [11] [(11,bv (decide (s5.2< (a1.Files.length:Int))))] [] [] zD ?_
 refine zN 11 (fun h6=>?_) (fun h6=>?_)
 ·refine zG (fun x7 h8=>?_)
  refine J_g 932 [] [(0,pp 0),(3,iv (w64 (s5.1+(x7.Data.length:Int)))),(4,iv s5.2)] [(0,.box [rr 1 a1.Files,iv a1.Budget,iv a1.Writes,iv a1.Stop,bv a1.Down]),(1,rE 2 (File.enc true) a1.Files)] (zU 6 (zAJ (kk:=.i64) 26 62 2 1 (File.enc true) (.tmp 18) (.tmp 19) h8) (zU 8 (zFa (d:=.ln x7.Data.length) 38 2 1 1 (File.enc true) (.tmp 21) h8 (by kernel_rfl)) zD)) ?_
  refine J_d 467 [] [4] [(4,iv (w64 (s5.2+1)))] [] [] zD ?_
  exact J_q (J_b (ih (w64 (s5.1+(x7.Data.length:Int)),w64 (s5.2+1)))) rfl
 ·exact vS (hk s5.1) rfl
theorem zBe.ok (a1:zA):Ok Try.prog 51 [pp 0] [.box (zA.enc true a1)] ((yQ a1).map fun r=>(iv r,[.box (zA.enc true a1)])):=by
 refine zO c51 Try.f51 1 26 (fun q=>?_)
 unfold yQ
 refine xP 0 (cs':=[rr 1 a1.Files,iv a1.Budget,iv a1.Writes,iv a1.Stop,bv a1.Down]) (es:=[(1,rE 2 (File.enc true) a1.Files)]) rfl (.cons (.own 1) (.cons (.same rfl rfl) (.cons (.same rfl rfl) (.cons (.same rfl rfl) (.cons (.same rfl rfl) (.nil)))))) rfl (by kernel_rfl) (by kernel_rfl) ?_
 refine uQ [(0,pp 0)] [(0,.box [rr 1 a1.Files,iv a1.Budget,iv a1.Writes,iv a1.Stop,bv a1.Down]),(1,rE 2 (File.enc true) a1.Files)] (by kernel_rfl) ?_
 refine J_g 2 [] [(0,pp 0)] [(0,.box [rr 1 a1.Files,iv a1.Budget,iv a1.Writes,iv a1.Stop,bv a1.Down]),(1,rE 2 (File.enc true) a1.Files)] zD ?_
 refine J_g 6 [] [(0,pp 0),(3,iv 0)] [(0,.box [rr 1 a1.Files,iv a1.Budget,iv a1.Writes,iv a1.Stop,bv a1.Down]),(1,rE 2 (File.enc true) a1.Files)] zD ?_
 refine J_d 28 [] [4] [(4,iv 0)] [] [] zD ?_
 refine zCX (zAh.ok a1 q _ (fun v9=>J_j ?_) (0,0))
 refine J_g 30 [] [(2,iv v9)] [(0,.box [rr 1 a1.Files,iv a1.Budget,iv a1.Writes,iv a1.Stop,bv a1.Down]),(1,rE 2 (File.enc true) a1.Files)] zD ?_
 refine wD 0 (cs':=[so 2 (File.enc true) a1.Files,iv a1.Budget,iv a1.Writes,iv a1.Stop,bv a1.Down]) (ts:=[1]) rfl (.move (.head _) (List.length_map _) (by decide) (.keep rfl (.keep rfl (.keep rfl (.keep rfl (.nil)))))) ?_
 refine uQ [(2,iv v9)] [(0,.box (zA.enc true a1))] (by kernel_rfl) ?_
 exact yJ rfl
noncomputable def c38:Code:=(Try.f38.body).getD .skip
theorem uL.ok (a1:zA):Ok Try.prog 38 [pp 0] [.box (zA.enc true a1)] ((uL a1).map fun r=>(bv r.1,[.box (zA.enc true r.2)])):=by
 refine zO c38 Try.f38 1 34 (fun q=>?_)
 unfold uL
 refine xP 0 (cs':=[rr 1 a1.Files,iv a1.Budget,iv a1.Writes,iv a1.Stop,bv a1.Down]) (es:=[(1,rE 2 (File.enc true) a1.Files)]) rfl (.cons (.own 1) (.cons (.same rfl rfl) (.cons (.same rfl rfl) (.cons (.same rfl rfl) (.cons (.same rfl rfl) (.nil)))))) rfl (by kernel_rfl) (by kernel_rfl) ?_
 refine uQ [(0,pp 0)] [(0,.box [rr 1 a1.Files,iv a1.Budget,iv a1.Writes,iv a1.Stop,bv a1.Down]),(1,rE 2 (File.enc true) a1.Files)] (by kernel_rfl) ?_
 refine J_g 2 [] [(0,pp 0)] [(0,.box [rr 1 a1.Files,iv a1.Budget,iv a1.Writes,iv a1.Stop,bv a1.Down]),(1,rE 2 (File.enc true) a1.Files)] zD ?_
 refine J_d 12 [] [6] [(6,bv a1.Down)] [] [] zD ?_
 refine zN 6 (fun h2=>?_) (fun h2=>?_)
 ·refine J_g 52 [] [(2,bv false)] [(0,.box [rr 1 a1.Files,iv a1.Budget,iv a1.Writes,iv a1.Stop,bv a1.Down]),(1,rE 2 (File.enc true) a1.Files)] zD ?_
  refine wD 0 (cs':=[so 2 (File.enc true) a1.Files,iv a1.Budget,iv a1.Writes,iv a1.Stop,bv a1.Down]) (ts:=[1]) rfl (.move (.head _) (List.length_map _) (by decide) (.keep rfl (.keep rfl (.keep rfl (.keep rfl (.nil)))))) ?_
  refine uQ [(2,bv false)] [(0,.box (zA.enc true a1))] (by kernel_rfl) ?_
  exact yJ rfl
 ·refine vZ (atI c38 29) (fun v4:Bool=>St.mk' [(0,pp 0),(22,bv v4)] [(0,.box [rr 1 a1.Files,iv a1.Budget,iv a1.Writes,iv a1.Stop,bv a1.Down]),(1,rE 2 (File.enc true) a1.Files)]) (fun v4=>?_) (fun jv4=>?_)
  ·refine zN 22 (fun h5=>?_) (fun h5=>?_)
   ·refine J_g 116 [] [] [(0,.box [rr 1 a1.Files,iv a1.Budget,iv a1.Writes,iv a1.Stop,bv true]),(1,rE 2 (File.enc true) a1.Files)] zD ?_
    refine J_g 234 [] [(2,bv false)] [(0,.box [rr 1 a1.Files,iv a1.Budget,iv a1.Writes,iv a1.Stop,bv true]),(1,rE 2 (File.enc true) a1.Files)] zD ?_
    refine wD 0 (cs':=[so 2 (File.enc true) a1.Files,iv a1.Budget,iv a1.Writes,iv a1.Stop,bv true]) (ts:=[1]) rfl (.move (.head _) (List.length_map _) (by decide) (.keep rfl (.keep rfl (.keep rfl (.keep rfl (.nil)))))) ?_
    refine uQ [(2,bv false)] [(0,.box [so 2 (File.enc true) a1.Files,iv a1.Budget,iv a1.Writes,iv a1.Stop,bv true])] (by kernel_rfl) ?_
    exact yJ rfl
   ·refine J_g 30 [] [] [(0,.box [rr 1 a1.Files,iv a1.Budget,iv (w64 (a1.Writes+1)),iv a1.Stop,bv a1.Down]),(1,rE 2 (File.enc true) a1.Files)] zD ?_
    refine J_g 62 [] [(2,bv true)] [(0,.box [rr 1 a1.Files,iv a1.Budget,iv (w64 (a1.Writes+1)),iv a1.Stop,bv a1.Down]),(1,rE 2 (File.enc true) a1.Files)] zD ?_
    refine wD 0 (cs':=[so 2 (File.enc true) a1.Files,iv a1.Budget,iv (w64 (a1.Writes+1)),iv a1.Stop,bv a1.Down]) (ts:=[1]) rfl (.move (.head _) (List.length_map _) (by decide) (.keep rfl (.keep rfl (.keep rfl (.keep rfl (.nil)))))) ?_
    refine uQ [(2,bv true)] [(0,.box [so 2 (File.enc true) a1.Files,iv a1.Budget,iv (w64 (a1.Writes+1)),iv a1.Stop,bv a1.Down])] (by kernel_rfl) ?_
    exact yJ rfl
  ·refine wS (fun h3=>?_) (fun h3=>?_)
   ·refine J_d 28 [] [6,22] [(22,bv (decide (a1.Writes≥a1.Stop)))] [] [] (xS 5 [(11,bv (a1.Stop !=(-1)))] [] h3 zD) ?_
    exact vS (J_j (jv4 (decide (a1.Writes≥a1.Stop)))) rfl
   ·refine J_d 28 [] [6,22] [(22,bv false)] [] [] (xS 5 [(11,bv (a1.Stop !=(-1)))] [] h3 zD) ?_
    exact vS (J_j (jv4 false)) rfl
noncomputable def c32:Code:=(Try.f32.body).getD .skip
theorem vC.ok (a2:ByteArray) (x17:(Bool×zA)) (x20:(List Int)) (q:Wd) (kn:Int→Option (D×List Ent)) (hk:∀v:Int,J (q.g Try.prog 32 1 110) c32 (atI c32 4095) (St.mk' [(0,pp 0),(7,iv v),(9,pp 4)] [(0,.box [rr 1 x17.2.Files,iv x17.2.Budget,iv x17.2.Writes,iv x17.2.Stop,bv x17.2.Down]),(1,rE 2 (File.enc true) x17.2.Files),(3,rE 1 eU8 x20),(4,.box [sv a2,rr 3 x20])]) (some v) kn):
  ∀s30:Int,J (q.g Try.prog 32 1 110) c32 (atI c32 16376) (St.mk' [(0,pp 0),(1,sv a2),(7,iv s30),(9,pp 4)] [(0,.box [rr 1 x17.2.Files,iv x17.2.Budget,iv x17.2.Writes,iv x17.2.Stop,bv x17.2.Down]),(1,rE 2 (File.enc true) x17.2.Files),(3,rE 1 eU8 x20),(4,.box [sv a2,rr 3 x20])]) (vC a2 x17 x20 s30) kn:=by
 refine zAF (fun g ih s30=>?_)
 unfold wN
 refine vZ (atI c32 65505) (fun v34:Bool=>St.mk' [(0,pp 0),(1,sv a2),(7,iv s30),(9,pp 4),(86,bv v34)] [(0,.box [rr 1 x17.2.Files,iv x17.2.Budget,iv x17.2.Writes,iv x17.2.Stop,bv x17.2.Down]),(1,rE 2 (File.enc true) x17.2.Files),(3,rE 1 eU8 x20),(4,.box [sv a2,rr 3 x20])]) (fun v34=>?_) (fun jv34=>?_)
 ·refine zN 86 (fun h35=>?_) (fun h35=>?_)
  ·refine J_d 65506 [] [7,86] [(7,iv (w64 (s30+1)))] [] [] zD ?_
   exact J_q (J_b (ih (w64 (s30+1)))) rfl
  ·exact vS (hk s30) rfl
 ·refine wS (fun h31=>?_) (fun h31=>?_)
  ·refine zG (fun x32 h33=>?_)
   refine J_d 65504 [] [86] [(86,bv (slt x32.Path a2))] [] [] (xS 7 [(74,bv (decide (s30< (x17.2.Files.length:Int))))] [] h31 (zB1 13 7 75 true (zAJ (kk:=.i64) 26 62 2 1 (File.enc true) (.tmp 79) (.tmp 80) h33) (zB1 15 7 75 true (zFu (d:=sv x32.Path) 9 2 1 0 (File.enc true) (.tmp 82) h33 (by kernel_rfl)) zD))) ?_
   exact vS (J_j (jv34 (slt x32.Path a2))) rfl
  ·refine J_d 65504 [] [86] [(86,bv false)] [] [] (xS 7 [(74,bv (decide (s30< (x17.2.Files.length:Int))))] [] h31 zD) ?_
   exact vS (J_j (jv34 false)) rfl
theorem xZ.ok (a1:zA) (a2:ByteArray) (a3:(List Int)):Ok Try.prog 32 [pp 0,sv a2,sl 1 eU8 a3] [.box (zA.enc true a1)] ((xZ a1 a2 a3).map fun r=>(iv r.1,[.box [so 2 (File.enc false) r.2.Files,iv r.2.Budget,iv r.2.Writes,iv r.2.Stop,bv r.2.Down]])):=by
 refine zO c32 Try.f32 1 110 (fun q=>?_)
 unfold xZ
 refine xP 0 (cs':=[rr 1 a1.Files,iv a1.Budget,iv a1.Writes,iv a1.Stop,bv a1.Down]) (es:=[(1,rE 2 (File.enc true) a1.Files)]) rfl (.cons (.own 1) (.cons (.same rfl rfl) (.cons (.same rfl rfl) (.cons (.same rfl rfl) (.cons (.same rfl rfl) (.nil)))))) rfl (by kernel_rfl) (by kernel_rfl) ?_
 refine uQ [(0,pp 0),(1,sv a2),(2,sl 1 eU8 a3)] [(0,.box [rr 1 a1.Files,iv a1.Budget,iv a1.Writes,iv a1.Stop,bv a1.Down]),(1,rE 2 (File.enc true) a1.Files)] (by kernel_rfl) ?_
 refine J_g 2 [] [(0,pp 0),(1,sv a2),(2,sl 1 eU8 a3)] [(0,.box [rr 1 a1.Files,iv a1.Budget,iv a1.Writes,iv a1.Stop,bv a1.Down]),(1,rE 2 (File.enc true) a1.Files)] zD ?_
 refine wD 0 (cs':=[so 2 (File.enc true) a1.Files,iv a1.Budget,iv a1.Writes,iv a1.Stop,bv a1.Down]) (ts:=[1]) rfl (.move (.head _) (List.length_map _) (by decide) (.keep rfl (.keep rfl (.keep rfl (.keep rfl (.nil)))))) ?_
 refine uQ [(0,pp 0),(1,sv a2),(2,sl 1 eU8 a3)] [(0,.box (zA.enc true a1))] (by kernel_rfl) ?_
 refine zG (fun x4 h5=>?_)
 refine J_g 6 [] [(0,pp 0),(1,sv a2),(2,sl 1 eU8 a3),(7,iv x4)] [(0,.box (zA.enc true a1))] (zU 2 (zF1 [(0,.box (zA.enc true a1))] [] (tK («as»:=[pp 0,sv a2]) [(.tmp 10),(.tmp 11)] [48,9] false [(0,.box (zA.enc true a1))] [0] (.cons (.pt rfl) (.cons (.same rfl) (.nil))) (zB9.ok a1 a2) h5 (.same rfl rfl))) zD) ?_
 refine xP 0 (cs':=[rr 1 a1.Files,iv a1.Budget,iv a1.Writes,iv a1.Stop,bv a1.Down]) (es:=[(1,rE 2 (File.enc true) a1.Files)]) rfl (.cons (.own 1) (.cons (.same rfl rfl) (.cons (.same rfl rfl) (.cons (.same rfl rfl) (.cons (.same rfl rfl) (.nil)))))) rfl (by kernel_rfl) (by kernel_rfl) ?_
 refine uQ [(0,pp 0),(1,sv a2),(2,sl 1 eU8 a3),(7,iv x4)] [(0,.box [rr 1 a1.Files,iv a1.Budget,iv a1.Writes,iv a1.Stop,bv a1.Down]),(1,rE 2 (File.enc true) a1.Files)] (by kernel_rfl) ?_
 refine J_g 14 [] [(0,pp 0),(1,sv a2),(2,sl 1 eU8 a3),(7,iv x4),(8,iv 0)] [(0,.box [rr 1 a1.Files,iv a1.Budget,iv a1.Writes,iv a1.Stop,bv a1.Down]),(1,rE 2 (File.enc true) a1.Files)] zD ?_
 refine J_d 60 [] [14] [(14,bv (decide (x4≥0)))] [] [] zD ?_
 refine vZ (atI c32 31) (fun v9:Int=>St.mk' [(0,pp 0),(1,sv a2),(2,sl 1 eU8 a3),(7,iv x4),(8,iv v9)] [(0,.box [rr 1 a1.Files,iv a1.Budget,iv a1.Writes,iv a1.Stop,bv a1.Down]),(1,rE 2 (File.enc true) a1.Files)]) (fun v9=>?_) (fun jv9=>?_)
 ·refine vZ (atI c32 125) (fun v12:Bool=>St.mk' [(0,pp 0),(1,sv a2),(2,sl 1 eU8 a3),(7,iv x4),(8,iv v9),(38,bv v12)] [(0,.box [rr 1 a1.Files,iv a1.Budget,iv a1.Writes,iv a1.Stop,bv a1.Down]),(1,rE 2 (File.enc true) a1.Files)]) (fun v12=>?_) (fun jv12=>?_)
  ·refine zN 38 (fun h13=>?_) (fun h13=>?_)
   ·refine J_g 500 [] [(6,iv 2)] [(0,.box [rr 1 a1.Files,iv a1.Budget,iv a1.Writes,iv a1.Stop,bv a1.Down]),(1,rE 2 (File.enc true) a1.Files)] zD ?_
    refine uQ [(6,iv 2)] [(1,rE 2 (File.enc true) a1.Files),(0,.box [rr 1 a1.Files,iv a1.Budget,iv a1.Writes,iv a1.Stop,bv a1.Down])] (by kernel_rfl) ?_
    refine zDG 1 (jI (enc:=(File.enc true)) (enc':=(File.enc false)) (File.ro true) _) ?_
    refine uQ [(6,iv 2)] [(0,.box [rr 1 a1.Files,iv a1.Budget,iv a1.Writes,iv a1.Stop,bv a1.Down]),(1,rE 2 (File.enc false) a1.Files)] (by kernel_rfl) ?_
    refine wD 0 (cs':=[so 2 (File.enc false) a1.Files,iv a1.Budget,iv a1.Writes,iv a1.Stop,bv a1.Down]) (ts:=[1]) rfl (.move (.head _) (List.length_map _) (by decide) (.keep rfl (.keep rfl (.keep rfl (.keep rfl (.nil)))))) ?_
    refine uQ [(6,iv 2)] [(0,.box [so 2 (File.enc false) a1.Files,iv a1.Budget,iv a1.Writes,iv a1.Stop,bv a1.Down])] (by kernel_rfl) ?_
    exact yJ rfl
   ·refine wD 0 (cs':=[so 2 (File.enc true) a1.Files,iv a1.Budget,iv a1.Writes,iv a1.Stop,bv a1.Down]) (ts:=[1]) rfl (.move (.head _) (List.length_map _) (by decide) (.keep rfl (.keep rfl (.keep rfl (.keep rfl (.nil)))))) ?_
    refine uQ [(0,pp 0),(1,sv a2),(2,sl 1 eU8 a3),(7,iv x4),(8,iv v9),(38,bv false)] [(0,.box (zA.enc true a1))] (by kernel_rfl) ?_
    refine zG (fun x14 h15=>?_)
    refine J_g 252 [] [(0,pp 0),(1,sv a2),(2,sl 1 eU8 a3),(7,iv x4),(50,bv (decide ((w64 ((w64 (x14-v9))+(a3.length:Int)))>a1.Budget)))] [(0,.box (zA.enc true a1))] (zU 1 (zF1 [(0,.box (zA.enc true a1))] [] (tK («as»:=[pp 0]) [(.tmp 39)] [48] false [(0,.box (zA.enc true a1))] [0] (.cons (.pt rfl) (.nil)) (zBe.ok a1) h15 (.same rfl rfl))) zD) ?_
    refine xP 0 (cs':=[rr 1 a1.Files,iv a1.Budget,iv a1.Writes,iv a1.Stop,bv a1.Down]) (es:=[(1,rE 2 (File.enc true) a1.Files)]) rfl (.cons (.own 1) (.cons (.same rfl rfl) (.cons (.same rfl rfl) (.cons (.same rfl rfl) (.cons (.same rfl rfl) (.nil)))))) rfl (by kernel_rfl) (by kernel_rfl) ?_
    refine uQ [(0,pp 0),(1,sv a2),(2,sl 1 eU8 a3),(7,iv x4),(50,bv (decide ((w64 ((w64 (x14-v9))+(a3.length:Int)))>a1.Budget)))] [(0,.box [rr 1 a1.Files,iv a1.Budget,iv a1.Writes,iv a1.Stop,bv a1.Down]),(1,rE 2 (File.enc true) a1.Files)] (by kernel_rfl) ?_
    refine zN 50 (fun h16=>?_) (fun h16=>?_)
    ·refine J_g 1012 [] [(6,iv 8)] [(0,.box [rr 1 a1.Files,iv a1.Budget,iv a1.Writes,iv a1.Stop,bv a1.Down]),(1,rE 2 (File.enc true) a1.Files)] zD ?_
     refine uQ [(6,iv 8)] [(1,rE 2 (File.enc true) a1.Files),(0,.box [rr 1 a1.Files,iv a1.Budget,iv a1.Writes,iv a1.Stop,bv a1.Down])] (by kernel_rfl) ?_
     refine zDG 1 (jI (enc:=(File.enc true)) (enc':=(File.enc false)) (File.ro true) _) ?_
     refine uQ [(6,iv 8)] [(0,.box [rr 1 a1.Files,iv a1.Budget,iv a1.Writes,iv a1.Stop,bv a1.Down]),(1,rE 2 (File.enc false) a1.Files)] (by kernel_rfl) ?_
     refine wD 0 (cs':=[so 2 (File.enc false) a1.Files,iv a1.Budget,iv a1.Writes,iv a1.Stop,bv a1.Down]) (ts:=[1]) rfl (.move (.head _) (List.length_map _) (by decide) (.keep rfl (.keep rfl (.keep rfl (.keep rfl (.nil)))))) ?_
     refine uQ [(6,iv 8)] [(0,.box [so 2 (File.enc false) a1.Files,iv a1.Budget,iv a1.Writes,iv a1.Stop,bv a1.Down])] (by kernel_rfl) ?_
     exact yJ rfl
    ·refine wD 0 (cs':=[so 2 (File.enc true) a1.Files,iv a1.Budget,iv a1.Writes,iv a1.Stop,bv a1.Down]) (ts:=[1]) rfl (.move (.head _) (List.length_map _) (by decide) (.keep rfl (.keep rfl (.keep rfl (.keep rfl (.nil)))))) ?_
     refine uQ [(0,pp 0),(1,sv a2),(2,sl 1 eU8 a3),(7,iv x4),(50,bv false)] [(0,.box (zA.enc true a1))] (by kernel_rfl) ?_
     refine zG (fun x17 h18=>?_)
     refine J_g 508 [] [(0,pp 0),(1,sv a2),(2,sl 1 eU8 a3),(7,iv x4),(53,bv (!x17.1))] [(0,.box (zA.enc true x17.2))] (zU 1 (tK («as»:=[pp 0]) [(.tmp 51)] [48] false [(0,.box (zA.enc true a1))] [0] (.cons (.pt rfl) (.nil)) (uL.ok a1) h18 (.same rfl rfl)) zD) ?_
     refine xP 0 (cs':=[rr 1 x17.2.Files,iv x17.2.Budget,iv x17.2.Writes,iv x17.2.Stop,bv x17.2.Down]) (es:=[(1,rE 2 (File.enc true) x17.2.Files)]) rfl (.cons (.own 1) (.cons (.same rfl rfl) (.cons (.same rfl rfl) (.cons (.same rfl rfl) (.cons (.same rfl rfl) (.nil)))))) rfl (by kernel_rfl) (by kernel_rfl) ?_
     refine uQ [(0,pp 0),(1,sv a2),(2,sl 1 eU8 a3),(7,iv x4),(53,bv (!x17.1))] [(0,.box [rr 1 x17.2.Files,iv x17.2.Budget,iv x17.2.Writes,iv x17.2.Stop,bv x17.2.Down]),(1,rE 2 (File.enc true) x17.2.Files)] (by kernel_rfl) ?_
     refine zN 53 (fun h19=>?_) (fun h19=>?_)
     ·refine J_g 2036 [] [(6,iv 9)] [(0,.box [rr 1 x17.2.Files,iv x17.2.Budget,iv x17.2.Writes,iv x17.2.Stop,bv x17.2.Down]),(1,rE 2 (File.enc true) x17.2.Files)] zD ?_
      refine uQ [(6,iv 9)] [(1,rE 2 (File.enc true) x17.2.Files),(0,.box [rr 1 x17.2.Files,iv x17.2.Budget,iv x17.2.Writes,iv x17.2.Stop,bv x17.2.Down])] (by kernel_rfl) ?_
      refine zDG 1 (jI (enc:=(File.enc true)) (enc':=(File.enc false)) (File.ro true) _) ?_
      refine uQ [(6,iv 9)] [(0,.box [rr 1 x17.2.Files,iv x17.2.Budget,iv x17.2.Writes,iv x17.2.Stop,bv x17.2.Down]),(1,rE 2 (File.enc false) x17.2.Files)] (by kernel_rfl) ?_
      refine wD 0 (cs':=[so 2 (File.enc false) x17.2.Files,iv x17.2.Budget,iv x17.2.Writes,iv x17.2.Stop,bv x17.2.Down]) (ts:=[1]) rfl (.move (.head _) (List.length_map _) (by decide) (.keep rfl (.keep rfl (.keep rfl (.keep rfl (.nil)))))) ?_
      refine uQ [(6,iv 9)] [(0,.box [so 2 (File.enc false) x17.2.Files,iv x17.2.Budget,iv x17.2.Writes,iv x17.2.Stop,bv x17.2.Down])] (by kernel_rfl) ?_
      exact yJ rfl
     ·refine zG (fun x20 h21=>?_)
      refine J_g 510 [(5,4)] [(0,pp 0),(1,sv a2),(7,iv x4),(9,pp 4)] [(0,.box [rr 1 x17.2.Files,iv x17.2.Budget,iv x17.2.Writes,iv x17.2.Stop,bv x17.2.Down]),(1,rE 2 (File.enc true) x17.2.Files),(3,rE 1 eU8 x20),(4,.box [sv a2,rr 3 x20])] (zU 1 (zEX 38 5 1 2 eU8 ([]:List Int) [] [] []) (zU 3 (zEO 38 38 5 5 1 1 3 2 eU8 (.tmp 55) (.tmp 56) h21) zD)) ?_
      refine J_d 2044 [] [60] [(60,bv (decide (x4≥0)))] [] [] zD ?_
      refine zN 60 (fun h22=>?_) (fun h22=>?_)
      ·refine zG (fun x23 h24=>?_)
       refine J_g 8180 [] [] [(0,.box [rr 1 x17.2.Files,iv x17.2.Budget,iv x17.2.Writes,iv x17.2.Stop,bv x17.2.Down]),(1,rE 2 (File.enc true) (x17.2.Files.set x4.toNat ({Path:=a2,Data:=x20}:File)))] (zU 6 (zAJ (kk:=.i64) 26 62 2 1 (File.enc true) (.tmp 64) (.tmp 65) h24) (zEY 7 (zE0 (b:=({Path:=a2,Data:=x20}:File)) (es':=[sv a2,so 1 eU8 x20]) (ts:=[3]) 62 2 1 0 (File.enc true) (.ag [sv a2,rr 3 x20]) (.tmp 67) (.tmp 66) [(3,rE 1 eU8 x20)] h24 (.keep rfl (.move (.head _) (List.length_map _) (by decide) (.nil))) rfl) zD)) ?_
       refine zEm (σ':=St.mk' [] [(0,.box [rr 1 (x17.2.Files.set x4.toNat ({Path:=a2,Data:=x20}:File)),iv x17.2.Budget,iv x17.2.Writes,iv x17.2.Stop,bv x17.2.Down]),(1,rE 2 (File.enc true) (x17.2.Files.set x4.toNat ({Path:=a2,Data:=x20}:File)))]) (by simp only [rr,List.length_set]) ?_
       refine J_g 16362 [] [(6,iv 0)] [(0,.box [rr 1 (x17.2.Files.set x4.toNat ({Path:=a2,Data:=x20}:File)),iv x17.2.Budget,iv x17.2.Writes,iv x17.2.Stop,bv x17.2.Down]),(1,rE 2 (File.enc true) (x17.2.Files.set x4.toNat ({Path:=a2,Data:=x20}:File)))] zD ?_
       refine uQ [(6,iv 0)] [(1,rE 2 (File.enc true) (x17.2.Files.set x4.toNat ({Path:=a2,Data:=x20}:File))),(0,.box [rr 1 (x17.2.Files.set x4.toNat ({Path:=a2,Data:=x20}:File)),iv x17.2.Budget,iv x17.2.Writes,iv x17.2.Stop,bv x17.2.Down])] (by kernel_rfl) ?_
       refine zDG 1 (jI (enc:=(File.enc true)) (enc':=(File.enc false)) (File.ro true) _) ?_
       refine uQ [(6,iv 0)] [(0,.box [rr 1 (x17.2.Files.set x4.toNat ({Path:=a2,Data:=x20}:File)),iv x17.2.Budget,iv x17.2.Writes,iv x17.2.Stop,bv x17.2.Down]),(1,rE 2 (File.enc false) (x17.2.Files.set x4.toNat ({Path:=a2,Data:=x20}:File)))] (by kernel_rfl) ?_
       refine wD 0 (cs':=[so 2 (File.enc false) (x17.2.Files.set x4.toNat ({Path:=a2,Data:=x20}:File)),iv x17.2.Budget,iv x17.2.Writes,iv x17.2.Stop,bv x17.2.Down]) (ts:=[1]) rfl (.move (.head _) (List.length_map _) (by decide) (.keep rfl (.keep rfl (.keep rfl (.keep rfl (.nil)))))) ?_
       refine uQ [(6,iv 0)] [(0,.box [so 2 (File.enc false) (x17.2.Files.set x4.toNat ({Path:=a2,Data:=x20}:File)),iv x17.2.Budget,iv x17.2.Writes,iv x17.2.Stop,bv x17.2.Down])] (by kernel_rfl) ?_
       exact yJ rfl
      ·refine J_d 2046 [] [7,60] [(7,iv 0)] [] [] zD ?_
       refine zCX (vC.ok a2 x17 x20 q _ (fun v36=>J_j ?_) 0)
       refine zG (fun x37 h38=>?_)
       refine uQ [(0,pp 0),(7,iv v36),(9,pp 4)] [(1,rE 2 (File.enc true) x17.2.Files),(0,.box [rr 1 x17.2.Files,iv x17.2.Budget,iv x17.2.Writes,iv x17.2.Stop,bv x17.2.Down]),(3,rE 1 eU8 x20),(4,.box [sv a2,rr 3 x20])] (by kernel_rfl) ?_
       refine zDG 1 (jI (enc:=(File.enc true)) (enc':=(File.enc false)) (File.ro true) _) ?_
       refine uQ [(0,pp 0),(7,iv v36),(9,pp 4)] [(0,.box [rr 1 x17.2.Files,iv x17.2.Budget,iv x17.2.Writes,iv x17.2.Stop,bv x17.2.Down]),(1,rE 2 (File.enc false) x17.2.Files),(3,rE 1 eU8 x20),(4,.box [sv a2,rr 3 x20])] (by kernel_rfl) ?_
       refine zG (fun x39 h40=>?_)
       refine uQ [(0,pp 0),(7,iv v36),(9,pp 4)] [(3,rE 1 eU8 x20),(0,.box [rr 1 x17.2.Files,iv x17.2.Budget,iv x17.2.Writes,iv x17.2.Stop,bv x17.2.Down]),(1,rE 2 (File.enc false) x17.2.Files),(4,.box [sv a2,rr 3 x20])] (by kernel_rfl) ?_
       refine zFM 3 (z:=1) (xs:=x20.map eU8) (tm2:=[(0,pp 0),(7,iv v36),(9,pp 4)]) (hp2:=[(0,.box [rr 1 x17.2.Files,iv x17.2.Budget,iv x17.2.Writes,iv x17.2.Stop,bv x17.2.Down]),(1,rE 2 (File.enc false) x17.2.Files),(4,.box [sv a2,sl 1 eU8 x20])]) (.cons (.keep rfl) (.cons (.keep rfl) (.cons (.keep rfl) (.nil)))) (.keep rfl (.keep rfl (.box rfl (.cons (.keep rfl) (.cons (.rf (by simp) (zC0 (enc:=eU8) (enc':=eU8) (fun _=>rfl) x20 rfl rfl)) (.nil))) (.nil)))) rfl ?_
       refine zG (fun x41 h42=>?_)
       refine zG (fun x43 h44=>?_)
       refine zG (fun x45 h46=>?_)
       refine J_g 8190 [] [] [(0,.box [rr 9 x45,iv x17.2.Budget,iv x17.2.Writes,iv x17.2.Stop,bv x17.2.Down]),(9,rE 2 (File.enc false) x45)] (zU 1 (zEX 26 62 2 5 (File.enc false) ([]:List File) [] [] []) (zU 7 (zEZ 26 62 2 1 (File.enc false) (.tmp 94) none (some (.tmp 95)) h38) (zU 8 (zFv (ys:=x17.2.Files) (l:=0) (hi:=v36) 26 26 62 62 2 40 6 5 1 (File.enc false) (.tmp 90) (.tmp 96) h38 h40) (zU 10 (zEX 26 62 2 7 (File.enc false) [({Path:=a2,Data:=x20}:File)] [0] [(.tmp 98)] [.ag [sv a2,sl 1 eU8 x20]]) (zU 11 (zFC 26 26 62 62 2 40 8 6 7 (File.enc false) (.tmp 97) (.tmp 99) h42) (zU 17 (zEZ 26 62 2 1 (File.enc false) (.tmp 104) (some (.tmp 105)) none h44) (zU 18 (zFv (ys:=x17.2.Files) (l:=v36) (hi:=(x17.2.Files.length:Int)) 26 26 62 62 2 40 9 8 1 (File.enc false) (.tmp 100) (.tmp 106) h44 h46) zD))))))) ?_
       refine J_g 16382 [] [(6,iv 0)] [(0,.box [rr 9 x45,iv x17.2.Budget,iv x17.2.Writes,iv x17.2.Stop,bv x17.2.Down]),(9,rE 2 (File.enc false) x45)] zD ?_
       refine wD 0 (cs':=[so 2 (File.enc false) x45,iv x17.2.Budget,iv x17.2.Writes,iv x17.2.Stop,bv x17.2.Down]) (ts:=[9]) rfl (.move (.head _) (List.length_map _) (by decide) (.keep rfl (.keep rfl (.keep rfl (.keep rfl (.nil)))))) ?_
       refine uQ [(6,iv 0)] [(0,.box [so 2 (File.enc false) x45,iv x17.2.Budget,iv x17.2.Writes,iv x17.2.Stop,bv x17.2.Down])] (by kernel_rfl) ?_
       exact yJ rfl
  ·refine wS (fun h10=>?_) (fun h10=>?_)
   ·refine J_d 124 [] [38] [(38,bv true)] [] [] (xS 3 [(26,bv (decide ((a3.length:Int)>4000)))] [] h10 (zBz 6 (zB0 (i:=6) (g:=3) (t:=27) (b:=false) (v:=(.bool true)) (.inl rfl) (by kernel_rfl) (by kernel_rfl)) (zBz 7 (zB0 (i:=7) (g:=6) (t:=30) (b:=true) (v:=undef) (.inr rfl) (by kernel_rfl) (by kernel_rfl)) (zBz 8 (zB0 (i:=8) (g:=6) (t:=30) (b:=true) (v:=undef) (.inr rfl) (by kernel_rfl) (by kernel_rfl)) (zBz 9 (zB0 (i:=9) (g:=6) (t:=30) (b:=true) (v:=undef) (.inr rfl) (by kernel_rfl) (by kernel_rfl)) (zBz 10 (zB0 (i:=10) (g:=6) (t:=30) (b:=true) (v:=undef) (.inr rfl) (by kernel_rfl) (by kernel_rfl)) (zBz 11 (zB0 (i:=11) (g:=6) (t:=30) (b:=true) (v:=undef) (.inr rfl) (by kernel_rfl) (by kernel_rfl)) (zBz 12 (zB0 (i:=12) (g:=6) (t:=30) (b:=true) (v:=undef) (.inr rfl) (by kernel_rfl) (by kernel_rfl)) zD)))))))) ?_
    exact vS (J_j (jv12 true)) rfl
   ·refine wS (fun h11=>?_) (fun h11=>?_)
    ·refine J_d 124 [] [38] [(38,bv (decide ((a1.Files.length:Int)≥120)))] [] [] (xS 3 [(26,bv (decide ((a3.length:Int)>4000)))] [] h10 (zAP 6 3 27 false [(29,bv (decide (x4<0)))] [] h11 zD)) ?_
     exact vS (J_j (jv12 (decide ((a1.Files.length:Int)≥120)))) rfl
    ·refine J_d 124 [] [38] [(38,bv false)] [] [] (xS 3 [(26,bv (decide ((a3.length:Int)>4000)))] [] h10 (zAP 6 3 27 false [(29,bv (decide (x4<0)))] [] h11 zD)) ?_
     exact vS (J_j (jv12 false)) rfl
 ·refine zN 14 (fun h6=>?_) (fun h6=>?_)
  ·refine zG (fun x7 h8=>?_)
   refine J_d 122 [] [8,14] [(8,iv (x7.Data.length:Int))] [] [] (zU 5 (zAJ (kk:=.i64) 26 62 2 1 (File.enc true) (.tmp 18) (.tmp 19) h8) (zU 7 (zFa (d:=.ln x7.Data.length) 38 2 1 1 (File.enc true) (.tmp 21) h8 (by kernel_rfl)) zD)) ?_
   exact vS (J_j (jv9 (x7.Data.length:Int))) rfl
  ·exact vS (J_j (jv9 0)) rfl
noncomputable def c33:Code:=(Try.f33.body).getD .skip
theorem vE.ok (a1:zA) (a2:Int):Ok Try.prog 33 [.ag (zA.enc false a1),iv a2] [] ((vE a1 a2).map fun r=>(.ag (zC.enc false r),[])):=by
 refine zO c33 Try.f33 0 16 (fun q=>?_)
 unfold vE
 refine J_g 2 [(0,0),(1,1)] [(1,iv a2),(2,pp 0),(4,pp 1)] [(0,.box (zA.enc false a1)),(1,.box [iv 0,nv,iv 0,iv 0,iv 0,bv false])] zD ?_
 refine vZ (atI c33 13) (fun v4:Bool=>St.mk' [(1,iv a2),(2,pp 0),(4,pp 1),(10,bv v4)] [(0,.box (zA.enc false a1)),(1,.box [iv 0,nv,iv 0,iv 0,iv 0,bv false])]) (fun v4=>?_) (fun jv4=>?_)
 ·refine zN 10 (fun h5=>?_) (fun h5=>?_)
  ·refine J_g 52 [] [(4,pp 1)] [(1,.box [iv a2,nv,iv 0,iv 0,iv 0,bv false])] zD ?_
   exact zA7 (ds:=[.ag [iv a2,nv,iv 0,iv 0,iv 0,bv false]]) (ds':=[.ag [iv a2,sl 2 (File.enc false) ([]:List File),iv 0,iv 0,iv 0,bv false]]) (.cons (.ag (.keep rfl (.nilsl false 2 (.keep rfl (.keep rfl (.keep rfl (.keep rfl (.nil)))))))) (.nil) (by decide)) rfl
  ·refine J_g 14 [] [(4,pp 1)] [(1,.box [iv a2,sl 2 (File.enc false) a1.Files,iv a1.Budget,iv a1.Writes,iv a1.Stop,bv a1.Down])] zD ?_
   exact yJ rfl
 ·refine wS (fun h3=>?_) (fun h3=>?_)
  ·refine J_d 12 [] [10] [(10,bv (a2 !=9))] [] [] (xS 2 [(6,bv (a2 !=0))] [] h3 zD) ?_
   exact vS (J_j (jv4 (a2 !=9))) rfl
  ·refine J_d 12 [] [10] [(10,bv false)] [] [] (xS 2 [(6,bv (a2 !=0))] [] h3 zD) ?_
   exact vS (J_j (jv4 false)) rfl
theorem zBK.ok (a1:zA) (a2:Int):Ok Try.prog 33 [.ag [rr 0 a1.Files,iv a1.Budget,iv a1.Writes,iv a1.Stop,bv a1.Down],iv a2] [rE 2 (File.enc false) a1.Files] ((vE a1 a2).map fun r=>(.ag [iv r.Code,so 2 (File.enc false) r.zA.Files,iv r.zA.Budget,iv r.zA.Writes,iv r.zA.Stop,bv r.zA.Down],[])):=by
 refine zO c33 Try.f33 1 16 (fun q=>?_)
 unfold vE
 refine J_d 2 [(0,1),(1,2)] [0,2,4] [(2,pp 1),(4,pp 2)] [1,2] [(1,.box [rr 0 a1.Files,iv a1.Budget,iv a1.Writes,iv a1.Stop,bv a1.Down]),(2,.box [iv 0,nv,iv 0,iv 0,iv 0,bv false])] zD ?_
 refine vZ (atI c33 13) (fun v4:Bool=>St.mk' [(1,iv a2),(2,pp 1),(4,pp 2),(10,bv v4)] [(0,rE 2 (File.enc false) a1.Files),(1,.box [rr 0 a1.Files,iv a1.Budget,iv a1.Writes,iv a1.Stop,bv a1.Down]),(2,.box [iv 0,nv,iv 0,iv 0,iv 0,bv false])]) (fun v4=>?_) (fun jv4=>?_)
 ·refine zN 10 (fun h5=>?_) (fun h5=>?_)
  ·refine J_g 52 [] [(4,pp 2)] [(0,rE 2 (File.enc false) a1.Files),(2,.box [iv a2,nv,iv 0,iv 0,iv 0,bv false])] zD ?_
   exact zA7 (ds:=[.ag [iv a2,nv,iv 0,iv 0,iv 0,bv false]]) (ds':=[.ag [iv a2,so 2 (File.enc false) ([]:List File),iv 0,iv 0,iv 0,bv false]]) (.cons (.ag (.keep rfl (.nilsl true 2 (.keep rfl (.keep rfl (.keep rfl (.keep rfl (.nil)))))))) (.nil) (by decide)) rfl
  ·refine J_g 14 [] [(4,pp 2)] [(0,rE 2 (File.enc false) a1.Files),(2,.box [iv a2,rr 0 a1.Files,iv a1.Budget,iv a1.Writes,iv a1.Stop,bv a1.Down])] zD ?_
   exact zA7 (ds:=[.ag [iv a2,rr 0 a1.Files,iv a1.Budget,iv a1.Writes,iv a1.Stop,bv a1.Down]]) (ds':=[.ag [iv a2,so 2 (File.enc false) a1.Files,iv a1.Budget,iv a1.Writes,iv a1.Stop,bv a1.Down]]) (.cons (.ag (.keep rfl (.move (.head _) (List.length_map _) (by decide) (.keep rfl (.keep rfl (.keep rfl (.keep rfl (.nil)))))))) (.nil) (by decide)) rfl
 ·refine wS (fun h3=>?_) (fun h3=>?_)
  ·refine J_d 12 [] [10] [(10,bv (a2 !=9))] [] [] (xS 2 [(6,bv (a2 !=0))] [] h3 zD) ?_
   exact vS (J_j (jv4 (a2 !=9))) rfl
  ·refine J_d 12 [] [10] [(10,bv false)] [] [] (xS 2 [(6,bv (a2 !=0))] [] h3 zD) ?_
   exact vS (J_j (jv4 false)) rfl
noncomputable def c14:Code:=(Try.f14.body).getD .skip
theorem xG.ok (a1:zA) (a2:ByteArray) (a3:(List Int)):Ok Try.prog 14 [.ag (zA.enc false a1),sv a2,sl 1 eU8 a3] [] ((xG a1 a2 a3).map fun r=>(.ag [iv r.Code,so 2 (File.enc false) r.zA.Files,iv r.zA.Budget,iv r.zA.Writes,iv r.zA.Stop,bv r.zA.Down],[])):=by
 refine zO c14 Try.f14 0 31 (fun q=>?_)
 unfold xG
 refine J_d 2 [(0,0),(1,1)] [0,3,6] [(3,pp 0),(6,pp 1)] [0,1] [(0,.box (zA.enc false a1)),(1,.box [iv 0,nv,iv 0,iv 0,iv 0,bv false])] zD ?_
 refine zG (fun x4 h5=>?_)
 refine J_g 12 [] [(1,sv a2),(2,sl 1 eU8 a3),(3,pp 0),(6,pp 1),(7,iv x4)] [(0,.box (zA.enc false a1)),(1,.box [iv 0,nv,iv 0,iv 0,iv 0,bv false])] (zU 1 (tF [(.tmp 11)] [28] (uP.ok a1) h5) zD) ?_
 refine J_d 26 [] [14] [(14,bv (x4 !=0))] [] [] zD ?_
 refine zN 14 (fun h6=>?_) (fun h6=>?_)
 ·refine J_g 108 [] [(6,pp 1)] [(1,.box [iv x4,nv,iv 0,iv 0,iv 0,bv false])] zD ?_
  exact zA7 (ds:=[.ag [iv x4,nv,iv 0,iv 0,iv 0,bv false]]) (ds':=[.ag [iv x4,so 2 (File.enc false) ([]:List File),iv 0,iv 0,iv 0,bv false]]) (.cons (.ag (.keep rfl (.nilsl true 2 (.keep rfl (.keep rfl (.keep rfl (.keep rfl (.nil)))))))) (.nil) (by decide)) rfl
 ·refine zG (fun x7 h8=>?_)
  refine J_g 28 [] [(1,sv a2),(2,sl 1 eU8 a3),(3,pp 0),(6,pp 1),(8,iv x7)] [(0,.box (zA.enc false a1)),(1,.box [iv 0,nv,iv 0,iv 0,iv 0,bv false])] (zU 1 (tF [(.tmp 17)] [9] (zV.ok a2) h8) zD) ?_
  refine J_d 58 [] [20] [(20,bv (x7 !=0))] [] [] zD ?_
  refine zN 20 (fun h9=>?_) (fun h9=>?_)
  ·refine J_g 236 [] [(6,pp 1)] [(1,.box [iv x7,nv,iv 0,iv 0,iv 0,bv false])] zD ?_
   exact zA7 (ds:=[.ag [iv x7,nv,iv 0,iv 0,iv 0,bv false]]) (ds':=[.ag [iv x7,so 2 (File.enc false) ([]:List File),iv 0,iv 0,iv 0,bv false]]) (.cons (.ag (.keep rfl (.nilsl true 2 (.keep rfl (.keep rfl (.keep rfl (.keep rfl (.nil)))))))) (.nil) (by decide)) rfl
  ·refine zG (fun x10 h11=>?_)
   refine J_g 30 [(2,3)] [(1,sv a2),(2,sl 1 eU8 a3),(6,pp 1),(9,pp 3)] [(1,.box [iv 0,nv,iv 0,iv 0,iv 0,bv false]),(2,rE 2 (File.enc true) x10.Files),(3,.box [rr 2 x10.Files,iv x10.Budget,iv x10.Writes,iv x10.Stop,bv x10.Down])] (zU 1 (tK («as»:=[.ag (zA.enc false a1)]) [(.tmp 23)] [28] false [] [] (.cons (.same rfl) (.nil)) (wV.ok a1) h11 (.ag (.cons (.own 2) (.cons (.same rfl rfl) (.cons (.same rfl rfl) (.cons (.same rfl rfl) (.cons (.same rfl rfl) (.nil)))))))) zD) ?_
   refine wD 3 (cs':=[so 2 (File.enc true) x10.Files,iv x10.Budget,iv x10.Writes,iv x10.Stop,bv x10.Down]) (ts:=[2]) rfl (.move (.tail _ (.head _)) (List.length_map _) (by decide) (.keep rfl (.keep rfl (.keep rfl (.keep rfl (.nil)))))) ?_
   refine uQ [(1,sv a2),(2,sl 1 eU8 a3),(6,pp 1),(9,pp 3)] [(1,.box [iv 0,nv,iv 0,iv 0,iv 0,bv false]),(3,.box (zA.enc true x10))] (by kernel_rfl) ?_
   refine zG (fun x12 h13=>?_)
   refine J_g 62 [] [(6,pp 1),(9,pp 3),(10,iv x12.1)] [(1,.box [iv 0,nv,iv 0,iv 0,iv 0,bv false]),(3,.box [so 2 (File.enc false) x12.2.Files,iv x12.2.Budget,iv x12.2.Writes,iv x12.2.Stop,bv x12.2.Down])] (zU 2 (tK («as»:=[pp 3,sv a2,sl 1 eU8 a3]) [(.tmp 9),(.tmp 25),(.tmp 26)] [48,9,38] false [(3,.box (zA.enc true x10))] [3] (.cons (.pt rfl) (.cons (.same rfl) (.cons (.same rfl) (.nil)))) (xZ.ok x10 a2 a3) h13 (.same rfl rfl)) zD) ?_
   refine xP 3 (cs':=[rr 4 x12.2.Files,iv x12.2.Budget,iv x12.2.Writes,iv x12.2.Stop,bv x12.2.Down]) (es:=[(4,rE 2 (File.enc false) x12.2.Files)]) rfl (.cons (.own 4) (.cons (.same rfl rfl) (.cons (.same rfl rfl) (.cons (.same rfl rfl) (.cons (.same rfl rfl) (.nil)))))) rfl (by kernel_rfl) (by kernel_rfl) ?_
   refine uQ [(6,pp 1),(9,pp 3),(10,iv x12.1)] [(1,.box [iv 0,nv,iv 0,iv 0,iv 0,bv false]),(3,.box [rr 4 x12.2.Files,iv x12.2.Budget,iv x12.2.Writes,iv x12.2.Stop,bv x12.2.Down]),(4,rE 2 (File.enc false) x12.2.Files)] (by kernel_rfl) ?_
   refine zG (fun x14 h15=>?_)
   refine J_g 126 [] [(6,pp 1)] [(1,.box [iv x14.Code,rr 5 x14.zA.Files,iv x14.zA.Budget,iv x14.zA.Writes,iv x14.zA.Stop,bv x14.zA.Down]),(5,rE 2 (File.enc false) x14.zA.Files)] (zU 2 (tK («as»:=[.ag [rr 4 x12.2.Files,iv x12.2.Budget,iv x12.2.Writes,iv x12.2.Stop,bv x12.2.Down],iv x12.1]) [(.tmp 28),(.tmp 29)] [28,2] false [(4,rE 2 (File.enc false) x12.2.Files)] [4] (.cons (.ag (.cons (.rf rfl) (.cons (.same rfl) (.cons (.same rfl) (.cons (.same rfl) (.cons (.same rfl) (.nil))))))) (.cons (.same rfl) (.nil))) (zBK.ok x12.2 x12.1) h15 (.ag (.cons (.same rfl rfl) (.cons (.own 5) (.cons (.same rfl rfl) (.cons (.same rfl rfl) (.cons (.same rfl rfl) (.cons (.same rfl rfl) (.nil))))))))) zD) ?_
   exact zA7 (ds:=[.ag [iv x14.Code,rr 5 x14.zA.Files,iv x14.zA.Budget,iv x14.zA.Writes,iv x14.zA.Stop,bv x14.zA.Down]]) (ds':=[.ag [iv x14.Code,so 2 (File.enc false) x14.zA.Files,iv x14.zA.Budget,iv x14.zA.Writes,iv x14.zA.Stop,bv x14.zA.Down]]) (.cons (.ag (.keep rfl (.move (.tail _ (.head _)) (List.length_map _) (by decide) (.keep rfl (.keep rfl (.keep rfl (.keep rfl (.nil)))))))) (.nil) (by decide)) rfl
noncomputable def c59:Code:=(Try.f59.body).getD .skip
theorem xE.ok (a1:Int) (a2:Int) (a3:Int):Ok Try.prog 59 [iv a1,iv a2,iv a3] [] ((xE a1 a2 a3).map fun r=>(bv r,[])):=by
 refine zO c59 Try.f59 0 15 (fun q=>?_)
 unfold xE
 refine J_d 2 [] [] [] [] [] zD ?_
 refine wS (fun h4=>?_) (fun h4=>?_)
 ·refine J_g 6 [] [(6,bv (decide (a1≤a3)))] [] (xS 3 [(9,bv (decide (a2≤a1)))] [] h4 zD) ?_
  exact yJ rfl
 ·refine J_g 6 [] [(6,bv false)] [] (xS 3 [(9,bv (decide (a2≤a1)))] [] h4 zD) ?_
  exact yJ rfl
noncomputable def c66:Code:=(Try.f66.body).getD .skip
theorem yE.ok (a1:Int):Ok Try.prog 66 [uv a1] [] ((yE a1).map fun r=>(bv r,[])):=by
 refine zO c66 Try.f66 0 21 (fun q=>?_)
 unfold yE
 refine J_g 2 [] [(0,uv a1)] [] zD ?_
 refine wS (fun h2=>?_) (fun h2=>?_)
 ·refine wS (fun h3=>?_) (fun h3=>?_)
  ·refine J_g 6 [] [(2,bv true)] [] (xS 2 [(4,bv (decide (a1≥97)))] [] h2 (xS 6 [(8,bv (decide (a1≤122)))] [] h3 (zBz 9 (zB0 (i:=9) (g:=6) (t:=9) (b:=false) (v:=(.bool true)) (.inl rfl) (by kernel_rfl) (by kernel_rfl)) (zBz 10 (zB0 (i:=10) (g:=9) (t:=12) (b:=true) (v:=undef) (.inr rfl) (by kernel_rfl) (by kernel_rfl)) (zBz 11 (zB0 (i:=11) (g:=9) (t:=12) (b:=true) (v:=undef) (.inr rfl) (by kernel_rfl) (by kernel_rfl)) zD))))) ?_
   exact yJ rfl
  ·refine wS (fun h4=>?_) (fun h4=>?_)
   ·refine wS (fun h5=>?_) (fun h5=>?_)
    ·refine J_g 6 [] [(2,bv true)] [] (xS 2 [(4,bv (decide (a1≥97)))] [] h2 (xS 6 [(8,bv (decide (a1≤122)))] [] h3 (zAP 9 6 9 false [(11,bv (decide (a1≥48)))] [] h4 (xS 14 [(16,bv (decide (a1≤57)))] [] h5 zD)))) ?_
     exact yJ rfl
    ·refine J_g 6 [] [(2,bv (a1==95))] [] (xS 2 [(4,bv (decide (a1≥97)))] [] h2 (xS 6 [(8,bv (decide (a1≤122)))] [] h3 (zAP 9 6 9 false [(11,bv (decide (a1≥48)))] [] h4 (xS 14 [(16,bv (decide (a1≤57)))] [] h5 zD)))) ?_
     exact yJ rfl
   ·refine J_g 6 [] [(2,bv (a1==95))] [] (xS 2 [(4,bv (decide (a1≥97)))] [] h2 (xS 6 [(8,bv (decide (a1≤122)))] [] h3 (zAP 9 6 9 false [(11,bv (decide (a1≥48)))] [] h4 zD))) ?_
    exact yJ rfl
 ·refine wS (fun h6=>?_) (fun h6=>?_)
  ·refine wS (fun h7=>?_) (fun h7=>?_)
   ·refine J_g 6 [] [(2,bv true)] [] (xS 2 [(4,bv (decide (a1≥97)))] [] h2 (zAP 9 6 9 false [(11,bv (decide (a1≥48)))] [] h6 (xS 14 [(16,bv (decide (a1≤57)))] [] h7 zD))) ?_
    exact yJ rfl
   ·refine J_g 6 [] [(2,bv (a1==95))] [] (xS 2 [(4,bv (decide (a1≥97)))] [] h2 (zAP 9 6 9 false [(11,bv (decide (a1≥48)))] [] h6 (xS 14 [(16,bv (decide (a1≤57)))] [] h7 zD))) ?_
    exact yJ rfl
  ·refine J_g 6 [] [(2,bv (a1==95))] [] (xS 2 [(4,bv (decide (a1≥97)))] [] h2 (zAP 9 6 9 false [(11,bv (decide (a1≥48)))] [] h6 zD)) ?_
   exact yJ rfl
noncomputable def c53:Code:=(Try.f53.body).getD .skip
theorem xH.ok (a1:ByteArray) (q:Wd) (kn:Unit→Option (D×List Ent)) (hk:∀v:Unit,J (q.g Try.prog 53 0 37) c53 (atI c53 15) (St.mk' [] []) (some v) kn):
  ∀s15:Int,J (q.g Try.prog 53 0 37) c53 (atI c53 116) (St.mk' [(0,sv a1),(14,iv (a1.size:Int)),(15,iv s15)] []) (xH a1 s15) (Fl.go (fun r:Int=>some (iv r,[])) kn):=by
 refine zAF (fun g ih s15=>?_)
 unfold uU
 refine J_d 232 [] [16] [(16,bv (decide (s15< (a1.size:Int))))] [] [] zD ?_
 refine zN 16 (fun h16=>?_) (fun h16=>?_)
 ·refine J_d 3736 [] [3,16] [(3,iv s15)] [] [] zD ?_
  refine zG (fun x17 h18=>?_)
  refine J_d 7474 [] [3,4] [(4,uv x17)] [] [] (zU 2 (zFQ (kk:=.i64) 9 (.tmp 18) (.tmp 19) h18) zD) ?_
  refine zG (fun x19 h20=>?_)
  refine vZ (atI c53 14951) (fun v24:Bool=>St.mk' [(0,sv a1),(14,iv (a1.size:Int)),(15,iv s15),(35,bv v24)] []) (fun v24=>?_) (fun jv24=>?_)
  ·refine zN 35 (fun h25=>?_) (fun h25=>?_)
   ·refine J_g 59804 [] [(2,iv 5)] [] zD ?_
    exact yJ rfl
   ·refine J_d 935 [] [15,35] [(15,iv (w64 (s15+1)))] [] [] zD ?_
    exact J_q (J_b (ih (w64 (s15+1)))) rfl
  ·refine wS (fun h21=>?_) (fun h21=>?_)
   ·refine wS (fun h22=>?_) (fun h22=>?_)
    ·refine wS (fun h23=>?_) (fun h23=>?_)
     ·refine J_d 14950 [] [4,35] [(35,bv (x17 !=47))] [] [] (zU 1 (tF [(.tmp 21)] [5] (yE.ok x17) h20) (xS 3 [(23,bv (!x19))] [] h21 (xS 7 [(27,bv (x17 !=46))] [] h22 (xS 11 [(31,bv (x17 !=45))] [] h23 zD)))) ?_
      exact vS (J_j (jv24 (x17 !=47))) rfl
     ·refine J_d 14950 [] [4,35] [(35,bv false)] [] [] (zU 1 (tF [(.tmp 21)] [5] (yE.ok x17) h20) (xS 3 [(23,bv (!x19))] [] h21 (xS 7 [(27,bv (x17 !=46))] [] h22 (xS 11 [(31,bv (x17 !=45))] [] h23 zD)))) ?_
      exact vS (J_j (jv24 false)) rfl
    ·refine J_d 14950 [] [4,35] [(35,bv false)] [] [] (zU 1 (tF [(.tmp 21)] [5] (yE.ok x17) h20) (xS 3 [(23,bv (!x19))] [] h21 (xS 7 [(27,bv (x17 !=46))] [] h22 zD))) ?_
     exact vS (J_j (jv24 false)) rfl
   ·refine J_d 14950 [] [4,35] [(35,bv false)] [] [] (zU 1 (tF [(.tmp 21)] [5] (yE.ok x17) h20) (xS 3 [(23,bv (!x19))] [] h21 zD)) ?_
    exact vS (J_j (jv24 false)) rfl
 ·exact vS (hk ()) rfl
theorem yL.ok (a1:ByteArray):Ok Try.prog 53 [sv a1] [] ((yL a1).map fun r=>(iv r,[])):=by
 refine zO c53 Try.f53 0 37 (fun q=>?_)
 unfold yL
 refine J_g 2 [] [(0,sv a1)] [] zD ?_
 refine vZ (atI c53 13) (fun v3:Bool=>St.mk' [(0,sv a1),(12,bv v3)] []) (fun v3=>?_) (fun jv3=>?_)
 ·refine zN 12 (fun h4=>?_) (fun h4=>?_)
  ·refine J_g 52 [] [(2,iv 5)] [] zD ?_
   exact yJ rfl
  ·refine J_g 28 [] [(0,sv a1),(14,iv (a1.size:Int)),(15,iv 0)] [] zD ?_
   refine zAH (K0:=(fun r:Int=>some (iv r,[]))) (fun _=>rfl) (xH.ok a1 q _ (fun v26=>J_j ?_) 0)
   refine J_g 30 [] [(2,iv 0)] [] zD ?_
   exact yJ rfl
 ·refine wS (fun h2=>?_) (fun h2=>?_)
  ·refine J_g 12 [] [(0,sv a1),(12,bv true)] [] (xS 3 [(7,bv (decide ((a1.size:Int)<1)))] [] h2 zD) ?_
   exact vS (J_j (jv3 true)) rfl
  ·refine J_g 12 [] [(0,sv a1),(12,bv (decide ((a1.size:Int)>40)))] [] (xS 3 [(7,bv (decide ((a1.size:Int)<1)))] [] h2 zD) ?_
   exact vS (J_j (jv3 (decide ((a1.size:Int)>40)))) rfl
noncomputable def c54:Code:=(Try.f54.body).getD .skip
theorem vD.ok (a1:zA) (q:Wd) (kn:Int→Option (D×List Ent)) (hk:∀v:Int,J (q.g Try.prog 54 0 20) c54 (atI c54 15) (St.mk' [(3,iv v)] []) (some v) kn):
  ∀s5:(Int×Int),J (q.g Try.prog 54 0 20) c54 (atI c54 116) (St.mk' [(3,iv s5.1),(7,sl 2 (File.enc false) a1.Files),(8,iv (a1.Files.length:Int)),(9,iv s5.2)] []) (vD a1 s5) kn:=by
 refine zAF (fun g ih s5=>?_)
 unfold tJ
 refine J_d 232 [] [10] [(10,bv (decide (s5.2< (a1.Files.length:Int))))] [] [] zD ?_
 refine zN 10 (fun h6=>?_) (fun h6=>?_)
 ·refine zG (fun x7 h8=>?_)
  refine J_g 3736 [(2,0)] [(3,iv s5.1),(5,pp 0),(7,sl 2 (File.enc false) a1.Files),(8,iv (a1.Files.length:Int)),(9,iv s5.2)] [(0,.box (File.enc false x7))] (zU 0 (zAk (kk:=.i64) 26 62 2 (File.enc false) (.tmp 7) (.tmp 9) h8) zD) ?_
  refine J_g 3737 [] [(3,iv (w64 (s5.1+(x7.Data.length:Int)))),(7,sl 2 (File.enc false) a1.Files),(8,iv (a1.Files.length:Int)),(9,iv s5.2)] [] zD ?_
  refine J_d 935 [] [9] [(9,iv (w64 (s5.2+1)))] [] [] zD ?_
  exact J_q (J_b (ih (w64 (s5.1+(x7.Data.length:Int)),w64 (s5.2+1)))) rfl
 ·exact vS (hk s5.1) rfl
theorem yO.ok (a1:zA):Ok Try.prog 54 [.ag (zA.enc false a1)] [] ((yO a1).map fun r=>(iv r,[])):=by
 refine zO c54 Try.f54 0 20 (fun q=>?_)
 unfold yO
 refine J_g 2 [(0,0)] [(1,pp 0)] [(0,.box (zA.enc false a1))] zD ?_
 refine J_g 6 [] [(1,pp 0),(3,iv 0)] [(0,.box (zA.enc false a1))] zD ?_
 refine J_g 28 [] [(3,iv 0),(7,sl 2 (File.enc false) a1.Files),(8,iv (a1.Files.length:Int)),(9,iv 0)] [] zD ?_
 refine zCX (vD.ok a1 q _ (fun v9=>J_j ?_) (0,0))
 refine J_g 30 [] [(2,iv v9)] [] zD ?_
 exact yJ rfl
noncomputable def c40:Code:=(Try.f40.body).getD .skip
theorem xJ.ok (a1:zA) (q:Wd) (kn:Unit→Option (D×List Ent)) (hk:∀v:Unit,J (q.g Try.prog 40 0 68) c40 (atI c40 15) (St.mk' [(1,pp 0)] [(0,.box (zA.enc false a1))]) (some v) kn):
  ∀s25:Int,J (q.g Try.prog 40 0 68) c40 (atI c40 116) (St.mk' [(1,pp 0),(29,sl 2 (File.enc false) a1.Files),(30,iv (a1.Files.length:Int)),(31,iv s25)] [(0,.box (zA.enc false a1))]) (xJ a1 s25) (Fl.go (fun r:Int=>some (iv r,[])) kn):=by
 refine zAF (fun g ih s25=>?_)
 unfold uS
 refine J_d 232 [] [32] [(32,bv (decide (s25< (a1.Files.length:Int))))] [] [] zD ?_
 refine zN 32 (fun h26=>?_) (fun h26=>?_)
 ·refine zG (fun x27 h28=>?_)
  refine J_d 3736 [(3,1)] [3,4,32] [(3,iv s25),(4,pp 1)] [1] [(1,.box (File.enc false x27))] (zU 1 (zAk (kk:=.i64) 26 62 2 (File.enc false) (.tmp 29) (.tmp 31) h28) zD) ?_
  refine zG (fun x29 h30=>?_)
  refine J_g 14948 [] [(1,pp 0),(3,iv s25),(4,pp 1),(5,iv x29),(29,sl 2 (File.enc false) a1.Files),(30,iv (a1.Files.length:Int)),(31,iv s25)] [(0,.box (zA.enc false a1)),(1,.box (File.enc false x27))] (zU 2 (tF [(.tmp 37)] [9] (yL.ok x27.Path) h30) zD) ?_
  refine J_d 29898 [] [40] [(40,bv (x29 !=0))] [] [] zD ?_
  refine zN 40 (fun h31=>?_) (fun h31=>?_)
  ·refine J_g 119596 [] [(2,iv x29)] [] zD ?_
   exact yJ rfl
  ·refine vZ (atI c40 29901) (fun v35:Bool=>St.mk' [(1,pp 0),(4,pp 1),(29,sl 2 (File.enc false) a1.Files),(30,iv (a1.Files.length:Int)),(31,iv s25),(42,bv v35)] [(0,.box (zA.enc false a1)),(1,.box (File.enc false x27))]) (fun v35=>?_) (fun jv35=>?_)
   ·refine zN 42 (fun h36=>?_) (fun h36=>?_)
    ·refine J_g 119604 [] [(2,iv 1)] [] zD ?_
     exact yJ rfl
    ·refine J_d 119606 [] [4,42,57] [(57,bv (decide ((x27.Data.length:Int)>4000)))] [1] [] zD ?_
     refine zN 57 (fun h37=>?_) (fun h37=>?_)
     ·refine J_g 478428 [] [(2,iv 2)] [] zD ?_
      exact yJ rfl
     ·refine J_d 935 [] [31,57] [(31,iv (w64 (s25+1)))] [] [] zD ?_
      exact J_q (J_b (ih (w64 (s25+1)))) rfl
   ·refine wS (fun h32=>?_) (fun h32=>?_)
    ·refine zG (fun x33 h34=>?_)
     refine J_d 29900 [] [3,5,40,42] [(42,bv (slt x27.Path x33.Path||seq x27.Path x33.Path))] [] [] (xS 2 [(44,bv (decide (s25>0)))] [] h32 (zB1 9 2 45 true (zAk (kk:=.i64) 26 62 2 (File.enc false) (.tmp 49) (.tmp 51) h34) zD)) ?_
     exact vS (J_j (jv35 (slt x27.Path x33.Path||seq x27.Path x33.Path))) rfl
    ·refine J_d 29900 [] [3,5,40,42] [(42,bv false)] [] [] (xS 2 [(44,bv (decide (s25>0)))] [] h32 zD) ?_
     exact vS (J_j (jv35 false)) rfl
 ·exact vS (hk ()) rfl
theorem wK.ok (a1:zA):Ok Try.prog 40 [.ag (zA.enc false a1)] [] ((wK a1).map fun r=>(iv r,[])):=by
 refine zO c40 Try.f40 0 68 (fun q=>?_)
 unfold wK
 refine J_g 2 [(0,0)] [(1,pp 0)] [(0,.box (zA.enc false a1))] zD ?_
 refine zG (fun x2 h3=>?_)
 refine vZ (atI c40 25) (fun v10:Bool=>St.mk' [(1,pp 0),(6,bv v10)] [(0,.box (zA.enc false a1))]) (fun v10=>?_) (fun jv10=>?_)
 ·refine zN 6 (fun h11=>?_) (fun h11=>?_)
  ·refine J_g 100 [] [(2,iv 3)] [] zD ?_
   exact yJ rfl
  ·refine J_d 102 [] [6,23] [(23,bv (decide ((a1.Files.length:Int)>120)))] [] [] zD ?_
   refine zN 23 (fun h12=>?_) (fun h12=>?_)
   ·refine J_g 412 [] [(2,iv 2)] [] zD ?_
    exact yJ rfl
   ·refine J_d 28 [] [23,29,30,31] [(29,sl 2 (File.enc false) a1.Files),(30,iv (a1.Files.length:Int)),(31,iv 0)] [] [] zD ?_
    refine zAH (K0:=(fun r:Int=>some (iv r,[]))) (fun _=>rfl) (xJ.ok a1 q _ (fun v38=>J_j ?_) 0)
    refine zG (fun x39 h40=>?_)
    refine J_g 60 [] [(67,bv (decide (x39>a1.Budget)))] [] (zU 1 (tF [(.tmp 63)] [28] (yO.ok a1) h40) zD) ?_
    refine zN 67 (fun h41=>?_) (fun h41=>?_)
    ·refine J_g 244 [] [(2,iv 8)] [] zD ?_
     exact yJ rfl
    ·refine J_g 62 [] [(2,iv 0)] [] zD ?_
     exact yJ rfl
 ·refine wS (fun h4=>?_) (fun h4=>?_)
  ·refine J_d 24 [] [6] [(6,bv true)] [] [] (zU 2 (tF [(.tmp 8),(.const (.int .i64 0)),(.const (.int .i64 20000))] [2,2,2] (xE.ok a1.Budget 0 20000) h3) (xS 4 [(10,bv (!x2))] [] h4 zD)) ?_
   exact vS (J_j (jv10 true)) rfl
  ·refine zG (fun x5 h6=>?_)
   refine wS (fun h7=>?_) (fun h7=>?_)
   ·refine J_d 24 [] [6] [(6,bv true)] [] [] (zU 2 (tF [(.tmp 8),(.const (.int .i64 0)),(.const (.int .i64 20000))] [2,2,2] (xE.ok a1.Budget 0 20000) h3) (xS 4 [(10,bv (!x2))] [] h4 (zB1 7 4 11 false (tF [(.tmp 13),(.const (.int .i64 0)),(.const (.int .i64 1000000000))] [2,2,2] (xE.ok a1.Writes 0 1000000000) h6) (xS 10 [(16,bv (!x5))] [] h7 zD)))) ?_
    exact vS (J_j (jv10 true)) rfl
   ·refine zG (fun x8 h9=>?_)
    refine J_d 24 [] [6] [(6,bv (!x8))] [] [] (zU 2 (tF [(.tmp 8),(.const (.int .i64 0)),(.const (.int .i64 20000))] [2,2,2] (xE.ok a1.Budget 0 20000) h3) (xS 4 [(10,bv (!x2))] [] h4 (zB1 7 4 11 false (tF [(.tmp 13),(.const (.int .i64 0)),(.const (.int .i64 1000000000))] [2,2,2] (xE.ok a1.Writes 0 1000000000) h6) (xS 10 [(16,bv (!x5))] [] h7 (zB1 13 10 17 false (tF [(.tmp 19),(.const (.int .i64 (-1))),(.const (.int .i64 1000000000))] [2,2,2] (xE.ok a1.Stop (-1) 1000000000) h9) zD))))) ?_
    exact vS (J_j (jv10 (!x8))) rfl
noncomputable def c60:Code:=(Try.f60.body).getD .skip
theorem zR.ok (a1:(List Int)):Ok Try.prog 60 [sl 1 eU8 a1] [] ((zR a1).map fun r=>(so 1 eU8 r,[])):=by
 refine zO c60 Try.f60 0 8 (fun q=>?_)
 unfold zR
 refine J_g 2 [] [(0,sl 1 eU8 a1)] [] zD ?_
 refine J_d 12 [] [4] [(4,.nb a1.length)] [] [] (zU 1 (zE1 (xs:=a1) 38 5 38 1 eU8 (.tmp 3)) zD) ?_
 refine zFW 4 rfl (fun h2=>?_) ?_
 ·obtain rfl:a1=[]:=List.eq_nil_of_length_eq_zero h2
  refine zFk (e':=some ([]:List Int)) (by kernel_rfl) ?_
  refine J_g 52 [] [(2,nv)] [] zD ?_
  exact zA7 (ds:=[nv]) (ds':=[so 1 eU8 ([]:List Int)]) (.cons (.cell (.nilsl true 1 (.nil))) (.nil) (by decide)) rfl
 ·refine zG (fun x3 h4=>?_)
  refine J_g 14 [] [(2,rr 1 x3)] [(1,rE 1 eU8 x3)] (zU 0 (zEX 38 5 1 0 eU8 ([]:List Int) [] [] []) (zU 2 (zEO 38 38 5 5 1 1 1 0 eU8 (.tmp 5) (.tmp 6) h4) zD)) ?_
  exact zA7 (ds:=[rr 1 x3]) (ds':=[so 1 eU8 x3]) (.cons (.cell (.move (.head _) (List.length_map _) (by decide) (.nil))) (.nil) (by decide)) rfl
noncomputable def c41:Code:=(Try.f41.body).getD .skip
theorem yX.ok (a1:zA) (q:Wd) (kn:(List File)→Option (D×List Ent)) (hk:∀v:(List File),J (q.g Try.prog 41 0 28) c41 (atI c41 31) (St.mk' [(2,pp 1),(3,pp 2)] [(1,.box [nv,iv 0,iv 0,iv 0,bv false]),(2,.box [rr 3 v,iv a1.Budget,iv a1.Writes,iv a1.Stop,bv a1.Down]),(3,rE 2 (File.enc true) v)]) (some v) kn):
  ∀s16:((List File)×Int),J (q.g Try.prog 41 0 28) c41 (atI c41 244) (St.mk' [(2,pp 1),(3,pp 2),(9,sl 2 (File.enc false) a1.Files),(10,iv (a1.Files.length:Int)),(11,iv s16.2)] [(1,.box [nv,iv 0,iv 0,iv 0,bv false]),(2,.box [rr 3 s16.1,iv a1.Budget,iv a1.Writes,iv a1.Stop,bv a1.Down]),(3,rE 2 (File.enc true) s16.1)]) (yX a1 s16) kn:=by
 refine zAF (fun g ih s16=>?_)
 unfold vW
 refine J_d 488 [] [12] [(12,bv (decide (s16.2< (a1.Files.length:Int))))] [] [] zD ?_
 refine zN 12 (fun h17=>?_) (fun h17=>?_)
 ·refine zG (fun x18 h19=>?_)
  refine J_d 7832 [(2,4)] [5,12] [(5,pp 4)] [4] [(4,.box (File.enc false x18))] (zU 0 (zAk (kk:=.i64) 26 62 2 (File.enc false) (.tmp 9) (.tmp 11) h19) zD) ?_
  refine zG (fun x20 h21=>?_)
  refine zG (fun x22 h23=>?_)
  refine J_g 7833 [] [(2,pp 1),(3,pp 2),(9,sl 2 (File.enc false) a1.Files),(10,iv (a1.Files.length:Int)),(11,iv s16.2)] [(1,.box [nv,iv 0,iv 0,iv 0,bv false]),(2,.box [rr 7 x22,iv a1.Budget,iv a1.Writes,iv a1.Stop,bv a1.Down]),(7,rE 2 (File.enc true) x22)] (zU 6 (tK («as»:=[sl 1 eU8 x18.Data]) [(.tmp 20)] [38] false [] [] (.cons (.same rfl) (.nil)) (zR.ok x18.Data) h21 (.own 5)) (zU 8 (zF0 (ds:=[sv x18.Path,rr 5 x20]) (ts:=[5]) 26 62 2 6 (File.enc true) [({Path:=x18.Path,Data:=x20}:File)] [0] [(.tmp 22)] [.ag [sv x18.Path,rr 5 x20]] [(5,rE 1 eU8 x20)] (.keep rfl (.move (.head _) (List.length_map _) (by decide) (.nil)))) (zU 9 (zFC 26 26 62 62 2 40 7 3 6 (File.enc true) (.tmp 16) (.tmp 23) h23) zD))) ?_
  refine J_d 1959 [] [11] [(11,iv (w64 (s16.2+1)))] [] [] zD ?_
  refine zE8 7 3 (Nat.le_of_ble_eq_true rfl) (Nat.le_of_ble_eq_true rfl) ?_
  exact J_q (J_b (ih (x22,w64 (s16.2+1)))) rfl
 ·exact vS (hk s16.1) rfl
theorem yR.ok (a1:zA):Ok Try.prog 41 [.ag (zA.enc false a1)] [] ((yR a1).map fun r=>(.ag (zA.enc true r),[])):=by
 refine zO c41 Try.f41 0 28 (fun q=>?_)
 unfold yR
 refine J_g 2 [(0,0),(1,1)] [(1,pp 0),(2,pp 1)] [(0,.box (zA.enc false a1)),(1,.box [nv,iv 0,iv 0,iv 0,bv false])] zD ?_
 refine J_g 6 [(1,2)] [(1,pp 0),(2,pp 1),(3,pp 2)] [(0,.box (zA.enc false a1)),(1,.box [nv,iv 0,iv 0,iv 0,bv false]),(2,.box (zA.enc false a1))] zD ?_
 refine J_g 14 [] [(1,pp 0),(2,pp 1),(3,pp 2)] [(0,.box (zA.enc false a1)),(1,.box [nv,iv 0,iv 0,iv 0,bv false]),(2,.box [nv,iv a1.Budget,iv a1.Writes,iv a1.Stop,bv a1.Down])] zD ?_
 refine J_d 60 [] [1,9,10,11] [(9,sl 2 (File.enc false) a1.Files),(10,iv (a1.Files.length:Int)),(11,iv 0)] [0] [] zD ?_
 refine zEn 2 0 3 2 rfl rfl (Nat.le_of_ble_eq_true rfl) (by kernel_rfl) ?_
 refine zCX (yX.ok a1 q _ (fun v24=>J_j ?_) (([]:List File),0))
 refine J_g 62 [] [(2,pp 1)] [(1,.box [rr 3 v24,iv a1.Budget,iv a1.Writes,iv a1.Stop,bv a1.Down]),(3,rE 2 (File.enc true) v24)] zD ?_
 exact zA7 (ds:=[.ag [rr 3 v24,iv a1.Budget,iv a1.Writes,iv a1.Stop,bv a1.Down]]) (ds':=[.ag [so 2 (File.enc true) v24,iv a1.Budget,iv a1.Writes,iv a1.Stop,bv a1.Down]]) (.cons (.ag (.move (.tail _ (.head _)) (List.length_map _) (by decide) (.keep rfl (.keep rfl (.keep rfl (.keep rfl (.nil))))))) (.nil) (by decide)) rfl
theorem bytealg_CompareString.ok (a1 a2:ByteArray):Ok Try.prog 68 [sv a1,sv a2] [] ((bytealg_CompareString a1 a2).map fun r=>(iv r,[])):=
 zFL (vs:=[.string a1,.string a2]) (fun w=>Try.bytealg_CompareString a1 a2 w)
noncomputable def c63:Code:=(Try.f63.body).getD .skip
theorem strings_Compare.ok (a1:ByteArray) (a2:ByteArray):Ok Try.prog 63 [sv a1,sv a2] [] ((strings_Compare a1 a2).map fun r=>(iv r,[])):=by
 refine zO c63 Try.f63 0 8 (fun q=>?_)
 unfold strings_Compare
 refine J_d 2 [] [] [] [] [] zD ?_
 refine zG (fun x3 h4=>?_)
 refine J_g 6 [] [(4,iv x3)] [] (zU 2 (tF [(.tmp 5),(.tmp 6)] [9,9] (bytealg_CompareString.ok a1 a2) h4) zD) ?_
 exact yJ rfl
noncomputable def c62:Code:=(Try.f62.body).getD .skip
theorem yH.ok (a1:File) (a2:ByteArray):Ok Try.prog 62 [.ag (File.enc false a1),sv a2] [] ((yH a1 a2).map fun r=>(iv r,[])):=by
 refine zO c62 Try.f62 0 9 (fun q=>?_)
 unfold yH
 refine J_g 2 [(0,0)] [(1,sv a2),(2,pp 0)] [(0,.box (File.enc false a1))] zD ?_
 refine zG (fun x3 h4=>?_)
 refine J_g 6 [] [(4,iv x3)] [] (zU 3 (tF [(.tmp 6),(.tmp 7)] [9,9] (strings_Compare.ok a1.Path a2) h4) zD) ?_
 exact yJ rfl
noncomputable def c61:Code:=(Try.f61.body).getD .skip
theorem zH.ok (a1:(List File)) (a2:ByteArray) (q:Wd) (kn:Int→Option (D×List Ent)) (hk:∀v:Int,J (q.g Try.prog 61 0 49) c61 (atI c61 31) (St.mk' [(0,sl 2 (File.enc false) a1),(1,sv a2),(2,.fn 62 []),(8,iv (a1.length:Int)),(9,iv v)] []) (some v) kn):
  ∀s9:(Int×Int),J (q.g Try.prog 61 0 49) c61 (atI c61 120) (St.mk' [(0,sl 2 (File.enc false) a1),(1,sv a2),(2,.fn 62 []),(8,iv (a1.length:Int)),(9,iv s9.1),(10,iv s9.2)] []) (zH a1 a2 s9) kn:=by
 refine zAF (fun g ih s9=>?_)
 unfold zL
 refine J_d 480 [] [17] [(17,bv (decide (s9.1<s9.2)))] [] [] zD ?_
 refine zN 17 (fun h10=>?_) (fun h10=>?_)
 ·refine J_d 964 [] [11,17] [(11,iv (w64 ((IntKind.u64.wrap (w64 (s9.1+s9.2))).fdiv (2^(min (1:Int).toNat 64)))))] [] [] zD ?_
  refine zG (fun x11 h12=>?_)
  refine zG (fun x13 h14=>?_)
  refine J_d 1930 [] [31] [(31,bv (decide (x13<0)))] [] [] (zU 3 (zAk (kk:=.i64) 26 62 2 (File.enc false) (.tmp 25) (.tmp 26) h12) (zU 6 (zFl («as»:=[.ag (File.enc false x11),sv a2]) (caps:=[]) 24 [(.tmp 28),(.tmp 29)] [62,9] (yH.ok x11 a2) h14) zD)) ?_
  refine zN 31 (fun h15=>?_) (fun h15=>?_)
  ·refine J_d 3862 [] [9,11,31] [(9,iv (w64 ((w64 ((IntKind.u64.wrap (w64 (s9.1+s9.2))).fdiv (2^(min (1:Int).toNat 64))))+1)))] [] [] zD ?_
   exact J_q (J_b (ih (w64 ((w64 ((IntKind.u64.wrap (w64 (s9.1+s9.2))).fdiv (2^(min (1:Int).toNat 64))))+1),s9.2))) rfl
  ·refine J_d 3863 [] [10,11,31] [(10,iv (w64 ((IntKind.u64.wrap (w64 (s9.1+s9.2))).fdiv (2^(min (1:Int).toNat 64)))))] [] [] zD ?_
   exact J_q (J_b (ih (s9.1,w64 ((IntKind.u64.wrap (w64 (s9.1+s9.2))).fdiv (2^(min (1:Int).toNat 64)))))) rfl
 ·exact vS (hk s9.1) rfl
theorem zB.ok (a1:(List File)) (a2:ByteArray):Ok Try.prog 61 [sl 2 (File.enc false) a1,sv a2,.fn 62 []] [] ((zB a1 a2).map fun r=>(.tu [iv r.1,bv r.2],[])):=by
 refine zO c61 Try.f61 0 49 (fun q=>?_)
 unfold zB
 refine J_g 2 [] [(0,sl 2 (File.enc false) a1),(1,sv a2),(2,.fn 62 [])] [] zD ?_
 refine J_g 6 [] [(0,sl 2 (File.enc false) a1),(1,sv a2),(2,.fn 62 []),(8,iv (a1.length:Int))] [] zD ?_
 refine J_d 14 [] [9,10] [(9,iv 0),(10,iv (a1.length:Int))] [] [] zD ?_
 refine zCX (zH.ok a1 a2 q _ (fun v16=>J_j ?_) (0,(a1.length:Int)))
 refine wS (fun h17=>?_) (fun h17=>?_)
 ·refine zG (fun x18 h19=>?_)
  refine zG (fun x20 h21=>?_)
  refine J_g 62 [] [(6,iv v16),(7,bv (x20==0))] [] (xS 4 [(38,bv (decide (v16< (a1.length:Int))))] [] h17 (zB1 8 4 39 true (zAk (kk:=.i64) 26 62 2 (File.enc false) (.tmp 41) (.tmp 42) h19) (zB1 11 4 39 true (zFl («as»:=[.ag (File.enc false x18),sv a2]) (caps:=[]) 40 [(.tmp 44),(.tmp 45)] [62,9] (yH.ok x18 a2) h21) zD))) ?_
  exact zEW rfl
 ·refine J_g 62 [] [(6,iv v16),(7,bv false)] [] (xS 4 [(38,bv (decide (v16< (a1.length:Int))))] [] h17 zD) ?_
  exact zEW rfl
noncomputable def c43:Code:=(Try.f43.body).getD .skip
theorem yD.ok (a1:zA) (a2:ByteArray):Ok Try.prog 43 [.ag (zA.enc false a1),sv a2] [] ((yD a1 a2).map fun r=>(.tu [iv r.1,bv r.2],[])):=by
 refine zO c43 Try.f43 0 12 (fun q=>?_)
 unfold yD
 refine J_g 2 [(0,0)] [(1,sv a2),(2,pp 0)] [(0,.box (zA.enc false a1))] zD ?_
 refine zG (fun x3 h4=>?_)
 refine J_g 6 [] [(4,iv x3.1),(5,bv x3.2)] [] (zU 3 (tK («as»:=[sl 2 (File.enc false) a1.Files,sv a2,.fn 62 []]) [(.tmp 7),(.tmp 8),(.func 62)] [26,9,80] false [] [] (.cons (.same rfl) (.cons (.same rfl) (.cons (.fn (.nil)) (.nil)))) (zB.ok a1.Files a2) h4 (.tu (.cons (.same rfl rfl) (.cons (.same rfl rfl) (.nil))))) zD) ?_
 exact zEW rfl
noncomputable def c52:Code:=(Try.f52.body).getD .skip
theorem yY.ok (a1:zA) (a2:ByteArray):Ok Try.prog 52 [.ag (zA.enc false a1),sv a2] [] ((yY a1 a2).map fun r=>(.tu [sl 1 eU8 r.1,bv r.2],[])):=by
 refine zO c52 Try.f52 0 22 (fun q=>?_)
 unfold yY
 refine J_g 2 [(0,0)] [(1,sv a2),(2,pp 0)] [(0,.box (zA.enc false a1))] zD ?_
 refine zG (fun x3 h4=>?_)
 refine J_g 6 [] [(2,pp 0),(6,iv x3.1),(7,bv x3.2)] [(0,.box (zA.enc false a1))] (zU 2 (tF [(.tmp 9),(.tmp 10)] [28,9] (yD.ok a1 a2) h4) zD) ?_
 refine J_d 28 [] [7,15] [(15,bv (!x3.2))] [] [] zD ?_
 refine zN 15 (fun h5=>?_) (fun h5=>?_)
 ·refine J_g 116 [] [(4,nv),(5,bv false)] [] zD ?_
  exact zA7 (ds:=[nv,bv false]) (ds':=[sl 1 eU8 ([]:List Int),bv false]) (.cons (.cell (.nilsl false 1 (.nil))) (.cons (.cell (.keep rfl (.nil))) (.nil) (by decide)) (by decide)) rfl
 ·refine zG (fun x6 h7=>?_)
  refine J_g 30 [] [(4,sl 1 eU8 x6.Data),(5,bv true)] [] (zU 3 (zAk (kk:=.i64) 26 62 2 (File.enc false) (.tmp 17) (.tmp 18) h7) zD) ?_
  exact zEW rfl
section
open Go.Shelf Go.RowKit Go.Lib
set_option linter.unusedVariables false
set_option linter.unusedSimpArgs false
set_option maxHeartbeats 4000000 in
set_option maxRecDepth 100000 in
theorem zC8 (b off n c i vb voff m vc:Nat) (cs vs:List Value) (w:World) (hi:i<n) (hm:0<m) (hroom:n+m≤c) (h63:n+m≤9223372036854775807) (hvb:vb≠b)
  (hcl:cs.length=n*2) (hvl:vs.length=m*2)
  (hcs:∀j v,cs[j]? =some v→w.cell? ⟨b,off+j,none⟩=some v) (hsp:∀j,j< (n+m)*2→(w.cell? ⟨b,off+j,none⟩).isSome =true) (hfz:∀j,j< (n+m)*2→w.frozen? ⟨b,off+j,none⟩=false)
  (hvs:∀j v,vs[j]? =some v→w.cell? ⟨vb,voff+j,none⟩=some v) (h1c:∀v∈cs,v.oneCell'=true) (h1v:∀v∈vs,v.oneCell'=true)
  (tA tB:TypeId) (kA kB:Nat) (hsa:w.shape? vb=some (tA,kA)) (hsb:w.shape? b=some (tB,kB)) (hkB:kB≠0) (hfa:w.frozen? ⟨vb,voff,none⟩=false) (hfe:w.frozen? ⟨vb,kA,none⟩=false):
  Calls Try.prog 67 #[.slice (some ⟨b,off,none⟩) n c,.int .i64 i,.slice (some ⟨vb,voff,none⟩) m vc] w fun e w'=>
   e= .returned (.slice (some ⟨b,off,none⟩) (n+m) c)∧w'=(w.drew.setCells b (off+(i+m)*2) (cs.drop (i*2))).setCells b (off+i*2) vs:=by
 have hz1:¬((m:Int)=0):=by omega
 have hz2:¬((i:Int)=(n:Int)):=by omega
 have hsz:(Try.prog.info? 62).map (·.size)=some 2:=by kernel_rfl
 have hov:∀lb cb,(callFunc 71 #[.slice (some ⟨vb,voff,none⟩) m vc,.slice (some ⟨b,off+(i+m)*2,none⟩) lb cb]).run Try.prog w= .ok (.value (.bool false)) w:=fun lb cb=>by
  rw [run_callFunc_extern Try.func71 (by kernel_rfl) (by kernel_rfl) (by kernel_rfl) (e:=Extern.SlicesOverlaps.overlaps #[26,26] #[4]) (by kernel_rfl),
   Lib.run_overlaps_apart w 26 4 62 Try.underlying26 2 Try.sizeOf62 ⟨vb,voff,none⟩ ⟨b,off+(i+m)*2,none⟩ m vc lb cb hvb tA tB kA kB hsa hsb hkB hfa hfe]
  rfl
 have hdl:(cs.drop (i*2)).length =(n-i)*2:=by rw [List.length_drop,hcl]; omega
 have mixed:Try.prog.follows .mixedOrders =true:=by kernel_rfl
 have hw1:IntKind.i64.wrap ((i:Int)+(m:Int))=(i:Int)+(m:Int):=by rw [IntKind.wrap_i64]; omega
 have hb1:(0:Int)≤(i:Int)+(m:Int):=by omega
 have hin:i≤n:=by omega
 have htn:((i:Int)+(m:Int)).toNat =i+m:=by omega
 have hb2:¬(c=i+m):=by omega
 have hb3:(i:Int)≤(n:Int)+(m:Int):=by omega
 have hb4:¬(c=i):=by omega
 have hcp1:∀ty dc sc,(Builtin.copy_ #[26,26] ty #[.slice (some ⟨b,off+(i+m)*2,none⟩) (n+m-(i+m)) dc,.slice (some ⟨b,off+i*2,none⟩) (n+m-i) sc]).run Try.prog w.drew= .ok (goInt (Nat.min (n+m-i) (n+m-(i+m)))) (w.drew.setCells b (off+(i+m)*2) (cs.drop (i*2))):=fun ty dc sc=>
  jS w.drew _ _ ty 62 2 b (off+(i+m)*2) (n+m-(i+m)) dc ⟨b,off+i*2,none⟩ (n+m-i) sc (cs.drop (i*2)) Try.underlying26 hsz (by rw [hdl]; simp only [Nat.min_def]; split<;>omega)
   (fun j v hj=>by rw [Addr.add_lit,Nat.add_assoc]; exact hcs (i*2+j) v (by rwa [List.getElem?_drop] at hj))
   (fun j hj=>by rw [Nat.add_assoc]; exact hsp _ (by omega)) (fun j hj=>by rw [Nat.add_assoc]; exact hfz _ (by omega)) (fun v hv=>h1c v (List.mem_of_mem_drop hv))
 obtain ⟨W1,hW1⟩:∃W1,W1=w.drew.setCells b (off+(i+m)*2) (cs.drop (i*2)):=⟨_,rfl⟩
 have hsp1:∀k,k< (n+m)*2→(W1.cell? ⟨b,off+k,none⟩).isSome =true:=fun k hk=>by
  rw [hW1]
  exact isSome_setCells b _ _ _ (fun j hj=>by rw [Nat.add_assoc]; exact hsp _ (by omega)) _ (hsp k hk)
 have hcp2:∀(W:World),(∀x,W.cell? x=W1.cell? x)→(∀x,W.frozen? x=W1.frozen? x)→∀ty dc,(Builtin.copy_ #[26,26] ty #[.slice (some ⟨b,off+i*2,none⟩) (n+m-i) dc,.slice (some ⟨vb,voff,none⟩) m vc]).run Try.prog W= .ok (goInt (Nat.min m (n+m-i))) (W.setCells b (off+i*2) vs):=fun W hWc hWf ty dc=>
  jS W _ _ ty 62 2 b (off+i*2) (n+m-i) dc ⟨vb,voff,none⟩ m vc vs Try.underlying26 hsz (by rw [hvl]; simp only [Nat.min_def]; split<;>omega)
   (fun j v hj=>by
    rw [Addr.add_lit,hWc,hW1,World.cell?_setCells_out b _ _ _ _ (fun h _=>absurd h hvb)]
    exact hvs j v hj)
   (fun j hj=>by rw [hWc,Nat.add_assoc]; exact hsp1 _ (by omega)) (fun j hj=>by rw [hWf,hW1,World.frozen?_setCells,Nat.add_assoc]; exact hfz _ (by omega)) h1v
 rw [←hW1] at hcp1
 clear hsp hfz hcs hvs hsp1 h1c h1v hdl hcl hvl
 go_enter Try.func67,Try.ntmps67
 go_wp2_with (simp only [hov])
 go_region_law_o (refine step_copy_runI rfl _ _ 26 26 rfl _ _ (by simp [Act.eval,Act.put]) (by simp [Act.eval,Act.put]) (hcp1 _ _ _) ?_)
 go_wp2_with (at_builtin; refine wpList_copy_runI _ rfl _ _ 26 26 rfl _ _ rfl rfl (hcp2 _ (fun _=>rfl) (fun _=>rfl) _ _) ?_)
 go_ret
 first|exact ⟨rfl,rfl⟩|exact ⟨rfl,by rw [hW1]⟩
set_option maxHeartbeats 4000000 in
set_option maxRecDepth 100000 in
theorem zCp (base:Option Addr) (n c vb voff m vc:Nat) (w w1:World) (r:Value) (hm:0<m) (hnc:n≤c) (h63:n+m≤9223372036854775807) (hnil:base=none→n=0∧c=0)
  (hrun:(Builtin.append_ #[26,26] 26 #[.slice base n c,.slice (some ⟨vb,voff,none⟩) m vc]).run Try.prog w= .ok r w1):
  Calls Try.prog 67 #[.slice base n c,.int .i64 n,.slice (some ⟨vb,voff,none⟩) m vc] w fun e w'=>e= .returned r∧w'=w1:=by
 have hz1:¬((m:Int)=0):=by omega
 have mixed:Try.prog.follows .mixedOrders =true:=by kernel_rfl
 go_enter Try.func67,Try.ntmps67
 cases base with
 |none=>
  obtain ⟨rfl,rfl⟩:=hnil rfl
  go_wp2_with (at_builtin; refine Lib.wpList_append_run _ rfl _ _ _ _ rfl _ _ rfl rfl _ _ hrun ?_)
  go_ret
  exact ⟨rfl,rfl⟩
 |some a=>
  obtain ⟨ab,ao,asp⟩:=a
  go_wp2_with (at_builtin; refine Lib.wpList_append_run _ rfl _ _ _ _ rfl _ _ rfl rfl _ _ hrun ?_)
  all_goals (go_ret; exact ⟨rfl,rfl⟩)
set_option maxHeartbeats 4000000 in
set_option maxRecDepth 100000 in
theorem zDt (b off n c i vb voff m vc:Nat) (cs vs:List Value) (w:World) (hi:i<n) (hm:0<m) (hnc:n≤c) (hroom:c<n+m) (hbig:(n+m)*40≤140737488355328)
  (hcl:cs.length=n*2) (hvl:vs.length=m*2)
  (hcs:∀j v,cs[j]? =some v→w.cell? ⟨b,off+j,none⟩=some v)
  (hvs:∀j v,vs[j]? =some v→w.cell? ⟨vb,voff+j,none⟩=some v) (h1c:∀v∈cs,v.oneCell'=true) (h1v:∀v∈vs,v.oneCell'=true) (zv:Value) (hzv:Try.t62.zero=some zv) (hzs:zv.cells.size=2):
  Calls Try.prog 67 #[.slice (some ⟨b,off,none⟩) n c,.int .i64 i,.slice (some ⟨vb,voff,none⟩) m vc] w fun e w'=>
   e= .returned (.slice (some ⟨w.heap.size,0,none⟩) (n+m) (grownCap w (n+m) c 62))∧
   w'=(((w.alloc (.cells ((cs.take (i*2)).toArray ++Builtin.zeroCells zv.cells (n+m-i)++Builtin.zeroCells zv.cells (grownCap w (n+m) c 62-(n+m))) 62)).drew.setCells w.heap.size (i*2) vs).drew).setCells w.heap.size ((i+m)*2) (cs.drop (i*2)):=by
 have mixed:Try.prog.follows .mixedOrders =true:=by kernel_rfl
 have hi0:Try.prog.info? 62=some Try.t62:=by kernel_rfl
 have hzz:Try.t62.size=2:=by kernel_rfl
 have hzb:Try.t62.bytes=40:=by kernel_rfl
 have hz1:¬((m:Int)=0):=by omega
 have hz2:¬((i:Int)=(n:Int)):=by omega
 have hz3:(c:Int)< (n:Int)+(m:Int):=by omega
 have hsz:(Try.prog.info? 62).map (·.size)=some 2:=by kernel_rfl
 have hbw:b<w.heap.size:=block_lt_of_cell (hcs 0 _ (List.getElem?_eq_getElem (by omega)))
 have hvw:vb<w.heap.size:=block_lt_of_cell (hvs 0 _ (List.getElem?_eq_getElem (by omega)))
 have hkk:(n:Int)+(m:Int)-(i:Int)=((n+m-i:Nat):Int):=by omega
 have hik:i+(n+m-i)=n+m:=by omega
 have hold:(Builtin.firstCells Try.t62.size i (.slice (some ⟨b,off,none⟩) i c)).run Try.prog w.drew= .ok (cs.take (i*2)).toArray w.drew:=by
  rw [hzz]
  exact run_firstCells_some w.drew 2 i ⟨b,off,none⟩ i c (cs.take (i*2)) (by rw [List.length_take]; omega) (fun j v hj=>by
   rw [Addr.add_lit]
   rw [List.getElem?_take] at hj
   split at hj
   ·exact hcs j v hj
   ·cases hj)
 have hrz:∀ty,(Builtin.append_ #[26,3] ty #[.slice (some ⟨b,off,none⟩) i c,.int .i64 ((n:Int)+(m:Int)-(i:Int))]).run Try.prog w=
   .ok (.slice (some ⟨w.heap.size,0,none⟩) (n+m) (grownCap w (n+m) c 62)) (w.drew.alloc (.cells ((cs.take (i*2)).toArray ++Builtin.zeroCells zv.cells (n+m-i)++Builtin.zeroCells zv.cells (grownCap w (n+m) c 62-(n+m))) 62)):=fun ty=>by
  have h:=Lib.run_append_grow_zeros w 26 3 ty 62 Try.t62 _ .i64 .i64 Try.underlying26 Try.underlying3 hi0 hzv (some ⟨b,off,none⟩) i c (cs.take (i*2)) hold (n+m-i) (by omega) (by omega) (by omega) (by omega) (by rw [hzb]; omega) (by rw [hzb,hik]; exact growslice_fits hroom hbig)
  rw [hik] at h
  rw [hkk]
  exact h
 obtain ⟨G,hG⟩:∃G,G=grownCap w (n+m) c 62:=⟨_,rfl⟩
 obtain ⟨ROW,hROW⟩:∃ROW:Array Value,ROW=(cs.take (i*2)).toArray ++Builtin.zeroCells zv.cells (n+m-i)++Builtin.zeroCells zv.cells (G-(n+m)):=⟨_,rfl⟩
 rw [←hG] at hrz ⊢
 rw [←hROW] at hrz ⊢
 have hRl:(n+m)*2≤ROW.size:=by
  rw [hROW]
  simp [Builtin.zeroCells,hzs]
  omega
 obtain ⟨W1,hW1⟩:∃W1,W1=w.drew.alloc (.cells ROW 62):=⟨_,rfl⟩
 rw [←hW1] at hrz
 have hN:∀j,j< (n+m)*2→(W1.cell? ⟨w.heap.size,j,none⟩).isSome =true:=fun j hj=>by
  rw [hW1,World.cell?_alloc_at (w:=w.drew) ROW _ w.heap.size j rfl,Array.getElem?_eq_getElem (by omega)]; rfl
 have hNf:∀j,W1.frozen? ⟨w.heap.size,j,none⟩=false:=fun j=>by rw [hW1]; exact World.frozen?_alloc_at (w:=w.drew) ROW _ w.heap.size j rfl
 have hOb:∀j v,w.cell? ⟨b,j,none⟩=some v→W1.cell? ⟨b,j,none⟩=some v:=fun j v h=>by rw [hW1,World.cell?_alloc_past (w:=w.drew) _ b j hbw]; exact h
 have hOv:∀j v,w.cell? ⟨vb,j,none⟩=some v→W1.cell? ⟨vb,j,none⟩=some v:=fun j v h=>by rw [hW1,World.cell?_alloc_past (w:=w.drew) _ vb j hvw]; exact h
 have hcpA:∀(W:World),(∀x,W.cell? x=W1.cell? x)→(∀x,W.frozen? x=W1.frozen? x)→∀ty dc,(Builtin.copy_ #[26,26] ty #[.slice (some ⟨w.heap.size,i*2,none⟩) (n+m-i) dc,.slice (some ⟨vb,voff,none⟩) m vc]).run Try.prog W= .ok (goInt (Nat.min m (n+m-i))) (W.setCells w.heap.size (i*2) vs):=fun W hWc hWf ty dc=>
  jS W _ _ ty 62 2 w.heap.size (i*2) (n+m-i) dc ⟨vb,voff,none⟩ m vc vs Try.underlying26 hsz (by rw [hvl]; simp only [Nat.min_def]; split<;>omega)
   (fun j v hj=>by rw [Addr.add_lit,hWc]; exact hOv _ v (hvs j v hj))
   (fun j hj=>by rw [hWc]; exact hN _ (by omega)) (fun j hj=>by rw [hWf]; exact hNf _) h1v
 have hGn:n+m≤G:=by rw [hG]; exact grownCap_ge w _ _ _
 have hG63:G≤9223372036854775807:=by
  have:=grownCap_le_maxLen w (n+m) c 62 (by unfold maxLen; omega)
  rw [←hG] at this
  unfold maxLen at this
  omega
 have hGi:¬(G=i):=by omega
 have hGim:¬(G=i+m):=by omega
 have hci:¬(c=i):=by omega
 have hbN:b≠w.heap.size:=by omega
 have hdl:(cs.drop (i*2)).length =(n-i)*2:=by rw [List.length_drop,hcl]; omega
 have hcpB:∀(W:World),(∀x,W.cell? x=(W1.setCells w.heap.size (i*2) vs).cell? x)→(∀x,W.frozen? x=(W1.setCells w.heap.size (i*2) vs).frozen? x)→∀ty dc sc,(Builtin.copy_ #[26,26] ty #[.slice (some ⟨w.heap.size,(i+m)*2,none⟩) (n+m-(i+m)) dc,.slice (some ⟨b,off+i*2,none⟩) (n-i) sc]).run Try.prog W= .ok (goInt (Nat.min (n-i) (n+m-(i+m)))) (W.setCells w.heap.size ((i+m)*2) (cs.drop (i*2))):=fun W hWc hWf ty dc sc=>
  jS W _ _ ty 62 2 w.heap.size ((i+m)*2) (n+m-(i+m)) dc ⟨b,off+i*2,none⟩ (n-i) sc (cs.drop (i*2)) Try.underlying26 hsz (by rw [hdl]; simp only [Nat.min_def]; split<;>omega)
   (fun j v hj=>by
    rw [Addr.add_lit,hWc,World.cell?_setCells_out _ _ _ _ _ (fun h _=>absurd h hbN),Nat.add_assoc]
    exact hOb _ v (hcs (i*2+j) v (by rwa [List.getElem?_drop] at hj)))
   (fun j hj=>by rw [hWc]; exact isSome_setCells _ _ _ _ (fun t ht=>hN _ (by omega)) _ (hN _ (by omega)))
   (fun j hj=>by rw [hWf,World.frozen?_setCells]; exact hNf _) (fun v hv=>h1c v (List.mem_of_mem_drop hv))
 subst hW1
 have hE1:∀x,((w.alloc (.cells ROW 62)).drew).cell? x=(w.drew.alloc (.cells ROW 62)).cell? x:=fun x=>rfl
 have hE2:∀x,((w.alloc (.cells ROW 62)).drew).frozen? x=(w.drew.alloc (.cells ROW 62)).frozen? x:=fun x=>rfl
 have hF1:∀x,(((w.alloc (.cells ROW 62)).drew.setCells w.heap.size (i*2) vs).drew).cell? x=((w.drew.alloc (.cells ROW 62)).setCells w.heap.size (i*2) vs).cell? x:=fun x=>rfl
 have hF2:∀x,(((w.alloc (.cells ROW 62)).drew.setCells w.heap.size (i*2) vs).drew).frozen? x=((w.drew.alloc (.cells ROW 62)).setCells w.heap.size (i*2) vs).frozen? x:=fun x=>rfl
 have hw1:IntKind.i64.wrap ((i:Int)+(m:Int))=(i:Int)+(m:Int):=by rw [IntKind.wrap_i64]; omega
 have hb1:(0:Int)≤(i:Int)+(m:Int):=by omega
 have hin:i≤n:=by omega
 have htn:((i:Int)+(m:Int)).toNat =i+m:=by omega
 have hb3:(i:Int)≤(n:Int):=by omega
 clear hkk hik hold hROW hG hRl hcs hvs hOb hOv hN hNf h1c h1v hcl hvl hdl hzv hzs
 go_enter Try.func67,Try.ntmps67
 go_wp2_with (first
  |(at_builtin; refine Lib.wpList_append_run _ rfl _ _ _ _ rfl _ _ rfl rfl _ _ (hrz _) ?_)
  |(at_builtin; refine wpList_copy_runI _ rfl _ _ 26 26 rfl _ _ rfl rfl (hcpA _ hE1 hE2 _ _) ?_)
  |(at_builtin; refine wpList_copy_runI _ rfl _ _ 26 26 rfl _ _ rfl rfl (hcpB _ (fun _=>rfl) (fun _=>rfl) _ _ _) ?_))
 go_region_law_o (refine step_copy_runI rfl _ _ 26 26 rfl (.slice (some ⟨w.heap.size,(i+m)*2,none⟩) (n+m-(i+m)) (G-(i+m))) (.slice (some ⟨b,off+i*2,none⟩) (n-i) (c-i)) (by simp [Act.eval,Act.put]) (by simp [Act.eval,Act.put]) (hcpB _ hF1 hF2 3 (G-(i+m)) (c-i)) ?_)
 go_wp2
 go_ret
 exact ⟨rfl,rfl⟩
theorem zDR (n m:Nat) (i:Int) (h0:0≤i) (h1:i≤n) (hm:0<m) (hbig:n+m≤1099511627776) (w:World) (v u:Value) (wx wy:List Value) (bx bz:List Nat) (hD1:Dst w 2 n v wx bx) (hD2:Dst w 2 m u wy bz) (hd:∀b∈bx,b∉bz) (q1:∀q∈wx,Value.oneCell q=true) (q2:∀q∈wy,Value.oneCell q=true):
  Calls Try.prog 67 #[v,.int .i64 i,u] w fun e w'=>∃r,e= .returned r∧zCY w w' 2 (n+m) 0 (wx.take (i.toNat*2)++(wy++wx.drop (i.toNat*2))) [] bx r:=by
 obtain ⟨k,rfl⟩:=Int.eq_ofNat_of_zero_le h0
 have hk:k≤n:=by omega
 rw [Int.toNat_natCast]
 have e1:∀q∈wx,q.oneCell'=true:=fun q hq=>by rw [kW]; exact q1 q hq
 have e2:∀q∈wy,q.oneCell'=true:=fun q hq=>by rw [kW]; exact q2 q hq
 rcases hD2 with ⟨_,hm0,_⟩|⟨vb,voff,vc,rfl,rfl,hmc,hO2,hl2⟩
 ·omega
 have hvs:∀j v,wy[j]? =some v→w.cell? ⟨vb,voff+j,none⟩=some v:=fun j v hj=>by
  obtain ⟨hlt,rfl⟩:=List.getElem?_eq_some_iff.1 hj
  exact hO2.has.cell j hlt
 by_cases hkn:k=n
 ·subst hkn
  have hsrc:Go.Src Try.prog 2 26 (.slice (some ⟨vb,voff,none⟩) m vc) m wy w:=jL Try.underlying26 q2 (.inr ⟨vb,voff,vc,rfl,hO2.has,hl2⟩)
  have hl1:wx.length=k*2:=by
   rcases hD1 with ⟨_,rfl,rfl,_⟩|⟨_,_,_,_,_,_,_,h⟩
   ·rfl
   ·exact h
  obtain ⟨r,w1,hrun,hA⟩:=jQ (ty:=26) (T:=26) (U:=26) (bytes:=40) (zv:=zBu Try.prog 62) Try.underlying26 (by kernel_rfl) (by kernel_rfl) hD1 hsrc (by omega) (by omega)
  have hA':zCY w w1 2 (k+m) 0 (wx.take (k*2)++(wy++wx.drop (k*2))) [] bx r:=by
   rw [List.take_of_length_le (by omega),List.drop_of_length_le (by omega),List.append_nil]
   obtain ⟨g1,g2⟩:=hA
   refine ⟨g1,?_⟩
   rcases g2 with ⟨g2,_⟩|⟨b,off,c,g3,g4,g5,g6⟩
   ·omega
   ·exact .inr ⟨b,off,c,g3,g4,by rw [List.append_nil]; exact g5,g6⟩
  rcases hD1 with ⟨rfl,rfl,rfl,rfl⟩|⟨b,off,c,rfl,rfl,hnc,hO1,_⟩
  ·refine (zCp none 0 0 vb voff m vc w w1 r hm (Nat.le_refl _) (by omega) (fun _=>⟨rfl,rfl⟩) hrun).mono ?_
   rintro e w' ⟨rfl,rfl⟩
   exact ⟨_,rfl,hA'⟩
  ·refine (zCp (some ⟨b,off,none⟩) k c vb voff m vc w w1 r hm hnc (by omega) (fun h=>by cases h) hrun).mono ?_
   rintro e w' ⟨rfl,rfl⟩
   exact ⟨_,rfl,hA'⟩
 ·rcases hD1 with ⟨_,hn0,_⟩|⟨b,off,c,rfl,rfl,hnc,hO1,hl1⟩
  ·omega
  have hvb:vb≠b:=fun e=>hd b (by simp) (by simp [e])
  have hcs:∀j v,wx[j]? =some v→w.cell? ⟨b,off+j,none⟩=some v:=fun j v hj=>by
   obtain ⟨hlt,rfl⟩:=List.getElem?_eq_some_iff.1 hj
   exact hO1.has.cell j hlt
  by_cases hroom:n+m≤c
  ·obtain ⟨arr,e,lo,hi,g1,g2,g3,g4⟩:=id hO1
   obtain ⟨arr2,e',lo2,hi2,p1,p2,p3,p4⟩:=hO2
   refine (zC8 b off n c k vb voff m vc wx wy w (by omega) hm hroom (by omega) hvb hl1 hl2 hcs (fun j hj=>?_) (fun j hj=>kV g1 g2 (by omega)) hvs e1 e2 e' e arr2.size arr.size (by simp [World.shape?,p1]) (by simp [World.shape?,g1]) (by omega) (kV p1 p2 (by omega)) (kV p1 p2 (Nat.le_refl _))).mono ?_
   ·rw [cell_of g1,Array.getElem?_eq_getElem (by omega)]; rfl
   ·rintro e' w' ⟨rfl,rfl⟩
    refine ⟨_,rfl,?_⟩
    rw [yM,yM]
    exact zCH (w:=w) (w0:=w.drew) ⟨rfl,rfl,rfl⟩ hO1 hl1 hl2 hk hroom
  ·refine (zDt b off n c k vb voff m vc wx wy w (by omega) hm hnc (by omega) (by omega) hl1 hl2 hcs hvs e1 e2 (zBu Try.prog 62) (by kernel_rfl) (by kernel_rfl)).mono ?_
   rintro e' w' ⟨rfl,rfl⟩
   refine ⟨_,rfl,?_⟩
   have hge:=grownCap_ge w (n+m) c 62
   have hz2:(zBu Try.prog 62).cells.size =2:=by kernel_rfl
   rw [←drew_setCells,yM,yM]
   refine zCY.world (zDF (w:=w) (w0:=(w.alloc (.cells ((wx.take (k*2)).toArray ++Builtin.zeroCells (zBu Try.prog 62).cells (n+m-k)++Builtin.zeroCells (zBu Try.prog 62).cells (grownCap w (n+m) c 62-(n+m))) 62)).drew) (c:=grownCap w (n+m) c 62) (z:=2) (blk:=[b]) ⟨rfl,rfl,rfl⟩ (fun q hq=>?_) ?_ hl1 hl2 hk hge) (by omega) rfl ⟨rfl,rfl⟩
   ·rw [Array.append_assoc,Array.getElem?_append_left (by simp; omega)]
    simp [List.getElem?_take,hq]
   ·simp [Builtin.zeroCells,hz2]
    omega
theorem yF.ok (a1:List File) (a2:Int) (a3:List File):Ok Try.prog 67 [rr 0 a1,iv a2,rr 1 a3] [rE 2 (File.enc true) a1,rE 2 (File.enc true) a3] ((yF a1 a2 a3).map fun r=>(so 2 (File.enc true) r,[])):=by
 unfold yF
 split
 ·rename_i h
  obtain ⟨h0,h1,h2,h3⟩:=h
  exact zDD (fun _=>rfl) h0 h1 (fun w v u wx wy bx bz hD1 hD2 hd _ q1 q2=>zDR a1.length a3.length a2 h0 h1 h2 h3 w v u wx wy bx bz hD1 hD2 hd q1 q2)
 ·exact fun _ h=>by cases h
end
noncomputable def c56:Code:=(Try.f56.body).getD .skip
theorem xL.ok (a1:zA) (a2:ByteArray) (a3:(List Int)):Ok Try.prog 56 [pp 0,sv a2,sl 1 eU8 a3] [.box (zA.enc true a1)] ((xL a1 a2 a3).map fun r=>(.tu [],[.box (zA.enc true r)])):=by
 refine zO c56 Try.f56 1 39 (fun q=>?_)
 unfold xL
 refine xP 0 (cs':=[rr 1 a1.Files,iv a1.Budget,iv a1.Writes,iv a1.Stop,bv a1.Down]) (es:=[(1,rE 2 (File.enc true) a1.Files)]) rfl (.cons (.own 1) (.cons (.same rfl rfl) (.cons (.same rfl rfl) (.cons (.same rfl rfl) (.cons (.same rfl rfl) (.nil)))))) rfl (by kernel_rfl) (by kernel_rfl) ?_
 refine uQ [(0,pp 0),(1,sv a2),(2,sl 1 eU8 a3)] [(0,.box [rr 1 a1.Files,iv a1.Budget,iv a1.Writes,iv a1.Stop,bv a1.Down]),(1,rE 2 (File.enc true) a1.Files)] (by kernel_rfl) ?_
 refine zG (fun x4 h5=>?_)
 refine J_g 2 [] [(0,pp 0),(1,sv a2),(2,sl 1 eU8 a3),(6,iv x4.1),(7,bv x4.2)] [(0,.box [rr 1 a1.Files,iv a1.Budget,iv a1.Writes,iv a1.Stop,bv a1.Down]),(1,rE 2 (File.enc true) a1.Files)] (zU 4 (tK («as»:=[.ag [rr 1 a1.Files,iv a1.Budget,iv a1.Writes,iv a1.Stop,bv a1.Down],sv a2]) [(.tmp 11),(.tmp 12)] [48,9] true [(1,rE 2 (File.enc true) a1.Files)] [] (.cons (.ag (.cons (zBk (.head _) (File.ro true) rfl) (.cons (.same rfl) (.cons (.same rfl) (.cons (.same rfl) (.cons (.same rfl) (.nil))))))) (.cons (.same rfl) (.nil))) (yD.ok a1 a2) h5 (.tu (.cons (.same rfl rfl) (.cons (.same rfl rfl) (.nil)))) (hbor:=fun _=>⟨fhN,(zDv (flatK xR (flatK xR zCQ)))⟩)) zD) ?_
 refine J_d 12 [] [7,17] [(17,bv (!x4.2))] [] [] zD ?_
 refine vZ (atI c56 7) (fun v9:(List File)=>St.mk' [(0,pp 0),(2,sl 1 eU8 a3),(6,iv x4.1)] [(0,.box [rr 3 v9,iv a1.Budget,iv a1.Writes,iv a1.Stop,bv a1.Down]),(3,rE 2 (File.enc true) v9)]) (fun v9=>?_) (fun jv9=>?_)
 ·refine zG (fun x10 h11=>?_)
  refine zG (fun x12 h13=>?_)
  refine J_g 7 [] [] [(0,.box [rr 3 v9,iv a1.Budget,iv a1.Writes,iv a1.Stop,bv a1.Down]),(3,rE 2 (File.enc true) (v9.set x4.1.toNat ({Path:=x12.Path,Data:=x10}:File)))] (zU 6 (tK («as»:=[sl 1 eU8 a3]) [(.tmp 35)] [38] false [] [] (.cons (.same rfl) (.nil)) (zR.ok a3) h11 (.own 4)) (zU 7 (zAJ (kk:=.i64) 26 62 2 3 (File.enc true) (.tmp 33) (.tmp 34) h13) (zEY 9 (zE0 (b:=({Path:=x12.Path,Data:=x10}:File)) (es':=[so 1 eU8 x10]) (ts:=[4]) 38 2 3 1 (File.enc true) (rr 4 x10) (.tmp 38) (.tmp 36) [(4,rE 1 eU8 x10)] h13 (.move (.head _) (List.length_map _) (by decide) (.nil)) rfl) zD))) ?_
  refine zEm (σ':=St.mk' [] [(0,.box [rr 3 (v9.set x4.1.toNat ({Path:=x12.Path,Data:=x10}:File)),iv a1.Budget,iv a1.Writes,iv a1.Stop,bv a1.Down]),(3,rE 2 (File.enc true) (v9.set x4.1.toNat ({Path:=x12.Path,Data:=x10}:File)))]) (by simp only [rr,List.length_set]) ?_
  refine wD 0 (cs':=[so 2 (File.enc true) (v9.set x4.1.toNat ({Path:=x12.Path,Data:=x10}:File)),iv a1.Budget,iv a1.Writes,iv a1.Stop,bv a1.Down]) (ts:=[3]) rfl (.move (.head _) (List.length_map _) (by decide) (.keep rfl (.keep rfl (.keep rfl (.keep rfl (.nil)))))) ?_
  refine uQ [] [(0,.box [so 2 (File.enc true) (v9.set x4.1.toNat ({Path:=x12.Path,Data:=x10}:File)),iv a1.Budget,iv a1.Writes,iv a1.Stop,bv a1.Down])] (by kernel_rfl) ?_
  exact zEW rfl
 ·refine zN 17 (fun h6=>?_) (fun h6=>?_)
  ·refine zG (fun x7 h8=>?_)
   refine J_d 26 [] [1,17] [] [0,1,3] [(0,.box [rr 3 x7,iv a1.Budget,iv a1.Writes,iv a1.Stop,bv a1.Down]),(3,rE 2 (File.enc true) x7)] (zU 8 (zF0 (ds:=[sv a2,nv]) (ts:=[]) 26 62 2 2 (File.enc true) [({Path:=a2,Data:=([]:List Int)}:File)] [0] [(.tmp 25)] [.ag [sv a2,nv]] [] (.keep rfl (.nilsl true 1 (.nil)))) (zU 9 (tK («as»:=[rr 1 a1.Files,iv x4.1,rr 2 [({Path:=a2,Data:=([]:List Int)}:File)]]) [(.tmp 22),(.tmp 23),(.tmp 26)] [26,3,26] false [(1,rE 2 (File.enc true) a1.Files),(2,rE 2 (File.enc true) [({Path:=a2,Data:=([]:List Int)}:File)])] [1,2] (.cons (.rf rfl) (.cons (.same rfl) (.cons (.rf rfl) (.nil)))) (yF.ok a1.Files x4.1 [({Path:=a2,Data:=([]:List Int)}:File)]) h8 (.own 3)) zD)) ?_
   exact vS (J_j (jv9 x7)) rfl
  ·refine zE8 1 3 (Nat.le_of_ble_eq_true rfl) (Nat.le_of_ble_eq_true rfl) ?_
   exact vS (J_j (jv9 a1.Files)) rfl
noncomputable def c55:Code:=(Try.f55.body).getD .skip
theorem yG.ok (a1:zA) (a2:ByteArray) (a3:(List Int)):Ok Try.prog 55 [.pb [pp 0],pp 1,pp 2] [.box (zA.enc true a1),.box [sv a2],.box [sl 1 eU8 a3]] ((yG a1 a2 a3).map fun r=>(.tu [],[.box (zA.enc true r),.box [sv a2],.box [sl 1 eU8 a3]])):=by
 refine zO c55 Try.f55 3 7 (fun q=>?_)
 unfold yG
 refine xP 0 (cs':=[rr 3 a1.Files,iv a1.Budget,iv a1.Writes,iv a1.Stop,bv a1.Down]) (es:=[(3,rE 2 (File.enc true) a1.Files)]) rfl (.cons (.own 3) (.cons (.same rfl rfl) (.cons (.same rfl rfl) (.cons (.same rfl rfl) (.cons (.same rfl rfl) (.nil)))))) rfl (by kernel_rfl) (by kernel_rfl) ?_
 refine uQ [(0,.pb [pp 0]),(1,pp 1),(2,pp 2)] [(0,.box [rr 3 a1.Files,iv a1.Budget,iv a1.Writes,iv a1.Stop,bv a1.Down]),(1,.box [sv a2]),(2,.box [sl 1 eU8 a3]),(3,rE 2 (File.enc true) a1.Files)] (by kernel_rfl) ?_
 refine wD 0 (cs':=[so 2 (File.enc true) a1.Files,iv a1.Budget,iv a1.Writes,iv a1.Stop,bv a1.Down]) (ts:=[3]) rfl (.move (.tail _ (.tail _ (.head _))) (List.length_map _) (by decide) (.keep rfl (.keep rfl (.keep rfl (.keep rfl (.nil)))))) ?_
 refine uQ [(0,.pb [pp 0]),(1,pp 1),(2,pp 2)] [(0,.box (zA.enc true a1)),(1,.box [sv a2]),(2,.box [sl 1 eU8 a3])] (by kernel_rfl) ?_
 refine zG (fun x4 h5=>?_)
 refine J_g 1 [] [] [(0,.box (zA.enc true x4)),(1,.box [sv a2]),(2,.box [sl 1 eU8 a3])] (zU 0 (zAX (d:=pp 0) 48 (.tmp 0) [pp 0]) (zU 3 (tK («as»:=[pp 0,sv a2,sl 1 eU8 a3]) [(.tmp 3),(.tmp 4),(.tmp 5)] [48,9,38] false [(0,.box (zA.enc true a1))] [0] (.cons (.pt rfl) (.cons (.same rfl) (.cons (.same rfl) (.nil)))) (xL.ok a1 a2 a3) h5 (.tu (.nil))) zD)) ?_
 refine xP 0 (cs':=[rr 3 x4.Files,iv x4.Budget,iv x4.Writes,iv x4.Stop,bv x4.Down]) (es:=[(3,rE 2 (File.enc true) x4.Files)]) rfl (.cons (.own 3) (.cons (.same rfl rfl) (.cons (.same rfl rfl) (.cons (.same rfl rfl) (.cons (.same rfl rfl) (.nil)))))) rfl (by kernel_rfl) (by kernel_rfl) ?_
 refine uQ [] [(0,.box [rr 3 x4.Files,iv x4.Budget,iv x4.Writes,iv x4.Stop,bv x4.Down]),(1,.box [sv a2]),(2,.box [sl 1 eU8 a3]),(3,rE 2 (File.enc true) x4.Files)] (by kernel_rfl) ?_
 refine wD 0 (cs':=[so 2 (File.enc true) x4.Files,iv x4.Budget,iv x4.Writes,iv x4.Stop,bv x4.Down]) (ts:=[3]) rfl (.move (.tail _ (.tail _ (.head _))) (List.length_map _) (by decide) (.keep rfl (.keep rfl (.keep rfl (.keep rfl (.nil)))))) ?_
 refine uQ [] [(0,.box (zA.enc true x4)),(1,.box [sv a2]),(2,.box [sl 1 eU8 a3])] (by kernel_rfl) ?_
 exact zEW rfl
noncomputable def c44:Code:=(Try.f44.body).getD .skip
theorem zK.ok (a1:zA) (a2:ByteArray) (a3:(List Int)):Ok Try.prog 44 [pp 0,.fn 55 [.pb [pp 0],pp 1,pp 2]] [.box (zA.enc true a1),.box [sv a2],.box [sl 1 eU8 a3]] ((zK a1 a2 a3).map fun r=>(iv r.1,[.box (zA.enc true r.2),.box [sv a2],.box [sl 1 eU8 a3]])):=by
 refine zO c44 Try.f44 3 33 (fun q=>?_)
 unfold zK
 refine xP 0 (cs':=[rr 3 a1.Files,iv a1.Budget,iv a1.Writes,iv a1.Stop,bv a1.Down]) (es:=[(3,rE 2 (File.enc true) a1.Files)]) rfl (.cons (.own 3) (.cons (.same rfl rfl) (.cons (.same rfl rfl) (.cons (.same rfl rfl) (.cons (.same rfl rfl) (.nil)))))) rfl (by kernel_rfl) (by kernel_rfl) ?_
 refine uQ [(0,pp 0),(1,.fn 55 [.pb [pp 0],pp 1,pp 2])] [(0,.box [rr 3 a1.Files,iv a1.Budget,iv a1.Writes,iv a1.Stop,bv a1.Down]),(1,.box [sv a2]),(2,.box [sl 1 eU8 a3]),(3,rE 2 (File.enc true) a1.Files)] (by kernel_rfl) ?_
 refine J_d 2 [] [] [] [] [] zD ?_
 refine vZ (atI c44 13) (fun v5:Bool=>St.mk' [(0,pp 0),(1,.fn 55 [.pb [pp 0],pp 1,pp 2]),(20,bv v5)] [(0,.box [rr 3 a1.Files,iv a1.Budget,iv a1.Writes,iv a1.Stop,bv a1.Down]),(1,.box [sv a2]),(2,.box [sl 1 eU8 a3]),(3,rE 2 (File.enc true) a1.Files)]) (fun v5=>?_) (fun jv5=>?_)
 ·refine zN 20 (fun h6=>?_) (fun h6=>?_)
  ·refine J_g 52 [] [] [(0,.box [rr 3 a1.Files,iv a1.Budget,iv a1.Writes,iv a1.Stop,bv true]),(1,.box [sv a2]),(2,.box [sl 1 eU8 a3]),(3,rE 2 (File.enc true) a1.Files)] zD ?_
   refine J_g 106 [] [(4,iv 9)] [(0,.box [rr 3 a1.Files,iv a1.Budget,iv a1.Writes,iv a1.Stop,bv true]),(1,.box [sv a2]),(2,.box [sl 1 eU8 a3]),(3,rE 2 (File.enc true) a1.Files)] zD ?_
   refine wD 0 (cs':=[so 2 (File.enc true) a1.Files,iv a1.Budget,iv a1.Writes,iv a1.Stop,bv true]) (ts:=[3]) rfl (.move (.tail _ (.tail _ (.head _))) (List.length_map _) (by decide) (.keep rfl (.keep rfl (.keep rfl (.keep rfl (.nil)))))) ?_
   refine uQ [(4,iv 9)] [(0,.box [so 2 (File.enc true) a1.Files,iv a1.Budget,iv a1.Writes,iv a1.Stop,bv true]),(1,.box [sv a2]),(2,.box [sl 1 eU8 a3])] (by kernel_rfl) ?_
   exact yJ rfl
  ·refine wD 0 (cs':=[so 2 (File.enc true) a1.Files,iv a1.Budget,iv a1.Writes,iv a1.Stop,bv a1.Down]) (ts:=[3]) rfl (.move (.tail _ (.tail _ (.head _))) (List.length_map _) (by decide) (.keep rfl (.keep rfl (.keep rfl (.keep rfl (.nil)))))) ?_
   refine uQ [(0,pp 0),(1,.fn 55 [.pb [pp 0],pp 1,pp 2]),(20,bv false)] [(0,.box (zA.enc true a1)),(1,.box [sv a2]),(2,.box [sl 1 eU8 a3])] (by kernel_rfl) ?_
   refine zG (fun x7 h8=>?_)
   refine J_g 14 [] [(0,pp 0)] [(0,.box (zA.enc true x7)),(1,.box [sv a2]),(2,.box [sl 1 eU8 a3])] (zU 1 (zFj 24 [] [] false [(0,.box (zA.enc true a1)),(1,.box [sv a2]),(2,.box [sl 1 eU8 a3])] [0,1,2] [] [.pb [pp 0],pp 1,pp 2] (.cons (.pb (.cons (.pt rfl) (.nil))) (.cons (.pt rfl) (.cons (.pt rfl) (.nil)))) (yG.ok a1 a2 a3) h8 (.tu (.nil))) zD) ?_
   refine xP 0 (cs':=[rr 3 x7.Files,iv x7.Budget,iv x7.Writes,iv x7.Stop,bv x7.Down]) (es:=[(3,rE 2 (File.enc true) x7.Files)]) rfl (.cons (.own 3) (.cons (.same rfl rfl) (.cons (.same rfl rfl) (.cons (.same rfl rfl) (.cons (.same rfl rfl) (.nil)))))) rfl (by kernel_rfl) (by kernel_rfl) ?_
   refine uQ [(0,pp 0)] [(0,.box [rr 3 x7.Files,iv x7.Budget,iv x7.Writes,iv x7.Stop,bv x7.Down]),(1,.box [sv a2]),(2,.box [sl 1 eU8 a3]),(3,rE 2 (File.enc true) x7.Files)] (by kernel_rfl) ?_
   refine J_g 30 [] [] [(0,.box [rr 3 x7.Files,iv x7.Budget,iv (w64 (x7.Writes+1)),iv x7.Stop,bv x7.Down]),(1,.box [sv a2]),(2,.box [sl 1 eU8 a3]),(3,rE 2 (File.enc true) x7.Files)] zD ?_
   refine J_g 62 [] [(4,iv 0)] [(0,.box [rr 3 x7.Files,iv x7.Budget,iv (w64 (x7.Writes+1)),iv x7.Stop,bv x7.Down]),(1,.box [sv a2]),(2,.box [sl 1 eU8 a3]),(3,rE 2 (File.enc true) x7.Files)] zD ?_
   refine wD 0 (cs':=[so 2 (File.enc true) x7.Files,iv x7.Budget,iv (w64 (x7.Writes+1)),iv x7.Stop,bv x7.Down]) (ts:=[3]) rfl (.move (.tail _ (.tail _ (.head _))) (List.length_map _) (by decide) (.keep rfl (.keep rfl (.keep rfl (.keep rfl (.nil)))))) ?_
   refine uQ [(4,iv 0)] [(0,.box [so 2 (File.enc true) x7.Files,iv x7.Budget,iv (w64 (x7.Writes+1)),iv x7.Stop,bv x7.Down]),(1,.box [sv a2]),(2,.box [sl 1 eU8 a3])] (by kernel_rfl) ?_
   exact yJ rfl
 ·refine wS (fun h4=>?_) (fun h4=>?_)
  ·refine J_d 12 [] [20] [(20,bv (decide (a1.Writes≥a1.Stop)))] [] [] (xS 5 [(9,bv (decide (a1.Stop≥0)))] [] h4 zD) ?_
   exact vS (J_j (jv5 (decide (a1.Writes≥a1.Stop)))) rfl
  ·refine J_d 12 [] [20] [(20,bv false)] [] [] (xS 5 [(9,bv (decide (a1.Stop≥0)))] [] h4 zD) ?_
   exact vS (J_j (jv5 false)) rfl
noncomputable def c35:Code:=(Try.f35.body).getD .skip
theorem zZ.ok (a1:zA) (a2:ByteArray) (a3:(List Int)):Ok Try.prog 35 [pp 0,sv a2,sl 1 eU8 a3] [.box (zA.enc true a1)] ((zZ a1 a2 a3).map fun r=>(iv r.1,[.box (zA.enc true r.2)])):=by
 refine zO c35 Try.f35 1 56 (fun q=>?_)
 unfold zZ
 refine xP 0 (cs':=[rr 1 a1.Files,iv a1.Budget,iv a1.Writes,iv a1.Stop,bv a1.Down]) (es:=[(1,rE 2 (File.enc true) a1.Files)]) rfl (.cons (.own 1) (.cons (.same rfl rfl) (.cons (.same rfl rfl) (.cons (.same rfl rfl) (.cons (.same rfl rfl) (.nil)))))) rfl (by kernel_rfl) (by kernel_rfl) ?_
 refine uQ [(0,pp 0),(1,sv a2),(2,sl 1 eU8 a3)] [(0,.box [rr 1 a1.Files,iv a1.Budget,iv a1.Writes,iv a1.Stop,bv a1.Down]),(1,rE 2 (File.enc true) a1.Files)] (by kernel_rfl) ?_
 refine J_d 2 [(1,2),(2,3)] [0,1,2,3,4,5] [(3,.pb [pp 0]),(4,pp 2),(5,pp 3)] [2,3] [(2,.box [sv a2]),(3,.box [sl 1 eU8 a3])] (zU 0 (zET 48 (.tmp 0) (pp 0)) zD) ?_
 refine zG (fun x4 h5=>?_)
 refine J_d 6 [] [7,8] [(7,.ln x4.1.length),(8,bv x4.2)] [] [] (zU 0 (zAX (d:=pp 0) 48 (.tmp 3) [pp 0]) (zU 4 (tK («as»:=[.ag [rr 1 a1.Files,iv a1.Budget,iv a1.Writes,iv a1.Stop,bv a1.Down],sv a2]) [(.tmp 12),(.tmp 13)] [48,9] true [(1,rE 2 (File.enc true) a1.Files)] [] (.cons (.ag (.cons (zBk (.head _) (File.ro true) rfl) (.cons (.same rfl) (.cons (.same rfl) (.cons (.same rfl) (.cons (.same rfl) (.nil))))))) (.cons (.same rfl) (.nil))) (zFJ (fun r=>(.tu [.ln r.1.length,bv r.2],[])) (yY.ok a1 a2) (fun r=>.tu (.cons zFE (.cons .same (.nil))))) h5 (.tu (.cons (.same rfl rfl) (.cons (.same rfl rfl) (.nil)))) (hbor:=fun _=>⟨fhN,(zDv (flatK trivial (flatK xR zCQ)))⟩)) zD)) ?_
 refine zG (fun x6 h7=>?_)
 refine J_d 56 [] [17] [(17,bv (x6 !=0))] [] [] (zU 1 (tF [(.tmp 18)] [9] (yL.ok a2) h7) zD) ?_
 refine zN 17 (fun h8=>?_) (fun h8=>?_)
 ·refine J_g 228 [] [(6,iv 5)] [(0,.box [rr 1 a1.Files,iv a1.Budget,iv a1.Writes,iv a1.Stop,bv a1.Down]),(1,rE 2 (File.enc true) a1.Files)] zD ?_
  refine wD 0 (cs':=[so 2 (File.enc true) a1.Files,iv a1.Budget,iv a1.Writes,iv a1.Stop,bv a1.Down]) (ts:=[1]) rfl (.move (.head _) (List.length_map _) (by decide) (.keep rfl (.keep rfl (.keep rfl (.keep rfl (.nil)))))) ?_
  refine uQ [(6,iv 5)] [(0,.box (zA.enc true a1))] (by kernel_rfl) ?_
  exact yJ rfl
 ·refine vZ (atI c35 231) (fun v11:Bool=>St.mk' [(3,.pb [pp 0]),(4,pp 2),(5,pp 3),(7,.ln x4.1.length),(21,bv v11)] [(0,.box [rr 1 a1.Files,iv a1.Budget,iv a1.Writes,iv a1.Stop,bv a1.Down]),(1,rE 2 (File.enc true) a1.Files),(2,.box [sv a2]),(3,.box [sl 1 eU8 a3])]) (fun v11=>?_) (fun jv11=>?_)
  ·refine zN 21 (fun h12=>?_) (fun h12=>?_)
   ·refine J_g 924 [] [(6,iv 2)] [(0,.box [rr 1 a1.Files,iv a1.Budget,iv a1.Writes,iv a1.Stop,bv a1.Down]),(1,rE 2 (File.enc true) a1.Files)] zD ?_
    refine wD 0 (cs':=[so 2 (File.enc true) a1.Files,iv a1.Budget,iv a1.Writes,iv a1.Stop,bv a1.Down]) (ts:=[1]) rfl (.move (.head _) (List.length_map _) (by decide) (.keep rfl (.keep rfl (.keep rfl (.keep rfl (.nil)))))) ?_
    refine uQ [(6,iv 2)] [(0,.box (zA.enc true a1))] (by kernel_rfl) ?_
    exact yJ rfl
   ·refine zG (fun x13 h14=>?_)
    refine J_d 926 [] [7,21,37] [(37,bv (decide ((w64 ((w64 (x13-(x4.1.length:Int)))+(a3.length:Int)))>a1.Budget)))] [] [] (zU 0 (zAX (d:=pp 0) 48 (.tmp 3) [pp 0]) (zU 3 (tK («as»:=[.ag [rr 1 a1.Files,iv a1.Budget,iv a1.Writes,iv a1.Stop,bv a1.Down]]) [(.tmp 40)] [48] true [(1,rE 2 (File.enc true) a1.Files)] [] (.cons (.ag (.cons (zBk (.head _) (File.ro true) rfl) (.cons (.same rfl) (.cons (.same rfl) (.cons (.same rfl) (.cons (.same rfl) (.nil))))))) (.nil)) (yO.ok a1) h14 (.same rfl rfl) (hbor:=fun _=>⟨fhN,xR⟩)) (zU 10 (zAX (d:=pp 0) 48 (.tmp 3) [pp 0]) zD))) ?_
    refine zN 37 (fun h15=>?_) (fun h15=>?_)
    ·refine J_g 3708 [] [(6,iv 8)] [(0,.box [rr 1 a1.Files,iv a1.Budget,iv a1.Writes,iv a1.Stop,bv a1.Down]),(1,rE 2 (File.enc true) a1.Files)] zD ?_
     refine wD 0 (cs':=[so 2 (File.enc true) a1.Files,iv a1.Budget,iv a1.Writes,iv a1.Stop,bv a1.Down]) (ts:=[1]) rfl (.move (.head _) (List.length_map _) (by decide) (.keep rfl (.keep rfl (.keep rfl (.keep rfl (.nil)))))) ?_
     refine uQ [(6,iv 8)] [(0,.box (zA.enc true a1))] (by kernel_rfl) ?_
     exact yJ rfl
    ·refine wD 0 (cs':=[so 2 (File.enc true) a1.Files,iv a1.Budget,iv a1.Writes,iv a1.Stop,bv a1.Down]) (ts:=[1]) rfl (.move (.head _) (List.length_map _) (by decide) (.keep rfl (.keep rfl (.keep rfl (.keep rfl (.nil)))))) ?_
     refine uQ [(3,.pb [pp 0]),(4,pp 2),(5,pp 3),(37,bv false)] [(0,.box (zA.enc true a1)),(2,.box [sv a2]),(3,.box [sl 1 eU8 a3])] (by kernel_rfl) ?_
     refine zG (fun x16 h17=>?_)
     refine J_g 30 [] [(6,iv x16.1)] [(0,.box (zA.enc true x16.2))] (zU 0 (zAX (d:=pp 0) 48 (.tmp 3) [pp 0]) (zU 2 (tK («as»:=[pp 0,.fn 55 [.pb [pp 0],pp 2,pp 3]]) [(.tmp 53),(.tmp 54)] [48,1] false [(0,.box (zA.enc true a1)),(2,.box [sv a2]),(3,.box [sl 1 eU8 a3])] [0,2,3] (.cons (.pt rfl) (.cons (.fn (.cons (.pb (.cons (.pt rfl) (.nil))) (.cons (.pt rfl) (.cons (.pt rfl) (.nil))))) (.nil))) (zK.ok a1 a2 a3) h17 (.same rfl rfl)) zD)) ?_
     refine xP 0 (cs':=[rr 1 x16.2.Files,iv x16.2.Budget,iv x16.2.Writes,iv x16.2.Stop,bv x16.2.Down]) (es:=[(1,rE 2 (File.enc true) x16.2.Files)]) rfl (.cons (.own 1) (.cons (.same rfl rfl) (.cons (.same rfl rfl) (.cons (.same rfl rfl) (.cons (.same rfl rfl) (.nil)))))) rfl (by kernel_rfl) (by kernel_rfl) ?_
     refine uQ [(6,iv x16.1)] [(0,.box [rr 1 x16.2.Files,iv x16.2.Budget,iv x16.2.Writes,iv x16.2.Stop,bv x16.2.Down]),(1,rE 2 (File.enc true) x16.2.Files)] (by kernel_rfl) ?_
     refine wD 0 (cs':=[so 2 (File.enc true) x16.2.Files,iv x16.2.Budget,iv x16.2.Writes,iv x16.2.Stop,bv x16.2.Down]) (ts:=[1]) rfl (.move (.head _) (List.length_map _) (by decide) (.keep rfl (.keep rfl (.keep rfl (.keep rfl (.nil)))))) ?_
     refine uQ [(6,iv x16.1)] [(0,.box (zA.enc true x16.2))] (by kernel_rfl) ?_
     exact yJ rfl
  ·refine wS (fun h9=>?_) (fun h9=>?_)
   ·refine J_d 230 [] [8,17,21] [(21,bv true)] [] [] (xS 3 [(24,bv (decide ((a3.length:Int)>4000)))] [] h9 (zBz 6 (zB0 (i:=6) (g:=3) (t:=25) (b:=false) (v:=(.bool true)) (.inl rfl) (by kernel_rfl) (by kernel_rfl)) (zBz 7 (zB0 (i:=7) (g:=6) (t:=28) (b:=true) (v:=undef) (.inr rfl) (by kernel_rfl) (by kernel_rfl)) (zBz 8 (zB0 (i:=8) (g:=6) (t:=28) (b:=true) (v:=undef) (.inr rfl) (by kernel_rfl) (by kernel_rfl)) (zBz 9 (zB0 (i:=9) (g:=6) (t:=28) (b:=true) (v:=undef) (.inr rfl) (by kernel_rfl) (by kernel_rfl)) (zBz 10 (zB0 (i:=10) (g:=6) (t:=28) (b:=true) (v:=undef) (.inr rfl) (by kernel_rfl) (by kernel_rfl)) (zBz 11 (zB0 (i:=11) (g:=6) (t:=28) (b:=true) (v:=undef) (.inr rfl) (by kernel_rfl) (by kernel_rfl)) (zBz 12 (zB0 (i:=12) (g:=6) (t:=28) (b:=true) (v:=undef) (.inr rfl) (by kernel_rfl) (by kernel_rfl)) zD)))))))) ?_
    exact vS (J_j (jv11 true)) rfl
   ·refine wS (fun h10=>?_) (fun h10=>?_)
    ·refine J_d 230 [] [8,17,21] [(21,bv ((a1.Files.length:Int)==120))] [] [] (xS 3 [(24,bv (decide ((a3.length:Int)>4000)))] [] h9 (zAP 6 3 25 false [(27,bv (!x4.2))] [] h10 (zB1 7 6 28 true (zAX (d:=pp 0) 48 (.tmp 3) [pp 0]) zD))) ?_
     exact vS (J_j (jv11 ((a1.Files.length:Int)==120))) rfl
    ·refine J_d 230 [] [8,17,21] [(21,bv false)] [] [] (xS 3 [(24,bv (decide ((a3.length:Int)>4000)))] [] h9 (zAP 6 3 25 false [(27,bv (!x4.2))] [] h10 zD)) ?_
     exact vS (J_j (jv11 false)) rfl
noncomputable def c34:Code:=(Try.f34.body).getD .skip
theorem xI.ok (a1:zA) (a2:ByteArray) (a3:(List Int)):Ok Try.prog 34 [pp 0,pp 1,pp 2] [.box (zA.enc true a1),.box [sv a2],.box [sl 1 eU8 a3]] ((xI a1 a2 a3).map fun r=>(iv r.1,[.box (zA.enc true r.2),.box [sv a2],.box [sl 1 eU8 a3]])):=by
 refine zO c34 Try.f34 3 9 (fun q=>?_)
 unfold xI
 refine xP 0 (cs':=[rr 3 a1.Files,iv a1.Budget,iv a1.Writes,iv a1.Stop,bv a1.Down]) (es:=[(3,rE 2 (File.enc true) a1.Files)]) rfl (.cons (.own 3) (.cons (.same rfl rfl) (.cons (.same rfl rfl) (.cons (.same rfl rfl) (.cons (.same rfl rfl) (.nil)))))) rfl (by kernel_rfl) (by kernel_rfl) ?_
 refine uQ [(0,pp 0),(1,pp 1),(2,pp 2)] [(0,.box [rr 3 a1.Files,iv a1.Budget,iv a1.Writes,iv a1.Stop,bv a1.Down]),(1,.box [sv a2]),(2,.box [sl 1 eU8 a3]),(3,rE 2 (File.enc true) a1.Files)] (by kernel_rfl) ?_
 refine J_g 2 [] [(0,pp 0),(1,pp 1),(2,pp 2)] [(0,.box [rr 3 a1.Files,iv a1.Budget,iv a1.Writes,iv a1.Stop,bv a1.Down]),(1,.box [sv a2]),(2,.box [sl 1 eU8 a3]),(3,rE 2 (File.enc true) a1.Files)] zD ?_
 refine wD 0 (cs':=[so 2 (File.enc true) a1.Files,iv a1.Budget,iv a1.Writes,iv a1.Stop,bv a1.Down]) (ts:=[3]) rfl (.move (.tail _ (.tail _ (.head _))) (List.length_map _) (by decide) (.keep rfl (.keep rfl (.keep rfl (.keep rfl (.nil)))))) ?_
 refine uQ [(0,pp 0),(1,pp 1),(2,pp 2)] [(0,.box (zA.enc true a1)),(1,.box [sv a2]),(2,.box [sl 1 eU8 a3])] (by kernel_rfl) ?_
 refine zG (fun x4 h5=>?_)
 refine J_g 6 [] [(4,iv x4.1)] [(0,.box (zA.enc true x4.2)),(1,.box [sv a2]),(2,.box [sl 1 eU8 a3])] (zU 3 (tK («as»:=[pp 0,sv a2,sl 1 eU8 a3]) [(.tmp 5),(.tmp 6),(.tmp 7)] [48,9,38] false [(0,.box (zA.enc true a1))] [0] (.cons (.pt rfl) (.cons (.same rfl) (.cons (.same rfl) (.nil)))) (zZ.ok a1 a2 a3) h5 (.same rfl rfl)) zD) ?_
 refine xP 0 (cs':=[rr 3 x4.2.Files,iv x4.2.Budget,iv x4.2.Writes,iv x4.2.Stop,bv x4.2.Down]) (es:=[(3,rE 2 (File.enc true) x4.2.Files)]) rfl (.cons (.own 3) (.cons (.same rfl rfl) (.cons (.same rfl rfl) (.cons (.same rfl rfl) (.cons (.same rfl rfl) (.nil)))))) rfl (by kernel_rfl) (by kernel_rfl) ?_
 refine uQ [(4,iv x4.1)] [(0,.box [rr 3 x4.2.Files,iv x4.2.Budget,iv x4.2.Writes,iv x4.2.Stop,bv x4.2.Down]),(1,.box [sv a2]),(2,.box [sl 1 eU8 a3]),(3,rE 2 (File.enc true) x4.2.Files)] (by kernel_rfl) ?_
 refine wD 0 (cs':=[so 2 (File.enc true) x4.2.Files,iv x4.2.Budget,iv x4.2.Writes,iv x4.2.Stop,bv x4.2.Down]) (ts:=[3]) rfl (.move (.tail _ (.tail _ (.head _))) (List.length_map _) (by decide) (.keep rfl (.keep rfl (.keep rfl (.keep rfl (.nil)))))) ?_
 refine uQ [(4,iv x4.1)] [(0,.box (zA.enc true x4.2)),(1,.box [sv a2]),(2,.box [sl 1 eU8 a3])] (by kernel_rfl) ?_
 exact yJ rfl
noncomputable def c42:Code:=(Try.f42.body).getD .skip
theorem uX.ok (a1:zA) (a2:Int):Ok Try.prog 42 [.ag (zA.enc false a1),iv a2] [] ((uX a1 a2).map fun r=>(.ag (zC.enc false r),[])):=by
 refine zO c42 Try.f42 0 16 (fun q=>?_)
 unfold uX
 refine J_g 2 [(0,0),(1,1)] [(1,iv a2),(2,pp 0),(4,pp 1)] [(0,.box (zA.enc false a1)),(1,.box [iv 0,nv,iv 0,iv 0,iv 0,bv false])] zD ?_
 refine vZ (atI c42 13) (fun v4:Bool=>St.mk' [(1,iv a2),(2,pp 0),(4,pp 1),(10,bv v4)] [(0,.box (zA.enc false a1)),(1,.box [iv 0,nv,iv 0,iv 0,iv 0,bv false])]) (fun v4=>?_) (fun jv4=>?_)
 ·refine zN 10 (fun h5=>?_) (fun h5=>?_)
  ·refine J_g 52 [] [(4,pp 1)] [(1,.box [iv a2,nv,iv 0,iv 0,iv 0,bv false])] zD ?_
   exact zA7 (ds:=[.ag [iv a2,nv,iv 0,iv 0,iv 0,bv false]]) (ds':=[.ag [iv a2,sl 2 (File.enc false) ([]:List File),iv 0,iv 0,iv 0,bv false]]) (.cons (.ag (.keep rfl (.nilsl false 2 (.keep rfl (.keep rfl (.keep rfl (.keep rfl (.nil)))))))) (.nil) (by decide)) rfl
  ·refine J_g 14 [] [(4,pp 1)] [(1,.box [iv a2,sl 2 (File.enc false) a1.Files,iv a1.Budget,iv a1.Writes,iv a1.Stop,bv a1.Down])] zD ?_
   exact yJ rfl
 ·refine wS (fun h3=>?_) (fun h3=>?_)
  ·refine J_d 12 [] [10] [(10,bv (a2 !=9))] [] [] (xS 2 [(6,bv (a2 !=0))] [] h3 zD) ?_
   exact vS (J_j (jv4 (a2 !=9))) rfl
  ·refine J_d 12 [] [10] [(10,bv false)] [] [] (xS 2 [(6,bv (a2 !=0))] [] h3 zD) ?_
   exact vS (J_j (jv4 false)) rfl
theorem zC4.ok (a1:zA) (a2:Int):Ok Try.prog 42 [.ag [rr 0 a1.Files,iv a1.Budget,iv a1.Writes,iv a1.Stop,bv a1.Down],iv a2] [rE 2 (File.enc true) a1.Files] ((uX a1 a2).map fun r=>(.ag (zC.enc true r),[])):=by
 refine zO c42 Try.f42 1 16 (fun q=>?_)
 unfold uX
 refine J_d 2 [(0,1),(1,2)] [0,2,4] [(2,pp 1),(4,pp 2)] [1,2] [(1,.box [rr 0 a1.Files,iv a1.Budget,iv a1.Writes,iv a1.Stop,bv a1.Down]),(2,.box [iv 0,nv,iv 0,iv 0,iv 0,bv false])] zD ?_
 refine vZ (atI c42 13) (fun v4:Bool=>St.mk' [(1,iv a2),(2,pp 1),(4,pp 2),(10,bv v4)] [(0,rE 2 (File.enc true) a1.Files),(1,.box [rr 0 a1.Files,iv a1.Budget,iv a1.Writes,iv a1.Stop,bv a1.Down]),(2,.box [iv 0,nv,iv 0,iv 0,iv 0,bv false])]) (fun v4=>?_) (fun jv4=>?_)
 ·refine zN 10 (fun h5=>?_) (fun h5=>?_)
  ·refine J_g 52 [] [(4,pp 2)] [(0,rE 2 (File.enc true) a1.Files),(2,.box [iv a2,nv,iv 0,iv 0,iv 0,bv false])] zD ?_
   exact zA7 (ds:=[.ag [iv a2,nv,iv 0,iv 0,iv 0,bv false]]) (ds':=[.ag [iv a2,so 2 (File.enc true) ([]:List File),iv 0,iv 0,iv 0,bv false]]) (.cons (.ag (.keep rfl (.nilsl true 2 (.keep rfl (.keep rfl (.keep rfl (.keep rfl (.nil)))))))) (.nil) (by decide)) rfl
  ·refine J_g 14 [] [(4,pp 2)] [(0,rE 2 (File.enc true) a1.Files),(2,.box [iv a2,rr 0 a1.Files,iv a1.Budget,iv a1.Writes,iv a1.Stop,bv a1.Down])] zD ?_
   exact zA7 (ds:=[.ag [iv a2,rr 0 a1.Files,iv a1.Budget,iv a1.Writes,iv a1.Stop,bv a1.Down]]) (ds':=[.ag [iv a2,so 2 (File.enc true) a1.Files,iv a1.Budget,iv a1.Writes,iv a1.Stop,bv a1.Down]]) (.cons (.ag (.keep rfl (.move (.head _) (List.length_map _) (by decide) (.keep rfl (.keep rfl (.keep rfl (.keep rfl (.nil)))))))) (.nil) (by decide)) rfl
 ·refine wS (fun h3=>?_) (fun h3=>?_)
  ·refine J_d 12 [] [10] [(10,bv (a2 !=9))] [] [] (xS 2 [(6,bv (a2 !=0))] [] h3 zD) ?_
   exact vS (J_j (jv4 (a2 !=9))) rfl
  ·refine J_d 12 [] [10] [(10,bv false)] [] [] (xS 2 [(6,bv (a2 !=0))] [] h3 zD) ?_
   exact vS (J_j (jv4 false)) rfl
noncomputable def c25:Code:=(Try.f25.body).getD .skip
theorem zP.ok (a1:zA) (a2:ByteArray) (a3:(List Int)):Ok Try.prog 25 [.ag (zA.enc false a1),.fn 34 [pp 0,pp 1]] [.box [sv a2],.box [sl 1 eU8 a3]] ((zP a1 a2 a3).map fun r=>(.ag (zC.enc true r),[.box [sv a2],.box [sl 1 eU8 a3]])):=by
 refine zO c25 Try.f25 2 26 (fun q=>?_)
 unfold zP
 refine J_d 2 [(0,2),(1,3)] [0,2,4] [(2,pp 2),(4,pp 3)] [2,3] [(2,.box (zA.enc false a1)),(3,.box [iv 0,nv,iv 0,iv 0,iv 0,bv false])] zD ?_
 refine zG (fun x4 h5=>?_)
 refine J_d 6 [] [5] [(5,iv x4)] [] [] (zU 1 (tF [(.tmp 7)] [28] (wK.ok a1) h5) zD) ?_
 refine vZ (atI c25 29) (fun v7:Bool=>St.mk' [(1,.fn 34 [pp 0,pp 1]),(2,pp 2),(4,pp 3),(5,iv x4),(14,bv v7)] [(0,.box [sv a2]),(1,.box [sl 1 eU8 a3]),(2,.box (zA.enc false a1)),(3,.box [iv 0,nv,iv 0,iv 0,iv 0,bv false])]) (fun v7=>?_) (fun jv7=>?_)
 ·refine vZ (atI c25 15) (fun v9:Int=>St.mk' [(1,.fn 34 [pp 0,pp 1]),(2,pp 2),(4,pp 3),(5,iv v9)] [(0,.box [sv a2]),(1,.box [sl 1 eU8 a3]),(2,.box (zA.enc false a1)),(3,.box [iv 0,nv,iv 0,iv 0,iv 0,bv false])]) (fun v9=>?_) (fun jv9=>?_)
  ·refine J_d 60 [] [16] [(16,bv (v9 !=0))] [] [] zD ?_
   refine zN 16 (fun h10=>?_) (fun h10=>?_)
   ·refine J_g 244 [] [(4,pp 3)] [(0,.box [sv a2]),(1,.box [sl 1 eU8 a3]),(3,.box [iv v9,nv,iv 0,iv 0,iv 0,bv false])] zD ?_
    exact zA7 (ds:=[.ag [iv v9,nv,iv 0,iv 0,iv 0,bv false]]) (ds':=[.ag [iv v9,so 2 (File.enc true) ([]:List File),iv 0,iv 0,iv 0,bv false]]) (.cons (.ag (.keep rfl (.nilsl true 2 (.keep rfl (.keep rfl (.keep rfl (.keep rfl (.nil)))))))) (.nil) (by decide)) rfl
   ·refine zG (fun x11 h12=>?_)
    refine J_g 62 [(2,5)] [(1,.fn 34 [pp 0,pp 1]),(4,pp 3),(6,pp 5)] [(0,.box [sv a2]),(1,.box [sl 1 eU8 a3]),(3,.box [iv 0,nv,iv 0,iv 0,iv 0,bv false]),(4,rE 2 (File.enc true) x11.Files),(5,.box [rr 4 x11.Files,iv x11.Budget,iv x11.Writes,iv x11.Stop,bv x11.Down])] (zU 1 (tK («as»:=[.ag (zA.enc false a1)]) [(.tmp 19)] [28] false [] [] (.cons (.same rfl) (.nil)) (yR.ok a1) h12 (.ag (.cons (.own 4) (.cons (.same rfl rfl) (.cons (.same rfl rfl) (.cons (.same rfl rfl) (.cons (.same rfl rfl) (.nil)))))))) zD) ?_
    refine wD 5 (cs':=[so 2 (File.enc true) x11.Files,iv x11.Budget,iv x11.Writes,iv x11.Stop,bv x11.Down]) (ts:=[4]) rfl (.move (.tail _ (.tail _ (.tail _ (.head _)))) (List.length_map _) (by decide) (.keep rfl (.keep rfl (.keep rfl (.keep rfl (.nil)))))) ?_
    refine uQ [(1,.fn 34 [pp 0,pp 1]),(4,pp 3),(6,pp 5)] [(0,.box [sv a2]),(1,.box [sl 1 eU8 a3]),(3,.box [iv 0,nv,iv 0,iv 0,iv 0,bv false]),(5,.box (zA.enc true x11))] (by kernel_rfl) ?_
    refine zG (fun x13 h14=>?_)
    refine J_g 126 [] [(4,pp 3),(5,iv x13.1),(6,pp 5)] [(0,.box [sv a2]),(1,.box [sl 1 eU8 a3]),(3,.box [iv 0,nv,iv 0,iv 0,iv 0,bv false]),(5,.box (zA.enc true x13.2))] (zU 1 (zFj 21 [(.tmp 6)] [48] false [(5,.box (zA.enc true x11)),(0,.box [sv a2]),(1,.box [sl 1 eU8 a3])] [5,0,1] [pp 5] [pp 0,pp 1] (.cons (.pt rfl) (.cons (.pt rfl) (.cons (.pt rfl) (.nil)))) (xI.ok x11 a2 a3) h14 (.same rfl rfl)) zD) ?_
    refine xP 5 (cs':=[rr 6 x13.2.Files,iv x13.2.Budget,iv x13.2.Writes,iv x13.2.Stop,bv x13.2.Down]) (es:=[(6,rE 2 (File.enc true) x13.2.Files)]) rfl (.cons (.own 6) (.cons (.same rfl rfl) (.cons (.same rfl rfl) (.cons (.same rfl rfl) (.cons (.same rfl rfl) (.nil)))))) rfl (by kernel_rfl) (by kernel_rfl) ?_
    refine uQ [(4,pp 3),(5,iv x13.1),(6,pp 5)] [(0,.box [sv a2]),(1,.box [sl 1 eU8 a3]),(3,.box [iv 0,nv,iv 0,iv 0,iv 0,bv false]),(5,.box [rr 6 x13.2.Files,iv x13.2.Budget,iv x13.2.Writes,iv x13.2.Stop,bv x13.2.Down]),(6,rE 2 (File.enc true) x13.2.Files)] (by kernel_rfl) ?_
    refine zG (fun x15 h16=>?_)
    refine J_g 254 [] [(4,pp 3)] [(0,.box [sv a2]),(1,.box [sl 1 eU8 a3]),(3,.box [iv x15.Code,rr 7 x15.zA.Files,iv x15.zA.Budget,iv x15.zA.Writes,iv x15.zA.Stop,bv x15.zA.Down]),(7,rE 2 (File.enc true) x15.zA.Files)] (zU 2 (tK («as»:=[.ag [rr 6 x13.2.Files,iv x13.2.Budget,iv x13.2.Writes,iv x13.2.Stop,bv x13.2.Down],iv x13.1]) [(.tmp 23),(.tmp 24)] [28,2] false [(6,rE 2 (File.enc true) x13.2.Files)] [6] (.cons (.ag (.cons (.rf rfl) (.cons (.same rfl) (.cons (.same rfl) (.cons (.same rfl) (.cons (.same rfl) (.nil))))))) (.cons (.same rfl) (.nil))) (zC4.ok x13.2 x13.1) h16 (.ag (.cons (.same rfl rfl) (.cons (.own 7) (.cons (.same rfl rfl) (.cons (.same rfl rfl) (.cons (.same rfl rfl) (.cons (.same rfl rfl) (.nil))))))))) zD) ?_
    exact zA7 (ds:=[.ag [iv x15.Code,rr 7 x15.zA.Files,iv x15.zA.Budget,iv x15.zA.Writes,iv x15.zA.Stop,bv x15.zA.Down]]) (ds':=[.ag (zC.enc true x15)]) (.cons (.ag (.keep rfl (.move (.tail _ (.tail _ (.tail _ (.head _)))) (List.length_map _) (by decide) (.keep rfl (.keep rfl (.keep rfl (.keep rfl (.nil)))))))) (.nil) (by decide)) rfl
  ·refine zN 14 (fun h8=>?_) (fun h8=>?_)
   ·refine J_d 58 [] [5,14] [(5,iv 9)] [] [] zD ?_
    exact vS (J_j (jv9 9)) rfl
   ·exact vS (J_j (jv9 x4)) rfl
 ·refine wS (fun h6=>?_) (fun h6=>?_)
  ·refine J_d 28 [] [14] [(14,bv a1.Down)] [] [] (xS 2 [(10,bv (x4==0))] [] h6 zD) ?_
   exact vS (J_j (jv7 a1.Down)) rfl
  ·refine J_d 28 [] [14] [(14,bv false)] [] [] (xS 2 [(10,bv (x4==0))] [] h6 zD) ?_
   exact vS (J_j (jv7 false)) rfl
noncomputable def c16:Code:=(Try.f16.body).getD .skip
theorem yK.ok (a1:zA) (a2:ByteArray) (a3:(List Int)):Ok Try.prog 16 [.ag (zA.enc false a1),sv a2,sl 1 eU8 a3] [] ((yK a1 a2 a3).map fun r=>(.ag (zC.enc true r),[])):=by
 refine zO c16 Try.f16 0 10 (fun q=>?_)
 unfold yK
 refine J_g 2 [(0,0),(1,1),(2,2),(3,3)] [(3,pp 0),(4,pp 1),(5,pp 2),(6,pp 3)] [(0,.box (zA.enc false a1)),(1,.box [sv a2]),(2,.box [sl 1 eU8 a3]),(3,.box [iv 0,nv,iv 0,iv 0,iv 0,bv false])] zD ?_
 refine zG (fun x4 h5=>?_)
 refine J_g 6 [] [(6,pp 3)] [(3,.box [iv x4.Code,rr 4 x4.zA.Files,iv x4.zA.Budget,iv x4.zA.Writes,iv x4.zA.Stop,bv x4.zA.Down]),(4,rE 2 (File.enc true) x4.zA.Files)] (zU 2 (zF1 [(1,.box [sv a2]),(2,.box [sl 1 eU8 a3])] [(4,rE 2 (File.enc true) x4.zA.Files)] (tK («as»:=[.ag (zA.enc false a1),.fn 34 [pp 1,pp 2]]) [(.tmp 7),(.tmp 8)] [28,53] false [(1,.box [sv a2]),(2,.box [sl 1 eU8 a3])] [1,2] (.cons (.same rfl) (.cons (.fn (.cons (.pt rfl) (.cons (.pt rfl) (.nil)))) (.nil))) (zP.ok a1 a2 a3) h5 (.ag (.cons (.same rfl rfl) (.cons (.own 4) (.cons (.same rfl rfl) (.cons (.same rfl rfl) (.cons (.same rfl rfl) (.cons (.same rfl rfl) (.nil)))))))))) zD) ?_
 exact zA7 (ds:=[.ag [iv x4.Code,rr 4 x4.zA.Files,iv x4.zA.Budget,iv x4.zA.Writes,iv x4.zA.Stop,bv x4.zA.Down]]) (ds':=[.ag (zC.enc true x4)]) (.cons (.ag (.keep rfl (.move (.tail _ (.head _)) (List.length_map _) (by decide) (.keep rfl (.keep rfl (.keep rfl (.keep rfl (.nil)))))))) (.nil) (by decide)) rfl
noncomputable def c17:Code:=(Try.f17.body).getD .skip
theorem vI.ok (a1:(List Int)) (a2:(List Int)) (q:Wd) (kn:Unit→Option (D×List Ent)) (hk:∀v:Unit,J (q.g Try.prog 17 0 26) c17 (atI c17 15) (St.mk' [] []) (some v) kn):
  ∀s10:Int,J (q.g Try.prog 17 0 26) c17 (atI c17 116) (St.mk' [(0,sl 1 eU8 a1),(1,sl 1 eU8 a2),(5,iv s10)] []) (vI a1 a2 s10) (Fl.go (fun r:Bool=>some (bv r,[])) kn):=by
 refine zAF (fun g ih s10=>?_)
 unfold uF
 refine J_d 464 [] [14] [(14,bv (decide (s10< (a1.length:Int))))] [] [] zD ?_
 refine zN 14 (fun h11=>?_) (fun h11=>?_)
 ·refine zG (fun x12 h13=>?_)
  refine zG (fun x14 h15=>?_)
  refine J_d 1864 [] [14,25] [(25,bv (x12 !=x14))] [] [] (zU 2 (zAk (kk:=.i64) 38 5 1 eU8 (.tmp 17) (.tmp 18) h13) (zU 6 (zAk (kk:=.i64) 38 5 1 eU8 (.tmp 21) (.tmp 22) h15) zD)) ?_
  refine zN 25 (fun h16=>?_) (fun h16=>?_)
  ·refine J_g 7460 [] [(4,bv false)] [] zD ?_
   exact yJ rfl
  ·refine J_d 467 [] [5,25] [(5,iv (w64 (s10+1)))] [] [] zD ?_
   exact J_q (J_b (ih (w64 (s10+1)))) rfl
 ·exact vS (hk ()) rfl
theorem xY.ok (a1:(List Int)) (a2:(List Int)):Ok Try.prog 17 [sl 1 eU8 a1,sl 1 eU8 a2] [] ((xY a1 a2).map fun r=>(bv r,[])):=by
 refine zO c17 Try.f17 0 26 (fun q=>?_)
 unfold xY
 refine J_g 2 [] [(0,sl 1 eU8 a1),(1,sl 1 eU8 a2)] [] zD ?_
 refine J_d 12 [] [10] [(10,bv ((a1.length:Int) !=(a2.length:Int)))] [] [] zD ?_
 refine zN 10 (fun h3=>?_) (fun h3=>?_)
 ·refine J_g 52 [] [(4,bv false)] [] zD ?_
  exact yJ rfl
 ·refine J_d 28 [] [5,10] [(5,iv 0)] [] [] zD ?_
  refine zAH (K0:=(fun r:Bool=>some (bv r,[]))) (fun _=>rfl) (vI.ok a1 a2 q _ (fun v17=>J_j ?_) 0)
  refine J_g 30 [] [(4,bv true)] [] zD ?_
  exact yJ rfl
noncomputable def c47:Code:=(Try.f47.body).getD .skip
theorem uH.ok (a1:File) (a2:File):Ok Try.prog 47 [.ag (File.enc false a1),.ag (File.enc false a2)] [] ((uH a1 a2).map fun r=>(bv r,[])):=by
 refine zO c47 Try.f47 0 16 (fun q=>?_)
 unfold uH
 refine J_g 2 [(0,0),(1,1)] [(2,pp 0),(3,pp 1)] [(0,.box (File.enc false a1)),(1,.box (File.enc false a2))] zD ?_
 refine J_d 12 [] [9] [(9,bv (!(seq a1.Path a2.Path)))] [] [] zD ?_
 refine zN 9 (fun h3=>?_) (fun h3=>?_)
 ·refine J_g 52 [] [(4,bv false)] [] zD ?_
  exact yJ rfl
 ·refine zG (fun x4 h5=>?_)
  refine J_g 28 [] [(15,bv (!x4))] [] (zU 4 (tF [(.tmp 11),(.tmp 13)] [38,38] (xY.ok a1.Data a2.Data) h5) zD) ?_
  refine zN 15 (fun h6=>?_) (fun h6=>?_)
  ·refine J_g 116 [] [(4,bv false)] [] zD ?_
   exact yJ rfl
  ·refine J_g 30 [] [(4,bv true)] [] zD ?_
   exact yJ rfl
noncomputable def c28:Code:=(Try.f28.body).getD .skip
theorem vQ.ok (a1:(List File)) (a2:(List File)) (q:Wd) (kn:Unit→Option (D×List Ent)) (hk:∀v:Unit,J (q.g Try.prog 28 0 27) c28 (atI c28 15) (St.mk' [] []) (some v) kn):
  ∀s12:Int,J (q.g Try.prog 28 0 27) c28 (atI c28 116) (St.mk' [(0,sl 2 (File.enc false) a1),(1,sl 2 (File.enc false) a2),(5,iv s12)] []) (vQ a1 a2 s12) (Fl.go (fun r:Bool=>some (bv r,[])) kn):=by
 refine zAF (fun g ih s12=>?_)
 unfold uG
 refine J_d 464 [] [14] [(14,bv (decide (s12< (a1.length:Int))))] [] [] zD ?_
 refine zN 14 (fun h13=>?_) (fun h13=>?_)
 ·refine zG (fun x14 h15=>?_)
  refine zG (fun x16 h17=>?_)
  refine zG (fun x18 h19=>?_)
  refine J_d 1864 [] [14,26] [(26,bv (!x18))] [] [] (zU 2 (zAk (kk:=.i64) 26 62 2 (File.enc false) (.tmp 17) (.tmp 18) h15) (zU 6 (zAk (kk:=.i64) 26 62 2 (File.enc false) (.tmp 21) (.tmp 22) h17) (zU 8 (tF [(.tmp 20),(.tmp 24)] [62,62] (uH.ok x14 x16) h19) zD))) ?_
  refine zN 26 (fun h20=>?_) (fun h20=>?_)
  ·refine J_g 7460 [] [(4,bv false)] [] zD ?_
   exact yJ rfl
  ·refine J_d 467 [] [5,26] [(5,iv (w64 (s12+1)))] [] [] zD ?_
   exact J_q (J_b (ih (w64 (s12+1)))) rfl
 ·exact vS (hk ()) rfl
theorem vR.ok (a1:(List File)) (a2:(List File)):Ok Try.prog 28 [sl 2 (File.enc false) a1,sl 2 (File.enc false) a2] [] ((vR a1 a2).map fun r=>(bv r,[])):=by
 refine zO c28 Try.f28 0 27 (fun q=>?_)
 unfold vR
 refine J_g 2 [] [(0,sl 2 (File.enc false) a1),(1,sl 2 (File.enc false) a2)] [] zD ?_
 refine J_d 12 [] [10] [(10,bv ((a1.length:Int) !=(a2.length:Int)))] [] [] zD ?_
 refine zN 10 (fun h3=>?_) (fun h3=>?_)
 ·refine J_g 52 [] [(4,bv false)] [] zD ?_
  exact yJ rfl
 ·refine J_d 28 [] [5,10] [(5,iv 0)] [] [] zD ?_
  refine zAH (K0:=(fun r:Bool=>some (bv r,[]))) (fun _=>rfl) (vQ.ok a1 a2 q _ (fun v21=>J_j ?_) 0)
  refine J_g 30 [] [(4,bv true)] [] zD ?_
  exact yJ rfl
noncomputable def c10:Code:=(Try.f10.body).getD .skip
theorem wW.ok (a1:zA) (a2:zA):Ok Try.prog 10 [.ag (zA.enc false a1),.ag (zA.enc false a2)] [] ((wW a1 a2).map fun r=>(bv r,[])):=by
 refine zO c10 Try.f10 0 31 (fun q=>?_)
 unfold wW
 refine J_g 2 [(0,0),(1,1)] [(2,pp 0),(3,pp 1)] [(0,.box (zA.enc false a1)),(1,.box (zA.enc false a2))] zD ?_
 refine zG (fun x3 h4=>?_)
 refine J_d 12 [] [10] [(10,bv (!x3))] [] [] (zU 4 (tF [(.tmp 6),(.tmp 8)] [26,26] (vR.ok a1.Files a2.Files) h4) zD) ?_
 refine zN 10 (fun h5=>?_) (fun h5=>?_)
 ·refine J_g 52 [] [(4,bv false)] [] zD ?_
  exact yJ rfl
 ·refine J_d 28 [] [10,15] [(15,bv (a1.Budget !=a2.Budget))] [] [] zD ?_
  refine zN 15 (fun h6=>?_) (fun h6=>?_)
  ·refine J_g 116 [] [(4,bv false)] [] zD ?_
   exact yJ rfl
  ·refine J_d 60 [] [15,20] [(20,bv (a1.Writes !=a2.Writes))] [] [] zD ?_
   refine zN 20 (fun h7=>?_) (fun h7=>?_)
   ·refine J_g 244 [] [(4,bv false)] [] zD ?_
    exact yJ rfl
   ·refine J_d 124 [] [20,25] [(25,bv (a1.Stop !=a2.Stop))] [] [] zD ?_
    refine zN 25 (fun h8=>?_) (fun h8=>?_)
    ·refine J_g 500 [] [(4,bv false)] [] zD ?_
     exact yJ rfl
    ·refine J_g 252 [] [(30,bv (!(a1.Down==a2.Down)))] [] zD ?_
     refine zN 30 (fun h9=>?_) (fun h9=>?_)
     ·refine J_g 1012 [] [(4,bv false)] [] zD ?_
      exact yJ rfl
     ·refine J_g 254 [] [(4,bv true)] [] zD ?_
      exact yJ rfl
noncomputable def c9:Code:=(Try.f9.body).getD .skip
theorem zQ.ok (a1:zC) (a2:zC):Ok Try.prog 9 [.ag (zC.enc false a1),.ag (zC.enc false a2)] [] ((zQ a1 a2).map fun r=>(bv r,[])):=by
 refine zO c9 Try.f9 0 16 (fun q=>?_)
 unfold zQ
 refine J_g 2 [(0,0),(1,1)] [(2,pp 0),(3,pp 1)] [(0,.box (zC.enc false a1)),(1,.box (zC.enc false a2))] zD ?_
 refine J_d 12 [] [9] [(9,bv (a1.Code !=a2.Code))] [] [] zD ?_
 refine zN 9 (fun h3=>?_) (fun h3=>?_)
 ·refine J_g 52 [] [(4,bv false)] [] zD ?_
  exact yJ rfl
 ·refine zG (fun x4 h5=>?_)
  refine J_g 28 [] [(15,bv (!x4))] [] (zU 4 (tF [(.tmp 11),(.tmp 13)] [28,28] (wW.ok a1.zA a2.zA) h5) zD) ?_
  refine zN 15 (fun h6=>?_) (fun h6=>?_)
  ·refine J_g 116 [] [(4,bv false)] [] zD ?_
   exact yJ rfl
  ·refine J_g 30 [] [(4,bv true)] [] zD ?_
   exact yJ rfl
noncomputable def c48:Code:=(Try.f48.body).getD .skip
theorem vB.ok (q:Wd) (kn:ByteArray→Option (D×List Ent)) (hk:∀v:ByteArray,J (q.g Try.prog 48 0 20) c48 (atI c48 31) (St.mk' [(3,sv v)] []) (some v) kn):
  ∀s6:(Int×ByteArray),J (q.g Try.prog 48 0 20) c48 (atI c48 120) (St.mk' [(0,iv s6.1),(3,sv s6.2)] []) (vB s6) kn:=by
 refine zAF (fun g ih s6=>?_)
 unfold vU
 refine J_d 480 [] [7] [(7,bv (decide (s6.1>0)))] [] [] zD ?_
 refine zN 7 (fun h7=>?_) (fun h7=>?_)
 ·refine zG (fun x8 h9=>?_)
  refine J_g 964 [] [(0,iv s6.1),(3,sv x8)] [] (zU 4 (zEX 38 5 1 0 eU8 [IntKind.u8.wrap (w64 (48+(s6.1.tmod 10)))] [0] [(.tmp 11)] [uv (IntKind.u8.wrap (w64 (48+(s6.1.tmod 10))))]) (zU 5 (zFh (xs:=[IntKind.u8.wrap (w64 (48+(s6.1.tmod 10)))]) 38 9 5 0 (.tmp 12)) (zU 7 (zFr 9 9 (.tmp 13) (.tmp 14) h9) zD))) ?_
  refine J_g 965 [] [(0,iv (w64 (s6.1.tdiv 10))),(3,sv x8)] [] zD ?_
  exact J_q (J_b (ih (w64 (s6.1.tdiv 10),x8))) rfl
 ·exact vS (hk s6.2) rfl
theorem yP.ok (a1:Int):Ok Try.prog 48 [iv a1] [] ((yP a1).map fun r=>(sv r,[])):=by
 refine zO c48 Try.f48 0 20 (fun q=>?_)
 unfold yP
 refine J_g 2 [] [(0,iv a1)] [] zD ?_
 refine J_g 12 [] [(0,iv a1),(5,bv (decide (a1≤0)))] [] zD ?_
 refine zN 5 (fun h2=>?_) (fun h2=>?_)
 ·refine J_g 52 [] [(2,sv (bs [109,48]))] [] zD ?_
  exact yJ rfl
 ·refine J_g 14 [] [(0,iv a1),(3,sv (bs []))] [] zD ?_
  refine zCX (vB.ok q _ (fun v10=>J_j ?_) (a1,bs []))
  refine zG (fun x11 h12=>?_)
  refine J_g 62 [] [(2,sv x11)] [] (zU 1 (zFr 9 9 (.const (.string (bs [109]))) (.tmp 18) h12) zD) ?_
  exact yJ rfl
noncomputable def c18:Code:=(Try.f18.body).getD .skip
theorem xX.ok (q:Wd) (kn:((List Int)×Int)→Option (D×List Ent)) (hk:∀v:((List Int)×Int),J (q.g Try.prog 18 1 20) c18 (atI c18 7) (St.mk' [(1,iv v.2)] [(0,rE 1 eU8 v.1)]) (some v) kn):
  ∀s6:((List Int)×Int×Int),J (q.g Try.prog 18 1 20) c18 (atI c18 52) (St.mk' [(0,rr 0 s6.1),(1,iv s6.2.1),(5,iv s6.2.2)] [(0,rE 1 eU8 s6.1)]) (xX s6) kn:=by
 refine zAF (fun g ih s6=>?_)
 unfold xO
 refine J_d 208 [] [9] [(9,bv (decide (s6.2.2< (s6.1.length:Int))))] [] [] zD ?_
 refine zN 9 (fun h7=>?_) (fun h7=>?_)
 ·refine zG (fun x8 h9=>?_)
  refine J_g 840 [] [(0,rr 0 s6.1),(1,iv s6.2.1),(5,iv s6.2.2)] [(0,rE 1 eU8 (s6.1.set s6.2.2.toNat (IntKind.u8.wrap (s6.2.1))))] (zU 4 (zAJ (kk:=.i64) 38 5 1 0 eU8 (.tmp 12) (.tmp 13) h9) (zEY 5 (zFA (b:=IntKind.u8.wrap (s6.2.1)) 5 1 0 0 eU8 (uv (IntKind.u8.wrap (s6.2.1))) (.tmp 16) (.tmp 15) h9 rfl) zD)) ?_
  refine zEm (σ':=St.mk' [(0,rr 0 (s6.1.set s6.2.2.toNat (IntKind.u8.wrap (s6.2.1)))),(1,iv s6.2.1),(5,iv s6.2.2)] [(0,rE 1 eU8 (s6.1.set s6.2.2.toNat (IntKind.u8.wrap (s6.2.1))))]) (by simp only [rr,List.length_set]) ?_
  refine J_g 841 [] [(0,rr 0 (s6.1.set s6.2.2.toNat (IntKind.u8.wrap (s6.2.1)))),(1,iv (w64 (s6.2.1+1))),(5,iv s6.2.2)] [(0,rE 1 eU8 (s6.1.set s6.2.2.toNat (IntKind.u8.wrap (s6.2.1))))] zD ?_
  refine J_d 211 [] [5] [(5,iv (w64 (s6.2.2+1)))] [] [] zD ?_
  exact J_q (J_b (ih (s6.1.set s6.2.2.toNat (IntKind.u8.wrap (s6.2.1)),w64 (s6.2.1+1),w64 (s6.2.2+1)))) rfl
 ·exact vS (hk (s6.1,s6.2.1)) rfl
theorem yN.ok (a1:(List Int)) (a2:Int):Ok Try.prog 18 [rr 0 a1,iv a2] [rE 1 eU8 a1] ((yN a1 a2).map fun r=>(iv r.1,[rE 1 eU8 r.2])):=by
 refine zO c18 Try.f18 1 20 (fun q=>?_)
 unfold yN
 refine J_g 2 [] [(0,rr 0 a1),(1,iv a2)] [(0,rE 1 eU8 a1)] zD ?_
 refine J_d 12 [] [5] [(5,iv 0)] [] [] zD ?_
 refine zCX (xX.ok q _ (fun v10=>J_j ?_) (a1,a2,0))
 refine J_g 14 [] [(4,iv v10.2)] [(0,rE 1 eU8 v10.1)] zD ?_
 exact yJ rfl
noncomputable def c29:Code:=(Try.f29.body).getD .skip
theorem wE.ok (q:Wd) (kn:((List File)×Int)→Option (D×List Ent)) (hk:∀v:((List File)×Int),J (q.g Try.prog 29 1 28) c29 (atI c29 7) (St.mk' [(1,iv v.2)] [(0,rE 2 (File.enc true) v.1)]) (some v) kn):
  ∀s14:((List File)×Int×Int),J (q.g Try.prog 29 1 28) c29 (atI c29 52) (St.mk' [(0,rr 0 s14.1),(1,iv s14.2.1),(5,iv s14.2.2)] [(0,rE 2 (File.enc true) s14.1)]) (wE s14) kn:=by
 refine zAF (fun g ih s14=>?_)
 unfold xM
 refine J_d 208 [] [9] [(9,bv (decide (s14.2.2< (s14.1.length:Int))))] [] [] zD ?_
 refine zN 9 (fun h15=>?_) (fun h15=>?_)
 ·refine zG (fun x16 h17=>?_)
  refine zG (fun x18 h19=>?_)
  refine J_g 840 [] [(0,rr 0 s14.1),(1,iv s14.2.1),(5,iv s14.2.2)] [(0,rE 2 (File.enc true) (s14.1.set s14.2.2.toNat ({Path:=x16,Data:=x18.Data}:File)))] (zU 3 (tF [(.tmp 14)] [3] (yP.ok s14.2.1) h17) (zU 4 (zAJ (kk:=.i64) 26 62 2 0 (File.enc true) (.tmp 12) (.tmp 13) h19) (zEY 6 (zFA (b:=({Path:=x16,Data:=x18.Data}:File)) 9 2 0 0 (File.enc true) (sv x16) (.tmp 17) (.tmp 15) h19 rfl) zD))) ?_
  refine zEm (σ':=St.mk' [(0,rr 0 (s14.1.set s14.2.2.toNat ({Path:=x16,Data:=x18.Data}:File))),(1,iv s14.2.1),(5,iv s14.2.2)] [(0,rE 2 (File.enc true) (s14.1.set s14.2.2.toNat ({Path:=x16,Data:=x18.Data}:File)))]) (by simp only [rr,List.length_set]) ?_
  refine J_d 1682 [] [1] [(1,iv (w64 (s14.2.1+1)))] [] [] zD ?_
  refine zG (fun x20 h21=>?_)
  refine zEN (ix:=s14.2.2) (enc:=(File.enc true)) 0 1 1 h21 rfl rfl (by kernel_rfl) ?_
  refine uQ [(0,rr 0 (s14.1.set s14.2.2.toNat ({Path:=x16,Data:=x18.Data}:File))),(1,iv (w64 (s14.2.1+1))),(5,iv s14.2.2)] [(0,.lent 2 ((s14.1.set s14.2.2.toNat ({Path:=x16,Data:=x18.Data}:File)).map (File.enc true)) s14.2.2.toNat 1 1 x20.Data.length),(1,rE 1 eU8 x20.Data)] (by kernel_rfl) ?_
  refine zG (fun x22 h23=>?_)
  refine J_g 1683 [] [(0,rr 0 (s14.1.set s14.2.2.toNat ({Path:=x16,Data:=x18.Data}:File))),(1,iv x22.1),(5,iv s14.2.2)] [(0,.lent 2 ((s14.1.set s14.2.2.toNat ({Path:=x16,Data:=x18.Data}:File)).map (File.enc true)) s14.2.2.toNat 1 1 x20.Data.length),(1,rE 1 eU8 x22.2)] (zU 2 (zF6 (kk:=.i64) 26 62 2 0 (File.enc true) (.tmp 20) (.tmp 21) s14.2.2.toNat 1 1 x20.Data.length h21) (zU 4 (zFO 38 0 (.tmp 23) 2 (File.enc true) (s14.1.set s14.2.2.toNat ({Path:=x16,Data:=x18.Data}:File)) s14.2.2.toNat 1 1 x20.Data.length) (zU 6 (tK («as»:=[rr 1 x20.Data,iv (w64 (s14.2.1+1))]) [(.tmp 24),(.tmp 25)] [38,3] false [(1,rE 1 eU8 x20.Data)] [1] (.cons (.rf rfl) (.cons (.same rfl) (.nil))) (yN.ok x20.Data (w64 (s14.2.1+1))) h23 (.same rfl rfl)) zD))) ?_
  refine zG (fun u24 h25=>?_)
  refine zE3 (ix:=s14.2.2) (enc:=(File.enc true)) (b:=({Path:=x20.Path,Data:=x22.2}:File)) 0 1 1 h21 rfl rfl rfl rfl (zBn h25) (Nat.le_of_ble_eq_true rfl) ((List.length_map _).trans (zBn h25)) ?_
  refine uQ [(0,rr 0 (s14.1.set s14.2.2.toNat ({Path:=x16,Data:=x18.Data}:File))),(1,iv x22.1),(5,iv s14.2.2)] [(0,rE 2 (File.enc true) ((s14.1.set s14.2.2.toNat ({Path:=x16,Data:=x18.Data}:File)).set s14.2.2.toNat ({Path:=x20.Path,Data:=x22.2}:File)))] (by kernel_rfl) ?_
  refine zEm (σ':=St.mk' [(0,rr 0 ((s14.1.set s14.2.2.toNat ({Path:=x16,Data:=x18.Data}:File)).set s14.2.2.toNat ({Path:=x20.Path,Data:=x22.2}:File))),(1,iv x22.1),(5,iv s14.2.2)] [(0,rE 2 (File.enc true) ((s14.1.set s14.2.2.toNat ({Path:=x16,Data:=x18.Data}:File)).set s14.2.2.toNat ({Path:=x20.Path,Data:=x22.2}:File)))]) (by simp only [rr,List.length_set]) ?_
  refine J_d 211 [] [5] [(5,iv (w64 (s14.2.2+1)))] [] [] zD ?_
  exact J_q (J_b (ih ((s14.1.set s14.2.2.toNat ({Path:=x16,Data:=x18.Data}:File)).set s14.2.2.toNat ({Path:=x20.Path,Data:=x22.2}:File),x22.1,w64 (s14.2.2+1)))) rfl
 ·exact vS (hk (s14.1,s14.2.1)) rfl
theorem xK.ok (a1:(List File)) (a2:Int):Ok Try.prog 29 [rr 0 a1,iv a2] [rE 2 (File.enc true) a1] ((xK a1 a2).map fun r=>(iv r.1,[rE 2 (File.enc true) r.2])):=by
 refine zO c29 Try.f29 1 28 (fun q=>?_)
 unfold xK
 refine J_g 2 [] [(0,rr 0 a1),(1,iv a2)] [(0,rE 2 (File.enc true) a1)] zD ?_
 refine J_d 12 [] [5] [(5,iv 0)] [] [] zD ?_
 refine zCX (wE.ok q _ (fun v26=>J_j ?_) (a1,a2,0))
 refine J_d 14 [] [1,4] [(4,iv v26.2)] [] [] zD ?_
 exact yJ rfl
noncomputable def c11:Code:=(Try.f11.body).getD .skip
theorem yZ.ok (a1:zA) (a2:Int):Ok Try.prog 11 [.ag [rr 0 a1.Files,iv a1.Budget,iv a1.Writes,iv a1.Stop,bv a1.Down],iv a2] [rE 2 (File.enc true) a1.Files] ((yZ a1 a2).map fun r=>(iv r.1,[rE 2 (File.enc true) r.2])):=by
 refine zO c11 Try.f11 1 10 (fun q=>?_)
 unfold yZ
 refine J_d 2 [(0,1)] [0,2] [(2,pp 1)] [1] [(1,.box [rr 0 a1.Files,iv a1.Budget,iv a1.Writes,iv a1.Stop,bv a1.Down])] zD ?_
 refine zG (fun x3 h4=>?_)
 refine J_g 6 [] [(1,iv x3.1)] [(0,rE 2 (File.enc true) x3.2)] (zU 3 (tK («as»:=[rr 0 a1.Files,iv a2]) [(.tmp 6),(.tmp 7)] [26,3] false [(0,rE 2 (File.enc true) a1.Files)] [0] (.cons (.rf rfl) (.cons (.same rfl) (.nil))) (xK.ok a1.Files a2) h4 (.same rfl rfl)) zD) ?_
 refine zG (fun u5 h6=>?_)
 refine J_d 14 [] [1,4] [(4,iv x3.1)] [] [] zD ?_
 exact yJ rfl
noncomputable def c12:Code:=(Try.f12.body).getD .skip
theorem yB.ok (a1:zC) (a2:Int):Ok Try.prog 12 [.ag [iv a1.Code,rr 0 a1.zA.Files,iv a1.zA.Budget,iv a1.zA.Writes,iv a1.zA.Stop,bv a1.zA.Down],iv a2] [rE 2 (File.enc true) a1.zA.Files] ((yB a1 a2).map fun r=>(iv r.1,[rE 2 (File.enc true) r.2])):=by
 refine zO c12 Try.f12 1 10 (fun q=>?_)
 unfold yB
 refine J_d 2 [(0,1)] [0,2] [(2,pp 1)] [1] [(1,.box [iv a1.Code,rr 0 a1.zA.Files,iv a1.zA.Budget,iv a1.zA.Writes,iv a1.zA.Stop,bv a1.zA.Down])] zD ?_
 refine zG (fun x3 h4=>?_)
 refine J_g 6 [] [(1,iv x3.1)] [(0,rE 2 (File.enc true) x3.2)] (zU 3 (tK («as»:=[.ag [rr 0 a1.zA.Files,iv a1.zA.Budget,iv a1.zA.Writes,iv a1.zA.Stop,bv a1.zA.Down],iv a2]) [(.tmp 6),(.tmp 7)] [28,3] false [(0,rE 2 (File.enc true) a1.zA.Files)] [0] (.cons (.ag (.cons (.rf rfl) (.cons (.same rfl) (.cons (.same rfl) (.cons (.same rfl) (.cons (.same rfl) (.nil))))))) (.cons (.same rfl) (.nil))) (yZ.ok a1.zA a2) h4 (.same rfl rfl)) zD) ?_
 refine zG (fun u5 h6=>?_)
 refine J_d 14 [] [1,4] [(4,iv x3.1)] [] [] zD ?_
 exact yJ rfl
noncomputable def c64:Code:=(Try.f64.body).getD .skip
theorem wR.ok (a1:(List Int)) (q:Wd) (kn:Int→Option (D×List Ent)) (hk:∀v:Int,J (q.g Try.prog 64 0 22) c64 (atI c64 7) (St.mk' [(1,iv v)] []) (some v) kn):
  ∀s7:(Int×Int),J (q.g Try.prog 64 0 22) c64 (atI c64 52) (St.mk' [(0,sl 1 eU8 a1),(1,iv s7.1),(5,iv s7.2)] []) (wR a1 s7) (Fl.go (fun r:Int=>some (iv r,[])) kn):=by
 refine zAF (fun g ih s7=>?_)
 unfold xV
 refine J_d 208 [] [9] [(9,bv (decide (s7.2< (a1.length:Int))))] [] [] zD ?_
 refine zN 9 (fun h8=>?_) (fun h8=>?_)
 ·refine zG (fun x9 h10=>?_)
  refine J_d 1680 [] [9,18] [(18,bv (x9 !=(IntKind.u8.wrap (s7.1))))] [] [] (zU 2 (zAk (kk:=.i64) 38 5 1 eU8 (.tmp 12) (.tmp 13) h10) zD) ?_
  refine zN 18 (fun h11=>?_) (fun h11=>?_)
  ·refine J_g 6724 [] [(4,iv (-1))] [] zD ?_
   exact yJ rfl
  ·refine J_g 841 [] [(0,sl 1 eU8 a1),(1,iv (w64 (s7.1+1))),(5,iv s7.2)] [] zD ?_
   refine J_d 211 [] [5] [(5,iv (w64 (s7.2+1)))] [] [] zD ?_
   exact J_q (J_b (ih (w64 (s7.1+1),w64 (s7.2+1)))) rfl
 ·exact vS (hk s7.1) rfl
theorem wF.ok (a1:(List Int)) (a2:Int):Ok Try.prog 64 [sl 1 eU8 a1,iv a2] [] ((wF a1 a2).map fun r=>(iv r,[])):=by
 refine zO c64 Try.f64 0 22 (fun q=>?_)
 unfold wF
 refine J_g 2 [] [(0,sl 1 eU8 a1),(1,iv a2)] [] zD ?_
 refine J_d 12 [] [5] [(5,iv 0)] [] [] zD ?_
 refine zAH (K0:=(fun r:Int=>some (iv r,[]))) (fun _=>rfl) (wR.ok a1 q _ (fun v12=>J_j ?_) (a2,0))
 refine J_g 14 [] [(4,iv v12)] [] zD ?_
 exact yJ rfl
noncomputable def c49:Code:=(Try.f49.body).getD .skip
theorem wQ.ok (a1:(List File)) (q:Wd) (kn:Int→Option (D×List Ent)) (hk:∀v:Int,J (q.g Try.prog 49 0 32) c49 (atI c49 7) (St.mk' [(1,iv v)] []) (some v) kn):
  ∀s14:(Int×Int),J (q.g Try.prog 49 0 32) c49 (atI c49 52) (St.mk' [(0,sl 2 (File.enc false) a1),(1,iv s14.1),(5,iv s14.2)] []) (wQ a1 s14) (Fl.go (fun r:Int=>some (iv r,[])) kn):=by
 refine zAF (fun g ih s14=>?_)
 unfold wB
 refine J_d 208 [] [9] [(9,bv (decide (s14.2< (a1.length:Int))))] [] [] zD ?_
 refine zN 9 (fun h15=>?_) (fun h15=>?_)
 ·refine zG (fun x16 h17=>?_)
  refine zG (fun x18 h19=>?_)
  refine J_d 1680 [] [9,19] [(19,bv (!(seq x16.Path x18)))] [] [] (zU 2 (zAk (kk:=.i64) 26 62 2 (File.enc false) (.tmp 12) (.tmp 13) h17) (zU 6 (tF [(.tmp 17)] [3] (yP.ok s14.1) h19) zD)) ?_
  refine zN 19 (fun h20=>?_) (fun h20=>?_)
  ·refine J_g 6724 [] [(4,iv (-1))] [] zD ?_
   exact yJ rfl
  ·refine J_d 1682 [] [1,19] [(1,iv (w64 (s14.1+1)))] [] [] zD ?_
   refine zG (fun x21 h22=>?_)
   refine zG (fun x23 h24=>?_)
   refine J_g 3366 [] [(0,sl 2 (File.enc false) a1),(1,iv x23),(5,iv s14.2)] [] (zU 2 (zAk (kk:=.i64) 26 62 2 (File.enc false) (.tmp 22) (.tmp 23) h22) (zU 6 (tF [(.tmp 26),(.tmp 27)] [38,3] (wF.ok x21.Data (w64 (s14.1+1))) h24) zD)) ?_
   refine J_d 6734 [] [30] [(30,bv (decide (x23<0)))] [] [] zD ?_
   refine zN 30 (fun h25=>?_) (fun h25=>?_)
   ·refine J_g 26940 [] [(4,iv (-1))] [] zD ?_
    exact yJ rfl
   ·refine J_d 211 [] [5,30] [(5,iv (w64 (s14.2+1)))] [] [] zD ?_
    exact J_q (J_b (ih (x23,w64 (s14.2+1)))) rfl
 ·exact vS (hk s14.1) rfl
theorem wH.ok (a1:(List File)) (a2:Int):Ok Try.prog 49 [sl 2 (File.enc false) a1,iv a2] [] ((wH a1 a2).map fun r=>(iv r,[])):=by
 refine zO c49 Try.f49 0 32 (fun q=>?_)
 unfold wH
 refine J_g 2 [] [(0,sl 2 (File.enc false) a1),(1,iv a2)] [] zD ?_
 refine J_d 12 [] [5] [(5,iv 0)] [] [] zD ?_
 refine zAH (K0:=(fun r:Int=>some (iv r,[]))) (fun _=>rfl) (wQ.ok a1 q _ (fun v26=>J_j ?_) (a2,0))
 refine J_g 14 [] [(4,iv v26)] [] zD ?_
 exact yJ rfl
noncomputable def c30:Code:=(Try.f30.body).getD .skip
theorem wY.ok (a1:zA) (a2:Int):Ok Try.prog 30 [.ag (zA.enc false a1),iv a2] [] ((wY a1 a2).map fun r=>(iv r,[])):=by
 refine zO c30 Try.f30 0 12 (fun q=>?_)
 unfold wY
 refine J_g 2 [(0,0)] [(1,iv a2),(2,pp 0)] [(0,.box (zA.enc false a1))] zD ?_
 refine zG (fun x3 h4=>?_)
 refine J_g 6 [] [(1,iv x3)] [] (zU 3 (tF [(.tmp 6),(.tmp 7)] [26,3] (wH.ok a1.Files a2) h4) zD) ?_
 refine J_g 28 [] [(1,iv x3),(10,bv (decide (x3<0)))] [] zD ?_
 refine zN 10 (fun h5=>?_) (fun h5=>?_)
 ·refine J_g 116 [] [(4,iv (-1))] [] zD ?_
  exact yJ rfl
 ·refine J_g 30 [] [(4,iv x3)] [] zD ?_
  exact yJ rfl
noncomputable def c13:Code:=(Try.f13.body).getD .skip
theorem zS.ok (a1:zC) (a2:Int):Ok Try.prog 13 [.ag (zC.enc false a1),iv a2] [] ((zS a1 a2).map fun r=>(iv r,[])):=by
 refine zO c13 Try.f13 0 12 (fun q=>?_)
 unfold zS
 refine J_g 2 [(0,0)] [(1,iv a2),(2,pp 0)] [(0,.box (zC.enc false a1))] zD ?_
 refine zG (fun x3 h4=>?_)
 refine J_g 6 [] [(1,iv x3)] [] (zU 3 (tF [(.tmp 6),(.tmp 7)] [28,3] (wY.ok a1.zA a2) h4) zD) ?_
 refine J_g 28 [] [(1,iv x3),(10,bv (decide (x3<0)))] [] zD ?_
 refine zN 10 (fun h5=>?_) (fun h5=>?_)
 ·refine J_g 116 [] [(4,iv (-1))] [] zD ?_
  exact yJ rfl
 ·refine J_g 30 [] [(4,iv x3)] [] zD ?_
  exact yJ rfl
noncomputable def c4:Code:=(Try.f4.body).getD .skip
theorem zX.ok (a1:zA) (a2:ByteArray) (a3:(List Int)):Ok Try.prog 4 [.ag (zA.enc false a1),sv a2,sl 1 eU8 a3] [] ((zX a1 a2 a3).map fun r=>(bv r,[])):=by
 refine zO c4 Try.f4 0 98 (fun q=>?_)
 unfold zX
 refine J_g 2 [(0,0)] [(1,sv a2),(2,sl 1 eU8 a3),(3,pp 0)] [(0,.box (zA.enc false a1))] zD ?_
 refine J_d 12 [] [18] [(18,bv (decide ((a2.size:Int)>1048576)))] [] [] zD ?_
 refine zN 18 (fun h4=>?_) (fun h4=>?_)
 ·refine J_g 52 [] [(6,bv true)] [] zD ?_
  exact yJ rfl
 ·refine J_d 28 [] [18,21] [(21,bv (decide ((a3.length:Int)>1048576)))] [] [] zD ?_
  refine zN 21 (fun h5=>?_) (fun h5=>?_)
  ·refine J_g 116 [] [(6,bv true)] [] zD ?_
   exact yJ rfl
  ·refine J_d 30 [] [7,21] [(7,iv 1048576)] [] [] zD ?_
   refine zG (fun x6 h7=>?_)
   refine J_g 62 [] [(1,sv a2),(2,sl 1 eU8 a3),(3,pp 0),(7,iv x6)] [(0,.box (zA.enc false a1))] (zU 2 (tF [(.tmp 22),(.tmp 23)] [24,3] (uM.ok a1 1048576) h7) zD) ?_
   refine J_d 252 [] [7,26] [(26,bv (decide (x6<0)))] [] [] zD ?_
   refine zN 26 (fun h8=>?_) (fun h8=>?_)
   ·refine J_g 1012 [] [(6,bv true)] [] zD ?_
    exact yJ rfl
   ·refine zG (fun x9 h10=>?_)
    refine zG (fun x11 h12=>?_)
    refine zG (fun x13 h14=>?_)
    refine J_d 254 [(6,4)] [8,26] [(8,pp 4)] [3,4] [(3,rE 2 (File.enc false) x13.zA.Files),(4,.box [iv x13.Code,rr 3 x13.zA.Files,iv x13.zA.Budget,iv x13.zA.Writes,iv x13.zA.Stop,bv x13.zA.Down])] (zU 1 (zFS (d2:=.ag (zA.enc false x9)) (tK («as»:=[.ag (zA.enc false a1)]) [(.tmp 27)] [24] false [] [] (.cons (.same rfl) (.nil)) (yS.ok a1) h10 (.ag (.cons (.own 1) (.cons (.same rfl rfl) (.cons (.same rfl rfl) (.cons (.same rfl rfl) (.cons (.same rfl rfl) (.nil)))))))) (.ag (.cons (.rf (Nat.le_of_eq (by simp)) (zC0 (enc:=(File.enc true)) (enc':=(File.enc false)) (File.ro true) x9.Files rfl rfl)) (.cons (.keep rfl) (.cons (.keep rfl) (.cons (.keep rfl) (.cons (.keep rfl) (.nil)))))))) (zU 4 (zFS (d2:=sl 1 eU8 x11) (tK («as»:=[sl 1 eU8 a3]) [(.tmp 30)] [38] false [] [] (.cons (.same rfl) (.nil)) (zW.ok a3) h12 (.own 2)) (.rf (Nat.le_of_eq (by simp)) (zC0 (enc:=eU8) (enc':=eU8) (fun _=>rfl) x11 rfl rfl))) (zU 5 (tK («as»:=[.ag (zA.enc false x9),sv a2,sl 1 eU8 x11]) [(.tmp 28),(.tmp 29),(.tmp 31)] [28,9,38] false [] [] (.cons (.same rfl) (.cons (.same rfl) (.cons (.same rfl) (.nil)))) (xG.ok x9 a2 x11) h14 (.ag (.cons (.same rfl rfl) (.cons (.own 3) (.cons (.same rfl rfl) (.cons (.same rfl rfl) (.cons (.same rfl rfl) (.cons (.same rfl rfl) (.nil))))))))) zD))) ?_
    refine zG (fun x15 h16=>?_)
    refine J_d 510 [(2,6)] [9] [(9,pp 6)] [5,6] [(5,rE 2 (File.enc true) x15.Files),(6,.box [rr 5 x15.Files,iv x15.Budget,iv x15.Writes,iv x15.Stop,bv x15.Down])] (zU 1 (tK («as»:=[.ag (zA.enc false a1)]) [(.tmp 33)] [24] false [] [] (.cons (.same rfl) (.nil)) (yS.ok a1) h16 (.ag (.cons (.own 5) (.cons (.same rfl rfl) (.cons (.same rfl rfl) (.cons (.same rfl rfl) (.cons (.same rfl rfl) (.nil)))))))) zD) ?_
    refine zG (fun x17 h18=>?_)
    refine J_d 1022 [] [10] [(10,rr 7 x17)] [7] [(7,rE 1 eU8 x17)] (zU 1 (tK («as»:=[sl 1 eU8 a3]) [(.tmp 35)] [38] false [] [] (.cons (.same rfl) (.nil)) (zW.ok a3) h18 (.own 7)) zD) ?_
    refine zG (fun x19 h20=>?_)
    refine J_d 2046 [(4,9)] [11] [(11,pp 9)] [8,9] [(8,rE 2 (File.enc true) x19.zA.Files),(9,.box [iv x19.Code,rr 8 x19.zA.Files,iv x19.zA.Budget,iv x19.zA.Writes,iv x19.zA.Stop,bv x19.zA.Down])] (zU 3 (tK («as»:=[.ag [rr 5 x15.Files,iv x15.Budget,iv x15.Writes,iv x15.Stop,bv x15.Down],sv a2,rr 7 x17]) [(.tmp 37),(.tmp 38),(.tmp 39)] [28,9,38] true [(5,rE 2 (File.enc true) x15.Files),(7,rE 1 eU8 x17)] [] (.cons (.ag (.cons (zBk (.head _) (File.ro true) rfl) (.cons (.same rfl) (.cons (.same rfl) (.cons (.same rfl) (.cons (.same rfl) (.nil))))))) (.cons (.same rfl) (.cons (zBk (.tail _ (.head _)) (fun _=>rfl) rfl) (.nil)))) (yK.ok x15 a2 x17) h20 (.ag (.cons (.same rfl rfl) (.cons (.own 8) (.cons (.same rfl rfl) (.cons (.same rfl rfl) (.cons (.same rfl rfl) (.cons (.same rfl rfl) (.nil)))))))) (hbor:=fun _=>⟨fhN,(zD2 (zC.fl _))⟩)) zD) ?_
    refine zG (fun x21 h22=>?_)
    refine J_d 8188 [] [44] [(44,bv (!x21))] [] [] (zU 2 (tK («as»:=[.ag [iv x19.Code,rr 8 x19.zA.Files,iv x19.zA.Budget,iv x19.zA.Writes,iv x19.zA.Stop,bv x19.zA.Down],.ag [iv x13.Code,rr 3 x13.zA.Files,iv x13.zA.Budget,iv x13.zA.Writes,iv x13.zA.Stop,bv x13.zA.Down]]) [(.tmp 41),(.tmp 42)] [30,30] true [(8,rE 2 (File.enc true) x19.zA.Files),(3,rE 2 (File.enc false) x13.zA.Files)] [] (.cons (.ag (.cons (.same rfl) (.cons (zBk (.head _) (File.ro true) rfl) (.cons (.same rfl) (.cons (.same rfl) (.cons (.same rfl) (.cons (.same rfl) (.nil)))))))) (.cons (.ag (.cons (.same rfl) (.cons (zBk (.tail _ (.head _)) (File.ro false) rfl) (.cons (.same rfl) (.cons (.same rfl) (.cons (.same rfl) (.cons (.same rfl) (.nil)))))))) (.nil))) (zQ.ok x19 x13) h22 (.same rfl rfl) (hbor:=fun _=>⟨fhN,xR⟩)) zD) ?_
    refine zN 44 (fun h23=>?_) (fun h23=>?_)
    ·refine J_g 32756 [] [(6,bv false)] [] zD ?_
     exact yJ rfl
    ·refine zG (fun x24 h25=>?_)
     refine zG (fun x26 h27=>?_)
     refine J_d 16380 [] [44,49] [(49,bv (!x26))] [] [] (zU 2 (tK («as»:=[.ag (zA.enc false a1)]) [(.tmp 46)] [24] false [] [] (.cons (.same rfl) (.nil)) (yS.ok a1) h25 (.ag (.cons (.own 10) (.cons (.same rfl rfl) (.cons (.same rfl rfl) (.cons (.same rfl rfl) (.cons (.same rfl rfl) (.nil)))))))) (zU 3 (tK («as»:=[.ag [rr 5 x15.Files,iv x15.Budget,iv x15.Writes,iv x15.Stop,bv x15.Down],.ag [rr 10 x24.Files,iv x24.Budget,iv x24.Writes,iv x24.Stop,bv x24.Down]]) [(.tmp 45),(.tmp 47)] [28,28] true [(5,rE 2 (File.enc true) x15.Files),(10,rE 2 (File.enc true) x24.Files)] [] (.cons (.ag (.cons (zBk (.head _) (File.ro true) rfl) (.cons (.same rfl) (.cons (.same rfl) (.cons (.same rfl) (.cons (.same rfl) (.nil))))))) (.cons (.ag (.cons (zBk (.tail _ (.head _)) (File.ro true) rfl) (.cons (.same rfl) (.cons (.same rfl) (.cons (.same rfl) (.cons (.same rfl) (.nil))))))) (.nil))) (wW.ok x15 x24) h27 (.same rfl rfl) (hbor:=fun _=>⟨fhN,xR⟩)) zD)) ?_
     refine zN 49 (fun h28=>?_) (fun h28=>?_)
     ·refine J_g 65524 [] [(6,bv false)] [] zD ?_
      exact yJ rfl
     ·refine zG (fun x29 h30=>?_)
      refine zG (fun x31 h32=>?_)
      refine J_d 32764 [] [49,54] [(54,bv (!x31))] [] [] (zU 2 (tK («as»:=[sl 1 eU8 a3]) [(.tmp 51)] [38] false [] [] (.cons (.same rfl) (.nil)) (zW.ok a3) h30 (.own 10)) (zU 3 (tK («as»:=[rr 7 x17,rr 10 x29]) [(.tmp 50),(.tmp 52)] [38,38] true [(7,rE 1 eU8 x17),(10,rE 1 eU8 x29)] [] (.cons (zBk (.head _) (fun _=>rfl) rfl) (.cons (zBk (.tail _ (.head _)) (fun _=>rfl) rfl) (.nil))) (xY.ok x17 x29) h32 (.same rfl rfl) (hbor:=fun _=>⟨fhN,xR⟩)) zD)) ?_
      refine zN 54 (fun h33=>?_) (fun h33=>?_)
      ·refine J_g 131060 [] [(6,bv false)] [] zD ?_
       exact yJ rfl
      ·refine J_d 32766 [] [12,54] [(12,iv 1)] [] [] zD ?_
       refine zG (fun x34 h35=>?_)
       refine J_g 65534 [] [(1,sv a2),(2,sl 1 eU8 a3),(3,pp 0),(8,pp 4),(10,rr 7 x17),(11,pp 9),(12,iv x34.1)] [(0,.box (zA.enc false a1)),(3,rE 2 (File.enc false) x13.zA.Files),(4,.box [iv x13.Code,rr 3 x13.zA.Files,iv x13.zA.Budget,iv x13.zA.Writes,iv x13.zA.Stop,bv x13.zA.Down]),(7,rE 1 eU8 x17),(8,rE 2 (File.enc true) x19.zA.Files),(9,.box [iv x19.Code,rr 8 x19.zA.Files,iv x19.zA.Budget,iv x19.zA.Writes,iv x19.zA.Stop,bv x19.zA.Down])] (zU 2 (tK («as»:=[.ag [rr 5 x15.Files,iv x15.Budget,iv x15.Writes,iv x15.Stop,bv x15.Down],iv 1]) [(.tmp 55),(.tmp 56)] [28,3] false [(5,rE 2 (File.enc true) x15.Files)] [5] (.cons (.ag (.cons (.rf rfl) (.cons (.same rfl) (.cons (.same rfl) (.cons (.same rfl) (.cons (.same rfl) (.nil))))))) (.cons (.same rfl) (.nil))) (yZ.ok x15 1) h35 (.same rfl rfl)) zD) ?_
       refine zG (fun x36 h37=>?_)
       refine J_g 131070 [] [(1,sv a2),(2,sl 1 eU8 a3),(3,pp 0),(8,pp 4),(11,pp 9),(12,iv x36.1)] [(0,.box (zA.enc false a1)),(3,rE 2 (File.enc false) x13.zA.Files),(4,.box [iv x13.Code,rr 3 x13.zA.Files,iv x13.zA.Budget,iv x13.zA.Writes,iv x13.zA.Stop,bv x13.zA.Down]),(8,rE 2 (File.enc true) x19.zA.Files),(9,.box [iv x19.Code,rr 8 x19.zA.Files,iv x19.zA.Budget,iv x19.zA.Writes,iv x19.zA.Stop,bv x19.zA.Down])] (zU 2 (tK («as»:=[rr 7 x17,iv x34.1]) [(.tmp 58),(.tmp 59)] [38,3] false [(7,rE 1 eU8 x17)] [7] (.cons (.rf rfl) (.cons (.same rfl) (.nil))) (yN.ok x17 x34.1) h37 (.same rfl rfl)) zD) ?_
       refine vZ (atI c4 524285) (fun v41:Bool=>St.mk' [(1,sv a2),(2,sl 1 eU8 a3),(3,pp 0),(8,pp 4),(11,pp 9),(68,bv v41)] [(0,.box (zA.enc false a1)),(3,rE 2 (File.enc false) x13.zA.Files),(4,.box [iv x13.Code,rr 3 x13.zA.Files,iv x13.zA.Budget,iv x13.zA.Writes,iv x13.zA.Stop,bv x13.zA.Down]),(8,rE 2 (File.enc true) x19.zA.Files),(9,.box [iv x19.Code,rr 8 x19.zA.Files,iv x19.zA.Budget,iv x19.zA.Writes,iv x19.zA.Stop,bv x19.zA.Down])]) (fun v41=>?_) (fun jv41=>?_)
       ·refine zN 68 (fun h42=>?_) (fun h42=>?_)
        ·refine J_g 2097140 [] [(6,bv false)] [] zD ?_
         exact yJ rfl
        ·refine J_d 524286 [] [13,68] [(13,iv 1)] [] [] zD ?_
         refine zG (fun x43 h44=>?_)
         refine J_g 1048574 [] [(1,sv a2),(2,sl 1 eU8 a3),(3,pp 0),(8,pp 4),(11,pp 9),(13,iv x43.1)] [(0,.box (zA.enc false a1)),(3,rE 2 (File.enc false) x13.zA.Files),(4,.box [iv x13.Code,rr 3 x13.zA.Files,iv x13.zA.Budget,iv x13.zA.Writes,iv x13.zA.Stop,bv x13.zA.Down]),(8,rE 2 (File.enc true) x43.2),(9,.box [iv x19.Code,rr 8 x19.zA.Files,iv x19.zA.Budget,iv x19.zA.Writes,iv x19.zA.Stop,bv x19.zA.Down])] (zU 2 (tK («as»:=[.ag [iv x19.Code,rr 8 x19.zA.Files,iv x19.zA.Budget,iv x19.zA.Writes,iv x19.zA.Stop,bv x19.zA.Down],iv 1]) [(.tmp 69),(.tmp 70)] [30,3] false [(8,rE 2 (File.enc true) x19.zA.Files)] [8] (.cons (.ag (.cons (.same rfl) (.cons (.rf rfl) (.cons (.same rfl) (.cons (.same rfl) (.cons (.same rfl) (.cons (.same rfl) (.nil)))))))) (.cons (.same rfl) (.nil))) (yB.ok x19 1) h44 (.same rfl rfl)) zD) ?_
         refine zG (fun u45 h46=>?_)
         refine zEm (σ':=St.mk' [(1,sv a2),(2,sl 1 eU8 a3),(3,pp 0),(8,pp 4),(11,pp 9),(13,iv x43.1)] [(0,.box (zA.enc false a1)),(3,rE 2 (File.enc false) x13.zA.Files),(4,.box [iv x13.Code,rr 3 x13.zA.Files,iv x13.zA.Budget,iv x13.zA.Writes,iv x13.zA.Stop,bv x13.zA.Down]),(8,rE 2 (File.enc true) x43.2),(9,.box [iv x19.Code,rr 8 x43.2,iv x19.zA.Budget,iv x19.zA.Writes,iv x19.zA.Stop,bv x19.zA.Down])]) (by simp only [rr,zBn h46]) ?_
         refine J_d 2097150 [] [14] [(14,iv 1)] [] [] zD ?_
         refine zG (fun x47 h48=>?_)
         refine J_g 4194302 [] [(1,sv a2),(2,sl 1 eU8 a3),(3,pp 0),(8,pp 4),(11,pp 9),(13,iv x43.1),(14,iv x47)] [(0,.box (zA.enc false a1)),(3,rE 2 (File.enc false) x13.zA.Files),(4,.box [iv x13.Code,rr 3 x13.zA.Files,iv x13.zA.Budget,iv x13.zA.Writes,iv x13.zA.Stop,bv x13.zA.Down]),(8,rE 2 (File.enc true) x43.2),(9,.box [iv x19.Code,rr 8 x43.2,iv x19.zA.Budget,iv x19.zA.Writes,iv x19.zA.Stop,bv x19.zA.Down])] (zU 2 (tK («as»:=[.ag [iv x19.Code,rr 8 x43.2,iv x19.zA.Budget,iv x19.zA.Writes,iv x19.zA.Stop,bv x19.zA.Down],iv 1]) [(.tmp 72),(.tmp 73)] [30,3] true [(8,rE 2 (File.enc true) x43.2)] [] (.cons (.ag (.cons (.same rfl) (.cons (zBk (.head _) (File.ro true) rfl) (.cons (.same rfl) (.cons (.same rfl) (.cons (.same rfl) (.cons (.same rfl) (.nil)))))))) (.cons (.same rfl) (.nil))) (zS.ok ({Code:=x19.Code,zA:=({Files:=x43.2,Budget:=x19.zA.Budget,Writes:=x19.zA.Writes,Stop:=x19.zA.Stop,Down:=x19.zA.Down}:zA)}:zC) 1) h48 (.same rfl rfl) (hbor:=fun _=>⟨fhN,xR⟩)) zD) ?_
         refine J_d 16777212 [] [76] [(76,bv (decide (x47<0)))] [] [] zD ?_
         refine zN 76 (fun h49=>?_) (fun h49=>?_)
         ·refine J_g 67108852 [] [(6,bv false)] [] zD ?_
          exact yJ rfl
         ·refine J_d 33554428 [] [14,76,79] [(79,bv (x47 !=x43.1))] [] [] zD ?_
          refine zN 79 (fun h50=>?_) (fun h50=>?_)
          ·refine J_g 134217716 [] [(6,bv false)] [] zD ?_
           exact yJ rfl
          ·refine zG (fun x51 h52=>?_)
           refine zG (fun x53 h54=>?_)
           refine zG (fun x55 h56=>?_)
           refine J_d 33554430 [(6,13)] [1,2,3,15,79] [(15,pp 13)] [0,12,13] [(12,rE 2 (File.enc true) x55.zA.Files),(13,.box [iv x55.Code,rr 12 x55.zA.Files,iv x55.zA.Budget,iv x55.zA.Writes,iv x55.zA.Stop,bv x55.zA.Down])] (zU 1 (tK («as»:=[.ag (zA.enc false a1)]) [(.tmp 80)] [24] false [] [] (.cons (.same rfl) (.nil)) (yS.ok a1) h52 (.ag (.cons (.own 10) (.cons (.same rfl rfl) (.cons (.same rfl rfl) (.cons (.same rfl rfl) (.cons (.same rfl rfl) (.nil)))))))) (zU 4 (tK («as»:=[sl 1 eU8 a3]) [(.tmp 83)] [38] false [] [] (.cons (.same rfl) (.nil)) (zW.ok a3) h54 (.own 11)) (zU 5 (tK («as»:=[.ag [rr 10 x51.Files,iv x51.Budget,iv x51.Writes,iv x51.Stop,bv x51.Down],sv a2,rr 11 x53]) [(.tmp 81),(.tmp 82),(.tmp 84)] [28,9,38] true [(10,rE 2 (File.enc true) x51.Files),(11,rE 1 eU8 x53)] [] (.cons (.ag (.cons (zBk (.head _) (File.ro true) rfl) (.cons (.same rfl) (.cons (.same rfl) (.cons (.same rfl) (.cons (.same rfl) (.nil))))))) (.cons (.same rfl) (.cons (zBk (.tail _ (.head _)) (fun _=>rfl) rfl) (.nil)))) (yK.ok x51 a2 x53) h56 (.ag (.cons (.same rfl rfl) (.cons (.own 12) (.cons (.same rfl rfl) (.cons (.same rfl rfl) (.cons (.same rfl rfl) (.cons (.same rfl rfl) (.nil)))))))) (hbor:=fun _=>⟨fhN,(zD2 (zC.fl _))⟩)) zD))) ?_
           refine zG (fun x57 h58=>?_)
           refine J_d 134217724 [] [8,15,89] [(89,bv (!x57))] [3,4,12,13] [] (zU 2 (tK («as»:=[.ag [iv x55.Code,rr 12 x55.zA.Files,iv x55.zA.Budget,iv x55.zA.Writes,iv x55.zA.Stop,bv x55.zA.Down],.ag [iv x13.Code,rr 3 x13.zA.Files,iv x13.zA.Budget,iv x13.zA.Writes,iv x13.zA.Stop,bv x13.zA.Down]]) [(.tmp 86),(.tmp 87)] [30,30] true [(12,rE 2 (File.enc true) x55.zA.Files),(3,rE 2 (File.enc false) x13.zA.Files)] [] (.cons (.ag (.cons (.same rfl) (.cons (zBk (.head _) (File.ro true) rfl) (.cons (.same rfl) (.cons (.same rfl) (.cons (.same rfl) (.cons (.same rfl) (.nil)))))))) (.cons (.ag (.cons (.same rfl) (.cons (zBk (.tail _ (.head _)) (File.ro false) rfl) (.cons (.same rfl) (.cons (.same rfl) (.cons (.same rfl) (.cons (.same rfl) (.nil)))))))) (.nil))) (zQ.ok x55 x13) h58 (.same rfl rfl) (hbor:=fun _=>⟨fhN,xR⟩)) zD) ?_
           refine zN 89 (fun h59=>?_) (fun h59=>?_)
           ·refine J_g 536870900 [] [(6,bv false)] [] zD ?_
            exact yJ rfl
           ·refine J_d 134217726 [] [14,89] [(14,iv 1)] [] [] zD ?_
            refine zG (fun x60 h61=>?_)
            refine J_g 268435454 [] [(13,iv x43.1),(14,iv x60)] [] (zU 2 (tK («as»:=[.ag [iv x19.Code,rr 8 x43.2,iv x19.zA.Budget,iv x19.zA.Writes,iv x19.zA.Stop,bv x19.zA.Down],iv 1]) [(.tmp 90),(.tmp 91)] [30,3] true [(8,rE 2 (File.enc true) x43.2)] [] (.cons (.ag (.cons (.same rfl) (.cons (zBk (.head _) (File.ro true) rfl) (.cons (.same rfl) (.cons (.same rfl) (.cons (.same rfl) (.cons (.same rfl) (.nil)))))))) (.cons (.same rfl) (.nil))) (zS.ok ({Code:=x19.Code,zA:=({Files:=x43.2,Budget:=x19.zA.Budget,Writes:=x19.zA.Writes,Stop:=x19.zA.Stop,Down:=x19.zA.Down}:zA)}:zC) 1) h61 (.same rfl rfl) (hbor:=fun _=>⟨fhN,xR⟩)) zD) ?_
            refine J_d 1073741820 [] [94] [(94,bv (decide (x60<0)))] [] [] zD ?_
            refine zN 94 (fun h62=>?_) (fun h62=>?_)
            ·refine J_g 4294967284 [] [(6,bv false)] [] zD ?_
             exact yJ rfl
            ·refine J_g 2147483644 [] [(97,bv (x60 !=x43.1))] [] zD ?_
             refine zN 97 (fun h63=>?_) (fun h63=>?_)
             ·refine J_g 8589934580 [] [(6,bv false)] [] zD ?_
              exact yJ rfl
             ·refine J_g 2147483646 [] [(6,bv true)] [] zD ?_
              exact yJ rfl
       ·refine wS (fun h38=>?_) (fun h38=>?_)
        ·refine J_d 524284 [] [12,68] [(68,bv true)] [] [] (xS 2 [(62,bv (decide (x36.1<0)))] [] h38 zD) ?_
         exact vS (J_j (jv41 true)) rfl
        ·refine zG (fun x39 h40=>?_)
         refine J_d 524284 [] [12,68] [(68,bv (!x39))] [] [] (xS 2 [(62,bv (decide (x36.1<0)))] [] h38 (zB1 5 2 63 false (tK («as»:=[.ag [iv x19.Code,rr 8 x19.zA.Files,iv x19.zA.Budget,iv x19.zA.Writes,iv x19.zA.Stop,bv x19.zA.Down],.ag [iv x13.Code,rr 3 x13.zA.Files,iv x13.zA.Budget,iv x13.zA.Writes,iv x13.zA.Stop,bv x13.zA.Down]]) [(.tmp 64),(.tmp 65)] [30,30] true [(8,rE 2 (File.enc true) x19.zA.Files),(3,rE 2 (File.enc false) x13.zA.Files)] [] (.cons (.ag (.cons (.same rfl) (.cons (zBk (.head _) (File.ro true) rfl) (.cons (.same rfl) (.cons (.same rfl) (.cons (.same rfl) (.cons (.same rfl) (.nil)))))))) (.cons (.ag (.cons (.same rfl) (.cons (zBk (.tail _ (.head _)) (File.ro false) rfl) (.cons (.same rfl) (.cons (.same rfl) (.cons (.same rfl) (.cons (.same rfl) (.nil)))))))) (.nil))) (zQ.ok x19 x13) h40 (.same rfl rfl) (hbor:=fun _=>⟨fhN,xR⟩)) zD)) ?_
         exact vS (J_j (jv41 (!x39))) rfl
end Go.Told

import Derived.Test.YtlagdfkkokgakaaDoorToldNewStore
import Derived.Test.YtlagdfkkokgakaaDoorShelfNewStore
import Derived.Test.YtlagdfkkokgakaaDoorProg
import Derived.Deep.LoopGhost
import Derived.Deep.RegionLaw
import Derived.Laws.Externs
import Derived.Laws.IdiomCopy
import Derived.Laws.NewBlocks
import Derived.Lib.AppendZeros
import Derived.Lib.AppendZerosOnto
import Derived.Lib.JoinLaws
import Derived.Lib.Overlaps
import Derived.Lib.SliceRun
import Derived.Lib.SlicesDelete
import Derived.Lib.Walk
import Derived.Shelf.Lays2
import Derived.Shelf.RegionOpenPlain
import Derived.Shelf.Spec.SlicesInsert
import Derived.Sort.WalkB12
import Derived.WalkKit
set_option linter.unusedVariables false
set_option maxRecDepth 4000
namespace Go.Told
open Go Go.Im Go.Proofs
noncomputable def c17:Code:=(Tryd.f17.body).getD .skip
theorem wD.ok (a1:Int) (a2:Int) (a3:Int):Ok Tryd.prog 17 [iv a1,iv a2,iv a3] [] ((wD a1 a2 a3).map fun r=>(bv r,[])):=by
 refine yL c17 Tryd.f17 0 15 (fun q=>?_)
 unfold wD
 refine J_d 2 [] [] [] [] [] zL ?_
 refine zCA (fun h4=>?_) (fun h4=>?_)
 ·refine J_g 6 [] [(6,bv (decide (a1≤a3)))] [] (zDm 3 [(9,bv (decide (a1≥a2)))] [] h4 zL) ?_
  exact wG rfl
 ·refine J_g 6 [] [(6,bv false)] [] (zDm 3 [(9,bv (decide (a1≥a2)))] [] h4 zL) ?_
  exact wG rfl
noncomputable def c9:Code:=(Tryd.f9.body).getD .skip
theorem xB.ok (a1:Int):Ok Tryd.prog 9 [iv a1] [] ((xB a1).map fun r=>(.ag (zB.enc true r),[])):=by
 refine yL c9 Tryd.f9 0 10 (fun q=>?_)
 unfold xB
 refine J_g 2 [(0,0)] [(0,iv a1),(2,pp 0)] [(0,.box [iv 0,nv,iv 0,iv 0,iv 0,bv false])] zL ?_
 refine zJ (fun x2 h3=>?_)
 refine J_d 12 [] [5] [(5,bv (!x2))] [] [] (xD 1 (jJ [(.tmp 3),(.const (.int .i64 0)),(.const (.int .i64 20000))] [2,2,2] (wD.ok a1 0 20000) h3) zL) ?_
 refine yT 5 (fun h4=>?_) (fun h4=>?_)
 ·refine J_g 52 [] [(2,pp 0)] [(0,.box [iv 3,nv,iv 0,iv 0,iv 0,bv false])] zL ?_
  exact zBq (ds:=[.ag [iv 3,nv,iv 0,iv 0,iv 0,bv false]]) (ds':=[.ag [iv 3,so 2 (File.enc true) ([]:List File),iv 0,iv 0,iv 0,bv false]]) (.cons (.ag (.keep rfl (.nilsl true 2 (.keep rfl (.keep rfl (.keep rfl (.keep rfl (.nil)))))))) (.nil) (by decide)) rfl
 ·refine J_g 14 [] [(2,pp 0)] [(0,.box [iv 0,nv,iv a1,iv 0,iv (-1),bv false])] zL ?_
  exact zBq (ds:=[.ag [iv 0,nv,iv a1,iv 0,iv (-1),bv false]]) (ds':=[.ag [iv 0,so 2 (File.enc true) ([]:List File),iv a1,iv 0,iv (-1),bv false]]) (.cons (.ag (.keep rfl (.nilsl true 2 (.keep rfl (.keep rfl (.keep rfl (.keep rfl (.nil)))))))) (.nil) (by decide)) rfl
noncomputable def c18:Code:=(Tryd.f18.body).getD .skip
theorem xC.ok (a1:Int):Ok Tryd.prog 18 [iv a1] [] ((xC a1).map fun r=>(sv r,[])):=by
 have key:∀(n:Nat) (a1:Int),Ok Tryd.prog 18 [iv a1] [] ((zDi yA n a1).map fun r=>(sv r,[])):=by
  intro n
  induction n with
  |zero=>intro a1; exact zDg
  |succ n ih=>
   intro a1
   refine yL c18 Tryd.f18 0 20 (fun q=>?_)
   unfold zDi yA
   refine J_g 2 [] [(0,iv a1)] [] zL ?_
   refine J_g 12 [] [(0,iv a1),(4,bv (decide (a1<10)))] [] zL ?_
   refine yT 4 (fun h2=>?_) (fun h2=>?_)
   ·refine J_g 52 [] [(2,sv (b2s [IntKind.u8.wrap (w64 (48+a1))]))] [] (xD 3 (zDj 31 5 1 0 eU8 [IntKind.u8.wrap (w64 (48+a1))] [0] [(.tmp 7)] [uv (IntKind.u8.wrap (w64 (48+a1)))]) (xD 4 (zBt (xs:=[IntKind.u8.wrap (w64 (48+a1))]) 31 9 5 0 (.tmp 8)) zL)) ?_
    exact wG rfl
   ·refine zJ (fun x3 h4=>?_)
    refine zJ (fun x5 h6=>?_)
    refine J_g 14 [] [(2,sv x5)] [] (xD 2 (jJ [(.tmp 11)] [2] (ih (w64 (a1.tdiv 10))) h4) (xD 7 (zDj 31 5 1 0 eU8 [IntKind.u8.wrap (w64 (48+(a1.tmod 10)))] [0] [(.tmp 16)] [uv (IntKind.u8.wrap (w64 (48+(a1.tmod 10))))]) (xD 8 (zBt (xs:=[IntKind.u8.wrap (w64 (48+(a1.tmod 10)))]) 31 9 5 0 (.tmp 17)) (xD 9 (zBe 9 9 (.tmp 12) (.tmp 18) h6) zL)))) ?_
    exact wG rfl
 exact key 64 a1
noncomputable def c10:Code:=(Tryd.f10.body).getD .skip
theorem xJ.ok (a1:Int):Ok Tryd.prog 10 [iv a1] [] ((xJ a1).map fun r=>(sv r,[])):=by
 refine yL c10 Tryd.f10 0 11 (fun q=>?_)
 unfold xJ
 refine J_g 2 [] [(0,iv a1)] [] zL ?_
 refine zJ (fun x2 h3=>?_)
 refine J_g 12 [] [(0,iv a1),(5,bv (!x2))] [] (xD 1 (jJ [(.tmp 3),(.const (.int .i64 1)),(.const (.int .i64 999999))] [2,2,2] (wD.ok a1 1 999999) h3) zL) ?_
 refine yT 5 (fun h4=>?_) (fun h4=>?_)
 ·refine J_g 52 [] [(2,sv (bs []))] [] zL ?_
  exact wG rfl
 ·refine zJ (fun x5 h6=>?_)
  refine zJ (fun x7 h8=>?_)
  refine zJ (fun x9 h10=>?_)
  refine J_g 14 [] [(2,sv x9)] [] (xD 2 (jJ [(.tmp 7)] [2] (xC.ok (w64 (1000000+a1))) h6) (xD 3 (zEm 9 (.tmp 8) (some (.const (.int .i64 1))) none h8) (xD 4 (zBe 9 9 (.const (.string (bs [103,101,110,47]))) (.tmp 9) h10) zL))) ?_
  exact wG rfl
noncomputable def c4:Code:=(Tryd.f4.body).getD .skip
theorem yG.ok (a1:Int):Ok Tryd.prog 4 [iv a1] [] ((yG a1).map fun r=>(.ag [iv r.Code,so 2 (File.enc false) r.zF.Files,iv r.zF.Budget,iv r.zF.Writes,iv r.zF.Stop,bv r.zF.Down],[])):=by
 refine yL c4 Tryd.f4 0 23 (fun q=>?_)
 unfold yG
 refine J_g 2 [(0,0)] [(0,iv a1),(2,pp 0)] [(0,.box [iv 0,nv,iv 0,iv 0,iv 0,bv false])] zL ?_
 refine zJ (fun x2 h3=>?_)
 refine J_g 6 [(2,2)] [(0,iv a1),(2,pp 0),(3,pp 2)] [(0,.box [iv 0,nv,iv 0,iv 0,iv 0,bv false]),(1,rE 2 (File.enc true) x2.zF.Files),(2,.box [iv x2.Code,rr 1 x2.zF.Files,iv x2.zF.Budget,iv x2.zF.Writes,iv x2.zF.Stop,bv x2.zF.Down])] (xD 1 (jY («as»:=[iv a1]) [(.tmp 4)] [2] false [] [] (.cons (.same rfl) (.nil)) (xB.ok a1) h3 (.ag (.cons (.same rfl rfl) (.cons (.own 1) (.cons (.same rfl rfl) (.cons (.same rfl rfl) (.cons (.same rfl rfl) (.cons (.same rfl rfl) (.nil))))))))) zL) ?_
 refine J_d 28 [] [8] [(8,bv (x2.Code !=0))] [] [] zL ?_
 refine yT 8 (fun h4=>?_) (fun h4=>?_)
 ·refine J_g 116 [] [(2,pp 0)] [(0,.box [iv x2.Code,rr 1 x2.zF.Files,iv x2.zF.Budget,iv x2.zF.Writes,iv x2.zF.Stop,bv x2.zF.Down]),(1,rE 2 (File.enc true) x2.zF.Files)] zL ?_
  refine zBd [(2,pp 0)] [(1,rE 2 (File.enc true) x2.zF.Files),(0,.box [iv x2.Code,rr 1 x2.zF.Files,iv x2.zF.Budget,iv x2.zF.Writes,iv x2.zF.Stop,bv x2.zF.Down])] (by kernel_rfl) ?_
  refine zDZ 1 (kE (enc:=(File.enc true)) (enc':=(File.enc false)) (File.ro true) _) ?_
  refine zBd [(2,pp 0)] [(0,.box [iv x2.Code,rr 1 x2.zF.Files,iv x2.zF.Budget,iv x2.zF.Writes,iv x2.zF.Stop,bv x2.zF.Down]),(1,rE 2 (File.enc false) x2.zF.Files)] (by kernel_rfl) ?_
  exact zBq (ds:=[.ag [iv x2.Code,rr 1 x2.zF.Files,iv x2.zF.Budget,iv x2.zF.Writes,iv x2.zF.Stop,bv x2.zF.Down]]) (ds':=[.ag [iv x2.Code,so 2 (File.enc false) x2.zF.Files,iv x2.zF.Budget,iv x2.zF.Writes,iv x2.zF.Stop,bv x2.zF.Down]]) (.cons (.ag (.keep rfl (.move (.tail _ (.head _)) (List.length_map _) (by decide) (.keep rfl (.keep rfl (.keep rfl (.keep rfl (.nil)))))))) (.nil) (by decide)) rfl
 ·refine J_d 60 [] [0,8,11] [(11,bv (a1==0))] [] [] zL ?_
  refine yT 11 (fun h5=>?_) (fun h5=>?_)
  ·refine J_g 244 [] [(2,pp 0)] [(0,.box [iv 8,nv,iv 0,iv 0,iv 0,bv false])] zL ?_
   exact zBq (ds:=[.ag [iv 8,nv,iv 0,iv 0,iv 0,bv false]]) (ds':=[.ag [iv 8,so 2 (File.enc false) ([]:List File),iv 0,iv 0,iv 0,bv false]]) (.cons (.ag (.keep rfl (.nilsl true 2 (.keep rfl (.keep rfl (.keep rfl (.keep rfl (.nil)))))))) (.nil) (by decide)) rfl
  ·refine zJ (fun x6 h7=>?_)
   refine J_g 62 [] [(2,pp 0),(3,pp 2)] [(0,.box [iv 0,nv,iv 0,iv 0,iv 0,bv false]),(2,.box [iv x2.Code,rr 4 [({Path:=bs [99,117,114],Data:=[49]}:File),({Path:=x6,Data:=([]:List Int)}:File),({Path:=bs [114,111,111,116,115],Data:=([]:List Int)}:File)],iv x2.zF.Budget,iv x2.zF.Writes,iv x2.zF.Stop,bv x2.zF.Down]),(4,rE 2 (File.enc false) [({Path:=bs [99,117,114],Data:=[49]}:File),({Path:=x6,Data:=([]:List Int)}:File),({Path:=bs [114,111,111,116,115],Data:=([]:List Int)}:File)])] (xD 0 (zDj 31 5 1 3 eU8 [49] [0] [(.const (.int .u8 49))] [uv 49]) (xD 1 (zDr (xs:=[49]) 31 5 3 (.tmp 13)) (xD 3 (jJ [(.const (.int .i64 1))] [2] (xJ.ok 1) h7) (xD 6 (zDQ (ds:=[sv (bs [99,117,114]),sl 1 eU8 [49],sv x6,nv,sv (bs [114,111,111,116,115]),nv]) (ts:=[]) 22 33 2 4 (File.enc false) [({Path:=bs [99,117,114],Data:=[49]}:File),({Path:=x6,Data:=([]:List Int)}:File),({Path:=bs [114,111,111,116,115],Data:=([]:List Int)}:File)] [0,1,2] [(.tmp 15),(.tmp 17),(.tmp 18)] [.ag [sv (bs [99,117,114]),sl 1 eU8 [49]],.ag [sv x6,nv],.ag [sv (bs [114,111,111,116,115]),nv]] [] (.keep rfl (.keep rfl (.keep rfl (.nilsl false 1 (.keep rfl (.nilsl false 1 (.nil)))))))) zL)))) ?_
   refine J_g 126 [] [(2,pp 0)] [(0,.box [iv x2.Code,rr 4 [({Path:=bs [99,117,114],Data:=[49]}:File),({Path:=x6,Data:=([]:List Int)}:File),({Path:=bs [114,111,111,116,115],Data:=([]:List Int)}:File)],iv x2.zF.Budget,iv x2.zF.Writes,iv x2.zF.Stop,bv x2.zF.Down]),(4,rE 2 (File.enc false) [({Path:=bs [99,117,114],Data:=[49]}:File),({Path:=x6,Data:=([]:List Int)}:File),({Path:=bs [114,111,111,116,115],Data:=([]:List Int)}:File)])] zL ?_
   exact zBq (ds:=[.ag [iv x2.Code,rr 4 [({Path:=bs [99,117,114],Data:=[49]}:File),({Path:=x6,Data:=([]:List Int)}:File),({Path:=bs [114,111,111,116,115],Data:=([]:List Int)}:File)],iv x2.zF.Budget,iv x2.zF.Writes,iv x2.zF.Stop,bv x2.zF.Down]]) (ds':=[.ag [iv x2.Code,so 2 (File.enc false) [({Path:=bs [99,117,114],Data:=[49]}:File),({Path:=x6,Data:=([]:List Int)}:File),({Path:=bs [114,111,111,116,115],Data:=([]:List Int)}:File)],iv x2.zF.Budget,iv x2.zF.Writes,iv x2.zF.Stop,bv x2.zF.Down]]) (.cons (.ag (.keep rfl (.move (.tail _ (.head _)) (List.length_map _) (by decide) (.keep rfl (.keep rfl (.keep rfl (.keep rfl (.nil)))))))) (.nil) (by decide)) rfl
noncomputable def c11:Code:=(Tryd.f11.body).getD .skip
theorem xY.ok (a1:Int) (a2:Int) (a3:Int):Ok Tryd.prog 11 [iv a1,iv a2,iv a3] [] ((xY a1 a2 a3).map fun r=>(bv r,[])):=by
 refine yL c11 Tryd.f11 0 15 (fun q=>?_)
 unfold xY
 refine J_d 2 [] [] [] [] [] zL ?_
 refine zCA (fun h4=>?_) (fun h4=>?_)
 ·refine J_g 6 [] [(6,bv (decide (a1≤a3)))] [] (zDm 3 [(9,bv (decide (a2≤a1)))] [] h4 zL) ?_
  exact wG rfl
 ·refine J_g 6 [] [(6,bv false)] [] (zDm 3 [(9,bv (decide (a2≤a1)))] [] h4 zL) ?_
  exact wG rfl
theorem bytealg_CompareString.ok (a1 a2:ByteArray):Ok Tryd.prog 43 [sv a1,sv a2] [] ((bytealg_CompareString a1 a2).map fun r=>(iv r,[])):=
 zDT (vs:=[.string a1,.string a2]) (fun w=>Tryd.bytealg_CompareString a1 a2 w)
noncomputable def c29:Code:=(Tryd.f29.body).getD .skip
theorem strings_Compare.ok (a1:ByteArray) (a2:ByteArray):Ok Tryd.prog 29 [sv a1,sv a2] [] ((strings_Compare a1 a2).map fun r=>(iv r,[])):=by
 refine yL c29 Tryd.f29 0 8 (fun q=>?_)
 unfold strings_Compare
 refine J_d 2 [] [] [] [] [] zL ?_
 refine zJ (fun x3 h4=>?_)
 refine J_g 6 [] [(4,iv x3)] [] (xD 2 (jJ [(.tmp 5),(.tmp 6)] [9,9] (bytealg_CompareString.ok a1 a2) h4) zL) ?_
 exact wG rfl
noncomputable def c28:Code:=(Tryd.f28.body).getD .skip
theorem zU.ok (a1:File) (a2:ByteArray):Ok Tryd.prog 28 [.ag (File.enc false a1),sv a2] [] ((zU a1 a2).map fun r=>(iv r,[])):=by
 refine yL c28 Tryd.f28 0 9 (fun q=>?_)
 unfold zU
 refine J_g 2 [(0,0)] [(1,sv a2),(2,pp 0)] [(0,.box (File.enc false a1))] zL ?_
 refine zJ (fun x3 h4=>?_)
 refine J_g 6 [] [(4,iv x3)] [] (xD 3 (jJ [(.tmp 6),(.tmp 7)] [9,9] (strings_Compare.ok a1.Path a2) h4) zL) ?_
 exact wG rfl
noncomputable def c27:Code:=(Tryd.f27.body).getD .skip
theorem zD.ok (a1:(List File)) (a2:ByteArray) (q:Wd) (kn:Int→Option (D×List Ent)) (hk:∀v:Int,J (q.g Tryd.prog 27 0 49) c27 (atI c27 31) (St.mk' [(0,sl 2 (File.enc false) a1),(1,sv a2),(2,.fn 28 []),(8,iv (a1.length:Int)),(9,iv v)] []) (some v) kn):
  ∀s9:(Int×Int),J (q.g Tryd.prog 27 0 49) c27 (atI c27 120) (St.mk' [(0,sl 2 (File.enc false) a1),(1,sv a2),(2,.fn 28 []),(8,iv (a1.length:Int)),(9,iv s9.1),(10,iv s9.2)] []) (zD a1 a2 s9) kn:=by
 refine zC2 (fun g ih s9=>?_)
 unfold zI
 refine J_d 480 [] [17] [(17,bv (decide (s9.1<s9.2)))] [] [] zL ?_
 refine yT 17 (fun h10=>?_) (fun h10=>?_)
 ·refine J_d 964 [] [11,17] [(11,iv (w64 ((IntKind.u64.wrap (w64 (s9.1+s9.2))).fdiv (2^(min (1:Int).toNat 64)))))] [] [] zL ?_
  refine zJ (fun x11 h12=>?_)
  refine zJ (fun x13 h14=>?_)
  refine J_d 1930 [] [31] [(31,bv (decide (x13<0)))] [] [] (xD 3 (zBW (kk:=.i64) 22 33 2 (File.enc false) (.tmp 25) (.tmp 26) h12) (xD 6 (zDE («as»:=[.ag (File.enc false x11),sv a2]) (caps:=[]) 24 [(.tmp 28),(.tmp 29)] [33,9] (zU.ok x11 a2) h14) zL)) ?_
  refine yT 31 (fun h15=>?_) (fun h15=>?_)
  ·refine J_d 3862 [] [9,11,31] [(9,iv (w64 ((w64 ((IntKind.u64.wrap (w64 (s9.1+s9.2))).fdiv (2^(min (1:Int).toNat 64))))+1)))] [] [] zL ?_
   exact J_q (J_b (ih (w64 ((w64 ((IntKind.u64.wrap (w64 (s9.1+s9.2))).fdiv (2^(min (1:Int).toNat 64))))+1),s9.2))) rfl
  ·refine J_d 3863 [] [10,11,31] [(10,iv (w64 ((IntKind.u64.wrap (w64 (s9.1+s9.2))).fdiv (2^(min (1:Int).toNat 64)))))] [] [] zL ?_
   exact J_q (J_b (ih (s9.1,w64 ((IntKind.u64.wrap (w64 (s9.1+s9.2))).fdiv (2^(min (1:Int).toNat 64)))))) rfl
 ·exact zBS (hk s9.1) rfl
theorem zC.ok (a1:(List File)) (a2:ByteArray):Ok Tryd.prog 27 [sl 2 (File.enc false) a1,sv a2,.fn 28 []] [] ((zC a1 a2).map fun r=>(.tu [iv r.1,bv r.2],[])):=by
 refine yL c27 Tryd.f27 0 49 (fun q=>?_)
 unfold zC
 refine J_g 2 [] [(0,sl 2 (File.enc false) a1),(1,sv a2),(2,.fn 28 [])] [] zL ?_
 refine J_g 6 [] [(0,sl 2 (File.enc false) a1),(1,sv a2),(2,.fn 28 []),(8,iv (a1.length:Int))] [] zL ?_
 refine J_d 14 [] [9,10] [(9,iv 0),(10,iv (a1.length:Int))] [] [] zL ?_
 refine zDL (zD.ok a1 a2 q _ (fun v16=>J_j ?_) (0,(a1.length:Int)))
 refine zCA (fun h17=>?_) (fun h17=>?_)
 ·refine zJ (fun x18 h19=>?_)
  refine zJ (fun x20 h21=>?_)
  refine J_g 62 [] [(6,iv v16),(7,bv (x20==0))] [] (zDm 4 [(38,bv (decide (v16< (a1.length:Int))))] [] h17 (zEi 8 4 39 true (zBW (kk:=.i64) 22 33 2 (File.enc false) (.tmp 41) (.tmp 42) h19) (zEi 11 4 39 true (zDE («as»:=[.ag (File.enc false x18),sv a2]) (caps:=[]) 40 [(.tmp 44),(.tmp 45)] [33,9] (zU.ok x18 a2) h21) zL))) ?_
  exact zDH rfl
 ·refine J_g 62 [] [(6,iv v16),(7,bv false)] [] (zDm 4 [(38,bv (decide (v16< (a1.length:Int))))] [] h17 zL) ?_
  exact zDH rfl
noncomputable def c19:Code:=(Tryd.f19.body).getD .skip
theorem yV.ok (a1:zF) (a2:ByteArray):Ok Tryd.prog 19 [.ag (zF.enc false a1),sv a2] [] ((yV a1 a2).map fun r=>(.tu [iv r.1,bv r.2],[])):=by
 refine yL c19 Tryd.f19 0 12 (fun q=>?_)
 unfold yV
 refine J_g 2 [(0,0)] [(1,sv a2),(2,pp 0)] [(0,.box (zF.enc false a1))] zL ?_
 refine zJ (fun x3 h4=>?_)
 refine J_g 6 [] [(4,iv x3.1),(5,bv x3.2)] [] (xD 3 (jY («as»:=[sl 2 (File.enc false) a1.Files,sv a2,.fn 28 []]) [(.tmp 7),(.tmp 8),(.func 28)] [22,9,49] false [] [] (.cons (.same rfl) (.cons (.same rfl) (.cons (.fn (.nil)) (.nil)))) (zC.ok a1.Files a2) h4 (.tu (.cons (.same rfl rfl) (.cons (.same rfl rfl) (.nil))))) zL) ?_
 exact zDH rfl
section
open Go.Shelf Go.RowKit Go.Lib
set_option linter.unusedVariables false
set_option linter.unusedSimpArgs false
set_option maxHeartbeats 4000000 in
set_option maxRecDepth 100000 in
theorem zAX (b off n c i vb voff m vc:Nat) (cs vs:List Value) (w:World) (hi:i<n) (hm:0<m) (hroom:n+m≤c) (h63:n+m≤9223372036854775807) (hvb:vb≠b)
  (hcl:cs.length=n*2) (hvl:vs.length=m*2)
  (hcs:∀j v,cs[j]? =some v→w.cell? ⟨b,off+j,none⟩=some v) (hsp:∀j,j< (n+m)*2→(w.cell? ⟨b,off+j,none⟩).isSome =true) (hfz:∀j,j< (n+m)*2→w.frozen? ⟨b,off+j,none⟩=false)
  (hvs:∀j v,vs[j]? =some v→w.cell? ⟨vb,voff+j,none⟩=some v) (h1c:∀v∈cs,v.oneCell'=true) (h1v:∀v∈vs,v.oneCell'=true)
  (tA tB:TypeId) (kA kB:Nat) (hsa:w.shape? vb=some (tA,kA)) (hsb:w.shape? b=some (tB,kB)) (hkB:kB≠0) (hfa:w.frozen? ⟨vb,voff,none⟩=false) (hfe:w.frozen? ⟨vb,kA,none⟩=false):
  Calls Tryd.prog 20 #[.slice (some ⟨b,off,none⟩) n c,.int .i64 i,.slice (some ⟨vb,voff,none⟩) m vc] w fun e w'=>
   e= .returned (.slice (some ⟨b,off,none⟩) (n+m) c)∧w'=(w.drew.setCells b (off+(i+m)*2) (cs.drop (i*2))).setCells b (off+i*2) vs:=by
 have hz1:¬((m:Int)=0):=by omega
 have hz2:¬((i:Int)=(n:Int)):=by omega
 have hsz:(Tryd.prog.info? 33).map (·.size)=some 2:=by kernel_rfl
 have hov:∀lb cb,(callFunc 30 #[.slice (some ⟨vb,voff,none⟩) m vc,.slice (some ⟨b,off+(i+m)*2,none⟩) lb cb]).run Tryd.prog w= .ok (.value (.bool false)) w:=fun lb cb=>by
  rw [run_callFunc_extern Tryd.func30 (by kernel_rfl) (by kernel_rfl) (by kernel_rfl) (e:=Extern.SlicesOverlaps.overlaps #[22,22] #[4]) (by kernel_rfl),
   Lib.run_overlaps_apart w 22 4 33 Tryd.underlying22 2 Tryd.sizeOf33 ⟨vb,voff,none⟩ ⟨b,off+(i+m)*2,none⟩ m vc lb cb hvb tA tB kA kB hsa hsb hkB hfa hfe]
  rfl
 have hdl:(cs.drop (i*2)).length =(n-i)*2:=by rw [List.length_drop,hcl]; omega
 have mixed:Tryd.prog.follows .mixedOrders =true:=by kernel_rfl
 have hw1:IntKind.i64.wrap ((i:Int)+(m:Int))=(i:Int)+(m:Int):=by rw [IntKind.wrap_i64]; omega
 have hb1:(0:Int)≤(i:Int)+(m:Int):=by omega
 have hin:i≤n:=by omega
 have htn:((i:Int)+(m:Int)).toNat =i+m:=by omega
 have hb2:¬(c=i+m):=by omega
 have hb3:(i:Int)≤(n:Int)+(m:Int):=by omega
 have hb4:¬(c=i):=by omega
 have hcp1:∀ty dc sc,(Builtin.copy_ #[22,22] ty #[.slice (some ⟨b,off+(i+m)*2,none⟩) (n+m-(i+m)) dc,.slice (some ⟨b,off+i*2,none⟩) (n+m-i) sc]).run Tryd.prog w.drew= .ok (goInt (Nat.min (n+m-i) (n+m-(i+m)))) (w.drew.setCells b (off+(i+m)*2) (cs.drop (i*2))):=fun ty dc sc=>
  vF w.drew _ _ ty 33 2 b (off+(i+m)*2) (n+m-(i+m)) dc ⟨b,off+i*2,none⟩ (n+m-i) sc (cs.drop (i*2)) Tryd.underlying22 hsz (by rw [hdl]; simp only [Nat.min_def]; split<;>omega)
   (fun j v hj=>by rw [Addr.add_lit,Nat.add_assoc]; exact hcs (i*2+j) v (by rwa [List.getElem?_drop] at hj))
   (fun j hj=>by rw [Nat.add_assoc]; exact hsp _ (by omega)) (fun j hj=>by rw [Nat.add_assoc]; exact hfz _ (by omega)) (fun v hv=>h1c v (List.mem_of_mem_drop hv))
 obtain ⟨W1,hW1⟩:∃W1,W1=w.drew.setCells b (off+(i+m)*2) (cs.drop (i*2)):=⟨_,rfl⟩
 have hsp1:∀k,k< (n+m)*2→(W1.cell? ⟨b,off+k,none⟩).isSome =true:=fun k hk=>by
  rw [hW1]
  exact isSome_setCells b _ _ _ (fun j hj=>by rw [Nat.add_assoc]; exact hsp _ (by omega)) _ (hsp k hk)
 have hcp2:∀(W:World),(∀x,W.cell? x=W1.cell? x)→(∀x,W.frozen? x=W1.frozen? x)→∀ty dc,(Builtin.copy_ #[22,22] ty #[.slice (some ⟨b,off+i*2,none⟩) (n+m-i) dc,.slice (some ⟨vb,voff,none⟩) m vc]).run Tryd.prog W= .ok (goInt (Nat.min m (n+m-i))) (W.setCells b (off+i*2) vs):=fun W hWc hWf ty dc=>
  vF W _ _ ty 33 2 b (off+i*2) (n+m-i) dc ⟨vb,voff,none⟩ m vc vs Tryd.underlying22 hsz (by rw [hvl]; simp only [Nat.min_def]; split<;>omega)
   (fun j v hj=>by
    rw [Addr.add_lit,hWc,hW1,World.cell?_setCells_out b _ _ _ _ (fun h _=>absurd h hvb)]
    exact hvs j v hj)
   (fun j hj=>by rw [hWc,Nat.add_assoc]; exact hsp1 _ (by omega)) (fun j hj=>by rw [hWf,hW1,World.frozen?_setCells,Nat.add_assoc]; exact hfz _ (by omega)) h1v
 rw [←hW1] at hcp1
 clear hsp hfz hcs hvs hsp1 h1c h1v hdl hcl hvl
 go_enter Tryd.func20,Tryd.ntmps20
 go_wp2_with (simp only [hov])
 go_region_law_o (refine step_copy_runI rfl _ _ 22 22 rfl _ _ (by simp [Act.eval,Act.put]) (by simp [Act.eval,Act.put]) (hcp1 _ _ _) ?_)
 go_wp2_with (at_builtin; refine wpList_copy_runI _ rfl _ _ 22 22 rfl _ _ rfl rfl (hcp2 _ (fun _=>rfl) (fun _=>rfl) _ _) ?_)
 go_ret
 first|exact ⟨rfl,rfl⟩|exact ⟨rfl,by rw [hW1]⟩
set_option maxHeartbeats 4000000 in
set_option maxRecDepth 100000 in
theorem zAK (base:Option Addr) (n c vb voff m vc:Nat) (w w1:World) (r:Value) (hm:0<m) (hnc:n≤c) (h63:n+m≤9223372036854775807) (hnil:base=none→n=0∧c=0)
  (hrun:(Builtin.append_ #[22,22] 22 #[.slice base n c,.slice (some ⟨vb,voff,none⟩) m vc]).run Tryd.prog w= .ok r w1):
  Calls Tryd.prog 20 #[.slice base n c,.int .i64 n,.slice (some ⟨vb,voff,none⟩) m vc] w fun e w'=>e= .returned r∧w'=w1:=by
 have hz1:¬((m:Int)=0):=by omega
 have mixed:Tryd.prog.follows .mixedOrders =true:=by kernel_rfl
 go_enter Tryd.func20,Tryd.ntmps20
 cases base with
 |none=>
  obtain ⟨rfl,rfl⟩:=hnil rfl
  go_wp2_with (at_builtin; refine Lib.wpList_append_run _ rfl _ _ _ _ rfl _ _ rfl rfl _ _ hrun ?_)
  go_ret
  exact ⟨rfl,rfl⟩
 |some a=>
  obtain ⟨ab,ao,asp⟩:=a
  go_wp2_with (at_builtin; refine Lib.wpList_append_run _ rfl _ _ _ _ rfl _ _ rfl rfl _ _ hrun ?_)
  all_goals (go_ret; exact ⟨rfl,rfl⟩)
set_option maxHeartbeats 4000000 in
set_option maxRecDepth 100000 in
theorem zB1 (b off n c i vb voff m vc:Nat) (cs vs:List Value) (w:World) (hi:i<n) (hm:0<m) (hnc:n≤c) (hroom:c<n+m) (hbig:(n+m)*40≤140737488355328)
  (hcl:cs.length=n*2) (hvl:vs.length=m*2)
  (hcs:∀j v,cs[j]? =some v→w.cell? ⟨b,off+j,none⟩=some v)
  (hvs:∀j v,vs[j]? =some v→w.cell? ⟨vb,voff+j,none⟩=some v) (h1c:∀v∈cs,v.oneCell'=true) (h1v:∀v∈vs,v.oneCell'=true) (zv:Value) (hzv:Tryd.t33.zero=some zv) (hzs:zv.cells.size=2):
  Calls Tryd.prog 20 #[.slice (some ⟨b,off,none⟩) n c,.int .i64 i,.slice (some ⟨vb,voff,none⟩) m vc] w fun e w'=>
   e= .returned (.slice (some ⟨w.heap.size,0,none⟩) (n+m) (grownCap w (n+m) c 33))∧
   w'=(((w.alloc (.cells ((cs.take (i*2)).toArray ++Builtin.zeroCells zv.cells (n+m-i)++Builtin.zeroCells zv.cells (grownCap w (n+m) c 33-(n+m))) 33)).drew.setCells w.heap.size (i*2) vs).drew).setCells w.heap.size ((i+m)*2) (cs.drop (i*2)):=by
 have mixed:Tryd.prog.follows .mixedOrders =true:=by kernel_rfl
 have hi0:Tryd.prog.info? 33=some Tryd.t33:=by kernel_rfl
 have hzz:Tryd.t33.size=2:=by kernel_rfl
 have hzb:Tryd.t33.bytes=40:=by kernel_rfl
 have hz1:¬((m:Int)=0):=by omega
 have hz2:¬((i:Int)=(n:Int)):=by omega
 have hz3:(c:Int)< (n:Int)+(m:Int):=by omega
 have hsz:(Tryd.prog.info? 33).map (·.size)=some 2:=by kernel_rfl
 have hbw:b<w.heap.size:=block_lt_of_cell (hcs 0 _ (List.getElem?_eq_getElem (by omega)))
 have hvw:vb<w.heap.size:=block_lt_of_cell (hvs 0 _ (List.getElem?_eq_getElem (by omega)))
 have hkk:(n:Int)+(m:Int)-(i:Int)=((n+m-i:Nat):Int):=by omega
 have hik:i+(n+m-i)=n+m:=by omega
 have hold:(Builtin.firstCells Tryd.t33.size i (.slice (some ⟨b,off,none⟩) i c)).run Tryd.prog w.drew= .ok (cs.take (i*2)).toArray w.drew:=by
  rw [hzz]
  exact run_firstCells_some w.drew 2 i ⟨b,off,none⟩ i c (cs.take (i*2)) (by rw [List.length_take]; omega) (fun j v hj=>by
   rw [Addr.add_lit]
   rw [List.getElem?_take] at hj
   split at hj
   ·exact hcs j v hj
   ·cases hj)
 have hrz:∀ty,(Builtin.append_ #[22,3] ty #[.slice (some ⟨b,off,none⟩) i c,.int .i64 ((n:Int)+(m:Int)-(i:Int))]).run Tryd.prog w=
   .ok (.slice (some ⟨w.heap.size,0,none⟩) (n+m) (grownCap w (n+m) c 33)) (w.drew.alloc (.cells ((cs.take (i*2)).toArray ++Builtin.zeroCells zv.cells (n+m-i)++Builtin.zeroCells zv.cells (grownCap w (n+m) c 33-(n+m))) 33)):=fun ty=>by
  have h:=Lib.run_append_grow_zeros w 22 3 ty 33 Tryd.t33 _ .i64 .i64 Tryd.underlying22 Tryd.underlying3 hi0 hzv (some ⟨b,off,none⟩) i c (cs.take (i*2)) hold (n+m-i) (by omega) (by omega) (by omega) (by omega) (by rw [hzb]; omega) (by rw [hzb,hik]; exact growslice_fits hroom hbig)
  rw [hik] at h
  rw [hkk]
  exact h
 obtain ⟨G,hG⟩:∃G,G=grownCap w (n+m) c 33:=⟨_,rfl⟩
 obtain ⟨ROW,hROW⟩:∃ROW:Array Value,ROW=(cs.take (i*2)).toArray ++Builtin.zeroCells zv.cells (n+m-i)++Builtin.zeroCells zv.cells (G-(n+m)):=⟨_,rfl⟩
 rw [←hG] at hrz ⊢
 rw [←hROW] at hrz ⊢
 have hRl:(n+m)*2≤ROW.size:=by
  rw [hROW]
  simp [Builtin.zeroCells,hzs]
  omega
 obtain ⟨W1,hW1⟩:∃W1,W1=w.drew.alloc (.cells ROW 33):=⟨_,rfl⟩
 rw [←hW1] at hrz
 have hN:∀j,j< (n+m)*2→(W1.cell? ⟨w.heap.size,j,none⟩).isSome =true:=fun j hj=>by
  rw [hW1,World.cell?_alloc_at (w:=w.drew) ROW _ w.heap.size j rfl,Array.getElem?_eq_getElem (by omega)]; rfl
 have hNf:∀j,W1.frozen? ⟨w.heap.size,j,none⟩=false:=fun j=>by rw [hW1]; exact World.frozen?_alloc_at (w:=w.drew) ROW _ w.heap.size j rfl
 have hOb:∀j v,w.cell? ⟨b,j,none⟩=some v→W1.cell? ⟨b,j,none⟩=some v:=fun j v h=>by rw [hW1,World.cell?_alloc_past (w:=w.drew) _ b j hbw]; exact h
 have hOv:∀j v,w.cell? ⟨vb,j,none⟩=some v→W1.cell? ⟨vb,j,none⟩=some v:=fun j v h=>by rw [hW1,World.cell?_alloc_past (w:=w.drew) _ vb j hvw]; exact h
 have hcpA:∀(W:World),(∀x,W.cell? x=W1.cell? x)→(∀x,W.frozen? x=W1.frozen? x)→∀ty dc,(Builtin.copy_ #[22,22] ty #[.slice (some ⟨w.heap.size,i*2,none⟩) (n+m-i) dc,.slice (some ⟨vb,voff,none⟩) m vc]).run Tryd.prog W= .ok (goInt (Nat.min m (n+m-i))) (W.setCells w.heap.size (i*2) vs):=fun W hWc hWf ty dc=>
  vF W _ _ ty 33 2 w.heap.size (i*2) (n+m-i) dc ⟨vb,voff,none⟩ m vc vs Tryd.underlying22 hsz (by rw [hvl]; simp only [Nat.min_def]; split<;>omega)
   (fun j v hj=>by rw [Addr.add_lit,hWc]; exact hOv _ v (hvs j v hj))
   (fun j hj=>by rw [hWc]; exact hN _ (by omega)) (fun j hj=>by rw [hWf]; exact hNf _) h1v
 have hGn:n+m≤G:=by rw [hG]; exact grownCap_ge w _ _ _
 have hG63:G≤9223372036854775807:=by
  have:=grownCap_le_maxLen w (n+m) c 33 (by unfold maxLen; omega)
  rw [←hG] at this
  unfold maxLen at this
  omega
 have hGi:¬(G=i):=by omega
 have hGim:¬(G=i+m):=by omega
 have hci:¬(c=i):=by omega
 have hbN:b≠w.heap.size:=by omega
 have hdl:(cs.drop (i*2)).length =(n-i)*2:=by rw [List.length_drop,hcl]; omega
 have hcpB:∀(W:World),(∀x,W.cell? x=(W1.setCells w.heap.size (i*2) vs).cell? x)→(∀x,W.frozen? x=(W1.setCells w.heap.size (i*2) vs).frozen? x)→∀ty dc sc,(Builtin.copy_ #[22,22] ty #[.slice (some ⟨w.heap.size,(i+m)*2,none⟩) (n+m-(i+m)) dc,.slice (some ⟨b,off+i*2,none⟩) (n-i) sc]).run Tryd.prog W= .ok (goInt (Nat.min (n-i) (n+m-(i+m)))) (W.setCells w.heap.size ((i+m)*2) (cs.drop (i*2))):=fun W hWc hWf ty dc sc=>
  vF W _ _ ty 33 2 w.heap.size ((i+m)*2) (n+m-(i+m)) dc ⟨b,off+i*2,none⟩ (n-i) sc (cs.drop (i*2)) Tryd.underlying22 hsz (by rw [hdl]; simp only [Nat.min_def]; split<;>omega)
   (fun j v hj=>by
    rw [Addr.add_lit,hWc,World.cell?_setCells_out _ _ _ _ _ (fun h _=>absurd h hbN),Nat.add_assoc]
    exact hOb _ v (hcs (i*2+j) v (by rwa [List.getElem?_drop] at hj)))
   (fun j hj=>by rw [hWc]; exact isSome_setCells _ _ _ _ (fun t ht=>hN _ (by omega)) _ (hN _ (by omega)))
   (fun j hj=>by rw [hWf,World.frozen?_setCells]; exact hNf _) (fun v hv=>h1c v (List.mem_of_mem_drop hv))
 subst hW1
 have hE1:∀x,((w.alloc (.cells ROW 33)).drew).cell? x=(w.drew.alloc (.cells ROW 33)).cell? x:=fun x=>rfl
 have hE2:∀x,((w.alloc (.cells ROW 33)).drew).frozen? x=(w.drew.alloc (.cells ROW 33)).frozen? x:=fun x=>rfl
 have hF1:∀x,(((w.alloc (.cells ROW 33)).drew.setCells w.heap.size (i*2) vs).drew).cell? x=((w.drew.alloc (.cells ROW 33)).setCells w.heap.size (i*2) vs).cell? x:=fun x=>rfl
 have hF2:∀x,(((w.alloc (.cells ROW 33)).drew.setCells w.heap.size (i*2) vs).drew).frozen? x=((w.drew.alloc (.cells ROW 33)).setCells w.heap.size (i*2) vs).frozen? x:=fun x=>rfl
 have hw1:IntKind.i64.wrap ((i:Int)+(m:Int))=(i:Int)+(m:Int):=by rw [IntKind.wrap_i64]; omega
 have hb1:(0:Int)≤(i:Int)+(m:Int):=by omega
 have hin:i≤n:=by omega
 have htn:((i:Int)+(m:Int)).toNat =i+m:=by omega
 have hb3:(i:Int)≤(n:Int):=by omega
 clear hkk hik hold hROW hG hRl hcs hvs hOb hOv hN hNf h1c h1v hcl hvl hdl hzv hzs
 go_enter Tryd.func20,Tryd.ntmps20
 go_wp2_with (first
  |(at_builtin; refine Lib.wpList_append_run _ rfl _ _ _ _ rfl _ _ rfl rfl _ _ (hrz _) ?_)
  |(at_builtin; refine wpList_copy_runI _ rfl _ _ 22 22 rfl _ _ rfl rfl (hcpA _ hE1 hE2 _ _) ?_)
  |(at_builtin; refine wpList_copy_runI _ rfl _ _ 22 22 rfl _ _ rfl rfl (hcpB _ (fun _=>rfl) (fun _=>rfl) _ _ _) ?_))
 go_region_law_o (refine step_copy_runI rfl _ _ 22 22 rfl (.slice (some ⟨w.heap.size,(i+m)*2,none⟩) (n+m-(i+m)) (G-(i+m))) (.slice (some ⟨b,off+i*2,none⟩) (n-i) (c-i)) (by simp [Act.eval,Act.put]) (by simp [Act.eval,Act.put]) (hcpB _ hF1 hF2 3 (G-(i+m)) (c-i)) ?_)
 go_wp2
 go_ret
 exact ⟨rfl,rfl⟩
theorem zBX (n m:Nat) (i:Int) (h0:0≤i) (h1:i≤n) (hm:0<m) (hbig:n+m≤1099511627776) (w:World) (v u:Value) (wx wy:List Value) (bx bz:List Nat) (hD1:Dst w 2 n v wx bx) (hD2:Dst w 2 m u wy bz) (hd:∀b∈bx,b∉bz) (q1:∀q∈wx,Value.oneCell q=true) (q2:∀q∈wy,Value.oneCell q=true):
  Calls Tryd.prog 20 #[v,.int .i64 i,u] w fun e w'=>∃r,e= .returned r∧zBr w w' 2 (n+m) 0 (wx.take (i.toNat*2)++(wy++wx.drop (i.toNat*2))) [] bx r:=by
 obtain ⟨k,rfl⟩:=Int.eq_ofNat_of_zero_le h0
 have hk:k≤n:=by omega
 rw [Int.toNat_natCast]
 have e1:∀q∈wx,q.oneCell'=true:=fun q hq=>by rw [uE]; exact q1 q hq
 have e2:∀q∈wy,q.oneCell'=true:=fun q hq=>by rw [uE]; exact q2 q hq
 rcases hD2 with ⟨_,hm0,_⟩|⟨vb,voff,vc,rfl,rfl,hmc,hO2,hl2⟩
 ·omega
 have hvs:∀j v,wy[j]? =some v→w.cell? ⟨vb,voff+j,none⟩=some v:=fun j v hj=>by
  obtain ⟨hlt,rfl⟩:=List.getElem?_eq_some_iff.1 hj
  exact hO2.has.cell j hlt
 by_cases hkn:k=n
 ·subst hkn
  have hsrc:Go.Src Tryd.prog 2 22 (.slice (some ⟨vb,voff,none⟩) m vc) m wy w:=tF Tryd.underlying22 q2 (.inr ⟨vb,voff,vc,rfl,hO2.has,hl2⟩)
  have hl1:wx.length=k*2:=by
   rcases hD1 with ⟨_,rfl,rfl,_⟩|⟨_,_,_,_,_,_,_,h⟩
   ·rfl
   ·exact h
  obtain ⟨r,w1,hrun,hA⟩:=jO (ty:=22) (T:=22) (U:=22) (bytes:=40) (zv:=zBI Tryd.prog 33) Tryd.underlying22 (by kernel_rfl) (by kernel_rfl) hD1 hsrc (by omega) (by omega)
  have hA':zBr w w1 2 (k+m) 0 (wx.take (k*2)++(wy++wx.drop (k*2))) [] bx r:=by
   rw [List.take_of_length_le (by omega),List.drop_of_length_le (by omega),List.append_nil]
   obtain ⟨g1,g2⟩:=hA
   refine ⟨g1,?_⟩
   rcases g2 with ⟨g2,_⟩|⟨b,off,c,g3,g4,g5,g6⟩
   ·omega
   ·exact .inr ⟨b,off,c,g3,g4,by rw [List.append_nil]; exact g5,g6⟩
  rcases hD1 with ⟨rfl,rfl,rfl,rfl⟩|⟨b,off,c,rfl,rfl,hnc,hO1,_⟩
  ·refine (zAK none 0 0 vb voff m vc w w1 r hm (Nat.le_refl _) (by omega) (fun _=>⟨rfl,rfl⟩) hrun).mono ?_
   rintro e w' ⟨rfl,rfl⟩
   exact ⟨_,rfl,hA'⟩
  ·refine (zAK (some ⟨b,off,none⟩) k c vb voff m vc w w1 r hm hnc (by omega) (fun h=>by cases h) hrun).mono ?_
   rintro e w' ⟨rfl,rfl⟩
   exact ⟨_,rfl,hA'⟩
 ·rcases hD1 with ⟨_,hn0,_⟩|⟨b,off,c,rfl,rfl,hnc,hO1,hl1⟩
  ·omega
  have hvb:vb≠b:=fun e=>hd b (by simp) (by simp [e])
  have hcs:∀j v,wx[j]? =some v→w.cell? ⟨b,off+j,none⟩=some v:=fun j v hj=>by
   obtain ⟨hlt,rfl⟩:=List.getElem?_eq_some_iff.1 hj
   exact hO1.has.cell j hlt
  by_cases hroom:n+m≤c
  ·obtain ⟨arr,e,lo,hi,g1,g2,g3,g4⟩:=id hO1
   obtain ⟨arr2,e',lo2,hi2,p1,p2,p3,p4⟩:=hO2
   refine (zAX b off n c k vb voff m vc wx wy w (by omega) hm hroom (by omega) hvb hl1 hl2 hcs (fun j hj=>?_) (fun j hj=>uH g1 g2 (by omega)) hvs e1 e2 e' e arr2.size arr.size (by simp [World.shape?,p1]) (by simp [World.shape?,g1]) (by omega) (uH p1 p2 (by omega)) (uH p1 p2 (Nat.le_refl _))).mono ?_
   ·rw [cell_of g1,Array.getElem?_eq_getElem (by omega)]; rfl
   ·rintro e' w' ⟨rfl,rfl⟩
    refine ⟨_,rfl,?_⟩
    rw [zW,zW]
    exact zBj (w:=w) (w0:=w.drew) ⟨rfl,rfl,rfl⟩ hO1 hl1 hl2 hk hroom
  ·refine (zB1 b off n c k vb voff m vc wx wy w (by omega) hm hnc (by omega) (by omega) hl1 hl2 hcs hvs e1 e2 (zBI Tryd.prog 33) (by kernel_rfl) (by kernel_rfl)).mono ?_
   rintro e' w' ⟨rfl,rfl⟩
   refine ⟨_,rfl,?_⟩
   have hge:=grownCap_ge w (n+m) c 33
   have hz2:(zBI Tryd.prog 33).cells.size =2:=by kernel_rfl
   rw [←drew_setCells,zW,zW]
   refine zBr.world (zBL (w:=w) (w0:=(w.alloc (.cells ((wx.take (k*2)).toArray ++Builtin.zeroCells (zBI Tryd.prog 33).cells (n+m-k)++Builtin.zeroCells (zBI Tryd.prog 33).cells (grownCap w (n+m) c 33-(n+m))) 33)).drew) (c:=grownCap w (n+m) c 33) (z:=2) (blk:=[b]) ⟨rfl,rfl,rfl⟩ (fun q hq=>?_) ?_ hl1 hl2 hk hge) (by omega) rfl ⟨rfl,rfl⟩
   ·rw [Array.append_assoc,Array.getElem?_append_left (by simp; omega)]
    simp [List.getElem?_take,hq]
   ·simp [Builtin.zeroCells,hz2]
    omega
theorem yC.ok (a1:List File) (a2:Int) (a3:List File):Ok Tryd.prog 20 [rr 0 a1,iv a2,rr 1 a3] [rE 2 (File.enc true) a1,rE 2 (File.enc true) a3] ((yC a1 a2 a3).map fun r=>(so 2 (File.enc true) r,[])):=by
 unfold yC
 split
 ·rename_i h
  obtain ⟨h0,h1,h2,h3⟩:=h
  exact zB8 (fun _=>rfl) h0 h1 (fun w v u wx wy bx bz hD1 hD2 hd _ q1 q2=>zBX a1.length a3.length a2 h0 h1 h2 h3 w v u wx wy bx bz hD1 hD2 hd q1 q2)
 ·exact fun _ h=>by cases h
end
noncomputable def c21:Code:=(Tryd.f21.body).getD .skip
theorem zZ.ok (a1:(List Int)):Ok Tryd.prog 21 [sl 1 eU8 a1] [] ((zZ a1).map fun r=>(so 1 eU8 r,[])):=by
 refine yL c21 Tryd.f21 0 8 (fun q=>?_)
 unfold zZ
 refine J_g 2 [] [(0,sl 1 eU8 a1)] [] zL ?_
 refine J_d 12 [] [4] [(4,.nb a1.length)] [] [] (xD 1 (zCD (xs:=a1) 31 5 31 1 eU8 (.tmp 3)) zL) ?_
 refine zEq 4 rfl (fun h2=>?_) ?_
 ·obtain rfl:a1=[]:=List.eq_nil_of_length_eq_zero h2
  refine zDx (e':=some ([]:List Int)) (by kernel_rfl) ?_
  refine J_g 52 [] [(2,nv)] [] zL ?_
  exact zBq (ds:=[nv]) (ds':=[so 1 eU8 ([]:List Int)]) (.cons (.cell (.nilsl true 1 (.nil))) (.nil) (by decide)) rfl
 ·refine zJ (fun x3 h4=>?_)
  refine J_g 14 [] [(2,rr 1 x3)] [(1,rE 1 eU8 x3)] (xD 0 (zDj 31 5 1 0 eU8 ([]:List Int) [] [] []) (xD 2 (zEd 31 31 5 5 1 1 1 0 eU8 (.tmp 5) (.tmp 6) h4) zL)) ?_
  exact zBq (ds:=[rr 1 x3]) (ds':=[so 1 eU8 x3]) (.cons (.cell (.move (.head _) (List.length_map _) (by decide) (.nil))) (.nil) (by decide)) rfl
noncomputable def c12:Code:=(Tryd.f12.body).getD .skip
theorem zO.ok (a1:zF) (a2:ByteArray) (a3:(List Int)):Ok Tryd.prog 12 [pp 0,sv a2,sl 1 eU8 a3] [.box (zF.enc true a1)] ((zO a1 a2 a3).map fun r=>(.tu [],[.box (zF.enc true r)])):=by
 refine yL c12 Tryd.f12 1 39 (fun q=>?_)
 unfold zO
 refine uR 0 (cs':=[rr 1 a1.Files,iv a1.Budget,iv a1.Writes,iv a1.Stop,bv a1.Down]) (es:=[(1,rE 2 (File.enc true) a1.Files)]) rfl (.cons (.own 1) (.cons (.same rfl rfl) (.cons (.same rfl rfl) (.cons (.same rfl rfl) (.cons (.same rfl rfl) (.nil)))))) rfl (by kernel_rfl) (by kernel_rfl) ?_
 refine zBd [(0,pp 0),(1,sv a2),(2,sl 1 eU8 a3)] [(0,.box [rr 1 a1.Files,iv a1.Budget,iv a1.Writes,iv a1.Stop,bv a1.Down]),(1,rE 2 (File.enc true) a1.Files)] (by kernel_rfl) ?_
 refine zJ (fun x4 h5=>?_)
 refine J_g 2 [] [(0,pp 0),(1,sv a2),(2,sl 1 eU8 a3),(6,iv x4.1),(7,bv x4.2)] [(0,.box [rr 1 a1.Files,iv a1.Budget,iv a1.Writes,iv a1.Stop,bv a1.Down]),(1,rE 2 (File.enc true) a1.Files)] (xD 4 (jY («as»:=[.ag [rr 1 a1.Files,iv a1.Budget,iv a1.Writes,iv a1.Stop,bv a1.Down],sv a2]) [(.tmp 11),(.tmp 12)] [39,9] true [(1,rE 2 (File.enc true) a1.Files)] [] (.cons (.ag (.cons (zCI (.head _) (File.ro true) rfl) (.cons (.same rfl) (.cons (.same rfl) (.cons (.same rfl) (.cons (.same rfl) (.nil))))))) (.cons (.same rfl) (.nil))) (yV.ok a1 a2) h5 (.tu (.cons (.same rfl rfl) (.cons (.same rfl rfl) (.nil)))) (hbor:=fun _=>⟨fhN,(zC8 (flatK xG (flatK xG zB0)))⟩)) zL) ?_
 refine J_d 12 [] [7,17] [(17,bv (!x4.2))] [] [] zL ?_
 refine zDt (atI c12 7) (fun v9:(List File)=>St.mk' [(0,pp 0),(2,sl 1 eU8 a3),(6,iv x4.1)] [(0,.box [rr 3 v9,iv a1.Budget,iv a1.Writes,iv a1.Stop,bv a1.Down]),(3,rE 2 (File.enc true) v9)]) (fun v9=>?_) (fun jv9=>?_)
 ·refine zJ (fun x10 h11=>?_)
  refine zJ (fun x12 h13=>?_)
  refine J_g 7 [] [] [(0,.box [rr 3 v9,iv a1.Budget,iv a1.Writes,iv a1.Stop,bv a1.Down]),(3,rE 2 (File.enc true) (v9.set x4.1.toNat ({Path:=x12.Path,Data:=x10}:File)))] (xD 6 (jY («as»:=[sl 1 eU8 a3]) [(.tmp 35)] [31] false [] [] (.cons (.same rfl) (.nil)) (zZ.ok a3) h11 (.own 4)) (xD 7 (zCH (kk:=.i64) 22 33 2 3 (File.enc true) (.tmp 33) (.tmp 34) h13) (zEa 9 (zDM (b:=({Path:=x12.Path,Data:=x10}:File)) (es':=[so 1 eU8 x10]) (ts:=[4]) 31 2 3 1 (File.enc true) (rr 4 x10) (.tmp 38) (.tmp 36) [(4,rE 1 eU8 x10)] h13 (.move (.head _) (List.length_map _) (by decide) (.nil)) rfl) zL))) ?_
  refine zD9 (σ':=St.mk' [] [(0,.box [rr 3 (v9.set x4.1.toNat ({Path:=x12.Path,Data:=x10}:File)),iv a1.Budget,iv a1.Writes,iv a1.Stop,bv a1.Down]),(3,rE 2 (File.enc true) (v9.set x4.1.toNat ({Path:=x12.Path,Data:=x10}:File)))]) (by simp only [rr,List.length_set]) ?_
  refine zAI 0 (cs':=[so 2 (File.enc true) (v9.set x4.1.toNat ({Path:=x12.Path,Data:=x10}:File)),iv a1.Budget,iv a1.Writes,iv a1.Stop,bv a1.Down]) (ts:=[3]) rfl (.move (.head _) (List.length_map _) (by decide) (.keep rfl (.keep rfl (.keep rfl (.keep rfl (.nil)))))) ?_
  refine zBd [] [(0,.box [so 2 (File.enc true) (v9.set x4.1.toNat ({Path:=x12.Path,Data:=x10}:File)),iv a1.Budget,iv a1.Writes,iv a1.Stop,bv a1.Down])] (by kernel_rfl) ?_
  exact zDH rfl
 ·refine yT 17 (fun h6=>?_) (fun h6=>?_)
  ·refine zJ (fun x7 h8=>?_)
   refine J_d 26 [] [1,17] [] [0,1,3] [(0,.box [rr 3 x7,iv a1.Budget,iv a1.Writes,iv a1.Stop,bv a1.Down]),(3,rE 2 (File.enc true) x7)] (xD 8 (zDQ (ds:=[sv a2,nv]) (ts:=[]) 22 33 2 2 (File.enc true) [({Path:=a2,Data:=([]:List Int)}:File)] [0] [(.tmp 25)] [.ag [sv a2,nv]] [] (.keep rfl (.nilsl true 1 (.nil)))) (xD 9 (jY («as»:=[rr 1 a1.Files,iv x4.1,rr 2 [({Path:=a2,Data:=([]:List Int)}:File)]]) [(.tmp 22),(.tmp 23),(.tmp 26)] [22,3,22] false [(1,rE 2 (File.enc true) a1.Files),(2,rE 2 (File.enc true) [({Path:=a2,Data:=([]:List Int)}:File)])] [1,2] (.cons (.rf rfl) (.cons (.same rfl) (.cons (.rf rfl) (.nil)))) (yC.ok a1.Files x4.1 [({Path:=a2,Data:=([]:List Int)}:File)]) h8 (.own 3)) zL)) ?_
   exact zBS (J_j (jv9 x7)) rfl
  ·refine zEf 1 3 (Nat.le_of_ble_eq_true rfl) (Nat.le_of_ble_eq_true rfl) ?_
   exact zBS (J_j (jv9 a1.Files)) rfl
theorem yD.ok (a1 a2:Int):Ok Tryd.prog 32 [iv a1,iv a2] [] ((yD a1 a2).map fun r=>(sv r,[])):=by
 unfold yD
 split
 ·rename_i h
  obtain ⟨rfl,h0,h1⟩:=h
  exact zDc (vs:=[.int .i64 a1,.int .i64 10]) (fun w hG=>Tryd.strconv_FormatInt_10 a1 h0 h1 w (zCx (g:=1) hG (by kernel_rfl) (by kernel_rfl)))
 ·exact fun _ h=>by cases h
noncomputable def c22:Code:=(Tryd.f22.body).getD .skip
theorem vE.ok (a1:Int):Ok Tryd.prog 22 [iv a1] [] ((vE a1).map fun r=>(sv r,[])):=by
 refine yL c22 Tryd.f22 0 5 (fun q=>?_)
 unfold vE
 refine J_g 2 [] [(0,iv a1)] [] zL ?_
 refine zJ (fun x2 h3=>?_)
 refine J_g 6 [] [(2,sv x2)] [] (xD 1 (jJ [(.tmp 3),(.const (.int .i64 10))] [2,3] (yD.ok a1 10) h3) zL) ?_
 exact wG rfl
theorem strings_Repeat.ok (a1:ByteArray) (a2:Int):Ok Tryd.prog 23 [sv a1,iv a2] [] ((strings_Repeat a1 a2).map fun r=>(sv r,[])):=by
 unfold strings_Repeat
 split
 ·rename_i h
  obtain ⟨h0,h1,h2⟩:=h
  obtain ⟨n,rfl⟩:=Int.eq_ofNat_of_zero_le h0
  exact zBY (vs:=[.string a1,.int .i64 n]) (fun w=>Tryd.strings_Repeat a1 n w (by omega) h2)
 ·exact fun _ h=>by cases h
noncomputable def c13:Code:=(Tryd.f13.body).getD .skip
theorem xM.ok (a1:Int):Ok Tryd.prog 13 [iv a1] [] ((xM a1).map fun r=>(sv r,[])):=by
 refine yL c13 Tryd.f13 0 13 (fun q=>?_)
 unfold xM
 refine J_g 2 [] [(0,iv a1)] [] zL ?_
 refine zJ (fun x2 h3=>?_)
 refine J_g 6 [] [(3,sv x2)] [] (xD 1 (jJ [(.tmp 4)] [2] (vE.ok a1) h3) zL) ?_
 refine zJ (fun x4 h5=>?_)
 refine zJ (fun x6 h7=>?_)
 refine zJ (fun x8 h9=>?_)
 refine J_g 14 [] [(2,sv x8)] [] (xD 3 (jJ [(.const (.string (bs [48]))),(.tmp 8)] [9,3] (strings_Repeat.ok (bs [48]) (w64 (6-(x2.size:Int)))) h5) (xD 4 (zBe 9 9 (.const (.string (bs [103,101,110,47]))) (.tmp 9) h7) (xD 6 (zBe 9 9 (.tmp 10) (.tmp 11) h9) zL))) ?_
 exact wG rfl
noncomputable def c5:Code:=(Tryd.f5.body).getD .skip
theorem zV.ok (a1:Int):Ok Tryd.prog 5 [iv a1] [] ((zV a1).map fun r=>(.ag (zB.enc true r),[])):=by
 refine yL c5 Tryd.f5 0 23 (fun q=>?_)
 unfold zV
 refine J_g 2 [(0,0)] [(0,iv a1),(2,pp 0)] [(0,.box [iv 0,nv,iv 0,iv 0,iv 0,bv false])] zL ?_
 refine zJ (fun x2 h3=>?_)
 refine J_d 24 [] [4] [(4,bv (!x2))] [] [] (xD 1 (jJ [(.tmp 5),(.const (.int .i64 0)),(.const (.int .i64 20000))] [2,2,2] (xY.ok a1 0 20000) h3) zL) ?_
 refine yT 4 (fun h4=>?_) (fun h4=>?_)
 ·refine J_g 100 [] [(2,pp 0)] [(0,.box [iv 3,nv,iv 0,iv 0,iv 0,bv false])] zL ?_
  exact zBq (ds:=[.ag [iv 3,nv,iv 0,iv 0,iv 0,bv false]]) (ds':=[.ag [iv 3,so 2 (File.enc true) ([]:List File),iv 0,iv 0,iv 0,bv false]]) (.cons (.ag (.keep rfl (.nilsl true 2 (.keep rfl (.keep rfl (.keep rfl (.keep rfl (.nil)))))))) (.nil) (by decide)) rfl
 ·refine J_d 102 [] [4,9] [(9,bv (a1==0))] [] [] zL ?_
  refine yT 9 (fun h5=>?_) (fun h5=>?_)
  ·refine J_g 412 [] [(2,pp 0)] [(0,.box [iv 8,nv,iv 0,iv 0,iv 0,bv false])] zL ?_
   exact zBq (ds:=[.ag [iv 8,nv,iv 0,iv 0,iv 0,bv false]]) (ds':=[.ag [iv 8,so 2 (File.enc true) ([]:List File),iv 0,iv 0,iv 0,bv false]]) (.cons (.ag (.keep rfl (.nilsl true 2 (.keep rfl (.keep rfl (.keep rfl (.keep rfl (.nil)))))))) (.nil) (by decide)) rfl
  ·refine J_g 14 [(2,1)] [(2,pp 0),(3,pp 1)] [(0,.box [iv 0,nv,iv 0,iv 0,iv 0,bv false]),(1,.box [nv,iv a1,iv 0,iv (-1),bv false])] zL ?_
   refine zAI 1 (cs':=[so 2 (File.enc true) ([]:List File),iv a1,iv 0,iv (-1),bv false]) (ts:=[]) rfl (.nilsl true 2 (.keep rfl (.keep rfl (.keep rfl (.keep rfl (.nil)))))) ?_
   refine zBd [(2,pp 0),(3,pp 1)] [(0,.box [iv 0,nv,iv 0,iv 0,iv 0,bv false]),(1,.box [so 2 (File.enc true) ([]:List File),iv a1,iv 0,iv (-1),bv false])] (by kernel_rfl) ?_
   refine zJ (fun x6 h7=>?_)
   refine J_g 30 [] [(2,pp 0),(3,pp 1)] [(0,.box [iv 0,nv,iv 0,iv 0,iv 0,bv false]),(1,.box (zF.enc true x6))] (xD 0 (zDj 31 5 1 2 eU8 [49] [0] [(.const (.int .u8 49))] [uv 49]) (xD 1 (zDr (xs:=[49]) 31 5 2 (.tmp 15)) (xD 2 (jY («as»:=[pp 1,sv (bs [99,117,114]),sl 1 eU8 [49]]) [(.tmp 3),(.const (.string (bs [99,117,114]))),(.tmp 16)] [24,9,31] false [(1,.box [so 2 (File.enc true) ([]:List File),iv a1,iv 0,iv (-1),bv false])] [1] (.cons (.pt rfl) (.cons (.same rfl) (.cons (.same rfl) (.nil)))) (zO.ok ({Files:=([]:List File),Budget:=a1,Writes:=0,Stop:=(-1),Down:=false}:zF) (bs [99,117,114]) [49]) h7 (.tu (.nil))) zL))) ?_
   refine uR 1 (cs':=[rr 2 x6.Files,iv x6.Budget,iv x6.Writes,iv x6.Stop,bv x6.Down]) (es:=[(2,rE 2 (File.enc true) x6.Files)]) rfl (.cons (.own 2) (.cons (.same rfl rfl) (.cons (.same rfl rfl) (.cons (.same rfl rfl) (.cons (.same rfl rfl) (.nil)))))) rfl (by kernel_rfl) (by kernel_rfl) ?_
   refine zBd [(2,pp 0),(3,pp 1)] [(0,.box [iv 0,nv,iv 0,iv 0,iv 0,bv false]),(1,.box [rr 2 x6.Files,iv x6.Budget,iv x6.Writes,iv x6.Stop,bv x6.Down]),(2,rE 2 (File.enc true) x6.Files)] (by kernel_rfl) ?_
   refine zJ (fun x8 h9=>?_)
   refine zAI 1 (cs':=[so 2 (File.enc true) x6.Files,iv x6.Budget,iv x6.Writes,iv x6.Stop,bv x6.Down]) (ts:=[2]) rfl (.move (.tail _ (.head _)) (List.length_map _) (by decide) (.keep rfl (.keep rfl (.keep rfl (.keep rfl (.nil)))))) ?_
   refine zBd [(2,pp 0),(3,pp 1)] [(0,.box [iv 0,nv,iv 0,iv 0,iv 0,bv false]),(1,.box (zF.enc true x6))] (by kernel_rfl) ?_
   refine zJ (fun x10 h11=>?_)
   refine J_g 62 [] [(2,pp 0),(3,pp 1)] [(0,.box [iv 0,nv,iv 0,iv 0,iv 0,bv false]),(1,.box (zF.enc true x10))] (xD 0 (jJ [(.const (.int .i64 1))] [2] (xM.ok 1) h9) (xD 1 (jY («as»:=[pp 1,sv x8,nv]) [(.tmp 3),(.tmp 18),(.const (.slice none 0 0))] [24,9,31] false [(1,.box (zF.enc true x6))] [1] (.cons (.pt rfl) (.cons (.same rfl) (.cons (.nil false 1) (.nil)))) (zO.ok x6 x8 ([]:List Int)) h11 (.tu (.nil))) zL)) ?_
   refine uR 1 (cs':=[rr 2 x10.Files,iv x10.Budget,iv x10.Writes,iv x10.Stop,bv x10.Down]) (es:=[(2,rE 2 (File.enc true) x10.Files)]) rfl (.cons (.own 2) (.cons (.same rfl rfl) (.cons (.same rfl rfl) (.cons (.same rfl rfl) (.cons (.same rfl rfl) (.nil)))))) rfl (by kernel_rfl) (by kernel_rfl) ?_
   refine zBd [(2,pp 0),(3,pp 1)] [(0,.box [iv 0,nv,iv 0,iv 0,iv 0,bv false]),(1,.box [rr 2 x10.Files,iv x10.Budget,iv x10.Writes,iv x10.Stop,bv x10.Down]),(2,rE 2 (File.enc true) x10.Files)] (by kernel_rfl) ?_
   refine zAI 1 (cs':=[so 2 (File.enc true) x10.Files,iv x10.Budget,iv x10.Writes,iv x10.Stop,bv x10.Down]) (ts:=[2]) rfl (.move (.tail _ (.head _)) (List.length_map _) (by decide) (.keep rfl (.keep rfl (.keep rfl (.keep rfl (.nil)))))) ?_
   refine zBd [(2,pp 0),(3,pp 1)] [(0,.box [iv 0,nv,iv 0,iv 0,iv 0,bv false]),(1,.box (zF.enc true x10))] (by kernel_rfl) ?_
   refine zJ (fun x12 h13=>?_)
   refine J_g 126 [] [(2,pp 0),(3,pp 1)] [(0,.box [iv 0,nv,iv 0,iv 0,iv 0,bv false]),(1,.box (zF.enc true x12))] (xD 0 (jY («as»:=[pp 1,sv (bs [114,111,111,116,115]),nv]) [(.tmp 3),(.const (.string (bs [114,111,111,116,115]))),(.const (.slice none 0 0))] [24,9,31] false [(1,.box (zF.enc true x10))] [1] (.cons (.pt rfl) (.cons (.same rfl) (.cons (.nil false 1) (.nil)))) (zO.ok x10 (bs [114,111,111,116,115]) ([]:List Int)) h13 (.tu (.nil))) zL) ?_
   refine uR 1 (cs':=[rr 2 x12.Files,iv x12.Budget,iv x12.Writes,iv x12.Stop,bv x12.Down]) (es:=[(2,rE 2 (File.enc true) x12.Files)]) rfl (.cons (.own 2) (.cons (.same rfl rfl) (.cons (.same rfl rfl) (.cons (.same rfl rfl) (.cons (.same rfl rfl) (.nil)))))) rfl (by kernel_rfl) (by kernel_rfl) ?_
   refine zBd [(2,pp 0),(3,pp 1)] [(0,.box [iv 0,nv,iv 0,iv 0,iv 0,bv false]),(1,.box [rr 2 x12.Files,iv x12.Budget,iv x12.Writes,iv x12.Stop,bv x12.Down]),(2,rE 2 (File.enc true) x12.Files)] (by kernel_rfl) ?_
   refine J_g 254 [] [(2,pp 0)] [(0,.box [iv 0,rr 2 x12.Files,iv x12.Budget,iv x12.Writes,iv x12.Stop,bv x12.Down]),(2,rE 2 (File.enc true) x12.Files)] zL ?_
   exact zBq (ds:=[.ag [iv 0,rr 2 x12.Files,iv x12.Budget,iv x12.Writes,iv x12.Stop,bv x12.Down]]) (ds':=[.ag [iv 0,so 2 (File.enc true) x12.Files,iv x12.Budget,iv x12.Writes,iv x12.Stop,bv x12.Down]]) (.cons (.ag (.keep rfl (.move (.tail _ (.head _)) (List.length_map _) (by decide) (.keep rfl (.keep rfl (.keep rfl (.keep rfl (.nil)))))))) (.nil) (by decide)) rfl
noncomputable def c51:Code:=(Tryd.f51.body).getD .skip
theorem xE.ok (a1:(List Int)) (a2:(List Int)) (q:Wd) (kn:Unit→Option (D×List Ent)) (hk:∀v:Unit,J (q.g Tryd.prog 51 0 26) c51 (atI c51 15) (St.mk' [] []) (some v) kn):
  ∀s10:Int,J (q.g Tryd.prog 51 0 26) c51 (atI c51 116) (St.mk' [(0,sl 1 eU8 a1),(1,sl 1 eU8 a2),(5,iv s10)] []) (xE a1 a2 s10) (Fl.go (fun r:Bool=>some (bv r,[])) kn):=by
 refine zC2 (fun g ih s10=>?_)
 unfold xW
 refine J_d 464 [] [14] [(14,bv (decide (s10< (a1.length:Int))))] [] [] zL ?_
 refine yT 14 (fun h11=>?_) (fun h11=>?_)
 ·refine zJ (fun x12 h13=>?_)
  refine zJ (fun x14 h15=>?_)
  refine J_d 1864 [] [14,25] [(25,bv (x12 !=x14))] [] [] (xD 2 (zBW (kk:=.i64) 31 5 1 eU8 (.tmp 17) (.tmp 18) h13) (xD 6 (zBW (kk:=.i64) 31 5 1 eU8 (.tmp 21) (.tmp 22) h15) zL)) ?_
  refine yT 25 (fun h16=>?_) (fun h16=>?_)
  ·refine J_g 7460 [] [(4,bv false)] [] zL ?_
   exact wG rfl
  ·refine J_d 467 [] [5,25] [(5,iv (w64 (s10+1)))] [] [] zL ?_
   exact J_q (J_b (ih (w64 (s10+1)))) rfl
 ·exact zBS (hk ()) rfl
theorem xI.ok (a1:(List Int)) (a2:(List Int)):Ok Tryd.prog 51 [sl 1 eU8 a1,sl 1 eU8 a2] [] ((xI a1 a2).map fun r=>(bv r,[])):=by
 refine yL c51 Tryd.f51 0 26 (fun q=>?_)
 unfold xI
 refine J_g 2 [] [(0,sl 1 eU8 a1),(1,sl 1 eU8 a2)] [] zL ?_
 refine J_d 12 [] [10] [(10,bv ((a1.length:Int) !=(a2.length:Int)))] [] [] zL ?_
 refine yT 10 (fun h3=>?_) (fun h3=>?_)
 ·refine J_g 52 [] [(4,bv false)] [] zL ?_
  exact wG rfl
 ·refine J_d 28 [] [5,10] [(5,iv 0)] [] [] zL ?_
  refine zCh (K0:=(fun r:Bool=>some (bv r,[]))) (fun _=>rfl) (xE.ok a1 a2 q _ (fun v17=>J_j ?_) 0)
  refine J_g 30 [] [(4,bv true)] [] zL ?_
  exact wG rfl
noncomputable def c39:Code:=(Tryd.f39.body).getD .skip
theorem xZ.ok (a1:File) (a2:File):Ok Tryd.prog 39 [.ag (File.enc false a1),.ag (File.enc false a2)] [] ((xZ a1 a2).map fun r=>(bv r,[])):=by
 refine yL c39 Tryd.f39 0 16 (fun q=>?_)
 unfold xZ
 refine J_g 2 [(0,0),(1,1)] [(2,pp 0),(3,pp 1)] [(0,.box (File.enc false a1)),(1,.box (File.enc false a2))] zL ?_
 refine J_d 12 [] [9] [(9,bv (!(seq a1.Path a2.Path)))] [] [] zL ?_
 refine yT 9 (fun h3=>?_) (fun h3=>?_)
 ·refine J_g 52 [] [(4,bv false)] [] zL ?_
  exact wG rfl
 ·refine zJ (fun x4 h5=>?_)
  refine J_g 28 [] [(15,bv (!x4))] [] (xD 4 (jJ [(.tmp 11),(.tmp 13)] [31,31] (xI.ok a1.Data a2.Data) h5) zL) ?_
  refine yT 15 (fun h6=>?_) (fun h6=>?_)
  ·refine J_g 116 [] [(4,bv false)] [] zL ?_
   exact wG rfl
  ·refine J_g 30 [] [(4,bv true)] [] zL ?_
   exact wG rfl
noncomputable def c24:Code:=(Tryd.f24.body).getD .skip
theorem xK.ok (a1:(List File)) (a2:(List File)) (q:Wd) (kn:Unit→Option (D×List Ent)) (hk:∀v:Unit,J (q.g Tryd.prog 24 0 27) c24 (atI c24 15) (St.mk' [] []) (some v) kn):
  ∀s12:Int,J (q.g Tryd.prog 24 0 27) c24 (atI c24 116) (St.mk' [(0,sl 2 (File.enc false) a1),(1,sl 2 (File.enc false) a2),(5,iv s12)] []) (xK a1 a2 s12) (Fl.go (fun r:Bool=>some (bv r,[])) kn):=by
 refine zC2 (fun g ih s12=>?_)
 unfold xV
 refine J_d 464 [] [14] [(14,bv (decide (s12< (a1.length:Int))))] [] [] zL ?_
 refine yT 14 (fun h13=>?_) (fun h13=>?_)
 ·refine zJ (fun x14 h15=>?_)
  refine zJ (fun x16 h17=>?_)
  refine zJ (fun x18 h19=>?_)
  refine J_d 1864 [] [14,26] [(26,bv (!x18))] [] [] (xD 2 (zBW (kk:=.i64) 22 33 2 (File.enc false) (.tmp 17) (.tmp 18) h15) (xD 6 (zBW (kk:=.i64) 22 33 2 (File.enc false) (.tmp 21) (.tmp 22) h17) (xD 8 (jJ [(.tmp 20),(.tmp 24)] [33,33] (xZ.ok x14 x16) h19) zL))) ?_
  refine yT 26 (fun h20=>?_) (fun h20=>?_)
  ·refine J_g 7460 [] [(4,bv false)] [] zL ?_
   exact wG rfl
  ·refine J_d 467 [] [5,26] [(5,iv (w64 (s12+1)))] [] [] zL ?_
   exact J_q (J_b (ih (w64 (s12+1)))) rfl
 ·exact zBS (hk ()) rfl
theorem xH.ok (a1:(List File)) (a2:(List File)):Ok Tryd.prog 24 [sl 2 (File.enc false) a1,sl 2 (File.enc false) a2] [] ((xH a1 a2).map fun r=>(bv r,[])):=by
 refine yL c24 Tryd.f24 0 27 (fun q=>?_)
 unfold xH
 refine J_g 2 [] [(0,sl 2 (File.enc false) a1),(1,sl 2 (File.enc false) a2)] [] zL ?_
 refine J_d 12 [] [10] [(10,bv ((a1.length:Int) !=(a2.length:Int)))] [] [] zL ?_
 refine yT 10 (fun h3=>?_) (fun h3=>?_)
 ·refine J_g 52 [] [(4,bv false)] [] zL ?_
  exact wG rfl
 ·refine J_d 28 [] [5,10] [(5,iv 0)] [] [] zL ?_
  refine zCh (K0:=(fun r:Bool=>some (bv r,[]))) (fun _=>rfl) (xK.ok a1 a2 q _ (fun v21=>J_j ?_) 0)
  refine J_g 30 [] [(4,bv true)] [] zL ?_
  exact wG rfl
noncomputable def c14:Code:=(Tryd.f14.body).getD .skip
theorem xX.ok (a1:zF) (a2:zF):Ok Tryd.prog 14 [.ag (zF.enc false a1),.ag (zF.enc false a2)] [] ((xX a1 a2).map fun r=>(bv r,[])):=by
 refine yL c14 Tryd.f14 0 31 (fun q=>?_)
 unfold xX
 refine J_g 2 [(0,0),(1,1)] [(2,pp 0),(3,pp 1)] [(0,.box (zF.enc false a1)),(1,.box (zF.enc false a2))] zL ?_
 refine zJ (fun x3 h4=>?_)
 refine J_d 12 [] [10] [(10,bv (!x3))] [] [] (xD 4 (jJ [(.tmp 6),(.tmp 8)] [22,22] (xH.ok a1.Files a2.Files) h4) zL) ?_
 refine yT 10 (fun h5=>?_) (fun h5=>?_)
 ·refine J_g 52 [] [(4,bv false)] [] zL ?_
  exact wG rfl
 ·refine J_d 28 [] [10,15] [(15,bv (a1.Budget !=a2.Budget))] [] [] zL ?_
  refine yT 15 (fun h6=>?_) (fun h6=>?_)
  ·refine J_g 116 [] [(4,bv false)] [] zL ?_
   exact wG rfl
  ·refine J_d 60 [] [15,20] [(20,bv (a1.Writes !=a2.Writes))] [] [] zL ?_
   refine yT 20 (fun h7=>?_) (fun h7=>?_)
   ·refine J_g 244 [] [(4,bv false)] [] zL ?_
    exact wG rfl
   ·refine J_d 124 [] [20,25] [(25,bv (a1.Stop !=a2.Stop))] [] [] zL ?_
    refine yT 25 (fun h8=>?_) (fun h8=>?_)
    ·refine J_g 500 [] [(4,bv false)] [] zL ?_
     exact wG rfl
    ·refine J_g 252 [] [(30,bv (!(a1.Down==a2.Down)))] [] zL ?_
     refine yT 30 (fun h9=>?_) (fun h9=>?_)
     ·refine J_g 1012 [] [(4,bv false)] [] zL ?_
      exact wG rfl
     ·refine J_g 254 [] [(4,bv true)] [] zL ?_
      exact wG rfl
noncomputable def c6:Code:=(Tryd.f6.body).getD .skip
theorem zQ.ok (a1:zB) (a2:zB):Ok Tryd.prog 6 [.ag (zB.enc false a1),.ag (zB.enc false a2)] [] ((zQ a1 a2).map fun r=>(bv r,[])):=by
 refine yL c6 Tryd.f6 0 16 (fun q=>?_)
 unfold zQ
 refine J_g 2 [(0,0),(1,1)] [(2,pp 0),(3,pp 1)] [(0,.box (zB.enc false a1)),(1,.box (zB.enc false a2))] zL ?_
 refine J_d 12 [] [9] [(9,bv (a1.Code !=a2.Code))] [] [] zL ?_
 refine yT 9 (fun h3=>?_) (fun h3=>?_)
 ·refine J_g 52 [] [(4,bv false)] [] zL ?_
  exact wG rfl
 ·refine zJ (fun x4 h5=>?_)
  refine J_g 28 [] [(15,bv (!x4))] [] (xD 4 (jJ [(.tmp 11),(.tmp 13)] [24,24] (xX.ok a1.zF a2.zF) h5) zL) ?_
  refine yT 15 (fun h6=>?_) (fun h6=>?_)
  ·refine J_g 116 [] [(4,bv false)] [] zL ?_
   exact wG rfl
  ·refine J_g 30 [] [(4,bv true)] [] zL ?_
   exact wG rfl
noncomputable def c40:Code:=(Tryd.f40.body).getD .skip
theorem xA.ok (q:Wd) (kn:ByteArray→Option (D×List Ent)) (hk:∀v:ByteArray,J (q.g Tryd.prog 40 0 20) c40 (atI c40 31) (St.mk' [(3,sv v)] []) (some v) kn):
  ∀s6:(Int×ByteArray),J (q.g Tryd.prog 40 0 20) c40 (atI c40 120) (St.mk' [(0,iv s6.1),(3,sv s6.2)] []) (xA s6) kn:=by
 refine zC2 (fun g ih s6=>?_)
 unfold xQ
 refine J_d 480 [] [7] [(7,bv (decide (s6.1>0)))] [] [] zL ?_
 refine yT 7 (fun h7=>?_) (fun h7=>?_)
 ·refine zJ (fun x8 h9=>?_)
  refine J_g 964 [] [(0,iv s6.1),(3,sv x8)] [] (xD 4 (zDj 31 5 1 0 eU8 [IntKind.u8.wrap (w64 (48+(s6.1.tmod 10)))] [0] [(.tmp 11)] [uv (IntKind.u8.wrap (w64 (48+(s6.1.tmod 10))))]) (xD 5 (zBt (xs:=[IntKind.u8.wrap (w64 (48+(s6.1.tmod 10)))]) 31 9 5 0 (.tmp 12)) (xD 7 (zBe 9 9 (.tmp 13) (.tmp 14) h9) zL))) ?_
  refine J_g 965 [] [(0,iv (w64 (s6.1.tdiv 10))),(3,sv x8)] [] zL ?_
  exact J_q (J_b (ih (w64 (s6.1.tdiv 10),x8))) rfl
 ·exact zBS (hk s6.2) rfl
theorem zX.ok (a1:Int):Ok Tryd.prog 40 [iv a1] [] ((zX a1).map fun r=>(sv r,[])):=by
 refine yL c40 Tryd.f40 0 20 (fun q=>?_)
 unfold zX
 refine J_g 2 [] [(0,iv a1)] [] zL ?_
 refine J_g 12 [] [(0,iv a1),(5,bv (decide (a1≤0)))] [] zL ?_
 refine yT 5 (fun h2=>?_) (fun h2=>?_)
 ·refine J_g 52 [] [(2,sv (bs [109,48]))] [] zL ?_
  exact wG rfl
 ·refine J_g 14 [] [(0,iv a1),(3,sv (bs []))] [] zL ?_
  refine zDL (xA.ok q _ (fun v10=>J_j ?_) (a1,bs []))
  refine zJ (fun x11 h12=>?_)
  refine J_g 62 [] [(2,sv x11)] [] (xD 1 (zBe 9 9 (.const (.string (bs [109]))) (.tmp 18) h12) zL) ?_
  exact wG rfl
noncomputable def c41:Code:=(Tryd.f41.body).getD .skip
theorem yM.ok (q:Wd) (kn:((List Int)×Int)→Option (D×List Ent)) (hk:∀v:((List Int)×Int),J (q.g Tryd.prog 41 1 20) c41 (atI c41 7) (St.mk' [(1,iv v.2)] [(0,rE 1 eU8 v.1)]) (some v) kn):
  ∀s6:((List Int)×Int×Int),J (q.g Tryd.prog 41 1 20) c41 (atI c41 52) (St.mk' [(0,rr 0 s6.1),(1,iv s6.2.1),(5,iv s6.2.2)] [(0,rE 1 eU8 s6.1)]) (yM s6) kn:=by
 refine zC2 (fun g ih s6=>?_)
 unfold yK
 refine J_d 208 [] [9] [(9,bv (decide (s6.2.2< (s6.1.length:Int))))] [] [] zL ?_
 refine yT 9 (fun h7=>?_) (fun h7=>?_)
 ·refine zJ (fun x8 h9=>?_)
  refine J_g 840 [] [(0,rr 0 s6.1),(1,iv s6.2.1),(5,iv s6.2.2)] [(0,rE 1 eU8 (s6.1.set s6.2.2.toNat (IntKind.u8.wrap (s6.2.1))))] (xD 4 (zCH (kk:=.i64) 31 5 1 0 eU8 (.tmp 12) (.tmp 13) h9) (zEa 5 (zEg (b:=IntKind.u8.wrap (s6.2.1)) 5 1 0 0 eU8 (uv (IntKind.u8.wrap (s6.2.1))) (.tmp 16) (.tmp 15) h9 rfl) zL)) ?_
  refine zD9 (σ':=St.mk' [(0,rr 0 (s6.1.set s6.2.2.toNat (IntKind.u8.wrap (s6.2.1)))),(1,iv s6.2.1),(5,iv s6.2.2)] [(0,rE 1 eU8 (s6.1.set s6.2.2.toNat (IntKind.u8.wrap (s6.2.1))))]) (by simp only [rr,List.length_set]) ?_
  refine J_g 841 [] [(0,rr 0 (s6.1.set s6.2.2.toNat (IntKind.u8.wrap (s6.2.1)))),(1,iv (w64 (s6.2.1+1))),(5,iv s6.2.2)] [(0,rE 1 eU8 (s6.1.set s6.2.2.toNat (IntKind.u8.wrap (s6.2.1))))] zL ?_
  refine J_d 211 [] [5] [(5,iv (w64 (s6.2.2+1)))] [] [] zL ?_
  exact J_q (J_b (ih (s6.1.set s6.2.2.toNat (IntKind.u8.wrap (s6.2.1)),w64 (s6.2.1+1),w64 (s6.2.2+1)))) rfl
 ·exact zBS (hk (s6.1,s6.2.1)) rfl
theorem yH.ok (a1:(List Int)) (a2:Int):Ok Tryd.prog 41 [rr 0 a1,iv a2] [rE 1 eU8 a1] ((yH a1 a2).map fun r=>(iv r.1,[rE 1 eU8 r.2])):=by
 refine yL c41 Tryd.f41 1 20 (fun q=>?_)
 unfold yH
 refine J_g 2 [] [(0,rr 0 a1),(1,iv a2)] [(0,rE 1 eU8 a1)] zL ?_
 refine J_d 12 [] [5] [(5,iv 0)] [] [] zL ?_
 refine zDL (yM.ok q _ (fun v10=>J_j ?_) (a1,a2,0))
 refine J_g 14 [] [(4,iv v10.2)] [(0,rE 1 eU8 v10.1)] zL ?_
 exact wG rfl
noncomputable def c25:Code:=(Tryd.f25.body).getD .skip
theorem yN.ok (q:Wd) (kn:((List File)×Int)→Option (D×List Ent)) (hk:∀v:((List File)×Int),J (q.g Tryd.prog 25 1 28) c25 (atI c25 7) (St.mk' [(1,iv v.2)] [(0,rE 2 (File.enc true) v.1)]) (some v) kn):
  ∀s14:((List File)×Int×Int),J (q.g Tryd.prog 25 1 28) c25 (atI c25 52) (St.mk' [(0,rr 0 s14.1),(1,iv s14.2.1),(5,iv s14.2.2)] [(0,rE 2 (File.enc true) s14.1)]) (yN s14) kn:=by
 refine zC2 (fun g ih s14=>?_)
 unfold yJ
 refine J_d 208 [] [9] [(9,bv (decide (s14.2.2< (s14.1.length:Int))))] [] [] zL ?_
 refine yT 9 (fun h15=>?_) (fun h15=>?_)
 ·refine zJ (fun x16 h17=>?_)
  refine zJ (fun x18 h19=>?_)
  refine J_g 840 [] [(0,rr 0 s14.1),(1,iv s14.2.1),(5,iv s14.2.2)] [(0,rE 2 (File.enc true) (s14.1.set s14.2.2.toNat ({Path:=x16,Data:=x18.Data}:File)))] (xD 3 (jJ [(.tmp 14)] [3] (zX.ok s14.2.1) h17) (xD 4 (zCH (kk:=.i64) 22 33 2 0 (File.enc true) (.tmp 12) (.tmp 13) h19) (zEa 6 (zEg (b:=({Path:=x16,Data:=x18.Data}:File)) 9 2 0 0 (File.enc true) (sv x16) (.tmp 17) (.tmp 15) h19 rfl) zL))) ?_
  refine zD9 (σ':=St.mk' [(0,rr 0 (s14.1.set s14.2.2.toNat ({Path:=x16,Data:=x18.Data}:File))),(1,iv s14.2.1),(5,iv s14.2.2)] [(0,rE 2 (File.enc true) (s14.1.set s14.2.2.toNat ({Path:=x16,Data:=x18.Data}:File)))]) (by simp only [rr,List.length_set]) ?_
  refine J_d 1682 [] [1] [(1,iv (w64 (s14.2.1+1)))] [] [] zL ?_
  refine zJ (fun x20 h21=>?_)
  refine zCN (ix:=s14.2.2) (enc:=(File.enc true)) 0 1 1 h21 rfl rfl (by kernel_rfl) ?_
  refine zBd [(0,rr 0 (s14.1.set s14.2.2.toNat ({Path:=x16,Data:=x18.Data}:File))),(1,iv (w64 (s14.2.1+1))),(5,iv s14.2.2)] [(0,.lent 2 ((s14.1.set s14.2.2.toNat ({Path:=x16,Data:=x18.Data}:File)).map (File.enc true)) s14.2.2.toNat 1 1 x20.Data.length),(1,rE 1 eU8 x20.Data)] (by kernel_rfl) ?_
  refine zJ (fun x22 h23=>?_)
  refine J_g 1683 [] [(0,rr 0 (s14.1.set s14.2.2.toNat ({Path:=x16,Data:=x18.Data}:File))),(1,iv x22.1),(5,iv s14.2.2)] [(0,.lent 2 ((s14.1.set s14.2.2.toNat ({Path:=x16,Data:=x18.Data}:File)).map (File.enc true)) s14.2.2.toNat 1 1 x20.Data.length),(1,rE 1 eU8 x22.2)] (xD 2 (zDV (kk:=.i64) 22 33 2 0 (File.enc true) (.tmp 20) (.tmp 21) s14.2.2.toNat 1 1 x20.Data.length h21) (xD 4 (zDN 31 0 (.tmp 23) 2 (File.enc true) (s14.1.set s14.2.2.toNat ({Path:=x16,Data:=x18.Data}:File)) s14.2.2.toNat 1 1 x20.Data.length) (xD 6 (jY («as»:=[rr 1 x20.Data,iv (w64 (s14.2.1+1))]) [(.tmp 24),(.tmp 25)] [31,3] false [(1,rE 1 eU8 x20.Data)] [1] (.cons (.rf rfl) (.cons (.same rfl) (.nil))) (yH.ok x20.Data (w64 (s14.2.1+1))) h23 (.same rfl rfl)) zL))) ?_
  refine zJ (fun u24 h25=>?_)
  refine zDf (ix:=s14.2.2) (enc:=(File.enc true)) (b:=({Path:=x20.Path,Data:=x22.2}:File)) 0 1 1 h21 rfl rfl rfl rfl (kS h25) (Nat.le_of_ble_eq_true rfl) ((List.length_map _).trans (kS h25)) ?_
  refine zBd [(0,rr 0 (s14.1.set s14.2.2.toNat ({Path:=x16,Data:=x18.Data}:File))),(1,iv x22.1),(5,iv s14.2.2)] [(0,rE 2 (File.enc true) ((s14.1.set s14.2.2.toNat ({Path:=x16,Data:=x18.Data}:File)).set s14.2.2.toNat ({Path:=x20.Path,Data:=x22.2}:File)))] (by kernel_rfl) ?_
  refine zD9 (σ':=St.mk' [(0,rr 0 ((s14.1.set s14.2.2.toNat ({Path:=x16,Data:=x18.Data}:File)).set s14.2.2.toNat ({Path:=x20.Path,Data:=x22.2}:File))),(1,iv x22.1),(5,iv s14.2.2)] [(0,rE 2 (File.enc true) ((s14.1.set s14.2.2.toNat ({Path:=x16,Data:=x18.Data}:File)).set s14.2.2.toNat ({Path:=x20.Path,Data:=x22.2}:File)))]) (by simp only [rr,List.length_set]) ?_
  refine J_d 211 [] [5] [(5,iv (w64 (s14.2.2+1)))] [] [] zL ?_
  exact J_q (J_b (ih ((s14.1.set s14.2.2.toNat ({Path:=x16,Data:=x18.Data}:File)).set s14.2.2.toNat ({Path:=x20.Path,Data:=x22.2}:File),x22.1,w64 (s14.2.2+1)))) rfl
 ·exact zBS (hk (s14.1,s14.2.1)) rfl
theorem yI.ok (a1:(List File)) (a2:Int):Ok Tryd.prog 25 [rr 0 a1,iv a2] [rE 2 (File.enc true) a1] ((yI a1 a2).map fun r=>(iv r.1,[rE 2 (File.enc true) r.2])):=by
 refine yL c25 Tryd.f25 1 28 (fun q=>?_)
 unfold yI
 refine J_g 2 [] [(0,rr 0 a1),(1,iv a2)] [(0,rE 2 (File.enc true) a1)] zL ?_
 refine J_d 12 [] [5] [(5,iv 0)] [] [] zL ?_
 refine zDL (yN.ok q _ (fun v26=>J_j ?_) (a1,a2,0))
 refine J_d 14 [] [1,4] [(4,iv v26.2)] [] [] zL ?_
 exact wG rfl
noncomputable def c15:Code:=(Tryd.f15.body).getD .skip
theorem yR.ok (a1:zF) (a2:Int):Ok Tryd.prog 15 [.ag [rr 0 a1.Files,iv a1.Budget,iv a1.Writes,iv a1.Stop,bv a1.Down],iv a2] [rE 2 (File.enc true) a1.Files] ((yR a1 a2).map fun r=>(iv r.1,[rE 2 (File.enc true) r.2])):=by
 refine yL c15 Tryd.f15 1 10 (fun q=>?_)
 unfold yR
 refine J_d 2 [(0,1)] [0,2] [(2,pp 1)] [1] [(1,.box [rr 0 a1.Files,iv a1.Budget,iv a1.Writes,iv a1.Stop,bv a1.Down])] zL ?_
 refine zJ (fun x3 h4=>?_)
 refine J_g 6 [] [(1,iv x3.1)] [(0,rE 2 (File.enc true) x3.2)] (xD 3 (jY («as»:=[rr 0 a1.Files,iv a2]) [(.tmp 6),(.tmp 7)] [22,3] false [(0,rE 2 (File.enc true) a1.Files)] [0] (.cons (.rf rfl) (.cons (.same rfl) (.nil))) (yI.ok a1.Files a2) h4 (.same rfl rfl)) zL) ?_
 refine zJ (fun u5 h6=>?_)
 refine J_d 14 [] [1,4] [(4,iv x3.1)] [] [] zL ?_
 exact wG rfl
noncomputable def c7:Code:=(Tryd.f7.body).getD .skip
theorem zS.ok (a1:zB) (a2:Int):Ok Tryd.prog 7 [.ag [iv a1.Code,rr 0 a1.zF.Files,iv a1.zF.Budget,iv a1.zF.Writes,iv a1.zF.Stop,bv a1.zF.Down],iv a2] [rE 2 (File.enc true) a1.zF.Files] ((zS a1 a2).map fun r=>(iv r.1,[rE 2 (File.enc true) r.2])):=by
 refine yL c7 Tryd.f7 1 10 (fun q=>?_)
 unfold zS
 refine J_d 2 [(0,1)] [0,2] [(2,pp 1)] [1] [(1,.box [iv a1.Code,rr 0 a1.zF.Files,iv a1.zF.Budget,iv a1.zF.Writes,iv a1.zF.Stop,bv a1.zF.Down])] zL ?_
 refine zJ (fun x3 h4=>?_)
 refine J_g 6 [] [(1,iv x3.1)] [(0,rE 2 (File.enc true) x3.2)] (xD 3 (jY («as»:=[.ag [rr 0 a1.zF.Files,iv a1.zF.Budget,iv a1.zF.Writes,iv a1.zF.Stop,bv a1.zF.Down],iv a2]) [(.tmp 6),(.tmp 7)] [24,3] false [(0,rE 2 (File.enc true) a1.zF.Files)] [0] (.cons (.ag (.cons (.rf rfl) (.cons (.same rfl) (.cons (.same rfl) (.cons (.same rfl) (.cons (.same rfl) (.nil))))))) (.cons (.same rfl) (.nil))) (yR.ok a1.zF a2) h4 (.same rfl rfl)) zL) ?_
 refine zJ (fun u5 h6=>?_)
 refine J_d 14 [] [1,4] [(4,iv x3.1)] [] [] zL ?_
 exact wG rfl
noncomputable def c42:Code:=(Tryd.f42.body).getD .skip
theorem yX.ok (a1:(List Int)) (q:Wd) (kn:Int→Option (D×List Ent)) (hk:∀v:Int,J (q.g Tryd.prog 42 0 22) c42 (atI c42 7) (St.mk' [(1,iv v)] []) (some v) kn):
  ∀s7:(Int×Int),J (q.g Tryd.prog 42 0 22) c42 (atI c42 52) (St.mk' [(0,sl 1 eU8 a1),(1,iv s7.1),(5,iv s7.2)] []) (yX a1 s7) (Fl.go (fun r:Int=>some (iv r,[])) kn):=by
 refine zC2 (fun g ih s7=>?_)
 unfold yO
 refine J_d 208 [] [9] [(9,bv (decide (s7.2< (a1.length:Int))))] [] [] zL ?_
 refine yT 9 (fun h8=>?_) (fun h8=>?_)
 ·refine zJ (fun x9 h10=>?_)
  refine J_d 1680 [] [9,18] [(18,bv (x9 !=(IntKind.u8.wrap (s7.1))))] [] [] (xD 2 (zBW (kk:=.i64) 31 5 1 eU8 (.tmp 12) (.tmp 13) h10) zL) ?_
  refine yT 18 (fun h11=>?_) (fun h11=>?_)
  ·refine J_g 6724 [] [(4,iv (-1))] [] zL ?_
   exact wG rfl
  ·refine J_g 841 [] [(0,sl 1 eU8 a1),(1,iv (w64 (s7.1+1))),(5,iv s7.2)] [] zL ?_
   refine J_d 211 [] [5] [(5,iv (w64 (s7.2+1)))] [] [] zL ?_
   exact J_q (J_b (ih (w64 (s7.1+1),w64 (s7.2+1)))) rfl
 ·exact zBS (hk s7.1) rfl
theorem yQ.ok (a1:(List Int)) (a2:Int):Ok Tryd.prog 42 [sl 1 eU8 a1,iv a2] [] ((yQ a1 a2).map fun r=>(iv r,[])):=by
 refine yL c42 Tryd.f42 0 22 (fun q=>?_)
 unfold yQ
 refine J_g 2 [] [(0,sl 1 eU8 a1),(1,iv a2)] [] zL ?_
 refine J_d 12 [] [5] [(5,iv 0)] [] [] zL ?_
 refine zCh (K0:=(fun r:Int=>some (iv r,[]))) (fun _=>rfl) (yX.ok a1 q _ (fun v12=>J_j ?_) (a2,0))
 refine J_g 14 [] [(4,iv v12)] [] zL ?_
 exact wG rfl
noncomputable def c26:Code:=(Tryd.f26.body).getD .skip
theorem yU.ok (a1:(List File)) (q:Wd) (kn:Int→Option (D×List Ent)) (hk:∀v:Int,J (q.g Tryd.prog 26 0 32) c26 (atI c26 7) (St.mk' [(1,iv v)] []) (some v) kn):
  ∀s14:(Int×Int),J (q.g Tryd.prog 26 0 32) c26 (atI c26 52) (St.mk' [(0,sl 2 (File.enc false) a1),(1,iv s14.1),(5,iv s14.2)] []) (yU a1 s14) (Fl.go (fun r:Int=>some (iv r,[])) kn):=by
 refine zC2 (fun g ih s14=>?_)
 unfold yP
 refine J_d 208 [] [9] [(9,bv (decide (s14.2< (a1.length:Int))))] [] [] zL ?_
 refine yT 9 (fun h15=>?_) (fun h15=>?_)
 ·refine zJ (fun x16 h17=>?_)
  refine zJ (fun x18 h19=>?_)
  refine J_d 1680 [] [9,19] [(19,bv (!(seq x16.Path x18)))] [] [] (xD 2 (zBW (kk:=.i64) 22 33 2 (File.enc false) (.tmp 12) (.tmp 13) h17) (xD 6 (jJ [(.tmp 17)] [3] (zX.ok s14.1) h19) zL)) ?_
  refine yT 19 (fun h20=>?_) (fun h20=>?_)
  ·refine J_g 6724 [] [(4,iv (-1))] [] zL ?_
   exact wG rfl
  ·refine J_d 1682 [] [1,19] [(1,iv (w64 (s14.1+1)))] [] [] zL ?_
   refine zJ (fun x21 h22=>?_)
   refine zJ (fun x23 h24=>?_)
   refine J_g 3366 [] [(0,sl 2 (File.enc false) a1),(1,iv x23),(5,iv s14.2)] [] (xD 2 (zBW (kk:=.i64) 22 33 2 (File.enc false) (.tmp 22) (.tmp 23) h22) (xD 6 (jJ [(.tmp 26),(.tmp 27)] [31,3] (yQ.ok x21.Data (w64 (s14.1+1))) h24) zL)) ?_
   refine J_d 6734 [] [30] [(30,bv (decide (x23<0)))] [] [] zL ?_
   refine yT 30 (fun h25=>?_) (fun h25=>?_)
   ·refine J_g 26940 [] [(4,iv (-1))] [] zL ?_
    exact wG rfl
   ·refine J_d 211 [] [5,30] [(5,iv (w64 (s14.2+1)))] [] [] zL ?_
    exact J_q (J_b (ih (x23,w64 (s14.2+1)))) rfl
 ·exact zBS (hk s14.1) rfl
theorem yS.ok (a1:(List File)) (a2:Int):Ok Tryd.prog 26 [sl 2 (File.enc false) a1,iv a2] [] ((yS a1 a2).map fun r=>(iv r,[])):=by
 refine yL c26 Tryd.f26 0 32 (fun q=>?_)
 unfold yS
 refine J_g 2 [] [(0,sl 2 (File.enc false) a1),(1,iv a2)] [] zL ?_
 refine J_d 12 [] [5] [(5,iv 0)] [] [] zL ?_
 refine zCh (K0:=(fun r:Int=>some (iv r,[]))) (fun _=>rfl) (yU.ok a1 q _ (fun v26=>J_j ?_) (a2,0))
 refine J_g 14 [] [(4,iv v26)] [] zL ?_
 exact wG rfl
noncomputable def c16:Code:=(Tryd.f16.body).getD .skip
theorem yZ.ok (a1:zF) (a2:Int):Ok Tryd.prog 16 [.ag (zF.enc false a1),iv a2] [] ((yZ a1 a2).map fun r=>(iv r,[])):=by
 refine yL c16 Tryd.f16 0 12 (fun q=>?_)
 unfold yZ
 refine J_g 2 [(0,0)] [(1,iv a2),(2,pp 0)] [(0,.box (zF.enc false a1))] zL ?_
 refine zJ (fun x3 h4=>?_)
 refine J_g 6 [] [(1,iv x3)] [] (xD 3 (jJ [(.tmp 6),(.tmp 7)] [22,3] (yS.ok a1.Files a2) h4) zL) ?_
 refine J_g 28 [] [(1,iv x3),(10,bv (decide (x3<0)))] [] zL ?_
 refine yT 10 (fun h5=>?_) (fun h5=>?_)
 ·refine J_g 116 [] [(4,iv (-1))] [] zL ?_
  exact wG rfl
 ·refine J_g 30 [] [(4,iv x3)] [] zL ?_
  exact wG rfl
noncomputable def c8:Code:=(Tryd.f8.body).getD .skip
theorem zN.ok (a1:zB) (a2:Int):Ok Tryd.prog 8 [.ag (zB.enc false a1),iv a2] [] ((zN a1 a2).map fun r=>(iv r,[])):=by
 refine yL c8 Tryd.f8 0 12 (fun q=>?_)
 unfold zN
 refine J_g 2 [(0,0)] [(1,iv a2),(2,pp 0)] [(0,.box (zB.enc false a1))] zL ?_
 refine zJ (fun x3 h4=>?_)
 refine J_g 6 [] [(1,iv x3)] [] (xD 3 (jJ [(.tmp 6),(.tmp 7)] [24,3] (yZ.ok a1.zF a2) h4) zL) ?_
 refine J_g 28 [] [(1,iv x3),(10,bv (decide (x3<0)))] [] zL ?_
 refine yT 10 (fun h5=>?_) (fun h5=>?_)
 ·refine J_g 116 [] [(4,iv (-1))] [] zL ?_
  exact wG rfl
 ·refine J_g 30 [] [(4,iv x3)] [] zL ?_
  exact wG rfl
noncomputable def c3:Code:=(Tryd.f3.body).getD .skip
theorem zR.ok (a1:Int):Ok Tryd.prog 3 [iv a1] [] ((zR a1).map fun r=>(bv r,[])):=by
 refine yL c3 Tryd.f3 0 41 (fun q=>?_)
 unfold zR
 refine J_g 2 [] [(0,iv a1)] [] zL ?_
 refine zJ (fun x2 h3=>?_)
 refine J_g 6 [(2,1)] [(0,iv a1),(3,pp 1)] [(0,rE 2 (File.enc false) x2.zF.Files),(1,.box [iv x2.Code,rr 0 x2.zF.Files,iv x2.zF.Budget,iv x2.zF.Writes,iv x2.zF.Stop,bv x2.zF.Down])] (xD 1 (jY («as»:=[iv a1]) [(.tmp 8)] [2] false [] [] (.cons (.same rfl) (.nil)) (yG.ok a1) h3 (.ag (.cons (.same rfl rfl) (.cons (.own 0) (.cons (.same rfl rfl) (.cons (.same rfl rfl) (.cons (.same rfl rfl) (.cons (.same rfl rfl) (.nil))))))))) zL) ?_
 refine zJ (fun x4 h5=>?_)
 refine J_d 14 [(2,3)] [4] [(4,pp 3)] [2,3] [(2,rE 2 (File.enc true) x4.zF.Files),(3,.box [iv x4.Code,rr 2 x4.zF.Files,iv x4.zF.Budget,iv x4.zF.Writes,iv x4.zF.Stop,bv x4.zF.Down])] (xD 1 (jY («as»:=[iv a1]) [(.tmp 10)] [2] false [] [] (.cons (.same rfl) (.nil)) (zV.ok a1) h5 (.ag (.cons (.same rfl rfl) (.cons (.own 2) (.cons (.same rfl rfl) (.cons (.same rfl rfl) (.cons (.same rfl rfl) (.cons (.same rfl rfl) (.nil))))))))) zL) ?_
 refine zJ (fun x6 h7=>?_)
 refine J_d 60 [] [15] [(15,bv (!x6))] [] [] (xD 2 (jY («as»:=[.ag [iv x4.Code,rr 2 x4.zF.Files,iv x4.zF.Budget,iv x4.zF.Writes,iv x4.zF.Stop,bv x4.zF.Down],.ag [iv x2.Code,rr 0 x2.zF.Files,iv x2.zF.Budget,iv x2.zF.Writes,iv x2.zF.Stop,bv x2.zF.Down]]) [(.tmp 12),(.tmp 13)] [26,26] true [(2,rE 2 (File.enc true) x4.zF.Files),(0,rE 2 (File.enc false) x2.zF.Files)] [] (.cons (.ag (.cons (.same rfl) (.cons (zCI (.head _) (File.ro true) rfl) (.cons (.same rfl) (.cons (.same rfl) (.cons (.same rfl) (.cons (.same rfl) (.nil)))))))) (.cons (.ag (.cons (.same rfl) (.cons (zCI (.tail _ (.head _)) (File.ro false) rfl) (.cons (.same rfl) (.cons (.same rfl) (.cons (.same rfl) (.cons (.same rfl) (.nil)))))))) (.nil))) (zQ.ok x4 x2) h7 (.same rfl rfl) (hbor:=fun _=>⟨fhN,xG⟩)) zL) ?_
 refine yT 15 (fun h8=>?_) (fun h8=>?_)
 ·refine J_g 244 [] [(2,bv false)] [] zL ?_
  exact wG rfl
 ·refine J_d 62 [] [5,15] [(5,iv 1)] [] [] zL ?_
  refine zJ (fun x9 h10=>?_)
  refine J_g 126 [] [(0,iv a1),(3,pp 1),(4,pp 3),(5,iv x9.1)] [(0,rE 2 (File.enc false) x2.zF.Files),(1,.box [iv x2.Code,rr 0 x2.zF.Files,iv x2.zF.Budget,iv x2.zF.Writes,iv x2.zF.Stop,bv x2.zF.Down]),(2,rE 2 (File.enc true) x9.2),(3,.box [iv x4.Code,rr 2 x4.zF.Files,iv x4.zF.Budget,iv x4.zF.Writes,iv x4.zF.Stop,bv x4.zF.Down])] (xD 2 (jY («as»:=[.ag [iv x4.Code,rr 2 x4.zF.Files,iv x4.zF.Budget,iv x4.zF.Writes,iv x4.zF.Stop,bv x4.zF.Down],iv 1]) [(.tmp 16),(.tmp 17)] [26,3] false [(2,rE 2 (File.enc true) x4.zF.Files)] [2] (.cons (.ag (.cons (.same rfl) (.cons (.rf rfl) (.cons (.same rfl) (.cons (.same rfl) (.cons (.same rfl) (.cons (.same rfl) (.nil)))))))) (.cons (.same rfl) (.nil))) (zS.ok x4 1) h10 (.same rfl rfl)) zL) ?_
  refine zJ (fun u11 h12=>?_)
  refine zD9 (σ':=St.mk' [(0,iv a1),(3,pp 1),(4,pp 3),(5,iv x9.1)] [(0,rE 2 (File.enc false) x2.zF.Files),(1,.box [iv x2.Code,rr 0 x2.zF.Files,iv x2.zF.Budget,iv x2.zF.Writes,iv x2.zF.Stop,bv x2.zF.Down]),(2,rE 2 (File.enc true) x9.2),(3,.box [iv x4.Code,rr 2 x9.2,iv x4.zF.Budget,iv x4.zF.Writes,iv x4.zF.Stop,bv x4.zF.Down])]) (by simp only [rr,kS h12]) ?_
  refine J_d 254 [] [6] [(6,iv 1)] [] [] zL ?_
  refine zJ (fun x13 h14=>?_)
  refine J_g 510 [] [(0,iv a1),(3,pp 1),(4,pp 3),(5,iv x9.1),(6,iv x13)] [(0,rE 2 (File.enc false) x2.zF.Files),(1,.box [iv x2.Code,rr 0 x2.zF.Files,iv x2.zF.Budget,iv x2.zF.Writes,iv x2.zF.Stop,bv x2.zF.Down]),(2,rE 2 (File.enc true) x9.2),(3,.box [iv x4.Code,rr 2 x9.2,iv x4.zF.Budget,iv x4.zF.Writes,iv x4.zF.Stop,bv x4.zF.Down])] (xD 2 (jY («as»:=[.ag [iv x4.Code,rr 2 x9.2,iv x4.zF.Budget,iv x4.zF.Writes,iv x4.zF.Stop,bv x4.zF.Down],iv 1]) [(.tmp 19),(.tmp 20)] [26,3] true [(2,rE 2 (File.enc true) x9.2)] [] (.cons (.ag (.cons (.same rfl) (.cons (zCI (.head _) (File.ro true) rfl) (.cons (.same rfl) (.cons (.same rfl) (.cons (.same rfl) (.cons (.same rfl) (.nil)))))))) (.cons (.same rfl) (.nil))) (zN.ok ({Code:=x4.Code,zF:=({Files:=x9.2,Budget:=x4.zF.Budget,Writes:=x4.zF.Writes,Stop:=x4.zF.Stop,Down:=x4.zF.Down}:zF)}:zB) 1) h14 (.same rfl rfl) (hbor:=fun _=>⟨fhN,xG⟩)) zL) ?_
  refine J_d 2044 [] [23] [(23,bv (decide (x13<0)))] [] [] zL ?_
  refine yT 23 (fun h15=>?_) (fun h15=>?_)
  ·refine J_g 8180 [] [(2,bv false)] [] zL ?_
   exact wG rfl
  ·refine J_d 4092 [] [6,23,26] [(26,bv (x13 !=x9.1))] [] [] zL ?_
   refine yT 26 (fun h16=>?_) (fun h16=>?_)
   ·refine J_g 16372 [] [(2,bv false)] [] zL ?_
    exact wG rfl
   ·refine zJ (fun x17 h18=>?_)
    refine J_d 4094 [(2,5)] [0,7,26] [(7,pp 5)] [4,5] [(4,rE 2 (File.enc true) x17.zF.Files),(5,.box [iv x17.Code,rr 4 x17.zF.Files,iv x17.zF.Budget,iv x17.zF.Writes,iv x17.zF.Stop,bv x17.zF.Down])] (xD 1 (jY («as»:=[iv a1]) [(.tmp 27)] [2] false [] [] (.cons (.same rfl) (.nil)) (zV.ok a1) h18 (.ag (.cons (.same rfl rfl) (.cons (.own 4) (.cons (.same rfl rfl) (.cons (.same rfl rfl) (.cons (.same rfl rfl) (.cons (.same rfl rfl) (.nil))))))))) zL) ?_
    refine zJ (fun x19 h20=>?_)
    refine J_d 16380 [] [3,7,32] [(32,bv (!x19))] [0,1,4,5] [] (xD 2 (jY («as»:=[.ag [iv x17.Code,rr 4 x17.zF.Files,iv x17.zF.Budget,iv x17.zF.Writes,iv x17.zF.Stop,bv x17.zF.Down],.ag [iv x2.Code,rr 0 x2.zF.Files,iv x2.zF.Budget,iv x2.zF.Writes,iv x2.zF.Stop,bv x2.zF.Down]]) [(.tmp 29),(.tmp 30)] [26,26] true [(4,rE 2 (File.enc true) x17.zF.Files),(0,rE 2 (File.enc false) x2.zF.Files)] [] (.cons (.ag (.cons (.same rfl) (.cons (zCI (.head _) (File.ro true) rfl) (.cons (.same rfl) (.cons (.same rfl) (.cons (.same rfl) (.cons (.same rfl) (.nil)))))))) (.cons (.ag (.cons (.same rfl) (.cons (zCI (.tail _ (.head _)) (File.ro false) rfl) (.cons (.same rfl) (.cons (.same rfl) (.cons (.same rfl) (.cons (.same rfl) (.nil)))))))) (.nil))) (zQ.ok x17 x2) h20 (.same rfl rfl) (hbor:=fun _=>⟨fhN,xG⟩)) zL) ?_
    refine yT 32 (fun h21=>?_) (fun h21=>?_)
    ·refine J_g 65524 [] [(2,bv false)] [] zL ?_
     exact wG rfl
    ·refine J_d 16382 [] [6,32] [(6,iv 1)] [] [] zL ?_
     refine zJ (fun x22 h23=>?_)
     refine J_g 32766 [] [(5,iv x9.1),(6,iv x22)] [] (xD 2 (jY («as»:=[.ag [iv x4.Code,rr 2 x9.2,iv x4.zF.Budget,iv x4.zF.Writes,iv x4.zF.Stop,bv x4.zF.Down],iv 1]) [(.tmp 33),(.tmp 34)] [26,3] true [(2,rE 2 (File.enc true) x9.2)] [] (.cons (.ag (.cons (.same rfl) (.cons (zCI (.head _) (File.ro true) rfl) (.cons (.same rfl) (.cons (.same rfl) (.cons (.same rfl) (.cons (.same rfl) (.nil)))))))) (.cons (.same rfl) (.nil))) (zN.ok ({Code:=x4.Code,zF:=({Files:=x9.2,Budget:=x4.zF.Budget,Writes:=x4.zF.Writes,Stop:=x4.zF.Stop,Down:=x4.zF.Down}:zF)}:zB) 1) h23 (.same rfl rfl) (hbor:=fun _=>⟨fhN,xG⟩)) zL) ?_
     refine J_d 131068 [] [37] [(37,bv (decide (x22<0)))] [] [] zL ?_
     refine yT 37 (fun h24=>?_) (fun h24=>?_)
     ·refine J_g 524276 [] [(2,bv false)] [] zL ?_
      exact wG rfl
     ·refine J_g 262140 [] [(40,bv (x22 !=x9.1))] [] zL ?_
      refine yT 40 (fun h25=>?_) (fun h25=>?_)
      ·refine J_g 1048564 [] [(2,bv false)] [] zL ?_
       exact wG rfl
      ·refine J_g 262142 [] [(2,bv true)] [] zL ?_
       exact wG rfl
end Go.Told

import Derived.Test.YtdeihchdibglaaaGreatDoorOkFnPlanTextsx1
set_option linter.unusedVariables false
set_option maxRecDepth 4000
namespace Go.Told
open Go Go.Im Go.Proofs
noncomputable section
def c76:Code:=cdB Tryz.f76
theorem zIF.ok (a1:zP) (a2:ByteArray) (q:Wd) (kn:Unit→Option (D×List Ent)) (hk:∀v:Unit,J (q.g Tryz.prog 76 1 26) c76 (atI c76 7) (St.mk' [] [(0,.box [rr 1 a1.Files,iv a1.Budget,iv a1.Writes,iv a1.Stop,bv a1.Down]),(1,rE 2 (File.enc false) a1.Files)]) (some v) kn):
  ∀s7:Int,J (q.g Tryz.prog 76 1 26) c76 (atI c76 52) (St.mk' [(0,pp 0),(1,sv a2),(5,iv s7)] [(0,.box [rr 1 a1.Files,iv a1.Budget,iv a1.Writes,iv a1.Stop,bv a1.Down]),(1,rE 2 (File.enc false) a1.Files)]) (zCq a1 a2 s7) (Fl.go (fun r:Int=>some (iv r,[.box [so 2 (File.enc false) a1.Files,iv a1.Budget,iv a1.Writes,iv a1.Stop,bv a1.Down]])) kn):=by
 refine uM (fun g ih s7=>?_)
 unfold zB0
 refine J_d 208 [] [12] [(12,bv (decide (s7< (a1.Files.length:Int))))] [] [] zB ?_
 refine zG 12 (fun h8=>?_) (fun h8=>?_)
 ·refine zA (fun x9 h10=>?_)
  refine J_d 840 [] [12,24] [(24,bv (seq x9.Path a2))] [] [] (zD 5 (zAb (kk:=.i64) 37 114 2 1 (File.enc false) (.tmp 18) (.tmp 19) h10) (zD 7 (zAa (d:=sv x9.Path) 9 2 1 0 (File.enc false) (.tmp 21) h10 (by kernel_rfl)) zB)) ?_
  refine zG 24 (fun h11=>?_) (fun h11=>?_)
  ·refine J_g 3364 [] [(4,iv s7)] [(0,.box [rr 1 a1.Files,iv a1.Budget,iv a1.Writes,iv a1.Stop,bv a1.Down]),(1,rE 2 (File.enc false) a1.Files)] zB ?_
   refine tT 0 (cs':=[so 2 (File.enc false) a1.Files,iv a1.Budget,iv a1.Writes,iv a1.Stop,bv a1.Down]) (ts:=[1]) rfl (.move (.head _) (qC _) (by decide) (.keep rfl (.keep rfl (.keep rfl (.keep rfl (.nil)))))) ?_
   refine vB [(4,iv s7)] [(0,.box [so 2 (File.enc false) a1.Files,iv a1.Budget,iv a1.Writes,iv a1.Stop,bv a1.Down])] (by kernel_rfl) ?_
   exact yA rfl
  ·refine J_d 211 [] [5,24] [(5,iv (w64 (s7+1)))] [] [] zB ?_
   exact J_q (J_b (ih (w64 (s7+1)))) rfl
 ·exact zN (hk ()) rfl
theorem zLe.ok (a1:zP) (a2:ByteArray):Ok Tryz.prog 76 [pp 0,sv a2] [.box [so 2 (File.enc false) a1.Files,iv a1.Budget,iv a1.Writes,iv a1.Stop,bv a1.Down]] ((uE a1 a2).map fun r=>(iv r,[.box [so 2 (File.enc false) a1.Files,iv a1.Budget,iv a1.Writes,iv a1.Stop,bv a1.Down]])):=by
 refine zJ c76 Tryz.f76 1 26 (fun q=>?_)
 unfold uE
 refine vF 0 (cs':=[rr 1 a1.Files,iv a1.Budget,iv a1.Writes,iv a1.Stop,bv a1.Down]) (es:=[(1,rE 2 (File.enc false) a1.Files)]) rfl (.cons (.own 1) (.cons (.same rfl rfl) (.cons (.same rfl rfl) (.cons (.same rfl rfl) (.cons (.same rfl rfl) (.nil)))))) rfl (by kernel_rfl) (by kernel_rfl) ?_
 refine vB [(0,pp 0),(1,sv a2)] [(0,.box [rr 1 a1.Files,iv a1.Budget,iv a1.Writes,iv a1.Stop,bv a1.Down]),(1,rE 2 (File.enc false) a1.Files)] (by kernel_rfl) ?_
 refine J_g 2 [] [(0,pp 0),(1,sv a2)] [(0,.box [rr 1 a1.Files,iv a1.Budget,iv a1.Writes,iv a1.Stop,bv a1.Down]),(1,rE 2 (File.enc false) a1.Files)] zB ?_
 refine J_d 12 [] [5] [(5,iv 0)] [] [] zB ?_
 refine uL (K0:=(fun r:Int=>some (iv r,[.box [so 2 (File.enc false) a1.Files,iv a1.Budget,iv a1.Writes,iv a1.Stop,bv a1.Down]]))) (fun _=>rfl) (zIF.ok a1 a2 q _ (fun v12=>J_j ?_) 0)
 refine J_g 14 [] [(4,iv (-1))] [(0,.box [rr 1 a1.Files,iv a1.Budget,iv a1.Writes,iv a1.Stop,bv a1.Down]),(1,rE 2 (File.enc false) a1.Files)] zB ?_
 refine tT 0 (cs':=[so 2 (File.enc false) a1.Files,iv a1.Budget,iv a1.Writes,iv a1.Stop,bv a1.Down]) (ts:=[1]) rfl (.move (.head _) (qC _) (by decide) (.keep rfl (.keep rfl (.keep rfl (.keep rfl (.nil)))))) ?_
 refine vB [(4,iv (-1))] [(0,.box [so 2 (File.enc false) a1.Files,iv a1.Budget,iv a1.Writes,iv a1.Stop,bv a1.Down])] (by kernel_rfl) ?_
 exact yA rfl
def c77:Code:=cdB Tryz.f77
theorem zIr.ok (a1:zP) (q:Wd) (kn:Int→Option (D×List Ent)) (hk:∀v:Int,J (q.g Tryz.prog 77 1 26) c77 (atI c77 15) (St.mk' [(3,iv v)] [(0,.box [rr 1 a1.Files,iv a1.Budget,iv a1.Writes,iv a1.Stop,bv a1.Down]),(1,rE 2 (File.enc false) a1.Files)]) (some v) kn):
  ∀s5:(Int×Int),J (q.g Tryz.prog 77 1 26) c77 (atI c77 116) (St.mk' [(0,pp 0),(3,iv s5.1),(4,iv s5.2)] [(0,.box [rr 1 a1.Files,iv a1.Budget,iv a1.Writes,iv a1.Stop,bv a1.Down]),(1,rE 2 (File.enc false) a1.Files)]) (zBw a1 s5) kn:=by
 refine uM (fun g ih s5=>?_)
 unfold zAl
 refine J_d 464 [] [11] [(11,bv (decide (s5.2< (a1.Files.length:Int))))] [] [] zB ?_
 refine zG 11 (fun h6=>?_) (fun h6=>?_)
 ·refine zA (fun x7 h8=>?_)
  refine J_g 932 [] [(0,pp 0),(3,iv (w64 (s5.1+(x7.Data.length:Int)))),(4,iv s5.2)] [(0,.box [rr 1 a1.Files,iv a1.Budget,iv a1.Writes,iv a1.Stop,bv a1.Down]),(1,rE 2 (File.enc false) a1.Files)] (zD 6 (zAb (kk:=.i64) 37 114 2 1 (File.enc false) (.tmp 18) (.tmp 19) h8) (zD 8 (zAa (d:=sl 1 eU8 x7.Data) 22 2 1 1 (File.enc false) (.tmp 21) h8 (by kernel_rfl)) zB)) ?_
  refine J_d 467 [] [4] [(4,iv (w64 (s5.2+1)))] [] [] zB ?_
  exact J_q (J_b (ih (w64 (s5.1+(x7.Data.length:Int)),w64 (s5.2+1)))) rfl
 ·exact zN (hk s5.1) rfl
theorem zKB.ok (a1:zP):Ok Tryz.prog 77 [pp 0] [.box [so 2 (File.enc false) a1.Files,iv a1.Budget,iv a1.Writes,iv a1.Stop,bv a1.Down]] ((jW a1).map fun r=>(iv r,[.box [so 2 (File.enc false) a1.Files,iv a1.Budget,iv a1.Writes,iv a1.Stop,bv a1.Down]])):=by
 refine zJ c77 Tryz.f77 1 26 (fun q=>?_)
 unfold jW
 refine vF 0 (cs':=[rr 1 a1.Files,iv a1.Budget,iv a1.Writes,iv a1.Stop,bv a1.Down]) (es:=[(1,rE 2 (File.enc false) a1.Files)]) rfl (.cons (.own 1) (.cons (.same rfl rfl) (.cons (.same rfl rfl) (.cons (.same rfl rfl) (.cons (.same rfl rfl) (.nil)))))) rfl (by kernel_rfl) (by kernel_rfl) ?_
 refine vB [(0,pp 0)] [(0,.box [rr 1 a1.Files,iv a1.Budget,iv a1.Writes,iv a1.Stop,bv a1.Down]),(1,rE 2 (File.enc false) a1.Files)] (by kernel_rfl) ?_
 refine J_g 2 [] [(0,pp 0)] [(0,.box [rr 1 a1.Files,iv a1.Budget,iv a1.Writes,iv a1.Stop,bv a1.Down]),(1,rE 2 (File.enc false) a1.Files)] zB ?_
 refine J_g 6 [] [(0,pp 0),(3,iv 0)] [(0,.box [rr 1 a1.Files,iv a1.Budget,iv a1.Writes,iv a1.Stop,bv a1.Down]),(1,rE 2 (File.enc false) a1.Files)] zB ?_
 refine J_d 28 [] [4] [(4,iv 0)] [] [] zB ?_
 refine zEx (zIr.ok a1 q _ (fun v9=>J_j ?_) (0,0))
 refine J_g 30 [] [(2,iv v9)] [(0,.box [rr 1 a1.Files,iv a1.Budget,iv a1.Writes,iv a1.Stop,bv a1.Down]),(1,rE 2 (File.enc false) a1.Files)] zB ?_
 refine tT 0 (cs':=[so 2 (File.enc false) a1.Files,iv a1.Budget,iv a1.Writes,iv a1.Stop,bv a1.Down]) (ts:=[1]) rfl (.move (.head _) (qC _) (by decide) (.keep rfl (.keep rfl (.keep rfl (.keep rfl (.nil)))))) ?_
 refine vB [(2,iv v9)] [(0,.box [so 2 (File.enc false) a1.Files,iv a1.Budget,iv a1.Writes,iv a1.Stop,bv a1.Down])] (by kernel_rfl) ?_
 exact yA rfl
def c78:Code:=cdB Tryz.f78
theorem zEa.ok (a1:zP):Ok Tryz.prog 78 [pp 0] [.box [so 2 (File.enc false) a1.Files,iv a1.Budget,iv a1.Writes,iv a1.Stop,bv a1.Down]] ((zEa a1).map fun r=>(bv r.1,[.box [so 2 (File.enc false) r.2.Files,iv r.2.Budget,iv r.2.Writes,iv r.2.Stop,bv r.2.Down]])):=by
 refine zJ c78 Tryz.f78 1 34 (fun q=>?_)
 unfold zEa
 refine vF 0 (cs':=[rr 1 a1.Files,iv a1.Budget,iv a1.Writes,iv a1.Stop,bv a1.Down]) (es:=[(1,rE 2 (File.enc false) a1.Files)]) rfl (.cons (.own 1) (.cons (.same rfl rfl) (.cons (.same rfl rfl) (.cons (.same rfl rfl) (.cons (.same rfl rfl) (.nil)))))) rfl (by kernel_rfl) (by kernel_rfl) ?_
 refine vB [(0,pp 0)] [(0,.box [rr 1 a1.Files,iv a1.Budget,iv a1.Writes,iv a1.Stop,bv a1.Down]),(1,rE 2 (File.enc false) a1.Files)] (by kernel_rfl) ?_
 refine J_g 2 [] [(0,pp 0)] [(0,.box [rr 1 a1.Files,iv a1.Budget,iv a1.Writes,iv a1.Stop,bv a1.Down]),(1,rE 2 (File.enc false) a1.Files)] zB ?_
 refine J_d 12 [] [6] [(6,bv a1.Down)] [] [] zB ?_
 refine zG 6 (fun h2=>?_) (fun h2=>?_)
 ·refine J_g 52 [] [(2,bv false)] [(0,.box [rr 1 a1.Files,iv a1.Budget,iv a1.Writes,iv a1.Stop,bv a1.Down]),(1,rE 2 (File.enc false) a1.Files)] zB ?_
  refine tT 0 (cs':=[so 2 (File.enc false) a1.Files,iv a1.Budget,iv a1.Writes,iv a1.Stop,bv a1.Down]) (ts:=[1]) rfl (.move (.head _) (qC _) (by decide) (.keep rfl (.keep rfl (.keep rfl (.keep rfl (.nil)))))) ?_
  refine vB [(2,bv false)] [(0,.box [so 2 (File.enc false) a1.Files,iv a1.Budget,iv a1.Writes,iv a1.Stop,bv a1.Down])] (by kernel_rfl) ?_
  exact yA rfl
 ·refine zU (atI c78 29) (fun v4:Bool=>St.mk' [(0,pp 0),(22,bv v4)] [(0,.box [rr 1 a1.Files,iv a1.Budget,iv a1.Writes,iv a1.Stop,bv a1.Down]),(1,rE 2 (File.enc false) a1.Files)]) (fun v4=>?_) (fun jv4=>?_)
  ·refine zG 22 (fun h5=>?_) (fun h5=>?_)
   ·refine J_g 116 [] [] [(0,.box [rr 1 a1.Files,iv a1.Budget,iv a1.Writes,iv a1.Stop,bv true]),(1,rE 2 (File.enc false) a1.Files)] zB ?_
    refine J_g 234 [] [(2,bv false)] [(0,.box [rr 1 a1.Files,iv a1.Budget,iv a1.Writes,iv a1.Stop,bv true]),(1,rE 2 (File.enc false) a1.Files)] zB ?_
    refine tT 0 (cs':=[so 2 (File.enc false) a1.Files,iv a1.Budget,iv a1.Writes,iv a1.Stop,bv true]) (ts:=[1]) rfl (.move (.head _) (qC _) (by decide) (.keep rfl (.keep rfl (.keep rfl (.keep rfl (.nil)))))) ?_
    refine vB [(2,bv false)] [(0,.box [so 2 (File.enc false) a1.Files,iv a1.Budget,iv a1.Writes,iv a1.Stop,bv true])] (by kernel_rfl) ?_
    exact yA rfl
   ·refine J_g 30 [] [] [(0,.box [rr 1 a1.Files,iv a1.Budget,iv (w64 (a1.Writes+1)),iv a1.Stop,bv a1.Down]),(1,rE 2 (File.enc false) a1.Files)] zB ?_
    refine J_g 62 [] [(2,bv true)] [(0,.box [rr 1 a1.Files,iv a1.Budget,iv (w64 (a1.Writes+1)),iv a1.Stop,bv a1.Down]),(1,rE 2 (File.enc false) a1.Files)] zB ?_
    refine tT 0 (cs':=[so 2 (File.enc false) a1.Files,iv a1.Budget,iv (w64 (a1.Writes+1)),iv a1.Stop,bv a1.Down]) (ts:=[1]) rfl (.move (.head _) (qC _) (by decide) (.keep rfl (.keep rfl (.keep rfl (.keep rfl (.nil)))))) ?_
    refine vB [(2,bv true)] [(0,.box [so 2 (File.enc false) a1.Files,iv a1.Budget,iv (w64 (a1.Writes+1)),iv a1.Stop,bv a1.Down])] (by kernel_rfl) ?_
    exact yA rfl
  ·refine xB (fun h3=>?_) (fun h3=>?_)
   ·refine J_d 28 [] [6,22] [(22,bv (decide (a1.Writes≥a1.Stop)))] [] [] (yO 5 [(11,bv (a1.Stop !=(-1)))] [] h3 zB) ?_
    exact zN (J_j (jv4 (decide (a1.Writes≥a1.Stop)))) rfl
   ·refine J_d 28 [] [6,22] [(22,bv false)] [] [] (yO 5 [(11,bv (a1.Stop !=(-1)))] [] h3 zB) ?_
    exact zN (J_j (jv4 false)) rfl
def c32:Code:=cdB Tryz.f32
theorem zIt.ok (a2:ByteArray) (x17:(Bool×zP)) (x20:(List Int)) (q:Wd) (kn:Int→Option (D×List Ent)) (hk:∀v:Int,J (q.g Tryz.prog 32 1 110) c32 (atI c32 4095) (St.mk' [(0,pp 0),(7,iv v),(9,pp 4)] [(0,.box [rr 1 x17.2.Files,iv x17.2.Budget,iv x17.2.Writes,iv x17.2.Stop,bv x17.2.Down]),(1,rE 2 (File.enc false) x17.2.Files),(3,rE 1 eU8 x20),(4,.box [sv a2,rr 3 x20])]) (some v) kn):
  ∀s30:Int,J (q.g Tryz.prog 32 1 110) c32 (atI c32 16376) (St.mk' [(0,pp 0),(1,sv a2),(7,iv s30),(9,pp 4)] [(0,.box [rr 1 x17.2.Files,iv x17.2.Budget,iv x17.2.Writes,iv x17.2.Stop,bv x17.2.Down]),(1,rE 2 (File.enc false) x17.2.Files),(3,rE 1 eU8 x20),(4,.box [sv a2,rr 3 x20])]) (zFf a2 x17 x20 s30) kn:=by
 refine uM (fun g ih s30=>?_)
 unfold zBI
 refine zU (atI c32 65505) (fun v34:Bool=>St.mk' [(0,pp 0),(1,sv a2),(7,iv s30),(9,pp 4),(86,bv v34)] [(0,.box [rr 1 x17.2.Files,iv x17.2.Budget,iv x17.2.Writes,iv x17.2.Stop,bv x17.2.Down]),(1,rE 2 (File.enc false) x17.2.Files),(3,rE 1 eU8 x20),(4,.box [sv a2,rr 3 x20])]) (fun v34=>?_) (fun jv34=>?_)
 ·refine zG 86 (fun h35=>?_) (fun h35=>?_)
  ·refine J_d 65506 [] [7,86] [(7,iv (w64 (s30+1)))] [] [] zB ?_
   exact J_q (J_b (ih (w64 (s30+1)))) rfl
  ·exact zN (hk s30) rfl
 ·refine xB (fun h31=>?_) (fun h31=>?_)
  ·refine zA (fun x32 h33=>?_)
   refine J_d 65504 [] [86] [(86,bv (slt x32.Path a2))] [] [] (yO 7 [(74,bv (decide (s30< (x17.2.Files.length:Int))))] [] h31 (uD 13 7 75 true (zAb (kk:=.i64) 37 114 2 1 (File.enc false) (.tmp 79) (.tmp 80) h33) (uD 15 7 75 true (zAa (d:=sv x32.Path) 9 2 1 0 (File.enc false) (.tmp 82) h33 (by kernel_rfl)) zB))) ?_
   exact zN (J_j (jv34 (slt x32.Path a2))) rfl
  ·refine J_d 65504 [] [86] [(86,bv false)] [] [] (yO 7 [(74,bv (decide (s30< (x17.2.Files.length:Int))))] [] h31 zB) ?_
   exact zN (J_j (jv34 false)) rfl
theorem uZ.ok (a1:zP) (a2:ByteArray) (a3:(List Int)):Ok Tryz.prog 32 [pp 0,sv a2,sl 1 eU8 a3] [.box [so 2 (File.enc false) a1.Files,iv a1.Budget,iv a1.Writes,iv a1.Stop,bv a1.Down]] ((wD a1 a2 a3).map fun r=>(iv r.1,[.box [so 2 (File.enc false) r.2.Files,iv r.2.Budget,iv r.2.Writes,iv r.2.Stop,bv r.2.Down]])):=by
 refine zJ c32 Tryz.f32 1 110 (fun q=>?_)
 unfold wD
 refine vF 0 (cs':=[rr 1 a1.Files,iv a1.Budget,iv a1.Writes,iv a1.Stop,bv a1.Down]) (es:=[(1,rE 2 (File.enc false) a1.Files)]) rfl (.cons (.own 1) (.cons (.same rfl rfl) (.cons (.same rfl rfl) (.cons (.same rfl rfl) (.cons (.same rfl rfl) (.nil)))))) rfl (by kernel_rfl) (by kernel_rfl) ?_
 refine vB [(0,pp 0),(1,sv a2),(2,sl 1 eU8 a3)] [(0,.box [rr 1 a1.Files,iv a1.Budget,iv a1.Writes,iv a1.Stop,bv a1.Down]),(1,rE 2 (File.enc false) a1.Files)] (by kernel_rfl) ?_
 refine J_g 2 [] [(0,pp 0),(1,sv a2),(2,sl 1 eU8 a3)] [(0,.box [rr 1 a1.Files,iv a1.Budget,iv a1.Writes,iv a1.Stop,bv a1.Down]),(1,rE 2 (File.enc false) a1.Files)] zB ?_
 refine tT 0 (cs':=[so 2 (File.enc false) a1.Files,iv a1.Budget,iv a1.Writes,iv a1.Stop,bv a1.Down]) (ts:=[1]) rfl (.move (.head _) (qC _) (by decide) (.keep rfl (.keep rfl (.keep rfl (.keep rfl (.nil)))))) ?_
 refine vB [(0,pp 0),(1,sv a2),(2,sl 1 eU8 a3)] [(0,.box [so 2 (File.enc false) a1.Files,iv a1.Budget,iv a1.Writes,iv a1.Stop,bv a1.Down])] (by kernel_rfl) ?_
 refine zA (fun x4 h5=>?_)
 refine J_g 6 [] [(0,pp 0),(1,sv a2),(2,sl 1 eU8 a3),(7,iv x4)] [(0,.box [so 2 (File.enc false) a1.Files,iv a1.Budget,iv a1.Writes,iv a1.Stop,bv a1.Down])] (zD 2 (zH7 [(0,.box [so 2 (File.enc false) a1.Files,iv a1.Budget,iv a1.Writes,iv a1.Stop,bv a1.Down])] [] (xH («as»:=[pp 0,sv a2]) [(.tmp 10),(.tmp 11)] [43,9] false [(0,.box [so 2 (File.enc false) a1.Files,iv a1.Budget,iv a1.Writes,iv a1.Stop,bv a1.Down])] [0] (.cons (.pt rfl) (.cons (.same rfl) (.nil))) (zLe.ok a1 a2) h5 (.same rfl rfl))) zB) ?_
 refine vF 0 (cs':=[rr 1 a1.Files,iv a1.Budget,iv a1.Writes,iv a1.Stop,bv a1.Down]) (es:=[(1,rE 2 (File.enc false) a1.Files)]) rfl (.cons (.own 1) (.cons (.same rfl rfl) (.cons (.same rfl rfl) (.cons (.same rfl rfl) (.cons (.same rfl rfl) (.nil)))))) rfl (by kernel_rfl) (by kernel_rfl) ?_
 refine vB [(0,pp 0),(1,sv a2),(2,sl 1 eU8 a3),(7,iv x4)] [(0,.box [rr 1 a1.Files,iv a1.Budget,iv a1.Writes,iv a1.Stop,bv a1.Down]),(1,rE 2 (File.enc false) a1.Files)] (by kernel_rfl) ?_
 refine J_g 14 [] [(0,pp 0),(1,sv a2),(2,sl 1 eU8 a3),(7,iv x4),(8,iv 0)] [(0,.box [rr 1 a1.Files,iv a1.Budget,iv a1.Writes,iv a1.Stop,bv a1.Down]),(1,rE 2 (File.enc false) a1.Files)] zB ?_
 refine J_d 60 [] [14] [(14,bv (decide (x4≥0)))] [] [] zB ?_
 refine zU (atI c32 31) (fun v9:Int=>St.mk' [(0,pp 0),(1,sv a2),(2,sl 1 eU8 a3),(7,iv x4),(8,iv v9)] [(0,.box [rr 1 a1.Files,iv a1.Budget,iv a1.Writes,iv a1.Stop,bv a1.Down]),(1,rE 2 (File.enc false) a1.Files)]) (fun v9=>?_) (fun jv9=>?_)
 ·refine zU (atI c32 125) (fun v12:Bool=>St.mk' [(0,pp 0),(1,sv a2),(2,sl 1 eU8 a3),(7,iv x4),(8,iv v9),(38,bv v12)] [(0,.box [rr 1 a1.Files,iv a1.Budget,iv a1.Writes,iv a1.Stop,bv a1.Down]),(1,rE 2 (File.enc false) a1.Files)]) (fun v12=>?_) (fun jv12=>?_)
  ·refine zG 38 (fun h13=>?_) (fun h13=>?_)
   ·refine J_g 500 [] [(6,iv 2)] [(0,.box [rr 1 a1.Files,iv a1.Budget,iv a1.Writes,iv a1.Stop,bv a1.Down]),(1,rE 2 (File.enc false) a1.Files)] zB ?_
    refine tT 0 (cs':=[so 2 (File.enc false) a1.Files,iv a1.Budget,iv a1.Writes,iv a1.Stop,bv a1.Down]) (ts:=[1]) rfl (.move (.head _) (qC _) (by decide) (.keep rfl (.keep rfl (.keep rfl (.keep rfl (.nil)))))) ?_
    refine vB [(6,iv 2)] [(0,.box [so 2 (File.enc false) a1.Files,iv a1.Budget,iv a1.Writes,iv a1.Stop,bv a1.Down])] (by kernel_rfl) ?_
    exact yA rfl
   ·refine tT 0 (cs':=[so 2 (File.enc false) a1.Files,iv a1.Budget,iv a1.Writes,iv a1.Stop,bv a1.Down]) (ts:=[1]) rfl (.move (.head _) (qC _) (by decide) (.keep rfl (.keep rfl (.keep rfl (.keep rfl (.nil)))))) ?_
    refine vB [(0,pp 0),(1,sv a2),(2,sl 1 eU8 a3),(7,iv x4),(8,iv v9),(38,bv false)] [(0,.box [so 2 (File.enc false) a1.Files,iv a1.Budget,iv a1.Writes,iv a1.Stop,bv a1.Down])] (by kernel_rfl) ?_
    refine zA (fun x14 h15=>?_)
    refine J_g 252 [] [(0,pp 0),(1,sv a2),(2,sl 1 eU8 a3),(7,iv x4),(50,bv (decide ((w64 ((w64 (x14-v9))+(a3.length:Int)))>a1.Budget)))] [(0,.box [so 2 (File.enc false) a1.Files,iv a1.Budget,iv a1.Writes,iv a1.Stop,bv a1.Down])] (zD 1 (zH7 [(0,.box [so 2 (File.enc false) a1.Files,iv a1.Budget,iv a1.Writes,iv a1.Stop,bv a1.Down])] [] (xH («as»:=[pp 0]) [(.tmp 39)] [43] false [(0,.box [so 2 (File.enc false) a1.Files,iv a1.Budget,iv a1.Writes,iv a1.Stop,bv a1.Down])] [0] (.cons (.pt rfl) (.nil)) (zKB.ok a1) h15 (.same rfl rfl))) zB) ?_
    refine vF 0 (cs':=[rr 1 a1.Files,iv a1.Budget,iv a1.Writes,iv a1.Stop,bv a1.Down]) (es:=[(1,rE 2 (File.enc false) a1.Files)]) rfl (.cons (.own 1) (.cons (.same rfl rfl) (.cons (.same rfl rfl) (.cons (.same rfl rfl) (.cons (.same rfl rfl) (.nil)))))) rfl (by kernel_rfl) (by kernel_rfl) ?_
    refine vB [(0,pp 0),(1,sv a2),(2,sl 1 eU8 a3),(7,iv x4),(50,bv (decide ((w64 ((w64 (x14-v9))+(a3.length:Int)))>a1.Budget)))] [(0,.box [rr 1 a1.Files,iv a1.Budget,iv a1.Writes,iv a1.Stop,bv a1.Down]),(1,rE 2 (File.enc false) a1.Files)] (by kernel_rfl) ?_
    refine zG 50 (fun h16=>?_) (fun h16=>?_)
    ·refine J_g 1012 [] [(6,iv 8)] [(0,.box [rr 1 a1.Files,iv a1.Budget,iv a1.Writes,iv a1.Stop,bv a1.Down]),(1,rE 2 (File.enc false) a1.Files)] zB ?_
     refine tT 0 (cs':=[so 2 (File.enc false) a1.Files,iv a1.Budget,iv a1.Writes,iv a1.Stop,bv a1.Down]) (ts:=[1]) rfl (.move (.head _) (qC _) (by decide) (.keep rfl (.keep rfl (.keep rfl (.keep rfl (.nil)))))) ?_
     refine vB [(6,iv 8)] [(0,.box [so 2 (File.enc false) a1.Files,iv a1.Budget,iv a1.Writes,iv a1.Stop,bv a1.Down])] (by kernel_rfl) ?_
     exact yA rfl
    ·refine tT 0 (cs':=[so 2 (File.enc false) a1.Files,iv a1.Budget,iv a1.Writes,iv a1.Stop,bv a1.Down]) (ts:=[1]) rfl (.move (.head _) (qC _) (by decide) (.keep rfl (.keep rfl (.keep rfl (.keep rfl (.nil)))))) ?_
     refine vB [(0,pp 0),(1,sv a2),(2,sl 1 eU8 a3),(7,iv x4),(50,bv false)] [(0,.box [so 2 (File.enc false) a1.Files,iv a1.Budget,iv a1.Writes,iv a1.Stop,bv a1.Down])] (by kernel_rfl) ?_
     refine zA (fun x17 h18=>?_)
     refine J_g 508 [] [(0,pp 0),(1,sv a2),(2,sl 1 eU8 a3),(7,iv x4),(53,bv (!x17.1))] [(0,.box [so 2 (File.enc false) x17.2.Files,iv x17.2.Budget,iv x17.2.Writes,iv x17.2.Stop,bv x17.2.Down])] (zD 1 (xH («as»:=[pp 0]) [(.tmp 51)] [43] false [(0,.box [so 2 (File.enc false) a1.Files,iv a1.Budget,iv a1.Writes,iv a1.Stop,bv a1.Down])] [0] (.cons (.pt rfl) (.nil)) (zEa.ok a1) h18 (.same rfl rfl)) zB) ?_
     refine vF 0 (cs':=[rr 1 x17.2.Files,iv x17.2.Budget,iv x17.2.Writes,iv x17.2.Stop,bv x17.2.Down]) (es:=[(1,rE 2 (File.enc false) x17.2.Files)]) rfl (.cons (.own 1) (.cons (.same rfl rfl) (.cons (.same rfl rfl) (.cons (.same rfl rfl) (.cons (.same rfl rfl) (.nil)))))) rfl (by kernel_rfl) (by kernel_rfl) ?_
     refine vB [(0,pp 0),(1,sv a2),(2,sl 1 eU8 a3),(7,iv x4),(53,bv (!x17.1))] [(0,.box [rr 1 x17.2.Files,iv x17.2.Budget,iv x17.2.Writes,iv x17.2.Stop,bv x17.2.Down]),(1,rE 2 (File.enc false) x17.2.Files)] (by kernel_rfl) ?_
     refine zG 53 (fun h19=>?_) (fun h19=>?_)
     ·refine J_g 2036 [] [(6,iv 9)] [(0,.box [rr 1 x17.2.Files,iv x17.2.Budget,iv x17.2.Writes,iv x17.2.Stop,bv x17.2.Down]),(1,rE 2 (File.enc false) x17.2.Files)] zB ?_
      refine tT 0 (cs':=[so 2 (File.enc false) x17.2.Files,iv x17.2.Budget,iv x17.2.Writes,iv x17.2.Stop,bv x17.2.Down]) (ts:=[1]) rfl (.move (.head _) (qC _) (by decide) (.keep rfl (.keep rfl (.keep rfl (.keep rfl (.nil)))))) ?_
      refine vB [(6,iv 9)] [(0,.box [so 2 (File.enc false) x17.2.Files,iv x17.2.Budget,iv x17.2.Writes,iv x17.2.Stop,bv x17.2.Down])] (by kernel_rfl) ?_
      exact yA rfl
     ·refine zA (fun x20 h21=>?_)
      refine J_g 510 [(5,4)] [(0,pp 0),(1,sv a2),(7,iv x4),(9,pp 4)] [(0,.box [rr 1 x17.2.Files,iv x17.2.Budget,iv x17.2.Writes,iv x17.2.Stop,bv x17.2.Down]),(1,rE 2 (File.enc false) x17.2.Files),(3,rE 1 eU8 x20),(4,.box [sv a2,rr 3 x20])] (zD 1 (vM 22 5 1 2 eU8 ([]:List Int) [] [] []) (zD 3 (zQ9 22 22 5 5 1 1 3 2 eU8 (.tmp 55) (.tmp 56) h21) zB)) ?_
      refine J_d 2044 [] [60] [(60,bv (decide (x4≥0)))] [] [] zB ?_
      refine zG 60 (fun h22=>?_) (fun h22=>?_)
      ·refine zA (fun x23 h24=>?_)
       refine vB [(0,pp 0),(1,sv a2),(7,iv x4),(9,pp 4),(60,bv true)] [(3,rE 1 eU8 x20),(0,.box [rr 1 x17.2.Files,iv x17.2.Budget,iv x17.2.Writes,iv x17.2.Stop,bv x17.2.Down]),(1,rE 2 (File.enc false) x17.2.Files),(4,.box [sv a2,rr 3 x20])] (by kernel_rfl) ?_
       refine zEc 3 (z:=1) (xs:=x20.map eU8) (tm2:=[(0,pp 0),(1,sv a2),(7,iv x4),(9,pp 4),(60,bv true)]) (hp2:=[(0,.box [rr 1 x17.2.Files,iv x17.2.Budget,iv x17.2.Writes,iv x17.2.Stop,bv x17.2.Down]),(1,rE 2 (File.enc false) x17.2.Files),(4,.box [sv a2,sl 1 eU8 x20])]) (.cons (.keep rfl) (.cons (.keep rfl) (.cons (.keep rfl) (.cons (.keep rfl) (.cons (.keep rfl) (.nil)))))) (.keep rfl (.keep rfl (.box rfl (.cons (.keep rfl) (.cons (.rf (by simp) (jG (enc:=eU8) (enc':=eU8) (fun _=>rfl) x20 rfl rfl)) (.nil))) (.nil)))) rfl ?_
       refine J_g 8180 [] [] [(0,.box [rr 1 x17.2.Files,iv x17.2.Budget,iv x17.2.Writes,iv x17.2.Stop,bv x17.2.Down]),(1,rE 2 (File.enc false) (x17.2.Files.set x4.toNat ({Path:=a2,Data:=x20}:File)))] (zD 6 (zAb (kk:=.i64) 37 114 2 1 (File.enc false) (.tmp 64) (.tmp 65) h24) (zRG 7 (zSm (b:=({Path:=a2,Data:=x20}:File)) 114 2 1 0 (File.enc false) (.ag [sv a2,sl 1 eU8 x20]) (.tmp 67) (.tmp 66) h24 rfl) zB)) ?_
       refine zSo (σ':=St.mk' [] [(0,.box [rr 1 (x17.2.Files.set x4.toNat ({Path:=a2,Data:=x20}:File)),iv x17.2.Budget,iv x17.2.Writes,iv x17.2.Stop,bv x17.2.Down]),(1,rE 2 (File.enc false) (x17.2.Files.set x4.toNat ({Path:=a2,Data:=x20}:File)))]) (by simp only [rr,List.length_set]) ?_
       refine J_g 16362 [] [(6,iv 0)] [(0,.box [rr 1 (x17.2.Files.set x4.toNat ({Path:=a2,Data:=x20}:File)),iv x17.2.Budget,iv x17.2.Writes,iv x17.2.Stop,bv x17.2.Down]),(1,rE 2 (File.enc false) (x17.2.Files.set x4.toNat ({Path:=a2,Data:=x20}:File)))] zB ?_
       refine tT 0 (cs':=[so 2 (File.enc false) (x17.2.Files.set x4.toNat ({Path:=a2,Data:=x20}:File)),iv x17.2.Budget,iv x17.2.Writes,iv x17.2.Stop,bv x17.2.Down]) (ts:=[1]) rfl (.move (.head _) (qC _) (by decide) (.keep rfl (.keep rfl (.keep rfl (.keep rfl (.nil)))))) ?_
       refine vB [(6,iv 0)] [(0,.box [so 2 (File.enc false) (x17.2.Files.set x4.toNat ({Path:=a2,Data:=x20}:File)),iv x17.2.Budget,iv x17.2.Writes,iv x17.2.Stop,bv x17.2.Down])] (by kernel_rfl) ?_
       exact yA rfl
      ·refine J_d 2046 [] [7,60] [(7,iv 0)] [] [] zB ?_
       refine zEx (zIt.ok a2 x17 x20 q _ (fun v36=>J_j ?_) 0)
       refine zA (fun x37 h38=>?_)
       refine zA (fun x39 h40=>?_)
       refine vB [(0,pp 0),(7,iv v36),(9,pp 4)] [(3,rE 1 eU8 x20),(0,.box [rr 1 x17.2.Files,iv x17.2.Budget,iv x17.2.Writes,iv x17.2.Stop,bv x17.2.Down]),(1,rE 2 (File.enc false) x17.2.Files),(4,.box [sv a2,rr 3 x20])] (by kernel_rfl) ?_
       refine zEc 3 (z:=1) (xs:=x20.map eU8) (tm2:=[(0,pp 0),(7,iv v36),(9,pp 4)]) (hp2:=[(0,.box [rr 1 x17.2.Files,iv x17.2.Budget,iv x17.2.Writes,iv x17.2.Stop,bv x17.2.Down]),(1,rE 2 (File.enc false) x17.2.Files),(4,.box [sv a2,sl 1 eU8 x20])]) (.cons (.keep rfl) (.cons (.keep rfl) (.cons (.keep rfl) (.nil)))) (.keep rfl (.keep rfl (.box rfl (.cons (.keep rfl) (.cons (.rf (by simp) (jG (enc:=eU8) (enc':=eU8) (fun _=>rfl) x20 rfl rfl)) (.nil))) (.nil)))) rfl ?_
       refine zA (fun x41 h42=>?_)
       refine zA (fun x43 h44=>?_)
       refine zA (fun x45 h46=>?_)
       refine J_g 8190 [] [] [(0,.box [rr 9 x45,iv x17.2.Budget,iv x17.2.Writes,iv x17.2.Stop,bv x17.2.Down]),(9,rE 2 (File.enc false) x45)] (zD 1 (vM 37 114 2 5 (File.enc false) ([]:List File) [] [] []) (zD 7 (zPL 37 114 2 1 (File.enc false) (.tmp 94) none (some (.tmp 95)) h38) (zD 8 (zQf (ys:=x17.2.Files) (l:=0) (hi:=v36) 37 37 114 114 2 40 6 5 1 (File.enc false) (.tmp 90) (.tmp 96) h38 h40) (zD 10 (vM 37 114 2 7 (File.enc false) [({Path:=a2,Data:=x20}:File)] [0] [(.tmp 98)] [.ag [sv a2,sl 1 eU8 x20]]) (zD 11 (zEQ 37 37 114 114 2 40 8 6 7 (File.enc false) (.tmp 97) (.tmp 99) h42) (zD 17 (zPL 37 114 2 1 (File.enc false) (.tmp 104) (some (.tmp 105)) none h44) (zD 18 (zQf (ys:=x17.2.Files) (l:=v36) (hi:=(x17.2.Files.length:Int)) 37 37 114 114 2 40 9 8 1 (File.enc false) (.tmp 100) (.tmp 106) h44 h46) zB))))))) ?_
       refine J_g 16382 [] [(6,iv 0)] [(0,.box [rr 9 x45,iv x17.2.Budget,iv x17.2.Writes,iv x17.2.Stop,bv x17.2.Down]),(9,rE 2 (File.enc false) x45)] zB ?_
       refine tT 0 (cs':=[so 2 (File.enc false) x45,iv x17.2.Budget,iv x17.2.Writes,iv x17.2.Stop,bv x17.2.Down]) (ts:=[9]) rfl (.move (.head _) (qC _) (by decide) (.keep rfl (.keep rfl (.keep rfl (.keep rfl (.nil)))))) ?_
       refine vB [(6,iv 0)] [(0,.box [so 2 (File.enc false) x45,iv x17.2.Budget,iv x17.2.Writes,iv x17.2.Stop,bv x17.2.Down])] (by kernel_rfl) ?_
       exact yA rfl
  ·refine xB (fun h10=>?_) (fun h10=>?_)
   ·refine J_d 124 [] [38] [(38,bv true)] [] [] (yO 3 [(26,bv (decide ((a3.length:Int)>4000)))] [] h10 (zIv 6 (zIo (i:=6) (g:=3) (t:=27) (b:=false) (v:=(.bool true)) (.inl rfl) (by kernel_rfl) (by kernel_rfl)) (zIv 7 (zIo (i:=7) (g:=6) (t:=30) (b:=true) (v:=undef) (.inr rfl) (by kernel_rfl) (by kernel_rfl)) (zIv 8 (zIo (i:=8) (g:=6) (t:=30) (b:=true) (v:=undef) (.inr rfl) (by kernel_rfl) (by kernel_rfl)) (zIv 9 (zIo (i:=9) (g:=6) (t:=30) (b:=true) (v:=undef) (.inr rfl) (by kernel_rfl) (by kernel_rfl)) (zIv 10 (zIo (i:=10) (g:=6) (t:=30) (b:=true) (v:=undef) (.inr rfl) (by kernel_rfl) (by kernel_rfl)) (zIv 11 (zIo (i:=11) (g:=6) (t:=30) (b:=true) (v:=undef) (.inr rfl) (by kernel_rfl) (by kernel_rfl)) (zIv 12 (zIo (i:=12) (g:=6) (t:=30) (b:=true) (v:=undef) (.inr rfl) (by kernel_rfl) (by kernel_rfl)) zB)))))))) ?_
    exact zN (J_j (jv12 true)) rfl
   ·refine xB (fun h11=>?_) (fun h11=>?_)
    ·refine J_d 124 [] [38] [(38,bv (decide ((a1.Files.length:Int)≥120)))] [] [] (yO 3 [(26,bv (decide ((a3.length:Int)>4000)))] [] h10 (zH6 6 3 27 false [(29,bv (decide (x4<0)))] [] h11 zB)) ?_
     exact zN (J_j (jv12 (decide ((a1.Files.length:Int)≥120)))) rfl
    ·refine J_d 124 [] [38] [(38,bv false)] [] [] (yO 3 [(26,bv (decide ((a3.length:Int)>4000)))] [] h10 (zH6 6 3 27 false [(29,bv (decide (x4<0)))] [] h11 zB)) ?_
     exact zN (J_j (jv12 false)) rfl
 ·refine zG 14 (fun h6=>?_) (fun h6=>?_)
  ·refine zA (fun x7 h8=>?_)
   refine J_d 122 [] [8,14] [(8,iv (x7.Data.length:Int))] [] [] (zD 5 (zAb (kk:=.i64) 37 114 2 1 (File.enc false) (.tmp 18) (.tmp 19) h8) (zD 7 (zAa (d:=sl 1 eU8 x7.Data) 22 2 1 1 (File.enc false) (.tmp 21) h8 (by kernel_rfl)) zB)) ?_
   exact zN (J_j (jv9 (x7.Data.length:Int))) rfl
  ·exact zN (J_j (jv9 0)) rfl
def c63:Code:=cdB Tryz.f63
theorem zDL.ok (a1:(List Pack)) (a2:(List Int)) (q:Wd) (kn:ByteArray→Option (D×List Ent)) (hk:∀v:ByteArray,J (q.g Tryz.prog 63 0 36) c63 (atI c63 15) (St.mk' [(5,sv v)] []) (some v) kn):
  ∀s22:(ByteArray×Int),J (q.g Tryz.prog 63 0 36) c63 (atI c63 116) (St.mk' [(0,sl 8 (Pack.enc false) a1),(1,sl 1 zF a2),(5,sv s22.1),(6,iv s22.2)] []) (zDL a1 a2 s22) kn:=by
 refine uM (fun g ih s22=>?_)
 unfold zDn
 refine J_d 464 [] [10] [(10,bv (decide (s22.2< (a2.length:Int))))] [] [] zB ?_
 refine zG 10 (fun h23=>?_) (fun h23=>?_)
 ·refine zA (fun x24 h25=>?_)
  refine zA (fun x26 h27=>?_)
  refine zA (fun x28 h29=>?_)
  refine zA (fun x30 h31=>?_)
  refine zA (fun x32 h33=>?_)
  refine zA (fun x34 h35=>?_)
  refine zA (fun x36 h37=>?_)
  refine zA (fun x38 h39=>?_)
  refine zA (fun x40 h41=>?_)
  refine J_g 932 [] [(0,sl 8 (Pack.enc false) a1),(1,sl 1 zF a2),(5,sv x40),(6,iv s22.2)] [] (zD 4 (wM (kk:=.i64) 34 2 1 zF (.tmp 15) (.tmp 16) h25) (zD 6 (wM (kk:=.i64) 24 89 8 (Pack.enc false) (.tmp 14) (.tmp 18) h27) (zD 9 (zAJ 9 9 (.tmp 13) (.tmp 21) h29) (zD 10 (zAJ 9 9 (.tmp 22) (.const (.string (bs [32]))) h31) (zD 14 (wM (kk:=.i64) 34 2 1 zF (.tmp 25) (.tmp 26) h33) (zD 16 (wM (kk:=.i64) 24 89 8 (Pack.enc false) (.tmp 24) (.tmp 28) h35) (zD 19 (yG [(.tmp 31)] [83] (yP.ok x34.Version) h37) (zD 20 (zAJ 9 9 (.tmp 23) (.tmp 32) h39) (zD 21 (zAJ 9 9 (.tmp 33) (.const (.string (bs [10]))) h41) zB))))))))) ?_
  refine J_d 467 [] [6] [(6,iv (w64 (s22.2+1)))] [] [] zB ?_
  exact J_q (J_b (ih (x40,w64 (s22.2+1)))) rfl
 ·exact zN (hk s22.1) rfl
theorem zBG.ok (a1:(List Pack)) (a2:(List Int)):Ok Tryz.prog 63 [sl 8 (Pack.enc false) a1,sl 1 zF a2] [] ((zBG a1 a2).map fun r=>(sv r,[])):=by
 refine zJ c63 Tryz.f63 0 36 (fun q=>?_)
 unfold zBG
 refine J_g 2 [] [(0,sl 8 (Pack.enc false) a1),(1,sl 1 zF a2)] [] zB ?_
 refine J_g 6 [] [(0,sl 8 (Pack.enc false) a1),(1,sl 1 zF a2),(5,sv (bs []))] [] zB ?_
 refine J_d 28 [] [6] [(6,iv 0)] [] [] zB ?_
 refine zEx (zDL.ok a1 a2 q _ (fun v42=>J_j ?_) (bs [],0))
 refine J_g 30 [] [(4,sv v42)] [] zB ?_
 exact yA rfl
def c31:Code:=cdB Tryz.f31
theorem zJR.ok (a1:(List Pack)) (a3:(List Int)) (a4:Bool) (x5:Int) (q:Wd) (kn:((List File)×Int×Int×Int×Bool)→Option (D×List Ent)) (hk:∀v:((List File)×Int×Int×Int×Bool),J (q.g Tryz.prog 31 1 50) c31 (atI c31 7) (St.mk' [(0,sl 8 (Pack.enc false) a1),(1,pp 0),(2,sl 1 zF a3),(3,bv a4),(8,iv x5)] [(0,.box [rr 1 v.1,iv v.2.1,iv v.2.2.1,iv v.2.2.2.1,bv v.2.2.2.2]),(1,rE 2 (File.enc false) v.1)]) (some v) kn):
  ∀s22:((List File)×Int×Int×Int×Bool×Int),J (q.g Tryz.prog 31 1 50) c31 (atI c31 52) (St.mk' [(0,sl 8 (Pack.enc false) a1),(1,pp 0),(2,sl 1 zF a3),(3,bv a4),(8,iv x5),(9,iv s22.2.2.2.2.2)] [(0,.box [rr 1 s22.1,iv s22.2.1,iv s22.2.2.1,iv s22.2.2.2.1,bv s22.2.2.2.2.1]),(1,rE 2 (File.enc false) s22.1)]) (zFS a1 a3 a4 x5 s22) kn:=by
 refine uM (fun g ih s22=>?_)
 unfold zDK
 refine J_d 208 [] [15] [(15,bv (decide (s22.2.2.2.2.2< (a3.length:Int))))] [] [] zB ?_
 refine zG 15 (fun h23=>?_) (fun h23=>?_)
 ·refine zA (fun x24 h25=>?_)
  refine zA (fun x26 h27=>?_)
  refine zA (fun x28 h29=>?_)
  refine zA (fun x30 h31=>?_)
  refine zA (fun x32 h33=>?_)
  refine zA (fun x34 h35=>?_)
  refine tT 0 (cs':=[so 2 (File.enc false) s22.1,iv s22.2.1,iv s22.2.2.1,iv s22.2.2.2.1,bv s22.2.2.2.2.1]) (ts:=[1]) rfl (.move (.head _) (qC _) (by decide) (.keep rfl (.keep rfl (.keep rfl (.keep rfl (.nil)))))) ?_
  refine vB [(0,sl 8 (Pack.enc false) a1),(1,pp 0),(2,sl 1 zF a3),(3,bv a4),(8,iv x5),(9,iv s22.2.2.2.2.2),(15,bv true)] [(0,.box [so 2 (File.enc false) s22.1,iv s22.2.1,iv s22.2.2.1,iv s22.2.2.2.1,bv s22.2.2.2.2.1])] (by kernel_rfl) ?_
  refine zA (fun x36 h37=>?_)
  refine J_g 420 [] [(0,sl 8 (Pack.enc false) a1),(1,pp 0),(2,sl 1 zF a3),(3,bv a4),(8,iv x5),(9,iv s22.2.2.2.2.2)] [(0,.box [so 2 (File.enc false) x36.2.Files,iv x36.2.Budget,iv x36.2.Writes,iv x36.2.Stop,bv x36.2.Down])] (zD 4 (wM (kk:=.i64) 34 2 1 zF (.tmp 20) (.tmp 21) h25) (zD 6 (wM (kk:=.i64) 24 89 8 (Pack.enc false) (.tmp 19) (.tmp 23) h27) (zD 8 (yG [(.tmp 25)] [89] (zDW.ok x26) h29) (zD 12 (wM (kk:=.i64) 34 2 1 zF (.tmp 28) (.tmp 29) h31) (zD 14 (wM (kk:=.i64) 24 89 8 (Pack.enc false) (.tmp 27) (.tmp 31) h33) (zD 16 (yG [(.tmp 33)] [89] (zC2.ok x32) h35) (zD 17 (xH («as»:=[pp 0,sv x28,sl 1 eU8 x34]) [(.tmp 18),(.tmp 26),(.tmp 34)] [43,9,22] false [(0,.box [so 2 (File.enc false) s22.1,iv s22.2.1,iv s22.2.2.1,iv s22.2.2.2.1,bv s22.2.2.2.2.1])] [0] (.cons (.pt rfl) (.cons (.same rfl) (.cons (.same rfl) (.nil)))) (uZ.ok ({Files:=s22.1,Budget:=s22.2.1,Writes:=s22.2.2.1,Stop:=s22.2.2.2.1,Down:=s22.2.2.2.2.1}:zP) x28 x34) h37 (.same rfl rfl)) zB))))))) ?_
  refine vF 0 (cs':=[rr 1 x36.2.Files,iv x36.2.Budget,iv x36.2.Writes,iv x36.2.Stop,bv x36.2.Down]) (es:=[(1,rE 2 (File.enc false) x36.2.Files)]) rfl (.cons (.own 1) (.cons (.same rfl rfl) (.cons (.same rfl rfl) (.cons (.same rfl rfl) (.cons (.same rfl rfl) (.nil)))))) rfl (by kernel_rfl) (by kernel_rfl) ?_
  refine vB [(0,sl 8 (Pack.enc false) a1),(1,pp 0),(2,sl 1 zF a3),(3,bv a4),(8,iv x5),(9,iv s22.2.2.2.2.2)] [(0,.box [rr 1 x36.2.Files,iv x36.2.Budget,iv x36.2.Writes,iv x36.2.Stop,bv x36.2.Down]),(1,rE 2 (File.enc false) x36.2.Files)] (by kernel_rfl) ?_
  refine J_d 211 [] [9] [(9,iv (w64 (s22.2.2.2.2.2+1)))] [] [] zB ?_
  exact J_q (J_b (ih (x36.2.Files,x36.2.Budget,x36.2.Writes,x36.2.Stop,x36.2.Down,w64 (s22.2.2.2.2.2+1)))) rfl
 ·exact zN (hk (s22.1,s22.2.1,s22.2.2.1,s22.2.2.2.1,s22.2.2.2.2.1)) rfl
theorem zJh.ok (a1:(List Pack)) (a2:zP) (a3:(List Int)) (a4:Bool):Ok Tryz.prog 31 [sl 8 (Pack.enc false) a1,pp 0,sl 1 zF a3,bv a4] [.box [so 2 (File.enc false) a2.Files,iv a2.Budget,iv a2.Writes,iv a2.Stop,bv a2.Down]] ((zCs a1 a2 a3 a4).map fun r=>(.tu [],[.box [so 2 (File.enc false) r.Files,iv r.Budget,iv r.Writes,iv r.Stop,bv r.Down]])):=by
 refine zJ c31 Tryz.f31 1 50 (fun q=>?_)
 unfold zCs
 refine vF 0 (cs':=[rr 1 a2.Files,iv a2.Budget,iv a2.Writes,iv a2.Stop,bv a2.Down]) (es:=[(1,rE 2 (File.enc false) a2.Files)]) rfl (.cons (.own 1) (.cons (.same rfl rfl) (.cons (.same rfl rfl) (.cons (.same rfl rfl) (.cons (.same rfl rfl) (.nil)))))) rfl (by kernel_rfl) (by kernel_rfl) ?_
 refine vB [(0,sl 8 (Pack.enc false) a1),(1,pp 0),(2,sl 1 zF a3),(3,bv a4)] [(0,.box [rr 1 a2.Files,iv a2.Budget,iv a2.Writes,iv a2.Stop,bv a2.Down]),(1,rE 2 (File.enc false) a2.Files)] (by kernel_rfl) ?_
 refine tT 0 (cs':=[so 2 (File.enc false) a2.Files,iv a2.Budget,iv a2.Writes,iv a2.Stop,bv a2.Down]) (ts:=[1]) rfl (.move (.head _) (qC _) (by decide) (.keep rfl (.keep rfl (.keep rfl (.keep rfl (.nil)))))) ?_
 refine vB [(0,sl 8 (Pack.enc false) a1),(1,pp 0),(2,sl 1 zF a3),(3,bv a4)] [(0,.box [so 2 (File.enc false) a2.Files,iv a2.Budget,iv a2.Writes,iv a2.Stop,bv a2.Down])] (by kernel_rfl) ?_
 refine zA (fun x5 h6=>?_)
 refine J_g 2 [] [(0,sl 8 (Pack.enc false) a1),(1,pp 0),(2,sl 1 zF a3),(3,bv a4),(8,iv x5)] [(0,.box [so 2 (File.enc false) a2.Files,iv a2.Budget,iv a2.Writes,iv a2.Stop,bv a2.Down])] (zD 1 (zH7 [(0,.box [so 2 (File.enc false) a2.Files,iv a2.Budget,iv a2.Writes,iv a2.Stop,bv a2.Down])] [] (xH («as»:=[pp 0]) [(.tmp 10)] [43] false [(0,.box [so 2 (File.enc false) a2.Files,iv a2.Budget,iv a2.Writes,iv a2.Stop,bv a2.Down])] [0] (.cons (.pt rfl) (.nil)) (zLO.ok a2) h6 (.same rfl rfl))) zB) ?_
 refine vF 0 (cs':=[rr 1 a2.Files,iv a2.Budget,iv a2.Writes,iv a2.Stop,bv a2.Down]) (es:=[(1,rE 2 (File.enc false) a2.Files)]) rfl (.cons (.own 1) (.cons (.same rfl rfl) (.cons (.same rfl rfl) (.cons (.same rfl rfl) (.cons (.same rfl rfl) (.nil)))))) rfl (by kernel_rfl) (by kernel_rfl) ?_
 refine vB [(0,sl 8 (Pack.enc false) a1),(1,pp 0),(2,sl 1 zF a3),(3,bv a4),(8,iv x5)] [(0,.box [rr 1 a2.Files,iv a2.Budget,iv a2.Writes,iv a2.Stop,bv a2.Down]),(1,rE 2 (File.enc false) a2.Files)] (by kernel_rfl) ?_
 refine J_d 12 [] [9] [(9,iv 0)] [] [] zB ?_
 refine zEx (zJR.ok a1 a3 a4 x5 q _ (fun v38=>J_j ?_) (a2.Files,a2.Budget,a2.Writes,a2.Stop,a2.Down,0))
 refine zA (fun x39 h40=>?_)
 refine zA (fun x41 h42=>?_)
 refine tT 0 (cs':=[so 2 (File.enc false) v38.1,iv v38.2.1,iv v38.2.2.1,iv v38.2.2.2.1,bv v38.2.2.2.2]) (ts:=[1]) rfl (.move (.head _) (qC _) (by decide) (.keep rfl (.keep rfl (.keep rfl (.keep rfl (.nil)))))) ?_
 refine vB [(0,sl 8 (Pack.enc false) a1),(1,pp 0),(2,sl 1 zF a3),(3,bv a4),(8,iv x5)] [(0,.box [so 2 (File.enc false) v38.1,iv v38.2.1,iv v38.2.2.1,iv v38.2.2.2.1,bv v38.2.2.2.2])] (by kernel_rfl) ?_
 refine zA (fun x43 h44=>?_)
 refine J_g 14 [] [(1,pp 0),(3,bv a4),(8,iv x5)] [(0,.box [so 2 (File.enc false) x43.2.Files,iv x43.2.Budget,iv x43.2.Writes,iv x43.2.Stop,bv x43.2.Down])] (zD 2 (yG [(.tmp 37)] [2] (wL.ok x5) h40) (zD 5 (yG [(.tmp 39),(.tmp 40)] [24,34] (zBG.ok a1 a3) h42) (zD 6 (zNQ (s:=x41) 9 22 5 (.tmp 41)) (zD 7 (xH («as»:=[pp 0,sv x39,sl 1 eU8 (s2b x41)]) [(.tmp 36),(.tmp 38),(.tmp 42)] [43,9,22] false [(0,.box [so 2 (File.enc false) v38.1,iv v38.2.1,iv v38.2.2.1,iv v38.2.2.2.1,bv v38.2.2.2.2])] [0] (.cons (.pt rfl) (.cons (.same rfl) (.cons (.same rfl) (.nil)))) (uZ.ok ({Files:=v38.1,Budget:=v38.2.1,Writes:=v38.2.2.1,Stop:=v38.2.2.2.1,Down:=v38.2.2.2.2}:zP) x39 (s2b x41)) h44 (.same rfl rfl)) zB)))) ?_
 refine vF 0 (cs':=[rr 1 x43.2.Files,iv x43.2.Budget,iv x43.2.Writes,iv x43.2.Stop,bv x43.2.Down]) (es:=[(1,rE 2 (File.enc false) x43.2.Files)]) rfl (.cons (.own 1) (.cons (.same rfl rfl) (.cons (.same rfl rfl) (.cons (.same rfl rfl) (.cons (.same rfl rfl) (.nil)))))) rfl (by kernel_rfl) (by kernel_rfl) ?_
 refine vB [(1,pp 0),(3,bv a4),(8,iv x5)] [(0,.box [rr 1 x43.2.Files,iv x43.2.Budget,iv x43.2.Writes,iv x43.2.Stop,bv x43.2.Down]),(1,rE 2 (File.enc false) x43.2.Files)] (by kernel_rfl) ?_
 refine J_g 30 [] [(1,pp 0),(8,iv x5),(44,bv a4)] [(0,.box [rr 1 x43.2.Files,iv x43.2.Budget,iv x43.2.Writes,iv x43.2.Stop,bv x43.2.Down]),(1,rE 2 (File.enc false) x43.2.Files)] zB ?_
 refine zG 44 (fun h45=>?_) (fun h45=>?_)
 ·refine zA (fun x46 h47=>?_)
  refine tT 0 (cs':=[so 2 (File.enc false) x43.2.Files,iv x43.2.Budget,iv x43.2.Writes,iv x43.2.Stop,bv x43.2.Down]) (ts:=[1]) rfl (.move (.head _) (qC _) (by decide) (.keep rfl (.keep rfl (.keep rfl (.keep rfl (.nil)))))) ?_
  refine vB [(1,pp 0),(8,iv x5),(44,bv true)] [(0,.box [so 2 (File.enc false) x43.2.Files,iv x43.2.Budget,iv x43.2.Writes,iv x43.2.Stop,bv x43.2.Down])] (by kernel_rfl) ?_
  refine zA (fun x48 h49=>?_)
  refine J_g 62 [] [] [(0,.box [so 2 (File.enc false) x48.2.Files,iv x48.2.Budget,iv x48.2.Writes,iv x48.2.Stop,bv x48.2.Down])] (zD 2 (yG [(.tmp 46)] [2] (xX.ok x5) h47) (zD 3 (zNQ (s:=x46) 9 22 5 (.tmp 47)) (zD 4 (xH («as»:=[pp 0,sv (bs [99,117,114]),sl 1 eU8 (s2b x46)]) [(.tmp 45),(.const (.string (bs [99,117,114]))),(.tmp 48)] [43,9,22] false [(0,.box [so 2 (File.enc false) x43.2.Files,iv x43.2.Budget,iv x43.2.Writes,iv x43.2.Stop,bv x43.2.Down])] [0] (.cons (.pt rfl) (.cons (.same rfl) (.cons (.same rfl) (.nil)))) (uZ.ok x43.2 (bs [99,117,114]) (s2b x46)) h49 (.same rfl rfl)) zB))) ?_
  refine vF 0 (cs':=[rr 1 x48.2.Files,iv x48.2.Budget,iv x48.2.Writes,iv x48.2.Stop,bv x48.2.Down]) (es:=[(1,rE 2 (File.enc false) x48.2.Files)]) rfl (.cons (.own 1) (.cons (.same rfl rfl) (.cons (.same rfl rfl) (.cons (.same rfl rfl) (.cons (.same rfl rfl) (.nil)))))) rfl (by kernel_rfl) (by kernel_rfl) ?_
  refine vB [] [(0,.box [rr 1 x48.2.Files,iv x48.2.Budget,iv x48.2.Writes,iv x48.2.Stop,bv x48.2.Down]),(1,rE 2 (File.enc false) x48.2.Files)] (by kernel_rfl) ?_
  refine tT 0 (cs':=[so 2 (File.enc false) x48.2.Files,iv x48.2.Budget,iv x48.2.Writes,iv x48.2.Stop,bv x48.2.Down]) (ts:=[1]) rfl (.move (.head _) (qC _) (by decide) (.keep rfl (.keep rfl (.keep rfl (.keep rfl (.nil)))))) ?_
  refine vB [] [(0,.box [so 2 (File.enc false) x48.2.Files,iv x48.2.Budget,iv x48.2.Writes,iv x48.2.Stop,bv x48.2.Down])] (by kernel_rfl) ?_
  exact zPj rfl
 ·refine tT 0 (cs':=[so 2 (File.enc false) x43.2.Files,iv x43.2.Budget,iv x43.2.Writes,iv x43.2.Stop,bv x43.2.Down]) (ts:=[1]) rfl (.move (.head _) (qC _) (by decide) (.keep rfl (.keep rfl (.keep rfl (.keep rfl (.nil)))))) ?_
  refine vB [(1,pp 0),(8,iv x5),(44,bv false)] [(0,.box [so 2 (File.enc false) x43.2.Files,iv x43.2.Budget,iv x43.2.Writes,iv x43.2.Stop,bv x43.2.Down])] (by kernel_rfl) ?_
  exact zPj rfl
def c62:Code:=cdB Tryz.f62
theorem vY.ok (a1:Term):Ok Tryz.prog 62 [.ag (Term.enc a1)] [] ((vY a1).map fun r=>(sv r,[])):=by
 refine zJ c62 Tryz.f62 0 31 (fun q=>?_)
 unfold vY
 refine J_g 2 [(0,0)] [(1,pp 0)] [(0,.box (Term.enc a1))] zB ?_
 refine zA (fun x2 h3=>?_)
 refine J_d 12 [] [6] [(6,bv (x2 !=0))] [] [] (zD 1 (yG [(.tmp 4)] [85] (vG.ok a1) h3) zB) ?_
 refine zG 6 (fun h4=>?_) (fun h4=>?_)
 ·refine J_g 52 [] [(2,sv (bs []))] [] zB ?_
  exact yA rfl
 ·refine J_d 14 [] [3,6] [(3,sv a1.Name)] [] [] zB ?_
  refine zA (fun x5 h6=>?_)
  refine J_d 60 [] [13] [(13,bv (x5 !=0))] [] [] (zD 3 (yG [(.tmp 10),(.tmp 11)] [83,83] (zW.ok a1.Low ({A:=0,B:=0,C:=0}:Version)) h6) zB) ?_
  refine zU (atI c62 31) (fun v14:ByteArray=>St.mk' [(1,pp 0),(3,sv v14)] [(0,.box (Term.enc a1))]) (fun v14=>?_) (fun jv14=>?_)
  ·refine zA (fun x15 h16=>?_)
   refine J_d 124 [] [23] [(23,bv (!(a1.High.A==x15.A&&(a1.High.B==x15.B&&(a1.High.C==x15.C&&true)))))] [] [] (zD 2 (yG [] [] (uK.ok) h16) (zD 3 (zLA (b:=.neq) (r:=(a1.High.A==x15.A&&(a1.High.B==x15.B&&(a1.High.C==x15.C&&true)))) 83 83 (.tmp 21) (.tmp 22) [.int .i64 a1.High.A,.int .i64 a1.High.B,.int .i64 a1.High.C] [.int .i64 x15.A,.int .i64 x15.B,.int .i64 x15.C] (.inr ⟨rfl,rfl⟩)) zB)) ?_
   refine zU (atI c62 63) (fun v24:ByteArray=>St.mk' [(3,sv v24)] []) (fun v24=>?_) (fun jv24=>?_)
   ·refine J_g 126 [] [(2,sv v24)] [] zB ?_
    exact yA rfl
   ·refine zG 23 (fun h17=>?_) (fun h17=>?_)
    ·refine zA (fun x18 h19=>?_)
     refine zA (fun x20 h21=>?_)
     refine zA (fun x22 h23=>?_)
     refine J_g 250 [] [(3,sv x22)] [] (zD 1 (zAJ 9 9 (.tmp 24) (.const (.string (bs [60]))) h19) (zD 4 (yG [(.tmp 27)] [83] (yP.ok a1.High) h21) (zD 5 (zAJ 9 9 (.tmp 25) (.tmp 28) h23) zB))) ?_
     exact zN (J_j (jv24 x22)) rfl
    ·exact zN (J_j (jv24 v14)) rfl
  ·refine zG 13 (fun h7=>?_) (fun h7=>?_)
   ·refine zA (fun x8 h9=>?_)
    refine zA (fun x10 h11=>?_)
    refine zA (fun x12 h13=>?_)
    refine J_d 122 [] [3,13] [(3,sv x12)] [] [] (zD 1 (zAJ 9 9 (.tmp 14) (.const (.string (bs [62,61]))) h9) (zD 4 (yG [(.tmp 17)] [83] (yP.ok a1.Low) h11) (zD 5 (zAJ 9 9 (.tmp 15) (.tmp 18) h13) zB))) ?_
    exact zN (J_j (jv14 x12)) rfl
   ·exact zN (J_j (jv14 a1.Name)) rfl
def c33:Code:=cdB Tryz.f33
theorem zD0.ok (a1:(List Term)) (q:Wd) (kn:ByteArray→Option (D×List Ent)) (hk:∀v:ByteArray,J (q.g Tryz.prog 33 0 20) c33 (atI c33 15) (St.mk' [(3,sv v)] []) (some v) kn):
  ∀s11:(ByteArray×Int),J (q.g Tryz.prog 33 0 20) c33 (atI c33 116) (St.mk' [(0,sl 7 Term.enc a1),(3,sv s11.1),(4,iv s11.2)] []) (zD0 a1 s11) kn:=by
 refine uM (fun g ih s11=>?_)
 unfold zC9
 refine J_d 464 [] [8] [(8,bv (decide (s11.2< (a1.length:Int))))] [] [] zB ?_
 refine zG 8 (fun h12=>?_) (fun h12=>?_)
 ·refine zA (fun x13 h14=>?_)
  refine zA (fun x15 h16=>?_)
  refine zA (fun x17 h18=>?_)
  refine zA (fun x19 h20=>?_)
  refine J_g 932 [] [(0,sl 7 Term.enc a1),(3,sv x19),(4,iv s11.2)] [] (zD 3 (wM (kk:=.i64) 25 85 7 Term.enc (.tmp 12) (.tmp 13) h14) (zD 5 (yG [(.tmp 15)] [85] (vY.ok x13) h16) (zD 6 (zAJ 9 9 (.tmp 11) (.tmp 16) h18) (zD 7 (zAJ 9 9 (.tmp 17) (.const (.string (bs [10]))) h20) zB)))) ?_
  refine J_d 467 [] [4] [(4,iv (w64 (s11.2+1)))] [] [] zB ?_
  exact J_q (J_b (ih (x19,w64 (s11.2+1)))) rfl
 ·exact zN (hk s11.1) rfl
theorem zAH.ok (a1:(List Term)):Ok Tryz.prog 33 [sl 7 Term.enc a1] [] ((zAH a1).map fun r=>(sv r,[])):=by
 refine zJ c33 Tryz.f33 0 20 (fun q=>?_)
 unfold zAH
 refine J_g 2 [] [(0,sl 7 Term.enc a1)] [] zB ?_
 refine J_g 6 [] [(0,sl 7 Term.enc a1),(3,sv (bs []))] [] zB ?_
 refine J_d 28 [] [4] [(4,iv 0)] [] [] zB ?_
 refine zEx (zD0.ok a1 q _ (fun v21=>J_j ?_) (bs [],0))
 refine J_g 30 [] [(2,sv v21)] [] zB ?_
 exact yA rfl
def c80:Code:=cdB Tryz.f80
theorem zAO.ok (a1:zC):Ok Tryz.prog 80 [pp 0] [.box (zC.enc false a1)] ((zAO a1).map fun r=>(sv r.1,[.box (zC.enc false r.2)])):=by
 refine zJ c80 Tryz.f80 1 8 (fun q=>?_)
 unfold zAO
 refine J_d 2 [] [] [] [] [] zB ?_
 refine zA (fun x2 h3=>?_)
 refine zA (fun x4 h5=>?_)
 refine J_g 6 [] [(2,sv x4)] [(0,.box (zC.enc false x2.2))] (zD 0 (vM 69 9 1 1 eStr [bs [97],bs [98,47,99],bs [99,117,114],bs [103,101,110,47,48,48,48,48,48,49],bs [112,107,103,47,97,45,49,46,48,46,48],bs [112,108,97,110],bs [120,95,49]] [0,1,2,3,4,5,6] [(.const (.string (bs [97]))),(.const (.string (bs [98,47,99]))),(.const (.string (bs [99,117,114]))),(.const (.string (bs [103,101,110,47,48,48,48,48,48,49]))),(.const (.string (bs [112,107,103,47,97,45,49,46,48,46,48]))),(.const (.string (bs [112,108,97,110]))),(.const (.string (bs [120,95,49])))] [sv (bs [97]),sv (bs [98,47,99]),sv (bs [99,117,114]),sv (bs [103,101,110,47,48,48,48,48,48,49]),sv (bs [112,107,103,47,97,45,49,46,48,46,48]),sv (bs [112,108,97,110]),sv (bs [120,95,49])]) (zD 2 (xH («as»:=[pp 0,iv 7]) [(.tmp 4),(.const (.int .i64 7))] [35,2] false [(0,.box (zC.enc false a1))] [0] (.cons (.pt rfl) (.cons (.same rfl) (.nil))) (zH.ok a1 7) h3 (.same rfl rfl)) (zD 3 (zAb (kk:=.i64) 69 9 1 1 eStr (.tmp 3) (.tmp 5) h5) (zD 4 (zAa (d:=sv x4) 9 1 1 0 eStr (.tmp 6) h5 (by kernel_rfl)) zB)))) ?_
 exact yA rfl
def c81:Code:=cdB Tryz.f81
theorem zD2.ok (q:Wd) (kn:((List Int)×Int×(List Int))→Option (D×List Ent)) (hk:∀v:((List Int)×Int×(List Int)),J (q.g Tryz.prog 81 1 18) c81 (atI c81 15) (St.mk' [(5,rr 1 v.2.2)] [(0,.box [sl 1 eU8 v.1,iv v.2.1]),(1,rE 1 eU8 v.2.2)]) (some v) kn):
  ∀s8:((List Int)×Int×Int×(List Int)),J (q.g Tryz.prog 81 1 18) c81 (atI c81 56) (St.mk' [(0,pp 0),(1,iv s8.2.2.1),(5,rr 1 s8.2.2.2)] [(0,.box [sl 1 eU8 s8.1,iv s8.2.1]),(1,rE 1 eU8 s8.2.2.2)]) (zD2 s8) kn:=by
 refine uM (fun g ih s8=>?_)
 unfold zCX
 refine J_d 224 [] [8] [(8,bv (decide (s8.2.2.1>0)))] [] [] zB ?_
 refine zG 8 (fun h9=>?_) (fun h9=>?_)
 ·refine zA (fun x10 h11=>?_)
  refine zA (fun x12 h13=>?_)
  refine J_g 452 [] [(0,pp 0),(1,iv s8.2.2.1),(5,rr 3 x12)] [(0,.box (zC.enc false x10.2)),(3,rE 1 eU8 x12)] (zD 2 (xH («as»:=[pp 0,iv 256]) [(.tmp 12),(.const (.int .i64 256))] [35,2] false [(0,.box [sl 1 eU8 s8.1,iv s8.2.1])] [0] (.cons (.pt rfl) (.cons (.same rfl) (.nil))) (zH.ok ({Code:=s8.1,At:=s8.2.1}:zC) 256) h11 (.same rfl rfl)) (zD 4 (vM 22 5 1 2 eU8 [IntKind.u8.wrap (x10.1)] [0] [(.tmp 14)] [uv (IntKind.u8.wrap (x10.1))]) (zD 5 (zEQ 22 22 5 5 1 1 3 1 2 eU8 (.tmp 11) (.tmp 15) h13) zB))) ?_
  refine J_d 227 [] [1] [(1,iv (w64 (s8.2.2.1-1)))] [] [] zB ?_
  refine xV 3 1 (qB rfl) (qB rfl) ?_
  exact J_q (J_b (ih (x10.2.Code,x10.2.At,w64 (s8.2.2.1-1),x12))) rfl
 ·exact zN (hk (s8.1,s8.2.1,s8.2.2.2)) rfl
theorem zB7.ok (a1:zC) (a2:Int):Ok Tryz.prog 81 [pp 0,iv a2] [.box (zC.enc false a1)] ((zB7 a1 a2).map fun r=>(sl 1 eU8 r.1,[.box (zC.enc false r.2)])):=by
 refine zJ c81 Tryz.f81 1 18 (fun q=>?_)
 unfold zB7
 refine J_g 2 [] [(0,pp 0),(1,iv a2)] [(0,.box (zC.enc false a1))] zB ?_
 refine J_d 6 [] [5] [(5,rr 1 ([]:List Int))] [1] [(1,rE 1 eU8 ([]:List Int))] (zD 0 (vM 22 5 1 1 eU8 ([]:List Int) [] [] []) zB) ?_
 refine zEx (zD2.ok q _ (fun v14=>J_j ?_) (a1.Code,a1.At,a2,([]:List Int)))
 refine J_g 30 [] [(4,rr 1 v14.2.2)] [(0,.box [sl 1 eU8 v14.1,iv v14.2.1]),(1,rE 1 eU8 v14.2.2)] zB ?_
 refine vB [(4,rr 1 v14.2.2)] [(1,rE 1 eU8 v14.2.2),(0,.box [sl 1 eU8 v14.1,iv v14.2.1])] (by kernel_rfl) ?_
 refine zEc 1 (z:=1) (xs:=v14.2.2.map eU8) (tm2:=[(4,sl 1 eU8 v14.2.2)]) (hp2:=[(0,.box [sl 1 eU8 v14.1,iv v14.2.1])]) (.cons (.rf (by simp) (jG (enc:=eU8) (enc':=eU8) (fun _=>rfl) v14.2.2 rfl rfl)) (.nil)) (.keep rfl (.nil)) rfl ?_
 exact yA rfl
def c82:Code:=cdB Tryz.f82
theorem kU.ok (a1:zC):Ok Tryz.prog 82 [pp 0] [.box (zC.enc false a1)] ((kU a1).map fun r=>(sv r.1,[.box (zC.enc false r.2)])):=by
 refine zJ c82 Tryz.f82 1 12 (fun q=>?_)
 unfold kU
 refine J_d 2 [] [] [] [] [] zB ?_
 refine zA (fun x2 h3=>?_)
 refine J_g 12 [] [(0,pp 0),(4,bv x2.1)] [(0,.box (zC.enc false x2.2))] (zD 1 (xH («as»:=[pp 0,iv 14]) [(.tmp 3),(.const (.int .i64 14))] [35,2] false [(0,.box (zC.enc false a1))] [0] (.cons (.pt rfl) (.cons (.same rfl) (.nil))) (zI.ok a1 14) h3 (.same rfl rfl)) zB) ?_
 refine zG 4 (fun h4=>?_) (fun h4=>?_)
 ·refine zA (fun x5 h6=>?_)
  refine zA (fun x7 h8=>?_)
  refine J_g 52 [] [(2,sv x7)] [(0,.box (zC.enc false x5.2))] (zD 0 (vM 69 9 1 1 eStr [bs [],bs [65],bs [97,32,98],bs [97,98,99,100,101,102,103,104,105,106,97,98,99,100,101,102,103,104,105,106,97,98,99,100,101,102,103,104,105,106,97,98,99,100,101,102,103,104,105,106],bs [97,98,99,100,101,102,103,104,105,106,97,98,99,100,101,102,103,104,105,106,97,98,99,100,101,102,103,104,105,106,97,98,99,100,101,102,103,104,105,106,107],bs [97,10]] [0,1,2,3,4,5] [(.const (.string (bs []))),(.const (.string (bs [65]))),(.const (.string (bs [97,32,98]))),(.const (.string (bs [97,98,99,100,101,102,103,104,105,106,97,98,99,100,101,102,103,104,105,106,97,98,99,100,101,102,103,104,105,106,97,98,99,100,101,102,103,104,105,106]))),(.const (.string (bs [97,98,99,100,101,102,103,104,105,106,97,98,99,100,101,102,103,104,105,106,97,98,99,100,101,102,103,104,105,106,97,98,99,100,101,102,103,104,105,106,107]))),(.const (.string (bs [97,10])))] [sv (bs []),sv (bs [65]),sv (bs [97,32,98]),sv (bs [97,98,99,100,101,102,103,104,105,106,97,98,99,100,101,102,103,104,105,106,97,98,99,100,101,102,103,104,105,106,97,98,99,100,101,102,103,104,105,106]),sv (bs [97,98,99,100,101,102,103,104,105,106,97,98,99,100,101,102,103,104,105,106,97,98,99,100,101,102,103,104,105,106,97,98,99,100,101,102,103,104,105,106,107]),sv (bs [97,10])]) (zD 2 (xH («as»:=[pp 0,iv 6]) [(.tmp 6),(.const (.int .i64 6))] [35,2] false [(0,.box (zC.enc false x2.2))] [0] (.cons (.pt rfl) (.cons (.same rfl) (.nil))) (zH.ok x2.2 6) h6 (.same rfl rfl)) (zD 3 (zAb (kk:=.i64) 69 9 1 1 eStr (.tmp 5) (.tmp 7) h8) (zD 4 (zAa (d:=sv x7) 9 1 1 0 eStr (.tmp 8) h8 (by kernel_rfl)) zB)))) ?_
  exact yA rfl
 ·refine zA (fun x9 h10=>?_)
  refine J_g 14 [] [(2,sv x9.1)] [(0,.box (zC.enc false x9.2))] (zD 1 (xH («as»:=[pp 0]) [(.tmp 10)] [35] false [(0,.box (zC.enc false x2.2))] [0] (.cons (.pt rfl) (.nil)) (zAO.ok x2.2) h10 (.same rfl rfl)) zB) ?_
  exact yA rfl
def c36:Code:=cdB Tryz.f36
theorem zD4.ok (q:Wd) (kn:((List Int)×Int×(List File)×Int×Int×Int×Bool)→Option (D×List Ent)) (hk:∀v:((List Int)×Int×(List File)×Int×Int×Int×Bool),J (q.g Tryz.prog 36 1 82) c36 (atI c36 15) (St.mk' [(0,pp 0),(2,pp 1),(3,pp 4)] [(0,.box [sl 1 eU8 v.1,iv v.2.1]),(1,.box [nv,iv 0,iv 0,iv 0,bv false]),(3,rE 2 (File.enc false) v.2.2.1),(4,.box [rr 3 v.2.2.1,iv v.2.2.2.1,iv v.2.2.2.2.1,iv v.2.2.2.2.2.1,bv v.2.2.2.2.2.2])]) (some v) kn):
  ∀s26:((List Int)×Int×(List File)×Int×Int×Int×Bool×Int),J (q.g Tryz.prog 36 1 82) c36 (atI c36 116) (St.mk' [(0,pp 0),(2,pp 1),(3,pp 4),(4,iv s26.2.2.2.2.2.2.2)] [(0,.box [sl 1 eU8 s26.1,iv s26.2.1]),(1,.box [nv,iv 0,iv 0,iv 0,bv false]),(3,rE 2 (File.enc false) s26.2.2.1),(4,.box [rr 3 s26.2.2.1,iv s26.2.2.2.1,iv s26.2.2.2.2.1,iv s26.2.2.2.2.2.1,bv s26.2.2.2.2.2.2.1])]) (zD4 s26) kn:=by
 refine uM (fun g ih s26=>?_)
 unfold zCK
 refine J_d 464 [] [13] [(13,bv (decide (s26.2.2.2.2.2.2.2>0)))] [] [] zB ?_
 refine zG 13 (fun h27=>?_) (fun h27=>?_)
 ·refine zA (fun x28 h29=>?_)
  refine zA (fun x30 h31=>?_)
  refine zA (fun x32 h33=>?_)
  refine tT 4 (cs':=[so 2 (File.enc false) s26.2.2.1,iv s26.2.2.2.1,iv s26.2.2.2.2.1,iv s26.2.2.2.2.2.1,bv s26.2.2.2.2.2.2.1]) (ts:=[3]) rfl (.move (.tail _ (.tail _ (.head _))) (qC _) (by decide) (.keep rfl (.keep rfl (.keep rfl (.keep rfl (.nil)))))) ?_
  refine vB [(0,pp 0),(2,pp 1),(3,pp 4),(4,iv s26.2.2.2.2.2.2.2),(13,bv true)] [(0,.box [sl 1 eU8 s26.1,iv s26.2.1]),(1,.box [nv,iv 0,iv 0,iv 0,bv false]),(4,.box [so 2 (File.enc false) s26.2.2.1,iv s26.2.2.2.1,iv s26.2.2.2.2.1,iv s26.2.2.2.2.2.1,bv s26.2.2.2.2.2.2.1])] (by kernel_rfl) ?_
  refine zA (fun x34 h35=>?_)
  refine J_g 932 [] [(0,pp 0),(2,pp 1),(3,pp 4),(4,iv s26.2.2.2.2.2.2.2)] [(0,.box (zC.enc false x32.2)),(1,.box [nv,iv 0,iv 0,iv 0,bv false]),(4,.box [so 2 (File.enc false) x34.2.Files,iv x34.2.Budget,iv x34.2.Writes,iv x34.2.Stop,bv x34.2.Down])] (zD 1 (xH («as»:=[pp 0]) [(.tmp 16)] [35] false [(0,.box [sl 1 eU8 s26.1,iv s26.2.1])] [0] (.cons (.pt rfl) (.nil)) (zAO.ok ({Code:=s26.1,At:=s26.2.1}:zC)) h29 (.same rfl rfl)) (zD 4 (xH («as»:=[pp 0,iv 20]) [(.tmp 19),(.const (.int .i64 20))] [35,2] false [(0,.box (zC.enc false x28.2))] [0] (.cons (.pt rfl) (.cons (.same rfl) (.nil))) (zH.ok x28.2 20) h31 (.same rfl rfl)) (zD 5 (xH («as»:=[pp 0,iv x30.1]) [(.tmp 18),(.tmp 20)] [35,2] false [(0,.box (zC.enc false x30.2))] [0] (.cons (.pt rfl) (.cons (.same rfl) (.nil))) (zB7.ok x30.2 x30.1) h33 (.same rfl rfl)) (zD 6 (xH («as»:=[pp 4,sv x28.1,sl 1 eU8 x32.1]) [(.tmp 3),(.tmp 17),(.tmp 21)] [43,9,22] false [(4,.box [so 2 (File.enc false) s26.2.2.1,iv s26.2.2.2.1,iv s26.2.2.2.2.1,iv s26.2.2.2.2.2.1,bv s26.2.2.2.2.2.2.1])] [4] (.cons (.pt rfl) (.cons (.same rfl) (.cons (.same rfl) (.nil)))) (uZ.ok ({Files:=s26.2.2.1,Budget:=s26.2.2.2.1,Writes:=s26.2.2.2.2.1,Stop:=s26.2.2.2.2.2.1,Down:=s26.2.2.2.2.2.2.1}:zP) x28.1 x32.1) h35 (.same rfl rfl)) zB)))) ?_
  refine vF 4 (cs':=[rr 5 x34.2.Files,iv x34.2.Budget,iv x34.2.Writes,iv x34.2.Stop,bv x34.2.Down]) (es:=[(5,rE 2 (File.enc false) x34.2.Files)]) rfl (.cons (.own 5) (.cons (.same rfl rfl) (.cons (.same rfl rfl) (.cons (.same rfl rfl) (.cons (.same rfl rfl) (.nil)))))) rfl (by kernel_rfl) (by kernel_rfl) ?_
  refine vB [(0,pp 0),(2,pp 1),(3,pp 4),(4,iv s26.2.2.2.2.2.2.2)] [(0,.box (zC.enc false x32.2)),(1,.box [nv,iv 0,iv 0,iv 0,bv false]),(4,.box [rr 5 x34.2.Files,iv x34.2.Budget,iv x34.2.Writes,iv x34.2.Stop,bv x34.2.Down]),(5,rE 2 (File.enc false) x34.2.Files)] (by kernel_rfl) ?_
  refine J_d 467 [] [4] [(4,iv (w64 (s26.2.2.2.2.2.2.2-1)))] [] [] zB ?_
  refine xV 5 3 (qB rfl) (qB rfl) ?_
  exact J_q (J_b (ih (x32.2.Code,x32.2.At,x34.2.Files,x34.2.Budget,x34.2.Writes,x34.2.Stop,x34.2.Down,w64 (s26.2.2.2.2.2.2.2-1)))) rfl
 ·exact zN (hk (s26.1,s26.2.1,s26.2.2.1,s26.2.2.2.1,s26.2.2.2.2.1,s26.2.2.2.2.2.1,s26.2.2.2.2.2.2.1)) rfl
theorem zEd.ok (a1:zC):Ok Tryz.prog 36 [pp 0] [.box (zC.enc false a1)] ((zEd a1).map fun r=>(.ag [so 2 (File.enc false) r.1.Files,iv r.1.Budget,iv r.1.Writes,iv r.1.Stop,bv r.1.Down],[.box (zC.enc false r.2)])):=by
 refine zJ c36 Tryz.f36 1 82 (fun q=>?_)
 unfold zEd
 refine J_d 2 [(0,1)] [2] [(2,pp 1)] [1] [(1,.box [nv,iv 0,iv 0,iv 0,bv false])] zB ?_
 refine zA (fun x2 h3=>?_)
 refine zA (fun x4 h5=>?_)
 refine J_d 6 [(5,4)] [3] [(3,pp 4)] [0,3,4] [(0,.box (zC.enc false x2.2)),(3,rE 2 (File.enc true) x4.zP.Files),(4,.box [rr 3 x4.zP.Files,iv x4.zP.Budget,iv x4.zP.Writes,iv x4.zP.Stop,bv x4.zP.Down])] (zD 1 (vM 34 2 1 2 zF [100,40,1000,20000] [0,1,2,3] [(.const (.int .i64 100)),(.const (.int .i64 40)),(.const (.int .i64 1000)),(.const (.int .i64 20000))] [iv 100,iv 40,iv 1000,iv 20000]) (zD 2 (xH («as»:=[pp 0,rr 2 [100,40,1000,20000]]) [(.tmp 5),(.tmp 6)] [35,34] false [(0,.box (zC.enc false a1)),(2,rE 1 zF [100,40,1000,20000])] [0,2] (.cons (.pt rfl) (.cons (.rf rfl) (.nil))) (zT.ok a1 [100,40,1000,20000]) h3 (.same rfl rfl)) (zD 3 (xH («as»:=[iv x2.1]) [(.tmp 7)] [2] false [] [] (.cons (.same rfl) (.nil)) (vI.ok x2.1) h5 (.ag (.cons (.same rfl rfl) (.cons (.own 3) (.cons (.same rfl rfl) (.cons (.same rfl rfl) (.cons (.same rfl rfl) (.cons (.same rfl rfl) (.nil))))))))) zB))) ?_
 refine zA (fun x6 h7=>?_)
 refine J_d 28 [] [4] [(4,iv x6.1)] [0] [(0,.box (zC.enc false x6.2))] (zD 1 (xH («as»:=[pp 0,iv 6]) [(.tmp 10),(.const (.int .i64 6))] [35,2] false [(0,.box (zC.enc false x2.2))] [0] (.cons (.pt rfl) (.cons (.same rfl) (.nil))) (zH.ok x2.2 6) h7 (.same rfl rfl)) zB) ?_
 refine vB [(0,pp 0),(2,pp 1),(3,pp 4),(4,iv x6.1)] [(3,rE 2 (File.enc true) x4.zP.Files),(0,.box (zC.enc false x6.2)),(1,.box [nv,iv 0,iv 0,iv 0,bv false]),(4,.box [rr 3 x4.zP.Files,iv x4.zP.Budget,iv x4.zP.Writes,iv x4.zP.Stop,bv x4.zP.Down])] (by kernel_rfl) ?_
 refine zFB 3 (tQ (enc:=(File.enc true)) (enc':=(File.enc false)) (File.ro true) _) ?_
 refine vB [(0,pp 0),(2,pp 1),(3,pp 4),(4,iv x6.1)] [(0,.box (zC.enc false x6.2)),(1,.box [nv,iv 0,iv 0,iv 0,bv false]),(3,rE 2 (File.enc false) x4.zP.Files),(4,.box [rr 3 x4.zP.Files,iv x4.zP.Budget,iv x4.zP.Writes,iv x4.zP.Stop,bv x4.zP.Down])] (by kernel_rfl) ?_
 refine zEx (zD4.ok q _ (fun v36=>J_j ?_) (x6.2.Code,x6.2.At,x4.zP.Files,x4.zP.Budget,x4.zP.Writes,x4.zP.Stop,x4.zP.Down,x6.1))
 refine zA (fun x37 h38=>?_)
 refine J_d 30 [] [] [] [0,4] [(0,.box (zC.enc false x37.2)),(4,.box [rr 3 v36.2.2.1,iv v36.2.2.2.1,iv v36.2.2.2.2.1,iv x37.1,bv v36.2.2.2.2.2.2])] (zD 6 (vM 34 2 1 5 zF [(-1),(-1),(-1),v36.2.2.2.2.1,w64 (v36.2.2.2.2.1+1),0] [0,1,2,3,4,5] [(.const (.int .i64 (-1))),(.const (.int .i64 (-1))),(.const (.int .i64 (-1))),(.tmp 25),(.tmp 28),(.const (.int .i64 0))] [iv (-1),iv (-1),iv (-1),iv v36.2.2.2.2.1,iv (w64 (v36.2.2.2.2.1+1)),iv 0]) (zD 7 (xH («as»:=[pp 0,rr 5 [(-1),(-1),(-1),v36.2.2.2.2.1,w64 (v36.2.2.2.2.1+1),0]]) [(.tmp 23),(.tmp 29)] [35,34] false [(0,.box [sl 1 eU8 v36.1,iv v36.2.1]),(5,rE 1 zF [(-1),(-1),(-1),v36.2.2.2.2.1,w64 (v36.2.2.2.2.1+1),0])] [0,5] (.cons (.pt rfl) (.cons (.rf rfl) (.nil))) (zT.ok ({Code:=v36.1,At:=v36.2.1}:zC) [(-1),(-1),(-1),v36.2.2.2.2.1,w64 (v36.2.2.2.2.1+1),0]) h38 (.same rfl rfl)) zB)) ?_
 refine zA (fun x39 h40=>?_)
 refine J_d 124 [] [33] [(33,bv x39.1)] [0] [(0,.box (zC.enc false x39.2))] (zD 1 (xH («as»:=[pp 0,iv 10]) [(.tmp 32),(.const (.int .i64 10))] [35,2] false [(0,.box (zC.enc false x37.2))] [0] (.cons (.pt rfl) (.cons (.same rfl) (.nil))) (zI.ok x37.2 10) h40 (.same rfl rfl)) zB) ?_
 refine zU (atI c36 63) (fun v42:Bool=>St.mk' [(0,pp 0),(2,pp 1),(3,pp 4)] [(0,.box (zC.enc false x39.2)),(1,.box [nv,iv 0,iv 0,iv 0,bv false]),(3,rE 2 (File.enc false) v36.2.2.1),(4,.box [rr 3 v36.2.2.1,iv v36.2.2.2.1,iv v36.2.2.2.2.1,iv x37.1,bv v42])]) (fun v42=>?_) (fun jv42=>?_)
 ·refine zA (fun x43 h44=>?_)
  refine J_g 252 [] [(0,pp 0),(2,pp 1),(3,pp 4),(36,iv x43.1)] [(0,.box (zC.enc false x43.2)),(1,.box [nv,iv 0,iv 0,iv 0,bv false]),(3,rE 2 (File.enc false) v36.2.2.1),(4,.box [rr 3 v36.2.2.1,iv v36.2.2.2.1,iv v36.2.2.2.2.1,iv x37.1,bv v42])] (zD 1 (xH («as»:=[pp 0,iv 30]) [(.tmp 35),(.const (.int .i64 30))] [35,2] false [(0,.box (zC.enc false x39.2))] [0] (.cons (.pt rfl) (.cons (.same rfl) (.nil))) (zH.ok x39.2 30) h44 (.same rfl rfl)) zB) ?_
  refine J_d 1012 [] [37] [(37,bv (x43.1==0))] [] [] zB ?_
  refine zU (aft c36 506) (fun v69:((List Int)×Int×(List File)×Int×Int×Int)=>St.mk' [(2,pp 1),(3,pp 4)] [(0,.box [sl 1 eU8 v69.1,iv v69.2.1]),(1,.box [nv,iv 0,iv 0,iv 0,bv false]),(3,rE 2 (File.enc false) v69.2.2.1),(4,.box [rr 3 v69.2.2.1,iv v69.2.2.2.1,iv v69.2.2.2.2.1,iv v69.2.2.2.2.2,bv v42])]) (fun v69=>?_) (fun jv69=>?_)
  ·refine J_g 254 [] [(2,pp 1)] [(0,.box [sl 1 eU8 v69.1,iv v69.2.1]),(1,.box [rr 3 v69.2.2.1,iv v69.2.2.2.1,iv v69.2.2.2.2.1,iv v69.2.2.2.2.2,bv v42]),(3,rE 2 (File.enc false) v69.2.2.1)] zB ?_
   exact zEO (ds:=[.ag [rr 3 v69.2.2.1,iv v69.2.2.2.1,iv v69.2.2.2.2.1,iv v69.2.2.2.2.2,bv v42]]) (ds':=[.ag [so 2 (File.enc false) v69.2.2.1,iv v69.2.2.2.1,iv v69.2.2.2.2.1,iv v69.2.2.2.2.2,bv v42]]) (.cons (.ag (.move (.tail _ (.tail _ (.head _))) (qC _) (by decide) (.keep rfl (.keep rfl (.keep rfl (.keep rfl (.nil))))))) (.nil) (by decide)) rfl
  ·refine zG 37 (fun h45=>?_) (fun h45=>?_)
   ·refine zA (fun x46 h47=>?_)
    refine J_d 2026 [] [0,36,37] [] [0,4] [(0,.box (zC.enc false x46.2)),(4,.box [rr 3 v36.2.2.1,iv x46.1,iv v36.2.2.2.2.1,iv x37.1,bv v42])] (zD 1 (vM 34 2 1 5 zF [(-1),0,5,20001] [0,1,2,3] [(.const (.int .i64 (-1))),(.const (.int .i64 0)),(.const (.int .i64 5)),(.const (.int .i64 20001))] [iv (-1),iv 0,iv 5,iv 20001]) (zD 2 (xH («as»:=[pp 0,rr 5 [(-1),0,5,20001]]) [(.tmp 39),(.tmp 40)] [35,34] false [(0,.box (zC.enc false x43.2)),(5,rE 1 zF [(-1),0,5,20001])] [0,5] (.cons (.pt rfl) (.cons (.rf rfl) (.nil))) (zT.ok x43.2 [(-1),0,5,20001]) h47 (.same rfl rfl)) zB)) ?_
    exact zN (J_j (jv69 (x46.2.Code,x46.2.At,v36.2.2.1,x46.1,v36.2.2.2.2.1,x37.1))) rfl
   ·refine J_d 4054 [] [37,43] [(43,bv (x43.1==1))] [] [] zB ?_
    refine zG 43 (fun h48=>?_) (fun h48=>?_)
    ·refine zA (fun x49 h50=>?_)
     refine J_d 8110 [] [0,36,43] [] [0,4] [(0,.box (zC.enc false x49.2)),(4,.box [rr 3 v36.2.2.1,iv v36.2.2.2.1,iv x49.1,iv x37.1,bv v42])] (zD 1 (vM 34 2 1 5 zF [(-1),1000000001] [0,1] [(.const (.int .i64 (-1))),(.const (.int .i64 1000000001))] [iv (-1),iv 1000000001]) (zD 2 (xH («as»:=[pp 0,rr 5 [(-1),1000000001]]) [(.tmp 45),(.tmp 46)] [35,34] false [(0,.box (zC.enc false x43.2)),(5,rE 1 zF [(-1),1000000001])] [0,5] (.cons (.pt rfl) (.cons (.rf rfl) (.nil))) (zT.ok x43.2 [(-1),1000000001]) h50 (.same rfl rfl)) zB)) ?_
     exact zN (J_j (jv69 (x49.2.Code,x49.2.At,v36.2.2.1,v36.2.2.2.1,x49.1,x37.1))) rfl
    ·refine J_d 16222 [] [43,49] [(49,bv (x43.1==2))] [] [] zB ?_
     refine zG 49 (fun h51=>?_) (fun h51=>?_)
     ·refine zA (fun x52 h53=>?_)
      refine J_d 32446 [] [0,36,49] [] [0,4] [(0,.box (zC.enc false x52.2)),(4,.box [rr 3 v36.2.2.1,iv v36.2.2.2.1,iv v36.2.2.2.2.1,iv x52.1,bv v42])] (zD 1 (vM 34 2 1 5 zF [(-2),1000000001] [0,1] [(.const (.int .i64 (-2))),(.const (.int .i64 1000000001))] [iv (-2),iv 1000000001]) (zD 2 (xH («as»:=[pp 0,rr 5 [(-2),1000000001]]) [(.tmp 51),(.tmp 52)] [35,34] false [(0,.box (zC.enc false x43.2)),(5,rE 1 zF [(-2),1000000001])] [0,5] (.cons (.pt rfl) (.cons (.rf rfl) (.nil))) (zT.ok x43.2 [(-2),1000000001]) h53 (.same rfl rfl)) zB)) ?_
      exact zN (J_j (jv69 (x52.2.Code,x52.2.At,v36.2.2.1,v36.2.2.2.1,v36.2.2.2.2.1,x52.1))) rfl
     ·refine J_d 64894 [] [49,55] [(55,bv (x43.1==3))] [] [] zB ?_
      refine zG 55 (fun h54=>?_) (fun h54=>?_)
      ·refine zA (fun x55 h56=>?_)
       refine zA (fun x57 h58=>?_)
       refine zA (fun x59 h60=>?_)
       refine J_d 129790 [] [0,36,55] [] [0,3,4,6] [(0,.box (zC.enc false x57.2)),(4,.box [rr 6 x59,iv v36.2.2.2.1,iv v36.2.2.2.2.1,iv x37.1,bv v42]),(6,rE 2 (File.enc false) x59)] (zD 3 (xH («as»:=[pp 0]) [(.tmp 59)] [35] false [(0,.box (zC.enc false x43.2))] [0] (.cons (.pt rfl) (.nil)) (kU.ok x43.2) h56 (.same rfl rfl)) (zD 5 (xH («as»:=[pp 0,iv 3]) [(.tmp 61),(.const (.int .i64 3))] [35,2] false [(0,.box (zC.enc false x55.2))] [0] (.cons (.pt rfl) (.cons (.same rfl) (.nil))) (zB7.ok x55.2 3) h58 (.same rfl rfl)) (zD 7 (vM 37 114 2 5 (File.enc false) [({Path:=x55.1,Data:=x57.1}:File)] [0] [(.tmp 63)] [.ag [sv x55.1,sl 1 eU8 x57.1]]) (zD 8 (zEQ 37 37 114 114 2 40 6 3 5 (File.enc false) (.tmp 58) (.tmp 64) h60) zB)))) ?_
       refine xV 6 3 (qB rfl) (qB rfl) ?_
       exact zN (J_j (jv69 (x57.2.Code,x57.2.At,x59,v36.2.2.2.1,v36.2.2.2.2.1,x37.1))) rfl
      ·refine J_d 259582 [] [55,67] [(67,bv (x43.1==4))] [] [] zB ?_
       refine zG 67 (fun h61=>?_) (fun h61=>?_)
       ·refine zA (fun x62 h63=>?_)
        refine J_d 519166 [] [0,36,67] [] [3,4,5] [(4,.box [rr 5 x62,iv v36.2.2.2.1,iv v36.2.2.2.2.1,iv x37.1,bv v42]),(5,rE 2 (File.enc true) x62)] (zD 0 (zSg 37 114 2 40 5 (File.enc true) ({Path:=ByteArray.empty,Data:=([]:List Int)}:File) (.const (.int .i64 121)) h63 (.keep rfl (.nilsl true 1 (.nil)))) zB) ?_
        refine vB [(2,pp 1),(3,pp 4)] [(5,rE 2 (File.enc true) x62),(0,.box (zC.enc false x43.2)),(1,.box [nv,iv 0,iv 0,iv 0,bv false]),(4,.box [rr 5 x62,iv v36.2.2.2.1,iv v36.2.2.2.2.1,iv x37.1,bv v42])] (by kernel_rfl) ?_
        refine zFB 5 (tQ (enc:=(File.enc true)) (enc':=(File.enc false)) (File.ro true) _) ?_
        refine vB [(2,pp 1),(3,pp 4)] [(0,.box (zC.enc false x43.2)),(1,.box [nv,iv 0,iv 0,iv 0,bv false]),(4,.box [rr 5 x62,iv v36.2.2.2.1,iv v36.2.2.2.2.1,iv x37.1,bv v42]),(5,rE 2 (File.enc false) x62)] (by kernel_rfl) ?_
        refine xV 5 3 (qB rfl) (qB rfl) ?_
        exact zN (J_j (jv69 (x43.2.Code,x43.2.At,x62,v36.2.2.2.1,v36.2.2.2.2.1,x37.1))) rfl
       ·refine J_d 1038334 [] [36,67,71] [(71,bv (x43.1==5))] [] [] zB ?_
        refine zG 71 (fun h64=>?_) (fun h64=>?_)
        ·refine zA (fun x65 h66=>?_)
         refine zA (fun x67 h68=>?_)
         refine J_g 4153340 [] [(2,pp 1),(3,pp 4)] [(0,.box (zC.enc false x65.2)),(1,.box [nv,iv 0,iv 0,iv 0,bv false]),(4,.box [rr 6 [({Path:=bs [97],Data:=x67}:File)],iv v36.2.2.2.1,iv v36.2.2.2.2.1,iv x37.1,bv v42]),(6,rE 2 (File.enc true) [({Path:=bs [97],Data:=x67}:File)])] (zD 1 (xH («as»:=[pp 0,iv 2]) [(.tmp 73),(.const (.int .i64 2))] [35,2] false [(0,.box (zC.enc false x43.2))] [0] (.cons (.pt rfl) (.cons (.same rfl) (.nil))) (zH.ok x43.2 2) h66 (.same rfl rfl)) (zD 3 (zSg 22 5 1 1 5 eU8 0 (.tmp 75) h68 (.keep rfl (.nil))) (zD 5 (zPl (ds:=[sv (bs [97]),rr 5 x67]) (ts:=[5]) 37 114 2 6 (File.enc true) [({Path:=bs [97],Data:=x67}:File)] [0] [(.tmp 77)] [.ag [sv (bs [97]),rr 5 x67]] [(5,rE 1 eU8 x67)] (.keep rfl (.move (.head _) (qC _) (by decide) (.nil)))) zB))) ?_
         refine J_d 4153341 [] [] [] [4] [(4,.box [rr 6 [({Path:=bs [97],Data:=x67}:File)],iv 20000,iv v36.2.2.2.2.1,iv x37.1,bv v42])] zB ?_
         refine vB [(2,pp 1),(3,pp 4)] [(6,rE 2 (File.enc true) [({Path:=bs [97],Data:=x67}:File)]),(0,.box (zC.enc false x65.2)),(1,.box [nv,iv 0,iv 0,iv 0,bv false]),(4,.box [rr 6 [({Path:=bs [97],Data:=x67}:File)],iv 20000,iv v36.2.2.2.2.1,iv x37.1,bv v42])] (by kernel_rfl) ?_
         refine zFB 6 (tQ (enc:=(File.enc true)) (enc':=(File.enc false)) (File.ro true) _) ?_
         refine vB [(2,pp 1),(3,pp 4)] [(0,.box (zC.enc false x65.2)),(1,.box [nv,iv 0,iv 0,iv 0,bv false]),(4,.box [rr 6 [({Path:=bs [97],Data:=x67}:File)],iv 20000,iv v36.2.2.2.2.1,iv x37.1,bv v42]),(6,rE 2 (File.enc false) [({Path:=bs [97],Data:=x67}:File)])] (by kernel_rfl) ?_
         refine xV 6 3 (qB rfl) (qB rfl) ?_
         exact zN (J_j (jv69 (x65.2.Code,x65.2.At,[({Path:=bs [97],Data:=x67}:File)],20000,v36.2.2.2.2.1,x37.1))) rfl
        ·exact zN (J_j (jv69 (x43.2.Code,x43.2.At,v36.2.2.1,v36.2.2.2.1,v36.2.2.2.2.1,x37.1))) rfl
 ·refine zG 33 (fun h41=>?_) (fun h41=>?_)
  ·refine J_d 250 [] [33] [] [4] [(4,.box [rr 3 v36.2.2.1,iv v36.2.2.2.1,iv v36.2.2.2.2.1,iv x37.1,bv true])] zB ?_
   exact zN (J_j (jv42 true)) rfl
  ·exact zN (J_j (jv42 v36.2.2.2.2.2.2)) rfl
def c12:Code:=cdB Tryz.f12
theorem zDS.ok (a1:zC):Ok Tryz.prog 12 [pp 0] [.box (zC.enc false a1)] ((zDS a1).map fun r=>(.tu [sl 8 (Pack.enc false) r.1,.ag (zP.enc false r.2.1)],[.box (zC.enc false r.2.2)])):=by
 refine zJ c12 Tryz.f12 1 110 (fun q=>?_)
 unfold zDS
 refine J_d 2 [(1,1)] [3] [(3,pp 1)] [1] [(1,.box [nv,iv 0,iv 0,iv 0,bv false])] zB ?_
 refine zA (fun x2 h3=>?_)
 refine J_d 6 [] [4,5,6] [(4,sl 8 (Pack.enc false) x2.1),(5,sl 1 zF x2.2.1),(6,sl 1 zF x2.2.2.1)] [0] [(0,.box (zC.enc false x2.2.2.2))] (zD 1 (xH («as»:=[pp 0]) [(.tmp 9)] [35] false [(0,.box (zC.enc false a1))] [0] (.cons (.pt rfl) (.nil)) (zDX.ok a1) h3 (.tu (.cons (.same rfl rfl) (.cons (.same rfl rfl) (.cons (.same rfl rfl) (.nil)))))) zB) ?_
 refine zA (fun x4 h5=>?_)
 refine zA (fun x6 h7=>?_)
 refine J_d 14 [(5,4)] [7] [(7,pp 4)] [0,3,4] [(0,.box (zC.enc false x4.2)),(3,rE 2 (File.enc false) x6.zP.Files),(4,.box [rr 3 x6.zP.Files,iv x6.zP.Budget,iv x6.zP.Writes,iv x6.zP.Stop,bv x6.zP.Down])] (zD 1 (vM 34 2 1 2 zF [400,1000,200,20000] [0,1,2,3] [(.const (.int .i64 400)),(.const (.int .i64 1000)),(.const (.int .i64 200)),(.const (.int .i64 20000))] [iv 400,iv 1000,iv 200,iv 20000]) (zD 2 (xH («as»:=[pp 0,rr 2 [400,1000,200,20000]]) [(.tmp 14),(.tmp 15)] [35,34] false [(0,.box (zC.enc false x2.2.2.2)),(2,rE 1 zF [400,1000,200,20000])] [0,2] (.cons (.pt rfl) (.cons (.rf rfl) (.nil))) (zT.ok x2.2.2.2 [400,1000,200,20000]) h5 (.same rfl rfl)) (zD 3 (xH («as»:=[iv x4.1]) [(.tmp 16)] [2] false [] [] (.cons (.same rfl) (.nil)) (zB4.ok x4.1) h7 (.ag (.cons (.same rfl rfl) (.cons (.own 3) (.cons (.same rfl rfl) (.cons (.same rfl rfl) (.cons (.same rfl rfl) (.cons (.same rfl rfl) (.nil))))))))) zB))) ?_
 refine zA (fun x8 h9=>?_)
 refine zU (atI c12 61) (fun v16:Bool=>St.mk' [(0,pp 0),(3,pp 1),(4,sl 8 (Pack.enc false) x2.1),(5,sl 1 zF x2.2.1),(6,sl 1 zF x2.2.2.1),(7,pp 4),(31,bv v16)] [(0,.box (zC.enc false x4.2)),(1,.box [nv,iv 0,iv 0,iv 0,bv false]),(3,rE 2 (File.enc false) x6.zP.Files),(4,.box [rr 3 x6.zP.Files,iv x6.zP.Budget,iv x6.zP.Writes,iv x6.zP.Stop,bv x6.zP.Down])]) (fun v16=>?_) (fun jv16=>?_)
 ·refine zU (atI c12 31) (fun v41:((List Int)×Int×(List File)×Int×Int×Int×Bool)=>St.mk' [(0,pp 0),(3,pp 1),(4,sl 8 (Pack.enc false) x2.1),(7,pp 4)] [(0,.box [sl 1 eU8 v41.1,iv v41.2.1]),(1,.box [nv,iv 0,iv 0,iv 0,bv false]),(4,.box [rr 5 v41.2.2.1,iv v41.2.2.2.1,iv v41.2.2.2.2.1,iv v41.2.2.2.2.2.1,bv v41.2.2.2.2.2.2]),(5,rE 2 (File.enc false) v41.2.2.1)]) (fun v41=>?_) (fun jv41=>?_)
  ·refine J_d 62 [] [] [] [4] [(4,.box [rr 5 v41.2.2.1,iv v41.2.2.2.1,iv 0,iv v41.2.2.2.2.2.1,bv v41.2.2.2.2.2.2])] zB ?_
   refine zA (fun x42 h43=>?_)
   refine J_g 252 [] [(0,pp 0),(3,pp 1),(4,sl 8 (Pack.enc false) x2.1),(7,pp 4),(54,iv x42.1)] [(0,.box (zC.enc false x42.2)),(1,.box [nv,iv 0,iv 0,iv 0,bv false]),(4,.box [rr 5 v41.2.2.1,iv v41.2.2.2.1,iv 0,iv v41.2.2.2.2.2.1,bv v41.2.2.2.2.2.2]),(5,rE 2 (File.enc false) v41.2.2.1)] (zD 1 (xH («as»:=[pp 0,iv 20]) [(.tmp 53),(.const (.int .i64 20))] [35,2] false [(0,.box [sl 1 eU8 v41.1,iv v41.2.1])] [0] (.cons (.pt rfl) (.cons (.same rfl) (.nil))) (zH.ok ({Code:=v41.1,At:=v41.2.1}:zC) 20) h43 (.same rfl rfl)) zB) ?_
   refine J_g 1012 [] [(0,pp 0),(3,pp 1),(4,sl 8 (Pack.enc false) x2.1),(7,pp 4),(54,iv x42.1),(55,bv (x42.1==0))] [(0,.box (zC.enc false x42.2)),(1,.box [nv,iv 0,iv 0,iv 0,bv false]),(4,.box [rr 5 v41.2.2.1,iv v41.2.2.2.1,iv 0,iv v41.2.2.2.2.2.1,bv v41.2.2.2.2.2.2]),(5,rE 2 (File.enc false) v41.2.2.1)] zB ?_
   refine zU (aft c12 506) (fun v78:((List Int)×Int×(List File)×Int×Int×Int×Bool)=>St.mk' [(3,pp 1),(4,sl 8 (Pack.enc false) x2.1),(7,pp 4)] [(0,.box [sl 1 eU8 v78.1,iv v78.2.1]),(1,.box [nv,iv 0,iv 0,iv 0,bv false]),(4,.box [rr 5 v78.2.2.1,iv v78.2.2.2.1,iv v78.2.2.2.2.1,iv v78.2.2.2.2.2.1,bv v78.2.2.2.2.2.2]),(5,rE 2 (File.enc false) v78.2.2.1)]) (fun v78=>?_) (fun jv78=>?_)
   ·refine J_g 254 [] [(2,sl 8 (Pack.enc false) x2.1),(3,pp 1)] [(0,.box [sl 1 eU8 v78.1,iv v78.2.1]),(1,.box [rr 5 v78.2.2.1,iv v78.2.2.2.1,iv v78.2.2.2.2.1,iv v78.2.2.2.2.2.1,bv v78.2.2.2.2.2.2]),(5,rE 2 (File.enc false) v78.2.2.1)] zB ?_
    refine vB [(2,sl 8 (Pack.enc false) x2.1),(3,pp 1)] [(5,rE 2 (File.enc false) v78.2.2.1),(0,.box [sl 1 eU8 v78.1,iv v78.2.1]),(1,.box [rr 5 v78.2.2.1,iv v78.2.2.2.1,iv v78.2.2.2.2.1,iv v78.2.2.2.2.2.1,bv v78.2.2.2.2.2.2])] (by kernel_rfl) ?_
    refine zEc 5 (z:=2) (xs:=v78.2.2.1.map (File.enc false)) (tm2:=[(2,sl 8 (Pack.enc false) x2.1),(3,pp 1)]) (hp2:=[(0,.box [sl 1 eU8 v78.1,iv v78.2.1]),(1,.box [sl 2 (File.enc false) v78.2.2.1,iv v78.2.2.2.1,iv v78.2.2.2.2.1,iv v78.2.2.2.2.2.1,bv v78.2.2.2.2.2.2])]) (.cons (.keep rfl) (.cons (.keep rfl) (.nil))) (.keep rfl (.box rfl (.cons (.rf (by simp) (jG (enc:=(File.enc false)) (enc':=(File.enc false)) (File.ro false) v78.2.2.1 rfl rfl)) (.cons (.keep rfl) (.cons (.keep rfl) (.cons (.keep rfl) (.cons (.keep rfl) (.nil)))))) (.nil))) rfl ?_
    exact zPj rfl
   ·refine zG 55 (fun h44=>?_) (fun h44=>?_)
    ·refine zA (fun x45 h46=>?_)
     refine zA (fun x47 h48=>?_)
     refine tT 4 (cs':=[so 2 (File.enc false) v41.2.2.1,iv v41.2.2.2.1,iv 0,iv v41.2.2.2.2.2.1,bv v41.2.2.2.2.2.2]) (ts:=[5]) rfl (.move (.tail _ (.tail _ (.head _))) (qC _) (by decide) (.keep rfl (.keep rfl (.keep rfl (.keep rfl (.nil)))))) ?_
     refine vB [(0,pp 0),(3,pp 1),(4,sl 8 (Pack.enc false) x2.1),(7,pp 4),(54,iv x42.1),(55,bv true)] [(0,.box (zC.enc false x42.2)),(1,.box [nv,iv 0,iv 0,iv 0,bv false]),(4,.box [so 2 (File.enc false) v41.2.2.1,iv v41.2.2.2.1,iv 0,iv v41.2.2.2.2.2.1,bv v41.2.2.2.2.2.2])] (by kernel_rfl) ?_
     refine zA (fun x49 h50=>?_)
     refine J_g 2026 [] [(3,pp 1),(4,sl 8 (Pack.enc false) x2.1),(7,pp 4)] [(0,.box (zC.enc false x45.2)),(1,.box [nv,iv 0,iv 0,iv 0,bv false]),(4,.box [so 2 (File.enc false) x49.2.Files,iv x49.2.Budget,iv x49.2.Writes,iv x49.2.Stop,bv x49.2.Down])] (zD 0 (vM 69 9 1 5 eStr [bs [],bs [55],bs [120],bs [48,48,48,48,48,49],bs [49,48,48,48,48,48,48]] [0,1,2,3,4] [(.const (.string (bs []))),(.const (.string (bs [55]))),(.const (.string (bs [120]))),(.const (.string (bs [48,48,48,48,48,49]))),(.const (.string (bs [49,48,48,48,48,48,48])))] [sv (bs []),sv (bs [55]),sv (bs [120]),sv (bs [48,48,48,48,48,49]),sv (bs [49,48,48,48,48,48,48])]) (zD 2 (xH («as»:=[pp 0,iv 5]) [(.tmp 58),(.const (.int .i64 5))] [35,2] false [(0,.box (zC.enc false x42.2))] [0] (.cons (.pt rfl) (.cons (.same rfl) (.nil))) (zH.ok x42.2 5) h46 (.same rfl rfl)) (zD 3 (zAb (kk:=.i64) 69 9 1 5 eStr (.tmp 57) (.tmp 59) h48) (zD 4 (zAa (d:=sv x47) 9 1 5 0 eStr (.tmp 60) h48 (by kernel_rfl)) (zD 5 (zNQ (s:=x47) 9 22 5 (.tmp 61)) (zD 6 (xH («as»:=[pp 4,sv (bs [99,117,114]),sl 1 eU8 (s2b x47)]) [(.tmp 7),(.const (.string (bs [99,117,114]))),(.tmp 62)] [43,9,22] false [(4,.box [so 2 (File.enc false) v41.2.2.1,iv v41.2.2.2.1,iv 0,iv v41.2.2.2.2.2.1,bv v41.2.2.2.2.2.2])] [4] (.cons (.pt rfl) (.cons (.same rfl) (.cons (.same rfl) (.nil)))) (uZ.ok ({Files:=v41.2.2.1,Budget:=v41.2.2.2.1,Writes:=0,Stop:=v41.2.2.2.2.2.1,Down:=v41.2.2.2.2.2.2}:zP) (bs [99,117,114]) (s2b x47)) h50 (.same rfl rfl)) zB)))))) ?_
     refine vF 4 (cs':=[rr 5 x49.2.Files,iv x49.2.Budget,iv x49.2.Writes,iv x49.2.Stop,bv x49.2.Down]) (es:=[(5,rE 2 (File.enc false) x49.2.Files)]) rfl (.cons (.own 5) (.cons (.same rfl rfl) (.cons (.same rfl rfl) (.cons (.same rfl rfl) (.cons (.same rfl rfl) (.nil)))))) rfl (by kernel_rfl) (by kernel_rfl) ?_
     refine vB [(3,pp 1),(4,sl 8 (Pack.enc false) x2.1),(7,pp 4)] [(0,.box (zC.enc false x45.2)),(1,.box [nv,iv 0,iv 0,iv 0,bv false]),(4,.box [rr 5 x49.2.Files,iv x49.2.Budget,iv x49.2.Writes,iv x49.2.Stop,bv x49.2.Down]),(5,rE 2 (File.enc false) x49.2.Files)] (by kernel_rfl) ?_
     exact zN (J_j (jv78 (x45.2.Code,x45.2.At,x49.2.Files,x49.2.Budget,x49.2.Writes,x49.2.Stop,x49.2.Down))) rfl
    ·refine J_g 4054 [] [(0,pp 0),(3,pp 1),(4,sl 8 (Pack.enc false) x2.1),(7,pp 4),(54,iv x42.1),(64,bv (x42.1==1))] [(0,.box (zC.enc false x42.2)),(1,.box [nv,iv 0,iv 0,iv 0,bv false]),(4,.box [rr 5 v41.2.2.1,iv v41.2.2.2.1,iv 0,iv v41.2.2.2.2.2.1,bv v41.2.2.2.2.2.2]),(5,rE 2 (File.enc false) v41.2.2.1)] zB ?_
     refine zG 64 (fun h51=>?_) (fun h51=>?_)
     ·refine zA (fun x52 h53=>?_)
      refine zA (fun x54 h55=>?_)
      refine tT 4 (cs':=[so 2 (File.enc false) v41.2.2.1,iv v41.2.2.2.1,iv 0,iv v41.2.2.2.2.2.1,bv v41.2.2.2.2.2.2]) (ts:=[5]) rfl (.move (.tail _ (.tail _ (.head _))) (qC _) (by decide) (.keep rfl (.keep rfl (.keep rfl (.keep rfl (.nil)))))) ?_
      refine vB [(0,pp 0),(3,pp 1),(4,sl 8 (Pack.enc false) x2.1),(7,pp 4),(54,iv x42.1),(64,bv true)] [(0,.box (zC.enc false x42.2)),(1,.box [nv,iv 0,iv 0,iv 0,bv false]),(4,.box [so 2 (File.enc false) v41.2.2.1,iv v41.2.2.2.1,iv 0,iv v41.2.2.2.2.2.1,bv v41.2.2.2.2.2.2])] (by kernel_rfl) ?_
      refine zA (fun x56 h57=>?_)
      refine J_g 8110 [] [(3,pp 1),(4,sl 8 (Pack.enc false) x2.1),(7,pp 4)] [(0,.box (zC.enc false x52.2)),(1,.box [nv,iv 0,iv 0,iv 0,bv false]),(4,.box [so 2 (File.enc false) x56.2.Files,iv x56.2.Budget,iv x56.2.Writes,iv x56.2.Stop,bv x56.2.Down])] (zD 0 (vM 69 9 1 5 eStr [bs [122,122,32,49,10],bs [97,32,49,10,97,32,49,10],bs [97,10]] [0,1,2] [(.const (.string (bs [122,122,32,49,10]))),(.const (.string (bs [97,32,49,10,97,32,49,10]))),(.const (.string (bs [97,10])))] [sv (bs [122,122,32,49,10]),sv (bs [97,32,49,10,97,32,49,10]),sv (bs [97,10])]) (zD 2 (xH («as»:=[pp 0,iv 3]) [(.tmp 67),(.const (.int .i64 3))] [35,2] false [(0,.box (zC.enc false x42.2))] [0] (.cons (.pt rfl) (.cons (.same rfl) (.nil))) (zH.ok x42.2 3) h53 (.same rfl rfl)) (zD 3 (zAb (kk:=.i64) 69 9 1 5 eStr (.tmp 66) (.tmp 68) h55) (zD 4 (zAa (d:=sv x54) 9 1 5 0 eStr (.tmp 69) h55 (by kernel_rfl)) (zD 5 (zNQ (s:=x54) 9 22 5 (.tmp 70)) (zD 6 (xH («as»:=[pp 4,sv (bs [103,101,110,47,48,48,48,48,48,57]),sl 1 eU8 (s2b x54)]) [(.tmp 7),(.const (.string (bs [103,101,110,47,48,48,48,48,48,57]))),(.tmp 71)] [43,9,22] false [(4,.box [so 2 (File.enc false) v41.2.2.1,iv v41.2.2.2.1,iv 0,iv v41.2.2.2.2.2.1,bv v41.2.2.2.2.2.2])] [4] (.cons (.pt rfl) (.cons (.same rfl) (.cons (.same rfl) (.nil)))) (uZ.ok ({Files:=v41.2.2.1,Budget:=v41.2.2.2.1,Writes:=0,Stop:=v41.2.2.2.2.2.1,Down:=v41.2.2.2.2.2.2}:zP) (bs [103,101,110,47,48,48,48,48,48,57]) (s2b x54)) h57 (.same rfl rfl)) zB)))))) ?_
      refine vF 4 (cs':=[rr 5 x56.2.Files,iv x56.2.Budget,iv x56.2.Writes,iv x56.2.Stop,bv x56.2.Down]) (es:=[(5,rE 2 (File.enc false) x56.2.Files)]) rfl (.cons (.own 5) (.cons (.same rfl rfl) (.cons (.same rfl rfl) (.cons (.same rfl rfl) (.cons (.same rfl rfl) (.nil)))))) rfl (by kernel_rfl) (by kernel_rfl) ?_
      refine vB [(3,pp 1),(4,sl 8 (Pack.enc false) x2.1),(7,pp 4)] [(0,.box (zC.enc false x52.2)),(1,.box [nv,iv 0,iv 0,iv 0,bv false]),(4,.box [rr 5 x56.2.Files,iv x56.2.Budget,iv x56.2.Writes,iv x56.2.Stop,bv x56.2.Down]),(5,rE 2 (File.enc false) x56.2.Files)] (by kernel_rfl) ?_
      exact zN (J_j (jv78 (x52.2.Code,x52.2.At,x56.2.Files,x56.2.Budget,x56.2.Writes,x56.2.Stop,x56.2.Down))) rfl
     ·refine J_g 16222 [] [(0,pp 0),(3,pp 1),(4,sl 8 (Pack.enc false) x2.1),(7,pp 4),(54,iv x42.1),(73,bv (x42.1==2))] [(0,.box (zC.enc false x42.2)),(1,.box [nv,iv 0,iv 0,iv 0,bv false]),(4,.box [rr 5 v41.2.2.1,iv v41.2.2.2.1,iv 0,iv v41.2.2.2.2.2.1,bv v41.2.2.2.2.2.2]),(5,rE 2 (File.enc false) v41.2.2.1)] zB ?_
      refine zG 73 (fun h58=>?_) (fun h58=>?_)
      ·refine tT 4 (cs':=[so 2 (File.enc false) v41.2.2.1,iv v41.2.2.2.1,iv 0,iv v41.2.2.2.2.2.1,bv v41.2.2.2.2.2.2]) (ts:=[5]) rfl (.move (.tail _ (.tail _ (.head _))) (qC _) (by decide) (.keep rfl (.keep rfl (.keep rfl (.keep rfl (.nil)))))) ?_
       refine vB [(0,pp 0),(3,pp 1),(4,sl 8 (Pack.enc false) x2.1),(7,pp 4),(54,iv x42.1),(73,bv true)] [(0,.box (zC.enc false x42.2)),(1,.box [nv,iv 0,iv 0,iv 0,bv false]),(4,.box [so 2 (File.enc false) v41.2.2.1,iv v41.2.2.2.1,iv 0,iv v41.2.2.2.2.2.1,bv v41.2.2.2.2.2.2])] (by kernel_rfl) ?_
       refine zA (fun x59 h60=>?_)
       refine J_g 32446 [] [(3,pp 1),(4,sl 8 (Pack.enc false) x2.1),(7,pp 4)] [(0,.box (zC.enc false x42.2)),(1,.box [nv,iv 0,iv 0,iv 0,bv false]),(4,.box [so 2 (File.enc false) x59.2.Files,iv x59.2.Budget,iv x59.2.Writes,iv x59.2.Stop,bv x59.2.Down])] (zD 0 (vM 22 5 1 5 eU8 [120] [0] [(.const (.int .u8 120))] [uv 120]) (zD 1 (zSd (xs:=[120]) 22 5 5 (.tmp 75)) (zD 2 (xH («as»:=[pp 4,sv (bs [103,101,110,47,57]),sl 1 eU8 [120]]) [(.tmp 7),(.const (.string (bs [103,101,110,47,57]))),(.tmp 76)] [43,9,22] false [(4,.box [so 2 (File.enc false) v41.2.2.1,iv v41.2.2.2.1,iv 0,iv v41.2.2.2.2.2.1,bv v41.2.2.2.2.2.2])] [4] (.cons (.pt rfl) (.cons (.same rfl) (.cons (.same rfl) (.nil)))) (uZ.ok ({Files:=v41.2.2.1,Budget:=v41.2.2.2.1,Writes:=0,Stop:=v41.2.2.2.2.2.1,Down:=v41.2.2.2.2.2.2}:zP) (bs [103,101,110,47,57]) [120]) h60 (.same rfl rfl)) zB))) ?_
       refine vF 4 (cs':=[rr 5 x59.2.Files,iv x59.2.Budget,iv x59.2.Writes,iv x59.2.Stop,bv x59.2.Down]) (es:=[(5,rE 2 (File.enc false) x59.2.Files)]) rfl (.cons (.own 5) (.cons (.same rfl rfl) (.cons (.same rfl rfl) (.cons (.same rfl rfl) (.cons (.same rfl rfl) (.nil)))))) rfl (by kernel_rfl) (by kernel_rfl) ?_
       refine vB [(3,pp 1),(4,sl 8 (Pack.enc false) x2.1),(7,pp 4)] [(0,.box (zC.enc false x42.2)),(1,.box [nv,iv 0,iv 0,iv 0,bv false]),(4,.box [rr 5 x59.2.Files,iv x59.2.Budget,iv x59.2.Writes,iv x59.2.Stop,bv x59.2.Down]),(5,rE 2 (File.enc false) x59.2.Files)] (by kernel_rfl) ?_
       exact zN (J_j (jv78 (x42.2.Code,x42.2.At,x59.2.Files,x59.2.Budget,x59.2.Writes,x59.2.Stop,x59.2.Down))) rfl
      ·refine J_g 64894 [] [(0,pp 0),(3,pp 1),(4,sl 8 (Pack.enc false) x2.1),(7,pp 4),(54,iv x42.1),(78,bv (x42.1==3))] [(0,.box (zC.enc false x42.2)),(1,.box [nv,iv 0,iv 0,iv 0,bv false]),(4,.box [rr 5 v41.2.2.1,iv v41.2.2.2.1,iv 0,iv v41.2.2.2.2.2.1,bv v41.2.2.2.2.2.2]),(5,rE 2 (File.enc false) v41.2.2.1)] zB ?_
       refine zG 78 (fun h61=>?_) (fun h61=>?_)
       ·refine zA (fun x62 h63=>?_)
        refine zA (fun x64 h65=>?_)
        refine tT 4 (cs':=[so 2 (File.enc false) v41.2.2.1,iv v41.2.2.2.1,iv 0,iv v41.2.2.2.2.2.1,bv v41.2.2.2.2.2.2]) (ts:=[5]) rfl (.move (.tail _ (.tail _ (.head _))) (qC _) (by decide) (.keep rfl (.keep rfl (.keep rfl (.keep rfl (.nil)))))) ?_
        refine vB [(0,pp 0),(3,pp 1),(4,sl 8 (Pack.enc false) x2.1),(7,pp 4),(54,iv x42.1),(78,bv true)] [(0,.box (zC.enc false x42.2)),(1,.box [nv,iv 0,iv 0,iv 0,bv false]),(4,.box [so 2 (File.enc false) v41.2.2.1,iv v41.2.2.2.1,iv 0,iv v41.2.2.2.2.2.1,bv v41.2.2.2.2.2.2])] (by kernel_rfl) ?_
        refine zA (fun x66 h67=>?_)
        refine J_g 129790 [] [(3,pp 1),(4,sl 8 (Pack.enc false) x2.1),(7,pp 4)] [(0,.box (zC.enc false x62.2)),(1,.box [nv,iv 0,iv 0,iv 0,bv false]),(4,.box [so 2 (File.enc false) x66.2.Files,iv x66.2.Budget,iv x66.2.Writes,iv x66.2.Stop,bv x66.2.Down])] (zD 0 (vM 69 9 1 5 eStr [bs [97],bs [97,10,97,62,61,49,10],bs [97,62,61,49,10],bs [10],bs [97,32,10]] [0,1,2,3,4] [(.const (.string (bs [97]))),(.const (.string (bs [97,10,97,62,61,49,10]))),(.const (.string (bs [97,62,61,49,10]))),(.const (.string (bs [10]))),(.const (.string (bs [97,32,10])))] [sv (bs [97]),sv (bs [97,10,97,62,61,49,10]),sv (bs [97,62,61,49,10]),sv (bs [10]),sv (bs [97,32,10])]) (zD 2 (xH («as»:=[pp 0,iv 5]) [(.tmp 81),(.const (.int .i64 5))] [35,2] false [(0,.box (zC.enc false x42.2))] [0] (.cons (.pt rfl) (.cons (.same rfl) (.nil))) (zH.ok x42.2 5) h63 (.same rfl rfl)) (zD 3 (zAb (kk:=.i64) 69 9 1 5 eStr (.tmp 80) (.tmp 82) h65) (zD 4 (zAa (d:=sv x64) 9 1 5 0 eStr (.tmp 83) h65 (by kernel_rfl)) (zD 5 (zNQ (s:=x64) 9 22 5 (.tmp 84)) (zD 6 (xH («as»:=[pp 4,sv (bs [114,111,111,116,115]),sl 1 eU8 (s2b x64)]) [(.tmp 7),(.const (.string (bs [114,111,111,116,115]))),(.tmp 85)] [43,9,22] false [(4,.box [so 2 (File.enc false) v41.2.2.1,iv v41.2.2.2.1,iv 0,iv v41.2.2.2.2.2.1,bv v41.2.2.2.2.2.2])] [4] (.cons (.pt rfl) (.cons (.same rfl) (.cons (.same rfl) (.nil)))) (uZ.ok ({Files:=v41.2.2.1,Budget:=v41.2.2.2.1,Writes:=0,Stop:=v41.2.2.2.2.2.1,Down:=v41.2.2.2.2.2.2}:zP) (bs [114,111,111,116,115]) (s2b x64)) h67 (.same rfl rfl)) zB)))))) ?_
        refine vF 4 (cs':=[rr 5 x66.2.Files,iv x66.2.Budget,iv x66.2.Writes,iv x66.2.Stop,bv x66.2.Down]) (es:=[(5,rE 2 (File.enc false) x66.2.Files)]) rfl (.cons (.own 5) (.cons (.same rfl rfl) (.cons (.same rfl rfl) (.cons (.same rfl rfl) (.cons (.same rfl rfl) (.nil)))))) rfl (by kernel_rfl) (by kernel_rfl) ?_
        refine vB [(3,pp 1),(4,sl 8 (Pack.enc false) x2.1),(7,pp 4)] [(0,.box (zC.enc false x62.2)),(1,.box [nv,iv 0,iv 0,iv 0,bv false]),(4,.box [rr 5 x66.2.Files,iv x66.2.Budget,iv x66.2.Writes,iv x66.2.Stop,bv x66.2.Down]),(5,rE 2 (File.enc false) x66.2.Files)] (by kernel_rfl) ?_
        exact zN (J_j (jv78 (x62.2.Code,x62.2.At,x66.2.Files,x66.2.Budget,x66.2.Writes,x66.2.Stop,x66.2.Down))) rfl
       ·refine J_d 259582 [] [78,87] [(87,bv (x42.1==4))] [] [] zB ?_
        refine zG 87 (fun h68=>?_) (fun h68=>?_)
        ·refine zA (fun x69 h70=>?_)
         refine J_d 519166 [] [0,54,87] [] [0,4,5,6] [(0,.box (zC.enc false x69.2)),(4,.box [rr 6 x69.1.Files,iv x69.1.Budget,iv x69.1.Writes,iv x69.1.Stop,bv x69.1.Down]),(6,rE 2 (File.enc false) x69.1.Files)] (zD 1 (xH («as»:=[pp 0]) [(.tmp 89)] [35] false [(0,.box (zC.enc false x42.2))] [0] (.cons (.pt rfl) (.nil)) (zEd.ok x42.2) h70 (.ag (.cons (.own 6) (.cons (.same rfl rfl) (.cons (.same rfl rfl) (.cons (.same rfl rfl) (.cons (.same rfl rfl) (.nil)))))))) zB) ?_
         refine xV 6 5 (qB rfl) (qB rfl) ?_
         exact zN (J_j (jv78 (x69.2.Code,x69.2.At,x69.1.Files,x69.1.Budget,x69.1.Writes,x69.1.Stop,x69.1.Down))) rfl
        ·refine J_d 1038334 [] [0,87,91] [(91,bv (x42.1==5))] [] [] zB ?_
         refine zG 91 (fun h71=>?_) (fun h71=>?_)
         ·refine J_d 4153340 [] [54,91,96] [(96,bv (decide ((v41.2.2.1.length:Int)>0)))] [] [] zB ?_
          refine zG 96 (fun h72=>?_) (fun h72=>?_)
          ·refine zA (fun x73 h74=>?_)
           refine J_d 8306682 [] [96] [] [4,5,6] [(4,.box [rr 6 x73,iv v41.2.2.2.1,iv 0,iv v41.2.2.2.2.2.1,bv v41.2.2.2.2.2.2]),(6,rE 2 (File.enc false) x73)] (zD 6 (zQK 37 114 2 5 6 (File.enc false) (.tmp 98) none (some (.tmp 102)) h74) zB) ?_
           refine xV 6 5 (qB rfl) (qB rfl) ?_
           exact zN (J_j (jv78 (x42.2.Code,x42.2.At,x73,v41.2.2.2.1,0,v41.2.2.2.2.2.1,v41.2.2.2.2.2.2))) rfl
          ·exact zN (J_j (jv78 (x42.2.Code,x42.2.At,v41.2.2.1,v41.2.2.2.1,0,v41.2.2.2.2.2.1,v41.2.2.2.2.2.2))) rfl
         ·refine J_g 4153342 [] [(3,pp 1),(4,sl 8 (Pack.enc false) x2.1),(7,pp 4),(105,bv (x42.1==6))] [(0,.box (zC.enc false x42.2)),(1,.box [nv,iv 0,iv 0,iv 0,bv false]),(4,.box [rr 5 v41.2.2.1,iv v41.2.2.2.1,iv 0,iv v41.2.2.2.2.2.1,bv v41.2.2.2.2.2.2]),(5,rE 2 (File.enc false) v41.2.2.1)] zB ?_
          refine zG 105 (fun h75=>?_) (fun h75=>?_)
          ·refine tT 4 (cs':=[so 2 (File.enc false) v41.2.2.1,iv v41.2.2.2.1,iv 0,iv v41.2.2.2.2.2.1,bv v41.2.2.2.2.2.2]) (ts:=[5]) rfl (.move (.tail _ (.tail _ (.head _))) (qC _) (by decide) (.keep rfl (.keep rfl (.keep rfl (.keep rfl (.nil)))))) ?_
           refine vB [(3,pp 1),(4,sl 8 (Pack.enc false) x2.1),(7,pp 4),(105,bv true)] [(0,.box (zC.enc false x42.2)),(1,.box [nv,iv 0,iv 0,iv 0,bv false]),(4,.box [so 2 (File.enc false) v41.2.2.1,iv v41.2.2.2.1,iv 0,iv v41.2.2.2.2.2.1,bv v41.2.2.2.2.2.2])] (by kernel_rfl) ?_
           refine zA (fun x76 h77=>?_)
           refine J_g 8306686 [] [(3,pp 1),(4,sl 8 (Pack.enc false) x2.1),(7,pp 4)] [(0,.box (zC.enc false x42.2)),(1,.box [nv,iv 0,iv 0,iv 0,bv false]),(4,.box [so 2 (File.enc false) x76.2.Files,iv x76.2.Budget,iv x76.2.Writes,iv x76.2.Stop,bv x76.2.Down])] (zD 0 (xH («as»:=[pp 4,sv (bs [103,101,110,47,57,57,57,57,57,57]),nv]) [(.tmp 7),(.const (.string (bs [103,101,110,47,57,57,57,57,57,57]))),(.const (.slice none 0 0))] [43,9,22] false [(4,.box [so 2 (File.enc false) v41.2.2.1,iv v41.2.2.2.1,iv 0,iv v41.2.2.2.2.2.1,bv v41.2.2.2.2.2.2])] [4] (.cons (.pt rfl) (.cons (.same rfl) (.cons (.nil false 1) (.nil)))) (uZ.ok ({Files:=v41.2.2.1,Budget:=v41.2.2.2.1,Writes:=0,Stop:=v41.2.2.2.2.2.1,Down:=v41.2.2.2.2.2.2}:zP) (bs [103,101,110,47,57,57,57,57,57,57]) ([]:List Int)) h77 (.same rfl rfl)) zB) ?_
           refine vF 4 (cs':=[rr 5 x76.2.Files,iv x76.2.Budget,iv x76.2.Writes,iv x76.2.Stop,bv x76.2.Down]) (es:=[(5,rE 2 (File.enc false) x76.2.Files)]) rfl (.cons (.own 5) (.cons (.same rfl rfl) (.cons (.same rfl rfl) (.cons (.same rfl rfl) (.cons (.same rfl rfl) (.nil)))))) rfl (by kernel_rfl) (by kernel_rfl) ?_
           refine vB [(3,pp 1),(4,sl 8 (Pack.enc false) x2.1),(7,pp 4)] [(0,.box (zC.enc false x42.2)),(1,.box [nv,iv 0,iv 0,iv 0,bv false]),(4,.box [rr 5 x76.2.Files,iv x76.2.Budget,iv x76.2.Writes,iv x76.2.Stop,bv x76.2.Down]),(5,rE 2 (File.enc false) x76.2.Files)] (by kernel_rfl) ?_
           exact zN (J_j (jv78 (x42.2.Code,x42.2.At,x76.2.Files,x76.2.Budget,x76.2.Writes,x76.2.Stop,x76.2.Down))) rfl
          ·exact zN (J_j (jv78 (x42.2.Code,x42.2.At,v41.2.2.1,v41.2.2.2.1,0,v41.2.2.2.2.2.1,v41.2.2.2.2.2.2))) rfl
  ·refine zG 31 (fun h17=>?_) (fun h17=>?_)
   ·refine zA (fun x18 h19=>?_)
    refine J_g 488 [] [(0,pp 0),(3,pp 1),(4,sl 8 (Pack.enc false) x2.1),(5,sl 1 zF x2.2.1),(6,sl 1 zF x2.2.2.1),(7,pp 4),(33,bv x18.1)] [(0,.box (zC.enc false x18.2)),(1,.box [nv,iv 0,iv 0,iv 0,bv false]),(3,rE 2 (File.enc false) x6.zP.Files),(4,.box [rr 3 x6.zP.Files,iv x6.zP.Budget,iv x6.zP.Writes,iv x6.zP.Stop,bv x6.zP.Down])] (zD 1 (xH («as»:=[pp 0,iv 2]) [(.tmp 32),(.const (.int .i64 2))] [35,2] false [(0,.box (zC.enc false x4.2))] [0] (.cons (.pt rfl) (.cons (.same rfl) (.nil))) (zI.ok x4.2 2) h19 (.same rfl rfl)) zB) ?_
    refine zU (atI c12 245) (fun v23:((List File)×Int×Int×Int×Bool)=>St.mk' [(0,pp 0),(3,pp 1),(4,sl 8 (Pack.enc false) x2.1),(6,sl 1 zF x2.2.2.1),(7,pp 4)] [(0,.box (zC.enc false x18.2)),(1,.box [nv,iv 0,iv 0,iv 0,bv false]),(4,.box [rr 5 v23.1,iv v23.2.1,iv v23.2.2.1,iv v23.2.2.2.1,bv v23.2.2.2.2]),(5,rE 2 (File.enc false) v23.1)]) (fun v23=>?_) (fun jv23=>?_)
    ·refine zA (fun x24 h25=>?_)
     refine J_g 980 [] [(0,pp 0),(3,pp 1),(4,sl 8 (Pack.enc false) x2.1),(6,sl 1 zF x2.2.2.1),(7,pp 4),(38,bv x24.1)] [(0,.box (zC.enc false x24.2)),(1,.box [nv,iv 0,iv 0,iv 0,bv false]),(4,.box [rr 5 v23.1,iv v23.2.1,iv v23.2.2.1,iv v23.2.2.2.1,bv v23.2.2.2.2]),(5,rE 2 (File.enc false) v23.1)] (zD 1 (xH («as»:=[pp 0,iv 2]) [(.tmp 37),(.const (.int .i64 2))] [35,2] false [(0,.box (zC.enc false x18.2))] [0] (.cons (.pt rfl) (.cons (.same rfl) (.nil))) (zI.ok x18.2 2) h25 (.same rfl rfl)) zB) ?_
     refine zU (atI c12 491) (fun v31:((List Int)×Int×(List File)×Int×Int×Int×Bool)=>St.mk' [(0,pp 0),(3,pp 1),(4,sl 8 (Pack.enc false) x2.1),(7,pp 4)] [(0,.box [sl 1 eU8 v31.1,iv v31.2.1]),(1,.box [nv,iv 0,iv 0,iv 0,bv false]),(4,.box [rr 5 v31.2.2.1,iv v31.2.2.2.1,iv v31.2.2.2.2.1,iv v31.2.2.2.2.2.1,bv v31.2.2.2.2.2.2]),(5,rE 2 (File.enc false) v31.2.2.1)]) (fun v31=>?_) (fun jv31=>?_)
     ·refine zA (fun x32 h33=>?_)
      refine J_g 982 [] [(0,pp 0),(3,pp 1),(4,sl 8 (Pack.enc false) x2.1),(7,pp 4),(45,bv x32.1)] [(0,.box (zC.enc false x32.2)),(1,.box [nv,iv 0,iv 0,iv 0,bv false]),(4,.box [rr 5 v31.2.2.1,iv v31.2.2.2.1,iv v31.2.2.2.2.1,iv v31.2.2.2.2.2.1,bv v31.2.2.2.2.2.2]),(5,rE 2 (File.enc false) v31.2.2.1)] (zD 1 (xH («as»:=[pp 0,iv 3]) [(.tmp 44),(.const (.int .i64 3))] [35,2] false [(0,.box [sl 1 eU8 v31.1,iv v31.2.1])] [0] (.cons (.pt rfl) (.cons (.same rfl) (.nil))) (zI.ok ({Code:=v31.1,At:=v31.2.1}:zC) 3) h33 (.same rfl rfl)) zB) ?_
      refine zG 45 (fun h34=>?_) (fun h34=>?_)
      ·refine zA (fun x35 h36=>?_)
       refine zA (fun x37 h38=>?_)
       refine tT 4 (cs':=[so 2 (File.enc false) v31.2.2.1,iv v31.2.2.2.1,iv v31.2.2.2.2.1,iv v31.2.2.2.2.2.1,bv v31.2.2.2.2.2.2]) (ts:=[5]) rfl (.move (.tail _ (.tail _ (.head _))) (qC _) (by decide) (.keep rfl (.keep rfl (.keep rfl (.keep rfl (.nil)))))) ?_
       refine vB [(0,pp 0),(3,pp 1),(4,sl 8 (Pack.enc false) x2.1),(7,pp 4),(45,bv true)] [(0,.box (zC.enc false x32.2)),(1,.box [nv,iv 0,iv 0,iv 0,bv false]),(4,.box [so 2 (File.enc false) v31.2.2.1,iv v31.2.2.2.1,iv v31.2.2.2.2.1,iv v31.2.2.2.2.2.1,bv v31.2.2.2.2.2.2])] (by kernel_rfl) ?_
       refine zA (fun x39 h40=>?_)
       refine J_g 1966 [] [(0,pp 0),(3,pp 1),(4,sl 8 (Pack.enc false) x2.1),(7,pp 4)] [(0,.box (zC.enc false x35.2)),(1,.box [nv,iv 0,iv 0,iv 0,bv false]),(4,.box [so 2 (File.enc false) x39.2.Files,iv x39.2.Budget,iv x39.2.Writes,iv x39.2.Stop,bv x39.2.Down])] (zD 2 (xH («as»:=[pp 0,sl 8 (Pack.enc false) x2.1]) [(.tmp 46),(.tmp 47)] [35,24] false [(0,.box (zC.enc false x32.2))] [0] (.cons (.pt rfl) (.cons (.same rfl) (.nil))) (vP.ok x32.2 x2.1) h36 (.own 5)) (zD 3 (xH («as»:=[rr 5 x35.1]) [(.tmp 48)] [25] true [(5,rE 7 Term.enc x35.1)] [] (.cons (zFJ (.head _) (fun _=>rfl) rfl) (.nil)) (zAH.ok x35.1) h38 (.same rfl rfl) (hbor:=fun _=>⟨fhN,wV⟩)) (zD 4 (zNQ (s:=x37) 9 22 5 (.tmp 49)) (zD 5 (xH («as»:=[pp 4,sv (bs [114,111,111,116,115]),sl 1 eU8 (s2b x37)]) [(.tmp 7),(.const (.string (bs [114,111,111,116,115]))),(.tmp 50)] [43,9,22] false [(4,.box [so 2 (File.enc false) v31.2.2.1,iv v31.2.2.2.1,iv v31.2.2.2.2.1,iv v31.2.2.2.2.2.1,bv v31.2.2.2.2.2.2])] [4] (.cons (.pt rfl) (.cons (.same rfl) (.cons (.same rfl) (.nil)))) (uZ.ok ({Files:=v31.2.2.1,Budget:=v31.2.2.2.1,Writes:=v31.2.2.2.2.1,Stop:=v31.2.2.2.2.2.1,Down:=v31.2.2.2.2.2.2}:zP) (bs [114,111,111,116,115]) (s2b x37)) h40 (.same rfl rfl)) zB)))) ?_
       refine vF 4 (cs':=[rr 5 x39.2.Files,iv x39.2.Budget,iv x39.2.Writes,iv x39.2.Stop,bv x39.2.Down]) (es:=[(5,rE 2 (File.enc false) x39.2.Files)]) rfl (.cons (.own 5) (.cons (.same rfl rfl) (.cons (.same rfl rfl) (.cons (.same rfl rfl) (.cons (.same rfl rfl) (.nil)))))) rfl (by kernel_rfl) (by kernel_rfl) ?_
       refine vB [(0,pp 0),(3,pp 1),(4,sl 8 (Pack.enc false) x2.1),(7,pp 4)] [(0,.box (zC.enc false x35.2)),(1,.box [nv,iv 0,iv 0,iv 0,bv false]),(4,.box [rr 5 x39.2.Files,iv x39.2.Budget,iv x39.2.Writes,iv x39.2.Stop,bv x39.2.Down]),(5,rE 2 (File.enc false) x39.2.Files)] (by kernel_rfl) ?_
       exact zN (J_j (jv41 (x35.2.Code,x35.2.At,x39.2.Files,x39.2.Budget,x39.2.Writes,x39.2.Stop,x39.2.Down))) rfl
      ·exact zN (J_j (jv41 (x32.2.Code,x32.2.At,v31.2.2.1,v31.2.2.2.1,v31.2.2.2.2.1,v31.2.2.2.2.2.1,v31.2.2.2.2.2.2))) rfl
     ·refine zG 38 (fun h26=>?_) (fun h26=>?_)
      ·refine zA (fun x27 h28=>?_)
       refine tT 4 (cs':=[so 2 (File.enc false) v23.1,iv v23.2.1,iv v23.2.2.1,iv v23.2.2.2.1,bv v23.2.2.2.2]) (ts:=[5]) rfl (.move (.tail _ (.tail _ (.head _))) (qC _) (by decide) (.keep rfl (.keep rfl (.keep rfl (.keep rfl (.nil)))))) ?_
       refine vB [(0,pp 0),(3,pp 1),(4,sl 8 (Pack.enc false) x2.1),(6,sl 1 zF x2.2.2.1),(7,pp 4),(38,bv true)] [(0,.box (zC.enc false x24.2)),(1,.box [nv,iv 0,iv 0,iv 0,bv false]),(4,.box [so 2 (File.enc false) v23.1,iv v23.2.1,iv v23.2.2.1,iv v23.2.2.2.1,bv v23.2.2.2.2])] (by kernel_rfl) ?_
       refine zA (fun x29 h30=>?_)
       refine J_g 1962 [] [(0,pp 0),(3,pp 1),(4,sl 8 (Pack.enc false) x2.1),(7,pp 4)] [(0,.box (zC.enc false x27.2)),(1,.box [nv,iv 0,iv 0,iv 0,bv false]),(4,.box [so 2 (File.enc false) x29.Files,iv x29.Budget,iv x29.Writes,iv x29.Stop,bv x29.Down])] (zD 3 (xH («as»:=[pp 0,iv 2]) [(.tmp 41),(.const (.int .i64 2))] [35,2] false [(0,.box (zC.enc false x24.2))] [0] (.cons (.pt rfl) (.cons (.same rfl) (.nil))) (zI.ok x24.2 2) h28 (.same rfl rfl)) (zD 4 (xH («as»:=[sl 8 (Pack.enc false) x2.1,pp 4,sl 1 zF x2.2.2.1,bv x27.1]) [(.tmp 39),(.tmp 7),(.tmp 40),(.tmp 42)] [24,43,34,4] false [(4,.box [so 2 (File.enc false) v23.1,iv v23.2.1,iv v23.2.2.1,iv v23.2.2.2.1,bv v23.2.2.2.2])] [4] (.cons (.same rfl) (.cons (.pt rfl) (.cons (.same rfl) (.cons (.same rfl) (.nil))))) (zJh.ok x2.1 ({Files:=v23.1,Budget:=v23.2.1,Writes:=v23.2.2.1,Stop:=v23.2.2.2.1,Down:=v23.2.2.2.2}:zP) x2.2.2.1 x27.1) h30 (.tu (.nil))) zB)) ?_
       refine vF 4 (cs':=[rr 5 x29.Files,iv x29.Budget,iv x29.Writes,iv x29.Stop,bv x29.Down]) (es:=[(5,rE 2 (File.enc false) x29.Files)]) rfl (.cons (.own 5) (.cons (.same rfl rfl) (.cons (.same rfl rfl) (.cons (.same rfl rfl) (.cons (.same rfl rfl) (.nil)))))) rfl (by kernel_rfl) (by kernel_rfl) ?_
       refine vB [(0,pp 0),(3,pp 1),(4,sl 8 (Pack.enc false) x2.1),(7,pp 4)] [(0,.box (zC.enc false x27.2)),(1,.box [nv,iv 0,iv 0,iv 0,bv false]),(4,.box [rr 5 x29.Files,iv x29.Budget,iv x29.Writes,iv x29.Stop,bv x29.Down]),(5,rE 2 (File.enc false) x29.Files)] (by kernel_rfl) ?_
       exact zN (J_j (jv31 (x27.2.Code,x27.2.At,x29.Files,x29.Budget,x29.Writes,x29.Stop,x29.Down))) rfl
      ·exact zN (J_j (jv31 (x24.2.Code,x24.2.At,v23.1,v23.2.1,v23.2.2.1,v23.2.2.2.1,v23.2.2.2.2))) rfl
    ·refine zG 33 (fun h20=>?_) (fun h20=>?_)
     ·refine tT 4 (cs':=[so 2 (File.enc false) x6.zP.Files,iv x6.zP.Budget,iv x6.zP.Writes,iv x6.zP.Stop,bv x6.zP.Down]) (ts:=[3]) rfl (.move (.tail _ (.tail _ (.head _))) (qC _) (by decide) (.keep rfl (.keep rfl (.keep rfl (.keep rfl (.nil)))))) ?_
      refine vB [(0,pp 0),(3,pp 1),(4,sl 8 (Pack.enc false) x2.1),(5,sl 1 zF x2.2.1),(6,sl 1 zF x2.2.2.1),(7,pp 4),(33,bv true)] [(0,.box (zC.enc false x18.2)),(1,.box [nv,iv 0,iv 0,iv 0,bv false]),(4,.box [so 2 (File.enc false) x6.zP.Files,iv x6.zP.Budget,iv x6.zP.Writes,iv x6.zP.Stop,bv x6.zP.Down])] (by kernel_rfl) ?_
      refine zA (fun x21 h22=>?_)
      refine J_g 978 [] [(0,pp 0),(3,pp 1),(4,sl 8 (Pack.enc false) x2.1),(6,sl 1 zF x2.2.2.1),(7,pp 4)] [(0,.box (zC.enc false x18.2)),(1,.box [nv,iv 0,iv 0,iv 0,bv false]),(4,.box [so 2 (File.enc false) x21.Files,iv x21.Budget,iv x21.Writes,iv x21.Stop,bv x21.Down])] (zD 2 (xH («as»:=[sl 8 (Pack.enc false) x2.1,pp 4,sl 1 zF x2.2.1,bv true]) [(.tmp 34),(.tmp 7),(.tmp 35),(.const (.bool true))] [24,43,34,4] false [(4,.box [so 2 (File.enc false) x6.zP.Files,iv x6.zP.Budget,iv x6.zP.Writes,iv x6.zP.Stop,bv x6.zP.Down])] [4] (.cons (.same rfl) (.cons (.pt rfl) (.cons (.same rfl) (.cons (.same rfl) (.nil))))) (zJh.ok x2.1 x6.zP x2.2.1 true) h22 (.tu (.nil))) zB) ?_
      refine vF 4 (cs':=[rr 5 x21.Files,iv x21.Budget,iv x21.Writes,iv x21.Stop,bv x21.Down]) (es:=[(5,rE 2 (File.enc false) x21.Files)]) rfl (.cons (.own 5) (.cons (.same rfl rfl) (.cons (.same rfl rfl) (.cons (.same rfl rfl) (.cons (.same rfl rfl) (.nil)))))) rfl (by kernel_rfl) (by kernel_rfl) ?_
      refine vB [(0,pp 0),(3,pp 1),(4,sl 8 (Pack.enc false) x2.1),(6,sl 1 zF x2.2.2.1),(7,pp 4)] [(0,.box (zC.enc false x18.2)),(1,.box [nv,iv 0,iv 0,iv 0,bv false]),(4,.box [rr 5 x21.Files,iv x21.Budget,iv x21.Writes,iv x21.Stop,bv x21.Down]),(5,rE 2 (File.enc false) x21.Files)] (by kernel_rfl) ?_
      exact zN (J_j (jv23 (x21.Files,x21.Budget,x21.Writes,x21.Stop,x21.Down))) rfl
     ·refine xV 3 5 (qB rfl) (qB rfl) ?_
      exact zN (J_j (jv23 (x6.zP.Files,x6.zP.Budget,x6.zP.Writes,x6.zP.Stop,x6.zP.Down))) rfl
   ·refine xV 3 5 (qB rfl) (qB rfl) ?_
    exact zN (J_j (jv41 (x4.2.Code,x4.2.At,x6.zP.Files,x6.zP.Budget,x6.zP.Writes,x6.zP.Stop,x6.zP.Down))) rfl
 ·refine xB (fun h10=>?_) (fun h10=>?_)
  ·refine zA (fun x11 h12=>?_)
   refine xB (fun h13=>?_) (fun h13=>?_)
   ·refine zA (fun x14 h15=>?_)
    refine J_d 60 [] [31] [(31,bv x14)] [] [] (zD 1 (yG [(.tmp 19)] [24] (zY.ok x2.1) h9) (yO 3 [(21,bv (x8==0))] [] h10 (uD 6 3 22 true (yG [(.tmp 23),(.tmp 24)] [24,34] (jD.ok x2.1 x2.2.1) h12) (yO 8 [(26,bv x11)] [] h13 (uD 11 8 27 true (yG [(.tmp 28),(.tmp 29)] [24,34] (jD.ok x2.1 x2.2.2.1) h15) zB))))) ?_
    exact zN (J_j (jv16 x14)) rfl
   ·refine J_d 60 [] [31] [(31,bv false)] [] [] (zD 1 (yG [(.tmp 19)] [24] (zY.ok x2.1) h9) (yO 3 [(21,bv (x8==0))] [] h10 (uD 6 3 22 true (yG [(.tmp 23),(.tmp 24)] [24,34] (jD.ok x2.1 x2.2.1) h12) (yO 8 [(26,bv x11)] [] h13 zB)))) ?_
    exact zN (J_j (jv16 false)) rfl
  ·refine J_d 60 [] [31] [(31,bv false)] [] [] (zD 1 (yG [(.tmp 19)] [24] (zY.ok x2.1) h9) (yO 3 [(21,bv (x8==0))] [] h10 zB)) ?_
   exact zN (J_j (jv16 false)) rfl
def zTm:Code:=cdB Tryz.f165
theorem zEg.ok (a1:Int):Ok Tryz.prog 165 [uv a1] [] ((zEg a1).map fun r=>(bv r,[])):=by
 refine zJ zTm Tryz.f165 0 17 (fun q=>?_)
 unfold zEg
 refine J_g 2 [] [(0,uv a1)] [] zB ?_
 refine zA (fun x2 h3=>?_)
 refine xB (fun h4=>?_) (fun h4=>?_)
 ·refine J_g 6 [] [(2,bv true)] [] (zD 1 (yG [(.tmp 3)] [5] (vE.ok a1) h3) (yO 2 [(4,bv x2)] [] h4 zB)) ?_
  exact yA rfl
 ·refine xB (fun h5=>?_) (fun h5=>?_)
  ·refine J_g 6 [] [(2,bv true)] [] (zD 1 (yG [(.tmp 3)] [5] (vE.ok a1) h3) (yO 2 [(4,bv x2)] [] h4 (yO 6 [(8,bv (a1==46))] [] h5 zB))) ?_
   exact yA rfl
  ·refine xB (fun h6=>?_) (fun h6=>?_)
   ·refine J_g 6 [] [(2,bv true)] [] (zD 1 (yG [(.tmp 3)] [5] (vE.ok a1) h3) (yO 2 [(4,bv x2)] [] h4 (yO 6 [(8,bv (a1==46))] [] h5 (yO 10 [(12,bv (a1==45))] [] h6 zB)))) ?_
    exact yA rfl
   ·refine J_g 6 [] [(2,bv (a1==47))] [] (zD 1 (yG [(.tmp 3)] [5] (vE.ok a1) h3) (yO 2 [(4,bv x2)] [] h4 (yO 6 [(8,bv (a1==46))] [] h5 (yO 10 [(12,bv (a1==45))] [] h6 zB)))) ?_
    exact yA rfl
def zRj:Code:=cdB Tryz.f136
theorem zBh.ok (a1:ByteArray) (q:Wd) (kn:Unit→Option (D×List Ent)) (hk:∀v:Unit,J (q.g Tryz.prog 136 0 23) zRj (atI zRj 15) (St.mk' [] []) (some v) kn):
  ∀s11:Int,J (q.g Tryz.prog 136 0 23) zRj (atI zRj 116) (St.mk' [(0,sv a1),(3,iv s11)] []) (zBh a1 s11) (Fl.go (fun r:Int=>some (iv r,[])) kn):=by
 refine uM (fun g ih s11=>?_)
 unfold zA6
 refine J_d 464 [] [15] [(15,bv (decide (s11< (a1.size:Int))))] [] [] zB ?_
 refine zG 15 (fun h12=>?_) (fun h12=>?_)
 ·refine zA (fun x13 h14=>?_)
  refine zA (fun x15 h16=>?_)
  refine J_d 1864 [] [15,22] [(22,bv (!x15))] [] [] (zD 2 (zKZ (kk:=.i64) 9 (.tmp 18) (.tmp 19) h14) (zD 3 (yG [(.tmp 20)] [5] (zEg.ok x13) h16) zB)) ?_
  refine zG 22 (fun h17=>?_) (fun h17=>?_)
  ·refine J_g 7460 [] [(2,iv 5)] [] zB ?_
   exact yA rfl
  ·refine J_g 467 [] [(0,sv a1),(3,iv (w64 (s11+1)))] [] zB ?_
   exact J_q (J_b (ih (w64 (s11+1)))) rfl
 ·exact zN (hk ()) rfl
theorem uX.ok (a1:ByteArray):Ok Tryz.prog 136 [sv a1] [] ((uX a1).map fun r=>(iv r,[])):=by
 refine zJ zRj Tryz.f136 0 23 (fun q=>?_)
 unfold uX
 refine J_g 2 [] [(0,sv a1)] [] zB ?_
 refine zU (atI zRj 13) (fun v3:Bool=>St.mk' [(0,sv a1),(11,bv v3)] []) (fun v3=>?_) (fun jv3=>?_)
 ·refine zG 11 (fun h4=>?_) (fun h4=>?_)
  ·refine J_g 52 [] [(2,iv 5)] [] zB ?_
   exact yA rfl
  ·refine J_g 28 [] [(0,sv a1),(3,iv 0)] [] zB ?_
   refine uL (K0:=(fun r:Int=>some (iv r,[]))) (fun _=>rfl) (zBh.ok a1 q _ (fun v18=>J_j ?_) 0)
   refine J_g 30 [] [(2,iv 0)] [] zB ?_
   exact yA rfl
 ·refine xB (fun h2=>?_) (fun h2=>?_)
  ·refine J_g 12 [] [(0,sv a1),(11,bv true)] [] (yO 3 [(6,bv (decide ((a1.size:Int)<1)))] [] h2 zB) ?_
   exact zN (J_j (jv3 true)) rfl
  ·refine J_g 12 [] [(0,sv a1),(11,bv (decide ((a1.size:Int)>40)))] [] (yO 3 [(6,bv (decide ((a1.size:Int)<1)))] [] h2 zB) ?_
   exact zN (J_j (jv3 (decide ((a1.size:Int)>40)))) rfl
theorem zBw.ok (a1:zP) (q:Wd) (kn:Int→Option (D×List Ent)) (hk:∀v:Int,J (q.g Tryz.prog 77 1 26) c77 (atI c77 15) (St.mk' [(3,iv v)] [(0,.box (zP.enc false a1))]) (some v) kn):
  ∀s5:(Int×Int),J (q.g Tryz.prog 77 1 26) c77 (atI c77 116) (St.mk' [(0,pp 0),(3,iv s5.1),(4,iv s5.2)] [(0,.box (zP.enc false a1))]) (zBw a1 s5) kn:=by
 refine uM (fun g ih s5=>?_)
 unfold zAl
 refine J_d 464 [] [11] [(11,bv (decide (s5.2< (a1.Files.length:Int))))] [] [] zB ?_
 refine zG 11 (fun h6=>?_) (fun h6=>?_)
 ·refine zA (fun x7 h8=>?_)
  refine J_g 932 [] [(0,pp 0),(3,iv (w64 (s5.1+(x7.Data.length:Int)))),(4,iv s5.2)] [(0,.box (zP.enc false a1))] (zD 6 (wM (kk:=.i64) 37 114 2 (File.enc false) (.tmp 18) (.tmp 19) h8) zB) ?_
  refine J_d 467 [] [4] [(4,iv (w64 (s5.2+1)))] [] [] zB ?_
  exact J_q (J_b (ih (w64 (s5.1+(x7.Data.length:Int)),w64 (s5.2+1)))) rfl
 ·exact zN (hk s5.1) rfl
theorem jW.ok (a1:zP):Ok Tryz.prog 77 [pp 0] [.box (zP.enc false a1)] ((jW a1).map fun r=>(iv r,[.box (zP.enc false a1)])):=by
 refine zJ c77 Tryz.f77 1 26 (fun q=>?_)
 unfold jW
 refine J_g 2 [] [(0,pp 0)] [(0,.box (zP.enc false a1))] zB ?_
 refine J_g 6 [] [(0,pp 0),(3,iv 0)] [(0,.box (zP.enc false a1))] zB ?_
 refine J_d 28 [] [4] [(4,iv 0)] [] [] zB ?_
 refine zEx (zBw.ok a1 q _ (fun v9=>J_j ?_) (0,0))
 refine J_d 30 [] [2,3] [(2,iv v9)] [] [] zB ?_
 exact yA rfl
def c83:Code:=cdB Tryz.f83
theorem zBv.ok (a1:zP) (q:Wd) (kn:Unit→Option (D×List Ent)) (hk:∀v:Unit,J (q.g Tryz.prog 83 0 72) c83 (atI c83 31) (St.mk' [(1,pp 0)] [(0,.box (zP.enc false a1))]) (some v) kn):
  ∀s29:Int,J (q.g Tryz.prog 83 0 72) c83 (atI c83 244) (St.mk' [(1,pp 0),(3,iv s29)] [(0,.box (zP.enc false a1))]) (zBv a1 s29) (Fl.go (fun r:Int=>some (iv r,[])) kn):=by
 refine uM (fun g ih s29=>?_)
 unfold zA3
 refine J_d 976 [] [29] [(29,bv (decide (s29< (a1.Files.length:Int))))] [] [] zB ?_
 refine zG 29 (fun h30=>?_) (fun h30=>?_)
 ·refine zA (fun x31 h32=>?_)
  refine zA (fun x33 h34=>?_)
  refine J_g 7824 [] [(1,pp 0),(3,iv s29),(4,iv x33)] [(0,.box (zP.enc false a1))] (zD 3 (wM (kk:=.i64) 37 114 2 (File.enc false) (.tmp 33) (.tmp 34) h32) (zD 6 (yG [(.tmp 37)] [9] (uX.ok x31.Path) h34) zB)) ?_
  refine J_d 15650 [] [40] [(40,bv (x33 !=0))] [] [] zB ?_
  refine zG 40 (fun h35=>?_) (fun h35=>?_)
  ·refine J_g 62604 [] [(2,iv x33)] [] zB ?_
   exact yA rfl
  ·refine zU (atI c83 15653) (fun v41:Bool=>St.mk' [(1,pp 0),(3,iv s29),(59,bv v41)] [(0,.box (zP.enc false a1))]) (fun v41=>?_) (fun jv41=>?_)
   ·refine zG 59 (fun h42=>?_) (fun h42=>?_)
    ·refine J_g 62612 [] [(2,iv 1)] [] zB ?_
     exact yA rfl
    ·refine zA (fun x43 h44=>?_)
     refine J_d 15654 [] [59,67] [(67,bv (decide ((x43.Data.length:Int)>4000)))] [] [] (zD 3 (wM (kk:=.i64) 37 114 2 (File.enc false) (.tmp 61) (.tmp 62) h44) zB) ?_
     refine zG 67 (fun h45=>?_) (fun h45=>?_)
     ·refine J_g 62620 [] [(2,iv 2)] [] zB ?_
      exact yA rfl
     ·refine J_d 979 [] [3,67] [(3,iv (w64 (s29+1)))] [] [] zB ?_
      exact J_q (J_b (ih (w64 (s29+1)))) rfl
   ·refine xB (fun h36=>?_) (fun h36=>?_)
    ·refine zA (fun x37 h38=>?_)
     refine zA (fun x39 h40=>?_)
     refine J_d 15652 [] [4,40,59] [(59,bv (slt x37.Path x39.Path||seq x37.Path x39.Path))] [] [] (yO 2 [(43,bv (decide (s29>0)))] [] h36 (uD 6 2 44 true (wM (kk:=.i64) 37 114 2 (File.enc false) (.tmp 46) (.tmp 47) h38) (uD 13 2 44 true (wM (kk:=.i64) 37 114 2 (File.enc false) (.tmp 52) (.tmp 54) h40) zB))) ?_
     exact zN (J_j (jv41 (slt x37.Path x39.Path||seq x37.Path x39.Path))) rfl
    ·refine J_d 15652 [] [4,40,59] [(59,bv false)] [] [] (yO 2 [(43,bv (decide (s29>0)))] [] h36 zB) ?_
     exact zN (J_j (jv41 false)) rfl
 ·exact zN (hk ()) rfl
theorem jU.ok (a1:zP):Ok Tryz.prog 83 [.ag (zP.enc false a1)] [] ((jU a1).map fun r=>(iv r,[])):=by
 refine zJ c83 Tryz.f83 0 72 (fun q=>?_)
 unfold jU
 refine J_g 2 [(0,0)] [(1,pp 0)] [(0,.box (zP.enc false a1))] zB ?_
 refine zA (fun x2 h3=>?_)
 refine zU (atI c83 13) (fun v10:Bool=>St.mk' [(1,pp 0),(20,bv v10)] [(0,.box (zP.enc false a1))]) (fun v10=>?_) (fun jv10=>?_)
 ·refine zG 20 (fun h11=>?_) (fun h11=>?_)
  ·refine J_g 52 [] [(2,iv 3)] [] zB ?_
   exact yA rfl
  ·refine J_d 28 [] [20,24] [(24,bv (decide ((a1.Files.length:Int)>120)))] [] [] zB ?_
   refine zG 24 (fun h12=>?_) (fun h12=>?_)
   ·refine J_g 116 [] [(2,iv 2)] [] zB ?_
    exact yA rfl
   ·refine J_d 60 [] [3,24] [(3,iv 0)] [] [] zB ?_
    refine uL (K0:=(fun r:Int=>some (iv r,[]))) (fun _=>rfl) (zBv.ok a1 q _ (fun v46=>J_j ?_) 0)
    refine zA (fun x47 h48=>?_)
    refine J_g 124 [] [(71,bv (decide (x47>a1.Budget)))] [] (zD 0 (zH7 [(0,.box (zP.enc false a1))] [] (xH («as»:=[pp 0]) [(.tmp 1)] [43] false [(0,.box (zP.enc false a1))] [0] (.cons (.pt rfl) (.nil)) (jW.ok a1) h48 (.same rfl rfl))) zB) ?_
    refine zG 71 (fun h49=>?_) (fun h49=>?_)
    ·refine J_g 500 [] [(2,iv 8)] [] zB ?_
     exact yA rfl
    ·refine J_g 126 [] [(2,iv 0)] [] zB ?_
     exact yA rfl
 ·refine xB (fun h4=>?_) (fun h4=>?_)
  ·refine J_d 12 [] [20] [(20,bv true)] [] [] (zD 2 (yG [(.tmp 6),(.const (.int .i64 0)),(.const (.int .i64 20000))] [2,2,2] (yZ.ok a1.Budget 0 20000) h3) (yO 4 [(8,bv (!x2))] [] h4 zB)) ?_
   exact zN (J_j (jv10 true)) rfl
  ·refine zA (fun x5 h6=>?_)
   refine xB (fun h7=>?_) (fun h7=>?_)
   ·refine J_d 12 [] [20] [(20,bv true)] [] [] (zD 2 (yG [(.tmp 6),(.const (.int .i64 0)),(.const (.int .i64 20000))] [2,2,2] (yZ.ok a1.Budget 0 20000) h3) (yO 4 [(8,bv (!x2))] [] h4 (uD 7 4 9 false (yG [(.tmp 11),(.const (.int .i64 0)),(.const (.int .i64 1000000000))] [2,2,2] (yZ.ok a1.Writes 0 1000000000) h6) (yO 10 [(14,bv (!x5))] [] h7 zB)))) ?_
    exact zN (J_j (jv10 true)) rfl
   ·refine zA (fun x8 h9=>?_)
    refine J_d 12 [] [20] [(20,bv (!x8))] [] [] (zD 2 (yG [(.tmp 6),(.const (.int .i64 0)),(.const (.int .i64 20000))] [2,2,2] (yZ.ok a1.Budget 0 20000) h3) (yO 4 [(8,bv (!x2))] [] h4 (uD 7 4 9 false (yG [(.tmp 11),(.const (.int .i64 0)),(.const (.int .i64 1000000000))] [2,2,2] (yZ.ok a1.Writes 0 1000000000) h6) (yO 10 [(14,bv (!x5))] [] h7 (uD 13 10 15 false (yG [(.tmp 17),(.const (.int .i64 (-1))),(.const (.int .i64 1000000000))] [2,2,2] (yZ.ok a1.Stop (-1) 1000000000) h9) zB))))) ?_
    exact zN (J_j (jv10 (!x8))) rfl
def c37:Code:=cdB Tryz.f37
theorem zDa.ok (a1:(List Pack)) (a2:zP):Ok Tryz.prog 37 [sl 8 (Pack.enc false) a1,.ag (zP.enc false a2)] [] ((zDa a1 a2).map fun r=>(iv r,[])):=by
 refine zJ c37 Tryz.f37 0 13 (fun q=>?_)
 unfold zDa
 refine J_d 2 [(0,0)] [1,3] [(3,pp 0)] [0] [(0,.box (zP.enc false a2))] zB ?_
 refine zA (fun x3 h4=>?_)
 refine J_g 12 [] [(3,pp 0),(5,iv x3)] [(0,.box (zP.enc false a2))] (zD 1 (yG [(.tmp 6)] [24] (zY.ok a1) h4) zB) ?_
 refine J_d 26 [] [9] [(9,bv (x3 !=0))] [] [] zB ?_
 refine zG 9 (fun h5=>?_) (fun h5=>?_)
 ·refine J_g 108 [] [(4,iv x3)] [] zB ?_
  exact yA rfl
 ·refine zA (fun x6 h7=>?_)
  refine J_g 14 [] [(4,iv x6)] [] (zD 1 (yG [(.tmp 11)] [39] (jU.ok a2) h7) zB) ?_
  exact yA rfl
theorem zCq.ok (a1:zP) (a2:ByteArray) (q:Wd) (kn:Unit→Option (D×List Ent)) (hk:∀v:Unit,J (q.g Tryz.prog 76 1 26) c76 (atI c76 7) (St.mk' [] [(0,.box (zP.enc false a1))]) (some v) kn):
  ∀s7:Int,J (q.g Tryz.prog 76 1 26) c76 (atI c76 52) (St.mk' [(0,pp 0),(1,sv a2),(5,iv s7)] [(0,.box (zP.enc false a1))]) (zCq a1 a2 s7) (Fl.go (fun r:Int=>some (iv r,[.box (zP.enc false a1)])) kn):=by
 refine uM (fun g ih s7=>?_)
 unfold zB0
 refine J_d 208 [] [12] [(12,bv (decide (s7< (a1.Files.length:Int))))] [] [] zB ?_
 refine zG 12 (fun h8=>?_) (fun h8=>?_)
 ·refine zA (fun x9 h10=>?_)
  refine J_d 840 [] [12,24] [(24,bv (seq x9.Path a2))] [] [] (zD 5 (wM (kk:=.i64) 37 114 2 (File.enc false) (.tmp 18) (.tmp 19) h10) zB) ?_
  refine zG 24 (fun h11=>?_) (fun h11=>?_)
  ·refine J_g 3364 [] [(4,iv s7)] [(0,.box (zP.enc false a1))] zB ?_
   exact yA rfl
  ·refine J_d 211 [] [5,24] [(5,iv (w64 (s7+1)))] [] [] zB ?_
   exact J_q (J_b (ih (w64 (s7+1)))) rfl
 ·exact zN (hk ()) rfl
theorem uE.ok (a1:zP) (a2:ByteArray):Ok Tryz.prog 76 [pp 0,sv a2] [.box (zP.enc false a1)] ((uE a1 a2).map fun r=>(iv r,[.box (zP.enc false a1)])):=by
 refine zJ c76 Tryz.f76 1 26 (fun q=>?_)
 unfold uE
 refine J_g 2 [] [(0,pp 0),(1,sv a2)] [(0,.box (zP.enc false a1))] zB ?_
 refine J_d 12 [] [5] [(5,iv 0)] [] [] zB ?_
 refine uL (K0:=(fun r:Int=>some (iv r,[.box (zP.enc false a1)]))) (fun _=>rfl) (zCq.ok a1 a2 q _ (fun v12=>J_j ?_) 0)
 refine J_d 14 [] [4] [(4,iv (-1))] [] [] zB ?_
 exact yA rfl
theorem zBu.ok (a1:zP) (a2:ByteArray) (q:Wd) (kn:(List ByteArray)→Option (D×List Ent)) (hk:∀v:(List ByteArray),J (q.g Tryz.prog 164 1 39) c164 (atI c164 15) (St.mk' [(5,rr 1 v)] [(0,.box (zP.enc false a1)),(1,rE 1 eStr v)]) (some v) kn):
  ∀s14:((List ByteArray)×Int),J (q.g Tryz.prog 164 1 39) c164 (atI c164 116) (St.mk' [(0,pp 0),(1,sv a2),(5,rr 1 s14.1),(6,iv s14.2)] [(0,.box (zP.enc false a1)),(1,rE 1 eStr s14.1)]) (zBu a1 a2 s14) kn:=by
 refine uM (fun g ih s14=>?_)
 unfold zAi
 refine J_d 464 [] [14] [(14,bv (decide (s14.2< (a1.Files.length:Int))))] [] [] zB ?_
 refine zG 14 (fun h15=>?_) (fun h15=>?_)
 ·refine zA (fun x16 h17=>?_)
  refine zA (fun x18 h19=>?_)
  refine J_d 1864 [] [14,26] [(26,bv x18)] [] [] (zD 5 (wM (kk:=.i64) 37 114 2 (File.enc false) (.tmp 20) (.tmp 21) h17) (zD 9 (yG [(.tmp 24),(.tmp 25)] [9,9] (tC.ok x16.Path a2) h19) zB)) ?_
  refine zU (aft c164 932) (fun v25:(List ByteArray)=>St.mk' [(0,pp 0),(1,sv a2),(5,rr 3 v25),(6,iv s14.2)] [(0,.box (zP.enc false a1)),(3,rE 1 eStr v25)]) (fun v25=>?_) (fun jv25=>?_)
  ·refine J_d 467 [] [6] [(6,iv (w64 (s14.2+1)))] [] [] zB ?_
   refine xV 3 1 (qB rfl) (qB rfl) ?_
   exact J_q (J_b (ih (v25,w64 (s14.2+1)))) rfl
  ·refine zG 26 (fun h20=>?_) (fun h20=>?_)
   ·refine zA (fun x21 h22=>?_)
    refine zA (fun x23 h24=>?_)
    refine J_d 3730 [] [5,26] [(5,rr 3 x23)] [1,3] [(3,rE 1 eStr x23)] (zD 6 (wM (kk:=.i64) 37 114 2 (File.enc false) (.tmp 31) (.tmp 32) h22) (zD 9 (vM 69 9 1 2 eStr [x21.Path] [0] [(.tmp 35)] [sv x21.Path]) (zD 10 (zEQ 69 69 9 9 1 16 3 1 2 eStr (.tmp 27) (.tmp 36) h24) zB))) ?_
    exact zN (J_j (jv25 x23)) rfl
   ·refine xV 1 3 (qB rfl) (qB rfl) ?_
    exact zN (J_j (jv25 s14.1)) rfl
 ·exact zN (hk s14.1) rfl
theorem zAt.ok (a1:zP) (a2:ByteArray):Ok Tryz.prog 164 [pp 0,sv a2] [.box (zP.enc false a1)] ((zAt a1 a2).map fun r=>(so 1 eStr r,[.box (zP.enc false a1)])):=by
 refine zJ c164 Tryz.f164 1 39 (fun q=>?_)
 unfold zAt
 refine J_g 2 [] [(0,pp 0),(1,sv a2)] [(0,.box (zP.enc false a1))] zB ?_
 refine J_g 6 [] [(0,pp 0),(1,sv a2),(5,rr 1 ([]:List ByteArray))] [(0,.box (zP.enc false a1)),(1,rE 1 eStr ([]:List ByteArray))] (zD 0 (vM 69 9 1 1 eStr ([]:List ByteArray) [] [] []) zB) ?_
 refine J_d 28 [] [6] [(6,iv 0)] [] [] zB ?_
 refine zEx (zBu.ok a1 a2 q _ (fun v26=>J_j ?_) (([]:List ByteArray),0))
 refine J_g 30 [] [(4,rr 1 v26)] [(0,.box (zP.enc false a1)),(1,rE 1 eStr v26)] zB ?_
 exact zEO (ds:=[rr 1 v26]) (ds':=[so 1 eStr v26]) (.cons (.cell (.move (.tail _ (.head _)) (qC _) (by decide) (.nil))) (.nil) (by decide)) rfl
theorem zCr.ok (a1:zP) (x2:(List ByteArray)) (q:Wd) (kn:(List Int)→Option (D×List Ent)) (hk:∀v:(List Int),J (q.g Tryz.prog 135 1 41) zNk (atI zNk 31) (St.mk' [(3,rr 1 v)] [(0,.box (zP.enc false a1)),(1,rE 1 zF v)]) (some v) kn):
  ∀s21:((List Int)×Int),J (q.g Tryz.prog 135 1 41) zNk (atI zNk 244) (St.mk' [(3,rr 1 s21.1),(4,rr 2 x2),(5,iv s21.2)] [(0,.box (zP.enc false a1)),(1,rE 1 zF s21.1),(2,rE 1 eStr x2)]) (zCr a1 x2 s21) kn:=by
 refine uM (fun g ih s21=>?_)
 unfold zBx
 refine J_d 976 [] [14] [(14,bv (decide (s21.2< (x2.length:Int))))] [] [] zB ?_
 refine zG 14 (fun h22=>?_) (fun h22=>?_)
 ·refine zA (fun x23 h24=>?_)
  refine zA (fun x25 h26=>?_)
  refine zA (fun x27 h28=>?_)
  refine J_d 3912 [] [6,7,14] [(6,iv x27.1),(7,bv x27.2)] [] [] (zD 2 (zAb (kk:=.i64) 69 9 1 2 eStr (.tmp 18) (.tmp 19) h24) (zD 3 (zAa (d:=sv x23) 9 1 2 0 eStr (.tmp 20) h24 (by kernel_rfl)) (zD 4 (zKY 9 (.tmp 21) (some (.const (.int .i64 4))) none h26) (zD 5 (yG [(.tmp 22),(.const (.int .i64 6))] [9,3] (vK.ok x25 6) h28) zB)))) ?_
  refine zU (atI zNk 7827) (fun v34:Bool=>St.mk' [(3,rr 1 s21.1),(4,rr 2 x2),(5,iv s21.2),(6,iv x27.1),(35,bv v34)] [(0,.box (zP.enc false a1)),(1,rE 1 zF s21.1),(2,rE 1 eStr x2)]) (fun v34=>?_) (fun jv34=>?_)
  ·refine zU (aft zNk 1956) (fun v38:(List Int)=>St.mk' [(3,rr 4 v38),(4,rr 2 x2),(5,iv s21.2)] [(0,.box (zP.enc false a1)),(2,rE 1 eStr x2),(4,rE 1 zF v38)]) (fun v38=>?_) (fun jv38=>?_)
   ·refine J_d 979 [] [5] [(5,iv (w64 (s21.2+1)))] [] [] zB ?_
    refine xV 4 1 (qB rfl) (qB rfl) ?_
    exact J_q (J_b (ih (v38,w64 (s21.2+1)))) rfl
   ·refine zG 35 (fun h35=>?_) (fun h35=>?_)
    ·refine zA (fun x36 h37=>?_)
     refine J_d 15654 [] [3,6,35] [(3,rr 4 x36)] [1,4] [(4,rE 1 zF x36)] (zD 2 (vM 34 2 1 3 zF [x27.1] [0] [(.tmp 37)] [iv x27.1]) (zD 3 (zEQ 34 34 2 2 1 8 4 1 3 zF (.tmp 36) (.tmp 38) h37) zB)) ?_
     exact zN (J_j (jv38 x36)) rfl
    ·refine xV 1 4 (qB rfl) (qB rfl) ?_
     exact zN (J_j (jv38 s21.1)) rfl
  ·refine xB (fun h29=>?_) (fun h29=>?_)
   ·refine zA (fun x30 h31=>?_)
    refine zA (fun x32 h33=>?_)
    refine J_d 7826 [] [7,35] [(35,bv (seq x30 x32))] [] [] (yO 1 [(26,bv x27.2)] [] h29 (uD 3 1 27 true (yG [(.tmp 28)] [2] (wL.ok x27.1) h31) (uD 6 1 27 true (zAb (kk:=.i64) 69 9 1 2 eStr (.tmp 30) (.tmp 31) h33) (uD 7 1 27 true (zAa (d:=sv x32) 9 1 2 0 eStr (.tmp 32) h33 (by kernel_rfl)) zB)))) ?_
    exact zN (J_j (jv34 (seq x30 x32))) rfl
   ·refine J_d 7826 [] [7,35] [(35,bv false)] [] [] (yO 1 [(26,bv x27.2)] [] h29 zB) ?_
    exact zN (J_j (jv34 false)) rfl
 ·exact zN (hk s21.1) rfl
theorem jF.ok (a1:zP):Ok Tryz.prog 135 [pp 0] [.box (zP.enc false a1)] ((jF a1).map fun r=>(so 1 zF r,[.box (zP.enc false a1)])):=by
 refine zJ zNk Tryz.f135 1 41 (fun q=>?_)
 unfold jF
 refine J_g 2 [] [(0,pp 0)] [(0,.box (zP.enc false a1))] zB ?_
 refine J_d 6 [] [3] [(3,rr 1 ([]:List Int))] [1] [(1,rE 1 zF ([]:List Int))] (zD 0 (vM 34 2 1 1 zF ([]:List Int) [] [] []) zB) ?_
 refine zA (fun x2 h3=>?_)
 refine J_g 14 [] [(3,rr 1 ([]:List Int)),(4,rr 2 x2)] [(0,.box (zP.enc false a1)),(1,rE 1 zF ([]:List Int)),(2,rE 1 eStr x2)] (zD 1 (zH7 [(0,.box (zP.enc false a1))] [(2,rE 1 eStr x2)] (xH («as»:=[pp 0,sv (bs [103,101,110,47])]) [(.tmp 9),(.const (.string (bs [103,101,110,47])))] [43,9] false [(0,.box (zP.enc false a1))] [0] (.cons (.pt rfl) (.cons (.same rfl) (.nil))) (zAt.ok a1 (bs [103,101,110,47])) h3 (.own 2))) zB) ?_
 refine J_d 60 [] [5] [(5,iv 0)] [] [] zB ?_
 refine zEx (zCr.ok a1 x2 q _ (fun v39=>J_j ?_) (([]:List Int),0))
 refine J_g 62 [] [(2,rr 1 v39)] [(0,.box (zP.enc false a1)),(1,rE 1 zF v39)] zB ?_
 exact zEO (ds:=[rr 1 v39]) (ds':=[so 1 zF v39]) (.cons (.cell (.move (.tail _ (.head _)) (qC _) (by decide) (.nil))) (.nil) (by decide)) rfl
def c85:Code:=cdB Tryz.f85
theorem zAI.ok (a1:zP):Ok Tryz.prog 85 [pp 0] [.box (zP.enc false a1)] ((zAI a1).map fun r=>(iv r,[.box (zP.enc false a1)])):=by
 refine zJ c85 Tryz.f85 1 33 (fun q=>?_)
 unfold zAI
 refine J_d 2 [] [] [] [] [] zB ?_
 refine zA (fun x2 h3=>?_)
 refine J_g 6 [] [(0,pp 0),(3,iv x2)] [(0,.box (zP.enc false a1))] (zD 1 (zH7 [(0,.box (zP.enc false a1))] [] (xH («as»:=[pp 0,sv (bs [99,117,114])]) [(.tmp 6),(.const (.string (bs [99,117,114])))] [43,9] false [(0,.box (zP.enc false a1))] [0] (.cons (.pt rfl) (.cons (.same rfl) (.nil))) (uE.ok a1 (bs [99,117,114])) h3 (.same rfl rfl))) zB) ?_
 refine J_d 28 [] [9] [(9,bv (decide (x2<0)))] [] [] zB ?_
 refine zG 9 (fun h4=>?_) (fun h4=>?_)
 ·refine J_d 116 [] [0,2,3,9] [(2,iv 0)] [] [] zB ?_
  exact yA rfl
 ·refine zA (fun x5 h6=>?_)
  refine zA (fun x7 h8=>?_)
  refine J_d 30 [] [3,4,5,9] [(4,iv x7.1),(5,bv x7.2)] [] [] (zD 5 (wM (kk:=.i64) 37 114 2 (File.enc false) (.tmp 14) (.tmp 15) h6) (zD 8 (zRy (xs:=x5.Data) 22 9 5 (.tmp 18)) (zD 9 (yG [(.tmp 19),(.const (.int .i64 6))] [9,3] (vK.ok (b2s x5.Data) 6) h8) zB))) ?_
  refine zU (atI c85 125) (fun v14:Bool=>St.mk' [(4,iv x7.1),(31,bv v14)] [(0,.box (zP.enc false a1))]) (fun v14=>?_) (fun jv14=>?_)
  ·refine zG 31 (fun h15=>?_) (fun h15=>?_)
   ·refine J_d 500 [] [2,4,31] [(2,iv 0)] [] [] zB ?_
    exact yA rfl
   ·refine J_d 126 [] [2,4,31] [(2,iv x7.1)] [] [] zB ?_
    exact yA rfl
  ·refine xB (fun h9=>?_) (fun h9=>?_)
   ·refine J_d 124 [] [0,5,31] [(31,bv true)] [] [] (yO 2 [(24,bv (!x7.2))] [] h9 zB) ?_
    exact zN (J_j (jv14 true)) rfl
   ·refine zA (fun x10 h11=>?_)
    refine zA (fun x12 h13=>?_)
    refine J_d 124 [] [0,5,31] [(31,bv (!x12))] [] [] (yO 2 [(24,bv (!x7.2))] [] h9 (uD 4 2 25 false (zH7 [(0,.box (zP.enc false a1))] [(1,rE 1 zF x10)] (xH («as»:=[pp 0]) [(.tmp 26)] [43] false [(0,.box (zP.enc false a1))] [0] (.cons (.pt rfl) (.nil)) (jF.ok a1) h11 (.own 1))) (uD 6 2 25 false (xH («as»:=[rr 1 x10,iv x7.1]) [(.tmp 27),(.tmp 28)] [34,2] true [(1,rE 1 zF x10)] [] (.cons (zFJ (.head _) (fun _=>rfl) rfl) (.cons (.same rfl) (.nil))) (yX.ok x10 x7.1) h13 (.same rfl rfl) (hbor:=fun _=>⟨fhN,wV⟩)) zB))) ?_
    exact zN (J_j (jv14 (!x12))) rfl
def c127:Code:=cdB Tryz.f127
theorem zCW.ok (a1:ByteArray) (a2:Int) (q:Wd) (kn:(List ByteArray)→Option (D×List Ent)) (hk:∀v:(List ByteArray),J (q.g Tryz.prog 127 0 36) c127 (atI c127 31) (St.mk' [(5,rr 0 v)] [(0,rE 1 eStr v)]) (some v) kn):
  ∀s14:((List ByteArray)×Int×Int),J (q.g Tryz.prog 127 0 36) c127 (atI c127 244) (St.mk' [(0,sv a1),(1,uv a2),(5,rr 0 s14.1),(6,iv s14.2.1),(7,iv s14.2.2)] [(0,rE 1 eStr s14.1)]) (zCW a1 a2 s14) kn:=by
 refine uM (fun g ih s14=>?_)
 unfold zBW
 refine J_d 976 [] [12] [(12,bv (decide (s14.2.2≤(a1.size:Int))))] [] [] zB ?_
 refine zG 12 (fun h15=>?_) (fun h15=>?_)
 ·refine zU (atI c127 3913) (fun v19:Bool=>St.mk' [(0,sv a1),(1,uv a2),(5,rr 0 s14.1),(6,iv s14.2.1),(7,iv s14.2.2),(25,bv v19)] [(0,rE 1 eStr s14.1)]) (fun v19=>?_) (fun jv19=>?_)
  ·refine zU (aft c127 1956) (fun v25:((List ByteArray)×Int)=>St.mk' [(0,sv a1),(1,uv a2),(5,rr 2 v25.1),(6,iv v25.2),(7,iv s14.2.2)] [(2,rE 1 eStr v25.1)]) (fun v25=>?_) (fun jv25=>?_)
   ·refine J_d 979 [] [7] [(7,iv (w64 (s14.2.2+1)))] [] [] zB ?_
    refine xV 2 0 (qB rfl) (qB rfl) ?_
    exact J_q (J_b (ih (v25.1,v25.2,w64 (s14.2.2+1)))) rfl
   ·refine zG 25 (fun h20=>?_) (fun h20=>?_)
    ·refine zA (fun x21 h22=>?_)
     refine zA (fun x23 h24=>?_)
     refine J_g 15652 [] [(0,sv a1),(1,uv a2),(5,rr 2 x23),(7,iv s14.2.2)] [(2,rE 1 eStr x23)] (zD 4 (zKY 9 (.tmp 27) (some (.tmp 28)) (some (.tmp 29)) h22) (zD 5 (vM 69 9 1 1 eStr [x21] [0] [(.tmp 30)] [sv x21]) (zD 6 (zEQ 69 69 9 9 1 16 2 0 1 eStr (.tmp 26) (.tmp 31) h24) zB))) ?_
     refine J_d 15653 [] [6] [(6,iv (w64 (s14.2.2+1)))] [] [] zB ?_
     exact zN (J_j (jv25 (x23,w64 (s14.2.2+1)))) rfl
    ·refine xV 0 2 (qB rfl) (qB rfl) ?_
     exact zN (J_j (jv25 (s14.1,s14.2.1))) rfl
  ·refine xB (fun h16=>?_) (fun h16=>?_)
   ·refine J_d 3912 [] [12,25] [(25,bv true)] [] [] (yO 4 [(18,bv (s14.2.2==(a1.size:Int)))] [] h16 zB) ?_
    exact zN (J_j (jv19 true)) rfl
   ·refine zA (fun x17 h18=>?_)
    refine J_d 3912 [] [12,25] [(25,bv (x17==a2))] [] [] (yO 4 [(18,bv (s14.2.2==(a1.size:Int)))] [] h16 (uD 7 4 19 false (zKZ (kk:=.i64) 9 (.tmp 20) (.tmp 21) h18) zB)) ?_
    exact zN (J_j (jv19 (x17==a2))) rfl
 ·exact zN (hk s14.1) rfl
theorem tF.ok (a1:ByteArray) (a2:Int):Ok Tryz.prog 127 [sv a1,uv a2] [] ((tF a1 a2).map fun r=>(sl 1 eStr r,[])):=by
 refine zJ c127 Tryz.f127 0 36 (fun q=>?_)
 unfold tF
 refine J_g 2 [] [(0,sv a1),(1,uv a2)] [] zB ?_
 refine J_g 6 [] [(0,sv a1),(1,uv a2),(5,rr 0 ([]:List ByteArray))] [(0,rE 1 eStr ([]:List ByteArray))] (zD 0 (vM 69 9 1 0 eStr ([]:List ByteArray) [] [] []) zB) ?_
 refine J_g 14 [] [(0,sv a1),(1,uv a2),(5,rr 0 ([]:List ByteArray)),(6,iv 0)] [(0,rE 1 eStr ([]:List ByteArray))] zB ?_
 refine J_d 60 [] [7] [(7,iv 0)] [] [] zB ?_
 refine zEx (zCW.ok a1 a2 q _ (fun v26=>J_j ?_) (([]:List ByteArray),0,0))
 refine J_g 62 [] [(4,rr 0 v26)] [(0,rE 1 eStr v26)] zB ?_
 refine vB [(4,rr 0 v26)] [(0,rE 1 eStr v26)] (by kernel_rfl) ?_
 refine zEc 0 (z:=1) (xs:=v26.map eStr) (tm2:=[(4,sl 1 eStr v26)]) (hp2:=[]) (.cons (.rf (by simp) (jG (enc:=eStr) (enc':=eStr) (fun _=>rfl) v26 rfl rfl)) (.nil)) (.nil) rfl ?_
 exact yA rfl
def c64:Code:=cdB Tryz.f64
theorem tO.ok (a1:ByteArray):Ok Tryz.prog 64 [sv a1] [] ((tO a1).map fun r=>(sl 1 eStr r,[])):=by
 refine zJ c64 Tryz.f64 0 19 (fun q=>?_)
 unfold tO
 refine J_g 2 [] [(0,sv a1)] [] zB ?_
 refine zA (fun x2 h3=>?_)
 refine J_g 6 [] [(3,sl 1 eStr x2)] [] (zD 1 (yG [(.tmp 4),(.const (.int .u8 10))] [9,5] (tF.ok a1 10) h3) zB) ?_
 refine zA (fun x4 h5=>?_)
 refine J_d 28 [] [12] [(12,bv (seq x4 (bs [])))] [] [] (zD 4 (wM (kk:=.i64) 69 9 1 eStr (.tmp 6) (.tmp 9) h5) zB) ?_
 refine zU (atI c64 15) (fun v9:(List ByteArray)=>St.mk' [(3,sl 1 eStr v9)] []) (fun v9=>?_) (fun jv9=>?_)
 ·refine J_g 30 [] [(2,sl 1 eStr v9)] [] zB ?_
  exact yA rfl
 ·refine zG 12 (fun h6=>?_) (fun h6=>?_)
  ·refine zA (fun x7 h8=>?_)
   refine J_g 58 [] [(3,sl 1 eStr x7)] [] (zD 4 (zQw 69 9 1 eStr (.tmp 13) none (some (.tmp 16)) h8) zB) ?_
   exact zN (J_j (jv9 x7)) rfl
  ·exact zN (J_j (jv9 x2)) rfl
def zRl:Code:=cdB Tryz.f129
theorem zDm.ok (x2:(List ByteArray)) (q:Wd) (kn:(List ByteArray)→Option (D×List Ent)) (hk:∀v:(List ByteArray),J (q.g Tryz.prog 129 0 28) zRl (atI zRl 31) (St.mk' [(3,rr 0 v)] [(0,rE 1 eStr v)]) (some v) kn):
  ∀s13:((List ByteArray)×Int),J (q.g Tryz.prog 129 0 28) zRl (atI zRl 244) (St.mk' [(3,rr 0 s13.1),(4,sl 1 eStr x2),(5,iv s13.2)] [(0,rE 1 eStr s13.1)]) (zDm x2 s13) kn:=by
 refine uM (fun g ih s13=>?_)
 unfold zBO
 refine J_d 976 [] [12] [(12,bv (decide (s13.2< (x2.length:Int))))] [] [] zB ?_
 refine zG 12 (fun h14=>?_) (fun h14=>?_)
 ·refine zA (fun x15 h16=>?_)
  refine J_d 3912 [] [12,19] [(19,bv (!(seq x15 (bs []))))] [] [] (zD 2 (wM (kk:=.i64) 69 9 1 eStr (.tmp 15) (.tmp 16) h16) zB) ?_
  refine zU (aft zRl 1956) (fun v22:(List ByteArray)=>St.mk' [(3,rr 2 v22),(4,sl 1 eStr x2),(5,iv s13.2)] [(2,rE 1 eStr v22)]) (fun v22=>?_) (fun jv22=>?_)
  ·refine J_d 979 [] [5] [(5,iv (w64 (s13.2+1)))] [] [] zB ?_
   refine xV 2 0 (qB rfl) (qB rfl) ?_
   exact J_q (J_b (ih (v22,w64 (s13.2+1)))) rfl
  ·refine zG 19 (fun h17=>?_) (fun h17=>?_)
   ·refine zA (fun x18 h19=>?_)
    refine zA (fun x20 h21=>?_)
    refine J_d 7826 [] [3,19] [(3,rr 2 x20)] [0,2] [(2,rE 1 eStr x20)] (zD 3 (wM (kk:=.i64) 69 9 1 eStr (.tmp 21) (.tmp 22) h19) (zD 5 (vM 69 9 1 1 eStr [x18] [0] [(.tmp 24)] [sv x18]) (zD 6 (zEQ 69 69 9 9 1 16 2 0 1 eStr (.tmp 20) (.tmp 25) h21) zB))) ?_
    exact zN (J_j (jv22 x20)) rfl
   ·refine xV 0 2 (qB rfl) (qB rfl) ?_
    exact zN (J_j (jv22 s13.1)) rfl
 ·exact zN (hk s13.1) rfl
theorem zCZ.ok (a1:ByteArray):Ok Tryz.prog 129 [sv a1] [] ((zCZ a1).map fun r=>(sl 1 eStr r,[])):=by
 refine zJ zRl Tryz.f129 0 28 (fun q=>?_)
 unfold zCZ
 refine J_g 2 [] [(0,sv a1)] [] zB ?_
 refine J_g 6 [] [(0,sv a1),(3,rr 0 ([]:List ByteArray))] [(0,rE 1 eStr ([]:List ByteArray))] (zD 0 (vM 69 9 1 0 eStr ([]:List ByteArray) [] [] []) zB) ?_
 refine zA (fun x2 h3=>?_)
 refine J_g 14 [] [(3,rr 0 ([]:List ByteArray)),(4,sl 1 eStr x2)] [(0,rE 1 eStr ([]:List ByteArray))] (zD 1 (yG [(.tmp 7),(.const (.int .u8 32))] [9,5] (tF.ok a1 32) h3) zB) ?_
 refine J_d 60 [] [5] [(5,iv 0)] [] [] zB ?_
 refine zEx (zDm.ok x2 q _ (fun v23=>J_j ?_) (([]:List ByteArray),0))
 refine J_g 62 [] [(2,rr 0 v23)] [(0,rE 1 eStr v23)] zB ?_
 refine vB [(2,rr 0 v23)] [(0,rE 1 eStr v23)] (by kernel_rfl) ?_
 refine zEc 0 (z:=1) (xs:=v23.map eStr) (tm2:=[(2,sl 1 eStr v23)]) (hp2:=[]) (.cons (.rf (by simp) (jG (enc:=eStr) (enc':=eStr) (fun _=>rfl) v23 rfl rfl)) (.nil)) (.nil) rfl ?_
 exact yA rfl
def c130:Code:=cdB Tryz.f130
theorem jJ.ok (x2:(List ByteArray)) (q:Wd) (kn:(List Int)→Option (D×List Ent)) (hk:∀v:(List Int),J (q.g Tryz.prog 130 0 47) c130 (atI c130 63) (St.mk' [(2,pp 0),(4,rr 1 v)] [(0,.box [iv 0,iv 0,iv 0,iv 0]),(1,rE 1 zF v)]) (some v) kn):
  ∀s13:((List Int)×Int),J (q.g Tryz.prog 130 0 47) c130 (atI c130 500) (St.mk' [(2,pp 0),(3,sl 1 eStr x2),(4,rr 1 s13.1),(5,iv s13.2)] [(0,.box [iv 0,iv 0,iv 0,iv 0]),(1,rE 1 zF s13.1)]) (jJ x2 s13) (Fl.go (fun r:zQ=>some (.ag (zQ.enc r),[])) kn):=by
 refine uM (fun g ih s13=>?_)
 unfold tN
 refine J_d 2000 [] [18] [(18,bv (decide (s13.2< (x2.length:Int))))] [] [] zB ?_
 refine zG 18 (fun h14=>?_) (fun h14=>?_)
 ·refine zA (fun x15 h16=>?_)
  refine zA (fun x17 h18=>?_)
  refine J_g 8008 [] [(2,pp 0),(3,sl 1 eStr x2),(4,rr 1 s13.1),(5,iv s13.2),(6,iv x17.1),(7,bv x17.2)] [(0,.box [iv 0,iv 0,iv 0,iv 0]),(1,rE 1 zF s13.1)] (zD 2 (wM (kk:=.i64) 69 9 1 eStr (.tmp 22) (.tmp 23) h16) (zD 4 (yG [(.tmp 25),(.const (.int .i64 3))] [9,3] (vK.ok x15 3) h18) zB)) ?_
  refine J_d 32036 [] [7,30] [(30,bv (!x17.2))] [] [] zB ?_
  refine zG 30 (fun h19=>?_) (fun h19=>?_)
  ·refine J_g 128148 [] [(2,pp 0)] [(0,.box [iv 5,iv 0,iv 0,iv 0])] zB ?_
   exact yA rfl
  ·refine zA (fun x20 h21=>?_)
   refine J_g 16019 [] [(2,pp 0),(3,sl 1 eStr x2),(4,rr 1 s13.1),(5,iv s13.2)] [(0,.box [iv 0,iv 0,iv 0,iv 0]),(1,rE 1 zF (s13.1.set s13.2.toNat x17.1))] (zD 3 (zAb (kk:=.i64) 34 2 1 1 zF (.tmp 32) (.tmp 33) h21) (zRG 4 (zSm (b:=x17.1) 2 1 1 0 zF (iv x17.1) (.tmp 35) (.tmp 34) h21 rfl) zB)) ?_
   refine zSo (σ':=St.mk' [(2,pp 0),(3,sl 1 eStr x2),(4,rr 1 (s13.1.set s13.2.toNat x17.1)),(5,iv s13.2)] [(0,.box [iv 0,iv 0,iv 0,iv 0]),(1,rE 1 zF (s13.1.set s13.2.toNat x17.1))]) (by simp only [rr,List.length_set]) ?_
   refine J_d 2003 [] [5] [(5,iv (w64 (s13.2+1)))] [] [] zB ?_
   exact J_q (J_b (ih (s13.1.set s13.2.toNat x17.1,w64 (s13.2+1)))) rfl
 ·exact zN (hk s13.1) rfl
theorem xD.ok (a1:ByteArray):Ok Tryz.prog 130 [sv a1] [] ((xD a1).map fun r=>(.ag (zQ.enc r),[])):=by
 refine zJ c130 Tryz.f130 0 47 (fun q=>?_)
 unfold xD
 refine J_g 2 [(0,0)] [(0,sv a1),(2,pp 0)] [(0,.box [iv 0,iv 0,iv 0,iv 0])] zB ?_
 refine zA (fun x2 h3=>?_)
 refine J_g 6 [] [(2,pp 0),(3,sl 1 eStr x2)] [(0,.box [iv 0,iv 0,iv 0,iv 0])] (zD 1 (yG [(.tmp 8),(.const (.int .u8 46))] [9,5] (tF.ok a1 46) h3) zB) ?_
 refine J_d 28 [] [12] [(12,bv (decide ((x2.length:Int)>3)))] [] [] zB ?_
 refine zG 12 (fun h4=>?_) (fun h4=>?_)
 ·refine J_g 116 [] [(2,pp 0)] [(0,.box [iv 5,iv 0,iv 0,iv 0])] zB ?_
  exact yA rfl
 ·refine J_g 30 [] [(2,pp 0),(3,sl 1 eStr x2),(4,rr 1 [0,0,0])] [(0,.box [iv 0,iv 0,iv 0,iv 0]),(1,rE 1 zF [0,0,0])] (zD 0 (vM 34 2 1 1 zF [0,0,0] [0,1,2] [(.const (.int .i64 0)),(.const (.int .i64 0)),(.const (.int .i64 0))] [iv 0,iv 0,iv 0]) zB) ?_
  refine J_d 124 [] [5] [(5,iv 0)] [] [] zB ?_
  refine uL (K0:=(fun r:zQ=>some (.ag (zQ.enc r),[]))) (fun _=>rfl) (jJ.ok x2 q _ (fun v22=>J_j ?_) ([0,0,0],0))
  refine zA (fun x23 h24=>?_)
  refine zA (fun x25 h26=>?_)
  refine zA (fun x27 h28=>?_)
  refine J_g 126 [] [(2,pp 0)] [(0,.box [iv 0,iv x23,iv x25,iv x27])] (zD 1 (zAb (kk:=.i64) 34 2 1 1 zF (.tmp 36) (.const (.int .i64 0)) h24) (zD 2 (zAa (d:=iv x23) 2 1 1 0 zF (.tmp 37) h24 (by kernel_rfl)) (zD 4 (zAb (kk:=.i64) 34 2 1 1 zF (.tmp 39) (.const (.int .i64 1)) h26) (zD 5 (zAa (d:=iv x25) 2 1 1 0 zF (.tmp 40) h26 (by kernel_rfl)) (zD 7 (zAb (kk:=.i64) 34 2 1 1 zF (.tmp 42) (.const (.int .i64 2)) h28) (zD 8 (zAa (d:=iv x27) 2 1 1 0 zF (.tmp 43) h28 (by kernel_rfl)) zB)))))) ?_
  exact yA rfl
def c67:Code:=cdB Tryz.f67
theorem zC3.ok (a1:(List Pack)) (x4:(List ByteArray)) (q:Wd) (kn:(List Int)→Option (D×List Ent)) (hk:∀v:(List Int),J (q.g Tryz.prog 67 0 60) c67 (atI c67 63) (St.mk' [(4,pp 0),(6,rr 1 v)] [(0,.box [iv 0,iv 0,nv]),(1,rE 1 zF v)]) (some v) kn):
  ∀s29:((List Int)×Int),J (q.g Tryz.prog 67 0 60) c67 (atI c67 500) (St.mk' [(0,sl 8 (Pack.enc false) a1),(4,pp 0),(5,sl 1 eStr x4),(6,rr 1 s29.1),(7,iv s29.2)] [(0,.box [iv 0,iv 0,nv]),(1,rE 1 zF s29.1)]) (zC3 a1 x4 s29) (Fl.go (fun r:wB=>some (.ag (wB.enc false r),[])) kn):=by
 refine uM (fun g ih s29=>?_)
 unfold zAj
 refine J_d 2000 [] [21] [(21,bv (decide (s29.2< (x4.length:Int))))] [] [] zB ?_
 refine zG 21 (fun h30=>?_) (fun h30=>?_)
 ·refine zA (fun x31 h32=>?_)
  refine zA (fun x33 h34=>?_)
  refine J_g 8008 [] [(0,sl 8 (Pack.enc false) a1),(4,pp 0),(5,sl 1 eStr x4),(6,rr 1 s29.1),(7,iv s29.2),(8,sl 1 eStr x33)] [(0,.box [iv 0,iv 0,nv]),(1,rE 1 zF s29.1)] (zD 2 (wM (kk:=.i64) 69 9 1 eStr (.tmp 24) (.tmp 25) h32) (zD 4 (yG [(.tmp 27)] [9] (zCZ.ok x31) h34) zB)) ?_
  refine J_g 16018 [] [(0,sl 8 (Pack.enc false) a1),(4,pp 0),(5,sl 1 eStr x4),(6,rr 1 s29.1),(7,iv s29.2),(8,sl 1 eStr x33),(9,iv (-1))] [(0,.box [iv 0,iv 0,nv]),(1,rE 1 zF s29.1)] zB ?_
  refine J_d 64076 [] [31] [(31,bv ((x33.length:Int)==2))] [] [] zB ?_
  refine zU (atI c67 32039) (fun v45:Int=>St.mk' [(0,sl 8 (Pack.enc false) a1),(4,pp 0),(5,sl 1 eStr x4),(6,rr 1 s29.1),(7,iv s29.2),(9,iv v45)] [(0,.box [iv 0,iv 0,nv]),(1,rE 1 zF s29.1)]) (fun v45=>?_) (fun jv45=>?_)
  ·refine zU (atI c67 128157) (fun v49:Bool=>St.mk' [(0,sl 8 (Pack.enc false) a1),(4,pp 0),(5,sl 1 eStr x4),(6,rr 1 s29.1),(7,iv s29.2),(9,iv v45),(52,bv v49)] [(0,.box [iv 0,iv 0,nv]),(1,rE 1 zF s29.1)]) (fun v49=>?_) (fun jv49=>?_)
   ·refine zG 52 (fun h50=>?_) (fun h50=>?_)
    ·refine J_g 512628 [] [(4,pp 0)] [(0,.box [iv 5,iv s29.2,nv])] zB ?_
     exact zEO (ds:=[.ag [iv 5,iv s29.2,nv]]) (ds':=[.ag [iv 5,iv s29.2,sl 1 zF ([]:List Int)]]) (.cons (.ag (.keep rfl (.keep rfl (.nilsl false 1 (.nil))))) (.nil) (by decide)) rfl
    ·refine zA (fun x51 h52=>?_)
     refine J_g 64079 [] [(0,sl 8 (Pack.enc false) a1),(4,pp 0),(5,sl 1 eStr x4),(6,rr 2 x51),(7,iv s29.2)] [(0,.box [iv 0,iv 0,nv]),(2,rE 1 zF x51)] (zD 2 (xH («as»:=[rr 1 s29.1,iv v45]) [(.tmp 55),(.tmp 56)] [34,2] true [(1,rE 1 zF s29.1)] [] (.cons (zFJ (.head _) (fun _=>rfl) rfl) (.cons (.same rfl) (.nil))) (zCo.ok s29.1 v45) h52 (.own 2) (hbor:=fun _=>⟨fhN,(zFY (zHH (fun _=>(flatK wV zIs)) _))⟩)) zB) ?_
     refine J_d 2003 [] [7] [(7,iv (w64 (s29.2+1)))] [] [] zB ?_
     refine xV 2 1 (qB rfl) (qB rfl) ?_
     exact J_q (J_b (ih (x51,w64 (s29.2+1)))) rfl
   ·refine xB (fun h46=>?_) (fun h46=>?_)
    ·refine J_d 128156 [] [52] [(52,bv true)] [] [] (yO 2 [(47,bv (decide (v45<0)))] [] h46 zB) ?_
     exact zN (J_j (jv49 true)) rfl
    ·refine zA (fun x47 h48=>?_)
     refine J_d 128156 [] [52] [(52,bv x47)] [] [] (yO 2 [(47,bv (decide (v45<0)))] [] h46 (uD 5 2 48 false (xH («as»:=[rr 1 s29.1,iv v45]) [(.tmp 49),(.tmp 50)] [34,2] true [(1,rE 1 zF s29.1)] [] (.cons (zFJ (.head _) (fun _=>rfl) rfl) (.cons (.same rfl) (.nil))) (yX.ok s29.1 v45) h48 (.same rfl rfl) (hbor:=fun _=>⟨fhN,wV⟩)) zB)) ?_
     exact zN (J_j (jv49 x47)) rfl
  ·refine zG 31 (fun h35=>?_) (fun h35=>?_)
   ·refine zA (fun x36 h37=>?_)
    refine zA (fun x38 h39=>?_)
    refine J_g 256308 [(4,2)] [(0,sl 8 (Pack.enc false) a1),(4,pp 0),(5,sl 1 eStr x4),(6,rr 1 s29.1),(7,iv s29.2),(8,sl 1 eStr x33),(9,iv (-1)),(10,pp 2)] [(0,.box [iv 0,iv 0,nv]),(1,rE 1 zF s29.1),(2,.box (zQ.enc x38))] (zD 1 (wM (kk:=.i64) 69 9 1 eStr (.tmp 32) (.const (.int .i64 1)) h37) (zD 3 (yG [(.tmp 34)] [9] (xD.ok x36) h39) zB)) ?_
    refine J_d 512618 [] [38] [(38,bv (x38.Code==0))] [] [] zB ?_
    refine zG 38 (fun h40=>?_) (fun h40=>?_)
    ·refine zA (fun x41 h42=>?_)
     refine zA (fun x43 h44=>?_)
     refine J_d 1025238 [] [8,9,10,38] [(9,iv x43)] [2] [] (zD 2 (wM (kk:=.i64) 69 9 1 eStr (.tmp 40) (.const (.int .i64 0)) h42) (zD 6 (yG [(.tmp 39),(.tmp 42),(.tmp 44)] [24,9,83] (uV.ok a1 x41 x38.Version) h44) zB)) ?_
     exact zN (J_j (jv45 x43)) rfl
    ·exact zN (J_j (jv45 (-1))) rfl
   ·exact zN (J_j (jv45 (-1))) rfl
 ·exact zN (hk s29.1) rfl
theorem zC4.ok (a1:(List Pack)) (a2:ByteArray):Ok Tryz.prog 67 [sl 8 (Pack.enc false) a1,sv a2] [] ((zC4 a1 a2).map fun r=>(.ag (wB.enc false r),[])):=by
 refine zJ c67 Tryz.f67 0 60 (fun q=>?_)
 unfold zC4
 refine J_g 2 [(0,0)] [(0,sl 8 (Pack.enc false) a1),(1,sv a2),(4,pp 0)] [(0,.box [iv 0,iv 0,nv])] zB ?_
 refine J_d 12 [] [13] [(13,bv (decide ((a2.size:Int)>4000)))] [] [] zB ?_
 refine zG 13 (fun h3=>?_) (fun h3=>?_)
 ·refine J_g 52 [] [(4,pp 0)] [(0,.box [iv 2,iv 0,nv])] zB ?_
  exact zEO (ds:=[.ag [iv 2,iv 0,nv]]) (ds':=[.ag [iv 2,iv 0,sl 1 zF ([]:List Int)]]) (.cons (.ag (.keep rfl (.keep rfl (.nilsl false 1 (.nil))))) (.nil) (by decide)) rfl
 ·refine zA (fun x4 h5=>?_)
  refine J_g 14 [] [(0,sl 8 (Pack.enc false) a1),(4,pp 0),(5,sl 1 eStr x4)] [(0,.box [iv 0,iv 0,nv])] (zD 1 (yG [(.tmp 15)] [9] (tO.ok a2) h5) zB) ?_
  refine J_g 30 [] [(0,sl 8 (Pack.enc false) a1),(4,pp 0),(5,sl 1 eStr x4),(6,rr 1 ([]:List Int))] [(0,.box [iv 0,iv 0,nv]),(1,rE 1 zF ([]:List Int))] (zD 0 (vM 34 2 1 1 zF ([]:List Int) [] [] []) zB) ?_
  refine J_d 124 [] [7] [(7,iv 0)] [] [] zB ?_
  refine uL (K0:=(fun r:wB=>some (.ag (wB.enc false r),[]))) (fun _=>rfl) (zC3.ok a1 x4 q _ (fun v53=>J_j ?_) (([]:List Int),0))
  refine J_g 126 [] [(4,pp 0)] [(0,.box [iv 0,iv 0,rr 1 v53]),(1,rE 1 zF v53)] zB ?_
  refine vB [(4,pp 0)] [(1,rE 1 zF v53),(0,.box [iv 0,iv 0,rr 1 v53])] (by kernel_rfl) ?_
  refine zEc 1 (z:=1) (xs:=v53.map zF) (tm2:=[(4,pp 0)]) (hp2:=[(0,.box [iv 0,iv 0,sl 1 zF v53])]) (.cons (.keep rfl) (.nil)) (.box rfl (.cons (.keep rfl) (.cons (.keep rfl) (.cons (.rf (by simp) (jG (enc:=zF) (enc':=zF) (fun _=>rfl) v53 rfl rfl)) (.nil)))) (.nil)) rfl ?_
  exact yA rfl
def c84:Code:=cdB Tryz.f84
theorem zEC.ok (a1:(List Pack)) (a2:zP) (a3:Int):Ok Tryz.prog 84 [sl 8 (Pack.enc false) a1,pp 0,iv a3] [.box (zP.enc false a2)] ((zEC a1 a2 a3).map fun r=>(.ag (wB.enc false r),[.box (zP.enc false a2)])):=by
 refine zJ c84 Tryz.f84 1 35 (fun q=>?_)
 unfold zEC
 refine J_d 2 [(0,1)] [6] [(6,pp 1)] [1] [(1,.box [iv 0,iv 0,nv])] zB ?_
 refine zA (fun x4 h5=>?_)
 refine zA (fun x6 h7=>?_)
 refine J_d 12 [] [12] [(12,bv (!x6))] [] [] (zD 1 (zH7 [(0,.box (zP.enc false a2))] [(2,rE 1 zF x4)] (xH («as»:=[pp 0]) [(.tmp 8)] [43] false [(0,.box (zP.enc false a2))] [0] (.cons (.pt rfl) (.nil)) (jF.ok a2) h5 (.own 2))) (zD 3 (xH («as»:=[rr 2 x4,iv a3]) [(.tmp 9),(.tmp 10)] [34,2] true [(2,rE 1 zF x4)] [] (.cons (zFJ (.head _) (fun _=>rfl) rfl) (.cons (.same rfl) (.nil))) (yX.ok x4 a3) h7 (.same rfl rfl) (hbor:=fun _=>⟨fhN,wV⟩)) zB)) ?_
 refine zG 12 (fun h8=>?_) (fun h8=>?_)
 ·refine J_g 52 [] [(6,pp 1)] [(0,.box (zP.enc false a2)),(1,.box [iv 4,iv 0,nv])] zB ?_
  exact zEO (ds:=[.ag [iv 4,iv 0,nv]]) (ds':=[.ag [iv 4,iv 0,sl 1 zF ([]:List Int)]]) (.cons (.ag (.keep rfl (.keep rfl (.nilsl false 1 (.nil))))) (.nil) (by decide)) rfl
 ·refine zA (fun x9 h10=>?_)
  refine zA (fun x11 h12=>?_)
  refine zA (fun x13 h14=>?_)
  refine zA (fun x15 h16=>?_)
  refine J_g 14 [(14,2)] [(6,pp 1),(7,pp 2)] [(0,.box (zP.enc false a2)),(1,.box [iv 0,iv 0,nv]),(2,.box (wB.enc false x15))] (zD 7 (yG [(.tmp 20)] [2] (wL.ok a3) h10) (zD 8 (zH7 [(0,.box (zP.enc false a2))] [] (xH («as»:=[pp 0,sv x9]) [(.tmp 19),(.tmp 21)] [43,9] false [(0,.box (zP.enc false a2))] [0] (.cons (.pt rfl) (.cons (.same rfl) (.nil))) (uE.ok a2 x9) h12 (.same rfl rfl))) (zD 9 (wM (kk:=.i64) 37 114 2 (File.enc false) (.tmp 18) (.tmp 22) h14) (zD 12 (zRy (xs:=x13.Data) 22 9 5 (.tmp 25)) (zD 13 (yG [(.tmp 14),(.tmp 26)] [24,9] (zC4.ok a1 (b2s x13.Data)) h16) zB))))) ?_
  refine J_d 60 [] [30] [(30,bv (x15.Code !=0))] [] [] zB ?_
  refine zG 30 (fun h17=>?_) (fun h17=>?_)
  ·refine J_g 244 [] [(6,pp 1)] [(0,.box (zP.enc false a2)),(1,.box [iv x15.Code,iv 0,nv])] zB ?_
   exact zEO (ds:=[.ag [iv x15.Code,iv 0,nv]]) (ds':=[.ag [iv x15.Code,iv 0,sl 1 zF ([]:List Int)]]) (.cons (.ag (.keep rfl (.keep rfl (.nilsl false 1 (.nil))))) (.nil) (by decide)) rfl
  ·refine J_g 62 [] [(6,pp 1)] [(0,.box (zP.enc false a2)),(1,.box (wB.enc false x15))] zB ?_
   exact yA rfl
def c38:Code:=cdB Tryz.f38
theorem zCL.ok (a1:(List Pack)) (a2:zP):Ok Tryz.prog 38 [sl 8 (Pack.enc false) a1,pp 0] [.box (zP.enc false a2)] ((zCL a1 a2).map fun r=>(.ag (wB.enc false r),[.box (zP.enc false a2)])):=by
 refine zJ c38 Tryz.f38 1 10 (fun q=>?_)
 unfold zCL
 refine J_d 2 [(0,1)] [4] [(4,pp 1)] [1] [(1,.box [iv 0,iv 0,nv])] zB ?_
 refine zA (fun x3 h4=>?_)
 refine zA (fun x5 h6=>?_)
 refine J_g 6 [] [(4,pp 1)] [(0,.box (zP.enc false a2)),(1,.box (wB.enc false x5))] (zD 3 (zH7 [(0,.box (zP.enc false a2))] [] (xH («as»:=[pp 0]) [(.tmp 7)] [43] false [(0,.box (zP.enc false a2))] [0] (.cons (.pt rfl) (.nil)) (zAI.ok a2) h4 (.same rfl rfl))) (zD 4 (zH7 [(0,.box (zP.enc false a2))] [] (xH («as»:=[sl 8 (Pack.enc false) a1,pp 0,iv x3]) [(.tmp 5),(.tmp 6),(.tmp 8)] [24,43,2] false [(0,.box (zP.enc false a2))] [0] (.cons (.same rfl) (.cons (.pt rfl) (.cons (.same rfl) (.nil)))) (zEC.ok a1 a2 x3) h6 (.ag (.cons (.same rfl rfl) (.cons (.same rfl rfl) (.cons (.same rfl rfl) (.nil))))))) zB)) ?_
 exact yA rfl
def c40:Code:=cdB Tryz.f40
theorem kQ.ok (a1:(List Pack)) (a2:(List Int)):Ok Tryz.prog 40 [sl 8 (Pack.enc false) a1,sl 1 zF a2] [] ((kQ a1 a2).map fun r=>(bv r,[])):=by
 refine zJ c40 Tryz.f40 0 10 (fun q=>?_)
 unfold kQ
 refine J_d 2 [] [] [] [] [] zB ?_
 refine zA (fun x3 h4=>?_)
 refine J_g 6 [] [(4,bv ((x3.length:Int)==0))] [] (zD 2 (xH («as»:=[sl 8 (Pack.enc false) a1,sl 1 zF a2]) [(.tmp 5),(.tmp 6)] [24,34] false [] [] (.cons (.same rfl) (.cons (.same rfl) (.nil))) (uI.ok a1 a2) h4 (.own 0)) zB) ?_
 exact yA rfl
def zRX:Code:=cdB Tryz.f169
theorem zEq.ok (a1:(List Pack)) (a2:(List Int)) (a3:ByteArray) (q:Wd) (kn:Unit→Option (D×List Ent)) (hk:∀v:Unit,J (q.g Tryz.prog 169 0 28) zRX (atI zRX 7) (St.mk' [] []) (some v) kn):
  ∀s12:Int,J (q.g Tryz.prog 169 0 28) zRX (atI zRX 52) (St.mk' [(0,sl 8 (Pack.enc false) a1),(1,sl 1 zF a2),(2,sv a3),(7,iv s12)] []) (zEq a1 a2 a3 s12) (Fl.go (fun r:Int=>some (iv r,[])) kn):=by
 refine uM (fun g ih s12=>?_)
 unfold zDG
 refine J_d 208 [] [11] [(11,bv (decide (s12< (a2.length:Int))))] [] [] zB ?_
 refine zG 11 (fun h13=>?_) (fun h13=>?_)
 ·refine zA (fun x14 h15=>?_)
  refine zA (fun x16 h17=>?_)
  refine J_d 840 [] [11,23] [(23,bv (seq x16.Name a3))] [] [] (zD 3 (wM (kk:=.i64) 34 2 1 zF (.tmp 15) (.tmp 16) h15) (zD 5 (wM (kk:=.i64) 24 89 8 (Pack.enc false) (.tmp 14) (.tmp 18) h17) zB)) ?_
  refine zG 23 (fun h18=>?_) (fun h18=>?_)
  ·refine zA (fun x19 h20=>?_)
   refine J_g 3364 [] [(6,iv x19)] [] (zD 2 (wM (kk:=.i64) 34 2 1 zF (.tmp 24) (.tmp 25) h20) zB) ?_
   exact yA rfl
  ·refine J_d 211 [] [7,23] [(7,iv (w64 (s12+1)))] [] [] zB ?_
   exact J_q (J_b (ih (w64 (s12+1)))) rfl
 ·exact zN (hk ()) rfl
theorem kE.ok (a1:(List Pack)) (a2:(List Int)) (a3:ByteArray):Ok Tryz.prog 169 [sl 8 (Pack.enc false) a1,sl 1 zF a2,sv a3] [] ((kE a1 a2 a3).map fun r=>(iv r,[])):=by
 refine zJ zRX Tryz.f169 0 28 (fun q=>?_)
 unfold kE
 refine J_g 2 [] [(0,sl 8 (Pack.enc false) a1),(1,sl 1 zF a2),(2,sv a3)] [] zB ?_
 refine J_d 12 [] [7] [(7,iv 0)] [] [] zB ?_
 refine uL (K0:=(fun r:Int=>some (iv r,[]))) (fun _=>rfl) (zEq.ok a1 a2 a3 q _ (fun v21=>J_j ?_) 0)
 refine J_g 14 [] [(6,iv (-1))] [] zB ?_
 exact yA rfl
def c145:Code:=cdB Tryz.f145
theorem zDF.ok (a1:(List ByteArray)) (a2:ByteArray) (q:Wd) (kn:((List ByteArray)×Bool)→Option (D×List Ent)) (hk:∀v:((List ByteArray)×Bool),J (q.g Tryz.prog 145 1 50) c145 (atI c145 31) (St.mk' [(1,sv a2),(5,rr 1 v.1),(6,bv v.2)] [(0,rE 1 eStr a1),(1,rE 1 eStr v.1)]) (some v) kn):
  ∀s19:((List ByteArray)×Bool×Int),J (q.g Tryz.prog 145 1 50) c145 (atI c145 244) (St.mk' [(0,rr 0 a1),(1,sv a2),(5,rr 1 s19.1),(6,bv s19.2.1),(7,iv s19.2.2)] [(0,rE 1 eStr a1),(1,rE 1 eStr s19.1)]) (zDF a1 a2 s19) (Fl.go (fun r:(List ByteArray)=>some (so 1 eStr r,[])) kn):=by
 refine uM (fun g ih s19=>?_)
 unfold zDo
 refine J_d 976 [] [12] [(12,bv (decide (s19.2.2< (a1.length:Int))))] [] [] zB ?_
 refine zG 12 (fun h20=>?_) (fun h20=>?_)
 ·refine zA (fun x21 h22=>?_)
  refine J_d 7824 [] [12,20] [(20,bv (seq x21 a2))] [] [] (zD 2 (zAb (kk:=.i64) 69 9 1 0 eStr (.tmp 15) (.tmp 16) h22) (zD 3 (zAa (d:=sv x21) 9 1 0 0 eStr (.tmp 17) h22 (by kernel_rfl)) zB)) ?_
  refine zG 20 (fun h23=>?_) (fun h23=>?_)
  ·refine J_g 31300 [] [(4,rr 0 a1)] [(0,rE 1 eStr a1)] zB ?_
   exact zEO (ds:=[rr 0 a1]) (ds':=[so 1 eStr a1]) (.cons (.cell (.move (.head _) (qC _) (by decide) (.nil))) (.nil) (by decide)) rfl
  ·refine zA (fun x24 h25=>?_)
   refine zU (atI c145 15653) (fun v27:Bool=>St.mk' [(0,rr 0 a1),(1,sv a2),(5,rr 1 s19.1),(6,bv s19.2.1),(7,iv s19.2.2),(31,bv v27)] [(0,rE 1 eStr a1),(1,rE 1 eStr s19.1)]) (fun v27=>?_) (fun jv27=>?_)
   ·refine zU (atI c145 7827) (fun v31:((List ByteArray)×Bool)=>St.mk' [(0,rr 0 a1),(1,sv a2),(5,rr 3 v31.1),(6,bv v31.2),(7,iv s19.2.2)] [(0,rE 1 eStr a1),(3,rE 1 eStr v31.1)]) (fun v31=>?_) (fun jv31=>?_)
    ·refine zA (fun x32 h33=>?_)
     refine zA (fun x34 h35=>?_)
     refine J_g 7827 [] [(0,rr 0 a1),(1,sv a2),(5,rr 5 x34),(6,bv v31.2),(7,iv s19.2.2)] [(0,rE 1 eStr a1),(5,rE 1 eStr x34)] (zD 3 (zAb (kk:=.i64) 69 9 1 0 eStr (.tmp 37) (.tmp 38) h33) (zD 4 (zAa (d:=sv x32) 9 1 0 0 eStr (.tmp 39) h33 (by kernel_rfl)) (zD 5 (vM 69 9 1 4 eStr [x32] [0] [(.tmp 40)] [sv x32]) (zD 6 (zEQ 69 69 9 9 1 16 5 3 4 eStr (.tmp 36) (.tmp 41) h35) zB)))) ?_
     refine J_d 979 [] [7] [(7,iv (w64 (s19.2.2+1)))] [] [] zB ?_
     refine xV 5 1 (qB rfl) (qB rfl) ?_
     exact J_q (J_b (ih (x34,v31.2,w64 (s19.2.2+1)))) rfl
    ·refine zG 31 (fun h28=>?_) (fun h28=>?_)
     ·refine zA (fun x29 h30=>?_)
      refine J_g 62612 [] [(0,rr 0 a1),(1,sv a2),(5,rr 3 x29),(7,iv s19.2.2)] [(0,rE 1 eStr a1),(3,rE 1 eStr x29)] (zD 2 (vM 69 9 1 2 eStr [a2] [0] [(.tmp 33)] [sv a2]) (zD 3 (zEQ 69 69 9 9 1 16 3 1 2 eStr (.tmp 32) (.tmp 34) h30) zB)) ?_
      refine J_d 62613 [] [6] [(6,bv true)] [] [] zB ?_
      exact zN (J_j (jv31 (x29,true))) rfl
     ·refine xV 1 3 (qB rfl) (qB rfl) ?_
      exact zN (J_j (jv31 (s19.1,s19.2.1))) rfl
   ·refine xB (fun h26=>?_) (fun h26=>?_)
    ·refine J_d 15652 [] [20,31] [(31,bv (!s19.2.1))] [] [] (zD 2 (zAb (kk:=.i64) 69 9 1 0 eStr (.tmp 22) (.tmp 23) h25) (zD 3 (zAa (d:=sv x24) 9 1 0 0 eStr (.tmp 24) h25 (by kernel_rfl)) (yO 6 [(27,bv (!(slt x24 a2||seq x24 a2)))] [] h26 zB))) ?_
     exact zN (J_j (jv27 (!s19.2.1))) rfl
    ·refine J_d 15652 [] [20,31] [(31,bv false)] [] [] (zD 2 (zAb (kk:=.i64) 69 9 1 0 eStr (.tmp 22) (.tmp 23) h25) (zD 3 (zAa (d:=sv x24) 9 1 0 0 eStr (.tmp 24) h25 (by kernel_rfl)) (yO 6 [(27,bv (!(slt x24 a2||seq x24 a2)))] [] h26 zB))) ?_
     exact zN (J_j (jv27 false)) rfl
 ·exact zN (hk (s19.1,s19.2.1)) rfl
theorem vC.ok (a1:(List ByteArray)) (a2:ByteArray):Ok Tryz.prog 145 [rr 0 a1,sv a2] [rE 1 eStr a1] ((vC a1 a2).map fun r=>(so 1 eStr r,[])):=by
 refine zJ c145 Tryz.f145 1 50 (fun q=>?_)
 unfold vC
 refine J_g 2 [] [(0,rr 0 a1),(1,sv a2)] [(0,rE 1 eStr a1)] zB ?_
 refine J_g 6 [] [(0,rr 0 a1),(1,sv a2),(5,rr 1 ([]:List ByteArray))] [(0,rE 1 eStr a1),(1,rE 1 eStr ([]:List ByteArray))] (zD 0 (vM 69 9 1 1 eStr ([]:List ByteArray) [] [] []) zB) ?_
 refine J_g 14 [] [(0,rr 0 a1),(1,sv a2),(5,rr 1 ([]:List ByteArray)),(6,bv false)] [(0,rE 1 eStr a1),(1,rE 1 eStr ([]:List ByteArray))] zB ?_
 refine J_d 60 [] [7] [(7,iv 0)] [] [] zB ?_
 refine uL (K0:=(fun r:(List ByteArray)=>some (so 1 eStr r,[]))) (fun _=>rfl) (zDF.ok a1 a2 q _ (fun v36=>J_j ?_) (([]:List ByteArray),false,0))
 refine J_d 124 [] [6,44] [(44,bv (!v36.2))] [] [] zB ?_
 refine zU (atI c145 63) (fun v40:(List ByteArray)=>St.mk' [(5,rr 3 v40)] [(0,rE 1 eStr a1),(3,rE 1 eStr v40)]) (fun v40=>?_) (fun jv40=>?_)
 ·refine J_g 126 [] [(4,rr 3 v40)] [(0,rE 1 eStr a1),(3,rE 1 eStr v40)] zB ?_
  exact zEO (ds:=[rr 3 v40]) (ds':=[so 1 eStr v40]) (.cons (.cell (.move (.tail _ (.head _)) (qC _) (by decide) (.nil))) (.nil) (by decide)) rfl
 ·refine zG 44 (fun h37=>?_) (fun h37=>?_)
  ·refine zA (fun x38 h39=>?_)
   refine J_g 250 [] [(5,rr 3 x38)] [(0,rE 1 eStr a1),(3,rE 1 eStr x38)] (zD 2 (vM 69 9 1 2 eStr [a2] [0] [(.tmp 46)] [sv a2]) (zD 3 (zEQ 69 69 9 9 1 16 3 1 2 eStr (.tmp 45) (.tmp 47) h39) zB)) ?_
   exact zN (J_j (jv40 x38)) rfl
  ·refine xV 1 3 (qB rfl) (qB rfl) ?_
   exact zN (J_j (jv40 v36.1)) rfl
def c143:Code:=cdB Tryz.f143
theorem zAY.ok (a1:(List Pack)) (a2:(List Int)) (a3:(List Int)) (q:Wd) (kn:(List ByteArray)→Option (D×List Ent)) (hk:∀v:(List ByteArray),J (q.g Tryz.prog 143 0 35) c143 (atI c143 15) (St.mk' [(7,rr 0 v)] [(0,rE 1 eStr v)]) (some v) kn):
  ∀s15:((List ByteArray)×Int),J (q.g Tryz.prog 143 0 35) c143 (atI c143 116) (St.mk' [(0,sl 8 (Pack.enc false) a1),(1,sl 1 zF a2),(2,sl 1 zF a3),(7,rr 0 s15.1),(8,iv s15.2)] [(0,rE 1 eStr s15.1)]) (zAY a1 a2 a3 s15) kn:=by
 refine uM (fun g ih s15=>?_)
 unfold zAp
 refine J_d 464 [] [14] [(14,bv (decide (s15.2< (a1.length:Int))))] [] [] zB ?_
 refine zG 14 (fun h16=>?_) (fun h16=>?_)
 ·refine zA (fun x17 h18=>?_)
  refine J_d 1864 [] [9,14] [(9,sv x17.Name)] [] [] (zD 2 (wM (kk:=.i64) 24 89 8 (Pack.enc false) (.tmp 17) (.tmp 18) h18) zB) ?_
  refine zA (fun x19 h20=>?_)
  refine zA (fun x21 h22=>?_)
  refine J_d 3730 [] [30] [(30,bv (x19 !=x21))] [] [] (zD 3 (yG [(.tmp 22),(.tmp 23),(.tmp 24)] [24,34,9] (kE.ok a1 a2 x17.Name) h20) (zD 7 (yG [(.tmp 26),(.tmp 27),(.tmp 28)] [24,34,9] (kE.ok a1 a3 x17.Name) h22) zB)) ?_
  refine zU (aft c143 932) (fun v26:(List ByteArray)=>St.mk' [(0,sl 8 (Pack.enc false) a1),(1,sl 1 zF a2),(2,sl 1 zF a3),(7,rr 1 v26),(8,iv s15.2)] [(1,rE 1 eStr v26)]) (fun v26=>?_) (fun jv26=>?_)
  ·refine J_d 467 [] [8] [(8,iv (w64 (s15.2+1)))] [] [] zB ?_
   refine xV 1 0 (qB rfl) (qB rfl) ?_
   exact J_q (J_b (ih (v26,w64 (s15.2+1)))) rfl
  ·refine zG 30 (fun h23=>?_) (fun h23=>?_)
   ·refine zA (fun x24 h25=>?_)
    refine J_d 7462 [] [7,9,30] [(7,rr 1 x24)] [0,1] [(1,rE 1 eStr x24)] (zD 2 (xH («as»:=[rr 0 s15.1,sv x17.Name]) [(.tmp 31),(.tmp 32)] [69,9] false [(0,rE 1 eStr s15.1)] [0] (.cons (.rf rfl) (.cons (.same rfl) (.nil))) (vC.ok s15.1 x17.Name) h25 (.own 1)) zB) ?_
    exact zN (J_j (jv26 x24)) rfl
   ·refine xV 0 1 (qB rfl) (qB rfl) ?_
    exact zN (J_j (jv26 s15.1)) rfl
 ·exact zN (hk s15.1) rfl
theorem zAG.ok (a1:(List Pack)) (a2:(List Int)) (a3:(List Int)):Ok Tryz.prog 143 [sl 8 (Pack.enc false) a1,sl 1 zF a2,sl 1 zF a3] [] ((zAG a1 a2 a3).map fun r=>(sl 1 eStr r,[])):=by
 refine zJ c143 Tryz.f143 0 35 (fun q=>?_)
 unfold zAG
 refine J_g 2 [] [(0,sl 8 (Pack.enc false) a1),(1,sl 1 zF a2),(2,sl 1 zF a3)] [] zB ?_
 refine J_g 6 [] [(0,sl 8 (Pack.enc false) a1),(1,sl 1 zF a2),(2,sl 1 zF a3),(7,rr 0 ([]:List ByteArray))] [(0,rE 1 eStr ([]:List ByteArray))] (zD 0 (vM 69 9 1 0 eStr ([]:List ByteArray) [] [] []) zB) ?_
 refine J_d 28 [] [8] [(8,iv 0)] [] [] zB ?_
 refine zEx (zAY.ok a1 a2 a3 q _ (fun v27=>J_j ?_) (([]:List ByteArray),0))
 refine J_g 30 [] [(6,rr 0 v27)] [(0,rE 1 eStr v27)] zB ?_
 refine vB [(6,rr 0 v27)] [(0,rE 1 eStr v27)] (by kernel_rfl) ?_
 refine zEc 0 (z:=1) (xs:=v27.map eStr) (tm2:=[(6,sl 1 eStr v27)]) (hp2:=[]) (.cons (.rf (by simp) (jG (enc:=eStr) (enc':=eStr) (fun _=>rfl) v27 rfl rfl)) (.nil)) (.nil) rfl ?_
 exact yA rfl
def c183:Code:=cdB Tryz.f183
theorem zBF.ok (a1:(List Pack)) (a2:(List Int)) (a3:(List Int)) (a4:ByteArray):Ok Tryz.prog 183 [sl 8 (Pack.enc false) a1,sl 1 zF a2,sl 1 zF a3,sv a4] [] ((zBF a1 a2 a3 a4).map fun r=>(sl 8 (Pack.enc false) r,[])):=by
 refine zJ c183 Tryz.f183 0 40 (fun q=>?_)
 unfold zBF
 refine J_g 2 [] [(0,sl 8 (Pack.enc false) a1),(1,sl 1 zF a2),(2,sl 1 zF a3),(3,sv a4)] [] zB ?_
 refine J_d 6 [] [9] [(9,rr 0 ([]:List Pack))] [0] [(0,rE 8 (Pack.enc false) ([]:List Pack))] (zD 0 (vM 24 89 8 0 (Pack.enc false) ([]:List Pack) [] [] []) zB) ?_
 refine zA (fun x5 h6=>?_)
 refine J_g 28 [] [(0,sl 8 (Pack.enc false) a1),(2,sl 1 zF a3),(3,sv a4),(9,rr 0 ([]:List Pack)),(10,iv x5)] [(0,rE 8 (Pack.enc false) ([]:List Pack))] (zD 3 (yG [(.tmp 13),(.tmp 14),(.tmp 15)] [24,34,9] (kE.ok a1 a2 a4) h6) zB) ?_
 refine J_d 58 [] [18] [(18,bv (decide (x5≥0)))] [] [] zB ?_
 refine zU (atI c183 15) (fun v12:(List Pack)=>St.mk' [(0,sl 8 (Pack.enc false) a1),(2,sl 1 zF a3),(3,sv a4),(9,rr 2 v12)] [(2,rE 8 (Pack.enc false) v12)]) (fun v12=>?_) (fun jv12=>?_)
 ·refine zA (fun x13 h14=>?_)
  refine J_g 60 [] [(0,sl 8 (Pack.enc false) a1),(9,rr 2 v12),(11,iv x13)] [(2,rE 8 (Pack.enc false) v12)] (zD 3 (yG [(.tmp 26),(.tmp 27),(.tmp 28)] [24,34,9] (kE.ok a1 a3 a4) h14) zB) ?_
  refine J_d 122 [] [31] [(31,bv (decide (x13≥0)))] [] [] zB ?_
  refine zU (atI c183 31) (fun v20:(List Pack)=>St.mk' [(9,rr 4 v20)] [(4,rE 8 (Pack.enc false) v20)]) (fun v20=>?_) (fun jv20=>?_)
  ·refine J_g 62 [] [(8,rr 4 v20)] [(4,rE 8 (Pack.enc false) v20)] zB ?_
   refine vB [(8,rr 4 v20)] [(4,rE 8 (Pack.enc false) v20)] (by kernel_rfl) ?_
   refine zEc 4 (z:=8) (xs:=v20.map (Pack.enc false)) (tm2:=[(8,sl 8 (Pack.enc false) v20)]) (hp2:=[]) (.cons (.rf (by simp) (jG (enc:=(Pack.enc false)) (enc':=(Pack.enc false)) (Pack.ro false) v20 rfl rfl)) (.nil)) (.nil) rfl ?_
   exact yA rfl
  ·refine zG 31 (fun h15=>?_) (fun h15=>?_)
   ·refine zA (fun x16 h17=>?_)
    refine zA (fun x18 h19=>?_)
    refine J_g 246 [] [(9,rr 4 x18)] [(4,rE 8 (Pack.enc false) x18)] (zD 3 (wM (kk:=.i64) 24 89 8 (Pack.enc false) (.tmp 33) (.tmp 34) h17) (zD 5 (vM 24 89 8 3 (Pack.enc false) [x16] [0] [(.tmp 36)] [.ag (Pack.enc false x16)]) (zD 6 (zEQ 24 24 89 89 8 120 4 2 3 (Pack.enc false) (.tmp 32) (.tmp 37) h19) zB))) ?_
    exact zN (J_j (jv20 x18)) rfl
   ·refine xV 2 4 (qB rfl) (qB rfl) ?_
    exact zN (J_j (jv20 v12)) rfl
 ·refine zG 18 (fun h7=>?_) (fun h7=>?_)
  ·refine zA (fun x8 h9=>?_)
   refine zA (fun x10 h11=>?_)
   refine J_d 118 [] [9,10,18] [(9,rr 2 x10)] [0,2] [(2,rE 8 (Pack.enc false) x10)] (zD 3 (wM (kk:=.i64) 24 89 8 (Pack.enc false) (.tmp 20) (.tmp 21) h9) (zD 5 (vM 24 89 8 1 (Pack.enc false) [x8] [0] [(.tmp 23)] [.ag (Pack.enc false x8)]) (zD 6 (zEQ 24 24 89 89 8 120 2 0 1 (Pack.enc false) (.tmp 19) (.tmp 24) h11) zB))) ?_
   exact zN (J_j (jv12 x10)) rfl
  ·refine xV 0 2 (qB rfl) (qB rfl) ?_
   exact zN (J_j (jv12 ([]:List Pack))) rfl
def zPW:Code:=cdB Tryz.f170
theorem zDb.ok (x5:(List Pack)) (s28:((List ByteArray)×Int)) (q:Wd) (kn:(List ByteArray)→Option (D×List Ent)) (hk:∀v:(List ByteArray),J (q.g Tryz.prog 170 0 47) zPW (aft zPW 1956) (St.mk' [(9,rr 0 v),(10,sl 8 (Pack.enc false) x5),(11,iv s28.2)] [(0,rE 1 eStr v)]) (some v) kn):
  ∀s39:((List ByteArray)×Int),J (q.g Tryz.prog 170 0 47) zPW (atI zPW 15652) (St.mk' [(9,rr 0 s39.1),(10,sl 8 (Pack.enc false) x5),(11,iv s28.2),(12,iv s39.2)] [(0,rE 1 eStr s39.1)]) (zDb x5 s28 s39) kn:=by
 refine uM (fun g ih s39=>?_)
 unfold zBU
 refine zA (fun x40 h41=>?_)
 refine J_d 62608 [] [33] [(33,bv (decide (s39.2< (x40.Provides.length:Int))))] [] [] (zD 3 (wM (kk:=.i64) 24 89 8 (Pack.enc false) (.tmp 27) (.tmp 28) h41) zB) ?_
 refine zG 33 (fun h42=>?_) (fun h42=>?_)
 ·refine zA (fun x43 h44=>?_)
  refine zA (fun x45 h46=>?_)
  refine zA (fun x47 h48=>?_)
  refine J_g 125220 [] [(9,rr 1 x47),(10,sl 8 (Pack.enc false) x5),(11,iv s28.2),(12,iv s39.2)] [(1,rE 1 eStr x47)] (zD 3 (wM (kk:=.i64) 24 89 8 (Pack.enc false) (.tmp 37) (.tmp 38) h44) (zD 7 (wM (kk:=.i64) 69 9 1 eStr (.tmp 41) (.tmp 42) h46) (zD 9 (xH («as»:=[rr 0 s39.1,sv x45]) [(.tmp 36),(.tmp 44)] [69,9] false [(0,rE 1 eStr s39.1)] [0] (.cons (.rf rfl) (.cons (.same rfl) (.nil))) (vC.ok s39.1 x45) h48 (.own 1)) zB))) ?_
  refine J_d 62611 [] [12] [(12,iv (w64 (s39.2+1)))] [] [] zB ?_
  refine xV 1 0 (qB rfl) (qB rfl) ?_
  exact J_q (J_b (ih (x47,w64 (s39.2+1)))) rfl
 ·exact zN (hk s39.1) rfl
theorem zCE.ok (x5:(List Pack)) (q:Wd) (kn:(List ByteArray)→Option (D×List Ent)) (hk:∀v:(List ByteArray),J (q.g Tryz.prog 170 0 47) zPW (atI zPW 31) (St.mk' [(9,rr 0 v)] [(0,rE 1 eStr v)]) (some v) kn):
  ∀s28:((List ByteArray)×Int),J (q.g Tryz.prog 170 0 47) zPW (atI zPW 244) (St.mk' [(9,rr 0 s28.1),(10,sl 8 (Pack.enc false) x5),(11,iv s28.2)] [(0,rE 1 eStr s28.1)]) (zCE x5 s28) kn:=by
 refine uM (fun g ih s28=>?_)
 unfold zBM
 refine J_d 976 [] [23] [(23,bv (decide (s28.2< (x5.length:Int))))] [] [] zB ?_
 refine zG 23 (fun h29=>?_) (fun h29=>?_)
 ·refine J_d 3912 [] [12,23] [(12,iv 0)] [] [] zB ?_
  refine zEx (zDb.ok x5 s28 q _ (fun v49=>J_j ?_) (s28.1,0))
  refine J_d 979 [] [11] [(11,iv (w64 (s28.2+1)))] [] [] zB ?_
  exact J_q (J_b (ih (v49,w64 (s28.2+1)))) rfl
 ·exact zN (hk s28.1) rfl
theorem zAs.ok (a1:(List Pack)) (a2:(List Int)) (a3:(List Int)) (a4:ByteArray):Ok Tryz.prog 170 [sl 8 (Pack.enc false) a1,sl 1 zF a2,sl 1 zF a3,sv a4] [] ((zAs a1 a2 a3 a4).map fun r=>(sl 1 eStr r,[])):=by
 refine zJ zPW Tryz.f170 0 47 (fun q=>?_)
 unfold zAs
 refine J_g 2 [] [(0,sl 8 (Pack.enc false) a1),(1,sl 1 zF a2),(2,sl 1 zF a3),(3,sv a4)] [] zB ?_
 refine J_d 6 [] [9] [(9,rr 0 [a4])] [0] [(0,rE 1 eStr [a4])] (zD 1 (vM 69 9 1 0 eStr [a4] [0] [(.tmp 13)] [sv a4]) zB) ?_
 refine zA (fun x5 h6=>?_)
 refine J_g 14 [] [(9,rr 0 [a4]),(10,sl 8 (Pack.enc false) x5)] [(0,rE 1 eStr [a4])] (zD 4 (yG [(.tmp 15),(.tmp 16),(.tmp 17),(.tmp 18)] [24,34,34,9] (zBF.ok a1 a2 a3 a4) h6) zB) ?_
 refine J_d 60 [] [11] [(11,iv 0)] [] [] zB ?_
 refine zEx (zCE.ok x5 q _ (fun v50=>J_j ?_) ([a4],0))
 refine J_g 62 [] [(8,rr 0 v50)] [(0,rE 1 eStr v50)] zB ?_
 refine vB [(8,rr 0 v50)] [(0,rE 1 eStr v50)] (by kernel_rfl) ?_
 refine zEc 0 (z:=1) (xs:=v50.map eStr) (tm2:=[(8,sl 1 eStr v50)]) (hp2:=[]) (.cons (.rf (by simp) (jG (enc:=eStr) (enc':=eStr) (fun _=>rfl) v50 rfl rfl)) (.nil)) (.nil) rfl ?_
 exact yA rfl
def zN7:Code:=cdB Tryz.f185
theorem zA4.ok (a1:Pack) (s23:((List ByteArray)×Int)) (q:Wd) (kn:(List ByteArray)→Option (D×List Ent)) (hk:∀v:(List ByteArray),J (q.g Tryz.prog 185 0 52) zN7 (aft zN7 932) (St.mk' [(1,pp 0),(3,rr 1 v),(4,iv s23.2)] [(0,.box (Pack.enc false a1)),(1,rE 1 eStr v)]) (some v) kn):
  ∀s34:((List ByteArray)×Int),J (q.g Tryz.prog 185 0 52) zN7 (atI zN7 7460) (St.mk' [(1,pp 0),(3,rr 1 s34.1),(4,iv s23.2),(5,iv s34.2)] [(0,.box (Pack.enc false a1)),(1,rE 1 eStr s34.1)]) (zA4 a1 s23 s34) kn:=by
 refine uM (fun g ih s34=>?_)
 unfold kV
 refine zA (fun x35 h36=>?_)
 refine J_d 29840 [] [22] [(22,bv (decide (s34.2< (x35.length:Int))))] [] [] (zD 4 (wM (kk:=.i64) 87 25 1 (eSl false 7 Term.enc) (.tmp 17) (.tmp 18) h36) zB) ?_
 refine zG 22 (fun h37=>?_) (fun h37=>?_)
 ·refine zA (fun x38 h39=>?_)
  refine zA (fun x40 h41=>?_)
  refine zA (fun x42 h43=>?_)
  refine J_g 59684 [] [(1,pp 0),(3,rr 2 x42),(4,iv s23.2),(5,iv s34.2)] [(0,.box (Pack.enc false a1)),(2,rE 1 eStr x42)] (zD 4 (wM (kk:=.i64) 87 25 1 (eSl false 7 Term.enc) (.tmp 27) (.tmp 28) h39) (zD 7 (wM (kk:=.i64) 25 85 7 Term.enc (.tmp 30) (.tmp 31) h41) (zD 10 (xH («as»:=[rr 1 s34.1,sv x40.Name]) [(.tmp 25),(.tmp 34)] [69,9] false [(1,rE 1 eStr s34.1)] [1] (.cons (.rf rfl) (.cons (.same rfl) (.nil))) (vC.ok s34.1 x40.Name) h43 (.own 2)) zB))) ?_
  refine J_d 29843 [] [5] [(5,iv (w64 (s34.2+1)))] [] [] zB ?_
  refine xV 2 1 (qB rfl) (qB rfl) ?_
  exact J_q (J_b (ih (x42,w64 (s34.2+1)))) rfl
 ·exact zN (hk s34.1) rfl
theorem zA7.ok (a1:Pack) (q:Wd) (kn:(List ByteArray)→Option (D×List Ent)) (hk:∀v:(List ByteArray),J (q.g Tryz.prog 185 0 52) zN7 (atI zN7 31) (St.mk' [(3,rr 1 v)] [(1,rE 1 eStr v)]) (some v) kn):
  ∀s51:((List ByteArray)×Int),J (q.g Tryz.prog 185 0 52) zN7 (atI zN7 244) (St.mk' [(1,pp 0),(3,rr 1 s51.1),(6,iv s51.2)] [(0,.box (Pack.enc false a1)),(1,rE 1 eStr s51.1)]) (zA7 a1 s51) kn:=by
 refine uM (fun g ih s51=>?_)
 unfold kW
 refine J_d 976 [] [40] [(40,bv (decide (s51.2< (a1.Bars.length:Int))))] [] [] zB ?_
 refine zG 40 (fun h52=>?_) (fun h52=>?_)
 ·refine zA (fun x53 h54=>?_)
  refine zA (fun x55 h56=>?_)
  refine J_g 1956 [] [(1,pp 0),(3,rr 2 x55),(6,iv s51.2)] [(0,.box (Pack.enc false a1)),(2,rE 1 eStr x55)] (zD 4 (wM (kk:=.i64) 25 85 7 Term.enc (.tmp 45) (.tmp 46) h54) (zD 7 (xH («as»:=[rr 1 s51.1,sv x53.Name]) [(.tmp 43),(.tmp 49)] [69,9] false [(1,rE 1 eStr s51.1)] [1] (.cons (.rf rfl) (.cons (.same rfl) (.nil))) (vC.ok s51.1 x53.Name) h56 (.own 2)) zB)) ?_
  refine J_d 979 [] [6] [(6,iv (w64 (s51.2+1)))] [] [] zB ?_
  refine xV 2 1 (qB rfl) (qB rfl) ?_
  exact J_q (J_b (ih (x55,w64 (s51.2+1)))) rfl
 ·exact zN (hk s51.1) rfl
theorem zAz.ok (a1:Pack) (q:Wd) (kn:(List ByteArray)→Option (D×List Ent)) (hk:∀v:(List ByteArray),J (q.g Tryz.prog 185 0 52) zN7 (atI zN7 15) (St.mk' [(1,pp 0),(3,rr 1 v)] [(0,.box (Pack.enc false a1)),(1,rE 1 eStr v)]) (some v) kn):
  ∀s23:((List ByteArray)×Int),J (q.g Tryz.prog 185 0 52) zN7 (atI zN7 116) (St.mk' [(1,pp 0),(3,rr 1 s23.1),(4,iv s23.2)] [(0,.box (Pack.enc false a1)),(1,rE 1 eStr s23.1)]) (zAz a1 s23) kn:=by
 refine uM (fun g ih s23=>?_)
 unfold kR
 refine J_d 464 [] [12] [(12,bv (decide (s23.2< (a1.Needs.length:Int))))] [] [] zB ?_
 refine zG 12 (fun h24=>?_) (fun h24=>?_)
 ·refine J_d 1864 [] [5,12] [(5,iv 0)] [] [] zB ?_
  refine zEx (zA4.ok a1 s23 q _ (fun v44=>J_j ?_) (s23.1,0))
  refine J_d 467 [] [4] [(4,iv (w64 (s23.2+1)))] [] [] zB ?_
  exact J_q (J_b (ih (v44,w64 (s23.2+1)))) rfl
 ·exact zN (hk s23.1) rfl
theorem kN.ok (a1:Pack):Ok Tryz.prog 185 [.ag (Pack.enc false a1)] [] ((kN a1).map fun r=>(sl 1 eStr r,[])):=by
 refine zJ zN7 Tryz.f185 0 52 (fun q=>?_)
 unfold kN
 refine J_g 2 [(0,0)] [(1,pp 0)] [(0,.box (Pack.enc false a1))] zB ?_
 refine J_g 6 [] [(1,pp 0),(3,rr 1 ([]:List ByteArray))] [(0,.box (Pack.enc false a1)),(1,rE 1 eStr ([]:List ByteArray))] (zD 0 (vM 69 9 1 1 eStr ([]:List ByteArray) [] [] []) zB) ?_
 refine J_d 28 [] [4] [(4,iv 0)] [] [] zB ?_
 refine zEx (zAz.ok a1 q _ (fun v45=>J_j ?_) (([]:List ByteArray),0))
 refine J_d 60 [] [6] [(6,iv 0)] [] [] zB ?_
 refine zEx (zA7.ok a1 q _ (fun v57=>J_j ?_) (v45,0))
 refine J_g 62 [] [(2,rr 1 v57)] [(1,rE 1 eStr v57)] zB ?_
 refine vB [(2,rr 1 v57)] [(1,rE 1 eStr v57)] (by kernel_rfl) ?_
 refine zEc 1 (z:=1) (xs:=v57.map eStr) (tm2:=[(2,sl 1 eStr v57)]) (hp2:=[]) (.cons (.rf (by simp) (jG (enc:=eStr) (enc':=eStr) (fun _=>rfl) v57 rfl rfl)) (.nil)) (.nil) rfl ?_
 exact yA rfl
def zR6:Code:=cdB Tryz.f184
theorem zCI.ok (a1:(List ByteArray)) (a2:(List ByteArray)) (q:Wd) (kn:Unit→Option (D×List Ent)) (hk:∀v:Unit,J (q.g Tryz.prog 184 0 18) zR6 (atI zR6 7) (St.mk' [] []) (some v) kn):
  ∀s9:Int,J (q.g Tryz.prog 184 0 18) zR6 (atI zR6 52) (St.mk' [(0,sl 1 eStr a1),(1,sl 1 eStr a2),(5,iv s9)] []) (zCI a1 a2 s9) (Fl.go (fun r:Bool=>some (bv r,[])) kn):=by
 refine uM (fun g ih s9=>?_)
 unfold zDP
 refine J_d 208 [] [9] [(9,bv (decide (s9< (a1.length:Int))))] [] [] zB ?_
 refine zG 9 (fun h10=>?_) (fun h10=>?_)
 ·refine zA (fun x11 h12=>?_)
  refine zA (fun x13 h14=>?_)
  refine J_d 840 [] [9,17] [(17,bv x13)] [] [] (zD 3 (wM (kk:=.i64) 69 9 1 eStr (.tmp 13) (.tmp 14) h12) (zD 5 (yG [(.tmp 12),(.tmp 16)] [69,9] (xG.ok a2 x11) h14) zB)) ?_
  refine zG 17 (fun h15=>?_) (fun h15=>?_)
  ·refine J_g 3364 [] [(4,bv true)] [] zB ?_
   exact yA rfl
  ·refine J_d 211 [] [5,17] [(5,iv (w64 (s9+1)))] [] [] zB ?_
   exact J_q (J_b (ih (w64 (s9+1)))) rfl
 ·exact zN (hk ()) rfl
theorem zC8.ok (a1:(List ByteArray)) (a2:(List ByteArray)):Ok Tryz.prog 184 [sl 1 eStr a1,sl 1 eStr a2] [] ((zC8 a1 a2).map fun r=>(bv r,[])):=by
 refine zJ zR6 Tryz.f184 0 18 (fun q=>?_)
 unfold zC8
 refine J_g 2 [] [(0,sl 1 eStr a1),(1,sl 1 eStr a2)] [] zB ?_
 refine J_d 12 [] [5] [(5,iv 0)] [] [] zB ?_
 refine uL (K0:=(fun r:Bool=>some (bv r,[]))) (fun _=>rfl) (zCI.ok a1 a2 q _ (fun v16=>J_j ?_) 0)
 refine J_g 14 [] [(4,bv false)] [] zB ?_
 exact yA rfl
def c171:Code:=cdB Tryz.f171
theorem zDD.ok (a5:(List ByteArray)) (x6:(List Pack)) (q:Wd) (kn:Unit→Option (D×List Ent)) (hk:∀v:Unit,J (q.g Tryz.prog 171 0 31) c171 (atI c171 15) (St.mk' [] []) (some v) kn):
  ∀s16:Int,J (q.g Tryz.prog 171 0 31) c171 (atI c171 116) (St.mk' [(4,sl 1 eStr a5),(11,sl 8 (Pack.enc false) x6),(12,iv s16)] []) (zDD a5 x6 s16) (Fl.go (fun r:Bool=>some (bv r,[])) kn):=by
 refine uM (fun g ih s16=>?_)
 unfold zDh
 refine J_d 464 [] [21] [(21,bv (decide (s16< (x6.length:Int))))] [] [] zB ?_
 refine zG 21 (fun h17=>?_) (fun h17=>?_)
 ·refine zA (fun x18 h19=>?_)
  refine zA (fun x20 h21=>?_)
  refine zA (fun x22 h23=>?_)
  refine J_d 1864 [] [21,30] [(30,bv x22)] [] [] (zD 2 (wM (kk:=.i64) 24 89 8 (Pack.enc false) (.tmp 24) (.tmp 25) h19) (zD 4 (yG [(.tmp 27)] [89] (kN.ok x18) h21) (zD 6 (yG [(.tmp 28),(.tmp 29)] [69,69] (zC8.ok x20 a5) h23) zB))) ?_
  refine zG 30 (fun h24=>?_) (fun h24=>?_)
  ·refine J_g 7460 [] [(10,bv true)] [] zB ?_
   exact yA rfl
  ·refine J_d 467 [] [12,30] [(12,iv (w64 (s16+1)))] [] [] zB ?_
   exact J_q (J_b (ih (w64 (s16+1)))) rfl
 ·exact zN (hk ()) rfl
theorem uG.ok (a1:(List Pack)) (a2:(List Int)) (a3:(List Int)) (a4:ByteArray) (a5:(List ByteArray)):Ok Tryz.prog 171 [sl 8 (Pack.enc false) a1,sl 1 zF a2,sl 1 zF a3,sv a4,sl 1 eStr a5] [] ((uG a1 a2 a3 a4 a5).map fun r=>(bv r,[])):=by
 refine zJ c171 Tryz.f171 0 31 (fun q=>?_)
 unfold uG
 refine J_d 2 [] [] [] [] [] zB ?_
 refine zA (fun x6 h7=>?_)
 refine J_g 6 [] [(4,sl 1 eStr a5),(11,sl 8 (Pack.enc false) x6)] [] (zD 4 (yG [(.tmp 13),(.tmp 14),(.tmp 15),(.tmp 16)] [24,34,34,9] (zBF.ok a1 a2 a3 a4) h7) zB) ?_
 refine J_d 28 [] [12] [(12,iv 0)] [] [] zB ?_
 refine uL (K0:=(fun r:Bool=>some (bv r,[]))) (fun _=>rfl) (zDD.ok a5 x6 q _ (fun v25=>J_j ?_) 0)
 refine J_g 30 [] [(10,bv false)] [] zB ?_
 exact yA rfl
def zSe:Code:=cdB Tryz.f186
theorem zCh.ok (a1:(List Term)) (a2:(List ByteArray)) (q:Wd) (kn:Unit→Option (D×List Ent)) (hk:∀v:Unit,J (q.g Tryz.prog 186 0 19) zSe (atI zSe 7) (St.mk' [] []) (some v) kn):
  ∀s9:Int,J (q.g Tryz.prog 186 0 19) zSe (atI zSe 52) (St.mk' [(0,sl 7 Term.enc a1),(1,sl 1 eStr a2),(5,iv s9)] []) (zCh a1 a2 s9) (Fl.go (fun r:Bool=>some (bv r,[])) kn):=by
 refine uM (fun g ih s9=>?_)
 unfold zDu
 refine J_d 208 [] [9] [(9,bv (decide (s9< (a1.length:Int))))] [] [] zB ?_
 refine zG 9 (fun h10=>?_) (fun h10=>?_)
 ·refine zA (fun x11 h12=>?_)
  refine zA (fun x13 h14=>?_)
  refine J_d 840 [] [9,18] [(18,bv x13)] [] [] (zD 3 (wM (kk:=.i64) 25 85 7 Term.enc (.tmp 13) (.tmp 14) h12) (zD 6 (yG [(.tmp 12),(.tmp 17)] [69,9] (xG.ok a2 x11.Name) h14) zB)) ?_
  refine zG 18 (fun h15=>?_) (fun h15=>?_)
  ·refine J_g 3364 [] [(4,bv true)] [] zB ?_
   exact yA rfl
  ·refine J_d 211 [] [5,18] [(5,iv (w64 (s9+1)))] [] [] zB ?_
   exact J_q (J_b (ih (w64 (s9+1)))) rfl
 ·exact zN (hk ()) rfl
theorem uY.ok (a1:(List Term)) (a2:(List ByteArray)):Ok Tryz.prog 186 [sl 7 Term.enc a1,sl 1 eStr a2] [] ((uY a1 a2).map fun r=>(bv r,[])):=by
 refine zJ zSe Tryz.f186 0 19 (fun q=>?_)
 unfold uY
 refine J_g 2 [] [(0,sl 7 Term.enc a1),(1,sl 1 eStr a2)] [] zB ?_
 refine J_d 12 [] [5] [(5,iv 0)] [] [] zB ?_
 refine uL (K0:=(fun r:Bool=>some (bv r,[]))) (fun _=>rfl) (zCh.ok a1 a2 q _ (fun v16=>J_j ?_) 0)
 refine J_g 14 [] [(4,bv false)] [] zB ?_
 exact yA rfl
def zPn:Code:=cdB Tryz.f172
theorem zA9.ok (a1:(List Pack)) (a2:(List Int)) (a3:(List ByteArray)) (a4:(List ByteArray)) (s36:Int) (x40:Pack) (q:Wd) (kn:Unit→Option (D×List Ent)) (hk:∀v:Unit,J (q.g Tryz.prog 172 0 46) zPn (aft zPn 420) (St.mk' [(0,sl 8 (Pack.enc false) a1),(1,sl 1 zF a2),(2,sl 1 eStr a3),(3,sl 1 eStr a4),(9,iv s36)] []) (some v) kn):
  ∀s54:Int,J (q.g Tryz.prog 172 0 46) zPn (atI zPn 6732) (St.mk' [(0,sl 8 (Pack.enc false) a1),(1,sl 1 zF a2),(2,sl 1 eStr a3),(3,sl 1 eStr a4),(9,iv s36),(10,sl 1 (eSl false 7 Term.enc) x40.Needs),(11,iv s54)] []) (zA9 a1 a2 a3 a4 s36 x40 s54) (Fl.go (fun r:Bool=>some (bv r,[])) kn):=by
 refine uM (fun g ih s54=>?_)
 unfold uR
 refine J_d 26928 [] [29] [(29,bv (decide (s54< (x40.Needs.length:Int))))] [] [] zB ?_
 refine zG 29 (fun h55=>?_) (fun h55=>?_)
 ·refine zA (fun x56 h57=>?_)
  refine zA (fun x58 h59=>?_)
  refine zU (atI zPn 107721) (fun v65:Bool=>St.mk' [(0,sl 8 (Pack.enc false) a1),(1,sl 1 zF a2),(2,sl 1 eStr a3),(3,sl 1 eStr a4),(9,iv s36),(10,sl 1 (eSl false 7 Term.enc) x40.Needs),(11,iv s54),(45,bv v65)] []) (fun v65=>?_) (fun jv65=>?_)
  ·refine zG 45 (fun h66=>?_) (fun h66=>?_)
   ·refine J_g 430884 [] [(8,bv true)] [] zB ?_
    exact yA rfl
   ·refine J_d 26931 [] [11,45] [(11,iv (w64 (s54+1)))] [] [] zB ?_
    exact J_q (J_b (ih (w64 (s54+1)))) rfl
  ·refine xB (fun h60=>?_) (fun h60=>?_)
   ·refine zA (fun x61 h62=>?_)
    refine zA (fun x63 h64=>?_)
    refine J_d 107720 [] [29,45] [(45,bv x63)] [] [] (zD 2 (wM (kk:=.i64) 87 25 1 (eSl false 7 Term.enc) (.tmp 32) (.tmp 33) h57) (zD 5 (yG [(.tmp 35),(.tmp 36)] [25,69] (uY.ok x56 a3) h59) (yO 6 [(37,bv x58)] [] h60 (uD 9 6 38 true (wM (kk:=.i64) 87 25 1 (eSl false 7 Term.enc) (.tmp 39) (.tmp 40) h62) (uD 12 6 38 true (yG [(.tmp 42),(.tmp 43)] [25,69] (uY.ok x61 a4) h64) zB))))) ?_
    exact zN (J_j (jv65 x63)) rfl
   ·refine J_d 107720 [] [29,45] [(45,bv false)] [] [] (zD 2 (wM (kk:=.i64) 87 25 1 (eSl false 7 Term.enc) (.tmp 32) (.tmp 33) h57) (zD 5 (yG [(.tmp 35),(.tmp 36)] [25,69] (uY.ok x56 a3) h59) (yO 6 [(37,bv x58)] [] h60 zB))) ?_
    exact zN (J_j (jv65 false)) rfl
 ·exact zN (hk ()) rfl
theorem zAx.ok (a1:(List Pack)) (a2:(List Int)) (a3:(List ByteArray)) (a4:(List ByteArray)) (q:Wd) (kn:Unit→Option (D×List Ent)) (hk:∀v:Unit,J (q.g Tryz.prog 172 0 46) zPn (atI zPn 7) (St.mk' [] []) (some v) kn):
  ∀s36:Int,J (q.g Tryz.prog 172 0 46) zPn (atI zPn 52) (St.mk' [(0,sl 8 (Pack.enc false) a1),(1,sl 1 zF a2),(2,sl 1 eStr a3),(3,sl 1 eStr a4),(9,iv s36)] []) (zAx a1 a2 a3 a4 s36) (Fl.go (fun r:Bool=>some (bv r,[])) kn):=by
 refine uM (fun g ih s36=>?_)
 unfold kT
 refine J_d 208 [] [15] [(15,bv (decide (s36< (a2.length:Int))))] [] [] zB ?_
 refine zG 15 (fun h37=>?_) (fun h37=>?_)
 ·refine zA (fun x38 h39=>?_)
  refine zA (fun x40 h41=>?_)
  refine J_g 840 [] [(0,sl 8 (Pack.enc false) a1),(1,sl 1 zF a2),(2,sl 1 eStr a3),(3,sl 1 eStr a4),(9,iv s36),(10,sl 1 (eSl false 7 Term.enc) x40.Needs)] [] (zD 3 (wM (kk:=.i64) 34 2 1 zF (.tmp 19) (.tmp 20) h39) (zD 5 (wM (kk:=.i64) 24 89 8 (Pack.enc false) (.tmp 18) (.tmp 22) h41) zB)) ?_
  refine J_d 1682 [] [11] [(11,iv 0)] [] [] zB ?_
  refine uL (K0:=(fun r:Bool=>some (bv r,[]))) (fun _=>rfl) (zA9.ok a1 a2 a3 a4 s36 x40 q _ (fun v67=>J_j ?_) 0)
  refine J_d 211 [] [9] [(9,iv (w64 (s36+1)))] [] [] zB ?_
  exact J_q (J_b (ih (w64 (s36+1)))) rfl
 ·exact zN (hk ()) rfl
theorem vJ.ok (a1:(List Pack)) (a2:(List Int)) (a3:(List ByteArray)) (a4:(List ByteArray)):Ok Tryz.prog 172 [sl 8 (Pack.enc false) a1,sl 1 zF a2,sl 1 eStr a3,sl 1 eStr a4] [] ((vJ a1 a2 a3 a4).map fun r=>(bv r,[])):=by
 refine zJ zPn Tryz.f172 0 46 (fun q=>?_)
 unfold vJ
 refine J_g 2 [] [(0,sl 8 (Pack.enc false) a1),(1,sl 1 zF a2),(2,sl 1 eStr a3),(3,sl 1 eStr a4)] [] zB ?_
 refine J_d 12 [] [9] [(9,iv 0)] [] [] zB ?_
 refine uL (K0:=(fun r:Bool=>some (bv r,[]))) (fun _=>rfl) (zAx.ok a1 a2 a3 a4 q _ (fun v68=>J_j ?_) 0)
 refine J_g 14 [] [(8,bv false)] [] zB ?_
 exact yA rfl
def zTb:Code:=cdB Tryz.f144
theorem xP.ok (a1:(List Pack)) (a2:(List Int)) (a3:(List Int)) (a4:ByteArray) (a5:ByteArray):Ok Tryz.prog 144 [sl 8 (Pack.enc false) a1,sl 1 zF a2,sl 1 zF a3,sv a4,sv a5] [] ((xP a1 a2 a3 a4 a5).map fun r=>(bv r,[])):=by
 refine zJ zTb Tryz.f144 0 51 (fun q=>?_)
 unfold xP
 refine J_d 2 [] [] [] [] [] zB ?_
 refine zA (fun x6 h7=>?_)
 refine J_d 6 [] [11] [(11,sl 1 eStr x6)] [] [] (zD 4 (yG [(.tmp 13),(.tmp 14),(.tmp 15),(.tmp 16)] [24,34,34,9] (zAs.ok a1 a2 a3 a4) h7) zB) ?_
 refine zA (fun x8 h9=>?_)
 refine J_d 14 [] [12] [(12,sl 1 eStr x8)] [] [] (zD 4 (yG [(.tmp 18),(.tmp 19),(.tmp 20),(.tmp 21)] [24,34,34,9] (zAs.ok a1 a2 a3 a5) h9) zB) ?_
 refine zA (fun x10 h11=>?_)
 refine xB (fun h12=>?_) (fun h12=>?_)
 ·refine J_g 30 [] [(10,bv true)] [] (zD 5 (yG [(.tmp 23),(.tmp 24),(.tmp 25),(.tmp 26),(.tmp 27)] [24,34,34,9,69] (uG.ok a1 a2 a3 a4 x8) h11) (yO 6 [(28,bv x10)] [] h12 zB)) ?_
  exact yA rfl
 ·refine zA (fun x13 h14=>?_)
  refine xB (fun h15=>?_) (fun h15=>?_)
  ·refine J_g 30 [] [(10,bv true)] [] (zD 5 (yG [(.tmp 23),(.tmp 24),(.tmp 25),(.tmp 26),(.tmp 27)] [24,34,34,9,69] (uG.ok a1 a2 a3 a4 x8) h11) (yO 6 [(28,bv x10)] [] h12 (uD 12 6 29 false (yG [(.tmp 30),(.tmp 31),(.tmp 32),(.tmp 33),(.tmp 34)] [24,34,34,9,69] (uG.ok a1 a2 a3 a5 x6) h14) (yO 14 [(36,bv x13)] [] h15 zB)))) ?_
   exact yA rfl
  ·refine zA (fun x16 h17=>?_)
   refine xB (fun h18=>?_) (fun h18=>?_)
   ·refine J_g 30 [] [(10,bv true)] [] (zD 5 (yG [(.tmp 23),(.tmp 24),(.tmp 25),(.tmp 26),(.tmp 27)] [24,34,34,9,69] (uG.ok a1 a2 a3 a4 x8) h11) (yO 6 [(28,bv x10)] [] h12 (uD 12 6 29 false (yG [(.tmp 30),(.tmp 31),(.tmp 32),(.tmp 33),(.tmp 34)] [24,34,34,9,69] (uG.ok a1 a2 a3 a5 x6) h14) (yO 14 [(36,bv x13)] [] h15 (uD 19 14 37 false (yG [(.tmp 38),(.tmp 39),(.tmp 40),(.tmp 41)] [24,34,69,69] (vJ.ok a1 a2 x6 x8) h17) (yO 21 [(43,bv x16)] [] h18 zB)))))) ?_
    exact yA rfl
   ·refine zA (fun x19 h20=>?_)
    refine J_g 30 [] [(10,bv x19)] [] (zD 5 (yG [(.tmp 23),(.tmp 24),(.tmp 25),(.tmp 26),(.tmp 27)] [24,34,34,9,69] (uG.ok a1 a2 a3 a4 x8) h11) (yO 6 [(28,bv x10)] [] h12 (uD 12 6 29 false (yG [(.tmp 30),(.tmp 31),(.tmp 32),(.tmp 33),(.tmp 34)] [24,34,34,9,69] (uG.ok a1 a2 a3 a5 x6) h14) (yO 14 [(36,bv x13)] [] h15 (uD 19 14 37 false (yG [(.tmp 38),(.tmp 39),(.tmp 40),(.tmp 41)] [24,34,69,69] (vJ.ok a1 a2 x6 x8) h17) (yO 21 [(43,bv x16)] [] h18 (uD 26 21 44 false (yG [(.tmp 45),(.tmp 46),(.tmp 47),(.tmp 48)] [24,34,69,69] (vJ.ok a1 a3 x6 x8) h20) zB))))))) ?_
    exact yA rfl
def c91:Code:=cdB Tryz.f91
theorem zDc.ok (a1:(List Pack)) (a2:(List Int)) (a3:(List Int)) (s206:((List ByteArray)×(List (List ByteArray)))) (s337:((List ByteArray)×Bool×Int)) (q:Wd) (kn:((List ByteArray)×Bool)→Option (D×List Ent)) (hk:∀v:((List ByteArray)×Bool),J (q.g Tryz.prog 91 0 94) c91 (aft c91 7909732) (St.mk' [(0,sl 8 (Pack.enc false) a1),(1,sl 1 zF a2),(2,sl 1 zF a3),(7,sl 1 eStr s206.1),(8,rr 0 s206.2),(9,rr 1 v.1),(10,bv v.2),(11,iv s337.2.2)] [(0,rE 1 (eSl true 1 eStr) s206.2),(1,rE 1 eStr v.1)]) (some v) kn):
  ∀s358:((List ByteArray)×Bool×Int),J (q.g Tryz.prog 91 0 94) c91 (atI c91 63277860) (St.mk' [(0,sl 8 (Pack.enc false) a1),(1,sl 1 zF a2),(2,sl 1 zF a3),(7,sl 1 eStr s206.1),(8,rr 0 s206.2),(9,rr 1 s358.1),(10,bv s358.2.1),(11,iv s337.2.2),(12,iv s358.2.2)] [(0,rE 1 (eSl true 1 eStr) s206.2),(1,rE 1 eStr s358.1)]) (zDc a1 a2 a3 s206 s337 s358) kn:=by
 refine uM (fun g ih s358=>?_)
 unfold zBP
 refine zU (atI c91 253111441) (fun v364:Bool=>St.mk' [(0,sl 8 (Pack.enc false) a1),(1,sl 1 zF a2),(2,sl 1 zF a3),(7,sl 1 eStr s206.1),(8,rr 0 s206.2),(9,rr 1 s358.1),(10,bv s358.2.1),(11,iv s337.2.2),(12,iv s358.2.2),(46,bv v364)] [(0,rE 1 (eSl true 1 eStr) s206.2),(1,rE 1 eStr s358.1)]) (fun v364=>?_) (fun jv364=>?_)
 ·refine zG 46 (fun h365=>?_) (fun h365=>?_)
  ·refine zA (fun x366 h367=>?_)
   refine zA (fun x368 h369=>?_)
   refine zA (fun x370 h371=>?_)
   refine J_d 1012445768 [] [46,60] [(60,bv x370)] [] [] (zD 5 (zAb (kk:=.i64) 69 9 1 1 eStr (.tmp 52) (.tmp 53) h367) (zD 6 (zAa (d:=sv x366) 9 1 1 0 eStr (.tmp 54) h367 (by kernel_rfl)) (zD 9 (wM (kk:=.i64) 69 9 1 eStr (.tmp 56) (.tmp 57) h369) (zD 11 (yG [(.tmp 49),(.tmp 50),(.tmp 51),(.tmp 55),(.tmp 59)] [24,34,34,9,9] (xP.ok a1 a2 a3 x366 x368) h371) zB)))) ?_
   refine zU (aft c91 506222884) (fun v377:((List ByteArray)×Bool)=>St.mk' [(0,sl 8 (Pack.enc false) a1),(1,sl 1 zF a2),(2,sl 1 zF a3),(7,sl 1 eStr s206.1),(8,rr 0 s206.2),(9,rr 2 v377.1),(10,bv v377.2),(11,iv s337.2.2),(12,iv s358.2.2)] [(0,rE 1 (eSl true 1 eStr) s206.2),(2,rE 1 eStr v377.1)]) (fun v377=>?_) (fun jv377=>?_)
   ·refine J_d 253111443 [] [12] [(12,iv (w64 (s358.2.2+1)))] [] [] zB ?_
    refine xV 2 1 (qB rfl) (qB rfl) ?_
    exact J_q (J_b (ih (v377.1,v377.2,w64 (s358.2.2+1)))) rfl
   ·refine zG 60 (fun h372=>?_) (fun h372=>?_)
    ·refine zA (fun x373 h374=>?_)
     refine zA (fun x375 h376=>?_)
     refine J_g 4049783076 [] [(0,sl 8 (Pack.enc false) a1),(1,sl 1 zF a2),(2,sl 1 zF a3),(7,sl 1 eStr s206.1),(8,rr 0 s206.2),(9,rr 2 x375),(11,iv s337.2.2),(12,iv s358.2.2)] [(0,rE 1 (eSl true 1 eStr) s206.2),(2,rE 1 eStr x375)] (zD 3 (wM (kk:=.i64) 69 9 1 eStr (.tmp 62) (.tmp 63) h374) (zD 5 (xH («as»:=[rr 1 s358.1,sv x373]) [(.tmp 61),(.tmp 65)] [69,9] false [(1,rE 1 eStr s358.1)] [1] (.cons (.rf rfl) (.cons (.same rfl) (.nil))) (vC.ok s358.1 x373) h376 (.own 2)) zB)) ?_
     refine J_d 4049783077 [] [10] [(10,bv true)] [] [] zB ?_
     exact zN (J_j (jv377 (x375,true))) rfl
    ·refine xV 1 2 (qB rfl) (qB rfl) ?_
     exact zN (J_j (jv377 (s358.1,s358.2.1))) rfl
  ·exact zN (hk (s358.1,s358.2.1)) rfl
 ·refine xB (fun h359=>?_) (fun h359=>?_)
  ·refine zA (fun x360 h361=>?_)
   refine zA (fun x362 h363=>?_)
   refine J_d 253111440 [] [46] [(46,bv (!x362))] [] [] (yO 4 [(37,bv (decide (s358.2.2< (s358.1.length:Int))))] [] h359 (uD 8 4 38 true (wM (kk:=.i64) 69 9 1 eStr (.tmp 40) (.tmp 41) h361) (uD 10 4 38 true (xH («as»:=[rr 1 s358.1,sv x360]) [(.tmp 39),(.tmp 43)] [69,9] true [(1,rE 1 eStr s358.1)] [] (.cons (zFJ (.head _) (fun _=>rfl) rfl) (.cons (.same rfl) (.nil))) (xG.ok s358.1 x360) h363 (.same rfl rfl) (hbor:=fun _=>⟨fhN,wV⟩)) zB))) ?_
   exact zN (J_j (jv364 (!x362))) rfl
  ·refine J_d 253111440 [] [46] [(46,bv false)] [] [] (yO 4 [(37,bv (decide (s358.2.2< (s358.1.length:Int))))] [] h359 zB) ?_
   exact zN (J_j (jv364 false)) rfl
theorem zCN.ok (a1:(List Pack)) (a2:(List Int)) (a3:(List Int)) (s206:((List ByteArray)×(List (List ByteArray)))) (q:Wd) (kn:((List ByteArray)×Bool)→Option (D×List Ent)) (hk:∀v:((List ByteArray)×Bool),J (q.g Tryz.prog 91 0 94) c91 (aft c91 61794) (St.mk' [(0,sl 8 (Pack.enc false) a1),(1,sl 1 zF a2),(2,sl 1 zF a3),(7,sl 1 eStr s206.1),(8,rr 0 s206.2),(9,rr 1 v.1),(10,bv v.2)] [(0,rE 1 (eSl true 1 eStr) s206.2),(1,rE 1 eStr v.1)]) (some v) kn):
  ∀s337:((List ByteArray)×Bool×Int),J (q.g Tryz.prog 91 0 94) c91 (atI c91 988716) (St.mk' [(0,sl 8 (Pack.enc false) a1),(1,sl 1 zF a2),(2,sl 1 zF a3),(7,sl 1 eStr s206.1),(8,rr 0 s206.2),(9,rr 1 s337.1),(10,bv s337.2.1),(11,iv s337.2.2)] [(0,rE 1 (eSl true 1 eStr) s206.2),(1,rE 1 eStr s337.1)]) (zCN a1 a2 a3 s206 s337) kn:=by
 refine uM (fun g ih s337=>?_)
 unfold zAf
 refine J_d 3954864 [] [31] [(31,bv (decide (s337.2.2< (s206.1.length:Int))))] [] [] zB ?_
 refine zG 31 (fun h338=>?_) (fun h338=>?_)
 ·refine J_d 15819464 [] [12,31] [(12,iv 0)] [] [] zB ?_
  refine zEx (zDc.ok a1 a2 a3 s206 s337 q _ (fun v378=>J_j ?_) (s337.1,s337.2.1,0))
  refine J_d 3954867 [] [11] [(11,iv (w64 (s337.2.2+1)))] [] [] zB ?_
  exact J_q (J_b (ih (v378.1,v378.2,w64 (s337.2.2+1)))) rfl
 ·exact zN (hk (s337.1,s337.2.1)) rfl
theorem zAZ.ok (a1:(List Pack)) (a2:(List Int)) (a3:(List Int)) (s206:((List ByteArray)×(List (List ByteArray)))) (v380:(List ByteArray)) (q:Wd) (kn:(List ByteArray)→Option (D×List Ent)) (hk:∀v:(List ByteArray),J (q.g Tryz.prog 91 0 94) c91 (atI c91 15455) (St.mk' [(0,sl 8 (Pack.enc false) a1),(1,sl 1 zF a2),(2,sl 1 zF a3),(8,rr 0 s206.2),(9,rr 1 v380),(13,rr 2 v)] [(0,rE 1 (eSl true 1 eStr) s206.2),(1,rE 1 eStr v380),(2,rE 1 eStr v)]) (some v) kn):
  ∀s392:((List ByteArray)×Int),J (q.g Tryz.prog 91 0 94) c91 (atI c91 123636) (St.mk' [(0,sl 8 (Pack.enc false) a1),(1,sl 1 zF a2),(2,sl 1 zF a3),(7,sl 1 eStr s206.1),(8,rr 0 s206.2),(9,rr 1 v380),(13,rr 2 s392.1),(14,iv s392.2)] [(0,rE 1 (eSl true 1 eStr) s206.2),(1,rE 1 eStr v380),(2,rE 1 eStr s392.1)]) (zAZ a1 a2 a3 s206 v380 s392) kn:=by
 refine uM (fun g ih s392=>?_)
 unfold zCf
 refine J_d 494544 [] [71] [(71,bv (decide (s392.2< (s206.1.length:Int))))] [] [] zB ?_
 refine zG 71 (fun h393=>?_) (fun h393=>?_)
 ·refine zA (fun x394 h395=>?_)
  refine zA (fun x396 h397=>?_)
  refine J_d 1978184 [] [71,80] [(80,bv (!x396))] [] [] (zD 3 (wM (kk:=.i64) 69 9 1 eStr (.tmp 75) (.tmp 76) h395) (zD 5 (xH («as»:=[rr 1 v380,sv x394]) [(.tmp 74),(.tmp 78)] [69,9] true [(1,rE 1 eStr v380)] [] (.cons (zFJ (.head _) (fun _=>rfl) rfl) (.cons (.same rfl) (.nil))) (xG.ok v380 x394) h397 (.same rfl rfl) (hbor:=fun _=>⟨fhN,wV⟩)) zB)) ?_
  refine zU (aft c91 989092) (fun v403:(List ByteArray)=>St.mk' [(0,sl 8 (Pack.enc false) a1),(1,sl 1 zF a2),(2,sl 1 zF a3),(7,sl 1 eStr s206.1),(8,rr 0 s206.2),(9,rr 1 v380),(13,rr 4 v403),(14,iv s392.2)] [(0,rE 1 (eSl true 1 eStr) s206.2),(1,rE 1 eStr v380),(4,rE 1 eStr v403)]) (fun v403=>?_) (fun jv403=>?_)
  ·refine J_d 494547 [] [14] [(14,iv (w64 (s392.2+1)))] [] [] zB ?_
   refine xV 4 2 (qB rfl) (qB rfl) ?_
   exact J_q (J_b (ih (v403,w64 (s392.2+1)))) rfl
  ·refine zG 80 (fun h398=>?_) (fun h398=>?_)
   ·refine zA (fun x399 h400=>?_)
    refine zA (fun x401 h402=>?_)
    refine J_d 3956370 [] [13,80] [(13,rr 4 x401)] [2,4] [(4,rE 1 eStr x401)] (zD 3 (wM (kk:=.i64) 69 9 1 eStr (.tmp 82) (.tmp 83) h400) (zD 5 (vM 69 9 1 3 eStr [x399] [0] [(.tmp 85)] [sv x399]) (zD 6 (zEQ 69 69 9 9 1 16 4 2 3 eStr (.tmp 81) (.tmp 86) h402) zB))) ?_
    exact zN (J_j (jv403 x401)) rfl
   ·refine xV 2 4 (qB rfl) (qB rfl) ?_
    exact zN (J_j (jv403 s392.1)) rfl
 ·exact zN (hk s392.1) rfl
theorem zBq.ok (a1:(List Pack)) (a2:(List Int)) (a3:(List Int)) (s206:((List ByteArray)×(List (List ByteArray)))) (q:Wd) (kn:(List ByteArray)→Option (D×List Ent)) (hk:∀v:(List ByteArray),J (q.g Tryz.prog 91 0 94) c91 (atI c91 3863) (St.mk' [(0,sl 8 (Pack.enc false) a1),(1,sl 1 zF a2),(2,sl 1 zF a3),(7,sl 1 eStr s206.1),(8,rr 0 s206.2),(9,rr 1 v)] [(0,rE 1 (eSl true 1 eStr) s206.2),(1,rE 1 eStr v)]) (some v) kn):
  ∀s294:((List ByteArray)×Bool),J (q.g Tryz.prog 91 0 94) c91 (atI c91 15448) (St.mk' [(0,sl 8 (Pack.enc false) a1),(1,sl 1 zF a2),(2,sl 1 zF a3),(7,sl 1 eStr s206.1),(8,rr 0 s206.2),(9,rr 1 s294.1),(10,bv s294.2)] [(0,rE 1 (eSl true 1 eStr) s206.2),(1,rE 1 eStr s294.1)]) (zBq a1 a2 a3 s206 s294) kn:=by
 refine uM (fun g ih s294=>?_)
 unfold zDO
 refine J_d 61792 [] [10,27] [(27,bv s294.2)] [] [] zB ?_
 refine zG 27 (fun h295=>?_) (fun h295=>?_)
 ·refine J_g 123588 [] [(0,sl 8 (Pack.enc false) a1),(1,sl 1 zF a2),(2,sl 1 zF a3),(7,sl 1 eStr s206.1),(8,rr 0 s206.2),(9,rr 1 s294.1),(10,bv false)] [(0,rE 1 (eSl true 1 eStr) s206.2),(1,rE 1 eStr s294.1)] zB ?_
  refine J_d 247178 [] [11] [(11,iv 0)] [] [] zB ?_
  refine zEx (zCN.ok a1 a2 a3 s206 q _ (fun v379=>J_j ?_) (s294.1,false,0))
  exact J_q (J_b (ih (v379.1,v379.2))) rfl
 ·exact zN (hk s294.1) rfl
theorem tK.ok (a1:(List Pack)) (a2:(List Int)) (a3:(List Int)) (q:Wd) (kn:(List (List ByteArray))→Option (D×List Ent)) (hk:∀v:(List (List ByteArray)),J (q.g Tryz.prog 91 0 94) c91 (atI c91 31) (St.mk' [(8,rr 0 v)] [(0,rE 1 (eSl true 1 eStr) v)]) (some v) kn):
  ∀s206:((List ByteArray)×(List (List ByteArray))),J (q.g Tryz.prog 91 0 94) c91 (atI c91 120) (St.mk' [(0,sl 8 (Pack.enc false) a1),(1,sl 1 zF a2),(2,sl 1 zF a3),(7,sl 1 eStr s206.1),(8,rr 0 s206.2)] [(0,rE 1 (eSl true 1 eStr) s206.2)]) (tK a1 a2 a3 s206) kn:=by
 refine uM (fun g ih s206=>?_)
 unfold zBZ
 refine J_d 480 [] [22] [(22,bv (decide ((s206.1.length:Int)>0)))] [] [] zB ?_
 refine zG 22 (fun h207=>?_) (fun h207=>?_)
 ·refine zA (fun x208 h209=>?_)
  refine J_g 964 [] [(0,sl 8 (Pack.enc false) a1),(1,sl 1 zF a2),(2,sl 1 zF a3),(7,sl 1 eStr s206.1),(8,rr 0 s206.2),(9,rr 1 [x208])] [(0,rE 1 (eSl true 1 eStr) s206.2),(1,rE 1 eStr [x208])] (zD 1 (wM (kk:=.i64) 69 9 1 eStr (.tmp 23) (.const (.int .i64 0)) h209) (zD 3 (vM 69 9 1 1 eStr [x208] [0] [(.tmp 25)] [sv x208]) zB)) ?_
  refine J_d 1930 [] [10] [(10,bv true)] [] [] zB ?_
  refine zEx (zBq.ok a1 a2 a3 s206 q _ (fun v380=>J_j ?_) ([x208],true))
  refine J_g 7726 [] [(0,sl 8 (Pack.enc false) a1),(1,sl 1 zF a2),(2,sl 1 zF a3),(7,sl 1 eStr s206.1),(8,rr 0 s206.2),(9,rr 1 v380),(13,rr 2 ([]:List ByteArray))] [(0,rE 1 (eSl true 1 eStr) s206.2),(1,rE 1 eStr v380),(2,rE 1 eStr ([]:List ByteArray))] (zD 0 (vM 69 9 1 2 eStr ([]:List ByteArray) [] [] []) zB) ?_
  refine J_d 30908 [] [14] [(14,iv 0)] [] [] zB ?_
  refine zEx (zAZ.ok a1 a2 a3 s206 v380 q _ (fun v404=>J_j ?_) (([]:List ByteArray),0))
  refine J_d 30910 [] [7,13] [(7,rr 2 v404)] [] [] zB ?_
  refine zA (fun x405 h406=>?_)
  refine J_d 30911 [] [8,9] [(8,rr 4 x405)] [0,1,4] [(4,rE 1 (eSl true 1 eStr) x405)] (zD 2 (zPl (ds:=[rr 1 v380]) (ts:=[1]) 78 69 1 3 (eSl true 1 eStr) [v380] [0] [(.tmp 90)] [rr 1 v380] [(1,rE 1 eStr v380)] (.move (.head _) (qC _) (by decide) (.nil))) (zD 3 (zEQ 78 78 69 69 1 24 4 0 3 (eSl true 1 eStr) (.tmp 89) (.tmp 91) h406) zB)) ?_
  refine vB [(0,sl 8 (Pack.enc false) a1),(1,sl 1 zF a2),(2,sl 1 zF a3),(7,rr 2 v404),(8,rr 4 x405)] [(2,rE 1 eStr v404),(4,rE 1 (eSl true 1 eStr) x405)] (by kernel_rfl) ?_
  refine zEc 2 (z:=1) (xs:=v404.map eStr) (tm2:=[(0,sl 8 (Pack.enc false) a1),(1,sl 1 zF a2),(2,sl 1 zF a3),(7,sl 1 eStr v404),(8,rr 4 x405)]) (hp2:=[(4,rE 1 (eSl true 1 eStr) x405)]) (.cons (.keep rfl) (.cons (.keep rfl) (.cons (.keep rfl) (.cons (.rf (by simp) (jG (enc:=eStr) (enc':=eStr) (fun _=>rfl) v404 rfl rfl)) (.cons (.keep rfl) (.nil)))))) (.keep rfl (.nil)) rfl ?_
  refine xV 4 0 (qB rfl) (qB rfl) ?_
  exact J_q (J_b (ih (v404,x405))) rfl
 ·exact zN (hk s206.2) rfl
theorem zB2.ok (a1:(List Pack)) (a2:(List Int)) (a3:(List Int)):Ok Tryz.prog 91 [sl 8 (Pack.enc false) a1,sl 1 zF a2,sl 1 zF a3] [] ((zB2 a1 a2 a3).map fun r=>(so 1 (eSl true 1 eStr) r,[])):=by
 refine zJ c91 Tryz.f91 0 94 (fun q=>?_)
 unfold zB2
 refine J_d 2 [] [] [] [] [] zB ?_
 refine zA (fun x4 h5=>?_)
 refine J_g 6 [] [(0,sl 8 (Pack.enc false) a1),(1,sl 1 zF a2),(2,sl 1 zF a3),(7,sl 1 eStr x4)] [] (zD 3 (yG [(.tmp 15),(.tmp 16),(.tmp 17)] [24,34,34] (zAG.ok a1 a2 a3) h5) zB) ?_
 refine J_d 14 [] [8] [(8,rr 0 ([]:List (List ByteArray)))] [0] [(0,rE 1 (eSl false 1 eStr) ([]:List (List ByteArray)))] (zD 0 (vM 78 69 1 0 (eSl false 1 eStr) ([]:List (List ByteArray)) [] [] []) zB) ?_
 refine zEx (tK.ok a1 a2 a3 q _ (fun v407=>J_j ?_) (x4,([]:List (List ByteArray))))
 refine J_g 62 [] [(6,rr 0 v407)] [(0,rE 1 (eSl true 1 eStr) v407)] zB ?_
 exact zEO (ds:=[rr 0 v407]) (ds':=[so 1 (eSl true 1 eStr) v407]) (.cons (.cell (.move (.head _) (qC _) (by decide) (.nil))) (.nil) (by decide)) rfl
def c146:Code:=cdB Tryz.f146
theorem zDA.ok (a1:(List ByteArray)) (a2:Int) (q:Wd) (kn:(List ByteArray)→Option (D×List Ent)) (hk:∀v:(List ByteArray),J (q.g Tryz.prog 146 0 32) c146 (atI c146 15) (St.mk' [(5,rr 0 v)] [(0,rE 1 eStr v)]) (some v) kn):
  ∀s12:((List ByteArray)×Int),J (q.g Tryz.prog 146 0 32) c146 (atI c146 116) (St.mk' [(0,sl 1 eStr a1),(1,iv a2),(5,rr 0 s12.1),(6,iv s12.2)] [(0,rE 1 eStr s12.1)]) (zDA a1 a2 s12) kn:=by
 refine uM (fun g ih s12=>?_)
 unfold zDd
 refine J_d 464 [] [11] [(11,bv (decide (s12.2< (a1.length:Int))))] [] [] zB ?_
 refine zG 11 (fun h13=>?_) (fun h13=>?_)
 ·refine zA (fun x14 h15=>?_)
  refine J_d 1864 [] [11,23] [(23,bv ((zSh .i64 x14 1)==1))] [] [] (zD 7 (zS2 (k2:=.u64) 3 179 (.tmp 14) (.tmp 20) h15) (zD 8 (zS3 (k:=.i64) (a:=x14) (b:=1) 3 3 (.tmp 21) (.const (.int .i64 1))) zB)) ?_
  refine zU (aft c146 932) (fun v21:(List ByteArray)=>St.mk' [(0,sl 1 eStr a1),(1,iv a2),(5,rr 2 v21),(6,iv s12.2)] [(2,rE 1 eStr v21)]) (fun v21=>?_) (fun jv21=>?_)
  ·refine J_d 467 [] [6] [(6,iv (w64 (s12.2+1)))] [] [] zB ?_
   refine xV 2 0 (qB rfl) (qB rfl) ?_
   exact J_q (J_b (ih (v21,w64 (s12.2+1)))) rfl
  ·refine zG 23 (fun h16=>?_) (fun h16=>?_)
   ·refine zA (fun x17 h18=>?_)
    refine zA (fun x19 h20=>?_)
    refine J_d 3730 [] [5,23] [(5,rr 2 x19)] [0,2] [(2,rE 1 eStr x19)] (zD 3 (wM (kk:=.i64) 69 9 1 eStr (.tmp 25) (.tmp 26) h18) (zD 5 (vM 69 9 1 1 eStr [x17] [0] [(.tmp 28)] [sv x17]) (zD 6 (zEQ 69 69 9 9 1 16 2 0 1 eStr (.tmp 24) (.tmp 29) h20) zB))) ?_
    exact zN (J_j (jv21 x19)) rfl
   ·refine xV 0 2 (qB rfl) (qB rfl) ?_
    exact zN (J_j (jv21 s12.1)) rfl
 ·exact zN (hk s12.1) rfl
theorem zDR.ok (a1:(List ByteArray)) (a2:Int):Ok Tryz.prog 146 [sl 1 eStr a1,iv a2] [] ((zDR a1 a2).map fun r=>(sl 1 eStr r,[])):=by
 refine zJ c146 Tryz.f146 0 32 (fun q=>?_)
 unfold zDR
 refine J_g 2 [] [(0,sl 1 eStr a1),(1,iv a2)] [] zB ?_
 refine J_g 6 [] [(0,sl 1 eStr a1),(1,iv a2),(5,rr 0 ([]:List ByteArray))] [(0,rE 1 eStr ([]:List ByteArray))] (zD 0 (vM 69 9 1 0 eStr ([]:List ByteArray) [] [] []) zB) ?_
 refine J_d 28 [] [6] [(6,iv 0)] [] [] zB ?_
 refine zEx (zDA.ok a1 a2 q _ (fun v22=>J_j ?_) (([]:List ByteArray),0))
 refine J_g 30 [] [(4,rr 0 v22)] [(0,rE 1 eStr v22)] zB ?_
 refine vB [(4,rr 0 v22)] [(0,rE 1 eStr v22)] (by kernel_rfl) ?_
 refine zEc 0 (z:=1) (xs:=v22.map eStr) (tm2:=[(4,sl 1 eStr v22)]) (hp2:=[]) (.cons (.rf (by simp) (jG (enc:=eStr) (enc':=eStr) (fun _=>rfl) v22 rfl rfl)) (.nil)) (.nil) rfl ?_
 exact yA rfl
def c94:Code:=cdB Tryz.f94
theorem zD8.ok (a1:(List Pack)) (a2:(List Int)) (a3:(List Int)) (a4:(List ByteArray)) (q:Wd) (kn:(List Int)→Option (D×List Ent)) (hk:∀v:(List Int),J (q.g Tryz.prog 94 0 46) c94 (atI c94 15) (St.mk' [(9,rr 0 v)] [(0,rE 1 zF v)]) (some v) kn):
  ∀s25:((List Int)×Int),J (q.g Tryz.prog 94 0 46) c94 (atI c94 116) (St.mk' [(0,sl 8 (Pack.enc false) a1),(1,sl 1 zF a2),(2,sl 1 zF a3),(3,sl 1 eStr a4),(9,rr 0 s25.1),(10,iv s25.2)] [(0,rE 1 zF s25.1)]) (zD8 a1 a2 a3 a4 s25) kn:=by
 refine uM (fun g ih s25=>?_)
 unfold zCM
 refine J_d 464 [] [16] [(16,bv (decide (s25.2< (a1.length:Int))))] [] [] zB ?_
 refine zG 16 (fun h26=>?_) (fun h26=>?_)
 ·refine zA (fun x27 h28=>?_)
  refine zA (fun x29 h30=>?_)
  refine J_d 1864 [] [11,16] [(11,bv x29)] [] [] (zD 3 (wM (kk:=.i64) 24 89 8 (Pack.enc false) (.tmp 20) (.tmp 21) h28) (zD 6 (yG [(.tmp 19),(.tmp 24)] [69,9] (xG.ok a4 x27.Name) h30) zB)) ?_
  refine zU (atI c94 3731) (fun v41:Bool=>St.mk' [(0,sl 8 (Pack.enc false) a1),(1,sl 1 zF a2),(2,sl 1 zF a3),(3,sl 1 eStr a4),(9,rr 0 s25.1),(10,iv s25.2),(40,bv v41)] [(0,rE 1 zF s25.1)]) (fun v41=>?_) (fun jv41=>?_)
  ·refine zU (aft c94 932) (fun v45:(List Int)=>St.mk' [(0,sl 8 (Pack.enc false) a1),(1,sl 1 zF a2),(2,sl 1 zF a3),(3,sl 1 eStr a4),(9,rr 2 v45),(10,iv s25.2)] [(2,rE 1 zF v45)]) (fun v45=>?_) (fun jv45=>?_)
   ·refine J_d 467 [] [10] [(10,iv (w64 (s25.2+1)))] [] [] zB ?_
    refine xV 2 0 (qB rfl) (qB rfl) ?_
    exact J_q (J_b (ih (v45,w64 (s25.2+1)))) rfl
   ·refine zG 40 (fun h42=>?_) (fun h42=>?_)
    ·refine zA (fun x43 h44=>?_)
     refine J_d 7462 [] [9,40] [(9,rr 2 x43)] [0,2] [(2,rE 1 zF x43)] (zD 2 (vM 34 2 1 1 zF [s25.2] [0] [(.tmp 42)] [iv s25.2]) (zD 3 (zEQ 34 34 2 2 1 8 2 0 1 zF (.tmp 41) (.tmp 43) h44) zB)) ?_
     exact zN (J_j (jv45 x43)) rfl
    ·refine xV 0 2 (qB rfl) (qB rfl) ?_
     exact zN (J_j (jv45 s25.1)) rfl
  ·refine xB (fun h31=>?_) (fun h31=>?_)
   ·refine zA (fun x32 h33=>?_)
    refine xB (fun h34=>?_) (fun h34=>?_)
    ·refine J_d 3730 [] [11,40] [(40,bv true)] [] [] (yO 2 [(27,bv (!x29))] [] h31 (uD 5 2 28 true (yG [(.tmp 29),(.tmp 30)] [34,2] (yX.ok a2 s25.2) h33) (yO 7 [(32,bv x32)] [] h34 (zIv 9 (zIo (i:=9) (g:=7) (t:=33) (b:=false) (v:=(.bool true)) (.inl rfl) (by kernel_rfl) (by kernel_rfl)) (zIv 10 (zIo (i:=10) (g:=9) (t:=35) (b:=true) (v:=undef) (.inr rfl) (by kernel_rfl) (by kernel_rfl)) (zIv 11 (zIo (i:=11) (g:=9) (t:=35) (b:=true) (v:=undef) (.inr rfl) (by kernel_rfl) (by kernel_rfl)) (zIv 12 (zIo (i:=12) (g:=9) (t:=35) (b:=true) (v:=undef) (.inr rfl) (by kernel_rfl) (by kernel_rfl)) zB))))))) ?_
     exact zN (J_j (jv41 true)) rfl
    ·refine xB (fun h35=>?_) (fun h35=>?_)
     ·refine zA (fun x36 h37=>?_)
      refine J_d 3730 [] [11,40] [(40,bv x36)] [] [] (yO 2 [(27,bv (!x29))] [] h31 (uD 5 2 28 true (yG [(.tmp 29),(.tmp 30)] [34,2] (yX.ok a2 s25.2) h33) (yO 7 [(32,bv x32)] [] h34 (zH6 9 7 33 false [(34,bv x29)] [] h35 (uD 12 9 35 true (yG [(.tmp 36),(.tmp 37)] [34,2] (yX.ok a3 s25.2) h37) zB))))) ?_
      exact zN (J_j (jv41 x36)) rfl
     ·refine J_d 3730 [] [11,40] [(40,bv false)] [] [] (yO 2 [(27,bv (!x29))] [] h31 (uD 5 2 28 true (yG [(.tmp 29),(.tmp 30)] [34,2] (yX.ok a2 s25.2) h33) (yO 7 [(32,bv x32)] [] h34 (zH6 9 7 33 false [(34,bv x29)] [] h35 zB)))) ?_
      exact zN (J_j (jv41 false)) rfl
   ·refine xB (fun h38=>?_) (fun h38=>?_)
    ·refine zA (fun x39 h40=>?_)
     refine J_d 3730 [] [11,40] [(40,bv x39)] [] [] (yO 2 [(27,bv (!x29))] [] h31 (zH6 9 7 33 false [(34,bv x29)] [] h38 (uD 12 9 35 true (yG [(.tmp 36),(.tmp 37)] [34,2] (yX.ok a3 s25.2) h40) zB))) ?_
     exact zN (J_j (jv41 x39)) rfl
    ·refine J_d 3730 [] [11,40] [(40,bv false)] [] [] (yO 2 [(27,bv (!x29))] [] h31 (zH6 9 7 33 false [(34,bv x29)] [] h38 zB)) ?_
     exact zN (J_j (jv41 false)) rfl
 ·exact zN (hk s25.1) rfl
theorem zAR.ok (a1:(List Pack)) (a2:(List Int)) (a3:(List Int)) (a4:(List ByteArray)):Ok Tryz.prog 94 [sl 8 (Pack.enc false) a1,sl 1 zF a2,sl 1 zF a3,sl 1 eStr a4] [] ((zAR a1 a2 a3 a4).map fun r=>(so 1 zF r,[])):=by
 refine zJ c94 Tryz.f94 0 46 (fun q=>?_)
 unfold zAR
 refine J_g 2 [] [(0,sl 8 (Pack.enc false) a1),(1,sl 1 zF a2),(2,sl 1 zF a3),(3,sl 1 eStr a4)] [] zB ?_
 refine J_g 6 [] [(0,sl 8 (Pack.enc false) a1),(1,sl 1 zF a2),(2,sl 1 zF a3),(3,sl 1 eStr a4),(9,rr 0 ([]:List Int))] [(0,rE 1 zF ([]:List Int))] (zD 0 (vM 34 2 1 0 zF ([]:List Int) [] [] []) zB) ?_
 refine J_d 28 [] [10] [(10,iv 0)] [] [] zB ?_
 refine zEx (zD8.ok a1 a2 a3 a4 q _ (fun v46=>J_j ?_) (([]:List Int),0))
 refine J_g 30 [] [(8,rr 0 v46)] [(0,rE 1 zF v46)] zB ?_
 exact zEO (ds:=[rr 0 v46]) (ds':=[so 1 zF v46]) (.cons (.cell (.move (.head _) (qC _) (by decide) (.nil))) (.nil) (by decide)) rfl
def c92:Code:=cdB Tryz.f92
def c41:Code:=cdB Tryz.f41
theorem zJo.ok (a1:(List Pack)) (a2:(List Int)) (a3:(List Int)) (a4:(List ByteArray)) (s31:Int) (q:Wd) (kn:Unit→Option (D×List Ent)) (hk:∀v:Unit,J (q.g Tryz.prog 92 1 49) c92 (aft c92 932) (St.mk' [(0,sl 8 (Pack.enc false) a1),(1,sl 1 zF a2),(2,rr 0 a3),(3,sl 1 eStr a4),(9,iv s31)] [(0,rE 1 zF a3)]) (some v) kn):
  ∀s45:Int,J (q.g Tryz.prog 92 1 49) c92 (atI c92 7460) (St.mk' [(0,sl 8 (Pack.enc false) a1),(1,sl 1 zF a2),(2,rr 0 a3),(3,sl 1 eStr a4),(9,iv s31),(10,iv s45)] [(0,rE 1 zF a3)]) (zEI a1 a2 a3 a4 s31 s45) (Fl.go (fun r:(List ByteArray)=>some (sl 1 eStr r,[rE 1 zF a3])) kn):=by
 refine uM (fun g ih s45=>?_)
 unfold zDk
 refine J_d 29840 [] [28] [(28,bv (decide (s45>0)))] [] [] zB ?_
 refine zG 28 (fun h46=>?_) (fun h46=>?_)
 ·refine zA (fun x47 h48=>?_)
  refine J_d 119368 [] [11,28] [(11,sl 1 eStr x47)] [] [] (zD 2 (yG [(.tmp 31),(.tmp 32)] [69,3] (zDR.ok a4 s45) h48) zB) ?_
  refine zU (atI c92 238739) (fun v54:Bool=>St.mk' [(0,sl 8 (Pack.enc false) a1),(1,sl 1 zF a2),(2,rr 0 a3),(3,sl 1 eStr a4),(9,iv s31),(10,iv s45),(11,sl 1 eStr x47),(46,bv v54)] [(0,rE 1 zF a3)]) (fun v54=>?_) (fun jv54=>?_)
  ·refine zG 46 (fun h55=>?_) (fun h55=>?_)
   ·refine J_g 954956 [] [(8,sl 1 eStr x47)] [(0,rE 1 zF a3)] zB ?_
    exact yA rfl
   ·refine J_d 29843 [] [10,11,46] [(10,iv (w64 (s45-1)))] [] [] zB ?_
    exact J_q (J_b (ih (w64 (s45-1)))) rfl
  ·refine xB (fun h49=>?_) (fun h49=>?_)
   ·refine zA (fun x50 h51=>?_)
    refine zA (fun x52 h53=>?_)
    refine J_d 238738 [] [46] [(46,bv x52)] [] [] (yO 4 [(37,bv ((x47.length:Int)==s31))] [] h49 (uD 10 4 38 true (xH («as»:=[sl 8 (Pack.enc false) a1,sl 1 zF a2,rr 0 a3,sl 1 eStr x47]) [(.tmp 40),(.tmp 41),(.tmp 42),(.tmp 43)] [24,34,34,69] true [(0,rE 1 zF a3)] [] (.cons (.same rfl) (.cons (.same rfl) (.cons (zFJ (.head _) (fun _=>rfl) rfl) (.cons (.same rfl) (.nil))))) (zAR.ok a1 a2 a3 x47) h51 (.own 1) (hbor:=fun _=>⟨fhN,(zFY (zHH (fun _=>(flatK wV zIs)) _))⟩)) (uD 11 4 38 true (xH («as»:=[sl 8 (Pack.enc false) a1,rr 1 x50]) [(.tmp 39),(.tmp 44)] [24,34] true [(1,rE 1 zF x50)] [] (.cons (.same rfl) (.cons (zFJ (.head _) (fun _=>rfl) rfl) (.nil))) (kQ.ok a1 x50) h53 (.same rfl rfl) (hbor:=fun _=>⟨fhN,wV⟩)) zB))) ?_
    exact zN (J_j (jv54 x52)) rfl
   ·refine J_d 238738 [] [46] [(46,bv false)] [] [] (yO 4 [(37,bv ((x47.length:Int)==s31))] [] h49 zB) ?_
    exact zN (J_j (jv54 false)) rfl
 ·exact zN (hk ()) rfl
theorem zJ2.ok (a1:(List Pack)) (a2:(List Int)) (a3:(List Int)) (a4:(List ByteArray)) (q:Wd) (kn:Unit→Option (D×List Ent)) (hk:∀v:Unit,J (q.g Tryz.prog 92 1 49) c92 (atI c92 15) (St.mk' [(3,sl 1 eStr a4)] [(0,rE 1 zF a3)]) (some v) kn):
  ∀s31:Int,J (q.g Tryz.prog 92 1 49) c92 (atI c92 116) (St.mk' [(0,sl 8 (Pack.enc false) a1),(1,sl 1 zF a2),(2,rr 0 a3),(3,sl 1 eStr a4),(9,iv s31)] [(0,rE 1 zF a3)]) (zF2 a1 a2 a3 a4 s31) (Fl.go (fun r:(List ByteArray)=>some (sl 1 eStr r,[rE 1 zF a3])) kn):=by
 refine uM (fun g ih s31=>?_)
 unfold zCT
 refine J_d 464 [] [19] [(19,bv (decide (s31< (a4.length:Int))))] [] [] zB ?_
 refine zG 19 (fun h32=>?_) (fun h32=>?_)
 ·refine zA (fun x33 h34=>?_)
  refine J_d 1864 [] [10,19] [(10,iv (w64 (x33-1)))] [] [] (zD 3 (zS1 (k2:=.u64) 3 179 (.const (.int .i64 1)) (.tmp 24) h34) zB) ?_
  refine uL (K0:=(fun r:(List ByteArray)=>some (sl 1 eStr r,[rE 1 zF a3]))) (fun _=>rfl) (zJo.ok a1 a2 a3 a4 s31 q _ (fun v56=>J_j ?_) (w64 (x33-1)))
  refine J_d 467 [] [9] [(9,iv (w64 (s31+1)))] [] [] zB ?_
  exact J_q (J_b (ih (w64 (s31+1)))) rfl
 ·exact zN (hk ()) rfl
theorem zLg.ok (a1:(List Pack)) (a2:(List Int)) (a3:(List Int)) (a4:(List ByteArray)):Ok Tryz.prog 92 [sl 8 (Pack.enc false) a1,sl 1 zF a2,rr 0 a3,sl 1 eStr a4] [rE 1 zF a3] ((zFq a1 a2 a3 a4).map fun r=>(sl 1 eStr r,[rE 1 zF a3])):=by
 refine zJ c92 Tryz.f92 1 49 (fun q=>?_)
 unfold zFq
 refine J_g 2 [] [(0,sl 8 (Pack.enc false) a1),(1,sl 1 zF a2),(2,rr 0 a3),(3,sl 1 eStr a4)] [(0,rE 1 zF a3)] zB ?_
 refine J_d 12 [] [14] [(14,bv (decide ((a4.length:Int)>6)))] [] [] zB ?_
 refine zG 14 (fun h5=>?_) (fun h5=>?_)
 ·refine J_g 52 [] [(8,sl 1 eStr a4)] [(0,rE 1 zF a3)] zB ?_
  exact yA rfl
 ·refine J_d 28 [] [9,14] [(9,iv 1)] [] [] zB ?_
  refine uL (K0:=(fun r:(List ByteArray)=>some (sl 1 eStr r,[rE 1 zF a3]))) (fun _=>rfl) (zJ2.ok a1 a2 a3 a4 q _ (fun v57=>J_j ?_) 1)
  refine J_g 30 [] [(8,sl 1 eStr a4)] [(0,rE 1 zF a3)] zB ?_
  exact yA rfl
theorem zHs.ok (a1:(List Pack)) (a3:(List Int)) (x4:(List (List ByteArray))) (s156:((List (List ByteArray))×(List (List Int))×(List Int)×Int)) (s195:((List (List ByteArray))×(List (List Int))×(List Int)×(List ByteArray))) (x197:(List ByteArray)) (q:Wd) (kn:(List ByteArray)→Option (D×List Ent)) (hk:∀v:(List ByteArray),J (q.g Tryz.prog 41 1 81) c41 (atI c41 2073751) (St.mk' [(0,sl 8 (Pack.enc false) a1),(2,rr 0 a3),(8,rr 1 s195.1),(9,rr 2 s195.2.1),(10,sl 1 zF s195.2.2.1),(11,rr 3 x4),(12,iv s156.2.2.2),(14,sl 1 eStr x197),(15,rr 4 v)] [(0,rE 1 zF a3),(1,rE 1 (eSl true 1 eStr) s195.1),(2,rE 1 (eSl false 1 zF) s195.2.1),(3,rE 1 (eSl false 1 eStr) x4),(4,rE 1 eStr v)]) (some v) kn):
  ∀s210:((List ByteArray)×Int),J (q.g Tryz.prog 41 1 81) c41 (atI c41 16590004) (St.mk' [(0,sl 8 (Pack.enc false) a1),(2,rr 0 a3),(8,rr 1 s195.1),(9,rr 2 s195.2.1),(10,sl 1 zF s195.2.2.1),(11,rr 3 x4),(12,iv s156.2.2.2),(13,sl 1 eStr s195.2.2.2),(14,sl 1 eStr x197),(15,rr 4 s210.1),(16,iv s210.2)] [(0,rE 1 zF a3),(1,rE 1 (eSl true 1 eStr) s195.1),(2,rE 1 (eSl false 1 zF) s195.2.1),(3,rE 1 (eSl false 1 eStr) x4),(4,rE 1 eStr s210.1)]) (zDt a1 a3 x4 s156 s195 x197 s210) kn:=by
 refine uM (fun g ih s210=>?_)
 unfold zAu
 refine J_d 66360016 [] [46] [(46,bv (decide (s210.2< (s195.2.2.2.length:Int))))] [] [] zB ?_
 refine zG 46 (fun h211=>?_) (fun h211=>?_)
 ·refine zA (fun x212 h213=>?_)
  refine zA (fun x214 h215=>?_)
  refine J_d 265440072 [] [46,55] [(55,bv (!x214))] [] [] (zD 3 (wM (kk:=.i64) 69 9 1 eStr (.tmp 50) (.tmp 51) h213) (zD 5 (yG [(.tmp 49),(.tmp 53)] [69,9] (xG.ok x197 x212) h215) zB)) ?_
  refine zU (aft c41 132720036) (fun v221:(List ByteArray)=>St.mk' [(0,sl 8 (Pack.enc false) a1),(2,rr 0 a3),(8,rr 1 s195.1),(9,rr 2 s195.2.1),(10,sl 1 zF s195.2.2.1),(11,rr 3 x4),(12,iv s156.2.2.2),(13,sl 1 eStr s195.2.2.2),(14,sl 1 eStr x197),(15,rr 6 v221),(16,iv s210.2)] [(0,rE 1 zF a3),(1,rE 1 (eSl true 1 eStr) s195.1),(2,rE 1 (eSl false 1 zF) s195.2.1),(3,rE 1 (eSl false 1 eStr) x4),(6,rE 1 eStr v221)]) (fun v221=>?_) (fun jv221=>?_)
  ·refine J_d 66360019 [] [16] [(16,iv (w64 (s210.2+1)))] [] [] zB ?_
   refine xV 6 4 (qB rfl) (qB rfl) ?_
   exact J_q (J_b (ih (v221,w64 (s210.2+1)))) rfl
  ·refine zG 55 (fun h216=>?_) (fun h216=>?_)
   ·refine zA (fun x217 h218=>?_)
    refine zA (fun x219 h220=>?_)
    refine J_d 530880146 [] [15,55] [(15,rr 6 x219)] [4,6] [(6,rE 1 eStr x219)] (zD 3 (wM (kk:=.i64) 69 9 1 eStr (.tmp 57) (.tmp 58) h218) (zD 5 (vM 69 9 1 5 eStr [x217] [0] [(.tmp 60)] [sv x217]) (zD 6 (zEQ 69 69 9 9 1 16 6 4 5 eStr (.tmp 56) (.tmp 61) h220) zB))) ?_
    exact zN (J_j (jv221 x219)) rfl
   ·refine xV 4 6 (qB rfl) (qB rfl) ?_
    exact zN (J_j (jv221 s210.1)) rfl
 ·exact zN (hk s210.1) rfl
theorem zHf.ok (a1:(List Pack)) (a3:(List Int)) (x4:(List (List ByteArray))) (s156:((List (List ByteArray))×(List (List Int))×(List Int)×Int)) (q:Wd) (kn:((List (List ByteArray))×(List (List Int))×(List Int))→Option (D×List Ent)) (hk:∀v:((List (List ByteArray))×(List (List Int))×(List Int)),J (q.g Tryz.prog 41 1 81) c41 (aft c41 8100) (St.mk' [(0,sl 8 (Pack.enc false) a1),(2,rr 0 a3),(8,rr 1 v.1),(9,rr 2 v.2.1),(10,sl 1 zF v.2.2),(11,rr 3 x4),(12,iv s156.2.2.2)] [(0,rE 1 zF a3),(1,rE 1 (eSl true 1 eStr) v.1),(2,rE 1 (eSl false 1 zF) v.2.1),(3,rE 1 (eSl false 1 eStr) x4)]) (some v) kn):
  ∀s195:((List (List ByteArray))×(List (List Int))×(List Int)×(List ByteArray)),J (q.g Tryz.prog 41 1 81) c41 (atI c41 64804) (St.mk' [(0,sl 8 (Pack.enc false) a1),(2,rr 0 a3),(8,rr 1 s195.1),(9,rr 2 s195.2.1),(10,sl 1 zF s195.2.2.1),(11,rr 3 x4),(12,iv s156.2.2.2),(13,sl 1 eStr s195.2.2.2)] [(0,rE 1 zF a3),(1,rE 1 (eSl true 1 eStr) s195.1),(2,rE 1 (eSl false 1 zF) s195.2.1),(3,rE 1 (eSl false 1 eStr) x4)]) (zBj a1 a3 x4 s156 s195) kn:=by
 refine uM (fun g ih s195=>?_)
 unfold jB
 refine J_d 259216 [] [36] [(36,bv (decide ((s195.2.2.2.length:Int)>0)))] [] [] zB ?_
 refine zG 36 (fun h196=>?_) (fun h196=>?_)
 ·refine zA (fun x197 h198=>?_)
  refine J_g 518436 [] [(0,sl 8 (Pack.enc false) a1),(2,rr 0 a3),(8,rr 1 s195.1),(9,rr 2 s195.2.1),(10,sl 1 zF s195.2.2.1),(11,rr 3 x4),(12,iv s156.2.2.2),(13,sl 1 eStr s195.2.2.2),(14,sl 1 eStr x197)] [(0,rE 1 zF a3),(1,rE 1 (eSl true 1 eStr) s195.1),(2,rE 1 (eSl false 1 zF) s195.2.1),(3,rE 1 (eSl false 1 eStr) x4)] (zD 4 (zH7 [(0,rE 1 zF a3)] [] (xH («as»:=[sl 8 (Pack.enc false) a1,sl 1 zF s195.2.2.1,rr 0 a3,sl 1 eStr s195.2.2.2]) [(.tmp 37),(.tmp 38),(.tmp 39),(.tmp 40)] [24,34,34,69] false [(0,rE 1 zF a3)] [0] (.cons (.same rfl) (.cons (.same rfl) (.cons (.rf rfl) (.cons (.same rfl) (.nil))))) (zLg.ok a1 s195.2.2.1 a3 s195.2.2.2) h198 (.same rfl rfl))) zB) ?_
  refine J_g 1036874 [] [(0,sl 8 (Pack.enc false) a1),(2,rr 0 a3),(8,rr 1 s195.1),(9,rr 2 s195.2.1),(10,sl 1 zF s195.2.2.1),(11,rr 3 x4),(12,iv s156.2.2.2),(13,sl 1 eStr s195.2.2.2),(14,sl 1 eStr x197),(15,rr 4 ([]:List ByteArray))] [(0,rE 1 zF a3),(1,rE 1 (eSl true 1 eStr) s195.1),(2,rE 1 (eSl false 1 zF) s195.2.1),(3,rE 1 (eSl false 1 eStr) x4),(4,rE 1 eStr ([]:List ByteArray))] (zD 0 (vM 69 9 1 4 eStr ([]:List ByteArray) [] [] []) zB) ?_
  refine J_d 4147500 [] [16] [(16,iv 0)] [] [] zB ?_
  refine zEx (zHs.ok a1 a3 x4 s156 s195 x197 q _ (fun v222=>J_j ?_) (([]:List ByteArray),0))
  refine J_d 4147502 [] [13,15] [(13,rr 4 v222)] [] [] zB ?_
  refine zA (fun x223 h224=>?_)
  refine J_d 8295006 [] [10] [(10,rr 5 x223)] [5] [(5,rE 1 zF x223)] (zD 4 (xH («as»:=[sl 8 (Pack.enc false) a1,sl 1 zF s195.2.2.1,rr 0 a3,sl 1 eStr x197]) [(.tmp 64),(.tmp 65),(.tmp 66),(.tmp 67)] [24,34,34,69] true [(0,rE 1 zF a3)] [] (.cons (.same rfl) (.cons (.same rfl) (.cons (zFJ (.head _) (fun _=>rfl) rfl) (.cons (.same rfl) (.nil))))) (zAR.ok a1 s195.2.2.1 a3 x197) h224 (.own 5) (hbor:=fun _=>⟨fhN,(zFY (zHH (fun _=>(flatK wV zIs)) _))⟩)) zB) ?_
  refine zA (fun x225 h226=>?_)
  refine zA (fun x227 h228=>?_)
  refine J_g 16590014 [] [(0,sl 8 (Pack.enc false) a1),(2,rr 0 a3),(8,rr 9 x227),(9,rr 2 s195.2.1),(10,rr 5 x223),(11,rr 3 x4),(12,iv s156.2.2.2),(13,rr 4 v222)] [(0,rE 1 zF a3),(2,rE 1 (eSl false 1 zF) s195.2.1),(3,rE 1 (eSl false 1 eStr) x4),(4,rE 1 eStr v222),(5,rE 1 zF x223),(9,rE 1 (eSl true 1 eStr) x227)] (zD 1 (vM 69 9 1 6 eStr ([]:List ByteArray) [] [] []) (zD 3 (zQ9 69 69 9 9 1 16 7 6 eStr (.tmp 70) (.tmp 71) h226) (zD 4 (zPl (ds:=[rr 7 x225]) (ts:=[7]) 78 69 1 8 (eSl true 1 eStr) [x225] [0] [(.tmp 72)] [rr 7 x225] [(7,rE 1 eStr x225)] (.move (.head _) (qC _) (by decide) (.nil))) (zD 5 (zEQ 78 78 69 69 1 24 9 1 8 (eSl true 1 eStr) (.tmp 69) (.tmp 73) h228) zB)))) ?_
  refine vB [(0,sl 8 (Pack.enc false) a1),(2,rr 0 a3),(8,rr 9 x227),(9,rr 2 s195.2.1),(10,rr 5 x223),(11,rr 3 x4),(12,iv s156.2.2.2),(13,rr 4 v222)] [(5,rE 1 zF x223),(0,rE 1 zF a3),(2,rE 1 (eSl false 1 zF) s195.2.1),(3,rE 1 (eSl false 1 eStr) x4),(4,rE 1 eStr v222),(9,rE 1 (eSl true 1 eStr) x227)] (by kernel_rfl) ?_
  refine zEc 5 (z:=1) (xs:=x223.map zF) (tm2:=[(0,sl 8 (Pack.enc false) a1),(2,rr 0 a3),(8,rr 9 x227),(9,rr 2 s195.2.1),(10,sl 1 zF x223),(11,rr 3 x4),(12,iv s156.2.2.2),(13,rr 4 v222)]) (hp2:=[(0,rE 1 zF a3),(2,rE 1 (eSl false 1 zF) s195.2.1),(3,rE 1 (eSl false 1 eStr) x4),(4,rE 1 eStr v222),(9,rE 1 (eSl true 1 eStr) x227)]) (.cons (.keep rfl) (.cons (.keep rfl) (.cons (.keep rfl) (.cons (.keep rfl) (.cons (.rf (by simp) (jG (enc:=zF) (enc':=zF) (fun _=>rfl) x223 rfl rfl)) (.cons (.keep rfl) (.cons (.keep rfl) (.cons (.keep rfl) (.nil))))))))) (.keep rfl (.keep rfl (.keep rfl (.keep rfl (.keep rfl (.nil)))))) rfl ?_
  refine zA (fun x229 h230=>?_)
  refine J_d 16590015 [] [9] [(9,rr 11 x229)] [2,11] [(11,rE 1 (eSl false 1 zF) x229)] (zD 2 (vM 26 34 1 10 (eSl false 1 zF) [x223] [0] [(.tmp 76)] [sl 1 zF x223]) (zD 3 (zEQ 26 26 34 34 1 24 11 2 10 (eSl false 1 zF) (.tmp 75) (.tmp 77) h230) zB)) ?_
  refine vB [(0,sl 8 (Pack.enc false) a1),(2,rr 0 a3),(8,rr 9 x227),(9,rr 11 x229),(10,sl 1 zF x223),(11,rr 3 x4),(12,iv s156.2.2.2),(13,rr 4 v222)] [(4,rE 1 eStr v222),(0,rE 1 zF a3),(3,rE 1 (eSl false 1 eStr) x4),(9,rE 1 (eSl true 1 eStr) x227),(11,rE 1 (eSl false 1 zF) x229)] (by kernel_rfl) ?_
  refine zEc 4 (z:=1) (xs:=v222.map eStr) (tm2:=[(0,sl 8 (Pack.enc false) a1),(2,rr 0 a3),(8,rr 9 x227),(9,rr 11 x229),(10,sl 1 zF x223),(11,rr 3 x4),(12,iv s156.2.2.2),(13,sl 1 eStr v222)]) (hp2:=[(0,rE 1 zF a3),(3,rE 1 (eSl false 1 eStr) x4),(9,rE 1 (eSl true 1 eStr) x227),(11,rE 1 (eSl false 1 zF) x229)]) (.cons (.keep rfl) (.cons (.keep rfl) (.cons (.keep rfl) (.cons (.keep rfl) (.cons (.keep rfl) (.cons (.keep rfl) (.cons (.keep rfl) (.cons (.rf (by simp) (jG (enc:=eStr) (enc':=eStr) (fun _=>rfl) v222 rfl rfl)) (.nil))))))))) (.keep rfl (.keep rfl (.keep rfl (.keep rfl (.nil))))) rfl ?_
  refine xV 9 1 (qB rfl) (qB rfl) ?_
  refine xV 11 2 (qB rfl) (qB rfl) ?_
  exact J_q (J_b (ih (x227,x229,x223,v222))) rfl
 ·exact zN (hk (s195.1,s195.2.1,s195.2.2.1)) rfl
theorem zHp.ok (a1:(List Pack)) (a3:(List Int)) (x4:(List (List ByteArray))) (q:Wd) (kn:((List (List ByteArray))×(List (List Int)))→Option (D×List Ent)) (hk:∀v:((List (List ByteArray))×(List (List Int))),J (q.g Tryz.prog 41 1 81) c41 (atI c41 127) (St.mk' [(8,rr 1 v.1),(9,rr 2 v.2)] [(0,rE 1 zF a3),(1,rE 1 (eSl true 1 eStr) v.1),(2,rE 1 (eSl false 1 zF) v.2)]) (some v) kn):
  ∀s156:((List (List ByteArray))×(List (List Int))×(List Int)×Int),J (q.g Tryz.prog 41 1 81) c41 (atI c41 1012) (St.mk' [(0,sl 8 (Pack.enc false) a1),(2,rr 0 a3),(8,rr 1 s156.1),(9,rr 2 s156.2.1),(10,sl 1 zF s156.2.2.1),(11,rr 3 x4),(12,iv s156.2.2.2)] [(0,rE 1 zF a3),(1,rE 1 (eSl true 1 eStr) s156.1),(2,rE 1 (eSl false 1 zF) s156.2.1),(3,rE 1 (eSl false 1 eStr) x4)]) (zEG a1 a3 x4 s156) kn:=by
 refine uM (fun g ih s156=>?_)
 unfold zA2
 refine J_d 4048 [] [27] [(27,bv (decide (s156.2.2.2< (x4.length:Int))))] [] [] zB ?_
 refine zG 27 (fun h157=>?_) (fun h157=>?_)
 ·refine zA (fun x158 h159=>?_)
  refine J_d 16200 [] [13,27] [(13,sl 1 eStr x158)] [] [] (zD 2 (zAb (kk:=.i64) 78 69 1 3 (eSl false 1 eStr) (.tmp 30) (.tmp 31) h159) (zD 3 (zAa (d:=sl 1 eStr x158) 69 1 3 0 (eSl false 1 eStr) (.tmp 32) h159 (by kernel_rfl)) zB)) ?_
  refine zEx (zHf.ok a1 a3 x4 s156 q _ (fun v231=>J_j ?_) (s156.1,s156.2.1,s156.2.2.1,x158))
  refine J_d 4051 [] [12] [(12,iv (w64 (s156.2.2.2+1)))] [] [] zB ?_
  exact J_q (J_b (ih (v231.1,v231.2.1,v231.2.2,w64 (s156.2.2.2+1)))) rfl
 ·exact zN (hk (s156.1,s156.2.1)) rfl
theorem zIL.ok (a1:(List Pack)) (a2:(List Int)) (a3:(List Int)):Ok Tryz.prog 41 [sl 8 (Pack.enc false) a1,sl 1 zF a2,rr 0 a3] [rE 1 zF a3] ((zCt a1 a2 a3).map fun r=>(.tu [so 1 (eSl true 1 eStr) r.1,so 1 (eSl false 1 zF) r.2],[rE 1 zF a3])):=by
 refine zJ c41 Tryz.f41 1 81 (fun q=>?_)
 unfold zCt
 refine J_g 2 [] [(0,sl 8 (Pack.enc false) a1),(1,sl 1 zF a2),(2,rr 0 a3)] [(0,rE 1 zF a3)] zB ?_
 refine J_g 6 [] [(0,sl 8 (Pack.enc false) a1),(1,sl 1 zF a2),(2,rr 0 a3),(8,rr 1 ([]:List (List ByteArray)))] [(0,rE 1 zF a3),(1,rE 1 (eSl false 1 eStr) ([]:List (List ByteArray)))] (zD 0 (vM 78 69 1 1 (eSl false 1 eStr) ([]:List (List ByteArray)) [] [] []) zB) ?_
 refine J_g 14 [] [(0,sl 8 (Pack.enc false) a1),(1,sl 1 zF a2),(2,rr 0 a3),(8,rr 1 ([]:List (List ByteArray))),(9,rr 2 ([]:List (List Int)))] [(0,rE 1 zF a3),(1,rE 1 (eSl false 1 eStr) ([]:List (List ByteArray))),(2,rE 1 (eSl false 1 zF) ([]:List (List Int)))] (zD 0 (vM 26 34 1 2 (eSl false 1 zF) ([]:List (List Int)) [] [] []) zB) ?_
 refine J_d 30 [] [10] [(10,sl 1 zF a2)] [] [] zB ?_
 refine zA (fun x4 h5=>?_)
 refine J_g 62 [] [(0,sl 8 (Pack.enc false) a1),(2,rr 0 a3),(8,rr 1 ([]:List (List ByteArray))),(9,rr 2 ([]:List (List Int))),(10,sl 1 zF a2),(11,rr 3 x4)] [(0,rE 1 zF a3),(1,rE 1 (eSl false 1 eStr) ([]:List (List ByteArray))),(2,rE 1 (eSl false 1 zF) ([]:List (List Int))),(3,rE 1 (eSl true 1 eStr) x4)] (zD 3 (xH («as»:=[sl 8 (Pack.enc false) a1,sl 1 zF a2,rr 0 a3]) [(.tmp 20),(.tmp 21),(.tmp 22)] [24,34,34] true [(0,rE 1 zF a3)] [] (.cons (.same rfl) (.cons (.same rfl) (.cons (zFJ (.head _) (fun _=>rfl) rfl) (.nil)))) (zB2.ok a1 a2 a3) h5 (.own 3) (hbor:=fun _=>⟨fhN,(zFY (zHH (fun _=>(flatK (zFY (zHH (fun _=>(flatK wV zIs)) _)) zIs)) _))⟩)) zB) ?_
 refine J_d 252 [] [12] [(12,iv 0)] [] [] zB ?_
 refine vB [(0,sl 8 (Pack.enc false) a1),(2,rr 0 a3),(8,rr 1 ([]:List (List ByteArray))),(9,rr 2 ([]:List (List Int))),(10,sl 1 zF a2),(11,rr 3 x4),(12,iv 0)] [(3,rE 1 (eSl true 1 eStr) x4),(0,rE 1 zF a3),(1,rE 1 (eSl false 1 eStr) ([]:List (List ByteArray))),(2,rE 1 (eSl false 1 zF) ([]:List (List Int)))] (by kernel_rfl) ?_
 refine zFB 3 (tQ (enc:=(eSl true 1 eStr)) (enc':=(eSl false 1 eStr)) (zE7 (fun _=>rfl)) _) ?_
 refine vB [(0,sl 8 (Pack.enc false) a1),(2,rr 0 a3),(8,rr 1 ([]:List (List ByteArray))),(9,rr 2 ([]:List (List Int))),(10,sl 1 zF a2),(11,rr 3 x4),(12,iv 0)] [(0,rE 1 zF a3),(1,rE 1 (eSl false 1 eStr) ([]:List (List ByteArray))),(2,rE 1 (eSl false 1 zF) ([]:List (List Int))),(3,rE 1 (eSl false 1 eStr) x4)] (by kernel_rfl) ?_
 refine zEx (zHp.ok a1 a3 x4 q _ (fun v232=>J_j ?_) (([]:List (List ByteArray)),([]:List (List Int)),a2,0))
 refine J_g 254 [] [(6,rr 1 v232.1),(7,rr 2 v232.2)] [(0,rE 1 zF a3),(1,rE 1 (eSl true 1 eStr) v232.1),(2,rE 1 (eSl false 1 zF) v232.2)] zB ?_
 exact zEO (ds:=[rr 1 v232.1,rr 2 v232.2]) (ds':=[so 1 (eSl true 1 eStr) v232.1,so 1 (eSl false 1 zF) v232.2]) (.cons (.cell (.move (.tail _ (.head _)) (qC _) (by decide) (.nil))) (.cons (.cell (.move (.tail _ (.tail _ (.head _))) (qC _) (by decide) (.nil))) (.nil) (by decide)) (by decide)) rfl
end
end Go.Told

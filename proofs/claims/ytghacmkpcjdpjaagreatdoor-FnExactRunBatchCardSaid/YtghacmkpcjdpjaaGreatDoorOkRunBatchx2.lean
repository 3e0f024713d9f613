import Derived.Test.YtghacmkpcjdpjaaGreatDoorOkRunBatchx1
set_option linter.unusedVariables false
set_option maxRecDepth 4000
namespace Go.Told
open Go Go.Im Go.Proofs
noncomputable def c52:Code:=(Tryz.f52.body).getD .skip
theorem zH3.ok (a1:(List Pack)) (a3:(List Int)) (x11:Int) (x20:(List Int)) (q:Wd) (kn:((List File)×Int×Int×Int×Bool)→Option (D×List Ent)) (hk:∀v:((List File)×Int×Int×Int×Bool),J (q.g Tryz.prog 52 1 99) c52 (atI c52 1023) (St.mk' [(0,sl 8 (Pack.enc false) a1),(1,pp 0),(2,sl 1 zK a3),(7,iv x11)] [(0,.box [rr 2 v.1,iv v.2.1,iv v.2.2.1,iv v.2.2.2.1,bv v.2.2.2.2]),(2,rE 2 (File.enc false) v.1)]) (some v) kn):
  ∀s54:((List File)×Int×Int×Int×Bool×Int),J (q.g Tryz.prog 52 1 99) c52 (atI c52 8180) (St.mk' [(0,sl 8 (Pack.enc false) a1),(1,pp 0),(2,sl 1 zK a3),(7,iv x11),(10,rr 1 x20),(11,iv s54.2.2.2.2.2)] [(0,.box [rr 2 s54.1,iv s54.2.1,iv s54.2.2.1,iv s54.2.2.2.1,bv s54.2.2.2.2.1]),(1,rE 1 zK x20),(2,rE 2 (File.enc false) s54.1)]) (zDT a1 a3 x11 x20 s54) (Fl.go (fun r:(Int×zC)=>some (iv r.1,[.box [so 2 (File.enc false) r.2.Files,iv r.2.Budget,iv r.2.Writes,iv r.2.Stop,bv r.2.Down]])) kn):=by
 refine jL (fun g ih s54=>?_)
 unfold zBI
 refine J_d 32720 [] [59] [(59,bv (decide (s54.2.2.2.2.2< (x20.length:Int))))] [] [] zB ?_
 refine zF 59 (fun h55=>?_) (fun h55=>?_)
 ·refine zA (fun x56 h57=>?_)
  refine zA (fun x58 h59=>?_)
  refine zA (fun x60 h61=>?_)
  refine zA (fun x62 h63=>?_)
  refine zA (fun x64 h65=>?_)
  refine zA (fun x66 h67=>?_)
  refine yX 0 (cs':=[so 2 (File.enc false) s54.1,iv s54.2.1,iv s54.2.2.1,iv s54.2.2.2.1,bv s54.2.2.2.2.1]) (ts:=[2]) rfl (.move (.tail _ (.head _)) (List.length_map _) (by decide) (.keep rfl (.keep rfl (.keep rfl (.keep rfl (.nil)))))) ?_
  refine wM [(0,sl 8 (Pack.enc false) a1),(1,pp 0),(2,sl 1 zK a3),(7,iv x11),(10,rr 1 x20),(11,iv s54.2.2.2.2.2),(59,bv true)] [(0,.box [so 2 (File.enc false) s54.1,iv s54.2.1,iv s54.2.2.1,iv s54.2.2.2.1,bv s54.2.2.2.2.1]),(1,rE 1 zK x20)] (by kernel_rfl) ?_
  refine zA (fun x68 h69=>?_)
  refine J_g 130888 [] [(0,sl 8 (Pack.enc false) a1),(1,pp 0),(2,sl 1 zK a3),(7,iv x11),(10,rr 1 x20),(11,iv s54.2.2.2.2.2),(12,iv x68.1)] [(0,.box [so 2 (File.enc false) x68.2.Files,iv x68.2.Budget,iv x68.2.Writes,iv x68.2.Stop,bv x68.2.Down]),(1,rE 1 zK x20)] (zD 4 (uN (kk:=.i64) 49 2 1 1 zK (.tmp 64) (.tmp 65) h57) (zD 5 (zEt (d:=iv x56) 2 1 1 0 zK (.tmp 66) h57 (by kernel_rfl)) (zD 6 (vR (kk:=.i64) 53 102 8 (Pack.enc false) (.tmp 63) (.tmp 67) h59) (zD 8 (xR [(.tmp 69)] [102] (uX.ok x58) h61) (zD 12 (uN (kk:=.i64) 49 2 1 1 zK (.tmp 72) (.tmp 73) h63) (zD 13 (zEt (d:=iv x62) 2 1 1 0 zK (.tmp 74) h63 (by kernel_rfl)) (zD 14 (vR (kk:=.i64) 53 102 8 (Pack.enc false) (.tmp 71) (.tmp 75) h65) (zD 16 (vX («as»:=[.ag (Pack.enc false x64)]) [(.tmp 77)] [102] false [] [] (.cons (.same rfl) (.nil)) (zAx.ok x64) h67 (.own 2)) (zD 17 (vX («as»:=[pp 0,sv x60,rr 2 x66]) [(.tmp 62),(.tmp 70),(.tmp 78)] [75,9,22] false [(0,.box [so 2 (File.enc false) s54.1,iv s54.2.1,iv s54.2.2.1,iv s54.2.2.2.1,bv s54.2.2.2.2.1]),(2,rE 1 eU8 x66)] [0,2] (.cons (.pt rfl) (.cons (.same rfl) (.cons (.rf rfl) (.nil)))) (zH0.ok ({Files:=s54.1,Budget:=s54.2.1,Writes:=s54.2.2.1,Stop:=s54.2.2.2.1,Down:=s54.2.2.2.2.1}:zC) x60 x66) h69 (.same rfl rfl)) zB))))))))) ?_
  refine yI 0 (cs':=[rr 2 x68.2.Files,iv x68.2.Budget,iv x68.2.Writes,iv x68.2.Stop,bv x68.2.Down]) (es:=[(2,rE 2 (File.enc false) x68.2.Files)]) rfl (.cons (.own 2) (.cons (.same rfl rfl) (.cons (.same rfl rfl) (.cons (.same rfl rfl) (.cons (.same rfl rfl) (.nil)))))) rfl (by kernel_rfl) (by kernel_rfl) ?_
  refine wM [(0,sl 8 (Pack.enc false) a1),(1,pp 0),(2,sl 1 zK a3),(7,iv x11),(10,rr 1 x20),(11,iv s54.2.2.2.2.2),(12,iv x68.1)] [(0,.box [rr 2 x68.2.Files,iv x68.2.Budget,iv x68.2.Writes,iv x68.2.Stop,bv x68.2.Down]),(1,rE 1 zK x20),(2,rE 2 (File.enc false) x68.2.Files)] (by kernel_rfl) ?_
  refine J_d 261778 [] [81] [(81,bv (x68.1 !=0))] [] [] zB ?_
  refine zF 81 (fun h70=>?_) (fun h70=>?_)
  ·refine J_g 1047116 [] [(6,iv x68.1)] [(0,.box [rr 2 x68.2.Files,iv x68.2.Budget,iv x68.2.Writes,iv x68.2.Stop,bv x68.2.Down]),(2,rE 2 (File.enc false) x68.2.Files)] zB ?_
   refine yX 0 (cs':=[so 2 (File.enc false) x68.2.Files,iv x68.2.Budget,iv x68.2.Writes,iv x68.2.Stop,bv x68.2.Down]) (ts:=[2]) rfl (.move (.head _) (List.length_map _) (by decide) (.keep rfl (.keep rfl (.keep rfl (.keep rfl (.nil)))))) ?_
   refine wM [(6,iv x68.1)] [(0,.box [so 2 (File.enc false) x68.2.Files,iv x68.2.Budget,iv x68.2.Writes,iv x68.2.Stop,bv x68.2.Down])] (by kernel_rfl) ?_
   exact zN rfl
  ·refine J_d 32723 [] [11,12,81] [(11,iv (w64 (s54.2.2.2.2.2+1)))] [] [] zB ?_
   exact J_q (J_b (ih (x68.2.Files,x68.2.Budget,x68.2.Writes,x68.2.Stop,x68.2.Down,w64 (s54.2.2.2.2.2+1)))) rfl
 ·exact xD (hk (s54.1,s54.2.1,s54.2.2.1,s54.2.2.2.1,s54.2.2.2.2.1)) rfl
theorem zJs.ok (a1:(List Pack)) (a2:zC) (a3:(List Int)):Ok Tryz.prog 52 [sl 8 (Pack.enc false) a1,pp 0,sl 1 zK a3] [.box (zC.enc true a2)] ((zEn a1 a2 a3).map fun r=>(iv r.1,[.box [so 2 (File.enc false) r.2.Files,iv r.2.Budget,iv r.2.Writes,iv r.2.Stop,bv r.2.Down]])):=by
 refine zG c52 Tryz.f52 1 99 (fun q=>?_)
 unfold zEn
 refine yI 0 (cs':=[rr 1 a2.Files,iv a2.Budget,iv a2.Writes,iv a2.Stop,bv a2.Down]) (es:=[(1,rE 2 (File.enc true) a2.Files)]) rfl (.cons (.own 1) (.cons (.same rfl rfl) (.cons (.same rfl rfl) (.cons (.same rfl rfl) (.cons (.same rfl rfl) (.nil)))))) rfl (by kernel_rfl) (by kernel_rfl) ?_
 refine wM [(0,sl 8 (Pack.enc false) a1),(1,pp 0),(2,sl 1 zK a3)] [(0,.box [rr 1 a2.Files,iv a2.Budget,iv a2.Writes,iv a2.Stop,bv a2.Down]),(1,rE 2 (File.enc true) a2.Files)] (by kernel_rfl) ?_
 refine J_d 2 [] [] [] [] [] zB ?_
 refine zA (fun x4 h5=>?_)
 refine wB (atI c52 13) (fun v9:Bool=>St.mk' [(0,sl 8 (Pack.enc false) a1),(1,pp 0),(2,sl 1 zK a3),(23,bv v9)] [(0,.box [rr 1 a2.Files,iv a2.Budget,iv a2.Writes,iv a2.Stop,bv a2.Down]),(1,rE 2 (File.enc true) a2.Files)]) (fun v9=>?_) (fun jv9=>?_)
 ·refine zF 23 (fun h10=>?_) (fun h10=>?_)
  ·refine J_g 52 [] [(6,iv 1)] [(0,.box [rr 1 a2.Files,iv a2.Budget,iv a2.Writes,iv a2.Stop,bv a2.Down]),(1,rE 2 (File.enc true) a2.Files)] zB ?_
   refine wM [(6,iv 1)] [(1,rE 2 (File.enc true) a2.Files),(0,.box [rr 1 a2.Files,iv a2.Budget,iv a2.Writes,iv a2.Stop,bv a2.Down])] (by kernel_rfl) ?_
   refine zMs 1 (zEf (enc:=(File.enc true)) (enc':=(File.enc false)) (File.ro true) _) ?_
   refine wM [(6,iv 1)] [(0,.box [rr 1 a2.Files,iv a2.Budget,iv a2.Writes,iv a2.Stop,bv a2.Down]),(1,rE 2 (File.enc false) a2.Files)] (by kernel_rfl) ?_
   refine yX 0 (cs':=[so 2 (File.enc false) a2.Files,iv a2.Budget,iv a2.Writes,iv a2.Stop,bv a2.Down]) (ts:=[1]) rfl (.move (.head _) (List.length_map _) (by decide) (.keep rfl (.keep rfl (.keep rfl (.keep rfl (.nil)))))) ?_
   refine wM [(6,iv 1)] [(0,.box [so 2 (File.enc false) a2.Files,iv a2.Budget,iv a2.Writes,iv a2.Stop,bv a2.Down])] (by kernel_rfl) ?_
   exact zN rfl
  ·refine yX 0 (cs':=[so 2 (File.enc true) a2.Files,iv a2.Budget,iv a2.Writes,iv a2.Stop,bv a2.Down]) (ts:=[1]) rfl (.move (.head _) (List.length_map _) (by decide) (.keep rfl (.keep rfl (.keep rfl (.keep rfl (.nil)))))) ?_
   refine wM [(0,sl 8 (Pack.enc false) a1),(1,pp 0),(2,sl 1 zK a3),(23,bv false)] [(0,.box (zC.enc true a2))] (by kernel_rfl) ?_
   refine zA (fun x11 h12=>?_)
   refine J_g 14 [] [(0,sl 8 (Pack.enc false) a1),(1,pp 0),(2,sl 1 zK a3),(7,iv x11)] [(0,.box (zC.enc true a2))] (zD 1 (zEU [(0,.box (zC.enc true a2))] [] (vX («as»:=[pp 0]) [(.tmp 24)] [75] false [(0,.box (zC.enc true a2))] [0] (.cons (.pt rfl) (.nil)) (zF8.ok a2) h12 (.same rfl rfl))) zB) ?_
   refine yI 0 (cs':=[rr 1 a2.Files,iv a2.Budget,iv a2.Writes,iv a2.Stop,bv a2.Down]) (es:=[(1,rE 2 (File.enc true) a2.Files)]) rfl (.cons (.own 1) (.cons (.same rfl rfl) (.cons (.same rfl rfl) (.cons (.same rfl rfl) (.cons (.same rfl rfl) (.nil)))))) rfl (by kernel_rfl) (by kernel_rfl) ?_
   refine wM [(0,sl 8 (Pack.enc false) a1),(1,pp 0),(2,sl 1 zK a3),(7,iv x11)] [(0,.box [rr 1 a2.Files,iv a2.Budget,iv a2.Writes,iv a2.Stop,bv a2.Down]),(1,rE 2 (File.enc true) a2.Files)] (by kernel_rfl) ?_
   refine J_d 60 [] [27] [(27,bv (decide (x11>999999)))] [] [] zB ?_
   refine zF 27 (fun h13=>?_) (fun h13=>?_)
   ·refine J_g 244 [] [(6,iv 2)] [(0,.box [rr 1 a2.Files,iv a2.Budget,iv a2.Writes,iv a2.Stop,bv a2.Down]),(1,rE 2 (File.enc true) a2.Files)] zB ?_
    refine wM [(6,iv 2)] [(1,rE 2 (File.enc true) a2.Files),(0,.box [rr 1 a2.Files,iv a2.Budget,iv a2.Writes,iv a2.Stop,bv a2.Down])] (by kernel_rfl) ?_
    refine zMs 1 (zEf (enc:=(File.enc true)) (enc':=(File.enc false)) (File.ro true) _) ?_
    refine wM [(6,iv 2)] [(0,.box [rr 1 a2.Files,iv a2.Budget,iv a2.Writes,iv a2.Stop,bv a2.Down]),(1,rE 2 (File.enc false) a2.Files)] (by kernel_rfl) ?_
    refine yX 0 (cs':=[so 2 (File.enc false) a2.Files,iv a2.Budget,iv a2.Writes,iv a2.Stop,bv a2.Down]) (ts:=[1]) rfl (.move (.head _) (List.length_map _) (by decide) (.keep rfl (.keep rfl (.keep rfl (.keep rfl (.nil)))))) ?_
    refine wM [(6,iv 2)] [(0,.box [so 2 (File.enc false) a2.Files,iv a2.Budget,iv a2.Writes,iv a2.Stop,bv a2.Down])] (by kernel_rfl) ?_
    exact zN rfl
   ·refine yX 0 (cs':=[so 2 (File.enc true) a2.Files,iv a2.Budget,iv a2.Writes,iv a2.Stop,bv a2.Down]) (ts:=[1]) rfl (.move (.head _) (List.length_map _) (by decide) (.keep rfl (.keep rfl (.keep rfl (.keep rfl (.nil)))))) ?_
    refine wM [(0,sl 8 (Pack.enc false) a1),(1,pp 0),(2,sl 1 zK a3),(7,iv x11),(27,bv false)] [(0,.box (zC.enc true a2))] (by kernel_rfl) ?_
    refine zA (fun x14 h15=>?_)
    refine J_g 62 [] [(0,sl 8 (Pack.enc false) a1),(1,pp 0),(2,sl 1 zK a3),(7,iv x11),(9,iv x14.2)] [(0,.box (zC.enc true a2))] (zD 3 (zEU [(0,.box (zC.enc true a2))] [] (vX («as»:=[sl 8 (Pack.enc false) a1,pp 0,sl 1 zK a3]) [(.tmp 29),(.tmp 30),(.tmp 31)] [53,75,49] false [(0,.box (zC.enc true a2))] [0] (.cons (.same rfl) (.cons (.pt rfl) (.cons (.same rfl) (.nil)))) (zK9.ok a1 a2 a3) h15 (.tu (.cons (.same rfl rfl) (.cons (.same rfl rfl) (.nil)))))) zB) ?_
    refine yI 0 (cs':=[rr 1 a2.Files,iv a2.Budget,iv a2.Writes,iv a2.Stop,bv a2.Down]) (es:=[(1,rE 2 (File.enc true) a2.Files)]) rfl (.cons (.own 1) (.cons (.same rfl rfl) (.cons (.same rfl rfl) (.cons (.same rfl rfl) (.cons (.same rfl rfl) (.nil)))))) rfl (by kernel_rfl) (by kernel_rfl) ?_
    refine wM [(0,sl 8 (Pack.enc false) a1),(1,pp 0),(2,sl 1 zK a3),(7,iv x11),(9,iv x14.2)] [(0,.box [rr 1 a2.Files,iv a2.Budget,iv a2.Writes,iv a2.Stop,bv a2.Down]),(1,rE 2 (File.enc true) a2.Files)] (by kernel_rfl) ?_
    refine yX 0 (cs':=[so 2 (File.enc true) a2.Files,iv a2.Budget,iv a2.Writes,iv a2.Stop,bv a2.Down]) (ts:=[1]) rfl (.move (.head _) (List.length_map _) (by decide) (.keep rfl (.keep rfl (.keep rfl (.keep rfl (.nil)))))) ?_
    refine wM [(0,sl 8 (Pack.enc false) a1),(1,pp 0),(2,sl 1 zK a3),(7,iv x11),(9,iv x14.2)] [(0,.box (zC.enc true a2))] (by kernel_rfl) ?_
    refine zA (fun x16 h17=>?_)
    refine J_g 252 [] [(0,sl 8 (Pack.enc false) a1),(1,pp 0),(2,sl 1 zK a3),(7,iv x11),(9,iv x14.2),(43,bv (decide (x16>a2.Budget)))] [(0,.box (zC.enc true a2))] (zD 3 (zEU [(0,.box (zC.enc true a2))] [] (vX («as»:=[sl 8 (Pack.enc false) a1,pp 0,sl 1 zK a3]) [(.tmp 35),(.tmp 36),(.tmp 37)] [53,75,49] false [(0,.box (zC.enc true a2))] [0] (.cons (.same rfl) (.cons (.pt rfl) (.cons (.same rfl) (.nil)))) (zKK.ok a1 a2 a3) h17 (.same rfl rfl))) zB) ?_
    refine yI 0 (cs':=[rr 1 a2.Files,iv a2.Budget,iv a2.Writes,iv a2.Stop,bv a2.Down]) (es:=[(1,rE 2 (File.enc true) a2.Files)]) rfl (.cons (.own 1) (.cons (.same rfl rfl) (.cons (.same rfl rfl) (.cons (.same rfl rfl) (.cons (.same rfl rfl) (.nil)))))) rfl (by kernel_rfl) (by kernel_rfl) ?_
    refine wM [(0,sl 8 (Pack.enc false) a1),(1,pp 0),(2,sl 1 zK a3),(7,iv x11),(9,iv x14.2),(43,bv (decide (x16>a2.Budget)))] [(0,.box [rr 1 a2.Files,iv a2.Budget,iv a2.Writes,iv a2.Stop,bv a2.Down]),(1,rE 2 (File.enc true) a2.Files)] (by kernel_rfl) ?_
    refine zF 43 (fun h18=>?_) (fun h18=>?_)
    ·refine J_g 1012 [] [(6,iv 8)] [(0,.box [rr 1 a2.Files,iv a2.Budget,iv a2.Writes,iv a2.Stop,bv a2.Down]),(1,rE 2 (File.enc true) a2.Files)] zB ?_
     refine wM [(6,iv 8)] [(1,rE 2 (File.enc true) a2.Files),(0,.box [rr 1 a2.Files,iv a2.Budget,iv a2.Writes,iv a2.Stop,bv a2.Down])] (by kernel_rfl) ?_
     refine zMs 1 (zEf (enc:=(File.enc true)) (enc':=(File.enc false)) (File.ro true) _) ?_
     refine wM [(6,iv 8)] [(0,.box [rr 1 a2.Files,iv a2.Budget,iv a2.Writes,iv a2.Stop,bv a2.Down]),(1,rE 2 (File.enc false) a2.Files)] (by kernel_rfl) ?_
     refine yX 0 (cs':=[so 2 (File.enc false) a2.Files,iv a2.Budget,iv a2.Writes,iv a2.Stop,bv a2.Down]) (ts:=[1]) rfl (.move (.head _) (List.length_map _) (by decide) (.keep rfl (.keep rfl (.keep rfl (.keep rfl (.nil)))))) ?_
     refine wM [(6,iv 8)] [(0,.box [so 2 (File.enc false) a2.Files,iv a2.Budget,iv a2.Writes,iv a2.Stop,bv a2.Down])] (by kernel_rfl) ?_
     exact zN rfl
    ·refine J_d 508 [] [9,43,51] [(51,bv (decide ((w64 ((a2.Files.length:Int)+x14.2))>120)))] [] [] zB ?_
     refine zF 51 (fun h19=>?_) (fun h19=>?_)
     ·refine J_g 2036 [] [(6,iv 2)] [(0,.box [rr 1 a2.Files,iv a2.Budget,iv a2.Writes,iv a2.Stop,bv a2.Down]),(1,rE 2 (File.enc true) a2.Files)] zB ?_
      refine wM [(6,iv 2)] [(1,rE 2 (File.enc true) a2.Files),(0,.box [rr 1 a2.Files,iv a2.Budget,iv a2.Writes,iv a2.Stop,bv a2.Down])] (by kernel_rfl) ?_
      refine zMs 1 (zEf (enc:=(File.enc true)) (enc':=(File.enc false)) (File.ro true) _) ?_
      refine wM [(6,iv 2)] [(0,.box [rr 1 a2.Files,iv a2.Budget,iv a2.Writes,iv a2.Stop,bv a2.Down]),(1,rE 2 (File.enc false) a2.Files)] (by kernel_rfl) ?_
      refine yX 0 (cs':=[so 2 (File.enc false) a2.Files,iv a2.Budget,iv a2.Writes,iv a2.Stop,bv a2.Down]) (ts:=[1]) rfl (.move (.head _) (List.length_map _) (by decide) (.keep rfl (.keep rfl (.keep rfl (.keep rfl (.nil)))))) ?_
      refine wM [(6,iv 2)] [(0,.box [so 2 (File.enc false) a2.Files,iv a2.Budget,iv a2.Writes,iv a2.Stop,bv a2.Down])] (by kernel_rfl) ?_
      exact zN rfl
     ·refine yX 0 (cs':=[so 2 (File.enc true) a2.Files,iv a2.Budget,iv a2.Writes,iv a2.Stop,bv a2.Down]) (ts:=[1]) rfl (.move (.head _) (List.length_map _) (by decide) (.keep rfl (.keep rfl (.keep rfl (.keep rfl (.nil)))))) ?_
      refine wM [(0,sl 8 (Pack.enc false) a1),(1,pp 0),(2,sl 1 zK a3),(7,iv x11),(51,bv false)] [(0,.box (zC.enc true a2))] (by kernel_rfl) ?_
      refine zA (fun x20 h21=>?_)
      refine J_g 510 [] [(0,sl 8 (Pack.enc false) a1),(1,pp 0),(2,sl 1 zK a3),(7,iv x11),(10,rr 1 x20)] [(0,.box (zC.enc true a2)),(1,rE 1 zK x20)] (zD 3 (zEU [(0,.box (zC.enc true a2))] [(1,rE 1 zK x20)] (vX («as»:=[sl 8 (Pack.enc false) a1,pp 0,sl 1 zK a3]) [(.tmp 52),(.tmp 53),(.tmp 54)] [53,75,49] false [(0,.box (zC.enc true a2))] [0] (.cons (.same rfl) (.cons (.pt rfl) (.cons (.same rfl) (.nil)))) (zE4.ok a1 a2 a3) h21 (.own 1))) zB) ?_
      refine yI 0 (cs':=[rr 2 a2.Files,iv a2.Budget,iv a2.Writes,iv a2.Stop,bv a2.Down]) (es:=[(2,rE 2 (File.enc true) a2.Files)]) rfl (.cons (.own 2) (.cons (.same rfl rfl) (.cons (.same rfl rfl) (.cons (.same rfl rfl) (.cons (.same rfl rfl) (.nil)))))) rfl (by kernel_rfl) (by kernel_rfl) ?_
      refine wM [(0,sl 8 (Pack.enc false) a1),(1,pp 0),(2,sl 1 zK a3),(7,iv x11),(10,rr 1 x20)] [(0,.box [rr 2 a2.Files,iv a2.Budget,iv a2.Writes,iv a2.Stop,bv a2.Down]),(1,rE 1 zK x20),(2,rE 2 (File.enc true) a2.Files)] (by kernel_rfl) ?_
      refine J_d 2044 [] [11] [(11,iv 0)] [] [] zB ?_
      refine wM [(0,sl 8 (Pack.enc false) a1),(1,pp 0),(2,sl 1 zK a3),(7,iv x11),(10,rr 1 x20),(11,iv 0)] [(2,rE 2 (File.enc true) a2.Files),(0,.box [rr 2 a2.Files,iv a2.Budget,iv a2.Writes,iv a2.Stop,bv a2.Down]),(1,rE 1 zK x20)] (by kernel_rfl) ?_
      refine zMs 2 (zEf (enc:=(File.enc true)) (enc':=(File.enc false)) (File.ro true) _) ?_
      refine wM [(0,sl 8 (Pack.enc false) a1),(1,pp 0),(2,sl 1 zK a3),(7,iv x11),(10,rr 1 x20),(11,iv 0)] [(0,.box [rr 2 a2.Files,iv a2.Budget,iv a2.Writes,iv a2.Stop,bv a2.Down]),(1,rE 1 zK x20),(2,rE 2 (File.enc false) a2.Files)] (by kernel_rfl) ?_
      refine uZ (K0:=(fun r:(Int×zC)=>some (iv r.1,[.box [so 2 (File.enc false) r.2.Files,iv r.2.Budget,iv r.2.Writes,iv r.2.Stop,bv r.2.Down]]))) (fun _=>rfl) (zH3.ok a1 a3 x11 x20 q _ (fun v71=>J_j ?_) (a2.Files,a2.Budget,a2.Writes,a2.Stop,a2.Down,0))
      refine zA (fun x72 h73=>?_)
      refine zA (fun x74 h75=>?_)
      refine yX 0 (cs':=[so 2 (File.enc false) v71.1,iv v71.2.1,iv v71.2.2.1,iv v71.2.2.2.1,bv v71.2.2.2.2]) (ts:=[2]) rfl (.move (.head _) (List.length_map _) (by decide) (.keep rfl (.keep rfl (.keep rfl (.keep rfl (.nil)))))) ?_
      refine wM [(0,sl 8 (Pack.enc false) a1),(1,pp 0),(2,sl 1 zK a3),(7,iv x11)] [(0,.box [so 2 (File.enc false) v71.1,iv v71.2.1,iv v71.2.2.1,iv v71.2.2.2.1,bv v71.2.2.2.2])] (by kernel_rfl) ?_
      refine zA (fun x76 h77=>?_)
      refine J_g 4092 [] [(1,pp 0),(7,iv x11),(13,iv x76.1)] [(0,.box [so 2 (File.enc false) x76.2.Files,iv x76.2.Budget,iv x76.2.Writes,iv x76.2.Stop,bv x76.2.Down])] (zD 2 (xR [(.tmp 84)] [2] (tY.ok x11) h73) (zD 5 (xR [(.tmp 86),(.tmp 87)] [53,49] (kR.ok a1 a3) h75) (zD 6 (zOV (s:=x74) 9 22 5 (.tmp 88)) (zD 7 (vX («as»:=[pp 0,sv x72,sl 1 eU8 (s2b x74)]) [(.tmp 83),(.tmp 85),(.tmp 89)] [75,9,22] false [(0,.box [so 2 (File.enc false) v71.1,iv v71.2.1,iv v71.2.2.1,iv v71.2.2.2.1,bv v71.2.2.2.2])] [0] (.cons (.pt rfl) (.cons (.same rfl) (.cons (.same rfl) (.nil)))) (zG5.ok ({Files:=v71.1,Budget:=v71.2.1,Writes:=v71.2.2.1,Stop:=v71.2.2.2.1,Down:=v71.2.2.2.2}:zC) x72 (s2b x74)) h77 (.same rfl rfl)) zB)))) ?_
      refine yI 0 (cs':=[rr 1 x76.2.Files,iv x76.2.Budget,iv x76.2.Writes,iv x76.2.Stop,bv x76.2.Down]) (es:=[(1,rE 2 (File.enc false) x76.2.Files)]) rfl (.cons (.own 1) (.cons (.same rfl rfl) (.cons (.same rfl rfl) (.cons (.same rfl rfl) (.cons (.same rfl rfl) (.nil)))))) rfl (by kernel_rfl) (by kernel_rfl) ?_
      refine wM [(1,pp 0),(7,iv x11),(13,iv x76.1)] [(0,.box [rr 1 x76.2.Files,iv x76.2.Budget,iv x76.2.Writes,iv x76.2.Stop,bv x76.2.Down]),(1,rE 2 (File.enc false) x76.2.Files)] (by kernel_rfl) ?_
      refine J_d 8186 [] [92] [(92,bv (x76.1 !=0))] [] [] zB ?_
      refine zF 92 (fun h78=>?_) (fun h78=>?_)
      ·refine J_g 32748 [] [(6,iv x76.1)] [(0,.box [rr 1 x76.2.Files,iv x76.2.Budget,iv x76.2.Writes,iv x76.2.Stop,bv x76.2.Down]),(1,rE 2 (File.enc false) x76.2.Files)] zB ?_
       refine yX 0 (cs':=[so 2 (File.enc false) x76.2.Files,iv x76.2.Budget,iv x76.2.Writes,iv x76.2.Stop,bv x76.2.Down]) (ts:=[1]) rfl (.move (.head _) (List.length_map _) (by decide) (.keep rfl (.keep rfl (.keep rfl (.keep rfl (.nil)))))) ?_
       refine wM [(6,iv x76.1)] [(0,.box [so 2 (File.enc false) x76.2.Files,iv x76.2.Budget,iv x76.2.Writes,iv x76.2.Stop,bv x76.2.Down])] (by kernel_rfl) ?_
       exact zN rfl
      ·refine zA (fun x79 h80=>?_)
       refine yX 0 (cs':=[so 2 (File.enc false) x76.2.Files,iv x76.2.Budget,iv x76.2.Writes,iv x76.2.Stop,bv x76.2.Down]) (ts:=[1]) rfl (.move (.head _) (List.length_map _) (by decide) (.keep rfl (.keep rfl (.keep rfl (.keep rfl (.nil)))))) ?_
       refine wM [(1,pp 0),(7,iv x11),(13,iv x76.1),(92,bv false)] [(0,.box [so 2 (File.enc false) x76.2.Files,iv x76.2.Budget,iv x76.2.Writes,iv x76.2.Stop,bv x76.2.Down])] (by kernel_rfl) ?_
       refine zA (fun x81 h82=>?_)
       refine J_g 4094 [] [(6,iv x81.1)] [(0,.box [so 2 (File.enc false) x81.2.Files,iv x81.2.Budget,iv x81.2.Writes,iv x81.2.Stop,bv x81.2.Down])] (zD 2 (xR [(.tmp 95)] [2] (xG.ok x11) h80) (zD 3 (zOV (s:=x79) 9 22 5 (.tmp 96)) (zD 4 (vX («as»:=[pp 0,sv (bs [99,117,114]),sl 1 eU8 (s2b x79)]) [(.tmp 94),(.const (.string (bs [99,117,114]))),(.tmp 97)] [75,9,22] false [(0,.box [so 2 (File.enc false) x76.2.Files,iv x76.2.Budget,iv x76.2.Writes,iv x76.2.Stop,bv x76.2.Down])] [0] (.cons (.pt rfl) (.cons (.same rfl) (.cons (.same rfl) (.nil)))) (zG5.ok x76.2 (bs [99,117,114]) (s2b x79)) h82 (.same rfl rfl)) zB))) ?_
       refine yI 0 (cs':=[rr 1 x81.2.Files,iv x81.2.Budget,iv x81.2.Writes,iv x81.2.Stop,bv x81.2.Down]) (es:=[(1,rE 2 (File.enc false) x81.2.Files)]) rfl (.cons (.own 1) (.cons (.same rfl rfl) (.cons (.same rfl rfl) (.cons (.same rfl rfl) (.cons (.same rfl rfl) (.nil)))))) rfl (by kernel_rfl) (by kernel_rfl) ?_
       refine wM [(6,iv x81.1)] [(0,.box [rr 1 x81.2.Files,iv x81.2.Budget,iv x81.2.Writes,iv x81.2.Stop,bv x81.2.Down]),(1,rE 2 (File.enc false) x81.2.Files)] (by kernel_rfl) ?_
       refine yX 0 (cs':=[so 2 (File.enc false) x81.2.Files,iv x81.2.Budget,iv x81.2.Writes,iv x81.2.Stop,bv x81.2.Down]) (ts:=[1]) rfl (.move (.head _) (List.length_map _) (by decide) (.keep rfl (.keep rfl (.keep rfl (.keep rfl (.nil)))))) ?_
       refine wM [(6,iv x81.1)] [(0,.box [so 2 (File.enc false) x81.2.Files,iv x81.2.Budget,iv x81.2.Writes,iv x81.2.Stop,bv x81.2.Down])] (by kernel_rfl) ?_
       exact zN rfl
 ·refine wL (fun h6=>?_) (fun h6=>?_)
  ·refine J_d 12 [] [23] [(23,bv true)] [] [] (zD 2 (xR [(.tmp 14),(.tmp 15)] [53,49] (zDG.ok a1 a3) h5) (xX 4 [(17,bv (!x4))] [] h6 zB)) ?_
   exact xD (J_j (jv9 true)) rfl
  ·refine zA (fun x7 h8=>?_)
   refine J_d 12 [] [23] [(23,bv (!x7))] [] [] (zD 2 (xR [(.tmp 14),(.tmp 15)] [53,49] (zDG.ok a1 a3) h5) (xX 4 [(17,bv (!x4))] [] h6 (zBV 7 4 18 false (xR [(.tmp 19),(.tmp 20)] [53,49] (zDy.ok a1 a3) h8) zB))) ?_
   exact xD (J_j (jv9 (!x7))) rfl
noncomputable def c53:Code:=(Tryz.f53.body).getD .skip
theorem zKm.ok (a1:zC) (a2:Int):Ok Tryz.prog 53 [.ag [rr 0 a1.Files,iv a1.Budget,iv a1.Writes,iv a1.Stop,bv a1.Down],iv a2] [rE 2 (File.enc false) a1.Files] ((zEF a1 a2).map fun r=>(.ag [iv r.Code,so 2 (File.enc false) r.zC.Files,iv r.zC.Budget,iv r.zC.Writes,iv r.zC.Stop,bv r.zC.Down],[])):=by
 refine zG c53 Tryz.f53 1 16 (fun q=>?_)
 unfold zEF
 refine J_d 2 [(0,1),(1,2)] [0,2,4] [(2,pp 1),(4,pp 2)] [1,2] [(1,.box [rr 0 a1.Files,iv a1.Budget,iv a1.Writes,iv a1.Stop,bv a1.Down]),(2,.box [iv 0,nv,iv 0,iv 0,iv 0,bv false])] zB ?_
 refine wB (atI c53 13) (fun v4:Bool=>St.mk' [(1,iv a2),(2,pp 1),(4,pp 2),(10,bv v4)] [(0,rE 2 (File.enc false) a1.Files),(1,.box [rr 0 a1.Files,iv a1.Budget,iv a1.Writes,iv a1.Stop,bv a1.Down]),(2,.box [iv 0,nv,iv 0,iv 0,iv 0,bv false])]) (fun v4=>?_) (fun jv4=>?_)
 ·refine zF 10 (fun h5=>?_) (fun h5=>?_)
  ·refine J_g 52 [] [(4,pp 2)] [(0,rE 2 (File.enc false) a1.Files),(2,.box [iv a2,nv,iv 0,iv 0,iv 0,bv false])] zB ?_
   exact zEH (ds:=[.ag [iv a2,nv,iv 0,iv 0,iv 0,bv false]]) (ds':=[.ag [iv a2,so 2 (File.enc false) ([]:List File),iv 0,iv 0,iv 0,bv false]]) (.cons (.ag (.keep rfl (.nilsl true 2 (.keep rfl (.keep rfl (.keep rfl (.keep rfl (.nil)))))))) (.nil) (by decide)) rfl
  ·refine J_g 14 [] [(4,pp 2)] [(0,rE 2 (File.enc false) a1.Files),(2,.box [iv a2,rr 0 a1.Files,iv a1.Budget,iv a1.Writes,iv a1.Stop,bv a1.Down])] zB ?_
   exact zEH (ds:=[.ag [iv a2,rr 0 a1.Files,iv a1.Budget,iv a1.Writes,iv a1.Stop,bv a1.Down]]) (ds':=[.ag [iv a2,so 2 (File.enc false) a1.Files,iv a1.Budget,iv a1.Writes,iv a1.Stop,bv a1.Down]]) (.cons (.ag (.keep rfl (.move (.head _) (List.length_map _) (by decide) (.keep rfl (.keep rfl (.keep rfl (.keep rfl (.nil)))))))) (.nil) (by decide)) rfl
 ·refine wL (fun h3=>?_) (fun h3=>?_)
  ·refine J_d 12 [] [10] [(10,bv (a2 !=9))] [] [] (xX 2 [(6,bv (a2 !=0))] [] h3 zB) ?_
   exact xD (J_j (jv4 (a2 !=9))) rfl
  ·refine J_d 12 [] [10] [(10,bv false)] [] [] (xX 2 [(6,bv (a2 !=0))] [] h3 zB) ?_
   exact xD (J_j (jv4 false)) rfl
noncomputable def c16:Code:=(Tryz.f16.body).getD .skip
theorem zAE.ok (a1:(List Pack)) (a2:zC) (a3:(List Int)):Ok Tryz.prog 16 [sl 8 (Pack.enc false) a1,.ag (zC.enc false a2),sl 1 zK a3] [] ((zAE a1 a2 a3).map fun r=>(.ag [iv r.Code,so 2 (File.enc false) r.zC.Files,iv r.zC.Budget,iv r.zC.Writes,iv r.zC.Stop,bv r.zC.Down],[])):=by
 refine zG c16 Tryz.f16 0 25 (fun q=>?_)
 unfold zAE
 refine J_d 2 [(0,0),(1,1)] [1,4,6] [(4,pp 0),(6,pp 1)] [0,1] [(0,.box (zC.enc false a2)),(1,.box [iv 0,nv,iv 0,iv 0,iv 0,bv false])] zB ?_
 refine zA (fun x4 h5=>?_)
 refine J_g 12 [] [(0,sl 8 (Pack.enc false) a1),(2,sl 1 zK a3),(4,pp 0),(6,pp 1),(7,iv x4)] [(0,.box (zC.enc false a2)),(1,.box [iv 0,nv,iv 0,iv 0,iv 0,bv false])] (zD 2 (xR [(.tmp 10),(.tmp 11)] [53,29] (zCh.ok a1 a2) h5) zB) ?_
 refine J_d 26 [] [14] [(14,bv (x4 !=0))] [] [] zB ?_
 refine zF 14 (fun h6=>?_) (fun h6=>?_)
 ·refine J_g 108 [] [(6,pp 1)] [(1,.box [iv x4,nv,iv 0,iv 0,iv 0,bv false])] zB ?_
  exact zEH (ds:=[.ag [iv x4,nv,iv 0,iv 0,iv 0,bv false]]) (ds':=[.ag [iv x4,so 2 (File.enc false) ([]:List File),iv 0,iv 0,iv 0,bv false]]) (.cons (.ag (.keep rfl (.nilsl true 2 (.keep rfl (.keep rfl (.keep rfl (.keep rfl (.nil)))))))) (.nil) (by decide)) rfl
 ·refine zA (fun x7 h8=>?_)
  refine J_g 14 [(2,3)] [(0,sl 8 (Pack.enc false) a1),(2,sl 1 zK a3),(6,pp 1),(8,pp 3)] [(1,.box [iv 0,nv,iv 0,iv 0,iv 0,bv false]),(2,rE 2 (File.enc true) x7.Files),(3,.box [rr 2 x7.Files,iv x7.Budget,iv x7.Writes,iv x7.Stop,bv x7.Down])] (zD 1 (vX («as»:=[.ag (zC.enc false a2)]) [(.tmp 17)] [29] false [] [] (.cons (.same rfl) (.nil)) (zB2.ok a2) h8 (.ag (.cons (.own 2) (.cons (.same rfl rfl) (.cons (.same rfl rfl) (.cons (.same rfl rfl) (.cons (.same rfl rfl) (.nil)))))))) zB) ?_
  refine yX 3 (cs':=[so 2 (File.enc true) x7.Files,iv x7.Budget,iv x7.Writes,iv x7.Stop,bv x7.Down]) (ts:=[2]) rfl (.move (.tail _ (.head _)) (List.length_map _) (by decide) (.keep rfl (.keep rfl (.keep rfl (.keep rfl (.nil)))))) ?_
  refine wM [(0,sl 8 (Pack.enc false) a1),(2,sl 1 zK a3),(6,pp 1),(8,pp 3)] [(1,.box [iv 0,nv,iv 0,iv 0,iv 0,bv false]),(3,.box (zC.enc true x7))] (by kernel_rfl) ?_
  refine zA (fun x9 h10=>?_)
  refine J_g 30 [] [(6,pp 1),(8,pp 3),(9,iv x9.1)] [(1,.box [iv 0,nv,iv 0,iv 0,iv 0,bv false]),(3,.box [so 2 (File.enc false) x9.2.Files,iv x9.2.Budget,iv x9.2.Writes,iv x9.2.Stop,bv x9.2.Down])] (zD 2 (vX («as»:=[sl 8 (Pack.enc false) a1,pp 3,sl 1 zK a3]) [(.tmp 19),(.tmp 8),(.tmp 20)] [53,75,49] false [(3,.box (zC.enc true x7))] [3] (.cons (.same rfl) (.cons (.pt rfl) (.cons (.same rfl) (.nil)))) (zJs.ok a1 x7 a3) h10 (.same rfl rfl)) zB) ?_
  refine yI 3 (cs':=[rr 4 x9.2.Files,iv x9.2.Budget,iv x9.2.Writes,iv x9.2.Stop,bv x9.2.Down]) (es:=[(4,rE 2 (File.enc false) x9.2.Files)]) rfl (.cons (.own 4) (.cons (.same rfl rfl) (.cons (.same rfl rfl) (.cons (.same rfl rfl) (.cons (.same rfl rfl) (.nil)))))) rfl (by kernel_rfl) (by kernel_rfl) ?_
  refine wM [(6,pp 1),(8,pp 3),(9,iv x9.1)] [(1,.box [iv 0,nv,iv 0,iv 0,iv 0,bv false]),(3,.box [rr 4 x9.2.Files,iv x9.2.Budget,iv x9.2.Writes,iv x9.2.Stop,bv x9.2.Down]),(4,rE 2 (File.enc false) x9.2.Files)] (by kernel_rfl) ?_
  refine zA (fun x11 h12=>?_)
  refine J_g 62 [] [(6,pp 1)] [(1,.box [iv x11.Code,rr 5 x11.zC.Files,iv x11.zC.Budget,iv x11.zC.Writes,iv x11.zC.Stop,bv x11.zC.Down]),(5,rE 2 (File.enc false) x11.zC.Files)] (zD 2 (vX («as»:=[.ag [rr 4 x9.2.Files,iv x9.2.Budget,iv x9.2.Writes,iv x9.2.Stop,bv x9.2.Down],iv x9.1]) [(.tmp 22),(.tmp 23)] [29,2] false [(4,rE 2 (File.enc false) x9.2.Files)] [4] (.cons (.ag (.cons (.rf rfl) (.cons (.same rfl) (.cons (.same rfl) (.cons (.same rfl) (.cons (.same rfl) (.nil))))))) (.cons (.same rfl) (.nil))) (zKm.ok x9.2 x9.1) h12 (.ag (.cons (.same rfl rfl) (.cons (.own 5) (.cons (.same rfl rfl) (.cons (.same rfl rfl) (.cons (.same rfl rfl) (.cons (.same rfl rfl) (.nil))))))))) zB) ?_
  exact zEH (ds:=[.ag [iv x11.Code,rr 5 x11.zC.Files,iv x11.zC.Budget,iv x11.zC.Writes,iv x11.zC.Stop,bv x11.zC.Down]]) (ds':=[.ag [iv x11.Code,so 2 (File.enc false) x11.zC.Files,iv x11.zC.Budget,iv x11.zC.Writes,iv x11.zC.Stop,bv x11.zC.Down]]) (.cons (.ag (.keep rfl (.move (.tail _ (.head _)) (List.length_map _) (by decide) (.keep rfl (.keep rfl (.keep rfl (.keep rfl (.nil)))))))) (.nil) (by decide)) rfl
noncomputable def zSa:Code:=(Tryz.f151.body).getD .skip
theorem xZ.ok (a1:Int):Ok Tryz.prog 151 [uv a1] [] ((xZ a1).map fun r=>(bv r,[])):=by
 refine zG zSa Tryz.f151 0 21 (fun q=>?_)
 unfold xZ
 refine J_g 2 [] [(0,uv a1)] [] zB ?_
 refine wL (fun h2=>?_) (fun h2=>?_)
 ·refine wL (fun h3=>?_) (fun h3=>?_)
  ·refine J_g 6 [] [(2,bv true)] [] (xX 2 [(4,bv (decide (a1≥97)))] [] h2 (xX 6 [(8,bv (decide (a1≤122)))] [] h3 (zFG 9 (zF7 (i:=9) (g:=6) (t:=9) (b:=false) (v:=(.bool true)) (.inl rfl) (by kernel_rfl) (by kernel_rfl)) (zFG 10 (zF7 (i:=10) (g:=9) (t:=12) (b:=true) (v:=undef) (.inr rfl) (by kernel_rfl) (by kernel_rfl)) (zFG 11 (zF7 (i:=11) (g:=9) (t:=12) (b:=true) (v:=undef) (.inr rfl) (by kernel_rfl) (by kernel_rfl)) zB))))) ?_
   exact zN rfl
  ·refine wL (fun h4=>?_) (fun h4=>?_)
   ·refine wL (fun h5=>?_) (fun h5=>?_)
    ·refine J_g 6 [] [(2,bv true)] [] (xX 2 [(4,bv (decide (a1≥97)))] [] h2 (xX 6 [(8,bv (decide (a1≤122)))] [] h3 (zGN 9 6 9 false [(11,bv (decide (a1≥48)))] [] h4 (xX 14 [(16,bv (decide (a1≤57)))] [] h5 zB)))) ?_
     exact zN rfl
    ·refine J_g 6 [] [(2,bv (a1==95))] [] (xX 2 [(4,bv (decide (a1≥97)))] [] h2 (xX 6 [(8,bv (decide (a1≤122)))] [] h3 (zGN 9 6 9 false [(11,bv (decide (a1≥48)))] [] h4 (xX 14 [(16,bv (decide (a1≤57)))] [] h5 zB)))) ?_
     exact zN rfl
   ·refine J_g 6 [] [(2,bv (a1==95))] [] (xX 2 [(4,bv (decide (a1≥97)))] [] h2 (xX 6 [(8,bv (decide (a1≤122)))] [] h3 (zGN 9 6 9 false [(11,bv (decide (a1≥48)))] [] h4 zB))) ?_
    exact zN rfl
 ·refine wL (fun h6=>?_) (fun h6=>?_)
  ·refine wL (fun h7=>?_) (fun h7=>?_)
   ·refine J_g 6 [] [(2,bv true)] [] (xX 2 [(4,bv (decide (a1≥97)))] [] h2 (zGN 9 6 9 false [(11,bv (decide (a1≥48)))] [] h6 (xX 14 [(16,bv (decide (a1≤57)))] [] h7 zB))) ?_
    exact zN rfl
   ·refine J_g 6 [] [(2,bv (a1==95))] [] (xX 2 [(4,bv (decide (a1≥97)))] [] h2 (zGN 9 6 9 false [(11,bv (decide (a1≥48)))] [] h6 (xX 14 [(16,bv (decide (a1≤57)))] [] h7 zB))) ?_
    exact zN rfl
  ·refine J_g 6 [] [(2,bv (a1==95))] [] (xX 2 [(4,bv (decide (a1≥97)))] [] h2 (zGN 9 6 9 false [(11,bv (decide (a1≥48)))] [] h6 zB)) ?_
   exact zN rfl
noncomputable def zQn:Code:=(Tryz.f136.body).getD .skip
theorem kF.ok (a1:ByteArray) (q:Wd) (kn:Unit→Option (D×List Ent)) (hk:∀v:Unit,J (q.g Tryz.prog 136 0 33) zQn (atI zQn 15) (St.mk' [] []) (some v) kn):
  ∀s17:Int,J (q.g Tryz.prog 136 0 33) zQn (atI zQn 116) (St.mk' [(0,sv a1),(23,iv (a1.size:Int)),(24,iv s17)] []) (kF a1 s17) (Fl.go (fun r:Int=>some (iv r,[])) kn):=by
 refine jL (fun g ih s17=>?_)
 unfold zBU
 refine J_d 232 [] [25] [(25,bv (decide (s17< (a1.size:Int))))] [] [] zB ?_
 refine zF 25 (fun h18=>?_) (fun h18=>?_)
 ·refine J_d 3736 [] [3,25] [(3,iv s17)] [] [] zB ?_
  refine zA (fun x19 h20=>?_)
  refine zA (fun x21 h22=>?_)
  refine J_d 7474 [] [3,31] [(31,bv (!x21))] [] [] (zD 2 (zKR (kk:=.i64) 9 (.tmp 27) (.tmp 28) h20) (zD 3 (xR [(.tmp 29)] [5] (xZ.ok x19) h22) zB)) ?_
  refine zF 31 (fun h23=>?_) (fun h23=>?_)
  ·refine J_g 29900 [] [(2,iv 5)] [] zB ?_
   exact zN rfl
  ·refine J_d 935 [] [24,31] [(24,iv (w64 (s17+1)))] [] [] zB ?_
   exact J_q (J_b (ih (w64 (s17+1)))) rfl
 ·exact xD (hk ()) rfl
theorem vG.ok (a1:ByteArray):Ok Tryz.prog 136 [sv a1] [] ((vG a1).map fun r=>(iv r,[])):=by
 refine zG zQn Tryz.f136 0 33 (fun q=>?_)
 unfold vG
 refine J_g 2 [] [(0,sv a1)] [] zB ?_
 refine wB (atI zQn 13) (fun v9:Bool=>St.mk' [(0,sv a1),(21,bv v9)] []) (fun v9=>?_) (fun jv9=>?_)
 ·refine zF 21 (fun h10=>?_) (fun h10=>?_)
  ·refine J_g 52 [] [(2,iv 5)] [] zB ?_
   exact zN rfl
  ·refine J_g 28 [] [(0,sv a1),(23,iv (a1.size:Int)),(24,iv 0)] [] zB ?_
   refine uZ (K0:=(fun r:Int=>some (iv r,[]))) (fun _=>rfl) (kF.ok a1 q _ (fun v24=>J_j ?_) 0)
   refine J_g 30 [] [(2,iv 0)] [] zB ?_
   exact zN rfl
 ·refine wL (fun h2=>?_) (fun h2=>?_)
  ·refine J_g 12 [] [(0,sv a1),(21,bv true)] [] (xX 3 [(6,bv (decide ((a1.size:Int)<1)))] [] h2 zB) ?_
   exact xD (J_j (jv9 true)) rfl
  ·refine wL (fun h3=>?_) (fun h3=>?_)
   ·refine J_g 12 [] [(0,sv a1),(21,bv true)] [] (xX 3 [(6,bv (decide ((a1.size:Int)<1)))] [] h2 (xX 8 [(11,bv (decide ((a1.size:Int)>12)))] [] h3 zB)) ?_
    exact xD (J_j (jv9 true)) rfl
   ·refine zA (fun x4 h5=>?_)
    refine wL (fun h6=>?_) (fun h6=>?_)
    ·refine J_g 12 [] [(0,sv a1),(21,bv true)] [] (xX 3 [(6,bv (decide ((a1.size:Int)<1)))] [] h2 (xX 8 [(11,bv (decide ((a1.size:Int)>12)))] [] h3 (zBV 10 8 12 false (zKR (kk:=.i64) 9 (.tmp 13) (.const (.int .i64 0)) h5) (xX 13 [(16,bv (decide (x4<97)))] [] h6 zB)))) ?_
     exact xD (J_j (jv9 true)) rfl
    ·refine zA (fun x7 h8=>?_)
     refine J_g 12 [] [(0,sv a1),(21,bv (decide (x7>122)))] [] (xX 3 [(6,bv (decide ((a1.size:Int)<1)))] [] h2 (xX 8 [(11,bv (decide ((a1.size:Int)>12)))] [] h3 (zBV 10 8 12 false (zKR (kk:=.i64) 9 (.tmp 13) (.const (.int .i64 0)) h5) (xX 13 [(16,bv (decide (x4<97)))] [] h6 (zBV 15 13 17 false (zKR (kk:=.i64) 9 (.tmp 18) (.const (.int .i64 0)) h8) zB))))) ?_
     exact xD (J_j (jv9 (decide (x7>122)))) rfl
noncomputable def c34:Code:=(Tryz.f34.body).getD .skip
theorem xL.ok (a1:Int) (a2:Int) (a3:Int):Ok Tryz.prog 34 [iv a1,iv a2,iv a3] [] ((xL a1 a2 a3).map fun r=>(bv r,[])):=by
 refine zG c34 Tryz.f34 0 15 (fun q=>?_)
 unfold xL
 refine J_d 2 [] [] [] [] [] zB ?_
 refine wL (fun h4=>?_) (fun h4=>?_)
 ·refine J_g 6 [] [(6,bv (decide (a1≤a3)))] [] (xX 3 [(9,bv (decide (a2≤a1)))] [] h4 zB) ?_
  exact zN rfl
 ·refine J_g 6 [] [(6,bv false)] [] (xX 3 [(9,bv (decide (a2≤a1)))] [] h4 zB) ?_
  exact zN rfl
noncomputable def zRG:Code:=(Tryz.f137.body).getD .skip
theorem wF.ok (a1:Version):Ok Tryz.prog 137 [.ag (Version.enc a1)] [] ((wF a1).map fun r=>(iv r,[])):=by
 refine zG zRG Tryz.f137 0 19 (fun q=>?_)
 unfold wF
 refine J_g 2 [(0,0)] [(1,pp 0)] [(0,.box (Version.enc a1))] zB ?_
 refine zA (fun x2 h3=>?_)
 refine wB (atI zRG 13) (fun v10:Bool=>St.mk' [(18,bv v10)] []) (fun v10=>?_) (fun jv10=>?_)
 ·refine zF 18 (fun h11=>?_) (fun h11=>?_)
  ·refine J_g 52 [] [(2,iv 3)] [] zB ?_
   exact zN rfl
  ·refine J_g 14 [] [(2,iv 0)] [] zB ?_
   exact zN rfl
 ·refine wL (fun h4=>?_) (fun h4=>?_)
  ·refine J_g 12 [] [(18,bv true)] [] (zD 2 (xR [(.tmp 4),(.const (.int .i64 0)),(.const (.int .i64 999))] [2,2,2] (xL.ok a1.A 0 999) h3) (xX 4 [(6,bv (!x2))] [] h4 zB)) ?_
   exact xD (J_j (jv10 true)) rfl
  ·refine zA (fun x5 h6=>?_)
   refine wL (fun h7=>?_) (fun h7=>?_)
   ·refine J_g 12 [] [(18,bv true)] [] (zD 2 (xR [(.tmp 4),(.const (.int .i64 0)),(.const (.int .i64 999))] [2,2,2] (xL.ok a1.A 0 999) h3) (xX 4 [(6,bv (!x2))] [] h4 (zBV 7 4 7 false (xR [(.tmp 9),(.const (.int .i64 0)),(.const (.int .i64 999))] [2,2,2] (xL.ok a1.B 0 999) h6) (xX 10 [(12,bv (!x5))] [] h7 zB)))) ?_
    exact xD (J_j (jv10 true)) rfl
   ·refine zA (fun x8 h9=>?_)
    refine J_g 12 [] [(18,bv (!x8))] [] (zD 2 (xR [(.tmp 4),(.const (.int .i64 0)),(.const (.int .i64 999))] [2,2,2] (xL.ok a1.A 0 999) h3) (xX 4 [(6,bv (!x2))] [] h4 (zBV 7 4 7 false (xR [(.tmp 9),(.const (.int .i64 0)),(.const (.int .i64 999))] [2,2,2] (xL.ok a1.B 0 999) h6) (xX 10 [(12,bv (!x5))] [] h7 (zBV 13 10 13 false (xR [(.tmp 15),(.const (.int .i64 0)),(.const (.int .i64 999))] [2,2,2] (xL.ok a1.C 0 999) h9) zB))))) ?_
    exact xD (J_j (jv10 (!x8))) rfl
noncomputable def c208:Code:=(Tryz.f208.body).getD .skip
theorem zBm.ok (a1:(List Int)) (q:Wd) (kn:Unit→Option (D×List Ent)) (hk:∀v:Unit,J (q.g Tryz.prog 208 0 15) c208 (atI c208 7) (St.mk' [] []) (some v) kn):
  ∀s6:Int,J (q.g Tryz.prog 208 0 15) c208 (atI c208 52) (St.mk' [(5,sl 1 zK a1),(6,iv (a1.length:Int)),(7,iv s6)] []) (zBm a1 s6) (Fl.go (fun r:Int=>some (iv r,[])) kn):=by
 refine jL (fun g ih s6=>?_)
 unfold zAr
 refine J_d 104 [] [8] [(8,bv (decide (s6< (a1.length:Int))))] [] [] zB ?_
 refine zF 8 (fun h7=>?_) (fun h7=>?_)
 ·refine zA (fun x8 h9=>?_)
  refine J_g 1688 [] [(4,iv x8),(5,sl 1 zK a1),(6,iv (a1.length:Int)),(7,iv s6)] [] (zD 0 (vR (kk:=.i64) 49 2 1 zK (.tmp 5) (.tmp 7) h9) zB) ?_
  refine J_d 3378 [] [12] [(12,bv (x8 !=0))] [] [] zB ?_
  refine zF 12 (fun h10=>?_) (fun h10=>?_)
  ·refine J_g 13516 [] [(2,iv x8)] [] zB ?_
   exact zN rfl
  ·refine J_d 423 [] [4,7,12] [(7,iv (w64 (s6+1)))] [] [] zB ?_
   exact J_q (J_b (ih (w64 (s6+1)))) rfl
 ·exact xD (hk ()) rfl
theorem zAY.ok (a1:(List Int)):Ok Tryz.prog 208 [sl 1 zK a1] [] ((zAY a1).map fun r=>(iv r,[])):=by
 refine zG c208 Tryz.f208 0 15 (fun q=>?_)
 unfold zAY
 refine J_g 2 [] [(0,sl 1 zK a1)] [] zB ?_
 refine J_g 12 [] [(5,sl 1 zK a1),(6,iv (a1.length:Int)),(7,iv 0)] [] zB ?_
 refine uZ (K0:=(fun r:Int=>some (iv r,[]))) (fun _=>rfl) (zBm.ok a1 q _ (fun v11=>J_j ?_) 0)
 refine J_g 14 [] [(2,iv 0)] [] zB ?_
 exact zN rfl
noncomputable def c210:Code:=(Tryz.f210.body).getD .skip
theorem zAm.ok (a1:(List Term)):Ok Tryz.prog 210 [sl 7 Term.enc a1] [] ((zAm a1).map fun r=>(bv r,[])):=by
 refine zG c210 Tryz.f210 0 6 (fun q=>?_)
 unfold zAm
 refine J_g 2 [] [(0,sl 7 Term.enc a1)] [] zB ?_
 refine J_g 6 [] [(2,bv (decide ((a1.length:Int)>4)))] [] zB ?_
 exact zN rfl
noncomputable def zQK:Code:=(Tryz.f243.body).getD .skip
theorem yK.ok (a1:(List (List Term))) (q:Wd) (kn:Unit→Option (D×List Ent)) (hk:∀v:Unit,J (q.g Tryz.prog 243 0 19) zQK (atI zQK 7) (St.mk' [] []) (some v) kn):
  ∀s8:Int,J (q.g Tryz.prog 243 0 19) zQK (atI zQK 52) (St.mk' [(0,sl 1 (eSl false 7 Term.enc) a1),(1,.fn 210 []),(7,iv (a1.length:Int)),(8,iv s8)] []) (yK a1 s8) (Fl.go (fun r:Int=>some (iv r,[])) kn):=by
 refine jL (fun g ih s8=>?_)
 unfold yG
 refine J_d 104 [] [9] [(9,bv (decide (s8< (a1.length:Int))))] [] [] zB ?_
 refine zF 9 (fun h9=>?_) (fun h9=>?_)
 ·refine J_d 1688 [] [5,9] [(5,iv s8)] [] [] zB ?_
  refine zA (fun x10 h11=>?_)
  refine zA (fun x12 h13=>?_)
  refine J_d 3378 [] [16] [(16,bv x12)] [] [] (zD 3 (vR (kk:=.i64) 100 24 1 (eSl false 7 Term.enc) (.tmp 12) (.tmp 13) h11) (zD 5 (zPC («as»:=[sl 7 Term.enc x10]) (caps:=[]) 11 [(.tmp 15)] [24] (zAm.ok x10) h13) zB)) ?_
  refine zF 16 (fun h14=>?_) (fun h14=>?_)
  ·refine J_g 13516 [] [(4,iv s8)] [] zB ?_
   exact zN rfl
  ·refine J_d 423 [] [5,8,16] [(8,iv (w64 (s8+1)))] [] [] zB ?_
   exact J_q (J_b (ih (w64 (s8+1)))) rfl
 ·exact xD (hk ()) rfl
theorem yB.ok (a1:(List (List Term))):Ok Tryz.prog 243 [sl 1 (eSl false 7 Term.enc) a1,.fn 210 []] [] ((yB a1).map fun r=>(iv r,[])):=by
 refine zG zQK Tryz.f243 0 19 (fun q=>?_)
 unfold yB
 refine J_g 2 [] [(0,sl 1 (eSl false 7 Term.enc) a1),(1,.fn 210 [])] [] zB ?_
 refine J_d 12 [] [7,8] [(7,iv (a1.length:Int)),(8,iv 0)] [] [] zB ?_
 refine uZ (K0:=(fun r:Int=>some (iv r,[]))) (fun _=>rfl) (yK.ok a1 q _ (fun v15=>J_j ?_) 0)
 refine J_g 14 [] [(4,iv (-1))] [] zB ?_
 exact zN rfl
noncomputable def zSp:Code:=(Tryz.f209.body).getD .skip
theorem zO.ok (a1:(List (List Term))):Ok Tryz.prog 209 [sl 1 (eSl false 7 Term.enc) a1,.fn 210 []] [] ((zO a1).map fun r=>(bv r,[])):=by
 refine zG zSp Tryz.f209 0 9 (fun q=>?_)
 unfold zO
 refine J_d 2 [] [] [] [] [] zB ?_
 refine zA (fun x2 h3=>?_)
 refine J_g 6 [] [(4,bv (decide (x2≥0)))] [] (zD 2 (vX («as»:=[sl 1 (eSl false 7 Term.enc) a1,.fn 210 []]) [(.tmp 5),(.tmp 6)] [100,135] false [] [] (.cons (.same rfl) (.cons (.fn (.nil)) (.nil))) (yB.ok a1) h3 (.same rfl rfl)) zB) ?_
 exact zN rfl
noncomputable def zQq:Code:=(Tryz.f244.body).getD .skip
theorem uD.ok (a1:(List ByteArray)) (a2:ByteArray) (q:Wd) (kn:Unit→Option (D×List Ent)) (hk:∀v:Unit,J (q.g Tryz.prog 244 0 19) zQq (atI zQq 7) (St.mk' [] []) (some v) kn):
  ∀s7:Int,J (q.g Tryz.prog 244 0 19) zQq (atI zQq 52) (St.mk' [(0,sl 1 eStr a1),(1,sv a2),(7,iv (a1.length:Int)),(8,iv s7)] []) (uD a1 a2 s7) (Fl.go (fun r:Int=>some (iv r,[])) kn):=by
 refine jL (fun g ih s7=>?_)
 unfold vV
 refine J_d 104 [] [9] [(9,bv (decide (s7< (a1.length:Int))))] [] [] zB ?_
 refine zF 9 (fun h8=>?_) (fun h8=>?_)
 ·refine J_d 1688 [] [5,9] [(5,iv s7)] [] [] zB ?_
  refine zA (fun x9 h10=>?_)
  refine J_d 3378 [] [16] [(16,bv (seq a2 x9))] [] [] (zD 3 (vR (kk:=.i64) 90 9 1 eStr (.tmp 12) (.tmp 13) h10) zB) ?_
  refine zF 16 (fun h11=>?_) (fun h11=>?_)
  ·refine J_g 13516 [] [(4,iv s7)] [] zB ?_
   exact zN rfl
  ·refine J_d 423 [] [5,8,16] [(8,iv (w64 (s7+1)))] [] [] zB ?_
   exact J_q (J_b (ih (w64 (s7+1)))) rfl
 ·exact xD (hk ()) rfl
theorem uM.ok (a1:(List ByteArray)) (a2:ByteArray):Ok Tryz.prog 244 [sl 1 eStr a1,sv a2] [] ((uM a1 a2).map fun r=>(iv r,[])):=by
 refine zG zQq Tryz.f244 0 19 (fun q=>?_)
 unfold uM
 refine J_g 2 [] [(0,sl 1 eStr a1),(1,sv a2)] [] zB ?_
 refine J_d 12 [] [7,8] [(7,iv (a1.length:Int)),(8,iv 0)] [] [] zB ?_
 refine uZ (K0:=(fun r:Int=>some (iv r,[]))) (fun _=>rfl) (uD.ok a1 a2 q _ (fun v12=>J_j ?_) 0)
 refine J_g 14 [] [(4,iv (-1))] [] zB ?_
 exact zN rfl
noncomputable def zRO:Code:=(Tryz.f211.body).getD .skip
theorem wP.ok (a1:(List ByteArray)) (a2:ByteArray):Ok Tryz.prog 211 [sl 1 eStr a1,sv a2] [] ((wP a1 a2).map fun r=>(bv r,[])):=by
 refine zG zRO Tryz.f211 0 9 (fun q=>?_)
 unfold wP
 refine J_d 2 [] [] [] [] [] zB ?_
 refine zA (fun x3 h4=>?_)
 refine J_g 6 [] [(4,bv (decide (x3≥0)))] [] (zD 2 (xR [(.tmp 5),(.tmp 6)] [90,9] (uM.ok a1 a2) h4) zB) ?_
 exact zN rfl
noncomputable def c73:Code:=(Tryz.f73.body).getD .skip
theorem zFx.ok:Ok Tryz.prog 73 [] [] ((zFx).map fun r=>(.ag (Version.enc r),[])):=by
 refine zG c73 Tryz.f73 0 2 (fun q=>?_)
 unfold zFx
 refine J_g 2 [(0,0)] [(0,pp 0)] [(0,.box [iv 0,iv 0,iv 0])] zB ?_
 refine J_g 6 [] [(0,pp 0)] [(0,.box [iv 1000,iv 0,iv 0])] zB ?_
 exact zN rfl
noncomputable def zRU:Code:=(Tryz.f225.body).getD .skip
theorem jB.ok (a1:Int):Ok Tryz.prog 225 [iv a1] [] ((jB a1).map fun r=>(bv r,[])):=by
 refine zG zRU Tryz.f225 0 6 (fun q=>?_)
 unfold jB
 refine J_g 2 [] [(0,iv a1)] [] zB ?_
 refine J_g 6 [] [(2,bv (a1 !=a1))] [] zB ?_
 exact zN rfl
noncomputable def zRP:Code:=(Tryz.f188.body).getD .skip
theorem wJ.ok (a1:Int) (a2:Int):Ok Tryz.prog 188 [iv a1,iv a2] [] ((wJ a1 a2).map fun r=>(iv r,[])):=by
 refine zG zRP Tryz.f188 0 20 (fun q=>?_)
 unfold wJ
 refine J_d 2 [] [] [] [] [] zB ?_
 refine zA (fun x3 h4=>?_)
 refine J_d 6 [] [5] [(5,bv x3)] [] [] (zD 1 (xR [(.tmp 7)] [2] (jB.ok a1) h4) zB) ?_
 refine zA (fun x5 h6=>?_)
 refine J_g 14 [] [(0,iv a1),(1,iv a2),(5,bv x3),(6,bv x5)] [] (zD 1 (xR [(.tmp 9)] [2] (jB.ok a2) h6) zB) ?_
 refine J_d 60 [] [5,11] [(11,bv x3)] [] [] zB ?_
 refine zF 11 (fun h7=>?_) (fun h7=>?_)
 ·refine J_g 488 [] [(12,bv x5)] [] zB ?_
  refine zF 12 (fun h8=>?_) (fun h8=>?_)
  ·refine J_g 1956 [] [(4,iv 0)] [] zB ?_
   exact zN rfl
  ·refine J_g 490 [] [(4,iv (-1))] [] zB ?_
   exact zN rfl
 ·refine J_g 124 [] [(0,iv a1),(1,iv a2),(13,bv x5)] [] zB ?_
  refine zF 13 (fun h9=>?_) (fun h9=>?_)
  ·refine J_g 500 [] [(4,iv 1)] [] zB ?_
   exact zN rfl
  ·refine J_d 252 [] [13,16] [(16,bv (decide (a1<a2)))] [] [] zB ?_
   refine zF 16 (fun h10=>?_) (fun h10=>?_)
   ·refine J_g 1012 [] [(4,iv (-1))] [] zB ?_
    exact zN rfl
   ·refine J_g 508 [] [(19,bv (decide (a1>a2)))] [] zB ?_
    refine zF 19 (fun h11=>?_) (fun h11=>?_)
    ·refine J_g 2036 [] [(4,iv 1)] [] zB ?_
     exact zN rfl
    ·refine J_g 510 [] [(4,iv 0)] [] zB ?_
     exact zN rfl
noncomputable def zQY:Code:=(Tryz.f187.body).getD .skip
theorem zDM.ok (a1:(List Int)) (q:Wd) (kn:Unit→Option (D×List Ent)) (hk:∀v:Unit,J (q.g Tryz.prog 187 0 18) zQY (atI zQY 15) (St.mk' [(3,iv 0)] []) (some v) kn):
  ∀s6:Int,J (q.g Tryz.prog 187 0 18) zQY (atI zQY 116) (St.mk' [(3,iv 0),(6,sl 1 zK a1),(7,iv (a1.length:Int)),(8,iv s6)] []) (zDM a1 s6) (Fl.go (fun r:Int=>some (iv r,[])) kn):=by
 refine jL (fun g ih s6=>?_)
 unfold zDf
 refine J_d 232 [] [9] [(9,bv (decide (s6< (a1.length:Int))))] [] [] zB ?_
 refine zF 9 (fun h7=>?_) (fun h7=>?_)
 ·refine zA (fun x8 h9=>?_)
  refine J_g 3736 [] [(3,iv 0),(5,iv x8),(6,sl 1 zK a1),(7,iv (a1.length:Int)),(8,iv s6)] [] (zD 0 (vR (kk:=.i64) 245 3 1 zK (.tmp 6) (.tmp 8) h9) zB) ?_
  refine J_d 7474 [] [14] [(14,bv (x8 !=0))] [] [] zB ?_
  refine zF 14 (fun h10=>?_) (fun h10=>?_)
  ·refine J_g 29900 [] [(2,iv x8)] [] zB ?_
   exact zN rfl
  ·refine J_d 935 [] [5,8,14] [(8,iv (w64 (s6+1)))] [] [] zB ?_
   exact J_q (J_b (ih (w64 (s6+1)))) rfl
 ·exact xD (hk ()) rfl
theorem zE1.ok (a1:(List Int)):Ok Tryz.prog 187 [sl 1 zK a1] [] ((zE1 a1).map fun r=>(iv r,[])):=by
 refine zG zQY Tryz.f187 0 18 (fun q=>?_)
 unfold zE1
 refine J_g 2 [] [(0,sl 1 zK a1)] [] zB ?_
 refine J_g 6 [] [(0,sl 1 zK a1),(3,iv 0)] [] zB ?_
 refine J_g 28 [] [(3,iv 0),(6,sl 1 zK a1),(7,iv (a1.length:Int)),(8,iv 0)] [] zB ?_
 refine uZ (K0:=(fun r:Int=>some (iv r,[]))) (fun _=>rfl) (zDM.ok a1 q _ (fun v11=>J_j ?_) 0)
 refine J_g 30 [] [(2,iv 0)] [] zB ?_
 exact zN rfl
noncomputable def c138:Code:=(Tryz.f138.body).getD .skip
theorem uQ.ok (a1:Version) (a2:Version):Ok Tryz.prog 138 [.ag (Version.enc a1),.ag (Version.enc a2)] [] ((uQ a1 a2).map fun r=>(iv r,[])):=by
 refine zG c138 Tryz.f138 0 22 (fun q=>?_)
 unfold uQ
 refine J_g 2 [(0,0),(1,1)] [(2,pp 0),(3,pp 1)] [(0,.box (Version.enc a1)),(1,.box (Version.enc a2))] zB ?_
 refine zA (fun x3 h4=>?_)
 refine zA (fun x5 h6=>?_)
 refine zA (fun x7 h8=>?_)
 refine zA (fun x9 h10=>?_)
 refine J_g 6 [] [(4,iv x9)] [] (zD 4 (xR [(.tmp 6),(.tmp 8)] [2,2] (wJ.ok a1.A a2.A) h4) (zD 9 (xR [(.tmp 11),(.tmp 13)] [2,2] (wJ.ok a1.B a2.B) h6) (zD 14 (xR [(.tmp 16),(.tmp 18)] [2,2] (wJ.ok a1.C a2.C) h8) (zD 15 (zFm 245 3 1 2 zK [x3,x5,x7] [0,1,2] [(.tmp 9),(.tmp 14),(.tmp 19)] [iv x3,iv x5,iv x7]) (zD 16 (vX («as»:=[rr 2 [x3,x5,x7]]) [(.tmp 20)] [245] true [(2,rE 1 zK [x3,x5,x7])] [] (.cons (zFA (.head _) (fun _=>rfl) rfl) (.nil)) (zE1.ok [x3,x5,x7]) h10 (.same rfl rfl) (hbor:=fun _=>⟨fhN,xQ⟩)) zB))))) ?_
 exact zN rfl
noncomputable def c71:Code:=(Tryz.f71.body).getD .skip
theorem zAV.ok (a1:Term):Ok Tryz.prog 71 [.ag (Term.enc a1)] [] ((zAV a1).map fun r=>(iv r,[])):=by
 refine zG c71 Tryz.f71 0 35 (fun q=>?_)
 unfold zAV
 refine J_g 2 [(0,0)] [(1,pp 0)] [(0,.box (Term.enc a1))] zB ?_
 refine zA (fun x2 h3=>?_)
 refine J_g 12 [] [(1,pp 0),(3,iv x2)] [(0,.box (Term.enc a1))] (zD 2 (xR [(.tmp 6)] [9] (vG.ok a1.Name) h3) zB) ?_
 refine J_d 26 [] [9] [(9,bv (x2 !=0))] [] [] zB ?_
 refine zF 9 (fun h4=>?_) (fun h4=>?_)
 ·refine J_g 108 [] [(2,iv x2)] [] zB ?_
  exact zN rfl
 ·refine zA (fun x5 h6=>?_)
  refine J_g 28 [] [(1,pp 0),(4,iv x5)] [(0,.box (Term.enc a1))] (zD 2 (xR [(.tmp 12)] [39] (wF.ok a1.Low) h6) zB) ?_
  refine J_d 58 [] [15] [(15,bv (x5 !=0))] [] [] zB ?_
  refine zF 15 (fun h7=>?_) (fun h7=>?_)
  ·refine J_g 236 [] [(2,iv x5)] [] zB ?_
   exact zN rfl
  ·refine zA (fun x8 h9=>?_)
   refine wB (atI c71 121) (fun v13:Bool=>St.mk' [(1,pp 0),(17,bv v13)] [(0,.box (Term.enc a1))]) (fun v13=>?_) (fun jv13=>?_)
   ·refine zF 17 (fun h14=>?_) (fun h14=>?_)
    ·refine J_g 484 [] [(2,iv 3)] [] zB ?_
     exact zN rfl
    ·refine zA (fun x15 h16=>?_)
     refine J_g 486 [] [(28,bv (decide (x15≥0)))] [] (zD 4 (xR [(.tmp 30),(.tmp 32)] [39,39] (uQ.ok a1.Low a1.High) h16) zB) ?_
     refine zF 28 (fun h17=>?_) (fun h17=>?_)
     ·refine J_g 1948 [] [(2,iv 1)] [] zB ?_
      exact zN rfl
     ·refine J_g 62 [] [(2,iv 0)] [] zB ?_
      exact zN rfl
   ·refine wL (fun h10=>?_) (fun h10=>?_)
    ·refine zA (fun x11 h12=>?_)
     refine J_d 120 [] [4,15,17] [(17,bv (x11 !=0))] [] [] (zD 2 (xR [] [] (zFx.ok) h9) (zD 3 (zN5 (b:=.neq) (r:=(a1.High.A==x8.A&&(a1.High.B==x8.B&&(a1.High.C==x8.C&&true)))) 39 39 (.tmp 19) (.tmp 20) [.int .i64 a1.High.A,.int .i64 a1.High.B,.int .i64 a1.High.C] [.int .i64 x8.A,.int .i64 x8.B,.int .i64 x8.C] (.inr ⟨rfl,rfl⟩)) (xX 4 [(21,bv (!(a1.High.A==x8.A&&(a1.High.B==x8.B&&(a1.High.C==x8.C&&true)))))] [] h10 (zBV 7 4 22 true (xR [(.tmp 24)] [39] (wF.ok a1.High) h12) zB)))) ?_
     exact xD (J_j (jv13 (x11 !=0))) rfl
    ·refine J_d 120 [] [4,15,17] [(17,bv false)] [] [] (zD 2 (xR [] [] (zFx.ok) h9) (zD 3 (zN5 (b:=.neq) (r:=(a1.High.A==x8.A&&(a1.High.B==x8.B&&(a1.High.C==x8.C&&true)))) 39 39 (.tmp 19) (.tmp 20) [.int .i64 a1.High.A,.int .i64 a1.High.B,.int .i64 a1.High.C] [.int .i64 x8.A,.int .i64 x8.B,.int .i64 x8.C] (.inr ⟨rfl,rfl⟩)) (xX 4 [(21,bv (!(a1.High.A==x8.A&&(a1.High.B==x8.B&&(a1.High.C==x8.C&&true)))))] [] h10 zB))) ?_
     exact xD (J_j (jv13 false)) rfl
noncomputable def c32:Code:=(Tryz.f32.body).getD .skip
theorem zA9.ok (a1:(List Term)) (q:Wd) (kn:Unit→Option (D×List Ent)) (hk:∀v:Unit,J (q.g Tryz.prog 32 0 18) c32 (atI c32 7) (St.mk' [] []) (some v) kn):
  ∀s8:Int,J (q.g Tryz.prog 32 0 18) c32 (atI c32 52) (St.mk' [(6,sl 7 Term.enc a1),(7,iv (a1.length:Int)),(8,iv s8)] []) (zA9 a1 s8) (Fl.go (fun r:Int=>some (iv r,[])) kn):=by
 refine jL (fun g ih s8=>?_)
 unfold kK
 refine J_d 104 [] [9] [(9,bv (decide (s8< (a1.length:Int))))] [] [] zB ?_
 refine zF 9 (fun h9=>?_) (fun h9=>?_)
 ·refine zA (fun x10 h11=>?_)
  refine J_d 1688 [(2,0)] [4,9] [(4,pp 0)] [0] [(0,.box (Term.enc x10))] (zD 0 (vR (kk:=.i64) 24 41 7 Term.enc (.tmp 6) (.tmp 8) h11) zB) ?_
  refine zA (fun x12 h13=>?_)
  refine J_g 3378 [] [(5,iv x12),(6,sl 7 Term.enc a1),(7,iv (a1.length:Int)),(8,iv s8)] [] (zD 1 (xR [(.tmp 12)] [41] (zAV.ok x10) h13) zB) ?_
  refine J_d 6758 [] [15] [(15,bv (x12 !=0))] [] [] zB ?_
  refine zF 15 (fun h14=>?_) (fun h14=>?_)
  ·refine J_g 27036 [] [(2,iv x12)] [] zB ?_
   exact zN rfl
  ·refine J_d 423 [] [5,8,15] [(8,iv (w64 (s8+1)))] [] [] zB ?_
   exact J_q (J_b (ih (w64 (s8+1)))) rfl
 ·exact xD (hk ()) rfl
theorem vL.ok (a1:(List Term)):Ok Tryz.prog 32 [sl 7 Term.enc a1] [] ((vL a1).map fun r=>(iv r,[])):=by
 refine zG c32 Tryz.f32 0 18 (fun q=>?_)
 unfold vL
 refine J_g 2 [] [(0,sl 7 Term.enc a1)] [] zB ?_
 refine J_g 12 [] [(6,sl 7 Term.enc a1),(7,iv (a1.length:Int)),(8,iv 0)] [] zB ?_
 refine uZ (K0:=(fun r:Int=>some (iv r,[]))) (fun _=>rfl) (zA9.ok a1 q _ (fun v15=>J_j ?_) 0)
 refine J_g 14 [] [(2,iv 0)] [] zB ?_
 exact zN rfl
noncomputable def zMX:Code:=(Tryz.f176.body).getD .skip
theorem jY.ok (a1:Pack) (q:Wd) (kn:Unit→Option (D×List Ent)) (hk:∀v:Unit,J (q.g Tryz.prog 176 0 93) zMX (atI zMX 63) (St.mk' [(1,pp 0)] [(0,.box (Pack.enc false a1))]) (some v) kn):
  ∀s54:Int,J (q.g Tryz.prog 176 0 93) zMX (atI zMX 500) (St.mk' [(1,pp 0),(75,sl 1 (eSl false 7 Term.enc) a1.Needs),(76,iv (a1.Needs.length:Int)),(77,iv s54)] [(0,.box (Pack.enc false a1))]) (jY a1 s54) (Fl.go (fun r:Int=>some (iv r,[])) kn):=by
 refine jL (fun g ih s54=>?_)
 unfold zA6
 refine J_d 1000 [] [78] [(78,bv (decide (s54< (a1.Needs.length:Int))))] [] [] zB ?_
 refine zF 78 (fun h55=>?_) (fun h55=>?_)
 ·refine zA (fun x56 h57=>?_)
  refine J_g 16024 [] [(1,pp 0),(8,sl 7 Term.enc x56),(75,sl 1 (eSl false 7 Term.enc) a1.Needs),(76,iv (a1.Needs.length:Int)),(77,iv s54)] [(0,.box (Pack.enc false a1))] (zD 0 (vR (kk:=.i64) 100 24 1 (eSl false 7 Term.enc) (.tmp 75) (.tmp 77) h57) zB) ?_
  refine J_d 64100 [] [83] [(83,bv ((x56.length:Int)==0))] [] [] zB ?_
  refine zF 83 (fun h58=>?_) (fun h58=>?_)
  ·refine J_g 256404 [] [(2,iv 1)] [] zB ?_
   exact zN rfl
  ·refine zA (fun x59 h60=>?_)
   refine J_g 64102 [] [(1,pp 0),(9,iv x59),(75,sl 1 (eSl false 7 Term.enc) a1.Needs),(76,iv (a1.Needs.length:Int)),(77,iv s54)] [(0,.box (Pack.enc false a1))] (zD 1 (xR [(.tmp 84)] [24] (vL.ok x56) h60) zB) ?_
   refine J_d 128206 [] [87] [(87,bv (x59 !=0))] [] [] zB ?_
   refine zF 87 (fun h61=>?_) (fun h61=>?_)
   ·refine J_g 512828 [] [(2,iv x59)] [] zB ?_
    exact zN rfl
   ·refine J_d 4007 [] [9,77,87] [(77,iv (w64 (s54+1)))] [] [] zB ?_
    exact J_q (J_b (ih (w64 (s54+1)))) rfl
 ·exact xD (hk ()) rfl
theorem jX.ok (a1:Pack) (q:Wd) (kn:Unit→Option (D×List Ent)) (hk:∀v:Unit,J (q.g Tryz.prog 176 0 93) zMX (atI zMX 31) (St.mk' [(1,pp 0)] [(0,.box (Pack.enc false a1))]) (some v) kn):
  ∀s32:Int,J (q.g Tryz.prog 176 0 93) zMX (atI zMX 244) (St.mk' [(1,pp 0),(49,sl 1 eStr a1.Provides),(50,iv (a1.Provides.length:Int)),(51,iv s32)] [(0,.box (Pack.enc false a1))]) (jX a1 s32) (Fl.go (fun r:Int=>some (iv r,[])) kn):=by
 refine jL (fun g ih s32=>?_)
 unfold zAD
 refine J_d 488 [] [52] [(52,bv (decide (s32< (a1.Provides.length:Int))))] [] [] zB ?_
 refine zF 52 (fun h33=>?_) (fun h33=>?_)
 ·refine zA (fun x34 h35=>?_)
  refine J_d 7832 [] [4,5,52] [(4,iv s32),(5,sv x34)] [] [] (zD 1 (vR (kk:=.i64) 90 9 1 eStr (.tmp 49) (.tmp 51) h35) zB) ?_
  refine zA (fun x36 h37=>?_)
  refine J_g 31332 [] [(1,pp 0),(4,iv s32),(5,sv x34),(6,iv x36),(49,sl 1 eStr a1.Provides),(50,iv (a1.Provides.length:Int)),(51,iv s32)] [(0,.box (Pack.enc false a1))] (zD 1 (xR [(.tmp 56)] [9] (vG.ok x34) h37) zB) ?_
  refine J_d 62666 [] [59] [(59,bv (x36 !=0))] [] [] zB ?_
  refine zF 59 (fun h38=>?_) (fun h38=>?_)
  ·refine J_g 250668 [] [(2,iv x36)] [] zB ?_
   exact zN rfl
  ·refine wB (atI zMX 31335) (fun v44:Bool=>St.mk' [(1,pp 0),(49,sl 1 eStr a1.Provides),(50,iv (a1.Provides.length:Int)),(51,iv s32),(72,bv v44)] [(0,.box (Pack.enc false a1))]) (fun v44=>?_) (fun jv44=>?_)
   ·refine zF 72 (fun h45=>?_) (fun h45=>?_)
    ·refine J_g 125340 [] [(2,iv 6)] [] zB ?_
     exact zN rfl
    ·refine J_d 1959 [] [51,72] [(51,iv (w64 (s32+1)))] [] [] zB ?_
     exact J_q (J_b (ih (w64 (s32+1)))) rfl
   ·refine wL (fun h39=>?_) (fun h39=>?_)
    ·refine J_d 31334 [] [4,5,6,59,72] [(72,bv true)] [] [] (xX 4 [(64,bv (seq x34 a1.Name))] [] h39 zB) ?_
     exact xD (J_j (jv44 true)) rfl
    ·refine zA (fun x40 h41=>?_)
     refine zA (fun x42 h43=>?_)
     refine J_d 31334 [] [4,5,6,59,72] [(72,bv x42)] [] [] (xX 4 [(64,bv (seq x34 a1.Name))] [] h39 (zBV 8 4 65 false (zQJ 90 9 1 eStr (.tmp 67) none (some (.tmp 68)) h41) (zBV 10 4 65 false (xR [(.tmp 69),(.tmp 70)] [90,9] (wP.ok x40 x34) h43) zB))) ?_
     exact xD (J_j (jv44 x42)) rfl
 ·exact xD (hk ()) rfl
theorem zAT.ok (a1:Pack):Ok Tryz.prog 176 [.ag (Pack.enc false a1)] [] ((zAT a1).map fun r=>(iv r,[])):=by
 refine zG zMX Tryz.f176 0 93 (fun q=>?_)
 unfold zAT
 refine J_g 2 [(0,0)] [(1,pp 0)] [(0,.box (Pack.enc false a1))] zB ?_
 refine zA (fun x2 h3=>?_)
 refine zA (fun x4 h5=>?_)
 refine zA (fun x6 h7=>?_)
 refine J_g 12 [] [(1,pp 0),(3,iv x6)] [(0,.box (Pack.enc false a1))] (zD 2 (xR [(.tmp 11)] [9] (vG.ok a1.Name) h3) (zD 5 (xR [(.tmp 14)] [39] (wF.ok a1.Version) h5) (zD 6 (zFm 49 2 1 1 zK [x2,x4] [0,1] [(.tmp 12),(.tmp 15)] [iv x2,iv x4]) (zD 7 (vX («as»:=[rr 1 [x2,x4]]) [(.tmp 16)] [49] true [(1,rE 1 zK [x2,x4])] [] (.cons (zFA (.head _) (fun _=>rfl) rfl) (.nil)) (zAY.ok [x2,x4]) h7 (.same rfl rfl) (hbor:=fun _=>⟨fhN,xQ⟩)) zB)))) ?_
 refine J_d 26 [] [19] [(19,bv (x6 !=0))] [] [] zB ?_
 refine zF 19 (fun h8=>?_) (fun h8=>?_)
 ·refine J_g 108 [] [(2,iv x6)] [] zB ?_
  exact zN rfl
 ·refine zA (fun x9 h10=>?_)
  refine J_d 56 [] [3,19,21] [(21,bv (!x9))] [] [] (zD 2 (xR [(.tmp 23),(.const (.int .i64 1)),(.const (.int .i64 200))] [2,2,2] (xL.ok a1.Size 1 200) h10) zB) ?_
  refine zF 21 (fun h11=>?_) (fun h11=>?_)
  ·refine J_g 228 [] [(2,iv 3)] [] zB ?_
   exact zN rfl
  ·refine wB (atI zMX 231) (fun v17:Bool=>St.mk' [(1,pp 0),(26,bv v17)] [(0,.box (Pack.enc false a1))]) (fun v17=>?_) (fun jv17=>?_)
   ·refine zF 26 (fun h18=>?_) (fun h18=>?_)
    ·refine J_g 924 [] [(2,iv 2)] [] zB ?_
     exact zN rfl
    ·refine J_d 60 [] [26,49,50,51] [(49,sl 1 eStr a1.Provides),(50,iv (a1.Provides.length:Int)),(51,iv 0)] [] [] zB ?_
     refine uZ (K0:=(fun r:Int=>some (iv r,[]))) (fun _=>rfl) (jX.ok a1 q _ (fun v46=>J_j ?_) 0)
     refine J_d 124 [] [75,76,77] [(75,sl 1 (eSl false 7 Term.enc) a1.Needs),(76,iv (a1.Needs.length:Int)),(77,iv 0)] [] [] zB ?_
     refine uZ (K0:=(fun r:Int=>some (iv r,[]))) (fun _=>rfl) (jY.ok a1 q _ (fun v62=>J_j ?_) 0)
     refine zA (fun x63 h64=>?_)
     refine J_g 126 [] [(2,iv x63)] [] (zD 2 (xR [(.tmp 91)] [24] (vL.ok a1.Bars) h64) zB) ?_
     exact zN rfl
   ·refine wL (fun h12=>?_) (fun h12=>?_)
    ·refine J_d 230 [] [21,26] [(26,bv true)] [] [] (xX 4 [(30,bv (decide ((a1.Provides.length:Int)>4)))] [] h12 zB) ?_
     exact xD (J_j (jv17 true)) rfl
    ·refine wL (fun h13=>?_) (fun h13=>?_)
     ·refine J_d 230 [] [21,26] [(26,bv true)] [] [] (xX 4 [(30,bv (decide ((a1.Provides.length:Int)>4)))] [] h12 (xX 10 [(36,bv (decide ((a1.Needs.length:Int)>4)))] [] h13 zB)) ?_
      exact xD (J_j (jv17 true)) rfl
     ·refine wL (fun h14=>?_) (fun h14=>?_)
      ·refine J_d 230 [] [21,26] [(26,bv true)] [] [] (xX 4 [(30,bv (decide ((a1.Provides.length:Int)>4)))] [] h12 (xX 10 [(36,bv (decide ((a1.Needs.length:Int)>4)))] [] h13 (xX 16 [(42,bv (decide ((a1.Bars.length:Int)>4)))] [] h14 zB))) ?_
       exact xD (J_j (jv17 true)) rfl
      ·refine zA (fun x15 h16=>?_)
       refine J_d 230 [] [21,26] [(26,bv x15)] [] [] (xX 4 [(30,bv (decide ((a1.Provides.length:Int)>4)))] [] h12 (xX 10 [(36,bv (decide ((a1.Needs.length:Int)>4)))] [] h13 (xX 16 [(42,bv (decide ((a1.Bars.length:Int)>4)))] [] h14 (zBV 19 16 43 false (vX («as»:=[sl 1 (eSl false 7 Term.enc) a1.Needs,.fn 210 []]) [(.tmp 45),(.func 210)] [100,135] false [] [] (.cons (.same rfl) (.cons (.fn (.nil)) (.nil))) (zO.ok a1.Needs) h16 (.same rfl rfl)) zB)))) ?_
       exact xD (J_j (jv17 x15)) rfl
noncomputable def c213:Code:=(Tryz.f213.body).getD .skip
theorem zEc.ok (a1:Pack) (a2:ByteArray) (a3:Version):Ok Tryz.prog 213 [.ag (Pack.enc false a1),pp 0,pp 1] [.box [sv a2],.box (Version.enc a3)] ((zEc a1 a2 a3).map fun r=>(bv r,[.box [sv a2],.box (Version.enc a3)])):=by
 refine zG c213 Tryz.f213 2 15 (fun q=>?_)
 unfold zEc
 refine J_d 2 [(0,2)] [0,3] [(3,pp 2)] [2] [(2,.box (Pack.enc false a1))] zB ?_
 refine wL (fun h4=>?_) (fun h4=>?_)
 ·refine J_d 6 [] [1,2,3,4] [(4,bv (a1.Version.A==a3.A&&(a1.Version.B==a3.B&&(a1.Version.C==a3.C&&true))))] [2] [] (xX 4 [(8,bv (seq a1.Name a2))] [] h4 (zBV 8 4 9 true (zN5 (b:=.eql) (r:=(a1.Version.A==a3.A&&(a1.Version.B==a3.B&&(a1.Version.C==a3.C&&true)))) 39 39 (.tmp 11) (.tmp 12) [.int .i64 a1.Version.A,.int .i64 a1.Version.B,.int .i64 a1.Version.C] [.int .i64 a3.A,.int .i64 a3.B,.int .i64 a3.C] (.inl ⟨rfl,rfl⟩)) zB)) ?_
  exact zN rfl
 ·refine J_d 6 [] [1,2,3,4] [(4,bv false)] [2] [] (xX 4 [(8,bv (seq a1.Name a2))] [] h4 zB) ?_
  exact zN rfl
noncomputable def c212:Code:=(Tryz.f212.body).getD .skip
theorem xK.ok (a1:(List Pack)) (a2:ByteArray) (a3:Version) (q:Wd) (kn:Unit→Option (D×List Ent)) (hk:∀v:Unit,J (q.g Tryz.prog 212 2 19) c212 (atI c212 7) (St.mk' [] [(0,.box [sv a2]),(1,.box (Version.enc a3))]) (some v) kn):
  ∀s10:Int,J (q.g Tryz.prog 212 2 19) c212 (atI c212 52) (St.mk' [(0,sl 8 (Pack.enc false) a1),(1,.fn 213 [pp 0,pp 1]),(7,iv (a1.length:Int)),(8,iv s10)] [(0,.box [sv a2]),(1,.box (Version.enc a3))]) (xK a1 a2 a3 s10) (Fl.go (fun r:Int=>some (iv r,[.box [sv a2],.box (Version.enc a3)])) kn):=by
 refine jL (fun g ih s10=>?_)
 unfold xE
 refine J_d 104 [] [9] [(9,bv (decide (s10< (a1.length:Int))))] [] [] zB ?_
 refine zF 9 (fun h11=>?_) (fun h11=>?_)
 ·refine J_d 1688 [] [5,9] [(5,iv s10)] [] [] zB ?_
  refine zA (fun x12 h13=>?_)
  refine zA (fun x14 h15=>?_)
  refine J_d 3378 [] [16] [(16,bv x14)] [] [] (zD 3 (vR (kk:=.i64) 53 102 8 (Pack.enc false) (.tmp 12) (.tmp 13) h13) (zD 5 (zEU [(0,.box [sv a2]),(1,.box (Version.enc a3))] [] (zI6 11 [(.tmp 15)] [102] false [(0,.box [sv a2]),(1,.box (Version.enc a3))] [0,1] [.ag (Pack.enc false x12)] [pp 0,pp 1] (.cons (.same rfl) (.cons (.pt rfl) (.cons (.pt rfl) (.nil)))) (zEc.ok x12 a2 a3) h15 (.same rfl rfl))) zB)) ?_
  refine zF 16 (fun h16=>?_) (fun h16=>?_)
  ·refine J_d 13516 [] [0,1,4,5,7,8,16] [(4,iv s10)] [] [] zB ?_
   exact zN rfl
  ·refine J_d 423 [] [5,8,16] [(8,iv (w64 (s10+1)))] [] [] zB ?_
   exact J_q (J_b (ih (w64 (s10+1)))) rfl
 ·exact xD (hk ()) rfl
theorem yY.ok (a1:(List Pack)) (a2:ByteArray) (a3:Version):Ok Tryz.prog 212 [sl 8 (Pack.enc false) a1,.fn 213 [pp 0,pp 1]] [.box [sv a2],.box (Version.enc a3)] ((yY a1 a2 a3).map fun r=>(iv r,[.box [sv a2],.box (Version.enc a3)])):=by
 refine zG c212 Tryz.f212 2 19 (fun q=>?_)
 unfold yY
 refine J_g 2 [] [(0,sl 8 (Pack.enc false) a1),(1,.fn 213 [pp 0,pp 1])] [(0,.box [sv a2]),(1,.box (Version.enc a3))] zB ?_
 refine J_d 12 [] [7,8] [(7,iv (a1.length:Int)),(8,iv 0)] [] [] zB ?_
 refine uZ (K0:=(fun r:Int=>some (iv r,[.box [sv a2],.box (Version.enc a3)]))) (fun _=>rfl) (xK.ok a1 a2 a3 q _ (fun v17=>J_j ?_) 0)
 refine J_d 14 [] [4] [(4,iv (-1))] [] [] zB ?_
 exact zN rfl
noncomputable def zRR:Code:=(Tryz.f177.body).getD .skip
theorem zEm.ok (a1:(List Pack)) (a2:ByteArray) (a3:Version):Ok Tryz.prog 177 [sl 8 (Pack.enc false) a1,sv a2,.ag (Version.enc a3)] [] ((zEm a1 a2 a3).map fun r=>(iv r,[])):=by
 refine zG zRR Tryz.f177 0 10 (fun q=>?_)
 unfold zEm
 refine J_d 2 [(0,0),(1,1)] [1,2,4,5] [(4,pp 0),(5,pp 1)] [0,1] [(0,.box [sv a2]),(1,.box (Version.enc a3))] zB ?_
 refine zA (fun x4 h5=>?_)
 refine J_g 6 [] [(6,iv x4)] [] (zD 2 (zEU [(0,.box [sv a2]),(1,.box (Version.enc a3))] [] (vX («as»:=[sl 8 (Pack.enc false) a1,.fn 213 [pp 0,pp 1]]) [(.tmp 7),(.tmp 8)] [53,239] false [(0,.box [sv a2]),(1,.box (Version.enc a3))] [0,1] (.cons (.same rfl) (.cons (.fn (.cons (.pt rfl) (.cons (.pt rfl) (.nil)))) (.nil))) (yY.ok a1 a2 a3) h5 (.same rfl rfl))) zB) ?_
 exact zN rfl
noncomputable def zQs:Code:=(Tryz.f118.body).getD .skip
theorem jO.ok (a1:(List Pack)) (q:Wd) (kn:Unit→Option (D×List Ent)) (hk:∀v:Unit,J (q.g Tryz.prog 118 0 31) zQs (atI zQs 15) (St.mk' [] []) (some v) kn):
  ∀s14:Int,J (q.g Tryz.prog 118 0 31) zQs (atI zQs 116) (St.mk' [(0,sl 8 (Pack.enc false) a1),(9,sl 8 (Pack.enc false) a1),(10,iv (a1.length:Int)),(11,iv s14)] []) (jO a1 s14) (Fl.go (fun r:Int=>some (iv r,[])) kn):=by
 refine jL (fun g ih s14=>?_)
 unfold tQ
 refine J_d 232 [] [12] [(12,bv (decide (s14< (a1.length:Int))))] [] [] zB ?_
 refine zF 12 (fun h15=>?_) (fun h15=>?_)
 ·refine zA (fun x16 h17=>?_)
  refine J_d 3736 [(3,0)] [3,4,12] [(3,iv s14),(4,pp 0)] [0] [(0,.box (Pack.enc false x16))] (zD 1 (vR (kk:=.i64) 53 102 8 (Pack.enc false) (.tmp 9) (.tmp 11) h17) zB) ?_
  refine zA (fun x18 h19=>?_)
  refine J_g 14948 [] [(0,sl 8 (Pack.enc false) a1),(3,iv s14),(4,pp 0),(5,iv x18),(9,sl 8 (Pack.enc false) a1),(10,iv (a1.length:Int)),(11,iv s14)] [(0,.box (Pack.enc false x16))] (zD 1 (xR [(.tmp 16)] [102] (zAT.ok x16) h19) zB) ?_
  refine J_d 29898 [] [19] [(19,bv (x18 !=0))] [] [] zB ?_
  refine zF 19 (fun h20=>?_) (fun h20=>?_)
  ·refine J_g 119596 [] [(2,iv x18)] [] zB ?_
   exact zN rfl
  ·refine zA (fun x21 h22=>?_)
   refine zA (fun x23 h24=>?_)
   refine J_d 14950 [] [3,4,5,19,29] [(29,bv (decide (x23≥0)))] [0] [] (zD 2 (zQJ 53 102 8 (Pack.enc false) (.tmp 21) none (some (.tmp 22)) h22) (zD 7 (xR [(.tmp 23),(.tmp 25),(.tmp 27)] [53,9,39] (zEm.ok x21 x16.Name x16.Version) h24) zB)) ?_
   refine zF 29 (fun h25=>?_) (fun h25=>?_)
   ·refine J_g 59804 [] [(2,iv 6)] [] zB ?_
    exact zN rfl
   ·refine J_d 935 [] [11,29] [(11,iv (w64 (s14+1)))] [] [] zB ?_
    exact J_q (J_b (ih (w64 (s14+1)))) rfl
 ·exact xD (hk ()) rfl
theorem vB.ok (a1:(List Pack)):Ok Tryz.prog 118 [sl 8 (Pack.enc false) a1] [] ((vB a1).map fun r=>(iv r,[])):=by
 refine zG zQs Tryz.f118 0 31 (fun q=>?_)
 unfold vB
 refine J_g 2 [] [(0,sl 8 (Pack.enc false) a1)] [] zB ?_
 refine J_d 12 [] [8] [(8,bv (decide ((a1.length:Int)>24)))] [] [] zB ?_
 refine zF 8 (fun h2=>?_) (fun h2=>?_)
 ·refine J_g 52 [] [(2,iv 2)] [] zB ?_
  exact zN rfl
 ·refine J_d 28 [] [8,9,10,11] [(9,sl 8 (Pack.enc false) a1),(10,iv (a1.length:Int)),(11,iv 0)] [] [] zB ?_
  refine uZ (K0:=(fun r:Int=>some (iv r,[]))) (fun _=>rfl) (jO.ok a1 q _ (fun v26=>J_j ?_) 0)
  refine J_g 30 [] [(2,iv 0)] [] zB ?_
  exact zN rfl
noncomputable def c82:Code:=(Tryz.f82.body).getD .skip
theorem jW.ok (a1:ByteArray) (q:Wd) (kn:Unit→Option (D×List Ent)) (hk:∀v:Unit,J (q.g Tryz.prog 82 0 37) c82 (atI c82 15) (St.mk' [] []) (some v) kn):
  ∀s15:Int,J (q.g Tryz.prog 82 0 37) c82 (atI c82 116) (St.mk' [(0,sv a1),(14,iv (a1.size:Int)),(15,iv s15)] []) (jW a1 s15) (Fl.go (fun r:Int=>some (iv r,[])) kn):=by
 refine jL (fun g ih s15=>?_)
 unfold zDL
 refine J_d 232 [] [16] [(16,bv (decide (s15< (a1.size:Int))))] [] [] zB ?_
 refine zF 16 (fun h16=>?_) (fun h16=>?_)
 ·refine J_d 3736 [] [3,16] [(3,iv s15)] [] [] zB ?_
  refine zA (fun x17 h18=>?_)
  refine J_d 7474 [] [3,4] [(4,uv x17)] [] [] (zD 2 (zKR (kk:=.i64) 9 (.tmp 18) (.tmp 19) h18) zB) ?_
  refine zA (fun x19 h20=>?_)
  refine wB (atI c82 14951) (fun v24:Bool=>St.mk' [(0,sv a1),(14,iv (a1.size:Int)),(15,iv s15),(35,bv v24)] []) (fun v24=>?_) (fun jv24=>?_)
  ·refine zF 35 (fun h25=>?_) (fun h25=>?_)
   ·refine J_g 59804 [] [(2,iv 5)] [] zB ?_
    exact zN rfl
   ·refine J_d 935 [] [15,35] [(15,iv (w64 (s15+1)))] [] [] zB ?_
    exact J_q (J_b (ih (w64 (s15+1)))) rfl
  ·refine wL (fun h21=>?_) (fun h21=>?_)
   ·refine wL (fun h22=>?_) (fun h22=>?_)
    ·refine wL (fun h23=>?_) (fun h23=>?_)
     ·refine J_d 14950 [] [4,35] [(35,bv (x17 !=47))] [] [] (zD 1 (xR [(.tmp 21)] [5] (xZ.ok x17) h20) (xX 3 [(23,bv (!x19))] [] h21 (xX 7 [(27,bv (x17 !=46))] [] h22 (xX 11 [(31,bv (x17 !=45))] [] h23 zB)))) ?_
      exact xD (J_j (jv24 (x17 !=47))) rfl
     ·refine J_d 14950 [] [4,35] [(35,bv false)] [] [] (zD 1 (xR [(.tmp 21)] [5] (xZ.ok x17) h20) (xX 3 [(23,bv (!x19))] [] h21 (xX 7 [(27,bv (x17 !=46))] [] h22 (xX 11 [(31,bv (x17 !=45))] [] h23 zB)))) ?_
      exact xD (J_j (jv24 false)) rfl
    ·refine J_d 14950 [] [4,35] [(35,bv false)] [] [] (zD 1 (xR [(.tmp 21)] [5] (xZ.ok x17) h20) (xX 3 [(23,bv (!x19))] [] h21 (xX 7 [(27,bv (x17 !=46))] [] h22 zB))) ?_
     exact xD (J_j (jv24 false)) rfl
   ·refine J_d 14950 [] [4,35] [(35,bv false)] [] [] (zD 1 (xR [(.tmp 21)] [5] (xZ.ok x17) h20) (xX 3 [(23,bv (!x19))] [] h21 zB)) ?_
    exact xD (J_j (jv24 false)) rfl
 ·exact xD (hk ()) rfl
theorem vY.ok (a1:ByteArray):Ok Tryz.prog 82 [sv a1] [] ((vY a1).map fun r=>(iv r,[])):=by
 refine zG c82 Tryz.f82 0 37 (fun q=>?_)
 unfold vY
 refine J_g 2 [] [(0,sv a1)] [] zB ?_
 refine wB (atI c82 13) (fun v3:Bool=>St.mk' [(0,sv a1),(12,bv v3)] []) (fun v3=>?_) (fun jv3=>?_)
 ·refine zF 12 (fun h4=>?_) (fun h4=>?_)
  ·refine J_g 52 [] [(2,iv 5)] [] zB ?_
   exact zN rfl
  ·refine J_g 28 [] [(0,sv a1),(14,iv (a1.size:Int)),(15,iv 0)] [] zB ?_
   refine uZ (K0:=(fun r:Int=>some (iv r,[]))) (fun _=>rfl) (jW.ok a1 q _ (fun v26=>J_j ?_) 0)
   refine J_g 30 [] [(2,iv 0)] [] zB ?_
   exact zN rfl
 ·refine wL (fun h2=>?_) (fun h2=>?_)
  ·refine J_g 12 [] [(0,sv a1),(12,bv true)] [] (xX 3 [(7,bv (decide ((a1.size:Int)<1)))] [] h2 zB) ?_
   exact xD (J_j (jv3 true)) rfl
  ·refine J_g 12 [] [(0,sv a1),(12,bv (decide ((a1.size:Int)>40)))] [] (xX 3 [(7,bv (decide ((a1.size:Int)<1)))] [] h2 zB) ?_
   exact xD (J_j (jv3 (decide ((a1.size:Int)>40)))) rfl
noncomputable def c83:Code:=(Tryz.f83.body).getD .skip
theorem zBY.ok (a1:zC) (q:Wd) (kn:Int→Option (D×List Ent)) (hk:∀v:Int,J (q.g Tryz.prog 83 0 20) c83 (atI c83 15) (St.mk' [(3,iv v)] []) (some v) kn):
  ∀s5:(Int×Int),J (q.g Tryz.prog 83 0 20) c83 (atI c83 116) (St.mk' [(3,iv s5.1),(7,sl 2 (File.enc false) a1.Files),(8,iv (a1.Files.length:Int)),(9,iv s5.2)] []) (zBY a1 s5) kn:=by
 refine jL (fun g ih s5=>?_)
 unfold zEG
 refine J_d 232 [] [10] [(10,bv (decide (s5.2< (a1.Files.length:Int))))] [] [] zB ?_
 refine zF 10 (fun h6=>?_) (fun h6=>?_)
 ·refine zA (fun x7 h8=>?_)
  refine J_g 3736 [(2,0)] [(3,iv s5.1),(5,pp 0),(7,sl 2 (File.enc false) a1.Files),(8,iv (a1.Files.length:Int)),(9,iv s5.2)] [(0,.box (File.enc false x7))] (zD 0 (vR (kk:=.i64) 27 124 2 (File.enc false) (.tmp 7) (.tmp 9) h8) zB) ?_
  refine J_g 3737 [] [(3,iv (w64 (s5.1+(x7.Data.length:Int)))),(7,sl 2 (File.enc false) a1.Files),(8,iv (a1.Files.length:Int)),(9,iv s5.2)] [] zB ?_
  refine J_d 935 [] [9] [(9,iv (w64 (s5.2+1)))] [] [] zB ?_
  exact J_q (J_b (ih (w64 (s5.1+(x7.Data.length:Int)),w64 (s5.2+1)))) rfl
 ·exact xD (hk s5.1) rfl
theorem wS.ok (a1:zC):Ok Tryz.prog 83 [.ag (zC.enc false a1)] [] ((wS a1).map fun r=>(iv r,[])):=by
 refine zG c83 Tryz.f83 0 20 (fun q=>?_)
 unfold wS
 refine J_g 2 [(0,0)] [(1,pp 0)] [(0,.box (zC.enc false a1))] zB ?_
 refine J_g 6 [] [(1,pp 0),(3,iv 0)] [(0,.box (zC.enc false a1))] zB ?_
 refine J_g 28 [] [(3,iv 0),(7,sl 2 (File.enc false) a1.Files),(8,iv (a1.Files.length:Int)),(9,iv 0)] [] zB ?_
 refine zE3 (zBY.ok a1 q _ (fun v9=>J_j ?_) (0,0))
 refine J_g 30 [] [(2,iv v9)] [] zB ?_
 exact zN rfl
noncomputable def c40:Code:=(Tryz.f40.body).getD .skip
theorem kG.ok (a1:zC) (q:Wd) (kn:Unit→Option (D×List Ent)) (hk:∀v:Unit,J (q.g Tryz.prog 40 0 68) c40 (atI c40 15) (St.mk' [(1,pp 0)] [(0,.box (zC.enc false a1))]) (some v) kn):
  ∀s25:Int,J (q.g Tryz.prog 40 0 68) c40 (atI c40 116) (St.mk' [(1,pp 0),(29,sl 2 (File.enc false) a1.Files),(30,iv (a1.Files.length:Int)),(31,iv s25)] [(0,.box (zC.enc false a1))]) (kG a1 s25) (Fl.go (fun r:Int=>some (iv r,[])) kn):=by
 refine jL (fun g ih s25=>?_)
 unfold zDW
 refine J_d 232 [] [32] [(32,bv (decide (s25< (a1.Files.length:Int))))] [] [] zB ?_
 refine zF 32 (fun h26=>?_) (fun h26=>?_)
 ·refine zA (fun x27 h28=>?_)
  refine J_d 3736 [(3,1)] [3,4,32] [(3,iv s25),(4,pp 1)] [1] [(1,.box (File.enc false x27))] (zD 1 (vR (kk:=.i64) 27 124 2 (File.enc false) (.tmp 29) (.tmp 31) h28) zB) ?_
  refine zA (fun x29 h30=>?_)
  refine J_g 14948 [] [(1,pp 0),(3,iv s25),(4,pp 1),(5,iv x29),(29,sl 2 (File.enc false) a1.Files),(30,iv (a1.Files.length:Int)),(31,iv s25)] [(0,.box (zC.enc false a1)),(1,.box (File.enc false x27))] (zD 2 (xR [(.tmp 37)] [9] (vY.ok x27.Path) h30) zB) ?_
  refine J_d 29898 [] [40] [(40,bv (x29 !=0))] [] [] zB ?_
  refine zF 40 (fun h31=>?_) (fun h31=>?_)
  ·refine J_g 119596 [] [(2,iv x29)] [] zB ?_
   exact zN rfl
  ·refine wB (atI c40 29901) (fun v35:Bool=>St.mk' [(1,pp 0),(4,pp 1),(29,sl 2 (File.enc false) a1.Files),(30,iv (a1.Files.length:Int)),(31,iv s25),(42,bv v35)] [(0,.box (zC.enc false a1)),(1,.box (File.enc false x27))]) (fun v35=>?_) (fun jv35=>?_)
   ·refine zF 42 (fun h36=>?_) (fun h36=>?_)
    ·refine J_g 119604 [] [(2,iv 1)] [] zB ?_
     exact zN rfl
    ·refine J_d 119606 [] [4,42,57] [(57,bv (decide ((x27.Data.length:Int)>4000)))] [1] [] zB ?_
     refine zF 57 (fun h37=>?_) (fun h37=>?_)
     ·refine J_g 478428 [] [(2,iv 2)] [] zB ?_
      exact zN rfl
     ·refine J_d 935 [] [31,57] [(31,iv (w64 (s25+1)))] [] [] zB ?_
      exact J_q (J_b (ih (w64 (s25+1)))) rfl
   ·refine wL (fun h32=>?_) (fun h32=>?_)
    ·refine zA (fun x33 h34=>?_)
     refine J_d 29900 [] [3,5,40,42] [(42,bv (slt x27.Path x33.Path||seq x27.Path x33.Path))] [] [] (xX 2 [(44,bv (decide (s25>0)))] [] h32 (zBV 9 2 45 true (vR (kk:=.i64) 27 124 2 (File.enc false) (.tmp 49) (.tmp 51) h34) zB)) ?_
     exact xD (J_j (jv35 (slt x27.Path x33.Path||seq x27.Path x33.Path))) rfl
    ·refine J_d 29900 [] [3,5,40,42] [(42,bv false)] [] [] (xX 2 [(44,bv (decide (s25>0)))] [] h32 zB) ?_
     exact xD (J_j (jv35 false)) rfl
 ·exact xD (hk ()) rfl
theorem zAW.ok (a1:zC):Ok Tryz.prog 40 [.ag (zC.enc false a1)] [] ((zAW a1).map fun r=>(iv r,[])):=by
 refine zG c40 Tryz.f40 0 68 (fun q=>?_)
 unfold zAW
 refine J_g 2 [(0,0)] [(1,pp 0)] [(0,.box (zC.enc false a1))] zB ?_
 refine zA (fun x2 h3=>?_)
 refine wB (atI c40 25) (fun v10:Bool=>St.mk' [(1,pp 0),(6,bv v10)] [(0,.box (zC.enc false a1))]) (fun v10=>?_) (fun jv10=>?_)
 ·refine zF 6 (fun h11=>?_) (fun h11=>?_)
  ·refine J_g 100 [] [(2,iv 3)] [] zB ?_
   exact zN rfl
  ·refine J_d 102 [] [6,23] [(23,bv (decide ((a1.Files.length:Int)>120)))] [] [] zB ?_
   refine zF 23 (fun h12=>?_) (fun h12=>?_)
   ·refine J_g 412 [] [(2,iv 2)] [] zB ?_
    exact zN rfl
   ·refine J_d 28 [] [23,29,30,31] [(29,sl 2 (File.enc false) a1.Files),(30,iv (a1.Files.length:Int)),(31,iv 0)] [] [] zB ?_
    refine uZ (K0:=(fun r:Int=>some (iv r,[]))) (fun _=>rfl) (kG.ok a1 q _ (fun v38=>J_j ?_) 0)
    refine zA (fun x39 h40=>?_)
    refine J_g 60 [] [(67,bv (decide (x39>a1.Budget)))] [] (zD 1 (xR [(.tmp 63)] [29] (wS.ok a1) h40) zB) ?_
    refine zF 67 (fun h41=>?_) (fun h41=>?_)
    ·refine J_g 244 [] [(2,iv 8)] [] zB ?_
     exact zN rfl
    ·refine J_g 62 [] [(2,iv 0)] [] zB ?_
     exact zN rfl
 ·refine wL (fun h4=>?_) (fun h4=>?_)
  ·refine J_d 24 [] [6] [(6,bv true)] [] [] (zD 2 (xR [(.tmp 8),(.const (.int .i64 0)),(.const (.int .i64 20000))] [2,2,2] (xL.ok a1.Budget 0 20000) h3) (xX 4 [(10,bv (!x2))] [] h4 zB)) ?_
   exact xD (J_j (jv10 true)) rfl
  ·refine zA (fun x5 h6=>?_)
   refine wL (fun h7=>?_) (fun h7=>?_)
   ·refine J_d 24 [] [6] [(6,bv true)] [] [] (zD 2 (xR [(.tmp 8),(.const (.int .i64 0)),(.const (.int .i64 20000))] [2,2,2] (xL.ok a1.Budget 0 20000) h3) (xX 4 [(10,bv (!x2))] [] h4 (zBV 7 4 11 false (xR [(.tmp 13),(.const (.int .i64 0)),(.const (.int .i64 1000000000))] [2,2,2] (xL.ok a1.Writes 0 1000000000) h6) (xX 10 [(16,bv (!x5))] [] h7 zB)))) ?_
    exact xD (J_j (jv10 true)) rfl
   ·refine zA (fun x8 h9=>?_)
    refine J_d 24 [] [6] [(6,bv (!x8))] [] [] (zD 2 (xR [(.tmp 8),(.const (.int .i64 0)),(.const (.int .i64 20000))] [2,2,2] (xL.ok a1.Budget 0 20000) h3) (xX 4 [(10,bv (!x2))] [] h4 (zBV 7 4 11 false (xR [(.tmp 13),(.const (.int .i64 0)),(.const (.int .i64 1000000000))] [2,2,2] (xL.ok a1.Writes 0 1000000000) h6) (xX 10 [(16,bv (!x5))] [] h7 (zBV 13 10 17 false (xR [(.tmp 19),(.const (.int .i64 (-1))),(.const (.int .i64 1000000000))] [2,2,2] (xL.ok a1.Stop (-1) 1000000000) h9) zB))))) ?_
    exact xD (J_j (jv10 (!x8))) rfl
noncomputable def c76:Code:=(Tryz.f76.body).getD .skip
theorem wK.ok (a1:(List Int)):Ok Tryz.prog 76 [sl 1 eU8 a1] [] ((wK a1).map fun r=>(so 1 eU8 r,[])):=by
 refine zG c76 Tryz.f76 0 8 (fun q=>?_)
 unfold wK
 refine J_g 2 [] [(0,sl 1 eU8 a1)] [] zB ?_
 refine J_d 12 [] [4] [(4,.nb a1.length)] [] [] (zD 1 (zNO (xs:=a1) 22 5 22 1 eU8 (.tmp 3)) zB) ?_
 refine zRF 4 rfl (fun h2=>?_) ?_
 ·obtain rfl:a1=[]:=List.eq_nil_of_length_eq_zero h2
  refine zPl (e':=some ([]:List Int)) (by kernel_rfl) ?_
  refine J_g 52 [] [(2,nv)] [] zB ?_
  exact zEH (ds:=[nv]) (ds':=[so 1 eU8 ([]:List Int)]) (.cons (.cell (.nilsl true 1 (.nil))) (.nil) (by decide)) rfl
 ·refine zA (fun x3 h4=>?_)
  refine J_g 14 [] [(2,rr 1 x3)] [(1,rE 1 eU8 x3)] (zD 0 (zFm 22 5 1 0 eU8 ([]:List Int) [] [] []) (zD 2 (zOm 22 22 5 5 1 1 1 0 eU8 (.tmp 5) (.tmp 6) h4) zB)) ?_
  exact zEH (ds:=[rr 1 x3]) (ds':=[so 1 eU8 x3]) (.cons (.cell (.move (.head _) (List.length_map _) (by decide) (.nil))) (.nil) (by decide)) rfl
noncomputable def c79:Code:=(Tryz.f79.body).getD .skip
theorem uV.ok (a1:zC) (q:Wd) (kn:(List File)→Option (D×List Ent)) (hk:∀v:(List File),J (q.g Tryz.prog 79 0 28) c79 (atI c79 31) (St.mk' [(2,pp 1),(3,pp 2)] [(1,.box [nv,iv 0,iv 0,iv 0,bv false]),(2,.box [rr 3 v,iv a1.Budget,iv a1.Writes,iv a1.Stop,bv a1.Down]),(3,rE 2 (File.enc true) v)]) (some v) kn):
  ∀s16:((List File)×Int),J (q.g Tryz.prog 79 0 28) c79 (atI c79 244) (St.mk' [(2,pp 1),(3,pp 2),(9,sl 2 (File.enc false) a1.Files),(10,iv (a1.Files.length:Int)),(11,iv s16.2)] [(1,.box [nv,iv 0,iv 0,iv 0,bv false]),(2,.box [rr 3 s16.1,iv a1.Budget,iv a1.Writes,iv a1.Stop,bv a1.Down]),(3,rE 2 (File.enc true) s16.1)]) (uV a1 s16) kn:=by
 refine jL (fun g ih s16=>?_)
 unfold zCW
 refine J_d 488 [] [12] [(12,bv (decide (s16.2< (a1.Files.length:Int))))] [] [] zB ?_
 refine zF 12 (fun h17=>?_) (fun h17=>?_)
 ·refine zA (fun x18 h19=>?_)
  refine J_d 7832 [(2,4)] [5,12] [(5,pp 4)] [4] [(4,.box (File.enc false x18))] (zD 0 (vR (kk:=.i64) 27 124 2 (File.enc false) (.tmp 9) (.tmp 11) h19) zB) ?_
  refine zA (fun x20 h21=>?_)
  refine zA (fun x22 h23=>?_)
  refine J_g 7833 [] [(2,pp 1),(3,pp 2),(9,sl 2 (File.enc false) a1.Files),(10,iv (a1.Files.length:Int)),(11,iv s16.2)] [(1,.box [nv,iv 0,iv 0,iv 0,bv false]),(2,.box [rr 7 x22,iv a1.Budget,iv a1.Writes,iv a1.Stop,bv a1.Down]),(7,rE 2 (File.enc true) x22)] (zD 6 (vX («as»:=[sl 1 eU8 x18.Data]) [(.tmp 20)] [22] false [] [] (.cons (.same rfl) (.nil)) (wK.ok x18.Data) h21 (.own 5)) (zD 8 (zQQ (ds:=[sv x18.Path,rr 5 x20]) (ts:=[5]) 27 124 2 6 (File.enc true) [({Path:=x18.Path,Data:=x20}:File)] [0] [(.tmp 22)] [.ag [sv x18.Path,rr 5 x20]] [(5,rE 1 eU8 x20)] (.keep rfl (.move (.head _) (List.length_map _) (by decide) (.nil)))) (zD 9 (zII 27 27 124 124 2 40 7 3 6 (File.enc true) (.tmp 16) (.tmp 23) h23) zB))) ?_
  refine J_d 1959 [] [11] [(11,iv (w64 (s16.2+1)))] [] [] zB ?_
  refine zDV 7 3 (Nat.le_of_ble_eq_true rfl) (Nat.le_of_ble_eq_true rfl) ?_
  exact J_q (J_b (ih (x22,w64 (s16.2+1)))) rfl
 ·exact xD (hk s16.1) rfl
theorem uP.ok (a1:zC):Ok Tryz.prog 79 [.ag (zC.enc false a1)] [] ((uP a1).map fun r=>(.ag (zC.enc true r),[])):=by
 refine zG c79 Tryz.f79 0 28 (fun q=>?_)
 unfold uP
 refine J_g 2 [(0,0),(1,1)] [(1,pp 0),(2,pp 1)] [(0,.box (zC.enc false a1)),(1,.box [nv,iv 0,iv 0,iv 0,bv false])] zB ?_
 refine J_g 6 [(1,2)] [(1,pp 0),(2,pp 1),(3,pp 2)] [(0,.box (zC.enc false a1)),(1,.box [nv,iv 0,iv 0,iv 0,bv false]),(2,.box (zC.enc false a1))] zB ?_
 refine J_g 14 [] [(1,pp 0),(2,pp 1),(3,pp 2)] [(0,.box (zC.enc false a1)),(1,.box [nv,iv 0,iv 0,iv 0,bv false]),(2,.box [nv,iv a1.Budget,iv a1.Writes,iv a1.Stop,bv a1.Down])] zB ?_
 refine J_d 60 [] [1,9,10,11] [(9,sl 2 (File.enc false) a1.Files),(10,iv (a1.Files.length:Int)),(11,iv 0)] [0] [] zB ?_
 refine zPs 2 0 3 2 rfl rfl (Nat.le_of_ble_eq_true rfl) (by kernel_rfl) ?_
 refine zE3 (uV.ok a1 q _ (fun v24=>J_j ?_) (([]:List File),0))
 refine J_g 62 [] [(2,pp 1)] [(1,.box [rr 3 v24,iv a1.Budget,iv a1.Writes,iv a1.Stop,bv a1.Down]),(3,rE 2 (File.enc true) v24)] zB ?_
 exact zEH (ds:=[.ag [rr 3 v24,iv a1.Budget,iv a1.Writes,iv a1.Stop,bv a1.Down]]) (ds':=[.ag [so 2 (File.enc true) v24,iv a1.Budget,iv a1.Writes,iv a1.Stop,bv a1.Down]]) (.cons (.ag (.move (.tail _ (.head _)) (List.length_map _) (by decide) (.keep rfl (.keep rfl (.keep rfl (.keep rfl (.nil))))))) (.nil) (by decide)) rfl
noncomputable def zRT:Code:=(Tryz.f215.body).getD .skip
theorem zAq.ok (a1:Int) (a2:(List Pack)):Ok Tryz.prog 215 [iv a1,pp 0] [.box [sl 8 (Pack.enc false) a2]] ((zAq a1 a2).map fun r=>(bv r,[.box [sl 8 (Pack.enc false) a2]])):=by
 refine zG zRT Tryz.f215 1 10 (fun q=>?_)
 unfold zAq
 refine J_d 2 [] [] [] [] [] zB ?_
 refine zA (fun x3 h4=>?_)
 refine J_d 6 [] [0,1,3] [(3,bv (!x3))] [] [] (zD 4 (xR [(.tmp 4),(.const (.int .i64 0)),(.tmp 7)] [2,2,2] (xL.ok a1 0 (w64 ((a2.length:Int)-1))) h4) zB) ?_
 exact zN rfl
noncomputable def zIU:Code:=(Tryz.f245.body).getD .skip
theorem yZ.ok (a1:(List Int)) (a2:(List Pack)) (q:Wd) (kn:Unit→Option (D×List Ent)) (hk:∀v:Unit,J (q.g Tryz.prog 245 1 19) zIU (atI zIU 7) (St.mk' [] [(0,.box [sl 8 (Pack.enc false) a2])]) (some v) kn):
  ∀s9:Int,J (q.g Tryz.prog 245 1 19) zIU (atI zIU 52) (St.mk' [(0,sl 1 zK a1),(1,.fn 215 [pp 0]),(7,iv (a1.length:Int)),(8,iv s9)] [(0,.box [sl 8 (Pack.enc false) a2])]) (yZ a1 a2 s9) (Fl.go (fun r:Int=>some (iv r,[.box [sl 8 (Pack.enc false) a2]])) kn):=by
 refine jL (fun g ih s9=>?_)
 unfold yV
 refine J_d 104 [] [9] [(9,bv (decide (s9< (a1.length:Int))))] [] [] zB ?_
 refine zF 9 (fun h10=>?_) (fun h10=>?_)
 ·refine J_d 1688 [] [5,9] [(5,iv s9)] [] [] zB ?_
  refine zA (fun x11 h12=>?_)
  refine zA (fun x13 h14=>?_)
  refine J_d 3378 [] [16] [(16,bv x13)] [] [] (zD 3 (vR (kk:=.i64) 49 2 1 zK (.tmp 12) (.tmp 13) h12) (zD 5 (zEU [(0,.box [sl 8 (Pack.enc false) a2])] [] (zI6 11 [(.tmp 15)] [2] false [(0,.box [sl 8 (Pack.enc false) a2])] [0] [iv x11] [pp 0] (.cons (.same rfl) (.cons (.pt rfl) (.nil))) (zAq.ok x11 a2) h14 (.same rfl rfl))) zB)) ?_
  refine zF 16 (fun h15=>?_) (fun h15=>?_)
  ·refine J_g 13516 [] [(4,iv s9)] [(0,.box [sl 8 (Pack.enc false) a2])] zB ?_
   exact zN rfl
  ·refine J_d 423 [] [5,8,16] [(8,iv (w64 (s9+1)))] [] [] zB ?_
   exact J_q (J_b (ih (w64 (s9+1)))) rfl
 ·exact xD (hk ()) rfl
theorem yO.ok (a1:(List Int)) (a2:(List Pack)):Ok Tryz.prog 245 [sl 1 zK a1,.fn 215 [pp 0]] [.box [sl 8 (Pack.enc false) a2]] ((yO a1 a2).map fun r=>(iv r,[.box [sl 8 (Pack.enc false) a2]])):=by
 refine zG zIU Tryz.f245 1 19 (fun q=>?_)
 unfold yO
 refine J_g 2 [] [(0,sl 1 zK a1),(1,.fn 215 [pp 0])] [(0,.box [sl 8 (Pack.enc false) a2])] zB ?_
 refine J_d 12 [] [7,8] [(7,iv (a1.length:Int)),(8,iv 0)] [] [] zB ?_
 refine uZ (K0:=(fun r:Int=>some (iv r,[.box [sl 8 (Pack.enc false) a2]]))) (fun _=>rfl) (yZ.ok a1 a2 q _ (fun v16=>J_j ?_) 0)
 refine J_d 14 [] [4] [(4,iv (-1))] [] [] zB ?_
 exact zN rfl
noncomputable def zRr:Code:=(Tryz.f214.body).getD .skip
theorem yD.ok (a1:(List Int)) (a2:(List Pack)):Ok Tryz.prog 214 [sl 1 zK a1,.fn 215 [pp 0]] [.box [sl 8 (Pack.enc false) a2]] ((yD a1 a2).map fun r=>(bv r,[.box [sl 8 (Pack.enc false) a2]])):=by
 refine zG zRr Tryz.f214 1 9 (fun q=>?_)
 unfold yD
 refine J_d 2 [] [] [] [] [] zB ?_
 refine zA (fun x3 h4=>?_)
 refine J_d 6 [] [0,1,4] [(4,bv (decide (x3≥0)))] [] [] (zD 2 (zEU [(0,.box [sl 8 (Pack.enc false) a2])] [] (vX («as»:=[sl 1 zK a1,.fn 215 [pp 0]]) [(.tmp 5),(.tmp 6)] [49,241] false [(0,.box [sl 8 (Pack.enc false) a2])] [0] (.cons (.same rfl) (.cons (.fn (.cons (.pt rfl) (.nil))) (.nil))) (yO.ok a1 a2) h4 (.same rfl rfl))) zB) ?_
 exact zN rfl
noncomputable def zSj:Code:=(Tryz.f178.body).getD .skip
theorem zAK.ok (a1:(List Pack)) (a2:(List Int)):Ok Tryz.prog 178 [sl 8 (Pack.enc false) a1,sl 1 zK a2] [] ((zAK a1 a2).map fun r=>(bv r,[])):=by
 refine zG zSj Tryz.f178 0 9 (fun q=>?_)
 unfold zAK
 refine J_g 2 [(0,0)] [(1,sl 1 zK a2),(2,pp 0)] [(0,.box [sl 8 (Pack.enc false) a1])] zB ?_
 refine zA (fun x3 h4=>?_)
 refine J_g 6 [] [(4,bv (!x3))] [] (zD 2 (zEU [(0,.box [sl 8 (Pack.enc false) a1])] [] (vX («as»:=[sl 1 zK a2,.fn 215 [pp 0]]) [(.tmp 5),(.tmp 6)] [49,241] false [(0,.box [sl 8 (Pack.enc false) a1])] [0] (.cons (.same rfl) (.cons (.fn (.cons (.pt rfl) (.nil))) (.nil))) (yD.ok a2 a1) h4 (.same rfl rfl))) zB) ?_
 exact zN rfl
noncomputable def c119:Code:=(Tryz.f119.body).getD .skip
theorem zAo.ok (a1:(List Pack)) (a2:(List Int)) (q:Wd) (kn:Unit→Option (D×List Ent)) (hk:∀v:Unit,J (q.g Tryz.prog 119 0 32) c119 (atI c119 15) (St.mk' [(0,sl 8 (Pack.enc false) a1),(1,sl 1 zK a2)] []) (some v) kn):
  ∀s12:Int,J (q.g Tryz.prog 119 0 32) c119 (atI c119 116) (St.mk' [(0,sl 8 (Pack.enc false) a1),(1,sl 1 zK a2),(6,iv s12)] []) (zAo a1 a2 s12) (Fl.go (fun r:Int=>some (iv r,[])) kn):=by
 refine jL (fun g ih s12=>?_)
 unfold vU
 refine J_d 464 [] [15] [(15,bv (decide (s12< (a2.length:Int))))] [] [] zB ?_
 refine zF 15 (fun h13=>?_) (fun h13=>?_)
 ·refine zA (fun x14 h15=>?_)
  refine zA (fun x16 h17=>?_)
  refine J_d 1864 [] [15,27] [(27,bv (decide (x14≤x16)))] [] [] (zD 2 (vR (kk:=.i64) 49 2 1 zK (.tmp 18) (.tmp 19) h15) (zD 7 (vR (kk:=.i64) 49 2 1 zK (.tmp 22) (.tmp 24) h17) zB)) ?_
  refine zF 27 (fun h18=>?_) (fun h18=>?_)
  ·refine J_g 7460 [] [(4,iv 1)] [] zB ?_
   exact zN rfl
  ·refine J_d 467 [] [6,27] [(6,iv (w64 (s12+1)))] [] [] zB ?_
   exact J_q (J_b (ih (w64 (s12+1)))) rfl
 ·exact xD (hk ()) rfl
theorem zB3.ok (a1:(List Pack)) (a2:(List Int)):Ok Tryz.prog 119 [sl 8 (Pack.enc false) a1,sl 1 zK a2] [] ((zB3 a1 a2).map fun r=>(iv r,[])):=by
 refine zG c119 Tryz.f119 0 32 (fun q=>?_)
 unfold zB3
 refine J_d 2 [] [] [] [] [] zB ?_
 refine zA (fun x3 h4=>?_)
 refine J_g 12 [] [(0,sl 8 (Pack.enc false) a1),(1,sl 1 zK a2),(5,iv x3)] [] (zD 1 (xR [(.tmp 7)] [53] (vB.ok a1) h4) zB) ?_
 refine J_d 26 [] [10] [(10,bv (x3 !=0))] [] [] zB ?_
 refine zF 10 (fun h5=>?_) (fun h5=>?_)
 ·refine J_g 108 [] [(4,iv x3)] [] zB ?_
  exact zN rfl
 ·refine J_d 28 [] [5,6,10] [(6,iv 1)] [] [] zB ?_
  refine uZ (K0:=(fun r:Int=>some (iv r,[]))) (fun _=>rfl) (zAo.ok a1 a2 q _ (fun v19=>J_j ?_) 1)
  refine zA (fun x20 h21=>?_)
  refine J_g 60 [] [(31,bv (!x20))] [] (zD 2 (xR [(.tmp 28),(.tmp 29)] [53,49] (zAK.ok a1 a2) h21) zB) ?_
  refine zF 31 (fun h22=>?_) (fun h22=>?_)
  ·refine J_g 244 [] [(4,iv 1)] [] zB ?_
   exact zN rfl
  ·refine J_g 62 [] [(4,iv 0)] [] zB ?_
   exact zN rfl
noncomputable def zQr:Code:=(Tryz.f216.body).getD .skip
theorem zDO.ok (a1:(List Pack)) (a2:(List Int)) (a3:ByteArray) (q:Wd) (kn:Unit→Option (D×List Ent)) (hk:∀v:Unit,J (q.g Tryz.prog 216 0 24) zQr (atI zQr 7) (St.mk' [] []) (some v) kn):
  ∀s10:Int,J (q.g Tryz.prog 216 0 24) zQr (atI zQr 52) (St.mk' [(0,sl 8 (Pack.enc false) a1),(2,sv a3),(9,sl 1 zK a2),(10,iv (a2.length:Int)),(11,iv s10)] []) (zDO a1 a2 a3 s10) (Fl.go (fun r:Int=>some (iv r,[])) kn):=by
 refine jL (fun g ih s10=>?_)
 unfold zCZ
 refine J_d 104 [] [12] [(12,bv (decide (s10< (a2.length:Int))))] [] [] zB ?_
 refine zF 12 (fun h11=>?_) (fun h11=>?_)
 ·refine zA (fun x12 h13=>?_)
  refine J_d 1688 [] [8,12] [(8,iv x12)] [] [] (zD 0 (vR (kk:=.i64) 49 2 1 zK (.tmp 9) (.tmp 11) h13) zB) ?_
  refine zA (fun x14 h15=>?_)
  refine J_d 3378 [] [21] [(21,bv (seq x14.Name a3))] [] [] (zD 2 (vR (kk:=.i64) 53 102 8 (Pack.enc false) (.tmp 15) (.tmp 16) h15) zB) ?_
  refine zF 21 (fun h16=>?_) (fun h16=>?_)
  ·refine J_g 13516 [] [(6,iv x12)] [] zB ?_
   exact zN rfl
  ·refine J_d 423 [] [8,11,21] [(11,iv (w64 (s10+1)))] [] [] zB ?_
   exact J_q (J_b (ih (w64 (s10+1)))) rfl
 ·exact xD (hk ()) rfl
theorem zEh.ok (a1:(List Pack)) (a2:(List Int)) (a3:ByteArray):Ok Tryz.prog 216 [sl 8 (Pack.enc false) a1,sl 1 zK a2,sv a3] [] ((zEh a1 a2 a3).map fun r=>(iv r,[])):=by
 refine zG zQr Tryz.f216 0 24 (fun q=>?_)
 unfold zEh
 refine J_g 2 [] [(0,sl 8 (Pack.enc false) a1),(1,sl 1 zK a2),(2,sv a3)] [] zB ?_
 refine J_d 12 [] [1,9,10,11] [(9,sl 1 zK a2),(10,iv (a2.length:Int)),(11,iv 0)] [] [] zB ?_
 refine uZ (K0:=(fun r:Int=>some (iv r,[]))) (fun _=>rfl) (zDO.ok a1 a2 a3 q _ (fun v17=>J_j ?_) 0)
 refine J_g 14 [] [(6,iv (-1))] [] zB ?_
 exact zN rfl
noncomputable def zSy:Code:=(Tryz.f247.body).getD .skip
theorem zBl.ok (a1:Pack):Ok Tryz.prog 247 [.ag (Pack.enc false a1)] [] ((zBl a1).map fun r=>(so 1 eStr r,[])):=by
 refine zG zSy Tryz.f247 0 9 (fun q=>?_)
 unfold zBl
 refine J_g 2 [(0,0)] [(1,pp 0)] [(0,.box (Pack.enc false a1))] zB ?_
 refine zA (fun x2 h3=>?_)
 refine J_g 6 [] [(2,rr 2 x2)] [(2,rE 1 eStr x2)] (zD 2 (zFm 90 9 1 1 eStr [a1.Name] [0] [(.tmp 4)] [sv a1.Name]) (zD 5 (zOm 90 90 9 9 1 16 2 1 eStr (.tmp 5) (.tmp 7) h3) zB)) ?_
 exact zEH (ds:=[rr 2 x2]) (ds':=[so 1 eStr x2]) (.cons (.cell (.move (.head _) (List.length_map _) (by decide) (.nil))) (.nil) (by decide)) rfl
noncomputable def zRM:Code:=(Tryz.f249.body).getD .skip
theorem zBz.ok (a1:Term) (a2:ByteArray) (a3:Version):Ok Tryz.prog 249 [.ag (Term.enc a1),sv a2,.ag (Version.enc a3)] [] ((zBz a1 a2 a3).map fun r=>(bv r,[])):=by
 refine zG zRM Tryz.f249 0 25 (fun q=>?_)
 unfold zBz
 refine J_g 2 [(0,0),(1,1)] [(1,sv a2),(3,pp 0),(5,pp 1)] [(0,.box (Term.enc a1)),(1,.box (Version.enc a3))] zB ?_
 refine wL (fun h4=>?_) (fun h4=>?_)
 ·refine zA (fun x5 h6=>?_)
  refine wL (fun h7=>?_) (fun h7=>?_)
  ·refine zA (fun x8 h9=>?_)
   refine J_g 6 [] [(6,bv (decide (x8<0)))] [] (xX 4 [(10,bv (seq a1.Name a2))] [] h4 (zBV 8 4 11 true (xR [(.tmp 13),(.tmp 14)] [39,39] (uQ.ok a1.Low a3) h6) (xX 11 [(17,bv (decide (x5≤0)))] [] h7 (zBV 15 11 18 true (xR [(.tmp 19),(.tmp 21)] [39,39] (uQ.ok a3 a1.High) h9) zB)))) ?_
   exact zN rfl
  ·refine J_g 6 [] [(6,bv false)] [] (xX 4 [(10,bv (seq a1.Name a2))] [] h4 (zBV 8 4 11 true (xR [(.tmp 13),(.tmp 14)] [39,39] (uQ.ok a1.Low a3) h6) (xX 11 [(17,bv (decide (x5≤0)))] [] h7 zB))) ?_
   exact zN rfl
 ·refine J_g 6 [] [(6,bv false)] [] (xX 4 [(10,bv (seq a1.Name a2))] [] h4 zB) ?_
  exact zN rfl
noncomputable def zS6:Code:=(Tryz.f248.body).getD .skip
theorem jZ.ok (a1:ByteArray) (a2:Term) (a3:Pack):Ok Tryz.prog 248 [sv a1,pp 0,pp 1] [.box (Term.enc a2),.box (Pack.enc false a3)] ((jZ a1 a2 a3).map fun r=>(bv r,[.box (Term.enc a2),.box (Pack.enc false a3)])):=by
 refine zG zS6 Tryz.f248 2 10 (fun q=>?_)
 unfold jZ
 refine J_d 2 [] [] [] [] [] zB ?_
 refine zA (fun x4 h5=>?_)
 refine J_d 6 [] [0,1,2,4] [(4,bv x4)] [] [] (zD 4 (xR [(.tmp 5),(.tmp 6),(.tmp 8)] [41,9,39] (zBz.ok a2 a1 a3.Version) h5) zB) ?_
 exact zN rfl
noncomputable def zQF:Code:=(Tryz.f264.body).getD .skip
theorem yQ.ok (a1:(List ByteArray)) (a2:Term) (a3:Pack) (q:Wd) (kn:Unit→Option (D×List Ent)) (hk:∀v:Unit,J (q.g Tryz.prog 264 3 19) zQF (atI zQF 7) (St.mk' [] [(0,rE 1 eStr a1),(1,.box (Term.enc a2)),(2,.box (Pack.enc false a3))]) (some v) kn):
  ∀s10:Int,J (q.g Tryz.prog 264 3 19) zQF (atI zQF 52) (St.mk' [(0,rr 0 a1),(1,.fn 248 [pp 1,pp 2]),(7,iv (a1.length:Int)),(8,iv s10)] [(0,rE 1 eStr a1),(1,.box (Term.enc a2)),(2,.box (Pack.enc false a3))]) (yQ a1 a2 a3 s10) (Fl.go (fun r:Int=>some (iv r,[rE 1 eStr a1,.box (Term.enc a2),.box (Pack.enc false a3)])) kn):=by
 refine jL (fun g ih s10=>?_)
 unfold yJ
 refine J_d 104 [] [9] [(9,bv (decide (s10< (a1.length:Int))))] [] [] zB ?_
 refine zF 9 (fun h11=>?_) (fun h11=>?_)
 ·refine J_d 1688 [] [5,9] [(5,iv s10)] [] [] zB ?_
  refine zA (fun x12 h13=>?_)
  refine zA (fun x14 h15=>?_)
  refine J_d 3378 [] [16] [(16,bv x14)] [] [] (zD 3 (uN (kk:=.i64) 90 9 1 0 eStr (.tmp 12) (.tmp 13) h13) (zD 4 (zEt (d:=sv x12) 9 1 0 0 eStr (.tmp 14) h13 (by kernel_rfl)) (zD 5 (zEU [(1,.box (Term.enc a2)),(2,.box (Pack.enc false a3))] [] (zI6 11 [(.tmp 15)] [9] false [(1,.box (Term.enc a2)),(2,.box (Pack.enc false a3))] [1,2] [sv x12] [pp 1,pp 2] (.cons (.same rfl) (.cons (.pt rfl) (.cons (.pt rfl) (.nil)))) (jZ.ok x12 a2 a3) h15 (.same rfl rfl))) zB))) ?_
  refine zF 16 (fun h16=>?_) (fun h16=>?_)
  ·refine J_d 13516 [] [0,1,4,5,7,8,16] [(4,iv s10)] [] [] zB ?_
   exact zN rfl
  ·refine J_d 423 [] [5,8,16] [(8,iv (w64 (s10+1)))] [] [] zB ?_
   exact J_q (J_b (ih (w64 (s10+1)))) rfl
 ·exact xD (hk ()) rfl
theorem yC.ok (a1:(List ByteArray)) (a2:Term) (a3:Pack):Ok Tryz.prog 264 [rr 0 a1,.fn 248 [pp 1,pp 2]] [rE 1 eStr a1,.box (Term.enc a2),.box (Pack.enc false a3)] ((yC a1 a2 a3).map fun r=>(iv r,[rE 1 eStr a1,.box (Term.enc a2),.box (Pack.enc false a3)])):=by
 refine zG zQF Tryz.f264 3 19 (fun q=>?_)
 unfold yC
 refine J_g 2 [] [(0,rr 0 a1),(1,.fn 248 [pp 1,pp 2])] [(0,rE 1 eStr a1),(1,.box (Term.enc a2)),(2,.box (Pack.enc false a3))] zB ?_
 refine J_d 12 [] [7,8] [(7,iv (a1.length:Int)),(8,iv 0)] [] [] zB ?_
 refine uZ (K0:=(fun r:Int=>some (iv r,[rE 1 eStr a1,.box (Term.enc a2),.box (Pack.enc false a3)]))) (fun _=>rfl) (yQ.ok a1 a2 a3 q _ (fun v17=>J_j ?_) 0)
 refine J_d 14 [] [4] [(4,iv (-1))] [] [] zB ?_
 exact zN rfl
noncomputable def zSx:Code:=(Tryz.f246.body).getD .skip
theorem zW.ok (a1:(List ByteArray)) (a2:Term) (a3:Pack):Ok Tryz.prog 246 [rr 0 a1,.fn 248 [pp 1,pp 2]] [rE 1 eStr a1,.box (Term.enc a2),.box (Pack.enc false a3)] ((zW a1 a2 a3).map fun r=>(bv r,[rE 1 eStr a1,.box (Term.enc a2),.box (Pack.enc false a3)])):=by
 refine zG zSx Tryz.f246 3 9 (fun q=>?_)
 unfold zW
 refine J_d 2 [] [] [] [] [] zB ?_
 refine zA (fun x4 h5=>?_)
 refine J_d 6 [] [0,1,4] [(4,bv (decide (x4≥0)))] [] [] (zD 2 (zEU [(0,rE 1 eStr a1),(1,.box (Term.enc a2)),(2,.box (Pack.enc false a3))] [] (vX («as»:=[rr 0 a1,.fn 248 [pp 1,pp 2]]) [(.tmp 5),(.tmp 6)] [90,263] false [(0,rE 1 eStr a1),(1,.box (Term.enc a2)),(2,.box (Pack.enc false a3))] [0,1,2] (.cons (.rf rfl) (.cons (.fn (.cons (.pt rfl) (.cons (.pt rfl) (.nil)))) (.nil))) (yC.ok a1 a2 a3) h5 (.same rfl rfl))) zB) ?_
 exact zN rfl
noncomputable def zSt:Code:=(Tryz.f220.body).getD .skip
theorem uL.ok (a1:Pack) (a2:Term):Ok Tryz.prog 220 [.ag (Pack.enc false a1),.ag (Term.enc a2)] [] ((uL a1 a2).map fun r=>(bv r,[])):=by
 refine zG zSt Tryz.f220 0 9 (fun q=>?_)
 unfold uL
 refine J_g 2 [(0,0),(1,1)] [(2,pp 0),(3,pp 1)] [(0,.box (Pack.enc false a1)),(1,.box (Term.enc a2))] zB ?_
 refine zA (fun x3 h4=>?_)
 refine zA (fun x5 h6=>?_)
 refine J_g 6 [] [(4,bv x5)] [] (zD 1 (vX («as»:=[.ag (Pack.enc false a1)]) [(.tmp 5)] [102] false [] [] (.cons (.same rfl) (.nil)) (zBl.ok a1) h4 (.own 2)) (zD 3 (zEU [(2,rE 1 eStr x3),(1,.box (Term.enc a2)),(0,.box (Pack.enc false a1))] [] (vX («as»:=[rr 2 x3,.fn 248 [pp 1,pp 0]]) [(.tmp 6),(.tmp 7)] [90,263] false [(2,rE 1 eStr x3),(1,.box (Term.enc a2)),(0,.box (Pack.enc false a1))] [2,1,0] (.cons (.rf rfl) (.cons (.fn (.cons (.pt rfl) (.cons (.pt rfl) (.nil)))) (.nil))) (zW.ok x3 a2 a1) h6 (.same rfl rfl))) zB)) ?_
 exact zN rfl
noncomputable def zRd:Code:=(Tryz.f200.body).getD .skip
theorem yT.ok (a1:(List Term)) (a2:Pack) (q:Wd) (kn:Unit→Option (D×List Ent)) (hk:∀v:Unit,J (q.g Tryz.prog 200 0 19) zRd (atI zRd 7) (St.mk' [] []) (some v) kn):
  ∀s9:Int,J (q.g Tryz.prog 200 0 19) zRd (atI zRd 52) (St.mk' [(0,sl 7 Term.enc a1),(1,.fb 220 [.ag (Pack.enc false a2)]),(7,iv (a1.length:Int)),(8,iv s9)] []) (yT a1 a2 s9) (Fl.go (fun r:Int=>some (iv r,[])) kn):=by
 refine jL (fun g ih s9=>?_)
 unfold yP
 refine J_d 104 [] [9] [(9,bv (decide (s9< (a1.length:Int))))] [] [] zB ?_
 refine zF 9 (fun h10=>?_) (fun h10=>?_)
 ·refine J_d 1688 [] [5,9] [(5,iv s9)] [] [] zB ?_
  refine zA (fun x11 h12=>?_)
  refine zA (fun x13 h14=>?_)
  refine J_d 3378 [] [16] [(16,bv x13)] [] [] (zD 3 (vR (kk:=.i64) 24 41 7 Term.enc (.tmp 12) (.tmp 13) h12) (zD 5 (zR9 («as»:=[.ag (Term.enc x11)]) (caps:=[.ag (Pack.enc false a2)]) 11 [(.tmp 15)] [41] (uL.ok a2 x11) h14) zB)) ?_
  refine zF 16 (fun h15=>?_) (fun h15=>?_)
  ·refine J_g 13516 [] [(4,iv s9)] [] zB ?_
   exact zN rfl
  ·refine J_d 423 [] [5,8,16] [(8,iv (w64 (s9+1)))] [] [] zB ?_
   exact J_q (J_b (ih (w64 (s9+1)))) rfl
 ·exact xD (hk ()) rfl
theorem yE.ok (a1:(List Term)) (a2:Pack):Ok Tryz.prog 200 [sl 7 Term.enc a1,.fb 220 [.ag (Pack.enc false a2)]] [] ((yE a1 a2).map fun r=>(iv r,[])):=by
 refine zG zRd Tryz.f200 0 19 (fun q=>?_)
 unfold yE
 refine J_g 2 [] [(0,sl 7 Term.enc a1),(1,.fb 220 [.ag (Pack.enc false a2)])] [] zB ?_
 refine J_d 12 [] [7,8] [(7,iv (a1.length:Int)),(8,iv 0)] [] [] zB ?_
 refine uZ (K0:=(fun r:Int=>some (iv r,[]))) (fun _=>rfl) (yT.ok a1 a2 q _ (fun v16=>J_j ?_) 0)
 refine J_g 14 [] [(4,iv (-1))] [] zB ?_
 exact zN rfl
noncomputable def c157:Code:=(Tryz.f157.body).getD .skip
theorem yA.ok (a1:(List Term)) (a2:Pack):Ok Tryz.prog 157 [sl 7 Term.enc a1,.fb 220 [.ag (Pack.enc false a2)]] [] ((yA a1 a2).map fun r=>(bv r,[])):=by
 refine zG c157 Tryz.f157 0 9 (fun q=>?_)
 unfold yA
 refine J_d 2 [] [] [] [] [] zB ?_
 refine zA (fun x3 h4=>?_)
 refine J_g 6 [] [(4,bv (decide (x3≥0)))] [] (zD 2 (vX («as»:=[sl 7 Term.enc a1,.fb 220 [.ag (Pack.enc false a2)]]) [(.tmp 5),(.tmp 6)] [24,197] false [] [] (.cons (.same rfl) (.cons (.fb (.cons (.same rfl) (.nil))) (.nil))) (yE.ok a1 a2) h4 (.same rfl rfl)) zB) ?_
 exact zN rfl
noncomputable def c218:Code:=(Tryz.f218.body).getD .skip
theorem uH.ok (a1:Pack) (a2:(List Term)):Ok Tryz.prog 218 [.ag (Pack.enc false a1),sl 7 Term.enc a2] [] ((uH a1 a2).map fun r=>(bv r,[])):=by
 refine zG c218 Tryz.f218 0 9 (fun q=>?_)
 unfold uH
 refine J_d 2 [(0,0)] [0,2] [(2,pp 0)] [0] [(0,.box (Pack.enc false a1))] zB ?_
 refine zA (fun x3 h4=>?_)
 refine J_g 6 [] [(4,bv x3)] [] (zD 2 (zR4 220 [(.tmp 6)] [.ag (Pack.enc false a1)]) (zD 3 (vX («as»:=[sl 7 Term.enc a2,.fb 220 [.ag (Pack.enc false a1)]]) [(.tmp 5),(.tmp 7)] [24,197] false [] [] (.cons (.same rfl) (.cons (.fb (.cons (.same rfl) (.nil))) (.nil))) (yA.ok a2 a1) h4 (.same rfl rfl)) zB)) ?_
 exact zN rfl
noncomputable def zSg:Code:=(Tryz.f217.body).getD .skip
theorem zCO.ok (a1:Int) (a2:(List Pack)) (a3:(List Term)):Ok Tryz.prog 217 [iv a1,pp 0,pp 1] [.box [sl 8 (Pack.enc false) a2],.box [sl 7 Term.enc a3]] ((zCO a1 a2 a3).map fun r=>(bv r,[.box [sl 8 (Pack.enc false) a2],.box [sl 7 Term.enc a3]])):=by
 refine zG zSg Tryz.f217 2 11 (fun q=>?_)
 unfold zCO
 refine J_d 2 [] [] [] [] [] zB ?_
 refine zA (fun x4 h5=>?_)
 refine zA (fun x6 h7=>?_)
 refine J_d 6 [] [0,1,2,4] [(4,bv x6)] [] [] (zD 2 (vR (kk:=.i64) 53 102 8 (Pack.enc false) (.tmp 5) (.tmp 6) h5) (zD 5 (xR [(.tmp 8),(.tmp 9)] [102,24] (uH.ok x4 a3) h7) zB)) ?_
 exact zN rfl
theorem xM.ok (a1:(List Int)) (a2:(List Pack)) (a3:(List Term)) (q:Wd) (kn:Unit→Option (D×List Ent)) (hk:∀v:Unit,J (q.g Tryz.prog 245 2 19) zIU (atI zIU 7) (St.mk' [] [(0,.box [sl 8 (Pack.enc false) a2]),(1,.box [sl 7 Term.enc a3])]) (some v) kn):
  ∀s10:Int,J (q.g Tryz.prog 245 2 19) zIU (atI zIU 52) (St.mk' [(0,sl 1 zK a1),(1,.fn 217 [pp 0,pp 1]),(7,iv (a1.length:Int)),(8,iv s10)] [(0,.box [sl 8 (Pack.enc false) a2]),(1,.box [sl 7 Term.enc a3])]) (xM a1 a2 a3 s10) (Fl.go (fun r:Int=>some (iv r,[.box [sl 8 (Pack.enc false) a2],.box [sl 7 Term.enc a3]])) kn):=by
 refine jL (fun g ih s10=>?_)
 unfold xH
 refine J_d 104 [] [9] [(9,bv (decide (s10< (a1.length:Int))))] [] [] zB ?_
 refine zF 9 (fun h11=>?_) (fun h11=>?_)
 ·refine J_d 1688 [] [5,9] [(5,iv s10)] [] [] zB ?_
  refine zA (fun x12 h13=>?_)
  refine zA (fun x14 h15=>?_)
  refine J_d 3378 [] [16] [(16,bv x14)] [] [] (zD 3 (vR (kk:=.i64) 49 2 1 zK (.tmp 12) (.tmp 13) h13) (zD 5 (zEU [(0,.box [sl 8 (Pack.enc false) a2]),(1,.box [sl 7 Term.enc a3])] [] (zI6 11 [(.tmp 15)] [2] false [(0,.box [sl 8 (Pack.enc false) a2]),(1,.box [sl 7 Term.enc a3])] [0,1] [iv x12] [pp 0,pp 1] (.cons (.same rfl) (.cons (.pt rfl) (.cons (.pt rfl) (.nil)))) (zCO.ok x12 a2 a3) h15 (.same rfl rfl))) zB)) ?_
  refine zF 16 (fun h16=>?_) (fun h16=>?_)
  ·refine J_d 13516 [] [0,1,4,5,7,8,16] [(4,iv s10)] [] [] zB ?_
   exact zN rfl
  ·refine J_d 423 [] [5,8,16] [(8,iv (w64 (s10+1)))] [] [] zB ?_
   exact J_q (J_b (ih (w64 (s10+1)))) rfl
 ·exact xD (hk ()) rfl
theorem xB.ok (a1:(List Int)) (a2:(List Pack)) (a3:(List Term)):Ok Tryz.prog 245 [sl 1 zK a1,.fn 217 [pp 0,pp 1]] [.box [sl 8 (Pack.enc false) a2],.box [sl 7 Term.enc a3]] ((xB a1 a2 a3).map fun r=>(iv r,[.box [sl 8 (Pack.enc false) a2],.box [sl 7 Term.enc a3]])):=by
 refine zG zIU Tryz.f245 2 19 (fun q=>?_)
 unfold xB
 refine J_g 2 [] [(0,sl 1 zK a1),(1,.fn 217 [pp 0,pp 1])] [(0,.box [sl 8 (Pack.enc false) a2]),(1,.box [sl 7 Term.enc a3])] zB ?_
 refine J_d 12 [] [7,8] [(7,iv (a1.length:Int)),(8,iv 0)] [] [] zB ?_
 refine uZ (K0:=(fun r:Int=>some (iv r,[.box [sl 8 (Pack.enc false) a2],.box [sl 7 Term.enc a3]]))) (fun _=>rfl) (xM.ok a1 a2 a3 q _ (fun v17=>J_j ?_) 0)
 refine J_d 14 [] [4] [(4,iv (-1))] [] [] zB ?_
 exact zN rfl
theorem zX.ok (a1:(List Int)) (a2:(List Pack)) (a3:(List Term)):Ok Tryz.prog 214 [sl 1 zK a1,.fn 217 [pp 0,pp 1]] [.box [sl 8 (Pack.enc false) a2],.box [sl 7 Term.enc a3]] ((zX a1 a2 a3).map fun r=>(bv r,[.box [sl 8 (Pack.enc false) a2],.box [sl 7 Term.enc a3]])):=by
 refine zG zRr Tryz.f214 2 9 (fun q=>?_)
 unfold zX
 refine J_d 2 [] [] [] [] [] zB ?_
 refine zA (fun x4 h5=>?_)
 refine J_d 6 [] [0,1,4] [(4,bv (decide (x4≥0)))] [] [] (zD 2 (zEU [(0,.box [sl 8 (Pack.enc false) a2]),(1,.box [sl 7 Term.enc a3])] [] (vX («as»:=[sl 1 zK a1,.fn 217 [pp 0,pp 1]]) [(.tmp 5),(.tmp 6)] [49,241] false [(0,.box [sl 8 (Pack.enc false) a2]),(1,.box [sl 7 Term.enc a3])] [0,1] (.cons (.same rfl) (.cons (.fn (.cons (.pt rfl) (.cons (.pt rfl) (.nil)))) (.nil))) (xB.ok a1 a2 a3) h5 (.same rfl rfl))) zB) ?_
 exact zN rfl
noncomputable def zSr:Code:=(Tryz.f219.body).getD .skip
theorem zCP.ok (a1:Int) (a2:Int) (a3:(List Pack)) (a4:Term):Ok Tryz.prog 219 [iv a1,pp 0,pp 1,pp 2] [.box [iv a2],.box [sl 8 (Pack.enc false) a3],.box (Term.enc a4)] ((zCP a1 a2 a3 a4).map fun r=>(bv r,[.box [iv a2],.box [sl 8 (Pack.enc false) a3],.box (Term.enc a4)])):=by
 refine zG zSr Tryz.f219 3 17 (fun q=>?_)
 unfold zCP
 refine J_d 2 [] [] [] [] [] zB ?_
 refine wL (fun h5=>?_) (fun h5=>?_)
 ·refine zA (fun x6 h7=>?_)
  refine zA (fun x8 h9=>?_)
  refine J_d 6 [] [0,1,2,3,5] [(5,bv x8)] [] [] (xX 3 [(8,bv (a1 !=a2))] [] h5 (zBV 6 3 9 true (vR (kk:=.i64) 53 102 8 (Pack.enc false) (.tmp 10) (.tmp 11) h7) (zBV 9 3 9 true (xR [(.tmp 13),(.tmp 14)] [102,41] (uL.ok x6 a4) h9) zB))) ?_
  exact zN rfl
 ·refine J_d 6 [] [0,1,2,3,5] [(5,bv false)] [] [] (xX 3 [(8,bv (a1 !=a2))] [] h5 zB) ?_
  exact zN rfl
theorem xO.ok (a1:(List Int)) (a2:Int) (a3:(List Pack)) (a4:Term) (q:Wd) (kn:Unit→Option (D×List Ent)) (hk:∀v:Unit,J (q.g Tryz.prog 245 3 19) zIU (atI zIU 7) (St.mk' [] [(0,.box [iv a2]),(1,.box [sl 8 (Pack.enc false) a3]),(2,.box (Term.enc a4))]) (some v) kn):
  ∀s11:Int,J (q.g Tryz.prog 245 3 19) zIU (atI zIU 52) (St.mk' [(0,sl 1 zK a1),(1,.fn 219 [pp 0,pp 1,pp 2]),(7,iv (a1.length:Int)),(8,iv s11)] [(0,.box [iv a2]),(1,.box [sl 8 (Pack.enc false) a3]),(2,.box (Term.enc a4))]) (xO a1 a2 a3 a4 s11) (Fl.go (fun r:Int=>some (iv r,[.box [iv a2],.box [sl 8 (Pack.enc false) a3],.box (Term.enc a4)])) kn):=by
 refine jL (fun g ih s11=>?_)
 unfold xJ
 refine J_d 104 [] [9] [(9,bv (decide (s11< (a1.length:Int))))] [] [] zB ?_
 refine zF 9 (fun h12=>?_) (fun h12=>?_)
 ·refine J_d 1688 [] [5,9] [(5,iv s11)] [] [] zB ?_
  refine zA (fun x13 h14=>?_)
  refine zA (fun x15 h16=>?_)
  refine J_d 3378 [] [16] [(16,bv x15)] [] [] (zD 3 (vR (kk:=.i64) 49 2 1 zK (.tmp 12) (.tmp 13) h14) (zD 5 (zEU [(0,.box [iv a2]),(1,.box [sl 8 (Pack.enc false) a3]),(2,.box (Term.enc a4))] [] (zI6 11 [(.tmp 15)] [2] false [(0,.box [iv a2]),(1,.box [sl 8 (Pack.enc false) a3]),(2,.box (Term.enc a4))] [0,1,2] [iv x13] [pp 0,pp 1,pp 2] (.cons (.same rfl) (.cons (.pt rfl) (.cons (.pt rfl) (.cons (.pt rfl) (.nil))))) (zCP.ok x13 a2 a3 a4) h16 (.same rfl rfl))) zB)) ?_
  refine zF 16 (fun h17=>?_) (fun h17=>?_)
  ·refine J_d 13516 [] [0,1,4,5,7,8,16] [(4,iv s11)] [] [] zB ?_
   exact zN rfl
  ·refine J_d 423 [] [5,8,16] [(8,iv (w64 (s11+1)))] [] [] zB ?_
   exact J_q (J_b (ih (w64 (s11+1)))) rfl
 ·exact xD (hk ()) rfl
theorem xC.ok (a1:(List Int)) (a2:Int) (a3:(List Pack)) (a4:Term):Ok Tryz.prog 245 [sl 1 zK a1,.fn 219 [pp 0,pp 1,pp 2]] [.box [iv a2],.box [sl 8 (Pack.enc false) a3],.box (Term.enc a4)] ((xC a1 a2 a3 a4).map fun r=>(iv r,[.box [iv a2],.box [sl 8 (Pack.enc false) a3],.box (Term.enc a4)])):=by
 refine zG zIU Tryz.f245 3 19 (fun q=>?_)
 unfold xC
 refine J_g 2 [] [(0,sl 1 zK a1),(1,.fn 219 [pp 0,pp 1,pp 2])] [(0,.box [iv a2]),(1,.box [sl 8 (Pack.enc false) a3]),(2,.box (Term.enc a4))] zB ?_
 refine J_d 12 [] [7,8] [(7,iv (a1.length:Int)),(8,iv 0)] [] [] zB ?_
 refine uZ (K0:=(fun r:Int=>some (iv r,[.box [iv a2],.box [sl 8 (Pack.enc false) a3],.box (Term.enc a4)]))) (fun _=>rfl) (xO.ok a1 a2 a3 a4 q _ (fun v18=>J_j ?_) 0)
 refine J_d 14 [] [4] [(4,iv (-1))] [] [] zB ?_
 exact zN rfl
theorem zY.ok (a1:(List Int)) (a2:Int) (a3:(List Pack)) (a4:Term):Ok Tryz.prog 214 [sl 1 zK a1,.fn 219 [pp 0,pp 1,pp 2]] [.box [iv a2],.box [sl 8 (Pack.enc false) a3],.box (Term.enc a4)] ((zY a1 a2 a3 a4).map fun r=>(bv r,[.box [iv a2],.box [sl 8 (Pack.enc false) a3],.box (Term.enc a4)])):=by
 refine zG zRr Tryz.f214 3 9 (fun q=>?_)
 unfold zY
 refine J_d 2 [] [] [] [] [] zB ?_
 refine zA (fun x5 h6=>?_)
 refine J_d 6 [] [0,1,4] [(4,bv (decide (x5≥0)))] [] [] (zD 2 (zEU [(0,.box [iv a2]),(1,.box [sl 8 (Pack.enc false) a3]),(2,.box (Term.enc a4))] [] (vX («as»:=[sl 1 zK a1,.fn 219 [pp 0,pp 1,pp 2]]) [(.tmp 5),(.tmp 6)] [49,241] false [(0,.box [iv a2]),(1,.box [sl 8 (Pack.enc false) a3]),(2,.box (Term.enc a4))] [0,1,2] (.cons (.same rfl) (.cons (.fn (.cons (.pt rfl) (.cons (.pt rfl) (.cons (.pt rfl) (.nil))))) (.nil))) (xC.ok a1 a2 a3 a4) h6 (.same rfl rfl))) zB) ?_
 exact zN rfl
noncomputable def zKQ:Code:=(Tryz.f179.body).getD .skip
theorem zDb.ok (a1:(List Pack)) (a2:(List Int)) (s56:((List zQ)×Int)) (x58:Int) (x60:Pack) (q:Wd) (kn:(List zQ)→Option (D×List Ent)) (hk:∀v:(List zQ),J (q.g Tryz.prog 179 0 77) zKQ (aft zKQ 1868) (St.mk' [(1,sl 1 zK a2),(2,pp 0),(5,rr 5 v),(14,sl 1 zK a2),(15,iv (a2.length:Int)),(16,iv s56.2)] [(0,.box [sl 8 (Pack.enc false) a1]),(5,rE 3 zQ.enc v)]) (some v) kn):
  ∀s99:((List zQ)×Int),J (q.g Tryz.prog 179 0 77) zKQ (atI zKQ 239228) (St.mk' [(1,sl 1 zK a2),(2,pp 0),(5,rr 5 s99.1),(7,pp 2),(14,sl 1 zK a2),(15,iv (a2.length:Int)),(16,iv s56.2),(58,sl 7 Term.enc x60.Bars),(59,iv (x60.Bars.length:Int)),(60,iv s99.2)] [(0,.box [sl 8 (Pack.enc false) a1]),(2,.box [iv x58]),(5,rE 3 zQ.enc s99.1)]) (zDb a1 a2 s56 x58 x60 s99) kn:=by
 refine jL (fun g ih s99=>?_)
 unfold zCF
 refine J_d 478456 [] [61] [(61,bv (decide (s99.2< (x60.Bars.length:Int))))] [] [] zB ?_
 refine zF 61 (fun h100=>?_) (fun h100=>?_)
 ·refine zA (fun x101 h102=>?_)
  refine J_d 7655320 [(3,6)] [11,12,61] [(11,iv s99.2),(12,pp 6)] [6] [(6,.box (Term.enc x101))] (zD 1 (vR (kk:=.i64) 24 41 7 Term.enc (.tmp 58) (.tmp 60) h102) zB) ?_
  refine zA (fun x103 h104=>?_)
  refine J_d 15310642 [] [12,67] [(67,bv x103)] [6] [] (zD 2 (zEU [(2,.box [iv x58]),(0,.box [sl 8 (Pack.enc false) a1]),(6,.box (Term.enc x101))] [] (vX («as»:=[sl 1 zK a2,.fn 219 [pp 2,pp 0,pp 6]]) [(.tmp 65),(.tmp 66)] [49,241] false [(2,.box [iv x58]),(0,.box [sl 8 (Pack.enc false) a1]),(6,.box (Term.enc x101))] [2,0,6] (.cons (.same rfl) (.cons (.fn (.cons (.pt rfl) (.cons (.pt rfl) (.cons (.pt rfl) (.nil))))) (.nil))) (zY.ok a2 x58 a1 x101) h104 (.same rfl rfl))) zB) ?_
  refine wB (aft zKQ 3827660) (fun v108:(List zQ)=>St.mk' [(1,sl 1 zK a2),(2,pp 0),(5,rr 7 v108),(7,pp 2),(14,sl 1 zK a2),(15,iv (a2.length:Int)),(16,iv s56.2),(58,sl 7 Term.enc x60.Bars),(59,iv (x60.Bars.length:Int)),(60,iv s99.2)] [(0,.box [sl 8 (Pack.enc false) a1]),(2,.box [iv x58]),(7,rE 3 zQ.enc v108)]) (fun v108=>?_) (fun jv108=>?_)
  ·refine J_d 1913831 [] [60] [(60,iv (w64 (s99.2+1)))] [] [] zB ?_
   refine zDV 7 5 (Nat.le_of_ble_eq_true rfl) (Nat.le_of_ble_eq_true rfl) ?_
   exact J_q (J_b (ih (v108,w64 (s99.2+1)))) rfl
  ·refine zF 67 (fun h105=>?_) (fun h105=>?_)
   ·refine zA (fun x106 h107=>?_)
    refine J_d 30621286 [] [5,11,67] [(5,rr 7 x106)] [5,7] [(7,rE 3 zQ.enc x106)] (zD 4 (zFm 202 229 3 6 zQ.enc [({Kind:=3,Pack:=x58,At:=s99.2}:zQ)] [0] [(.tmp 71)] [.ag [iv 3,iv x58,iv s99.2]]) (zD 5 (zII 202 202 229 229 3 24 7 5 6 zQ.enc (.tmp 68) (.tmp 72) h107) zB)) ?_
    exact xD (J_j (jv108 x106)) rfl
   ·refine zDV 5 7 (Nat.le_of_ble_eq_true rfl) (Nat.le_of_ble_eq_true rfl) ?_
    exact xD (J_j (jv108 s99.1)) rfl
 ·exact xD (hk s99.1) rfl
theorem zDc.ok (a1:(List Pack)) (a2:(List Int)) (s56:((List zQ)×Int)) (x58:Int) (x60:Pack) (q:Wd) (kn:(List zQ)→Option (D×List Ent)) (hk:∀v:(List zQ),J (q.g Tryz.prog 179 0 77) zKQ (atI zKQ 29903) (St.mk' [(1,sl 1 zK a2),(2,pp 0),(5,rr 5 v),(7,pp 2),(8,pp 3),(14,sl 1 zK a2),(15,iv (a2.length:Int)),(16,iv s56.2)] [(0,.box [sl 8 (Pack.enc false) a1]),(2,.box [iv x58]),(3,.box (Pack.enc false x60)),(5,rE 3 zQ.enc v)]) (some v) kn):
  ∀s79:((List zQ)×Int),J (q.g Tryz.prog 179 0 77) zKQ (atI zKQ 239220) (St.mk' [(1,sl 1 zK a2),(2,pp 0),(5,rr 5 s79.1),(7,pp 2),(8,pp 3),(14,sl 1 zK a2),(15,iv (a2.length:Int)),(16,iv s56.2),(39,sl 1 (eSl false 7 Term.enc) x60.Needs),(40,iv (x60.Needs.length:Int)),(41,iv s79.2)] [(0,.box [sl 8 (Pack.enc false) a1]),(2,.box [iv x58]),(3,.box (Pack.enc false x60)),(5,rE 3 zQ.enc s79.1)]) (zDc a1 a2 s56 x58 x60 s79) kn:=by
 refine jL (fun g ih s79=>?_)
 unfold zC9
 refine J_d 478440 [] [42] [(42,bv (decide (s79.2< (x60.Needs.length:Int))))] [] [] zB ?_
 refine zF 42 (fun h80=>?_) (fun h80=>?_)
 ·refine zA (fun x81 h82=>?_)
  refine J_d 7655064 [(3,6)] [9,10,42] [(9,iv s79.2),(10,pp 6)] [6] [(6,.box [sl 7 Term.enc x81])] (zD 1 (vR (kk:=.i64) 100 24 1 (eSl false 7 Term.enc) (.tmp 39) (.tmp 41) h82) zB) ?_
  refine zA (fun x83 h84=>?_)
  refine J_d 15310130 [] [10,49] [(49,bv (!x83))] [6] [] (zD 2 (zEU [(0,.box [sl 8 (Pack.enc false) a1]),(6,.box [sl 7 Term.enc x81])] [] (vX («as»:=[sl 1 zK a2,.fn 217 [pp 0,pp 6]]) [(.tmp 46),(.tmp 47)] [49,241] false [(0,.box [sl 8 (Pack.enc false) a1]),(6,.box [sl 7 Term.enc x81])] [0,6] (.cons (.same rfl) (.cons (.fn (.cons (.pt rfl) (.cons (.pt rfl) (.nil)))) (.nil))) (zX.ok a2 a1 x81) h84 (.same rfl rfl))) zB) ?_
  refine wB (aft zKQ 3827532) (fun v88:(List zQ)=>St.mk' [(1,sl 1 zK a2),(2,pp 0),(5,rr 7 v88),(7,pp 2),(8,pp 3),(14,sl 1 zK a2),(15,iv (a2.length:Int)),(16,iv s56.2),(39,sl 1 (eSl false 7 Term.enc) x60.Needs),(40,iv (x60.Needs.length:Int)),(41,iv s79.2)] [(0,.box [sl 8 (Pack.enc false) a1]),(2,.box [iv x58]),(3,.box (Pack.enc false x60)),(7,rE 3 zQ.enc v88)]) (fun v88=>?_) (fun jv88=>?_)
  ·refine J_d 1913767 [] [41] [(41,iv (w64 (s79.2+1)))] [] [] zB ?_
   refine zDV 7 5 (Nat.le_of_ble_eq_true rfl) (Nat.le_of_ble_eq_true rfl) ?_
   exact J_q (J_b (ih (v88,w64 (s79.2+1)))) rfl
  ·refine zF 49 (fun h85=>?_) (fun h85=>?_)
   ·refine zA (fun x86 h87=>?_)
    refine J_d 30620262 [] [5,9,49] [(5,rr 7 x86)] [5,7] [(7,rE 3 zQ.enc x86)] (zD 4 (zFm 202 229 3 6 zQ.enc [({Kind:=2,Pack:=x58,At:=s79.2}:zQ)] [0] [(.tmp 53)] [.ag [iv 2,iv x58,iv s79.2]]) (zD 5 (zII 202 202 229 229 3 24 7 5 6 zQ.enc (.tmp 50) (.tmp 54) h87) zB)) ?_
    exact xD (J_j (jv88 x86)) rfl
   ·refine zDV 5 7 (Nat.le_of_ble_eq_true rfl) (Nat.le_of_ble_eq_true rfl) ?_
    exact xD (J_j (jv88 s79.1)) rfl
 ·exact xD (hk s79.1) rfl
theorem zDa.ok (a1:(List Pack)) (a2:(List Int)) (q:Wd) (kn:(List zQ)→Option (D×List Ent)) (hk:∀v:(List zQ),J (q.g Tryz.prog 179 0 77) zKQ (atI zKQ 15) (St.mk' [(5,rr 1 v)] [(1,rE 3 zQ.enc v)]) (some v) kn):
  ∀s56:((List zQ)×Int),J (q.g Tryz.prog 179 0 77) zKQ (atI zKQ 116) (St.mk' [(1,sl 1 zK a2),(2,pp 0),(5,rr 1 s56.1),(14,sl 1 zK a2),(15,iv (a2.length:Int)),(16,iv s56.2)] [(0,.box [sl 8 (Pack.enc false) a1]),(1,rE 3 zQ.enc s56.1)]) (zDa a1 a2 s56) kn:=by
 refine jL (fun g ih s56=>?_)
 unfold zC5
 refine J_d 232 [] [17] [(17,bv (decide (s56.2< (a2.length:Int))))] [] [] zB ?_
 refine zF 17 (fun h57=>?_) (fun h57=>?_)
 ·refine zA (fun x58 h59=>?_)
  refine J_d 3736 [(3,2)] [6,7,17] [(6,iv s56.2),(7,pp 2)] [2] [(2,.box [iv x58])] (zD 1 (vR (kk:=.i64) 49 2 1 zK (.tmp 14) (.tmp 16) h59) zB) ?_
  refine zA (fun x60 h61=>?_)
  refine J_d 7474 [(4,3)] [8] [(8,pp 3)] [3] [(3,.box (Pack.enc false x60))] (zD 2 (vR (kk:=.i64) 53 102 8 (Pack.enc false) (.tmp 21) (.tmp 22) h61) zB) ?_
  refine zA (fun x62 h63=>?_)
  refine zA (fun x64 h65=>?_)
  refine J_d 29900 [] [6,32] [(32,bv (decide (x64≥0)))] [] [] (zD 3 (zQJ 49 2 1 zK (.tmp 26) none (some (.tmp 27)) h63) (zD 6 (xR [(.tmp 25),(.tmp 28),(.tmp 30)] [53,49,9] (zEh.ok a1 x62 x60.Name) h65) zB)) ?_
  refine wB (atI zKQ 14951) (fun v69:(List zQ)=>St.mk' [(1,sl 1 zK a2),(2,pp 0),(5,rr 5 v69),(7,pp 2),(8,pp 3),(14,sl 1 zK a2),(15,iv (a2.length:Int)),(16,iv s56.2)] [(0,.box [sl 8 (Pack.enc false) a1]),(2,.box [iv x58]),(3,.box (Pack.enc false x60)),(5,rE 3 zQ.enc v69)]) (fun v69=>?_) (fun jv69=>?_)
  ·refine J_d 59804 [] [39,40,41] [(39,sl 1 (eSl false 7 Term.enc) x60.Needs),(40,iv (x60.Needs.length:Int)),(41,iv 0)] [] [] zB ?_
   refine zE3 (zDc.ok a1 a2 s56 x58 x60 q _ (fun v89=>J_j ?_) (v69,0))
   refine J_d 59806 [] [8,58,59,60] [(58,sl 7 Term.enc x60.Bars),(59,iv (x60.Bars.length:Int)),(60,iv 0)] [3] [] zB ?_
   refine zE3 (zDb.ok a1 a2 s56 x58 x60 q _ (fun v109=>J_j ?_) (v89,0))
   refine J_d 935 [] [16] [(16,iv (w64 (s56.2+1)))] [] [] zB ?_
   refine zDV 5 1 (Nat.le_of_ble_eq_true rfl) (Nat.le_of_ble_eq_true rfl) ?_
   exact J_q (J_b (ih (v109,w64 (s56.2+1)))) rfl
  ·refine zF 32 (fun h66=>?_) (fun h66=>?_)
   ·refine zA (fun x67 h68=>?_)
    refine J_d 59802 [] [5,32] [(5,rr 5 x67)] [1,5] [(5,rE 3 zQ.enc x67)] (zD 3 (zFm 202 229 3 4 zQ.enc [({Kind:=1,Pack:=x58,At:=0}:zQ)] [0] [(.tmp 35)] [.ag [iv 1,iv x58,iv 0]]) (zD 4 (zII 202 202 229 229 3 24 5 1 4 zQ.enc (.tmp 33) (.tmp 36) h68) zB)) ?_
    exact xD (J_j (jv69 x67)) rfl
   ·refine zDV 1 5 (Nat.le_of_ble_eq_true rfl) (Nat.le_of_ble_eq_true rfl) ?_
    exact xD (J_j (jv69 s56.1)) rfl
 ·exact xD (hk s56.1) rfl
theorem zD9.ok (a1:(List Pack)) (a2:(List Int)):Ok Tryz.prog 179 [sl 8 (Pack.enc false) a1,sl 1 zK a2] [] ((zD9 a1 a2).map fun r=>(so 3 zQ.enc r,[])):=by
 refine zG zKQ Tryz.f179 0 77 (fun q=>?_)
 unfold zD9
 refine J_g 2 [(0,0)] [(1,sl 1 zK a2),(2,pp 0)] [(0,.box [sl 8 (Pack.enc false) a1])] zB ?_
 refine J_g 6 [] [(1,sl 1 zK a2),(2,pp 0),(5,rr 1 ([]:List zQ))] [(0,.box [sl 8 (Pack.enc false) a1]),(1,rE 3 zQ.enc ([]:List zQ))] (zD 0 (zFm 202 229 3 1 zQ.enc ([]:List zQ) [] [] []) zB) ?_
 refine J_d 28 [] [14,15,16] [(14,sl 1 zK a2),(15,iv (a2.length:Int)),(16,iv 0)] [] [] zB ?_
 refine zE3 (zDa.ok a1 a2 q _ (fun v110=>J_j ?_) (([]:List zQ),0))
 refine J_g 30 [] [(4,rr 1 v110)] [(1,rE 3 zQ.enc v110)] zB ?_
 exact zEH (ds:=[rr 1 v110]) (ds':=[so 3 zQ.enc v110]) (.cons (.cell (.move (.head _) (List.length_map _) (by decide) (.nil))) (.nil) (by decide)) rfl
noncomputable def zS9:Code:=(Tryz.f120.body).getD .skip
theorem kI.ok (a1:(List Pack)) (a2:(List Int)):Ok Tryz.prog 120 [sl 8 (Pack.enc false) a1,sl 1 zK a2] [] ((kI a1 a2).map fun r=>(bv r,[])):=by
 refine zG zS9 Tryz.f120 0 10 (fun q=>?_)
 unfold kI
 refine J_d 2 [] [] [] [] [] zB ?_
 refine zA (fun x3 h4=>?_)
 refine J_g 6 [] [(4,bv ((x3.length:Int)==0))] [] (zD 2 (vX («as»:=[sl 8 (Pack.enc false) a1,sl 1 zK a2]) [(.tmp 5),(.tmp 6)] [53,49] false [] [] (.cons (.same rfl) (.cons (.same rfl) (.nil))) (zD9.ok a1 a2) h4 (.own 0)) zB) ?_
 exact zN rfl
noncomputable def c194:Code:=(Tryz.f194.body).getD .skip
theorem xW.ok (a1:ByteArray) (a2:ByteArray):Ok Tryz.prog 194 [sv a1,sv a2] [] ((xW a1 a2).map fun r=>(bv r,[])):=by
 refine zG c194 Tryz.f194 0 18 (fun q=>?_)
 unfold xW
 refine J_d 2 [] [] [] [] [] zB ?_
 refine wL (fun h3=>?_) (fun h3=>?_)
 ·refine zA (fun x4 h5=>?_)
  refine J_g 6 [] [(4,bv (seq x4 a2))] [] (xX 5 [(9,bv (decide ((a1.size:Int)≥(a2.size:Int))))] [] h3 (zBV 9 5 10 true (zQN 9 (.tmp 11) none (some (.tmp 13)) h5) zB)) ?_
  exact zN rfl
 ·refine J_g 6 [] [(4,bv false)] [] (xX 5 [(9,bv (decide ((a1.size:Int)≥(a2.size:Int))))] [] h3 zB) ?_
  exact zN rfl
noncomputable def c146:Code:=(Tryz.f146.body).getD .skip
theorem strings_HasPrefix.ok (a1:ByteArray) (a2:ByteArray):Ok Tryz.prog 146 [sv a1,sv a2] [] ((strings_HasPrefix a1 a2).map fun r=>(bv r,[])):=by
 refine zG c146 Tryz.f146 0 8 (fun q=>?_)
 unfold strings_HasPrefix
 refine J_d 2 [] [] [] [] [] zB ?_
 refine zA (fun x3 h4=>?_)
 refine J_g 6 [] [(4,bv x3)] [] (zD 2 (xR [(.tmp 5),(.tmp 6)] [9,9] (xW.ok a1 a2) h4) zB) ?_
 exact zN rfl
noncomputable def zQi:Code:=(Tryz.f161.body).getD .skip
theorem jH.ok (a1:zC) (a2:ByteArray) (q:Wd) (kn:(List ByteArray)→Option (D×List Ent)) (hk:∀v:(List ByteArray),J (q.g Tryz.prog 161 0 27) zQi (atI zQi 15) (St.mk' [(5,rr 1 v)] [(1,rE 1 eStr v)]) (some v) kn):
  ∀s12:((List ByteArray)×Int),J (q.g Tryz.prog 161 0 27) zQi (atI zQi 116) (St.mk' [(1,sv a2),(5,rr 1 s12.1),(10,sl 2 (File.enc false) a1.Files),(11,iv (a1.Files.length:Int)),(12,iv s12.2)] [(1,rE 1 eStr s12.1)]) (jH a1 a2 s12) kn:=by
 refine jL (fun g ih s12=>?_)
 unfold zD1
 refine J_d 232 [] [13] [(13,bv (decide (s12.2< (a1.Files.length:Int))))] [] [] zB ?_
 refine zF 13 (fun h13=>?_) (fun h13=>?_)
 ·refine zA (fun x14 h15=>?_)
  refine J_d 3736 [(2,2)] [7,13] [(7,pp 2)] [2] [(2,.box (File.enc false x14))] (zD 0 (vR (kk:=.i64) 27 124 2 (File.enc false) (.tmp 10) (.tmp 12) h15) zB) ?_
  refine zA (fun x16 h17=>?_)
  refine J_d 7474 [] [19] [(19,bv x16)] [] [] (zD 3 (xR [(.tmp 17),(.tmp 18)] [9,9] (strings_HasPrefix.ok x14.Path a2) h17) zB) ?_
  refine wB (aft zQi 1868) (fun v21:(List ByteArray)=>St.mk' [(1,sv a2),(5,rr 4 v21),(10,sl 2 (File.enc false) a1.Files),(11,iv (a1.Files.length:Int)),(12,iv s12.2)] [(4,rE 1 eStr v21)]) (fun v21=>?_) (fun jv21=>?_)
  ·refine J_d 935 [] [12] [(12,iv (w64 (s12.2+1)))] [] [] zB ?_
   refine zDV 4 1 (Nat.le_of_ble_eq_true rfl) (Nat.le_of_ble_eq_true rfl) ?_
   exact J_q (J_b (ih (v21,w64 (s12.2+1)))) rfl
  ·refine zF 19 (fun h18=>?_) (fun h18=>?_)
   ·refine zA (fun x19 h20=>?_)
    refine J_d 14950 [] [5,7,19] [(5,rr 4 x19)] [1,2,4] [(4,rE 1 eStr x19)] (zD 3 (zFm 90 9 1 3 eStr [x14.Path] [0] [(.tmp 22)] [sv x14.Path]) (zD 4 (zII 90 90 9 9 1 16 4 1 3 eStr (.tmp 20) (.tmp 23) h20) zB)) ?_
    exact xD (J_j (jv21 x19)) rfl
   ·refine zDV 1 4 (Nat.le_of_ble_eq_true rfl) (Nat.le_of_ble_eq_true rfl) ?_
    exact xD (J_j (jv21 s12.1)) rfl
 ·exact xD (hk s12.1) rfl
theorem zAa.ok (a1:zC) (a2:ByteArray):Ok Tryz.prog 161 [.ag (zC.enc false a1),sv a2] [] ((zAa a1 a2).map fun r=>(so 1 eStr r,[])):=by
 refine zG zQi Tryz.f161 0 27 (fun q=>?_)
 unfold zAa
 refine J_g 2 [(0,0)] [(1,sv a2),(2,pp 0)] [(0,.box (zC.enc false a1))] zB ?_
 refine J_g 6 [] [(1,sv a2),(2,pp 0),(5,rr 1 ([]:List ByteArray))] [(0,.box (zC.enc false a1)),(1,rE 1 eStr ([]:List ByteArray))] (zD 0 (zFm 90 9 1 1 eStr ([]:List ByteArray) [] [] []) zB) ?_
 refine J_d 28 [] [2,10,11,12] [(10,sl 2 (File.enc false) a1.Files),(11,iv (a1.Files.length:Int)),(12,iv 0)] [0] [] zB ?_
 refine zE3 (jH.ok a1 a2 q _ (fun v22=>J_j ?_) (([]:List ByteArray),0))
 refine J_g 30 [] [(4,rr 1 v22)] [(1,rE 1 eStr v22)] zB ?_
 exact zEH (ds:=[rr 1 v22]) (ds':=[so 1 eStr v22]) (.cons (.cell (.move (.head _) (List.length_map _) (by decide) (.nil))) (.nil) (by decide)) rfl
noncomputable def c93:Code:=(Tryz.f93.body).getD .skip
theorem zDd.ok (a1:ByteArray) (q:Wd) (kn:Int→Option (D×List Ent)) (hk:∀v:Int,J (q.g Tryz.prog 93 0 40) c93 (atI c93 31) (St.mk' [(5,iv v)] []) (some v) kn):
  ∀s16:(Int×Int),J (q.g Tryz.prog 93 0 40) c93 (atI c93 244) (St.mk' [(0,sv a1),(5,iv s16.1),(16,iv (a1.size:Int)),(17,iv s16.2)] []) (zDd a1 s16) (Fl.go (fun r:Int=>some (iv r,[])) kn):=by
 refine jL (fun g ih s16=>?_)
 unfold zCG
 refine J_d 488 [] [18] [(18,bv (decide (s16.2< (a1.size:Int))))] [] [] zB ?_
 refine zF 18 (fun h17=>?_) (fun h17=>?_)
 ·refine J_d 7832 [] [6,18] [(6,iv s16.2)] [] [] zB ?_
  refine zA (fun x18 h19=>?_)
  refine wB (atI c93 31333) (fun v23:Bool=>St.mk' [(0,sv a1),(5,iv s16.1),(6,iv s16.2),(16,iv (a1.size:Int)),(17,iv s16.2),(29,bv v23)] []) (fun v23=>?_) (fun jv23=>?_)
  ·refine zF 29 (fun h24=>?_) (fun h24=>?_)
   ·refine J_g 125332 [] [(4,iv (-1))] [] zB ?_
    exact zN rfl
   ·refine zA (fun x25 h26=>?_)
    refine J_g 15667 [] [(0,sv a1),(5,iv (w64 ((w64 (10*s16.1))+(w64 (IntKind.u8.wrap (x25-48)))))),(16,iv (a1.size:Int)),(17,iv s16.2)] [] (zD 4 (zKR (kk:=.i64) 9 (.tmp 32) (.tmp 33) h26) zB) ?_
    refine J_d 1959 [] [17] [(17,iv (w64 (s16.2+1)))] [] [] zB ?_
    exact J_q (J_b (ih (w64 ((w64 (10*s16.1))+(w64 (IntKind.u8.wrap (x25-48)))),w64 (s16.2+1)))) rfl
  ·refine wL (fun h20=>?_) (fun h20=>?_)
   ·refine J_d 31332 [] [29] [(29,bv true)] [] [] (zD 2 (zKR (kk:=.i64) 9 (.tmp 20) (.tmp 21) h19) (xX 4 [(23,bv (decide (x18<48)))] [] h20 zB)) ?_
    exact xD (J_j (jv23 true)) rfl
   ·refine zA (fun x21 h22=>?_)
    refine J_d 31332 [] [29] [(29,bv (decide (x21>57)))] [] [] (zD 2 (zKR (kk:=.i64) 9 (.tmp 20) (.tmp 21) h19) (xX 4 [(23,bv (decide (x18<48)))] [] h20 (zBV 7 4 24 false (zKR (kk:=.i64) 9 (.tmp 25) (.tmp 26) h22) zB))) ?_
    exact xD (J_j (jv23 (decide (x21>57)))) rfl
 ·exact xD (hk s16.1) rfl
theorem zD5.ok (a1:ByteArray) (a2:Int):Ok Tryz.prog 93 [sv a1,iv a2] [] ((zD5 a1 a2).map fun r=>(iv r,[])):=by
 refine zG c93 Tryz.f93 0 40 (fun q=>?_)
 unfold zD5
 refine J_d 2 [] [] [] [] [] zB ?_
 refine wB (atI c93 13) (fun v4:Bool=>St.mk' [(0,sv a1),(14,bv v4)] []) (fun v4=>?_) (fun jv4=>?_)
 ·refine zF 14 (fun h5=>?_) (fun h5=>?_)
  ·refine J_g 52 [] [(4,iv (-1))] [] zB ?_
   exact zN rfl
  ·refine J_g 14 [] [(0,sv a1),(5,iv 0)] [] zB ?_
   refine J_d 60 [] [16,17] [(16,iv (a1.size:Int)),(17,iv 0)] [] [] zB ?_
   refine uZ (K0:=(fun r:Int=>some (iv r,[]))) (fun _=>rfl) (zDd.ok a1 q _ (fun v27=>J_j ?_) (0,0))
   refine J_g 62 [] [(4,iv v27)] [] zB ?_
   exact zN rfl
 ·refine wL (fun h3=>?_) (fun h3=>?_)
  ·refine J_g 12 [] [(0,sv a1),(14,bv true)] [] (xX 2 [(8,bv (seq a1 (bs [])))] [] h3 zB) ?_
   exact xD (J_j (jv4 true)) rfl
  ·refine J_g 12 [] [(0,sv a1),(14,bv (decide ((a1.size:Int)>a2)))] [] (xX 2 [(8,bv (seq a1 (bs [])))] [] h3 zB) ?_
   exact xD (J_j (jv4 (decide ((a1.size:Int)>a2)))) rfl
noncomputable def c95:Code:=(Tryz.f95.body).getD .skip
theorem zBk.ok (x2:(List ByteArray)) (q:Wd) (kn:(List Int)→Option (D×List Ent)) (hk:∀v:(List Int),J (q.g Tryz.prog 95 0 31) c95 (atI c95 15) (St.mk' [(3,rr 1 v)] [(1,rE 1 zK v)]) (some v) kn):
  ∀s17:((List Int)×Int),J (q.g Tryz.prog 95 0 31) c95 (atI c95 116) (St.mk' [(3,rr 1 s17.1),(9,rr 2 x2),(10,iv (x2.length:Int)),(11,iv s17.2)] [(1,rE 1 zK s17.1),(2,rE 1 eStr x2)]) (zBk x2 s17) kn:=by
 refine jL (fun g ih s17=>?_)
 unfold zAG
 refine J_d 232 [] [12] [(12,bv (decide (s17.2< (x2.length:Int))))] [] [] zB ?_
 refine zF 12 (fun h18=>?_) (fun h18=>?_)
 ·refine zA (fun x19 h20=>?_)
  refine J_d 3736 [] [5,12] [(5,sv x19)] [] [] (zD 0 (uN (kk:=.i64) 90 9 1 2 eStr (.tmp 9) (.tmp 11) h20) (zD 1 (zEt (d:=sv x19) 9 1 2 0 eStr (.tmp 13) h20 (by kernel_rfl)) zB)) ?_
  refine zA (fun x21 h22=>?_)
  refine zA (fun x23 h24=>?_)
  refine J_d 7474 [] [6] [(6,iv x23)] [] [] (zD 1 (zQN 9 (.tmp 15) (some (.const (.int .i64 4))) none h22) (zD 2 (xR [(.tmp 16),(.const (.int .i64 6))] [9,3] (zD5.ok x21 6) h24) zB)) ?_
  refine wB (atI c95 14951) (fun v26:Bool=>St.mk' [(3,rr 1 s17.1),(6,iv x23),(9,rr 2 x2),(10,iv (x2.length:Int)),(11,iv s17.2),(24,bv v26)] [(1,rE 1 zK s17.1),(2,rE 1 eStr x2)]) (fun v26=>?_) (fun jv26=>?_)
  ·refine wB (aft c95 1868) (fun v30:(List Int)=>St.mk' [(3,rr 4 v30),(9,rr 2 x2),(10,iv (x2.length:Int)),(11,iv s17.2)] [(2,rE 1 eStr x2),(4,rE 1 zK v30)]) (fun v30=>?_) (fun jv30=>?_)
   ·refine J_d 935 [] [11] [(11,iv (w64 (s17.2+1)))] [] [] zB ?_
    refine zDV 4 1 (Nat.le_of_ble_eq_true rfl) (Nat.le_of_ble_eq_true rfl) ?_
    exact J_q (J_b (ih (v30,w64 (s17.2+1)))) rfl
   ·refine zF 24 (fun h27=>?_) (fun h27=>?_)
    ·refine zA (fun x28 h29=>?_)
     refine J_d 29902 [] [3,6,24] [(3,rr 4 x28)] [1,4] [(4,rE 1 zK x28)] (zD 2 (zFm 49 2 1 3 zK [x23] [0] [(.tmp 26)] [iv x23]) (zD 3 (zII 49 49 2 2 1 8 4 1 3 zK (.tmp 25) (.tmp 27) h29) zB)) ?_
     exact xD (J_j (jv30 x28)) rfl
    ·refine zDV 1 4 (Nat.le_of_ble_eq_true rfl) (Nat.le_of_ble_eq_true rfl) ?_
     exact xD (J_j (jv30 s17.1)) rfl
  ·refine wL (fun h25=>?_) (fun h25=>?_)
   ·refine J_d 14950 [] [5,24] [(24,bv ((x19.size:Int)==10))] [] [] (xX 2 [(19,bv (decide (x23≥1)))] [] h25 zB) ?_
    exact xD (J_j (jv26 ((x19.size:Int)==10))) rfl
   ·refine J_d 14950 [] [5,24] [(24,bv false)] [] [] (xX 2 [(19,bv (decide (x23≥1)))] [] h25 zB) ?_
    exact xD (J_j (jv26 false)) rfl
 ·exact xD (hk s17.1) rfl
theorem zAL.ok (a1:zC):Ok Tryz.prog 95 [.ag (zC.enc false a1)] [] ((zAL a1).map fun r=>(so 1 zK r,[])):=by
 refine zG c95 Tryz.f95 0 31 (fun q=>?_)
 unfold zAL
 refine J_g 2 [(0,0)] [(1,pp 0)] [(0,.box (zC.enc false a1))] zB ?_
 refine J_d 6 [] [3] [(3,rr 1 ([]:List Int))] [1] [(1,rE 1 zK ([]:List Int))] (zD 0 (zFm 49 2 1 1 zK ([]:List Int) [] [] []) zB) ?_
 refine zA (fun x2 h3=>?_)
 refine J_d 28 [] [1,9,10,11] [(9,rr 2 x2),(10,iv (x2.length:Int)),(11,iv 0)] [0,2] [(2,rE 1 eStr x2)] (zD 1 (vX («as»:=[.ag (zC.enc false a1),sv (bs [103,101,110,47])]) [(.tmp 8),(.const (.string (bs [103,101,110,47])))] [29,9] false [] [] (.cons (.same rfl) (.cons (.same rfl) (.nil))) (zAa.ok a1 (bs [103,101,110,47])) h3 (.own 2)) zB) ?_
 refine zE3 (zBk.ok x2 q _ (fun v31=>J_j ?_) (([]:List Int),0))
 refine J_g 30 [] [(2,rr 1 v31)] [(1,rE 1 zK v31)] zB ?_
 exact zEH (ds:=[rr 1 v31]) (ds':=[so 1 zK v31]) (.cons (.cell (.move (.head _) (List.length_map _) (by decide) (.nil))) (.nil) (by decide)) rfl
noncomputable def c47:Code:=(Tryz.f47.body).getD .skip
theorem zBp.ok (x2:(List Int)) (q:Wd) (kn:Int→Option (D×List Ent)) (hk:∀v:Int,J (q.g Tryz.prog 47 0 19) c47 (atI c47 15) (St.mk' [(3,iv v)] []) (some v) kn):
  ∀s7:(Int×Int),J (q.g Tryz.prog 47 0 19) c47 (atI c47 116) (St.mk' [(3,iv s7.1),(7,rr 1 x2),(8,iv (x2.length:Int)),(9,iv s7.2)] [(1,rE 1 zK x2)]) (zBp x2 s7) kn:=by
 refine jL (fun g ih s7=>?_)
 unfold zAu
 refine J_d 232 [] [10] [(10,bv (decide (s7.2< (x2.length:Int))))] [] [] zB ?_
 refine zF 10 (fun h8=>?_) (fun h8=>?_)
 ·refine zA (fun x9 h10=>?_)
  refine J_g 3736 [] [(3,iv s7.1),(5,iv x9),(7,rr 1 x2),(8,iv (x2.length:Int)),(9,iv s7.2)] [(1,rE 1 zK x2)] (zD 0 (uN (kk:=.i64) 49 2 1 1 zK (.tmp 7) (.tmp 9) h10) (zD 1 (zEt (d:=iv x9) 2 1 1 0 zK (.tmp 11) h10 (by kernel_rfl)) zB)) ?_
  refine J_g 3737 [] [(3,iv (if (w64 (x9+1))>s7.1 then (w64 (x9+1)) else s7.1)),(7,rr 1 x2),(8,iv (x2.length:Int)),(9,iv s7.2)] [(1,rE 1 zK x2)] zB ?_
  refine J_d 935 [] [9] [(9,iv (w64 (s7.2+1)))] [] [] zB ?_
  exact J_q (J_b (ih ((if (w64 (x9+1))>s7.1 then (w64 (x9+1)) else s7.1),w64 (s7.2+1)))) rfl
 ·exact xD (hk s7.1) rfl
theorem tL.ok (a1:zC):Ok Tryz.prog 47 [.ag (zC.enc false a1)] [] ((tL a1).map fun r=>(iv r,[])):=by
 refine zG c47 Tryz.f47 0 19 (fun q=>?_)
 unfold tL
 refine J_g 2 [(0,0)] [(1,pp 0)] [(0,.box (zC.enc false a1))] zB ?_
 refine J_d 6 [] [3] [(3,iv 1)] [] [] zB ?_
 refine zA (fun x2 h3=>?_)
 refine J_g 28 [] [(3,iv 1),(7,rr 1 x2),(8,iv (x2.length:Int)),(9,iv 0)] [(1,rE 1 zK x2)] (zD 1 (vX («as»:=[.ag (zC.enc false a1)]) [(.tmp 6)] [29] false [] [] (.cons (.same rfl) (.nil)) (zAL.ok a1) h3 (.own 1)) zB) ?_
 refine zE3 (zBp.ok x2 q _ (fun v11=>J_j ?_) (1,0))
 refine J_g 30 [] [(2,iv v11)] [] zB ?_
 exact zN rfl
noncomputable def zRN:Code:=(Tryz.f251.body).getD .skip
theorem uY.ok (a1:(List Int)):Ok Tryz.prog 251 [sl 1 zK a1] [] ((uY a1).map fun r=>(so 1 zK r,[])):=by
 refine zG zRN Tryz.f251 0 8 (fun q=>?_)
 unfold uY
 refine J_g 2 [] [(0,sl 1 zK a1)] [] zB ?_
 refine J_d 12 [] [4] [(4,.nb a1.length)] [] [] (zD 1 (zNO (xs:=a1) 49 2 49 1 zK (.tmp 3)) zB) ?_
 refine zRF 4 rfl (fun h2=>?_) ?_
 ·obtain rfl:a1=[]:=List.eq_nil_of_length_eq_zero h2
  refine zPl (e':=some ([]:List Int)) (by kernel_rfl) ?_
  refine J_g 52 [] [(2,nv)] [] zB ?_
  exact zEH (ds:=[nv]) (ds':=[so 1 zK ([]:List Int)]) (.cons (.cell (.nilsl true 1 (.nil))) (.nil) (by decide)) rfl
 ·refine zA (fun x3 h4=>?_)
  refine J_g 14 [] [(2,rr 1 x3)] [(1,rE 1 zK x3)] (zD 0 (zFm 49 2 1 0 zK ([]:List Int) [] [] []) (zD 2 (zOm 49 49 2 2 1 8 1 0 zK (.tmp 5) (.tmp 6) h4) zB)) ?_
  exact zEH (ds:=[rr 1 x3]) (ds':=[so 1 zK x3]) (.cons (.cell (.move (.head _) (List.length_map _) (by decide) (.nil))) (.nil) (by decide)) rfl
theorem uU.ok (a1 a2:Int):Ok Tryz.prog 144 [iv a1,iv a2] [] ((uU a1 a2).map fun r=>(sv r,[])):=by
 unfold uU
 split
 ·rename_i h
  obtain ⟨rfl,h0,h1⟩:=h
  exact zPH (vs:=[.int .i64 a1,.int .i64 10]) (fun w hG=>Tryz.strconv_FormatInt_10 a1 h0 h1 w (zO8 (g:=1) hG (by kernel_rfl) (by kernel_rfl)))
 ·exact fun _ h=>by cases h
noncomputable def c77:Code:=(Tryz.f77.body).getD .skip
theorem zAf.ok (a1:Int):Ok Tryz.prog 77 [iv a1] [] ((zAf a1).map fun r=>(sv r,[])):=by
 refine zG c77 Tryz.f77 0 5 (fun q=>?_)
 unfold zAf
 refine J_g 2 [] [(0,iv a1)] [] zB ?_
 refine zA (fun x2 h3=>?_)
 refine J_g 6 [] [(2,sv x2)] [] (zD 1 (xR [(.tmp 3),(.const (.int .i64 10))] [2,3] (uU.ok a1 10) h3) zB) ?_
 exact zN rfl
noncomputable def c72:Code:=(Tryz.f72.body).getD .skip
theorem wZ.ok (a1:Version):Ok Tryz.prog 72 [.ag (Version.enc a1)] [] ((wZ a1).map fun r=>(sv r,[])):=by
 refine zG c72 Tryz.f72 0 16 (fun q=>?_)
 unfold wZ
 refine J_g 2 [(0,0)] [(1,pp 0)] [(0,.box (Version.enc a1))] zB ?_
 refine zA (fun x2 h3=>?_)
 refine zA (fun x4 h5=>?_)
 refine zA (fun x6 h7=>?_)
 refine zA (fun x8 h9=>?_)
 refine zA (fun x10 h11=>?_)
 refine zA (fun x12 h13=>?_)
 refine zA (fun x14 h15=>?_)
 refine J_g 6 [] [(2,sv x14)] [] (zD 2 (xR [(.tmp 4)] [2] (zAf.ok a1.A) h3) (zD 3 (zEo 9 9 (.tmp 5) (.const (.string (bs [46]))) h5) (zD 6 (xR [(.tmp 8)] [2] (zAf.ok a1.B) h7) (zD 7 (zEo 9 9 (.tmp 6) (.tmp 9) h9) (zD 8 (zEo 9 9 (.tmp 10) (.const (.string (bs [46]))) h11) (zD 11 (xR [(.tmp 13)] [2] (zAf.ok a1.C) h13) (zD 12 (zEo 9 9 (.tmp 11) (.tmp 14) h15) zB))))))) ?_
 exact zN rfl
noncomputable def zS8:Code:=(Tryz.f181.body).getD .skip
theorem tK.ok (a1:Pack):Ok Tryz.prog 181 [.ag (Pack.enc false a1)] [] ((tK a1).map fun r=>(sv r,[])):=by
 refine zG zS8 Tryz.f181 0 11 (fun q=>?_)
 unfold tK
 refine J_g 2 [(0,0)] [(1,pp 0)] [(0,.box (Pack.enc false a1))] zB ?_
 refine zA (fun x2 h3=>?_)
 refine zA (fun x4 h5=>?_)
 refine zA (fun x6 h7=>?_)
 refine zA (fun x8 h9=>?_)
 refine J_g 6 [] [(2,sv x8)] [] (zD 2 (zEo 9 9 (.const (.string (bs [112,107,103,47]))) (.tmp 4) h3) (zD 3 (zEo 9 9 (.tmp 5) (.const (.string (bs [45]))) h5) (zD 6 (xR [(.tmp 8)] [39] (wZ.ok a1.Version) h7) (zD 7 (zEo 9 9 (.tmp 6) (.tmp 9) h9) zB)))) ?_
 exact zN rfl
theorem bytealg_CompareString.ok (a1 a2:ByteArray):Ok Tryz.prog 189 [sv a1,sv a2] [] ((bytealg_CompareString a1 a2).map fun r=>(iv r,[])):=
 zRv (vs:=[.string a1,.string a2]) (fun w=>Tryz.bytealg_CompareString a1 a2 w)
noncomputable def c141:Code:=(Tryz.f141.body).getD .skip
theorem strings_Compare.ok (a1:ByteArray) (a2:ByteArray):Ok Tryz.prog 141 [sv a1,sv a2] [] ((strings_Compare a1 a2).map fun r=>(iv r,[])):=by
 refine zG c141 Tryz.f141 0 8 (fun q=>?_)
 unfold strings_Compare
 refine J_d 2 [] [] [] [] [] zB ?_
 refine zA (fun x3 h4=>?_)
 refine J_g 6 [] [(4,iv x3)] [] (zD 2 (xR [(.tmp 5),(.tmp 6)] [9,9] (bytealg_CompareString.ok a1 a2) h4) zB) ?_
 exact zN rfl
noncomputable def zSd:Code:=(Tryz.f140.body).getD .skip
theorem vS.ok (a1:File) (a2:ByteArray):Ok Tryz.prog 140 [.ag (File.enc false a1),sv a2] [] ((vS a1 a2).map fun r=>(iv r,[])):=by
 refine zG zSd Tryz.f140 0 9 (fun q=>?_)
 unfold vS
 refine J_g 2 [(0,0)] [(1,sv a2),(2,pp 0)] [(0,.box (File.enc false a1))] zB ?_
 refine zA (fun x3 h4=>?_)
 refine J_g 6 [] [(4,iv x3)] [] (zD 3 (xR [(.tmp 6),(.tmp 7)] [9,9] (strings_Compare.ok a1.Path a2) h4) zB) ?_
 exact zN rfl
noncomputable def c139:Code:=(Tryz.f139.body).getD .skip
theorem zV.ok (a1:(List File)) (a2:ByteArray) (q:Wd) (kn:Int→Option (D×List Ent)) (hk:∀v:Int,J (q.g Tryz.prog 139 0 49) c139 (atI c139 31) (St.mk' [(0,sl 2 (File.enc false) a1),(1,sv a2),(2,.fn 140 []),(8,iv (a1.length:Int)),(9,iv v)] []) (some v) kn):
  ∀s9:(Int×Int),J (q.g Tryz.prog 139 0 49) c139 (atI c139 120) (St.mk' [(0,sl 2 (File.enc false) a1),(1,sv a2),(2,.fn 140 []),(8,iv (a1.length:Int)),(9,iv s9.1),(10,iv s9.2)] []) (zV a1 a2 s9) kn:=by
 refine jL (fun g ih s9=>?_)
 unfold yN
 refine J_d 480 [] [17] [(17,bv (decide (s9.1<s9.2)))] [] [] zB ?_
 refine zF 17 (fun h10=>?_) (fun h10=>?_)
 ·refine J_d 964 [] [11,17] [(11,iv (w64 ((IntKind.u64.wrap (w64 (s9.1+s9.2))).fdiv (2^(min (1:Int).toNat 64)))))] [] [] zB ?_
  refine zA (fun x11 h12=>?_)
  refine zA (fun x13 h14=>?_)
  refine J_d 1930 [] [31] [(31,bv (decide (x13<0)))] [] [] (zD 3 (vR (kk:=.i64) 27 124 2 (File.enc false) (.tmp 25) (.tmp 26) h12) (zD 6 (zPC («as»:=[.ag (File.enc false x11),sv a2]) (caps:=[]) 24 [(.tmp 28),(.tmp 29)] [124,9] (vS.ok x11 a2) h14) zB)) ?_
  refine zF 31 (fun h15=>?_) (fun h15=>?_)
  ·refine J_d 3862 [] [9,11,31] [(9,iv (w64 ((w64 ((IntKind.u64.wrap (w64 (s9.1+s9.2))).fdiv (2^(min (1:Int).toNat 64))))+1)))] [] [] zB ?_
   exact J_q (J_b (ih (w64 ((w64 ((IntKind.u64.wrap (w64 (s9.1+s9.2))).fdiv (2^(min (1:Int).toNat 64))))+1),s9.2))) rfl
  ·refine J_d 3863 [] [10,11,31] [(10,iv (w64 ((IntKind.u64.wrap (w64 (s9.1+s9.2))).fdiv (2^(min (1:Int).toNat 64)))))] [] [] zB ?_
   exact J_q (J_b (ih (s9.1,w64 ((IntKind.u64.wrap (w64 (s9.1+s9.2))).fdiv (2^(min (1:Int).toNat 64)))))) rfl
 ·exact xD (hk s9.1) rfl
theorem zJ.ok (a1:(List File)) (a2:ByteArray):Ok Tryz.prog 139 [sl 2 (File.enc false) a1,sv a2,.fn 140 []] [] ((zJ a1 a2).map fun r=>(.tu [iv r.1,bv r.2],[])):=by
 refine zG c139 Tryz.f139 0 49 (fun q=>?_)
 unfold zJ
 refine J_g 2 [] [(0,sl 2 (File.enc false) a1),(1,sv a2),(2,.fn 140 [])] [] zB ?_
 refine J_g 6 [] [(0,sl 2 (File.enc false) a1),(1,sv a2),(2,.fn 140 []),(8,iv (a1.length:Int))] [] zB ?_
 refine J_d 14 [] [9,10] [(9,iv 0),(10,iv (a1.length:Int))] [] [] zB ?_
 refine zE3 (zV.ok a1 a2 q _ (fun v16=>J_j ?_) (0,(a1.length:Int)))
 refine wL (fun h17=>?_) (fun h17=>?_)
 ·refine zA (fun x18 h19=>?_)
  refine zA (fun x20 h21=>?_)
  refine J_g 62 [] [(6,iv v16),(7,bv (x20==0))] [] (xX 4 [(38,bv (decide (v16< (a1.length:Int))))] [] h17 (zBV 8 4 39 true (vR (kk:=.i64) 27 124 2 (File.enc false) (.tmp 41) (.tmp 42) h19) (zBV 11 4 39 true (zPC («as»:=[.ag (File.enc false x18),sv a2]) (caps:=[]) 40 [(.tmp 44),(.tmp 45)] [124,9] (vS.ok x18 a2) h21) zB))) ?_
  exact zOr rfl
 ·refine J_g 62 [] [(6,iv v16),(7,bv false)] [] (xX 4 [(38,bv (decide (v16< (a1.length:Int))))] [] h17 zB) ?_
  exact zOr rfl
noncomputable def c74:Code:=(Tryz.f74.body).getD .skip
theorem xV.ok (a1:zC) (a2:ByteArray):Ok Tryz.prog 74 [.ag (zC.enc false a1),sv a2] [] ((xV a1 a2).map fun r=>(.tu [iv r.1,bv r.2],[])):=by
 refine zG c74 Tryz.f74 0 12 (fun q=>?_)
 unfold xV
 refine J_g 2 [(0,0)] [(1,sv a2),(2,pp 0)] [(0,.box (zC.enc false a1))] zB ?_
 refine zA (fun x3 h4=>?_)
 refine J_g 6 [] [(4,iv x3.1),(5,bv x3.2)] [] (zD 3 (vX («as»:=[sl 2 (File.enc false) a1.Files,sv a2,.fn 140 []]) [(.tmp 7),(.tmp 8),(.func 140)] [27,9,173] false [] [] (.cons (.same rfl) (.cons (.same rfl) (.cons (.fn (.nil)) (.nil)))) (zJ.ok a1.Files a2) h4 (.tu (.cons (.same rfl rfl) (.cons (.same rfl rfl) (.nil))))) zB) ?_
 exact zOr rfl
noncomputable def c81:Code:=(Tryz.f81.body).getD .skip
theorem xP.ok (a1:zC) (a2:ByteArray):Ok Tryz.prog 81 [.ag (zC.enc false a1),sv a2] [] ((xP a1 a2).map fun r=>(.tu [sl 1 eU8 r.1,bv r.2],[])):=by
 refine zG c81 Tryz.f81 0 22 (fun q=>?_)
 unfold xP
 refine J_g 2 [(0,0)] [(1,sv a2),(2,pp 0)] [(0,.box (zC.enc false a1))] zB ?_
 refine zA (fun x3 h4=>?_)
 refine J_g 6 [] [(2,pp 0),(6,iv x3.1),(7,bv x3.2)] [(0,.box (zC.enc false a1))] (zD 2 (xR [(.tmp 9),(.tmp 10)] [29,9] (xV.ok a1 a2) h4) zB) ?_
 refine J_d 28 [] [7,15] [(15,bv (!x3.2))] [] [] zB ?_
 refine zF 15 (fun h5=>?_) (fun h5=>?_)
 ·refine J_g 116 [] [(4,nv),(5,bv false)] [] zB ?_
  exact zEH (ds:=[nv,bv false]) (ds':=[sl 1 eU8 ([]:List Int),bv false]) (.cons (.cell (.nilsl false 1 (.nil))) (.cons (.cell (.keep rfl (.nil))) (.nil) (by decide)) (by decide)) rfl
 ·refine zA (fun x6 h7=>?_)
  refine J_g 30 [] [(4,sl 1 eU8 x6.Data),(5,bv true)] [] (zD 3 (vR (kk:=.i64) 27 124 2 (File.enc false) (.tmp 17) (.tmp 18) h7) zB) ?_
  exact zOr rfl
noncomputable def c182:Code:=(Tryz.f182.body).getD .skip
theorem zAy.ok (a1:Pack) (q:Wd) (kn:(List Int)→Option (D×List Ent)) (hk:∀v:(List Int),J (q.g Tryz.prog 182 0 47) c182 (atI c182 63) (St.mk' [(5,rr 1 v)] [(1,rE 1 eU8 v)]) (some v) kn):
  ∀s13:(Int×(List Int)×Int),J (q.g Tryz.prog 182 0 47) c182 (atI c182 500) (St.mk' [(3,uv s13.1),(5,rr 1 s13.2.1),(35,iv a1.Size),(36,iv s13.2.2)] [(1,rE 1 eU8 s13.2.1)]) (zAy a1 s13) kn:=by
 refine jL (fun g ih s13=>?_)
 unfold kP
 refine J_d 1000 [] [37] [(37,bv (decide (s13.2.2<a1.Size)))] [] [] zB ?_
 refine zF 37 (fun h14=>?_) (fun h14=>?_)
 ·refine zA (fun x15 h16=>?_)
  refine J_g 16024 [] [(3,uv s13.1),(5,rr 3 x15),(35,iv a1.Size),(36,iv s13.2.2)] [(3,rE 1 eU8 x15)] (zD 2 (zFm 22 5 1 2 eU8 [s13.1] [0] [(.tmp 39)] [uv s13.1]) (zD 3 (zII 22 22 5 5 1 1 3 1 2 eU8 (.tmp 38) (.tmp 40) h16) zB)) ?_
  refine J_g 16025 [] [(3,uv (IntKind.u8.wrap ((IntKind.u8.wrap (31*s13.1))+7))),(5,rr 3 x15),(35,iv a1.Size),(36,iv s13.2.2)] [(3,rE 1 eU8 x15)] zB ?_
  refine J_d 4007 [] [36] [(36,iv (w64 (s13.2.2+1)))] [] [] zB ?_
  refine zDV 3 1 (Nat.le_of_ble_eq_true rfl) (Nat.le_of_ble_eq_true rfl) ?_
  exact J_q (J_b (ih (IntKind.u8.wrap ((IntKind.u8.wrap (31*s13.1))+7),x15,w64 (s13.2.2+1)))) rfl
 ·exact xD (hk s13.2.1) rfl
theorem zA5.ok (a1:Pack) (q:Wd) (kn:Int→Option (D×List Ent)) (hk:∀v:Int,J (q.g Tryz.prog 182 0 47) c182 (atI c182 15) (St.mk' [(1,pp 0),(3,uv v)] [(0,.box (Pack.enc false a1))]) (some v) kn):
  ∀s5:(Int×Int),J (q.g Tryz.prog 182 0 47) c182 (atI c182 116) (St.mk' [(1,pp 0),(3,uv s5.1),(22,iv (a1.Name.size:Int)),(23,iv s5.2)] [(0,.box (Pack.enc false a1))]) (zA5 a1 s5) kn:=by
 refine jL (fun g ih s5=>?_)
 unfold kM
 refine J_d 232 [] [24] [(24,bv (decide (s5.2< (a1.Name.size:Int))))] [] [] zB ?_
 refine zF 24 (fun h6=>?_) (fun h6=>?_)
 ·refine J_d 3736 [] [4,24] [(4,iv s5.2)] [] [] zB ?_
  refine zA (fun x7 h8=>?_)
  refine J_g 3737 [] [(1,pp 0),(3,uv (IntKind.u8.wrap (s5.1+x7))),(22,iv (a1.Name.size:Int)),(23,iv s5.2)] [(0,.box (Pack.enc false a1))] (zD 4 (zKR (kk:=.i64) 9 (.tmp 28) (.tmp 29) h8) zB) ?_
  refine J_d 935 [] [23] [(23,iv (w64 (s5.2+1)))] [] [] zB ?_
  exact J_q (J_b (ih (IntKind.u8.wrap (s5.1+x7),w64 (s5.2+1)))) rfl
 ·exact xD (hk s5.1) rfl
theorem uI.ok (a1:Pack):Ok Tryz.prog 182 [.ag (Pack.enc false a1)] [] ((uI a1).map fun r=>(so 1 eU8 r,[])):=by
 refine zG c182 Tryz.f182 0 47 (fun q=>?_)
 unfold uI
 refine J_g 2 [(0,0)] [(1,pp 0)] [(0,.box (Pack.enc false a1))] zB ?_
 refine J_g 6 [] [(1,pp 0),(3,uv (IntKind.u8.wrap ((IntKind.u8.wrap ((IntKind.u8.wrap (a1.Version.A))+(IntKind.u8.wrap (a1.Version.B))))+(IntKind.u8.wrap (a1.Version.C)))))] [(0,.box (Pack.enc false a1))] zB ?_
 refine J_d 28 [] [22,23] [(22,iv (a1.Name.size:Int)),(23,iv 0)] [] [] zB ?_
 refine zE3 (zA5.ok a1 q _ (fun v9=>J_j ?_) (IntKind.u8.wrap ((IntKind.u8.wrap ((IntKind.u8.wrap (a1.Version.A))+(IntKind.u8.wrap (a1.Version.B))))+(IntKind.u8.wrap (a1.Version.C))),0))
 refine J_g 30 [] [(1,pp 0),(3,uv v9),(5,rr 1 ([]:List Int))] [(0,.box (Pack.enc false a1)),(1,rE 1 eU8 ([]:List Int))] (zD 0 (zFm 22 5 1 1 eU8 ([]:List Int) [] [] []) zB) ?_
 refine J_d 124 [] [1,35,36] [(35,iv a1.Size),(36,iv 0)] [0] [] zB ?_
 refine zE3 (zAy.ok a1 q _ (fun v17=>J_j ?_) (v9,([]:List Int),0))
 refine J_g 126 [] [(2,rr 1 v17)] [(1,rE 1 eU8 v17)] zB ?_
 exact zEH (ds:=[rr 1 v17]) (ds':=[so 1 eU8 v17]) (.cons (.cell (.move (.head _) (List.length_map _) (by decide) (.nil))) (.nil) (by decide)) rfl
noncomputable def zQv:Code:=(Tryz.f223.body).getD .skip
theorem tX.ok (a1:(List Int)) (a2:(List Int)) (q:Wd) (kn:Unit→Option (D×List Ent)) (hk:∀v:Unit,J (q.g Tryz.prog 223 0 26) zQv (atI zQv 15) (St.mk' [] []) (some v) kn):
  ∀s10:Int,J (q.g Tryz.prog 223 0 26) zQv (atI zQv 116) (St.mk' [(0,sl 1 eU8 a1),(1,sl 1 eU8 a2),(12,iv (a1.length:Int)),(13,iv s10)] []) (tX a1 a2 s10) (Fl.go (fun r:Bool=>some (bv r,[])) kn):=by
 refine jL (fun g ih s10=>?_)
 unfold uR
 refine J_d 232 [] [14] [(14,bv (decide (s10< (a1.length:Int))))] [] [] zB ?_
 refine zF 14 (fun h11=>?_) (fun h11=>?_)
 ·refine J_d 3736 [] [5,14] [(5,iv s10)] [] [] zB ?_
  refine zA (fun x12 h13=>?_)
  refine zA (fun x14 h15=>?_)
  refine J_d 7474 [] [5,24] [(24,bv (x12 !=x14))] [] [] (zD 2 (vR (kk:=.i64) 22 5 1 eU8 (.tmp 16) (.tmp 17) h13) (zD 6 (vR (kk:=.i64) 22 5 1 eU8 (.tmp 20) (.tmp 21) h15) zB)) ?_
  refine zF 24 (fun h16=>?_) (fun h16=>?_)
  ·refine J_g 29900 [] [(4,bv false)] [] zB ?_
   exact zN rfl
  ·refine J_d 935 [] [13,24] [(13,iv (w64 (s10+1)))] [] [] zB ?_
   exact J_q (J_b (ih (w64 (s10+1)))) rfl
 ·exact xD (hk ()) rfl
theorem uJ.ok (a1:(List Int)) (a2:(List Int)):Ok Tryz.prog 223 [sl 1 eU8 a1,sl 1 eU8 a2] [] ((uJ a1 a2).map fun r=>(bv r,[])):=by
 refine zG zQv Tryz.f223 0 26 (fun q=>?_)
 unfold uJ
 refine J_g 2 [] [(0,sl 1 eU8 a1),(1,sl 1 eU8 a2)] [] zB ?_
 refine J_d 12 [] [10] [(10,bv ((a1.length:Int) !=(a2.length:Int)))] [] [] zB ?_
 refine zF 10 (fun h3=>?_) (fun h3=>?_)
 ·refine J_g 52 [] [(4,bv false)] [] zB ?_
  exact zN rfl
 ·refine J_d 28 [] [10,12,13] [(12,iv (a1.length:Int)),(13,iv 0)] [] [] zB ?_
  refine uZ (K0:=(fun r:Bool=>some (bv r,[]))) (fun _=>rfl) (tX.ok a1 a2 q _ (fun v17=>J_j ?_) 0)
  refine J_g 30 [] [(4,bv true)] [] zB ?_
  exact zN rfl
noncomputable def c222:Code:=(Tryz.f222.body).getD .skip
theorem zAN.ok (a1:Int) (a2:zC) (a3:(List Pack)):Ok Tryz.prog 222 [iv a1,pp 0,pp 1] [.box (zC.enc false a2),.box [sl 8 (Pack.enc false) a3]] ((zAN a1 a2 a3).map fun r=>(bv r,[.box (zC.enc false a2),.box [sl 8 (Pack.enc false) a3]])):=by
 refine zG c222 Tryz.f222 2 29 (fun q=>?_)
 unfold zAN
 refine J_d 2 [] [] [] [] [] zB ?_
 refine zA (fun x4 h5=>?_)
 refine zA (fun x6 h7=>?_)
 refine zA (fun x8 h9=>?_)
 refine J_d 6 [] [1,5,6] [(5,sl 1 eU8 x8.1),(6,bv x8.2)] [] [] (zD 3 (vR (kk:=.i64) 53 102 8 (Pack.enc false) (.tmp 9) (.tmp 10) h5) (zD 5 (xR [(.tmp 12)] [102] (tK.ok x4) h7) (zD 6 (xR [(.tmp 8),(.tmp 13)] [29,9] (xP.ok a2 x6) h9) zB))) ?_
 refine wL (fun h10=>?_) (fun h10=>?_)
 ·refine J_d 14 [] [0,2,4,5,6] [(4,bv true)] [] [] (xX 2 [(18,bv (!x8.2))] [] h10 zB) ?_
  exact zN rfl
 ·refine zA (fun x11 h12=>?_)
  refine zA (fun x13 h14=>?_)
  refine zA (fun x15 h16=>?_)
  refine J_d 14 [] [0,2,4,5,6] [(4,bv (!x15))] [] [] (xX 2 [(18,bv (!x8.2))] [] h10 (zBV 6 2 19 false (vR (kk:=.i64) 53 102 8 (Pack.enc false) (.tmp 21) (.tmp 22) h12) (zBV 8 2 19 false (vX («as»:=[.ag (Pack.enc false x11)]) [(.tmp 24)] [102] false [] [] (.cons (.same rfl) (.nil)) (uI.ok x11) h14 (.own 2)) (zBV 9 2 19 false (vX («as»:=[sl 1 eU8 x8.1,rr 2 x13]) [(.tmp 20),(.tmp 25)] [22,22] true [(2,rE 1 eU8 x13)] [] (.cons (.same rfl) (.cons (zFA (.head _) (fun _=>rfl) rfl) (.nil))) (uJ.ok x8.1 x13) h16 (.same rfl rfl) (hbor:=fun _=>⟨fhN,xQ⟩)) zB)))) ?_
  exact zN rfl
noncomputable def zSh:Code:=(Tryz.f252.body).getD .skip
theorem xA.ok (a1:Int) (a2:zC) (a3:(List Pack)):Ok Tryz.prog 252 [iv a1,.pb [.fn 222 [pp 0,pp 1]]] [.box (zC.enc false a2),.box [sl 8 (Pack.enc false) a3]] ((xA a1 a2 a3).map fun r=>(bv r,[.box (zC.enc false a2),.box [sl 8 (Pack.enc false) a3]])):=by
 refine zG zSh Tryz.f252 2 8 (fun q=>?_)
 unfold xA
 refine J_d 2 [] [] [] [] [] zB ?_
 refine zA (fun x4 h5=>?_)
 refine J_d 6 [] [0,1,3] [(3,bv (!x4))] [] [] (zD 0 (zHL (d:=.fn 222 [pp 0,pp 1]) 241 (.tmp 1) [.fn 222 [pp 0,pp 1]]) (zD 2 (zEU [(0,.box (zC.enc false a2)),(1,.box [sl 8 (Pack.enc false) a3])] [] (zI6 4 [(.tmp 5)] [2] false [(0,.box (zC.enc false a2)),(1,.box [sl 8 (Pack.enc false) a3])] [0,1] [iv a1] [pp 0,pp 1] (.cons (.same rfl) (.cons (.pt rfl) (.cons (.pt rfl) (.nil)))) (zAN.ok a1 a2 a3) h5 (.same rfl rfl))) zB)) ?_
 exact zN rfl
theorem yM.ok (a1:(List Int)) (a2:zC) (a3:(List Pack)) (q:Wd) (kn:Unit→Option (D×List Ent)) (hk:∀v:Unit,J (q.g Tryz.prog 245 3 19) zIU (atI zIU 7) (St.mk' [] [(0,rE 1 zK a1),(1,.box (zC.enc false a2)),(2,.box [sl 8 (Pack.enc false) a3])]) (some v) kn):
  ∀s10:Int,J (q.g Tryz.prog 245 3 19) zIU (atI zIU 52) (St.mk' [(0,rr 0 a1),(1,.fn 252 [.pb [.fn 222 [pp 1,pp 2]]]),(7,iv (a1.length:Int)),(8,iv s10)] [(0,rE 1 zK a1),(1,.box (zC.enc false a2)),(2,.box [sl 8 (Pack.enc false) a3])]) (yM a1 a2 a3 s10) (Fl.go (fun r:Int=>some (iv r,[rE 1 zK a1,.box (zC.enc false a2),.box [sl 8 (Pack.enc false) a3]])) kn):=by
 refine jL (fun g ih s10=>?_)
 unfold zT
 refine J_d 104 [] [9] [(9,bv (decide (s10< (a1.length:Int))))] [] [] zB ?_
 refine zF 9 (fun h11=>?_) (fun h11=>?_)
 ·refine J_d 1688 [] [5,9] [(5,iv s10)] [] [] zB ?_
  refine zA (fun x12 h13=>?_)
  refine zA (fun x14 h15=>?_)
  refine J_d 3378 [] [16] [(16,bv x14)] [] [] (zD 3 (uN (kk:=.i64) 49 2 1 0 zK (.tmp 12) (.tmp 13) h13) (zD 4 (zEt (d:=iv x12) 2 1 0 0 zK (.tmp 14) h13 (by kernel_rfl)) (zD 5 (zEU [(1,.box (zC.enc false a2)),(2,.box [sl 8 (Pack.enc false) a3])] [] (zI6 11 [(.tmp 15)] [2] false [(1,.box (zC.enc false a2)),(2,.box [sl 8 (Pack.enc false) a3])] [1,2] [iv x12] [.pb [.fn 222 [pp 1,pp 2]]] (.cons (.same rfl) (.cons (.pb (.cons (.fn (.cons (.pt rfl) (.cons (.pt rfl) (.nil)))) (.nil))) (.nil))) (xA.ok x12 a2 a3) h15 (.same rfl rfl))) zB))) ?_
  refine zF 16 (fun h16=>?_) (fun h16=>?_)
  ·refine J_d 13516 [] [0,1,4,5,7,8,16] [(4,iv s10)] [] [] zB ?_
   exact zN rfl
  ·refine J_d 423 [] [5,8,16] [(8,iv (w64 (s10+1)))] [] [] zB ?_
   exact J_q (J_b (ih (w64 (s10+1)))) rfl
 ·exact xD (hk ()) rfl
theorem zZ.ok (a1:(List Int)) (a2:zC) (a3:(List Pack)):Ok Tryz.prog 245 [rr 0 a1,.fn 252 [.pb [.fn 222 [pp 1,pp 2]]]] [rE 1 zK a1,.box (zC.enc false a2),.box [sl 8 (Pack.enc false) a3]] ((zZ a1 a2 a3).map fun r=>(iv r,[rE 1 zK a1,.box (zC.enc false a2),.box [sl 8 (Pack.enc false) a3]])):=by
 refine zG zIU Tryz.f245 3 19 (fun q=>?_)
 unfold zZ
 refine J_g 2 [] [(0,rr 0 a1),(1,.fn 252 [.pb [.fn 222 [pp 1,pp 2]]])] [(0,rE 1 zK a1),(1,.box (zC.enc false a2)),(2,.box [sl 8 (Pack.enc false) a3])] zB ?_
 refine J_d 12 [] [7,8] [(7,iv (a1.length:Int)),(8,iv 0)] [] [] zB ?_
 refine uZ (K0:=(fun r:Int=>some (iv r,[rE 1 zK a1,.box (zC.enc false a2),.box [sl 8 (Pack.enc false) a3]]))) (fun _=>rfl) (yM.ok a1 a2 a3 q _ (fun v17=>J_j ?_) 0)
 refine J_d 14 [] [4] [(4,iv (-1))] [] [] zB ?_
 exact zN rfl
noncomputable def zQo:Code:=(Tryz.f250.body).getD .skip
theorem yH.ok (a2:zC) (a3:(List Pack)) (q:Wd) (kn:((List Int)×Int)→Option (D×List Ent)) (hk:∀v:((List Int)×Int),J (q.g Tryz.prog 250 3 42) zQo (atI zQo 31) (St.mk' [(0,rr 2 v.1),(5,iv v.2)] [(0,.box (zC.enc false a2)),(1,.box [sl 8 (Pack.enc false) a3]),(2,rE 1 zK v.1)]) (some v) kn):
  ∀s16:((List Int)×Int×Int),J (q.g Tryz.prog 250 3 42) zQo (atI zQo 244) (St.mk' [(0,rr 2 s16.1),(1,.fn 252 [.pb [.fn 222 [pp 0,pp 1]]]),(5,iv s16.2.1),(6,iv s16.2.2)] [(0,.box (zC.enc false a2)),(1,.box [sl 8 (Pack.enc false) a3]),(2,rE 1 zK s16.1)]) (yH a2 a3 s16) kn:=by
 refine jL (fun g ih s16=>?_)
 unfold zS
 refine J_d 976 [] [19] [(19,bv (decide (s16.2.2< (s16.1.length:Int))))] [] [] zB ?_
 refine zF 19 (fun h17=>?_) (fun h17=>?_)
 ·refine zA (fun x18 h19=>?_)
  refine J_d 3912 [] [7,19] [(7,iv x18)] [] [] (zD 2 (uN (kk:=.i64) 49 2 1 2 zK (.tmp 22) (.tmp 23) h19) (zD 3 (zEt (d:=iv x18) 2 1 2 0 zK (.tmp 24) h19 (by kernel_rfl)) zB)) ?_
  refine zA (fun x20 h21=>?_)
  refine J_d 7826 [] [29] [(29,bv (!x20))] [] [] (zD 2 (zEU [(0,.box (zC.enc false a2)),(1,.box [sl 8 (Pack.enc false) a3])] [] (zI6 26 [(.tmp 27)] [2] false [(0,.box (zC.enc false a2)),(1,.box [sl 8 (Pack.enc false) a3])] [0,1] [iv x18] [.pb [.fn 222 [pp 0,pp 1]]] (.cons (.same rfl) (.cons (.pb (.cons (.fn (.cons (.pt rfl) (.cons (.pt rfl) (.nil)))) (.nil))) (.nil))) (xA.ok x18 a2 a3) h21 (.same rfl rfl))) zB) ?_
  refine wB (aft zQo 1956) (fun v25:((List Int)×Int)=>St.mk' [(0,rr 2 v25.1),(1,.fn 252 [.pb [.fn 222 [pp 0,pp 1]]]),(5,iv v25.2),(6,iv s16.2.2)] [(0,.box (zC.enc false a2)),(1,.box [sl 8 (Pack.enc false) a3]),(2,rE 1 zK v25.1)]) (fun v25=>?_) (fun jv25=>?_)
  ·refine J_d 979 [] [6] [(6,iv (w64 (s16.2.2+1)))] [] [] zB ?_
   exact J_q (J_b (ih (v25.1,v25.2,w64 (s16.2.2+1)))) rfl
  ·refine zF 29 (fun h22=>?_) (fun h22=>?_)
   ·refine zA (fun x23 h24=>?_)
    refine J_g 31308 [] [(0,rr 2 s16.1),(1,.fn 252 [.pb [.fn 222 [pp 0,pp 1]]]),(5,iv s16.2.1),(6,iv s16.2.2)] [(0,.box (zC.enc false a2)),(1,.box [sl 8 (Pack.enc false) a3]),(2,rE 1 zK (s16.1.set s16.2.1.toNat x18))] (zD 3 (uN (kk:=.i64) 49 2 1 2 zK (.tmp 30) (.tmp 31) h24) (zGO 4 (zHY (b:=x18) 2 1 2 0 zK (iv x18) (.tmp 33) (.tmp 32) h24 rfl) zB)) ?_
    refine zFQ (σ':=St.mk' [(0,rr 2 (s16.1.set s16.2.1.toNat x18)),(1,.fn 252 [.pb [.fn 222 [pp 0,pp 1]]]),(5,iv s16.2.1),(6,iv s16.2.2)] [(0,.box (zC.enc false a2)),(1,.box [sl 8 (Pack.enc false) a3]),(2,rE 1 zK (s16.1.set s16.2.1.toNat x18))]) (by simp only [rr,List.length_set]) ?_
    refine J_d 31309 [] [5] [(5,iv (w64 (s16.2.1+1)))] [] [] zB ?_
    exact xD (J_j (jv25 (s16.1.set s16.2.1.toNat x18,w64 (s16.2.1+1)))) rfl
   ·exact xD (J_j (jv25 (s16.1,s16.2.1))) rfl
 ·exact xD (hk (s16.1,s16.2.1)) rfl
theorem zP.ok (a1:(List Int)) (a2:zC) (a3:(List Pack)):Ok Tryz.prog 250 [rr 2 a1,.fn 252 [.pb [.fn 222 [pp 0,pp 1]]]] [.box (zC.enc false a2),.box [sl 8 (Pack.enc false) a3],rE 1 zK a1] ((zP a1 a2 a3).map fun r=>(so 1 zK r,[.box (zC.enc false a2),.box [sl 8 (Pack.enc false) a3]])):=by
 refine zG zQo Tryz.f250 3 42 (fun q=>?_)
 unfold zP
 refine J_d 2 [] [] [] [] [] zB ?_
 refine zA (fun x4 h5=>?_)
 refine J_g 6 [] [(0,rr 2 a1),(1,.fn 252 [.pb [.fn 222 [pp 0,pp 1]]]),(5,iv x4)] [(0,.box (zC.enc false a2)),(1,.box [sl 8 (Pack.enc false) a3]),(2,rE 1 zK a1)] (zD 2 (zEU [(2,rE 1 zK a1),(0,.box (zC.enc false a2)),(1,.box [sl 8 (Pack.enc false) a3])] [] (vX («as»:=[rr 2 a1,.fn 252 [.pb [.fn 222 [pp 0,pp 1]]]]) [(.tmp 8),(.tmp 9)] [49,241] false [(2,rE 1 zK a1),(0,.box (zC.enc false a2)),(1,.box [sl 8 (Pack.enc false) a3])] [2,0,1] (.cons (.rf rfl) (.cons (.fn (.cons (.pb (.cons (.fn (.cons (.pt rfl) (.cons (.pt rfl) (.nil)))) (.nil))) (.nil))) (.nil))) (zZ.ok a1 a2 a3) h5 (.same rfl rfl))) zB) ?_
 refine J_d 28 [] [12] [(12,bv (x4==(-1)))] [] [] zB ?_
 refine zF 12 (fun h6=>?_) (fun h6=>?_)
 ·refine J_g 116 [] [(4,rr 2 a1)] [(0,.box (zC.enc false a2)),(1,.box [sl 8 (Pack.enc false) a3]),(2,rE 1 zK a1)] zB ?_
  exact zEH (ds:=[rr 2 a1]) (ds':=[so 1 zK a1]) (.cons (.cell (.move (.tail _ (.tail _ (.head _))) (List.length_map _) (by decide) (.nil))) (.nil) (by decide)) rfl
 ·refine J_d 60 [] [6,12] [(6,iv (w64 (x4+1)))] [] [] zB ?_
  refine zE3 (yH.ok a2 a3 q _ (fun v26=>J_j ?_) (a1,x4,w64 (x4+1)))
  refine zA (fun x27 h28=>?_)
  refine zA (fun x29 h30=>?_)
  refine J_g 62 [] [(0,rr 2 v26.1),(5,iv v26.2)] [(0,.box (zC.enc false a2)),(1,.box [sl 8 (Pack.enc false) a3]),(2,rE 1 zK x29)] (zD 2 (zOl 49 2 1 2 zK (.tmp 36) (some (.tmp 37)) none h28) (zGO 3 (zRy (l:=v26.2) (a:=0) 49 2 1 2 zK (.tmp 38) h30 (.keep rfl (.nil))) zB)) ?_
  refine zFQ (σ':=St.mk' [(0,rr 2 x29),(5,iv v26.2)] [(0,.box (zC.enc false a2)),(1,.box [sl 8 (Pack.enc false) a3]),(2,rE 1 zK x29)]) (by simp only [rr,zOX h30]) ?_
  refine zA (fun x31 h32=>?_)
  refine J_g 126 [] [(4,rr 3 x31)] [(0,.box (zC.enc false a2)),(1,.box [sl 8 (Pack.enc false) a3]),(3,rE 1 zK x31)] (zD 2 (zR0 49 2 1 2 3 zK (.tmp 39) none (some (.tmp 40)) h32) zB) ?_
  exact zEH (ds:=[rr 3 x31]) (ds':=[so 1 zK x31]) (.cons (.cell (.move (.tail _ (.tail _ (.head _))) (List.length_map _) (by decide) (.nil))) (.nil) (by decide)) rfl
noncomputable def zRX:Code:=(Tryz.f221.body).getD .skip
theorem wU.ok (a1:(List Int)) (a2:zC) (a3:(List Pack)):Ok Tryz.prog 221 [sl 1 zK a1,.fn 222 [pp 0,pp 1]] [.box (zC.enc false a2),.box [sl 8 (Pack.enc false) a3]] ((wU a1 a2 a3).map fun r=>(so 1 zK r,[.box (zC.enc false a2),.box [sl 8 (Pack.enc false) a3]])):=by
 refine zG zRX Tryz.f221 2 9 (fun q=>?_)
 unfold wU
 refine J_d 2 [] [1,3] [(3,.pb [.fn 222 [pp 0,pp 1]])] [] [] (zD 0 (zNk 241 (.tmp 1) (.fn 222 [pp 0,pp 1])) zB) ?_
 refine zA (fun x4 h5=>?_)
 refine zA (fun x6 h7=>?_)
 refine J_g 6 [] [(4,rr 3 x6)] [(0,.box (zC.enc false a2)),(1,.box [sl 8 (Pack.enc false) a3]),(3,rE 1 zK x6)] (zD 1 (vX («as»:=[sl 1 zK a1]) [(.tmp 5)] [49] false [] [] (.cons (.same rfl) (.nil)) (uY.ok a1) h5 (.own 2)) (zD 3 (vX («as»:=[rr 2 x4,.fn 252 [.pb [.fn 222 [pp 0,pp 1]]]]) [(.tmp 6),(.tmp 7)] [49,241] false [(0,.box (zC.enc false a2)),(1,.box [sl 8 (Pack.enc false) a3]),(2,rE 1 zK x4)] [0,1,2] (.cons (.rf rfl) (.cons (.fn (.cons (.pb (.cons (.fn (.cons (.pt rfl) (.cons (.pt rfl) (.nil)))) (.nil))) (.nil))) (.nil))) (zP.ok x4 a2 a3) h7 (.own 3)) zB)) ?_
 exact zEH (ds:=[rr 3 x6]) (ds':=[so 1 zK x6]) (.cons (.cell (.move (.tail _ (.tail _ (.head _))) (List.length_map _) (by decide) (.nil))) (.nil) (by decide)) rfl
noncomputable def zSn:Code:=(Tryz.f180.body).getD .skip
theorem zCn.ok (a1:(List Pack)) (a2:zC) (a3:(List Int)):Ok Tryz.prog 180 [sl 8 (Pack.enc false) a1,.ag (zC.enc false a2),sl 1 zK a3] [] ((zCn a1 a2 a3).map fun r=>(so 1 zK r,[])):=by
 refine zG zSn Tryz.f180 0 10 (fun q=>?_)
 unfold zCn
 refine J_g 2 [(0,0),(1,1)] [(2,sl 1 zK a3),(3,pp 0),(4,pp 1)] [(0,.box [sl 8 (Pack.enc false) a1]),(1,.box (zC.enc false a2))] zB ?_
 refine zA (fun x4 h5=>?_)
 refine J_g 6 [] [(6,rr 2 x4)] [(2,rE 1 zK x4)] (zD 2 (zEU [(1,.box (zC.enc false a2)),(0,.box [sl 8 (Pack.enc false) a1])] [(2,rE 1 zK x4)] (vX («as»:=[sl 1 zK a3,.fn 222 [pp 1,pp 0]]) [(.tmp 7),(.tmp 8)] [49,241] false [(1,.box (zC.enc false a2)),(0,.box [sl 8 (Pack.enc false) a1])] [1,0] (.cons (.same rfl) (.cons (.fn (.cons (.pt rfl) (.cons (.pt rfl) (.nil)))) (.nil))) (wU.ok a3 a2 a1) h5 (.own 2))) zB) ?_
 exact zEH (ds:=[rr 2 x4]) (ds':=[so 1 zK x4]) (.cons (.cell (.move (.head _) (List.length_map _) (by decide) (.nil))) (.nil) (by decide)) rfl
theorem strings_Repeat.ok (a1:ByteArray) (a2:Int):Ok Tryz.prog 78 [sv a1,iv a2] [] ((strings_Repeat a1 a2).map fun r=>(sv r,[])):=by
 unfold strings_Repeat
 split
 ·rename_i h
  obtain ⟨h0,h1,h2⟩:=h
  obtain ⟨n,rfl⟩:=Int.eq_ofNat_of_zero_le h0
  exact zOG (vs:=[.string a1,.int .i64 n]) (fun w=>Tryz.strings_Repeat a1 n w (by omega) h2)
 ·exact fun _ h=>by cases h
noncomputable def c36:Code:=(Tryz.f36.body).getD .skip
theorem zCz.ok (a1:Int):Ok Tryz.prog 36 [iv a1] [] ((zCz a1).map fun r=>(sv r,[])):=by
 refine zG c36 Tryz.f36 0 13 (fun q=>?_)
 unfold zCz
 refine J_g 2 [] [(0,iv a1)] [] zB ?_
 refine zA (fun x2 h3=>?_)
 refine J_g 6 [] [(3,sv x2)] [] (zD 1 (xR [(.tmp 4)] [2] (zAf.ok a1) h3) zB) ?_
 refine zA (fun x4 h5=>?_)
 refine zA (fun x6 h7=>?_)
 refine zA (fun x8 h9=>?_)
 refine J_g 14 [] [(2,sv x8)] [] (zD 3 (xR [(.const (.string (bs [48]))),(.tmp 8)] [9,3] (strings_Repeat.ok (bs [48]) (w64 (6-(x2.size:Int)))) h5) (zD 4 (zEo 9 9 (.const (.string (bs [103,101,110,47]))) (.tmp 9) h7) (zD 6 (zEo 9 9 (.tmp 10) (.tmp 11) h9) zB))) ?_
 exact zN rfl
theorem strings_Join.ok (a1:List ByteArray) (a2:ByteArray):Ok Tryz.prog 253 [sl 1 eStr a1,sv a2] [] ((strings_Join a1 a2).map fun r=>(sv r,[])):=by
 unfold strings_Join
 split
 ·rename_i h
  exact zPN (fun h=>⟨by subst h; rfl,fun a c w=>Tryz.strings_Join_none a c a2 w⟩) (fun bk o c w hc hb hcap=>Tryz.strings_Join bk o c a1 a2 w hc hb h.1 hcap h.2)
 ·exact fun _ h=>by cases h
noncomputable def zSs:Code:=(Tryz.f224.body).getD .skip
theorem zD8.ok (a1:(List ByteArray)):Ok Tryz.prog 224 [sl 1 eStr a1] [] ((zD8 a1).map fun r=>(sv r,[])):=by
 refine zG zSs Tryz.f224 0 5 (fun q=>?_)
 unfold zD8
 refine J_d 2 [] [] [] [] [] zB ?_
 refine zA (fun x2 h3=>?_)
 refine J_g 6 [] [(2,sv x2)] [] (zD 1 (xR [(.tmp 3),(.const (.string (bs [32])))] [90,9] (strings_Join.ok a1 (bs [32])) h3) zB) ?_
 exact zN rfl
noncomputable def c183:Code:=(Tryz.f183.body).getD .skip
theorem zCa.ok (a1:(List Pack)) (a2:(List Int)) (q:Wd) (kn:ByteArray→Option (D×List Ent)) (hk:∀v:ByteArray,J (q.g Tryz.prog 183 0 32) c183 (atI c183 15) (St.mk' [(5,sv v)] []) (some v) kn):
  ∀s18:(ByteArray×Int),J (q.g Tryz.prog 183 0 32) c183 (atI c183 116) (St.mk' [(0,sl 8 (Pack.enc false) a1),(5,sv s18.1),(8,sl 1 zK a2),(9,iv (a2.length:Int)),(10,iv s18.2)] []) (zCa a1 a2 s18) kn:=by
 refine jL (fun g ih s18=>?_)
 unfold zBJ
 refine J_d 232 [] [11] [(11,bv (decide (s18.2< (a2.length:Int))))] [] [] zB ?_
 refine zF 11 (fun h19=>?_) (fun h19=>?_)
 ·refine zA (fun x20 h21=>?_)
  refine J_d 3736 [] [7,11] [(7,iv x20)] [] [] (zD 0 (vR (kk:=.i64) 49 2 1 zK (.tmp 8) (.tmp 10) h21) zB) ?_
  refine zA (fun x22 h23=>?_)
  refine zA (fun x24 h25=>?_)
  refine zA (fun x26 h27=>?_)
  refine zA (fun x28 h29=>?_)
  refine zA (fun x30 h31=>?_)
  refine zA (fun x32 h33=>?_)
  refine J_g 3737 [] [(0,sl 8 (Pack.enc false) a1),(5,sv x32),(8,sl 1 zK a2),(9,iv (a2.length:Int)),(10,iv s18.2)] [] (zD 3 (vR (kk:=.i64) 53 102 8 (Pack.enc false) (.tmp 15) (.tmp 16) h23) (zD 8 (vR (kk:=.i64) 53 102 8 (Pack.enc false) (.tmp 20) (.tmp 21) h25) (zD 11 (xR [(.tmp 24)] [39] (wZ.ok x24.Version) h27) (zD 12 (zFm 90 9 1 0 eStr [x22.Name,x26] [0,1] [(.tmp 19),(.tmp 25)] [sv x22.Name,sv x26]) (zD 13 (vX («as»:=[rr 0 [x22.Name,x26]]) [(.tmp 26)] [90] true [(0,rE 1 eStr [x22.Name,x26])] [] (.cons (zFA (.head _) (fun _=>rfl) rfl) (.nil)) (zD8.ok [x22.Name,x26]) h29 (.same rfl rfl) (hbor:=fun _=>⟨fhN,xQ⟩)) (zD 14 (zEo 9 9 (.tmp 27) (.const (.string (bs [10]))) h31) (zD 15 (zEo 9 9 (.tmp 14) (.tmp 28) h33) zB))))))) ?_
  refine J_d 935 [] [10] [(10,iv (w64 (s18.2+1)))] [] [] zB ?_
  exact J_q (J_b (ih (x32,w64 (s18.2+1)))) rfl
 ·exact xD (hk s18.1) rfl
theorem zCD.ok (a1:(List Pack)) (a2:(List Int)):Ok Tryz.prog 183 [sl 8 (Pack.enc false) a1,sl 1 zK a2] [] ((zCD a1 a2).map fun r=>(sv r,[])):=by
 refine zG c183 Tryz.f183 0 32 (fun q=>?_)
 unfold zCD
 refine J_g 2 [] [(0,sl 8 (Pack.enc false) a1),(1,sl 1 zK a2)] [] zB ?_
 refine J_g 6 [] [(0,sl 8 (Pack.enc false) a1),(1,sl 1 zK a2),(5,sv (bs []))] [] zB ?_
 refine J_d 28 [] [1,8,9,10] [(8,sl 1 zK a2),(9,iv (a2.length:Int)),(10,iv 0)] [] [] zB ?_
 refine zE3 (zCa.ok a1 a2 q _ (fun v34=>J_j ?_) (bs [],0))
 refine J_g 30 [] [(4,sv v34)] [] zB ?_
 exact zN rfl
noncomputable def zQG:Code:=(Tryz.f121.body).getD .skip
theorem zHN.ok (a1:(List Pack)) (a2:zC) (a3:(List Int)) (x4:(List Int)) (q:Wd) (kn:(List File)→Option (D×List Ent)) (hk:∀v:(List File),J (q.g Tryz.prog 121 1 52) zQG (atI zQG 15) (St.mk' [(0,sl 8 (Pack.enc false) a1),(2,sl 1 zK a3),(4,pp 1),(7,rr 2 v)] [(0,rE 2 (File.enc true) a2.Files),(1,.box [rr 0 a2.Files,iv a2.Budget,iv a2.Writes,iv a2.Stop,bv a2.Down]),(2,rE 2 (File.enc true) v)]) (some v) kn):
  ∀s19:((List File)×Int),J (q.g Tryz.prog 121 1 52) zQG (atI zQG 116) (St.mk' [(0,sl 8 (Pack.enc false) a1),(2,sl 1 zK a3),(4,pp 1),(7,rr 2 s19.1),(15,rr 3 x4),(16,iv (x4.length:Int)),(17,iv s19.2)] [(0,rE 2 (File.enc true) a2.Files),(1,.box [rr 0 a2.Files,iv a2.Budget,iv a2.Writes,iv a2.Stop,bv a2.Down]),(2,rE 2 (File.enc true) s19.1),(3,rE 1 zK x4)]) (zEV a1 a2 a3 x4 s19) kn:=by
 refine jL (fun g ih s19=>?_)
 unfold zCB
 refine J_d 232 [] [18] [(18,bv (decide (s19.2< (x4.length:Int))))] [] [] zB ?_
 refine zF 18 (fun h20=>?_) (fun h20=>?_)
 ·refine zA (fun x21 h22=>?_)
  refine J_d 3736 [] [9,18] [(9,iv x21)] [] [] (zD 0 (uN (kk:=.i64) 49 2 1 3 zK (.tmp 15) (.tmp 17) h22) (zD 1 (zEt (d:=iv x21) 2 1 3 0 zK (.tmp 19) h22 (by kernel_rfl)) zB)) ?_
  refine zA (fun x23 h24=>?_)
  refine zA (fun x25 h26=>?_)
  refine zA (fun x27 h28=>?_)
  refine zA (fun x29 h30=>?_)
  refine zA (fun x31 h32=>?_)
  refine J_g 3737 [] [(0,sl 8 (Pack.enc false) a1),(2,sl 1 zK a3),(4,pp 1),(7,rr 6 x31),(15,rr 3 x4),(16,iv (x4.length:Int)),(17,iv s19.2)] [(0,rE 2 (File.enc true) a2.Files),(1,.box [rr 0 a2.Files,iv a2.Budget,iv a2.Writes,iv a2.Stop,bv a2.Down]),(3,rE 1 zK x4),(6,rE 2 (File.enc true) x31)] (zD 3 (vR (kk:=.i64) 53 102 8 (Pack.enc false) (.tmp 22) (.tmp 23) h24) (zD 5 (xR [(.tmp 25)] [102] (tK.ok x23) h26) (zD 8 (vR (kk:=.i64) 53 102 8 (Pack.enc false) (.tmp 27) (.tmp 28) h28) (zD 10 (vX («as»:=[.ag (Pack.enc false x27)]) [(.tmp 30)] [102] false [] [] (.cons (.same rfl) (.nil)) (uI.ok x27) h30 (.own 4)) (zD 12 (zQQ (ds:=[sv x25,rr 4 x29]) (ts:=[4]) 27 124 2 5 (File.enc true) [({Path:=x25,Data:=x29}:File)] [0] [(.tmp 32)] [.ag [sv x25,rr 4 x29]] [(4,rE 1 eU8 x29)] (.keep rfl (.move (.head _) (List.length_map _) (by decide) (.nil)))) (zD 13 (zII 27 27 124 124 2 40 6 2 5 (File.enc true) (.tmp 21) (.tmp 33) h32) zB)))))) ?_
  refine J_d 935 [] [17] [(17,iv (w64 (s19.2+1)))] [] [] zB ?_
  refine zDV 6 2 (Nat.le_of_ble_eq_true rfl) (Nat.le_of_ble_eq_true rfl) ?_
  exact J_q (J_b (ih (x31,w64 (s19.2+1)))) rfl
 ·exact xD (hk s19.1) rfl
theorem zKf.ok (a1:(List Pack)) (a2:zC) (a3:(List Int)):Ok Tryz.prog 121 [sl 8 (Pack.enc false) a1,.ag [rr 0 a2.Files,iv a2.Budget,iv a2.Writes,iv a2.Stop,bv a2.Down],sl 1 zK a3] [rE 2 (File.enc true) a2.Files] ((zEC a1 a2 a3).map fun r=>(so 2 (File.enc false) r,[rE 2 (File.enc true) a2.Files])):=by
 refine zG zQG Tryz.f121 1 52 (fun q=>?_)
 unfold zEC
 refine J_g 2 [(0,1)] [(0,sl 8 (Pack.enc false) a1),(2,sl 1 zK a3),(4,pp 1)] [(0,rE 2 (File.enc true) a2.Files),(1,.box [rr 0 a2.Files,iv a2.Budget,iv a2.Writes,iv a2.Stop,bv a2.Down])] zB ?_
 refine J_d 6 [] [7] [(7,rr 2 ([]:List File))] [2] [(2,rE 2 (File.enc false) ([]:List File))] (zD 0 (zFm 27 124 2 2 (File.enc false) ([]:List File) [] [] []) zB) ?_
 refine zA (fun x4 h5=>?_)
 refine J_d 28 [] [15,16,17] [(15,rr 3 x4),(16,iv (x4.length:Int)),(17,iv 0)] [3] [(3,rE 1 zK x4)] (zD 3 (vX («as»:=[sl 8 (Pack.enc false) a1,.ag [rr 0 a2.Files,iv a2.Budget,iv a2.Writes,iv a2.Stop,bv a2.Down],sl 1 zK a3]) [(.tmp 12),(.tmp 13),(.tmp 14)] [53,29,49] true [(0,rE 2 (File.enc true) a2.Files)] [] (.cons (.same rfl) (.cons (.ag (.cons (zFA (.head _) (File.ro true) rfl) (.cons (.same rfl) (.cons (.same rfl) (.cons (.same rfl) (.cons (.same rfl) (.nil))))))) (.cons (.same rfl) (.nil)))) (zCn.ok a1 a2 a3) h5 (.own 3) (hbor:=fun _=>⟨fhN,(zHu (zJj (fun _=>(flatK xQ zGA)) _))⟩)) zB) ?_
 refine zE3 (zHN.ok a1 a2 a3 x4 q _ (fun v33=>J_j ?_) (([]:List File),0))
 refine zA (fun x34 h35=>?_)
 refine J_d 30 [] [4,10] [(10,iv x34)] [1] [] (zD 1 (vX («as»:=[.ag [rr 0 a2.Files,iv a2.Budget,iv a2.Writes,iv a2.Stop,bv a2.Down]]) [(.tmp 36)] [29] true [(0,rE 2 (File.enc true) a2.Files)] [] (.cons (.ag (.cons (zFA (.head _) (File.ro true) rfl) (.cons (.same rfl) (.cons (.same rfl) (.cons (.same rfl) (.cons (.same rfl) (.nil))))))) (.nil)) (tL.ok a2) h35 (.same rfl rfl) (hbor:=fun _=>⟨fhN,xQ⟩)) zB) ?_
 refine zA (fun x36 h37=>?_)
 refine zA (fun x38 h39=>?_)
 refine zA (fun x40 h41=>?_)
 refine wM [(0,sl 8 (Pack.enc false) a1),(2,sl 1 zK a3),(7,rr 2 v33),(10,iv x34)] [(2,rE 2 (File.enc true) v33),(0,rE 2 (File.enc true) a2.Files)] (by kernel_rfl) ?_
 refine zMs 2 (zEf (enc:=(File.enc true)) (enc':=(File.enc false)) (File.ro true) _) ?_
 refine wM [(0,sl 8 (Pack.enc false) a1),(2,sl 1 zK a3),(7,rr 2 v33),(10,iv x34)] [(0,rE 2 (File.enc true) a2.Files),(2,rE 2 (File.enc false) v33)] (by kernel_rfl) ?_
 refine zA (fun x42 h43=>?_)
 refine J_g 62 [] [(6,rr 4 x42)] [(0,rE 2 (File.enc true) a2.Files),(4,rE 2 (File.enc false) x42)] (zD 2 (xR [(.tmp 39)] [2] (zCz.ok x34) h37) (zD 5 (xR [(.tmp 41),(.tmp 42)] [53,49] (zCD.ok a1 a3) h39) (zD 6 (zOV (s:=x38) 9 22 5 (.tmp 43)) (zD 9 (xR [(.tmp 46)] [2] (zAf.ok x34) h41) (zD 10 (zOV (s:=x40) 9 22 5 (.tmp 47)) (zD 12 (zFm 27 124 2 3 (File.enc false) [({Path:=x36,Data:=s2b x38}:File),({Path:=bs [99,117,114],Data:=s2b x40}:File)] [0,1] [(.tmp 45),(.tmp 49)] [.ag [sv x36,sl 1 eU8 (s2b x38)],.ag [sv (bs [99,117,114]),sl 1 eU8 (s2b x40)]]) (zD 13 (zII 27 27 124 124 2 40 4 2 3 (File.enc false) (.tmp 38) (.tmp 50) h43) zB))))))) ?_
 exact zEH (ds:=[rr 4 x42]) (ds':=[so 2 (File.enc false) x42]) (.cons (.cell (.move (.tail _ (.head _)) (List.length_map _) (by decide) (.nil))) (.nil) (by decide)) rfl
noncomputable def zSq:Code:=(Tryz.f122.body).getD .skip
theorem zAM.ok (a1:zC) (a2:File):Ok Tryz.prog 122 [.ag (zC.enc false a1),.ag (File.enc false a2)] [] ((zAM a1 a2).map fun r=>(iv r,[])):=by
 refine zG zSq Tryz.f122 0 20 (fun q=>?_)
 unfold zAM
 refine J_g 2 [(0,0),(1,1)] [(2,pp 0),(3,pp 1)] [(0,.box (zC.enc false a1)),(1,.box (File.enc false a2))] zB ?_
 refine zA (fun x3 h4=>?_)
 refine J_g 6 [] [(3,pp 1),(5,sl 1 eU8 x3.1)] [(1,.box (File.enc false a2))] (zD 3 (xR [(.tmp 8),(.tmp 10)] [29,9] (xP.ok a1 a2.Path) h4) zB) ?_
 refine J_g 14 [] [(4,iv (w64 ((a2.Data.length:Int)-(x3.1.length:Int))))] [] zB ?_
 exact zN rfl
section
open Go.Shelf Go.RowKit Go.Lib
set_option linter.unusedVariables false
set_option linter.unusedSimpArgs false
set_option maxHeartbeats 4000000 in
set_option maxRecDepth 100000 in
theorem zMp (b off n c i vb voff m vc:Nat) (cs vs:List Value) (w:World) (hi:i<n) (hm:0<m) (hroom:n+m≤c) (h63:n+m≤9223372036854775807) (hvb:vb≠b)
  (hcl:cs.length=n*2) (hvl:vs.length=m*2)
  (hcs:∀j v,cs[j]? =some v→w.cell? ⟨b,off+j,none⟩=some v) (hsp:∀j,j< (n+m)*2→(w.cell? ⟨b,off+j,none⟩).isSome =true) (hfz:∀j,j< (n+m)*2→w.frozen? ⟨b,off+j,none⟩=false)
  (hvs:∀j v,vs[j]? =some v→w.cell? ⟨vb,voff+j,none⟩=some v) (h1c:∀v∈cs,v.oneCell'=true) (h1v:∀v∈vs,v.oneCell'=true)
  (tA tB:TypeId) (kA kB:Nat) (hsa:w.shape? vb=some (tA,kA)) (hsb:w.shape? b=some (tB,kB)) (hkB:kB≠0) (hfa:w.frozen? ⟨vb,voff,none⟩=false) (hfe:w.frozen? ⟨vb,kA,none⟩=false):
  Calls Tryz.prog 75 #[.slice (some ⟨b,off,none⟩) n c,.int .i64 i,.slice (some ⟨vb,voff,none⟩) m vc] w fun e w'=>
   e= .returned (.slice (some ⟨b,off,none⟩) (n+m) c)∧w'=(w.drew.setCells b (off+(i+m)*2) (cs.drop (i*2))).setCells b (off+i*2) vs:=by
 have hz1:¬((m:Int)=0):=by omega
 have hz2:¬((i:Int)=(n:Int)):=by omega
 have hsz:(Tryz.prog.info? 124).map (·.size)=some 2:=by kernel_rfl
 have hov:∀lb cb,(callFunc 142 #[.slice (some ⟨vb,voff,none⟩) m vc,.slice (some ⟨b,off+(i+m)*2,none⟩) lb cb]).run Tryz.prog w= .ok (.value (.bool false)) w:=fun lb cb=>by
  rw [run_callFunc_extern Tryz.func142 (by kernel_rfl) (by kernel_rfl) (by kernel_rfl) (e:=Extern.SlicesOverlaps.overlaps #[27,27] #[4]) (by kernel_rfl),
   Lib.run_overlaps_apart w 27 4 124 Tryz.underlying27 2 Tryz.sizeOf124 ⟨vb,voff,none⟩ ⟨b,off+(i+m)*2,none⟩ m vc lb cb hvb tA tB kA kB hsa hsb hkB hfa hfe]
  rfl
 have hdl:(cs.drop (i*2)).length =(n-i)*2:=by rw [List.length_drop,hcl]; omega
 have mixed:Tryz.prog.follows .mixedOrders =true:=by kernel_rfl
 have hw1:IntKind.i64.wrap ((i:Int)+(m:Int))=(i:Int)+(m:Int):=by rw [IntKind.wrap_i64]; omega
 have hb1:(0:Int)≤(i:Int)+(m:Int):=by omega
 have hin:i≤n:=by omega
 have htn:((i:Int)+(m:Int)).toNat =i+m:=by omega
 have hb2:¬(c=i+m):=by omega
 have hb3:(i:Int)≤(n:Int)+(m:Int):=by omega
 have hb4:¬(c=i):=by omega
 have hcp1:∀ty dc sc,(Builtin.copy_ #[27,27] ty #[.slice (some ⟨b,off+(i+m)*2,none⟩) (n+m-(i+m)) dc,.slice (some ⟨b,off+i*2,none⟩) (n+m-i) sc]).run Tryz.prog w.drew= .ok (goInt (Nat.min (n+m-i) (n+m-(i+m)))) (w.drew.setCells b (off+(i+m)*2) (cs.drop (i*2))):=fun ty dc sc=>
  zFO w.drew _ _ ty 124 2 b (off+(i+m)*2) (n+m-(i+m)) dc ⟨b,off+i*2,none⟩ (n+m-i) sc (cs.drop (i*2)) Tryz.underlying27 hsz (by rw [hdl]; simp only [Nat.min_def]; split<;>omega)
   (fun j v hj=>by rw [Addr.add_lit,Nat.add_assoc]; exact hcs (i*2+j) v (by rwa [List.getElem?_drop] at hj))
   (fun j hj=>by rw [Nat.add_assoc]; exact hsp _ (by omega)) (fun j hj=>by rw [Nat.add_assoc]; exact hfz _ (by omega)) (fun v hv=>h1c v (List.mem_of_mem_drop hv))
 obtain ⟨W1,hW1⟩:∃W1,W1=w.drew.setCells b (off+(i+m)*2) (cs.drop (i*2)):=⟨_,rfl⟩
 have hsp1:∀k,k< (n+m)*2→(W1.cell? ⟨b,off+k,none⟩).isSome =true:=fun k hk=>by
  rw [hW1]
  exact isSome_setCells b _ _ _ (fun j hj=>by rw [Nat.add_assoc]; exact hsp _ (by omega)) _ (hsp k hk)
 have hcp2:∀(W:World),(∀x,W.cell? x=W1.cell? x)→(∀x,W.frozen? x=W1.frozen? x)→∀ty dc,(Builtin.copy_ #[27,27] ty #[.slice (some ⟨b,off+i*2,none⟩) (n+m-i) dc,.slice (some ⟨vb,voff,none⟩) m vc]).run Tryz.prog W= .ok (goInt (Nat.min m (n+m-i))) (W.setCells b (off+i*2) vs):=fun W hWc hWf ty dc=>
  zFO W _ _ ty 124 2 b (off+i*2) (n+m-i) dc ⟨vb,voff,none⟩ m vc vs Tryz.underlying27 hsz (by rw [hvl]; simp only [Nat.min_def]; split<;>omega)
   (fun j v hj=>by
    rw [Addr.add_lit,hWc,hW1,World.cell?_setCells_out b _ _ _ _ (fun h _=>absurd h hvb)]
    exact hvs j v hj)
   (fun j hj=>by rw [hWc,Nat.add_assoc]; exact hsp1 _ (by omega)) (fun j hj=>by rw [hWf,hW1,World.frozen?_setCells,Nat.add_assoc]; exact hfz _ (by omega)) h1v
 rw [←hW1] at hcp1
 clear hsp hfz hcs hvs hsp1 h1c h1v hdl hcl hvl
 go_enter Tryz.func75,Tryz.ntmps75
 go_wp2_with (simp only [hov])
 go_region_law_o (refine step_copy_runI rfl _ _ 27 27 rfl _ _ (by simp [Act.eval,Act.put]) (by simp [Act.eval,Act.put]) (hcp1 _ _ _) ?_)
 go_wp2_with (at_builtin; refine wpList_copy_runI _ rfl _ _ 27 27 rfl _ _ rfl rfl (hcp2 _ (fun _=>rfl) (fun _=>rfl) _ _) ?_)
 go_ret
 first|exact ⟨rfl,rfl⟩|exact ⟨rfl,by rw [hW1]⟩
set_option maxHeartbeats 4000000 in
set_option maxRecDepth 100000 in
theorem zLT (base:Option Addr) (n c vb voff m vc:Nat) (w w1:World) (r:Value) (hm:0<m) (hnc:n≤c) (h63:n+m≤9223372036854775807) (hnil:base=none→n=0∧c=0)
  (hrun:(Builtin.append_ #[27,27] 27 #[.slice base n c,.slice (some ⟨vb,voff,none⟩) m vc]).run Tryz.prog w= .ok r w1):
  Calls Tryz.prog 75 #[.slice base n c,.int .i64 n,.slice (some ⟨vb,voff,none⟩) m vc] w fun e w'=>e= .returned r∧w'=w1:=by
 have hz1:¬((m:Int)=0):=by omega
 have mixed:Tryz.prog.follows .mixedOrders =true:=by kernel_rfl
 go_enter Tryz.func75,Tryz.ntmps75
 cases base with
 |none=>
  obtain ⟨rfl,rfl⟩:=hnil rfl
  go_wp2_with (at_builtin; refine Lib.wpList_append_run _ rfl _ _ _ _ rfl _ _ rfl rfl _ _ hrun ?_)
  go_ret
  exact ⟨rfl,rfl⟩
 |some a=>
  obtain ⟨ab,ao,asp⟩:=a
  go_wp2_with (at_builtin; refine Lib.wpList_append_run _ rfl _ _ _ _ rfl _ _ rfl rfl _ _ hrun ?_)
  all_goals (go_ret; exact ⟨rfl,rfl⟩)
set_option maxHeartbeats 4000000 in
set_option maxRecDepth 100000 in
theorem zOn (b off n c i vb voff m vc:Nat) (cs vs:List Value) (w:World) (hi:i<n) (hm:0<m) (hnc:n≤c) (hroom:c<n+m) (hbig:(n+m)*40≤140737488355328)
  (hcl:cs.length=n*2) (hvl:vs.length=m*2)
  (hcs:∀j v,cs[j]? =some v→w.cell? ⟨b,off+j,none⟩=some v)
  (hvs:∀j v,vs[j]? =some v→w.cell? ⟨vb,voff+j,none⟩=some v) (h1c:∀v∈cs,v.oneCell'=true) (h1v:∀v∈vs,v.oneCell'=true) (zv:Value) (hzv:Tryz.t124.zero=some zv) (hzs:zv.cells.size=2):
  Calls Tryz.prog 75 #[.slice (some ⟨b,off,none⟩) n c,.int .i64 i,.slice (some ⟨vb,voff,none⟩) m vc] w fun e w'=>
   e= .returned (.slice (some ⟨w.heap.size,0,none⟩) (n+m) (grownCap w (n+m) c 124))∧
   w'=(((w.alloc (.cells ((cs.take (i*2)).toArray ++Builtin.zeroCells zv.cells (n+m-i)++Builtin.zeroCells zv.cells (grownCap w (n+m) c 124-(n+m))) 124)).drew.setCells w.heap.size (i*2) vs).drew).setCells w.heap.size ((i+m)*2) (cs.drop (i*2)):=by
 have mixed:Tryz.prog.follows .mixedOrders =true:=by kernel_rfl
 have hi0:Tryz.prog.info? 124=some Tryz.t124:=by kernel_rfl
 have hzz:Tryz.t124.size=2:=by kernel_rfl
 have hzb:Tryz.t124.bytes=40:=by kernel_rfl
 have hz1:¬((m:Int)=0):=by omega
 have hz2:¬((i:Int)=(n:Int)):=by omega
 have hz3:(c:Int)< (n:Int)+(m:Int):=by omega
 have hsz:(Tryz.prog.info? 124).map (·.size)=some 2:=by kernel_rfl
 have hbw:b<w.heap.size:=block_lt_of_cell (hcs 0 _ (List.getElem?_eq_getElem (by omega)))
 have hvw:vb<w.heap.size:=block_lt_of_cell (hvs 0 _ (List.getElem?_eq_getElem (by omega)))
 have hkk:(n:Int)+(m:Int)-(i:Int)=((n+m-i:Nat):Int):=by omega
 have hik:i+(n+m-i)=n+m:=by omega
 have hold:(Builtin.firstCells Tryz.t124.size i (.slice (some ⟨b,off,none⟩) i c)).run Tryz.prog w.drew= .ok (cs.take (i*2)).toArray w.drew:=by
  rw [hzz]
  exact run_firstCells_some w.drew 2 i ⟨b,off,none⟩ i c (cs.take (i*2)) (by rw [List.length_take]; omega) (fun j v hj=>by
   rw [Addr.add_lit]
   rw [List.getElem?_take] at hj
   split at hj
   ·exact hcs j v hj
   ·cases hj)
 have hrz:∀ty,(Builtin.append_ #[27,3] ty #[.slice (some ⟨b,off,none⟩) i c,.int .i64 ((n:Int)+(m:Int)-(i:Int))]).run Tryz.prog w=
   .ok (.slice (some ⟨w.heap.size,0,none⟩) (n+m) (grownCap w (n+m) c 124)) (w.drew.alloc (.cells ((cs.take (i*2)).toArray ++Builtin.zeroCells zv.cells (n+m-i)++Builtin.zeroCells zv.cells (grownCap w (n+m) c 124-(n+m))) 124)):=fun ty=>by
  have h:=Lib.run_append_grow_zeros w 27 3 ty 124 Tryz.t124 _ .i64 .i64 Tryz.underlying27 Tryz.underlying3 hi0 hzv (some ⟨b,off,none⟩) i c (cs.take (i*2)) hold (n+m-i) (by omega) (by omega) (by omega) (by omega) (by rw [hzb]; omega) (by rw [hzb,hik]; exact growslice_fits hroom hbig)
  rw [hik] at h
  rw [hkk]
  exact h
 obtain ⟨G,hG⟩:∃G,G=grownCap w (n+m) c 124:=⟨_,rfl⟩
 obtain ⟨ROW,hROW⟩:∃ROW:Array Value,ROW=(cs.take (i*2)).toArray ++Builtin.zeroCells zv.cells (n+m-i)++Builtin.zeroCells zv.cells (G-(n+m)):=⟨_,rfl⟩
 rw [←hG] at hrz ⊢
 rw [←hROW] at hrz ⊢
 have hRl:(n+m)*2≤ROW.size:=by
  rw [hROW]
  simp [Builtin.zeroCells,hzs]
  omega
 obtain ⟨W1,hW1⟩:∃W1,W1=w.drew.alloc (.cells ROW 124):=⟨_,rfl⟩
 rw [←hW1] at hrz
 have hN:∀j,j< (n+m)*2→(W1.cell? ⟨w.heap.size,j,none⟩).isSome =true:=fun j hj=>by
  rw [hW1,World.cell?_alloc_at (w:=w.drew) ROW _ w.heap.size j rfl,Array.getElem?_eq_getElem (by omega)]; rfl
 have hNf:∀j,W1.frozen? ⟨w.heap.size,j,none⟩=false:=fun j=>by rw [hW1]; exact World.frozen?_alloc_at (w:=w.drew) ROW _ w.heap.size j rfl
 have hOb:∀j v,w.cell? ⟨b,j,none⟩=some v→W1.cell? ⟨b,j,none⟩=some v:=fun j v h=>by rw [hW1,World.cell?_alloc_past (w:=w.drew) _ b j hbw]; exact h
 have hOv:∀j v,w.cell? ⟨vb,j,none⟩=some v→W1.cell? ⟨vb,j,none⟩=some v:=fun j v h=>by rw [hW1,World.cell?_alloc_past (w:=w.drew) _ vb j hvw]; exact h
 have hcpA:∀(W:World),(∀x,W.cell? x=W1.cell? x)→(∀x,W.frozen? x=W1.frozen? x)→∀ty dc,(Builtin.copy_ #[27,27] ty #[.slice (some ⟨w.heap.size,i*2,none⟩) (n+m-i) dc,.slice (some ⟨vb,voff,none⟩) m vc]).run Tryz.prog W= .ok (goInt (Nat.min m (n+m-i))) (W.setCells w.heap.size (i*2) vs):=fun W hWc hWf ty dc=>
  zFO W _ _ ty 124 2 w.heap.size (i*2) (n+m-i) dc ⟨vb,voff,none⟩ m vc vs Tryz.underlying27 hsz (by rw [hvl]; simp only [Nat.min_def]; split<;>omega)
   (fun j v hj=>by rw [Addr.add_lit,hWc]; exact hOv _ v (hvs j v hj))
   (fun j hj=>by rw [hWc]; exact hN _ (by omega)) (fun j hj=>by rw [hWf]; exact hNf _) h1v
 have hGn:n+m≤G:=by rw [hG]; exact grownCap_ge w _ _ _
 have hG63:G≤9223372036854775807:=by
  have:=grownCap_le_maxLen w (n+m) c 124 (by unfold maxLen; omega)
  rw [←hG] at this
  unfold maxLen at this
  omega
 have hGi:¬(G=i):=by omega
 have hGim:¬(G=i+m):=by omega
 have hci:¬(c=i):=by omega
 have hbN:b≠w.heap.size:=by omega
 have hdl:(cs.drop (i*2)).length =(n-i)*2:=by rw [List.length_drop,hcl]; omega
 have hcpB:∀(W:World),(∀x,W.cell? x=(W1.setCells w.heap.size (i*2) vs).cell? x)→(∀x,W.frozen? x=(W1.setCells w.heap.size (i*2) vs).frozen? x)→∀ty dc sc,(Builtin.copy_ #[27,27] ty #[.slice (some ⟨w.heap.size,(i+m)*2,none⟩) (n+m-(i+m)) dc,.slice (some ⟨b,off+i*2,none⟩) (n-i) sc]).run Tryz.prog W= .ok (goInt (Nat.min (n-i) (n+m-(i+m)))) (W.setCells w.heap.size ((i+m)*2) (cs.drop (i*2))):=fun W hWc hWf ty dc sc=>
  zFO W _ _ ty 124 2 w.heap.size ((i+m)*2) (n+m-(i+m)) dc ⟨b,off+i*2,none⟩ (n-i) sc (cs.drop (i*2)) Tryz.underlying27 hsz (by rw [hdl]; simp only [Nat.min_def]; split<;>omega)
   (fun j v hj=>by
    rw [Addr.add_lit,hWc,World.cell?_setCells_out _ _ _ _ _ (fun h _=>absurd h hbN),Nat.add_assoc]
    exact hOb _ v (hcs (i*2+j) v (by rwa [List.getElem?_drop] at hj)))
   (fun j hj=>by rw [hWc]; exact isSome_setCells _ _ _ _ (fun t ht=>hN _ (by omega)) _ (hN _ (by omega)))
   (fun j hj=>by rw [hWf,World.frozen?_setCells]; exact hNf _) (fun v hv=>h1c v (List.mem_of_mem_drop hv))
 subst hW1
 have hE1:∀x,((w.alloc (.cells ROW 124)).drew).cell? x=(w.drew.alloc (.cells ROW 124)).cell? x:=fun x=>rfl
 have hE2:∀x,((w.alloc (.cells ROW 124)).drew).frozen? x=(w.drew.alloc (.cells ROW 124)).frozen? x:=fun x=>rfl
 have hF1:∀x,(((w.alloc (.cells ROW 124)).drew.setCells w.heap.size (i*2) vs).drew).cell? x=((w.drew.alloc (.cells ROW 124)).setCells w.heap.size (i*2) vs).cell? x:=fun x=>rfl
 have hF2:∀x,(((w.alloc (.cells ROW 124)).drew.setCells w.heap.size (i*2) vs).drew).frozen? x=((w.drew.alloc (.cells ROW 124)).setCells w.heap.size (i*2) vs).frozen? x:=fun x=>rfl
 have hw1:IntKind.i64.wrap ((i:Int)+(m:Int))=(i:Int)+(m:Int):=by rw [IntKind.wrap_i64]; omega
 have hb1:(0:Int)≤(i:Int)+(m:Int):=by omega
 have hin:i≤n:=by omega
 have htn:((i:Int)+(m:Int)).toNat =i+m:=by omega
 have hb3:(i:Int)≤(n:Int):=by omega
 clear hkk hik hold hROW hG hRl hcs hvs hOb hOv hN hNf h1c h1v hcl hvl hdl hzv hzs
 go_enter Tryz.func75,Tryz.ntmps75
 go_wp2_with (first
  |(at_builtin; refine Lib.wpList_append_run _ rfl _ _ _ _ rfl _ _ rfl rfl _ _ (hrz _) ?_)
  |(at_builtin; refine wpList_copy_runI _ rfl _ _ 27 27 rfl _ _ rfl rfl (hcpA _ hE1 hE2 _ _) ?_)
  |(at_builtin; refine wpList_copy_runI _ rfl _ _ 27 27 rfl _ _ rfl rfl (hcpB _ (fun _=>rfl) (fun _=>rfl) _ _ _) ?_))
 go_region_law_o (refine step_copy_runI rfl _ _ 27 27 rfl (.slice (some ⟨w.heap.size,(i+m)*2,none⟩) (n+m-(i+m)) (G-(i+m))) (.slice (some ⟨b,off+i*2,none⟩) (n-i) (c-i)) (by simp [Act.eval,Act.put]) (by simp [Act.eval,Act.put]) (hcpB _ hF1 hF2 3 (G-(i+m)) (c-i)) ?_)
 go_wp2
 go_ret
 exact ⟨rfl,rfl⟩
theorem zOy (n m:Nat) (i:Int) (h0:0≤i) (h1:i≤n) (hm:0<m) (hbig:n+m≤1099511627776) (w:World) (v u:Value) (wx wy:List Value) (bx bz:List Nat) (hD1:Dst w 2 n v wx bx) (hD2:Dst w 2 m u wy bz) (hd:∀b∈bx,b∉bz) (q1:∀q∈wx,Value.oneCell q=true) (q2:∀q∈wy,Value.oneCell q=true):
  Calls Tryz.prog 75 #[v,.int .i64 i,u] w fun e w'=>∃r,e= .returned r∧zMS w w' 2 (n+m) 0 (wx.take (i.toNat*2)++(wy++wx.drop (i.toNat*2))) [] bx r:=by
 obtain ⟨k,rfl⟩:=Int.eq_ofNat_of_zero_le h0
 have hk:k≤n:=by omega
 rw [Int.toNat_natCast]
 have e1:∀q∈wx,q.oneCell'=true:=fun q hq=>by rw [zGX]; exact q1 q hq
 have e2:∀q∈wy,q.oneCell'=true:=fun q hq=>by rw [zGX]; exact q2 q hq
 rcases hD2 with ⟨_,hm0,_⟩|⟨vb,voff,vc,rfl,rfl,hmc,hO2,hl2⟩
 ·omega
 have hvs:∀j v,wy[j]? =some v→w.cell? ⟨vb,voff+j,none⟩=some v:=fun j v hj=>by
  obtain ⟨hlt,rfl⟩:=List.getElem?_eq_some_iff.1 hj
  exact hO2.has.cell j hlt
 by_cases hkn:k=n
 ·subst hkn
  have hsrc:Go.Src Tryz.prog 2 27 (.slice (some ⟨vb,voff,none⟩) m vc) m wy w:=zFC Tryz.underlying27 q2 (.inr ⟨vb,voff,vc,rfl,hO2.has,hl2⟩)
  have hl1:wx.length=k*2:=by
   rcases hD1 with ⟨_,rfl,rfl,_⟩|⟨_,_,_,_,_,_,_,h⟩
   ·rfl
   ·exact h
  obtain ⟨r,w1,hrun,hA⟩:=zFK (ty:=27) (T:=27) (U:=27) (bytes:=40) (zv:=zIw Tryz.prog 124) Tryz.underlying27 (by kernel_rfl) (by kernel_rfl) hD1 hsrc (by omega) (by omega)
  have hA':zMS w w1 2 (k+m) 0 (wx.take (k*2)++(wy++wx.drop (k*2))) [] bx r:=by
   rw [List.take_of_length_le (by omega),List.drop_of_length_le (by omega),List.append_nil]
   obtain ⟨g1,g2⟩:=hA
   refine ⟨g1,?_⟩
   rcases g2 with ⟨g2,_⟩|⟨b,off,c,g3,g4,g5,g6⟩
   ·omega
   ·exact .inr ⟨b,off,c,g3,g4,by rw [List.append_nil]; exact g5,g6⟩
  rcases hD1 with ⟨rfl,rfl,rfl,rfl⟩|⟨b,off,c,rfl,rfl,hnc,hO1,_⟩
  ·refine (zLT none 0 0 vb voff m vc w w1 r hm (Nat.le_refl _) (by omega) (fun _=>⟨rfl,rfl⟩) hrun).mono ?_
   rintro e w' ⟨rfl,rfl⟩
   exact ⟨_,rfl,hA'⟩
  ·refine (zLT (some ⟨b,off,none⟩) k c vb voff m vc w w1 r hm hnc (by omega) (fun h=>by cases h) hrun).mono ?_
   rintro e w' ⟨rfl,rfl⟩
   exact ⟨_,rfl,hA'⟩
 ·rcases hD1 with ⟨_,hn0,_⟩|⟨b,off,c,rfl,rfl,hnc,hO1,hl1⟩
  ·omega
  have hvb:vb≠b:=fun e=>hd b (by simp) (by simp [e])
  have hcs:∀j v,wx[j]? =some v→w.cell? ⟨b,off+j,none⟩=some v:=fun j v hj=>by
   obtain ⟨hlt,rfl⟩:=List.getElem?_eq_some_iff.1 hj
   exact hO1.has.cell j hlt
  by_cases hroom:n+m≤c
  ·obtain ⟨arr,e,lo,hi,g1,g2,g3,g4⟩:=id hO1
   obtain ⟨arr2,e',lo2,hi2,p1,p2,p3,p4⟩:=hO2
   refine (zMp b off n c k vb voff m vc wx wy w (by omega) hm hroom (by omega) hvb hl1 hl2 hcs (fun j hj=>?_) (fun j hj=>zGT g1 g2 (by omega)) hvs e1 e2 e' e arr2.size arr.size (by simp [World.shape?,p1]) (by simp [World.shape?,g1]) (by omega) (zGT p1 p2 (by omega)) (zGT p1 p2 (Nat.le_refl _))).mono ?_
   ·rw [cell_of g1,Array.getElem?_eq_getElem (by omega)]; rfl
   ·rintro e' w' ⟨rfl,rfl⟩
    refine ⟨_,rfl,?_⟩
    rw [vZ,vZ]
    exact zMA (w:=w) (w0:=w.drew) ⟨rfl,rfl,rfl⟩ hO1 hl1 hl2 hk hroom
  ·refine (zOn b off n c k vb voff m vc wx wy w (by omega) hm hnc (by omega) (by omega) hl1 hl2 hcs hvs e1 e2 (zIw Tryz.prog 124) (by kernel_rfl) (by kernel_rfl)).mono ?_
   rintro e' w' ⟨rfl,rfl⟩
   refine ⟨_,rfl,?_⟩
   have hge:=grownCap_ge w (n+m) c 124
   have hz2:(zIw Tryz.prog 124).cells.size =2:=by kernel_rfl
   rw [←drew_setCells,vZ,vZ]
   refine zMS.world (zNF (w:=w) (w0:=(w.alloc (.cells ((wx.take (k*2)).toArray ++Builtin.zeroCells (zIw Tryz.prog 124).cells (n+m-k)++Builtin.zeroCells (zIw Tryz.prog 124).cells (grownCap w (n+m) c 124-(n+m))) 124)).drew) (c:=grownCap w (n+m) c 124) (z:=2) (blk:=[b]) ⟨rfl,rfl,rfl⟩ (fun q hq=>?_) ?_ hl1 hl2 hk hge) (by omega) rfl ⟨rfl,rfl⟩
   ·rw [Array.append_assoc,Array.getElem?_append_left (by simp; omega)]
    simp [List.getElem?_take,hq]
   ·simp [Builtin.zeroCells,hz2]
    omega
theorem vQ.ok (a1:List File) (a2:Int) (a3:List File):Ok Tryz.prog 75 [rr 0 a1,iv a2,rr 1 a3] [rE 2 (File.enc true) a1,rE 2 (File.enc true) a3] ((vQ a1 a2 a3).map fun r=>(so 2 (File.enc true) r,[])):=by
 unfold vQ
 split
 ·rename_i h
  obtain ⟨h0,h1,h2,h3⟩:=h
  exact zNo (fun _=>rfl) h0 h1 (fun w v u wx wy bx bz hD1 hD2 hd _ q1 q2=>zOy a1.length a3.length a2 h0 h1 h2 h3 w v u wx wy bx bz hD1 hD2 hd q1 q2)
 ·exact fun _ h=>by cases h
end
noncomputable def c35:Code:=(Tryz.f35.body).getD .skip
theorem kJ.ok (a1:zC) (a2:ByteArray) (a3:(List Int)):Ok Tryz.prog 35 [pp 0,sv a2,sl 1 eU8 a3] [.box (zC.enc true a1)] ((kJ a1 a2 a3).map fun r=>(.tu [],[.box (zC.enc true r)])):=by
 refine zG c35 Tryz.f35 1 39 (fun q=>?_)
 unfold kJ
 refine yI 0 (cs':=[rr 1 a1.Files,iv a1.Budget,iv a1.Writes,iv a1.Stop,bv a1.Down]) (es:=[(1,rE 2 (File.enc true) a1.Files)]) rfl (.cons (.own 1) (.cons (.same rfl rfl) (.cons (.same rfl rfl) (.cons (.same rfl rfl) (.cons (.same rfl rfl) (.nil)))))) rfl (by kernel_rfl) (by kernel_rfl) ?_
 refine wM [(0,pp 0),(1,sv a2),(2,sl 1 eU8 a3)] [(0,.box [rr 1 a1.Files,iv a1.Budget,iv a1.Writes,iv a1.Stop,bv a1.Down]),(1,rE 2 (File.enc true) a1.Files)] (by kernel_rfl) ?_
 refine zA (fun x4 h5=>?_)
 refine J_g 2 [] [(0,pp 0),(1,sv a2),(2,sl 1 eU8 a3),(6,iv x4.1),(7,bv x4.2)] [(0,.box [rr 1 a1.Files,iv a1.Budget,iv a1.Writes,iv a1.Stop,bv a1.Down]),(1,rE 2 (File.enc true) a1.Files)] (zD 4 (vX («as»:=[.ag [rr 1 a1.Files,iv a1.Budget,iv a1.Writes,iv a1.Stop,bv a1.Down],sv a2]) [(.tmp 11),(.tmp 12)] [75,9] true [(1,rE 2 (File.enc true) a1.Files)] [] (.cons (.ag (.cons (zFA (.head _) (File.ro true) rfl) (.cons (.same rfl) (.cons (.same rfl) (.cons (.same rfl) (.cons (.same rfl) (.nil))))))) (.cons (.same rfl) (.nil))) (xV.ok a1 a2) h5 (.tu (.cons (.same rfl rfl) (.cons (.same rfl rfl) (.nil)))) (hbor:=fun _=>⟨fhN,(zL2 (flatK xQ (flatK xQ zGA)))⟩)) zB) ?_
 refine J_d 12 [] [7,17] [(17,bv (!x4.2))] [] [] zB ?_
 refine wB (atI c35 7) (fun v9:(List File)=>St.mk' [(0,pp 0),(2,sl 1 eU8 a3),(6,iv x4.1)] [(0,.box [rr 3 v9,iv a1.Budget,iv a1.Writes,iv a1.Stop,bv a1.Down]),(3,rE 2 (File.enc true) v9)]) (fun v9=>?_) (fun jv9=>?_)
 ·refine zA (fun x10 h11=>?_)
  refine zA (fun x12 h13=>?_)
  refine J_g 7 [] [] [(0,.box [rr 3 v9,iv a1.Budget,iv a1.Writes,iv a1.Stop,bv a1.Down]),(3,rE 2 (File.enc true) (v9.set x4.1.toNat ({Path:=x12.Path,Data:=x10}:File)))] (zD 6 (vX («as»:=[sl 1 eU8 a3]) [(.tmp 35)] [22] false [] [] (.cons (.same rfl) (.nil)) (wK.ok a3) h11 (.own 4)) (zD 7 (uN (kk:=.i64) 27 124 2 3 (File.enc true) (.tmp 33) (.tmp 34) h13) (zGO 9 (zOI (b:=({Path:=x12.Path,Data:=x10}:File)) (es':=[so 1 eU8 x10]) (ts:=[4]) 22 2 3 1 (File.enc true) (rr 4 x10) (.tmp 38) (.tmp 36) [(4,rE 1 eU8 x10)] h13 (.move (.head _) (List.length_map _) (by decide) (.nil)) rfl) zB))) ?_
  refine zFQ (σ':=St.mk' [] [(0,.box [rr 3 (v9.set x4.1.toNat ({Path:=x12.Path,Data:=x10}:File)),iv a1.Budget,iv a1.Writes,iv a1.Stop,bv a1.Down]),(3,rE 2 (File.enc true) (v9.set x4.1.toNat ({Path:=x12.Path,Data:=x10}:File)))]) (by simp only [rr,List.length_set]) ?_
  refine yX 0 (cs':=[so 2 (File.enc true) (v9.set x4.1.toNat ({Path:=x12.Path,Data:=x10}:File)),iv a1.Budget,iv a1.Writes,iv a1.Stop,bv a1.Down]) (ts:=[3]) rfl (.move (.head _) (List.length_map _) (by decide) (.keep rfl (.keep rfl (.keep rfl (.keep rfl (.nil)))))) ?_
  refine wM [] [(0,.box [so 2 (File.enc true) (v9.set x4.1.toNat ({Path:=x12.Path,Data:=x10}:File)),iv a1.Budget,iv a1.Writes,iv a1.Stop,bv a1.Down])] (by kernel_rfl) ?_
  exact zOr rfl
 ·refine zF 17 (fun h6=>?_) (fun h6=>?_)
  ·refine zA (fun x7 h8=>?_)
   refine J_d 26 [] [1,17] [] [0,1,3] [(0,.box [rr 3 x7,iv a1.Budget,iv a1.Writes,iv a1.Stop,bv a1.Down]),(3,rE 2 (File.enc true) x7)] (zD 8 (zQQ (ds:=[sv a2,nv]) (ts:=[]) 27 124 2 2 (File.enc true) [({Path:=a2,Data:=([]:List Int)}:File)] [0] [(.tmp 25)] [.ag [sv a2,nv]] [] (.keep rfl (.nilsl true 1 (.nil)))) (zD 9 (vX («as»:=[rr 1 a1.Files,iv x4.1,rr 2 [({Path:=a2,Data:=([]:List Int)}:File)]]) [(.tmp 22),(.tmp 23),(.tmp 26)] [27,3,27] false [(1,rE 2 (File.enc true) a1.Files),(2,rE 2 (File.enc true) [({Path:=a2,Data:=([]:List Int)}:File)])] [1,2] (.cons (.rf rfl) (.cons (.same rfl) (.cons (.rf rfl) (.nil)))) (vQ.ok a1.Files x4.1 [({Path:=a2,Data:=([]:List Int)}:File)]) h8 (.own 3)) zB)) ?_
   exact xD (J_j (jv9 x7)) rfl
  ·refine zDV 1 3 (Nat.le_of_ble_eq_true rfl) (Nat.le_of_ble_eq_true rfl) ?_
   exact xD (J_j (jv9 a1.Files)) rfl
noncomputable def c85:Code:=(Tryz.f85.body).getD .skip
theorem vP.ok (a1:zC) (a2:ByteArray) (a3:(List Int)):Ok Tryz.prog 85 [.pb [pp 0],pp 1,pp 2] [.box (zC.enc true a1),.box [sv a2],.box [sl 1 eU8 a3]] ((vP a1 a2 a3).map fun r=>(.tu [],[.box (zC.enc true r),.box [sv a2],.box [sl 1 eU8 a3]])):=by
 refine zG c85 Tryz.f85 3 7 (fun q=>?_)
 unfold vP
 refine yI 0 (cs':=[rr 3 a1.Files,iv a1.Budget,iv a1.Writes,iv a1.Stop,bv a1.Down]) (es:=[(3,rE 2 (File.enc true) a1.Files)]) rfl (.cons (.own 3) (.cons (.same rfl rfl) (.cons (.same rfl rfl) (.cons (.same rfl rfl) (.cons (.same rfl rfl) (.nil)))))) rfl (by kernel_rfl) (by kernel_rfl) ?_
 refine wM [(0,.pb [pp 0]),(1,pp 1),(2,pp 2)] [(0,.box [rr 3 a1.Files,iv a1.Budget,iv a1.Writes,iv a1.Stop,bv a1.Down]),(1,.box [sv a2]),(2,.box [sl 1 eU8 a3]),(3,rE 2 (File.enc true) a1.Files)] (by kernel_rfl) ?_
 refine yX 0 (cs':=[so 2 (File.enc true) a1.Files,iv a1.Budget,iv a1.Writes,iv a1.Stop,bv a1.Down]) (ts:=[3]) rfl (.move (.tail _ (.tail _ (.head _))) (List.length_map _) (by decide) (.keep rfl (.keep rfl (.keep rfl (.keep rfl (.nil)))))) ?_
 refine wM [(0,.pb [pp 0]),(1,pp 1),(2,pp 2)] [(0,.box (zC.enc true a1)),(1,.box [sv a2]),(2,.box [sl 1 eU8 a3])] (by kernel_rfl) ?_
 refine zA (fun x4 h5=>?_)
 refine J_g 1 [] [] [(0,.box (zC.enc true x4)),(1,.box [sv a2]),(2,.box [sl 1 eU8 a3])] (zD 0 (zHL (d:=pp 0) 75 (.tmp 0) [pp 0]) (zD 3 (vX («as»:=[pp 0,sv a2,sl 1 eU8 a3]) [(.tmp 3),(.tmp 4),(.tmp 5)] [75,9,22] false [(0,.box (zC.enc true a1))] [0] (.cons (.pt rfl) (.cons (.same rfl) (.cons (.same rfl) (.nil)))) (kJ.ok a1 a2 a3) h5 (.tu (.nil))) zB)) ?_
 refine yI 0 (cs':=[rr 3 x4.Files,iv x4.Budget,iv x4.Writes,iv x4.Stop,bv x4.Down]) (es:=[(3,rE 2 (File.enc true) x4.Files)]) rfl (.cons (.own 3) (.cons (.same rfl rfl) (.cons (.same rfl rfl) (.cons (.same rfl rfl) (.cons (.same rfl rfl) (.nil)))))) rfl (by kernel_rfl) (by kernel_rfl) ?_
 refine wM [] [(0,.box [rr 3 x4.Files,iv x4.Budget,iv x4.Writes,iv x4.Stop,bv x4.Down]),(1,.box [sv a2]),(2,.box [sl 1 eU8 a3]),(3,rE 2 (File.enc true) x4.Files)] (by kernel_rfl) ?_
 refine yX 0 (cs':=[so 2 (File.enc true) x4.Files,iv x4.Budget,iv x4.Writes,iv x4.Stop,bv x4.Down]) (ts:=[3]) rfl (.move (.tail _ (.tail _ (.head _))) (List.length_map _) (by decide) (.keep rfl (.keep rfl (.keep rfl (.keep rfl (.nil)))))) ?_
 refine wM [] [(0,.box (zC.enc true x4)),(1,.box [sv a2]),(2,.box [sl 1 eU8 a3])] (by kernel_rfl) ?_
 exact zOr rfl
noncomputable def c84:Code:=(Tryz.f84.body).getD .skip
theorem yL.ok (a1:zC) (a2:ByteArray) (a3:(List Int)):Ok Tryz.prog 84 [pp 0,.fn 85 [.pb [pp 0],pp 1,pp 2]] [.box (zC.enc true a1),.box [sv a2],.box [sl 1 eU8 a3]] ((yL a1 a2 a3).map fun r=>(iv r.1,[.box (zC.enc true r.2),.box [sv a2],.box [sl 1 eU8 a3]])):=by
 refine zG c84 Tryz.f84 3 33 (fun q=>?_)
 unfold yL
 refine yI 0 (cs':=[rr 3 a1.Files,iv a1.Budget,iv a1.Writes,iv a1.Stop,bv a1.Down]) (es:=[(3,rE 2 (File.enc true) a1.Files)]) rfl (.cons (.own 3) (.cons (.same rfl rfl) (.cons (.same rfl rfl) (.cons (.same rfl rfl) (.cons (.same rfl rfl) (.nil)))))) rfl (by kernel_rfl) (by kernel_rfl) ?_
 refine wM [(0,pp 0),(1,.fn 85 [.pb [pp 0],pp 1,pp 2])] [(0,.box [rr 3 a1.Files,iv a1.Budget,iv a1.Writes,iv a1.Stop,bv a1.Down]),(1,.box [sv a2]),(2,.box [sl 1 eU8 a3]),(3,rE 2 (File.enc true) a1.Files)] (by kernel_rfl) ?_
 refine J_d 2 [] [] [] [] [] zB ?_
 refine wB (atI c84 13) (fun v5:Bool=>St.mk' [(0,pp 0),(1,.fn 85 [.pb [pp 0],pp 1,pp 2]),(20,bv v5)] [(0,.box [rr 3 a1.Files,iv a1.Budget,iv a1.Writes,iv a1.Stop,bv a1.Down]),(1,.box [sv a2]),(2,.box [sl 1 eU8 a3]),(3,rE 2 (File.enc true) a1.Files)]) (fun v5=>?_) (fun jv5=>?_)
 ·refine zF 20 (fun h6=>?_) (fun h6=>?_)
  ·refine J_g 52 [] [] [(0,.box [rr 3 a1.Files,iv a1.Budget,iv a1.Writes,iv a1.Stop,bv true]),(1,.box [sv a2]),(2,.box [sl 1 eU8 a3]),(3,rE 2 (File.enc true) a1.Files)] zB ?_
   refine J_g 106 [] [(4,iv 9)] [(0,.box [rr 3 a1.Files,iv a1.Budget,iv a1.Writes,iv a1.Stop,bv true]),(1,.box [sv a2]),(2,.box [sl 1 eU8 a3]),(3,rE 2 (File.enc true) a1.Files)] zB ?_
   refine yX 0 (cs':=[so 2 (File.enc true) a1.Files,iv a1.Budget,iv a1.Writes,iv a1.Stop,bv true]) (ts:=[3]) rfl (.move (.tail _ (.tail _ (.head _))) (List.length_map _) (by decide) (.keep rfl (.keep rfl (.keep rfl (.keep rfl (.nil)))))) ?_
   refine wM [(4,iv 9)] [(0,.box [so 2 (File.enc true) a1.Files,iv a1.Budget,iv a1.Writes,iv a1.Stop,bv true]),(1,.box [sv a2]),(2,.box [sl 1 eU8 a3])] (by kernel_rfl) ?_
   exact zN rfl
  ·refine yX 0 (cs':=[so 2 (File.enc true) a1.Files,iv a1.Budget,iv a1.Writes,iv a1.Stop,bv a1.Down]) (ts:=[3]) rfl (.move (.tail _ (.tail _ (.head _))) (List.length_map _) (by decide) (.keep rfl (.keep rfl (.keep rfl (.keep rfl (.nil)))))) ?_
   refine wM [(0,pp 0),(1,.fn 85 [.pb [pp 0],pp 1,pp 2]),(20,bv false)] [(0,.box (zC.enc true a1)),(1,.box [sv a2]),(2,.box [sl 1 eU8 a3])] (by kernel_rfl) ?_
   refine zA (fun x7 h8=>?_)
   refine J_g 14 [] [(0,pp 0)] [(0,.box (zC.enc true x7)),(1,.box [sv a2]),(2,.box [sl 1 eU8 a3])] (zD 1 (zI6 24 [] [] false [(0,.box (zC.enc true a1)),(1,.box [sv a2]),(2,.box [sl 1 eU8 a3])] [0,1,2] [] [.pb [pp 0],pp 1,pp 2] (.cons (.pb (.cons (.pt rfl) (.nil))) (.cons (.pt rfl) (.cons (.pt rfl) (.nil)))) (vP.ok a1 a2 a3) h8 (.tu (.nil))) zB) ?_
   refine yI 0 (cs':=[rr 3 x7.Files,iv x7.Budget,iv x7.Writes,iv x7.Stop,bv x7.Down]) (es:=[(3,rE 2 (File.enc true) x7.Files)]) rfl (.cons (.own 3) (.cons (.same rfl rfl) (.cons (.same rfl rfl) (.cons (.same rfl rfl) (.cons (.same rfl rfl) (.nil)))))) rfl (by kernel_rfl) (by kernel_rfl) ?_
   refine wM [(0,pp 0)] [(0,.box [rr 3 x7.Files,iv x7.Budget,iv x7.Writes,iv x7.Stop,bv x7.Down]),(1,.box [sv a2]),(2,.box [sl 1 eU8 a3]),(3,rE 2 (File.enc true) x7.Files)] (by kernel_rfl) ?_
   refine J_g 30 [] [] [(0,.box [rr 3 x7.Files,iv x7.Budget,iv (w64 (x7.Writes+1)),iv x7.Stop,bv x7.Down]),(1,.box [sv a2]),(2,.box [sl 1 eU8 a3]),(3,rE 2 (File.enc true) x7.Files)] zB ?_
   refine J_g 62 [] [(4,iv 0)] [(0,.box [rr 3 x7.Files,iv x7.Budget,iv (w64 (x7.Writes+1)),iv x7.Stop,bv x7.Down]),(1,.box [sv a2]),(2,.box [sl 1 eU8 a3]),(3,rE 2 (File.enc true) x7.Files)] zB ?_
   refine yX 0 (cs':=[so 2 (File.enc true) x7.Files,iv x7.Budget,iv (w64 (x7.Writes+1)),iv x7.Stop,bv x7.Down]) (ts:=[3]) rfl (.move (.tail _ (.tail _ (.head _))) (List.length_map _) (by decide) (.keep rfl (.keep rfl (.keep rfl (.keep rfl (.nil)))))) ?_
   refine wM [(4,iv 0)] [(0,.box [so 2 (File.enc true) x7.Files,iv x7.Budget,iv (w64 (x7.Writes+1)),iv x7.Stop,bv x7.Down]),(1,.box [sv a2]),(2,.box [sl 1 eU8 a3])] (by kernel_rfl) ?_
   exact zN rfl
 ·refine wL (fun h4=>?_) (fun h4=>?_)
  ·refine J_d 12 [] [20] [(20,bv (decide (a1.Writes≥a1.Stop)))] [] [] (xX 5 [(9,bv (decide (a1.Stop≥0)))] [] h4 zB) ?_
   exact xD (J_j (jv5 (decide (a1.Writes≥a1.Stop)))) rfl
  ·refine J_d 12 [] [20] [(20,bv false)] [] [] (xX 5 [(9,bv (decide (a1.Stop≥0)))] [] h4 zB) ?_
   exact xD (J_j (jv5 false)) rfl
noncomputable def c39:Code:=(Tryz.f39.body).getD .skip
theorem wT.ok (a1:zC) (a2:ByteArray) (a3:(List Int)):Ok Tryz.prog 39 [pp 0,sv a2,sl 1 eU8 a3] [.box (zC.enc true a1)] ((wT a1 a2 a3).map fun r=>(iv r.1,[.box (zC.enc true r.2)])):=by
 refine zG c39 Tryz.f39 1 56 (fun q=>?_)
 unfold wT
 refine yI 0 (cs':=[rr 1 a1.Files,iv a1.Budget,iv a1.Writes,iv a1.Stop,bv a1.Down]) (es:=[(1,rE 2 (File.enc true) a1.Files)]) rfl (.cons (.own 1) (.cons (.same rfl rfl) (.cons (.same rfl rfl) (.cons (.same rfl rfl) (.cons (.same rfl rfl) (.nil)))))) rfl (by kernel_rfl) (by kernel_rfl) ?_
 refine wM [(0,pp 0),(1,sv a2),(2,sl 1 eU8 a3)] [(0,.box [rr 1 a1.Files,iv a1.Budget,iv a1.Writes,iv a1.Stop,bv a1.Down]),(1,rE 2 (File.enc true) a1.Files)] (by kernel_rfl) ?_
 refine J_d 2 [(1,2),(2,3)] [0,1,2,3,4,5] [(3,.pb [pp 0]),(4,pp 2),(5,pp 3)] [2,3] [(2,.box [sv a2]),(3,.box [sl 1 eU8 a3])] (zD 0 (zNk 75 (.tmp 0) (pp 0)) zB) ?_
 refine zA (fun x4 h5=>?_)
 refine J_d 6 [] [7,8] [(7,.ln x4.1.length),(8,bv x4.2)] [] [] (zD 0 (zHL (d:=pp 0) 75 (.tmp 3) [pp 0]) (zD 4 (vX («as»:=[.ag [rr 1 a1.Files,iv a1.Budget,iv a1.Writes,iv a1.Stop,bv a1.Down],sv a2]) [(.tmp 12),(.tmp 13)] [75,9] true [(1,rE 2 (File.enc true) a1.Files)] [] (.cons (.ag (.cons (zFA (.head _) (File.ro true) rfl) (.cons (.same rfl) (.cons (.same rfl) (.cons (.same rfl) (.cons (.same rfl) (.nil))))))) (.cons (.same rfl) (.nil))) (zRE (fun r=>(.tu [.ln r.1.length,bv r.2],[])) (xP.ok a1 a2) (fun r=>.tu (.cons zRw (.cons .same (.nil))))) h5 (.tu (.cons (.same rfl rfl) (.cons (.same rfl rfl) (.nil)))) (hbor:=fun _=>⟨fhN,(zL2 (flatK trivial (flatK xQ zGA)))⟩)) zB)) ?_
 refine zA (fun x6 h7=>?_)
 refine J_d 56 [] [17] [(17,bv (x6 !=0))] [] [] (zD 1 (xR [(.tmp 18)] [9] (vY.ok a2) h7) zB) ?_
 refine zF 17 (fun h8=>?_) (fun h8=>?_)
 ·refine J_g 228 [] [(6,iv 5)] [(0,.box [rr 1 a1.Files,iv a1.Budget,iv a1.Writes,iv a1.Stop,bv a1.Down]),(1,rE 2 (File.enc true) a1.Files)] zB ?_
  refine yX 0 (cs':=[so 2 (File.enc true) a1.Files,iv a1.Budget,iv a1.Writes,iv a1.Stop,bv a1.Down]) (ts:=[1]) rfl (.move (.head _) (List.length_map _) (by decide) (.keep rfl (.keep rfl (.keep rfl (.keep rfl (.nil)))))) ?_
  refine wM [(6,iv 5)] [(0,.box (zC.enc true a1))] (by kernel_rfl) ?_
  exact zN rfl
 ·refine wB (atI c39 231) (fun v11:Bool=>St.mk' [(3,.pb [pp 0]),(4,pp 2),(5,pp 3),(7,.ln x4.1.length),(21,bv v11)] [(0,.box [rr 1 a1.Files,iv a1.Budget,iv a1.Writes,iv a1.Stop,bv a1.Down]),(1,rE 2 (File.enc true) a1.Files),(2,.box [sv a2]),(3,.box [sl 1 eU8 a3])]) (fun v11=>?_) (fun jv11=>?_)
  ·refine zF 21 (fun h12=>?_) (fun h12=>?_)
   ·refine J_g 924 [] [(6,iv 2)] [(0,.box [rr 1 a1.Files,iv a1.Budget,iv a1.Writes,iv a1.Stop,bv a1.Down]),(1,rE 2 (File.enc true) a1.Files)] zB ?_
    refine yX 0 (cs':=[so 2 (File.enc true) a1.Files,iv a1.Budget,iv a1.Writes,iv a1.Stop,bv a1.Down]) (ts:=[1]) rfl (.move (.head _) (List.length_map _) (by decide) (.keep rfl (.keep rfl (.keep rfl (.keep rfl (.nil)))))) ?_
    refine wM [(6,iv 2)] [(0,.box (zC.enc true a1))] (by kernel_rfl) ?_
    exact zN rfl
   ·refine zA (fun x13 h14=>?_)
    refine J_d 926 [] [7,21,37] [(37,bv (decide ((w64 ((w64 (x13-(x4.1.length:Int)))+(a3.length:Int)))>a1.Budget)))] [] [] (zD 0 (zHL (d:=pp 0) 75 (.tmp 3) [pp 0]) (zD 3 (vX («as»:=[.ag [rr 1 a1.Files,iv a1.Budget,iv a1.Writes,iv a1.Stop,bv a1.Down]]) [(.tmp 40)] [75] true [(1,rE 2 (File.enc true) a1.Files)] [] (.cons (.ag (.cons (zFA (.head _) (File.ro true) rfl) (.cons (.same rfl) (.cons (.same rfl) (.cons (.same rfl) (.cons (.same rfl) (.nil))))))) (.nil)) (wS.ok a1) h14 (.same rfl rfl) (hbor:=fun _=>⟨fhN,xQ⟩)) (zD 10 (zHL (d:=pp 0) 75 (.tmp 3) [pp 0]) zB))) ?_
    refine zF 37 (fun h15=>?_) (fun h15=>?_)
    ·refine J_g 3708 [] [(6,iv 8)] [(0,.box [rr 1 a1.Files,iv a1.Budget,iv a1.Writes,iv a1.Stop,bv a1.Down]),(1,rE 2 (File.enc true) a1.Files)] zB ?_
     refine yX 0 (cs':=[so 2 (File.enc true) a1.Files,iv a1.Budget,iv a1.Writes,iv a1.Stop,bv a1.Down]) (ts:=[1]) rfl (.move (.head _) (List.length_map _) (by decide) (.keep rfl (.keep rfl (.keep rfl (.keep rfl (.nil)))))) ?_
     refine wM [(6,iv 8)] [(0,.box (zC.enc true a1))] (by kernel_rfl) ?_
     exact zN rfl
    ·refine yX 0 (cs':=[so 2 (File.enc true) a1.Files,iv a1.Budget,iv a1.Writes,iv a1.Stop,bv a1.Down]) (ts:=[1]) rfl (.move (.head _) (List.length_map _) (by decide) (.keep rfl (.keep rfl (.keep rfl (.keep rfl (.nil)))))) ?_
     refine wM [(3,.pb [pp 0]),(4,pp 2),(5,pp 3),(37,bv false)] [(0,.box (zC.enc true a1)),(2,.box [sv a2]),(3,.box [sl 1 eU8 a3])] (by kernel_rfl) ?_
     refine zA (fun x16 h17=>?_)
     refine J_g 30 [] [(6,iv x16.1)] [(0,.box (zC.enc true x16.2))] (zD 0 (zHL (d:=pp 0) 75 (.tmp 3) [pp 0]) (zD 2 (vX («as»:=[pp 0,.fn 85 [.pb [pp 0],pp 2,pp 3]]) [(.tmp 53),(.tmp 54)] [75,1] false [(0,.box (zC.enc true a1)),(2,.box [sv a2]),(3,.box [sl 1 eU8 a3])] [0,2,3] (.cons (.pt rfl) (.cons (.fn (.cons (.pb (.cons (.pt rfl) (.nil))) (.cons (.pt rfl) (.cons (.pt rfl) (.nil))))) (.nil))) (yL.ok a1 a2 a3) h17 (.same rfl rfl)) zB)) ?_
     refine yI 0 (cs':=[rr 1 x16.2.Files,iv x16.2.Budget,iv x16.2.Writes,iv x16.2.Stop,bv x16.2.Down]) (es:=[(1,rE 2 (File.enc true) x16.2.Files)]) rfl (.cons (.own 1) (.cons (.same rfl rfl) (.cons (.same rfl rfl) (.cons (.same rfl rfl) (.cons (.same rfl rfl) (.nil)))))) rfl (by kernel_rfl) (by kernel_rfl) ?_
     refine wM [(6,iv x16.1)] [(0,.box [rr 1 x16.2.Files,iv x16.2.Budget,iv x16.2.Writes,iv x16.2.Stop,bv x16.2.Down]),(1,rE 2 (File.enc true) x16.2.Files)] (by kernel_rfl) ?_
     refine yX 0 (cs':=[so 2 (File.enc true) x16.2.Files,iv x16.2.Budget,iv x16.2.Writes,iv x16.2.Stop,bv x16.2.Down]) (ts:=[1]) rfl (.move (.head _) (List.length_map _) (by decide) (.keep rfl (.keep rfl (.keep rfl (.keep rfl (.nil)))))) ?_
     refine wM [(6,iv x16.1)] [(0,.box (zC.enc true x16.2))] (by kernel_rfl) ?_
     exact zN rfl
  ·refine wL (fun h9=>?_) (fun h9=>?_)
   ·refine J_d 230 [] [8,17,21] [(21,bv true)] [] [] (xX 3 [(24,bv (decide ((a3.length:Int)>4000)))] [] h9 (zFG 6 (zF7 (i:=6) (g:=3) (t:=25) (b:=false) (v:=(.bool true)) (.inl rfl) (by kernel_rfl) (by kernel_rfl)) (zFG 7 (zF7 (i:=7) (g:=6) (t:=28) (b:=true) (v:=undef) (.inr rfl) (by kernel_rfl) (by kernel_rfl)) (zFG 8 (zF7 (i:=8) (g:=6) (t:=28) (b:=true) (v:=undef) (.inr rfl) (by kernel_rfl) (by kernel_rfl)) (zFG 9 (zF7 (i:=9) (g:=6) (t:=28) (b:=true) (v:=undef) (.inr rfl) (by kernel_rfl) (by kernel_rfl)) (zFG 10 (zF7 (i:=10) (g:=6) (t:=28) (b:=true) (v:=undef) (.inr rfl) (by kernel_rfl) (by kernel_rfl)) (zFG 11 (zF7 (i:=11) (g:=6) (t:=28) (b:=true) (v:=undef) (.inr rfl) (by kernel_rfl) (by kernel_rfl)) (zFG 12 (zF7 (i:=12) (g:=6) (t:=28) (b:=true) (v:=undef) (.inr rfl) (by kernel_rfl) (by kernel_rfl)) zB)))))))) ?_
    exact xD (J_j (jv11 true)) rfl
   ·refine wL (fun h10=>?_) (fun h10=>?_)
    ·refine J_d 230 [] [8,17,21] [(21,bv ((a1.Files.length:Int)==120))] [] [] (xX 3 [(24,bv (decide ((a3.length:Int)>4000)))] [] h9 (zGN 6 3 25 false [(27,bv (!x4.2))] [] h10 (zBV 7 6 28 true (zHL (d:=pp 0) 75 (.tmp 3) [pp 0]) zB))) ?_
     exact xD (J_j (jv11 ((a1.Files.length:Int)==120))) rfl
    ·refine J_d 230 [] [8,17,21] [(21,bv false)] [] [] (xX 3 [(24,bv (decide ((a3.length:Int)>4000)))] [] h9 (zGN 6 3 25 false [(27,bv (!x4.2))] [] h10 zB)) ?_
     exact xD (J_j (jv11 false)) rfl
end Go.Told

import Derived.Test.YtghacmkpcjdpjaaGreatDoorOkRunBatchx2
set_option linter.unusedVariables false
set_option maxRecDepth 4000
namespace Go.Told
open Go Go.Im Go.Proofs
noncomputable def c58:Code:=(Tryz.f58.body).getD .skip
theorem jD.ok (x13:(List File)) (q:Wd) (kn:((List File)×Int×Int×Int×Bool)→Option (D×List Ent)) (hk:∀v:((List File)×Int×Int×Int×Bool),J (q.g Tryz.prog 58 1 101) c58 (atI c58 255) (St.mk' [] [(0,.box [rr 1 v.1,iv v.2.1,iv v.2.2.1,iv v.2.2.2.1,bv v.2.2.2.2]),(1,rE 2 (File.enc true) v.1)]) (some v) kn):
  ∀s46:((List File)×Int×Int×Int×Bool×Int),J (q.g Tryz.prog 58 1 101) c58 (atI c58 2036) (St.mk' [(0,pp 0),(85,rr 2 x13),(86,iv (x13.length:Int)),(87,iv s46.2.2.2.2.2)] [(0,.box [rr 1 s46.1,iv s46.2.1,iv s46.2.2.1,iv s46.2.2.2.1,bv s46.2.2.2.2.1]),(1,rE 2 (File.enc true) s46.1),(2,rE 2 (File.enc false) x13)]) (jD x13 s46) (Fl.go (fun r:(Int×zC)=>some (iv r.1,[.box (zC.enc true r.2)])) kn):=by
 refine jL (fun g ih s46=>?_)
 unfold kQ
 refine J_d 4072 [] [88] [(88,bv (decide (s46.2.2.2.2.2< (x13.length:Int))))] [] [] zB ?_
 refine zF 88 (fun h47=>?_) (fun h47=>?_)
 ·refine zA (fun x48 h49=>?_)
  refine J_g 65176 [(2,3)] [(0,pp 0),(16,pp 3),(85,rr 2 x13),(86,iv (x13.length:Int)),(87,iv s46.2.2.2.2.2)] [(0,.box [rr 1 s46.1,iv s46.2.1,iv s46.2.2.1,iv s46.2.2.2.1,bv s46.2.2.2.2.1]),(1,rE 2 (File.enc true) s46.1),(2,rE 2 (File.enc false) x13),(3,.box (File.enc false x48))] (zD 0 (uN (kk:=.i64) 27 124 2 2 (File.enc false) (.tmp 85) (.tmp 87) h49) (zD 1 (zEt (d:=.ag (File.enc false x48)) 124 2 2 0 (File.enc false) (.tmp 89) h49 (by kernel_rfl)) zB)) ?_
  refine yX 0 (cs':=[so 2 (File.enc true) s46.1,iv s46.2.1,iv s46.2.2.1,iv s46.2.2.2.1,bv s46.2.2.2.2.1]) (ts:=[1]) rfl (.move (.head _) (List.length_map _) (by decide) (.keep rfl (.keep rfl (.keep rfl (.keep rfl (.nil)))))) ?_
  refine wM [(0,pp 0),(16,pp 3),(85,rr 2 x13),(86,iv (x13.length:Int)),(87,iv s46.2.2.2.2.2)] [(0,.box [so 2 (File.enc true) s46.1,iv s46.2.1,iv s46.2.2.1,iv s46.2.2.2.1,bv s46.2.2.2.2.1]),(2,rE 2 (File.enc false) x13),(3,.box (File.enc false x48))] (by kernel_rfl) ?_
  refine zA (fun x50 h51=>?_)
  refine J_g 130354 [] [(0,pp 0),(17,iv x50.1),(85,rr 2 x13),(86,iv (x13.length:Int)),(87,iv s46.2.2.2.2.2)] [(0,.box (zC.enc true x50.2)),(2,rE 2 (File.enc false) x13)] (zD 5 (vX («as»:=[pp 0,sv x48.Path,sl 1 eU8 x48.Data]) [(.tmp 91),(.tmp 93),(.tmp 95)] [75,9,22] false [(0,.box [so 2 (File.enc true) s46.1,iv s46.2.1,iv s46.2.2.1,iv s46.2.2.2.1,bv s46.2.2.2.2.1])] [0] (.cons (.pt rfl) (.cons (.same rfl) (.cons (.same rfl) (.nil)))) (wT.ok ({Files:=s46.1,Budget:=s46.2.1,Writes:=s46.2.2.1,Stop:=s46.2.2.2.1,Down:=s46.2.2.2.2.1}:zC) x48.Path x48.Data) h51 (.same rfl rfl)) zB) ?_
  refine yI 0 (cs':=[rr 3 x50.2.Files,iv x50.2.Budget,iv x50.2.Writes,iv x50.2.Stop,bv x50.2.Down]) (es:=[(3,rE 2 (File.enc true) x50.2.Files)]) rfl (.cons (.own 3) (.cons (.same rfl rfl) (.cons (.same rfl rfl) (.cons (.same rfl rfl) (.cons (.same rfl rfl) (.nil)))))) rfl (by kernel_rfl) (by kernel_rfl) ?_
  refine wM [(0,pp 0),(17,iv x50.1),(85,rr 2 x13),(86,iv (x13.length:Int)),(87,iv s46.2.2.2.2.2)] [(0,.box [rr 3 x50.2.Files,iv x50.2.Budget,iv x50.2.Writes,iv x50.2.Stop,bv x50.2.Down]),(2,rE 2 (File.enc false) x13),(3,rE 2 (File.enc true) x50.2.Files)] (by kernel_rfl) ?_
  refine J_d 260710 [] [98] [(98,bv (x50.1 !=0))] [] [] zB ?_
  refine zF 98 (fun h52=>?_) (fun h52=>?_)
  ·refine J_g 1042844 [] [(6,iv x50.1)] [(0,.box [rr 3 x50.2.Files,iv x50.2.Budget,iv x50.2.Writes,iv x50.2.Stop,bv x50.2.Down]),(3,rE 2 (File.enc true) x50.2.Files)] zB ?_
   refine yX 0 (cs':=[so 2 (File.enc true) x50.2.Files,iv x50.2.Budget,iv x50.2.Writes,iv x50.2.Stop,bv x50.2.Down]) (ts:=[3]) rfl (.move (.head _) (List.length_map _) (by decide) (.keep rfl (.keep rfl (.keep rfl (.keep rfl (.nil)))))) ?_
   refine wM [(6,iv x50.1)] [(0,.box (zC.enc true x50.2))] (by kernel_rfl) ?_
   exact zN rfl
  ·refine J_d 16295 [] [17,87,98] [(87,iv (w64 (s46.2.2.2.2.2+1)))] [] [] zB ?_
   refine zDV 3 1 (Nat.le_of_ble_eq_true rfl) (Nat.le_of_ble_eq_true rfl) ?_
   exact J_q (J_b (ih (x50.2.Files,x50.2.Budget,x50.2.Writes,x50.2.Stop,x50.2.Down,w64 (s46.2.2.2.2.2+1)))) rfl
 ·exact xD (hk (s46.1,s46.2.1,s46.2.2.1,s46.2.2.2.1,s46.2.2.2.2.1)) rfl
theorem jC.ok (a1:zC) (x13:(List File)) (q:Wd) (kn:Int→Option (D×List Ent)) (hk:∀v:Int,J (q.g Tryz.prog 58 1 101) c58 (atI c58 63) (St.mk' [(0,pp 0),(8,rr 2 x13),(10,iv v)] [(0,.box [rr 1 a1.Files,iv a1.Budget,iv a1.Writes,iv a1.Stop,bv a1.Down]),(1,rE 2 (File.enc true) a1.Files),(2,rE 2 (File.enc false) x13)]) (some v) kn):
  ∀s27:(Int×Int×Int),J (q.g Tryz.prog 58 1 101) c58 (atI c58 500) (St.mk' [(0,pp 0),(8,rr 2 x13),(9,iv s27.1),(10,iv s27.2.1),(50,rr 2 x13),(51,iv (x13.length:Int)),(52,iv s27.2.2)] [(0,.box [rr 1 a1.Files,iv a1.Budget,iv a1.Writes,iv a1.Stop,bv a1.Down]),(1,rE 2 (File.enc true) a1.Files),(2,rE 2 (File.enc false) x13)]) (jC a1 x13 s27) (Fl.go (fun r:(Int×zC)=>some (iv r.1,[.box (zC.enc true r.2)])) kn):=by
 refine jL (fun g ih s27=>?_)
 unfold zAe
 refine J_d 1000 [] [53] [(53,bv (decide (s27.2.2< (x13.length:Int))))] [] [] zB ?_
 refine zF 53 (fun h28=>?_) (fun h28=>?_)
 ·refine zA (fun x29 h30=>?_)
  refine J_d 16024 [(2,3)] [12,53] [(12,pp 3)] [3] [(3,.box (File.enc false x29))] (zD 0 (uN (kk:=.i64) 27 124 2 2 (File.enc false) (.tmp 50) (.tmp 52) h30) (zD 1 (zEt (d:=.ag (File.enc false x29)) 124 2 2 0 (File.enc false) (.tmp 54) h30 (by kernel_rfl)) zB)) ?_
  refine zA (fun x31 h32=>?_)
  refine J_g 64100 [] [(0,pp 0),(8,rr 2 x13),(9,iv (w64 (s27.1+x31))),(10,iv s27.2.1),(12,pp 3),(50,rr 2 x13),(51,iv (x13.length:Int)),(52,iv s27.2.2)] [(0,.box [rr 1 a1.Files,iv a1.Budget,iv a1.Writes,iv a1.Stop,bv a1.Down]),(1,rE 2 (File.enc true) a1.Files),(2,rE 2 (File.enc false) x13),(3,.box (File.enc false x29))] (zD 5 (vX («as»:=[.ag [rr 1 a1.Files,iv a1.Budget,iv a1.Writes,iv a1.Stop,bv a1.Down],.ag (File.enc false x29)]) [(.tmp 59),(.tmp 60)] [75,124] true [(1,rE 2 (File.enc true) a1.Files)] [] (.cons (.ag (.cons (zFA (.head _) (File.ro true) rfl) (.cons (.same rfl) (.cons (.same rfl) (.cons (.same rfl) (.cons (.same rfl) (.nil))))))) (.cons (.same rfl) (.nil))) (zAM.ok a1 x29) h32 (.same rfl rfl) (hbor:=fun _=>⟨fhN,xQ⟩)) zB) ?_
  refine J_d 128202 [] [68] [(68,bv (decide ((w64 (s27.1+x31))>a1.Budget)))] [] [] zB ?_
  refine zF 68 (fun h33=>?_) (fun h33=>?_)
  ·refine J_g 512812 [] [(6,iv 8)] [(0,.box [rr 1 a1.Files,iv a1.Budget,iv a1.Writes,iv a1.Stop,bv a1.Down]),(1,rE 2 (File.enc true) a1.Files)] zB ?_
   refine yX 0 (cs':=[so 2 (File.enc true) a1.Files,iv a1.Budget,iv a1.Writes,iv a1.Stop,bv a1.Down]) (ts:=[1]) rfl (.move (.head _) (List.length_map _) (by decide) (.keep rfl (.keep rfl (.keep rfl (.keep rfl (.nil)))))) ?_
   refine wM [(6,iv 8)] [(0,.box (zC.enc true a1))] (by kernel_rfl) ?_
   exact zN rfl
  ·refine zA (fun x34 h35=>?_)
   refine J_g 64102 [] [(0,pp 0),(8,rr 2 x13),(9,iv (w64 (s27.1+x31))),(10,iv s27.2.1),(14,bv x34.2),(50,rr 2 x13),(51,iv (x13.length:Int)),(52,iv s27.2.2)] [(0,.box [rr 1 a1.Files,iv a1.Budget,iv a1.Writes,iv a1.Stop,bv a1.Down]),(1,rE 2 (File.enc true) a1.Files),(2,rE 2 (File.enc false) x13)] (zD 5 (vX («as»:=[.ag [rr 1 a1.Files,iv a1.Budget,iv a1.Writes,iv a1.Stop,bv a1.Down],sv x29.Path]) [(.tmp 72),(.tmp 74)] [75,9] true [(1,rE 2 (File.enc true) a1.Files)] [] (.cons (.ag (.cons (zFA (.head _) (File.ro true) rfl) (.cons (.same rfl) (.cons (.same rfl) (.cons (.same rfl) (.cons (.same rfl) (.nil))))))) (.cons (.same rfl) (.nil))) (xV.ok a1 x29.Path) h35 (.tu (.cons (.same rfl rfl) (.cons (.same rfl rfl) (.nil)))) (hbor:=fun _=>⟨fhN,(zL2 (flatK xQ (flatK xQ zGA)))⟩)) zB) ?_
   refine J_d 128206 [] [14,79] [(79,bv (!x34.2))] [] [] zB ?_
   refine wB (aft c58 8012) (fun v37:Int=>St.mk' [(0,pp 0),(8,rr 2 x13),(9,iv (w64 (s27.1+x31))),(10,iv v37),(50,rr 2 x13),(51,iv (x13.length:Int)),(52,iv s27.2.2)] [(0,.box [rr 1 a1.Files,iv a1.Budget,iv a1.Writes,iv a1.Stop,bv a1.Down]),(1,rE 2 (File.enc true) a1.Files),(2,rE 2 (File.enc false) x13)]) (fun v37=>?_) (fun jv37=>?_)
   ·refine J_d 4007 [] [52] [(52,iv (w64 (s27.2.2+1)))] [] [] zB ?_
    exact J_q (J_b (ih (w64 (s27.1+x31),v37,w64 (s27.2.2+1)))) rfl
   ·refine zF 79 (fun h36=>?_) (fun h36=>?_)
    ·refine J_d 256414 [] [10,79] [(10,iv (w64 (s27.2.1+1)))] [] [] zB ?_
     exact xD (J_j (jv37 (w64 (s27.2.1+1)))) rfl
    ·exact xD (J_j (jv37 s27.2.1)) rfl
 ·exact xD (hk s27.2.1) rfl
theorem kT.ok (a1:zC) (a2:(List Pack)) (a3:(List Int)):Ok Tryz.prog 58 [pp 0,sl 8 (Pack.enc false) a2,sl 1 zK a3] [.box (zC.enc true a1)] ((kT a1 a2 a3).map fun r=>(iv r.1,[.box (zC.enc true r.2)])):=by
 refine zG c58 Tryz.f58 1 101 (fun q=>?_)
 unfold kT
 refine yI 0 (cs':=[rr 1 a1.Files,iv a1.Budget,iv a1.Writes,iv a1.Stop,bv a1.Down]) (es:=[(1,rE 2 (File.enc true) a1.Files)]) rfl (.cons (.own 1) (.cons (.same rfl rfl) (.cons (.same rfl rfl) (.cons (.same rfl rfl) (.cons (.same rfl rfl) (.nil)))))) rfl (by kernel_rfl) (by kernel_rfl) ?_
 refine wM [(0,pp 0),(1,sl 8 (Pack.enc false) a2),(2,sl 1 zK a3)] [(0,.box [rr 1 a1.Files,iv a1.Budget,iv a1.Writes,iv a1.Stop,bv a1.Down]),(1,rE 2 (File.enc true) a1.Files)] (by kernel_rfl) ?_
 refine J_d 2 [] [] [] [] [] zB ?_
 refine zA (fun x4 h5=>?_)
 refine J_g 12 [] [(0,pp 0),(1,sl 8 (Pack.enc false) a2),(2,sl 1 zK a3),(7,iv x4)] [(0,.box [rr 1 a1.Files,iv a1.Budget,iv a1.Writes,iv a1.Stop,bv a1.Down]),(1,rE 2 (File.enc true) a1.Files)] (zD 2 (xR [(.tmp 18),(.tmp 19)] [53,49] (zB3.ok a2 a3) h5) zB) ?_
 refine J_d 26 [] [22] [(22,bv (x4 !=0))] [] [] zB ?_
 refine zF 22 (fun h6=>?_) (fun h6=>?_)
 ·refine J_g 108 [] [(6,iv x4)] [(0,.box [rr 1 a1.Files,iv a1.Budget,iv a1.Writes,iv a1.Stop,bv a1.Down]),(1,rE 2 (File.enc true) a1.Files)] zB ?_
  refine yX 0 (cs':=[so 2 (File.enc true) a1.Files,iv a1.Budget,iv a1.Writes,iv a1.Stop,bv a1.Down]) (ts:=[1]) rfl (.move (.head _) (List.length_map _) (by decide) (.keep rfl (.keep rfl (.keep rfl (.keep rfl (.nil)))))) ?_
  refine wM [(6,iv x4)] [(0,.box (zC.enc true a1))] (by kernel_rfl) ?_
  exact zN rfl
 ·refine zA (fun x7 h8=>?_)
  refine J_d 56 [] [7,22,24] [(24,bv (!x7))] [] [] (zD 2 (xR [(.tmp 25),(.tmp 26)] [53,49] (kI.ok a2 a3) h8) zB) ?_
  refine zF 24 (fun h9=>?_) (fun h9=>?_)
  ·refine J_g 228 [] [(6,iv 1)] [(0,.box [rr 1 a1.Files,iv a1.Budget,iv a1.Writes,iv a1.Stop,bv a1.Down]),(1,rE 2 (File.enc true) a1.Files)] zB ?_
   refine yX 0 (cs':=[so 2 (File.enc true) a1.Files,iv a1.Budget,iv a1.Writes,iv a1.Stop,bv a1.Down]) (ts:=[1]) rfl (.move (.head _) (List.length_map _) (by decide) (.keep rfl (.keep rfl (.keep rfl (.keep rfl (.nil)))))) ?_
   refine wM [(6,iv 1)] [(0,.box (zC.enc true a1))] (by kernel_rfl) ?_
   exact zN rfl
  ·refine zA (fun x10 h11=>?_)
   refine J_d 230 [] [24,29] [(29,bv (decide (x10>999999)))] [] [] (zD 3 (vX («as»:=[.ag [rr 1 a1.Files,iv a1.Budget,iv a1.Writes,iv a1.Stop,bv a1.Down]]) [(.tmp 32)] [75] true [(1,rE 2 (File.enc true) a1.Files)] [] (.cons (.ag (.cons (zFA (.head _) (File.ro true) rfl) (.cons (.same rfl) (.cons (.same rfl) (.cons (.same rfl) (.cons (.same rfl) (.nil))))))) (.nil)) (tL.ok a1) h11 (.same rfl rfl) (hbor:=fun _=>⟨fhN,xQ⟩)) zB) ?_
   refine zF 29 (fun h12=>?_) (fun h12=>?_)
   ·refine J_g 924 [] [(6,iv 2)] [(0,.box [rr 1 a1.Files,iv a1.Budget,iv a1.Writes,iv a1.Stop,bv a1.Down]),(1,rE 2 (File.enc true) a1.Files)] zB ?_
    refine yX 0 (cs':=[so 2 (File.enc true) a1.Files,iv a1.Budget,iv a1.Writes,iv a1.Stop,bv a1.Down]) (ts:=[1]) rfl (.move (.head _) (List.length_map _) (by decide) (.keep rfl (.keep rfl (.keep rfl (.keep rfl (.nil)))))) ?_
    refine wM [(6,iv 2)] [(0,.box (zC.enc true a1))] (by kernel_rfl) ?_
    exact zN rfl
   ·refine zA (fun x13 h14=>?_)
    refine zA (fun x15 h16=>?_)
    refine J_g 30 [] [(0,pp 0),(8,rr 2 x13),(9,iv x15),(10,iv (a1.Files.length:Int))] [(0,.box [rr 1 a1.Files,iv a1.Budget,iv a1.Writes,iv a1.Stop,bv a1.Down]),(1,rE 2 (File.enc true) a1.Files),(2,rE 2 (File.enc false) x13)] (zD 5 (zEU [(1,rE 2 (File.enc true) a1.Files)] [(2,rE 2 (File.enc false) x13)] (vX («as»:=[sl 8 (Pack.enc false) a2,.ag [rr 1 a1.Files,iv a1.Budget,iv a1.Writes,iv a1.Stop,bv a1.Down],sl 1 zK a3]) [(.tmp 35),(.tmp 38),(.tmp 39)] [53,29,49] false [(1,rE 2 (File.enc true) a1.Files)] [1] (.cons (.same rfl) (.cons (.ag (.cons (.rf rfl) (.cons (.same rfl) (.cons (.same rfl) (.cons (.same rfl) (.cons (.same rfl) (.nil))))))) (.cons (.same rfl) (.nil)))) (zKf.ok a2 a1 a3) h14 (.own 2))) (zD 9 (vX («as»:=[.ag [rr 1 a1.Files,iv a1.Budget,iv a1.Writes,iv a1.Stop,bv a1.Down]]) [(.tmp 43)] [75] true [(1,rE 2 (File.enc true) a1.Files)] [] (.cons (.ag (.cons (zFA (.head _) (File.ro true) rfl) (.cons (.same rfl) (.cons (.same rfl) (.cons (.same rfl) (.cons (.same rfl) (.nil))))))) (.nil)) (wS.ok a1) h16 (.same rfl rfl) (hbor:=fun _=>⟨fhN,xQ⟩)) zB)) ?_
    refine J_d 124 [] [50,51,52] [(50,rr 2 x13),(51,iv (x13.length:Int)),(52,iv 0)] [] [] zB ?_
    refine uZ (K0:=(fun r:(Int×zC)=>some (iv r.1,[.box (zC.enc true r.2)]))) (fun _=>rfl) (jC.ok a1 x13 q _ (fun v38=>J_j ?_) (x15,(a1.Files.length:Int),0))
    refine J_d 252 [] [10,84] [(84,bv (decide (v38>120)))] [] [] zB ?_
    refine zF 84 (fun h39=>?_) (fun h39=>?_)
    ·refine J_g 1012 [] [(6,iv 2)] [(0,.box [rr 1 a1.Files,iv a1.Budget,iv a1.Writes,iv a1.Stop,bv a1.Down]),(1,rE 2 (File.enc true) a1.Files)] zB ?_
     refine yX 0 (cs':=[so 2 (File.enc true) a1.Files,iv a1.Budget,iv a1.Writes,iv a1.Stop,bv a1.Down]) (ts:=[1]) rfl (.move (.head _) (List.length_map _) (by decide) (.keep rfl (.keep rfl (.keep rfl (.keep rfl (.nil)))))) ?_
     refine wM [(6,iv 2)] [(0,.box (zC.enc true a1))] (by kernel_rfl) ?_
     exact zN rfl
    ·refine J_d 508 [] [8,84,85,86,87] [(85,rr 2 x13),(86,iv (x13.length:Int)),(87,iv 0)] [] [] zB ?_
     refine uZ (K0:=(fun r:(Int×zC)=>some (iv r.1,[.box (zC.enc true r.2)]))) (fun _=>rfl) (jD.ok x13 q _ (fun v53=>J_j ?_) (a1.Files,a1.Budget,a1.Writes,a1.Stop,a1.Down,0))
     refine J_g 510 [] [(6,iv 0)] [(0,.box [rr 1 v53.1,iv v53.2.1,iv v53.2.2.1,iv v53.2.2.2.1,bv v53.2.2.2.2]),(1,rE 2 (File.enc true) v53.1)] zB ?_
     refine yX 0 (cs':=[so 2 (File.enc true) v53.1,iv v53.2.1,iv v53.2.2.1,iv v53.2.2.2.1,bv v53.2.2.2.2]) (ts:=[1]) rfl (.move (.head _) (List.length_map _) (by decide) (.keep rfl (.keep rfl (.keep rfl (.keep rfl (.nil)))))) ?_
     refine wM [(6,iv 0)] [(0,.box [so 2 (File.enc true) v53.1,iv v53.2.1,iv v53.2.2.1,iv v53.2.2.2.1,bv v53.2.2.2.2])] (by kernel_rfl) ?_
     exact zN rfl
noncomputable def c57:Code:=(Tryz.f57.body).getD .skip
theorem zAp.ok (a1:zC) (a2:(List Pack)) (a3:(List Int)):Ok Tryz.prog 57 [pp 0,pp 1,pp 2] [.box (zC.enc true a1),.box [sl 8 (Pack.enc false) a2],.box [sl 1 zK a3]] ((zAp a1 a2 a3).map fun r=>(iv r.1,[.box (zC.enc true r.2),.box [sl 8 (Pack.enc false) a2],.box [sl 1 zK a3]])):=by
 refine zG c57 Tryz.f57 3 9 (fun q=>?_)
 unfold zAp
 refine yI 0 (cs':=[rr 3 a1.Files,iv a1.Budget,iv a1.Writes,iv a1.Stop,bv a1.Down]) (es:=[(3,rE 2 (File.enc true) a1.Files)]) rfl (.cons (.own 3) (.cons (.same rfl rfl) (.cons (.same rfl rfl) (.cons (.same rfl rfl) (.cons (.same rfl rfl) (.nil)))))) rfl (by kernel_rfl) (by kernel_rfl) ?_
 refine wM [(0,pp 0),(1,pp 1),(2,pp 2)] [(0,.box [rr 3 a1.Files,iv a1.Budget,iv a1.Writes,iv a1.Stop,bv a1.Down]),(1,.box [sl 8 (Pack.enc false) a2]),(2,.box [sl 1 zK a3]),(3,rE 2 (File.enc true) a1.Files)] (by kernel_rfl) ?_
 refine J_g 2 [] [(0,pp 0),(1,pp 1),(2,pp 2)] [(0,.box [rr 3 a1.Files,iv a1.Budget,iv a1.Writes,iv a1.Stop,bv a1.Down]),(1,.box [sl 8 (Pack.enc false) a2]),(2,.box [sl 1 zK a3]),(3,rE 2 (File.enc true) a1.Files)] zB ?_
 refine yX 0 (cs':=[so 2 (File.enc true) a1.Files,iv a1.Budget,iv a1.Writes,iv a1.Stop,bv a1.Down]) (ts:=[3]) rfl (.move (.tail _ (.tail _ (.head _))) (List.length_map _) (by decide) (.keep rfl (.keep rfl (.keep rfl (.keep rfl (.nil)))))) ?_
 refine wM [(0,pp 0),(1,pp 1),(2,pp 2)] [(0,.box (zC.enc true a1)),(1,.box [sl 8 (Pack.enc false) a2]),(2,.box [sl 1 zK a3])] (by kernel_rfl) ?_
 refine zA (fun x4 h5=>?_)
 refine J_g 6 [] [(4,iv x4.1)] [(0,.box (zC.enc true x4.2)),(1,.box [sl 8 (Pack.enc false) a2]),(2,.box [sl 1 zK a3])] (zD 3 (vX («as»:=[pp 0,sl 8 (Pack.enc false) a2,sl 1 zK a3]) [(.tmp 5),(.tmp 6),(.tmp 7)] [75,53,49] false [(0,.box (zC.enc true a1))] [0] (.cons (.pt rfl) (.cons (.same rfl) (.cons (.same rfl) (.nil)))) (kT.ok a1 a2 a3) h5 (.same rfl rfl)) zB) ?_
 refine yI 0 (cs':=[rr 3 x4.2.Files,iv x4.2.Budget,iv x4.2.Writes,iv x4.2.Stop,bv x4.2.Down]) (es:=[(3,rE 2 (File.enc true) x4.2.Files)]) rfl (.cons (.own 3) (.cons (.same rfl rfl) (.cons (.same rfl rfl) (.cons (.same rfl rfl) (.cons (.same rfl rfl) (.nil)))))) rfl (by kernel_rfl) (by kernel_rfl) ?_
 refine wM [(4,iv x4.1)] [(0,.box [rr 3 x4.2.Files,iv x4.2.Budget,iv x4.2.Writes,iv x4.2.Stop,bv x4.2.Down]),(1,.box [sl 8 (Pack.enc false) a2]),(2,.box [sl 1 zK a3]),(3,rE 2 (File.enc true) x4.2.Files)] (by kernel_rfl) ?_
 refine yX 0 (cs':=[so 2 (File.enc true) x4.2.Files,iv x4.2.Budget,iv x4.2.Writes,iv x4.2.Stop,bv x4.2.Down]) (ts:=[3]) rfl (.move (.tail _ (.tail _ (.head _))) (List.length_map _) (by decide) (.keep rfl (.keep rfl (.keep rfl (.keep rfl (.nil)))))) ?_
 refine wM [(4,iv x4.1)] [(0,.box (zC.enc true x4.2)),(1,.box [sl 8 (Pack.enc false) a2]),(2,.box [sl 1 zK a3])] (by kernel_rfl) ?_
 exact zN rfl
noncomputable def c80:Code:=(Tryz.f80.body).getD .skip
theorem zMM.ok (a1:zC) (a2:Int):Ok Tryz.prog 80 [.ag [rr 0 a1.Files,iv a1.Budget,iv a1.Writes,iv a1.Stop,bv a1.Down],iv a2] [rE 2 (File.enc true) a1.Files] ((zFH a1 a2).map fun r=>(.ag (zI.enc true r),[])):=by
 refine zG c80 Tryz.f80 1 16 (fun q=>?_)
 unfold zFH
 refine J_d 2 [(0,1),(1,2)] [0,2,4] [(2,pp 1),(4,pp 2)] [1,2] [(1,.box [rr 0 a1.Files,iv a1.Budget,iv a1.Writes,iv a1.Stop,bv a1.Down]),(2,.box [iv 0,nv,iv 0,iv 0,iv 0,bv false])] zB ?_
 refine wB (atI c80 13) (fun v4:Bool=>St.mk' [(1,iv a2),(2,pp 1),(4,pp 2),(10,bv v4)] [(0,rE 2 (File.enc true) a1.Files),(1,.box [rr 0 a1.Files,iv a1.Budget,iv a1.Writes,iv a1.Stop,bv a1.Down]),(2,.box [iv 0,nv,iv 0,iv 0,iv 0,bv false])]) (fun v4=>?_) (fun jv4=>?_)
 ·refine zF 10 (fun h5=>?_) (fun h5=>?_)
  ·refine J_g 52 [] [(4,pp 2)] [(0,rE 2 (File.enc true) a1.Files),(2,.box [iv a2,nv,iv 0,iv 0,iv 0,bv false])] zB ?_
   exact zEH (ds:=[.ag [iv a2,nv,iv 0,iv 0,iv 0,bv false]]) (ds':=[.ag [iv a2,so 2 (File.enc true) ([]:List File),iv 0,iv 0,iv 0,bv false]]) (.cons (.ag (.keep rfl (.nilsl true 2 (.keep rfl (.keep rfl (.keep rfl (.keep rfl (.nil)))))))) (.nil) (by decide)) rfl
  ·refine J_g 14 [] [(4,pp 2)] [(0,rE 2 (File.enc true) a1.Files),(2,.box [iv a2,rr 0 a1.Files,iv a1.Budget,iv a1.Writes,iv a1.Stop,bv a1.Down])] zB ?_
   exact zEH (ds:=[.ag [iv a2,rr 0 a1.Files,iv a1.Budget,iv a1.Writes,iv a1.Stop,bv a1.Down]]) (ds':=[.ag [iv a2,so 2 (File.enc true) a1.Files,iv a1.Budget,iv a1.Writes,iv a1.Stop,bv a1.Down]]) (.cons (.ag (.keep rfl (.move (.head _) (List.length_map _) (by decide) (.keep rfl (.keep rfl (.keep rfl (.keep rfl (.nil)))))))) (.nil) (by decide)) rfl
 ·refine wL (fun h3=>?_) (fun h3=>?_)
  ·refine J_d 12 [] [10] [(10,bv (a2 !=9))] [] [] (xX 2 [(6,bv (a2 !=0))] [] h3 zB) ?_
   exact xD (J_j (jv4 (a2 !=9))) rfl
  ·refine J_d 12 [] [10] [(10,bv false)] [] [] (xX 2 [(6,bv (a2 !=0))] [] h3 zB) ?_
   exact xD (J_j (jv4 false)) rfl
noncomputable def c37:Code:=(Tryz.f37.body).getD .skip
theorem wE.ok (a1:zC) (a2:(List Pack)) (a3:(List Int)):Ok Tryz.prog 37 [.ag (zC.enc false a1),.fn 57 [pp 0,pp 1]] [.box [sl 8 (Pack.enc false) a2],.box [sl 1 zK a3]] ((wE a1 a2 a3).map fun r=>(.ag (zI.enc true r),[.box [sl 8 (Pack.enc false) a2],.box [sl 1 zK a3]])):=by
 refine zG c37 Tryz.f37 2 26 (fun q=>?_)
 unfold wE
 refine J_d 2 [(0,2),(1,3)] [0,2,4] [(2,pp 2),(4,pp 3)] [2,3] [(2,.box (zC.enc false a1)),(3,.box [iv 0,nv,iv 0,iv 0,iv 0,bv false])] zB ?_
 refine zA (fun x4 h5=>?_)
 refine J_d 6 [] [5] [(5,iv x4)] [] [] (zD 1 (xR [(.tmp 7)] [29] (zAW.ok a1) h5) zB) ?_
 refine wB (atI c37 29) (fun v7:Bool=>St.mk' [(1,.fn 57 [pp 0,pp 1]),(2,pp 2),(4,pp 3),(5,iv x4),(14,bv v7)] [(0,.box [sl 8 (Pack.enc false) a2]),(1,.box [sl 1 zK a3]),(2,.box (zC.enc false a1)),(3,.box [iv 0,nv,iv 0,iv 0,iv 0,bv false])]) (fun v7=>?_) (fun jv7=>?_)
 ·refine wB (atI c37 15) (fun v9:Int=>St.mk' [(1,.fn 57 [pp 0,pp 1]),(2,pp 2),(4,pp 3),(5,iv v9)] [(0,.box [sl 8 (Pack.enc false) a2]),(1,.box [sl 1 zK a3]),(2,.box (zC.enc false a1)),(3,.box [iv 0,nv,iv 0,iv 0,iv 0,bv false])]) (fun v9=>?_) (fun jv9=>?_)
  ·refine J_d 60 [] [16] [(16,bv (v9 !=0))] [] [] zB ?_
   refine zF 16 (fun h10=>?_) (fun h10=>?_)
   ·refine J_g 244 [] [(4,pp 3)] [(0,.box [sl 8 (Pack.enc false) a2]),(1,.box [sl 1 zK a3]),(3,.box [iv v9,nv,iv 0,iv 0,iv 0,bv false])] zB ?_
    exact zEH (ds:=[.ag [iv v9,nv,iv 0,iv 0,iv 0,bv false]]) (ds':=[.ag [iv v9,so 2 (File.enc true) ([]:List File),iv 0,iv 0,iv 0,bv false]]) (.cons (.ag (.keep rfl (.nilsl true 2 (.keep rfl (.keep rfl (.keep rfl (.keep rfl (.nil)))))))) (.nil) (by decide)) rfl
   ·refine zA (fun x11 h12=>?_)
    refine J_g 62 [(2,5)] [(1,.fn 57 [pp 0,pp 1]),(4,pp 3),(6,pp 5)] [(0,.box [sl 8 (Pack.enc false) a2]),(1,.box [sl 1 zK a3]),(3,.box [iv 0,nv,iv 0,iv 0,iv 0,bv false]),(4,rE 2 (File.enc true) x11.Files),(5,.box [rr 4 x11.Files,iv x11.Budget,iv x11.Writes,iv x11.Stop,bv x11.Down])] (zD 1 (vX («as»:=[.ag (zC.enc false a1)]) [(.tmp 19)] [29] false [] [] (.cons (.same rfl) (.nil)) (uP.ok a1) h12 (.ag (.cons (.own 4) (.cons (.same rfl rfl) (.cons (.same rfl rfl) (.cons (.same rfl rfl) (.cons (.same rfl rfl) (.nil)))))))) zB) ?_
    refine yX 5 (cs':=[so 2 (File.enc true) x11.Files,iv x11.Budget,iv x11.Writes,iv x11.Stop,bv x11.Down]) (ts:=[4]) rfl (.move (.tail _ (.tail _ (.tail _ (.head _)))) (List.length_map _) (by decide) (.keep rfl (.keep rfl (.keep rfl (.keep rfl (.nil)))))) ?_
    refine wM [(1,.fn 57 [pp 0,pp 1]),(4,pp 3),(6,pp 5)] [(0,.box [sl 8 (Pack.enc false) a2]),(1,.box [sl 1 zK a3]),(3,.box [iv 0,nv,iv 0,iv 0,iv 0,bv false]),(5,.box (zC.enc true x11))] (by kernel_rfl) ?_
    refine zA (fun x13 h14=>?_)
    refine J_g 126 [] [(4,pp 3),(5,iv x13.1),(6,pp 5)] [(0,.box [sl 8 (Pack.enc false) a2]),(1,.box [sl 1 zK a3]),(3,.box [iv 0,nv,iv 0,iv 0,iv 0,bv false]),(5,.box (zC.enc true x13.2))] (zD 1 (zI6 21 [(.tmp 6)] [75] false [(5,.box (zC.enc true x11)),(0,.box [sl 8 (Pack.enc false) a2]),(1,.box [sl 1 zK a3])] [5,0,1] [pp 5] [pp 0,pp 1] (.cons (.pt rfl) (.cons (.pt rfl) (.cons (.pt rfl) (.nil)))) (zAp.ok x11 a2 a3) h14 (.same rfl rfl)) zB) ?_
    refine yI 5 (cs':=[rr 6 x13.2.Files,iv x13.2.Budget,iv x13.2.Writes,iv x13.2.Stop,bv x13.2.Down]) (es:=[(6,rE 2 (File.enc true) x13.2.Files)]) rfl (.cons (.own 6) (.cons (.same rfl rfl) (.cons (.same rfl rfl) (.cons (.same rfl rfl) (.cons (.same rfl rfl) (.nil)))))) rfl (by kernel_rfl) (by kernel_rfl) ?_
    refine wM [(4,pp 3),(5,iv x13.1),(6,pp 5)] [(0,.box [sl 8 (Pack.enc false) a2]),(1,.box [sl 1 zK a3]),(3,.box [iv 0,nv,iv 0,iv 0,iv 0,bv false]),(5,.box [rr 6 x13.2.Files,iv x13.2.Budget,iv x13.2.Writes,iv x13.2.Stop,bv x13.2.Down]),(6,rE 2 (File.enc true) x13.2.Files)] (by kernel_rfl) ?_
    refine zA (fun x15 h16=>?_)
    refine J_g 254 [] [(4,pp 3)] [(0,.box [sl 8 (Pack.enc false) a2]),(1,.box [sl 1 zK a3]),(3,.box [iv x15.Code,rr 7 x15.zC.Files,iv x15.zC.Budget,iv x15.zC.Writes,iv x15.zC.Stop,bv x15.zC.Down]),(7,rE 2 (File.enc true) x15.zC.Files)] (zD 2 (vX («as»:=[.ag [rr 6 x13.2.Files,iv x13.2.Budget,iv x13.2.Writes,iv x13.2.Stop,bv x13.2.Down],iv x13.1]) [(.tmp 23),(.tmp 24)] [29,2] false [(6,rE 2 (File.enc true) x13.2.Files)] [6] (.cons (.ag (.cons (.rf rfl) (.cons (.same rfl) (.cons (.same rfl) (.cons (.same rfl) (.cons (.same rfl) (.nil))))))) (.cons (.same rfl) (.nil))) (zMM.ok x13.2 x13.1) h16 (.ag (.cons (.same rfl rfl) (.cons (.own 7) (.cons (.same rfl rfl) (.cons (.same rfl rfl) (.cons (.same rfl rfl) (.cons (.same rfl rfl) (.nil))))))))) zB) ?_
    exact zEH (ds:=[.ag [iv x15.Code,rr 7 x15.zC.Files,iv x15.zC.Budget,iv x15.zC.Writes,iv x15.zC.Stop,bv x15.zC.Down]]) (ds':=[.ag (zI.enc true x15)]) (.cons (.ag (.keep rfl (.move (.tail _ (.tail _ (.tail _ (.head _)))) (List.length_map _) (by decide) (.keep rfl (.keep rfl (.keep rfl (.keep rfl (.nil)))))))) (.nil) (by decide)) rfl
  ·refine zF 14 (fun h8=>?_) (fun h8=>?_)
   ·refine J_d 58 [] [5,14] [(5,iv 9)] [] [] zB ?_
    exact xD (J_j (jv9 9)) rfl
   ·exact xD (J_j (jv9 x4)) rfl
 ·refine wL (fun h6=>?_) (fun h6=>?_)
  ·refine J_d 28 [] [14] [(14,bv a1.Down)] [] [] (xX 2 [(10,bv (x4==0))] [] h6 zB) ?_
   exact xD (J_j (jv7 a1.Down)) rfl
  ·refine J_d 28 [] [14] [(14,bv false)] [] [] (xX 2 [(10,bv (x4==0))] [] h6 zB) ?_
   exact xD (J_j (jv7 false)) rfl
noncomputable def c56:Code:=(Tryz.f56.body).getD .skip
theorem wH.ok (a1:(List Pack)) (a2:zC) (a3:(List Pack)) (a4:(List Int)):Ok Tryz.prog 56 [sl 8 (Pack.enc false) a1,.ag (zC.enc false a2),.fn 57 [pp 0,pp 1]] [.box [sl 8 (Pack.enc false) a3],.box [sl 1 zK a4]] ((wH a1 a2 a3 a4).map fun r=>(.ag (zI.enc true r),[.box [sl 8 (Pack.enc false) a3],.box [sl 1 zK a4]])):=by
 refine zG c56 Tryz.f56 2 17 (fun q=>?_)
 unfold wH
 refine J_d 2 [(0,2),(1,3)] [1,4,6] [(4,pp 2),(6,pp 3)] [2,3] [(2,.box (zC.enc false a2)),(3,.box [iv 0,nv,iv 0,iv 0,iv 0,bv false])] zB ?_
 refine zA (fun x5 h6=>?_)
 refine J_g 12 [] [(2,.fn 57 [pp 0,pp 1]),(4,pp 2),(6,pp 3),(7,iv x5)] [(0,.box [sl 8 (Pack.enc false) a3]),(1,.box [sl 1 zK a4]),(2,.box (zC.enc false a2)),(3,.box [iv 0,nv,iv 0,iv 0,iv 0,bv false])] (zD 1 (xR [(.tmp 8)] [53] (vB.ok a1) h6) zB) ?_
 refine J_d 26 [] [11] [(11,bv (x5 !=0))] [] [] zB ?_
 refine zF 11 (fun h7=>?_) (fun h7=>?_)
 ·refine J_g 108 [] [(6,pp 3)] [(0,.box [sl 8 (Pack.enc false) a3]),(1,.box [sl 1 zK a4]),(3,.box [iv x5,nv,iv 0,iv 0,iv 0,bv false])] zB ?_
  exact zEH (ds:=[.ag [iv x5,nv,iv 0,iv 0,iv 0,bv false]]) (ds':=[.ag [iv x5,so 2 (File.enc true) ([]:List File),iv 0,iv 0,iv 0,bv false]]) (.cons (.ag (.keep rfl (.nilsl true 2 (.keep rfl (.keep rfl (.keep rfl (.keep rfl (.nil)))))))) (.nil) (by decide)) rfl
 ·refine zA (fun x8 h9=>?_)
  refine J_g 14 [] [(6,pp 3)] [(0,.box [sl 8 (Pack.enc false) a3]),(1,.box [sl 1 zK a4]),(3,.box [iv x8.Code,rr 4 x8.zC.Files,iv x8.zC.Budget,iv x8.zC.Writes,iv x8.zC.Stop,bv x8.zC.Down]),(4,rE 2 (File.enc true) x8.zC.Files)] (zD 2 (zEU [(0,.box [sl 8 (Pack.enc false) a3]),(1,.box [sl 1 zK a4])] [(4,rE 2 (File.enc true) x8.zC.Files)] (vX («as»:=[.ag (zC.enc false a2),.fn 57 [pp 0,pp 1]]) [(.tmp 14),(.tmp 15)] [29,77] false [(0,.box [sl 8 (Pack.enc false) a3]),(1,.box [sl 1 zK a4])] [0,1] (.cons (.same rfl) (.cons (.fn (.cons (.pt rfl) (.cons (.pt rfl) (.nil)))) (.nil))) (wE.ok a2 a3 a4) h9 (.ag (.cons (.same rfl rfl) (.cons (.own 4) (.cons (.same rfl rfl) (.cons (.same rfl rfl) (.cons (.same rfl rfl) (.cons (.same rfl rfl) (.nil)))))))))) zB) ?_
  exact zEH (ds:=[.ag [iv x8.Code,rr 4 x8.zC.Files,iv x8.zC.Budget,iv x8.zC.Writes,iv x8.zC.Stop,bv x8.zC.Down]]) (ds':=[.ag (zI.enc true x8)]) (.cons (.ag (.keep rfl (.move (.tail _ (.tail _ (.tail _ (.head _)))) (List.length_map _) (by decide) (.keep rfl (.keep rfl (.keep rfl (.keep rfl (.nil)))))))) (.nil) (by decide)) rfl
noncomputable def c20:Code:=(Tryz.f20.body).getD .skip
theorem tN.ok (a1:(List Pack)) (a2:zC) (a3:(List Int)):Ok Tryz.prog 20 [sl 8 (Pack.enc false) a1,.ag (zC.enc false a2),sl 1 zK a3] [] ((tN a1 a2 a3).map fun r=>(.ag (zI.enc true r),[])):=by
 refine zG c20 Tryz.f20 0 11 (fun q=>?_)
 unfold tN
 refine J_g 2 [(0,0),(1,1),(2,2),(3,3)] [(3,pp 0),(4,pp 1),(5,pp 2),(6,pp 3)] [(0,.box [sl 8 (Pack.enc false) a1]),(1,.box (zC.enc false a2)),(2,.box [sl 1 zK a3]),(3,.box [iv 0,nv,iv 0,iv 0,iv 0,bv false])] zB ?_
 refine zA (fun x4 h5=>?_)
 refine J_g 6 [] [(6,pp 3)] [(3,.box [iv x4.Code,rr 4 x4.zC.Files,iv x4.zC.Budget,iv x4.zC.Writes,iv x4.zC.Stop,bv x4.zC.Down]),(4,rE 2 (File.enc true) x4.zC.Files)] (zD 3 (zEU [(0,.box [sl 8 (Pack.enc false) a1]),(2,.box [sl 1 zK a3])] [(4,rE 2 (File.enc true) x4.zC.Files)] (vX («as»:=[sl 8 (Pack.enc false) a1,.ag (zC.enc false a2),.fn 57 [pp 0,pp 2]]) [(.tmp 7),(.tmp 8),(.tmp 9)] [53,29,77] false [(0,.box [sl 8 (Pack.enc false) a1]),(2,.box [sl 1 zK a3])] [0,2] (.cons (.same rfl) (.cons (.same rfl) (.cons (.fn (.cons (.pt rfl) (.cons (.pt rfl) (.nil)))) (.nil)))) (wH.ok a1 a2 a1 a3) h5 (.ag (.cons (.same rfl rfl) (.cons (.own 4) (.cons (.same rfl rfl) (.cons (.same rfl rfl) (.cons (.same rfl rfl) (.cons (.same rfl rfl) (.nil)))))))))) zB) ?_
 exact zEH (ds:=[.ag [iv x4.Code,rr 4 x4.zC.Files,iv x4.zC.Budget,iv x4.zC.Writes,iv x4.zC.Stop,bv x4.zC.Down]]) (ds':=[.ag (zI.enc true x4)]) (.cons (.ag (.keep rfl (.move (.tail _ (.head _)) (List.length_map _) (by decide) (.keep rfl (.keep rfl (.keep rfl (.keep rfl (.nil)))))))) (.nil) (by decide)) rfl
noncomputable def zQV:Code:=(Tryz.f185.body).getD .skip
theorem zCI.ok (a1:(List Int)) (a2:(List Int)) (q:Wd) (kn:Unit→Option (D×List Ent)) (hk:∀v:Unit,J (q.g Tryz.prog 185 0 26) zQV (atI zQV 15) (St.mk' [] []) (some v) kn):
  ∀s10:Int,J (q.g Tryz.prog 185 0 26) zQV (atI zQV 116) (St.mk' [(0,sl 1 eU8 a1),(1,sl 1 eU8 a2),(5,iv s10)] []) (zCI a1 a2 s10) (Fl.go (fun r:Bool=>some (bv r,[])) kn):=by
 refine jL (fun g ih s10=>?_)
 unfold zDq
 refine J_d 464 [] [14] [(14,bv (decide (s10< (a1.length:Int))))] [] [] zB ?_
 refine zF 14 (fun h11=>?_) (fun h11=>?_)
 ·refine zA (fun x12 h13=>?_)
  refine zA (fun x14 h15=>?_)
  refine J_d 1864 [] [14,25] [(25,bv (x12 !=x14))] [] [] (zD 2 (vR (kk:=.i64) 22 5 1 eU8 (.tmp 17) (.tmp 18) h13) (zD 6 (vR (kk:=.i64) 22 5 1 eU8 (.tmp 21) (.tmp 22) h15) zB)) ?_
  refine zF 25 (fun h16=>?_) (fun h16=>?_)
  ·refine J_g 7460 [] [(4,bv false)] [] zB ?_
   exact zN rfl
  ·refine J_d 467 [] [5,25] [(5,iv (w64 (s10+1)))] [] [] zB ?_
   exact J_q (J_b (ih (w64 (s10+1)))) rfl
 ·exact xD (hk ()) rfl
theorem zCb.ok (a1:(List Int)) (a2:(List Int)):Ok Tryz.prog 185 [sl 1 eU8 a1,sl 1 eU8 a2] [] ((zCb a1 a2).map fun r=>(bv r,[])):=by
 refine zG zQV Tryz.f185 0 26 (fun q=>?_)
 unfold zCb
 refine J_g 2 [] [(0,sl 1 eU8 a1),(1,sl 1 eU8 a2)] [] zB ?_
 refine J_d 12 [] [10] [(10,bv ((a1.length:Int) !=(a2.length:Int)))] [] [] zB ?_
 refine zF 10 (fun h3=>?_) (fun h3=>?_)
 ·refine J_g 52 [] [(4,bv false)] [] zB ?_
  exact zN rfl
 ·refine J_d 28 [] [5,10] [(5,iv 0)] [] [] zB ?_
  refine uZ (K0:=(fun r:Bool=>some (bv r,[]))) (fun _=>rfl) (zCI.ok a1 a2 q _ (fun v17=>J_j ?_) 0)
  refine J_g 30 [] [(4,bv true)] [] zB ?_
  exact zN rfl
noncomputable def c127:Code:=(Tryz.f127.body).getD .skip
theorem zDA.ok (a1:File) (a2:File):Ok Tryz.prog 127 [.ag (File.enc false a1),.ag (File.enc false a2)] [] ((zDA a1 a2).map fun r=>(bv r,[])):=by
 refine zG c127 Tryz.f127 0 16 (fun q=>?_)
 unfold zDA
 refine J_g 2 [(0,0),(1,1)] [(2,pp 0),(3,pp 1)] [(0,.box (File.enc false a1)),(1,.box (File.enc false a2))] zB ?_
 refine J_d 12 [] [9] [(9,bv (!(seq a1.Path a2.Path)))] [] [] zB ?_
 refine zF 9 (fun h3=>?_) (fun h3=>?_)
 ·refine J_g 52 [] [(4,bv false)] [] zB ?_
  exact zN rfl
 ·refine zA (fun x4 h5=>?_)
  refine J_g 28 [] [(15,bv (!x4))] [] (zD 4 (xR [(.tmp 11),(.tmp 13)] [22,22] (zCb.ok a1.Data a2.Data) h5) zB) ?_
  refine zF 15 (fun h6=>?_) (fun h6=>?_)
  ·refine J_g 116 [] [(4,bv false)] [] zB ?_
   exact zN rfl
  ·refine J_g 30 [] [(4,bv true)] [] zB ?_
   exact zN rfl
noncomputable def c60:Code:=(Tryz.f60.body).getD .skip
theorem zCx.ok (a1:(List File)) (a2:(List File)) (q:Wd) (kn:Unit→Option (D×List Ent)) (hk:∀v:Unit,J (q.g Tryz.prog 60 0 27) c60 (atI c60 15) (St.mk' [] []) (some v) kn):
  ∀s12:Int,J (q.g Tryz.prog 60 0 27) c60 (atI c60 116) (St.mk' [(0,sl 2 (File.enc false) a1),(1,sl 2 (File.enc false) a2),(5,iv s12)] []) (zCx a1 a2 s12) (Fl.go (fun r:Bool=>some (bv r,[])) kn):=by
 refine jL (fun g ih s12=>?_)
 unfold zDr
 refine J_d 464 [] [14] [(14,bv (decide (s12< (a1.length:Int))))] [] [] zB ?_
 refine zF 14 (fun h13=>?_) (fun h13=>?_)
 ·refine zA (fun x14 h15=>?_)
  refine zA (fun x16 h17=>?_)
  refine zA (fun x18 h19=>?_)
  refine J_d 1864 [] [14,26] [(26,bv (!x18))] [] [] (zD 2 (vR (kk:=.i64) 27 124 2 (File.enc false) (.tmp 17) (.tmp 18) h15) (zD 6 (vR (kk:=.i64) 27 124 2 (File.enc false) (.tmp 21) (.tmp 22) h17) (zD 8 (xR [(.tmp 20),(.tmp 24)] [124,124] (zDA.ok x14 x16) h19) zB))) ?_
  refine zF 26 (fun h20=>?_) (fun h20=>?_)
  ·refine J_g 7460 [] [(4,bv false)] [] zB ?_
   exact zN rfl
  ·refine J_d 467 [] [5,26] [(5,iv (w64 (s12+1)))] [] [] zB ?_
   exact J_q (J_b (ih (w64 (s12+1)))) rfl
 ·exact xD (hk ()) rfl
theorem zC8.ok (a1:(List File)) (a2:(List File)):Ok Tryz.prog 60 [sl 2 (File.enc false) a1,sl 2 (File.enc false) a2] [] ((zC8 a1 a2).map fun r=>(bv r,[])):=by
 refine zG c60 Tryz.f60 0 27 (fun q=>?_)
 unfold zC8
 refine J_g 2 [] [(0,sl 2 (File.enc false) a1),(1,sl 2 (File.enc false) a2)] [] zB ?_
 refine J_d 12 [] [10] [(10,bv ((a1.length:Int) !=(a2.length:Int)))] [] [] zB ?_
 refine zF 10 (fun h3=>?_) (fun h3=>?_)
 ·refine J_g 52 [] [(4,bv false)] [] zB ?_
  exact zN rfl
 ·refine J_d 28 [] [5,10] [(5,iv 0)] [] [] zB ?_
  refine uZ (K0:=(fun r:Bool=>some (bv r,[]))) (fun _=>rfl) (zCx.ok a1 a2 q _ (fun v21=>J_j ?_) 0)
  refine J_g 30 [] [(4,bv true)] [] zB ?_
  exact zN rfl
noncomputable def c23:Code:=(Tryz.f23.body).getD .skip
theorem zB1.ok (a1:zC) (a2:zC):Ok Tryz.prog 23 [.ag (zC.enc false a1),.ag (zC.enc false a2)] [] ((zB1 a1 a2).map fun r=>(bv r,[])):=by
 refine zG c23 Tryz.f23 0 31 (fun q=>?_)
 unfold zB1
 refine J_g 2 [(0,0),(1,1)] [(2,pp 0),(3,pp 1)] [(0,.box (zC.enc false a1)),(1,.box (zC.enc false a2))] zB ?_
 refine zA (fun x3 h4=>?_)
 refine J_d 12 [] [10] [(10,bv (!x3))] [] [] (zD 4 (xR [(.tmp 6),(.tmp 8)] [27,27] (zC8.ok a1.Files a2.Files) h4) zB) ?_
 refine zF 10 (fun h5=>?_) (fun h5=>?_)
 ·refine J_g 52 [] [(4,bv false)] [] zB ?_
  exact zN rfl
 ·refine J_d 28 [] [10,15] [(15,bv (a1.Budget !=a2.Budget))] [] [] zB ?_
  refine zF 15 (fun h6=>?_) (fun h6=>?_)
  ·refine J_g 116 [] [(4,bv false)] [] zB ?_
   exact zN rfl
  ·refine J_d 60 [] [15,20] [(20,bv (a1.Writes !=a2.Writes))] [] [] zB ?_
   refine zF 20 (fun h7=>?_) (fun h7=>?_)
   ·refine J_g 244 [] [(4,bv false)] [] zB ?_
    exact zN rfl
   ·refine J_d 124 [] [20,25] [(25,bv (a1.Stop !=a2.Stop))] [] [] zB ?_
    refine zF 25 (fun h8=>?_) (fun h8=>?_)
    ·refine J_g 500 [] [(4,bv false)] [] zB ?_
     exact zN rfl
    ·refine J_g 252 [] [(30,bv (!(a1.Down==a2.Down)))] [] zB ?_
     refine zF 30 (fun h9=>?_) (fun h9=>?_)
     ·refine J_g 1012 [] [(4,bv false)] [] zB ?_
      exact zN rfl
     ·refine J_g 254 [] [(4,bv true)] [] zB ?_
      exact zN rfl
noncomputable def c21:Code:=(Tryz.f21.body).getD .skip
theorem wG.ok (a1:zI) (a2:zI):Ok Tryz.prog 21 [.ag (zI.enc false a1),.ag (zI.enc false a2)] [] ((wG a1 a2).map fun r=>(bv r,[])):=by
 refine zG c21 Tryz.f21 0 16 (fun q=>?_)
 unfold wG
 refine J_g 2 [(0,0),(1,1)] [(2,pp 0),(3,pp 1)] [(0,.box (zI.enc false a1)),(1,.box (zI.enc false a2))] zB ?_
 refine J_d 12 [] [9] [(9,bv (a1.Code !=a2.Code))] [] [] zB ?_
 refine zF 9 (fun h3=>?_) (fun h3=>?_)
 ·refine J_g 52 [] [(4,bv false)] [] zB ?_
  exact zN rfl
 ·refine zA (fun x4 h5=>?_)
  refine J_g 28 [] [(15,bv (!x4))] [] (zD 4 (xR [(.tmp 11),(.tmp 13)] [29,29] (zB1.ok a1.zC a2.zC) h5) zB) ?_
  refine zF 15 (fun h6=>?_) (fun h6=>?_)
  ·refine J_g 116 [] [(4,bv false)] [] zB ?_
   exact zN rfl
  ·refine J_g 30 [] [(4,bv true)] [] zB ?_
   exact zN rfl
noncomputable def zS7:Code:=(Tryz.f123.body).getD .skip
theorem vK.ok (a1:Version) (a2:Version):Ok Tryz.prog 123 [.ag (Version.enc a1),.ag (Version.enc a2)] [] ((vK a1 a2).map fun r=>(bv r,[])):=by
 refine zG zS7 Tryz.f123 0 20 (fun q=>?_)
 unfold vK
 refine J_g 2 [(0,0),(1,1)] [(2,pp 0),(3,pp 1)] [(0,.box (Version.enc a1)),(1,.box (Version.enc a2))] zB ?_
 refine J_d 12 [] [9] [(9,bv (a1.A !=a2.A))] [] [] zB ?_
 refine zF 9 (fun h3=>?_) (fun h3=>?_)
 ·refine J_g 52 [] [(4,bv false)] [] zB ?_
  exact zN rfl
 ·refine J_d 28 [] [9,14] [(14,bv (a1.B !=a2.B))] [] [] zB ?_
  refine zF 14 (fun h4=>?_) (fun h4=>?_)
  ·refine J_g 116 [] [(4,bv false)] [] zB ?_
   exact zN rfl
  ·refine J_g 60 [] [(19,bv (a1.C !=a2.C))] [] zB ?_
   refine zF 19 (fun h5=>?_) (fun h5=>?_)
   ·refine J_g 244 [] [(4,bv false)] [] zB ?_
    exact zN rfl
   ·refine J_g 62 [] [(4,bv true)] [] zB ?_
    exact zN rfl
noncomputable def c124:Code:=(Tryz.f124.body).getD .skip
theorem zBn.ok (a1:(List ByteArray)) (a2:(List ByteArray)) (q:Wd) (kn:Unit→Option (D×List Ent)) (hk:∀v:Unit,J (q.g Tryz.prog 124 0 26) c124 (atI c124 15) (St.mk' [] []) (some v) kn):
  ∀s10:Int,J (q.g Tryz.prog 124 0 26) c124 (atI c124 116) (St.mk' [(0,sl 1 eStr a1),(1,sl 1 eStr a2),(5,iv s10)] []) (zBn a1 a2 s10) (Fl.go (fun r:Bool=>some (bv r,[])) kn):=by
 refine jL (fun g ih s10=>?_)
 unfold zBT
 refine J_d 464 [] [14] [(14,bv (decide (s10< (a1.length:Int))))] [] [] zB ?_
 refine zF 14 (fun h11=>?_) (fun h11=>?_)
 ·refine zA (fun x12 h13=>?_)
  refine zA (fun x14 h15=>?_)
  refine J_d 1864 [] [14,25] [(25,bv (!(seq x12 x14)))] [] [] (zD 2 (vR (kk:=.i64) 90 9 1 eStr (.tmp 17) (.tmp 18) h13) (zD 6 (vR (kk:=.i64) 90 9 1 eStr (.tmp 21) (.tmp 22) h15) zB)) ?_
  refine zF 25 (fun h16=>?_) (fun h16=>?_)
  ·refine J_g 7460 [] [(4,bv false)] [] zB ?_
   exact zN rfl
  ·refine J_d 467 [] [5,25] [(5,iv (w64 (s10+1)))] [] [] zB ?_
   exact J_q (J_b (ih (w64 (s10+1)))) rfl
 ·exact xD (hk ()) rfl
theorem zAQ.ok (a1:(List ByteArray)) (a2:(List ByteArray)):Ok Tryz.prog 124 [sl 1 eStr a1,sl 1 eStr a2] [] ((zAQ a1 a2).map fun r=>(bv r,[])):=by
 refine zG c124 Tryz.f124 0 26 (fun q=>?_)
 unfold zAQ
 refine J_g 2 [] [(0,sl 1 eStr a1),(1,sl 1 eStr a2)] [] zB ?_
 refine J_d 12 [] [10] [(10,bv ((a1.length:Int) !=(a2.length:Int)))] [] [] zB ?_
 refine zF 10 (fun h3=>?_) (fun h3=>?_)
 ·refine J_g 52 [] [(4,bv false)] [] zB ?_
  exact zN rfl
 ·refine J_d 28 [] [5,10] [(5,iv 0)] [] [] zB ?_
  refine uZ (K0:=(fun r:Bool=>some (bv r,[]))) (fun _=>rfl) (zBn.ok a1 a2 q _ (fun v17=>J_j ?_) 0)
  refine J_g 30 [] [(4,bv true)] [] zB ?_
  exact zN rfl
noncomputable def zSf:Code:=(Tryz.f184.body).getD .skip
theorem zD4.ok (a1:Term) (a2:Term):Ok Tryz.prog 184 [.ag (Term.enc a1),.ag (Term.enc a2)] [] ((zD4 a1 a2).map fun r=>(bv r,[])):=by
 refine zG zSf Tryz.f184 0 22 (fun q=>?_)
 unfold zD4
 refine J_g 2 [(0,0),(1,1)] [(2,pp 0),(3,pp 1)] [(0,.box (Term.enc a1)),(1,.box (Term.enc a2))] zB ?_
 refine J_d 12 [] [9] [(9,bv (!(seq a1.Name a2.Name)))] [] [] zB ?_
 refine zF 9 (fun h3=>?_) (fun h3=>?_)
 ·refine J_g 52 [] [(4,bv false)] [] zB ?_
  exact zN rfl
 ·refine zA (fun x4 h5=>?_)
  refine J_d 28 [] [9,15] [(15,bv (!x4))] [] [] (zD 4 (xR [(.tmp 11),(.tmp 13)] [39,39] (vK.ok a1.Low a2.Low) h5) zB) ?_
  refine zF 15 (fun h6=>?_) (fun h6=>?_)
  ·refine J_g 116 [] [(4,bv false)] [] zB ?_
   exact zN rfl
  ·refine zA (fun x7 h8=>?_)
   refine J_g 60 [] [(21,bv (!x7))] [] (zD 4 (xR [(.tmp 17),(.tmp 19)] [39,39] (vK.ok a1.High a2.High) h8) zB) ?_
   refine zF 21 (fun h9=>?_) (fun h9=>?_)
   ·refine J_g 244 [] [(4,bv false)] [] zB ?_
    exact zN rfl
   ·refine J_g 62 [] [(4,bv true)] [] zB ?_
    exact zN rfl
noncomputable def zQD:Code:=(Tryz.f126.body).getD .skip
theorem zCd.ok (a1:(List Term)) (a2:(List Term)) (q:Wd) (kn:Unit→Option (D×List Ent)) (hk:∀v:Unit,J (q.g Tryz.prog 126 0 27) zQD (atI zQD 15) (St.mk' [] []) (some v) kn):
  ∀s12:Int,J (q.g Tryz.prog 126 0 27) zQD (atI zQD 116) (St.mk' [(0,sl 7 Term.enc a1),(1,sl 7 Term.enc a2),(5,iv s12)] []) (zCd a1 a2 s12) (Fl.go (fun r:Bool=>some (bv r,[])) kn):=by
 refine jL (fun g ih s12=>?_)
 unfold zDo
 refine J_d 464 [] [14] [(14,bv (decide (s12< (a1.length:Int))))] [] [] zB ?_
 refine zF 14 (fun h13=>?_) (fun h13=>?_)
 ·refine zA (fun x14 h15=>?_)
  refine zA (fun x16 h17=>?_)
  refine zA (fun x18 h19=>?_)
  refine J_d 1864 [] [14,26] [(26,bv (!x18))] [] [] (zD 2 (vR (kk:=.i64) 24 41 7 Term.enc (.tmp 17) (.tmp 18) h15) (zD 6 (vR (kk:=.i64) 24 41 7 Term.enc (.tmp 21) (.tmp 22) h17) (zD 8 (xR [(.tmp 20),(.tmp 24)] [41,41] (zD4.ok x14 x16) h19) zB))) ?_
  refine zF 26 (fun h20=>?_) (fun h20=>?_)
  ·refine J_g 7460 [] [(4,bv false)] [] zB ?_
   exact zN rfl
  ·refine J_d 467 [] [5,26] [(5,iv (w64 (s12+1)))] [] [] zB ?_
   exact J_q (J_b (ih (w64 (s12+1)))) rfl
 ·exact xD (hk ()) rfl
theorem zA8.ok (a1:(List Term)) (a2:(List Term)):Ok Tryz.prog 126 [sl 7 Term.enc a1,sl 7 Term.enc a2] [] ((zA8 a1 a2).map fun r=>(bv r,[])):=by
 refine zG zQD Tryz.f126 0 27 (fun q=>?_)
 unfold zA8
 refine J_g 2 [] [(0,sl 7 Term.enc a1),(1,sl 7 Term.enc a2)] [] zB ?_
 refine J_d 12 [] [10] [(10,bv ((a1.length:Int) !=(a2.length:Int)))] [] [] zB ?_
 refine zF 10 (fun h3=>?_) (fun h3=>?_)
 ·refine J_g 52 [] [(4,bv false)] [] zB ?_
  exact zN rfl
 ·refine J_d 28 [] [5,10] [(5,iv 0)] [] [] zB ?_
  refine uZ (K0:=(fun r:Bool=>some (bv r,[]))) (fun _=>rfl) (zCd.ok a1 a2 q _ (fun v21=>J_j ?_) 0)
  refine J_g 30 [] [(4,bv true)] [] zB ?_
  exact zN rfl
noncomputable def zQL:Code:=(Tryz.f125.body).getD .skip
theorem zBK.ok (a1:(List (List Term))) (a2:(List (List Term))) (q:Wd) (kn:Unit→Option (D×List Ent)) (hk:∀v:Unit,J (q.g Tryz.prog 125 0 27) zQL (atI zQL 15) (St.mk' [] []) (some v) kn):
  ∀s12:Int,J (q.g Tryz.prog 125 0 27) zQL (atI zQL 116) (St.mk' [(0,sl 1 (eSl false 7 Term.enc) a1),(1,sl 1 (eSl false 7 Term.enc) a2),(5,iv s12)] []) (zBK a1 a2 s12) (Fl.go (fun r:Bool=>some (bv r,[])) kn):=by
 refine jL (fun g ih s12=>?_)
 unfold zCR
 refine J_d 464 [] [14] [(14,bv (decide (s12< (a1.length:Int))))] [] [] zB ?_
 refine zF 14 (fun h13=>?_) (fun h13=>?_)
 ·refine zA (fun x14 h15=>?_)
  refine zA (fun x16 h17=>?_)
  refine zA (fun x18 h19=>?_)
  refine J_d 1864 [] [14,26] [(26,bv (!x18))] [] [] (zD 2 (vR (kk:=.i64) 100 24 1 (eSl false 7 Term.enc) (.tmp 17) (.tmp 18) h15) (zD 6 (vR (kk:=.i64) 100 24 1 (eSl false 7 Term.enc) (.tmp 21) (.tmp 22) h17) (zD 8 (xR [(.tmp 20),(.tmp 24)] [24,24] (zA8.ok x14 x16) h19) zB))) ?_
  refine zF 26 (fun h20=>?_) (fun h20=>?_)
  ·refine J_g 7460 [] [(4,bv false)] [] zB ?_
   exact zN rfl
  ·refine J_d 467 [] [5,26] [(5,iv (w64 (s12+1)))] [] [] zB ?_
   exact J_q (J_b (ih (w64 (s12+1)))) rfl
 ·exact xD (hk ()) rfl
theorem zB4.ok (a1:(List (List Term))) (a2:(List (List Term))):Ok Tryz.prog 125 [sl 1 (eSl false 7 Term.enc) a1,sl 1 (eSl false 7 Term.enc) a2] [] ((zB4 a1 a2).map fun r=>(bv r,[])):=by
 refine zG zQL Tryz.f125 0 27 (fun q=>?_)
 unfold zB4
 refine J_g 2 [] [(0,sl 1 (eSl false 7 Term.enc) a1),(1,sl 1 (eSl false 7 Term.enc) a2)] [] zB ?_
 refine J_d 12 [] [10] [(10,bv ((a1.length:Int) !=(a2.length:Int)))] [] [] zB ?_
 refine zF 10 (fun h3=>?_) (fun h3=>?_)
 ·refine J_g 52 [] [(4,bv false)] [] zB ?_
  exact zN rfl
 ·refine J_d 28 [] [5,10] [(5,iv 0)] [] [] zB ?_
  refine uZ (K0:=(fun r:Bool=>some (bv r,[]))) (fun _=>rfl) (zBK.ok a1 a2 q _ (fun v21=>J_j ?_) 0)
  refine J_g 30 [] [(4,bv true)] [] zB ?_
  exact zN rfl
noncomputable def c59:Code:=(Tryz.f59.body).getD .skip
theorem zD3.ok (a1:Pack) (a2:Pack):Ok Tryz.prog 59 [.ag (Pack.enc false a1),.ag (Pack.enc false a2)] [] ((zD3 a1 a2).map fun r=>(bv r,[])):=by
 refine zG c59 Tryz.f59 0 39 (fun q=>?_)
 unfold zD3
 refine J_g 2 [(0,0),(1,1)] [(2,pp 0),(3,pp 1)] [(0,.box (Pack.enc false a1)),(1,.box (Pack.enc false a2))] zB ?_
 refine J_d 12 [] [9] [(9,bv (!(seq a1.Name a2.Name)))] [] [] zB ?_
 refine zF 9 (fun h3=>?_) (fun h3=>?_)
 ·refine J_g 52 [] [(4,bv false)] [] zB ?_
  exact zN rfl
 ·refine zA (fun x4 h5=>?_)
  refine J_d 28 [] [9,15] [(15,bv (!x4))] [] [] (zD 4 (xR [(.tmp 11),(.tmp 13)] [39,39] (vK.ok a1.Version a2.Version) h5) zB) ?_
  refine zF 15 (fun h6=>?_) (fun h6=>?_)
  ·refine J_g 116 [] [(4,bv false)] [] zB ?_
   exact zN rfl
  ·refine J_d 60 [] [15,20] [(20,bv (a1.Size !=a2.Size))] [] [] zB ?_
   refine zF 20 (fun h7=>?_) (fun h7=>?_)
   ·refine J_g 244 [] [(4,bv false)] [] zB ?_
    exact zN rfl
   ·refine zA (fun x8 h9=>?_)
    refine J_d 124 [] [20,26] [(26,bv (!x8))] [] [] (zD 4 (xR [(.tmp 22),(.tmp 24)] [90,90] (zAQ.ok a1.Provides a2.Provides) h9) zB) ?_
    refine zF 26 (fun h10=>?_) (fun h10=>?_)
    ·refine J_g 500 [] [(4,bv false)] [] zB ?_
     exact zN rfl
    ·refine zA (fun x11 h12=>?_)
     refine J_d 252 [] [26,32] [(32,bv (!x11))] [] [] (zD 4 (xR [(.tmp 28),(.tmp 30)] [100,100] (zB4.ok a1.Needs a2.Needs) h12) zB) ?_
     refine zF 32 (fun h13=>?_) (fun h13=>?_)
     ·refine J_g 1012 [] [(4,bv false)] [] zB ?_
      exact zN rfl
     ·refine zA (fun x14 h15=>?_)
      refine J_g 508 [] [(38,bv (!x14))] [] (zD 4 (xR [(.tmp 34),(.tmp 36)] [24,24] (zA8.ok a1.Bars a2.Bars) h15) zB) ?_
      refine zF 38 (fun h16=>?_) (fun h16=>?_)
      ·refine J_g 2036 [] [(4,bv false)] [] zB ?_
       exact zN rfl
      ·refine J_g 510 [] [(4,bv true)] [] zB ?_
       exact zN rfl
noncomputable def c22:Code:=(Tryz.f22.body).getD .skip
theorem zCC.ok (a1:(List Pack)) (a2:(List Pack)) (q:Wd) (kn:Unit→Option (D×List Ent)) (hk:∀v:Unit,J (q.g Tryz.prog 22 0 27) c22 (atI c22 15) (St.mk' [] []) (some v) kn):
  ∀s12:Int,J (q.g Tryz.prog 22 0 27) c22 (atI c22 116) (St.mk' [(0,sl 8 (Pack.enc false) a1),(1,sl 8 (Pack.enc false) a2),(5,iv s12)] []) (zCC a1 a2 s12) (Fl.go (fun r:Bool=>some (bv r,[])) kn):=by
 refine jL (fun g ih s12=>?_)
 unfold zDn
 refine J_d 464 [] [14] [(14,bv (decide (s12< (a1.length:Int))))] [] [] zB ?_
 refine zF 14 (fun h13=>?_) (fun h13=>?_)
 ·refine zA (fun x14 h15=>?_)
  refine zA (fun x16 h17=>?_)
  refine zA (fun x18 h19=>?_)
  refine J_d 1864 [] [14,26] [(26,bv (!x18))] [] [] (zD 2 (vR (kk:=.i64) 53 102 8 (Pack.enc false) (.tmp 17) (.tmp 18) h15) (zD 6 (vR (kk:=.i64) 53 102 8 (Pack.enc false) (.tmp 21) (.tmp 22) h17) (zD 8 (xR [(.tmp 20),(.tmp 24)] [102,102] (zD3.ok x14 x16) h19) zB))) ?_
  refine zF 26 (fun h20=>?_) (fun h20=>?_)
  ·refine J_g 7460 [] [(4,bv false)] [] zB ?_
   exact zN rfl
  ·refine J_d 467 [] [5,26] [(5,iv (w64 (s12+1)))] [] [] zB ?_
   exact J_q (J_b (ih (w64 (s12+1)))) rfl
 ·exact xD (hk ()) rfl
theorem zC6.ok (a1:(List Pack)) (a2:(List Pack)):Ok Tryz.prog 22 [sl 8 (Pack.enc false) a1,sl 8 (Pack.enc false) a2] [] ((zC6 a1 a2).map fun r=>(bv r,[])):=by
 refine zG c22 Tryz.f22 0 27 (fun q=>?_)
 unfold zC6
 refine J_g 2 [] [(0,sl 8 (Pack.enc false) a1),(1,sl 8 (Pack.enc false) a2)] [] zB ?_
 refine J_d 12 [] [10] [(10,bv ((a1.length:Int) !=(a2.length:Int)))] [] [] zB ?_
 refine zF 10 (fun h3=>?_) (fun h3=>?_)
 ·refine J_g 52 [] [(4,bv false)] [] zB ?_
  exact zN rfl
 ·refine J_d 28 [] [5,10] [(5,iv 0)] [] [] zB ?_
  refine uZ (K0:=(fun r:Bool=>some (bv r,[]))) (fun _=>rfl) (zCC.ok a1 a2 q _ (fun v21=>J_j ?_) 0)
  refine J_g 30 [] [(4,bv true)] [] zB ?_
  exact zN rfl
noncomputable def c24:Code:=(Tryz.f24.body).getD .skip
theorem zBF.ok (a1:(List Int)) (a2:(List Int)) (q:Wd) (kn:Unit→Option (D×List Ent)) (hk:∀v:Unit,J (q.g Tryz.prog 24 0 26) c24 (atI c24 15) (St.mk' [] []) (some v) kn):
  ∀s10:Int,J (q.g Tryz.prog 24 0 26) c24 (atI c24 116) (St.mk' [(0,sl 1 zK a1),(1,sl 1 zK a2),(5,iv s10)] []) (zBF a1 a2 s10) (Fl.go (fun r:Bool=>some (bv r,[])) kn):=by
 refine jL (fun g ih s10=>?_)
 unfold zCM
 refine J_d 464 [] [14] [(14,bv (decide (s10< (a1.length:Int))))] [] [] zB ?_
 refine zF 14 (fun h11=>?_) (fun h11=>?_)
 ·refine zA (fun x12 h13=>?_)
  refine zA (fun x14 h15=>?_)
  refine J_d 1864 [] [14,25] [(25,bv (x12 !=x14))] [] [] (zD 2 (vR (kk:=.i64) 49 2 1 zK (.tmp 17) (.tmp 18) h13) (zD 6 (vR (kk:=.i64) 49 2 1 zK (.tmp 21) (.tmp 22) h15) zB)) ?_
  refine zF 25 (fun h16=>?_) (fun h16=>?_)
  ·refine J_g 7460 [] [(4,bv false)] [] zB ?_
   exact zN rfl
  ·refine J_d 467 [] [5,25] [(5,iv (w64 (s10+1)))] [] [] zB ?_
   exact J_q (J_b (ih (w64 (s10+1)))) rfl
 ·exact xD (hk ()) rfl
theorem zB0.ok (a1:(List Int)) (a2:(List Int)):Ok Tryz.prog 24 [sl 1 zK a1,sl 1 zK a2] [] ((zB0 a1 a2).map fun r=>(bv r,[])):=by
 refine zG c24 Tryz.f24 0 26 (fun q=>?_)
 unfold zB0
 refine J_g 2 [] [(0,sl 1 zK a1),(1,sl 1 zK a2)] [] zB ?_
 refine J_d 12 [] [10] [(10,bv ((a1.length:Int) !=(a2.length:Int)))] [] [] zB ?_
 refine zF 10 (fun h3=>?_) (fun h3=>?_)
 ·refine J_g 52 [] [(4,bv false)] [] zB ?_
  exact zN rfl
 ·refine J_d 28 [] [5,10] [(5,iv 0)] [] [] zB ?_
  refine uZ (K0:=(fun r:Bool=>some (bv r,[]))) (fun _=>rfl) (zBF.ok a1 a2 q _ (fun v17=>J_j ?_) 0)
  refine J_g 30 [] [(4,bv true)] [] zB ?_
  exact zN rfl
noncomputable def c61:Code:=(Tryz.f61.body).getD .skip
theorem zB8.ok (q:Wd) (kn:ByteArray→Option (D×List Ent)) (hk:∀v:ByteArray,J (q.g Tryz.prog 61 0 20) c61 (atI c61 31) (St.mk' [(3,sv v)] []) (some v) kn):
  ∀s6:(Int×ByteArray),J (q.g Tryz.prog 61 0 20) c61 (atI c61 120) (St.mk' [(0,iv s6.1),(3,sv s6.2)] []) (zB8 s6) kn:=by
 refine jL (fun g ih s6=>?_)
 unfold zCQ
 refine J_d 480 [] [7] [(7,bv (decide (s6.1>0)))] [] [] zB ?_
 refine zF 7 (fun h7=>?_) (fun h7=>?_)
 ·refine zA (fun x8 h9=>?_)
  refine J_g 964 [] [(0,iv s6.1),(3,sv x8)] [] (zD 4 (zFm 22 5 1 0 eU8 [IntKind.u8.wrap (w64 (48+(s6.1.tmod 10)))] [0] [(.tmp 11)] [uv (IntKind.u8.wrap (w64 (48+(s6.1.tmod 10))))]) (zD 5 (zOk (xs:=[IntKind.u8.wrap (w64 (48+(s6.1.tmod 10)))]) 22 9 5 0 (.tmp 12)) (zD 7 (zEo 9 9 (.tmp 13) (.tmp 14) h9) zB))) ?_
  refine J_g 965 [] [(0,iv (w64 (s6.1.tdiv 10))),(3,sv x8)] [] zB ?_
  exact J_q (J_b (ih (w64 (s6.1.tdiv 10),x8))) rfl
 ·exact xD (hk s6.2) rfl
theorem xY.ok (a1:Int):Ok Tryz.prog 61 [iv a1] [] ((xY a1).map fun r=>(sv r,[])):=by
 refine zG c61 Tryz.f61 0 20 (fun q=>?_)
 unfold xY
 refine J_g 2 [] [(0,iv a1)] [] zB ?_
 refine J_g 12 [] [(0,iv a1),(5,bv (decide (a1≤0)))] [] zB ?_
 refine zF 5 (fun h2=>?_) (fun h2=>?_)
 ·refine J_g 52 [] [(2,sv (bs [109,48]))] [] zB ?_
  exact zN rfl
 ·refine J_g 14 [] [(0,iv a1),(3,sv (bs []))] [] zB ?_
  refine zE3 (zB8.ok q _ (fun v10=>J_j ?_) (a1,bs []))
  refine zA (fun x11 h12=>?_)
  refine J_g 62 [] [(2,sv x11)] [] (zD 1 (zEo 9 9 (.const (.string (bs [109]))) (.tmp 18) h12) zB) ?_
  exact zN rfl
noncomputable def c62:Code:=(Tryz.f62.body).getD .skip
theorem jQ.ok (q:Wd) (kn:((List ByteArray)×Int)→Option (D×List Ent)) (hk:∀v:((List ByteArray)×Int),J (q.g Tryz.prog 62 1 20) c62 (atI c62 7) (St.mk' [(1,iv v.2)] [(0,rE 1 eStr v.1)]) (some v) kn):
  ∀s8:((List ByteArray)×Int×Int),J (q.g Tryz.prog 62 1 20) c62 (atI c62 52) (St.mk' [(0,rr 0 s8.1),(1,iv s8.2.1),(5,iv s8.2.2)] [(0,rE 1 eStr s8.1)]) (jQ s8) kn:=by
 refine jL (fun g ih s8=>?_)
 unfold jA
 refine J_d 208 [] [9] [(9,bv (decide (s8.2.2< (s8.1.length:Int))))] [] [] zB ?_
 refine zF 9 (fun h9=>?_) (fun h9=>?_)
 ·refine zA (fun x10 h11=>?_)
  refine zA (fun x12 h13=>?_)
  refine J_g 840 [] [(0,rr 0 s8.1),(1,iv s8.2.1),(5,iv s8.2.2)] [(0,rE 1 eStr (s8.1.set s8.2.2.toNat x10))] (zD 3 (xR [(.tmp 14)] [3] (xY.ok s8.2.1) h11) (zD 4 (uN (kk:=.i64) 90 9 1 0 eStr (.tmp 12) (.tmp 13) h13) (zGO 5 (zHY (b:=x10) 9 1 0 0 eStr (sv x10) (.tmp 16) (.tmp 15) h13 rfl) zB))) ?_
  refine zFQ (σ':=St.mk' [(0,rr 0 (s8.1.set s8.2.2.toNat x10)),(1,iv s8.2.1),(5,iv s8.2.2)] [(0,rE 1 eStr (s8.1.set s8.2.2.toNat x10))]) (by simp only [rr,List.length_set]) ?_
  refine J_g 841 [] [(0,rr 0 (s8.1.set s8.2.2.toNat x10)),(1,iv (w64 (s8.2.1+1))),(5,iv s8.2.2)] [(0,rE 1 eStr (s8.1.set s8.2.2.toNat x10))] zB ?_
  refine J_d 211 [] [5] [(5,iv (w64 (s8.2.2+1)))] [] [] zB ?_
  exact J_q (J_b (ih (s8.1.set s8.2.2.toNat x10,w64 (s8.2.1+1),w64 (s8.2.2+1)))) rfl
 ·exact xD (hk (s8.1,s8.2.1)) rfl
theorem uW.ok (a1:(List ByteArray)) (a2:Int):Ok Tryz.prog 62 [rr 0 a1,iv a2] [rE 1 eStr a1] ((uW a1 a2).map fun r=>(iv r.1,[rE 1 eStr r.2])):=by
 refine zG c62 Tryz.f62 1 20 (fun q=>?_)
 unfold uW
 refine J_g 2 [] [(0,rr 0 a1),(1,iv a2)] [(0,rE 1 eStr a1)] zB ?_
 refine J_d 12 [] [5] [(5,iv 0)] [] [] zB ?_
 refine zE3 (jQ.ok q _ (fun v14=>J_j ?_) (a1,a2,0))
 refine J_g 14 [] [(4,iv v14.2)] [(0,rE 1 eStr v14.1)] zB ?_
 exact zN rfl
noncomputable def c64:Code:=(Tryz.f64.body).getD .skip
theorem zAC.ok (q:Wd) (kn:((List Term)×Int)→Option (D×List Ent)) (hk:∀v:((List Term)×Int),J (q.g Tryz.prog 64 1 69) c64 (atI c64 7) (St.mk' [(1,iv v.2)] [(0,rE 7 Term.enc v.1)]) (some v) kn):
  ∀s20:((List Term)×Int×Int),J (q.g Tryz.prog 64 1 69) c64 (atI c64 52) (St.mk' [(0,rr 0 s20.1),(1,iv s20.2.1),(5,iv s20.2.2)] [(0,rE 7 Term.enc s20.1)]) (zAC s20) kn:=by
 refine jL (fun g ih s20=>?_)
 unfold kH
 refine J_d 208 [] [9] [(9,bv (decide (s20.2.2< (s20.1.length:Int))))] [] [] zB ?_
 refine zF 9 (fun h21=>?_) (fun h21=>?_)
 ·refine zA (fun x22 h23=>?_)
  refine zA (fun x24 h25=>?_)
  refine J_g 840 [] [(0,rr 0 s20.1),(1,iv s20.2.1),(5,iv s20.2.2)] [(0,rE 7 Term.enc (s20.1.set s20.2.2.toNat ({Name:=x22,Low:=x24.Low,High:=x24.High}:Term)))] (zD 3 (xR [(.tmp 14)] [3] (xY.ok s20.2.1) h23) (zD 4 (uN (kk:=.i64) 24 41 7 0 Term.enc (.tmp 12) (.tmp 13) h25) (zGO 6 (zHY (b:=({Name:=x22,Low:=x24.Low,High:=x24.High}:Term)) 9 7 0 0 Term.enc (sv x22) (.tmp 17) (.tmp 15) h25 rfl) zB))) ?_
  refine zFQ (σ':=St.mk' [(0,rr 0 (s20.1.set s20.2.2.toNat ({Name:=x22,Low:=x24.Low,High:=x24.High}:Term))),(1,iv s20.2.1),(5,iv s20.2.2)] [(0,rE 7 Term.enc (s20.1.set s20.2.2.toNat ({Name:=x22,Low:=x24.Low,High:=x24.High}:Term)))]) (by simp only [rr,List.length_set]) ?_
  refine J_d 1682 [] [1] [(1,iv (w64 (s20.2.1+1)))] [] [] zB ?_
  refine zA (fun x26 h27=>?_)
  refine J_g 3366 [] [(0,rr 0 (s20.1.set s20.2.2.toNat ({Name:=x22,Low:=x24.Low,High:=x24.High}:Term))),(1,iv (w64 (s20.2.1+1))),(5,iv s20.2.2)] [(0,rE 7 Term.enc ((s20.1.set s20.2.2.toNat ({Name:=x22,Low:=x24.Low,High:=x24.High}:Term)).set s20.2.2.toNat ({Name:=x26.Name,Low:=({A:=w64 (s20.2.1+1),B:=x26.Low.B,C:=x26.Low.C}:Version),High:=x26.High}:Term)))] (zD 3 (uN (kk:=.i64) 24 41 7 0 Term.enc (.tmp 20) (.tmp 21) h27) (zGO 6 (zHY (b:=({Name:=x26.Name,Low:=({A:=w64 (s20.2.1+1),B:=x26.Low.B,C:=x26.Low.C}:Version),High:=x26.High}:Term)) 2 7 0 1 Term.enc (iv (w64 (s20.2.1+1))) (.tmp 25) (.tmp 22) h27 rfl) zB)) ?_
  refine zFQ (σ':=St.mk' [(0,rr 0 ((s20.1.set s20.2.2.toNat ({Name:=x22,Low:=x24.Low,High:=x24.High}:Term)).set s20.2.2.toNat ({Name:=x26.Name,Low:=({A:=w64 (s20.2.1+1),B:=x26.Low.B,C:=x26.Low.C}:Version),High:=x26.High}:Term))),(1,iv (w64 (s20.2.1+1))),(5,iv s20.2.2)] [(0,rE 7 Term.enc ((s20.1.set s20.2.2.toNat ({Name:=x22,Low:=x24.Low,High:=x24.High}:Term)).set s20.2.2.toNat ({Name:=x26.Name,Low:=({A:=w64 (s20.2.1+1),B:=x26.Low.B,C:=x26.Low.C}:Version),High:=x26.High}:Term)))]) (by simp only [rr,List.length_set]) ?_
  refine J_d 6734 [] [1] [(1,iv (w64 ((w64 (s20.2.1+1))+1)))] [] [] zB ?_
  refine zA (fun x28 h29=>?_)
  refine J_g 13470 [] [(0,rr 0 ((s20.1.set s20.2.2.toNat ({Name:=x22,Low:=x24.Low,High:=x24.High}:Term)).set s20.2.2.toNat ({Name:=x26.Name,Low:=({A:=w64 (s20.2.1+1),B:=x26.Low.B,C:=x26.Low.C}:Version),High:=x26.High}:Term))),(1,iv (w64 ((w64 (s20.2.1+1))+1))),(5,iv s20.2.2)] [(0,rE 7 Term.enc (((s20.1.set s20.2.2.toNat ({Name:=x22,Low:=x24.Low,High:=x24.High}:Term)).set s20.2.2.toNat ({Name:=x26.Name,Low:=({A:=w64 (s20.2.1+1),B:=x26.Low.B,C:=x26.Low.C}:Version),High:=x26.High}:Term)).set s20.2.2.toNat ({Name:=x28.Name,Low:=({A:=x28.Low.A,B:=w64 ((w64 (s20.2.1+1))+1),C:=x28.Low.C}:Version),High:=x28.High}:Term)))] (zD 3 (uN (kk:=.i64) 24 41 7 0 Term.enc (.tmp 28) (.tmp 29) h29) (zGO 6 (zHY (b:=({Name:=x28.Name,Low:=({A:=x28.Low.A,B:=w64 ((w64 (s20.2.1+1))+1),C:=x28.Low.C}:Version),High:=x28.High}:Term)) 2 7 0 2 Term.enc (iv (w64 ((w64 (s20.2.1+1))+1))) (.tmp 33) (.tmp 30) h29 rfl) zB)) ?_
  refine zFQ (σ':=St.mk' [(0,rr 0 (((s20.1.set s20.2.2.toNat ({Name:=x22,Low:=x24.Low,High:=x24.High}:Term)).set s20.2.2.toNat ({Name:=x26.Name,Low:=({A:=w64 (s20.2.1+1),B:=x26.Low.B,C:=x26.Low.C}:Version),High:=x26.High}:Term)).set s20.2.2.toNat ({Name:=x28.Name,Low:=({A:=x28.Low.A,B:=w64 ((w64 (s20.2.1+1))+1),C:=x28.Low.C}:Version),High:=x28.High}:Term))),(1,iv (w64 ((w64 (s20.2.1+1))+1))),(5,iv s20.2.2)] [(0,rE 7 Term.enc (((s20.1.set s20.2.2.toNat ({Name:=x22,Low:=x24.Low,High:=x24.High}:Term)).set s20.2.2.toNat ({Name:=x26.Name,Low:=({A:=w64 (s20.2.1+1),B:=x26.Low.B,C:=x26.Low.C}:Version),High:=x26.High}:Term)).set s20.2.2.toNat ({Name:=x28.Name,Low:=({A:=x28.Low.A,B:=w64 ((w64 (s20.2.1+1))+1),C:=x28.Low.C}:Version),High:=x28.High}:Term)))]) (by simp only [rr,List.length_set]) ?_
  refine J_d 26942 [] [1] [(1,iv (w64 ((w64 ((w64 (s20.2.1+1))+1))+1)))] [] [] zB ?_
  refine zA (fun x30 h31=>?_)
  refine J_g 53886 [] [(0,rr 0 (((s20.1.set s20.2.2.toNat ({Name:=x22,Low:=x24.Low,High:=x24.High}:Term)).set s20.2.2.toNat ({Name:=x26.Name,Low:=({A:=w64 (s20.2.1+1),B:=x26.Low.B,C:=x26.Low.C}:Version),High:=x26.High}:Term)).set s20.2.2.toNat ({Name:=x28.Name,Low:=({A:=x28.Low.A,B:=w64 ((w64 (s20.2.1+1))+1),C:=x28.Low.C}:Version),High:=x28.High}:Term))),(1,iv (w64 ((w64 ((w64 (s20.2.1+1))+1))+1))),(5,iv s20.2.2)] [(0,rE 7 Term.enc ((((s20.1.set s20.2.2.toNat ({Name:=x22,Low:=x24.Low,High:=x24.High}:Term)).set s20.2.2.toNat ({Name:=x26.Name,Low:=({A:=w64 (s20.2.1+1),B:=x26.Low.B,C:=x26.Low.C}:Version),High:=x26.High}:Term)).set s20.2.2.toNat ({Name:=x28.Name,Low:=({A:=x28.Low.A,B:=w64 ((w64 (s20.2.1+1))+1),C:=x28.Low.C}:Version),High:=x28.High}:Term)).set s20.2.2.toNat ({Name:=x30.Name,Low:=({A:=x30.Low.A,B:=x30.Low.B,C:=w64 ((w64 ((w64 (s20.2.1+1))+1))+1)}:Version),High:=x30.High}:Term)))] (zD 3 (uN (kk:=.i64) 24 41 7 0 Term.enc (.tmp 36) (.tmp 37) h31) (zGO 6 (zHY (b:=({Name:=x30.Name,Low:=({A:=x30.Low.A,B:=x30.Low.B,C:=w64 ((w64 ((w64 (s20.2.1+1))+1))+1)}:Version),High:=x30.High}:Term)) 2 7 0 3 Term.enc (iv (w64 ((w64 ((w64 (s20.2.1+1))+1))+1))) (.tmp 41) (.tmp 38) h31 rfl) zB)) ?_
  refine zFQ (σ':=St.mk' [(0,rr 0 ((((s20.1.set s20.2.2.toNat ({Name:=x22,Low:=x24.Low,High:=x24.High}:Term)).set s20.2.2.toNat ({Name:=x26.Name,Low:=({A:=w64 (s20.2.1+1),B:=x26.Low.B,C:=x26.Low.C}:Version),High:=x26.High}:Term)).set s20.2.2.toNat ({Name:=x28.Name,Low:=({A:=x28.Low.A,B:=w64 ((w64 (s20.2.1+1))+1),C:=x28.Low.C}:Version),High:=x28.High}:Term)).set s20.2.2.toNat ({Name:=x30.Name,Low:=({A:=x30.Low.A,B:=x30.Low.B,C:=w64 ((w64 ((w64 (s20.2.1+1))+1))+1)}:Version),High:=x30.High}:Term))),(1,iv (w64 ((w64 ((w64 (s20.2.1+1))+1))+1))),(5,iv s20.2.2)] [(0,rE 7 Term.enc ((((s20.1.set s20.2.2.toNat ({Name:=x22,Low:=x24.Low,High:=x24.High}:Term)).set s20.2.2.toNat ({Name:=x26.Name,Low:=({A:=w64 (s20.2.1+1),B:=x26.Low.B,C:=x26.Low.C}:Version),High:=x26.High}:Term)).set s20.2.2.toNat ({Name:=x28.Name,Low:=({A:=x28.Low.A,B:=w64 ((w64 (s20.2.1+1))+1),C:=x28.Low.C}:Version),High:=x28.High}:Term)).set s20.2.2.toNat ({Name:=x30.Name,Low:=({A:=x30.Low.A,B:=x30.Low.B,C:=w64 ((w64 ((w64 (s20.2.1+1))+1))+1)}:Version),High:=x30.High}:Term)))]) (by simp only [rr,List.length_set]) ?_
  refine J_d 107774 [] [1] [(1,iv (w64 ((w64 ((w64 ((w64 (s20.2.1+1))+1))+1))+1)))] [] [] zB ?_
  refine zA (fun x32 h33=>?_)
  refine J_g 215550 [] [(0,rr 0 ((((s20.1.set s20.2.2.toNat ({Name:=x22,Low:=x24.Low,High:=x24.High}:Term)).set s20.2.2.toNat ({Name:=x26.Name,Low:=({A:=w64 (s20.2.1+1),B:=x26.Low.B,C:=x26.Low.C}:Version),High:=x26.High}:Term)).set s20.2.2.toNat ({Name:=x28.Name,Low:=({A:=x28.Low.A,B:=w64 ((w64 (s20.2.1+1))+1),C:=x28.Low.C}:Version),High:=x28.High}:Term)).set s20.2.2.toNat ({Name:=x30.Name,Low:=({A:=x30.Low.A,B:=x30.Low.B,C:=w64 ((w64 ((w64 (s20.2.1+1))+1))+1)}:Version),High:=x30.High}:Term))),(1,iv (w64 ((w64 ((w64 ((w64 (s20.2.1+1))+1))+1))+1))),(5,iv s20.2.2)] [(0,rE 7 Term.enc (((((s20.1.set s20.2.2.toNat ({Name:=x22,Low:=x24.Low,High:=x24.High}:Term)).set s20.2.2.toNat ({Name:=x26.Name,Low:=({A:=w64 (s20.2.1+1),B:=x26.Low.B,C:=x26.Low.C}:Version),High:=x26.High}:Term)).set s20.2.2.toNat ({Name:=x28.Name,Low:=({A:=x28.Low.A,B:=w64 ((w64 (s20.2.1+1))+1),C:=x28.Low.C}:Version),High:=x28.High}:Term)).set s20.2.2.toNat ({Name:=x30.Name,Low:=({A:=x30.Low.A,B:=x30.Low.B,C:=w64 ((w64 ((w64 (s20.2.1+1))+1))+1)}:Version),High:=x30.High}:Term)).set s20.2.2.toNat ({Name:=x32.Name,Low:=x32.Low,High:=({A:=w64 ((w64 ((w64 ((w64 (s20.2.1+1))+1))+1))+1),B:=x32.High.B,C:=x32.High.C}:Version)}:Term)))] (zD 3 (uN (kk:=.i64) 24 41 7 0 Term.enc (.tmp 44) (.tmp 45) h33) (zGO 6 (zHY (b:=({Name:=x32.Name,Low:=x32.Low,High:=({A:=w64 ((w64 ((w64 ((w64 (s20.2.1+1))+1))+1))+1),B:=x32.High.B,C:=x32.High.C}:Version)}:Term)) 2 7 0 4 Term.enc (iv (w64 ((w64 ((w64 ((w64 (s20.2.1+1))+1))+1))+1))) (.tmp 49) (.tmp 46) h33 rfl) zB)) ?_
  refine zFQ (σ':=St.mk' [(0,rr 0 (((((s20.1.set s20.2.2.toNat ({Name:=x22,Low:=x24.Low,High:=x24.High}:Term)).set s20.2.2.toNat ({Name:=x26.Name,Low:=({A:=w64 (s20.2.1+1),B:=x26.Low.B,C:=x26.Low.C}:Version),High:=x26.High}:Term)).set s20.2.2.toNat ({Name:=x28.Name,Low:=({A:=x28.Low.A,B:=w64 ((w64 (s20.2.1+1))+1),C:=x28.Low.C}:Version),High:=x28.High}:Term)).set s20.2.2.toNat ({Name:=x30.Name,Low:=({A:=x30.Low.A,B:=x30.Low.B,C:=w64 ((w64 ((w64 (s20.2.1+1))+1))+1)}:Version),High:=x30.High}:Term)).set s20.2.2.toNat ({Name:=x32.Name,Low:=x32.Low,High:=({A:=w64 ((w64 ((w64 ((w64 (s20.2.1+1))+1))+1))+1),B:=x32.High.B,C:=x32.High.C}:Version)}:Term))),(1,iv (w64 ((w64 ((w64 ((w64 (s20.2.1+1))+1))+1))+1))),(5,iv s20.2.2)] [(0,rE 7 Term.enc (((((s20.1.set s20.2.2.toNat ({Name:=x22,Low:=x24.Low,High:=x24.High}:Term)).set s20.2.2.toNat ({Name:=x26.Name,Low:=({A:=w64 (s20.2.1+1),B:=x26.Low.B,C:=x26.Low.C}:Version),High:=x26.High}:Term)).set s20.2.2.toNat ({Name:=x28.Name,Low:=({A:=x28.Low.A,B:=w64 ((w64 (s20.2.1+1))+1),C:=x28.Low.C}:Version),High:=x28.High}:Term)).set s20.2.2.toNat ({Name:=x30.Name,Low:=({A:=x30.Low.A,B:=x30.Low.B,C:=w64 ((w64 ((w64 (s20.2.1+1))+1))+1)}:Version),High:=x30.High}:Term)).set s20.2.2.toNat ({Name:=x32.Name,Low:=x32.Low,High:=({A:=w64 ((w64 ((w64 ((w64 (s20.2.1+1))+1))+1))+1),B:=x32.High.B,C:=x32.High.C}:Version)}:Term)))]) (by simp only [rr,List.length_set]) ?_
  refine J_d 431102 [] [1] [(1,iv (w64 ((w64 ((w64 ((w64 ((w64 (s20.2.1+1))+1))+1))+1))+1)))] [] [] zB ?_
  refine zA (fun x34 h35=>?_)
  refine J_g 862206 [] [(0,rr 0 (((((s20.1.set s20.2.2.toNat ({Name:=x22,Low:=x24.Low,High:=x24.High}:Term)).set s20.2.2.toNat ({Name:=x26.Name,Low:=({A:=w64 (s20.2.1+1),B:=x26.Low.B,C:=x26.Low.C}:Version),High:=x26.High}:Term)).set s20.2.2.toNat ({Name:=x28.Name,Low:=({A:=x28.Low.A,B:=w64 ((w64 (s20.2.1+1))+1),C:=x28.Low.C}:Version),High:=x28.High}:Term)).set s20.2.2.toNat ({Name:=x30.Name,Low:=({A:=x30.Low.A,B:=x30.Low.B,C:=w64 ((w64 ((w64 (s20.2.1+1))+1))+1)}:Version),High:=x30.High}:Term)).set s20.2.2.toNat ({Name:=x32.Name,Low:=x32.Low,High:=({A:=w64 ((w64 ((w64 ((w64 (s20.2.1+1))+1))+1))+1),B:=x32.High.B,C:=x32.High.C}:Version)}:Term))),(1,iv (w64 ((w64 ((w64 ((w64 ((w64 (s20.2.1+1))+1))+1))+1))+1))),(5,iv s20.2.2)] [(0,rE 7 Term.enc ((((((s20.1.set s20.2.2.toNat ({Name:=x22,Low:=x24.Low,High:=x24.High}:Term)).set s20.2.2.toNat ({Name:=x26.Name,Low:=({A:=w64 (s20.2.1+1),B:=x26.Low.B,C:=x26.Low.C}:Version),High:=x26.High}:Term)).set s20.2.2.toNat ({Name:=x28.Name,Low:=({A:=x28.Low.A,B:=w64 ((w64 (s20.2.1+1))+1),C:=x28.Low.C}:Version),High:=x28.High}:Term)).set s20.2.2.toNat ({Name:=x30.Name,Low:=({A:=x30.Low.A,B:=x30.Low.B,C:=w64 ((w64 ((w64 (s20.2.1+1))+1))+1)}:Version),High:=x30.High}:Term)).set s20.2.2.toNat ({Name:=x32.Name,Low:=x32.Low,High:=({A:=w64 ((w64 ((w64 ((w64 (s20.2.1+1))+1))+1))+1),B:=x32.High.B,C:=x32.High.C}:Version)}:Term)).set s20.2.2.toNat ({Name:=x34.Name,Low:=x34.Low,High:=({A:=x34.High.A,B:=w64 ((w64 ((w64 ((w64 ((w64 (s20.2.1+1))+1))+1))+1))+1),C:=x34.High.C}:Version)}:Term)))] (zD 3 (uN (kk:=.i64) 24 41 7 0 Term.enc (.tmp 52) (.tmp 53) h35) (zGO 6 (zHY (b:=({Name:=x34.Name,Low:=x34.Low,High:=({A:=x34.High.A,B:=w64 ((w64 ((w64 ((w64 ((w64 (s20.2.1+1))+1))+1))+1))+1),C:=x34.High.C}:Version)}:Term)) 2 7 0 5 Term.enc (iv (w64 ((w64 ((w64 ((w64 ((w64 (s20.2.1+1))+1))+1))+1))+1))) (.tmp 57) (.tmp 54) h35 rfl) zB)) ?_
  refine zFQ (σ':=St.mk' [(0,rr 0 ((((((s20.1.set s20.2.2.toNat ({Name:=x22,Low:=x24.Low,High:=x24.High}:Term)).set s20.2.2.toNat ({Name:=x26.Name,Low:=({A:=w64 (s20.2.1+1),B:=x26.Low.B,C:=x26.Low.C}:Version),High:=x26.High}:Term)).set s20.2.2.toNat ({Name:=x28.Name,Low:=({A:=x28.Low.A,B:=w64 ((w64 (s20.2.1+1))+1),C:=x28.Low.C}:Version),High:=x28.High}:Term)).set s20.2.2.toNat ({Name:=x30.Name,Low:=({A:=x30.Low.A,B:=x30.Low.B,C:=w64 ((w64 ((w64 (s20.2.1+1))+1))+1)}:Version),High:=x30.High}:Term)).set s20.2.2.toNat ({Name:=x32.Name,Low:=x32.Low,High:=({A:=w64 ((w64 ((w64 ((w64 (s20.2.1+1))+1))+1))+1),B:=x32.High.B,C:=x32.High.C}:Version)}:Term)).set s20.2.2.toNat ({Name:=x34.Name,Low:=x34.Low,High:=({A:=x34.High.A,B:=w64 ((w64 ((w64 ((w64 ((w64 (s20.2.1+1))+1))+1))+1))+1),C:=x34.High.C}:Version)}:Term))),(1,iv (w64 ((w64 ((w64 ((w64 ((w64 (s20.2.1+1))+1))+1))+1))+1))),(5,iv s20.2.2)] [(0,rE 7 Term.enc ((((((s20.1.set s20.2.2.toNat ({Name:=x22,Low:=x24.Low,High:=x24.High}:Term)).set s20.2.2.toNat ({Name:=x26.Name,Low:=({A:=w64 (s20.2.1+1),B:=x26.Low.B,C:=x26.Low.C}:Version),High:=x26.High}:Term)).set s20.2.2.toNat ({Name:=x28.Name,Low:=({A:=x28.Low.A,B:=w64 ((w64 (s20.2.1+1))+1),C:=x28.Low.C}:Version),High:=x28.High}:Term)).set s20.2.2.toNat ({Name:=x30.Name,Low:=({A:=x30.Low.A,B:=x30.Low.B,C:=w64 ((w64 ((w64 (s20.2.1+1))+1))+1)}:Version),High:=x30.High}:Term)).set s20.2.2.toNat ({Name:=x32.Name,Low:=x32.Low,High:=({A:=w64 ((w64 ((w64 ((w64 (s20.2.1+1))+1))+1))+1),B:=x32.High.B,C:=x32.High.C}:Version)}:Term)).set s20.2.2.toNat ({Name:=x34.Name,Low:=x34.Low,High:=({A:=x34.High.A,B:=w64 ((w64 ((w64 ((w64 ((w64 (s20.2.1+1))+1))+1))+1))+1),C:=x34.High.C}:Version)}:Term)))]) (by simp only [rr,List.length_set]) ?_
  refine J_d 1724414 [] [1] [(1,iv (w64 ((w64 ((w64 ((w64 ((w64 ((w64 (s20.2.1+1))+1))+1))+1))+1))+1)))] [] [] zB ?_
  refine zA (fun x36 h37=>?_)
  refine J_g 3448830 [] [(0,rr 0 ((((((s20.1.set s20.2.2.toNat ({Name:=x22,Low:=x24.Low,High:=x24.High}:Term)).set s20.2.2.toNat ({Name:=x26.Name,Low:=({A:=w64 (s20.2.1+1),B:=x26.Low.B,C:=x26.Low.C}:Version),High:=x26.High}:Term)).set s20.2.2.toNat ({Name:=x28.Name,Low:=({A:=x28.Low.A,B:=w64 ((w64 (s20.2.1+1))+1),C:=x28.Low.C}:Version),High:=x28.High}:Term)).set s20.2.2.toNat ({Name:=x30.Name,Low:=({A:=x30.Low.A,B:=x30.Low.B,C:=w64 ((w64 ((w64 (s20.2.1+1))+1))+1)}:Version),High:=x30.High}:Term)).set s20.2.2.toNat ({Name:=x32.Name,Low:=x32.Low,High:=({A:=w64 ((w64 ((w64 ((w64 (s20.2.1+1))+1))+1))+1),B:=x32.High.B,C:=x32.High.C}:Version)}:Term)).set s20.2.2.toNat ({Name:=x34.Name,Low:=x34.Low,High:=({A:=x34.High.A,B:=w64 ((w64 ((w64 ((w64 ((w64 (s20.2.1+1))+1))+1))+1))+1),C:=x34.High.C}:Version)}:Term))),(1,iv (w64 ((w64 ((w64 ((w64 ((w64 ((w64 (s20.2.1+1))+1))+1))+1))+1))+1))),(5,iv s20.2.2)] [(0,rE 7 Term.enc (((((((s20.1.set s20.2.2.toNat ({Name:=x22,Low:=x24.Low,High:=x24.High}:Term)).set s20.2.2.toNat ({Name:=x26.Name,Low:=({A:=w64 (s20.2.1+1),B:=x26.Low.B,C:=x26.Low.C}:Version),High:=x26.High}:Term)).set s20.2.2.toNat ({Name:=x28.Name,Low:=({A:=x28.Low.A,B:=w64 ((w64 (s20.2.1+1))+1),C:=x28.Low.C}:Version),High:=x28.High}:Term)).set s20.2.2.toNat ({Name:=x30.Name,Low:=({A:=x30.Low.A,B:=x30.Low.B,C:=w64 ((w64 ((w64 (s20.2.1+1))+1))+1)}:Version),High:=x30.High}:Term)).set s20.2.2.toNat ({Name:=x32.Name,Low:=x32.Low,High:=({A:=w64 ((w64 ((w64 ((w64 (s20.2.1+1))+1))+1))+1),B:=x32.High.B,C:=x32.High.C}:Version)}:Term)).set s20.2.2.toNat ({Name:=x34.Name,Low:=x34.Low,High:=({A:=x34.High.A,B:=w64 ((w64 ((w64 ((w64 ((w64 (s20.2.1+1))+1))+1))+1))+1),C:=x34.High.C}:Version)}:Term)).set s20.2.2.toNat ({Name:=x36.Name,Low:=x36.Low,High:=({A:=x36.High.A,B:=x36.High.B,C:=w64 ((w64 ((w64 ((w64 ((w64 ((w64 (s20.2.1+1))+1))+1))+1))+1))+1)}:Version)}:Term)))] (zD 3 (uN (kk:=.i64) 24 41 7 0 Term.enc (.tmp 60) (.tmp 61) h37) (zGO 6 (zHY (b:=({Name:=x36.Name,Low:=x36.Low,High:=({A:=x36.High.A,B:=x36.High.B,C:=w64 ((w64 ((w64 ((w64 ((w64 ((w64 (s20.2.1+1))+1))+1))+1))+1))+1)}:Version)}:Term)) 2 7 0 6 Term.enc (iv (w64 ((w64 ((w64 ((w64 ((w64 ((w64 (s20.2.1+1))+1))+1))+1))+1))+1))) (.tmp 65) (.tmp 62) h37 rfl) zB)) ?_
  refine zFQ (σ':=St.mk' [(0,rr 0 (((((((s20.1.set s20.2.2.toNat ({Name:=x22,Low:=x24.Low,High:=x24.High}:Term)).set s20.2.2.toNat ({Name:=x26.Name,Low:=({A:=w64 (s20.2.1+1),B:=x26.Low.B,C:=x26.Low.C}:Version),High:=x26.High}:Term)).set s20.2.2.toNat ({Name:=x28.Name,Low:=({A:=x28.Low.A,B:=w64 ((w64 (s20.2.1+1))+1),C:=x28.Low.C}:Version),High:=x28.High}:Term)).set s20.2.2.toNat ({Name:=x30.Name,Low:=({A:=x30.Low.A,B:=x30.Low.B,C:=w64 ((w64 ((w64 (s20.2.1+1))+1))+1)}:Version),High:=x30.High}:Term)).set s20.2.2.toNat ({Name:=x32.Name,Low:=x32.Low,High:=({A:=w64 ((w64 ((w64 ((w64 (s20.2.1+1))+1))+1))+1),B:=x32.High.B,C:=x32.High.C}:Version)}:Term)).set s20.2.2.toNat ({Name:=x34.Name,Low:=x34.Low,High:=({A:=x34.High.A,B:=w64 ((w64 ((w64 ((w64 ((w64 (s20.2.1+1))+1))+1))+1))+1),C:=x34.High.C}:Version)}:Term)).set s20.2.2.toNat ({Name:=x36.Name,Low:=x36.Low,High:=({A:=x36.High.A,B:=x36.High.B,C:=w64 ((w64 ((w64 ((w64 ((w64 ((w64 (s20.2.1+1))+1))+1))+1))+1))+1)}:Version)}:Term))),(1,iv (w64 ((w64 ((w64 ((w64 ((w64 ((w64 (s20.2.1+1))+1))+1))+1))+1))+1))),(5,iv s20.2.2)] [(0,rE 7 Term.enc (((((((s20.1.set s20.2.2.toNat ({Name:=x22,Low:=x24.Low,High:=x24.High}:Term)).set s20.2.2.toNat ({Name:=x26.Name,Low:=({A:=w64 (s20.2.1+1),B:=x26.Low.B,C:=x26.Low.C}:Version),High:=x26.High}:Term)).set s20.2.2.toNat ({Name:=x28.Name,Low:=({A:=x28.Low.A,B:=w64 ((w64 (s20.2.1+1))+1),C:=x28.Low.C}:Version),High:=x28.High}:Term)).set s20.2.2.toNat ({Name:=x30.Name,Low:=({A:=x30.Low.A,B:=x30.Low.B,C:=w64 ((w64 ((w64 (s20.2.1+1))+1))+1)}:Version),High:=x30.High}:Term)).set s20.2.2.toNat ({Name:=x32.Name,Low:=x32.Low,High:=({A:=w64 ((w64 ((w64 ((w64 (s20.2.1+1))+1))+1))+1),B:=x32.High.B,C:=x32.High.C}:Version)}:Term)).set s20.2.2.toNat ({Name:=x34.Name,Low:=x34.Low,High:=({A:=x34.High.A,B:=w64 ((w64 ((w64 ((w64 ((w64 (s20.2.1+1))+1))+1))+1))+1),C:=x34.High.C}:Version)}:Term)).set s20.2.2.toNat ({Name:=x36.Name,Low:=x36.Low,High:=({A:=x36.High.A,B:=x36.High.B,C:=w64 ((w64 ((w64 ((w64 ((w64 ((w64 (s20.2.1+1))+1))+1))+1))+1))+1)}:Version)}:Term)))]) (by simp only [rr,List.length_set]) ?_
  refine J_g 3448831 [] [(0,rr 0 (((((((s20.1.set s20.2.2.toNat ({Name:=x22,Low:=x24.Low,High:=x24.High}:Term)).set s20.2.2.toNat ({Name:=x26.Name,Low:=({A:=w64 (s20.2.1+1),B:=x26.Low.B,C:=x26.Low.C}:Version),High:=x26.High}:Term)).set s20.2.2.toNat ({Name:=x28.Name,Low:=({A:=x28.Low.A,B:=w64 ((w64 (s20.2.1+1))+1),C:=x28.Low.C}:Version),High:=x28.High}:Term)).set s20.2.2.toNat ({Name:=x30.Name,Low:=({A:=x30.Low.A,B:=x30.Low.B,C:=w64 ((w64 ((w64 (s20.2.1+1))+1))+1)}:Version),High:=x30.High}:Term)).set s20.2.2.toNat ({Name:=x32.Name,Low:=x32.Low,High:=({A:=w64 ((w64 ((w64 ((w64 (s20.2.1+1))+1))+1))+1),B:=x32.High.B,C:=x32.High.C}:Version)}:Term)).set s20.2.2.toNat ({Name:=x34.Name,Low:=x34.Low,High:=({A:=x34.High.A,B:=w64 ((w64 ((w64 ((w64 ((w64 (s20.2.1+1))+1))+1))+1))+1),C:=x34.High.C}:Version)}:Term)).set s20.2.2.toNat ({Name:=x36.Name,Low:=x36.Low,High:=({A:=x36.High.A,B:=x36.High.B,C:=w64 ((w64 ((w64 ((w64 ((w64 ((w64 (s20.2.1+1))+1))+1))+1))+1))+1)}:Version)}:Term))),(1,iv (w64 ((w64 ((w64 ((w64 ((w64 ((w64 ((w64 (s20.2.1+1))+1))+1))+1))+1))+1))+1))),(5,iv s20.2.2)] [(0,rE 7 Term.enc (((((((s20.1.set s20.2.2.toNat ({Name:=x22,Low:=x24.Low,High:=x24.High}:Term)).set s20.2.2.toNat ({Name:=x26.Name,Low:=({A:=w64 (s20.2.1+1),B:=x26.Low.B,C:=x26.Low.C}:Version),High:=x26.High}:Term)).set s20.2.2.toNat ({Name:=x28.Name,Low:=({A:=x28.Low.A,B:=w64 ((w64 (s20.2.1+1))+1),C:=x28.Low.C}:Version),High:=x28.High}:Term)).set s20.2.2.toNat ({Name:=x30.Name,Low:=({A:=x30.Low.A,B:=x30.Low.B,C:=w64 ((w64 ((w64 (s20.2.1+1))+1))+1)}:Version),High:=x30.High}:Term)).set s20.2.2.toNat ({Name:=x32.Name,Low:=x32.Low,High:=({A:=w64 ((w64 ((w64 ((w64 (s20.2.1+1))+1))+1))+1),B:=x32.High.B,C:=x32.High.C}:Version)}:Term)).set s20.2.2.toNat ({Name:=x34.Name,Low:=x34.Low,High:=({A:=x34.High.A,B:=w64 ((w64 ((w64 ((w64 ((w64 (s20.2.1+1))+1))+1))+1))+1),C:=x34.High.C}:Version)}:Term)).set s20.2.2.toNat ({Name:=x36.Name,Low:=x36.Low,High:=({A:=x36.High.A,B:=x36.High.B,C:=w64 ((w64 ((w64 ((w64 ((w64 ((w64 (s20.2.1+1))+1))+1))+1))+1))+1)}:Version)}:Term)))] zB ?_
  refine J_d 211 [] [5] [(5,iv (w64 (s20.2.2+1)))] [] [] zB ?_
  exact J_q (J_b (ih (((((((s20.1.set s20.2.2.toNat ({Name:=x22,Low:=x24.Low,High:=x24.High}:Term)).set s20.2.2.toNat ({Name:=x26.Name,Low:=({A:=w64 (s20.2.1+1),B:=x26.Low.B,C:=x26.Low.C}:Version),High:=x26.High}:Term)).set s20.2.2.toNat ({Name:=x28.Name,Low:=({A:=x28.Low.A,B:=w64 ((w64 (s20.2.1+1))+1),C:=x28.Low.C}:Version),High:=x28.High}:Term)).set s20.2.2.toNat ({Name:=x30.Name,Low:=({A:=x30.Low.A,B:=x30.Low.B,C:=w64 ((w64 ((w64 (s20.2.1+1))+1))+1)}:Version),High:=x30.High}:Term)).set s20.2.2.toNat ({Name:=x32.Name,Low:=x32.Low,High:=({A:=w64 ((w64 ((w64 ((w64 (s20.2.1+1))+1))+1))+1),B:=x32.High.B,C:=x32.High.C}:Version)}:Term)).set s20.2.2.toNat ({Name:=x34.Name,Low:=x34.Low,High:=({A:=x34.High.A,B:=w64 ((w64 ((w64 ((w64 ((w64 (s20.2.1+1))+1))+1))+1))+1),C:=x34.High.C}:Version)}:Term)).set s20.2.2.toNat ({Name:=x36.Name,Low:=x36.Low,High:=({A:=x36.High.A,B:=x36.High.B,C:=w64 ((w64 ((w64 ((w64 ((w64 ((w64 (s20.2.1+1))+1))+1))+1))+1))+1)}:Version)}:Term),w64 ((w64 ((w64 ((w64 ((w64 ((w64 ((w64 (s20.2.1+1))+1))+1))+1))+1))+1))+1),w64 (s20.2.2+1)))) rfl
 ·exact xD (hk (s20.1,s20.2.1)) rfl
theorem uK.ok (a1:(List Term)) (a2:Int):Ok Tryz.prog 64 [rr 0 a1,iv a2] [rE 7 Term.enc a1] ((uK a1 a2).map fun r=>(iv r.1,[rE 7 Term.enc r.2])):=by
 refine zG c64 Tryz.f64 1 69 (fun q=>?_)
 unfold uK
 refine J_g 2 [] [(0,rr 0 a1),(1,iv a2)] [(0,rE 7 Term.enc a1)] zB ?_
 refine J_d 12 [] [5] [(5,iv 0)] [] [] zB ?_
 refine zE3 (zAC.ok q _ (fun v38=>J_j ?_) (a1,a2,0))
 refine J_d 14 [] [1,4] [(4,iv v38.2)] [] [] zB ?_
 exact zN rfl
noncomputable def c63:Code:=(Tryz.f63.body).getD .skip
theorem kY.ok (q:Wd) (kn:((List (List Term))×Int)→Option (D×List Ent)) (hk:∀v:((List (List Term))×Int),J (q.g Tryz.prog 63 1 19) c63 (atI c63 7) (St.mk' [(1,iv v.2)] [(0,rE 1 (eSl true 7 Term.enc) v.1)]) (some v) kn):
  ∀s10:((List (List Term))×Int×Int),J (q.g Tryz.prog 63 1 19) c63 (atI c63 52) (St.mk' [(0,rr 0 s10.1),(1,iv s10.2.1),(5,iv s10.2.2)] [(0,rE 1 (eSl true 7 Term.enc) s10.1)]) (kY s10) kn:=by
 refine jL (fun g ih s10=>?_)
 unfold jM
 refine J_d 208 [] [9] [(9,bv (decide (s10.2.2< (s10.1.length:Int))))] [] [] zB ?_
 refine zF 9 (fun h11=>?_) (fun h11=>?_)
 ·refine zA (fun x12 h13=>?_)
  refine zGQ (ix:=s10.2.2) (enc:=(eSl true 7 Term.enc)) 0 0 1 h13 rfl rfl (by kernel_rfl) ?_
  refine wM [(0,rr 0 s10.1),(1,iv s10.2.1),(5,iv s10.2.2),(9,bv true)] [(0,.lent 1 (s10.1.map (eSl true 7 Term.enc)) s10.2.2.toNat 0 1 x12.length),(1,rE 7 Term.enc x12)] (by kernel_rfl) ?_
  refine zA (fun x14 h15=>?_)
  refine J_g 420 [] [(0,rr 0 s10.1),(1,iv x14.1),(5,iv s10.2.2)] [(0,.lent 1 (s10.1.map (eSl true 7 Term.enc)) s10.2.2.toNat 0 1 x12.length),(1,rE 7 Term.enc x14.2)] (zD 2 (zMj (kk:=.i64) 100 24 1 0 (eSl true 7 Term.enc) (.tmp 12) (.tmp 13) s10.2.2.toNat 0 1 x12.length h13) (zD 3 (zMg 24 0 (.tmp 14) 1 (eSl true 7 Term.enc) s10.1 s10.2.2.toNat 0 1 x12.length) (zD 5 (vX («as»:=[rr 1 x12,iv s10.2.1]) [(.tmp 15),(.tmp 16)] [24,3] false [(1,rE 7 Term.enc x12)] [1] (.cons (.rf rfl) (.cons (.same rfl) (.nil))) (uK.ok x12 s10.2.1) h15 (.same rfl rfl)) zB))) ?_
  refine zA (fun u16 h17=>?_)
  refine zHg (ix:=s10.2.2) (enc:=(eSl true 7 Term.enc)) (b:=x14.2) 0 0 1 h13 rfl rfl rfl rfl (zDQ h17) (Nat.le_of_ble_eq_true rfl) ((List.length_map _).trans (zDQ h17)) ?_
  refine wM [(0,rr 0 s10.1),(1,iv x14.1),(5,iv s10.2.2)] [(0,rE 1 (eSl true 7 Term.enc) (s10.1.set s10.2.2.toNat x14.2))] (by kernel_rfl) ?_
  refine zFQ (σ':=St.mk' [(0,rr 0 (s10.1.set s10.2.2.toNat x14.2)),(1,iv x14.1),(5,iv s10.2.2)] [(0,rE 1 (eSl true 7 Term.enc) (s10.1.set s10.2.2.toNat x14.2))]) (by simp only [rr,List.length_set]) ?_
  refine J_d 211 [] [5] [(5,iv (w64 (s10.2.2+1)))] [] [] zB ?_
  exact J_q (J_b (ih (s10.1.set s10.2.2.toNat x14.2,x14.1,w64 (s10.2.2+1)))) rfl
 ·exact xD (hk (s10.1,s10.2.1)) rfl
theorem jK.ok (a1:(List (List Term))) (a2:Int):Ok Tryz.prog 63 [rr 0 a1,iv a2] [rE 1 (eSl true 7 Term.enc) a1] ((jK a1 a2).map fun r=>(iv r.1,[rE 1 (eSl true 7 Term.enc) r.2])):=by
 refine zG c63 Tryz.f63 1 19 (fun q=>?_)
 unfold jK
 refine J_g 2 [] [(0,rr 0 a1),(1,iv a2)] [(0,rE 1 (eSl true 7 Term.enc) a1)] zB ?_
 refine J_d 12 [] [5] [(5,iv 0)] [] [] zB ?_
 refine zE3 (kY.ok q _ (fun v18=>J_j ?_) (a1,a2,0))
 refine J_d 14 [] [1,4] [(4,iv v18.2)] [] [] zB ?_
 exact zN rfl
noncomputable def c25:Code:=(Tryz.f25.body).getD .skip
theorem zA3.ok (q:Wd) (kn:((List Pack)×Int)→Option (D×List Ent)) (hk:∀v:((List Pack)×Int),J (q.g Tryz.prog 25 1 73) c25 (atI c25 7) (St.mk' [(1,iv v.2)] [(0,rE 8 (Pack.enc true) v.1)]) (some v) kn):
  ∀s34:((List Pack)×Int×Int),J (q.g Tryz.prog 25 1 73) c25 (atI c25 52) (St.mk' [(0,rr 0 s34.1),(1,iv s34.2.1),(5,iv s34.2.2)] [(0,rE 8 (Pack.enc true) s34.1)]) (zA3 s34) kn:=by
 refine jL (fun g ih s34=>?_)
 unfold zAc
 refine J_d 208 [] [9] [(9,bv (decide (s34.2.2< (s34.1.length:Int))))] [] [] zB ?_
 refine zF 9 (fun h35=>?_) (fun h35=>?_)
 ·refine zA (fun x36 h37=>?_)
  refine zA (fun x38 h39=>?_)
  refine J_g 840 [] [(0,rr 0 s34.1),(1,iv s34.2.1),(5,iv s34.2.2)] [(0,rE 8 (Pack.enc true) (s34.1.set s34.2.2.toNat ({Name:=x36,Version:=x38.Version,Size:=x38.Size,Provides:=x38.Provides,Needs:=x38.Needs,Bars:=x38.Bars}:Pack)))] (zD 3 (xR [(.tmp 14)] [3] (xY.ok s34.2.1) h37) (zD 4 (uN (kk:=.i64) 53 102 8 0 (Pack.enc true) (.tmp 12) (.tmp 13) h39) (zGO 6 (zHY (b:=({Name:=x36,Version:=x38.Version,Size:=x38.Size,Provides:=x38.Provides,Needs:=x38.Needs,Bars:=x38.Bars}:Pack)) 9 8 0 0 (Pack.enc true) (sv x36) (.tmp 17) (.tmp 15) h39 rfl) zB))) ?_
  refine zFQ (σ':=St.mk' [(0,rr 0 (s34.1.set s34.2.2.toNat ({Name:=x36,Version:=x38.Version,Size:=x38.Size,Provides:=x38.Provides,Needs:=x38.Needs,Bars:=x38.Bars}:Pack))),(1,iv s34.2.1),(5,iv s34.2.2)] [(0,rE 8 (Pack.enc true) (s34.1.set s34.2.2.toNat ({Name:=x36,Version:=x38.Version,Size:=x38.Size,Provides:=x38.Provides,Needs:=x38.Needs,Bars:=x38.Bars}:Pack)))]) (by simp only [rr,List.length_set]) ?_
  refine J_d 1682 [] [1] [(1,iv (w64 (s34.2.1+1)))] [] [] zB ?_
  refine zA (fun x40 h41=>?_)
  refine J_g 3366 [] [(0,rr 0 (s34.1.set s34.2.2.toNat ({Name:=x36,Version:=x38.Version,Size:=x38.Size,Provides:=x38.Provides,Needs:=x38.Needs,Bars:=x38.Bars}:Pack))),(1,iv (w64 (s34.2.1+1))),(5,iv s34.2.2)] [(0,rE 8 (Pack.enc true) ((s34.1.set s34.2.2.toNat ({Name:=x36,Version:=x38.Version,Size:=x38.Size,Provides:=x38.Provides,Needs:=x38.Needs,Bars:=x38.Bars}:Pack)).set s34.2.2.toNat ({Name:=x40.Name,Version:=({A:=w64 (s34.2.1+1),B:=x40.Version.B,C:=x40.Version.C}:Version),Size:=x40.Size,Provides:=x40.Provides,Needs:=x40.Needs,Bars:=x40.Bars}:Pack)))] (zD 3 (uN (kk:=.i64) 53 102 8 0 (Pack.enc true) (.tmp 20) (.tmp 21) h41) (zGO 6 (zHY (b:=({Name:=x40.Name,Version:=({A:=w64 (s34.2.1+1),B:=x40.Version.B,C:=x40.Version.C}:Version),Size:=x40.Size,Provides:=x40.Provides,Needs:=x40.Needs,Bars:=x40.Bars}:Pack)) 2 8 0 1 (Pack.enc true) (iv (w64 (s34.2.1+1))) (.tmp 25) (.tmp 22) h41 rfl) zB)) ?_
  refine zFQ (σ':=St.mk' [(0,rr 0 ((s34.1.set s34.2.2.toNat ({Name:=x36,Version:=x38.Version,Size:=x38.Size,Provides:=x38.Provides,Needs:=x38.Needs,Bars:=x38.Bars}:Pack)).set s34.2.2.toNat ({Name:=x40.Name,Version:=({A:=w64 (s34.2.1+1),B:=x40.Version.B,C:=x40.Version.C}:Version),Size:=x40.Size,Provides:=x40.Provides,Needs:=x40.Needs,Bars:=x40.Bars}:Pack))),(1,iv (w64 (s34.2.1+1))),(5,iv s34.2.2)] [(0,rE 8 (Pack.enc true) ((s34.1.set s34.2.2.toNat ({Name:=x36,Version:=x38.Version,Size:=x38.Size,Provides:=x38.Provides,Needs:=x38.Needs,Bars:=x38.Bars}:Pack)).set s34.2.2.toNat ({Name:=x40.Name,Version:=({A:=w64 (s34.2.1+1),B:=x40.Version.B,C:=x40.Version.C}:Version),Size:=x40.Size,Provides:=x40.Provides,Needs:=x40.Needs,Bars:=x40.Bars}:Pack)))]) (by simp only [rr,List.length_set]) ?_
  refine J_d 6734 [] [1] [(1,iv (w64 ((w64 (s34.2.1+1))+1)))] [] [] zB ?_
  refine zA (fun x42 h43=>?_)
  refine J_g 13470 [] [(0,rr 0 ((s34.1.set s34.2.2.toNat ({Name:=x36,Version:=x38.Version,Size:=x38.Size,Provides:=x38.Provides,Needs:=x38.Needs,Bars:=x38.Bars}:Pack)).set s34.2.2.toNat ({Name:=x40.Name,Version:=({A:=w64 (s34.2.1+1),B:=x40.Version.B,C:=x40.Version.C}:Version),Size:=x40.Size,Provides:=x40.Provides,Needs:=x40.Needs,Bars:=x40.Bars}:Pack))),(1,iv (w64 ((w64 (s34.2.1+1))+1))),(5,iv s34.2.2)] [(0,rE 8 (Pack.enc true) (((s34.1.set s34.2.2.toNat ({Name:=x36,Version:=x38.Version,Size:=x38.Size,Provides:=x38.Provides,Needs:=x38.Needs,Bars:=x38.Bars}:Pack)).set s34.2.2.toNat ({Name:=x40.Name,Version:=({A:=w64 (s34.2.1+1),B:=x40.Version.B,C:=x40.Version.C}:Version),Size:=x40.Size,Provides:=x40.Provides,Needs:=x40.Needs,Bars:=x40.Bars}:Pack)).set s34.2.2.toNat ({Name:=x42.Name,Version:=({A:=x42.Version.A,B:=w64 ((w64 (s34.2.1+1))+1),C:=x42.Version.C}:Version),Size:=x42.Size,Provides:=x42.Provides,Needs:=x42.Needs,Bars:=x42.Bars}:Pack)))] (zD 3 (uN (kk:=.i64) 53 102 8 0 (Pack.enc true) (.tmp 28) (.tmp 29) h43) (zGO 6 (zHY (b:=({Name:=x42.Name,Version:=({A:=x42.Version.A,B:=w64 ((w64 (s34.2.1+1))+1),C:=x42.Version.C}:Version),Size:=x42.Size,Provides:=x42.Provides,Needs:=x42.Needs,Bars:=x42.Bars}:Pack)) 2 8 0 2 (Pack.enc true) (iv (w64 ((w64 (s34.2.1+1))+1))) (.tmp 33) (.tmp 30) h43 rfl) zB)) ?_
  refine zFQ (σ':=St.mk' [(0,rr 0 (((s34.1.set s34.2.2.toNat ({Name:=x36,Version:=x38.Version,Size:=x38.Size,Provides:=x38.Provides,Needs:=x38.Needs,Bars:=x38.Bars}:Pack)).set s34.2.2.toNat ({Name:=x40.Name,Version:=({A:=w64 (s34.2.1+1),B:=x40.Version.B,C:=x40.Version.C}:Version),Size:=x40.Size,Provides:=x40.Provides,Needs:=x40.Needs,Bars:=x40.Bars}:Pack)).set s34.2.2.toNat ({Name:=x42.Name,Version:=({A:=x42.Version.A,B:=w64 ((w64 (s34.2.1+1))+1),C:=x42.Version.C}:Version),Size:=x42.Size,Provides:=x42.Provides,Needs:=x42.Needs,Bars:=x42.Bars}:Pack))),(1,iv (w64 ((w64 (s34.2.1+1))+1))),(5,iv s34.2.2)] [(0,rE 8 (Pack.enc true) (((s34.1.set s34.2.2.toNat ({Name:=x36,Version:=x38.Version,Size:=x38.Size,Provides:=x38.Provides,Needs:=x38.Needs,Bars:=x38.Bars}:Pack)).set s34.2.2.toNat ({Name:=x40.Name,Version:=({A:=w64 (s34.2.1+1),B:=x40.Version.B,C:=x40.Version.C}:Version),Size:=x40.Size,Provides:=x40.Provides,Needs:=x40.Needs,Bars:=x40.Bars}:Pack)).set s34.2.2.toNat ({Name:=x42.Name,Version:=({A:=x42.Version.A,B:=w64 ((w64 (s34.2.1+1))+1),C:=x42.Version.C}:Version),Size:=x42.Size,Provides:=x42.Provides,Needs:=x42.Needs,Bars:=x42.Bars}:Pack)))]) (by simp only [rr,List.length_set]) ?_
  refine J_d 26942 [] [1] [(1,iv (w64 ((w64 ((w64 (s34.2.1+1))+1))+1)))] [] [] zB ?_
  refine zA (fun x44 h45=>?_)
  refine J_g 53886 [] [(0,rr 0 (((s34.1.set s34.2.2.toNat ({Name:=x36,Version:=x38.Version,Size:=x38.Size,Provides:=x38.Provides,Needs:=x38.Needs,Bars:=x38.Bars}:Pack)).set s34.2.2.toNat ({Name:=x40.Name,Version:=({A:=w64 (s34.2.1+1),B:=x40.Version.B,C:=x40.Version.C}:Version),Size:=x40.Size,Provides:=x40.Provides,Needs:=x40.Needs,Bars:=x40.Bars}:Pack)).set s34.2.2.toNat ({Name:=x42.Name,Version:=({A:=x42.Version.A,B:=w64 ((w64 (s34.2.1+1))+1),C:=x42.Version.C}:Version),Size:=x42.Size,Provides:=x42.Provides,Needs:=x42.Needs,Bars:=x42.Bars}:Pack))),(1,iv (w64 ((w64 ((w64 (s34.2.1+1))+1))+1))),(5,iv s34.2.2)] [(0,rE 8 (Pack.enc true) ((((s34.1.set s34.2.2.toNat ({Name:=x36,Version:=x38.Version,Size:=x38.Size,Provides:=x38.Provides,Needs:=x38.Needs,Bars:=x38.Bars}:Pack)).set s34.2.2.toNat ({Name:=x40.Name,Version:=({A:=w64 (s34.2.1+1),B:=x40.Version.B,C:=x40.Version.C}:Version),Size:=x40.Size,Provides:=x40.Provides,Needs:=x40.Needs,Bars:=x40.Bars}:Pack)).set s34.2.2.toNat ({Name:=x42.Name,Version:=({A:=x42.Version.A,B:=w64 ((w64 (s34.2.1+1))+1),C:=x42.Version.C}:Version),Size:=x42.Size,Provides:=x42.Provides,Needs:=x42.Needs,Bars:=x42.Bars}:Pack)).set s34.2.2.toNat ({Name:=x44.Name,Version:=({A:=x44.Version.A,B:=x44.Version.B,C:=w64 ((w64 ((w64 (s34.2.1+1))+1))+1)}:Version),Size:=x44.Size,Provides:=x44.Provides,Needs:=x44.Needs,Bars:=x44.Bars}:Pack)))] (zD 3 (uN (kk:=.i64) 53 102 8 0 (Pack.enc true) (.tmp 36) (.tmp 37) h45) (zGO 6 (zHY (b:=({Name:=x44.Name,Version:=({A:=x44.Version.A,B:=x44.Version.B,C:=w64 ((w64 ((w64 (s34.2.1+1))+1))+1)}:Version),Size:=x44.Size,Provides:=x44.Provides,Needs:=x44.Needs,Bars:=x44.Bars}:Pack)) 2 8 0 3 (Pack.enc true) (iv (w64 ((w64 ((w64 (s34.2.1+1))+1))+1))) (.tmp 41) (.tmp 38) h45 rfl) zB)) ?_
  refine zFQ (σ':=St.mk' [(0,rr 0 ((((s34.1.set s34.2.2.toNat ({Name:=x36,Version:=x38.Version,Size:=x38.Size,Provides:=x38.Provides,Needs:=x38.Needs,Bars:=x38.Bars}:Pack)).set s34.2.2.toNat ({Name:=x40.Name,Version:=({A:=w64 (s34.2.1+1),B:=x40.Version.B,C:=x40.Version.C}:Version),Size:=x40.Size,Provides:=x40.Provides,Needs:=x40.Needs,Bars:=x40.Bars}:Pack)).set s34.2.2.toNat ({Name:=x42.Name,Version:=({A:=x42.Version.A,B:=w64 ((w64 (s34.2.1+1))+1),C:=x42.Version.C}:Version),Size:=x42.Size,Provides:=x42.Provides,Needs:=x42.Needs,Bars:=x42.Bars}:Pack)).set s34.2.2.toNat ({Name:=x44.Name,Version:=({A:=x44.Version.A,B:=x44.Version.B,C:=w64 ((w64 ((w64 (s34.2.1+1))+1))+1)}:Version),Size:=x44.Size,Provides:=x44.Provides,Needs:=x44.Needs,Bars:=x44.Bars}:Pack))),(1,iv (w64 ((w64 ((w64 (s34.2.1+1))+1))+1))),(5,iv s34.2.2)] [(0,rE 8 (Pack.enc true) ((((s34.1.set s34.2.2.toNat ({Name:=x36,Version:=x38.Version,Size:=x38.Size,Provides:=x38.Provides,Needs:=x38.Needs,Bars:=x38.Bars}:Pack)).set s34.2.2.toNat ({Name:=x40.Name,Version:=({A:=w64 (s34.2.1+1),B:=x40.Version.B,C:=x40.Version.C}:Version),Size:=x40.Size,Provides:=x40.Provides,Needs:=x40.Needs,Bars:=x40.Bars}:Pack)).set s34.2.2.toNat ({Name:=x42.Name,Version:=({A:=x42.Version.A,B:=w64 ((w64 (s34.2.1+1))+1),C:=x42.Version.C}:Version),Size:=x42.Size,Provides:=x42.Provides,Needs:=x42.Needs,Bars:=x42.Bars}:Pack)).set s34.2.2.toNat ({Name:=x44.Name,Version:=({A:=x44.Version.A,B:=x44.Version.B,C:=w64 ((w64 ((w64 (s34.2.1+1))+1))+1)}:Version),Size:=x44.Size,Provides:=x44.Provides,Needs:=x44.Needs,Bars:=x44.Bars}:Pack)))]) (by simp only [rr,List.length_set]) ?_
  refine J_d 107774 [] [1] [(1,iv (w64 ((w64 ((w64 ((w64 (s34.2.1+1))+1))+1))+1)))] [] [] zB ?_
  refine zA (fun x46 h47=>?_)
  refine J_g 215550 [] [(0,rr 0 ((((s34.1.set s34.2.2.toNat ({Name:=x36,Version:=x38.Version,Size:=x38.Size,Provides:=x38.Provides,Needs:=x38.Needs,Bars:=x38.Bars}:Pack)).set s34.2.2.toNat ({Name:=x40.Name,Version:=({A:=w64 (s34.2.1+1),B:=x40.Version.B,C:=x40.Version.C}:Version),Size:=x40.Size,Provides:=x40.Provides,Needs:=x40.Needs,Bars:=x40.Bars}:Pack)).set s34.2.2.toNat ({Name:=x42.Name,Version:=({A:=x42.Version.A,B:=w64 ((w64 (s34.2.1+1))+1),C:=x42.Version.C}:Version),Size:=x42.Size,Provides:=x42.Provides,Needs:=x42.Needs,Bars:=x42.Bars}:Pack)).set s34.2.2.toNat ({Name:=x44.Name,Version:=({A:=x44.Version.A,B:=x44.Version.B,C:=w64 ((w64 ((w64 (s34.2.1+1))+1))+1)}:Version),Size:=x44.Size,Provides:=x44.Provides,Needs:=x44.Needs,Bars:=x44.Bars}:Pack))),(1,iv (w64 ((w64 ((w64 ((w64 (s34.2.1+1))+1))+1))+1))),(5,iv s34.2.2)] [(0,rE 8 (Pack.enc true) (((((s34.1.set s34.2.2.toNat ({Name:=x36,Version:=x38.Version,Size:=x38.Size,Provides:=x38.Provides,Needs:=x38.Needs,Bars:=x38.Bars}:Pack)).set s34.2.2.toNat ({Name:=x40.Name,Version:=({A:=w64 (s34.2.1+1),B:=x40.Version.B,C:=x40.Version.C}:Version),Size:=x40.Size,Provides:=x40.Provides,Needs:=x40.Needs,Bars:=x40.Bars}:Pack)).set s34.2.2.toNat ({Name:=x42.Name,Version:=({A:=x42.Version.A,B:=w64 ((w64 (s34.2.1+1))+1),C:=x42.Version.C}:Version),Size:=x42.Size,Provides:=x42.Provides,Needs:=x42.Needs,Bars:=x42.Bars}:Pack)).set s34.2.2.toNat ({Name:=x44.Name,Version:=({A:=x44.Version.A,B:=x44.Version.B,C:=w64 ((w64 ((w64 (s34.2.1+1))+1))+1)}:Version),Size:=x44.Size,Provides:=x44.Provides,Needs:=x44.Needs,Bars:=x44.Bars}:Pack)).set s34.2.2.toNat ({Name:=x46.Name,Version:=x46.Version,Size:=w64 ((w64 ((w64 ((w64 (s34.2.1+1))+1))+1))+1),Provides:=x46.Provides,Needs:=x46.Needs,Bars:=x46.Bars}:Pack)))] (zD 3 (uN (kk:=.i64) 53 102 8 0 (Pack.enc true) (.tmp 44) (.tmp 45) h47) (zGO 5 (zHY (b:=({Name:=x46.Name,Version:=x46.Version,Size:=w64 ((w64 ((w64 ((w64 (s34.2.1+1))+1))+1))+1),Provides:=x46.Provides,Needs:=x46.Needs,Bars:=x46.Bars}:Pack)) 2 8 0 4 (Pack.enc true) (iv (w64 ((w64 ((w64 ((w64 (s34.2.1+1))+1))+1))+1))) (.tmp 48) (.tmp 46) h47 rfl) zB)) ?_
  refine zFQ (σ':=St.mk' [(0,rr 0 (((((s34.1.set s34.2.2.toNat ({Name:=x36,Version:=x38.Version,Size:=x38.Size,Provides:=x38.Provides,Needs:=x38.Needs,Bars:=x38.Bars}:Pack)).set s34.2.2.toNat ({Name:=x40.Name,Version:=({A:=w64 (s34.2.1+1),B:=x40.Version.B,C:=x40.Version.C}:Version),Size:=x40.Size,Provides:=x40.Provides,Needs:=x40.Needs,Bars:=x40.Bars}:Pack)).set s34.2.2.toNat ({Name:=x42.Name,Version:=({A:=x42.Version.A,B:=w64 ((w64 (s34.2.1+1))+1),C:=x42.Version.C}:Version),Size:=x42.Size,Provides:=x42.Provides,Needs:=x42.Needs,Bars:=x42.Bars}:Pack)).set s34.2.2.toNat ({Name:=x44.Name,Version:=({A:=x44.Version.A,B:=x44.Version.B,C:=w64 ((w64 ((w64 (s34.2.1+1))+1))+1)}:Version),Size:=x44.Size,Provides:=x44.Provides,Needs:=x44.Needs,Bars:=x44.Bars}:Pack)).set s34.2.2.toNat ({Name:=x46.Name,Version:=x46.Version,Size:=w64 ((w64 ((w64 ((w64 (s34.2.1+1))+1))+1))+1),Provides:=x46.Provides,Needs:=x46.Needs,Bars:=x46.Bars}:Pack))),(1,iv (w64 ((w64 ((w64 ((w64 (s34.2.1+1))+1))+1))+1))),(5,iv s34.2.2)] [(0,rE 8 (Pack.enc true) (((((s34.1.set s34.2.2.toNat ({Name:=x36,Version:=x38.Version,Size:=x38.Size,Provides:=x38.Provides,Needs:=x38.Needs,Bars:=x38.Bars}:Pack)).set s34.2.2.toNat ({Name:=x40.Name,Version:=({A:=w64 (s34.2.1+1),B:=x40.Version.B,C:=x40.Version.C}:Version),Size:=x40.Size,Provides:=x40.Provides,Needs:=x40.Needs,Bars:=x40.Bars}:Pack)).set s34.2.2.toNat ({Name:=x42.Name,Version:=({A:=x42.Version.A,B:=w64 ((w64 (s34.2.1+1))+1),C:=x42.Version.C}:Version),Size:=x42.Size,Provides:=x42.Provides,Needs:=x42.Needs,Bars:=x42.Bars}:Pack)).set s34.2.2.toNat ({Name:=x44.Name,Version:=({A:=x44.Version.A,B:=x44.Version.B,C:=w64 ((w64 ((w64 (s34.2.1+1))+1))+1)}:Version),Size:=x44.Size,Provides:=x44.Provides,Needs:=x44.Needs,Bars:=x44.Bars}:Pack)).set s34.2.2.toNat ({Name:=x46.Name,Version:=x46.Version,Size:=w64 ((w64 ((w64 ((w64 (s34.2.1+1))+1))+1))+1),Provides:=x46.Provides,Needs:=x46.Needs,Bars:=x46.Bars}:Pack)))]) (by simp only [rr,List.length_set]) ?_
  refine J_d 431102 [] [1] [(1,iv (w64 ((w64 ((w64 ((w64 ((w64 (s34.2.1+1))+1))+1))+1))+1)))] [] [] zB ?_
  refine zA (fun x48 h49=>?_)
  refine zGQ (ix:=s34.2.2) (enc:=(Pack.enc true)) 0 5 1 h49 rfl rfl (by kernel_rfl) ?_
  refine wM [(0,rr 0 (((((s34.1.set s34.2.2.toNat ({Name:=x36,Version:=x38.Version,Size:=x38.Size,Provides:=x38.Provides,Needs:=x38.Needs,Bars:=x38.Bars}:Pack)).set s34.2.2.toNat ({Name:=x40.Name,Version:=({A:=w64 (s34.2.1+1),B:=x40.Version.B,C:=x40.Version.C}:Version),Size:=x40.Size,Provides:=x40.Provides,Needs:=x40.Needs,Bars:=x40.Bars}:Pack)).set s34.2.2.toNat ({Name:=x42.Name,Version:=({A:=x42.Version.A,B:=w64 ((w64 (s34.2.1+1))+1),C:=x42.Version.C}:Version),Size:=x42.Size,Provides:=x42.Provides,Needs:=x42.Needs,Bars:=x42.Bars}:Pack)).set s34.2.2.toNat ({Name:=x44.Name,Version:=({A:=x44.Version.A,B:=x44.Version.B,C:=w64 ((w64 ((w64 (s34.2.1+1))+1))+1)}:Version),Size:=x44.Size,Provides:=x44.Provides,Needs:=x44.Needs,Bars:=x44.Bars}:Pack)).set s34.2.2.toNat ({Name:=x46.Name,Version:=x46.Version,Size:=w64 ((w64 ((w64 ((w64 (s34.2.1+1))+1))+1))+1),Provides:=x46.Provides,Needs:=x46.Needs,Bars:=x46.Bars}:Pack))),(1,iv (w64 ((w64 ((w64 ((w64 ((w64 (s34.2.1+1))+1))+1))+1))+1))),(5,iv s34.2.2)] [(0,.lent 8 ((((((s34.1.set s34.2.2.toNat ({Name:=x36,Version:=x38.Version,Size:=x38.Size,Provides:=x38.Provides,Needs:=x38.Needs,Bars:=x38.Bars}:Pack)).set s34.2.2.toNat ({Name:=x40.Name,Version:=({A:=w64 (s34.2.1+1),B:=x40.Version.B,C:=x40.Version.C}:Version),Size:=x40.Size,Provides:=x40.Provides,Needs:=x40.Needs,Bars:=x40.Bars}:Pack)).set s34.2.2.toNat ({Name:=x42.Name,Version:=({A:=x42.Version.A,B:=w64 ((w64 (s34.2.1+1))+1),C:=x42.Version.C}:Version),Size:=x42.Size,Provides:=x42.Provides,Needs:=x42.Needs,Bars:=x42.Bars}:Pack)).set s34.2.2.toNat ({Name:=x44.Name,Version:=({A:=x44.Version.A,B:=x44.Version.B,C:=w64 ((w64 ((w64 (s34.2.1+1))+1))+1)}:Version),Size:=x44.Size,Provides:=x44.Provides,Needs:=x44.Needs,Bars:=x44.Bars}:Pack)).set s34.2.2.toNat ({Name:=x46.Name,Version:=x46.Version,Size:=w64 ((w64 ((w64 ((w64 (s34.2.1+1))+1))+1))+1),Provides:=x46.Provides,Needs:=x46.Needs,Bars:=x46.Bars}:Pack)).map (Pack.enc true)) s34.2.2.toNat 5 1 x48.Provides.length),(1,rE 1 eStr x48.Provides)] (by kernel_rfl) ?_
  refine zA (fun x50 h51=>?_)
  refine J_g 862206 [] [(0,rr 0 (((((s34.1.set s34.2.2.toNat ({Name:=x36,Version:=x38.Version,Size:=x38.Size,Provides:=x38.Provides,Needs:=x38.Needs,Bars:=x38.Bars}:Pack)).set s34.2.2.toNat ({Name:=x40.Name,Version:=({A:=w64 (s34.2.1+1),B:=x40.Version.B,C:=x40.Version.C}:Version),Size:=x40.Size,Provides:=x40.Provides,Needs:=x40.Needs,Bars:=x40.Bars}:Pack)).set s34.2.2.toNat ({Name:=x42.Name,Version:=({A:=x42.Version.A,B:=w64 ((w64 (s34.2.1+1))+1),C:=x42.Version.C}:Version),Size:=x42.Size,Provides:=x42.Provides,Needs:=x42.Needs,Bars:=x42.Bars}:Pack)).set s34.2.2.toNat ({Name:=x44.Name,Version:=({A:=x44.Version.A,B:=x44.Version.B,C:=w64 ((w64 ((w64 (s34.2.1+1))+1))+1)}:Version),Size:=x44.Size,Provides:=x44.Provides,Needs:=x44.Needs,Bars:=x44.Bars}:Pack)).set s34.2.2.toNat ({Name:=x46.Name,Version:=x46.Version,Size:=w64 ((w64 ((w64 ((w64 (s34.2.1+1))+1))+1))+1),Provides:=x46.Provides,Needs:=x46.Needs,Bars:=x46.Bars}:Pack))),(1,iv x50.1),(5,iv s34.2.2)] [(0,.lent 8 ((((((s34.1.set s34.2.2.toNat ({Name:=x36,Version:=x38.Version,Size:=x38.Size,Provides:=x38.Provides,Needs:=x38.Needs,Bars:=x38.Bars}:Pack)).set s34.2.2.toNat ({Name:=x40.Name,Version:=({A:=w64 (s34.2.1+1),B:=x40.Version.B,C:=x40.Version.C}:Version),Size:=x40.Size,Provides:=x40.Provides,Needs:=x40.Needs,Bars:=x40.Bars}:Pack)).set s34.2.2.toNat ({Name:=x42.Name,Version:=({A:=x42.Version.A,B:=w64 ((w64 (s34.2.1+1))+1),C:=x42.Version.C}:Version),Size:=x42.Size,Provides:=x42.Provides,Needs:=x42.Needs,Bars:=x42.Bars}:Pack)).set s34.2.2.toNat ({Name:=x44.Name,Version:=({A:=x44.Version.A,B:=x44.Version.B,C:=w64 ((w64 ((w64 (s34.2.1+1))+1))+1)}:Version),Size:=x44.Size,Provides:=x44.Provides,Needs:=x44.Needs,Bars:=x44.Bars}:Pack)).set s34.2.2.toNat ({Name:=x46.Name,Version:=x46.Version,Size:=w64 ((w64 ((w64 ((w64 (s34.2.1+1))+1))+1))+1),Provides:=x46.Provides,Needs:=x46.Needs,Bars:=x46.Bars}:Pack)).map (Pack.enc true)) s34.2.2.toNat 5 1 x48.Provides.length),(1,rE 1 eStr x50.2)] (zD 2 (zMj (kk:=.i64) 53 102 8 0 (Pack.enc true) (.tmp 51) (.tmp 52) s34.2.2.toNat 5 1 x48.Provides.length h49) (zD 4 (zMg 90 0 (.tmp 54) 8 (Pack.enc true) (((((s34.1.set s34.2.2.toNat ({Name:=x36,Version:=x38.Version,Size:=x38.Size,Provides:=x38.Provides,Needs:=x38.Needs,Bars:=x38.Bars}:Pack)).set s34.2.2.toNat ({Name:=x40.Name,Version:=({A:=w64 (s34.2.1+1),B:=x40.Version.B,C:=x40.Version.C}:Version),Size:=x40.Size,Provides:=x40.Provides,Needs:=x40.Needs,Bars:=x40.Bars}:Pack)).set s34.2.2.toNat ({Name:=x42.Name,Version:=({A:=x42.Version.A,B:=w64 ((w64 (s34.2.1+1))+1),C:=x42.Version.C}:Version),Size:=x42.Size,Provides:=x42.Provides,Needs:=x42.Needs,Bars:=x42.Bars}:Pack)).set s34.2.2.toNat ({Name:=x44.Name,Version:=({A:=x44.Version.A,B:=x44.Version.B,C:=w64 ((w64 ((w64 (s34.2.1+1))+1))+1)}:Version),Size:=x44.Size,Provides:=x44.Provides,Needs:=x44.Needs,Bars:=x44.Bars}:Pack)).set s34.2.2.toNat ({Name:=x46.Name,Version:=x46.Version,Size:=w64 ((w64 ((w64 ((w64 (s34.2.1+1))+1))+1))+1),Provides:=x46.Provides,Needs:=x46.Needs,Bars:=x46.Bars}:Pack)) s34.2.2.toNat 5 1 x48.Provides.length) (zD 6 (vX («as»:=[rr 1 x48.Provides,iv (w64 ((w64 ((w64 ((w64 ((w64 (s34.2.1+1))+1))+1))+1))+1))]) [(.tmp 55),(.tmp 56)] [90,3] false [(1,rE 1 eStr x48.Provides)] [1] (.cons (.rf rfl) (.cons (.same rfl) (.nil))) (uW.ok x48.Provides (w64 ((w64 ((w64 ((w64 ((w64 (s34.2.1+1))+1))+1))+1))+1))) h51 (.same rfl rfl)) zB))) ?_
  refine zA (fun u52 h53=>?_)
  refine zHg (ix:=s34.2.2) (enc:=(Pack.enc true)) (b:=({Name:=x48.Name,Version:=x48.Version,Size:=x48.Size,Provides:=x50.2,Needs:=x48.Needs,Bars:=x48.Bars}:Pack)) 0 5 1 h49 rfl rfl rfl rfl (zDQ h53) (Nat.le_of_ble_eq_true rfl) ((List.length_map _).trans (zDQ h53)) ?_
  refine wM [(0,rr 0 (((((s34.1.set s34.2.2.toNat ({Name:=x36,Version:=x38.Version,Size:=x38.Size,Provides:=x38.Provides,Needs:=x38.Needs,Bars:=x38.Bars}:Pack)).set s34.2.2.toNat ({Name:=x40.Name,Version:=({A:=w64 (s34.2.1+1),B:=x40.Version.B,C:=x40.Version.C}:Version),Size:=x40.Size,Provides:=x40.Provides,Needs:=x40.Needs,Bars:=x40.Bars}:Pack)).set s34.2.2.toNat ({Name:=x42.Name,Version:=({A:=x42.Version.A,B:=w64 ((w64 (s34.2.1+1))+1),C:=x42.Version.C}:Version),Size:=x42.Size,Provides:=x42.Provides,Needs:=x42.Needs,Bars:=x42.Bars}:Pack)).set s34.2.2.toNat ({Name:=x44.Name,Version:=({A:=x44.Version.A,B:=x44.Version.B,C:=w64 ((w64 ((w64 (s34.2.1+1))+1))+1)}:Version),Size:=x44.Size,Provides:=x44.Provides,Needs:=x44.Needs,Bars:=x44.Bars}:Pack)).set s34.2.2.toNat ({Name:=x46.Name,Version:=x46.Version,Size:=w64 ((w64 ((w64 ((w64 (s34.2.1+1))+1))+1))+1),Provides:=x46.Provides,Needs:=x46.Needs,Bars:=x46.Bars}:Pack))),(1,iv x50.1),(5,iv s34.2.2)] [(0,rE 8 (Pack.enc true) ((((((s34.1.set s34.2.2.toNat ({Name:=x36,Version:=x38.Version,Size:=x38.Size,Provides:=x38.Provides,Needs:=x38.Needs,Bars:=x38.Bars}:Pack)).set s34.2.2.toNat ({Name:=x40.Name,Version:=({A:=w64 (s34.2.1+1),B:=x40.Version.B,C:=x40.Version.C}:Version),Size:=x40.Size,Provides:=x40.Provides,Needs:=x40.Needs,Bars:=x40.Bars}:Pack)).set s34.2.2.toNat ({Name:=x42.Name,Version:=({A:=x42.Version.A,B:=w64 ((w64 (s34.2.1+1))+1),C:=x42.Version.C}:Version),Size:=x42.Size,Provides:=x42.Provides,Needs:=x42.Needs,Bars:=x42.Bars}:Pack)).set s34.2.2.toNat ({Name:=x44.Name,Version:=({A:=x44.Version.A,B:=x44.Version.B,C:=w64 ((w64 ((w64 (s34.2.1+1))+1))+1)}:Version),Size:=x44.Size,Provides:=x44.Provides,Needs:=x44.Needs,Bars:=x44.Bars}:Pack)).set s34.2.2.toNat ({Name:=x46.Name,Version:=x46.Version,Size:=w64 ((w64 ((w64 ((w64 (s34.2.1+1))+1))+1))+1),Provides:=x46.Provides,Needs:=x46.Needs,Bars:=x46.Bars}:Pack)).set s34.2.2.toNat ({Name:=x48.Name,Version:=x48.Version,Size:=x48.Size,Provides:=x50.2,Needs:=x48.Needs,Bars:=x48.Bars}:Pack)))] (by kernel_rfl) ?_
  refine zFQ (σ':=St.mk' [(0,rr 0 ((((((s34.1.set s34.2.2.toNat ({Name:=x36,Version:=x38.Version,Size:=x38.Size,Provides:=x38.Provides,Needs:=x38.Needs,Bars:=x38.Bars}:Pack)).set s34.2.2.toNat ({Name:=x40.Name,Version:=({A:=w64 (s34.2.1+1),B:=x40.Version.B,C:=x40.Version.C}:Version),Size:=x40.Size,Provides:=x40.Provides,Needs:=x40.Needs,Bars:=x40.Bars}:Pack)).set s34.2.2.toNat ({Name:=x42.Name,Version:=({A:=x42.Version.A,B:=w64 ((w64 (s34.2.1+1))+1),C:=x42.Version.C}:Version),Size:=x42.Size,Provides:=x42.Provides,Needs:=x42.Needs,Bars:=x42.Bars}:Pack)).set s34.2.2.toNat ({Name:=x44.Name,Version:=({A:=x44.Version.A,B:=x44.Version.B,C:=w64 ((w64 ((w64 (s34.2.1+1))+1))+1)}:Version),Size:=x44.Size,Provides:=x44.Provides,Needs:=x44.Needs,Bars:=x44.Bars}:Pack)).set s34.2.2.toNat ({Name:=x46.Name,Version:=x46.Version,Size:=w64 ((w64 ((w64 ((w64 (s34.2.1+1))+1))+1))+1),Provides:=x46.Provides,Needs:=x46.Needs,Bars:=x46.Bars}:Pack)).set s34.2.2.toNat ({Name:=x48.Name,Version:=x48.Version,Size:=x48.Size,Provides:=x50.2,Needs:=x48.Needs,Bars:=x48.Bars}:Pack))),(1,iv x50.1),(5,iv s34.2.2)] [(0,rE 8 (Pack.enc true) ((((((s34.1.set s34.2.2.toNat ({Name:=x36,Version:=x38.Version,Size:=x38.Size,Provides:=x38.Provides,Needs:=x38.Needs,Bars:=x38.Bars}:Pack)).set s34.2.2.toNat ({Name:=x40.Name,Version:=({A:=w64 (s34.2.1+1),B:=x40.Version.B,C:=x40.Version.C}:Version),Size:=x40.Size,Provides:=x40.Provides,Needs:=x40.Needs,Bars:=x40.Bars}:Pack)).set s34.2.2.toNat ({Name:=x42.Name,Version:=({A:=x42.Version.A,B:=w64 ((w64 (s34.2.1+1))+1),C:=x42.Version.C}:Version),Size:=x42.Size,Provides:=x42.Provides,Needs:=x42.Needs,Bars:=x42.Bars}:Pack)).set s34.2.2.toNat ({Name:=x44.Name,Version:=({A:=x44.Version.A,B:=x44.Version.B,C:=w64 ((w64 ((w64 (s34.2.1+1))+1))+1)}:Version),Size:=x44.Size,Provides:=x44.Provides,Needs:=x44.Needs,Bars:=x44.Bars}:Pack)).set s34.2.2.toNat ({Name:=x46.Name,Version:=x46.Version,Size:=w64 ((w64 ((w64 ((w64 (s34.2.1+1))+1))+1))+1),Provides:=x46.Provides,Needs:=x46.Needs,Bars:=x46.Bars}:Pack)).set s34.2.2.toNat ({Name:=x48.Name,Version:=x48.Version,Size:=x48.Size,Provides:=x50.2,Needs:=x48.Needs,Bars:=x48.Bars}:Pack)))]) (by simp only [rr,List.length_set]) ?_
  refine zA (fun x54 h55=>?_)
  refine zGQ (ix:=s34.2.2) (enc:=(Pack.enc true)) 0 6 1 h55 rfl rfl (by kernel_rfl) ?_
  refine wM [(0,rr 0 ((((((s34.1.set s34.2.2.toNat ({Name:=x36,Version:=x38.Version,Size:=x38.Size,Provides:=x38.Provides,Needs:=x38.Needs,Bars:=x38.Bars}:Pack)).set s34.2.2.toNat ({Name:=x40.Name,Version:=({A:=w64 (s34.2.1+1),B:=x40.Version.B,C:=x40.Version.C}:Version),Size:=x40.Size,Provides:=x40.Provides,Needs:=x40.Needs,Bars:=x40.Bars}:Pack)).set s34.2.2.toNat ({Name:=x42.Name,Version:=({A:=x42.Version.A,B:=w64 ((w64 (s34.2.1+1))+1),C:=x42.Version.C}:Version),Size:=x42.Size,Provides:=x42.Provides,Needs:=x42.Needs,Bars:=x42.Bars}:Pack)).set s34.2.2.toNat ({Name:=x44.Name,Version:=({A:=x44.Version.A,B:=x44.Version.B,C:=w64 ((w64 ((w64 (s34.2.1+1))+1))+1)}:Version),Size:=x44.Size,Provides:=x44.Provides,Needs:=x44.Needs,Bars:=x44.Bars}:Pack)).set s34.2.2.toNat ({Name:=x46.Name,Version:=x46.Version,Size:=w64 ((w64 ((w64 ((w64 (s34.2.1+1))+1))+1))+1),Provides:=x46.Provides,Needs:=x46.Needs,Bars:=x46.Bars}:Pack)).set s34.2.2.toNat ({Name:=x48.Name,Version:=x48.Version,Size:=x48.Size,Provides:=x50.2,Needs:=x48.Needs,Bars:=x48.Bars}:Pack))),(1,iv x50.1),(5,iv s34.2.2)] [(0,.lent 8 (((((((s34.1.set s34.2.2.toNat ({Name:=x36,Version:=x38.Version,Size:=x38.Size,Provides:=x38.Provides,Needs:=x38.Needs,Bars:=x38.Bars}:Pack)).set s34.2.2.toNat ({Name:=x40.Name,Version:=({A:=w64 (s34.2.1+1),B:=x40.Version.B,C:=x40.Version.C}:Version),Size:=x40.Size,Provides:=x40.Provides,Needs:=x40.Needs,Bars:=x40.Bars}:Pack)).set s34.2.2.toNat ({Name:=x42.Name,Version:=({A:=x42.Version.A,B:=w64 ((w64 (s34.2.1+1))+1),C:=x42.Version.C}:Version),Size:=x42.Size,Provides:=x42.Provides,Needs:=x42.Needs,Bars:=x42.Bars}:Pack)).set s34.2.2.toNat ({Name:=x44.Name,Version:=({A:=x44.Version.A,B:=x44.Version.B,C:=w64 ((w64 ((w64 (s34.2.1+1))+1))+1)}:Version),Size:=x44.Size,Provides:=x44.Provides,Needs:=x44.Needs,Bars:=x44.Bars}:Pack)).set s34.2.2.toNat ({Name:=x46.Name,Version:=x46.Version,Size:=w64 ((w64 ((w64 ((w64 (s34.2.1+1))+1))+1))+1),Provides:=x46.Provides,Needs:=x46.Needs,Bars:=x46.Bars}:Pack)).set s34.2.2.toNat ({Name:=x48.Name,Version:=x48.Version,Size:=x48.Size,Provides:=x50.2,Needs:=x48.Needs,Bars:=x48.Bars}:Pack)).map (Pack.enc true)) s34.2.2.toNat 6 1 x54.Needs.length),(1,rE 1 (eSl true 7 Term.enc) x54.Needs)] (by kernel_rfl) ?_
  refine zA (fun x56 h57=>?_)
  refine J_g 1724414 [] [(0,rr 0 ((((((s34.1.set s34.2.2.toNat ({Name:=x36,Version:=x38.Version,Size:=x38.Size,Provides:=x38.Provides,Needs:=x38.Needs,Bars:=x38.Bars}:Pack)).set s34.2.2.toNat ({Name:=x40.Name,Version:=({A:=w64 (s34.2.1+1),B:=x40.Version.B,C:=x40.Version.C}:Version),Size:=x40.Size,Provides:=x40.Provides,Needs:=x40.Needs,Bars:=x40.Bars}:Pack)).set s34.2.2.toNat ({Name:=x42.Name,Version:=({A:=x42.Version.A,B:=w64 ((w64 (s34.2.1+1))+1),C:=x42.Version.C}:Version),Size:=x42.Size,Provides:=x42.Provides,Needs:=x42.Needs,Bars:=x42.Bars}:Pack)).set s34.2.2.toNat ({Name:=x44.Name,Version:=({A:=x44.Version.A,B:=x44.Version.B,C:=w64 ((w64 ((w64 (s34.2.1+1))+1))+1)}:Version),Size:=x44.Size,Provides:=x44.Provides,Needs:=x44.Needs,Bars:=x44.Bars}:Pack)).set s34.2.2.toNat ({Name:=x46.Name,Version:=x46.Version,Size:=w64 ((w64 ((w64 ((w64 (s34.2.1+1))+1))+1))+1),Provides:=x46.Provides,Needs:=x46.Needs,Bars:=x46.Bars}:Pack)).set s34.2.2.toNat ({Name:=x48.Name,Version:=x48.Version,Size:=x48.Size,Provides:=x50.2,Needs:=x48.Needs,Bars:=x48.Bars}:Pack))),(1,iv x56.1),(5,iv s34.2.2)] [(0,.lent 8 (((((((s34.1.set s34.2.2.toNat ({Name:=x36,Version:=x38.Version,Size:=x38.Size,Provides:=x38.Provides,Needs:=x38.Needs,Bars:=x38.Bars}:Pack)).set s34.2.2.toNat ({Name:=x40.Name,Version:=({A:=w64 (s34.2.1+1),B:=x40.Version.B,C:=x40.Version.C}:Version),Size:=x40.Size,Provides:=x40.Provides,Needs:=x40.Needs,Bars:=x40.Bars}:Pack)).set s34.2.2.toNat ({Name:=x42.Name,Version:=({A:=x42.Version.A,B:=w64 ((w64 (s34.2.1+1))+1),C:=x42.Version.C}:Version),Size:=x42.Size,Provides:=x42.Provides,Needs:=x42.Needs,Bars:=x42.Bars}:Pack)).set s34.2.2.toNat ({Name:=x44.Name,Version:=({A:=x44.Version.A,B:=x44.Version.B,C:=w64 ((w64 ((w64 (s34.2.1+1))+1))+1)}:Version),Size:=x44.Size,Provides:=x44.Provides,Needs:=x44.Needs,Bars:=x44.Bars}:Pack)).set s34.2.2.toNat ({Name:=x46.Name,Version:=x46.Version,Size:=w64 ((w64 ((w64 ((w64 (s34.2.1+1))+1))+1))+1),Provides:=x46.Provides,Needs:=x46.Needs,Bars:=x46.Bars}:Pack)).set s34.2.2.toNat ({Name:=x48.Name,Version:=x48.Version,Size:=x48.Size,Provides:=x50.2,Needs:=x48.Needs,Bars:=x48.Bars}:Pack)).map (Pack.enc true)) s34.2.2.toNat 6 1 x54.Needs.length),(1,rE 1 (eSl true 7 Term.enc) x56.2)] (zD 2 (zMj (kk:=.i64) 53 102 8 0 (Pack.enc true) (.tmp 58) (.tmp 59) s34.2.2.toNat 6 1 x54.Needs.length h55) (zD 4 (zMg 100 0 (.tmp 61) 8 (Pack.enc true) ((((((s34.1.set s34.2.2.toNat ({Name:=x36,Version:=x38.Version,Size:=x38.Size,Provides:=x38.Provides,Needs:=x38.Needs,Bars:=x38.Bars}:Pack)).set s34.2.2.toNat ({Name:=x40.Name,Version:=({A:=w64 (s34.2.1+1),B:=x40.Version.B,C:=x40.Version.C}:Version),Size:=x40.Size,Provides:=x40.Provides,Needs:=x40.Needs,Bars:=x40.Bars}:Pack)).set s34.2.2.toNat ({Name:=x42.Name,Version:=({A:=x42.Version.A,B:=w64 ((w64 (s34.2.1+1))+1),C:=x42.Version.C}:Version),Size:=x42.Size,Provides:=x42.Provides,Needs:=x42.Needs,Bars:=x42.Bars}:Pack)).set s34.2.2.toNat ({Name:=x44.Name,Version:=({A:=x44.Version.A,B:=x44.Version.B,C:=w64 ((w64 ((w64 (s34.2.1+1))+1))+1)}:Version),Size:=x44.Size,Provides:=x44.Provides,Needs:=x44.Needs,Bars:=x44.Bars}:Pack)).set s34.2.2.toNat ({Name:=x46.Name,Version:=x46.Version,Size:=w64 ((w64 ((w64 ((w64 (s34.2.1+1))+1))+1))+1),Provides:=x46.Provides,Needs:=x46.Needs,Bars:=x46.Bars}:Pack)).set s34.2.2.toNat ({Name:=x48.Name,Version:=x48.Version,Size:=x48.Size,Provides:=x50.2,Needs:=x48.Needs,Bars:=x48.Bars}:Pack)) s34.2.2.toNat 6 1 x54.Needs.length) (zD 6 (vX («as»:=[rr 1 x54.Needs,iv x50.1]) [(.tmp 62),(.tmp 63)] [100,3] false [(1,rE 1 (eSl true 7 Term.enc) x54.Needs)] [1] (.cons (.rf rfl) (.cons (.same rfl) (.nil))) (jK.ok x54.Needs x50.1) h57 (.same rfl rfl)) zB))) ?_
  refine zA (fun u58 h59=>?_)
  refine zHg (ix:=s34.2.2) (enc:=(Pack.enc true)) (b:=({Name:=x54.Name,Version:=x54.Version,Size:=x54.Size,Provides:=x54.Provides,Needs:=x56.2,Bars:=x54.Bars}:Pack)) 0 6 1 h55 rfl rfl rfl rfl (zDQ h59) (Nat.le_of_ble_eq_true rfl) ((List.length_map _).trans (zDQ h59)) ?_
  refine wM [(0,rr 0 ((((((s34.1.set s34.2.2.toNat ({Name:=x36,Version:=x38.Version,Size:=x38.Size,Provides:=x38.Provides,Needs:=x38.Needs,Bars:=x38.Bars}:Pack)).set s34.2.2.toNat ({Name:=x40.Name,Version:=({A:=w64 (s34.2.1+1),B:=x40.Version.B,C:=x40.Version.C}:Version),Size:=x40.Size,Provides:=x40.Provides,Needs:=x40.Needs,Bars:=x40.Bars}:Pack)).set s34.2.2.toNat ({Name:=x42.Name,Version:=({A:=x42.Version.A,B:=w64 ((w64 (s34.2.1+1))+1),C:=x42.Version.C}:Version),Size:=x42.Size,Provides:=x42.Provides,Needs:=x42.Needs,Bars:=x42.Bars}:Pack)).set s34.2.2.toNat ({Name:=x44.Name,Version:=({A:=x44.Version.A,B:=x44.Version.B,C:=w64 ((w64 ((w64 (s34.2.1+1))+1))+1)}:Version),Size:=x44.Size,Provides:=x44.Provides,Needs:=x44.Needs,Bars:=x44.Bars}:Pack)).set s34.2.2.toNat ({Name:=x46.Name,Version:=x46.Version,Size:=w64 ((w64 ((w64 ((w64 (s34.2.1+1))+1))+1))+1),Provides:=x46.Provides,Needs:=x46.Needs,Bars:=x46.Bars}:Pack)).set s34.2.2.toNat ({Name:=x48.Name,Version:=x48.Version,Size:=x48.Size,Provides:=x50.2,Needs:=x48.Needs,Bars:=x48.Bars}:Pack))),(1,iv x56.1),(5,iv s34.2.2)] [(0,rE 8 (Pack.enc true) (((((((s34.1.set s34.2.2.toNat ({Name:=x36,Version:=x38.Version,Size:=x38.Size,Provides:=x38.Provides,Needs:=x38.Needs,Bars:=x38.Bars}:Pack)).set s34.2.2.toNat ({Name:=x40.Name,Version:=({A:=w64 (s34.2.1+1),B:=x40.Version.B,C:=x40.Version.C}:Version),Size:=x40.Size,Provides:=x40.Provides,Needs:=x40.Needs,Bars:=x40.Bars}:Pack)).set s34.2.2.toNat ({Name:=x42.Name,Version:=({A:=x42.Version.A,B:=w64 ((w64 (s34.2.1+1))+1),C:=x42.Version.C}:Version),Size:=x42.Size,Provides:=x42.Provides,Needs:=x42.Needs,Bars:=x42.Bars}:Pack)).set s34.2.2.toNat ({Name:=x44.Name,Version:=({A:=x44.Version.A,B:=x44.Version.B,C:=w64 ((w64 ((w64 (s34.2.1+1))+1))+1)}:Version),Size:=x44.Size,Provides:=x44.Provides,Needs:=x44.Needs,Bars:=x44.Bars}:Pack)).set s34.2.2.toNat ({Name:=x46.Name,Version:=x46.Version,Size:=w64 ((w64 ((w64 ((w64 (s34.2.1+1))+1))+1))+1),Provides:=x46.Provides,Needs:=x46.Needs,Bars:=x46.Bars}:Pack)).set s34.2.2.toNat ({Name:=x48.Name,Version:=x48.Version,Size:=x48.Size,Provides:=x50.2,Needs:=x48.Needs,Bars:=x48.Bars}:Pack)).set s34.2.2.toNat ({Name:=x54.Name,Version:=x54.Version,Size:=x54.Size,Provides:=x54.Provides,Needs:=x56.2,Bars:=x54.Bars}:Pack)))] (by kernel_rfl) ?_
  refine zFQ (σ':=St.mk' [(0,rr 0 (((((((s34.1.set s34.2.2.toNat ({Name:=x36,Version:=x38.Version,Size:=x38.Size,Provides:=x38.Provides,Needs:=x38.Needs,Bars:=x38.Bars}:Pack)).set s34.2.2.toNat ({Name:=x40.Name,Version:=({A:=w64 (s34.2.1+1),B:=x40.Version.B,C:=x40.Version.C}:Version),Size:=x40.Size,Provides:=x40.Provides,Needs:=x40.Needs,Bars:=x40.Bars}:Pack)).set s34.2.2.toNat ({Name:=x42.Name,Version:=({A:=x42.Version.A,B:=w64 ((w64 (s34.2.1+1))+1),C:=x42.Version.C}:Version),Size:=x42.Size,Provides:=x42.Provides,Needs:=x42.Needs,Bars:=x42.Bars}:Pack)).set s34.2.2.toNat ({Name:=x44.Name,Version:=({A:=x44.Version.A,B:=x44.Version.B,C:=w64 ((w64 ((w64 (s34.2.1+1))+1))+1)}:Version),Size:=x44.Size,Provides:=x44.Provides,Needs:=x44.Needs,Bars:=x44.Bars}:Pack)).set s34.2.2.toNat ({Name:=x46.Name,Version:=x46.Version,Size:=w64 ((w64 ((w64 ((w64 (s34.2.1+1))+1))+1))+1),Provides:=x46.Provides,Needs:=x46.Needs,Bars:=x46.Bars}:Pack)).set s34.2.2.toNat ({Name:=x48.Name,Version:=x48.Version,Size:=x48.Size,Provides:=x50.2,Needs:=x48.Needs,Bars:=x48.Bars}:Pack)).set s34.2.2.toNat ({Name:=x54.Name,Version:=x54.Version,Size:=x54.Size,Provides:=x54.Provides,Needs:=x56.2,Bars:=x54.Bars}:Pack))),(1,iv x56.1),(5,iv s34.2.2)] [(0,rE 8 (Pack.enc true) (((((((s34.1.set s34.2.2.toNat ({Name:=x36,Version:=x38.Version,Size:=x38.Size,Provides:=x38.Provides,Needs:=x38.Needs,Bars:=x38.Bars}:Pack)).set s34.2.2.toNat ({Name:=x40.Name,Version:=({A:=w64 (s34.2.1+1),B:=x40.Version.B,C:=x40.Version.C}:Version),Size:=x40.Size,Provides:=x40.Provides,Needs:=x40.Needs,Bars:=x40.Bars}:Pack)).set s34.2.2.toNat ({Name:=x42.Name,Version:=({A:=x42.Version.A,B:=w64 ((w64 (s34.2.1+1))+1),C:=x42.Version.C}:Version),Size:=x42.Size,Provides:=x42.Provides,Needs:=x42.Needs,Bars:=x42.Bars}:Pack)).set s34.2.2.toNat ({Name:=x44.Name,Version:=({A:=x44.Version.A,B:=x44.Version.B,C:=w64 ((w64 ((w64 (s34.2.1+1))+1))+1)}:Version),Size:=x44.Size,Provides:=x44.Provides,Needs:=x44.Needs,Bars:=x44.Bars}:Pack)).set s34.2.2.toNat ({Name:=x46.Name,Version:=x46.Version,Size:=w64 ((w64 ((w64 ((w64 (s34.2.1+1))+1))+1))+1),Provides:=x46.Provides,Needs:=x46.Needs,Bars:=x46.Bars}:Pack)).set s34.2.2.toNat ({Name:=x48.Name,Version:=x48.Version,Size:=x48.Size,Provides:=x50.2,Needs:=x48.Needs,Bars:=x48.Bars}:Pack)).set s34.2.2.toNat ({Name:=x54.Name,Version:=x54.Version,Size:=x54.Size,Provides:=x54.Provides,Needs:=x56.2,Bars:=x54.Bars}:Pack)))]) (by simp only [rr,List.length_set]) ?_
  refine zA (fun x60 h61=>?_)
  refine zGQ (ix:=s34.2.2) (enc:=(Pack.enc true)) 0 7 1 h61 rfl rfl (by kernel_rfl) ?_
  refine wM [(0,rr 0 (((((((s34.1.set s34.2.2.toNat ({Name:=x36,Version:=x38.Version,Size:=x38.Size,Provides:=x38.Provides,Needs:=x38.Needs,Bars:=x38.Bars}:Pack)).set s34.2.2.toNat ({Name:=x40.Name,Version:=({A:=w64 (s34.2.1+1),B:=x40.Version.B,C:=x40.Version.C}:Version),Size:=x40.Size,Provides:=x40.Provides,Needs:=x40.Needs,Bars:=x40.Bars}:Pack)).set s34.2.2.toNat ({Name:=x42.Name,Version:=({A:=x42.Version.A,B:=w64 ((w64 (s34.2.1+1))+1),C:=x42.Version.C}:Version),Size:=x42.Size,Provides:=x42.Provides,Needs:=x42.Needs,Bars:=x42.Bars}:Pack)).set s34.2.2.toNat ({Name:=x44.Name,Version:=({A:=x44.Version.A,B:=x44.Version.B,C:=w64 ((w64 ((w64 (s34.2.1+1))+1))+1)}:Version),Size:=x44.Size,Provides:=x44.Provides,Needs:=x44.Needs,Bars:=x44.Bars}:Pack)).set s34.2.2.toNat ({Name:=x46.Name,Version:=x46.Version,Size:=w64 ((w64 ((w64 ((w64 (s34.2.1+1))+1))+1))+1),Provides:=x46.Provides,Needs:=x46.Needs,Bars:=x46.Bars}:Pack)).set s34.2.2.toNat ({Name:=x48.Name,Version:=x48.Version,Size:=x48.Size,Provides:=x50.2,Needs:=x48.Needs,Bars:=x48.Bars}:Pack)).set s34.2.2.toNat ({Name:=x54.Name,Version:=x54.Version,Size:=x54.Size,Provides:=x54.Provides,Needs:=x56.2,Bars:=x54.Bars}:Pack))),(1,iv x56.1),(5,iv s34.2.2)] [(0,.lent 8 ((((((((s34.1.set s34.2.2.toNat ({Name:=x36,Version:=x38.Version,Size:=x38.Size,Provides:=x38.Provides,Needs:=x38.Needs,Bars:=x38.Bars}:Pack)).set s34.2.2.toNat ({Name:=x40.Name,Version:=({A:=w64 (s34.2.1+1),B:=x40.Version.B,C:=x40.Version.C}:Version),Size:=x40.Size,Provides:=x40.Provides,Needs:=x40.Needs,Bars:=x40.Bars}:Pack)).set s34.2.2.toNat ({Name:=x42.Name,Version:=({A:=x42.Version.A,B:=w64 ((w64 (s34.2.1+1))+1),C:=x42.Version.C}:Version),Size:=x42.Size,Provides:=x42.Provides,Needs:=x42.Needs,Bars:=x42.Bars}:Pack)).set s34.2.2.toNat ({Name:=x44.Name,Version:=({A:=x44.Version.A,B:=x44.Version.B,C:=w64 ((w64 ((w64 (s34.2.1+1))+1))+1)}:Version),Size:=x44.Size,Provides:=x44.Provides,Needs:=x44.Needs,Bars:=x44.Bars}:Pack)).set s34.2.2.toNat ({Name:=x46.Name,Version:=x46.Version,Size:=w64 ((w64 ((w64 ((w64 (s34.2.1+1))+1))+1))+1),Provides:=x46.Provides,Needs:=x46.Needs,Bars:=x46.Bars}:Pack)).set s34.2.2.toNat ({Name:=x48.Name,Version:=x48.Version,Size:=x48.Size,Provides:=x50.2,Needs:=x48.Needs,Bars:=x48.Bars}:Pack)).set s34.2.2.toNat ({Name:=x54.Name,Version:=x54.Version,Size:=x54.Size,Provides:=x54.Provides,Needs:=x56.2,Bars:=x54.Bars}:Pack)).map (Pack.enc true)) s34.2.2.toNat 7 1 x60.Bars.length),(1,rE 7 Term.enc x60.Bars)] (by kernel_rfl) ?_
  refine zA (fun x62 h63=>?_)
  refine J_g 1724415 [] [(0,rr 0 (((((((s34.1.set s34.2.2.toNat ({Name:=x36,Version:=x38.Version,Size:=x38.Size,Provides:=x38.Provides,Needs:=x38.Needs,Bars:=x38.Bars}:Pack)).set s34.2.2.toNat ({Name:=x40.Name,Version:=({A:=w64 (s34.2.1+1),B:=x40.Version.B,C:=x40.Version.C}:Version),Size:=x40.Size,Provides:=x40.Provides,Needs:=x40.Needs,Bars:=x40.Bars}:Pack)).set s34.2.2.toNat ({Name:=x42.Name,Version:=({A:=x42.Version.A,B:=w64 ((w64 (s34.2.1+1))+1),C:=x42.Version.C}:Version),Size:=x42.Size,Provides:=x42.Provides,Needs:=x42.Needs,Bars:=x42.Bars}:Pack)).set s34.2.2.toNat ({Name:=x44.Name,Version:=({A:=x44.Version.A,B:=x44.Version.B,C:=w64 ((w64 ((w64 (s34.2.1+1))+1))+1)}:Version),Size:=x44.Size,Provides:=x44.Provides,Needs:=x44.Needs,Bars:=x44.Bars}:Pack)).set s34.2.2.toNat ({Name:=x46.Name,Version:=x46.Version,Size:=w64 ((w64 ((w64 ((w64 (s34.2.1+1))+1))+1))+1),Provides:=x46.Provides,Needs:=x46.Needs,Bars:=x46.Bars}:Pack)).set s34.2.2.toNat ({Name:=x48.Name,Version:=x48.Version,Size:=x48.Size,Provides:=x50.2,Needs:=x48.Needs,Bars:=x48.Bars}:Pack)).set s34.2.2.toNat ({Name:=x54.Name,Version:=x54.Version,Size:=x54.Size,Provides:=x54.Provides,Needs:=x56.2,Bars:=x54.Bars}:Pack))),(1,iv x62.1),(5,iv s34.2.2)] [(0,.lent 8 ((((((((s34.1.set s34.2.2.toNat ({Name:=x36,Version:=x38.Version,Size:=x38.Size,Provides:=x38.Provides,Needs:=x38.Needs,Bars:=x38.Bars}:Pack)).set s34.2.2.toNat ({Name:=x40.Name,Version:=({A:=w64 (s34.2.1+1),B:=x40.Version.B,C:=x40.Version.C}:Version),Size:=x40.Size,Provides:=x40.Provides,Needs:=x40.Needs,Bars:=x40.Bars}:Pack)).set s34.2.2.toNat ({Name:=x42.Name,Version:=({A:=x42.Version.A,B:=w64 ((w64 (s34.2.1+1))+1),C:=x42.Version.C}:Version),Size:=x42.Size,Provides:=x42.Provides,Needs:=x42.Needs,Bars:=x42.Bars}:Pack)).set s34.2.2.toNat ({Name:=x44.Name,Version:=({A:=x44.Version.A,B:=x44.Version.B,C:=w64 ((w64 ((w64 (s34.2.1+1))+1))+1)}:Version),Size:=x44.Size,Provides:=x44.Provides,Needs:=x44.Needs,Bars:=x44.Bars}:Pack)).set s34.2.2.toNat ({Name:=x46.Name,Version:=x46.Version,Size:=w64 ((w64 ((w64 ((w64 (s34.2.1+1))+1))+1))+1),Provides:=x46.Provides,Needs:=x46.Needs,Bars:=x46.Bars}:Pack)).set s34.2.2.toNat ({Name:=x48.Name,Version:=x48.Version,Size:=x48.Size,Provides:=x50.2,Needs:=x48.Needs,Bars:=x48.Bars}:Pack)).set s34.2.2.toNat ({Name:=x54.Name,Version:=x54.Version,Size:=x54.Size,Provides:=x54.Provides,Needs:=x56.2,Bars:=x54.Bars}:Pack)).map (Pack.enc true)) s34.2.2.toNat 7 1 x60.Bars.length),(1,rE 7 Term.enc x62.2)] (zD 2 (zMj (kk:=.i64) 53 102 8 0 (Pack.enc true) (.tmp 65) (.tmp 66) s34.2.2.toNat 7 1 x60.Bars.length h61) (zD 4 (zMg 24 0 (.tmp 68) 8 (Pack.enc true) (((((((s34.1.set s34.2.2.toNat ({Name:=x36,Version:=x38.Version,Size:=x38.Size,Provides:=x38.Provides,Needs:=x38.Needs,Bars:=x38.Bars}:Pack)).set s34.2.2.toNat ({Name:=x40.Name,Version:=({A:=w64 (s34.2.1+1),B:=x40.Version.B,C:=x40.Version.C}:Version),Size:=x40.Size,Provides:=x40.Provides,Needs:=x40.Needs,Bars:=x40.Bars}:Pack)).set s34.2.2.toNat ({Name:=x42.Name,Version:=({A:=x42.Version.A,B:=w64 ((w64 (s34.2.1+1))+1),C:=x42.Version.C}:Version),Size:=x42.Size,Provides:=x42.Provides,Needs:=x42.Needs,Bars:=x42.Bars}:Pack)).set s34.2.2.toNat ({Name:=x44.Name,Version:=({A:=x44.Version.A,B:=x44.Version.B,C:=w64 ((w64 ((w64 (s34.2.1+1))+1))+1)}:Version),Size:=x44.Size,Provides:=x44.Provides,Needs:=x44.Needs,Bars:=x44.Bars}:Pack)).set s34.2.2.toNat ({Name:=x46.Name,Version:=x46.Version,Size:=w64 ((w64 ((w64 ((w64 (s34.2.1+1))+1))+1))+1),Provides:=x46.Provides,Needs:=x46.Needs,Bars:=x46.Bars}:Pack)).set s34.2.2.toNat ({Name:=x48.Name,Version:=x48.Version,Size:=x48.Size,Provides:=x50.2,Needs:=x48.Needs,Bars:=x48.Bars}:Pack)).set s34.2.2.toNat ({Name:=x54.Name,Version:=x54.Version,Size:=x54.Size,Provides:=x54.Provides,Needs:=x56.2,Bars:=x54.Bars}:Pack)) s34.2.2.toNat 7 1 x60.Bars.length) (zD 6 (vX («as»:=[rr 1 x60.Bars,iv x56.1]) [(.tmp 69),(.tmp 70)] [24,3] false [(1,rE 7 Term.enc x60.Bars)] [1] (.cons (.rf rfl) (.cons (.same rfl) (.nil))) (uK.ok x60.Bars x56.1) h63 (.same rfl rfl)) zB))) ?_
  refine zA (fun u64 h65=>?_)
  refine zHg (ix:=s34.2.2) (enc:=(Pack.enc true)) (b:=({Name:=x60.Name,Version:=x60.Version,Size:=x60.Size,Provides:=x60.Provides,Needs:=x60.Needs,Bars:=x62.2}:Pack)) 0 7 1 h61 rfl rfl rfl rfl (zDQ h65) (Nat.le_of_ble_eq_true rfl) ((List.length_map _).trans (zDQ h65)) ?_
  refine wM [(0,rr 0 (((((((s34.1.set s34.2.2.toNat ({Name:=x36,Version:=x38.Version,Size:=x38.Size,Provides:=x38.Provides,Needs:=x38.Needs,Bars:=x38.Bars}:Pack)).set s34.2.2.toNat ({Name:=x40.Name,Version:=({A:=w64 (s34.2.1+1),B:=x40.Version.B,C:=x40.Version.C}:Version),Size:=x40.Size,Provides:=x40.Provides,Needs:=x40.Needs,Bars:=x40.Bars}:Pack)).set s34.2.2.toNat ({Name:=x42.Name,Version:=({A:=x42.Version.A,B:=w64 ((w64 (s34.2.1+1))+1),C:=x42.Version.C}:Version),Size:=x42.Size,Provides:=x42.Provides,Needs:=x42.Needs,Bars:=x42.Bars}:Pack)).set s34.2.2.toNat ({Name:=x44.Name,Version:=({A:=x44.Version.A,B:=x44.Version.B,C:=w64 ((w64 ((w64 (s34.2.1+1))+1))+1)}:Version),Size:=x44.Size,Provides:=x44.Provides,Needs:=x44.Needs,Bars:=x44.Bars}:Pack)).set s34.2.2.toNat ({Name:=x46.Name,Version:=x46.Version,Size:=w64 ((w64 ((w64 ((w64 (s34.2.1+1))+1))+1))+1),Provides:=x46.Provides,Needs:=x46.Needs,Bars:=x46.Bars}:Pack)).set s34.2.2.toNat ({Name:=x48.Name,Version:=x48.Version,Size:=x48.Size,Provides:=x50.2,Needs:=x48.Needs,Bars:=x48.Bars}:Pack)).set s34.2.2.toNat ({Name:=x54.Name,Version:=x54.Version,Size:=x54.Size,Provides:=x54.Provides,Needs:=x56.2,Bars:=x54.Bars}:Pack))),(1,iv x62.1),(5,iv s34.2.2)] [(0,rE 8 (Pack.enc true) ((((((((s34.1.set s34.2.2.toNat ({Name:=x36,Version:=x38.Version,Size:=x38.Size,Provides:=x38.Provides,Needs:=x38.Needs,Bars:=x38.Bars}:Pack)).set s34.2.2.toNat ({Name:=x40.Name,Version:=({A:=w64 (s34.2.1+1),B:=x40.Version.B,C:=x40.Version.C}:Version),Size:=x40.Size,Provides:=x40.Provides,Needs:=x40.Needs,Bars:=x40.Bars}:Pack)).set s34.2.2.toNat ({Name:=x42.Name,Version:=({A:=x42.Version.A,B:=w64 ((w64 (s34.2.1+1))+1),C:=x42.Version.C}:Version),Size:=x42.Size,Provides:=x42.Provides,Needs:=x42.Needs,Bars:=x42.Bars}:Pack)).set s34.2.2.toNat ({Name:=x44.Name,Version:=({A:=x44.Version.A,B:=x44.Version.B,C:=w64 ((w64 ((w64 (s34.2.1+1))+1))+1)}:Version),Size:=x44.Size,Provides:=x44.Provides,Needs:=x44.Needs,Bars:=x44.Bars}:Pack)).set s34.2.2.toNat ({Name:=x46.Name,Version:=x46.Version,Size:=w64 ((w64 ((w64 ((w64 (s34.2.1+1))+1))+1))+1),Provides:=x46.Provides,Needs:=x46.Needs,Bars:=x46.Bars}:Pack)).set s34.2.2.toNat ({Name:=x48.Name,Version:=x48.Version,Size:=x48.Size,Provides:=x50.2,Needs:=x48.Needs,Bars:=x48.Bars}:Pack)).set s34.2.2.toNat ({Name:=x54.Name,Version:=x54.Version,Size:=x54.Size,Provides:=x54.Provides,Needs:=x56.2,Bars:=x54.Bars}:Pack)).set s34.2.2.toNat ({Name:=x60.Name,Version:=x60.Version,Size:=x60.Size,Provides:=x60.Provides,Needs:=x60.Needs,Bars:=x62.2}:Pack)))] (by kernel_rfl) ?_
  refine zFQ (σ':=St.mk' [(0,rr 0 ((((((((s34.1.set s34.2.2.toNat ({Name:=x36,Version:=x38.Version,Size:=x38.Size,Provides:=x38.Provides,Needs:=x38.Needs,Bars:=x38.Bars}:Pack)).set s34.2.2.toNat ({Name:=x40.Name,Version:=({A:=w64 (s34.2.1+1),B:=x40.Version.B,C:=x40.Version.C}:Version),Size:=x40.Size,Provides:=x40.Provides,Needs:=x40.Needs,Bars:=x40.Bars}:Pack)).set s34.2.2.toNat ({Name:=x42.Name,Version:=({A:=x42.Version.A,B:=w64 ((w64 (s34.2.1+1))+1),C:=x42.Version.C}:Version),Size:=x42.Size,Provides:=x42.Provides,Needs:=x42.Needs,Bars:=x42.Bars}:Pack)).set s34.2.2.toNat ({Name:=x44.Name,Version:=({A:=x44.Version.A,B:=x44.Version.B,C:=w64 ((w64 ((w64 (s34.2.1+1))+1))+1)}:Version),Size:=x44.Size,Provides:=x44.Provides,Needs:=x44.Needs,Bars:=x44.Bars}:Pack)).set s34.2.2.toNat ({Name:=x46.Name,Version:=x46.Version,Size:=w64 ((w64 ((w64 ((w64 (s34.2.1+1))+1))+1))+1),Provides:=x46.Provides,Needs:=x46.Needs,Bars:=x46.Bars}:Pack)).set s34.2.2.toNat ({Name:=x48.Name,Version:=x48.Version,Size:=x48.Size,Provides:=x50.2,Needs:=x48.Needs,Bars:=x48.Bars}:Pack)).set s34.2.2.toNat ({Name:=x54.Name,Version:=x54.Version,Size:=x54.Size,Provides:=x54.Provides,Needs:=x56.2,Bars:=x54.Bars}:Pack)).set s34.2.2.toNat ({Name:=x60.Name,Version:=x60.Version,Size:=x60.Size,Provides:=x60.Provides,Needs:=x60.Needs,Bars:=x62.2}:Pack))),(1,iv x62.1),(5,iv s34.2.2)] [(0,rE 8 (Pack.enc true) ((((((((s34.1.set s34.2.2.toNat ({Name:=x36,Version:=x38.Version,Size:=x38.Size,Provides:=x38.Provides,Needs:=x38.Needs,Bars:=x38.Bars}:Pack)).set s34.2.2.toNat ({Name:=x40.Name,Version:=({A:=w64 (s34.2.1+1),B:=x40.Version.B,C:=x40.Version.C}:Version),Size:=x40.Size,Provides:=x40.Provides,Needs:=x40.Needs,Bars:=x40.Bars}:Pack)).set s34.2.2.toNat ({Name:=x42.Name,Version:=({A:=x42.Version.A,B:=w64 ((w64 (s34.2.1+1))+1),C:=x42.Version.C}:Version),Size:=x42.Size,Provides:=x42.Provides,Needs:=x42.Needs,Bars:=x42.Bars}:Pack)).set s34.2.2.toNat ({Name:=x44.Name,Version:=({A:=x44.Version.A,B:=x44.Version.B,C:=w64 ((w64 ((w64 (s34.2.1+1))+1))+1)}:Version),Size:=x44.Size,Provides:=x44.Provides,Needs:=x44.Needs,Bars:=x44.Bars}:Pack)).set s34.2.2.toNat ({Name:=x46.Name,Version:=x46.Version,Size:=w64 ((w64 ((w64 ((w64 (s34.2.1+1))+1))+1))+1),Provides:=x46.Provides,Needs:=x46.Needs,Bars:=x46.Bars}:Pack)).set s34.2.2.toNat ({Name:=x48.Name,Version:=x48.Version,Size:=x48.Size,Provides:=x50.2,Needs:=x48.Needs,Bars:=x48.Bars}:Pack)).set s34.2.2.toNat ({Name:=x54.Name,Version:=x54.Version,Size:=x54.Size,Provides:=x54.Provides,Needs:=x56.2,Bars:=x54.Bars}:Pack)).set s34.2.2.toNat ({Name:=x60.Name,Version:=x60.Version,Size:=x60.Size,Provides:=x60.Provides,Needs:=x60.Needs,Bars:=x62.2}:Pack)))]) (by simp only [rr,List.length_set]) ?_
  refine J_d 211 [] [5] [(5,iv (w64 (s34.2.2+1)))] [] [] zB ?_
  exact J_q (J_b (ih ((((((((s34.1.set s34.2.2.toNat ({Name:=x36,Version:=x38.Version,Size:=x38.Size,Provides:=x38.Provides,Needs:=x38.Needs,Bars:=x38.Bars}:Pack)).set s34.2.2.toNat ({Name:=x40.Name,Version:=({A:=w64 (s34.2.1+1),B:=x40.Version.B,C:=x40.Version.C}:Version),Size:=x40.Size,Provides:=x40.Provides,Needs:=x40.Needs,Bars:=x40.Bars}:Pack)).set s34.2.2.toNat ({Name:=x42.Name,Version:=({A:=x42.Version.A,B:=w64 ((w64 (s34.2.1+1))+1),C:=x42.Version.C}:Version),Size:=x42.Size,Provides:=x42.Provides,Needs:=x42.Needs,Bars:=x42.Bars}:Pack)).set s34.2.2.toNat ({Name:=x44.Name,Version:=({A:=x44.Version.A,B:=x44.Version.B,C:=w64 ((w64 ((w64 (s34.2.1+1))+1))+1)}:Version),Size:=x44.Size,Provides:=x44.Provides,Needs:=x44.Needs,Bars:=x44.Bars}:Pack)).set s34.2.2.toNat ({Name:=x46.Name,Version:=x46.Version,Size:=w64 ((w64 ((w64 ((w64 (s34.2.1+1))+1))+1))+1),Provides:=x46.Provides,Needs:=x46.Needs,Bars:=x46.Bars}:Pack)).set s34.2.2.toNat ({Name:=x48.Name,Version:=x48.Version,Size:=x48.Size,Provides:=x50.2,Needs:=x48.Needs,Bars:=x48.Bars}:Pack)).set s34.2.2.toNat ({Name:=x54.Name,Version:=x54.Version,Size:=x54.Size,Provides:=x54.Provides,Needs:=x56.2,Bars:=x54.Bars}:Pack)).set s34.2.2.toNat ({Name:=x60.Name,Version:=x60.Version,Size:=x60.Size,Provides:=x60.Provides,Needs:=x60.Needs,Bars:=x62.2}:Pack),x62.1,w64 (s34.2.2+1)))) rfl
 ·exact xD (hk (s34.1,s34.2.1)) rfl
theorem kX.ok (a1:(List Pack)) (a2:Int):Ok Tryz.prog 25 [rr 0 a1,iv a2] [rE 8 (Pack.enc true) a1] ((kX a1 a2).map fun r=>(iv r.1,[rE 8 (Pack.enc true) r.2])):=by
 refine zG c25 Tryz.f25 1 73 (fun q=>?_)
 unfold kX
 refine J_g 2 [] [(0,rr 0 a1),(1,iv a2)] [(0,rE 8 (Pack.enc true) a1)] zB ?_
 refine J_d 12 [] [5] [(5,iv 0)] [] [] zB ?_
 refine zE3 (zA3.ok q _ (fun v66=>J_j ?_) (a1,a2,0))
 refine J_d 14 [] [1,4] [(4,iv v66.2)] [] [] zB ?_
 exact zN rfl
noncomputable def zQu:Code:=(Tryz.f128.body).getD .skip
theorem zAz.ok (q:Wd) (kn:((List Int)×Int)→Option (D×List Ent)) (hk:∀v:((List Int)×Int),J (q.g Tryz.prog 128 1 20) zQu (atI zQu 7) (St.mk' [(1,iv v.2)] [(0,rE 1 eU8 v.1)]) (some v) kn):
  ∀s6:((List Int)×Int×Int),J (q.g Tryz.prog 128 1 20) zQu (atI zQu 52) (St.mk' [(0,rr 0 s6.1),(1,iv s6.2.1),(5,iv s6.2.2)] [(0,rE 1 eU8 s6.1)]) (zAz s6) kn:=by
 refine jL (fun g ih s6=>?_)
 unfold kL
 refine J_d 208 [] [9] [(9,bv (decide (s6.2.2< (s6.1.length:Int))))] [] [] zB ?_
 refine zF 9 (fun h7=>?_) (fun h7=>?_)
 ·refine zA (fun x8 h9=>?_)
  refine J_g 840 [] [(0,rr 0 s6.1),(1,iv s6.2.1),(5,iv s6.2.2)] [(0,rE 1 eU8 (s6.1.set s6.2.2.toNat (IntKind.u8.wrap (s6.2.1))))] (zD 4 (uN (kk:=.i64) 22 5 1 0 eU8 (.tmp 12) (.tmp 13) h9) (zGO 5 (zHY (b:=IntKind.u8.wrap (s6.2.1)) 5 1 0 0 eU8 (uv (IntKind.u8.wrap (s6.2.1))) (.tmp 16) (.tmp 15) h9 rfl) zB)) ?_
  refine zFQ (σ':=St.mk' [(0,rr 0 (s6.1.set s6.2.2.toNat (IntKind.u8.wrap (s6.2.1)))),(1,iv s6.2.1),(5,iv s6.2.2)] [(0,rE 1 eU8 (s6.1.set s6.2.2.toNat (IntKind.u8.wrap (s6.2.1))))]) (by simp only [rr,List.length_set]) ?_
  refine J_g 841 [] [(0,rr 0 (s6.1.set s6.2.2.toNat (IntKind.u8.wrap (s6.2.1)))),(1,iv (w64 (s6.2.1+1))),(5,iv s6.2.2)] [(0,rE 1 eU8 (s6.1.set s6.2.2.toNat (IntKind.u8.wrap (s6.2.1))))] zB ?_
  refine J_d 211 [] [5] [(5,iv (w64 (s6.2.2+1)))] [] [] zB ?_
  exact J_q (J_b (ih (s6.1.set s6.2.2.toNat (IntKind.u8.wrap (s6.2.1)),w64 (s6.2.1+1),w64 (s6.2.2+1)))) rfl
 ·exact xD (hk (s6.1,s6.2.1)) rfl
theorem zAd.ok (a1:(List Int)) (a2:Int):Ok Tryz.prog 128 [rr 0 a1,iv a2] [rE 1 eU8 a1] ((zAd a1 a2).map fun r=>(iv r.1,[rE 1 eU8 r.2])):=by
 refine zG zQu Tryz.f128 1 20 (fun q=>?_)
 unfold zAd
 refine J_g 2 [] [(0,rr 0 a1),(1,iv a2)] [(0,rE 1 eU8 a1)] zB ?_
 refine J_d 12 [] [5] [(5,iv 0)] [] [] zB ?_
 refine zE3 (zAz.ok q _ (fun v10=>J_j ?_) (a1,a2,0))
 refine J_g 14 [] [(4,iv v10.2)] [(0,rE 1 eU8 v10.1)] zB ?_
 exact zN rfl
noncomputable def c65:Code:=(Tryz.f65.body).getD .skip
theorem zA4.ok (q:Wd) (kn:((List File)×Int)→Option (D×List Ent)) (hk:∀v:((List File)×Int),J (q.g Tryz.prog 65 1 28) c65 (atI c65 7) (St.mk' [(1,iv v.2)] [(0,rE 2 (File.enc true) v.1)]) (some v) kn):
  ∀s14:((List File)×Int×Int),J (q.g Tryz.prog 65 1 28) c65 (atI c65 52) (St.mk' [(0,rr 0 s14.1),(1,iv s14.2.1),(5,iv s14.2.2)] [(0,rE 2 (File.enc true) s14.1)]) (zA4 s14) kn:=by
 refine jL (fun g ih s14=>?_)
 unfold zAb
 refine J_d 208 [] [9] [(9,bv (decide (s14.2.2< (s14.1.length:Int))))] [] [] zB ?_
 refine zF 9 (fun h15=>?_) (fun h15=>?_)
 ·refine zA (fun x16 h17=>?_)
  refine zA (fun x18 h19=>?_)
  refine J_g 840 [] [(0,rr 0 s14.1),(1,iv s14.2.1),(5,iv s14.2.2)] [(0,rE 2 (File.enc true) (s14.1.set s14.2.2.toNat ({Path:=x16,Data:=x18.Data}:File)))] (zD 3 (xR [(.tmp 14)] [3] (xY.ok s14.2.1) h17) (zD 4 (uN (kk:=.i64) 27 124 2 0 (File.enc true) (.tmp 12) (.tmp 13) h19) (zGO 6 (zHY (b:=({Path:=x16,Data:=x18.Data}:File)) 9 2 0 0 (File.enc true) (sv x16) (.tmp 17) (.tmp 15) h19 rfl) zB))) ?_
  refine zFQ (σ':=St.mk' [(0,rr 0 (s14.1.set s14.2.2.toNat ({Path:=x16,Data:=x18.Data}:File))),(1,iv s14.2.1),(5,iv s14.2.2)] [(0,rE 2 (File.enc true) (s14.1.set s14.2.2.toNat ({Path:=x16,Data:=x18.Data}:File)))]) (by simp only [rr,List.length_set]) ?_
  refine J_d 1682 [] [1] [(1,iv (w64 (s14.2.1+1)))] [] [] zB ?_
  refine zA (fun x20 h21=>?_)
  refine zGQ (ix:=s14.2.2) (enc:=(File.enc true)) 0 1 1 h21 rfl rfl (by kernel_rfl) ?_
  refine wM [(0,rr 0 (s14.1.set s14.2.2.toNat ({Path:=x16,Data:=x18.Data}:File))),(1,iv (w64 (s14.2.1+1))),(5,iv s14.2.2)] [(0,.lent 2 ((s14.1.set s14.2.2.toNat ({Path:=x16,Data:=x18.Data}:File)).map (File.enc true)) s14.2.2.toNat 1 1 x20.Data.length),(1,rE 1 eU8 x20.Data)] (by kernel_rfl) ?_
  refine zA (fun x22 h23=>?_)
  refine J_g 1683 [] [(0,rr 0 (s14.1.set s14.2.2.toNat ({Path:=x16,Data:=x18.Data}:File))),(1,iv x22.1),(5,iv s14.2.2)] [(0,.lent 2 ((s14.1.set s14.2.2.toNat ({Path:=x16,Data:=x18.Data}:File)).map (File.enc true)) s14.2.2.toNat 1 1 x20.Data.length),(1,rE 1 eU8 x22.2)] (zD 2 (zMj (kk:=.i64) 27 124 2 0 (File.enc true) (.tmp 20) (.tmp 21) s14.2.2.toNat 1 1 x20.Data.length h21) (zD 4 (zMg 22 0 (.tmp 23) 2 (File.enc true) (s14.1.set s14.2.2.toNat ({Path:=x16,Data:=x18.Data}:File)) s14.2.2.toNat 1 1 x20.Data.length) (zD 6 (vX («as»:=[rr 1 x20.Data,iv (w64 (s14.2.1+1))]) [(.tmp 24),(.tmp 25)] [22,3] false [(1,rE 1 eU8 x20.Data)] [1] (.cons (.rf rfl) (.cons (.same rfl) (.nil))) (zAd.ok x20.Data (w64 (s14.2.1+1))) h23 (.same rfl rfl)) zB))) ?_
  refine zA (fun u24 h25=>?_)
  refine zHg (ix:=s14.2.2) (enc:=(File.enc true)) (b:=({Path:=x20.Path,Data:=x22.2}:File)) 0 1 1 h21 rfl rfl rfl rfl (zDQ h25) (Nat.le_of_ble_eq_true rfl) ((List.length_map _).trans (zDQ h25)) ?_
  refine wM [(0,rr 0 (s14.1.set s14.2.2.toNat ({Path:=x16,Data:=x18.Data}:File))),(1,iv x22.1),(5,iv s14.2.2)] [(0,rE 2 (File.enc true) ((s14.1.set s14.2.2.toNat ({Path:=x16,Data:=x18.Data}:File)).set s14.2.2.toNat ({Path:=x20.Path,Data:=x22.2}:File)))] (by kernel_rfl) ?_
  refine zFQ (σ':=St.mk' [(0,rr 0 ((s14.1.set s14.2.2.toNat ({Path:=x16,Data:=x18.Data}:File)).set s14.2.2.toNat ({Path:=x20.Path,Data:=x22.2}:File))),(1,iv x22.1),(5,iv s14.2.2)] [(0,rE 2 (File.enc true) ((s14.1.set s14.2.2.toNat ({Path:=x16,Data:=x18.Data}:File)).set s14.2.2.toNat ({Path:=x20.Path,Data:=x22.2}:File)))]) (by simp only [rr,List.length_set]) ?_
  refine J_d 211 [] [5] [(5,iv (w64 (s14.2.2+1)))] [] [] zB ?_
  exact J_q (J_b (ih ((s14.1.set s14.2.2.toNat ({Path:=x16,Data:=x18.Data}:File)).set s14.2.2.toNat ({Path:=x20.Path,Data:=x22.2}:File),x22.1,w64 (s14.2.2+1)))) rfl
 ·exact xD (hk (s14.1,s14.2.1)) rfl
theorem kW.ok (a1:(List File)) (a2:Int):Ok Tryz.prog 65 [rr 0 a1,iv a2] [rE 2 (File.enc true) a1] ((kW a1 a2).map fun r=>(iv r.1,[rE 2 (File.enc true) r.2])):=by
 refine zG c65 Tryz.f65 1 28 (fun q=>?_)
 unfold kW
 refine J_g 2 [] [(0,rr 0 a1),(1,iv a2)] [(0,rE 2 (File.enc true) a1)] zB ?_
 refine J_d 12 [] [5] [(5,iv 0)] [] [] zB ?_
 refine zE3 (zA4.ok q _ (fun v26=>J_j ?_) (a1,a2,0))
 refine J_d 14 [] [1,4] [(4,iv v26.2)] [] [] zB ?_
 exact zN rfl
noncomputable def c26:Code:=(Tryz.f26.body).getD .skip
theorem tJ.ok (a1:zC) (a2:Int):Ok Tryz.prog 26 [.ag [rr 0 a1.Files,iv a1.Budget,iv a1.Writes,iv a1.Stop,bv a1.Down],iv a2] [rE 2 (File.enc true) a1.Files] ((tJ a1 a2).map fun r=>(iv r.1,[rE 2 (File.enc true) r.2])):=by
 refine zG c26 Tryz.f26 1 10 (fun q=>?_)
 unfold tJ
 refine J_d 2 [(0,1)] [0,2] [(2,pp 1)] [1] [(1,.box [rr 0 a1.Files,iv a1.Budget,iv a1.Writes,iv a1.Stop,bv a1.Down])] zB ?_
 refine zA (fun x3 h4=>?_)
 refine J_g 6 [] [(1,iv x3.1)] [(0,rE 2 (File.enc true) x3.2)] (zD 3 (vX («as»:=[rr 0 a1.Files,iv a2]) [(.tmp 6),(.tmp 7)] [27,3] false [(0,rE 2 (File.enc true) a1.Files)] [0] (.cons (.rf rfl) (.cons (.same rfl) (.nil))) (kW.ok a1.Files a2) h4 (.same rfl rfl)) zB) ?_
 refine zA (fun u5 h6=>?_)
 refine J_d 14 [] [1,4] [(4,iv x3.1)] [] [] zB ?_
 exact zN rfl
noncomputable def c27:Code:=(Tryz.f27.body).getD .skip
theorem kZ.ok (q:Wd) (kn:((List Int)×Int)→Option (D×List Ent)) (hk:∀v:((List Int)×Int),J (q.g Tryz.prog 27 1 19) c27 (atI c27 7) (St.mk' [(1,iv v.2)] [(0,rE 1 zK v.1)]) (some v) kn):
  ∀s6:((List Int)×Int×Int),J (q.g Tryz.prog 27 1 19) c27 (atI c27 52) (St.mk' [(0,rr 0 s6.1),(1,iv s6.2.1),(5,iv s6.2.2)] [(0,rE 1 zK s6.1)]) (kZ s6) kn:=by
 refine jL (fun g ih s6=>?_)
 unfold jP
 refine J_d 208 [] [9] [(9,bv (decide (s6.2.2< (s6.1.length:Int))))] [] [] zB ?_
 refine zF 9 (fun h7=>?_) (fun h7=>?_)
 ·refine zA (fun x8 h9=>?_)
  refine J_g 840 [] [(0,rr 0 s6.1),(1,iv s6.2.1),(5,iv s6.2.2)] [(0,rE 1 zK (s6.1.set s6.2.2.toNat s6.2.1))] (zD 3 (uN (kk:=.i64) 49 2 1 0 zK (.tmp 12) (.tmp 13) h9) (zGO 4 (zHY (b:=s6.2.1) 2 1 0 0 zK (iv s6.2.1) (.tmp 15) (.tmp 14) h9 rfl) zB)) ?_
  refine zFQ (σ':=St.mk' [(0,rr 0 (s6.1.set s6.2.2.toNat s6.2.1)),(1,iv s6.2.1),(5,iv s6.2.2)] [(0,rE 1 zK (s6.1.set s6.2.2.toNat s6.2.1))]) (by simp only [rr,List.length_set]) ?_
  refine J_g 841 [] [(0,rr 0 (s6.1.set s6.2.2.toNat s6.2.1)),(1,iv (w64 (s6.2.1+1))),(5,iv s6.2.2)] [(0,rE 1 zK (s6.1.set s6.2.2.toNat s6.2.1))] zB ?_
  refine J_d 211 [] [5] [(5,iv (w64 (s6.2.2+1)))] [] [] zB ?_
  exact J_q (J_b (ih (s6.1.set s6.2.2.toNat s6.2.1,w64 (s6.2.1+1),w64 (s6.2.2+1)))) rfl
 ·exact xD (hk (s6.1,s6.2.1)) rfl
theorem jJ.ok (a1:(List Int)) (a2:Int):Ok Tryz.prog 27 [rr 0 a1,iv a2] [rE 1 zK a1] ((jJ a1 a2).map fun r=>(iv r.1,[rE 1 zK r.2])):=by
 refine zG c27 Tryz.f27 1 19 (fun q=>?_)
 unfold jJ
 refine J_g 2 [] [(0,rr 0 a1),(1,iv a2)] [(0,rE 1 zK a1)] zB ?_
 refine J_d 12 [] [5] [(5,iv 0)] [] [] zB ?_
 refine zE3 (kZ.ok q _ (fun v10=>J_j ?_) (a1,a2,0))
 refine J_g 14 [] [(4,iv v10.2)] [(0,rE 1 zK v10.1)] zB ?_
 exact zN rfl
noncomputable def c28:Code:=(Tryz.f28.body).getD .skip
theorem vE.ok (a1:zI) (a2:Int):Ok Tryz.prog 28 [.ag [iv a1.Code,rr 0 a1.zC.Files,iv a1.zC.Budget,iv a1.zC.Writes,iv a1.zC.Stop,bv a1.zC.Down],iv a2] [rE 2 (File.enc true) a1.zC.Files] ((vE a1 a2).map fun r=>(iv r.1,[rE 2 (File.enc true) r.2])):=by
 refine zG c28 Tryz.f28 1 10 (fun q=>?_)
 unfold vE
 refine J_d 2 [(0,1)] [0,2] [(2,pp 1)] [1] [(1,.box [iv a1.Code,rr 0 a1.zC.Files,iv a1.zC.Budget,iv a1.zC.Writes,iv a1.zC.Stop,bv a1.zC.Down])] zB ?_
 refine zA (fun x3 h4=>?_)
 refine J_g 6 [] [(1,iv x3.1)] [(0,rE 2 (File.enc true) x3.2)] (zD 3 (vX («as»:=[.ag [rr 0 a1.zC.Files,iv a1.zC.Budget,iv a1.zC.Writes,iv a1.zC.Stop,bv a1.zC.Down],iv a2]) [(.tmp 6),(.tmp 7)] [29,3] false [(0,rE 2 (File.enc true) a1.zC.Files)] [0] (.cons (.ag (.cons (.rf rfl) (.cons (.same rfl) (.cons (.same rfl) (.cons (.same rfl) (.cons (.same rfl) (.nil))))))) (.cons (.same rfl) (.nil))) (tJ.ok a1.zC a2) h4 (.same rfl rfl)) zB) ?_
 refine zA (fun u5 h6=>?_)
 refine J_d 14 [] [1,4] [(4,iv x3.1)] [] [] zB ?_
 exact zN rfl
noncomputable def zQM:Code:=(Tryz.f186.body).getD .skip
theorem zBj.ok (a1:(List Int)) (q:Wd) (kn:Int→Option (D×List Ent)) (hk:∀v:Int,J (q.g Tryz.prog 186 0 22) zQM (atI zQM 7) (St.mk' [(1,iv v)] []) (some v) kn):
  ∀s7:(Int×Int),J (q.g Tryz.prog 186 0 22) zQM (atI zQM 52) (St.mk' [(0,sl 1 eU8 a1),(1,iv s7.1),(5,iv s7.2)] []) (zBj a1 s7) (Fl.go (fun r:Int=>some (iv r,[])) kn):=by
 refine jL (fun g ih s7=>?_)
 unfold zAF
 refine J_d 208 [] [9] [(9,bv (decide (s7.2< (a1.length:Int))))] [] [] zB ?_
 refine zF 9 (fun h8=>?_) (fun h8=>?_)
 ·refine zA (fun x9 h10=>?_)
  refine J_d 1680 [] [9,18] [(18,bv (x9 !=(IntKind.u8.wrap (s7.1))))] [] [] (zD 2 (vR (kk:=.i64) 22 5 1 eU8 (.tmp 12) (.tmp 13) h10) zB) ?_
  refine zF 18 (fun h11=>?_) (fun h11=>?_)
  ·refine J_g 6724 [] [(4,iv (-1))] [] zB ?_
   exact zN rfl
  ·refine J_g 841 [] [(0,sl 1 eU8 a1),(1,iv (w64 (s7.1+1))),(5,iv s7.2)] [] zB ?_
   refine J_d 211 [] [5] [(5,iv (w64 (s7.2+1)))] [] [] zB ?_
   exact J_q (J_b (ih (w64 (s7.1+1),w64 (s7.2+1)))) rfl
 ·exact xD (hk s7.1) rfl
theorem zAH.ok (a1:(List Int)) (a2:Int):Ok Tryz.prog 186 [sl 1 eU8 a1,iv a2] [] ((zAH a1 a2).map fun r=>(iv r,[])):=by
 refine zG zQM Tryz.f186 0 22 (fun q=>?_)
 unfold zAH
 refine J_g 2 [] [(0,sl 1 eU8 a1),(1,iv a2)] [] zB ?_
 refine J_d 12 [] [5] [(5,iv 0)] [] [] zB ?_
 refine uZ (K0:=(fun r:Int=>some (iv r,[]))) (fun _=>rfl) (zBj.ok a1 q _ (fun v12=>J_j ?_) (a2,0))
 refine J_g 14 [] [(4,iv v12)] [] zB ?_
 exact zN rfl
noncomputable def zQA:Code:=(Tryz.f129.body).getD .skip
theorem zBc.ok (a1:(List File)) (q:Wd) (kn:Int→Option (D×List Ent)) (hk:∀v:Int,J (q.g Tryz.prog 129 0 32) zQA (atI zQA 7) (St.mk' [(1,iv v)] []) (some v) kn):
  ∀s14:(Int×Int),J (q.g Tryz.prog 129 0 32) zQA (atI zQA 52) (St.mk' [(0,sl 2 (File.enc false) a1),(1,iv s14.1),(5,iv s14.2)] []) (zBc a1 s14) (Fl.go (fun r:Int=>some (iv r,[])) kn):=by
 refine jL (fun g ih s14=>?_)
 unfold zA1
 refine J_d 208 [] [9] [(9,bv (decide (s14.2< (a1.length:Int))))] [] [] zB ?_
 refine zF 9 (fun h15=>?_) (fun h15=>?_)
 ·refine zA (fun x16 h17=>?_)
  refine zA (fun x18 h19=>?_)
  refine J_d 1680 [] [9,19] [(19,bv (!(seq x16.Path x18)))] [] [] (zD 2 (vR (kk:=.i64) 27 124 2 (File.enc false) (.tmp 12) (.tmp 13) h17) (zD 6 (xR [(.tmp 17)] [3] (xY.ok s14.1) h19) zB)) ?_
  refine zF 19 (fun h20=>?_) (fun h20=>?_)
  ·refine J_g 6724 [] [(4,iv (-1))] [] zB ?_
   exact zN rfl
  ·refine J_d 1682 [] [1,19] [(1,iv (w64 (s14.1+1)))] [] [] zB ?_
   refine zA (fun x21 h22=>?_)
   refine zA (fun x23 h24=>?_)
   refine J_g 3366 [] [(0,sl 2 (File.enc false) a1),(1,iv x23),(5,iv s14.2)] [] (zD 2 (vR (kk:=.i64) 27 124 2 (File.enc false) (.tmp 22) (.tmp 23) h22) (zD 6 (xR [(.tmp 26),(.tmp 27)] [22,3] (zAH.ok x21.Data (w64 (s14.1+1))) h24) zB)) ?_
   refine J_d 6734 [] [30] [(30,bv (decide (x23<0)))] [] [] zB ?_
   refine zF 30 (fun h25=>?_) (fun h25=>?_)
   ·refine J_g 26940 [] [(4,iv (-1))] [] zB ?_
    exact zN rfl
   ·refine J_d 211 [] [5,30] [(5,iv (w64 (s14.2+1)))] [] [] zB ?_
    exact J_q (J_b (ih (x23,w64 (s14.2+1)))) rfl
 ·exact xD (hk s14.1) rfl
theorem zAS.ok (a1:(List File)) (a2:Int):Ok Tryz.prog 129 [sl 2 (File.enc false) a1,iv a2] [] ((zAS a1 a2).map fun r=>(iv r,[])):=by
 refine zG zQA Tryz.f129 0 32 (fun q=>?_)
 unfold zAS
 refine J_g 2 [] [(0,sl 2 (File.enc false) a1),(1,iv a2)] [] zB ?_
 refine J_d 12 [] [5] [(5,iv 0)] [] [] zB ?_
 refine uZ (K0:=(fun r:Int=>some (iv r,[]))) (fun _=>rfl) (zBc.ok a1 q _ (fun v26=>J_j ?_) (a2,0))
 refine J_g 14 [] [(4,iv v26)] [] zB ?_
 exact zN rfl
noncomputable def c66:Code:=(Tryz.f66.body).getD .skip
theorem zBv.ok (a1:zC) (a2:Int):Ok Tryz.prog 66 [.ag (zC.enc false a1),iv a2] [] ((zBv a1 a2).map fun r=>(iv r,[])):=by
 refine zG c66 Tryz.f66 0 12 (fun q=>?_)
 unfold zBv
 refine J_g 2 [(0,0)] [(1,iv a2),(2,pp 0)] [(0,.box (zC.enc false a1))] zB ?_
 refine zA (fun x3 h4=>?_)
 refine J_g 6 [] [(1,iv x3)] [] (zD 3 (xR [(.tmp 6),(.tmp 7)] [27,3] (zAS.ok a1.Files a2) h4) zB) ?_
 refine J_g 28 [] [(1,iv x3),(10,bv (decide (x3<0)))] [] zB ?_
 refine zF 10 (fun h5=>?_) (fun h5=>?_)
 ·refine J_g 116 [] [(4,iv (-1))] [] zB ?_
  exact zN rfl
 ·refine J_g 30 [] [(4,iv x3)] [] zB ?_
  exact zN rfl
noncomputable def c29:Code:=(Tryz.f29.body).getD .skip
theorem wO.ok (a1:zI) (a2:Int):Ok Tryz.prog 29 [.ag (zI.enc false a1),iv a2] [] ((wO a1 a2).map fun r=>(iv r,[])):=by
 refine zG c29 Tryz.f29 0 12 (fun q=>?_)
 unfold wO
 refine J_g 2 [(0,0)] [(1,iv a2),(2,pp 0)] [(0,.box (zI.enc false a1))] zB ?_
 refine zA (fun x3 h4=>?_)
 refine J_g 6 [] [(1,iv x3)] [] (zD 3 (xR [(.tmp 6),(.tmp 7)] [29,3] (zBv.ok a1.zC a2) h4) zB) ?_
 refine J_g 28 [] [(1,iv x3),(10,bv (decide (x3<0)))] [] zB ?_
 refine zF 10 (fun h5=>?_) (fun h5=>?_)
 ·refine J_g 116 [] [(4,iv (-1))] [] zB ?_
  exact zN rfl
 ·refine J_g 30 [] [(4,iv x3)] [] zB ?_
  exact zN rfl
noncomputable def c4:Code:=(Tryz.f4.body).getD .skip
theorem vD.ok (a1:(List Pack)) (a2:zC) (a3:(List Int)):Ok Tryz.prog 4 [sl 8 (Pack.enc false) a1,.ag (zC.enc false a2),sl 1 zK a3] [] ((vD a1 a2 a3).map fun r=>(bv r,[])):=by
 refine zG c4 Tryz.f4 0 113 (fun q=>?_)
 unfold vD
 refine J_g 2 [(0,0)] [(0,sl 8 (Pack.enc false) a1),(2,sl 1 zK a3),(4,pp 0)] [(0,.box (zC.enc false a2))] zB ?_
 refine J_d 12 [] [19] [(19,bv (decide ((a3.length:Int)>1048576)))] [] [] zB ?_
 refine zF 19 (fun h4=>?_) (fun h4=>?_)
 ·refine J_g 52 [] [(6,bv true)] [] zB ?_
  exact zN rfl
 ·refine J_d 14 [] [7,19] [(7,iv 1048576)] [] [] zB ?_
  refine zA (fun x5 h6=>?_)
  refine J_g 30 [] [(0,sl 8 (Pack.enc false) a1),(2,sl 1 zK a3),(4,pp 0),(7,iv x5)] [(0,.box (zC.enc false a2))] (zD 2 (xR [(.tmp 20),(.tmp 21)] [45,3] (zCi.ok a1 1048576) h6) zB) ?_
  refine J_d 124 [] [24] [(24,bv (decide (x5<0)))] [] [] zB ?_
  refine zF 24 (fun h7=>?_) (fun h7=>?_)
  ·refine J_g 500 [] [(6,bv true)] [] zB ?_
   exact zN rfl
  ·refine zA (fun x8 h9=>?_)
   refine J_g 126 [] [(0,sl 8 (Pack.enc false) a1),(2,sl 1 zK a3),(4,pp 0),(7,iv x8)] [(0,.box (zC.enc false a2))] (zD 2 (xR [(.tmp 25),(.tmp 26)] [48,3] (zDC.ok a2 x5) h9) zB) ?_
   refine J_d 508 [] [7,29] [(29,bv (decide (x8<0)))] [] [] zB ?_
   refine zF 29 (fun h10=>?_) (fun h10=>?_)
   ·refine J_g 2036 [] [(6,bv true)] [] zB ?_
    exact zN rfl
   ·refine zA (fun x11 h12=>?_)
    refine zA (fun x13 h14=>?_)
    refine zA (fun x15 h16=>?_)
    refine zA (fun x17 h18=>?_)
    refine J_d 510 [(7,5)] [8,29] [(8,pp 5)] [4,5] [(4,rE 2 (File.enc false) x17.zC.Files),(5,.box [iv x17.Code,rr 4 x17.zC.Files,iv x17.zC.Budget,iv x17.zC.Writes,iv x17.zC.Stop,bv x17.zC.Down])] (zD 1 (zRt (d2:=sl 8 (Pack.enc false) x11) (vX («as»:=[sl 8 (Pack.enc false) a1]) [(.tmp 30)] [45] false [] [] (.cons (.same rfl) (.nil)) (vW.ok a1) h12 (.own 1)) (.rf (Nat.le_of_eq (by simp)) (zHl (enc:=(Pack.enc true)) (enc':=(Pack.enc false)) (Pack.ro true) x11 rfl rfl))) (zD 3 (zRt (d2:=.ag (zC.enc false x13)) (vX («as»:=[.ag (zC.enc false a2)]) [(.tmp 32)] [48] false [] [] (.cons (.same rfl) (.nil)) (uS.ok a2) h14 (.ag (.cons (.own 2) (.cons (.same rfl rfl) (.cons (.same rfl rfl) (.cons (.same rfl rfl) (.cons (.same rfl rfl) (.nil)))))))) (.ag (.cons (.rf (Nat.le_of_eq (by simp)) (zHl (enc:=(File.enc true)) (enc':=(File.enc false)) (File.ro true) x13.Files rfl rfl)) (.cons (.keep rfl) (.cons (.keep rfl) (.cons (.keep rfl) (.cons (.keep rfl) (.nil)))))))) (zD 5 (zRt (d2:=sl 1 zK x15) (vX («as»:=[sl 1 zK a3]) [(.tmp 34)] [49] false [] [] (.cons (.same rfl) (.nil)) (wY.ok a3) h16 (.own 3)) (.rf (Nat.le_of_eq (by simp)) (zHl (enc:=zK) (enc':=zK) (fun _=>rfl) x15 rfl rfl))) (zD 6 (vX («as»:=[sl 8 (Pack.enc false) x11,.ag (zC.enc false x13),sl 1 zK x15]) [(.tmp 31),(.tmp 33),(.tmp 35)] [53,29,49] false [] [] (.cons (.same rfl) (.cons (.same rfl) (.cons (.same rfl) (.nil)))) (zAE.ok x11 x13 x15) h18 (.ag (.cons (.same rfl rfl) (.cons (.own 4) (.cons (.same rfl rfl) (.cons (.same rfl rfl) (.cons (.same rfl rfl) (.cons (.same rfl rfl) (.nil))))))))) zB)))) ?_
    refine zA (fun x19 h20=>?_)
    refine J_d 1022 [] [9] [(9,rr 6 x19)] [6] [(6,rE 8 (Pack.enc true) x19)] (zD 1 (vX («as»:=[sl 8 (Pack.enc false) a1]) [(.tmp 37)] [45] false [] [] (.cons (.same rfl) (.nil)) (vW.ok a1) h20 (.own 6)) zB) ?_
    refine zA (fun x21 h22=>?_)
    refine J_d 2046 [(2,8)] [10] [(10,pp 8)] [7,8] [(7,rE 2 (File.enc true) x21.Files),(8,.box [rr 7 x21.Files,iv x21.Budget,iv x21.Writes,iv x21.Stop,bv x21.Down])] (zD 1 (vX («as»:=[.ag (zC.enc false a2)]) [(.tmp 39)] [48] false [] [] (.cons (.same rfl) (.nil)) (uS.ok a2) h22 (.ag (.cons (.own 7) (.cons (.same rfl rfl) (.cons (.same rfl rfl) (.cons (.same rfl rfl) (.cons (.same rfl rfl) (.nil)))))))) zB) ?_
    refine zA (fun x23 h24=>?_)
    refine J_d 4094 [] [11] [(11,rr 9 x23)] [9] [(9,rE 1 zK x23)] (zD 1 (vX («as»:=[sl 1 zK a3]) [(.tmp 41)] [49] false [] [] (.cons (.same rfl) (.nil)) (wY.ok a3) h24 (.own 9)) zB) ?_
    refine zA (fun x25 h26=>?_)
    refine J_d 8190 [(4,11)] [12] [(12,pp 11)] [10,11] [(10,rE 2 (File.enc true) x25.zC.Files),(11,.box [iv x25.Code,rr 10 x25.zC.Files,iv x25.zC.Budget,iv x25.zC.Writes,iv x25.zC.Stop,bv x25.zC.Down])] (zD 3 (vX («as»:=[rr 6 x19,.ag [rr 7 x21.Files,iv x21.Budget,iv x21.Writes,iv x21.Stop,bv x21.Down],rr 9 x23]) [(.tmp 43),(.tmp 44),(.tmp 45)] [53,29,49] true [(6,rE 8 (Pack.enc true) x19),(7,rE 2 (File.enc true) x21.Files),(9,rE 1 zK x23)] [] (.cons (zFA (.head _) (Pack.ro true) rfl) (.cons (.ag (.cons (zFA (.tail _ (.head _)) (File.ro true) rfl) (.cons (.same rfl) (.cons (.same rfl) (.cons (.same rfl) (.cons (.same rfl) (.nil))))))) (.cons (zFA (.tail _ (.tail _ (.head _))) (fun _=>rfl) rfl) (.nil)))) (tN.ok x19 x21 x23) h26 (.ag (.cons (.same rfl rfl) (.cons (.own 10) (.cons (.same rfl rfl) (.cons (.same rfl rfl) (.cons (.same rfl rfl) (.cons (.same rfl rfl) (.nil)))))))) (hbor:=fun _=>⟨fhN,(zNx (zI.fl _))⟩)) zB) ?_
    refine zA (fun x27 h28=>?_)
    refine J_d 32764 [] [50] [(50,bv (!x27))] [] [] (zD 2 (vX («as»:=[.ag [iv x25.Code,rr 10 x25.zC.Files,iv x25.zC.Budget,iv x25.zC.Writes,iv x25.zC.Stop,bv x25.zC.Down],.ag [iv x17.Code,rr 4 x17.zC.Files,iv x17.zC.Budget,iv x17.zC.Writes,iv x17.zC.Stop,bv x17.zC.Down]]) [(.tmp 47),(.tmp 48)] [31,31] true [(10,rE 2 (File.enc true) x25.zC.Files),(4,rE 2 (File.enc false) x17.zC.Files)] [] (.cons (.ag (.cons (.same rfl) (.cons (zFA (.head _) (File.ro true) rfl) (.cons (.same rfl) (.cons (.same rfl) (.cons (.same rfl) (.cons (.same rfl) (.nil)))))))) (.cons (.ag (.cons (.same rfl) (.cons (zFA (.tail _ (.head _)) (File.ro false) rfl) (.cons (.same rfl) (.cons (.same rfl) (.cons (.same rfl) (.cons (.same rfl) (.nil)))))))) (.nil))) (wG.ok x25 x17) h28 (.same rfl rfl) (hbor:=fun _=>⟨fhN,xQ⟩)) zB) ?_
    refine zF 50 (fun h29=>?_) (fun h29=>?_)
    ·refine J_g 131060 [] [(6,bv false)] [] zB ?_
     exact zN rfl
    ·refine zA (fun x30 h31=>?_)
     refine zA (fun x32 h33=>?_)
     refine J_d 65532 [] [50,55] [(55,bv (!x32))] [] [] (zD 2 (vX («as»:=[sl 8 (Pack.enc false) a1]) [(.tmp 52)] [45] false [] [] (.cons (.same rfl) (.nil)) (vW.ok a1) h31 (.own 12)) (zD 3 (vX («as»:=[rr 6 x19,rr 12 x30]) [(.tmp 51),(.tmp 53)] [53,53] true [(6,rE 8 (Pack.enc true) x19),(12,rE 8 (Pack.enc true) x30)] [] (.cons (zFA (.head _) (Pack.ro true) rfl) (.cons (zFA (.tail _ (.head _)) (Pack.ro true) rfl) (.nil))) (zC6.ok x19 x30) h33 (.same rfl rfl) (hbor:=fun _=>⟨fhN,xQ⟩)) zB)) ?_
     refine zF 55 (fun h34=>?_) (fun h34=>?_)
     ·refine J_g 262132 [] [(6,bv false)] [] zB ?_
      exact zN rfl
     ·refine zA (fun x35 h36=>?_)
      refine zA (fun x37 h38=>?_)
      refine J_d 131068 [] [55,60] [(60,bv (!x37))] [] [] (zD 2 (vX («as»:=[.ag (zC.enc false a2)]) [(.tmp 57)] [48] false [] [] (.cons (.same rfl) (.nil)) (uS.ok a2) h36 (.ag (.cons (.own 12) (.cons (.same rfl rfl) (.cons (.same rfl rfl) (.cons (.same rfl rfl) (.cons (.same rfl rfl) (.nil)))))))) (zD 3 (vX («as»:=[.ag [rr 7 x21.Files,iv x21.Budget,iv x21.Writes,iv x21.Stop,bv x21.Down],.ag [rr 12 x35.Files,iv x35.Budget,iv x35.Writes,iv x35.Stop,bv x35.Down]]) [(.tmp 56),(.tmp 58)] [29,29] true [(7,rE 2 (File.enc true) x21.Files),(12,rE 2 (File.enc true) x35.Files)] [] (.cons (.ag (.cons (zFA (.head _) (File.ro true) rfl) (.cons (.same rfl) (.cons (.same rfl) (.cons (.same rfl) (.cons (.same rfl) (.nil))))))) (.cons (.ag (.cons (zFA (.tail _ (.head _)) (File.ro true) rfl) (.cons (.same rfl) (.cons (.same rfl) (.cons (.same rfl) (.cons (.same rfl) (.nil))))))) (.nil))) (zB1.ok x21 x35) h38 (.same rfl rfl) (hbor:=fun _=>⟨fhN,xQ⟩)) zB)) ?_
      refine zF 60 (fun h39=>?_) (fun h39=>?_)
      ·refine J_g 524276 [] [(6,bv false)] [] zB ?_
       exact zN rfl
      ·refine zA (fun x40 h41=>?_)
       refine zA (fun x42 h43=>?_)
       refine J_d 262140 [] [60,65] [(65,bv (!x42))] [] [] (zD 2 (vX («as»:=[sl 1 zK a3]) [(.tmp 62)] [49] false [] [] (.cons (.same rfl) (.nil)) (wY.ok a3) h41 (.own 12)) (zD 3 (vX («as»:=[rr 9 x23,rr 12 x40]) [(.tmp 61),(.tmp 63)] [49,49] true [(9,rE 1 zK x23),(12,rE 1 zK x40)] [] (.cons (zFA (.head _) (fun _=>rfl) rfl) (.cons (zFA (.tail _ (.head _)) (fun _=>rfl) rfl) (.nil))) (zB0.ok x23 x40) h43 (.same rfl rfl) (hbor:=fun _=>⟨fhN,xQ⟩)) zB)) ?_
       refine zF 65 (fun h44=>?_) (fun h44=>?_)
       ·refine J_g 1048564 [] [(6,bv false)] [] zB ?_
        exact zN rfl
       ·refine J_d 262142 [] [13,65] [(13,iv 1)] [] [] zB ?_
        refine zA (fun x45 h46=>?_)
        refine J_g 524286 [] [(0,sl 8 (Pack.enc false) a1),(2,sl 1 zK a3),(4,pp 0),(8,pp 5),(10,pp 8),(11,rr 9 x23),(12,pp 11),(13,iv x45.1)] [(0,.box (zC.enc false a2)),(4,rE 2 (File.enc false) x17.zC.Files),(5,.box [iv x17.Code,rr 4 x17.zC.Files,iv x17.zC.Budget,iv x17.zC.Writes,iv x17.zC.Stop,bv x17.zC.Down]),(7,rE 2 (File.enc true) x21.Files),(8,.box [rr 7 x21.Files,iv x21.Budget,iv x21.Writes,iv x21.Stop,bv x21.Down]),(9,rE 1 zK x23),(10,rE 2 (File.enc true) x25.zC.Files),(11,.box [iv x25.Code,rr 10 x25.zC.Files,iv x25.zC.Budget,iv x25.zC.Writes,iv x25.zC.Stop,bv x25.zC.Down])] (zD 2 (vX («as»:=[rr 6 x19,iv 1]) [(.tmp 66),(.tmp 67)] [53,3] false [(6,rE 8 (Pack.enc true) x19)] [6] (.cons (.rf rfl) (.cons (.same rfl) (.nil))) (kX.ok x19 1) h46 (.same rfl rfl)) zB) ?_
        refine zA (fun x47 h48=>?_)
        refine J_g 1048574 [] [(0,sl 8 (Pack.enc false) a1),(2,sl 1 zK a3),(4,pp 0),(8,pp 5),(11,rr 9 x23),(12,pp 11),(13,iv x47.1)] [(0,.box (zC.enc false a2)),(4,rE 2 (File.enc false) x17.zC.Files),(5,.box [iv x17.Code,rr 4 x17.zC.Files,iv x17.zC.Budget,iv x17.zC.Writes,iv x17.zC.Stop,bv x17.zC.Down]),(9,rE 1 zK x23),(10,rE 2 (File.enc true) x25.zC.Files),(11,.box [iv x25.Code,rr 10 x25.zC.Files,iv x25.zC.Budget,iv x25.zC.Writes,iv x25.zC.Stop,bv x25.zC.Down])] (zD 2 (vX («as»:=[.ag [rr 7 x21.Files,iv x21.Budget,iv x21.Writes,iv x21.Stop,bv x21.Down],iv x45.1]) [(.tmp 69),(.tmp 70)] [29,3] false [(7,rE 2 (File.enc true) x21.Files)] [7] (.cons (.ag (.cons (.rf rfl) (.cons (.same rfl) (.cons (.same rfl) (.cons (.same rfl) (.cons (.same rfl) (.nil))))))) (.cons (.same rfl) (.nil))) (tJ.ok x21 x45.1) h48 (.same rfl rfl)) zB) ?_
        refine zA (fun x49 h50=>?_)
        refine J_g 2097150 [] [(0,sl 8 (Pack.enc false) a1),(2,sl 1 zK a3),(4,pp 0),(8,pp 5),(12,pp 11),(13,iv x49.1)] [(0,.box (zC.enc false a2)),(4,rE 2 (File.enc false) x17.zC.Files),(5,.box [iv x17.Code,rr 4 x17.zC.Files,iv x17.zC.Budget,iv x17.zC.Writes,iv x17.zC.Stop,bv x17.zC.Down]),(10,rE 2 (File.enc true) x25.zC.Files),(11,.box [iv x25.Code,rr 10 x25.zC.Files,iv x25.zC.Budget,iv x25.zC.Writes,iv x25.zC.Stop,bv x25.zC.Down])] (zD 2 (vX («as»:=[rr 9 x23,iv x47.1]) [(.tmp 72),(.tmp 73)] [49,3] false [(9,rE 1 zK x23)] [9] (.cons (.rf rfl) (.cons (.same rfl) (.nil))) (jJ.ok x23 x47.1) h50 (.same rfl rfl)) zB) ?_
        refine wB (atI c4 8388605) (fun v54:Bool=>St.mk' [(0,sl 8 (Pack.enc false) a1),(2,sl 1 zK a3),(4,pp 0),(8,pp 5),(12,pp 11),(82,bv v54)] [(0,.box (zC.enc false a2)),(4,rE 2 (File.enc false) x17.zC.Files),(5,.box [iv x17.Code,rr 4 x17.zC.Files,iv x17.zC.Budget,iv x17.zC.Writes,iv x17.zC.Stop,bv x17.zC.Down]),(10,rE 2 (File.enc true) x25.zC.Files),(11,.box [iv x25.Code,rr 10 x25.zC.Files,iv x25.zC.Budget,iv x25.zC.Writes,iv x25.zC.Stop,bv x25.zC.Down])]) (fun v54=>?_) (fun jv54=>?_)
        ·refine zF 82 (fun h55=>?_) (fun h55=>?_)
         ·refine J_g 33554420 [] [(6,bv false)] [] zB ?_
          exact zN rfl
         ·refine J_d 8388606 [] [14,82] [(14,iv 1)] [] [] zB ?_
          refine zA (fun x56 h57=>?_)
          refine J_g 16777214 [] [(0,sl 8 (Pack.enc false) a1),(2,sl 1 zK a3),(4,pp 0),(8,pp 5),(12,pp 11),(14,iv x56.1)] [(0,.box (zC.enc false a2)),(4,rE 2 (File.enc false) x17.zC.Files),(5,.box [iv x17.Code,rr 4 x17.zC.Files,iv x17.zC.Budget,iv x17.zC.Writes,iv x17.zC.Stop,bv x17.zC.Down]),(10,rE 2 (File.enc true) x56.2),(11,.box [iv x25.Code,rr 10 x25.zC.Files,iv x25.zC.Budget,iv x25.zC.Writes,iv x25.zC.Stop,bv x25.zC.Down])] (zD 2 (vX («as»:=[.ag [iv x25.Code,rr 10 x25.zC.Files,iv x25.zC.Budget,iv x25.zC.Writes,iv x25.zC.Stop,bv x25.zC.Down],iv 1]) [(.tmp 83),(.tmp 84)] [31,3] false [(10,rE 2 (File.enc true) x25.zC.Files)] [10] (.cons (.ag (.cons (.same rfl) (.cons (.rf rfl) (.cons (.same rfl) (.cons (.same rfl) (.cons (.same rfl) (.cons (.same rfl) (.nil)))))))) (.cons (.same rfl) (.nil))) (vE.ok x25 1) h57 (.same rfl rfl)) zB) ?_
          refine zA (fun u58 h59=>?_)
          refine zFQ (σ':=St.mk' [(0,sl 8 (Pack.enc false) a1),(2,sl 1 zK a3),(4,pp 0),(8,pp 5),(12,pp 11),(14,iv x56.1)] [(0,.box (zC.enc false a2)),(4,rE 2 (File.enc false) x17.zC.Files),(5,.box [iv x17.Code,rr 4 x17.zC.Files,iv x17.zC.Budget,iv x17.zC.Writes,iv x17.zC.Stop,bv x17.zC.Down]),(10,rE 2 (File.enc true) x56.2),(11,.box [iv x25.Code,rr 10 x56.2,iv x25.zC.Budget,iv x25.zC.Writes,iv x25.zC.Stop,bv x25.zC.Down])]) (by simp only [rr,zDQ h59]) ?_
          refine J_d 33554430 [] [15] [(15,iv 1)] [] [] zB ?_
          refine zA (fun x60 h61=>?_)
          refine J_g 67108862 [] [(0,sl 8 (Pack.enc false) a1),(2,sl 1 zK a3),(4,pp 0),(8,pp 5),(12,pp 11),(14,iv x56.1),(15,iv x60)] [(0,.box (zC.enc false a2)),(4,rE 2 (File.enc false) x17.zC.Files),(5,.box [iv x17.Code,rr 4 x17.zC.Files,iv x17.zC.Budget,iv x17.zC.Writes,iv x17.zC.Stop,bv x17.zC.Down]),(10,rE 2 (File.enc true) x56.2),(11,.box [iv x25.Code,rr 10 x56.2,iv x25.zC.Budget,iv x25.zC.Writes,iv x25.zC.Stop,bv x25.zC.Down])] (zD 2 (vX («as»:=[.ag [iv x25.Code,rr 10 x56.2,iv x25.zC.Budget,iv x25.zC.Writes,iv x25.zC.Stop,bv x25.zC.Down],iv 1]) [(.tmp 86),(.tmp 87)] [31,3] true [(10,rE 2 (File.enc true) x56.2)] [] (.cons (.ag (.cons (.same rfl) (.cons (zFA (.head _) (File.ro true) rfl) (.cons (.same rfl) (.cons (.same rfl) (.cons (.same rfl) (.cons (.same rfl) (.nil)))))))) (.cons (.same rfl) (.nil))) (wO.ok ({Code:=x25.Code,zC:=({Files:=x56.2,Budget:=x25.zC.Budget,Writes:=x25.zC.Writes,Stop:=x25.zC.Stop,Down:=x25.zC.Down}:zC)}:zI) 1) h61 (.same rfl rfl) (hbor:=fun _=>⟨fhN,xQ⟩)) zB) ?_
          refine J_d 268435452 [] [90] [(90,bv (decide (x60<0)))] [] [] zB ?_
          refine zF 90 (fun h62=>?_) (fun h62=>?_)
          ·refine J_g 1073741812 [] [(6,bv false)] [] zB ?_
           exact zN rfl
          ·refine J_d 536870908 [] [15,90,93] [(93,bv (x60 !=x56.1))] [] [] zB ?_
           refine zF 93 (fun h63=>?_) (fun h63=>?_)
           ·refine J_g 2147483636 [] [(6,bv false)] [] zB ?_
            exact zN rfl
           ·refine zA (fun x64 h65=>?_)
            refine zA (fun x66 h67=>?_)
            refine zA (fun x68 h69=>?_)
            refine zA (fun x70 h71=>?_)
            refine J_d 536870910 [(7,16)] [0,2,4,16,93] [(16,pp 16)] [0,15,16] [(15,rE 2 (File.enc true) x70.zC.Files),(16,.box [iv x70.Code,rr 15 x70.zC.Files,iv x70.zC.Budget,iv x70.zC.Writes,iv x70.zC.Stop,bv x70.zC.Down])] (zD 1 (vX («as»:=[sl 8 (Pack.enc false) a1]) [(.tmp 94)] [45] false [] [] (.cons (.same rfl) (.nil)) (vW.ok a1) h65 (.own 12)) (zD 3 (vX («as»:=[.ag (zC.enc false a2)]) [(.tmp 96)] [48] false [] [] (.cons (.same rfl) (.nil)) (uS.ok a2) h67 (.ag (.cons (.own 13) (.cons (.same rfl rfl) (.cons (.same rfl rfl) (.cons (.same rfl rfl) (.cons (.same rfl rfl) (.nil)))))))) (zD 5 (vX («as»:=[sl 1 zK a3]) [(.tmp 98)] [49] false [] [] (.cons (.same rfl) (.nil)) (wY.ok a3) h69 (.own 14)) (zD 6 (vX («as»:=[rr 12 x64,.ag [rr 13 x66.Files,iv x66.Budget,iv x66.Writes,iv x66.Stop,bv x66.Down],rr 14 x68]) [(.tmp 95),(.tmp 97),(.tmp 99)] [53,29,49] true [(12,rE 8 (Pack.enc true) x64),(13,rE 2 (File.enc true) x66.Files),(14,rE 1 zK x68)] [] (.cons (zFA (.head _) (Pack.ro true) rfl) (.cons (.ag (.cons (zFA (.tail _ (.head _)) (File.ro true) rfl) (.cons (.same rfl) (.cons (.same rfl) (.cons (.same rfl) (.cons (.same rfl) (.nil))))))) (.cons (zFA (.tail _ (.tail _ (.head _))) (fun _=>rfl) rfl) (.nil)))) (tN.ok x64 x66 x68) h71 (.ag (.cons (.same rfl rfl) (.cons (.own 15) (.cons (.same rfl rfl) (.cons (.same rfl rfl) (.cons (.same rfl rfl) (.cons (.same rfl rfl) (.nil)))))))) (hbor:=fun _=>⟨fhN,(zNx (zI.fl _))⟩)) zB)))) ?_
            refine zA (fun x72 h73=>?_)
            refine J_d 2147483644 [] [8,16,104] [(104,bv (!x72))] [4,5,15,16] [] (zD 2 (vX («as»:=[.ag [iv x70.Code,rr 15 x70.zC.Files,iv x70.zC.Budget,iv x70.zC.Writes,iv x70.zC.Stop,bv x70.zC.Down],.ag [iv x17.Code,rr 4 x17.zC.Files,iv x17.zC.Budget,iv x17.zC.Writes,iv x17.zC.Stop,bv x17.zC.Down]]) [(.tmp 101),(.tmp 102)] [31,31] true [(15,rE 2 (File.enc true) x70.zC.Files),(4,rE 2 (File.enc false) x17.zC.Files)] [] (.cons (.ag (.cons (.same rfl) (.cons (zFA (.head _) (File.ro true) rfl) (.cons (.same rfl) (.cons (.same rfl) (.cons (.same rfl) (.cons (.same rfl) (.nil)))))))) (.cons (.ag (.cons (.same rfl) (.cons (zFA (.tail _ (.head _)) (File.ro false) rfl) (.cons (.same rfl) (.cons (.same rfl) (.cons (.same rfl) (.cons (.same rfl) (.nil)))))))) (.nil))) (wG.ok x70 x17) h73 (.same rfl rfl) (hbor:=fun _=>⟨fhN,xQ⟩)) zB) ?_
            refine zF 104 (fun h74=>?_) (fun h74=>?_)
            ·refine J_g 8589934580 [] [(6,bv false)] [] zB ?_
             exact zN rfl
            ·refine J_d 2147483646 [] [15,104] [(15,iv 1)] [] [] zB ?_
             refine zA (fun x75 h76=>?_)
             refine J_g 4294967294 [] [(14,iv x56.1),(15,iv x75)] [] (zD 2 (vX («as»:=[.ag [iv x25.Code,rr 10 x56.2,iv x25.zC.Budget,iv x25.zC.Writes,iv x25.zC.Stop,bv x25.zC.Down],iv 1]) [(.tmp 105),(.tmp 106)] [31,3] true [(10,rE 2 (File.enc true) x56.2)] [] (.cons (.ag (.cons (.same rfl) (.cons (zFA (.head _) (File.ro true) rfl) (.cons (.same rfl) (.cons (.same rfl) (.cons (.same rfl) (.cons (.same rfl) (.nil)))))))) (.cons (.same rfl) (.nil))) (wO.ok ({Code:=x25.Code,zC:=({Files:=x56.2,Budget:=x25.zC.Budget,Writes:=x25.zC.Writes,Stop:=x25.zC.Stop,Down:=x25.zC.Down}:zC)}:zI) 1) h76 (.same rfl rfl) (hbor:=fun _=>⟨fhN,xQ⟩)) zB) ?_
             refine J_d 17179869180 [] [109] [(109,bv (decide (x75<0)))] [] [] zB ?_
             refine zF 109 (fun h77=>?_) (fun h77=>?_)
             ·refine J_g 68719476724 [] [(6,bv false)] [] zB ?_
              exact zN rfl
             ·refine J_g 34359738364 [] [(112,bv (x75 !=x56.1))] [] zB ?_
              refine zF 112 (fun h78=>?_) (fun h78=>?_)
              ·refine J_g 137438953460 [] [(6,bv false)] [] zB ?_
               exact zN rfl
              ·refine J_g 34359738366 [] [(6,bv true)] [] zB ?_
               exact zN rfl
        ·refine wL (fun h51=>?_) (fun h51=>?_)
         ·refine J_d 8388604 [] [13,82] [(82,bv true)] [] [] (xX 2 [(76,bv (decide (x49.1<0)))] [] h51 zB) ?_
          exact xD (J_j (jv54 true)) rfl
         ·refine zA (fun x52 h53=>?_)
          refine J_d 8388604 [] [13,82] [(82,bv (!x52))] [] [] (xX 2 [(76,bv (decide (x49.1<0)))] [] h51 (zBV 5 2 77 false (vX («as»:=[.ag [iv x25.Code,rr 10 x25.zC.Files,iv x25.zC.Budget,iv x25.zC.Writes,iv x25.zC.Stop,bv x25.zC.Down],.ag [iv x17.Code,rr 4 x17.zC.Files,iv x17.zC.Budget,iv x17.zC.Writes,iv x17.zC.Stop,bv x17.zC.Down]]) [(.tmp 78),(.tmp 79)] [31,31] true [(10,rE 2 (File.enc true) x25.zC.Files),(4,rE 2 (File.enc false) x17.zC.Files)] [] (.cons (.ag (.cons (.same rfl) (.cons (zFA (.head _) (File.ro true) rfl) (.cons (.same rfl) (.cons (.same rfl) (.cons (.same rfl) (.cons (.same rfl) (.nil)))))))) (.cons (.ag (.cons (.same rfl) (.cons (zFA (.tail _ (.head _)) (File.ro false) rfl) (.cons (.same rfl) (.cons (.same rfl) (.cons (.same rfl) (.cons (.same rfl) (.nil)))))))) (.nil))) (wG.ok x25 x17) h53 (.same rfl rfl) (hbor:=fun _=>⟨fhN,xQ⟩)) zB)) ?_
          exact xD (J_j (jv54 (!x52))) rfl
end Go.Told

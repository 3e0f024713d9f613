import Derived.Test.YtobkkecdnlecgaaGreatDoorOkCollectGensx1
set_option linter.unusedVariables false
set_option maxRecDepth 4000
namespace Go.Told
open Go Go.Im Go.Proofs
theorem zHJ.ok (a1:zC) (a2:ByteArray):Ok Tryz.prog 59 [pp 0,sv a2] [.box [so 2 (File.enc false) a1.Files,iv a1.Budget,iv a1.Writes,iv a1.Stop,bv a1.Down]] ((zBv a1 a2).map fun r=>(bv r.1,[.box [so 2 (File.enc false) r.2.Files,iv r.2.Budget,iv r.2.Writes,iv r.2.Stop,bv r.2.Down]])):=by
 refine zH c59 Tryz.f59 1 31 (fun q=>?_)
 unfold zBv
 refine yU 0 (cs':=[rr 1 a1.Files,iv a1.Budget,iv a1.Writes,iv a1.Stop,bv a1.Down]) (es:=[(1,rE 2 (File.enc false) a1.Files)]) rfl (.cons (.own 1) (.cons (.same rfl rfl) (.cons (.same rfl rfl) (.cons (.same rfl rfl) (.cons (.same rfl rfl) (.nil)))))) rfl (by kernel_rfl) (by kernel_rfl) ?_
 refine vS [(0,pp 0),(1,sv a2)] [(0,.box [rr 1 a1.Files,iv a1.Budget,iv a1.Writes,iv a1.Stop,bv a1.Down]),(1,rE 2 (File.enc false) a1.Files)] (by kernel_rfl) ?_
 refine J_g 2 [] [(0,pp 0),(1,sv a2)] [(0,.box [rr 1 a1.Files,iv a1.Budget,iv a1.Writes,iv a1.Stop,bv a1.Down]),(1,rE 2 (File.enc false) a1.Files)] zB ?_
 refine xG 0 (cs':=[so 2 (File.enc false) a1.Files,iv a1.Budget,iv a1.Writes,iv a1.Stop,bv a1.Down]) (ts:=[1]) rfl (.move (.head _) (List.length_map _) (by decide) (.keep rfl (.keep rfl (.keep rfl (.keep rfl (.nil)))))) ?_
 refine vS [(0,pp 0),(1,sv a2)] [(0,.box [so 2 (File.enc false) a1.Files,iv a1.Budget,iv a1.Writes,iv a1.Stop,bv a1.Down])] (by kernel_rfl) ?_
 refine zA (fun x3 h4=>?_)
 refine J_g 12 [] [(0,pp 0),(1,sv a2),(8,bv (!x3.1))] [(0,.box [so 2 (File.enc false) x3.2.Files,iv x3.2.Budget,iv x3.2.Writes,iv x3.2.Stop,bv x3.2.Down])] (zD 1 (wG («as»:=[pp 0]) [(.tmp 6)] [72] false [(0,.box [so 2 (File.enc false) a1.Files,iv a1.Budget,iv a1.Writes,iv a1.Stop,bv a1.Down])] [0] (.cons (.pt rfl) (.nil)) (zIC.ok a1) h4 (.same rfl rfl)) zB) ?_
 refine yU 0 (cs':=[rr 1 x3.2.Files,iv x3.2.Budget,iv x3.2.Writes,iv x3.2.Stop,bv x3.2.Down]) (es:=[(1,rE 2 (File.enc false) x3.2.Files)]) rfl (.cons (.own 1) (.cons (.same rfl rfl) (.cons (.same rfl rfl) (.cons (.same rfl rfl) (.cons (.same rfl rfl) (.nil)))))) rfl (by kernel_rfl) (by kernel_rfl) ?_
 refine vS [(0,pp 0),(1,sv a2),(8,bv (!x3.1))] [(0,.box [rr 1 x3.2.Files,iv x3.2.Budget,iv x3.2.Writes,iv x3.2.Stop,bv x3.2.Down]),(1,rE 2 (File.enc false) x3.2.Files)] (by kernel_rfl) ?_
 refine zF 8 (fun h5=>?_) (fun h5=>?_)
 ·refine J_g 52 [] [(4,bv false)] [(0,.box [rr 1 x3.2.Files,iv x3.2.Budget,iv x3.2.Writes,iv x3.2.Stop,bv x3.2.Down]),(1,rE 2 (File.enc false) x3.2.Files)] zB ?_
  refine xG 0 (cs':=[so 2 (File.enc false) x3.2.Files,iv x3.2.Budget,iv x3.2.Writes,iv x3.2.Stop,bv x3.2.Down]) (ts:=[1]) rfl (.move (.head _) (List.length_map _) (by decide) (.keep rfl (.keep rfl (.keep rfl (.keep rfl (.nil)))))) ?_
  refine vS [(4,bv false)] [(0,.box [so 2 (File.enc false) x3.2.Files,iv x3.2.Budget,iv x3.2.Writes,iv x3.2.Stop,bv x3.2.Down])] (by kernel_rfl) ?_
  exact zR rfl
 ·refine xG 0 (cs':=[so 2 (File.enc false) x3.2.Files,iv x3.2.Budget,iv x3.2.Writes,iv x3.2.Stop,bv x3.2.Down]) (ts:=[1]) rfl (.move (.head _) (List.length_map _) (by decide) (.keep rfl (.keep rfl (.keep rfl (.keep rfl (.nil)))))) ?_
  refine vS [(0,pp 0),(1,sv a2),(8,bv false)] [(0,.box [so 2 (File.enc false) x3.2.Files,iv x3.2.Budget,iv x3.2.Writes,iv x3.2.Stop,bv x3.2.Down])] (by kernel_rfl) ?_
  refine zA (fun x6 h7=>?_)
  refine J_g 14 [] [(0,pp 0),(5,iv x6)] [(0,.box [so 2 (File.enc false) x3.2.Files,iv x3.2.Budget,iv x3.2.Writes,iv x3.2.Stop,bv x3.2.Down])] (zD 2 (zFL [(0,.box [so 2 (File.enc false) x3.2.Files,iv x3.2.Budget,iv x3.2.Writes,iv x3.2.Stop,bv x3.2.Down])] [] (wG («as»:=[pp 0,sv a2]) [(.tmp 9),(.tmp 10)] [72,9] false [(0,.box [so 2 (File.enc false) x3.2.Files,iv x3.2.Budget,iv x3.2.Writes,iv x3.2.Stop,bv x3.2.Down])] [0] (.cons (.pt rfl) (.cons (.same rfl) (.nil))) (zH9.ok x3.2 a2) h7 (.same rfl rfl))) zB) ?_
  refine yU 0 (cs':=[rr 1 x3.2.Files,iv x3.2.Budget,iv x3.2.Writes,iv x3.2.Stop,bv x3.2.Down]) (es:=[(1,rE 2 (File.enc false) x3.2.Files)]) rfl (.cons (.own 1) (.cons (.same rfl rfl) (.cons (.same rfl rfl) (.cons (.same rfl rfl) (.cons (.same rfl rfl) (.nil)))))) rfl (by kernel_rfl) (by kernel_rfl) ?_
  refine vS [(0,pp 0),(5,iv x6)] [(0,.box [rr 1 x3.2.Files,iv x3.2.Budget,iv x3.2.Writes,iv x3.2.Stop,bv x3.2.Down]),(1,rE 2 (File.enc false) x3.2.Files)] (by kernel_rfl) ?_
  refine zA (fun x8 h9=>?_)
  refine zA (fun x10 h11=>?_)
  refine zA (fun x12 h13=>?_)
  refine zA (fun x14 h15=>?_)
  refine J_g 30 [] [] [(0,.box [rr 4 x14,iv x3.2.Budget,iv x3.2.Writes,iv x3.2.Stop,bv x3.2.Down]),(4,rE 2 (File.enc false) x14)] (zD 1 (zDM 31 138 2 2 (File.enc false) ([]:List File) [] [] []) (zD 7 (zII 31 138 2 1 (File.enc false) (.tmp 17) none (some (.tmp 18)) h9) (zD 8 (zN7 (ys:=x3.2.Files) (l:=0) (hi:=x6) 31 31 138 138 2 40 3 2 1 (File.enc false) (.tmp 13) (.tmp 19) h9 h11) (zD 15 (zII 31 138 2 1 (File.enc false) (.tmp 24) (some (.tmp 26)) none h13) (zD 16 (zN7 (ys:=x3.2.Files) (l:=w64 (x6+1)) (hi:=(x3.2.Files.length:Int)) 31 31 138 138 2 40 4 3 1 (File.enc false) (.tmp 20) (.tmp 27) h13 h15) zB))))) ?_
  refine J_g 62 [] [(4,bv true)] [(0,.box [rr 4 x14,iv x3.2.Budget,iv x3.2.Writes,iv x3.2.Stop,bv x3.2.Down]),(4,rE 2 (File.enc false) x14)] zB ?_
  refine xG 0 (cs':=[so 2 (File.enc false) x14,iv x3.2.Budget,iv x3.2.Writes,iv x3.2.Stop,bv x3.2.Down]) (ts:=[4]) rfl (.move (.head _) (List.length_map _) (by decide) (.keep rfl (.keep rfl (.keep rfl (.keep rfl (.nil)))))) ?_
  refine vS [(4,bv true)] [(0,.box [so 2 (File.enc false) x14,iv x3.2.Budget,iv x3.2.Writes,iv x3.2.Stop,bv x3.2.Down])] (by kernel_rfl) ?_
  exact zR rfl
noncomputable def c15:Code:=(Tryz.f15.body).getD .skip
theorem uW.ok (x17:(List ByteArray)) (q:Wd) (kn:((List File)×Int×Int×Int×Bool)→Option (D×List Ent)) (hk:∀v:((List File)×Int×Int×Int×Bool),J (q.g Tryz.prog 15 0 61) c15 (atI c15 1023) (St.mk' [(6,pp 1),(10,pp 4)] [(1,.box [iv 0,nv,iv 0,iv 0,iv 0,bv false]),(4,.box [rr 7 v.1,iv v.2.1,iv v.2.2.1,iv v.2.2.2.1,bv v.2.2.2.2]),(7,rE 2 (File.enc false) v.1)]) (some v) kn):
  ∀s31:((List File)×Int×Int×Int×Bool×Int),J (q.g Tryz.prog 15 0 61) c15 (atI c15 8180) (St.mk' [(6,pp 1),(10,pp 4),(13,rr 6 x17),(14,iv s31.2.2.2.2.2)] [(1,.box [iv 0,nv,iv 0,iv 0,iv 0,bv false]),(4,.box [rr 7 s31.1,iv s31.2.1,iv s31.2.2.1,iv s31.2.2.2.1,bv s31.2.2.2.2.1]),(6,rE 1 eStr x17),(7,rE 2 (File.enc false) s31.1)]) (uW x17 s31) (Fl.go (fun r:zI=>some (.ag [iv r.Code,so 2 (File.enc false) r.zC.Files,iv r.zC.Budget,iv r.zC.Writes,iv r.zC.Stop,bv r.zC.Down],[])) kn):=by
 refine kP (fun g ih s31=>?_)
 unfold uI
 refine J_d 32720 [] [48] [(48,bv (decide (s31.2.2.2.2.2< (x17.length:Int))))] [] [] zB ?_
 refine zF 48 (fun h32=>?_) (fun h32=>?_)
 ·refine zA (fun x33 h34=>?_)
  refine xG 4 (cs':=[so 2 (File.enc false) s31.1,iv s31.2.1,iv s31.2.2.1,iv s31.2.2.2.1,bv s31.2.2.2.2.1]) (ts:=[7]) rfl (.move (.tail _ (.tail _ (.head _))) (List.length_map _) (by decide) (.keep rfl (.keep rfl (.keep rfl (.keep rfl (.nil)))))) ?_
  refine vS [(6,pp 1),(10,pp 4),(13,rr 6 x17),(14,iv s31.2.2.2.2.2),(48,bv true)] [(1,.box [iv 0,nv,iv 0,iv 0,iv 0,bv false]),(4,.box [so 2 (File.enc false) s31.1,iv s31.2.1,iv s31.2.2.1,iv s31.2.2.2.1,bv s31.2.2.2.2.1]),(6,rE 1 eStr x17)] (by kernel_rfl) ?_
  refine zA (fun x35 h36=>?_)
  refine J_g 130888 [] [(6,pp 1),(10,pp 4),(13,rr 6 x17),(14,iv s31.2.2.2.2.2),(56,bv (!x35.1))] [(1,.box [iv 0,nv,iv 0,iv 0,iv 0,bv false]),(4,.box [so 2 (File.enc false) x35.2.Files,iv x35.2.Budget,iv x35.2.Writes,iv x35.2.Stop,bv x35.2.Down]),(6,rE 1 eStr x17)] (zD 2 (wM (kk:=.i64) 86 9 1 6 eStr (.tmp 51) (.tmp 52) h34) (zD 3 (jH (d:=sv x33) 9 1 6 0 eStr (.tmp 53) h34 (by kernel_rfl)) (zD 4 (wG («as»:=[pp 4,sv x33]) [(.tmp 10),(.tmp 54)] [72,9] false [(4,.box [so 2 (File.enc false) s31.1,iv s31.2.1,iv s31.2.2.1,iv s31.2.2.2.1,bv s31.2.2.2.2.1])] [4] (.cons (.pt rfl) (.cons (.same rfl) (.nil))) (zHJ.ok ({Files:=s31.1,Budget:=s31.2.1,Writes:=s31.2.2.1,Stop:=s31.2.2.2.1,Down:=s31.2.2.2.2.1}:zC) x33) h36 (.same rfl rfl)) zB))) ?_
  refine yU 4 (cs':=[rr 7 x35.2.Files,iv x35.2.Budget,iv x35.2.Writes,iv x35.2.Stop,bv x35.2.Down]) (es:=[(7,rE 2 (File.enc false) x35.2.Files)]) rfl (.cons (.own 7) (.cons (.same rfl rfl) (.cons (.same rfl rfl) (.cons (.same rfl rfl) (.cons (.same rfl rfl) (.nil)))))) rfl (by kernel_rfl) (by kernel_rfl) ?_
  refine vS [(6,pp 1),(10,pp 4),(13,rr 6 x17),(14,iv s31.2.2.2.2.2),(56,bv (!x35.1))] [(1,.box [iv 0,nv,iv 0,iv 0,iv 0,bv false]),(4,.box [rr 7 x35.2.Files,iv x35.2.Budget,iv x35.2.Writes,iv x35.2.Stop,bv x35.2.Down]),(6,rE 1 eStr x17),(7,rE 2 (File.enc false) x35.2.Files)] (by kernel_rfl) ?_
  refine zF 56 (fun h37=>?_) (fun h37=>?_)
  ·refine J_g 523556 [] [(6,pp 1)] [(1,.box [iv 9,rr 7 x35.2.Files,iv x35.2.Budget,iv x35.2.Writes,iv x35.2.Stop,bv x35.2.Down]),(7,rE 2 (File.enc false) x35.2.Files)] zB ?_
   exact zAM (ds:=[.ag [iv 9,rr 7 x35.2.Files,iv x35.2.Budget,iv x35.2.Writes,iv x35.2.Stop,bv x35.2.Down]]) (ds':=[.ag [iv 9,so 2 (File.enc false) x35.2.Files,iv x35.2.Budget,iv x35.2.Writes,iv x35.2.Stop,bv x35.2.Down]]) (.cons (.ag (.keep rfl (.move (.tail _ (.head _)) (List.length_map _) (by decide) (.keep rfl (.keep rfl (.keep rfl (.keep rfl (.nil)))))))) (.nil) (by decide)) rfl
  ·refine J_d 32723 [] [14,56] [(14,iv (w64 (s31.2.2.2.2.2+1)))] [] [] zB ?_
   exact J_q (J_b (ih (x35.2.Files,x35.2.Budget,x35.2.Writes,x35.2.Stop,x35.2.Down,w64 (s31.2.2.2.2.2+1)))) rfl
 ·exact yF (hk (s31.1,s31.2.1,s31.2.2.1,s31.2.2.2.1,s31.2.2.2.2.1)) rfl
theorem uK.ok (a1:(List Pack)) (a2:zC) (a3:(List Int)):Ok Tryz.prog 15 [sl 8 (Pack.enc false) a1,.ag (zC.enc false a2),sl 1 zG a3] [] ((uK a1 a2 a3).map fun r=>(.ag [iv r.Code,so 2 (File.enc false) r.zC.Files,iv r.zC.Budget,iv r.zC.Writes,iv r.zC.Stop,bv r.zC.Down],[])):=by
 refine zH c15 Tryz.f15 0 61 (fun q=>?_)
 unfold uK
 refine J_d 2 [(0,0),(1,1)] [1,4,6] [(4,pp 0),(6,pp 1)] [0,1] [(0,.box (zC.enc false a2)),(1,.box [iv 0,nv,iv 0,iv 0,iv 0,bv false])] zB ?_
 refine zA (fun x4 h5=>?_)
 refine J_g 12 [] [(0,sl 8 (Pack.enc false) a1),(2,sl 1 zG a3),(4,pp 0),(6,pp 1),(7,iv x4)] [(0,.box (zC.enc false a2)),(1,.box [iv 0,nv,iv 0,iv 0,iv 0,bv false])] (zD 2 (xL [(.tmp 15),(.tmp 16)] [30,33] (zCg.ok a1 a2) h5) zB) ?_
 refine J_d 26 [] [19] [(19,bv (x4 !=0))] [] [] zB ?_
 refine zF 19 (fun h6=>?_) (fun h6=>?_)
 ·refine J_g 108 [] [(6,pp 1)] [(1,.box [iv x4,nv,iv 0,iv 0,iv 0,bv false])] zB ?_
  exact zAM (ds:=[.ag [iv x4,nv,iv 0,iv 0,iv 0,bv false]]) (ds':=[.ag [iv x4,so 2 (File.enc false) ([]:List File),iv 0,iv 0,iv 0,bv false]]) (.cons (.ag (.keep rfl (.nilsl true 2 (.keep rfl (.keep rfl (.keep rfl (.keep rfl (.nil)))))))) (.nil) (by decide)) rfl
 ·refine zA (fun x7 h8=>?_)
  refine J_d 28 [] [7,19,23] [(23,bv (decide (x7≥0)))] [] [] (zD 0 (zFL [(0,.box (zC.enc false a2))] [] (wG («as»:=[pp 0,sv (bs [112,108,97,110])]) [(.tmp 4),(.const (.string (bs [112,108,97,110])))] [72,9] false [(0,.box (zC.enc false a2))] [0] (.cons (.pt rfl) (.cons (.same rfl) (.nil))) (yK.ok a2 (bs [112,108,97,110])) h8 (.same rfl rfl))) zB) ?_
  refine zF 23 (fun h9=>?_) (fun h9=>?_)
  ·refine J_g 116 [] [(6,pp 1)] [(1,.box [iv 6,nv,iv 0,iv 0,iv 0,bv false])] zB ?_
   exact zAM (ds:=[.ag [iv 6,nv,iv 0,iv 0,iv 0,bv false]]) (ds':=[.ag [iv 6,so 2 (File.enc false) ([]:List File),iv 0,iv 0,iv 0,bv false]]) (.cons (.ag (.keep rfl (.nilsl true 2 (.keep rfl (.keep rfl (.keep rfl (.keep rfl (.nil)))))))) (.nil) (by decide)) rfl
  ·refine zA (fun x10 h11=>?_)
   refine J_g 30 [] [(2,sl 1 zG a3),(4,pp 0),(6,pp 1),(8,rr 2 x10.1),(9,iv x10.2)] [(0,.box (zC.enc false a2)),(1,.box [iv 0,nv,iv 0,iv 0,iv 0,bv false]),(2,rE 1 eStr x10.1)] (zD 2 (zFL [(0,.box (zC.enc false a2))] [(2,rE 1 eStr x10.1)] (wG («as»:=[sl 8 (Pack.enc false) a1,pp 0,sl 1 zG a3]) [(.tmp 26),(.tmp 4),(.tmp 27)] [30,72,39] false [(0,.box (zC.enc false a2))] [0] (.cons (.same rfl) (.cons (.pt rfl) (.cons (.same rfl) (.nil)))) (zAp.ok a1 a2 a3) h11 (.tu (.cons (.own 2) (.cons (.same rfl rfl) (.nil)))))) zB) ?_
   refine J_d 124 [] [32] [(32,bv (x10.2 !=0))] [] [] zB ?_
   refine zF 32 (fun h12=>?_) (fun h12=>?_)
   ·refine J_g 500 [] [(6,pp 1)] [(1,.box [iv x10.2,nv,iv 0,iv 0,iv 0,bv false])] zB ?_
    exact zAM (ds:=[.ag [iv x10.2,nv,iv 0,iv 0,iv 0,bv false]]) (ds':=[.ag [iv x10.2,so 2 (File.enc false) ([]:List File),iv 0,iv 0,iv 0,bv false]]) (.cons (.ag (.keep rfl (.nilsl true 2 (.keep rfl (.keep rfl (.keep rfl (.keep rfl (.nil)))))))) (.nil) (by decide)) rfl
   ·refine zA (fun x13 h14=>?_)
    refine J_g 126 [(2,4)] [(2,sl 1 zG a3),(6,pp 1),(8,rr 2 x10.1),(10,pp 4)] [(1,.box [iv 0,nv,iv 0,iv 0,iv 0,bv false]),(2,rE 1 eStr x10.1),(3,rE 2 (File.enc true) x13.Files),(4,.box [rr 3 x13.Files,iv x13.Budget,iv x13.Writes,iv x13.Stop,bv x13.Down])] (zD 1 (wG («as»:=[.ag (zC.enc false a2)]) [(.tmp 35)] [33] false [] [] (.cons (.same rfl) (.nil)) (zBx.ok a2) h14 (.ag (.cons (.own 3) (.cons (.same rfl rfl) (.cons (.same rfl rfl) (.cons (.same rfl rfl) (.cons (.same rfl rfl) (.nil)))))))) zB) ?_
    refine xG 4 (cs':=[so 2 (File.enc true) x13.Files,iv x13.Budget,iv x13.Writes,iv x13.Stop,bv x13.Down]) (ts:=[3]) rfl (.move (.tail _ (.tail _ (.head _))) (List.length_map _) (by decide) (.keep rfl (.keep rfl (.keep rfl (.keep rfl (.nil)))))) ?_
    refine vS [(2,sl 1 zG a3),(6,pp 1),(8,rr 2 x10.1),(10,pp 4)] [(1,.box [iv 0,nv,iv 0,iv 0,iv 0,bv false]),(2,rE 1 eStr x10.1),(4,.box (zC.enc true x13))] (by kernel_rfl) ?_
    refine zA (fun x15 h16=>?_)
    refine J_g 254 [] [(6,pp 1),(8,rr 2 x10.1),(10,pp 4),(11,rr 5 x15.1)] [(1,.box [iv 0,nv,iv 0,iv 0,iv 0,bv false]),(2,rE 1 eStr x10.1),(4,.box (zC.enc true x15.2.2)),(5,rE 1 zG x15.1)] (zD 1 (wG («as»:=[pp 4,sl 1 zG a3]) [(.tmp 10),(.tmp 38)] [72,39] false [(4,.box (zC.enc true x13))] [4] (.cons (.pt rfl) (.cons (.same rfl) (.nil))) (zB5.ok x13 a3) h16 (.tu (.cons (.own 5) (.cons (.same rfl rfl) (.nil))))) zB) ?_
    refine yU 4 (cs':=[rr 6 x15.2.2.Files,iv x15.2.2.Budget,iv x15.2.2.Writes,iv x15.2.2.Stop,bv x15.2.2.Down]) (es:=[(6,rE 2 (File.enc true) x15.2.2.Files)]) rfl (.cons (.own 6) (.cons (.same rfl rfl) (.cons (.same rfl rfl) (.cons (.same rfl rfl) (.cons (.same rfl rfl) (.nil)))))) rfl (by kernel_rfl) (by kernel_rfl) ?_
    refine vS [(6,pp 1),(8,rr 2 x10.1),(10,pp 4),(11,rr 5 x15.1)] [(1,.box [iv 0,nv,iv 0,iv 0,iv 0,bv false]),(2,rE 1 eStr x10.1),(4,.box [rr 6 x15.2.2.Files,iv x15.2.2.Budget,iv x15.2.2.Writes,iv x15.2.2.Stop,bv x15.2.2.Down]),(5,rE 1 zG x15.1),(6,rE 2 (File.enc true) x15.2.2.Files)] (by kernel_rfl) ?_
    refine xG 4 (cs':=[so 2 (File.enc true) x15.2.2.Files,iv x15.2.2.Budget,iv x15.2.2.Writes,iv x15.2.2.Stop,bv x15.2.2.Down]) (ts:=[6]) rfl (.move (.tail _ (.tail _ (.tail _ (.head _)))) (List.length_map _) (by decide) (.keep rfl (.keep rfl (.keep rfl (.keep rfl (.nil)))))) ?_
    refine vS [(6,pp 1),(8,rr 2 x10.1),(10,pp 4),(11,rr 5 x15.1)] [(1,.box [iv 0,nv,iv 0,iv 0,iv 0,bv false]),(2,rE 1 eStr x10.1),(4,.box (zC.enc true x15.2.2)),(5,rE 1 zG x15.1)] (by kernel_rfl) ?_
    refine zA (fun x17 h18=>?_)
    refine J_g 510 [] [(6,pp 1),(10,pp 4),(13,rr 6 x17)] [(1,.box [iv 0,nv,iv 0,iv 0,iv 0,bv false]),(4,.box (zC.enc true x15.2.2)),(6,rE 1 eStr x17)] (zD 2 (zFL [(4,.box (zC.enc true x15.2.2)),(5,rE 1 zG x15.1),(2,rE 1 eStr x10.1)] [(6,rE 1 eStr x17)] (wG («as»:=[pp 4,rr 5 x15.1,rr 2 x10.1]) [(.tmp 10),(.tmp 42),(.tmp 43)] [72,39,86] false [(4,.box (zC.enc true x15.2.2)),(5,rE 1 zG x15.1),(2,rE 1 eStr x10.1)] [4,5,2] (.cons (.pt rfl) (.cons (.rf rfl) (.cons (.rf rfl) (.nil)))) (jS.ok x15.2.2 x15.1 x10.1) h18 (.own 6))) zB) ?_
    refine yU 4 (cs':=[rr 7 x15.2.2.Files,iv x15.2.2.Budget,iv x15.2.2.Writes,iv x15.2.2.Stop,bv x15.2.2.Down]) (es:=[(7,rE 2 (File.enc true) x15.2.2.Files)]) rfl (.cons (.own 7) (.cons (.same rfl rfl) (.cons (.same rfl rfl) (.cons (.same rfl rfl) (.cons (.same rfl rfl) (.nil)))))) rfl (by kernel_rfl) (by kernel_rfl) ?_
    refine vS [(6,pp 1),(10,pp 4),(13,rr 6 x17)] [(1,.box [iv 0,nv,iv 0,iv 0,iv 0,bv false]),(4,.box [rr 7 x15.2.2.Files,iv x15.2.2.Budget,iv x15.2.2.Writes,iv x15.2.2.Stop,bv x15.2.2.Down]),(6,rE 1 eStr x17),(7,rE 2 (File.enc true) x15.2.2.Files)] (by kernel_rfl) ?_
    refine J_d 2044 [] [14] [(14,iv 0)] [] [] zB ?_
    refine vS [(6,pp 1),(10,pp 4),(13,rr 6 x17),(14,iv 0)] [(7,rE 2 (File.enc true) x15.2.2.Files),(1,.box [iv 0,nv,iv 0,iv 0,iv 0,bv false]),(4,.box [rr 7 x15.2.2.Files,iv x15.2.2.Budget,iv x15.2.2.Writes,iv x15.2.2.Stop,bv x15.2.2.Down]),(6,rE 1 eStr x17)] (by kernel_rfl) ?_
    refine zOO 7 (zEg (enc:=(File.enc true)) (enc':=(File.enc false)) (File.ro true) _) ?_
    refine vS [(6,pp 1),(10,pp 4),(13,rr 6 x17),(14,iv 0)] [(1,.box [iv 0,nv,iv 0,iv 0,iv 0,bv false]),(4,.box [rr 7 x15.2.2.Files,iv x15.2.2.Budget,iv x15.2.2.Writes,iv x15.2.2.Stop,bv x15.2.2.Down]),(6,rE 1 eStr x17),(7,rE 2 (File.enc false) x15.2.2.Files)] (by kernel_rfl) ?_
    refine vU (K0:=(fun r:zI=>some (.ag [iv r.Code,so 2 (File.enc false) r.zC.Files,iv r.zC.Budget,iv r.zC.Writes,iv r.zC.Stop,bv r.zC.Down],[]))) (fun _=>rfl) (uW.ok x17 q _ (fun v38=>J_j ?_) (x15.2.2.Files,x15.2.2.Budget,x15.2.2.Writes,x15.2.2.Stop,x15.2.2.Down,0))
    refine J_g 2046 [] [(6,pp 1)] [(1,.box [iv 0,rr 7 v38.1,iv v38.2.1,iv v38.2.2.1,iv v38.2.2.2.1,bv v38.2.2.2.2]),(7,rE 2 (File.enc false) v38.1)] zB ?_
    exact zAM (ds:=[.ag [iv 0,rr 7 v38.1,iv v38.2.1,iv v38.2.2.1,iv v38.2.2.2.1,bv v38.2.2.2.2]]) (ds':=[.ag [iv 0,so 2 (File.enc false) v38.1,iv v38.2.1,iv v38.2.2.1,iv v38.2.2.2.1,bv v38.2.2.2.2]]) (.cons (.ag (.keep rfl (.move (.tail _ (.head _)) (List.length_map _) (by decide) (.keep rfl (.keep rfl (.keep rfl (.keep rfl (.nil)))))))) (.nil) (by decide)) rfl
noncomputable def zRk:Code:=(Tryz.f184.body).getD .skip
theorem xK.ok (a1:Int):Ok Tryz.prog 184 [uv a1] [] ((xK a1).map fun r=>(bv r,[])):=by
 refine zH zRk Tryz.f184 0 21 (fun q=>?_)
 unfold xK
 refine J_g 2 [] [(0,uv a1)] [] zB ?_
 refine wJ (fun h2=>?_) (fun h2=>?_)
 ·refine wJ (fun h3=>?_) (fun h3=>?_)
  ·refine J_g 6 [] [(2,bv true)] [] (xU 2 [(4,bv (decide (a1≥97)))] [] h2 (xU 6 [(8,bv (decide (a1≤122)))] [] h3 (zQK 9 (zQI (i:=9) (g:=6) (t:=9) (b:=false) (v:=(.bool true)) (.inl rfl) (by kernel_rfl) (by kernel_rfl)) (zQK 10 (zQI (i:=10) (g:=9) (t:=12) (b:=true) (v:=undef) (.inr rfl) (by kernel_rfl) (by kernel_rfl)) (zQK 11 (zQI (i:=11) (g:=9) (t:=12) (b:=true) (v:=undef) (.inr rfl) (by kernel_rfl) (by kernel_rfl)) zB))))) ?_
   exact zR rfl
  ·refine wJ (fun h4=>?_) (fun h4=>?_)
   ·refine wJ (fun h5=>?_) (fun h5=>?_)
    ·refine J_g 6 [] [(2,bv true)] [] (xU 2 [(4,bv (decide (a1≥97)))] [] h2 (xU 6 [(8,bv (decide (a1≤122)))] [] h3 (zLS 9 6 9 false [(11,bv (decide (a1≥48)))] [] h4 (xU 14 [(16,bv (decide (a1≤57)))] [] h5 zB)))) ?_
     exact zR rfl
    ·refine J_g 6 [] [(2,bv (a1==95))] [] (xU 2 [(4,bv (decide (a1≥97)))] [] h2 (xU 6 [(8,bv (decide (a1≤122)))] [] h3 (zLS 9 6 9 false [(11,bv (decide (a1≥48)))] [] h4 (xU 14 [(16,bv (decide (a1≤57)))] [] h5 zB)))) ?_
     exact zR rfl
   ·refine J_g 6 [] [(2,bv (a1==95))] [] (xU 2 [(4,bv (decide (a1≥97)))] [] h2 (xU 6 [(8,bv (decide (a1≤122)))] [] h3 (zLS 9 6 9 false [(11,bv (decide (a1≥48)))] [] h4 zB))) ?_
    exact zR rfl
 ·refine wJ (fun h6=>?_) (fun h6=>?_)
  ·refine wJ (fun h7=>?_) (fun h7=>?_)
   ·refine J_g 6 [] [(2,bv true)] [] (xU 2 [(4,bv (decide (a1≥97)))] [] h2 (zLS 9 6 9 false [(11,bv (decide (a1≥48)))] [] h6 (xU 14 [(16,bv (decide (a1≤57)))] [] h7 zB))) ?_
    exact zR rfl
   ·refine J_g 6 [] [(2,bv (a1==95))] [] (xU 2 [(4,bv (decide (a1≥97)))] [] h2 (zLS 9 6 9 false [(11,bv (decide (a1≥48)))] [] h6 (xU 14 [(16,bv (decide (a1≤57)))] [] h7 zB))) ?_
    exact zR rfl
  ·refine J_g 6 [] [(2,bv (a1==95))] [] (xU 2 [(4,bv (decide (a1≥97)))] [] h2 (zLS 9 6 9 false [(11,bv (decide (a1≥48)))] [] h6 zB)) ?_
   exact zR rfl
noncomputable def zPt:Code:=(Tryz.f186.body).getD .skip
theorem zAa.ok (a1:ByteArray) (q:Wd) (kn:Unit→Option (D×List Ent)) (hk:∀v:Unit,J (q.g Tryz.prog 186 0 33) zPt (atI zPt 15) (St.mk' [] []) (some v) kn):
  ∀s17:Int,J (q.g Tryz.prog 186 0 33) zPt (atI zPt 116) (St.mk' [(0,sv a1),(23,iv (a1.size:Int)),(24,iv s17)] []) (zAa a1 s17) (Fl.go (fun r:Int=>some (iv r,[])) kn):=by
 refine kP (fun g ih s17=>?_)
 unfold zBZ
 refine J_d 232 [] [25] [(25,bv (decide (s17< (a1.size:Int))))] [] [] zB ?_
 refine zF 25 (fun h18=>?_) (fun h18=>?_)
 ·refine J_d 3736 [] [3,25] [(3,iv s17)] [] [] zB ?_
  refine zA (fun x19 h20=>?_)
  refine zA (fun x21 h22=>?_)
  refine J_d 7474 [] [3,31] [(31,bv (!x21))] [] [] (zD 2 (zKr (kk:=.i64) 9 (.tmp 27) (.tmp 28) h20) (zD 3 (xL [(.tmp 29)] [5] (xK.ok x19) h22) zB)) ?_
  refine zF 31 (fun h23=>?_) (fun h23=>?_)
  ·refine J_g 29900 [] [(2,iv 5)] [] zB ?_
   exact zR rfl
  ·refine J_d 935 [] [24,31] [(24,iv (w64 (s17+1)))] [] [] zB ?_
   exact J_q (J_b (ih (w64 (s17+1)))) rfl
 ·exact yF (hk ()) rfl
theorem vE.ok (a1:ByteArray):Ok Tryz.prog 186 [sv a1] [] ((vE a1).map fun r=>(iv r,[])):=by
 refine zH zPt Tryz.f186 0 33 (fun q=>?_)
 unfold vE
 refine J_g 2 [] [(0,sv a1)] [] zB ?_
 refine yQ (atI zPt 13) (fun v9:Bool=>St.mk' [(0,sv a1),(21,bv v9)] []) (fun v9=>?_) (fun jv9=>?_)
 ·refine zF 21 (fun h10=>?_) (fun h10=>?_)
  ·refine J_g 52 [] [(2,iv 5)] [] zB ?_
   exact zR rfl
  ·refine J_g 28 [] [(0,sv a1),(23,iv (a1.size:Int)),(24,iv 0)] [] zB ?_
   refine vU (K0:=(fun r:Int=>some (iv r,[]))) (fun _=>rfl) (zAa.ok a1 q _ (fun v24=>J_j ?_) 0)
   refine J_g 30 [] [(2,iv 0)] [] zB ?_
   exact zR rfl
 ·refine wJ (fun h2=>?_) (fun h2=>?_)
  ·refine J_g 12 [] [(0,sv a1),(21,bv true)] [] (xU 3 [(6,bv (decide ((a1.size:Int)<1)))] [] h2 zB) ?_
   exact yF (J_j (jv9 true)) rfl
  ·refine wJ (fun h3=>?_) (fun h3=>?_)
   ·refine J_g 12 [] [(0,sv a1),(21,bv true)] [] (xU 3 [(6,bv (decide ((a1.size:Int)<1)))] [] h2 (xU 8 [(11,bv (decide ((a1.size:Int)>12)))] [] h3 zB)) ?_
    exact yF (J_j (jv9 true)) rfl
   ·refine zA (fun x4 h5=>?_)
    refine wJ (fun h6=>?_) (fun h6=>?_)
    ·refine J_g 12 [] [(0,sv a1),(21,bv true)] [] (xU 3 [(6,bv (decide ((a1.size:Int)<1)))] [] h2 (xU 8 [(11,bv (decide ((a1.size:Int)>12)))] [] h3 (zDL 10 8 12 false (zKr (kk:=.i64) 9 (.tmp 13) (.const (.int .i64 0)) h5) (xU 13 [(16,bv (decide (x4<97)))] [] h6 zB)))) ?_
     exact yF (J_j (jv9 true)) rfl
    ·refine zA (fun x7 h8=>?_)
     refine J_g 12 [] [(0,sv a1),(21,bv (decide (x7>122)))] [] (xU 3 [(6,bv (decide ((a1.size:Int)<1)))] [] h2 (xU 8 [(11,bv (decide ((a1.size:Int)>12)))] [] h3 (zDL 10 8 12 false (zKr (kk:=.i64) 9 (.tmp 13) (.const (.int .i64 0)) h5) (xU 13 [(16,bv (decide (x4<97)))] [] h6 (zDL 15 13 17 false (zKr (kk:=.i64) 9 (.tmp 18) (.const (.int .i64 0)) h8) zB))))) ?_
     exact yF (J_j (jv9 (decide (x7>122)))) rfl
noncomputable def c175:Code:=(Tryz.f175.body).getD .skip
theorem yS.ok (a1:Int) (a2:Int) (a3:Int):Ok Tryz.prog 175 [iv a1,iv a2,iv a3] [] ((yS a1 a2 a3).map fun r=>(bv r,[])):=by
 refine zH c175 Tryz.f175 0 15 (fun q=>?_)
 unfold yS
 refine J_d 2 [] [] [] [] [] zB ?_
 refine wJ (fun h4=>?_) (fun h4=>?_)
 ·refine J_g 6 [] [(6,bv (decide (a1≤a3)))] [] (xU 3 [(9,bv (decide (a2≤a1)))] [] h4 zB) ?_
  exact zR rfl
 ·refine J_g 6 [] [(6,bv false)] [] (xU 3 [(9,bv (decide (a2≤a1)))] [] h4 zB) ?_
  exact zR rfl
noncomputable def zQZ:Code:=(Tryz.f240.body).getD .skip
theorem xP.ok (a1:Version):Ok Tryz.prog 240 [.ag (Version.enc a1)] [] ((xP a1).map fun r=>(iv r,[])):=by
 refine zH zQZ Tryz.f240 0 19 (fun q=>?_)
 unfold xP
 refine J_g 2 [(0,0)] [(1,pp 0)] [(0,.box (Version.enc a1))] zB ?_
 refine zA (fun x2 h3=>?_)
 refine yQ (atI zQZ 13) (fun v10:Bool=>St.mk' [(18,bv v10)] []) (fun v10=>?_) (fun jv10=>?_)
 ·refine zF 18 (fun h11=>?_) (fun h11=>?_)
  ·refine J_g 52 [] [(2,iv 3)] [] zB ?_
   exact zR rfl
  ·refine J_g 14 [] [(2,iv 0)] [] zB ?_
   exact zR rfl
 ·refine wJ (fun h4=>?_) (fun h4=>?_)
  ·refine J_g 12 [] [(18,bv true)] [] (zD 2 (xL [(.tmp 4),(.const (.int .i64 0)),(.const (.int .i64 999))] [2,2,2] (yS.ok a1.A 0 999) h3) (xU 4 [(6,bv (!x2))] [] h4 zB)) ?_
   exact yF (J_j (jv10 true)) rfl
  ·refine zA (fun x5 h6=>?_)
   refine wJ (fun h7=>?_) (fun h7=>?_)
   ·refine J_g 12 [] [(18,bv true)] [] (zD 2 (xL [(.tmp 4),(.const (.int .i64 0)),(.const (.int .i64 999))] [2,2,2] (yS.ok a1.A 0 999) h3) (xU 4 [(6,bv (!x2))] [] h4 (zDL 7 4 7 false (xL [(.tmp 9),(.const (.int .i64 0)),(.const (.int .i64 999))] [2,2,2] (yS.ok a1.B 0 999) h6) (xU 10 [(12,bv (!x5))] [] h7 zB)))) ?_
    exact yF (J_j (jv10 true)) rfl
   ·refine zA (fun x8 h9=>?_)
    refine J_g 12 [] [(18,bv (!x8))] [] (zD 2 (xL [(.tmp 4),(.const (.int .i64 0)),(.const (.int .i64 999))] [2,2,2] (yS.ok a1.A 0 999) h3) (xU 4 [(6,bv (!x2))] [] h4 (zDL 7 4 7 false (xL [(.tmp 9),(.const (.int .i64 0)),(.const (.int .i64 999))] [2,2,2] (yS.ok a1.B 0 999) h6) (xU 10 [(12,bv (!x5))] [] h7 (zDL 13 10 13 false (xL [(.tmp 15),(.const (.int .i64 0)),(.const (.int .i64 999))] [2,2,2] (yS.ok a1.C 0 999) h9) zB))))) ?_
    exact yF (J_j (jv10 (!x8))) rfl
noncomputable def c98:Code:=(Tryz.f98.body).getD .skip
theorem zBg.ok (a1:(List Int)) (q:Wd) (kn:Unit→Option (D×List Ent)) (hk:∀v:Unit,J (q.g Tryz.prog 98 0 15) c98 (atI c98 7) (St.mk' [] []) (some v) kn):
  ∀s6:Int,J (q.g Tryz.prog 98 0 15) c98 (atI c98 52) (St.mk' [(5,sl 1 zG a1),(6,iv (a1.length:Int)),(7,iv s6)] []) (zBg a1 s6) (Fl.go (fun r:Int=>some (iv r,[])) kn):=by
 refine kP (fun g ih s6=>?_)
 unfold zA3
 refine J_d 104 [] [8] [(8,bv (decide (s6< (a1.length:Int))))] [] [] zB ?_
 refine zF 8 (fun h7=>?_) (fun h7=>?_)
 ·refine zA (fun x8 h9=>?_)
  refine J_g 1688 [] [(4,iv x8),(5,sl 1 zG a1),(6,iv (a1.length:Int)),(7,iv s6)] [] (zD 0 (zAg (kk:=.i64) 39 2 1 zG (.tmp 5) (.tmp 7) h9) zB) ?_
  refine J_d 3378 [] [12] [(12,bv (x8 !=0))] [] [] zB ?_
  refine zF 12 (fun h10=>?_) (fun h10=>?_)
  ·refine J_g 13516 [] [(2,iv x8)] [] zB ?_
   exact zR rfl
  ·refine J_d 423 [] [4,7,12] [(7,iv (w64 (s6+1)))] [] [] zB ?_
   exact J_q (J_b (ih (w64 (s6+1)))) rfl
 ·exact yF (hk ()) rfl
theorem zAQ.ok (a1:(List Int)):Ok Tryz.prog 98 [sl 1 zG a1] [] ((zAQ a1).map fun r=>(iv r,[])):=by
 refine zH c98 Tryz.f98 0 15 (fun q=>?_)
 unfold zAQ
 refine J_g 2 [] [(0,sl 1 zG a1)] [] zB ?_
 refine J_g 12 [] [(5,sl 1 zG a1),(6,iv (a1.length:Int)),(7,iv 0)] [] zB ?_
 refine vU (K0:=(fun r:Int=>some (iv r,[]))) (fun _=>rfl) (zBg.ok a1 q _ (fun v11=>J_j ?_) 0)
 refine J_g 14 [] [(2,iv 0)] [] zB ?_
 exact zR rfl
noncomputable def zR8:Code:=(Tryz.f242.body).getD .skip
theorem zA0.ok (a1:(List Term)):Ok Tryz.prog 242 [sl 7 Term.enc a1] [] ((zA0 a1).map fun r=>(bv r,[])):=by
 refine zH zR8 Tryz.f242 0 6 (fun q=>?_)
 unfold zA0
 refine J_g 2 [] [(0,sl 7 Term.enc a1)] [] zB ?_
 refine J_g 6 [] [(2,bv (decide ((a1.length:Int)>4)))] [] zB ?_
 exact zR rfl
noncomputable def zPC:Code:=(Tryz.f293.body).getD .skip
theorem yB.ok (a1:(List (List Term))) (q:Wd) (kn:Unit→Option (D×List Ent)) (hk:∀v:Unit,J (q.g Tryz.prog 293 0 19) zPC (atI zPC 7) (St.mk' [] []) (some v) kn):
  ∀s8:Int,J (q.g Tryz.prog 293 0 19) zPC (atI zPC 52) (St.mk' [(0,sl 1 (eSl false 7 Term.enc) a1),(1,.fn 242 []),(7,iv (a1.length:Int)),(8,iv s8)] []) (yB a1 s8) (Fl.go (fun r:Int=>some (iv r,[])) kn):=by
 refine kP (fun g ih s8=>?_)
 unfold zY
 refine J_d 104 [] [9] [(9,bv (decide (s8< (a1.length:Int))))] [] [] zB ?_
 refine zF 9 (fun h9=>?_) (fun h9=>?_)
 ·refine J_d 1688 [] [5,9] [(5,iv s8)] [] [] zB ?_
  refine zA (fun x10 h11=>?_)
  refine zA (fun x12 h13=>?_)
  refine J_d 3378 [] [16] [(16,bv x12)] [] [] (zD 3 (zAg (kk:=.i64) 100 75 1 (eSl false 7 Term.enc) (.tmp 12) (.tmp 13) h11) (zD 5 (zNo («as»:=[sl 7 Term.enc x10]) (caps:=[]) 11 [(.tmp 15)] [75] (zA0.ok x10) h13) zB)) ?_
  refine zF 16 (fun h14=>?_) (fun h14=>?_)
  ·refine J_g 13516 [] [(4,iv s8)] [] zB ?_
   exact zR rfl
  ·refine J_d 423 [] [5,8,16] [(8,iv (w64 (s8+1)))] [] [] zB ?_
   exact J_q (J_b (ih (w64 (s8+1)))) rfl
 ·exact yF (hk ()) rfl
theorem zW.ok (a1:(List (List Term))):Ok Tryz.prog 293 [sl 1 (eSl false 7 Term.enc) a1,.fn 242 []] [] ((zW a1).map fun r=>(iv r,[])):=by
 refine zH zPC Tryz.f293 0 19 (fun q=>?_)
 unfold zW
 refine J_g 2 [] [(0,sl 1 (eSl false 7 Term.enc) a1),(1,.fn 242 [])] [] zB ?_
 refine J_d 12 [] [7,8] [(7,iv (a1.length:Int)),(8,iv 0)] [] [] zB ?_
 refine vU (K0:=(fun r:Int=>some (iv r,[]))) (fun _=>rfl) (yB.ok a1 q _ (fun v15=>J_j ?_) 0)
 refine J_g 14 [] [(4,iv (-1))] [] zB ?_
 exact zR rfl
noncomputable def zRr:Code:=(Tryz.f241.body).getD .skip
theorem zO.ok (a1:(List (List Term))):Ok Tryz.prog 241 [sl 1 (eSl false 7 Term.enc) a1,.fn 242 []] [] ((zO a1).map fun r=>(bv r,[])):=by
 refine zH zRr Tryz.f241 0 9 (fun q=>?_)
 unfold zO
 refine J_d 2 [] [] [] [] [] zB ?_
 refine zA (fun x2 h3=>?_)
 refine J_g 6 [] [(4,bv (decide (x2≥0)))] [] (zD 2 (wG («as»:=[sl 1 (eSl false 7 Term.enc) a1,.fn 242 []]) [(.tmp 5),(.tmp 6)] [100,154] false [] [] (.cons (.same rfl) (.cons (.fn (.nil)) (.nil))) (zW.ok a1) h3 (.same rfl rfl)) zB) ?_
 exact zR rfl
noncomputable def zPZ:Code:=(Tryz.f209.body).getD .skip
theorem vW.ok (a1:(List ByteArray)) (a2:ByteArray) (q:Wd) (kn:Unit→Option (D×List Ent)) (hk:∀v:Unit,J (q.g Tryz.prog 209 0 19) zPZ (atI zPZ 7) (St.mk' [] []) (some v) kn):
  ∀s7:Int,J (q.g Tryz.prog 209 0 19) zPZ (atI zPZ 52) (St.mk' [(0,sl 1 eStr a1),(1,sv a2),(7,iv (a1.length:Int)),(8,iv s7)] []) (vW a1 a2 s7) (Fl.go (fun r:Int=>some (iv r,[])) kn):=by
 refine kP (fun g ih s7=>?_)
 unfold vP
 refine J_d 104 [] [9] [(9,bv (decide (s7< (a1.length:Int))))] [] [] zB ?_
 refine zF 9 (fun h8=>?_) (fun h8=>?_)
 ·refine J_d 1688 [] [5,9] [(5,iv s7)] [] [] zB ?_
  refine zA (fun x9 h10=>?_)
  refine J_d 3378 [] [16] [(16,bv (seq a2 x9))] [] [] (zD 3 (zAg (kk:=.i64) 86 9 1 eStr (.tmp 12) (.tmp 13) h10) zB) ?_
  refine zF 16 (fun h11=>?_) (fun h11=>?_)
  ·refine J_g 13516 [] [(4,iv s7)] [] zB ?_
   exact zR rfl
  ·refine J_d 423 [] [5,8,16] [(8,iv (w64 (s7+1)))] [] [] zB ?_
   exact J_q (J_b (ih (w64 (s7+1)))) rfl
 ·exact yF (hk ()) rfl
theorem uJ.ok (a1:(List ByteArray)) (a2:ByteArray):Ok Tryz.prog 209 [sl 1 eStr a1,sv a2] [] ((uJ a1 a2).map fun r=>(iv r,[])):=by
 refine zH zPZ Tryz.f209 0 19 (fun q=>?_)
 unfold uJ
 refine J_g 2 [] [(0,sl 1 eStr a1),(1,sv a2)] [] zB ?_
 refine J_d 12 [] [7,8] [(7,iv (a1.length:Int)),(8,iv 0)] [] [] zB ?_
 refine vU (K0:=(fun r:Int=>some (iv r,[]))) (fun _=>rfl) (vW.ok a1 a2 q _ (fun v12=>J_j ?_) 0)
 refine J_g 14 [] [(4,iv (-1))] [] zB ?_
 exact zR rfl
noncomputable def zRy:Code:=(Tryz.f137.body).getD .skip
theorem yV.ok (a1:(List ByteArray)) (a2:ByteArray):Ok Tryz.prog 137 [sl 1 eStr a1,sv a2] [] ((yV a1 a2).map fun r=>(bv r,[])):=by
 refine zH zRy Tryz.f137 0 9 (fun q=>?_)
 unfold yV
 refine J_d 2 [] [] [] [] [] zB ?_
 refine zA (fun x3 h4=>?_)
 refine J_g 6 [] [(4,bv (decide (x3≥0)))] [] (zD 2 (xL [(.tmp 5),(.tmp 6)] [86,9] (uJ.ok a1 a2) h4) zB) ?_
 exact zR rfl
noncomputable def zRG:Code:=(Tryz.f254.body).getD .skip
theorem zE8.ok:Ok Tryz.prog 254 [] [] ((zE8).map fun r=>(.ag (Version.enc r),[])):=by
 refine zH zRG Tryz.f254 0 2 (fun q=>?_)
 unfold zE8
 refine J_g 2 [(0,0)] [(0,pp 0)] [(0,.box [iv 0,iv 0,iv 0])] zB ?_
 refine J_g 6 [] [(0,pp 0)] [(0,.box [iv 1000,iv 0,iv 0])] zB ?_
 exact zR rfl
noncomputable def zR5:Code:=(Tryz.f310.body).getD .skip
theorem jG.ok (a1:Int):Ok Tryz.prog 310 [iv a1] [] ((jG a1).map fun r=>(bv r,[])):=by
 refine zH zR5 Tryz.f310 0 6 (fun q=>?_)
 unfold jG
 refine J_g 2 [] [(0,iv a1)] [] zB ?_
 refine J_g 6 [] [(2,bv (a1 !=a1))] [] zB ?_
 exact zR rfl
noncomputable def zRl:Code:=(Tryz.f303.body).getD .skip
theorem xQ.ok (a1:Int) (a2:Int):Ok Tryz.prog 303 [iv a1,iv a2] [] ((xQ a1 a2).map fun r=>(iv r,[])):=by
 refine zH zRl Tryz.f303 0 20 (fun q=>?_)
 unfold xQ
 refine J_d 2 [] [] [] [] [] zB ?_
 refine zA (fun x3 h4=>?_)
 refine J_d 6 [] [5] [(5,bv x3)] [] [] (zD 1 (xL [(.tmp 7)] [2] (jG.ok a1) h4) zB) ?_
 refine zA (fun x5 h6=>?_)
 refine J_g 14 [] [(0,iv a1),(1,iv a2),(5,bv x3),(6,bv x5)] [] (zD 1 (xL [(.tmp 9)] [2] (jG.ok a2) h6) zB) ?_
 refine J_d 60 [] [5,11] [(11,bv x3)] [] [] zB ?_
 refine zF 11 (fun h7=>?_) (fun h7=>?_)
 ·refine J_g 488 [] [(12,bv x5)] [] zB ?_
  refine zF 12 (fun h8=>?_) (fun h8=>?_)
  ·refine J_g 1956 [] [(4,iv 0)] [] zB ?_
   exact zR rfl
  ·refine J_g 490 [] [(4,iv (-1))] [] zB ?_
   exact zR rfl
 ·refine J_g 124 [] [(0,iv a1),(1,iv a2),(13,bv x5)] [] zB ?_
  refine zF 13 (fun h9=>?_) (fun h9=>?_)
  ·refine J_g 500 [] [(4,iv 1)] [] zB ?_
   exact zR rfl
  ·refine J_d 252 [] [13,16] [(16,bv (decide (a1<a2)))] [] [] zB ?_
   refine zF 16 (fun h10=>?_) (fun h10=>?_)
   ·refine J_g 1012 [] [(4,iv (-1))] [] zB ?_
    exact zR rfl
   ·refine J_g 508 [] [(19,bv (decide (a1>a2)))] [] zB ?_
    refine zF 19 (fun h11=>?_) (fun h11=>?_)
    ·refine J_g 2036 [] [(4,iv 1)] [] zB ?_
     exact zR rfl
    ·refine J_g 510 [] [(4,iv 0)] [] zB ?_
     exact zR rfl
noncomputable def zPU:Code:=(Tryz.f302.body).getD .skip
theorem zD6.ok (a1:(List Int)) (q:Wd) (kn:Unit→Option (D×List Ent)) (hk:∀v:Unit,J (q.g Tryz.prog 302 0 18) zPU (atI zPU 15) (St.mk' [(3,iv 0)] []) (some v) kn):
  ∀s6:Int,J (q.g Tryz.prog 302 0 18) zPU (atI zPU 116) (St.mk' [(3,iv 0),(6,sl 1 zG a1),(7,iv (a1.length:Int)),(8,iv s6)] []) (zD6 a1 s6) (Fl.go (fun r:Int=>some (iv r,[])) kn):=by
 refine kP (fun g ih s6=>?_)
 unfold zCT
 refine J_d 232 [] [9] [(9,bv (decide (s6< (a1.length:Int))))] [] [] zB ?_
 refine zF 9 (fun h7=>?_) (fun h7=>?_)
 ·refine zA (fun x8 h9=>?_)
  refine J_g 3736 [] [(3,iv 0),(5,iv x8),(6,sl 1 zG a1),(7,iv (a1.length:Int)),(8,iv s6)] [] (zD 0 (zAg (kk:=.i64) 318 3 1 zG (.tmp 6) (.tmp 8) h9) zB) ?_
  refine J_d 7474 [] [14] [(14,bv (x8 !=0))] [] [] zB ?_
  refine zF 14 (fun h10=>?_) (fun h10=>?_)
  ·refine J_g 29900 [] [(2,iv x8)] [] zB ?_
   exact zR rfl
  ·refine J_d 935 [] [5,8,14] [(8,iv (w64 (s6+1)))] [] [] zB ?_
   exact J_q (J_b (ih (w64 (s6+1)))) rfl
 ·exact yF (hk ()) rfl
theorem zEe.ok (a1:(List Int)):Ok Tryz.prog 302 [sl 1 zG a1] [] ((zEe a1).map fun r=>(iv r,[])):=by
 refine zH zPU Tryz.f302 0 18 (fun q=>?_)
 unfold zEe
 refine J_g 2 [] [(0,sl 1 zG a1)] [] zB ?_
 refine J_g 6 [] [(0,sl 1 zG a1),(3,iv 0)] [] zB ?_
 refine J_g 28 [] [(3,iv 0),(6,sl 1 zG a1),(7,iv (a1.length:Int)),(8,iv 0)] [] zB ?_
 refine vU (K0:=(fun r:Int=>some (iv r,[]))) (fun _=>rfl) (zD6.ok a1 q _ (fun v11=>J_j ?_) 0)
 refine J_g 30 [] [(2,iv 0)] [] zB ?_
 exact zR rfl
noncomputable def zRd:Code:=(Tryz.f257.body).getD .skip
theorem zCa.ok (a1:Version) (a2:Version):Ok Tryz.prog 257 [.ag (Version.enc a1),.ag (Version.enc a2)] [] ((zCa a1 a2).map fun r=>(iv r,[])):=by
 refine zH zRd Tryz.f257 0 22 (fun q=>?_)
 unfold zCa
 refine J_g 2 [(0,0),(1,1)] [(2,pp 0),(3,pp 1)] [(0,.box (Version.enc a1)),(1,.box (Version.enc a2))] zB ?_
 refine zA (fun x3 h4=>?_)
 refine zA (fun x5 h6=>?_)
 refine zA (fun x7 h8=>?_)
 refine zA (fun x9 h10=>?_)
 refine J_g 6 [] [(4,iv x9)] [] (zD 4 (xL [(.tmp 6),(.tmp 8)] [2,2] (xQ.ok a1.A a2.A) h4) (zD 9 (xL [(.tmp 11),(.tmp 13)] [2,2] (xQ.ok a1.B a2.B) h6) (zD 14 (xL [(.tmp 16),(.tmp 18)] [2,2] (xQ.ok a1.C a2.C) h8) (zD 15 (zDM 318 3 1 2 zG [x3,x5,x7] [0,1,2] [(.tmp 9),(.tmp 14),(.tmp 19)] [iv x3,iv x5,iv x7]) (zD 16 (wG («as»:=[rr 2 [x3,x5,x7]]) [(.tmp 20)] [318] true [(2,rE 1 zG [x3,x5,x7])] [] (.cons (zDP (.head _) (fun _=>rfl) rfl) (.nil)) (zEe.ok [x3,x5,x7]) h10 (.same rfl rfl) (hbor:=fun _=>⟨fhN,zT⟩)) zB))))) ?_
 exact zR rfl
noncomputable def zQW:Code:=(Tryz.f190.body).getD .skip
theorem zAP.ok (a1:Term):Ok Tryz.prog 190 [.ag (Term.enc a1)] [] ((zAP a1).map fun r=>(iv r,[])):=by
 refine zH zQW Tryz.f190 0 35 (fun q=>?_)
 unfold zAP
 refine J_g 2 [(0,0)] [(1,pp 0)] [(0,.box (Term.enc a1))] zB ?_
 refine zA (fun x2 h3=>?_)
 refine J_g 12 [] [(1,pp 0),(3,iv x2)] [(0,.box (Term.enc a1))] (zD 2 (xL [(.tmp 6)] [9] (vE.ok a1.Name) h3) zB) ?_
 refine J_d 26 [] [9] [(9,bv (x2 !=0))] [] [] zB ?_
 refine zF 9 (fun h4=>?_) (fun h4=>?_)
 ·refine J_g 108 [] [(2,iv x2)] [] zB ?_
  exact zR rfl
 ·refine zA (fun x5 h6=>?_)
  refine J_g 28 [] [(1,pp 0),(4,iv x5)] [(0,.box (Term.enc a1))] (zD 2 (xL [(.tmp 12)] [99] (xP.ok a1.Low) h6) zB) ?_
  refine J_d 58 [] [15] [(15,bv (x5 !=0))] [] [] zB ?_
  refine zF 15 (fun h7=>?_) (fun h7=>?_)
  ·refine J_g 236 [] [(2,iv x5)] [] zB ?_
   exact zR rfl
  ·refine zA (fun x8 h9=>?_)
   refine yQ (atI zQW 121) (fun v13:Bool=>St.mk' [(1,pp 0),(17,bv v13)] [(0,.box (Term.enc a1))]) (fun v13=>?_) (fun jv13=>?_)
   ·refine zF 17 (fun h14=>?_) (fun h14=>?_)
    ·refine J_g 484 [] [(2,iv 3)] [] zB ?_
     exact zR rfl
    ·refine zA (fun x15 h16=>?_)
     refine J_g 486 [] [(28,bv (decide (x15≥0)))] [] (zD 4 (xL [(.tmp 30),(.tmp 32)] [99,99] (zCa.ok a1.Low a1.High) h16) zB) ?_
     refine zF 28 (fun h17=>?_) (fun h17=>?_)
     ·refine J_g 1948 [] [(2,iv 1)] [] zB ?_
      exact zR rfl
     ·refine J_g 62 [] [(2,iv 0)] [] zB ?_
      exact zR rfl
   ·refine wJ (fun h10=>?_) (fun h10=>?_)
    ·refine zA (fun x11 h12=>?_)
     refine J_d 120 [] [4,15,17] [(17,bv (x11 !=0))] [] [] (zD 2 (xL [] [] (zE8.ok) h9) (zD 3 (zNs (b:=.neq) (r:=(a1.High.A==x8.A&&(a1.High.B==x8.B&&(a1.High.C==x8.C&&true)))) 99 99 (.tmp 19) (.tmp 20) [.int .i64 a1.High.A,.int .i64 a1.High.B,.int .i64 a1.High.C] [.int .i64 x8.A,.int .i64 x8.B,.int .i64 x8.C] (.inr ⟨rfl,rfl⟩)) (xU 4 [(21,bv (!(a1.High.A==x8.A&&(a1.High.B==x8.B&&(a1.High.C==x8.C&&true)))))] [] h10 (zDL 7 4 22 true (xL [(.tmp 24)] [99] (xP.ok a1.High) h12) zB)))) ?_
     exact yF (J_j (jv13 (x11 !=0))) rfl
    ·refine J_d 120 [] [4,15,17] [(17,bv false)] [] [] (zD 2 (xL [] [] (zE8.ok) h9) (zD 3 (zNs (b:=.neq) (r:=(a1.High.A==x8.A&&(a1.High.B==x8.B&&(a1.High.C==x8.C&&true)))) 99 99 (.tmp 19) (.tmp 20) [.int .i64 a1.High.A,.int .i64 a1.High.B,.int .i64 a1.High.C] [.int .i64 x8.A,.int .i64 x8.B,.int .i64 x8.C] (.inr ⟨rfl,rfl⟩)) (xU 4 [(21,bv (!(a1.High.A==x8.A&&(a1.High.B==x8.B&&(a1.High.C==x8.C&&true)))))] [] h10 zB))) ?_
     exact yF (J_j (jv13 false)) rfl
noncomputable def zQp:Code:=(Tryz.f191.body).getD .skip
theorem zAF.ok (a1:(List Term)) (q:Wd) (kn:Unit→Option (D×List Ent)) (hk:∀v:Unit,J (q.g Tryz.prog 191 0 18) zQp (atI zQp 7) (St.mk' [] []) (some v) kn):
  ∀s8:Int,J (q.g Tryz.prog 191 0 18) zQp (atI zQp 52) (St.mk' [(6,sl 7 Term.enc a1),(7,iv (a1.length:Int)),(8,iv s8)] []) (zAF a1 s8) (Fl.go (fun r:Int=>some (iv r,[])) kn):=by
 refine kP (fun g ih s8=>?_)
 unfold zAo
 refine J_d 104 [] [9] [(9,bv (decide (s8< (a1.length:Int))))] [] [] zB ?_
 refine zF 9 (fun h9=>?_) (fun h9=>?_)
 ·refine zA (fun x10 h11=>?_)
  refine J_d 1688 [(2,0)] [4,9] [(4,pp 0)] [0] [(0,.box (Term.enc x10))] (zD 0 (zAg (kk:=.i64) 75 149 7 Term.enc (.tmp 6) (.tmp 8) h11) zB) ?_
  refine zA (fun x12 h13=>?_)
  refine J_g 3378 [] [(5,iv x12),(6,sl 7 Term.enc a1),(7,iv (a1.length:Int)),(8,iv s8)] [] (zD 1 (xL [(.tmp 12)] [149] (zAP.ok x10) h13) zB) ?_
  refine J_d 6758 [] [15] [(15,bv (x12 !=0))] [] [] zB ?_
  refine zF 15 (fun h14=>?_) (fun h14=>?_)
  ·refine J_g 27036 [] [(2,iv x12)] [] zB ?_
   exact zR rfl
  ·refine J_d 423 [] [5,8,15] [(8,iv (w64 (s8+1)))] [] [] zB ?_
   exact J_q (J_b (ih (w64 (s8+1)))) rfl
 ·exact yF (hk ()) rfl
theorem vH.ok (a1:(List Term)):Ok Tryz.prog 191 [sl 7 Term.enc a1] [] ((vH a1).map fun r=>(iv r,[])):=by
 refine zH zQp Tryz.f191 0 18 (fun q=>?_)
 unfold vH
 refine J_g 2 [] [(0,sl 7 Term.enc a1)] [] zB ?_
 refine J_g 12 [] [(6,sl 7 Term.enc a1),(7,iv (a1.length:Int)),(8,iv 0)] [] zB ?_
 refine vU (K0:=(fun r:Int=>some (iv r,[]))) (fun _=>rfl) (zAF.ok a1 q _ (fun v15=>J_j ?_) 0)
 refine J_g 14 [] [(2,iv 0)] [] zB ?_
 exact zR rfl
noncomputable def c173:Code:=(Tryz.f173.body).getD .skip
theorem kU.ok (a1:Pack) (q:Wd) (kn:Unit→Option (D×List Ent)) (hk:∀v:Unit,J (q.g Tryz.prog 173 0 93) c173 (atI c173 63) (St.mk' [(1,pp 0)] [(0,.box (Pack.enc false a1))]) (some v) kn):
  ∀s54:Int,J (q.g Tryz.prog 173 0 93) c173 (atI c173 500) (St.mk' [(1,pp 0),(75,sl 1 (eSl false 7 Term.enc) a1.Needs),(76,iv (a1.Needs.length:Int)),(77,iv s54)] [(0,.box (Pack.enc false a1))]) (kU a1 s54) (Fl.go (fun r:Int=>some (iv r,[])) kn):=by
 refine kP (fun g ih s54=>?_)
 unfold zAI
 refine J_d 1000 [] [78] [(78,bv (decide (s54< (a1.Needs.length:Int))))] [] [] zB ?_
 refine zF 78 (fun h55=>?_) (fun h55=>?_)
 ·refine zA (fun x56 h57=>?_)
  refine J_g 16024 [] [(1,pp 0),(8,sl 7 Term.enc x56),(75,sl 1 (eSl false 7 Term.enc) a1.Needs),(76,iv (a1.Needs.length:Int)),(77,iv s54)] [(0,.box (Pack.enc false a1))] (zD 0 (zAg (kk:=.i64) 100 75 1 (eSl false 7 Term.enc) (.tmp 75) (.tmp 77) h57) zB) ?_
  refine J_d 64100 [] [83] [(83,bv ((x56.length:Int)==0))] [] [] zB ?_
  refine zF 83 (fun h58=>?_) (fun h58=>?_)
  ·refine J_g 256404 [] [(2,iv 1)] [] zB ?_
   exact zR rfl
  ·refine zA (fun x59 h60=>?_)
   refine J_g 64102 [] [(1,pp 0),(9,iv x59),(75,sl 1 (eSl false 7 Term.enc) a1.Needs),(76,iv (a1.Needs.length:Int)),(77,iv s54)] [(0,.box (Pack.enc false a1))] (zD 1 (xL [(.tmp 84)] [75] (vH.ok x56) h60) zB) ?_
   refine J_d 128206 [] [87] [(87,bv (x59 !=0))] [] [] zB ?_
   refine zF 87 (fun h61=>?_) (fun h61=>?_)
   ·refine J_g 512828 [] [(2,iv x59)] [] zB ?_
    exact zR rfl
   ·refine J_d 4007 [] [9,77,87] [(77,iv (w64 (s54+1)))] [] [] zB ?_
    exact J_q (J_b (ih (w64 (s54+1)))) rfl
 ·exact yF (hk ()) rfl
theorem kX.ok (a1:Pack) (q:Wd) (kn:Unit→Option (D×List Ent)) (hk:∀v:Unit,J (q.g Tryz.prog 173 0 93) c173 (atI c173 31) (St.mk' [(1,pp 0)] [(0,.box (Pack.enc false a1))]) (some v) kn):
  ∀s32:Int,J (q.g Tryz.prog 173 0 93) c173 (atI c173 244) (St.mk' [(1,pp 0),(49,sl 1 eStr a1.Provides),(50,iv (a1.Provides.length:Int)),(51,iv s32)] [(0,.box (Pack.enc false a1))]) (kX a1 s32) (Fl.go (fun r:Int=>some (iv r,[])) kn):=by
 refine kP (fun g ih s32=>?_)
 unfold zAD
 refine J_d 488 [] [52] [(52,bv (decide (s32< (a1.Provides.length:Int))))] [] [] zB ?_
 refine zF 52 (fun h33=>?_) (fun h33=>?_)
 ·refine zA (fun x34 h35=>?_)
  refine J_d 7832 [] [4,5,52] [(4,iv s32),(5,sv x34)] [] [] (zD 1 (zAg (kk:=.i64) 86 9 1 eStr (.tmp 49) (.tmp 51) h35) zB) ?_
  refine zA (fun x36 h37=>?_)
  refine J_g 31332 [] [(1,pp 0),(4,iv s32),(5,sv x34),(6,iv x36),(49,sl 1 eStr a1.Provides),(50,iv (a1.Provides.length:Int)),(51,iv s32)] [(0,.box (Pack.enc false a1))] (zD 1 (xL [(.tmp 56)] [9] (vE.ok x34) h37) zB) ?_
  refine J_d 62666 [] [59] [(59,bv (x36 !=0))] [] [] zB ?_
  refine zF 59 (fun h38=>?_) (fun h38=>?_)
  ·refine J_g 250668 [] [(2,iv x36)] [] zB ?_
   exact zR rfl
  ·refine yQ (atI c173 31335) (fun v44:Bool=>St.mk' [(1,pp 0),(49,sl 1 eStr a1.Provides),(50,iv (a1.Provides.length:Int)),(51,iv s32),(72,bv v44)] [(0,.box (Pack.enc false a1))]) (fun v44=>?_) (fun jv44=>?_)
   ·refine zF 72 (fun h45=>?_) (fun h45=>?_)
    ·refine J_g 125340 [] [(2,iv 6)] [] zB ?_
     exact zR rfl
    ·refine J_d 1959 [] [51,72] [(51,iv (w64 (s32+1)))] [] [] zB ?_
     exact J_q (J_b (ih (w64 (s32+1)))) rfl
   ·refine wJ (fun h39=>?_) (fun h39=>?_)
    ·refine J_d 31334 [] [4,5,6,59,72] [(72,bv true)] [] [] (xU 4 [(64,bv (seq x34 a1.Name))] [] h39 zB) ?_
     exact yF (J_j (jv44 true)) rfl
    ·refine zA (fun x40 h41=>?_)
     refine zA (fun x42 h43=>?_)
     refine J_d 31334 [] [4,5,6,59,72] [(72,bv x42)] [] [] (xU 4 [(64,bv (seq x34 a1.Name))] [] h39 (zDL 8 4 65 false (zQu 86 9 1 eStr (.tmp 67) none (some (.tmp 68)) h41) (zDL 10 4 65 false (xL [(.tmp 69),(.tmp 70)] [86,9] (yV.ok x40 x34) h43) zB))) ?_
     exact yF (J_j (jv44 x42)) rfl
 ·exact yF (hk ()) rfl
theorem zAN.ok (a1:Pack):Ok Tryz.prog 173 [.ag (Pack.enc false a1)] [] ((zAN a1).map fun r=>(iv r,[])):=by
 refine zH c173 Tryz.f173 0 93 (fun q=>?_)
 unfold zAN
 refine J_g 2 [(0,0)] [(1,pp 0)] [(0,.box (Pack.enc false a1))] zB ?_
 refine zA (fun x2 h3=>?_)
 refine zA (fun x4 h5=>?_)
 refine zA (fun x6 h7=>?_)
 refine J_g 12 [] [(1,pp 0),(3,iv x6)] [(0,.box (Pack.enc false a1))] (zD 2 (xL [(.tmp 11)] [9] (vE.ok a1.Name) h3) (zD 5 (xL [(.tmp 14)] [99] (xP.ok a1.Version) h5) (zD 6 (zDM 39 2 1 1 zG [x2,x4] [0,1] [(.tmp 12),(.tmp 15)] [iv x2,iv x4]) (zD 7 (wG («as»:=[rr 1 [x2,x4]]) [(.tmp 16)] [39] true [(1,rE 1 zG [x2,x4])] [] (.cons (zDP (.head _) (fun _=>rfl) rfl) (.nil)) (zAQ.ok [x2,x4]) h7 (.same rfl rfl) (hbor:=fun _=>⟨fhN,zT⟩)) zB)))) ?_
 refine J_d 26 [] [19] [(19,bv (x6 !=0))] [] [] zB ?_
 refine zF 19 (fun h8=>?_) (fun h8=>?_)
 ·refine J_g 108 [] [(2,iv x6)] [] zB ?_
  exact zR rfl
 ·refine zA (fun x9 h10=>?_)
  refine J_d 56 [] [3,19,21] [(21,bv (!x9))] [] [] (zD 2 (xL [(.tmp 23),(.const (.int .i64 1)),(.const (.int .i64 200))] [2,2,2] (yS.ok a1.Size 1 200) h10) zB) ?_
  refine zF 21 (fun h11=>?_) (fun h11=>?_)
  ·refine J_g 228 [] [(2,iv 3)] [] zB ?_
   exact zR rfl
  ·refine yQ (atI c173 231) (fun v17:Bool=>St.mk' [(1,pp 0),(26,bv v17)] [(0,.box (Pack.enc false a1))]) (fun v17=>?_) (fun jv17=>?_)
   ·refine zF 26 (fun h18=>?_) (fun h18=>?_)
    ·refine J_g 924 [] [(2,iv 2)] [] zB ?_
     exact zR rfl
    ·refine J_d 60 [] [26,49,50,51] [(49,sl 1 eStr a1.Provides),(50,iv (a1.Provides.length:Int)),(51,iv 0)] [] [] zB ?_
     refine vU (K0:=(fun r:Int=>some (iv r,[]))) (fun _=>rfl) (kX.ok a1 q _ (fun v46=>J_j ?_) 0)
     refine J_d 124 [] [75,76,77] [(75,sl 1 (eSl false 7 Term.enc) a1.Needs),(76,iv (a1.Needs.length:Int)),(77,iv 0)] [] [] zB ?_
     refine vU (K0:=(fun r:Int=>some (iv r,[]))) (fun _=>rfl) (kU.ok a1 q _ (fun v62=>J_j ?_) 0)
     refine zA (fun x63 h64=>?_)
     refine J_g 126 [] [(2,iv x63)] [] (zD 2 (xL [(.tmp 91)] [75] (vH.ok a1.Bars) h64) zB) ?_
     exact zR rfl
   ·refine wJ (fun h12=>?_) (fun h12=>?_)
    ·refine J_d 230 [] [21,26] [(26,bv true)] [] [] (xU 4 [(30,bv (decide ((a1.Provides.length:Int)>4)))] [] h12 zB) ?_
     exact yF (J_j (jv17 true)) rfl
    ·refine wJ (fun h13=>?_) (fun h13=>?_)
     ·refine J_d 230 [] [21,26] [(26,bv true)] [] [] (xU 4 [(30,bv (decide ((a1.Provides.length:Int)>4)))] [] h12 (xU 10 [(36,bv (decide ((a1.Needs.length:Int)>4)))] [] h13 zB)) ?_
      exact yF (J_j (jv17 true)) rfl
     ·refine wJ (fun h14=>?_) (fun h14=>?_)
      ·refine J_d 230 [] [21,26] [(26,bv true)] [] [] (xU 4 [(30,bv (decide ((a1.Provides.length:Int)>4)))] [] h12 (xU 10 [(36,bv (decide ((a1.Needs.length:Int)>4)))] [] h13 (xU 16 [(42,bv (decide ((a1.Bars.length:Int)>4)))] [] h14 zB))) ?_
       exact yF (J_j (jv17 true)) rfl
      ·refine zA (fun x15 h16=>?_)
       refine J_d 230 [] [21,26] [(26,bv x15)] [] [] (xU 4 [(30,bv (decide ((a1.Provides.length:Int)>4)))] [] h12 (xU 10 [(36,bv (decide ((a1.Needs.length:Int)>4)))] [] h13 (xU 16 [(42,bv (decide ((a1.Bars.length:Int)>4)))] [] h14 (zDL 19 16 43 false (wG («as»:=[sl 1 (eSl false 7 Term.enc) a1.Needs,.fn 242 []]) [(.tmp 45),(.func 242)] [100,154] false [] [] (.cons (.same rfl) (.cons (.fn (.nil)) (.nil))) (zO.ok a1.Needs) h16 (.same rfl rfl)) zB)))) ?_
       exact yF (J_j (jv17 x15)) rfl
noncomputable def zRa:Code:=(Tryz.f244.body).getD .skip
theorem zDA.ok (a1:Pack) (a2:ByteArray) (a3:Version):Ok Tryz.prog 244 [.ag (Pack.enc false a1),pp 0,pp 1] [.box [sv a2],.box (Version.enc a3)] ((zDA a1 a2 a3).map fun r=>(bv r,[.box [sv a2],.box (Version.enc a3)])):=by
 refine zH zRa Tryz.f244 2 15 (fun q=>?_)
 unfold zDA
 refine J_d 2 [(0,2)] [0,3] [(3,pp 2)] [2] [(2,.box (Pack.enc false a1))] zB ?_
 refine wJ (fun h4=>?_) (fun h4=>?_)
 ·refine J_d 6 [] [1,2,3,4] [(4,bv (a1.Version.A==a3.A&&(a1.Version.B==a3.B&&(a1.Version.C==a3.C&&true))))] [2] [] (xU 4 [(8,bv (seq a1.Name a2))] [] h4 (zDL 8 4 9 true (zNs (b:=.eql) (r:=(a1.Version.A==a3.A&&(a1.Version.B==a3.B&&(a1.Version.C==a3.C&&true)))) 99 99 (.tmp 11) (.tmp 12) [.int .i64 a1.Version.A,.int .i64 a1.Version.B,.int .i64 a1.Version.C] [.int .i64 a3.A,.int .i64 a3.B,.int .i64 a3.C] (.inl ⟨rfl,rfl⟩)) zB)) ?_
  exact zR rfl
 ·refine J_d 6 [] [1,2,3,4] [(4,bv false)] [2] [] (xU 4 [(8,bv (seq a1.Name a2))] [] h4 zB) ?_
  exact zR rfl
noncomputable def zQg:Code:=(Tryz.f243.body).getD .skip
theorem yM.ok (a1:(List Pack)) (a2:ByteArray) (a3:Version) (q:Wd) (kn:Unit→Option (D×List Ent)) (hk:∀v:Unit,J (q.g Tryz.prog 243 2 19) zQg (atI zQg 7) (St.mk' [] [(0,.box [sv a2]),(1,.box (Version.enc a3))]) (some v) kn):
  ∀s10:Int,J (q.g Tryz.prog 243 2 19) zQg (atI zQg 52) (St.mk' [(0,sl 8 (Pack.enc false) a1),(1,.fn 244 [pp 0,pp 1]),(7,iv (a1.length:Int)),(8,iv s10)] [(0,.box [sv a2]),(1,.box (Version.enc a3))]) (yM a1 a2 a3 s10) (Fl.go (fun r:Int=>some (iv r,[.box [sv a2],.box (Version.enc a3)])) kn):=by
 refine kP (fun g ih s10=>?_)
 unfold yL
 refine J_d 104 [] [9] [(9,bv (decide (s10< (a1.length:Int))))] [] [] zB ?_
 refine zF 9 (fun h11=>?_) (fun h11=>?_)
 ·refine J_d 1688 [] [5,9] [(5,iv s10)] [] [] zB ?_
  refine zA (fun x12 h13=>?_)
  refine zA (fun x14 h15=>?_)
  refine J_d 3378 [] [16] [(16,bv x14)] [] [] (zD 3 (zAg (kk:=.i64) 30 102 8 (Pack.enc false) (.tmp 12) (.tmp 13) h13) (zD 5 (zFL [(0,.box [sv a2]),(1,.box (Version.enc a3))] [] (zOp 11 [(.tmp 15)] [102] false [(0,.box [sv a2]),(1,.box (Version.enc a3))] [0,1] [.ag (Pack.enc false x12)] [pp 0,pp 1] (.cons (.same rfl) (.cons (.pt rfl) (.cons (.pt rfl) (.nil)))) (zDA.ok x12 a2 a3) h15 (.same rfl rfl))) zB)) ?_
  refine zF 16 (fun h16=>?_) (fun h16=>?_)
  ·refine J_d 13516 [] [0,1,4,5,7,8,16] [(4,iv s10)] [] [] zB ?_
   exact zR rfl
  ·refine J_d 423 [] [5,8,16] [(8,iv (w64 (s10+1)))] [] [] zB ?_
   exact J_q (J_b (ih (w64 (s10+1)))) rfl
 ·exact yF (hk ()) rfl
theorem yI.ok (a1:(List Pack)) (a2:ByteArray) (a3:Version):Ok Tryz.prog 243 [sl 8 (Pack.enc false) a1,.fn 244 [pp 0,pp 1]] [.box [sv a2],.box (Version.enc a3)] ((yI a1 a2 a3).map fun r=>(iv r,[.box [sv a2],.box (Version.enc a3)])):=by
 refine zH zQg Tryz.f243 2 19 (fun q=>?_)
 unfold yI
 refine J_g 2 [] [(0,sl 8 (Pack.enc false) a1),(1,.fn 244 [pp 0,pp 1])] [(0,.box [sv a2]),(1,.box (Version.enc a3))] zB ?_
 refine J_d 12 [] [7,8] [(7,iv (a1.length:Int)),(8,iv 0)] [] [] zB ?_
 refine vU (K0:=(fun r:Int=>some (iv r,[.box [sv a2],.box (Version.enc a3)]))) (fun _=>rfl) (yM.ok a1 a2 a3 q _ (fun v17=>J_j ?_) 0)
 refine J_d 14 [] [4] [(4,iv (-1))] [] [] zB ?_
 exact zR rfl
noncomputable def zR0:Code:=(Tryz.f174.body).getD .skip
theorem zCS.ok (a1:(List Pack)) (a2:ByteArray) (a3:Version):Ok Tryz.prog 174 [sl 8 (Pack.enc false) a1,sv a2,.ag (Version.enc a3)] [] ((zCS a1 a2 a3).map fun r=>(iv r,[])):=by
 refine zH zR0 Tryz.f174 0 10 (fun q=>?_)
 unfold zCS
 refine J_d 2 [(0,0),(1,1)] [1,2,4,5] [(4,pp 0),(5,pp 1)] [0,1] [(0,.box [sv a2]),(1,.box (Version.enc a3))] zB ?_
 refine zA (fun x4 h5=>?_)
 refine J_g 6 [] [(6,iv x4)] [] (zD 2 (zFL [(0,.box [sv a2]),(1,.box (Version.enc a3))] [] (wG («as»:=[sl 8 (Pack.enc false) a1,.fn 244 [pp 0,pp 1]]) [(.tmp 7),(.tmp 8)] [30,249] false [(0,.box [sv a2]),(1,.box (Version.enc a3))] [0,1] (.cons (.same rfl) (.cons (.fn (.cons (.pt rfl) (.cons (.pt rfl) (.nil)))) (.nil))) (yI.ok a1 a2 a3) h5 (.same rfl rfl))) zB) ?_
 exact zR rfl
noncomputable def c99:Code:=(Tryz.f99.body).getD .skip
theorem jZ.ok (a1:(List Pack)) (q:Wd) (kn:Unit→Option (D×List Ent)) (hk:∀v:Unit,J (q.g Tryz.prog 99 0 31) c99 (atI c99 15) (St.mk' [] []) (some v) kn):
  ∀s14:Int,J (q.g Tryz.prog 99 0 31) c99 (atI c99 116) (St.mk' [(0,sl 8 (Pack.enc false) a1),(9,sl 8 (Pack.enc false) a1),(10,iv (a1.length:Int)),(11,iv s14)] []) (jZ a1 s14) (Fl.go (fun r:Int=>some (iv r,[])) kn):=by
 refine kP (fun g ih s14=>?_)
 unfold tZ
 refine J_d 232 [] [12] [(12,bv (decide (s14< (a1.length:Int))))] [] [] zB ?_
 refine zF 12 (fun h15=>?_) (fun h15=>?_)
 ·refine zA (fun x16 h17=>?_)
  refine J_d 3736 [(3,0)] [3,4,12] [(3,iv s14),(4,pp 0)] [0] [(0,.box (Pack.enc false x16))] (zD 1 (zAg (kk:=.i64) 30 102 8 (Pack.enc false) (.tmp 9) (.tmp 11) h17) zB) ?_
  refine zA (fun x18 h19=>?_)
  refine J_g 14948 [] [(0,sl 8 (Pack.enc false) a1),(3,iv s14),(4,pp 0),(5,iv x18),(9,sl 8 (Pack.enc false) a1),(10,iv (a1.length:Int)),(11,iv s14)] [(0,.box (Pack.enc false x16))] (zD 1 (xL [(.tmp 16)] [102] (zAN.ok x16) h19) zB) ?_
  refine J_d 29898 [] [19] [(19,bv (x18 !=0))] [] [] zB ?_
  refine zF 19 (fun h20=>?_) (fun h20=>?_)
  ·refine J_g 119596 [] [(2,iv x18)] [] zB ?_
   exact zR rfl
  ·refine zA (fun x21 h22=>?_)
   refine zA (fun x23 h24=>?_)
   refine J_d 14950 [] [3,4,5,19,29] [(29,bv (decide (x23≥0)))] [0] [] (zD 2 (zQu 30 102 8 (Pack.enc false) (.tmp 21) none (some (.tmp 22)) h22) (zD 7 (xL [(.tmp 23),(.tmp 25),(.tmp 27)] [30,9,99] (zCS.ok x21 x16.Name x16.Version) h24) zB)) ?_
   refine zF 29 (fun h25=>?_) (fun h25=>?_)
   ·refine J_g 59804 [] [(2,iv 6)] [] zB ?_
    exact zR rfl
   ·refine J_d 935 [] [11,29] [(11,iv (w64 (s14+1)))] [] [] zB ?_
    exact J_q (J_b (ih (w64 (s14+1)))) rfl
 ·exact yF (hk ()) rfl
theorem wP.ok (a1:(List Pack)):Ok Tryz.prog 99 [sl 8 (Pack.enc false) a1] [] ((wP a1).map fun r=>(iv r,[])):=by
 refine zH c99 Tryz.f99 0 31 (fun q=>?_)
 unfold wP
 refine J_g 2 [] [(0,sl 8 (Pack.enc false) a1)] [] zB ?_
 refine J_d 12 [] [8] [(8,bv (decide ((a1.length:Int)>24)))] [] [] zB ?_
 refine zF 8 (fun h2=>?_) (fun h2=>?_)
 ·refine J_g 52 [] [(2,iv 2)] [] zB ?_
  exact zR rfl
 ·refine J_d 28 [] [8,9,10,11] [(9,sl 8 (Pack.enc false) a1),(10,iv (a1.length:Int)),(11,iv 0)] [] [] zB ?_
  refine vU (K0:=(fun r:Int=>some (iv r,[]))) (fun _=>rfl) (jZ.ok a1 q _ (fun v26=>J_j ?_) 0)
  refine J_g 30 [] [(2,iv 0)] [] zB ?_
  exact zR rfl
noncomputable def c152:Code:=(Tryz.f152.body).getD .skip
theorem kY.ok (a1:ByteArray) (q:Wd) (kn:Unit→Option (D×List Ent)) (hk:∀v:Unit,J (q.g Tryz.prog 152 0 37) c152 (atI c152 15) (St.mk' [] []) (some v) kn):
  ∀s15:Int,J (q.g Tryz.prog 152 0 37) c152 (atI c152 116) (St.mk' [(0,sv a1),(14,iv (a1.size:Int)),(15,iv s15)] []) (kY a1 s15) (Fl.go (fun r:Int=>some (iv r,[])) kn):=by
 refine kP (fun g ih s15=>?_)
 unfold zD8
 refine J_d 232 [] [16] [(16,bv (decide (s15< (a1.size:Int))))] [] [] zB ?_
 refine zF 16 (fun h16=>?_) (fun h16=>?_)
 ·refine J_d 3736 [] [3,16] [(3,iv s15)] [] [] zB ?_
  refine zA (fun x17 h18=>?_)
  refine J_d 7474 [] [3,4] [(4,uv x17)] [] [] (zD 2 (zKr (kk:=.i64) 9 (.tmp 18) (.tmp 19) h18) zB) ?_
  refine zA (fun x19 h20=>?_)
  refine yQ (atI c152 14951) (fun v24:Bool=>St.mk' [(0,sv a1),(14,iv (a1.size:Int)),(15,iv s15),(35,bv v24)] []) (fun v24=>?_) (fun jv24=>?_)
  ·refine zF 35 (fun h25=>?_) (fun h25=>?_)
   ·refine J_g 59804 [] [(2,iv 5)] [] zB ?_
    exact zR rfl
   ·refine J_d 935 [] [15,35] [(15,iv (w64 (s15+1)))] [] [] zB ?_
    exact J_q (J_b (ih (w64 (s15+1)))) rfl
  ·refine wJ (fun h21=>?_) (fun h21=>?_)
   ·refine wJ (fun h22=>?_) (fun h22=>?_)
    ·refine wJ (fun h23=>?_) (fun h23=>?_)
     ·refine J_d 14950 [] [4,35] [(35,bv (x17 !=47))] [] [] (zD 1 (xL [(.tmp 21)] [5] (xK.ok x17) h20) (xU 3 [(23,bv (!x19))] [] h21 (xU 7 [(27,bv (x17 !=46))] [] h22 (xU 11 [(31,bv (x17 !=45))] [] h23 zB)))) ?_
      exact yF (J_j (jv24 (x17 !=47))) rfl
     ·refine J_d 14950 [] [4,35] [(35,bv false)] [] [] (zD 1 (xL [(.tmp 21)] [5] (xK.ok x17) h20) (xU 3 [(23,bv (!x19))] [] h21 (xU 7 [(27,bv (x17 !=46))] [] h22 (xU 11 [(31,bv (x17 !=45))] [] h23 zB)))) ?_
      exact yF (J_j (jv24 false)) rfl
    ·refine J_d 14950 [] [4,35] [(35,bv false)] [] [] (zD 1 (xL [(.tmp 21)] [5] (xK.ok x17) h20) (xU 3 [(23,bv (!x19))] [] h21 (xU 7 [(27,bv (x17 !=46))] [] h22 zB))) ?_
     exact yF (J_j (jv24 false)) rfl
   ·refine J_d 14950 [] [4,35] [(35,bv false)] [] [] (zD 1 (xL [(.tmp 21)] [5] (xK.ok x17) h20) (xU 3 [(23,bv (!x19))] [] h21 zB)) ?_
    exact yF (J_j (jv24 false)) rfl
 ·exact yF (hk ()) rfl
theorem zAO.ok (a1:ByteArray):Ok Tryz.prog 152 [sv a1] [] ((zAO a1).map fun r=>(iv r,[])):=by
 refine zH c152 Tryz.f152 0 37 (fun q=>?_)
 unfold zAO
 refine J_g 2 [] [(0,sv a1)] [] zB ?_
 refine yQ (atI c152 13) (fun v3:Bool=>St.mk' [(0,sv a1),(12,bv v3)] []) (fun v3=>?_) (fun jv3=>?_)
 ·refine zF 12 (fun h4=>?_) (fun h4=>?_)
  ·refine J_g 52 [] [(2,iv 5)] [] zB ?_
   exact zR rfl
  ·refine J_g 28 [] [(0,sv a1),(14,iv (a1.size:Int)),(15,iv 0)] [] zB ?_
   refine vU (K0:=(fun r:Int=>some (iv r,[]))) (fun _=>rfl) (kY.ok a1 q _ (fun v26=>J_j ?_) 0)
   refine J_g 30 [] [(2,iv 0)] [] zB ?_
   exact zR rfl
 ·refine wJ (fun h2=>?_) (fun h2=>?_)
  ·refine J_g 12 [] [(0,sv a1),(12,bv true)] [] (xU 3 [(7,bv (decide ((a1.size:Int)<1)))] [] h2 zB) ?_
   exact yF (J_j (jv3 true)) rfl
  ·refine J_g 12 [] [(0,sv a1),(12,bv (decide ((a1.size:Int)>40)))] [] (xU 3 [(7,bv (decide ((a1.size:Int)<1)))] [] h2 zB) ?_
   exact yF (J_j (jv3 (decide ((a1.size:Int)>40)))) rfl
noncomputable def zP5:Code:=(Tryz.f153.body).getD .skip
theorem zBT.ok (a1:zC) (q:Wd) (kn:Int→Option (D×List Ent)) (hk:∀v:Int,J (q.g Tryz.prog 153 0 20) zP5 (atI zP5 15) (St.mk' [(3,iv v)] []) (some v) kn):
  ∀s5:(Int×Int),J (q.g Tryz.prog 153 0 20) zP5 (atI zP5 116) (St.mk' [(3,iv s5.1),(7,sl 2 (File.enc false) a1.Files),(8,iv (a1.Files.length:Int)),(9,iv s5.2)] []) (zBT a1 s5) kn:=by
 refine kP (fun g ih s5=>?_)
 unfold zEi
 refine J_d 232 [] [10] [(10,bv (decide (s5.2< (a1.Files.length:Int))))] [] [] zB ?_
 refine zF 10 (fun h6=>?_) (fun h6=>?_)
 ·refine zA (fun x7 h8=>?_)
  refine J_g 3736 [(2,0)] [(3,iv s5.1),(5,pp 0),(7,sl 2 (File.enc false) a1.Files),(8,iv (a1.Files.length:Int)),(9,iv s5.2)] [(0,.box (File.enc false x7))] (zD 0 (zAg (kk:=.i64) 31 138 2 (File.enc false) (.tmp 7) (.tmp 9) h8) zB) ?_
  refine J_g 3737 [] [(3,iv (w64 (s5.1+(x7.Data.length:Int)))),(7,sl 2 (File.enc false) a1.Files),(8,iv (a1.Files.length:Int)),(9,iv s5.2)] [] zB ?_
  refine J_d 935 [] [9] [(9,iv (w64 (s5.2+1)))] [] [] zB ?_
  exact J_q (J_b (ih (w64 (s5.1+(x7.Data.length:Int)),w64 (s5.2+1)))) rfl
 ·exact yF (hk s5.1) rfl
theorem zCc.ok (a1:zC):Ok Tryz.prog 153 [.ag (zC.enc false a1)] [] ((zCc a1).map fun r=>(iv r,[])):=by
 refine zH zP5 Tryz.f153 0 20 (fun q=>?_)
 unfold zCc
 refine J_g 2 [(0,0)] [(1,pp 0)] [(0,.box (zC.enc false a1))] zB ?_
 refine J_g 6 [] [(1,pp 0),(3,iv 0)] [(0,.box (zC.enc false a1))] zB ?_
 refine J_g 28 [] [(3,iv 0),(7,sl 2 (File.enc false) a1.Files),(8,iv (a1.Files.length:Int)),(9,iv 0)] [] zB ?_
 refine zEM (zBT.ok a1 q _ (fun v9=>J_j ?_) (0,0))
 refine J_g 30 [] [(2,iv v9)] [] zB ?_
 exact zR rfl
noncomputable def zOS:Code:=(Tryz.f100.body).getD .skip
theorem kV.ok (a1:zC) (q:Wd) (kn:Unit→Option (D×List Ent)) (hk:∀v:Unit,J (q.g Tryz.prog 100 0 68) zOS (atI zOS 15) (St.mk' [(1,pp 0)] [(0,.box (zC.enc false a1))]) (some v) kn):
  ∀s25:Int,J (q.g Tryz.prog 100 0 68) zOS (atI zOS 116) (St.mk' [(1,pp 0),(29,sl 2 (File.enc false) a1.Files),(30,iv (a1.Files.length:Int)),(31,iv s25)] [(0,.box (zC.enc false a1))]) (kV a1 s25) (Fl.go (fun r:Int=>some (iv r,[])) kn):=by
 refine kP (fun g ih s25=>?_)
 unfold zDy
 refine J_d 232 [] [32] [(32,bv (decide (s25< (a1.Files.length:Int))))] [] [] zB ?_
 refine zF 32 (fun h26=>?_) (fun h26=>?_)
 ·refine zA (fun x27 h28=>?_)
  refine J_d 3736 [(3,1)] [3,4,32] [(3,iv s25),(4,pp 1)] [1] [(1,.box (File.enc false x27))] (zD 1 (zAg (kk:=.i64) 31 138 2 (File.enc false) (.tmp 29) (.tmp 31) h28) zB) ?_
  refine zA (fun x29 h30=>?_)
  refine J_g 14948 [] [(1,pp 0),(3,iv s25),(4,pp 1),(5,iv x29),(29,sl 2 (File.enc false) a1.Files),(30,iv (a1.Files.length:Int)),(31,iv s25)] [(0,.box (zC.enc false a1)),(1,.box (File.enc false x27))] (zD 2 (xL [(.tmp 37)] [9] (zAO.ok x27.Path) h30) zB) ?_
  refine J_d 29898 [] [40] [(40,bv (x29 !=0))] [] [] zB ?_
  refine zF 40 (fun h31=>?_) (fun h31=>?_)
  ·refine J_g 119596 [] [(2,iv x29)] [] zB ?_
   exact zR rfl
  ·refine yQ (atI zOS 29901) (fun v35:Bool=>St.mk' [(1,pp 0),(4,pp 1),(29,sl 2 (File.enc false) a1.Files),(30,iv (a1.Files.length:Int)),(31,iv s25),(42,bv v35)] [(0,.box (zC.enc false a1)),(1,.box (File.enc false x27))]) (fun v35=>?_) (fun jv35=>?_)
   ·refine zF 42 (fun h36=>?_) (fun h36=>?_)
    ·refine J_g 119604 [] [(2,iv 1)] [] zB ?_
     exact zR rfl
    ·refine J_d 119606 [] [4,42,57] [(57,bv (decide ((x27.Data.length:Int)>4000)))] [1] [] zB ?_
     refine zF 57 (fun h37=>?_) (fun h37=>?_)
     ·refine J_g 478428 [] [(2,iv 2)] [] zB ?_
      exact zR rfl
     ·refine J_d 935 [] [31,57] [(31,iv (w64 (s25+1)))] [] [] zB ?_
      exact J_q (J_b (ih (w64 (s25+1)))) rfl
   ·refine wJ (fun h32=>?_) (fun h32=>?_)
    ·refine zA (fun x33 h34=>?_)
     refine J_d 29900 [] [3,5,40,42] [(42,bv (slt x27.Path x33.Path||seq x27.Path x33.Path))] [] [] (xU 2 [(44,bv (decide (s25>0)))] [] h32 (zDL 9 2 45 true (zAg (kk:=.i64) 31 138 2 (File.enc false) (.tmp 49) (.tmp 51) h34) zB)) ?_
     exact yF (J_j (jv35 (slt x27.Path x33.Path||seq x27.Path x33.Path))) rfl
    ·refine J_d 29900 [] [3,5,40,42] [(42,bv false)] [] [] (xU 2 [(44,bv (decide (s25>0)))] [] h32 zB) ?_
     exact yF (J_j (jv35 false)) rfl
 ·exact yF (hk ()) rfl
theorem zAR.ok (a1:zC):Ok Tryz.prog 100 [.ag (zC.enc false a1)] [] ((zAR a1).map fun r=>(iv r,[])):=by
 refine zH zOS Tryz.f100 0 68 (fun q=>?_)
 unfold zAR
 refine J_g 2 [(0,0)] [(1,pp 0)] [(0,.box (zC.enc false a1))] zB ?_
 refine zA (fun x2 h3=>?_)
 refine yQ (atI zOS 25) (fun v10:Bool=>St.mk' [(1,pp 0),(6,bv v10)] [(0,.box (zC.enc false a1))]) (fun v10=>?_) (fun jv10=>?_)
 ·refine zF 6 (fun h11=>?_) (fun h11=>?_)
  ·refine J_g 100 [] [(2,iv 3)] [] zB ?_
   exact zR rfl
  ·refine J_d 102 [] [6,23] [(23,bv (decide ((a1.Files.length:Int)>120)))] [] [] zB ?_
   refine zF 23 (fun h12=>?_) (fun h12=>?_)
   ·refine J_g 412 [] [(2,iv 2)] [] zB ?_
    exact zR rfl
   ·refine J_d 28 [] [23,29,30,31] [(29,sl 2 (File.enc false) a1.Files),(30,iv (a1.Files.length:Int)),(31,iv 0)] [] [] zB ?_
    refine vU (K0:=(fun r:Int=>some (iv r,[]))) (fun _=>rfl) (kV.ok a1 q _ (fun v38=>J_j ?_) 0)
    refine zA (fun x39 h40=>?_)
    refine J_g 60 [] [(67,bv (decide (x39>a1.Budget)))] [] (zD 1 (xL [(.tmp 63)] [33] (zCc.ok a1) h40) zB) ?_
    refine zF 67 (fun h41=>?_) (fun h41=>?_)
    ·refine J_g 244 [] [(2,iv 8)] [] zB ?_
     exact zR rfl
    ·refine J_g 62 [] [(2,iv 0)] [] zB ?_
     exact zR rfl
 ·refine wJ (fun h4=>?_) (fun h4=>?_)
  ·refine J_d 24 [] [6] [(6,bv true)] [] [] (zD 2 (xL [(.tmp 8),(.const (.int .i64 0)),(.const (.int .i64 20000))] [2,2,2] (yS.ok a1.Budget 0 20000) h3) (xU 4 [(10,bv (!x2))] [] h4 zB)) ?_
   exact yF (J_j (jv10 true)) rfl
  ·refine zA (fun x5 h6=>?_)
   refine wJ (fun h7=>?_) (fun h7=>?_)
   ·refine J_d 24 [] [6] [(6,bv true)] [] [] (zD 2 (xL [(.tmp 8),(.const (.int .i64 0)),(.const (.int .i64 20000))] [2,2,2] (yS.ok a1.Budget 0 20000) h3) (xU 4 [(10,bv (!x2))] [] h4 (zDL 7 4 11 false (xL [(.tmp 13),(.const (.int .i64 0)),(.const (.int .i64 1000000000))] [2,2,2] (yS.ok a1.Writes 0 1000000000) h6) (xU 10 [(16,bv (!x5))] [] h7 zB)))) ?_
    exact yF (J_j (jv10 true)) rfl
   ·refine zA (fun x8 h9=>?_)
    refine J_d 24 [] [6] [(6,bv (!x8))] [] [] (zD 2 (xL [(.tmp 8),(.const (.int .i64 0)),(.const (.int .i64 20000))] [2,2,2] (yS.ok a1.Budget 0 20000) h3) (xU 4 [(10,bv (!x2))] [] h4 (zDL 7 4 11 false (xL [(.tmp 13),(.const (.int .i64 0)),(.const (.int .i64 1000000000))] [2,2,2] (yS.ok a1.Writes 0 1000000000) h6) (xU 10 [(16,bv (!x5))] [] h7 (zDL 13 10 17 false (xL [(.tmp 19),(.const (.int .i64 (-1))),(.const (.int .i64 1000000000))] [2,2,2] (yS.ok a1.Stop (-1) 1000000000) h9) zB))))) ?_
    exact yF (J_j (jv10 (!x8))) rfl
noncomputable def zR1:Code:=(Tryz.f221.body).getD .skip
theorem jO.ok (a1:(List Int)):Ok Tryz.prog 221 [sl 1 eU8 a1] [] ((jO a1).map fun r=>(so 1 eU8 r,[])):=by
 refine zH zR1 Tryz.f221 0 8 (fun q=>?_)
 unfold jO
 refine J_g 2 [] [(0,sl 1 eU8 a1)] [] zB ?_
 refine J_d 12 [] [4] [(4,.nb a1.length)] [] [] (zD 1 (zM7 (xs:=a1) 121 5 121 1 eU8 (.tmp 3)) zB) ?_
 refine zQS 4 rfl (fun h2=>?_) ?_
 ·obtain rfl:a1=[]:=List.eq_nil_of_length_eq_zero h2
  refine zOu (e':=some ([]:List Int)) (by kernel_rfl) ?_
  refine J_g 52 [] [(2,nv)] [] zB ?_
  exact zAM (ds:=[nv]) (ds':=[so 1 eU8 ([]:List Int)]) (.cons (.cell (.nilsl true 1 (.nil))) (.nil) (by decide)) rfl
 ·refine zA (fun x3 h4=>?_)
  refine J_g 14 [] [(2,rr 1 x3)] [(1,rE 1 eU8 x3)] (zD 0 (zDM 121 5 1 0 eU8 ([]:List Int) [] [] []) (zD 2 (zOL 121 121 5 5 1 1 1 0 eU8 (.tmp 5) (.tmp 6) h4) zB)) ?_
  exact zAM (ds:=[rr 1 x3]) (ds':=[so 1 eU8 x3]) (.cons (.cell (.move (.head _) (List.length_map _) (by decide) (.nil))) (.nil) (by decide)) rfl
noncomputable def zQc:Code:=(Tryz.f200.body).getD .skip
theorem tL.ok (a1:zC) (q:Wd) (kn:(List File)→Option (D×List Ent)) (hk:∀v:(List File),J (q.g Tryz.prog 200 0 28) zQc (atI zQc 31) (St.mk' [(2,pp 1),(3,pp 2)] [(1,.box [nv,iv 0,iv 0,iv 0,bv false]),(2,.box [rr 3 v,iv a1.Budget,iv a1.Writes,iv a1.Stop,bv a1.Down]),(3,rE 2 (File.enc true) v)]) (some v) kn):
  ∀s16:((List File)×Int),J (q.g Tryz.prog 200 0 28) zQc (atI zQc 244) (St.mk' [(2,pp 1),(3,pp 2),(9,sl 2 (File.enc false) a1.Files),(10,iv (a1.Files.length:Int)),(11,iv s16.2)] [(1,.box [nv,iv 0,iv 0,iv 0,bv false]),(2,.box [rr 3 s16.1,iv a1.Budget,iv a1.Writes,iv a1.Stop,bv a1.Down]),(3,rE 2 (File.enc true) s16.1)]) (tL a1 s16) kn:=by
 refine kP (fun g ih s16=>?_)
 unfold zCN
 refine J_d 488 [] [12] [(12,bv (decide (s16.2< (a1.Files.length:Int))))] [] [] zB ?_
 refine zF 12 (fun h17=>?_) (fun h17=>?_)
 ·refine zA (fun x18 h19=>?_)
  refine J_d 7832 [(2,4)] [5,12] [(5,pp 4)] [4] [(4,.box (File.enc false x18))] (zD 0 (zAg (kk:=.i64) 31 138 2 (File.enc false) (.tmp 9) (.tmp 11) h19) zB) ?_
  refine zA (fun x20 h21=>?_)
  refine zA (fun x22 h23=>?_)
  refine J_g 7833 [] [(2,pp 1),(3,pp 2),(9,sl 2 (File.enc false) a1.Files),(10,iv (a1.Files.length:Int)),(11,iv s16.2)] [(1,.box [nv,iv 0,iv 0,iv 0,bv false]),(2,.box [rr 7 x22,iv a1.Budget,iv a1.Writes,iv a1.Stop,bv a1.Down]),(7,rE 2 (File.enc true) x22)] (zD 6 (wG («as»:=[sl 1 eU8 x18.Data]) [(.tmp 20)] [121] false [] [] (.cons (.same rfl) (.nil)) (jO.ok x18.Data) h21 (.own 5)) (zD 8 (zQz (ds:=[sv x18.Path,rr 5 x20]) (ts:=[5]) 31 138 2 6 (File.enc true) [({Path:=x18.Path,Data:=x20}:File)] [0] [(.tmp 22)] [.ag [sv x18.Path,rr 5 x20]] [(5,rE 1 eU8 x20)] (.keep rfl (.move (.head _) (List.length_map _) (by decide) (.nil)))) (zD 9 (zG4 31 31 138 138 2 40 7 3 6 (File.enc true) (.tmp 16) (.tmp 23) h23) zB))) ?_
  refine J_d 1959 [] [11] [(11,iv (w64 (s16.2+1)))] [] [] zB ?_
  refine kR 7 3 (Nat.le_of_ble_eq_true rfl) (Nat.le_of_ble_eq_true rfl) ?_
  exact J_q (J_b (ih (x22,w64 (s16.2+1)))) rfl
 ·exact yF (hk s16.1) rfl
theorem uN.ok (a1:zC):Ok Tryz.prog 200 [.ag (zC.enc false a1)] [] ((uN a1).map fun r=>(.ag (zC.enc true r),[])):=by
 refine zH zQc Tryz.f200 0 28 (fun q=>?_)
 unfold uN
 refine J_g 2 [(0,0),(1,1)] [(1,pp 0),(2,pp 1)] [(0,.box (zC.enc false a1)),(1,.box [nv,iv 0,iv 0,iv 0,bv false])] zB ?_
 refine J_g 6 [(1,2)] [(1,pp 0),(2,pp 1),(3,pp 2)] [(0,.box (zC.enc false a1)),(1,.box [nv,iv 0,iv 0,iv 0,bv false]),(2,.box (zC.enc false a1))] zB ?_
 refine J_g 14 [] [(1,pp 0),(2,pp 1),(3,pp 2)] [(0,.box (zC.enc false a1)),(1,.box [nv,iv 0,iv 0,iv 0,bv false]),(2,.box [nv,iv a1.Budget,iv a1.Writes,iv a1.Stop,bv a1.Down])] zB ?_
 refine J_d 60 [] [1,9,10,11] [(9,sl 2 (File.enc false) a1.Files),(10,iv (a1.Files.length:Int)),(11,iv 0)] [0] [] zB ?_
 refine zOw 2 0 3 2 rfl rfl (Nat.le_of_ble_eq_true rfl) (by kernel_rfl) ?_
 refine zEM (tL.ok a1 q _ (fun v24=>J_j ?_) (([]:List File),0))
 refine J_g 62 [] [(2,pp 1)] [(1,.box [rr 3 v24,iv a1.Budget,iv a1.Writes,iv a1.Stop,bv a1.Down]),(3,rE 2 (File.enc true) v24)] zB ?_
 exact zAM (ds:=[.ag [rr 3 v24,iv a1.Budget,iv a1.Writes,iv a1.Stop,bv a1.Down]]) (ds':=[.ag [so 2 (File.enc true) v24,iv a1.Budget,iv a1.Writes,iv a1.Stop,bv a1.Down]]) (.cons (.ag (.move (.tail _ (.head _)) (List.length_map _) (by decide) (.keep rfl (.keep rfl (.keep rfl (.keep rfl (.nil))))))) (.nil) (by decide)) rfl
theorem bytealg_CompareString.ok (a1 a2:ByteArray):Ok Tryz.prog 278 [sv a1,sv a2] [] ((bytealg_CompareString a1 a2).map fun r=>(iv r,[])):=
 zQO (vs:=[.string a1,.string a2]) (fun w=>Tryz.bytealg_CompareString a1 a2 w)
noncomputable def c212:Code:=(Tryz.f212.body).getD .skip
theorem strings_Compare.ok (a1:ByteArray) (a2:ByteArray):Ok Tryz.prog 212 [sv a1,sv a2] [] ((strings_Compare a1 a2).map fun r=>(iv r,[])):=by
 refine zH c212 Tryz.f212 0 8 (fun q=>?_)
 unfold strings_Compare
 refine J_d 2 [] [] [] [] [] zB ?_
 refine zA (fun x3 h4=>?_)
 refine J_g 6 [] [(4,iv x3)] [] (zD 2 (xL [(.tmp 5),(.tmp 6)] [9,9] (bytealg_CompareString.ok a1 a2) h4) zB) ?_
 exact zR rfl
noncomputable def zRB:Code:=(Tryz.f211.body).getD .skip
theorem vR.ok (a1:File) (a2:ByteArray):Ok Tryz.prog 211 [.ag (File.enc false a1),sv a2] [] ((vR a1 a2).map fun r=>(iv r,[])):=by
 refine zH zRB Tryz.f211 0 9 (fun q=>?_)
 unfold vR
 refine J_g 2 [(0,0)] [(1,sv a2),(2,pp 0)] [(0,.box (File.enc false a1))] zB ?_
 refine zA (fun x3 h4=>?_)
 refine J_g 6 [] [(4,iv x3)] [] (zD 3 (xL [(.tmp 6),(.tmp 7)] [9,9] (strings_Compare.ok a1.Path a2) h4) zB) ?_
 exact zR rfl
noncomputable def c210:Code:=(Tryz.f210.body).getD .skip
theorem zU.ok (a1:(List File)) (a2:ByteArray) (q:Wd) (kn:Int→Option (D×List Ent)) (hk:∀v:Int,J (q.g Tryz.prog 210 0 49) c210 (atI c210 31) (St.mk' [(0,sl 2 (File.enc false) a1),(1,sv a2),(2,.fn 211 []),(8,iv (a1.length:Int)),(9,iv v)] []) (some v) kn):
  ∀s9:(Int×Int),J (q.g Tryz.prog 210 0 49) c210 (atI c210 120) (St.mk' [(0,sl 2 (File.enc false) a1),(1,sv a2),(2,.fn 211 []),(8,iv (a1.length:Int)),(9,iv s9.1),(10,iv s9.2)] []) (zU a1 a2 s9) kn:=by
 refine kP (fun g ih s9=>?_)
 unfold yC
 refine J_d 480 [] [17] [(17,bv (decide (s9.1<s9.2)))] [] [] zB ?_
 refine zF 17 (fun h10=>?_) (fun h10=>?_)
 ·refine J_d 964 [] [11,17] [(11,iv (w64 ((IntKind.u64.wrap (w64 (s9.1+s9.2))).fdiv (2^(min (1:Int).toNat 64)))))] [] [] zB ?_
  refine zA (fun x11 h12=>?_)
  refine zA (fun x13 h14=>?_)
  refine J_d 1930 [] [31] [(31,bv (decide (x13<0)))] [] [] (zD 3 (zAg (kk:=.i64) 31 138 2 (File.enc false) (.tmp 25) (.tmp 26) h12) (zD 6 (zNo («as»:=[.ag (File.enc false x11),sv a2]) (caps:=[]) 24 [(.tmp 28),(.tmp 29)] [138,9] (vR.ok x11 a2) h14) zB)) ?_
  refine zF 31 (fun h15=>?_) (fun h15=>?_)
  ·refine J_d 3862 [] [9,11,31] [(9,iv (w64 ((w64 ((IntKind.u64.wrap (w64 (s9.1+s9.2))).fdiv (2^(min (1:Int).toNat 64))))+1)))] [] [] zB ?_
   exact J_q (J_b (ih (w64 ((w64 ((IntKind.u64.wrap (w64 (s9.1+s9.2))).fdiv (2^(min (1:Int).toNat 64))))+1),s9.2))) rfl
  ·refine J_d 3863 [] [10,11,31] [(10,iv (w64 ((IntKind.u64.wrap (w64 (s9.1+s9.2))).fdiv (2^(min (1:Int).toNat 64)))))] [] [] zB ?_
   exact J_q (J_b (ih (s9.1,w64 ((IntKind.u64.wrap (w64 (s9.1+s9.2))).fdiv (2^(min (1:Int).toNat 64)))))) rfl
 ·exact yF (hk s9.1) rfl
theorem zK.ok (a1:(List File)) (a2:ByteArray):Ok Tryz.prog 210 [sl 2 (File.enc false) a1,sv a2,.fn 211 []] [] ((zK a1 a2).map fun r=>(.tu [iv r.1,bv r.2],[])):=by
 refine zH c210 Tryz.f210 0 49 (fun q=>?_)
 unfold zK
 refine J_g 2 [] [(0,sl 2 (File.enc false) a1),(1,sv a2),(2,.fn 211 [])] [] zB ?_
 refine J_g 6 [] [(0,sl 2 (File.enc false) a1),(1,sv a2),(2,.fn 211 []),(8,iv (a1.length:Int))] [] zB ?_
 refine J_d 14 [] [9,10] [(9,iv 0),(10,iv (a1.length:Int))] [] [] zB ?_
 refine zEM (zU.ok a1 a2 q _ (fun v16=>J_j ?_) (0,(a1.length:Int)))
 refine wJ (fun h17=>?_) (fun h17=>?_)
 ·refine zA (fun x18 h19=>?_)
  refine zA (fun x20 h21=>?_)
  refine J_g 62 [] [(6,iv v16),(7,bv (x20==0))] [] (xU 4 [(38,bv (decide (v16< (a1.length:Int))))] [] h17 (zDL 8 4 39 true (zAg (kk:=.i64) 31 138 2 (File.enc false) (.tmp 41) (.tmp 42) h19) (zDL 11 4 39 true (zNo («as»:=[.ag (File.enc false x18),sv a2]) (caps:=[]) 40 [(.tmp 44),(.tmp 45)] [138,9] (vR.ok x18 a2) h21) zB))) ?_
  exact zN1 rfl
 ·refine J_g 62 [] [(6,iv v16),(7,bv false)] [] (xU 4 [(38,bv (decide (v16< (a1.length:Int))))] [] h17 zB) ?_
  exact zN1 rfl
noncomputable def c138:Code:=(Tryz.f138.body).getD .skip
theorem wZ.ok (a1:zC) (a2:ByteArray):Ok Tryz.prog 138 [.ag (zC.enc false a1),sv a2] [] ((wZ a1 a2).map fun r=>(.tu [iv r.1,bv r.2],[])):=by
 refine zH c138 Tryz.f138 0 12 (fun q=>?_)
 unfold wZ
 refine J_g 2 [(0,0)] [(1,sv a2),(2,pp 0)] [(0,.box (zC.enc false a1))] zB ?_
 refine zA (fun x3 h4=>?_)
 refine J_g 6 [] [(4,iv x3.1),(5,bv x3.2)] [] (zD 3 (wG («as»:=[sl 2 (File.enc false) a1.Files,sv a2,.fn 211 []]) [(.tmp 7),(.tmp 8),(.func 211)] [31,9,238] false [] [] (.cons (.same rfl) (.cons (.same rfl) (.cons (.fn (.nil)) (.nil)))) (zK.ok a1.Files a2) h4 (.tu (.cons (.same rfl rfl) (.cons (.same rfl rfl) (.nil))))) zB) ?_
 exact zN1 rfl
noncomputable def zRC:Code:=(Tryz.f104.body).getD .skip
theorem yR.ok (a1:zC) (a2:ByteArray):Ok Tryz.prog 104 [.ag (zC.enc false a1),sv a2] [] ((yR a1 a2).map fun r=>(.tu [sl 1 eU8 r.1,bv r.2],[])):=by
 refine zH zRC Tryz.f104 0 22 (fun q=>?_)
 unfold yR
 refine J_g 2 [(0,0)] [(1,sv a2),(2,pp 0)] [(0,.box (zC.enc false a1))] zB ?_
 refine zA (fun x3 h4=>?_)
 refine J_g 6 [] [(2,pp 0),(6,iv x3.1),(7,bv x3.2)] [(0,.box (zC.enc false a1))] (zD 2 (xL [(.tmp 9),(.tmp 10)] [33,9] (wZ.ok a1 a2) h4) zB) ?_
 refine J_d 28 [] [7,15] [(15,bv (!x3.2))] [] [] zB ?_
 refine zF 15 (fun h5=>?_) (fun h5=>?_)
 ·refine J_g 116 [] [(4,nv),(5,bv false)] [] zB ?_
  exact zAM (ds:=[nv,bv false]) (ds':=[sl 1 eU8 ([]:List Int),bv false]) (.cons (.cell (.nilsl false 1 (.nil))) (.cons (.cell (.keep rfl (.nil))) (.nil) (by decide)) (by decide)) rfl
 ·refine zA (fun x6 h7=>?_)
  refine J_g 30 [] [(4,sl 1 eU8 x6.Data),(5,bv true)] [] (zD 3 (zAg (kk:=.i64) 31 138 2 (File.enc false) (.tmp 17) (.tmp 18) h7) zB) ?_
  exact zN1 rfl
noncomputable def c64:Code:=(Tryz.f64.body).getD .skip
theorem tF.ok (a1:zC):Ok Tryz.prog 64 [pp 0] [.box (zC.enc true a1)] ((tF a1).map fun r=>(bv r,[.box (zC.enc true a1)])):=by
 refine zH c64 Tryz.f64 1 13 (fun q=>?_)
 unfold tF
 refine yU 0 (cs':=[rr 1 a1.Files,iv a1.Budget,iv a1.Writes,iv a1.Stop,bv a1.Down]) (es:=[(1,rE 2 (File.enc true) a1.Files)]) rfl (.cons (.own 1) (.cons (.same rfl rfl) (.cons (.same rfl rfl) (.cons (.same rfl rfl) (.cons (.same rfl rfl) (.nil)))))) rfl (by kernel_rfl) (by kernel_rfl) ?_
 refine vS [(0,pp 0)] [(0,.box [rr 1 a1.Files,iv a1.Budget,iv a1.Writes,iv a1.Stop,bv a1.Down]),(1,rE 2 (File.enc true) a1.Files)] (by kernel_rfl) ?_
 refine J_d 2 [] [] [] [] [] zB ?_
 refine zA (fun x2 h3=>?_)
 refine J_g 6 [] [(4,bv x2.2)] [(0,.box [rr 1 a1.Files,iv a1.Budget,iv a1.Writes,iv a1.Stop,bv a1.Down]),(1,rE 2 (File.enc true) a1.Files)] (zD 3 (wG («as»:=[.ag [rr 1 a1.Files,iv a1.Budget,iv a1.Writes,iv a1.Stop,bv a1.Down],sv (bs [112,108,97,110])]) [(.tmp 8),(.const (.string (bs [112,108,97,110])))] [72,9] true [(1,rE 2 (File.enc true) a1.Files)] [] (.cons (.ag (.cons (zDP (.head _) (File.ro true) rfl) (.cons (.same rfl) (.cons (.same rfl) (.cons (.same rfl) (.cons (.same rfl) (.nil))))))) (.cons (.same rfl) (.nil))) (zQD (fun r=>(.tu [.ln r.1.length,bv r.2],[])) (yR.ok a1 (bs [112,108,97,110])) (fun r=>.tu (.cons zQ7 (.cons .same (.nil))))) h3 (.tu (.cons (.same rfl rfl) (.cons (.same rfl rfl) (.nil)))) (hbor:=fun _=>⟨fhN,(zHy (flatK trivial (flatK zT zDQ)))⟩)) zB) ?_
 refine J_g 14 [] [(2,bv x2.2)] [(0,.box [rr 1 a1.Files,iv a1.Budget,iv a1.Writes,iv a1.Stop,bv a1.Down]),(1,rE 2 (File.enc true) a1.Files)] zB ?_
 refine xG 0 (cs':=[so 2 (File.enc true) a1.Files,iv a1.Budget,iv a1.Writes,iv a1.Stop,bv a1.Down]) (ts:=[1]) rfl (.move (.head _) (List.length_map _) (by decide) (.keep rfl (.keep rfl (.keep rfl (.keep rfl (.nil)))))) ?_
 refine vS [(2,bv x2.2)] [(0,.box (zC.enc true a1))] (by kernel_rfl) ?_
 exact zR rfl
noncomputable def zR6:Code:=(Tryz.f277.body).getD .skip
theorem xC.ok (a1:ByteArray) (a2:ByteArray):Ok Tryz.prog 277 [sv a1,sv a2] [] ((xC a1 a2).map fun r=>(bv r,[])):=by
 refine zH zR6 Tryz.f277 0 18 (fun q=>?_)
 unfold xC
 refine J_d 2 [] [] [] [] [] zB ?_
 refine wJ (fun h3=>?_) (fun h3=>?_)
 ·refine zA (fun x4 h5=>?_)
  refine J_g 6 [] [(4,bv (seq x4 a2))] [] (xU 5 [(9,bv (decide ((a1.size:Int)≥(a2.size:Int))))] [] h3 (zDL 9 5 10 true (zPj 9 (.tmp 11) none (some (.tmp 13)) h5) zB)) ?_
  exact zR rfl
 ·refine J_g 6 [] [(4,bv false)] [] (xU 5 [(9,bv (decide ((a1.size:Int)≥(a2.size:Int))))] [] h3 zB) ?_
  exact zR rfl
noncomputable def c208:Code:=(Tryz.f208.body).getD .skip
theorem strings_HasPrefix.ok (a1:ByteArray) (a2:ByteArray):Ok Tryz.prog 208 [sv a1,sv a2] [] ((strings_HasPrefix a1 a2).map fun r=>(bv r,[])):=by
 refine zH c208 Tryz.f208 0 8 (fun q=>?_)
 unfold strings_HasPrefix
 refine J_d 2 [] [] [] [] [] zB ?_
 refine zA (fun x3 h4=>?_)
 refine J_g 6 [] [(4,bv x3)] [] (zD 2 (xL [(.tmp 5),(.tmp 6)] [9,9] (xC.ok a1 a2) h4) zB) ?_
 exact zR rfl
noncomputable def zPz:Code:=(Tryz.f136.body).getD .skip
theorem jM.ok (a1:zC) (a2:ByteArray) (q:Wd) (kn:(List ByteArray)→Option (D×List Ent)) (hk:∀v:(List ByteArray),J (q.g Tryz.prog 136 0 27) zPz (atI zPz 15) (St.mk' [(5,rr 1 v)] [(1,rE 1 eStr v)]) (some v) kn):
  ∀s12:((List ByteArray)×Int),J (q.g Tryz.prog 136 0 27) zPz (atI zPz 116) (St.mk' [(1,sv a2),(5,rr 1 s12.1),(10,sl 2 (File.enc false) a1.Files),(11,iv (a1.Files.length:Int)),(12,iv s12.2)] [(1,rE 1 eStr s12.1)]) (jM a1 a2 s12) kn:=by
 refine kP (fun g ih s12=>?_)
 unfold zDu
 refine J_d 232 [] [13] [(13,bv (decide (s12.2< (a1.Files.length:Int))))] [] [] zB ?_
 refine zF 13 (fun h13=>?_) (fun h13=>?_)
 ·refine zA (fun x14 h15=>?_)
  refine J_d 3736 [(2,2)] [7,13] [(7,pp 2)] [2] [(2,.box (File.enc false x14))] (zD 0 (zAg (kk:=.i64) 31 138 2 (File.enc false) (.tmp 10) (.tmp 12) h15) zB) ?_
  refine zA (fun x16 h17=>?_)
  refine J_d 7474 [] [19] [(19,bv x16)] [] [] (zD 3 (xL [(.tmp 17),(.tmp 18)] [9,9] (strings_HasPrefix.ok x14.Path a2) h17) zB) ?_
  refine yQ (aft zPz 1868) (fun v21:(List ByteArray)=>St.mk' [(1,sv a2),(5,rr 4 v21),(10,sl 2 (File.enc false) a1.Files),(11,iv (a1.Files.length:Int)),(12,iv s12.2)] [(4,rE 1 eStr v21)]) (fun v21=>?_) (fun jv21=>?_)
  ·refine J_d 935 [] [12] [(12,iv (w64 (s12.2+1)))] [] [] zB ?_
   refine kR 4 1 (Nat.le_of_ble_eq_true rfl) (Nat.le_of_ble_eq_true rfl) ?_
   exact J_q (J_b (ih (v21,w64 (s12.2+1)))) rfl
  ·refine zF 19 (fun h18=>?_) (fun h18=>?_)
   ·refine zA (fun x19 h20=>?_)
    refine J_d 14950 [] [5,7,19] [(5,rr 4 x19)] [1,2,4] [(4,rE 1 eStr x19)] (zD 3 (zDM 86 9 1 3 eStr [x14.Path] [0] [(.tmp 22)] [sv x14.Path]) (zD 4 (zG4 86 86 9 9 1 16 4 1 3 eStr (.tmp 20) (.tmp 23) h20) zB)) ?_
    exact yF (J_j (jv21 x19)) rfl
   ·refine kR 1 4 (Nat.le_of_ble_eq_true rfl) (Nat.le_of_ble_eq_true rfl) ?_
    exact yF (J_j (jv21 s12.1)) rfl
 ·exact yF (hk s12.1) rfl
theorem uF.ok (a1:zC) (a2:ByteArray):Ok Tryz.prog 136 [.ag (zC.enc false a1),sv a2] [] ((uF a1 a2).map fun r=>(so 1 eStr r,[])):=by
 refine zH zPz Tryz.f136 0 27 (fun q=>?_)
 unfold uF
 refine J_g 2 [(0,0)] [(1,sv a2),(2,pp 0)] [(0,.box (zC.enc false a1))] zB ?_
 refine J_g 6 [] [(1,sv a2),(2,pp 0),(5,rr 1 ([]:List ByteArray))] [(0,.box (zC.enc false a1)),(1,rE 1 eStr ([]:List ByteArray))] (zD 0 (zDM 86 9 1 1 eStr ([]:List ByteArray) [] [] []) zB) ?_
 refine J_d 28 [] [2,10,11,12] [(10,sl 2 (File.enc false) a1.Files),(11,iv (a1.Files.length:Int)),(12,iv 0)] [0] [] zB ?_
 refine zEM (jM.ok a1 a2 q _ (fun v22=>J_j ?_) (([]:List ByteArray),0))
 refine J_g 30 [] [(4,rr 1 v22)] [(1,rE 1 eStr v22)] zB ?_
 exact zAM (ds:=[rr 1 v22]) (ds':=[so 1 eStr v22]) (.cons (.cell (.move (.head _) (List.length_map _) (by decide) (.nil))) (.nil) (by decide)) rfl
noncomputable def zON:Code:=(Tryz.f176.body).getD .skip
theorem zCO.ok (a1:ByteArray) (q:Wd) (kn:Int→Option (D×List Ent)) (hk:∀v:Int,J (q.g Tryz.prog 176 0 40) zON (atI zON 31) (St.mk' [(5,iv v)] []) (some v) kn):
  ∀s16:(Int×Int),J (q.g Tryz.prog 176 0 40) zON (atI zON 244) (St.mk' [(0,sv a1),(5,iv s16.1),(16,iv (a1.size:Int)),(17,iv s16.2)] []) (zCO a1 s16) (Fl.go (fun r:Int=>some (iv r,[])) kn):=by
 refine kP (fun g ih s16=>?_)
 unfold zCz
 refine J_d 488 [] [18] [(18,bv (decide (s16.2< (a1.size:Int))))] [] [] zB ?_
 refine zF 18 (fun h17=>?_) (fun h17=>?_)
 ·refine J_d 7832 [] [6,18] [(6,iv s16.2)] [] [] zB ?_
  refine zA (fun x18 h19=>?_)
  refine yQ (atI zON 31333) (fun v23:Bool=>St.mk' [(0,sv a1),(5,iv s16.1),(6,iv s16.2),(16,iv (a1.size:Int)),(17,iv s16.2),(29,bv v23)] []) (fun v23=>?_) (fun jv23=>?_)
  ·refine zF 29 (fun h24=>?_) (fun h24=>?_)
   ·refine J_g 125332 [] [(4,iv (-1))] [] zB ?_
    exact zR rfl
   ·refine zA (fun x25 h26=>?_)
    refine J_g 15667 [] [(0,sv a1),(5,iv (w64 ((w64 (10*s16.1))+(w64 (IntKind.u8.wrap (x25-48)))))),(16,iv (a1.size:Int)),(17,iv s16.2)] [] (zD 4 (zKr (kk:=.i64) 9 (.tmp 32) (.tmp 33) h26) zB) ?_
    refine J_d 1959 [] [17] [(17,iv (w64 (s16.2+1)))] [] [] zB ?_
    exact J_q (J_b (ih (w64 ((w64 (10*s16.1))+(w64 (IntKind.u8.wrap (x25-48)))),w64 (s16.2+1)))) rfl
  ·refine wJ (fun h20=>?_) (fun h20=>?_)
   ·refine J_d 31332 [] [29] [(29,bv true)] [] [] (zD 2 (zKr (kk:=.i64) 9 (.tmp 20) (.tmp 21) h19) (xU 4 [(23,bv (decide (x18<48)))] [] h20 zB)) ?_
    exact yF (J_j (jv23 true)) rfl
   ·refine zA (fun x21 h22=>?_)
    refine J_d 31332 [] [29] [(29,bv (decide (x21>57)))] [] [] (zD 2 (zKr (kk:=.i64) 9 (.tmp 20) (.tmp 21) h19) (xU 4 [(23,bv (decide (x18<48)))] [] h20 (zDL 7 4 24 false (zKr (kk:=.i64) 9 (.tmp 25) (.tmp 26) h22) zB))) ?_
    exact yF (J_j (jv23 (decide (x21>57)))) rfl
 ·exact yF (hk s16.1) rfl
theorem zAt.ok (a1:ByteArray) (a2:Int):Ok Tryz.prog 176 [sv a1,iv a2] [] ((zAt a1 a2).map fun r=>(iv r,[])):=by
 refine zH zON Tryz.f176 0 40 (fun q=>?_)
 unfold zAt
 refine J_d 2 [] [] [] [] [] zB ?_
 refine yQ (atI zON 13) (fun v4:Bool=>St.mk' [(0,sv a1),(14,bv v4)] []) (fun v4=>?_) (fun jv4=>?_)
 ·refine zF 14 (fun h5=>?_) (fun h5=>?_)
  ·refine J_g 52 [] [(4,iv (-1))] [] zB ?_
   exact zR rfl
  ·refine J_g 14 [] [(0,sv a1),(5,iv 0)] [] zB ?_
   refine J_d 60 [] [16,17] [(16,iv (a1.size:Int)),(17,iv 0)] [] [] zB ?_
   refine vU (K0:=(fun r:Int=>some (iv r,[]))) (fun _=>rfl) (zCO.ok a1 q _ (fun v27=>J_j ?_) (0,0))
   refine J_g 62 [] [(4,iv v27)] [] zB ?_
   exact zR rfl
 ·refine wJ (fun h3=>?_) (fun h3=>?_)
  ·refine J_g 12 [] [(0,sv a1),(14,bv true)] [] (xU 2 [(8,bv (seq a1 (bs [])))] [] h3 zB) ?_
   exact yF (J_j (jv4 true)) rfl
  ·refine J_g 12 [] [(0,sv a1),(14,bv (decide ((a1.size:Int)>a2)))] [] (xU 2 [(8,bv (seq a1 (bs [])))] [] h3 zB) ?_
   exact yF (J_j (jv4 (decide ((a1.size:Int)>a2)))) rfl
noncomputable def zPc:Code:=(Tryz.f128.body).getD .skip
theorem zBk.ok (x2:(List ByteArray)) (q:Wd) (kn:(List Int)→Option (D×List Ent)) (hk:∀v:(List Int),J (q.g Tryz.prog 128 0 31) zPc (atI zPc 15) (St.mk' [(3,rr 1 v)] [(1,rE 1 zG v)]) (some v) kn):
  ∀s17:((List Int)×Int),J (q.g Tryz.prog 128 0 31) zPc (atI zPc 116) (St.mk' [(3,rr 1 s17.1),(9,rr 2 x2),(10,iv (x2.length:Int)),(11,iv s17.2)] [(1,rE 1 zG s17.1),(2,rE 1 eStr x2)]) (zBk x2 s17) kn:=by
 refine kP (fun g ih s17=>?_)
 unfold zA4
 refine J_d 232 [] [12] [(12,bv (decide (s17.2< (x2.length:Int))))] [] [] zB ?_
 refine zF 12 (fun h18=>?_) (fun h18=>?_)
 ·refine zA (fun x19 h20=>?_)
  refine J_d 3736 [] [5,12] [(5,sv x19)] [] [] (zD 0 (wM (kk:=.i64) 86 9 1 2 eStr (.tmp 9) (.tmp 11) h20) (zD 1 (jH (d:=sv x19) 9 1 2 0 eStr (.tmp 13) h20 (by kernel_rfl)) zB)) ?_
  refine zA (fun x21 h22=>?_)
  refine zA (fun x23 h24=>?_)
  refine J_d 7474 [] [6] [(6,iv x23)] [] [] (zD 1 (zPj 9 (.tmp 15) (some (.const (.int .i64 4))) none h22) (zD 2 (xL [(.tmp 16),(.const (.int .i64 6))] [9,3] (zAt.ok x21 6) h24) zB)) ?_
  refine yQ (atI zPc 14951) (fun v26:Bool=>St.mk' [(3,rr 1 s17.1),(6,iv x23),(9,rr 2 x2),(10,iv (x2.length:Int)),(11,iv s17.2),(24,bv v26)] [(1,rE 1 zG s17.1),(2,rE 1 eStr x2)]) (fun v26=>?_) (fun jv26=>?_)
  ·refine yQ (aft zPc 1868) (fun v30:(List Int)=>St.mk' [(3,rr 4 v30),(9,rr 2 x2),(10,iv (x2.length:Int)),(11,iv s17.2)] [(2,rE 1 eStr x2),(4,rE 1 zG v30)]) (fun v30=>?_) (fun jv30=>?_)
   ·refine J_d 935 [] [11] [(11,iv (w64 (s17.2+1)))] [] [] zB ?_
    refine kR 4 1 (Nat.le_of_ble_eq_true rfl) (Nat.le_of_ble_eq_true rfl) ?_
    exact J_q (J_b (ih (v30,w64 (s17.2+1)))) rfl
   ·refine zF 24 (fun h27=>?_) (fun h27=>?_)
    ·refine zA (fun x28 h29=>?_)
     refine J_d 29902 [] [3,6,24] [(3,rr 4 x28)] [1,4] [(4,rE 1 zG x28)] (zD 2 (zDM 39 2 1 3 zG [x23] [0] [(.tmp 26)] [iv x23]) (zD 3 (zG4 39 39 2 2 1 8 4 1 3 zG (.tmp 25) (.tmp 27) h29) zB)) ?_
     exact yF (J_j (jv30 x28)) rfl
    ·refine kR 1 4 (Nat.le_of_ble_eq_true rfl) (Nat.le_of_ble_eq_true rfl) ?_
     exact yF (J_j (jv30 s17.1)) rfl
  ·refine wJ (fun h25=>?_) (fun h25=>?_)
   ·refine J_d 14950 [] [5,24] [(24,bv ((x19.size:Int)==10))] [] [] (xU 2 [(19,bv (decide (x23≥1)))] [] h25 zB) ?_
    exact yF (J_j (jv26 ((x19.size:Int)==10))) rfl
   ·refine J_d 14950 [] [5,24] [(24,bv false)] [] [] (xU 2 [(19,bv (decide (x23≥1)))] [] h25 zB) ?_
    exact yF (J_j (jv26 false)) rfl
 ·exact yF (hk s17.1) rfl
theorem wD.ok (a1:zC):Ok Tryz.prog 128 [.ag (zC.enc false a1)] [] ((wD a1).map fun r=>(so 1 zG r,[])):=by
 refine zH zPc Tryz.f128 0 31 (fun q=>?_)
 unfold wD
 refine J_g 2 [(0,0)] [(1,pp 0)] [(0,.box (zC.enc false a1))] zB ?_
 refine J_d 6 [] [3] [(3,rr 1 ([]:List Int))] [1] [(1,rE 1 zG ([]:List Int))] (zD 0 (zDM 39 2 1 1 zG ([]:List Int) [] [] []) zB) ?_
 refine zA (fun x2 h3=>?_)
 refine J_d 28 [] [1,9,10,11] [(9,rr 2 x2),(10,iv (x2.length:Int)),(11,iv 0)] [0,2] [(2,rE 1 eStr x2)] (zD 1 (wG («as»:=[.ag (zC.enc false a1),sv (bs [103,101,110,47])]) [(.tmp 8),(.const (.string (bs [103,101,110,47])))] [33,9] false [] [] (.cons (.same rfl) (.cons (.same rfl) (.nil))) (uF.ok a1 (bs [103,101,110,47])) h3 (.own 2)) zB) ?_
 refine zEM (zBk.ok x2 q _ (fun v31=>J_j ?_) (([]:List Int),0))
 refine J_g 30 [] [(2,rr 1 v31)] [(1,rE 1 zG v31)] zB ?_
 exact zAM (ds:=[rr 1 v31]) (ds':=[so 1 zG v31]) (.cons (.cell (.move (.head _) (List.length_map _) (by decide) (.nil))) (.nil) (by decide)) rfl
noncomputable def zPG:Code:=(Tryz.f204.body).getD .skip
theorem uP.ok (a1:(List Int)) (a2:Int) (q:Wd) (kn:Unit→Option (D×List Ent)) (hk:∀v:Unit,J (q.g Tryz.prog 204 0 19) zPG (atI zPG 7) (St.mk' [] []) (some v) kn):
  ∀s7:Int,J (q.g Tryz.prog 204 0 19) zPG (atI zPG 52) (St.mk' [(0,sl 1 zG a1),(1,iv a2),(7,iv (a1.length:Int)),(8,iv s7)] []) (uP a1 a2 s7) (Fl.go (fun r:Int=>some (iv r,[])) kn):=by
 refine kP (fun g ih s7=>?_)
 unfold uD
 refine J_d 104 [] [9] [(9,bv (decide (s7< (a1.length:Int))))] [] [] zB ?_
 refine zF 9 (fun h8=>?_) (fun h8=>?_)
 ·refine J_d 1688 [] [5,9] [(5,iv s7)] [] [] zB ?_
  refine zA (fun x9 h10=>?_)
  refine J_d 3378 [] [16] [(16,bv (a2==x9))] [] [] (zD 3 (zAg (kk:=.i64) 39 2 1 zG (.tmp 12) (.tmp 13) h10) zB) ?_
  refine zF 16 (fun h11=>?_) (fun h11=>?_)
  ·refine J_g 13516 [] [(4,iv s7)] [] zB ?_
   exact zR rfl
  ·refine J_d 423 [] [5,8,16] [(8,iv (w64 (s7+1)))] [] [] zB ?_
   exact J_q (J_b (ih (w64 (s7+1)))) rfl
 ·exact yF (hk ()) rfl
theorem tN.ok (a1:(List Int)) (a2:Int):Ok Tryz.prog 204 [sl 1 zG a1,iv a2] [] ((tN a1 a2).map fun r=>(iv r,[])):=by
 refine zH zPG Tryz.f204 0 19 (fun q=>?_)
 unfold tN
 refine J_g 2 [] [(0,sl 1 zG a1),(1,iv a2)] [] zB ?_
 refine J_d 12 [] [7,8] [(7,iv (a1.length:Int)),(8,iv 0)] [] [] zB ?_
 refine vU (K0:=(fun r:Int=>some (iv r,[]))) (fun _=>rfl) (uP.ok a1 a2 q _ (fun v12=>J_j ?_) 0)
 refine J_g 14 [] [(4,iv (-1))] [] zB ?_
 exact zR rfl
noncomputable def c131:Code:=(Tryz.f131.body).getD .skip
theorem zV.ok (a1:(List Int)) (a2:Int):Ok Tryz.prog 131 [sl 1 zG a1,iv a2] [] ((zV a1 a2).map fun r=>(bv r,[])):=by
 refine zH c131 Tryz.f131 0 9 (fun q=>?_)
 unfold zV
 refine J_d 2 [] [] [] [] [] zB ?_
 refine zA (fun x3 h4=>?_)
 refine J_g 6 [] [(4,bv (decide (x3≥0)))] [] (zD 2 (xL [(.tmp 5),(.tmp 6)] [39,2] (tN.ok a1 a2) h4) zB) ?_
 exact zR rfl
noncomputable def c130:Code:=(Tryz.f130.body).getD .skip
theorem kS.ok (a1:Int) (a2:(List Int)):Ok Tryz.prog 130 [iv a1,pp 0] [.box [so 1 zG a2]] ((kS a1 a2).map fun r=>(bv r,[.box [so 1 zG a2]])):=by
 refine zH c130 Tryz.f130 1 8 (fun q=>?_)
 unfold kS
 refine yU 0 (cs':=[rr 1 a2]) (es:=[(1,rE 1 zG a2)]) rfl (.cons (.own 1) (.nil)) rfl (by kernel_rfl) (by kernel_rfl) ?_
 refine vS [(0,iv a1),(1,pp 0)] [(0,.box [rr 1 a2]),(1,rE 1 zG a2)] (by kernel_rfl) ?_
 refine J_d 2 [] [] [] [] [] zB ?_
 refine zA (fun x3 h4=>?_)
 refine J_g 6 [] [(3,bv (!x3))] [(0,.box [rr 1 a2]),(1,rE 1 zG a2)] (zD 2 (wG («as»:=[rr 1 a2,iv a1]) [(.tmp 4),(.tmp 5)] [39,2] true [(1,rE 1 zG a2)] [] (.cons (zDP (.head _) (fun _=>rfl) rfl) (.cons (.same rfl) (.nil))) (zV.ok a2 a1) h4 (.same rfl rfl) (hbor:=fun _=>⟨fhN,zT⟩)) zB) ?_
 refine xG 0 (cs':=[so 1 zG a2]) (ts:=[1]) rfl (.move (.head _) (List.length_map _) (by decide) (.nil)) ?_
 refine vS [(3,bv (!x3))] [(0,.box [so 1 zG a2])] (by kernel_rfl) ?_
 exact zR rfl
noncomputable def c203:Code:=(Tryz.f203.body).getD .skip
theorem yH.ok (a1:(List Int)) (a2:(List Int)) (q:Wd) (kn:Unit→Option (D×List Ent)) (hk:∀v:Unit,J (q.g Tryz.prog 203 1 19) c203 (atI c203 7) (St.mk' [] [(0,.box [rr 1 a2]),(1,rE 1 zG a2)]) (some v) kn):
  ∀s9:Int,J (q.g Tryz.prog 203 1 19) c203 (atI c203 52) (St.mk' [(0,sl 1 zG a1),(1,.fn 130 [pp 0]),(7,iv (a1.length:Int)),(8,iv s9)] [(0,.box [rr 1 a2]),(1,rE 1 zG a2)]) (yH a1 a2 s9) (Fl.go (fun r:Int=>some (iv r,[.box [so 1 zG a2]])) kn):=by
 refine kP (fun g ih s9=>?_)
 unfold yE
 refine J_d 104 [] [9] [(9,bv (decide (s9< (a1.length:Int))))] [] [] zB ?_
 refine zF 9 (fun h10=>?_) (fun h10=>?_)
 ·refine J_d 1688 [] [5,9] [(5,iv s9)] [] [] zB ?_
  refine zA (fun x11 h12=>?_)
  refine xG 0 (cs':=[so 1 zG a2]) (ts:=[1]) rfl (.move (.head _) (List.length_map _) (by decide) (.nil)) ?_
  refine vS [(0,sl 1 zG a1),(1,.fn 130 [pp 0]),(5,iv s9),(7,iv (a1.length:Int)),(8,iv s9)] [(0,.box [so 1 zG a2])] (by kernel_rfl) ?_
  refine zA (fun x13 h14=>?_)
  refine J_g 3378 [] [(0,sl 1 zG a1),(1,.fn 130 [pp 0]),(5,iv s9),(7,iv (a1.length:Int)),(8,iv s9),(16,bv x13)] [(0,.box [so 1 zG a2])] (zD 3 (zAg (kk:=.i64) 39 2 1 zG (.tmp 12) (.tmp 13) h12) (zD 5 (zFL [(0,.box [so 1 zG a2])] [] (zOp 11 [(.tmp 15)] [2] false [(0,.box [so 1 zG a2])] [0] [iv x11] [pp 0] (.cons (.same rfl) (.cons (.pt rfl) (.nil))) (kS.ok x11 a2) h14 (.same rfl rfl))) zB)) ?_
  refine yU 0 (cs':=[rr 1 a2]) (es:=[(1,rE 1 zG a2)]) rfl (.cons (.own 1) (.nil)) rfl (by kernel_rfl) (by kernel_rfl) ?_
  refine vS [(0,sl 1 zG a1),(1,.fn 130 [pp 0]),(5,iv s9),(7,iv (a1.length:Int)),(8,iv s9),(16,bv x13)] [(0,.box [rr 1 a2]),(1,rE 1 zG a2)] (by kernel_rfl) ?_
  refine zF 16 (fun h15=>?_) (fun h15=>?_)
  ·refine J_g 13516 [] [(4,iv s9)] [(0,.box [rr 1 a2]),(1,rE 1 zG a2)] zB ?_
   refine xG 0 (cs':=[so 1 zG a2]) (ts:=[1]) rfl (.move (.head _) (List.length_map _) (by decide) (.nil)) ?_
   refine vS [(4,iv s9)] [(0,.box [so 1 zG a2])] (by kernel_rfl) ?_
   exact zR rfl
  ·refine J_d 423 [] [5,8,16] [(8,iv (w64 (s9+1)))] [] [] zB ?_
   exact J_q (J_b (ih (w64 (s9+1)))) rfl
 ·exact yF (hk ()) rfl
theorem yA.ok (a1:(List Int)) (a2:(List Int)):Ok Tryz.prog 203 [sl 1 zG a1,.fn 130 [pp 0]] [.box [so 1 zG a2]] ((yA a1 a2).map fun r=>(iv r,[.box [so 1 zG a2]])):=by
 refine zH c203 Tryz.f203 1 19 (fun q=>?_)
 unfold yA
 refine yU 0 (cs':=[rr 1 a2]) (es:=[(1,rE 1 zG a2)]) rfl (.cons (.own 1) (.nil)) rfl (by kernel_rfl) (by kernel_rfl) ?_
 refine vS [(0,sl 1 zG a1),(1,.fn 130 [pp 0])] [(0,.box [rr 1 a2]),(1,rE 1 zG a2)] (by kernel_rfl) ?_
 refine J_g 2 [] [(0,sl 1 zG a1),(1,.fn 130 [pp 0])] [(0,.box [rr 1 a2]),(1,rE 1 zG a2)] zB ?_
 refine J_d 12 [] [7,8] [(7,iv (a1.length:Int)),(8,iv 0)] [] [] zB ?_
 refine vU (K0:=(fun r:Int=>some (iv r,[.box [so 1 zG a2]]))) (fun _=>rfl) (yH.ok a1 a2 q _ (fun v16=>J_j ?_) 0)
 refine J_g 14 [] [(4,iv (-1))] [(0,.box [rr 1 a2]),(1,rE 1 zG a2)] zB ?_
 refine xG 0 (cs':=[so 1 zG a2]) (ts:=[1]) rfl (.move (.head _) (List.length_map _) (by decide) (.nil)) ?_
 refine vS [(4,iv (-1))] [(0,.box [so 1 zG a2])] (by kernel_rfl) ?_
 exact zR rfl
noncomputable def zR4:Code:=(Tryz.f129.body).getD .skip
theorem zQ.ok (a1:(List Int)) (a2:(List Int)):Ok Tryz.prog 129 [sl 1 zG a1,.fn 130 [pp 0]] [.box [so 1 zG a2]] ((zQ a1 a2).map fun r=>(bv r,[.box [so 1 zG a2]])):=by
 refine zH zR4 Tryz.f129 1 9 (fun q=>?_)
 unfold zQ
 refine yU 0 (cs':=[rr 1 a2]) (es:=[(1,rE 1 zG a2)]) rfl (.cons (.own 1) (.nil)) rfl (by kernel_rfl) (by kernel_rfl) ?_
 refine vS [(0,sl 1 zG a1),(1,.fn 130 [pp 0])] [(0,.box [rr 1 a2]),(1,rE 1 zG a2)] (by kernel_rfl) ?_
 refine J_g 2 [] [(0,sl 1 zG a1),(1,.fn 130 [pp 0])] [(0,.box [rr 1 a2]),(1,rE 1 zG a2)] zB ?_
 refine xG 0 (cs':=[so 1 zG a2]) (ts:=[1]) rfl (.move (.head _) (List.length_map _) (by decide) (.nil)) ?_
 refine vS [(0,sl 1 zG a1),(1,.fn 130 [pp 0])] [(0,.box [so 1 zG a2])] (by kernel_rfl) ?_
 refine zA (fun x3 h4=>?_)
 refine J_g 6 [] [(4,bv (decide (x3≥0)))] [(0,.box [so 1 zG a2])] (zD 2 (zFL [(0,.box [so 1 zG a2])] [] (wG («as»:=[sl 1 zG a1,.fn 130 [pp 0]]) [(.tmp 5),(.tmp 6)] [39,174] false [(0,.box [so 1 zG a2])] [0] (.cons (.same rfl) (.cons (.fn (.cons (.pt rfl) (.nil))) (.nil))) (yA.ok a1 a2) h4 (.same rfl rfl))) zB) ?_
 refine yU 0 (cs':=[rr 1 a2]) (es:=[(1,rE 1 zG a2)]) rfl (.cons (.own 1) (.nil)) rfl (by kernel_rfl) (by kernel_rfl) ?_
 refine vS [(4,bv (decide (x3≥0)))] [(0,.box [rr 1 a2]),(1,rE 1 zG a2)] (by kernel_rfl) ?_
 refine xG 0 (cs':=[so 1 zG a2]) (ts:=[1]) rfl (.move (.head _) (List.length_map _) (by decide) (.nil)) ?_
 refine vS [(4,bv (decide (x3≥0)))] [(0,.box [so 1 zG a2])] (by kernel_rfl) ?_
 exact zR rfl
noncomputable def zQR:Code:=(Tryz.f101.body).getD .skip
theorem uY.ok (a1:zC):Ok Tryz.prog 101 [.ag (zC.enc false a1)] [] ((uY a1).map fun r=>(.tu [iv r.1,iv r.2],[])):=by
 refine zH zQR Tryz.f101 0 25 (fun q=>?_)
 unfold uY
 refine J_g 2 [(0,0)] [(1,pp 0)] [(0,.box (zC.enc false a1))] zB ?_
 refine zA (fun x2 h3=>?_)
 refine J_d 6 [] [4,5] [(4,sl 1 eU8 x2.1),(5,bv x2.2)] [] [] (zD 1 (xL [(.tmp 8),(.const (.string (bs [99,117,114])))] [33,9] (yR.ok a1 (bs [99,117,114])) h3) zB) ?_
 refine zA (fun x4 h5=>?_)
 refine J_d 14 [] [4,6] [(6,iv x4)] [] [] (zD 1 (zNY (xs:=x2.1) 121 9 5 (.tmp 12)) (zD 2 (xL [(.tmp 13),(.const (.int .i64 6))] [9,3] (zAt.ok (b2s x2.1) 6) h5) zB)) ?_
 refine yQ (atI zQR 61) (fun v11:Bool=>St.mk' [(6,iv x4),(23,bv v11)] []) (fun v11=>?_) (fun jv11=>?_)
 ·refine zF 23 (fun h12=>?_) (fun h12=>?_)
  ·refine J_g 244 [] [(2,iv 0),(3,iv 4)] [] zB ?_
   exact zN1 rfl
  ·refine J_g 62 [] [(2,iv x4),(3,iv 0)] [] zB ?_
   exact zN1 rfl
 ·refine wJ (fun h6=>?_) (fun h6=>?_)
  ·refine J_g 60 [] [(6,iv x4),(23,bv true)] [] (xU 2 [(16,bv (!x2.2))] [] h6 zB) ?_
   exact yF (J_j (jv11 true)) rfl
  ·refine zA (fun x7 h8=>?_)
   refine zA (fun x9 h10=>?_)
   refine J_g 60 [] [(6,iv x4),(23,bv (!x9))] [] (xU 2 [(16,bv (!x2.2))] [] h6 (zDL 4 2 17 false (wG («as»:=[.ag (zC.enc false a1)]) [(.tmp 18)] [33] false [] [] (.cons (.same rfl) (.nil)) (wD.ok a1) h8 (.own 1)) (zDL 6 2 17 false (wG («as»:=[rr 1 x7,iv x4]) [(.tmp 19),(.tmp 20)] [39,2] true [(1,rE 1 zG x7)] [] (.cons (zDP (.head _) (fun _=>rfl) rfl) (.cons (.same rfl) (.nil))) (zV.ok x7 x4) h10 (.same rfl rfl) (hbor:=fun _=>⟨fhN,zT⟩)) zB))) ?_
   exact yF (J_j (jv11 (!x9))) rfl
noncomputable def zRo:Code:=(Tryz.f132.body).getD .skip
theorem uV.ok (a1:(List Int)):Ok Tryz.prog 132 [sl 1 zG a1] [] ((uV a1).map fun r=>(so 1 zG r,[])):=by
 refine zH zRo Tryz.f132 0 8 (fun q=>?_)
 unfold uV
 refine J_g 2 [] [(0,sl 1 zG a1)] [] zB ?_
 refine J_d 12 [] [4] [(4,.nb a1.length)] [] [] (zD 1 (zM7 (xs:=a1) 39 2 39 1 zG (.tmp 3)) zB) ?_
 refine zQS 4 rfl (fun h2=>?_) ?_
 ·obtain rfl:a1=[]:=List.eq_nil_of_length_eq_zero h2
  refine zOu (e':=some ([]:List Int)) (by kernel_rfl) ?_
  refine J_g 52 [] [(2,nv)] [] zB ?_
  exact zAM (ds:=[nv]) (ds':=[so 1 zG ([]:List Int)]) (.cons (.cell (.nilsl true 1 (.nil))) (.nil) (by decide)) rfl
 ·refine zA (fun x3 h4=>?_)
  refine J_g 14 [] [(2,rr 1 x3)] [(1,rE 1 zG x3)] (zD 0 (zDM 39 2 1 0 zG ([]:List Int) [] [] []) (zD 2 (zOL 39 39 2 2 1 8 1 0 zG (.tmp 5) (.tmp 6) h4) zB)) ?_
  exact zAM (ds:=[rr 1 x3]) (ds':=[so 1 zG x3]) (.cons (.cell (.move (.head _) (List.length_map _) (by decide) (.nil))) (.nil) (by decide)) rfl
theorem xM.ok (a1:List Int):Ok Tryz.prog 133 [rr 0 a1] [rE 1 zG a1] ((xM a1).map fun r=>(.tu [],[rE 1 zG r])):=by
 unfold xM
 split
 ·exact zME (enc:=Value.int .i64) (by simp [List.length_mergeSort]) (fun blk off cap w hH hb=>Tryz.slices_Sort_int blk off cap a1 w hH hb (by omega)) (fun _ p cap w=>Tryz.slices_Sort_int_none p cap w)
 ·exact fun _ h=>by cases h
noncomputable def zNy:Code:=(Tryz.f134.body).getD .skip
theorem wC.ok (s41:Int) (x48:(List Int)) (q:Wd) (kn:((List Int)×Int)→Option (D×List Ent)) (hk:∀v:((List Int)×Int),J (q.g Tryz.prog 134 1 61) zNy (atI zNy 14923) (St.mk' [(0,rr 0 v.1),(3,iv v.2)] [(0,rE 1 zG v.1)]) (some v) kn):
  ∀s61:((List Int)×Int×Int),J (q.g Tryz.prog 134 1 61) zNy (atI zNy 119380) (St.mk' [(0,rr 0 s61.1),(3,iv s61.2.1),(4,.sub 0 s41.toNat x48.length),(5,iv s61.2.2)] [(0,rE 1 zG s61.1)]) (wC s41 x48 s61) kn:=by
 refine kP (fun g ih s61=>?_)
 unfold wS
 refine J_d 477520 [] [32] [(32,bv (decide (s61.2.2< (x48.length:Int))))] [] [] (zD 2 (zO3 39 2 0 s41.toNat x48.length (.tmp 30)) zB) ?_
 refine zF 32 (fun h62=>?_) (fun h62=>?_)
 ·refine zA (fun x63 h64=>?_)
  refine zA (fun x65 h66=>?_)
  refine J_d 1910088 [] [32,44] [(44,bv (x63 !=x65))] [] [] (zD 2 (zMf (kk:=.i64) 39 2 1 0 zG (.tmp 35) (.tmp 36) h64) (zD 3 (jH (d:=iv x63) 2 1 0 0 zG (.tmp 37) (zFj h64) (by kernel_rfl)) (zD 7 (zMf (kk:=.i64) 39 2 1 0 zG (.tmp 39) (.tmp 41) h66) (zD 8 (jH (d:=iv x65) 2 1 0 0 zG (.tmp 42) (zFj h66) (by kernel_rfl)) zB)))) ?_
  refine yQ (aft zNy 955044) (fun v72:((List Int)×Int)=>St.mk' [(0,rr 0 v72.1),(3,iv v72.2),(4,.sub 0 s41.toNat x48.length),(5,iv s61.2.2)] [(0,rE 1 zG v72.1)]) (fun v72=>?_) (fun jv72=>?_)
  ·refine J_d 477523 [] [5] [(5,iv (w64 (s61.2.2+1)))] [] [] zB ?_
   exact J_q (J_b (ih (v72.1,v72.2,w64 (s61.2.2+1)))) rfl
  ·refine zF 44 (fun h67=>?_) (fun h67=>?_)
   ·refine zA (fun x68 h69=>?_)
    refine zA (fun x70 h71=>?_)
    refine J_g 7640356 [] [(0,rr 0 s61.1),(3,iv s61.2.1),(4,.sub 0 s41.toNat x48.length),(5,iv s61.2.2)] [(0,rE 1 zG (s61.1.set s61.2.1.toNat x68))] (zD 4 (zMf (kk:=.i64) 39 2 1 0 zG (.tmp 47) (.tmp 48) h69) (zD 5 (jH (d:=iv x68) 2 1 0 0 zG (.tmp 49) (zFj h69) (by kernel_rfl)) (zD 6 (wM (kk:=.i64) 39 2 1 0 zG (.tmp 45) (.tmp 46) h71) (zF1 7 (zGE (b:=x68) 2 1 0 0 zG (iv x68) (.tmp 51) (.tmp 50) h71 rfl) zB)))) ?_
    refine zE5 (σ':=St.mk' [(0,rr 0 (s61.1.set s61.2.1.toNat x68)),(3,iv s61.2.1),(4,.sub 0 s41.toNat x48.length),(5,iv s61.2.2)] [(0,rE 1 zG (s61.1.set s61.2.1.toNat x68))]) (by simp only [rr,List.length_set]) ?_
    refine J_d 7640357 [] [3] [(3,iv (w64 (s61.2.1+1)))] [] [] zB ?_
    exact yF (J_j (jv72 (s61.1.set s61.2.1.toNat x68,w64 (s61.2.1+1)))) rfl
   ·exact yF (J_j (jv72 (s61.1,s61.2.1))) rfl
 ·exact yF (hk (s61.1,s61.2.1)) rfl
theorem wY.ok (a1:(List Int)) (q:Wd) (kn:Unit→Option (D×List Ent)) (hk:∀v:Unit,J (q.g Tryz.prog 134 1 61) zNy (atI zNy 15) (St.mk' [(0,rr 0 a1)] [(0,rE 1 zG a1)]) (some v) kn):
  ∀s41:Int,J (q.g Tryz.prog 134 1 61) zNy (atI zNy 116) (St.mk' [(0,rr 0 a1),(3,iv s41)] [(0,rE 1 zG a1)]) (wY a1 s41) (Fl.go (fun r:(List Int)=>some (so 1 zG r,[])) kn):=by
 refine kP (fun g ih s41=>?_)
 unfold xE
 refine J_d 464 [] [13] [(13,bv (decide (s41< (a1.length:Int))))] [] [] zB ?_
 refine zF 13 (fun h42=>?_) (fun h42=>?_)
 ·refine zA (fun x43 h44=>?_)
  refine zA (fun x45 h46=>?_)
  refine J_d 1864 [] [13,25] [(25,bv (x43==x45))] [] [] (zD 2 (wM (kk:=.i64) 39 2 1 0 zG (.tmp 16) (.tmp 17) h44) (zD 3 (jH (d:=iv x43) 2 1 0 0 zG (.tmp 18) h44 (by kernel_rfl)) (zD 7 (wM (kk:=.i64) 39 2 1 0 zG (.tmp 20) (.tmp 22) h46) (zD 8 (jH (d:=iv x45) 2 1 0 0 zG (.tmp 23) h46 (by kernel_rfl)) zB)))) ?_
  refine zF 25 (fun h47=>?_) (fun h47=>?_)
  ·refine zA (fun x48 h49=>?_)
   refine J_g 7460 [] [(0,rr 0 a1),(3,iv s41),(4,.sub 0 s41.toNat x48.length)] [(0,rE 1 zG a1)] (zD 2 (zII 39 2 1 0 zG (.tmp 26) (some (.tmp 27)) none h49) zB) ?_
   refine J_d 29844 [] [5] [(5,iv 1)] [] [] zB ?_
   refine zEM (wC.ok s41 x48 q _ (fun v73=>J_j ?_) (a1,s41,1))
   refine zA (fun x74 h75=>?_)
   refine zA (fun x76 h77=>?_)
   refine J_g 29846 [] [(0,rr 0 v73.1),(3,iv v73.2)] [(0,rE 1 zG x76)] (zD 2 (zII 39 2 1 0 zG (.tmp 54) (some (.tmp 55)) none h75) (zF1 3 (zOH (l:=v73.2) (a:=0) 39 2 1 0 zG (.tmp 56) h77 (.keep rfl (.nil))) zB)) ?_
   refine zE5 (σ':=St.mk' [(0,rr 0 x76),(3,iv v73.2)] [(0,rE 1 zG x76)]) (by simp only [rr,zIQ h77]) ?_
   refine zA (fun x78 h79=>?_)
   refine J_g 59694 [] [(2,rr 1 x78)] [(1,rE 1 zG x78)] (zD 2 (zMp 39 2 1 0 1 zG (.tmp 57) none (some (.tmp 58)) h79) zB) ?_
   exact zAM (ds:=[rr 1 x78]) (ds':=[so 1 zG x78]) (.cons (.cell (.move (.head _) (List.length_map _) (by decide) (.nil))) (.nil) (by decide)) rfl
  ·refine J_d 467 [] [3,25] [(3,iv (w64 (s41+1)))] [] [] zB ?_
   exact J_q (J_b (ih (w64 (s41+1)))) rfl
 ·exact yF (hk ()) rfl
theorem wE.ok (a1:(List Int)):Ok Tryz.prog 134 [rr 0 a1] [rE 1 zG a1] ((wE a1).map fun r=>(so 1 zG r,[])):=by
 refine zH zNy Tryz.f134 1 61 (fun q=>?_)
 unfold wE
 refine J_g 2 [] [(0,rr 0 a1)] [(0,rE 1 zG a1)] zB ?_
 refine J_d 12 [] [8] [(8,bv (decide ((a1.length:Int)<2)))] [] [] zB ?_
 refine zF 8 (fun h2=>?_) (fun h2=>?_)
 ·refine J_g 52 [] [(2,rr 0 a1)] [(0,rE 1 zG a1)] zB ?_
  exact zAM (ds:=[rr 0 a1]) (ds':=[so 1 zG a1]) (.cons (.cell (.move (.head _) (List.length_map _) (by decide) (.nil))) (.nil) (by decide)) rfl
 ·refine J_d 28 [] [3,8] [(3,iv 1)] [] [] zB ?_
  refine vU (K0:=(fun r:(List Int)=>some (so 1 zG r,[]))) (fun _=>rfl) (wY.ok a1 q _ (fun v80=>J_j ?_) 1)
  refine J_g 30 [] [(2,rr 0 a1)] [(0,rE 1 zG a1)] zB ?_
  exact zAM (ds:=[rr 0 a1]) (ds':=[so 1 zG a1]) (.cons (.cell (.move (.head _) (List.length_map _) (by decide) (.nil))) (.nil) (by decide)) rfl
noncomputable def c66:Code:=(Tryz.f66.body).getD .skip
theorem vT.ok (a1:zC) (a2:(List Int)):Ok Tryz.prog 66 [.ag (zC.enc false a1),sl 1 zG a2] [] ((vT a1 a2).map fun r=>(.tu [so 1 zG r.1,iv r.2],[])):=by
 refine zH c66 Tryz.f66 0 37 (fun q=>?_)
 unfold vT
 refine J_g 2 [(0,0)] [(1,sl 1 zG a2),(2,pp 0)] [(0,.box (zC.enc false a1))] zB ?_
 refine zA (fun x3 h4=>?_)
 refine J_g 6 [(2,2)] [(1,sl 1 zG a2),(2,pp 0),(6,pp 2)] [(0,.box (zC.enc false a1)),(1,rE 1 zG x3),(2,.box [rr 1 x3])] (zD 1 (wG («as»:=[.ag (zC.enc false a1)]) [(.tmp 10)] [33] false [] [] (.cons (.same rfl) (.nil)) (wD.ok a1) h4 (.own 1)) zB) ?_
 refine J_d 56 [] [12] [(12,bv (decide ((a2.length:Int)>40)))] [] [] zB ?_
 refine zF 12 (fun h5=>?_) (fun h5=>?_)
 ·refine J_g 228 [] [(4,nv),(5,iv 2)] [] zB ?_
  exact zAM (ds:=[nv,iv 2]) (ds':=[so 1 zG ([]:List Int),iv 2]) (.cons (.cell (.nilsl true 1 (.nil))) (.cons (.cell (.keep rfl (.nil))) (.nil) (by decide)) (by decide)) rfl
 ·refine xG 2 (cs':=[so 1 zG x3]) (ts:=[1]) rfl (.move (.tail _ (.head _)) (List.length_map _) (by decide) (.nil)) ?_
  refine vS [(1,sl 1 zG a2),(2,pp 0),(6,pp 2),(12,bv false)] [(0,.box (zC.enc false a1)),(2,.box [so 1 zG x3])] (by kernel_rfl) ?_
  refine zA (fun x6 h7=>?_)
  refine J_d 230 [] [6,12,16] [(16,bv x6)] [2] [] (zD 2 (zFL [(2,.box [so 1 zG x3])] [] (wG («as»:=[sl 1 zG a2,.fn 130 [pp 2]]) [(.tmp 17),(.tmp 18)] [39,174] false [(2,.box [so 1 zG x3])] [2] (.cons (.same rfl) (.cons (.fn (.cons (.pt rfl) (.nil))) (.nil))) (zQ.ok a2 x3) h7 (.same rfl rfl))) zB) ?_
  refine zF 16 (fun h8=>?_) (fun h8=>?_)
  ·refine J_g 924 [] [(4,nv),(5,iv 4)] [] zB ?_
   exact zAM (ds:=[nv,iv 4]) (ds':=[so 1 zG ([]:List Int),iv 4]) (.cons (.cell (.nilsl true 1 (.nil))) (.cons (.cell (.keep rfl (.nil))) (.nil) (by decide)) (by decide)) rfl
  ·refine zA (fun x9 h10=>?_)
   refine J_g 30 [] [(1,sl 1 zG a2),(7,iv x9.1),(8,iv x9.2)] [] (zD 1 (xL [(.tmp 21)] [33] (uY.ok a1) h10) zB) ?_
   refine J_d 124 [] [26] [(26,bv (x9.2 !=0))] [] [] zB ?_
   refine zF 26 (fun h11=>?_) (fun h11=>?_)
   ·refine J_g 500 [] [(4,nv),(5,iv x9.2)] [] zB ?_
    exact zAM (ds:=[nv,iv x9.2]) (ds':=[so 1 zG ([]:List Int),iv x9.2]) (.cons (.cell (.nilsl true 1 (.nil))) (.cons (.cell (.keep rfl (.nil))) (.nil) (by decide)) (by decide)) rfl
   ·refine zA (fun x12 h13=>?_)
    refine zA (fun x14 h15=>?_)
    refine J_g 126 [] [(9,rr 2 x14)] [(2,rE 1 zG x14)] (zD 1 (wG («as»:=[sl 1 zG a2]) [(.tmp 28)] [39] false [] [] (.cons (.same rfl) (.nil)) (uV.ok a2) h13 (.own 0)) (zD 3 (zDM 39 2 1 1 zG [x9.1] [0] [(.tmp 30)] [iv x9.1]) (zD 4 (zG4 39 39 2 2 1 8 2 0 1 zG (.tmp 29) (.tmp 31) h15) zB))) ?_
    refine zA (fun x16 h17=>?_)
    refine J_g 254 [] [(9,rr 2 x14)] [(2,rE 1 zG x16)] (zD 1 (wG («as»:=[rr 2 x14]) [(.tmp 33)] [39] false [(2,rE 1 zG x14)] [2] (.cons (.rf rfl) (.nil)) (xM.ok x14) h17 (.tu (.nil))) zB) ?_
    refine zA (fun u18 h19=>?_)
    refine zE5 (σ':=St.mk' [(9,rr 2 x16)] [(2,rE 1 zG x16)]) (by simp only [rr,zBY h19]) ?_
    refine zA (fun x20 h21=>?_)
    refine J_g 510 [] [(4,rr 3 x20),(5,iv 0)] [(3,rE 1 zG x20)] (zD 1 (wG («as»:=[rr 2 x16]) [(.tmp 35)] [39] false [(2,rE 1 zG x16)] [2] (.cons (.rf rfl) (.nil)) (wE.ok x16) h21 (.own 3)) zB) ?_
    exact zAM (ds:=[rr 3 x20,iv 0]) (ds':=[so 1 zG x20,iv 0]) (.cons (.cell (.move (.head _) (List.length_map _) (by decide) (.nil))) (.cons (.cell (.keep rfl (.nil))) (.nil) (by decide)) (by decide)) rfl
theorem uR.ok (a1 a2:Int):Ok Tryz.prog 156 [iv a1,iv a2] [] ((uR a1 a2).map fun r=>(sv r,[])):=by
 unfold uR
 split
 ·rename_i h
  obtain ⟨rfl,h0,h1⟩:=h
  exact zOB (vs:=[.int .i64 a1,.int .i64 10]) (fun w hG=>Tryz.strconv_FormatInt_10 a1 h0 h1 w (zNC (g:=1) hG (by kernel_rfl) (by kernel_rfl)))
 ·exact fun _ h=>by cases h
noncomputable def c84:Code:=(Tryz.f84.body).getD .skip
theorem zBV.ok (a1:Int):Ok Tryz.prog 84 [iv a1] [] ((zBV a1).map fun r=>(sv r,[])):=by
 refine zH c84 Tryz.f84 0 5 (fun q=>?_)
 unfold zBV
 refine J_g 2 [] [(0,iv a1)] [] zB ?_
 refine zA (fun x2 h3=>?_)
 refine J_g 6 [] [(2,sv x2)] [] (zD 1 (xL [(.tmp 3),(.const (.int .i64 10))] [2,3] (uR.ok a1 10) h3) zB) ?_
 exact zR rfl
theorem strings_Repeat.ok (a1:ByteArray) (a2:Int):Ok Tryz.prog 207 [sv a1,iv a2] [] ((strings_Repeat a1 a2).map fun r=>(sv r,[])):=by
 unfold strings_Repeat
 split
 ·rename_i h
  obtain ⟨h0,h1,h2⟩:=h
  obtain ⟨n,rfl⟩:=Int.eq_ofNat_of_zero_le h0
  exact zNQ (vs:=[.string a1,.int .i64 n]) (fun w=>Tryz.strings_Repeat a1 n w (by omega) h2)
 ·exact fun _ h=>by cases h
noncomputable def zRj:Code:=(Tryz.f135.body).getD .skip
theorem kI.ok (a1:Int):Ok Tryz.prog 135 [iv a1] [] ((kI a1).map fun r=>(sv r,[])):=by
 refine zH zRj Tryz.f135 0 13 (fun q=>?_)
 unfold kI
 refine J_g 2 [] [(0,iv a1)] [] zB ?_
 refine zA (fun x2 h3=>?_)
 refine J_g 6 [] [(3,sv x2)] [] (zD 1 (xL [(.tmp 4)] [2] (zBV.ok a1) h3) zB) ?_
 refine zA (fun x4 h5=>?_)
 refine zA (fun x6 h7=>?_)
 refine zA (fun x8 h9=>?_)
 refine J_g 14 [] [(2,sv x8)] [] (zD 3 (xL [(.const (.string (bs [48]))),(.tmp 8)] [9,3] (strings_Repeat.ok (bs [48]) (w64 (6-(x2.size:Int)))) h5) (zD 4 (zE3 9 9 (.const (.string (bs [103,101,110,47]))) (.tmp 9) h7) (zD 6 (zE3 9 9 (.tmp 10) (.tmp 11) h9) zB))) ?_
 exact zR rfl
theorem strings_Split.ok (a1 a2:ByteArray):Ok Tryz.prog 183 [sv a1,sv a2] [] ((strings_Split a1 a2).map fun r=>(so 1 eStr r,[])):=by
 unfold strings_Split
 split
 ·rename_i h
  refine zOj (t:=9) (fun w hG=>?_)
  obtain ⟨m,hm⟩:=zML (g:=0) hG (by kernel_rfl)
  rw [Lib.splitB_all a2 h.2 0 _ a1 rfl]
  exact Tryz.strings_Split a1 a2 m w h.1 hm h.2
 ·exact fun _ h=>by cases h
noncomputable def c105:Code:=(Tryz.f105.body).getD .skip
theorem zCr.ok (a1:ByteArray):Ok Tryz.prog 105 [sv a1] [] ((zCr a1).map fun r=>(so 1 eStr r,[])):=by
 refine zH c105 Tryz.f105 0 19 (fun q=>?_)
 unfold zCr
 refine J_g 2 [] [(0,sv a1)] [] zB ?_
 refine zA (fun x2 h3=>?_)
 refine J_g 6 [] [(3,rr 0 x2)] [(0,rE 1 eStr x2)] (zD 1 (wG («as»:=[sv a1,sv (bs [10])]) [(.tmp 4),(.const (.string (bs [10])))] [9,9] false [] [] (.cons (.same rfl) (.cons (.same rfl) (.nil))) (strings_Split.ok a1 (bs [10])) h3 (.own 0)) zB) ?_
 refine zA (fun x4 h5=>?_)
 refine J_d 28 [] [12] [(12,bv (seq x4 (bs [])))] [] [] (zD 4 (wM (kk:=.i64) 86 9 1 0 eStr (.tmp 6) (.tmp 9) h5) (zD 5 (jH (d:=sv x4) 9 1 0 0 eStr (.tmp 10) h5 (by kernel_rfl)) zB)) ?_
 refine yQ (atI c105 15) (fun v9:(List ByteArray)=>St.mk' [(3,rr 1 v9)] [(1,rE 1 eStr v9)]) (fun v9=>?_) (fun jv9=>?_)
 ·refine J_g 30 [] [(2,rr 1 v9)] [(1,rE 1 eStr v9)] zB ?_
  exact zAM (ds:=[rr 1 v9]) (ds':=[so 1 eStr v9]) (.cons (.cell (.move (.head _) (List.length_map _) (by decide) (.nil))) (.nil) (by decide)) rfl
 ·refine zF 12 (fun h6=>?_) (fun h6=>?_)
  ·refine zA (fun x7 h8=>?_)
   refine J_g 58 [] [(3,rr 1 x7)] [(1,rE 1 eStr x7)] (zD 4 (zMp 86 9 1 0 1 eStr (.tmp 13) none (some (.tmp 16)) h8) zB) ?_
   exact yF (J_j (jv9 x7)) rfl
  ·refine kR 0 1 (Nat.le_of_ble_eq_true rfl) (Nat.le_of_ble_eq_true rfl) ?_
   exact yF (J_j (jv9 x2)) rfl
noncomputable def zR7:Code:=(Tryz.f280.body).getD .skip
theorem tV.ok (a1:ByteArray):Ok Tryz.prog 280 [sv a1] [] ((tV a1).map fun r=>(bv r,[])):=by
 refine zH zR7 Tryz.f280 0 5 (fun q=>?_)
 unfold tV
 refine J_g 2 [] [(0,sv a1)] [] zB ?_
 refine J_g 6 [] [(2,bv (seq a1 (bs [])))] [] zB ?_
 exact zR rfl
noncomputable def zP7:Code:=(Tryz.f316.body).getD .skip
theorem yZ.ok (a1:(List ByteArray)) (q:Wd) (kn:Unit→Option (D×List Ent)) (hk:∀v:Unit,J (q.g Tryz.prog 316 0 19) zP7 (atI zP7 7) (St.mk' [] []) (some v) kn):
  ∀s8:Int,J (q.g Tryz.prog 316 0 19) zP7 (atI zP7 52) (St.mk' [(0,sl 1 eStr a1),(1,.fn 280 []),(7,iv (a1.length:Int)),(8,iv s8)] []) (yZ a1 s8) (Fl.go (fun r:Int=>some (iv r,[])) kn):=by
 refine kP (fun g ih s8=>?_)
 unfold yJ
 refine J_d 104 [] [9] [(9,bv (decide (s8< (a1.length:Int))))] [] [] zB ?_
 refine zF 9 (fun h9=>?_) (fun h9=>?_)
 ·refine J_d 1688 [] [5,9] [(5,iv s8)] [] [] zB ?_
  refine zA (fun x10 h11=>?_)
  refine zA (fun x12 h13=>?_)
  refine J_d 3378 [] [16] [(16,bv x12)] [] [] (zD 3 (zAg (kk:=.i64) 86 9 1 eStr (.tmp 12) (.tmp 13) h11) (zD 5 (zNo («as»:=[sv x10]) (caps:=[]) 11 [(.tmp 15)] [9] (tV.ok x10) h13) zB)) ?_
  refine zF 16 (fun h14=>?_) (fun h14=>?_)
  ·refine J_g 13516 [] [(4,iv s8)] [] zB ?_
   exact zR rfl
  ·refine J_d 423 [] [5,8,16] [(8,iv (w64 (s8+1)))] [] [] zB ?_
   exact J_q (J_b (ih (w64 (s8+1)))) rfl
 ·exact yF (hk ()) rfl
theorem yP.ok (a1:(List ByteArray)):Ok Tryz.prog 316 [sl 1 eStr a1,.fn 280 []] [] ((yP a1).map fun r=>(iv r,[])):=by
 refine zH zP7 Tryz.f316 0 19 (fun q=>?_)
 unfold yP
 refine J_g 2 [] [(0,sl 1 eStr a1),(1,.fn 280 [])] [] zB ?_
 refine J_d 12 [] [7,8] [(7,iv (a1.length:Int)),(8,iv 0)] [] [] zB ?_
 refine vU (K0:=(fun r:Int=>some (iv r,[]))) (fun _=>rfl) (yZ.ok a1 q _ (fun v15=>J_j ?_) 0)
 refine J_g 14 [] [(4,iv (-1))] [] zB ?_
 exact zR rfl
noncomputable def zPy:Code:=(Tryz.f279.body).getD .skip
theorem yT.ok (q:Wd) (kn:((List ByteArray)×Int)→Option (D×List Ent)) (hk:∀v:((List ByteArray)×Int),J (q.g Tryz.prog 279 1 42) zPy (atI zPy 31) (St.mk' [(0,rr 0 v.1),(5,iv v.2)] [(0,rE 1 eStr v.1)]) (some v) kn):
  ∀s14:((List ByteArray)×Int×Int),J (q.g Tryz.prog 279 1 42) zPy (atI zPy 244) (St.mk' [(0,rr 0 s14.1),(1,.fn 280 []),(5,iv s14.2.1),(6,iv s14.2.2)] [(0,rE 1 eStr s14.1)]) (yT s14) kn:=by
 refine kP (fun g ih s14=>?_)
 unfold yD
 refine J_d 976 [] [19] [(19,bv (decide (s14.2.2< (s14.1.length:Int))))] [] [] zB ?_
 refine zF 19 (fun h15=>?_) (fun h15=>?_)
 ·refine zA (fun x16 h17=>?_)
  refine J_d 3912 [] [7,19] [(7,sv x16)] [] [] (zD 2 (wM (kk:=.i64) 86 9 1 0 eStr (.tmp 22) (.tmp 23) h17) (zD 3 (jH (d:=sv x16) 9 1 0 0 eStr (.tmp 24) h17 (by kernel_rfl)) zB)) ?_
  refine zA (fun x18 h19=>?_)
  refine J_d 7826 [] [29] [(29,bv (!x18))] [] [] (zD 2 (zNo («as»:=[sv x16]) (caps:=[]) 26 [(.tmp 27)] [9] (tV.ok x16) h19) zB) ?_
  refine yQ (aft zPy 1956) (fun v23:((List ByteArray)×Int)=>St.mk' [(0,rr 0 v23.1),(1,.fn 280 []),(5,iv v23.2),(6,iv s14.2.2)] [(0,rE 1 eStr v23.1)]) (fun v23=>?_) (fun jv23=>?_)
  ·refine J_d 979 [] [6] [(6,iv (w64 (s14.2.2+1)))] [] [] zB ?_
   exact J_q (J_b (ih (v23.1,v23.2,w64 (s14.2.2+1)))) rfl
  ·refine zF 29 (fun h20=>?_) (fun h20=>?_)
   ·refine zA (fun x21 h22=>?_)
    refine J_g 31308 [] [(0,rr 0 s14.1),(1,.fn 280 []),(5,iv s14.2.1),(6,iv s14.2.2)] [(0,rE 1 eStr (s14.1.set s14.2.1.toNat x16))] (zD 3 (wM (kk:=.i64) 86 9 1 0 eStr (.tmp 30) (.tmp 31) h22) (zF1 4 (zGE (b:=x16) 9 1 0 0 eStr (sv x16) (.tmp 33) (.tmp 32) h22 rfl) zB)) ?_
    refine zE5 (σ':=St.mk' [(0,rr 0 (s14.1.set s14.2.1.toNat x16)),(1,.fn 280 []),(5,iv s14.2.1),(6,iv s14.2.2)] [(0,rE 1 eStr (s14.1.set s14.2.1.toNat x16))]) (by simp only [rr,List.length_set]) ?_
    refine J_d 31309 [] [5] [(5,iv (w64 (s14.2.1+1)))] [] [] zB ?_
    exact yF (J_j (jv23 (s14.1.set s14.2.1.toNat x16,w64 (s14.2.1+1)))) rfl
   ·exact yF (J_j (jv23 (s14.1,s14.2.1))) rfl
 ·exact yF (hk (s14.1,s14.2.1)) rfl
theorem zZ.ok (a1:(List ByteArray)):Ok Tryz.prog 279 [rr 0 a1,.fn 280 []] [rE 1 eStr a1] ((zZ a1).map fun r=>(so 1 eStr r,[])):=by
 refine zH zPy Tryz.f279 1 42 (fun q=>?_)
 unfold zZ
 refine J_d 2 [] [] [] [] [] zB ?_
 refine zA (fun x2 h3=>?_)
 refine J_g 6 [] [(0,rr 0 a1),(1,.fn 280 []),(5,iv x2)] [(0,rE 1 eStr a1)] (zD 2 (wG («as»:=[rr 0 a1,.fn 280 []]) [(.tmp 8),(.tmp 9)] [86,281] true [(0,rE 1 eStr a1)] [] (.cons (zDP (.head _) (fun _=>rfl) rfl) (.cons (.fn (.nil)) (.nil))) (yP.ok a1) h3 (.same rfl rfl) (hbor:=fun _=>⟨fhN,zT⟩)) zB) ?_
 refine J_d 28 [] [12] [(12,bv (x2==(-1)))] [] [] zB ?_
 refine zF 12 (fun h4=>?_) (fun h4=>?_)
 ·refine J_g 116 [] [(4,rr 0 a1)] [(0,rE 1 eStr a1)] zB ?_
  exact zAM (ds:=[rr 0 a1]) (ds':=[so 1 eStr a1]) (.cons (.cell (.move (.head _) (List.length_map _) (by decide) (.nil))) (.nil) (by decide)) rfl
 ·refine J_d 60 [] [6,12] [(6,iv (w64 (x2+1)))] [] [] zB ?_
  refine zEM (yT.ok q _ (fun v24=>J_j ?_) (a1,x2,w64 (x2+1)))
  refine zA (fun x25 h26=>?_)
  refine zA (fun x27 h28=>?_)
  refine J_g 62 [] [(0,rr 0 v24.1),(5,iv v24.2)] [(0,rE 1 eStr x27)] (zD 2 (zII 86 9 1 0 eStr (.tmp 36) (some (.tmp 37)) none h26) (zF1 3 (zOH (l:=v24.2) (a:=ByteArray.empty) 86 9 1 0 eStr (.tmp 38) h28 (.keep rfl (.nil))) zB)) ?_
  refine zE5 (σ':=St.mk' [(0,rr 0 x27),(5,iv v24.2)] [(0,rE 1 eStr x27)]) (by simp only [rr,zIQ h28]) ?_
  refine zA (fun x29 h30=>?_)
  refine J_g 126 [] [(4,rr 1 x29)] [(1,rE 1 eStr x29)] (zD 2 (zMp 86 9 1 0 1 eStr (.tmp 39) none (some (.tmp 40)) h30) zB) ?_
  exact zAM (ds:=[rr 1 x29]) (ds':=[so 1 eStr x29]) (.cons (.cell (.move (.head _) (List.length_map _) (by decide) (.nil))) (.nil) (by decide)) rfl
noncomputable def zRI:Code:=(Tryz.f219.body).getD .skip
theorem zCu.ok (a1:ByteArray):Ok Tryz.prog 219 [sv a1] [] ((zCu a1).map fun r=>(so 1 eStr r,[])):=by
 refine zH zRI Tryz.f219 0 6 (fun q=>?_)
 unfold zCu
 refine J_g 2 [] [(0,sv a1)] [] zB ?_
 refine zA (fun x2 h3=>?_)
 refine zA (fun x4 h5=>?_)
 refine J_g 6 [] [(2,rr 1 x4)] [(1,rE 1 eStr x4)] (zD 1 (wG («as»:=[sv a1,sv (bs [32])]) [(.tmp 3),(.const (.string (bs [32])))] [9,9] false [] [] (.cons (.same rfl) (.cons (.same rfl) (.nil))) (strings_Split.ok a1 (bs [32])) h3 (.own 0)) (zD 2 (wG («as»:=[rr 0 x2,.fn 280 []]) [(.tmp 4),(.func 280)] [86,281] false [(0,rE 1 eStr x2)] [0] (.cons (.rf rfl) (.cons (.fn (.nil)) (.nil))) (zZ.ok x2) h5 (.own 1)) zB)) ?_
 exact zAM (ds:=[rr 1 x4]) (ds':=[so 1 eStr x4]) (.cons (.cell (.move (.head _) (List.length_map _) (by decide) (.nil))) (.nil) (by decide)) rfl
noncomputable def zP2:Code:=(Tryz.f189.body).getD .skip
theorem jU.ok (x2:(List ByteArray)) (q:Wd) (kn:(List Int)→Option (D×List Ent)) (hk:∀v:(List Int),J (q.g Tryz.prog 189 0 39) zP2 (atI zP2 63) (St.mk' [(2,pp 0),(4,pp 2)] [(0,.box [iv 0,iv 0,iv 0,iv 0]),(2,rE 1 zG v)]) (some v) kn):
  ∀s15:((List Int)×Int),J (q.g Tryz.prog 189 0 39) zP2 (atI zP2 500) (St.mk' [(2,pp 0),(4,pp 2),(14,rr 1 x2),(15,iv (x2.length:Int)),(16,iv s15.2)] [(0,.box [iv 0,iv 0,iv 0,iv 0]),(1,rE 1 eStr x2),(2,rE 1 zG s15.1)]) (jU x2 s15) (Fl.go (fun r:zP=>some (.ag (zP.enc r),[])) kn):=by
 refine kP (fun g ih s15=>?_)
 unfold jC
 refine J_d 1000 [] [17] [(17,bv (decide (s15.2< (x2.length:Int))))] [] [] zB ?_
 refine zF 17 (fun h16=>?_) (fun h16=>?_)
 ·refine zA (fun x17 h18=>?_)
  refine J_d 16024 [] [5,6,17] [(5,iv s15.2),(6,sv x17)] [] [] (zD 1 (wM (kk:=.i64) 86 9 1 1 eStr (.tmp 14) (.tmp 16) h18) (zD 2 (jH (d:=sv x17) 9 1 1 0 eStr (.tmp 19) h18 (by kernel_rfl)) zB)) ?_
  refine zA (fun x19 h20=>?_)
  refine zA (fun x21 h22=>?_)
  refine J_d 32050 [] [6] [] [2] [(2,rE 1 zG (s15.1.set s15.2.toNat x19))] (zD 2 (xL [(.tmp 22),(.const (.int .i64 3))] [9,3] (zAt.ok x17 3) h20) (zD 3 (zMZ (kk:=.i64) 253 2 1 2 zG (.tmp 4) (.tmp 21) 3 h22) (zF1 4 (zGE (b:=x19) 2 1 2 0 zG (iv x19) (.tmp 24) (.tmp 23) (zFE h22) rfl) zB))) ?_
  refine zA (fun x23 h24=>?_)
  refine J_d 64102 [] [5,28] [(28,bv (decide (x23<0)))] [] [] (zD 1 (zMZ (kk:=.i64) 253 2 1 2 zG (.tmp 4) (.tmp 25) 3 h24) (zD 2 (jH (d:=iv x23) 2 1 2 0 zG (.tmp 26) (zFE h24) (by kernel_rfl)) zB)) ?_
  refine zF 28 (fun h25=>?_) (fun h25=>?_)
  ·refine J_g 256412 [] [(2,pp 0)] [(0,.box [iv 5,iv 0,iv 0,iv 0])] zB ?_
   exact zR rfl
  ·refine J_d 4007 [] [16,28] [(16,iv (w64 (s15.2+1)))] [] [] zB ?_
   exact J_q (J_b (ih (s15.1.set s15.2.toNat x19,w64 (s15.2+1)))) rfl
 ·exact yF (hk s15.1) rfl
theorem tC.ok (a1:ByteArray):Ok Tryz.prog 189 [sv a1] [] ((tC a1).map fun r=>(.ag (zP.enc r),[])):=by
 refine zH zP2 Tryz.f189 0 39 (fun q=>?_)
 unfold tC
 refine J_g 2 [(0,0)] [(0,sv a1),(2,pp 0)] [(0,.box [iv 0,iv 0,iv 0,iv 0])] zB ?_
 refine zA (fun x2 h3=>?_)
 refine J_g 6 [] [(2,pp 0),(3,rr 1 x2)] [(0,.box [iv 0,iv 0,iv 0,iv 0]),(1,rE 1 eStr x2)] (zD 1 (wG («as»:=[sv a1,sv (bs [46])]) [(.tmp 7),(.const (.string (bs [46])))] [9,9] false [] [] (.cons (.same rfl) (.cons (.same rfl) (.nil))) (strings_Split.ok a1 (bs [46])) h3 (.own 1)) zB) ?_
 refine J_g 14 [(1,2)] [(2,pp 0),(3,rr 1 x2),(4,pp 2)] [(0,.box [iv 0,iv 0,iv 0,iv 0]),(1,rE 1 eStr x2),(2,.box [iv 0,iv 0,iv 0])] (zD 0 (zNV 253 [.int .i64 0,.int .i64 0,.int .i64 0]) zB) ?_
 refine vS [(2,pp 0),(3,rr 1 x2),(4,pp 2)] [(2,.box [iv 0,iv 0,iv 0]),(0,.box [iv 0,iv 0,iv 0,iv 0]),(1,rE 1 eStr x2)] (by kernel_rfl) ?_
 refine zOc 2 (z:=1) (xs:=([0,0,0]:(List Int)).map zG) (by kernel_rfl) (by kernel_rfl) (by kernel_rfl) (by kernel_rfl) rfl ?_
 refine vS [(2,pp 0),(3,rr 1 x2),(4,pp 2)] [(0,.box [iv 0,iv 0,iv 0,iv 0]),(1,rE 1 eStr x2),(2,rE 1 zG ([0,0,0]:(List Int)))] (by kernel_rfl) ?_
 refine J_d 60 [] [12] [(12,bv (decide ((x2.length:Int)>3)))] [] [] zB ?_
 refine zF 12 (fun h4=>?_) (fun h4=>?_)
 ·refine J_g 244 [] [(2,pp 0)] [(0,.box [iv 5,iv 0,iv 0,iv 0])] zB ?_
  exact zR rfl
 ·refine J_d 124 [] [3,12,14,15,16] [(14,rr 1 x2),(15,iv (x2.length:Int)),(16,iv 0)] [] [] zB ?_
  refine vU (K0:=(fun r:zP=>some (.ag (zP.enc r),[]))) (fun _=>rfl) (jU.ok x2 q _ (fun v26=>J_j ?_) (([0,0,0]:(List Int)),0))
  refine zA (fun x27 h28=>?_)
  refine zA (fun x29 h30=>?_)
  refine zA (fun x31 h32=>?_)
  refine J_g 126 [] [(2,pp 0)] [(0,.box [iv 0,iv x27,iv x29,iv x31])] (zD 0 (zMZ (kk:=.i64) 253 2 1 2 zG (.tmp 4) (.const (.int .i64 0)) 3 h28) (zD 1 (jH (d:=iv x27) 2 1 2 0 zG (.tmp 31) (zFE h28) (by kernel_rfl)) (zD 2 (zMZ (kk:=.i64) 253 2 1 2 zG (.tmp 4) (.const (.int .i64 1)) 3 h30) (zD 3 (jH (d:=iv x29) 2 1 2 0 zG (.tmp 33) (zFE h30) (by kernel_rfl)) (zD 4 (zMZ (kk:=.i64) 253 2 1 2 zG (.tmp 4) (.const (.int .i64 2)) 3 h32) (zD 5 (jH (d:=iv x31) 2 1 2 0 zG (.tmp 35) (zFE h32) (by kernel_rfl)) zB)))))) ?_
  exact zR rfl
noncomputable def c218:Code:=(Tryz.f218.body).getD .skip
theorem zB3.ok (a1:(List Pack)) (a2:(List ByteArray)):Ok Tryz.prog 218 [sl 8 (Pack.enc false) a1,sl 1 eStr a2] [] ((zB3 a1 a2).map fun r=>(iv r,[])):=by
 refine zH c218 Tryz.f218 0 23 (fun q=>?_)
 unfold zB3
 refine J_g 2 [] [(0,sl 8 (Pack.enc false) a1),(1,sl 1 eStr a2)] [] zB ?_
 refine J_d 12 [] [8] [(8,bv ((a2.length:Int) !=2))] [] [] zB ?_
 refine zF 8 (fun h3=>?_) (fun h3=>?_)
 ·refine J_g 52 [] [(4,iv (-1))] [] zB ?_
  exact zR rfl
 ·refine zA (fun x4 h5=>?_)
  refine zA (fun x6 h7=>?_)
  refine J_g 14 [(4,0)] [(0,sl 8 (Pack.enc false) a1),(1,sl 1 eStr a2),(5,pp 0)] [(0,.box (zP.enc x6))] (zD 1 (zAg (kk:=.i64) 86 9 1 eStr (.tmp 9) (.const (.int .i64 1)) h5) (zD 3 (xL [(.tmp 11)] [9] (tC.ok x4) h7) zB)) ?_
  refine J_d 60 [] [15] [(15,bv (x6.Code !=0))] [] [] zB ?_
  refine zF 15 (fun h8=>?_) (fun h8=>?_)
  ·refine J_g 244 [] [(4,iv (-1))] [] zB ?_
   exact zR rfl
  ·refine zA (fun x9 h10=>?_)
   refine zA (fun x11 h12=>?_)
   refine J_g 62 [] [(4,iv x11)] [] (zD 2 (zAg (kk:=.i64) 86 9 1 eStr (.tmp 17) (.const (.int .i64 0)) h10) (zD 6 (xL [(.tmp 16),(.tmp 19),(.tmp 21)] [30,9,99] (zCS.ok a1 x9 x6.Version) h12) zB)) ?_
   exact zR rfl
noncomputable def zPw:Code:=(Tryz.f151.body).getD .skip
theorem zBK.ok (a1:(List Pack)) (x7:(List ByteArray)) (q:Wd) (kn:(List Int)→Option (D×List Ent)) (hk:∀v:(List Int),J (q.g Tryz.prog 151 0 51) zPw (atI zPw 63) (St.mk' [(4,pp 0),(6,rr 1 v)] [(0,.box [iv 0,iv 0,nv]),(1,rE 1 zG v)]) (some v) kn):
  ∀s23:((List Int)×Int),J (q.g Tryz.prog 151 0 51) zPw (atI zPw 500) (St.mk' [(0,sl 8 (Pack.enc false) a1),(4,pp 0),(6,rr 1 s23.1),(22,rr 2 x7),(23,iv (x7.length:Int)),(24,iv s23.2)] [(0,.box [iv 0,iv 0,nv]),(1,rE 1 zG s23.1),(2,rE 1 eStr x7)]) (zBK a1 x7 s23) (Fl.go (fun r:yG=>some (.ag [iv r.Code,iv r.At,so 1 zG r.Set],[])) kn):=by
 refine kP (fun g ih s23=>?_)
 unfold kZ
 refine J_d 1000 [] [25] [(25,bv (decide (s23.2< (x7.length:Int))))] [] [] zB ?_
 refine zF 25 (fun h24=>?_) (fun h24=>?_)
 ·refine zA (fun x25 h26=>?_)
  refine J_d 16024 [] [7,8,25] [(7,iv s23.2),(8,sv x25)] [] [] (zD 1 (wM (kk:=.i64) 86 9 1 2 eStr (.tmp 22) (.tmp 24) h26) (zD 2 (jH (d:=sv x25) 9 1 2 0 eStr (.tmp 27) h26 (by kernel_rfl)) zB)) ?_
  refine zA (fun x27 h28=>?_)
  refine zA (fun x29 h30=>?_)
  refine J_d 32050 [] [8,9] [(9,iv x29)] [] [] (zD 2 (wG («as»:=[sv x25]) [(.tmp 30)] [9] false [] [] (.cons (.same rfl) (.nil)) (zCu.ok x25) h28 (.own 3)) (zD 3 (wG («as»:=[sl 8 (Pack.enc false) a1,rr 3 x27]) [(.tmp 29),(.tmp 31)] [30,86] true [(3,rE 1 eStr x27)] [] (.cons (.same rfl) (.cons (zDP (.head _) (fun _=>rfl) rfl) (.nil))) (zB3.ok a1 x27) h30 (.same rfl rfl) (hbor:=fun _=>⟨fhN,zT⟩)) zB)) ?_
  refine yQ (atI zPw 128205) (fun v34:Bool=>St.mk' [(0,sl 8 (Pack.enc false) a1),(4,pp 0),(6,rr 1 s23.1),(7,iv s23.2),(9,iv x29),(22,rr 2 x7),(23,iv (x7.length:Int)),(24,iv s23.2),(39,bv v34)] [(0,.box [iv 0,iv 0,nv]),(1,rE 1 zG s23.1),(2,rE 1 eStr x7)]) (fun v34=>?_) (fun jv34=>?_)
  ·refine zF 39 (fun h35=>?_) (fun h35=>?_)
   ·refine J_g 512820 [] [(4,pp 0)] [(0,.box [iv 5,iv s23.2,nv])] zB ?_
    exact zAM (ds:=[.ag [iv 5,iv s23.2,nv]]) (ds':=[.ag [iv 5,iv s23.2,so 1 zG ([]:List Int)]]) (.cons (.ag (.keep rfl (.keep rfl (.nilsl true 1 (.nil))))) (.nil) (by decide)) rfl
   ·refine zA (fun x36 h37=>?_)
    refine J_g 64103 [] [(0,sl 8 (Pack.enc false) a1),(4,pp 0),(6,rr 4 x36),(22,rr 2 x7),(23,iv (x7.length:Int)),(24,iv s23.2)] [(0,.box [iv 0,iv 0,nv]),(2,rE 1 eStr x7),(4,rE 1 zG x36)] (zD 2 (zDM 39 2 1 3 zG [x29] [0] [(.tmp 43)] [iv x29]) (zD 3 (zG4 39 39 2 2 1 8 4 1 3 zG (.tmp 42) (.tmp 44) h37) zB)) ?_
    refine J_d 4007 [] [24] [(24,iv (w64 (s23.2+1)))] [] [] zB ?_
    refine kR 4 1 (Nat.le_of_ble_eq_true rfl) (Nat.le_of_ble_eq_true rfl) ?_
    exact J_q (J_b (ih (x36,w64 (s23.2+1)))) rfl
  ·refine wJ (fun h31=>?_) (fun h31=>?_)
   ·refine J_d 128204 [] [39] [(39,bv true)] [] [] (xU 2 [(34,bv (decide (x29<0)))] [] h31 zB) ?_
    exact yF (J_j (jv34 true)) rfl
   ·refine zA (fun x32 h33=>?_)
    refine J_d 128204 [] [39] [(39,bv x32)] [] [] (xU 2 [(34,bv (decide (x29<0)))] [] h31 (zDL 5 2 35 false (wG («as»:=[rr 1 s23.1,iv x29]) [(.tmp 36),(.tmp 37)] [39,2] true [(1,rE 1 zG s23.1)] [] (.cons (zDP (.head _) (fun _=>rfl) rfl) (.cons (.same rfl) (.nil))) (zV.ok s23.1 x29) h33 (.same rfl rfl) (hbor:=fun _=>⟨fhN,zT⟩)) zB)) ?_
    exact yF (J_j (jv34 x32)) rfl
 ·exact yF (hk s23.1) rfl
theorem zBz.ok (a1:(List Pack)) (a2:ByteArray):Ok Tryz.prog 151 [sl 8 (Pack.enc false) a1,sv a2] [] ((zBz a1 a2).map fun r=>(.ag [iv r.Code,iv r.At,so 1 zG r.Set],[])):=by
 refine zH zPw Tryz.f151 0 51 (fun q=>?_)
 unfold zBz
 refine J_d 2 [(0,0)] [4] [(4,pp 0)] [0] [(0,.box [iv 0,iv 0,nv])] zB ?_
 refine zA (fun x3 h4=>?_)
 refine J_g 12 [] [(0,sl 8 (Pack.enc false) a1),(1,sv a2),(4,pp 0),(5,iv x3)] [(0,.box [iv 0,iv 0,nv])] (zD 1 (xL [(.tmp 10)] [30] (wP.ok a1) h4) zB) ?_
 refine J_d 26 [] [13] [(13,bv (x3 !=0))] [] [] zB ?_
 refine zF 13 (fun h5=>?_) (fun h5=>?_)
 ·refine J_g 108 [] [(4,pp 0)] [(0,.box [iv x3,iv 0,nv])] zB ?_
  exact zAM (ds:=[.ag [iv x3,iv 0,nv]]) (ds':=[.ag [iv x3,iv 0,so 1 zG ([]:List Int)]]) (.cons (.ag (.keep rfl (.keep rfl (.nilsl true 1 (.nil))))) (.nil) (by decide)) rfl
 ·refine J_d 28 [] [5,13,18] [(18,bv (decide ((a2.size:Int)>4000)))] [] [] zB ?_
  refine zF 18 (fun h6=>?_) (fun h6=>?_)
  ·refine J_g 116 [] [(4,pp 0)] [(0,.box [iv 2,iv 0,nv])] zB ?_
   exact zAM (ds:=[.ag [iv 2,iv 0,nv]]) (ds':=[.ag [iv 2,iv 0,so 1 zG ([]:List Int)]]) (.cons (.ag (.keep rfl (.keep rfl (.nilsl true 1 (.nil))))) (.nil) (by decide)) rfl
  ·refine J_d 30 [] [6,18] [(6,rr 1 ([]:List Int))] [1] [(1,rE 1 zG ([]:List Int))] (zD 0 (zDM 39 2 1 1 zG ([]:List Int) [] [] []) zB) ?_
   refine zA (fun x7 h8=>?_)
   refine J_d 124 [] [1,22,23,24] [(22,rr 2 x7),(23,iv (x7.length:Int)),(24,iv 0)] [2] [(2,rE 1 eStr x7)] (zD 1 (wG («as»:=[sv a2]) [(.tmp 21)] [9] false [] [] (.cons (.same rfl) (.nil)) (zCr.ok a2) h8 (.own 2)) zB) ?_
   refine vU (K0:=(fun r:yG=>some (.ag [iv r.Code,iv r.At,so 1 zG r.Set],[]))) (fun _=>rfl) (zBK.ok a1 x7 q _ (fun v38=>J_j ?_) (([]:List Int),0))
   refine zA (fun x39 h40=>?_)
   refine J_g 126 [] [(4,pp 0),(6,rr 1 v38)] [(0,.box [iv 0,iv 0,nv]),(1,rE 1 zG x39)] (zD 1 (wG («as»:=[rr 1 v38]) [(.tmp 47)] [39] false [(1,rE 1 zG v38)] [1] (.cons (.rf rfl) (.nil)) (xM.ok v38) h40 (.tu (.nil))) zB) ?_
   refine zA (fun u41 h42=>?_)
   refine zE5 (σ':=St.mk' [(4,pp 0),(6,rr 1 x39)] [(0,.box [iv 0,iv 0,nv]),(1,rE 1 zG x39)]) (by simp only [rr,zBY h42]) ?_
   refine J_g 254 [] [(4,pp 0)] [(0,.box [iv 0,iv 0,rr 1 x39]),(1,rE 1 zG x39)] zB ?_
   exact zAM (ds:=[.ag [iv 0,iv 0,rr 1 x39]]) (ds':=[.ag [iv 0,iv 0,so 1 zG x39]]) (.cons (.ag (.keep rfl (.keep rfl (.move (.tail _ (.head _)) (List.length_map _) (by decide) (.nil))))) (.nil) (by decide)) rfl
noncomputable def c82:Code:=(Tryz.f82.body).getD .skip
theorem zDD.ok (a1:(List Pack)) (a2:zC) (a3:Int):Ok Tryz.prog 82 [sl 8 (Pack.enc false) a1,.ag (zC.enc false a2),iv a3] [] ((zDD a1 a2 a3).map fun r=>(.tu [so 1 zG r.1,iv r.2],[])):=by
 refine zH c82 Tryz.f82 0 31 (fun q=>?_)
 unfold zDD
 refine J_d 2 [(0,0)] [1,4] [(4,pp 0)] [0] [(0,.box (zC.enc false a2))] zB ?_
 refine zA (fun x4 h5=>?_)
 refine zA (fun x6 h7=>?_)
 refine J_d 12 [] [15] [(15,bv (!x6))] [] [] (zD 1 (wG («as»:=[.ag (zC.enc false a2)]) [(.tmp 11)] [33] false [] [] (.cons (.same rfl) (.nil)) (wD.ok a2) h5 (.own 1)) (zD 3 (wG («as»:=[rr 1 x4,iv a3]) [(.tmp 12),(.tmp 13)] [39,2] true [(1,rE 1 zG x4)] [] (.cons (zDP (.head _) (fun _=>rfl) rfl) (.cons (.same rfl) (.nil))) (zV.ok x4 a3) h7 (.same rfl rfl) (hbor:=fun _=>⟨fhN,zT⟩)) zB)) ?_
 refine zF 15 (fun h8=>?_) (fun h8=>?_)
 ·refine J_g 52 [] [(6,nv),(7,iv 4)] [] zB ?_
  exact zAM (ds:=[nv,iv 4]) (ds':=[so 1 zG ([]:List Int),iv 4]) (.cons (.cell (.nilsl true 1 (.nil))) (.cons (.cell (.keep rfl (.nil))) (.nil) (by decide)) (by decide)) rfl
 ·refine zA (fun x9 h10=>?_)
  refine zA (fun x11 h12=>?_)
  refine J_d 14 [] [2,4,8,15] [(8,sl 1 eU8 x11.1)] [0] [] (zD 2 (xL [(.tmp 18)] [2] (kI.ok a3) h10) (zD 3 (xL [(.tmp 17),(.tmp 19)] [33,9] (yR.ok a2 x9) h12) zB)) ?_
  refine zA (fun x13 h14=>?_)
  refine J_g 30 [(4,1)] [(10,pp 1)] [(0,rE 1 zG x13.Set),(1,.box [iv x13.Code,iv x13.At,rr 0 x13.Set])] (zD 2 (zNY (xs:=x11.1) 121 9 5 (.tmp 24)) (zD 3 (wG («as»:=[sl 8 (Pack.enc false) a1,sv (b2s x11.1)]) [(.tmp 23),(.tmp 25)] [30,9] false [] [] (.cons (.same rfl) (.cons (.same rfl) (.nil))) (zBz.ok a1 (b2s x11.1)) h14 (.ag (.cons (.same rfl rfl) (.cons (.same rfl rfl) (.cons (.own 0) (.nil)))))) zB)) ?_
  refine J_g 62 [] [(6,rr 0 x13.Set),(7,iv x13.Code)] [(0,rE 1 zG x13.Set)] zB ?_
  exact zAM (ds:=[rr 0 x13.Set,iv x13.Code]) (ds':=[so 1 zG x13.Set,iv x13.Code]) (.cons (.cell (.move (.head _) (List.length_map _) (by decide) (.nil))) (.cons (.cell (.keep rfl (.nil))) (.nil) (by decide)) (by decide)) rfl
noncomputable def zRu:Code:=(Tryz.f252.body).getD .skip
theorem tK.ok (a1:Version):Ok Tryz.prog 252 [.ag (Version.enc a1)] [] ((tK a1).map fun r=>(sv r,[])):=by
 refine zH zRu Tryz.f252 0 16 (fun q=>?_)
 unfold tK
 refine J_g 2 [(0,0)] [(1,pp 0)] [(0,.box (Version.enc a1))] zB ?_
 refine zA (fun x2 h3=>?_)
 refine zA (fun x4 h5=>?_)
 refine zA (fun x6 h7=>?_)
 refine zA (fun x8 h9=>?_)
 refine zA (fun x10 h11=>?_)
 refine zA (fun x12 h13=>?_)
 refine zA (fun x14 h15=>?_)
 refine J_g 6 [] [(2,sv x14)] [] (zD 2 (xL [(.tmp 4)] [2] (zBV.ok a1.A) h3) (zD 3 (zE3 9 9 (.tmp 5) (.const (.string (bs [46]))) h5) (zD 6 (xL [(.tmp 8)] [2] (zBV.ok a1.B) h7) (zD 7 (zE3 9 9 (.tmp 6) (.tmp 9) h9) (zD 8 (zE3 9 9 (.tmp 10) (.const (.string (bs [46]))) h11) (zD 11 (xL [(.tmp 13)] [2] (zBV.ok a1.C) h13) (zD 12 (zE3 9 9 (.tmp 11) (.tmp 14) h15) zB))))))) ?_
 exact zR rfl
noncomputable def zRK:Code:=(Tryz.f180.body).getD .skip
theorem zBb.ok (a1:Pack):Ok Tryz.prog 180 [.ag (Pack.enc false a1)] [] ((zBb a1).map fun r=>(sv r,[])):=by
 refine zH zRK Tryz.f180 0 11 (fun q=>?_)
 unfold zBb
 refine J_g 2 [(0,0)] [(1,pp 0)] [(0,.box (Pack.enc false a1))] zB ?_
 refine zA (fun x2 h3=>?_)
 refine zA (fun x4 h5=>?_)
 refine zA (fun x6 h7=>?_)
 refine zA (fun x8 h9=>?_)
 refine J_g 6 [] [(2,sv x8)] [] (zD 2 (zE3 9 9 (.const (.string (bs [112,107,103,47]))) (.tmp 4) h3) (zD 3 (zE3 9 9 (.tmp 5) (.const (.string (bs [45]))) h5) (zD 6 (xL [(.tmp 8)] [99] (tK.ok a1.Version) h7) (zD 7 (zE3 9 9 (.tmp 6) (.tmp 9) h9) zB)))) ?_
 exact zR rfl
theorem wV.ok (a1:List ByteArray):Ok Tryz.prog 259 [rr 0 a1] [rE 1 eStr a1] ((wV a1).map fun r=>(.tu [],[rE 1 eStr r])):=by
 unfold wV
 split
 ·refine zOe (fun blk off cap w hH hb=>?_) (fun p cap w=>Tryz.slices_Sort_string_none p cap w)
  have k:=Tryz.slices_Sort_string blk off cap (a1.map (·.data.toList)) w hH hb (by rw [List.length_map]; omega)
  rw [List.length_map] at k
  exact k
 ·exact fun _ h=>by cases h
noncomputable def zN2:Code:=(Tryz.f260.body).getD .skip
theorem xV.ok (s41:Int) (x48:(List ByteArray)) (q:Wd) (kn:((List ByteArray)×Int)→Option (D×List Ent)) (hk:∀v:((List ByteArray)×Int),J (q.g Tryz.prog 260 1 61) zN2 (atI zN2 14923) (St.mk' [(0,rr 0 v.1),(3,iv v.2)] [(0,rE 1 eStr v.1)]) (some v) kn):
  ∀s61:((List ByteArray)×Int×Int),J (q.g Tryz.prog 260 1 61) zN2 (atI zN2 119380) (St.mk' [(0,rr 0 s61.1),(3,iv s61.2.1),(4,.sub 0 s41.toNat x48.length),(5,iv s61.2.2)] [(0,rE 1 eStr s61.1)]) (xV s41 x48 s61) kn:=by
 refine kP (fun g ih s61=>?_)
 unfold wI
 refine J_d 477520 [] [32] [(32,bv (decide (s61.2.2< (x48.length:Int))))] [] [] (zD 2 (zO3 86 9 0 s41.toNat x48.length (.tmp 30)) zB) ?_
 refine zF 32 (fun h62=>?_) (fun h62=>?_)
 ·refine zA (fun x63 h64=>?_)
  refine zA (fun x65 h66=>?_)
  refine J_d 1910088 [] [32,44] [(44,bv (!(seq x63 x65)))] [] [] (zD 2 (zMf (kk:=.i64) 86 9 1 0 eStr (.tmp 35) (.tmp 36) h64) (zD 3 (jH (d:=sv x63) 9 1 0 0 eStr (.tmp 37) (zFj h64) (by kernel_rfl)) (zD 7 (zMf (kk:=.i64) 86 9 1 0 eStr (.tmp 39) (.tmp 41) h66) (zD 8 (jH (d:=sv x65) 9 1 0 0 eStr (.tmp 42) (zFj h66) (by kernel_rfl)) zB)))) ?_
  refine yQ (aft zN2 955044) (fun v72:((List ByteArray)×Int)=>St.mk' [(0,rr 0 v72.1),(3,iv v72.2),(4,.sub 0 s41.toNat x48.length),(5,iv s61.2.2)] [(0,rE 1 eStr v72.1)]) (fun v72=>?_) (fun jv72=>?_)
  ·refine J_d 477523 [] [5] [(5,iv (w64 (s61.2.2+1)))] [] [] zB ?_
   exact J_q (J_b (ih (v72.1,v72.2,w64 (s61.2.2+1)))) rfl
  ·refine zF 44 (fun h67=>?_) (fun h67=>?_)
   ·refine zA (fun x68 h69=>?_)
    refine zA (fun x70 h71=>?_)
    refine J_g 7640356 [] [(0,rr 0 s61.1),(3,iv s61.2.1),(4,.sub 0 s41.toNat x48.length),(5,iv s61.2.2)] [(0,rE 1 eStr (s61.1.set s61.2.1.toNat x68))] (zD 4 (zMf (kk:=.i64) 86 9 1 0 eStr (.tmp 47) (.tmp 48) h69) (zD 5 (jH (d:=sv x68) 9 1 0 0 eStr (.tmp 49) (zFj h69) (by kernel_rfl)) (zD 6 (wM (kk:=.i64) 86 9 1 0 eStr (.tmp 45) (.tmp 46) h71) (zF1 7 (zGE (b:=x68) 9 1 0 0 eStr (sv x68) (.tmp 51) (.tmp 50) h71 rfl) zB)))) ?_
    refine zE5 (σ':=St.mk' [(0,rr 0 (s61.1.set s61.2.1.toNat x68)),(3,iv s61.2.1),(4,.sub 0 s41.toNat x48.length),(5,iv s61.2.2)] [(0,rE 1 eStr (s61.1.set s61.2.1.toNat x68))]) (by simp only [rr,List.length_set]) ?_
    refine J_d 7640357 [] [3] [(3,iv (w64 (s61.2.1+1)))] [] [] zB ?_
    exact yF (J_j (jv72 (s61.1.set s61.2.1.toNat x68,w64 (s61.2.1+1)))) rfl
   ·exact yF (J_j (jv72 (s61.1,s61.2.1))) rfl
 ·exact yF (hk (s61.1,s61.2.1)) rfl
theorem wQ.ok (a1:(List ByteArray)) (q:Wd) (kn:Unit→Option (D×List Ent)) (hk:∀v:Unit,J (q.g Tryz.prog 260 1 61) zN2 (atI zN2 15) (St.mk' [(0,rr 0 a1)] [(0,rE 1 eStr a1)]) (some v) kn):
  ∀s41:Int,J (q.g Tryz.prog 260 1 61) zN2 (atI zN2 116) (St.mk' [(0,rr 0 a1),(3,iv s41)] [(0,rE 1 eStr a1)]) (wQ a1 s41) (Fl.go (fun r:(List ByteArray)=>some (so 1 eStr r,[])) kn):=by
 refine kP (fun g ih s41=>?_)
 unfold xA
 refine J_d 464 [] [13] [(13,bv (decide (s41< (a1.length:Int))))] [] [] zB ?_
 refine zF 13 (fun h42=>?_) (fun h42=>?_)
 ·refine zA (fun x43 h44=>?_)
  refine zA (fun x45 h46=>?_)
  refine J_d 1864 [] [13,25] [(25,bv (seq x43 x45))] [] [] (zD 2 (wM (kk:=.i64) 86 9 1 0 eStr (.tmp 16) (.tmp 17) h44) (zD 3 (jH (d:=sv x43) 9 1 0 0 eStr (.tmp 18) h44 (by kernel_rfl)) (zD 7 (wM (kk:=.i64) 86 9 1 0 eStr (.tmp 20) (.tmp 22) h46) (zD 8 (jH (d:=sv x45) 9 1 0 0 eStr (.tmp 23) h46 (by kernel_rfl)) zB)))) ?_
  refine zF 25 (fun h47=>?_) (fun h47=>?_)
  ·refine zA (fun x48 h49=>?_)
   refine J_g 7460 [] [(0,rr 0 a1),(3,iv s41),(4,.sub 0 s41.toNat x48.length)] [(0,rE 1 eStr a1)] (zD 2 (zII 86 9 1 0 eStr (.tmp 26) (some (.tmp 27)) none h49) zB) ?_
   refine J_d 29844 [] [5] [(5,iv 1)] [] [] zB ?_
   refine zEM (xV.ok s41 x48 q _ (fun v73=>J_j ?_) (a1,s41,1))
   refine zA (fun x74 h75=>?_)
   refine zA (fun x76 h77=>?_)
   refine J_g 29846 [] [(0,rr 0 v73.1),(3,iv v73.2)] [(0,rE 1 eStr x76)] (zD 2 (zII 86 9 1 0 eStr (.tmp 54) (some (.tmp 55)) none h75) (zF1 3 (zOH (l:=v73.2) (a:=ByteArray.empty) 86 9 1 0 eStr (.tmp 56) h77 (.keep rfl (.nil))) zB)) ?_
   refine zE5 (σ':=St.mk' [(0,rr 0 x76),(3,iv v73.2)] [(0,rE 1 eStr x76)]) (by simp only [rr,zIQ h77]) ?_
   refine zA (fun x78 h79=>?_)
   refine J_g 59694 [] [(2,rr 1 x78)] [(1,rE 1 eStr x78)] (zD 2 (zMp 86 9 1 0 1 eStr (.tmp 57) none (some (.tmp 58)) h79) zB) ?_
   exact zAM (ds:=[rr 1 x78]) (ds':=[so 1 eStr x78]) (.cons (.cell (.move (.head _) (List.length_map _) (by decide) (.nil))) (.nil) (by decide)) rfl
  ·refine J_d 467 [] [3,25] [(3,iv (w64 (s41+1)))] [] [] zB ?_
   exact J_q (J_b (ih (w64 (s41+1)))) rfl
 ·exact yF (hk ()) rfl
theorem xX.ok (a1:(List ByteArray)):Ok Tryz.prog 260 [rr 0 a1] [rE 1 eStr a1] ((xX a1).map fun r=>(so 1 eStr r,[])):=by
 refine zH zN2 Tryz.f260 1 61 (fun q=>?_)
 unfold xX
 refine J_g 2 [] [(0,rr 0 a1)] [(0,rE 1 eStr a1)] zB ?_
 refine J_d 12 [] [8] [(8,bv (decide ((a1.length:Int)<2)))] [] [] zB ?_
 refine zF 8 (fun h2=>?_) (fun h2=>?_)
 ·refine J_g 52 [] [(2,rr 0 a1)] [(0,rE 1 eStr a1)] zB ?_
  exact zAM (ds:=[rr 0 a1]) (ds':=[so 1 eStr a1]) (.cons (.cell (.move (.head _) (List.length_map _) (by decide) (.nil))) (.nil) (by decide)) rfl
 ·refine J_d 28 [] [3,8] [(3,iv 1)] [] [] zB ?_
  refine vU (K0:=(fun r:(List ByteArray)=>some (so 1 eStr r,[]))) (fun _=>rfl) (wQ.ok a1 q _ (fun v80=>J_j ?_) 1)
  refine J_g 30 [] [(2,rr 0 a1)] [(0,rE 1 eStr a1)] zB ?_
  exact zAM (ds:=[rr 0 a1]) (ds':=[so 1 eStr a1]) (.cons (.cell (.move (.head _) (List.length_map _) (by decide) (.nil))) (.nil) (by decide)) rfl
noncomputable def zRn:Code:=(Tryz.f202.body).getD .skip
theorem zCB.ok (a1:(List ByteArray)):Ok Tryz.prog 202 [rr 0 a1] [rE 1 eStr a1] ((zCB a1).map fun r=>(so 1 eStr r,[])):=by
 refine zH zRn Tryz.f202 1 7 (fun q=>?_)
 unfold zCB
 refine J_d 2 [] [] [] [] [] zB ?_
 refine zA (fun x2 h3=>?_)
 refine J_g 6 [] [(0,rr 0 a1)] [(0,rE 1 eStr x2)] (zD 1 (wG («as»:=[rr 0 a1]) [(.tmp 3)] [86] false [(0,rE 1 eStr a1)] [0] (.cons (.rf rfl) (.nil)) (wV.ok a1) h3 (.tu (.nil))) zB) ?_
 refine zA (fun u4 h5=>?_)
 refine zE5 (σ':=St.mk' [(0,rr 0 x2)] [(0,rE 1 eStr x2)]) (by simp only [rr,zBY h5]) ?_
 refine zA (fun x6 h7=>?_)
 refine J_g 14 [] [(2,rr 1 x6)] [(1,rE 1 eStr x6)] (zD 1 (wG («as»:=[rr 0 x2]) [(.tmp 5)] [86] false [(0,rE 1 eStr x2)] [0] (.cons (.rf rfl) (.nil)) (xX.ok x2) h7 (.own 1)) zB) ?_
 exact zAM (ds:=[rr 1 x6]) (ds':=[so 1 eStr x6]) (.cons (.cell (.move (.head _) (List.length_map _) (by decide) (.nil))) (.nil) (by decide)) rfl
noncomputable def c127:Code:=(Tryz.f127.body).getD .skip
theorem vL.ok (a1:(List Pack)) (a2:zC) (a3:(List Int)) (s30:((List ByteArray)×Int)) (x34:((List Int)×Int)) (q:Wd) (kn:(List ByteArray)→Option (D×List Ent)) (hk:∀v:(List ByteArray),J (q.g Tryz.prog 127 0 50) c127 (aft c127 1868) (St.mk' [(0,sl 8 (Pack.enc false) a1),(4,pp 0),(8,rr 1 v),(16,sl 1 zG a3),(17,iv (a3.length:Int)),(18,iv s30.2)] [(0,.box (zC.enc false a2)),(1,rE 1 eStr v)]) (some v) kn):
  ∀s46:((List ByteArray)×Int),J (q.g Tryz.prog 127 0 50) c127 (atI c127 119612) (St.mk' [(0,sl 8 (Pack.enc false) a1),(4,pp 0),(8,rr 1 s46.1),(16,sl 1 zG a3),(17,iv (a3.length:Int)),(18,iv s30.2),(32,rr 2 x34.1),(33,iv (x34.1.length:Int)),(34,iv s46.2)] [(0,.box (zC.enc false a2)),(1,rE 1 eStr s46.1),(2,rE 1 zG x34.1)]) (vL a1 a2 a3 s30 x34 s46) kn:=by
 refine kP (fun g ih s46=>?_)
 unfold kE
 refine J_d 239224 [] [35] [(35,bv (decide (s46.2< (x34.1.length:Int))))] [] [] zB ?_
 refine zF 35 (fun h47=>?_) (fun h47=>?_)
 ·refine zA (fun x48 h49=>?_)
  refine J_d 3827608 [] [14,35] [(14,iv x48)] [] [] (zD 0 (wM (kk:=.i64) 39 2 1 2 zG (.tmp 32) (.tmp 34) h49) (zD 1 (jH (d:=iv x48) 2 1 2 0 zG (.tmp 36) h49 (by kernel_rfl)) zB)) ?_
  refine zA (fun x50 h51=>?_)
  refine zA (fun x52 h53=>?_)
  refine zA (fun x54 h55=>?_)
  refine J_g 3827609 [] [(0,sl 8 (Pack.enc false) a1),(4,pp 0),(8,rr 4 x54),(16,sl 1 zG a3),(17,iv (a3.length:Int)),(18,iv s30.2),(32,rr 2 x34.1),(33,iv (x34.1.length:Int)),(34,iv s46.2)] [(0,.box (zC.enc false a2)),(2,rE 1 zG x34.1),(4,rE 1 eStr x54)] (zD 3 (zAg (kk:=.i64) 30 102 8 (Pack.enc false) (.tmp 39) (.tmp 40) h51) (zD 5 (xL [(.tmp 42)] [102] (zBb.ok x50) h53) (zD 6 (zDM 86 9 1 3 eStr [x52] [0] [(.tmp 43)] [sv x52]) (zD 7 (zG4 86 86 9 9 1 16 4 1 3 eStr (.tmp 38) (.tmp 44) h55) zB)))) ?_
  refine J_d 956903 [] [34] [(34,iv (w64 (s46.2+1)))] [] [] zB ?_
  refine kR 4 1 (Nat.le_of_ble_eq_true rfl) (Nat.le_of_ble_eq_true rfl) ?_
  exact J_q (J_b (ih (x54,w64 (s46.2+1)))) rfl
 ·exact yF (hk s46.1) rfl
theorem zAb.ok (a1:(List Pack)) (a2:zC) (a3:(List Int)) (q:Wd) (kn:(List ByteArray)→Option (D×List Ent)) (hk:∀v:(List ByteArray),J (q.g Tryz.prog 127 0 50) c127 (atI c127 15) (St.mk' [(8,rr 1 v)] [(1,rE 1 eStr v)]) (some v) kn):
  ∀s30:((List ByteArray)×Int),J (q.g Tryz.prog 127 0 50) c127 (atI c127 116) (St.mk' [(0,sl 8 (Pack.enc false) a1),(4,pp 0),(8,rr 1 s30.1),(16,sl 1 zG a3),(17,iv (a3.length:Int)),(18,iv s30.2)] [(0,.box (zC.enc false a2)),(1,rE 1 eStr s30.1)]) (zAb a1 a2 a3 s30) (Fl.go (fun r:((List ByteArray)×Int)=>some (.tu [so 1 eStr r.1,iv r.2],[])) kn):=by
 refine kP (fun g ih s30=>?_)
 unfold uH
 refine J_d 232 [] [19] [(19,bv (decide (s30.2< (a3.length:Int))))] [] [] zB ?_
 refine zF 19 (fun h31=>?_) (fun h31=>?_)
 ·refine zA (fun x32 h33=>?_)
  refine J_d 3736 [] [10,19] [(10,iv x32)] [] [] (zD 0 (zAg (kk:=.i64) 39 2 1 zG (.tmp 16) (.tmp 18) h33) zB) ?_
  refine zA (fun x34 h35=>?_)
  refine J_g 7474 [] [(0,sl 8 (Pack.enc false) a1),(4,pp 0),(8,rr 1 s30.1),(11,rr 2 x34.1),(12,iv x34.2),(16,sl 1 zG a3),(17,iv (a3.length:Int)),(18,iv s30.2)] [(0,.box (zC.enc false a2)),(1,rE 1 eStr s30.1),(2,rE 1 zG x34.1)] (zD 3 (wG («as»:=[sl 8 (Pack.enc false) a1,.ag (zC.enc false a2),iv x32]) [(.tmp 23),(.tmp 24),(.tmp 25)] [30,33,2] false [] [] (.cons (.same rfl) (.cons (.same rfl) (.cons (.same rfl) (.nil)))) (zDD.ok a1 a2 x32) h35 (.tu (.cons (.own 2) (.cons (.same rfl rfl) (.nil))))) zB) ?_
  refine J_d 29900 [] [30] [(30,bv (x34.2 !=0))] [] [] zB ?_
  refine zF 30 (fun h36=>?_) (fun h36=>?_)
  ·refine J_g 119604 [] [(6,nv),(7,iv x34.2)] [] zB ?_
   exact zAM (ds:=[nv,iv x34.2]) (ds':=[so 1 eStr ([]:List ByteArray),iv x34.2]) (.cons (.cell (.nilsl true 1 (.nil))) (.cons (.cell (.keep rfl (.nil))) (.nil) (by decide)) (by decide)) rfl
  ·refine J_d 29902 [] [11,12,30,32,33,34] [(32,rr 2 x34.1),(33,iv (x34.1.length:Int)),(34,iv 0)] [] [] zB ?_
   refine zEM (vL.ok a1 a2 a3 s30 x34 q _ (fun v56=>J_j ?_) (s30.1,0))
   refine J_d 935 [] [18] [(18,iv (w64 (s30.2+1)))] [] [] zB ?_
   exact J_q (J_b (ih (v56,w64 (s30.2+1)))) rfl
 ·exact yF (hk s30.1) rfl
theorem zA1.ok (a1:(List Pack)) (a2:zC) (a3:(List Int)):Ok Tryz.prog 127 [sl 8 (Pack.enc false) a1,.ag (zC.enc false a2),sl 1 zG a3] [] ((zA1 a1 a2 a3).map fun r=>(.tu [so 1 eStr r.1,iv r.2],[])):=by
 refine zH c127 Tryz.f127 0 50 (fun q=>?_)
 unfold zA1
 refine J_g 2 [(0,0)] [(0,sl 8 (Pack.enc false) a1),(2,sl 1 zG a3),(4,pp 0)] [(0,.box (zC.enc false a2))] zB ?_
 refine J_g 6 [] [(0,sl 8 (Pack.enc false) a1),(2,sl 1 zG a3),(4,pp 0),(8,rr 1 ([]:List ByteArray))] [(0,.box (zC.enc false a2)),(1,rE 1 eStr ([]:List ByteArray))] (zD 0 (zDM 86 9 1 1 eStr ([]:List ByteArray) [] [] []) zB) ?_
 refine J_d 28 [] [2,16,17,18] [(16,sl 1 zG a3),(17,iv (a3.length:Int)),(18,iv 0)] [] [] zB ?_
 refine vU (K0:=(fun r:((List ByteArray)×Int)=>some (.tu [so 1 eStr r.1,iv r.2],[]))) (fun _=>rfl) (zAb.ok a1 a2 a3 q _ (fun v57=>J_j ?_) (([]:List ByteArray),0))
 refine zA (fun x58 h59=>?_)
 refine J_g 30 [] [(6,rr 2 x58),(7,iv 0)] [(2,rE 1 eStr x58)] (zD 1 (wG («as»:=[rr 1 v57]) [(.tmp 48)] [86] false [(1,rE 1 eStr v57)] [1] (.cons (.rf rfl) (.nil)) (zCB.ok v57) h59 (.own 2)) zB) ?_
 exact zAM (ds:=[rr 2 x58,iv 0]) (ds':=[so 1 eStr x58,iv 0]) (.cons (.cell (.move (.head _) (List.length_map _) (by decide) (.nil))) (.cons (.cell (.keep rfl (.nil))) (.nil) (by decide)) (by decide)) rfl
noncomputable def c65:Code:=(Tryz.f65.body).getD .skip
theorem tJ.ok (a1:(List Pack)) (a2:zC) (a3:(List Int)):Ok Tryz.prog 65 [sl 8 (Pack.enc false) a1,.ag (zC.enc false a2),sl 1 zG a3] [] ((tJ a1 a2 a3).map fun r=>(.tu [so 1 eStr r.1,iv r.2],[])):=by
 refine zH c65 Tryz.f65 0 25 (fun q=>?_)
 unfold tJ
 refine J_d 2 [(0,0)] [1,4] [(4,pp 0)] [0] [(0,.box (zC.enc false a2))] zB ?_
 refine zA (fun x4 h5=>?_)
 refine J_g 6 [] [(0,sl 8 (Pack.enc false) a1),(4,pp 0),(8,rr 1 x4.1),(9,iv x4.2)] [(0,.box (zC.enc false a2)),(1,rE 1 zG x4.1)] (zD 2 (wG («as»:=[.ag (zC.enc false a2),sl 1 zG a3]) [(.tmp 11),(.tmp 12)] [33,39] false [] [] (.cons (.same rfl) (.cons (.same rfl) (.nil))) (vT.ok a2 a3) h5 (.tu (.cons (.own 1) (.cons (.same rfl rfl) (.nil))))) zB) ?_
 refine J_d 28 [] [17] [(17,bv (x4.2 !=0))] [] [] zB ?_
 refine zF 17 (fun h6=>?_) (fun h6=>?_)
 ·refine J_g 116 [] [(6,nv),(7,iv x4.2)] [] zB ?_
  exact zAM (ds:=[nv,iv x4.2]) (ds':=[so 1 eStr ([]:List ByteArray),iv x4.2]) (.cons (.cell (.nilsl true 1 (.nil))) (.cons (.cell (.keep rfl (.nil))) (.nil) (by decide)) (by decide)) rfl
 ·refine zA (fun x7 h8=>?_)
  refine J_g 30 [] [(6,rr 2 x7.1),(7,iv x7.2)] [(2,rE 1 eStr x7.1)] (zD 3 (wG («as»:=[sl 8 (Pack.enc false) a1,.ag (zC.enc false a2),rr 1 x4.1]) [(.tmp 19),(.tmp 20),(.tmp 21)] [30,33,39] true [(1,rE 1 zG x4.1)] [] (.cons (.same rfl) (.cons (.same rfl) (.cons (zDP (.head _) (fun _=>rfl) rfl) (.nil)))) (zA1.ok a1 a2 x4.1) h8 (.tu (.cons (.own 2) (.cons (.same rfl rfl) (.nil)))) (hbor:=fun _=>⟨fhN,(zHy (flatK (zDU (zEN (fun _=>(flatK zT zDQ)) _)) (flatK zT zDQ)))⟩)) zB) ?_
  exact zAM (ds:=[rr 2 x7.1,iv x7.2]) (ds':=[so 1 eStr x7.1,iv x7.2]) (.cons (.cell (.move (.head _) (List.length_map _) (by decide) (.nil))) (.cons (.cell (.keep rfl (.nil))) (.nil) (by decide)) (by decide)) rfl
noncomputable def c67:Code:=(Tryz.f67.body).getD .skip
theorem zD1.ok (a3:(List ByteArray)) (x30:(List ByteArray)) (q:Wd) (kn:(List ByteArray)→Option (D×List Ent)) (hk:∀v:(List ByteArray),J (q.g Tryz.prog 67 0 47) c67 (atI c67 31) (St.mk' [(7,rr 1 v)] [(1,rE 1 eStr v)]) (some v) kn):
  ∀s41:((List ByteArray)×Int),J (q.g Tryz.prog 67 0 47) c67 (atI c67 244) (St.mk' [(2,sl 1 eStr a3),(7,rr 1 s41.1),(31,rr 2 x30),(32,iv (x30.length:Int)),(33,iv s41.2)] [(1,rE 1 eStr s41.1),(2,rE 1 eStr x30)]) (zD1 a3 x30 s41) kn:=by
 refine kP (fun g ih s41=>?_)
 unfold zCU
 refine J_d 488 [] [34] [(34,bv (decide (s41.2< (x30.length:Int))))] [] [] zB ?_
 refine zF 34 (fun h42=>?_) (fun h42=>?_)
 ·refine zA (fun x43 h44=>?_)
  refine J_d 7832 [] [11,34] [(11,sv x43)] [] [] (zD 0 (wM (kk:=.i64) 86 9 1 2 eStr (.tmp 31) (.tmp 33) h44) (zD 1 (jH (d:=sv x43) 9 1 2 0 eStr (.tmp 35) h44 (by kernel_rfl)) zB)) ?_
  refine zA (fun x45 h46=>?_)
  refine J_d 15666 [] [40] [(40,bv (!x45))] [] [] (zD 2 (xL [(.tmp 37),(.tmp 38)] [86,9] (yV.ok a3 x43) h46) zB) ?_
  refine yQ (aft c67 3916) (fun v50:(List ByteArray)=>St.mk' [(2,sl 1 eStr a3),(7,rr 4 v50),(31,rr 2 x30),(32,iv (x30.length:Int)),(33,iv s41.2)] [(2,rE 1 eStr x30),(4,rE 1 eStr v50)]) (fun v50=>?_) (fun jv50=>?_)
  ·refine J_d 1959 [] [33] [(33,iv (w64 (s41.2+1)))] [] [] zB ?_
   refine kR 4 1 (Nat.le_of_ble_eq_true rfl) (Nat.le_of_ble_eq_true rfl) ?_
   exact J_q (J_b (ih (v50,w64 (s41.2+1)))) rfl
  ·refine zF 40 (fun h47=>?_) (fun h47=>?_)
   ·refine zA (fun x48 h49=>?_)
    refine J_d 31334 [] [7,11,40] [(7,rr 4 x48)] [1,4] [(4,rE 1 eStr x48)] (zD 2 (zDM 86 9 1 3 eStr [x43] [0] [(.tmp 42)] [sv x43]) (zD 3 (zG4 86 86 9 9 1 16 4 1 3 eStr (.tmp 41) (.tmp 43) h49) zB)) ?_
    exact yF (J_j (jv50 x48)) rfl
   ·refine kR 1 4 (Nat.le_of_ble_eq_true rfl) (Nat.le_of_ble_eq_true rfl) ?_
    exact yF (J_j (jv50 s41.1)) rfl
 ·exact yF (hk s41.1) rfl
theorem zD5.ok (a1:zC) (a2:(List Int)) (a3:(List ByteArray)) (x4:(List Int)) (q:Wd) (kn:(List ByteArray)→Option (D×List Ent)) (hk:∀v:(List ByteArray),J (q.g Tryz.prog 67 0 47) c67 (atI c67 15) (St.mk' [(2,sl 1 eStr a3),(3,pp 0),(7,rr 1 v)] [(0,.box (zC.enc false a1)),(1,rE 1 eStr v)]) (some v) kn):
  ∀s17:((List ByteArray)×Int),J (q.g Tryz.prog 67 0 47) c67 (atI c67 116) (St.mk' [(1,sl 1 zG a2),(2,sl 1 eStr a3),(3,pp 0),(7,rr 1 s17.1),(14,rr 2 x4),(15,iv (x4.length:Int)),(16,iv s17.2)] [(0,.box (zC.enc false a1)),(1,rE 1 eStr s17.1),(2,rE 1 zG x4)]) (zD5 a1 a2 a3 x4 s17) kn:=by
 refine kP (fun g ih s17=>?_)
 unfold zCR
 refine J_d 232 [] [17] [(17,bv (decide (s17.2< (x4.length:Int))))] [] [] zB ?_
 refine zF 17 (fun h18=>?_) (fun h18=>?_)
 ·refine zA (fun x19 h20=>?_)
  refine J_d 3736 [] [9,17] [(9,iv x19)] [] [] (zD 0 (wM (kk:=.i64) 39 2 1 2 zG (.tmp 14) (.tmp 16) h20) (zD 1 (jH (d:=iv x19) 2 1 2 0 zG (.tmp 18) h20 (by kernel_rfl)) zB)) ?_
  refine zA (fun x21 h22=>?_)
  refine J_d 7474 [] [23] [(23,bv (!x21))] [] [] (zD 2 (xL [(.tmp 20),(.tmp 21)] [39,2] (zV.ok a2 x19) h22) zB) ?_
  refine yQ (aft c67 1868) (fun v28:(List ByteArray)=>St.mk' [(1,sl 1 zG a2),(2,sl 1 eStr a3),(3,pp 0),(7,rr 4 v28),(14,rr 2 x4),(15,iv (x4.length:Int)),(16,iv s17.2)] [(0,.box (zC.enc false a1)),(2,rE 1 zG x4),(4,rE 1 eStr v28)]) (fun v28=>?_) (fun jv28=>?_)
  ·refine J_d 935 [] [16] [(16,iv (w64 (s17.2+1)))] [] [] zB ?_
   refine kR 4 1 (Nat.le_of_ble_eq_true rfl) (Nat.le_of_ble_eq_true rfl) ?_
   exact J_q (J_b (ih (v28,w64 (s17.2+1)))) rfl
  ·refine zF 23 (fun h23=>?_) (fun h23=>?_)
   ·refine zA (fun x24 h25=>?_)
    refine zA (fun x26 h27=>?_)
    refine J_d 14950 [] [7,9,23] [(7,rr 4 x26)] [1,4] [(4,rE 1 eStr x26)] (zD 2 (xL [(.tmp 25)] [2] (kI.ok x19) h25) (zD 3 (zDM 86 9 1 3 eStr [x24] [0] [(.tmp 26)] [sv x24]) (zD 4 (zG4 86 86 9 9 1 16 4 1 3 eStr (.tmp 24) (.tmp 27) h27) zB))) ?_
    exact yF (J_j (jv28 x26)) rfl
   ·refine kR 1 4 (Nat.le_of_ble_eq_true rfl) (Nat.le_of_ble_eq_true rfl) ?_
    exact yF (J_j (jv28 s17.1)) rfl
 ·exact yF (hk s17.1) rfl
theorem zDK.ok (a1:zC) (a2:(List Int)) (a3:(List ByteArray)):Ok Tryz.prog 67 [.ag (zC.enc false a1),sl 1 zG a2,sl 1 eStr a3] [] ((zDK a1 a2 a3).map fun r=>(so 1 eStr r,[])):=by
 refine zH c67 Tryz.f67 0 47 (fun q=>?_)
 unfold zDK
 refine J_g 2 [(0,0)] [(1,sl 1 zG a2),(2,sl 1 eStr a3),(3,pp 0)] [(0,.box (zC.enc false a1))] zB ?_
 refine J_d 6 [] [7] [(7,rr 1 ([]:List ByteArray))] [1] [(1,rE 1 eStr ([]:List ByteArray))] (zD 0 (zDM 86 9 1 1 eStr ([]:List ByteArray) [] [] []) zB) ?_
 refine zA (fun x4 h5=>?_)
 refine J_d 28 [] [14,15,16] [(14,rr 2 x4),(15,iv (x4.length:Int)),(16,iv 0)] [2] [(2,rE 1 zG x4)] (zD 1 (wG («as»:=[.ag (zC.enc false a1)]) [(.tmp 13)] [33] false [] [] (.cons (.same rfl) (.nil)) (wD.ok a1) h5 (.own 2)) zB) ?_
 refine zEM (zD5.ok a1 a2 a3 x4 q _ (fun v29=>J_j ?_) (([]:List ByteArray),0))
 refine zA (fun x30 h31=>?_)
 refine J_d 60 [] [3,31,32,33] [(31,rr 2 x30),(32,iv (x30.length:Int)),(33,iv 0)] [0,2] [(2,rE 1 eStr x30)] (zD 1 (wG («as»:=[.ag (zC.enc false a1),sv (bs [112,107,103,47])]) [(.tmp 30),(.const (.string (bs [112,107,103,47])))] [33,9] false [] [] (.cons (.same rfl) (.cons (.same rfl) (.nil))) (uF.ok a1 (bs [112,107,103,47])) h31 (.own 2)) zB) ?_
 refine zEM (zD1.ok a3 x30 q _ (fun v51=>J_j ?_) (v29,0))
 refine J_g 62 [] [(6,rr 1 v51)] [(1,rE 1 eStr v51)] zB ?_
 exact zAM (ds:=[rr 1 v51]) (ds':=[so 1 eStr v51]) (.cons (.cell (.move (.head _) (List.length_map _) (by decide) (.nil))) (.nil) (by decide)) rfl
section
open Go.Shelf Go.RowKit Go.Lib
set_option linter.unusedVariables false
set_option linter.unusedSimpArgs false
set_option maxHeartbeats 4000000 in
set_option maxRecDepth 1000000 in
theorem zOb (b off n cap i j:Nat) (news:List Value) (w:World) (hcap:n≤cap) (hij:i<j) (hj:j≤n) (hlen:news.length=(n-j)*2)
  (hcs:∀k v,news[k]? =some v→w.cell? ⟨b,off+j*2+k,none⟩=some v) (h1c:∀u∈news,u.oneCell'=true)
  (hsp:∀k,k<n*2→(w.cell? ⟨b,off+k,none⟩).isSome =true∧w.frozen? ⟨b,off+k,none⟩=false)
  (zs:List Value) (hcl:∀ty W,W=w.drew.setCells b (off+i*2) news→(Builtin.clear_ #[31] ty #[.slice (some ⟨b,off+(i+(n-j))*2,none⟩) (n-(i+(n-j))) (cap-(i+(n-j)))]).run Tryz.prog W= .ok (.tuple #[]) (W.setCells b (off+(i+(n-j))*2) zs)):
  Calls Tryz.prog 141 #[.slice (some ⟨b,off,none⟩) n cap,.int .i64 i,.int .i64 j] w fun e w'=>e= .returned (.slice (some ⟨b,off,none⟩) (i+(n-j)) cap)∧w'=(w.drew.setCells b (off+i*2) news).setCells b (off+(i+(n-j))*2) zs:=by
 obtain ⟨A,hA,hsrc⟩:∃A:Addr,(if cap=j then some (⟨b,off,none⟩:Addr) else some ⟨b,off+j*2,none⟩)=some A∧Hid (∀t u,news[t]? =some u→w.drew.cell? (A.add t)=some u):=by
  by_cases h:cap=j
  ·refine ⟨⟨b,off,none⟩,by simp [h],fun t u hu=>?_⟩
   have h0:news.length=0:=by omega
   rw [List.length_eq_zero_iff.1 h0] at hu
   simp at hu
  ·exact ⟨⟨b,off+j*2,none⟩,by simp [h],fun t u hu=>by rw [Addr.add_lit]; exact hcs t u hu⟩
 have s1:Hid (news.length=(n-j)*2):=hlen
 have s2:Hid (∀u∈news,u.oneCell'=true):=h1c
 have s3:Hid (∀t,t<news.length→(w.drew.cell? ⟨b,off+i*2+t,none⟩).isSome =true∧w.drew.frozen? ⟨b,off+i*2+t,none⟩=false):=by
  intro t ht
  rw [Nat.add_assoc]
  exact hsp (i*2+t) (by omega)
 obtain ⟨W1,hW1⟩:∃W1,W1=w.drew.setCells b (off+i*2) news:=⟨_,rfl⟩
 have hW:Hid (W1=w.drew.setCells b (off+i*2) news):=hW1
 have hcl':∀ty,(Builtin.clear_ #[31] ty #[.slice (some ⟨b,off+(i+(n-j))*2,none⟩) (n-(i+(n-j))) (cap-(i+(n-j)))]).run Tryz.prog W1= .ok (.tuple #[]) (W1.setCells b (off+(i+(n-j))*2) zs):=fun ty=>hcl ty W1 hW1
 have X:Aside (W1=w.drew.setCells b (off+i*2) news):=hW1
 have hic:i≤cap:=by omega
 have hjc:j≤cap:=by omega
 have hi0:Tryz.prog.info? 138=some Tryz.t138:=by kernel_rfl
 have hi1:Tryz.t138.size=2:=by kernel_rfl
 have mixed:Tryz.prog.follows .mixedOrders =true:=by kernel_rfl
 clear hW1 hcl hlen hcs h1c hsp
 go_enter Tryz.func141,Tryz.ntmps141
 go_wp2_with fail
 go_region_law_o (refine step_append_room rfl (.tmp 22) (.tmp 25) 31 rfl 138 Tryz.t138 2 Tryz.underlying31 hi0 hi1 b off i cap (by simp [Act.eval,Act.put]) A (n-j) (cap-j) news (by simp [Act.eval,Act.put]) s1.out hsrc.out s2.out (by omega) s3.out ?_; rw [←hW.out])
 go_wp2
 go_ret
 exact ⟨rfl,by rw [←X.out]⟩
set_option maxHeartbeats 4000000 in
set_option maxRecDepth 1000000 in
theorem zJX (base:Option Addr) (n cap i:Nat) (w:World) (hnc:n≤cap) (hi:i≤n) (hnil:base=none→n=0∧cap=0):Calls Tryz.prog 141 #[.slice base n cap,.int .i64 i,.int .i64 i] w fun e w'=>e= .returned (.slice base n cap)∧w'=w:=by
 have mixed:Tryz.prog.follows .mixedOrders =true:=by kernel_rfl
 cases base with
 |none=>
  obtain ⟨rfl,rfl⟩:=hnil rfl
  obtain rfl:i=0:=by omega
  go_enter Tryz.func141,Tryz.ntmps141
  go_wp2
  all_goals (go_ret; exact ⟨rfl,rfl⟩)
 |some a=>
  obtain ⟨ab,ao,asp⟩:=a
  go_enter Tryz.func141,Tryz.ntmps141
  go_wp2
  all_goals (go_ret; exact ⟨rfl,rfl⟩)
theorem zNP (n:Nat) (i j:Int) (h0:0≤i) (h1:i≤j) (h2:j≤n) (hbig:n≤1099511627776) (w:World) (v:Value) (wx:List Value) (bx:List Nat) (hD1:Dst w 2 n v wx bx) (hlt:∀b∈bx,b<w.heap.size) (q1:∀q∈wx,Value.oneCell q=true):
  Calls Tryz.prog 141 #[v,.int .i64 i,.int .i64 j] w fun e w'=>∃r,e= .returned r∧zNB w w' 2 (i.toNat+(n-j.toNat)) 0 (wx.take (i.toNat*2)++wx.drop (j.toNat*2)) [] bx r:=by
 obtain ⟨i,rfl⟩:=Int.eq_ofNat_of_zero_le h0
 obtain ⟨j,rfl⟩:=Int.eq_ofNat_of_zero_le (show 0≤j by omega)
 rw [Int.toNat_natCast,Int.toNat_natCast]
 have hij:i≤j:=by omega
 have hj:j≤n:=by omega
 have e1:∀q∈wx,q.oneCell'=true:=fun q hq=>by rw [zGf]; exact q1 q hq
 by_cases hc:i=j
 ·subst hc
  rw [List.take_append_drop,show i+(n-i)=n by omega]
  rcases hD1 with ⟨rfl,rfl,rfl,rfl⟩|⟨b,off,c,rfl,rfl,hnc,hO1,hl1⟩
  ·refine (zJX none 0 0 i w (Nat.le_refl _) hj (fun _=>⟨rfl,rfl⟩)).mono ?_
   rintro e w' ⟨rfl,rfl⟩
   exact ⟨_,rfl,⟨rfl,rfl⟩,.inl ⟨rfl,rfl,rfl,rfl⟩⟩
  ·refine (zJX (some ⟨b,off,none⟩) n c i w hnc hj (fun h=>by cases h)).mono ?_
   rintro e w' ⟨rfl,rfl⟩
   exact ⟨_,rfl,⟨rfl,rfl⟩,.inr ⟨b,off,c,rfl,hnc,by rw [List.append_nil]; exact hO1,hlt b (by simp),.inl ⟨rfl,fun _ _=>rfl,rfl⟩⟩⟩
 ·rcases hD1 with ⟨_,hn0,_⟩|⟨b,off,c,rfl,rfl,hnc,hO1,hl1⟩
  ·omega
  obtain ⟨arr,e,lo,hi,g1,g2,g3,g4⟩:=id hO1
  have hz2:(zIi Tryz.prog 138).cells.size =2:=by kernel_rfl
  have hsp:∀k,k<n*2→(w.cell? ⟨b,off+k,none⟩).isSome =true∧w.frozen? ⟨b,off+k,none⟩=false:=fun k hk=>by
   refine ⟨?_,zLP g1 g2 (by omega)⟩
   rw [cell_of g1,Array.getElem?_eq_getElem (by omega)]; rfl
  have hld:(wx.drop (j*2)).length =(n-j)*2:=by rw [List.length_drop,hl1]; omega
  refine (zOb b off n c i j (wx.drop (j*2)) w hnc (by omega) hj hld (fun k v hk=>?_) (fun u hu=>e1 u (List.mem_of_mem_drop hu)) hsp (Builtin.zeroCells (zIi Tryz.prog 138).cells (n-(i+(n-j)))).toList (fun ty W hW=>?_)).mono ?_
  ·rw [List.getElem?_drop] at hk
   obtain ⟨hlt',rfl⟩:=List.getElem?_eq_some_iff.1 hk
   rw [Nat.add_assoc]
   exact hO1.has.cell _ hlt'
  ·refine zKO W 31 138 ty (zIi Tryz.prog 138) 2 Tryz.underlying31 (by kernel_rfl) hz2 (by kernel_rfl) b _ _ _ (by omega) (fun k hk=>?_) (fun k hk=>?_)
   ·rw [hW,Nat.add_assoc]
    refine isSome_setCells b _ _ _ (fun t ht=>?_) _ ?_
    ·rw [Nat.add_assoc]; exact (hsp _ (by omega)).1
    ·exact (hsp _ (by omega)).1
   ·rw [hW,World.frozen?_setCells,Nat.add_assoc]
    exact (hsp _ (by omega)).2
  ·rintro e w' ⟨rfl,rfl⟩
   refine ⟨_,rfl,?_⟩
   rw [zAh,zAh]
   exact zOl (w:=w) (w0:=w.drew) ⟨rfl,rfl,rfl⟩ hO1 hl1 hij hj hnc (by simp [Builtin.zeroCells,hz2]; omega)
theorem vM.ok (a1:List File) (a2 a3:Int):Ok Tryz.prog 141 [rr 0 a1,iv a2,iv a3] [rE 2 (File.enc true) a1] ((vM a1 a2 a3).map fun r=>(so 2 (File.enc true) r,[])):=by
 unfold vM
 split
 ·rename_i h
  obtain ⟨h0,h1,h2,h3⟩:=h
  exact zM0 (fun _=>rfl) h0 h1 h2 (fun w v wx bx hD1 hlt q1=>zNP a1.length a2 a3 h0 h1 h2 h3 w v wx bx hD1 hlt q1)
 ·exact fun _ h=>by cases h
end
noncomputable def zRc:Code:=(Tryz.f140.body).getD .skip
theorem jL.ok (a1:zC) (a2:Int):Ok Tryz.prog 140 [.pb [pp 0],pp 1] [.box (zC.enc true a1),.box [iv a2]] ((jL a1 a2).map fun r=>(.tu [],[.box (zC.enc true r),.box [iv a2]])):=by
 refine zH zRc Tryz.f140 2 13 (fun q=>?_)
 unfold jL
 refine yU 0 (cs':=[rr 2 a1.Files,iv a1.Budget,iv a1.Writes,iv a1.Stop,bv a1.Down]) (es:=[(2,rE 2 (File.enc true) a1.Files)]) rfl (.cons (.own 2) (.cons (.same rfl rfl) (.cons (.same rfl rfl) (.cons (.same rfl rfl) (.cons (.same rfl rfl) (.nil)))))) rfl (by kernel_rfl) (by kernel_rfl) ?_
 refine vS [(0,.pb [pp 0]),(1,pp 1)] [(0,.box [rr 2 a1.Files,iv a1.Budget,iv a1.Writes,iv a1.Stop,bv a1.Down]),(1,.box [iv a2]),(2,rE 2 (File.enc true) a1.Files)] (by kernel_rfl) ?_
 refine zA (fun x3 h4=>?_)
 refine J_g 1 [] [] [(0,.box [rr 3 x3,iv a1.Budget,iv a1.Writes,iv a1.Stop,bv a1.Down]),(1,.box [iv a2]),(3,rE 2 (File.enc true) x3)] (zD 0 (zLi (d:=pp 0) 72 (.tmp 0) [pp 0]) (zD 1 (zLi (d:=pp 0) 72 (.tmp 0) [pp 0]) (zD 8 (wG («as»:=[rr 2 a1.Files,iv a2,iv (w64 (a2+1))]) [(.tmp 6),(.tmp 7),(.tmp 9)] [31,3,3] false [(2,rE 2 (File.enc true) a1.Files)] [2] (.cons (.rf rfl) (.cons (.same rfl) (.cons (.same rfl) (.nil)))) (vM.ok a1.Files a2 (w64 (a2+1))) h4 (.own 3)) zB))) ?_
 refine xG 0 (cs':=[so 2 (File.enc true) x3,iv a1.Budget,iv a1.Writes,iv a1.Stop,bv a1.Down]) (ts:=[3]) rfl (.move (.tail _ (.head _)) (List.length_map _) (by decide) (.keep rfl (.keep rfl (.keep rfl (.keep rfl (.nil)))))) ?_
 refine vS [] [(0,.box [so 2 (File.enc true) x3,iv a1.Budget,iv a1.Writes,iv a1.Stop,bv a1.Down]),(1,.box [iv a2])] (by kernel_rfl) ?_
 exact zN1 rfl
noncomputable def c139:Code:=(Tryz.f139.body).getD .skip
theorem yN.ok (a1:zC) (a2:Int):Ok Tryz.prog 139 [pp 0,.fn 140 [.pb [pp 0],pp 1]] [.box (zC.enc true a1),.box [iv a2]] ((yN a1 a2).map fun r=>(iv r.1,[.box (zC.enc true r.2),.box [iv a2]])):=by
 refine zH c139 Tryz.f139 2 33 (fun q=>?_)
 unfold yN
 refine yU 0 (cs':=[rr 2 a1.Files,iv a1.Budget,iv a1.Writes,iv a1.Stop,bv a1.Down]) (es:=[(2,rE 2 (File.enc true) a1.Files)]) rfl (.cons (.own 2) (.cons (.same rfl rfl) (.cons (.same rfl rfl) (.cons (.same rfl rfl) (.cons (.same rfl rfl) (.nil)))))) rfl (by kernel_rfl) (by kernel_rfl) ?_
 refine vS [(0,pp 0),(1,.fn 140 [.pb [pp 0],pp 1])] [(0,.box [rr 2 a1.Files,iv a1.Budget,iv a1.Writes,iv a1.Stop,bv a1.Down]),(1,.box [iv a2]),(2,rE 2 (File.enc true) a1.Files)] (by kernel_rfl) ?_
 refine J_d 2 [] [] [] [] [] zB ?_
 refine yQ (atI c139 13) (fun v4:Bool=>St.mk' [(0,pp 0),(1,.fn 140 [.pb [pp 0],pp 1]),(20,bv v4)] [(0,.box [rr 2 a1.Files,iv a1.Budget,iv a1.Writes,iv a1.Stop,bv a1.Down]),(1,.box [iv a2]),(2,rE 2 (File.enc true) a1.Files)]) (fun v4=>?_) (fun jv4=>?_)
 ·refine zF 20 (fun h5=>?_) (fun h5=>?_)
  ·refine J_g 52 [] [] [(0,.box [rr 2 a1.Files,iv a1.Budget,iv a1.Writes,iv a1.Stop,bv true]),(1,.box [iv a2]),(2,rE 2 (File.enc true) a1.Files)] zB ?_
   refine J_g 106 [] [(4,iv 9)] [(0,.box [rr 2 a1.Files,iv a1.Budget,iv a1.Writes,iv a1.Stop,bv true]),(1,.box [iv a2]),(2,rE 2 (File.enc true) a1.Files)] zB ?_
   refine xG 0 (cs':=[so 2 (File.enc true) a1.Files,iv a1.Budget,iv a1.Writes,iv a1.Stop,bv true]) (ts:=[2]) rfl (.move (.tail _ (.head _)) (List.length_map _) (by decide) (.keep rfl (.keep rfl (.keep rfl (.keep rfl (.nil)))))) ?_
   refine vS [(4,iv 9)] [(0,.box [so 2 (File.enc true) a1.Files,iv a1.Budget,iv a1.Writes,iv a1.Stop,bv true]),(1,.box [iv a2])] (by kernel_rfl) ?_
   exact zR rfl
  ·refine xG 0 (cs':=[so 2 (File.enc true) a1.Files,iv a1.Budget,iv a1.Writes,iv a1.Stop,bv a1.Down]) (ts:=[2]) rfl (.move (.tail _ (.head _)) (List.length_map _) (by decide) (.keep rfl (.keep rfl (.keep rfl (.keep rfl (.nil)))))) ?_
   refine vS [(0,pp 0),(1,.fn 140 [.pb [pp 0],pp 1]),(20,bv false)] [(0,.box (zC.enc true a1)),(1,.box [iv a2])] (by kernel_rfl) ?_
   refine zA (fun x6 h7=>?_)
   refine J_g 14 [] [(0,pp 0)] [(0,.box (zC.enc true x6)),(1,.box [iv a2])] (zD 1 (zOp 24 [] [] false [(0,.box (zC.enc true a1)),(1,.box [iv a2])] [0,1] [] [.pb [pp 0],pp 1] (.cons (.pb (.cons (.pt rfl) (.nil))) (.cons (.pt rfl) (.nil))) (jL.ok a1 a2) h7 (.tu (.nil))) zB) ?_
   refine yU 0 (cs':=[rr 2 x6.Files,iv x6.Budget,iv x6.Writes,iv x6.Stop,bv x6.Down]) (es:=[(2,rE 2 (File.enc true) x6.Files)]) rfl (.cons (.own 2) (.cons (.same rfl rfl) (.cons (.same rfl rfl) (.cons (.same rfl rfl) (.cons (.same rfl rfl) (.nil)))))) rfl (by kernel_rfl) (by kernel_rfl) ?_
   refine vS [(0,pp 0)] [(0,.box [rr 2 x6.Files,iv x6.Budget,iv x6.Writes,iv x6.Stop,bv x6.Down]),(1,.box [iv a2]),(2,rE 2 (File.enc true) x6.Files)] (by kernel_rfl) ?_
   refine J_g 30 [] [] [(0,.box [rr 2 x6.Files,iv x6.Budget,iv (w64 (x6.Writes+1)),iv x6.Stop,bv x6.Down]),(1,.box [iv a2]),(2,rE 2 (File.enc true) x6.Files)] zB ?_
   refine J_g 62 [] [(4,iv 0)] [(0,.box [rr 2 x6.Files,iv x6.Budget,iv (w64 (x6.Writes+1)),iv x6.Stop,bv x6.Down]),(1,.box [iv a2]),(2,rE 2 (File.enc true) x6.Files)] zB ?_
   refine xG 0 (cs':=[so 2 (File.enc true) x6.Files,iv x6.Budget,iv (w64 (x6.Writes+1)),iv x6.Stop,bv x6.Down]) (ts:=[2]) rfl (.move (.tail _ (.head _)) (List.length_map _) (by decide) (.keep rfl (.keep rfl (.keep rfl (.keep rfl (.nil)))))) ?_
   refine vS [(4,iv 0)] [(0,.box [so 2 (File.enc true) x6.Files,iv x6.Budget,iv (w64 (x6.Writes+1)),iv x6.Stop,bv x6.Down]),(1,.box [iv a2])] (by kernel_rfl) ?_
   exact zR rfl
 ·refine wJ (fun h3=>?_) (fun h3=>?_)
  ·refine J_d 12 [] [20] [(20,bv (decide (a1.Writes≥a1.Stop)))] [] [] (xU 5 [(9,bv (decide (a1.Stop≥0)))] [] h3 zB) ?_
   exact yF (J_j (jv4 (decide (a1.Writes≥a1.Stop)))) rfl
  ·refine J_d 12 [] [20] [(20,bv false)] [] [] (xU 5 [(9,bv (decide (a1.Stop≥0)))] [] h3 zB) ?_
   exact yF (J_j (jv4 false)) rfl
noncomputable def c68:Code:=(Tryz.f68.body).getD .skip
theorem jT.ok (a1:zC) (a2:ByteArray):Ok Tryz.prog 68 [pp 0,sv a2] [.box (zC.enc true a1)] ((jT a1 a2).map fun r=>(iv r.1,[.box (zC.enc true r.2)])):=by
 refine zH c68 Tryz.f68 1 20 (fun q=>?_)
 unfold jT
 refine yU 0 (cs':=[rr 1 a1.Files,iv a1.Budget,iv a1.Writes,iv a1.Stop,bv a1.Down]) (es:=[(1,rE 2 (File.enc true) a1.Files)]) rfl (.cons (.own 1) (.cons (.same rfl rfl) (.cons (.same rfl rfl) (.cons (.same rfl rfl) (.cons (.same rfl rfl) (.nil)))))) rfl (by kernel_rfl) (by kernel_rfl) ?_
 refine vS [(0,pp 0),(1,sv a2)] [(0,.box [rr 1 a1.Files,iv a1.Budget,iv a1.Writes,iv a1.Stop,bv a1.Down]),(1,rE 2 (File.enc true) a1.Files)] (by kernel_rfl) ?_
 refine J_d 2 [] [0,2] [(2,.pb [pp 0])] [] [] (zD 0 (zPh 72 (.tmp 0) (pp 0)) zB) ?_
 refine zA (fun x3 h4=>?_)
 refine J_g 6 [(8,2)] [(2,.pb [pp 0]),(5,pp 2),(6,bv x3.2)] [(0,.box [rr 1 a1.Files,iv a1.Budget,iv a1.Writes,iv a1.Stop,bv a1.Down]),(1,rE 2 (File.enc true) a1.Files),(2,.box [iv x3.1])] (zD 0 (zLi (d:=pp 0) 72 (.tmp 2) [pp 0]) (zD 4 (wG («as»:=[.ag [rr 1 a1.Files,iv a1.Budget,iv a1.Writes,iv a1.Stop,bv a1.Down],sv a2]) [(.tmp 10),(.tmp 11)] [72,9] true [(1,rE 2 (File.enc true) a1.Files)] [] (.cons (.ag (.cons (zDP (.head _) (File.ro true) rfl) (.cons (.same rfl) (.cons (.same rfl) (.cons (.same rfl) (.cons (.same rfl) (.nil))))))) (.cons (.same rfl) (.nil))) (wZ.ok a1 a2) h4 (.tu (.cons (.same rfl rfl) (.cons (.same rfl rfl) (.nil)))) (hbor:=fun _=>⟨fhN,(zHy (flatK zT (flatK zT zDQ)))⟩)) zB)) ?_
 refine J_d 28 [] [6,16] [(16,bv (!x3.2))] [] [] zB ?_
 refine zF 16 (fun h5=>?_) (fun h5=>?_)
 ·refine J_g 116 [] [(4,iv 4)] [(0,.box [rr 1 a1.Files,iv a1.Budget,iv a1.Writes,iv a1.Stop,bv a1.Down]),(1,rE 2 (File.enc true) a1.Files)] zB ?_
  refine xG 0 (cs':=[so 2 (File.enc true) a1.Files,iv a1.Budget,iv a1.Writes,iv a1.Stop,bv a1.Down]) (ts:=[1]) rfl (.move (.head _) (List.length_map _) (by decide) (.keep rfl (.keep rfl (.keep rfl (.keep rfl (.nil)))))) ?_
  refine vS [(4,iv 4)] [(0,.box (zC.enc true a1))] (by kernel_rfl) ?_
  exact zR rfl
 ·refine xG 0 (cs':=[so 2 (File.enc true) a1.Files,iv a1.Budget,iv a1.Writes,iv a1.Stop,bv a1.Down]) (ts:=[1]) rfl (.move (.head _) (List.length_map _) (by decide) (.keep rfl (.keep rfl (.keep rfl (.keep rfl (.nil)))))) ?_
  refine vS [(2,.pb [pp 0]),(5,pp 2),(16,bv false)] [(0,.box (zC.enc true a1)),(2,.box [iv x3.1])] (by kernel_rfl) ?_
  refine zA (fun x6 h7=>?_)
  refine J_g 30 [] [(4,iv x6.1)] [(0,.box (zC.enc true x6.2))] (zD 0 (zLi (d:=pp 0) 72 (.tmp 2) [pp 0]) (zD 2 (wG («as»:=[pp 0,.fn 140 [.pb [pp 0],pp 2]]) [(.tmp 17),(.tmp 18)] [72,1] false [(0,.box (zC.enc true a1)),(2,.box [iv x3.1])] [0,2] (.cons (.pt rfl) (.cons (.fn (.cons (.pb (.cons (.pt rfl) (.nil))) (.cons (.pt rfl) (.nil)))) (.nil))) (yN.ok a1 x3.1) h7 (.same rfl rfl)) zB)) ?_
  refine yU 0 (cs':=[rr 1 x6.2.Files,iv x6.2.Budget,iv x6.2.Writes,iv x6.2.Stop,bv x6.2.Down]) (es:=[(1,rE 2 (File.enc true) x6.2.Files)]) rfl (.cons (.own 1) (.cons (.same rfl rfl) (.cons (.same rfl rfl) (.cons (.same rfl rfl) (.cons (.same rfl rfl) (.nil)))))) rfl (by kernel_rfl) (by kernel_rfl) ?_
  refine vS [(4,iv x6.1)] [(0,.box [rr 1 x6.2.Files,iv x6.2.Budget,iv x6.2.Writes,iv x6.2.Stop,bv x6.2.Down]),(1,rE 2 (File.enc true) x6.2.Files)] (by kernel_rfl) ?_
  refine xG 0 (cs':=[so 2 (File.enc true) x6.2.Files,iv x6.2.Budget,iv x6.2.Writes,iv x6.2.Stop,bv x6.2.Down]) (ts:=[1]) rfl (.move (.head _) (List.length_map _) (by decide) (.keep rfl (.keep rfl (.keep rfl (.keep rfl (.nil)))))) ?_
  refine vS [(4,iv x6.1)] [(0,.box (zC.enc true x6.2))] (by kernel_rfl) ?_
  exact zR rfl
noncomputable def c63:Code:=(Tryz.f63.body).getD .skip
theorem wW.ok (a2:(List Pack)) (a3:(List Int)) (x12:(List ByteArray)) (q:Wd) (kn:((List File)×Int×Int×Int×Bool)→Option (D×List Ent)) (hk:∀v:((List File)×Int×Int×Int×Bool),J (q.g Tryz.prog 63 3 52) c63 (atI c63 127) (St.mk' [] [(0,.box [rr 3 v.1,iv v.2.1,iv v.2.2.1,iv v.2.2.2.1,bv v.2.2.2.2]),(1,.box [sl 8 (Pack.enc false) a2]),(2,.box [sl 1 zG a3]),(3,rE 2 (File.enc true) v.1)]) (some v) kn):
  ∀s20:((List File)×Int×Int×Int×Bool×Int),J (q.g Tryz.prog 63 3 52) c63 (atI c63 1012) (St.mk' [(0,pp 0),(39,rr 6 x12),(40,iv (x12.length:Int)),(41,iv s20.2.2.2.2.2)] [(0,.box [rr 3 s20.1,iv s20.2.1,iv s20.2.2.1,iv s20.2.2.2.1,bv s20.2.2.2.2.1]),(1,.box [sl 8 (Pack.enc false) a2]),(2,.box [sl 1 zG a3]),(3,rE 2 (File.enc true) s20.1),(6,rE 1 eStr x12)]) (wW a2 a3 x12 s20) (Fl.go (fun r:(Int×zC)=>some (iv r.1,[.box (zC.enc true r.2),.box [sl 8 (Pack.enc false) a2],.box [sl 1 zG a3]])) kn):=by
 refine kP (fun g ih s20=>?_)
 unfold wO
 refine J_d 2024 [] [42] [(42,bv (decide (s20.2.2.2.2.2< (x12.length:Int))))] [] [] zB ?_
 refine zF 42 (fun h21=>?_) (fun h21=>?_)
 ·refine zA (fun x22 h23=>?_)
  refine J_g 32408 [] [(0,pp 0),(10,sv x22),(39,rr 6 x12),(40,iv (x12.length:Int)),(41,iv s20.2.2.2.2.2)] [(0,.box [rr 3 s20.1,iv s20.2.1,iv s20.2.2.1,iv s20.2.2.2.1,bv s20.2.2.2.2.1]),(1,.box [sl 8 (Pack.enc false) a2]),(2,.box [sl 1 zG a3]),(3,rE 2 (File.enc true) s20.1),(6,rE 1 eStr x12)] (zD 0 (wM (kk:=.i64) 86 9 1 6 eStr (.tmp 39) (.tmp 41) h23) (zD 1 (jH (d:=sv x22) 9 1 6 0 eStr (.tmp 43) h23 (by kernel_rfl)) zB)) ?_
  refine xG 0 (cs':=[so 2 (File.enc true) s20.1,iv s20.2.1,iv s20.2.2.1,iv s20.2.2.2.1,bv s20.2.2.2.2.1]) (ts:=[3]) rfl (.move (.tail _ (.tail _ (.head _))) (List.length_map _) (by decide) (.keep rfl (.keep rfl (.keep rfl (.keep rfl (.nil)))))) ?_
  refine vS [(0,pp 0),(10,sv x22),(39,rr 6 x12),(40,iv (x12.length:Int)),(41,iv s20.2.2.2.2.2)] [(0,.box [so 2 (File.enc true) s20.1,iv s20.2.1,iv s20.2.2.1,iv s20.2.2.2.1,bv s20.2.2.2.2.1]),(1,.box [sl 8 (Pack.enc false) a2]),(2,.box [sl 1 zG a3]),(6,rE 1 eStr x12)] (by kernel_rfl) ?_
  refine zA (fun x24 h25=>?_)
  refine J_g 64818 [] [(0,pp 0),(11,iv x24.1),(39,rr 6 x12),(40,iv (x12.length:Int)),(41,iv s20.2.2.2.2.2)] [(0,.box (zC.enc true x24.2)),(1,.box [sl 8 (Pack.enc false) a2]),(2,.box [sl 1 zG a3]),(6,rE 1 eStr x12)] (zD 2 (wG («as»:=[pp 0,sv x22]) [(.tmp 45),(.tmp 46)] [72,9] false [(0,.box [so 2 (File.enc true) s20.1,iv s20.2.1,iv s20.2.2.1,iv s20.2.2.2.1,bv s20.2.2.2.2.1])] [0] (.cons (.pt rfl) (.cons (.same rfl) (.nil))) (jT.ok ({Files:=s20.1,Budget:=s20.2.1,Writes:=s20.2.2.1,Stop:=s20.2.2.2.1,Down:=s20.2.2.2.2.1}:zC) x22) h25 (.same rfl rfl)) zB) ?_
  refine yU 0 (cs':=[rr 7 x24.2.Files,iv x24.2.Budget,iv x24.2.Writes,iv x24.2.Stop,bv x24.2.Down]) (es:=[(7,rE 2 (File.enc true) x24.2.Files)]) rfl (.cons (.own 7) (.cons (.same rfl rfl) (.cons (.same rfl rfl) (.cons (.same rfl rfl) (.cons (.same rfl rfl) (.nil)))))) rfl (by kernel_rfl) (by kernel_rfl) ?_
  refine vS [(0,pp 0),(11,iv x24.1),(39,rr 6 x12),(40,iv (x12.length:Int)),(41,iv s20.2.2.2.2.2)] [(0,.box [rr 7 x24.2.Files,iv x24.2.Budget,iv x24.2.Writes,iv x24.2.Stop,bv x24.2.Down]),(1,.box [sl 8 (Pack.enc false) a2]),(2,.box [sl 1 zG a3]),(6,rE 1 eStr x12),(7,rE 2 (File.enc true) x24.2.Files)] (by kernel_rfl) ?_
  refine J_d 129638 [] [49] [(49,bv (x24.1 !=0))] [] [] zB ?_
  refine zF 49 (fun h26=>?_) (fun h26=>?_)
  ·refine J_g 518556 [] [(4,iv x24.1)] [(0,.box [rr 7 x24.2.Files,iv x24.2.Budget,iv x24.2.Writes,iv x24.2.Stop,bv x24.2.Down]),(1,.box [sl 8 (Pack.enc false) a2]),(2,.box [sl 1 zG a3]),(7,rE 2 (File.enc true) x24.2.Files)] zB ?_
   refine xG 0 (cs':=[so 2 (File.enc true) x24.2.Files,iv x24.2.Budget,iv x24.2.Writes,iv x24.2.Stop,bv x24.2.Down]) (ts:=[7]) rfl (.move (.tail _ (.tail _ (.head _))) (List.length_map _) (by decide) (.keep rfl (.keep rfl (.keep rfl (.keep rfl (.nil)))))) ?_
   refine vS [(4,iv x24.1)] [(0,.box (zC.enc true x24.2)),(1,.box [sl 8 (Pack.enc false) a2]),(2,.box [sl 1 zG a3])] (by kernel_rfl) ?_
   exact zR rfl
  ·refine J_d 8103 [] [11,41,49] [(41,iv (w64 (s20.2.2.2.2.2+1)))] [] [] zB ?_
   refine kR 7 3 (Nat.le_of_ble_eq_true rfl) (Nat.le_of_ble_eq_true rfl) ?_
   exact J_q (J_b (ih (x24.2.Files,x24.2.Budget,x24.2.Writes,x24.2.Stop,x24.2.Down,w64 (s20.2.2.2.2.2+1)))) rfl
 ·exact yF (hk (s20.1,s20.2.1,s20.2.2.1,s20.2.2.2.1,s20.2.2.2.2.1)) rfl
theorem uZ.ok (a1:zC) (a2:(List Pack)) (a3:(List Int)):Ok Tryz.prog 63 [pp 0,pp 1,pp 2] [.box (zC.enc true a1),.box [sl 8 (Pack.enc false) a2],.box [sl 1 zG a3]] ((uZ a1 a2 a3).map fun r=>(iv r.1,[.box (zC.enc true r.2),.box [sl 8 (Pack.enc false) a2],.box [sl 1 zG a3]])):=by
 refine zH c63 Tryz.f63 3 52 (fun q=>?_)
 unfold uZ
 refine yU 0 (cs':=[rr 3 a1.Files,iv a1.Budget,iv a1.Writes,iv a1.Stop,bv a1.Down]) (es:=[(3,rE 2 (File.enc true) a1.Files)]) rfl (.cons (.own 3) (.cons (.same rfl rfl) (.cons (.same rfl rfl) (.cons (.same rfl rfl) (.cons (.same rfl rfl) (.nil)))))) rfl (by kernel_rfl) (by kernel_rfl) ?_
 refine vS [(0,pp 0),(1,pp 1),(2,pp 2)] [(0,.box [rr 3 a1.Files,iv a1.Budget,iv a1.Writes,iv a1.Stop,bv a1.Down]),(1,.box [sl 8 (Pack.enc false) a2]),(2,.box [sl 1 zG a3]),(3,rE 2 (File.enc true) a1.Files)] (by kernel_rfl) ?_
 refine J_g 2 [] [(0,pp 0),(1,pp 1),(2,pp 2)] [(0,.box [rr 3 a1.Files,iv a1.Budget,iv a1.Writes,iv a1.Stop,bv a1.Down]),(1,.box [sl 8 (Pack.enc false) a2]),(2,.box [sl 1 zG a3]),(3,rE 2 (File.enc true) a1.Files)] zB ?_
 refine xG 0 (cs':=[so 2 (File.enc true) a1.Files,iv a1.Budget,iv a1.Writes,iv a1.Stop,bv a1.Down]) (ts:=[3]) rfl (.move (.tail _ (.tail _ (.head _))) (List.length_map _) (by decide) (.keep rfl (.keep rfl (.keep rfl (.keep rfl (.nil)))))) ?_
 refine vS [(0,pp 0),(1,pp 1),(2,pp 2)] [(0,.box (zC.enc true a1)),(1,.box [sl 8 (Pack.enc false) a2]),(2,.box [sl 1 zG a3])] (by kernel_rfl) ?_
 refine zA (fun x4 h5=>?_)
 refine J_g 12 [] [(0,pp 0),(1,pp 1),(2,pp 2),(13,bv x4)] [(0,.box (zC.enc true a1)),(1,.box [sl 8 (Pack.enc false) a2]),(2,.box [sl 1 zG a3])] (zD 1 (zFL [(0,.box (zC.enc true a1))] [] (wG («as»:=[pp 0]) [(.tmp 12)] [72] false [(0,.box (zC.enc true a1))] [0] (.cons (.pt rfl) (.nil)) (tF.ok a1) h5 (.same rfl rfl))) zB) ?_
 refine yU 0 (cs':=[rr 3 a1.Files,iv a1.Budget,iv a1.Writes,iv a1.Stop,bv a1.Down]) (es:=[(3,rE 2 (File.enc true) a1.Files)]) rfl (.cons (.own 3) (.cons (.same rfl rfl) (.cons (.same rfl rfl) (.cons (.same rfl rfl) (.cons (.same rfl rfl) (.nil)))))) rfl (by kernel_rfl) (by kernel_rfl) ?_
 refine vS [(0,pp 0),(1,pp 1),(2,pp 2),(13,bv x4)] [(0,.box [rr 3 a1.Files,iv a1.Budget,iv a1.Writes,iv a1.Stop,bv a1.Down]),(1,.box [sl 8 (Pack.enc false) a2]),(2,.box [sl 1 zG a3]),(3,rE 2 (File.enc true) a1.Files)] (by kernel_rfl) ?_
 refine zF 13 (fun h6=>?_) (fun h6=>?_)
 ·refine J_g 52 [] [(4,iv 6)] [(0,.box [rr 3 a1.Files,iv a1.Budget,iv a1.Writes,iv a1.Stop,bv a1.Down]),(1,.box [sl 8 (Pack.enc false) a2]),(2,.box [sl 1 zG a3]),(3,rE 2 (File.enc true) a1.Files)] zB ?_
  refine xG 0 (cs':=[so 2 (File.enc true) a1.Files,iv a1.Budget,iv a1.Writes,iv a1.Stop,bv a1.Down]) (ts:=[3]) rfl (.move (.tail _ (.tail _ (.head _))) (List.length_map _) (by decide) (.keep rfl (.keep rfl (.keep rfl (.keep rfl (.nil)))))) ?_
  refine vS [(4,iv 6)] [(0,.box (zC.enc true a1)),(1,.box [sl 8 (Pack.enc false) a2]),(2,.box [sl 1 zG a3])] (by kernel_rfl) ?_
  exact zR rfl
 ·refine zA (fun x7 h8=>?_)
  refine J_g 14 [] [(0,pp 0),(2,pp 2),(5,rr 4 x7.1),(6,iv x7.2)] [(0,.box [rr 3 a1.Files,iv a1.Budget,iv a1.Writes,iv a1.Stop,bv a1.Down]),(1,.box [sl 8 (Pack.enc false) a2]),(2,.box [sl 1 zG a3]),(3,rE 2 (File.enc true) a1.Files),(4,rE 1 eStr x7.1)] (zD 5 (wG («as»:=[sl 8 (Pack.enc false) a2,.ag [rr 3 a1.Files,iv a1.Budget,iv a1.Writes,iv a1.Stop,bv a1.Down],sl 1 zG a3]) [(.tmp 15),(.tmp 18),(.tmp 19)] [30,33,39] true [(3,rE 2 (File.enc true) a1.Files)] [] (.cons (.same rfl) (.cons (.ag (.cons (zDP (.head _) (File.ro true) rfl) (.cons (.same rfl) (.cons (.same rfl) (.cons (.same rfl) (.cons (.same rfl) (.nil))))))) (.cons (.same rfl) (.nil)))) (tJ.ok a2 a1 a3) h8 (.tu (.cons (.own 4) (.cons (.same rfl rfl) (.nil)))) (hbor:=fun _=>⟨fhN,(zHy (flatK (zDU (zEN (fun _=>(flatK zT zDQ)) _)) (flatK zT zDQ)))⟩)) zB) ?_
  refine J_d 60 [] [24] [(24,bv (x7.2 !=0))] [] [] zB ?_
  refine zF 24 (fun h9=>?_) (fun h9=>?_)
  ·refine J_g 244 [] [(4,iv x7.2)] [(0,.box [rr 3 a1.Files,iv a1.Budget,iv a1.Writes,iv a1.Stop,bv a1.Down]),(1,.box [sl 8 (Pack.enc false) a2]),(2,.box [sl 1 zG a3]),(3,rE 2 (File.enc true) a1.Files)] zB ?_
   refine xG 0 (cs':=[so 2 (File.enc true) a1.Files,iv a1.Budget,iv a1.Writes,iv a1.Stop,bv a1.Down]) (ts:=[3]) rfl (.move (.tail _ (.tail _ (.head _))) (List.length_map _) (by decide) (.keep rfl (.keep rfl (.keep rfl (.keep rfl (.nil)))))) ?_
   refine vS [(4,iv x7.2)] [(0,.box (zC.enc true a1)),(1,.box [sl 8 (Pack.enc false) a2]),(2,.box [sl 1 zG a3])] (by kernel_rfl) ?_
   exact zR rfl
  ·refine zA (fun x10 h11=>?_)
   refine J_d 62 [] [2,6,7,24] [(7,rr 5 x10.1)] [5] [(5,rE 1 zG x10.1)] (zD 4 (wG («as»:=[.ag [rr 3 a1.Files,iv a1.Budget,iv a1.Writes,iv a1.Stop,bv a1.Down],sl 1 zG a3]) [(.tmp 29),(.tmp 30)] [72,39] true [(3,rE 2 (File.enc true) a1.Files)] [] (.cons (.ag (.cons (zDP (.head _) (File.ro true) rfl) (.cons (.same rfl) (.cons (.same rfl) (.cons (.same rfl) (.cons (.same rfl) (.nil))))))) (.cons (.same rfl) (.nil))) (vT.ok a1 a3) h11 (.tu (.cons (.own 5) (.cons (.same rfl rfl) (.nil)))) (hbor:=fun _=>⟨fhN,(zHy (flatK (zDU (zEN (fun _=>(flatK zT zDQ)) _)) (flatK zT zDQ)))⟩)) zB) ?_
   refine zA (fun x12 h13=>?_)
   refine J_d 252 [] [5,7,39,40,41] [(39,rr 6 x12),(40,iv (x12.length:Int)),(41,iv 0)] [4,5,6] [(6,rE 1 eStr x12)] (zD 5 (wG («as»:=[.ag [rr 3 a1.Files,iv a1.Budget,iv a1.Writes,iv a1.Stop,bv a1.Down],rr 5 x10.1,rr 4 x7.1]) [(.tmp 36),(.tmp 37),(.tmp 38)] [33,39,86] true [(3,rE 2 (File.enc true) a1.Files),(5,rE 1 zG x10.1),(4,rE 1 eStr x7.1)] [] (.cons (.ag (.cons (zDP (.head _) (File.ro true) rfl) (.cons (.same rfl) (.cons (.same rfl) (.cons (.same rfl) (.cons (.same rfl) (.nil))))))) (.cons (zDP (.tail _ (.head _)) (fun _=>rfl) rfl) (.cons (zDP (.tail _ (.tail _ (.head _))) (fun _=>rfl) rfl) (.nil)))) (zDK.ok a1 x10.1 x7.1) h13 (.own 6) (hbor:=fun _=>⟨fhN,(zDU (zEN (fun _=>(flatK zT zDQ)) _))⟩)) zB) ?_
   refine vU (K0:=(fun r:(Int×zC)=>some (iv r.1,[.box (zC.enc true r.2),.box [sl 8 (Pack.enc false) a2],.box [sl 1 zG a3]]))) (fun _=>rfl) (wW.ok a2 a3 x12 q _ (fun v27=>J_j ?_) (a1.Files,a1.Budget,a1.Writes,a1.Stop,a1.Down,0))
   refine J_g 254 [] [(4,iv 0)] [(0,.box [rr 3 v27.1,iv v27.2.1,iv v27.2.2.1,iv v27.2.2.2.1,bv v27.2.2.2.2]),(1,.box [sl 8 (Pack.enc false) a2]),(2,.box [sl 1 zG a3]),(3,rE 2 (File.enc true) v27.1)] zB ?_
   refine xG 0 (cs':=[so 2 (File.enc true) v27.1,iv v27.2.1,iv v27.2.2.1,iv v27.2.2.2.1,bv v27.2.2.2.2]) (ts:=[3]) rfl (.move (.tail _ (.tail _ (.head _))) (List.length_map _) (by decide) (.keep rfl (.keep rfl (.keep rfl (.keep rfl (.nil)))))) ?_
   refine vS [(4,iv 0)] [(0,.box [so 2 (File.enc true) v27.1,iv v27.2.1,iv v27.2.2.1,iv v27.2.2.2.1,bv v27.2.2.2.2]),(1,.box [sl 8 (Pack.enc false) a2]),(2,.box [sl 1 zG a3])] (by kernel_rfl) ?_
   exact zR rfl
noncomputable def c201:Code:=(Tryz.f201.body).getD .skip
theorem zDX.ok (a1:zC) (a2:Int):Ok Tryz.prog 201 [.ag (zC.enc false a1),iv a2] [] ((zDX a1 a2).map fun r=>(.ag (zI.enc false r),[])):=by
 refine zH c201 Tryz.f201 0 16 (fun q=>?_)
 unfold zDX
 refine J_g 2 [(0,0),(1,1)] [(1,iv a2),(2,pp 0),(4,pp 1)] [(0,.box (zC.enc false a1)),(1,.box [iv 0,nv,iv 0,iv 0,iv 0,bv false])] zB ?_
 refine yQ (atI c201 13) (fun v4:Bool=>St.mk' [(1,iv a2),(2,pp 0),(4,pp 1),(10,bv v4)] [(0,.box (zC.enc false a1)),(1,.box [iv 0,nv,iv 0,iv 0,iv 0,bv false])]) (fun v4=>?_) (fun jv4=>?_)
 ·refine zF 10 (fun h5=>?_) (fun h5=>?_)
  ·refine J_g 52 [] [(4,pp 1)] [(1,.box [iv a2,nv,iv 0,iv 0,iv 0,bv false])] zB ?_
   exact zAM (ds:=[.ag [iv a2,nv,iv 0,iv 0,iv 0,bv false]]) (ds':=[.ag [iv a2,sl 2 (File.enc false) ([]:List File),iv 0,iv 0,iv 0,bv false]]) (.cons (.ag (.keep rfl (.nilsl false 2 (.keep rfl (.keep rfl (.keep rfl (.keep rfl (.nil)))))))) (.nil) (by decide)) rfl
  ·refine J_g 14 [] [(4,pp 1)] [(1,.box [iv a2,sl 2 (File.enc false) a1.Files,iv a1.Budget,iv a1.Writes,iv a1.Stop,bv a1.Down])] zB ?_
   exact zR rfl
 ·refine wJ (fun h3=>?_) (fun h3=>?_)
  ·refine J_d 12 [] [10] [(10,bv (a2 !=9))] [] [] (xU 2 [(6,bv (a2 !=0))] [] h3 zB) ?_
   exact yF (J_j (jv4 (a2 !=9))) rfl
  ·refine J_d 12 [] [10] [(10,bv false)] [] [] (xU 2 [(6,bv (a2 !=0))] [] h3 zB) ?_
   exact yF (J_j (jv4 false)) rfl
theorem zLD.ok (a1:zC) (a2:Int):Ok Tryz.prog 201 [.ag [rr 0 a1.Files,iv a1.Budget,iv a1.Writes,iv a1.Stop,bv a1.Down],iv a2] [rE 2 (File.enc true) a1.Files] ((zDX a1 a2).map fun r=>(.ag (zI.enc true r),[])):=by
 refine zH c201 Tryz.f201 1 16 (fun q=>?_)
 unfold zDX
 refine J_d 2 [(0,1),(1,2)] [0,2,4] [(2,pp 1),(4,pp 2)] [1,2] [(1,.box [rr 0 a1.Files,iv a1.Budget,iv a1.Writes,iv a1.Stop,bv a1.Down]),(2,.box [iv 0,nv,iv 0,iv 0,iv 0,bv false])] zB ?_
 refine yQ (atI c201 13) (fun v4:Bool=>St.mk' [(1,iv a2),(2,pp 1),(4,pp 2),(10,bv v4)] [(0,rE 2 (File.enc true) a1.Files),(1,.box [rr 0 a1.Files,iv a1.Budget,iv a1.Writes,iv a1.Stop,bv a1.Down]),(2,.box [iv 0,nv,iv 0,iv 0,iv 0,bv false])]) (fun v4=>?_) (fun jv4=>?_)
 ·refine zF 10 (fun h5=>?_) (fun h5=>?_)
  ·refine J_g 52 [] [(4,pp 2)] [(0,rE 2 (File.enc true) a1.Files),(2,.box [iv a2,nv,iv 0,iv 0,iv 0,bv false])] zB ?_
   exact zAM (ds:=[.ag [iv a2,nv,iv 0,iv 0,iv 0,bv false]]) (ds':=[.ag [iv a2,so 2 (File.enc true) ([]:List File),iv 0,iv 0,iv 0,bv false]]) (.cons (.ag (.keep rfl (.nilsl true 2 (.keep rfl (.keep rfl (.keep rfl (.keep rfl (.nil)))))))) (.nil) (by decide)) rfl
  ·refine J_g 14 [] [(4,pp 2)] [(0,rE 2 (File.enc true) a1.Files),(2,.box [iv a2,rr 0 a1.Files,iv a1.Budget,iv a1.Writes,iv a1.Stop,bv a1.Down])] zB ?_
   exact zAM (ds:=[.ag [iv a2,rr 0 a1.Files,iv a1.Budget,iv a1.Writes,iv a1.Stop,bv a1.Down]]) (ds':=[.ag [iv a2,so 2 (File.enc true) a1.Files,iv a1.Budget,iv a1.Writes,iv a1.Stop,bv a1.Down]]) (.cons (.ag (.keep rfl (.move (.head _) (List.length_map _) (by decide) (.keep rfl (.keep rfl (.keep rfl (.keep rfl (.nil)))))))) (.nil) (by decide)) rfl
 ·refine wJ (fun h3=>?_) (fun h3=>?_)
  ·refine J_d 12 [] [10] [(10,bv (a2 !=9))] [] [] (xU 2 [(6,bv (a2 !=0))] [] h3 zB) ?_
   exact yF (J_j (jv4 (a2 !=9))) rfl
  ·refine J_d 12 [] [10] [(10,bv false)] [] [] (xU 2 [(6,bv (a2 !=0))] [] h3 zB) ?_
   exact yF (J_j (jv4 false)) rfl
noncomputable def zQC:Code:=(Tryz.f126.body).getD .skip
theorem xD.ok (a1:zC) (a2:(List Pack)) (a3:(List Int)):Ok Tryz.prog 126 [.ag (zC.enc false a1),.fn 63 [pp 0,pp 1]] [.box [sl 8 (Pack.enc false) a2],.box [sl 1 zG a3]] ((xD a1 a2 a3).map fun r=>(.ag (zI.enc true r),[.box [sl 8 (Pack.enc false) a2],.box [sl 1 zG a3]])):=by
 refine zH zQC Tryz.f126 2 26 (fun q=>?_)
 unfold xD
 refine J_d 2 [(0,2),(1,3)] [0,2,4] [(2,pp 2),(4,pp 3)] [2,3] [(2,.box (zC.enc false a1)),(3,.box [iv 0,nv,iv 0,iv 0,iv 0,bv false])] zB ?_
 refine zA (fun x4 h5=>?_)
 refine J_d 6 [] [5] [(5,iv x4)] [] [] (zD 1 (xL [(.tmp 7)] [33] (zAR.ok a1) h5) zB) ?_
 refine yQ (atI zQC 29) (fun v7:Bool=>St.mk' [(1,.fn 63 [pp 0,pp 1]),(2,pp 2),(4,pp 3),(5,iv x4),(14,bv v7)] [(0,.box [sl 8 (Pack.enc false) a2]),(1,.box [sl 1 zG a3]),(2,.box (zC.enc false a1)),(3,.box [iv 0,nv,iv 0,iv 0,iv 0,bv false])]) (fun v7=>?_) (fun jv7=>?_)
 ·refine yQ (atI zQC 15) (fun v9:Int=>St.mk' [(1,.fn 63 [pp 0,pp 1]),(2,pp 2),(4,pp 3),(5,iv v9)] [(0,.box [sl 8 (Pack.enc false) a2]),(1,.box [sl 1 zG a3]),(2,.box (zC.enc false a1)),(3,.box [iv 0,nv,iv 0,iv 0,iv 0,bv false])]) (fun v9=>?_) (fun jv9=>?_)
  ·refine J_d 60 [] [16] [(16,bv (v9 !=0))] [] [] zB ?_
   refine zF 16 (fun h10=>?_) (fun h10=>?_)
   ·refine J_g 244 [] [(4,pp 3)] [(0,.box [sl 8 (Pack.enc false) a2]),(1,.box [sl 1 zG a3]),(3,.box [iv v9,nv,iv 0,iv 0,iv 0,bv false])] zB ?_
    exact zAM (ds:=[.ag [iv v9,nv,iv 0,iv 0,iv 0,bv false]]) (ds':=[.ag [iv v9,so 2 (File.enc true) ([]:List File),iv 0,iv 0,iv 0,bv false]]) (.cons (.ag (.keep rfl (.nilsl true 2 (.keep rfl (.keep rfl (.keep rfl (.keep rfl (.nil)))))))) (.nil) (by decide)) rfl
   ·refine zA (fun x11 h12=>?_)
    refine J_g 62 [(2,5)] [(1,.fn 63 [pp 0,pp 1]),(4,pp 3),(6,pp 5)] [(0,.box [sl 8 (Pack.enc false) a2]),(1,.box [sl 1 zG a3]),(3,.box [iv 0,nv,iv 0,iv 0,iv 0,bv false]),(4,rE 2 (File.enc true) x11.Files),(5,.box [rr 4 x11.Files,iv x11.Budget,iv x11.Writes,iv x11.Stop,bv x11.Down])] (zD 1 (wG («as»:=[.ag (zC.enc false a1)]) [(.tmp 19)] [33] false [] [] (.cons (.same rfl) (.nil)) (uN.ok a1) h12 (.ag (.cons (.own 4) (.cons (.same rfl rfl) (.cons (.same rfl rfl) (.cons (.same rfl rfl) (.cons (.same rfl rfl) (.nil)))))))) zB) ?_
    refine xG 5 (cs':=[so 2 (File.enc true) x11.Files,iv x11.Budget,iv x11.Writes,iv x11.Stop,bv x11.Down]) (ts:=[4]) rfl (.move (.tail _ (.tail _ (.tail _ (.head _)))) (List.length_map _) (by decide) (.keep rfl (.keep rfl (.keep rfl (.keep rfl (.nil)))))) ?_
    refine vS [(1,.fn 63 [pp 0,pp 1]),(4,pp 3),(6,pp 5)] [(0,.box [sl 8 (Pack.enc false) a2]),(1,.box [sl 1 zG a3]),(3,.box [iv 0,nv,iv 0,iv 0,iv 0,bv false]),(5,.box (zC.enc true x11))] (by kernel_rfl) ?_
    refine zA (fun x13 h14=>?_)
    refine J_g 126 [] [(4,pp 3),(5,iv x13.1),(6,pp 5)] [(0,.box [sl 8 (Pack.enc false) a2]),(1,.box [sl 1 zG a3]),(3,.box [iv 0,nv,iv 0,iv 0,iv 0,bv false]),(5,.box (zC.enc true x13.2))] (zD 1 (zOp 21 [(.tmp 6)] [72] false [(5,.box (zC.enc true x11)),(0,.box [sl 8 (Pack.enc false) a2]),(1,.box [sl 1 zG a3])] [5,0,1] [pp 5] [pp 0,pp 1] (.cons (.pt rfl) (.cons (.pt rfl) (.cons (.pt rfl) (.nil)))) (uZ.ok x11 a2 a3) h14 (.same rfl rfl)) zB) ?_
    refine yU 5 (cs':=[rr 6 x13.2.Files,iv x13.2.Budget,iv x13.2.Writes,iv x13.2.Stop,bv x13.2.Down]) (es:=[(6,rE 2 (File.enc true) x13.2.Files)]) rfl (.cons (.own 6) (.cons (.same rfl rfl) (.cons (.same rfl rfl) (.cons (.same rfl rfl) (.cons (.same rfl rfl) (.nil)))))) rfl (by kernel_rfl) (by kernel_rfl) ?_
    refine vS [(4,pp 3),(5,iv x13.1),(6,pp 5)] [(0,.box [sl 8 (Pack.enc false) a2]),(1,.box [sl 1 zG a3]),(3,.box [iv 0,nv,iv 0,iv 0,iv 0,bv false]),(5,.box [rr 6 x13.2.Files,iv x13.2.Budget,iv x13.2.Writes,iv x13.2.Stop,bv x13.2.Down]),(6,rE 2 (File.enc true) x13.2.Files)] (by kernel_rfl) ?_
    refine zA (fun x15 h16=>?_)
    refine J_g 254 [] [(4,pp 3)] [(0,.box [sl 8 (Pack.enc false) a2]),(1,.box [sl 1 zG a3]),(3,.box [iv x15.Code,rr 7 x15.zC.Files,iv x15.zC.Budget,iv x15.zC.Writes,iv x15.zC.Stop,bv x15.zC.Down]),(7,rE 2 (File.enc true) x15.zC.Files)] (zD 2 (wG («as»:=[.ag [rr 6 x13.2.Files,iv x13.2.Budget,iv x13.2.Writes,iv x13.2.Stop,bv x13.2.Down],iv x13.1]) [(.tmp 23),(.tmp 24)] [33,2] false [(6,rE 2 (File.enc true) x13.2.Files)] [6] (.cons (.ag (.cons (.rf rfl) (.cons (.same rfl) (.cons (.same rfl) (.cons (.same rfl) (.cons (.same rfl) (.nil))))))) (.cons (.same rfl) (.nil))) (zLD.ok x13.2 x13.1) h16 (.ag (.cons (.same rfl rfl) (.cons (.own 7) (.cons (.same rfl rfl) (.cons (.same rfl rfl) (.cons (.same rfl rfl) (.cons (.same rfl rfl) (.nil))))))))) zB) ?_
    exact zAM (ds:=[.ag [iv x15.Code,rr 7 x15.zC.Files,iv x15.zC.Budget,iv x15.zC.Writes,iv x15.zC.Stop,bv x15.zC.Down]]) (ds':=[.ag (zI.enc true x15)]) (.cons (.ag (.keep rfl (.move (.tail _ (.tail _ (.tail _ (.head _)))) (List.length_map _) (by decide) (.keep rfl (.keep rfl (.keep rfl (.keep rfl (.nil)))))))) (.nil) (by decide)) rfl
  ·refine zF 14 (fun h8=>?_) (fun h8=>?_)
   ·refine J_d 58 [] [5,14] [(5,iv 9)] [] [] zB ?_
    exact yF (J_j (jv9 9)) rfl
   ·exact yF (J_j (jv9 x4)) rfl
 ·refine wJ (fun h6=>?_) (fun h6=>?_)
  ·refine J_d 28 [] [14] [(14,bv a1.Down)] [] [] (xU 2 [(10,bv (x4==0))] [] h6 zB) ?_
   exact yF (J_j (jv7 a1.Down)) rfl
  ·refine J_d 28 [] [14] [(14,bv false)] [] [] (xU 2 [(10,bv (x4==0))] [] h6 zB) ?_
   exact yF (J_j (jv7 false)) rfl
noncomputable def c62:Code:=(Tryz.f62.body).getD .skip
theorem xB.ok (a1:(List Pack)) (a2:zC) (a3:(List Pack)) (a4:(List Int)):Ok Tryz.prog 62 [sl 8 (Pack.enc false) a1,.ag (zC.enc false a2),.fn 63 [pp 0,pp 1]] [.box [sl 8 (Pack.enc false) a3],.box [sl 1 zG a4]] ((xB a1 a2 a3 a4).map fun r=>(.ag (zI.enc true r),[.box [sl 8 (Pack.enc false) a3],.box [sl 1 zG a4]])):=by
 refine zH c62 Tryz.f62 2 17 (fun q=>?_)
 unfold xB
 refine J_d 2 [(0,2),(1,3)] [1,4,6] [(4,pp 2),(6,pp 3)] [2,3] [(2,.box (zC.enc false a2)),(3,.box [iv 0,nv,iv 0,iv 0,iv 0,bv false])] zB ?_
 refine zA (fun x5 h6=>?_)
 refine J_g 12 [] [(2,.fn 63 [pp 0,pp 1]),(4,pp 2),(6,pp 3),(7,iv x5)] [(0,.box [sl 8 (Pack.enc false) a3]),(1,.box [sl 1 zG a4]),(2,.box (zC.enc false a2)),(3,.box [iv 0,nv,iv 0,iv 0,iv 0,bv false])] (zD 1 (xL [(.tmp 8)] [30] (wP.ok a1) h6) zB) ?_
 refine J_d 26 [] [11] [(11,bv (x5 !=0))] [] [] zB ?_
 refine zF 11 (fun h7=>?_) (fun h7=>?_)
 ·refine J_g 108 [] [(6,pp 3)] [(0,.box [sl 8 (Pack.enc false) a3]),(1,.box [sl 1 zG a4]),(3,.box [iv x5,nv,iv 0,iv 0,iv 0,bv false])] zB ?_
  exact zAM (ds:=[.ag [iv x5,nv,iv 0,iv 0,iv 0,bv false]]) (ds':=[.ag [iv x5,so 2 (File.enc true) ([]:List File),iv 0,iv 0,iv 0,bv false]]) (.cons (.ag (.keep rfl (.nilsl true 2 (.keep rfl (.keep rfl (.keep rfl (.keep rfl (.nil)))))))) (.nil) (by decide)) rfl
 ·refine zA (fun x8 h9=>?_)
  refine J_g 14 [] [(6,pp 3)] [(0,.box [sl 8 (Pack.enc false) a3]),(1,.box [sl 1 zG a4]),(3,.box [iv x8.Code,rr 4 x8.zC.Files,iv x8.zC.Budget,iv x8.zC.Writes,iv x8.zC.Stop,bv x8.zC.Down]),(4,rE 2 (File.enc true) x8.zC.Files)] (zD 2 (zFL [(0,.box [sl 8 (Pack.enc false) a3]),(1,.box [sl 1 zG a4])] [(4,rE 2 (File.enc true) x8.zC.Files)] (wG («as»:=[.ag (zC.enc false a2),.fn 63 [pp 0,pp 1]]) [(.tmp 14),(.tmp 15)] [33,111] false [(0,.box [sl 8 (Pack.enc false) a3]),(1,.box [sl 1 zG a4])] [0,1] (.cons (.same rfl) (.cons (.fn (.cons (.pt rfl) (.cons (.pt rfl) (.nil)))) (.nil))) (xD.ok a2 a3 a4) h9 (.ag (.cons (.same rfl rfl) (.cons (.own 4) (.cons (.same rfl rfl) (.cons (.same rfl rfl) (.cons (.same rfl rfl) (.cons (.same rfl rfl) (.nil)))))))))) zB) ?_
  exact zAM (ds:=[.ag [iv x8.Code,rr 4 x8.zC.Files,iv x8.zC.Budget,iv x8.zC.Writes,iv x8.zC.Stop,bv x8.zC.Down]]) (ds':=[.ag (zI.enc true x8)]) (.cons (.ag (.keep rfl (.move (.tail _ (.tail _ (.tail _ (.head _)))) (List.length_map _) (by decide) (.keep rfl (.keep rfl (.keep rfl (.keep rfl (.nil)))))))) (.nil) (by decide)) rfl
noncomputable def c19:Code:=(Tryz.f19.body).getD .skip
theorem wK.ok (a1:(List Pack)) (a2:zC) (a3:(List Int)):Ok Tryz.prog 19 [sl 8 (Pack.enc false) a1,.ag (zC.enc false a2),sl 1 zG a3] [] ((wK a1 a2 a3).map fun r=>(.ag (zI.enc true r),[])):=by
 refine zH c19 Tryz.f19 0 11 (fun q=>?_)
 unfold wK
 refine J_g 2 [(0,0),(1,1),(2,2),(3,3)] [(3,pp 0),(4,pp 1),(5,pp 2),(6,pp 3)] [(0,.box [sl 8 (Pack.enc false) a1]),(1,.box (zC.enc false a2)),(2,.box [sl 1 zG a3]),(3,.box [iv 0,nv,iv 0,iv 0,iv 0,bv false])] zB ?_
 refine zA (fun x4 h5=>?_)
 refine J_g 6 [] [(6,pp 3)] [(3,.box [iv x4.Code,rr 4 x4.zC.Files,iv x4.zC.Budget,iv x4.zC.Writes,iv x4.zC.Stop,bv x4.zC.Down]),(4,rE 2 (File.enc true) x4.zC.Files)] (zD 3 (zFL [(0,.box [sl 8 (Pack.enc false) a1]),(2,.box [sl 1 zG a3])] [(4,rE 2 (File.enc true) x4.zC.Files)] (wG («as»:=[sl 8 (Pack.enc false) a1,.ag (zC.enc false a2),.fn 63 [pp 0,pp 2]]) [(.tmp 7),(.tmp 8),(.tmp 9)] [30,33,111] false [(0,.box [sl 8 (Pack.enc false) a1]),(2,.box [sl 1 zG a3])] [0,2] (.cons (.same rfl) (.cons (.same rfl) (.cons (.fn (.cons (.pt rfl) (.cons (.pt rfl) (.nil)))) (.nil)))) (xB.ok a1 a2 a1 a3) h5 (.ag (.cons (.same rfl rfl) (.cons (.own 4) (.cons (.same rfl rfl) (.cons (.same rfl rfl) (.cons (.same rfl rfl) (.cons (.same rfl rfl) (.nil)))))))))) zB) ?_
 exact zAM (ds:=[.ag [iv x4.Code,rr 4 x4.zC.Files,iv x4.zC.Budget,iv x4.zC.Writes,iv x4.zC.Stop,bv x4.zC.Down]]) (ds':=[.ag (zI.enc true x4)]) (.cons (.ag (.keep rfl (.move (.tail _ (.head _)) (List.length_map _) (by decide) (.keep rfl (.keep rfl (.keep rfl (.keep rfl (.nil)))))))) (.nil) (by decide)) rfl
noncomputable def zPO:Code:=(Tryz.f214.body).getD .skip
theorem zC4.ok (a1:(List Int)) (a2:(List Int)) (q:Wd) (kn:Unit→Option (D×List Ent)) (hk:∀v:Unit,J (q.g Tryz.prog 214 0 26) zPO (atI zPO 15) (St.mk' [] []) (some v) kn):
  ∀s10:Int,J (q.g Tryz.prog 214 0 26) zPO (atI zPO 116) (St.mk' [(0,sl 1 eU8 a1),(1,sl 1 eU8 a2),(5,iv s10)] []) (zC4 a1 a2 s10) (Fl.go (fun r:Bool=>some (bv r,[])) kn):=by
 refine kP (fun g ih s10=>?_)
 unfold zDa
 refine J_d 464 [] [14] [(14,bv (decide (s10< (a1.length:Int))))] [] [] zB ?_
 refine zF 14 (fun h11=>?_) (fun h11=>?_)
 ·refine zA (fun x12 h13=>?_)
  refine zA (fun x14 h15=>?_)
  refine J_d 1864 [] [14,25] [(25,bv (x12 !=x14))] [] [] (zD 2 (zAg (kk:=.i64) 121 5 1 eU8 (.tmp 17) (.tmp 18) h13) (zD 6 (zAg (kk:=.i64) 121 5 1 eU8 (.tmp 21) (.tmp 22) h15) zB)) ?_
  refine zF 25 (fun h16=>?_) (fun h16=>?_)
  ·refine J_g 7460 [] [(4,bv false)] [] zB ?_
   exact zR rfl
  ·refine J_d 467 [] [5,25] [(5,iv (w64 (s10+1)))] [] [] zB ?_
   exact J_q (J_b (ih (w64 (s10+1)))) rfl
 ·exact yF (hk ()) rfl
theorem zCb.ok (a1:(List Int)) (a2:(List Int)):Ok Tryz.prog 214 [sl 1 eU8 a1,sl 1 eU8 a2] [] ((zCb a1 a2).map fun r=>(bv r,[])):=by
 refine zH zPO Tryz.f214 0 26 (fun q=>?_)
 unfold zCb
 refine J_g 2 [] [(0,sl 1 eU8 a1),(1,sl 1 eU8 a2)] [] zB ?_
 refine J_d 12 [] [10] [(10,bv ((a1.length:Int) !=(a2.length:Int)))] [] [] zB ?_
 refine zF 10 (fun h3=>?_) (fun h3=>?_)
 ·refine J_g 52 [] [(4,bv false)] [] zB ?_
  exact zR rfl
 ·refine J_d 28 [] [5,10] [(5,iv 0)] [] [] zB ?_
  refine vU (K0:=(fun r:Bool=>some (bv r,[]))) (fun _=>rfl) (zC4.ok a1 a2 q _ (fun v17=>J_j ?_) 0)
  refine J_g 30 [] [(4,bv true)] [] zB ?_
  exact zR rfl
noncomputable def c146:Code:=(Tryz.f146.body).getD .skip
theorem zDm.ok (a1:File) (a2:File):Ok Tryz.prog 146 [.ag (File.enc false a1),.ag (File.enc false a2)] [] ((zDm a1 a2).map fun r=>(bv r,[])):=by
 refine zH c146 Tryz.f146 0 16 (fun q=>?_)
 unfold zDm
 refine J_g 2 [(0,0),(1,1)] [(2,pp 0),(3,pp 1)] [(0,.box (File.enc false a1)),(1,.box (File.enc false a2))] zB ?_
 refine J_d 12 [] [9] [(9,bv (!(seq a1.Path a2.Path)))] [] [] zB ?_
 refine zF 9 (fun h3=>?_) (fun h3=>?_)
 ·refine J_g 52 [] [(4,bv false)] [] zB ?_
  exact zR rfl
 ·refine zA (fun x4 h5=>?_)
  refine J_g 28 [] [(15,bv (!x4))] [] (zD 4 (xL [(.tmp 11),(.tmp 13)] [121,121] (zCb.ok a1.Data a2.Data) h5) zB) ?_
  refine zF 15 (fun h6=>?_) (fun h6=>?_)
  ·refine J_g 116 [] [(4,bv false)] [] zB ?_
   exact zR rfl
  ·refine J_g 30 [] [(4,bv true)] [] zB ?_
   exact zR rfl
noncomputable def c70:Code:=(Tryz.f70.body).getD .skip
theorem zC1.ok (a1:(List File)) (a2:(List File)) (q:Wd) (kn:Unit→Option (D×List Ent)) (hk:∀v:Unit,J (q.g Tryz.prog 70 0 27) c70 (atI c70 15) (St.mk' [] []) (some v) kn):
  ∀s12:Int,J (q.g Tryz.prog 70 0 27) c70 (atI c70 116) (St.mk' [(0,sl 2 (File.enc false) a1),(1,sl 2 (File.enc false) a2),(5,iv s12)] []) (zC1 a1 a2 s12) (Fl.go (fun r:Bool=>some (bv r,[])) kn):=by
 refine kP (fun g ih s12=>?_)
 unfold zDf
 refine J_d 464 [] [14] [(14,bv (decide (s12< (a1.length:Int))))] [] [] zB ?_
 refine zF 14 (fun h13=>?_) (fun h13=>?_)
 ·refine zA (fun x14 h15=>?_)
  refine zA (fun x16 h17=>?_)
  refine zA (fun x18 h19=>?_)
  refine J_d 1864 [] [14,26] [(26,bv (!x18))] [] [] (zD 2 (zAg (kk:=.i64) 31 138 2 (File.enc false) (.tmp 17) (.tmp 18) h15) (zD 6 (zAg (kk:=.i64) 31 138 2 (File.enc false) (.tmp 21) (.tmp 22) h17) (zD 8 (xL [(.tmp 20),(.tmp 24)] [138,138] (zDm.ok x14 x16) h19) zB))) ?_
  refine zF 26 (fun h20=>?_) (fun h20=>?_)
  ·refine J_g 7460 [] [(4,bv false)] [] zB ?_
   exact zR rfl
  ·refine J_d 467 [] [5,26] [(5,iv (w64 (s12+1)))] [] [] zB ?_
   exact J_q (J_b (ih (w64 (s12+1)))) rfl
 ·exact yF (hk ()) rfl
theorem zCj.ok (a1:(List File)) (a2:(List File)):Ok Tryz.prog 70 [sl 2 (File.enc false) a1,sl 2 (File.enc false) a2] [] ((zCj a1 a2).map fun r=>(bv r,[])):=by
 refine zH c70 Tryz.f70 0 27 (fun q=>?_)
 unfold zCj
 refine J_g 2 [] [(0,sl 2 (File.enc false) a1),(1,sl 2 (File.enc false) a2)] [] zB ?_
 refine J_d 12 [] [10] [(10,bv ((a1.length:Int) !=(a2.length:Int)))] [] [] zB ?_
 refine zF 10 (fun h3=>?_) (fun h3=>?_)
 ·refine J_g 52 [] [(4,bv false)] [] zB ?_
  exact zR rfl
 ·refine J_d 28 [] [5,10] [(5,iv 0)] [] [] zB ?_
  refine vU (K0:=(fun r:Bool=>some (bv r,[]))) (fun _=>rfl) (zC1.ok a1 a2 q _ (fun v21=>J_j ?_) 0)
  refine J_g 30 [] [(4,bv true)] [] zB ?_
  exact zR rfl
noncomputable def c22:Code:=(Tryz.f22.body).getD .skip
theorem zBy.ok (a1:zC) (a2:zC):Ok Tryz.prog 22 [.ag (zC.enc false a1),.ag (zC.enc false a2)] [] ((zBy a1 a2).map fun r=>(bv r,[])):=by
 refine zH c22 Tryz.f22 0 31 (fun q=>?_)
 unfold zBy
 refine J_g 2 [(0,0),(1,1)] [(2,pp 0),(3,pp 1)] [(0,.box (zC.enc false a1)),(1,.box (zC.enc false a2))] zB ?_
 refine zA (fun x3 h4=>?_)
 refine J_d 12 [] [10] [(10,bv (!x3))] [] [] (zD 4 (xL [(.tmp 6),(.tmp 8)] [31,31] (zCj.ok a1.Files a2.Files) h4) zB) ?_
 refine zF 10 (fun h5=>?_) (fun h5=>?_)
 ·refine J_g 52 [] [(4,bv false)] [] zB ?_
  exact zR rfl
 ·refine J_d 28 [] [10,15] [(15,bv (a1.Budget !=a2.Budget))] [] [] zB ?_
  refine zF 15 (fun h6=>?_) (fun h6=>?_)
  ·refine J_g 116 [] [(4,bv false)] [] zB ?_
   exact zR rfl
  ·refine J_d 60 [] [15,20] [(20,bv (a1.Writes !=a2.Writes))] [] [] zB ?_
   refine zF 20 (fun h7=>?_) (fun h7=>?_)
   ·refine J_g 244 [] [(4,bv false)] [] zB ?_
    exact zR rfl
   ·refine J_d 124 [] [20,25] [(25,bv (a1.Stop !=a2.Stop))] [] [] zB ?_
    refine zF 25 (fun h8=>?_) (fun h8=>?_)
    ·refine J_g 500 [] [(4,bv false)] [] zB ?_
     exact zR rfl
    ·refine J_g 252 [] [(30,bv (!(a1.Down==a2.Down)))] [] zB ?_
     refine zF 30 (fun h9=>?_) (fun h9=>?_)
     ·refine J_g 1012 [] [(4,bv false)] [] zB ?_
      exact zR rfl
     ·refine J_g 254 [] [(4,bv true)] [] zB ?_
      exact zR rfl
noncomputable def c20:Code:=(Tryz.f20.body).getD .skip
theorem xR.ok (a1:zI) (a2:zI):Ok Tryz.prog 20 [.ag (zI.enc false a1),.ag (zI.enc false a2)] [] ((xR a1 a2).map fun r=>(bv r,[])):=by
 refine zH c20 Tryz.f20 0 16 (fun q=>?_)
 unfold xR
 refine J_g 2 [(0,0),(1,1)] [(2,pp 0),(3,pp 1)] [(0,.box (zI.enc false a1)),(1,.box (zI.enc false a2))] zB ?_
 refine J_d 12 [] [9] [(9,bv (a1.Code !=a2.Code))] [] [] zB ?_
 refine zF 9 (fun h3=>?_) (fun h3=>?_)
 ·refine J_g 52 [] [(4,bv false)] [] zB ?_
  exact zR rfl
 ·refine zA (fun x4 h5=>?_)
  refine J_g 28 [] [(15,bv (!x4))] [] (zD 4 (xL [(.tmp 11),(.tmp 13)] [33,33] (zBy.ok a1.zC a2.zC) h5) zB) ?_
  refine zF 15 (fun h6=>?_) (fun h6=>?_)
  ·refine J_g 116 [] [(4,bv false)] [] zB ?_
   exact zR rfl
  ·refine J_g 30 [] [(4,bv true)] [] zB ?_
   exact zR rfl
noncomputable def zRF:Code:=(Tryz.f142.body).getD .skip
theorem vD.ok (a1:Version) (a2:Version):Ok Tryz.prog 142 [.ag (Version.enc a1),.ag (Version.enc a2)] [] ((vD a1 a2).map fun r=>(bv r,[])):=by
 refine zH zRF Tryz.f142 0 20 (fun q=>?_)
 unfold vD
 refine J_g 2 [(0,0),(1,1)] [(2,pp 0),(3,pp 1)] [(0,.box (Version.enc a1)),(1,.box (Version.enc a2))] zB ?_
 refine J_d 12 [] [9] [(9,bv (a1.A !=a2.A))] [] [] zB ?_
 refine zF 9 (fun h3=>?_) (fun h3=>?_)
 ·refine J_g 52 [] [(4,bv false)] [] zB ?_
  exact zR rfl
 ·refine J_d 28 [] [9,14] [(14,bv (a1.B !=a2.B))] [] [] zB ?_
  refine zF 14 (fun h4=>?_) (fun h4=>?_)
  ·refine J_g 116 [] [(4,bv false)] [] zB ?_
   exact zR rfl
  ·refine J_g 60 [] [(19,bv (a1.C !=a2.C))] [] zB ?_
   refine zF 19 (fun h5=>?_) (fun h5=>?_)
   ·refine J_g 244 [] [(4,bv false)] [] zB ?_
    exact zR rfl
   ·refine J_g 62 [] [(4,bv true)] [] zB ?_
    exact zR rfl
noncomputable def c143:Code:=(Tryz.f143.body).getD .skip
theorem zBl.ok (a1:(List ByteArray)) (a2:(List ByteArray)) (q:Wd) (kn:Unit→Option (D×List Ent)) (hk:∀v:Unit,J (q.g Tryz.prog 143 0 26) c143 (atI c143 15) (St.mk' [] []) (some v) kn):
  ∀s10:Int,J (q.g Tryz.prog 143 0 26) c143 (atI c143 116) (St.mk' [(0,sl 1 eStr a1),(1,sl 1 eStr a2),(5,iv s10)] []) (zBl a1 a2 s10) (Fl.go (fun r:Bool=>some (bv r,[])) kn):=by
 refine kP (fun g ih s10=>?_)
 unfold zBW
 refine J_d 464 [] [14] [(14,bv (decide (s10< (a1.length:Int))))] [] [] zB ?_
 refine zF 14 (fun h11=>?_) (fun h11=>?_)
 ·refine zA (fun x12 h13=>?_)
  refine zA (fun x14 h15=>?_)
  refine J_d 1864 [] [14,25] [(25,bv (!(seq x12 x14)))] [] [] (zD 2 (zAg (kk:=.i64) 86 9 1 eStr (.tmp 17) (.tmp 18) h13) (zD 6 (zAg (kk:=.i64) 86 9 1 eStr (.tmp 21) (.tmp 22) h15) zB)) ?_
  refine zF 25 (fun h16=>?_) (fun h16=>?_)
  ·refine J_g 7460 [] [(4,bv false)] [] zB ?_
   exact zR rfl
  ·refine J_d 467 [] [5,25] [(5,iv (w64 (s10+1)))] [] [] zB ?_
   exact J_q (J_b (ih (w64 (s10+1)))) rfl
 ·exact yF (hk ()) rfl
theorem zBa.ok (a1:(List ByteArray)) (a2:(List ByteArray)):Ok Tryz.prog 143 [sl 1 eStr a1,sl 1 eStr a2] [] ((zBa a1 a2).map fun r=>(bv r,[])):=by
 refine zH c143 Tryz.f143 0 26 (fun q=>?_)
 unfold zBa
 refine J_g 2 [] [(0,sl 1 eStr a1),(1,sl 1 eStr a2)] [] zB ?_
 refine J_d 12 [] [10] [(10,bv ((a1.length:Int) !=(a2.length:Int)))] [] [] zB ?_
 refine zF 10 (fun h3=>?_) (fun h3=>?_)
 ·refine J_g 52 [] [(4,bv false)] [] zB ?_
  exact zR rfl
 ·refine J_d 28 [] [5,10] [(5,iv 0)] [] [] zB ?_
  refine vU (K0:=(fun r:Bool=>some (bv r,[]))) (fun _=>rfl) (zBl.ok a1 a2 q _ (fun v17=>J_j ?_) 0)
  refine J_g 30 [] [(4,bv true)] [] zB ?_
  exact zR rfl
noncomputable def c213:Code:=(Tryz.f213.body).getD .skip
theorem zDj.ok (a1:Term) (a2:Term):Ok Tryz.prog 213 [.ag (Term.enc a1),.ag (Term.enc a2)] [] ((zDj a1 a2).map fun r=>(bv r,[])):=by
 refine zH c213 Tryz.f213 0 22 (fun q=>?_)
 unfold zDj
 refine J_g 2 [(0,0),(1,1)] [(2,pp 0),(3,pp 1)] [(0,.box (Term.enc a1)),(1,.box (Term.enc a2))] zB ?_
 refine J_d 12 [] [9] [(9,bv (!(seq a1.Name a2.Name)))] [] [] zB ?_
 refine zF 9 (fun h3=>?_) (fun h3=>?_)
 ·refine J_g 52 [] [(4,bv false)] [] zB ?_
  exact zR rfl
 ·refine zA (fun x4 h5=>?_)
  refine J_d 28 [] [9,15] [(15,bv (!x4))] [] [] (zD 4 (xL [(.tmp 11),(.tmp 13)] [99,99] (vD.ok a1.Low a2.Low) h5) zB) ?_
  refine zF 15 (fun h6=>?_) (fun h6=>?_)
  ·refine J_g 116 [] [(4,bv false)] [] zB ?_
   exact zR rfl
  ·refine zA (fun x7 h8=>?_)
   refine J_g 60 [] [(21,bv (!x7))] [] (zD 4 (xL [(.tmp 17),(.tmp 19)] [99,99] (vD.ok a1.High a2.High) h8) zB) ?_
   refine zF 21 (fun h9=>?_) (fun h9=>?_)
   ·refine J_g 244 [] [(4,bv false)] [] zB ?_
    exact zR rfl
   ·refine J_g 62 [] [(4,bv true)] [] zB ?_
    exact zR rfl
noncomputable def c145:Code:=(Tryz.f145.body).getD .skip
theorem zCD.ok (a1:(List Term)) (a2:(List Term)) (q:Wd) (kn:Unit→Option (D×List Ent)) (hk:∀v:Unit,J (q.g Tryz.prog 145 0 27) c145 (atI c145 15) (St.mk' [] []) (some v) kn):
  ∀s12:Int,J (q.g Tryz.prog 145 0 27) c145 (atI c145 116) (St.mk' [(0,sl 7 Term.enc a1),(1,sl 7 Term.enc a2),(5,iv s12)] []) (zCD a1 a2 s12) (Fl.go (fun r:Bool=>some (bv r,[])) kn):=by
 refine kP (fun g ih s12=>?_)
 unfold zCZ
 refine J_d 464 [] [14] [(14,bv (decide (s12< (a1.length:Int))))] [] [] zB ?_
 refine zF 14 (fun h13=>?_) (fun h13=>?_)
 ·refine zA (fun x14 h15=>?_)
  refine zA (fun x16 h17=>?_)
  refine zA (fun x18 h19=>?_)
  refine J_d 1864 [] [14,26] [(26,bv (!x18))] [] [] (zD 2 (zAg (kk:=.i64) 75 149 7 Term.enc (.tmp 17) (.tmp 18) h15) (zD 6 (zAg (kk:=.i64) 75 149 7 Term.enc (.tmp 21) (.tmp 22) h17) (zD 8 (xL [(.tmp 20),(.tmp 24)] [149,149] (zDj.ok x14 x16) h19) zB))) ?_
  refine zF 26 (fun h20=>?_) (fun h20=>?_)
  ·refine J_g 7460 [] [(4,bv false)] [] zB ?_
   exact zR rfl
  ·refine J_d 467 [] [5,26] [(5,iv (w64 (s12+1)))] [] [] zB ?_
   exact J_q (J_b (ih (w64 (s12+1)))) rfl
 ·exact yF (hk ()) rfl
theorem zAE.ok (a1:(List Term)) (a2:(List Term)):Ok Tryz.prog 145 [sl 7 Term.enc a1,sl 7 Term.enc a2] [] ((zAE a1 a2).map fun r=>(bv r,[])):=by
 refine zH c145 Tryz.f145 0 27 (fun q=>?_)
 unfold zAE
 refine J_g 2 [] [(0,sl 7 Term.enc a1),(1,sl 7 Term.enc a2)] [] zB ?_
 refine J_d 12 [] [10] [(10,bv ((a1.length:Int) !=(a2.length:Int)))] [] [] zB ?_
 refine zF 10 (fun h3=>?_) (fun h3=>?_)
 ·refine J_g 52 [] [(4,bv false)] [] zB ?_
  exact zR rfl
 ·refine J_d 28 [] [5,10] [(5,iv 0)] [] [] zB ?_
  refine vU (K0:=(fun r:Bool=>some (bv r,[]))) (fun _=>rfl) (zCD.ok a1 a2 q _ (fun v21=>J_j ?_) 0)
  refine J_g 30 [] [(4,bv true)] [] zB ?_
  exact zR rfl
noncomputable def zQo:Code:=(Tryz.f144.body).getD .skip
theorem zBP.ok (a1:(List (List Term))) (a2:(List (List Term))) (q:Wd) (kn:Unit→Option (D×List Ent)) (hk:∀v:Unit,J (q.g Tryz.prog 144 0 27) zQo (atI zQo 15) (St.mk' [] []) (some v) kn):
  ∀s12:Int,J (q.g Tryz.prog 144 0 27) zQo (atI zQo 116) (St.mk' [(0,sl 1 (eSl false 7 Term.enc) a1),(1,sl 1 (eSl false 7 Term.enc) a2),(5,iv s12)] []) (zBP a1 a2 s12) (Fl.go (fun r:Bool=>some (bv r,[])) kn):=by
 refine kP (fun g ih s12=>?_)
 unfold zCK
 refine J_d 464 [] [14] [(14,bv (decide (s12< (a1.length:Int))))] [] [] zB ?_
 refine zF 14 (fun h13=>?_) (fun h13=>?_)
 ·refine zA (fun x14 h15=>?_)
  refine zA (fun x16 h17=>?_)
  refine zA (fun x18 h19=>?_)
  refine J_d 1864 [] [14,26] [(26,bv (!x18))] [] [] (zD 2 (zAg (kk:=.i64) 100 75 1 (eSl false 7 Term.enc) (.tmp 17) (.tmp 18) h15) (zD 6 (zAg (kk:=.i64) 100 75 1 (eSl false 7 Term.enc) (.tmp 21) (.tmp 22) h17) (zD 8 (xL [(.tmp 20),(.tmp 24)] [75,75] (zAE.ok x14 x16) h19) zB))) ?_
  refine zF 26 (fun h20=>?_) (fun h20=>?_)
  ·refine J_g 7460 [] [(4,bv false)] [] zB ?_
   exact zR rfl
  ·refine J_d 467 [] [5,26] [(5,iv (w64 (s12+1)))] [] [] zB ?_
   exact J_q (J_b (ih (w64 (s12+1)))) rfl
 ·exact yF (hk ()) rfl
theorem zB9.ok (a1:(List (List Term))) (a2:(List (List Term))):Ok Tryz.prog 144 [sl 1 (eSl false 7 Term.enc) a1,sl 1 (eSl false 7 Term.enc) a2] [] ((zB9 a1 a2).map fun r=>(bv r,[])):=by
 refine zH zQo Tryz.f144 0 27 (fun q=>?_)
 unfold zB9
 refine J_g 2 [] [(0,sl 1 (eSl false 7 Term.enc) a1),(1,sl 1 (eSl false 7 Term.enc) a2)] [] zB ?_
 refine J_d 12 [] [10] [(10,bv ((a1.length:Int) !=(a2.length:Int)))] [] [] zB ?_
 refine zF 10 (fun h3=>?_) (fun h3=>?_)
 ·refine J_g 52 [] [(4,bv false)] [] zB ?_
  exact zR rfl
 ·refine J_d 28 [] [5,10] [(5,iv 0)] [] [] zB ?_
  refine vU (K0:=(fun r:Bool=>some (bv r,[]))) (fun _=>rfl) (zBP.ok a1 a2 q _ (fun v21=>J_j ?_) 0)
  refine J_g 30 [] [(4,bv true)] [] zB ?_
  exact zR rfl
noncomputable def c69:Code:=(Tryz.f69.body).getD .skip
theorem zDi.ok (a1:Pack) (a2:Pack):Ok Tryz.prog 69 [.ag (Pack.enc false a1),.ag (Pack.enc false a2)] [] ((zDi a1 a2).map fun r=>(bv r,[])):=by
 refine zH c69 Tryz.f69 0 39 (fun q=>?_)
 unfold zDi
 refine J_g 2 [(0,0),(1,1)] [(2,pp 0),(3,pp 1)] [(0,.box (Pack.enc false a1)),(1,.box (Pack.enc false a2))] zB ?_
 refine J_d 12 [] [9] [(9,bv (!(seq a1.Name a2.Name)))] [] [] zB ?_
 refine zF 9 (fun h3=>?_) (fun h3=>?_)
 ·refine J_g 52 [] [(4,bv false)] [] zB ?_
  exact zR rfl
 ·refine zA (fun x4 h5=>?_)
  refine J_d 28 [] [9,15] [(15,bv (!x4))] [] [] (zD 4 (xL [(.tmp 11),(.tmp 13)] [99,99] (vD.ok a1.Version a2.Version) h5) zB) ?_
  refine zF 15 (fun h6=>?_) (fun h6=>?_)
  ·refine J_g 116 [] [(4,bv false)] [] zB ?_
   exact zR rfl
  ·refine J_d 60 [] [15,20] [(20,bv (a1.Size !=a2.Size))] [] [] zB ?_
   refine zF 20 (fun h7=>?_) (fun h7=>?_)
   ·refine J_g 244 [] [(4,bv false)] [] zB ?_
    exact zR rfl
   ·refine zA (fun x8 h9=>?_)
    refine J_d 124 [] [20,26] [(26,bv (!x8))] [] [] (zD 4 (xL [(.tmp 22),(.tmp 24)] [86,86] (zBa.ok a1.Provides a2.Provides) h9) zB) ?_
    refine zF 26 (fun h10=>?_) (fun h10=>?_)
    ·refine J_g 500 [] [(4,bv false)] [] zB ?_
     exact zR rfl
    ·refine zA (fun x11 h12=>?_)
     refine J_d 252 [] [26,32] [(32,bv (!x11))] [] [] (zD 4 (xL [(.tmp 28),(.tmp 30)] [100,100] (zB9.ok a1.Needs a2.Needs) h12) zB) ?_
     refine zF 32 (fun h13=>?_) (fun h13=>?_)
     ·refine J_g 1012 [] [(4,bv false)] [] zB ?_
      exact zR rfl
     ·refine zA (fun x14 h15=>?_)
      refine J_g 508 [] [(38,bv (!x14))] [] (zD 4 (xL [(.tmp 34),(.tmp 36)] [75,75] (zAE.ok a1.Bars a2.Bars) h15) zB) ?_
      refine zF 38 (fun h16=>?_) (fun h16=>?_)
      ·refine J_g 2036 [] [(4,bv false)] [] zB ?_
       exact zR rfl
      ·refine J_g 510 [] [(4,bv true)] [] zB ?_
       exact zR rfl
end Go.Told

import Derived.Test.YtlagdfkkokgakaaGreatDoorOkReachedPathsx1
set_option linter.unusedVariables false
set_option maxRecDepth 4000
namespace Go.Told
open Go Go.Im Go.Proofs
noncomputable def zQh:Code:=(Tryz.f174.body).getD .skip
theorem zQ.ok (a1:(List Int)) (a2:(List Int)):Ok Tryz.prog 174 [sl 1 zI a1,.fn 175 [pp 0]] [.box [so 1 zI a2]] ((zQ a1 a2).map fun r=>(bv r,[.box [so 1 zI a2]])):=by
 refine zH zQh Tryz.f174 1 9 (fun q=>?_)
 unfold zQ
 refine zET 0 (cs':=[rr 1 a2]) (es:=[(1,rE 1 zI a2)]) rfl (.cons (.own 1) (.nil)) rfl (by kernel_rfl) (by kernel_rfl) ?_
 refine zFu [(0,sl 1 zI a1),(1,.fn 175 [pp 0])] [(0,.box [rr 1 a2]),(1,rE 1 zI a2)] (by kernel_rfl) ?_
 refine J_g 2 [] [(0,sl 1 zI a1),(1,.fn 175 [pp 0])] [(0,.box [rr 1 a2]),(1,rE 1 zI a2)] zB ?_
 refine zGj 0 (cs':=[so 1 zI a2]) (ts:=[1]) rfl (.move (.head _) (List.length_map _) (by decide) (.nil)) ?_
 refine zFu [(0,sl 1 zI a1),(1,.fn 175 [pp 0])] [(0,.box [so 1 zI a2])] (by kernel_rfl) ?_
 refine zA (fun x3 h4=>?_)
 refine J_g 6 [] [(4,bv (decide (x3≥0)))] [(0,.box [so 1 zI a2])] (zD 2 (zIE [(0,.box [so 1 zI a2])] [] (uW («as»:=[sl 1 zI a1,.fn 175 [pp 0]]) [(.tmp 5),(.tmp 6)] [42,202] false [(0,.box [so 1 zI a2])] [0] (.cons (.same rfl) (.cons (.fn (.cons (.pt rfl) (.nil))) (.nil))) (zX.ok a1 a2) h4 (.same rfl rfl))) zB) ?_
 refine zET 0 (cs':=[rr 1 a2]) (es:=[(1,rE 1 zI a2)]) rfl (.cons (.own 1) (.nil)) rfl (by kernel_rfl) (by kernel_rfl) ?_
 refine zFu [(4,bv (decide (x3≥0)))] [(0,.box [rr 1 a2]),(1,rE 1 zI a2)] (by kernel_rfl) ?_
 refine zGj 0 (cs':=[so 1 zI a2]) (ts:=[1]) rfl (.move (.head _) (List.length_map _) (by decide) (.nil)) ?_
 refine zFu [(4,bv (decide (x3≥0)))] [(0,.box [so 1 zI a2])] (by kernel_rfl) ?_
 exact zT rfl
theorem bytealg_CompareString.ok (a1 a2:ByteArray):Ok Tryz.prog 292 [sv a1,sv a2] [] ((bytealg_CompareString a1 a2).map fun r=>(iv r,[])):=
 zOL (vs:=[.string a1,.string a2]) (fun w=>Tryz.bytealg_CompareString a1 a2 w)
noncomputable def zQb:Code:=(Tryz.f243.body).getD .skip
theorem strings_Compare.ok (a1:ByteArray) (a2:ByteArray):Ok Tryz.prog 243 [sv a1,sv a2] [] ((strings_Compare a1 a2).map fun r=>(iv r,[])):=by
 refine zH zQb Tryz.f243 0 8 (fun q=>?_)
 unfold strings_Compare
 refine J_d 2 [] [] [] [] [] zB ?_
 refine zA (fun x3 h4=>?_)
 refine J_g 6 [] [(4,iv x3)] [] (zD 2 (xE [(.tmp 5),(.tmp 6)] [9,9] (bytealg_CompareString.ok a1 a2) h4) zB) ?_
 exact zT rfl
noncomputable def zPH:Code:=(Tryz.f242.body).getD .skip
theorem wV.ok (a1:File) (a2:ByteArray):Ok Tryz.prog 242 [.ag (File.enc false a1),sv a2] [] ((wV a1 a2).map fun r=>(iv r,[])):=by
 refine zH zPH Tryz.f242 0 9 (fun q=>?_)
 unfold wV
 refine J_g 2 [(0,0)] [(1,sv a2),(2,pp 0)] [(0,.box (File.enc false a1))] zB ?_
 refine zA (fun x3 h4=>?_)
 refine J_g 6 [] [(4,iv x3)] [] (zD 3 (xE [(.tmp 6),(.tmp 7)] [9,9] (strings_Compare.ok a1.Path a2) h4) zB) ?_
 exact zT rfl
noncomputable def zNQ:Code:=(Tryz.f241.body).getD .skip
theorem zR.ok (a1:(List File)) (a2:ByteArray) (q:Wd) (kn:Int→Option (D×List Ent)) (hk:∀v:Int,J (q.g Tryz.prog 241 0 49) zNQ (atI zNQ 31) (St.mk' [(0,sl 2 (File.enc false) a1),(1,sv a2),(2,.fn 242 []),(8,iv (a1.length:Int)),(9,iv v)] []) (some v) kn):
  ∀s9:(Int×Int),J (q.g Tryz.prog 241 0 49) zNQ (atI zNQ 120) (St.mk' [(0,sl 2 (File.enc false) a1),(1,sv a2),(2,.fn 242 []),(8,iv (a1.length:Int)),(9,iv s9.1),(10,iv s9.2)] []) (zR a1 a2 s9) kn:=by
 refine zA6 (fun g ih s9=>?_)
 unfold yB
 refine J_d 480 [] [17] [(17,bv (decide (s9.1<s9.2)))] [] [] zB ?_
 refine zC 17 (fun h10=>?_) (fun h10=>?_)
 ·refine J_d 964 [] [11,17] [(11,iv (w64 ((IntKind.u64.wrap (w64 (s9.1+s9.2))).fdiv (2^(min (1:Int).toNat 64)))))] [] [] zB ?_
  refine zA (fun x11 h12=>?_)
  refine zA (fun x13 h14=>?_)
  refine J_d 1930 [] [31] [(31,bv (decide (x13<0)))] [] [] (zD 3 (zAt (kk:=.i64) 25 113 2 (File.enc false) (.tmp 25) (.tmp 26) h12) (zD 6 (zLT («as»:=[.ag (File.enc false x11),sv a2]) (caps:=[]) 24 [(.tmp 28),(.tmp 29)] [113,9] (wV.ok x11 a2) h14) zB)) ?_
  refine zC 31 (fun h15=>?_) (fun h15=>?_)
  ·refine J_d 3862 [] [9,11,31] [(9,iv (w64 ((w64 ((IntKind.u64.wrap (w64 (s9.1+s9.2))).fdiv (2^(min (1:Int).toNat 64))))+1)))] [] [] zB ?_
   exact J_q (J_b (ih (w64 ((w64 ((IntKind.u64.wrap (w64 (s9.1+s9.2))).fdiv (2^(min (1:Int).toNat 64))))+1),s9.2))) rfl
  ·refine J_d 3863 [] [10,11,31] [(10,iv (w64 ((IntKind.u64.wrap (w64 (s9.1+s9.2))).fdiv (2^(min (1:Int).toNat 64)))))] [] [] zB ?_
   exact J_q (J_b (ih (s9.1,w64 ((IntKind.u64.wrap (w64 (s9.1+s9.2))).fdiv (2^(min (1:Int).toNat 64)))))) rfl
 ·exact yP (hk s9.1) rfl
theorem zF.ok (a1:(List File)) (a2:ByteArray):Ok Tryz.prog 241 [sl 2 (File.enc false) a1,sv a2,.fn 242 []] [] ((zF a1 a2).map fun r=>(.tu [iv r.1,bv r.2],[])):=by
 refine zH zNQ Tryz.f241 0 49 (fun q=>?_)
 unfold zF
 refine J_g 2 [] [(0,sl 2 (File.enc false) a1),(1,sv a2),(2,.fn 242 [])] [] zB ?_
 refine J_g 6 [] [(0,sl 2 (File.enc false) a1),(1,sv a2),(2,.fn 242 []),(8,iv (a1.length:Int))] [] zB ?_
 refine J_d 14 [] [9,10] [(9,iv 0),(10,iv (a1.length:Int))] [] [] zB ?_
 refine zEG (zR.ok a1 a2 q _ (fun v16=>J_j ?_) (0,(a1.length:Int)))
 refine wR (fun h17=>?_) (fun h17=>?_)
 ·refine zA (fun x18 h19=>?_)
  refine zA (fun x20 h21=>?_)
  refine J_g 62 [] [(6,iv v16),(7,bv (x20==0))] [] (xW 4 [(38,bv (decide (v16< (a1.length:Int))))] [] h17 (zDk 8 4 39 true (zAt (kk:=.i64) 25 113 2 (File.enc false) (.tmp 41) (.tmp 42) h19) (zDk 11 4 39 true (zLT («as»:=[.ag (File.enc false x18),sv a2]) (caps:=[]) 40 [(.tmp 44),(.tmp 45)] [113,9] (wV.ok x18 a2) h21) zB))) ?_
  exact zMH rfl
 ·refine J_g 62 [] [(6,iv v16),(7,bv false)] [] (xW 4 [(38,bv (decide (v16< (a1.length:Int))))] [] h17 zB) ?_
  exact zMH rfl
noncomputable def c162:Code:=(Tryz.f162.body).getD .skip
theorem jU.ok (a1:zL) (a2:ByteArray):Ok Tryz.prog 162 [.ag (zL.enc false a1),sv a2] [] ((jU a1 a2).map fun r=>(.tu [iv r.1,bv r.2],[])):=by
 refine zH c162 Tryz.f162 0 12 (fun q=>?_)
 unfold jU
 refine J_g 2 [(0,0)] [(1,sv a2),(2,pp 0)] [(0,.box (zL.enc false a1))] zB ?_
 refine zA (fun x3 h4=>?_)
 refine J_g 6 [] [(4,iv x3.1),(5,bv x3.2)] [] (zD 3 (uW («as»:=[sl 2 (File.enc false) a1.Files,sv a2,.fn 242 []]) [(.tmp 7),(.tmp 8),(.func 242)] [25,9,249] false [] [] (.cons (.same rfl) (.cons (.same rfl) (.cons (.fn (.nil)) (.nil)))) (zF.ok a1.Files a2) h4 (.tu (.cons (.same rfl rfl) (.cons (.same rfl rfl) (.nil))))) zB) ?_
 exact zMH rfl
noncomputable def c139:Code:=(Tryz.f139.body).getD .skip
theorem yU.ok (a1:zL) (a2:ByteArray):Ok Tryz.prog 139 [.ag (zL.enc false a1),sv a2] [] ((yU a1 a2).map fun r=>(.tu [sl 1 eU8 r.1,bv r.2],[])):=by
 refine zH c139 Tryz.f139 0 22 (fun q=>?_)
 unfold yU
 refine J_g 2 [(0,0)] [(1,sv a2),(2,pp 0)] [(0,.box (zL.enc false a1))] zB ?_
 refine zA (fun x3 h4=>?_)
 refine J_g 6 [] [(2,pp 0),(6,iv x3.1),(7,bv x3.2)] [(0,.box (zL.enc false a1))] (zD 2 (xE [(.tmp 9),(.tmp 10)] [27,9] (jU.ok a1 a2) h4) zB) ?_
 refine J_d 28 [] [7,15] [(15,bv (!x3.2))] [] [] zB ?_
 refine zC 15 (fun h5=>?_) (fun h5=>?_)
 ·refine J_g 116 [] [(4,nv),(5,bv false)] [] zB ?_
  exact zBY (ds:=[nv,bv false]) (ds':=[sl 1 eU8 ([]:List Int),bv false]) (.cons (.cell (.nilsl false 1 (.nil))) (.cons (.cell (.keep rfl (.nil))) (.nil) (by decide)) (by decide)) rfl
 ·refine zA (fun x6 h7=>?_)
  refine J_g 30 [] [(4,sl 1 eU8 x6.Data),(5,bv true)] [] (zD 3 (zAt (kk:=.i64) 25 113 2 (File.enc false) (.tmp 17) (.tmp 18) h7) zB) ?_
  exact zMH rfl
noncomputable def zPm:Code:=(Tryz.f177.body).getD .skip
theorem vT.ok (a1:zL):Ok Tryz.prog 177 [.ag (zL.enc false a1)] [] ((vT a1).map fun r=>(.tu [iv r.1,iv r.2],[])):=by
 refine zH zPm Tryz.f177 0 25 (fun q=>?_)
 unfold vT
 refine J_g 2 [(0,0)] [(1,pp 0)] [(0,.box (zL.enc false a1))] zB ?_
 refine zA (fun x2 h3=>?_)
 refine J_d 6 [] [4,5] [(4,sl 1 eU8 x2.1),(5,bv x2.2)] [] [] (zD 1 (xE [(.tmp 8),(.const (.string (bs [99,117,114])))] [27,9] (yU.ok a1 (bs [99,117,114])) h3) zB) ?_
 refine zA (fun x4 h5=>?_)
 refine J_d 14 [] [4,6] [(6,iv x4)] [] [] (zD 1 (zMj (xs:=x2.1) 111 9 5 (.tmp 12)) (zD 2 (xE [(.tmp 13),(.const (.int .i64 6))] [9,3] (kL.ok (b2s x2.1) 6) h5) zB)) ?_
 refine xP (atI zPm 61) (fun v11:Bool=>St.mk' [(6,iv x4),(23,bv v11)] []) (fun v11=>?_) (fun jv11=>?_)
 ·refine zC 23 (fun h12=>?_) (fun h12=>?_)
  ·refine J_g 244 [] [(2,iv 0),(3,iv 4)] [] zB ?_
   exact zMH rfl
  ·refine J_g 62 [] [(2,iv x4),(3,iv 0)] [] zB ?_
   exact zMH rfl
 ·refine wR (fun h6=>?_) (fun h6=>?_)
  ·refine J_g 60 [] [(6,iv x4),(23,bv true)] [] (xW 2 [(16,bv (!x2.2))] [] h6 zB) ?_
   exact yP (J_j (jv11 true)) rfl
  ·refine zA (fun x7 h8=>?_)
   refine zA (fun x9 h10=>?_)
   refine J_g 60 [] [(6,iv x4),(23,bv (!x9))] [] (xW 2 [(16,bv (!x2.2))] [] h6 (zDk 4 2 17 false (uW («as»:=[.ag (zL.enc false a1)]) [(.tmp 18)] [27] false [] [] (.cons (.same rfl) (.nil)) (wL.ok a1) h8 (.own 1)) (zDk 6 2 17 false (uW («as»:=[rr 1 x7,iv x4]) [(.tmp 19),(.tmp 20)] [42,2] true [(1,rE 1 zI x7)] [] (.cons (zDz (.head _) (fun _=>rfl) rfl) (.cons (.same rfl) (.nil))) (zZ.ok x7 x4) h10 (.same rfl rfl) (hbor:=fun _=>⟨fhN,yH⟩)) zB))) ?_
   exact yP (J_j (jv11 (!x9))) rfl
noncomputable def zPU:Code:=(Tryz.f178.body).getD .skip
theorem vU.ok (a1:(List Int)):Ok Tryz.prog 178 [sl 1 zI a1] [] ((vU a1).map fun r=>(so 1 zI r,[])):=by
 refine zH zPU Tryz.f178 0 8 (fun q=>?_)
 unfold vU
 refine J_g 2 [] [(0,sl 1 zI a1)] [] zB ?_
 refine J_d 12 [] [4] [(4,.nb a1.length)] [] [] (zD 1 (zNd (xs:=a1) 42 2 42 1 zI (.tmp 3)) zB) ?_
 refine zQa 4 rfl (fun h2=>?_) ?_
 ·obtain rfl:a1=[]:=List.eq_nil_of_length_eq_zero h2
  refine zOw (e':=some ([]:List Int)) (by kernel_rfl) ?_
  refine J_g 52 [] [(2,nv)] [] zB ?_
  exact zBY (ds:=[nv]) (ds':=[so 1 zI ([]:List Int)]) (.cons (.cell (.nilsl true 1 (.nil))) (.nil) (by decide)) rfl
 ·refine zA (fun x3 h4=>?_)
  refine J_g 14 [] [(2,rr 1 x3)] [(1,rE 1 zI x3)] (zD 0 (zDD 42 2 1 0 zI ([]:List Int) [] [] []) (zD 2 (zOM 42 42 2 2 1 8 1 0 zI (.tmp 5) (.tmp 6) h4) zB)) ?_
  exact zBY (ds:=[rr 1 x3]) (ds':=[so 1 zI x3]) (.cons (.cell (.move (.head _) (List.length_map _) (by decide) (.nil))) (.nil) (by decide)) rfl
theorem xB.ok (a1:List Int):Ok Tryz.prog 179 [rr 0 a1] [rE 1 zI a1] ((xB a1).map fun r=>(.tu [],[rE 1 zI r])):=by
 unfold xB
 split
 ·exact zLV (enc:=Value.int .i64) (by simp [List.length_mergeSort]) (fun blk off cap w hH hb=>Tryz.slices_Sort_int blk off cap a1 w hH hb (by omega)) (fun _ p cap w=>Tryz.slices_Sort_int_none p cap w)
 ·exact fun _ h=>by cases h
noncomputable def zLZ:Code:=(Tryz.f180.body).getD .skip
theorem xQ.ok (s41:Int) (x48:(List Int)) (q:Wd) (kn:((List Int)×Int)→Option (D×List Ent)) (hk:∀v:((List Int)×Int),J (q.g Tryz.prog 180 1 61) zLZ (atI zLZ 14923) (St.mk' [(0,rr 0 v.1),(3,iv v.2)] [(0,rE 1 zI v.1)]) (some v) kn):
  ∀s61:((List Int)×Int×Int),J (q.g Tryz.prog 180 1 61) zLZ (atI zLZ 119380) (St.mk' [(0,rr 0 s61.1),(3,iv s61.2.1),(4,.sub 0 s41.toNat x48.length),(5,iv s61.2.2)] [(0,rE 1 zI s61.1)]) (xQ s41 x48 s61) kn:=by
 refine zA6 (fun g ih s61=>?_)
 unfold wD
 refine J_d 477520 [] [32] [(32,bv (decide (s61.2.2< (x48.length:Int))))] [] [] (zD 2 (zML 42 2 0 s41.toNat x48.length (.tmp 30)) zB) ?_
 refine zC 32 (fun h62=>?_) (fun h62=>?_)
 ·refine zA (fun x63 h64=>?_)
  refine zA (fun x65 h66=>?_)
  refine J_d 1910088 [] [32,44] [(44,bv (x63 !=x65))] [] [] (zD 2 (zKD (kk:=.i64) 42 2 1 0 zI (.tmp 35) (.tmp 36) h64) (zD 3 (zAM (d:=iv x63) 2 1 0 0 zI (.tmp 37) (zEm h64) (by kernel_rfl)) (zD 7 (zKD (kk:=.i64) 42 2 1 0 zI (.tmp 39) (.tmp 41) h66) (zD 8 (zAM (d:=iv x65) 2 1 0 0 zI (.tmp 42) (zEm h66) (by kernel_rfl)) zB)))) ?_
  refine xP (aft zLZ 955044) (fun v72:((List Int)×Int)=>St.mk' [(0,rr 0 v72.1),(3,iv v72.2),(4,.sub 0 s41.toNat x48.length),(5,iv s61.2.2)] [(0,rE 1 zI v72.1)]) (fun v72=>?_) (fun jv72=>?_)
  ·refine J_d 477523 [] [5] [(5,iv (w64 (s61.2.2+1)))] [] [] zB ?_
   exact J_q (J_b (ih (v72.1,v72.2,w64 (s61.2.2+1)))) rfl
  ·refine zC 44 (fun h67=>?_) (fun h67=>?_)
   ·refine zA (fun x68 h69=>?_)
    refine zA (fun x70 h71=>?_)
    refine J_g 7640356 [] [(0,rr 0 s61.1),(3,iv s61.2.1),(4,.sub 0 s41.toNat x48.length),(5,iv s61.2.2)] [(0,rE 1 zI (s61.1.set s61.2.1.toNat x68))] (zD 4 (zKD (kk:=.i64) 42 2 1 0 zI (.tmp 47) (.tmp 48) h69) (zD 5 (zAM (d:=iv x68) 2 1 0 0 zI (.tmp 49) (zEm h69) (by kernel_rfl)) (zD 6 (uH (kk:=.i64) 42 2 1 0 zI (.tmp 45) (.tmp 46) h71) (zEC 7 (zFB (b:=x68) 2 1 0 0 zI (iv x68) (.tmp 51) (.tmp 50) h71 rfl) zB)))) ?_
    refine zDH (σ':=St.mk' [(0,rr 0 (s61.1.set s61.2.1.toNat x68)),(3,iv s61.2.1),(4,.sub 0 s41.toNat x48.length),(5,iv s61.2.2)] [(0,rE 1 zI (s61.1.set s61.2.1.toNat x68))]) (by simp only [rr,List.length_set]) ?_
    refine J_d 7640357 [] [3] [(3,iv (w64 (s61.2.1+1)))] [] [] zB ?_
    exact yP (J_j (jv72 (s61.1.set s61.2.1.toNat x68,w64 (s61.2.1+1)))) rfl
   ·exact yP (J_j (jv72 (s61.1,s61.2.1))) rfl
 ·exact yP (hk (s61.1,s61.2.1)) rfl
theorem wI.ok (a1:(List Int)) (q:Wd) (kn:Unit→Option (D×List Ent)) (hk:∀v:Unit,J (q.g Tryz.prog 180 1 61) zLZ (atI zLZ 15) (St.mk' [(0,rr 0 a1)] [(0,rE 1 zI a1)]) (some v) kn):
  ∀s41:Int,J (q.g Tryz.prog 180 1 61) zLZ (atI zLZ 116) (St.mk' [(0,rr 0 a1),(3,iv s41)] [(0,rE 1 zI a1)]) (wI a1 s41) (Fl.go (fun r:(List Int)=>some (so 1 zI r,[])) kn):=by
 refine zA6 (fun g ih s41=>?_)
 unfold yV
 refine J_d 464 [] [13] [(13,bv (decide (s41< (a1.length:Int))))] [] [] zB ?_
 refine zC 13 (fun h42=>?_) (fun h42=>?_)
 ·refine zA (fun x43 h44=>?_)
  refine zA (fun x45 h46=>?_)
  refine J_d 1864 [] [13,25] [(25,bv (x43==x45))] [] [] (zD 2 (uH (kk:=.i64) 42 2 1 0 zI (.tmp 16) (.tmp 17) h44) (zD 3 (zAM (d:=iv x43) 2 1 0 0 zI (.tmp 18) h44 (by kernel_rfl)) (zD 7 (uH (kk:=.i64) 42 2 1 0 zI (.tmp 20) (.tmp 22) h46) (zD 8 (zAM (d:=iv x45) 2 1 0 0 zI (.tmp 23) h46 (by kernel_rfl)) zB)))) ?_
  refine zC 25 (fun h47=>?_) (fun h47=>?_)
  ·refine zA (fun x48 h49=>?_)
   refine J_g 7460 [] [(0,rr 0 a1),(3,iv s41),(4,.sub 0 s41.toNat x48.length)] [(0,rE 1 zI a1)] (zD 2 (zLu 42 2 1 0 zI (.tmp 26) (some (.tmp 27)) none h49) zB) ?_
   refine J_d 29844 [] [5] [(5,iv 1)] [] [] zB ?_
   refine zEG (xQ.ok s41 x48 q _ (fun v73=>J_j ?_) (a1,s41,1))
   refine zA (fun x74 h75=>?_)
   refine zA (fun x76 h77=>?_)
   refine J_g 29846 [] [(0,rr 0 v73.1),(3,iv v73.2)] [(0,rE 1 zI x76)] (zD 2 (zLu 42 2 1 0 zI (.tmp 54) (some (.tmp 55)) none h75) (zEC 3 (zN6 (l:=v73.2) (a:=0) 42 2 1 0 zI (.tmp 56) h77 (.keep rfl (.nil))) zB)) ?_
   refine zDH (σ':=St.mk' [(0,rr 0 x76),(3,iv v73.2)] [(0,rE 1 zI x76)]) (by simp only [rr,zHq h77]) ?_
   refine zA (fun x78 h79=>?_)
   refine J_g 59694 [] [(2,rr 1 x78)] [(1,rE 1 zI x78)] (zD 2 (zLk 42 2 1 0 1 zI (.tmp 57) none (some (.tmp 58)) h79) zB) ?_
   exact zBY (ds:=[rr 1 x78]) (ds':=[so 1 zI x78]) (.cons (.cell (.move (.head _) (List.length_map _) (by decide) (.nil))) (.nil) (by decide)) rfl
  ·refine J_d 467 [] [3,25] [(3,iv (w64 (s41+1)))] [] [] zB ?_
   exact J_q (J_b (ih (w64 (s41+1)))) rfl
 ·exact yP (hk ()) rfl
theorem xV.ok (a1:(List Int)):Ok Tryz.prog 180 [rr 0 a1] [rE 1 zI a1] ((xV a1).map fun r=>(so 1 zI r,[])):=by
 refine zH zLZ Tryz.f180 1 61 (fun q=>?_)
 unfold xV
 refine J_g 2 [] [(0,rr 0 a1)] [(0,rE 1 zI a1)] zB ?_
 refine J_d 12 [] [8] [(8,bv (decide ((a1.length:Int)<2)))] [] [] zB ?_
 refine zC 8 (fun h2=>?_) (fun h2=>?_)
 ·refine J_g 52 [] [(2,rr 0 a1)] [(0,rE 1 zI a1)] zB ?_
  exact zBY (ds:=[rr 0 a1]) (ds':=[so 1 zI a1]) (.cons (.cell (.move (.head _) (List.length_map _) (by decide) (.nil))) (.nil) (by decide)) rfl
 ·refine J_d 28 [] [3,8] [(3,iv 1)] [] [] zB ?_
  refine uN (K0:=(fun r:(List Int)=>some (so 1 zI r,[]))) (fun _=>rfl) (wI.ok a1 q _ (fun v80=>J_j ?_) 1)
  refine J_g 30 [] [(2,rr 0 a1)] [(0,rE 1 zI a1)] zB ?_
  exact zBY (ds:=[rr 0 a1]) (ds':=[so 1 zI a1]) (.cons (.cell (.move (.head _) (List.length_map _) (by decide) (.nil))) (.nil) (by decide)) rfl
noncomputable def c95:Code:=(Tryz.f95.body).getD .skip
theorem jF.ok (a1:zL) (a2:(List Int)):Ok Tryz.prog 95 [.ag (zL.enc false a1),sl 1 zI a2] [] ((jF a1 a2).map fun r=>(.tu [so 1 zI r.1,iv r.2],[])):=by
 refine zH c95 Tryz.f95 0 37 (fun q=>?_)
 unfold jF
 refine J_g 2 [(0,0)] [(1,sl 1 zI a2),(2,pp 0)] [(0,.box (zL.enc false a1))] zB ?_
 refine zA (fun x3 h4=>?_)
 refine J_g 6 [(2,2)] [(1,sl 1 zI a2),(2,pp 0),(6,pp 2)] [(0,.box (zL.enc false a1)),(1,rE 1 zI x3),(2,.box [rr 1 x3])] (zD 1 (uW («as»:=[.ag (zL.enc false a1)]) [(.tmp 10)] [27] false [] [] (.cons (.same rfl) (.nil)) (wL.ok a1) h4 (.own 1)) zB) ?_
 refine J_d 56 [] [12] [(12,bv (decide ((a2.length:Int)>40)))] [] [] zB ?_
 refine zC 12 (fun h5=>?_) (fun h5=>?_)
 ·refine J_g 228 [] [(4,nv),(5,iv 2)] [] zB ?_
  exact zBY (ds:=[nv,iv 2]) (ds':=[so 1 zI ([]:List Int),iv 2]) (.cons (.cell (.nilsl true 1 (.nil))) (.cons (.cell (.keep rfl (.nil))) (.nil) (by decide)) (by decide)) rfl
 ·refine zGj 2 (cs':=[so 1 zI x3]) (ts:=[1]) rfl (.move (.tail _ (.head _)) (List.length_map _) (by decide) (.nil)) ?_
  refine zFu [(1,sl 1 zI a2),(2,pp 0),(6,pp 2),(12,bv false)] [(0,.box (zL.enc false a1)),(2,.box [so 1 zI x3])] (by kernel_rfl) ?_
  refine zA (fun x6 h7=>?_)
  refine J_d 230 [] [6,12,16] [(16,bv x6)] [2] [] (zD 2 (zIE [(2,.box [so 1 zI x3])] [] (uW («as»:=[sl 1 zI a2,.fn 175 [pp 2]]) [(.tmp 17),(.tmp 18)] [42,202] false [(2,.box [so 1 zI x3])] [2] (.cons (.same rfl) (.cons (.fn (.cons (.pt rfl) (.nil))) (.nil))) (zQ.ok a2 x3) h7 (.same rfl rfl))) zB) ?_
  refine zC 16 (fun h8=>?_) (fun h8=>?_)
  ·refine J_g 924 [] [(4,nv),(5,iv 4)] [] zB ?_
   exact zBY (ds:=[nv,iv 4]) (ds':=[so 1 zI ([]:List Int),iv 4]) (.cons (.cell (.nilsl true 1 (.nil))) (.cons (.cell (.keep rfl (.nil))) (.nil) (by decide)) (by decide)) rfl
  ·refine zA (fun x9 h10=>?_)
   refine J_g 30 [] [(1,sl 1 zI a2),(7,iv x9.1),(8,iv x9.2)] [] (zD 1 (xE [(.tmp 21)] [27] (vT.ok a1) h10) zB) ?_
   refine J_d 124 [] [26] [(26,bv (x9.2 !=0))] [] [] zB ?_
   refine zC 26 (fun h11=>?_) (fun h11=>?_)
   ·refine J_g 500 [] [(4,nv),(5,iv x9.2)] [] zB ?_
    exact zBY (ds:=[nv,iv x9.2]) (ds':=[so 1 zI ([]:List Int),iv x9.2]) (.cons (.cell (.nilsl true 1 (.nil))) (.cons (.cell (.keep rfl (.nil))) (.nil) (by decide)) (by decide)) rfl
   ·refine zA (fun x12 h13=>?_)
    refine zA (fun x14 h15=>?_)
    refine J_g 126 [] [(9,rr 2 x14)] [(2,rE 1 zI x14)] (zD 1 (uW («as»:=[sl 1 zI a2]) [(.tmp 28)] [42] false [] [] (.cons (.same rfl) (.nil)) (vU.ok a2) h13 (.own 0)) (zD 3 (zDD 42 2 1 1 zI [x9.1] [0] [(.tmp 30)] [iv x9.1]) (zD 4 (zHE 42 42 2 2 1 8 2 0 1 zI (.tmp 29) (.tmp 31) h15) zB))) ?_
    refine zA (fun x16 h17=>?_)
    refine J_g 254 [] [(9,rr 2 x14)] [(2,rE 1 zI x16)] (zD 1 (uW («as»:=[rr 2 x14]) [(.tmp 33)] [42] false [(2,rE 1 zI x14)] [2] (.cons (.rf rfl) (.nil)) (xB.ok x14) h17 (.tu (.nil))) zB) ?_
    refine zA (fun u18 h19=>?_)
    refine zDH (σ':=St.mk' [(9,rr 2 x16)] [(2,rE 1 zI x16)]) (by simp only [rr,zBh h19]) ?_
    refine zA (fun x20 h21=>?_)
    refine J_g 510 [] [(4,rr 3 x20),(5,iv 0)] [(3,rE 1 zI x20)] (zD 1 (uW («as»:=[rr 2 x16]) [(.tmp 35)] [42] false [(2,rE 1 zI x16)] [2] (.cons (.rf rfl) (.nil)) (xV.ok x16) h21 (.own 3)) zB) ?_
    exact zBY (ds:=[rr 3 x20,iv 0]) (ds':=[so 1 zI x20,iv 0]) (.cons (.cell (.move (.head _) (List.length_map _) (by decide) (.nil))) (.cons (.cell (.keep rfl (.nil))) (.nil) (by decide)) (by decide)) rfl
theorem vZ.ok (a1 a2:Int):Ok Tryz.prog 215 [iv a1,iv a2] [] ((vZ a1 a2).map fun r=>(sv r,[])):=by
 unfold vZ
 split
 ·rename_i h
  obtain ⟨rfl,h0,h1⟩:=h
  exact zND (vs:=[.int .i64 a1,.int .i64 10]) (fun w hG=>Tryz.strconv_FormatInt_10 a1 h0 h1 w (zM0 (g:=1) hG (by kernel_rfl) (by kernel_rfl)))
 ·exact fun _ h=>by cases h
noncomputable def c138:Code:=(Tryz.f138.body).getD .skip
theorem zBk.ok (a1:Int):Ok Tryz.prog 138 [iv a1] [] ((zBk a1).map fun r=>(sv r,[])):=by
 refine zH c138 Tryz.f138 0 5 (fun q=>?_)
 unfold zBk
 refine J_g 2 [] [(0,iv a1)] [] zB ?_
 refine zA (fun x2 h3=>?_)
 refine J_g 6 [] [(2,sv x2)] [] (zD 1 (xE [(.tmp 3),(.const (.int .i64 10))] [2,3] (vZ.ok a1 10) h3) zB) ?_
 exact zT rfl
theorem strings_Repeat.ok (a1:ByteArray) (a2:Int):Ok Tryz.prog 198 [sv a1,iv a2] [] ((strings_Repeat a1 a2).map fun r=>(sv r,[])):=by
 unfold strings_Repeat
 split
 ·rename_i h
  obtain ⟨h0,h1,h2⟩:=h
  obtain ⟨n,rfl⟩:=Int.eq_ofNat_of_zero_le h0
  exact zMq (vs:=[.string a1,.int .i64 n]) (fun w=>Tryz.strings_Repeat a1 n w (by omega) h2)
 ·exact fun _ h=>by cases h
noncomputable def c116:Code:=(Tryz.f116.body).getD .skip
theorem zBR.ok (a1:Int):Ok Tryz.prog 116 [iv a1] [] ((zBR a1).map fun r=>(sv r,[])):=by
 refine zH c116 Tryz.f116 0 13 (fun q=>?_)
 unfold zBR
 refine J_g 2 [] [(0,iv a1)] [] zB ?_
 refine zA (fun x2 h3=>?_)
 refine J_g 6 [] [(3,sv x2)] [] (zD 1 (xE [(.tmp 4)] [2] (zBk.ok a1) h3) zB) ?_
 refine zA (fun x4 h5=>?_)
 refine zA (fun x6 h7=>?_)
 refine zA (fun x8 h9=>?_)
 refine J_g 14 [] [(2,sv x8)] [] (zD 3 (xE [(.const (.string (bs [48]))),(.tmp 8)] [9,3] (strings_Repeat.ok (bs [48]) (w64 (6-(x2.size:Int)))) h5) (zD 4 (zD8 9 9 (.const (.string (bs [103,101,110,47]))) (.tmp 9) h7) (zD 6 (zD8 9 9 (.tmp 10) (.tmp 11) h9) zB))) ?_
 exact zT rfl
theorem strings_Split.ok (a1 a2:ByteArray):Ok Tryz.prog 150 [sv a1,sv a2] [] ((strings_Split a1 a2).map fun r=>(so 1 eStr r,[])):=by
 unfold strings_Split
 split
 ·rename_i h
  refine zMf (t:=9) (fun w hG=>?_)
  obtain ⟨m,hm⟩:=zL1 (g:=0) hG (by kernel_rfl)
  rw [Lib.splitB_all a2 h.2 0 _ a1 rfl]
  exact Tryz.strings_Split a1 a2 m w h.1 hm h.2
 ·exact fun _ h=>by cases h
noncomputable def c146:Code:=(Tryz.f146.body).getD .skip
theorem zBJ.ok (a1:ByteArray):Ok Tryz.prog 146 [sv a1] [] ((zBJ a1).map fun r=>(so 1 eStr r,[])):=by
 refine zH c146 Tryz.f146 0 19 (fun q=>?_)
 unfold zBJ
 refine J_g 2 [] [(0,sv a1)] [] zB ?_
 refine zA (fun x2 h3=>?_)
 refine J_g 6 [] [(3,rr 0 x2)] [(0,rE 1 eStr x2)] (zD 1 (uW («as»:=[sv a1,sv (bs [10])]) [(.tmp 4),(.const (.string (bs [10])))] [9,9] false [] [] (.cons (.same rfl) (.cons (.same rfl) (.nil))) (strings_Split.ok a1 (bs [10])) h3 (.own 0)) zB) ?_
 refine zA (fun x4 h5=>?_)
 refine J_d 28 [] [12] [(12,bv (seq x4 (bs [])))] [] [] (zD 4 (uH (kk:=.i64) 70 9 1 0 eStr (.tmp 6) (.tmp 9) h5) (zD 5 (zAM (d:=sv x4) 9 1 0 0 eStr (.tmp 10) h5 (by kernel_rfl)) zB)) ?_
 refine xP (atI c146 15) (fun v9:(List ByteArray)=>St.mk' [(3,rr 1 v9)] [(1,rE 1 eStr v9)]) (fun v9=>?_) (fun jv9=>?_)
 ·refine J_g 30 [] [(2,rr 1 v9)] [(1,rE 1 eStr v9)] zB ?_
  exact zBY (ds:=[rr 1 v9]) (ds':=[so 1 eStr v9]) (.cons (.cell (.move (.head _) (List.length_map _) (by decide) (.nil))) (.nil) (by decide)) rfl
 ·refine zC 12 (fun h6=>?_) (fun h6=>?_)
  ·refine zA (fun x7 h8=>?_)
   refine J_g 58 [] [(3,rr 1 x7)] [(1,rE 1 eStr x7)] (zD 4 (zLk 70 9 1 0 1 eStr (.tmp 13) none (some (.tmp 16)) h8) zB) ?_
   exact yP (J_j (jv9 x7)) rfl
  ·refine zCD 0 1 (Nat.le_of_ble_eq_true rfl) (Nat.le_of_ble_eq_true rfl) ?_
   exact yP (J_j (jv9 x2)) rfl
noncomputable def zPy:Code:=(Tryz.f351.body).getD .skip
theorem uL.ok (a1:ByteArray):Ok Tryz.prog 351 [sv a1] [] ((uL a1).map fun r=>(bv r,[])):=by
 refine zH zPy Tryz.f351 0 5 (fun q=>?_)
 unfold uL
 refine J_g 2 [] [(0,sv a1)] [] zB ?_
 refine J_g 6 [] [(2,bv (seq a1 (bs [])))] [] zB ?_
 exact zT rfl
noncomputable def zOm:Code:=(Tryz.f349.body).getD .skip
theorem yR.ok (a1:(List ByteArray)) (q:Wd) (kn:Unit→Option (D×List Ent)) (hk:∀v:Unit,J (q.g Tryz.prog 349 0 19) zOm (atI zOm 7) (St.mk' [] []) (some v) kn):
  ∀s8:Int,J (q.g Tryz.prog 349 0 19) zOm (atI zOm 52) (St.mk' [(0,sl 1 eStr a1),(1,.fn 351 []),(7,iv (a1.length:Int)),(8,iv s8)] []) (yR a1 s8) (Fl.go (fun r:Int=>some (iv r,[])) kn):=by
 refine zA6 (fun g ih s8=>?_)
 unfold yI
 refine J_d 104 [] [9] [(9,bv (decide (s8< (a1.length:Int))))] [] [] zB ?_
 refine zC 9 (fun h9=>?_) (fun h9=>?_)
 ·refine J_d 1688 [] [5,9] [(5,iv s8)] [] [] zB ?_
  refine zA (fun x10 h11=>?_)
  refine zA (fun x12 h13=>?_)
  refine J_d 3378 [] [16] [(16,bv x12)] [] [] (zD 3 (zAt (kk:=.i64) 70 9 1 eStr (.tmp 12) (.tmp 13) h11) (zD 5 (zLT («as»:=[sv x10]) (caps:=[]) 11 [(.tmp 15)] [9] (uL.ok x10) h13) zB)) ?_
  refine zC 16 (fun h14=>?_) (fun h14=>?_)
  ·refine J_g 13516 [] [(4,iv s8)] [] zB ?_
   exact zT rfl
  ·refine J_d 423 [] [5,8,16] [(8,iv (w64 (s8+1)))] [] [] zB ?_
   exact J_q (J_b (ih (w64 (s8+1)))) rfl
 ·exact yP (hk ()) rfl
theorem yM.ok (a1:(List ByteArray)):Ok Tryz.prog 349 [sl 1 eStr a1,.fn 351 []] [] ((yM a1).map fun r=>(iv r,[])):=by
 refine zH zOm Tryz.f349 0 19 (fun q=>?_)
 unfold yM
 refine J_g 2 [] [(0,sl 1 eStr a1),(1,.fn 351 [])] [] zB ?_
 refine J_d 12 [] [7,8] [(7,iv (a1.length:Int)),(8,iv 0)] [] [] zB ?_
 refine uN (K0:=(fun r:Int=>some (iv r,[]))) (fun _=>rfl) (yR.ok a1 q _ (fun v15=>J_j ?_) 0)
 refine J_g 14 [] [(4,iv (-1))] [] zB ?_
 exact zT rfl
noncomputable def zNI:Code:=(Tryz.f350.body).getD .skip
theorem yO.ok (q:Wd) (kn:((List ByteArray)×Int)→Option (D×List Ent)) (hk:∀v:((List ByteArray)×Int),J (q.g Tryz.prog 350 1 42) zNI (atI zNI 31) (St.mk' [(0,rr 0 v.1),(5,iv v.2)] [(0,rE 1 eStr v.1)]) (some v) kn):
  ∀s14:((List ByteArray)×Int×Int),J (q.g Tryz.prog 350 1 42) zNI (atI zNI 244) (St.mk' [(0,rr 0 s14.1),(1,.fn 351 []),(5,iv s14.2.1),(6,iv s14.2.2)] [(0,rE 1 eStr s14.1)]) (yO s14) kn:=by
 refine zA6 (fun g ih s14=>?_)
 unfold yD
 refine J_d 976 [] [19] [(19,bv (decide (s14.2.2< (s14.1.length:Int))))] [] [] zB ?_
 refine zC 19 (fun h15=>?_) (fun h15=>?_)
 ·refine zA (fun x16 h17=>?_)
  refine J_d 3912 [] [7,19] [(7,sv x16)] [] [] (zD 2 (uH (kk:=.i64) 70 9 1 0 eStr (.tmp 22) (.tmp 23) h17) (zD 3 (zAM (d:=sv x16) 9 1 0 0 eStr (.tmp 24) h17 (by kernel_rfl)) zB)) ?_
  refine zA (fun x18 h19=>?_)
  refine J_d 7826 [] [29] [(29,bv (!x18))] [] [] (zD 2 (zLT («as»:=[sv x16]) (caps:=[]) 26 [(.tmp 27)] [9] (uL.ok x16) h19) zB) ?_
  refine xP (aft zNI 1956) (fun v23:((List ByteArray)×Int)=>St.mk' [(0,rr 0 v23.1),(1,.fn 351 []),(5,iv v23.2),(6,iv s14.2.2)] [(0,rE 1 eStr v23.1)]) (fun v23=>?_) (fun jv23=>?_)
  ·refine J_d 979 [] [6] [(6,iv (w64 (s14.2.2+1)))] [] [] zB ?_
   exact J_q (J_b (ih (v23.1,v23.2,w64 (s14.2.2+1)))) rfl
  ·refine zC 29 (fun h20=>?_) (fun h20=>?_)
   ·refine zA (fun x21 h22=>?_)
    refine J_g 31308 [] [(0,rr 0 s14.1),(1,.fn 351 []),(5,iv s14.2.1),(6,iv s14.2.2)] [(0,rE 1 eStr (s14.1.set s14.2.1.toNat x16))] (zD 3 (uH (kk:=.i64) 70 9 1 0 eStr (.tmp 30) (.tmp 31) h22) (zEC 4 (zFB (b:=x16) 9 1 0 0 eStr (sv x16) (.tmp 33) (.tmp 32) h22 rfl) zB)) ?_
    refine zDH (σ':=St.mk' [(0,rr 0 (s14.1.set s14.2.1.toNat x16)),(1,.fn 351 []),(5,iv s14.2.1),(6,iv s14.2.2)] [(0,rE 1 eStr (s14.1.set s14.2.1.toNat x16))]) (by simp only [rr,List.length_set]) ?_
    refine J_d 31309 [] [5] [(5,iv (w64 (s14.2.1+1)))] [] [] zB ?_
    exact yP (J_j (jv23 (s14.1.set s14.2.1.toNat x16,w64 (s14.2.1+1)))) rfl
   ·exact yP (J_j (jv23 (s14.1,s14.2.1))) rfl
 ·exact yP (hk (s14.1,s14.2.1)) rfl
theorem zY.ok (a1:(List ByteArray)):Ok Tryz.prog 350 [rr 0 a1,.fn 351 []] [rE 1 eStr a1] ((zY a1).map fun r=>(so 1 eStr r,[])):=by
 refine zH zNI Tryz.f350 1 42 (fun q=>?_)
 unfold zY
 refine J_d 2 [] [] [] [] [] zB ?_
 refine zA (fun x2 h3=>?_)
 refine J_g 6 [] [(0,rr 0 a1),(1,.fn 351 []),(5,iv x2)] [(0,rE 1 eStr a1)] (zD 2 (uW («as»:=[rr 0 a1,.fn 351 []]) [(.tmp 8),(.tmp 9)] [70,314] true [(0,rE 1 eStr a1)] [] (.cons (zDz (.head _) (fun _=>rfl) rfl) (.cons (.fn (.nil)) (.nil))) (yM.ok a1) h3 (.same rfl rfl) (hbor:=fun _=>⟨fhN,yH⟩)) zB) ?_
 refine J_d 28 [] [12] [(12,bv (x2==(-1)))] [] [] zB ?_
 refine zC 12 (fun h4=>?_) (fun h4=>?_)
 ·refine J_g 116 [] [(4,rr 0 a1)] [(0,rE 1 eStr a1)] zB ?_
  exact zBY (ds:=[rr 0 a1]) (ds':=[so 1 eStr a1]) (.cons (.cell (.move (.head _) (List.length_map _) (by decide) (.nil))) (.nil) (by decide)) rfl
 ·refine J_d 60 [] [6,12] [(6,iv (w64 (x2+1)))] [] [] zB ?_
  refine zEG (yO.ok q _ (fun v24=>J_j ?_) (a1,x2,w64 (x2+1)))
  refine zA (fun x25 h26=>?_)
  refine zA (fun x27 h28=>?_)
  refine J_g 62 [] [(0,rr 0 v24.1),(5,iv v24.2)] [(0,rE 1 eStr x27)] (zD 2 (zLu 70 9 1 0 eStr (.tmp 36) (some (.tmp 37)) none h26) (zEC 3 (zN6 (l:=v24.2) (a:=ByteArray.empty) 70 9 1 0 eStr (.tmp 38) h28 (.keep rfl (.nil))) zB)) ?_
  refine zDH (σ':=St.mk' [(0,rr 0 x27),(5,iv v24.2)] [(0,rE 1 eStr x27)]) (by simp only [rr,zHq h28]) ?_
  refine zA (fun x29 h30=>?_)
  refine J_g 126 [] [(4,rr 1 x29)] [(1,rE 1 eStr x29)] (zD 2 (zLk 70 9 1 0 1 eStr (.tmp 39) none (some (.tmp 40)) h30) zB) ?_
  exact zBY (ds:=[rr 1 x29]) (ds':=[so 1 eStr x29]) (.cons (.cell (.move (.head _) (List.length_map _) (by decide) (.nil))) (.nil) (by decide)) rfl
noncomputable def zPQ:Code:=(Tryz.f329.body).getD .skip
theorem zBH.ok (a1:ByteArray):Ok Tryz.prog 329 [sv a1] [] ((zBH a1).map fun r=>(so 1 eStr r,[])):=by
 refine zH zPQ Tryz.f329 0 6 (fun q=>?_)
 unfold zBH
 refine J_g 2 [] [(0,sv a1)] [] zB ?_
 refine zA (fun x2 h3=>?_)
 refine zA (fun x4 h5=>?_)
 refine J_g 6 [] [(2,rr 1 x4)] [(1,rE 1 eStr x4)] (zD 1 (uW («as»:=[sv a1,sv (bs [32])]) [(.tmp 3),(.const (.string (bs [32])))] [9,9] false [] [] (.cons (.same rfl) (.cons (.same rfl) (.nil))) (strings_Split.ok a1 (bs [32])) h3 (.own 0)) (zD 2 (uW («as»:=[rr 0 x2,.fn 351 []]) [(.tmp 4),(.func 351)] [70,314] false [(0,rE 1 eStr x2)] [0] (.cons (.rf rfl) (.cons (.fn (.nil)) (.nil))) (zY.ok x2) h5 (.own 1)) zB)) ?_
 exact zBY (ds:=[rr 1 x4]) (ds':=[so 1 eStr x4]) (.cons (.cell (.move (.head _) (List.length_map _) (by decide) (.nil))) (.nil) (by decide)) rfl
noncomputable def c227:Code:=(Tryz.f227.body).getD .skip
theorem tN.ok (x2:(List ByteArray)) (q:Wd) (kn:(List Int)→Option (D×List Ent)) (hk:∀v:(List Int),J (q.g Tryz.prog 227 0 39) c227 (atI c227 63) (St.mk' [(2,pp 0),(4,pp 2)] [(0,.box [iv 0,iv 0,iv 0,iv 0]),(2,rE 1 zI v)]) (some v) kn):
  ∀s15:((List Int)×Int),J (q.g Tryz.prog 227 0 39) c227 (atI c227 500) (St.mk' [(2,pp 0),(4,pp 2),(14,rr 1 x2),(15,iv (x2.length:Int)),(16,iv s15.2)] [(0,.box [iv 0,iv 0,iv 0,iv 0]),(1,rE 1 eStr x2),(2,rE 1 zI s15.1)]) (tN x2 s15) (Fl.go (fun r:zO=>some (.ag (zO.enc r),[])) kn):=by
 refine zA6 (fun g ih s15=>?_)
 unfold uO
 refine J_d 1000 [] [17] [(17,bv (decide (s15.2< (x2.length:Int))))] [] [] zB ?_
 refine zC 17 (fun h16=>?_) (fun h16=>?_)
 ·refine zA (fun x17 h18=>?_)
  refine J_d 16024 [] [5,6,17] [(5,iv s15.2),(6,sv x17)] [] [] (zD 1 (uH (kk:=.i64) 70 9 1 1 eStr (.tmp 14) (.tmp 16) h18) (zD 2 (zAM (d:=sv x17) 9 1 1 0 eStr (.tmp 19) h18 (by kernel_rfl)) zB)) ?_
  refine zA (fun x19 h20=>?_)
  refine zA (fun x21 h22=>?_)
  refine J_d 32050 [] [6] [] [2] [(2,rE 1 zI (s15.1.set s15.2.toNat x19))] (zD 2 (xE [(.tmp 22),(.const (.int .i64 3))] [9,3] (kL.ok x17 3) h20) (zD 3 (zLA (kk:=.i64) 273 2 1 2 zI (.tmp 4) (.tmp 21) 3 h22) (zEC 4 (zFB (b:=x19) 2 1 2 0 zI (iv x19) (.tmp 24) (.tmp 23) (zFb h22) rfl) zB))) ?_
  refine zA (fun x23 h24=>?_)
  refine J_d 64102 [] [5,28] [(28,bv (decide (x23<0)))] [] [] (zD 1 (zLA (kk:=.i64) 273 2 1 2 zI (.tmp 4) (.tmp 25) 3 h24) (zD 2 (zAM (d:=iv x23) 2 1 2 0 zI (.tmp 26) (zFb h24) (by kernel_rfl)) zB)) ?_
  refine zC 28 (fun h25=>?_) (fun h25=>?_)
  ·refine J_g 256412 [] [(2,pp 0)] [(0,.box [iv 5,iv 0,iv 0,iv 0])] zB ?_
   exact zT rfl
  ·refine J_d 4007 [] [16,28] [(16,iv (w64 (s15.2+1)))] [] [] zB ?_
   exact J_q (J_b (ih (s15.1.set s15.2.toNat x19,w64 (s15.2+1)))) rfl
 ·exact yP (hk s15.1) rfl
theorem uI.ok (a1:ByteArray):Ok Tryz.prog 227 [sv a1] [] ((uI a1).map fun r=>(.ag (zO.enc r),[])):=by
 refine zH c227 Tryz.f227 0 39 (fun q=>?_)
 unfold uI
 refine J_g 2 [(0,0)] [(0,sv a1),(2,pp 0)] [(0,.box [iv 0,iv 0,iv 0,iv 0])] zB ?_
 refine zA (fun x2 h3=>?_)
 refine J_g 6 [] [(2,pp 0),(3,rr 1 x2)] [(0,.box [iv 0,iv 0,iv 0,iv 0]),(1,rE 1 eStr x2)] (zD 1 (uW («as»:=[sv a1,sv (bs [46])]) [(.tmp 7),(.const (.string (bs [46])))] [9,9] false [] [] (.cons (.same rfl) (.cons (.same rfl) (.nil))) (strings_Split.ok a1 (bs [46])) h3 (.own 1)) zB) ?_
 refine J_g 14 [(1,2)] [(2,pp 0),(3,rr 1 x2),(4,pp 2)] [(0,.box [iv 0,iv 0,iv 0,iv 0]),(1,rE 1 eStr x2),(2,.box [iv 0,iv 0,iv 0])] (zD 0 (zMu 273 [.int .i64 0,.int .i64 0,.int .i64 0]) zB) ?_
 refine zFu [(2,pp 0),(3,rr 1 x2),(4,pp 2)] [(2,.box [iv 0,iv 0,iv 0]),(0,.box [iv 0,iv 0,iv 0,iv 0]),(1,rE 1 eStr x2)] (by kernel_rfl) ?_
 refine zMC 2 (z:=1) (xs:=([0,0,0]:(List Int)).map zI) (by kernel_rfl) (by kernel_rfl) (by kernel_rfl) (by kernel_rfl) rfl ?_
 refine zFu [(2,pp 0),(3,rr 1 x2),(4,pp 2)] [(0,.box [iv 0,iv 0,iv 0,iv 0]),(1,rE 1 eStr x2),(2,rE 1 zI ([0,0,0]:(List Int)))] (by kernel_rfl) ?_
 refine J_d 60 [] [12] [(12,bv (decide ((x2.length:Int)>3)))] [] [] zB ?_
 refine zC 12 (fun h4=>?_) (fun h4=>?_)
 ·refine J_g 244 [] [(2,pp 0)] [(0,.box [iv 5,iv 0,iv 0,iv 0])] zB ?_
  exact zT rfl
 ·refine J_d 124 [] [3,12,14,15,16] [(14,rr 1 x2),(15,iv (x2.length:Int)),(16,iv 0)] [] [] zB ?_
  refine uN (K0:=(fun r:zO=>some (.ag (zO.enc r),[]))) (fun _=>rfl) (tN.ok x2 q _ (fun v26=>J_j ?_) (([0,0,0]:(List Int)),0))
  refine zA (fun x27 h28=>?_)
  refine zA (fun x29 h30=>?_)
  refine zA (fun x31 h32=>?_)
  refine J_g 126 [] [(2,pp 0)] [(0,.box [iv 0,iv x27,iv x29,iv x31])] (zD 0 (zLA (kk:=.i64) 273 2 1 2 zI (.tmp 4) (.const (.int .i64 0)) 3 h28) (zD 1 (zAM (d:=iv x27) 2 1 2 0 zI (.tmp 31) (zFb h28) (by kernel_rfl)) (zD 2 (zLA (kk:=.i64) 273 2 1 2 zI (.tmp 4) (.const (.int .i64 1)) 3 h30) (zD 3 (zAM (d:=iv x29) 2 1 2 0 zI (.tmp 33) (zFb h30) (by kernel_rfl)) (zD 4 (zLA (kk:=.i64) 273 2 1 2 zI (.tmp 4) (.const (.int .i64 2)) 3 h32) (zD 5 (zAM (d:=iv x31) 2 1 2 0 zI (.tmp 35) (zFb h32) (by kernel_rfl)) zB)))))) ?_
  exact zT rfl
noncomputable def zPN:Code:=(Tryz.f149.body).getD .skip
theorem zAF.ok (a1:(List Pack)) (a2:(List ByteArray)):Ok Tryz.prog 149 [sl 8 (Pack.enc false) a1,sl 1 eStr a2] [] ((zAF a1 a2).map fun r=>(iv r,[])):=by
 refine zH zPN Tryz.f149 0 23 (fun q=>?_)
 unfold zAF
 refine J_g 2 [] [(0,sl 8 (Pack.enc false) a1),(1,sl 1 eStr a2)] [] zB ?_
 refine J_d 12 [] [8] [(8,bv ((a2.length:Int) !=2))] [] [] zB ?_
 refine zC 8 (fun h3=>?_) (fun h3=>?_)
 ·refine J_g 52 [] [(4,iv (-1))] [] zB ?_
  exact zT rfl
 ·refine zA (fun x4 h5=>?_)
  refine zA (fun x6 h7=>?_)
  refine J_g 14 [(4,0)] [(0,sl 8 (Pack.enc false) a1),(1,sl 1 eStr a2),(5,pp 0)] [(0,.box (zO.enc x6))] (zD 1 (zAt (kk:=.i64) 70 9 1 eStr (.tmp 9) (.const (.int .i64 1)) h5) (zD 3 (xE [(.tmp 11)] [9] (uI.ok x4) h7) zB)) ?_
  refine J_d 60 [] [15] [(15,bv (x6.Code !=0))] [] [] zB ?_
  refine zC 15 (fun h8=>?_) (fun h8=>?_)
  ·refine J_g 244 [] [(4,iv (-1))] [] zB ?_
   exact zT rfl
  ·refine zA (fun x9 h10=>?_)
   refine zA (fun x11 h12=>?_)
   refine J_g 62 [] [(4,iv x11)] [] (zD 2 (zAt (kk:=.i64) 70 9 1 eStr (.tmp 17) (.const (.int .i64 0)) h10) (zD 6 (xE [(.tmp 16),(.tmp 19),(.tmp 21)] [24,9,86] (zCb.ok a1 x9 x6.Version) h12) zB)) ?_
   exact zT rfl
noncomputable def zNN:Code:=(Tryz.f293.body).getD .skip
theorem zAZ.ok (a1:(List Pack)) (x7:(List ByteArray)) (q:Wd) (kn:(List Int)→Option (D×List Ent)) (hk:∀v:(List Int),J (q.g Tryz.prog 293 0 51) zNN (atI zNN 63) (St.mk' [(4,pp 0),(6,rr 1 v)] [(0,.box [iv 0,iv 0,nv]),(1,rE 1 zI v)]) (some v) kn):
  ∀s23:((List Int)×Int),J (q.g Tryz.prog 293 0 51) zNN (atI zNN 500) (St.mk' [(0,sl 8 (Pack.enc false) a1),(4,pp 0),(6,rr 1 s23.1),(22,rr 2 x7),(23,iv (x7.length:Int)),(24,iv s23.2)] [(0,.box [iv 0,iv 0,nv]),(1,rE 1 zI s23.1),(2,rE 1 eStr x7)]) (zAZ a1 x7 s23) (Fl.go (fun r:yE=>some (.ag [iv r.Code,iv r.At,so 1 zI r.Set],[])) kn):=by
 refine zA6 (fun g ih s23=>?_)
 unfold jR
 refine J_d 1000 [] [25] [(25,bv (decide (s23.2< (x7.length:Int))))] [] [] zB ?_
 refine zC 25 (fun h24=>?_) (fun h24=>?_)
 ·refine zA (fun x25 h26=>?_)
  refine J_d 16024 [] [7,8,25] [(7,iv s23.2),(8,sv x25)] [] [] (zD 1 (uH (kk:=.i64) 70 9 1 2 eStr (.tmp 22) (.tmp 24) h26) (zD 2 (zAM (d:=sv x25) 9 1 2 0 eStr (.tmp 27) h26 (by kernel_rfl)) zB)) ?_
  refine zA (fun x27 h28=>?_)
  refine zA (fun x29 h30=>?_)
  refine J_d 32050 [] [8,9] [(9,iv x29)] [] [] (zD 2 (uW («as»:=[sv x25]) [(.tmp 30)] [9] false [] [] (.cons (.same rfl) (.nil)) (zBH.ok x25) h28 (.own 3)) (zD 3 (uW («as»:=[sl 8 (Pack.enc false) a1,rr 3 x27]) [(.tmp 29),(.tmp 31)] [24,70] true [(3,rE 1 eStr x27)] [] (.cons (.same rfl) (.cons (zDz (.head _) (fun _=>rfl) rfl) (.nil))) (zAF.ok a1 x27) h30 (.same rfl rfl) (hbor:=fun _=>⟨fhN,yH⟩)) zB)) ?_
  refine xP (atI zNN 128205) (fun v34:Bool=>St.mk' [(0,sl 8 (Pack.enc false) a1),(4,pp 0),(6,rr 1 s23.1),(7,iv s23.2),(9,iv x29),(22,rr 2 x7),(23,iv (x7.length:Int)),(24,iv s23.2),(39,bv v34)] [(0,.box [iv 0,iv 0,nv]),(1,rE 1 zI s23.1),(2,rE 1 eStr x7)]) (fun v34=>?_) (fun jv34=>?_)
  ·refine zC 39 (fun h35=>?_) (fun h35=>?_)
   ·refine J_g 512820 [] [(4,pp 0)] [(0,.box [iv 5,iv s23.2,nv])] zB ?_
    exact zBY (ds:=[.ag [iv 5,iv s23.2,nv]]) (ds':=[.ag [iv 5,iv s23.2,so 1 zI ([]:List Int)]]) (.cons (.ag (.keep rfl (.keep rfl (.nilsl true 1 (.nil))))) (.nil) (by decide)) rfl
   ·refine zA (fun x36 h37=>?_)
    refine J_g 64103 [] [(0,sl 8 (Pack.enc false) a1),(4,pp 0),(6,rr 4 x36),(22,rr 2 x7),(23,iv (x7.length:Int)),(24,iv s23.2)] [(0,.box [iv 0,iv 0,nv]),(2,rE 1 eStr x7),(4,rE 1 zI x36)] (zD 2 (zDD 42 2 1 3 zI [x29] [0] [(.tmp 43)] [iv x29]) (zD 3 (zHE 42 42 2 2 1 8 4 1 3 zI (.tmp 42) (.tmp 44) h37) zB)) ?_
    refine J_d 4007 [] [24] [(24,iv (w64 (s23.2+1)))] [] [] zB ?_
    refine zCD 4 1 (Nat.le_of_ble_eq_true rfl) (Nat.le_of_ble_eq_true rfl) ?_
    exact J_q (J_b (ih (x36,w64 (s23.2+1)))) rfl
  ·refine wR (fun h31=>?_) (fun h31=>?_)
   ·refine J_d 128204 [] [39] [(39,bv true)] [] [] (xW 2 [(34,bv (decide (x29<0)))] [] h31 zB) ?_
    exact yP (J_j (jv34 true)) rfl
   ·refine zA (fun x32 h33=>?_)
    refine J_d 128204 [] [39] [(39,bv x32)] [] [] (xW 2 [(34,bv (decide (x29<0)))] [] h31 (zDk 5 2 35 false (uW («as»:=[rr 1 s23.1,iv x29]) [(.tmp 36),(.tmp 37)] [42,2] true [(1,rE 1 zI s23.1)] [] (.cons (zDz (.head _) (fun _=>rfl) rfl) (.cons (.same rfl) (.nil))) (zZ.ok s23.1 x29) h33 (.same rfl rfl) (hbor:=fun _=>⟨fhN,yH⟩)) zB)) ?_
    exact yP (J_j (jv34 x32)) rfl
 ·exact yP (hk s23.1) rfl
theorem zAJ.ok (a1:(List Pack)) (a2:ByteArray):Ok Tryz.prog 293 [sl 8 (Pack.enc false) a1,sv a2] [] ((zAJ a1 a2).map fun r=>(.ag [iv r.Code,iv r.At,so 1 zI r.Set],[])):=by
 refine zH zNN Tryz.f293 0 51 (fun q=>?_)
 unfold zAJ
 refine J_d 2 [(0,0)] [4] [(4,pp 0)] [0] [(0,.box [iv 0,iv 0,nv])] zB ?_
 refine zA (fun x3 h4=>?_)
 refine J_g 12 [] [(0,sl 8 (Pack.enc false) a1),(1,sv a2),(4,pp 0),(5,iv x3)] [(0,.box [iv 0,iv 0,nv])] (zD 1 (xE [(.tmp 10)] [24] (wC.ok a1) h4) zB) ?_
 refine J_d 26 [] [13] [(13,bv (x3 !=0))] [] [] zB ?_
 refine zC 13 (fun h5=>?_) (fun h5=>?_)
 ·refine J_g 108 [] [(4,pp 0)] [(0,.box [iv x3,iv 0,nv])] zB ?_
  exact zBY (ds:=[.ag [iv x3,iv 0,nv]]) (ds':=[.ag [iv x3,iv 0,so 1 zI ([]:List Int)]]) (.cons (.ag (.keep rfl (.keep rfl (.nilsl true 1 (.nil))))) (.nil) (by decide)) rfl
 ·refine J_d 28 [] [5,13,18] [(18,bv (decide ((a2.size:Int)>4000)))] [] [] zB ?_
  refine zC 18 (fun h6=>?_) (fun h6=>?_)
  ·refine J_g 116 [] [(4,pp 0)] [(0,.box [iv 2,iv 0,nv])] zB ?_
   exact zBY (ds:=[.ag [iv 2,iv 0,nv]]) (ds':=[.ag [iv 2,iv 0,so 1 zI ([]:List Int)]]) (.cons (.ag (.keep rfl (.keep rfl (.nilsl true 1 (.nil))))) (.nil) (by decide)) rfl
  ·refine J_d 30 [] [6,18] [(6,rr 1 ([]:List Int))] [1] [(1,rE 1 zI ([]:List Int))] (zD 0 (zDD 42 2 1 1 zI ([]:List Int) [] [] []) zB) ?_
   refine zA (fun x7 h8=>?_)
   refine J_d 124 [] [1,22,23,24] [(22,rr 2 x7),(23,iv (x7.length:Int)),(24,iv 0)] [2] [(2,rE 1 eStr x7)] (zD 1 (uW («as»:=[sv a2]) [(.tmp 21)] [9] false [] [] (.cons (.same rfl) (.nil)) (zBJ.ok a2) h8 (.own 2)) zB) ?_
   refine uN (K0:=(fun r:yE=>some (.ag [iv r.Code,iv r.At,so 1 zI r.Set],[]))) (fun _=>rfl) (zAZ.ok a1 x7 q _ (fun v38=>J_j ?_) (([]:List Int),0))
   refine zA (fun x39 h40=>?_)
   refine J_g 126 [] [(4,pp 0),(6,rr 1 v38)] [(0,.box [iv 0,iv 0,nv]),(1,rE 1 zI x39)] (zD 1 (uW («as»:=[rr 1 v38]) [(.tmp 47)] [42] false [(1,rE 1 zI v38)] [1] (.cons (.rf rfl) (.nil)) (xB.ok v38) h40 (.tu (.nil))) zB) ?_
   refine zA (fun u41 h42=>?_)
   refine zDH (σ':=St.mk' [(4,pp 0),(6,rr 1 x39)] [(0,.box [iv 0,iv 0,nv]),(1,rE 1 zI x39)]) (by simp only [rr,zBh h42]) ?_
   refine J_g 254 [] [(4,pp 0)] [(0,.box [iv 0,iv 0,rr 1 x39]),(1,rE 1 zI x39)] zB ?_
   exact zBY (ds:=[.ag [iv 0,iv 0,rr 1 x39]]) (ds':=[.ag [iv 0,iv 0,so 1 zI x39]]) (.cons (.ag (.keep rfl (.keep rfl (.move (.tail _ (.head _)) (List.length_map _) (by decide) (.nil))))) (.nil) (by decide)) rfl
noncomputable def zPW:Code:=(Tryz.f247.body).getD .skip
theorem zCQ.ok (a1:(List Pack)) (a2:zL) (a3:Int):Ok Tryz.prog 247 [sl 8 (Pack.enc false) a1,.ag (zL.enc false a2),iv a3] [] ((zCQ a1 a2 a3).map fun r=>(.tu [so 1 zI r.1,iv r.2],[])):=by
 refine zH zPW Tryz.f247 0 31 (fun q=>?_)
 unfold zCQ
 refine J_d 2 [(0,0)] [1,4] [(4,pp 0)] [0] [(0,.box (zL.enc false a2))] zB ?_
 refine zA (fun x4 h5=>?_)
 refine zA (fun x6 h7=>?_)
 refine J_d 12 [] [15] [(15,bv (!x6))] [] [] (zD 1 (uW («as»:=[.ag (zL.enc false a2)]) [(.tmp 11)] [27] false [] [] (.cons (.same rfl) (.nil)) (wL.ok a2) h5 (.own 1)) (zD 3 (uW («as»:=[rr 1 x4,iv a3]) [(.tmp 12),(.tmp 13)] [42,2] true [(1,rE 1 zI x4)] [] (.cons (zDz (.head _) (fun _=>rfl) rfl) (.cons (.same rfl) (.nil))) (zZ.ok x4 a3) h7 (.same rfl rfl) (hbor:=fun _=>⟨fhN,yH⟩)) zB)) ?_
 refine zC 15 (fun h8=>?_) (fun h8=>?_)
 ·refine J_g 52 [] [(6,nv),(7,iv 4)] [] zB ?_
  exact zBY (ds:=[nv,iv 4]) (ds':=[so 1 zI ([]:List Int),iv 4]) (.cons (.cell (.nilsl true 1 (.nil))) (.cons (.cell (.keep rfl (.nil))) (.nil) (by decide)) (by decide)) rfl
 ·refine zA (fun x9 h10=>?_)
  refine zA (fun x11 h12=>?_)
  refine J_d 14 [] [2,4,8,15] [(8,sl 1 eU8 x11.1)] [0] [] (zD 2 (xE [(.tmp 18)] [2] (zBR.ok a3) h10) (zD 3 (xE [(.tmp 17),(.tmp 19)] [27,9] (yU.ok a2 x9) h12) zB)) ?_
  refine zA (fun x13 h14=>?_)
  refine J_g 30 [(4,1)] [(10,pp 1)] [(0,rE 1 zI x13.Set),(1,.box [iv x13.Code,iv x13.At,rr 0 x13.Set])] (zD 2 (zMj (xs:=x11.1) 111 9 5 (.tmp 24)) (zD 3 (uW («as»:=[sl 8 (Pack.enc false) a1,sv (b2s x11.1)]) [(.tmp 23),(.tmp 25)] [24,9] false [] [] (.cons (.same rfl) (.cons (.same rfl) (.nil))) (zAJ.ok a1 (b2s x11.1)) h14 (.ag (.cons (.same rfl rfl) (.cons (.same rfl rfl) (.cons (.own 0) (.nil)))))) zB)) ?_
  refine J_g 62 [] [(6,rr 0 x13.Set),(7,iv x13.Code)] [(0,rE 1 zI x13.Set)] zB ?_
  exact zBY (ds:=[rr 0 x13.Set,iv x13.Code]) (ds':=[so 1 zI x13.Set,iv x13.Code]) (.cons (.cell (.move (.head _) (List.length_map _) (by decide) (.nil))) (.cons (.cell (.keep rfl (.nil))) (.nil) (by decide)) (by decide)) rfl
noncomputable def c213:Code:=(Tryz.f213.body).getD .skip
theorem vY.ok (a1:Version):Ok Tryz.prog 213 [.ag (Version.enc a1)] [] ((vY a1).map fun r=>(sv r,[])):=by
 refine zH c213 Tryz.f213 0 16 (fun q=>?_)
 unfold vY
 refine J_g 2 [(0,0)] [(1,pp 0)] [(0,.box (Version.enc a1))] zB ?_
 refine zA (fun x2 h3=>?_)
 refine zA (fun x4 h5=>?_)
 refine zA (fun x6 h7=>?_)
 refine zA (fun x8 h9=>?_)
 refine zA (fun x10 h11=>?_)
 refine zA (fun x12 h13=>?_)
 refine zA (fun x14 h15=>?_)
 refine J_g 6 [] [(2,sv x14)] [] (zD 2 (xE [(.tmp 4)] [2] (zBk.ok a1.A) h3) (zD 3 (zD8 9 9 (.tmp 5) (.const (.string (bs [46]))) h5) (zD 6 (xE [(.tmp 8)] [2] (zBk.ok a1.B) h7) (zD 7 (zD8 9 9 (.tmp 6) (.tmp 9) h9) (zD 8 (zD8 9 9 (.tmp 10) (.const (.string (bs [46]))) h11) (zD 11 (xE [(.tmp 13)] [2] (zBk.ok a1.C) h13) (zD 12 (zD8 9 9 (.tmp 11) (.tmp 14) h15) zB))))))) ?_
 exact zT rfl
noncomputable def zQg:Code:=(Tryz.f135.body).getD .skip
theorem zAq.ok (a1:Pack):Ok Tryz.prog 135 [.ag (Pack.enc false a1)] [] ((zAq a1).map fun r=>(sv r,[])):=by
 refine zH zQg Tryz.f135 0 11 (fun q=>?_)
 unfold zAq
 refine J_g 2 [(0,0)] [(1,pp 0)] [(0,.box (Pack.enc false a1))] zB ?_
 refine zA (fun x2 h3=>?_)
 refine zA (fun x4 h5=>?_)
 refine zA (fun x6 h7=>?_)
 refine zA (fun x8 h9=>?_)
 refine J_g 6 [] [(2,sv x8)] [] (zD 2 (zD8 9 9 (.const (.string (bs [112,107,103,47]))) (.tmp 4) h3) (zD 3 (zD8 9 9 (.tmp 5) (.const (.string (bs [45]))) h5) (zD 6 (xE [(.tmp 8)] [86] (vY.ok a1.Version) h7) (zD 7 (zD8 9 9 (.tmp 6) (.tmp 9) h9) zB)))) ?_
 exact zT rfl
theorem wF.ok (a1:List ByteArray):Ok Tryz.prog 294 [rr 0 a1] [rE 1 eStr a1] ((wF a1).map fun r=>(.tu [],[rE 1 eStr r])):=by
 unfold wF
 split
 ·refine zMB (fun blk off cap w hH hb=>?_) (fun p cap w=>Tryz.slices_Sort_string_none p cap w)
  have k:=Tryz.slices_Sort_string blk off cap (a1.map (·.data.toList)) w hH hb (by rw [List.length_map]; omega)
  rw [List.length_map] at k
  exact k
 ·exact fun _ h=>by cases h
noncomputable def zLX:Code:=(Tryz.f295.body).getD .skip
theorem xK.ok (s41:Int) (x48:(List ByteArray)) (q:Wd) (kn:((List ByteArray)×Int)→Option (D×List Ent)) (hk:∀v:((List ByteArray)×Int),J (q.g Tryz.prog 295 1 61) zLX (atI zLX 14923) (St.mk' [(0,rr 0 v.1),(3,iv v.2)] [(0,rE 1 eStr v.1)]) (some v) kn):
  ∀s61:((List ByteArray)×Int×Int),J (q.g Tryz.prog 295 1 61) zLX (atI zLX 119380) (St.mk' [(0,rr 0 s61.1),(3,iv s61.2.1),(4,.sub 0 s41.toNat x48.length),(5,iv s61.2.2)] [(0,rE 1 eStr s61.1)]) (xK s41 x48 s61) kn:=by
 refine zA6 (fun g ih s61=>?_)
 unfold xY
 refine J_d 477520 [] [32] [(32,bv (decide (s61.2.2< (x48.length:Int))))] [] [] (zD 2 (zML 70 9 0 s41.toNat x48.length (.tmp 30)) zB) ?_
 refine zC 32 (fun h62=>?_) (fun h62=>?_)
 ·refine zA (fun x63 h64=>?_)
  refine zA (fun x65 h66=>?_)
  refine J_d 1910088 [] [32,44] [(44,bv (!(seq x63 x65)))] [] [] (zD 2 (zKD (kk:=.i64) 70 9 1 0 eStr (.tmp 35) (.tmp 36) h64) (zD 3 (zAM (d:=sv x63) 9 1 0 0 eStr (.tmp 37) (zEm h64) (by kernel_rfl)) (zD 7 (zKD (kk:=.i64) 70 9 1 0 eStr (.tmp 39) (.tmp 41) h66) (zD 8 (zAM (d:=sv x65) 9 1 0 0 eStr (.tmp 42) (zEm h66) (by kernel_rfl)) zB)))) ?_
  refine xP (aft zLX 955044) (fun v72:((List ByteArray)×Int)=>St.mk' [(0,rr 0 v72.1),(3,iv v72.2),(4,.sub 0 s41.toNat x48.length),(5,iv s61.2.2)] [(0,rE 1 eStr v72.1)]) (fun v72=>?_) (fun jv72=>?_)
  ·refine J_d 477523 [] [5] [(5,iv (w64 (s61.2.2+1)))] [] [] zB ?_
   exact J_q (J_b (ih (v72.1,v72.2,w64 (s61.2.2+1)))) rfl
  ·refine zC 44 (fun h67=>?_) (fun h67=>?_)
   ·refine zA (fun x68 h69=>?_)
    refine zA (fun x70 h71=>?_)
    refine J_g 7640356 [] [(0,rr 0 s61.1),(3,iv s61.2.1),(4,.sub 0 s41.toNat x48.length),(5,iv s61.2.2)] [(0,rE 1 eStr (s61.1.set s61.2.1.toNat x68))] (zD 4 (zKD (kk:=.i64) 70 9 1 0 eStr (.tmp 47) (.tmp 48) h69) (zD 5 (zAM (d:=sv x68) 9 1 0 0 eStr (.tmp 49) (zEm h69) (by kernel_rfl)) (zD 6 (uH (kk:=.i64) 70 9 1 0 eStr (.tmp 45) (.tmp 46) h71) (zEC 7 (zFB (b:=x68) 9 1 0 0 eStr (sv x68) (.tmp 51) (.tmp 50) h71 rfl) zB)))) ?_
    refine zDH (σ':=St.mk' [(0,rr 0 (s61.1.set s61.2.1.toNat x68)),(3,iv s61.2.1),(4,.sub 0 s41.toNat x48.length),(5,iv s61.2.2)] [(0,rE 1 eStr (s61.1.set s61.2.1.toNat x68))]) (by simp only [rr,List.length_set]) ?_
    refine J_d 7640357 [] [3] [(3,iv (w64 (s61.2.1+1)))] [] [] zB ?_
    exact yP (J_j (jv72 (s61.1.set s61.2.1.toNat x68,w64 (s61.2.1+1)))) rfl
   ·exact yP (J_j (jv72 (s61.1,s61.2.1))) rfl
 ·exact yP (hk (s61.1,s61.2.1)) rfl
theorem wE.ok (a1:(List ByteArray)) (q:Wd) (kn:Unit→Option (D×List Ent)) (hk:∀v:Unit,J (q.g Tryz.prog 295 1 61) zLX (atI zLX 15) (St.mk' [(0,rr 0 a1)] [(0,rE 1 eStr a1)]) (some v) kn):
  ∀s41:Int,J (q.g Tryz.prog 295 1 61) zLX (atI zLX 116) (St.mk' [(0,rr 0 a1),(3,iv s41)] [(0,rE 1 eStr a1)]) (wE a1 s41) (Fl.go (fun r:(List ByteArray)=>some (so 1 eStr r,[])) kn):=by
 refine zA6 (fun g ih s41=>?_)
 unfold yS
 refine J_d 464 [] [13] [(13,bv (decide (s41< (a1.length:Int))))] [] [] zB ?_
 refine zC 13 (fun h42=>?_) (fun h42=>?_)
 ·refine zA (fun x43 h44=>?_)
  refine zA (fun x45 h46=>?_)
  refine J_d 1864 [] [13,25] [(25,bv (seq x43 x45))] [] [] (zD 2 (uH (kk:=.i64) 70 9 1 0 eStr (.tmp 16) (.tmp 17) h44) (zD 3 (zAM (d:=sv x43) 9 1 0 0 eStr (.tmp 18) h44 (by kernel_rfl)) (zD 7 (uH (kk:=.i64) 70 9 1 0 eStr (.tmp 20) (.tmp 22) h46) (zD 8 (zAM (d:=sv x45) 9 1 0 0 eStr (.tmp 23) h46 (by kernel_rfl)) zB)))) ?_
  refine zC 25 (fun h47=>?_) (fun h47=>?_)
  ·refine zA (fun x48 h49=>?_)
   refine J_g 7460 [] [(0,rr 0 a1),(3,iv s41),(4,.sub 0 s41.toNat x48.length)] [(0,rE 1 eStr a1)] (zD 2 (zLu 70 9 1 0 eStr (.tmp 26) (some (.tmp 27)) none h49) zB) ?_
   refine J_d 29844 [] [5] [(5,iv 1)] [] [] zB ?_
   refine zEG (xK.ok s41 x48 q _ (fun v73=>J_j ?_) (a1,s41,1))
   refine zA (fun x74 h75=>?_)
   refine zA (fun x76 h77=>?_)
   refine J_g 29846 [] [(0,rr 0 v73.1),(3,iv v73.2)] [(0,rE 1 eStr x76)] (zD 2 (zLu 70 9 1 0 eStr (.tmp 54) (some (.tmp 55)) none h75) (zEC 3 (zN6 (l:=v73.2) (a:=ByteArray.empty) 70 9 1 0 eStr (.tmp 56) h77 (.keep rfl (.nil))) zB)) ?_
   refine zDH (σ':=St.mk' [(0,rr 0 x76),(3,iv v73.2)] [(0,rE 1 eStr x76)]) (by simp only [rr,zHq h77]) ?_
   refine zA (fun x78 h79=>?_)
   refine J_g 59694 [] [(2,rr 1 x78)] [(1,rE 1 eStr x78)] (zD 2 (zLk 70 9 1 0 1 eStr (.tmp 57) none (some (.tmp 58)) h79) zB) ?_
   exact zBY (ds:=[rr 1 x78]) (ds':=[so 1 eStr x78]) (.cons (.cell (.move (.head _) (List.length_map _) (by decide) (.nil))) (.nil) (by decide)) rfl
  ·refine J_d 467 [] [3,25] [(3,iv (w64 (s41+1)))] [] [] zB ?_
   exact J_q (J_b (ih (w64 (s41+1)))) rfl
 ·exact yP (hk ()) rfl
theorem xO.ok (a1:(List ByteArray)):Ok Tryz.prog 295 [rr 0 a1] [rE 1 eStr a1] ((xO a1).map fun r=>(so 1 eStr r,[])):=by
 refine zH zLX Tryz.f295 1 61 (fun q=>?_)
 unfold xO
 refine J_g 2 [] [(0,rr 0 a1)] [(0,rE 1 eStr a1)] zB ?_
 refine J_d 12 [] [8] [(8,bv (decide ((a1.length:Int)<2)))] [] [] zB ?_
 refine zC 8 (fun h2=>?_) (fun h2=>?_)
 ·refine J_g 52 [] [(2,rr 0 a1)] [(0,rE 1 eStr a1)] zB ?_
  exact zBY (ds:=[rr 0 a1]) (ds':=[so 1 eStr a1]) (.cons (.cell (.move (.head _) (List.length_map _) (by decide) (.nil))) (.nil) (by decide)) rfl
 ·refine J_d 28 [] [3,8] [(3,iv 1)] [] [] zB ?_
  refine uN (K0:=(fun r:(List ByteArray)=>some (so 1 eStr r,[]))) (fun _=>rfl) (wE.ok a1 q _ (fun v80=>J_j ?_) 1)
  refine J_g 30 [] [(2,rr 0 a1)] [(0,rE 1 eStr a1)] zB ?_
  exact zBY (ds:=[rr 0 a1]) (ds':=[so 1 eStr a1]) (.cons (.cell (.move (.head _) (List.length_map _) (by decide) (.nil))) (.nil) (by decide)) rfl
noncomputable def zP6:Code:=(Tryz.f248.body).getD .skip
theorem zBu.ok (a1:(List ByteArray)):Ok Tryz.prog 248 [rr 0 a1] [rE 1 eStr a1] ((zBu a1).map fun r=>(so 1 eStr r,[])):=by
 refine zH zP6 Tryz.f248 1 7 (fun q=>?_)
 unfold zBu
 refine J_d 2 [] [] [] [] [] zB ?_
 refine zA (fun x2 h3=>?_)
 refine J_g 6 [] [(0,rr 0 a1)] [(0,rE 1 eStr x2)] (zD 1 (uW («as»:=[rr 0 a1]) [(.tmp 3)] [70] false [(0,rE 1 eStr a1)] [0] (.cons (.rf rfl) (.nil)) (wF.ok a1) h3 (.tu (.nil))) zB) ?_
 refine zA (fun u4 h5=>?_)
 refine zDH (σ':=St.mk' [(0,rr 0 x2)] [(0,rE 1 eStr x2)]) (by simp only [rr,zBh h5]) ?_
 refine zA (fun x6 h7=>?_)
 refine J_g 14 [] [(2,rr 1 x6)] [(1,rE 1 eStr x6)] (zD 1 (uW («as»:=[rr 0 x2]) [(.tmp 5)] [70] false [(0,rE 1 eStr x2)] [0] (.cons (.rf rfl) (.nil)) (xO.ok x2) h7 (.own 1)) zB) ?_
 exact zBY (ds:=[rr 1 x6]) (ds':=[so 1 eStr x6]) (.cons (.cell (.move (.head _) (List.length_map _) (by decide) (.nil))) (.nil) (by decide)) rfl
noncomputable def c173:Code:=(Tryz.f173.body).getD .skip
theorem wS.ok (a1:(List Pack)) (a2:zL) (a3:(List Int)) (s30:((List ByteArray)×Int)) (x34:((List Int)×Int)) (q:Wd) (kn:(List ByteArray)→Option (D×List Ent)) (hk:∀v:(List ByteArray),J (q.g Tryz.prog 173 0 50) c173 (aft c173 1868) (St.mk' [(0,sl 8 (Pack.enc false) a1),(4,pp 0),(8,rr 1 v),(16,sl 1 zI a3),(17,iv (a3.length:Int)),(18,iv s30.2)] [(0,.box (zL.enc false a2)),(1,rE 1 eStr v)]) (some v) kn):
  ∀s46:((List ByteArray)×Int),J (q.g Tryz.prog 173 0 50) c173 (atI c173 119612) (St.mk' [(0,sl 8 (Pack.enc false) a1),(4,pp 0),(8,rr 1 s46.1),(16,sl 1 zI a3),(17,iv (a3.length:Int)),(18,iv s30.2),(32,rr 2 x34.1),(33,iv (x34.1.length:Int)),(34,iv s46.2)] [(0,.box (zL.enc false a2)),(1,rE 1 eStr s46.1),(2,rE 1 zI x34.1)]) (wS a1 a2 a3 s30 x34 s46) kn:=by
 refine zA6 (fun g ih s46=>?_)
 unfold tT
 refine J_d 239224 [] [35] [(35,bv (decide (s46.2< (x34.1.length:Int))))] [] [] zB ?_
 refine zC 35 (fun h47=>?_) (fun h47=>?_)
 ·refine zA (fun x48 h49=>?_)
  refine J_d 3827608 [] [14,35] [(14,iv x48)] [] [] (zD 0 (uH (kk:=.i64) 42 2 1 2 zI (.tmp 32) (.tmp 34) h49) (zD 1 (zAM (d:=iv x48) 2 1 2 0 zI (.tmp 36) h49 (by kernel_rfl)) zB)) ?_
  refine zA (fun x50 h51=>?_)
  refine zA (fun x52 h53=>?_)
  refine zA (fun x54 h55=>?_)
  refine J_g 3827609 [] [(0,sl 8 (Pack.enc false) a1),(4,pp 0),(8,rr 4 x54),(16,sl 1 zI a3),(17,iv (a3.length:Int)),(18,iv s30.2),(32,rr 2 x34.1),(33,iv (x34.1.length:Int)),(34,iv s46.2)] [(0,.box (zL.enc false a2)),(2,rE 1 zI x34.1),(4,rE 1 eStr x54)] (zD 3 (zAt (kk:=.i64) 24 89 8 (Pack.enc false) (.tmp 39) (.tmp 40) h51) (zD 5 (xE [(.tmp 42)] [89] (zAq.ok x50) h53) (zD 6 (zDD 70 9 1 3 eStr [x52] [0] [(.tmp 43)] [sv x52]) (zD 7 (zHE 70 70 9 9 1 16 4 1 3 eStr (.tmp 38) (.tmp 44) h55) zB)))) ?_
  refine J_d 956903 [] [34] [(34,iv (w64 (s46.2+1)))] [] [] zB ?_
  refine zCD 4 1 (Nat.le_of_ble_eq_true rfl) (Nat.le_of_ble_eq_true rfl) ?_
  exact J_q (J_b (ih (x54,w64 (s46.2+1)))) rfl
 ·exact yP (hk s46.1) rfl
theorem kC.ok (a1:(List Pack)) (a2:zL) (a3:(List Int)) (q:Wd) (kn:(List ByteArray)→Option (D×List Ent)) (hk:∀v:(List ByteArray),J (q.g Tryz.prog 173 0 50) c173 (atI c173 15) (St.mk' [(8,rr 1 v)] [(1,rE 1 eStr v)]) (some v) kn):
  ∀s30:((List ByteArray)×Int),J (q.g Tryz.prog 173 0 50) c173 (atI c173 116) (St.mk' [(0,sl 8 (Pack.enc false) a1),(4,pp 0),(8,rr 1 s30.1),(16,sl 1 zI a3),(17,iv (a3.length:Int)),(18,iv s30.2)] [(0,.box (zL.enc false a2)),(1,rE 1 eStr s30.1)]) (kC a1 a2 a3 s30) (Fl.go (fun r:((List ByteArray)×Int)=>some (.tu [so 1 eStr r.1,iv r.2],[])) kn):=by
 refine zA6 (fun g ih s30=>?_)
 unfold vP
 refine J_d 232 [] [19] [(19,bv (decide (s30.2< (a3.length:Int))))] [] [] zB ?_
 refine zC 19 (fun h31=>?_) (fun h31=>?_)
 ·refine zA (fun x32 h33=>?_)
  refine J_d 3736 [] [10,19] [(10,iv x32)] [] [] (zD 0 (zAt (kk:=.i64) 42 2 1 zI (.tmp 16) (.tmp 18) h33) zB) ?_
  refine zA (fun x34 h35=>?_)
  refine J_g 7474 [] [(0,sl 8 (Pack.enc false) a1),(4,pp 0),(8,rr 1 s30.1),(11,rr 2 x34.1),(12,iv x34.2),(16,sl 1 zI a3),(17,iv (a3.length:Int)),(18,iv s30.2)] [(0,.box (zL.enc false a2)),(1,rE 1 eStr s30.1),(2,rE 1 zI x34.1)] (zD 3 (uW («as»:=[sl 8 (Pack.enc false) a1,.ag (zL.enc false a2),iv x32]) [(.tmp 23),(.tmp 24),(.tmp 25)] [24,27,2] false [] [] (.cons (.same rfl) (.cons (.same rfl) (.cons (.same rfl) (.nil)))) (zCQ.ok a1 a2 x32) h35 (.tu (.cons (.own 2) (.cons (.same rfl rfl) (.nil))))) zB) ?_
  refine J_d 29900 [] [30] [(30,bv (x34.2 !=0))] [] [] zB ?_
  refine zC 30 (fun h36=>?_) (fun h36=>?_)
  ·refine J_g 119604 [] [(6,nv),(7,iv x34.2)] [] zB ?_
   exact zBY (ds:=[nv,iv x34.2]) (ds':=[so 1 eStr ([]:List ByteArray),iv x34.2]) (.cons (.cell (.nilsl true 1 (.nil))) (.cons (.cell (.keep rfl (.nil))) (.nil) (by decide)) (by decide)) rfl
  ·refine J_d 29902 [] [11,12,30,32,33,34] [(32,rr 2 x34.1),(33,iv (x34.1.length:Int)),(34,iv 0)] [] [] zB ?_
   refine zEG (wS.ok a1 a2 a3 s30 x34 q _ (fun v56=>J_j ?_) (s30.1,0))
   refine J_d 935 [] [18] [(18,iv (w64 (s30.2+1)))] [] [] zB ?_
   exact J_q (J_b (ih (v56,w64 (s30.2+1)))) rfl
 ·exact yP (hk s30.1) rfl
theorem kS.ok (a1:(List Pack)) (a2:zL) (a3:(List Int)):Ok Tryz.prog 173 [sl 8 (Pack.enc false) a1,.ag (zL.enc false a2),sl 1 zI a3] [] ((kS a1 a2 a3).map fun r=>(.tu [so 1 eStr r.1,iv r.2],[])):=by
 refine zH c173 Tryz.f173 0 50 (fun q=>?_)
 unfold kS
 refine J_g 2 [(0,0)] [(0,sl 8 (Pack.enc false) a1),(2,sl 1 zI a3),(4,pp 0)] [(0,.box (zL.enc false a2))] zB ?_
 refine J_g 6 [] [(0,sl 8 (Pack.enc false) a1),(2,sl 1 zI a3),(4,pp 0),(8,rr 1 ([]:List ByteArray))] [(0,.box (zL.enc false a2)),(1,rE 1 eStr ([]:List ByteArray))] (zD 0 (zDD 70 9 1 1 eStr ([]:List ByteArray) [] [] []) zB) ?_
 refine J_d 28 [] [2,16,17,18] [(16,sl 1 zI a3),(17,iv (a3.length:Int)),(18,iv 0)] [] [] zB ?_
 refine uN (K0:=(fun r:((List ByteArray)×Int)=>some (.tu [so 1 eStr r.1,iv r.2],[]))) (fun _=>rfl) (kC.ok a1 a2 a3 q _ (fun v57=>J_j ?_) (([]:List ByteArray),0))
 refine zA (fun x58 h59=>?_)
 refine J_g 30 [] [(6,rr 2 x58),(7,iv 0)] [(2,rE 1 eStr x58)] (zD 1 (uW («as»:=[rr 1 v57]) [(.tmp 48)] [70] false [(1,rE 1 eStr v57)] [1] (.cons (.rf rfl) (.nil)) (zBu.ok v57) h59 (.own 2)) zB) ?_
 exact zBY (ds:=[rr 2 x58,iv 0]) (ds':=[so 1 eStr x58,iv 0]) (.cons (.cell (.move (.head _) (List.length_map _) (by decide) (.nil))) (.cons (.cell (.keep rfl (.nil))) (.nil) (by decide)) (by decide)) rfl
noncomputable def c94:Code:=(Tryz.f94.body).getD .skip
theorem uF.ok (a1:(List Pack)) (a2:zL) (a3:(List Int)):Ok Tryz.prog 94 [sl 8 (Pack.enc false) a1,.ag (zL.enc false a2),sl 1 zI a3] [] ((uF a1 a2 a3).map fun r=>(.tu [so 1 eStr r.1,iv r.2],[])):=by
 refine zH c94 Tryz.f94 0 25 (fun q=>?_)
 unfold uF
 refine J_d 2 [(0,0)] [1,4] [(4,pp 0)] [0] [(0,.box (zL.enc false a2))] zB ?_
 refine zA (fun x4 h5=>?_)
 refine J_g 6 [] [(0,sl 8 (Pack.enc false) a1),(4,pp 0),(8,rr 1 x4.1),(9,iv x4.2)] [(0,.box (zL.enc false a2)),(1,rE 1 zI x4.1)] (zD 2 (uW («as»:=[.ag (zL.enc false a2),sl 1 zI a3]) [(.tmp 11),(.tmp 12)] [27,42] false [] [] (.cons (.same rfl) (.cons (.same rfl) (.nil))) (jF.ok a2 a3) h5 (.tu (.cons (.own 1) (.cons (.same rfl rfl) (.nil))))) zB) ?_
 refine J_d 28 [] [17] [(17,bv (x4.2 !=0))] [] [] zB ?_
 refine zC 17 (fun h6=>?_) (fun h6=>?_)
 ·refine J_g 116 [] [(6,nv),(7,iv x4.2)] [] zB ?_
  exact zBY (ds:=[nv,iv x4.2]) (ds':=[so 1 eStr ([]:List ByteArray),iv x4.2]) (.cons (.cell (.nilsl true 1 (.nil))) (.cons (.cell (.keep rfl (.nil))) (.nil) (by decide)) (by decide)) rfl
 ·refine zA (fun x7 h8=>?_)
  refine J_g 30 [] [(6,rr 2 x7.1),(7,iv x7.2)] [(2,rE 1 eStr x7.1)] (zD 3 (uW («as»:=[sl 8 (Pack.enc false) a1,.ag (zL.enc false a2),rr 1 x4.1]) [(.tmp 19),(.tmp 20),(.tmp 21)] [24,27,42] true [(1,rE 1 zI x4.1)] [] (.cons (.same rfl) (.cons (.same rfl) (.cons (zDz (.head _) (fun _=>rfl) rfl) (.nil)))) (kS.ok a1 a2 x4.1) h8 (.tu (.cons (.own 2) (.cons (.same rfl rfl) (.nil)))) (hbor:=fun _=>⟨fhN,(zNj (flatK (zDS (zFi (fun _=>(flatK yH zDT)) _)) (flatK yH zDT)))⟩)) zB) ?_
  exact zBY (ds:=[rr 2 x7.1,iv x7.2]) (ds':=[so 1 eStr x7.1,iv x7.2]) (.cons (.cell (.move (.head _) (List.length_map _) (by decide) (.nil))) (.cons (.cell (.keep rfl (.nil))) (.nil) (by decide)) (by decide)) rfl
noncomputable def c41:Code:=(Tryz.f41.body).getD .skip
theorem xR.ok (a1:(List Pack)) (a2:zL) (a3:(List Int)):Ok Tryz.prog 41 [sl 8 (Pack.enc false) a1,.ag (zL.enc false a2),sl 1 zI a3] [] ((xR a1 a2 a3).map fun r=>(.ag [iv r.Code,so 1 eStr r.Names],[])):=by
 refine zH c41 Tryz.f41 0 27 (fun q=>?_)
 unfold xR
 refine J_d 2 [(0,0),(1,1)] [1,4,6] [(4,pp 0),(6,pp 1)] [0,1] [(0,.box (zL.enc false a2)),(1,.box [iv 0,nv])] zB ?_
 refine zA (fun x4 h5=>?_)
 refine J_g 12 [] [(0,sl 8 (Pack.enc false) a1),(2,sl 1 zI a3),(4,pp 0),(6,pp 1),(7,iv x4)] [(0,.box (zL.enc false a2)),(1,.box [iv 0,nv])] (zD 2 (xE [(.tmp 10),(.tmp 11)] [24,27] (jB.ok a1 a2) h5) zB) ?_
 refine J_d 26 [] [14] [(14,bv (x4 !=0))] [] [] zB ?_
 refine zC 14 (fun h6=>?_) (fun h6=>?_)
 ·refine J_g 108 [] [(6,pp 1)] [(1,.box [iv x4,nv])] zB ?_
  exact zBY (ds:=[.ag [iv x4,nv]]) (ds':=[.ag [iv x4,so 1 eStr ([]:List ByteArray)]]) (.cons (.ag (.keep rfl (.nilsl true 1 (.nil)))) (.nil) (by decide)) rfl
 ·refine zA (fun x7 h8=>?_)
  refine J_g 14 [] [(6,pp 1),(8,rr 2 x7.1),(9,iv x7.2)] [(1,.box [iv 0,nv]),(2,rE 1 eStr x7.1)] (zD 3 (uW («as»:=[sl 8 (Pack.enc false) a1,.ag (zL.enc false a2),sl 1 zI a3]) [(.tmp 18),(.tmp 19),(.tmp 20)] [24,27,42] false [] [] (.cons (.same rfl) (.cons (.same rfl) (.cons (.same rfl) (.nil)))) (uF.ok a1 a2 a3) h8 (.tu (.cons (.own 2) (.cons (.same rfl rfl) (.nil))))) zB) ?_
  refine J_g 30 [] [(6,pp 1)] [(1,.box [iv x7.2,rr 2 x7.1]),(2,rE 1 eStr x7.1)] zB ?_
  exact zBY (ds:=[.ag [iv x7.2,rr 2 x7.1]]) (ds':=[.ag [iv x7.2,so 1 eStr x7.1]]) (.cons (.ag (.keep rfl (.move (.tail _ (.head _)) (List.length_map _) (by decide) (.nil)))) (.nil) (by decide)) rfl
noncomputable def c98:Code:=(Tryz.f98.body).getD .skip
theorem zA4.ok (a1:(List ByteArray)) (a2:(List ByteArray)) (q:Wd) (kn:Unit→Option (D×List Ent)) (hk:∀v:Unit,J (q.g Tryz.prog 98 0 26) c98 (atI c98 15) (St.mk' [] []) (some v) kn):
  ∀s10:Int,J (q.g Tryz.prog 98 0 26) c98 (atI c98 116) (St.mk' [(0,sl 1 eStr a1),(1,sl 1 eStr a2),(5,iv s10)] []) (zA4 a1 a2 s10) (Fl.go (fun r:Bool=>some (bv r,[])) kn):=by
 refine zA6 (fun g ih s10=>?_)
 unfold zBj
 refine J_d 464 [] [14] [(14,bv (decide (s10< (a1.length:Int))))] [] [] zB ?_
 refine zC 14 (fun h11=>?_) (fun h11=>?_)
 ·refine zA (fun x12 h13=>?_)
  refine zA (fun x14 h15=>?_)
  refine J_d 1864 [] [14,25] [(25,bv (!(seq x12 x14)))] [] [] (zD 2 (zAt (kk:=.i64) 70 9 1 eStr (.tmp 17) (.tmp 18) h13) (zD 6 (zAt (kk:=.i64) 70 9 1 eStr (.tmp 21) (.tmp 22) h15) zB)) ?_
  refine zC 25 (fun h16=>?_) (fun h16=>?_)
  ·refine J_g 7460 [] [(4,bv false)] [] zB ?_
   exact zT rfl
  ·refine J_d 467 [] [5,25] [(5,iv (w64 (s10+1)))] [] [] zB ?_
   exact J_q (J_b (ih (w64 (s10+1)))) rfl
 ·exact yP (hk ()) rfl
theorem uK.ok (a1:(List ByteArray)) (a2:(List ByteArray)):Ok Tryz.prog 98 [sl 1 eStr a1,sl 1 eStr a2] [] ((uK a1 a2).map fun r=>(bv r,[])):=by
 refine zH c98 Tryz.f98 0 26 (fun q=>?_)
 unfold uK
 refine J_g 2 [] [(0,sl 1 eStr a1),(1,sl 1 eStr a2)] [] zB ?_
 refine J_d 12 [] [10] [(10,bv ((a1.length:Int) !=(a2.length:Int)))] [] [] zB ?_
 refine zC 10 (fun h3=>?_) (fun h3=>?_)
 ·refine J_g 52 [] [(4,bv false)] [] zB ?_
  exact zT rfl
 ·refine J_d 28 [] [5,10] [(5,iv 0)] [] [] zB ?_
  refine uN (K0:=(fun r:Bool=>some (bv r,[]))) (fun _=>rfl) (zA4.ok a1 a2 q _ (fun v17=>J_j ?_) 0)
  refine J_g 30 [] [(4,bv true)] [] zB ?_
  exact zT rfl
noncomputable def c42:Code:=(Tryz.f42.body).getD .skip
theorem yX.ok (a1:zJ) (a2:zJ):Ok Tryz.prog 42 [.ag (zJ.enc false a1),.ag (zJ.enc false a2)] [] ((yX a1 a2).map fun r=>(bv r,[])):=by
 refine zH c42 Tryz.f42 0 16 (fun q=>?_)
 unfold yX
 refine J_g 2 [(0,0),(1,1)] [(2,pp 0),(3,pp 1)] [(0,.box (zJ.enc false a1)),(1,.box (zJ.enc false a2))] zB ?_
 refine J_d 12 [] [9] [(9,bv (a1.Code !=a2.Code))] [] [] zB ?_
 refine zC 9 (fun h3=>?_) (fun h3=>?_)
 ·refine J_g 52 [] [(4,bv false)] [] zB ?_
  exact zT rfl
 ·refine zA (fun x4 h5=>?_)
  refine J_g 28 [] [(15,bv (!x4))] [] (zD 4 (xE [(.tmp 11),(.tmp 13)] [70,70] (uK.ok a1.Names a2.Names) h5) zB) ?_
  refine zC 15 (fun h6=>?_) (fun h6=>?_)
  ·refine J_g 116 [] [(4,bv false)] [] zB ?_
   exact zT rfl
  ·refine J_g 30 [] [(4,bv true)] [] zB ?_
   exact zT rfl
noncomputable def c119:Code:=(Tryz.f119.body).getD .skip
theorem wM.ok (a1:Version) (a2:Version):Ok Tryz.prog 119 [.ag (Version.enc a1),.ag (Version.enc a2)] [] ((wM a1 a2).map fun r=>(bv r,[])):=by
 refine zH c119 Tryz.f119 0 20 (fun q=>?_)
 unfold wM
 refine J_g 2 [(0,0),(1,1)] [(2,pp 0),(3,pp 1)] [(0,.box (Version.enc a1)),(1,.box (Version.enc a2))] zB ?_
 refine J_d 12 [] [9] [(9,bv (a1.A !=a2.A))] [] [] zB ?_
 refine zC 9 (fun h3=>?_) (fun h3=>?_)
 ·refine J_g 52 [] [(4,bv false)] [] zB ?_
  exact zT rfl
 ·refine J_d 28 [] [9,14] [(14,bv (a1.B !=a2.B))] [] [] zB ?_
  refine zC 14 (fun h4=>?_) (fun h4=>?_)
  ·refine J_g 116 [] [(4,bv false)] [] zB ?_
   exact zT rfl
  ·refine J_g 60 [] [(19,bv (a1.C !=a2.C))] [] zB ?_
   refine zC 19 (fun h5=>?_) (fun h5=>?_)
   ·refine J_g 244 [] [(4,bv false)] [] zB ?_
    exact zT rfl
   ·refine J_g 62 [] [(4,bv true)] [] zB ?_
    exact zT rfl
noncomputable def zPV:Code:=(Tryz.f153.body).getD .skip
theorem zC0.ok (a1:Term) (a2:Term):Ok Tryz.prog 153 [.ag (Term.enc a1),.ag (Term.enc a2)] [] ((zC0 a1 a2).map fun r=>(bv r,[])):=by
 refine zH zPV Tryz.f153 0 22 (fun q=>?_)
 unfold zC0
 refine J_g 2 [(0,0),(1,1)] [(2,pp 0),(3,pp 1)] [(0,.box (Term.enc a1)),(1,.box (Term.enc a2))] zB ?_
 refine J_d 12 [] [9] [(9,bv (!(seq a1.Name a2.Name)))] [] [] zB ?_
 refine zC 9 (fun h3=>?_) (fun h3=>?_)
 ·refine J_g 52 [] [(4,bv false)] [] zB ?_
  exact zT rfl
 ·refine zA (fun x4 h5=>?_)
  refine J_d 28 [] [9,15] [(15,bv (!x4))] [] [] (zD 4 (xE [(.tmp 11),(.tmp 13)] [86,86] (wM.ok a1.Low a2.Low) h5) zB) ?_
  refine zC 15 (fun h6=>?_) (fun h6=>?_)
  ·refine J_g 116 [] [(4,bv false)] [] zB ?_
   exact zT rfl
  ·refine zA (fun x7 h8=>?_)
   refine J_g 60 [] [(21,bv (!x7))] [] (zD 4 (xE [(.tmp 17),(.tmp 19)] [86,86] (wM.ok a1.High a2.High) h8) zB) ?_
   refine zC 21 (fun h9=>?_) (fun h9=>?_)
   ·refine J_g 244 [] [(4,bv false)] [] zB ?_
    exact zT rfl
   ·refine J_g 62 [] [(4,bv true)] [] zB ?_
    exact zT rfl
noncomputable def c76:Code:=(Tryz.f76.body).getD .skip
theorem zB8.ok (a1:(List Term)) (a2:(List Term)) (q:Wd) (kn:Unit→Option (D×List Ent)) (hk:∀v:Unit,J (q.g Tryz.prog 76 0 27) c76 (atI c76 15) (St.mk' [] []) (some v) kn):
  ∀s12:Int,J (q.g Tryz.prog 76 0 27) c76 (atI c76 116) (St.mk' [(0,sl 7 Term.enc a1),(1,sl 7 Term.enc a2),(5,iv s12)] []) (zB8 a1 a2 s12) (Fl.go (fun r:Bool=>some (bv r,[])) kn):=by
 refine zA6 (fun g ih s12=>?_)
 unfold zCl
 refine J_d 464 [] [14] [(14,bv (decide (s12< (a1.length:Int))))] [] [] zB ?_
 refine zC 14 (fun h13=>?_) (fun h13=>?_)
 ·refine zA (fun x14 h15=>?_)
  refine zA (fun x16 h17=>?_)
  refine zA (fun x18 h19=>?_)
  refine J_d 1864 [] [14,26] [(26,bv (!x18))] [] [] (zD 2 (zAt (kk:=.i64) 53 153 7 Term.enc (.tmp 17) (.tmp 18) h15) (zD 6 (zAt (kk:=.i64) 53 153 7 Term.enc (.tmp 21) (.tmp 22) h17) (zD 8 (xE [(.tmp 20),(.tmp 24)] [153,153] (zC0.ok x14 x16) h19) zB))) ?_
  refine zC 26 (fun h20=>?_) (fun h20=>?_)
  ·refine J_g 7460 [] [(4,bv false)] [] zB ?_
   exact zT rfl
  ·refine J_d 467 [] [5,26] [(5,iv (w64 (s12+1)))] [] [] zB ?_
   exact J_q (J_b (ih (w64 (s12+1)))) rfl
 ·exact yP (hk ()) rfl
theorem zAm.ok (a1:(List Term)) (a2:(List Term)):Ok Tryz.prog 76 [sl 7 Term.enc a1,sl 7 Term.enc a2] [] ((zAm a1 a2).map fun r=>(bv r,[])):=by
 refine zH c76 Tryz.f76 0 27 (fun q=>?_)
 unfold zAm
 refine J_g 2 [] [(0,sl 7 Term.enc a1),(1,sl 7 Term.enc a2)] [] zB ?_
 refine J_d 12 [] [10] [(10,bv ((a1.length:Int) !=(a2.length:Int)))] [] [] zB ?_
 refine zC 10 (fun h3=>?_) (fun h3=>?_)
 ·refine J_g 52 [] [(4,bv false)] [] zB ?_
  exact zT rfl
 ·refine J_d 28 [] [5,10] [(5,iv 0)] [] [] zB ?_
  refine uN (K0:=(fun r:Bool=>some (bv r,[]))) (fun _=>rfl) (zB8.ok a1 a2 q _ (fun v21=>J_j ?_) 0)
  refine J_g 30 [] [(4,bv true)] [] zB ?_
  exact zT rfl
noncomputable def zNW:Code:=(Tryz.f120.body).getD .skip
theorem zAX.ok (a1:(List (List Term))) (a2:(List (List Term))) (q:Wd) (kn:Unit→Option (D×List Ent)) (hk:∀v:Unit,J (q.g Tryz.prog 120 0 27) zNW (atI zNW 15) (St.mk' [] []) (some v) kn):
  ∀s12:Int,J (q.g Tryz.prog 120 0 27) zNW (atI zNW 116) (St.mk' [(0,sl 1 (eSl false 7 Term.enc) a1),(1,sl 1 (eSl false 7 Term.enc) a2),(5,iv s12)] []) (zAX a1 a2 s12) (Fl.go (fun r:Bool=>some (bv r,[])) kn):=by
 refine zA6 (fun g ih s12=>?_)
 unfold zBU
 refine J_d 464 [] [14] [(14,bv (decide (s12< (a1.length:Int))))] [] [] zB ?_
 refine zC 14 (fun h13=>?_) (fun h13=>?_)
 ·refine zA (fun x14 h15=>?_)
  refine zA (fun x16 h17=>?_)
  refine zA (fun x18 h19=>?_)
  refine J_d 1864 [] [14,26] [(26,bv (!x18))] [] [] (zD 2 (zAt (kk:=.i64) 87 53 1 (eSl false 7 Term.enc) (.tmp 17) (.tmp 18) h15) (zD 6 (zAt (kk:=.i64) 87 53 1 (eSl false 7 Term.enc) (.tmp 21) (.tmp 22) h17) (zD 8 (xE [(.tmp 20),(.tmp 24)] [53,53] (zAm.ok x14 x16) h19) zB))) ?_
  refine zC 26 (fun h20=>?_) (fun h20=>?_)
  ·refine J_g 7460 [] [(4,bv false)] [] zB ?_
   exact zT rfl
  ·refine J_d 467 [] [5,26] [(5,iv (w64 (s12+1)))] [] [] zB ?_
   exact J_q (J_b (ih (w64 (s12+1)))) rfl
 ·exact yP (hk ()) rfl
theorem zAK.ok (a1:(List (List Term))) (a2:(List (List Term))):Ok Tryz.prog 120 [sl 1 (eSl false 7 Term.enc) a1,sl 1 (eSl false 7 Term.enc) a2] [] ((zAK a1 a2).map fun r=>(bv r,[])):=by
 refine zH zNW Tryz.f120 0 27 (fun q=>?_)
 unfold zAK
 refine J_g 2 [] [(0,sl 1 (eSl false 7 Term.enc) a1),(1,sl 1 (eSl false 7 Term.enc) a2)] [] zB ?_
 refine J_d 12 [] [10] [(10,bv ((a1.length:Int) !=(a2.length:Int)))] [] [] zB ?_
 refine zC 10 (fun h3=>?_) (fun h3=>?_)
 ·refine J_g 52 [] [(4,bv false)] [] zB ?_
  exact zT rfl
 ·refine J_d 28 [] [5,10] [(5,iv 0)] [] [] zB ?_
  refine uN (K0:=(fun r:Bool=>some (bv r,[]))) (fun _=>rfl) (zAX.ok a1 a2 q _ (fun v21=>J_j ?_) 0)
  refine J_g 30 [] [(4,bv true)] [] zB ?_
  exact zT rfl
noncomputable def c54:Code:=(Tryz.f54.body).getD .skip
theorem zC1.ok (a1:Pack) (a2:Pack):Ok Tryz.prog 54 [.ag (Pack.enc false a1),.ag (Pack.enc false a2)] [] ((zC1 a1 a2).map fun r=>(bv r,[])):=by
 refine zH c54 Tryz.f54 0 39 (fun q=>?_)
 unfold zC1
 refine J_g 2 [(0,0),(1,1)] [(2,pp 0),(3,pp 1)] [(0,.box (Pack.enc false a1)),(1,.box (Pack.enc false a2))] zB ?_
 refine J_d 12 [] [9] [(9,bv (!(seq a1.Name a2.Name)))] [] [] zB ?_
 refine zC 9 (fun h3=>?_) (fun h3=>?_)
 ·refine J_g 52 [] [(4,bv false)] [] zB ?_
  exact zT rfl
 ·refine zA (fun x4 h5=>?_)
  refine J_d 28 [] [9,15] [(15,bv (!x4))] [] [] (zD 4 (xE [(.tmp 11),(.tmp 13)] [86,86] (wM.ok a1.Version a2.Version) h5) zB) ?_
  refine zC 15 (fun h6=>?_) (fun h6=>?_)
  ·refine J_g 116 [] [(4,bv false)] [] zB ?_
   exact zT rfl
  ·refine J_d 60 [] [15,20] [(20,bv (a1.Size !=a2.Size))] [] [] zB ?_
   refine zC 20 (fun h7=>?_) (fun h7=>?_)
   ·refine J_g 244 [] [(4,bv false)] [] zB ?_
    exact zT rfl
   ·refine zA (fun x8 h9=>?_)
    refine J_d 124 [] [20,26] [(26,bv (!x8))] [] [] (zD 4 (xE [(.tmp 22),(.tmp 24)] [70,70] (uK.ok a1.Provides a2.Provides) h9) zB) ?_
    refine zC 26 (fun h10=>?_) (fun h10=>?_)
    ·refine J_g 500 [] [(4,bv false)] [] zB ?_
     exact zT rfl
    ·refine zA (fun x11 h12=>?_)
     refine J_d 252 [] [26,32] [(32,bv (!x11))] [] [] (zD 4 (xE [(.tmp 28),(.tmp 30)] [87,87] (zAK.ok a1.Needs a2.Needs) h12) zB) ?_
     refine zC 32 (fun h13=>?_) (fun h13=>?_)
     ·refine J_g 1012 [] [(4,bv false)] [] zB ?_
      exact zT rfl
     ·refine zA (fun x14 h15=>?_)
      refine J_g 508 [] [(38,bv (!x14))] [] (zD 4 (xE [(.tmp 34),(.tmp 36)] [53,53] (zAm.ok a1.Bars a2.Bars) h15) zB) ?_
      refine zC 38 (fun h16=>?_) (fun h16=>?_)
      ·refine J_g 2036 [] [(4,bv false)] [] zB ?_
       exact zT rfl
      ·refine J_g 510 [] [(4,bv true)] [] zB ?_
       exact zT rfl
noncomputable def c14:Code:=(Tryz.f14.body).getD .skip
theorem zB7.ok (a1:(List Pack)) (a2:(List Pack)) (q:Wd) (kn:Unit→Option (D×List Ent)) (hk:∀v:Unit,J (q.g Tryz.prog 14 0 27) c14 (atI c14 15) (St.mk' [] []) (some v) kn):
  ∀s12:Int,J (q.g Tryz.prog 14 0 27) c14 (atI c14 116) (St.mk' [(0,sl 8 (Pack.enc false) a1),(1,sl 8 (Pack.enc false) a2),(5,iv s12)] []) (zB7 a1 a2 s12) (Fl.go (fun r:Bool=>some (bv r,[])) kn):=by
 refine zA6 (fun g ih s12=>?_)
 unfold zCm
 refine J_d 464 [] [14] [(14,bv (decide (s12< (a1.length:Int))))] [] [] zB ?_
 refine zC 14 (fun h13=>?_) (fun h13=>?_)
 ·refine zA (fun x14 h15=>?_)
  refine zA (fun x16 h17=>?_)
  refine zA (fun x18 h19=>?_)
  refine J_d 1864 [] [14,26] [(26,bv (!x18))] [] [] (zD 2 (zAt (kk:=.i64) 24 89 8 (Pack.enc false) (.tmp 17) (.tmp 18) h15) (zD 6 (zAt (kk:=.i64) 24 89 8 (Pack.enc false) (.tmp 21) (.tmp 22) h17) (zD 8 (xE [(.tmp 20),(.tmp 24)] [89,89] (zC1.ok x14 x16) h19) zB))) ?_
  refine zC 26 (fun h20=>?_) (fun h20=>?_)
  ·refine J_g 7460 [] [(4,bv false)] [] zB ?_
   exact zT rfl
  ·refine J_d 467 [] [5,26] [(5,iv (w64 (s12+1)))] [] [] zB ?_
   exact J_q (J_b (ih (w64 (s12+1)))) rfl
 ·exact yP (hk ()) rfl
theorem zBP.ok (a1:(List Pack)) (a2:(List Pack)):Ok Tryz.prog 14 [sl 8 (Pack.enc false) a1,sl 8 (Pack.enc false) a2] [] ((zBP a1 a2).map fun r=>(bv r,[])):=by
 refine zH c14 Tryz.f14 0 27 (fun q=>?_)
 unfold zBP
 refine J_g 2 [] [(0,sl 8 (Pack.enc false) a1),(1,sl 8 (Pack.enc false) a2)] [] zB ?_
 refine J_d 12 [] [10] [(10,bv ((a1.length:Int) !=(a2.length:Int)))] [] [] zB ?_
 refine zC 10 (fun h3=>?_) (fun h3=>?_)
 ·refine J_g 52 [] [(4,bv false)] [] zB ?_
  exact zT rfl
 ·refine J_d 28 [] [5,10] [(5,iv 0)] [] [] zB ?_
  refine uN (K0:=(fun r:Bool=>some (bv r,[]))) (fun _=>rfl) (zB7.ok a1 a2 q _ (fun v21=>J_j ?_) 0)
  refine J_g 30 [] [(4,bv true)] [] zB ?_
  exact zT rfl
noncomputable def zOz:Code:=(Tryz.f216.body).getD .skip
theorem zBL.ok (a1:(List Int)) (a2:(List Int)) (q:Wd) (kn:Unit→Option (D×List Ent)) (hk:∀v:Unit,J (q.g Tryz.prog 216 0 26) zOz (atI zOz 15) (St.mk' [] []) (some v) kn):
  ∀s10:Int,J (q.g Tryz.prog 216 0 26) zOz (atI zOz 116) (St.mk' [(0,sl 1 eU8 a1),(1,sl 1 eU8 a2),(5,iv s10)] []) (zBL a1 a2 s10) (Fl.go (fun r:Bool=>some (bv r,[])) kn):=by
 refine zA6 (fun g ih s10=>?_)
 unfold zCq
 refine J_d 464 [] [14] [(14,bv (decide (s10< (a1.length:Int))))] [] [] zB ?_
 refine zC 14 (fun h11=>?_) (fun h11=>?_)
 ·refine zA (fun x12 h13=>?_)
  refine zA (fun x14 h15=>?_)
  refine J_d 1864 [] [14,25] [(25,bv (x12 !=x14))] [] [] (zD 2 (zAt (kk:=.i64) 111 5 1 eU8 (.tmp 17) (.tmp 18) h13) (zD 6 (zAt (kk:=.i64) 111 5 1 eU8 (.tmp 21) (.tmp 22) h15) zB)) ?_
  refine zC 25 (fun h16=>?_) (fun h16=>?_)
  ·refine J_g 7460 [] [(4,bv false)] [] zB ?_
   exact zT rfl
  ·refine J_d 467 [] [5,25] [(5,iv (w64 (s10+1)))] [] [] zB ?_
   exact J_q (J_b (ih (w64 (s10+1)))) rfl
 ·exact yP (hk ()) rfl
theorem zBt.ok (a1:(List Int)) (a2:(List Int)):Ok Tryz.prog 216 [sl 1 eU8 a1,sl 1 eU8 a2] [] ((zBt a1 a2).map fun r=>(bv r,[])):=by
 refine zH zOz Tryz.f216 0 26 (fun q=>?_)
 unfold zBt
 refine J_g 2 [] [(0,sl 1 eU8 a1),(1,sl 1 eU8 a2)] [] zB ?_
 refine J_d 12 [] [10] [(10,bv ((a1.length:Int) !=(a2.length:Int)))] [] [] zB ?_
 refine zC 10 (fun h3=>?_) (fun h3=>?_)
 ·refine J_g 52 [] [(4,bv false)] [] zB ?_
  exact zT rfl
 ·refine J_d 28 [] [5,10] [(5,iv 0)] [] [] zB ?_
  refine uN (K0:=(fun r:Bool=>some (bv r,[]))) (fun _=>rfl) (zBL.ok a1 a2 q _ (fun v17=>J_j ?_) 0)
  refine J_g 30 [] [(4,bv true)] [] zB ?_
  exact zT rfl
noncomputable def zPT:Code:=(Tryz.f140.body).getD .skip
theorem zC6.ok (a1:File) (a2:File):Ok Tryz.prog 140 [.ag (File.enc false a1),.ag (File.enc false a2)] [] ((zC6 a1 a2).map fun r=>(bv r,[])):=by
 refine zH zPT Tryz.f140 0 16 (fun q=>?_)
 unfold zC6
 refine J_g 2 [(0,0),(1,1)] [(2,pp 0),(3,pp 1)] [(0,.box (File.enc false a1)),(1,.box (File.enc false a2))] zB ?_
 refine J_d 12 [] [9] [(9,bv (!(seq a1.Path a2.Path)))] [] [] zB ?_
 refine zC 9 (fun h3=>?_) (fun h3=>?_)
 ·refine J_g 52 [] [(4,bv false)] [] zB ?_
  exact zT rfl
 ·refine zA (fun x4 h5=>?_)
  refine J_g 28 [] [(15,bv (!x4))] [] (zD 4 (xE [(.tmp 11),(.tmp 13)] [111,111] (zBt.ok a1.Data a2.Data) h5) zB) ?_
  refine zC 15 (fun h6=>?_) (fun h6=>?_)
  ·refine J_g 116 [] [(4,bv false)] [] zB ?_
   exact zT rfl
  ·refine J_g 30 [] [(4,bv true)] [] zB ?_
   exact zT rfl
noncomputable def c73:Code:=(Tryz.f73.body).getD .skip
theorem zBK.ok (a1:(List File)) (a2:(List File)) (q:Wd) (kn:Unit→Option (D×List Ent)) (hk:∀v:Unit,J (q.g Tryz.prog 73 0 27) c73 (atI c73 15) (St.mk' [] []) (some v) kn):
  ∀s12:Int,J (q.g Tryz.prog 73 0 27) c73 (atI c73 116) (St.mk' [(0,sl 2 (File.enc false) a1),(1,sl 2 (File.enc false) a2),(5,iv s12)] []) (zBK a1 a2 s12) (Fl.go (fun r:Bool=>some (bv r,[])) kn):=by
 refine zA6 (fun g ih s12=>?_)
 unfold zCk
 refine J_d 464 [] [14] [(14,bv (decide (s12< (a1.length:Int))))] [] [] zB ?_
 refine zC 14 (fun h13=>?_) (fun h13=>?_)
 ·refine zA (fun x14 h15=>?_)
  refine zA (fun x16 h17=>?_)
  refine zA (fun x18 h19=>?_)
  refine J_d 1864 [] [14,26] [(26,bv (!x18))] [] [] (zD 2 (zAt (kk:=.i64) 25 113 2 (File.enc false) (.tmp 17) (.tmp 18) h15) (zD 6 (zAt (kk:=.i64) 25 113 2 (File.enc false) (.tmp 21) (.tmp 22) h17) (zD 8 (xE [(.tmp 20),(.tmp 24)] [113,113] (zC6.ok x14 x16) h19) zB))) ?_
  refine zC 26 (fun h20=>?_) (fun h20=>?_)
  ·refine J_g 7460 [] [(4,bv false)] [] zB ?_
   exact zT rfl
  ·refine J_d 467 [] [5,26] [(5,iv (w64 (s12+1)))] [] [] zB ?_
   exact J_q (J_b (ih (w64 (s12+1)))) rfl
 ·exact yP (hk ()) rfl
theorem zBz.ok (a1:(List File)) (a2:(List File)):Ok Tryz.prog 73 [sl 2 (File.enc false) a1,sl 2 (File.enc false) a2] [] ((zBz a1 a2).map fun r=>(bv r,[])):=by
 refine zH c73 Tryz.f73 0 27 (fun q=>?_)
 unfold zBz
 refine J_g 2 [] [(0,sl 2 (File.enc false) a1),(1,sl 2 (File.enc false) a2)] [] zB ?_
 refine J_d 12 [] [10] [(10,bv ((a1.length:Int) !=(a2.length:Int)))] [] [] zB ?_
 refine zC 10 (fun h3=>?_) (fun h3=>?_)
 ·refine J_g 52 [] [(4,bv false)] [] zB ?_
  exact zT rfl
 ·refine J_d 28 [] [5,10] [(5,iv 0)] [] [] zB ?_
  refine uN (K0:=(fun r:Bool=>some (bv r,[]))) (fun _=>rfl) (zBK.ok a1 a2 q _ (fun v21=>J_j ?_) 0)
  refine J_g 30 [] [(4,bv true)] [] zB ?_
  exact zT rfl
noncomputable def c24:Code:=(Tryz.f24.body).getD .skip
theorem zCw.ok (a1:zL) (a2:zL):Ok Tryz.prog 24 [.ag (zL.enc false a1),.ag (zL.enc false a2)] [] ((zCw a1 a2).map fun r=>(bv r,[])):=by
 refine zH c24 Tryz.f24 0 31 (fun q=>?_)
 unfold zCw
 refine J_g 2 [(0,0),(1,1)] [(2,pp 0),(3,pp 1)] [(0,.box (zL.enc false a1)),(1,.box (zL.enc false a2))] zB ?_
 refine zA (fun x3 h4=>?_)
 refine J_d 12 [] [10] [(10,bv (!x3))] [] [] (zD 4 (xE [(.tmp 6),(.tmp 8)] [25,25] (zBz.ok a1.Files a2.Files) h4) zB) ?_
 refine zC 10 (fun h5=>?_) (fun h5=>?_)
 ·refine J_g 52 [] [(4,bv false)] [] zB ?_
  exact zT rfl
 ·refine J_d 28 [] [10,15] [(15,bv (a1.Budget !=a2.Budget))] [] [] zB ?_
  refine zC 15 (fun h6=>?_) (fun h6=>?_)
  ·refine J_g 116 [] [(4,bv false)] [] zB ?_
   exact zT rfl
  ·refine J_d 60 [] [15,20] [(20,bv (a1.Writes !=a2.Writes))] [] [] zB ?_
   refine zC 20 (fun h7=>?_) (fun h7=>?_)
   ·refine J_g 244 [] [(4,bv false)] [] zB ?_
    exact zT rfl
   ·refine J_d 124 [] [20,25] [(25,bv (a1.Stop !=a2.Stop))] [] [] zB ?_
    refine zC 25 (fun h8=>?_) (fun h8=>?_)
    ·refine J_g 500 [] [(4,bv false)] [] zB ?_
     exact zT rfl
    ·refine J_g 252 [] [(30,bv (!(a1.Down==a2.Down)))] [] zB ?_
     refine zC 30 (fun h9=>?_) (fun h9=>?_)
     ·refine J_g 1012 [] [(4,bv false)] [] zB ?_
      exact zT rfl
     ·refine J_g 254 [] [(4,bv true)] [] zB ?_
      exact zT rfl
noncomputable def c25:Code:=(Tryz.f25.body).getD .skip
theorem zAS.ok (a1:(List Int)) (a2:(List Int)) (q:Wd) (kn:Unit→Option (D×List Ent)) (hk:∀v:Unit,J (q.g Tryz.prog 25 0 26) c25 (atI c25 15) (St.mk' [] []) (some v) kn):
  ∀s10:Int,J (q.g Tryz.prog 25 0 26) c25 (atI c25 116) (St.mk' [(0,sl 1 zI a1),(1,sl 1 zI a2),(5,iv s10)] []) (zAS a1 a2 s10) (Fl.go (fun r:Bool=>some (bv r,[])) kn):=by
 refine zA6 (fun g ih s10=>?_)
 unfold zBW
 refine J_d 464 [] [14] [(14,bv (decide (s10< (a1.length:Int))))] [] [] zB ?_
 refine zC 14 (fun h11=>?_) (fun h11=>?_)
 ·refine zA (fun x12 h13=>?_)
  refine zA (fun x14 h15=>?_)
  refine J_d 1864 [] [14,25] [(25,bv (x12 !=x14))] [] [] (zD 2 (zAt (kk:=.i64) 42 2 1 zI (.tmp 17) (.tmp 18) h13) (zD 6 (zAt (kk:=.i64) 42 2 1 zI (.tmp 21) (.tmp 22) h15) zB)) ?_
  refine zC 25 (fun h16=>?_) (fun h16=>?_)
  ·refine J_g 7460 [] [(4,bv false)] [] zB ?_
   exact zT rfl
  ·refine J_d 467 [] [5,25] [(5,iv (w64 (s10+1)))] [] [] zB ?_
   exact J_q (J_b (ih (w64 (s10+1)))) rfl
 ·exact yP (hk ()) rfl
theorem zAH.ok (a1:(List Int)) (a2:(List Int)):Ok Tryz.prog 25 [sl 1 zI a1,sl 1 zI a2] [] ((zAH a1 a2).map fun r=>(bv r,[])):=by
 refine zH c25 Tryz.f25 0 26 (fun q=>?_)
 unfold zAH
 refine J_g 2 [] [(0,sl 1 zI a1),(1,sl 1 zI a2)] [] zB ?_
 refine J_d 12 [] [10] [(10,bv ((a1.length:Int) !=(a2.length:Int)))] [] [] zB ?_
 refine zC 10 (fun h3=>?_) (fun h3=>?_)
 ·refine J_g 52 [] [(4,bv false)] [] zB ?_
  exact zT rfl
 ·refine J_d 28 [] [5,10] [(5,iv 0)] [] [] zB ?_
  refine uN (K0:=(fun r:Bool=>some (bv r,[]))) (fun _=>rfl) (zAS.ok a1 a2 q _ (fun v17=>J_j ?_) 0)
  refine J_g 30 [] [(4,bv true)] [] zB ?_
  exact zT rfl
noncomputable def c55:Code:=(Tryz.f55.body).getD .skip
theorem zAR.ok (q:Wd) (kn:ByteArray→Option (D×List Ent)) (hk:∀v:ByteArray,J (q.g Tryz.prog 55 0 20) c55 (atI c55 31) (St.mk' [(3,sv v)] []) (some v) kn):
  ∀s6:(Int×ByteArray),J (q.g Tryz.prog 55 0 20) c55 (atI c55 120) (St.mk' [(0,iv s6.1),(3,sv s6.2)] []) (zAR s6) kn:=by
 refine zA6 (fun g ih s6=>?_)
 unfold zBT
 refine J_d 480 [] [7] [(7,bv (decide (s6.1>0)))] [] [] zB ?_
 refine zC 7 (fun h7=>?_) (fun h7=>?_)
 ·refine zA (fun x8 h9=>?_)
  refine J_g 964 [] [(0,iv s6.1),(3,sv x8)] [] (zD 4 (zDD 111 5 1 0 eU8 [IntKind.u8.wrap (w64 (48+(s6.1.tmod 10)))] [0] [(.tmp 11)] [uv (IntKind.u8.wrap (w64 (48+(s6.1.tmod 10))))]) (zD 5 (zLr (xs:=[IntKind.u8.wrap (w64 (48+(s6.1.tmod 10)))]) 111 9 5 0 (.tmp 12)) (zD 7 (zD8 9 9 (.tmp 13) (.tmp 14) h9) zB))) ?_
  refine J_g 965 [] [(0,iv (w64 (s6.1.tdiv 10))),(3,sv x8)] [] zB ?_
  exact J_q (J_b (ih (w64 (s6.1.tdiv 10),x8))) rfl
 ·exact yP (hk s6.2) rfl
theorem yY.ok (a1:Int):Ok Tryz.prog 55 [iv a1] [] ((yY a1).map fun r=>(sv r,[])):=by
 refine zH c55 Tryz.f55 0 20 (fun q=>?_)
 unfold yY
 refine J_g 2 [] [(0,iv a1)] [] zB ?_
 refine J_g 12 [] [(0,iv a1),(5,bv (decide (a1≤0)))] [] zB ?_
 refine zC 5 (fun h2=>?_) (fun h2=>?_)
 ·refine J_g 52 [] [(2,sv (bs [109,48]))] [] zB ?_
  exact zT rfl
 ·refine J_g 14 [] [(0,iv a1),(3,sv (bs []))] [] zB ?_
  refine zEG (zAR.ok q _ (fun v10=>J_j ?_) (a1,bs []))
  refine zA (fun x11 h12=>?_)
  refine J_g 62 [] [(2,sv x11)] [] (zD 1 (zD8 9 9 (.const (.string (bs [109]))) (.tmp 18) h12) zB) ?_
  exact zT rfl
noncomputable def c56:Code:=(Tryz.f56.body).getD .skip
theorem tY.ok (q:Wd) (kn:((List ByteArray)×Int)→Option (D×List Ent)) (hk:∀v:((List ByteArray)×Int),J (q.g Tryz.prog 56 1 20) c56 (atI c56 7) (St.mk' [(1,iv v.2)] [(0,rE 1 eStr v.1)]) (some v) kn):
  ∀s8:((List ByteArray)×Int×Int),J (q.g Tryz.prog 56 1 20) c56 (atI c56 52) (St.mk' [(0,rr 0 s8.1),(1,iv s8.2.1),(5,iv s8.2.2)] [(0,rE 1 eStr s8.1)]) (tY s8) kn:=by
 refine zA6 (fun g ih s8=>?_)
 unfold uU
 refine J_d 208 [] [9] [(9,bv (decide (s8.2.2< (s8.1.length:Int))))] [] [] zB ?_
 refine zC 9 (fun h9=>?_) (fun h9=>?_)
 ·refine zA (fun x10 h11=>?_)
  refine zA (fun x12 h13=>?_)
  refine J_g 840 [] [(0,rr 0 s8.1),(1,iv s8.2.1),(5,iv s8.2.2)] [(0,rE 1 eStr (s8.1.set s8.2.2.toNat x10))] (zD 3 (xE [(.tmp 14)] [3] (yY.ok s8.2.1) h11) (zD 4 (uH (kk:=.i64) 70 9 1 0 eStr (.tmp 12) (.tmp 13) h13) (zEC 5 (zFB (b:=x10) 9 1 0 0 eStr (sv x10) (.tmp 16) (.tmp 15) h13 rfl) zB))) ?_
  refine zDH (σ':=St.mk' [(0,rr 0 (s8.1.set s8.2.2.toNat x10)),(1,iv s8.2.1),(5,iv s8.2.2)] [(0,rE 1 eStr (s8.1.set s8.2.2.toNat x10))]) (by simp only [rr,List.length_set]) ?_
  refine J_g 841 [] [(0,rr 0 (s8.1.set s8.2.2.toNat x10)),(1,iv (w64 (s8.2.1+1))),(5,iv s8.2.2)] [(0,rE 1 eStr (s8.1.set s8.2.2.toNat x10))] zB ?_
  refine J_d 211 [] [5] [(5,iv (w64 (s8.2.2+1)))] [] [] zB ?_
  exact J_q (J_b (ih (s8.1.set s8.2.2.toNat x10,w64 (s8.2.1+1),w64 (s8.2.2+1)))) rfl
 ·exact yP (hk (s8.1,s8.2.1)) rfl
theorem wB.ok (a1:(List ByteArray)) (a2:Int):Ok Tryz.prog 56 [rr 0 a1,iv a2] [rE 1 eStr a1] ((wB a1 a2).map fun r=>(iv r.1,[rE 1 eStr r.2])):=by
 refine zH c56 Tryz.f56 1 20 (fun q=>?_)
 unfold wB
 refine J_g 2 [] [(0,rr 0 a1),(1,iv a2)] [(0,rE 1 eStr a1)] zB ?_
 refine J_d 12 [] [5] [(5,iv 0)] [] [] zB ?_
 refine zEG (tY.ok q _ (fun v14=>J_j ?_) (a1,a2,0))
 refine J_g 14 [] [(4,iv v14.2)] [(0,rE 1 eStr v14.1)] zB ?_
 exact zT rfl
noncomputable def c58:Code:=(Tryz.f58.body).getD .skip
theorem zAd.ok (q:Wd) (kn:((List Term)×Int)→Option (D×List Ent)) (hk:∀v:((List Term)×Int),J (q.g Tryz.prog 58 1 69) c58 (atI c58 7) (St.mk' [(1,iv v.2)] [(0,rE 7 Term.enc v.1)]) (some v) kn):
  ∀s20:((List Term)×Int×Int),J (q.g Tryz.prog 58 1 69) c58 (atI c58 52) (St.mk' [(0,rr 0 s20.1),(1,iv s20.2.1),(5,iv s20.2.2)] [(0,rE 7 Term.enc s20.1)]) (zAd s20) kn:=by
 refine zA6 (fun g ih s20=>?_)
 unfold kE
 refine J_d 208 [] [9] [(9,bv (decide (s20.2.2< (s20.1.length:Int))))] [] [] zB ?_
 refine zC 9 (fun h21=>?_) (fun h21=>?_)
 ·refine zA (fun x22 h23=>?_)
  refine zA (fun x24 h25=>?_)
  refine J_g 840 [] [(0,rr 0 s20.1),(1,iv s20.2.1),(5,iv s20.2.2)] [(0,rE 7 Term.enc (s20.1.set s20.2.2.toNat ({Name:=x22,Low:=x24.Low,High:=x24.High}:Term)))] (zD 3 (xE [(.tmp 14)] [3] (yY.ok s20.2.1) h23) (zD 4 (uH (kk:=.i64) 53 153 7 0 Term.enc (.tmp 12) (.tmp 13) h25) (zEC 6 (zFB (b:=({Name:=x22,Low:=x24.Low,High:=x24.High}:Term)) 9 7 0 0 Term.enc (sv x22) (.tmp 17) (.tmp 15) h25 rfl) zB))) ?_
  refine zDH (σ':=St.mk' [(0,rr 0 (s20.1.set s20.2.2.toNat ({Name:=x22,Low:=x24.Low,High:=x24.High}:Term))),(1,iv s20.2.1),(5,iv s20.2.2)] [(0,rE 7 Term.enc (s20.1.set s20.2.2.toNat ({Name:=x22,Low:=x24.Low,High:=x24.High}:Term)))]) (by simp only [rr,List.length_set]) ?_
  refine J_d 1682 [] [1] [(1,iv (w64 (s20.2.1+1)))] [] [] zB ?_
  refine zA (fun x26 h27=>?_)
  refine J_g 3366 [] [(0,rr 0 (s20.1.set s20.2.2.toNat ({Name:=x22,Low:=x24.Low,High:=x24.High}:Term))),(1,iv (w64 (s20.2.1+1))),(5,iv s20.2.2)] [(0,rE 7 Term.enc ((s20.1.set s20.2.2.toNat ({Name:=x22,Low:=x24.Low,High:=x24.High}:Term)).set s20.2.2.toNat ({Name:=x26.Name,Low:=({A:=w64 (s20.2.1+1),B:=x26.Low.B,C:=x26.Low.C}:Version),High:=x26.High}:Term)))] (zD 3 (uH (kk:=.i64) 53 153 7 0 Term.enc (.tmp 20) (.tmp 21) h27) (zEC 6 (zFB (b:=({Name:=x26.Name,Low:=({A:=w64 (s20.2.1+1),B:=x26.Low.B,C:=x26.Low.C}:Version),High:=x26.High}:Term)) 2 7 0 1 Term.enc (iv (w64 (s20.2.1+1))) (.tmp 25) (.tmp 22) h27 rfl) zB)) ?_
  refine zDH (σ':=St.mk' [(0,rr 0 ((s20.1.set s20.2.2.toNat ({Name:=x22,Low:=x24.Low,High:=x24.High}:Term)).set s20.2.2.toNat ({Name:=x26.Name,Low:=({A:=w64 (s20.2.1+1),B:=x26.Low.B,C:=x26.Low.C}:Version),High:=x26.High}:Term))),(1,iv (w64 (s20.2.1+1))),(5,iv s20.2.2)] [(0,rE 7 Term.enc ((s20.1.set s20.2.2.toNat ({Name:=x22,Low:=x24.Low,High:=x24.High}:Term)).set s20.2.2.toNat ({Name:=x26.Name,Low:=({A:=w64 (s20.2.1+1),B:=x26.Low.B,C:=x26.Low.C}:Version),High:=x26.High}:Term)))]) (by simp only [rr,List.length_set]) ?_
  refine J_d 6734 [] [1] [(1,iv (w64 ((w64 (s20.2.1+1))+1)))] [] [] zB ?_
  refine zA (fun x28 h29=>?_)
  refine J_g 13470 [] [(0,rr 0 ((s20.1.set s20.2.2.toNat ({Name:=x22,Low:=x24.Low,High:=x24.High}:Term)).set s20.2.2.toNat ({Name:=x26.Name,Low:=({A:=w64 (s20.2.1+1),B:=x26.Low.B,C:=x26.Low.C}:Version),High:=x26.High}:Term))),(1,iv (w64 ((w64 (s20.2.1+1))+1))),(5,iv s20.2.2)] [(0,rE 7 Term.enc (((s20.1.set s20.2.2.toNat ({Name:=x22,Low:=x24.Low,High:=x24.High}:Term)).set s20.2.2.toNat ({Name:=x26.Name,Low:=({A:=w64 (s20.2.1+1),B:=x26.Low.B,C:=x26.Low.C}:Version),High:=x26.High}:Term)).set s20.2.2.toNat ({Name:=x28.Name,Low:=({A:=x28.Low.A,B:=w64 ((w64 (s20.2.1+1))+1),C:=x28.Low.C}:Version),High:=x28.High}:Term)))] (zD 3 (uH (kk:=.i64) 53 153 7 0 Term.enc (.tmp 28) (.tmp 29) h29) (zEC 6 (zFB (b:=({Name:=x28.Name,Low:=({A:=x28.Low.A,B:=w64 ((w64 (s20.2.1+1))+1),C:=x28.Low.C}:Version),High:=x28.High}:Term)) 2 7 0 2 Term.enc (iv (w64 ((w64 (s20.2.1+1))+1))) (.tmp 33) (.tmp 30) h29 rfl) zB)) ?_
  refine zDH (σ':=St.mk' [(0,rr 0 (((s20.1.set s20.2.2.toNat ({Name:=x22,Low:=x24.Low,High:=x24.High}:Term)).set s20.2.2.toNat ({Name:=x26.Name,Low:=({A:=w64 (s20.2.1+1),B:=x26.Low.B,C:=x26.Low.C}:Version),High:=x26.High}:Term)).set s20.2.2.toNat ({Name:=x28.Name,Low:=({A:=x28.Low.A,B:=w64 ((w64 (s20.2.1+1))+1),C:=x28.Low.C}:Version),High:=x28.High}:Term))),(1,iv (w64 ((w64 (s20.2.1+1))+1))),(5,iv s20.2.2)] [(0,rE 7 Term.enc (((s20.1.set s20.2.2.toNat ({Name:=x22,Low:=x24.Low,High:=x24.High}:Term)).set s20.2.2.toNat ({Name:=x26.Name,Low:=({A:=w64 (s20.2.1+1),B:=x26.Low.B,C:=x26.Low.C}:Version),High:=x26.High}:Term)).set s20.2.2.toNat ({Name:=x28.Name,Low:=({A:=x28.Low.A,B:=w64 ((w64 (s20.2.1+1))+1),C:=x28.Low.C}:Version),High:=x28.High}:Term)))]) (by simp only [rr,List.length_set]) ?_
  refine J_d 26942 [] [1] [(1,iv (w64 ((w64 ((w64 (s20.2.1+1))+1))+1)))] [] [] zB ?_
  refine zA (fun x30 h31=>?_)
  refine J_g 53886 [] [(0,rr 0 (((s20.1.set s20.2.2.toNat ({Name:=x22,Low:=x24.Low,High:=x24.High}:Term)).set s20.2.2.toNat ({Name:=x26.Name,Low:=({A:=w64 (s20.2.1+1),B:=x26.Low.B,C:=x26.Low.C}:Version),High:=x26.High}:Term)).set s20.2.2.toNat ({Name:=x28.Name,Low:=({A:=x28.Low.A,B:=w64 ((w64 (s20.2.1+1))+1),C:=x28.Low.C}:Version),High:=x28.High}:Term))),(1,iv (w64 ((w64 ((w64 (s20.2.1+1))+1))+1))),(5,iv s20.2.2)] [(0,rE 7 Term.enc ((((s20.1.set s20.2.2.toNat ({Name:=x22,Low:=x24.Low,High:=x24.High}:Term)).set s20.2.2.toNat ({Name:=x26.Name,Low:=({A:=w64 (s20.2.1+1),B:=x26.Low.B,C:=x26.Low.C}:Version),High:=x26.High}:Term)).set s20.2.2.toNat ({Name:=x28.Name,Low:=({A:=x28.Low.A,B:=w64 ((w64 (s20.2.1+1))+1),C:=x28.Low.C}:Version),High:=x28.High}:Term)).set s20.2.2.toNat ({Name:=x30.Name,Low:=({A:=x30.Low.A,B:=x30.Low.B,C:=w64 ((w64 ((w64 (s20.2.1+1))+1))+1)}:Version),High:=x30.High}:Term)))] (zD 3 (uH (kk:=.i64) 53 153 7 0 Term.enc (.tmp 36) (.tmp 37) h31) (zEC 6 (zFB (b:=({Name:=x30.Name,Low:=({A:=x30.Low.A,B:=x30.Low.B,C:=w64 ((w64 ((w64 (s20.2.1+1))+1))+1)}:Version),High:=x30.High}:Term)) 2 7 0 3 Term.enc (iv (w64 ((w64 ((w64 (s20.2.1+1))+1))+1))) (.tmp 41) (.tmp 38) h31 rfl) zB)) ?_
  refine zDH (σ':=St.mk' [(0,rr 0 ((((s20.1.set s20.2.2.toNat ({Name:=x22,Low:=x24.Low,High:=x24.High}:Term)).set s20.2.2.toNat ({Name:=x26.Name,Low:=({A:=w64 (s20.2.1+1),B:=x26.Low.B,C:=x26.Low.C}:Version),High:=x26.High}:Term)).set s20.2.2.toNat ({Name:=x28.Name,Low:=({A:=x28.Low.A,B:=w64 ((w64 (s20.2.1+1))+1),C:=x28.Low.C}:Version),High:=x28.High}:Term)).set s20.2.2.toNat ({Name:=x30.Name,Low:=({A:=x30.Low.A,B:=x30.Low.B,C:=w64 ((w64 ((w64 (s20.2.1+1))+1))+1)}:Version),High:=x30.High}:Term))),(1,iv (w64 ((w64 ((w64 (s20.2.1+1))+1))+1))),(5,iv s20.2.2)] [(0,rE 7 Term.enc ((((s20.1.set s20.2.2.toNat ({Name:=x22,Low:=x24.Low,High:=x24.High}:Term)).set s20.2.2.toNat ({Name:=x26.Name,Low:=({A:=w64 (s20.2.1+1),B:=x26.Low.B,C:=x26.Low.C}:Version),High:=x26.High}:Term)).set s20.2.2.toNat ({Name:=x28.Name,Low:=({A:=x28.Low.A,B:=w64 ((w64 (s20.2.1+1))+1),C:=x28.Low.C}:Version),High:=x28.High}:Term)).set s20.2.2.toNat ({Name:=x30.Name,Low:=({A:=x30.Low.A,B:=x30.Low.B,C:=w64 ((w64 ((w64 (s20.2.1+1))+1))+1)}:Version),High:=x30.High}:Term)))]) (by simp only [rr,List.length_set]) ?_
  refine J_d 107774 [] [1] [(1,iv (w64 ((w64 ((w64 ((w64 (s20.2.1+1))+1))+1))+1)))] [] [] zB ?_
  refine zA (fun x32 h33=>?_)
  refine J_g 215550 [] [(0,rr 0 ((((s20.1.set s20.2.2.toNat ({Name:=x22,Low:=x24.Low,High:=x24.High}:Term)).set s20.2.2.toNat ({Name:=x26.Name,Low:=({A:=w64 (s20.2.1+1),B:=x26.Low.B,C:=x26.Low.C}:Version),High:=x26.High}:Term)).set s20.2.2.toNat ({Name:=x28.Name,Low:=({A:=x28.Low.A,B:=w64 ((w64 (s20.2.1+1))+1),C:=x28.Low.C}:Version),High:=x28.High}:Term)).set s20.2.2.toNat ({Name:=x30.Name,Low:=({A:=x30.Low.A,B:=x30.Low.B,C:=w64 ((w64 ((w64 (s20.2.1+1))+1))+1)}:Version),High:=x30.High}:Term))),(1,iv (w64 ((w64 ((w64 ((w64 (s20.2.1+1))+1))+1))+1))),(5,iv s20.2.2)] [(0,rE 7 Term.enc (((((s20.1.set s20.2.2.toNat ({Name:=x22,Low:=x24.Low,High:=x24.High}:Term)).set s20.2.2.toNat ({Name:=x26.Name,Low:=({A:=w64 (s20.2.1+1),B:=x26.Low.B,C:=x26.Low.C}:Version),High:=x26.High}:Term)).set s20.2.2.toNat ({Name:=x28.Name,Low:=({A:=x28.Low.A,B:=w64 ((w64 (s20.2.1+1))+1),C:=x28.Low.C}:Version),High:=x28.High}:Term)).set s20.2.2.toNat ({Name:=x30.Name,Low:=({A:=x30.Low.A,B:=x30.Low.B,C:=w64 ((w64 ((w64 (s20.2.1+1))+1))+1)}:Version),High:=x30.High}:Term)).set s20.2.2.toNat ({Name:=x32.Name,Low:=x32.Low,High:=({A:=w64 ((w64 ((w64 ((w64 (s20.2.1+1))+1))+1))+1),B:=x32.High.B,C:=x32.High.C}:Version)}:Term)))] (zD 3 (uH (kk:=.i64) 53 153 7 0 Term.enc (.tmp 44) (.tmp 45) h33) (zEC 6 (zFB (b:=({Name:=x32.Name,Low:=x32.Low,High:=({A:=w64 ((w64 ((w64 ((w64 (s20.2.1+1))+1))+1))+1),B:=x32.High.B,C:=x32.High.C}:Version)}:Term)) 2 7 0 4 Term.enc (iv (w64 ((w64 ((w64 ((w64 (s20.2.1+1))+1))+1))+1))) (.tmp 49) (.tmp 46) h33 rfl) zB)) ?_
  refine zDH (σ':=St.mk' [(0,rr 0 (((((s20.1.set s20.2.2.toNat ({Name:=x22,Low:=x24.Low,High:=x24.High}:Term)).set s20.2.2.toNat ({Name:=x26.Name,Low:=({A:=w64 (s20.2.1+1),B:=x26.Low.B,C:=x26.Low.C}:Version),High:=x26.High}:Term)).set s20.2.2.toNat ({Name:=x28.Name,Low:=({A:=x28.Low.A,B:=w64 ((w64 (s20.2.1+1))+1),C:=x28.Low.C}:Version),High:=x28.High}:Term)).set s20.2.2.toNat ({Name:=x30.Name,Low:=({A:=x30.Low.A,B:=x30.Low.B,C:=w64 ((w64 ((w64 (s20.2.1+1))+1))+1)}:Version),High:=x30.High}:Term)).set s20.2.2.toNat ({Name:=x32.Name,Low:=x32.Low,High:=({A:=w64 ((w64 ((w64 ((w64 (s20.2.1+1))+1))+1))+1),B:=x32.High.B,C:=x32.High.C}:Version)}:Term))),(1,iv (w64 ((w64 ((w64 ((w64 (s20.2.1+1))+1))+1))+1))),(5,iv s20.2.2)] [(0,rE 7 Term.enc (((((s20.1.set s20.2.2.toNat ({Name:=x22,Low:=x24.Low,High:=x24.High}:Term)).set s20.2.2.toNat ({Name:=x26.Name,Low:=({A:=w64 (s20.2.1+1),B:=x26.Low.B,C:=x26.Low.C}:Version),High:=x26.High}:Term)).set s20.2.2.toNat ({Name:=x28.Name,Low:=({A:=x28.Low.A,B:=w64 ((w64 (s20.2.1+1))+1),C:=x28.Low.C}:Version),High:=x28.High}:Term)).set s20.2.2.toNat ({Name:=x30.Name,Low:=({A:=x30.Low.A,B:=x30.Low.B,C:=w64 ((w64 ((w64 (s20.2.1+1))+1))+1)}:Version),High:=x30.High}:Term)).set s20.2.2.toNat ({Name:=x32.Name,Low:=x32.Low,High:=({A:=w64 ((w64 ((w64 ((w64 (s20.2.1+1))+1))+1))+1),B:=x32.High.B,C:=x32.High.C}:Version)}:Term)))]) (by simp only [rr,List.length_set]) ?_
  refine J_d 431102 [] [1] [(1,iv (w64 ((w64 ((w64 ((w64 ((w64 (s20.2.1+1))+1))+1))+1))+1)))] [] [] zB ?_
  refine zA (fun x34 h35=>?_)
  refine J_g 862206 [] [(0,rr 0 (((((s20.1.set s20.2.2.toNat ({Name:=x22,Low:=x24.Low,High:=x24.High}:Term)).set s20.2.2.toNat ({Name:=x26.Name,Low:=({A:=w64 (s20.2.1+1),B:=x26.Low.B,C:=x26.Low.C}:Version),High:=x26.High}:Term)).set s20.2.2.toNat ({Name:=x28.Name,Low:=({A:=x28.Low.A,B:=w64 ((w64 (s20.2.1+1))+1),C:=x28.Low.C}:Version),High:=x28.High}:Term)).set s20.2.2.toNat ({Name:=x30.Name,Low:=({A:=x30.Low.A,B:=x30.Low.B,C:=w64 ((w64 ((w64 (s20.2.1+1))+1))+1)}:Version),High:=x30.High}:Term)).set s20.2.2.toNat ({Name:=x32.Name,Low:=x32.Low,High:=({A:=w64 ((w64 ((w64 ((w64 (s20.2.1+1))+1))+1))+1),B:=x32.High.B,C:=x32.High.C}:Version)}:Term))),(1,iv (w64 ((w64 ((w64 ((w64 ((w64 (s20.2.1+1))+1))+1))+1))+1))),(5,iv s20.2.2)] [(0,rE 7 Term.enc ((((((s20.1.set s20.2.2.toNat ({Name:=x22,Low:=x24.Low,High:=x24.High}:Term)).set s20.2.2.toNat ({Name:=x26.Name,Low:=({A:=w64 (s20.2.1+1),B:=x26.Low.B,C:=x26.Low.C}:Version),High:=x26.High}:Term)).set s20.2.2.toNat ({Name:=x28.Name,Low:=({A:=x28.Low.A,B:=w64 ((w64 (s20.2.1+1))+1),C:=x28.Low.C}:Version),High:=x28.High}:Term)).set s20.2.2.toNat ({Name:=x30.Name,Low:=({A:=x30.Low.A,B:=x30.Low.B,C:=w64 ((w64 ((w64 (s20.2.1+1))+1))+1)}:Version),High:=x30.High}:Term)).set s20.2.2.toNat ({Name:=x32.Name,Low:=x32.Low,High:=({A:=w64 ((w64 ((w64 ((w64 (s20.2.1+1))+1))+1))+1),B:=x32.High.B,C:=x32.High.C}:Version)}:Term)).set s20.2.2.toNat ({Name:=x34.Name,Low:=x34.Low,High:=({A:=x34.High.A,B:=w64 ((w64 ((w64 ((w64 ((w64 (s20.2.1+1))+1))+1))+1))+1),C:=x34.High.C}:Version)}:Term)))] (zD 3 (uH (kk:=.i64) 53 153 7 0 Term.enc (.tmp 52) (.tmp 53) h35) (zEC 6 (zFB (b:=({Name:=x34.Name,Low:=x34.Low,High:=({A:=x34.High.A,B:=w64 ((w64 ((w64 ((w64 ((w64 (s20.2.1+1))+1))+1))+1))+1),C:=x34.High.C}:Version)}:Term)) 2 7 0 5 Term.enc (iv (w64 ((w64 ((w64 ((w64 ((w64 (s20.2.1+1))+1))+1))+1))+1))) (.tmp 57) (.tmp 54) h35 rfl) zB)) ?_
  refine zDH (σ':=St.mk' [(0,rr 0 ((((((s20.1.set s20.2.2.toNat ({Name:=x22,Low:=x24.Low,High:=x24.High}:Term)).set s20.2.2.toNat ({Name:=x26.Name,Low:=({A:=w64 (s20.2.1+1),B:=x26.Low.B,C:=x26.Low.C}:Version),High:=x26.High}:Term)).set s20.2.2.toNat ({Name:=x28.Name,Low:=({A:=x28.Low.A,B:=w64 ((w64 (s20.2.1+1))+1),C:=x28.Low.C}:Version),High:=x28.High}:Term)).set s20.2.2.toNat ({Name:=x30.Name,Low:=({A:=x30.Low.A,B:=x30.Low.B,C:=w64 ((w64 ((w64 (s20.2.1+1))+1))+1)}:Version),High:=x30.High}:Term)).set s20.2.2.toNat ({Name:=x32.Name,Low:=x32.Low,High:=({A:=w64 ((w64 ((w64 ((w64 (s20.2.1+1))+1))+1))+1),B:=x32.High.B,C:=x32.High.C}:Version)}:Term)).set s20.2.2.toNat ({Name:=x34.Name,Low:=x34.Low,High:=({A:=x34.High.A,B:=w64 ((w64 ((w64 ((w64 ((w64 (s20.2.1+1))+1))+1))+1))+1),C:=x34.High.C}:Version)}:Term))),(1,iv (w64 ((w64 ((w64 ((w64 ((w64 (s20.2.1+1))+1))+1))+1))+1))),(5,iv s20.2.2)] [(0,rE 7 Term.enc ((((((s20.1.set s20.2.2.toNat ({Name:=x22,Low:=x24.Low,High:=x24.High}:Term)).set s20.2.2.toNat ({Name:=x26.Name,Low:=({A:=w64 (s20.2.1+1),B:=x26.Low.B,C:=x26.Low.C}:Version),High:=x26.High}:Term)).set s20.2.2.toNat ({Name:=x28.Name,Low:=({A:=x28.Low.A,B:=w64 ((w64 (s20.2.1+1))+1),C:=x28.Low.C}:Version),High:=x28.High}:Term)).set s20.2.2.toNat ({Name:=x30.Name,Low:=({A:=x30.Low.A,B:=x30.Low.B,C:=w64 ((w64 ((w64 (s20.2.1+1))+1))+1)}:Version),High:=x30.High}:Term)).set s20.2.2.toNat ({Name:=x32.Name,Low:=x32.Low,High:=({A:=w64 ((w64 ((w64 ((w64 (s20.2.1+1))+1))+1))+1),B:=x32.High.B,C:=x32.High.C}:Version)}:Term)).set s20.2.2.toNat ({Name:=x34.Name,Low:=x34.Low,High:=({A:=x34.High.A,B:=w64 ((w64 ((w64 ((w64 ((w64 (s20.2.1+1))+1))+1))+1))+1),C:=x34.High.C}:Version)}:Term)))]) (by simp only [rr,List.length_set]) ?_
  refine J_d 1724414 [] [1] [(1,iv (w64 ((w64 ((w64 ((w64 ((w64 ((w64 (s20.2.1+1))+1))+1))+1))+1))+1)))] [] [] zB ?_
  refine zA (fun x36 h37=>?_)
  refine J_g 3448830 [] [(0,rr 0 ((((((s20.1.set s20.2.2.toNat ({Name:=x22,Low:=x24.Low,High:=x24.High}:Term)).set s20.2.2.toNat ({Name:=x26.Name,Low:=({A:=w64 (s20.2.1+1),B:=x26.Low.B,C:=x26.Low.C}:Version),High:=x26.High}:Term)).set s20.2.2.toNat ({Name:=x28.Name,Low:=({A:=x28.Low.A,B:=w64 ((w64 (s20.2.1+1))+1),C:=x28.Low.C}:Version),High:=x28.High}:Term)).set s20.2.2.toNat ({Name:=x30.Name,Low:=({A:=x30.Low.A,B:=x30.Low.B,C:=w64 ((w64 ((w64 (s20.2.1+1))+1))+1)}:Version),High:=x30.High}:Term)).set s20.2.2.toNat ({Name:=x32.Name,Low:=x32.Low,High:=({A:=w64 ((w64 ((w64 ((w64 (s20.2.1+1))+1))+1))+1),B:=x32.High.B,C:=x32.High.C}:Version)}:Term)).set s20.2.2.toNat ({Name:=x34.Name,Low:=x34.Low,High:=({A:=x34.High.A,B:=w64 ((w64 ((w64 ((w64 ((w64 (s20.2.1+1))+1))+1))+1))+1),C:=x34.High.C}:Version)}:Term))),(1,iv (w64 ((w64 ((w64 ((w64 ((w64 ((w64 (s20.2.1+1))+1))+1))+1))+1))+1))),(5,iv s20.2.2)] [(0,rE 7 Term.enc (((((((s20.1.set s20.2.2.toNat ({Name:=x22,Low:=x24.Low,High:=x24.High}:Term)).set s20.2.2.toNat ({Name:=x26.Name,Low:=({A:=w64 (s20.2.1+1),B:=x26.Low.B,C:=x26.Low.C}:Version),High:=x26.High}:Term)).set s20.2.2.toNat ({Name:=x28.Name,Low:=({A:=x28.Low.A,B:=w64 ((w64 (s20.2.1+1))+1),C:=x28.Low.C}:Version),High:=x28.High}:Term)).set s20.2.2.toNat ({Name:=x30.Name,Low:=({A:=x30.Low.A,B:=x30.Low.B,C:=w64 ((w64 ((w64 (s20.2.1+1))+1))+1)}:Version),High:=x30.High}:Term)).set s20.2.2.toNat ({Name:=x32.Name,Low:=x32.Low,High:=({A:=w64 ((w64 ((w64 ((w64 (s20.2.1+1))+1))+1))+1),B:=x32.High.B,C:=x32.High.C}:Version)}:Term)).set s20.2.2.toNat ({Name:=x34.Name,Low:=x34.Low,High:=({A:=x34.High.A,B:=w64 ((w64 ((w64 ((w64 ((w64 (s20.2.1+1))+1))+1))+1))+1),C:=x34.High.C}:Version)}:Term)).set s20.2.2.toNat ({Name:=x36.Name,Low:=x36.Low,High:=({A:=x36.High.A,B:=x36.High.B,C:=w64 ((w64 ((w64 ((w64 ((w64 ((w64 (s20.2.1+1))+1))+1))+1))+1))+1)}:Version)}:Term)))] (zD 3 (uH (kk:=.i64) 53 153 7 0 Term.enc (.tmp 60) (.tmp 61) h37) (zEC 6 (zFB (b:=({Name:=x36.Name,Low:=x36.Low,High:=({A:=x36.High.A,B:=x36.High.B,C:=w64 ((w64 ((w64 ((w64 ((w64 ((w64 (s20.2.1+1))+1))+1))+1))+1))+1)}:Version)}:Term)) 2 7 0 6 Term.enc (iv (w64 ((w64 ((w64 ((w64 ((w64 ((w64 (s20.2.1+1))+1))+1))+1))+1))+1))) (.tmp 65) (.tmp 62) h37 rfl) zB)) ?_
  refine zDH (σ':=St.mk' [(0,rr 0 (((((((s20.1.set s20.2.2.toNat ({Name:=x22,Low:=x24.Low,High:=x24.High}:Term)).set s20.2.2.toNat ({Name:=x26.Name,Low:=({A:=w64 (s20.2.1+1),B:=x26.Low.B,C:=x26.Low.C}:Version),High:=x26.High}:Term)).set s20.2.2.toNat ({Name:=x28.Name,Low:=({A:=x28.Low.A,B:=w64 ((w64 (s20.2.1+1))+1),C:=x28.Low.C}:Version),High:=x28.High}:Term)).set s20.2.2.toNat ({Name:=x30.Name,Low:=({A:=x30.Low.A,B:=x30.Low.B,C:=w64 ((w64 ((w64 (s20.2.1+1))+1))+1)}:Version),High:=x30.High}:Term)).set s20.2.2.toNat ({Name:=x32.Name,Low:=x32.Low,High:=({A:=w64 ((w64 ((w64 ((w64 (s20.2.1+1))+1))+1))+1),B:=x32.High.B,C:=x32.High.C}:Version)}:Term)).set s20.2.2.toNat ({Name:=x34.Name,Low:=x34.Low,High:=({A:=x34.High.A,B:=w64 ((w64 ((w64 ((w64 ((w64 (s20.2.1+1))+1))+1))+1))+1),C:=x34.High.C}:Version)}:Term)).set s20.2.2.toNat ({Name:=x36.Name,Low:=x36.Low,High:=({A:=x36.High.A,B:=x36.High.B,C:=w64 ((w64 ((w64 ((w64 ((w64 ((w64 (s20.2.1+1))+1))+1))+1))+1))+1)}:Version)}:Term))),(1,iv (w64 ((w64 ((w64 ((w64 ((w64 ((w64 (s20.2.1+1))+1))+1))+1))+1))+1))),(5,iv s20.2.2)] [(0,rE 7 Term.enc (((((((s20.1.set s20.2.2.toNat ({Name:=x22,Low:=x24.Low,High:=x24.High}:Term)).set s20.2.2.toNat ({Name:=x26.Name,Low:=({A:=w64 (s20.2.1+1),B:=x26.Low.B,C:=x26.Low.C}:Version),High:=x26.High}:Term)).set s20.2.2.toNat ({Name:=x28.Name,Low:=({A:=x28.Low.A,B:=w64 ((w64 (s20.2.1+1))+1),C:=x28.Low.C}:Version),High:=x28.High}:Term)).set s20.2.2.toNat ({Name:=x30.Name,Low:=({A:=x30.Low.A,B:=x30.Low.B,C:=w64 ((w64 ((w64 (s20.2.1+1))+1))+1)}:Version),High:=x30.High}:Term)).set s20.2.2.toNat ({Name:=x32.Name,Low:=x32.Low,High:=({A:=w64 ((w64 ((w64 ((w64 (s20.2.1+1))+1))+1))+1),B:=x32.High.B,C:=x32.High.C}:Version)}:Term)).set s20.2.2.toNat ({Name:=x34.Name,Low:=x34.Low,High:=({A:=x34.High.A,B:=w64 ((w64 ((w64 ((w64 ((w64 (s20.2.1+1))+1))+1))+1))+1),C:=x34.High.C}:Version)}:Term)).set s20.2.2.toNat ({Name:=x36.Name,Low:=x36.Low,High:=({A:=x36.High.A,B:=x36.High.B,C:=w64 ((w64 ((w64 ((w64 ((w64 ((w64 (s20.2.1+1))+1))+1))+1))+1))+1)}:Version)}:Term)))]) (by simp only [rr,List.length_set]) ?_
  refine J_g 3448831 [] [(0,rr 0 (((((((s20.1.set s20.2.2.toNat ({Name:=x22,Low:=x24.Low,High:=x24.High}:Term)).set s20.2.2.toNat ({Name:=x26.Name,Low:=({A:=w64 (s20.2.1+1),B:=x26.Low.B,C:=x26.Low.C}:Version),High:=x26.High}:Term)).set s20.2.2.toNat ({Name:=x28.Name,Low:=({A:=x28.Low.A,B:=w64 ((w64 (s20.2.1+1))+1),C:=x28.Low.C}:Version),High:=x28.High}:Term)).set s20.2.2.toNat ({Name:=x30.Name,Low:=({A:=x30.Low.A,B:=x30.Low.B,C:=w64 ((w64 ((w64 (s20.2.1+1))+1))+1)}:Version),High:=x30.High}:Term)).set s20.2.2.toNat ({Name:=x32.Name,Low:=x32.Low,High:=({A:=w64 ((w64 ((w64 ((w64 (s20.2.1+1))+1))+1))+1),B:=x32.High.B,C:=x32.High.C}:Version)}:Term)).set s20.2.2.toNat ({Name:=x34.Name,Low:=x34.Low,High:=({A:=x34.High.A,B:=w64 ((w64 ((w64 ((w64 ((w64 (s20.2.1+1))+1))+1))+1))+1),C:=x34.High.C}:Version)}:Term)).set s20.2.2.toNat ({Name:=x36.Name,Low:=x36.Low,High:=({A:=x36.High.A,B:=x36.High.B,C:=w64 ((w64 ((w64 ((w64 ((w64 ((w64 (s20.2.1+1))+1))+1))+1))+1))+1)}:Version)}:Term))),(1,iv (w64 ((w64 ((w64 ((w64 ((w64 ((w64 ((w64 (s20.2.1+1))+1))+1))+1))+1))+1))+1))),(5,iv s20.2.2)] [(0,rE 7 Term.enc (((((((s20.1.set s20.2.2.toNat ({Name:=x22,Low:=x24.Low,High:=x24.High}:Term)).set s20.2.2.toNat ({Name:=x26.Name,Low:=({A:=w64 (s20.2.1+1),B:=x26.Low.B,C:=x26.Low.C}:Version),High:=x26.High}:Term)).set s20.2.2.toNat ({Name:=x28.Name,Low:=({A:=x28.Low.A,B:=w64 ((w64 (s20.2.1+1))+1),C:=x28.Low.C}:Version),High:=x28.High}:Term)).set s20.2.2.toNat ({Name:=x30.Name,Low:=({A:=x30.Low.A,B:=x30.Low.B,C:=w64 ((w64 ((w64 (s20.2.1+1))+1))+1)}:Version),High:=x30.High}:Term)).set s20.2.2.toNat ({Name:=x32.Name,Low:=x32.Low,High:=({A:=w64 ((w64 ((w64 ((w64 (s20.2.1+1))+1))+1))+1),B:=x32.High.B,C:=x32.High.C}:Version)}:Term)).set s20.2.2.toNat ({Name:=x34.Name,Low:=x34.Low,High:=({A:=x34.High.A,B:=w64 ((w64 ((w64 ((w64 ((w64 (s20.2.1+1))+1))+1))+1))+1),C:=x34.High.C}:Version)}:Term)).set s20.2.2.toNat ({Name:=x36.Name,Low:=x36.Low,High:=({A:=x36.High.A,B:=x36.High.B,C:=w64 ((w64 ((w64 ((w64 ((w64 ((w64 (s20.2.1+1))+1))+1))+1))+1))+1)}:Version)}:Term)))] zB ?_
  refine J_d 211 [] [5] [(5,iv (w64 (s20.2.2+1)))] [] [] zB ?_
  exact J_q (J_b (ih (((((((s20.1.set s20.2.2.toNat ({Name:=x22,Low:=x24.Low,High:=x24.High}:Term)).set s20.2.2.toNat ({Name:=x26.Name,Low:=({A:=w64 (s20.2.1+1),B:=x26.Low.B,C:=x26.Low.C}:Version),High:=x26.High}:Term)).set s20.2.2.toNat ({Name:=x28.Name,Low:=({A:=x28.Low.A,B:=w64 ((w64 (s20.2.1+1))+1),C:=x28.Low.C}:Version),High:=x28.High}:Term)).set s20.2.2.toNat ({Name:=x30.Name,Low:=({A:=x30.Low.A,B:=x30.Low.B,C:=w64 ((w64 ((w64 (s20.2.1+1))+1))+1)}:Version),High:=x30.High}:Term)).set s20.2.2.toNat ({Name:=x32.Name,Low:=x32.Low,High:=({A:=w64 ((w64 ((w64 ((w64 (s20.2.1+1))+1))+1))+1),B:=x32.High.B,C:=x32.High.C}:Version)}:Term)).set s20.2.2.toNat ({Name:=x34.Name,Low:=x34.Low,High:=({A:=x34.High.A,B:=w64 ((w64 ((w64 ((w64 ((w64 (s20.2.1+1))+1))+1))+1))+1),C:=x34.High.C}:Version)}:Term)).set s20.2.2.toNat ({Name:=x36.Name,Low:=x36.Low,High:=({A:=x36.High.A,B:=x36.High.B,C:=w64 ((w64 ((w64 ((w64 ((w64 ((w64 (s20.2.1+1))+1))+1))+1))+1))+1)}:Version)}:Term),w64 ((w64 ((w64 ((w64 ((w64 ((w64 ((w64 (s20.2.1+1))+1))+1))+1))+1))+1))+1),w64 (s20.2.2+1)))) rfl
 ·exact yP (hk (s20.1,s20.2.1)) rfl
theorem vL.ok (a1:(List Term)) (a2:Int):Ok Tryz.prog 58 [rr 0 a1,iv a2] [rE 7 Term.enc a1] ((vL a1 a2).map fun r=>(iv r.1,[rE 7 Term.enc r.2])):=by
 refine zH c58 Tryz.f58 1 69 (fun q=>?_)
 unfold vL
 refine J_g 2 [] [(0,rr 0 a1),(1,iv a2)] [(0,rE 7 Term.enc a1)] zB ?_
 refine J_d 12 [] [5] [(5,iv 0)] [] [] zB ?_
 refine zEG (zAd.ok q _ (fun v38=>J_j ?_) (a1,a2,0))
 refine J_d 14 [] [1,4] [(4,iv v38.2)] [] [] zB ?_
 exact zT rfl
noncomputable def c57:Code:=(Tryz.f57.body).getD .skip
theorem kM.ok (q:Wd) (kn:((List (List Term))×Int)→Option (D×List Ent)) (hk:∀v:((List (List Term))×Int),J (q.g Tryz.prog 57 1 19) c57 (atI c57 7) (St.mk' [(1,iv v.2)] [(0,rE 1 (eSl true 7 Term.enc) v.1)]) (some v) kn):
  ∀s10:((List (List Term))×Int×Int),J (q.g Tryz.prog 57 1 19) c57 (atI c57 52) (St.mk' [(0,rr 0 s10.1),(1,iv s10.2.1),(5,iv s10.2.2)] [(0,rE 1 (eSl true 7 Term.enc) s10.1)]) (kM s10) kn:=by
 refine zA6 (fun g ih s10=>?_)
 unfold tV
 refine J_d 208 [] [9] [(9,bv (decide (s10.2.2< (s10.1.length:Int))))] [] [] zB ?_
 refine zC 9 (fun h11=>?_) (fun h11=>?_)
 ·refine zA (fun x12 h13=>?_)
  refine zGb (ix:=s10.2.2) (enc:=(eSl true 7 Term.enc)) 0 0 1 h13 rfl rfl (by kernel_rfl) ?_
  refine zFu [(0,rr 0 s10.1),(1,iv s10.2.1),(5,iv s10.2.2),(9,bv true)] [(0,.lent 1 (s10.1.map (eSl true 7 Term.enc)) s10.2.2.toNat 0 1 x12.length),(1,rE 7 Term.enc x12)] (by kernel_rfl) ?_
  refine zA (fun x14 h15=>?_)
  refine J_g 420 [] [(0,rr 0 s10.1),(1,iv x14.1),(5,iv s10.2.2)] [(0,.lent 1 (s10.1.map (eSl true 7 Term.enc)) s10.2.2.toNat 0 1 x12.length),(1,rE 7 Term.enc x14.2)] (zD 2 (zLi (kk:=.i64) 87 53 1 0 (eSl true 7 Term.enc) (.tmp 12) (.tmp 13) s10.2.2.toNat 0 1 x12.length h13) (zD 3 (zLg 53 0 (.tmp 14) 1 (eSl true 7 Term.enc) s10.1 s10.2.2.toNat 0 1 x12.length) (zD 5 (uW («as»:=[rr 1 x12,iv s10.2.1]) [(.tmp 15),(.tmp 16)] [53,3] false [(1,rE 7 Term.enc x12)] [1] (.cons (.rf rfl) (.cons (.same rfl) (.nil))) (vL.ok x12 s10.2.1) h15 (.same rfl rfl)) zB))) ?_
  refine zA (fun u16 h17=>?_)
  refine zFN (ix:=s10.2.2) (enc:=(eSl true 7 Term.enc)) (b:=x14.2) 0 0 1 h13 rfl rfl rfl rfl (zBh h17) (Nat.le_of_ble_eq_true rfl) ((List.length_map _).trans (zBh h17)) ?_
  refine zFu [(0,rr 0 s10.1),(1,iv x14.1),(5,iv s10.2.2)] [(0,rE 1 (eSl true 7 Term.enc) (s10.1.set s10.2.2.toNat x14.2))] (by kernel_rfl) ?_
  refine zDH (σ':=St.mk' [(0,rr 0 (s10.1.set s10.2.2.toNat x14.2)),(1,iv x14.1),(5,iv s10.2.2)] [(0,rE 1 (eSl true 7 Term.enc) (s10.1.set s10.2.2.toNat x14.2))]) (by simp only [rr,List.length_set]) ?_
  refine J_d 211 [] [5] [(5,iv (w64 (s10.2.2+1)))] [] [] zB ?_
  exact J_q (J_b (ih (s10.1.set s10.2.2.toNat x14.2,x14.1,w64 (s10.2.2+1)))) rfl
 ·exact yP (hk (s10.1,s10.2.1)) rfl
theorem tH.ok (a1:(List (List Term))) (a2:Int):Ok Tryz.prog 57 [rr 0 a1,iv a2] [rE 1 (eSl true 7 Term.enc) a1] ((tH a1 a2).map fun r=>(iv r.1,[rE 1 (eSl true 7 Term.enc) r.2])):=by
 refine zH c57 Tryz.f57 1 19 (fun q=>?_)
 unfold tH
 refine J_g 2 [] [(0,rr 0 a1),(1,iv a2)] [(0,rE 1 (eSl true 7 Term.enc) a1)] zB ?_
 refine J_d 12 [] [5] [(5,iv 0)] [] [] zB ?_
 refine zEG (kM.ok q _ (fun v18=>J_j ?_) (a1,a2,0))
 refine J_d 14 [] [1,4] [(4,iv v18.2)] [] [] zB ?_
 exact zT rfl
noncomputable def c15:Code:=(Tryz.f15.body).getD .skip
theorem zAb.ok (q:Wd) (kn:((List Pack)×Int)→Option (D×List Ent)) (hk:∀v:((List Pack)×Int),J (q.g Tryz.prog 15 1 73) c15 (atI c15 7) (St.mk' [(1,iv v.2)] [(0,rE 8 (Pack.enc true) v.1)]) (some v) kn):
  ∀s34:((List Pack)×Int×Int),J (q.g Tryz.prog 15 1 73) c15 (atI c15 52) (St.mk' [(0,rr 0 s34.1),(1,iv s34.2.1),(5,iv s34.2.2)] [(0,rE 8 (Pack.enc true) s34.1)]) (zAb s34) kn:=by
 refine zA6 (fun g ih s34=>?_)
 unfold kK
 refine J_d 208 [] [9] [(9,bv (decide (s34.2.2< (s34.1.length:Int))))] [] [] zB ?_
 refine zC 9 (fun h35=>?_) (fun h35=>?_)
 ·refine zA (fun x36 h37=>?_)
  refine zA (fun x38 h39=>?_)
  refine J_g 840 [] [(0,rr 0 s34.1),(1,iv s34.2.1),(5,iv s34.2.2)] [(0,rE 8 (Pack.enc true) (s34.1.set s34.2.2.toNat ({Name:=x36,Version:=x38.Version,Size:=x38.Size,Provides:=x38.Provides,Needs:=x38.Needs,Bars:=x38.Bars}:Pack)))] (zD 3 (xE [(.tmp 14)] [3] (yY.ok s34.2.1) h37) (zD 4 (uH (kk:=.i64) 24 89 8 0 (Pack.enc true) (.tmp 12) (.tmp 13) h39) (zEC 6 (zFB (b:=({Name:=x36,Version:=x38.Version,Size:=x38.Size,Provides:=x38.Provides,Needs:=x38.Needs,Bars:=x38.Bars}:Pack)) 9 8 0 0 (Pack.enc true) (sv x36) (.tmp 17) (.tmp 15) h39 rfl) zB))) ?_
  refine zDH (σ':=St.mk' [(0,rr 0 (s34.1.set s34.2.2.toNat ({Name:=x36,Version:=x38.Version,Size:=x38.Size,Provides:=x38.Provides,Needs:=x38.Needs,Bars:=x38.Bars}:Pack))),(1,iv s34.2.1),(5,iv s34.2.2)] [(0,rE 8 (Pack.enc true) (s34.1.set s34.2.2.toNat ({Name:=x36,Version:=x38.Version,Size:=x38.Size,Provides:=x38.Provides,Needs:=x38.Needs,Bars:=x38.Bars}:Pack)))]) (by simp only [rr,List.length_set]) ?_
  refine J_d 1682 [] [1] [(1,iv (w64 (s34.2.1+1)))] [] [] zB ?_
  refine zA (fun x40 h41=>?_)
  refine J_g 3366 [] [(0,rr 0 (s34.1.set s34.2.2.toNat ({Name:=x36,Version:=x38.Version,Size:=x38.Size,Provides:=x38.Provides,Needs:=x38.Needs,Bars:=x38.Bars}:Pack))),(1,iv (w64 (s34.2.1+1))),(5,iv s34.2.2)] [(0,rE 8 (Pack.enc true) ((s34.1.set s34.2.2.toNat ({Name:=x36,Version:=x38.Version,Size:=x38.Size,Provides:=x38.Provides,Needs:=x38.Needs,Bars:=x38.Bars}:Pack)).set s34.2.2.toNat ({Name:=x40.Name,Version:=({A:=w64 (s34.2.1+1),B:=x40.Version.B,C:=x40.Version.C}:Version),Size:=x40.Size,Provides:=x40.Provides,Needs:=x40.Needs,Bars:=x40.Bars}:Pack)))] (zD 3 (uH (kk:=.i64) 24 89 8 0 (Pack.enc true) (.tmp 20) (.tmp 21) h41) (zEC 6 (zFB (b:=({Name:=x40.Name,Version:=({A:=w64 (s34.2.1+1),B:=x40.Version.B,C:=x40.Version.C}:Version),Size:=x40.Size,Provides:=x40.Provides,Needs:=x40.Needs,Bars:=x40.Bars}:Pack)) 2 8 0 1 (Pack.enc true) (iv (w64 (s34.2.1+1))) (.tmp 25) (.tmp 22) h41 rfl) zB)) ?_
  refine zDH (σ':=St.mk' [(0,rr 0 ((s34.1.set s34.2.2.toNat ({Name:=x36,Version:=x38.Version,Size:=x38.Size,Provides:=x38.Provides,Needs:=x38.Needs,Bars:=x38.Bars}:Pack)).set s34.2.2.toNat ({Name:=x40.Name,Version:=({A:=w64 (s34.2.1+1),B:=x40.Version.B,C:=x40.Version.C}:Version),Size:=x40.Size,Provides:=x40.Provides,Needs:=x40.Needs,Bars:=x40.Bars}:Pack))),(1,iv (w64 (s34.2.1+1))),(5,iv s34.2.2)] [(0,rE 8 (Pack.enc true) ((s34.1.set s34.2.2.toNat ({Name:=x36,Version:=x38.Version,Size:=x38.Size,Provides:=x38.Provides,Needs:=x38.Needs,Bars:=x38.Bars}:Pack)).set s34.2.2.toNat ({Name:=x40.Name,Version:=({A:=w64 (s34.2.1+1),B:=x40.Version.B,C:=x40.Version.C}:Version),Size:=x40.Size,Provides:=x40.Provides,Needs:=x40.Needs,Bars:=x40.Bars}:Pack)))]) (by simp only [rr,List.length_set]) ?_
  refine J_d 6734 [] [1] [(1,iv (w64 ((w64 (s34.2.1+1))+1)))] [] [] zB ?_
  refine zA (fun x42 h43=>?_)
  refine J_g 13470 [] [(0,rr 0 ((s34.1.set s34.2.2.toNat ({Name:=x36,Version:=x38.Version,Size:=x38.Size,Provides:=x38.Provides,Needs:=x38.Needs,Bars:=x38.Bars}:Pack)).set s34.2.2.toNat ({Name:=x40.Name,Version:=({A:=w64 (s34.2.1+1),B:=x40.Version.B,C:=x40.Version.C}:Version),Size:=x40.Size,Provides:=x40.Provides,Needs:=x40.Needs,Bars:=x40.Bars}:Pack))),(1,iv (w64 ((w64 (s34.2.1+1))+1))),(5,iv s34.2.2)] [(0,rE 8 (Pack.enc true) (((s34.1.set s34.2.2.toNat ({Name:=x36,Version:=x38.Version,Size:=x38.Size,Provides:=x38.Provides,Needs:=x38.Needs,Bars:=x38.Bars}:Pack)).set s34.2.2.toNat ({Name:=x40.Name,Version:=({A:=w64 (s34.2.1+1),B:=x40.Version.B,C:=x40.Version.C}:Version),Size:=x40.Size,Provides:=x40.Provides,Needs:=x40.Needs,Bars:=x40.Bars}:Pack)).set s34.2.2.toNat ({Name:=x42.Name,Version:=({A:=x42.Version.A,B:=w64 ((w64 (s34.2.1+1))+1),C:=x42.Version.C}:Version),Size:=x42.Size,Provides:=x42.Provides,Needs:=x42.Needs,Bars:=x42.Bars}:Pack)))] (zD 3 (uH (kk:=.i64) 24 89 8 0 (Pack.enc true) (.tmp 28) (.tmp 29) h43) (zEC 6 (zFB (b:=({Name:=x42.Name,Version:=({A:=x42.Version.A,B:=w64 ((w64 (s34.2.1+1))+1),C:=x42.Version.C}:Version),Size:=x42.Size,Provides:=x42.Provides,Needs:=x42.Needs,Bars:=x42.Bars}:Pack)) 2 8 0 2 (Pack.enc true) (iv (w64 ((w64 (s34.2.1+1))+1))) (.tmp 33) (.tmp 30) h43 rfl) zB)) ?_
  refine zDH (σ':=St.mk' [(0,rr 0 (((s34.1.set s34.2.2.toNat ({Name:=x36,Version:=x38.Version,Size:=x38.Size,Provides:=x38.Provides,Needs:=x38.Needs,Bars:=x38.Bars}:Pack)).set s34.2.2.toNat ({Name:=x40.Name,Version:=({A:=w64 (s34.2.1+1),B:=x40.Version.B,C:=x40.Version.C}:Version),Size:=x40.Size,Provides:=x40.Provides,Needs:=x40.Needs,Bars:=x40.Bars}:Pack)).set s34.2.2.toNat ({Name:=x42.Name,Version:=({A:=x42.Version.A,B:=w64 ((w64 (s34.2.1+1))+1),C:=x42.Version.C}:Version),Size:=x42.Size,Provides:=x42.Provides,Needs:=x42.Needs,Bars:=x42.Bars}:Pack))),(1,iv (w64 ((w64 (s34.2.1+1))+1))),(5,iv s34.2.2)] [(0,rE 8 (Pack.enc true) (((s34.1.set s34.2.2.toNat ({Name:=x36,Version:=x38.Version,Size:=x38.Size,Provides:=x38.Provides,Needs:=x38.Needs,Bars:=x38.Bars}:Pack)).set s34.2.2.toNat ({Name:=x40.Name,Version:=({A:=w64 (s34.2.1+1),B:=x40.Version.B,C:=x40.Version.C}:Version),Size:=x40.Size,Provides:=x40.Provides,Needs:=x40.Needs,Bars:=x40.Bars}:Pack)).set s34.2.2.toNat ({Name:=x42.Name,Version:=({A:=x42.Version.A,B:=w64 ((w64 (s34.2.1+1))+1),C:=x42.Version.C}:Version),Size:=x42.Size,Provides:=x42.Provides,Needs:=x42.Needs,Bars:=x42.Bars}:Pack)))]) (by simp only [rr,List.length_set]) ?_
  refine J_d 26942 [] [1] [(1,iv (w64 ((w64 ((w64 (s34.2.1+1))+1))+1)))] [] [] zB ?_
  refine zA (fun x44 h45=>?_)
  refine J_g 53886 [] [(0,rr 0 (((s34.1.set s34.2.2.toNat ({Name:=x36,Version:=x38.Version,Size:=x38.Size,Provides:=x38.Provides,Needs:=x38.Needs,Bars:=x38.Bars}:Pack)).set s34.2.2.toNat ({Name:=x40.Name,Version:=({A:=w64 (s34.2.1+1),B:=x40.Version.B,C:=x40.Version.C}:Version),Size:=x40.Size,Provides:=x40.Provides,Needs:=x40.Needs,Bars:=x40.Bars}:Pack)).set s34.2.2.toNat ({Name:=x42.Name,Version:=({A:=x42.Version.A,B:=w64 ((w64 (s34.2.1+1))+1),C:=x42.Version.C}:Version),Size:=x42.Size,Provides:=x42.Provides,Needs:=x42.Needs,Bars:=x42.Bars}:Pack))),(1,iv (w64 ((w64 ((w64 (s34.2.1+1))+1))+1))),(5,iv s34.2.2)] [(0,rE 8 (Pack.enc true) ((((s34.1.set s34.2.2.toNat ({Name:=x36,Version:=x38.Version,Size:=x38.Size,Provides:=x38.Provides,Needs:=x38.Needs,Bars:=x38.Bars}:Pack)).set s34.2.2.toNat ({Name:=x40.Name,Version:=({A:=w64 (s34.2.1+1),B:=x40.Version.B,C:=x40.Version.C}:Version),Size:=x40.Size,Provides:=x40.Provides,Needs:=x40.Needs,Bars:=x40.Bars}:Pack)).set s34.2.2.toNat ({Name:=x42.Name,Version:=({A:=x42.Version.A,B:=w64 ((w64 (s34.2.1+1))+1),C:=x42.Version.C}:Version),Size:=x42.Size,Provides:=x42.Provides,Needs:=x42.Needs,Bars:=x42.Bars}:Pack)).set s34.2.2.toNat ({Name:=x44.Name,Version:=({A:=x44.Version.A,B:=x44.Version.B,C:=w64 ((w64 ((w64 (s34.2.1+1))+1))+1)}:Version),Size:=x44.Size,Provides:=x44.Provides,Needs:=x44.Needs,Bars:=x44.Bars}:Pack)))] (zD 3 (uH (kk:=.i64) 24 89 8 0 (Pack.enc true) (.tmp 36) (.tmp 37) h45) (zEC 6 (zFB (b:=({Name:=x44.Name,Version:=({A:=x44.Version.A,B:=x44.Version.B,C:=w64 ((w64 ((w64 (s34.2.1+1))+1))+1)}:Version),Size:=x44.Size,Provides:=x44.Provides,Needs:=x44.Needs,Bars:=x44.Bars}:Pack)) 2 8 0 3 (Pack.enc true) (iv (w64 ((w64 ((w64 (s34.2.1+1))+1))+1))) (.tmp 41) (.tmp 38) h45 rfl) zB)) ?_
  refine zDH (σ':=St.mk' [(0,rr 0 ((((s34.1.set s34.2.2.toNat ({Name:=x36,Version:=x38.Version,Size:=x38.Size,Provides:=x38.Provides,Needs:=x38.Needs,Bars:=x38.Bars}:Pack)).set s34.2.2.toNat ({Name:=x40.Name,Version:=({A:=w64 (s34.2.1+1),B:=x40.Version.B,C:=x40.Version.C}:Version),Size:=x40.Size,Provides:=x40.Provides,Needs:=x40.Needs,Bars:=x40.Bars}:Pack)).set s34.2.2.toNat ({Name:=x42.Name,Version:=({A:=x42.Version.A,B:=w64 ((w64 (s34.2.1+1))+1),C:=x42.Version.C}:Version),Size:=x42.Size,Provides:=x42.Provides,Needs:=x42.Needs,Bars:=x42.Bars}:Pack)).set s34.2.2.toNat ({Name:=x44.Name,Version:=({A:=x44.Version.A,B:=x44.Version.B,C:=w64 ((w64 ((w64 (s34.2.1+1))+1))+1)}:Version),Size:=x44.Size,Provides:=x44.Provides,Needs:=x44.Needs,Bars:=x44.Bars}:Pack))),(1,iv (w64 ((w64 ((w64 (s34.2.1+1))+1))+1))),(5,iv s34.2.2)] [(0,rE 8 (Pack.enc true) ((((s34.1.set s34.2.2.toNat ({Name:=x36,Version:=x38.Version,Size:=x38.Size,Provides:=x38.Provides,Needs:=x38.Needs,Bars:=x38.Bars}:Pack)).set s34.2.2.toNat ({Name:=x40.Name,Version:=({A:=w64 (s34.2.1+1),B:=x40.Version.B,C:=x40.Version.C}:Version),Size:=x40.Size,Provides:=x40.Provides,Needs:=x40.Needs,Bars:=x40.Bars}:Pack)).set s34.2.2.toNat ({Name:=x42.Name,Version:=({A:=x42.Version.A,B:=w64 ((w64 (s34.2.1+1))+1),C:=x42.Version.C}:Version),Size:=x42.Size,Provides:=x42.Provides,Needs:=x42.Needs,Bars:=x42.Bars}:Pack)).set s34.2.2.toNat ({Name:=x44.Name,Version:=({A:=x44.Version.A,B:=x44.Version.B,C:=w64 ((w64 ((w64 (s34.2.1+1))+1))+1)}:Version),Size:=x44.Size,Provides:=x44.Provides,Needs:=x44.Needs,Bars:=x44.Bars}:Pack)))]) (by simp only [rr,List.length_set]) ?_
  refine J_d 107774 [] [1] [(1,iv (w64 ((w64 ((w64 ((w64 (s34.2.1+1))+1))+1))+1)))] [] [] zB ?_
  refine zA (fun x46 h47=>?_)
  refine J_g 215550 [] [(0,rr 0 ((((s34.1.set s34.2.2.toNat ({Name:=x36,Version:=x38.Version,Size:=x38.Size,Provides:=x38.Provides,Needs:=x38.Needs,Bars:=x38.Bars}:Pack)).set s34.2.2.toNat ({Name:=x40.Name,Version:=({A:=w64 (s34.2.1+1),B:=x40.Version.B,C:=x40.Version.C}:Version),Size:=x40.Size,Provides:=x40.Provides,Needs:=x40.Needs,Bars:=x40.Bars}:Pack)).set s34.2.2.toNat ({Name:=x42.Name,Version:=({A:=x42.Version.A,B:=w64 ((w64 (s34.2.1+1))+1),C:=x42.Version.C}:Version),Size:=x42.Size,Provides:=x42.Provides,Needs:=x42.Needs,Bars:=x42.Bars}:Pack)).set s34.2.2.toNat ({Name:=x44.Name,Version:=({A:=x44.Version.A,B:=x44.Version.B,C:=w64 ((w64 ((w64 (s34.2.1+1))+1))+1)}:Version),Size:=x44.Size,Provides:=x44.Provides,Needs:=x44.Needs,Bars:=x44.Bars}:Pack))),(1,iv (w64 ((w64 ((w64 ((w64 (s34.2.1+1))+1))+1))+1))),(5,iv s34.2.2)] [(0,rE 8 (Pack.enc true) (((((s34.1.set s34.2.2.toNat ({Name:=x36,Version:=x38.Version,Size:=x38.Size,Provides:=x38.Provides,Needs:=x38.Needs,Bars:=x38.Bars}:Pack)).set s34.2.2.toNat ({Name:=x40.Name,Version:=({A:=w64 (s34.2.1+1),B:=x40.Version.B,C:=x40.Version.C}:Version),Size:=x40.Size,Provides:=x40.Provides,Needs:=x40.Needs,Bars:=x40.Bars}:Pack)).set s34.2.2.toNat ({Name:=x42.Name,Version:=({A:=x42.Version.A,B:=w64 ((w64 (s34.2.1+1))+1),C:=x42.Version.C}:Version),Size:=x42.Size,Provides:=x42.Provides,Needs:=x42.Needs,Bars:=x42.Bars}:Pack)).set s34.2.2.toNat ({Name:=x44.Name,Version:=({A:=x44.Version.A,B:=x44.Version.B,C:=w64 ((w64 ((w64 (s34.2.1+1))+1))+1)}:Version),Size:=x44.Size,Provides:=x44.Provides,Needs:=x44.Needs,Bars:=x44.Bars}:Pack)).set s34.2.2.toNat ({Name:=x46.Name,Version:=x46.Version,Size:=w64 ((w64 ((w64 ((w64 (s34.2.1+1))+1))+1))+1),Provides:=x46.Provides,Needs:=x46.Needs,Bars:=x46.Bars}:Pack)))] (zD 3 (uH (kk:=.i64) 24 89 8 0 (Pack.enc true) (.tmp 44) (.tmp 45) h47) (zEC 5 (zFB (b:=({Name:=x46.Name,Version:=x46.Version,Size:=w64 ((w64 ((w64 ((w64 (s34.2.1+1))+1))+1))+1),Provides:=x46.Provides,Needs:=x46.Needs,Bars:=x46.Bars}:Pack)) 2 8 0 4 (Pack.enc true) (iv (w64 ((w64 ((w64 ((w64 (s34.2.1+1))+1))+1))+1))) (.tmp 48) (.tmp 46) h47 rfl) zB)) ?_
  refine zDH (σ':=St.mk' [(0,rr 0 (((((s34.1.set s34.2.2.toNat ({Name:=x36,Version:=x38.Version,Size:=x38.Size,Provides:=x38.Provides,Needs:=x38.Needs,Bars:=x38.Bars}:Pack)).set s34.2.2.toNat ({Name:=x40.Name,Version:=({A:=w64 (s34.2.1+1),B:=x40.Version.B,C:=x40.Version.C}:Version),Size:=x40.Size,Provides:=x40.Provides,Needs:=x40.Needs,Bars:=x40.Bars}:Pack)).set s34.2.2.toNat ({Name:=x42.Name,Version:=({A:=x42.Version.A,B:=w64 ((w64 (s34.2.1+1))+1),C:=x42.Version.C}:Version),Size:=x42.Size,Provides:=x42.Provides,Needs:=x42.Needs,Bars:=x42.Bars}:Pack)).set s34.2.2.toNat ({Name:=x44.Name,Version:=({A:=x44.Version.A,B:=x44.Version.B,C:=w64 ((w64 ((w64 (s34.2.1+1))+1))+1)}:Version),Size:=x44.Size,Provides:=x44.Provides,Needs:=x44.Needs,Bars:=x44.Bars}:Pack)).set s34.2.2.toNat ({Name:=x46.Name,Version:=x46.Version,Size:=w64 ((w64 ((w64 ((w64 (s34.2.1+1))+1))+1))+1),Provides:=x46.Provides,Needs:=x46.Needs,Bars:=x46.Bars}:Pack))),(1,iv (w64 ((w64 ((w64 ((w64 (s34.2.1+1))+1))+1))+1))),(5,iv s34.2.2)] [(0,rE 8 (Pack.enc true) (((((s34.1.set s34.2.2.toNat ({Name:=x36,Version:=x38.Version,Size:=x38.Size,Provides:=x38.Provides,Needs:=x38.Needs,Bars:=x38.Bars}:Pack)).set s34.2.2.toNat ({Name:=x40.Name,Version:=({A:=w64 (s34.2.1+1),B:=x40.Version.B,C:=x40.Version.C}:Version),Size:=x40.Size,Provides:=x40.Provides,Needs:=x40.Needs,Bars:=x40.Bars}:Pack)).set s34.2.2.toNat ({Name:=x42.Name,Version:=({A:=x42.Version.A,B:=w64 ((w64 (s34.2.1+1))+1),C:=x42.Version.C}:Version),Size:=x42.Size,Provides:=x42.Provides,Needs:=x42.Needs,Bars:=x42.Bars}:Pack)).set s34.2.2.toNat ({Name:=x44.Name,Version:=({A:=x44.Version.A,B:=x44.Version.B,C:=w64 ((w64 ((w64 (s34.2.1+1))+1))+1)}:Version),Size:=x44.Size,Provides:=x44.Provides,Needs:=x44.Needs,Bars:=x44.Bars}:Pack)).set s34.2.2.toNat ({Name:=x46.Name,Version:=x46.Version,Size:=w64 ((w64 ((w64 ((w64 (s34.2.1+1))+1))+1))+1),Provides:=x46.Provides,Needs:=x46.Needs,Bars:=x46.Bars}:Pack)))]) (by simp only [rr,List.length_set]) ?_
  refine J_d 431102 [] [1] [(1,iv (w64 ((w64 ((w64 ((w64 ((w64 (s34.2.1+1))+1))+1))+1))+1)))] [] [] zB ?_
  refine zA (fun x48 h49=>?_)
  refine zGb (ix:=s34.2.2) (enc:=(Pack.enc true)) 0 5 1 h49 rfl rfl (by kernel_rfl) ?_
  refine zFu [(0,rr 0 (((((s34.1.set s34.2.2.toNat ({Name:=x36,Version:=x38.Version,Size:=x38.Size,Provides:=x38.Provides,Needs:=x38.Needs,Bars:=x38.Bars}:Pack)).set s34.2.2.toNat ({Name:=x40.Name,Version:=({A:=w64 (s34.2.1+1),B:=x40.Version.B,C:=x40.Version.C}:Version),Size:=x40.Size,Provides:=x40.Provides,Needs:=x40.Needs,Bars:=x40.Bars}:Pack)).set s34.2.2.toNat ({Name:=x42.Name,Version:=({A:=x42.Version.A,B:=w64 ((w64 (s34.2.1+1))+1),C:=x42.Version.C}:Version),Size:=x42.Size,Provides:=x42.Provides,Needs:=x42.Needs,Bars:=x42.Bars}:Pack)).set s34.2.2.toNat ({Name:=x44.Name,Version:=({A:=x44.Version.A,B:=x44.Version.B,C:=w64 ((w64 ((w64 (s34.2.1+1))+1))+1)}:Version),Size:=x44.Size,Provides:=x44.Provides,Needs:=x44.Needs,Bars:=x44.Bars}:Pack)).set s34.2.2.toNat ({Name:=x46.Name,Version:=x46.Version,Size:=w64 ((w64 ((w64 ((w64 (s34.2.1+1))+1))+1))+1),Provides:=x46.Provides,Needs:=x46.Needs,Bars:=x46.Bars}:Pack))),(1,iv (w64 ((w64 ((w64 ((w64 ((w64 (s34.2.1+1))+1))+1))+1))+1))),(5,iv s34.2.2)] [(0,.lent 8 ((((((s34.1.set s34.2.2.toNat ({Name:=x36,Version:=x38.Version,Size:=x38.Size,Provides:=x38.Provides,Needs:=x38.Needs,Bars:=x38.Bars}:Pack)).set s34.2.2.toNat ({Name:=x40.Name,Version:=({A:=w64 (s34.2.1+1),B:=x40.Version.B,C:=x40.Version.C}:Version),Size:=x40.Size,Provides:=x40.Provides,Needs:=x40.Needs,Bars:=x40.Bars}:Pack)).set s34.2.2.toNat ({Name:=x42.Name,Version:=({A:=x42.Version.A,B:=w64 ((w64 (s34.2.1+1))+1),C:=x42.Version.C}:Version),Size:=x42.Size,Provides:=x42.Provides,Needs:=x42.Needs,Bars:=x42.Bars}:Pack)).set s34.2.2.toNat ({Name:=x44.Name,Version:=({A:=x44.Version.A,B:=x44.Version.B,C:=w64 ((w64 ((w64 (s34.2.1+1))+1))+1)}:Version),Size:=x44.Size,Provides:=x44.Provides,Needs:=x44.Needs,Bars:=x44.Bars}:Pack)).set s34.2.2.toNat ({Name:=x46.Name,Version:=x46.Version,Size:=w64 ((w64 ((w64 ((w64 (s34.2.1+1))+1))+1))+1),Provides:=x46.Provides,Needs:=x46.Needs,Bars:=x46.Bars}:Pack)).map (Pack.enc true)) s34.2.2.toNat 5 1 x48.Provides.length),(1,rE 1 eStr x48.Provides)] (by kernel_rfl) ?_
  refine zA (fun x50 h51=>?_)
  refine J_g 862206 [] [(0,rr 0 (((((s34.1.set s34.2.2.toNat ({Name:=x36,Version:=x38.Version,Size:=x38.Size,Provides:=x38.Provides,Needs:=x38.Needs,Bars:=x38.Bars}:Pack)).set s34.2.2.toNat ({Name:=x40.Name,Version:=({A:=w64 (s34.2.1+1),B:=x40.Version.B,C:=x40.Version.C}:Version),Size:=x40.Size,Provides:=x40.Provides,Needs:=x40.Needs,Bars:=x40.Bars}:Pack)).set s34.2.2.toNat ({Name:=x42.Name,Version:=({A:=x42.Version.A,B:=w64 ((w64 (s34.2.1+1))+1),C:=x42.Version.C}:Version),Size:=x42.Size,Provides:=x42.Provides,Needs:=x42.Needs,Bars:=x42.Bars}:Pack)).set s34.2.2.toNat ({Name:=x44.Name,Version:=({A:=x44.Version.A,B:=x44.Version.B,C:=w64 ((w64 ((w64 (s34.2.1+1))+1))+1)}:Version),Size:=x44.Size,Provides:=x44.Provides,Needs:=x44.Needs,Bars:=x44.Bars}:Pack)).set s34.2.2.toNat ({Name:=x46.Name,Version:=x46.Version,Size:=w64 ((w64 ((w64 ((w64 (s34.2.1+1))+1))+1))+1),Provides:=x46.Provides,Needs:=x46.Needs,Bars:=x46.Bars}:Pack))),(1,iv x50.1),(5,iv s34.2.2)] [(0,.lent 8 ((((((s34.1.set s34.2.2.toNat ({Name:=x36,Version:=x38.Version,Size:=x38.Size,Provides:=x38.Provides,Needs:=x38.Needs,Bars:=x38.Bars}:Pack)).set s34.2.2.toNat ({Name:=x40.Name,Version:=({A:=w64 (s34.2.1+1),B:=x40.Version.B,C:=x40.Version.C}:Version),Size:=x40.Size,Provides:=x40.Provides,Needs:=x40.Needs,Bars:=x40.Bars}:Pack)).set s34.2.2.toNat ({Name:=x42.Name,Version:=({A:=x42.Version.A,B:=w64 ((w64 (s34.2.1+1))+1),C:=x42.Version.C}:Version),Size:=x42.Size,Provides:=x42.Provides,Needs:=x42.Needs,Bars:=x42.Bars}:Pack)).set s34.2.2.toNat ({Name:=x44.Name,Version:=({A:=x44.Version.A,B:=x44.Version.B,C:=w64 ((w64 ((w64 (s34.2.1+1))+1))+1)}:Version),Size:=x44.Size,Provides:=x44.Provides,Needs:=x44.Needs,Bars:=x44.Bars}:Pack)).set s34.2.2.toNat ({Name:=x46.Name,Version:=x46.Version,Size:=w64 ((w64 ((w64 ((w64 (s34.2.1+1))+1))+1))+1),Provides:=x46.Provides,Needs:=x46.Needs,Bars:=x46.Bars}:Pack)).map (Pack.enc true)) s34.2.2.toNat 5 1 x48.Provides.length),(1,rE 1 eStr x50.2)] (zD 2 (zLi (kk:=.i64) 24 89 8 0 (Pack.enc true) (.tmp 51) (.tmp 52) s34.2.2.toNat 5 1 x48.Provides.length h49) (zD 4 (zLg 70 0 (.tmp 54) 8 (Pack.enc true) (((((s34.1.set s34.2.2.toNat ({Name:=x36,Version:=x38.Version,Size:=x38.Size,Provides:=x38.Provides,Needs:=x38.Needs,Bars:=x38.Bars}:Pack)).set s34.2.2.toNat ({Name:=x40.Name,Version:=({A:=w64 (s34.2.1+1),B:=x40.Version.B,C:=x40.Version.C}:Version),Size:=x40.Size,Provides:=x40.Provides,Needs:=x40.Needs,Bars:=x40.Bars}:Pack)).set s34.2.2.toNat ({Name:=x42.Name,Version:=({A:=x42.Version.A,B:=w64 ((w64 (s34.2.1+1))+1),C:=x42.Version.C}:Version),Size:=x42.Size,Provides:=x42.Provides,Needs:=x42.Needs,Bars:=x42.Bars}:Pack)).set s34.2.2.toNat ({Name:=x44.Name,Version:=({A:=x44.Version.A,B:=x44.Version.B,C:=w64 ((w64 ((w64 (s34.2.1+1))+1))+1)}:Version),Size:=x44.Size,Provides:=x44.Provides,Needs:=x44.Needs,Bars:=x44.Bars}:Pack)).set s34.2.2.toNat ({Name:=x46.Name,Version:=x46.Version,Size:=w64 ((w64 ((w64 ((w64 (s34.2.1+1))+1))+1))+1),Provides:=x46.Provides,Needs:=x46.Needs,Bars:=x46.Bars}:Pack)) s34.2.2.toNat 5 1 x48.Provides.length) (zD 6 (uW («as»:=[rr 1 x48.Provides,iv (w64 ((w64 ((w64 ((w64 ((w64 (s34.2.1+1))+1))+1))+1))+1))]) [(.tmp 55),(.tmp 56)] [70,3] false [(1,rE 1 eStr x48.Provides)] [1] (.cons (.rf rfl) (.cons (.same rfl) (.nil))) (wB.ok x48.Provides (w64 ((w64 ((w64 ((w64 ((w64 (s34.2.1+1))+1))+1))+1))+1))) h51 (.same rfl rfl)) zB))) ?_
  refine zA (fun u52 h53=>?_)
  refine zFN (ix:=s34.2.2) (enc:=(Pack.enc true)) (b:=({Name:=x48.Name,Version:=x48.Version,Size:=x48.Size,Provides:=x50.2,Needs:=x48.Needs,Bars:=x48.Bars}:Pack)) 0 5 1 h49 rfl rfl rfl rfl (zBh h53) (Nat.le_of_ble_eq_true rfl) ((List.length_map _).trans (zBh h53)) ?_
  refine zFu [(0,rr 0 (((((s34.1.set s34.2.2.toNat ({Name:=x36,Version:=x38.Version,Size:=x38.Size,Provides:=x38.Provides,Needs:=x38.Needs,Bars:=x38.Bars}:Pack)).set s34.2.2.toNat ({Name:=x40.Name,Version:=({A:=w64 (s34.2.1+1),B:=x40.Version.B,C:=x40.Version.C}:Version),Size:=x40.Size,Provides:=x40.Provides,Needs:=x40.Needs,Bars:=x40.Bars}:Pack)).set s34.2.2.toNat ({Name:=x42.Name,Version:=({A:=x42.Version.A,B:=w64 ((w64 (s34.2.1+1))+1),C:=x42.Version.C}:Version),Size:=x42.Size,Provides:=x42.Provides,Needs:=x42.Needs,Bars:=x42.Bars}:Pack)).set s34.2.2.toNat ({Name:=x44.Name,Version:=({A:=x44.Version.A,B:=x44.Version.B,C:=w64 ((w64 ((w64 (s34.2.1+1))+1))+1)}:Version),Size:=x44.Size,Provides:=x44.Provides,Needs:=x44.Needs,Bars:=x44.Bars}:Pack)).set s34.2.2.toNat ({Name:=x46.Name,Version:=x46.Version,Size:=w64 ((w64 ((w64 ((w64 (s34.2.1+1))+1))+1))+1),Provides:=x46.Provides,Needs:=x46.Needs,Bars:=x46.Bars}:Pack))),(1,iv x50.1),(5,iv s34.2.2)] [(0,rE 8 (Pack.enc true) ((((((s34.1.set s34.2.2.toNat ({Name:=x36,Version:=x38.Version,Size:=x38.Size,Provides:=x38.Provides,Needs:=x38.Needs,Bars:=x38.Bars}:Pack)).set s34.2.2.toNat ({Name:=x40.Name,Version:=({A:=w64 (s34.2.1+1),B:=x40.Version.B,C:=x40.Version.C}:Version),Size:=x40.Size,Provides:=x40.Provides,Needs:=x40.Needs,Bars:=x40.Bars}:Pack)).set s34.2.2.toNat ({Name:=x42.Name,Version:=({A:=x42.Version.A,B:=w64 ((w64 (s34.2.1+1))+1),C:=x42.Version.C}:Version),Size:=x42.Size,Provides:=x42.Provides,Needs:=x42.Needs,Bars:=x42.Bars}:Pack)).set s34.2.2.toNat ({Name:=x44.Name,Version:=({A:=x44.Version.A,B:=x44.Version.B,C:=w64 ((w64 ((w64 (s34.2.1+1))+1))+1)}:Version),Size:=x44.Size,Provides:=x44.Provides,Needs:=x44.Needs,Bars:=x44.Bars}:Pack)).set s34.2.2.toNat ({Name:=x46.Name,Version:=x46.Version,Size:=w64 ((w64 ((w64 ((w64 (s34.2.1+1))+1))+1))+1),Provides:=x46.Provides,Needs:=x46.Needs,Bars:=x46.Bars}:Pack)).set s34.2.2.toNat ({Name:=x48.Name,Version:=x48.Version,Size:=x48.Size,Provides:=x50.2,Needs:=x48.Needs,Bars:=x48.Bars}:Pack)))] (by kernel_rfl) ?_
  refine zDH (σ':=St.mk' [(0,rr 0 ((((((s34.1.set s34.2.2.toNat ({Name:=x36,Version:=x38.Version,Size:=x38.Size,Provides:=x38.Provides,Needs:=x38.Needs,Bars:=x38.Bars}:Pack)).set s34.2.2.toNat ({Name:=x40.Name,Version:=({A:=w64 (s34.2.1+1),B:=x40.Version.B,C:=x40.Version.C}:Version),Size:=x40.Size,Provides:=x40.Provides,Needs:=x40.Needs,Bars:=x40.Bars}:Pack)).set s34.2.2.toNat ({Name:=x42.Name,Version:=({A:=x42.Version.A,B:=w64 ((w64 (s34.2.1+1))+1),C:=x42.Version.C}:Version),Size:=x42.Size,Provides:=x42.Provides,Needs:=x42.Needs,Bars:=x42.Bars}:Pack)).set s34.2.2.toNat ({Name:=x44.Name,Version:=({A:=x44.Version.A,B:=x44.Version.B,C:=w64 ((w64 ((w64 (s34.2.1+1))+1))+1)}:Version),Size:=x44.Size,Provides:=x44.Provides,Needs:=x44.Needs,Bars:=x44.Bars}:Pack)).set s34.2.2.toNat ({Name:=x46.Name,Version:=x46.Version,Size:=w64 ((w64 ((w64 ((w64 (s34.2.1+1))+1))+1))+1),Provides:=x46.Provides,Needs:=x46.Needs,Bars:=x46.Bars}:Pack)).set s34.2.2.toNat ({Name:=x48.Name,Version:=x48.Version,Size:=x48.Size,Provides:=x50.2,Needs:=x48.Needs,Bars:=x48.Bars}:Pack))),(1,iv x50.1),(5,iv s34.2.2)] [(0,rE 8 (Pack.enc true) ((((((s34.1.set s34.2.2.toNat ({Name:=x36,Version:=x38.Version,Size:=x38.Size,Provides:=x38.Provides,Needs:=x38.Needs,Bars:=x38.Bars}:Pack)).set s34.2.2.toNat ({Name:=x40.Name,Version:=({A:=w64 (s34.2.1+1),B:=x40.Version.B,C:=x40.Version.C}:Version),Size:=x40.Size,Provides:=x40.Provides,Needs:=x40.Needs,Bars:=x40.Bars}:Pack)).set s34.2.2.toNat ({Name:=x42.Name,Version:=({A:=x42.Version.A,B:=w64 ((w64 (s34.2.1+1))+1),C:=x42.Version.C}:Version),Size:=x42.Size,Provides:=x42.Provides,Needs:=x42.Needs,Bars:=x42.Bars}:Pack)).set s34.2.2.toNat ({Name:=x44.Name,Version:=({A:=x44.Version.A,B:=x44.Version.B,C:=w64 ((w64 ((w64 (s34.2.1+1))+1))+1)}:Version),Size:=x44.Size,Provides:=x44.Provides,Needs:=x44.Needs,Bars:=x44.Bars}:Pack)).set s34.2.2.toNat ({Name:=x46.Name,Version:=x46.Version,Size:=w64 ((w64 ((w64 ((w64 (s34.2.1+1))+1))+1))+1),Provides:=x46.Provides,Needs:=x46.Needs,Bars:=x46.Bars}:Pack)).set s34.2.2.toNat ({Name:=x48.Name,Version:=x48.Version,Size:=x48.Size,Provides:=x50.2,Needs:=x48.Needs,Bars:=x48.Bars}:Pack)))]) (by simp only [rr,List.length_set]) ?_
  refine zA (fun x54 h55=>?_)
  refine zGb (ix:=s34.2.2) (enc:=(Pack.enc true)) 0 6 1 h55 rfl rfl (by kernel_rfl) ?_
  refine zFu [(0,rr 0 ((((((s34.1.set s34.2.2.toNat ({Name:=x36,Version:=x38.Version,Size:=x38.Size,Provides:=x38.Provides,Needs:=x38.Needs,Bars:=x38.Bars}:Pack)).set s34.2.2.toNat ({Name:=x40.Name,Version:=({A:=w64 (s34.2.1+1),B:=x40.Version.B,C:=x40.Version.C}:Version),Size:=x40.Size,Provides:=x40.Provides,Needs:=x40.Needs,Bars:=x40.Bars}:Pack)).set s34.2.2.toNat ({Name:=x42.Name,Version:=({A:=x42.Version.A,B:=w64 ((w64 (s34.2.1+1))+1),C:=x42.Version.C}:Version),Size:=x42.Size,Provides:=x42.Provides,Needs:=x42.Needs,Bars:=x42.Bars}:Pack)).set s34.2.2.toNat ({Name:=x44.Name,Version:=({A:=x44.Version.A,B:=x44.Version.B,C:=w64 ((w64 ((w64 (s34.2.1+1))+1))+1)}:Version),Size:=x44.Size,Provides:=x44.Provides,Needs:=x44.Needs,Bars:=x44.Bars}:Pack)).set s34.2.2.toNat ({Name:=x46.Name,Version:=x46.Version,Size:=w64 ((w64 ((w64 ((w64 (s34.2.1+1))+1))+1))+1),Provides:=x46.Provides,Needs:=x46.Needs,Bars:=x46.Bars}:Pack)).set s34.2.2.toNat ({Name:=x48.Name,Version:=x48.Version,Size:=x48.Size,Provides:=x50.2,Needs:=x48.Needs,Bars:=x48.Bars}:Pack))),(1,iv x50.1),(5,iv s34.2.2)] [(0,.lent 8 (((((((s34.1.set s34.2.2.toNat ({Name:=x36,Version:=x38.Version,Size:=x38.Size,Provides:=x38.Provides,Needs:=x38.Needs,Bars:=x38.Bars}:Pack)).set s34.2.2.toNat ({Name:=x40.Name,Version:=({A:=w64 (s34.2.1+1),B:=x40.Version.B,C:=x40.Version.C}:Version),Size:=x40.Size,Provides:=x40.Provides,Needs:=x40.Needs,Bars:=x40.Bars}:Pack)).set s34.2.2.toNat ({Name:=x42.Name,Version:=({A:=x42.Version.A,B:=w64 ((w64 (s34.2.1+1))+1),C:=x42.Version.C}:Version),Size:=x42.Size,Provides:=x42.Provides,Needs:=x42.Needs,Bars:=x42.Bars}:Pack)).set s34.2.2.toNat ({Name:=x44.Name,Version:=({A:=x44.Version.A,B:=x44.Version.B,C:=w64 ((w64 ((w64 (s34.2.1+1))+1))+1)}:Version),Size:=x44.Size,Provides:=x44.Provides,Needs:=x44.Needs,Bars:=x44.Bars}:Pack)).set s34.2.2.toNat ({Name:=x46.Name,Version:=x46.Version,Size:=w64 ((w64 ((w64 ((w64 (s34.2.1+1))+1))+1))+1),Provides:=x46.Provides,Needs:=x46.Needs,Bars:=x46.Bars}:Pack)).set s34.2.2.toNat ({Name:=x48.Name,Version:=x48.Version,Size:=x48.Size,Provides:=x50.2,Needs:=x48.Needs,Bars:=x48.Bars}:Pack)).map (Pack.enc true)) s34.2.2.toNat 6 1 x54.Needs.length),(1,rE 1 (eSl true 7 Term.enc) x54.Needs)] (by kernel_rfl) ?_
  refine zA (fun x56 h57=>?_)
  refine J_g 1724414 [] [(0,rr 0 ((((((s34.1.set s34.2.2.toNat ({Name:=x36,Version:=x38.Version,Size:=x38.Size,Provides:=x38.Provides,Needs:=x38.Needs,Bars:=x38.Bars}:Pack)).set s34.2.2.toNat ({Name:=x40.Name,Version:=({A:=w64 (s34.2.1+1),B:=x40.Version.B,C:=x40.Version.C}:Version),Size:=x40.Size,Provides:=x40.Provides,Needs:=x40.Needs,Bars:=x40.Bars}:Pack)).set s34.2.2.toNat ({Name:=x42.Name,Version:=({A:=x42.Version.A,B:=w64 ((w64 (s34.2.1+1))+1),C:=x42.Version.C}:Version),Size:=x42.Size,Provides:=x42.Provides,Needs:=x42.Needs,Bars:=x42.Bars}:Pack)).set s34.2.2.toNat ({Name:=x44.Name,Version:=({A:=x44.Version.A,B:=x44.Version.B,C:=w64 ((w64 ((w64 (s34.2.1+1))+1))+1)}:Version),Size:=x44.Size,Provides:=x44.Provides,Needs:=x44.Needs,Bars:=x44.Bars}:Pack)).set s34.2.2.toNat ({Name:=x46.Name,Version:=x46.Version,Size:=w64 ((w64 ((w64 ((w64 (s34.2.1+1))+1))+1))+1),Provides:=x46.Provides,Needs:=x46.Needs,Bars:=x46.Bars}:Pack)).set s34.2.2.toNat ({Name:=x48.Name,Version:=x48.Version,Size:=x48.Size,Provides:=x50.2,Needs:=x48.Needs,Bars:=x48.Bars}:Pack))),(1,iv x56.1),(5,iv s34.2.2)] [(0,.lent 8 (((((((s34.1.set s34.2.2.toNat ({Name:=x36,Version:=x38.Version,Size:=x38.Size,Provides:=x38.Provides,Needs:=x38.Needs,Bars:=x38.Bars}:Pack)).set s34.2.2.toNat ({Name:=x40.Name,Version:=({A:=w64 (s34.2.1+1),B:=x40.Version.B,C:=x40.Version.C}:Version),Size:=x40.Size,Provides:=x40.Provides,Needs:=x40.Needs,Bars:=x40.Bars}:Pack)).set s34.2.2.toNat ({Name:=x42.Name,Version:=({A:=x42.Version.A,B:=w64 ((w64 (s34.2.1+1))+1),C:=x42.Version.C}:Version),Size:=x42.Size,Provides:=x42.Provides,Needs:=x42.Needs,Bars:=x42.Bars}:Pack)).set s34.2.2.toNat ({Name:=x44.Name,Version:=({A:=x44.Version.A,B:=x44.Version.B,C:=w64 ((w64 ((w64 (s34.2.1+1))+1))+1)}:Version),Size:=x44.Size,Provides:=x44.Provides,Needs:=x44.Needs,Bars:=x44.Bars}:Pack)).set s34.2.2.toNat ({Name:=x46.Name,Version:=x46.Version,Size:=w64 ((w64 ((w64 ((w64 (s34.2.1+1))+1))+1))+1),Provides:=x46.Provides,Needs:=x46.Needs,Bars:=x46.Bars}:Pack)).set s34.2.2.toNat ({Name:=x48.Name,Version:=x48.Version,Size:=x48.Size,Provides:=x50.2,Needs:=x48.Needs,Bars:=x48.Bars}:Pack)).map (Pack.enc true)) s34.2.2.toNat 6 1 x54.Needs.length),(1,rE 1 (eSl true 7 Term.enc) x56.2)] (zD 2 (zLi (kk:=.i64) 24 89 8 0 (Pack.enc true) (.tmp 58) (.tmp 59) s34.2.2.toNat 6 1 x54.Needs.length h55) (zD 4 (zLg 87 0 (.tmp 61) 8 (Pack.enc true) ((((((s34.1.set s34.2.2.toNat ({Name:=x36,Version:=x38.Version,Size:=x38.Size,Provides:=x38.Provides,Needs:=x38.Needs,Bars:=x38.Bars}:Pack)).set s34.2.2.toNat ({Name:=x40.Name,Version:=({A:=w64 (s34.2.1+1),B:=x40.Version.B,C:=x40.Version.C}:Version),Size:=x40.Size,Provides:=x40.Provides,Needs:=x40.Needs,Bars:=x40.Bars}:Pack)).set s34.2.2.toNat ({Name:=x42.Name,Version:=({A:=x42.Version.A,B:=w64 ((w64 (s34.2.1+1))+1),C:=x42.Version.C}:Version),Size:=x42.Size,Provides:=x42.Provides,Needs:=x42.Needs,Bars:=x42.Bars}:Pack)).set s34.2.2.toNat ({Name:=x44.Name,Version:=({A:=x44.Version.A,B:=x44.Version.B,C:=w64 ((w64 ((w64 (s34.2.1+1))+1))+1)}:Version),Size:=x44.Size,Provides:=x44.Provides,Needs:=x44.Needs,Bars:=x44.Bars}:Pack)).set s34.2.2.toNat ({Name:=x46.Name,Version:=x46.Version,Size:=w64 ((w64 ((w64 ((w64 (s34.2.1+1))+1))+1))+1),Provides:=x46.Provides,Needs:=x46.Needs,Bars:=x46.Bars}:Pack)).set s34.2.2.toNat ({Name:=x48.Name,Version:=x48.Version,Size:=x48.Size,Provides:=x50.2,Needs:=x48.Needs,Bars:=x48.Bars}:Pack)) s34.2.2.toNat 6 1 x54.Needs.length) (zD 6 (uW («as»:=[rr 1 x54.Needs,iv x50.1]) [(.tmp 62),(.tmp 63)] [87,3] false [(1,rE 1 (eSl true 7 Term.enc) x54.Needs)] [1] (.cons (.rf rfl) (.cons (.same rfl) (.nil))) (tH.ok x54.Needs x50.1) h57 (.same rfl rfl)) zB))) ?_
  refine zA (fun u58 h59=>?_)
  refine zFN (ix:=s34.2.2) (enc:=(Pack.enc true)) (b:=({Name:=x54.Name,Version:=x54.Version,Size:=x54.Size,Provides:=x54.Provides,Needs:=x56.2,Bars:=x54.Bars}:Pack)) 0 6 1 h55 rfl rfl rfl rfl (zBh h59) (Nat.le_of_ble_eq_true rfl) ((List.length_map _).trans (zBh h59)) ?_
  refine zFu [(0,rr 0 ((((((s34.1.set s34.2.2.toNat ({Name:=x36,Version:=x38.Version,Size:=x38.Size,Provides:=x38.Provides,Needs:=x38.Needs,Bars:=x38.Bars}:Pack)).set s34.2.2.toNat ({Name:=x40.Name,Version:=({A:=w64 (s34.2.1+1),B:=x40.Version.B,C:=x40.Version.C}:Version),Size:=x40.Size,Provides:=x40.Provides,Needs:=x40.Needs,Bars:=x40.Bars}:Pack)).set s34.2.2.toNat ({Name:=x42.Name,Version:=({A:=x42.Version.A,B:=w64 ((w64 (s34.2.1+1))+1),C:=x42.Version.C}:Version),Size:=x42.Size,Provides:=x42.Provides,Needs:=x42.Needs,Bars:=x42.Bars}:Pack)).set s34.2.2.toNat ({Name:=x44.Name,Version:=({A:=x44.Version.A,B:=x44.Version.B,C:=w64 ((w64 ((w64 (s34.2.1+1))+1))+1)}:Version),Size:=x44.Size,Provides:=x44.Provides,Needs:=x44.Needs,Bars:=x44.Bars}:Pack)).set s34.2.2.toNat ({Name:=x46.Name,Version:=x46.Version,Size:=w64 ((w64 ((w64 ((w64 (s34.2.1+1))+1))+1))+1),Provides:=x46.Provides,Needs:=x46.Needs,Bars:=x46.Bars}:Pack)).set s34.2.2.toNat ({Name:=x48.Name,Version:=x48.Version,Size:=x48.Size,Provides:=x50.2,Needs:=x48.Needs,Bars:=x48.Bars}:Pack))),(1,iv x56.1),(5,iv s34.2.2)] [(0,rE 8 (Pack.enc true) (((((((s34.1.set s34.2.2.toNat ({Name:=x36,Version:=x38.Version,Size:=x38.Size,Provides:=x38.Provides,Needs:=x38.Needs,Bars:=x38.Bars}:Pack)).set s34.2.2.toNat ({Name:=x40.Name,Version:=({A:=w64 (s34.2.1+1),B:=x40.Version.B,C:=x40.Version.C}:Version),Size:=x40.Size,Provides:=x40.Provides,Needs:=x40.Needs,Bars:=x40.Bars}:Pack)).set s34.2.2.toNat ({Name:=x42.Name,Version:=({A:=x42.Version.A,B:=w64 ((w64 (s34.2.1+1))+1),C:=x42.Version.C}:Version),Size:=x42.Size,Provides:=x42.Provides,Needs:=x42.Needs,Bars:=x42.Bars}:Pack)).set s34.2.2.toNat ({Name:=x44.Name,Version:=({A:=x44.Version.A,B:=x44.Version.B,C:=w64 ((w64 ((w64 (s34.2.1+1))+1))+1)}:Version),Size:=x44.Size,Provides:=x44.Provides,Needs:=x44.Needs,Bars:=x44.Bars}:Pack)).set s34.2.2.toNat ({Name:=x46.Name,Version:=x46.Version,Size:=w64 ((w64 ((w64 ((w64 (s34.2.1+1))+1))+1))+1),Provides:=x46.Provides,Needs:=x46.Needs,Bars:=x46.Bars}:Pack)).set s34.2.2.toNat ({Name:=x48.Name,Version:=x48.Version,Size:=x48.Size,Provides:=x50.2,Needs:=x48.Needs,Bars:=x48.Bars}:Pack)).set s34.2.2.toNat ({Name:=x54.Name,Version:=x54.Version,Size:=x54.Size,Provides:=x54.Provides,Needs:=x56.2,Bars:=x54.Bars}:Pack)))] (by kernel_rfl) ?_
  refine zDH (σ':=St.mk' [(0,rr 0 (((((((s34.1.set s34.2.2.toNat ({Name:=x36,Version:=x38.Version,Size:=x38.Size,Provides:=x38.Provides,Needs:=x38.Needs,Bars:=x38.Bars}:Pack)).set s34.2.2.toNat ({Name:=x40.Name,Version:=({A:=w64 (s34.2.1+1),B:=x40.Version.B,C:=x40.Version.C}:Version),Size:=x40.Size,Provides:=x40.Provides,Needs:=x40.Needs,Bars:=x40.Bars}:Pack)).set s34.2.2.toNat ({Name:=x42.Name,Version:=({A:=x42.Version.A,B:=w64 ((w64 (s34.2.1+1))+1),C:=x42.Version.C}:Version),Size:=x42.Size,Provides:=x42.Provides,Needs:=x42.Needs,Bars:=x42.Bars}:Pack)).set s34.2.2.toNat ({Name:=x44.Name,Version:=({A:=x44.Version.A,B:=x44.Version.B,C:=w64 ((w64 ((w64 (s34.2.1+1))+1))+1)}:Version),Size:=x44.Size,Provides:=x44.Provides,Needs:=x44.Needs,Bars:=x44.Bars}:Pack)).set s34.2.2.toNat ({Name:=x46.Name,Version:=x46.Version,Size:=w64 ((w64 ((w64 ((w64 (s34.2.1+1))+1))+1))+1),Provides:=x46.Provides,Needs:=x46.Needs,Bars:=x46.Bars}:Pack)).set s34.2.2.toNat ({Name:=x48.Name,Version:=x48.Version,Size:=x48.Size,Provides:=x50.2,Needs:=x48.Needs,Bars:=x48.Bars}:Pack)).set s34.2.2.toNat ({Name:=x54.Name,Version:=x54.Version,Size:=x54.Size,Provides:=x54.Provides,Needs:=x56.2,Bars:=x54.Bars}:Pack))),(1,iv x56.1),(5,iv s34.2.2)] [(0,rE 8 (Pack.enc true) (((((((s34.1.set s34.2.2.toNat ({Name:=x36,Version:=x38.Version,Size:=x38.Size,Provides:=x38.Provides,Needs:=x38.Needs,Bars:=x38.Bars}:Pack)).set s34.2.2.toNat ({Name:=x40.Name,Version:=({A:=w64 (s34.2.1+1),B:=x40.Version.B,C:=x40.Version.C}:Version),Size:=x40.Size,Provides:=x40.Provides,Needs:=x40.Needs,Bars:=x40.Bars}:Pack)).set s34.2.2.toNat ({Name:=x42.Name,Version:=({A:=x42.Version.A,B:=w64 ((w64 (s34.2.1+1))+1),C:=x42.Version.C}:Version),Size:=x42.Size,Provides:=x42.Provides,Needs:=x42.Needs,Bars:=x42.Bars}:Pack)).set s34.2.2.toNat ({Name:=x44.Name,Version:=({A:=x44.Version.A,B:=x44.Version.B,C:=w64 ((w64 ((w64 (s34.2.1+1))+1))+1)}:Version),Size:=x44.Size,Provides:=x44.Provides,Needs:=x44.Needs,Bars:=x44.Bars}:Pack)).set s34.2.2.toNat ({Name:=x46.Name,Version:=x46.Version,Size:=w64 ((w64 ((w64 ((w64 (s34.2.1+1))+1))+1))+1),Provides:=x46.Provides,Needs:=x46.Needs,Bars:=x46.Bars}:Pack)).set s34.2.2.toNat ({Name:=x48.Name,Version:=x48.Version,Size:=x48.Size,Provides:=x50.2,Needs:=x48.Needs,Bars:=x48.Bars}:Pack)).set s34.2.2.toNat ({Name:=x54.Name,Version:=x54.Version,Size:=x54.Size,Provides:=x54.Provides,Needs:=x56.2,Bars:=x54.Bars}:Pack)))]) (by simp only [rr,List.length_set]) ?_
  refine zA (fun x60 h61=>?_)
  refine zGb (ix:=s34.2.2) (enc:=(Pack.enc true)) 0 7 1 h61 rfl rfl (by kernel_rfl) ?_
  refine zFu [(0,rr 0 (((((((s34.1.set s34.2.2.toNat ({Name:=x36,Version:=x38.Version,Size:=x38.Size,Provides:=x38.Provides,Needs:=x38.Needs,Bars:=x38.Bars}:Pack)).set s34.2.2.toNat ({Name:=x40.Name,Version:=({A:=w64 (s34.2.1+1),B:=x40.Version.B,C:=x40.Version.C}:Version),Size:=x40.Size,Provides:=x40.Provides,Needs:=x40.Needs,Bars:=x40.Bars}:Pack)).set s34.2.2.toNat ({Name:=x42.Name,Version:=({A:=x42.Version.A,B:=w64 ((w64 (s34.2.1+1))+1),C:=x42.Version.C}:Version),Size:=x42.Size,Provides:=x42.Provides,Needs:=x42.Needs,Bars:=x42.Bars}:Pack)).set s34.2.2.toNat ({Name:=x44.Name,Version:=({A:=x44.Version.A,B:=x44.Version.B,C:=w64 ((w64 ((w64 (s34.2.1+1))+1))+1)}:Version),Size:=x44.Size,Provides:=x44.Provides,Needs:=x44.Needs,Bars:=x44.Bars}:Pack)).set s34.2.2.toNat ({Name:=x46.Name,Version:=x46.Version,Size:=w64 ((w64 ((w64 ((w64 (s34.2.1+1))+1))+1))+1),Provides:=x46.Provides,Needs:=x46.Needs,Bars:=x46.Bars}:Pack)).set s34.2.2.toNat ({Name:=x48.Name,Version:=x48.Version,Size:=x48.Size,Provides:=x50.2,Needs:=x48.Needs,Bars:=x48.Bars}:Pack)).set s34.2.2.toNat ({Name:=x54.Name,Version:=x54.Version,Size:=x54.Size,Provides:=x54.Provides,Needs:=x56.2,Bars:=x54.Bars}:Pack))),(1,iv x56.1),(5,iv s34.2.2)] [(0,.lent 8 ((((((((s34.1.set s34.2.2.toNat ({Name:=x36,Version:=x38.Version,Size:=x38.Size,Provides:=x38.Provides,Needs:=x38.Needs,Bars:=x38.Bars}:Pack)).set s34.2.2.toNat ({Name:=x40.Name,Version:=({A:=w64 (s34.2.1+1),B:=x40.Version.B,C:=x40.Version.C}:Version),Size:=x40.Size,Provides:=x40.Provides,Needs:=x40.Needs,Bars:=x40.Bars}:Pack)).set s34.2.2.toNat ({Name:=x42.Name,Version:=({A:=x42.Version.A,B:=w64 ((w64 (s34.2.1+1))+1),C:=x42.Version.C}:Version),Size:=x42.Size,Provides:=x42.Provides,Needs:=x42.Needs,Bars:=x42.Bars}:Pack)).set s34.2.2.toNat ({Name:=x44.Name,Version:=({A:=x44.Version.A,B:=x44.Version.B,C:=w64 ((w64 ((w64 (s34.2.1+1))+1))+1)}:Version),Size:=x44.Size,Provides:=x44.Provides,Needs:=x44.Needs,Bars:=x44.Bars}:Pack)).set s34.2.2.toNat ({Name:=x46.Name,Version:=x46.Version,Size:=w64 ((w64 ((w64 ((w64 (s34.2.1+1))+1))+1))+1),Provides:=x46.Provides,Needs:=x46.Needs,Bars:=x46.Bars}:Pack)).set s34.2.2.toNat ({Name:=x48.Name,Version:=x48.Version,Size:=x48.Size,Provides:=x50.2,Needs:=x48.Needs,Bars:=x48.Bars}:Pack)).set s34.2.2.toNat ({Name:=x54.Name,Version:=x54.Version,Size:=x54.Size,Provides:=x54.Provides,Needs:=x56.2,Bars:=x54.Bars}:Pack)).map (Pack.enc true)) s34.2.2.toNat 7 1 x60.Bars.length),(1,rE 7 Term.enc x60.Bars)] (by kernel_rfl) ?_
  refine zA (fun x62 h63=>?_)
  refine J_g 1724415 [] [(0,rr 0 (((((((s34.1.set s34.2.2.toNat ({Name:=x36,Version:=x38.Version,Size:=x38.Size,Provides:=x38.Provides,Needs:=x38.Needs,Bars:=x38.Bars}:Pack)).set s34.2.2.toNat ({Name:=x40.Name,Version:=({A:=w64 (s34.2.1+1),B:=x40.Version.B,C:=x40.Version.C}:Version),Size:=x40.Size,Provides:=x40.Provides,Needs:=x40.Needs,Bars:=x40.Bars}:Pack)).set s34.2.2.toNat ({Name:=x42.Name,Version:=({A:=x42.Version.A,B:=w64 ((w64 (s34.2.1+1))+1),C:=x42.Version.C}:Version),Size:=x42.Size,Provides:=x42.Provides,Needs:=x42.Needs,Bars:=x42.Bars}:Pack)).set s34.2.2.toNat ({Name:=x44.Name,Version:=({A:=x44.Version.A,B:=x44.Version.B,C:=w64 ((w64 ((w64 (s34.2.1+1))+1))+1)}:Version),Size:=x44.Size,Provides:=x44.Provides,Needs:=x44.Needs,Bars:=x44.Bars}:Pack)).set s34.2.2.toNat ({Name:=x46.Name,Version:=x46.Version,Size:=w64 ((w64 ((w64 ((w64 (s34.2.1+1))+1))+1))+1),Provides:=x46.Provides,Needs:=x46.Needs,Bars:=x46.Bars}:Pack)).set s34.2.2.toNat ({Name:=x48.Name,Version:=x48.Version,Size:=x48.Size,Provides:=x50.2,Needs:=x48.Needs,Bars:=x48.Bars}:Pack)).set s34.2.2.toNat ({Name:=x54.Name,Version:=x54.Version,Size:=x54.Size,Provides:=x54.Provides,Needs:=x56.2,Bars:=x54.Bars}:Pack))),(1,iv x62.1),(5,iv s34.2.2)] [(0,.lent 8 ((((((((s34.1.set s34.2.2.toNat ({Name:=x36,Version:=x38.Version,Size:=x38.Size,Provides:=x38.Provides,Needs:=x38.Needs,Bars:=x38.Bars}:Pack)).set s34.2.2.toNat ({Name:=x40.Name,Version:=({A:=w64 (s34.2.1+1),B:=x40.Version.B,C:=x40.Version.C}:Version),Size:=x40.Size,Provides:=x40.Provides,Needs:=x40.Needs,Bars:=x40.Bars}:Pack)).set s34.2.2.toNat ({Name:=x42.Name,Version:=({A:=x42.Version.A,B:=w64 ((w64 (s34.2.1+1))+1),C:=x42.Version.C}:Version),Size:=x42.Size,Provides:=x42.Provides,Needs:=x42.Needs,Bars:=x42.Bars}:Pack)).set s34.2.2.toNat ({Name:=x44.Name,Version:=({A:=x44.Version.A,B:=x44.Version.B,C:=w64 ((w64 ((w64 (s34.2.1+1))+1))+1)}:Version),Size:=x44.Size,Provides:=x44.Provides,Needs:=x44.Needs,Bars:=x44.Bars}:Pack)).set s34.2.2.toNat ({Name:=x46.Name,Version:=x46.Version,Size:=w64 ((w64 ((w64 ((w64 (s34.2.1+1))+1))+1))+1),Provides:=x46.Provides,Needs:=x46.Needs,Bars:=x46.Bars}:Pack)).set s34.2.2.toNat ({Name:=x48.Name,Version:=x48.Version,Size:=x48.Size,Provides:=x50.2,Needs:=x48.Needs,Bars:=x48.Bars}:Pack)).set s34.2.2.toNat ({Name:=x54.Name,Version:=x54.Version,Size:=x54.Size,Provides:=x54.Provides,Needs:=x56.2,Bars:=x54.Bars}:Pack)).map (Pack.enc true)) s34.2.2.toNat 7 1 x60.Bars.length),(1,rE 7 Term.enc x62.2)] (zD 2 (zLi (kk:=.i64) 24 89 8 0 (Pack.enc true) (.tmp 65) (.tmp 66) s34.2.2.toNat 7 1 x60.Bars.length h61) (zD 4 (zLg 53 0 (.tmp 68) 8 (Pack.enc true) (((((((s34.1.set s34.2.2.toNat ({Name:=x36,Version:=x38.Version,Size:=x38.Size,Provides:=x38.Provides,Needs:=x38.Needs,Bars:=x38.Bars}:Pack)).set s34.2.2.toNat ({Name:=x40.Name,Version:=({A:=w64 (s34.2.1+1),B:=x40.Version.B,C:=x40.Version.C}:Version),Size:=x40.Size,Provides:=x40.Provides,Needs:=x40.Needs,Bars:=x40.Bars}:Pack)).set s34.2.2.toNat ({Name:=x42.Name,Version:=({A:=x42.Version.A,B:=w64 ((w64 (s34.2.1+1))+1),C:=x42.Version.C}:Version),Size:=x42.Size,Provides:=x42.Provides,Needs:=x42.Needs,Bars:=x42.Bars}:Pack)).set s34.2.2.toNat ({Name:=x44.Name,Version:=({A:=x44.Version.A,B:=x44.Version.B,C:=w64 ((w64 ((w64 (s34.2.1+1))+1))+1)}:Version),Size:=x44.Size,Provides:=x44.Provides,Needs:=x44.Needs,Bars:=x44.Bars}:Pack)).set s34.2.2.toNat ({Name:=x46.Name,Version:=x46.Version,Size:=w64 ((w64 ((w64 ((w64 (s34.2.1+1))+1))+1))+1),Provides:=x46.Provides,Needs:=x46.Needs,Bars:=x46.Bars}:Pack)).set s34.2.2.toNat ({Name:=x48.Name,Version:=x48.Version,Size:=x48.Size,Provides:=x50.2,Needs:=x48.Needs,Bars:=x48.Bars}:Pack)).set s34.2.2.toNat ({Name:=x54.Name,Version:=x54.Version,Size:=x54.Size,Provides:=x54.Provides,Needs:=x56.2,Bars:=x54.Bars}:Pack)) s34.2.2.toNat 7 1 x60.Bars.length) (zD 6 (uW («as»:=[rr 1 x60.Bars,iv x56.1]) [(.tmp 69),(.tmp 70)] [53,3] false [(1,rE 7 Term.enc x60.Bars)] [1] (.cons (.rf rfl) (.cons (.same rfl) (.nil))) (vL.ok x60.Bars x56.1) h63 (.same rfl rfl)) zB))) ?_
  refine zA (fun u64 h65=>?_)
  refine zFN (ix:=s34.2.2) (enc:=(Pack.enc true)) (b:=({Name:=x60.Name,Version:=x60.Version,Size:=x60.Size,Provides:=x60.Provides,Needs:=x60.Needs,Bars:=x62.2}:Pack)) 0 7 1 h61 rfl rfl rfl rfl (zBh h65) (Nat.le_of_ble_eq_true rfl) ((List.length_map _).trans (zBh h65)) ?_
  refine zFu [(0,rr 0 (((((((s34.1.set s34.2.2.toNat ({Name:=x36,Version:=x38.Version,Size:=x38.Size,Provides:=x38.Provides,Needs:=x38.Needs,Bars:=x38.Bars}:Pack)).set s34.2.2.toNat ({Name:=x40.Name,Version:=({A:=w64 (s34.2.1+1),B:=x40.Version.B,C:=x40.Version.C}:Version),Size:=x40.Size,Provides:=x40.Provides,Needs:=x40.Needs,Bars:=x40.Bars}:Pack)).set s34.2.2.toNat ({Name:=x42.Name,Version:=({A:=x42.Version.A,B:=w64 ((w64 (s34.2.1+1))+1),C:=x42.Version.C}:Version),Size:=x42.Size,Provides:=x42.Provides,Needs:=x42.Needs,Bars:=x42.Bars}:Pack)).set s34.2.2.toNat ({Name:=x44.Name,Version:=({A:=x44.Version.A,B:=x44.Version.B,C:=w64 ((w64 ((w64 (s34.2.1+1))+1))+1)}:Version),Size:=x44.Size,Provides:=x44.Provides,Needs:=x44.Needs,Bars:=x44.Bars}:Pack)).set s34.2.2.toNat ({Name:=x46.Name,Version:=x46.Version,Size:=w64 ((w64 ((w64 ((w64 (s34.2.1+1))+1))+1))+1),Provides:=x46.Provides,Needs:=x46.Needs,Bars:=x46.Bars}:Pack)).set s34.2.2.toNat ({Name:=x48.Name,Version:=x48.Version,Size:=x48.Size,Provides:=x50.2,Needs:=x48.Needs,Bars:=x48.Bars}:Pack)).set s34.2.2.toNat ({Name:=x54.Name,Version:=x54.Version,Size:=x54.Size,Provides:=x54.Provides,Needs:=x56.2,Bars:=x54.Bars}:Pack))),(1,iv x62.1),(5,iv s34.2.2)] [(0,rE 8 (Pack.enc true) ((((((((s34.1.set s34.2.2.toNat ({Name:=x36,Version:=x38.Version,Size:=x38.Size,Provides:=x38.Provides,Needs:=x38.Needs,Bars:=x38.Bars}:Pack)).set s34.2.2.toNat ({Name:=x40.Name,Version:=({A:=w64 (s34.2.1+1),B:=x40.Version.B,C:=x40.Version.C}:Version),Size:=x40.Size,Provides:=x40.Provides,Needs:=x40.Needs,Bars:=x40.Bars}:Pack)).set s34.2.2.toNat ({Name:=x42.Name,Version:=({A:=x42.Version.A,B:=w64 ((w64 (s34.2.1+1))+1),C:=x42.Version.C}:Version),Size:=x42.Size,Provides:=x42.Provides,Needs:=x42.Needs,Bars:=x42.Bars}:Pack)).set s34.2.2.toNat ({Name:=x44.Name,Version:=({A:=x44.Version.A,B:=x44.Version.B,C:=w64 ((w64 ((w64 (s34.2.1+1))+1))+1)}:Version),Size:=x44.Size,Provides:=x44.Provides,Needs:=x44.Needs,Bars:=x44.Bars}:Pack)).set s34.2.2.toNat ({Name:=x46.Name,Version:=x46.Version,Size:=w64 ((w64 ((w64 ((w64 (s34.2.1+1))+1))+1))+1),Provides:=x46.Provides,Needs:=x46.Needs,Bars:=x46.Bars}:Pack)).set s34.2.2.toNat ({Name:=x48.Name,Version:=x48.Version,Size:=x48.Size,Provides:=x50.2,Needs:=x48.Needs,Bars:=x48.Bars}:Pack)).set s34.2.2.toNat ({Name:=x54.Name,Version:=x54.Version,Size:=x54.Size,Provides:=x54.Provides,Needs:=x56.2,Bars:=x54.Bars}:Pack)).set s34.2.2.toNat ({Name:=x60.Name,Version:=x60.Version,Size:=x60.Size,Provides:=x60.Provides,Needs:=x60.Needs,Bars:=x62.2}:Pack)))] (by kernel_rfl) ?_
  refine zDH (σ':=St.mk' [(0,rr 0 ((((((((s34.1.set s34.2.2.toNat ({Name:=x36,Version:=x38.Version,Size:=x38.Size,Provides:=x38.Provides,Needs:=x38.Needs,Bars:=x38.Bars}:Pack)).set s34.2.2.toNat ({Name:=x40.Name,Version:=({A:=w64 (s34.2.1+1),B:=x40.Version.B,C:=x40.Version.C}:Version),Size:=x40.Size,Provides:=x40.Provides,Needs:=x40.Needs,Bars:=x40.Bars}:Pack)).set s34.2.2.toNat ({Name:=x42.Name,Version:=({A:=x42.Version.A,B:=w64 ((w64 (s34.2.1+1))+1),C:=x42.Version.C}:Version),Size:=x42.Size,Provides:=x42.Provides,Needs:=x42.Needs,Bars:=x42.Bars}:Pack)).set s34.2.2.toNat ({Name:=x44.Name,Version:=({A:=x44.Version.A,B:=x44.Version.B,C:=w64 ((w64 ((w64 (s34.2.1+1))+1))+1)}:Version),Size:=x44.Size,Provides:=x44.Provides,Needs:=x44.Needs,Bars:=x44.Bars}:Pack)).set s34.2.2.toNat ({Name:=x46.Name,Version:=x46.Version,Size:=w64 ((w64 ((w64 ((w64 (s34.2.1+1))+1))+1))+1),Provides:=x46.Provides,Needs:=x46.Needs,Bars:=x46.Bars}:Pack)).set s34.2.2.toNat ({Name:=x48.Name,Version:=x48.Version,Size:=x48.Size,Provides:=x50.2,Needs:=x48.Needs,Bars:=x48.Bars}:Pack)).set s34.2.2.toNat ({Name:=x54.Name,Version:=x54.Version,Size:=x54.Size,Provides:=x54.Provides,Needs:=x56.2,Bars:=x54.Bars}:Pack)).set s34.2.2.toNat ({Name:=x60.Name,Version:=x60.Version,Size:=x60.Size,Provides:=x60.Provides,Needs:=x60.Needs,Bars:=x62.2}:Pack))),(1,iv x62.1),(5,iv s34.2.2)] [(0,rE 8 (Pack.enc true) ((((((((s34.1.set s34.2.2.toNat ({Name:=x36,Version:=x38.Version,Size:=x38.Size,Provides:=x38.Provides,Needs:=x38.Needs,Bars:=x38.Bars}:Pack)).set s34.2.2.toNat ({Name:=x40.Name,Version:=({A:=w64 (s34.2.1+1),B:=x40.Version.B,C:=x40.Version.C}:Version),Size:=x40.Size,Provides:=x40.Provides,Needs:=x40.Needs,Bars:=x40.Bars}:Pack)).set s34.2.2.toNat ({Name:=x42.Name,Version:=({A:=x42.Version.A,B:=w64 ((w64 (s34.2.1+1))+1),C:=x42.Version.C}:Version),Size:=x42.Size,Provides:=x42.Provides,Needs:=x42.Needs,Bars:=x42.Bars}:Pack)).set s34.2.2.toNat ({Name:=x44.Name,Version:=({A:=x44.Version.A,B:=x44.Version.B,C:=w64 ((w64 ((w64 (s34.2.1+1))+1))+1)}:Version),Size:=x44.Size,Provides:=x44.Provides,Needs:=x44.Needs,Bars:=x44.Bars}:Pack)).set s34.2.2.toNat ({Name:=x46.Name,Version:=x46.Version,Size:=w64 ((w64 ((w64 ((w64 (s34.2.1+1))+1))+1))+1),Provides:=x46.Provides,Needs:=x46.Needs,Bars:=x46.Bars}:Pack)).set s34.2.2.toNat ({Name:=x48.Name,Version:=x48.Version,Size:=x48.Size,Provides:=x50.2,Needs:=x48.Needs,Bars:=x48.Bars}:Pack)).set s34.2.2.toNat ({Name:=x54.Name,Version:=x54.Version,Size:=x54.Size,Provides:=x54.Provides,Needs:=x56.2,Bars:=x54.Bars}:Pack)).set s34.2.2.toNat ({Name:=x60.Name,Version:=x60.Version,Size:=x60.Size,Provides:=x60.Provides,Needs:=x60.Needs,Bars:=x62.2}:Pack)))]) (by simp only [rr,List.length_set]) ?_
  refine J_d 211 [] [5] [(5,iv (w64 (s34.2.2+1)))] [] [] zB ?_
  exact J_q (J_b (ih ((((((((s34.1.set s34.2.2.toNat ({Name:=x36,Version:=x38.Version,Size:=x38.Size,Provides:=x38.Provides,Needs:=x38.Needs,Bars:=x38.Bars}:Pack)).set s34.2.2.toNat ({Name:=x40.Name,Version:=({A:=w64 (s34.2.1+1),B:=x40.Version.B,C:=x40.Version.C}:Version),Size:=x40.Size,Provides:=x40.Provides,Needs:=x40.Needs,Bars:=x40.Bars}:Pack)).set s34.2.2.toNat ({Name:=x42.Name,Version:=({A:=x42.Version.A,B:=w64 ((w64 (s34.2.1+1))+1),C:=x42.Version.C}:Version),Size:=x42.Size,Provides:=x42.Provides,Needs:=x42.Needs,Bars:=x42.Bars}:Pack)).set s34.2.2.toNat ({Name:=x44.Name,Version:=({A:=x44.Version.A,B:=x44.Version.B,C:=w64 ((w64 ((w64 (s34.2.1+1))+1))+1)}:Version),Size:=x44.Size,Provides:=x44.Provides,Needs:=x44.Needs,Bars:=x44.Bars}:Pack)).set s34.2.2.toNat ({Name:=x46.Name,Version:=x46.Version,Size:=w64 ((w64 ((w64 ((w64 (s34.2.1+1))+1))+1))+1),Provides:=x46.Provides,Needs:=x46.Needs,Bars:=x46.Bars}:Pack)).set s34.2.2.toNat ({Name:=x48.Name,Version:=x48.Version,Size:=x48.Size,Provides:=x50.2,Needs:=x48.Needs,Bars:=x48.Bars}:Pack)).set s34.2.2.toNat ({Name:=x54.Name,Version:=x54.Version,Size:=x54.Size,Provides:=x54.Provides,Needs:=x56.2,Bars:=x54.Bars}:Pack)).set s34.2.2.toNat ({Name:=x60.Name,Version:=x60.Version,Size:=x60.Size,Provides:=x60.Provides,Needs:=x60.Needs,Bars:=x62.2}:Pack),x62.1,w64 (s34.2.2+1)))) rfl
 ·exact yP (hk (s34.1,s34.2.1)) rfl
theorem kI.ok (a1:(List Pack)) (a2:Int):Ok Tryz.prog 15 [rr 0 a1,iv a2] [rE 8 (Pack.enc true) a1] ((kI a1 a2).map fun r=>(iv r.1,[rE 8 (Pack.enc true) r.2])):=by
 refine zH c15 Tryz.f15 1 73 (fun q=>?_)
 unfold kI
 refine J_g 2 [] [(0,rr 0 a1),(1,iv a2)] [(0,rE 8 (Pack.enc true) a1)] zB ?_
 refine J_d 12 [] [5] [(5,iv 0)] [] [] zB ?_
 refine zEG (zAb.ok q _ (fun v66=>J_j ?_) (a1,a2,0))
 refine J_d 14 [] [1,4] [(4,iv v66.2)] [] [] zB ?_
 exact zT rfl
noncomputable def c164:Code:=(Tryz.f164.body).getD .skip
theorem zAf.ok (q:Wd) (kn:((List Int)×Int)→Option (D×List Ent)) (hk:∀v:((List Int)×Int),J (q.g Tryz.prog 164 1 20) c164 (atI c164 7) (St.mk' [(1,iv v.2)] [(0,rE 1 eU8 v.1)]) (some v) kn):
  ∀s6:((List Int)×Int×Int),J (q.g Tryz.prog 164 1 20) c164 (atI c164 52) (St.mk' [(0,rr 0 s6.1),(1,iv s6.2.1),(5,iv s6.2.2)] [(0,rE 1 eU8 s6.1)]) (zAf s6) kn:=by
 refine zA6 (fun g ih s6=>?_)
 unfold jX
 refine J_d 208 [] [9] [(9,bv (decide (s6.2.2< (s6.1.length:Int))))] [] [] zB ?_
 refine zC 9 (fun h7=>?_) (fun h7=>?_)
 ·refine zA (fun x8 h9=>?_)
  refine J_g 840 [] [(0,rr 0 s6.1),(1,iv s6.2.1),(5,iv s6.2.2)] [(0,rE 1 eU8 (s6.1.set s6.2.2.toNat (IntKind.u8.wrap (s6.2.1))))] (zD 4 (uH (kk:=.i64) 111 5 1 0 eU8 (.tmp 12) (.tmp 13) h9) (zEC 5 (zFB (b:=IntKind.u8.wrap (s6.2.1)) 5 1 0 0 eU8 (uv (IntKind.u8.wrap (s6.2.1))) (.tmp 16) (.tmp 15) h9 rfl) zB)) ?_
  refine zDH (σ':=St.mk' [(0,rr 0 (s6.1.set s6.2.2.toNat (IntKind.u8.wrap (s6.2.1)))),(1,iv s6.2.1),(5,iv s6.2.2)] [(0,rE 1 eU8 (s6.1.set s6.2.2.toNat (IntKind.u8.wrap (s6.2.1))))]) (by simp only [rr,List.length_set]) ?_
  refine J_g 841 [] [(0,rr 0 (s6.1.set s6.2.2.toNat (IntKind.u8.wrap (s6.2.1)))),(1,iv (w64 (s6.2.1+1))),(5,iv s6.2.2)] [(0,rE 1 eU8 (s6.1.set s6.2.2.toNat (IntKind.u8.wrap (s6.2.1))))] zB ?_
  refine J_d 211 [] [5] [(5,iv (w64 (s6.2.2+1)))] [] [] zB ?_
  exact J_q (J_b (ih (s6.1.set s6.2.2.toNat (IntKind.u8.wrap (s6.2.1)),w64 (s6.2.1+1),w64 (s6.2.2+1)))) rfl
 ·exact yP (hk (s6.1,s6.2.1)) rfl
theorem jZ.ok (a1:(List Int)) (a2:Int):Ok Tryz.prog 164 [rr 0 a1,iv a2] [rE 1 eU8 a1] ((jZ a1 a2).map fun r=>(iv r.1,[rE 1 eU8 r.2])):=by
 refine zH c164 Tryz.f164 1 20 (fun q=>?_)
 unfold jZ
 refine J_g 2 [] [(0,rr 0 a1),(1,iv a2)] [(0,rE 1 eU8 a1)] zB ?_
 refine J_d 12 [] [5] [(5,iv 0)] [] [] zB ?_
 refine zEG (zAf.ok q _ (fun v10=>J_j ?_) (a1,a2,0))
 refine J_g 14 [] [(4,iv v10.2)] [(0,rE 1 eU8 v10.1)] zB ?_
 exact zT rfl
noncomputable def c88:Code:=(Tryz.f88.body).getD .skip
theorem zAi.ok (q:Wd) (kn:((List File)×Int)→Option (D×List Ent)) (hk:∀v:((List File)×Int),J (q.g Tryz.prog 88 1 28) c88 (atI c88 7) (St.mk' [(1,iv v.2)] [(0,rE 2 (File.enc true) v.1)]) (some v) kn):
  ∀s14:((List File)×Int×Int),J (q.g Tryz.prog 88 1 28) c88 (atI c88 52) (St.mk' [(0,rr 0 s14.1),(1,iv s14.2.1),(5,iv s14.2.2)] [(0,rE 2 (File.enc true) s14.1)]) (zAi s14) kn:=by
 refine zA6 (fun g ih s14=>?_)
 unfold kP
 refine J_d 208 [] [9] [(9,bv (decide (s14.2.2< (s14.1.length:Int))))] [] [] zB ?_
 refine zC 9 (fun h15=>?_) (fun h15=>?_)
 ·refine zA (fun x16 h17=>?_)
  refine zA (fun x18 h19=>?_)
  refine J_g 840 [] [(0,rr 0 s14.1),(1,iv s14.2.1),(5,iv s14.2.2)] [(0,rE 2 (File.enc true) (s14.1.set s14.2.2.toNat ({Path:=x16,Data:=x18.Data}:File)))] (zD 3 (xE [(.tmp 14)] [3] (yY.ok s14.2.1) h17) (zD 4 (uH (kk:=.i64) 25 113 2 0 (File.enc true) (.tmp 12) (.tmp 13) h19) (zEC 6 (zFB (b:=({Path:=x16,Data:=x18.Data}:File)) 9 2 0 0 (File.enc true) (sv x16) (.tmp 17) (.tmp 15) h19 rfl) zB))) ?_
  refine zDH (σ':=St.mk' [(0,rr 0 (s14.1.set s14.2.2.toNat ({Path:=x16,Data:=x18.Data}:File))),(1,iv s14.2.1),(5,iv s14.2.2)] [(0,rE 2 (File.enc true) (s14.1.set s14.2.2.toNat ({Path:=x16,Data:=x18.Data}:File)))]) (by simp only [rr,List.length_set]) ?_
  refine J_d 1682 [] [1] [(1,iv (w64 (s14.2.1+1)))] [] [] zB ?_
  refine zA (fun x20 h21=>?_)
  refine zGb (ix:=s14.2.2) (enc:=(File.enc true)) 0 1 1 h21 rfl rfl (by kernel_rfl) ?_
  refine zFu [(0,rr 0 (s14.1.set s14.2.2.toNat ({Path:=x16,Data:=x18.Data}:File))),(1,iv (w64 (s14.2.1+1))),(5,iv s14.2.2)] [(0,.lent 2 ((s14.1.set s14.2.2.toNat ({Path:=x16,Data:=x18.Data}:File)).map (File.enc true)) s14.2.2.toNat 1 1 x20.Data.length),(1,rE 1 eU8 x20.Data)] (by kernel_rfl) ?_
  refine zA (fun x22 h23=>?_)
  refine J_g 1683 [] [(0,rr 0 (s14.1.set s14.2.2.toNat ({Path:=x16,Data:=x18.Data}:File))),(1,iv x22.1),(5,iv s14.2.2)] [(0,.lent 2 ((s14.1.set s14.2.2.toNat ({Path:=x16,Data:=x18.Data}:File)).map (File.enc true)) s14.2.2.toNat 1 1 x20.Data.length),(1,rE 1 eU8 x22.2)] (zD 2 (zLi (kk:=.i64) 25 113 2 0 (File.enc true) (.tmp 20) (.tmp 21) s14.2.2.toNat 1 1 x20.Data.length h21) (zD 4 (zLg 111 0 (.tmp 23) 2 (File.enc true) (s14.1.set s14.2.2.toNat ({Path:=x16,Data:=x18.Data}:File)) s14.2.2.toNat 1 1 x20.Data.length) (zD 6 (uW («as»:=[rr 1 x20.Data,iv (w64 (s14.2.1+1))]) [(.tmp 24),(.tmp 25)] [111,3] false [(1,rE 1 eU8 x20.Data)] [1] (.cons (.rf rfl) (.cons (.same rfl) (.nil))) (jZ.ok x20.Data (w64 (s14.2.1+1))) h23 (.same rfl rfl)) zB))) ?_
  refine zA (fun u24 h25=>?_)
  refine zFN (ix:=s14.2.2) (enc:=(File.enc true)) (b:=({Path:=x20.Path,Data:=x22.2}:File)) 0 1 1 h21 rfl rfl rfl rfl (zBh h25) (Nat.le_of_ble_eq_true rfl) ((List.length_map _).trans (zBh h25)) ?_
  refine zFu [(0,rr 0 (s14.1.set s14.2.2.toNat ({Path:=x16,Data:=x18.Data}:File))),(1,iv x22.1),(5,iv s14.2.2)] [(0,rE 2 (File.enc true) ((s14.1.set s14.2.2.toNat ({Path:=x16,Data:=x18.Data}:File)).set s14.2.2.toNat ({Path:=x20.Path,Data:=x22.2}:File)))] (by kernel_rfl) ?_
  refine zDH (σ':=St.mk' [(0,rr 0 ((s14.1.set s14.2.2.toNat ({Path:=x16,Data:=x18.Data}:File)).set s14.2.2.toNat ({Path:=x20.Path,Data:=x22.2}:File))),(1,iv x22.1),(5,iv s14.2.2)] [(0,rE 2 (File.enc true) ((s14.1.set s14.2.2.toNat ({Path:=x16,Data:=x18.Data}:File)).set s14.2.2.toNat ({Path:=x20.Path,Data:=x22.2}:File)))]) (by simp only [rr,List.length_set]) ?_
  refine J_d 211 [] [5] [(5,iv (w64 (s14.2.2+1)))] [] [] zB ?_
  exact J_q (J_b (ih ((s14.1.set s14.2.2.toNat ({Path:=x16,Data:=x18.Data}:File)).set s14.2.2.toNat ({Path:=x20.Path,Data:=x22.2}:File),x22.1,w64 (s14.2.2+1)))) rfl
 ·exact yP (hk (s14.1,s14.2.1)) rfl
theorem kJ.ok (a1:(List File)) (a2:Int):Ok Tryz.prog 88 [rr 0 a1,iv a2] [rE 2 (File.enc true) a1] ((kJ a1 a2).map fun r=>(iv r.1,[rE 2 (File.enc true) r.2])):=by
 refine zH c88 Tryz.f88 1 28 (fun q=>?_)
 unfold kJ
 refine J_g 2 [] [(0,rr 0 a1),(1,iv a2)] [(0,rE 2 (File.enc true) a1)] zB ?_
 refine J_d 12 [] [5] [(5,iv 0)] [] [] zB ?_
 refine zEG (zAi.ok q _ (fun v26=>J_j ?_) (a1,a2,0))
 refine J_d 14 [] [1,4] [(4,iv v26.2)] [] [] zB ?_
 exact zT rfl
noncomputable def c34:Code:=(Tryz.f34.body).getD .skip
theorem zAw.ok (a1:zL) (a2:Int):Ok Tryz.prog 34 [.ag [rr 0 a1.Files,iv a1.Budget,iv a1.Writes,iv a1.Stop,bv a1.Down],iv a2] [rE 2 (File.enc true) a1.Files] ((zAw a1 a2).map fun r=>(iv r.1,[rE 2 (File.enc true) r.2])):=by
 refine zH c34 Tryz.f34 1 10 (fun q=>?_)
 unfold zAw
 refine J_d 2 [(0,1)] [0,2] [(2,pp 1)] [1] [(1,.box [rr 0 a1.Files,iv a1.Budget,iv a1.Writes,iv a1.Stop,bv a1.Down])] zB ?_
 refine zA (fun x3 h4=>?_)
 refine J_g 6 [] [(1,iv x3.1)] [(0,rE 2 (File.enc true) x3.2)] (zD 3 (uW («as»:=[rr 0 a1.Files,iv a2]) [(.tmp 6),(.tmp 7)] [25,3] false [(0,rE 2 (File.enc true) a1.Files)] [0] (.cons (.rf rfl) (.cons (.same rfl) (.nil))) (kJ.ok a1.Files a2) h4 (.same rfl rfl)) zB) ?_
 refine zA (fun u5 h6=>?_)
 refine J_d 14 [] [1,4] [(4,iv x3.1)] [] [] zB ?_
 exact zT rfl
noncomputable def c35:Code:=(Tryz.f35.body).getD .skip
theorem kH.ok (q:Wd) (kn:((List Int)×Int)→Option (D×List Ent)) (hk:∀v:((List Int)×Int),J (q.g Tryz.prog 35 1 19) c35 (atI c35 7) (St.mk' [(1,iv v.2)] [(0,rE 1 zI v.1)]) (some v) kn):
  ∀s6:((List Int)×Int×Int),J (q.g Tryz.prog 35 1 19) c35 (atI c35 52) (St.mk' [(0,rr 0 s6.1),(1,iv s6.2.1),(5,iv s6.2.2)] [(0,rE 1 zI s6.1)]) (kH s6) kn:=by
 refine zA6 (fun g ih s6=>?_)
 unfold tL
 refine J_d 208 [] [9] [(9,bv (decide (s6.2.2< (s6.1.length:Int))))] [] [] zB ?_
 refine zC 9 (fun h7=>?_) (fun h7=>?_)
 ·refine zA (fun x8 h9=>?_)
  refine J_g 840 [] [(0,rr 0 s6.1),(1,iv s6.2.1),(5,iv s6.2.2)] [(0,rE 1 zI (s6.1.set s6.2.2.toNat s6.2.1))] (zD 3 (uH (kk:=.i64) 42 2 1 0 zI (.tmp 12) (.tmp 13) h9) (zEC 4 (zFB (b:=s6.2.1) 2 1 0 0 zI (iv s6.2.1) (.tmp 15) (.tmp 14) h9 rfl) zB)) ?_
  refine zDH (σ':=St.mk' [(0,rr 0 (s6.1.set s6.2.2.toNat s6.2.1)),(1,iv s6.2.1),(5,iv s6.2.2)] [(0,rE 1 zI (s6.1.set s6.2.2.toNat s6.2.1))]) (by simp only [rr,List.length_set]) ?_
  refine J_g 841 [] [(0,rr 0 (s6.1.set s6.2.2.toNat s6.2.1)),(1,iv (w64 (s6.2.1+1))),(5,iv s6.2.2)] [(0,rE 1 zI (s6.1.set s6.2.2.toNat s6.2.1))] zB ?_
  refine J_d 211 [] [5] [(5,iv (w64 (s6.2.2+1)))] [] [] zB ?_
  exact J_q (J_b (ih (s6.1.set s6.2.2.toNat s6.2.1,w64 (s6.2.1+1),w64 (s6.2.2+1)))) rfl
 ·exact yP (hk (s6.1,s6.2.1)) rfl
theorem tJ.ok (a1:(List Int)) (a2:Int):Ok Tryz.prog 35 [rr 0 a1,iv a2] [rE 1 zI a1] ((tJ a1 a2).map fun r=>(iv r.1,[rE 1 zI r.2])):=by
 refine zH c35 Tryz.f35 1 19 (fun q=>?_)
 unfold tJ
 refine J_g 2 [] [(0,rr 0 a1),(1,iv a2)] [(0,rE 1 zI a1)] zB ?_
 refine J_d 12 [] [5] [(5,iv 0)] [] [] zB ?_
 refine zEG (kH.ok q _ (fun v10=>J_j ?_) (a1,a2,0))
 refine J_g 14 [] [(4,iv v10.2)] [(0,rE 1 zI v10.1)] zB ?_
 exact zT rfl
noncomputable def c43:Code:=(Tryz.f43.body).getD .skip
theorem xX.ok (a1:zJ) (a2:Int):Ok Tryz.prog 43 [.ag [iv a1.Code,rr 0 a1.Names],iv a2] [rE 1 eStr a1.Names] ((xX a1 a2).map fun r=>(iv r.1,[rE 1 eStr r.2])):=by
 refine zH c43 Tryz.f43 1 10 (fun q=>?_)
 unfold xX
 refine J_d 2 [(0,1)] [0,2] [(2,pp 1)] [1] [(1,.box [iv a1.Code,rr 0 a1.Names])] zB ?_
 refine zA (fun x3 h4=>?_)
 refine J_g 6 [] [(1,iv x3.1)] [(0,rE 1 eStr x3.2)] (zD 3 (uW («as»:=[rr 0 a1.Names,iv a2]) [(.tmp 6),(.tmp 7)] [70,3] false [(0,rE 1 eStr a1.Names)] [0] (.cons (.rf rfl) (.cons (.same rfl) (.nil))) (wB.ok a1.Names a2) h4 (.same rfl rfl)) zB) ?_
 refine zA (fun u5 h6=>?_)
 refine J_g 14 [] [(4,iv x3.1)] [(0,rE 1 eStr x3.2)] zB ?_
 exact zT rfl
noncomputable def c99:Code:=(Tryz.f99.body).getD .skip
theorem kN.ok (a1:(List ByteArray)) (q:Wd) (kn:Int→Option (D×List Ent)) (hk:∀v:Int,J (q.g Tryz.prog 99 0 22) c99 (atI c99 7) (St.mk' [(1,iv v)] []) (some v) kn):
  ∀s9:(Int×Int),J (q.g Tryz.prog 99 0 22) c99 (atI c99 52) (St.mk' [(0,sl 1 eStr a1),(1,iv s9.1),(5,iv s9.2)] []) (kN a1 s9) (Fl.go (fun r:Int=>some (iv r,[])) kn):=by
 refine zA6 (fun g ih s9=>?_)
 unfold tZ
 refine J_d 208 [] [9] [(9,bv (decide (s9.2< (a1.length:Int))))] [] [] zB ?_
 refine zC 9 (fun h10=>?_) (fun h10=>?_)
 ·refine zA (fun x11 h12=>?_)
  refine zA (fun x13 h14=>?_)
  refine J_d 1680 [] [9,18] [(18,bv (!(seq x11 x13)))] [] [] (zD 2 (zAt (kk:=.i64) 70 9 1 eStr (.tmp 12) (.tmp 13) h12) (zD 5 (xE [(.tmp 16)] [3] (yY.ok s9.1) h14) zB)) ?_
  refine zC 18 (fun h15=>?_) (fun h15=>?_)
  ·refine J_g 6724 [] [(4,iv (-1))] [] zB ?_
   exact zT rfl
  ·refine J_g 841 [] [(0,sl 1 eStr a1),(1,iv (w64 (s9.1+1))),(5,iv s9.2)] [] zB ?_
   refine J_d 211 [] [5] [(5,iv (w64 (s9.2+1)))] [] [] zB ?_
   exact J_q (J_b (ih (w64 (s9.1+1),w64 (s9.2+1)))) rfl
 ·exact yP (hk s9.1) rfl
theorem tK.ok (a1:(List ByteArray)) (a2:Int):Ok Tryz.prog 99 [sl 1 eStr a1,iv a2] [] ((tK a1 a2).map fun r=>(iv r,[])):=by
 refine zH c99 Tryz.f99 0 22 (fun q=>?_)
 unfold tK
 refine J_g 2 [] [(0,sl 1 eStr a1),(1,iv a2)] [] zB ?_
 refine J_d 12 [] [5] [(5,iv 0)] [] [] zB ?_
 refine uN (K0:=(fun r:Int=>some (iv r,[]))) (fun _=>rfl) (kN.ok a1 q _ (fun v16=>J_j ?_) (a2,0))
 refine J_g 14 [] [(4,iv v16)] [] zB ?_
 exact zT rfl
noncomputable def c44:Code:=(Tryz.f44.body).getD .skip
theorem xD.ok (a1:zJ) (a2:Int):Ok Tryz.prog 44 [.ag (zJ.enc false a1),iv a2] [] ((xD a1 a2).map fun r=>(iv r,[])):=by
 refine zH c44 Tryz.f44 0 12 (fun q=>?_)
 unfold xD
 refine J_g 2 [(0,0)] [(1,iv a2),(2,pp 0)] [(0,.box (zJ.enc false a1))] zB ?_
 refine zA (fun x3 h4=>?_)
 refine J_g 6 [] [(1,iv x3)] [] (zD 3 (xE [(.tmp 6),(.tmp 7)] [70,3] (tK.ok a1.Names a2) h4) zB) ?_
 refine J_g 28 [] [(1,iv x3),(10,bv (decide (x3<0)))] [] zB ?_
 refine zC 10 (fun h5=>?_) (fun h5=>?_)
 ·refine J_g 116 [] [(4,iv (-1))] [] zB ?_
  exact zT rfl
 ·refine J_g 30 [] [(4,iv x3)] [] zB ?_
  exact zT rfl
noncomputable def c8:Code:=(Tryz.f8.body).getD .skip
theorem xI.ok (a1:(List Pack)) (a2:zL) (a3:(List Int)):Ok Tryz.prog 8 [sl 8 (Pack.enc false) a1,.ag (zL.enc false a2),sl 1 zI a3] [] ((xI a1 a2 a3).map fun r=>(bv r,[])):=by
 refine zH c8 Tryz.f8 0 113 (fun q=>?_)
 unfold xI
 refine J_g 2 [(0,0)] [(0,sl 8 (Pack.enc false) a1),(2,sl 1 zI a3),(4,pp 0)] [(0,.box (zL.enc false a2))] zB ?_
 refine J_d 12 [] [19] [(19,bv (decide ((a3.length:Int)>1048576)))] [] [] zB ?_
 refine zC 19 (fun h4=>?_) (fun h4=>?_)
 ·refine J_g 52 [] [(6,bv true)] [] zB ?_
  exact zT rfl
 ·refine J_d 14 [] [7,19] [(7,iv 1048576)] [] [] zB ?_
  refine zA (fun x5 h6=>?_)
  refine J_g 30 [] [(0,sl 8 (Pack.enc false) a1),(2,sl 1 zI a3),(4,pp 0),(7,iv x5)] [(0,.box (zL.enc false a2))] (zD 2 (xE [(.tmp 20),(.tmp 21)] [22,3] (zB4.ok a1 1048576) h6) zB) ?_
  refine J_d 124 [] [24] [(24,bv (decide (x5<0)))] [] [] zB ?_
  refine zC 24 (fun h7=>?_) (fun h7=>?_)
  ·refine J_g 500 [] [(6,bv true)] [] zB ?_
   exact zT rfl
  ·refine zA (fun x8 h9=>?_)
   refine J_g 126 [] [(0,sl 8 (Pack.enc false) a1),(2,sl 1 zI a3),(4,pp 0),(7,iv x8)] [(0,.box (zL.enc false a2))] (zD 2 (xE [(.tmp 25),(.tmp 26)] [41,3] (zC2.ok a2 x5) h9) zB) ?_
   refine J_d 508 [] [7,29] [(29,bv (decide (x8<0)))] [] [] zB ?_
   refine zC 29 (fun h10=>?_) (fun h10=>?_)
   ·refine J_g 2036 [] [(6,bv true)] [] zB ?_
    exact zT rfl
   ·refine zA (fun x11 h12=>?_)
    refine zA (fun x13 h14=>?_)
    refine zA (fun x15 h16=>?_)
    refine zA (fun x17 h18=>?_)
    refine J_d 510 [(7,5)] [8,29] [(8,pp 5)] [4,5] [(4,rE 1 eStr x17.Names),(5,.box [iv x17.Code,rr 4 x17.Names])] (zD 1 (uW («as»:=[sl 8 (Pack.enc false) a1]) [(.tmp 30)] [22] false [] [] (.cons (.same rfl) (.nil)) (wW.ok a1) h12 (.own 1)) (zD 3 (uW («as»:=[.ag (zL.enc false a2)]) [(.tmp 32)] [41] false [] [] (.cons (.same rfl) (.nil)) (uD.ok a2) h14 (.ag (.cons (.own 2) (.cons (.same rfl rfl) (.cons (.same rfl rfl) (.cons (.same rfl rfl) (.cons (.same rfl rfl) (.nil)))))))) (zD 5 (uW («as»:=[sl 1 zI a3]) [(.tmp 34)] [42] false [] [] (.cons (.same rfl) (.nil)) (xZ.ok a3) h16 (.own 3)) (zD 6 (uW («as»:=[rr 1 x11,.ag [rr 2 x13.Files,iv x13.Budget,iv x13.Writes,iv x13.Stop,bv x13.Down],rr 3 x15]) [(.tmp 31),(.tmp 33),(.tmp 35)] [24,27,42] true [(1,rE 8 (Pack.enc true) x11),(2,rE 2 (File.enc true) x13.Files),(3,rE 1 zI x15)] [] (.cons (zDz (.head _) (Pack.ro true) rfl) (.cons (.ag (.cons (zDz (.tail _ (.head _)) (File.ro true) rfl) (.cons (.same rfl) (.cons (.same rfl) (.cons (.same rfl) (.cons (.same rfl) (.nil))))))) (.cons (zDz (.tail _ (.tail _ (.head _))) (fun _=>rfl) rfl) (.nil)))) (wX.ok x11 x13 x15) h18 (.ag (.cons (.same rfl rfl) (.cons (.own 4) (.nil)))) (hbor:=fun _=>⟨fhN,(zIV (zJ.fl _))⟩)) zB)))) ?_
    refine zA (fun x19 h20=>?_)
    refine J_d 1022 [] [9] [(9,rr 6 x19)] [6] [(6,rE 8 (Pack.enc true) x19)] (zD 1 (uW («as»:=[sl 8 (Pack.enc false) a1]) [(.tmp 37)] [22] false [] [] (.cons (.same rfl) (.nil)) (wW.ok a1) h20 (.own 6)) zB) ?_
    refine zA (fun x21 h22=>?_)
    refine J_d 2046 [(2,8)] [10] [(10,pp 8)] [7,8] [(7,rE 2 (File.enc true) x21.Files),(8,.box [rr 7 x21.Files,iv x21.Budget,iv x21.Writes,iv x21.Stop,bv x21.Down])] (zD 1 (uW («as»:=[.ag (zL.enc false a2)]) [(.tmp 39)] [41] false [] [] (.cons (.same rfl) (.nil)) (uD.ok a2) h22 (.ag (.cons (.own 7) (.cons (.same rfl rfl) (.cons (.same rfl rfl) (.cons (.same rfl rfl) (.cons (.same rfl rfl) (.nil)))))))) zB) ?_
    refine zA (fun x23 h24=>?_)
    refine J_d 4094 [] [11] [(11,rr 9 x23)] [9] [(9,rE 1 zI x23)] (zD 1 (uW («as»:=[sl 1 zI a3]) [(.tmp 41)] [42] false [] [] (.cons (.same rfl) (.nil)) (xZ.ok a3) h24 (.own 9)) zB) ?_
    refine zA (fun x25 h26=>?_)
    refine J_d 8190 [(4,11)] [12] [(12,pp 11)] [10,11] [(10,rE 1 eStr x25.Names),(11,.box [iv x25.Code,rr 10 x25.Names])] (zD 3 (uW («as»:=[rr 6 x19,.ag [rr 7 x21.Files,iv x21.Budget,iv x21.Writes,iv x21.Stop,bv x21.Down],rr 9 x23]) [(.tmp 43),(.tmp 44),(.tmp 45)] [24,27,42] true [(6,rE 8 (Pack.enc true) x19),(7,rE 2 (File.enc true) x21.Files),(9,rE 1 zI x23)] [] (.cons (zDz (.head _) (Pack.ro true) rfl) (.cons (.ag (.cons (zDz (.tail _ (.head _)) (File.ro true) rfl) (.cons (.same rfl) (.cons (.same rfl) (.cons (.same rfl) (.cons (.same rfl) (.nil))))))) (.cons (zDz (.tail _ (.tail _ (.head _))) (fun _=>rfl) rfl) (.nil)))) (xR.ok x19 x21 x23) h26 (.ag (.cons (.same rfl rfl) (.cons (.own 10) (.nil)))) (hbor:=fun _=>⟨fhN,(zIV (zJ.fl _))⟩)) zB) ?_
    refine zA (fun x27 h28=>?_)
    refine J_d 32764 [] [50] [(50,bv (!x27))] [] [] (zD 2 (uW («as»:=[.ag [iv x25.Code,rr 10 x25.Names],.ag [iv x17.Code,rr 4 x17.Names]]) [(.tmp 47),(.tmp 48)] [72,72] true [(10,rE 1 eStr x25.Names),(4,rE 1 eStr x17.Names)] [] (.cons (.ag (.cons (.same rfl) (.cons (zDz (.head _) (fun _=>rfl) rfl) (.nil)))) (.cons (.ag (.cons (.same rfl) (.cons (zDz (.tail _ (.head _)) (fun _=>rfl) rfl) (.nil)))) (.nil))) (yX.ok x25 x17) h28 (.same rfl rfl) (hbor:=fun _=>⟨fhN,yH⟩)) zB) ?_
    refine zC 50 (fun h29=>?_) (fun h29=>?_)
    ·refine J_g 131060 [] [(6,bv false)] [] zB ?_
     exact zT rfl
    ·refine zA (fun x30 h31=>?_)
     refine zA (fun x32 h33=>?_)
     refine J_d 65532 [] [50,55] [(55,bv (!x32))] [] [] (zD 2 (uW («as»:=[sl 8 (Pack.enc false) a1]) [(.tmp 52)] [22] false [] [] (.cons (.same rfl) (.nil)) (wW.ok a1) h31 (.own 12)) (zD 3 (uW («as»:=[rr 6 x19,rr 12 x30]) [(.tmp 51),(.tmp 53)] [24,24] true [(6,rE 8 (Pack.enc true) x19),(12,rE 8 (Pack.enc true) x30)] [] (.cons (zDz (.head _) (Pack.ro true) rfl) (.cons (zDz (.tail _ (.head _)) (Pack.ro true) rfl) (.nil))) (zBP.ok x19 x30) h33 (.same rfl rfl) (hbor:=fun _=>⟨fhN,yH⟩)) zB)) ?_
     refine zC 55 (fun h34=>?_) (fun h34=>?_)
     ·refine J_g 262132 [] [(6,bv false)] [] zB ?_
      exact zT rfl
     ·refine zA (fun x35 h36=>?_)
      refine zA (fun x37 h38=>?_)
      refine J_d 131068 [] [55,60] [(60,bv (!x37))] [] [] (zD 2 (uW («as»:=[.ag (zL.enc false a2)]) [(.tmp 57)] [41] false [] [] (.cons (.same rfl) (.nil)) (uD.ok a2) h36 (.ag (.cons (.own 12) (.cons (.same rfl rfl) (.cons (.same rfl rfl) (.cons (.same rfl rfl) (.cons (.same rfl rfl) (.nil)))))))) (zD 3 (uW («as»:=[.ag [rr 7 x21.Files,iv x21.Budget,iv x21.Writes,iv x21.Stop,bv x21.Down],.ag [rr 12 x35.Files,iv x35.Budget,iv x35.Writes,iv x35.Stop,bv x35.Down]]) [(.tmp 56),(.tmp 58)] [27,27] true [(7,rE 2 (File.enc true) x21.Files),(12,rE 2 (File.enc true) x35.Files)] [] (.cons (.ag (.cons (zDz (.head _) (File.ro true) rfl) (.cons (.same rfl) (.cons (.same rfl) (.cons (.same rfl) (.cons (.same rfl) (.nil))))))) (.cons (.ag (.cons (zDz (.tail _ (.head _)) (File.ro true) rfl) (.cons (.same rfl) (.cons (.same rfl) (.cons (.same rfl) (.cons (.same rfl) (.nil))))))) (.nil))) (zCw.ok x21 x35) h38 (.same rfl rfl) (hbor:=fun _=>⟨fhN,yH⟩)) zB)) ?_
      refine zC 60 (fun h39=>?_) (fun h39=>?_)
      ·refine J_g 524276 [] [(6,bv false)] [] zB ?_
       exact zT rfl
      ·refine zA (fun x40 h41=>?_)
       refine zA (fun x42 h43=>?_)
       refine J_d 262140 [] [60,65] [(65,bv (!x42))] [] [] (zD 2 (uW («as»:=[sl 1 zI a3]) [(.tmp 62)] [42] false [] [] (.cons (.same rfl) (.nil)) (xZ.ok a3) h41 (.own 12)) (zD 3 (uW («as»:=[rr 9 x23,rr 12 x40]) [(.tmp 61),(.tmp 63)] [42,42] true [(9,rE 1 zI x23),(12,rE 1 zI x40)] [] (.cons (zDz (.head _) (fun _=>rfl) rfl) (.cons (zDz (.tail _ (.head _)) (fun _=>rfl) rfl) (.nil))) (zAH.ok x23 x40) h43 (.same rfl rfl) (hbor:=fun _=>⟨fhN,yH⟩)) zB)) ?_
       refine zC 65 (fun h44=>?_) (fun h44=>?_)
       ·refine J_g 1048564 [] [(6,bv false)] [] zB ?_
        exact zT rfl
       ·refine J_d 262142 [] [13,65] [(13,iv 1)] [] [] zB ?_
        refine zA (fun x45 h46=>?_)
        refine J_g 524286 [] [(0,sl 8 (Pack.enc false) a1),(2,sl 1 zI a3),(4,pp 0),(8,pp 5),(10,pp 8),(11,rr 9 x23),(12,pp 11),(13,iv x45.1)] [(0,.box (zL.enc false a2)),(4,rE 1 eStr x17.Names),(5,.box [iv x17.Code,rr 4 x17.Names]),(7,rE 2 (File.enc true) x21.Files),(8,.box [rr 7 x21.Files,iv x21.Budget,iv x21.Writes,iv x21.Stop,bv x21.Down]),(9,rE 1 zI x23),(10,rE 1 eStr x25.Names),(11,.box [iv x25.Code,rr 10 x25.Names])] (zD 2 (uW («as»:=[rr 6 x19,iv 1]) [(.tmp 66),(.tmp 67)] [24,3] false [(6,rE 8 (Pack.enc true) x19)] [6] (.cons (.rf rfl) (.cons (.same rfl) (.nil))) (kI.ok x19 1) h46 (.same rfl rfl)) zB) ?_
        refine zA (fun x47 h48=>?_)
        refine J_g 1048574 [] [(0,sl 8 (Pack.enc false) a1),(2,sl 1 zI a3),(4,pp 0),(8,pp 5),(11,rr 9 x23),(12,pp 11),(13,iv x47.1)] [(0,.box (zL.enc false a2)),(4,rE 1 eStr x17.Names),(5,.box [iv x17.Code,rr 4 x17.Names]),(9,rE 1 zI x23),(10,rE 1 eStr x25.Names),(11,.box [iv x25.Code,rr 10 x25.Names])] (zD 2 (uW («as»:=[.ag [rr 7 x21.Files,iv x21.Budget,iv x21.Writes,iv x21.Stop,bv x21.Down],iv x45.1]) [(.tmp 69),(.tmp 70)] [27,3] false [(7,rE 2 (File.enc true) x21.Files)] [7] (.cons (.ag (.cons (.rf rfl) (.cons (.same rfl) (.cons (.same rfl) (.cons (.same rfl) (.cons (.same rfl) (.nil))))))) (.cons (.same rfl) (.nil))) (zAw.ok x21 x45.1) h48 (.same rfl rfl)) zB) ?_
        refine zA (fun x49 h50=>?_)
        refine J_g 2097150 [] [(0,sl 8 (Pack.enc false) a1),(2,sl 1 zI a3),(4,pp 0),(8,pp 5),(12,pp 11),(13,iv x49.1)] [(0,.box (zL.enc false a2)),(4,rE 1 eStr x17.Names),(5,.box [iv x17.Code,rr 4 x17.Names]),(10,rE 1 eStr x25.Names),(11,.box [iv x25.Code,rr 10 x25.Names])] (zD 2 (uW («as»:=[rr 9 x23,iv x47.1]) [(.tmp 72),(.tmp 73)] [42,3] false [(9,rE 1 zI x23)] [9] (.cons (.rf rfl) (.cons (.same rfl) (.nil))) (tJ.ok x23 x47.1) h50 (.same rfl rfl)) zB) ?_
        refine xP (atI c8 8388605) (fun v54:Bool=>St.mk' [(0,sl 8 (Pack.enc false) a1),(2,sl 1 zI a3),(4,pp 0),(8,pp 5),(12,pp 11),(82,bv v54)] [(0,.box (zL.enc false a2)),(4,rE 1 eStr x17.Names),(5,.box [iv x17.Code,rr 4 x17.Names]),(10,rE 1 eStr x25.Names),(11,.box [iv x25.Code,rr 10 x25.Names])]) (fun v54=>?_) (fun jv54=>?_)
        ·refine zC 82 (fun h55=>?_) (fun h55=>?_)
         ·refine J_g 33554420 [] [(6,bv false)] [] zB ?_
          exact zT rfl
         ·refine J_d 8388606 [] [14,82] [(14,iv 1)] [] [] zB ?_
          refine zA (fun x56 h57=>?_)
          refine J_g 16777214 [] [(0,sl 8 (Pack.enc false) a1),(2,sl 1 zI a3),(4,pp 0),(8,pp 5),(12,pp 11),(14,iv x56.1)] [(0,.box (zL.enc false a2)),(4,rE 1 eStr x17.Names),(5,.box [iv x17.Code,rr 4 x17.Names]),(10,rE 1 eStr x56.2),(11,.box [iv x25.Code,rr 10 x25.Names])] (zD 2 (uW («as»:=[.ag [iv x25.Code,rr 10 x25.Names],iv 1]) [(.tmp 83),(.tmp 84)] [72,3] false [(10,rE 1 eStr x25.Names)] [10] (.cons (.ag (.cons (.same rfl) (.cons (.rf rfl) (.nil)))) (.cons (.same rfl) (.nil))) (xX.ok x25 1) h57 (.same rfl rfl)) zB) ?_
          refine zA (fun u58 h59=>?_)
          refine zDH (σ':=St.mk' [(0,sl 8 (Pack.enc false) a1),(2,sl 1 zI a3),(4,pp 0),(8,pp 5),(12,pp 11),(14,iv x56.1)] [(0,.box (zL.enc false a2)),(4,rE 1 eStr x17.Names),(5,.box [iv x17.Code,rr 4 x17.Names]),(10,rE 1 eStr x56.2),(11,.box [iv x25.Code,rr 10 x56.2])]) (by simp only [rr,zBh h59]) ?_
          refine J_d 33554430 [] [15] [(15,iv 1)] [] [] zB ?_
          refine zA (fun x60 h61=>?_)
          refine J_g 67108862 [] [(0,sl 8 (Pack.enc false) a1),(2,sl 1 zI a3),(4,pp 0),(8,pp 5),(12,pp 11),(14,iv x56.1),(15,iv x60)] [(0,.box (zL.enc false a2)),(4,rE 1 eStr x17.Names),(5,.box [iv x17.Code,rr 4 x17.Names]),(10,rE 1 eStr x56.2),(11,.box [iv x25.Code,rr 10 x56.2])] (zD 2 (uW («as»:=[.ag [iv x25.Code,rr 10 x56.2],iv 1]) [(.tmp 86),(.tmp 87)] [72,3] true [(10,rE 1 eStr x56.2)] [] (.cons (.ag (.cons (.same rfl) (.cons (zDz (.head _) (fun _=>rfl) rfl) (.nil)))) (.cons (.same rfl) (.nil))) (xD.ok ({Code:=x25.Code,Names:=x56.2}:zJ) 1) h61 (.same rfl rfl) (hbor:=fun _=>⟨fhN,yH⟩)) zB) ?_
          refine J_d 268435452 [] [90] [(90,bv (decide (x60<0)))] [] [] zB ?_
          refine zC 90 (fun h62=>?_) (fun h62=>?_)
          ·refine J_g 1073741812 [] [(6,bv false)] [] zB ?_
           exact zT rfl
          ·refine J_d 536870908 [] [15,90,93] [(93,bv (x60 !=x56.1))] [] [] zB ?_
           refine zC 93 (fun h63=>?_) (fun h63=>?_)
           ·refine J_g 2147483636 [] [(6,bv false)] [] zB ?_
            exact zT rfl
           ·refine zA (fun x64 h65=>?_)
            refine zA (fun x66 h67=>?_)
            refine zA (fun x68 h69=>?_)
            refine zA (fun x70 h71=>?_)
            refine J_d 536870910 [(7,16)] [0,2,4,16,93] [(16,pp 16)] [0,15,16] [(15,rE 1 eStr x70.Names),(16,.box [iv x70.Code,rr 15 x70.Names])] (zD 1 (uW («as»:=[sl 8 (Pack.enc false) a1]) [(.tmp 94)] [22] false [] [] (.cons (.same rfl) (.nil)) (wW.ok a1) h65 (.own 12)) (zD 3 (uW («as»:=[.ag (zL.enc false a2)]) [(.tmp 96)] [41] false [] [] (.cons (.same rfl) (.nil)) (uD.ok a2) h67 (.ag (.cons (.own 13) (.cons (.same rfl rfl) (.cons (.same rfl rfl) (.cons (.same rfl rfl) (.cons (.same rfl rfl) (.nil)))))))) (zD 5 (uW («as»:=[sl 1 zI a3]) [(.tmp 98)] [42] false [] [] (.cons (.same rfl) (.nil)) (xZ.ok a3) h69 (.own 14)) (zD 6 (uW («as»:=[rr 12 x64,.ag [rr 13 x66.Files,iv x66.Budget,iv x66.Writes,iv x66.Stop,bv x66.Down],rr 14 x68]) [(.tmp 95),(.tmp 97),(.tmp 99)] [24,27,42] true [(12,rE 8 (Pack.enc true) x64),(13,rE 2 (File.enc true) x66.Files),(14,rE 1 zI x68)] [] (.cons (zDz (.head _) (Pack.ro true) rfl) (.cons (.ag (.cons (zDz (.tail _ (.head _)) (File.ro true) rfl) (.cons (.same rfl) (.cons (.same rfl) (.cons (.same rfl) (.cons (.same rfl) (.nil))))))) (.cons (zDz (.tail _ (.tail _ (.head _))) (fun _=>rfl) rfl) (.nil)))) (xR.ok x64 x66 x68) h71 (.ag (.cons (.same rfl rfl) (.cons (.own 15) (.nil)))) (hbor:=fun _=>⟨fhN,(zIV (zJ.fl _))⟩)) zB)))) ?_
            refine zA (fun x72 h73=>?_)
            refine J_d 2147483644 [] [8,16,104] [(104,bv (!x72))] [4,5,15,16] [] (zD 2 (uW («as»:=[.ag [iv x70.Code,rr 15 x70.Names],.ag [iv x17.Code,rr 4 x17.Names]]) [(.tmp 101),(.tmp 102)] [72,72] true [(15,rE 1 eStr x70.Names),(4,rE 1 eStr x17.Names)] [] (.cons (.ag (.cons (.same rfl) (.cons (zDz (.head _) (fun _=>rfl) rfl) (.nil)))) (.cons (.ag (.cons (.same rfl) (.cons (zDz (.tail _ (.head _)) (fun _=>rfl) rfl) (.nil)))) (.nil))) (yX.ok x70 x17) h73 (.same rfl rfl) (hbor:=fun _=>⟨fhN,yH⟩)) zB) ?_
            refine zC 104 (fun h74=>?_) (fun h74=>?_)
            ·refine J_g 8589934580 [] [(6,bv false)] [] zB ?_
             exact zT rfl
            ·refine J_d 2147483646 [] [15,104] [(15,iv 1)] [] [] zB ?_
             refine zA (fun x75 h76=>?_)
             refine J_g 4294967294 [] [(14,iv x56.1),(15,iv x75)] [] (zD 2 (uW («as»:=[.ag [iv x25.Code,rr 10 x56.2],iv 1]) [(.tmp 105),(.tmp 106)] [72,3] true [(10,rE 1 eStr x56.2)] [] (.cons (.ag (.cons (.same rfl) (.cons (zDz (.head _) (fun _=>rfl) rfl) (.nil)))) (.cons (.same rfl) (.nil))) (xD.ok ({Code:=x25.Code,Names:=x56.2}:zJ) 1) h76 (.same rfl rfl) (hbor:=fun _=>⟨fhN,yH⟩)) zB) ?_
             refine J_d 17179869180 [] [109] [(109,bv (decide (x75<0)))] [] [] zB ?_
             refine zC 109 (fun h77=>?_) (fun h77=>?_)
             ·refine J_g 68719476724 [] [(6,bv false)] [] zB ?_
              exact zT rfl
             ·refine J_g 34359738364 [] [(112,bv (x75 !=x56.1))] [] zB ?_
              refine zC 112 (fun h78=>?_) (fun h78=>?_)
              ·refine J_g 137438953460 [] [(6,bv false)] [] zB ?_
               exact zT rfl
              ·refine J_g 34359738366 [] [(6,bv true)] [] zB ?_
               exact zT rfl
        ·refine wR (fun h51=>?_) (fun h51=>?_)
         ·refine J_d 8388604 [] [13,82] [(82,bv true)] [] [] (xW 2 [(76,bv (decide (x49.1<0)))] [] h51 zB) ?_
          exact yP (J_j (jv54 true)) rfl
         ·refine zA (fun x52 h53=>?_)
          refine J_d 8388604 [] [13,82] [(82,bv (!x52))] [] [] (xW 2 [(76,bv (decide (x49.1<0)))] [] h51 (zDk 5 2 77 false (uW («as»:=[.ag [iv x25.Code,rr 10 x25.Names],.ag [iv x17.Code,rr 4 x17.Names]]) [(.tmp 78),(.tmp 79)] [72,72] true [(10,rE 1 eStr x25.Names),(4,rE 1 eStr x17.Names)] [] (.cons (.ag (.cons (.same rfl) (.cons (zDz (.head _) (fun _=>rfl) rfl) (.nil)))) (.cons (.ag (.cons (.same rfl) (.cons (zDz (.tail _ (.head _)) (fun _=>rfl) rfl) (.nil)))) (.nil))) (yX.ok x25 x17) h53 (.same rfl rfl) (hbor:=fun _=>⟨fhN,yH⟩)) zB)) ?_
          exact yP (J_j (jv54 (!x52))) rfl
end Go.Told

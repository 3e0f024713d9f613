import Derived.Test.YtlagdfkkokgakaaGreatDoorCards
import Derived.Test.YtlagdfkkokgakaaGreatDoorTie
import Derived.Test.YtlagdfkkokgakaaGreatDoorOkBatchCost
import Derived.Test.YtlagdfkkokgakaaGreatDoorPureBatchCost
import Derived.Test.YtlagdfkkokgakaaGreatDoorImF
import Derived.WalkKit
import Derived.ProofKit
import Derived.OpenShut
import Derived.ShutString
import Derived.ChangeOld
import Derived.Below
import Derived.SizedLaws
import Derived.LaidHandle
import Derived.MakeChecks
import Derived.LaidMore
import Derived.Lay
import Derived.SevenTiedAt
import Derived.Stop.Joined
namespace Go.Proofs.YtlagdfkkokgakaaGreatDoor.fnExactBatchCost
open Go.ChangeShapes Go.WideShapes Go.ChangeAt Go.RowKit
open Go.Im Go.Told
set_option linter.unusedVariables false
theorem own:ownKnob Tryz.prog.godebug=none:=by kernel_rfl
theorem laidOut:laidOutB Tryz.prog=true:=by kernel_rfl
theorem zMq {H:Type} {enc:TypeId×Value→H} {W:World}:Reads enc Tryz.prog W 78 Version.enc Version.ok:=
 (zCP (t:=78) (fs:= #[{name:= "A",type:=2,offset:=0,embedded:=false,tag:= "",pkgPath:= "",byteOffset:=0},{name:= "B",type:=2,offset:=1,embedded:=false,tag:= "",pkgPath:= "",byteOffset:=8},{name:= "C",type:=2,offset:=2,embedded:=false,tag:= "",pkgPath:= "",byteOffset:=16}]) (tot:=3) (by kernel_rfl) (by kernel_rfl) (jZ (off:=0) (sz:=1) (tot:=2) (by kernel_rfl) (by kernel_rfl) (zD7 (k:=.i64) (by kernel_rfl)) (jZ (off:=1) (sz:=1) (tot:=1) (by kernel_rfl) (by kernel_rfl) (zD7 (k:=.i64) (by kernel_rfl)) (jZ (off:=2) (sz:=1) (tot:=0) (by kernel_rfl) (by kernel_rfl) (zD7 (k:=.i64) (by kernel_rfl)) zGu)))).map
  (fun x=>({A:=x.1,B:=x.2.1,C:=x.2.2.1}:Version)) (fun _=>rfl) (fun _ h=>⟨h.1,h.2.1,h.2.2.1⟩)
theorem zMU {H:Type} {enc:TypeId×Value→H} {W:World}:Reads enc Tryz.prog W 70 (fun xs:(List ByteArray)=>[.s false 1 xs.length (xs.map eStr)]) (fun xs=>xs.length≤maxLen∧∀y1∈xs,y1.size≤maxLen):=
 zC9 (e:=9) (ec:=eStr) (by kernel_rfl) (by kernel_rfl) (by decide) (zH5 (by kernel_rfl)) (fun _=>rfl)
theorem zM3 {H:Type} {enc:TypeId×Value→H} {W:World}:Reads enc Tryz.prog W 207 Term.enc Term.ok:=
 (zCP (t:=207) (fs:= #[{name:= "Name",type:=9,offset:=0,embedded:=false,tag:= "",pkgPath:= "",byteOffset:=0},{name:= "Low",type:=78,offset:=1,embedded:=false,tag:= "",pkgPath:= "",byteOffset:=16},{name:= "High",type:=78,offset:=4,embedded:=false,tag:= "",pkgPath:= "",byteOffset:=40}]) (tot:=7) (by kernel_rfl) (by kernel_rfl) (jZ (off:=0) (sz:=1) (tot:=6) (by kernel_rfl) (by kernel_rfl) (zH5 (by kernel_rfl)) (jZ (off:=1) (sz:=3) (tot:=3) (by kernel_rfl) (by kernel_rfl) zMq (jZ (off:=4) (sz:=3) (tot:=0) (by kernel_rfl) (by kernel_rfl) zMq zGu)))).map
  (fun x=>({Name:=x.1,Low:=x.2.1,High:=x.2.2.1}:Term)) (fun _=>rfl) (fun _ h=>⟨h.1,h.2.1,h.2.2.1⟩)
theorem zME {H:Type} {enc:TypeId×Value→H} {W:World}:Reads enc Tryz.prog W 80 (fun xs:(List Term)=>[.s false 7 xs.length (xs.map Term.enc)]) (fun xs=>xs.length≤maxLen∧∀y1∈xs,Term.ok y1):=
 zC9 (e:=207) (ec:=Term.enc) (by kernel_rfl) (by kernel_rfl) (by decide) zM3 (fun _=>rfl)
theorem zNj {H:Type} {enc:TypeId×Value→H} {W:World}:Reads enc Tryz.prog W 79 (fun xs:(List (List Term))=>[.s false 1 xs.length (xs.map (eSl false 7 Term.enc))]) (fun xs=>xs.length≤maxLen∧∀y1∈xs,y1.length≤maxLen∧∀y2∈y1,Term.ok y2):=
 zC9 (e:=80) (ec:=(eSl false 7 Term.enc)) (by kernel_rfl) (by kernel_rfl) (by decide) zME (fun _=>rfl)
theorem zN5 {H:Type} {enc:TypeId×Value→H} {W:World}:Reads enc Tryz.prog W 82 (Pack.enc false) Pack.ok:=
 (zCP (t:=82) (fs:= #[{name:= "Name",type:=9,offset:=0,embedded:=false,tag:= "",pkgPath:= "",byteOffset:=0},{name:= "Version",type:=78,offset:=1,embedded:=false,tag:= "",pkgPath:= "",byteOffset:=16},{name:= "Size",type:=2,offset:=4,embedded:=false,tag:= "",pkgPath:= "",byteOffset:=40},{name:= "Provides",type:=70,offset:=5,embedded:=false,tag:= "",pkgPath:= "",byteOffset:=48},{name:= "Needs",type:=79,offset:=6,embedded:=false,tag:= "",pkgPath:= "",byteOffset:=72},{name:= "Bars",type:=80,offset:=7,embedded:=false,tag:= "",pkgPath:= "",byteOffset:=96}]) (tot:=8) (by kernel_rfl) (by kernel_rfl) (jZ (off:=0) (sz:=1) (tot:=7) (by kernel_rfl) (by kernel_rfl) (zH5 (by kernel_rfl)) (jZ (off:=1) (sz:=3) (tot:=4) (by kernel_rfl) (by kernel_rfl) zMq (jZ (off:=4) (sz:=1) (tot:=3) (by kernel_rfl) (by kernel_rfl) (zD7 (k:=.i64) (by kernel_rfl)) (jZ (off:=5) (sz:=1) (tot:=2) (by kernel_rfl) (by kernel_rfl) zMU (jZ (off:=6) (sz:=1) (tot:=1) (by kernel_rfl) (by kernel_rfl) zNj (jZ (off:=7) (sz:=1) (tot:=0) (by kernel_rfl) (by kernel_rfl) zME zGu))))))).map
  (fun x=>({Name:=x.1,Version:=x.2.1,Size:=x.2.2.1,Provides:=x.2.2.2.1,Needs:=x.2.2.2.2.1,Bars:=x.2.2.2.2.2.1}:Pack)) (fun _=>rfl) (fun _ h=>⟨h.1,h.2.1,h.2.2.1,h.2.2.2.1,h.2.2.2.2.1,h.2.2.2.2.2.1⟩)
theorem zNz {H:Type} {enc:TypeId×Value→H} {W:World}:Reads enc Tryz.prog W 22 (fun xs:(List Pack)=>[.s false 8 xs.length (xs.map (Pack.enc false))]) (fun xs=>xs.length≤maxLen∧∀y1∈xs,Pack.ok y1):=
 zC9 (e:=82) (ec:=(Pack.enc false)) (by kernel_rfl) (by kernel_rfl) (by decide) zN5 (fun _=>rfl)
theorem zMz {H:Type} {enc:TypeId×Value→H} {W:World}:Reads enc Tryz.prog W 111 (fun xs:(List Int)=>[.s false 1 xs.length (xs.map eU8)]) (fun xs=>xs.length≤maxLen∧∀y1∈xs,IntKind.u8.min≤y1∧y1≤IntKind.u8.max):=
 zC9 (e:=5) (ec:=eU8) (by kernel_rfl) (by kernel_rfl) (by decide) (zD7 (k:=.u8) (by kernel_rfl)) (fun _=>rfl)
theorem zM7 {H:Type} {enc:TypeId×Value→H} {W:World}:Reads enc Tryz.prog W 157 (File.enc false) File.ok:=
 (zCP (t:=157) (fs:= #[{name:= "Path",type:=9,offset:=0,embedded:=false,tag:= "",pkgPath:= "",byteOffset:=0},{name:= "Data",type:=111,offset:=1,embedded:=false,tag:= "",pkgPath:= "",byteOffset:=16}]) (tot:=2) (by kernel_rfl) (by kernel_rfl) (jZ (off:=0) (sz:=1) (tot:=1) (by kernel_rfl) (by kernel_rfl) (zH5 (by kernel_rfl)) (jZ (off:=1) (sz:=1) (tot:=0) (by kernel_rfl) (by kernel_rfl) zMz zGu))).map
  (fun x=>({Path:=x.1,Data:=x.2.1}:File)) (fun _=>rfl) (fun _ h=>⟨h.1,h.2.1⟩)
theorem zNq {H:Type} {enc:TypeId×Value→H} {W:World}:Reads enc Tryz.prog W 39 (fun xs:(List File)=>[.s false 2 xs.length (xs.map (File.enc false))]) (fun xs=>xs.length≤maxLen∧∀y1∈xs,File.ok y1):=
 zC9 (e:=157) (ec:=(File.enc false)) (by kernel_rfl) (by kernel_rfl) (by decide) zM7 (fun _=>rfl)
theorem zMZ {H:Type} {enc:TypeId×Value→H} {W:World}:Reads enc Tryz.prog W 41 (zI.enc false) zI.ok:=
 (zCP (t:=41) (fs:= #[{name:= "Files",type:=39,offset:=0,embedded:=false,tag:= "",pkgPath:= "",byteOffset:=0},{name:= "Budget",type:=2,offset:=1,embedded:=false,tag:= "",pkgPath:= "",byteOffset:=24},{name:= "Writes",type:=2,offset:=2,embedded:=false,tag:= "",pkgPath:= "",byteOffset:=32},{name:= "Stop",type:=2,offset:=3,embedded:=false,tag:= "",pkgPath:= "",byteOffset:=40},{name:= "Down",type:=4,offset:=4,embedded:=false,tag:= "",pkgPath:= "",byteOffset:=48}]) (tot:=5) (by kernel_rfl) (by kernel_rfl) (jZ (off:=0) (sz:=1) (tot:=4) (by kernel_rfl) (by kernel_rfl) zNq (jZ (off:=1) (sz:=1) (tot:=3) (by kernel_rfl) (by kernel_rfl) (zD7 (k:=.i64) (by kernel_rfl)) (jZ (off:=2) (sz:=1) (tot:=2) (by kernel_rfl) (by kernel_rfl) (zD7 (k:=.i64) (by kernel_rfl)) (jZ (off:=3) (sz:=1) (tot:=1) (by kernel_rfl) (by kernel_rfl) (zD7 (k:=.i64) (by kernel_rfl)) (jZ (off:=4) (sz:=1) (tot:=0) (by kernel_rfl) (by kernel_rfl) (zLg (by kernel_rfl)) zGu)))))).map
  (fun x=>({Files:=x.1,Budget:=x.2.1,Writes:=x.2.2.1,Stop:=x.2.2.2.1,Down:=x.2.2.2.2.1}:zI)) (fun _=>rfl) (fun _ h=>⟨h.1,h.2.1,h.2.2.1,h.2.2.2.1,h.2.2.2.2.1⟩)
theorem zN1 {H:Type} {enc:TypeId×Value→H} {W:World}:Reads enc Tryz.prog W 42 (fun xs:(List Int)=>[.s false 1 xs.length (xs.map yE)]) (fun xs=>xs.length≤maxLen∧∀y1∈xs,IntKind.i64.min≤y1∧y1≤IntKind.i64.max):=
 zC9 (e:=2) (ec:=yE) (by kernel_rfl) (by kernel_rfl) (by decide) (zD7 (k:=.i64) (by kernel_rfl)) (fun _=>rfl)
set_option maxRecDepth 100000 in
theorem tables {W:World} (hS:W.ShapedOpen Tryz.prog) (h:laidMetH Tryz.prog Rows.fnExactBatchCostRow.laid W):∀q∈zJ8 Tryz.prog,q.1<W.heap.size∧Tab W q.1 q.2:=by
 rw [MakeChecks.laidMetH_plain _ _ _ (by kernel_rfl)] at h
 have e:zJ8 Tryz.prog=[(0,(fun ws=>∃m,ws=[.int .i64 m])),(1,(· =([1,10,100,1000,10000,100000,1000000,10000000,100000000,1000000000,10000000000,100000000000,1000000000000,10000000000000,100000000000000,1000000000000000,10000000000000000,100000000000000000,1000000000000000000,10000000000000000000]:List Int).map fun z=>Value.int .u64 z)),(4,(· =([0,1,28,2,29,14,24,3,30,22,20,15,25,17,4,8,31,27,13,23,21,19,16,7,26,12,18,6,11,5,10,9]:List Int).map fun z=>Value.int .u8 z)),(5,(· =([0,1,56,2,57,49,28,3,61,58,42,50,38,29,17,4,62,47,59,36,45,43,51,22,53,39,33,30,24,18,12,5,63,55,48,27,60,41,37,16,46,35,44,21,52,32,23,11,54,26,40,15,34,20,31,10,25,14,19,9,13,8,7,6]:List Int).map fun z=>Value.int .u8 z))]:=by kernel_rfl
 rw [e]
 intro q hq
 simp only [List.mem_cons,List.not_mem_nil,or_false] at hq
 rcases hq with rfl|rfl|rfl|rfl
 ·exact zFG (g:=0) (zero:= #[.int .i64 0]) (t:=3) hS (of_decide_eq_true (by kernel_rfl)) (by kernel_rfl) rfl (by kernel_rfl) (by kernel_rfl) Tryz.underlying3
 ·exact zDk (name:= "internal/strconv.uint64pow10") (g:=1) (n:=20) (t:=328) (e:=295) (k:=.u64) (zs:=[1,10,100,1000,10000,100000,1000000,10000000,100000000,1000000000,10000000000,100000000000,1000000000000,10000000000000,100000000000000,1000000000000000,10000000000000000,100000000000000000,1000000000000000000,10000000000000000000]) h (by kernel_rfl) (by kernel_rfl) (by kernel_rfl) (by kernel_rfl) (by kernel_rfl) (by kernel_rfl) (by kernel_rfl)
 ·exact zDk (name:= "math/bits.deBruijn32tab") (g:=4) (n:=32) (t:=350) (e:=5) (k:=.u8) (zs:=[0,1,28,2,29,14,24,3,30,22,20,15,25,17,4,8,31,27,13,23,21,19,16,7,26,12,18,6,11,5,10,9]) h (by kernel_rfl) (by kernel_rfl) (by kernel_rfl) (by kernel_rfl) (by kernel_rfl) (by kernel_rfl) (by kernel_rfl)
 ·exact zDk (name:= "math/bits.deBruijn64tab") (g:=5) (n:=64) (t:=351) (e:=5) (k:=.u8) (zs:=[0,1,56,2,57,49,28,3,61,58,42,50,38,29,17,4,62,47,59,36,45,43,51,22,53,39,33,30,24,18,12,5,63,55,48,27,60,41,37,16,46,35,44,21,52,32,23,11,54,26,40,15,34,20,31,10,25,14,19,9,13,8,7,6]) h (by kernel_rfl) (by kernel_rfl) (by kernel_rfl) (by kernel_rfl) (by kernel_rfl) (by kernel_rfl) (by kernel_rfl)
theorem zJG (os:Os) (args:Array Value):laidMetH Tryz.prog Rows.fnExactBatchCostRow.laid ((World.doorLaid Tryz.prog 400 os).forCall (fun _ _=>0) ⟨#[],args,[]⟩).memory :=
 laidMetH_of_parts3 (fuel:=8) (laidMet_of_run' 65 (by kernel_rfl) (by kernel_rfl)) (by kernel_rfl) (by kernel_rfl)
set_option maxRecDepth 100000 in
theorem lifted (os:Os) (started:os.Started) (H:Type) (enc:TypeId×Value→H):
  ReturnsInHanded {} Tryz.checked os 4 .any (fun w args=>(Rows.fnExactBatchCostSpec.pre enc Tryz.prog Tryz.f4 [] false w args∧laidMetH Tryz.prog Rows.fnExactBatchCostRow.laid w)∧sizedMet enc Tryz.prog Tryz.f4 (OpenSpec.ofChange Rows.fnExactBatchCostSpec) false w args) (Rows.fnExactBatchCostSpec.post enc Tryz.prog Tryz.f4 false true false false):=by
 refine zCC (C:=Tryz.checked) (X:=fun w _=>laidMetH Tryz.prog Rows.fnExactBatchCostRow.laid w) (fun _ _ _ hh h=>h.of_heap hh) own started (by kernel_rfl) Tryz.func4
  (ChangeSpec.witness_shaped (enc:=enc) (C:=Tryz.checked) (os:=os) (X:=fun w _=>laidMetH Tryz.prog Rows.fnExactBatchCostRow.laid w) false (World.doorLaid Tryz.prog 400 os) #[.slice none 0 0,.agg #[.slice none 0 0,.int .i64 0,.int .i64 0,.int .i64 0,.bool false],.slice none 0 0] 8 rfl (World.shaped_of_RefB (by kernel_rfl) (by kernel_rfl)) (by kernel_rfl) (by kernel_rfl) (by kernel_rfl) (zJG os _)) ?_
 intro W base args ds gs before hS hval0 hW hcnd hsz0 hL _
 have hval:∀(j:Nat) t v,Tryz.f4.params[j]? =some t→args[j]? =some v→Value.okWide Tryz.prog W .any base t v:=hval0
 have hW':=hW
 obtain ⟨p,q,hA0,hV,rfl,hfz,hnd⟩:=hW
 have hA:DataW.TrodAll enc Tryz.prog W 0 (fun _=>true) true Tryz.f4.params.toList args.toList ds p:=hA0
 rw [Tryz.params4] at hA hval
 obtain ⟨v0,vs0,d0,ds0,p0,q0,hargs,rfl,rfl,h0,r0⟩:=trodAll_cons hA
 obtain ⟨v1,vs1,d1,ds1,p1,q1,rfl,rfl,rfl,h1,r1⟩:=trodAll_cons r0
 obtain ⟨v2,vs2,d2,ds2,p2,q2,rfl,rfl,rfl,h2,r2⟩:=trodAll_cons r1
 obtain ⟨rfl,rfl,rfl⟩:=trodAll_nil r2
 obtain rfl:args= #[v0,v1,v2]:=by cases args; simp_all
 obtain ⟨rfl,rfl⟩:=trodVars_none hV
 have hlt0:∀x∈p0,x.block<W.heap.size:=fun x hx=>by simpa using hW'.lt x (by simp [hx])
 have s0:v0.cells= #[v0]:=by
  obtain ⟨a,l,c,rfl⟩:=okWide_slice Tryz.underlying22 (hval 0 22 v0 rfl rfl)
  rfl
 obtain ⟨f0,g0⟩:=h0
 obtain ⟨x0,k0,e0⟩:=(zNz (W:=W)) _ _ _ g0
 have hlt1:∀x∈p1,x.block<W.heap.size:=fun x hx=>by simpa using hW'.lt x (by simp [hx])
 have s1:∃cs,v1= .agg cs:=by
  obtain ⟨cs,h,_⟩:=okWide_struct Tryz.underlying41 (hval 1 41 v1 rfl rfl)
  exact ⟨cs,h⟩
 obtain ⟨f1,g1⟩:=h1
 obtain ⟨x1,k1,e1⟩:=(zMZ (W:=W)) _ _ _ g1
 have hlt2:∀x∈p2,x.block<W.heap.size:=fun x hx=>by simpa using hW'.lt x (by simp [hx])
 have s2:v2.cells= #[v2]:=by
  obtain ⟨a,l,c,rfl⟩:=okWide_slice Tryz.underlying42 (hval 2 42 v2 rfl rfl)
  rfl
 obtain ⟨f2,g2⟩:=h2
 obtain ⟨x2,k2,e2⟩:=(zN1 (W:=W)) _ _ _ g2
 have hok:=xG.ok x0 x1 x2
 rw [zDb x0 x1 x2 k0 k1 k2] at hok
 refine (zJl hok (vs:=[v0,v1,v2]) (fun β=>zEs (zIX s0 (e0 β)) (zEs (zIz s1 (e1 β) rfl) (zEs (zIX s2 (e2 β)) (zKm)))) (tables hS hL)).mono fun e W' hs=>?_
 have he:=hs.1
 subst he
 exact ⟨_,rfl,_,_,_,[],_,[],hW',trodAll_mk1 (shut_bool Tryz.underlying4 _),trodAll_mk3 (zD8 hs laidOut (by kernel_rfl) (of_decide_eq_true (by kernel_rfl)) ⟨f0,g0⟩ hlt0) (zD8 hs laidOut (by kernel_rfl) (of_decide_eq_true (by kernel_rfl)) ⟨f1,g1⟩ hlt1) (zD8 hs laidOut (by kernel_rfl) (of_decide_eq_true (by kernel_rfl)) ⟨f2,g2⟩ hlt2),rfl,zIh hs _,fun h=>by cases h⟩
end Go.Proofs.YtlagdfkkokgakaaGreatDoor.fnExactBatchCost

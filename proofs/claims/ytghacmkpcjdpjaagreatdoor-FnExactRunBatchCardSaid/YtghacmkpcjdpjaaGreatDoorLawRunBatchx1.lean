import Derived.Test.YtghacmkpcjdpjaaGreatDoorCards
import Derived.Test.YtghacmkpcjdpjaaGreatDoorTie
import Derived.Test.YtghacmkpcjdpjaaGreatDoorOkRunBatch
import Derived.Test.YtghacmkpcjdpjaaGreatDoorPureRunBatch
import Derived.Test.YtghacmkpcjdpjaaGreatDoorImF
import Derived.WalkKit
import Derived.ProofKit
import Derived.OpenShut
import Derived.ShutString
import Derived.ChangeOld
import Derived.Below
import Derived.SizedLaws
import Derived.LaidHandle
import Derived.MakeChecks
import Derived.LaidMore
import Derived.Lay
import Derived.SevenTiedAt
import Derived.Stop.Joined
namespace Go.Proofs.YtghacmkpcjdpjaaGreatDoor.fnExactRunBatch
open Go.ChangeShapes Go.WideShapes Go.ChangeAt Go.RowKit
open Go.Im Go.Told
set_option linter.unusedVariables false
theorem own:ownKnob Tryz.prog.godebug=none:=by kernel_rfl
theorem laidOut:laidOutB Tryz.prog=true:=by kernel_rfl
theorem zRs {H:Type} {enc:TypeId×Value→H} {W:World}:Reads enc Tryz.prog W 89 Version.enc Version.ok:=
 (zF9 (t:=89) (fs:= #[{name:= "A",type:=2,offset:=0,embedded:=false,tag:= "",pkgPath:= "",byteOffset:=0},{name:= "B",type:=2,offset:=1,embedded:=false,tag:= "",pkgPath:= "",byteOffset:=8},{name:= "C",type:=2,offset:=2,embedded:=false,tag:= "",pkgPath:= "",byteOffset:=16}]) (tot:=3) (by kernel_rfl) (by kernel_rfl) (zBt (off:=0) (sz:=1) (tot:=2) (by kernel_rfl) (by kernel_rfl) (zG4 (k:=.i64) (by kernel_rfl)) (zBt (off:=1) (sz:=1) (tot:=1) (by kernel_rfl) (by kernel_rfl) (zG4 (k:=.i64) (by kernel_rfl)) (zBt (off:=2) (sz:=1) (tot:=0) (by kernel_rfl) (by kernel_rfl) (zG4 (k:=.i64) (by kernel_rfl)) zKC)))).map
  (fun x=>({A:=x.1,B:=x.2.1,C:=x.2.2.1}:Version)) (fun _=>rfl) (fun _ h=>⟨h.1,h.2.1,h.2.2.1⟩)
theorem zS0 {H:Type} {enc:TypeId×Value→H} {W:World}:Reads enc Tryz.prog W 90 (fun xs:(List ByteArray)=>[.s false 1 xs.length (xs.map eStr)]) (fun xs=>xs.length≤maxLen∧∀y1∈xs,y1.size≤maxLen):=
 zFs (e:=9) (ec:=eStr) (by kernel_rfl) (by kernel_rfl) (by decide) (zLP (by kernel_rfl)) (fun _=>rfl)
theorem zRC {H:Type} {enc:TypeId×Value→H} {W:World}:Reads enc Tryz.prog W 201 Term.enc Term.ok:=
 (zF9 (t:=201) (fs:= #[{name:= "Name",type:=9,offset:=0,embedded:=false,tag:= "",pkgPath:= "",byteOffset:=0},{name:= "Low",type:=89,offset:=1,embedded:=false,tag:= "",pkgPath:= "",byteOffset:=16},{name:= "High",type:=89,offset:=4,embedded:=false,tag:= "",pkgPath:= "",byteOffset:=40}]) (tot:=7) (by kernel_rfl) (by kernel_rfl) (zBt (off:=0) (sz:=1) (tot:=6) (by kernel_rfl) (by kernel_rfl) (zLP (by kernel_rfl)) (zBt (off:=1) (sz:=3) (tot:=3) (by kernel_rfl) (by kernel_rfl) zRs (zBt (off:=4) (sz:=3) (tot:=0) (by kernel_rfl) (by kernel_rfl) zRs zKC)))).map
  (fun x=>({Name:=x.1,Low:=x.2.1,High:=x.2.2.1}:Term)) (fun _=>rfl) (fun _ h=>⟨h.1,h.2.1,h.2.2.1⟩)
theorem zRK {H:Type} {enc:TypeId×Value→H} {W:World}:Reads enc Tryz.prog W 92 (fun xs:(List Term)=>[.s false 7 xs.length (xs.map Term.enc)]) (fun xs=>xs.length≤maxLen∧∀y1∈xs,Term.ok y1):=
 zFs (e:=201) (ec:=Term.enc) (by kernel_rfl) (by kernel_rfl) (by decide) zRC (fun _=>rfl)
theorem zSC {H:Type} {enc:TypeId×Value→H} {W:World}:Reads enc Tryz.prog W 91 (fun xs:(List (List Term))=>[.s false 1 xs.length (xs.map (eSl false 7 Term.enc))]) (fun xs=>xs.length≤maxLen∧∀y1∈xs,y1.length≤maxLen∧∀y2∈y1,Term.ok y2):=
 zFs (e:=92) (ec:=(eSl false 7 Term.enc)) (by kernel_rfl) (by kernel_rfl) (by decide) zRK (fun _=>rfl)
theorem zSo {H:Type} {enc:TypeId×Value→H} {W:World}:Reads enc Tryz.prog W 94 (Pack.enc false) Pack.ok:=
 (zF9 (t:=94) (fs:= #[{name:= "Name",type:=9,offset:=0,embedded:=false,tag:= "",pkgPath:= "",byteOffset:=0},{name:= "Version",type:=89,offset:=1,embedded:=false,tag:= "",pkgPath:= "",byteOffset:=16},{name:= "Size",type:=2,offset:=4,embedded:=false,tag:= "",pkgPath:= "",byteOffset:=40},{name:= "Provides",type:=90,offset:=5,embedded:=false,tag:= "",pkgPath:= "",byteOffset:=48},{name:= "Needs",type:=91,offset:=6,embedded:=false,tag:= "",pkgPath:= "",byteOffset:=72},{name:= "Bars",type:=92,offset:=7,embedded:=false,tag:= "",pkgPath:= "",byteOffset:=96}]) (tot:=8) (by kernel_rfl) (by kernel_rfl) (zBt (off:=0) (sz:=1) (tot:=7) (by kernel_rfl) (by kernel_rfl) (zLP (by kernel_rfl)) (zBt (off:=1) (sz:=3) (tot:=4) (by kernel_rfl) (by kernel_rfl) zRs (zBt (off:=4) (sz:=1) (tot:=3) (by kernel_rfl) (by kernel_rfl) (zG4 (k:=.i64) (by kernel_rfl)) (zBt (off:=5) (sz:=1) (tot:=2) (by kernel_rfl) (by kernel_rfl) zS0 (zBt (off:=6) (sz:=1) (tot:=1) (by kernel_rfl) (by kernel_rfl) zSC (zBt (off:=7) (sz:=1) (tot:=0) (by kernel_rfl) (by kernel_rfl) zRK zKC))))))).map
  (fun x=>({Name:=x.1,Version:=x.2.1,Size:=x.2.2.1,Provides:=x.2.2.2.1,Needs:=x.2.2.2.2.1,Bars:=x.2.2.2.2.2.1}:Pack)) (fun _=>rfl) (fun _ h=>⟨h.1,h.2.1,h.2.2.1,h.2.2.2.1,h.2.2.2.2.1,h.2.2.2.2.2.1⟩)
theorem zRL {H:Type} {enc:TypeId×Value→H} {W:World}:Reads enc Tryz.prog W 45 (fun xs:(List Pack)=>[.s false 8 xs.length (xs.map (Pack.enc false))]) (fun xs=>xs.length≤maxLen∧∀y1∈xs,Pack.ok y1):=
 zFs (e:=94) (ec:=(Pack.enc false)) (by kernel_rfl) (by kernel_rfl) (by decide) zSo (fun _=>rfl)
theorem zRW {H:Type} {enc:TypeId×Value→H} {W:World}:Reads enc Tryz.prog W 22 (fun xs:(List Int)=>[.s false 1 xs.length (xs.map eU8)]) (fun xs=>xs.length≤maxLen∧∀y1∈xs,IntKind.u8.min≤y1∧y1≤IntKind.u8.max):=
 zFs (e:=5) (ec:=eU8) (by kernel_rfl) (by kernel_rfl) (by decide) (zG4 (k:=.u8) (by kernel_rfl)) (fun _=>rfl)
theorem zR1 {H:Type} {enc:TypeId×Value→H} {W:World}:Reads enc Tryz.prog W 144 (File.enc false) File.ok:=
 (zF9 (t:=144) (fs:= #[{name:= "Path",type:=9,offset:=0,embedded:=false,tag:= "",pkgPath:= "",byteOffset:=0},{name:= "Data",type:=22,offset:=1,embedded:=false,tag:= "",pkgPath:= "",byteOffset:=16}]) (tot:=2) (by kernel_rfl) (by kernel_rfl) (zBt (off:=0) (sz:=1) (tot:=1) (by kernel_rfl) (by kernel_rfl) (zLP (by kernel_rfl)) (zBt (off:=1) (sz:=1) (tot:=0) (by kernel_rfl) (by kernel_rfl) zRW zKC))).map
  (fun x=>({Path:=x.1,Data:=x.2.1}:File)) (fun _=>rfl) (fun _ h=>⟨h.1,h.2.1⟩)
theorem zSw {H:Type} {enc:TypeId×Value→H} {W:World}:Reads enc Tryz.prog W 46 (fun xs:(List File)=>[.s false 2 xs.length (xs.map (File.enc false))]) (fun xs=>xs.length≤maxLen∧∀y1∈xs,File.ok y1):=
 zFs (e:=144) (ec:=(File.enc false)) (by kernel_rfl) (by kernel_rfl) (by decide) zR1 (fun _=>rfl)
theorem zS3 {H:Type} {enc:TypeId×Value→H} {W:World}:Reads enc Tryz.prog W 48 (zC.enc false) zC.ok:=
 (zF9 (t:=48) (fs:= #[{name:= "Files",type:=46,offset:=0,embedded:=false,tag:= "",pkgPath:= "",byteOffset:=0},{name:= "Budget",type:=2,offset:=1,embedded:=false,tag:= "",pkgPath:= "",byteOffset:=24},{name:= "Writes",type:=2,offset:=2,embedded:=false,tag:= "",pkgPath:= "",byteOffset:=32},{name:= "Stop",type:=2,offset:=3,embedded:=false,tag:= "",pkgPath:= "",byteOffset:=40},{name:= "Down",type:=4,offset:=4,embedded:=false,tag:= "",pkgPath:= "",byteOffset:=48}]) (tot:=5) (by kernel_rfl) (by kernel_rfl) (zBt (off:=0) (sz:=1) (tot:=4) (by kernel_rfl) (by kernel_rfl) zSw (zBt (off:=1) (sz:=1) (tot:=3) (by kernel_rfl) (by kernel_rfl) (zG4 (k:=.i64) (by kernel_rfl)) (zBt (off:=2) (sz:=1) (tot:=2) (by kernel_rfl) (by kernel_rfl) (zG4 (k:=.i64) (by kernel_rfl)) (zBt (off:=3) (sz:=1) (tot:=1) (by kernel_rfl) (by kernel_rfl) (zG4 (k:=.i64) (by kernel_rfl)) (zBt (off:=4) (sz:=1) (tot:=0) (by kernel_rfl) (by kernel_rfl) (zPZ (by kernel_rfl)) zKC)))))).map
  (fun x=>({Files:=x.1,Budget:=x.2.1,Writes:=x.2.2.1,Stop:=x.2.2.2.1,Down:=x.2.2.2.2.1}:zC)) (fun _=>rfl) (fun _ h=>⟨h.1,h.2.1,h.2.2.1,h.2.2.2.1,h.2.2.2.2.1⟩)
theorem zRV {H:Type} {enc:TypeId×Value→H} {W:World}:Reads enc Tryz.prog W 49 (fun xs:(List Int)=>[.s false 1 xs.length (xs.map zK)]) (fun xs=>xs.length≤maxLen∧∀y1∈xs,IntKind.i64.min≤y1∧y1≤IntKind.i64.max):=
 zFs (e:=2) (ec:=zK) (by kernel_rfl) (by kernel_rfl) (by decide) (zG4 (k:=.i64) (by kernel_rfl)) (fun _=>rfl)
set_option maxRecDepth 100000 in
theorem tables {W:World} (hS:W.ShapedOpen Tryz.prog) (h:laidMetH Tryz.prog Rows.fnExactRunBatchRow.laid W):∀q∈zOs Tryz.prog,q.1<W.heap.size∧Tab W q.1 q.2:=by
 rw [MakeChecks.laidMetH_plain _ _ _ (by kernel_rfl)] at h
 have e:zOs Tryz.prog=[(0,(fun ws=>∃m,ws=[.int .i64 m])),(1,(· =([1,10,100,1000,10000,100000,1000000,10000000,100000000,1000000000,10000000000,100000000000,1000000000000,10000000000000,100000000000000,1000000000000000,10000000000000000,100000000000000000,1000000000000000000,10000000000000000000]:List Int).map fun z=>Value.int .u64 z)),(2,(· =([0,1,28,2,29,14,24,3,30,22,20,15,25,17,4,8,31,27,13,23,21,19,16,7,26,12,18,6,11,5,10,9]:List Int).map fun z=>Value.int .u8 z)),(3,(· =([0,1,56,2,57,49,28,3,61,58,42,50,38,29,17,4,62,47,59,36,45,43,51,22,53,39,33,30,24,18,12,5,63,55,48,27,60,41,37,16,46,35,44,21,52,32,23,11,54,26,40,15,34,20,31,10,25,14,19,9,13,8,7,6]:List Int).map fun z=>Value.int .u8 z))]:=by kernel_rfl
 rw [e]
 intro q hq
 simp only [List.mem_cons,List.not_mem_nil,or_false] at hq
 rcases hq with rfl|rfl|rfl|rfl
 ·exact zJD (g:=0) (zero:= #[.int .i64 0]) (t:=3) hS (of_decide_eq_true (by kernel_rfl)) (by kernel_rfl) rfl (by kernel_rfl) (by kernel_rfl) Tryz.underlying3
 ·exact zGt (name:= "internal/strconv.uint64pow10") (g:=1) (n:=20) (t:=267) (e:=220) (k:=.u64) (zs:=[1,10,100,1000,10000,100000,1000000,10000000,100000000,1000000000,10000000000,100000000000,1000000000000,10000000000000,100000000000000,1000000000000000,10000000000000000,100000000000000000,1000000000000000000,10000000000000000000]) h (by kernel_rfl) (by kernel_rfl) (by kernel_rfl) (by kernel_rfl) (by kernel_rfl) (by kernel_rfl) (by kernel_rfl)
 ·exact zGt (name:= "math/bits.deBruijn32tab") (g:=2) (n:=32) (t:=277) (e:=5) (k:=.u8) (zs:=[0,1,28,2,29,14,24,3,30,22,20,15,25,17,4,8,31,27,13,23,21,19,16,7,26,12,18,6,11,5,10,9]) h (by kernel_rfl) (by kernel_rfl) (by kernel_rfl) (by kernel_rfl) (by kernel_rfl) (by kernel_rfl) (by kernel_rfl)
 ·exact zGt (name:= "math/bits.deBruijn64tab") (g:=3) (n:=64) (t:=278) (e:=5) (k:=.u8) (zs:=[0,1,56,2,57,49,28,3,61,58,42,50,38,29,17,4,62,47,59,36,45,43,51,22,53,39,33,30,24,18,12,5,63,55,48,27,60,41,37,16,46,35,44,21,52,32,23,11,54,26,40,15,34,20,31,10,25,14,19,9,13,8,7,6]) h (by kernel_rfl) (by kernel_rfl) (by kernel_rfl) (by kernel_rfl) (by kernel_rfl) (by kernel_rfl) (by kernel_rfl)
theorem zOH (os:Os) (args:Array Value):laidMetH Tryz.prog Rows.fnExactRunBatchRow.laid ((World.doorLaid Tryz.prog 400 os).forCall (fun _ _=>0) ⟨#[],args,[]⟩).memory :=
 laidMetH_of_parts3 (fuel:=8) (laidMet_of_run' 65 (by kernel_rfl) (by kernel_rfl)) (by kernel_rfl) (by kernel_rfl)
set_option maxRecDepth 100000 in
theorem lifted (os:Os) (started:os.Started) (H:Type) (enc:TypeId×Value→H):
  ReturnsInHanded {} Tryz.checked os 4 .any (fun w args=>(Rows.fnExactRunBatchSpec.pre enc Tryz.prog Tryz.f4 [] false w args∧laidMetH Tryz.prog Rows.fnExactRunBatchRow.laid w)∧sizedMet enc Tryz.prog Tryz.f4 (OpenSpec.ofChange Rows.fnExactRunBatchSpec) false w args) (Rows.fnExactRunBatchSpec.post enc Tryz.prog Tryz.f4 false true false false):=by
 refine zF1 (C:=Tryz.checked) (X:=fun w _=>laidMetH Tryz.prog Rows.fnExactRunBatchRow.laid w) (fun _ _ _ hh h=>h.of_heap hh) own started (by kernel_rfl) Tryz.func4
  (ChangeSpec.witness_shaped (enc:=enc) (C:=Tryz.checked) (os:=os) (X:=fun w _=>laidMetH Tryz.prog Rows.fnExactRunBatchRow.laid w) false (World.doorLaid Tryz.prog 400 os) #[.slice none 0 0,.agg #[.slice none 0 0,.int .i64 0,.int .i64 0,.int .i64 0,.bool false],.slice none 0 0] 8 rfl (World.shaped_of_RefB (by kernel_rfl) (by kernel_rfl)) (by kernel_rfl) (by kernel_rfl) (by kernel_rfl) (zOH os _)) ?_
 intro W base args ds gs before hS hval0 hW hcnd hsz0 hL _
 have hval:∀(j:Nat) t v,Tryz.f4.params[j]? =some t→args[j]? =some v→Value.okWide Tryz.prog W .any base t v:=hval0
 have hW':=hW
 obtain ⟨p,q,hA0,hV,rfl,hfz,hnd⟩:=hW
 have hA:DataW.TrodAll enc Tryz.prog W 0 (fun _=>true) true Tryz.f4.params.toList args.toList ds p:=hA0
 rw [Tryz.params4] at hA hval
 obtain ⟨v0,vs0,d0,ds0,p0,q0,hargs,rfl,rfl,h0,r0⟩:=trodAll_cons hA
 obtain ⟨v1,vs1,d1,ds1,p1,q1,rfl,rfl,rfl,h1,r1⟩:=trodAll_cons r0
 obtain ⟨v2,vs2,d2,ds2,p2,q2,rfl,rfl,rfl,h2,r2⟩:=trodAll_cons r1
 obtain ⟨rfl,rfl,rfl⟩:=trodAll_nil r2
 obtain rfl:args= #[v0,v1,v2]:=by cases args; simp_all
 obtain ⟨rfl,rfl⟩:=trodVars_none hV
 have hlt0:∀x∈p0,x.block<W.heap.size:=fun x hx=>by simpa using hW'.lt x (by simp [hx])
 have s0:v0.cells= #[v0]:=by
  obtain ⟨a,l,c,rfl⟩:=okWide_slice Tryz.underlying45 (hval 0 45 v0 rfl rfl)
  rfl
 obtain ⟨f0,g0⟩:=h0
 obtain ⟨x0,k0,e0⟩:=(zRL (W:=W)) _ _ _ g0
 have hlt1:∀x∈p1,x.block<W.heap.size:=fun x hx=>by simpa using hW'.lt x (by simp [hx])
 have s1:∃cs,v1= .agg cs:=by
  obtain ⟨cs,h,_⟩:=okWide_struct Tryz.underlying48 (hval 1 48 v1 rfl rfl)
  exact ⟨cs,h⟩
 obtain ⟨f1,g1⟩:=h1
 obtain ⟨x1,k1,e1⟩:=(zS3 (W:=W)) _ _ _ g1
 have hlt2:∀x∈p2,x.block<W.heap.size:=fun x hx=>by simpa using hW'.lt x (by simp [hx])
 have s2:v2.cells= #[v2]:=by
  obtain ⟨a,l,c,rfl⟩:=okWide_slice Tryz.underlying49 (hval 2 49 v2 rfl rfl)
  rfl
 obtain ⟨f2,g2⟩:=h2
 obtain ⟨x2,k2,e2⟩:=(zRV (W:=W)) _ _ _ g2
 have hok:=vD.ok x0 x1 x2
 rw [zGq x0 x1 x2 k0 k1 k2] at hok
 refine (zN0 hok (vs:=[v0,v1,v2]) (fun β=>zIc (zNd s0 (e0 β)) (zIc (zMe s1 (e1 β) rfl) (zIc (zNd s2 (e2 β)) (zOE)))) (tables hS hL)).mono fun e W' hs=>?_
 have he:=hs.1
 subst he
 exact ⟨_,rfl,_,_,_,[],_,[],hW',trodAll_mk1 (shut_bool Tryz.underlying4 _),trodAll_mk3 (zHe hs laidOut (by kernel_rfl) (of_decide_eq_true (by kernel_rfl)) ⟨f0,g0⟩ hlt0) (zHe hs laidOut (by kernel_rfl) (of_decide_eq_true (by kernel_rfl)) ⟨f1,g1⟩ hlt1) (zHe hs laidOut (by kernel_rfl) (of_decide_eq_true (by kernel_rfl)) ⟨f2,g2⟩ hlt2),rfl,zMk hs _,fun h=>by cases h⟩
end Go.Proofs.YtghacmkpcjdpjaaGreatDoor.fnExactRunBatch

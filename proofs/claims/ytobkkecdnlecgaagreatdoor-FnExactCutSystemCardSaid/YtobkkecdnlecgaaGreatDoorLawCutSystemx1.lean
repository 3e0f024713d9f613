import Derived.Test.YtobkkecdnlecgaaGreatDoorCards
import Derived.Test.YtobkkecdnlecgaaGreatDoorTie
import Derived.Test.YtobkkecdnlecgaaGreatDoorOkCutSystem
import Derived.Test.YtobkkecdnlecgaaGreatDoorPureCutSystem
import Derived.Test.YtobkkecdnlecgaaGreatDoorImF
import Derived.WalkKit
import Derived.ProofKit
import Derived.OpenShut
import Derived.ShutString
import Derived.ChangeOld
import Derived.Below
import Derived.SizedLaws
import Derived.LaidHandle
import Derived.MakeChecks
import Derived.LaidMore
import Derived.Lay
import Derived.SevenTiedAt
import Derived.Stop.Joined
namespace Go.Proofs.YtobkkecdnlecgaaGreatDoor.fnExactCutSystem
open Go.ChangeShapes Go.WideShapes Go.ChangeAt Go.RowKit
open Go.Im Go.Told
set_option linter.unusedVariables false
theorem own:ownKnob Tryz.prog.godebug=none:=by kernel_rfl
theorem laidOut:laidOutB Tryz.prog=true:=by kernel_rfl
theorem zSU {H:Type} {enc:TypeId×Value→H} {W:World}:Reads enc Tryz.prog W 85 Version.enc Version.ok:=
 (zGi (t:=85) (fs:= #[{name:= "A",type:=2,offset:=0,embedded:=false,tag:= "",pkgPath:= "",byteOffset:=0},{name:= "B",type:=2,offset:=1,embedded:=false,tag:= "",pkgPath:= "",byteOffset:=8},{name:= "C",type:=2,offset:=2,embedded:=false,tag:= "",pkgPath:= "",byteOffset:=16}]) (tot:=3) (by kernel_rfl) (by kernel_rfl) (zBA (off:=0) (sz:=1) (tot:=2) (by kernel_rfl) (by kernel_rfl) (zIp (k:=.i64) (by kernel_rfl)) (zBA (off:=1) (sz:=1) (tot:=1) (by kernel_rfl) (by kernel_rfl) (zIp (k:=.i64) (by kernel_rfl)) (zBA (off:=2) (sz:=1) (tot:=0) (by kernel_rfl) (by kernel_rfl) (zIp (k:=.i64) (by kernel_rfl)) zKc)))).map
  (fun x=>({A:=x.1,B:=x.2.1,C:=x.2.2.1}:Version)) (fun _=>rfl) (fun _ h=>⟨h.1,h.2.1,h.2.2.1⟩)
theorem zTS {H:Type} {enc:TypeId×Value→H} {W:World}:Reads enc Tryz.prog W 86 (fun xs:(List ByteArray)=>[.s false 1 xs.length (xs.map eStr)]) (fun xs=>xs.length≤maxLen∧∀y1∈xs,y1.size≤maxLen):=
 zGL (e:=9) (ec:=eStr) (by kernel_rfl) (by kernel_rfl) (by decide) (zNy (by kernel_rfl)) (fun _=>rfl)
theorem zSV {H:Type} {enc:TypeId×Value→H} {W:World}:Reads enc Tryz.prog W 224 Term.enc Term.ok:=
 (zGi (t:=224) (fs:= #[{name:= "Name",type:=9,offset:=0,embedded:=false,tag:= "",pkgPath:= "",byteOffset:=0},{name:= "Low",type:=85,offset:=1,embedded:=false,tag:= "",pkgPath:= "",byteOffset:=16},{name:= "High",type:=85,offset:=4,embedded:=false,tag:= "",pkgPath:= "",byteOffset:=40}]) (tot:=7) (by kernel_rfl) (by kernel_rfl) (zBA (off:=0) (sz:=1) (tot:=6) (by kernel_rfl) (by kernel_rfl) (zNy (by kernel_rfl)) (zBA (off:=1) (sz:=3) (tot:=3) (by kernel_rfl) (by kernel_rfl) zSU (zBA (off:=4) (sz:=3) (tot:=0) (by kernel_rfl) (by kernel_rfl) zSU zKc)))).map
  (fun x=>({Name:=x.1,Low:=x.2.1,High:=x.2.2.1}:Term)) (fun _=>rfl) (fun _ h=>⟨h.1,h.2.1,h.2.2.1⟩)
theorem zTs {H:Type} {enc:TypeId×Value→H} {W:World}:Reads enc Tryz.prog W 88 (fun xs:(List Term)=>[.s false 7 xs.length (xs.map Term.enc)]) (fun xs=>xs.length≤maxLen∧∀y1∈xs,Term.ok y1):=
 zGL (e:=224) (ec:=Term.enc) (by kernel_rfl) (by kernel_rfl) (by decide) zSV (fun _=>rfl)
theorem zTX {H:Type} {enc:TypeId×Value→H} {W:World}:Reads enc Tryz.prog W 87 (fun xs:(List (List Term))=>[.s false 1 xs.length (xs.map (eSl false 7 Term.enc))]) (fun xs=>xs.length≤maxLen∧∀y1∈xs,y1.length≤maxLen∧∀y2∈y1,Term.ok y2):=
 zGL (e:=88) (ec:=(eSl false 7 Term.enc)) (by kernel_rfl) (by kernel_rfl) (by decide) zTs (fun _=>rfl)
theorem zT4 {H:Type} {enc:TypeId×Value→H} {W:World}:Reads enc Tryz.prog W 90 (Pack.enc false) Pack.ok:=
 (zGi (t:=90) (fs:= #[{name:= "Name",type:=9,offset:=0,embedded:=false,tag:= "",pkgPath:= "",byteOffset:=0},{name:= "Version",type:=85,offset:=1,embedded:=false,tag:= "",pkgPath:= "",byteOffset:=16},{name:= "Size",type:=2,offset:=4,embedded:=false,tag:= "",pkgPath:= "",byteOffset:=40},{name:= "Provides",type:=86,offset:=5,embedded:=false,tag:= "",pkgPath:= "",byteOffset:=48},{name:= "Needs",type:=87,offset:=6,embedded:=false,tag:= "",pkgPath:= "",byteOffset:=72},{name:= "Bars",type:=88,offset:=7,embedded:=false,tag:= "",pkgPath:= "",byteOffset:=96}]) (tot:=8) (by kernel_rfl) (by kernel_rfl) (zBA (off:=0) (sz:=1) (tot:=7) (by kernel_rfl) (by kernel_rfl) (zNy (by kernel_rfl)) (zBA (off:=1) (sz:=3) (tot:=4) (by kernel_rfl) (by kernel_rfl) zSU (zBA (off:=4) (sz:=1) (tot:=3) (by kernel_rfl) (by kernel_rfl) (zIp (k:=.i64) (by kernel_rfl)) (zBA (off:=5) (sz:=1) (tot:=2) (by kernel_rfl) (by kernel_rfl) zTS (zBA (off:=6) (sz:=1) (tot:=1) (by kernel_rfl) (by kernel_rfl) zTX (zBA (off:=7) (sz:=1) (tot:=0) (by kernel_rfl) (by kernel_rfl) zTs zKc))))))).map
  (fun x=>({Name:=x.1,Version:=x.2.1,Size:=x.2.2.1,Provides:=x.2.2.2.1,Needs:=x.2.2.2.2.1,Bars:=x.2.2.2.2.2.1}:Pack)) (fun _=>rfl) (fun _ h=>⟨h.1,h.2.1,h.2.2.1,h.2.2.2.1,h.2.2.2.2.1,h.2.2.2.2.2.1⟩)
theorem zTK {H:Type} {enc:TypeId×Value→H} {W:World}:Reads enc Tryz.prog W 22 (fun xs:(List Pack)=>[.s false 8 xs.length (xs.map (Pack.enc false))]) (fun xs=>xs.length≤maxLen∧∀y1∈xs,Pack.ok y1):=
 zGL (e:=90) (ec:=(Pack.enc false)) (by kernel_rfl) (by kernel_rfl) (by decide) zT4 (fun _=>rfl)
theorem zTh {H:Type} {enc:TypeId×Value→H} {W:World}:Reads enc Tryz.prog W 121 (fun xs:(List Int)=>[.s false 1 xs.length (xs.map eU8)]) (fun xs=>xs.length≤maxLen∧∀y1∈xs,IntKind.u8.min≤y1∧y1≤IntKind.u8.max):=
 zGL (e:=5) (ec:=eU8) (by kernel_rfl) (by kernel_rfl) (by decide) (zIp (k:=.u8) (by kernel_rfl)) (fun _=>rfl)
theorem zTb {H:Type} {enc:TypeId×Value→H} {W:World}:Reads enc Tryz.prog W 158 (File.enc false) File.ok:=
 (zGi (t:=158) (fs:= #[{name:= "Path",type:=9,offset:=0,embedded:=false,tag:= "",pkgPath:= "",byteOffset:=0},{name:= "Data",type:=121,offset:=1,embedded:=false,tag:= "",pkgPath:= "",byteOffset:=16}]) (tot:=2) (by kernel_rfl) (by kernel_rfl) (zBA (off:=0) (sz:=1) (tot:=1) (by kernel_rfl) (by kernel_rfl) (zNy (by kernel_rfl)) (zBA (off:=1) (sz:=1) (tot:=0) (by kernel_rfl) (by kernel_rfl) zTh zKc))).map
  (fun x=>({Path:=x.1,Data:=x.2.1}:File)) (fun _=>rfl) (fun _ h=>⟨h.1,h.2.1⟩)
theorem zTL {H:Type} {enc:TypeId×Value→H} {W:World}:Reads enc Tryz.prog W 23 (fun xs:(List File)=>[.s false 2 xs.length (xs.map (File.enc false))]) (fun xs=>xs.length≤maxLen∧∀y1∈xs,File.ok y1):=
 zGL (e:=158) (ec:=(File.enc false)) (by kernel_rfl) (by kernel_rfl) (by decide) zTb (fun _=>rfl)
theorem zTF {H:Type} {enc:TypeId×Value→H} {W:World}:Reads enc Tryz.prog W 25 (zD.enc false) zD.ok:=
 (zGi (t:=25) (fs:= #[{name:= "Files",type:=23,offset:=0,embedded:=false,tag:= "",pkgPath:= "",byteOffset:=0},{name:= "Budget",type:=2,offset:=1,embedded:=false,tag:= "",pkgPath:= "",byteOffset:=24},{name:= "Writes",type:=2,offset:=2,embedded:=false,tag:= "",pkgPath:= "",byteOffset:=32},{name:= "Stop",type:=2,offset:=3,embedded:=false,tag:= "",pkgPath:= "",byteOffset:=40},{name:= "Down",type:=4,offset:=4,embedded:=false,tag:= "",pkgPath:= "",byteOffset:=48}]) (tot:=5) (by kernel_rfl) (by kernel_rfl) (zBA (off:=0) (sz:=1) (tot:=4) (by kernel_rfl) (by kernel_rfl) zTL (zBA (off:=1) (sz:=1) (tot:=3) (by kernel_rfl) (by kernel_rfl) (zIp (k:=.i64) (by kernel_rfl)) (zBA (off:=2) (sz:=1) (tot:=2) (by kernel_rfl) (by kernel_rfl) (zIp (k:=.i64) (by kernel_rfl)) (zBA (off:=3) (sz:=1) (tot:=1) (by kernel_rfl) (by kernel_rfl) (zIp (k:=.i64) (by kernel_rfl)) (zBA (off:=4) (sz:=1) (tot:=0) (by kernel_rfl) (by kernel_rfl) (zQU (by kernel_rfl)) zKc)))))).map
  (fun x=>({Files:=x.1,Budget:=x.2.1,Writes:=x.2.2.1,Stop:=x.2.2.2.1,Down:=x.2.2.2.2.1}:zD)) (fun _=>rfl) (fun _ h=>⟨h.1,h.2.1,h.2.2.1,h.2.2.2.1,h.2.2.2.2.1⟩)
theorem zUy {H:Type} {enc:TypeId×Value→H} {W:World}:Reads enc Tryz.prog W 27 (System.enc false) System.ok:=
 (zGi (t:=27) (fs:= #[{name:= "Catalog",type:=22,offset:=0,embedded:=false,tag:= "",pkgPath:= "",byteOffset:=0},{name:= "Disk",type:=25,offset:=1,embedded:=false,tag:= "",pkgPath:= "",byteOffset:=24}]) (tot:=6) (by kernel_rfl) (by kernel_rfl) (zBA (off:=0) (sz:=1) (tot:=5) (by kernel_rfl) (by kernel_rfl) zTK (zBA (off:=1) (sz:=5) (tot:=0) (by kernel_rfl) (by kernel_rfl) zTF zKc))).map
  (fun x=>({Catalog:=x.1,zD:=x.2.1}:System)) (fun _=>rfl) (fun _ h=>⟨h.1,h.2.1⟩)
set_option maxRecDepth 100000 in
theorem tables {W:World} (hS:W.ShapedOpen Tryz.prog) (h:laidMetH Tryz.prog Rows.fnExactCutSystemRow.laid W):∀q∈zNI Tryz.prog,q.1<W.heap.size∧Tab W q.1 q.2:=by
 rw [MakeChecks.laidMetH_plain _ _ _ (by kernel_rfl)] at h
 have e:zNI Tryz.prog=[(0,(fun ws=>∃m,ws=[.int .i64 m])),(1,(· =([1,10,100,1000,10000,100000,1000000,10000000,100000000,1000000000,10000000000,100000000000,1000000000000,10000000000000,100000000000000,1000000000000000,10000000000000000,100000000000000000,1000000000000000000,10000000000000000000]:List Int).map fun z=>Value.int .u64 z)),(2,(· =([0,1,28,2,29,14,24,3,30,22,20,15,25,17,4,8,31,27,13,23,21,19,16,7,26,12,18,6,11,5,10,9]:List Int).map fun z=>Value.int .u8 z)),(3,(· =([0,1,56,2,57,49,28,3,61,58,42,50,38,29,17,4,62,47,59,36,45,43,51,22,53,39,33,30,24,18,12,5,63,55,48,27,60,41,37,16,46,35,44,21,52,32,23,11,54,26,40,15,34,20,31,10,25,14,19,9,13,8,7,6]:List Int).map fun z=>Value.int .u8 z))]:=by kernel_rfl
 rw [e]
 intro q hq
 simp only [List.mem_cons,List.not_mem_nil,or_false] at hq
 rcases hq with rfl|rfl|rfl|rfl
 ·exact zKy (g:=0) (zero:= #[.int .i64 0]) (t:=3) hS (of_decide_eq_true (by kernel_rfl)) (by kernel_rfl) rfl (by kernel_rfl) (by kernel_rfl) Tryz.underlying3
 ·exact zHq (name:= "internal/strconv.uint64pow10") (g:=1) (n:=20) (t:=312) (e:=268) (k:=.u64) (zs:=[1,10,100,1000,10000,100000,1000000,10000000,100000000,1000000000,10000000000,100000000000,1000000000000,10000000000000,100000000000000,1000000000000000,10000000000000000,100000000000000000,1000000000000000000,10000000000000000000]) h (by kernel_rfl) (by kernel_rfl) (by kernel_rfl) (by kernel_rfl) (by kernel_rfl) (by kernel_rfl) (by kernel_rfl)
 ·exact zHq (name:= "math/bits.deBruijn32tab") (g:=2) (n:=32) (t:=333) (e:=5) (k:=.u8) (zs:=[0,1,28,2,29,14,24,3,30,22,20,15,25,17,4,8,31,27,13,23,21,19,16,7,26,12,18,6,11,5,10,9]) h (by kernel_rfl) (by kernel_rfl) (by kernel_rfl) (by kernel_rfl) (by kernel_rfl) (by kernel_rfl) (by kernel_rfl)
 ·exact zHq (name:= "math/bits.deBruijn64tab") (g:=3) (n:=64) (t:=334) (e:=5) (k:=.u8) (zs:=[0,1,56,2,57,49,28,3,61,58,42,50,38,29,17,4,62,47,59,36,45,43,51,22,53,39,33,30,24,18,12,5,63,55,48,27,60,41,37,16,46,35,44,21,52,32,23,11,54,26,40,15,34,20,31,10,25,14,19,9,13,8,7,6]) h (by kernel_rfl) (by kernel_rfl) (by kernel_rfl) (by kernel_rfl) (by kernel_rfl) (by kernel_rfl) (by kernel_rfl)
set_option maxRecDepth 100000 in
theorem lifted (os:Os) (started:os.Started) (H:Type) (enc:TypeId×Value→H):
  ReturnsInHanded {} Tryz.checked os 7 .any (fun w args=>(Rows.fnExactCutSystemSpec.pre enc Tryz.prog Tryz.f7 [] false w args∧laidMetH Tryz.prog Rows.fnExactCutSystemRow.laid w)∧sizedMet enc Tryz.prog Tryz.f7 (OpenSpec.ofChange Rows.fnExactCutSystemSpec) false w args) (Rows.fnExactCutSystemSpec.post enc Tryz.prog Tryz.f7 false true false false):=by
 refine zGw (C:=Tryz.checked) (X:=fun w _=>laidMetH Tryz.prog Rows.fnExactCutSystemRow.laid w) (fun _ _ _ hh h=>h.of_heap hh) own started (by kernel_rfl) Tryz.func7
  (ChangeSpec.witness_shaped (enc:=enc) (C:=Tryz.checked) (os:=os) (X:=fun w _=>laidMetH Tryz.prog Rows.fnExactCutSystemRow.laid w) false (World.laidAll Tryz.prog os Rows.fnExactCutSystemRow.laid) #[.agg #[.slice none 0 0,.slice none 0 0,.int .i64 0,.int .i64 0,.int .i64 0,.bool false]] 8 (World.laidAll_os _ _ _) (World.shaped_of_ZipB (by kernel_rfl) (by kernel_rfl)) (by kernel_rfl) (by kernel_rfl) (by kernel_rfl)
   (by rw [MakeChecks.laidMetH_plain _ _ _ (by kernel_rfl)]; exact laidMet_laidAll _ (by kernel_rfl) (by kernel_rfl))) ?_
 intro W base args ds gs before hS hval0 hW hcnd hsz0 hL _
 have hval:∀(j:Nat) t v,Tryz.f7.params[j]? =some t→args[j]? =some v→Value.okWide Tryz.prog W .any base t v:=hval0
 have hW':=hW
 obtain ⟨p,q,hA0,hV,rfl,hfz,hnd⟩:=hW
 have hA:DataW.TrodAll enc Tryz.prog W 0 (fun _=>true) true Tryz.f7.params.toList args.toList ds p:=hA0
 rw [Tryz.params7] at hA hval
 obtain ⟨v0,vs0,d0,ds0,p0,q0,hargs,rfl,rfl,h0,r0⟩:=trodAll_cons hA
 obtain ⟨rfl,rfl,rfl⟩:=trodAll_nil r0
 obtain rfl:args= #[v0]:=by cases args; simp_all
 obtain ⟨rfl,rfl⟩:=trodVars_none hV
 have hlt0:∀x∈p0,x.block<W.heap.size:=fun x hx=>by simpa using hW'.lt x (by simp [hx])
 have s0:∃cs,v0= .agg cs:=by
  obtain ⟨cs,h,_⟩:=okWide_struct Tryz.underlying27 (hval 0 27 v0 rfl rfl)
  exact ⟨cs,h⟩
 obtain ⟨f0,g0⟩:=h0
 obtain ⟨x0,k0,e0⟩:=(zUy (W:=W)) _ _ _ g0
 have hok:=vH.ok x0
 rw [zGU x0 k0] at hok
 refine (zOH hok (vs:=[v0]) (fun β=>zP0 (zOo s0 (e0 β) rfl) (zQg)) (tables hS hL)).mono fun e W' hs=>?_
 have he:=hs.1
 subst he
 exact ⟨_,rfl,_,_,_,[],_,[],hW',trodAll_mk1 (shut_bool Tryz.underlying4 _),trodAll_mk1 (zNJ hs laidOut (by kernel_rfl) (of_decide_eq_true (by kernel_rfl)) ⟨f0,g0⟩ hlt0),rfl,zNF hs _,fun h=>by cases h⟩
end Go.Proofs.YtobkkecdnlecgaaGreatDoor.fnExactCutSystem

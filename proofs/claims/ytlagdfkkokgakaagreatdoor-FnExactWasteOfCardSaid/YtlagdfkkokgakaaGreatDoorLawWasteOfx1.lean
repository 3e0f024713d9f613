import Derived.Test.YtlagdfkkokgakaaGreatDoorCards
import Derived.Test.YtlagdfkkokgakaaGreatDoorTie
import Derived.Test.YtlagdfkkokgakaaGreatDoorOkWasteOf
import Derived.Test.YtlagdfkkokgakaaGreatDoorPureWasteOf
import Derived.Test.YtlagdfkkokgakaaGreatDoorImF
import Derived.WalkKit
import Derived.ProofKit
import Derived.OpenShut
import Derived.ShutString
import Derived.ChangeOld
import Derived.Below
import Derived.SizedLaws
import Derived.LaidHandle
import Derived.MakeChecks
import Derived.LaidMore
import Derived.Lay
import Derived.SevenTiedAt
import Derived.Stop.Joined
namespace Go.Proofs.YtlagdfkkokgakaaGreatDoor.fnExactWasteOf
open Go.ChangeShapes Go.WideShapes Go.ChangeAt Go.RowKit
open Go.Im Go.Told
set_option linter.unusedVariables false
theorem own:ownKnob Tryz.prog.godebug=none:=by kernel_rfl
theorem laidOut:laidOutB Tryz.prog=true:=by kernel_rfl
theorem zNX {H:Type} {enc:TypeId×Value→H} {W:World}:Reads enc Tryz.prog W 78 Version.enc Version.ok:=
 (zD1 (t:=78) (fs:= #[{name:= "A",type:=2,offset:=0,embedded:=false,tag:= "",pkgPath:= "",byteOffset:=0},{name:= "B",type:=2,offset:=1,embedded:=false,tag:= "",pkgPath:= "",byteOffset:=8},{name:= "C",type:=2,offset:=2,embedded:=false,tag:= "",pkgPath:= "",byteOffset:=16}]) (tot:=3) (by kernel_rfl) (by kernel_rfl) (zAs (off:=0) (sz:=1) (tot:=2) (by kernel_rfl) (by kernel_rfl) (zER (k:=.i64) (by kernel_rfl)) (zAs (off:=1) (sz:=1) (tot:=1) (by kernel_rfl) (by kernel_rfl) (zER (k:=.i64) (by kernel_rfl)) (zAs (off:=2) (sz:=1) (tot:=0) (by kernel_rfl) (by kernel_rfl) (zER (k:=.i64) (by kernel_rfl)) zHl)))).map
  (fun x=>({A:=x.1,B:=x.2.1,C:=x.2.2.1}:Version)) (fun _=>rfl) (fun _ h=>⟨h.1,h.2.1,h.2.2.1⟩)
theorem zPi {H:Type} {enc:TypeId×Value→H} {W:World}:Reads enc Tryz.prog W 70 (fun xs:(List ByteArray)=>[.s false 1 xs.length (xs.map eStr)]) (fun xs=>xs.length≤maxLen∧∀y1∈xs,y1.size≤maxLen):=
 zDF (e:=9) (ec:=eStr) (by kernel_rfl) (by kernel_rfl) (by decide) (zJi (by kernel_rfl)) (fun _=>rfl)
theorem zOb {H:Type} {enc:TypeId×Value→H} {W:World}:Reads enc Tryz.prog W 207 Term.enc Term.ok:=
 (zD1 (t:=207) (fs:= #[{name:= "Name",type:=9,offset:=0,embedded:=false,tag:= "",pkgPath:= "",byteOffset:=0},{name:= "Low",type:=78,offset:=1,embedded:=false,tag:= "",pkgPath:= "",byteOffset:=16},{name:= "High",type:=78,offset:=4,embedded:=false,tag:= "",pkgPath:= "",byteOffset:=40}]) (tot:=7) (by kernel_rfl) (by kernel_rfl) (zAs (off:=0) (sz:=1) (tot:=6) (by kernel_rfl) (by kernel_rfl) (zJi (by kernel_rfl)) (zAs (off:=1) (sz:=3) (tot:=3) (by kernel_rfl) (by kernel_rfl) zNX (zAs (off:=4) (sz:=3) (tot:=0) (by kernel_rfl) (by kernel_rfl) zNX zHl)))).map
  (fun x=>({Name:=x.1,Low:=x.2.1,High:=x.2.2.1}:Term)) (fun _=>rfl) (fun _ h=>⟨h.1,h.2.1,h.2.2.1⟩)
theorem zOs {H:Type} {enc:TypeId×Value→H} {W:World}:Reads enc Tryz.prog W 80 (fun xs:(List Term)=>[.s false 7 xs.length (xs.map Term.enc)]) (fun xs=>xs.length≤maxLen∧∀y1∈xs,Term.ok y1):=
 zDF (e:=207) (ec:=Term.enc) (by kernel_rfl) (by kernel_rfl) (by decide) zOb (fun _=>rfl)
theorem zOT {H:Type} {enc:TypeId×Value→H} {W:World}:Reads enc Tryz.prog W 79 (fun xs:(List (List Term))=>[.s false 1 xs.length (xs.map (eSl false 7 Term.enc))]) (fun xs=>xs.length≤maxLen∧∀y1∈xs,y1.length≤maxLen∧∀y2∈y1,Term.ok y2):=
 zDF (e:=80) (ec:=(eSl false 7 Term.enc)) (by kernel_rfl) (by kernel_rfl) (by decide) zOs (fun _=>rfl)
theorem zOO {H:Type} {enc:TypeId×Value→H} {W:World}:Reads enc Tryz.prog W 82 (Pack.enc false) Pack.ok:=
 (zD1 (t:=82) (fs:= #[{name:= "Name",type:=9,offset:=0,embedded:=false,tag:= "",pkgPath:= "",byteOffset:=0},{name:= "Version",type:=78,offset:=1,embedded:=false,tag:= "",pkgPath:= "",byteOffset:=16},{name:= "Size",type:=2,offset:=4,embedded:=false,tag:= "",pkgPath:= "",byteOffset:=40},{name:= "Provides",type:=70,offset:=5,embedded:=false,tag:= "",pkgPath:= "",byteOffset:=48},{name:= "Needs",type:=79,offset:=6,embedded:=false,tag:= "",pkgPath:= "",byteOffset:=72},{name:= "Bars",type:=80,offset:=7,embedded:=false,tag:= "",pkgPath:= "",byteOffset:=96}]) (tot:=8) (by kernel_rfl) (by kernel_rfl) (zAs (off:=0) (sz:=1) (tot:=7) (by kernel_rfl) (by kernel_rfl) (zJi (by kernel_rfl)) (zAs (off:=1) (sz:=3) (tot:=4) (by kernel_rfl) (by kernel_rfl) zNX (zAs (off:=4) (sz:=1) (tot:=3) (by kernel_rfl) (by kernel_rfl) (zER (k:=.i64) (by kernel_rfl)) (zAs (off:=5) (sz:=1) (tot:=2) (by kernel_rfl) (by kernel_rfl) zPi (zAs (off:=6) (sz:=1) (tot:=1) (by kernel_rfl) (by kernel_rfl) zOT (zAs (off:=7) (sz:=1) (tot:=0) (by kernel_rfl) (by kernel_rfl) zOs zHl))))))).map
  (fun x=>({Name:=x.1,Version:=x.2.1,Size:=x.2.2.1,Provides:=x.2.2.2.1,Needs:=x.2.2.2.2.1,Bars:=x.2.2.2.2.2.1}:Pack)) (fun _=>rfl) (fun _ h=>⟨h.1,h.2.1,h.2.2.1,h.2.2.2.1,h.2.2.2.2.1,h.2.2.2.2.2.1⟩)
theorem zOz {H:Type} {enc:TypeId×Value→H} {W:World}:Reads enc Tryz.prog W 22 (fun xs:(List Pack)=>[.s false 8 xs.length (xs.map (Pack.enc false))]) (fun xs=>xs.length≤maxLen∧∀y1∈xs,Pack.ok y1):=
 zDF (e:=82) (ec:=(Pack.enc false)) (by kernel_rfl) (by kernel_rfl) (by decide) zOO (fun _=>rfl)
theorem zOh {H:Type} {enc:TypeId×Value→H} {W:World}:Reads enc Tryz.prog W 111 (fun xs:(List Int)=>[.s false 1 xs.length (xs.map eU8)]) (fun xs=>xs.length≤maxLen∧∀y1∈xs,IntKind.u8.min≤y1∧y1≤IntKind.u8.max):=
 zDF (e:=5) (ec:=eU8) (by kernel_rfl) (by kernel_rfl) (by decide) (zER (k:=.u8) (by kernel_rfl)) (fun _=>rfl)
theorem zNT {H:Type} {enc:TypeId×Value→H} {W:World}:Reads enc Tryz.prog W 157 (File.enc false) File.ok:=
 (zD1 (t:=157) (fs:= #[{name:= "Path",type:=9,offset:=0,embedded:=false,tag:= "",pkgPath:= "",byteOffset:=0},{name:= "Data",type:=111,offset:=1,embedded:=false,tag:= "",pkgPath:= "",byteOffset:=16}]) (tot:=2) (by kernel_rfl) (by kernel_rfl) (zAs (off:=0) (sz:=1) (tot:=1) (by kernel_rfl) (by kernel_rfl) (zJi (by kernel_rfl)) (zAs (off:=1) (sz:=1) (tot:=0) (by kernel_rfl) (by kernel_rfl) zOh zHl))).map
  (fun x=>({Path:=x.1,Data:=x.2.1}:File)) (fun _=>rfl) (fun _ h=>⟨h.1,h.2.1⟩)
theorem zPk {H:Type} {enc:TypeId×Value→H} {W:World}:Reads enc Tryz.prog W 39 (fun xs:(List File)=>[.s false 2 xs.length (xs.map (File.enc false))]) (fun xs=>xs.length≤maxLen∧∀y1∈xs,File.ok y1):=
 zDF (e:=157) (ec:=(File.enc false)) (by kernel_rfl) (by kernel_rfl) (by decide) zNT (fun _=>rfl)
theorem zPh {H:Type} {enc:TypeId×Value→H} {W:World}:Reads enc Tryz.prog W 41 (zI.enc false) zI.ok:=
 (zD1 (t:=41) (fs:= #[{name:= "Files",type:=39,offset:=0,embedded:=false,tag:= "",pkgPath:= "",byteOffset:=0},{name:= "Budget",type:=2,offset:=1,embedded:=false,tag:= "",pkgPath:= "",byteOffset:=24},{name:= "Writes",type:=2,offset:=2,embedded:=false,tag:= "",pkgPath:= "",byteOffset:=32},{name:= "Stop",type:=2,offset:=3,embedded:=false,tag:= "",pkgPath:= "",byteOffset:=40},{name:= "Down",type:=4,offset:=4,embedded:=false,tag:= "",pkgPath:= "",byteOffset:=48}]) (tot:=5) (by kernel_rfl) (by kernel_rfl) (zAs (off:=0) (sz:=1) (tot:=4) (by kernel_rfl) (by kernel_rfl) zPk (zAs (off:=1) (sz:=1) (tot:=3) (by kernel_rfl) (by kernel_rfl) (zER (k:=.i64) (by kernel_rfl)) (zAs (off:=2) (sz:=1) (tot:=2) (by kernel_rfl) (by kernel_rfl) (zER (k:=.i64) (by kernel_rfl)) (zAs (off:=3) (sz:=1) (tot:=1) (by kernel_rfl) (by kernel_rfl) (zER (k:=.i64) (by kernel_rfl)) (zAs (off:=4) (sz:=1) (tot:=0) (by kernel_rfl) (by kernel_rfl) (zM6 (by kernel_rfl)) zHl)))))).map
  (fun x=>({Files:=x.1,Budget:=x.2.1,Writes:=x.2.2.1,Stop:=x.2.2.2.1,Down:=x.2.2.2.2.1}:zI)) (fun _=>rfl) (fun _ h=>⟨h.1,h.2.1,h.2.2.1,h.2.2.2.1,h.2.2.2.2.1⟩)
set_option maxRecDepth 100000 in
theorem tables {W:World} (hS:W.ShapedOpen Tryz.prog) (h:laidMetH Tryz.prog Rows.fnExactWasteOfRow.laid W):∀q∈zJ8 Tryz.prog,q.1<W.heap.size∧Tab W q.1 q.2:=by
 rw [MakeChecks.laidMetH_plain _ _ _ (by kernel_rfl)] at h
 have e:zJ8 Tryz.prog=[(0,(fun ws=>∃m,ws=[.int .i64 m])),(1,(· =([1,10,100,1000,10000,100000,1000000,10000000,100000000,1000000000,10000000000,100000000000,1000000000000,10000000000000,100000000000000,1000000000000000,10000000000000000,100000000000000000,1000000000000000000,10000000000000000000]:List Int).map fun z=>Value.int .u64 z)),(4,(· =([0,1,28,2,29,14,24,3,30,22,20,15,25,17,4,8,31,27,13,23,21,19,16,7,26,12,18,6,11,5,10,9]:List Int).map fun z=>Value.int .u8 z)),(5,(· =([0,1,56,2,57,49,28,3,61,58,42,50,38,29,17,4,62,47,59,36,45,43,51,22,53,39,33,30,24,18,12,5,63,55,48,27,60,41,37,16,46,35,44,21,52,32,23,11,54,26,40,15,34,20,31,10,25,14,19,9,13,8,7,6]:List Int).map fun z=>Value.int .u8 z))]:=by kernel_rfl
 rw [e]
 intro q hq
 simp only [List.mem_cons,List.not_mem_nil,or_false] at hq
 rcases hq with rfl|rfl|rfl|rfl
 ·exact zGB (g:=0) (zero:= #[.int .i64 0]) (t:=3) hS (of_decide_eq_true (by kernel_rfl)) (by kernel_rfl) rfl (by kernel_rfl) (by kernel_rfl) Tryz.underlying3
 ·exact zDY (name:= "internal/strconv.uint64pow10") (g:=1) (n:=20) (t:=328) (e:=295) (k:=.u64) (zs:=[1,10,100,1000,10000,100000,1000000,10000000,100000000,1000000000,10000000000,100000000000,1000000000000,10000000000000,100000000000000,1000000000000000,10000000000000000,100000000000000000,1000000000000000000,10000000000000000000]) h (by kernel_rfl) (by kernel_rfl) (by kernel_rfl) (by kernel_rfl) (by kernel_rfl) (by kernel_rfl) (by kernel_rfl)
 ·exact zDY (name:= "math/bits.deBruijn32tab") (g:=4) (n:=32) (t:=350) (e:=5) (k:=.u8) (zs:=[0,1,28,2,29,14,24,3,30,22,20,15,25,17,4,8,31,27,13,23,21,19,16,7,26,12,18,6,11,5,10,9]) h (by kernel_rfl) (by kernel_rfl) (by kernel_rfl) (by kernel_rfl) (by kernel_rfl) (by kernel_rfl) (by kernel_rfl)
 ·exact zDY (name:= "math/bits.deBruijn64tab") (g:=5) (n:=64) (t:=351) (e:=5) (k:=.u8) (zs:=[0,1,56,2,57,49,28,3,61,58,42,50,38,29,17,4,62,47,59,36,45,43,51,22,53,39,33,30,24,18,12,5,63,55,48,27,60,41,37,16,46,35,44,21,52,32,23,11,54,26,40,15,34,20,31,10,25,14,19,9,13,8,7,6]) h (by kernel_rfl) (by kernel_rfl) (by kernel_rfl) (by kernel_rfl) (by kernel_rfl) (by kernel_rfl) (by kernel_rfl)
set_option maxRecDepth 100000 in
theorem lifted (os:Os) (started:os.Started) (H:Type) (enc:TypeId×Value→H):
  ReturnsInHanded {} Tryz.checked os 7 .any (fun w args=>(Rows.fnExactWasteOfSpec.pre enc Tryz.prog Tryz.f7 [] false w args∧laidMetH Tryz.prog Rows.fnExactWasteOfRow.laid w)∧sizedMet enc Tryz.prog Tryz.f7 (OpenSpec.ofChange Rows.fnExactWasteOfSpec) false w args) (Rows.fnExactWasteOfSpec.post enc Tryz.prog Tryz.f7 false true false false):=by
 refine zDw (C:=Tryz.checked) (X:=fun w _=>laidMetH Tryz.prog Rows.fnExactWasteOfRow.laid w) (fun _ _ _ hh h=>h.of_heap hh) own started (by kernel_rfl) Tryz.func7
  (ChangeSpec.witness_shaped (enc:=enc) (C:=Tryz.checked) (os:=os) (X:=fun w _=>laidMetH Tryz.prog Rows.fnExactWasteOfRow.laid w) false (World.laidAll Tryz.prog os Rows.fnExactWasteOfRow.laid) #[.slice none 0 0,.agg #[.slice none 0 0,.int .i64 0,.int .i64 0,.int .i64 0,.bool false]] 8 (World.laidAll_os _ _ _) (World.shaped_of_ZipB (by kernel_rfl) (by kernel_rfl)) (by kernel_rfl) (by kernel_rfl) (by kernel_rfl)
   (by rw [MakeChecks.laidMetH_plain _ _ _ (by kernel_rfl)]; exact laidMet_laidAll _ (by kernel_rfl) (by kernel_rfl))) ?_
 intro W base args ds gs before hS hval0 hW hcnd hsz0 hL _
 have hval:∀(j:Nat) t v,Tryz.f7.params[j]? =some t→args[j]? =some v→Value.okWide Tryz.prog W .any base t v:=hval0
 have hW':=hW
 obtain ⟨p,q,hA0,hV,rfl,hfz,hnd⟩:=hW
 have hA:DataW.TrodAll enc Tryz.prog W 0 (fun _=>true) true Tryz.f7.params.toList args.toList ds p:=hA0
 rw [Tryz.params7] at hA hval
 obtain ⟨v0,vs0,d0,ds0,p0,q0,hargs,rfl,rfl,h0,r0⟩:=trodAll_cons hA
 obtain ⟨v1,vs1,d1,ds1,p1,q1,rfl,rfl,rfl,h1,r1⟩:=trodAll_cons r0
 obtain ⟨rfl,rfl,rfl⟩:=trodAll_nil r1
 obtain rfl:args= #[v0,v1]:=by cases args; simp_all
 obtain ⟨rfl,rfl⟩:=trodVars_none hV
 have hlt0:∀x∈p0,x.block<W.heap.size:=fun x hx=>by simpa using hW'.lt x (by simp [hx])
 have s0:v0.cells= #[v0]:=by
  obtain ⟨a,l,c,rfl⟩:=okWide_slice Tryz.underlying22 (hval 0 22 v0 rfl rfl)
  rfl
 obtain ⟨f0,g0⟩:=h0
 obtain ⟨x0,k0,e0⟩:=(zOz (W:=W)) _ _ _ g0
 have hlt1:∀x∈p1,x.block<W.heap.size:=fun x hx=>by simpa using hW'.lt x (by simp [hx])
 have s1:∃cs,v1= .agg cs:=by
  obtain ⟨cs,h,_⟩:=okWide_struct Tryz.underlying41 (hval 1 41 v1 rfl rfl)
  exact ⟨cs,h⟩
 obtain ⟨f1,g1⟩:=h1
 obtain ⟨x1,k1,e1⟩:=(zPh (W:=W)) _ _ _ g1
 have hok:=wL.ok x0 x1
 rw [zEv x0 x1 k0 k1] at hok
 refine (zKl hok (vs:=[v0,v1]) (fun β=>zHk (zMz s0 (e0 β)) (zHk (zJX s1 (e1 β) rfl) (zLA))) (tables hS hL)).mono fun e W' hs=>?_
 have he:=hs.1
 subst he
 exact ⟨_,rfl,_,_,_,[],_,[],hW',trodAll_mk1 (shut_bool Tryz.underlying4 _),trodAll_mk2 (zGg hs laidOut (by kernel_rfl) (of_decide_eq_true (by kernel_rfl)) ⟨f0,g0⟩ hlt0) (zGg hs laidOut (by kernel_rfl) (of_decide_eq_true (by kernel_rfl)) ⟨f1,g1⟩ hlt1),rfl,zJ3 hs _,fun h=>by cases h⟩
end Go.Proofs.YtlagdfkkokgakaaGreatDoor.fnExactWasteOf

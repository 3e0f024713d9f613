/- Proved: the statement on WriteFile of this seat (the last theorem), for every argument that its own guards let in; nothing else is assumed. -/
import Derived.Test.YtlagdfkkokgakaaRows
import Derived.Test.YtlagdfkkokgakaaOkWriteFile
import Derived.Test.YtlagdfkkokgakaaPureWriteFile
import Derived.Test.YtlagdfkkokgakaaImE
import Derived.WalkKit
import Derived.ProofKit
import Derived.OpenShut
import Derived.ShutString
import Derived.ChangeOld
import Derived.Below
import Derived.SizedLaws
namespace Go.Proofs.Ytlagdfkkokgakaa.fnExactWriteFile
open Go.ChangeShapes Go.WideShapes Go.ChangeAt Go.RowKit
open Go.Im Go.Told
set_option linter.unusedVariables false
theorem own:ownKnob Try.prog.godebug=none:=by kernel_rfl
theorem laidOut:laidOutB Try.prog=true:=by kernel_rfl
theorem zFR {H:Type} {enc:TypeId×Value→H} {W:World}:Reads enc Try.prog W 38 (fun xs:(List Int)=>[.s false 1 xs.length (xs.map eU8)]) (fun xs=>xs.length≤maxLen∧∀y1∈xs,IntKind.u8.min≤y1∧y1≤IntKind.u8.max):=
 zCl (e:=5) (ec:=eU8) (by kernel_rfl) (by kernel_rfl) (by decide) (zCq (k:=.u8) (by kernel_rfl)) (fun _=>rfl)
theorem zFZ {H:Type} {enc:TypeId×Value→H} {W:World}:Reads enc Try.prog W 61 (File.enc false) File.ok:=
 (zB8 (t:=61) (fs:= #[{name:= "Path",type:=9,offset:=0,embedded:=false,tag:= "",pkgPath:= "",byteOffset:=0},{name:= "Data",type:=38,offset:=1,embedded:=false,tag:= "",pkgPath:= "",byteOffset:=16}]) (tot:=2) (by kernel_rfl) (by kernel_rfl) (kE (off:=0) (sz:=1) (tot:=1) (by kernel_rfl) (by kernel_rfl) (zEt (by kernel_rfl)) (kE (off:=1) (sz:=1) (tot:=0) (by kernel_rfl) (by kernel_rfl) zFR zEw))).map
  (fun x=>({Path:=x.1,Data:=x.2.1}:File)) (fun _=>rfl) (fun _ h=>⟨h.1,h.2.1⟩)
theorem zGf {H:Type} {enc:TypeId×Value→H} {W:World}:Reads enc Try.prog W 22 (fun xs:(List File)=>[.s false 2 xs.length (xs.map (File.enc false))]) (fun xs=>xs.length≤maxLen∧∀y1∈xs,File.ok y1):=
 zCl (e:=61) (ec:=(File.enc false)) (by kernel_rfl) (by kernel_rfl) (by decide) zFZ (fun _=>rfl)
theorem zGe {H:Type} {enc:TypeId×Value→H} {W:World}:Reads enc Try.prog W 24 (zA.enc false) zA.ok:=
 (zB8 (t:=24) (fs:= #[{name:= "Files",type:=22,offset:=0,embedded:=false,tag:= "",pkgPath:= "",byteOffset:=0},{name:= "Budget",type:=2,offset:=1,embedded:=false,tag:= "",pkgPath:= "",byteOffset:=24},{name:= "Writes",type:=2,offset:=2,embedded:=false,tag:= "",pkgPath:= "",byteOffset:=32},{name:= "Stop",type:=2,offset:=3,embedded:=false,tag:= "",pkgPath:= "",byteOffset:=40},{name:= "Down",type:=4,offset:=4,embedded:=false,tag:= "",pkgPath:= "",byteOffset:=48}]) (tot:=5) (by kernel_rfl) (by kernel_rfl) (kE (off:=0) (sz:=1) (tot:=4) (by kernel_rfl) (by kernel_rfl) zGf (kE (off:=1) (sz:=1) (tot:=3) (by kernel_rfl) (by kernel_rfl) (zCq (k:=.i64) (by kernel_rfl)) (kE (off:=2) (sz:=1) (tot:=2) (by kernel_rfl) (by kernel_rfl) (zCq (k:=.i64) (by kernel_rfl)) (kE (off:=3) (sz:=1) (tot:=1) (by kernel_rfl) (by kernel_rfl) (zCq (k:=.i64) (by kernel_rfl)) (kE (off:=4) (sz:=1) (tot:=0) (by kernel_rfl) (by kernel_rfl) (zE4 (by kernel_rfl)) zEw)))))).map
  (fun x=>({Files:=x.1,Budget:=x.2.1,Writes:=x.2.2.1,Stop:=x.2.2.2.1,Down:=x.2.2.2.2.1}:zA)) (fun _=>rfl) (fun _ h=>⟨h.1,h.2.1,h.2.2.1,h.2.2.2.1,h.2.2.2.2.1⟩)
set_option maxRecDepth 100000 in
theorem lifted (os:Os) (started:os.Started) (H:Type) (enc:TypeId×Value→H):
  ReturnsInHanded {} Try.checked os 4 .any (Rows.fnExactWriteFileSpec.pre6 enc Try.prog Try.f4 Rows.fnExactWriteFileRow.domain false) (Rows.fnExactWriteFileSpec.post enc Try.prog Try.f4 false true false false):=by
 refine returnsInHanded_of_change_sized (C:=Try.checked) own started (by kernel_rfl) Try.func4
  (ChangeSpec.witness6 (enc:=enc) (C:=Try.checked) false ⟨#[],#[.agg #[.slice none 0 0,.int .i64 0,.int .i64 0,.int .i64 0,.bool false],.string ByteArray.empty,.slice none 0 0],[]⟩ 8 (by kernel_rfl) (by kernel_rfl) (by kernel_rfl) (by kernel_rfl)) ?_
 intro W base args ds gs before hval0 hW hcnd hsz0 _
 have hval:∀(j:Nat) t v,Try.f4.params[j]? =some t→args[j]? =some v→Value.okWide Try.prog W .any base t v:=hval0
 have hW':=hW
 obtain ⟨p,q,hA0,hV,rfl,hfz,hnd⟩:=hW
 have hA:DataW.TrodAll enc Try.prog W 0 (fun _=>true) true Try.f4.params.toList args.toList ds p:=hA0
 rw [Try.params4] at hA hval
 obtain ⟨v0,vs0,d0,ds0,p0,q0,hargs,rfl,rfl,h0,r0⟩:=trodAll_cons hA
 obtain ⟨v1,vs1,d1,ds1,p1,q1,rfl,rfl,rfl,h1,r1⟩:=trodAll_cons r0
 obtain ⟨v2,vs2,d2,ds2,p2,q2,rfl,rfl,rfl,h2,r2⟩:=trodAll_cons r1
 obtain ⟨rfl,rfl,rfl⟩:=trodAll_nil r2
 obtain rfl:args= #[v0,v1,v2]:=by cases args; simp_all
 obtain ⟨rfl,rfl⟩:=trodVars_none hV
 have hlt0:∀x∈p0,x.block<W.heap.size:=fun x hx=>by simpa using hW'.lt x (by simp [hx])
 have s0:∃cs,v0= .agg cs:=by
  obtain ⟨cs,h,_⟩:=okWide_struct Try.underlying24 (hval 0 24 v0 rfl rfl)
  exact ⟨cs,h⟩
 obtain ⟨f0,g0⟩:=h0
 obtain ⟨x0,k0,e0⟩:=(zGe (W:=W)) _ _ _ g0
 have hlt1:∀x∈p1,x.block<W.heap.size:=fun x hx=>by simpa using hW'.lt x (by simp [hx])
 have s1:v1.cells= #[v1]:=by
  obtain ⟨a,rfl⟩:=okWide_string Try.underlying9 (hval 1 9 v1 rfl rfl)
  rfl
 obtain ⟨f1,g1⟩:=h1
 obtain ⟨x1,k1,e1⟩:=(zEt (P:=Try.prog) (t:=9) (by kernel_rfl):Reads enc Try.prog W 9 _ _) _ _ _ g1
 have hlt2:∀x∈p2,x.block<W.heap.size:=fun x hx=>by simpa using hW'.lt x (by simp [hx])
 have s2:v2.cells= #[v2]:=by
  obtain ⟨a,l,c,rfl⟩:=okWide_slice Try.underlying38 (hval 2 38 v2 rfl rfl)
  rfl
 obtain ⟨f2,g2⟩:=h2
 obtain ⟨x2,k2,e2⟩:=(zFR (W:=W)) _ _ _ g2
 have hok:=zX.ok x0 x1 x2
 rw [jV x0 x1 x2 k0 k1 k2] at hok
 refine (zDB hok (vs:=[v0,v1,v2]) (fun β=>zA3 (zCM s0 (e0 β) rfl) (zA3 (zDd s1 (e1 β)) (zA3 (zDd s2 (e2 β)) (zDT)))) (zDn (by kernel_rfl))).mono fun e W' hs=>?_
 have he:=hs.1
 subst he
 exact ⟨_,rfl,_,_,_,[],_,[],hW',trodAll_mk1 (shut_bool Try.underlying4 _),trodAll_mk3 (kU hs laidOut (by kernel_rfl) (of_decide_eq_true (by kernel_rfl)) ⟨f0,g0⟩ hlt0) (kU hs laidOut (by kernel_rfl) (of_decide_eq_true (by kernel_rfl)) ⟨f1,g1⟩ hlt1) (kU hs laidOut (by kernel_rfl) (of_decide_eq_true (by kernel_rfl)) ⟨f2,g2⟩ hlt2),rfl,zCV hs _,fun h=>by cases h⟩
theorem over:Rows.fnExactWriteFileRow.holds Try.pinned (OpenSpec.ofChange Rows.fnExactWriteFileSpec):=
 OpenClaim.holds_of_wide 4 Try.f4 rfl rfl rfl rfl rfl rfl rfl ⟨rfl,rfl,rfl,rfl,rfl⟩ rfl rfl rfl rfl rfl (by kernel_rfl) Try.func4 (by kernel_rfl)
  (of_decide_eq_true (by kernel_rfl)) (by unfold Func.isWrapper; first|(rw [if_pos (by decide+kernel)]; kernel_rfl)|(rw [if_neg (by decide+kernel)]; exact ⟨rfl,rfl⟩))
  (fun os started H enc _=>lifted os started H enc)
theorem proved:Rows.FnExactWriteFileSaid:=over
#print axioms proved
end Go.Proofs.Ytlagdfkkokgakaa.fnExactWriteFile
namespace Go.Proofs.Ytlagdfkkokgakaa
theorem fnExactWriteFile_holds:Rows.FnExactWriteFileSaid:=fnExactWriteFile.proved
end Go.Proofs.Ytlagdfkkokgakaa

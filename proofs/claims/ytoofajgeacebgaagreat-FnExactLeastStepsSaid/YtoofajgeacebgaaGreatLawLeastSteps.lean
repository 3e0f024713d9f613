/- Proved: the statement on LeastSteps of this seat (the last theorem), for every argument that its own guards let in; nothing else is assumed. -/
import Derived.Test.YtoofajgeacebgaaGreatRows
import Derived.Test.YtoofajgeacebgaaGreatOkLeastSteps
import Derived.Test.YtoofajgeacebgaaGreatPureLeastSteps
import Derived.Test.YtoofajgeacebgaaGreatImG
import Derived.WalkKit
import Derived.ProofKit
import Derived.OpenShut
import Derived.ShutString
import Derived.ChangeOld
import Derived.Below
import Derived.SizedLaws
namespace Go.Proofs.YtoofajgeacebgaaGreat.fnExactLeastSteps
open Go.ChangeShapes Go.WideShapes Go.ChangeAt Go.RowKit
open Go.Im Go.Told
set_option linter.unusedVariables false
theorem own:ownKnob Tryz.prog.godebug=none:=by kernel_rfl
theorem laidOut:laidOutB Tryz.prog=true:=by kernel_rfl
theorem zPD {H:Type} {enc:TypeId×Value→H} {W:World}:Reads enc Tryz.prog W 51 Version.enc Version.ok:=
 (zH1 (t:=51) (fs:= #[{name:= "A",type:=2,offset:=0,embedded:=false,tag:= "",pkgPath:= "",byteOffset:=0},{name:= "B",type:=2,offset:=1,embedded:=false,tag:= "",pkgPath:= "",byteOffset:=8},{name:= "C",type:=2,offset:=2,embedded:=false,tag:= "",pkgPath:= "",byteOffset:=16}]) (tot:=3) (by kernel_rfl) (by kernel_rfl) (zEC (off:=0) (sz:=1) (tot:=2) (by kernel_rfl) (by kernel_rfl) (zJ2 (k:=.i64) (by kernel_rfl)) (zEC (off:=1) (sz:=1) (tot:=1) (by kernel_rfl) (by kernel_rfl) (zJ2 (k:=.i64) (by kernel_rfl)) (zEC (off:=2) (sz:=1) (tot:=0) (by kernel_rfl) (by kernel_rfl) (zJ2 (k:=.i64) (by kernel_rfl)) zMc)))).map
  (fun x=>({A:=x.1,B:=x.2.1,C:=x.2.2.1}:Version)) (fun _=>rfl) (fun _ h=>⟨h.1,h.2.1,h.2.2.1⟩)
theorem zQv {H:Type} {enc:TypeId×Value→H} {W:World}:Reads enc Tryz.prog W 52 (fun xs:(List ByteArray)=>[.s false 1 xs.length (xs.map eStr)]) (fun xs=>xs.length≤maxLen∧∀y1∈xs,y1.size≤maxLen):=
 zGx (e:=9) (ec:=eStr) (by kernel_rfl) (by kernel_rfl) (by decide) (zMh (by kernel_rfl)) (fun _=>rfl)
theorem zP3 {H:Type} {enc:TypeId×Value→H} {W:World}:Reads enc Tryz.prog W 105 Term.enc Term.ok:=
 (zH1 (t:=105) (fs:= #[{name:= "Name",type:=9,offset:=0,embedded:=false,tag:= "",pkgPath:= "",byteOffset:=0},{name:= "Low",type:=51,offset:=1,embedded:=false,tag:= "",pkgPath:= "",byteOffset:=16},{name:= "High",type:=51,offset:=4,embedded:=false,tag:= "",pkgPath:= "",byteOffset:=40}]) (tot:=7) (by kernel_rfl) (by kernel_rfl) (zEC (off:=0) (sz:=1) (tot:=6) (by kernel_rfl) (by kernel_rfl) (zMh (by kernel_rfl)) (zEC (off:=1) (sz:=3) (tot:=3) (by kernel_rfl) (by kernel_rfl) zPD (zEC (off:=4) (sz:=3) (tot:=0) (by kernel_rfl) (by kernel_rfl) zPD zMc)))).map
  (fun x=>({Name:=x.1,Low:=x.2.1,High:=x.2.2.1}:Term)) (fun _=>rfl) (fun _ h=>⟨h.1,h.2.1,h.2.2.1⟩)
theorem zPR {H:Type} {enc:TypeId×Value→H} {W:World}:Reads enc Tryz.prog W 54 (fun xs:(List Term)=>[.s false 7 xs.length (xs.map Term.enc)]) (fun xs=>xs.length≤maxLen∧∀y1∈xs,Term.ok y1):=
 zGx (e:=105) (ec:=Term.enc) (by kernel_rfl) (by kernel_rfl) (by decide) zP3 (fun _=>rfl)
theorem zPV {H:Type} {enc:TypeId×Value→H} {W:World}:Reads enc Tryz.prog W 53 (fun xs:(List (List Term))=>[.s false 1 xs.length (xs.map (eSl false 7 Term.enc))]) (fun xs=>xs.length≤maxLen∧∀y1∈xs,y1.length≤maxLen∧∀y2∈y1,Term.ok y2):=
 zGx (e:=54) (ec:=(eSl false 7 Term.enc)) (by kernel_rfl) (by kernel_rfl) (by decide) zPR (fun _=>rfl)
theorem zPY {H:Type} {enc:TypeId×Value→H} {W:World}:Reads enc Tryz.prog W 56 (Pack.enc false) Pack.ok:=
 (zH1 (t:=56) (fs:= #[{name:= "Name",type:=9,offset:=0,embedded:=false,tag:= "",pkgPath:= "",byteOffset:=0},{name:= "Version",type:=51,offset:=1,embedded:=false,tag:= "",pkgPath:= "",byteOffset:=16},{name:= "Size",type:=2,offset:=4,embedded:=false,tag:= "",pkgPath:= "",byteOffset:=40},{name:= "Provides",type:=52,offset:=5,embedded:=false,tag:= "",pkgPath:= "",byteOffset:=48},{name:= "Needs",type:=53,offset:=6,embedded:=false,tag:= "",pkgPath:= "",byteOffset:=72},{name:= "Bars",type:=54,offset:=7,embedded:=false,tag:= "",pkgPath:= "",byteOffset:=96}]) (tot:=8) (by kernel_rfl) (by kernel_rfl) (zEC (off:=0) (sz:=1) (tot:=7) (by kernel_rfl) (by kernel_rfl) (zMh (by kernel_rfl)) (zEC (off:=1) (sz:=3) (tot:=4) (by kernel_rfl) (by kernel_rfl) zPD (zEC (off:=4) (sz:=1) (tot:=3) (by kernel_rfl) (by kernel_rfl) (zJ2 (k:=.i64) (by kernel_rfl)) (zEC (off:=5) (sz:=1) (tot:=2) (by kernel_rfl) (by kernel_rfl) zQv (zEC (off:=6) (sz:=1) (tot:=1) (by kernel_rfl) (by kernel_rfl) zPV (zEC (off:=7) (sz:=1) (tot:=0) (by kernel_rfl) (by kernel_rfl) zPR zMc))))))).map
  (fun x=>({Name:=x.1,Version:=x.2.1,Size:=x.2.2.1,Provides:=x.2.2.2.1,Needs:=x.2.2.2.2.1,Bars:=x.2.2.2.2.2.1}:Pack)) (fun _=>rfl) (fun _ h=>⟨h.1,h.2.1,h.2.2.1,h.2.2.2.1,h.2.2.2.2.1,h.2.2.2.2.2.1⟩)
theorem zPU {H:Type} {enc:TypeId×Value→H} {W:World}:Reads enc Tryz.prog W 22 (fun xs:(List Pack)=>[.s false 8 xs.length (xs.map (Pack.enc false))]) (fun xs=>xs.length≤maxLen∧∀y1∈xs,Pack.ok y1):=
 zGx (e:=56) (ec:=(Pack.enc false)) (by kernel_rfl) (by kernel_rfl) (by decide) zPY (fun _=>rfl)
theorem zPP {H:Type} {enc:TypeId×Value→H} {W:World}:Reads enc Tryz.prog W 23 (fun xs:(List Int)=>[.s false 1 xs.length (xs.map zC)]) (fun xs=>xs.length≤maxLen∧∀y1∈xs,IntKind.i64.min≤y1∧y1≤IntKind.i64.max):=
 zGx (e:=2) (ec:=zC) (by kernel_rfl) (by kernel_rfl) (by decide) (zJ2 (k:=.i64) (by kernel_rfl)) (fun _=>rfl)
set_option maxRecDepth 100000 in
theorem lifted (os:Os) (started:os.Started) (H:Type) (enc:TypeId×Value→H):
  ReturnsInHanded {} Tryz.checked os 3 .any (Rows.fnExactLeastStepsSpec.pre6 enc Tryz.prog Tryz.f3 Rows.fnExactLeastStepsRow.domain false) (Rows.fnExactLeastStepsSpec.post enc Tryz.prog Tryz.f3 false true false false):=by
 refine returnsInHanded_of_change_sized (C:=Tryz.checked) own started (by kernel_rfl) Tryz.func3
  (ChangeSpec.witness6 (enc:=enc) (C:=Tryz.checked) false ⟨#[],#[.slice none 0 0,.slice none 0 0,.slice none 0 0],[]⟩ 8 (by kernel_rfl) (by kernel_rfl) (by kernel_rfl) (by kernel_rfl)) ?_
 intro W base args ds gs before hval0 hW hcnd hsz0 _
 have hval:∀(j:Nat) t v,Tryz.f3.params[j]? =some t→args[j]? =some v→Value.okWide Tryz.prog W .any base t v:=hval0
 have hW':=hW
 obtain ⟨p,q,hA0,hV,rfl,hfz,hnd⟩:=hW
 have hA:DataW.TrodAll enc Tryz.prog W 0 (fun _=>true) true Tryz.f3.params.toList args.toList ds p:=hA0
 rw [Tryz.params3] at hA hval
 obtain ⟨v0,vs0,d0,ds0,p0,q0,hargs,rfl,rfl,h0,r0⟩:=trodAll_cons hA
 obtain ⟨v1,vs1,d1,ds1,p1,q1,rfl,rfl,rfl,h1,r1⟩:=trodAll_cons r0
 obtain ⟨v2,vs2,d2,ds2,p2,q2,rfl,rfl,rfl,h2,r2⟩:=trodAll_cons r1
 obtain ⟨rfl,rfl,rfl⟩:=trodAll_nil r2
 obtain rfl:args= #[v0,v1,v2]:=by cases args; simp_all
 obtain ⟨rfl,rfl⟩:=trodVars_none hV
 have hlt0:∀x∈p0,x.block<W.heap.size:=fun x hx=>by simpa using hW'.lt x (by simp [hx])
 have s0:v0.cells= #[v0]:=by
  obtain ⟨a,l,c,rfl⟩:=okWide_slice Tryz.underlying22 (hval 0 22 v0 rfl rfl)
  rfl
 obtain ⟨f0,g0⟩:=h0
 obtain ⟨x0,k0,e0⟩:=(zPU (W:=W)) _ _ _ g0
 have hlt1:∀x∈p1,x.block<W.heap.size:=fun x hx=>by simpa using hW'.lt x (by simp [hx])
 have s1:v1.cells= #[v1]:=by
  obtain ⟨a,l,c,rfl⟩:=okWide_slice Tryz.underlying23 (hval 1 23 v1 rfl rfl)
  rfl
 obtain ⟨f1,g1⟩:=h1
 obtain ⟨x1,k1,e1⟩:=(zPP (W:=W)) _ _ _ g1
 have hlt2:∀x∈p2,x.block<W.heap.size:=fun x hx=>by simpa using hW'.lt x (by simp [hx])
 have s2:v2.cells= #[v2]:=by
  obtain ⟨a,l,c,rfl⟩:=okWide_slice Tryz.underlying23 (hval 2 23 v2 rfl rfl)
  rfl
 obtain ⟨f2,g2⟩:=h2
 obtain ⟨x2,k2,e2⟩:=(zPP (W:=W)) _ _ _ g2
 have hok:=vV.ok x0 x1 x2
 rw [zF9 x0 x1 x2 k0 k1 k2] at hok
 refine (zLL hok (vs:=[v0,v1,v2]) (fun β=>zH3 (zKd s0 (e0 β)) (zH3 (zKd s1 (e1 β)) (zH3 (zKd s2 (e2 β)) (zNl)))) (zM2 (by kernel_rfl))).mono fun e W' hs=>?_
 have he:=hs.1
 subst he
 exact ⟨_,rfl,_,_,_,[],_,[],hW',trodAll_mk1 (shut_bool Tryz.underlying4 _),trodAll_mk3 (zGN hs laidOut (by kernel_rfl) (of_decide_eq_true (by kernel_rfl)) ⟨f0,g0⟩ hlt0) (zGN hs laidOut (by kernel_rfl) (of_decide_eq_true (by kernel_rfl)) ⟨f1,g1⟩ hlt1) (zGN hs laidOut (by kernel_rfl) (of_decide_eq_true (by kernel_rfl)) ⟨f2,g2⟩ hlt2),rfl,zLz hs _,fun h=>by cases h⟩
theorem over:Rows.fnExactLeastStepsRow.holds Tryz.pinned (OpenSpec.ofChange Rows.fnExactLeastStepsSpec):=
 OpenClaim.holds_of_wide 3 Tryz.f3 rfl rfl rfl rfl rfl rfl rfl ⟨rfl,rfl,rfl,rfl,rfl⟩ rfl rfl rfl rfl rfl (by kernel_rfl) Tryz.func3 (by kernel_rfl)
  (of_decide_eq_true (by kernel_rfl)) (by unfold Func.isWrapper; first|(rw [if_pos (by decide+kernel)]; kernel_rfl)|(rw [if_neg (by decide+kernel)]; exact ⟨rfl,rfl⟩))
  (fun os started H enc _=>lifted os started H enc)
theorem proved:Rows.FnExactLeastStepsSaid:=over
#print axioms proved
end Go.Proofs.YtoofajgeacebgaaGreat.fnExactLeastSteps
namespace Go.Proofs.YtoofajgeacebgaaGreat
theorem fnExactLeastSteps_holds:Rows.FnExactLeastStepsSaid:=fnExactLeastSteps.proved
end Go.Proofs.YtoofajgeacebgaaGreat

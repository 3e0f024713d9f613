/- Proved: the statement on FnPlans of this seat (the last theorem), for every argument that its own guards let in; nothing else is assumed. -/
import Derived.Test.YtdeihchdibglaaaGreatRows
import Derived.Test.YtdeihchdibglaaaGreatOkFnPlans
import Derived.Test.YtdeihchdibglaaaGreatPureFnPlans
import Derived.Test.YtdeihchdibglaaaGreatImG
import Derived.WalkKit
import Derived.ProofKit
import Derived.OpenShut
import Derived.ShutString
import Derived.ChangeOld
import Derived.Below
import Derived.SizedLaws
namespace Go.Proofs.YtdeihchdibglaaaGreat.fnPlans
open Go.ChangeShapes Go.WideShapes Go.ChangeAt Go.RowKit
open Go.Im Go.Told
set_option linter.unusedVariables false
theorem own:ownKnob Tryz.prog.godebug=none:=by kernel_rfl
theorem laidOut:laidOutB Tryz.prog=true:=by kernel_rfl
theorem zQ6 {H:Type} {enc:TypeId×Value→H} {W:World}:Reads enc Tryz.prog W 22 (fun xs:(List Int)=>[.s false 1 xs.length (xs.map eU8)]) (fun xs=>xs.length≤maxLen∧∀y1∈xs,IntKind.u8.min≤y1∧y1≤IntKind.u8.max):=
 zN2 (e:=5) (ec:=eU8) (by kernel_rfl) (by kernel_rfl) (by decide) (zOK (k:=.u8) (by kernel_rfl)) (fun _=>rfl)
set_option maxRecDepth 100000 in
theorem lifted (os:Os) (started:os.Started) (H:Type) (enc:TypeId×Value→H):
  ReturnsInHanded {} Tryz.checked os 6 .any (Rows.fnPlansSpec.pre6 enc Tryz.prog Tryz.f6 Rows.fnPlansRow.domain false) (Rows.fnPlansSpec.post enc Tryz.prog Tryz.f6 false true false false):=by
 refine returnsInHanded_of_change_sized (C:=Tryz.checked) own started (by kernel_rfl) Tryz.func6
  (ChangeSpec.witness6 (enc:=enc) (C:=Tryz.checked) false ⟨#[],#[.slice none 0 0],[]⟩ 8 (by kernel_rfl) (by kernel_rfl) (by kernel_rfl) (by kernel_rfl)) ?_
 intro W base args ds gs before hval0 hW hcnd hsz0 _
 have hval:∀(j:Nat) t v,Tryz.f6.params[j]? =some t→args[j]? =some v→Value.okWide Tryz.prog W .any base t v:=hval0
 have hW':=hW
 obtain ⟨p,q,hA0,hV,rfl,hfz,hnd⟩:=hW
 have hA:DataW.TrodAll enc Tryz.prog W 0 (fun _=>true) true Tryz.f6.params.toList args.toList ds p:=hA0
 rw [Tryz.params6] at hA hval
 obtain ⟨v0,vs0,d0,ds0,p0,q0,hargs,rfl,rfl,h0,r0⟩:=trodAll_cons hA
 obtain ⟨rfl,rfl,rfl⟩:=trodAll_nil r0
 obtain rfl:args= #[v0]:=by cases args; simp_all
 obtain ⟨rfl,rfl⟩:=trodVars_none hV
 have hlt0:∀x∈p0,x.block<W.heap.size:=fun x hx=>by simpa using hW'.lt x (by simp [hx])
 have s0:v0.cells= #[v0]:=by
  obtain ⟨a,l,c,rfl⟩:=okWide_slice Tryz.underlying22 (hval 0 22 v0 rfl rfl)
  rfl
 obtain ⟨f0,g0⟩:=h0
 obtain ⟨x0,k0,e0⟩:=(zQ6 (W:=W)) _ _ _ g0
 have hok:=zBL.ok x0
 rw [zJN x0 k0] at hok
 refine (zMy hok (vs:=[v0]) (fun β=>zMF (zOf s0 (e0 β)) (zNh)) (zM1 (by kernel_rfl))).mono fun e W' hs=>?_
 have he:=hs.1
 subst he
 exact ⟨_,rfl,_,_,_,[],_,[],hW',trodAll_mk1 (shut_bool Tryz.underlying4 _),trodAll_mk1 (zLr hs laidOut (by kernel_rfl) (of_decide_eq_true (by kernel_rfl)) ⟨f0,g0⟩ hlt0),rfl,zLt hs _,fun h=>by cases h⟩
theorem over:Rows.fnPlansRow.holds Tryz.pinned (OpenSpec.ofChange Rows.fnPlansSpec):=
 OpenClaim.holds_of_wide 6 Tryz.f6 rfl rfl rfl rfl rfl rfl rfl ⟨rfl,rfl,rfl,rfl,rfl⟩ rfl rfl rfl rfl rfl (by kernel_rfl) Tryz.func6 (by kernel_rfl)
  (of_decide_eq_true (by kernel_rfl)) (by unfold Func.isWrapper; first|(rw [if_pos (by decide+kernel)]; kernel_rfl)|(rw [if_neg (by decide+kernel)]; exact ⟨rfl,rfl⟩))
  (fun os started H enc _=>lifted os started H enc)
theorem proved:Rows.FnPlansSaid:=over
#print axioms proved
end Go.Proofs.YtdeihchdibglaaaGreat.fnPlans
namespace Go.Proofs.YtdeihchdibglaaaGreat
theorem fnPlans_holds:Rows.FnPlansSaid:=fnPlans.proved
end Go.Proofs.YtdeihchdibglaaaGreat

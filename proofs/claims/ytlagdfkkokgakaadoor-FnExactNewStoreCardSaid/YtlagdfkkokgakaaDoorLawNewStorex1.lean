import Derived.Test.YtlagdfkkokgakaaDoorCards
import Derived.Test.YtlagdfkkokgakaaDoorTie
import Derived.Test.YtlagdfkkokgakaaDoorOkNewStore
import Derived.Test.YtlagdfkkokgakaaDoorPureNewStore
import Derived.Test.YtlagdfkkokgakaaDoorImE
import Derived.WalkKit
import Derived.ProofKit
import Derived.OpenShut
import Derived.ShutString
import Derived.ChangeOld
import Derived.Below
import Derived.SizedLaws
import Derived.LaidHandle
import Derived.MakeChecks
import Derived.LaidMore
import Derived.Lay
import Derived.SevenTiedAt
import Derived.Stop.Joined
namespace Go.Proofs.YtlagdfkkokgakaaDoor.fnExactNewStore
open Go.ChangeShapes Go.WideShapes Go.ChangeAt Go.RowKit
open Go.Im Go.Told
set_option linter.unusedVariables false
theorem own:ownKnob Tryd.prog.godebug=none:=by kernel_rfl
theorem laidOut:laidOutB Tryd.prog=true:=by kernel_rfl
set_option maxRecDepth 100000 in
theorem tables {W:World} (hS:W.ShapedOpen Tryd.prog) (h:laidMetH Tryd.prog Rows.fnExactNewStoreRow.laid W):∀q∈zBT Tryd.prog,q.1<W.heap.size∧Tab W q.1 q.2:=by
 rw [MakeChecks.laidMetH_plain _ _ _ (by kernel_rfl)] at h
 have e:zBT Tryd.prog=[(0,(fun ws=>∃m,ws=[.int .i64 m])),(1,(· =([1,10,100,1000,10000,100000,1000000,10000000,100000000,1000000000,10000000000,100000000000,1000000000000,10000000000000,100000000000000,1000000000000000,10000000000000000,100000000000000000,1000000000000000000,10000000000000000000]:List Int).map fun z=>Value.int .u64 z)),(2,(· =([0,1,28,2,29,14,24,3,30,22,20,15,25,17,4,8,31,27,13,23,21,19,16,7,26,12,18,6,11,5,10,9]:List Int).map fun z=>Value.int .u8 z)),(3,(· =([0,1,56,2,57,49,28,3,61,58,42,50,38,29,17,4,62,47,59,36,45,43,51,22,53,39,33,30,24,18,12,5,63,55,48,27,60,41,37,16,46,35,44,21,52,32,23,11,54,26,40,15,34,20,31,10,25,14,19,9,13,8,7,6]:List Int).map fun z=>Value.int .u8 z))]:=by kernel_rfl
 rw [e]
 intro q hq
 simp only [List.mem_cons,List.not_mem_nil,or_false] at hq
 rcases hq with rfl|rfl|rfl|rfl
 ·exact kI (g:=0) (zero:= #[.int .i64 0]) (t:=3) hS (of_decide_eq_true (by kernel_rfl)) (by kernel_rfl) rfl (by kernel_rfl) (by kernel_rfl) Tryd.underlying3
 ·exact vP (name:= "internal/strconv.uint64pow10") (g:=1) (n:=20) (t:=88) (e:=72) (k:=.u64) (zs:=[1,10,100,1000,10000,100000,1000000,10000000,100000000,1000000000,10000000000,100000000000,1000000000000,10000000000000,100000000000000,1000000000000000,10000000000000000,100000000000000000,1000000000000000000,10000000000000000000]) h (by kernel_rfl) (by kernel_rfl) (by kernel_rfl) (by kernel_rfl) (by kernel_rfl) (by kernel_rfl) (by kernel_rfl)
 ·exact vP (name:= "math/bits.deBruijn32tab") (g:=2) (n:=32) (t:=93) (e:=5) (k:=.u8) (zs:=[0,1,28,2,29,14,24,3,30,22,20,15,25,17,4,8,31,27,13,23,21,19,16,7,26,12,18,6,11,5,10,9]) h (by kernel_rfl) (by kernel_rfl) (by kernel_rfl) (by kernel_rfl) (by kernel_rfl) (by kernel_rfl) (by kernel_rfl)
 ·exact vP (name:= "math/bits.deBruijn64tab") (g:=3) (n:=64) (t:=94) (e:=5) (k:=.u8) (zs:=[0,1,56,2,57,49,28,3,61,58,42,50,38,29,17,4,62,47,59,36,45,43,51,22,53,39,33,30,24,18,12,5,63,55,48,27,60,41,37,16,46,35,44,21,52,32,23,11,54,26,40,15,34,20,31,10,25,14,19,9,13,8,7,6]) h (by kernel_rfl) (by kernel_rfl) (by kernel_rfl) (by kernel_rfl) (by kernel_rfl) (by kernel_rfl) (by kernel_rfl)
theorem zCk (os:Os) (args:Array Value):laidMetH Tryd.prog Rows.fnExactNewStoreRow.laid ((World.doorLaid Tryd.prog 400 os).forCall (fun _ _=>0) ⟨#[],args,[]⟩).memory :=
 laidMetH_of_parts3 (fuel:=8) (laidMet_of_run' 65 (by kernel_rfl) (by kernel_rfl)) (by kernel_rfl) (by kernel_rfl)
set_option maxRecDepth 100000 in
theorem lifted (os:Os) (started:os.Started) (H:Type) (enc:TypeId×Value→H):
  ReturnsInHanded {} Tryd.checked os 3 .any (fun w args=>(Rows.fnExactNewStoreSpec.pre enc Tryd.prog Tryd.f3 [] false w args∧laidMetH Tryd.prog Rows.fnExactNewStoreRow.laid w)∧sizedMet enc Tryd.prog Tryd.f3 (OpenSpec.ofChange Rows.fnExactNewStoreSpec) false w args) (Rows.fnExactNewStoreSpec.post enc Tryd.prog Tryd.f3 false true false false):=by
 refine wY (C:=Tryd.checked) (X:=fun w _=>laidMetH Tryd.prog Rows.fnExactNewStoreRow.laid w) (fun _ _ _ hh h=>h.of_heap hh) own started (by kernel_rfl) Tryd.func3
  (ChangeSpec.witness_shaped (enc:=enc) (C:=Tryd.checked) (os:=os) (X:=fun w _=>laidMetH Tryd.prog Rows.fnExactNewStoreRow.laid w) false (World.doorLaid Tryd.prog 400 os) #[.int .i64 0] 8 rfl (World.shaped_of_RefB (by kernel_rfl) (by kernel_rfl)) (by kernel_rfl) (by kernel_rfl) (by kernel_rfl) (zCk os _)) ?_
 intro W base args ds gs before hS hval0 hW hcnd hsz0 hL _
 have hval:∀(j:Nat) t v,Tryd.f3.params[j]? =some t→args[j]? =some v→Value.okWide Tryd.prog W .any base t v:=hval0
 have hW':=hW
 obtain ⟨p,q,hA0,hV,rfl,hfz,hnd⟩:=hW
 have hA:DataW.TrodAll enc Tryd.prog W 0 (fun _=>true) true Tryd.f3.params.toList args.toList ds p:=hA0
 rw [Tryd.params3] at hA hval
 obtain ⟨v0,vs0,d0,ds0,p0,q0,hargs,rfl,rfl,h0,r0⟩:=trodAll_cons hA
 obtain ⟨rfl,rfl,rfl⟩:=trodAll_nil r0
 obtain rfl:args= #[v0]:=by cases args; simp_all
 obtain ⟨rfl,rfl⟩:=trodVars_none hV
 have hlt0:∀x∈p0,x.block<W.heap.size:=fun x hx=>by simpa using hW'.lt x (by simp [hx])
 have s0:v0.cells= #[v0]:=by
  obtain ⟨a,rfl⟩:=okWide_int Tryd.underlying2 (hval 0 2 v0 rfl rfl)
  rfl
 obtain ⟨f0,g0⟩:=h0
 obtain ⟨x0,k0,e0⟩:=(zDw (k:=.i64) (P:=Tryd.prog) (t:=2) (by kernel_rfl):Reads enc Tryd.prog W 2 _ _) _ _ _ g0
 have hok:=zR.ok x0
 rw [vR x0 k0] at hok
 refine (zBs hok (vs:=[v0]) (fun β=>zB7 (zCB s0 (e0 β)) (zCj)) (tables hS hL)).mono fun e W' hs=>?_
 have he:=hs.1
 subst he
 exact ⟨_,rfl,_,_,_,[],_,[],hW',trodAll_mk1 (shut_bool Tryd.underlying4 _),trodAll_mk1 (zBa hs laidOut (by kernel_rfl) (of_decide_eq_true (by kernel_rfl)) ⟨f0,g0⟩ hlt0),rfl,zBo hs _,fun h=>by cases h⟩
end Go.Proofs.YtlagdfkkokgakaaDoor.fnExactNewStore

import Derived.Test.YtlagdfkkokgakaaGreatDoorImE
import Derived.Lib.LaidTab
import Derived.Lib.ItoaNum
import Derived.Sort.Grow
import Derived.Deep.Draws
import Derived.LaidSub
import Derived.Below
import Derived.Lib.Split
import Derived.Lib.Join
import Derived.Lib.Repeat
import Derived.Handed
import Derived.Shelf.Vars
import Derived.Lib.SplitLaws
import Derived.Lib.ConvBytes
import Derived.Sort.EncStr
import Derived.Laws.IdiomCopy
set_option linter.unusedVariables false
namespace Go.Im
open Go
theorem zLn {P:Program} {w:World} {name:String} {g:Nat} {k:IntKind} {zs:List Int} (hG:∀q∈zJ8 P,Tab w q.1 q.2) (hn:P.globalNamed name=some g) (hl:lk (zJ8 P) g=some (· =zs.map fun z=>Value.int k z)):Lib.TabIs P w name k zs:=by
 obtain ⟨ws,e,fz,h,rfl⟩:=hG _ (zB6 hl)
 unfold Lib.TabIs World.var?
 rw [hn]
 simp only [Option.bind_some]
 rw [h]
theorem zLS {P:Program} {f:FuncId} {vs:List Value} {v:Value} (h:∀w,(∀q∈zJ8 P,Tab w q.1 q.2)→Calls P f vs.toArray w fun e w'=>e= .returned v∧w'.os=w.os∧w'.output=w.output∧w.heap.size≤w'.heap.size∧∀b,b<w.heap.size→w'.heap[b]? =w.heap[b]?):Ok P f (vs.map D.sc) [] (some (.sc v,[])):=by
 intro out ho w N β us bs ha hh hnd hlt hN hG
 cases ho
 obtain ⟨rfl,_⟩:=zEt ha
 refine (h w (fun q hq=>(hG q hq).2)).mono ?_
 rintro e w' ⟨rfl,h1,h2,h3,h4⟩
 exact ⟨v,[],[],rfl,⟨h1,h2⟩,h3,fun b hb _=>h4 b hb,by simp,by simp,by simp [Rep],rfl⟩
theorem zM9 {P:Program} {f:FuncId} {vs:List Value} {v:Value} (h:∀w,(∀q∈zJ8 P,Tab w q.1 q.2)→Calls P f vs.toArray w fun e w'=>e= .returned v∧∃k os,w'=Sort.grow (w.drewN k) os):Ok P f (vs.map D.sc) [] (some (.sc v,[])):=by
 refine zLS fun w hG=>(h w hG).mono ?_
 rintro e w' ⟨rfl,k,os,rfl⟩
 refine ⟨rfl,rfl,rfl,?_,fun b hb=>?_⟩
 ·show w.heap.size≤(w.heap++os).size
  rw [Array.size_append]
  exact Nat.le_add_right _ _
 ·show (w.heap++os)[b]? =w.heap[b]?
  rw [Array.getElem?_append_left hb]
end Go.Im
set_option linter.unusedVariables false
namespace Go.Im
open Go
theorem zHu {P:Program} {w:World} {name:String} {g:Nat} {k:IntKind} {zs:List Int} (h:Lib.TabIs P w name k zs) (hn:P.globalNamed name=some g):g<w.heap.size∧Tab w g (· =zs.map fun z=>Value.int k z):=by
 unfold Lib.TabIs World.var? at h
 rw [hn] at h
 simp only [Option.bind_some] at h
 split at h
 ·rename_i cs e fz hh
  cases h
  exact ⟨(Array.getElem?_eq_some_iff.1 hh).1,_,e,fz,hh,rfl⟩
 ·cases h
theorem zDY {P:Program} {w:World} {l:List (String×DataW Unit)} {name:String} {g n:Nat} {t e:TypeId} {k:IntKind} {zs:List Int} (h:laidMet P l w) (hl:l.filter (fun x=>x.1==name)=[(name,Lib.tabData k zs)])
  (hg:P.globalNamed name=some g) (hty:(P.globals[g]?).map (·.type)=some t) (ht:P.underlying t=some (.array n e)) (he:P.underlying e=some (.int k)) (hce:P.cellsOf e=1) (hct:P.cellsOf t=n):g<w.heap.size∧Tab w g (· =zs.map fun z=>Value.int k z):=by
 have h2:=h.filter (fun x=>x.1==name)
 rw [hl] at h2
 exact zHu (Lib.tabIs_of_head hg hty ht he hce hct h2) hg
end Go.Im
set_option linter.unusedVariables false
namespace Go.Im
open Go
section
variable {Γ:Ctx} {fc:Code} {k:List II} {σ:St} {T:Type} {K:T→Option (D×List Ent)}
end
end Go.Im
set_option linter.unusedVariables false
namespace Go.Im
open Go
theorem zLN {P:Program} {f:FuncId} {vs:List Value} {v:Value} (h:∀w,Calls P f vs.toArray w fun e w'=>e= .returned v∧RowKit.Below w.heap.size w w'):Ok P f (vs.map D.sc) [] (some (.sc v,[])):=by
 refine zLS fun w _=>(h w).mono ?_
 rintro e w' ⟨rfl,hb⟩
 exact ⟨rfl,hb.os,hb.output,hb.size,hb.block⟩
theorem zLz {P:Program} {f:FuncId} {s sep:ByteArray} {xs:List ByteArray} {t:TypeId} (h:∀w,(∀q∈zJ8 P,Tab w q.1 q.2)→Calls P f #[.string s,.string sep] w fun e w'=>e= .returned (.slice (some ⟨w.heap.size,0,none⟩) xs.length xs.length)∧w'=w.alloc (.cells (xs.map Value.string).toArray t)):
  Ok P f [sv s,sv sep] [] (some (so 1 eStr xs,[])):=by
 intro o ho w N β us bs ha hh hnd hlt hN hG
 cases ho
 obtain ⟨rfl,_⟩:=zEt (vs:=[.string s,.string sep]) ha
 refine (h w (fun q hq=>(hG q hq).2)).mono ?_
 rintro e w' ⟨rfl,rfl⟩
 have hsz:(w.alloc (.cells (xs.map Value.string).toArray t)).heap.size =w.heap.size+1:=Array.size_push _
 have hnew:(w.alloc (.cells (xs.map Value.string).toArray t)).heap[w.heap.size]? =some (.cells (xs.map Value.string).toArray t):=by
  show (w.heap.push _)[w.heap.size]? =_
  rw [Array.getElem?_push,if_pos rfl]
 refine ⟨_,[w.heap.size],[],rfl,⟨rfl,rfl⟩,by rw [hsz]; exact Nat.le_succ _,fun b hb _=>?_,by simp,?_,?_,rfl⟩
 ·exact RowKit.Below.heap_alloc w _ b hb
 ·intro b hb
  simp only [List.append_nil,List.mem_singleton] at hb
  subst hb
  exact ⟨by rw [hsz]; exact Nat.lt_succ_self _,.inr (Nat.le_refl _)⟩
 ·unfold so
  simp only [Rep]
  refine ⟨by simp,by simp [eStr],_,_,rfl,Nat.le_refl _,.inr (.inr ⟨trivial,w.heap.size,0,xs.map Value.string,[],rfl,rfl,?_,?_⟩)⟩
  ·refine ⟨_,t,0,0,hnew,fun k _=>by omega,by simp,fun k hk=>by simp⟩
  ·exact zEA (enc:=Value.string) xs
theorem zKb {P:Program} {w:World} {g:Nat} (hG:∀q∈zJ8 P,Tab w q.1 q.2) (hl:lk (zJ8 P) g=some (fun ws=>∃m,ws=[.int .i64 m])):∃m,w.cell? ⟨g,0,none⟩=some (.int .i64 m):=by
 obtain ⟨ws,e,fz,h,m,rfl⟩:=hG _ (zB6 hl)
 exact ⟨m,by rw [cell_of h]; rfl⟩
end Go.Im
set_option linter.unusedVariables false
namespace Go.Im
open Go Go.Proofs
theorem zGB {P:Program} {w:World} {g:Nat} {t:TypeId} {zero:Array Value} (h:w.ShapedOpen P) (hg:g<P.globals.size)
  (h0:((begin P (fun _ _=>0) default).world.heap[g]?).bind Obj.row? =some (zero,t)) (hz:zero.size=1)
  (hb:P.buildable t=true) (hc:P.cellTypes P.depth t=some [t]) (hu:P.underlying t=some (.int .i64)):g<w.heap.size∧Tab w g (fun ws=>∃m,ws=[.int .i64 m]):=by
 obtain ⟨m,hm⟩:=cell_of_shapedOpen_int h hg h0 hz hb hc hu
 obtain ⟨cs,hh,hs,_⟩:=h.1 g zero t hg h0
 rw [cell_of hh] at hm
 refine ⟨(Array.getElem?_eq_some_iff.1 hh).1,cs.toList,t,_,by simpa using hh,m,?_⟩
 obtain ⟨l⟩:=cs
 match l,hs,hm with
 |[],hs,_=>simp at hs; omega
 |[v],_,hm=>simp at hm; rw [hm]
 |_::_::_,hs,_=>simp at hs; omega
section
variable {H:Type} {enc:TypeId×Value→H}
theorem zDw {a:Assume} {C:Checked} {os:Os} {f:FuncId} {fn:Func} {s:ChangeSpec} {conds:List PathCond} {apart fresh handsOn again:Bool} {X:World→Array Value→Prop}
  (hX:∀(w w':World) (args:Array Value),w.heap=w'.heap→X w args→X w' args) (own:ownKnob C.prog.godebug=none) (started:os.Started) (noInit:C.prog.inits.idxOf? f=none) (hfn:C.prog.funcs[f]? =some fn)
  (witness:∃(w:World) (tape:Tape) (i:Input),w.os=os∧(w.forCall tape i).Shaped C.prog∧i.vars=[]∧Input.okWide C.prog (w.forCall tape i) .any w.heap.size f i∧
   ((s.pre enc C.prog fn conds apart (w.forCall tape i).memory i.args∧X (w.forCall tape i).memory i.args)∧sizedMet enc C.prog fn (OpenSpec.ofChange s) apart (w.forCall tape i).memory i.args)∧a.holds C.prog (lone (Frame.enter C.prog f i.args .normal) [] (w.forCall tape i)))
  (contract:∀(W:World) (base:Nat) (args:Array Value) (ds gs:List (DataW H)) (before:List MemPlace),W.ShapedOpen C.prog→
   (∀(j:Nat) t v,fn.params[j]? =some t→args[j]? =some v→Value.okWide C.prog W .any base t v)→DataW.Whole enc C.prog fn.params.toList s.vars apart W args.toList ds gs before→
   conds.all (PathCond.test C.prog ⟨fn.params.toList,ds,s.plain.varTypes C.prog,gs⟩)=true→(DataW.weightsEach C.prog (fn.params.toList++s.plain.varTypes C.prog) (ds++gs)).all (· ≤reachBytes)=true→X W args→
   a.holds C.prog (lone (Frame.enter C.prog f args .normal) [] W)→Calls C.prog f args W fun e W'=>∃v,e= .returned v∧s.post enc C.prog fn apart fresh handsOn again W args v W'):
  ReturnsInHanded a C os f .any (fun w args=>(s.pre enc C.prog fn conds apart w args∧X w args)∧sizedMet enc C.prog fn (OpenSpec.ofChange s) apart w args) (s.post enc C.prog fn apart fresh handsOn again):=by
 refine returnsInHanded_of_calls own started noInit witness fun w tape i _ hsh _ hok hpre hholds=>?_
 obtain ⟨_,_,_,fn',hfn',_,_,_,_,hval⟩:=hok
 obtain rfl:fn'=fn:=Option.some.inj (hfn'.symm.trans hfn)
 obtain ⟨⟨⟨ds,gs,before,hw,hc⟩,hx⟩,hz⟩:=hpre
 refine (contract (w.forCall tape i) w.heap.size i.args ds gs before hsh hval (DataW.Whole.of_heap (w':=w.forCall tape i) (by rfl) hw) hc (hz.weights hw) (hX _ _ _ (by rfl) hx) hholds).mono fun e W' ⟨v,he,hp⟩=>?_
 subst he
 exact ChangeSpec.post_blind hp
end
end Go.Im
set_option linter.unusedVariables false
namespace Go.Im
open Go
section
variable {Γ:Ctx} {ops:Array Oper} {o:Oper}
end
end Go.Im
set_option linter.unusedVariables false
namespace Go.Im
open Go
def D.zNh:D→Bool
 | .sc _=>true
 |_=>false
section
variable {β:Nat→Loc} {N:Nat→Prop} {w:World}
theorem zGu:∀{cs:List D} {ws:List Value} {bs:List Nat},cs.all D.zNh=true→zG β N w true cs ws bs→zG β N w false cs ws bs∧bs=[]
 |[],ws,bs,_,h=>by simp only [zG] at h ⊢; exact ⟨h,h.2⟩
 |d::cs,ws,bs,hc,h=>by
  simp only [List.all_cons,Bool.and_eq_true] at hc
  simp only [zG] at h ⊢
  obtain ⟨v,vs,b1,b2,rfl,rfl,h3,h4⟩:=h
  obtain ⟨h5,rfl⟩:=zGu hc.2 h4
  cases d with
  |sc u=>
   simp only [Rep] at h3 ⊢
   obtain ⟨rfl,rfl⟩:=h3
   exact ⟨⟨_,vs,[],[],rfl,rfl,⟨rfl,rfl⟩,h5⟩,rfl⟩
  |_=>simp [D.zNh] at hc
theorem zJb:∀{xs:List (List D)} {ws:List Value} {bs:List Nat},(∀x∈xs,x.all D.zNh=true)→zG β N w true xs.flatten ws bs→zT β N w xs ws []∧bs=[]
 |[],ws,bs,_,h=>by simp only [List.flatten_nil,zG] at h; simp only [zT]; exact ⟨⟨h.1,trivial⟩,h.2⟩
 |x::xs,ws,bs,hx,h=>by
  rw [List.flatten_cons] at h
  obtain ⟨b1,b2,rfl,h1,h2⟩:=zG.split x.length h
  rw [List.take_left] at h1
  rw [List.drop_left] at h2
  obtain ⟨h3,rfl⟩:=zGu (hx x (by simp)) h1
  obtain ⟨h4,rfl⟩:=zJb (fun y hy=>hx y (by simp [hy])) h2
  simp only [zT]
  exact ⟨⟨ws.take x.length,ws.drop x.length,[],[],(List.take_append_drop _ _).symm,rfl,h3,h4⟩,rfl⟩
end
def zNQ (t:Nat):D→Bool
 | .pt _ 0 _=>true
 |d=> !(d.men.contains t)
section
variable {Γ:Ctx} {fc:Code} {k:List II} {σ:St} {T:Type} {K:T→Option (D×List Ent)}
theorem zLt {β:Nat→Loc} {N:Nat→Prop} {w:World} {t z:Nat} {d:D} {v:Value} (ho:zNQ t d=true) (h:Rep β N w true d v []):Rep (zDX β t {(β t) with z:=z}) N w true d v []:=by
 have key:t∉d.men→Rep (zDX β t {(β t) with z:=z}) N w true d v []:=fun hm=>
  Rep.frame (fun b hb=>⟨hb,rfl⟩) d true v [] (by simp) (fun k hk=>zBU (fun e=>hm (e▸hk))) h
 unfold zNQ at ho
 split at ho
 ·rename_i t' j
  simp only [Rep] at h ⊢
  by_cases e:t'=t
  ·subst e
   rw [xI]
   simpa using h
  ·rw [zBU e]; exact h
 ·exact key (by simpa using ho)
theorem zLx {e:Option T} (t:Nat) {z:Nat} {cs:List D} {xs:List (List D)} {tm:List (Nat×D)} {hp:List (Nat×Ent)} (hxs:xs.flatten=cs) (hz:xs.all (fun x=>x.length==z&&x.all D.zNh)=true) (htm:tm.all (fun x=>zNQ t x.2)=true)
  (hhp:(zEF hp).contains t=false) (hm:Nat.ble Γ.m t=true) (hj:J Γ fc k (St.mk' tm ((t,.row z xs)::hp)) e K):J Γ fc k (St.mk' tm ((t,.box cs)::hp)) e K:=by
 subst hxs
 refine zFh (fun a w hr=>?_) hj
 obtain ⟨h0,β,bs,h⟩:=hr
 obtain ⟨b1,b2,rfl,⟨hnil,_,ws,hO,_,hcr⟩,hrest⟩:=h.hp
 have hall:∀x∈xs,x.length=z∧x.all D.zNh=true:=fun x hx=>by
  have:=List.all_eq_true.1 hz x hx
  simpa using this
 obtain ⟨hE,rfl⟩:=zJb (fun x hx=>(hall x hx).2) hcr
 have htn:t∉zEF hp:=by simpa using hhp
 have hown:(zDX β t {(β t) with z:=z} t).own =(β t).own :=by rw [xI]; rfl
 refine ⟨?_,zDX β t {(β t) with z:=z},(β t).own ++([]++b2),{defers:=h.defers,size:=h.size,keys:=h.keys,par:=fun k hk=>?_,grow:=h.grow,gh:=h.gh,quiet:=h.quiet,keep:=h.keep,hp:=?_,nodup:=h.nodup,own:=h.own,tm:=?_}⟩
 ·intro q hq
  simp only [St.mk',List.mem_append]
  exact hq
 ·have:=Nat.le_of_ble_eq_true hm
  rw [zBU (by omega)]
  exact h.par k hk
 ·refine ⟨[],b2,by rw [hown],⟨by rw [xI],fun x hx=>(hall x hx).1,.inr ⟨by rw [xI]; exact hnil,ws,?_,?_⟩⟩,?_⟩
  ·rw [xI]; exact hO
  ·exact zT.frame (fun b hb=>⟨hb,rfl⟩) xs ws [] (by simp) hE
  ·refine vJ.frame (fun b hb=>⟨hb,rfl⟩) _ _ (fun _ _=>rfl) (fun q hq=>zBU (fun e=>htn (e▸hq))) hrest
 ·intro q d hd
  obtain ⟨v,h1,h2⟩:=h.tm q d hd
  exact ⟨v,h1,zLt (List.all_eq_true.1 htm _ hd) h2⟩
end
section
variable {Γ:Ctx} {ops:Array Oper} {o:Oper}
theorem zIt {c:Cert} {x y:Operand} {T el:TypeId} {k:IntKind} {z n t j:Nat} {i:Int} {xs:List (List D)} (hg:o.guard=none) (hop:o.op= .indexAddr T x y)
  (hc:c= {tn:=c.tn,hn:=c.hn,out:=some (.pt t j 0)}) (hx:OpF c x (.pt t 0 0)) (hy:OpF c y (.sc (.int k i))) (hT:zY Γ.P (underlying T)=some (.array n el)) (hz:zDB Γ.P el=some z)
  (hi:0≤i) (hj:i<n) (hjj:i.toNat=j) (hh:(t,.row z xs)∈c.hn):Valid Γ ops o c:=by
 refine uY (d:=.pt t j 0) (f:=fun ρ=>Instr.indexAt T (ρ x) (ρ y)) hg (fun ρ=>by simp [execOp,hop]) (by rw [hc]) fun β bs σ a w hn hr=>?_
 have h1:=OpF.rep hx hn hr
 have h2:=OpF.rep hy hn hr
 obtain ⟨_,⟨hLz,_⟩,_⟩:=vJ.get hr.hp (hn.2.1 _ hh)
 simp only [Rep] at h1 h2
 obtain ⟨_,_,hnil,hv⟩:=h1
 refine ⟨.pointer (some ⟨(β t).b,(β t).o +j*(β t).z +0,none⟩),?_,by simp only [Rep]; exact ⟨trivial,trivial,hnil,trivial⟩⟩
 rw [h2.1,hv]
 unfold Instr.indexAt
 rw [run_bind_ok (a:=(k,i)) (w':=w) rfl]
 simp only
 rw [run_bind_ok (zK _ _ w hT)]
 simp only
 rw [run_bind_ok (a:=(⟨(β t).b,(β t).o +0*(β t).z +0,none⟩:Addr)) (w':=w) rfl]
 rw [run_bind_ok (a:=(some (⟨(β t).b,(β t).o +0*(β t).z +0,none⟩:Addr),n,el)) (w':=w) rfl]
 rw [run_bind_ok (zK _ _ w hT)]
 simp only
 rw [if_pos ⟨hi,hj⟩]
 rw [run_bind_ok (zK _ _ w hz)]
 rw [zCu,hLz,←hjj]
 simp
def zLe {α:Type} (xs:List α) (n:Nat) (i:Int):Option α:=if xs.length=n then idx xs i else none
theorem zEu {α:Type} {xs:List α} {n:Nat} {i:Int} {a:α} (h:zLe xs n i=some a):idx xs i=some a:=by
 unfold zLe at h
 split at h
 ·exact h
 ·cases h
theorem zKW {α:Type} {xs:List α} {i:Int} {a:α} {kk:IntKind} (T el z t:Nat) (enc:α→List D) (x y:Operand) (n:Nat) (h:zLe xs n i=some a) (hx:OkO x (.pt t 0 0):=by trivial) (hy:OkO y (.sc (.int kk i)):=by first|trivial|rfl)
  (hT:(zY Γ.P (underlying T),zDB Γ.P el)=(some (.array n el),some z):=by kernel_rfl):
  OpV Γ (.indexAddr T x y) {tn:=tnO x (.pt t 0 0)++tnO y (.sc (.int kk i)),hn:=[(t,rE z enc xs)],out:=some (.pt t i.toNat 0)}:=by
 simp only [Prod.mk.injEq] at hT
 unfold zLe at h
 split at h
 ·rename_i hl
  obtain ⟨h1,h2⟩:=zEd h
  have:=(List.getElem?_eq_some_iff.1 h2).1
  intro ops o hop hg
  exact zIt hg hop rfl (hx.f (fun y hy=>List.mem_append_left _ hy)) (hy.f (fun y hy=>List.mem_append_right _ hy)) hT.1 hT.2 h1 (by omega) rfl (.head _)
 ·cases h
theorem zLy (T:TypeId) (vs:List Value) (hz:zY Γ.P (Instr.build T #[])=some (.agg vs.toArray):=by kernel_rfl) (h1:vs.all Value.oneCell=true:=by kernel_rfl):OpV Γ (.build T #[]) {out:=some (.ag (vs.map D.sc))}:=by
 intro ops o hop hg
 refine uY (d:=.ag (vs.map D.sc)) (f:=fun ρ=>Instr.build T #[]) hg (fun ρ=>by simp [execOp,hop]) rfl fun β bs σ a w hn hr=>?_
 refine ⟨_,zK _ _ w hz,?_⟩
 simp only [Rep]
 exact ⟨trivial,vs,rfl,fun x hx=>List.all_eq_true.1 h1 x hx,zDq vs⟩
end
end Go.Im
set_option linter.unusedVariables false
namespace Go.Im
open Go
section
variable {Γ:Ctx} {ops:Array Oper} {o:Oper}
end
end Go.Im
set_option linter.unusedVariables false
namespace Go.Im
open Go
def zOo (n:Nat):List Nat→Bool
 |[]=>false
 |m::ms=>Nat.beq n m||zOo n ms
def dl {α:Type} (del:List Nat) (add:List (Nat×α)):List (Nat×α)→List (Nat×α)
 |[]=>add
 |x::l=>match zOo x.1 del with
  |true=>dl del add l
  |false=>x::dl del add l
section
variable {Γ:Ctx} {fc:Code} {k:List II} {σ:St} {T:Type} {K:T→Option (D×List Ent)}
theorem J_d {e:Option T} (p:Nat) (ids:List (Nat×Nat)) (x:List Nat) (y:List (Nat×D)) (x':List Nat) (y':List (Nat×Ent)) {orc:List (Nat×Cert)} (hor:zFM Γ fc p orc) (hj:J Γ fc (aft fc p) (St.mk' (dl x y σ.tm) (dl x' y' σ.hp)) e K)
  (h:(zNO fc σ.tm p k&&Γ.P.follows .mixedOrders,(chk Γ.P Γ.nt Γ.m fc p orc ids σ (dl x y σ.tm) (dl x' y' σ.hp)).1,(chk Γ.P Γ.nt Γ.m fc p orc ids σ (dl x y σ.tm) (dl x' y' σ.hp)).2.2.1,(chk Γ.P Γ.nt Γ.m fc p orc ids σ (dl x y σ.tm) (dl x' y' σ.hp)).2.2.2.2)=
   (true,(chk Γ.P Γ.nt Γ.m fc p orc ids σ (dl x y σ.tm) (dl x' y' σ.hp)).2.1,(chk Γ.P Γ.nt Γ.m fc p orc ids σ (dl x y σ.tm) (dl x' y' σ.hp)).2.2.2.1,true):=by kernel_rfl):J Γ fc k σ e K:=
 J_g p ids _ _ hor hj h
end
end Go.Im
set_option linter.unusedVariables false
namespace Go.Im
open Go
mutual
inductive Wk:D→D→Prop where
 |same {d:D}:Wk d d
 |ln {z n:Nat} {xs:List (List D)}:Wk (.s false z n xs) (.ln n)
 |tu {cs cs':List D}:WkL cs cs'→Wk (.tu cs) (.tu cs')
 |ag {cs cs':List D}:WkL cs cs'→Wk (.ag cs) (.ag cs')
inductive WkL:List D→List D→Prop where
 |nil:WkL [] []
 |cons {d d':D} {ds ds':List D}:Wk d d'→WkL ds ds'→WkL (d::ds) (d'::ds')
end
section
variable {β:Nat→Loc} {N:Nat→Prop} {w:World}
mutual
theorem Wk.rep:∀{d d':D} {v:Value} {bs:List Nat},Wk d d'→Rep β N w true d v bs→Rep β N w true d' v bs
 |_,_,_,_,.same,h=>h
 |_,_,v,bs,.ln (z:=z) (n:=n) (xs:=xs),h=>by
  have e:=Rep.free (d:=.s false z n xs) rfl h
  subst e
  simp only [Rep] at h ⊢
  obtain ⟨_,_,a,cap,h1,h2,_⟩:=h
  exact ⟨trivial,a,cap,h1,h2⟩
 |_,_,v,bs,.tu hl,h=>by
  simp only [Rep] at h ⊢
  obtain ⟨h1,ws,h2,h3⟩:=h
  exact ⟨trivial,ws,h2,WkL.rep hl h3⟩
 |_,_,v,bs,.ag hl,h=>by
  simp only [Rep] at h ⊢
  obtain ⟨h1,ws,h2,h4,h3⟩:=h
  exact ⟨trivial,ws,h2,h4,WkL.rep hl h3⟩
theorem WkL.rep:∀{ds ds':List D} {vs:List Value} {bs:List Nat},WkL ds ds'→zG β N w true ds vs bs→zG β N w true ds' vs bs
 |_,_,_,_,.nil,h=>h
 |_,_,vs,bs,.cons h1 h2,h=>by
  simp only [zG] at h ⊢
  obtain ⟨v,vs',b1,b2,h3,h4,h5,h6⟩:=h
  exact ⟨v,vs',b1,b2,h3,h4,Wk.rep h1 h5,WkL.rep h2 h6⟩
end
end
section
variable {Γ:Ctx} {ops:Array Oper} {o:Oper}
end
end Go.Im
set_option linter.unusedVariables false
namespace Go.Im
open Go
section
variable {Γ:Ctx} {ops:Array Oper} {o:Oper}
end
end Go.Im
set_option linter.unusedVariables false
namespace Go.Im
open Go
theorem zL6 {P:Program} {f:FuncId} {xs:List ByteArray}
  (h:∀(blk off cap:Nat) (w:World),Sort.Holds Go.Proofs.encStr w blk off (xs.map (·.data.toList)).toArray →blk<w.heap.size→Calls P f #[.slice (some ⟨blk,off,none⟩) xs.length cap] w fun e w'=>e= .returned (.tuple #[])∧∃n os,w'=Sort.grow (Sort.putRow Go.Proofs.encStr (Sort.ahead w n) blk off ((xs.map (·.data.toList)).mergeSort fun x y=>decide (x≤y)).toArray) os)
  (h0:∀(p:Option Addr) (cap:Nat) (w:World),Calls P f #[.slice p 0 cap] w fun e w'=>e= .returned (.tuple #[])∧w'=w):
  Ok P f [.rf 0 0 xs.length none] [.row 1 (xs.map eStr)] (some (.tu [],[.row 1 ((((xs.map (·.data.toList)).mergeSort fun x y=>decide (x≤y)).map fun l=>(⟨l.toArray⟩:ByteArray)).map eStr)])):=by
 have k:=zK1 (P:=P) (f:=f) (enc:=Go.Proofs.encStr) (xs:=xs.map (·.data.toList)) (ys:=(xs.map (·.data.toList)).mergeSort fun x y=>decide (x≤y)) (by simp [List.length_mergeSort])
  (fun blk off cap w hH hb=>by rw [List.length_map]; exact h blk off cap w hH hb) (fun _ p cap w=>h0 p cap w)
 have e1:(xs.map (·.data.toList)).map (fun a=>[D.sc (Go.Proofs.encStr a)])=xs.map eStr:=by
  rw [List.map_map]
  apply List.map_congr_left
  intro a _
  simp [eStr,Go.Proofs.encStr]
 have e2:∀l:List (List UInt8),l.map (fun a=>[D.sc (Go.Proofs.encStr a)])=(l.map fun l=>(⟨l.toArray⟩:ByteArray)).map eStr:=fun l=>by
  rw [List.map_map]
  apply List.map_congr_left
  intro a _
  simp [eStr,Go.Proofs.encStr]
 rw [e1,e2,List.length_map] at k
 exact k
end Go.Im
set_option linter.unusedVariables false
namespace Go.Im
open Go
end Go.Im
set_option linter.unusedVariables false
namespace Go.Im
open Go
theorem zNz.world {w w1 w2:World} {z n m:Nat} {wx wy:List Value} {blk:List Nat} {r:Value} (h:zNz w w1 z n m wx wy blk r) (hn:0<n+m) (hh:w2.heap=w1.heap) (hq:w2.os=w1.os∧w2.output=w1.output):zNz w w2 z n m wx wy blk r:=by
 obtain ⟨h1,h2⟩:=h
 refine ⟨⟨hq.1.trans h1.1,hq.2.trans h1.2⟩,?_⟩
 rcases h2 with ⟨h2,_⟩|⟨b,off,c,h3,h4,h5,h6,h7⟩
 ·omega
 ·exact .inr ⟨b,off,c,h3,h4,h5.frame (by rw [hh]),by rw [hh]; exact h6,by rw [hh]; exact h7⟩
end Go.Im
set_option linter.unusedVariables false
namespace Go.Im
open Go
section
variable {Γ:Ctx} {ops:Array Oper} {o:Oper}
end
end Go.Im
set_option linter.unusedVariables false
namespace Go.Im
open Go
theorem FzT.all {t z:Nat} {xs:List (List D)}:∀{l:List (Nat×D)},(∀x∈l,x.2.men.contains t=false)→FzT t z xs l l
 |[],_=>.nil
 |(q,d)::l,h=>.cons (.keep (h (q,d) (by simp))) (FzT.all fun x hx=>h x (by simp [hx]))
theorem FzH.all {t z:Nat} {xs:List (List D)}:∀{l:List (Nat×Ent)},(∀x∈l,x.2.men.contains t=false)→FzH t z xs l l
 |[],_=>.nil
 |(q,e)::l,h=>.keep (h (q,e) (by simp)) (FzH.all fun x hx=>h x (by simp [hx]))
end Go.Im

import Derived.Test.YtdeihchdibglaaaGreatDoorImE
import Derived.LaidSub
import Derived.Below
import Derived.Lib.Split
import Derived.Lib.Join
import Derived.Lib.Repeat
import Derived.Handed
import Derived.Shelf.Vars
import Derived.Lib.SplitLaws
import Derived.Lib.ConvBytes
import Derived.Sort.EncStr
import Derived.Laws.IdiomCopy
set_option linter.unusedVariables false
namespace Go.Im
open Go
theorem zLH {P:Program} {w:World} {name:String} {g:Nat} {k:IntKind} {zs:List Int} (h:Lib.TabIs P w name k zs) (hn:P.globalNamed name=some g):g<w.heap.size∧Tab w g (· =zs.map fun z=>Value.int k z):=by
 unfold Lib.TabIs World.var? at h
 rw [hn] at h
 simp only [qA] at h
 split at h
 ·rename_i cs e fz hh
  cases h
  exact ⟨(Array.getElem?_eq_some_iff.1 hh).1,_,e,fz,hh,rfl⟩
 ·cases h
theorem zGY {P:Program} {w:World} {l:List (String×DataW Unit)} {name:String} {g n:Nat} {t e:TypeId} {k:IntKind} {zs:List Int} (h:laidMet P l w) (hl:l.filter (fun x=>x.1==name)=[(name,Lib.tabData k zs)])
  (hg:P.globalNamed name=some g) (hty:(P.globals[g]?).map (·.type)=some t) (ht:P.underlying t=some (.array n e)) (he:P.underlying e=some (.int k)) (hce:P.cellsOf e=1) (hct:P.cellsOf t=n):g<w.heap.size∧Tab w g (· =zs.map fun z=>Value.int k z):=by
 have h2:=h.filter (fun x=>x.1==name)
 rw [hl] at h2
 exact zLH (Lib.tabIs_of_head hg hty ht he hce hct h2) hg
end Go.Im
namespace Go.Im
open Go
section
variable {Γ:Ctx} {fc:Code} {k:List II} {σ:St} {T:Type} {K:T→Option (D×List Ent)}
theorem zFB {e:Option T} (t:Nat) {z:Nat} {xs xs':List (List D)} {tm:List (Nat×D)} {hp:List (Nat×Ent)} (hx:D.ro.roE xs=xs')
  (hj:J Γ fc k (St.mk' tm ((t,.row z xs')::hp)) e K):J Γ fc k (St.mk' tm ((t,.row z xs)::hp)) e K:=by
 subst hx
 refine zGJ (fun a w hr=>?_) hj
 obtain ⟨h0,β,bs,h⟩:=hr
 obtain ⟨b1,bk,rfl,hE,hrest⟩:=h.hp
 obtain ⟨hz,hzz,hrow⟩:=hE
 have hp:((β t).own ++(b1++bk)).Perm (b1++((β t).own ++bk)):=by
  rw [←List.append_assoc,←List.append_assoc]
  exact List.Perm.append_right _ List.perm_append_comm
 have hnd:=hp.nodup_iff.1 h.nodup
 have hsub:∀b∈(β t).own ++([]++bk),b∈(β t).own ++(b1++bk):=fun b hb=>by
  simp only [List.nil_append,qJ] at hb ⊢
  rcases hb with hb|hb
  ·exact .inl hb
  ·exact .inr (.inr hb)
 have hN:∀b,NS Γ w ((β t).own ++(b1++bk)) b→NS Γ w ((β t).own ++([]++bk)) b:=fun b hb=>NS.sub hsub hb
 have hb:∀b∈b1,NS Γ w ((β t).own ++([]++bk)) b:=fun b hb=>by
  have:=h.own b (hp.mem_iff.2 (List.mem_append_left _ hb))
  refine ⟨?_,this.1,fun hbk=>(List.nodup_append.1 hnd).2.2 b hb b hbk rfl⟩
  rcases this.2 with h1|h1
  ·exact .inr (.inl h1)
  ·exact .inr (.inr h1)
 refine ⟨h0,β,(β t).own ++([]++bk),{defers:=h.defers,size:=h.size,keys:=h.keys,par:=h.par,grow:=h.grow,gh:=h.gh,quiet:=h.quiet,keep:=h.keep,hp:=?_,nodup:=?_,own:=fun b hb=>h.own b (hsub b hb),tm:=?_}⟩
 ·refine ⟨[],bk,rfl,⟨hz,fun x hx=>?_,?_⟩,?_⟩
  ·obtain ⟨e',he',rfl⟩:=zFV hx
   rw [zDp]; exact hzz e' he'
  ·rcases hrow with ⟨h1,h2,h3⟩|⟨h1,ws,h2,h3⟩
   ·subst h2; exact .inl ⟨h1,rfl,rfl⟩
   ·exact .inr ⟨h1,ws,h2,zZ.ro hN xs ws b1 hb h3⟩
  ·exact vS.frame (fun b hb=>⟨hN b hb,rfl⟩) _ _ (fun _ _=>rfl) (fun _ _=>rfl) hrest
 ·exact (List.nodup_append.1 hnd).2.1
 ·exact zOX.frame (fun b hb=>⟨hN b hb,rfl⟩) (fun _ _=>rfl) h.tm
end
end Go.Im
namespace Go.Im
open Go
theorem zKs {β:Nat→Loc} {N:Nat→Prop} {w:World}:∀{xs:List ByteArray} {ws:List Value} {bs:List Nat},zZ β N w (xs.map eStr) ws bs→ws=xs.map Value.string∧bs=[]
 |[],ws,bs,h=>by simpa [zZ] using h
 |x::xs,ws,bs,h=>by
  simp only [List.map_cons,zZ,eStr,zK,Rep] at h
  obtain ⟨w1,w2,b1,b2,rfl,rfl,⟨v,vs,c1,c2,rfl,rfl,⟨rfl,rfl⟩,rfl,rfl⟩,h2⟩:=h
  obtain ⟨rfl,rfl⟩:=zKs h2
  exact ⟨rfl,rfl⟩
theorem zQC {P:Program} {f:FuncId} {xs:List ByteArray} {sep out:ByteArray} (h0:xs=[]→out=⟨#[]⟩∧∀a c w,Calls P f #[.slice a 0 c,.string sep] w fun e w'=>e= .returned (.string ⟨#[]⟩)∧w'=w)
  (h:∀bk o c w,(∀(j:Nat) x,xs[j]? =some x→w.cell? ⟨bk,o+j,none⟩=some (.string x))→bk<w.heap.size→xs.length≤c→Calls P f #[.slice (some ⟨bk,o,none⟩) xs.length c,.string sep] w fun e w'=>e= .returned (.string out)∧RowKit.Below w.heap.size w w'):
  Ok P f [sl 1 eStr xs,sv sep] [] (some (sv out,[])):=by
 intro o ho w N β us bs ha hh hnd hlt hN _
 cases ho
 unfold sl sv at ha
 simp only [zK] at ha
 obtain ⟨v,vs,b1,b2,rfl,hb,hv,u,us,b3,b4,rfl,hb2,hu,rfl,rfl⟩:=ha
 obtain ⟨rfl,rfl⟩:=List.append_eq_nil_iff.1 hb.symm
 simp only [Rep] at hu hv
 obtain ⟨rfl,rfl⟩:=hu
 obtain ⟨_,_,a,cap,rfl,hcap,hv⟩:=hv
 have fin:∀(w':World),w'.os=w.os→w'.output=w.output→w.heap.size≤w'.heap.size→(∀b,b<w.heap.size→w'.heap[b]? =w.heap[b]?)→Post ⟨P,f,w,N,bs,0,β,0⟩ (sv out) [] (.returned (.string out)) w':=by
  intro w' h1 h2 h3 h4
  exact ⟨_,[],[],rfl,⟨h1,h2⟩,h3,fun b hb _=>h4 b hb,by simp,by simp,by simp [sv,Rep],rfl⟩
 rcases hv with ⟨hn,_,_⟩|⟨_,b,off,ws,rfl,hNb,hH,hE,_⟩|⟨h1,_⟩
 ·have hx:xs=[]:=List.eq_nil_of_length_eq_zero hn
  obtain ⟨ho,h1⟩:=h0 hx
  subst hx
  refine (h1 a cap w).mono ?_
  rintro e w' ⟨rfl,rfl⟩
  rw [←ho]
  exact fin _ rfl rfl (Nat.le_refl _) (fun _ _=>rfl)
 ·obtain ⟨rfl,_⟩:=zKs hE
  refine (h b off cap w (fun j x hx=>?_) (hN b hNb).1 hcap).mono ?_
  ·have hj:j<xs.length:=(List.getElem?_eq_some_iff.1 hx).1
   have:=hH.cell j (by simpa using hj)
   rw [this]
   simp only [List.getElem_map]
   rw [(List.getElem?_eq_some_iff.1 hx).2]
  ·rintro e w' ⟨rfl,hb⟩
   exact fin _ hb.os hb.output hb.size hb.block
 ·cases h1
theorem zPS {P:Program} {f:FuncId} {s sep:ByteArray} {xs:List ByteArray} {t:TypeId} (h:∀w,(∀q∈zNs P,Tab w q.1 q.2)→Calls P f #[.string s,.string sep] w fun e w'=>e= .returned (.slice (some ⟨w.heap.size,0,none⟩) xs.length xs.length)∧w'=w.alloc (.cells (xs.map Value.string).toArray t)):
  Ok P f [sv s,sv sep] [] (some (so 1 eStr xs,[])):=by
 intro o ho w N β us bs ha hh hnd hlt hN hG
 cases ho
 obtain ⟨rfl,_⟩:=zHi (vs:=[.string s,.string sep]) ha
 refine (h w (fun q hq=>(hG q hq).2)).mono ?_
 rintro e w' ⟨rfl,rfl⟩
 have hsz:(w.alloc (.cells (xs.map Value.string).toArray t)).heap.size =w.heap.size+1:=Array.size_push _
 have hnew:(w.alloc (.cells (xs.map Value.string).toArray t)).heap[w.heap.size]? =some (.cells (xs.map Value.string).toArray t):=by
  show (w.heap.push _)[w.heap.size]? =_
  rw [Array.getElem?_push,if_pos rfl]
 refine ⟨_,[w.heap.size],[],rfl,⟨rfl,rfl⟩,by rw [hsz]; exact Nat.le_succ _,fun b hb _=>?_,by simp,?_,?_,rfl⟩
 ·exact RowKit.Below.heap_alloc w _ b hb
 ·intro b hb
  simp only [List.append_nil,qI] at hb
  subst hb
  exact ⟨by rw [hsz]; exact Nat.lt_succ_self _,.inr (Nat.le_refl _)⟩
 ·unfold so
  simp only [Rep]
  refine ⟨by simp,by simp [eStr],_,_,rfl,Nat.le_refl _,.inr (.inr ⟨trivial,w.heap.size,0,xs.map Value.string,[],rfl,rfl,?_,?_⟩)⟩
  ·refine ⟨_,t,0,0,hnew,fun k _=>by omega,by simp,fun k hk=>by simp⟩
  ·exact zKa (enc:=Value.string) xs
theorem zOT {P:Program} {w:World} {g:Nat} (hG:∀q∈zNs P,Tab w q.1 q.2) (hl:lk (zNs P) g=some (fun ws=>∃m,ws=[.int .i64 m])):∃m,w.cell? ⟨g,0,none⟩=some (.int .i64 m):=by
 obtain ⟨ws,e,fz,h,m,rfl⟩:=hG _ (zAT hl)
 exact ⟨m,by rw [cell_of h]; rfl⟩
end Go.Im
namespace Go.Im
open Go Go.Proofs
theorem zK6 {P:Program} {w:World} {g:Nat} {t:TypeId} {zero:Array Value} (h:w.ShapedOpen P) (hg:g<P.globals.size)
  (h0:((begin P (fun _ _=>0) default).world.heap[g]?).bind Obj.row? =some (zero,t)) (hz:zero.size=1)
  (hb:P.buildable t=true) (hc:P.cellTypes P.depth t=some [t]) (hu:P.underlying t=some (.int .i64)):g<w.heap.size∧Tab w g (fun ws=>∃m,ws=[.int .i64 m]):=by
 obtain ⟨m,hm⟩:=cell_of_shapedOpen_int h hg h0 hz hb hc hu
 obtain ⟨cs,hh,hs,_⟩:=h.1 g zero t hg h0
 rw [cell_of hh] at hm
 refine ⟨(Array.getElem?_eq_some_iff.1 hh).1,cs.toList,t,_,by simpa using hh,m,?_⟩
 obtain ⟨l⟩:=cs
 match l,hs,hm with
 |[],hs,_=>simp at hs; omega
 |[v],_,hm=>simp at hm; rw [hm]
 |_::_::_,hs,_=>simp at hs; omega
section
variable {H:Type} {enc:TypeId×Value→H}
theorem zGc {a:Assume} {C:Checked} {os:Os} {f:FuncId} {fn:Func} {s:ChangeSpec} {conds:List PathCond} {apart fresh handsOn again:Bool} {X:World→Array Value→Prop}
  (hX:∀(w w':World) (args:Array Value),w.heap=w'.heap→X w args→X w' args) (own:ownKnob C.prog.godebug=none) (started:os.Started) (noInit:C.prog.inits.idxOf? f=none) (hfn:C.prog.funcs[f]? =some fn)
  (witness:∃(w:World) (tape:Tape) (i:Input),w.os=os∧(w.forCall tape i).Shaped C.prog∧i.vars=[]∧Input.okWide C.prog (w.forCall tape i) .any w.heap.size f i∧
   ((s.pre enc C.prog fn conds apart (w.forCall tape i).memory i.args∧X (w.forCall tape i).memory i.args)∧sizedMet enc C.prog fn (OpenSpec.ofChange s) apart (w.forCall tape i).memory i.args)∧a.holds C.prog (lone (Frame.enter C.prog f i.args .normal) [] (w.forCall tape i)))
  (contract:∀(W:World) (base:Nat) (args:Array Value) (ds gs:List (DataW H)) (before:List MemPlace),W.ShapedOpen C.prog→
   (∀(j:Nat) t v,fn.params[j]? =some t→args[j]? =some v→Value.okWide C.prog W .any base t v)→DataW.Whole enc C.prog fn.params.toList s.vars apart W args.toList ds gs before→
   conds.all (PathCond.test C.prog ⟨fn.params.toList,ds,s.plain.varTypes C.prog,gs⟩)=true→(DataW.weightsEach C.prog (fn.params.toList++s.plain.varTypes C.prog) (ds++gs)).all (· ≤reachBytes)=true→X W args→
   a.holds C.prog (lone (Frame.enter C.prog f args .normal) [] W)→Calls C.prog f args W fun e W'=>∃v,e= .returned v∧s.post enc C.prog fn apart fresh handsOn again W args v W'):
  ReturnsInHanded a C os f .any (fun w args=>(s.pre enc C.prog fn conds apart w args∧X w args)∧sizedMet enc C.prog fn (OpenSpec.ofChange s) apart w args) (s.post enc C.prog fn apart fresh handsOn again):=by
 refine returnsInHanded_of_calls own started noInit witness fun w tape i _ hsh _ hok hpre hholds=>?_
 obtain ⟨_,_,_,fn',hfn',_,_,_,_,hval⟩:=hok
 obtain rfl:fn'=fn:=Option.some.inj (hfn'.symm.trans hfn)
 obtain ⟨⟨⟨ds,gs,before,hw,hc⟩,hx⟩,hz⟩:=hpre
 refine (contract (w.forCall tape i) w.heap.size i.args ds gs before hsh hval (DataW.Whole.of_heap (w':=w.forCall tape i) (by rfl) hw) hc (hz.weights hw) (hX _ _ _ (by rfl) hx) hholds).mono fun e W' ⟨v,he,hp⟩=>?_
 subst he
 exact ChangeSpec.post_blind hp
end
end Go.Im
namespace Go.Im
open Go
section
variable {Γ:Ctx} {ops:Array Oper} {o:Oper}
end
end Go.Im
namespace Go.Im
open Go
def D.zRx:D→Bool
 | .sc _=>true
 |_=>false
section
variable {β:Nat→Loc} {N:Nat→Prop} {w:World}
theorem zKb:∀{cs:List D} {ws:List Value} {bs:List Nat},cs.all D.zRx=true→zK β N w true cs ws bs→zK β N w false cs ws bs∧bs=[]
 |[],ws,bs,_,h=>by simp only [zK] at h ⊢; exact ⟨h,h.2⟩
 |d::cs,ws,bs,hc,h=>by
  simp only [List.all_cons,Bool.and_eq_true] at hc
  simp only [zK] at h ⊢
  obtain ⟨v,vs,b1,b2,rfl,rfl,h3,h4⟩:=h
  obtain ⟨h5,rfl⟩:=zKb hc.2 h4
  cases d with
  |sc u=>
   simp only [Rep] at h3 ⊢
   obtain ⟨rfl,rfl⟩:=h3
   exact ⟨⟨_,vs,[],[],rfl,rfl,⟨rfl,rfl⟩,h5⟩,rfl⟩
  |_=>simp [D.zRx] at hc
theorem zMX:∀{xs:List (List D)} {ws:List Value} {bs:List Nat},(∀x∈xs,x.all D.zRx=true)→zK β N w true xs.flatten ws bs→zZ β N w xs ws []∧bs=[]
 |[],ws,bs,_,h=>by simp only [List.flatten_nil,zK] at h; simp only [zZ]; exact ⟨⟨h.1,trivial⟩,h.2⟩
 |x::xs,ws,bs,hx,h=>by
  rw [List.flatten_cons] at h
  obtain ⟨b1,b2,rfl,h1,h2⟩:=zK.split x.length h
  rw [List.take_left] at h1
  rw [List.drop_left] at h2
  obtain ⟨h3,rfl⟩:=zKb (hx x (by simp)) h1
  obtain ⟨h4,rfl⟩:=zMX (fun y hy=>hx y (by simp [hy])) h2
  simp only [zZ]
  exact ⟨⟨ws.take x.length,ws.drop x.length,[],[],(List.take_append_drop _ _).symm,rfl,h3,h4⟩,rfl⟩
end
def zSI (t:Nat):D→Bool
 | .pt _ 0 _=>true
 |d=> !(d.men.contains t)
section
variable {Γ:Ctx} {fc:Code} {k:List II} {σ:St} {T:Type} {K:T→Option (D×List Ent)}
theorem zP9 {β:Nat→Loc} {N:Nat→Prop} {w:World} {t z:Nat} {d:D} {v:Value} (ho:zSI t d=true) (h:Rep β N w true d v []):Rep (zG0 β t {(β t) with z:=z}) N w true d v []:=by
 have key:t∉d.men→Rep (zG0 β t {(β t) with z:=z}) N w true d v []:=fun hm=>
  Rep.frame (fun b hb=>⟨hb,rfl⟩) d true v [] (by simp) (fun k hk=>zAc (fun e=>hm (e▸hk))) h
 unfold zSI at ho
 split at ho
 ·rename_i t' j
  simp only [Rep] at h ⊢
  by_cases e:t'=t
  ·subst e
   rw [xI]
   simpa using h
  ·rw [zAc e]; exact h
 ·exact key (by simpa using ho)
theorem zPN {e:Option T} (t:Nat) {z:Nat} {cs:List D} {xs:List (List D)} {tm:List (Nat×D)} {hp:List (Nat×Ent)} (hxs:xs.flatten=cs) (hz:xs.all (fun x=>x.length==z&&x.all D.zRx)=true) (htm:tm.all (fun x=>zSI t x.2)=true)
  (hhp:(zIp hp).contains t=false) (hm:Nat.ble Γ.m t=true) (hj:J Γ fc k (St.mk' tm ((t,.row z xs)::hp)) e K):J Γ fc k (St.mk' tm ((t,.box cs)::hp)) e K:=by
 subst hxs
 refine zGJ (fun a w hr=>?_) hj
 obtain ⟨h0,β,bs,h⟩:=hr
 obtain ⟨b1,b2,rfl,⟨hnil,_,ws,hO,_,hcr⟩,hrest⟩:=h.hp
 have hall:∀x∈xs,x.length=z∧x.all D.zRx=true:=fun x hx=>by
  have:=List.all_eq_true.1 hz x hx
  simpa using this
 obtain ⟨hE,rfl⟩:=zMX (fun x hx=>(hall x hx).2) hcr
 have htn:t∉zIp hp:=by simpa using hhp
 have hown:(zG0 β t {(β t) with z:=z} t).own =(β t).own :=by rw [xI]; rfl
 refine ⟨?_,zG0 β t {(β t) with z:=z},(β t).own ++([]++b2),{defers:=h.defers,size:=h.size,keys:=h.keys,par:=fun k hk=>?_,grow:=h.grow,gh:=h.gh,quiet:=h.quiet,keep:=h.keep,hp:=?_,nodup:=h.nodup,own:=h.own,tm:=?_}⟩
 ·intro q hq
  simp only [St.mk',qJ]
  exact hq
 ·have:=qB hm
  rw [zAc (by omega)]
  exact h.par k hk
 ·refine ⟨[],b2,by rw [hown],⟨by rw [xI],fun x hx=>(hall x hx).1,.inr ⟨by rw [xI]; exact hnil,ws,?_,?_⟩⟩,?_⟩
  ·rw [xI]; exact hO
  ·exact zZ.frame (fun b hb=>⟨hb,rfl⟩) xs ws [] (by simp) hE
  ·refine vS.frame (fun b hb=>⟨hb,rfl⟩) _ _ (fun _ _=>rfl) (fun q hq=>zAc (fun e=>htn (e▸hq))) hrest
 ·intro q d hd
  obtain ⟨v,h1,h2⟩:=h.tm q d hd
  exact ⟨v,h1,zP9 (List.all_eq_true.1 htm _ hd) h2⟩
end
section
variable {Γ:Ctx} {ops:Array Oper} {o:Oper}
theorem zMp {c:Cert} {x y:Operand} {T el:TypeId} {k:IntKind} {z n t j:Nat} {i:Int} {xs:List (List D)} (hg:o.guard=none) (hop:o.op= .indexAddr T x y)
  (hc:c= {tn:=c.tn,hn:=c.hn,out:=some (.pt t j 0)}) (hx:OpF c x (.pt t 0 0)) (hy:OpF c y (.sc (.int k i))) (hT:yT Γ.P (underlying T)=some (.array n el)) (hz:zGk Γ.P el=some z)
  (hi:0≤i) (hj:i<n) (hjj:i.toNat=j) (hh:(t,.row z xs)∈c.hn):Valid Γ ops o c:=by
 refine tV (d:=.pt t j 0) (f:=fun ρ=>Instr.indexAt T (ρ x) (ρ y)) hg (fun ρ=>by simp [execOp,hop]) (by rw [hc]) fun β bs σ a w hn hr=>?_
 have h1:=OpF.rep hx hn hr
 have h2:=OpF.rep hy hn hr
 obtain ⟨_,⟨hLz,_⟩,_⟩:=vS.get hr.hp (hn.2.1 _ hh)
 simp only [Rep] at h1 h2
 obtain ⟨_,_,hnil,hv⟩:=h1
 refine ⟨.pointer (some ⟨(β t).b,(β t).o +j*(β t).z +0,none⟩),?_,by simp only [Rep]; exact ⟨trivial,trivial,hnil,trivial⟩⟩
 rw [h2.1,hv]
 unfold Instr.indexAt
 rw [run_bind_ok (a:=(k,i)) (w':=w) rfl]
 simp only
 rw [run_bind_ok (zS _ _ w hT)]
 simp only
 rw [run_bind_ok (a:=(⟨(β t).b,(β t).o +0*(β t).z +0,none⟩:Addr)) (w':=w) rfl]
 rw [run_bind_ok (a:=(some (⟨(β t).b,(β t).o +0*(β t).z +0,none⟩:Addr),n,el)) (w':=w) rfl]
 rw [run_bind_ok (zS _ _ w hT)]
 simp only
 rw [if_pos ⟨hi,hj⟩]
 rw [run_bind_ok (zS _ _ w hz)]
 rw [zE3,hLz,←hjj]
 simp
def zPp {α:Type} (xs:List α) (n:Nat) (i:Int):Option α:=if xs.length=n then idx xs i else none
theorem zHk {α:Type} {xs:List α} {n:Nat} {i:Int} {a:α} (h:zPp xs n i=some a):idx xs i=some a:=by
 unfold zPp at h
 split at h
 ·exact h
 ·cases h
theorem zOU {α:Type} {xs:List α} {i:Int} {a:α} {kk:IntKind} (T el z t:Nat) (enc:α→List D) (x y:Operand) (n:Nat) (h:zPp xs n i=some a) (hx:OkO x (.pt t 0 0):=by trivial) (hy:OkO y (.sc (.int kk i)):=by first|trivial|rfl)
  (hT:(yT Γ.P (underlying T),zGk Γ.P el)=(some (.array n el),some z):=by kernel_rfl):
  OpV Γ (.indexAddr T x y) {tn:=tnO x (.pt t 0 0)++tnO y (.sc (.int kk i)),hn:=[(t,rE z enc xs)],out:=some (.pt t i.toNat 0)}:=by
 simp only [Prod.mk.injEq] at hT
 unfold zPp at h
 split at h
 ·rename_i hl
  obtain ⟨h1,h2⟩:=zFv h
  have:=(List.getElem?_eq_some_iff.1 h2).1
  intro ops o hop hg
  exact zMp hg hop rfl (hx.f (fun y hy=>List.mem_append_left _ hy)) (hy.f (fun y hy=>List.mem_append_right _ hy)) hT.1 hT.2 h1 (by omega) rfl (.head _)
 ·cases h
theorem zPv (T:TypeId) (vs:List Value) (hz:yT Γ.P (Instr.build T #[])=some (.agg vs.toArray):=by kernel_rfl) (h1:vs.all Value.oneCell=true:=by kernel_rfl):OpV Γ (.build T #[]) {out:=some (.ag (vs.map D.sc))}:=by
 intro ops o hop hg
 refine tV (d:=.ag (vs.map D.sc)) (f:=fun ρ=>Instr.build T #[]) hg (fun ρ=>by simp [execOp,hop]) rfl fun β bs σ a w hn hr=>?_
 refine ⟨_,zS _ _ w hz,?_⟩
 simp only [Rep]
 exact ⟨trivial,vs,rfl,fun x hx=>List.all_eq_true.1 h1 x hx,zFN vs⟩
end
end Go.Im
namespace Go.Im
open Go
section
variable {Γ:Ctx} {ops:Array Oper} {o:Oper}
end
end Go.Im
namespace Go.Im
open Go
def zSU (n:Nat):List Nat→Bool
 |[]=>false
 |m::ms=>Nat.beq n m||zSU n ms
def dl {α:Type} (del:List Nat) (add:List (Nat×α)):List (Nat×α)→List (Nat×α)
 |[]=>add
 |x::l=>match zSU x.1 del with
  |true=>dl del add l
  |false=>x::dl del add l
section
variable {Γ:Ctx} {fc:Code} {k:List II} {σ:St} {T:Type} {K:T→Option (D×List Ent)}
theorem J_d {e:Option T} (p:Nat) (ids:List (Nat×Nat)) (x:List Nat) (y:List (Nat×D)) (x':List Nat) (y':List (Nat×Ent)) {orc:List (Nat×Cert)} (hor:zJH Γ fc p orc) (hj:J Γ fc (aft fc p) (St.mk' (dl x y σ.tm) (dl x' y' σ.hp)) e K)
  (h:(zS0 fc σ.tm p k&&Γ.P.follows .mixedOrders,(chk Γ.P Γ.nt Γ.m fc p orc ids σ (dl x y σ.tm) (dl x' y' σ.hp)).1,(chk Γ.P Γ.nt Γ.m fc p orc ids σ (dl x y σ.tm) (dl x' y' σ.hp)).2.2.1,(chk Γ.P Γ.nt Γ.m fc p orc ids σ (dl x y σ.tm) (dl x' y' σ.hp)).2.2.2.2)=
   (true,(chk Γ.P Γ.nt Γ.m fc p orc ids σ (dl x y σ.tm) (dl x' y' σ.hp)).2.1,(chk Γ.P Γ.nt Γ.m fc p orc ids σ (dl x y σ.tm) (dl x' y' σ.hp)).2.2.2.1,true):=by kernel_rfl):J Γ fc k σ e K:=
 J_g p ids _ _ hor hj h
end
end Go.Im
namespace Go.Im
open Go
mutual
inductive Wk:D→D→Prop where
 |same {d:D}:Wk d d
 |ln {z n:Nat} {xs:List (List D)}:Wk (.s false z n xs) (.ln n)
 |tu {cs cs':List D}:WkL cs cs'→Wk (.tu cs) (.tu cs')
 |ag {cs cs':List D}:WkL cs cs'→Wk (.ag cs) (.ag cs')
inductive WkL:List D→List D→Prop where
 |nil:WkL [] []
 |cons {d d':D} {ds ds':List D}:Wk d d'→WkL ds ds'→WkL (d::ds) (d'::ds')
end
section
variable {β:Nat→Loc} {N:Nat→Prop} {w:World}
end
def s2b (s:ByteArray):List Int:=s.data.toList.map fun b=>(b.toNat:Int)
theorem zEE (s:ByteArray):(s2b s).length =s.size:=by simp [s2b]
theorem zGX {β:Nat→Loc} {N:Nat→Prop} {w:World}:∀(xs:List Int),zZ β N w (xs.map eU8) (xs.map (Value.int .u8)) []
 |[]=>by simp [zZ]
 |x::xs=>by
  simp only [List.map_cons,zZ]
  refine ⟨[.int .u8 x],_,[],[],rfl,rfl,?_,zGX xs⟩
  simp only [eU8,zK,Rep]
  exact ⟨_,[],[],[],rfl,rfl,⟨rfl,rfl⟩,rfl,rfl⟩
theorem zJt (w:World) (e:TypeId) (s:ByteArray):(Lib.bytesWorld w e s).heap =w.heap.push (.cells (Lib.bytesCells w e s) e ((Lib.bytesCells w e s).size,(Lib.bytesCells w e s).size +1)):=by
 apply Array.ext_getElem?
 intro i
 rcases Nat.lt_trichotomy i w.heap.size with h|h|h
 ·rw [Lib.bytesWorld_at_old w e s i h,Array.getElem?_push,if_neg (by omega)]
 ·subst h
  rw [Lib.bytesWorld_at_new,Array.getElem?_push,if_pos rfl]
 ·rw [Array.getElem?_eq_none (by rw [Lib.bytesWorld_size]; omega),Array.getElem?_eq_none (by simp; omega)]
section
variable {Γ:Ctx} {ops:Array Oper} {o:Oper}
theorem zSL {c:Cert} {x:Operand} {S Dd e:TypeId} {s:ByteArray} (hg:o.guard=none) (hop:o.op= .convert S Dd x)
  (hc:c= {tn:=c.tn,hn:=c.hn,out:=some (.s false 1 (s2b s).length ((s2b s).map eU8))}) (hx:OpF c x (.sc (.string s)))
  (hs:Γ.P.underlying S=some .string) (hd:Γ.P.underlying Dd=some (.slice e)) (he:Γ.P.underlying e=some (.int .u8)):Valid Γ ops o c:=by
 intro σ a w Q hdst hn ⟨h0,β,bs,hr⟩
 have hwt:Region.wanted o (yielded ops a.tmps)=true:=by simp [Region.wanted,hg]
 rw [if_pos hwt]
 have h1:=OpF.rep hx hn hr
 simp only [Rep] at h1
 have hrun:(execOp a.eval o).run Γ.P w= .ok (.value (.slice (some ⟨w.heap.size,0,none⟩) (s2b s).length (grownCap w s.size 0 e))) (Lib.bytesWorld w e s):=by
  refine zFo (s:=convert S Dd (a.eval x)) (by simp [execOp,hop]) ?_
  rw [h1.1,zEE]
  exact Lib.run_convert_string_bytes w S Dd e s hs hd he
 unfold Oper.wp
 rw [hrun,Oper.upon_value]
 have hge:=grownCap_ge w s.size 0 e
 have hheap:=zJt w e s
 have hlt:∀b∈bs,b<w.heap.size:=fun b hb=>(hr.own b hb).1
 refine Rel.step (β1:=β) (bk:=bs) (br:=[]) (bn:=[]) h0 hr hdst (by rw [hc]; simp) (by rw [hc]; simp) (.refl _) (by rw [hc]; exact (zGC σ.hp).symm ▸hr.hp) (by rw [Lib.bytesWorld_size]; omega) (fun b' hb' _=>Lib.bytesWorld_at_old w e s b' hb') (fun _ _=>rfl) (fun _ _=>rfl) (by simp) (by simp) (by rw [hc]; exact rfl) ?_ ⟨rfl,rfl⟩
 intro d hd'
 rw [hc] at hd'
 cases hd'
 simp only [Rep]
 refine ⟨by simp,fun y hy=>by obtain ⟨z,_,rfl⟩:=List.mem_map.1 hy; rfl,_,_,rfl,by rw [zEE]; exact hge,.inr (.inl ⟨trivial,w.heap.size,0,(s2b s).map (Value.int .u8),rfl,⟨.inr (.inr hr.grow),by rw [Lib.bytesWorld_size]; omega,fun h=>by have:=hlt _ (by simpa using h); omega⟩,⟨_,e,_,Lib.bytesWorld_at_new w e s,fun k hk=>?_⟩,zGX _,trivial⟩)⟩
 have hk':k<s.data.size:=by simpa [s2b] using hk
 have hk2:k<s.size:=hk'
 simp [Lib.bytesCells,s2b,Array.getElem?_append,hk2]
theorem zNQ {s:ByteArray} (S Dd e:Nat) (x:Operand) (hx:OkO x (.sc (.string s)):=by first|trivial|rfl) (hT:(Γ.P.underlying S,Γ.P.underlying Dd,Γ.P.underlying e)=(some .string,some (.slice e),some (.int .u8)):=by kernel_rfl):
  OpV Γ (.convert S Dd x) {tn:=tnO x (.sc (.string s)),out:=some (.s false 1 (s2b s).length ((s2b s).map eU8))}:=by
 simp only [Prod.mk.injEq] at hT
 intro ops o hop hg
 exact zSL hg hop rfl (hx.f (fun y hy=>hy)) hT.1 hT.2.1 hT.2.2
theorem zSx {c:Cert} {x:Operand} {T el:TypeId} {t:Nat} {xs:List Int} (hg:o.guard=none) (hop:o.op= .convert T T x)
  (hc:c= {tn:=c.tn,hn:=c.hn,out:=some (.s false 1 xs.length (xs.map eU8)),hx:=[t]}) (hx:OpF c x (.rf t 0 xs.length none)) (hh:(t,.row 1 (xs.map eU8))∈c.hn) (hl:0<xs.length)
  (hT:Γ.P.underlying T=some (.slice el)) (he:Γ.P.underlying el=some (.int .u8)):Valid Γ ops o c:=by
 intro σ a w Q hdst hn ⟨h0,β,bs,hr⟩
 have hwt:Region.wanted o (yielded ops a.tmps)=true:=by simp [Region.wanted,hg]
 rw [if_pos hwt]
 obtain ⟨b1,bk,p1,hE1,hrest⟩:=vS.take hr.hp hr.keys (hn.2.1 _ hh)
 have h1:=OpF.rep hx hn hr
 simp only [Rep] at h1
 obtain ⟨hLz,hzz,hrow⟩:=hE1
 obtain ⟨_,_,⟨hnil,_,hn0,_⟩|⟨hnil,cp,hv,hcap,hroom,_⟩⟩:=h1
 ·omega
 rcases hrow with ⟨hnil',_⟩|⟨_,ws,hO,hE⟩
 ·rw [hnil] at hnil'; cases hnil'
 have hown:(β t).own =[(β t).b]:=by simp [Loc.own,hnil]
 have hws:=zI7 hE
 subst hws
 obtain ⟨arr,e,lo,hi,g1,g2,g3,g4⟩:=hO
 have hsh:w.shape? (β t).b =some (e,arr.size):=by simp [World.shape?,g1]
 have hrun:(execOp a.eval o).run Γ.P w= .ok (.value (a.eval x)) (w.freeze ⟨(β t).b,arr.size,none⟩ 1):=by
  refine zFo (s:=convert T T (a.eval x)) (by simp [execOp,hop]) ?_
  rw [hv]
  simp [convert,run_underlying hT,run_underlying he,markStringish,hsh]
 unfold Oper.wp
 rw [hrun,Oper.upon_value]
 have hne:∀b',b'≠(β t).b →(w.freeze ⟨(β t).b,arr.size,none⟩ 1).heap[b']? =w.heap[b']? :=fun b' hb=>by
  unfold World.freeze
  rw [if_neg (by decide)]
  simp only [Array.getElem?_modify]
  rw [if_neg (fun e=>hb e.symm)]
 have hsz:(w.freeze ⟨(β t).b,arr.size,none⟩ 1).heap.size =w.heap.size:=by
  unfold World.freeze
  rw [if_neg (by decide)]
  simp
 have hat:∃fz,(w.freeze ⟨(β t).b,arr.size,none⟩ 1).heap[(β t).b]? =some (.cells arr e fz):=by
  unfold World.freeze
  rw [if_neg (by decide)]
  simp only [Array.getElem?_modify,if_true,g1,Option.map_some]
  exact ⟨_,rfl⟩
 obtain ⟨fz,hat⟩:=hat
 have hbin:(β t).b ∈bs:=p1.mem_iff.2 (by simp [hown])
 have hnd:=p1.nodup_iff.1 hr.nodup
 have hob:=hr.own _ hbin
 have hNS:NS Γ (w.freeze ⟨(β t).b,arr.size,none⟩ 1) ([]++bk) (β t).b :=by
  refine ⟨?_,by rw [hsz]; exact hob.1,fun h=>?_⟩
  ·rcases hob.2 with h|h
   ·exact .inr (.inl h)
   ·exact .inr (.inr h)
  ·have:=(List.nodup_append.1 hnd).2.2 (β t).b (by simp [hown]) (β t).b (by simp at h; simp [h])
   exact this rfl
 refine Rel.step (β1:=β) (bk:=bk) (br:=(β t).own ++b1) (bn:=[]) h0 hr hdst (by rw [hc]; simp) (by rw [hc]; simp) (by simpa using p1) ?_ (by rw [hsz]; exact Nat.le_refl _) (fun b' _ hb'=>hne b' (fun e=>hb' (by simp [hown,e]))) (fun _ _=>rfl) (fun _ _=>rfl) (by simp) (by simp) (by rw [hc]; exact rfl) ?_ (by unfold World.freeze; rw [if_neg (by decide)]; exact ⟨rfl,rfl⟩)
 ·rw [hc]
  have:=hrest
  rw [show (σ.hp.filter fun x=> !([t]:List Nat).contains x.1)=σ.hp.filter (fun x=>x.1 !=t) from by
   congr 1; funext x; by_cases h:x.1=t<;>simp [h]]
  exact hrest
 ·intro d hd
  rw [hc] at hd
  cases hd
  simp only [Rep]
  refine ⟨by simp,fun y hy=>by obtain ⟨z,_,rfl⟩:=List.mem_map.1 hy; rfl,_,cp,hv,hcap,.inr (.inl ⟨trivial,_,_,_,rfl,hNS,⟨arr,e,fz,hat,fun k hk=>?_⟩,zGX xs,trivial⟩)⟩
  have:=g4 k hk
  simpa using this
theorem zSd {xs:List Int} (T el t:Nat) (x:Operand) (hx:OkO x (.rf t 0 xs.length none):=by trivial) (hl:0<xs.length:=by simp) (hT:(Γ.P.underlying T,Γ.P.underlying el)=(some (.slice el),some (.int .u8)):=by kernel_rfl):
  OpV Γ (.convert T T x) {tn:=tnO x (.rf t 0 xs.length none),hn:=[(t,rE 1 eU8 xs)],out:=some (.s false 1 xs.length (xs.map eU8)),hx:=[t]}:=by
 simp only [Prod.mk.injEq] at hT
 intro ops o hop hg
 exact zSx hg hop rfl (hx.f (fun y hy=>hy)) (.head _) hl hT.1 hT.2
theorem zJu {β:Nat→Loc} {N:Nat→Prop} {w:World}:∀{xs:List (List D)} {ws:List Value} {bs:List Nat},(∀e∈xs,e.all D.free=true)→zZ β N w xs ws bs→bs=[]
 |[],ws,bs,_,h=>by simp only [zZ] at h; exact h.2
 |e::es,ws,bs,hf,h=>by
  simp only [zZ] at h
  obtain ⟨w1,w2,b1,b2,rfl,rfl,h3,h4⟩:=h
  have e1:=zK.frees (fun d hd=>List.all_eq_true.1 (hf e (by simp)) d hd) h3
  have e2:=zJu (fun e he=>hf e (by simp [he])) h4
  rw [e1,e2]
  rfl
theorem zN2 {c:Cert} {x y:Operand} {T U el e':TypeId} {t td ts n m z bytes off:Nat} {cd:Option Nat} {zv:Value} {xs ys:List (List D)} (hg:o.guard=none)
  (hop:o.op= .call {callee:=.builtin .append,args:= #[x,y],argTypes:= #[T,U]}) (hc:c= {tn:=c.tn,hn:=c.hn,out:=some (.rf t 0 (n+m) none),hx:=[td],hw:=[(t,.row z (xs++(ys.drop off).take m))],fr:=[t]})
  (hm:Γ.m≤t) (hx:OpF c x (.rf td 0 n cd)) (hy:OpF c y (.sub ts off m)) (hxr:(td,.row z xs)∈c.hn) (hyr:(ts,.row z ys)∈c.hn) (hlx:xs.length=n) (hle:off+m≤ys.length)
  (hT:Γ.P.underlying T=some (.slice el)) (hU:Γ.P.underlying U=some (.slice e')) (hinfo:(Γ.P.info? el).map (fun i=>(i.zero,i.size,i.bytes))=some (some zv,z,bytes)) (hzs:zv.cells.size=z)
  (hone:∀e∈ys,e.all zE1=true) (hfree:∀e∈ys,e.all D.free=true) (hbig:(n+m)*bytes≤140737488355328) (h62:n+m≤4611686018427387904):Valid Γ ops o c:=by
 intro σ a w Q hdst hn ⟨h0,β,bs,hr⟩
 have hwt:Region.wanted o (yielded ops a.tmps)=true:=by simp [Region.wanted,hg]
 rw [if_pos hwt]
 have hfr:t∉σ.us:=hn.2.2 t (by rw [hc]; simp)
 obtain ⟨b1,bk,p1,hE1,hrest⟩:=vS.take hr.hp hr.keys (hn.2.1 _ hxr)
 obtain ⟨wx,hD,hEx,hzx⟩:=zKl (OpF.rep hx hn hr) hE1 hlx
 have hyv:=OpF.rep hy hn hr
 simp only [Rep] at hyv
 obtain ⟨_,_,ad,cap,hv,hcap,hcase⟩:=hyv
 obtain ⟨b2,⟨hLz,hzz,hrow⟩,_,_⟩:=vS.get hr.hp (hn.2.1 _ hyr)
 have hzy:∀e∈(ys.drop off).take m,e.length=z:=fun e he=>hzz e (List.mem_of_mem_drop (List.mem_of_mem_take he))
 have hly:((ys.drop off).take m).length =m:=by simp; omega
 have hone':∀e∈(ys.drop off).take m,e.all zE1=true:=fun e he=>hone e (List.mem_of_mem_drop (List.mem_of_mem_take he))
 obtain ⟨wy,hEy,hS⟩:∃wy,zZ β (NS Γ w bs) w ((ys.drop off).take m) wy []∧((a.eval y= .slice ad m cap∧m=0∧wy=[])∨∃b off c,a.eval y= .slice (some ⟨b,off,none⟩) m c∧Has w b off wy∧wy.length=m*z):=by
  rcases hcase with rfl|⟨hnil,rfl,hroom⟩
  ·exact ⟨[],by simp [zZ],.inl ⟨hv,rfl,rfl⟩⟩
  ·rcases hrow with ⟨hnil',_⟩|⟨_,ws,hO,hE⟩
   ·rw [hnil] at hnil'; cases hnil'
   have:=zJu hfree hE
   subst this
   have q2:=(zZ.sub m (zZ.sub off hE hzz).2 (fun e he=>hzz e (List.mem_of_mem_drop he))).1
   refine ⟨_,q2,.inr ⟨_,_,cap,hv,?_,?_⟩⟩
   ·rw [hLz]; exact hO.has.sub (off*z) (m*z)
   ·rw [q2.length hzy,hly]
 have hsrc:Go.Src Γ.P z U (a.eval y) m wy w:=by
  rcases hS with ⟨h1,h2,h3⟩|h
  ·rw [h1]
   subst h2; subst h3
   cases ad with
   |none=>exact Src.ofNil w hU cap
   |some ad=>exact Src.ofSlice w hU ad 0 cap [] (by simp) (by simp) (by simp)
  ·exact zGh hU (zFG hone' hEy) (.inr h)
 obtain ⟨r,w1,hrun,hA⟩:=zGA (ty:=o.type) hT hinfo hzs hD hsrc hbig h62
 have hex:(execOp a.eval o).run Γ.P w= .ok (.value r) w1:=by
  rw [zEP hop]
  simp only [builtin,List.map_toArray,List.map_cons,List.map_nil]
  exact run_bind_ok hrun
 unfold Oper.wp
 rw [hex,Oper.upon_value]
 refine zFW (b1:=b1) (b2:=[]) (bx:=[]) (bk:=bk) (blk:=(β td).own) h0 hr hdst (by rw [hc]) hfr hm ?_ ?_ hEx hEy hzx hzy hlx hly hA (by rw [hc])
 ·simpa using p1
 ·rw [hc]
  rw [←zIx] at hrest
  exact hrest
theorem zQf {α:Type} {xs ys r zs:List α} {l hi:Int} (T U el e' z bytes t td ts:Nat) (enc:α→List D) (x y:Operand) (hs:zGp ys l hi=some r) (h:app bytes xs r=some zs) (hx:OkO x (.rf td 0 xs.length none):=by trivial) (hy:OkO y (.sub ts l.toNat r.length):=by trivial)
  (hone:∀a,(enc a).all zE1=true:=by intro _; rfl) (hfree:∀a,(enc a).all D.free=true:=by intro _; rfl) (hT:(Γ.P.underlying T,Γ.P.underlying U,zLC Γ.P el,(zM5 Γ.P el).cells.size,Nat.ble Γ.m t)=(some (.slice el),some (.slice e'),some (some (zM5 Γ.P el),z,bytes),z,true):=by kernel_rfl):
  OpV Γ (.call {callee:=.builtin .append,args:= #[x,y],argTypes:= #[T,U]}) {tn:=tnO x (.rf td 0 xs.length none)++tnO y (.sub ts l.toNat r.length),hn:=[(td,rE z enc xs),(ts,rE z enc ys)],out:=some (.rf t 0 zs.length none),hx:=[td],hw:=[(t,rE z enc zs)],fr:=[t]}:=by
 simp only [Prod.mk.injEq] at hT
 obtain ⟨h1,h2,h3,h4,h5⟩:=hT
 obtain ⟨q1,q2,q3,q4,q5⟩:=zHA hs
 obtain ⟨rfl,g1,g2⟩:=zI4 h
 intro ops o hop hg
 refine zN2 (xs:=xs.map enc) (ys:=ys.map enc) (m:=r.length) (off:=l.toNat) (n:=xs.length) hg hop ?_ (qB h5) (hx.f (fun y hy=>List.mem_append_left _ hy)) (hy.f (fun y hy=>List.mem_append_right _ hy)) (.head _) (.tail _ (.head _)) (by simp) (by rw [qC]; omega) h1 h2 h3 h4 ?_ ?_ g1 g2
 ·congr 1
  ·simp
  ·show [(t,Ent.row z ((xs++r).map enc))]=_
   rw [List.map_append,←List.map_drop,←List.map_take,q5,←q4]
 ·intro e he
  obtain ⟨a,_,rfl⟩:=List.mem_map.1 he
  exact hone a
 ·intro e he
  obtain ⟨a,_,rfl⟩:=List.mem_map.1 he
  exact hfree a
end
end Go.Im
namespace Go.Im
open Go
section
variable {Γ:Ctx} {ops:Array Oper} {o:Oper}
theorem zPM {β:Nat→Loc} {N:Nat→Prop} {w:World} {L:Loc} {bs:List Nat} {z i j t n:Nat} {xs:List (List D)} (h:zBR β N w L bs (.lent z xs i j t n)):zBR β N w L bs (.row z (xs.modify i (fun c=>c.set j .un))):=by
 obtain ⟨h0,h1,h2,ws,h3,h4,_⟩:=h
 refine ⟨h1,fun x hx=>?_,.inr ⟨h0,ws,h3,h4⟩⟩
 obtain ⟨k,hk,rfl⟩:=List.mem_iff_getElem.1 hx
 rw [List.getElem_modify]
 rw [List.length_modify] at hk
 split
 ·rw [List.length_set]; exact h2 _ (qE _)
 ·exact h2 _ (qE _)
theorem zSB {α γ:Type} {A:List α} {a b:α} {ix:Int} {zs:List γ} (T z t j t' n t2 z':Nat) (enc:α→List D) (enc2:γ→List D) (x y:Operand) (h:idx A ix=some a) (hb:enc b=(enc a).set j (.s true z' zs.length (zs.map enc2)))
  (hx:OkO x (.pt t ix.toNat j):=by trivial) (hy:OkO y (.rf t2 0 zs.length none):=by trivial) (hjl:j< (enc a).length :=by exact qB rfl) (hT:(zGk Γ.P T,Nat.ble (j+1) z,t2==t)=(some 1,true,false):=by kernel_rfl):
  zSH Γ (.store T x y) {tn:=tnO x (.pt t ix.toNat j)++tnO y (.rf t2 0 zs.length none),hn:=[(t,.lent z (A.map enc) ix.toNat j t' n),(t2,rE z' enc2 zs)],hx:=[t,t2],hw:=[(t,rE z enc (A.set ix.toNat b))]}:=by
 simp only [Prod.mk.injEq] at hT
 obtain ⟨h1,h2,h3⟩:=hT
 obtain ⟨_,h5⟩:=zFv h
 obtain ⟨hlt,h6⟩:=List.getElem?_eq_some_iff.1 h5
 intro ops o hop hg hds
 refine zIf (en:=.lent z (A.map enc) ix.toNat j t' n) (xs:=(A.map enc).modify ix.toNat (fun c=>c.set j .un)) (e:=(enc a).set j .un) (es':=[.s true z' zs.length (zs.map enc2)]) (d:=.rf t2 0 zs.length none) (i:=ix.toNat) (j:=j) (z:=z) (ts:=[t2]) (hm:=[(t2,rE z' enc2 zs)])
  hg hop hds ?_ (hx.f (fun y hy=>List.mem_append_left _ hy)) (hy.f (fun y hy=>List.mem_append_right _ hy)) rfl h1 (qB h2) (.head _) (fun _ _ _ _ _ h=>zPM h) ?_ (.move (.head _) (qC _) (by simp) .nil) ?_
 ·congr 1
  simp only [List.cons.injEq,Prod.mk.injEq,true_and,and_true,rE,Ent.row.injEq]
  rw [List.map_set,hb]
  have e1:((enc a).set j D.un).take j=(enc a).take j:=by rw [List.take_set_of_le (Nat.le_refl _)]
  have e2:((enc a).set j D.un).drop (j+(cellsD (D.rf t2 0 zs.length none)).length)=(enc a).drop (j+1):=by
   show ((enc a).set j D.un).drop (j+1)=_
   rw [List.drop_set_of_lt (by omega)]
  rw [e1,e2]
  have e3:(enc a).set j (D.s true z' zs.length (zs.map enc2))=(enc a).take j++[D.s true z' zs.length (zs.map enc2)]++(enc a).drop (j+1):=by
   rw [List.set_eq_take_append_cons_drop,if_pos hjl]; simp
  rw [e3]
  apply List.ext_getElem?
  intro k
  simp only [List.getElem?_set,List.length_modify,List.getElem?_modify,qC]
  by_cases hk:ix.toNat=k
  ·simp [hk]
  ·simp [hk]
 ·rw [List.getElem?_modify]
  simp [h5]
 ·intro q hq
  simp only [qI] at hq
  subst hq
  exact ⟨.tail _ (.head _),by simpa using h3⟩
end
end Go.Im
namespace Go.Im
open Go
end Go.Im
namespace Go.Im
open Go
end Go.Im
namespace Go.Im
open Go
end Go.Im
namespace Go.Im
open Go
section
variable {Γ:Ctx} {ops:Array Oper} {o:Oper}
end
end Go.Im
namespace Go.Im
open Go
end Go.Im
namespace Go.Im
open Go
def zPo (a b:Int):Option Int:=if b=0 then none else some (a.tmod b)
def zRL (k:IntKind) (a b:Int):Option Int:=if b=0 then none else some (k.wrap (a.tdiv b))
def zRH (k:IntKind) (a b:Int):Option Int:=if b<0 then none else some (a.fdiv (2^(min b.toNat k.bits)))
def zSk (k:IntKind) (a b:Int):Option Int:=if b<0 then none else some (k.wrap (a*2^(min b.toNat k.bits)))
def zSh (k:IntKind) (a b:Int):Int:=k.wrap ((BitVec.ofInt k.bits a&&& BitVec.ofInt k.bits b).toNat :Int)
section
variable {Γ:Ctx} {ops:Array Oper} {o:Oper}
theorem zPm {op:BinOp} {k k2:IntKind} {a b r:Int} (T U:Nat) (x y:Operand) (hne:op≠ .eql ∧op≠ .neq) (h:∀w,(binOp op T (.int k a) (.int k2 b)).run Γ.P w= .ok (.int k r) w)
  (hx:OkO x (.sc (.int k a))) (hy:OkO y (.sc (.int k2 b))):
  OpV Γ (.binOp op T x y U) {tn:=tnO x (.sc (.int k a))++tnO y (.sc (.int k2 b)),out:=some (.sc (.int k r))}:=by
 intro ops o hop hg
 refine tV (d:=.sc (.int k r)) (f:=fun ρ=>do eqGuard op T x y (ρ x) (ρ y); binOp op T (ρ x) (ρ y)) hg (fun ρ=>by simp [execOp,hop]) rfl fun β bs σ a' w hn hr=>?_
 have h1:=OpF.rep (hx.f (fun y hy=>List.mem_append_left _ hy)) hn hr
 have h2:=OpF.rep (hy.f (fun y hy=>List.mem_append_right _ hy)) hn hr
 simp only [Rep] at h1 h2
 refine ⟨_,?_,by simp only [Rep]; exact ⟨rfl,trivial⟩⟩
 rw [h1.1,h2.1]
 have e:(eqGuard op T x y (.int k a) (.int k2 b)).run Γ.P w= .ok () w:=by
  obtain ⟨n1,n2⟩:=hne
  cases op<;>first|rfl|exact absurd rfl n1|exact absurd rfl n2
 rw [run_bind_ok e]
 exact h w
theorem zPy {k:IntKind} {a b r:Int} (T U:Nat) (x y:Operand) (h:zPo a b=some r) (hx:OkO x (.sc (.int k a)):=by first|trivial|rfl) (hy:OkO y (.sc (.int k b)):=by first|trivial|rfl):
  OpV Γ (.binOp .rem T x y U) {tn:=tnO x (.sc (.int k a))++tnO y (.sc (.int k b)),out:=some (.sc (.int k r))}:=by
 refine zPm T U x y (by decide) (fun w=>?_) hx hy
 unfold zPo at h
 split at h
 ·cases h
 ·cases h
  unfold binOp
  simp only [ne_eq,not_true_eq_false,if_false,Op.intDiv]
  rw [if_neg (by assumption)]
  rfl
theorem zSy {k:IntKind} {a b r:Int} (T U:Nat) (x y:Operand) (h:zRL k a b=some r) (hx:OkO x (.sc (.int k a)):=by first|trivial|rfl) (hy:OkO y (.sc (.int k b)):=by first|trivial|rfl):
  OpV Γ (.binOp .quo T x y U) {tn:=tnO x (.sc (.int k a))++tnO y (.sc (.int k b)),out:=some (.sc (.int k r))}:=by
 refine zPm T U x y (by decide) (fun w=>?_) hx hy
 unfold zRL at h
 split at h
 ·cases h
 ·cases h
  unfold binOp
  simp only [ne_eq,not_true_eq_false,if_false,Op.intDiv]
  rw [if_neg (by assumption)]
  rfl
theorem zS2 {k k2:IntKind} {a b r:Int} (T U:Nat) (x y:Operand) (h:zRH k a b=some r) (hx:OkO x (.sc (.int k a)):=by first|trivial|rfl) (hy:OkO y (.sc (.int k2 b)):=by first|trivial|rfl):
  OpV Γ (.binOp .shr T x y U) {tn:=tnO x (.sc (.int k a))++tnO y (.sc (.int k2 b)),out:=some (.sc (.int k r))}:=by
 refine zPm T U x y (by decide) (fun w=>?_) hx hy
 unfold zRH at h
 split at h
 ·cases h
 ·cases h
  unfold binOp
  simp only [Op.shift]
  rw [if_neg (by assumption)]
  rfl
theorem zS1 {k k2:IntKind} {a b r:Int} (T U:Nat) (x y:Operand) (h:zSk k a b=some r) (hx:OkO x (.sc (.int k a)):=by first|trivial|rfl) (hy:OkO y (.sc (.int k2 b)):=by first|trivial|rfl):
  OpV Γ (.binOp .shl T x y U) {tn:=tnO x (.sc (.int k a))++tnO y (.sc (.int k2 b)),out:=some (.sc (.int k r))}:=by
 refine zPm T U x y (by decide) (fun w=>?_) hx hy
 unfold zSk at h
 split at h
 ·cases h
 ·cases h
  unfold binOp
  simp only [Op.shift]
  rw [if_neg (by assumption)]
  rfl
theorem zS3 {k:IntKind} {a b:Int} (T U:Nat) (x y:Operand) (hx:OkO x (.sc (.int k a)):=by first|trivial|rfl) (hy:OkO y (.sc (.int k b)):=by first|trivial|rfl):
  OpV Γ (.binOp .and T x y U) {tn:=tnO x (.sc (.int k a))++tnO y (.sc (.int k b)),out:=some (.sc (.int k (zSh k a b)))}:=by
 refine zPm T U x y (by decide) (fun w=>?_) hx hy
 unfold binOp
 simp only [ne_eq,not_true_eq_false,if_false,Op.intBits]
 rfl
end
end Go.Im

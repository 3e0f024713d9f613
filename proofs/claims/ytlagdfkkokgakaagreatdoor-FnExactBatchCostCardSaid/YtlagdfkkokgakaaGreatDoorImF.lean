import Derived.Test.YtlagdfkkokgakaaGreatDoorImE
import Derived.Handed
import Derived.Shelf.Vars
import Derived.Lib.SplitLaws
import Derived.Lib.ConvBytes
import Derived.Sort.EncStr
import Derived.Laws.IdiomCopy
set_option linter.unusedVariables false
namespace Go.Im
open Go Go.Proofs
theorem zFG {P:Program} {w:World} {g:Nat} {t:TypeId} {zero:Array Value} (h:w.ShapedOpen P) (hg:g<P.globals.size)
  (h0:((begin P (fun _ _=>0) default).world.heap[g]?).bind Obj.row? =some (zero,t)) (hz:zero.size=1)
  (hb:P.buildable t=true) (hc:P.cellTypes P.depth t=some [t]) (hu:P.underlying t=some (.int .i64)):g<w.heap.size∧Tab w g (fun ws=>∃m,ws=[.int .i64 m]):=by
 obtain ⟨m,hm⟩:=cell_of_shapedOpen_int h hg h0 hz hb hc hu
 obtain ⟨cs,hh,hs,_⟩:=h.1 g zero t hg h0
 rw [cell_of hh] at hm
 refine ⟨(Array.getElem?_eq_some_iff.1 hh).1,cs.toList,t,_,by simpa using hh,m,?_⟩
 obtain ⟨l⟩:=cs
 match l,hs,hm with
 |[],hs,_=>simp at hs; omega
 |[v],_,hm=>simp at hm; rw [hm]
 |_::_::_,hs,_=>simp at hs; omega
section
variable {H:Type} {enc:TypeId×Value→H}
theorem zCC {a:Assume} {C:Checked} {os:Os} {f:FuncId} {fn:Func} {s:ChangeSpec} {conds:List PathCond} {apart fresh handsOn again:Bool} {X:World→Array Value→Prop}
  (hX:∀(w w':World) (args:Array Value),w.heap=w'.heap→X w args→X w' args) (own:ownKnob C.prog.godebug=none) (started:os.Started) (noInit:C.prog.inits.idxOf? f=none) (hfn:C.prog.funcs[f]? =some fn)
  (witness:∃(w:World) (tape:Tape) (i:Input),w.os=os∧(w.forCall tape i).Shaped C.prog∧i.vars=[]∧Input.okWide C.prog (w.forCall tape i) .any w.heap.size f i∧
   ((s.pre enc C.prog fn conds apart (w.forCall tape i).memory i.args∧X (w.forCall tape i).memory i.args)∧sizedMet enc C.prog fn (OpenSpec.ofChange s) apart (w.forCall tape i).memory i.args)∧a.holds C.prog (lone (Frame.enter C.prog f i.args .normal) [] (w.forCall tape i)))
  (contract:∀(W:World) (base:Nat) (args:Array Value) (ds gs:List (DataW H)) (before:List MemPlace),W.ShapedOpen C.prog→
   (∀(j:Nat) t v,fn.params[j]? =some t→args[j]? =some v→Value.okWide C.prog W .any base t v)→DataW.Whole enc C.prog fn.params.toList s.vars apart W args.toList ds gs before→
   conds.all (PathCond.test C.prog ⟨fn.params.toList,ds,s.plain.varTypes C.prog,gs⟩)=true→(DataW.weightsEach C.prog (fn.params.toList++s.plain.varTypes C.prog) (ds++gs)).all (· ≤reachBytes)=true→X W args→
   a.holds C.prog (lone (Frame.enter C.prog f args .normal) [] W)→Calls C.prog f args W fun e W'=>∃v,e= .returned v∧s.post enc C.prog fn apart fresh handsOn again W args v W'):
  ReturnsInHanded a C os f .any (fun w args=>(s.pre enc C.prog fn conds apart w args∧X w args)∧sizedMet enc C.prog fn (OpenSpec.ofChange s) apart w args) (s.post enc C.prog fn apart fresh handsOn again):=by
 refine returnsInHanded_of_calls own started noInit witness fun w tape i _ hsh _ hok hpre hholds=>?_
 obtain ⟨_,_,_,fn',hfn',_,_,_,_,hval⟩:=hok
 obtain rfl:fn'=fn:=Option.some.inj (hfn'.symm.trans hfn)
 obtain ⟨⟨⟨ds,gs,before,hw,hc⟩,hx⟩,hz⟩:=hpre
 refine (contract (w.forCall tape i) w.heap.size i.args ds gs before hsh hval (DataW.Whole.of_heap (w':=w.forCall tape i) (by rfl) hw) hc (hz.weights hw) (hX _ _ _ (by rfl) hx) hholds).mono fun e W' ⟨v,he,hp⟩=>?_
 subst he
 exact ChangeSpec.post_blind hp
end
end Go.Im
set_option linter.unusedVariables false
namespace Go.Im
open Go
section
variable {Γ:Ctx} {ops:Array Oper} {o:Oper}
theorem Rel.zM0 {σ:St} {a:Act} {w:World} {dst:Option Nat} {tn:List (Nat×D)} {t:Nat} {cs:List D} (hus:∀k,k∈zFH σ.tm∨k∈zDP σ.hp→k∈σ.us) (hcs:∀k∈D.men.zCb cs,k∈σ.us) (hfree:∀d∈cs,d.free=true)
  (h:Rel Γ (σ.upd dst {tn:=tn,out:=some (.pt t 0 0),hw:=[(t,.box cs)],fr:=[t]}) a w):Rel Γ (σ.upd dst {tn:=tn,out:=some (.pb cs)}) a w:=by
 obtain ⟨_,β,bs,h⟩:=h
 obtain ⟨b1,b2,rfl,⟨hnil,_,ws,hO,hone,hcr⟩,hrest⟩:=h.hp
 obtain rfl:b1=[]:=zF.frees hfree hcr
 have hown:(β t).own =[(β t).b]:=by simp [Loc.own,hnil]
 have hnd:=h.nodup
 rw [hown] at hnd
 simp only [List.nil_append,List.singleton_append,List.nodup_cons] at hnd
 have hsub:∀b∈b2,b∈(β t).own ++([]++b2):=fun b hb=>by simp [hb]
 have hN:∀b,NS Γ w ((β t).own ++([]++b2)) b→NS Γ w b2 b:=fun b hb=>NS.sub hsub hb
 have hNt:NS Γ w b2 (β t).b :=by
  have:=h.own (β t).b (by rw [hown]; simp)
  refine ⟨?_,this.1,hnd.1⟩
  rcases this.2 with h1|h1
  ·exact .inr (.inl h1)
  ·exact .inr (.inr h1)
 refine ⟨?_,β,b2,{defers:=h.defers,size:=h.size,keys:=?_,par:=h.par,grow:=h.grow,gh:=h.gh,quiet:=h.quiet,keep:=h.keep,hp:=?_,nodup:=hnd.2,own:=fun b hb=>h.own b (hsub b hb),tm:=?_}⟩
 ·intro k hk
  simp only [St.upd,Cert.men,zDP,List.flatMap_nil,List.append_nil,List.nil_append,D.men] at hk ⊢
  rw [List.mem_append]
  have key:∀k,k∈zFH (σ.tm.filter (fun x=>dst !=some x.1))∨k∈zDP (σ.hp.filter (fun x=> !([]:List Nat).contains x.1))→k∈σ.us:=by
   rintro k (hk|hk)
   ·obtain ⟨x,hx,hk⟩:=List.mem_flatMap.1 hk
    exact hus k (.inl (List.mem_flatMap.2 ⟨x,(List.mem_filter.1 hx).1,hk⟩))
   ·obtain ⟨x,hx,hk⟩:=List.mem_flatMap.1 hk
    exact hus k (.inr (List.mem_flatMap.2 ⟨x,(List.mem_filter.1 hx).1,hk⟩))
  rcases hk with hk|hk
  ·obtain ⟨x,hx,hk⟩:=List.mem_flatMap.1 hk
   rcases List.mem_append.1 hx with hx|hx
   ·unfold Cert.outs at hx
    cases dst with
    |none=>simp at hx
    |some q=>
     simp only [List.mem_singleton] at hx
     subst hx
     exact .inr (hcs k (by simpa [D.men] using hk))
   ·exact .inr (key k (.inl (List.mem_flatMap.2 ⟨x,hx,hk⟩)))
  ·exact .inr (key k (.inr hk))
 ·have hk:=h.keys
  simp only [St.upd,List.cons_append,List.nil_append,List.map_cons,List.nodup_cons] at hk ⊢
  exact hk.2
 ·exact wX.frame (fun b hb=>⟨hN b hb,rfl⟩) _ _ (fun _ _=>rfl) (fun _ _=>rfl) hrest
 ·intro q d hd
  simp only [St.upd] at hd
  rcases List.mem_append.1 hd with hd|hd
  ·unfold Cert.outs at hd
   cases dst with
   |none=>simp at hd
   |some q'=>
    simp only [List.mem_singleton,Prod.mk.injEq] at hd
    obtain ⟨rfl,rfl⟩:=hd
    obtain ⟨v,h1,h2⟩:=h.tm q (.pt t 0 0) (by simp [St.upd,Cert.outs])
    refine ⟨v,h1,?_⟩
    simp only [Rep] at h2 ⊢
    obtain ⟨_,_,_,rfl⟩:=h2
    refine ⟨trivial,trivial,(β t).b,(β t).o,ws,by simp,hNt,hO.has,hone,?_⟩
    exact zF.frame (fun b hb=>⟨hN b hb,rfl⟩) cs true ws [] (by simp) (fun _ _=>rfl) hcr
  ·obtain ⟨v,h1,h2⟩:=h.tm q d (by simp only [St.upd]; exact List.mem_append_right _ hd)
   exact ⟨v,h1,Rep.frame (fun b hb=>⟨hN b hb,rfl⟩) d true v [] (by simp) (fun _ _=>rfl) h2⟩
theorem zDR:∀(l:List Nat) (m:Nat),m≤l.foldl max m∧∀x∈l,x≤l.foldl max m
 |[],m=>⟨Nat.le_refl _,by simp⟩
 |y::l,m=>by
  obtain ⟨h1,h2⟩:=zDR l (max m y)
  refine ⟨Nat.le_trans (Nat.le_max_left _ _) h1,fun x hx=>?_⟩
  rcases List.mem_cons.1 hx with rfl|hx
  ·exact Nat.le_trans (Nat.le_max_right _ _) h1
  ·exact h2 x hx
theorem zK9 {c:Cert} {x:Operand} {T:TypeId} {d:D} (hg:o.guard=none) (hop:o.op= .box T x) (hc:c= {tn:=c.tn,out:=some (.pb (cellsD d))}) (hx:OpF c x d) (hd:(cellsD d).all D.cell=true):Valid Γ ops o c:=by
 intro σ a w Q hdst hn hr
 obtain ⟨m1,m2⟩:=zDR σ.us Γ.m
 have hft:σ.us.foldl max Γ.m+1∉σ.us:=fun h=>by have:=m2 _ h; omega
 have hn1:Nd {tn:=c.tn,out:=some (.pt (σ.us.foldl max Γ.m+1) 0 0),hw:=[((σ.us.foldl max Γ.m+1),.box (cellsD d))],fr:=[σ.us.foldl max Γ.m+1]} σ:=⟨hn.1,by simp,by simpa using hft⟩
 have hv:=zLX (Γ:=Γ) (ops:=ops) (t:=σ.us.foldl max Γ.m+1) hg hop (c:= {tn:=c.tn,out:=some (.pt (σ.us.foldl max Γ.m+1) 0 0),hw:=[((σ.us.foldl max Γ.m+1),.box (cellsD d))],fr:=[σ.us.foldl max Γ.m+1]}) rfl (by omega) hx hd σ a w Q hdst hn1 hr
 have hwt:Region.wanted o (yielded ops a.tmps)=true:=by simp [Region.wanted,hg]
 rw [if_pos hwt] at hv ⊢
 refine Oper.wp_mono (fun a' w' h'=>?_) hv
 rw [hc]
 exact Rel.zM0 hr.1 (fun k hk=>zJj (a:=a) (w:=w) hr.1 hn hx k (by rwa [zG6] at hk)) (fun d' hd'=>D.zJe (List.all_eq_true.1 hd d' hd')) h'
theorem zI6 {c:Cert} {x:Operand} {T:TypeId} {cs:List D} {d:D} (hg:o.guard=none) (hop:o.op= .load T x) (hc:c= {tn:=c.tn,out:=some d}) (hx:OpF c x (.pb cs)) (hd:zBq Γ.P T cs=some d):Valid Γ ops o c:=by
 rw [hc]
 refine wH hg rfl rfl fun β bs σ a w hn hr=>?_
 have h1:=OpF.rep (c:=c) hx ⟨hn.1,by rw [hc]; simp,by rw [hc]; simp⟩ hr
 simp only [Rep] at h1
 obtain ⟨_,_,b,p,ws,h2,h3,h4,hone,h5⟩:=h1
 obtain ⟨v,h6,h7⟩:=zCj hd h4 hone h5
 refine ⟨v,zCl (s:=Instr.loadAt T (a.eval x)) (by simp [execOp,hop]) ?_,fun d' hd=>by cases hd; exact h7⟩
 rw [h2]
 exact h6
theorem zKL (T:Nat) (x:Operand) (d:D) (hx:OkO x d:=by first|trivial|rfl) (hd:(cellsD d).all D.cell=true:=by kernel_rfl):OpV Γ (.box T x) {tn:=tnO x d,out:=some (.pb (cellsD d))}:=by
 intro ops o hop hg
 exact zK9 hg hop rfl (hx.f (fun y hy=>hy)) hd
theorem zLC {d:D} (T:Nat) (x:Operand) (cs:List D) (hx:OkO x (.pb cs):=by trivial) (hd:zBq Γ.P T cs=some d:=by kernel_rfl):OpV Γ (.load T x) {tn:=tnO x (.pb cs),out:=some d}:=by
 intro ops o hop hg
 exact zI6 hg hop rfl (hx.f (fun y hy=>hy)) hd
end
end Go.Im
set_option linter.unusedVariables false
namespace Go.Im
open Go
section
variable {β:Nat→Loc} {N:Nat→Prop} {w:World}
end
section
variable {Γ:Ctx} {fc:Code} {k:List II} {σ:St} {T:Type} {K:T→Option (D×List Ent)}
end
section
variable {Γ:Ctx} {ops:Array Oper} {o:Oper}
end
end Go.Im
set_option linter.unusedVariables false
namespace Go.Im
open Go
section
variable {Γ:Ctx} {ops:Array Oper} {o:Oper}
end
end Go.Im
set_option linter.unusedVariables false
namespace Go.Im
open Go
def zMD (n:Nat):List Nat→Bool
 |[]=>false
 |m::ms=>Nat.beq n m||zMD n ms
def dl {α:Type} (del:List Nat) (add:List (Nat×α)):List (Nat×α)→List (Nat×α)
 |[]=>add
 |x::l=>match zMD x.1 del with
  |true=>dl del add l
  |false=>x::dl del add l
section
variable {Γ:Ctx} {fc:Code} {k:List II} {σ:St} {T:Type} {K:T→Option (D×List Ent)}
theorem J_d {e:Option T} (p:Nat) (ids:List (Nat×Nat)) (x:List Nat) (y:List (Nat×D)) (x':List Nat) (y':List (Nat×Ent)) {orc:List (Nat×Cert)} (hor:zEH Γ fc p orc) (hj:J Γ fc (aft fc p) (St.mk' (dl x y σ.tm) (dl x' y' σ.hp)) e K)
  (h:(zMv fc σ.tm p k&&Γ.P.follows .mixedOrders,(chk Γ.P Γ.nt Γ.m fc p orc ids σ (dl x y σ.tm) (dl x' y' σ.hp)).1,(chk Γ.P Γ.nt Γ.m fc p orc ids σ (dl x y σ.tm) (dl x' y' σ.hp)).2.2.1,(chk Γ.P Γ.nt Γ.m fc p orc ids σ (dl x y σ.tm) (dl x' y' σ.hp)).2.2.2.2)=
   (true,(chk Γ.P Γ.nt Γ.m fc p orc ids σ (dl x y σ.tm) (dl x' y' σ.hp)).2.1,(chk Γ.P Γ.nt Γ.m fc p orc ids σ (dl x y σ.tm) (dl x' y' σ.hp)).2.2.2.1,true):=by kernel_rfl):J Γ fc k σ e K:=
 J_g p ids _ _ hor hj h
end
end Go.Im
set_option linter.unusedVariables false
namespace Go.Im
open Go
mutual
inductive Wk:D→D→Prop where
 |same {d:D}:Wk d d
 |ln {z n:Nat} {xs:List (List D)}:Wk (.s false z n xs) (.ln n)
 |tu {cs cs':List D}:WkL cs cs'→Wk (.tu cs) (.tu cs')
 |ag {cs cs':List D}:WkL cs cs'→Wk (.ag cs) (.ag cs')
inductive WkL:List D→List D→Prop where
 |nil:WkL [] []
 |cons {d d':D} {ds ds':List D}:Wk d d'→WkL ds ds'→WkL (d::ds) (d'::ds')
end
section
variable {β:Nat→Loc} {N:Nat→Prop} {w:World}
mutual
theorem Wk.rep:∀{d d':D} {v:Value} {bs:List Nat},Wk d d'→Rep β N w true d v bs→Rep β N w true d' v bs
 |_,_,_,_,.same,h=>h
 |_,_,v,bs,.ln (z:=z) (n:=n) (xs:=xs),h=>by
  have e:=Rep.free (d:=.s false z n xs) rfl h
  subst e
  simp only [Rep] at h ⊢
  obtain ⟨_,_,a,cap,h1,h2,_⟩:=h
  exact ⟨trivial,a,cap,h1,h2⟩
 |_,_,v,bs,.tu hl,h=>by
  simp only [Rep] at h ⊢
  obtain ⟨h1,ws,h2,h3⟩:=h
  exact ⟨trivial,ws,h2,WkL.rep hl h3⟩
 |_,_,v,bs,.ag hl,h=>by
  simp only [Rep] at h ⊢
  obtain ⟨h1,ws,h2,h4,h3⟩:=h
  exact ⟨trivial,ws,h2,h4,WkL.rep hl h3⟩
theorem WkL.rep:∀{ds ds':List D} {vs:List Value} {bs:List Nat},WkL ds ds'→zF β N w true ds vs bs→zF β N w true ds' vs bs
 |_,_,_,_,.nil,h=>h
 |_,_,vs,bs,.cons h1 h2,h=>by
  simp only [zF] at h ⊢
  obtain ⟨v,vs',b1,b2,h3,h4,h5,h6⟩:=h
  exact ⟨v,vs',b1,b2,h3,h4,Wk.rep h1 h5,WkL.rep h2 h6⟩
end
end
def s2b (s:ByteArray):List Int:=s.data.toList.map fun b=>(b.toNat:Int)
theorem zCX (s:ByteArray):(s2b s).length =s.size:=by simp [s2b]
theorem zEB {β:Nat→Loc} {N:Nat→Prop} {w:World}:∀(xs:List Int),zU β N w (xs.map eU8) (xs.map (Value.int .u8)) []
 |[]=>by simp [zU]
 |x::xs=>by
  simp only [List.map_cons,zU]
  refine ⟨[.int .u8 x],_,[],[],rfl,rfl,?_,zEB xs⟩
  simp only [eU8,zF,Rep]
  exact ⟨_,[],[],[],rfl,rfl,⟨rfl,rfl⟩,rfl,rfl⟩
theorem zEr (w:World) (e:TypeId) (s:ByteArray):(Lib.bytesWorld w e s).heap =w.heap.push (.cells (Lib.bytesCells w e s) e ((Lib.bytesCells w e s).size,(Lib.bytesCells w e s).size +1)):=by
 apply Array.ext_getElem?
 intro i
 rcases Nat.lt_trichotomy i w.heap.size with h|h|h
 ·rw [Lib.bytesWorld_at_old w e s i h,Array.getElem?_push,if_neg (by omega)]
 ·subst h
  rw [Lib.bytesWorld_at_new,Array.getElem?_push,if_pos rfl]
 ·rw [Array.getElem?_eq_none (by rw [Lib.bytesWorld_size]; omega),Array.getElem?_eq_none (by simp; omega)]
section
variable {Γ:Ctx} {ops:Array Oper} {o:Oper}
theorem zM8 {c:Cert} {x:Operand} {S Dd e:TypeId} {s:ByteArray} (hg:o.guard=none) (hop:o.op= .convert S Dd x)
  (hc:c= {tn:=c.tn,hn:=c.hn,out:=some (.s false 1 (s2b s).length ((s2b s).map eU8))}) (hx:OpF c x (.sc (.string s)))
  (hs:Γ.P.underlying S=some .string) (hd:Γ.P.underlying Dd=some (.slice e)) (he:Γ.P.underlying e=some (.int .u8)):Valid Γ ops o c:=by
 intro σ a w Q hdst hn ⟨h0,β,bs,hr⟩
 have hwt:Region.wanted o (yielded ops a.tmps)=true:=by simp [Region.wanted,hg]
 rw [if_pos hwt]
 have h1:=OpF.rep hx hn hr
 simp only [Rep] at h1
 have hrun:(execOp a.eval o).run Γ.P w= .ok (.value (.slice (some ⟨w.heap.size,0,none⟩) (s2b s).length (grownCap w s.size 0 e))) (Lib.bytesWorld w e s):=by
  refine zCl (s:=convert S Dd (a.eval x)) (by simp [execOp,hop]) ?_
  rw [h1.1,zCX]
  exact Lib.run_convert_string_bytes w S Dd e s hs hd he
 unfold Oper.wp
 rw [hrun,Oper.upon_value]
 have hge:=grownCap_ge w s.size 0 e
 have hheap:=zEr w e s
 have hlt:∀b∈bs,b<w.heap.size:=fun b hb=>(hr.own b hb).1
 refine Rel.step (β1:=β) (bk:=bs) (br:=[]) (bn:=[]) h0 hr hdst (by rw [hc]; simp) (by rw [hc]; simp) (.refl _) (by rw [hc]; exact (zCV σ.hp).symm ▸hr.hp) (by rw [Lib.bytesWorld_size]; omega) (fun b' hb' _=>Lib.bytesWorld_at_old w e s b' hb') (fun _ _=>rfl) (fun _ _=>rfl) (by simp) (by simp) (by rw [hc]; exact rfl) ?_ ⟨rfl,rfl⟩
 intro d hd'
 rw [hc] at hd'
 cases hd'
 simp only [Rep]
 refine ⟨by simp,fun y hy=>by obtain ⟨z,_,rfl⟩:=List.mem_map.1 hy; rfl,_,_,rfl,by rw [zCX]; exact hge,.inr (.inl ⟨trivial,w.heap.size,0,(s2b s).map (Value.int .u8),rfl,⟨.inr (.inr hr.grow),by rw [Lib.bytesWorld_size]; omega,fun h=>by have:=hlt _ (by simpa using h); omega⟩,⟨_,e,_,Lib.bytesWorld_at_new w e s,fun k hk=>?_⟩,zEB _,trivial⟩)⟩
 have hk':k<s.data.size:=by simpa [s2b] using hk
 have hk2:k<s.size:=hk'
 simp [Lib.bytesCells,s2b,Array.getElem?_append,hk2]
theorem zL1 {s:ByteArray} (S Dd e:Nat) (x:Operand) (hx:OkO x (.sc (.string s)):=by first|trivial|rfl) (hT:(Γ.P.underlying S,Γ.P.underlying Dd,Γ.P.underlying e)=(some .string,some (.slice e),some (.int .u8)):=by kernel_rfl):
  OpV Γ (.convert S Dd x) {tn:=tnO x (.sc (.string s)),out:=some (.s false 1 (s2b s).length ((s2b s).map eU8))}:=by
 simp only [Prod.mk.injEq] at hT
 intro ops o hop hg
 exact zM8 hg hop rfl (hx.f (fun y hy=>hy)) hT.1 hT.2.1 hT.2.2
end
end Go.Im
set_option linter.unusedVariables false
namespace Go.Im
open Go
section
variable {Γ:Ctx} {ops:Array Oper} {o:Oper}
end
end Go.Im
set_option linter.unusedVariables false
namespace Go.Im
open Go
end Go.Im
set_option linter.unusedVariables false
namespace Go.Im
open Go
end Go.Im
set_option linter.unusedVariables false
namespace Go.Im
open Go
theorem zL5.world {w w1 w2:World} {z n m:Nat} {wx wy:List Value} {blk:List Nat} {r:Value} (h:zL5 w w1 z n m wx wy blk r) (hn:0<n+m) (hh:w2.heap=w1.heap) (hq:w2.os=w1.os∧w2.output=w1.output):zL5 w w2 z n m wx wy blk r:=by
 obtain ⟨h1,h2⟩:=h
 refine ⟨⟨hq.1.trans h1.1,hq.2.trans h1.2⟩,?_⟩
 rcases h2 with ⟨h2,_⟩|⟨b,off,c,h3,h4,h5,h6,h7⟩
 ·omega
 ·exact .inr ⟨b,off,c,h3,h4,h5.frame (by rw [hh]),by rw [hh]; exact h6,by rw [hh]; exact h7⟩
end Go.Im
set_option linter.unusedVariables false
namespace Go.Im
open Go
section
variable {Γ:Ctx} {ops:Array Oper} {o:Oper}
end
end Go.Im
set_option linter.unusedVariables false
namespace Go.Im
open Go
theorem FzT.all {t z:Nat} {xs:List (List D)}:∀{l:List (Nat×D)},(∀x∈l,x.2.men.contains t=false)→FzT t z xs l l
 |[],_=>.nil
 |(q,d)::l,h=>.cons (.keep (h (q,d) (by simp))) (FzT.all fun x hx=>h x (by simp [hx]))
theorem FzH.all {t z:Nat} {xs:List (List D)}:∀{l:List (Nat×Ent)},(∀x∈l,x.2.men.contains t=false)→FzH t z xs l l
 |[],_=>.nil
 |(q,e)::l,h=>.keep (h (q,e) (by simp)) (FzH.all fun x hx=>h x (by simp [hx]))
end Go.Im

import Derived.Test.YtghacmkpcjdpjaaGreatDoorImE
import Derived.Lib.SplitLaws
import Derived.Lib.ConvBytes
import Derived.Sort.EncStr
import Derived.Laws.IdiomCopy
set_option linter.unusedVariables false
namespace Go.Im
open Go
def D.zJJ:D→Bool
 | .sc _=>true
 |_=>false
section
variable {β:Nat→Loc} {N:Nat→Prop} {w:World}
theorem zDF:∀{cs:List D} {ws:List Value} {bs:List Nat},cs.all D.zJJ=true→zD β N w true cs ws bs→zD β N w false cs ws bs∧bs=[]
 |[],ws,bs,_,h=>by simp only [zD] at h ⊢; exact ⟨h,h.2⟩
 |d::cs,ws,bs,hc,h=>by
  simp only [List.all_cons,Bool.and_eq_true] at hc
  simp only [zD] at h ⊢
  obtain ⟨v,vs,b1,b2,rfl,rfl,h3,h4⟩:=h
  obtain ⟨h5,rfl⟩:=zDF hc.2 h4
  cases d with
  |sc u=>
   simp only [Rep] at h3 ⊢
   obtain ⟨rfl,rfl⟩:=h3
   exact ⟨⟨_,vs,[],[],rfl,rfl,⟨rfl,rfl⟩,h5⟩,rfl⟩
  |_=>simp [D.zJJ] at hc
theorem zFS:∀{xs:List (List D)} {ws:List Value} {bs:List Nat},(∀x∈xs,x.all D.zJJ=true)→zD β N w true xs.flatten ws bs→zN β N w xs ws []∧bs=[]
 |[],ws,bs,_,h=>by simp only [List.flatten_nil,zD] at h; simp only [zN]; exact ⟨⟨h.1,trivial⟩,h.2⟩
 |x::xs,ws,bs,hx,h=>by
  rw [List.flatten_cons] at h
  obtain ⟨b1,b2,rfl,h1,h2⟩:=zD.split x.length h
  rw [List.take_left] at h1
  rw [List.drop_left] at h2
  obtain ⟨h3,rfl⟩:=zDF (hx x (by simp)) h1
  obtain ⟨h4,rfl⟩:=zFS (fun y hy=>hx y (by simp [hy])) h2
  simp only [zN]
  exact ⟨⟨ws.take x.length,ws.drop x.length,[],[],(List.take_append_drop _ _).symm,rfl,h3,h4⟩,rfl⟩
end
def zK5 (t:Nat):D→Bool
 | .pt _ 0 _=>true
 |d=> !(d.men.contains t)
section
variable {Γ:Ctx} {fc:Code} {k:List II} {σ:St} {T:Type} {K:T→Option (D×List Ent)}
theorem zIJ {β:Nat→Loc} {N:Nat→Prop} {w:World} {t z:Nat} {d:D} {v:Value} (ho:zK5 t d=true) (h:Rep β N w true d v []):Rep (zAW β t {(β t) with z:=z}) N w true d v []:=by
 have key:t∉d.men→Rep (zAW β t {(β t) with z:=z}) N w true d v []:=fun hm=>
  Rep.frame (fun b hb=>⟨hb,rfl⟩) d true v [] (by simp) (fun k hk=>vT (fun e=>hm (e▸hk))) h
 unfold zK5 at ho
 split at ho
 ·rename_i t' j
  simp only [Rep] at h ⊢
  by_cases e:t'=t
  ·subst e
   rw [yD]
   simpa using h
  ·rw [vT e]; exact h
 ·exact key (by simpa using ho)
theorem zIG {e:Option T} (t:Nat) {z:Nat} {cs:List D} {xs:List (List D)} {tm:List (Nat×D)} {hp:List (Nat×Ent)} (hxs:xs.flatten=cs) (hz:xs.all (fun x=>x.length==z&&x.all D.zJJ)=true) (htm:tm.all (fun x=>zK5 t x.2)=true)
  (hhp:(zBs hp).contains t=false) (hm:Nat.ble Γ.m t=true) (hj:J Γ fc k (St.mk' tm ((t,.row z xs)::hp)) e K):J Γ fc k (St.mk' tm ((t,.box cs)::hp)) e K:=by
 subst hxs
 refine zCP (fun a w hr=>?_) hj
 obtain ⟨h0,β,bs,h⟩:=hr
 obtain ⟨b1,b2,rfl,⟨hnil,_,ws,hO,_,hcr⟩,hrest⟩:=h.hp
 have hall:∀x∈xs,x.length=z∧x.all D.zJJ=true:=fun x hx=>by
  have:=List.all_eq_true.1 hz x hx
  simpa using this
 obtain ⟨hE,rfl⟩:=zFS (fun x hx=>(hall x hx).2) hcr
 have htn:t∉zBs hp:=by simpa using hhp
 have hown:(zAW β t {(β t) with z:=z} t).own =(β t).own :=by rw [yD]; rfl
 refine ⟨?_,zAW β t {(β t) with z:=z},(β t).own ++([]++b2),{defers:=h.defers,size:=h.size,keys:=h.keys,par:=fun k hk=>?_,grow:=h.grow,gh:=h.gh,quiet:=h.quiet,keep:=h.keep,hp:=?_,nodup:=h.nodup,own:=h.own,tm:=?_}⟩
 ·intro q hq
  simp only [St.mk',List.mem_append]
  exact hq
 ·have:=Nat.le_of_ble_eq_true hm
  rw [vT (by omega)]
  exact h.par k hk
 ·refine ⟨[],b2,by rw [hown],⟨by rw [yD],fun x hx=>(hall x hx).1,.inr ⟨by rw [yD]; exact hnil,ws,?_,?_⟩⟩,?_⟩
  ·rw [yD]; exact hO
  ·exact zN.frame (fun b hb=>⟨hb,rfl⟩) xs ws [] (by simp) hE
  ·refine xV.frame (fun b hb=>⟨hb,rfl⟩) _ _ (fun _ _=>rfl) (fun q hq=>vT (fun e=>htn (e▸hq))) hrest
 ·intro q d hd
  obtain ⟨v,h1,h2⟩:=h.tm q d hd
  exact ⟨v,h1,zIJ (List.all_eq_true.1 htm _ hd) h2⟩
end
section
variable {Γ:Ctx} {ops:Array Oper} {o:Oper}
theorem zF8 {c:Cert} {x y:Operand} {T el:TypeId} {k:IntKind} {z n t j:Nat} {i:Int} {xs:List (List D)} (hg:o.guard=none) (hop:o.op= .indexAddr T x y)
  (hc:c= {tn:=c.tn,hn:=c.hn,out:=some (.pt t j 0)}) (hx:OpF c x (.pt t 0 0)) (hy:OpF c y (.sc (.int k i))) (hT:zX Γ.P (underlying T)=some (.array n el)) (hz:zBG Γ.P el=some z)
  (hi:0≤i) (hj:i<n) (hjj:i.toNat=j) (hh:(t,.row z xs)∈c.hn):Valid Γ ops o c:=by
 refine vO (d:=.pt t j 0) (f:=fun ρ=>Instr.indexAt T (ρ x) (ρ y)) hg (fun ρ=>by simp [execOp,hop]) (by rw [hc]) fun β bs σ a w hn hr=>?_
 have h1:=OpF.rep hx hn hr
 have h2:=OpF.rep hy hn hr
 obtain ⟨_,⟨hLz,_⟩,_⟩:=xV.get hr.hp (hn.2.1 _ hh)
 simp only [Rep] at h1 h2
 obtain ⟨_,_,hnil,hv⟩:=h1
 refine ⟨.pointer (some ⟨(β t).b,(β t).o +j*(β t).z +0,none⟩),?_,by simp only [Rep]; exact ⟨trivial,trivial,hnil,trivial⟩⟩
 rw [h2.1,hv]
 unfold Instr.indexAt
 rw [run_bind_ok (a:=(k,i)) (w':=w) rfl]
 simp only
 rw [run_bind_ok (zI _ _ w hT)]
 simp only
 rw [run_bind_ok (a:=(⟨(β t).b,(β t).o +0*(β t).z +0,none⟩:Addr)) (w':=w) rfl]
 rw [run_bind_ok (a:=(some (⟨(β t).b,(β t).o +0*(β t).z +0,none⟩:Addr),n,el)) (w':=w) rfl]
 rw [run_bind_ok (zI _ _ w hT)]
 simp only
 rw [if_pos ⟨hi,hj⟩]
 rw [run_bind_ok (zI _ _ w hz)]
 rw [zAm,hLz,←hjj]
 simp
def zIf {α:Type} (xs:List α) (n:Nat) (i:Int):Option α:=if xs.length=n then idx xs i else none
theorem zBU {α:Type} {xs:List α} {n:Nat} {i:Int} {a:α} (h:zIf xs n i=some a):idx xs i=some a:=by
 unfold zIf at h
 split at h
 ·exact h
 ·cases h
theorem zGZ {α:Type} {xs:List α} {i:Int} {a:α} {kk:IntKind} (T el z t:Nat) (enc:α→List D) (x y:Operand) (n:Nat) (h:zIf xs n i=some a) (hx:OkO x (.pt t 0 0):=by trivial) (hy:OkO y (.sc (.int kk i)):=by first|trivial|rfl)
  (hT:(zX Γ.P (underlying T),zBG Γ.P el)=(some (.array n el),some z):=by kernel_rfl):
  OpV Γ (.indexAddr T x y) {tn:=tnO x (.pt t 0 0)++tnO y (.sc (.int kk i)),hn:=[(t,rE z enc xs)],out:=some (.pt t i.toNat 0)}:=by
 simp only [Prod.mk.injEq] at hT
 unfold zIf at h
 split at h
 ·rename_i hl
  obtain ⟨h1,h2⟩:=zCb h
  have:=(List.getElem?_eq_some_iff.1 h2).1
  intro ops o hop hg
  exact zF8 hg hop rfl (hx.f (fun y hy=>List.mem_append_left _ hy)) (hy.f (fun y hy=>List.mem_append_right _ hy)) hT.1 hT.2 h1 (by omega) rfl (.head _)
 ·cases h
theorem zIq (T:TypeId) (vs:List Value) (hz:zX Γ.P (Instr.build T #[])=some (.agg vs.toArray):=by kernel_rfl) (h1:vs.all Value.oneCell=true:=by kernel_rfl):OpV Γ (.build T #[]) {out:=some (.ag (vs.map D.sc))}:=by
 intro ops o hop hg
 refine vO (d:=.ag (vs.map D.sc)) (f:=fun ρ=>Instr.build T #[]) hg (fun ρ=>by simp [execOp,hop]) rfl fun β bs σ a w hn hr=>?_
 refine ⟨_,zI _ _ w hz,?_⟩
 simp only [Rep]
 exact ⟨trivial,vs,rfl,fun x hx=>List.all_eq_true.1 h1 x hx,zBg vs⟩
end
end Go.Im
set_option linter.unusedVariables false
namespace Go.Im
open Go
section
variable {Γ:Ctx} {ops:Array Oper} {o:Oper}
end
end Go.Im
set_option linter.unusedVariables false
namespace Go.Im
open Go
def zKL (n:Nat):List Nat→Bool
 |[]=>false
 |m::ms=>Nat.beq n m||zKL n ms
def dl {α:Type} (del:List Nat) (add:List (Nat×α)):List (Nat×α)→List (Nat×α)
 |[]=>add
 |x::l=>match zKL x.1 del with
  |true=>dl del add l
  |false=>x::dl del add l
section
variable {Γ:Ctx} {fc:Code} {k:List II} {σ:St} {T:Type} {K:T→Option (D×List Ent)}
theorem J_d {e:Option T} (p:Nat) (ids:List (Nat×Nat)) (x:List Nat) (y:List (Nat×D)) (x':List Nat) (y':List (Nat×Ent)) {orc:List (Nat×Cert)} (hor:zDB Γ fc p orc) (hj:J Γ fc (aft fc p) (St.mk' (dl x y σ.tm) (dl x' y' σ.hp)) e K)
  (h:(zK4 fc σ.tm p k&&Γ.P.follows .mixedOrders,(chk Γ.P Γ.nt Γ.m fc p orc ids σ (dl x y σ.tm) (dl x' y' σ.hp)).1,(chk Γ.P Γ.nt Γ.m fc p orc ids σ (dl x y σ.tm) (dl x' y' σ.hp)).2.2.1,(chk Γ.P Γ.nt Γ.m fc p orc ids σ (dl x y σ.tm) (dl x' y' σ.hp)).2.2.2.2)=
   (true,(chk Γ.P Γ.nt Γ.m fc p orc ids σ (dl x y σ.tm) (dl x' y' σ.hp)).2.1,(chk Γ.P Γ.nt Γ.m fc p orc ids σ (dl x y σ.tm) (dl x' y' σ.hp)).2.2.2.1,true):=by kernel_rfl):J Γ fc k σ e K:=
 J_g p ids _ _ hor hj h
end
end Go.Im
set_option linter.unusedVariables false
namespace Go.Im
open Go
mutual
inductive Wk:D→D→Prop where
 |same {d:D}:Wk d d
 |ln {z n:Nat} {xs:List (List D)}:Wk (.s false z n xs) (.ln n)
 |tu {cs cs':List D}:WkL cs cs'→Wk (.tu cs) (.tu cs')
 |ag {cs cs':List D}:WkL cs cs'→Wk (.ag cs) (.ag cs')
inductive WkL:List D→List D→Prop where
 |nil:WkL [] []
 |cons {d d':D} {ds ds':List D}:Wk d d'→WkL ds ds'→WkL (d::ds) (d'::ds')
end
section
variable {β:Nat→Loc} {N:Nat→Prop} {w:World}
mutual
theorem Wk.rep:∀{d d':D} {v:Value} {bs:List Nat},Wk d d'→Rep β N w true d v bs→Rep β N w true d' v bs
 |_,_,_,_,.same,h=>h
 |_,_,v,bs,.ln (z:=z) (n:=n) (xs:=xs),h=>by
  have e:=Rep.free (d:=.s false z n xs) rfl h
  subst e
  simp only [Rep] at h ⊢
  obtain ⟨_,_,a,cap,h1,h2,_⟩:=h
  exact ⟨trivial,a,cap,h1,h2⟩
 |_,_,v,bs,.tu hl,h=>by
  simp only [Rep] at h ⊢
  obtain ⟨h1,ws,h2,h3⟩:=h
  exact ⟨trivial,ws,h2,WkL.rep hl h3⟩
 |_,_,v,bs,.ag hl,h=>by
  simp only [Rep] at h ⊢
  obtain ⟨h1,ws,h2,h4,h3⟩:=h
  exact ⟨trivial,ws,h2,h4,WkL.rep hl h3⟩
theorem WkL.rep:∀{ds ds':List D} {vs:List Value} {bs:List Nat},WkL ds ds'→zD β N w true ds vs bs→zD β N w true ds' vs bs
 |_,_,_,_,.nil,h=>h
 |_,_,vs,bs,.cons h1 h2,h=>by
  simp only [zD] at h ⊢
  obtain ⟨v,vs',b1,b2,h3,h4,h5,h6⟩:=h
  exact ⟨v,vs',b1,b2,h3,h4,Wk.rep h1 h5,WkL.rep h2 h6⟩
end
end
theorem zKF {P:Program} {f:FuncId} {args:List D} {hin:List Ent} {R:Type} {e:Option R} {g:R→D×List Ent} (g':R→D×List Ent) (h:Ok P f args hin (e.map g)) (hw:∀r,Wk (g r).1 (g' r).1) (he:∀r,(g r).2=(g' r).2:=by intro _; rfl):
  Ok P f args hin (e.map g'):=by
 intro out ho w N β vs bs h1 h2 h3 h4 h5 h6
 cases e with
 |none=>cases ho
 |some r=>
  simp only [Option.map_some,Option.some.injEq] at ho
  subst ho
  refine (h (g r) rfl w N β vs bs h1 h2 h3 h4 h5 h6).mono ?_
  rintro e' w' ⟨v,b1,b2,q1,q2,q3,q4,q5,q6,q7,q8⟩
  exact ⟨v,b1,b2,q1,q2,q3,q4,q5,q6,(hw r).rep q7,by rw [←he r]; exact q8⟩
def s2b (s:ByteArray):List Int:=s.data.toList.map fun b=>(b.toNat:Int)
theorem zDL (s:ByteArray):(s2b s).length =s.size:=by simp [s2b]
theorem zB9 {β:Nat→Loc} {N:Nat→Prop} {w:World}:∀(xs:List Int),zN β N w (xs.map eU8) (xs.map (Value.int .u8)) []
 |[]=>by simp [zN]
 |x::xs=>by
  simp only [List.map_cons,zN]
  refine ⟨[.int .u8 x],_,[],[],rfl,rfl,?_,zB9 xs⟩
  simp only [eU8,zD,Rep]
  exact ⟨_,[],[],[],rfl,rfl,⟨rfl,rfl⟩,rfl,rfl⟩
theorem zCX (w:World) (e:TypeId) (s:ByteArray):(Lib.bytesWorld w e s).heap =w.heap.push (.cells (Lib.bytesCells w e s) e ((Lib.bytesCells w e s).size,(Lib.bytesCells w e s).size +1)):=by
 apply Array.ext_getElem?
 intro i
 rcases Nat.lt_trichotomy i w.heap.size with h|h|h
 ·rw [Lib.bytesWorld_at_old w e s i h,Array.getElem?_push,if_neg (by omega)]
 ·subst h
  rw [Lib.bytesWorld_at_new,Array.getElem?_push,if_pos rfl]
 ·rw [Array.getElem?_eq_none (by rw [Lib.bytesWorld_size]; omega),Array.getElem?_eq_none (by simp; omega)]
section
variable {Γ:Ctx} {ops:Array Oper} {o:Oper}
theorem zK0 {c:Cert} {x:Operand} {S Dd e:TypeId} {s:ByteArray} (hg:o.guard=none) (hop:o.op= .convert S Dd x)
  (hc:c= {tn:=c.tn,hn:=c.hn,out:=some (.s false 1 (s2b s).length ((s2b s).map eU8))}) (hx:OpF c x (.sc (.string s)))
  (hs:Γ.P.underlying S=some .string) (hd:Γ.P.underlying Dd=some (.slice e)) (he:Γ.P.underlying e=some (.int .u8)):Valid Γ ops o c:=by
 intro σ a w Q hdst hn ⟨h0,β,bs,hr⟩
 have hwt:Region.wanted o (yielded ops a.tmps)=true:=by simp [Region.wanted,hg]
 rw [if_pos hwt]
 have h1:=OpF.rep hx hn hr
 simp only [Rep] at h1
 have hrun:(execOp a.eval o).run Γ.P w= .ok (.value (.slice (some ⟨w.heap.size,0,none⟩) (s2b s).length (grownCap w s.size 0 e))) (Lib.bytesWorld w e s):=by
  refine zAx (s:=convert S Dd (a.eval x)) (by simp [execOp,hop]) ?_
  rw [h1.1,zDL]
  exact Lib.run_convert_string_bytes w S Dd e s hs hd he
 unfold Oper.wp
 rw [hrun,Oper.upon_value]
 have hge:=grownCap_ge w s.size 0 e
 have hheap:=zCX w e s
 have hlt:∀b∈bs,b<w.heap.size:=fun b hb=>(hr.own b hb).1
 refine Rel.step (β1:=β) (bk:=bs) (br:=[]) (bn:=[]) h0 hr hdst (by rw [hc]; simp) (by rw [hc]; simp) (.refl _) (by rw [hc]; exact (zBW σ.hp).symm ▸hr.hp) (by rw [Lib.bytesWorld_size]; omega) (fun b' hb' _=>Lib.bytesWorld_at_old w e s b' hb') (fun _ _=>rfl) (fun _ _=>rfl) (by simp) (by simp) (by rw [hc]; exact rfl) ?_ ⟨rfl,rfl⟩
 intro d hd'
 rw [hc] at hd'
 cases hd'
 simp only [Rep]
 refine ⟨by simp,fun y hy=>by obtain ⟨z,_,rfl⟩:=List.mem_map.1 hy; rfl,_,_,rfl,by rw [zDL]; exact hge,.inr (.inl ⟨trivial,w.heap.size,0,(s2b s).map (Value.int .u8),rfl,⟨.inr (.inr hr.grow),by rw [Lib.bytesWorld_size]; omega,fun h=>by have:=hlt _ (by simpa using h); omega⟩,⟨_,e,_,Lib.bytesWorld_at_new w e s,fun k hk=>?_⟩,zB9 _,trivial⟩)⟩
 have hk':k<s.data.size:=by simpa [s2b] using hk
 have hk2:k<s.size:=hk'
 simp [Lib.bytesCells,s2b,Array.getElem?_append,hk2]
theorem zKC {s:ByteArray} (S Dd e:Nat) (x:Operand) (hx:OkO x (.sc (.string s)):=by first|trivial|rfl) (hT:(Γ.P.underlying S,Γ.P.underlying Dd,Γ.P.underlying e)=(some .string,some (.slice e),some (.int .u8)):=by kernel_rfl):
  OpV Γ (.convert S Dd x) {tn:=tnO x (.sc (.string s)),out:=some (.s false 1 (s2b s).length ((s2b s).map eU8))}:=by
 simp only [Prod.mk.injEq] at hT
 intro ops o hop hg
 exact zK0 hg hop rfl (hx.f (fun y hy=>hy)) hT.1 hT.2.1 hT.2.2
theorem zKE {c:Cert} {x:Operand} {T el:TypeId} {t:Nat} {xs:List Int} (hg:o.guard=none) (hop:o.op= .convert T T x)
  (hc:c= {tn:=c.tn,hn:=c.hn,out:=some (.s false 1 xs.length (xs.map eU8)),hx:=[t]}) (hx:OpF c x (.rf t 0 xs.length none)) (hh:(t,.row 1 (xs.map eU8))∈c.hn) (hl:0<xs.length)
  (hT:Γ.P.underlying T=some (.slice el)) (he:Γ.P.underlying el=some (.int .u8)):Valid Γ ops o c:=by
 intro σ a w Q hdst hn ⟨h0,β,bs,hr⟩
 have hwt:Region.wanted o (yielded ops a.tmps)=true:=by simp [Region.wanted,hg]
 rw [if_pos hwt]
 obtain ⟨b1,bk,p1,hE1,hrest⟩:=xV.take hr.hp hr.keys (hn.2.1 _ hh)
 have h1:=OpF.rep hx hn hr
 simp only [Rep] at h1
 obtain ⟨hLz,hzz,hrow⟩:=hE1
 obtain ⟨_,_,⟨hnil,_,hn0,_⟩|⟨hnil,cp,hv,hcap,hroom,_⟩⟩:=h1
 ·omega
 rcases hrow with ⟨hnil',_⟩|⟨_,ws,hO,hE⟩
 ·rw [hnil] at hnil'; cases hnil'
 have hown:(β t).own =[(β t).b]:=by simp [Loc.own,hnil]
 have hws:=zE5 hE
 subst hws
 obtain ⟨arr,e,lo,hi,g1,g2,g3,g4⟩:=hO
 have hsh:w.shape? (β t).b =some (e,arr.size):=by simp [World.shape?,g1]
 have hrun:(execOp a.eval o).run Γ.P w= .ok (.value (a.eval x)) (w.freeze ⟨(β t).b,arr.size,none⟩ 1):=by
  refine zAx (s:=convert T T (a.eval x)) (by simp [execOp,hop]) ?_
  rw [hv]
  simp [convert,run_underlying hT,run_underlying he,markStringish,hsh]
 unfold Oper.wp
 rw [hrun,Oper.upon_value]
 have hne:∀b',b'≠(β t).b →(w.freeze ⟨(β t).b,arr.size,none⟩ 1).heap[b']? =w.heap[b']? :=fun b' hb=>by
  unfold World.freeze
  rw [if_neg (by decide)]
  simp only [Array.getElem?_modify]
  rw [if_neg (fun e=>hb e.symm)]
 have hsz:(w.freeze ⟨(β t).b,arr.size,none⟩ 1).heap.size =w.heap.size:=by
  unfold World.freeze
  rw [if_neg (by decide)]
  simp
 have hat:∃fz,(w.freeze ⟨(β t).b,arr.size,none⟩ 1).heap[(β t).b]? =some (.cells arr e fz):=by
  unfold World.freeze
  rw [if_neg (by decide)]
  simp only [Array.getElem?_modify,if_true,g1,Option.map_some]
  exact ⟨_,rfl⟩
 obtain ⟨fz,hat⟩:=hat
 have hbin:(β t).b ∈bs:=p1.mem_iff.2 (by simp [hown])
 have hnd:=p1.nodup_iff.1 hr.nodup
 have hob:=hr.own _ hbin
 have hNS:NS Γ (w.freeze ⟨(β t).b,arr.size,none⟩ 1) ([]++bk) (β t).b :=by
  refine ⟨?_,by rw [hsz]; exact hob.1,fun h=>?_⟩
  ·rcases hob.2 with h|h
   ·exact .inr (.inl h)
   ·exact .inr (.inr h)
  ·have:=(List.nodup_append.1 hnd).2.2 (β t).b (by simp [hown]) (β t).b (by simp at h; simp [h])
   exact this rfl
 refine Rel.step (β1:=β) (bk:=bk) (br:=(β t).own ++b1) (bn:=[]) h0 hr hdst (by rw [hc]; simp) (by rw [hc]; simp) (by simpa using p1) ?_ (by rw [hsz]; exact Nat.le_refl _) (fun b' _ hb'=>hne b' (fun e=>hb' (by simp [hown,e]))) (fun _ _=>rfl) (fun _ _=>rfl) (by simp) (by simp) (by rw [hc]; exact rfl) ?_ (by unfold World.freeze; rw [if_neg (by decide)]; exact ⟨rfl,rfl⟩)
 ·rw [hc]
  have:=hrest
  rw [show (σ.hp.filter fun x=> !([t]:List Nat).contains x.1)=σ.hp.filter (fun x=>x.1 !=t) from by
   congr 1; funext x; by_cases h:x.1=t<;>simp [h]]
  exact hrest
 ·intro d hd
  rw [hc] at hd
  cases hd
  simp only [Rep]
  refine ⟨by simp,fun y hy=>by obtain ⟨z,_,rfl⟩:=List.mem_map.1 hy; rfl,_,cp,hv,hcap,.inr (.inl ⟨trivial,_,_,_,rfl,hNS,⟨arr,e,fz,hat,fun k hk=>?_⟩,zB9 xs,trivial⟩)⟩
  have:=g4 k hk
  simpa using this
theorem zKH {xs:List Int} (T el t:Nat) (x:Operand) (hx:OkO x (.rf t 0 xs.length none):=by trivial) (hl:0<xs.length:=by simp) (hT:(Γ.P.underlying T,Γ.P.underlying el)=(some (.slice el),some (.int .u8)):=by kernel_rfl):
  OpV Γ (.convert T T x) {tn:=tnO x (.rf t 0 xs.length none),hn:=[(t,rE 1 eU8 xs)],out:=some (.s false 1 xs.length (xs.map eU8)),hx:=[t]}:=by
 simp only [Prod.mk.injEq] at hT
 intro ops o hop hg
 exact zKE hg hop rfl (hx.f (fun y hy=>hy)) (.head _) hl hT.1 hT.2
end
end Go.Im
set_option linter.unusedVariables false
namespace Go.Im
open Go
section
variable {Γ:Ctx} {ops:Array Oper} {o:Oper}
end
end Go.Im
set_option linter.unusedVariables false
namespace Go.Im
open Go
end Go.Im
set_option linter.unusedVariables false
namespace Go.Im
open Go
theorem zHC {P:Program} {f:FuncId} {w w':World} {N:Nat→Prop} {bs blk bsub:List Nat} {m z k:Nat} {β:Nat→Loc} {L:List (List D)} {W:List Value} {r:Value}
  (hE:zN β N w L W bsub) (hz:∀e∈L,e.length=z) (hk:L.length=k) (ha:zGO w w' z k 0 W [] blk r) (hblk:∀b∈blk,b∈bs) (hsub:∀b∈bsub,b∈bs) (hnd:bsub.Nodup)
  (hsep:∀b∈bsub,b∉blk) (hlt:∀b∈bs,b<w.heap.size) (hN:∀b,N b→b<w.heap.size∧b∉bs):Post ⟨P,f,w,N,bs,m,β,0⟩ (.s true z k L) [] (.returned r) w':=by
 obtain ⟨hq,ha⟩:=ha
 rcases ha with ⟨hk0,_,rfl,rfl⟩|⟨b,off,c,rfl,hc,hO,hb,hcase⟩
 ·have hL:L=[]:=List.length_eq_zero_iff.1 (by omega)
  subst hL
  refine ⟨_,[],[],rfl,hq,Nat.le_refl _,fun _ _ _=>rfl,by simp,by simp,?_,rfl⟩
  simp only [Rep]
  exact ⟨hk,hz,none,0,by rw [show k=0 by omega],by omega,.inl ⟨by omega,by trivial,fun _=>⟨by trivial,by trivial⟩⟩⟩
 ·have hcommon:(∀b',b'<w.heap.size→b'∉blk→w'.heap[b']? =w.heap[b']?)∧w.heap.size≤w'.heap.size∧(b∈blk∨w.heap.size≤b):=by
   rcases hcase with ⟨rfl,q1,q2⟩|⟨rfl,q1,q2⟩
   ·exact ⟨fun b' _ hb'=>q1 b' (by simpa using hb'),by omega,.inl (by simp)⟩
   ·exact ⟨fun b' hb' _=>q2 b' hb',q1,.inr (Nat.le_refl _)⟩
  obtain ⟨h1,h2,h3⟩:=hcommon
  have hbn:b∉bsub:=fun h=>by
   rcases h3 with h3|h3
   ·exact hsep b h h3
   ·have:=hlt b (hsub b h); omega
  have hNS:∀b',N b'→NS ⟨P,f,w,N,bs,m,β,0⟩ w' (b::bsub++[]) b'∧w'.heap[b']? =w.heap[b']? :=fun b' hb'=>by
   obtain ⟨u1,u2⟩:=hN b' hb'
   refine ⟨⟨.inl hb',by omega,fun h=>?_⟩,h1 b' u1 (fun h=>u2 (hblk b' h))⟩
   simp only [List.append_nil,List.mem_cons] at h
   rcases h with rfl|h
   ·rcases h3 with h3|h3
    ·exact u2 (hblk _ h3)
    ·omega
   ·exact u2 (hsub b' h)
  refine ⟨_,b::bsub,[],rfl,hq,h2,fun b' hb' hb2=>h1 b' hb' (fun h=>hb2 (hblk b' h)),by simpa using ⟨hbn,hnd⟩,?_,?_,rfl⟩
  ·intro b' hb'
   simp only [List.append_nil,List.mem_cons] at hb'
   rcases hb' with rfl|hb'
   ·refine ⟨hb,?_⟩
    rcases h3 with h3|h3
    ·exact .inl (hblk _ h3)
    ·exact .inr h3
   ·have:=hlt b' (hsub b' hb')
    exact ⟨by omega,.inl (hsub b' hb')⟩
  ·simp only [Rep]
   refine ⟨hk,hz,some ⟨b,off,none⟩,c,rfl,by simpa using hc,.inr (.inr ⟨trivial,b,off,W,bsub,rfl,rfl,by simpa using hO,?_⟩)⟩
   exact zN.frame hNS L W bsub (fun b' hb'=>h1 b' (hlt b' (hsub b' hb')) (hsep b' hb')) hE
theorem zGT {β:Nat→Loc} {N:Nat→Prop} {w:World} {α:Type} {enc:α→List D} {xs:List α} {ws:List Value} {bs:List Nat} (hone:∀a,(enc a).all zAt=true) (h:zN β N w (xs.map enc) ws bs):∀x∈ws,Value.oneCell x=true:=
 zBd (fun e he=>by obtain ⟨a,_,rfl⟩:=List.mem_map.1 he; exact hone a) h
theorem zHa {P:Program} {f:FuncId} {α:Type} {enc:α→List D} {xs ys:List α} {i:Int} {z:Nat} (hone:∀a,(enc a).all zAt=true) (h0:0≤i) (h1:i≤xs.length)
  (hraw:∀(w:World) (v u:Value) (wx wy:List Value) (bx bz:List Nat),Dst w z xs.length v wx bx→Dst w z ys.length u wy bz→(∀b∈bx,b∉bz)→(∀b∈bx++bz,b<w.heap.size)→(∀q∈wx,Value.oneCell q=true)→(∀q∈wy,Value.oneCell q=true)→
   Calls P f #[v,.int .i64 i,u] w fun e w'=>∃r,e= .returned r∧zGO w w' z (xs.length+ys.length) 0 (wx.take (i.toNat*z)++(wy++wx.drop (i.toNat*z))) [] bx r):
  Ok P f [.rf 0 0 xs.length none,.sc (.int .i64 i),.rf 1 0 ys.length none] [.row z (xs.map enc),.row z (ys.map enc)] (some (.s true z (xs.take i.toNat++(ys++xs.drop i.toNat)).length ((xs.take i.toNat++(ys++xs.drop i.toNat)).map enc),[])):=by
 intro out ho w N β vs bs ha hh hnd hlt hN _
 cases ho
 simp only [zD] at ha
 obtain ⟨v,_,a1,a2,rfl,e12,hv,u0,_,a3,a4,rfl,rfl,hi,u,_,a5,a6,rfl,rfl,hu,rfl,rfl⟩:=ha
 have ea:a1=[]∧a3=[]∧a5=[]:=by simpa using e12.symm
 obtain ⟨rfl,rfl,rfl⟩:=ea
 simp only [Rep] at hi
 obtain ⟨rfl,_⟩:=hi
 obtain ⟨b1,_,rfl,hE1,b2,_,rfl,hE2,hnil⟩:=hh
 have hnil':_=[]:=hnil
 subst hnil'
 obtain ⟨wx,hD1,hx,hzx⟩:=zES hv hE1 (by simp)
 obtain ⟨wy,hD2,hy,hzy⟩:=zES hu hE2 (by simp)
 simp only [List.append_nil] at hnd hlt hN ⊢
 have hnd1:=List.nodup_append.1 hnd
 have hnd2:=List.nodup_append.1 hnd1.2.1
 have hnd3:=List.nodup_append.1 hnd2.2.1
 refine (hraw w v u wx wy _ _ hD1 hD2 (fun b hb hb'=>hnd1.2.2 b hb b (by simp [hb']) rfl) (fun b hb=>hlt b (by simp only [List.mem_append] at hb ⊢; rcases hb with h|h<;>simp [h])) (zGT hone hx) (zGT hone hy)).mono ?_
 rintro e w' ⟨r,rfl,hA⟩
 obtain ⟨d1,d2,rfl,g1,g2⟩:=hx.cut i.toNat hzx
 have hdd:=List.nodup_append.1 hnd2.1
 have hL:zN β N w ((xs.take i.toNat++(ys++xs.drop i.toNat)).map enc) (wx.take (i.toNat*z)++(wy++wx.drop (i.toNat*z))) (d1++(b2++d2)):=by
  simp only [List.map_append,List.map_take,List.map_drop]
  exact g1.append (hy.append g2)
 refine zHC (blk:=(β 0).own) hL (fun e he=>?_) (by simp) (by
  rw [show (xs.take i.toNat++(ys++xs.drop i.toNat)).length =xs.length+ys.length by simp; omega]; exact hA) (fun b hb=>by simp [hb]) (fun b hb=>?_) ?_ (fun b hb hb'=>?_) hlt hN
 ·simp only [List.map_append,List.mem_append] at he
  rcases he with he|he|he
  ·rw [List.map_take] at he; exact hzx e (List.mem_of_mem_take he)
  ·exact hzy e he
  ·rw [List.map_drop] at he; exact hzx e (List.mem_of_mem_drop he)
 ·simp only [List.mem_append] at hb ⊢
  rcases hb with h|h|h<;>simp [h]
 ·refine List.nodup_append.2 ⟨hdd.1,List.nodup_append.2 ⟨hnd3.2.1,hdd.2.1,?_⟩,?_⟩
  ·intro x hx' y hy' e
   subst e
   exact hnd2.2.2 x (by simp [hy']) x (by simp [hx']) rfl
  ·intro x hx' y hy' e
   subst e
   rcases List.mem_append.1 hy' with h|h
   ·exact hnd2.2.2 x (by simp [hx']) x (by simp [h]) rfl
   ·exact hdd.2.2 x hx' x h rfl
 ·refine hnd1.2.2 b hb' b ?_ rfl
  simp only [List.mem_append] at hb ⊢
  rcases hb with h|h|h<;>simp [h]
end Go.Im
set_option linter.unusedVariables false
namespace Go.Im
open Go
theorem zHh {arr:Array Value} {o A B:Nat} {X Y W:List Value} (hA:o+A+X.length≤arr.size) (hB:o+B+Y.length≤arr.size)
  (hW:∀k,k<W.length→(if B≤k∧k<B+Y.length then Y[k-B]? else if A≤k∧k<A+X.length then X[k-A]? else arr[o+k]?)=W[k]?):
  ∀k (hk:k<W.length),(kK (kK arr (o+A) X) (o+B) Y)[o+k]? =some W[k]:=by
 intro k hk
 rw [zAq _ _ _ (by rw [xE]; exact hB),zAq _ _ _ hA]
 have:=hW k hk
 rw [List.getElem?_eq_getElem hk] at this
 rw [←this]
 by_cases c1:B≤k∧k<B+Y.length
 ·rw [if_pos (by omega),if_pos c1]; congr 1; omega
 ·rw [if_neg (by omega),if_neg c1]
  by_cases c2:A≤k∧k<A+X.length
  ·rw [if_pos (by omega),if_pos c2]; congr 1; omega
  ·rw [if_neg (by omega),if_neg c2]
theorem zGO.world {w w1 w2:World} {z n m:Nat} {wx wy:List Value} {blk:List Nat} {r:Value} (h:zGO w w1 z n m wx wy blk r) (hn:0<n+m) (hh:w2.heap=w1.heap) (hq:w2.os=w1.os∧w2.output=w1.output):zGO w w2 z n m wx wy blk r:=by
 obtain ⟨h1,h2⟩:=h
 refine ⟨⟨hq.1.trans h1.1,hq.2.trans h1.2⟩,?_⟩
 rcases h2 with ⟨h2,_⟩|⟨b,off,c,h3,h4,h5,h6,h7⟩
 ·omega
 ·exact .inr ⟨b,off,c,h3,h4,h5.frame (by rw [hh]),by rw [hh]; exact h6,by rw [hh]; exact h7⟩
theorem zGW {wx wy:List Value} {n m k0 z:Nat} (hl:wx.length=n*z) (hly:wy.length=m*z) (hk:k0≤n):∀k,k< (wx.take (k0*z)++(wy++wx.drop (k0*z))).length →
  (wx.take (k0*z)++(wy++wx.drop (k0*z)))[k]? =if k<k0*z then wx[k]? else if k< (k0+m)*z then wy[k-k0*z]? else (wx.drop (k0*z))[k-(k0+m)*z]? :=by
 intro k _
 have hkz:k0*z≤n*z:=Nat.mul_le_mul_right _ hk
 have ht:(wx.take (k0*z)).length =k0*z:=by simp; omega
 have e:(k0+m)*z=k0*z+m*z:=Nat.add_mul _ _ _
 by_cases c1:k<k0*z
 ·rw [if_pos c1,List.getElem?_append_left (by omega),List.getElem?_take,if_pos c1]
 ·rw [if_neg c1,List.getElem?_append_right (by omega),ht]
  by_cases c2:k< (k0+m)*z
  ·rw [if_pos c2,List.getElem?_append_left (by omega)]
  ·rw [if_neg c2,List.getElem?_append_right (by omega)]
   congr 1; omega
theorem zGr {w w0:World} (hw0:w0.heap=w.heap∧w0.os=w.os∧w0.output=w.output) {b off c z n m k0:Nat} {wx wy:List Value} (hO:Own w b off (c*z) wx) (hl:wx.length=n*z) (hly:wy.length=m*z) (hk:k0≤n) (hc:n+m≤c):
  zGO w (putCells (putCells w0 b (off+(k0+m)*z) (wx.drop (k0*z))) b (off+k0*z) wy) z (n+m) 0 (wx.take (k0*z)++(wy++wx.drop (k0*z))) [] [b] (.slice (some ⟨b,off,none⟩) (n+m) c):=by
 obtain ⟨arr,e,lo,hi,g1,g2,g3,g4⟩:=hO
 have g1':w0.heap[b]? =some (.cells arr e (lo,hi)):=by rw [hw0.1]; exact g1
 obtain ⟨p1,p2,p3⟩:=yN (off:=off+(k0+m)*z) (vs:=wx.drop (k0*z)) g1'
 obtain ⟨q1,q2,q3⟩:=yN (off:=off+k0*z) (vs:=wy) p1
 have hkz:k0*z≤n*z:=Nat.mul_le_mul_right _ hk
 have e1:(k0+m)*z=k0*z+m*z:=Nat.add_mul _ _ _
 have e2:(n+m)*z=n*z+m*z:=Nat.add_mul _ _ _
 have hcz:(n+m)*z≤c*z:=Nat.mul_le_mul_right _ hc
 have hlen:(wx.take (k0*z)++(wy++wx.drop (k0*z))).length =(n+m)*z:=by simp; omega
 refine ⟨⟨(yT _ _ _ _).1.trans ((yT _ _ _ _).1.trans hw0.2.1),(yT _ _ _ _).2.trans ((yT _ _ _ _).2.trans hw0.2.2)⟩,.inr ⟨b,off,c,rfl,by omega,?_,?_,.inl ⟨rfl,fun b' hb'=>?_,?_⟩⟩⟩
 ·refine ⟨_,e,lo,hi,q1,by rw [xE,xE]; exact g2,by rw [xE,xE]; exact g3,?_⟩
  rw [List.append_nil]
  refine zHh (by simp; omega) (by omega) (fun k hk'=>?_)
  rw [zGW hl hly hk k hk']
  rw [hlen] at hk'
  by_cases c1:k<k0*z
  ·rw [if_neg (by omega),if_neg (by omega),if_pos c1,g4 k (by omega),List.getElem?_eq_getElem]
  ·by_cases c2:k< (k0+m)*z
   ·rw [if_pos (by omega),if_neg c1,if_pos c2]
   ·rw [if_neg (by omega),if_pos (by simp; omega),if_neg c1,if_neg c2]
 ·rw [q3,p3,hw0.1]
  rcases Nat.lt_or_ge b w.heap.size with h|h
  ·exact h
  ·rw [Array.getElem?_eq_none h] at g1; cases g1
 ·rw [q2 b' hb',p2 b' hb',hw0.1]
 ·rw [q3,p3,hw0.1]
theorem zHn {w w0:World} {ROW:Array Value} {e:TypeId} (hw0:w0.heap=w.heap.push (.cells ROW e (0,0))∧w0.os=w.os∧w0.output=w.output) {c z n m k0:Nat} {wx wy:List Value} {blk:List Nat} (hR:∀k,k<k0*z→ROW[k]? =wx[k]?) (hsz:c*z≤ROW.size) (hl:wx.length=n*z) (hly:wy.length=m*z) (hk:k0≤n) (hc:n+m≤c):
  zGO w (putCells (putCells w0 w.heap.size (k0*z) wy) w.heap.size ((k0+m)*z) (wx.drop (k0*z))) z (n+m) 0 (wx.take (k0*z)++(wy++wx.drop (k0*z))) [] blk (.slice (some ⟨w.heap.size,0,none⟩) (n+m) c):=by
 have g1':w0.heap[w.heap.size]? =some (.cells ROW e (0,0)):=by rw [hw0.1]; simp
 obtain ⟨p1,p2,p3⟩:=yN (off:=k0*z) (vs:=wy) g1'
 obtain ⟨q1,q2,q3⟩:=yN (off:=(k0+m)*z) (vs:=wx.drop (k0*z)) p1
 have hkz:k0*z≤n*z:=Nat.mul_le_mul_right _ hk
 have e1:(k0+m)*z=k0*z+m*z:=Nat.add_mul _ _ _
 have e2:(n+m)*z=n*z+m*z:=Nat.add_mul _ _ _
 have hcz:(n+m)*z≤c*z:=Nat.mul_le_mul_right _ hc
 have hlen:(wx.take (k0*z)++(wy++wx.drop (k0*z))).length =(n+m)*z:=by simp; omega
 refine ⟨⟨(yT _ _ _ _).1.trans ((yT _ _ _ _).1.trans hw0.2.1),(yT _ _ _ _).2.trans ((yT _ _ _ _).2.trans hw0.2.2)⟩,.inr ⟨w.heap.size,0,c,rfl,by omega,?_,?_,.inr ⟨rfl,?_,fun b' hb'=>?_⟩⟩⟩
 ·refine ⟨_,e,0,0,q1,by omega,by rw [xE,xE]; omega,?_⟩
  rw [List.append_nil]
  have key:=zHh (arr:=ROW) (o:=0) (A:=k0*z) (B:=(k0+m)*z) (X:=wy) (Y:=wx.drop (k0*z)) (W:=wx.take (k0*z)++(wy++wx.drop (k0*z))) (by omega) (by simp; omega) (fun k hk'=>?_)
  ·simpa using key
  ·rw [zGW hl hly hk k hk']
   rw [hlen] at hk'
   by_cases c1:k<k0*z
   ·rw [if_neg (by omega),if_neg (by omega),if_pos c1,Nat.zero_add,hR k c1]
   ·by_cases c2:k< (k0+m)*z
    ·rw [if_neg (by omega),if_pos (by omega),if_neg c1,if_pos c2]
    ·rw [if_pos (by simp; omega),if_neg c1,if_neg c2]
 ·rw [q3,p3,hw0.1]; simp
 ·rw [q3,p3,hw0.1]; simp
 ·rw [q2 b' (by omega),p2 b' (by omega)]
  exact zAJ hw0.1 hb'
theorem zCm {w:World} {b k:Nat} {arr:Array Value} {e:TypeId} {lo hi:Nat} (h:w.heap[b]? =some (.cells arr e (lo,hi))) (h2:∀k,k≤arr.size→¬(lo≤k∧k<hi)) (hk:k≤arr.size):w.frozen? ⟨b,k,none⟩=false:=by
 have:=h2 k hk
 simp only [World.frozen?,h,Bool.and_eq_false_imp,decide_eq_true_eq,decide_eq_false_iff_not]
 intro h5 h6; exact this ⟨h5,h6⟩
theorem zBh {P:Program} (w:World) (dT sT ty elem:TypeId) (z b o dLen dCap:Nat) (a:Addr) (sLen sCap:Nat) (cs:List Value)
  (hu:P.underlying dT=some (.slice elem)) (hs:(P.info? elem).map (·.size)=some z) (hn:cs.length=Nat.min sLen dLen*z)
  (hsrc:∀j v,cs[j]? =some v→w.cell? (a.add j)=some v) (hc:∀j,j<cs.length→(w.cell? ⟨b,o+j,none⟩).isSome =true) (hf:∀j,j<cs.length→w.frozen? ⟨b,o+j,none⟩=false) (h1:∀v∈cs,v.oneCell'=true):
  (Builtin.copy_ #[dT,sT] ty #[.slice (some ⟨b,o,none⟩) dLen dCap,.slice (some a) sLen sCap]).run P w= .ok (goInt (Nat.min sLen dLen)) (w.setCells b o cs):=by
 have hl:=run_loadCells_list (P:=P) w a cs hsrc
 have hst:=run_storeCells_cells (P:=P) b o cs 0 w (by simpa using hc) (by simpa using hf) h1
 cases hq:P.info? elem with
 |none=>simp [hq] at hs
 |some i=>
  have hi:i.size=z:=by simpa [hq] using hs
  rw [hn] at hl
  simp [Builtin.copy_,run_underlying hu,Builtin.lenOf,Builtin.firstCells,sizeOf,typeInfo,hq,hi,hl,hst]
end Go.Im
set_option linter.unusedVariables false
namespace Go.Im
open Go
section
variable {Γ:Ctx} {ops:Array Oper} {o:Oper}
end
theorem zKA {α:Type} {z:Nat} {enc:α→List D} {xs:List α}:Wk (sl z enc xs) (.ln xs.length):=.ln
end Go.Im
set_option linter.unusedVariables false
namespace Go.Im
open Go
theorem FzT.all {t z:Nat} {xs:List (List D)}:∀{l:List (Nat×D)},(∀x∈l,x.2.men.contains t=false)→FzT t z xs l l
 |[],_=>.nil
 |(q,d)::l,h=>.cons (.keep (h (q,d) (by simp))) (FzT.all fun x hx=>h x (by simp [hx]))
theorem FzH.all {t z:Nat} {xs:List (List D)}:∀{l:List (Nat×Ent)},(∀x∈l,x.2.men.contains t=false)→FzH t z xs l l
 |[],_=>.nil
 |(q,e)::l,h=>.keep (h (q,e) (by simp)) (FzH.all fun x hx=>h x (by simp [hx]))
end Go.Im
set_option linter.unusedVariables false
namespace Go.Im
open Go
def zId (a b:Int):Option Int:=if b=0 then none else some (a.tmod b)
def zKa (k:IntKind) (a b:Int):Option Int:=if b=0 then none else some (k.wrap (a.tdiv b))
section
variable {Γ:Ctx} {ops:Array Oper} {o:Oper}
theorem zKb {op:BinOp} {k k2:IntKind} {a b r:Int} (T U:Nat) (x y:Operand) (hne:op≠ .eql ∧op≠ .neq) (h:∀w,(binOp op T (.int k a) (.int k2 b)).run Γ.P w= .ok (.int k r) w)
  (hx:OkO x (.sc (.int k a))) (hy:OkO y (.sc (.int k2 b))):
  OpV Γ (.binOp op T x y U) {tn:=tnO x (.sc (.int k a))++tnO y (.sc (.int k2 b)),out:=some (.sc (.int k r))}:=by
 intro ops o hop hg
 refine vO (d:=.sc (.int k r)) (f:=fun ρ=>do eqGuard op T x y (ρ x) (ρ y); binOp op T (ρ x) (ρ y)) hg (fun ρ=>by simp [execOp,hop]) rfl fun β bs σ a' w hn hr=>?_
 have h1:=OpF.rep (hx.f (fun y hy=>List.mem_append_left _ hy)) hn hr
 have h2:=OpF.rep (hy.f (fun y hy=>List.mem_append_right _ hy)) hn hr
 simp only [Rep] at h1 h2
 refine ⟨_,?_,by simp only [Rep]; exact ⟨rfl,trivial⟩⟩
 rw [h1.1,h2.1]
 have e:(eqGuard op T x y (.int k a) (.int k2 b)).run Γ.P w= .ok () w:=by
  obtain ⟨n1,n2⟩:=hne
  cases op<;>first|rfl|exact absurd rfl n1|exact absurd rfl n2
 rw [run_bind_ok e]
 exact h w
theorem zIr {k:IntKind} {a b r:Int} (T U:Nat) (x y:Operand) (h:zId a b=some r) (hx:OkO x (.sc (.int k a)):=by first|trivial|rfl) (hy:OkO y (.sc (.int k b)):=by first|trivial|rfl):
  OpV Γ (.binOp .rem T x y U) {tn:=tnO x (.sc (.int k a))++tnO y (.sc (.int k b)),out:=some (.sc (.int k r))}:=by
 refine zKb T U x y (by decide) (fun w=>?_) hx hy
 unfold zId at h
 split at h
 ·cases h
 ·cases h
  unfold binOp
  simp only [ne_eq,not_true_eq_false,if_false,Op.intDiv]
  rw [if_neg (by assumption)]
  rfl
theorem zKz {k:IntKind} {a b r:Int} (T U:Nat) (x y:Operand) (h:zKa k a b=some r) (hx:OkO x (.sc (.int k a)):=by first|trivial|rfl) (hy:OkO y (.sc (.int k b)):=by first|trivial|rfl):
  OpV Γ (.binOp .quo T x y U) {tn:=tnO x (.sc (.int k a))++tnO y (.sc (.int k b)),out:=some (.sc (.int k r))}:=by
 refine zKb T U x y (by decide) (fun w=>?_) hx hy
 unfold zKa at h
 split at h
 ·cases h
 ·cases h
  unfold binOp
  simp only [ne_eq,not_true_eq_false,if_false,Op.intDiv]
  rw [if_neg (by assumption)]
  rfl
end
end Go.Im

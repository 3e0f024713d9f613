import Derived.Test.YtlagdfkkokgakaaImE
import Derived.Lib.SplitLaws
import Derived.Lib.ConvBytes
import Derived.Sort.EncStr
import Derived.Laws.IdiomCopy
set_option linter.unusedVariables false
namespace Go.Im
open Go
section
variable {Γ:Ctx} {ops:Array Oper} {o:Oper}
theorem Rel.zFN {σ:St} {a:Act} {w:World} {dst:Option Nat} {tn:List (Nat×D)} {t:Nat} {cs:List D} (hus:∀k,k∈zAY σ.tm∨k∈jR σ.hp→k∈σ.us) (hcs:∀k∈D.men.uZ cs,k∈σ.us) (hfree:∀d∈cs,d.free=true)
  (h:Rel Γ (σ.upd dst {tn:=tn,out:=some (.pt t 0 0),hw:=[(t,.box cs)],fr:=[t]}) a w):Rel Γ (σ.upd dst {tn:=tn,out:=some (.pb cs)}) a w:=by
 obtain ⟨_,β,bs,h⟩:=h
 obtain ⟨b1,b2,rfl,⟨hnil,_,ws,hO,hone,hcr⟩,hrest⟩:=h.hp
 obtain rfl:b1=[]:=zF.frees hfree hcr
 have hown:(β t).own =[(β t).b]:=by simp [Loc.own,hnil]
 have hnd:=h.nodup
 rw [hown] at hnd
 simp only [List.nil_append,List.singleton_append,List.nodup_cons] at hnd
 have hsub:∀b∈b2,b∈(β t).own ++([]++b2):=fun b hb=>by simp [hb]
 have hN:∀b,NS Γ w ((β t).own ++([]++b2)) b→NS Γ w b2 b:=fun b hb=>NS.sub hsub hb
 have hNt:NS Γ w b2 (β t).b :=by
  have:=h.own (β t).b (by rw [hown]; simp)
  refine ⟨?_,this.1,hnd.1⟩
  rcases this.2 with h1|h1
  ·exact .inr (.inl h1)
  ·exact .inr (.inr h1)
 refine ⟨?_,β,b2,{defers:=h.defers,size:=h.size,keys:=?_,par:=h.par,grow:=h.grow,gh:=h.gh,quiet:=h.quiet,keep:=h.keep,hp:=?_,nodup:=hnd.2,own:=fun b hb=>h.own b (hsub b hb),tm:=?_}⟩
 ·intro k hk
  simp only [St.upd,Cert.men,jR,List.flatMap_nil,List.append_nil,List.nil_append,D.men] at hk ⊢
  rw [List.mem_append]
  have key:∀k,k∈zAY (σ.tm.filter (fun x=>dst !=some x.1))∨k∈jR (σ.hp.filter (fun x=> !([]:List Nat).contains x.1))→k∈σ.us:=by
   rintro k (hk|hk)
   ·obtain ⟨x,hx,hk⟩:=List.mem_flatMap.1 hk
    exact hus k (.inl (List.mem_flatMap.2 ⟨x,(List.mem_filter.1 hx).1,hk⟩))
   ·obtain ⟨x,hx,hk⟩:=List.mem_flatMap.1 hk
    exact hus k (.inr (List.mem_flatMap.2 ⟨x,(List.mem_filter.1 hx).1,hk⟩))
  rcases hk with hk|hk
  ·obtain ⟨x,hx,hk⟩:=List.mem_flatMap.1 hk
   rcases List.mem_append.1 hx with hx|hx
   ·unfold Cert.outs at hx
    cases dst with
    |none=>simp at hx
    |some q=>
     simp only [List.mem_singleton] at hx
     subst hx
     exact .inr (hcs k (by simpa [D.men] using hk))
   ·exact .inr (key k (.inl (List.mem_flatMap.2 ⟨x,hx,hk⟩)))
  ·exact .inr (key k (.inr hk))
 ·have hk:=h.keys
  simp only [St.upd,List.cons_append,List.nil_append,List.map_cons,List.nodup_cons] at hk ⊢
  exact hk.2
 ·exact yI.frame (fun b hb=>⟨hN b hb,rfl⟩) _ _ (fun _ _=>rfl) (fun _ _=>rfl) hrest
 ·intro q d hd
  simp only [St.upd] at hd
  rcases List.mem_append.1 hd with hd|hd
  ·unfold Cert.outs at hd
   cases dst with
   |none=>simp at hd
   |some q'=>
    simp only [List.mem_singleton,Prod.mk.injEq] at hd
    obtain ⟨rfl,rfl⟩:=hd
    obtain ⟨v,h1,h2⟩:=h.tm q (.pt t 0 0) (by simp [St.upd,Cert.outs])
    refine ⟨v,h1,?_⟩
    simp only [Rep] at h2 ⊢
    obtain ⟨_,_,_,rfl⟩:=h2
    refine ⟨trivial,trivial,(β t).b,(β t).o,ws,by simp,hNt,hO.has,hone,?_⟩
    exact zF.frame (fun b hb=>⟨hN b hb,rfl⟩) cs true ws [] (by simp) (fun _ _=>rfl) hcr
  ·obtain ⟨v,h1,h2⟩:=h.tm q d (by simp only [St.upd]; exact List.mem_append_right _ hd)
   exact ⟨v,h1,Rep.frame (fun b hb=>⟨hN b hb,rfl⟩) d true v [] (by simp) (fun _ _=>rfl) h2⟩
theorem kZ:∀(l:List Nat) (m:Nat),m≤l.foldl max m∧∀x∈l,x≤l.foldl max m
 |[],m=>⟨Nat.le_refl _,by simp⟩
 |y::l,m=>by
  obtain ⟨h1,h2⟩:=kZ l (max m y)
  refine ⟨Nat.le_trans (Nat.le_max_left _ _) h1,fun x hx=>?_⟩
  rcases List.mem_cons.1 hx with rfl|hx
  ·exact Nat.le_trans (Nat.le_max_right _ _) h1
  ·exact h2 x hx
theorem zEB {c:Cert} {x:Operand} {T:TypeId} {d:D} (hg:o.guard=none) (hop:o.op= .box T x) (hc:c= {tn:=c.tn,out:=some (.pb (cellsD d))}) (hx:OpF c x d) (hd:(cellsD d).all D.cell=true):Valid Γ ops o c:=by
 intro σ a w Q hdst hn hr
 obtain ⟨m1,m2⟩:=kZ σ.us Γ.m
 have hft:σ.us.foldl max Γ.m+1∉σ.us:=fun h=>by have:=m2 _ h; omega
 have hn1:Nd {tn:=c.tn,out:=some (.pt (σ.us.foldl max Γ.m+1) 0 0),hw:=[((σ.us.foldl max Γ.m+1),.box (cellsD d))],fr:=[σ.us.foldl max Γ.m+1]} σ:=⟨hn.1,by simp,by simpa using hft⟩
 have hv:=zFx (Γ:=Γ) (ops:=ops) (t:=σ.us.foldl max Γ.m+1) hg hop (c:= {tn:=c.tn,out:=some (.pt (σ.us.foldl max Γ.m+1) 0 0),hw:=[((σ.us.foldl max Γ.m+1),.box (cellsD d))],fr:=[σ.us.foldl max Γ.m+1]}) rfl (by omega) hx hd σ a w Q hdst hn1 hr
 have hwt:Region.wanted o (yielded ops a.tmps)=true:=by simp [Region.wanted,hg]
 rw [if_pos hwt] at hv ⊢
 refine Oper.wp_mono (fun a' w' h'=>?_) hv
 rw [hc]
 exact Rel.zFN hr.1 (fun k hk=>zDu (a:=a) (w:=w) hr.1 hn hx k (by rwa [zBD] at hk)) (fun d' hd'=>D.zDI (List.all_eq_true.1 hd d' hd')) h'
theorem zDi {c:Cert} {x:Operand} {T:TypeId} {cs:List D} {d:D} (hg:o.guard=none) (hop:o.op= .load T x) (hc:c= {tn:=c.tn,out:=some d}) (hx:OpF c x (.pb cs)) (hd:wU Γ.P T cs=some d):Valid Γ ops o c:=by
 rw [hc]
 refine yU hg rfl rfl fun β bs σ a w hn hr=>?_
 have h1:=OpF.rep (c:=c) hx ⟨hn.1,by rw [hc]; simp,by rw [hc]; simp⟩ hr
 simp only [Rep] at h1
 obtain ⟨_,_,b,p,ws,h2,h3,h4,hone,h5⟩:=h1
 obtain ⟨v,h6,h7⟩:=uJ hd h4 hone h5
 refine ⟨v,jF (s:=Instr.loadAt T (a.eval x)) (by simp [execOp,hop]) ?_,fun d' hd=>by cases hd; exact h7⟩
 rw [h2]
 exact h6
theorem zET (T:Nat) (x:Operand) (d:D) (hx:OkO x d:=by first|trivial|rfl) (hd:(cellsD d).all D.cell=true:=by kernel_rfl):OpV Γ (.box T x) {tn:=tnO x d,out:=some (.pb (cellsD d))}:=by
 intro ops o hop hg
 exact zEB hg hop rfl (hx.f (fun y hy=>hy)) hd
theorem zAX {d:D} (T:Nat) (x:Operand) (cs:List D) (hx:OkO x (.pb cs):=by trivial) (hd:wU Γ.P T cs=some d:=by kernel_rfl):OpV Γ (.load T x) {tn:=tnO x (.pb cs),out:=some d}:=by
 intro ops o hop hg
 exact zDi hg hop rfl (hx.f (fun y hy=>hy)) hd
end
end Go.Im
set_option linter.unusedVariables false
namespace Go.Im
open Go
section
variable {β:Nat→Loc} {N:Nat→Prop} {w:World}
end
section
variable {Γ:Ctx} {fc:Code} {k:List II} {σ:St} {T:Type} {K:T→Option (D×List Ent)}
end
section
variable {Γ:Ctx} {ops:Array Oper} {o:Oper}
end
end Go.Im
set_option linter.unusedVariables false
namespace Go.Im
open Go
section
variable {Γ:Ctx} {ops:Array Oper} {o:Oper}
end
end Go.Im
set_option linter.unusedVariables false
namespace Go.Im
open Go
def zFU (n:Nat):List Nat→Bool
 |[]=>false
 |m::ms=>Nat.beq n m||zFU n ms
def dl {α:Type} (del:List Nat) (add:List (Nat×α)):List (Nat×α)→List (Nat×α)
 |[]=>add
 |x::l=>match zFU x.1 del with
  |true=>dl del add l
  |false=>x::dl del add l
section
variable {Γ:Ctx} {fc:Code} {k:List II} {σ:St} {T:Type} {K:T→Option (D×List Ent)}
theorem J_d {e:Option T} (p:Nat) (ids:List (Nat×Nat)) (x:List Nat) (y:List (Nat×D)) (x':List Nat) (y':List (Nat×Ent)) {orc:List (Nat×Cert)} (hor:zAL Γ fc p orc) (hj:J Γ fc (aft fc p) (St.mk' (dl x y σ.tm) (dl x' y' σ.hp)) e K)
  (h:(zFF fc σ.tm p k&&Γ.P.follows .mixedOrders,(chk Γ.P Γ.nt Γ.m fc p orc ids σ (dl x y σ.tm) (dl x' y' σ.hp)).1,(chk Γ.P Γ.nt Γ.m fc p orc ids σ (dl x y σ.tm) (dl x' y' σ.hp)).2.2.1,(chk Γ.P Γ.nt Γ.m fc p orc ids σ (dl x y σ.tm) (dl x' y' σ.hp)).2.2.2.2)=
   (true,(chk Γ.P Γ.nt Γ.m fc p orc ids σ (dl x y σ.tm) (dl x' y' σ.hp)).2.1,(chk Γ.P Γ.nt Γ.m fc p orc ids σ (dl x y σ.tm) (dl x' y' σ.hp)).2.2.2.1,true):=by kernel_rfl):J Γ fc k σ e K:=
 J_g p ids _ _ hor hj h
end
end Go.Im
set_option linter.unusedVariables false
namespace Go.Im
open Go
mutual
inductive Wk:D→D→Prop where
 |same {d:D}:Wk d d
 |ln {z n:Nat} {xs:List (List D)}:Wk (.s false z n xs) (.ln n)
 |tu {cs cs':List D}:WkL cs cs'→Wk (.tu cs) (.tu cs')
 |ag {cs cs':List D}:WkL cs cs'→Wk (.ag cs) (.ag cs')
inductive WkL:List D→List D→Prop where
 |nil:WkL [] []
 |cons {d d':D} {ds ds':List D}:Wk d d'→WkL ds ds'→WkL (d::ds) (d'::ds')
end
section
variable {β:Nat→Loc} {N:Nat→Prop} {w:World}
mutual
theorem Wk.rep:∀{d d':D} {v:Value} {bs:List Nat},Wk d d'→Rep β N w true d v bs→Rep β N w true d' v bs
 |_,_,_,_,.same,h=>h
 |_,_,v,bs,.ln (z:=z) (n:=n) (xs:=xs),h=>by
  have e:=Rep.free (d:=.s false z n xs) rfl h
  subst e
  simp only [Rep] at h ⊢
  obtain ⟨_,_,a,cap,h1,h2,_⟩:=h
  exact ⟨trivial,a,cap,h1,h2⟩
 |_,_,v,bs,.tu hl,h=>by
  simp only [Rep] at h ⊢
  obtain ⟨h1,ws,h2,h3⟩:=h
  exact ⟨trivial,ws,h2,WkL.rep hl h3⟩
 |_,_,v,bs,.ag hl,h=>by
  simp only [Rep] at h ⊢
  obtain ⟨h1,ws,h2,h4,h3⟩:=h
  exact ⟨trivial,ws,h2,h4,WkL.rep hl h3⟩
theorem WkL.rep:∀{ds ds':List D} {vs:List Value} {bs:List Nat},WkL ds ds'→zF β N w true ds vs bs→zF β N w true ds' vs bs
 |_,_,_,_,.nil,h=>h
 |_,_,vs,bs,.cons h1 h2,h=>by
  simp only [zF] at h ⊢
  obtain ⟨v,vs',b1,b2,h3,h4,h5,h6⟩:=h
  exact ⟨v,vs',b1,b2,h3,h4,Wk.rep h1 h5,WkL.rep h2 h6⟩
end
end
theorem zFJ {P:Program} {f:FuncId} {args:List D} {hin:List Ent} {R:Type} {e:Option R} {g:R→D×List Ent} (g':R→D×List Ent) (h:Ok P f args hin (e.map g)) (hw:∀r,Wk (g r).1 (g' r).1) (he:∀r,(g r).2=(g' r).2:=by intro _; rfl):
  Ok P f args hin (e.map g'):=by
 intro out ho w N β vs bs h1 h2 h3 h4 h5 h6
 cases e with
 |none=>cases ho
 |some r=>
  simp only [Option.map_some,Option.some.injEq] at ho
  subst ho
  refine (h (g r) rfl w N β vs bs h1 h2 h3 h4 h5 h6).mono ?_
  rintro e' w' ⟨v,b1,b2,q1,q2,q3,q4,q5,q6,q7,q8⟩
  exact ⟨v,b1,b2,q1,q2,q3,q4,q5,q6,(hw r).rep q7,by rw [←he r]; exact q8⟩
section
variable {Γ:Ctx} {ops:Array Oper} {o:Oper}
theorem zA9 {β:Nat→Loc} {N:Nat→Prop} {w:World}:∀{xs:List (List D)} {ws:List Value} {bs:List Nat},(∀e∈xs,e.all D.free=true)→zI β N w xs ws bs→bs=[]
 |[],ws,bs,_,h=>by simp only [zI] at h; exact h.2
 |e::es,ws,bs,hf,h=>by
  simp only [zI] at h
  obtain ⟨w1,w2,b1,b2,rfl,rfl,h3,h4⟩:=h
  have e1:=zF.frees (fun d hd=>List.all_eq_true.1 (hf e (by simp)) d hd) h3
  have e2:=zA9 (fun e he=>hf e (by simp [he])) h4
  rw [e1,e2]
  rfl
theorem zCS {c:Cert} {x y:Operand} {T U el e':TypeId} {t td ts n m z bytes off:Nat} {cd:Option Nat} {zv:Value} {xs ys:List (List D)} (hg:o.guard=none)
  (hop:o.op= .call {callee:=.builtin .append,args:= #[x,y],argTypes:= #[T,U]}) (hc:c= {tn:=c.tn,hn:=c.hn,out:=some (.rf t 0 (n+m) none),hx:=[td],hw:=[(t,.row z (xs++(ys.drop off).take m))],fr:=[t]})
  (hm:Γ.m≤t) (hx:OpF c x (.rf td 0 n cd)) (hy:OpF c y (.sub ts off m)) (hxr:(td,.row z xs)∈c.hn) (hyr:(ts,.row z ys)∈c.hn) (hlx:xs.length=n) (hle:off+m≤ys.length)
  (hT:Γ.P.underlying T=some (.slice el)) (hU:Γ.P.underlying U=some (.slice e')) (hinfo:(Γ.P.info? el).map (fun i=>(i.zero,i.size,i.bytes))=some (some zv,z,bytes)) (hzs:zv.cells.size=z)
  (hone:∀e∈ys,e.all vY=true) (hfree:∀e∈ys,e.all D.free=true) (hbig:(n+m)*bytes≤140737488355328) (h62:n+m≤4611686018427387904):Valid Γ ops o c:=by
 intro σ a w Q hdst hn ⟨h0,β,bs,hr⟩
 have hwt:Region.wanted o (yielded ops a.tmps)=true:=by simp [Region.wanted,hg]
 rw [if_pos hwt]
 have hfr:t∉σ.us:=hn.2.2 t (by rw [hc]; simp)
 obtain ⟨b1,bk,p1,hE1,hrest⟩:=yI.take hr.hp hr.keys (hn.2.1 _ hxr)
 obtain ⟨wx,hD,hEx,hzx⟩:=zA4 (OpF.rep hx hn hr) hE1 hlx
 have hyv:=OpF.rep hy hn hr
 simp only [Rep] at hyv
 obtain ⟨_,_,ad,cap,hv,hcap,hcase⟩:=hyv
 obtain ⟨b2,⟨hLz,hzz,hrow⟩,_,_⟩:=yI.get hr.hp (hn.2.1 _ hyr)
 have hzy:∀e∈(ys.drop off).take m,e.length=z:=fun e he=>hzz e (List.mem_of_mem_drop (List.mem_of_mem_take he))
 have hly:((ys.drop off).take m).length =m:=by simp; omega
 have hone':∀e∈(ys.drop off).take m,e.all vY=true:=fun e he=>hone e (List.mem_of_mem_drop (List.mem_of_mem_take he))
 obtain ⟨wy,hEy,hS⟩:∃wy,zI β (NS Γ w bs) w ((ys.drop off).take m) wy []∧((a.eval y= .slice ad m cap∧m=0∧wy=[])∨∃b off c,a.eval y= .slice (some ⟨b,off,none⟩) m c∧Has w b off wy∧wy.length=m*z):=by
  rcases hcase with rfl|⟨hnil,rfl,hroom⟩
  ·exact ⟨[],by simp [zI],.inl ⟨hv,rfl,rfl⟩⟩
  ·rcases hrow with ⟨hnil',_⟩|⟨_,ws,hO,hE⟩
   ·rw [hnil] at hnil'; cases hnil'
   have:=zA9 hfree hE
   subst this
   have q2:=(zI.sub m (zI.sub off hE hzz).2 (fun e he=>hzz e (List.mem_of_mem_drop he))).1
   refine ⟨_,q2,.inr ⟨_,_,cap,hv,?_,?_⟩⟩
   ·rw [hLz]; exact hO.has.sub (off*z) (m*z)
   ·rw [q2.length hzy,hly]
 have hsrc:Go.Src Γ.P z U (a.eval y) m wy w:=by
  rcases hS with ⟨h1,h2,h3⟩|h
  ·rw [h1]
   subst h2; subst h3
   cases ad with
   |none=>exact Src.ofNil w hU cap
   |some ad=>exact Src.ofSlice w hU ad 0 cap [] (by simp) (by simp) (by simp)
  ·exact jL hU (tX hone' hEy) (.inr h)
 obtain ⟨r,w1,hrun,hA⟩:=jQ (ty:=o.type) hT hinfo hzs hD hsrc hbig h62
 have hex:(execOp a.eval o).run Γ.P w= .ok (.value r) w1:=by
  rw [tL hop]
  simp only [builtin,List.map_toArray,List.map_cons,List.map_nil]
  exact run_bind_ok hrun
 unfold Oper.wp
 rw [hex,Oper.upon_value]
 refine kF (b1:=b1) (b2:=[]) (bx:=[]) (bk:=bk) (blk:=(β td).own) h0 hr hdst (by rw [hc]) hfr hm ?_ ?_ hEx hEy hzx hzy hlx hly hA (by rw [hc])
 ·simpa using p1
 ·rw [hc]
  rw [←zBd] at hrest
  exact hrest
theorem zFv {α:Type} {xs ys r zs:List α} {l hi:Int} (T U el e' z bytes t td ts:Nat) (enc:α→List D) (x y:Operand) (hs:zDK ys l hi=some r) (h:app bytes xs r=some zs) (hx:OkO x (.rf td 0 xs.length none):=by trivial) (hy:OkO y (.sub ts l.toNat r.length):=by trivial)
  (hone:∀a,(enc a).all vY=true:=by intro _; rfl) (hfree:∀a,(enc a).all D.free=true:=by intro _; rfl) (hT:(Γ.P.underlying T,Γ.P.underlying U,zCy Γ.P el,(zBu Γ.P el).cells.size,Nat.ble Γ.m t)=(some (.slice el),some (.slice e'),some (some (zBu Γ.P el),z,bytes),z,true):=by kernel_rfl):
  OpV Γ (.call {callee:=.builtin .append,args:= #[x,y],argTypes:= #[T,U]}) {tn:=tnO x (.rf td 0 xs.length none)++tnO y (.sub ts l.toNat r.length),hn:=[(td,rE z enc xs),(ts,rE z enc ys)],out:=some (.rf t 0 zs.length none),hx:=[td],hw:=[(t,rE z enc zs)],fr:=[t]}:=by
 simp only [Prod.mk.injEq] at hT
 obtain ⟨h1,h2,h3,h4,h5⟩:=hT
 obtain ⟨q1,q2,q3,q4,q5⟩:=zAW hs
 obtain ⟨rfl,g1,g2⟩:=zBm h
 intro ops o hop hg
 refine zCS (xs:=xs.map enc) (ys:=ys.map enc) (m:=r.length) (off:=l.toNat) (n:=xs.length) hg hop ?_ (Nat.le_of_ble_eq_true h5) (hx.f (fun y hy=>List.mem_append_left _ hy)) (hy.f (fun y hy=>List.mem_append_right _ hy)) (.head _) (.tail _ (.head _)) (by simp) (by rw [List.length_map]; omega) h1 h2 h3 h4 ?_ ?_ g1 g2
 ·congr 1
  ·simp
  ·show [(t,Ent.row z ((xs++r).map enc))]=_
   rw [List.map_append,←List.map_drop,←List.map_take,q5,←q4]
 ·intro e he
  obtain ⟨a,_,rfl⟩:=List.mem_map.1 he
  exact hone a
 ·intro e he
  obtain ⟨a,_,rfl⟩:=List.mem_map.1 he
  exact hfree a
end
end Go.Im
set_option linter.unusedVariables false
namespace Go.Im
open Go
section
variable {Γ:Ctx} {ops:Array Oper} {o:Oper}
end
end Go.Im
set_option linter.unusedVariables false
namespace Go.Im
open Go
end Go.Im
set_option linter.unusedVariables false
namespace Go.Im
open Go
theorem zDh {P:Program} {f:FuncId} {w w':World} {N:Nat→Prop} {bs blk bsub:List Nat} {m z k:Nat} {β:Nat→Loc} {L:List (List D)} {W:List Value} {r:Value}
  (hE:zI β N w L W bsub) (hz:∀e∈L,e.length=z) (hk:L.length=k) (ha:zCY w w' z k 0 W [] blk r) (hblk:∀b∈blk,b∈bs) (hsub:∀b∈bsub,b∈bs) (hnd:bsub.Nodup)
  (hsep:∀b∈bsub,b∉blk) (hlt:∀b∈bs,b<w.heap.size) (hN:∀b,N b→b<w.heap.size∧b∉bs):Post ⟨P,f,w,N,bs,m,β,0⟩ (.s true z k L) [] (.returned r) w':=by
 obtain ⟨hq,ha⟩:=ha
 rcases ha with ⟨hk0,_,rfl,rfl⟩|⟨b,off,c,rfl,hc,hO,hb,hcase⟩
 ·have hL:L=[]:=List.length_eq_zero_iff.1 (by omega)
  subst hL
  refine ⟨_,[],[],rfl,hq,Nat.le_refl _,fun _ _ _=>rfl,by simp,by simp,?_,rfl⟩
  simp only [Rep]
  exact ⟨hk,hz,none,0,by rw [show k=0 by omega],by omega,.inl ⟨by omega,by trivial,fun _=>⟨by trivial,by trivial⟩⟩⟩
 ·have hcommon:(∀b',b'<w.heap.size→b'∉blk→w'.heap[b']? =w.heap[b']?)∧w.heap.size≤w'.heap.size∧(b∈blk∨w.heap.size≤b):=by
   rcases hcase with ⟨rfl,q1,q2⟩|⟨rfl,q1,q2⟩
   ·exact ⟨fun b' _ hb'=>q1 b' (by simpa using hb'),by omega,.inl (by simp)⟩
   ·exact ⟨fun b' hb' _=>q2 b' hb',q1,.inr (Nat.le_refl _)⟩
  obtain ⟨h1,h2,h3⟩:=hcommon
  have hbn:b∉bsub:=fun h=>by
   rcases h3 with h3|h3
   ·exact hsep b h h3
   ·have:=hlt b (hsub b h); omega
  have hNS:∀b',N b'→NS ⟨P,f,w,N,bs,m,β,0⟩ w' (b::bsub++[]) b'∧w'.heap[b']? =w.heap[b']? :=fun b' hb'=>by
   obtain ⟨u1,u2⟩:=hN b' hb'
   refine ⟨⟨.inl hb',by omega,fun h=>?_⟩,h1 b' u1 (fun h=>u2 (hblk b' h))⟩
   simp only [List.append_nil,List.mem_cons] at h
   rcases h with rfl|h
   ·rcases h3 with h3|h3
    ·exact u2 (hblk _ h3)
    ·omega
   ·exact u2 (hsub b' h)
  refine ⟨_,b::bsub,[],rfl,hq,h2,fun b' hb' hb2=>h1 b' hb' (fun h=>hb2 (hblk b' h)),by simpa using ⟨hbn,hnd⟩,?_,?_,rfl⟩
  ·intro b' hb'
   simp only [List.append_nil,List.mem_cons] at hb'
   rcases hb' with rfl|hb'
   ·refine ⟨hb,?_⟩
    rcases h3 with h3|h3
    ·exact .inl (hblk _ h3)
    ·exact .inr h3
   ·have:=hlt b' (hsub b' hb')
    exact ⟨by omega,.inl (hsub b' hb')⟩
  ·simp only [Rep]
   refine ⟨hk,hz,some ⟨b,off,none⟩,c,rfl,by simpa using hc,.inr (.inr ⟨trivial,b,off,W,bsub,rfl,rfl,by simpa using hO,?_⟩)⟩
   exact zI.frame hNS L W bsub (fun b' hb'=>h1 b' (hlt b' (hsub b' hb')) (hsep b' hb')) hE
theorem zDe {β:Nat→Loc} {N:Nat→Prop} {w:World} {α:Type} {enc:α→List D} {xs:List α} {ws:List Value} {bs:List Nat} (hone:∀a,(enc a).all vY=true) (h:zI β N w (xs.map enc) ws bs):∀x∈ws,Value.oneCell x=true:=
 tX (fun e he=>by obtain ⟨a,_,rfl⟩:=List.mem_map.1 he; exact hone a) h
theorem zDD {P:Program} {f:FuncId} {α:Type} {enc:α→List D} {xs ys:List α} {i:Int} {z:Nat} (hone:∀a,(enc a).all vY=true) (h0:0≤i) (h1:i≤xs.length)
  (hraw:∀(w:World) (v u:Value) (wx wy:List Value) (bx bz:List Nat),Dst w z xs.length v wx bx→Dst w z ys.length u wy bz→(∀b∈bx,b∉bz)→(∀b∈bx++bz,b<w.heap.size)→(∀q∈wx,Value.oneCell q=true)→(∀q∈wy,Value.oneCell q=true)→
   Calls P f #[v,.int .i64 i,u] w fun e w'=>∃r,e= .returned r∧zCY w w' z (xs.length+ys.length) 0 (wx.take (i.toNat*z)++(wy++wx.drop (i.toNat*z))) [] bx r):
  Ok P f [.rf 0 0 xs.length none,.sc (.int .i64 i),.rf 1 0 ys.length none] [.row z (xs.map enc),.row z (ys.map enc)] (some (.s true z (xs.take i.toNat++(ys++xs.drop i.toNat)).length ((xs.take i.toNat++(ys++xs.drop i.toNat)).map enc),[])):=by
 intro out ho w N β vs bs ha hh hnd hlt hN _
 cases ho
 simp only [zF] at ha
 obtain ⟨v,_,a1,a2,rfl,e12,hv,u0,_,a3,a4,rfl,rfl,hi,u,_,a5,a6,rfl,rfl,hu,rfl,rfl⟩:=ha
 have ea:a1=[]∧a3=[]∧a5=[]:=by simpa using e12.symm
 obtain ⟨rfl,rfl,rfl⟩:=ea
 simp only [Rep] at hi
 obtain ⟨rfl,_⟩:=hi
 obtain ⟨b1,_,rfl,hE1,b2,_,rfl,hE2,hnil⟩:=hh
 have hnil':_=[]:=hnil
 subst hnil'
 obtain ⟨wx,hD1,hx,hzx⟩:=zA4 hv hE1 (by simp)
 obtain ⟨wy,hD2,hy,hzy⟩:=zA4 hu hE2 (by simp)
 simp only [List.append_nil] at hnd hlt hN ⊢
 have hnd1:=List.nodup_append.1 hnd
 have hnd2:=List.nodup_append.1 hnd1.2.1
 have hnd3:=List.nodup_append.1 hnd2.2.1
 refine (hraw w v u wx wy _ _ hD1 hD2 (fun b hb hb'=>hnd1.2.2 b hb b (by simp [hb']) rfl) (fun b hb=>hlt b (by simp only [List.mem_append] at hb ⊢; rcases hb with h|h<;>simp [h])) (zDe hone hx) (zDe hone hy)).mono ?_
 rintro e w' ⟨r,rfl,hA⟩
 obtain ⟨d1,d2,rfl,g1,g2⟩:=hx.cut i.toNat hzx
 have hdd:=List.nodup_append.1 hnd2.1
 have hL:zI β N w ((xs.take i.toNat++(ys++xs.drop i.toNat)).map enc) (wx.take (i.toNat*z)++(wy++wx.drop (i.toNat*z))) (d1++(b2++d2)):=by
  simp only [List.map_append,List.map_take,List.map_drop]
  exact g1.append (hy.append g2)
 refine zDh (blk:=(β 0).own) hL (fun e he=>?_) (by simp) (by
  rw [show (xs.take i.toNat++(ys++xs.drop i.toNat)).length =xs.length+ys.length by simp; omega]; exact hA) (fun b hb=>by simp [hb]) (fun b hb=>?_) ?_ (fun b hb hb'=>?_) hlt hN
 ·simp only [List.map_append,List.mem_append] at he
  rcases he with he|he|he
  ·rw [List.map_take] at he; exact hzx e (List.mem_of_mem_take he)
  ·exact hzy e he
  ·rw [List.map_drop] at he; exact hzx e (List.mem_of_mem_drop he)
 ·simp only [List.mem_append] at hb ⊢
  rcases hb with h|h|h<;>simp [h]
 ·refine List.nodup_append.2 ⟨hdd.1,List.nodup_append.2 ⟨hnd3.2.1,hdd.2.1,?_⟩,?_⟩
  ·intro x hx' y hy' e
   subst e
   exact hnd2.2.2 x (by simp [hy']) x (by simp [hx']) rfl
  ·intro x hx' y hy' e
   subst e
   rcases List.mem_append.1 hy' with h|h
   ·exact hnd2.2.2 x (by simp [hx']) x (by simp [h]) rfl
   ·exact hdd.2.2 x hx' x h rfl
 ·refine hnd1.2.2 b hb' b ?_ rfl
  simp only [List.mem_append] at hb ⊢
  rcases hb with h|h|h<;>simp [h]
end Go.Im
set_option linter.unusedVariables false
namespace Go.Im
open Go
theorem zD8 {arr:Array Value} {o A B:Nat} {X Y W:List Value} (hA:o+A+X.length≤arr.size) (hB:o+B+Y.length≤arr.size)
  (hW:∀k,k<W.length→(if B≤k∧k<B+Y.length then Y[k-B]? else if A≤k∧k<A+X.length then X[k-A]? else arr[o+k]?)=W[k]?):
  ∀k (hk:k<W.length),(uR (uR arr (o+A) X) (o+B) Y)[o+k]? =some W[k]:=by
 intro k hk
 rw [tH _ _ _ (by rw [yC]; exact hB),tH _ _ _ hA]
 have:=hW k hk
 rw [List.getElem?_eq_getElem hk] at this
 rw [←this]
 by_cases c1:B≤k∧k<B+Y.length
 ·rw [if_pos (by omega),if_pos c1]; congr 1; omega
 ·rw [if_neg (by omega),if_neg c1]
  by_cases c2:A≤k∧k<A+X.length
  ·rw [if_pos (by omega),if_pos c2]; congr 1; omega
  ·rw [if_neg (by omega),if_neg c2]
theorem zCY.world {w w1 w2:World} {z n m:Nat} {wx wy:List Value} {blk:List Nat} {r:Value} (h:zCY w w1 z n m wx wy blk r) (hn:0<n+m) (hh:w2.heap=w1.heap) (hq:w2.os=w1.os∧w2.output=w1.output):zCY w w2 z n m wx wy blk r:=by
 obtain ⟨h1,h2⟩:=h
 refine ⟨⟨hq.1.trans h1.1,hq.2.trans h1.2⟩,?_⟩
 rcases h2 with ⟨h2,_⟩|⟨b,off,c,h3,h4,h5,h6,h7⟩
 ·omega
 ·exact .inr ⟨b,off,c,h3,h4,h5.frame (by rw [hh]),by rw [hh]; exact h6,by rw [hh]; exact h7⟩
theorem zDC {wx wy:List Value} {n m k0 z:Nat} (hl:wx.length=n*z) (hly:wy.length=m*z) (hk:k0≤n):∀k,k< (wx.take (k0*z)++(wy++wx.drop (k0*z))).length →
  (wx.take (k0*z)++(wy++wx.drop (k0*z)))[k]? =if k<k0*z then wx[k]? else if k< (k0+m)*z then wy[k-k0*z]? else (wx.drop (k0*z))[k-(k0+m)*z]? :=by
 intro k _
 have hkz:k0*z≤n*z:=Nat.mul_le_mul_right _ hk
 have ht:(wx.take (k0*z)).length =k0*z:=by simp; omega
 have e:(k0+m)*z=k0*z+m*z:=Nat.add_mul _ _ _
 by_cases c1:k<k0*z
 ·rw [if_pos c1,List.getElem?_append_left (by omega),List.getElem?_take,if_pos c1]
 ·rw [if_neg c1,List.getElem?_append_right (by omega),ht]
  by_cases c2:k< (k0+m)*z
  ·rw [if_pos c2,List.getElem?_append_left (by omega)]
  ·rw [if_neg c2,List.getElem?_append_right (by omega)]
   congr 1; omega
theorem zCH {w w0:World} (hw0:w0.heap=w.heap∧w0.os=w.os∧w0.output=w.output) {b off c z n m k0:Nat} {wx wy:List Value} (hO:Own w b off (c*z) wx) (hl:wx.length=n*z) (hly:wy.length=m*z) (hk:k0≤n) (hc:n+m≤c):
  zCY w (putCells (putCells w0 b (off+(k0+m)*z) (wx.drop (k0*z))) b (off+k0*z) wy) z (n+m) 0 (wx.take (k0*z)++(wy++wx.drop (k0*z))) [] [b] (.slice (some ⟨b,off,none⟩) (n+m) c):=by
 obtain ⟨arr,e,lo,hi,g1,g2,g3,g4⟩:=hO
 have g1':w0.heap[b]? =some (.cells arr e (lo,hi)):=by rw [hw0.1]; exact g1
 obtain ⟨p1,p2,p3⟩:=zT (off:=off+(k0+m)*z) (vs:=wx.drop (k0*z)) g1'
 obtain ⟨q1,q2,q3⟩:=zT (off:=off+k0*z) (vs:=wy) p1
 have hkz:k0*z≤n*z:=Nat.mul_le_mul_right _ hk
 have e1:(k0+m)*z=k0*z+m*z:=Nat.add_mul _ _ _
 have e2:(n+m)*z=n*z+m*z:=Nat.add_mul _ _ _
 have hcz:(n+m)*z≤c*z:=Nat.mul_le_mul_right _ hc
 have hlen:(wx.take (k0*z)++(wy++wx.drop (k0*z))).length =(n+m)*z:=by simp; omega
 refine ⟨⟨(zY _ _ _ _).1.trans ((zY _ _ _ _).1.trans hw0.2.1),(zY _ _ _ _).2.trans ((zY _ _ _ _).2.trans hw0.2.2)⟩,.inr ⟨b,off,c,rfl,by omega,?_,?_,.inl ⟨rfl,fun b' hb'=>?_,?_⟩⟩⟩
 ·refine ⟨_,e,lo,hi,q1,by rw [yC,yC]; exact g2,by rw [yC,yC]; exact g3,?_⟩
  rw [List.append_nil]
  refine zD8 (by simp; omega) (by omega) (fun k hk'=>?_)
  rw [zDC hl hly hk k hk']
  rw [hlen] at hk'
  by_cases c1:k<k0*z
  ·rw [if_neg (by omega),if_neg (by omega),if_pos c1,g4 k (by omega),List.getElem?_eq_getElem]
  ·by_cases c2:k< (k0+m)*z
   ·rw [if_pos (by omega),if_neg c1,if_pos c2]
   ·rw [if_neg (by omega),if_pos (by simp; omega),if_neg c1,if_neg c2]
 ·rw [q3,p3,hw0.1]
  rcases Nat.lt_or_ge b w.heap.size with h|h
  ·exact h
  ·rw [Array.getElem?_eq_none h] at g1; cases g1
 ·rw [q2 b' hb',p2 b' hb',hw0.1]
 ·rw [q3,p3,hw0.1]
theorem zDF {w w0:World} {ROW:Array Value} {e:TypeId} (hw0:w0.heap=w.heap.push (.cells ROW e (0,0))∧w0.os=w.os∧w0.output=w.output) {c z n m k0:Nat} {wx wy:List Value} {blk:List Nat} (hR:∀k,k<k0*z→ROW[k]? =wx[k]?) (hsz:c*z≤ROW.size) (hl:wx.length=n*z) (hly:wy.length=m*z) (hk:k0≤n) (hc:n+m≤c):
  zCY w (putCells (putCells w0 w.heap.size (k0*z) wy) w.heap.size ((k0+m)*z) (wx.drop (k0*z))) z (n+m) 0 (wx.take (k0*z)++(wy++wx.drop (k0*z))) [] blk (.slice (some ⟨w.heap.size,0,none⟩) (n+m) c):=by
 have g1':w0.heap[w.heap.size]? =some (.cells ROW e (0,0)):=by rw [hw0.1]; simp
 obtain ⟨p1,p2,p3⟩:=zT (off:=k0*z) (vs:=wy) g1'
 obtain ⟨q1,q2,q3⟩:=zT (off:=(k0+m)*z) (vs:=wx.drop (k0*z)) p1
 have hkz:k0*z≤n*z:=Nat.mul_le_mul_right _ hk
 have e1:(k0+m)*z=k0*z+m*z:=Nat.add_mul _ _ _
 have e2:(n+m)*z=n*z+m*z:=Nat.add_mul _ _ _
 have hcz:(n+m)*z≤c*z:=Nat.mul_le_mul_right _ hc
 have hlen:(wx.take (k0*z)++(wy++wx.drop (k0*z))).length =(n+m)*z:=by simp; omega
 refine ⟨⟨(zY _ _ _ _).1.trans ((zY _ _ _ _).1.trans hw0.2.1),(zY _ _ _ _).2.trans ((zY _ _ _ _).2.trans hw0.2.2)⟩,.inr ⟨w.heap.size,0,c,rfl,by omega,?_,?_,.inr ⟨rfl,?_,fun b' hb'=>?_⟩⟩⟩
 ·refine ⟨_,e,0,0,q1,by omega,by rw [yC,yC]; omega,?_⟩
  rw [List.append_nil]
  have key:=zD8 (arr:=ROW) (o:=0) (A:=k0*z) (B:=(k0+m)*z) (X:=wy) (Y:=wx.drop (k0*z)) (W:=wx.take (k0*z)++(wy++wx.drop (k0*z))) (by omega) (by simp; omega) (fun k hk'=>?_)
  ·simpa using key
  ·rw [zDC hl hly hk k hk']
   rw [hlen] at hk'
   by_cases c1:k<k0*z
   ·rw [if_neg (by omega),if_neg (by omega),if_pos c1,Nat.zero_add,hR k c1]
   ·by_cases c2:k< (k0+m)*z
    ·rw [if_neg (by omega),if_pos (by omega),if_neg c1,if_pos c2]
    ·rw [if_pos (by simp; omega),if_neg c1,if_neg c2]
 ·rw [q3,p3,hw0.1]; simp
 ·rw [q3,p3,hw0.1]; simp
 ·rw [q2 b' (by omega),p2 b' (by omega)]
  exact jC hw0.1 hb'
theorem kV {w:World} {b k:Nat} {arr:Array Value} {e:TypeId} {lo hi:Nat} (h:w.heap[b]? =some (.cells arr e (lo,hi))) (h2:∀k,k≤arr.size→¬(lo≤k∧k<hi)) (hk:k≤arr.size):w.frozen? ⟨b,k,none⟩=false:=by
 have:=h2 k hk
 simp only [World.frozen?,h,Bool.and_eq_false_imp,decide_eq_true_eq,decide_eq_false_iff_not]
 intro h5 h6; exact this ⟨h5,h6⟩
theorem jS {P:Program} (w:World) (dT sT ty elem:TypeId) (z b o dLen dCap:Nat) (a:Addr) (sLen sCap:Nat) (cs:List Value)
  (hu:P.underlying dT=some (.slice elem)) (hs:(P.info? elem).map (·.size)=some z) (hn:cs.length=Nat.min sLen dLen*z)
  (hsrc:∀j v,cs[j]? =some v→w.cell? (a.add j)=some v) (hc:∀j,j<cs.length→(w.cell? ⟨b,o+j,none⟩).isSome =true) (hf:∀j,j<cs.length→w.frozen? ⟨b,o+j,none⟩=false) (h1:∀v∈cs,v.oneCell'=true):
  (Builtin.copy_ #[dT,sT] ty #[.slice (some ⟨b,o,none⟩) dLen dCap,.slice (some a) sLen sCap]).run P w= .ok (goInt (Nat.min sLen dLen)) (w.setCells b o cs):=by
 have hl:=run_loadCells_list (P:=P) w a cs hsrc
 have hst:=run_storeCells_cells (P:=P) b o cs 0 w (by simpa using hc) (by simpa using hf) h1
 cases hq:P.info? elem with
 |none=>simp [hq] at hs
 |some i=>
  have hi:i.size=z:=by simpa [hq] using hs
  rw [hn] at hl
  simp [Builtin.copy_,run_underlying hu,Builtin.lenOf,Builtin.firstCells,sizeOf,typeInfo,hq,hi,hl,hst]
end Go.Im
set_option linter.unusedVariables false
namespace Go.Im
open Go
def lnC:D→D
 | .s _ _ n _=>.ln n
 |d=>d
section
variable {Γ:Ctx} {ops:Array Oper} {o:Oper}
theorem Rep.lnC {β:Nat→Loc} {N:Nat→Prop} {w:World}:∀{d:D} {v:Value} {bs:List Nat},Rep β N w false d v bs→Rep β N w true (lnC d) v []
 | .s o z n xs,v,bs,h=>by
  simp only [Rep] at h
  obtain ⟨_,_,a,cap,h3,h4,_⟩:=h
  simp only [Im.lnC,Rep]
  exact ⟨trivial,a,cap,h3,h4⟩
 | .sc _,v,bs,h=>by simp only [Rep,Im.lnC] at h ⊢; exact ⟨h.1,trivial⟩
 | .rf _ _ _ _,v,bs,h=>by simp only [Rep] at h; exact absurd h.1 (by simp)
 | .pt _ _ _,v,bs,h=>by simp only [Rep] at h; exact absurd h.1 (by simp)
 | .ps cs,v,bs,h=>by simp only [Rep,Im.lnC] at h ⊢; exact ⟨trivial,h.2⟩
 | .fn _ _,v,bs,h=>by simp only [Rep] at h; exact absurd h.1 (by simp)
 | .ag _,v,bs,h=>by simp only [Rep] at h; exact absurd h.1 (by simp)
 | .tu _,v,bs,h=>by simp only [Rep] at h; exact absurd h.1 (by simp)
 | .un,v,bs,h=>by simp only [Rep,Im.lnC] at h ⊢; exact ⟨h.1,trivial⟩
 | .nb _,v,bs,h=>by simp only [Rep,Im.lnC] at h ⊢; exact ⟨trivial,h.2⟩
 | .sub _ _ _,v,bs,h=>by simp only [Rep] at h; exact absurd h.1 (by simp)
 | .fb _ _,v,bs,h=>by simp only [Rep] at h; exact absurd h.1 (by simp)
 | .pb _,v,bs,h=>by simp only [Rep] at h; exact absurd h.1 (by simp)
 | .ln _,v,bs,h=>by simp only [Rep,Im.lnC] at h ⊢; exact ⟨trivial,h.2⟩
 | .po _,v,bs,h=>by simp only [Rep] at h; exact absurd h.1 (by simp)
theorem zF.lnC {β:Nat→Loc} {N:Nat→Prop} {w:World}:∀{ds:List D} {ws:List Value} {bs:List Nat},zF β N w false ds ws bs→zF β N w true (ds.map Im.lnC) ws []
 |[],ws,bs,h=>by simp only [zF,List.map_nil] at h ⊢; exact ⟨h.1,trivial⟩
 |d::ds,ws,bs,h=>by
  simp only [zF,List.map_cons] at h ⊢
  obtain ⟨v,vs,b1,b2,h1,_,h3,h4⟩:=h
  exact ⟨v,vs,[],[],h1,rfl,Rep.lnC h3,zF.lnC h4⟩
theorem zDz {c:Cert} {x:Operand} {T:TypeId} {z t i j:Nat} {xs:List (List D)} {e:List D} {d:D} (hg:o.guard=none) (hop:o.op= .load T x) (hc:c= {tn:=c.tn,hn:=c.hn,out:=some d})
  (hx:OpF c x (.pt t i j)) (hh:(t,.row z xs)∈c.hn) (he:xs[i]? =some e) (ho:((e.drop j).map lnC).all vY=true)
  (hd:wU Γ.P T ((e.drop j).map lnC)=some d):Valid Γ ops o c:=by
 refine wL (d:=d) (f:=fun ρ=>Instr.loadAt T (ρ x)) hg (fun ρ=>by simp [execOp,hop]) (by rw [hc]) fun β bs σ a w hn hr=>?_
 have h1:=OpF.rep hx hn hr
 simp only [Rep] at h1
 obtain ⟨b1,⟨hLz,hzz,hrow⟩,_,_⟩:=yI.get hr.hp (hn.2.1 _ hh)
 rcases hrow with ⟨_,rfl,_⟩|⟨hnil,ws,hO,hE⟩
 ·simp at he
 ·obtain ⟨b2,b3,b4,_,h4,_,_⟩:=zI.get hE hzz he
  obtain ⟨b5,b6,_,_,h6⟩:=h4.split j
  have h7:=h6.lnC
  have hone:=jA ho h7
  obtain ⟨v,h8,h9⟩:=uJ hd ((hO.cells (i*z) z).drop j) hone h7
  refine ⟨v,?_,h9⟩
  rw [h1.2.2.2,hLz]
  exact h8
theorem zFa {α:Type} {xs:List α} {i:Int} {a:α} {d:D} (T z t j:Nat) (enc:α→List D) (x:Operand) (h:idx xs i=some a) (hd:((((enc a).drop j).map lnC).all vY,wU Γ.P T (((enc a).drop j).map lnC))=(true,some d)) (hx:OkO x (.pt t i.toNat j):=by trivial):
  OpV Γ (.load T x) {tn:=tnO x (.pt t i.toNat j),hn:=[(t,rE z enc xs)],out:=some d}:=by
 simp only [Prod.mk.injEq] at hd
 obtain ⟨_,h2⟩:=tN h
 intro ops o hop hg
 exact zDz (xs:=xs.map enc) (e:=enc a) hg hop rfl (hx.f (fun y hy=>hy)) (.head _) (by rw [List.getElem?_map,h2]; rfl) hd.1 hd.2
end
theorem zFE {α:Type} {z:Nat} {enc:α→List D} {xs:List α}:Wk (sl z enc xs) (.ln xs.length):=.ln
end Go.Im
set_option linter.unusedVariables false
namespace Go.Im
open Go
theorem FzT.all {t z:Nat} {xs:List (List D)}:∀{l:List (Nat×D)},(∀x∈l,x.2.men.contains t=false)→FzT t z xs l l
 |[],_=>.nil
 |(q,d)::l,h=>.cons (.keep (h (q,d) (by simp))) (FzT.all fun x hx=>h x (by simp [hx]))
theorem FzH.all {t z:Nat} {xs:List (List D)}:∀{l:List (Nat×Ent)},(∀x∈l,x.2.men.contains t=false)→FzH t z xs l l
 |[],_=>.nil
 |(q,e)::l,h=>.keep (h (q,e) (by simp)) (FzH.all fun x hx=>h x (by simp [hx]))
theorem Rel.frz {Γ:Ctx} {a:Act} {w:World} {t z:Nat} {xs:List (List D)} {tm1 tm2:List (Nat×D)} {hp1 hp2:List (Nat×Ent)} {us us2:List Nat} (htm:FzT t z xs tm1 tm2) (hhp:FzH t z xs hp1 hp2)
  (hu:∀q,q∈zAY tm2∨q∈jR hp2→q∈us2) (hr:Rel Γ ⟨tm1,(t,.row z xs)::hp1,us⟩ a w):Rel Γ ⟨tm2,hp2,us2⟩ a w:=by
 obtain ⟨h0,β,bs,h⟩:=hr
 obtain ⟨b1,bk,rfl,hE,hrest⟩:=h.hp
 have hp:((β t).own ++(b1++bk)).Perm (((β t).own ++b1)++bk):=by rw [List.append_assoc]
 have hnd:=hp.nodup_iff.1 h.nodup
 have hN:∀b,NS Γ w ((β t).own ++(b1++bk)) b→NS Γ w bk b:=fun b hb=>NS.sub (fun x hx=>by simp [hx]) hb
 have hb:∀b∈(β t).own ++b1,NS Γ w bk b:=fun b hb=>by
  have:=h.own b (hp.mem_iff.2 (List.mem_append_left _ hb))
  refine ⟨?_,this.1,fun hbk=>(List.nodup_append.1 hnd).2.2 b hb b hbk rfl⟩
  rcases this.2 with h1|h1
  ·exact .inr (.inl h1)
  ·exact .inr (.inr h1)
 refine ⟨hu,β,bk,{defers:=h.defers,size:=h.size,keys:=?_,par:=h.par,grow:=h.grow,gh:=h.gh,quiet:=h.quiet,keep:=h.keep,hp:=hhp.rep hN hE hb hrest,nodup:=(List.nodup_append.1 hnd).2.1,own:=fun b hb=>h.own b (hp.mem_iff.2 (List.mem_append_right _ hb)),tm:=?_}⟩
 ·have hk:=h.keys
  simp only [List.map_cons,List.nodup_cons] at hk
  rw [hhp.keys]
  exact hk.2
 ·intro q d' hd
  obtain ⟨d,h1,h2⟩:=htm.mem hd
  obtain ⟨v,h3,h4⟩:=h.tm q d h1
  exact ⟨v,h3,Fz.rep hN hE hb h2 h4⟩
theorem zFS {Γ:Ctx} {op:Op} {tn:List (Nat×D)} {hn:List (Nat×Ent)} {d1 d2:D} {t z:Nat} {xs:List (List D)} (hv:OpV Γ op {tn:=tn,hn:=hn,out:=some d1,hw:=[(t,.row z xs)],fr:=[t]}) (hf:Fz t z xs d1 d2) (hm:d2.men=[]:=by rfl):
  OpV Γ op {tn:=tn,hn:=hn,out:=some d2,fr:=[t]}:=by
 intro ops o hop hg σ a w Q hdst hn' hr
 have hus:=hr.1
 have hfr:t∉σ.us:=hn'.2.2 t (by simp)
 have h:=hv ops o hop hg σ a w Q hdst ⟨hn'.1,hn'.2.1,hn'.2.2⟩ hr
 have hwt:Region.wanted o (yielded ops a.tmps)=true:=by simp [Region.wanted,hg]
 rw [if_pos hwt] at h ⊢
 refine Oper.wp_mono (fun a' w' hrel=>?_) h
 obtain ⟨dd,hdd⟩:∃dd,o.dst=dd:=⟨_,rfl⟩
 rw [hdd] at hrel
 rw [hdd]
 have key:FzT t z xs ((({tn:=tn,hn:=hn,out:=some d1,hw:=[(t,.row z xs)],fr:=[t]}:Cert).outs dd)++σ.tm.filter (fun x=>dd !=some x.1)) ((({tn:=tn,hn:=hn,out:=some d2,fr:=[t]}:Cert).outs dd)++σ.tm.filter (fun x=>dd !=some x.1)):=by
  have hrest:FzT t z xs (σ.tm.filter (fun x=>dd !=some x.1)) (σ.tm.filter (fun x=>dd !=some x.1)):=FzT.all fun x hx=>by
   have:t∉x.2.men:=fun h=>hfr (hus t (.inl (List.mem_flatMap.2 ⟨x,(List.mem_filter.1 hx).1,h⟩)))
   simpa using this
  cases dd with
  |none=>exact hrest
  |some q=>exact .cons hf hrest
 refine Rel.frz key (FzH.all fun x hx=>?_) (fun q hq=>?_) hrel
 ·have:t∉x.2.men:=fun h=>hfr (hus t (.inr (List.mem_flatMap.2 ⟨x,(List.mem_filter.1 hx).1,by simp [h]⟩)))
  simpa using this
 ·refine List.mem_append_right _ ?_
  rcases hq with hq|hq
  ·obtain ⟨x,hx,hx'⟩:=List.mem_flatMap.1 hq
   rcases List.mem_append.1 hx with hx|hx
   ·unfold Cert.outs at hx
    cases dd with
    |none=>simp at hx
    |some q'=>
     simp only [List.mem_singleton] at hx
     subst hx
     simp only [hm] at hx'
     cases hx'
   ·exact hus q (.inl (List.mem_flatMap.2 ⟨x,(List.mem_filter.1 hx).1,hx'⟩))
  ·obtain ⟨x,hx,hx'⟩:=List.mem_flatMap.1 hq
   exact hus q (.inr (List.mem_flatMap.2 ⟨x,(List.mem_filter.1 hx).1,hx'⟩))
end Go.Im

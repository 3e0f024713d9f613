import Derived.Test.YtdeihchdibglaaaGreatImF
import Derived.Shelf.SlSortCmp.NoneTotal
set_option linter.unusedVariables false
namespace Go.Im
open Go
section
variable {Γ:Ctx} {fc:Code} {k:List II} {σ:St} {T:Type} {K:T→Option (D×List Ent)}
end
inductive FbT (t:Nat) (cs:List D):List (Nat×D)→List (Nat×D)→Prop
 |nil:FbT t cs [] []
 |keep {q:Nat} {d:D} {l l2:List (Nat×D)}:d.men.contains t=false→FbT t cs l l2→FbT t cs ((q,d)::l) ((q,d)::l2)
 |pt {q:Nat} {l l2:List (Nat×D)}:FbT t cs l l2→FbT t cs ((q,.pt t 0 0)::l) ((q,.pb cs)::l2)
theorem FbT.mem {t:Nat} {cs:List D} {l l2:List (Nat×D)} (h:FbT t cs l l2) {q:Nat} {d:D} (hd:(q,d)∈l2):(d.men.contains t=false∧(q,d)∈l)∨(d= .pb cs∧(q,.pt t 0 0)∈l):=by
 induction h with
 |nil=>cases hd
 | @keep q' d' l l2 hm _ ih=>
  rcases List.mem_cons.1 hd with e|hd
  ·cases e
   exact .inl ⟨hm,by simp⟩
  ·rcases ih hd with ⟨h1,h2⟩|⟨h1,h2⟩
   ·exact .inl ⟨h1,by simp [h2]⟩
   ·exact .inr ⟨h1,by simp [h2]⟩
 | @pt q' l l2 _ ih=>
  rcases List.mem_cons.1 hd with e|hd
  ·cases e
   exact .inr ⟨rfl,by simp⟩
  ·rcases ih hd with ⟨h1,h2⟩|⟨h1,h2⟩
   ·exact .inl ⟨h1,by simp [h2]⟩
   ·exact .inr ⟨h1,by simp [h2]⟩
section
variable {Γ:Ctx} {fc:Code} {k:List II} {σ:St} {T:Type} {K:T→Option (D×List Ent)}
theorem zNz {e:Option T} (t:Nat) {f:FuncId} {caps:List D} {tm1 tm2:List (Nat×D)} {hp1:List (Nat×Ent)} (htm:FbT t [.fn f caps] tm1 tm2)
  (hC:((D.men.zD5 caps).contains t,(hp1.flatMap (fun x=>x.1::x.2.men)).contains t)=(false,false):=by kernel_rfl)
  (hj:J Γ fc k (St.mk' tm2 hp1) e K):J Γ fc k (St.mk' tm1 ((t,.box [.fn f caps])::hp1)) e K:=by
 simp only [Prod.mk.injEq] at hC
 obtain ⟨hc,hh⟩:=hC
 have hc':t∉D.men.zD5 caps:=by simpa using hc
 have hh':t∉hp1.flatMap (fun x=>x.1::x.2.men):=fun hx=>by
  have:(hp1.flatMap (fun x=>x.1::x.2.men)).contains t=true:=List.contains_iff_mem.2 hx
  rw [hh] at this; cases this
 refine zFg (fun a w hr=>?_) hj
 obtain ⟨h0,β,bs,h⟩:=hr
 obtain ⟨b1,bk,rfl,⟨g1,g2,ws,g3,g4,g5⟩,hrest⟩:=h.hp
 have hb1:b1=[]:=by
  simp only [zI] at g5
  obtain ⟨v,vs,c1,c2,_,rfl,hv,_,rfl⟩:=g5
  simp only [Rep] at hv
  rw [hv.2.1]
  rfl
 subst hb1
 have hnd:((β t).own ++bk).Nodup :=by simpa using h.nodup
 have hown:(β t).own =[(β t).b]:=by simp [Loc.own,g1]
 have hN:∀b,NS Γ w ((β t).own ++([]++bk)) b→NS Γ w bk b:=fun b hb=>NS.sub (fun x hx=>by simp [hx]) hb
 have hbt:NS Γ w bk (β t).b :=by
  have:=h.own (β t).b (by simp [hown])
  refine ⟨?_,this.1,fun hbk=>?_⟩
  ·rcases this.2 with h1|h1
   ·exact .inr (.inl h1)
   ·exact .inr (.inr h1)
  ·rw [hown] at hnd
   exact (List.nodup_cons.1 hnd).1 hbk
 refine ⟨?_,β,bk,{defers:=h.defers,size:=h.size,keys:=?_,par:=h.par,grow:=h.grow,gh:=h.gh,quiet:=h.quiet,keep:=h.keep,hp:=uZ.frame (fun b hb=>⟨hN b hb,rfl⟩) _ _ (fun _ _=>rfl) (fun _ _=>rfl) hrest,nodup:=(List.nodup_append.1 hnd).2.1,own:=fun b hb=>h.own b (by simp [hb]),tm:=?_}⟩
 ·intro q hq
  simp only [St.mk',List.mem_append]
  exact hq
 ·have hk:=h.keys
  simp only [St.mk',List.map_cons,List.nodup_cons] at hk
  exact hk.2
 ·intro q d hd
  rcases htm.mem hd with ⟨_,h2⟩|⟨rfl,h2⟩
  ·obtain ⟨v,h3,h4⟩:=h.tm q d h2
   exact ⟨v,h3,Rep.frame (fun b hb=>⟨hN b hb,rfl⟩) d true v [] (by simp) (fun _ _=>rfl) h4⟩
  ·obtain ⟨v,h3,h4⟩:=h.tm q _ h2
   simp only [Rep] at h4
   obtain ⟨_,_,_,rfl⟩:=h4
   refine ⟨_,h3,?_⟩
   simp only [Rep]
   refine ⟨trivial,trivial,(β t).b,(β t).o,ws,by simp,hbt,g3.has,g4,?_⟩
   exact zI.frame (fun b hb=>⟨hN b hb,rfl⟩) _ true ws [] (by simp) (fun _ _=>rfl) g5
end
theorem zJg {P:Program} {f:FuncId} {el:TypeId} {z:Nat} {zv:Value} {n:Int} (h0:0≤n) (hzs:zv.cells.size=z)
  (hroom:n=0→∀w,Calls P f #[.slice none 0 0,.int .i64 n] w fun e w'=>e= .returned (.slice none 0 0)∧w'=w)
  (hgrow:0<n→∀w,Calls P f #[.slice none 0 0,.int .i64 n] w fun e w'=>∃G,n.toNat≤G∧e= .returned (.slice (some ⟨w.heap.size,0,none⟩) 0 G)∧w'=w.drew.alloc (.cells (Builtin.zeroCells zv.cells n.toNat++Builtin.zeroCells zv.cells (G-n.toNat)) el)):
  Ok P f [.sc (.slice none 0 0),.sc (.int .i64 n)] [] (some (.s true z 0 [],[])):=by
 intro out ho w N β vs bs ha hh hnd hlt hN hG
 cases ho
 have hbs:bs=[]:=hh
 subst hbs
 obtain ⟨rfl,_⟩:=zHS (vs:=[.slice none 0 0,.int .i64 n]) ha
 by_cases hn:n=0
 ·refine (hroom hn w).mono ?_
  rintro e w' ⟨rfl,rfl⟩
  refine ⟨_,[],[],rfl,Qt.refl _,Nat.le_refl _,fun _ _ _=>rfl,by simp,by simp,?_,rfl⟩
  simp only [Rep]
  exact ⟨rfl,by simp,none,0,rfl,Nat.le_refl _,.inl ⟨trivial,trivial,fun _=>⟨rfl,rfl⟩⟩⟩
 ·refine (hgrow (by omega) w).mono ?_
  rintro e w' ⟨G,hG1,rfl,rfl⟩
  generalize hc:(Builtin.zeroCells zv.cells n.toNat++Builtin.zeroCells zv.cells (G-n.toNat))=cells
  have hcs:cells.size=G*z:=by
   rw [←hc,Array.size_append]
   have hz:∀k,(Builtin.zeroCells zv.cells k).size =k*z:=fun k=>by
    rw [←hzs]
    simp [Builtin.zeroCells]
   rw [hz,hz,←Nat.add_mul]
   congr 1
   omega
  have hsz:(w.drew.alloc (.cells cells el)).heap.size =w.heap.size+1:=Array.size_push _
  have hnew:(w.drew.alloc (.cells cells el)).heap[w.heap.size]? =some (.cells cells el):=by
   show (w.heap.push _)[w.heap.size]? =_
   rw [Array.getElem?_push,if_pos rfl]
  refine ⟨_,[w.heap.size],[],rfl,⟨rfl,rfl,rfl,Nat.le_succ _⟩,by rw [hsz]; exact Nat.le_succ _,fun b hb _=>?_,by simp,?_,?_,rfl⟩
  ·show (w.heap.push _)[b]? =_
   rw [Array.getElem?_push,if_neg (by show ¬(b=w.heap.size); have:b<w.heap.size:=hb; omega)]
  ·intro b hb
   simp only [List.append_nil,List.mem_singleton] at hb
   subst hb
   exact ⟨by rw [hsz]; omega,.inr (Nat.le_refl _)⟩
  ·simp only [Rep]
   refine ⟨by simp,by simp,some ⟨w.heap.size,0,none⟩,G,rfl,Nat.zero_le _,.inr (.inr ⟨trivial,w.heap.size,0,[],[],rfl,rfl,⟨cells,el,0,0,hnew,fun k _=>by omega,by omega,by simp⟩,by simp [zZ]⟩)⟩
def ltC {α:Type} (cmp:α→α→Option Int) (x y:α):Bool:=match cmp x y with
 |some r=>decide (r<0)
 |none=>false
structure CmpOn {α:Type} (cmp:α→α→Option Int) (xs:List α):Prop where
 all:∀x∈xs,∀y∈xs,(cmp x y).isSome =true
 irrefl:∀x∈xs,ltC cmp x x=false
 trans:∀x∈xs,∀y∈xs,∀z∈xs,ltC cmp x y=true→ltC cmp y z=true→ltC cmp x z=true
 total:∀x∈xs,∀y∈xs,ltC cmp x y=false→ltC cmp y x=false→x=y
 nodup:xs.Nodup
 size:xs.length<4611686018427387904
section
open Go.Proofs Go.Sort
end
end Go.Im
set_option linter.unusedVariables false
namespace Go.Im
open Go
section
variable {Γ:Ctx} {ops:Array Oper} {o:Oper}
theorem zMJ {c:Cert} {x:Operand} {T el:TypeId} {z n k t p:Nat} {kk:IntKind} {ys xs:List (List D)} (hg:o.guard=none)
  (hop:o.op= .slice T x none (some (.const (.int kk (k:Int)))) (some (.const (.int kk (k:Int)))))
  (hc:c= {tn:=c.tn,hn:=c.hn,out:=some (.cw p k),hw:=[(p,.cow z xs t ys)],fr:=[p]}) (hm:Γ.m≤p) (hx:OpF c x (.rf t 0 n none)) (hh:(t,.row z ys)∈c.hn)
  (hT:yT Γ.P (underlying T)=some (.slice el)) (hz:zEA Γ.P el=some z) (hk0:0<k) (hk:k≤n) (hn:ys.length=n) (hys:xs=ys.take k):Valid Γ ops o c:=by
 intro σ a w Q hdst hn' ⟨h0,β,bs,hr⟩
 have hwt:Region.wanted o (yielded ops a.tmps)=true:=by simp [Region.wanted,hg]
 rw [if_pos hwt]
 have hfr:p∉σ.us:=hn'.2.2 p (by rw [hc]; simp)
 have h3:=OpF.rep hx hn' hr
 have hhm:=hn'.2.1 _ hh
 have htp:t≠p:=fun e=>hfr (e▸h0 t (.inr (List.mem_flatMap.2 ⟨_,hhm,by simp⟩)))
 obtain ⟨_,⟨hLz,hzz,_⟩,_⟩:=uZ.get hr.hp hhm
 simp only [Rep] at h3
 obtain ⟨_,_,⟨_,_,h4,_⟩|⟨hnil,cap,hv,hcap,hroom,_⟩⟩:=h3
 ·omega
 have hv:a.eval x= .slice (some ⟨(β t).b,(β t).o,none⟩) n cap:=by simpa using hv
 have hex:(execOp a.eval o).run Γ.P w= .ok (.value (.slice (some ⟨(β t).b,(β t).o,none⟩) k k)) w:=by
  refine zEs (s:=Instr.sliceAt T (a.eval x) none (some (.int kk (k:Int))) (some (.int kk (k:Int)))) (by simp [execOp,hop]; rfl) ?_
  rw [hv]
  unfold Instr.sliceAt
  rw [run_bind_ok (zL _ _ w hT)]
  simp only
  unfold Instr.slice
  rw [run_bind_ok (zL _ _ w hT)]
  simp only
  have hb:(Instr.sliceBounds true n cap none (some (.int kk (k:Int))) (some (.int kk (k:Int)))).run Γ.P w= .ok (0,k,k) w:=by
   unfold Instr.sliceBounds
   simp only
   rw [run_bind_ok (run_sliceBound (by omega))]
   rw [run_bind_ok (run_sliceBound (Nat.le_refl _))]
   rfl
  rw [run_bind_ok hb]
  simp only
  rw [run_bind_ok (zL _ _ w hz)]
  rw [if_neg (by omega)]
  simp [zDk]
 unfold Oper.wp
 rw [hex,Oper.upon_value]
 refine Rel.step (β1:=zEU β p ⟨true,(β t).b,(β t).o,z,0⟩) (bk:=bs) (br:=[]) (bn:=[]) h0 hr hdst (by rw [hc]; simp) (by rw [hc]; simpa using hfr) (by simp) (by rw [hc,zEI]; exact hr.hp) (Nat.le_refl _) (fun _ _ _=>rfl) ?_ ?_ (by simp) (by simp) ?_ ?_ (Qt.refl _)
 ·intro k hk'; exact kS (fun e=>hfr (e▸hk'))
 ·intro k hk'; exact kS (by omega)
 ·rw [hc]
  refine ⟨[],[],by simp [wJ,Loc.own],?_,rfl⟩
  rw [wJ]
  subst hys
  refine ⟨rfl,fun x hx=>hzz x (List.mem_of_mem_take hx),.inl ⟨rfl,rfl,?_⟩⟩
  rw [kS htp]
  refine ⟨rfl,rfl,hnil,k,hk0,by omega,?_,rfl⟩
  rw [←hLz]
  have:k*(β t).z ≤cap*(β t).z :=Nat.mul_le_mul_right _ (by omega)
  simp only [Nat.zero_add] at hroom
  omega
 ·intro d hd
  rw [hc] at hd
  cases hd
  simp only [Rep,wJ]
  exact ⟨trivial,trivial,.inl ⟨trivial,.inr ⟨hk0,trivial⟩⟩⟩
theorem zMf {β:Nat→Loc} {N:Nat→Prop} {w:World} {L:Loc} {b1 b2:List Nat} {z t:Nat} {xs ys:List (List D)} (h:zBX β N w L b1 (.cow z xs t ys)) (ht:zBX β N w (β t) b2 (.row z ys)) (hx:xs≠[]):
  L.z=z∧(∀x∈xs,x.length=z)∧∃ws bs zs,Has w L.b L.o ws∧zZ β N w zs ws bs∧(∀x∈zs,x.length=z)∧∃n,n≤zs.length∧xs=zs.take n:=by
 obtain ⟨h1,h2,⟨_,_,h3,h4,h5,n,h6,h7,_,h8⟩|⟨_,rfl,_⟩|⟨_,ws,h3,h4⟩⟩:=h
 ·obtain ⟨_,h9,⟨hn,_⟩|⟨_,ws,h10,h11⟩⟩:=ht
  ·rw [h5] at hn; cases hn
  ·exact ⟨h1,h2,ws,b2,ys,by rw [h3,h4]; exact h10.has,h11,h9,n,h7,h8⟩
 ·exact absurd rfl hx
 ·exact ⟨h1,h2,ws,_,xs,h3.has,h4,h2,xs.length,Nat.le_refl _,(List.take_length).symm⟩
theorem zJJ {c:Cert} {x y:Operand} {T el:TypeId} {k:IntKind} {z n t p:Nat} {i:Int} {xs ys:List (List D)} (hg:o.guard=none) (hop:o.op= .indexAddr T x y)
  (hc:c= {tn:=c.tn,hn:=c.hn,out:=some (.cp p i.toNat)}) (hx:OpF c x (.cw p n)) (hy:OpF c y (.sc (.int k i))) (hT:yT Γ.P (underlying T)=some (.slice el)) (hz:zEA Γ.P el=some z)
  (hi:0≤i) (hj:i<n) (hh:(p,.cow z xs t ys)∈c.hn):Valid Γ ops o c:=by
 refine kP (d:=.cp p i.toNat) (f:=fun ρ=>Instr.indexAt T (ρ x) (ρ y)) hg (fun ρ=>by simp [execOp,hop]) (by rw [hc]) fun β bs σ a w hn hr=>?_
 have h1:=OpF.rep hx hn hr
 have h2:=OpF.rep hy hn hr
 obtain ⟨_,⟨hLz,_⟩,_⟩:=uZ.get hr.hp (hn.2.1 _ hh)
 simp only [Rep] at h1 h2
 have hv:∃c',a.eval x= .slice (some ⟨(β p).b,(β p).o,none⟩) n c':=by
  rcases h1.2.2 with ⟨_,⟨h0,_⟩|⟨_,h⟩⟩|⟨_,c',h,_⟩
  ·omega
  ·exact ⟨_,h⟩
  ·exact ⟨_,h⟩
 obtain ⟨c',hv⟩:=hv
 refine ⟨.pointer (some ⟨(β p).b,(β p).o +i.toNat*(β p).z,none⟩),?_,by simp only [Rep]; exact ⟨trivial,trivial,trivial⟩⟩
 rw [h2.1,hv]
 unfold Instr.indexAt
 rw [run_bind_ok (a:=(k,i)) (w':=w) rfl]
 simp only
 rw [run_bind_ok (zL _ _ w hT)]
 simp only
 rw [run_bind_ok (a:=(some (⟨(β p).b,(β p).o,none⟩:Addr),n,el)) (w':=w) rfl]
 rw [run_bind_ok (zL _ _ w hT)]
 simp only
 rw [if_pos ⟨hi,hj⟩]
 rw [run_bind_ok (zL _ _ w hz)]
 rw [zDk,hLz]
 rfl
theorem zKe {c:Cert} {x:Operand} {T:TypeId} {z t p i:Nat} {xs ys:List (List D)} {e:List D} {d:D} (hg:o.guard=none) (hop:o.op= .load T x) (hc:c= {tn:=c.tn,hn:=c.hn,out:=some d})
  (hx:OpF c x (.cp p i)) (hh:(p,.cow z xs t ys)∈c.hn) (hh2:(t,.row z ys)∈c.hn) (he:xs[i]? =some e) (ho:e.all zCB=true) (hd:zCw Γ.P T e=some d):Valid Γ ops o c:=by
 refine kP (d:=d) (f:=fun ρ=>Instr.loadAt T (ρ x)) hg (fun ρ=>by simp [execOp,hop]) (by rw [hc]) fun β bs σ a w hn hr=>?_
 have h1:=OpF.rep hx hn hr
 simp only [Rep] at h1
 obtain ⟨b1,hE0,_,_⟩:=uZ.get hr.hp (hn.2.1 _ hh)
 obtain ⟨b2,hE1,_,_⟩:=uZ.get hr.hp (hn.2.1 _ hh2)
 obtain ⟨hLz,_,ws,bb,zs,hH,hE,hzz,n,hnl,hxz⟩:=zMf hE0 hE1 (by intro e0; subst e0; simp at he)
 have he':zs[i]? =some e:=by
  rw [hxz,List.getElem?_take] at he
  split at he
  ·exact he
  ·cases he
 obtain ⟨b2,b3,b4,_,h4,_,_⟩:=zZ.get hE hzz he'
 have hone:=zEO ho h4
 obtain ⟨v,h7,h8⟩:=zD7 hd (hH.sub (i*z) z) hone h4.up
 refine ⟨v,?_,h8⟩
 rw [h1.2.2,hLz]
 exact h7
theorem zLi {c:Cert} {x:Operand} {T el:TypeId} {n t:Nat} (hg:o.guard=none)
  (hop:o.op= .call {callee:=.builtin .len,args:= #[x],argTypes:= #[T]}) (hc:c= {tn:=c.tn,out:=some (.sc (.int .i64 n))})
  (hx:OpF c x (.cw t n)) (hT:yT Γ.P (underlying T)=some (.slice el)):Valid Γ ops o c:=by
 rw [hc]
 refine tZ hg rfl rfl fun β bs σ a w hn hr=>?_
 have h1:=OpF.rep (c:=c) hx ⟨hn.1,by rw [hc]; simp,by rw [hc]; simp⟩ hr
 simp only [Rep] at h1
 have hv:∃ad cp,a.eval x= .slice ad n cp:=by
  rcases h1.2.2 with ⟨_,⟨h0,h⟩|⟨_,h⟩⟩|⟨_,c',h,_⟩
  ·subst h0; exact ⟨_,_,h⟩
  ·exact ⟨_,_,h⟩
  ·exact ⟨_,_,h⟩
 obtain ⟨ad,cp,hv⟩:=hv
 refine ⟨.int .i64 n,?_,fun d hd=>by cases hd; simp [Rep]⟩
 rw [kY hop]
 simp only [builtin,List.map_toArray,List.map_cons,List.map_nil]
 rw [hv]
 refine run_bind_ok (a:=Value.int .i64 n) (w':=w) ?_
 unfold Builtin.len_
 simp only [List.getElem?_toArray,List.getElem?_cons_zero]
 exact run_bind_ok (zL _ _ w hT)
theorem zHK {P:Program} {w:World} {T U el:TypeId} {ty:TypeId} {z n m bytes:Nat} {u:Value} {wx wy:List Value} {zv:Value} {b off:Nat}
  (hT:P.underlying T=some (.slice el)) (hinfo:(P.info? el).map (fun i=>(i.zero,i.size,i.bytes))=some (some zv,z,bytes)) (hzs:zv.cells.size=z)
  (hH:Has w b off wx) (hxl:wx.length=n*z) (hm:0<m) (hs:Go.Src P z U u m wy w) (hbig:(n+m)*bytes≤140737488355328) (h62:n+m≤4611686018427387904):
  ∃r w1,(Builtin.append_ #[T,U] ty #[.slice (some ⟨b,off,none⟩) n n,u]).run P w= .ok r w1∧zNj w w1 z n m wx wy [] r:=by
 obtain ⟨i,hi,hz0,rfl,rfl⟩:=zI5 hinfo
 have hyl:=hs.newsLen
 have hge:=grownCap_ge w (n+m) n el
 have hold:(Builtin.firstCells i.size n (.slice (some ⟨b,off,none⟩) n n)).run P w.drew= .ok wx.toArray w.drew:=by
  simp only [Builtin.firstCells]
  exact run_loadCells (hH.frame rfl) hxl
 refine ⟨_,_,run_append_grow_src w T U ty el i zv hT hi hz0 (some ⟨b,off,none⟩) n n wx hold u m wy hs (by omega) (by omega) (growslice_fits (by omega) hbig),⟨rfl,rfl,rfl,Nat.le_succ _⟩,.inr ⟨w.heap.size,0,_,rfl,hge,?_,?_,.inr ⟨rfl,?_,?_⟩⟩⟩
 ·refine zGw (w:=w) rfl ?_ ⟨_,by simp; rfl⟩
  simp only [Array.size_append,List.size_toArray,List.length_append,hyl,hxl,Builtin.zeroCells,Array.size_map,Array.size_range,hzs,←Nat.add_mul]
  exact Nat.mul_le_mul_right _ (by omega)
 ·show w.heap.size< (w.heap.push _).size; simp
 ·show w.heap.size≤(w.heap.push _).size; simp
 ·intro b' hb'; exact zEx (w:=w) rfl hb'
theorem zIt {c:Cert} {x y:Operand} {T U el e':TypeId} {t q td ts n m z bytes:Nat} {cs:Option Nat} {zv:Value} {xs ys rs:List (List D)} (hg:o.guard=none)
  (hop:o.op= .call {callee:=.builtin .append,args:= #[x,y],argTypes:= #[T,U]}) (hc:c= {tn:=c.tn,hn:=c.hn,out:=some (.rf t 0 (n+m) none),hx:=[td,ts],hw:=[(t,.row z (xs++ys))],fr:=[t]})
  (hm:Γ.m≤t) (hm0:0<m) (hx:OpF c x (.cw td n)) (hy:OpF c y (.rf ts 0 m cs)) (hne:td≠ts) (hxr:(td,.cow z xs q rs)∈c.hn) (hqr:(q,.row z rs)∈c.hn) (hyr:(ts,.row z ys)∈c.hn) (hlx:xs.length=n) (hly:ys.length=m)
  (hT:Γ.P.underlying T=some (.slice el)) (hU:Γ.P.underlying U=some (.slice e')) (hinfo:(Γ.P.info? el).map (fun i=>(i.zero,i.size,i.bytes))=some (some zv,z,bytes)) (hzs:zv.cells.size=z)
  (honex:∀β N (w:World) ws bs,zZ β N w xs ws bs→zZ β N w xs ws []) (hone:∀e∈ys,e.all zCB=true) (hbig:(n+m)*bytes≤140737488355328) (h62:n+m≤4611686018427387904):Valid Γ ops o c:=by
 intro σ a w Q hdst hn ⟨h0,β,bs,hr⟩
 have hwt:Region.wanted o (yielded ops a.tmps)=true:=by simp [Region.wanted,hg]
 rw [if_pos hwt]
 have hfr:t∉σ.us:=hn.2.2 t (by rw [hc]; simp)
 obtain ⟨b3,hEq,_,_⟩:=uZ.get hr.hp (hn.2.1 _ hqr)
 obtain ⟨b1,b2',p1,hE1,hrest⟩:=uZ.take hr.hp hr.keys (hn.2.1 _ hxr)
 obtain ⟨b2,bk,p2,hE2,hrest2⟩:=uZ.take hrest (List.Nodup.sublist (List.Sublist.map _ List.filter_sublist) hr.keys) (List.mem_filter.2 ⟨hn.2.1 _ hyr,by simpa using fun e=>hne e.symm⟩)
 obtain ⟨wy,hS,hEy,hzy⟩:=zGZ (OpF.rep hy hn hr) hE2 hly
 have hsrc:Go.Src Γ.P z U (a.eval y) m wy w:=zEp hU (zDV hone hEy) (by
  rcases hS with ⟨q1,q2,q3,_⟩|⟨b,off,cp,q1,_,_,q2,q3⟩
  ·exact .inl ⟨q1,q2,q3⟩
  ·exact .inr ⟨b,off,cp,q1,q2.has,q3⟩)
 have hvx:=OpF.rep hx hn hr
 simp only [Rep] at hvx
 obtain ⟨_,_,hvx⟩:=hvx
 obtain ⟨hLz,hzx,hrow⟩:=hE1
 have key:∃wx r w1,(Builtin.append_ #[T,U] o.type #[a.eval x,a.eval y]).run Γ.P w= .ok r w1∧zNj w w1 z n m wx wy (β td).own r∧zZ β (NS Γ w bs) w xs wx b1:=by
  rcases hrow with ⟨hnil,rfl,hrb,hro,hqn,k,hk0,hkl,_,hxk⟩|⟨hnil,rfl,rfl⟩|⟨hnil,wx,hO,hE⟩
  ·have hown:(β td).own =[]:=by simp [Loc.own,hnil]
   rw [hown]
   have hkn:n=k:=by rw [←hlx,hxk]; simp; omega
   rcases hvx with ⟨_,⟨hn0,_⟩|⟨_,hv⟩⟩|⟨hnil',_⟩
   ·omega
   ·obtain ⟨hqz,hzq,⟨hqn',_⟩|⟨_,wq,hOq,hEq⟩⟩:=hEq
    ·rw [hqn] at hqn'; cases hqn'
    ·obtain ⟨d1,d2,_,hd1,_⟩:=hEq.cut k hzq
     rw [←hxk] at hd1
     have hE:=honex _ _ _ _ _ hd1
     have hxl:(wq.take (k*z)).length =n*z:=by rw [hE.length hzx,hlx]
     have hH:Has w (β td).b (β td).o (wq.take (k*z)):=by
      rw [hrb,hro]
      have:=hOq.has.sub 0 (k*z)
      simpa using this
     obtain ⟨r,w1,hrun,hA⟩:=zHK (ty:=o.type) hT hinfo hzs hH hxl hm0 hsrc hbig h62
     rw [hv]
     exact ⟨_,r,w1,hrun,hA,hE⟩
   ·rw [hnil] at hnil'; cases hnil'
  ·have hown:(β td).own =[]:=by simp [Loc.own,hnil]
   rw [hown]
   have hn0:n=0:=by simpa using hlx.symm
   rcases hvx with ⟨_,⟨_,hv⟩|⟨h,_⟩⟩|⟨hnil',_⟩
   ·obtain ⟨r,w1,hrun,hA⟩:=zDU (ty:=o.type) hT hinfo hzs (n:=n) (wx:=[]) (blk:=[]) (.inl ⟨hv,hn0,rfl,rfl⟩) hsrc hbig h62
    exact ⟨[],r,w1,hrun,hA,by simp [zZ]⟩
   ·omega
   ·rw [hnil] at hnil'; cases hnil'
  ·rcases hvx with ⟨hnil',_⟩|⟨_,cp,hv,hcap,hroom⟩
   ·rw [hnil] at hnil'; cases hnil'
   ·obtain ⟨r,w1,hrun,hA⟩:=zDU (ty:=o.type) (v:=a.eval x) (wx:=wx) (blk:=(β td).own) hT hinfo hzs (n:=n) (.inr ⟨(β td).b,(β td).o,cp,hv,by simp [Loc.own,hnil],hcap,hO.mono (by rw [←hLz]; exact hroom),by rw [hE.length hzx,hlx]⟩) hsrc hbig h62
    exact ⟨wx,r,w1,hrun,hA,hE⟩
 obtain ⟨wx,r,w1,hrun,hA,hEx⟩:=key
 have hex:(execOp a.eval o).run Γ.P w= .ok (.value r) w1:=by
  rw [kY hop]
  simp only [builtin,List.map_toArray,List.map_cons,List.map_nil]
  exact run_bind_ok hrun
 unfold Oper.wp
 rw [hex,Oper.upon_value]
 refine zDX (b1:=b1) (b2:=b2) (bx:=(β ts).own) (bk:=bk) (blk:=(β td).own) h0 hr hdst (by rw [hc]) hfr hm ?_ ?_ hEx hEy hzx hzy hlx hly hA (by rw [hc])
 ·refine p1.trans ?_
  refine (List.Perm.append_left _ (List.Perm.append_left _ p2)).trans ?_
  simp only [List.append_assoc]
  refine List.Perm.append_left _ (List.Perm.append_left _ ?_)
  rw [←List.append_assoc,←List.append_assoc]
  exact List.Perm.append_right _ List.perm_append_comm
 ·rw [hc]
  rw [zFm] at hrest2
  exact hrest2
theorem zGK {β:Nat→Loc} {N:Nat→Prop} {w:World}:∀{xs:List (List D)} {ws:List Value} {bs:List Nat},(∀e∈xs,e.all D.free=true)→zZ β N w xs ws bs→zZ β N w xs ws []
 |[],ws,bs,_,h=>by
  simp only [zZ] at h ⊢
  exact ⟨h.1,trivial⟩
 |e::es,ws,bs,he,h=>by
  simp only [zZ] at h ⊢
  obtain ⟨w1,w2,b1,b2,h1,_,h3,h4⟩:=h
  have e1:=zI.free (he e (by simp)) h3.up
  subst e1
  exact ⟨w1,w2,[],[],h1,rfl,h3,zGK (fun e he'=>he e (by simp [he'])) h4⟩
theorem zNb {α:Type} {ys r:List α} {k:Nat} {kk:IntKind} (T el z t p:Nat) (enc:α→List D) (x:Operand) (h:zEe ys 0 (k:Int)=some r) (hx:OkO x (.rf t 0 ys.length none):=by trivial)
  (hT:(yT Γ.P (underlying T),zEA Γ.P el,Nat.ble Γ.m p,Nat.blt 0 k)=(some (.slice el),some z,true,true):=by kernel_rfl):
  OpV Γ (.slice T x none (some (.const (.int kk (k:Int)))) (some (.const (.int kk (k:Int))))) {tn:=tnO x (.rf t 0 ys.length none),hn:=[(t,rE z enc ys)],out:=some (.cw p r.length),hw:=[(p,.cow z (r.map enc) t (ys.map enc))],fr:=[p]}:=by
 simp only [Prod.mk.injEq] at hT
 intro ops o hop hg
 unfold zEe at h
 split at h
 ·rename_i q
  cases h
  have hl:((ys.drop (0:Int).toNat).take ((k:Int).toNat -(0:Int).toNat)).length =k:=by simp; omega
  have hk0:0<k:=by simpa using hT.2.2.2
  rw [hl]
  exact zMJ (ys:=ys.map enc) hg hop rfl (Nat.le_of_ble_eq_true hT.2.2.1) (hx.f (fun y hy=>hy)) (.head _) hT.1 hT.2.1 hk0 (by omega) (by simp) (by simp)
 ·cases h
theorem zN9 {α:Type} {xs ys:List α} {i:Int} {a:α} {kk:IntKind} (T el z p t:Nat) (enc:α→List D) (x y:Operand) (h:idx xs i=some a) (hx:OkO x (.cw p xs.length):=by trivial) (hy:OkO y (.sc (.int kk i)):=by first|trivial|rfl)
  (hT:(yT Γ.P (underlying T),zEA Γ.P el)=(some (.slice el),some z):=by kernel_rfl):
  OpV Γ (.indexAddr T x y) {tn:=tnO x (.cw p xs.length)++tnO y (.sc (.int kk i)),hn:=[(p,.cow z (xs.map enc) t (ys.map enc))],out:=some (.cp p i.toNat)}:=by
 simp only [Prod.mk.injEq] at hT
 intro ops o hop hg
 obtain ⟨h1,h2⟩:=zEL h
 have:=(List.getElem?_eq_some_iff.1 h2).1
 exact zJJ (xs:=xs.map enc) hg hop rfl (hx.f (fun y hy=>List.mem_append_left _ hy)) (hy.f (fun y hy=>List.mem_append_right _ hy)) hT.1 hT.2 h1 (by omega) (.head _)
theorem zNF {α:Type} {xs ys:List α} {i:Int} {a:α} {d:D} (T z p t:Nat) (enc:α→List D) (x:Operand) (h:idx xs i=some a) (hd:((enc a).all zCB,zCw Γ.P T (enc a))=(true,some d)) (hx:OkO x (.cp p i.toNat):=by trivial):
  OpV Γ (.load T x) {tn:=tnO x (.cp p i.toNat),hn:=[(p,.cow z (xs.map enc) t (ys.map enc)),(t,rE z enc ys)],out:=some d}:=by
 simp only [Prod.mk.injEq] at hd
 intro ops o hop hg
 obtain ⟨h1,h2⟩:=zEL h
 exact zKe (xs:=xs.map enc) hg hop rfl (hx.f (fun y hy=>hy)) (.head _) (.tail _ (.head _)) (by rw [List.getElem?_map,h2]; rfl) hd.1 hd.2
theorem zM8 (T el t n:Nat) (x:Operand) (hx:OkO x (.cw t n):=by trivial) (hT:yT Γ.P (underlying T)=some (.slice el):=by kernel_rfl):
  OpV Γ (.call {callee:=.builtin .len,args:= #[x],argTypes:= #[T]}) {tn:=tnO x (.cw t n),out:=some (.sc (.int .i64 (n:Int)))}:=by
 intro ops o hop hg
 exact zLi hg hop rfl (hx.f (fun y hy=>hy)) hT
theorem zNt {α:Type} {xs zs rs:List α} {y0:α} (T U el e' z bytes t td q ts:Nat) (enc:α→List D) (x y:Operand) (h:app bytes xs [y0]=some zs) (hx:OkO x (.cw td xs.length):=by trivial) (hy:OkO y (.rf ts 0 1 none):=by trivial)
  (hfree:∀a,(enc a).all D.free=true:=by intro _; rfl) (hone:∀a,(enc a).all zCB=true:=by intro _; rfl) (hT:(Γ.P.underlying T,Γ.P.underlying U,zGG Γ.P el,(zG2 Γ.P el).cells.size,Nat.ble Γ.m t,td==ts)=(some (.slice el),some (.slice e'),some (some (zG2 Γ.P el),z,bytes),z,true,false):=by kernel_rfl):
  OpV Γ (.call {callee:=.builtin .append,args:= #[x,y],argTypes:= #[T,U]}) {tn:=tnO x (.cw td xs.length)++tnO y (.rf ts 0 1 none),hn:=[(td,.cow z (xs.map enc) q (rs.map enc)),(q,rE z enc rs),(ts,rE z enc [y0])],out:=some (.rf t 0 zs.length none),hx:=[td,ts],hw:=[(t,rE z enc zs)],fr:=[t]}:=by
 simp only [Prod.mk.injEq] at hT
 obtain ⟨h1,h2,h3,h4,h5,h6⟩:=hT
 intro ops o hop hg
 obtain ⟨rfl,q1,q2⟩:=zFk h
 have e:(xs++[y0]).length =xs.length+1:=by simp
 rw [e,rE,rE,rE,List.map_append]
 refine zIt (xs:=xs.map enc) (ys:=[y0].map enc) (rs:=rs.map enc) (n:=xs.length) (m:=1) hg hop rfl (Nat.le_of_ble_eq_true h5) (by omega) (hx.f (fun y hy=>List.mem_append_left _ hy)) (hy.f (fun y hy=>List.mem_append_right _ hy)) (by simpa using h6) (.head _) (.tail _ (.head _)) (.tail _ (.tail _ (.head _))) (by simp) (by simp) h1 h2 h3 h4 ?_ ?_ q1 q2
 ·intro β N w ws bs hE
  refine zGK ?_ hE
  intro e he
  obtain ⟨a,_,rfl⟩:=List.mem_map.1 he
  exact hfree a
 ·intro e he
  obtain ⟨a,_,rfl⟩:=List.mem_map.1 he
  exact hone a
end
section
variable {Γ:Ctx} {fc:Code} {k:List II} {σ:St} {T:Type} {K:T→Option (D×List Ent)}
inductive Cw (t:Nat):D→D→Prop where
 |same {d:D}:Cw t d d
 |rf {n:Nat} {cap:Option Nat}:Cw t (.rf t 0 n cap) (.cw t n)
inductive CwT (t:Nat):List (Nat×D)→List (Nat×D)→Prop where
 |nil:CwT t [] []
 |cons {q:Nat} {d d':D} {l l':List (Nat×D)}:Cw t d d'→CwT t l l'→CwT t ((q,d)::l) ((q,d')::l')
theorem Cw.men {t:Nat} {d d':D} (h:Cw t d d'):d'.men=d.men:=by
 cases h<;>rfl
theorem CwT.zFN {t:Nat} {l l':List (Nat×D)} (h:CwT t l l'):zFN l'=zFN l:=by
 induction h with
 |nil=>rfl
 |cons h1 _ ih=>simp only [Im.zFN,List.flatMap_cons,h1.men] at ih ⊢; rw [ih]
theorem CwT.mem {t:Nat} {l l':List (Nat×D)} (h:CwT t l l'):∀{q:Nat} {d':D},(q,d')∈l'→∃d,(q,d)∈l∧Cw t d d':=by
 induction h with
 |nil=>intro q d' h; cases h
 |cons h1 _ ih=>
  intro q d' h
  rcases List.mem_cons.1 h with h|h
  ·cases h; exact ⟨_,by simp,h1⟩
  ·obtain ⟨d,h3,h4⟩:=ih h; exact ⟨d,by simp [h3],h4⟩
theorem Cw.rep {β:Nat→Loc} {N:Nat→Prop} {w:World} {t:Nat} {d d':D} {v:Value} (h:Cw t d d') (hr:Rep β N w true d v []):Rep β N w true d' v []:=by
 cases h with
 |same=>exact hr
 |rf=>
  simp only [Rep] at hr ⊢
  obtain ⟨h1,h2,⟨h3,_,h4,h5⟩|⟨h3,c,h4,h5,h6,_⟩⟩:=hr
  ·exact ⟨h1,h2,.inl ⟨h3,.inl ⟨h4,h5⟩⟩⟩
  ·exact ⟨h1,h2,.inr ⟨h3,c,by simpa using h4,h5,by simpa using h6⟩⟩
theorem zNC {e:Option T} (p t:Nat) {z:Nat} {xs ys:List (List D)} {tm1 tm2:List (Nat×D)} {hp:List (Nat×Ent)} (htm:CwT p tm1 tm2) (ht:(hp.map (·.1)).contains t=true)
  (hj:J Γ fc k (St.mk' tm2 ((p,.cow z xs t ys)::hp)) e K):J Γ fc k (St.mk' tm1 ((p,.row z xs)::hp)) e K:=by
 refine zFg (fun a w hr=>?_) hj
 obtain ⟨h0,β,bs,h⟩:=hr
 refine ⟨?_,β,bs,{defers:=h.defers,size:=h.size,keys:=h.keys,par:=h.par,grow:=h.grow,gh:=h.gh,quiet:=h.quiet,keep:=h.keep,hp:=?_,nodup:=h.nodup,own:=h.own,tm:=?_}⟩
 ·intro q hq
  simp only [St.mk',List.mem_append]
  exact hq
 ·obtain ⟨b1,b2,h1,⟨h2,h3,h4⟩,h5⟩:=h.hp
  exact ⟨b1,b2,h1,⟨h2,h3,.inr h4⟩,h5⟩
 ·intro q d' hd
  obtain ⟨d,h1,h2⟩:=htm.mem hd
  obtain ⟨v,h3,h4⟩:=h.tm q d h1
  exact ⟨v,h3,h2.rep h4⟩
inductive Cf (p t n:Nat):D→D→Prop where
 |same {d:D}:d.men.contains t=false→d.men.contains p=false→Cf p t n d d
 |cw:Cf p t n (.cw p n) (.rf p 0 n none)
inductive CfT (p t n:Nat):List (Nat×D)→List (Nat×D)→Prop where
 |nil:CfT p t n [] []
 |cons {q:Nat} {d d':D} {l l':List (Nat×D)}:Cf p t n d d'→CfT p t n l l'→CfT p t n ((q,d)::l) ((q,d')::l')
theorem CfT.mem {p t n:Nat} {l l':List (Nat×D)} (h:CfT p t n l l'):∀{q:Nat} {d':D},(q,d')∈l'→∃d,(q,d)∈l∧Cf p t n d d':=by
 induction h with
 |nil=>intro q d' h; cases h
 |cons h1 _ ih=>
  intro q d' h
  rcases List.mem_cons.1 h with h|h
  ·cases h; exact ⟨_,by simp,h1⟩
  ·obtain ⟨d,h3,h4⟩:=ih h; exact ⟨d,by simp [h3],h4⟩
theorem zMZ {e:Option T} (p t:Nat) {z n:Nat} {xs ys:List (List D)} {tm1 tm2:List (Nat×D)} {hp:List (Nat×Ent)} (htm:CfT p t n tm1 tm2) (hhp:(zEV hp).contains t=false∧(zEV hp).contains p=false) (hpm:Γ.m≤p)
  (hn:xs.length=n)
  (hj:J Γ fc k (St.mk' tm2 ((p,.row z xs)::hp)) e K):J Γ fc k (St.mk' tm1 ((p,.cow z xs t ys)::(t,.row z ys)::hp)) e K:=by
 refine zFg (fun a w hr=>?_) hj
 obtain ⟨h0,β,bs,h⟩:=hr
 obtain ⟨bp,bq,rfl,hE,bt,bk,rfl,hEt,hrest⟩:=h.hp
 obtain ⟨hLz,hzz,hrow⟩:=hE
 obtain ⟨hTz,hzt,hrowt⟩:=hEt
 have hkeys:=h.keys
 simp only [St.mk',List.map_cons,List.nodup_cons,List.mem_cons,not_or] at hkeys
 have hmp:∀q∈zEV hp,q≠p:=fun q hq e=>by
  subst e
  have:=hhp.2
  simp only [List.contains_eq_mem,decide_eq_false_iff_not] at this
  exact this hq
 have hus:∀q,q∈zFN tm2∨q∈zEV ((p,Ent.row z xs)::hp)→q∈(St.mk' tm2 ((p,Ent.row z xs)::hp)).us :=by
  intro q hq
  simp only [St.mk',List.mem_append]
  exact hq
 rcases hrow with ⟨hnil,rfl,hrb,hro,htn,k,hk0,hkl,hkr,hxk⟩|hrow
 ·
  obtain ⟨hn',_⟩|⟨_,ws,hO,hEs⟩:=hrowt
  ·rw [htn] at hn'; cases hn'
  obtain ⟨d1,d2,rfl,hd1,_⟩:=hEs.cut k hzt
  have hown:(β p).own =[]:=by simp [Loc.own,hnil]
  have hownt:(β t).own =[(β t).b]:=by simp [Loc.own,htn]
  have hnd:=h.nodup
  rw [hown,hownt] at hnd
  have hsubl:List.Sublist ((β t).b ::d1++bk) ([]++([]++([(β t).b]++(d1++d2++bk)))):=by
   simp only [List.nil_append,List.cons_append]
   refine List.Sublist.cons_cons _ ?_
   rw [List.append_assoc]
   exact List.Sublist.append_left (List.sublist_append_right _ _) _
  have hNS:∀b,NS Γ w ((β p).own ++([]++((β t).own ++(d1++d2++bk)))) b→NS Γ w ((β t).b ::d1++bk) b∧w.heap[b]? =w.heap[b]? :=fun b hb=>by
   refine ⟨NS.sub (fun x hx=>?_) hb,rfl⟩
   rw [hown,hownt]
   exact hsubl.subset hx
  refine ⟨hus,zEU β p (β t),(β t).b ::d1++bk,{defers:=h.defers,size:=h.size,keys:=?_,par:=fun k hk=>(kS (by omega)).trans (h.par k hk),grow:=h.grow,gh:=h.gh,quiet:=h.quiet,keep:=h.keep,hp:=?_,nodup:=hnd.sublist hsubl,own:=fun b hb=>h.own b (by rw [hown,hownt]; exact hsubl.subset hb),tm:=?_}⟩
  ·simp only [St.mk',List.map_cons,List.nodup_cons]
   exact ⟨hkeys.1.2,hkeys.2.2⟩
  ·refine ⟨d1,bk,by simp [wJ,hownt],?_,?_⟩
   ·rw [wJ]
    refine ⟨hTz,hzz,.inr ⟨htn,ws.take (k*z),?_,?_⟩⟩
    ·obtain ⟨arr,e,lo,hi,u1,u2,u3,u4⟩:=hO
     refine ⟨arr,e,lo,hi,u1,u2,u3,fun j hj=>?_⟩
     simp only [List.length_take] at hj
     rw [u4 j (by omega)]
     simp
    ·rw [hxk]
     exact zZ.frame hNS _ _ _ (fun _ _=>rfl) hd1
   ·exact uZ.frame hNS _ _ (fun _ _=>rfl) (fun q hq=>kS (hmp q hq)) hrest
  ·intro q d' hd
   obtain ⟨d,h1,h2⟩:=htm.mem hd
   obtain ⟨v,h3,h4⟩:=h.tm q d h1
   refine ⟨v,h3,?_⟩
   cases h2 with
   |same q1 q2=>
    refine Rep.frame hNS _ true v [] (by simp) (fun q hq=>kS (fun e=>?_)) h4
    subst e
    simp only [List.contains_eq_mem,decide_eq_false_iff_not] at q2
    exact q2 hq
   |cw=>
    simp only [Rep,wJ] at h4 ⊢
    have hmk:n=k:=by rw [←hn,hxk]; simp; omega
    obtain ⟨_,_,⟨_,⟨h5,_⟩|⟨_,h5⟩⟩|⟨hn',_⟩⟩:=h4
    ·omega
    ·refine ⟨trivial,trivial,.inr ⟨htn,n,by rw [h5,hrb,hro]; simp,Nat.le_refl _,?_,by simp⟩⟩
     rw [hTz,hmk]
     simpa using hkr
    ·rw [hnil] at hn'; cases hn'
 ·
  have hsubl:List.Sublist ((β p).own ++(bp++bk)) ((β p).own ++(bp++((β t).own ++(bt++bk)))):=by
   refine List.Sublist.append_left (List.Sublist.append_left ?_ _) _
   rw [←List.append_assoc]
   exact List.sublist_append_right _ _
  have hNS:∀b,NS Γ w ((β p).own ++(bp++((β t).own ++(bt++bk)))) b→NS Γ w ((β p).own ++(bp++bk)) b∧w.heap[b]? =w.heap[b]? :=fun b hb=>⟨NS.sub (fun x hx=>hsubl.subset hx) hb,rfl⟩
  refine ⟨hus,β,(β p).own ++(bp++bk),{defers:=h.defers,size:=h.size,keys:=?_,par:=h.par,grow:=h.grow,gh:=h.gh,quiet:=h.quiet,keep:=h.keep,hp:=?_,nodup:=h.nodup.sublist hsubl,own:=fun b hb=>h.own b (hsubl.subset hb),tm:=?_}⟩
  ·simp only [St.mk',List.map_cons,List.nodup_cons]
   exact ⟨hkeys.1.2,hkeys.2.2⟩
  ·refine ⟨bp,bk,rfl,⟨hLz,hzz,?_⟩,?_⟩
   ·rcases hrow with h'|⟨h1,ws,h2,h3⟩
    ·exact .inl h'
    ·exact .inr ⟨h1,ws,h2,zZ.frame hNS _ _ _ (fun _ _=>rfl) h3⟩
   ·exact uZ.frame hNS _ _ (fun _ _=>rfl) (fun _ _=>rfl) hrest
  ·intro q d' hd
   obtain ⟨d,h1,h2⟩:=htm.mem hd
   obtain ⟨v,h3,h4⟩:=h.tm q d h1
   refine ⟨v,h3,?_⟩
   cases h2 with
   |same q1 q2=>exact Rep.frame hNS _ true v [] (by simp) (fun _ _=>rfl) h4
   |cw=>
    simp only [Rep] at h4 ⊢
    obtain ⟨_,_,⟨hn',⟨h5,h6⟩|⟨h5,_⟩⟩|⟨hn',c,h5,h6,h7⟩⟩:=h4
    ·exact ⟨trivial,trivial,.inl ⟨hn',trivial,h5,h6⟩⟩
    ·rcases hrow with ⟨_,hx0,_⟩|⟨hn2,_⟩
     ·rw [hx0] at hn; simp at hn; omega
     ·rw [hn'] at hn2; cases hn2
    ·exact ⟨trivial,trivial,.inr ⟨hn',c,by simpa using h5,h6,by simpa using h7,by simp⟩⟩
end
end Go.Im

import Derived.Test.YtdeihchdibglaaaGreatImF
import Derived.Shelf.SlSortCmp.NoneTotal
set_option linter.unusedVariables false
namespace Go.Im
open Go
def zJW {α:Type} (enc:α→List D):Option α→List D
 |some a=>enc a
 |none=>[.un]
theorem zLa {α:Type} (enc:α→List D) (xs:List α):(xs.map some).map (zJW enc)=xs.map enc:=by
 rw [List.map_map]
 rfl
def zN8 {α:Type} (xs:List (Option α)) (i:Int):Option α:=(idx xs i).bind id
theorem zHO {α:Type} {xs:List (Option α)} {i:Int} {a:α} (h:zN8 xs i=some a):idx xs i=some (some a):=by
 unfold zN8 at h
 obtain ⟨o,h1,h2⟩:=Option.bind_eq_some_iff.1 h
 cases h2
 exact h1
section
variable {Γ:Ctx} {fc:Code} {k:List II} {σ:St} {T:Type} {K:T→Option (D×List Ent)}
theorem zNN {e0:Option T} {t i j t' n z:Nat} {xs:List (List D)} (hl:lk σ.hp t=some (.lent z xs i j t' n))
  (hj:J Γ fc k ⟨σ.tm,(t,.row z (xs.modify i (fun c=>c.set j .un)))::σ.hp.filter (fun x=>x.1 !=t),σ.us⟩ e0 K):J Γ fc k σ e0 K:=by
 refine zF1 (fun a w hr=>?_) hj
 obtain ⟨h0,β,bs,h⟩:=hr
 have hm:=zBt hl
 obtain ⟨b1,bk,p,⟨g1,g2,g3,ws,g4,g5,_⟩,hrest⟩:=uO.take h.hp h.keys hm
 refine ⟨fun q hq=>h0 q ?_,β,(β t).own ++(b1++bk),{defers:=h.defers,size:=h.size,keys:=?_,par:=h.par,grow:=h.grow,gh:=h.gh,quiet:=h.quiet,keep:=h.keep,hp:=?_,nodup:=p.nodup_iff.1 h.nodup,own:=fun b hb=>h.own b (p.mem_iff.2 hb),tm:=?_}⟩
 ·rcases hq with hq|hq
  ·exact .inl hq
  ·right
   obtain ⟨x,hx,hx'⟩:=List.mem_flatMap.1 hq
   rcases List.mem_cons.1 hx with rfl|hx
   ·simp only [Ent.men,List.mem_cons,List.not_mem_nil,or_false] at hx'
    exact List.mem_flatMap.2 ⟨_,hm,by simp [hx']⟩
   ·exact List.mem_flatMap.2 ⟨x,(List.mem_filter.1 hx).1,hx'⟩
 ·simp only [List.map_cons,List.nodup_cons]
  refine ⟨fun hx=>?_,List.Nodup.sublist (List.Sublist.map _ List.filter_sublist) h.keys⟩
  obtain ⟨x,hx1,hx2⟩:=List.mem_map.1 hx
  have:=(List.mem_filter.1 hx1).2
  rw [hx2] at this
  simp at this
 ·have hN:∀b,NS Γ w bs b→NS Γ w ((β t).own ++(b1++bk)) b:=fun b hb=>NS.sub (fun x hx=>p.mem_iff.2 hx) hb
  refine ⟨b1,bk,rfl,⟨g2,fun x hx=>?_,.inr ⟨g1,ws,g4,zW.frame (fun b hb=>⟨hN b hb,rfl⟩) _ ws b1 (fun _ _=>rfl) g5⟩⟩,uO.frame (fun b hb=>⟨hN b hb,rfl⟩) _ _ (fun _ _=>rfl) (fun _ _=>rfl) hrest⟩
  obtain ⟨q,hq,rfl⟩:=List.getElem_of_mem hx
  rw [List.getElem_modify]
  rw [List.length_modify] at hq
  split
  ·rw [List.length_set]
   exact g3 _ (List.getElem_mem hq)
  ·exact g3 _ (List.getElem_mem hq)
 ·have hN:∀b,NS Γ w bs b→NS Γ w ((β t).own ++(b1++bk)) b:=fun b hb=>NS.sub (fun x hx=>p.mem_iff.2 hx) hb
  intro t1 d hd
  obtain ⟨v,h1,h2⟩:=h.tm t1 d hd
  exact ⟨v,h1,Rep.frame (fun b hb=>⟨hN b hb,rfl⟩) d true v [] (by simp) (fun _ _=>rfl) h2⟩
theorem zNh {e0:Option T} {ix:Int} {α:Type} {enc:α→List D} {B:List (Option α)} {a:α} {t' n:Nat} (t:Nat) (h:idx B ix=some (some a)) (hl:lk σ.hp t=some (.lent 1 (B.map (zJW enc)) ix.toNat 0 t' n)) (he:(enc a).length =1)
  (hj:J Γ fc k ⟨σ.tm,(t,.row 1 ((B.set ix.toNat none).map (zJW enc)))::σ.hp.filter (fun x=>x.1 !=t),σ.us⟩ e0 K):J Γ fc k σ e0 K:=by
 obtain ⟨_,h2⟩:=zE1 h
 refine zNN hl ?_
 have:(B.map (zJW enc)).modify ix.toNat (fun c=>c.set 0 .un)=(B.set ix.toNat none).map (zJW enc):=by
  apply List.ext_getElem?
  intro q
  rw [List.getElem?_modify,List.map_set,List.getElem?_set]
  by_cases hq:ix.toNat=q
  ·subst hq
   have hlt:=(List.getElem?_eq_some_iff.1 h2).1
   simp only [if_true,List.getElem?_map,h2,Option.map_some,List.length_map]
   rw [if_pos hlt]
   show some ((enc a).set 0 .un)=some [.un]
   congr 1
   match enc a,he with
   |[d],_=>rfl
  ·simp only [hq,if_false]
   cases (B.map (zJW enc))[q]? <;>rfl
 rw [this]
 exact hj
end
inductive FbT (t:Nat) (cs:List D):List (Nat×D)→List (Nat×D)→Prop
 |nil:FbT t cs [] []
 |keep {q:Nat} {d:D} {l l2:List (Nat×D)}:d.men.contains t=false→FbT t cs l l2→FbT t cs ((q,d)::l) ((q,d)::l2)
 |pt {q:Nat} {l l2:List (Nat×D)}:FbT t cs l l2→FbT t cs ((q,.pt t 0 0)::l) ((q,.pb cs)::l2)
theorem FbT.mem {t:Nat} {cs:List D} {l l2:List (Nat×D)} (h:FbT t cs l l2) {q:Nat} {d:D} (hd:(q,d)∈l2):(d.men.contains t=false∧(q,d)∈l)∨(d= .pb cs∧(q,.pt t 0 0)∈l):=by
 induction h with
 |nil=>cases hd
 | @keep q' d' l l2 hm _ ih=>
  rcases List.mem_cons.1 hd with e|hd
  ·cases e
   exact .inl ⟨hm,by simp⟩
  ·rcases ih hd with ⟨h1,h2⟩|⟨h1,h2⟩
   ·exact .inl ⟨h1,by simp [h2]⟩
   ·exact .inr ⟨h1,by simp [h2]⟩
 | @pt q' l l2 _ ih=>
  rcases List.mem_cons.1 hd with e|hd
  ·cases e
   exact .inr ⟨rfl,by simp⟩
  ·rcases ih hd with ⟨h1,h2⟩|⟨h1,h2⟩
   ·exact .inl ⟨h1,by simp [h2]⟩
   ·exact .inr ⟨h1,by simp [h2]⟩
section
variable {Γ:Ctx} {fc:Code} {k:List II} {σ:St} {T:Type} {K:T→Option (D×List Ent)}
theorem zOv {e:Option T} (t:Nat) {f:FuncId} {caps:List D} {tm1 tm2:List (Nat×D)} {hp1:List (Nat×Ent)} (htm:FbT t [.fn f caps] tm1 tm2)
  (hC:((D.men.zDK caps).contains t,(hp1.flatMap (fun x=>x.1::x.2.men)).contains t)=(false,false):=by kernel_rfl)
  (hj:J Γ fc k (St.mk' tm2 hp1) e K):J Γ fc k (St.mk' tm1 ((t,.box [.fn f caps])::hp1)) e K:=by
 simp only [Prod.mk.injEq] at hC
 obtain ⟨hc,hh⟩:=hC
 have hc':t∉D.men.zDK caps:=by simpa using hc
 have hh':t∉hp1.flatMap (fun x=>x.1::x.2.men):=fun hx=>by
  have:(hp1.flatMap (fun x=>x.1::x.2.men)).contains t=true:=List.contains_iff_mem.2 hx
  rw [hh] at this; cases this
 refine zF1 (fun a w hr=>?_) hj
 obtain ⟨h0,β,bs,h⟩:=hr
 obtain ⟨b1,bk,rfl,⟨g1,g2,ws,g3,g4,g5⟩,hrest⟩:=h.hp
 have hb1:b1=[]:=by
  simp only [zH] at g5
  obtain ⟨v,vs,c1,c2,_,rfl,hv,_,rfl⟩:=g5
  simp only [Rep] at hv
  rw [hv.2.1]
  rfl
 subst hb1
 have hnd:((β t).own ++bk).Nodup :=by simpa using h.nodup
 have hown:(β t).own =[(β t).b]:=by simp [Loc.own,g1]
 have hN:∀b,NS Γ w ((β t).own ++([]++bk)) b→NS Γ w bk b:=fun b hb=>NS.sub (fun x hx=>by simp [hx]) hb
 have hbt:NS Γ w bk (β t).b :=by
  have:=h.own (β t).b (by simp [hown])
  refine ⟨?_,this.1,fun hbk=>?_⟩
  ·rcases this.2 with h1|h1
   ·exact .inr (.inl h1)
   ·exact .inr (.inr h1)
  ·rw [hown] at hnd
   exact (List.nodup_cons.1 hnd).1 hbk
 refine ⟨?_,β,bk,{defers:=h.defers,size:=h.size,keys:=?_,par:=h.par,grow:=h.grow,gh:=h.gh,quiet:=h.quiet,keep:=h.keep,hp:=uO.frame (fun b hb=>⟨hN b hb,rfl⟩) _ _ (fun _ _=>rfl) (fun _ _=>rfl) hrest,nodup:=(List.nodup_append.1 hnd).2.1,own:=fun b hb=>h.own b (by simp [hb]),tm:=?_}⟩
 ·intro q hq
  simp only [St.mk',List.mem_append]
  exact hq
 ·have hk:=h.keys
  simp only [St.mk',List.map_cons,List.nodup_cons] at hk
  exact hk.2
 ·intro q d hd
  rcases htm.mem hd with ⟨_,h2⟩|⟨rfl,h2⟩
  ·obtain ⟨v,h3,h4⟩:=h.tm q d h2
   exact ⟨v,h3,Rep.frame (fun b hb=>⟨hN b hb,rfl⟩) d true v [] (by simp) (fun _ _=>rfl) h4⟩
  ·obtain ⟨v,h3,h4⟩:=h.tm q _ h2
   simp only [Rep] at h4
   obtain ⟨_,_,_,rfl⟩:=h4
   refine ⟨_,h3,?_⟩
   simp only [Rep]
   refine ⟨trivial,trivial,(β t).b,(β t).o,ws,by simp,hbt,g3.has,g4,?_⟩
   exact zH.frame (fun b hb=>⟨hN b hb,rfl⟩) _ true ws [] (by simp) (fun _ _=>rfl) g5
end
def ltC {α:Type} (cmp:α→α→Option Int) (x y:α):Bool:=match cmp x y with
 |some r=>decide (r<0)
 |none=>false
structure CmpOn {α:Type} (cmp:α→α→Option Int) (xs:List α):Prop where
 all:∀x∈xs,∀y∈xs,(cmp x y).isSome =true
 irrefl:∀x∈xs,ltC cmp x x=false
 trans:∀x∈xs,∀y∈xs,∀z∈xs,ltC cmp x y=true→ltC cmp y z=true→ltC cmp x z=true
 total:∀x∈xs,∀y∈xs,ltC cmp x y=false→ltC cmp y x=false→x=y
 nodup:xs.Nodup
 size:xs.length<4611686018427387904
open Classical in
noncomputable def zI3 {α:Type} (cmp:α→α→Option Int) (xs:List α):Option (List α):=if CmpOn cmp xs then some (xs.mergeSort fun x y=> !(ltC cmp y x)) else none
theorem zJX {α:Type} {cmp:α→α→Option Int} {xs ys:List α} (h:zI3 cmp xs=some ys):CmpOn cmp xs∧ys=xs.mergeSort fun x y=> !(ltC cmp y x):=by
 unfold zI3 at h
 split at h
 ·rename_i hc
  cases h
  exact ⟨hc,rfl⟩
 ·cases h
theorem zHz {β:Nat→Loc} {N:Nat→Prop} {w:World}:∀{ds:List D} {ws:List Value} {bs:List Nat},zW β N w (ds.map fun d=>[d]) ws bs→
  ∃L:List (List Nat),L.length=ds.length∧ws.length=ds.length∧bs=L.flatten∧∀(i:Nat) (d:D) (v:Value) (b:List Nat),ds[i]? =some d→ws[i]? =some v→L[i]? =some b→Rep β N w false d v b
 |[],ws,bs,h=>by
  simp only [List.map_nil,zW] at h
  obtain ⟨rfl,rfl⟩:=h
  exact ⟨[],rfl,rfl,rfl,by simp⟩
 |d::ds,ws,bs,h=>by
  simp only [List.map_cons,zW,zH] at h
  obtain ⟨w1,w2,b1,b2,rfl,rfl,⟨v,vs,c1,c2,rfl,rfl,h1,rfl,rfl⟩,h3⟩:=h
  obtain ⟨L,g1,g2,rfl,g4⟩:=zHz h3
  refine ⟨c1::L,by simp [g1],by simp [g2],by simp,fun i d' v' b' hd hv hb=>?_⟩
  cases i with
  |zero=>
   simp at hd hv hb
   subst hd hv hb
   exact h1
  |succ i=>exact g4 i d' v' b' (by simpa using hd) (by simpa using hv) (by simpa using hb)
theorem zGU {β:Nat→Loc} {N:Nat→Prop} {w:World}:∀{ds:List D} {ws:List Value} {L:List (List Nat)},L.length=ds.length→ws.length=ds.length→
  (∀(i:Nat) (d:D) (v:Value) (b:List Nat),ds[i]? =some d→ws[i]? =some v→L[i]? =some b→Rep β N w false d v b)→zW β N w (ds.map fun d=>[d]) ws L.flatten
 |[],ws,L,h1,h2,_=>by
  have:ws=[]:=List.length_eq_zero_iff.1 h2
  have:L=[]:=List.length_eq_zero_iff.1 h1
  subst_vars
  simp [zW]
 |d::ds,v::ws,b::L,h1,h2,h=>by
  simp only [List.map_cons,zW,zH,List.flatten_cons]
  refine ⟨[v],ws,b,L.flatten,rfl,rfl,⟨v,[],b,[],rfl,by simp,h 0 d v b rfl rfl rfl,rfl,rfl⟩,zGU (by simpa using h1) (by simpa using h2) (fun i d' v' b' hd hv hb=>h (i+1) d' v' b' (by simpa using hd) (by simpa using hv) (by simpa using hb))⟩
theorem grown_of {W w':World} (hq:Qt W w') (hs:W.heap.size≤w'.heap.size) (hk:∀b,b<W.heap.size→w'.heap[b]? =W.heap[b]?):∃q os,w'=Sort.grow (W.drewN q) os:=by
 refine ⟨w'.drawn-W.drawn,w'.heap.extract W.heap.size w'.heap.size,?_⟩
 have hh:w'.heap=W.heap++w'.heap.extract W.heap.size w'.heap.size:=by
  apply Array.ext_getElem?
  intro b
  by_cases hb:b<W.heap.size
  ·rw [Array.getElem?_append_left hb,hk b hb]
  ·rw [Array.getElem?_append_right (by omega),Array.getElem?_extract]
   by_cases hb2:b<w'.heap.size
   ·rw [if_pos (by omega)]
    congr 1; omega
   ·rw [if_neg (by omega),Array.getElem?_eq_none (by omega)]
 obtain ⟨h1,h2,h3,h4⟩:=hq
 cases W; cases w'
 simp only [Sort.grow,World.drewN] at*
 subst h1 h2 h3
 simp only [World.mk.injEq,and_true,true_and]
 exact ⟨hh,by omega⟩
section
open Go.Proofs Go.Sort
theorem zFx {α:Type} [Inhabited α] {enc:α→Value} {w:World} {blk off m:Nat} {dk:Array α} {os:Array Obj}:
  w.heap.size≤(sortWorld enc w blk off m dk os).heap.size ∧(∀b,b<w.heap.size→b≠blk→(sortWorld enc w blk off m dk os).heap[b]? =w.heap[b]?)∧
  (∀arr e fz,blk<w.heap.size→w.heap[blk]? =some (.cells arr e fz)→(sortWorld enc w blk off m dk os).heap[blk]? =some (.cells (Sort.putCells enc off dk arr) e fz))∧Qt w (sortWorld enc w blk off m dk os):=by
 have hsz:(Sort.putRow enc (Sort.ahead w m) blk off dk).heap.size =w.heap.size:=by
  unfold Sort.putRow Sort.mapBlock
  simp [Sort.ahead]
 unfold sortWorld Sort.grow
 refine ⟨?_,fun b hb hne=>?_,fun arr e fz hb h=>?_,⟨rfl,rfl,rfl,by show w.drawn≤w.drawn+m; omega⟩⟩
 ·simp only [Array.size_append,hsz]
  omega
 ·rw [Array.getElem?_append_left (by rw [hsz]; exact hb)]
  unfold Sort.putRow Sort.mapBlock
  simp only [Array.getElem?_modify]
  rw [if_neg (fun e=>hne e.symm)]
  rfl
 ·rw [Array.getElem?_append_left (by rw [hsz]; exact hb)]
  exact (zG4 (w:=Sort.ahead w m) h).1
theorem zLU {P:Program} {f g:FuncId} {cmp:List ByteArray→List ByteArray→Option Int} {xs ys:List (List ByteArray)}
  (hcmp:∀x y,Ok P g [.s false 1 x.length (x.map eStr),.s false 1 y.length (y.map eStr)] [] ((cmp x y).map fun r=>(.sc (.int .i64 r),[])))
  (hsF:zI3 cmp xs=some ys)
  (hsort:∀(n:Nat) (_:Inhabited (Fin n)) (enc:Fin n→Value),OneCell enc→∀(cf:Fin n→Fin n→Int),SWO (ltOf cf)→∀(blk off cap:Nat) (d:Array (Fin n)) (w:World),CmpLays1 P g #[] enc cf blk off d.size w→Holds enc w blk off d→blk<w.heap.size→d.size<4611686018427387904→
   (∀x y,(ltOf cf) x y=false→(ltOf cf) y x=false→x=y)→Calls P f #[.slice (some ⟨blk,off,none⟩) d.size cap,.func (.func g) #[] #[]] w fun e w'=>e= .returned (.tuple #[])∧∃n os,w'=sortWorld enc w blk off n (d.toList.mergeSort fun x y=> !(ltOf cf) y x).toArray os)
  (hnone:∀(p:Option Addr) (cap:Nat) (fv:Value) (w:World),Calls P f #[.slice p 0 cap,fv] w fun e w'=>e= .returned (.tuple #[])∧w'=w):
  Ok P f [.rf 0 0 xs.length none,.fn g []] [.row 1 (xs.map (eSl true 1 eStr))] (some (.tu [],[.row 1 (ys.map (eSl true 1 eStr))])):=by
 obtain ⟨hC,rfl⟩:=zJX hsF
 intro out ho w N β vs bs ha hh hnd hlt hN hG
 cases ho
 simp only [zH] at ha
 obtain ⟨v,vs',b1,b2,rfl,hb12,h1,v2,vs2,b3,b4,rfl,hb34,h2,rfl,rfl⟩:=ha
 have hb1:b1=[]:=(List.append_eq_nil_iff.1 hb12.symm).1
 have hb2:b2=[]:=(List.append_eq_nil_iff.1 hb12.symm).2
 subst hb1
 rw [hb2] at hb34
 have hb3:b3=[]:=(List.append_eq_nil_iff.1 hb34.symm).1
 subst hb3
 simp only [Rep] at h1 h2
 obtain ⟨_,_,h1⟩:=h1
 obtain ⟨_,_,wsf,rfl,hwsf⟩:=h2
 simp only [zH] at hwsf
 obtain ⟨rfl,_⟩:=hwsf
 obtain ⟨c1,c2,rfl,⟨hLz,hzz,hrow⟩,hc2⟩:=hh
 have hc2':c2=[]:=hc2
 subst hc2'
 simp only at hLz hzz hrow
 have hyl:(xs.mergeSort fun x y=> !(ltC cmp y x)).length =xs.length:=List.length_mergeSort _
 by_cases h0:xs.length=0
 ·
  have hx:xs=[]:=List.length_eq_zero_iff.1 h0
  subst hx
  obtain ⟨p,cap,hv⟩:∃p cap,v= .slice p 0 cap:=by
   rcases h1 with ⟨_,_,_,h1⟩|⟨_,c',h3,_⟩
   ·exact ⟨_,_,h1⟩
   ·exact ⟨_,_,h3⟩
  subst hv
  refine (hnone p cap _ w).mono ?_
  rintro e w' ⟨rfl,rfl⟩
  refine ⟨.tuple #[],[],(β 0).own ++(c1++[]),rfl,Qt.refl _,Nat.le_refl _,fun _ _ _=>rfl,by simpa using hnd,fun b hb=>⟨hlt b hb,.inl hb⟩,?_,?_⟩
  ·simp only [Rep,zH]
   exact ⟨trivial,[],rfl,rfl,trivial⟩
  ·rw [show (([]:List (List ByteArray)).mergeSort fun x y=> !(ltC cmp y x))=[] from by simp]
   have hmem:∀b,N b→NS ⟨P,f,w',N,(β 0).own ++(c1++[]),1,β,0⟩ w' ([]++((β 0).own ++(c1++[]))) b:=fun b hb=>⟨.inl hb,(hN b hb).1,(hN b hb).2⟩
   refine ⟨c1,[],by simp,⟨hLz,by simp,?_⟩,rfl⟩
   rcases hrow with ⟨q1,q2,q3⟩|⟨q1,ws,q2,q3⟩
   ·exact .inl ⟨q1,rfl,q3⟩
   ·refine .inr ⟨q1,ws,q2,?_⟩
    exact zW.frame (fun b hb=>⟨hmem b hb,rfl⟩) _ ws c1 (fun _ _=>rfl) q3
 rcases hrow with ⟨_,hxs,_⟩|⟨hnil,ws,hO,hE⟩
 ·exact absurd (by simpa using congrArg List.length hxs) h0
 have hown:(β 0).own =[(β 0).b]:=by simp [Loc.own,hnil]
 rw [hown] at hlt hnd hN ⊢
 have hE':zW β N w ((xs.map fun x=>D.s true 1 x.length (x.map eStr)).map fun d=>[d]) ws c1:=by
  rw [List.map_map]
  exact hE
 obtain ⟨L,g1,g2,rfl,g4⟩:=zHz hE'
 rw [List.length_map] at g1 g2
 obtain ⟨cp,hv,hcap,hroom⟩:∃c',v= .slice (some ⟨(β 0).b,(β 0).o,none⟩) xs.length c'∧xs.length≤c'∧c'≤(β 0).r :=by
  rcases h1 with ⟨h1,_⟩|⟨_,c',h3,h4,h5,_⟩
  ·rw [hnil] at h1; cases h1
  ·exact ⟨c',by simpa using h3,h4,by rw [hLz] at h5; simpa using h5⟩
 subst hv
 have hbl:(β 0).b <w.heap.size:=hlt _ (by simp)
 have hcells:=zIx hO (by omega)
 have hbl2:∀b∈L.flatten,b≠(β 0).b :=fun b hb e=>by
  subst e
  simp only [List.append_nil,List.cons_append,List.nil_append,List.nodup_cons] at hnd
  exact hnd.1 hb
 have hNb:∀b,N b→b≠(β 0).b :=fun b hb e=>(hN b hb).2 (by simp [e])
 have hpos:0<xs.length:=Nat.pos_of_ne_zero h0
 let inh:Inhabited (Fin xs.length):=⟨⟨0,hpos⟩⟩
 let enc:Fin xs.length→Value:=fun i=>ws[i.1]'(by rw [g2]; exact i.2)
 let cf:Fin xs.length→Fin xs.length→Int:=fun i j=>(cmp xs[i.1] xs[j.1]).getD 0
 have hlt2:∀i j,ltOf cf i j=ltC cmp xs[i.1] xs[j.1]:=fun i j=>by
  have:=hC.all _ (List.getElem_mem i.2) _ (List.getElem_mem j.2)
  obtain ⟨r,hr⟩:=Option.isSome_iff_exists.1 this
  simp only [ltOf,ltC,cf,hr]
  rfl
 have hrep:∀i:Fin xs.length,Rep β N w false (.s true 1 xs[i.1].length (xs[i.1].map eStr)) (enc i) (L[i.1]'(by rw [g1]; exact i.2)):=fun i=>by
  refine g4 i.1 _ _ _ ?_ ?_ ?_
  ·rw [List.getElem?_map,List.getElem?_eq_getElem i.2]; rfl
  ·exact List.getElem?_eq_getElem _
  ·exact List.getElem?_eq_getElem _
 have hsub:∀i:Fin xs.length,∀b∈L[i.1]'(by rw [g1]; exact i.2),b∈L.flatten:=fun i b hb=>List.mem_flatten.2 ⟨_,List.getElem_mem _,hb⟩
 have h1c:OneCell enc:=fun i=>Rep.oneCell (by trivial) (hrep i)
 have hSW:SWO (ltOf cf):=by
  have hT:∀i j,ltOf cf i j=false→ltOf cf j i=false→xs[i.1]=xs[j.1]:=fun i j h1 h2=>by
   rw [hlt2] at h1 h2
   exact hC.total _ (List.getElem_mem i.2) _ (List.getElem_mem j.2) h1 h2
  refine ⟨fun i=>?_,fun i j k h1 h2=>?_,fun i j k h1 h2=>?_⟩
  ·rw [hlt2]; exact hC.irrefl _ (List.getElem_mem i.2)
  ·rw [hlt2] at h1 h2 ⊢
   exact hC.trans _ (List.getElem_mem i.2) _ (List.getElem_mem j.2) _ (List.getElem_mem k.2) h1 h2
  ·cases h3:ltOf cf i k with
   |false=>rfl
   |true=>
    cases h4:ltOf cf j i with
    |false=>
     have e:=hT i j h1 h4
     rw [hlt2] at h2 h3
     rw [←e] at h2
     rw [h2] at h3; cases h3
    |true=>
     rw [hlt2] at h2 h3 h4
     have:=hC.trans _ (List.getElem_mem j.2) _ (List.getElem_mem i.2) _ (List.getElem_mem k.2) h4 h3
     rw [h2] at this; cases this
 have hT:∀i j,ltOf cf i j=false→ltOf cf j i=false→i=j:=fun i j h1 h2=>by
  rw [hlt2] at h1 h2
  have e:=hC.total _ (List.getElem_mem i.2) _ (List.getElem_mem j.2) h1 h2
  exact Fin.ext ((List.getElem_inj hC.nodup).1 e)
 have hds:(List.finRange xs.length).toArray.size =xs.length:=by simp
 have hH:Sort.Holds enc w (β 0).b (β 0).o (List.finRange xs.length).toArray :=by
  intro j hj
  have hj':j<xs.length:=by rw [hds] at hj; exact hj
  obtain ⟨q1,q2⟩:=hcells j (by omega)
  refine ⟨?_,q2⟩
  rw [q1]
  have:(List.finRange xs.length).toArray[j]! =(⟨j,hj'⟩:Fin xs.length):=by
   rw [getElem!_pos (List.finRange xs.length).toArray j hj]
   simp
  rw [this]
 have hLay:CmpLays1 P g #[] enc cf (β 0).b (β 0).o (List.finRange xs.length).toArray.size w:=by
  intro m os dk hdk x y
  obtain ⟨k1,k2,_,_⟩:=zFx (enc:=enc) (w:=w) (blk:=(β 0).b) (off:=(β 0).o) (m:=m) (dk:=dk) (os:=os)
  generalize sortWorld enc w (β 0).b (β 0).o m dk os=W at k1 k2 ⊢
  obtain ⟨r,hr⟩:=Option.isSome_iff_exists.1 (hC.all _ (List.getElem_mem x.2) _ (List.getElem_mem y.2))
  have harg:∀i:Fin xs.length,Rep β (fun b=>b<W.heap.size) W true (.s false 1 xs[i.1].length (xs[i.1].map eStr)) (enc i) []:=fun i=>by
   have q:=Rep.ro (β':=β) (N':=fun b=>N b∨b∈L.flatten) (fun b hb=>.inl hb) _ (enc i) _ (fun b hb=>.inr (hsub i b hb)) (hrep i)
   have e:D.ro (.s true 1 xs[i.1].length (xs[i.1].map eStr))= .s false 1 xs[i.1].length (xs[i.1].map eStr):=by
    simp only [D.ro]
    rw [jG (enc:=eStr) (enc':=eStr) (fun _=>rfl)]
   rw [e] at q
   refine Rep.up (Rep.frame (fun b hb=>?_) _ false _ [] (by simp) (fun _ _=>rfl) q)
   rcases hb with hb|hb
   ·exact ⟨Nat.lt_of_lt_of_le (hN b hb).1 k1,k2 b (hN b hb).1 (hNb b hb)⟩
   ·have hb2:=hlt b (by simp [hb])
    exact ⟨Nat.lt_of_lt_of_le hb2 k1,k2 b hb2 (hbl2 b hb)⟩
  have hcall:=hcmp xs[x.1] xs[y.1] (.sc (.int .i64 r),[]) (by rw [hr]; rfl) W (fun b=>b<W.heap.size) β [enc x,enc y] []
   (by simp only [zH]; exact ⟨_,_,[],[],rfl,rfl,harg x,_,_,[],[],rfl,rfl,harg y,rfl,rfl⟩) rfl (by simp) (by simp) (fun b hb=>⟨hb,by simp⟩) (fun q hq=>by
    obtain ⟨t1,ws',e',fz,t2,t3⟩:=hG q hq
    exact ⟨Nat.lt_of_lt_of_le (hN _ t1).1 k1,ws',e',fz,(k2 _ (hN _ t1).1 (hNb _ t1)).trans t2,t3⟩)
  refine Calls.mono (hcall) ?_
  rintro e w' ⟨v,b1,b2,rfl,hq,hsz,hkeep,_,_,hv,_⟩
  simp only [Rep] at hv
  obtain ⟨rfl,_⟩:=hv
  refine ⟨?_,grown_of hq hsz (fun b hb=>hkeep b hb (by simp))⟩
  simp only [cf,hr]
  rfl
 have hcall:=hsort xs.length inh enc h1c cf hSW (β 0).b (β 0).o cp (List.finRange xs.length).toArray w hLay hH hbl (by rw [hds]; exact hC.size) hT
 rw [hds] at hcall
 refine hcall.mono ?_
 rintro e w' ⟨rfl,n0,os,rfl⟩
 simp only at*
 generalize he:((List.finRange xs.length).mergeSort fun x y=> !(ltOf cf) y x)=e at*
 have hperm:e.Perm (List.finRange xs.length):=by rw [←he]; exact List.mergeSort_perm _ _
 have hel:e.length=xs.length:=by rw [hperm.length_eq]; simp
 obtain ⟨k1,k2,k3,k4⟩:=zFx (enc:=enc) (w:=w) (blk:=(β 0).b) (off:=(β 0).o) (m:=n0) (dk:=e.toArray) (os:=os)
 generalize sortWorld enc w (β 0).b (β 0).o n0 e.toArray os=W at k1 k2 k3 k4 ⊢
 have hys:(xs.mergeSort fun x y=> !(ltC cmp y x))=e.map fun i=>xs[i.1]'(i.2):=by
  rw [←he,List.map_mergeSort (s:=fun x y=> !(ltC cmp y x)) (fun i _ j _=>by rw [hlt2])]
  congr 1
  apply List.ext_getElem
  ·simp
  ·intro i h1 h2
   simp
 let L':=e.map fun i=>L[i.1]'(by rw [g1]; exact i.2)
 have hLp:L'.flatten.Perm L.flatten:=by
  refine List.Perm.flatten ?_
  have:L=(List.finRange xs.length).map fun i=>L[i.1]'(by rw [g1]; exact i.2):=by
   apply List.ext_getElem
   ·simp [g1]
   ·intro i h1 h2
    simp
  conv=>rhs; rw [this]
  exact hperm.map _
 have hnd':((β 0).b ::L'.flatten).Nodup :=by
  have:=(List.Perm.cons (β 0).b hLp).nodup_iff.2 (by simpa using hnd)
  exact this
 have hmem:∀b,b∈(β 0).b ::L'.flatten↔b∈[(β 0).b]++(L.flatten++[]):=fun b=>by
  rw [List.append_nil,List.singleton_append]
  exact (List.Perm.cons _ hLp).mem_iff
 refine ⟨.tuple #[],[],(β 0).b ::L'.flatten,rfl,k4,k1,fun b hb hb2=>k2 b hb (fun e=>hb2 (by simp [e])),by simpa using hnd',fun b hb=>?_,?_,?_⟩
 ·have hb':=(hmem b).1 (by simpa using hb)
  exact ⟨Nat.lt_of_lt_of_le (hlt b hb') k1,.inl hb'⟩
 ·simp only [Rep,zH]
  exact ⟨trivial,[],rfl,rfl,trivial⟩
 ·have hzz':∀x∈(xs.mergeSort fun x y=> !(ltC cmp y x)).map (eSl true 1 eStr),x.length=1:=fun x hx=>by
   obtain ⟨y,_,rfl⟩:=List.mem_map.1 hx
   rfl
  refine ⟨L'.flatten,[],by simp [hown],⟨hLz,hzz',.inr ⟨hnil,e.map enc,?_,?_⟩⟩,rfl⟩
  ·obtain ⟨arr,el,lo,hi,q1,q2,q3,q4⟩:=hO
   refine ⟨Sort.putCells enc (β 0).o e.toArray arr,el,lo,hi,k3 _ _ _ hbl q1,?_,?_,?_⟩
   ·unfold Sort.putCells
    rw [Array.size_mapIdx]
    exact q2
   ·unfold Sort.putCells
    rw [Array.size_mapIdx]
    exact q3
   ·intro k hk
    have hk':k<e.length:=by simpa using hk
    unfold Sort.putCells
    have hka:(β 0).o +k<arr.size:=by omega
    rw [Array.getElem?_mapIdx,Array.getElem?_eq_getElem hka]
    simp only [Option.map_some]
    rw [if_pos (by simp; omega)]
    simp [hk']
  ·have e1:(xs.mergeSort fun x y=> !(ltC cmp y x)).map (eSl true 1 eStr)=(e.map fun i=>D.s true 1 xs[i.1].length (xs[i.1].map eStr)).map fun d=>[d]:=by
    rw [hys,List.map_map,List.map_map]
    rfl
   rw [e1]
   refine zGU (by simp [L']) (by simp) (fun i d v b hd hv hb=>?_)
   rw [List.getElem?_map] at hd hv hb
   cases hi:e[i]? with
   |none=>rw [hi] at hd; cases hd
   |some p=>
    rw [hi] at hd hv hb
    cases hd; cases hv; cases hb
    refine Rep.frame (fun b hb=>⟨⟨.inl hb,Nat.lt_of_lt_of_le (hN b hb).1 k1,fun h=>(hN b hb).2 ((hmem b).1 (by simpa using h))⟩,k2 b (hN b hb).1 (hNb b hb)⟩) _ false _ _ (fun b hb=>?_) (fun _ _=>rfl) (hrep p)
    have hb2:=hsub p b hb
    exact k2 b (hlt b (by simp [hb2])) (hbl2 b hb2)
end
end Go.Im
set_option linter.unusedVariables false
namespace Go.Im
open Go
section
variable {Γ:Ctx} {ops:Array Oper} {o:Oper}
end
section
variable {Γ:Ctx} {fc:Code} {k:List II} {σ:St} {T:Type} {K:T→Option (D×List Ent)}
inductive Cw (t:Nat):D→D→Prop where
 |same {d:D}:Cw t d d
 |rf {n:Nat} {cap:Option Nat}:Cw t (.rf t 0 n cap) (.cw t n)
inductive CwT (t:Nat):List (Nat×D)→List (Nat×D)→Prop where
 |nil:CwT t [] []
 |cons {q:Nat} {d d':D} {l l':List (Nat×D)}:Cw t d d'→CwT t l l'→CwT t ((q,d)::l) ((q,d')::l')
theorem Cw.men {t:Nat} {d d':D} (h:Cw t d d'):d'.men=d.men:=by
 cases h<;>rfl
theorem CwT.zGD {t:Nat} {l l':List (Nat×D)} (h:CwT t l l'):zGD l'=zGD l:=by
 induction h with
 |nil=>rfl
 |cons h1 _ ih=>simp only [Im.zGD,List.flatMap_cons,h1.men] at ih ⊢; rw [ih]
theorem CwT.mem {t:Nat} {l l':List (Nat×D)} (h:CwT t l l'):∀{q:Nat} {d':D},(q,d')∈l'→∃d,(q,d)∈l∧Cw t d d':=by
 induction h with
 |nil=>intro q d' h; cases h
 |cons h1 _ ih=>
  intro q d' h
  rcases List.mem_cons.1 h with h|h
  ·cases h; exact ⟨_,by simp,h1⟩
  ·obtain ⟨d,h3,h4⟩:=ih h; exact ⟨d,by simp [h3],h4⟩
theorem Cw.rep {β:Nat→Loc} {N:Nat→Prop} {w:World} {t:Nat} {d d':D} {v:Value} (h:Cw t d d') (hr:Rep β N w true d v []):Rep β N w true d' v []:=by
 cases h with
 |same=>exact hr
 |rf=>
  simp only [Rep] at hr ⊢
  obtain ⟨h1,h2,⟨h3,_,h4,h5⟩|⟨h3,c,h4,h5,h6,_⟩⟩:=hr
  ·exact ⟨h1,h2,.inl ⟨h3,.inl ⟨h4,h5⟩⟩⟩
  ·exact ⟨h1,h2,.inr ⟨h3,c,by simpa using h4,h5,by simpa using h6⟩⟩
inductive Cf (p t n:Nat):D→D→Prop where
 |same {d:D}:d.men.contains t=false→d.men.contains p=false→Cf p t n d d
 |cw:Cf p t n (.cw p n) (.rf p 0 n none)
inductive CfT (p t n:Nat):List (Nat×D)→List (Nat×D)→Prop where
 |nil:CfT p t n [] []
 |cons {q:Nat} {d d':D} {l l':List (Nat×D)}:Cf p t n d d'→CfT p t n l l'→CfT p t n ((q,d)::l) ((q,d')::l')
theorem CfT.mem {p t n:Nat} {l l':List (Nat×D)} (h:CfT p t n l l'):∀{q:Nat} {d':D},(q,d')∈l'→∃d,(q,d)∈l∧Cf p t n d d':=by
 induction h with
 |nil=>intro q d' h; cases h
 |cons h1 _ ih=>
  intro q d' h
  rcases List.mem_cons.1 h with h|h
  ·cases h; exact ⟨_,by simp,h1⟩
  ·obtain ⟨d,h3,h4⟩:=ih h; exact ⟨d,by simp [h3],h4⟩
end
end Go.Im

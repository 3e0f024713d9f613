import Derived.Test.YtdeihchdibglaaaGreatImF
import Derived.Shelf.SlSortCmp.NoneTotal
set_option linter.unusedVariables false
namespace Go.Im
open Go
def zGb {α:Type} (enc:α→List D):Option α→List D
 |some a=>enc a
 |none=>[.un]
theorem zJf {α:Type} (enc:α→List D) (xs:List α):(xs.map some).map (zGb enc)=xs.map enc:=by
 rw [List.map_map]
 rfl
def zO9 {α:Type} (xs:List (Option α)) (i:Int):Option α:=(idx xs i).bind id
theorem zFM {α:Type} {xs:List (Option α)} {i:Int} {a:α} (h:zO9 xs i=some a):idx xs i=some (some a):=by
 unfold zO9 at h
 obtain ⟨o,h1,h2⟩:=Option.bind_eq_some_iff.1 h
 cases h2
 exact h1
section
variable {Γ:Ctx} {fc:Code} {k:List II} {σ:St} {T:Type} {K:T→Option (D×List Ent)}
theorem zOY {e0:Option T} {t i j t' n z:Nat} {xs:List (List D)} (hl:lk σ.hp t=some (.lent z xs i j t' n))
  (hj:J Γ fc k ⟨σ.tm,(t,.row z (xs.modify i (fun c=>c.set j .un)))::σ.hp.filter (fun x=>x.1 !=t),σ.us⟩ e0 K):J Γ fc k σ e0 K:=by
 refine zEO (fun a w hr=>?_) hj
 obtain ⟨h0,β,bs,h⟩:=hr
 have hm:=zAA hl
 obtain ⟨b1,bk,p,⟨g1,g2,g3,ws,g4,g5,_⟩,hrest⟩:=uO.take h.hp h.keys hm
 refine ⟨fun q hq=>h0 q ?_,β,(β t).own ++(b1++bk),{defers:=h.defers,size:=h.size,keys:=?_,par:=h.par,grow:=h.grow,gh:=h.gh,quiet:=h.quiet,keep:=h.keep,hp:=?_,nodup:=p.nodup_iff.1 h.nodup,own:=fun b hb=>h.own b (p.mem_iff.2 hb),tm:=?_}⟩
 ·rcases hq with hq|hq
  ·exact .inl hq
  ·right
   obtain ⟨x,hx,hx'⟩:=List.mem_flatMap.1 hq
   rcases List.mem_cons.1 hx with rfl|hx
   ·simp only [Ent.men,List.mem_cons,List.not_mem_nil,or_false] at hx'
    exact List.mem_flatMap.2 ⟨_,hm,by simp [hx']⟩
   ·exact List.mem_flatMap.2 ⟨x,(List.mem_filter.1 hx).1,hx'⟩
 ·simp only [List.map_cons,List.nodup_cons]
  refine ⟨fun hx=>?_,List.Nodup.sublist (List.Sublist.map _ List.filter_sublist) h.keys⟩
  obtain ⟨x,hx1,hx2⟩:=List.mem_map.1 hx
  have:=(List.mem_filter.1 hx1).2
  rw [hx2] at this
  simp at this
 ·have hN:∀b,NS Γ w bs b→NS Γ w ((β t).own ++(b1++bk)) b:=fun b hb=>NS.sub (fun x hx=>p.mem_iff.2 hx) hb
  refine ⟨b1,bk,rfl,⟨g2,fun x hx=>?_,.inr ⟨g1,ws,g4,zU.frame (fun b hb=>⟨hN b hb,rfl⟩) _ ws b1 (fun _ _=>rfl) g5⟩⟩,uO.frame (fun b hb=>⟨hN b hb,rfl⟩) _ _ (fun _ _=>rfl) (fun _ _=>rfl) hrest⟩
  obtain ⟨q,hq,rfl⟩:=List.getElem_of_mem hx
  rw [List.getElem_modify]
  rw [List.length_modify] at hq
  split
  ·rw [List.length_set]
   exact g3 _ (List.getElem_mem hq)
  ·exact g3 _ (List.getElem_mem hq)
 ·have hN:∀b,NS Γ w bs b→NS Γ w ((β t).own ++(b1++bk)) b:=fun b hb=>NS.sub (fun x hx=>p.mem_iff.2 hx) hb
  intro t1 d hd
  obtain ⟨v,h1,h2⟩:=h.tm t1 d hd
  exact ⟨v,h1,Rep.frame (fun b hb=>⟨hN b hb,rfl⟩) d true v [] (by simp) (fun _ _=>rfl) h2⟩
theorem zMG {e0:Option T} {ix:Int} {α:Type} {enc:α→List D} {B:List (Option α)} {a:α} {t' n:Nat} (t:Nat) (h:idx B ix=some (some a)) (hl:lk σ.hp t=some (.lent 1 (B.map (zGb enc)) ix.toNat 0 t' n)) (he:(enc a).length =1)
  (hj:J Γ fc k ⟨σ.tm,(t,.row 1 ((B.set ix.toNat none).map (zGb enc)))::σ.hp.filter (fun x=>x.1 !=t),σ.us⟩ e0 K):J Γ fc k σ e0 K:=by
 obtain ⟨_,h2⟩:=zDN h
 refine zOY hl ?_
 have:(B.map (zGb enc)).modify ix.toNat (fun c=>c.set 0 .un)=(B.set ix.toNat none).map (zGb enc):=by
  apply List.ext_getElem?
  intro q
  rw [List.getElem?_modify,List.map_set,List.getElem?_set]
  by_cases hq:ix.toNat=q
  ·subst hq
   have hlt:=(List.getElem?_eq_some_iff.1 h2).1
   simp only [if_true,List.getElem?_map,h2,Option.map_some,List.length_map]
   rw [if_pos hlt]
   show some ((enc a).set 0 .un)=some [.un]
   congr 1
   match enc a,he with
   |[d],_=>rfl
  ·simp only [hq,if_false]
   cases (B.map (zGb enc))[q]? <;>rfl
 rw [this]
 exact hj
end
inductive FbT (t:Nat) (cs:List D):List (Nat×D)→List (Nat×D)→Prop
 |nil:FbT t cs [] []
 |keep {q:Nat} {d:D} {l l2:List (Nat×D)}:d.men.contains t=false→FbT t cs l l2→FbT t cs ((q,d)::l) ((q,d)::l2)
 |pt {q:Nat} {l l2:List (Nat×D)}:FbT t cs l l2→FbT t cs ((q,.pt t 0 0)::l) ((q,.pb cs)::l2)
theorem FbT.mem {t:Nat} {cs:List D} {l l2:List (Nat×D)} (h:FbT t cs l l2) {q:Nat} {d:D} (hd:(q,d)∈l2):(d.men.contains t=false∧(q,d)∈l)∨(d= .pb cs∧(q,.pt t 0 0)∈l):=by
 induction h with
 |nil=>cases hd
 | @keep q' d' l l2 hm _ ih=>
  rcases List.mem_cons.1 hd with e|hd
  ·cases e
   exact .inl ⟨hm,by simp⟩
  ·rcases ih hd with ⟨h1,h2⟩|⟨h1,h2⟩
   ·exact .inl ⟨h1,by simp [h2]⟩
   ·exact .inr ⟨h1,by simp [h2]⟩
 | @pt q' l l2 _ ih=>
  rcases List.mem_cons.1 hd with e|hd
  ·cases e
   exact .inr ⟨rfl,by simp⟩
  ·rcases ih hd with ⟨h1,h2⟩|⟨h1,h2⟩
   ·exact .inl ⟨h1,by simp [h2]⟩
   ·exact .inr ⟨h1,by simp [h2]⟩
section
variable {Γ:Ctx} {fc:Code} {k:List II} {σ:St} {T:Type} {K:T→Option (D×List Ent)}
theorem zP6 {e:Option T} (t:Nat) {f:FuncId} {caps:List D} {tm1 tm2:List (Nat×D)} {hp1:List (Nat×Ent)} (htm:FbT t [.fn f caps] tm1 tm2)
  (hC:((D.men.zEa caps).contains t,(hp1.flatMap (fun x=>x.1::x.2.men)).contains t)=(false,false):=by kernel_rfl)
  (hj:J Γ fc k (St.mk' tm2 hp1) e K):J Γ fc k (St.mk' tm1 ((t,.box [.fn f caps])::hp1)) e K:=by
 simp only [Prod.mk.injEq] at hC
 obtain ⟨hc,hh⟩:=hC
 have hc':t∉D.men.zEa caps:=by simpa using hc
 have hh':t∉hp1.flatMap (fun x=>x.1::x.2.men):=fun hx=>by
  have:(hp1.flatMap (fun x=>x.1::x.2.men)).contains t=true:=List.contains_iff_mem.2 hx
  rw [hh] at this; cases this
 refine zEO (fun a w hr=>?_) hj
 obtain ⟨h0,β,bs,h⟩:=hr
 obtain ⟨b1,bk,rfl,⟨g1,g2,ws,g3,g4,g5⟩,hrest⟩:=h.hp
 have hb1:b1=[]:=by
  simp only [zH] at g5
  obtain ⟨v,vs,c1,c2,_,rfl,hv,_,rfl⟩:=g5
  simp only [Rep] at hv
  rw [hv.2.1]
  rfl
 subst hb1
 have hnd:((β t).own ++bk).Nodup :=by simpa using h.nodup
 have hown:(β t).own =[(β t).b]:=by simp [Loc.own,g1]
 have hN:∀b,NS Γ w ((β t).own ++([]++bk)) b→NS Γ w bk b:=fun b hb=>NS.sub (fun x hx=>by simp [hx]) hb
 have hbt:NS Γ w bk (β t).b :=by
  have:=h.own (β t).b (by simp [hown])
  refine ⟨?_,this.1,fun hbk=>?_⟩
  ·rcases this.2 with h1|h1
   ·exact .inr (.inl h1)
   ·exact .inr (.inr h1)
  ·rw [hown] at hnd
   exact (List.nodup_cons.1 hnd).1 hbk
 refine ⟨?_,β,bk,{defers:=h.defers,size:=h.size,keys:=?_,par:=h.par,grow:=h.grow,gh:=h.gh,quiet:=h.quiet,keep:=h.keep,hp:=uO.frame (fun b hb=>⟨hN b hb,rfl⟩) _ _ (fun _ _=>rfl) (fun _ _=>rfl) hrest,nodup:=(List.nodup_append.1 hnd).2.1,own:=fun b hb=>h.own b (by simp [hb]),tm:=?_}⟩
 ·intro q hq
  simp only [St.mk',List.mem_append]
  exact hq
 ·have hk:=h.keys
  simp only [St.mk',List.map_cons,List.nodup_cons] at hk
  exact hk.2
 ·intro q d hd
  rcases htm.mem hd with ⟨_,h2⟩|⟨rfl,h2⟩
  ·obtain ⟨v,h3,h4⟩:=h.tm q d h2
   exact ⟨v,h3,Rep.frame (fun b hb=>⟨hN b hb,rfl⟩) d true v [] (by simp) (fun _ _=>rfl) h4⟩
  ·obtain ⟨v,h3,h4⟩:=h.tm q _ h2
   simp only [Rep] at h4
   obtain ⟨_,_,_,rfl⟩:=h4
   refine ⟨_,h3,?_⟩
   simp only [Rep]
   refine ⟨trivial,trivial,(β t).b,(β t).o,ws,by simp,hbt,g3.has,g4,?_⟩
   exact zH.frame (fun b hb=>⟨hN b hb,rfl⟩) _ true ws [] (by simp) (fun _ _=>rfl) g5
end
theorem zKC {P:Program} {f:FuncId} {el:TypeId} {z:Nat} {zv:Value} {n:Int} (h0:0≤n) (hzs:zv.cells.size=z)
  (hroom:n=0→∀w,Calls P f #[.slice none 0 0,.int .i64 n] w fun e w'=>e= .returned (.slice none 0 0)∧w'=w)
  (hgrow:0<n→∀w,Calls P f #[.slice none 0 0,.int .i64 n] w fun e w'=>∃G,n.toNat≤G∧e= .returned (.slice (some ⟨w.heap.size,0,none⟩) 0 G)∧w'=w.drew.alloc (.cells (Builtin.zeroCells zv.cells n.toNat++Builtin.zeroCells zv.cells (G-n.toNat)) el)):
  Ok P f [.sc (.slice none 0 0),.sc (.int .i64 n)] [] (some (.s true z 0 [],[])):=by
 intro out ho w N β vs bs ha hh hnd hlt hN hG
 cases ho
 have hbs:bs=[]:=hh
 subst hbs
 obtain ⟨rfl,_⟩:=zJ0 (vs:=[.slice none 0 0,.int .i64 n]) ha
 by_cases hn:n=0
 ·refine (hroom hn w).mono ?_
  rintro e w' ⟨rfl,rfl⟩
  refine ⟨_,[],[],rfl,Qt.refl _,Nat.le_refl _,fun _ _ _=>rfl,by simp,by simp,?_,rfl⟩
  simp only [Rep]
  exact ⟨rfl,by simp,none,0,rfl,Nat.le_refl _,.inl ⟨trivial,trivial,fun _=>⟨rfl,rfl⟩⟩⟩
 ·refine (hgrow (by omega) w).mono ?_
  rintro e w' ⟨G,hG1,rfl,rfl⟩
  generalize hc:(Builtin.zeroCells zv.cells n.toNat++Builtin.zeroCells zv.cells (G-n.toNat))=cells
  have hcs:cells.size=G*z:=by
   rw [←hc,Array.size_append]
   have hz:∀k,(Builtin.zeroCells zv.cells k).size =k*z:=fun k=>by
    rw [←hzs]
    simp [Builtin.zeroCells]
   rw [hz,hz,←Nat.add_mul]
   congr 1
   omega
  have hsz:(w.drew.alloc (.cells cells el)).heap.size =w.heap.size+1:=Array.size_push _
  have hnew:(w.drew.alloc (.cells cells el)).heap[w.heap.size]? =some (.cells cells el):=by
   show (w.heap.push _)[w.heap.size]? =_
   rw [Array.getElem?_push,if_pos rfl]
  refine ⟨_,[w.heap.size],[],rfl,⟨rfl,rfl,rfl,Nat.le_succ _⟩,by rw [hsz]; exact Nat.le_succ _,fun b hb _=>?_,by simp,?_,?_,rfl⟩
  ·show (w.heap.push _)[b]? =_
   rw [Array.getElem?_push,if_neg (by show ¬(b=w.heap.size); have:b<w.heap.size:=hb; omega)]
  ·intro b hb
   simp only [List.append_nil,List.mem_singleton] at hb
   subst hb
   exact ⟨by rw [hsz]; omega,.inr (Nat.le_refl _)⟩
  ·simp only [Rep]
   refine ⟨by simp,by simp,some ⟨w.heap.size,0,none⟩,G,rfl,Nat.zero_le _,.inr (.inr ⟨trivial,w.heap.size,0,[],[],rfl,rfl,⟨cells,el,0,0,hnew,fun k _=>by omega,by omega,by simp⟩,by simp [zU]⟩)⟩
def ltC {α:Type} (cmp:α→α→Option Int) (x y:α):Bool:=match cmp x y with
 |some r=>decide (r<0)
 |none=>false
structure CmpOn {α:Type} (cmp:α→α→Option Int) (xs:List α):Prop where
 all:∀x∈xs,∀y∈xs,(cmp x y).isSome =true
 irrefl:∀x∈xs,ltC cmp x x=false
 trans:∀x∈xs,∀y∈xs,∀z∈xs,ltC cmp x y=true→ltC cmp y z=true→ltC cmp x z=true
 total:∀x∈xs,∀y∈xs,ltC cmp x y=false→ltC cmp y x=false→x=y
 nodup:xs.Nodup
 size:xs.length<4611686018427387904
open Classical in
noncomputable def zJd {α:Type} (cmp:α→α→Option Int) (xs:List α):Option (List α):=if CmpOn cmp xs then some (xs.mergeSort fun x y=> !(ltC cmp y x)) else none
theorem zLk {α:Type} {cmp:α→α→Option Int} {xs ys:List α} (h:zJd cmp xs=some ys):CmpOn cmp xs∧ys=xs.mergeSort fun x y=> !(ltC cmp y x):=by
 unfold zJd at h
 split at h
 ·rename_i hc
  cases h
  exact ⟨hc,rfl⟩
 ·cases h
theorem zIi {β:Nat→Loc} {N:Nat→Prop} {w:World}:∀{ds:List D} {ws:List Value} {bs:List Nat},zU β N w (ds.map fun d=>[d]) ws bs→
  ∃L:List (List Nat),L.length=ds.length∧ws.length=ds.length∧bs=L.flatten∧∀(i:Nat) (d:D) (v:Value) (b:List Nat),ds[i]? =some d→ws[i]? =some v→L[i]? =some b→Rep β N w false d v b
 |[],ws,bs,h=>by
  simp only [List.map_nil,zU] at h
  obtain ⟨rfl,rfl⟩:=h
  exact ⟨[],rfl,rfl,rfl,by simp⟩
 |d::ds,ws,bs,h=>by
  simp only [List.map_cons,zU,zH] at h
  obtain ⟨w1,w2,b1,b2,rfl,rfl,⟨v,vs,c1,c2,rfl,rfl,h1,rfl,rfl⟩,h3⟩:=h
  obtain ⟨L,g1,g2,rfl,g4⟩:=zIi h3
  refine ⟨c1::L,by simp [g1],by simp [g2],by simp,fun i d' v' b' hd hv hb=>?_⟩
  cases i with
  |zero=>
   simp at hd hv hb
   subst hd hv hb
   exact h1
  |succ i=>exact g4 i d' v' b' (by simpa using hd) (by simpa using hv) (by simpa using hb)
theorem zHk {β:Nat→Loc} {N:Nat→Prop} {w:World}:∀{ds:List D} {ws:List Value} {L:List (List Nat)},L.length=ds.length→ws.length=ds.length→
  (∀(i:Nat) (d:D) (v:Value) (b:List Nat),ds[i]? =some d→ws[i]? =some v→L[i]? =some b→Rep β N w false d v b)→zU β N w (ds.map fun d=>[d]) ws L.flatten
 |[],ws,L,h1,h2,_=>by
  have:ws=[]:=List.length_eq_zero_iff.1 h2
  have:L=[]:=List.length_eq_zero_iff.1 h1
  subst_vars
  simp [zU]
 |d::ds,v::ws,b::L,h1,h2,h=>by
  simp only [List.map_cons,zU,zH,List.flatten_cons]
  refine ⟨[v],ws,b,L.flatten,rfl,rfl,⟨v,[],b,[],rfl,by simp,h 0 d v b rfl rfl rfl,rfl,rfl⟩,zHk (by simpa using h1) (by simpa using h2) (fun i d' v' b' hd hv hb=>h (i+1) d' v' b' (by simpa using hd) (by simpa using hv) (by simpa using hb))⟩
theorem grown_of {W w':World} (hq:Qt W w') (hs:W.heap.size≤w'.heap.size) (hk:∀b,b<W.heap.size→w'.heap[b]? =W.heap[b]?):∃q os,w'=Sort.grow (W.drewN q) os:=by
 refine ⟨w'.drawn-W.drawn,w'.heap.extract W.heap.size w'.heap.size,?_⟩
 have hh:w'.heap=W.heap++w'.heap.extract W.heap.size w'.heap.size:=by
  apply Array.ext_getElem?
  intro b
  by_cases hb:b<W.heap.size
  ·rw [Array.getElem?_append_left hb,hk b hb]
  ·rw [Array.getElem?_append_right (by omega),Array.getElem?_extract]
   by_cases hb2:b<w'.heap.size
   ·rw [if_pos (by omega)]
    congr 1; omega
   ·rw [if_neg (by omega),Array.getElem?_eq_none (by omega)]
 obtain ⟨h1,h2,h3,h4⟩:=hq
 cases W; cases w'
 simp only [Sort.grow,World.drewN] at*
 subst h1 h2 h3
 simp only [World.mk.injEq,and_true,true_and]
 exact ⟨hh,by omega⟩
section
open Go.Proofs Go.Sort
theorem zFV {α:Type} [Inhabited α] {enc:α→Value} {w:World} {blk off m:Nat} {dk:Array α} {os:Array Obj}:
  w.heap.size≤(sortWorld enc w blk off m dk os).heap.size ∧(∀b,b<w.heap.size→b≠blk→(sortWorld enc w blk off m dk os).heap[b]? =w.heap[b]?)∧
  (∀arr e fz,blk<w.heap.size→w.heap[blk]? =some (.cells arr e fz)→(sortWorld enc w blk off m dk os).heap[blk]? =some (.cells (Sort.putCells enc off dk arr) e fz))∧Qt w (sortWorld enc w blk off m dk os):=by
 have hsz:(Sort.putRow enc (Sort.ahead w m) blk off dk).heap.size =w.heap.size:=by
  unfold Sort.putRow Sort.mapBlock
  simp [Sort.ahead]
 unfold sortWorld Sort.grow
 refine ⟨?_,fun b hb hne=>?_,fun arr e fz hb h=>?_,⟨rfl,rfl,rfl,by show w.drawn≤w.drawn+m; omega⟩⟩
 ·simp only [Array.size_append,hsz]
  omega
 ·rw [Array.getElem?_append_left (by rw [hsz]; exact hb)]
  unfold Sort.putRow Sort.mapBlock
  simp only [Array.getElem?_modify]
  rw [if_neg (fun e=>hne e.symm)]
  rfl
 ·rw [Array.getElem?_append_left (by rw [hsz]; exact hb)]
  exact (zHy (w:=Sort.ahead w m) h).1
theorem zNs {P:Program} {f g:FuncId} {cmp:List ByteArray→List ByteArray→Option Int} {xs ys:List (List ByteArray)}
  (hcmp:∀x y,Ok P g [.s false 1 x.length (x.map eStr),.s false 1 y.length (y.map eStr)] [] ((cmp x y).map fun r=>(.sc (.int .i64 r),[])))
  (hsF:zJd cmp xs=some ys)
  (hsort:∀(n:Nat) (_:Inhabited (Fin n)) (enc:Fin n→Value),OneCell enc→∀(cf:Fin n→Fin n→Int),SWO (ltOf cf)→∀(blk off cap:Nat) (d:Array (Fin n)) (w:World),CmpLays1 P g #[] enc cf blk off d.size w→Holds enc w blk off d→blk<w.heap.size→d.size<4611686018427387904→
   (∀x y,(ltOf cf) x y=false→(ltOf cf) y x=false→x=y)→Calls P f #[.slice (some ⟨blk,off,none⟩) d.size cap,.func (.func g) #[] #[]] w fun e w'=>e= .returned (.tuple #[])∧∃n os,w'=sortWorld enc w blk off n (d.toList.mergeSort fun x y=> !(ltOf cf) y x).toArray os)
  (hnone:∀(p:Option Addr) (cap:Nat) (fv:Value) (w:World),Calls P f #[.slice p 0 cap,fv] w fun e w'=>e= .returned (.tuple #[])∧w'=w):
  Ok P f [.rf 0 0 xs.length none,.fn g []] [.row 1 (xs.map (eSl true 1 eStr))] (some (.tu [],[.row 1 (ys.map (eSl true 1 eStr))])):=by
 obtain ⟨hC,rfl⟩:=zLk hsF
 intro out ho w N β vs bs ha hh hnd hlt hN hG
 cases ho
 simp only [zH] at ha
 obtain ⟨v,vs',b1,b2,rfl,hb12,h1,v2,vs2,b3,b4,rfl,hb34,h2,rfl,rfl⟩:=ha
 have hb1:b1=[]:=(List.append_eq_nil_iff.1 hb12.symm).1
 have hb2:b2=[]:=(List.append_eq_nil_iff.1 hb12.symm).2
 subst hb1
 rw [hb2] at hb34
 have hb3:b3=[]:=(List.append_eq_nil_iff.1 hb34.symm).1
 subst hb3
 simp only [Rep] at h1 h2
 obtain ⟨_,_,h1⟩:=h1
 obtain ⟨_,_,wsf,rfl,hwsf⟩:=h2
 simp only [zH] at hwsf
 obtain ⟨rfl,_⟩:=hwsf
 obtain ⟨c1,c2,rfl,⟨hLz,hzz,hrow⟩,hc2⟩:=hh
 have hc2':c2=[]:=hc2
 subst hc2'
 simp only at hLz hzz hrow
 have hyl:(xs.mergeSort fun x y=> !(ltC cmp y x)).length =xs.length:=List.length_mergeSort _
 by_cases h0:xs.length=0
 ·
  have hx:xs=[]:=List.length_eq_zero_iff.1 h0
  subst hx
  obtain ⟨p,cap,hv⟩:∃p cap,v= .slice p 0 cap:=by
   rcases h1 with ⟨_,_,_,h1⟩|⟨_,c',h3,_⟩
   ·exact ⟨_,_,h1⟩
   ·exact ⟨_,_,h3⟩
  subst hv
  refine (hnone p cap _ w).mono ?_
  rintro e w' ⟨rfl,rfl⟩
  refine ⟨.tuple #[],[],(β 0).own ++(c1++[]),rfl,Qt.refl _,Nat.le_refl _,fun _ _ _=>rfl,by simpa using hnd,fun b hb=>⟨hlt b hb,.inl hb⟩,?_,?_⟩
  ·simp only [Rep,zH]
   exact ⟨trivial,[],rfl,rfl,trivial⟩
  ·rw [show (([]:List (List ByteArray)).mergeSort fun x y=> !(ltC cmp y x))=[] from by simp]
   have hmem:∀b,N b→NS ⟨P,f,w',N,(β 0).own ++(c1++[]),1,β,0⟩ w' ([]++((β 0).own ++(c1++[]))) b:=fun b hb=>⟨.inl hb,(hN b hb).1,(hN b hb).2⟩
   refine ⟨c1,[],by simp,⟨hLz,by simp,?_⟩,rfl⟩
   rcases hrow with ⟨q1,q2,q3⟩|⟨q1,ws,q2,q3⟩
   ·exact .inl ⟨q1,rfl,q3⟩
   ·refine .inr ⟨q1,ws,q2,?_⟩
    exact zU.frame (fun b hb=>⟨hmem b hb,rfl⟩) _ ws c1 (fun _ _=>rfl) q3
 rcases hrow with ⟨_,hxs,_⟩|⟨hnil,ws,hO,hE⟩
 ·exact absurd (by simpa using congrArg List.length hxs) h0
 have hown:(β 0).own =[(β 0).b]:=by simp [Loc.own,hnil]
 rw [hown] at hlt hnd hN ⊢
 have hE':zU β N w ((xs.map fun x=>D.s true 1 x.length (x.map eStr)).map fun d=>[d]) ws c1:=by
  rw [List.map_map]
  exact hE
 obtain ⟨L,g1,g2,rfl,g4⟩:=zIi hE'
 rw [List.length_map] at g1 g2
 obtain ⟨cp,hv,hcap,hroom⟩:∃c',v= .slice (some ⟨(β 0).b,(β 0).o,none⟩) xs.length c'∧xs.length≤c'∧c'≤(β 0).r :=by
  rcases h1 with ⟨h1,_⟩|⟨_,c',h3,h4,h5,_⟩
  ·rw [hnil] at h1; cases h1
  ·exact ⟨c',by simpa using h3,h4,by rw [hLz] at h5; simpa using h5⟩
 subst hv
 have hbl:(β 0).b <w.heap.size:=hlt _ (by simp)
 have hcells:=zJz hO (by omega)
 have hbl2:∀b∈L.flatten,b≠(β 0).b :=fun b hb e=>by
  subst e
  simp only [List.append_nil,List.cons_append,List.nil_append,List.nodup_cons] at hnd
  exact hnd.1 hb
 have hNb:∀b,N b→b≠(β 0).b :=fun b hb e=>(hN b hb).2 (by simp [e])
 have hpos:0<xs.length:=Nat.pos_of_ne_zero h0
 let inh:Inhabited (Fin xs.length):=⟨⟨0,hpos⟩⟩
 let enc:Fin xs.length→Value:=fun i=>ws[i.1]'(by rw [g2]; exact i.2)
 let cf:Fin xs.length→Fin xs.length→Int:=fun i j=>(cmp xs[i.1] xs[j.1]).getD 0
 have hlt2:∀i j,ltOf cf i j=ltC cmp xs[i.1] xs[j.1]:=fun i j=>by
  have:=hC.all _ (List.getElem_mem i.2) _ (List.getElem_mem j.2)
  obtain ⟨r,hr⟩:=Option.isSome_iff_exists.1 this
  simp only [ltOf,ltC,cf,hr]
  rfl
 have hrep:∀i:Fin xs.length,Rep β N w false (.s true 1 xs[i.1].length (xs[i.1].map eStr)) (enc i) (L[i.1]'(by rw [g1]; exact i.2)):=fun i=>by
  refine g4 i.1 _ _ _ ?_ ?_ ?_
  ·rw [List.getElem?_map,List.getElem?_eq_getElem i.2]; rfl
  ·exact List.getElem?_eq_getElem _
  ·exact List.getElem?_eq_getElem _
 have hsub:∀i:Fin xs.length,∀b∈L[i.1]'(by rw [g1]; exact i.2),b∈L.flatten:=fun i b hb=>List.mem_flatten.2 ⟨_,List.getElem_mem _,hb⟩
 have h1c:OneCell enc:=fun i=>Rep.oneCell (by trivial) (hrep i)
 have hSW:SWO (ltOf cf):=by
  have hT:∀i j,ltOf cf i j=false→ltOf cf j i=false→xs[i.1]=xs[j.1]:=fun i j h1 h2=>by
   rw [hlt2] at h1 h2
   exact hC.total _ (List.getElem_mem i.2) _ (List.getElem_mem j.2) h1 h2
  refine ⟨fun i=>?_,fun i j k h1 h2=>?_,fun i j k h1 h2=>?_⟩
  ·rw [hlt2]; exact hC.irrefl _ (List.getElem_mem i.2)
  ·rw [hlt2] at h1 h2 ⊢
   exact hC.trans _ (List.getElem_mem i.2) _ (List.getElem_mem j.2) _ (List.getElem_mem k.2) h1 h2
  ·cases h3:ltOf cf i k with
   |false=>rfl
   |true=>
    cases h4:ltOf cf j i with
    |false=>
     have e:=hT i j h1 h4
     rw [hlt2] at h2 h3
     rw [←e] at h2
     rw [h2] at h3; cases h3
    |true=>
     rw [hlt2] at h2 h3 h4
     have:=hC.trans _ (List.getElem_mem j.2) _ (List.getElem_mem i.2) _ (List.getElem_mem k.2) h4 h3
     rw [h2] at this; cases this
 have hT:∀i j,ltOf cf i j=false→ltOf cf j i=false→i=j:=fun i j h1 h2=>by
  rw [hlt2] at h1 h2
  have e:=hC.total _ (List.getElem_mem i.2) _ (List.getElem_mem j.2) h1 h2
  exact Fin.ext ((List.getElem_inj hC.nodup).1 e)
 have hds:(List.finRange xs.length).toArray.size =xs.length:=by simp
 have hH:Sort.Holds enc w (β 0).b (β 0).o (List.finRange xs.length).toArray :=by
  intro j hj
  have hj':j<xs.length:=by rw [hds] at hj; exact hj
  obtain ⟨q1,q2⟩:=hcells j (by omega)
  refine ⟨?_,q2⟩
  rw [q1]
  have:(List.finRange xs.length).toArray[j]! =(⟨j,hj'⟩:Fin xs.length):=by
   rw [getElem!_pos (List.finRange xs.length).toArray j hj]
   simp
  rw [this]
 have hLay:CmpLays1 P g #[] enc cf (β 0).b (β 0).o (List.finRange xs.length).toArray.size w:=by
  intro m os dk hdk x y
  obtain ⟨k1,k2,_,_⟩:=zFV (enc:=enc) (w:=w) (blk:=(β 0).b) (off:=(β 0).o) (m:=m) (dk:=dk) (os:=os)
  generalize sortWorld enc w (β 0).b (β 0).o m dk os=W at k1 k2 ⊢
  obtain ⟨r,hr⟩:=Option.isSome_iff_exists.1 (hC.all _ (List.getElem_mem x.2) _ (List.getElem_mem y.2))
  have harg:∀i:Fin xs.length,Rep β (fun b=>b<W.heap.size) W true (.s false 1 xs[i.1].length (xs[i.1].map eStr)) (enc i) []:=fun i=>by
   have q:=Rep.ro (β':=β) (N':=fun b=>N b∨b∈L.flatten) (fun b hb=>.inl hb) _ (enc i) _ (fun b hb=>.inr (hsub i b hb)) (hrep i)
   have e:D.ro (.s true 1 xs[i.1].length (xs[i.1].map eStr))= .s false 1 xs[i.1].length (xs[i.1].map eStr):=by
    simp only [D.ro]
    rw [kE (enc:=eStr) (enc':=eStr) (fun _=>rfl)]
   rw [e] at q
   refine Rep.up (Rep.frame (fun b hb=>?_) _ false _ [] (by simp) (fun _ _=>rfl) q)
   rcases hb with hb|hb
   ·exact ⟨Nat.lt_of_lt_of_le (hN b hb).1 k1,k2 b (hN b hb).1 (hNb b hb)⟩
   ·have hb2:=hlt b (by simp [hb])
    exact ⟨Nat.lt_of_lt_of_le hb2 k1,k2 b hb2 (hbl2 b hb)⟩
  have hcall:=hcmp xs[x.1] xs[y.1] (.sc (.int .i64 r),[]) (by rw [hr]; rfl) W (fun b=>b<W.heap.size) β [enc x,enc y] []
   (by simp only [zH]; exact ⟨_,_,[],[],rfl,rfl,harg x,_,_,[],[],rfl,rfl,harg y,rfl,rfl⟩) rfl (by simp) (by simp) (fun b hb=>⟨hb,by simp⟩) (fun q hq=>by
    obtain ⟨t1,ws',e',fz,t2,t3⟩:=hG q hq
    exact ⟨Nat.lt_of_lt_of_le (hN _ t1).1 k1,ws',e',fz,(k2 _ (hN _ t1).1 (hNb _ t1)).trans t2,t3⟩)
  refine Calls.mono (hcall) ?_
  rintro e w' ⟨v,b1,b2,rfl,hq,hsz,hkeep,_,_,hv,_⟩
  simp only [Rep] at hv
  obtain ⟨rfl,_⟩:=hv
  refine ⟨?_,grown_of hq hsz (fun b hb=>hkeep b hb (by simp))⟩
  simp only [cf,hr]
  rfl
 have hcall:=hsort xs.length inh enc h1c cf hSW (β 0).b (β 0).o cp (List.finRange xs.length).toArray w hLay hH hbl (by rw [hds]; exact hC.size) hT
 rw [hds] at hcall
 refine hcall.mono ?_
 rintro e w' ⟨rfl,n0,os,rfl⟩
 simp only at*
 generalize he:((List.finRange xs.length).mergeSort fun x y=> !(ltOf cf) y x)=e at*
 have hperm:e.Perm (List.finRange xs.length):=by rw [←he]; exact List.mergeSort_perm _ _
 have hel:e.length=xs.length:=by rw [hperm.length_eq]; simp
 obtain ⟨k1,k2,k3,k4⟩:=zFV (enc:=enc) (w:=w) (blk:=(β 0).b) (off:=(β 0).o) (m:=n0) (dk:=e.toArray) (os:=os)
 generalize sortWorld enc w (β 0).b (β 0).o n0 e.toArray os=W at k1 k2 k3 k4 ⊢
 have hys:(xs.mergeSort fun x y=> !(ltC cmp y x))=e.map fun i=>xs[i.1]'(i.2):=by
  rw [←he,List.map_mergeSort (s:=fun x y=> !(ltC cmp y x)) (fun i _ j _=>by rw [hlt2])]
  congr 1
  apply List.ext_getElem
  ·simp
  ·intro i h1 h2
   simp
 let L':=e.map fun i=>L[i.1]'(by rw [g1]; exact i.2)
 have hLp:L'.flatten.Perm L.flatten:=by
  refine List.Perm.flatten ?_
  have:L=(List.finRange xs.length).map fun i=>L[i.1]'(by rw [g1]; exact i.2):=by
   apply List.ext_getElem
   ·simp [g1]
   ·intro i h1 h2
    simp
  conv=>rhs; rw [this]
  exact hperm.map _
 have hnd':((β 0).b ::L'.flatten).Nodup :=by
  have:=(List.Perm.cons (β 0).b hLp).nodup_iff.2 (by simpa using hnd)
  exact this
 have hmem:∀b,b∈(β 0).b ::L'.flatten↔b∈[(β 0).b]++(L.flatten++[]):=fun b=>by
  rw [List.append_nil,List.singleton_append]
  exact (List.Perm.cons _ hLp).mem_iff
 refine ⟨.tuple #[],[],(β 0).b ::L'.flatten,rfl,k4,k1,fun b hb hb2=>k2 b hb (fun e=>hb2 (by simp [e])),by simpa using hnd',fun b hb=>?_,?_,?_⟩
 ·have hb':=(hmem b).1 (by simpa using hb)
  exact ⟨Nat.lt_of_lt_of_le (hlt b hb') k1,.inl hb'⟩
 ·simp only [Rep,zH]
  exact ⟨trivial,[],rfl,rfl,trivial⟩
 ·have hzz':∀x∈(xs.mergeSort fun x y=> !(ltC cmp y x)).map (eSl true 1 eStr),x.length=1:=fun x hx=>by
   obtain ⟨y,_,rfl⟩:=List.mem_map.1 hx
   rfl
  refine ⟨L'.flatten,[],by simp [hown],⟨hLz,hzz',.inr ⟨hnil,e.map enc,?_,?_⟩⟩,rfl⟩
  ·obtain ⟨arr,el,lo,hi,q1,q2,q3,q4⟩:=hO
   refine ⟨Sort.putCells enc (β 0).o e.toArray arr,el,lo,hi,k3 _ _ _ hbl q1,?_,?_,?_⟩
   ·unfold Sort.putCells
    rw [Array.size_mapIdx]
    exact q2
   ·unfold Sort.putCells
    rw [Array.size_mapIdx]
    exact q3
   ·intro k hk
    have hk':k<e.length:=by simpa using hk
    unfold Sort.putCells
    have hka:(β 0).o +k<arr.size:=by omega
    rw [Array.getElem?_mapIdx,Array.getElem?_eq_getElem hka]
    simp only [Option.map_some]
    rw [if_pos (by simp; omega)]
    simp [hk']
  ·have e1:(xs.mergeSort fun x y=> !(ltC cmp y x)).map (eSl true 1 eStr)=(e.map fun i=>D.s true 1 xs[i.1].length (xs[i.1].map eStr)).map fun d=>[d]:=by
    rw [hys,List.map_map,List.map_map]
    rfl
   rw [e1]
   refine zHk (by simp [L']) (by simp) (fun i d v b hd hv hb=>?_)
   rw [List.getElem?_map] at hd hv hb
   cases hi:e[i]? with
   |none=>rw [hi] at hd; cases hd
   |some p=>
    rw [hi] at hd hv hb
    cases hd; cases hv; cases hb
    refine Rep.frame (fun b hb=>⟨⟨.inl hb,Nat.lt_of_lt_of_le (hN b hb).1 k1,fun h=>(hN b hb).2 ((hmem b).1 (by simpa using h))⟩,k2 b (hN b hb).1 (hNb b hb)⟩) _ false _ _ (fun b hb=>?_) (fun _ _=>rfl) (hrep p)
    have hb2:=hsub p b hb
    exact k2 b (hlt b (by simp [hb2])) (hbl2 b hb2)
end
end Go.Im
set_option linter.unusedVariables false
namespace Go.Im
open Go
section
variable {Γ:Ctx} {ops:Array Oper} {o:Oper}
theorem zOW {c:Cert} {x:Operand} {T el:TypeId} {z n k t p:Nat} {kk:IntKind} {ys xs:List (List D)} (hg:o.guard=none)
  (hop:o.op= .slice T x none (some (.const (.int kk (k:Int)))) (some (.const (.int kk (k:Int)))))
  (hc:c= {tn:=c.tn,hn:=c.hn,out:=some (.cw p k),hw:=[(p,.cow z xs t ys)],fr:=[p]}) (hm:Γ.m≤p) (hx:OpF c x (.rf t 0 n none)) (hh:(t,.row z ys)∈c.hn)
  (hT:yP Γ.P (underlying T)=some (.slice el)) (hz:zFr Γ.P el=some z) (hk0:0<k) (hk:k≤n) (hn:ys.length=n) (hys:xs=ys.take k):Valid Γ ops o c:=by
 intro σ a w Q hdst hn' ⟨h0,β,bs,hr⟩
 have hwt:Region.wanted o (yielded ops a.tmps)=true:=by simp [Region.wanted,hg]
 rw [if_pos hwt]
 have hfr:p∉σ.us:=hn'.2.2 p (by rw [hc]; simp)
 have h3:=OpF.rep hx hn' hr
 have hhm:=hn'.2.1 _ hh
 have htp:t≠p:=fun e=>hfr (e▸h0 t (.inr (List.mem_flatMap.2 ⟨_,hhm,by simp⟩)))
 obtain ⟨_,⟨hLz,hzz,_⟩,_⟩:=uO.get hr.hp hhm
 simp only [Rep] at h3
 obtain ⟨_,_,⟨_,_,h4,_⟩|⟨hnil,cap,hv,hcap,hroom,_⟩⟩:=h3
 ·omega
 have hv:a.eval x= .slice (some ⟨(β t).b,(β t).o,none⟩) n cap:=by simpa using hv
 have hex:(execOp a.eval o).run Γ.P w= .ok (.value (.slice (some ⟨(β t).b,(β t).o,none⟩) k k)) w:=by
  refine zFb (s:=Instr.sliceAt T (a.eval x) none (some (.int kk (k:Int))) (some (.int kk (k:Int)))) (by simp [execOp,hop]; rfl) ?_
  rw [hv]
  unfold Instr.sliceAt
  rw [run_bind_ok (zL _ _ w hT)]
  simp only
  unfold Instr.slice
  rw [run_bind_ok (zL _ _ w hT)]
  simp only
  have hb:(Instr.sliceBounds true n cap none (some (.int kk (k:Int))) (some (.int kk (k:Int)))).run Γ.P w= .ok (0,k,k) w:=by
   unfold Instr.sliceBounds
   simp only
   rw [run_bind_ok (run_sliceBound (by omega))]
   rw [run_bind_ok (run_sliceBound (Nat.le_refl _))]
   rfl
  rw [run_bind_ok hb]
  simp only
  rw [run_bind_ok (zL _ _ w hz)]
  rw [if_neg (by omega)]
  simp [zDl]
 unfold Oper.wp
 rw [hex,Oper.upon_value]
 refine Rel.step (β1:=zFO β p ⟨true,(β t).b,(β t).o,z,0⟩) (bk:=bs) (br:=[]) (bn:=[]) h0 hr hdst (by rw [hc]; simp) (by rw [hc]; simpa using hfr) (by simp) (by rw [hc,zFI]; exact hr.hp) (Nat.le_refl _) (fun _ _ _=>rfl) ?_ ?_ (by simp) (by simp) ?_ ?_ (Qt.refl _)
 ·intro k hk'; exact zAh (fun e=>hfr (e▸hk'))
 ·intro k hk'; exact zAh (by omega)
 ·rw [hc]
  refine ⟨[],[],by simp [wW,Loc.own],?_,rfl⟩
  rw [wW]
  subst hys
  refine ⟨rfl,fun x hx=>hzz x (List.mem_of_mem_take hx),.inl ⟨rfl,rfl,?_⟩⟩
  rw [zAh htp]
  refine ⟨rfl,rfl,hnil,k,hk0,by omega,?_,rfl⟩
  rw [←hLz]
  have:k*(β t).z ≤cap*(β t).z :=Nat.mul_le_mul_right _ (by omega)
  simp only [Nat.zero_add] at hroom
  omega
 ·intro d hd
  rw [hc] at hd
  cases hd
  simp only [Rep,wW]
  exact ⟨trivial,trivial,.inl ⟨trivial,.inr ⟨hk0,trivial⟩⟩⟩
theorem zNW {β:Nat→Loc} {N:Nat→Prop} {w:World} {L:Loc} {b1 b2:List Nat} {z t:Nat} {xs ys:List (List D)} (h:zCn β N w L b1 (.cow z xs t ys)) (ht:zCn β N w (β t) b2 (.row z ys)) (hx:xs≠[]):
  L.z=z∧(∀x∈xs,x.length=z)∧∃ws bs zs,Has w L.b L.o ws∧zU β N w zs ws bs∧(∀x∈zs,x.length=z)∧∃n,n≤zs.length∧xs=zs.take n:=by
 obtain ⟨h1,h2,⟨_,_,h3,h4,h5,n,h6,h7,_,h8⟩|⟨_,rfl,_⟩|⟨_,ws,h3,h4⟩⟩:=h
 ·obtain ⟨_,h9,⟨hn,_⟩|⟨_,ws,h10,h11⟩⟩:=ht
  ·rw [h5] at hn; cases hn
  ·exact ⟨h1,h2,ws,b2,ys,by rw [h3,h4]; exact h10.has,h11,h9,n,h7,h8⟩
 ·exact absurd rfl hx
 ·exact ⟨h1,h2,ws,_,xs,h3.has,h4,h2,xs.length,Nat.le_refl _,(List.take_length).symm⟩
theorem zLw {c:Cert} {x y:Operand} {T el:TypeId} {k:IntKind} {z n t p:Nat} {i:Int} {xs ys:List (List D)} (hg:o.guard=none) (hop:o.op= .indexAddr T x y)
  (hc:c= {tn:=c.tn,hn:=c.hn,out:=some (.cp p i.toNat)}) (hx:OpF c x (.cw p n)) (hy:OpF c y (.sc (.int k i))) (hT:yP Γ.P (underlying T)=some (.slice el)) (hz:zFr Γ.P el=some z)
  (hi:0≤i) (hj:i<n) (hh:(p,.cow z xs t ys)∈c.hn):Valid Γ ops o c:=by
 refine jL (d:=.cp p i.toNat) (f:=fun ρ=>Instr.indexAt T (ρ x) (ρ y)) hg (fun ρ=>by simp [execOp,hop]) (by rw [hc]) fun β bs σ a w hn hr=>?_
 have h1:=OpF.rep hx hn hr
 have h2:=OpF.rep hy hn hr
 obtain ⟨_,⟨hLz,_⟩,_⟩:=uO.get hr.hp (hn.2.1 _ hh)
 simp only [Rep] at h1 h2
 have hv:∃c',a.eval x= .slice (some ⟨(β p).b,(β p).o,none⟩) n c':=by
  rcases h1.2.2 with ⟨_,⟨h0,_⟩|⟨_,h⟩⟩|⟨_,c',h,_⟩
  ·omega
  ·exact ⟨_,h⟩
  ·exact ⟨_,h⟩
 obtain ⟨c',hv⟩:=hv
 refine ⟨.pointer (some ⟨(β p).b,(β p).o +i.toNat*(β p).z,none⟩),?_,by simp only [Rep]; exact ⟨trivial,trivial,trivial⟩⟩
 rw [h2.1,hv]
 unfold Instr.indexAt
 rw [run_bind_ok (a:=(k,i)) (w':=w) rfl]
 simp only
 rw [run_bind_ok (zL _ _ w hT)]
 simp only
 rw [run_bind_ok (a:=(some (⟨(β p).b,(β p).o,none⟩:Addr),n,el)) (w':=w) rfl]
 rw [run_bind_ok (zL _ _ w hT)]
 simp only
 rw [if_pos ⟨hi,hj⟩]
 rw [run_bind_ok (zL _ _ w hz)]
 rw [zDl,hLz]
 rfl
theorem zMI {c:Cert} {x:Operand} {T:TypeId} {z t p i:Nat} {xs ys:List (List D)} {e:List D} {d:D} (hg:o.guard=none) (hop:o.op= .load T x) (hc:c= {tn:=c.tn,hn:=c.hn,out:=some d})
  (hx:OpF c x (.cp p i)) (hh:(p,.cow z xs t ys)∈c.hn) (hh2:(t,.row z ys)∈c.hn) (he:xs[i]? =some e) (ho:e.all zCl=true) (hd:zBt Γ.P T e=some d):Valid Γ ops o c:=by
 refine jL (d:=d) (f:=fun ρ=>Instr.loadAt T (ρ x)) hg (fun ρ=>by simp [execOp,hop]) (by rw [hc]) fun β bs σ a w hn hr=>?_
 have h1:=OpF.rep hx hn hr
 simp only [Rep] at h1
 obtain ⟨b1,hE0,_,_⟩:=uO.get hr.hp (hn.2.1 _ hh)
 obtain ⟨b2,hE1,_,_⟩:=uO.get hr.hp (hn.2.1 _ hh2)
 obtain ⟨hLz,_,ws,bb,zs,hH,hE,hzz,n,hnl,hxz⟩:=zNW hE0 hE1 (by intro e0; subst e0; simp at he)
 have he':zs[i]? =some e:=by
  rw [hxz,List.getElem?_take] at he
  split at he
  ·exact he
  ·cases he
 obtain ⟨b2,b3,b4,_,h4,_,_⟩:=zU.get hE hzz he'
 have hone:=zET ho h4
 obtain ⟨v,h7,h8⟩:=zDa hd (hH.sub (i*z) z) hone h4.up
 refine ⟨v,?_,h8⟩
 rw [h1.2.2,hLz]
 exact h7
theorem zNe {c:Cert} {x:Operand} {T el:TypeId} {n t:Nat} (hg:o.guard=none)
  (hop:o.op= .call {callee:=.builtin .len,args:= #[x],argTypes:= #[T]}) (hc:c= {tn:=c.tn,out:=some (.sc (.int .i64 n))})
  (hx:OpF c x (.cw t n)) (hT:yP Γ.P (underlying T)=some (.slice el)):Valid Γ ops o c:=by
 rw [hc]
 refine jE hg rfl rfl fun β bs σ a w hn hr=>?_
 have h1:=OpF.rep (c:=c) hx ⟨hn.1,by rw [hc]; simp,by rw [hc]; simp⟩ hr
 simp only [Rep] at h1
 have hv:∃ad cp,a.eval x= .slice ad n cp:=by
  rcases h1.2.2 with ⟨_,⟨h0,h⟩|⟨_,h⟩⟩|⟨_,c',h,_⟩
  ·subst h0; exact ⟨_,_,h⟩
  ·exact ⟨_,_,h⟩
  ·exact ⟨_,_,h⟩
 obtain ⟨ad,cp,hv⟩:=hv
 refine ⟨.int .i64 n,?_,fun d hd=>by cases hd; simp [Rep]⟩
 rw [zAm hop]
 simp only [builtin,List.map_toArray,List.map_cons,List.map_nil]
 rw [hv]
 refine run_bind_ok (a:=Value.int .i64 n) (w':=w) ?_
 unfold Builtin.len_
 simp only [List.getElem?_toArray,List.getElem?_cons_zero]
 exact run_bind_ok (zL _ _ w hT)
theorem zJ2 {P:Program} {w:World} {T U el:TypeId} {ty:TypeId} {z n m bytes:Nat} {u:Value} {wx wy:List Value} {zv:Value} {b off:Nat}
  (hT:P.underlying T=some (.slice el)) (hinfo:(P.info? el).map (fun i=>(i.zero,i.size,i.bytes))=some (some zv,z,bytes)) (hzs:zv.cells.size=z)
  (hH:Has w b off wx) (hxl:wx.length=n*z) (hm:0<m) (hs:Go.Src P z U u m wy w) (hbig:(n+m)*bytes≤140737488355328) (h62:n+m≤4611686018427387904):
  ∃r w1,(Builtin.append_ #[T,U] ty #[.slice (some ⟨b,off,none⟩) n n,u]).run P w= .ok r w1∧zP0 w w1 z n m wx wy [] r:=by
 obtain ⟨i,hi,hz0,rfl,rfl⟩:=zKq hinfo
 have hyl:=hs.newsLen
 have hge:=grownCap_ge w (n+m) n el
 have hold:(Builtin.firstCells i.size n (.slice (some ⟨b,off,none⟩) n n)).run P w.drew= .ok wx.toArray w.drew:=by
  simp only [Builtin.firstCells]
  exact run_loadCells (hH.frame rfl) hxl
 refine ⟨_,_,run_append_grow_src w T U ty el i zv hT hi hz0 (some ⟨b,off,none⟩) n n wx hold u m wy hs (by omega) (by omega) (growslice_fits (by omega) hbig),⟨rfl,rfl,rfl,Nat.le_succ _⟩,.inr ⟨w.heap.size,0,_,rfl,hge,?_,?_,.inr ⟨rfl,?_,?_⟩⟩⟩
 ·refine zHv (w:=w) rfl ?_ ⟨_,by simp; rfl⟩
  simp only [Array.size_append,List.size_toArray,List.length_append,hyl,hxl,Builtin.zeroCells,Array.size_map,Array.size_range,hzs,←Nat.add_mul]
  exact Nat.mul_le_mul_right _ (by omega)
 ·show w.heap.size< (w.heap.push _).size; simp
 ·show w.heap.size≤(w.heap.push _).size; simp
 ·intro b' hb'; exact zFq (w:=w) rfl hb'
theorem zJZ {c:Cert} {x y:Operand} {T U el e':TypeId} {t q td ts n m z bytes:Nat} {cs:Option Nat} {zv:Value} {xs ys rs:List (List D)} (hg:o.guard=none)
  (hop:o.op= .call {callee:=.builtin .append,args:= #[x,y],argTypes:= #[T,U]}) (hc:c= {tn:=c.tn,hn:=c.hn,out:=some (.rf t 0 (n+m) none),hx:=[td,ts],hw:=[(t,.row z (xs++ys))],fr:=[t]})
  (hm:Γ.m≤t) (hm0:0<m) (hx:OpF c x (.cw td n)) (hy:OpF c y (.rf ts 0 m cs)) (hne:td≠ts) (hxr:(td,.cow z xs q rs)∈c.hn) (hqr:(q,.row z rs)∈c.hn) (hyr:(ts,.row z ys)∈c.hn) (hlx:xs.length=n) (hly:ys.length=m)
  (hT:Γ.P.underlying T=some (.slice el)) (hU:Γ.P.underlying U=some (.slice e')) (hinfo:(Γ.P.info? el).map (fun i=>(i.zero,i.size,i.bytes))=some (some zv,z,bytes)) (hzs:zv.cells.size=z)
  (honex:∀β N (w:World) ws bs,zU β N w xs ws bs→zU β N w xs ws []) (hone:∀e∈ys,e.all zCl=true) (hbig:(n+m)*bytes≤140737488355328) (h62:n+m≤4611686018427387904):Valid Γ ops o c:=by
 intro σ a w Q hdst hn ⟨h0,β,bs,hr⟩
 have hwt:Region.wanted o (yielded ops a.tmps)=true:=by simp [Region.wanted,hg]
 rw [if_pos hwt]
 have hfr:t∉σ.us:=hn.2.2 t (by rw [hc]; simp)
 obtain ⟨b3,hEq,_,_⟩:=uO.get hr.hp (hn.2.1 _ hqr)
 obtain ⟨b1,b2',p1,hE1,hrest⟩:=uO.take hr.hp hr.keys (hn.2.1 _ hxr)
 obtain ⟨b2,bk,p2,hE2,hrest2⟩:=uO.take hrest (List.Nodup.sublist (List.Sublist.map _ List.filter_sublist) hr.keys) (List.mem_filter.2 ⟨hn.2.1 _ hyr,by simpa using fun e=>hne e.symm⟩)
 obtain ⟨wy,hS,hEy,hzy⟩:=zIr (OpF.rep hy hn hr) hE2 hly
 have hsrc:Go.Src Γ.P z U (a.eval y) m wy w:=zEW hU (zE9 hone hEy) (by
  rcases hS with ⟨q1,q2,q3,_⟩|⟨b,off,cp,q1,_,_,q2,q3⟩
  ·exact .inl ⟨q1,q2,q3⟩
  ·exact .inr ⟨b,off,cp,q1,q2.has,q3⟩)
 have hvx:=OpF.rep hx hn hr
 simp only [Rep] at hvx
 obtain ⟨_,_,hvx⟩:=hvx
 obtain ⟨hLz,hzx,hrow⟩:=hE1
 have key:∃wx r w1,(Builtin.append_ #[T,U] o.type #[a.eval x,a.eval y]).run Γ.P w= .ok r w1∧zP0 w w1 z n m wx wy (β td).own r∧zU β (NS Γ w bs) w xs wx b1:=by
  rcases hrow with ⟨hnil,rfl,hrb,hro,hqn,k,hk0,hkl,_,hxk⟩|⟨hnil,rfl,rfl⟩|⟨hnil,wx,hO,hE⟩
  ·have hown:(β td).own =[]:=by simp [Loc.own,hnil]
   rw [hown]
   have hkn:n=k:=by rw [←hlx,hxk]; simp; omega
   rcases hvx with ⟨_,⟨hn0,_⟩|⟨_,hv⟩⟩|⟨hnil',_⟩
   ·omega
   ·obtain ⟨hqz,hzq,⟨hqn',_⟩|⟨_,wq,hOq,hEq⟩⟩:=hEq
    ·rw [hqn] at hqn'; cases hqn'
    ·obtain ⟨d1,d2,_,hd1,_⟩:=hEq.cut k hzq
     rw [←hxk] at hd1
     have hE:=honex _ _ _ _ _ hd1
     have hxl:(wq.take (k*z)).length =n*z:=by rw [hE.length hzx,hlx]
     have hH:Has w (β td).b (β td).o (wq.take (k*z)):=by
      rw [hrb,hro]
      have:=hOq.has.sub 0 (k*z)
      simpa using this
     obtain ⟨r,w1,hrun,hA⟩:=zJ2 (ty:=o.type) hT hinfo hzs hH hxl hm0 hsrc hbig h62
     rw [hv]
     exact ⟨_,r,w1,hrun,hA,hE⟩
   ·rw [hnil] at hnil'; cases hnil'
  ·have hown:(β td).own =[]:=by simp [Loc.own,hnil]
   rw [hown]
   have hn0:n=0:=by simpa using hlx.symm
   rcases hvx with ⟨_,⟨_,hv⟩|⟨h,_⟩⟩|⟨hnil',_⟩
   ·obtain ⟨r,w1,hrun,hA⟩:=zE4 (ty:=o.type) hT hinfo hzs (n:=n) (wx:=[]) (blk:=[]) (.inl ⟨hv,hn0,rfl,rfl⟩) hsrc hbig h62
    exact ⟨[],r,w1,hrun,hA,by simp [zU]⟩
   ·omega
   ·rw [hnil] at hnil'; cases hnil'
  ·rcases hvx with ⟨hnil',_⟩|⟨_,cp,hv,hcap,hroom⟩
   ·rw [hnil] at hnil'; cases hnil'
   ·obtain ⟨r,w1,hrun,hA⟩:=zE4 (ty:=o.type) (v:=a.eval x) (wx:=wx) (blk:=(β td).own) hT hinfo hzs (n:=n) (.inr ⟨(β td).b,(β td).o,cp,hv,by simp [Loc.own,hnil],hcap,hO.mono (by rw [←hLz]; exact hroom),by rw [hE.length hzx,hlx]⟩) hsrc hbig h62
    exact ⟨wx,r,w1,hrun,hA,hE⟩
 obtain ⟨wx,r,w1,hrun,hA,hEx⟩:=key
 have hex:(execOp a.eval o).run Γ.P w= .ok (.value r) w1:=by
  rw [zAm hop]
  simp only [builtin,List.map_toArray,List.map_cons,List.map_nil]
  exact run_bind_ok hrun
 unfold Oper.wp
 rw [hex,Oper.upon_value]
 refine zE7 (b1:=b1) (b2:=b2) (bx:=(β ts).own) (bk:=bk) (blk:=(β td).own) h0 hr hdst (by rw [hc]) hfr hm ?_ ?_ hEx hEy hzx hzy hlx hly hA (by rw [hc])
 ·refine p1.trans ?_
  refine (List.Perm.append_left _ (List.Perm.append_left _ p2)).trans ?_
  simp only [List.append_assoc]
  refine List.Perm.append_left _ (List.Perm.append_left _ ?_)
  rw [←List.append_assoc,←List.append_assoc]
  exact List.Perm.append_right _ List.perm_append_comm
 ·rw [hc]
  rw [zGx] at hrest2
  exact hrest2
theorem zIk {β:Nat→Loc} {N:Nat→Prop} {w:World}:∀{xs:List (List D)} {ws:List Value} {bs:List Nat},(∀e∈xs,e.all D.free=true)→zU β N w xs ws bs→zU β N w xs ws []
 |[],ws,bs,_,h=>by
  simp only [zU] at h ⊢
  exact ⟨h.1,trivial⟩
 |e::es,ws,bs,he,h=>by
  simp only [zU] at h ⊢
  obtain ⟨w1,w2,b1,b2,h1,_,h3,h4⟩:=h
  have e1:=zH.free (he e (by simp)) h3.up
  subst e1
  exact ⟨w1,w2,[],[],h1,rfl,h3,zIk (fun e he'=>he e (by simp [he'])) h4⟩
theorem zPc {α:Type} {ys r:List α} {k:Nat} {kk:IntKind} (T el z t p:Nat) (enc:α→List D) (x:Operand) (h:zEE ys 0 (k:Int)=some r) (hx:OkO x (.rf t 0 ys.length none):=by trivial)
  (hT:(yP Γ.P (underlying T),zFr Γ.P el,Nat.ble Γ.m p,Nat.blt 0 k)=(some (.slice el),some z,true,true):=by kernel_rfl):
  OpV Γ (.slice T x none (some (.const (.int kk (k:Int)))) (some (.const (.int kk (k:Int))))) {tn:=tnO x (.rf t 0 ys.length none),hn:=[(t,rE z enc ys)],out:=some (.cw p r.length),hw:=[(p,.cow z (r.map enc) t (ys.map enc))],fr:=[p]}:=by
 simp only [Prod.mk.injEq] at hT
 intro ops o hop hg
 unfold zEE at h
 split at h
 ·rename_i q
  cases h
  have hl:((ys.drop (0:Int).toNat).take ((k:Int).toNat -(0:Int).toNat)).length =k:=by simp; omega
  have hk0:0<k:=by simpa using hT.2.2.2
  rw [hl]
  exact zOW (ys:=ys.map enc) hg hop rfl (Nat.le_of_ble_eq_true hT.2.2.1) (hx.f (fun y hy=>hy)) (.head _) hT.1 hT.2.1 hk0 (by omega) (by simp) (by simp)
 ·cases h
theorem zP7 {α:Type} {xs ys:List α} {i:Int} {a:α} {kk:IntKind} (T el z p t:Nat) (enc:α→List D) (x y:Operand) (h:idx xs i=some a) (hx:OkO x (.cw p xs.length):=by trivial) (hy:OkO y (.sc (.int kk i)):=by first|trivial|rfl)
  (hT:(yP Γ.P (underlying T),zFr Γ.P el)=(some (.slice el),some z):=by kernel_rfl):
  OpV Γ (.indexAddr T x y) {tn:=tnO x (.cw p xs.length)++tnO y (.sc (.int kk i)),hn:=[(p,.cow z (xs.map enc) t (ys.map enc))],out:=some (.cp p i.toNat)}:=by
 simp only [Prod.mk.injEq] at hT
 intro ops o hop hg
 obtain ⟨h1,h2⟩:=zDN h
 have:=(List.getElem?_eq_some_iff.1 h2).1
 exact zLw (xs:=xs.map enc) hg hop rfl (hx.f (fun y hy=>List.mem_append_left _ hy)) (hy.f (fun y hy=>List.mem_append_right _ hy)) hT.1 hT.2 h1 (by omega) (.head _)
theorem zP1 {α:Type} {xs ys:List α} {i:Int} {a:α} {d:D} (T z p t:Nat) (enc:α→List D) (x:Operand) (h:idx xs i=some a) (hd:((enc a).all zCl,zBt Γ.P T (enc a))=(true,some d)) (hx:OkO x (.cp p i.toNat):=by trivial):
  OpV Γ (.load T x) {tn:=tnO x (.cp p i.toNat),hn:=[(p,.cow z (xs.map enc) t (ys.map enc)),(t,rE z enc ys)],out:=some d}:=by
 simp only [Prod.mk.injEq] at hd
 intro ops o hop hg
 obtain ⟨h1,h2⟩:=zDN h
 exact zMI (xs:=xs.map enc) hg hop rfl (hx.f (fun y hy=>hy)) (.head _) (.tail _ (.head _)) (by rw [List.getElem?_map,h2]; rfl) hd.1 hd.2
theorem zOR (T el t n:Nat) (x:Operand) (hx:OkO x (.cw t n):=by trivial) (hT:yP Γ.P (underlying T)=some (.slice el):=by kernel_rfl):
  OpV Γ (.call {callee:=.builtin .len,args:= #[x],argTypes:= #[T]}) {tn:=tnO x (.cw t n),out:=some (.sc (.int .i64 (n:Int)))}:=by
 intro ops o hop hg
 exact zNe hg hop rfl (hx.f (fun y hy=>hy)) hT
theorem zPN {α:Type} {xs zs rs:List α} {y0:α} (T U el e' z bytes t td q ts:Nat) (enc:α→List D) (x y:Operand) (h:app bytes xs [y0]=some zs) (hx:OkO x (.cw td xs.length):=by trivial) (hy:OkO y (.rf ts 0 1 none):=by trivial)
  (hfree:∀a,(enc a).all D.free=true:=by intro _; rfl) (hone:∀a,(enc a).all zCl=true:=by intro _; rfl) (hT:(Γ.P.underlying T,Γ.P.underlying U,zIv Γ.P el,(zHS Γ.P el).cells.size,Nat.ble Γ.m t,td==ts)=(some (.slice el),some (.slice e'),some (some (zHS Γ.P el),z,bytes),z,true,false):=by kernel_rfl):
  OpV Γ (.call {callee:=.builtin .append,args:= #[x,y],argTypes:= #[T,U]}) {tn:=tnO x (.cw td xs.length)++tnO y (.rf ts 0 1 none),hn:=[(td,.cow z (xs.map enc) q (rs.map enc)),(q,rE z enc rs),(ts,rE z enc [y0])],out:=some (.rf t 0 zs.length none),hx:=[td,ts],hw:=[(t,rE z enc zs)],fr:=[t]}:=by
 simp only [Prod.mk.injEq] at hT
 obtain ⟨h1,h2,h3,h4,h5,h6⟩:=hT
 intro ops o hop hg
 obtain ⟨rfl,q1,q2⟩:=zGr h
 have e:(xs++[y0]).length =xs.length+1:=by simp
 rw [e,rE,rE,rE,List.map_append]
 refine zJZ (xs:=xs.map enc) (ys:=[y0].map enc) (rs:=rs.map enc) (n:=xs.length) (m:=1) hg hop rfl (Nat.le_of_ble_eq_true h5) (by omega) (hx.f (fun y hy=>List.mem_append_left _ hy)) (hy.f (fun y hy=>List.mem_append_right _ hy)) (by simpa using h6) (.head _) (.tail _ (.head _)) (.tail _ (.tail _ (.head _))) (by simp) (by simp) h1 h2 h3 h4 ?_ ?_ q1 q2
 ·intro β N w ws bs hE
  refine zIk ?_ hE
  intro e he
  obtain ⟨a,_,rfl⟩:=List.mem_map.1 he
  exact hfree a
 ·intro e he
  obtain ⟨a,_,rfl⟩:=List.mem_map.1 he
  exact hone a
end
section
variable {Γ:Ctx} {fc:Code} {k:List II} {σ:St} {T:Type} {K:T→Option (D×List Ent)}
inductive Cw (t:Nat):D→D→Prop where
 |same {d:D}:Cw t d d
 |rf {n:Nat} {cap:Option Nat}:Cw t (.rf t 0 n cap) (.cw t n)
inductive CwT (t:Nat):List (Nat×D)→List (Nat×D)→Prop where
 |nil:CwT t [] []
 |cons {q:Nat} {d d':D} {l l':List (Nat×D)}:Cw t d d'→CwT t l l'→CwT t ((q,d)::l) ((q,d')::l')
theorem Cw.men {t:Nat} {d d':D} (h:Cw t d d'):d'.men=d.men:=by
 cases h<;>rfl
theorem CwT.zGU {t:Nat} {l l':List (Nat×D)} (h:CwT t l l'):zGU l'=zGU l:=by
 induction h with
 |nil=>rfl
 |cons h1 _ ih=>simp only [Im.zGU,List.flatMap_cons,h1.men] at ih ⊢; rw [ih]
theorem CwT.mem {t:Nat} {l l':List (Nat×D)} (h:CwT t l l'):∀{q:Nat} {d':D},(q,d')∈l'→∃d,(q,d)∈l∧Cw t d d':=by
 induction h with
 |nil=>intro q d' h; cases h
 |cons h1 _ ih=>
  intro q d' h
  rcases List.mem_cons.1 h with h|h
  ·cases h; exact ⟨_,by simp,h1⟩
  ·obtain ⟨d,h3,h4⟩:=ih h; exact ⟨d,by simp [h3],h4⟩
theorem Cw.rep {β:Nat→Loc} {N:Nat→Prop} {w:World} {t:Nat} {d d':D} {v:Value} (h:Cw t d d') (hr:Rep β N w true d v []):Rep β N w true d' v []:=by
 cases h with
 |same=>exact hr
 |rf=>
  simp only [Rep] at hr ⊢
  obtain ⟨h1,h2,⟨h3,_,h4,h5⟩|⟨h3,c,h4,h5,h6,_⟩⟩:=hr
  ·exact ⟨h1,h2,.inl ⟨h3,.inl ⟨h4,h5⟩⟩⟩
  ·exact ⟨h1,h2,.inr ⟨h3,c,by simpa using h4,h5,by simpa using h6⟩⟩
theorem zPI {e:Option T} (p t:Nat) {z:Nat} {xs ys:List (List D)} {tm1 tm2:List (Nat×D)} {hp:List (Nat×Ent)} (htm:CwT p tm1 tm2) (ht:(hp.map (·.1)).contains t=true)
  (hj:J Γ fc k (St.mk' tm2 ((p,.cow z xs t ys)::hp)) e K):J Γ fc k (St.mk' tm1 ((p,.row z xs)::hp)) e K:=by
 refine zEO (fun a w hr=>?_) hj
 obtain ⟨h0,β,bs,h⟩:=hr
 refine ⟨?_,β,bs,{defers:=h.defers,size:=h.size,keys:=h.keys,par:=h.par,grow:=h.grow,gh:=h.gh,quiet:=h.quiet,keep:=h.keep,hp:=?_,nodup:=h.nodup,own:=h.own,tm:=?_}⟩
 ·intro q hq
  simp only [St.mk',List.mem_append]
  exact hq
 ·obtain ⟨b1,b2,h1,⟨h2,h3,h4⟩,h5⟩:=h.hp
  exact ⟨b1,b2,h1,⟨h2,h3,.inr h4⟩,h5⟩
 ·intro q d' hd
  obtain ⟨d,h1,h2⟩:=htm.mem hd
  obtain ⟨v,h3,h4⟩:=h.tm q d h1
  exact ⟨v,h3,h2.rep h4⟩
inductive Cf (p t n:Nat):D→D→Prop where
 |same {d:D}:d.men.contains t=false→d.men.contains p=false→Cf p t n d d
 |cw:Cf p t n (.cw p n) (.rf p 0 n none)
inductive CfT (p t n:Nat):List (Nat×D)→List (Nat×D)→Prop where
 |nil:CfT p t n [] []
 |cons {q:Nat} {d d':D} {l l':List (Nat×D)}:Cf p t n d d'→CfT p t n l l'→CfT p t n ((q,d)::l) ((q,d')::l')
theorem CfT.mem {p t n:Nat} {l l':List (Nat×D)} (h:CfT p t n l l'):∀{q:Nat} {d':D},(q,d')∈l'→∃d,(q,d)∈l∧Cf p t n d d':=by
 induction h with
 |nil=>intro q d' h; cases h
 |cons h1 _ ih=>
  intro q d' h
  rcases List.mem_cons.1 h with h|h
  ·cases h; exact ⟨_,by simp,h1⟩
  ·obtain ⟨d,h3,h4⟩:=ih h; exact ⟨d,by simp [h3],h4⟩
theorem zOQ {e:Option T} (p t:Nat) {z n:Nat} {xs ys:List (List D)} {tm1 tm2:List (Nat×D)} {hp:List (Nat×Ent)} (htm:CfT p t n tm1 tm2) (hhp:(zFw hp).contains t=false∧(zFw hp).contains p=false) (hpm:Γ.m≤p)
  (hn:xs.length=n)
  (hj:J Γ fc k (St.mk' tm2 ((p,.row z xs)::hp)) e K):J Γ fc k (St.mk' tm1 ((p,.cow z xs t ys)::(t,.row z ys)::hp)) e K:=by
 refine zEO (fun a w hr=>?_) hj
 obtain ⟨h0,β,bs,h⟩:=hr
 obtain ⟨bp,bq,rfl,hE,bt,bk,rfl,hEt,hrest⟩:=h.hp
 obtain ⟨hLz,hzz,hrow⟩:=hE
 obtain ⟨hTz,hzt,hrowt⟩:=hEt
 have hkeys:=h.keys
 simp only [St.mk',List.map_cons,List.nodup_cons,List.mem_cons,not_or] at hkeys
 have hmp:∀q∈zFw hp,q≠p:=fun q hq e=>by
  subst e
  have:=hhp.2
  simp only [List.contains_eq_mem,decide_eq_false_iff_not] at this
  exact this hq
 have hus:∀q,q∈zGU tm2∨q∈zFw ((p,Ent.row z xs)::hp)→q∈(St.mk' tm2 ((p,Ent.row z xs)::hp)).us :=by
  intro q hq
  simp only [St.mk',List.mem_append]
  exact hq
 rcases hrow with ⟨hnil,rfl,hrb,hro,htn,k,hk0,hkl,hkr,hxk⟩|hrow
 ·
  obtain ⟨hn',_⟩|⟨_,ws,hO,hEs⟩:=hrowt
  ·rw [htn] at hn'; cases hn'
  obtain ⟨d1,d2,rfl,hd1,_⟩:=hEs.cut k hzt
  have hown:(β p).own =[]:=by simp [Loc.own,hnil]
  have hownt:(β t).own =[(β t).b]:=by simp [Loc.own,htn]
  have hnd:=h.nodup
  rw [hown,hownt] at hnd
  have hsubl:List.Sublist ((β t).b ::d1++bk) ([]++([]++([(β t).b]++(d1++d2++bk)))):=by
   simp only [List.nil_append,List.cons_append]
   refine List.Sublist.cons_cons _ ?_
   rw [List.append_assoc]
   exact List.Sublist.append_left (List.sublist_append_right _ _) _
  have hNS:∀b,NS Γ w ((β p).own ++([]++((β t).own ++(d1++d2++bk)))) b→NS Γ w ((β t).b ::d1++bk) b∧w.heap[b]? =w.heap[b]? :=fun b hb=>by
   refine ⟨NS.sub (fun x hx=>?_) hb,rfl⟩
   rw [hown,hownt]
   exact hsubl.subset hx
  refine ⟨hus,zFO β p (β t),(β t).b ::d1++bk,{defers:=h.defers,size:=h.size,keys:=?_,par:=fun k hk=>(zAh (by omega)).trans (h.par k hk),grow:=h.grow,gh:=h.gh,quiet:=h.quiet,keep:=h.keep,hp:=?_,nodup:=hnd.sublist hsubl,own:=fun b hb=>h.own b (by rw [hown,hownt]; exact hsubl.subset hb),tm:=?_}⟩
  ·simp only [St.mk',List.map_cons,List.nodup_cons]
   exact ⟨hkeys.1.2,hkeys.2.2⟩
  ·refine ⟨d1,bk,by simp [wW,hownt],?_,?_⟩
   ·rw [wW]
    refine ⟨hTz,hzz,.inr ⟨htn,ws.take (k*z),?_,?_⟩⟩
    ·obtain ⟨arr,e,lo,hi,u1,u2,u3,u4⟩:=hO
     refine ⟨arr,e,lo,hi,u1,u2,u3,fun j hj=>?_⟩
     simp only [List.length_take] at hj
     rw [u4 j (by omega)]
     simp
    ·rw [hxk]
     exact zU.frame hNS _ _ _ (fun _ _=>rfl) hd1
   ·exact uO.frame hNS _ _ (fun _ _=>rfl) (fun q hq=>zAh (hmp q hq)) hrest
  ·intro q d' hd
   obtain ⟨d,h1,h2⟩:=htm.mem hd
   obtain ⟨v,h3,h4⟩:=h.tm q d h1
   refine ⟨v,h3,?_⟩
   cases h2 with
   |same q1 q2=>
    refine Rep.frame hNS _ true v [] (by simp) (fun q hq=>zAh (fun e=>?_)) h4
    subst e
    simp only [List.contains_eq_mem,decide_eq_false_iff_not] at q2
    exact q2 hq
   |cw=>
    simp only [Rep,wW] at h4 ⊢
    have hmk:n=k:=by rw [←hn,hxk]; simp; omega
    obtain ⟨_,_,⟨_,⟨h5,_⟩|⟨_,h5⟩⟩|⟨hn',_⟩⟩:=h4
    ·omega
    ·refine ⟨trivial,trivial,.inr ⟨htn,n,by rw [h5,hrb,hro]; simp,Nat.le_refl _,?_,by simp⟩⟩
     rw [hTz,hmk]
     simpa using hkr
    ·rw [hnil] at hn'; cases hn'
 ·
  have hsubl:List.Sublist ((β p).own ++(bp++bk)) ((β p).own ++(bp++((β t).own ++(bt++bk)))):=by
   refine List.Sublist.append_left (List.Sublist.append_left ?_ _) _
   rw [←List.append_assoc]
   exact List.sublist_append_right _ _
  have hNS:∀b,NS Γ w ((β p).own ++(bp++((β t).own ++(bt++bk)))) b→NS Γ w ((β p).own ++(bp++bk)) b∧w.heap[b]? =w.heap[b]? :=fun b hb=>⟨NS.sub (fun x hx=>hsubl.subset hx) hb,rfl⟩
  refine ⟨hus,β,(β p).own ++(bp++bk),{defers:=h.defers,size:=h.size,keys:=?_,par:=h.par,grow:=h.grow,gh:=h.gh,quiet:=h.quiet,keep:=h.keep,hp:=?_,nodup:=h.nodup.sublist hsubl,own:=fun b hb=>h.own b (hsubl.subset hb),tm:=?_}⟩
  ·simp only [St.mk',List.map_cons,List.nodup_cons]
   exact ⟨hkeys.1.2,hkeys.2.2⟩
  ·refine ⟨bp,bk,rfl,⟨hLz,hzz,?_⟩,?_⟩
   ·rcases hrow with h'|⟨h1,ws,h2,h3⟩
    ·exact .inl h'
    ·exact .inr ⟨h1,ws,h2,zU.frame hNS _ _ _ (fun _ _=>rfl) h3⟩
   ·exact uO.frame hNS _ _ (fun _ _=>rfl) (fun _ _=>rfl) hrest
  ·intro q d' hd
   obtain ⟨d,h1,h2⟩:=htm.mem hd
   obtain ⟨v,h3,h4⟩:=h.tm q d h1
   refine ⟨v,h3,?_⟩
   cases h2 with
   |same q1 q2=>exact Rep.frame hNS _ true v [] (by simp) (fun _ _=>rfl) h4
   |cw=>
    simp only [Rep] at h4 ⊢
    obtain ⟨_,_,⟨hn',⟨h5,h6⟩|⟨h5,_⟩⟩|⟨hn',c,h5,h6,h7⟩⟩:=h4
    ·exact ⟨trivial,trivial,.inl ⟨hn',trivial,h5,h6⟩⟩
    ·rcases hrow with ⟨_,hx0,_⟩|⟨hn2,_⟩
     ·rw [hx0] at hn; simp at hn; omega
     ·rw [hn'] at hn2; cases hn2
    ·exact ⟨trivial,trivial,.inr ⟨hn',c,by simpa using h5,h6,by simpa using h7,by simp⟩⟩
end
end Go.Im

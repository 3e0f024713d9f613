import Derived.Test.YtlagdfkkokgakaaDoorImC
import Derived.Laws.MakeOwn
import Derived.Laws.BytesString
import Derived.ChangeArms
import Derived.Carry
set_option linter.unusedVariables false
namespace Go.Im
open Go
section
variable {Γ:Ctx} {fc:Code} {k:List II} {σ:St} {T:Type} {K:T→Option (D×List Ent)}
theorem zA.free {β:Nat→Loc} {N:Nat→Prop} {w:World}:∀{ds:List D} {vs:List Value} {bs:List Nat},ds.all D.free=true→zA β N w true ds vs bs→bs=[]
 |[],vs,bs,_,h=>by simp only [zA] at h; exact h.2
 |d::ds,vs,bs,hf,h=>by
  simp only [List.all_cons,Bool.and_eq_true] at hf
  simp only [zA] at h
  obtain ⟨v,vs',b1,b2,rfl,rfl,h3,h4⟩:=h
  rw [Rep.free hf.1 h3,zA.free hf.2 h4]
  rfl
theorem Emb.free {hn:List (Nat×Ent)} {ds ds':List D} {ts:List Nat} (h:Emb hn ds ds' ts):ds.all D.free=true:=by
 induction h with
 |nil=>rfl
 |keep hd _ ih=>
  rename_i d _ _ _ _
  simp only [List.all_cons,ih,Bool.and_true]
  cases d<;>simp_all [D.nest,D.free]
 |nilsl _ _ _ ih=>simpa [D.free] using ih
 |move _ _ _ _ ih=>simpa [D.free] using ih
theorem Emb.lengths {hn:List (Nat×Ent)} {ds ds':List D} {ts:List Nat} (h:Emb hn ds ds' ts):ds'.length=ds.length:=by
 induction h with
 |nil=>rfl
 |keep _ _ ih=>simp [ih]
 |nilsl _ _ _ ih=>simp [ih]
 |move _ _ _ _ ih=>simp [ih]
theorem Emb.wI {hn:List (Nat×Ent)} {ds ds':List D} {ts:List Nat} (h:Emb hn ds ds' ts):D.men.wI ds'=[]:=by
 induction h with
 |nil=>rfl
 |keep hd _ ih=>
  rename_i d _ _ _ _
  cases d<;>simp_all [D.nest,D.men,D.men.wI]
 |nilsl _ _ _ ih=>simpa [D.men,D.men.wI] using ih
 |move _ _ _ _ ih=>simpa [D.men,D.men.wI] using ih
theorem zD3 {l:List Ent} (h:l.flatMap Ent.men=[]):∀e∈l,e.men=[]:=fun e he=>List.eq_nil_iff_forall_not_mem.2 (fun t ht=>by
 have:t∈l.flatMap Ent.men:=List.mem_flatMap.2 ⟨e,he,ht⟩
 rw [h] at this
 simp at this)
theorem zAI {e:Option T} (t:Nat) {cs cs':List D} {ts:List Nat} (hl:lk σ.hp t=some (.box cs)) (he:Emb (σ.hp.filter (fun x=>x.1 !=t)) cs cs' ts)
  (hj:J Γ fc k ⟨σ.tm,(t,.box cs')::(σ.hp.filter (fun x=>x.1 !=t)).filter (fun x=> !ts.contains x.1),σ.us⟩ e K):J Γ fc k σ e K:=by
 refine uO (fun a w hr=>?_) hj
 obtain ⟨h0,β,bs,h⟩:=hr
 obtain ⟨b1,bk,p,hE,hrest⟩:=yB.take h.hp h.keys (yY hl)
 obtain ⟨hnil,hz,ws,hO,hone,hcs⟩:=hE
 have hb1:=zA.free he.free hcs
 subst hb1
 have hkf:((σ.hp.filter (fun x=>x.1 !=t)).map (·.1)).Nodup :=List.Nodup.sublist (List.Sublist.map _ List.filter_sublist) h.keys
 obtain ⟨c1,ck,q1,q2,q3⟩:=Emb.rep he hrest hkf (fun x hx _=>hx) hcs
 have hp:bs.Perm ((β t).own ++(c1++ck)):=by
  refine p.trans (List.Perm.append_left _ ?_)
  simpa using q1
 have hNS:∀b,NS Γ w bs b→NS Γ w ((β t).own ++(c1++ck)) b:=fun b hb=>NS.sub (fun x hx=>hp.mem_iff.2 hx) hb
 refine ⟨?_,β,(β t).own ++(c1++ck),{defers:=h.defers,size:=h.size,keys:=?_,par:=h.par,grow:=h.grow,gh:=h.gh,quiet:=h.quiet,keep:=h.keep,hp:=⟨c1,ck,rfl,⟨hnil,by rw [he.lengths]; exact hz,ws,hO,hone,?_⟩,?_⟩,nodup:=hp.nodup_iff.1 h.nodup,own:=fun b hb=>h.own b (hp.mem_iff.2 hb),tm:=?_}⟩
 ·intro t' ht'
  rcases ht' with ht'|ht'
  ·exact h0 t' (.inl ht')
  ·simp only [uD,List.flatMap_cons,Ent.men,he.wI,List.mem_append,List.mem_cons,List.not_mem_nil,or_false] at ht'
   rcases ht' with rfl|ht'
   ·exact h0 t' (.inr (List.mem_flatMap.2 ⟨_,yY hl,by simp⟩))
   ·obtain ⟨x,hx,hx'⟩:=List.mem_flatMap.1 ht'
    exact h0 t' (.inr (List.mem_flatMap.2 ⟨x,(List.mem_filter.1 (List.mem_filter.1 hx).1).1,hx'⟩))
 ·simp only [List.map_cons,List.nodup_cons]
  refine ⟨fun hin=>?_,List.Nodup.sublist (List.Sublist.map _ List.filter_sublist) hkf⟩
  obtain ⟨x,hx,hx'⟩:=List.mem_map.1 hin
  have:=(List.mem_filter.1 (List.mem_filter.1 hx).1).2
  simp [hx'] at this
 ·exact (zA.frame (fun b hb=>⟨hNS b hb,rfl⟩) cs' false ws c1 (fun _ _=>rfl) (fun _ _=>rfl) q2).up
 ·exact yB.frame (fun b hb=>⟨hNS b hb,rfl⟩) _ _ (fun _ _=>rfl) (fun _ _=>rfl) q3
 ·intro t' d hd
  obtain ⟨v,h1,h2⟩:=h.tm t' d hd
  exact ⟨v,h1,Rep.frame (fun b hb=>⟨hNS b hb,rfl⟩) d true v [] (by simp) (fun _ _=>rfl) h2⟩
theorem uR {e:Option T} (t:Nat) {cs cs':List D} {es:List (Nat×Ent)} (hl:lk σ.hp t=some (.box cs)) (hn:NmL cs cs' es) (hlen:cs'.length=cs.length) (hnd:wO (es.map (·.1))=true)
  (hf:es.all (fun x=> !σ.us.contains x.1&&Nat.ble Γ.m x.1)=true)
  (hj:J Γ fc k ⟨σ.tm,(t,.box cs')::(es++σ.hp.filter (fun x=>x.1 !=t)),es.map (·.1)++σ.us⟩ e K):J Γ fc k σ e K:=by
 refine uO (fun a w hr=>?_) hj
 obtain ⟨h0,β,bs,h⟩:=hr
 obtain ⟨b1,bk,p,hE,hrest⟩:=yB.take h.hp h.keys (yY hl)
 obtain ⟨hnil,hz,ws,hO,hone,hcs⟩:=hE
 have hnd':=wE hnd
 have hfr:∀i∈es.map (·.1),i∉σ.us∧Γ.m≤i:=fun i hi=>by
  obtain ⟨x,hx,rfl⟩:=List.mem_map.1 hi
  have:=List.all_eq_true.1 hf x hx
  simp only [Bool.and_eq_true,Bool.not_eq_eq_eq_not,Bool.not_true,List.contains_eq_mem,decide_eq_false_iff_not] at this
  exact ⟨this.1,Nat.le_of_ble_eq_true this.2⟩
 obtain ⟨β1,g1,g2,g3⟩:=NmL.rep β hn hnd' hcs
 have htu:t∈σ.us:=h0 t (.inr (List.mem_flatMap.2 ⟨_,yY hl,by simp⟩))
 have hβt:β1 t=β t:=g1 t (fun hi=>(hfr t hi).1 htu)
 have hβu:∀t'∈σ.us,β1 t'=β t':=fun t' ht'=>g1 t' (fun hi=>(hfr t' hi).1 ht')
 have hmen:=NmL.men hn
 refine ⟨?_,β1,(β t).own ++([]++(b1++bk)),{defers:=h.defers,size:=h.size,keys:=?_,par:=fun q hq=>?_,grow:=h.grow,gh:=h.gh,quiet:=h.quiet,keep:=h.keep,hp:=?_,nodup:=?_,own:=fun b hb=>h.own b (p.mem_iff.2 (by simpa using hb)),tm:=?_}⟩
 ·intro t' ht'
  rcases ht' with ht'|ht'
  ·exact List.mem_append_right _ (h0 t' (.inl ht'))
  ·simp only [uD,List.flatMap_cons,List.flatMap_append,List.mem_append,Ent.men,List.mem_cons] at ht'
   rcases ht' with (rfl|ht')|ht'|ht'
   ·exact List.mem_append_right _ htu
   ·exact List.mem_append_left _ (hmen.1 t' ht')
   ·obtain ⟨x,hx,hx'⟩:=List.mem_flatMap.1 ht'
    have hx2:t'∈x.1::x.2.men:=hx'
    rw [hmen.2 x hx] at hx2
    simp at hx2
    subst hx2
    exact List.mem_append_left _ (List.mem_map.2 ⟨x,hx,rfl⟩)
   ·obtain ⟨x,hx,hx'⟩:=List.mem_flatMap.1 ht'
    exact List.mem_append_right _ (h0 t' (.inr (List.mem_flatMap.2 ⟨x,(List.mem_filter.1 hx).1,hx'⟩)))
 ·simp only [List.map_cons,List.map_append,List.nodup_cons]
  refine ⟨?_,List.nodup_append.2 ⟨hnd',List.Nodup.sublist (List.Sublist.map _ List.filter_sublist) h.keys,?_⟩⟩
  ·intro hin
   rcases List.mem_append.1 hin with hin|hin
   ·exact (hfr t hin).1 htu
   ·obtain ⟨x,hx,hx'⟩:=List.mem_map.1 hin
    have:=(List.mem_filter.1 hx).2
    simp [hx'] at this
  ·intro i hi j hj' hij
   subst hij
   obtain ⟨x,hx,hx'⟩:=List.mem_map.1 hj'
   exact (hfr i hi).1 (h0 i (.inr (List.mem_flatMap.2 ⟨x,(List.mem_filter.1 hx).1,by simp [hx']⟩)))
 ·rw [←h.par q hq]
  refine g1 q (fun hi=>?_)
  have:=(hfr q hi).2
  omega
 ·have hNS:∀b,NS Γ w bs b→NS Γ w ((β t).own ++([]++(b1++bk))) b:=fun b hb=>NS.sub (fun x hx=>p.mem_iff.2 (by simpa using hx)) hb
  refine ⟨[],b1++bk,by rw [hβt],?_,yB.app ?_ ?_⟩
  ·rw [hβt]
   exact ⟨hnil,by rw [hlen]; exact hz,ws,hO,hone,zA.frame (fun b hb=>⟨hNS b hb,rfl⟩) cs' true ws [] (by simp) (fun _ _=>rfl) g2⟩
  ·exact yB.frame (fun b hb=>⟨hNS b hb,rfl⟩) _ _ (fun _ _=>rfl) (fun _ _=>rfl) g3
  ·refine yB.frame (fun b hb=>⟨hNS b hb,rfl⟩) _ _ (fun _ _=>rfl) (fun t' ht'=>hβu t' ?_) hrest
   obtain ⟨x,hx,hx'⟩:=List.mem_flatMap.1 ht'
   exact h0 t' (.inr (List.mem_flatMap.2 ⟨x,(List.mem_filter.1 hx).1,hx'⟩))
 ·have:=p.nodup_iff.1 h.nodup
  simpa using this
 ·have hNS:∀b,NS Γ w bs b→NS Γ w ((β t).own ++([]++(b1++bk))) b:=fun b hb=>NS.sub (fun x hx=>p.mem_iff.2 (by simpa using hx)) hb
  intro t' d hd
  obtain ⟨v,h1,h2⟩:=h.tm t' d hd
  exact ⟨v,h1,Rep.frame (fun b hb=>⟨hNS b hb,rfl⟩) d true v [] (by simp) (fun q hq=>hβu q (h0 q (.inl (List.mem_flatMap.2 ⟨_,hd,hq⟩)))) h2⟩
end
end Go.Im
set_option linter.unusedVariables false
namespace Go.Im
open Go
def mk {α:Type} (bytes:Nat) (n:Int) (a:α):Option (List α):=if 0≤n∧bytes*n.toNat≤281474976710656∧n≤9223372036854775807 then some (List.replicate n.toNat a) else none
section
variable {Γ:Ctx} {ops:Array Oper} {o:Oper}
theorem zH.cons {β:Nat→Loc} {N:Nat→Prop} {w:World} {e:List D} {xs:List (List D)} {w1 w2:List Value} {b1 b2:List Nat} (h1:zA β N w false e w1 b1) (h2:zH β N w xs w2 b2):zH β N w (e::xs) (w1++w2) (b1++b2):=by
 simp only [zH]
 exact ⟨w1,w2,b1,b2,rfl,rfl,h1,h2⟩
theorem zH.len {β:Nat→Loc} {N:Nat→Prop} {w:World} {z:Nat} {xs:List (List D)} {ws:List Value} {bs:List Nat} (h:zH β N w xs ws bs) (hz:∀x∈xs,x.length=z):ws.length=xs.length*z:=h.length hz
theorem zAw {c:Cert} {en:Ent} {x y:Operand} {T:TypeId} {xs:List (List D)} {e es':List D} {d:D} {t i j z:Nat} {ts:List Nat} {hm:List (Nat×Ent)} (hg:o.guard=none) (hop:o.op= .store T x y) (hds:o.dst=none)
  (hc:c= {tn:=c.tn,hn:=c.hn,hx:=t::ts,hw:=[(t,.row z (xs.set i (e.take j++es'++e.drop (j+(cellsD d).length))))]}) (hx:OpF c x (.pt t i j)) (hy:OpF c y d)
  (hd:(cellsD d).all D.cell=true) (hz:tO Γ.P T=some (cellsD d).length) (hj:j+(cellsD d).length ≤z) (hh:(t,en)∈c.hn) (hen:∀β N w L bs,xS β N w L bs en→xS β N w L bs (.row z xs)) (he:xs[i]? =some e) (hem:Emb hm (cellsD d) es' ts) (hmn:∀q∈hm,q∈c.hn∧q.1≠t):Valid Γ ops o c:=by
 intro σ a w Q hdst hn ⟨h0,β,bs,hr⟩
 have hwt:Region.wanted o (yielded ops a.tmps)=true:=by simp [Region.wanted,hg]
 rw [if_pos hwt]
 have h1:=OpF.rep hx hn hr
 have h2:=OpF.rep hy hn hr
 obtain ⟨h3,h4⟩:=vT hd h2
 simp only [Rep] at h1
 obtain ⟨b1,b2,hp,hE0,hrest⟩:=yB.take hr.hp hr.keys (hn.2.1 _ hh)
 obtain ⟨hLz,hzz,hrow⟩:=hen _ _ _ _ _ hE0
 rcases hrow with ⟨hnil,_⟩|⟨hnil,ws,hO,hE⟩
 ·rw [h1.2.2.1] at hnil; cases hnil
 have hown:(β t).own =[(β t).b]:=by simp [Loc.own,hnil]
 rw [hown] at hp
 have hkf:((σ.hp.filter (fun x=>x.1 !=t)).map (·.1)).Nodup :=List.Nodup.sublist (List.Sublist.map _ List.filter_sublist) hr.keys
 obtain ⟨c1,ck,k1,k2,k3⟩:=Emb.rep hem hrest hkf (fun q hq _=>List.mem_filter.2 ⟨hn.2.1 _ (hmn q hq).1,by simpa using (hmn q hq).2⟩) h3
 have hvl:=h3.length
 have hws:=hE.length hzz
 have hlt:i<xs.length:=(List.getElem?_eq_some_iff.1 he).1
 have hiz:i*z+z≤ws.length:=by
  rw [hws,←Nat.succ_mul]; exact Nat.mul_le_mul_right _ hlt
 have hrun:(execOp a.eval o).run Γ.P w= .ok .skip (putCells w (β t).b ((β t).o +(i*z+j)) (a.eval y).cells.toList):=by
  have e:execOp a.eval o=(do Instr.storeAt T (a.eval x) (a.eval y); pure .skip):=by simp [execOp,hop]
  rw [e]
  refine (run_bind_ok (a:=()) (w':=putCells w (β t).b ((β t).o +(i*z+j)) (a.eval y).cells.toList) ?_).trans rfl
  rw [h1.2.2.2,hLz,Nat.add_assoc]
  obtain ⟨arr,e,lo,hi,g1,g2,g3,g4⟩:=hO
  refine uN (r:=ws.length) (ws:=ws) hz (by rw [hvl]) h4 ⟨arr,e,lo,hi,g1,g2,?_,g4⟩ (by omega)
  rcases Nat.eq_zero_or_pos ws.length with e0|e0
  ·omega
  ·have:=g4 (ws.length-1) (by omega)
   have:=(Array.getElem?_eq_some_iff.1 this).1
   omega
 unfold Oper.wp
 rw [hrun,Oper.upon_skip]
 have hheap:(∀b',b'≠(β t).b →(putCells w (β t).b ((β t).o +(i*z+j)) (a.eval y).cells.toList).heap[b']? =w.heap[b']?)∧(putCells w (β t).b ((β t).o +(i*z+j)) (a.eval y).cells.toList).heap.size =w.heap.size:=by
  obtain ⟨arr,e,lo,hi,g1,g2,g3,g4⟩:=hO
  exact (zM g1).2
 obtain ⟨q1,q2,q3,eb,hs2,hs1,hs3⟩:=hE.get hzz he
 obtain ⟨p1,p2,e1,hs4,hs5⟩:=hs2.split j
 obtain ⟨p3,p4,e2,hs6,hs7⟩:=hs5.split (cellsD d).length
 have hp2:bs.Perm (((β t).b ::(b1++c1))++ck):=by
  exact hp.trans (List.Perm.cons _ (by show (b1++b2).Perm ((b1++c1)++ck); rw [List.append_assoc]; exact List.Perm.append_left _ k1))
 have hnd:=hp2.nodup_iff.1 hr.nodup
 simp only [List.cons_append,List.nodup_cons,List.mem_append,not_or] at hnd
 have hsub:∀b,b∈q1++((p1++c1++p4)++q3)→b∈b1++c1:=fun b hb=>by
  rw [eb,e1,e2]
  simp only [List.mem_append] at hb ⊢
  rcases hb with h|((h|h)|h)|h<;>simp [h]
 have hndb:(b1++c1).Nodup :=(List.nodup_append.1 hnd.2).1
 have hnd1:(q1++((p1++c1++p4)++q3)).Nodup :=by
  have hperm:(q1++((p1++c1++p4)++q3)).Perm ((q1++(p1++p4)++q3)++c1):=by
   simp only [List.append_assoc]
   refine List.Perm.append_left _ (List.Perm.append_left _ ?_)
   rw [←List.append_assoc p4 q3 c1]
   exact List.perm_append_comm
  refine hperm.nodup_iff.2 (List.Nodup.sublist ?_ hndb)
  refine List.Sublist.append_right ?_ _
  rw [eb,e1,e2]
  refine List.Sublist.append_right (List.Sublist.append_left ?_ _) _
  exact List.Sublist.append_left (List.sublist_append_right _ _) _
 have hbin:∀b∈b1++c1,b≠(β t).b :=fun b hb e=>by
  subst e
  rcases List.mem_append.1 hb with h|h
  ·exact hnd.1.1.1 h
  ·exact hnd.1.1.2 h
 refine Rel.step (β1:=β) (bk:=ck) (br:=(β t).b ::(b1++c1)) (bn:=(β t).b ::(q1++((p1++c1++p4)++q3))) h0 hr hdst (by rw [hc]; simp) (by rw [hc]; simp) hp2 ?_ ?_ ?_ (fun _ _=>rfl) (fun _ _=>rfl) ?_ ?_ ?_ ?_ (zP _ _ _ _)
 ·rw [hc,←tJ]; exact k3
 ·rw [hheap.2]; exact Nat.le_refl _
 ·intro b _ hb
  exact hheap.1 b (fun e=>hb (by simp [e]))
 ·exact List.nodup_cons.2 ⟨fun h=>hbin _ (hsub _ h) rfl,hnd1⟩
 ·intro b hb
  rw [hheap.2]
  have:b∈(β t).b ::(b1++c1):=by
   rcases List.mem_cons.1 hb with rfl|hb
   ·simp
   ·exact List.mem_cons_of_mem _ (hsub b hb)
  exact ⟨.inl this,(hr.own b (hp2.mem_iff.2 (List.mem_append_left _ this))).1⟩
 ·rw [hc]
  have hfr:∀b,(NS Γ w bs b→NS Γ (putCells w (β t).b ((β t).o +(i*z+j)) (a.eval y).cells.toList) ((β t).b ::(q1++((p1++c1++p4)++q3))++ck) b∧(putCells w (β t).b ((β t).o +(i*z+j)) (a.eval y).cells.toList).heap[b]? =w.heap[b]?):=by
   rintro b ⟨u1,u2,u3⟩
   have hb1:b≠(β t).b :=fun e=>u3 (hp2.mem_iff.2 (by simp [e]))
   refine ⟨⟨u1,by rw [hheap.2]; exact u2,?_⟩,hheap.1 b hb1⟩
   intro hb
   refine u3 (hp2.mem_iff.2 ?_)
   rcases List.mem_append.1 hb with hb|hb
   ·rcases List.mem_cons.1 hb with hb|hb
    ·exact List.mem_append_left _ (by simp [hb])
    ·exact List.mem_append_left _ (List.mem_cons_of_mem _ (hsub b hb))
   ·exact List.mem_append_right _ hb
  have hfb:∀b∈q1++((p1++c1++p4)++q3),(putCells w (β t).b ((β t).o +(i*z+j)) (a.eval y).cells.toList).heap[b]? =w.heap[b]? :=fun b hb=>hheap.1 b (hbin b (hsub b hb))
  have hel:e.length=z:=hzz e (List.mem_of_getElem? he)
  have hel':(e.take j++es'++e.drop (j+(cellsD d).length)).length =z:=by
   have:=hem.lengths
   simp; omega
  refine ⟨q1++((p1++c1++p4)++q3),[],by rw [hown]; simp,⟨hLz,?_,.inr ⟨hnil,ws.take (i*z+j)++(a.eval y).cells.toList ++ws.drop (i*z+j+(a.eval y).cells.toList.length),?_,?_⟩⟩,rfl⟩
  ·intro q hq
   rcases List.mem_or_eq_of_mem_set hq with hq|rfl
   ·exact hzz q hq
   ·exact hel'
  ·obtain ⟨arr,e',lo,hi,g1,g2,g3,g4⟩:=hO
   have hle:(β t).o +ws.length≤arr.size:=by
    rcases Nat.eq_zero_or_pos ws.length with e0|e0
    ·omega
    ·have:=g4 (ws.length-1) (by omega)
     have:=(Array.getElem?_eq_some_iff.1 this).1
     omega
   obtain ⟨arr',e'',lo',hi',u1,u2,u3,u4⟩:=zAD (r:=ws.length) (vs:=(a.eval y).cells.toList) (j:=i*z+j) ⟨arr,e',lo,hi,g1,g2,hle,g4⟩ (by rw [hvl]; omega) (Nat.le_refl _)
   refine ⟨arr',e'',lo',hi',u1,u2,?_,u4⟩
   have:=(zM (off:=(β t).o +(i*z+j)) (vs:=(a.eval y).cells.toList) g1).1
   rw [this] at u1
   cases u1
   rw [zT]
   exact g3
  ·have m1:=zH.frame (β':=β) hfr _ _ _ (fun b hb=>hfb b (by simp [hb])) hs1
   have m2:=zA.vC (β':=β) hfr _ _ _ (fun b hb=>hfb b (by simp [hb])) hs4
   have m3:=zA.vC (β':=β) hfr _ _ _ (fun b hb=>hfb b (by simp [hb])) k2
   have m4:=zA.vC (β':=β) hfr _ _ _ (fun b hb=>hfb b (by simp [hb])) hs7
   have m5:=zH.frame (β':=β) hfr _ _ _ (fun b hb=>hfb b (by simp [hb])) hs3
   have key:=m1.append (zH.cons ((m2.append m3).append m4) m5)
   have exs:xs.set i (e.take j++es'++e.drop (j+(cellsD d).length))=xs.take i++(e.take j++es'++(e.drop j).drop (cellsD d).length)::xs.drop (i+1):=by
    rw [List.set_eq_take_append_cons_drop,if_pos hlt,List.drop_drop]
   have ews:ws.take (i*z+j)++(a.eval y).cells.toList ++ws.drop (i*z+j+(a.eval y).cells.toList.length)=
     ws.take (i*z)++(((((ws.drop (i*z)).take z).take j++(a.eval y).cells.toList)++((((ws.drop (i*z)).take z).drop j).drop (cellsD d).length))++ws.drop ((i+1)*z)):=by
    rw [←hvl]
    have t1:ws.take (i*z+j)=ws.take (i*z)++((ws.drop (i*z)).take z).take j:=by
     rw [List.take_add,List.take_take,Nat.min_eq_left (by omega)]
    have t2:ws.drop (i*z+j+(a.eval y).cells.toList.length)=((((ws.drop (i*z)).take z).drop j).drop (a.eval y).cells.toList.length)++ws.drop ((i+1)*z):=by
     have u1:ws.drop ((i+1)*z)=((ws.drop (i*z)).drop (j+(a.eval y).cells.toList.length)).drop (z-(j+(a.eval y).cells.toList.length)):=by
      rw [List.drop_drop,List.drop_drop]; congr 1; rw [Nat.add_mul]; omega
     have u2:(((ws.drop (i*z)).take z).drop j).drop (a.eval y).cells.toList.length =((ws.drop (i*z)).drop (j+(a.eval y).cells.toList.length)).take (z-(j+(a.eval y).cells.toList.length)):=by
      rw [List.drop_drop,List.drop_take]
     rw [u1,u2,List.take_append_drop,List.drop_drop,Nat.add_assoc]
    rw [t1,t2]
    simp only [List.append_assoc]
   rw [exs,ews]
   simpa using key
 ·rw [hc]; simp
theorem zA8 {c:Cert} {x y:Operand} {T:TypeId} {xs:List (List D)} {e es':List D} {d:D} {t i j z:Nat} {ts:List Nat} {hm:List (Nat×Ent)} (hg:o.guard=none) (hop:o.op= .store T x y) (hds:o.dst=none)
  (hc:c= {tn:=c.tn,hn:=c.hn,hx:=t::ts,hw:=[(t,.row z (xs.set i (e.take j++es'++e.drop (j+(cellsD d).length))))]}) (hx:OpF c x (.pt t i j)) (hy:OpF c y d)
  (hd:(cellsD d).all D.cell=true) (hz:tO Γ.P T=some (cellsD d).length) (hj:j+(cellsD d).length ≤z) (hh:(t,.row z xs)∈c.hn) (he:xs[i]? =some e) (hem:Emb hm (cellsD d) es' ts) (hmn:∀q∈hm,q∈c.hn∧q.1≠t):Valid Γ ops o c:=
 zAw hg hop hds hc hx hy hd hz hj hh (fun _ _ _ _ _ h=>h) he hem hmn
theorem tQ {c:Cert} {x y:Operand} {T:TypeId} {α:Type} {enc:α→List D} {xs:List α} {a b:α} {ix:Int} {es':List D} {d:D} {t j z:Nat} {ts:List Nat} {hm:List (Nat×Ent)} (h:idx xs ix=some a) (hg:o.guard=none) (hop:o.op= .store T x y) (hds:o.dst=none)
  (hc:c= {tn:=c.tn,hn:=c.hn,hx:=t::ts,hw:=[(t,.row z ((xs.set ix.toNat b).map enc))]}) (hx:OpF c x (.pt t ix.toNat j)) (hy:OpF c y d) (hb:enc b=(enc a).take j++es'++(enc a).drop (j+(cellsD d).length))
  (hd:(cellsD d).all D.cell=true) (hz:tO Γ.P T=some (cellsD d).length) (hj:j+(cellsD d).length ≤z) (hh:(t,.row z (xs.map enc))∈c.hn) (hem:Emb hm (cellsD d) es' ts) (hmn:∀q∈hm,q∈c.hn∧q.1≠t):Valid Γ ops o c:=by
 obtain ⟨h1,h2⟩:=vH h
 refine zA8 (e:=enc a) (es':=es') hg hop hds ?_ hx hy hd hz hj hh (by rw [List.getElem?_map,h2]; rfl) hem hmn
 rw [List.map_set,hb] at hc
 exact hc
end
section
variable {Γ:Ctx} {fc:Code} {k:List II} {σ:St} {T:Type} {K:T→Option (D×List Ent)}
end
end Go.Im
set_option linter.unusedVariables false
namespace Go.Im
open Go
def b2s (xs:List Int):ByteArray:=xs.foldl (fun r n=>r.push (UInt8.ofNat n.toNat)) ByteArray.empty
theorem kU {β:Nat→Loc} {N:Nat→Prop} {w:World}:∀{xs:List Int} {ws:List Value} {bs:List Nat},zH β N w (xs.map eU8) ws bs→ws=xs.map (Value.int .u8)
 |[],ws,bs,h=>by simp only [List.map_nil,zH] at h; rw [h.1]; rfl
 |x::xs,ws,bs,h=>by
  simp only [List.map_cons,zH] at h
  obtain ⟨w1,w2,b1,b2,rfl,rfl,h3,h4⟩:=h
  simp only [eU8,zA,Rep] at h3
  obtain ⟨v,vs,c1,c2,rfl,rfl,⟨rfl,_⟩,rfl,_⟩:=h3
  rw [kU h4]
  rfl
section
variable {Γ:Ctx} {ops:Array Oper} {o:Oper}
theorem zCF {P:Program} {w:World} {S Dd e:TypeId} {ad:Option Addr} {n cp:Nat} {xs:List Int} (hs:P.underlying S=some (.slice e)) (he:P.underlying e=some (.int .u8)) (hd:P.underlying Dd=some .string) (hn:xs.length=n)
  (h:(ad=none∧n=0)∨n=0∨∃b off,ad=some ⟨b,off,none⟩∧Has w b off (xs.map (Value.int .u8))):(convert S Dd (.slice ad n cp)).run P w= .ok (.string (b2s xs)) w:=by
 rw [run_convert_bytes_string w S Dd e ad n cp hs he hd]
 by_cases h0:n=0
 ·subst h0
  have:xs=[]:=List.length_eq_zero_iff.1 hn
  subst this
  cases ad with
  |none=>rfl
  |some a=>
   have:=run_bytesToString (P:=P) w a 0 cp [] (by simp [loadCells,loadCellsFrom,Sem.run_pure])
   exact this
 ·rcases h with ⟨_,h⟩|h|⟨b,off,rfl,h⟩
  ·exact absurd h h0
  ·exact absurd h h0
  ·exact run_bytesToString w ⟨b,off,none⟩ n cp xs (run_loadCells h (by simp [hn]))
theorem zCl {c:Cert} {x:Operand} {S Dd e:TypeId} {t:Nat} {cap:Option Nat} {xs:List Int} (hg:o.guard=none) (hop:o.op= .convert S Dd x) (hc:c= {tn:=c.tn,hn:=c.hn,out:=some (.sc (.string (b2s xs)))})
  (hx:OpF c x (.rf t 0 xs.length cap)) (hh:(t,.row 1 (xs.map eU8))∈c.hn) (hs:Γ.P.underlying S=some (.slice e)) (he:Γ.P.underlying e=some (.int .u8)) (hd:Γ.P.underlying Dd=some .string):Valid Γ ops o c:=by
 rw [hc]
 refine yF hg rfl rfl fun β bs σ a w hn hr=>?_
 have h1:=OpF.rep (c:=c) hx ⟨fun y hy=>hn.1 y hy,fun y hy=>hn.2.1 y hy,by rw [hc]; simp⟩ hr
 obtain ⟨b1,hE,_,_⟩:=yB.get hr.hp (hn.2.1 _ hh)
 obtain ⟨wx,hD,hEx,_⟩:=zAH h1 hE (by simp)
 have hwx:=kU hEx
 subst hwx
 have hv:∃ad cp,a.eval x= .slice ad xs.length cp∧((ad=none∧xs.length=0)∨xs.length=0∨∃b off,ad=some ⟨b,off,none⟩∧Has w b off (xs.map (Value.int .u8))):=by
  rcases hD with ⟨q1,q2,_,_⟩|⟨b,off,cp,q1,_,_,q2,_⟩
  ·exact ⟨none,0,by rw [q1,q2],.inl ⟨rfl,q2⟩⟩
  ·exact ⟨_,cp,q1,.inr (.inr ⟨b,off,rfl,q2.has⟩)⟩
 obtain ⟨ad,cp,h2,h3⟩:=hv
 refine ⟨.string (b2s xs),vD (s:=convert S Dd (a.eval x)) (by simp [execOp,hop]) ?_,fun d hd'=>by cases hd'; simp [Rep]⟩
 rw [h2]
 exact zCF hs he hd rfl h3
section
variable {Γ:Ctx} {ops:Array Oper} {o:Oper}
end
theorem zDA {t:Nat} {hm:List (Nat×Ent)} (h:hm.all (fun q=>q.1 !=t)=true):∀q∈hm,q.1≠t:=fun q hq=>by simpa using List.all_eq_true.1 h q hq
theorem zDR {fc:Code} {p i:Nat} {c:Cert} {op:Op} (h:(opAt fc p i).map (fun o=>(o.op,o.guard,o.dst))=some (op,none,none)) (hv:∀ops o,o.op=op→o.guard=none→o.dst=none→Valid Γ ops o c):
  ∀id ops draw,sub fc p= .region id ops draw→∀o,ops[i]? =some o→Valid Γ ops o c:=by
 intro id ops draw hs o ho
 have e:opAt fc p i=some o:=by unfold opAt; rw [hs]; exact ho
 rw [e] at h
 simp at h
 exact hv ops o h.1 h.2.1 h.2.2
def zDl (c:Cert) (x:Option Operand) (dflt:Nat) (n:Int):Prop:=
 match x with
 |none=>n=(dflt:Int)
 |some x=>∃k,OpF c x (.sc (.int k n))
theorem zDl.f {c:Cert} {x:Option Operand} {dflt:Nat} {n:Int} (h:zDl c x dflt n) (h0:0≤n):zCf c x dflt n.toNat:=by
 cases x with
 |none=>simp only [zDl] at h; simp only [zCf]; omega
 |some x=>
  obtain ⟨k,hk⟩:=h
  refine ⟨k,?_⟩
  rw [Int.toNat_of_nonneg h0]
  exact hk
theorem zDs {c:Cert} {x:Operand} {T:TypeId} {lo hi:Option Operand} {s r:ByteArray} {l h:Int} (hh:zDn s l h=some r) (hg:o.guard=none) (hop:o.op= .slice T x lo hi none)
  (hc:c= {tn:=c.tn,out:=some (.sc (.string r))}) (hx:OpF c x (.sc (.string s))) (h1:zDl c lo 0 l) (h2:zDl c hi s.size h) (hT:zK Γ.P (underlying T)=some .string):Valid Γ ops o c:=by
 unfold zDn at hh
 split at hh
 ·rename_i q
  cases hh
  exact zA5 hg hop hc hx hT (h1.f q.1) (h2.f (by omega)) (by omega) (by omega)
 ·cases hh
end
end Go.Im
set_option linter.unusedVariables false
namespace Go.Im
open Go
theorem kE {α:Type} {enc enc':α→List D} (h:∀a,D.ro.roC (enc a)=enc' a) (xs:List α):D.ro.roE (xs.map enc)=xs.map enc':=by
 induction xs with
 |nil=>rfl
 |cons x xs ih=>simp only [List.map_cons,D.ro.roE,ih,h]
section
variable {Γ:Ctx} {ops:Array Oper} {o:Oper}
end
end Go.Im
set_option linter.unusedVariables false
namespace Go.Im
open Go
section
variable {H:Type} {enc:TypeId×Value→H} {P:Program} {W:World} {sp:Nat→Bool} {held:Bool}
def Reads (enc:TypeId×Value→H) (P:Program) (W:World) (t:TypeId) {α:Type} (ec:α→List D) (ok:α→Prop):Prop:=
 ∀(fuel:Nat) (cs:List Value) (x:DataW H×List MemPlace),DataW.trod enc P W 0 (fun _=>true) true fuel t cs=some x→∃a:α,ok a∧∀β:Nat→Im.Loc,zA β (fun b=>b<W.heap.size) W false (ec a) cs []
theorem Reads.map {t:TypeId} {α α':Type} {ec:α→List D} {ok:α→Prop} {ec':α'→List D} {ok':α'→Prop} (h:Reads enc P W t ec ok) (f:α→α') (he:∀a,ec' (f a)=ec a) (ho:∀a,ok a→ok' (f a)):Reads enc P W t ec' ok':=by
 intro fuel cs x hx
 obtain ⟨a,h1,h2⟩:=h fuel cs x hx
 exact ⟨f a,ho a h1,fun β=>by rw [he]; exact h2 β⟩
theorem zEk {β:Nat→Im.Loc} {N:Nat→Prop} {u:Value}:zA β N W false [.sc u] [u] []:=by
 simp only [zA,Rep]
 exact ⟨u,[],[],[],rfl,rfl,⟨rfl,rfl⟩,rfl,rfl⟩
theorem zDw {t:TypeId} {k:IntKind} (ht:P.underlying t=some (.int k)):Reads enc P W t (fun v:Int=>[.sc (.int k v)]) (fun v=>k.min≤v∧v≤k.max):=by
 intro fuel cs x h
 have key:∃n,cs=[.int k n]∧k.min≤n∧n≤k.max:=by
  cases fuel with
  |zero=>simp [DataW.trod] at h
  |succ n=>
   unfold DataW.trod at h
   rw [ht] at h
   split at h<;>simp_all
   obtain ⟨⟨rfl,hw⟩,_⟩:=h
   simp only [Lit.wf,Bool.and_eq_true,decide_eq_true_eq] at hw
   exact hw
 obtain ⟨n,rfl,h1⟩:=key
 exact ⟨n,h1,fun β=>zEk⟩
end
end Go.Im
set_option linter.unusedVariables false
namespace Go.Im
open Go
section
variable {P:Program} {W:World}
theorem zCB {β:Nat→Im.Loc} {N:Nat→Prop} {v:Value} {d:D} (hv:v.cells= #[v]) (hr:zA β N W false [d] v.cells.toList []):Rep β N W true d v []:=by
 rw [hv] at hr
 simp only [zA] at hr
 obtain ⟨u,us,b1,b2,h1,h2,h3,h4⟩:=hr
 cases h1
 rw [(List.append_eq_nil_iff.1 h2.symm).1] at h3
 exact h3.up
theorem zCj {β:Nat→Im.Loc} {N:Nat→Prop}:zA β N W true [] [] []:=by simp [zA]
theorem zB7 {β:Nat→Im.Loc} {N:Nat→Prop} {d:D} {v:Value} {ds:List D} {vs:List Value} (h1:Rep β N W true d v []) (h2:zA β N W true ds vs []):zA β N W true (d::ds) (v::vs) []:=by
 simp only [zA]
 exact ⟨v,vs,[],[],rfl,rfl,h1,h2⟩
def Still (W:World) (e:Ending) (W':World):Prop:=e= .returned (.bool true)∧W'.os=W.os∧W'.output=W.output∧∀b,b<W.heap.size→W'.heap[b]? =W.heap[b]?
theorem zBs {f:FuncId} {args:List D} {vs:List Value} (hok:Ok P f args [] (some (.sc (.bool true),[]))) (hargs:∀β:Nat→Im.Loc,zA β (fun b=>b<W.heap.size) W true args vs []) (hg:∀q∈zBT P,q.1<W.heap.size∧Tab W q.1 q.2):Calls P f vs.toArray W (Still W):=by
 refine (hok _ rfl W (fun b=>b<W.heap.size) (fun _=>⟨true,0,0,0,0⟩) vs [] (hargs _) rfl (by simp) (by simp) (fun b hb=>⟨hb,by simp⟩) hg).mono fun e W' h=>?_
 obtain ⟨v,b1,b2,rfl,hq,_,hk,_,_,hr,_⟩:=h
 simp only [Rep] at hr
 exact ⟨by rw [hr.1],hq.1,hq.2,fun b hb=>hk b hb (by simp)⟩
theorem zBo {W':World} {e:Ending} (h:Still W e W') (may:MemPlace→Prop):W.keptBut W' may:=by
 refine ⟨h.2.1,h.2.2.1,fun i hi=>?_⟩
 rw [h.2.2.2 i hi]
 split<;>simp_all
theorem zBn {W':World} {e:Ending} (h:Still W e W') {p:MemPlace} (hp:p.block<W.heap.size):W.sameAt W' p:=by
 cases p with
 |cell b o=>exact World.cell?_of_block (w:=W) (h.2.2.2 b hp)
 |map b=>exact h.2.2.2 b hp
theorem zBa {H:Type} {enc:TypeId×Value→H} {t:TypeId} {W':World} {e:Ending} (hs:Still W e W') (hl:laidOutB P=true) (hr:P.readableRec t=true) (hrow:t<P.types.size) {v:Value} {d:DataW H} {ps:List MemPlace}
  (h:DataW.Trod enc P W 0 (fun _=>true) true t v d ps) (hlt:∀x∈ps,x.block<W.heap.size):DataW.Trod enc P W' 0 (fun b=>decide (b<W.heap.size)) true t v d ps:=
 WideElems.Trod_stays hl hr hrow h (fun x hx=>zBn hs (hlt x hx)) (fun x hx=>by simpa using hlt x hx)
end
end Go.Im
set_option linter.unusedVariables false
namespace Go.Im
open Go
section
variable {Γ:Ctx} {fc:Code} {k:List II} {σ:St} {T:Type} {K:T→Option (D×List Ent)}
theorem modify_eq {z i j:Nat} {xs:List (List D)} {e:List D} (he:xs[i]? =some e) (f:List D→List D):xs.modify i f=xs.take i++f e::xs.drop (i+1):=by
 have hlt:i<xs.length:=(List.getElem?_eq_some_iff.1 he).1
 have hge:xs[i]=e:=(List.getElem?_eq_some_iff.1 he).2
 rw [List.modify_eq_take_drop,List.drop_eq_getElem_cons hlt,hge]
 rfl
theorem zD2 {e0:Option T} (t i j t':Nat) {z z' n:Nat} {xs ys:List (List D)} {e:List D} (hl:lk σ.hp t=some (.row z xs)) (he:xs[i]? =some e) (hej:e[j]? =some (.s true z' n ys))
  (hf:(!σ.us.contains t'&&Nat.ble Γ.m t')=true)
  (hj:J Γ fc k ⟨σ.tm,(t,.lent z xs i j t' n)::(t',.row z' ys)::σ.hp.filter (fun x=>x.1 !=t),t'::σ.us⟩ e0 K):J Γ fc k σ e0 K:=by
 refine uO (fun a w hr=>?_) hj
 obtain ⟨h0,β,bs,h⟩:=hr
 simp only [Bool.and_eq_true,Bool.not_eq_eq_eq_not,Bool.not_true,List.contains_eq_mem,decide_eq_false_iff_not] at hf
 obtain ⟨hfr,hm⟩:=hf
 have hm:=Nat.le_of_ble_eq_true hm
 obtain ⟨b1,bk,p,⟨hLz,hzz,hrow⟩,hrest⟩:=yB.take h.hp h.keys (yY hl)
 rcases hrow with ⟨_,rfl,_⟩|⟨hnil,ws,hO,hE⟩
 ·simp at he
 have hel:e.length=z:=hzz e (List.mem_of_getElem? he)
 obtain ⟨q1,q2,q3,eb,hs2,hs1,hs3⟩:=hE.get hzz he
 obtain ⟨p1,p2,e1,hs4,hs5⟩:=hs2.split j
 have hjlt:j<e.length:=(List.getElem?_eq_some_iff.1 hej).1
 have hdj:e.drop j= .s true z' n ys::e.drop (j+1):=by
  rw [List.drop_eq_getElem_cons hjlt]
  congr 1
  exact (List.getElem?_eq_some_iff.1 hej).2
 rw [hdj] at hs5
 simp only [zA] at hs5
 obtain ⟨v,vs,c1,c2,ev,e2,hv,hrest5⟩:=hs5
 obtain ⟨β1,g1,g2,g3⟩:=Nm.rep (N:=NS Γ w bs) (w:=w) β (Nm.own (z:=z') (n:=n) (xs:=ys) t') (by simp) hv.up
 have htu:t∈σ.us:=h0 t (.inr (List.mem_flatMap.2 ⟨_,yY hl,by simp⟩))
 have hne:t≠t':=fun e=>hfr (e▸htu)
 have hβt:β1 t=β t:=g1 t (by simpa using hne)
 have hβu:∀q∈σ.us,β1 q=β q:=fun q hq=>g1 q (by simp; intro e; exact hfr (e▸hq))
 have hone:v.oneCell=true:=Rep.oneCell (by trivial) hv
 have hown:(β t).own =[(β t).b]:=by simp [Loc.own,hnil]
 have hwsl:=hE.length hzz
 have hlt:i<xs.length:=(List.getElem?_eq_some_iff.1 he).1
 have hiz:i*z+z≤ws.length:=by
  rw [hwsl,←Nat.succ_mul]; exact Nat.mul_le_mul_right _ hlt
 have hget:ws[i*z+j]? =some v:=by
  have:(((ws.drop (i*z)).take z).drop j)[0]? =some v:=by rw [ev]; rfl
  rw [List.getElem?_drop,List.getElem?_take,if_pos (by omega),List.getElem?_drop] at this
  simpa [Nat.add_comm] using this
 have hperm:bs.Perm ((β t).own ++((q1++(p1++c2)++q3)++(c1++bk))):=by
  refine p.trans (List.Perm.append_left _ ?_)
  rw [eb,e1,e2]
  simp only [List.append_assoc]
  refine List.Perm.append_left _ (List.Perm.append_left _ ?_)
  have h1:(c1++(c2++q3)).Perm ((c2++q3)++c1):=List.perm_append_comm
  have h2:=List.Perm.append_right bk h1
  simpa only [List.append_assoc] using h2
 have hNS:∀b,NS Γ w bs b→NS Γ w ((β t).own ++((q1++(p1++c2)++q3)++(c1++bk))) b:=fun b hb=>NS.sub (fun x hx=>hperm.mem_iff.2 hx) hb
 have hfrm:∀b,NS Γ w bs b→NS Γ w ((β t).own ++((q1++(p1++c2)++q3)++(c1++bk))) b∧w.heap[b]? =w.heap[b]? :=fun b hb=>⟨hNS b hb,rfl⟩
 simp only [yB] at g3
 obtain ⟨d1,d2,e3,g4,rfl⟩:=g3
 simp only [List.append_nil] at e3
 refine ⟨?_,β1,(β t).own ++((q1++(p1++c2)++q3)++(c1++bk)),{defers:=h.defers,size:=h.size,keys:=?_,par:=fun q hq=>?_,grow:=h.grow,gh:=h.gh,quiet:=h.quiet,keep:=h.keep,hp:=?_,nodup:=hperm.nodup_iff.1 h.nodup,own:=fun b hb=>h.own b (hperm.mem_iff.2 hb),tm:=?_}⟩
 ·intro q hq
  rcases hq with hq|hq
  ·exact List.mem_cons_of_mem _ (h0 q (.inl hq))
  ·simp only [uD,List.flatMap_cons,Ent.men,List.mem_append,List.mem_cons,List.not_mem_nil,or_false] at hq
   rcases hq with (rfl|rfl)|rfl|hq
   ·exact List.mem_cons_of_mem _ htu
   ·simp
   ·simp
   ·obtain ⟨x,hx,hx'⟩:=List.mem_flatMap.1 hq
    exact List.mem_cons_of_mem _ (h0 q (.inr (List.mem_flatMap.2 ⟨x,(List.mem_filter.1 hx).1,hx'⟩)))
 ·simp only [List.map_cons,List.nodup_cons,List.mem_cons,not_or]
  refine ⟨⟨hne,fun hin=>?_⟩,fun hin=>?_,List.Nodup.sublist (List.Sublist.map _ List.filter_sublist) h.keys⟩
  ·obtain ⟨x,hx,hx'⟩:=List.mem_map.1 hin
   have:=(List.mem_filter.1 hx).2
   simp [hx'] at this
  ·obtain ⟨x,hx,hx'⟩:=List.mem_map.1 hin
   exact hfr (h0 t' (.inr (List.mem_flatMap.2 ⟨x,(List.mem_filter.1 hx).1,by simp [hx']⟩)))
 ·rw [←h.par q hq]
  exact g1 q (by simp; omega)
 ·refine ⟨q1++(p1++c2)++q3,c1++bk,by rw [hβt],?_,d1,bk,?_,?_,?_⟩
  ·rw [hβt]
   refine ⟨hnil,hLz,hzz,ws,hO,?_,v,hget,Rep.frame hfrm _ true v [] (by simp) (fun _ _=>rfl) g2⟩
   rw [modify_eq (z:=z) (j:=j) he]
   have m1:=zH.frame (β':=β1) hfrm _ _ _ (fun _ _=>rfl) hs1
   have m2:=zA.vC (β':=β1) hfrm _ _ _ (fun _ _=>rfl) hs4
   have m3:=zA.vC (β':=β1) hfrm _ _ _ (fun _ _=>rfl) hrest5
   have m5:=zH.frame (β':=β1) hfrm _ _ _ (fun _ _=>rfl) hs3
   have mu:zA β1 (NS Γ w ((β t).own ++((q1++(p1++c2)++q3)++(c1++bk)))) w false [.un] [v] []:=by
    simp only [zA,Rep]
    exact ⟨v,[],[],[],rfl,rfl,⟨hone,rfl⟩,rfl,rfl⟩
   have key:=m1.append (zH.cons (m2.append (mu.append m3)) m5)
   have ee:e.set j .un =e.take j++([D.un]++e.drop (j+1)):=by
    rw [List.set_eq_take_append_cons_drop,if_pos hjlt]; rfl
   have ew:ws=ws.take (i*z)++((((ws.drop (i*z)).take z).take j++([v]++vs))++ws.drop ((i+1)*z)):=by
    have u1:((ws.drop (i*z)).take z).take j++([v]++vs)=(ws.drop (i*z)).take z:=by
     have:[v]++vs=((ws.drop (i*z)).take z).drop j:=by rw [ev]; rfl
     rw [this,List.take_append_drop]
    have u2:ws.drop ((i+1)*z)=(ws.drop (i*z)).drop z:=by rw [List.drop_drop]; congr 1; rw [Nat.add_mul]; omega
    rw [u1,u2,List.take_append_drop,List.take_append_drop]
   rw [ee]
   rw [ew]
   simp only [List.append_assoc] at key ⊢
   simpa only [List.append_nil,List.nil_append] using key
  ·rw [e3,List.append_assoc]
  ·exact g4.frame (fun b hb=>⟨hNS b hb,rfl⟩) (fun _ _=>rfl) (fun _=>rfl) (fun _ _=>rfl)
  ·refine yB.frame (fun b hb=>⟨hNS b hb,rfl⟩) _ _ (fun _ _=>rfl) (fun q hq=>hβu q ?_) hrest
   obtain ⟨x,hx,hx'⟩:=List.mem_flatMap.1 hq
   exact h0 q (.inr (List.mem_flatMap.2 ⟨x,(List.mem_filter.1 hx).1,hx'⟩))
 ·intro q d hd
  obtain ⟨u,h1,h2⟩:=h.tm q d hd
  exact ⟨u,h1,Rep.frame (fun b hb=>⟨hNS b hb,rfl⟩) d true u [] (by simp) (fun y hy=>hβu y (h0 y (.inl (List.mem_flatMap.2 ⟨_,hd,hy⟩)))) h2⟩
end
end Go.Im
set_option linter.unusedVariables false
namespace Go.Im
open Go
section
variable {Γ:Ctx} {fc:Code} {k:List II} {σ:St} {T:Type} {K:T→Option (D×List Ent)}
theorem zDB {e0:Option T} (t i j t':Nat) {z z' n:Nat} {xs ys:List (List D)} {e:List D} (hl:lk σ.hp t=some (.lent z xs i j t' n)) (hl':lk σ.hp t'=some (.row z' ys)) (hne:(t==t')=false) (he:xs[i]? =some e) (hjlt:j<e.length) (hyl:ys.length=n)
  (hj:J Γ fc k ⟨σ.tm,(t,.row z (xs.set i (e.set j (.s true z' n ys))))::(σ.hp.filter (fun x=>x.1 !=t)).filter (fun x=>x.1 !=t'),σ.us⟩ e0 K):J Γ fc k σ e0 K:=by
 refine uO (fun a w hr=>?_) hj
 obtain ⟨h0,β,bs,h⟩:=hr
 have hne:t≠t':=by simpa using hne
 obtain ⟨b1,bk,p,⟨hnil,hLz,hzz,ws,hO,hE,v,hget,hv⟩,hrest⟩:=yB.take h.hp h.keys (yY hl)
 have hkf:((σ.hp.filter (fun x=>x.1 !=t)).map (·.1)).Nodup :=List.Nodup.sublist (List.Sublist.map _ List.filter_sublist) h.keys
 obtain ⟨c1,ck,p2,⟨hLz',hzz',hrow'⟩,hrest2⟩:=yB.take hrest hkf (List.mem_filter.2 ⟨yY hl',by simpa using Ne.symm hne⟩)
 have hlt:i<xs.length:=(List.getElem?_eq_some_iff.1 he).1
 have hel:e.length=z:=hzz e (List.mem_of_getElem? he)
 have hmod:=modify_eq (z:=z) (j:=j) he (fun c=>c.set j .un)
 have hzm:∀x∈xs.modify i (fun c=>c.set j .un),x.length=z:=by
  intro x hx
  rw [hmod] at hx
  rcases List.mem_append.1 hx with hx|hx
  ·exact hzz x (List.mem_of_mem_take hx)
  ·rcases List.mem_cons.1 hx with rfl|hx
   ·simpa using hel
   ·exact hzz x (List.mem_of_mem_drop hx)
 have hme:(xs.modify i (fun c=>c.set j .un))[i]? =some (e.set j .un):=by
  rw [List.getElem?_modify,he]; simp
 obtain ⟨q1,q2,q3,eb,hs2,hs1,hs3⟩:=hE.get hzm hme
 obtain ⟨p1,p2',e1,hs4,hs5⟩:=hs2.split j
 have hdj:(e.set j D.un).drop j= .un ::e.drop (j+1):=by
  rw [List.drop_eq_getElem_cons (by simpa using hjlt)]
  congr 1
  ·simp
  ·rw [List.drop_set_of_lt (by omega)]
 have htj:(e.set j D.un).take j=e.take j:=List.take_set_of_le (Nat.le_refl _)
 rw [hdj] at hs5
 rw [htj] at hs4
 simp only [zA] at hs5
 obtain ⟨v',vs,d1,d2,ev,e2,hun,hrest5⟩:=hs5
 simp only [Rep] at hun
 obtain ⟨hone,rfl⟩:=hun
 have hwsl:=hE.length hzm
 rw [List.length_modify] at hwsl
 have hiz:i*z+z≤ws.length:=by
  rw [hwsl,←Nat.succ_mul]; exact Nat.mul_le_mul_right _ hlt
 have hvv:v'=v:=by
  have:(((ws.drop (i*z)).take z).drop j)[0]? =some v':=by rw [ev]; rfl
  rw [List.getElem?_drop,List.getElem?_take,if_pos (by omega),List.getElem?_drop] at this
  simp only [Nat.add_zero] at this
  rw [hget] at this
  cases this
  rfl
 subst hvv
 have hS:Rep β (NS Γ w bs) w false (.s true z' n ys) v' ((β t').own ++c1):=by
  simp only [Rep] at hv ⊢
  refine ⟨hyl,hzz',?_⟩
  obtain ⟨_,_,hv⟩:=hv
  rcases hv with ⟨hn',_,rfl,rfl⟩|⟨hn',c,rfl,hc,hroom,_⟩
  ·rcases hrow' with ⟨_,rfl,rfl⟩|⟨hn2,_⟩
   ·exact ⟨none,0,rfl,Nat.le_refl _,.inl ⟨rfl,by simp [Loc.own,hn'],fun _=>⟨rfl,rfl⟩⟩⟩
   ·rw [hn'] at hn2; cases hn2
  ·rcases hrow' with ⟨hn2,_⟩|⟨_,ws',hO',hE'⟩
   ·rw [hn'] at hn2; cases hn2
   ·refine ⟨_,c,rfl,hc,.inr (.inr ⟨trivial,(β t').b,_,ws',c1,rfl,by simp [Loc.own,hn'],?_,hE'⟩)⟩
    obtain ⟨arr,et,lo,hi,g1,g2,g3,g4⟩:=hO'
    refine ⟨arr,et,lo,hi,g1,g2,?_,?_⟩
    ·rw [hLz'] at hroom
     have:(0+c)*z'=c*z':=by rw [Nat.zero_add]
     omega
    ·simpa using g4
 have hperm:bs.Perm ((β t).own ++((q1++(p1++(((β t').own ++c1)++d2))++q3)++ck)):=by
  refine p.trans (List.Perm.append_left _ ?_)
  refine (List.Perm.append_left _ p2).trans ?_
  rw [eb,e1,e2]
  simp only [List.append_assoc,List.nil_append]
  refine List.Perm.append_left _ (List.Perm.append_left _ ?_)
  have h1:((d2++q3)++((β t').own ++c1)).Perm (((β t').own ++c1)++(d2++q3)):=List.perm_append_comm
  have h2:=List.Perm.append_right ck h1
  simpa only [List.append_assoc] using h2
 have hNS:∀b,NS Γ w bs b→NS Γ w ((β t).own ++((q1++(p1++(((β t').own ++c1)++d2))++q3)++ck)) b:=fun b hb=>NS.sub (fun x hx=>hperm.mem_iff.2 hx) hb
 have hfrm:∀b,NS Γ w bs b→NS Γ w ((β t).own ++((q1++(p1++(((β t').own ++c1)++d2))++q3)++ck)) b∧w.heap[b]? =w.heap[b]? :=fun b hb=>⟨hNS b hb,rfl⟩
 refine ⟨?_,β,_,{defers:=h.defers,size:=h.size,keys:=?_,par:=h.par,grow:=h.grow,gh:=h.gh,quiet:=h.quiet,keep:=h.keep,hp:=⟨_,ck,rfl,?_,?_⟩,nodup:=hperm.nodup_iff.1 h.nodup,own:=fun b hb=>h.own b (hperm.mem_iff.2 hb),tm:=?_}⟩
 ·intro q hq
  rcases hq with hq|hq
  ·exact h0 q (.inl hq)
  ·simp only [uD,List.flatMap_cons,Ent.men,List.mem_append,List.mem_cons,List.not_mem_nil,or_false] at hq
   rcases hq with rfl|hq
   ·exact h0 q (.inr (List.mem_flatMap.2 ⟨_,yY hl,by simp⟩))
   ·obtain ⟨x,hx,hx'⟩:=List.mem_flatMap.1 hq
    exact h0 q (.inr (List.mem_flatMap.2 ⟨x,(List.mem_filter.1 (List.mem_filter.1 hx).1).1,hx'⟩))
 ·simp only [List.map_cons,List.nodup_cons]
  refine ⟨fun hin=>?_,List.Nodup.sublist (List.Sublist.map _ List.filter_sublist) hkf⟩
  obtain ⟨x,hx,hx'⟩:=List.mem_map.1 hin
  have:=(List.mem_filter.1 (List.mem_filter.1 hx).1).2
  simp [hx'] at this
 ·refine ⟨hLz,?_,.inr ⟨hnil,ws,hO,?_⟩⟩
  ·intro x hx
   rcases List.mem_or_eq_of_mem_set hx with hx|rfl
   ·exact hzz x hx
   ·simpa using hel
  ·have m1:=zH.frame (β':=β) hfrm _ _ _ (fun _ _=>rfl) hs1
   have m2:=zA.vC (β':=β) hfrm _ _ _ (fun _ _=>rfl) hs4
   have m3:=zA.vC (β':=β) hfrm _ _ _ (fun _ _=>rfl) hrest5
   have m5:=zH.frame (β':=β) hfrm _ _ _ (fun _ _=>rfl) hs3
   have mS:=Rep.frame (β':=β) hfrm _ false v' _ (fun _ _=>rfl) (by simp [D.men]) hS
   have mu:zA β (NS Γ w ((β t).own ++((q1++(p1++(((β t').own ++c1)++d2))++q3)++ck))) w false [.s true z' n ys] [v'] ((β t').own ++c1):=by
    simp only [zA]
    exact ⟨v',[],_,[],rfl,by simp,mS,rfl,rfl⟩
   have key:=m1.append (zH.cons (m2.append (mu.append m3)) m5)
   have ee:e.set j (.s true z' n ys)=e.take j++([D.s true z' n ys]++e.drop (j+1)):=by
    rw [List.set_eq_take_append_cons_drop,if_pos hjlt]; rfl
   have ex:xs.set i (e.set j (.s true z' n ys))=(xs.modify i (fun c=>c.set j .un)).take i++(e.set j (.s true z' n ys))::(xs.modify i (fun c=>c.set j .un)).drop (i+1):=by
    have hti:(xs.take i).length =i:=by simp; omega
    rw [List.set_eq_take_append_cons_drop,if_pos hlt,hmod]
    congr 1
    ·rw [List.take_append_of_le_length (by omega),List.take_take,Nat.min_self]
    ·congr 1
     have hcons:∀(l:List (List D)) (r:List (List D)) (q:List D),l.length=i→(l++q::r).drop (i+1)=r:=by
      intro l r q hl2
      subst hl2
      simp [List.drop_append]
     exact (hcons _ _ _ hti).symm
   have ew:ws=ws.take (i*z)++((((ws.drop (i*z)).take z).take j++([v']++vs))++ws.drop ((i+1)*z)):=by
    have u1:((ws.drop (i*z)).take z).take j++([v']++vs)=(ws.drop (i*z)).take z:=by
     have:[v']++vs=((ws.drop (i*z)).take z).drop j:=by rw [ev]; rfl
     rw [this,List.take_append_drop]
    have u2:ws.drop ((i+1)*z)=(ws.drop (i*z)).drop z:=by rw [List.drop_drop]; congr 1; rw [Nat.add_mul]; omega
    rw [u1,u2,List.take_append_drop,List.take_append_drop]
   rw [ex,ee]
   rw [ew]
   simp only [List.append_assoc] at key ⊢
   exact key
 ·exact yB.frame (fun b hb=>⟨hNS b hb,rfl⟩) _ _ (fun _ _=>rfl) (fun _ _=>rfl) hrest2
 ·intro q d hd
  obtain ⟨u,h1,h2⟩:=h.tm q d hd
  exact ⟨u,h1,Rep.frame (fun b hb=>⟨hNS b hb,rfl⟩) d true u [] (by simp) (fun _ _=>rfl) h2⟩
end
section
variable {Γ:Ctx} {ops:Array Oper} {o:Oper}
theorem kW {c:Cert} {x y:Operand} {T el:TypeId} {k:IntKind} {z n t off j a0 b0 t' n':Nat} {i:Int} {cap:Option Nat} {xs:List (List D)} (hg:o.guard=none) (hop:o.op= .indexAddr T x y)
  (hc:c= {tn:=c.tn,hn:=c.hn,out:=some (.pt t j 0)}) (hx:OpF c x (.rf t off n cap)) (hy:OpF c y (.sc (.int k i))) (hT:zK Γ.P (underlying T)=some (.slice el)) (hz:tO Γ.P el=some z)
  (hi:0≤i) (hj:i<n) (hjj:off+i.toNat=j) (hh:(t,.lent z xs a0 b0 t' n')∈c.hn):Valid Γ ops o c:=by
 refine xU (d:=.pt t j 0) (f:=fun ρ=>Instr.indexAt T (ρ x) (ρ y)) hg (fun ρ=>by simp [execOp,hop]) (by rw [hc]) fun β bs σ a w hn hr=>?_
 have h1:=OpF.rep hx hn hr
 have h2:=OpF.rep hy hn hr
 obtain ⟨_,⟨_,hLz,_⟩,_⟩:=yB.get hr.hp (hn.2.1 _ hh)
 simp only [Rep] at h1 h2
 obtain ⟨_,_,⟨_,_,rfl,_⟩|⟨hnil,cp,hv,hcap,hroom,_⟩⟩:=h1
 ·omega
 ·refine ⟨.pointer (some ⟨(β t).b,(β t).o +j*(β t).z +0,none⟩),?_,by simp only [Rep]; exact ⟨trivial,trivial,hnil,trivial⟩⟩
  rw [h2.1,hv]
  unfold Instr.indexAt
  rw [run_bind_ok (a:=(k,i)) (w':=w) rfl]
  simp only
  rw [run_bind_ok (zG _ _ w hT)]
  simp only
  rw [run_bind_ok (a:=(some (⟨(β t).b,(β t).o +off*(β t).z,none⟩:Addr),n,el)) (w':=w) rfl]
  rw [run_bind_ok (zG _ _ w hT)]
  simp only
  rw [if_pos ⟨hi,hj⟩]
  rw [run_bind_ok (zG _ _ w hz)]
  rw [wW,hLz,←hjj,Nat.add_mul,Nat.add_assoc]
  rfl
theorem zAo {c:Cert} {x y:Operand} {T el:TypeId} {k:IntKind} {z t a0 b0 t' n':Nat} {i:Int} {cap:Option Nat} {α:Type} {enc:α→List D} {xs:List α} {a:α} (h:idx xs i=some a) (hg:o.guard=none) (hop:o.op= .indexAddr T x y)
  (hc:c= {tn:=c.tn,hn:=c.hn,out:=some (.pt t i.toNat 0)}) (hx:OpF c x (.rf t 0 xs.length cap)) (hy:OpF c y (.sc (.int k i))) (hh:(t,.lent z (xs.map enc) a0 b0 t' n')∈c.hn) (hT:zK Γ.P (underlying T)=some (.slice el)) (hz:tO Γ.P el=some z):Valid Γ ops o c:=by
 obtain ⟨h1,h2⟩:=vH h
 have hlt:=(List.getElem?_eq_some_iff.1 h2).1
 exact kW hg hop hc hx hy hT hz h1 (by omega) (Nat.zero_add _) hh
theorem zAB {c:Cert} {x:Operand} {T:TypeId} {z t i j t' n:Nat} {xs:List (List D)} (hg:o.guard=none) (hop:o.op= .load T x) (hc:c= {tn:=c.tn,hn:=c.hn,out:=some (.rf t' 0 n none)})
  (hx:OpF c x (.pt t i j)) (hh:(t,.lent z xs i j t' n)∈c.hn) (hd:wH Γ.P T [.rf t' 0 n none]=some (.rf t' 0 n none)):Valid Γ ops o c:=by
 refine xU (d:=.rf t' 0 n none) (f:=fun ρ=>Instr.loadAt T (ρ x)) hg (fun ρ=>by simp [execOp,hop]) (by rw [hc]) fun β bs σ a w hn hr=>?_
 have h1:=OpF.rep hx hn hr
 simp only [Rep] at h1
 obtain ⟨b1,⟨hnil,hLz,hzz,ws,hO,hE,v,hget,hv⟩,_,_⟩:=yB.get hr.hp (hn.2.1 _ hh)
 have hlt:i*z+j<ws.length:=(List.getElem?_eq_some_iff.1 hget).1
 have hH:Has w (β t).b ((β t).o +(i*z+j)) [v]:=by
  have:=hO.cells (i*z+j) 1
  have e:(ws.drop (i*z+j)).take 1=[v]:=by
   rw [List.drop_eq_getElem_cons hlt]
   simp [(List.getElem?_eq_some_iff.1 hget).2]
  rw [e] at this
  exact this
 have hone:v.oneCell=true:=Rep.oneCell (by trivial) hv
 have hcs:zA β (NS Γ w bs) w true [.rf t' 0 n none] [v] []:=by
  simp only [zA]
  exact ⟨v,[],[],[],rfl,rfl,hv,rfl,rfl⟩
 obtain ⟨u,h7,h8⟩:=wX hd hH (by simpa using hone) hcs
 refine ⟨u,?_,h8⟩
 rw [h1.2.2.2,hLz,Nat.add_assoc]
 exact h7
end
end Go.Im
set_option linter.unusedVariables false
namespace Go.Im
open Go
section
variable {Γ:Ctx} {fc:Code} {k:List II} {σ:St} {T:Type} {K:T→Option (D×List Ent)}
mutual
inductive Fz (t z:Nat) (xs:List (List D)):D→D→Prop where
 |same {d:D}:d.men=[]→Fz t z xs d d
 |keep {d:D}:d.men.contains t=false→Fz t z xs d d
 |rf {off n:Nat} {cap:Option Nat} {ys:List (List D)}:off+n≤xs.length→ys=((D.ro.roE xs).drop off).take n→Fz t z xs (.rf t off n cap) (.s false z n ys)
 |fn {f:FuncId} {cs cs':List D}:FzL t z xs cs cs'→Fz t z xs (.fn f cs) (.fn f cs')
 |ag {cs cs':List D}:FzL t z xs cs cs'→Fz t z xs (.ag cs) (.ag cs')
 |tu {cs cs':List D}:FzL t z xs cs cs'→Fz t z xs (.tu cs) (.tu cs')
inductive FzL (t z:Nat) (xs:List (List D)):List D→List D→Prop where
 |nil:FzL t z xs [] []
 |cons {d d':D} {ds ds':List D}:Fz t z xs d d'→FzL t z xs ds ds'→FzL t z xs (d::ds) (d'::ds')
end
mutual
theorem Fz.men {t z:Nat} {xs:List (List D)}:∀{d d':D},Fz t z xs d d'→∀q∈d'.men,q∈d.men∧q≠t
 |d,_,.same h=>by rw [h]; simp
 |d,_,.keep h=>fun q hq=>⟨hq,fun e=>by subst e; simp at h; exact h hq⟩
 |_,_,.rf _ _=>by simp [D.men]
 |_,_,.fn h=>by simpa [D.men] using FzL.men h
 |_,_,.ag h=>by simpa [D.men] using FzL.men h
 |_,_,.tu h=>by simpa [D.men] using FzL.men h
theorem FzL.men {t z:Nat} {xs:List (List D)}:∀{d d':List D},FzL t z xs d d'→∀q∈D.men.wI d',q∈D.men.wI d∧q≠t
 |_,_,.nil =>by simp [D.men.wI]
 |_,_,.cons h1 h2=>fun q hq=>by
  simp only [D.men.wI,List.mem_append] at hq ⊢
  rcases hq with hq|hq
  ·exact ⟨.inl (Fz.men h1 q hq).1,(Fz.men h1 q hq).2⟩
  ·exact ⟨.inr (FzL.men h2 q hq).1,(FzL.men h2 q hq).2⟩
end
theorem FzL.length {t z:Nat} {xs:List (List D)}:∀{d d':List D},FzL t z xs d d'→d'.length=d.length
 |_,_,.nil =>rfl
 |_,_,.cons _ h2=>by simp [FzL.length h2]
section
variable {β:Nat→Loc} {N N':Nat→Prop} {w:World} {t z:Nat} {xs:List (List D)}
mutual
theorem Fz.rep (hN:∀b,N b→N' b) {b1:List Nat} (hE:xS β N w (β t) b1 (.row z xs)) (hb:∀b∈(β t).own ++b1,N' b):∀{d d':D} {v:Value},Fz t z xs d d'→Rep β N w true d v []→Rep β N' w true d' v []
 |d,_,v,.same hm,h=>Rep.frame (fun b hb=>⟨hN b hb,rfl⟩) d true v [] (by simp) (fun _ _=>rfl) h
 |d,_,v,.keep hm,h=>Rep.frame (fun b hb=>⟨hN b hb,rfl⟩) d true v [] (by simp) (fun _ _=>rfl) h
 | .rf _ off n cap,.s _ _ _ ys,v,.rf hle hys,h=>by
  obtain ⟨hLz,hzz,hrow⟩:=hE
  simp only [Rep] at h
  obtain ⟨_,_,h⟩:=h
  simp only [Rep]
  have hl:ys.length=n:=by rw [hys]; simp [wS]; omega
  have hz:∀e∈ys,e.length=z:=fun e he=>by
   rw [hys] at he
   obtain ⟨e',he',rfl⟩:=wU (List.mem_of_mem_drop (List.mem_of_mem_take he))
   rw [xP]; exact hzz e' he'
  refine ⟨hl,hz,?_⟩
  rcases h with ⟨hnil,_,hn0,rfl⟩|⟨hnil,cp,rfl,hcap,hroom,_⟩
  ·exact ⟨none,0,by rw [hn0],by omega,.inl ⟨hn0,trivial,by simp⟩⟩
  ·refine ⟨_,cp,rfl,hcap,?_⟩
   rcases hrow with ⟨hnil',_⟩|⟨_,ws,hO,hE⟩
   ·rw [hnil] at hnil'; cases hnil'
   ·have q:=zH.ro (β':=β) (N':=N') hN xs ws b1 (fun b hb'=>hb b (List.mem_append_right _ hb')) hE
    have hzr:∀e∈D.ro.roE xs,e.length=z:=fun e he=>by
     obtain ⟨e',he',rfl⟩:=wU he
     rw [xP]; exact hzz e' he'
    have q2:=(zH.sub n (zH.sub off q hzr).2 (fun e he=>hzr e (List.mem_of_mem_drop he))).1
    refine .inr (.inl ⟨trivial,(β t).b,_,_,rfl,hb _ (by simp [Loc.own,hnil]),?_,hys▸q2,trivial⟩)
    rw [hLz]
    exact hO.has.sub (off*z) (n*z)
 |_,_,v,.fn hl,h=>by
  simp only [Rep] at h ⊢
  obtain ⟨h1,h2,ws,h3,h4⟩:=h
  exact ⟨trivial,trivial,ws,h3,FzL.rep hN hE hb hl h4⟩
 |_,_,v,.ag hl,h=>by
  simp only [Rep] at h ⊢
  obtain ⟨h1,ws,h3,h5,h4⟩:=h
  exact ⟨trivial,ws,h3,h5,FzL.rep hN hE hb hl h4⟩
 |_,_,v,.tu hl,h=>by
  simp only [Rep] at h ⊢
  obtain ⟨h1,ws,h3,h4⟩:=h
  exact ⟨trivial,ws,h3,FzL.rep hN hE hb hl h4⟩
theorem FzL.rep (hN:∀b,N b→N' b) {b1:List Nat} (hE:xS β N w (β t) b1 (.row z xs)) (hb:∀b∈(β t).own ++b1,N' b):∀{ds ds':List D} {vs:List Value},FzL t z xs ds ds'→zA β N w true ds vs []→zA β N' w true ds' vs []
 |_,_,vs,.nil,h=>by simp only [zA] at h ⊢; exact h
 |_,_,vs,.cons h1 h2,h=>by
  simp only [zA] at h ⊢
  obtain ⟨v,vs',b1,b2,rfl,hb',h3,h4⟩:=h
  rw [(List.append_eq_nil_iff.1 hb'.symm).1] at h3
  rw [(List.append_eq_nil_iff.1 hb'.symm).2] at h4
  exact ⟨v,vs',[],[],rfl,rfl,Fz.rep hN hE hb h1 h3,FzL.rep hN hE hb h2 h4⟩
end
end
inductive FzT (t z:Nat) (xs:List (List D)):List (Nat×D)→List (Nat×D)→Prop where
 |nil:FzT t z xs [] []
 |cons {q:Nat} {d d':D} {l l':List (Nat×D)}:Fz t z xs d d'→FzT t z xs l l'→FzT t z xs ((q,d)::l) ((q,d')::l')
inductive FzH (t z:Nat) (xs:List (List D)):List (Nat×Ent)→List (Nat×Ent)→Prop where
 |nil:FzH t z xs [] []
 |box {q:Nat} {cs cs':List D} {l l':List (Nat×Ent)}:cs.all D.free=true→FzL t z xs cs cs'→FzH t z xs l l'→FzH t z xs ((q,.box cs)::l) ((q,.box cs')::l')
 |keep {q:Nat} {e:Ent} {l l':List (Nat×Ent)}:e.men.contains t=false→FzH t z xs l l'→FzH t z xs ((q,e)::l) ((q,e)::l')
theorem FzH.keys {t z:Nat} {xs:List (List D)} {l l':List (Nat×Ent)} (h:FzH t z xs l l'):l'.map (·.1)=l.map (·.1):=by
 induction h with
 |nil=>rfl
 |box _ _ _ ih=>simp [ih]
 |keep _ _ ih=>simp [ih]
theorem FzH.uD {t z:Nat} {xs:List (List D)} {l l':List (Nat×Ent)} (h:FzH t z xs l l'):∀q∈uD l',q∈uD l:=by
 induction h with
 |nil=>exact fun q h=>h
 |box _ h1 _ ih=>
  intro q hq
  simp only [Im.uD,List.flatMap_cons,Ent.men,List.mem_append,List.mem_cons] at hq ⊢
  rcases hq with (hq|hq)|hq
  ·exact .inl (.inl hq)
  ·exact .inl (.inr (FzL.men h1 q hq).1)
  ·exact .inr (ih q hq)
 |keep _ _ ih=>
  intro q hq
  simp only [Im.uD,List.flatMap_cons,List.mem_append,List.mem_cons] at hq ⊢
  rcases hq with hq|hq
  ·exact .inl hq
  ·exact .inr (ih q hq)
theorem FzH.rep {β:Nat→Loc} {N N':Nat→Prop} {w:World} {t z:Nat} {xs:List (List D)} {l l':List (Nat×Ent)} (h:FzH t z xs l l') (hN:∀b,N b→N' b) {b1:List Nat} (hE:xS β N w (β t) b1 (.row z xs)) (hb:∀b∈(β t).own ++b1,N' b):
  ∀{bs:List Nat},yB β N w l bs→yB β N' w l' bs:=by
 induction h with
 |nil=>exact fun h=>h
 |box hfree h1 _ ih=>
  rintro bs ⟨c1,c2,rfl,⟨hn,hz,ws,hO,hone,hcs⟩,h3⟩
  have:=zA.free hfree hcs
  subst this
  refine ⟨[],c2,rfl,⟨hn,by rw [h1.length]; exact hz,ws,hO,hone,FzL.rep hN hE hb h1 hcs⟩,ih h3⟩
 |keep _ _ ih=>
  rintro bs ⟨c1,c2,rfl,h2,h3⟩
  exact ⟨c1,c2,rfl,h2.frame (fun b hb=>⟨hN b hb,rfl⟩) (fun _ _=>rfl) (fun _=>rfl) (fun _ _=>rfl),ih h3⟩
end
end Go.Im
set_option linter.unusedVariables false
namespace Go.Im
open Go
def same {α β:Type} (xs:List α) (ys:List β):Option Unit:=if xs.length=ys.length then some () else none
theorem kS {α β:Type} {xs:List α} {ys:List β} {u:Unit} (h:same xs ys=some u):xs.length=ys.length:=by
 unfold same at h
 split at h
 ·assumption
 ·cases h
section
variable {Γ:Ctx} {fc:Code} {k:List II} {σ:St} {T:Type} {K:T→Option (D×List Ent)}
theorem zCN {e0:Option T} {ix:Int} {α:Type} {enc:α→List D} {A:List α} {a:α} {z z' n:Nat} {ys:List (List D)} (t j t':Nat) (h:idx A ix=some a) (hl:lk σ.hp t=some (.row z (A.map enc))) (hej:(enc a)[j]? =some (.s true z' n ys))
  (hf:(!σ.us.contains t'&&Nat.ble Γ.m t')=true)
  (hj:J Γ fc k ⟨σ.tm,(t,.lent z (A.map enc) ix.toNat j t' n)::(t',.row z' ys)::σ.hp.filter (fun x=>x.1 !=t),t'::σ.us⟩ e0 K):J Γ fc k σ e0 K:=by
 obtain ⟨_,h2⟩:=vH h
 exact zD2 t ix.toNat j t' hl (by rw [List.getElem?_map,h2]; rfl) hej hf hj
theorem zDf {e0:Option T} {ix:Int} {α:Type} {enc:α→List D} {A:List α} {a b:α} {z z' n n':Nat} {ys:List (List D)} (t j t':Nat) (h:idx A ix=some a) (hl:lk σ.hp t=some (.lent z (A.map enc) ix.toNat j t' n)) (hl':lk σ.hp t'=some (.row z' ys))
  (hne:(t==t')=false) (hb:enc b=(enc a).set j (.s true z' n' ys)) (hn:n'=n) (hjlt:j< (enc a).length) (hyl:ys.length=n)
  (hj:J Γ fc k ⟨σ.tm,(t,.row z ((A.set ix.toNat b).map enc))::(σ.hp.filter (fun x=>x.1 !=t)).filter (fun x=>x.1 !=t'),σ.us⟩ e0 K):J Γ fc k σ e0 K:=by
 obtain ⟨_,h2⟩:=vH h
 subst hn
 refine zDB t ix.toNat j t' hl hl' hne (by rw [List.getElem?_map,h2]; rfl) hjlt hyl ?_
 rw [←hb,←List.map_set]
 exact hj
theorem zEq {e:Option T} (t:Nat) {n:Nat} (hl:lk σ.tm t=some (.nb n)) (h1:n=0→J Γ fc k ⟨(t,.sc (.bool true))::σ.tm,σ.hp,σ.us⟩ e K) (h2:J Γ fc k ⟨(t,.sc (.bool false))::σ.tm,σ.hp,σ.us⟩ e K):J Γ fc k σ e K:=by
 intro r out he hk a w hrel
 obtain ⟨h0,β,bs,h⟩:=hrel
 obtain ⟨v,hv,hr⟩:=h.tm t _ (yY hl)
 simp only [Rep] at hr
 obtain ⟨_,b,rfl,hb⟩:=hr
 have key:∀b',a.tmps[t]? =some (.bool b')→Rel Γ ⟨(t,.sc (.bool b'))::σ.tm,σ.hp,σ.us⟩ a w:=by
  intro b' hb'
  refine ⟨fun t' ht'=>h0 t' ?_,β,bs,{defers:=h.defers,size:=h.size,keys:=h.keys,par:=h.par,grow:=h.grow,gh:=h.gh,quiet:=h.quiet,keep:=h.keep,hp:=h.hp,nodup:=h.nodup,own:=h.own,tm:=?_}⟩
  ·rcases ht' with ht'|ht'
   ·simp only [zAu,List.flatMap_cons,D.men,List.nil_append] at ht'
    exact .inl ht'
   ·exact .inr ht'
  ·intro t' d hd
   rcases List.mem_cons.1 hd with hd|hd
   ·cases hd
    exact ⟨_,hb',by simp [Rep]⟩
   ·exact h.tm t' d hd
 cases b with
 |true=>exact h1 (hb rfl) r out he hk a w (key _ hv)
 |false=>exact h2 r out he hk a w (key _ hv)
theorem zDx {e e':Option T} (h:e=e') (hj:J Γ fc k σ e' K):J Γ fc k σ e K:=h▸hj
end
section
variable {Γ:Ctx} {ops:Array Oper} {o:Oper}
theorem zB9 {P:Program} {T el:TypeId} {w:World} {ad:Option Addr} {n cap:Nat} (hT:zK P (underlying T)=some (.slice el)):
  (Op.equal T (.slice ad n cap) (.slice none 0 0)).run P w= .ok ad.isNone w:=by
 unfold Op.equal Op.maxDepth
 show (Op.equalIn (9999+1) T _ _).run P w=_
 unfold Op.equalIn
 rw [run_bind_ok (zG _ _ w hT)]
 cases ad<;>rfl
theorem zCZ {c:Cert} {x:Operand} {T U el:TypeId} {wo:Bool} {z n:Nat} {xs:List (List D)} (hg:o.guard=none) (hop:o.op= .binOp .eql T x (.const (.slice none 0 0)) U) (hc:c= {tn:=c.tn,out:=some (.nb n)})
  (hx:OpF c x (.s wo z n xs)) (hT:zK Γ.P (underlying T)=some (.slice el)):Valid Γ ops o c:=by
 refine xU (d:=.nb n) (f:=fun ρ=>do eqGuard .eql T x (.const (.slice none 0 0)) (ρ x) (ρ (.const (.slice none 0 0))); binOp .eql T (ρ x) (ρ (.const (.slice none 0 0)))) hg (fun ρ=>by simp [execOp,hop]) (by rw [hc]) fun β bs σ a w hn hr=>?_
 have h1:=OpF.rep hx hn hr
 simp only [Rep] at h1
 obtain ⟨_,_,ad,cap,hv,_,h5⟩:=h1
 refine ⟨.bool ad.isNone,?_,?_⟩
 ·have he:a.eval (.const (.slice none 0 0))= .slice none 0 0:=rfl
  rw [hv,he]
  rw [run_bind_ok (a:=()) (w':=w) rfl]
  show (do pure (Value.bool (←Op.equal T (.slice ad n cap) (.slice none 0 0))):Sem Value).run Γ.P w=_
  rw [run_bind_ok (zB9 hT)]
  rfl
 ·simp only [Rep]
  refine ⟨trivial,ad.isNone,rfl,fun hn0=>?_⟩
  cases ad with
  |some _=>cases hn0
  |none=>
   rcases h5 with h5|⟨_,b,off,ws,h6,_⟩|⟨_,b,off,ws,bs',h6,_⟩
   ·exact h5.1
   ·cases h6
   ·cases h6
end
end Go.Im
set_option linter.unusedVariables false
namespace Go.Im
open Go
def iv (x:Int):D:=.sc (.int .i64 x)
def uv (x:Int):D:=.sc (.int .u8 x)
def bv (b:Bool):D:=.sc (.bool b)
def sv (s:ByteArray):D:=.sc (.string s)
def nv:D:=.sc (.slice none 0 0)
def sl {α:Type} (z:Nat) (e:α→List D) (xs:List α):D:=.s false z xs.length (xs.map e)
def so {α:Type} (z:Nat) (e:α→List D) (xs:List α):D:=.s true z xs.length (xs.map e)
def rr {α:Type} (t:Nat) (xs:List α):D:=.rf t 0 xs.length none
def pp (t:Nat):D:=.pt t 0 0
def rE {α:Type} (z:Nat) (e:α→List D) (xs:List α):Ent:=.row z (xs.map e)
def zDk (fc:Code):Nat→Nat→List II
 |0,_=>[]
 |f+1,p=>if p≤1 then [] else match sub fc (p / 2) with
  | .seq _ _=>if p%2==0 then .c (p+1)::zDk fc f (p / 2) else zDk fc f (p / 2)
  | .block id _=>.b id::zDk fc f (p / 2)
  | .loop _=>.l p::zDk fc f (p / 2)
  |_=>zDk fc f (p / 2)
def aft (fc:Code) (p:Nat):List II:=zDk fc 250 p
def atI (fc:Code) (p:Nat):List II:=.c p::aft fc p
def zDy (fc:Code) (tm:List (Nat×D)) (p:Nat):Nat→List II→Option (List II)
 |0,_=>none
 |n+1,k=>match k with
  | .c q::r=>if q=p then some r else match zBQ fc tm (.c q::r) with
   |some k'=>zDy fc tm p n k'
   |none=>none
  |k=>match zBQ fc tm k with
   |some k'=>zDy fc tm p n k'
   |none=>none
theorem jE {fc:Code} {tm:List (Nat×D)} {p:Nat}:∀(n:Nat) (k r:List II),zDy fc tm p n k=some r→∃m,zBm fc tm m k=some (.c p::r)
 |0,k,r,h=>by cases h
 |n+1,k,r,h=>by
  unfold zDy at h
  split at h
  ·rename_i q r'
   split at h
   ·rename_i e; subst e; cases h; exact ⟨0,rfl⟩
   ·split at h
    ·rename_i k' hk'
     obtain ⟨m,hm⟩:=jE n k' r h
     exact ⟨m+1,by simp only [zBm,hk']; exact hm⟩
    ·cases h
  ·split at h
   ·rename_i k' hk'
    obtain ⟨m,hm⟩:=jE n k' r h
    exact ⟨m+1,by simp only [zBm,hk']; exact hm⟩
   ·cases h
def II.eq:II→II→Bool
 | .c x,.c y=>x==y
 | .b x,.b y=>x==y
 | .l x,.l y=>x==y
 |_,_=>false
theorem II.jD:∀{p q:II},II.eq p q=true→p=q
 | .c x,.c y,h=>by simp [II.eq] at h; rw [h]
 | .b x,.b y,h=>by simp [II.eq] at h; rw [h]
 | .l x,.l y,h=>by simp [II.eq] at h; rw [h]
 | .c _,.b _,h=>by cases h
 | .c _,.l _,h=>by cases h
 | .b _,.c _,h=>by cases h
 | .b _,.l _,h=>by cases h
 | .l _,.c _,h=>by cases h
 | .l _,.b _,h=>by cases h
def IIs.eq:List II→List II→Bool
 |[],[]=>true
 |a::k,b::k'=>II.eq a b&&IIs.eq k k'
 |_,_=>false
theorem IIs.jD:∀{a b:List II},IIs.eq a b=true→a=b
 |[],[],_=>rfl
 |a::k,b::k',h=>by
  simp only [IIs.eq,Bool.and_eq_true] at h
  rw [II.jD h.1,IIs.jD h.2]
 |[],_::_,h=>by cases h
 |_::_,[],h=>by cases h
def zCz (fc:Code) (tm:List (Nat×D)) (k':List II):Nat→List II→Bool
 |0,_=>false
 |n+1,k=>if k.length==k'.length&&IIs.eq k k' then true else match zBQ fc tm k with
  |some k2=>zCz fc tm k' n k2
  |none=>false
theorem zAq {fc:Code} {tm:List (Nat×D)} {k':List II}:∀(n:Nat) (k:List II),zCz fc tm k' n k=true→∃m,zBm fc tm m k=some k'
 |0,k,h=>by cases h
 |n+1,k,h=>by
  unfold zCz at h
  split at h
  ·rename_i e
   simp only [Bool.and_eq_true] at e
   exact ⟨0,by simp only [zBm]; rw [IIs.jD e.2]⟩
  ·split at h
   ·rename_i k2 hk2
    obtain ⟨m,hm⟩:=zAq n k2 h
    exact ⟨m+1,by simp only [zBm,hk2]; exact hm⟩
   ·cases h
def zDp (fc:Code) (tm:List (Nat×D)):Nat→List II→Bool
 |0,_=>false
 |n+1,k=>match k with
  |[]=>true
  | .c q::r=>match sub fc q with
   | .ret =>true
   |_=>match zBQ fc tm (.c q::r) with
    |some k2=>zDp fc tm n k2
    |none=>false
  |k=>match zBQ fc tm k with
   |some k2=>zDp fc tm n k2
   |none=>false
theorem tX {fc:Code} {tm:List (Nat×D)}:∀(n:Nat) (k:List II),zDp fc tm n k=true→∃m k',zBm fc tm m k=some k'∧(k'=[]∨∃p k'',k'= .c p::k''∧sub fc p= .ret)
 |0,k,h=>by cases h
 |n+1,k,h=>by
  unfold zDp at h
  split at h
  ·exact ⟨0,[],rfl,.inl rfl⟩
  ·rename_i q r
   split at h
   ·rename_i hs
    exact ⟨0,_,rfl,.inr ⟨q,r,rfl,hs⟩⟩
   ·split at h
    ·rename_i k2 hk2
     obtain ⟨m,k',h1,h2⟩:=tX n k2 h
     exact ⟨m+1,k',by simp only [zBm,hk2]; exact h1,h2⟩
    ·cases h
  ·split at h
   ·rename_i k2 hk2
    obtain ⟨m,k',h1,h2⟩:=tX n k2 h
    exact ⟨m+1,k',by simp only [zBm,hk2]; exact h1,h2⟩
   ·cases h
section
variable {Γ:Ctx} {fc:Code} {k:List II} {σ:St} {T:Type} {K:T→Option (D×List Ent)}
theorem zL {p:Nat}:zAt Γ fc p []:=trivial
def zDO (fc:Code) (tm:List (Nat×D)) (p:Nat) (k:List II):Bool:=match zDy fc tm p 60 k with
 |some r=>IIs.eq r (aft fc p)
 |none=>false
theorem J_g {e:Option T} (p:Nat) (ids:List (Nat×Nat)) (tm2:List (Nat×D)) (hp2:List (Nat×Ent)) {orc:List (Nat×Cert)} (hor:zAt Γ fc p orc) (hj:J Γ fc (aft fc p) (St.mk' tm2 hp2) e K)
  (h:(zDO fc σ.tm p k&&Γ.P.follows .mixedOrders,(chk Γ.P Γ.nt Γ.m fc p orc ids σ tm2 hp2).1,(chk Γ.P Γ.nt Γ.m fc p orc ids σ tm2 hp2).2.2.1,(chk Γ.P Γ.nt Γ.m fc p orc ids σ tm2 hp2).2.2.2.2)=
   (true,(chk Γ.P Γ.nt Γ.m fc p orc ids σ tm2 hp2).2.1,(chk Γ.P Γ.nt Γ.m fc p orc ids σ tm2 hp2).2.2.2.1,true):=by kernel_rfl):J Γ fc k σ e K:=by
 simp only [Prod.mk.injEq,Bool.and_eq_true] at h
 obtain ⟨⟨h0,hm⟩,h1,h2,h3⟩:=h
 unfold zDO at h0
 split at h0
 ·rename_i r hr
  obtain ⟨m,hm2⟩:=jE _ _ _ hr
  rw [IIs.jD h0] at hm2
  refine zC7 m _ hm2 (zEe orc ids tm2 hp2 hm hor ?_ hj)
  simp only [Prod.mk.injEq]
  exact ⟨h1,h2,h3⟩
 ·cases h0
theorem zEp {b:Bool} {x y:Option T} (t:Nat) (hl:lk σ.tm t=some (.sc (.bool b)):=by kernel_rfl) (h1:b=true→J Γ fc k ⟨(t,.sc (.bool true))::σ.tm,σ.hp,σ.us⟩ x K) (h2:b=false→J Γ fc k ⟨(t,.sc (.bool false))::σ.tm,σ.hp,σ.us⟩ y K):
  J Γ fc k σ (if b then x else y) K:=by
 cases b with
 |true=>exact zDC true hl rfl (h1 rfl)
 |false=>exact zDC false hl rfl (h2 rfl)
theorem zDK {e:Option T} {k':List II} {tm2:List (Nat×D)} {hp2:List (Nat×Ent)} (hj:J Γ fc k' (St.mk' tm2 hp2) e K)
  (h:(zCz fc σ.tm k' 60 k,tm2.map (fun x=>lk σ.tm x.1),hp2.map (fun x=>lk σ.hp x.1),wO (hp2.map (·.1)))=(true,tm2.map (fun x=>some x.2),hp2.map (fun x=>some x.2),true):=by kernel_rfl):J Γ fc k σ e K:=by
 simp only [Prod.mk.injEq] at h
 obtain ⟨m,hm⟩:=zAq _ _ h.1
 refine zC7 m _ hm (zBd tm2 hp2 ?_ hj)
 simp only [Prod.mk.injEq]
 exact h.2
theorem J_b {S:Type} {g:S→Option T} {s:S} {k':List II} {tm2:List (Nat×D)} {hp2:List (Nat×Ent)} (hj:J Γ fc k' (St.mk' tm2 hp2) (g s) K)
 (h:(zCz fc σ.tm k' 60 k,tm2.map (fun x=>lk σ.tm x.1),hp2.map (fun x=>lk σ.hp x.1),wO (hp2.map (·.1)))=(true,tm2.map (fun x=>some x.2),hp2.map (fun x=>some x.2),true):=by kernel_rfl):
 J Γ fc k σ (some (Lp.go s)) (fun x=>(Lp.elim g x).bind K):=zEl (zDK hj h)
theorem zBS {V:Type} {v:V} {w:T} {K0:V→Option (D×List Ent)} {k':List II} {tm2:List (Nat×D)} {hp2:List (Nat×Ent)} (hj:J Γ fc k' (St.mk' tm2 hp2) (some v) K0) (hK:K w=K0 v)
 (h:(zCz fc σ.tm k' 60 k,tm2.map (fun x=>lk σ.tm x.1),hp2.map (fun x=>lk σ.hp x.1),wO (hp2.map (·.1)))=(true,tm2.map (fun x=>some x.2),hp2.map (fun x=>some x.2),true):=by kernel_rfl):
 J Γ fc k σ (some w) K:=J_q (zDK hj h) hK
theorem zDL {U:Type} {y:Option U} {f:U→Option T} {k':List II} {tm2:List (Nat×D)} {hp2:List (Nat×Ent)} (hj:J Γ fc k' (St.mk' tm2 hp2) y (fun x=>(f x).bind K))
 (h:(zCz fc σ.tm k' 60 k,tm2.map (fun x=>lk σ.tm x.1),hp2.map (fun x=>lk σ.hp x.1),wO (hp2.map (·.1)))=(true,tm2.map (fun x=>some x.2),hp2.map (fun x=>some x.2),true):=by kernel_rfl):
 J Γ fc k σ (y.bind f) K:=jX (zDK hj h)
theorem zCh {R V:Type} {y:Option (Fl R V)} {K0:R→Option (D×List Ent)} {fr:R→Option T} {rest:V→Option T} {k':List II} {tm2:List (Nat×D)} {hp2:List (Nat×Ent)} (hr:∀r,(fr r).bind K=K0 r)
 (hj:J Γ fc k' (St.mk' tm2 hp2) y (Fl.go K0 (fun v=>(rest v).bind K)))
 (h:(zCz fc σ.tm k' 60 k,tm2.map (fun x=>lk σ.tm x.1),hp2.map (fun x=>lk σ.hp x.1),wO (hp2.map (·.1)))=(true,tm2.map (fun x=>some x.2),hp2.map (fun x=>some x.2),true):=by kernel_rfl):
 J Γ fc k σ (y.bind (Fl.go fr rest)) K:=zD0 hr (zDK hj h)
def zEb (P:Program) (f:FuncId):List ResultVar:=match P.funcs[f]? with
 |some fn=>fn.results.toList
 |none=>[]
theorem zCs {P:Program} {f:FuncId} (h:(P.funcs[f]?).isSome =true):∃fn,P.funcs[f]? =some fn∧fn.results.toList=zEb P f:=by
 unfold zEb
 cases hf:P.funcs[f]? with
 |none=>rw [hf] at h; cases h
 |some fn=>exact ⟨fn,rfl,rfl⟩
def D.plain:D→Bool
 | .ag cs=>cs.all D.nest
 |d=>d.nest
theorem Ret.plain {hn:List (Nat×Ent)} {d:D} (h:d.plain=true):Ret hn d d []:=by
 cases d with
 |ag cs=>exact .ag (Emb.uT hn cs h)
 |_=>exact .cell (.keep h .nil)
theorem zAV.plain {hn:List (Nat×Ent)}:∀{ds:List D},ds.all D.plain=true→zAV hn ds ds []
 |[],_=>.nil
 |d::ds,h=>by
  simp only [List.all_cons,Bool.and_eq_true] at h
  exact .cons (t1:=[]) (Ret.plain h.1) (zAV.plain h.2) (by simp)
theorem zAQ:∀{cs:List D},cs.all D.nest=true→D.men.wI cs=[]
 |[],_=>rfl
 |d::cs,h=>by
  simp only [List.all_cons,Bool.and_eq_true] at h
  simp only [D.men.wI,zAQ h.2,List.append_nil]
  have:=h.1
  cases d<;>simp_all [D.nest,D.men]
theorem uY:∀{ds:List D},ds.all D.plain=true→D.men.wI ds=[]
 |[],_=>rfl
 |d::ds,h=>by
  simp only [List.all_cons,Bool.and_eq_true] at h
  simp only [D.men.wI,uY h.2,List.append_nil]
  have:=h.1
  cases d with
  |ag cs=>simp only [D.men]; exact zAQ this
  |_=>simp_all [D.plain,D.nest,D.men]
def zAG (Γ:Ctx) (fc:Code) (k:List II) (σ:St) (hout:List Ent):Bool×Option (List D)×List (Option Ent)×Bool×List Nat×Bool:=
 (zDp fc σ.tm 60 k,zCM Γ.P σ.tm σ.hp (zEb Γ.P Γ.fid),(wP hout).map (fun x=>lk σ.hp x.1),Nat.ble hout.length Γ.m,hout.flatMap Ent.men,(Γ.P.funcs[Γ.fid]?).isSome)
theorem zBq {v:T} {ds ds':List D} {ts:List Nat} {hout:List Ent} (hret:zAV σ.hp ds ds' ts) (hK:K v=some (zBU ds',hout))
  (h:(zAG Γ fc k σ hout,D.men.wI ds',ts.all (fun t=>Nat.ble hout.length t))=((true,some ds,(wP hout).map (fun x=>some x.2),true,[],true),[],true):=by kernel_rfl):J Γ fc k σ (some v) K:=by
 simp only [zAG,Prod.mk.injEq] at h
 obtain ⟨⟨h1,h2,h3,h4,h5,h6⟩,h7,h8⟩:=h
 obtain ⟨m,k',g1,g2⟩:=tX _ _ h1
 obtain ⟨fn,g3,g4⟩:=zCs h6
 refine zC7 m k' g1 (zDW g2 g3 g4 (jG h2) hret (fun x hx=>⟨wJ h3 x hx,fun ht=>?_⟩) (Nat.le_of_ble_eq_true h4) (by rw [h7]; simp) (fun e he t ht=>?_) hK)
 ·have h1:=Nat.le_of_ble_eq_true (List.all_eq_true.1 h8 _ ht)
  have h2:=(List.getElem?_eq_some_iff.1 (zAp.1 hx)).1
  omega
 ·have:t∈hout.flatMap Ent.men:=List.mem_flatMap.2 ⟨e,he,ht⟩
  rw [h5] at this
  simp at this
theorem wG {v:T} {d:D} {hout:List Ent} (hK:K v=some (d,hout))
  (h:(zAG Γ fc k σ hout,d.plain)=((true,some [d],(wP hout).map (fun x=>some x.2),true,[],true),true):=by kernel_rfl):J Γ fc k σ (some v) K:=by
 simp only [Prod.mk.injEq] at h
 have hp:[d].all D.plain=true:=by simpa using h.2
 refine zBq (ds:=[d]) (ds':=[d]) (ts:=[]) (zAV.plain hp) hK ?_
 simp only [Prod.mk.injEq]
 exact ⟨h.1,uY hp,rfl⟩
theorem zDH {v:T} {ds:List D} {hout:List Ent} (hK:K v=some (.tu ds,hout))
  (h:(zAG Γ fc k σ hout,ds.all D.plain,ds.length==1)=((true,some ds,(wP hout).map (fun x=>some x.2),true,[],true),true,false):=by kernel_rfl):J Γ fc k σ (some v) K:=by
 simp only [Prod.mk.injEq] at h
 obtain ⟨h1,hp,hl⟩:=h
 have:zBU ds= .tu ds:=by
  match ds,hl with
  |[],_=>rfl
  |d1::d2::ds,_=>rfl
 refine zBq (ds:=ds) (ds':=ds) (ts:=[]) (zAV.plain hp) (by rw [this]; exact hK) ?_
 simp only [Prod.mk.injEq]
 exact ⟨h1,uY hp,rfl⟩
end
def OpV (Γ:Ctx) (op:Op) (c:Cert):Prop:=∀(ops:Array Oper) (o:Oper),o.op=op→o.guard=none→Valid Γ ops o c
def zDU (Γ:Ctx) (op:Op) (c:Cert):Prop:=∀(ops:Array Oper) (o:Oper),o.op=op→o.guard=none→o.dst=none→Valid Γ ops o c
section
variable {Γ:Ctx} {fc:Code} {p:Nat}
theorem xD {rest:List (Nat×Cert)} {op:Op} {c:Cert} (i:Nat) (hv:OpV Γ op c) (hr:zAt Γ fc p rest) (h:(opAt fc p i).map (fun o=>(o.op,o.guard))=some (op,none):=by kernel_rfl):zAt Γ fc p ((i,c)::rest):=
 ⟨zEr h hv,hr⟩
theorem zEa {rest:List (Nat×Cert)} {op:Op} {c:Cert} (i:Nat) (hv:zDU Γ op c) (hr:zAt Γ fc p rest) (h:(opAt fc p i).map (fun o=>(o.op,o.guard,o.dst))=some (op,none,none):=by kernel_rfl):zAt Γ fc p ((i,c)::rest):=
 ⟨zDR h hv,hr⟩
theorem zEi {rest:List (Nat×Cert)} {op:Op} {c:Cert} (i g t:Nat) (b:Bool) (hv:OpV Γ op c) (hr:zAt Γ fc p rest) (h:((opAt fc p i).map (fun o=>(o.op,o.guard)),zCT fc p g)=(some (op,some (g,b)),some t):=by kernel_rfl):
  zAt Γ fc p ((i,{c with tn:=(t,.sc (.bool b))::c.tn})::rest):=by
 simp only [Prod.mk.injEq] at h
 exact ⟨zEn h.1 h.2 hv,hr⟩
def tnO (x:Operand) (d:D):List (Nat×D):=match x with
 | .tmp t=>[(t,d)]
 |_=>[]
def OkO (x:Operand) (d:D):Prop:=match x with
 | .tmp _=>True
 | .const v=>d= .sc v
 | .func f=>d= .fn f []
 | .global _=>False
theorem OkO.f {c:Cert} {x:Operand} {d:D} (h:OkO x d) (hs:∀y∈tnO x d,y∈c.tn):OpF c x d:=by
 cases x with
 |tmp t=>exact hs _ (by simp [tnO])
 |const v=>exact h
 |func f=>exact h
 |global g=>exact h.elim
theorem zBW {α:Type} {xs:List α} {i:Int} {a:α} {kk:IntKind} (T el z:Nat) (enc:α→List D) (x y:Operand) (h:idx xs i=some a) (hx:OkO x (.s false z xs.length (xs.map enc)):=by trivial) (hy:OkO y (.sc (.int kk i)):=by first|trivial|rfl)
  (hT:(zK Γ.P (underlying T),tO Γ.P el)=(some (.slice el),some z):=by kernel_rfl):OpV Γ (.indexAddr T x y) {tn:=tnO x (.s false z xs.length (xs.map enc))++tnO y (.sc (.int kk i)),out:=some (.ps (enc a))}:=by
 simp only [Prod.mk.injEq] at hT
 intro ops o hop hg
 exact zCR h hg hop rfl (hx.f (fun y hy=>List.mem_append_left _ hy)) (hy.f (fun y hy=>List.mem_append_right _ hy)) hT.1 hT.2
theorem zCH {α:Type} {xs:List α} {i:Int} {a:α} {kk:IntKind} (T el z t:Nat) (enc:α→List D) (x y:Operand) (h:idx xs i=some a) (hx:OkO x (.rf t 0 xs.length none):=by trivial) (hy:OkO y (.sc (.int kk i)):=by first|trivial|rfl)
  (hT:(zK Γ.P (underlying T),tO Γ.P el)=(some (.slice el),some z):=by kernel_rfl):
  OpV Γ (.indexAddr T x y) {tn:=tnO x (.rf t 0 xs.length none)++tnO y (.sc (.int kk i)),hn:=[(t,rE z enc xs)],out:=some (.pt t i.toNat 0)}:=by
 simp only [Prod.mk.injEq] at hT
 intro ops o hop hg
 exact zBb h hg hop rfl (hx.f (fun y hy=>List.mem_append_left _ hy)) (hy.f (fun y hy=>List.mem_append_right _ hy)) (.head _) hT.1 hT.2
theorem zDV {α:Type} {xs:List α} {i:Int} {a:α} {kk:IntKind} (T el z t:Nat) (enc:α→List D) (x y:Operand) (a0 b0 t' n':Nat) (h:idx xs i=some a) (hx:OkO x (.rf t 0 xs.length none):=by trivial) (hy:OkO y (.sc (.int kk i)):=by first|trivial|rfl)
  (hT:(zK Γ.P (underlying T),tO Γ.P el)=(some (.slice el),some z):=by kernel_rfl):
  OpV Γ (.indexAddr T x y) {tn:=tnO x (.rf t 0 xs.length none)++tnO y (.sc (.int kk i)),hn:=[(t,.lent z (xs.map enc) a0 b0 t' n')],out:=some (.pt t i.toNat 0)}:=by
 simp only [Prod.mk.injEq] at hT
 intro ops o hop hg
 exact zAo h hg hop rfl (hx.f (fun y hy=>List.mem_append_left _ hy)) (hy.f (fun y hy=>List.mem_append_right _ hy)) (.head _) hT.1 hT.2
theorem zDN {α:Type} (T t:Nat) (x:Operand) (z:Nat) (enc:α→List D) (xs:List α) (i j t' n:Nat) (hd:wH Γ.P T [.rf t' 0 n none]=some (.rf t' 0 n none):=by kernel_rfl) (hx:OkO x (.pt t i j):=by trivial):
  OpV Γ (.load T x) {tn:=tnO x (.pt t i j),hn:=[(t,.lent z (xs.map enc) i j t' n)],out:=some (.rf t' 0 n none)}:=by
 intro ops o hop hg
 exact zAB hg hop rfl (hx.f (fun y hy=>hy)) (.head _) hd
theorem zBe {s1 s2 s:ByteArray} (T U:Nat) (x y:Operand) (h:cat s1 s2=some s) (hx:OkO x (.sc (.string s1)):=by first|trivial|rfl) (hy:OkO y (.sc (.string s2)):=by first|trivial|rfl):
  OpV Γ (.binOp .add T x y U) {tn:=tnO x (.sc (.string s1))++tnO y (.sc (.string s2)),out:=some (.sc (.string s))}:=by
 intro ops o hop hg
 exact zCu h hg hop rfl (hx.f (fun y hy=>List.mem_append_left _ hy)) (hy.f (fun y hy=>List.mem_append_right _ hy))
theorem zCD {α:Type} {xs:List α} (T el U z:Nat) (enc:α→List D) (x:Operand) (hx:OkO x (.s false z xs.length (xs.map enc)):=by trivial) (hT:zK Γ.P (underlying T)=some (.slice el):=by kernel_rfl):
  OpV Γ (.binOp .eql T x (.const (.slice none 0 0)) U) {tn:=tnO x (.s false z xs.length (xs.map enc)),out:=some (.nb xs.length)}:=by
 intro ops o hop hg
 exact zCZ hg hop rfl (hx.f (fun y hy=>hy)) hT
def tnB (x:Option Operand) (i:Int):List (Nat×D):=match x with
 |some y=>tnO y (.sc (.int .i64 i))
 |none=>[]
def OkB (x:Option Operand) (dflt i:Int):Prop:=match x with
 |some y=>OkO y (.sc (.int .i64 i))
 |none=>i=dflt
theorem OkB.f {c:Cert} {x:Option Operand} {dflt:Nat} {i:Int} (h:OkB x dflt i) (hs:∀y∈tnB x i,y∈c.tn):zDl c x dflt i:=by
 cases x with
 |none=>exact h
 |some y=>exact ⟨_,OkO.f (d:=.sc (.int .i64 i)) h hs⟩
theorem zEm {s r:ByteArray} {l hi:Int} (T:Nat) (x:Operand) (lo ho:Option Operand) (h:zDn s l hi=some r) (hx:OkO x (.sc (.string s)):=by first|trivial|rfl) (hl:OkB lo (0:Nat) l:=by first|trivial|rfl) (hh:OkB ho s.size hi:=by first|trivial|rfl) (hT:zK Γ.P (underlying T)=some .string :=by kernel_rfl):
  OpV Γ (.slice T x lo ho none) {tn:=tnO x (.sc (.string s))++(tnB lo l++tnB ho hi),out:=some (.sc (.string r))}:=by
 intro ops o hop hg
 exact zDs h hg hop rfl (hx.f (fun y hy=>List.mem_append_left _ hy)) (hl.f (fun y hy=>List.mem_append_right _ (List.mem_append_left _ hy))) (hh.f (fun y hy=>List.mem_append_right _ (List.mem_append_right _ hy))) hT
end
end Go.Im

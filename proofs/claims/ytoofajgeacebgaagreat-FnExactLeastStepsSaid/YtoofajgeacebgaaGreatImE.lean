import Derived.Test.YtoofajgeacebgaaGreatImD
import Derived.Lib.Bytealg
set_option linter.unusedVariables false
namespace Go.Im
open Go
section
variable {Γ:Ctx} {fc:Code} {k:List II} {σ:St} {T:Type} {K:T→Option (D×List Ent)}
theorem zOG {e0:Option T} (t i j t':Nat) {z z' n:Nat} {xs ys:List (List D)} {e:List D} (hl:lk σ.hp t=some (.lent z xs i j t' n)) (hl':lk σ.hp t'=some (.row z' ys)) (hne:(t==t')=false) (he:xs[i]? =some e) (hjlt:j<e.length) (hyl:ys.length=n)
  (hj:J Γ fc k ⟨σ.tm,(t,.row z (xs.set i (e.set j (.s true z' n ys))))::(σ.hp.filter (fun x=>x.1 !=t)).filter (fun x=>x.1 !=t'),σ.us⟩ e0 K):J Γ fc k σ e0 K:=by
 refine zFt (fun a w hr=>?_) hj
 obtain ⟨h0,β,bs,h⟩:=hr
 have hne:t≠t':=by simpa using hne
 obtain ⟨b1,bk,p,⟨hnil,hLz,hzz,ws,hO,hE,v,hget,hv⟩,hrest⟩:=uK.take h.hp h.keys (zBG hl)
 have hkf:((σ.hp.filter (fun x=>x.1 !=t)).map (·.1)).Nodup :=List.Nodup.sublist (List.Sublist.map _ List.filter_sublist) h.keys
 obtain ⟨c1,ck,p2,⟨hLz',hzz',hrow'⟩,hrest2⟩:=uK.take hrest hkf (List.mem_filter.2 ⟨zBG hl',by simpa using Ne.symm hne⟩)
 have hlt:i<xs.length:=(List.getElem?_eq_some_iff.1 he).1
 have hel:e.length=z:=hzz e (List.mem_of_getElem? he)
 have hmod:=modify_eq (z:=z) (j:=j) he (fun c=>c.set j .un)
 have hzm:∀x∈xs.modify i (fun c=>c.set j .un),x.length=z:=by
  intro x hx
  rw [hmod] at hx
  rcases List.mem_append.1 hx with hx|hx
  ·exact hzz x (List.mem_of_mem_take hx)
  ·rcases List.mem_cons.1 hx with rfl|hx
   ·simpa using hel
   ·exact hzz x (List.mem_of_mem_drop hx)
 have hme:(xs.modify i (fun c=>c.set j .un))[i]? =some (e.set j .un):=by
  rw [List.getElem?_modify,he]; simp
 obtain ⟨q1,q2,q3,eb,hs2,hs1,hs3⟩:=hE.get hzm hme
 obtain ⟨p1,p2',e1,hs4,hs5⟩:=hs2.split j
 have hdj:(e.set j D.un).drop j= .un ::e.drop (j+1):=by
  rw [List.drop_eq_getElem_cons (by simpa using hjlt)]
  congr 1
  ·simp
  ·rw [List.drop_set_of_lt (by omega)]
 have htj:(e.set j D.un).take j=e.take j:=List.take_set_of_le (Nat.le_refl _)
 rw [hdj] at hs5
 rw [htj] at hs4
 simp only [zI] at hs5
 obtain ⟨v',vs,d1,d2,ev,e2,hun,hrest5⟩:=hs5
 simp only [Rep] at hun
 obtain ⟨hone,rfl⟩:=hun
 have hwsl:=hE.length hzm
 rw [List.length_modify] at hwsl
 have hiz:i*z+z≤ws.length:=by
  rw [hwsl,←Nat.succ_mul]; exact Nat.mul_le_mul_right _ hlt
 have hvv:v'=v:=by
  have:(((ws.drop (i*z)).take z).drop j)[0]? =some v':=by rw [ev]; rfl
  rw [List.getElem?_drop,List.getElem?_take,if_pos (by omega),List.getElem?_drop] at this
  simp only [Nat.add_zero] at this
  rw [hget] at this
  cases this
  rfl
 subst hvv
 have hS:Rep β (NS Γ w bs) w false (.s true z' n ys) v' ((β t').own ++c1):=by
  simp only [Rep] at hv ⊢
  refine ⟨hyl,hzz',?_⟩
  obtain ⟨_,_,hv⟩:=hv
  rcases hv with ⟨hn',_,rfl,rfl⟩|⟨hn',c,rfl,hc,hroom,_⟩
  ·rcases hrow' with ⟨_,rfl,rfl⟩|⟨hn2,_⟩
   ·exact ⟨none,0,rfl,Nat.le_refl _,.inl ⟨rfl,by simp [Loc.own,hn'],fun _=>⟨rfl,rfl⟩⟩⟩
   ·rw [hn'] at hn2; cases hn2
  ·rcases hrow' with ⟨hn2,_⟩|⟨_,ws',hO',hE'⟩
   ·rw [hn'] at hn2; cases hn2
   ·refine ⟨_,c,rfl,hc,.inr (.inr ⟨trivial,(β t').b,_,ws',c1,rfl,by simp [Loc.own,hn'],?_,hE'⟩)⟩
    obtain ⟨arr,et,lo,hi,g1,g2,g3,g4⟩:=hO'
    refine ⟨arr,et,lo,hi,g1,g2,?_,?_⟩
    ·rw [hLz'] at hroom
     have:(0+c)*z'=c*z':=by rw [Nat.zero_add]
     omega
    ·simpa using g4
 have hperm:bs.Perm ((β t).own ++((q1++(p1++(((β t').own ++c1)++d2))++q3)++ck)):=by
  refine p.trans (List.Perm.append_left _ ?_)
  refine (List.Perm.append_left _ p2).trans ?_
  rw [eb,e1,e2]
  simp only [List.append_assoc,List.nil_append]
  refine List.Perm.append_left _ (List.Perm.append_left _ ?_)
  have h1:((d2++q3)++((β t').own ++c1)).Perm (((β t').own ++c1)++(d2++q3)):=List.perm_append_comm
  have h2:=List.Perm.append_right ck h1
  simpa only [List.append_assoc] using h2
 have hNS:∀b,NS Γ w bs b→NS Γ w ((β t).own ++((q1++(p1++(((β t').own ++c1)++d2))++q3)++ck)) b:=fun b hb=>NS.sub (fun x hx=>hperm.mem_iff.2 hx) hb
 have hfrm:∀b,NS Γ w bs b→NS Γ w ((β t).own ++((q1++(p1++(((β t').own ++c1)++d2))++q3)++ck)) b∧w.heap[b]? =w.heap[b]? :=fun b hb=>⟨hNS b hb,rfl⟩
 refine ⟨?_,β,_,{defers:=h.defers,size:=h.size,keys:=?_,par:=h.par,grow:=h.grow,gh:=h.gh,quiet:=h.quiet,keep:=h.keep,hp:=⟨_,ck,rfl,?_,?_⟩,nodup:=hperm.nodup_iff.1 h.nodup,own:=fun b hb=>h.own b (hperm.mem_iff.2 hb),tm:=?_}⟩
 ·intro q hq
  rcases hq with hq|hq
  ·exact h0 q (.inl hq)
  ·simp only [zFB,List.flatMap_cons,Ent.men,List.mem_append,List.mem_cons,List.not_mem_nil,or_false] at hq
   rcases hq with rfl|hq
   ·exact h0 q (.inr (List.mem_flatMap.2 ⟨_,zBG hl,by simp⟩))
   ·obtain ⟨x,hx,hx'⟩:=List.mem_flatMap.1 hq
    exact h0 q (.inr (List.mem_flatMap.2 ⟨x,(List.mem_filter.1 (List.mem_filter.1 hx).1).1,hx'⟩))
 ·simp only [List.map_cons,List.nodup_cons]
  refine ⟨fun hin=>?_,List.Nodup.sublist (List.Sublist.map _ List.filter_sublist) hkf⟩
  obtain ⟨x,hx,hx'⟩:=List.mem_map.1 hin
  have:=(List.mem_filter.1 (List.mem_filter.1 hx).1).2
  simp [hx'] at this
 ·refine ⟨hLz,?_,.inr ⟨hnil,ws,hO,?_⟩⟩
  ·intro x hx
   rcases List.mem_or_eq_of_mem_set hx with hx|rfl
   ·exact hzz x hx
   ·simpa using hel
  ·have m1:=zU.frame (β':=β) hfrm _ _ _ (fun _ _=>rfl) hs1
   have m2:=zI.zFI (β':=β) hfrm _ _ _ (fun _ _=>rfl) hs4
   have m3:=zI.zFI (β':=β) hfrm _ _ _ (fun _ _=>rfl) hrest5
   have m5:=zU.frame (β':=β) hfrm _ _ _ (fun _ _=>rfl) hs3
   have mS:=Rep.frame (β':=β) hfrm _ false v' _ (fun _ _=>rfl) (by simp [D.men]) hS
   have mu:zI β (NS Γ w ((β t).own ++((q1++(p1++(((β t').own ++c1)++d2))++q3)++ck))) w false [.s true z' n ys] [v'] ((β t').own ++c1):=by
    simp only [zI]
    exact ⟨v',[],_,[],rfl,by simp,mS,rfl,rfl⟩
   have key:=m1.append (zU.cons (m2.append (mu.append m3)) m5)
   have ee:e.set j (.s true z' n ys)=e.take j++([D.s true z' n ys]++e.drop (j+1)):=by
    rw [List.set_eq_take_append_cons_drop,if_pos hjlt]; rfl
   have ex:xs.set i (e.set j (.s true z' n ys))=(xs.modify i (fun c=>c.set j .un)).take i++(e.set j (.s true z' n ys))::(xs.modify i (fun c=>c.set j .un)).drop (i+1):=by
    have hti:(xs.take i).length =i:=by simp; omega
    rw [List.set_eq_take_append_cons_drop,if_pos hlt,hmod]
    congr 1
    ·rw [List.take_append_of_le_length (by omega),List.take_take,Nat.min_self]
    ·congr 1
     have hcons:∀(l:List (List D)) (r:List (List D)) (q:List D),l.length=i→(l++q::r).drop (i+1)=r:=by
      intro l r q hl2
      subst hl2
      simp [List.drop_append]
     exact (hcons _ _ _ hti).symm
   have ew:ws=ws.take (i*z)++((((ws.drop (i*z)).take z).take j++([v']++vs))++ws.drop ((i+1)*z)):=by
    have u1:((ws.drop (i*z)).take z).take j++([v']++vs)=(ws.drop (i*z)).take z:=by
     have:[v']++vs=((ws.drop (i*z)).take z).drop j:=by rw [ev]; rfl
     rw [this,List.take_append_drop]
    have u2:ws.drop ((i+1)*z)=(ws.drop (i*z)).drop z:=by rw [List.drop_drop]; congr 1; rw [Nat.add_mul]; omega
    rw [u1,u2,List.take_append_drop,List.take_append_drop]
   rw [ex,ee]
   rw [ew]
   simp only [List.append_assoc] at key ⊢
   exact key
 ·exact uK.frame (fun b hb=>⟨hNS b hb,rfl⟩) _ _ (fun _ _=>rfl) (fun _ _=>rfl) hrest2
 ·intro q d hd
  obtain ⟨u,h1,h2⟩:=h.tm q d hd
  exact ⟨u,h1,Rep.frame (fun b hb=>⟨hNS b hb,rfl⟩) d true u [] (by simp) (fun _ _=>rfl) h2⟩
end
section
variable {Γ:Ctx} {ops:Array Oper} {o:Oper}
theorem zJe {c:Cert} {x y:Operand} {T el:TypeId} {k:IntKind} {z n t off j a0 b0 t' n':Nat} {i:Int} {cap:Option Nat} {xs:List (List D)} (hg:o.guard=none) (hop:o.op= .indexAddr T x y)
  (hc:c= {tn:=c.tn,hn:=c.hn,out:=some (.pt t j 0)}) (hx:OpF c x (.rf t off n cap)) (hy:OpF c y (.sc (.int k i))) (hT:yO Γ.P (underlying T)=some (.slice el)) (hz:zF0 Γ.P el=some z)
  (hi:0≤i) (hj:i<n) (hjj:off+i.toNat=j) (hh:(t,.lent z xs a0 b0 t' n')∈c.hn):Valid Γ ops o c:=by
 refine jE (d:=.pt t j 0) (f:=fun ρ=>Instr.indexAt T (ρ x) (ρ y)) hg (fun ρ=>by simp [execOp,hop]) (by rw [hc]) fun β bs σ a w hn hr=>?_
 have h1:=OpF.rep hx hn hr
 have h2:=OpF.rep hy hn hr
 obtain ⟨_,⟨_,hLz,_⟩,_⟩:=uK.get hr.hp (hn.2.1 _ hh)
 simp only [Rep] at h1 h2
 obtain ⟨_,_,⟨_,_,rfl,_⟩|⟨hnil,cp,hv,hcap,hroom,_⟩⟩:=h1
 ·omega
 ·refine ⟨.pointer (some ⟨(β t).b,(β t).o +j*(β t).z +0,none⟩),?_,by simp only [Rep]; exact ⟨trivial,trivial,hnil,trivial⟩⟩
  rw [h2.1,hv]
  unfold Instr.indexAt
  rw [run_bind_ok (a:=(k,i)) (w':=w) rfl]
  simp only
  rw [run_bind_ok (zL _ _ w hT)]
  simp only
  rw [run_bind_ok (a:=(some (⟨(β t).b,(β t).o +off*(β t).z,none⟩:Addr),n,el)) (w':=w) rfl]
  rw [run_bind_ok (zL _ _ w hT)]
  simp only
  rw [if_pos ⟨hi,hj⟩]
  rw [run_bind_ok (zL _ _ w hz)]
  rw [zDr,hLz,←hjj,Nat.add_mul,Nat.add_assoc]
  rfl
theorem zJc {c:Cert} {x y:Operand} {T el:TypeId} {k:IntKind} {z t a0 b0 t' n':Nat} {i:Int} {cap:Option Nat} {α:Type} {enc:α→List D} {xs:List α} {a:α} (h:idx xs i=some a) (hg:o.guard=none) (hop:o.op= .indexAddr T x y)
  (hc:c= {tn:=c.tn,hn:=c.hn,out:=some (.pt t i.toNat 0)}) (hx:OpF c x (.rf t 0 xs.length cap)) (hy:OpF c y (.sc (.int k i))) (hh:(t,.lent z (xs.map enc) a0 b0 t' n')∈c.hn) (hT:yO Γ.P (underlying T)=some (.slice el)) (hz:zF0 Γ.P el=some z):Valid Γ ops o c:=by
 obtain ⟨h1,h2⟩:=zEu h
 have hlt:=(List.getElem?_eq_some_iff.1 h2).1
 exact zJe hg hop hc hx hy hT hz h1 (by omega) (Nat.zero_add _) hh
theorem zJW {c:Cert} {x:Operand} {T:TypeId} {z t i j t' n:Nat} {xs:List (List D)} (hg:o.guard=none) (hop:o.op= .load T x) (hc:c= {tn:=c.tn,hn:=c.hn,out:=some (.rf t' 0 n none)})
  (hx:OpF c x (.pt t i j)) (hh:(t,.lent z xs i j t' n)∈c.hn) (hd:zBR Γ.P T [.rf t' 0 n none]=some (.rf t' 0 n none)):Valid Γ ops o c:=by
 refine jE (d:=.rf t' 0 n none) (f:=fun ρ=>Instr.loadAt T (ρ x)) hg (fun ρ=>by simp [execOp,hop]) (by rw [hc]) fun β bs σ a w hn hr=>?_
 have h1:=OpF.rep hx hn hr
 simp only [Rep] at h1
 obtain ⟨b1,⟨hnil,hLz,hzz,ws,hO,hE,v,hget,hv⟩,_,_⟩:=uK.get hr.hp (hn.2.1 _ hh)
 have hlt:i*z+j<ws.length:=(List.getElem?_eq_some_iff.1 hget).1
 have hH:Has w (β t).b ((β t).o +(i*z+j)) [v]:=by
  have:=hO.cells (i*z+j) 1
  have e:(ws.drop (i*z+j)).take 1=[v]:=by
   rw [List.drop_eq_getElem_cons hlt]
   simp [(List.getElem?_eq_some_iff.1 hget).2]
  rw [e] at this
  exact this
 have hone:v.oneCell=true:=Rep.oneCell (by trivial) hv
 have hcs:zI β (NS Γ w bs) w true [.rf t' 0 n none] [v] []:=by
  simp only [zI]
  exact ⟨v,[],[],[],rfl,rfl,hv,rfl,rfl⟩
 obtain ⟨u,h7,h8⟩:=zDQ hd hH (by simpa using hone) hcs
 refine ⟨u,?_,h8⟩
 rw [h1.2.2.2,hLz,Nat.add_assoc]
 exact h7
end
end Go.Im
set_option linter.unusedVariables false
namespace Go.Im
open Go
section
variable {Γ:Ctx} {fc:Code} {k:List II} {σ:St} {T:Type} {K:T→Option (D×List Ent)}
mutual
inductive Fz (t z:Nat) (xs:List (List D)):D→D→Prop where
 |same {d:D}:d.men=[]→Fz t z xs d d
 |keep {d:D}:d.men.contains t=false→Fz t z xs d d
 |rf {off n:Nat} {cap:Option Nat} {ys:List (List D)}:off+n≤xs.length→ys=((D.ro.roE xs).drop off).take n→Fz t z xs (.rf t off n cap) (.s false z n ys)
 |fn {f:FuncId} {cs cs':List D}:FzL t z xs cs cs'→Fz t z xs (.fn f cs) (.fn f cs')
 |ag {cs cs':List D}:FzL t z xs cs cs'→Fz t z xs (.ag cs) (.ag cs')
 |tu {cs cs':List D}:FzL t z xs cs cs'→Fz t z xs (.tu cs) (.tu cs')
inductive FzL (t z:Nat) (xs:List (List D)):List D→List D→Prop where
 |nil:FzL t z xs [] []
 |cons {d d':D} {ds ds':List D}:Fz t z xs d d'→FzL t z xs ds ds'→FzL t z xs (d::ds) (d'::ds')
end
mutual
theorem Fz.men {t z:Nat} {xs:List (List D)}:∀{d d':D},Fz t z xs d d'→∀q∈d'.men,q∈d.men∧q≠t
 |d,_,.same h=>by rw [h]; simp
 |d,_,.keep h=>fun q hq=>⟨hq,fun e=>by subst e; simp at h; exact h hq⟩
 |_,_,.rf _ _=>by simp [D.men]
 |_,_,.fn h=>by simpa [D.men] using FzL.men h
 |_,_,.ag h=>by simpa [D.men] using FzL.men h
 |_,_,.tu h=>by simpa [D.men] using FzL.men h
theorem FzL.men {t z:Nat} {xs:List (List D)}:∀{d d':List D},FzL t z xs d d'→∀q∈D.men.zE1 d',q∈D.men.zE1 d∧q≠t
 |_,_,.nil =>by simp [D.men.zE1]
 |_,_,.cons h1 h2=>fun q hq=>by
  simp only [D.men.zE1,List.mem_append] at hq ⊢
  rcases hq with hq|hq
  ·exact ⟨.inl (Fz.men h1 q hq).1,(Fz.men h1 q hq).2⟩
  ·exact ⟨.inr (FzL.men h2 q hq).1,(FzL.men h2 q hq).2⟩
end
theorem FzL.length {t z:Nat} {xs:List (List D)}:∀{d d':List D},FzL t z xs d d'→d'.length=d.length
 |_,_,.nil =>rfl
 |_,_,.cons _ h2=>by simp [FzL.length h2]
section
variable {β:Nat→Loc} {N N':Nat→Prop} {w:World} {t z:Nat} {xs:List (List D)}
mutual
theorem Fz.rep (hN:∀b,N b→N' b) {b1:List Nat} (hE:zCn β N w (β t) b1 (.row z xs)) (hb:∀b∈(β t).own ++b1,N' b):∀{d d':D} {v:Value},Fz t z xs d d'→Rep β N w true d v []→Rep β N' w true d' v []
 |d,_,v,.same hm,h=>Rep.frame (fun b hb=>⟨hN b hb,rfl⟩) d true v [] (by simp) (fun _ _=>rfl) h
 |d,_,v,.keep hm,h=>Rep.frame (fun b hb=>⟨hN b hb,rfl⟩) d true v [] (by simp) (fun _ _=>rfl) h
 | .rf _ off n cap,.s _ _ _ ys,v,.rf hle hys,h=>by
  obtain ⟨hLz,hzz,hrow⟩:=hE
  simp only [Rep] at h
  obtain ⟨_,_,h⟩:=h
  simp only [Rep]
  have hl:ys.length=n:=by rw [hys]; simp [zFo]; omega
  have hz:∀e∈ys,e.length=z:=fun e he=>by
   rw [hys] at he
   obtain ⟨e',he',rfl⟩:=zFz (List.mem_of_mem_drop (List.mem_of_mem_take he))
   rw [zDu]; exact hzz e' he'
  refine ⟨hl,hz,?_⟩
  rcases h with ⟨hnil,_,hn0,rfl⟩|⟨hnil,cp,rfl,hcap,hroom,_⟩
  ·exact ⟨none,0,by rw [hn0],by omega,.inl ⟨hn0,trivial,by simp⟩⟩
  ·refine ⟨_,cp,rfl,hcap,?_⟩
   rcases hrow with ⟨hnil',_⟩|⟨_,ws,hO,hE⟩
   ·rw [hnil] at hnil'; cases hnil'
   ·have q:=zU.ro (β':=β) (N':=N') hN xs ws b1 (fun b hb'=>hb b (List.mem_append_right _ hb')) hE
    have hzr:∀e∈D.ro.roE xs,e.length=z:=fun e he=>by
     obtain ⟨e',he',rfl⟩:=zFz he
     rw [zDu]; exact hzz e' he'
    have q2:=(zU.sub n (zU.sub off q hzr).2 (fun e he=>hzr e (List.mem_of_mem_drop he))).1
    refine .inr (.inl ⟨trivial,(β t).b,_,_,rfl,hb _ (by simp [Loc.own,hnil]),?_,hys▸q2,trivial⟩)
    rw [hLz]
    exact hO.has.sub (off*z) (n*z)
 |_,_,v,.fn hl,h=>by
  simp only [Rep] at h ⊢
  obtain ⟨h1,h2,ws,h3,h4⟩:=h
  exact ⟨trivial,trivial,ws,h3,FzL.rep hN hE hb hl h4⟩
 |_,_,v,.ag hl,h=>by
  simp only [Rep] at h ⊢
  obtain ⟨h1,ws,h3,h5,h4⟩:=h
  exact ⟨trivial,ws,h3,h5,FzL.rep hN hE hb hl h4⟩
 |_,_,v,.tu hl,h=>by
  simp only [Rep] at h ⊢
  obtain ⟨h1,ws,h3,h4⟩:=h
  exact ⟨trivial,ws,h3,FzL.rep hN hE hb hl h4⟩
theorem FzL.rep (hN:∀b,N b→N' b) {b1:List Nat} (hE:zCn β N w (β t) b1 (.row z xs)) (hb:∀b∈(β t).own ++b1,N' b):∀{ds ds':List D} {vs:List Value},FzL t z xs ds ds'→zI β N w true ds vs []→zI β N' w true ds' vs []
 |_,_,vs,.nil,h=>by simp only [zI] at h ⊢; exact h
 |_,_,vs,.cons h1 h2,h=>by
  simp only [zI] at h ⊢
  obtain ⟨v,vs',b1,b2,rfl,hb',h3,h4⟩:=h
  rw [(List.append_eq_nil_iff.1 hb'.symm).1] at h3
  rw [(List.append_eq_nil_iff.1 hb'.symm).2] at h4
  exact ⟨v,vs',[],[],rfl,rfl,Fz.rep hN hE hb h1 h3,FzL.rep hN hE hb h2 h4⟩
end
end
inductive FzT (t z:Nat) (xs:List (List D)):List (Nat×D)→List (Nat×D)→Prop where
 |nil:FzT t z xs [] []
 |cons {q:Nat} {d d':D} {l l':List (Nat×D)}:Fz t z xs d d'→FzT t z xs l l'→FzT t z xs ((q,d)::l) ((q,d')::l')
inductive FzH (t z:Nat) (xs:List (List D)):List (Nat×Ent)→List (Nat×Ent)→Prop where
 |nil:FzH t z xs [] []
 |box {q:Nat} {cs cs':List D} {l l':List (Nat×Ent)}:cs.all D.free=true→FzL t z xs cs cs'→FzH t z xs l l'→FzH t z xs ((q,.box cs)::l) ((q,.box cs')::l')
 |keep {q:Nat} {e:Ent} {l l':List (Nat×Ent)}:e.men.contains t=false→FzH t z xs l l'→FzH t z xs ((q,e)::l) ((q,e)::l')
theorem FzT.mem {t z:Nat} {xs:List (List D)} {l l':List (Nat×D)} (h:FzT t z xs l l'):∀{q:Nat} {d':D},(q,d')∈l'→∃d,(q,d)∈l∧Fz t z xs d d':=by
 induction h with
 |nil=>intro q d' h; cases h
 |cons h1 _ ih=>
  intro q d' h
  rcases List.mem_cons.1 h with h|h
  ·cases h; exact ⟨_,by simp,h1⟩
  ·obtain ⟨d,h3,h4⟩:=ih h; exact ⟨d,by simp [h3],h4⟩
theorem FzH.keys {t z:Nat} {xs:List (List D)} {l l':List (Nat×Ent)} (h:FzH t z xs l l'):l'.map (·.1)=l.map (·.1):=by
 induction h with
 |nil=>rfl
 |box _ _ _ ih=>simp [ih]
 |keep _ _ ih=>simp [ih]
theorem FzH.zFB {t z:Nat} {xs:List (List D)} {l l':List (Nat×Ent)} (h:FzH t z xs l l'):∀q∈zFB l',q∈zFB l:=by
 induction h with
 |nil=>exact fun q h=>h
 |box _ h1 _ ih=>
  intro q hq
  simp only [Im.zFB,List.flatMap_cons,Ent.men,List.mem_append,List.mem_cons] at hq ⊢
  rcases hq with (hq|hq)|hq
  ·exact .inl (.inl hq)
  ·exact .inl (.inr (FzL.men h1 q hq).1)
  ·exact .inr (ih q hq)
 |keep _ _ ih=>
  intro q hq
  simp only [Im.zFB,List.flatMap_cons,List.mem_append,List.mem_cons] at hq ⊢
  rcases hq with hq|hq
  ·exact .inl hq
  ·exact .inr (ih q hq)
theorem FzH.rep {β:Nat→Loc} {N N':Nat→Prop} {w:World} {t z:Nat} {xs:List (List D)} {l l':List (Nat×Ent)} (h:FzH t z xs l l') (hN:∀b,N b→N' b) {b1:List Nat} (hE:zCn β N w (β t) b1 (.row z xs)) (hb:∀b∈(β t).own ++b1,N' b):
  ∀{bs:List Nat},uK β N w l bs→uK β N' w l' bs:=by
 induction h with
 |nil=>exact fun h=>h
 |box hfree h1 _ ih=>
  rintro bs ⟨c1,c2,rfl,⟨hn,hz,ws,hO,hone,hcs⟩,h3⟩
  have:=zI.free hfree hcs
  subst this
  refine ⟨[],c2,rfl,⟨hn,by rw [h1.length]; exact hz,ws,hO,hone,FzL.rep hN hE hb h1 hcs⟩,ih h3⟩
 |keep _ _ ih=>
  rintro bs ⟨c1,c2,rfl,h2,h3⟩
  exact ⟨c1,c2,rfl,h2.frame (fun b hb=>⟨hN b hb,rfl⟩) (fun _ _=>rfl) (fun _=>rfl) (fun _ _=>rfl),ih h3⟩
theorem zJD {e:Option T} (t:Nat) {z:Nat} {xs:List (List D)} {tm1 tm2:List (Nat×D)} {hp1 hp2:List (Nat×Ent)} (htm:FzT t z xs tm1 tm2) (hhp:FzH t z xs hp1 hp2) (ht:(hp1.map (·.1)).contains t=false)
  (hj:J Γ fc k (St.mk' tm2 hp2) e K):J Γ fc k (St.mk' tm1 ((t,.row z xs)::hp1)) e K:=by
 refine zFt (fun a w hr=>?_) hj
 obtain ⟨h0,β,bs,h⟩:=hr
 obtain ⟨b1,bk,rfl,hE,hrest⟩:=h.hp
 have hp:((β t).own ++(b1++bk)).Perm (((β t).own ++b1)++bk):=by rw [List.append_assoc]
 have hnd:=hp.nodup_iff.1 h.nodup
 have hN:∀b,NS Γ w ((β t).own ++(b1++bk)) b→NS Γ w bk b:=fun b hb=>NS.sub (fun x hx=>by simp [hx]) hb
 have hb:∀b∈(β t).own ++b1,NS Γ w bk b:=fun b hb=>by
  have:=h.own b (hp.mem_iff.2 (List.mem_append_left _ hb))
  refine ⟨?_,this.1,fun hbk=>(List.nodup_append.1 hnd).2.2 b hb b hbk rfl⟩
  rcases this.2 with h1|h1
  ·exact .inr (.inl h1)
  ·exact .inr (.inr h1)
 refine ⟨?_,β,bk,{defers:=h.defers,size:=h.size,keys:=?_,par:=h.par,grow:=h.grow,gh:=h.gh,quiet:=h.quiet,keep:=h.keep,hp:=hhp.rep hN hE hb hrest,nodup:=(List.nodup_append.1 hnd).2.1,own:=fun b hb=>h.own b (hp.mem_iff.2 (List.mem_append_right _ hb)),tm:=?_}⟩
 ·intro q hq
  simp only [St.mk',List.mem_append]
  exact hq
 ·have hk:=h.keys
  simp only [St.mk',List.map_cons,List.nodup_cons] at hk
  simp only [St.mk']
  rw [hhp.keys]
  exact hk.2
 ·intro q d' hd
  obtain ⟨d,h1,h2⟩:=htm.mem hd
  obtain ⟨v,h3,h4⟩:=h.tm q d h1
  exact ⟨v,h3,Fz.rep hN hE hb h2 h4⟩
end
end Go.Im
set_option linter.unusedVariables false
namespace Go.Im
open Go
def same {α β:Type} (xs:List α) (ys:List β):Option Unit:=if xs.length=ys.length then some () else none
theorem zAO {α β:Type} {xs:List α} {ys:List β} {u:Unit} (h:same xs ys=some u):xs.length=ys.length:=by
 unfold same at h
 split at h
 ·assumption
 ·cases h
section
variable {Γ:Ctx} {fc:Code} {k:List II} {σ:St} {T:Type} {K:T→Option (D×List Ent)}
theorem zF2 {e0:Option T} {ix:Int} {α:Type} {enc:α→List D} {A:List α} {a:α} {z z' n:Nat} {ys:List (List D)} (t j t':Nat) (h:idx A ix=some a) (hl:lk σ.hp t=some (.row z (A.map enc))) (hej:(enc a)[j]? =some (.s true z' n ys))
  (hf:(!σ.us.contains t'&&Nat.ble Γ.m t')=true)
  (hj:J Γ fc k ⟨σ.tm,(t,.lent z (A.map enc) ix.toNat j t' n)::(t',.row z' ys)::σ.hp.filter (fun x=>x.1 !=t),t'::σ.us⟩ e0 K):J Γ fc k σ e0 K:=by
 obtain ⟨_,h2⟩:=zEu h
 exact zOZ t ix.toNat j t' hl (by rw [List.getElem?_map,h2]; rfl) hej hf hj
theorem zGm {e0:Option T} {ix:Int} {α:Type} {enc:α→List D} {A:List α} {a b:α} {z z' n n':Nat} {ys:List (List D)} (t j t':Nat) (h:idx A ix=some a) (hl:lk σ.hp t=some (.lent z (A.map enc) ix.toNat j t' n)) (hl':lk σ.hp t'=some (.row z' ys))
  (hne:(t==t')=false) (hb:enc b=(enc a).set j (.s true z' n' ys)) (hn:n'=n) (hjlt:j< (enc a).length) (hyl:ys.length=n)
  (hj:J Γ fc k ⟨σ.tm,(t,.row z ((A.set ix.toNat b).map enc))::(σ.hp.filter (fun x=>x.1 !=t)).filter (fun x=>x.1 !=t'),σ.us⟩ e0 K):J Γ fc k σ e0 K:=by
 obtain ⟨_,h2⟩:=zEu h
 subst hn
 refine zOG t ix.toNat j t' hl hl' hne (by rw [List.getElem?_map,h2]; rfl) hjlt hyl ?_
 rw [←hb,←List.map_set]
 exact hj
theorem zPK {e:Option T} (t:Nat) {n:Nat} (hl:lk σ.tm t=some (.nb n)) (h1:n=0→J Γ fc k ⟨(t,.sc (.bool true))::σ.tm,σ.hp,σ.us⟩ e K) (h2:J Γ fc k ⟨(t,.sc (.bool false))::σ.tm,σ.hp,σ.us⟩ e K):J Γ fc k σ e K:=by
 intro r out he hk a w hrel
 obtain ⟨h0,β,bs,h⟩:=hrel
 obtain ⟨v,hv,hr⟩:=h.tm t _ (zBG hl)
 simp only [Rep] at hr
 obtain ⟨_,b,rfl,hb⟩:=hr
 have key:∀b',a.tmps[t]? =some (.bool b')→Rel Γ ⟨(t,.sc (.bool b'))::σ.tm,σ.hp,σ.us⟩ a w:=by
  intro b' hb'
  refine ⟨fun t' ht'=>h0 t' ?_,β,bs,{defers:=h.defers,size:=h.size,keys:=h.keys,par:=h.par,grow:=h.grow,gh:=h.gh,quiet:=h.quiet,keep:=h.keep,hp:=h.hp,nodup:=h.nodup,own:=h.own,tm:=?_}⟩
  ·rcases ht' with ht'|ht'
   ·simp only [zHf,List.flatMap_cons,D.men,List.nil_append] at ht'
    exact .inl ht'
   ·exact .inr ht'
  ·intro t' d hd
   rcases List.mem_cons.1 hd with hd|hd
   ·cases hd
    exact ⟨_,hb',by simp [Rep]⟩
   ·exact h.tm t' d hd
 cases b with
 |true=>exact h1 (hb rfl) r out he hk a w (key _ hv)
 |false=>exact h2 r out he hk a w (key _ hv)
theorem zN4 {e e':Option T} (h:e=e') (hj:J Γ fc k σ e' K):J Γ fc k σ e K:=h▸hj
end
section
variable {Γ:Ctx} {ops:Array Oper} {o:Oper}
theorem zMz {P:Program} {T el:TypeId} {w:World} {ad:Option Addr} {n cap:Nat} (hT:yO P (underlying T)=some (.slice el)):
  (Op.equal T (.slice ad n cap) (.slice none 0 0)).run P w= .ok ad.isNone w:=by
 unfold Op.equal Op.maxDepth
 show (Op.equalIn (9999+1) T _ _).run P w=_
 unfold Op.equalIn
 rw [run_bind_ok (zL _ _ w hT)]
 cases ad<;>rfl
theorem zNE {c:Cert} {x:Operand} {T U el:TypeId} {wo:Bool} {z n:Nat} {xs:List (List D)} (hg:o.guard=none) (hop:o.op= .binOp .eql T x (.const (.slice none 0 0)) U) (hc:c= {tn:=c.tn,out:=some (.nb n)})
  (hx:OpF c x (.s wo z n xs)) (hT:yO Γ.P (underlying T)=some (.slice el)):Valid Γ ops o c:=by
 refine jE (d:=.nb n) (f:=fun ρ=>do eqGuard .eql T x (.const (.slice none 0 0)) (ρ x) (ρ (.const (.slice none 0 0))); binOp .eql T (ρ x) (ρ (.const (.slice none 0 0)))) hg (fun ρ=>by simp [execOp,hop]) (by rw [hc]) fun β bs σ a w hn hr=>?_
 have h1:=OpF.rep hx hn hr
 simp only [Rep] at h1
 obtain ⟨_,_,ad,cap,hv,_,h5⟩:=h1
 refine ⟨.bool ad.isNone,?_,?_⟩
 ·have he:a.eval (.const (.slice none 0 0))= .slice none 0 0:=rfl
  rw [hv,he]
  rw [run_bind_ok (a:=()) (w':=w) rfl]
  show (do pure (Value.bool (←Op.equal T (.slice ad n cap) (.slice none 0 0))):Sem Value).run Γ.P w=_
  rw [run_bind_ok (zMz hT)]
  rfl
 ·simp only [Rep]
  refine ⟨trivial,ad.isNone,rfl,fun hn0=>?_⟩
  cases ad with
  |some _=>cases hn0
  |none=>
   rcases h5 with h5|⟨_,b,off,ws,h6,_⟩|⟨_,b,off,ws,bs',h6,_⟩
   ·exact h5.1
   ·cases h6
   ·cases h6
end
end Go.Im
set_option linter.unusedVariables false
namespace Go.Im
open Go
def iv (x:Int):D:=.sc (.int .i64 x)
def uv (x:Int):D:=.sc (.int .u8 x)
def bv (b:Bool):D:=.sc (.bool b)
def sv (s:ByteArray):D:=.sc (.string s)
def nv:D:=.sc (.slice none 0 0)
def sl {α:Type} (z:Nat) (e:α→List D) (xs:List α):D:=.s false z xs.length (xs.map e)
def so {α:Type} (z:Nat) (e:α→List D) (xs:List α):D:=.s true z xs.length (xs.map e)
def rr {α:Type} (t:Nat) (xs:List α):D:=.rf t 0 xs.length none
def pp (t:Nat):D:=.pt t 0 0
def rE {α:Type} (z:Nat) (e:α→List D) (xs:List α):Ent:=.row z (xs.map e)
def zOn (fc:Code):Nat→Nat→List II
 |0,_=>[]
 |f+1,p=>if p≤1 then [] else match sub fc (p / 2) with
  | .seq _ _=>if p%2==0 then .c (p+1)::zOn fc f (p / 2) else zOn fc f (p / 2)
  | .block id _=>.b id::zOn fc f (p / 2)
  | .loop _=>.l p::zOn fc f (p / 2)
  |_=>zOn fc f (p / 2)
def aft (fc:Code) (p:Nat):List II:=zOn fc 250 p
def atI (fc:Code) (p:Nat):List II:=.c p::aft fc p
def zO4 (fc:Code) (tm:List (Nat×D)) (p:Nat):Nat→List II→Option (List II)
 |0,_=>none
 |n+1,k=>match k with
  | .c q::r=>if q=p then some r else match zMa fc tm (.c q::r) with
   |some k'=>zO4 fc tm p n k'
   |none=>none
  |k=>match zMa fc tm k with
   |some k'=>zO4 fc tm p n k'
   |none=>none
theorem zHO {fc:Code} {tm:List (Nat×D)} {p:Nat}:∀(n:Nat) (k r:List II),zO4 fc tm p n k=some r→∃m,zLc fc tm m k=some (.c p::r)
 |0,k,r,h=>by cases h
 |n+1,k,r,h=>by
  unfold zO4 at h
  split at h
  ·rename_i q r'
   split at h
   ·rename_i e; subst e; cases h; exact ⟨0,rfl⟩
   ·split at h
    ·rename_i k' hk'
     obtain ⟨m,hm⟩:=zHO n k' r h
     exact ⟨m+1,by simp only [zLc,hk']; exact hm⟩
    ·cases h
  ·split at h
   ·rename_i k' hk'
    obtain ⟨m,hm⟩:=zHO n k' r h
    exact ⟨m+1,by simp only [zLc,hk']; exact hm⟩
   ·cases h
def II.eq:II→II→Bool
 | .c x,.c y=>x==y
 | .b x,.b y=>x==y
 | .l x,.l y=>x==y
 |_,_=>false
theorem II.zHr:∀{p q:II},II.eq p q=true→p=q
 | .c x,.c y,h=>by simp [II.eq] at h; rw [h]
 | .b x,.b y,h=>by simp [II.eq] at h; rw [h]
 | .l x,.l y,h=>by simp [II.eq] at h; rw [h]
 | .c _,.b _,h=>by cases h
 | .c _,.l _,h=>by cases h
 | .b _,.c _,h=>by cases h
 | .b _,.l _,h=>by cases h
 | .l _,.c _,h=>by cases h
 | .l _,.b _,h=>by cases h
def IIs.eq:List II→List II→Bool
 |[],[]=>true
 |a::k,b::k'=>II.eq a b&&IIs.eq k k'
 |_,_=>false
theorem IIs.zHr:∀{a b:List II},IIs.eq a b=true→a=b
 |[],[],_=>rfl
 |a::k,b::k',h=>by
  simp only [IIs.eq,Bool.and_eq_true] at h
  rw [II.zHr h.1,IIs.zHr h.2]
 |[],_::_,h=>by cases h
 |_::_,[],h=>by cases h
def zN3 (fc:Code) (tm:List (Nat×D)) (k':List II):Nat→List II→Bool
 |0,_=>false
 |n+1,k=>if k.length==k'.length&&IIs.eq k k' then true else match zMa fc tm k with
  |some k2=>zN3 fc tm k' n k2
  |none=>false
theorem zJ1 {fc:Code} {tm:List (Nat×D)} {k':List II}:∀(n:Nat) (k:List II),zN3 fc tm k' n k=true→∃m,zLc fc tm m k=some k'
 |0,k,h=>by cases h
 |n+1,k,h=>by
  unfold zN3 at h
  split at h
  ·rename_i e
   simp only [Bool.and_eq_true] at e
   exact ⟨0,by simp only [zLc]; rw [IIs.zHr e.2]⟩
  ·split at h
   ·rename_i k2 hk2
    obtain ⟨m,hm⟩:=zJ1 n k2 h
    exact ⟨m+1,by simp only [zLc,hk2]; exact hm⟩
   ·cases h
def zOQ (fc:Code) (tm:List (Nat×D)):Nat→List II→Bool
 |0,_=>false
 |n+1,k=>match k with
  |[]=>true
  | .c q::r=>match sub fc q with
   | .ret =>true
   |_=>match zMa fc tm (.c q::r) with
    |some k2=>zOQ fc tm n k2
    |none=>false
  |k=>match zMa fc tm k with
   |some k2=>zOQ fc tm n k2
   |none=>false
theorem zHW {fc:Code} {tm:List (Nat×D)}:∀(n:Nat) (k:List II),zOQ fc tm n k=true→∃m k',zLc fc tm m k=some k'∧(k'=[]∨∃p k'',k'= .c p::k''∧sub fc p= .ret)
 |0,k,h=>by cases h
 |n+1,k,h=>by
  unfold zOQ at h
  split at h
  ·exact ⟨0,[],rfl,.inl rfl⟩
  ·rename_i q r
   split at h
   ·rename_i hs
    exact ⟨0,_,rfl,.inr ⟨q,r,rfl,hs⟩⟩
   ·split at h
    ·rename_i k2 hk2
     obtain ⟨m,k',h1,h2⟩:=zHW n k2 h
     exact ⟨m+1,k',by simp only [zLc,hk2]; exact h1,h2⟩
    ·cases h
  ·split at h
   ·rename_i k2 hk2
    obtain ⟨m,k',h1,h2⟩:=zHW n k2 h
    exact ⟨m+1,k',by simp only [zLc,hk2]; exact h1,h2⟩
   ·cases h
section
variable {Γ:Ctx} {fc:Code} {k:List II} {σ:St} {T:Type} {K:T→Option (D×List Ent)}
theorem zB {p:Nat}:zIa Γ fc p []:=trivial
def zPC (fc:Code) (tm:List (Nat×D)) (p:Nat) (k:List II):Bool:=match zO4 fc tm p 60 k with
 |some r=>IIs.eq r (aft fc p)
 |none=>false
theorem J_g {e:Option T} (p:Nat) (ids:List (Nat×Nat)) (tm2:List (Nat×D)) (hp2:List (Nat×Ent)) {orc:List (Nat×Cert)} (hor:zIa Γ fc p orc) (hj:J Γ fc (aft fc p) (St.mk' tm2 hp2) e K)
  (h:(zPC fc σ.tm p k&&Γ.P.follows .mixedOrders,(chk Γ.P Γ.nt Γ.m fc p orc ids σ tm2 hp2).1,(chk Γ.P Γ.nt Γ.m fc p orc ids σ tm2 hp2).2.2.1,(chk Γ.P Γ.nt Γ.m fc p orc ids σ tm2 hp2).2.2.2.2)=
   (true,(chk Γ.P Γ.nt Γ.m fc p orc ids σ tm2 hp2).2.1,(chk Γ.P Γ.nt Γ.m fc p orc ids σ tm2 hp2).2.2.2.1,true):=by kernel_rfl):J Γ fc k σ e K:=by
 simp only [Prod.mk.injEq,Bool.and_eq_true] at h
 obtain ⟨⟨h0,hm⟩,h1,h2,h3⟩:=h
 unfold zPC at h0
 split at h0
 ·rename_i r hr
  obtain ⟨m,hm2⟩:=zHO _ _ _ hr
  rw [IIs.zHr h0] at hm2
  refine zNB m _ hm2 (zP8 orc ids tm2 hp2 hm hor ?_ hj)
  simp only [Prod.mk.injEq]
  exact ⟨h1,h2,h3⟩
 ·cases h0
theorem zPT {b:Bool} {x y:Option T} (t:Nat) (hl:lk σ.tm t=some (.sc (.bool b)):=by kernel_rfl) (h1:b=true→J Γ fc k ⟨(t,.sc (.bool true))::σ.tm,σ.hp,σ.us⟩ x K) (h2:b=false→J Γ fc k ⟨(t,.sc (.bool false))::σ.tm,σ.hp,σ.us⟩ y K):
  J Γ fc k σ (if b then x else y) K:=by
 cases b with
 |true=>exact zOS true hl rfl (h1 rfl)
 |false=>exact zOS false hl rfl (h2 rfl)
theorem zPp {e:Option T} {k':List II} {tm2:List (Nat×D)} {hp2:List (Nat×Ent)} (hj:J Γ fc k' (St.mk' tm2 hp2) e K)
  (h:(zN3 fc σ.tm k' 60 k,tm2.map (fun x=>lk σ.tm x.1),hp2.map (fun x=>lk σ.hp x.1),zED (hp2.map (·.1)))=(true,tm2.map (fun x=>some x.2),hp2.map (fun x=>some x.2),true):=by kernel_rfl):J Γ fc k σ e K:=by
 simp only [Prod.mk.injEq] at h
 obtain ⟨m,hm⟩:=zJ1 _ _ h.1
 refine zNB m _ hm (zEA tm2 hp2 ?_ hj)
 simp only [Prod.mk.injEq]
 exact h.2
theorem J_b {S:Type} {g:S→Option T} {s:S} {k':List II} {tm2:List (Nat×D)} {hp2:List (Nat×Ent)} (hj:J Γ fc k' (St.mk' tm2 hp2) (g s) K)
 (h:(zN3 fc σ.tm k' 60 k,tm2.map (fun x=>lk σ.tm x.1),hp2.map (fun x=>lk σ.hp x.1),zED (hp2.map (·.1)))=(true,tm2.map (fun x=>some x.2),hp2.map (fun x=>some x.2),true):=by kernel_rfl):
 J Γ fc k σ (some (Lp.go s)) (fun x=>(Lp.elim g x).bind K):=zQk (zPp hj h)
theorem wD {V:Type} {v:V} {w:T} {K0:V→Option (D×List Ent)} {k':List II} {tm2:List (Nat×D)} {hp2:List (Nat×Ent)} (hj:J Γ fc k' (St.mk' tm2 hp2) (some v) K0) (hK:K w=K0 v)
 (h:(zN3 fc σ.tm k' 60 k,tm2.map (fun x=>lk σ.tm x.1),hp2.map (fun x=>lk σ.hp x.1),zED (hp2.map (·.1)))=(true,tm2.map (fun x=>some x.2),hp2.map (fun x=>some x.2),true):=by kernel_rfl):
 J Γ fc k σ (some w) K:=J_q (zPp hj h) hK
theorem zE2 {U:Type} {y:Option U} {f:U→Option T} {k':List II} {tm2:List (Nat×D)} {hp2:List (Nat×Ent)} (hj:J Γ fc k' (St.mk' tm2 hp2) y (fun x=>(f x).bind K))
 (h:(zN3 fc σ.tm k' 60 k,tm2.map (fun x=>lk σ.tm x.1),hp2.map (fun x=>lk σ.hp x.1),zED (hp2.map (·.1)))=(true,tm2.map (fun x=>some x.2),hp2.map (fun x=>some x.2),true):=by kernel_rfl):
 J Γ fc k σ (y.bind f) K:=zIM (zPp hj h)
theorem uP {R V:Type} {y:Option (Fl R V)} {K0:R→Option (D×List Ent)} {fr:R→Option T} {rest:V→Option T} {k':List II} {tm2:List (Nat×D)} {hp2:List (Nat×Ent)} (hr:∀r,(fr r).bind K=K0 r)
 (hj:J Γ fc k' (St.mk' tm2 hp2) y (Fl.go K0 (fun v=>(rest v).bind K)))
 (h:(zN3 fc σ.tm k' 60 k,tm2.map (fun x=>lk σ.tm x.1),hp2.map (fun x=>lk σ.hp x.1),zED (hp2.map (·.1)))=(true,tm2.map (fun x=>some x.2),hp2.map (fun x=>some x.2),true):=by kernel_rfl):
 J Γ fc k σ (y.bind (Fl.go fr rest)) K:=zPa hr (zPp hj h)
def zP1 (P:Program) (f:FuncId):List ResultVar:=match P.funcs[f]? with
 |some fn=>fn.results.toList
 |none=>[]
theorem zMN {P:Program} {f:FuncId} (h:(P.funcs[f]?).isSome =true):∃fn,P.funcs[f]? =some fn∧fn.results.toList=zP1 P f:=by
 unfold zP1
 cases hf:P.funcs[f]? with
 |none=>rw [hf] at h; cases h
 |some fn=>exact ⟨fn,rfl,rfl⟩
def D.plain:D→Bool
 | .ag cs=>cs.all D.nest
 |d=>d.nest
theorem Ret.plain {hn:List (Nat×Ent)} {d:D} (h:d.plain=true):Ret hn d d []:=by
 cases d with
 |ag cs=>exact .ag (Emb.zHl hn cs h)
 |_=>exact .cell (.keep h .nil)
theorem zLA.plain {hn:List (Nat×Ent)}:∀{ds:List D},ds.all D.plain=true→zLA hn ds ds []
 |[],_=>.nil
 |d::ds,h=>by
  simp only [List.all_cons,Bool.and_eq_true] at h
  exact .cons (t1:=[]) (Ret.plain h.1) (zLA.plain h.2) (by simp)
theorem zK8:∀{cs:List D},cs.all D.nest=true→D.men.zE1 cs=[]
 |[],_=>rfl
 |d::cs,h=>by
  simp only [List.all_cons,Bool.and_eq_true] at h
  simp only [D.men.zE1,zK8 h.2,List.append_nil]
  have:=h.1
  cases d<;>simp_all [D.nest,D.men]
theorem zJw:∀{ds:List D},ds.all D.plain=true→D.men.zE1 ds=[]
 |[],_=>rfl
 |d::ds,h=>by
  simp only [List.all_cons,Bool.and_eq_true] at h
  simp only [D.men.zE1,zJw h.2,List.append_nil]
  have:=h.1
  cases d with
  |ag cs=>simp only [D.men]; exact zK8 this
  |_=>simp_all [D.plain,D.nest,D.men]
def zMn (Γ:Ctx) (fc:Code) (k:List II) (σ:St) (hout:List Ent):Bool×Option (List D)×List (Option Ent)×Bool×List Nat×Bool:=
 (zOQ fc σ.tm 60 k,zNT Γ.P σ.tm σ.hp (zP1 Γ.P Γ.fid),(zF5 hout).map (fun x=>lk σ.hp x.1),Nat.ble hout.length Γ.m,hout.flatMap Ent.men,(Γ.P.funcs[Γ.fid]?).isSome)
theorem zEl {v:T} {ds ds':List D} {ts:List Nat} {hout:List Ent} (hret:zLA σ.hp ds ds' ts) (hK:K v=some (zNj ds',hout))
  (h:(zMn Γ fc k σ hout,D.men.zE1 ds',ts.all (fun t=>Nat.ble hout.length t))=((true,some ds,(zF5 hout).map (fun x=>some x.2),true,[],true),[],true):=by kernel_rfl):J Γ fc k σ (some v) K:=by
 simp only [zMn,Prod.mk.injEq] at h
 obtain ⟨⟨h1,h2,h3,h4,h5,h6⟩,h7,h8⟩:=h
 obtain ⟨m,k',g1,g2⟩:=zHW _ _ h1
 obtain ⟨fn,g3,g4⟩:=zMN h6
 refine zNB m k' g1 (zP7 g2 g3 g4 (zH5 h2) hret (fun x hx=>⟨zEb h3 x hx,fun ht=>?_⟩) (Nat.le_of_ble_eq_true h4) (by rw [h7]; simp) (fun e he t ht=>?_) hK)
 ·have h1:=Nat.le_of_ble_eq_true (List.all_eq_true.1 h8 _ ht)
  have h2:=(List.getElem?_eq_some_iff.1 (zJy.1 hx)).1
  omega
 ·have:t∈hout.flatMap Ent.men:=List.mem_flatMap.2 ⟨e,he,ht⟩
  rw [h5] at this
  simp at this
theorem zQ {v:T} {d:D} {hout:List Ent} (hK:K v=some (d,hout))
  (h:(zMn Γ fc k σ hout,d.plain)=((true,some [d],(zF5 hout).map (fun x=>some x.2),true,[],true),true):=by kernel_rfl):J Γ fc k σ (some v) K:=by
 simp only [Prod.mk.injEq] at h
 have hp:[d].all D.plain=true:=by simpa using h.2
 refine zEl (ds:=[d]) (ds':=[d]) (ts:=[]) (zLA.plain hp) hK ?_
 simp only [Prod.mk.injEq]
 exact ⟨h.1,zJw hp,rfl⟩
end
def OpV (Γ:Ctx) (op:Op) (c:Cert):Prop:=∀(ops:Array Oper) (o:Oper),o.op=op→o.guard=none→Valid Γ ops o c
def zPm (Γ:Ctx) (op:Op) (c:Cert):Prop:=∀(ops:Array Oper) (o:Oper),o.op=op→o.guard=none→o.dst=none→Valid Γ ops o c
section
variable {Γ:Ctx} {fc:Code} {p:Nat}
theorem zD {rest:List (Nat×Cert)} {op:Op} {c:Cert} (i:Nat) (hv:OpV Γ op c) (hr:zIa Γ fc p rest) (h:(opAt fc p i).map (fun o=>(o.op,o.guard))=some (op,none):=by kernel_rfl):zIa Γ fc p ((i,c)::rest):=
 ⟨zQp h hv,hr⟩
theorem zGT {rest:List (Nat×Cert)} {op:Op} {c:Cert} (i:Nat) (hv:zPm Γ op c) (hr:zIa Γ fc p rest) (h:(opAt fc p i).map (fun o=>(o.op,o.guard,o.dst))=some (op,none,none):=by kernel_rfl):zIa Γ fc p ((i,c)::rest):=
 ⟨zPv h hv,hr⟩
theorem zCR {rest:List (Nat×Cert)} {op:Op} {c:Cert} (i g t:Nat) (b:Bool) (hv:OpV Γ op c) (hr:zIa Γ fc p rest) (h:((opAt fc p i).map (fun o=>(o.op,o.guard)),zIW fc p g)=(some (op,some (g,b)),some t):=by kernel_rfl):
  zIa Γ fc p ((i,{c with tn:=(t,.sc (.bool b))::c.tn})::rest):=by
 simp only [Prod.mk.injEq] at h
 exact ⟨zQo h.1 h.2 hv,hr⟩
theorem zHs {rest:List (Nat×Cert)} {c:Cert} (i:Nat) (hv:∀id ops draw,sub fc p= .region id ops draw→∀o,ops[i]? =some o→Valid Γ ops o c) (hr:zIa Γ fc p rest):zIa Γ fc p ((i,c)::rest):=⟨hv,hr⟩
def tnO (x:Operand) (d:D):List (Nat×D):=match x with
 | .tmp t=>[(t,d)]
 |_=>[]
def OkO (x:Operand) (d:D):Prop:=match x with
 | .tmp _=>True
 | .const v=>d= .sc v
 | .func f=>d= .fn f []
 | .global _=>False
theorem OkO.f {c:Cert} {x:Operand} {d:D} (h:OkO x d) (hs:∀y∈tnO x d,y∈c.tn):OpF c x d:=by
 cases x with
 |tmp t=>exact hs _ (by simp [tnO])
 |const v=>exact h
 |func f=>exact h
 |global g=>exact h.elim
theorem tT {α:Type} {xs:List α} {i:Int} {a:α} {kk:IntKind} (T el z:Nat) (enc:α→List D) (x y:Operand) (h:idx xs i=some a) (hx:OkO x (.s false z xs.length (xs.map enc)):=by trivial) (hy:OkO y (.sc (.int kk i)):=by first|trivial|rfl)
  (hT:(yO Γ.P (underlying T),zF0 Γ.P el)=(some (.slice el),some z):=by kernel_rfl):OpV Γ (.indexAddr T x y) {tn:=tnO x (.s false z xs.length (xs.map enc))++tnO y (.sc (.int kk i)),out:=some (.ps (enc a))}:=by
 simp only [Prod.mk.injEq] at hT
 intro ops o hop hg
 exact zNZ h hg hop rfl (hx.f (fun y hy=>List.mem_append_left _ hy)) (hy.f (fun y hy=>List.mem_append_right _ hy)) hT.1 hT.2
theorem jT {α:Type} {xs:List α} {i:Int} {a:α} {kk:IntKind} (T el z t:Nat) (enc:α→List D) (x y:Operand) (h:idx xs i=some a) (hx:OkO x (.rf t 0 xs.length none):=by trivial) (hy:OkO y (.sc (.int kk i)):=by first|trivial|rfl)
  (hT:(yO Γ.P (underlying T),zF0 Γ.P el)=(some (.slice el),some z):=by kernel_rfl):
  OpV Γ (.indexAddr T x y) {tn:=tnO x (.rf t 0 xs.length none)++tnO y (.sc (.int kk i)),hn:=[(t,rE z enc xs)],out:=some (.pt t i.toNat 0)}:=by
 simp only [Prod.mk.injEq] at hT
 intro ops o hop hg
 exact zLy h hg hop rfl (hx.f (fun y hy=>List.mem_append_left _ hy)) (hy.f (fun y hy=>List.mem_append_right _ hy)) (.head _) hT.1 hT.2
theorem zIE {α:Type} {xs:List α} {i:Int} {a:α} {kk:IntKind} (T el z t:Nat) (enc:α→List D) (x y:Operand) (a0 b0 t' n':Nat) (h:idx xs i=some a) (hx:OkO x (.rf t 0 xs.length none):=by trivial) (hy:OkO y (.sc (.int kk i)):=by first|trivial|rfl)
  (hT:(yO Γ.P (underlying T),zF0 Γ.P el)=(some (.slice el),some z):=by kernel_rfl):
  OpV Γ (.indexAddr T x y) {tn:=tnO x (.rf t 0 xs.length none)++tnO y (.sc (.int kk i)),hn:=[(t,.lent z (xs.map enc) a0 b0 t' n')],out:=some (.pt t i.toNat 0)}:=by
 simp only [Prod.mk.injEq] at hT
 intro ops o hop hg
 exact zJc h hg hop rfl (hx.f (fun y hy=>List.mem_append_left _ hy)) (hy.f (fun y hy=>List.mem_append_right _ hy)) (.head _) hT.1 hT.2
theorem zIB {α:Type} (T t:Nat) (x:Operand) (z:Nat) (enc:α→List D) (xs:List α) (i j t' n:Nat) (hd:zBR Γ.P T [.rf t' 0 n none]=some (.rf t' 0 n none):=by kernel_rfl) (hx:OkO x (.pt t i j):=by trivial):
  OpV Γ (.load T x) {tn:=tnO x (.pt t i j),hn:=[(t,.lent z (xs.map enc) i j t' n)],out:=some (.rf t' 0 n none)}:=by
 intro ops o hop hg
 exact zJW hg hop rfl (hx.f (fun y hy=>hy)) (.head _) hd
theorem zC1 {α:Type} {xs:List α} {i:Int} {a:α} {d:D} (T z t j:Nat) (enc:α→List D) (x:Operand) (h:idx xs i=some a) (hd:(((enc a).drop j).all zE6,zBR Γ.P T ((enc a).drop j))=(true,some d)) (hx:OkO x (.pt t i.toNat j):=by trivial):
  OpV Γ (.load T x) {tn:=tnO x (.pt t i.toNat j),hn:=[(t,rE z enc xs)],out:=some d}:=by
 simp only [Prod.mk.injEq] at hd
 intro ops o hop hg
 exact zLj h hg hop rfl (hx.f (fun y hy=>hy)) (.head _) hd.1 hd.2
theorem zOo {s:ByteArray} {i b:Int} {kk:IntKind} (T:Nat) (x y:Operand) (h:bidx s i=some b) (hx:OkO x (.sc (.string s)):=by first|trivial|rfl) (hy:OkO y (.sc (.int kk i)):=by first|trivial|rfl) (hT:yO Γ.P (underlying T)=some .string :=by kernel_rfl):
  OpV Γ (.index T x y) {tn:=tnO x (.sc (.string s))++tnO y (.sc (.int kk i)),out:=some (.sc (.int .u8 b))}:=by
 intro ops o hop hg
 exact zO6 h hg hop rfl (hx.f (fun y hy=>List.mem_append_left _ hy)) (hy.f (fun y hy=>List.mem_append_right _ hy)) hT
theorem zOB {s1 s2 s:ByteArray} (T U:Nat) (x y:Operand) (h:cat s1 s2=some s) (hx:OkO x (.sc (.string s1)):=by first|trivial|rfl) (hy:OkO y (.sc (.string s2)):=by first|trivial|rfl):
  OpV Γ (.binOp .add T x y U) {tn:=tnO x (.sc (.string s1))++tnO y (.sc (.string s2)),out:=some (.sc (.string s))}:=by
 intro ops o hop hg
 exact zMI h hg hop rfl (hx.f (fun y hy=>List.mem_append_left _ hy)) (hy.f (fun y hy=>List.mem_append_right _ hy))
theorem zMk {α:Type} {xs:List α} (T el U z:Nat) (enc:α→List D) (x:Operand) (hx:OkO x (.s false z xs.length (xs.map enc)):=by trivial) (hT:yO Γ.P (underlying T)=some (.slice el):=by kernel_rfl):
  OpV Γ (.binOp .eql T x (.const (.slice none 0 0)) U) {tn:=tnO x (.s false z xs.length (xs.map enc)),out:=some (.nb xs.length)}:=by
 intro ops o hop hg
 exact zNE hg hop rfl (hx.f (fun y hy=>hy)) hT
def tnB (x:Option Operand) (i:Int):List (Nat×D):=match x with
 |some y=>tnO y (.sc (.int .i64 i))
 |none=>[]
def OkB (x:Option Operand) (dflt i:Int):Prop:=match x with
 |some y=>OkO y (.sc (.int .i64 i))
 |none=>i=dflt
theorem OkB.f {c:Cert} {x:Option Operand} {dflt:Nat} {i:Int} (h:OkB x dflt i) (hs:∀y∈tnB x i,y∈c.tn):zOs c x dflt i:=by
 cases x with
 |none=>exact h
 |some y=>exact ⟨_,OkO.f (d:=.sc (.int .i64 i)) h hs⟩
theorem zOv {α:Type} {xs r:List α} {l hi:Int} (T el z:Nat) (enc:α→List D) (x:Operand) (lo ho:Option Operand) (h:zF8 xs l hi=some r) (hx:OkO x (.s false z xs.length (xs.map enc)):=by first|trivial|rfl) (hl:OkB lo (0:Nat) l:=by first|trivial|rfl) (hh:OkB ho xs.length hi:=by first|trivial|rfl)
  (hT:(yO Γ.P (underlying T),zF0 Γ.P el)=(some (.slice el),some z):=by kernel_rfl):
  OpV Γ (.slice T x lo ho none) {tn:=tnO x (.s false z xs.length (xs.map enc))++(tnB lo l++tnB ho hi),out:=some (.s false z r.length (r.map enc))}:=by
 simp only [Prod.mk.injEq] at hT
 intro ops o hop hg
 exact zON h hg hop rfl (hx.f (fun y hy=>List.mem_append_left _ hy)) (hl.f (fun y hy=>List.mem_append_right _ (List.mem_append_left _ hy))) (hh.f (fun y hy=>List.mem_append_right _ (List.mem_append_right _ hy))) hT.1 hT.2
end
end Go.Im
set_option linter.unusedVariables false
namespace Go.Im
open Go
section
variable {Γ:Ctx}
theorem zO5 {xs:List Int} (S Dd e t:Nat) (x:Operand) (hx:OkO x (.rf t 0 xs.length none):=by trivial) (hT:(Γ.P.underlying S,Γ.P.underlying e,Γ.P.underlying Dd)=(some (.slice e),some (.int .u8),some .string):=by kernel_rfl):
  OpV Γ (.convert S Dd x) {tn:=tnO x (.rf t 0 xs.length none),hn:=[(t,rE 1 eU8 xs)],out:=some (.sc (.string (b2s xs)))}:=by
 simp only [Prod.mk.injEq] at hT
 intro ops o hop hg
 exact zNu hg hop rfl (hx.f (fun y hy=>hy)) (.head _) hT.1 hT.2.1 hT.2.2
def zIX (P:Program) (el:TypeId):Value:=(yO P (zeroValue el)).getD default
def zKy (P:Program) (el:TypeId):Option (Option Value×Nat×Nat):=(P.info? el).map (fun i=>(i.zero,i.size,i.bytes))
theorem zGv {α:Type} {xs ys zs:List α} (T U el e' z bytes t td ts:Nat) (enc:α→List D) (x y:Operand) (h:app bytes xs ys=some zs) (hx:OkO x (.rf td 0 xs.length none):=by trivial) (hy:OkO y (.rf ts 0 ys.length none):=by trivial)
  (hone:∀a,(enc a).all zE6=true:=by intro _; rfl) (hT:(Γ.P.underlying T,Γ.P.underlying U,zKy Γ.P el,(zIX Γ.P el).cells.size,Nat.ble Γ.m t,td==ts)=(some (.slice el),some (.slice e'),some (some (zIX Γ.P el),z,bytes),z,true,false):=by kernel_rfl):
  OpV Γ (.call {callee:=.builtin .append,args:= #[x,y],argTypes:= #[T,U]}) {tn:=tnO x (.rf td 0 xs.length none)++tnO y (.rf ts 0 ys.length none),hn:=[(td,rE z enc xs),(ts,rE z enc ys)],out:=some (.rf t 0 zs.length none),hx:=[td,ts],hw:=[(t,rE z enc zs)],fr:=[t]}:=by
 simp only [Prod.mk.injEq] at hT
 obtain ⟨h1,h2,h3,h4,h5,h6⟩:=hT
 intro ops o hop hg
 exact zMR (enc:=enc) h (Nat.le_of_ble_eq_true h5) (by simpa using h6) hone hg hop rfl (hx.f (fun y hy=>List.mem_append_left _ hy)) (hy.f (fun y hy=>List.mem_append_right _ hy)) (.head _) (.tail _ (.head _)) h1 h2 h3 h4
theorem zJa {α:Type} {xs ys zs:List α} (T U el e' z bytes t td:Nat) (enc:α→List D) (x y:Operand) (h:app bytes xs ys=some zs) (hx:OkO x (.rf td 0 xs.length none):=by trivial) (hy:OkO y (.s false z ys.length (ys.map enc)):=by trivial)
  (hone:∀a,(enc a).all zE6=true:=by intro _; rfl) (hT:(Γ.P.underlying T,Γ.P.underlying U,zKy Γ.P el,(zIX Γ.P el).cells.size,Nat.ble Γ.m t)=(some (.slice el),some (.slice e'),some (some (zIX Γ.P el),z,bytes),z,true):=by kernel_rfl):
  OpV Γ (.call {callee:=.builtin .append,args:= #[x,y],argTypes:= #[T,U]}) {tn:=tnO x (.rf td 0 xs.length none)++tnO y (.s false z ys.length (ys.map enc)),hn:=[(td,rE z enc xs)],out:=some (.rf t 0 zs.length none),hx:=[td],hw:=[(t,rE z enc zs)],fr:=[t]}:=by
 simp only [Prod.mk.injEq] at hT
 obtain ⟨h1,h2,h3,h4,h5⟩:=hT
 intro ops o hop hg
 exact zLq (enc:=enc) h (Nat.le_of_ble_eq_true h5) hone hg hop rfl (hx.f (fun y hy=>List.mem_append_left _ hy)) (hy.f (fun y hy=>List.mem_append_right _ hy)) (.head _) h1 h2 h3 h4
theorem zPe {α:Type} {zs:List α} {n:Int} (T el z bytes t:Nat) (enc:α→List D) (a:α) (x:Operand) (h:mk bytes n a=some zs) (he:Emb [] ((zIX Γ.P el).cells.toList.map D.sc) (enc a) []) (hx:OkO x (.sc (.int .i64 n)):=by first|trivial|rfl)
  (hT:(Γ.P.underlying T,zKy Γ.P el,(zIX Γ.P el).cells.size,(enc a).length,Nat.ble Γ.m t)=(some (.slice el),some (some (zIX Γ.P el),z,bytes),z,z,true):=by kernel_rfl):
  OpV Γ (.makeSlice T x x) {tn:=tnO x (.sc (.int .i64 n)),out:=some (.rf t 0 zs.length none),hw:=[(t,rE z enc zs)],fr:=[t]}:=by
 simp only [Prod.mk.injEq] at hT
 obtain ⟨h1,h2,h3,h4,h5⟩:=hT
 intro ops o hop hg
 exact zLP (enc:=enc) h (Nat.le_of_ble_eq_true h5) hg hop rfl (hx.f (fun y hy=>hy)) (hx.f (fun y hy=>hy)) h1 h2 h3 he h4
theorem zIb {α:Type} {xs:List α} {a b:α} {ix:Int} (T z t j:Nat) (enc:α→List D) (d:D) (x y:Operand) (h:idx xs ix=some a) (hb:enc b=(enc a).take j++cellsD d++(enc a).drop (j+(cellsD d).length))
  (hx:OkO x (.pt t ix.toNat j):=by trivial) (hy:OkO y d:=by first|trivial|rfl)
  (hT:((cellsD d).all D.cell,(cellsD d).all D.nest,zF0 Γ.P T,Nat.ble (j+(cellsD d).length) z)=(true,true,some (cellsD d).length,true):=by kernel_rfl):
  zPm Γ (.store T x y) {tn:=tnO x (.pt t ix.toNat j)++tnO y d,hn:=[(t,rE z enc xs)],hx:=[t],hw:=[(t,rE z enc (xs.set ix.toNat b))]}:=by
 simp only [Prod.mk.injEq] at hT
 obtain ⟨h1,h2,h3,h4⟩:=hT
 intro ops o hop hg hds
 exact zHJ (enc:=enc) (es':=cellsD d) (hm:=[]) (ts:=[]) h hg hop hds rfl (hx.f (fun y hy=>List.mem_append_left _ hy)) (hy.f (fun y hy=>List.mem_append_right _ hy)) hb h1 h3 (Nat.le_of_ble_eq_true h4) (.head _) (Emb.zHl [] _ h2) (fun q hq=>by simp at hq)
theorem zOU {α:Type} {xs:List α} {a b:α} {ix:Int} {es':List D} {ts:List Nat} (T z t j:Nat) (enc:α→List D) (d:D) (x y:Operand) (hm:List (Nat×Ent)) (h:idx xs ix=some a) (hem:Emb hm (cellsD d) es' ts) (hb:enc b=(enc a).take j++es'++(enc a).drop (j+(cellsD d).length))
  (hx:OkO x (.pt t ix.toNat j):=by trivial) (hy:OkO y d:=by first|trivial|rfl)
  (hT:((cellsD d).all D.cell,zF0 Γ.P T,Nat.ble (j+(cellsD d).length) z,hm.all (fun q=>q.1 !=t))=(true,some (cellsD d).length,true,true):=by kernel_rfl):
  zPm Γ (.store T x y) {tn:=tnO x (.pt t ix.toNat j)++tnO y d,hn:=(t,rE z enc xs)::hm,hx:=t::ts,hw:=[(t,rE z enc (xs.set ix.toNat b))]}:=by
 simp only [Prod.mk.injEq] at hT
 obtain ⟨h1,h3,h4,h5⟩:=hT
 intro ops o hop hg hds
 exact zHJ (enc:=enc) (es':=es') (hm:=hm) (ts:=ts) h hg hop hds rfl (hx.f (fun y hy=>List.mem_append_left _ hy)) (hy.f (fun y hy=>List.mem_append_right _ hy)) hb h1 h3 (Nat.le_of_ble_eq_true h4) (.head _) hem (fun q hq=>⟨List.mem_cons_of_mem _ hq,zOE h5 q hq⟩)
def zME (x:Operand) (d:D):D:=match x with
 | .tmp _=>d
 | .const v=>.sc v
 | .func f=>.fn f []
 | .global _=>.un
theorem OkO.of {x:Operand} {d:D} (hg:∀g,x≠ .global g) (h:zME x d=d):OkO x d:=by
 cases x with
 |tmp t=>trivial
 |const v=>exact h.symm
 |func f=>exact h.symm
 |global g=>exact absurd rfl (hg g)
def zMC:Operand→Bool
 | .global _=>false
 |_=>true
def tnL:List Operand→List D→List (Nat×D)
 |x::xs,d::ds=>tnO x d++tnL xs ds
 |_,_=>[]
theorem zJv {c:Cert}:∀{xs:List Operand} {ds:List D},ds.length=xs.length→xs.all zMC=true→List.zipWith zME xs ds=ds→(∀y∈tnL xs ds,y∈c.tn)→∀(k:Nat) (d:D),ds[k]? =some d→∃x,xs[k]? =some x∧OpF c x d
 |[],[],_,_,_,_,k,d,h=>by simp at h
 |x::xs,d0::ds,hl,hg,hz,hs,0,d,h=>by
  simp at h
  subst h
  simp only [List.zipWith_cons_cons,List.cons.injEq] at hz
  simp only [List.all_cons,Bool.and_eq_true] at hg
  refine ⟨x,rfl,(OkO.of (fun g e=>by subst e; simp [zMC] at hg) hz.1).f (fun y hy=>hs y (by simp [tnL,hy]))⟩
 |x::xs,d0::ds,hl,hg,hz,hs,k+1,d,h=>by
  simp only [List.zipWith_cons_cons,List.cons.injEq] at hz
  simp only [List.all_cons,Bool.and_eq_true] at hg
  obtain ⟨x',h1,h2⟩:=zJv (c:=c) (by simpa using hl) hg.2 hz.2 (fun y hy=>hs y (by simp [tnL,hy])) k d (by simpa using h)
  exact ⟨x',by simpa using h1,h2⟩
 |[],_::_,hl,_,_,_,_,_,_=>by simp at hl
 |_::_,[],hl,_,_,_,_,_,_=>by simp at hl
def zPz (P:Program) (el n z:Nat):Array Value:=if n*z=0 then #[] else (zIX P el).cells
def zPj (P:Program) (el n z:Nat):List Value:=((Array.range (n*z)).map ((zPz P el n z)[· %(zPz P el n z).size]!)).toList
theorem zNM {α:Type} {ds:List D} {ts:List Nat} (T el z t:Nat) (enc:α→List D) (lst:List α) (js:List Nat) (xs:List Operand) (dl:List D) (hn:List (Nat×Ent)) (he:Emb hn ds (lst.map enc).flatten ts)
  (hT:(yO Γ.P (underlying T),zF0 Γ.P el,yO Γ.P (zeroValue el),Nat.ble (lst.length*z) 1000,(zPj Γ.P el lst.length z).all Value.oneCell,Nat.ble Γ.m t)=(some (.slice el),some z,some (zIX Γ.P el),true,true,true):=by kernel_rfl)
  (hD:(dl.length,js.length,xs.all zMC,List.zipWith zME xs dl,dl.all (fun d=>(cellsD d).all D.cell),zIi (fun i=>some (i*z,z)) ((zPj Γ.P el lst.length z).map D.sc) (js.zip dl),(lst.map enc).all (fun e=>e.length==z))=(xs.length,xs.length,true,dl,true,some ds,true):=by kernel_rfl):
  OpV Γ (.buildSlice T lst.length (js.zip xs).toArray) {tn:=tnL xs dl,hn:=hn,out:=some (.rf t 0 lst.length none),hx:=ts,hw:=[(t,rE z enc lst)],fr:=[t]}:=by
 simp only [Prod.mk.injEq] at hT hD
 obtain ⟨h1,h2,h3,h4,h5,h6⟩:=hT
 obtain ⟨g1,g2,g3,g4,g5,g6,g7⟩:=hD
 intro ops o hop hg
 refine zNb (n:=lst.length) (zv:=zIX Γ.P el) (zc:=zPz Γ.P el lst.length z) (dl:=js.zip dl) (ds:=ds) (xs:=lst.map enc) (ts:=ts) hg hop rfl (Nat.le_of_ble_eq_true h6) h1 h2 (Nat.le_of_ble_eq_true h4) h3 rfl h5 (by simp [g1,g2]) ?_ g6 (by simp) ?_ he
 ·intro k i d hk
  rw [List.getElem?_zip_eq_some] at hk
  obtain ⟨x,hx1,hx2⟩:=zJv (c:= {tn:=tnL xs dl,hn:=hn,out:=some (.rf t 0 lst.length none),hx:=ts,hw:=[(t,rE z enc lst)],fr:=[t]}) g1 g3 g4 (fun y hy=>hy) k d hk.2
  refine ⟨x,?_,hx2,List.all_eq_true.1 g5 d (List.mem_of_getElem? hk.2)⟩
  simp only [List.getElem?_toArray]
  exact List.getElem?_zip_eq_some.2 ⟨hk.1,hx1⟩
 ·intro e he'
  simpa using List.all_eq_true.1 g7 e he'
theorem zEa {α:Type} (T el z t:Nat) (enc:α→List D) (lst:List α) (js:List Nat) (xs:List Operand) (dl:List D)
  (hT:(yO Γ.P (underlying T),zF0 Γ.P el,yO Γ.P (zeroValue el),Nat.ble (lst.length*z) 1000,(zPj Γ.P el lst.length z).all Value.oneCell,Nat.ble Γ.m t)=(some (.slice el),some z,some (zIX Γ.P el),true,true,true):=by kernel_rfl)
  (hD:(dl.length,js.length,xs.all zMC,List.zipWith zME xs dl,dl.all (fun d=>(cellsD d).all D.cell),zIi (fun i=>some (i*z,z)) ((zPj Γ.P el lst.length z).map D.sc) (js.zip dl),(lst.map enc).all (fun e=>e.length==z),(lst.map enc).flatten.all D.nest)=(xs.length,xs.length,true,dl,true,some (lst.map enc).flatten,true,true):=by kernel_rfl):
  OpV Γ (.buildSlice T lst.length (js.zip xs).toArray) {tn:=tnL xs dl,hn:=[],out:=some (.rf t 0 lst.length none),hx:=[],hw:=[(t,rE z enc lst)],fr:=[t]}:=by
 simp only [Prod.mk.injEq] at hD
 obtain ⟨g1,g2,g3,g4,g5,g6,g7,g8⟩:=hD
 refine zNM T el z t enc lst js xs dl [] (Emb.zHl [] _ g8) hT ?_
 simp only [Prod.mk.injEq]
 exact ⟨g1,g2,g3,g4,g5,g6,g7⟩
theorem AmL.zHk {hn:List (Nat×Ent)} {ids:List Nat} {bor:Bool}:∀{ds:List D},D.men.zE1 ds=[]→AmL hn ids bor ds ds
 |[],_=>.nil
 |d::ds,h=>by
  simp only [D.men.zE1,List.append_eq_nil_iff] at h
  exact .cons (.same h.1) (AmL.zHk h.2)
theorem zBr {hn:List (Nat×Ent)} {ids:List Nat} {t z:Nat} {α:Type} {enc enc':α→List D} {xs:List α} (hm:(t,rE z enc xs)∈hn) (hr:∀a,D.ro.roC (enc a)=enc' a) (ht:ids.contains t=false):Am hn ids true (.rf t 0 xs.length none) (.s false z xs.length (xs.map enc')):=
 .bor hm (by simpa using ht) (by simp) (zFD hr xs rfl rfl)
def D.nm1 (d:D):Bool:=d.free&&d.men.isEmpty
def D.nm2:D→Bool
 | .ag cs=>cs.all D.nm1
 |d=>d.nm1
def D.nm:D→Bool
 | .tu vs=>vs.all D.nm2
 |d=>d.nm2
theorem zK5 {d:D} (h:d.nm1=true):Nm d d []:=by
 simp only [D.nm1,Bool.and_eq_true,List.isEmpty_iff] at h
 exact .same h.2 h.1
theorem zIQ {p:D→Bool} (hp:∀d,p d=true→Nm d d []):∀{cs:List D},cs.all p=true→NmL cs cs []
 |[],_=>.nil
 |d::cs,h=>by
  simp only [List.all_cons,Bool.and_eq_true] at h
  exact .cons (e1:=[]) (hp d h.1) (zIQ hp h.2)
theorem zKF {d:D} (h:d.nm2=true):Nm d d []:=by
 cases d with
 |ag cs=>exact .ag (zIQ (fun _=>zK5) h)
 |_=>exact zK5 h
theorem zJZ {d:D} (h:d.nm=true):Nm d d []:=by
 cases d with
 |tu cs=>exact .tu (zIQ (fun _=>zKF) h)
 |_=>exact zKF h
theorem yL {v:Value}:(D.sc v).flat :=trivial
theorem zET {z n:Nat} {xs:List (List D)} (h:zKg xs):(D.s true z n xs).flat :=⟨rfl,h⟩
theorem zGr {cs:List D} (h:zFu cs):(D.ag cs).flat :=h
theorem zN7 {cs:List D} (h:zFu cs):(D.tu cs).flat :=h
theorem zFh:zFu []:=trivial
theorem fhN:zG3 []:=trivial
theorem flatK {d:D} {ds:List D} (h1:d.flat) (h2:zFu ds):zFu (d::ds):=⟨h1,h2⟩
theorem zGe {α:Type} {enc:α→List D} (h:∀a,zFu (enc a)):∀(xs:List α),zKg (xs.map enc)
 |[]=>trivial
 |x::xs=>⟨h x,zGe h xs⟩
theorem vG {f:FuncId} {as:List D} {R:Type} {e:Option R} {g:R→D×List Ent} {r:R} (xs:List Operand) (tys:List Nat) (hok:Ok Γ.P f as [] (e.map g)) (h:e=some r) (hcf:∀vs,yO Γ.P (callFunc f vs)=some (.enter f vs):=by intro _; kernel_rfl)
  (hC:(as.length,xs.all zMC,List.zipWith zME xs as,D.men.zE1 as,(g r).1.nm,(g r).2)=(xs.length,true,as,[],true,[]):=by kernel_rfl):
  OpV Γ (.call {callee:=.value (.func f),args:=xs.toArray,argTypes:=tys.toArray}) {tn:=tnL xs as,out:=some (g r).1}:=by
 simp only [Prod.mk.injEq] at hC
 obtain ⟨h1,h2,h3,h4,h5,h7⟩:=hC
 intro ops o hop hg
 exact zNw («as»:=as) (bor:=false) (ids:=[]) (hin:=[]) (hout:=[]) (news:=[]) hg hop hcf (by simpa using h1) (fun k d hk=>by
  obtain ⟨x,q1,q2⟩:=zJv (c:= {tn:=tnL xs as,out:=some (g r).1}) h1 h2 h3 (fun y hy=>hy) k d hk
  exact ⟨x,by simpa using q1,q2⟩) (AmL.zHk h4) (by simp) rfl (by simp) (by simp) hok (by rw [h,Option.map_some,←h7]) (by simp) (zJZ h5) (by simp) rfl (by simp) (by simp)
theorem zP4 {f:FuncId} {as caps:List D} {R:Type} {e:Option R} {g:R→D×List Ent} {r:R} (t0:Nat) (xs:List Operand) (tys:List Nat) (hok:Ok Γ.P f (as++caps) [] (e.map g)) (h:e=some r) (hcf:∀vs,yO Γ.P (callFunc f vs)=some (.enter f vs):=by intro _; kernel_rfl)
  (hC:(as.length,xs.all zMC,List.zipWith zME xs as,D.men.zE1 (as++caps),(g r).1.nm,(g r).2)=(xs.length,true,as,[],true,[]):=by kernel_rfl):
  OpV Γ (.call {callee:=.value (.tmp t0),args:=xs.toArray,argTypes:=tys.toArray}) {tn:=(t0,.fn f caps)::tnL xs as,out:=some (g r).1}:=by
 simp only [Prod.mk.injEq] at hC
 obtain ⟨h1,h2,h3,h4,h5,h7⟩:=hC
 intro ops o hop hg
 exact zLS («as»:=as) (caps:=caps) (bor:=false) (ids:=[]) (hin:=[]) (hout:=[]) (news:=[]) hg hop (show (t0,D.fn f caps)∈(t0,D.fn f caps)::tnL xs as from .head _) hcf (by simpa using h1) (fun k d hk=>by
  obtain ⟨x,q1,q2⟩:=zJv (c:= {tn:=(t0,.fn f caps)::tnL xs as,out:=some (g r).1}) h1 h2 h3 (fun y hy=>List.mem_cons_of_mem _ hy) k d hk
  exact ⟨x,by simpa using q1,q2⟩) (AmL.zHk h4) (by simp) rfl (by simp) (by simp) hok (by rw [h,Option.map_some,←h7]) (by simp) (zJZ h5) (by simp) rfl (by simp) (by simp)
theorem vC {f:FuncId} {as ds:List D} {R:Type} {e:Option R} {g:R→D×List Ent} {r:R} {d:D} {hin:List Ent} {news:List (Nat×Ent)} (xs:List Operand) (tys:List Nat) (bor:Bool) (hn:List (Nat×Ent)) (ids:List Nat) (ham:AmL hn ids bor as ds)
  (hok:Ok Γ.P f ds hin (e.map g)) (h:e=some r) (hnm:Nm (g r).1 d news) (hbor:bor=true→zG3 (g r).2∧(g r).1.flat :=by simp)
  (hcf:∀vs,yO Γ.P (callFunc f vs)=some (.enter f vs):=by intro _; kernel_rfl)
  (hC:(as.length,xs.all zMC,List.zipWith zME xs as,zED ids,hin.length,Nat.ble (g r).2.length hin.length,(ids.zip hin).map (fun x=>lk hn x.1),(hin++(g r).2).flatMap Ent.men,zED (news.map (·.1)),news.all (fun x=>Nat.ble Γ.m x.1))=
   (xs.length,true,as,true,ids.length,true,(ids.zip hin).map (fun x=>some x.2),[],true,true):=by kernel_rfl):
  OpV Γ (.call {callee:=.value (.func f),args:=xs.toArray,argTypes:=tys.toArray}) {tn:=tnL xs as,hn:=hn,out:=some d,hx:=ids,hw:=ids.zip (g r).2++news,fr:=news.map (·.1)}:=by
 simp only [Prod.mk.injEq] at hC
 obtain ⟨h1,h2,h3,h4,h5,h6,h7,h8,h9,h10⟩:=hC
 intro ops o hop hg
 exact zNw («as»:=as) (bor:=bor) (ids:=ids) (hin:=hin) (hout:=(g r).2) (news:=news) hg hop hcf (by simpa using h1) (fun k d' hk=>by
  obtain ⟨x,q1,q2⟩:=zJv (c:= {tn:=tnL xs as,hn:=hn,out:=some d,hx:=ids,hw:=ids.zip (g r).2++news,fr:=news.map (·.1)}) h1 h2 h3 (fun y hy=>hy) k d' hk
  exact ⟨x,by simpa using q1,q2⟩) ham (zBL h4) h5 (zEb h7) (zNv h8) hok (by rw [h,Option.map_some]) (Nat.le_of_ble_eq_true h6) hnm (zBL h9) rfl (zN2 h10) hbor
theorem zEB {f:FuncId} {ds:List D} {R:Type} {e:Option R} {g:R→D×List Ent} {r:R} {d:D} {hin:List Ent} {news:List (Nat×Ent)} (t0:Nat) (xs:List Operand) (tys:List Nat) (bor:Bool) (hn:List (Nat×Ent)) (ids:List Nat) (as:List D) (caps:List D) (ham:AmL hn ids bor (as++caps) ds)
  (hok:Ok Γ.P f ds hin (e.map g)) (h:e=some r) (hnm:Nm (g r).1 d news) (hbor:bor=true→zG3 (g r).2∧(g r).1.flat :=by simp)
  (hcf:∀vs,yO Γ.P (callFunc f vs)=some (.enter f vs):=by intro _; kernel_rfl)
  (hC:(as.length,xs.all zMC,List.zipWith zME xs as,zED ids,hin.length,Nat.ble (g r).2.length hin.length,(ids.zip hin).map (fun x=>lk hn x.1),(hin++(g r).2).flatMap Ent.men,zED (news.map (·.1)),news.all (fun x=>Nat.ble Γ.m x.1))=
   (xs.length,true,as,true,ids.length,true,(ids.zip hin).map (fun x=>some x.2),[],true,true):=by kernel_rfl):
  OpV Γ (.call {callee:=.value (.tmp t0),args:=xs.toArray,argTypes:=tys.toArray}) {tn:=(t0,.fn f caps)::tnL xs as,hn:=hn,out:=some d,hx:=ids,hw:=ids.zip (g r).2++news,fr:=news.map (·.1)}:=by
 simp only [Prod.mk.injEq] at hC
 obtain ⟨h1,h2,h3,h4,h5,h6,h7,h8,h9,h10⟩:=hC
 intro ops o hop hg
 exact zLS («as»:=as) (caps:=caps) (bor:=bor) (ids:=ids) (hin:=hin) (hout:=(g r).2) (news:=news) hg hop (show (t0,D.fn f caps)∈(t0,D.fn f caps)::tnL xs as from .head _) hcf (by simpa using h1) (fun k d' hk=>by
  obtain ⟨x,q1,q2⟩:=zJv (c:= {tn:=(t0,.fn f caps)::tnL xs as,hn:=hn,out:=some d,hx:=ids,hw:=ids.zip (g r).2++news,fr:=news.map (·.1)}) h1 h2 h3 (fun y hy=>List.mem_cons_of_mem _ hy) k d' hk
  exact ⟨x,by simpa using q1,q2⟩) ham (zBL h4) h5 (zEb h7) (zNv h8) hok (by rw [h,Option.map_some]) (Nat.le_of_ble_eq_true h6) hnm (zBL h9) rfl (zN2 h10) hbor
theorem zEV {op:Op} {tn:List (Nat×D)} {hn:List (Nat×Ent)} {d:D} {hx:List Nat} {hw:List (Nat×Ent)} {fr:List Nat} (A B:List (Nat×Ent)) (hv:OpV Γ op {tn:=tn,hn:=hn,out:=some d,hx:=hx,hw:=hw,fr:=fr})
  (hC:(A.map (fun x=>lk hn x.1),hx,hw,fr,zED (B.map (·.1)))=(A.map (fun x=>some x.2),A.map (·.1),A++B,B.map (·.1),true):=by kernel_rfl):OpV Γ op {tn:=tn,hn:=hn,out:=some d,hx:=[],hw:=B,fr:=fr}:=by
 simp only [Prod.mk.injEq] at hC
 obtain ⟨h1,h2,h3,h4,h5⟩:=hC
 intro ops o hop hg
 exact zMM A B (zEb h1) h2 h3 h4 (zBL h5) (hv ops o hop hg)
end
end Go.Im
set_option linter.unusedVariables false
namespace Go.Im
open Go
structure Wd where
 w0:World
 N0:Nat→Prop
 O0:List Nat
 β0:Nat→Loc
def Wd.g (q:Wd) (P:Program) (f m nt:Nat):Ctx:=⟨P,f,q.w0,q.N0,q.O0,m,q.β0,nt⟩
theorem zG {P:Program} {f:FuncId} {args:List D} {hin:List Ent} {T:Type} {e:Option T} {g:T→D×List Ent} (fc:Code) (fn:Func) (m nt:Nat)
  (h:∀(q:Wd),J (q.g P f m nt) fc [.c 1] ⟨args.zipIdx.map (fun x=>(x.2,x.1)),zF5 hin,D.men.zE1 args++zFB (zF5 hin)⟩ e (fun r=>some (g r)))
  (hf:(P.funcs[f]?,fn.body,fn.ntmps,Nat.ble args.length nt,hin.length)=(some fn,some fc,nt,true,m):=by kernel_rfl):Ok P f args hin (e.map g):=by
 simp only [Prod.mk.injEq] at hf
 obtain ⟨h1,h2,h3,h4,h5⟩:=hf
 subst h5
 exact zOF h1 h2 h3 (Nat.le_of_ble_eq_true h4) (fun w0 N0 O0 β0=>h ⟨w0,N0,O0,β0⟩)
section
variable {Γ:Ctx} {fc:Code} {k:List II} {σ:St} {T:Type} {K:T→Option (D×List Ent)}
theorem zF {b:Bool} {x y:Option T} (t:Nat) (h1:b=true→J Γ fc k ⟨(t,.sc (.bool true))::σ.tm,σ.hp,σ.us⟩ x K) (h2:b=false→J Γ fc k ⟨(t,.sc (.bool false))::σ.tm,σ.hp,σ.us⟩ y K) (hl:lk σ.tm t=some (.sc (.bool b)):=by kernel_rfl):
 J Γ fc k σ (if b then x else y) K:=zPT t hl h1 h2
variable {p:Nat}
theorem uE {rest:List (Nat×Cert)} {b b':Bool} (i:Nat) (tm:List (Nat×D)) (hp:List (Nat×Ent)) (hb:b=b') (hr:zIa Γ fc p rest)
  (h:(opAt fc p i).map (fun o=>(o.guard,ac0 Γ.P none o ⟨tm,hp,[]⟩))=some (none,some {tn:=tm,hn:=hp,out:=some (.sc (.bool b))}):=by kernel_rfl):
  zIa Γ fc p ((i,{tn:=tm,hn:=hp,out:=some (.sc (.bool b'))})::rest):=
 ⟨zPS (id:=none) tm hp _ h rfl (by rw [hb]),hr⟩
theorem zG6 {rest:List (Nat×Cert)} {b b':Bool} (i g t:Nat) (bg:Bool) (tm:List (Nat×D)) (hp:List (Nat×Ent)) (hb:b=b') (hr:zIa Γ fc p rest)
  (h:((opAt fc p i).map (fun o=>(o.guard,ac0 Γ.P none {o with guard:=none} ⟨tm,hp,[]⟩)),zIW fc p g)=(some (some (g,bg),some {tn:=tm,hn:=hp,out:=some (.sc (.bool b))}),some t):=by kernel_rfl):
  zIa Γ fc p ((i,{tn:=(t,.sc (.bool bg))::tm,hn:=hp,out:=some (.sc (.bool b'))})::rest):=by
 simp only [Prod.mk.injEq] at h
 exact ⟨zPy (id:=none) tm hp _ h.1 h.2 rfl (by rw [hb]),hr⟩
end
end Go.Im
set_option linter.unusedVariables false
namespace Go.Im
open Go
theorem zJ6 {β:Nat→Loc} {N:Nat→Prop} {w:World}:∀{vs us:List Value} {bs:List Nat},zI β N w true (vs.map D.sc) us bs→us=vs∧bs=[]
 |[],us,bs,h=>by simpa [zI] using h
 |v::vs,us,bs,h=>by
  simp only [List.map_cons,zI] at h
  obtain ⟨u,us',b1,b2,rfl,rfl,h3,h4⟩:=h
  simp only [Rep] at h3
  obtain ⟨rfl,rfl⟩:=h3
  obtain ⟨rfl,rfl⟩:=zJ6 h4
  exact ⟨rfl,rfl⟩
def zPr (a b:ByteArray):Int:=Lib.compareBytes a.data.toList b.data.toList
end Go.Im
set_option linter.unusedVariables false
namespace Go.Im
open Go
theorem zU.cut {β:Nat→Loc} {N:Nat→Prop} {w:World} {z:Nat}:∀{xs:List (List D)} {ws:List Value} {bs:List Nat} (k:Nat),zU β N w xs ws bs→(∀x∈xs,x.length=z)→
  ∃b1 b2,bs=b1++b2∧zU β N w (xs.take k) (ws.take (k*z)) b1∧zU β N w (xs.drop k) (ws.drop (k*z)) b2
 |xs,ws,bs,0,h,hz=>⟨[],bs,rfl,by simp [zU],by simpa using h⟩
 |[],ws,bs,k+1,h,hz=>by
  simp only [zU] at h
  rw [h.1,h.2]
  exact ⟨[],[],rfl,by simp [zU],by simp [zU]⟩
 |x::xs,ws,bs,k+1,h,hz=>by
  simp only [zU] at h
  obtain ⟨w1,w2,b1,b2,rfl,rfl,h3,h4⟩:=h
  have hl:=h3.length
  rw [hz x (by simp)] at hl
  obtain ⟨c1,c2,rfl,h5,h6⟩:=zU.cut k h4 (fun y hy=>hz y (by simp [hy]))
  have e1:(w1++w2).drop ((k+1)*z)=w2.drop (k*z):=by
   rw [Nat.add_mul,Nat.one_mul,List.drop_append,List.drop_of_length_le (by omega),List.nil_append]; congr 1; omega
  have e2:(w1++w2).take ((k+1)*z)=w1++w2.take (k*z):=by
   rw [Nat.add_mul,Nat.one_mul,List.take_append,List.take_of_length_le (by omega)]; congr 2; omega
  rw [e1,e2]
  refine ⟨b1++c1,c2,by simp,?_,by simpa using h6⟩
  simp only [List.take_succ_cons,zU]
  exact ⟨w1,_,b1,c1,rfl,rfl,h3,h5⟩
section
variable {Γ:Ctx} {ops:Array Oper} {o:Oper}
theorem zPx {c:Cert} {x:Operand} {T el:TypeId} {lo hi:Option Operand} {z n l h t t':Nat} {xs:List (List D)} (hg:o.guard=none) (hop:o.op= .slice T x lo hi none)
  (hc:c= {tn:=c.tn,hn:=c.hn,out:=some (.rf t' 0 (h-l) none),hx:=[t],hw:=[(t',.row z ((xs.drop l).take (h-l)))],fr:=[t']}) (hm:Γ.m≤t') (hx:OpF c x (.rf t 0 n none)) (hT:yO Γ.P (underlying T)=some (.slice el)) (hz:zF0 Γ.P el=some z)
  (hl:zJS c lo 0 l) (hh:zJS c hi n h) (h1:l≤h) (h2:h≤n) (hnn:n=xs.length) (hh':(t,.row z xs)∈c.hn):Valid Γ ops o c:=by
 intro σ a w Q hdst hn ⟨h0,β,bs,hr⟩
 have hwt:Region.wanted o (yielded ops a.tmps)=true:=by simp [Region.wanted,hg]
 rw [if_pos hwt]
 have hfr:t'∉σ.us:=hn.2.2 t' (by rw [hc]; simp)
 have h3:=OpF.rep hx hn hr
 obtain ⟨b1,b2,hp,⟨hLz,hzz,hrow⟩,hrest⟩:=uK.take hr.hp hr.keys (hn.2.1 _ hh')
 have hne:∀k,k∈σ.us→k≠t':=fun k hk e=>hfr (e▸hk)
 have hkm:∀k,k<Γ.m→k≠t':=fun k hk e=>by omega
 simp only [Rep] at h3
 obtain ⟨_,_,h3⟩:=h3
 have hfilt:σ.hp.filter (fun x=> !c.hx.contains x.1)=σ.hp.filter (fun x=>x.1 !=t):=by
  rw [hc]; congr 1; funext x; by_cases hx:x.1=t<;>simp [hx]
 have hrun:∀ad len cp,a.eval x= .slice ad len cp→n=len→n≤cp→(execOp a.eval o).run Γ.P w= .ok (.value (.slice (if cp=l then ad else ad.map (·.add (l*z))) (h-l) (cp-l))) w:=by
  intro ad len cp he hlen hcp
  subst hlen
  refine zFa (s:=Instr.sliceAt T (a.eval x) (lo.map a.eval) (hi.map a.eval) none) (by simp [execOp,hop]) ?_
  rw [he]
  exact zEe hn hr hT hz hl hh h1 (by omega)
 rcases hrow with ⟨hnil,hxs,hb1⟩|⟨hnil,ws,hO,hE⟩
 ·subst hxs
  subst hb1
  simp at hnn
  have hl0:l=0:=by omega
  have hh0:h=0:=by omega
  subst hl0 hh0 hnn
  have hv:a.eval x= .slice none 0 0:=by
   rcases h3 with ⟨_,_,_,h3⟩|⟨h3,_⟩
   ·exact h3
   ·rw [hnil] at h3; cases h3
  have hown:(β t).own =[]:=by simp [Loc.own,hnil]
  rw [hown] at hp
  unfold Oper.wp
  rw [hrun _ _ _ hv rfl (Nat.le_refl _),Oper.upon_value]
  refine Rel.step (β1:=zGw β t' ⟨true,0,0,z,0⟩) (bk:=b2) (br:=[]) (bn:=[]) h0 hr hdst (by rw [hc]; simp) (by rw [hc]; simpa using .inr hfr) (by simpa using hp) (by rw [hfilt]; exact hrest) (Nat.le_refl _) (fun _ _ _=>rfl)
   (fun k hk=>by simp [zGw,hne k hk]) (fun k hk=>by simp [zGw,hkm k hk]) (by simp) (by simp) ?_ ?_ ⟨rfl,rfl,rfl,Nat.le_refl _⟩
  ·rw [hc]
   refine ⟨[],[],?_,?_,rfl⟩
   ·simp [zGw,Loc.own]
   ·simp [zGw,zCn]
  ·intro d hd
   rw [hc] at hd
   cases hd
   simp [Rep,zGw]
 ·have hv:∃c',a.eval x= .slice (some ⟨(β t).b,(β t).o,none⟩) n c'∧n≤c'∧c'*z≤(β t).r :=by
   rcases h3 with ⟨h3,_⟩|⟨_,c',h3,h4,h5,_⟩
   ·rw [hnil] at h3; cases h3
   ·exact ⟨c',by simpa using h3,h4,by rw [←hLz]; simpa using h5⟩
  obtain ⟨cp,hv,hcp,hroom⟩:=hv
  have hown:(β t).own =[(β t).b]:=by simp [Loc.own,hnil]
  rw [hown] at hp
  have hws:=hE.length hzz
  obtain ⟨d1,d2,e1,hs1,hs2⟩:=hE.cut l hzz
  obtain ⟨d3,d4,e2,hs3,hs4⟩:=hs2.cut (h-l) (fun y hy=>hzz y (List.mem_of_mem_drop hy))
  have hp2:bs.Perm (((β t).b ::b1)++b2):=by simpa using hp
  have hnd:=hp2.nodup_iff.1 hr.nodup
  have hsub:∀b∈d3,b∈b1:=fun b hb=>by rw [e1,e2]; simp [hb]
  have hndn:((β t).b ::d3).Nodup :=by
   have q:=(List.nodup_append.1 hnd).1
   rw [e1,e2] at q
   refine List.Nodup.sublist ?_ q
   refine List.Sublist.cons_cons _ ?_
   exact (List.sublist_append_left d3 d4).trans (List.sublist_append_right _ _)
  unfold Oper.wp
  rw [hrun _ _ _ hv rfl hcp,Oper.upon_value]
  have hNS:∀b,NS Γ w bs b→NS Γ w ((β t).b ::d3++b2) b∧w.heap[b]? =w.heap[b]? :=by
   rintro b ⟨u1,u2,u3⟩
   refine ⟨⟨u1,u2,fun hb=>u3 (hp2.mem_iff.2 ?_)⟩,rfl⟩
   simp only [List.cons_append,List.mem_cons,List.mem_append] at hb ⊢
   rcases hb with rfl|hb|hb
   ·exact .inl rfl
   ·exact .inr (.inl (hsub b hb))
   ·exact .inr (.inr hb)
  refine Rel.step (β1:=zGw β t' ⟨false,(β t).b,if cp=l then (β t).o else (β t).o +l*z,z,(cp-l)*z⟩) (bk:=b2) (br:=(β t).b ::b1) (bn:=(β t).b ::d3) h0 hr hdst (by rw [hc]; simp) (by rw [hc]; simpa using .inr hfr) hp2 (by rw [hfilt]; exact hrest) (Nat.le_refl _) (fun _ _ _=>rfl)
   (fun k hk=>by simp [zGw,hne k hk]) (fun k hk=>by simp [zGw,hkm k hk]) hndn ?_ ?_ ?_ ⟨rfl,rfl,rfl,Nat.le_refl _⟩
  ·intro b hb
   have:b∈(β t).b ::b1:=by
    rcases List.mem_cons.1 hb with rfl|hb
    ·simp
    ·exact List.mem_cons_of_mem _ (hsub b hb)
   exact ⟨.inl this,(hr.own b (hp2.mem_iff.2 (List.mem_append_left _ this))).1⟩
  ·rw [hc]
   refine ⟨d3,[],by simp [zGw,Loc.own],⟨by simp [zGw],fun y hy=>hzz y (List.mem_of_mem_drop (List.mem_of_mem_take hy)),.inr ⟨by simp [zGw],(ws.drop (l*z)).take ((h-l)*z),?_,?_⟩⟩,rfl⟩
   ·simp only [vB]
    obtain ⟨arr,e,lo',hi',u1,u2,u3,u4⟩:=hO
    have hmul:(cp-l)*z=cp*z-l*z:=Nat.sub_mul _ _ _
    have hlc:l*z≤cp*z:=Nat.mul_le_mul_right _ (by omega)
    refine ⟨arr,e,lo',hi',u1,u2,?_,?_⟩
    ·split
     ·rename_i hcl; rw [hcl]; simp; omega
     ·omega
    ·intro k hk
     simp only [List.length_take,List.length_drop] at hk
     have hkl:k<ws.length-l*z:=by omega
     have hcl:cp≠l:=by
      intro e; subst e
      have:ws.length=cp*z:=by rw [hws,←hnn]; congr 1; omega
      omega
     rw [if_neg hcl]
     have:=u4 (l*z+k) (by omega)
     rw [Nat.add_assoc,this]
     simp
   ·refine zU.frame (β':=zGw β t' ⟨false,(β t).b,if cp=l then (β t).o else (β t).o +l*z,z,(cp-l)*z⟩) hNS _ _ _ (fun _ _=>rfl) hs3
  ·intro d hd
   rw [hc] at hd
   cases hd
   simp only [Rep,vB]
   refine ⟨trivial,trivial,.inr ⟨trivial,cp-l,?_,by omega,by simp,by simp⟩⟩
   simp only [Nat.zero_mul,Nat.add_zero]
   split
   ·rfl
   ·simp [zDr]
end
end Go.Im

import Derived.Test.YtdeihchdibglaaaGreatImD
import Derived.Lib.Bytealg
set_option linter.unusedVariables false
namespace Go.Im
open Go
section
variable {Γ:Ctx} {fc:Code} {k:List II} {σ:St} {T:Type} {K:T→Option (D×List Ent)}
mutual
inductive Fz (t z:Nat) (xs:List (List D)):D→D→Prop where
 |same {d:D}:d.men=[]→Fz t z xs d d
 |keep {d:D}:d.men.contains t=false→Fz t z xs d d
 |rf {off n:Nat} {cap:Option Nat} {ys:List (List D)}:off+n≤xs.length→ys=((D.ro.roE xs).drop off).take n→Fz t z xs (.rf t off n cap) (.s false z n ys)
 |fn {f:FuncId} {cs cs':List D}:FzL t z xs cs cs'→Fz t z xs (.fn f cs) (.fn f cs')
 |ag {cs cs':List D}:FzL t z xs cs cs'→Fz t z xs (.ag cs) (.ag cs')
 |tu {cs cs':List D}:FzL t z xs cs cs'→Fz t z xs (.tu cs) (.tu cs')
inductive FzL (t z:Nat) (xs:List (List D)):List D→List D→Prop where
 |nil:FzL t z xs [] []
 |cons {d d':D} {ds ds':List D}:Fz t z xs d d'→FzL t z xs ds ds'→FzL t z xs (d::ds) (d'::ds')
end
mutual
theorem Fz.men {t z:Nat} {xs:List (List D)}:∀{d d':D},Fz t z xs d d'→∀q∈d'.men,q∈d.men∧q≠t
 |d,_,.same h=>by rw [h]; simp
 |d,_,.keep h=>fun q hq=>⟨hq,fun e=>by subst e; simp at h; exact h hq⟩
 |_,_,.rf _ _=>by simp [D.men]
 |_,_,.fn h=>by simpa [D.men] using FzL.men h
 |_,_,.ag h=>by simpa [D.men] using FzL.men h
 |_,_,.tu h=>by simpa [D.men] using FzL.men h
theorem FzL.men {t z:Nat} {xs:List (List D)}:∀{d d':List D},FzL t z xs d d'→∀q∈D.men.zEa d',q∈D.men.zEa d∧q≠t
 |_,_,.nil =>by simp [D.men.zEa]
 |_,_,.cons h1 h2=>fun q hq=>by
  simp only [D.men.zEa,List.mem_append] at hq ⊢
  rcases hq with hq|hq
  ·exact ⟨.inl (Fz.men h1 q hq).1,(Fz.men h1 q hq).2⟩
  ·exact ⟨.inr (FzL.men h2 q hq).1,(FzL.men h2 q hq).2⟩
end
theorem FzL.length {t z:Nat} {xs:List (List D)}:∀{d d':List D},FzL t z xs d d'→d'.length=d.length
 |_,_,.nil =>rfl
 |_,_,.cons _ h2=>by simp [FzL.length h2]
section
variable {β:Nat→Loc} {N N':Nat→Prop} {w:World} {t z:Nat} {xs:List (List D)}
mutual
theorem Fz.rep (hN:∀b,N b→N' b) {b1:List Nat} (hE:zCn β N w (β t) b1 (.row z xs)) (hb:∀b∈(β t).own ++b1,N' b):∀{d d':D} {v:Value},Fz t z xs d d'→Rep β N w true d v []→Rep β N' w true d' v []
 |d,_,v,.same hm,h=>Rep.frame (fun b hb=>⟨hN b hb,rfl⟩) d true v [] (by simp) (fun _ _=>rfl) h
 |d,_,v,.keep hm,h=>Rep.frame (fun b hb=>⟨hN b hb,rfl⟩) d true v [] (by simp) (fun _ _=>rfl) h
 | .rf _ off n cap,.s _ _ _ ys,v,.rf hle hys,h=>by
  obtain ⟨hLz,hzz,hrow⟩:=hE
  simp only [Rep] at h
  obtain ⟨_,_,h⟩:=h
  simp only [Rep]
  have hl:ys.length=n:=by rw [hys]; simp [zEU]; omega
  have hz:∀e∈ys,e.length=z:=fun e he=>by
   rw [hys] at he
   obtain ⟨e',he',rfl⟩:=zFj (List.mem_of_mem_drop (List.mem_of_mem_take he))
   rw [zDh]; exact hzz e' he'
  refine ⟨hl,hz,?_⟩
  rcases h with ⟨hnil,_,hn0,rfl⟩|⟨hnil,cp,rfl,hcap,hroom,_⟩
  ·exact ⟨none,0,by rw [hn0],by omega,.inl ⟨hn0,trivial,by simp⟩⟩
  ·refine ⟨_,cp,rfl,hcap,?_⟩
   rcases hrow with ⟨hnil',_⟩|⟨_,ws,hO,hE⟩
   ·rw [hnil] at hnil'; cases hnil'
   ·have q:=zU.ro (β':=β) (N':=N') hN xs ws b1 (fun b hb'=>hb b (List.mem_append_right _ hb')) hE
    have hzr:∀e∈D.ro.roE xs,e.length=z:=fun e he=>by
     obtain ⟨e',he',rfl⟩:=zFj he
     rw [zDh]; exact hzz e' he'
    have q2:=(zU.sub n (zU.sub off q hzr).2 (fun e he=>hzr e (List.mem_of_mem_drop he))).1
    refine .inr (.inl ⟨trivial,(β t).b,_,_,rfl,hb _ (by simp [Loc.own,hnil]),?_,hys▸q2,trivial⟩)
    rw [hLz]
    exact hO.has.sub (off*z) (n*z)
 |_,_,v,.fn hl,h=>by
  simp only [Rep] at h ⊢
  obtain ⟨h1,h2,ws,h3,h4⟩:=h
  exact ⟨trivial,trivial,ws,h3,FzL.rep hN hE hb hl h4⟩
 |_,_,v,.ag hl,h=>by
  simp only [Rep] at h ⊢
  obtain ⟨h1,ws,h3,h5,h4⟩:=h
  exact ⟨trivial,ws,h3,h5,FzL.rep hN hE hb hl h4⟩
 |_,_,v,.tu hl,h=>by
  simp only [Rep] at h ⊢
  obtain ⟨h1,ws,h3,h4⟩:=h
  exact ⟨trivial,ws,h3,FzL.rep hN hE hb hl h4⟩
theorem FzL.rep (hN:∀b,N b→N' b) {b1:List Nat} (hE:zCn β N w (β t) b1 (.row z xs)) (hb:∀b∈(β t).own ++b1,N' b):∀{ds ds':List D} {vs:List Value},FzL t z xs ds ds'→zH β N w true ds vs []→zH β N' w true ds' vs []
 |_,_,vs,.nil,h=>by simp only [zH] at h ⊢; exact h
 |_,_,vs,.cons h1 h2,h=>by
  simp only [zH] at h ⊢
  obtain ⟨v,vs',b1,b2,rfl,hb',h3,h4⟩:=h
  rw [(List.append_eq_nil_iff.1 hb'.symm).1] at h3
  rw [(List.append_eq_nil_iff.1 hb'.symm).2] at h4
  exact ⟨v,vs',[],[],rfl,rfl,Fz.rep hN hE hb h1 h3,FzL.rep hN hE hb h2 h4⟩
end
end
inductive FzT (t z:Nat) (xs:List (List D)):List (Nat×D)→List (Nat×D)→Prop where
 |nil:FzT t z xs [] []
 |cons {q:Nat} {d d':D} {l l':List (Nat×D)}:Fz t z xs d d'→FzT t z xs l l'→FzT t z xs ((q,d)::l) ((q,d')::l')
inductive FzH (t z:Nat) (xs:List (List D)):List (Nat×Ent)→List (Nat×Ent)→Prop where
 |nil:FzH t z xs [] []
 |box {q:Nat} {cs cs':List D} {l l':List (Nat×Ent)}:cs.all D.free=true→FzL t z xs cs cs'→FzH t z xs l l'→FzH t z xs ((q,.box cs)::l) ((q,.box cs')::l')
 |keep {q:Nat} {e:Ent} {l l':List (Nat×Ent)}:e.men.contains t=false→FzH t z xs l l'→FzH t z xs ((q,e)::l) ((q,e)::l')
theorem FzT.mem {t z:Nat} {xs:List (List D)} {l l':List (Nat×D)} (h:FzT t z xs l l'):∀{q:Nat} {d':D},(q,d')∈l'→∃d,(q,d)∈l∧Fz t z xs d d':=by
 induction h with
 |nil=>intro q d' h; cases h
 |cons h1 _ ih=>
  intro q d' h
  rcases List.mem_cons.1 h with h|h
  ·cases h; exact ⟨_,by simp,h1⟩
  ·obtain ⟨d,h3,h4⟩:=ih h; exact ⟨d,by simp [h3],h4⟩
theorem FzH.keys {t z:Nat} {xs:List (List D)} {l l':List (Nat×Ent)} (h:FzH t z xs l l'):l'.map (·.1)=l.map (·.1):=by
 induction h with
 |nil=>rfl
 |box _ _ _ ih=>simp [ih]
 |keep _ _ ih=>simp [ih]
theorem FzH.zFw {t z:Nat} {xs:List (List D)} {l l':List (Nat×Ent)} (h:FzH t z xs l l'):∀q∈zFw l',q∈zFw l:=by
 induction h with
 |nil=>exact fun q h=>h
 |box _ h1 _ ih=>
  intro q hq
  simp only [Im.zFw,List.flatMap_cons,Ent.men,List.mem_append,List.mem_cons] at hq ⊢
  rcases hq with (hq|hq)|hq
  ·exact .inl (.inl hq)
  ·exact .inl (.inr (FzL.men h1 q hq).1)
  ·exact .inr (ih q hq)
 |keep _ _ ih=>
  intro q hq
  simp only [Im.zFw,List.flatMap_cons,List.mem_append,List.mem_cons] at hq ⊢
  rcases hq with hq|hq
  ·exact .inl hq
  ·exact .inr (ih q hq)
theorem FzH.rep {β:Nat→Loc} {N N':Nat→Prop} {w:World} {t z:Nat} {xs:List (List D)} {l l':List (Nat×Ent)} (h:FzH t z xs l l') (hN:∀b,N b→N' b) {b1:List Nat} (hE:zCn β N w (β t) b1 (.row z xs)) (hb:∀b∈(β t).own ++b1,N' b):
  ∀{bs:List Nat},uO β N w l bs→uO β N' w l' bs:=by
 induction h with
 |nil=>exact fun h=>h
 |box hfree h1 _ ih=>
  rintro bs ⟨c1,c2,rfl,⟨hn,hz,ws,hO,hone,hcs⟩,h3⟩
  have:=zH.free hfree hcs
  subst this
  refine ⟨[],c2,rfl,⟨hn,by rw [h1.length]; exact hz,ws,hO,hone,FzL.rep hN hE hb h1 hcs⟩,ih h3⟩
 |keep _ _ ih=>
  rintro bs ⟨c1,c2,rfl,h2,h3⟩
  exact ⟨c1,c2,rfl,h2.frame (fun b hb=>⟨hN b hb,rfl⟩) (fun _ _=>rfl) (fun _=>rfl) (fun _ _=>rfl),ih h3⟩
theorem zGu {e:Option T} (t:Nat) {z:Nat} {xs:List (List D)} {tm1 tm2:List (Nat×D)} {hp1 hp2:List (Nat×Ent)} (htm:FzT t z xs tm1 tm2) (hhp:FzH t z xs hp1 hp2) (ht:(hp1.map (·.1)).contains t=false)
  (hj:J Γ fc k (St.mk' tm2 hp2) e K):J Γ fc k (St.mk' tm1 ((t,.row z xs)::hp1)) e K:=by
 refine zEO (fun a w hr=>?_) hj
 obtain ⟨h0,β,bs,h⟩:=hr
 obtain ⟨b1,bk,rfl,hE,hrest⟩:=h.hp
 have hp:((β t).own ++(b1++bk)).Perm (((β t).own ++b1)++bk):=by rw [List.append_assoc]
 have hnd:=hp.nodup_iff.1 h.nodup
 have hN:∀b,NS Γ w ((β t).own ++(b1++bk)) b→NS Γ w bk b:=fun b hb=>NS.sub (fun x hx=>by simp [hx]) hb
 have hb:∀b∈(β t).own ++b1,NS Γ w bk b:=fun b hb=>by
  have:=h.own b (hp.mem_iff.2 (List.mem_append_left _ hb))
  refine ⟨?_,this.1,fun hbk=>(List.nodup_append.1 hnd).2.2 b hb b hbk rfl⟩
  rcases this.2 with h1|h1
  ·exact .inr (.inl h1)
  ·exact .inr (.inr h1)
 refine ⟨?_,β,bk,{defers:=h.defers,size:=h.size,keys:=?_,par:=h.par,grow:=h.grow,gh:=h.gh,quiet:=h.quiet,keep:=h.keep,hp:=hhp.rep hN hE hb hrest,nodup:=(List.nodup_append.1 hnd).2.1,own:=fun b hb=>h.own b (hp.mem_iff.2 (List.mem_append_right _ hb)),tm:=?_}⟩
 ·intro q hq
  simp only [St.mk',List.mem_append]
  exact hq
 ·have hk:=h.keys
  simp only [St.mk',List.map_cons,List.nodup_cons] at hk
  simp only [St.mk']
  rw [hhp.keys]
  exact hk.2
 ·intro q d' hd
  obtain ⟨d,h1,h2⟩:=htm.mem hd
  obtain ⟨v,h3,h4⟩:=h.tm q d h1
  exact ⟨v,h3,Fz.rep hN hE hb h2 h4⟩
end
end Go.Im
set_option linter.unusedVariables false
namespace Go.Im
open Go
def same {α β:Type} (xs:List α) (ys:List β):Option Unit:=if xs.length=ys.length then some () else none
theorem zIH {α β:Type} {xs:List α} {ys:List β} {u:Unit} (h:same xs ys=some u):xs.length=ys.length:=by
 unfold same at h
 split at h
 ·assumption
 ·cases h
section
variable {Γ:Ctx} {fc:Code} {k:List II} {σ:St} {T:Type} {K:T→Option (D×List Ent)}
theorem zF5 {e0:Option T} {ix:Int} {α:Type} {enc:α→List D} {A:List α} {a:α} {z z' n:Nat} {ys:List (List D)} (t j t':Nat) (h:idx A ix=some a) (hl:lk σ.hp t=some (.row z (A.map enc))) (hej:(enc a)[j]? =some (.s true z' n ys))
  (hf:(!σ.us.contains t'&&Nat.ble Γ.m t')=true)
  (hj:J Γ fc k ⟨σ.tm,(t,.lent z (A.map enc) ix.toNat j t' n)::(t',.row z' ys)::σ.hp.filter (fun x=>x.1 !=t),t'::σ.us⟩ e0 K):J Γ fc k σ e0 K:=by
 obtain ⟨_,h2⟩:=zDN h
 exact zPs t ix.toNat j t' hl (by rw [List.getElem?_map,h2]; rfl) hej hf hj
theorem zG6 {e0:Option T} {ix:Int} {α:Type} {enc:α→List D} {A:List α} {a b:α} {z z' n n':Nat} {ys:List (List D)} (t j t':Nat) (h:idx A ix=some a) (hl:lk σ.hp t=some (.lent z (A.map enc) ix.toNat j t' n)) (hl':lk σ.hp t'=some (.row z' ys))
  (hne:(t==t')=false) (hb:enc b=(enc a).set j (.s true z' n' ys)) (hn:n'=n) (hjlt:j< (enc a).length) (hyl:ys.length=n)
  (hj:J Γ fc k ⟨σ.tm,(t,.row z ((A.set ix.toNat b).map enc))::(σ.hp.filter (fun x=>x.1 !=t)).filter (fun x=>x.1 !=t'),σ.us⟩ e0 K):J Γ fc k σ e0 K:=by
 obtain ⟨_,h2⟩:=zDN h
 subst hn
 refine zPr t ix.toNat j t' hl hl' hne (by rw [List.getElem?_map,h2]; rfl) hjlt hyl ?_
 rw [←hb,←List.map_set]
 exact hj
theorem zMl {e:Option T} (t j id z:Nat) {cs:List D} (hl:lk σ.hp t=some (.box cs)) (hc:cs[j]? =some (.sc (.slice none 0 0))) (hm:Γ.m≤id) (hid:σ.us.contains id=false)
  (hj:J Γ fc k ⟨σ.tm,(t,.box (cs.set j (.rf id 0 0 none)))::(id,.row z [])::σ.hp.filter (fun x=>x.1 !=t),id::σ.us⟩ e K):J Γ fc k σ e K:=by
 refine zEO (fun a w hr=>?_) hj
 obtain ⟨h0,β,bs,h⟩:=hr
 have hidu:id∉σ.us:=by simpa using hid
 have hmT:∀x∈σ.tm,∀t'∈x.2.men,t'≠id:=fun x hx t' ht' e=>hidu (e▸h0 t' (.inl (List.mem_flatMap.2 ⟨x,hx,ht'⟩)))
 have hmH:∀t'∈zFw σ.hp,t'≠id:=fun t' ht' e=>hidu (e▸h0 t' (.inr ht'))
 have htm:t∈zFw σ.hp:=List.mem_flatMap.2 ⟨_,zAA hl,by simp⟩
 have htne:t≠id:=hmH t htm
 obtain ⟨b1,bk,p,⟨hnil,hz,ws,hO,hone,hcs⟩,hrest⟩:=uO.take h.hp h.keys (zAA hl)
 have hjl:j<cs.length:=(List.getElem?_eq_some_iff.1 hc).1
 have hsplit:cs=cs.take j++([.sc (.slice none 0 0)]++cs.drop (j+1)):=by
  conv=>lhs; rw [←List.take_append_drop j cs,List.drop_eq_getElem_cons hjl,(List.getElem?_eq_some_iff.1 hc).2]
  rfl
 have hset:cs.set j (.rf id 0 0 none)=cs.take j++([.rf id 0 0 none]++cs.drop (j+1)):=by
  rw [List.set_eq_take_append_cons_drop,if_pos hjl]; rfl
 have hmcs:∀t'∈D.men.zEa cs,t'≠id:=fun t' ht'=>hmH t' (List.mem_flatMap.2 ⟨_,zAA hl,by simp [Ent.men,ht']⟩)
 refine ⟨?_,zFO β id ⟨true,0,0,z,0⟩,(β t).own ++(b1++bk),?_⟩
 ·intro q hq
  rcases hq with hq|hq
  ·exact List.mem_cons_of_mem _ (h0 q (.inl hq))
  ·simp only [zFw,List.flatMap_cons,Ent.men,List.mem_append,List.mem_cons,List.not_mem_nil,or_false] at hq
   rcases hq with (rfl|hq)|rfl|hq
   ·exact List.mem_cons_of_mem _ (h0 q (.inr htm))
   ·rw [hset] at hq
    obtain ⟨d,hd,hqd⟩:∃d∈cs.take j++([.rf id 0 0 none]++cs.drop (j+1)),q∈d.men:=by
     clear hset hsplit
     generalize cs.take j++([D.rf id 0 0 none]++cs.drop (j+1))=l at hq
     induction l with
     |nil=>simp [D.men.zEa] at hq
     |cons d l ih=>
      simp only [D.men.zEa,List.mem_append] at hq
      rcases hq with hq|hq
      ·exact ⟨d,by simp,hq⟩
      ·obtain ⟨d',h1,h2⟩:=ih hq
       exact ⟨d',by simp [h1],h2⟩
    simp only [List.mem_append,List.mem_singleton] at hd
    rcases hd with hd|rfl|hd
    ·exact List.mem_cons_of_mem _ (h0 q (.inr (List.mem_flatMap.2 ⟨_,zAA hl,List.mem_cons_of_mem _ (zHe (List.mem_of_mem_take hd) hqd)⟩)))
    ·simp [D.men] at hqd; simp [hqd]
    ·exact List.mem_cons_of_mem _ (h0 q (.inr (List.mem_flatMap.2 ⟨_,zAA hl,List.mem_cons_of_mem _ (zHe (List.mem_of_mem_drop hd) hqd)⟩)))
   ·simp
   ·obtain ⟨x,hx,hx'⟩:=List.mem_flatMap.1 hq
    exact List.mem_cons_of_mem _ (h0 q (.inr (List.mem_flatMap.2 ⟨x,(List.mem_filter.1 hx).1,hx'⟩)))
 ·have hNS:∀b,NS Γ w bs b→NS Γ w ((β t).own ++(b1++bk)) b:=fun b hb=>NS.sub (fun x hx=>p.mem_iff.2 hx) hb
  refine {defers:=h.defers,size:=h.size,keys:=?_,par:=fun k' hk'=>?_,grow:=h.grow,gh:=h.gh,quiet:=h.quiet,keep:=h.keep,hp:=?_,nodup:=p.nodup_iff.1 h.nodup,own:=fun b hb=>h.own b (p.mem_iff.2 hb),tm:=?_}
  ·simp only [List.map_cons,List.nodup_cons,List.mem_cons,not_or]
   refine ⟨⟨htne,fun hin=>?_⟩,fun hin=>?_,List.Nodup.sublist (List.Sublist.map _ List.filter_sublist) h.keys⟩
   ·obtain ⟨x,hx,hx'⟩:=List.mem_map.1 hin
    have:=(List.mem_filter.1 hx).2
    simp [hx'] at this
   ·obtain ⟨x,hx,hx'⟩:=List.mem_map.1 hin
    exact hmH x.1 (List.mem_flatMap.2 ⟨x,(List.mem_filter.1 hx).1,by simp⟩) hx'
  ·rw [zAh (by omega)]; exact h.par k' hk'
  ·refine ⟨b1,bk,by rw [zAh htne],?_,[],bk,by simp [wW,Loc.own],?_,?_⟩
   ·rw [zAh htne]
    refine ⟨hnil,by simpa using hz,ws,hO,hone,?_⟩
    have hcs':zH (zFO β id ⟨true,0,0,z,0⟩) (NS Γ w ((β t).own ++(b1++bk))) w true cs ws b1:=zH.frame (fun b hb=>⟨hNS b hb,rfl⟩) cs true ws b1 (fun _ _=>rfl) (fun q hq=>zAh (hmcs q hq)) hcs
    obtain ⟨c1,c2,e1,g1,g2⟩:=hcs'.split j
    have hdj:cs.drop j= .sc (.slice none 0 0)::cs.drop (j+1):=by
     rw [List.drop_eq_getElem_cons hjl,(List.getElem?_eq_some_iff.1 hc).2]
    rw [hdj] at g2
    simp only [zH] at g2
    obtain ⟨v,vs,d1,d2,ev,e2,hv,g3⟩:=g2
    simp only [Rep] at hv
    obtain ⟨rfl,rfl⟩:=hv
    rw [hset]
    have hrf:zH (zFO β id ⟨true,0,0,z,0⟩) (NS Γ w ((β t).own ++(b1++bk))) w true [.rf id 0 0 none] [.slice none 0 0] []:=by
     simp only [zH,Rep,wW]
     exact ⟨_,[],[],[],rfl,rfl,⟨trivial,rfl,.inl ⟨trivial,trivial,trivial,rfl⟩⟩,rfl,rfl⟩
    have key:=g1.append (hrf.append g3)
    have ew:ws=ws.take j++([.slice none 0 0]++vs):=by
     conv=>lhs; rw [←List.take_append_drop j ws,ev]
     rfl
    rw [ew]
    clear hNS hcs' ew hsplit hset
    generalize NS Γ w ((β t).own ++(b1++bk))=N' at*
    rw [e1,e2]
    exact key
   ·rw [wW]; exact ⟨rfl,by simp,.inl ⟨rfl,rfl,rfl⟩⟩
   ·refine uO.frame (fun b hb=>⟨hNS b hb,rfl⟩) _ _ (fun _ _=>rfl) (fun t' ht'=>zAh (hmH t' ?_)) hrest
    obtain ⟨x,hx,hx'⟩:=List.mem_flatMap.1 ht'
    exact List.mem_flatMap.2 ⟨x,(List.mem_filter.1 hx).1,hx'⟩
  ·intro t' d hd
   obtain ⟨v,h1,h2⟩:=h.tm t' d hd
   exact ⟨v,h1,Rep.frame (fun b hb=>⟨hNS b hb,rfl⟩) d true v [] (by simp) (fun q hq=>zAh (hmT _ hd q hq)) h2⟩
theorem zPZ {e:Option T} (t:Nat) {n:Nat} (hl:lk σ.tm t=some (.nb n)) (h1:n=0→J Γ fc k ⟨(t,.sc (.bool true))::σ.tm,σ.hp,σ.us⟩ e K) (h2:J Γ fc k ⟨(t,.sc (.bool false))::σ.tm,σ.hp,σ.us⟩ e K):J Γ fc k σ e K:=by
 intro r out he hk a w hrel
 obtain ⟨h0,β,bs,h⟩:=hrel
 obtain ⟨v,hv,hr⟩:=h.tm t _ (zAA hl)
 simp only [Rep] at hr
 obtain ⟨_,b,rfl,hb⟩:=hr
 have key:∀b',a.tmps[t]? =some (.bool b')→Rel Γ ⟨(t,.sc (.bool b'))::σ.tm,σ.hp,σ.us⟩ a w:=by
  intro b' hb'
  refine ⟨fun t' ht'=>h0 t' ?_,β,bs,{defers:=h.defers,size:=h.size,keys:=h.keys,par:=h.par,grow:=h.grow,gh:=h.gh,quiet:=h.quiet,keep:=h.keep,hp:=h.hp,nodup:=h.nodup,own:=h.own,tm:=?_}⟩
  ·rcases ht' with ht'|ht'
   ·simp only [zGU,List.flatMap_cons,D.men,List.nil_append] at ht'
    exact .inl ht'
   ·exact .inr ht'
  ·intro t' d hd
   rcases List.mem_cons.1 hd with hd|hd
   ·cases hd
    exact ⟨_,hb',by simp [Rep]⟩
   ·exact h.tm t' d hd
 cases b with
 |true=>exact h1 (hb rfl) r out he hk a w (key _ hv)
 |false=>exact h2 r out he hk a w (key _ hv)
theorem zNI {e e':Option T} (h:e=e') (hj:J Γ fc k σ e' K):J Γ fc k σ e K:=h▸hj
end
section
variable {Γ:Ctx} {ops:Array Oper} {o:Oper}
theorem zMr {P:Program} {T el:TypeId} {w:World} {ad:Option Addr} {n cap:Nat} (hT:yP P (underlying T)=some (.slice el)):
  (Op.equal T (.slice ad n cap) (.slice none 0 0)).run P w= .ok ad.isNone w:=by
 unfold Op.equal Op.maxDepth
 show (Op.equalIn (9999+1) T _ _).run P w=_
 unfold Op.equalIn
 rw [run_bind_ok (zL _ _ w hT)]
 cases ad<;>rfl
theorem zNX {c:Cert} {x:Operand} {T U el:TypeId} {wo:Bool} {z n:Nat} {xs:List (List D)} (hg:o.guard=none) (hop:o.op= .binOp .eql T x (.const (.slice none 0 0)) U) (hc:c= {tn:=c.tn,out:=some (.nb n)})
  (hx:OpF c x (.s wo z n xs)) (hT:yP Γ.P (underlying T)=some (.slice el)):Valid Γ ops o c:=by
 refine jL (d:=.nb n) (f:=fun ρ=>do eqGuard .eql T x (.const (.slice none 0 0)) (ρ x) (ρ (.const (.slice none 0 0))); binOp .eql T (ρ x) (ρ (.const (.slice none 0 0)))) hg (fun ρ=>by simp [execOp,hop]) (by rw [hc]) fun β bs σ a w hn hr=>?_
 have h1:=OpF.rep hx hn hr
 simp only [Rep] at h1
 obtain ⟨_,_,ad,cap,hv,_,h5⟩:=h1
 refine ⟨.bool ad.isNone,?_,?_⟩
 ·have he:a.eval (.const (.slice none 0 0))= .slice none 0 0:=rfl
  rw [hv,he]
  rw [run_bind_ok (a:=()) (w':=w) rfl]
  show (do pure (Value.bool (←Op.equal T (.slice ad n cap) (.slice none 0 0))):Sem Value).run Γ.P w=_
  rw [run_bind_ok (zMr hT)]
  rfl
 ·simp only [Rep]
  refine ⟨trivial,ad.isNone,rfl,fun hn0=>?_⟩
  cases ad with
  |some _=>cases hn0
  |none=>
   rcases h5 with h5|⟨_,b,off,ws,h6,_⟩|⟨_,b,off,ws,bs',h6,_⟩
   ·exact h5.1
   ·cases h6
   ·cases h6
end
end Go.Im
set_option linter.unusedVariables false
namespace Go.Im
open Go
def iv (x:Int):D:=.sc (.int .i64 x)
def uv (x:Int):D:=.sc (.int .u8 x)
def bv (b:Bool):D:=.sc (.bool b)
def sv (s:ByteArray):D:=.sc (.string s)
def nv:D:=.sc (.slice none 0 0)
def sl {α:Type} (z:Nat) (e:α→List D) (xs:List α):D:=.s false z xs.length (xs.map e)
def so {α:Type} (z:Nat) (e:α→List D) (xs:List α):D:=.s true z xs.length (xs.map e)
def rr {α:Type} (t:Nat) (xs:List α):D:=.rf t 0 xs.length none
def pp (t:Nat):D:=.pt t 0 0
def rE {α:Type} (z:Nat) (e:α→List D) (xs:List α):Ent:=.row z (xs.map e)
def zO2 (fc:Code):Nat→Nat→List II
 |0,_=>[]
 |f+1,p=>if p≤1 then [] else match sub fc (p / 2) with
  | .seq _ _=>if p%2==0 then .c (p+1)::zO2 fc f (p / 2) else zO2 fc f (p / 2)
  | .block id _=>.b id::zO2 fc f (p / 2)
  | .loop _=>.l p::zO2 fc f (p / 2)
  |_=>zO2 fc f (p / 2)
def aft (fc:Code) (p:Nat):List II:=zO2 fc 250 p
def atI (fc:Code) (p:Nat):List II:=.c p::aft fc p
def zPi (fc:Code) (tm:List (Nat×D)) (p:Nat):Nat→List II→Option (List II)
 |0,_=>none
 |n+1,k=>match k with
  | .c q::r=>if q=p then some r else match zLM fc tm (.c q::r) with
   |some k'=>zPi fc tm p n k'
   |none=>none
  |k=>match zLM fc tm k with
   |some k'=>zPi fc tm p n k'
   |none=>none
theorem zHG {fc:Code} {tm:List (Nat×D)} {p:Nat}:∀(n:Nat) (k r:List II),zPi fc tm p n k=some r→∃m,zL4 fc tm m k=some (.c p::r)
 |0,k,r,h=>by cases h
 |n+1,k,r,h=>by
  unfold zPi at h
  split at h
  ·rename_i q r'
   split at h
   ·rename_i e; subst e; cases h; exact ⟨0,rfl⟩
   ·split at h
    ·rename_i k' hk'
     obtain ⟨m,hm⟩:=zHG n k' r h
     exact ⟨m+1,by simp only [zL4,hk']; exact hm⟩
    ·cases h
  ·split at h
   ·rename_i k' hk'
    obtain ⟨m,hm⟩:=zHG n k' r h
    exact ⟨m+1,by simp only [zL4,hk']; exact hm⟩
   ·cases h
def II.eq:II→II→Bool
 | .c x,.c y=>x==y
 | .b x,.b y=>x==y
 | .l x,.l y=>x==y
 |_,_=>false
theorem II.zH5:∀{p q:II},II.eq p q=true→p=q
 | .c x,.c y,h=>by simp [II.eq] at h; rw [h]
 | .b x,.b y,h=>by simp [II.eq] at h; rw [h]
 | .l x,.l y,h=>by simp [II.eq] at h; rw [h]
 | .c _,.b _,h=>by cases h
 | .c _,.l _,h=>by cases h
 | .b _,.c _,h=>by cases h
 | .b _,.l _,h=>by cases h
 | .l _,.c _,h=>by cases h
 | .l _,.b _,h=>by cases h
def IIs.eq:List II→List II→Bool
 |[],[]=>true
 |a::k,b::k'=>II.eq a b&&IIs.eq k k'
 |_,_=>false
theorem IIs.zH5:∀{a b:List II},IIs.eq a b=true→a=b
 |[],[],_=>rfl
 |a::k,b::k',h=>by
  simp only [IIs.eq,Bool.and_eq_true] at h
  rw [II.zH5 h.1,IIs.zH5 h.2]
 |[],_::_,h=>by cases h
 |_::_,[],h=>by cases h
def zN9 (fc:Code) (tm:List (Nat×D)) (k':List II):Nat→List II→Bool
 |0,_=>false
 |n+1,k=>if k.length==k'.length&&IIs.eq k k' then true else match zLM fc tm k with
  |some k2=>zN9 fc tm k' n k2
  |none=>false
theorem zJm {fc:Code} {tm:List (Nat×D)} {k':List II}:∀(n:Nat) (k:List II),zN9 fc tm k' n k=true→∃m,zL4 fc tm m k=some k'
 |0,k,h=>by cases h
 |n+1,k,h=>by
  unfold zN9 at h
  split at h
  ·rename_i e
   simp only [Bool.and_eq_true] at e
   exact ⟨0,by simp only [zL4]; rw [IIs.zH5 e.2]⟩
  ·split at h
   ·rename_i k2 hk2
    obtain ⟨m,hm⟩:=zJm n k2 h
    exact ⟨m+1,by simp only [zL4,hk2]; exact hm⟩
   ·cases h
def zOC (fc:Code) (tm:List (Nat×D)):Nat→List II→Bool
 |0,_=>false
 |n+1,k=>match k with
  |[]=>true
  | .c q::r=>match sub fc q with
   | .ret =>true
   |_=>match zLM fc tm (.c q::r) with
    |some k2=>zOC fc tm n k2
    |none=>false
  |k=>match zLM fc tm k with
   |some k2=>zOC fc tm n k2
   |none=>false
theorem zHJ {fc:Code} {tm:List (Nat×D)}:∀(n:Nat) (k:List II),zOC fc tm n k=true→∃m k',zL4 fc tm m k=some k'∧(k'=[]∨∃p k'',k'= .c p::k''∧sub fc p= .ret)
 |0,k,h=>by cases h
 |n+1,k,h=>by
  unfold zOC at h
  split at h
  ·exact ⟨0,[],rfl,.inl rfl⟩
  ·rename_i q r
   split at h
   ·rename_i hs
    exact ⟨0,_,rfl,.inr ⟨q,r,rfl,hs⟩⟩
   ·split at h
    ·rename_i k2 hk2
     obtain ⟨m,k',h1,h2⟩:=zHJ n k2 h
     exact ⟨m+1,k',by simp only [zL4,hk2]; exact h1,h2⟩
    ·cases h
  ·split at h
   ·rename_i k2 hk2
    obtain ⟨m,k',h1,h2⟩:=zHJ n k2 h
    exact ⟨m+1,k',by simp only [zL4,hk2]; exact h1,h2⟩
   ·cases h
section
variable {Γ:Ctx} {fc:Code} {k:List II} {σ:St} {T:Type} {K:T→Option (D×List Ent)}
theorem zB {p:Nat}:zHV Γ fc p []:=trivial
def zPL (fc:Code) (tm:List (Nat×D)) (p:Nat) (k:List II):Bool:=match zPi fc tm p 60 k with
 |some r=>IIs.eq r (aft fc p)
 |none=>false
theorem J_g {e:Option T} (p:Nat) (ids:List (Nat×Nat)) (tm2:List (Nat×D)) (hp2:List (Nat×Ent)) {orc:List (Nat×Cert)} (hor:zHV Γ fc p orc) (hj:J Γ fc (aft fc p) (St.mk' tm2 hp2) e K)
  (h:(zPL fc σ.tm p k&&Γ.P.follows .mixedOrders,(chk Γ.P Γ.nt Γ.m fc p orc ids σ tm2 hp2).1,(chk Γ.P Γ.nt Γ.m fc p orc ids σ tm2 hp2).2.2.1,(chk Γ.P Γ.nt Γ.m fc p orc ids σ tm2 hp2).2.2.2.2)=
   (true,(chk Γ.P Γ.nt Γ.m fc p orc ids σ tm2 hp2).2.1,(chk Γ.P Γ.nt Γ.m fc p orc ids σ tm2 hp2).2.2.2.1,true):=by kernel_rfl):J Γ fc k σ e K:=by
 simp only [Prod.mk.injEq,Bool.and_eq_true] at h
 obtain ⟨⟨h0,hm⟩,h1,h2,h3⟩:=h
 unfold zPL at h0
 split at h0
 ·rename_i r hr
  obtain ⟨m,hm2⟩:=zHG _ _ _ hr
  rw [IIs.zH5 h0] at hm2
  refine zOv m _ hm2 (zPA orc ids tm2 hp2 hm hor ?_ hj)
  simp only [Prod.mk.injEq]
  exact ⟨h1,h2,h3⟩
 ·cases h0
theorem zQk {b:Bool} {x y:Option T} (t:Nat) (hl:lk σ.tm t=some (.sc (.bool b)):=by kernel_rfl) (h1:b=true→J Γ fc k ⟨(t,.sc (.bool true))::σ.tm,σ.hp,σ.us⟩ x K) (h2:b=false→J Γ fc k ⟨(t,.sc (.bool false))::σ.tm,σ.hp,σ.us⟩ y K):
  J Γ fc k σ (if b then x else y) K:=by
 cases b with
 |true=>exact zOF true hl rfl (h1 rfl)
 |false=>exact zOF false hl rfl (h2 rfl)
theorem zPy {e:Option T} {k':List II} {tm2:List (Nat×D)} {hp2:List (Nat×Ent)} (hj:J Γ fc k' (St.mk' tm2 hp2) e K)
  (h:(zN9 fc σ.tm k' 60 k,tm2.map (fun x=>lk σ.tm x.1),hp2.map (fun x=>lk σ.hp x.1),zEv (hp2.map (·.1)))=(true,tm2.map (fun x=>some x.2),hp2.map (fun x=>some x.2),true):=by kernel_rfl):J Γ fc k σ e K:=by
 simp only [Prod.mk.injEq] at h
 obtain ⟨m,hm⟩:=zJm _ _ h.1
 refine zOv m _ hm (zBv tm2 hp2 ?_ hj)
 simp only [Prod.mk.injEq]
 exact h.2
theorem J_b {S:Type} {g:S→Option T} {s:S} {k':List II} {tm2:List (Nat×D)} {hp2:List (Nat×Ent)} (hj:J Γ fc k' (St.mk' tm2 hp2) (g s) K)
 (h:(zN9 fc σ.tm k' 60 k,tm2.map (fun x=>lk σ.tm x.1),hp2.map (fun x=>lk σ.hp x.1),zEv (hp2.map (·.1)))=(true,tm2.map (fun x=>some x.2),hp2.map (fun x=>some x.2),true):=by kernel_rfl):
 J Γ fc k σ (some (Lp.go s)) (fun x=>(Lp.elim g x).bind K):=zQr (zPy hj h)
theorem xA {V:Type} {v:V} {w:T} {K0:V→Option (D×List Ent)} {k':List II} {tm2:List (Nat×D)} {hp2:List (Nat×Ent)} (hj:J Γ fc k' (St.mk' tm2 hp2) (some v) K0) (hK:K w=K0 v)
 (h:(zN9 fc σ.tm k' 60 k,tm2.map (fun x=>lk σ.tm x.1),hp2.map (fun x=>lk σ.hp x.1),zEv (hp2.map (·.1)))=(true,tm2.map (fun x=>some x.2),hp2.map (fun x=>some x.2),true):=by kernel_rfl):
 J Γ fc k σ (some w) K:=J_q (zPy hj h) hK
theorem zFv {U:Type} {y:Option U} {f:U→Option T} {k':List II} {tm2:List (Nat×D)} {hp2:List (Nat×Ent)} (hj:J Γ fc k' (St.mk' tm2 hp2) y (fun x=>(f x).bind K))
 (h:(zN9 fc σ.tm k' 60 k,tm2.map (fun x=>lk σ.tm x.1),hp2.map (fun x=>lk σ.hp x.1),zEv (hp2.map (·.1)))=(true,tm2.map (fun x=>some x.2),hp2.map (fun x=>some x.2),true):=by kernel_rfl):
 J Γ fc k σ (y.bind f) K:=zHF (zPy hj h)
theorem jW {R V:Type} {y:Option (Fl R V)} {K0:R→Option (D×List Ent)} {fr:R→Option T} {rest:V→Option T} {k':List II} {tm2:List (Nat×D)} {hp2:List (Nat×Ent)} (hr:∀r,(fr r).bind K=K0 r)
 (hj:J Γ fc k' (St.mk' tm2 hp2) y (Fl.go K0 (fun v=>(rest v).bind K)))
 (h:(zN9 fc σ.tm k' 60 k,tm2.map (fun x=>lk σ.tm x.1),hp2.map (fun x=>lk σ.hp x.1),zEv (hp2.map (·.1)))=(true,tm2.map (fun x=>some x.2),hp2.map (fun x=>some x.2),true):=by kernel_rfl):
 J Γ fc k σ (y.bind (Fl.go fr rest)) K:=zOO hr (zPy hj h)
def zP3 (P:Program) (f:FuncId):List ResultVar:=match P.funcs[f]? with
 |some fn=>fn.results.toList
 |none=>[]
theorem zNu {P:Program} {f:FuncId} (h:(P.funcs[f]?).isSome =true):∃fn,P.funcs[f]? =some fn∧fn.results.toList=zP3 P f:=by
 unfold zP3
 cases hf:P.funcs[f]? with
 |none=>rw [hf] at h; cases h
 |some fn=>exact ⟨fn,rfl,rfl⟩
def D.plain:D→Bool
 | .ag cs=>cs.all D.nest
 |d=>d.nest
theorem Ret.plain {hn:List (Nat×Ent)} {d:D} (h:d.plain=true):Ret hn d d []:=by
 cases d with
 |ag cs=>exact .ag (Emb.zGV hn cs h)
 |_=>exact .cell (.keep h .nil)
theorem zLG.plain {hn:List (Nat×Ent)}:∀{ds:List D},ds.all D.plain=true→zLG hn ds ds []
 |[],_=>.nil
 |d::ds,h=>by
  simp only [List.all_cons,Bool.and_eq_true] at h
  exact .cons (t1:=[]) (Ret.plain h.1) (zLG.plain h.2) (by simp)
theorem zK1:∀{cs:List D},cs.all D.nest=true→D.men.zEa cs=[]
 |[],_=>rfl
 |d::cs,h=>by
  simp only [List.all_cons,Bool.and_eq_true] at h
  simp only [D.men.zEa,zK1 h.2,List.append_nil]
  have:=h.1
  cases d<;>simp_all [D.nest,D.men]
theorem zJy:∀{ds:List D},ds.all D.plain=true→D.men.zEa ds=[]
 |[],_=>rfl
 |d::ds,h=>by
  simp only [List.all_cons,Bool.and_eq_true] at h
  simp only [D.men.zEa,zJy h.2,List.append_nil]
  have:=h.1
  cases d with
  |ag cs=>simp only [D.men]; exact zK1 this
  |_=>simp_all [D.plain,D.nest,D.men]
def zMb (Γ:Ctx) (fc:Code) (k:List II) (σ:St) (hout:List Ent):Bool×Option (List D)×List (Option Ent)×Bool×List Nat×Bool:=
 (zOC fc σ.tm 60 k,zOy Γ.P σ.tm σ.hp (zP3 Γ.P Γ.fid),(zFp hout).map (fun x=>lk σ.hp x.1),Nat.ble hout.length Γ.m,hout.flatMap Ent.men,(Γ.P.funcs[Γ.fid]?).isSome)
theorem zDZ {v:T} {ds ds':List D} {ts:List Nat} {hout:List Ent} (hret:zLG σ.hp ds ds' ts) (hK:K v=some (zN7 ds',hout))
  (h:(zMb Γ fc k σ hout,D.men.zEa ds',ts.all (fun t=>Nat.ble hout.length t))=((true,some ds,(zFp hout).map (fun x=>some x.2),true,[],true),[],true):=by kernel_rfl):J Γ fc k σ (some v) K:=by
 simp only [zMb,Prod.mk.injEq] at h
 obtain ⟨⟨h1,h2,h3,h4,h5,h6⟩,h7,h8⟩:=h
 obtain ⟨m,k',g1,g2⟩:=zHJ _ _ h1
 obtain ⟨fn,g3,g4⟩:=zNu h6
 refine zOv m k' g1 (zPF g2 g3 g4 (zHr h2) hret (fun x hx=>⟨zDX h3 x hx,fun ht=>?_⟩) (Nat.le_of_ble_eq_true h4) (by rw [h7]; simp) (fun e he t ht=>?_) hK)
 ·have h1:=Nat.le_of_ble_eq_true (List.all_eq_true.1 h8 _ ht)
  have h2:=(List.getElem?_eq_some_iff.1 (zJc.1 hx)).1
  omega
 ·have:t∈hout.flatMap Ent.men:=List.mem_flatMap.2 ⟨e,he,ht⟩
  rw [h5] at this
  simp at this
theorem xJ {v:T} {d:D} {hout:List Ent} (hK:K v=some (d,hout))
  (h:(zMb Γ fc k σ hout,d.plain)=((true,some [d],(zFp hout).map (fun x=>some x.2),true,[],true),true):=by kernel_rfl):J Γ fc k σ (some v) K:=by
 simp only [Prod.mk.injEq] at h
 have hp:[d].all D.plain=true:=by simpa using h.2
 refine zDZ (ds:=[d]) (ds':=[d]) (ts:=[]) (zLG.plain hp) hK ?_
 simp only [Prod.mk.injEq]
 exact ⟨h.1,zJy hp,rfl⟩
end
def OpV (Γ:Ctx) (op:Op) (c:Cert):Prop:=∀(ops:Array Oper) (o:Oper),o.op=op→o.guard=none→Valid Γ ops o c
def zPG (Γ:Ctx) (op:Op) (c:Cert):Prop:=∀(ops:Array Oper) (o:Oper),o.op=op→o.guard=none→o.dst=none→Valid Γ ops o c
section
variable {Γ:Ctx} {fc:Code} {p:Nat}
theorem zF {rest:List (Nat×Cert)} {op:Op} {c:Cert} (i:Nat) (hv:OpV Γ op c) (hr:zHV Γ fc p rest) (h:(opAt fc p i).map (fun o=>(o.op,o.guard))=some (op,none):=by kernel_rfl):zHV Γ fc p ((i,c)::rest):=
 ⟨zQn h hv,hr⟩
theorem zNz {rest:List (Nat×Cert)} {op:Op} {c:Cert} (i:Nat) (hv:zPG Γ op c) (hr:zHV Γ fc p rest) (h:(opAt fc p i).map (fun o=>(o.op,o.guard,o.dst))=some (op,none,none):=by kernel_rfl):zHV Γ fc p ((i,c)::rest):=
 ⟨zPO h hv,hr⟩
theorem zAR {rest:List (Nat×Cert)} {op:Op} {c:Cert} (i g t:Nat) (b:Bool) (hv:OpV Γ op c) (hr:zHV Γ fc p rest) (h:((opAt fc p i).map (fun o=>(o.op,o.guard)),zJi fc p g)=(some (op,some (g,b)),some t):=by kernel_rfl):
  zHV Γ fc p ((i,{c with tn:=(t,.sc (.bool b))::c.tn})::rest):=by
 simp only [Prod.mk.injEq] at h
 exact ⟨zQt h.1 h.2 hv,hr⟩
theorem zHI {rest:List (Nat×Cert)} {c:Cert} (i:Nat) (hv:∀id ops draw,sub fc p= .region id ops draw→∀o,ops[i]? =some o→Valid Γ ops o c) (hr:zHV Γ fc p rest):zHV Γ fc p ((i,c)::rest):=⟨hv,hr⟩
def tnO (x:Operand) (d:D):List (Nat×D):=match x with
 | .tmp t=>[(t,d)]
 |_=>[]
def OkO (x:Operand) (d:D):Prop:=match x with
 | .tmp _=>True
 | .const v=>d= .sc v
 | .func f=>d= .fn f []
 | .global _=>False
theorem OkO.f {c:Cert} {x:Operand} {d:D} (h:OkO x d) (hs:∀y∈tnO x d,y∈c.tn):OpF c x d:=by
 cases x with
 |tmp t=>exact hs _ (by simp [tnO])
 |const v=>exact h
 |func f=>exact h
 |global g=>exact h.elim
theorem kD {α:Type} {xs:List α} {i:Int} {a:α} {kk:IntKind} (T el z:Nat) (enc:α→List D) (x y:Operand) (h:idx xs i=some a) (hx:OkO x (.s false z xs.length (xs.map enc)):=by trivial) (hy:OkO y (.sc (.int kk i)):=by first|trivial|rfl)
  (hT:(yP Γ.P (underlying T),zFr Γ.P el)=(some (.slice el),some z):=by kernel_rfl):OpV Γ (.indexAddr T x y) {tn:=tnO x (.s false z xs.length (xs.map enc))++tnO y (.sc (.int kk i)),out:=some (.ps (enc a))}:=by
 simp only [Prod.mk.injEq] at hT
 intro ops o hop hg
 exact zNU h hg hop rfl (hx.f (fun y hy=>List.mem_append_left _ hy)) (hy.f (fun y hy=>List.mem_append_right _ hy)) hT.1 hT.2
theorem zB5 {α:Type} {xs:List α} {i:Int} {a:α} {kk:IntKind} (T el z t:Nat) (enc:α→List D) (x y:Operand) (h:idx xs i=some a) (hx:OkO x (.rf t 0 xs.length none):=by trivial) (hy:OkO y (.sc (.int kk i)):=by first|trivial|rfl)
  (hT:(yP Γ.P (underlying T),zFr Γ.P el)=(some (.slice el),some z):=by kernel_rfl):
  OpV Γ (.indexAddr T x y) {tn:=tnO x (.rf t 0 xs.length none)++tnO y (.sc (.int kk i)),hn:=[(t,rE z enc xs)],out:=some (.pt t i.toNat 0)}:=by
 simp only [Prod.mk.injEq] at hT
 intro ops o hop hg
 exact zL5 h hg hop rfl (hx.f (fun y hy=>List.mem_append_left _ hy)) (hy.f (fun y hy=>List.mem_append_right _ hy)) (.head _) hT.1 hT.2
theorem zJ5 {α:Type} {xs:List α} {i:Int} {a:α} {kk:IntKind} (T el z t:Nat) (enc:α→List D) (x y:Operand) (a0 b0 t' n':Nat) (h:idx xs i=some a) (hx:OkO x (.rf t 0 xs.length none):=by trivial) (hy:OkO y (.sc (.int kk i)):=by first|trivial|rfl)
  (hT:(yP Γ.P (underlying T),zFr Γ.P el)=(some (.slice el),some z):=by kernel_rfl):
  OpV Γ (.indexAddr T x y) {tn:=tnO x (.rf t 0 xs.length none)++tnO y (.sc (.int kk i)),hn:=[(t,.lent z (xs.map enc) a0 b0 t' n')],out:=some (.pt t i.toNat 0)}:=by
 simp only [Prod.mk.injEq] at hT
 intro ops o hop hg
 exact zJB h hg hop rfl (hx.f (fun y hy=>List.mem_append_left _ hy)) (hy.f (fun y hy=>List.mem_append_right _ hy)) (.head _) hT.1 hT.2
theorem zIQ {α:Type} (T t:Nat) (x:Operand) (z:Nat) (enc:α→List D) (xs:List α) (i j t' n:Nat) (hd:zBt Γ.P T [.rf t' 0 n none]=some (.rf t' 0 n none):=by kernel_rfl) (hx:OkO x (.pt t i j):=by trivial):
  OpV Γ (.load T x) {tn:=tnO x (.pt t i j),hn:=[(t,.lent z (xs.map enc) i j t' n)],out:=some (.rf t' 0 n none)}:=by
 intro ops o hop hg
 exact zJX hg hop rfl (hx.f (fun y hy=>hy)) (.head _) hd
theorem zBU {α:Type} {xs:List α} {i:Int} {a:α} {d:D} (T z t j:Nat) (enc:α→List D) (x:Operand) (h:idx xs i=some a) (hd:(((enc a).drop j).all zCl,zBt Γ.P T ((enc a).drop j))=(true,some d)) (hx:OkO x (.pt t i.toNat j):=by trivial):
  OpV Γ (.load T x) {tn:=tnO x (.pt t i.toNat j),hn:=[(t,rE z enc xs)],out:=some d}:=by
 simp only [Prod.mk.injEq] at hd
 intro ops o hop hg
 exact zLA h hg hop rfl (hx.f (fun y hy=>hy)) (.head _) hd.1 hd.2
theorem zO1 {s:ByteArray} {i b:Int} {kk:IntKind} (T:Nat) (x y:Operand) (h:bidx s i=some b) (hx:OkO x (.sc (.string s)):=by first|trivial|rfl) (hy:OkO y (.sc (.int kk i)):=by first|trivial|rfl) (hT:yP Γ.P (underlying T)=some .string :=by kernel_rfl):
  OpV Γ (.index T x y) {tn:=tnO x (.sc (.string s))++tnO y (.sc (.int kk i)),out:=some (.sc (.int .u8 b))}:=by
 intro ops o hop hg
 exact zPf h hg hop rfl (hx.f (fun y hy=>List.mem_append_left _ hy)) (hy.f (fun y hy=>List.mem_append_right _ hy)) hT
theorem zM8 {α:Type} {xs:List α} (T el U z:Nat) (enc:α→List D) (x:Operand) (hx:OkO x (.s false z xs.length (xs.map enc)):=by trivial) (hT:yP Γ.P (underlying T)=some (.slice el):=by kernel_rfl):
  OpV Γ (.binOp .eql T x (.const (.slice none 0 0)) U) {tn:=tnO x (.s false z xs.length (xs.map enc)),out:=some (.nb xs.length)}:=by
 intro ops o hop hg
 exact zNX hg hop rfl (hx.f (fun y hy=>hy)) hT
def tnB (x:Option Operand) (i:Int):List (Nat×D):=match x with
 |some y=>tnO y (.sc (.int .i64 i))
 |none=>[]
def OkB (x:Option Operand) (dflt i:Int):Prop:=match x with
 |some y=>OkO y (.sc (.int .i64 i))
 |none=>i=dflt
theorem OkB.f {c:Cert} {x:Option Operand} {dflt:Nat} {i:Int} (h:OkB x dflt i) (hs:∀y∈tnB x i,y∈c.tn):zO4 c x dflt i:=by
 cases x with
 |none=>exact h
 |some y=>exact ⟨_,OkO.f (d:=.sc (.int .i64 i)) h hs⟩
theorem zNA {α:Type} {xs r:List α} {l hi:Int} (T el z:Nat) (enc:α→List D) (x:Operand) (lo ho:Option Operand) (h:zEE xs l hi=some r) (hx:OkO x (.s false z xs.length (xs.map enc)):=by first|trivial|rfl) (hl:OkB lo (0:Nat) l:=by first|trivial|rfl) (hh:OkB ho xs.length hi:=by first|trivial|rfl)
  (hT:(yP Γ.P (underlying T),zFr Γ.P el)=(some (.slice el),some z):=by kernel_rfl):
  OpV Γ (.slice T x lo ho none) {tn:=tnO x (.s false z xs.length (xs.map enc))++(tnB lo l++tnB ho hi),out:=some (.s false z r.length (r.map enc))}:=by
 simp only [Prod.mk.injEq] at hT
 intro ops o hop hg
 exact zOL h hg hop rfl (hx.f (fun y hy=>List.mem_append_left _ hy)) (hl.f (fun y hy=>List.mem_append_right _ (List.mem_append_left _ hy))) (hh.f (fun y hy=>List.mem_append_right _ (List.mem_append_right _ hy))) hT.1 hT.2
end
end Go.Im
set_option linter.unusedVariables false
namespace Go.Im
open Go
section
variable {Γ:Ctx}
def zHS (P:Program) (el:TypeId):Value:=(yP P (zeroValue el)).getD default
def zIv (P:Program) (el:TypeId):Option (Option Value×Nat×Nat):=(P.info? el).map (fun i=>(i.zero,i.size,i.bytes))
theorem zFg {α:Type} {xs ys zs:List α} (T U el e' z bytes t td ts:Nat) (enc:α→List D) (x y:Operand) (h:app bytes xs ys=some zs) (hx:OkO x (.rf td 0 xs.length none):=by trivial) (hy:OkO y (.rf ts 0 ys.length none):=by trivial)
  (hone:∀a,(enc a).all zCl=true:=by intro _; rfl) (hT:(Γ.P.underlying T,Γ.P.underlying U,zIv Γ.P el,(zHS Γ.P el).cells.size,Nat.ble Γ.m t,td==ts)=(some (.slice el),some (.slice e'),some (some (zHS Γ.P el),z,bytes),z,true,false):=by kernel_rfl):
  OpV Γ (.call {callee:=.builtin .append,args:= #[x,y],argTypes:= #[T,U]}) {tn:=tnO x (.rf td 0 xs.length none)++tnO y (.rf ts 0 ys.length none),hn:=[(td,rE z enc xs),(ts,rE z enc ys)],out:=some (.rf t 0 zs.length none),hx:=[td,ts],hw:=[(t,rE z enc zs)],fr:=[t]}:=by
 simp only [Prod.mk.injEq] at hT
 obtain ⟨h1,h2,h3,h4,h5,h6⟩:=hT
 intro ops o hop hg
 exact zNq (enc:=enc) h (Nat.le_of_ble_eq_true h5) (by simpa using h6) hone hg hop rfl (hx.f (fun y hy=>List.mem_append_left _ hy)) (hy.f (fun y hy=>List.mem_append_right _ hy)) (.head _) (.tail _ (.head _)) h1 h2 h3 h4
theorem zP5 {α:Type} {ys zs:List α} (T U el e' z bytes t ts:Nat) (enc:α→List D) (x y:Operand) (h:app bytes [] ys=some zs) (hx:OkO x (.sc (.slice none 0 0)):=by first|trivial|rfl) (hy:OkO y (.rf ts 0 ys.length none):=by trivial)
  (hone:∀a,(enc a).all zCl=true:=by intro _; rfl) (hT:(Γ.P.underlying T,Γ.P.underlying U,zIv Γ.P el,(zHS Γ.P el).cells.size,Nat.ble Γ.m t)=(some (.slice el),some (.slice e'),some (some (zHS Γ.P el),z,bytes),z,true):=by kernel_rfl):
  OpV Γ (.call {callee:=.builtin .append,args:= #[x,y],argTypes:= #[T,U]}) {tn:=tnO x (.sc (.slice none 0 0))++tnO y (.rf ts 0 ys.length none),hn:=[(ts,rE z enc ys)],out:=some (.rf t 0 zs.length none),hx:=[ts],hw:=[(t,rE z enc zs)],fr:=[t]}:=by
 simp only [Prod.mk.injEq] at hT
 obtain ⟨h1,h2,h3,h4,h5⟩:=hT
 intro ops o hop hg
 exact zLq (enc:=enc) h (Nat.le_of_ble_eq_true h5) hone hg hop rfl (hx.f (fun y hy=>List.mem_append_left _ hy)) (hy.f (fun y hy=>List.mem_append_right _ hy)) (.head _) h1 h2 h3 h4
theorem zJC {α:Type} {xs ys zs:List α} (T U el e' z bytes t td:Nat) (enc:α→List D) (x y:Operand) (h:app bytes xs ys=some zs) (hx:OkO x (.rf td 0 xs.length none):=by trivial) (hy:OkO y (.s false z ys.length (ys.map enc)):=by trivial)
  (hone:∀a,(enc a).all zCl=true:=by intro _; rfl) (hT:(Γ.P.underlying T,Γ.P.underlying U,zIv Γ.P el,(zHS Γ.P el).cells.size,Nat.ble Γ.m t)=(some (.slice el),some (.slice e'),some (some (zHS Γ.P el),z,bytes),z,true):=by kernel_rfl):
  OpV Γ (.call {callee:=.builtin .append,args:= #[x,y],argTypes:= #[T,U]}) {tn:=tnO x (.rf td 0 xs.length none)++tnO y (.s false z ys.length (ys.map enc)),hn:=[(td,rE z enc xs)],out:=some (.rf t 0 zs.length none),hx:=[td],hw:=[(t,rE z enc zs)],fr:=[t]}:=by
 simp only [Prod.mk.injEq] at hT
 obtain ⟨h1,h2,h3,h4,h5⟩:=hT
 intro ops o hop hg
 exact zLd (enc:=enc) h (Nat.le_of_ble_eq_true h5) hone hg hop rfl (hx.f (fun y hy=>List.mem_append_left _ hy)) (hy.f (fun y hy=>List.mem_append_right _ hy)) (.head _) h1 h2 h3 h4
theorem zPQ {α:Type} {zs:List α} {n:Int} (T el z bytes t:Nat) (enc:α→List D) (a:α) (x:Operand) (h:mk bytes n a=some zs) (he:Emb [] ((zHS Γ.P el).cells.toList.map D.sc) (enc a) []) (hx:OkO x (.sc (.int .i64 n)):=by first|trivial|rfl)
  (hT:(Γ.P.underlying T,zIv Γ.P el,(zHS Γ.P el).cells.size,(enc a).length,Nat.ble Γ.m t)=(some (.slice el),some (some (zHS Γ.P el),z,bytes),z,z,true):=by kernel_rfl):
  OpV Γ (.makeSlice T x x) {tn:=tnO x (.sc (.int .i64 n)),out:=some (.rf t 0 zs.length none),hw:=[(t,rE z enc zs)],fr:=[t]}:=by
 simp only [Prod.mk.injEq] at hT
 obtain ⟨h1,h2,h3,h4,h5⟩:=hT
 intro ops o hop hg
 exact zMH (enc:=enc) h (Nat.le_of_ble_eq_true h5) hg hop rfl (hx.f (fun y hy=>hy)) (hx.f (fun y hy=>hy)) h1 h2 h3 he h4
theorem zOT {α:Type} {xs:List α} {a b:α} {ix:Int} (T z t j:Nat) (enc:α→List D) (d:D) (x y:Operand) (h:idx xs ix=some a) (hb:enc b=(enc a).take j++cellsD d++(enc a).drop (j+(cellsD d).length))
  (hx:OkO x (.pt t ix.toNat j):=by trivial) (hy:OkO y d:=by first|trivial|rfl)
  (hT:((cellsD d).all D.cell,(cellsD d).all D.nest,zFr Γ.P T,Nat.ble (j+(cellsD d).length) z)=(true,true,some (cellsD d).length,true):=by kernel_rfl):
  zPG Γ (.store T x y) {tn:=tnO x (.pt t ix.toNat j)++tnO y d,hn:=[(t,rE z enc xs)],hx:=[t],hw:=[(t,rE z enc (xs.set ix.toNat b))]}:=by
 simp only [Prod.mk.injEq] at hT
 obtain ⟨h1,h2,h3,h4⟩:=hT
 intro ops o hop hg hds
 exact zJV (enc:=enc) (es':=cellsD d) (hm:=[]) (ts:=[]) h hg hop hds rfl (hx.f (fun y hy=>List.mem_append_left _ hy)) (hy.f (fun y hy=>List.mem_append_right _ hy)) hb h1 h3 (Nat.le_of_ble_eq_true h4) (.head _) (Emb.zGV [] _ h2) (fun q hq=>by simp at hq)
def zMN (x:Operand) (d:D):D:=match x with
 | .tmp _=>d
 | .const v=>.sc v
 | .func f=>.fn f []
 | .global _=>.un
theorem OkO.of {x:Operand} {d:D} (hg:∀g,x≠ .global g) (h:zMN x d=d):OkO x d:=by
 cases x with
 |tmp t=>trivial
 |const v=>exact h.symm
 |func f=>exact h.symm
 |global g=>exact absurd rfl (hg g)
def zMO:Operand→Bool
 | .global _=>false
 |_=>true
def tnL:List Operand→List D→List (Nat×D)
 |x::xs,d::ds=>tnO x d++tnL xs ds
 |_,_=>[]
theorem zJ3 {c:Cert}:∀{xs:List Operand} {ds:List D},ds.length=xs.length→xs.all zMO=true→List.zipWith zMN xs ds=ds→(∀y∈tnL xs ds,y∈c.tn)→∀(k:Nat) (d:D),ds[k]? =some d→∃x,xs[k]? =some x∧OpF c x d
 |[],[],_,_,_,_,k,d,h=>by simp at h
 |x::xs,d0::ds,hl,hg,hz,hs,0,d,h=>by
  simp at h
  subst h
  simp only [List.zipWith_cons_cons,List.cons.injEq] at hz
  simp only [List.all_cons,Bool.and_eq_true] at hg
  refine ⟨x,rfl,(OkO.of (fun g e=>by subst e; simp [zMO] at hg) hz.1).f (fun y hy=>hs y (by simp [tnL,hy]))⟩
 |x::xs,d0::ds,hl,hg,hz,hs,k+1,d,h=>by
  simp only [List.zipWith_cons_cons,List.cons.injEq] at hz
  simp only [List.all_cons,Bool.and_eq_true] at hg
  obtain ⟨x',h1,h2⟩:=zJ3 (c:=c) (by simpa using hl) hg.2 hz.2 (fun y hy=>hs y (by simp [tnL,hy])) k d (by simpa using h)
  exact ⟨x',by simpa using h1,h2⟩
 |[],_::_,hl,_,_,_,_,_,_=>by simp at hl
 |_::_,[],hl,_,_,_,_,_,_=>by simp at hl
def zP2 (P:Program) (el n z:Nat):Array Value:=if n*z=0 then #[] else (zHS P el).cells
def zPv (P:Program) (el n z:Nat):List Value:=((Array.range (n*z)).map ((zP2 P el n z)[· %(zP2 P el n z).size]!)).toList
theorem zMU {α:Type} {ds:List D} {ts:List Nat} (T el z t:Nat) (enc:α→List D) (lst:List α) (js:List Nat) (xs:List Operand) (dl:List D) (hn:List (Nat×Ent)) (he:Emb hn ds (lst.map enc).flatten ts)
  (hT:(yP Γ.P (underlying T),zFr Γ.P el,yP Γ.P (zeroValue el),Nat.ble (lst.length*z) 1000,(zPv Γ.P el lst.length z).all Value.oneCell,Nat.ble Γ.m t)=(some (.slice el),some z,some (zHS Γ.P el),true,true,true):=by kernel_rfl)
  (hD:(dl.length,js.length,xs.all zMO,List.zipWith zMN xs dl,dl.all (fun d=>(cellsD d).all D.cell),zHW (fun i=>some (i*z,z)) ((zPv Γ.P el lst.length z).map D.sc) (js.zip dl),(lst.map enc).all (fun e=>e.length==z))=(xs.length,xs.length,true,dl,true,some ds,true):=by kernel_rfl):
  OpV Γ (.buildSlice T lst.length (js.zip xs).toArray) {tn:=tnL xs dl,hn:=hn,out:=some (.rf t 0 lst.length none),hx:=ts,hw:=[(t,rE z enc lst)],fr:=[t]}:=by
 simp only [Prod.mk.injEq] at hT hD
 obtain ⟨h1,h2,h3,h4,h5,h6⟩:=hT
 obtain ⟨g1,g2,g3,g4,g5,g6,g7⟩:=hD
 intro ops o hop hg
 refine zMX (n:=lst.length) (zv:=zHS Γ.P el) (zc:=zP2 Γ.P el lst.length z) (dl:=js.zip dl) (ds:=ds) (xs:=lst.map enc) (ts:=ts) hg hop rfl (Nat.le_of_ble_eq_true h6) h1 h2 (Nat.le_of_ble_eq_true h4) h3 rfl h5 (by simp [g1,g2]) ?_ g6 (by simp) ?_ he
 ·intro k i d hk
  rw [List.getElem?_zip_eq_some] at hk
  obtain ⟨x,hx1,hx2⟩:=zJ3 (c:= {tn:=tnL xs dl,hn:=hn,out:=some (.rf t 0 lst.length none),hx:=ts,hw:=[(t,rE z enc lst)],fr:=[t]}) g1 g3 g4 (fun y hy=>hy) k d hk.2
  refine ⟨x,?_,hx2,List.all_eq_true.1 g5 d (List.mem_of_getElem? hk.2)⟩
  simp only [List.getElem?_toArray]
  exact List.getElem?_zip_eq_some.2 ⟨hk.1,hx1⟩
 ·intro e he'
  simpa using List.all_eq_true.1 g7 e he'
theorem zBw {α:Type} (T el z t:Nat) (enc:α→List D) (lst:List α) (js:List Nat) (xs:List Operand) (dl:List D)
  (hT:(yP Γ.P (underlying T),zFr Γ.P el,yP Γ.P (zeroValue el),Nat.ble (lst.length*z) 1000,(zPv Γ.P el lst.length z).all Value.oneCell,Nat.ble Γ.m t)=(some (.slice el),some z,some (zHS Γ.P el),true,true,true):=by kernel_rfl)
  (hD:(dl.length,js.length,xs.all zMO,List.zipWith zMN xs dl,dl.all (fun d=>(cellsD d).all D.cell),zHW (fun i=>some (i*z,z)) ((zPv Γ.P el lst.length z).map D.sc) (js.zip dl),(lst.map enc).all (fun e=>e.length==z),(lst.map enc).flatten.all D.nest)=(xs.length,xs.length,true,dl,true,some (lst.map enc).flatten,true,true):=by kernel_rfl):
  OpV Γ (.buildSlice T lst.length (js.zip xs).toArray) {tn:=tnL xs dl,hn:=[],out:=some (.rf t 0 lst.length none),hx:=[],hw:=[(t,rE z enc lst)],fr:=[t]}:=by
 simp only [Prod.mk.injEq] at hD
 obtain ⟨g1,g2,g3,g4,g5,g6,g7,g8⟩:=hD
 refine zMU T el z t enc lst js xs dl [] (Emb.zGV [] _ g8) hT ?_
 simp only [Prod.mk.injEq]
 exact ⟨g1,g2,g3,g4,g5,g6,g7⟩
theorem AmL.zHf {hn:List (Nat×Ent)} {ids:List Nat} {bor:Bool}:∀{ds:List D},D.men.zEa ds=[]→AmL hn ids bor ds ds
 |[],_=>.nil
 |d::ds,h=>by
  simp only [D.men.zEa,List.append_eq_nil_iff] at h
  exact .cons (.same h.1) (AmL.zHf h.2)
theorem zDY {hn:List (Nat×Ent)} {ids:List Nat} {t z:Nat} {α:Type} {enc enc':α→List D} {xs:List α} (hm:(t,rE z enc xs)∈hn) (hr:∀a,D.ro.roC (enc a)=enc' a) (ht:ids.contains t=false):Am hn ids true (.rf t 0 xs.length none) (.s false z xs.length (xs.map enc')):=
 .bor hm (by simpa using ht) (by simp) (zEw hr xs rfl rfl)
def D.nm1 (d:D):Bool:=d.free&&d.men.isEmpty
def D.nm2:D→Bool
 | .ag cs=>cs.all D.nm1
 |d=>d.nm1
def D.nm:D→Bool
 | .tu vs=>vs.all D.nm2
 |d=>d.nm2
theorem zKM {d:D} (h:d.nm1=true):Nm d d []:=by
 simp only [D.nm1,Bool.and_eq_true,List.isEmpty_iff] at h
 exact .same h.2 h.1
theorem zIP {p:D→Bool} (hp:∀d,p d=true→Nm d d []):∀{cs:List D},cs.all p=true→NmL cs cs []
 |[],_=>.nil
 |d::cs,h=>by
  simp only [List.all_cons,Bool.and_eq_true] at h
  exact .cons (e1:=[]) (hp d h.1) (zIP hp h.2)
theorem zKS {d:D} (h:d.nm2=true):Nm d d []:=by
 cases d with
 |ag cs=>exact .ag (zIP (fun _=>zKM) h)
 |_=>exact zKM h
theorem zKg {d:D} (h:d.nm=true):Nm d d []:=by
 cases d with
 |tu cs=>exact .tu (zIP (fun _=>zKS) h)
 |_=>exact zKS h
theorem yV {v:Value}:(D.sc v).flat :=trivial
theorem zC7 {z n:Nat} {xs:List (List D)} (h:zKb xs):(D.s true z n xs).flat :=⟨rfl,h⟩
theorem zFn {cs:List D} (h:zEy cs):(D.ag cs).flat :=h
theorem zNZ {cs:List D} (h:zEy cs):(D.tu cs).flat :=h
theorem zDq:zEy []:=trivial
theorem fhN:zGe []:=trivial
theorem flatK {d:D} {ds:List D} (h1:d.flat) (h2:zEy ds):zEy (d::ds):=⟨h1,h2⟩
theorem zEp {α:Type} {enc:α→List D} (h:∀a,zEy (enc a)):∀(xs:List α),zKb (xs.map enc)
 |[]=>trivial
 |x::xs=>⟨h x,zEp h xs⟩
theorem vZ {f:FuncId} {as:List D} {R:Type} {e:Option R} {g:R→D×List Ent} {r:R} (xs:List Operand) (tys:List Nat) (hok:Ok Γ.P f as [] (e.map g)) (h:e=some r) (hcf:∀vs,yP Γ.P (callFunc f vs)=some (.enter f vs):=by intro _; kernel_rfl)
  (hC:(as.length,xs.all zMO,List.zipWith zMN xs as,D.men.zEa as,(g r).1.nm,(g r).2)=(xs.length,true,as,[],true,[]):=by kernel_rfl):
  OpV Γ (.call {callee:=.value (.func f),args:=xs.toArray,argTypes:=tys.toArray}) {tn:=tnL xs as,out:=some (g r).1}:=by
 simp only [Prod.mk.injEq] at hC
 obtain ⟨h1,h2,h3,h4,h5,h7⟩:=hC
 intro ops o hop hg
 exact zNK («as»:=as) (bor:=false) (ids:=[]) (hin:=[]) (hout:=[]) (news:=[]) hg hop hcf (by simpa using h1) (fun k d hk=>by
  obtain ⟨x,q1,q2⟩:=zJ3 (c:= {tn:=tnL xs as,out:=some (g r).1}) h1 h2 h3 (fun y hy=>hy) k d hk
  exact ⟨x,by simpa using q1,q2⟩) (AmL.zHf h4) (by simp) rfl (by simp) (by simp) hok (by rw [h,Option.map_some,←h7]) (by simp) (zKg h5) (by simp) rfl (by simp) (by simp)
theorem zPJ {f:FuncId} {as caps:List D} {R:Type} {e:Option R} {g:R→D×List Ent} {r:R} (t0:Nat) (xs:List Operand) (tys:List Nat) (hok:Ok Γ.P f (as++caps) [] (e.map g)) (h:e=some r) (hcf:∀vs,yP Γ.P (callFunc f vs)=some (.enter f vs):=by intro _; kernel_rfl)
  (hC:(as.length,xs.all zMO,List.zipWith zMN xs as,D.men.zEa (as++caps),(g r).1.nm,(g r).2)=(xs.length,true,as,[],true,[]):=by kernel_rfl):
  OpV Γ (.call {callee:=.value (.tmp t0),args:=xs.toArray,argTypes:=tys.toArray}) {tn:=(t0,.fn f caps)::tnL xs as,out:=some (g r).1}:=by
 simp only [Prod.mk.injEq] at hC
 obtain ⟨h1,h2,h3,h4,h5,h7⟩:=hC
 intro ops o hop hg
 exact zMJ («as»:=as) (caps:=caps) (bor:=false) (ids:=[]) (hin:=[]) (hout:=[]) (news:=[]) hg hop (show (t0,D.fn f caps)∈(t0,D.fn f caps)::tnL xs as from .head _) hcf (by simpa using h1) (fun k d hk=>by
  obtain ⟨x,q1,q2⟩:=zJ3 (c:= {tn:=(t0,.fn f caps)::tnL xs as,out:=some (g r).1}) h1 h2 h3 (fun y hy=>List.mem_cons_of_mem _ hy) k d hk
  exact ⟨x,by simpa using q1,q2⟩) (AmL.zHf h4) (by simp) rfl (by simp) (by simp) hok (by rw [h,Option.map_some,←h7]) (by simp) (zKg h5) (by simp) rfl (by simp) (by simp)
theorem vJ {f:FuncId} {as ds:List D} {R:Type} {e:Option R} {g:R→D×List Ent} {r:R} {d:D} {hin:List Ent} {news:List (Nat×Ent)} (xs:List Operand) (tys:List Nat) (bor:Bool) (hn:List (Nat×Ent)) (ids:List Nat) (ham:AmL hn ids bor as ds)
  (hok:Ok Γ.P f ds hin (e.map g)) (h:e=some r) (hnm:Nm (g r).1 d news) (hbor:bor=true→zGe (g r).2∧(g r).1.flat :=by simp)
  (hcf:∀vs,yP Γ.P (callFunc f vs)=some (.enter f vs):=by intro _; kernel_rfl)
  (hC:(as.length,xs.all zMO,List.zipWith zMN xs as,zEv ids,hin.length,Nat.ble (g r).2.length hin.length,(ids.zip hin).map (fun x=>lk hn x.1),(hin++(g r).2).flatMap Ent.men,zEv (news.map (·.1)),news.all (fun x=>Nat.ble Γ.m x.1))=
   (xs.length,true,as,true,ids.length,true,(ids.zip hin).map (fun x=>some x.2),[],true,true):=by kernel_rfl):
  OpV Γ (.call {callee:=.value (.func f),args:=xs.toArray,argTypes:=tys.toArray}) {tn:=tnL xs as,hn:=hn,out:=some d,hx:=ids,hw:=ids.zip (g r).2++news,fr:=news.map (·.1)}:=by
 simp only [Prod.mk.injEq] at hC
 obtain ⟨h1,h2,h3,h4,h5,h6,h7,h8,h9,h10⟩:=hC
 intro ops o hop hg
 exact zNK («as»:=as) (bor:=bor) (ids:=ids) (hin:=hin) (hout:=(g r).2) (news:=news) hg hop hcf (by simpa using h1) (fun k d' hk=>by
  obtain ⟨x,q1,q2⟩:=zJ3 (c:= {tn:=tnL xs as,hn:=hn,out:=some d,hx:=ids,hw:=ids.zip (g r).2++news,fr:=news.map (·.1)}) h1 h2 h3 (fun y hy=>hy) k d' hk
  exact ⟨x,by simpa using q1,q2⟩) ham (zBQ h4) h5 (zDX h7) (zND h8) hok (by rw [h,Option.map_some]) (Nat.le_of_ble_eq_true h6) hnm (zBQ h9) rfl (zNF h10) hbor
theorem zEr {f:FuncId} {ds:List D} {R:Type} {e:Option R} {g:R→D×List Ent} {r:R} {d:D} {hin:List Ent} {news:List (Nat×Ent)} (t0:Nat) (xs:List Operand) (tys:List Nat) (bor:Bool) (hn:List (Nat×Ent)) (ids:List Nat) (as:List D) (caps:List D) (ham:AmL hn ids bor (as++caps) ds)
  (hok:Ok Γ.P f ds hin (e.map g)) (h:e=some r) (hnm:Nm (g r).1 d news) (hbor:bor=true→zGe (g r).2∧(g r).1.flat :=by simp)
  (hcf:∀vs,yP Γ.P (callFunc f vs)=some (.enter f vs):=by intro _; kernel_rfl)
  (hC:(as.length,xs.all zMO,List.zipWith zMN xs as,zEv ids,hin.length,Nat.ble (g r).2.length hin.length,(ids.zip hin).map (fun x=>lk hn x.1),(hin++(g r).2).flatMap Ent.men,zEv (news.map (·.1)),news.all (fun x=>Nat.ble Γ.m x.1))=
   (xs.length,true,as,true,ids.length,true,(ids.zip hin).map (fun x=>some x.2),[],true,true):=by kernel_rfl):
  OpV Γ (.call {callee:=.value (.tmp t0),args:=xs.toArray,argTypes:=tys.toArray}) {tn:=(t0,.fn f caps)::tnL xs as,hn:=hn,out:=some d,hx:=ids,hw:=ids.zip (g r).2++news,fr:=news.map (·.1)}:=by
 simp only [Prod.mk.injEq] at hC
 obtain ⟨h1,h2,h3,h4,h5,h6,h7,h8,h9,h10⟩:=hC
 intro ops o hop hg
 exact zMJ («as»:=as) (caps:=caps) (bor:=bor) (ids:=ids) (hin:=hin) (hout:=(g r).2) (news:=news) hg hop (show (t0,D.fn f caps)∈(t0,D.fn f caps)::tnL xs as from .head _) hcf (by simpa using h1) (fun k d' hk=>by
  obtain ⟨x,q1,q2⟩:=zJ3 (c:= {tn:=(t0,.fn f caps)::tnL xs as,hn:=hn,out:=some d,hx:=ids,hw:=ids.zip (g r).2++news,fr:=news.map (·.1)}) h1 h2 h3 (fun y hy=>List.mem_cons_of_mem _ hy) k d' hk
  exact ⟨x,by simpa using q1,q2⟩) ham (zBQ h4) h5 (zDX h7) (zND h8) hok (by rw [h,Option.map_some]) (Nat.le_of_ble_eq_true h6) hnm (zBQ h9) rfl (zNF h10) hbor
theorem zE6 {op:Op} {tn:List (Nat×D)} {hn:List (Nat×Ent)} {d:D} {hx:List Nat} {hw:List (Nat×Ent)} {fr:List Nat} (A B:List (Nat×Ent)) (hv:OpV Γ op {tn:=tn,hn:=hn,out:=some d,hx:=hx,hw:=hw,fr:=fr})
  (hC:(A.map (fun x=>lk hn x.1),hx,hw,fr,zEv (B.map (·.1)))=(A.map (fun x=>some x.2),A.map (·.1),A++B,B.map (·.1),true):=by kernel_rfl):OpV Γ op {tn:=tn,hn:=hn,out:=some d,hx:=[],hw:=B,fr:=fr}:=by
 simp only [Prod.mk.injEq] at hC
 obtain ⟨h1,h2,h3,h4,h5⟩:=hC
 intro ops o hop hg
 exact zNv A B (zDX h1) h2 h3 h4 (zBQ h5) (hv ops o hop hg)
end
end Go.Im
set_option linter.unusedVariables false
namespace Go.Im
open Go
structure Wd where
 w0:World
 N0:Nat→Prop
 O0:List Nat
 β0:Nat→Loc
def Wd.g (q:Wd) (P:Program) (f m nt:Nat):Ctx:=⟨P,f,q.w0,q.N0,q.O0,m,q.β0,nt⟩
theorem zJ {P:Program} {f:FuncId} {args:List D} {hin:List Ent} {T:Type} {e:Option T} {g:T→D×List Ent} (fc:Code) (fn:Func) (m nt:Nat)
  (h:∀(q:Wd),J (q.g P f m nt) fc [.c 1] ⟨args.zipIdx.map (fun x=>(x.2,x.1)),zFp hin,D.men.zEa args++zFw (zFp hin)⟩ e (fun r=>some (g r)))
  (hf:(P.funcs[f]?,fn.body,fn.ntmps,Nat.ble args.length nt,hin.length)=(some fn,some fc,nt,true,m):=by kernel_rfl):Ok P f args hin (e.map g):=by
 simp only [Prod.mk.injEq] at hf
 obtain ⟨h1,h2,h3,h4,h5⟩:=hf
 subst h5
 exact zOI h1 h2 h3 (Nat.le_of_ble_eq_true h4) (fun w0 N0 O0 β0=>h ⟨w0,N0,O0,β0⟩)
section
variable {Γ:Ctx} {fc:Code} {k:List II} {σ:St} {T:Type} {K:T→Option (D×List Ent)}
theorem zG {b:Bool} {x y:Option T} (t:Nat) (h1:b=true→J Γ fc k ⟨(t,.sc (.bool true))::σ.tm,σ.hp,σ.us⟩ x K) (h2:b=false→J Γ fc k ⟨(t,.sc (.bool false))::σ.tm,σ.hp,σ.us⟩ y K) (hl:lk σ.tm t=some (.sc (.bool b)):=by kernel_rfl):
 J Γ fc k σ (if b then x else y) K:=zQk t hl h1 h2
variable {p:Nat}
theorem vV {rest:List (Nat×Cert)} {b b':Bool} (i:Nat) (tm:List (Nat×D)) (hp:List (Nat×Ent)) (hb:b=b') (hr:zHV Γ fc p rest)
  (h:(opAt fc p i).map (fun o=>(o.guard,ac0 Γ.P none o ⟨tm,hp,[]⟩))=some (none,some {tn:=tm,hn:=hp,out:=some (.sc (.bool b))}):=by kernel_rfl):
  zHV Γ fc p ((i,{tn:=tm,hn:=hp,out:=some (.sc (.bool b'))})::rest):=
 ⟨zQz (id:=none) tm hp _ h rfl (by rw [hb]),hr⟩
theorem zGQ {rest:List (Nat×Cert)} {b b':Bool} (i g t:Nat) (bg:Bool) (tm:List (Nat×D)) (hp:List (Nat×Ent)) (hb:b=b') (hr:zHV Γ fc p rest)
  (h:((opAt fc p i).map (fun o=>(o.guard,ac0 Γ.P none {o with guard:=none} ⟨tm,hp,[]⟩)),zJi fc p g)=(some (some (g,bg),some {tn:=tm,hn:=hp,out:=some (.sc (.bool b))}),some t):=by kernel_rfl):
  zHV Γ fc p ((i,{tn:=(t,.sc (.bool bg))::tm,hn:=hp,out:=some (.sc (.bool b'))})::rest):=by
 simp only [Prod.mk.injEq] at h
 exact ⟨zPH (id:=none) tm hp _ h.1 h.2 rfl (by rw [hb]),hr⟩
end
end Go.Im
set_option linter.unusedVariables false
namespace Go.Im
open Go
theorem zJ0 {β:Nat→Loc} {N:Nat→Prop} {w:World}:∀{vs us:List Value} {bs:List Nat},zH β N w true (vs.map D.sc) us bs→us=vs∧bs=[]
 |[],us,bs,h=>by simpa [zH] using h
 |v::vs,us,bs,h=>by
  simp only [List.map_cons,zH] at h
  obtain ⟨u,us',b1,b2,rfl,rfl,h3,h4⟩:=h
  simp only [Rep] at h3
  obtain ⟨rfl,rfl⟩:=h3
  obtain ⟨rfl,rfl⟩:=zJ0 h4
  exact ⟨rfl,rfl⟩
def zPM (a b:ByteArray):Int:=Lib.compareBytes a.data.toList b.data.toList
end Go.Im
set_option linter.unusedVariables false
namespace Go.Im
open Go
theorem zU.cut {β:Nat→Loc} {N:Nat→Prop} {w:World} {z:Nat}:∀{xs:List (List D)} {ws:List Value} {bs:List Nat} (k:Nat),zU β N w xs ws bs→(∀x∈xs,x.length=z)→
  ∃b1 b2,bs=b1++b2∧zU β N w (xs.take k) (ws.take (k*z)) b1∧zU β N w (xs.drop k) (ws.drop (k*z)) b2
 |xs,ws,bs,0,h,hz=>⟨[],bs,rfl,by simp [zU],by simpa using h⟩
 |[],ws,bs,k+1,h,hz=>by
  simp only [zU] at h
  rw [h.1,h.2]
  exact ⟨[],[],rfl,by simp [zU],by simp [zU]⟩
 |x::xs,ws,bs,k+1,h,hz=>by
  simp only [zU] at h
  obtain ⟨w1,w2,b1,b2,rfl,rfl,h3,h4⟩:=h
  have hl:=h3.length
  rw [hz x (by simp)] at hl
  obtain ⟨c1,c2,rfl,h5,h6⟩:=zU.cut k h4 (fun y hy=>hz y (by simp [hy]))
  have e1:(w1++w2).drop ((k+1)*z)=w2.drop (k*z):=by
   rw [Nat.add_mul,Nat.one_mul,List.drop_append,List.drop_of_length_le (by omega),List.nil_append]; congr 1; omega
  have e2:(w1++w2).take ((k+1)*z)=w1++w2.take (k*z):=by
   rw [Nat.add_mul,Nat.one_mul,List.take_append,List.take_of_length_le (by omega)]; congr 2; omega
  rw [e1,e2]
  refine ⟨b1++c1,c2,by simp,?_,by simpa using h6⟩
  simp only [List.take_succ_cons,zU]
  exact ⟨w1,_,b1,c1,rfl,rfl,h3,h5⟩
section
variable {Γ:Ctx} {ops:Array Oper} {o:Oper}
theorem zPV {c:Cert} {x:Operand} {T el:TypeId} {lo hi:Option Operand} {z n l h t t':Nat} {xs:List (List D)} (hg:o.guard=none) (hop:o.op= .slice T x lo hi none)
  (hc:c= {tn:=c.tn,hn:=c.hn,out:=some (.rf t' 0 (h-l) none),hx:=[t],hw:=[(t',.row z ((xs.drop l).take (h-l)))],fr:=[t']}) (hm:Γ.m≤t') (hx:OpF c x (.rf t 0 n none)) (hT:yP Γ.P (underlying T)=some (.slice el)) (hz:zFr Γ.P el=some z)
  (hl:zJM c lo 0 l) (hh:zJM c hi n h) (h1:l≤h) (h2:h≤n) (hnn:n=xs.length) (hh':(t,.row z xs)∈c.hn):Valid Γ ops o c:=by
 intro σ a w Q hdst hn ⟨h0,β,bs,hr⟩
 have hwt:Region.wanted o (yielded ops a.tmps)=true:=by simp [Region.wanted,hg]
 rw [if_pos hwt]
 have hfr:t'∉σ.us:=hn.2.2 t' (by rw [hc]; simp)
 have h3:=OpF.rep hx hn hr
 obtain ⟨b1,b2,hp,⟨hLz,hzz,hrow⟩,hrest⟩:=uO.take hr.hp hr.keys (hn.2.1 _ hh')
 have hne:∀k,k∈σ.us→k≠t':=fun k hk e=>hfr (e▸hk)
 have hkm:∀k,k<Γ.m→k≠t':=fun k hk e=>by omega
 simp only [Rep] at h3
 obtain ⟨_,_,h3⟩:=h3
 have hfilt:σ.hp.filter (fun x=> !c.hx.contains x.1)=σ.hp.filter (fun x=>x.1 !=t):=by
  rw [hc]; congr 1; funext x; by_cases hx:x.1=t<;>simp [hx]
 have hrun:∀ad len cp,a.eval x= .slice ad len cp→n=len→n≤cp→(execOp a.eval o).run Γ.P w= .ok (.value (.slice (if cp=l then ad else ad.map (·.add (l*z))) (h-l) (cp-l))) w:=by
  intro ad len cp he hlen hcp
  subst hlen
  refine zFb (s:=Instr.sliceAt T (a.eval x) (lo.map a.eval) (hi.map a.eval) none) (by simp [execOp,hop]) ?_
  rw [he]
  exact zDP hn hr hT hz hl hh h1 (by omega)
 rcases hrow with ⟨hnil,hxs,hb1⟩|⟨hnil,ws,hO,hE⟩
 ·subst hxs
  subst hb1
  simp at hnn
  have hl0:l=0:=by omega
  have hh0:h=0:=by omega
  subst hl0 hh0 hnn
  have hv:a.eval x= .slice none 0 0:=by
   rcases h3 with ⟨_,_,_,h3⟩|⟨h3,_⟩
   ·exact h3
   ·rw [hnil] at h3; cases h3
  have hown:(β t).own =[]:=by simp [Loc.own,hnil]
  rw [hown] at hp
  unfold Oper.wp
  rw [hrun _ _ _ hv rfl (Nat.le_refl _),Oper.upon_value]
  refine Rel.step (β1:=zFO β t' ⟨true,0,0,z,0⟩) (bk:=b2) (br:=[]) (bn:=[]) h0 hr hdst (by rw [hc]; simp) (by rw [hc]; simpa using .inr hfr) (by simpa using hp) (by rw [hfilt]; exact hrest) (Nat.le_refl _) (fun _ _ _=>rfl)
   (fun k hk=>by simp [zFO,hne k hk]) (fun k hk=>by simp [zFO,hkm k hk]) (by simp) (by simp) ?_ ?_ ⟨rfl,rfl,rfl,Nat.le_refl _⟩
  ·rw [hc]
   refine ⟨[],[],?_,?_,rfl⟩
   ·simp [zFO,Loc.own]
   ·simp [zFO,zCn]
  ·intro d hd
   rw [hc] at hd
   cases hd
   simp [Rep,zFO]
 ·have hv:∃c',a.eval x= .slice (some ⟨(β t).b,(β t).o,none⟩) n c'∧n≤c'∧c'*z≤(β t).r :=by
   rcases h3 with ⟨h3,_⟩|⟨_,c',h3,h4,h5,_⟩
   ·rw [hnil] at h3; cases h3
   ·exact ⟨c',by simpa using h3,h4,by rw [←hLz]; simpa using h5⟩
  obtain ⟨cp,hv,hcp,hroom⟩:=hv
  have hown:(β t).own =[(β t).b]:=by simp [Loc.own,hnil]
  rw [hown] at hp
  have hws:=hE.length hzz
  obtain ⟨d1,d2,e1,hs1,hs2⟩:=hE.cut l hzz
  obtain ⟨d3,d4,e2,hs3,hs4⟩:=hs2.cut (h-l) (fun y hy=>hzz y (List.mem_of_mem_drop hy))
  have hp2:bs.Perm (((β t).b ::b1)++b2):=by simpa using hp
  have hnd:=hp2.nodup_iff.1 hr.nodup
  have hsub:∀b∈d3,b∈b1:=fun b hb=>by rw [e1,e2]; simp [hb]
  have hndn:((β t).b ::d3).Nodup :=by
   have q:=(List.nodup_append.1 hnd).1
   rw [e1,e2] at q
   refine List.Nodup.sublist ?_ q
   refine List.Sublist.cons_cons _ ?_
   exact (List.sublist_append_left d3 d4).trans (List.sublist_append_right _ _)
  unfold Oper.wp
  rw [hrun _ _ _ hv rfl hcp,Oper.upon_value]
  have hNS:∀b,NS Γ w bs b→NS Γ w ((β t).b ::d3++b2) b∧w.heap[b]? =w.heap[b]? :=by
   rintro b ⟨u1,u2,u3⟩
   refine ⟨⟨u1,u2,fun hb=>u3 (hp2.mem_iff.2 ?_)⟩,rfl⟩
   simp only [List.cons_append,List.mem_cons,List.mem_append] at hb ⊢
   rcases hb with rfl|hb|hb
   ·exact .inl rfl
   ·exact .inr (.inl (hsub b hb))
   ·exact .inr (.inr hb)
  refine Rel.step (β1:=zFO β t' ⟨false,(β t).b,if cp=l then (β t).o else (β t).o +l*z,z,(cp-l)*z⟩) (bk:=b2) (br:=(β t).b ::b1) (bn:=(β t).b ::d3) h0 hr hdst (by rw [hc]; simp) (by rw [hc]; simpa using .inr hfr) hp2 (by rw [hfilt]; exact hrest) (Nat.le_refl _) (fun _ _ _=>rfl)
   (fun k hk=>by simp [zFO,hne k hk]) (fun k hk=>by simp [zFO,hkm k hk]) hndn ?_ ?_ ?_ ⟨rfl,rfl,rfl,Nat.le_refl _⟩
  ·intro b hb
   have:b∈(β t).b ::b1:=by
    rcases List.mem_cons.1 hb with rfl|hb
    ·simp
    ·exact List.mem_cons_of_mem _ (hsub b hb)
   exact ⟨.inl this,(hr.own b (hp2.mem_iff.2 (List.mem_append_left _ this))).1⟩
  ·rw [hc]
   refine ⟨d3,[],by simp [zFO,Loc.own],⟨by simp [zFO],fun y hy=>hzz y (List.mem_of_mem_drop (List.mem_of_mem_take hy)),.inr ⟨by simp [zFO],(ws.drop (l*z)).take ((h-l)*z),?_,?_⟩⟩,rfl⟩
   ·simp only [wW]
    obtain ⟨arr,e,lo',hi',u1,u2,u3,u4⟩:=hO
    have hmul:(cp-l)*z=cp*z-l*z:=Nat.sub_mul _ _ _
    have hlc:l*z≤cp*z:=Nat.mul_le_mul_right _ (by omega)
    refine ⟨arr,e,lo',hi',u1,u2,?_,?_⟩
    ·split
     ·rename_i hcl; rw [hcl]; simp; omega
     ·omega
    ·intro k hk
     simp only [List.length_take,List.length_drop] at hk
     have hkl:k<ws.length-l*z:=by omega
     have hcl:cp≠l:=by
      intro e; subst e
      have:ws.length=cp*z:=by rw [hws,←hnn]; congr 1; omega
      omega
     rw [if_neg hcl]
     have:=u4 (l*z+k) (by omega)
     rw [Nat.add_assoc,this]
     simp
   ·refine zU.frame (β':=zFO β t' ⟨false,(β t).b,if cp=l then (β t).o else (β t).o +l*z,z,(cp-l)*z⟩) hNS _ _ _ (fun _ _=>rfl) hs3
  ·intro d hd
   rw [hc] at hd
   cases hd
   simp only [Rep,wW]
   refine ⟨trivial,trivial,.inr ⟨trivial,cp-l,?_,by omega,by simp,by simp⟩⟩
   simp only [Nat.zero_mul,Nat.add_zero]
   split
   ·rfl
   ·simp [zDl]
end
end Go.Im
set_option linter.unusedVariables false
namespace Go.Im
open Go
section
variable {Γ:Ctx} {ops:Array Oper} {o:Oper}
theorem zKk {c:Cert} {x:Operand} {T el:TypeId} {lo hi:Option Operand} {z n l h t:Nat} {xs:List (List D)} (hg:o.guard=none) (hop:o.op= .slice T x lo hi none)
  (hc:c= {tn:=c.tn,hn:=c.hn,out:=some (.sub t l (h-l))}) (hx:OpF c x (.rf t 0 n none)) (hT:yP Γ.P (underlying T)=some (.slice el)) (hz:zFr Γ.P el=some z)
  (hl:zJM c lo 0 l) (hh:zJM c hi n h) (h1:l≤h) (h2:h≤n) (hh':(t,.row z xs)∈c.hn):Valid Γ ops o c:=by
 refine jL (d:=.sub t l (h-l)) (f:=fun ρ=>Instr.sliceAt T (ρ x) (lo.map ρ) (hi.map ρ) none) hg (fun ρ=>by simp [execOp,hop]) (by rw [hc]) fun β bs σ a w hn hr=>?_
 have h3:=OpF.rep hx hn hr
 obtain ⟨_,⟨hLz,_⟩,_⟩:=uO.get hr.hp (hn.2.1 _ hh')
 simp only [Rep] at h3
 obtain ⟨_,_,⟨_,_,rfl,hv⟩|⟨hnil,cp,hv,hcap,hroom,_⟩⟩:=h3
 ·rw [hv]
  refine ⟨_,zDP hn hr hT hz hl hh h1 (by omega),?_⟩
  simp only [Rep]
  exact ⟨trivial,trivial,_,_,rfl,by omega,.inl (by omega)⟩
 ·rw [hv]
  refine ⟨_,zDP hn hr hT hz hl hh h1 (by omega),?_⟩
  simp only [Rep]
  refine ⟨trivial,trivial,_,_,rfl,by omega,?_⟩
  by_cases h0:h-l=0
  ·exact .inl h0
  ·refine .inr ⟨hnil,?_,?_⟩
   ·rw [if_neg (by omega)]
    simp [zDl,hLz]
   ·refine Nat.le_trans (Nat.mul_le_mul_right _ ?_) hroom
    omega
theorem zMf {c:Cert} {x:Operand} {T el:TypeId} {n t off:Nat} (hg:o.guard=none)
  (hop:o.op= .call {callee:=.builtin .len,args:= #[x],argTypes:= #[T]}) (hc:c= {tn:=c.tn,out:=some (.sc (.int .i64 n))})
  (hx:OpF c x (.sub t off n)) (hT:yP Γ.P (underlying T)=some (.slice el)):Valid Γ ops o c:=by
 rw [hc]
 refine jE hg rfl rfl fun β bs σ a w hn hr=>?_
 have h1:=OpF.rep (c:=c) hx ⟨hn.1,by rw [hc]; simp,by rw [hc]; simp⟩ hr
 simp only [Rep] at h1
 obtain ⟨_,_,ad,cp,hv,_⟩:=h1
 refine ⟨.int .i64 n,?_,fun d hd=>by cases hd; simp [Rep]⟩
 rw [zAm hop]
 simp only [builtin,List.map_toArray,List.map_cons,List.map_nil]
 rw [hv]
 refine run_bind_ok (a:=Value.int .i64 n) (w':=w) ?_
 unfold Builtin.len_
 simp only [List.getElem?_toArray,List.getElem?_cons_zero]
 rw [run_bind_ok (zL _ _ w hT)]
 rfl
theorem zKs {c:Cert} {x y:Operand} {T el:TypeId} {k:IntKind} {z n t off j:Nat} {i:Int} {xs:List (List D)} (hg:o.guard=none) (hop:o.op= .indexAddr T x y)
  (hc:c= {tn:=c.tn,hn:=c.hn,out:=some (.pt t j 0)}) (hx:OpF c x (.sub t off n)) (hy:OpF c y (.sc (.int k i))) (hT:yP Γ.P (underlying T)=some (.slice el)) (hz:zFr Γ.P el=some z)
  (hi:0≤i) (hj:i<n) (hjj:off+i.toNat=j) (hh:(t,.row z xs)∈c.hn):Valid Γ ops o c:=by
 refine jL (d:=.pt t j 0) (f:=fun ρ=>Instr.indexAt T (ρ x) (ρ y)) hg (fun ρ=>by simp [execOp,hop]) (by rw [hc]) fun β bs σ a w hn hr=>?_
 have h1:=OpF.rep hx hn hr
 have h2:=OpF.rep hy hn hr
 obtain ⟨_,⟨hLz,_⟩,_⟩:=uO.get hr.hp (hn.2.1 _ hh)
 simp only [Rep] at h1 h2
 obtain ⟨_,_,ad,cp,hv,hcap,h3|⟨hnil,had,hroom⟩⟩:=h1
 ·omega
 ·refine ⟨.pointer (some ⟨(β t).b,(β t).o +j*(β t).z +0,none⟩),?_,by simp only [Rep]; exact ⟨trivial,trivial,hnil,trivial⟩⟩
  rw [h2.1,hv,had]
  unfold Instr.indexAt
  rw [run_bind_ok (a:=(k,i)) (w':=w) rfl]
  simp only
  rw [run_bind_ok (zL _ _ w hT)]
  simp only
  rw [run_bind_ok (a:=(some (⟨(β t).b,(β t).o +off*(β t).z,none⟩:Addr),n,el)) (w':=w) rfl]
  rw [run_bind_ok (zL _ _ w hT)]
  simp only
  rw [if_pos ⟨hi,hj⟩]
  rw [run_bind_ok (zL _ _ w hz)]
  rw [zDl,hLz,←hjj,Nat.add_mul,Nat.add_assoc]
  rfl
theorem Rel.over {β:Nat→Loc} {bs:List Nat} {σ:St} {a:Act} {w:World} {c:Cert} {t z l:Nat} {xs ys:List (List D)} {vs:List Value} {v:Value} (h0:∀t,t∈zGU σ.tm∨t∈zFw σ.hp→t∈σ.us) (hr:RelB Γ β bs σ a w)
  {dst:Option Nat} (hd:∀t,dst=some t→t<Γ.nt) (hhx:c.hx=[t]) (hhw:c.hw=[(t,.row z (xs.take l++ys++xs.drop (l+ys.length)))]) (hm:(t,.row z xs)∈σ.hp) (hnil:(β t).nil =false)
  (hl:l+ys.length≤xs.length) (hyz:∀y∈ys,y.length=z) (hE2:∀N w',zU β N w' ys vs []) (ho:∀d,c.out=some d→∀N w',Rep β N w' true d v []):
  Rel Γ (σ.upd dst c) (a.put dst v) (putCells w (β t).b ((β t).o +l*z) vs):=by
 obtain ⟨b1,b2,hp,⟨hLz,hzz,hrow⟩,hrest⟩:=uO.take hr.hp hr.keys hm
 rcases hrow with ⟨hnil',_⟩|⟨_,ws,hO,hE⟩
 ·rw [hnil] at hnil'; cases hnil'
 have hown:(β t).own =[(β t).b]:=by simp [Loc.own,hnil]
 rw [hown] at hp
 have hws:=hE.length hzz
 have hvl:=(hE2 (fun _=>True) w).length hyz
 have hfilt:σ.hp.filter (fun x=> !c.hx.contains x.1)=σ.hp.filter (fun x=>x.1 !=t):=by
  rw [hhx]; congr 1; funext x; by_cases hx:x.1=t<;>simp [hx]
 obtain ⟨d1,d2,e1,hs1,hs2⟩:=hE.cut l hzz
 obtain ⟨d3,d4,e2,hs3,hs4⟩:=hs2.cut ys.length (fun y hy=>hzz y (List.mem_of_mem_drop hy))
 have hheap:(∀b',b'≠(β t).b →(putCells w (β t).b ((β t).o +l*z) vs).heap[b']? =w.heap[b']?)∧(putCells w (β t).b ((β t).o +l*z) vs).heap.size =w.heap.size:=by
  obtain ⟨arr,e,lo,hi,g1,g2,g3,g4⟩:=hO
  exact (jM g1).2
 have hp2:bs.Perm (((β t).b ::b1)++b2):=by simpa using hp
 have hnd:=hp2.nodup_iff.1 hr.nodup
 have hsub:∀b∈d1++d4,b∈b1:=fun b hb=>by
  rw [e1,e2]
  rcases List.mem_append.1 hb with h|h<;>simp [h]
 have hndn:((β t).b ::(d1++d4)).Nodup :=by
  have q:=(List.nodup_append.1 hnd).1
  rw [e1,e2] at q
  refine List.Nodup.sublist ?_ q
  refine List.Sublist.cons_cons _ ?_
  exact List.Sublist.append_left (List.sublist_append_right _ _) _
 have hbin:∀b∈d1++d4,b≠(β t).b :=fun b hb e=>(List.nodup_cons.1 hndn).1 (e▸hb)
 have hmz:(l+ys.length)*z≤ws.length:=by rw [hws]; exact Nat.mul_le_mul_right _ hl
 have hNS:∀b,NS Γ w bs b→NS Γ (putCells w (β t).b ((β t).o +l*z) vs) ((β t).b ::(d1++d4)++b2) b∧(putCells w (β t).b ((β t).o +l*z) vs).heap[b]? =w.heap[b]? :=by
  rintro b ⟨u1,u2,u3⟩
  have hb1:b≠(β t).b :=fun e=>u3 (hp2.mem_iff.2 (by simp [e]))
  refine ⟨⟨u1,by rw [hheap.2]; exact u2,fun hb=>u3 (hp2.mem_iff.2 ?_)⟩,hheap.1 b hb1⟩
  rcases List.mem_append.1 hb with hb|hb
  ·rcases List.mem_cons.1 hb with hb|hb
   ·exact List.mem_append_left _ (by simp [hb])
   ·exact List.mem_append_left _ (List.mem_cons_of_mem _ (hsub b hb))
  ·exact List.mem_append_right _ hb
 refine Rel.step (β1:=β) (bk:=b2) (br:=(β t).b ::b1) (bn:=(β t).b ::(d1++d4)) h0 hr hd (by rw [hhw]; simp) (by rw [hhw,hhx]; simp) hp2 (by rw [hfilt]; exact hrest) (by rw [hheap.2]; exact Nat.le_refl _)
  (fun b _ hb=>hheap.1 b (fun e=>hb (by simp [e]))) (fun _ _=>rfl) (fun _ _=>rfl) hndn ?_ ?_ (fun d hd=>ho d hd _ _) (zEi _ _ _ _)
 ·intro b hb
  rw [hheap.2]
  have:b∈(β t).b ::b1:=by
   rcases List.mem_cons.1 hb with rfl|hb
   ·simp
   ·exact List.mem_cons_of_mem _ (hsub b hb)
  exact ⟨.inl this,(hr.own b (hp2.mem_iff.2 (List.mem_append_left _ this))).1⟩
 ·rw [hhw]
  refine ⟨d1++d4,[],by rw [hown]; simp,⟨hLz,?_,.inr ⟨hnil,ws.take (l*z)++vs++ws.drop (l*z+vs.length),?_,?_⟩⟩,rfl⟩
  ·intro q hq
   simp only [List.mem_append] at hq
   rcases hq with (hq|hq)|hq
   ·exact hzz q (List.mem_of_mem_take hq)
   ·exact hyz q hq
   ·exact hzz q (List.mem_of_mem_drop hq)
  ·obtain ⟨arr,e',lo,hi,g1,g2,g3,g4⟩:=hO
   have hle:(β t).o +ws.length≤arr.size:=by
    rcases Nat.eq_zero_or_pos ws.length with e0|e0
    ·omega
    ·have:=g4 (ws.length-1) (by omega)
     have:=(Array.getElem?_eq_some_iff.1 this).1
     omega
   obtain ⟨arr',e'',lo',hi',u1,u2,u3,u4⟩:=zKh (r:=ws.length) (vs:=vs) (j:=l*z) ⟨arr,e',lo,hi,g1,g2,hle,g4⟩ (by rw [hvl,←Nat.add_mul]; exact hmz) (Nat.le_refl _)
   refine ⟨arr',e'',lo',hi',u1,u2,?_,u4⟩
   have:=(jM (off:=(β t).o +l*z) (vs:=vs) g1).1
   rw [this] at u1
   cases u1
   rw [zCV]
   exact g3
  ·have m1:=zU.frame (β':=β) hNS _ _ _ (fun b hb=>hheap.1 b (hbin b (by simp [hb]))) hs1
   have m3:=zU.frame (β':=β) hNS _ _ _ (fun b hb=>hheap.1 b (hbin b (by simp [hb]))) hs4
   have key:=(m1.append (hE2 _ _)).append m3
   rw [List.append_nil] at key
   have ex:(xs.drop l).drop ys.length=xs.drop (l+ys.length):=by rw [List.drop_drop]
   have ew:(ws.drop (l*z)).drop (ys.length*z)=ws.drop (l*z+vs.length):=by rw [List.drop_drop,hvl]
   rw [ex,ew] at key
   exact key
theorem Rel.noop {σ:St} {a:Act} {w:World} {c:Cert} {t:Nat} {e:Ent} (h:Rel Γ σ a w) (hm:(t,e)∈σ.hp) (hhx:c.hx=[t]) (hhw:c.hw=[(t,e)]):Rel Γ (σ.upd none c) a w:=by
 have h0:=h.1
 obtain ⟨_,β,bs,hr⟩:=h
 have ho:c.outs none=[]:=rfl
 refine Rel.weak ⟨h0,β,bs,hr⟩ (fun y hy=>?_) (fun y hy=>?_) ?_ ?_
 ·simp only [St.upd,ho,List.nil_append,List.mem_filter] at hy
  exact hy.1
 ·simp only [St.upd,hhw,List.mem_append,List.mem_singleton,List.mem_filter] at hy
  rcases hy with rfl|hy
  ·exact hm
  ·exact hy.1
 ·simp only [St.upd,hhw,hhx,List.map_append,List.map_cons,List.map_nil]
  refine List.nodup_append.2 ⟨by simp,List.Nodup.sublist (List.Sublist.map _ List.filter_sublist) hr.keys,?_⟩
  intro q hq q' hq' e'
  subst e'
  obtain ⟨x,hx,rfl⟩:=List.mem_map.1 hq'
  have:=(List.mem_filter.1 hx).2
  simp at hq this
  exact this hq
 ·intro q hq
  simp only [St.upd,List.mem_append]
  refine .inr (h0 q ?_)
  rcases hq with hq|hq
  ·obtain ⟨x,hx,hx'⟩:=List.mem_flatMap.1 hq
   simp only [St.upd,ho,List.nil_append,List.mem_filter] at hx
   exact .inl (List.mem_flatMap.2 ⟨x,hx.1,hx'⟩)
  ·obtain ⟨x,hx,hx'⟩:=List.mem_flatMap.1 hq
   simp only [St.upd,hhw,List.mem_append,List.mem_singleton,List.mem_filter] at hx
   rcases hx with rfl|hx
   ·exact .inr (List.mem_flatMap.2 ⟨_,hm,hx'⟩)
   ·exact .inr (List.mem_flatMap.2 ⟨x,hx.1,hx'⟩)
theorem zHU (zc:Array Value) (n:Nat):Builtin.zeroCells zc n=madeCells zc (n*zc.size):=rfl
theorem zKo {c:Cert} {x:Operand} {T el:TypeId} {z n l t:Nat} {zv:Value} {e:List D} {xs:List (List D)} (hg:o.guard=none) (hds:o.dst=none) (hop:o.op= .call {callee:=.builtin .clear,args:= #[x],argTypes:= #[T]})
  (hc:c= {tn:=c.tn,hn:=c.hn,hx:=[t],hw:=[(t,.row z (xs.take l++List.replicate n e++xs.drop (l+n)))]}) (hx:OpF c x (.sub t l n)) (hT:Γ.P.underlying T=some (.slice el)) (hzv:yP Γ.P (zeroValue el)=some zv) (hzs:zv.cells.size=z)
  (hone:zv.cells.toList.all Value.oneCell=true) (he:Emb [] (zv.cells.toList.map D.sc) e []) (hel:e.length=z) (hl:l+n≤xs.length) (hh':(t,.row z xs)∈c.hn):Valid Γ ops o c:=by
 intro σ a w Q hdst hn ⟨h0,β,bs,hr⟩
 have hwt:Region.wanted o (yielded ops a.tmps)=true:=by simp [Region.wanted,hg]
 rw [if_pos hwt]
 have h1:=OpF.rep hx hn hr
 simp only [Rep] at h1
 obtain ⟨_,_,ad,cp,hv,hcap,h3⟩:=h1
 have hdst0:∀v,a.put o.dst v=a:=fun v=>by rw [hds]; rfl
 by_cases hn0:n=0
 ·subst hn0
  have hrun:(execOp a.eval o).run Γ.P w= .ok (.value (.tuple #[])) w:=by
   rw [zAm hop]
   simp only [builtin,List.map_toArray,List.map_cons,List.map_nil]
   rw [hv]
   refine run_bind_ok (a:=Value.tuple #[]) (w':=w) ?_
   unfold Builtin.clear_
   simp only [List.getElem?_toArray,List.getElem?_cons_zero]
   rw [run_bind_ok (run_underlying hT w)]
   cases ad<;>rfl
  unfold Oper.wp
  rw [hrun,Oper.upon_value,hdst0,hds]
  exact Rel.noop (t:=t) (e:=.row z xs) ⟨h0,β,bs,hr⟩ (hn.2.1 _ hh') (by rw [hc]) (by rw [hc]; simp)
 ·rcases h3 with h3|⟨hnil,had,hroom⟩
  ·exact absurd h3 hn0
  obtain ⟨b1,b2,hp,⟨hLz,hzz,hrow⟩,hrest⟩:=uO.take hr.hp hr.keys (hn.2.1 _ hh')
  rcases hrow with ⟨hnil',_⟩|⟨_,ws,hO,hE⟩
  ·rw [hnil] at hnil'; cases hnil'
  have hws:=hE.length hzz
  have hcl:(madeCells zv.cells (n*zv.cells.size)).toList.length =n*z:=by rw [Array.length_toList,size_madeCells,hzs]
  have hEn:∀N w',zU β N w' (List.replicate n e) (madeCells zv.cells (n*zv.cells.size)).toList []:=fun N w'=>zGC he n
  have h1c:∀x∈(madeCells zv.cells (n*zv.cells.size)).toList,Value.oneCell x=true:=by
   intro x hx
   simp only [madeCells,Array.toList_map,List.mem_map] at hx
   obtain ⟨i,hi,rfl⟩:=hx
   have hi':i<n*zv.cells.size:=by simpa using hi
   have hpos:0<zv.cells.size:=by
    rcases Nat.eq_zero_or_pos zv.cells.size with h|h
    ·rw [h] at hi'; simp at hi'
    ·exact h
   rw [getElem!_pos zv.cells _ (Nat.mod_lt _ hpos)]
   exact List.all_eq_true.1 hone _ (by simp)
  have hrun:(execOp a.eval o).run Γ.P w= .ok (.value (.tuple #[])) (putCells w (β t).b ((β t).o +l*z) (madeCells zv.cells (n*zv.cells.size)).toList):=by
   rw [zAm hop]
   simp only [builtin,List.map_toArray,List.map_cons,List.map_nil]
   rw [hv,had]
   refine run_bind_ok (a:=Value.tuple #[]) (w':=putCells w (β t).b ((β t).o +l*z) (madeCells zv.cells (n*zv.cells.size)).toList) ?_
   unfold Builtin.clear_
   simp only [List.getElem?_toArray,List.getElem?_cons_zero]
   rw [run_bind_ok (run_underlying hT w)]
   obtain ⟨m,rfl⟩:∃m,n=m+1:=⟨n-1,by omega⟩
   simp only
   obtain ⟨arr,e',lo,hi,g1,g2,g3,g4⟩:=hO
   have hle:(β t).o +ws.length≤arr.size:=by
    rcases Nat.eq_zero_or_pos ws.length with e0|e0
    ·have:(l+(m+1))*z≤ws.length:=by rw [hws]; exact Nat.mul_le_mul_right _ hl
     have g5:(β t).o +(β t).r ≤arr.size:=g3
     omega
    ·have:=g4 (ws.length-1) (by omega)
     have:=(Array.getElem?_eq_some_iff.1 this).1
     omega
   have hmz:(l+(m+1))*z≤ws.length:=by rw [hws]; exact Nat.mul_le_mul_right _ hl
   have hst:=zFU (P:=Γ.P) (off:=(β t).o +l*z) (madeCells zv.cells ((m+1)*zv.cells.size)).toList 0 w arr g1 (fun k hk=>g2 k (Nat.le_of_lt hk)) (by rw [hcl]; rw [Nat.add_mul] at hmz; omega) h1c
   rw [run_bind_ok (zL _ _ w hzv),zHU,hLz]
   refine (run_bind_ok (a:=()) (w':=putCells w (β t).b ((β t).o +l*z) (madeCells zv.cells ((m+1)*zv.cells.size)).toList) ?_).trans rfl
   simpa using hst
  unfold Oper.wp
  rw [hrun,Oper.upon_value]
  refine Rel.over (l:=l) (ys:=List.replicate n e) h0 hr hdst (by rw [hc]) (by rw [hc]; simp) (hn.2.1 _ hh') hnil (by simpa using hl) (fun y hy=>by rw [List.eq_of_mem_replicate hy]; exact hel) hEn (fun d hd=>?_)
  rw [hc] at hd
  cases hd
end
end Go.Im
set_option linter.unusedVariables false
namespace Go.Im
open Go
def ovr {α:Type} (xs:List α) (i:Nat) (ys:List α):List α:=xs.take i++ys++xs.drop (i+ys.length)
theorem zGB {α:Type} {xs r:List α} {l h:Int} (hh:zEE xs l h=some r):0≤l∧l≤h∧h≤xs.length∧r=(xs.drop l.toNat).take (h.toNat-l.toNat)∧r.length=h.toNat-l.toNat:=by
 unfold zEE at hh
 split at hh
 ·rename_i q
  cases hh
  exact ⟨q.1,q.2.1,q.2.2,rfl,by simp; omega⟩
 ·cases hh
def zK0 {α:Type} (xs:List α) (l:Int) (n:Nat) (i:Int):Option α:=if 0≤l∧0≤i∧i<n then idx xs (l+i) else none
def zLI {α:Type} (xs:List α) (l:Int) (n:Nat) (a:α):Option (List α):=if 0≤l∧l.toNat+n≤xs.length then some (ovr xs l.toNat (List.replicate n a)) else none
theorem zHd {α:Type} {xs ys:List α} {l:Int} {n:Nat} {a:α} (h:zLI xs l n a=some ys):xs.length=ys.length:=by
 unfold zLI at h
 split at h
 ·cases h
  simp [ovr]
  omega
 ·cases h
theorem zHa {α:Type} {xs:List α} {l i:Int} {n:Nat} {a:α} (h:zK0 xs l n i=some a):idx xs (l+i)=some a:=by
 unfold zK0 at h
 split at h
 ·exact h
 ·cases h
section
variable {Γ:Ctx}
theorem zJb {α:Type} {xs r:List α} {l hi:Int} (T el z t:Nat) (enc:α→List D) (x:Operand) (lo ho:Option Operand) (h:zEE xs l hi=some r) (hx:OkO x (.rf t 0 xs.length none):=by trivial) (hl:OkB lo (0:Nat) l:=by first|trivial|rfl) (hh:OkB ho xs.length hi:=by first|trivial|rfl)
  (hT:(yP Γ.P (underlying T),zFr Γ.P el)=(some (.slice el),some z):=by kernel_rfl):
  OpV Γ (.slice T x lo ho none) {tn:=tnO x (.rf t 0 xs.length none)++(tnB lo l++tnB ho hi),hn:=[(t,rE z enc xs)],out:=some (.sub t l.toNat r.length)}:=by
 simp only [Prod.mk.injEq] at hT
 obtain ⟨h1,h2,h3,h4,h5⟩:=zGB h
 intro ops o hop hg
 rw [h5]
 exact zKk (n:=xs.length) (xs:=xs.map enc) (z:=z) hg hop rfl (hx.f (fun y hy=>List.mem_append_left _ hy)) hT.1 hT.2 ((hl.f (fun y hy=>List.mem_append_right _ (List.mem_append_left _ hy))).f h1)
  ((hh.f (fun y hy=>List.mem_append_right _ (List.mem_append_right _ hy))).f (by omega)) (by omega) (by omega) (.head _)
theorem zLP {α:Type} {xs r:List α} {l hi:Int} (T el z t t':Nat) (enc:α→List D) (x:Operand) (lo ho:Option Operand) (h:zEE xs l hi=some r) (hx:OkO x (.rf t 0 xs.length none):=by trivial) (hl:OkB lo (0:Nat) l:=by first|trivial|rfl) (hh:OkB ho xs.length hi:=by first|trivial|rfl)
  (hT:(yP Γ.P (underlying T),zFr Γ.P el,Nat.ble Γ.m t')=(some (.slice el),some z,true):=by kernel_rfl):
  OpV Γ (.slice T x lo ho none) {tn:=tnO x (.rf t 0 xs.length none)++(tnB lo l++tnB ho hi),hn:=[(t,rE z enc xs)],out:=some (.rf t' 0 r.length none),hx:=[t],hw:=[(t',rE z enc r)],fr:=[t']}:=by
 simp only [Prod.mk.injEq] at hT
 obtain ⟨h1,h2,h3,h4,h5⟩:=zGB h
 intro ops o hop hg
 have e:rE z enc r= .row z (((xs.map enc).drop l.toNat).take (hi.toNat-l.toNat)):=by
  rw [h4,rE,List.map_take,List.map_drop]
 rw [e,h5]
 exact zPV (n:=xs.length) (xs:=xs.map enc) (z:=z) hg hop rfl (Nat.le_of_ble_eq_true hT.2.2) (hx.f (fun y hy=>List.mem_append_left _ hy)) hT.1 hT.2.1 ((hl.f (fun y hy=>List.mem_append_right _ (List.mem_append_left _ hy))).f h1)
  ((hh.f (fun y hy=>List.mem_append_right _ (List.mem_append_right _ hy))).f (by omega)) (by omega) (by omega) (by simp) (.head _)
theorem zNM (T el t off n:Nat) (x:Operand) (hx:OkO x (.sub t off n):=by trivial) (hT:yP Γ.P (underlying T)=some (.slice el):=by kernel_rfl):
  OpV Γ (.call {callee:=.builtin .len,args:= #[x],argTypes:= #[T]}) {tn:=tnO x (.sub t off n),out:=some (.sc (.int .i64 (n:Int)))}:=by
 intro ops o hop hg
 exact zMf hg hop rfl (hx.f (fun y hy=>hy)) hT
theorem zNk {α:Type} {xs:List α} {l i:Int} {n:Nat} {a:α} {kk:IntKind} (T el z t:Nat) (enc:α→List D) (x y:Operand) (h:zK0 xs l n i=some a) (hx:OkO x (.sub t l.toNat n):=by trivial) (hy:OkO y (.sc (.int kk i)):=by first|trivial|rfl)
  (hT:(yP Γ.P (underlying T),zFr Γ.P el)=(some (.slice el),some z):=by kernel_rfl):
  OpV Γ (.indexAddr T x y) {tn:=tnO x (.sub t l.toNat n)++tnO y (.sc (.int kk i)),hn:=[(t,rE z enc xs)],out:=some (.pt t (l+i).toNat 0)}:=by
 simp only [Prod.mk.injEq] at hT
 have hb:0≤l∧0≤i∧i<n:=by
  unfold zK0 at h
  split at h
  ·assumption
  ·cases h
 intro ops o hop hg
 exact zKs (n:=n) (off:=l.toNat) (i:=i) (k:=kk) (xs:=xs.map enc) (z:=z) hg hop rfl (hx.f (fun y hy=>List.mem_append_left _ hy)) (hy.f (fun y hy=>List.mem_append_right _ hy)) hT.1 hT.2 hb.2.1 hb.2.2 (by omega) (.head _)
theorem zNa {α:Type} {xs ys:List α} {l:Int} {n:Nat} {a:α} (T el z t:Nat) (enc:α→List D) (x:Operand) (h:zLI xs l n a=some ys) (he:Emb [] ((zHS Γ.P el).cells.toList.map D.sc) (enc a) []) (hx:OkO x (.sub t l.toNat n):=by trivial)
  (hT:(Γ.P.underlying T,yP Γ.P (zeroValue el),(zHS Γ.P el).cells.size,(zHS Γ.P el).cells.toList.all Value.oneCell,(enc a).length)=(some (.slice el),some (zHS Γ.P el),z,true,z):=by kernel_rfl):
  zPG Γ (.call {callee:=.builtin .clear,args:= #[x],argTypes:= #[T]}) {tn:=tnO x (.sub t l.toNat n),hn:=[(t,rE z enc xs)],hx:=[t],hw:=[(t,rE z enc ys)]}:=by
 simp only [Prod.mk.injEq] at hT
 obtain ⟨h1,h2,h3,h4,h5⟩:=hT
 unfold zLI at h
 split at h
 ·rename_i q
  cases h
  intro ops o hop hg hds
  have e:rE z enc (ovr xs l.toNat (List.replicate n a))= .row z ((xs.map enc).take l.toNat++List.replicate n (enc a)++(xs.map enc).drop (l.toNat+n)):=by
   simp [rE,ovr,List.map_take,List.map_drop]
  rw [e]
  exact zKo (n:=n) (xs:=xs.map enc) hg hds hop rfl (hx.f (fun y hy=>hy)) h1 h2 h3 h4 he h5 (by simp; omega) (.head _)
 ·cases h
end
end Go.Im

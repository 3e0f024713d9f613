import Derived.Test.YtdeihchdibglaaaGreatDoorImD
import Derived.Lib.Bytealg
import Derived.Laws.StructEq
import Derived.Sort.Row
import Derived.Sort.Grow
import Derived.Lib.LaidTab
import Derived.Lib.ItoaNum
import Derived.Deep.Draws
set_option linter.unusedVariables false
namespace Go.Im
open Go
section
variable {Γ:Ctx} {fc:Code} {k:List II} {σ:St} {T:Type} {K:T→Option (D×List Ent)}
mutual
inductive Fz (t z:Nat) (xs:List (List D)):D→D→Prop where
 |same {d:D}:d.men=[]→Fz t z xs d d
 |keep {d:D}:d.men.contains t=false→Fz t z xs d d
 |rf {off n:Nat} {cap:Option Nat} {ys:List (List D)}:off+n≤xs.length→ys=((D.ro.roE xs).drop off).take n→Fz t z xs (.rf t off n cap) (.s false z n ys)
 |fn {f:FuncId} {cs cs':List D}:FzL t z xs cs cs'→Fz t z xs (.fn f cs) (.fn f cs')
 |ag {cs cs':List D}:FzL t z xs cs cs'→Fz t z xs (.ag cs) (.ag cs')
 |tu {cs cs':List D}:FzL t z xs cs cs'→Fz t z xs (.tu cs) (.tu cs')
inductive FzL (t z:Nat) (xs:List (List D)):List D→List D→Prop where
 |nil:FzL t z xs [] []
 |cons {d d':D} {ds ds':List D}:Fz t z xs d d'→FzL t z xs ds ds'→FzL t z xs (d::ds) (d'::ds')
end
mutual
theorem Fz.men {t z:Nat} {xs:List (List D)}:∀{d d':D},Fz t z xs d d'→∀q∈d'.men,q∈d.men∧q≠t
 |d,_,.same h=>by rw [h]; simp
 |d,_,.keep h=>fun q hq=>⟨hq,fun e=>by subst e; simp at h; exact h hq⟩
 |_,_,.rf _ _=>by simp [D.men]
 |_,_,.fn h=>by simpa [D.men] using FzL.men h
 |_,_,.ag h=>by simpa [D.men] using FzL.men h
 |_,_,.tu h=>by simpa [D.men] using FzL.men h
theorem FzL.men {t z:Nat} {xs:List (List D)}:∀{d d':List D},FzL t z xs d d'→∀q∈D.men.zER d',q∈D.men.zER d∧q≠t
 |_,_,.nil =>by simp [D.men.zER]
 |_,_,.cons h1 h2=>fun q hq=>by
  simp only [D.men.zER,qJ] at hq ⊢
  rcases hq with hq|hq
  ·exact ⟨.inl (Fz.men h1 q hq).1,(Fz.men h1 q hq).2⟩
  ·exact ⟨.inr (FzL.men h2 q hq).1,(FzL.men h2 q hq).2⟩
end
theorem FzL.length {t z:Nat} {xs:List (List D)}:∀{d d':List D},FzL t z xs d d'→d'.length=d.length
 |_,_,.nil =>rfl
 |_,_,.cons _ h2=>by simp [FzL.length h2]
section
variable {β:Nat→Loc} {N N':Nat→Prop} {w:World} {t z:Nat} {xs:List (List D)}
mutual
theorem Fz.rep (hN:∀b,N b→N' b) {b1:List Nat} (hE:zBR β N w (β t) b1 (.row z xs)) (hb:∀b∈(β t).own ++b1,N' b):∀{d d':D} {v:Value},Fz t z xs d d'→Rep β N w true d v []→Rep β N' w true d' v []
 |d,_,v,.same hm,h=>Rep.frame (fun b hb=>⟨hN b hb,rfl⟩) d true v [] (by simp) (fun _ _=>rfl) h
 |d,_,v,.keep hm,h=>Rep.frame (fun b hb=>⟨hN b hb,rfl⟩) d true v [] (by simp) (fun _ _=>rfl) h
 | .rf _ off n cap,.s _ _ _ ys,v,.rf hle hys,h=>by
  obtain ⟨hLz,hzz,hrow⟩:=hE
  simp only [Rep] at h
  obtain ⟨_,_,h⟩:=h
  simp only [Rep]
  have hl:ys.length=n:=by rw [hys]; simp [zFA]; omega
  have hz:∀e∈ys,e.length=z:=fun e he=>by
   rw [hys] at he
   obtain ⟨e',he',rfl⟩:=zFV (List.mem_of_mem_drop (List.mem_of_mem_take he))
   rw [zDp]; exact hzz e' he'
  refine ⟨hl,hz,?_⟩
  rcases h with ⟨hnil,_,hn0,rfl⟩|⟨hnil,cp,rfl,hcap,hroom,_⟩
  ·exact ⟨none,0,by rw [hn0],by omega,.inl ⟨hn0,trivial,by simp⟩⟩
  ·refine ⟨_,cp,rfl,hcap,?_⟩
   rcases hrow with ⟨hnil',_⟩|⟨_,ws,hO,hE⟩
   ·rw [hnil] at hnil'; cases hnil'
   ·have q:=zZ.ro (β':=β) (N':=N') hN xs ws b1 (fun b hb'=>hb b (List.mem_append_right _ hb')) hE
    have hzr:∀e∈D.ro.roE xs,e.length=z:=fun e he=>by
     obtain ⟨e',he',rfl⟩:=zFV he
     rw [zDp]; exact hzz e' he'
    have q2:=(zZ.sub n (zZ.sub off q hzr).2 (fun e he=>hzr e (List.mem_of_mem_drop he))).1
    refine .inr (.inl ⟨trivial,(β t).b,_,_,rfl,hb _ (by simp [Loc.own,hnil]),?_,hys▸q2,trivial⟩)
    rw [hLz]
    exact hO.has.sub (off*z) (n*z)
 |_,_,v,.fn hl,h=>by
  simp only [Rep] at h ⊢
  obtain ⟨h1,h2,ws,h3,h4⟩:=h
  exact ⟨trivial,trivial,ws,h3,FzL.rep hN hE hb hl h4⟩
 |_,_,v,.ag hl,h=>by
  simp only [Rep] at h ⊢
  obtain ⟨h1,ws,h3,h5,h4⟩:=h
  exact ⟨trivial,ws,h3,h5,FzL.rep hN hE hb hl h4⟩
 |_,_,v,.tu hl,h=>by
  simp only [Rep] at h ⊢
  obtain ⟨h1,ws,h3,h4⟩:=h
  exact ⟨trivial,ws,h3,FzL.rep hN hE hb hl h4⟩
theorem FzL.rep (hN:∀b,N b→N' b) {b1:List Nat} (hE:zBR β N w (β t) b1 (.row z xs)) (hb:∀b∈(β t).own ++b1,N' b):∀{ds ds':List D} {vs:List Value},FzL t z xs ds ds'→zK β N w true ds vs []→zK β N' w true ds' vs []
 |_,_,vs,.nil,h=>by simp only [zK] at h ⊢; exact h
 |_,_,vs,.cons h1 h2,h=>by
  simp only [zK] at h ⊢
  obtain ⟨v,vs',b1,b2,rfl,hb',h3,h4⟩:=h
  rw [(List.append_eq_nil_iff.1 hb'.symm).1] at h3
  rw [(List.append_eq_nil_iff.1 hb'.symm).2] at h4
  exact ⟨v,vs',[],[],rfl,rfl,Fz.rep hN hE hb h1 h3,FzL.rep hN hE hb h2 h4⟩
end
end
inductive FzT (t z:Nat) (xs:List (List D)):List (Nat×D)→List (Nat×D)→Prop where
 |nil:FzT t z xs [] []
 |cons {q:Nat} {d d':D} {l l':List (Nat×D)}:Fz t z xs d d'→FzT t z xs l l'→FzT t z xs ((q,d)::l) ((q,d')::l')
inductive FzH (t z:Nat) (xs:List (List D)):List (Nat×Ent)→List (Nat×Ent)→Prop where
 |nil:FzH t z xs [] []
 |box {q:Nat} {cs cs':List D} {l l':List (Nat×Ent)}:cs.all D.free=true→FzL t z xs cs cs'→FzH t z xs l l'→FzH t z xs ((q,.box cs)::l) ((q,.box cs')::l')
 |keep {q:Nat} {e:Ent} {l l':List (Nat×Ent)}:e.men.contains t=false→FzH t z xs l l'→FzH t z xs ((q,e)::l) ((q,e)::l')
theorem FzT.mem {t z:Nat} {xs:List (List D)} {l l':List (Nat×D)} (h:FzT t z xs l l'):∀{q:Nat} {d':D},(q,d')∈l'→∃d,(q,d)∈l∧Fz t z xs d d':=by
 induction h with
 |nil=>intro q d' h; cases h
 |cons h1 _ ih=>
  intro q d' h
  rcases List.mem_cons.1 h with h|h
  ·cases h; exact ⟨_,by simp,h1⟩
  ·obtain ⟨d,h3,h4⟩:=ih h; exact ⟨d,by simp [h3],h4⟩
theorem FzH.keys {t z:Nat} {xs:List (List D)} {l l':List (Nat×Ent)} (h:FzH t z xs l l'):l'.map (·.1)=l.map (·.1):=by
 induction h with
 |nil=>rfl
 |box _ _ _ ih=>simp [ih]
 |keep _ _ ih=>simp [ih]
theorem FzH.rep {β:Nat→Loc} {N N':Nat→Prop} {w:World} {t z:Nat} {xs:List (List D)} {l l':List (Nat×Ent)} (h:FzH t z xs l l') (hN:∀b,N b→N' b) {b1:List Nat} (hE:zBR β N w (β t) b1 (.row z xs)) (hb:∀b∈(β t).own ++b1,N' b):
  ∀{bs:List Nat},vS β N w l bs→vS β N' w l' bs:=by
 induction h with
 |nil=>exact fun h=>h
 |box hfree h1 _ ih=>
  rintro bs ⟨c1,c2,rfl,⟨hn,hz,ws,hO,hone,hcs⟩,h3⟩
  have:=zK.free hfree hcs
  subst this
  refine ⟨[],c2,rfl,⟨hn,by rw [h1.length]; exact hz,ws,hO,hone,FzL.rep hN hE hb h1 hcs⟩,ih h3⟩
 |keep _ _ ih=>
  rintro bs ⟨c1,c2,rfl,h2,h3⟩
  exact ⟨c1,c2,rfl,h2.frame (fun b hb=>⟨hN b hb,rfl⟩) (fun _ _=>rfl) (fun _=>rfl) (fun _ _=>rfl),ih h3⟩
theorem zEc {e:Option T} (t:Nat) {z:Nat} {xs:List (List D)} {tm1 tm2:List (Nat×D)} {hp1 hp2:List (Nat×Ent)} (htm:FzT t z xs tm1 tm2) (hhp:FzH t z xs hp1 hp2) (ht:(hp1.map (·.1)).contains t=false)
  (hj:J Γ fc k (St.mk' tm2 hp2) e K):J Γ fc k (St.mk' tm1 ((t,.row z xs)::hp1)) e K:=by
 refine zGJ (fun a w hr=>?_) hj
 obtain ⟨h0,β,bs,h⟩:=hr
 obtain ⟨b1,bk,rfl,hE,hrest⟩:=h.hp
 have hp:((β t).own ++(b1++bk)).Perm (((β t).own ++b1)++bk):=by rw [List.append_assoc]
 have hnd:=hp.nodup_iff.1 h.nodup
 have hN:∀b,NS Γ w ((β t).own ++(b1++bk)) b→NS Γ w bk b:=fun b hb=>NS.sub (fun x hx=>by simp [hx]) hb
 have hb:∀b∈(β t).own ++b1,NS Γ w bk b:=fun b hb=>by
  have:=h.own b (hp.mem_iff.2 (List.mem_append_left _ hb))
  refine ⟨?_,this.1,fun hbk=>(List.nodup_append.1 hnd).2.2 b hb b hbk rfl⟩
  rcases this.2 with h1|h1
  ·exact .inr (.inl h1)
  ·exact .inr (.inr h1)
 refine ⟨?_,β,bk,{defers:=h.defers,size:=h.size,keys:=?_,par:=h.par,grow:=h.grow,gh:=h.gh,quiet:=h.quiet,keep:=h.keep,hp:=hhp.rep hN hE hb hrest,nodup:=(List.nodup_append.1 hnd).2.1,own:=fun b hb=>h.own b (hp.mem_iff.2 (List.mem_append_right _ hb)),tm:=?_}⟩
 ·intro q hq
  simp only [St.mk',qJ]
  exact hq
 ·have hk:=h.keys
  simp only [St.mk',List.map_cons,List.nodup_cons] at hk
  simp only [St.mk']
  rw [hhp.keys]
  exact hk.2
 ·intro q d' hd
  obtain ⟨d,h1,h2⟩:=htm.mem hd
  obtain ⟨v,h3,h4⟩:=h.tm q d h1
  exact ⟨v,h3,Fz.rep hN hE hb h2 h4⟩
end
end Go.Im
namespace Go.Im
open Go
def same {α β:Type} (xs:List α) (ys:List β):Option Unit:=if xs.length=ys.length then some () else none
section
variable {Γ:Ctx} {fc:Code} {k:List II} {σ:St} {T:Type} {K:T→Option (D×List Ent)}
theorem zQG {e0:Option T} {ix:Int} {α:Type} {enc:α→List D} {A:List α} {a:α} {z z' n:Nat} {ys:List (List D)} (t j t':Nat) (h:idx A ix=some a) (hl:lk σ.hp t=some (.row z (A.map enc))) (hej:(enc a)[j]? =some (.s true z' n ys))
  (hf:(!σ.us.contains t'&&Nat.ble Γ.m t')=true)
  (hj:J Γ fc k ⟨σ.tm,(t,.lent z (A.map enc) ix.toNat j t' n)::(t',.row z' ys)::σ.hp.filter (fun x=>x.1 !=t),t'::σ.us⟩ e0 K):J Γ fc k σ e0 K:=by
 obtain ⟨_,h2⟩:=zFv h
 exact zR5 t ix.toNat j t' hl (by rw [List.getElem?_map,h2]; rfl) hej hf hj
theorem zOw {e:Option T} (t j id z:Nat) {cs:List D} (hl:lk σ.hp t=some (.box cs)) (hc:cs[j]? =some (.sc (.slice none 0 0))) (hm:Γ.m≤id) (hid:σ.us.contains id=false)
  (hj:J Γ fc k ⟨σ.tm,(t,.box (cs.set j (.rf id 0 0 none)))::(id,.row z [])::σ.hp.filter (fun x=>x.1 !=t),id::σ.us⟩ e K):J Γ fc k σ e K:=by
 refine zGJ (fun a w hr=>?_) hj
 obtain ⟨h0,β,bs,h⟩:=hr
 have hidu:id∉σ.us:=by simpa using hid
 have hmT:∀x∈σ.tm,∀t'∈x.2.men,t'≠id:=fun x hx t' ht' e=>hidu (e▸h0 t' (.inl (List.mem_flatMap.2 ⟨x,hx,ht'⟩)))
 have hmH:∀t'∈zIp σ.hp,t'≠id:=fun t' ht' e=>hidu (e▸h0 t' (.inr ht'))
 have htm:t∈zIp σ.hp:=List.mem_flatMap.2 ⟨_,zAT hl,by simp⟩
 have htne:t≠id:=hmH t htm
 obtain ⟨b1,bk,p,⟨hnil,hz,ws,hO,hone,hcs⟩,hrest⟩:=vS.take h.hp h.keys (zAT hl)
 have hjl:j<cs.length:=(List.getElem?_eq_some_iff.1 hc).1
 have hsplit:cs=cs.take j++([.sc (.slice none 0 0)]++cs.drop (j+1)):=by
  conv=>lhs; rw [←List.take_append_drop j cs,List.drop_eq_getElem_cons hjl,(List.getElem?_eq_some_iff.1 hc).2]
  rfl
 have hset:cs.set j (.rf id 0 0 none)=cs.take j++([.rf id 0 0 none]++cs.drop (j+1)):=by
  rw [List.set_eq_take_append_cons_drop,if_pos hjl]; rfl
 have hmcs:∀t'∈D.men.zER cs,t'≠id:=fun t' ht'=>hmH t' (List.mem_flatMap.2 ⟨_,zAT hl,by simp [Ent.men,ht']⟩)
 refine ⟨?_,zG0 β id ⟨true,0,0,z,0⟩,(β t).own ++(b1++bk),?_⟩
 ·intro q hq
  rcases hq with hq|hq
  ·exact List.mem_cons_of_mem _ (h0 q (.inl hq))
  ·simp only [zIp,List.flatMap_cons,Ent.men,qJ,qK,List.not_mem_nil,or_false] at hq
   rcases hq with (rfl|hq)|rfl|hq
   ·exact List.mem_cons_of_mem _ (h0 q (.inr htm))
   ·rw [hset] at hq
    obtain ⟨d,hd,hqd⟩:∃d∈cs.take j++([.rf id 0 0 none]++cs.drop (j+1)),q∈d.men:=by
     clear hset hsplit
     generalize cs.take j++([D.rf id 0 0 none]++cs.drop (j+1))=l at hq
     induction l with
     |nil=>simp [D.men.zER] at hq
     |cons d l ih=>
      simp only [D.men.zER,qJ] at hq
      rcases hq with hq|hq
      ·exact ⟨d,by simp,hq⟩
      ·obtain ⟨d',h1,h2⟩:=ih hq
       exact ⟨d',by simp [h1],h2⟩
    simp only [qJ,qI] at hd
    rcases hd with hd|rfl|hd
    ·exact List.mem_cons_of_mem _ (h0 q (.inr (List.mem_flatMap.2 ⟨_,zAT hl,List.mem_cons_of_mem _ (zI3 (List.mem_of_mem_take hd) hqd)⟩)))
    ·simp [D.men] at hqd; simp [hqd]
    ·exact List.mem_cons_of_mem _ (h0 q (.inr (List.mem_flatMap.2 ⟨_,zAT hl,List.mem_cons_of_mem _ (zI3 (List.mem_of_mem_drop hd) hqd)⟩)))
   ·simp
   ·obtain ⟨x,hx,hx'⟩:=List.mem_flatMap.1 hq
    exact List.mem_cons_of_mem _ (h0 q (.inr (List.mem_flatMap.2 ⟨x,(List.mem_filter.1 hx).1,hx'⟩)))
 ·have hNS:∀b,NS Γ w bs b→NS Γ w ((β t).own ++(b1++bk)) b:=fun b hb=>NS.sub (fun x hx=>p.mem_iff.2 hx) hb
  refine {defers:=h.defers,size:=h.size,keys:=?_,par:=fun k' hk'=>?_,grow:=h.grow,gh:=h.gh,quiet:=h.quiet,keep:=h.keep,hp:=?_,nodup:=p.nodup_iff.1 h.nodup,own:=fun b hb=>h.own b (p.mem_iff.2 hb),tm:=?_}
  ·simp only [List.map_cons,List.nodup_cons,qK,not_or]
   refine ⟨⟨htne,fun hin=>?_⟩,fun hin=>?_,List.Nodup.sublist (List.Sublist.map _ List.filter_sublist) h.keys⟩
   ·obtain ⟨x,hx,hx'⟩:=List.mem_map.1 hin
    have:=(List.mem_filter.1 hx).2
    simp [hx'] at this
   ·obtain ⟨x,hx,hx'⟩:=List.mem_map.1 hin
    exact hmH x.1 (List.mem_flatMap.2 ⟨x,(List.mem_filter.1 hx).1,by simp⟩) hx'
  ·rw [zAc (by omega)]; exact h.par k' hk'
  ·refine ⟨b1,bk,by rw [zAc htne],?_,[],bk,by simp [xI,Loc.own],?_,?_⟩
   ·rw [zAc htne]
    refine ⟨hnil,by simpa using hz,ws,hO,hone,?_⟩
    have hcs':zK (zG0 β id ⟨true,0,0,z,0⟩) (NS Γ w ((β t).own ++(b1++bk))) w true cs ws b1:=zK.frame (fun b hb=>⟨hNS b hb,rfl⟩) cs true ws b1 (fun _ _=>rfl) (fun q hq=>zAc (hmcs q hq)) hcs
    obtain ⟨c1,c2,e1,g1,g2⟩:=hcs'.split j
    have hdj:cs.drop j= .sc (.slice none 0 0)::cs.drop (j+1):=by
     rw [List.drop_eq_getElem_cons hjl,(List.getElem?_eq_some_iff.1 hc).2]
    rw [hdj] at g2
    simp only [zK] at g2
    obtain ⟨v,vs,d1,d2,ev,e2,hv,g3⟩:=g2
    simp only [Rep] at hv
    obtain ⟨rfl,rfl⟩:=hv
    rw [hset]
    have hrf:zK (zG0 β id ⟨true,0,0,z,0⟩) (NS Γ w ((β t).own ++(b1++bk))) w true [.rf id 0 0 none] [.slice none 0 0] []:=by
     simp only [zK,Rep,xI]
     exact ⟨_,[],[],[],rfl,rfl,⟨trivial,rfl,.inl ⟨trivial,trivial,trivial,rfl⟩⟩,rfl,rfl⟩
    have key:=g1.append (hrf.append g3)
    have ew:ws=ws.take j++([.slice none 0 0]++vs):=by
     conv=>lhs; rw [←List.take_append_drop j ws,ev]
     rfl
    rw [ew]
    clear hNS hcs' ew hsplit hset
    generalize NS Γ w ((β t).own ++(b1++bk))=N' at*
    rw [e1,e2]
    exact key
   ·rw [xI]; exact ⟨rfl,by simp,.inl ⟨rfl,rfl,rfl⟩⟩
   ·refine vS.frame (fun b hb=>⟨hNS b hb,rfl⟩) _ _ (fun _ _=>rfl) (fun t' ht'=>zAc (hmH t' ?_)) hrest
    obtain ⟨x,hx,hx'⟩:=List.mem_flatMap.1 ht'
    exact List.mem_flatMap.2 ⟨x,(List.mem_filter.1 hx).1,hx'⟩
  ·intro t' d hd
   obtain ⟨v,h1,h2⟩:=h.tm t' d hd
   exact ⟨v,h1,Rep.frame (fun b hb=>⟨hNS b hb,rfl⟩) d true v [] (by simp) (fun q hq=>zAc (hmT _ hd q hq)) h2⟩
end
section
variable {Γ:Ctx} {ops:Array Oper} {o:Oper}
end
end Go.Im
namespace Go.Im
open Go
def iv (x:Int):D:=.sc (.int .i64 x)
def uv (x:Int):D:=.sc (.int .u8 x)
def bv (b:Bool):D:=.sc (.bool b)
def sv (s:ByteArray):D:=.sc (.string s)
def nv:D:=.sc (.slice none 0 0)
def sl {α:Type} (z:Nat) (e:α→List D) (xs:List α):D:=.s false z xs.length (xs.map e)
def so {α:Type} (z:Nat) (e:α→List D) (xs:List α):D:=.s true z xs.length (xs.map e)
def rr {α:Type} (t:Nat) (xs:List α):D:=.rf t 0 xs.length none
def pp (t:Nat):D:=.pt t 0 0
def rE {α:Type} (z:Nat) (e:α→List D) (xs:List α):Ent:=.row z (xs.map e)
def zRm (fc:Code):Nat→Nat→List II
 |0,_=>[]
 |f+1,p=>if p≤1 then [] else match sub fc (p / 2) with
  | .seq _ _=>if p%2==0 then .c (p+1)::zRm fc f (p / 2) else zRm fc f (p / 2)
  | .block id _=>.b id::zRm fc f (p / 2)
  | .loop _=>.l p::zRm fc f (p / 2)
  |_=>zRm fc f (p / 2)
def aft (fc:Code) (p:Nat):List II:=zRm fc 250 p
def atI (fc:Code) (p:Nat):List II:=.c p::aft fc p
def zSc (fc:Code) (tm:List (Nat×D)) (p:Nat):Nat→List II→Option (List II)
 |0,_=>none
 |n+1,k=>match k with
  | .c q::r=>if q=p then some r else match zOJ fc tm (.c q::r) with
   |some k'=>zSc fc tm p n k'
   |none=>none
  |k=>match zOJ fc tm k with
   |some k'=>zSc fc tm p n k'
   |none=>none
theorem zJ1 {fc:Code} {tm:List (Nat×D)} {p:Nat}:∀(n:Nat) (k r:List II),zSc fc tm p n k=some r→∃m,zNV fc tm m k=some (.c p::r)
 |0,k,r,h=>by cases h
 |n+1,k,r,h=>by
  unfold zSc at h
  split at h
  ·rename_i q r'
   split at h
   ·rename_i e; subst e; cases h; exact ⟨0,rfl⟩
   ·split at h
    ·rename_i k' hk'
     obtain ⟨m,hm⟩:=zJ1 n k' r h
     exact ⟨m+1,by simp only [zNV,hk']; exact hm⟩
    ·cases h
  ·split at h
   ·rename_i k' hk'
    obtain ⟨m,hm⟩:=zJ1 n k' r h
    exact ⟨m+1,by simp only [zNV,hk']; exact hm⟩
   ·cases h
def II.eq:II→II→Bool
 | .c x,.c y=>x==y
 | .b x,.b y=>x==y
 | .l x,.l y=>x==y
 |_,_=>false
theorem II.zJe:∀{p q:II},II.eq p q=true→p=q
 | .c x,.c y,h=>by simp [II.eq] at h; rw [h]
 | .b x,.b y,h=>by simp [II.eq] at h; rw [h]
 | .l x,.l y,h=>by simp [II.eq] at h; rw [h]
 | .c _,.b _,h=>by cases h
 | .c _,.l _,h=>by cases h
 | .b _,.c _,h=>by cases h
 | .b _,.l _,h=>by cases h
 | .l _,.c _,h=>by cases h
 | .l _,.b _,h=>by cases h
def IIs.eq:List II→List II→Bool
 |[],[]=>true
 |a::k,b::k'=>II.eq a b&&IIs.eq k k'
 |_,_=>false
theorem IIs.zJe:∀{a b:List II},IIs.eq a b=true→a=b
 |[],[],_=>rfl
 |a::k,b::k',h=>by
  simp only [IIs.eq,Bool.and_eq_true] at h
  rw [II.zJe h.1,IIs.zJe h.2]
 |[],_::_,h=>by cases h
 |_::_,[],h=>by cases h
def zQq (fc:Code) (tm:List (Nat×D)) (k':List II):Nat→List II→Bool
 |0,_=>false
 |n+1,k=>if k.length==k'.length&&IIs.eq k k' then true else match zOJ fc tm k with
  |some k2=>zQq fc tm k' n k2
  |none=>false
theorem zLk {fc:Code} {tm:List (Nat×D)} {k':List II}:∀(n:Nat) (k:List II),zQq fc tm k' n k=true→∃m,zNV fc tm m k=some k'
 |0,k,h=>by cases h
 |n+1,k,h=>by
  unfold zQq at h
  split at h
  ·rename_i e
   simp only [Bool.and_eq_true] at e
   exact ⟨0,by simp only [zNV]; rw [IIs.zJe e.2]⟩
  ·split at h
   ·rename_i k2 hk2
    obtain ⟨m,hm⟩:=zLk n k2 h
    exact ⟨m+1,by simp only [zNV,hk2]; exact hm⟩
   ·cases h
def zR7 (fc:Code) (tm:List (Nat×D)):Nat→List II→Bool
 |0,_=>false
 |n+1,k=>match k with
  |[]=>true
  | .c q::r=>match sub fc q with
   | .ret =>true
   |_=>match zOJ fc tm (.c q::r) with
    |some k2=>zR7 fc tm n k2
    |none=>false
  |k=>match zOJ fc tm k with
   |some k2=>zR7 fc tm n k2
   |none=>false
theorem zIR {fc:Code} {tm:List (Nat×D)}:∀(n:Nat) (k:List II),zR7 fc tm n k=true→∃m k',zNV fc tm m k=some k'∧(k'=[]∨∃p k'',k'= .c p::k''∧sub fc p= .ret)
 |0,k,h=>by cases h
 |n+1,k,h=>by
  unfold zR7 at h
  split at h
  ·exact ⟨0,[],rfl,.inl rfl⟩
  ·rename_i q r
   split at h
   ·rename_i hs
    exact ⟨0,_,rfl,.inr ⟨q,r,rfl,hs⟩⟩
   ·split at h
    ·rename_i k2 hk2
     obtain ⟨m,k',h1,h2⟩:=zIR n k2 h
     exact ⟨m+1,k',by simp only [zNV,hk2]; exact h1,h2⟩
    ·cases h
  ·split at h
   ·rename_i k2 hk2
    obtain ⟨m,k',h1,h2⟩:=zIR n k2 h
    exact ⟨m+1,k',by simp only [zNV,hk2]; exact h1,h2⟩
   ·cases h
section
variable {Γ:Ctx} {fc:Code} {k:List II} {σ:St} {T:Type} {K:T→Option (D×List Ent)}
theorem zB {p:Nat}:zJH Γ fc p []:=trivial
def zS0 (fc:Code) (tm:List (Nat×D)) (p:Nat) (k:List II):Bool:=match zSc fc tm p 60 k with
 |some r=>IIs.eq r (aft fc p)
 |none=>false
theorem J_g {e:Option T} (p:Nat) (ids:List (Nat×Nat)) (tm2:List (Nat×D)) (hp2:List (Nat×Ent)) {orc:List (Nat×Cert)} (hor:zJH Γ fc p orc) (hj:J Γ fc (aft fc p) (St.mk' tm2 hp2) e K)
  (h:(zS0 fc σ.tm p k&&Γ.P.follows .mixedOrders,(chk Γ.P Γ.nt Γ.m fc p orc ids σ tm2 hp2).1,(chk Γ.P Γ.nt Γ.m fc p orc ids σ tm2 hp2).2.2.1,(chk Γ.P Γ.nt Γ.m fc p orc ids σ tm2 hp2).2.2.2.2)=
   (true,(chk Γ.P Γ.nt Γ.m fc p orc ids σ tm2 hp2).2.1,(chk Γ.P Γ.nt Γ.m fc p orc ids σ tm2 hp2).2.2.2.1,true):=by kernel_rfl):J Γ fc k σ e K:=by
 simp only [Prod.mk.injEq,Bool.and_eq_true] at h
 obtain ⟨⟨h0,hm⟩,h1,h2,h3⟩:=h
 unfold zS0 at h0
 split at h0
 ·rename_i r hr
  obtain ⟨m,hm2⟩:=zJ1 _ _ _ hr
  rw [IIs.zJe h0] at hm2
  refine zQI m _ hm2 (zSu orc ids tm2 hp2 hm hor ?_ hj)
  simp only [Prod.mk.injEq]
  exact ⟨h1,h2,h3⟩
 ·cases h0
theorem zTj {b:Bool} {x y:Option T} (t:Nat) (hl:lk σ.tm t=some (.sc (.bool b)):=by kernel_rfl) (h1:b=true→J Γ fc k ⟨(t,.sc (.bool true))::σ.tm,σ.hp,σ.us⟩ x K) (h2:b=false→J Γ fc k ⟨(t,.sc (.bool false))::σ.tm,σ.hp,σ.us⟩ y K):
  J Γ fc k σ (if b then x else y) K:=by
 cases b with
 |true=>exact zRz true hl rfl (h1 rfl)
 |false=>exact zRz false hl rfl (h2 rfl)
theorem zSn {e:Option T} {k':List II} {tm2:List (Nat×D)} {hp2:List (Nat×Ent)} (hj:J Γ fc k' (St.mk' tm2 hp2) e K)
  (h:(zQq fc σ.tm k' 60 k,tm2.map (fun x=>lk σ.tm x.1),hp2.map (fun x=>lk σ.hp x.1),zEW (hp2.map (·.1)))=(true,tm2.map (fun x=>some x.2),hp2.map (fun x=>some x.2),true):=by kernel_rfl):J Γ fc k σ e K:=by
 simp only [Prod.mk.injEq] at h
 obtain ⟨m,hm⟩:=zLk _ _ h.1
 refine zQI m _ hm (vB tm2 hp2 ?_ hj)
 simp only [Prod.mk.injEq]
 exact h.2
theorem J_b {S:Type} {g:S→Option T} {s:S} {k':List II} {tm2:List (Nat×D)} {hp2:List (Nat×Ent)} (hj:J Γ fc k' (St.mk' tm2 hp2) (g s) K)
 (h:(zQq fc σ.tm k' 60 k,tm2.map (fun x=>lk σ.tm x.1),hp2.map (fun x=>lk σ.hp x.1),zEW (hp2.map (·.1)))=(true,tm2.map (fun x=>some x.2),hp2.map (fun x=>some x.2),true):=by kernel_rfl):
 J Γ fc k σ (some (Lp.go s)) (fun x=>(Lp.elim g x).bind K):=zTq (zSn hj h)
theorem zN {V:Type} {v:V} {w:T} {K0:V→Option (D×List Ent)} {k':List II} {tm2:List (Nat×D)} {hp2:List (Nat×Ent)} (hj:J Γ fc k' (St.mk' tm2 hp2) (some v) K0) (hK:K w=K0 v)
 (h:(zQq fc σ.tm k' 60 k,tm2.map (fun x=>lk σ.tm x.1),hp2.map (fun x=>lk σ.hp x.1),zEW (hp2.map (·.1)))=(true,tm2.map (fun x=>some x.2),hp2.map (fun x=>some x.2),true):=by kernel_rfl):
 J Γ fc k σ (some w) K:=J_q (zSn hj h) hK
theorem zEx {U:Type} {y:Option U} {f:U→Option T} {k':List II} {tm2:List (Nat×D)} {hp2:List (Nat×Ent)} (hj:J Γ fc k' (St.mk' tm2 hp2) y (fun x=>(f x).bind K))
 (h:(zQq fc σ.tm k' 60 k,tm2.map (fun x=>lk σ.tm x.1),hp2.map (fun x=>lk σ.hp x.1),zEW (hp2.map (·.1)))=(true,tm2.map (fun x=>some x.2),hp2.map (fun x=>some x.2),true):=by kernel_rfl):
 J Γ fc k σ (y.bind f) K:=zJj (zSn hj h)
theorem uL {R V:Type} {y:Option (Fl R V)} {K0:R→Option (D×List Ent)} {fr:R→Option T} {rest:V→Option T} {k':List II} {tm2:List (Nat×D)} {hp2:List (Nat×Ent)} (hr:∀r,(fr r).bind K=K0 r)
 (hj:J Γ fc k' (St.mk' tm2 hp2) y (Fl.go K0 (fun v=>(rest v).bind K)))
 (h:(zQq fc σ.tm k' 60 k,tm2.map (fun x=>lk σ.tm x.1),hp2.map (fun x=>lk σ.hp x.1),zEW (hp2.map (·.1)))=(true,tm2.map (fun x=>some x.2),hp2.map (fun x=>some x.2),true):=by kernel_rfl):
 J Γ fc k σ (y.bind (Fl.go fr rest)) K:=zRI hr (zSn hj h)
def zSM (P:Program) (f:FuncId):List ResultVar:=match P.funcs[f]? with
 |some fn=>fn.results.toList
 |none=>[]
theorem zPC {P:Program} {f:FuncId} (h:(P.funcs[f]?).isSome =true):∃fn,P.funcs[f]? =some fn∧fn.results.toList=zSM P f:=by
 unfold zSM
 cases hf:P.funcs[f]? with
 |none=>rw [hf] at h; cases h
 |some fn=>exact ⟨fn,rfl,rfl⟩
def D.plain:D→Bool
 | .ag cs=>cs.all D.nest
 |d=>d.nest
theorem Ret.plain {hn:List (Nat×Ent)} {d:D} (h:d.plain=true):Ret hn d d []:=by
 cases d with
 |ag cs=>exact .ag (Emb.zIz hn cs h)
 |_=>exact .cell (.keep h .nil)
theorem zN8.plain {hn:List (Nat×Ent)}:∀{ds:List D},ds.all D.plain=true→zN8 hn ds ds []
 |[],_=>.nil
 |d::ds,h=>by
  simp only [List.all_cons,Bool.and_eq_true] at h
  exact .cons (t1:=[]) (Ret.plain h.1) (zN8.plain h.2) (by simp)
theorem zMD:∀{cs:List D},cs.all D.nest=true→D.men.zER cs=[]
 |[],_=>rfl
 |d::cs,h=>by
  simp only [List.all_cons,Bool.and_eq_true] at h
  simp only [D.men.zER,zMD h.2,List.append_nil]
  have:=h.1
  cases d<;>simp_all [D.nest,D.men]
theorem zJb:∀{ds:List D},ds.all D.plain=true→D.men.zER ds=[]
 |[],_=>rfl
 |d::ds,h=>by
  simp only [List.all_cons,Bool.and_eq_true] at h
  simp only [D.men.zER,zJb h.2,List.append_nil]
  have:=h.1
  cases d with
  |ag cs=>simp only [D.men]; exact zMD this
  |_=>simp_all [D.plain,D.nest,D.men]
def zNj (Γ:Ctx) (fc:Code) (k:List II) (σ:St) (hout:List Ent):Bool×Option (List D)×List (Option Ent)×Bool×List Nat×Bool:=
 (zR7 fc σ.tm 60 k,zQ4 Γ.P σ.tm σ.hp (zSM Γ.P Γ.fid),(zFC hout).map (fun x=>lk σ.hp x.1),Nat.ble hout.length Γ.m,hout.flatMap Ent.men,(Γ.P.funcs[Γ.fid]?).isSome)
theorem zEO {v:T} {ds ds':List D} {ts:List Nat} {hout:List Ent} (hret:zN8 σ.hp ds ds' ts) (hK:K v=some (zPq ds',hout))
  (h:(zNj Γ fc k σ hout,D.men.zER ds',ts.all (fun t=>Nat.ble hout.length t))=((true,some ds,(zFC hout).map (fun x=>some x.2),true,[],true),[],true):=by kernel_rfl):J Γ fc k σ (some v) K:=by
 simp only [zNj,Prod.mk.injEq] at h
 obtain ⟨⟨h1,h2,h3,h4,h5,h6⟩,h7,h8⟩:=h
 obtain ⟨m,k',g1,g2⟩:=zIR _ _ h1
 obtain ⟨fn,g3,g4⟩:=zPC h6
 refine zQI m k' g1 (zSP g2 g3 g4 (zJs h2) hret (fun x hx=>⟨zEv h3 x hx,fun ht=>?_⟩) (qB h4) (by rw [h7]; simp) (fun e he t ht=>?_) hK)
 ·have h1:=qB (List.all_eq_true.1 h8 _ ht)
  have h2:=(List.getElem?_eq_some_iff.1 (zL0.1 hx)).1
  omega
 ·have:t∈hout.flatMap Ent.men:=List.mem_flatMap.2 ⟨e,he,ht⟩
  rw [h5] at this
  simp at this
theorem yA {v:T} {d:D} {hout:List Ent} (hK:K v=some (d,hout))
  (h:(zNj Γ fc k σ hout,d.plain)=((true,some [d],(zFC hout).map (fun x=>some x.2),true,[],true),true):=by kernel_rfl):J Γ fc k σ (some v) K:=by
 simp only [Prod.mk.injEq] at h
 have hp:[d].all D.plain=true:=by simpa using h.2
 refine zEO (ds:=[d]) (ds':=[d]) (ts:=[]) (zN8.plain hp) hK ?_
 simp only [Prod.mk.injEq]
 exact ⟨h.1,zJb hp,rfl⟩
theorem zPj {v:T} {ds:List D} {hout:List Ent} (hK:K v=some (.tu ds,hout))
  (h:(zNj Γ fc k σ hout,ds.all D.plain,ds.length==1)=((true,some ds,(zFC hout).map (fun x=>some x.2),true,[],true),true,false):=by kernel_rfl):J Γ fc k σ (some v) K:=by
 simp only [Prod.mk.injEq] at h
 obtain ⟨h1,hp,hl⟩:=h
 have:zPq ds= .tu ds:=by
  match ds,hl with
  |[],_=>rfl
  |d1::d2::ds,_=>rfl
 refine zEO (ds:=ds) (ds':=ds) (ts:=[]) (zN8.plain hp) (by rw [this]; exact hK) ?_
 simp only [Prod.mk.injEq]
 exact ⟨h1,zJb hp,rfl⟩
end
def OpV (Γ:Ctx) (op:Op) (c:Cert):Prop:=∀(ops:Array Oper) (o:Oper),o.op=op→o.guard=none→Valid Γ ops o c
def zSH (Γ:Ctx) (op:Op) (c:Cert):Prop:=∀(ops:Array Oper) (o:Oper),o.op=op→o.guard=none→o.dst=none→Valid Γ ops o c
section
variable {Γ:Ctx} {fc:Code} {p:Nat}
theorem zD {rest:List (Nat×Cert)} {op:Op} {c:Cert} (i:Nat) (hv:OpV Γ op c) (hr:zJH Γ fc p rest) (h:(opAt fc p i).map (fun o=>(o.op,o.guard))=some (op,none):=by kernel_rfl):zJH Γ fc p ((i,c)::rest):=
 ⟨zSY h hv,hr⟩
theorem zRG {rest:List (Nat×Cert)} {op:Op} {c:Cert} (i:Nat) (hv:zSH Γ op c) (hr:zJH Γ fc p rest) (h:(opAt fc p i).map (fun o=>(o.op,o.guard,o.dst))=some (op,none,none):=by kernel_rfl):zJH Γ fc p ((i,c)::rest):=
 ⟨zSD h hv,hr⟩
theorem uD {rest:List (Nat×Cert)} {op:Op} {c:Cert} (i g t:Nat) (b:Bool) (hv:OpV Γ op c) (hr:zJH Γ fc p rest) (h:((opAt fc p i).map (fun o=>(o.op,o.guard)),zLl fc p g)=(some (op,some (g,b)),some t):=by kernel_rfl):
  zJH Γ fc p ((i,{c with tn:=(t,.sc (.bool b))::c.tn})::rest):=by
 simp only [Prod.mk.injEq] at h
 exact ⟨zTn h.1 h.2 hv,hr⟩
theorem zIv {rest:List (Nat×Cert)} {c:Cert} (i:Nat) (hv:∀id ops draw,sub fc p= .region id ops draw→∀o,ops[i]? =some o→Valid Γ ops o c) (hr:zJH Γ fc p rest):zJH Γ fc p ((i,c)::rest):=⟨hv,hr⟩
def tnO (x:Operand) (d:D):List (Nat×D):=match x with
 | .tmp t=>[(t,d)]
 |_=>[]
def OkO (x:Operand) (d:D):Prop:=match x with
 | .tmp _=>True
 | .const v=>d= .sc v
 | .func f=>d= .fn f []
 | .global _=>False
theorem OkO.f {c:Cert} {x:Operand} {d:D} (h:OkO x d) (hs:∀y∈tnO x d,y∈c.tn):OpF c x d:=by
 cases x with
 |tmp t=>exact hs _ (by simp [tnO])
 |const v=>exact h
 |func f=>exact h
 |global g=>exact h.elim
theorem wM {α:Type} {xs:List α} {i:Int} {a:α} {kk:IntKind} (T el z:Nat) (enc:α→List D) (x y:Operand) (h:idx xs i=some a) (hx:OkO x (.s false z xs.length (xs.map enc)):=by trivial) (hy:OkO y (.sc (.int kk i)):=by first|trivial|rfl)
  (hT:(yT Γ.P (underlying T),zGk Γ.P el)=(some (.slice el),some z):=by kernel_rfl):OpV Γ (.indexAddr T x y) {tn:=tnO x (.s false z xs.length (xs.map enc))++tnO y (.sc (.int kk i)),out:=some (.ps (enc a))}:=by
 simp only [Prod.mk.injEq] at hT
 intro ops o hop hg
 exact zQE h hg hop rfl (hx.f (fun y hy=>List.mem_append_left _ hy)) (hy.f (fun y hy=>List.mem_append_right _ hy)) hT.1 hT.2
theorem zAb {α:Type} {xs:List α} {i:Int} {a:α} {kk:IntKind} (T el z t:Nat) (enc:α→List D) (x y:Operand) (h:idx xs i=some a) (hx:OkO x (.rf t 0 xs.length none):=by trivial) (hy:OkO y (.sc (.int kk i)):=by first|trivial|rfl)
  (hT:(yT Γ.P (underlying T),zGk Γ.P el)=(some (.slice el),some z):=by kernel_rfl):
  OpV Γ (.indexAddr T x y) {tn:=tnO x (.rf t 0 xs.length none)++tnO y (.sc (.int kk i)),hn:=[(t,rE z enc xs)],out:=some (.pt t i.toNat 0)}:=by
 simp only [Prod.mk.injEq] at hT
 intro ops o hop hg
 exact zNz h hg hop rfl (hx.f (fun y hy=>List.mem_append_left _ hy)) (hy.f (fun y hy=>List.mem_append_right _ hy)) (.head _) hT.1 hT.2
theorem zRZ {α:Type} {xs:List α} {i:Int} {a:α} {kk:IntKind} (T el z t:Nat) (enc:α→List D) (x y:Operand) (a0 b0 t' n':Nat) (h:idx xs i=some a) (hx:OkO x (.rf t 0 xs.length none):=by trivial) (hy:OkO y (.sc (.int kk i)):=by first|trivial|rfl)
  (hT:(yT Γ.P (underlying T),zGk Γ.P el)=(some (.slice el),some z):=by kernel_rfl):
  OpV Γ (.indexAddr T x y) {tn:=tnO x (.rf t 0 xs.length none)++tnO y (.sc (.int kk i)),hn:=[(t,.lent z (xs.map enc) a0 b0 t' n')],out:=some (.pt t i.toNat 0)}:=by
 simp only [Prod.mk.injEq] at hT
 intro ops o hop hg
 exact zLw h hg hop rfl (hx.f (fun y hy=>List.mem_append_left _ hy)) (hy.f (fun y hy=>List.mem_append_right _ hy)) (.head _) hT.1 hT.2
theorem zSC {α:Type} (T t:Nat) (x:Operand) (z:Nat) (enc:α→List D) (xs:List α) (i j t' n:Nat) (hd:zDQ Γ.P T [.rf t' 0 n none]=some (.rf t' 0 n none):=by kernel_rfl) (hx:OkO x (.pt t i j):=by trivial):
  OpV Γ (.load T x) {tn:=tnO x (.pt t i j),hn:=[(t,.lent z (xs.map enc) i j t' n)],out:=some (.rf t' 0 n none)}:=by
 intro ops o hop hg
 exact zMy hg hop rfl (hx.f (fun y hy=>hy)) (.head _) hd
theorem zAa {α:Type} {xs:List α} {i:Int} {a:α} {d:D} (T z t j:Nat) (enc:α→List D) (x:Operand) (h:idx xs i=some a) (hd:(((enc a).drop j).all zE1,zDQ Γ.P T ((enc a).drop j))=(true,some d)) (hx:OkO x (.pt t i.toNat j):=by trivial):
  OpV Γ (.load T x) {tn:=tnO x (.pt t i.toNat j),hn:=[(t,rE z enc xs)],out:=some d}:=by
 simp only [Prod.mk.injEq] at hd
 intro ops o hop hg
 exact zNZ h hg hop rfl (hx.f (fun y hy=>hy)) (.head _) hd.1 hd.2
theorem zKZ {s:ByteArray} {i b:Int} {kk:IntKind} (T:Nat) (x y:Operand) (h:bidx s i=some b) (hx:OkO x (.sc (.string s)):=by first|trivial|rfl) (hy:OkO y (.sc (.int kk i)):=by first|trivial|rfl) (hT:yT Γ.P (underlying T)=some .string :=by kernel_rfl):
  OpV Γ (.index T x y) {tn:=tnO x (.sc (.string s))++tnO y (.sc (.int kk i)),out:=some (.sc (.int .u8 b))}:=by
 intro ops o hop hg
 exact zR4 h hg hop rfl (hx.f (fun y hy=>List.mem_append_left _ hy)) (hy.f (fun y hy=>List.mem_append_right _ hy)) hT
theorem zAJ {s1 s2 s:ByteArray} (T U:Nat) (x y:Operand) (h:cat s1 s2=some s) (hx:OkO x (.sc (.string s1)):=by first|trivial|rfl) (hy:OkO y (.sc (.string s2)):=by first|trivial|rfl):
  OpV Γ (.binOp .add T x y U) {tn:=tnO x (.sc (.string s1))++tnO y (.sc (.string s2)),out:=some (.sc (.string s))}:=by
 intro ops o hop hg
 exact zPJ h hg hop rfl (hx.f (fun y hy=>List.mem_append_left _ hy)) (hy.f (fun y hy=>List.mem_append_right _ hy))
def tnB (x:Option Operand) (i:Int):List (Nat×D):=match x with
 |some y=>tnO y (.sc (.int .i64 i))
 |none=>[]
def OkB (x:Option Operand) (dflt i:Int):Prop:=match x with
 |some y=>OkO y (.sc (.int .i64 i))
 |none=>i=dflt
theorem OkB.f {c:Cert} {x:Option Operand} {dflt:Nat} {i:Int} (h:OkB x dflt i) (hs:∀y∈tnB x i,y∈c.tn):zQi c x dflt i:=by
 cases x with
 |none=>exact h
 |some y=>exact ⟨_,OkO.f (d:=.sc (.int .i64 i)) h hs⟩
theorem zKY {s r:ByteArray} {l hi:Int} (T:Nat) (x:Operand) (lo ho:Option Operand) (h:zFt s l hi=some r) (hx:OkO x (.sc (.string s)):=by first|trivial|rfl) (hl:OkB lo (0:Nat) l:=by first|trivial|rfl) (hh:OkB ho s.size hi:=by first|trivial|rfl) (hT:yT Γ.P (underlying T)=some .string :=by kernel_rfl):
  OpV Γ (.slice T x lo ho none) {tn:=tnO x (.sc (.string s))++(tnB lo l++tnB ho hi),out:=some (.sc (.string r))}:=by
 intro ops o hop hg
 exact zRw h hg hop rfl (hx.f (fun y hy=>List.mem_append_left _ hy)) (hl.f (fun y hy=>List.mem_append_right _ (List.mem_append_left _ hy))) (hh.f (fun y hy=>List.mem_append_right _ (List.mem_append_right _ hy))) hT
theorem zQw {α:Type} {xs r:List α} {l hi:Int} (T el z:Nat) (enc:α→List D) (x:Operand) (lo ho:Option Operand) (h:zGp xs l hi=some r) (hx:OkO x (.s false z xs.length (xs.map enc)):=by first|trivial|rfl) (hl:OkB lo (0:Nat) l:=by first|trivial|rfl) (hh:OkB ho xs.length hi:=by first|trivial|rfl)
  (hT:(yT Γ.P (underlying T),zGk Γ.P el)=(some (.slice el),some z):=by kernel_rfl):
  OpV Γ (.slice T x lo ho none) {tn:=tnO x (.s false z xs.length (xs.map enc))++(tnB lo l++tnB ho hi),out:=some (.s false z r.length (r.map enc))}:=by
 simp only [Prod.mk.injEq] at hT
 intro ops o hop hg
 exact zRW h hg hop rfl (hx.f (fun y hy=>List.mem_append_left _ hy)) (hl.f (fun y hy=>List.mem_append_right _ (List.mem_append_left _ hy))) (hh.f (fun y hy=>List.mem_append_right _ (List.mem_append_right _ hy))) hT.1 hT.2
end
end Go.Im
namespace Go.Im
open Go
section
variable {Γ:Ctx}
theorem zRy {xs:List Int} (S Dd e:Nat) (x:Operand) (hx:OkO x (.s false 1 xs.length (xs.map eU8)):=by trivial) (hT:(Γ.P.underlying S,Γ.P.underlying e,Γ.P.underlying Dd)=(some (.slice e),some (.int .u8),some .string):=by kernel_rfl):
  OpV Γ (.convert S Dd x) {tn:=tnO x (.s false 1 xs.length (xs.map eU8)),out:=some (.sc (.string (b2s xs)))}:=by
 simp only [Prod.mk.injEq] at hT
 intro ops o hop hg
 exact zQT hg hop rfl (hx.f (fun y hy=>hy)) hT.1 hT.2.1 hT.2.2
theorem zQs {xs:List Int} (S Dd e t:Nat) (x:Operand) (hx:OkO x (.rf t 0 xs.length none):=by trivial) (hT:(Γ.P.underlying S,Γ.P.underlying e,Γ.P.underlying Dd)=(some (.slice e),some (.int .u8),some .string):=by kernel_rfl):
  OpV Γ (.convert S Dd x) {tn:=tnO x (.rf t 0 xs.length none),hn:=[(t,rE 1 eU8 xs)],out:=some (.sc (.string (b2s xs)))}:=by
 simp only [Prod.mk.injEq] at hT
 intro ops o hop hg
 exact zPR hg hop rfl (hx.f (fun y hy=>hy)) (.head _) hT.1 hT.2.1 hT.2.2
def zM5 (P:Program) (el:TypeId):Value:=(yT P (zeroValue el)).getD default
def zLC (P:Program) (el:TypeId):Option (Option Value×Nat×Nat):=(P.info? el).map (fun i=>(i.zero,i.size,i.bytes))
theorem zEQ {α:Type} {xs ys zs:List α} (T U el e' z bytes t td ts:Nat) (enc:α→List D) (x y:Operand) (h:app bytes xs ys=some zs) (hx:OkO x (.rf td 0 xs.length none):=by trivial) (hy:OkO y (.rf ts 0 ys.length none):=by trivial)
  (hone:∀a,(enc a).all zE1=true:=by intro _; rfl) (hT:(Γ.P.underlying T,Γ.P.underlying U,zLC Γ.P el,(zM5 Γ.P el).cells.size,Nat.ble Γ.m t,td==ts)=(some (.slice el),some (.slice e'),some (some (zM5 Γ.P el),z,bytes),z,true,false):=by kernel_rfl):
  OpV Γ (.call {callee:=.builtin .append,args:= #[x,y],argTypes:= #[T,U]}) {tn:=tnO x (.rf td 0 xs.length none)++tnO y (.rf ts 0 ys.length none),hn:=[(td,rE z enc xs),(ts,rE z enc ys)],out:=some (.rf t 0 zs.length none),hx:=[td,ts],hw:=[(t,rE z enc zs)],fr:=[t]}:=by
 simp only [Prod.mk.injEq] at hT
 obtain ⟨h1,h2,h3,h4,h5,h6⟩:=hT
 intro ops o hop hg
 exact zPP (enc:=enc) h (qB h5) (by simpa using h6) hone hg hop rfl (hx.f (fun y hy=>List.mem_append_left _ hy)) (hy.f (fun y hy=>List.mem_append_right _ hy)) (.head _) (.tail _ (.head _)) h1 h2 h3 h4
theorem zSN {α:Type} {ys zs:List α} (T U el e' z bytes t ts:Nat) (enc:α→List D) (x y:Operand) (h:app bytes [] ys=some zs) (hx:OkO x (.sc (.slice none 0 0)):=by first|trivial|rfl) (hy:OkO y (.rf ts 0 ys.length none):=by trivial)
  (hone:∀a,(enc a).all zE1=true:=by intro _; rfl) (hT:(Γ.P.underlying T,Γ.P.underlying U,zLC Γ.P el,(zM5 Γ.P el).cells.size,Nat.ble Γ.m t)=(some (.slice el),some (.slice e'),some (some (zM5 Γ.P el),z,bytes),z,true):=by kernel_rfl):
  OpV Γ (.call {callee:=.builtin .append,args:= #[x,y],argTypes:= #[T,U]}) {tn:=tnO x (.sc (.slice none 0 0))++tnO y (.rf ts 0 ys.length none),hn:=[(ts,rE z enc ys)],out:=some (.rf t 0 zs.length none),hx:=[ts],hw:=[(t,rE z enc zs)],fr:=[t]}:=by
 simp only [Prod.mk.injEq] at hT
 obtain ⟨h1,h2,h3,h4,h5⟩:=hT
 intro ops o hop hg
 exact zNG (enc:=enc) h (qB h5) hone hg hop rfl (hx.f (fun y hy=>List.mem_append_left _ hy)) (hy.f (fun y hy=>List.mem_append_right _ hy)) (.head _) h1 h2 h3 h4
theorem zQ9 {α:Type} {xs ys zs:List α} (T U el e' z bytes t td:Nat) (enc:α→List D) (x y:Operand) (h:app bytes xs ys=some zs) (hx:OkO x (.rf td 0 xs.length none):=by trivial) (hy:OkO y (.s false z ys.length (ys.map enc)):=by trivial)
  (hone:∀a,(enc a).all zE1=true:=by intro _; rfl) (hT:(Γ.P.underlying T,Γ.P.underlying U,zLC Γ.P el,(zM5 Γ.P el).cells.size,Nat.ble Γ.m t)=(some (.slice el),some (.slice e'),some (some (zM5 Γ.P el),z,bytes),z,true):=by kernel_rfl):
  OpV Γ (.call {callee:=.builtin .append,args:= #[x,y],argTypes:= #[T,U]}) {tn:=tnO x (.rf td 0 xs.length none)++tnO y (.s false z ys.length (ys.map enc)),hn:=[(td,rE z enc xs)],out:=some (.rf t 0 zs.length none),hx:=[td],hw:=[(t,rE z enc zs)],fr:=[t]}:=by
 simp only [Prod.mk.injEq] at hT
 obtain ⟨h1,h2,h3,h4,h5⟩:=hT
 intro ops o hop hg
 exact zNW (enc:=enc) h (qB h5) hone hg hop rfl (hx.f (fun y hy=>List.mem_append_left _ hy)) (hy.f (fun y hy=>List.mem_append_right _ hy)) (.head _) h1 h2 h3 h4
theorem zSg {α:Type} {zs:List α} {n:Int} (T el z bytes t:Nat) (enc:α→List D) (a:α) (x:Operand) (h:mk bytes n a=some zs) (he:Emb [] ((zM5 Γ.P el).cells.toList.map D.sc) (enc a) []) (hx:OkO x (.sc (.int .i64 n)):=by first|trivial|rfl)
  (hT:(Γ.P.underlying T,zLC Γ.P el,(zM5 Γ.P el).cells.size,(enc a).length,Nat.ble Γ.m t)=(some (.slice el),some (some (zM5 Γ.P el),z,bytes),z,z,true):=by kernel_rfl):
  OpV Γ (.makeSlice T x x) {tn:=tnO x (.sc (.int .i64 n)),out:=some (.rf t 0 zs.length none),hw:=[(t,rE z enc zs)],fr:=[t]}:=by
 simp only [Prod.mk.injEq] at hT
 obtain ⟨h1,h2,h3,h4,h5⟩:=hT
 intro ops o hop hg
 exact zOE (enc:=enc) h (qB h5) hg hop rfl (hx.f (fun y hy=>hy)) (hx.f (fun y hy=>hy)) h1 h2 h3 he h4
theorem zSm {α:Type} {xs:List α} {a b:α} {ix:Int} (T z t j:Nat) (enc:α→List D) (d:D) (x y:Operand) (h:idx xs ix=some a) (hb:enc b=(enc a).take j++cellsD d++(enc a).drop (j+(cellsD d).length))
  (hx:OkO x (.pt t ix.toNat j):=by trivial) (hy:OkO y d:=by first|trivial|rfl)
  (hT:((cellsD d).all D.cell,(cellsD d).all D.nest,zGk Γ.P T,Nat.ble (j+(cellsD d).length) z)=(true,true,some (cellsD d).length,true):=by kernel_rfl):
  zSH Γ (.store T x y) {tn:=tnO x (.pt t ix.toNat j)++tnO y d,hn:=[(t,rE z enc xs)],hx:=[t],hw:=[(t,rE z enc (xs.set ix.toNat b))]}:=by
 simp only [Prod.mk.injEq] at hT
 obtain ⟨h1,h2,h3,h4⟩:=hT
 intro ops o hop hg hds
 exact zMd (enc:=enc) (es':=cellsD d) (hm:=[]) (ts:=[]) h hg hop hds rfl (hx.f (fun y hy=>List.mem_append_left _ hy)) (hy.f (fun y hy=>List.mem_append_right _ hy)) hb h1 h3 (qB h4) (.head _) (Emb.zIz [] _ h2) (fun q hq=>by simp at hq)
def zQy (x:Operand) (d:D):D:=match x with
 | .tmp _=>d
 | .const v=>.sc v
 | .func f=>.fn f []
 | .global _=>.un
theorem OkO.of {x:Operand} {d:D} (hg:∀g,x≠ .global g) (h:zQy x d=d):OkO x d:=by
 cases x with
 |tmp t=>trivial
 |const v=>exact h.symm
 |func f=>exact h.symm
 |global g=>exact absurd rfl (hg g)
def zQx:Operand→Bool
 | .global _=>false
 |_=>true
def tnL:List Operand→List D→List (Nat×D)
 |x::xs,d::ds=>tnO x d++tnL xs ds
 |_,_=>[]
theorem zNC {c:Cert}:∀{xs:List Operand} {ds:List D},ds.length=xs.length→xs.all zQx=true→List.zipWith zQy xs ds=ds→(∀y∈tnL xs ds,y∈c.tn)→∀(k:Nat) (d:D),ds[k]? =some d→∃x,xs[k]? =some x∧OpF c x d
 |[],[],_,_,_,_,k,d,h=>by simp at h
 |x::xs,d0::ds,hl,hg,hz,hs,0,d,h=>by
  simp at h
  subst h
  simp only [List.zipWith_cons_cons,List.cons.injEq] at hz
  simp only [List.all_cons,Bool.and_eq_true] at hg
  refine ⟨x,rfl,(OkO.of (fun g e=>by subst e; simp [zQx] at hg) hz.1).f (fun y hy=>hs y (by simp [tnL,hy]))⟩
 |x::xs,d0::ds,hl,hg,hz,hs,k+1,d,h=>by
  simp only [List.zipWith_cons_cons,List.cons.injEq] at hz
  simp only [List.all_cons,Bool.and_eq_true] at hg
  obtain ⟨x',h1,h2⟩:=zNC (c:=c) (by simpa using hl) hg.2 hz.2 (fun y hy=>hs y (by simp [tnL,hy])) k d (by simpa using h)
  exact ⟨x',by simpa using h1,h2⟩
 |[],_::_,hl,_,_,_,_,_,_=>by simp at hl
 |_::_,[],hl,_,_,_,_,_,_=>by simp at hl
def zSr (P:Program) (el n z:Nat):Array Value:=if n*z=0 then #[] else (zM5 P el).cells
def zSl (P:Program) (el n z:Nat):List Value:=((Array.range (n*z)).map ((zSr P el n z)[· %(zSr P el n z).size]!)).toList
theorem zPl {α:Type} {ds:List D} {ts:List Nat} (T el z t:Nat) (enc:α→List D) (lst:List α) (js:List Nat) (xs:List Operand) (dl:List D) (hn:List (Nat×Ent)) (he:Emb hn ds (lst.map enc).flatten ts)
  (hT:(yT Γ.P (underlying T),zGk Γ.P el,yT Γ.P (zeroValue el),Nat.ble (lst.length*z) 1000,(zSl Γ.P el lst.length z).all Value.oneCell,Nat.ble Γ.m t)=(some (.slice el),some z,some (zM5 Γ.P el),true,true,true):=by kernel_rfl)
  (hD:(dl.length,js.length,xs.all zQx,List.zipWith zQy xs dl,dl.all (fun d=>(cellsD d).all D.cell),zJO (fun i=>some (i*z,z)) ((zSl Γ.P el lst.length z).map D.sc) (js.zip dl),(lst.map enc).all (fun e=>e.length==z))=(xs.length,xs.length,true,dl,true,some ds,true):=by kernel_rfl):
  OpV Γ (.buildSlice T lst.length (js.zip xs).toArray) {tn:=tnL xs dl,hn:=hn,out:=some (.rf t 0 lst.length none),hx:=ts,hw:=[(t,rE z enc lst)],fr:=[t]}:=by
 simp only [Prod.mk.injEq] at hT hD
 obtain ⟨h1,h2,h3,h4,h5,h6⟩:=hT
 obtain ⟨g1,g2,g3,g4,g5,g6,g7⟩:=hD
 intro ops o hop hg
 refine zPt (n:=lst.length) (zv:=zM5 Γ.P el) (zc:=zSr Γ.P el lst.length z) (dl:=js.zip dl) (ds:=ds) (xs:=lst.map enc) (ts:=ts) hg hop rfl (qB h6) h1 h2 (qB h4) h3 rfl h5 (by simp [g1,g2]) ?_ g6 (by simp) ?_ he
 ·intro k i d hk
  rw [List.getElem?_zip_eq_some] at hk
  obtain ⟨x,hx1,hx2⟩:=zNC (c:= {tn:=tnL xs dl,hn:=hn,out:=some (.rf t 0 lst.length none),hx:=ts,hw:=[(t,rE z enc lst)],fr:=[t]}) g1 g3 g4 (fun y hy=>hy) k d hk.2
  refine ⟨x,?_,hx2,List.all_eq_true.1 g5 d (List.mem_of_getElem? hk.2)⟩
  simp only [List.getElem?_toArray]
  exact List.getElem?_zip_eq_some.2 ⟨hk.1,hx1⟩
 ·intro e he'
  simpa using List.all_eq_true.1 g7 e he'
theorem vM {α:Type} (T el z t:Nat) (enc:α→List D) (lst:List α) (js:List Nat) (xs:List Operand) (dl:List D)
  (hT:(yT Γ.P (underlying T),zGk Γ.P el,yT Γ.P (zeroValue el),Nat.ble (lst.length*z) 1000,(zSl Γ.P el lst.length z).all Value.oneCell,Nat.ble Γ.m t)=(some (.slice el),some z,some (zM5 Γ.P el),true,true,true):=by kernel_rfl)
  (hD:(dl.length,js.length,xs.all zQx,List.zipWith zQy xs dl,dl.all (fun d=>(cellsD d).all D.cell),zJO (fun i=>some (i*z,z)) ((zSl Γ.P el lst.length z).map D.sc) (js.zip dl),(lst.map enc).all (fun e=>e.length==z),(lst.map enc).flatten.all D.nest)=(xs.length,xs.length,true,dl,true,some (lst.map enc).flatten,true,true):=by kernel_rfl):
  OpV Γ (.buildSlice T lst.length (js.zip xs).toArray) {tn:=tnL xs dl,hn:=[],out:=some (.rf t 0 lst.length none),hx:=[],hw:=[(t,rE z enc lst)],fr:=[t]}:=by
 simp only [Prod.mk.injEq] at hD
 obtain ⟨g1,g2,g3,g4,g5,g6,g7,g8⟩:=hD
 refine zPl T el z t enc lst js xs dl [] (Emb.zIz [] _ g8) hT ?_
 simp only [Prod.mk.injEq]
 exact ⟨g1,g2,g3,g4,g5,g6,g7⟩
theorem AmL.zK2 {hn:List (Nat×Ent)} {ids:List Nat} {bor:Bool}:∀{ds:List D},D.men.zER ds=[]→AmL hn ids bor ds ds
 |[],_=>.nil
 |d::ds,h=>by
  simp only [D.men.zER,List.append_eq_nil_iff] at h
  exact .cons (.same h.1) (AmL.zK2 h.2)
theorem zFJ {hn:List (Nat×Ent)} {ids:List Nat} {t z:Nat} {α:Type} {enc enc':α→List D} {xs:List α} (hm:(t,rE z enc xs)∈hn) (hr:∀a,D.ro.roC (enc a)=enc' a) (ht:ids.contains t=false):Am hn ids true (.rf t 0 xs.length none) (.s false z xs.length (xs.map enc')):=
 .bor hm (by simpa using ht) (by simp) (jG hr xs rfl rfl)
def D.nm1 (d:D):Bool:=d.free&&d.men.isEmpty
def D.nm2:D→Bool
 | .ag cs=>cs.all D.nm1
 |d=>d.nm1
def D.nm:D→Bool
 | .tu vs=>vs.all D.nm2
 |d=>d.nm2
theorem zMJ {d:D} (h:d.nm1=true):Nm d d []:=by
 simp only [D.nm1,Bool.and_eq_true,List.isEmpty_iff] at h
 exact .same h.2 h.1
theorem zKM {p:D→Bool} (hp:∀d,p d=true→Nm d d []):∀{cs:List D},cs.all p=true→NmL cs cs []
 |[],_=>.nil
 |d::cs,h=>by
  simp only [List.all_cons,Bool.and_eq_true] at h
  exact .cons (e1:=[]) (hp d h.1) (zKM hp h.2)
theorem zMK {d:D} (h:d.nm2=true):Nm d d []:=by
 cases d with
 |ag cs=>exact .ag (zKM (fun _=>zMJ) h)
 |_=>exact zMJ h
theorem zOp {d:D} (h:d.nm=true):Nm d d []:=by
 cases d with
 |tu cs=>exact .tu (zKM (fun _=>zMK) h)
 |_=>exact zMK h
theorem wV {v:Value}:(D.sc v).flat :=trivial
theorem zFY {z n:Nat} {xs:List (List D)} (h:zMl xs):(D.s true z n xs).flat :=⟨rfl,h⟩
theorem zMm {cs:List D} (h:zHd cs):(D.ag cs).flat :=h
theorem zIs:zHd []:=trivial
theorem fhN:zIg []:=trivial
theorem flatK {d:D} {ds:List D} (h1:d.flat) (h2:zHd ds):zHd (d::ds):=⟨h1,h2⟩
theorem zHH {α:Type} {enc:α→List D} (h:∀a,zHd (enc a)):∀(xs:List α),zMl (xs.map enc)
 |[]=>trivial
 |x::xs=>⟨h x,zHH h xs⟩
theorem yG {f:FuncId} {as:List D} {R:Type} {e:Option R} {g:R→D×List Ent} {r:R} (xs:List Operand) (tys:List Nat) (hok:Ok Γ.P f as [] (e.map g)) (h:e=some r) (hcf:∀vs,yT Γ.P (callFunc f vs)=some (.enter f vs):=by intro _; kernel_rfl)
  (hC:(as.length,xs.all zQx,List.zipWith zQy xs as,D.men.zER as,(g r).1.nm,(g r).2)=(xs.length,true,as,[],true,[]):=by kernel_rfl):
  OpV Γ (.call {callee:=.value (.func f),args:=xs.toArray,argTypes:=tys.toArray}) {tn:=tnL xs as,out:=some (g r).1}:=by
 simp only [Prod.mk.injEq] at hC
 obtain ⟨h1,h2,h3,h4,h5,h7⟩:=hC
 intro ops o hop hg
 exact zQj («as»:=as) (bor:=false) (ids:=[]) (hin:=[]) (hout:=[]) (news:=[]) hg hop hcf (by simpa using h1) (fun k d hk=>by
  obtain ⟨x,q1,q2⟩:=zNC (c:= {tn:=tnL xs as,out:=some (g r).1}) h1 h2 h3 (fun y hy=>hy) k d hk
  exact ⟨x,by simpa using q1,q2⟩) (AmL.zK2 h4) (by simp) rfl (by simp) (by simp) hok (by rw [h,Option.map_some,←h7]) (by simp) (zOp h5) (by simp) rfl (by simp) (by simp)
theorem zSz {f:FuncId} {as caps:List D} {R:Type} {e:Option R} {g:R→D×List Ent} {r:R} (t0:Nat) (xs:List Operand) (tys:List Nat) (hok:Ok Γ.P f (as++caps) [] (e.map g)) (h:e=some r) (hcf:∀vs,yT Γ.P (callFunc f vs)=some (.enter f vs):=by intro _; kernel_rfl)
  (hC:(as.length,xs.all zQx,List.zipWith zQy xs as,D.men.zER (as++caps),(g r).1.nm,(g r).2)=(xs.length,true,as,[],true,[]):=by kernel_rfl):
  OpV Γ (.call {callee:=.value (.tmp t0),args:=xs.toArray,argTypes:=tys.toArray}) {tn:=(t0,.fn f caps)::tnL xs as,out:=some (g r).1}:=by
 simp only [Prod.mk.injEq] at hC
 obtain ⟨h1,h2,h3,h4,h5,h7⟩:=hC
 intro ops o hop hg
 exact zO4 («as»:=as) (caps:=caps) (bor:=false) (ids:=[]) (hin:=[]) (hout:=[]) (news:=[]) hg hop (show (t0,D.fn f caps)∈(t0,D.fn f caps)::tnL xs as from .head _) hcf (by simpa using h1) (fun k d hk=>by
  obtain ⟨x,q1,q2⟩:=zNC (c:= {tn:=(t0,.fn f caps)::tnL xs as,out:=some (g r).1}) h1 h2 h3 (fun y hy=>List.mem_cons_of_mem _ hy) k d hk
  exact ⟨x,by simpa using q1,q2⟩) (AmL.zK2 h4) (by simp) rfl (by simp) (by simp) hok (by rw [h,Option.map_some,←h7]) (by simp) (zOp h5) (by simp) rfl (by simp) (by simp)
theorem xH {f:FuncId} {as ds:List D} {R:Type} {e:Option R} {g:R→D×List Ent} {r:R} {d:D} {hin:List Ent} {news:List (Nat×Ent)} (xs:List Operand) (tys:List Nat) (bor:Bool) (hn:List (Nat×Ent)) (ids:List Nat) (ham:AmL hn ids bor as ds)
  (hok:Ok Γ.P f ds hin (e.map g)) (h:e=some r) (hnm:Nm (g r).1 d news) (hbor:bor=true→zIg (g r).2∧(g r).1.flat :=by simp)
  (hcf:∀vs,yT Γ.P (callFunc f vs)=some (.enter f vs):=by intro _; kernel_rfl)
  (hC:(as.length,xs.all zQx,List.zipWith zQy xs as,zEW ids,hin.length,Nat.ble (g r).2.length hin.length,(ids.zip hin).map (fun x=>lk hn x.1),(hin++(g r).2).flatMap Ent.men,zEW (news.map (·.1)),news.all (fun x=>Nat.ble Γ.m x.1))=
   (xs.length,true,as,true,ids.length,true,(ids.zip hin).map (fun x=>some x.2),[],true,true):=by kernel_rfl):
  OpV Γ (.call {callee:=.value (.func f),args:=xs.toArray,argTypes:=tys.toArray}) {tn:=tnL xs as,hn:=hn,out:=some d,hx:=ids,hw:=ids.zip (g r).2++news,fr:=news.map (·.1)}:=by
 simp only [Prod.mk.injEq] at hC
 obtain ⟨h1,h2,h3,h4,h5,h6,h7,h8,h9,h10⟩:=hC
 intro ops o hop hg
 exact zQj («as»:=as) (bor:=bor) (ids:=ids) (hin:=hin) (hout:=(g r).2) (news:=news) hg hop hcf (by simpa using h1) (fun k d' hk=>by
  obtain ⟨x,q1,q2⟩:=zNC (c:= {tn:=tnL xs as,hn:=hn,out:=some d,hx:=ids,hw:=ids.zip (g r).2++news,fr:=news.map (·.1)}) h1 h2 h3 (fun y hy=>hy) k d' hk
  exact ⟨x,by simpa using q1,q2⟩) ham (zBE h4) h5 (zEv h7) (zQn h8) hok (by rw [h,Option.map_some]) (qB h6) hnm (zBE h9) rfl (zQ2 h10) hbor
theorem zPB {f:FuncId} {ds:List D} {R:Type} {e:Option R} {g:R→D×List Ent} {r:R} {d:D} {hin:List Ent} {news:List (Nat×Ent)} (t0:Nat) (xs:List Operand) (tys:List Nat) (bor:Bool) (hn:List (Nat×Ent)) (ids:List Nat) (as:List D) (caps:List D) (ham:AmL hn ids bor (as++caps) ds)
  (hok:Ok Γ.P f ds hin (e.map g)) (h:e=some r) (hnm:Nm (g r).1 d news) (hbor:bor=true→zIg (g r).2∧(g r).1.flat :=by simp)
  (hcf:∀vs,yT Γ.P (callFunc f vs)=some (.enter f vs):=by intro _; kernel_rfl)
  (hC:(as.length,xs.all zQx,List.zipWith zQy xs as,zEW ids,hin.length,Nat.ble (g r).2.length hin.length,(ids.zip hin).map (fun x=>lk hn x.1),(hin++(g r).2).flatMap Ent.men,zEW (news.map (·.1)),news.all (fun x=>Nat.ble Γ.m x.1))=
   (xs.length,true,as,true,ids.length,true,(ids.zip hin).map (fun x=>some x.2),[],true,true):=by kernel_rfl):
  OpV Γ (.call {callee:=.value (.tmp t0),args:=xs.toArray,argTypes:=tys.toArray}) {tn:=(t0,.fn f caps)::tnL xs as,hn:=hn,out:=some d,hx:=ids,hw:=ids.zip (g r).2++news,fr:=news.map (·.1)}:=by
 simp only [Prod.mk.injEq] at hC
 obtain ⟨h1,h2,h3,h4,h5,h6,h7,h8,h9,h10⟩:=hC
 intro ops o hop hg
 exact zO4 («as»:=as) (caps:=caps) (bor:=bor) (ids:=ids) (hin:=hin) (hout:=(g r).2) (news:=news) hg hop (show (t0,D.fn f caps)∈(t0,D.fn f caps)::tnL xs as from .head _) hcf (by simpa using h1) (fun k d' hk=>by
  obtain ⟨x,q1,q2⟩:=zNC (c:= {tn:=(t0,.fn f caps)::tnL xs as,hn:=hn,out:=some d,hx:=ids,hw:=ids.zip (g r).2++news,fr:=news.map (·.1)}) h1 h2 h3 (fun y hy=>List.mem_cons_of_mem _ hy) k d' hk
  exact ⟨x,by simpa using q1,q2⟩) ham (zBE h4) h5 (zEv h7) (zQn h8) hok (by rw [h,Option.map_some]) (qB h6) hnm (zBE h9) rfl (zQ2 h10) hbor
theorem zH7 {op:Op} {tn:List (Nat×D)} {hn:List (Nat×Ent)} {d:D} {hx:List Nat} {hw:List (Nat×Ent)} {fr:List Nat} (A B:List (Nat×Ent)) (hv:OpV Γ op {tn:=tn,hn:=hn,out:=some d,hx:=hx,hw:=hw,fr:=fr})
  (hC:(A.map (fun x=>lk hn x.1),hx,hw,fr,zEW (B.map (·.1)))=(A.map (fun x=>some x.2),A.map (·.1),A++B,B.map (·.1),true):=by kernel_rfl):OpV Γ op {tn:=tn,hn:=hn,out:=some d,hx:=[],hw:=B,fr:=fr}:=by
 simp only [Prod.mk.injEq] at hC
 obtain ⟨h1,h2,h3,h4,h5⟩:=hC
 intro ops o hop hg
 exact zPO A B (zEv h1) h2 h3 h4 (zBE h5) (hv ops o hop hg)
end
end Go.Im
namespace Go.Im
open Go
structure Wd where
 w0:World
 N0:Nat→Prop
 O0:List Nat
 β0:Nat→Loc
def Wd.g (q:Wd) (P:Program) (f m nt:Nat):Ctx:=⟨P,f,q.w0,q.N0,q.O0,m,q.β0,nt⟩
theorem zJ {P:Program} {f:FuncId} {args:List D} {hin:List Ent} {T:Type} {e:Option T} {g:T→D×List Ent} (fc:Code) (fn:Func) (m nt:Nat)
  (h:∀(q:Wd),J (q.g P f m nt) fc [.c 1] ⟨args.zipIdx.map (fun x=>(x.2,x.1)),zFC hin,D.men.zER args++zIp (zFC hin)⟩ e (fun r=>some (g r)))
  (hf:(P.funcs[f]?,fn.body,fn.ntmps,Nat.ble args.length nt,hin.length)=(some fn,some fc,nt,true,m):=by kernel_rfl):Ok P f args hin (e.map g):=by
 simp only [Prod.mk.injEq] at hf
 obtain ⟨h1,h2,h3,h4,h5⟩:=hf
 subst h5
 exact zRO h1 h2 h3 (qB h4) (fun w0 N0 O0 β0=>h ⟨w0,N0,O0,β0⟩)
section
variable {Γ:Ctx} {fc:Code} {k:List II} {σ:St} {T:Type} {K:T→Option (D×List Ent)}
theorem zG {b:Bool} {x y:Option T} (t:Nat) (h1:b=true→J Γ fc k ⟨(t,.sc (.bool true))::σ.tm,σ.hp,σ.us⟩ x K) (h2:b=false→J Γ fc k ⟨(t,.sc (.bool false))::σ.tm,σ.hp,σ.us⟩ y K) (hl:lk σ.tm t=some (.sc (.bool b)):=by kernel_rfl):
 J Γ fc k σ (if b then x else y) K:=zTj t hl h1 h2
variable {p:Nat}
theorem yO {rest:List (Nat×Cert)} {b b':Bool} (i:Nat) (tm:List (Nat×D)) (hp:List (Nat×Ent)) (hb:b=b') (hr:zJH Γ fc p rest)
  (h:(opAt fc p i).map (fun o=>(o.guard,ac0 Γ.P none o ⟨tm,hp,[]⟩))=some (none,some {tn:=tm,hn:=hp,out:=some (.sc (.bool b))}):=by kernel_rfl):
  zJH Γ fc p ((i,{tn:=tm,hn:=hp,out:=some (.sc (.bool b'))})::rest):=
 ⟨zTi (id:=none) tm hp _ h rfl (by rw [hb]),hr⟩
theorem zH6 {rest:List (Nat×Cert)} {b b':Bool} (i g t:Nat) (bg:Bool) (tm:List (Nat×D)) (hp:List (Nat×Ent)) (hb:b=b') (hr:zJH Γ fc p rest)
  (h:((opAt fc p i).map (fun o=>(o.guard,ac0 Γ.P none {o with guard:=none} ⟨tm,hp,[]⟩)),zLl fc p g)=(some (some (g,bg),some {tn:=tm,hn:=hp,out:=some (.sc (.bool b))}),some t):=by kernel_rfl):
  zJH Γ fc p ((i,{tn:=(t,.sc (.bool bg))::tm,hn:=hp,out:=some (.sc (.bool b'))})::rest):=by
 simp only [Prod.mk.injEq] at h
 exact ⟨zSG (id:=none) tm hp _ h.1 h.2 rfl (by rw [hb]),hr⟩
end
end Go.Im
namespace Go.Im
open Go
def zQ6 {A R:Type} (b:(A→Option R)→A→Option R):Nat→A→Option R
 |0,_=>none
 |n+1,x=>b (zQ6 b n) x
theorem zQF {P:Program} {f:FuncId} {args:List D} {hin:List Ent} {T:Type} {g:T→D×List Ent}:Ok P f args hin ((none:Option T).map g):=fun _ h=>by cases h
theorem zHi {β:Nat→Loc} {N:Nat→Prop} {w:World}:∀{vs us:List Value} {bs:List Nat},zK β N w true (vs.map D.sc) us bs→us=vs∧bs=[]
 |[],us,bs,h=>by simpa [zK] using h
 |v::vs,us,bs,h=>by
  simp only [List.map_cons,zK] at h
  obtain ⟨u,us',b1,b2,rfl,rfl,h3,h4⟩:=h
  simp only [Rep] at h3
  obtain ⟨rfl,rfl⟩:=h3
  obtain ⟨rfl,rfl⟩:=zHi h4
  exact ⟨rfl,rfl⟩
theorem zSE {P:Program} {f:FuncId} {vs:List Value} {v:Value} (h:∀w,Calls P f vs.toArray w fun e w'=>e= .returned v∧w'=w):Ok P f (vs.map D.sc) [] (some (.sc v,[])):=by
 intro out ho w N β us bs ha hh hnd hlt hN _
 cases ho
 obtain ⟨rfl,_⟩:=zHi ha
 refine (h w).mono ?_
 rintro e w' ⟨rfl,rfl⟩
 exact ⟨v,[],[],rfl,⟨rfl,rfl⟩,Nat.le_refl _,fun _ _ _=>rfl,by simp,by simp,by simp [Rep],rfl⟩
def zS6 (a b:ByteArray):Int:=Lib.compareBytes a.data.toList b.data.toList
end Go.Im
namespace Go.Im
open Go
theorem zZ.cut {β:Nat→Loc} {N:Nat→Prop} {w:World} {z:Nat}:∀{xs:List (List D)} {ws:List Value} {bs:List Nat} (k:Nat),zZ β N w xs ws bs→(∀x∈xs,x.length=z)→
  ∃b1 b2,bs=b1++b2∧zZ β N w (xs.take k) (ws.take (k*z)) b1∧zZ β N w (xs.drop k) (ws.drop (k*z)) b2
 |xs,ws,bs,0,h,hz=>⟨[],bs,rfl,by simp [zZ],by simpa using h⟩
 |[],ws,bs,k+1,h,hz=>by
  simp only [zZ] at h
  rw [h.1,h.2]
  exact ⟨[],[],rfl,by simp [zZ],by simp [zZ]⟩
 |x::xs,ws,bs,k+1,h,hz=>by
  simp only [zZ] at h
  obtain ⟨w1,w2,b1,b2,rfl,rfl,h3,h4⟩:=h
  have hl:=h3.length
  rw [hz x (by simp)] at hl
  obtain ⟨c1,c2,rfl,h5,h6⟩:=zZ.cut k h4 (fun y hy=>hz y (by simp [hy]))
  have e1:(w1++w2).drop ((k+1)*z)=w2.drop (k*z):=by
   rw [Nat.add_mul,Nat.one_mul,List.drop_append,List.drop_of_length_le (by omega),List.nil_append]; congr 1; omega
  have e2:(w1++w2).take ((k+1)*z)=w1++w2.take (k*z):=by
   rw [Nat.add_mul,Nat.one_mul,List.take_append,List.take_of_length_le (by omega)]; congr 2; omega
  rw [e1,e2]
  refine ⟨b1++c1,c2,by simp,?_,by simpa using h6⟩
  simp only [List.take_succ_cons,zZ]
  exact ⟨w1,_,b1,c1,rfl,rfl,h3,h5⟩
section
variable {Γ:Ctx} {ops:Array Oper} {o:Oper}
theorem zSJ {c:Cert} {x:Operand} {T el:TypeId} {lo hi:Option Operand} {z n l h t t':Nat} {xs:List (List D)} (hg:o.guard=none) (hop:o.op= .slice T x lo hi none)
  (hc:c= {tn:=c.tn,hn:=c.hn,out:=some (.rf t' 0 (h-l) none),hx:=[t],hw:=[(t',.row z ((xs.drop l).take (h-l)))],fr:=[t']}) (hm:Γ.m≤t') (hx:OpF c x (.rf t 0 n none)) (hT:yT Γ.P (underlying T)=some (.slice el)) (hz:zGk Γ.P el=some z)
  (hl:zLF c lo 0 l) (hh:zLF c hi n h) (h1:l≤h) (h2:h≤n) (hnn:n=xs.length) (hh':(t,.row z xs)∈c.hn):Valid Γ ops o c:=by
 intro σ a w Q hdst hn ⟨h0,β,bs,hr⟩
 have hwt:Region.wanted o (yielded ops a.tmps)=true:=by simp [Region.wanted,hg]
 rw [if_pos hwt]
 have hfr:t'∉σ.us:=hn.2.2 t' (by rw [hc]; simp)
 have h3:=OpF.rep hx hn hr
 obtain ⟨b1,b2,hp,⟨hLz,hzz,hrow⟩,hrest⟩:=vS.take hr.hp hr.keys (hn.2.1 _ hh')
 have hne:∀k,k∈σ.us→k≠t':=fun k hk e=>hfr (e▸hk)
 have hkm:∀k,k<Γ.m→k≠t':=fun k hk e=>by omega
 simp only [Rep] at h3
 obtain ⟨_,_,h3⟩:=h3
 have hfilt:σ.hp.filter (fun x=> !c.hx.contains x.1)=σ.hp.filter (fun x=>x.1 !=t):=by
  rw [hc]; congr 1; funext x; by_cases hx:x.1=t<;>simp [hx]
 have hrun:∀ad len cp,a.eval x= .slice ad len cp→n=len→n≤cp→(execOp a.eval o).run Γ.P w= .ok (.value (.slice (if cp=l then ad else ad.map (·.add (l*z))) (h-l) (cp-l))) w:=by
  intro ad len cp he hlen hcp
  subst hlen
  refine zFo (s:=Instr.sliceAt T (a.eval x) (lo.map a.eval) (hi.map a.eval) none) (by simp [execOp,hop]) ?_
  rw [he]
  exact zEp hn hr hT hz hl hh h1 (by omega)
 rcases hrow with ⟨hnil,hxs,hb1⟩|⟨hnil,ws,hO,hE⟩
 ·subst hxs
  subst hb1
  simp at hnn
  have hl0:l=0:=by omega
  have hh0:h=0:=by omega
  subst hl0 hh0 hnn
  have hv:a.eval x= .slice none 0 0:=by
   rcases h3 with ⟨_,_,_,h3⟩|⟨h3,_⟩
   ·exact h3
   ·rw [hnil] at h3; cases h3
  have hown:(β t).own =[]:=by simp [Loc.own,hnil]
  rw [hown] at hp
  unfold Oper.wp
  rw [hrun _ _ _ hv rfl (Nat.le_refl _),Oper.upon_value]
  refine Rel.step (β1:=zG0 β t' ⟨true,0,0,z,0⟩) (bk:=b2) (br:=[]) (bn:=[]) h0 hr hdst (by rw [hc]; simp) (by rw [hc]; simpa using .inr hfr) (by simpa using hp) (by rw [hfilt]; exact hrest) (Nat.le_refl _) (fun _ _ _=>rfl)
   (fun k hk=>by simp [zG0,hne k hk]) (fun k hk=>by simp [zG0,hkm k hk]) (by simp) (by simp) ?_ ?_ ⟨rfl,rfl⟩
  ·rw [hc]
   refine ⟨[],[],?_,?_,rfl⟩
   ·simp [zG0,Loc.own]
   ·simp [zG0,zBR]
  ·intro d hd
   rw [hc] at hd
   cases hd
   simp [Rep,zG0]
 ·have hv:∃c',a.eval x= .slice (some ⟨(β t).b,(β t).o,none⟩) n c'∧n≤c'∧c'*z≤(β t).r :=by
   rcases h3 with ⟨h3,_⟩|⟨_,c',h3,h4,h5,_⟩
   ·rw [hnil] at h3; cases h3
   ·exact ⟨c',by simpa using h3,h4,by rw [←hLz]; simpa using h5⟩
  obtain ⟨cp,hv,hcp,hroom⟩:=hv
  have hown:(β t).own =[(β t).b]:=by simp [Loc.own,hnil]
  rw [hown] at hp
  have hws:=hE.length hzz
  obtain ⟨d1,d2,e1,hs1,hs2⟩:=hE.cut l hzz
  obtain ⟨d3,d4,e2,hs3,hs4⟩:=hs2.cut (h-l) (fun y hy=>hzz y (List.mem_of_mem_drop hy))
  have hp2:bs.Perm (((β t).b ::b1)++b2):=by simpa using hp
  have hnd:=hp2.nodup_iff.1 hr.nodup
  have hsub:∀b∈d3,b∈b1:=fun b hb=>by rw [e1,e2]; simp [hb]
  have hndn:((β t).b ::d3).Nodup :=by
   have q:=(List.nodup_append.1 hnd).1
   rw [e1,e2] at q
   refine List.Nodup.sublist ?_ q
   refine List.Sublist.cons_cons _ ?_
   exact (List.sublist_append_left d3 d4).trans (List.sublist_append_right _ _)
  unfold Oper.wp
  rw [hrun _ _ _ hv rfl hcp,Oper.upon_value]
  have hNS:∀b,NS Γ w bs b→NS Γ w ((β t).b ::d3++b2) b∧w.heap[b]? =w.heap[b]? :=by
   rintro b ⟨u1,u2,u3⟩
   refine ⟨⟨u1,u2,fun hb=>u3 (hp2.mem_iff.2 ?_)⟩,rfl⟩
   simp only [List.cons_append,qK,qJ] at hb ⊢
   rcases hb with rfl|hb|hb
   ·exact .inl rfl
   ·exact .inr (.inl (hsub b hb))
   ·exact .inr (.inr hb)
  refine Rel.step (β1:=zG0 β t' ⟨false,(β t).b,if cp=l then (β t).o else (β t).o +l*z,z,(cp-l)*z⟩) (bk:=b2) (br:=(β t).b ::b1) (bn:=(β t).b ::d3) h0 hr hdst (by rw [hc]; simp) (by rw [hc]; simpa using .inr hfr) hp2 (by rw [hfilt]; exact hrest) (Nat.le_refl _) (fun _ _ _=>rfl)
   (fun k hk=>by simp [zG0,hne k hk]) (fun k hk=>by simp [zG0,hkm k hk]) hndn ?_ ?_ ?_ ⟨rfl,rfl⟩
  ·intro b hb
   have:b∈(β t).b ::b1:=by
    rcases List.mem_cons.1 hb with rfl|hb
    ·simp
    ·exact List.mem_cons_of_mem _ (hsub b hb)
   exact ⟨.inl this,(hr.own b (hp2.mem_iff.2 (List.mem_append_left _ this))).1⟩
  ·rw [hc]
   refine ⟨d3,[],by simp [zG0,Loc.own],⟨by simp [zG0],fun y hy=>hzz y (List.mem_of_mem_drop (List.mem_of_mem_take hy)),.inr ⟨by simp [zG0],(ws.drop (l*z)).take ((h-l)*z),?_,?_⟩⟩,rfl⟩
   ·simp only [xI]
    obtain ⟨arr,e,lo',hi',u1,u2,u3,u4⟩:=hO
    have hmul:(cp-l)*z=cp*z-l*z:=Nat.sub_mul _ _ _
    have hlc:l*z≤cp*z:=Nat.mul_le_mul_right _ (by omega)
    refine ⟨arr,e,lo',hi',u1,u2,?_,?_⟩
    ·split
     ·rename_i hcl; rw [hcl]; simp; omega
     ·omega
    ·intro k hk
     simp only [List.length_take,List.length_drop] at hk
     have hkl:k<ws.length-l*z:=by omega
     have hcl:cp≠l:=by
      intro e; subst e
      have:ws.length=cp*z:=by rw [hws,←hnn]; congr 1; omega
      omega
     rw [if_neg hcl]
     have:=u4 (l*z+k) (by omega)
     rw [Nat.add_assoc,this]
     simp
   ·refine zZ.frame (β':=zG0 β t' ⟨false,(β t).b,if cp=l then (β t).o else (β t).o +l*z,z,(cp-l)*z⟩) hNS _ _ _ (fun _ _=>rfl) hs3
  ·intro d hd
   rw [hc] at hd
   cases hd
   simp only [Rep,xI]
   refine ⟨trivial,trivial,.inr ⟨trivial,cp-l,?_,by omega,by simp,by simp⟩⟩
   simp only [Nat.zero_mul,Nat.add_zero]
   split
   ·rfl
   ·simp [zE3]
end
end Go.Im
namespace Go.Im
open Go
section
variable {Γ:Ctx} {ops:Array Oper} {o:Oper}
theorem zMc {c:Cert} {x:Operand} {T el:TypeId} {lo hi:Option Operand} {z n l h t:Nat} {xs:List (List D)} (hg:o.guard=none) (hop:o.op= .slice T x lo hi none)
  (hc:c= {tn:=c.tn,hn:=c.hn,out:=some (.sub t l (h-l))}) (hx:OpF c x (.rf t 0 n none)) (hT:yT Γ.P (underlying T)=some (.slice el)) (hz:zGk Γ.P el=some z)
  (hl:zLF c lo 0 l) (hh:zLF c hi n h) (h1:l≤h) (h2:h≤n) (hh':(t,.row z xs)∈c.hn):Valid Γ ops o c:=by
 refine tV (d:=.sub t l (h-l)) (f:=fun ρ=>Instr.sliceAt T (ρ x) (lo.map ρ) (hi.map ρ) none) hg (fun ρ=>by simp [execOp,hop]) (by rw [hc]) fun β bs σ a w hn hr=>?_
 have h3:=OpF.rep hx hn hr
 obtain ⟨_,⟨hLz,_⟩,_⟩:=vS.get hr.hp (hn.2.1 _ hh')
 simp only [Rep] at h3
 obtain ⟨_,_,⟨_,_,rfl,hv⟩|⟨hnil,cp,hv,hcap,hroom,_⟩⟩:=h3
 ·rw [hv]
  refine ⟨_,zEp hn hr hT hz hl hh h1 (by omega),?_⟩
  simp only [Rep]
  exact ⟨trivial,trivial,_,_,rfl,by omega,.inl (by omega)⟩
 ·rw [hv]
  refine ⟨_,zEp hn hr hT hz hl hh h1 (by omega),?_⟩
  simp only [Rep]
  refine ⟨trivial,trivial,_,_,rfl,by omega,?_⟩
  by_cases h0:h-l=0
  ·exact .inl h0
  ·refine .inr ⟨hnil,?_,?_⟩
   ·rw [if_neg (by omega)]
    simp [zE3,hLz]
   ·refine Nat.le_trans (Nat.mul_le_mul_right _ ?_) hroom
    omega
end
end Go.Im
namespace Go.Im
open Go
theorem zHA {α:Type} {xs r:List α} {l h:Int} (hh:zGp xs l h=some r):0≤l∧l≤h∧h≤xs.length∧r=(xs.drop l.toNat).take (h.toNat-l.toNat)∧r.length=h.toNat-l.toNat:=by
 unfold zGp at hh
 split at hh
 ·rename_i q
  cases hh
  exact ⟨q.1,q.2.1,q.2.2,rfl,by simp; omega⟩
 ·cases hh
section
variable {Γ:Ctx}
theorem zPL {α:Type} {xs r:List α} {l hi:Int} (T el z t:Nat) (enc:α→List D) (x:Operand) (lo ho:Option Operand) (h:zGp xs l hi=some r) (hx:OkO x (.rf t 0 xs.length none):=by trivial) (hl:OkB lo (0:Nat) l:=by first|trivial|rfl) (hh:OkB ho xs.length hi:=by first|trivial|rfl)
  (hT:(yT Γ.P (underlying T),zGk Γ.P el)=(some (.slice el),some z):=by kernel_rfl):
  OpV Γ (.slice T x lo ho none) {tn:=tnO x (.rf t 0 xs.length none)++(tnB lo l++tnB ho hi),hn:=[(t,rE z enc xs)],out:=some (.sub t l.toNat r.length)}:=by
 simp only [Prod.mk.injEq] at hT
 obtain ⟨h1,h2,h3,h4,h5⟩:=zHA h
 intro ops o hop hg
 rw [h5]
 exact zMc (n:=xs.length) (xs:=xs.map enc) (z:=z) hg hop rfl (hx.f (fun y hy=>List.mem_append_left _ hy)) hT.1 hT.2 ((hl.f (fun y hy=>List.mem_append_right _ (List.mem_append_left _ hy))).f h1)
  ((hh.f (fun y hy=>List.mem_append_right _ (List.mem_append_right _ hy))).f (by omega)) (by omega) (by omega) (.head _)
theorem zQK {α:Type} {xs r:List α} {l hi:Int} (T el z t t':Nat) (enc:α→List D) (x:Operand) (lo ho:Option Operand) (h:zGp xs l hi=some r) (hx:OkO x (.rf t 0 xs.length none):=by trivial) (hl:OkB lo (0:Nat) l:=by first|trivial|rfl) (hh:OkB ho xs.length hi:=by first|trivial|rfl)
  (hT:(yT Γ.P (underlying T),zGk Γ.P el,Nat.ble Γ.m t')=(some (.slice el),some z,true):=by kernel_rfl):
  OpV Γ (.slice T x lo ho none) {tn:=tnO x (.rf t 0 xs.length none)++(tnB lo l++tnB ho hi),hn:=[(t,rE z enc xs)],out:=some (.rf t' 0 r.length none),hx:=[t],hw:=[(t',rE z enc r)],fr:=[t']}:=by
 simp only [Prod.mk.injEq] at hT
 obtain ⟨h1,h2,h3,h4,h5⟩:=zHA h
 intro ops o hop hg
 have e:rE z enc r= .row z (((xs.map enc).drop l.toNat).take (hi.toNat-l.toNat)):=by
  rw [h4,rE,List.map_take,List.map_drop]
 rw [e,h5]
 exact zSJ (n:=xs.length) (xs:=xs.map enc) (z:=z) hg hop rfl (qB hT.2.2) (hx.f (fun y hy=>List.mem_append_left _ hy)) hT.1 hT.2.1 ((hl.f (fun y hy=>List.mem_append_right _ (List.mem_append_left _ hy))).f h1)
  ((hh.f (fun y hy=>List.mem_append_right _ (List.mem_append_right _ hy))).f (by omega)) (by omega) (by omega) (by simp) (.head _)
end
end Go.Im
namespace Go.Im
open Go
def mkV (P:Program) (t:TypeId) (xs:List Value):Option Value:=match zGE P t with
 |some true=>some (.agg xs.toArray)
 |some false=>xs.head?
 |none=>none
def zSq (P:Program) (g:TypeId→List Value→List Value→Option Bool) (xs ys:List Value):List Field→Option Bool
 |[]=>some true
 |f::fs=>if f.name= "_" then none else match zGk P f.type with
  |some z=>match g f.type ((xs.drop f.offset).take z) ((ys.drop f.offset).take z),zSq P g xs ys fs with
   |some a,some r=>some (a&&r)
   |_,_=>none
  |none=>none
def eqT (P:Program):Nat→TypeId→List Value→List Value→Option Bool
 |0,_,_,_=>none
 |d+1,t,xs,ys=>match P.underlying t with
  |some (.struct fs)=>if P.stoodInHeld t=false∧zGE P t=some true then zSq P (eqT P d) xs ys fs.toList else none
   |some (.int _)=>match zGE P t,xs,ys with
   |some false,.int k1 a::_,.int k2 b::_=>if k1=k2 then some (a==b) else none
   |_,_,_=>none
  |some .bool =>match zGE P t,xs,ys with
   |some false,.bool a::_,.bool b::_=>some (a==b)
   |_,_,_=>none
  |some .string =>match zGE P t,xs,ys with
   |some false,.string a::_,.string b::_=>some (a.toList==b.toList)
   |_,_,_=>none
  |_=>none
theorem zQe {P:Program} {w:World} {t:TypeId} {cs:List Value} {off z:Nat} {v:Value} (hz:zGk P t=some z) (hz0:zGE P t=some false→0<z) (h:mkV P t ((cs.drop off).take z)=some v):(part t cs.toArray off).run P w= .ok v w:=by
 unfold mkV at h
 unfold part
 split at h
 ·rename_i ha
  cases h
  rw [run_bind_ok (zS _ _ w ha)]
  simp only [if_true]
  rw [run_bind_ok (zS _ _ w hz)]
  have:(cs.toArray.extract off (off+z))=((cs.drop off).take z).toArray :=by
   apply Array.ext'
   simp [List.take_drop]
  rw [this]
  rfl
 ·rename_i ha
  rw [run_bind_ok (zS _ _ w ha)]
  simp only [qD,if_false]
  have:cs.toArray[off]? =some v:=by
   rw [List.head?_take,if_neg (by have:=hz0 ha; omega),List.head?_drop] at h
   simpa using h
  rw [this]
  rfl
 ·cases h
theorem zO9 {P:Program}:∀(d k:Nat) (t:TypeId) (xs ys:List Value) (vx vy:Value) (r:Bool) (w:World),eqT P d t xs ys=some r→mkV P t xs=some vx→mkV P t ys=some vy→(Op.equalIn (d+k) t vx vy).run P w= .ok r w
 |0,k,t,xs,ys,vx,vy,r,w,h,_,_=>by simp [eqT] at h
 |d+1,k,t,xs,ys,vx,vy,r,w,h,hx,hy=>by
  rw [show d+1+k=(d+k)+1 by omega]
  unfold eqT at h
  unfold mkV at hx hy
  split at h
  ·rename_i fs hfs
   split at h
   ·rename_i hc
    rw [hc.2] at hx hy
    cases hx
    cases hy
    have hff:P.fieldsOf t=fs:=by unfold Program.fieldsOf; rw [hfs]
    rw [run_equalIn_struct w (d+k) t _ _ (by rw [hff]; exact hfs) hc.1,hff]
    have key:∀(l:List Field) (r:Bool),zSq P (eqT P d) xs ys l=some r→(Op.eqFields (d+k) xs.toArray ys.toArray l).run P w= .ok r w:=by
     intro l
     induction l with
     |nil=>intro r h; cases h; rfl
     |cons f l ih=>
      intro r h
      unfold zSq at h
      split at h
      ·cases h
      ·rename_i hnm
       split at h
       ·rename_i z hz
        split at h
        ·rename_i a q ha hq
         cases h
         have hmk:∀(cs:List Value),(∃a l',(cs.drop f.offset).take z=a::l')∨zGE P f.type=some true→zGE P f.type≠none→∃v,mkV P f.type ((cs.drop f.offset).take z)=some v∧(part f.type cs.toArray f.offset).run P w= .ok v w:=by
          intro cs hcs hne
          have:∃v,mkV P f.type ((cs.drop f.offset).take z)=some v:=by
           unfold mkV
           rcases hcs with ⟨a,l',e⟩|e
           ·cases hag:zGE P f.type with
            |none=>exact absurd hag hne
            |some b=>cases b<;>simp [e]
           ·rw [e]; exact ⟨_,rfl⟩
          obtain ⟨v,hv⟩:=this
          refine ⟨v,hv,zQe hz (fun hf=>?_) hv⟩
          rcases Nat.eq_zero_or_pos z with e|e
          ·subst e
           unfold mkV at hv
           rw [hf] at hv
           simp at hv
          ·exact e
         have hsh:zGE P f.type≠none∧((∃a l',(xs.drop f.offset).take z=a::l')∨zGE P f.type=some true)∧((∃a l',(ys.drop f.offset).take z=a::l')∨zGE P f.type=some true):=by
          cases d with
          |zero=>simp [eqT] at ha
          |succ d=>
           unfold eqT at ha
           split at ha
           ·split at ha
            ·rename_i hc'
             exact ⟨by rw [hc'.2]; simp,.inr hc'.2,.inr hc'.2⟩
            ·cases ha
           all_goals first
            |(split at ha
              ·rename_i g1 g2 g3
               exact ⟨by rw [g1]; simp,.inl ⟨_,_,g2⟩,.inl ⟨_,_,g3⟩⟩
              ·cases ha)
            |cases ha
         obtain ⟨va,m1,p1⟩:=hmk xs hsh.2.1 hsh.1
         obtain ⟨vb,m2,p2⟩:=hmk ys hsh.2.2 hsh.1
         have he:=zO9 d k f.type _ _ va vb a w ha m1 m2
         unfold Op.eqFields
         rw [if_pos (by simpa using hnm),run_bind_ok p1,run_bind_ok p2,run_bind_ok he]
         cases a
         ·rfl
         ·simp only [Bool.not_true,qD,if_false,Bool.true_and]
          exact ih q hq
        ·cases h
       ·cases h
    exact key _ _ h
   ·cases h
  ·rename_i kk hu
   split at h
   ·rename_i hag
    rw [hag] at hx hy
    cases hx
    cases hy
    split at h
    ·rename_i e
     subst e
     cases h
     exact run_equalIn_int w (d+k) t _ _ _ _ hu
    ·cases h
   ·cases h
  ·rename_i hu
   split at h
   ·rename_i hag
    rw [hag] at hx hy
    cases hx
    cases hy
    cases h
    exact run_equalIn_bool' w (d+k) t _ _ hu
   ·cases h
  ·rename_i hu
   split at h
   ·rename_i hag
    rw [hag] at hx hy
    cases hx
    cases hy
    cases h
    exact run_equalIn_string w (d+k) t _ _ hu
   ·cases h
  ·cases h
section
variable {Γ:Ctx} {ops:Array Oper} {o:Oper}
theorem zHO {β:Nat→Loc} {N:Nat→Prop} {w:World} {top:Bool}:∀{us ws:List Value} {bs:List Nat},zK β N w top (us.map D.sc) ws bs→ws=us
 |[],ws,bs,h=>by simp only [List.map_nil,zK] at h; exact h.1
 |u::us,ws,bs,h=>by
  simp only [List.map_cons,zK,Rep] at h
  obtain ⟨v,vs,b1,b2,rfl,_,h3,h4⟩:=h
  rw [h3.1,zHO h4]
theorem zMi {P:Program} {w:World} {b:BinOp} {T:TypeId} {x y:Operand} {xs ys:Array Value} (h:P.eqGuardType P.depth T=false):(eqGuard b T x y (.agg xs) (.agg ys)).run P w= .ok () w:=by
 have key:(do
   let __do_lift ←program
   let __do_lift_1 ←program
   if (!__do_lift.eqGuardType __do_lift_1.depth T)=true then pure ()
   else do
    let __do_lift ←Op.eqGuardIn Op.maxDepth T (Value.agg xs) (Value.agg ys)
    if __do_lift=true then unsupported (.noEntry "binop/eql: two nil values of an interface type with methods, in a part of a struct or an array") else pure ():Sem Unit).run P w= .ok () w:=by
  rw [run_bind_ok (a:=P) (w':=w) rfl]
  rw [run_bind_ok (a:=P) (w':=w) rfl]
  rw [h]
  rfl
 unfold eqGuard
 split
 ·exact key
 ·exact key
 ·rfl
theorem zRV {c:Cert} {b:BinOp} {x y:Operand} {T U:TypeId} {us vs:List Value} {d:Nat} {r q:Bool} (hg:o.guard=none) (hop:o.op= .binOp b T x y U) (hb:(b= .eql ∧q=r)∨(b= .neq ∧q= !r)) (hc:c= {tn:=c.tn,out:=some (.sc (.bool q))})
  (hx:OpF c x (.ag (us.map D.sc))) (hy:OpF c y (.ag (vs.map D.sc))) (hagg:zGE Γ.P T=some true) (hgt:Γ.P.eqGuardType Γ.P.depth T=false) (hd:d≤10000) (he:eqT Γ.P d T us vs=some r):Valid Γ ops o c:=by
 refine tV (d:=.sc (.bool q)) (f:=fun ρ=>do eqGuard b T x y (ρ x) (ρ y); binOp b T (ρ x) (ρ y)) hg (fun ρ=>by simp [execOp,hop]) (by rw [hc]) fun β bs σ a w hn hr=>?_
 have h1:=OpF.rep hx hn hr
 have h2:=OpF.rep hy hn hr
 simp only [Rep] at h1 h2
 obtain ⟨_,w1,e1,_,r1⟩:=h1
 obtain ⟨_,w2,e2,_,r2⟩:=h2
 rw [zHO r1] at e1
 rw [zHO r2] at e2
 refine ⟨.bool q,?_,by simp [Rep]⟩
 rw [e1,e2]
 rw [run_bind_ok (zMi hgt)]
 have hrun:=zO9 d (10000-d) T us vs (.agg us.toArray) (.agg vs.toArray) r w he (by unfold mkV; rw [hagg]) (by unfold mkV; rw [hagg])
 rw [show d+(10000-d)=10000 by omega] at hrun
 rcases hb with ⟨rfl,rfl⟩|⟨rfl,rfl⟩
 ·rw [run_eql_struct,hrun]; rfl
 ·rw [run_neq_struct,hrun]; rfl
theorem zLA {b:BinOp} {q r:Bool} (T U:Nat) (x y:Operand) (us vs:List Value) (hb:(b= .eql ∧q=r)∨(b= .neq ∧q= !r)) (hx:OkO x (.ag (us.map D.sc)):=by trivial) (hy:OkO y (.ag (vs.map D.sc)):=by trivial)
  (hT:(zGE Γ.P T,Γ.P.eqGuardType Γ.P.depth T,eqT Γ.P 4 T us vs)=(some true,false,some r):=by kernel_rfl):
  OpV Γ (.binOp b T x y U) {tn:=tnO x (.ag (us.map D.sc))++tnO y (.ag (vs.map D.sc)),out:=some (.sc (.bool q))}:=by
 simp only [Prod.mk.injEq] at hT
 obtain ⟨h1,h2,h3⟩:=hT
 intro ops o hop hg
 exact zRV hg hop hb rfl (hx.f (fun y hy=>List.mem_append_left _ hy)) (hy.f (fun y hy=>List.mem_append_right _ hy)) h1 h2 (by decide) h3
end
end Go.Im
namespace Go.Im
open Go
section
variable {Γ:Ctx} {ops:Array Oper} {o:Oper}
end
end Go.Im
namespace Go.Im
open Go
theorem zKa {α:Type} {enc:α→Value} {β:Nat→Loc} {N:Nat→Prop} {w:World}:∀(xs:List α),zZ β N w (xs.map (fun a=>[D.sc (enc a)])) (xs.map enc) []
 |[]=>by simp [zZ]
 |x::xs=>by
  simp only [List.map_cons,zZ,zK,Rep]
  exact ⟨[enc x],xs.map enc,[],[],rfl,rfl,⟨_,[],[],[],rfl,rfl,⟨rfl,rfl⟩,rfl,rfl⟩,zKa xs⟩
end Go.Im
namespace Go.Im
open Go
theorem zPH {P:Program} {w:World} {name:String} {g:Nat} {k:IntKind} {zs:List Int} (hG:∀q∈zNs P,Tab w q.1 q.2) (hn:P.globalNamed name=some g) (hl:lk (zNs P) g=some (· =zs.map fun z=>Value.int k z)):Lib.TabIs P w name k zs:=by
 obtain ⟨ws,e,fz,h,rfl⟩:=hG _ (zAT hl)
 unfold Lib.TabIs World.var?
 rw [hn]
 simp only [qA]
 rw [h]
theorem zRP {P:Program} {f:FuncId} {vs:List Value} {v:Value} (h:∀w,(∀q∈zNs P,Tab w q.1 q.2)→Calls P f vs.toArray w fun e w'=>e= .returned v∧w'.os=w.os∧w'.output=w.output∧w.heap.size≤w'.heap.size∧∀b,b<w.heap.size→w'.heap[b]? =w.heap[b]?):Ok P f (vs.map D.sc) [] (some (.sc v,[])):=by
 intro out ho w N β us bs ha hh hnd hlt hN hG
 cases ho
 obtain ⟨rfl,_⟩:=zHi ha
 refine (h w (fun q hq=>(hG q hq).2)).mono ?_
 rintro e w' ⟨rfl,h1,h2,h3,h4⟩
 exact ⟨v,[],[],rfl,⟨h1,h2⟩,h3,fun b hb _=>h4 b hb,by simp,by simp,by simp [Rep],rfl⟩
theorem zRd {P:Program} {f:FuncId} {vs:List Value} {v:Value} (h:∀w,(∀q∈zNs P,Tab w q.1 q.2)→Calls P f vs.toArray w fun e w'=>e= .returned v∧∃k os,w'=Sort.grow (w.drewN k) os):Ok P f (vs.map D.sc) [] (some (.sc v,[])):=by
 refine zRP fun w hG=>(h w hG).mono ?_
 rintro e w' ⟨rfl,k,os,rfl⟩
 refine ⟨rfl,rfl,rfl,?_,fun b hb=>?_⟩
 ·show w.heap.size≤(w.heap++os).size
  rw [Array.size_append]
  exact Nat.le_add_right _ _
 ·show (w.heap++os)[b]? =w.heap[b]?
  rw [Array.getElem?_append_left hb]
end Go.Im

import Derived.Test.YtobkkecdnlecgaaGreatDoorImF
set_option linter.unusedVariables false
namespace Go.Im
open Go
theorem FzT.all {t z:Nat} {xs:List (List D)}:∀{l:List (Nat×D)},(∀x∈l,x.2.men.contains t=false)→FzT t z xs l l
 |[],_=>.nil
 |(q,d)::l,h=>.cons (.keep (h (q,d) (by simp))) (FzT.all fun x hx=>h x (by simp [hx]))
theorem FzH.all {t z:Nat} {xs:List (List D)}:∀{l:List (Nat×Ent)},(∀x∈l,x.2.men.contains t=false)→FzH t z xs l l
 |[],_=>.nil
 |(q,e)::l,h=>.keep (h (q,e) (by simp)) (FzH.all fun x hx=>h x (by simp [hx]))
theorem Rel.frz {Γ:Ctx} {a:Act} {w:World} {t z:Nat} {xs:List (List D)} {tm1 tm2:List (Nat×D)} {hp1 hp2:List (Nat×Ent)} {us us2:List Nat} (htm:FzT t z xs tm1 tm2) (hhp:FzH t z xs hp1 hp2)
  (hu:∀q,q∈zHR tm2∨q∈zER hp2→q∈us2) (hr:Rel Γ ⟨tm1,(t,.row z xs)::hp1,us⟩ a w):Rel Γ ⟨tm2,hp2,us2⟩ a w:=by
 obtain ⟨h0,β,bs,h⟩:=hr
 obtain ⟨b1,bk,rfl,hE,hrest⟩:=h.hp
 have hp:((β t).own ++(b1++bk)).Perm (((β t).own ++b1)++bk):=by rw [List.append_assoc]
 have hnd:=hp.nodup_iff.1 h.nodup
 have hN:∀b,NS Γ w ((β t).own ++(b1++bk)) b→NS Γ w bk b:=fun b hb=>NS.sub (fun x hx=>by simp [hx]) hb
 have hb:∀b∈(β t).own ++b1,NS Γ w bk b:=fun b hb=>by
  have:=h.own b (hp.mem_iff.2 (List.mem_append_left _ hb))
  refine ⟨?_,this.1,fun hbk=>(List.nodup_append.1 hnd).2.2 b hb b hbk rfl⟩
  rcases this.2 with h1|h1
  ·exact .inr (.inl h1)
  ·exact .inr (.inr h1)
 refine ⟨hu,β,bk,{defers:=h.defers,size:=h.size,keys:=?_,par:=h.par,grow:=h.grow,gh:=h.gh,quiet:=h.quiet,keep:=h.keep,hp:=hhp.rep hN hE hb hrest,nodup:=(List.nodup_append.1 hnd).2.1,own:=fun b hb=>h.own b (hp.mem_iff.2 (List.mem_append_right _ hb)),tm:=?_}⟩
 ·have hk:=h.keys
  simp only [List.map_cons,List.nodup_cons] at hk
  rw [hhp.keys]
  exact hk.2
 ·intro q d' hd
  obtain ⟨d,h1,h2⟩:=htm.mem hd
  obtain ⟨v,h3,h4⟩:=h.tm q d h1
  exact ⟨v,h3,Fz.rep hN hE hb h2 h4⟩
theorem zQQ {Γ:Ctx} {op:Op} {tn:List (Nat×D)} {hn:List (Nat×Ent)} {d1 d2:D} {t z:Nat} {xs:List (List D)} (hv:OpV Γ op {tn:=tn,hn:=hn,out:=some d1,hw:=[(t,.row z xs)],fr:=[t]}) (hf:Fz t z xs d1 d2) (hm:d2.men=[]:=by rfl):
  OpV Γ op {tn:=tn,hn:=hn,out:=some d2,fr:=[t]}:=by
 intro ops o hop hg σ a w Q hdst hn' hr
 have hus:=hr.1
 have hfr:t∉σ.us:=hn'.2.2 t (by simp)
 have h:=hv ops o hop hg σ a w Q hdst ⟨hn'.1,hn'.2.1,hn'.2.2⟩ hr
 have hwt:Region.wanted o (yielded ops a.tmps)=true:=by simp [Region.wanted,hg]
 rw [if_pos hwt] at h ⊢
 refine Oper.wp_mono (fun a' w' hrel=>?_) h
 obtain ⟨dd,hdd⟩:∃dd,o.dst=dd:=⟨_,rfl⟩
 rw [hdd] at hrel
 rw [hdd]
 have key:FzT t z xs ((({tn:=tn,hn:=hn,out:=some d1,hw:=[(t,.row z xs)],fr:=[t]}:Cert).outs dd)++σ.tm.filter (fun x=>dd !=some x.1)) ((({tn:=tn,hn:=hn,out:=some d2,fr:=[t]}:Cert).outs dd)++σ.tm.filter (fun x=>dd !=some x.1)):=by
  have hrest:FzT t z xs (σ.tm.filter (fun x=>dd !=some x.1)) (σ.tm.filter (fun x=>dd !=some x.1)):=FzT.all fun x hx=>by
   have:t∉x.2.men:=fun h=>hfr (hus t (.inl (List.mem_flatMap.2 ⟨x,(List.mem_filter.1 hx).1,h⟩)))
   simpa using this
  cases dd with
  |none=>exact hrest
  |some q=>exact .cons hf hrest
 refine Rel.frz key (FzH.all fun x hx=>?_) (fun q hq=>?_) hrel
 ·have:t∉x.2.men:=fun h=>hfr (hus t (.inr (List.mem_flatMap.2 ⟨x,(List.mem_filter.1 hx).1,by simp [h]⟩)))
  simpa using this
 ·refine List.mem_append_right _ ?_
  rcases hq with hq|hq
  ·obtain ⟨x,hx,hx'⟩:=List.mem_flatMap.1 hq
   rcases List.mem_append.1 hx with hx|hx
   ·unfold Cert.outs at hx
    cases dd with
    |none=>simp at hx
    |some q'=>
     simp only [List.mem_singleton] at hx
     subst hx
     simp only [hm] at hx'
     cases hx'
   ·exact hus q (.inl (List.mem_flatMap.2 ⟨x,(List.mem_filter.1 hx).1,hx'⟩))
  ·obtain ⟨x,hx,hx'⟩:=List.mem_flatMap.1 hq
   exact hus q (.inr (List.mem_flatMap.2 ⟨x,(List.mem_filter.1 hx).1,hx'⟩))
end Go.Im

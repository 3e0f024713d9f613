import Derived.Test.YtdeihchdibglaaaGreatDoorImB
set_option linter.unusedVariables false
namespace Go.Im
open Go
variable {Γ:Ctx} {ops:Array Oper} {o:Oper}
mutual
def D.flat:D→Prop
 | .sc _=>True
 | .s o _ _ xs=>o=true∧zMl xs
 | .ag cs=>zHd cs
 | .tu cs=>zHd cs
 | .ln _=>True
 |_=>False
def zHd:List D→Prop
 |[]=>True
 |d::ds=>d.flat∧zHd ds
def zMl:List (List D)→Prop
 |[]=>True
 |e::es=>zHd e∧zMl es
end
section
variable {β β':Nat→Loc} {N N':Nat→Prop} {w w':World}
mutual
theorem Rep.flat:∀(d:D) (top:Bool) (v:Value) (bs:List Nat),d.flat→(∀b∈bs,w'.heap[b]? =w.heap[b]?)→Rep β N w top d v bs→Rep β' N' w' top d v bs
 | .sc u,top,v,bs,_,_,h=>by simp only [Rep] at h ⊢; exact h
 | .s o z n xs,top,v,bs,hf,hb,h=>by
  simp only [D.flat] at hf
  simp only [Rep] at h ⊢
  obtain ⟨h1,h2,a,cap,h3,h4,h5⟩:=h
  refine ⟨h1,h2,a,cap,h3,h4,?_⟩
  rcases h5 with h5|⟨h5,_⟩|⟨h5,b,off,ws,bs',h6,h7,h8,h9⟩
  ·exact .inl h5
  ·rw [hf.1] at h5; cases h5
  ·subst h7
   exact .inr (.inr ⟨h5,b,off,ws,bs',h6,rfl,h8.frame (hb b (by simp)),zZ.flat xs ws bs' hf.2 (fun c hc=>hb c (by simp [hc])) h9⟩)
 | .ag cs,top,v,bs,hf,hb,h=>by
  simp only [D.flat] at hf
  simp only [Rep] at h ⊢
  obtain ⟨h1,ws,h2,h3,h4⟩:=h
  exact ⟨h1,ws,h2,h3,zK.flat cs true ws bs hf hb h4⟩
 | .tu cs,top,v,bs,hf,hb,h=>by
  simp only [D.flat] at hf
  simp only [Rep] at h ⊢
  obtain ⟨h1,ws,h2,h4⟩:=h
  exact ⟨h1,ws,h2,zK.flat cs true ws bs hf hb h4⟩
 | .rf _ _ _ _,_,_,_,hf,_,_=>by simp [D.flat] at hf
 | .pt _ _ _,_,_,_,hf,_,_=>by simp [D.flat] at hf
 | .ps _,_,_,_,hf,_,_=>by simp [D.flat] at hf
 | .fn _ _,_,_,_,hf,_,_=>by simp [D.flat] at hf
 | .un,_,_,_,hf,_,_=>by simp [D.flat] at hf
 | .nb _,_,_,_,hf,_,_=>by simp [D.flat] at hf
 | .sub _ _ _,_,_,_,hf,_,_=>by simp [D.flat] at hf
 | .fb _ _,_,_,_,hf,_,_=>by simp [D.flat] at hf
 | .pb _,_,_,_,hf,_,_=>by simp [D.flat] at hf
 | .ln _,top,v,bs,_,_,h=>by simp only [Rep] at h ⊢; exact h
 | .po _,_,_,_,hf,_,_=>by simp [D.flat] at hf
theorem zK.flat:∀(ds:List D) (top:Bool) (ws:List Value) (bs:List Nat),zHd ds→(∀b∈bs,w'.heap[b]? =w.heap[b]?)→zK β N w top ds ws bs→zK β' N' w' top ds ws bs
 |[],top,ws,bs,_,_,h=>by simp only [zK] at h ⊢; exact h
 |d::ds,top,ws,bs,hf,hb,h=>by
  simp only [zHd] at hf
  simp only [zK] at h ⊢
  obtain ⟨v,vs,b1,b2,rfl,rfl,h3,h4⟩:=h
  exact ⟨v,vs,b1,b2,rfl,rfl,Rep.flat d top v b1 hf.1 (fun b hb'=>hb b (by simp [hb'])) h3,zK.flat ds top vs b2 hf.2 (fun b hb'=>hb b (by simp [hb'])) h4⟩
theorem zZ.flat:∀(es:List (List D)) (ws:List Value) (bs:List Nat),zMl es→(∀b∈bs,w'.heap[b]? =w.heap[b]?)→zZ β N w es ws bs→zZ β' N' w' es ws bs
 |[],ws,bs,_,_,h=>by simp only [zZ] at h ⊢; exact h
 |e::es,ws,bs,hf,hb,h=>by
  simp only [zMl] at hf
  simp only [zZ] at h ⊢
  obtain ⟨w1,w2,b1,b2,rfl,rfl,h3,h4⟩:=h
  exact ⟨w1,w2,b1,b2,rfl,rfl,zK.flat e false w1 b1 hf.1 (fun b hb'=>hb b (by simp [hb'])) h3,zZ.flat es w2 b2 hf.2 (fun b hb'=>hb b (by simp [hb'])) h4⟩
end
end
def Ent.flat:Ent→Prop
 | .box cs=>zHd cs
 | .row _ xs=>zMl xs
 | .lent _ _ _ _ _ _=>False
def zIg:List Ent→Prop
 |[]=>True
 |e::es=>e.flat∧zIg es
theorem zKf:∀{l:List Ent},zIg l→∀e∈l,e.flat
 |_::_,h,e,he=>by
  rcases List.mem_cons.1 he with rfl|he
  ·exact h.1
  ·exact zKf h.2 e he
theorem zBR.flat {β β':Nat→Loc} {N N':Nat→Prop} {w:World} {L:Loc} {bs:List Nat} {e:Ent} (hf:e.flat) (h:zBR β N w L bs e):zBR β' N' w L bs e:=by
 cases e with
 |box cs=>
  obtain ⟨h0,h1,ws,h2,h3,h4⟩:=h
  exact ⟨h0,h1,ws,h2,h3,zK.flat cs true ws bs hf (fun _ _=>rfl) h4⟩
 |row z xs=>
  obtain ⟨h1,h2,h⟩:=h
  refine ⟨h1,h2,?_⟩
  rcases h with h|⟨h0,ws,h3,h4⟩
  ·exact .inl h
  ·exact .inr ⟨h0,ws,h3,zZ.flat xs ws bs hf (fun _ _=>rfl) h4⟩
 |lent=>exact absurd hf id
theorem vS.flat {β:Nat→Loc} {N N':Nat→Prop} {w:World}:∀{l:List (Nat×Ent)} {bs:List Nat},(∀x∈l,x.2.flat)→vS β N w l bs→vS β N' w l bs
 |[],bs,_,h=>h
 |(t,e)::l,bs,hf,h=>by
  obtain ⟨b1,b2,h1,h2,h3⟩:=h
  exact ⟨b1,b2,h1,h2.flat (hf (t,e) (by simp)),vS.flat (fun x hx=>hf x (by simp [hx])) h3⟩
mutual
inductive Am (hn:List (Nat×Ent)) (ids:List Nat):Bool→D→D→Prop where
 |same {bor:Bool} {d:D}:d.men=[]→Am hn ids bor d d
 |nil {bor:Bool} (ow:Bool) (z:Nat):Am hn ids bor (.sc (.slice none 0 0)) (.s ow z 0 [])
 |rf {bor:Bool} {k t off n:Nat} {cap:Option Nat}:ids[k]? =some t→Am hn ids bor (.rf t off n cap) (.rf k off n cap)
 |pt {bor:Bool} {k t i j:Nat}:ids[k]? =some t→Am hn ids bor (.pt t i j) (.pt k i j)
 |bor {t off n z:Nat} {cap:Option Nat} {xs ys:List (List D)}:(t,.row z xs)∈hn→t∉ids→off+n≤xs.length→ys=((D.ro.roE xs).drop off).take n→Am hn ids true (.rf t off n cap) (.s false z n ys)
 |bors {t off n z:Nat} {xs ys:List (List D)}:(t,.row z xs)∈hn→t∉ids→off+n≤xs.length→ys=((D.ro.roE xs).drop off).take n→Am hn ids true (.sub t off n) (.s false z n ys)
 |fb {bor:Bool} {f:FuncId} {cs cs':List D}:AmL hn ids bor cs cs'→Am hn ids bor (.fb f cs) (.fb f cs')
 |fn {bor:Bool} {f:FuncId} {cs cs':List D}:AmL hn ids bor cs cs'→Am hn ids bor (.fn f cs) (.fn f cs')
 |pb {bor:Bool} {cs cs':List D}:AmL hn ids bor cs cs'→Am hn ids bor (.pb cs) (.pb cs')
 |ag {bor:Bool} {cs cs':List D}:AmL hn ids bor cs cs'→Am hn ids bor (.ag cs) (.ag cs')
inductive AmL (hn:List (Nat×Ent)) (ids:List Nat):Bool→List D→List D→Prop where
 |nil {bor:Bool}:AmL hn ids bor [] []
 |cons {bor:Bool} {d d':D} {ds ds':List D}:Am hn ids bor d d'→AmL hn ids bor ds ds'→AmL hn ids bor (d::ds) (d'::ds')
end
section
variable {β β':Nat→Loc} {N N0:Nat→Prop} {w:World} {hn hpk:List (Nat×Ent)} {ids bk:List Nat}
mutual
theorem Am.rep (hk:vS β N w hpk bk) (hh:∀x∈hn,x.1∉ids→x∈hpk) (hN:∀b,N b→N0 b) (hβ:∀k t,ids[k]? =some t→β' k=β t) {bor:Bool} (hbk:bor=true→∀b∈bk,N0 b):
  ∀{d d':D} {v:Value},Am hn ids bor d d'→Rep β N w true d v []→Rep β' N0 w true d' v []
 |d,_,v,.same hm,h=>Rep.frame (fun b hb=>⟨hN b hb,rfl⟩) d true v [] (by simp) (by simp [hm]) h
 |_,_,v,.nil ow z,h=>by
  simp only [Rep] at h
  obtain ⟨rfl,_⟩:=h
  simp only [Rep]
  exact ⟨rfl,by simp,none,0,rfl,Nat.le_refl _,.inl ⟨trivial,trivial,fun _=>⟨rfl,rfl⟩⟩⟩
 |_,_,v,.rf hi,h=>by simp only [Rep] at h ⊢; rw [hβ _ _ hi]; exact h
 |_,_,v,.pt hi,h=>by simp only [Rep] at h ⊢; rw [hβ _ _ hi]; exact h
 | .rf t off n cap,.s _ z _ ys,v,.bor (xs:=xs) hm ht hle hys,h=>by
  obtain ⟨b1,⟨hLz,hzz,hrow⟩,hb1,hb2⟩:=vS.get hk (hh _ hm ht)
  simp only [Rep] at h
  obtain ⟨_,_,h⟩:=h
  simp only [Rep]
  have hl:ys.length=n:=by rw [hys]; simp [zFA]; omega
  have hz:∀e∈ys,e.length=z:=fun e he=>by
   rw [hys] at he
   obtain ⟨e',he',rfl⟩:=zFV (List.mem_of_mem_drop (List.mem_of_mem_take he))
   rw [zDp]; exact hzz e' he'
  refine ⟨hl,hz,?_⟩
  rcases h with ⟨hnil,_,hn0,rfl⟩|⟨hnil,cp,rfl,hcap,hroom,_⟩
  ·exact ⟨none,0,by rw [hn0],by omega,.inl ⟨hn0,trivial,by simp⟩⟩
  ·refine ⟨_,cp,rfl,hcap,?_⟩
   rcases hrow with ⟨hnil',_⟩|⟨_,ws,hO,hE⟩
   ·rw [hnil] at hnil'; cases hnil'
   ·have q:=zZ.ro (β':=β') (N':=N0) hN xs ws b1 (fun b hb=>hbk rfl b (hb2 b hb)) hE
    have hzr:∀e∈D.ro.roE xs,e.length=z:=fun e he=>by
     obtain ⟨e',he',rfl⟩:=zFV he
     rw [zDp]; exact hzz e' he'
    have q2:=(zZ.sub n (zZ.sub off q hzr).2 (fun e he=>hzr e (List.mem_of_mem_drop he))).1
    refine .inr (.inl ⟨trivial,(β t).b,_,_,rfl,hbk rfl _ (hb1 _ (by simp [Loc.own,hnil])),?_,hys▸q2,trivial⟩)
    rw [hLz]
    exact hO.has.sub (off*z) (n*z)
 | .sub t off n,.s _ z _ ys,v,.bors (xs:=xs) hm ht hle hys,h=>by
  obtain ⟨b1,⟨hLz,hzz,hrow⟩,hb1,hb2⟩:=vS.get hk (hh _ hm ht)
  simp only [Rep] at h
  obtain ⟨_,_,ad,cp,rfl,hcap,h⟩:=h
  simp only [Rep]
  have hl:ys.length=n:=by rw [hys]; simp [zFA]; omega
  have hz:∀e∈ys,e.length=z:=fun e he=>by
   rw [hys] at he
   obtain ⟨e',he',rfl⟩:=zFV (List.mem_of_mem_drop (List.mem_of_mem_take he))
   rw [zDp]; exact hzz e' he'
  refine ⟨hl,hz,ad,cp,rfl,hcap,?_⟩
  rcases h with hn0|⟨hnil,rfl,hroom⟩
  ·exact .inl ⟨hn0,trivial,by simp⟩
  ·rcases hrow with ⟨hnil',_⟩|⟨_,ws,hO,hE⟩
   ·rw [hnil] at hnil'; cases hnil'
   ·have q:=zZ.ro (β':=β') (N':=N0) hN xs ws b1 (fun b hb=>hbk rfl b (hb2 b hb)) hE
    have hzr:∀e∈D.ro.roE xs,e.length=z:=fun e he=>by
     obtain ⟨e',he',rfl⟩:=zFV he
     rw [zDp]; exact hzz e' he'
    have q2:=(zZ.sub n (zZ.sub off q hzr).2 (fun e he=>hzr e (List.mem_of_mem_drop he))).1
    refine .inr (.inl ⟨trivial,(β t).b,_,_,rfl,hbk rfl _ (hb1 _ (by simp [Loc.own,hnil])),?_,hys▸q2,trivial⟩)
    rw [hLz]
    exact hO.has.sub (off*z) (n*z)
 |_,_,v,.pb hl,h=>by
  simp only [Rep] at h ⊢
  obtain ⟨h1,h2,b,off,ws,h3,h4,h5,h6,h7⟩:=h
  exact ⟨trivial,trivial,b,off,ws,h3,hN b h4,h5,h6,AmL.rep hk hh hN hβ hbk hl h7⟩
 |_,_,v,.fb hl,h=>by
  simp only [Rep] at h ⊢
  obtain ⟨h1,h2,ws,h3,h4⟩:=h
  exact ⟨trivial,trivial,ws,h3,AmL.rep hk hh hN hβ hbk hl h4⟩
 |_,_,v,.fn hl,h=>by
  simp only [Rep] at h ⊢
  obtain ⟨h1,h2,ws,h3,h4⟩:=h
  exact ⟨trivial,trivial,ws,h3,AmL.rep hk hh hN hβ hbk hl h4⟩
 |_,_,v,.ag hl,h=>by
  simp only [Rep] at h ⊢
  obtain ⟨h1,ws,h3,h5,h4⟩:=h
  exact ⟨trivial,ws,h3,h5,AmL.rep hk hh hN hβ hbk hl h4⟩
theorem AmL.rep (hk:vS β N w hpk bk) (hh:∀x∈hn,x.1∉ids→x∈hpk) (hN:∀b,N b→N0 b) (hβ:∀k t,ids[k]? =some t→β' k=β t) {bor:Bool} (hbk:bor=true→∀b∈bk,N0 b):
  ∀{ds ds':List D} {vs:List Value},AmL hn ids bor ds ds'→zK β N w true ds vs []→zK β' N0 w true ds' vs []
 |_,_,vs,.nil,h=>by simp only [zK] at h ⊢; exact h
 |_,_,vs,.cons h1 h2,h=>by
  simp only [zK] at h ⊢
  obtain ⟨v,vs',b1,b2,rfl,hb,h3,h4⟩:=h
  rw [(List.append_eq_nil_iff.1 hb.symm).1] at h3
  rw [(List.append_eq_nil_iff.1 hb.symm).2] at h4
  exact ⟨v,vs',[],[],rfl,rfl,Am.rep hk hh hN hβ hbk h1 h3,AmL.rep hk hh hN hβ hbk h2 h4⟩
end
end
mutual
inductive Nm:D→D→List (Nat×Ent)→Prop where
 |same {d:D}:d.men=[]→d.free=true→Nm d d []
 |own {z n:Nat} {xs:List (List D)} (t:Nat):Nm (.s true z n xs) (.rf t 0 n none) [(t,.row z xs)]
 |po {cs:List D} (t:Nat):D.men.zER cs=[]→Nm (.po cs) (.pt t 0 0) [(t,.box cs)]
 |ag {cs cs':List D} {es:List (Nat×Ent)}:NmL cs cs' es→Nm (.ag cs) (.ag cs') es
 |tu {cs cs':List D} {es:List (Nat×Ent)}:NmL cs cs' es→Nm (.tu cs) (.tu cs') es
inductive NmL:List D→List D→List (Nat×Ent)→Prop where
 |nil:NmL [] [] []
 |cons {d d':D} {ds ds':List D} {e1 e2:List (Nat×Ent)}:Nm d d' e1→NmL ds ds' e2→NmL (d::ds) (d'::ds') (e1++e2)
end
mutual
theorem Nm.men:∀{d d':D} {es:List (Nat×Ent)},Nm d d' es→(∀t∈d'.men,t∈es.map (·.1))∧(∀x∈es,x.2.men=[])
 |_,_,_,.same hm _=>by simp [hm]
 |_,_,_,.own t=>by simp [D.men,Ent.men]
 |_,_,_,.po t hm=>by simp [D.men,Ent.men,hm]
 |_,_,_,.ag h=>by simpa [D.men] using NmL.men h
 |_,_,_,.tu h=>by simpa [D.men] using NmL.men h
theorem NmL.men:∀{d d':List D} {es:List (Nat×Ent)},NmL d d' es→(∀t∈D.men.zER d',t∈es.map (·.1))∧(∀x∈es,x.2.men=[])
 |_,_,_,.nil =>by simp [D.men.zER]
 |_,_,_,.cons h1 h2=>by
  have q1:=Nm.men h1
  have q2:=NmL.men h2
  refine ⟨fun t ht=>?_,fun x hx=>?_⟩
  ·simp only [D.men.zER,qJ] at ht
   simp only [List.map_append,qJ]
   rcases ht with ht|ht
   ·exact .inl (q1.1 t ht)
   ·exact .inr (q2.1 t ht)
  ·rcases List.mem_append.1 hx with hx|hx
   ·exact q1.2 x hx
   ·exact q2.2 x hx
end
theorem vS.app {β:Nat→Loc} {N:Nat→Prop} {w:World}:∀{h1 h2:List (Nat×Ent)} {b1 b2:List Nat},vS β N w h1 b1→vS β N w h2 b2→vS β N w (h1++h2) (b1++b2)
 |[],h2,b1,b2,q1,q2=>by simp only [vS] at q1; subst q1; simpa using q2
 |(t,e)::h1,h2,b1,b2,q1,q2=>by
  obtain ⟨c1,c2,rfl,q3,q4⟩:=q1
  exact ⟨c1,c2++b2,by simp,q3,q4.app q2⟩
section
variable {β':Nat→Loc} {N:Nat→Prop} {w:World}
mutual
theorem Nm.rep:∀{d d':D} {es:List (Nat×Ent)} {v:Value} {bs:List Nat} (β:Nat→Loc),Nm d d' es→(es.map (·.1)).Nodup →Rep β' N w true d v bs→
  ∃β1,(∀t,t∉es.map (·.1)→β1 t=β t)∧Rep β1 N w true d' v []∧vS β1 N w es bs
 |d,_,_,v,bs,β,.same hm hf,_,h=>by
  have e:=Rep.free hf h
  subst e
  exact ⟨β,fun _ _=>rfl,Rep.frame (fun b hb=>⟨hb,rfl⟩) d true v [] (by simp) (by simp [hm]) h,rfl⟩
 | .s _ z n xs,_,_,v,bs,β,.own t,_,h=>by
  simp only [Rep] at h
  obtain ⟨h1,h2,a,cap,rfl,h4,h5⟩:=h
  rcases h5 with ⟨h5,rfl,h6⟩|h5|⟨_,b,off,ws,bs',rfl,rfl,h8,h9⟩
  ·obtain ⟨rfl,rfl⟩:=h6 trivial
   refine ⟨zG0 β t ⟨true,0,0,z,0⟩,fun k hk=>zAc (by simpa using hk),?_,?_⟩
   ·simp only [Rep,xI]
    exact ⟨trivial,trivial,.inl ⟨trivial,trivial,h5,by rw [h5]⟩⟩
   ·refine ⟨[],[],by simp [xI,Loc.own],?_,rfl⟩
    rw [xI]
    exact ⟨rfl,h2,.inl ⟨rfl,List.length_eq_zero_iff.1 (by omega),rfl⟩⟩
  ·exact absurd h5.1 (by simp)
  ·refine ⟨zG0 β t ⟨false,b,off,z,cap*z⟩,fun k hk=>zAc (by simpa using hk),?_,?_⟩
   ·simp only [Rep,xI]
    exact ⟨trivial,trivial,.inr ⟨trivial,cap,by simp,h4,by simp,by simp⟩⟩
   ·refine ⟨bs',[],by simp [xI,Loc.own],?_,rfl⟩
    rw [xI]
    exact ⟨rfl,h2,.inr ⟨rfl,ws,h8,zZ.frame (fun b hb=>⟨hb,rfl⟩) xs ws bs' (fun _ _=>rfl) h9⟩⟩
 | .po cs,_,_,v,bs,β,.po t hm,_,h=>by
  simp only [Rep] at h
  obtain ⟨_,b,off,r,ws,bs',rfl,rfl,h2,h3,h4⟩:=h
  refine ⟨zG0 β t ⟨false,b,off,cs.length,r⟩,fun k hk=>zAc (by simpa using hk),?_,?_⟩
  ·simp only [Rep,xI]
   exact ⟨trivial,trivial,trivial,by simp⟩
  ·refine ⟨bs',[],by simp [xI,Loc.own],?_,rfl⟩
   rw [xI]
   exact ⟨rfl,rfl,ws,h2,h3,zK.frame (fun b hb=>⟨hb,rfl⟩) cs true ws bs' (fun _ _=>rfl) (by rw [hm]; simp) h4⟩
 | .ag _,_,_,v,bs,β,.ag hl,hk,h=>by
  simp only [Rep] at h
  obtain ⟨h1,ws,h2,h3,h4⟩:=h
  obtain ⟨β1,q1,q2,q3⟩:=NmL.rep β hl hk h4
  exact ⟨β1,q1,by simp only [Rep]; exact ⟨trivial,ws,h2,h3,q2⟩,q3⟩
 | .tu _,_,_,v,bs,β,.tu hl,hk,h=>by
  simp only [Rep] at h
  obtain ⟨h1,ws,h2,h4⟩:=h
  obtain ⟨β1,q1,q2,q3⟩:=NmL.rep β hl hk h4
  exact ⟨β1,q1,by simp only [Rep]; exact ⟨trivial,ws,h2,q2⟩,q3⟩
theorem NmL.rep:∀{d d':List D} {es:List (Nat×Ent)} {vs:List Value} {bs:List Nat} (β:Nat→Loc),NmL d d' es→(es.map (·.1)).Nodup →zK β' N w true d vs bs→
  ∃β1,(∀t,t∉es.map (·.1)→β1 t=β t)∧zK β1 N w true d' vs []∧vS β1 N w es bs
 |_,_,_,vs,bs,β,.nil,_,h=>by
  simp only [zK] at h
  obtain ⟨rfl,rfl⟩:=h
  exact ⟨β,fun _ _=>rfl,by simp [zK],rfl⟩
 |_,_,_,vs,bs,β,.cons (d':=d') (ds':=ds') (e1:=e1) (e2:=e2) h1 h2,hk,h=>by
  simp only [zK] at h
  obtain ⟨v,vs',b1,b2,rfl,rfl,h3,h4⟩:=h
  simp only [List.map_append] at hk
  have hk':=List.nodup_append.1 hk
  obtain ⟨β1,q1,q2,q3⟩:=Nm.rep β h1 hk'.1 h3
  obtain ⟨β2,q4,q5,q6⟩:=NmL.rep β1 h2 hk'.2.1 h4
  have hagree:∀t∈e1.map (·.1),β2 t=β1 t:=fun t ht=>q4 t (fun ht'=>hk'.2.2 t ht t ht' rfl)
  refine ⟨β2,fun t ht=>?_,?_,?_⟩
  ·simp only [List.map_append,qJ,not_or] at ht
   rw [q4 t ht.2,q1 t ht.1]
  ·simp only [zK]
   refine ⟨v,vs',[],[],rfl,rfl,?_,q5⟩
   exact Rep.frame (fun b hb=>⟨hb,rfl⟩) d' true v [] (by simp) (fun t ht=>hagree t ((Nm.men h1).1 t ht)) q2
  ·refine vS.app ?_ q6
   refine vS.frame (fun b hb=>⟨hb,rfl⟩) _ _ (fun _ _=>rfl) (fun t ht=>hagree t ?_) q3
   obtain ⟨x,hx1,hx2⟩:=List.mem_flatMap.1 ht
   rw [(Nm.men h1).2 x hx1] at hx2
   simp at hx2
   subst hx2
   exact List.mem_map.2 ⟨x,hx1,rfl⟩
end
end
end Go.Im
namespace Go.Im
open Go
variable {Γ:Ctx} {ops:Array Oper} {o:Oper}
theorem zHK {β:Nat→Loc} {N:Nat→Prop} {w:World} {a:Act} {c:Cert}:∀{as:List D} {xs:List Operand},as.length=xs.length→
  (∀(k:Nat) (d:D),as[k]? =some d→∃x,xs[k]? =some x∧Rep β N w true d (a.eval x) [])→zK β N w true as (xs.map a.eval) []
 |[],[],_,_=>by simp [zK]
 |d::as,x::xs,hl,h=>by
  obtain ⟨x',h1,h2⟩:=h 0 d rfl
  simp at h1
  subst h1
  simp only [List.map_cons,zK]
  exact ⟨_,_,[],[],rfl,rfl,h2,zHK (c:=c) (by simpa using hl) (fun k d hd=>h (k+1) d (by simpa using hd))⟩
theorem zL0 {hs:List Ent} {x:Nat×Ent}:x∈zFC hs↔hs[x.1]? =some x.2:=by
 unfold zFC
 rw [List.mem_map]
 constructor
 ·rintro ⟨⟨e,i⟩,h1,rfl⟩
  exact List.mem_zipIdx_iff_getElem?.1 h1
 ·intro h
  exact ⟨(x.2,x.1),List.mem_zipIdx_iff_getElem?.2 h,rfl⟩
theorem vS.rename {β β':Nat→Loc} {N:Nat→Prop} {w:World}:∀{hs:List Ent} {ids:List Nat} {k:Nat} {bs:List Nat},hs.length=ids.length→(∀e∈hs,e.men=[])→(∀i t,ids[i]? =some t→β' (k+i)=β t)→
  vS β N w (ids.zip hs) bs→vS β' N w ((hs.zipIdx k).map (fun x=>(x.2,x.1))) bs
 |[],[],k,bs,_,_,_,h=>by simpa [vS] using h
 |e::hs,t::ids,k,bs,hl,hm,hβ,h=>by
  simp only [List.zip_cons_cons] at h
  obtain ⟨b1,b2,rfl,h2,h3⟩:=h
  simp only [List.zipIdx_cons,List.map_cons]
  have e0:β' k=β t:=by simpa using hβ 0 t rfl
  refine ⟨b1,b2,by simp only [e0],?_,vS.rename (by simpa using hl) (fun e he=>hm e (by simp [he])) (fun i t hi=>?_) h3⟩
  ·simp only [e0]
   exact h2.frame (fun b hb=>⟨hb,rfl⟩) (fun _ _=>rfl) (fun _=>rfl) (fun t' ht'=>by rw [hm e (by simp)] at ht'; simp at ht')
  ·rw [show k+1+i=k+(i+1) by omega]
   exact hβ (i+1) t (by simpa using hi)
theorem vS.rename' {β β':Nat→Loc} {N:Nat→Prop} {w:World}:∀{hs:List Ent} {ids:List Nat} {k:Nat} {bs:List Nat},hs.length≤ids.length→(∀e∈hs,e.men=[])→(∀i t,ids[i]? =some t→β' (k+i)=β t)→
  vS β' N w ((hs.zipIdx k).map (fun x=>(x.2,x.1))) bs→vS β N w (ids.zip hs) bs
 |[],ids,k,bs,_,_,_,h=>by simpa [vS] using h
 |e::hs,t::ids,k,bs,hl,hm,hβ,h=>by
  simp only [List.zipIdx_cons,List.map_cons] at h
  obtain ⟨b1,b2,rfl,h2,h3⟩:=h
  simp only [List.zip_cons_cons]
  have e0:β' k=β t:=by simpa using hβ 0 t rfl
  refine ⟨b1,b2,by simp only [e0],?_,vS.rename' (k:=k+1) (by simpa using hl) (fun e he=>hm e (by simp [he])) (fun i t hi=>?_) h3⟩
  ·simp only [e0] at h2
   exact h2.frame (fun b hb=>⟨hb,rfl⟩) (fun _ _=>rfl) (fun _=>rfl) (fun t' ht'=>by rw [hm e (by simp)] at ht'; simp at ht')
  ·rw [show k+1+i=k+(i+1) by omega]
   exact hβ (i+1) t (by simpa using hi)
theorem zLZ:∀(ids:List Nat) (hs:List Ent),((ids.zip hs).map (·.1)).Sublist ids
 |[],hs=>by simp
 |t::ids,[]=>by simp
 |t::ids,e::hs=>by
  simp only [List.zip_cons_cons,List.map_cons]
  exact (zLZ ids hs).cons_cons t
theorem zLi {β:Nat→Loc} {bs:List Nat} {σ:St} {a:Act} {w:World} {dst:Option Nat} {c:Cert} {f:FuncId} {as ds:List D} {vs:List Value} {ids:List Nat} {bor:Bool} {hin hout:List Ent} {R:Option (D×List Ent)} {res d:D}
  {news:List (Nat×Ent)} (h0:∀t,t∈zLU σ.tm∨t∈zIp σ.hp→t∈σ.us) (h:RelB Γ β bs σ a w) (hd:∀t,dst=some t→t<Γ.nt) (hn:Nd c σ)
  (hvs:zK β (NS Γ w bs) w true as vs []) (ham:AmL c.hn ids bor as ds) (hids:ids.Nodup) (hinl:hin.length=ids.length) (hhin:∀x∈ids.zip hin,x∈c.hn) (hmen:∀e∈hin++hout,e.men=[])
  (hok:Ok Γ.P f ds hin R) (hR:R=some (res,hout)) (hol:hout.length≤hin.length) (hnm:Nm res d news) (hnews:(news.map (·.1)).Nodup)
  (hc:c= {tn:=c.tn,hn:=c.hn,out:=some d,hx:=ids,hw:=ids.zip hout++news,fr:=news.map (·.1)}) (hmm:∀x∈news,Γ.m≤x.1)
  (hbor:bor=true→zIg hout∧res.flat):Calls Γ.P f vs.toArray w (fun e w'=>∃v,e= .returned v∧Rel Γ (σ.upd dst c) (a.put dst v) w'):=by
 have hfrs:∀x∈news,x.1∉σ.us:=fun x hx=>hn.2.2 x.1 (by rw [hc]; exact List.mem_map.2 ⟨x,hx,rfl⟩)
 have hkz:((ids.zip hin).map (·.1))=ids:=by rw [List.map_fst_zip (by omega)]
 obtain ⟨bIn,bk,p,hIn,hKp⟩:=vS.takes (hs:=ids.zip hin) h.hp h.keys (by rw [hkz]; exact hids) (fun x hx=>hn.2.1 x (hhin x hx))
 rw [hkz] at hKp
 have hnd:=p.nodup_iff.1 h.nodup
 have hlt:∀b∈bs,b<w.heap.size:=fun b hb=>(h.own b hb).1
 have hInb:∀b∈bIn,b∈bs:=fun b hb=>p.mem_iff.2 (by simp [hb])
 have hbkb:∀b∈bk,b∈bs:=fun b hb=>p.mem_iff.2 (by simp [hb])
 have hdis:∀b∈bk,b∉bIn:=fun b hb hb'=>(List.nodup_append.1 hnd).2.2 b hb' b hb rfl
 let N0:Nat→Prop:=fun b=>NS Γ w bs b∨(bor=true∧b∈bk)
 let β':Nat→Loc:=fun k=>match ids[k]? with|some t=>β t|none=>β k
 have hβ':∀k t,ids[k]? =some t→β' k=β t:=fun k t hk=>by simp only [β',hk]
 have hNsub:∀b,NS Γ w bs b→N0 b:=fun b hb=>.inl hb
 have hargs:=AmL.rep (β':=β') (N0:=N0) (hn:=c.hn) hKp (fun x hx hxi=>List.mem_filter.2 ⟨hn.2.1 x hx,by simpa using hxi⟩) hNsub hβ' (fun e b hb=>.inr ⟨e,hb⟩) ham hvs
 have hin':vS β' N0 w (zFC hin) bIn:=by
  have q:=vS.rename (k:=0) (β':=β') hinl (fun e he=>hmen e (by simp [he])) (fun i t hi=>by rw [Nat.zero_add]; exact hβ' i t hi) hIn
  exact vS.frame (fun b hb=>⟨hNsub b hb,rfl⟩) _ _ (fun _ _=>rfl) (fun _ _=>rfl) q
 have hcall:=hok _ hR w N0 β' vs bIn hargs hin' (List.nodup_append.1 hnd).1 (fun b hb=>hlt b (hInb b hb)) (fun b hb=>by
  rcases hb with hb|⟨_,hb⟩
  ·exact ⟨hb.2.1,fun h'=>hb.2.2 (hInb b h')⟩
  ·exact ⟨hlt b (hbkb b hb),hdis b hb⟩) (fun q hq=>⟨.inl (h.tables q hq).1,(h.tables q hq).2⟩)
 refine hcall.mono fun e w' hpost=>?_
 obtain ⟨v,b1,b2,rfl,hqt,hsz,hkeep,hnd',hown',hres,hho⟩:=hpost
 refine ⟨v,rfl,?_⟩
 simp only at hsz hkeep hown' hres hho
 have hNN:∀b,bor=false→NS ⟨Γ.P,f,w,N0,bIn,hin.length,β',0⟩ w' (b1++b2) b→NS Γ w' ((b2++b1)++bk) b:=by
  rintro b hb ⟨q1,q2,q3⟩
  have q4:b∉b2++b1:=fun h'=>q3 (by simp only [qJ] at h' ⊢; exact h'.symm)
  have hcond:(Γ.N0 b∨b∈Γ.O0∨Γ.w0.heap.size≤b)∧b∉bk:=by
   rcases q1 with (q1|⟨q1,_⟩)|q1|q1
   ·exact ⟨q1.1,fun h'=>q1.2.2 (hbkb b h')⟩
   ·rw [hb] at q1; cases q1
   ·exact ⟨.inr (h.own b (hInb b q1)).2,fun h'=>hdis b h' q1⟩
   ·exact ⟨.inr (.inr (Nat.le_trans h.grow q1)),fun h'=>by have:=hlt b (hbkb b h'); simp only at q1; omega⟩
  refine ⟨hcond.1,q2,?_⟩
  intro h'
  rcases List.mem_append.1 h' with h'|h'
  ·exact q4 h'
  ·exact hcond.2 h'
 have hres':Rep β' (NS Γ w' ((b2++b1)++bk)) w' true res v b1:=by
  cases hbb:bor with
  |false=>exact Rep.frame (fun b hb=>⟨hNN b hbb hb,rfl⟩) res true v b1 (fun _ _=>rfl) (fun _ _=>rfl) hres
  |true=>exact Rep.flat res true v b1 (hbor hbb).2 (fun _ _=>rfl) hres
 have hho':vS β' (NS Γ w' ((b2++b1)++bk)) w' (zFC hout) b2:=by
  cases hbb:bor with
  |false=>exact vS.frame (fun b hb=>⟨hNN b hbb hb,rfl⟩) _ _ (fun _ _=>rfl) (fun _ _=>rfl) hho
  |true=>exact vS.flat (fun x hx=>zKf (hbor hbb).1 x.2 (by obtain ⟨q,hq,rfl⟩:=List.mem_map.1 hx; exact List.mem_of_getElem? (List.mem_zipIdx_iff_getElem?.1 hq))) hho
 obtain ⟨β1,g1,g2,g3⟩:=Nm.rep β hnm hnews hres'
 have hg1:∀t∈σ.us,β1 t=β t:=fun t ht=>g1 t (fun ht'=>by
  obtain ⟨x,hx1,hx2⟩:=List.mem_map.1 ht'
  exact hfrs x hx1 (hx2▸ht))
 have hidsus:∀t∈ids,t∈σ.us:=fun t ht=>by
  rw [←hkz] at ht
  obtain ⟨x,hx1,rfl⟩:=List.mem_map.1 ht
  exact h0 _ (.inr (List.mem_flatMap.2 ⟨x,hn.2.1 x (hhin x hx1),by simp⟩))
 have hho2:=vS.rename' (k:=0) (β:=β1) (ids:=ids) (by omega) (fun e he=>hmen e (by simp [he])) (fun i t hi=>by
  rw [Nat.zero_add,hβ' i t hi,hg1 t (hidsus t (List.mem_of_getElem? hi))]) hho'
 refine Rel.step (β1:=β1) (bk:=bk) (br:=bIn) (bn:=b2++b1) h0 h hd ?_ ?_ p (by rw [hc]; exact hKp) hsz ?_ hg1 ?_ ?_ ?_ ?_ ?_ hqt
 ·rw [hc]
  simp only [List.map_append]
  refine List.nodup_append.2 ⟨List.Nodup.sublist (zLZ ids hout) hids,hnews,?_⟩
  intro x hx y hy e
  subst e
  obtain ⟨q,hq1,hq2⟩:=List.mem_map.1 hy
  exact hfrs q hq1 (hq2▸hidsus x ((zLZ ids hout).subset hx))
 ·intro x hx
  rw [hc] at hx ⊢
  rcases List.mem_append.1 hx with hx|hx
  ·exact .inl (List.of_mem_zip hx).1
  ·exact .inr (hfrs x hx)
 ·intro b hb hb'; exact hkeep b hb hb'
 ·intro t ht
  refine g1 t (fun ht'=>?_)
  obtain ⟨x,hx1,hx2⟩:=List.mem_map.1 ht'
  have:=hmm x hx1
  omega
 ·exact (List.perm_append_comm.nodup_iff).1 hnd'
 ·intro b hb
  have:=hown' b (by simp only [qJ] at hb ⊢; exact hb.symm)
  exact ⟨this.2,this.1⟩
 ·rw [hc]
  exact vS.app hho2 g3
 ·intro d' hd'
  rw [hc] at hd'
  cases hd'
  exact g2
theorem zQj {c:Cert} {f:FuncId} {args:Array Operand} {tys:Array TypeId} {as ds:List D} {ids:List Nat} {bor:Bool} {hin hout:List Ent} {R:Option (D×List Ent)} {res d:D}
  {news:List (Nat×Ent)} (hg:o.guard=none) (hop:o.op= .call {callee:=.value (.func f),args:=args,argTypes:=tys}) (hcf:∀xs,yT Γ.P (callFunc f xs)=some (.enter f xs))
  (hal:as.length=args.size) (hargs:∀(k:Nat) (d:D),as[k]? =some d→∃x,args[k]? =some x∧OpF c x d)
  (ham:AmL c.hn ids bor as ds) (hids:ids.Nodup) (hinl:hin.length=ids.length) (hhin:∀x∈ids.zip hin,x∈c.hn) (hmen:∀e∈hin++hout,e.men=[])
  (hok:Ok Γ.P f ds hin R) (hR:R=some (res,hout)) (hol:hout.length≤hin.length) (hnm:Nm res d news) (hnews:(news.map (·.1)).Nodup)
  (hc:c= {tn:=c.tn,hn:=c.hn,out:=some d,hx:=ids,hw:=ids.zip hout++news,fr:=news.map (·.1)}) (hmm:∀x∈news,Γ.m≤x.1)
  (hbor:bor=true→zIg hout∧res.flat):Valid Γ ops o c:=by
 intro σ a w Q hdst hn ⟨h0,β,bs,hr⟩
 have hwt:Region.wanted o (yielded ops a.tmps)=true:=by simp [Region.wanted,hg]
 rw [if_pos hwt]
 have hvs:zK β (NS Γ w bs) w true as (args.toList.map a.eval) []:=zHK (c:=c) (by simpa using hal) (fun k d hk=>by
  obtain ⟨x,h1,h2⟩:=hargs k d hk
  exact ⟨x,by rw [Array.getElem?_toList]; exact h1,OpF.rep h2 hn hr⟩)
 have hex:(execOp a.eval o).run Γ.P w= .ok (.enter f (args.map a.eval)) w:=by
  have e:execOp a.eval o=callFunc f ((#[]++args.map a.eval)++ #[]):=by
   simp only [execOp,hop,resolve]
   rfl
  rw [e]
  simp only [Array.empty_append,Array.append_empty]
  exact zS _ _ w (hcf _)
 unfold Oper.wp
 rw [hex,Oper.upon_enter]
 have:=zLi (f:=f) (dst:=o.dst) h0 hr hdst hn hvs ham hids hinl hhin hmen hok hR hol hnm hnews hc hmm hbor
 rw [show (args.toList.map a.eval).toArray =args.map a.eval from (List.map_toArray ..).symm.trans (by rw [Array.toArray_toList])] at this
 refine this.mono fun e w' he=>?_
 obtain ⟨v,rfl,hrel⟩:=he
 exact hrel
theorem zO4 {c:Cert} {f:FuncId} {x0:Operand} {args:Array Operand} {tys:Array TypeId} {as ds caps:List D} {ids:List Nat} {bor:Bool} {hin hout:List Ent} {R:Option (D×List Ent)} {res d:D}
  {news:List (Nat×Ent)} (hg:o.guard=none) (hop:o.op= .call {callee:=.value x0,args:=args,argTypes:=tys}) (hx0:OpF c x0 (.fn f caps)) (hcf:∀xs,yT Γ.P (callFunc f xs)=some (.enter f xs))
  (hal:as.length=args.size) (hargs:∀(k:Nat) (d:D),as[k]? =some d→∃x,args[k]? =some x∧OpF c x d)
  (ham:AmL c.hn ids bor (as++caps) ds) (hids:ids.Nodup) (hinl:hin.length=ids.length) (hhin:∀x∈ids.zip hin,x∈c.hn) (hmen:∀e∈hin++hout,e.men=[])
  (hok:Ok Γ.P f ds hin R) (hR:R=some (res,hout)) (hol:hout.length≤hin.length) (hnm:Nm res d news) (hnews:(news.map (·.1)).Nodup)
  (hc:c= {tn:=c.tn,hn:=c.hn,out:=some d,hx:=ids,hw:=ids.zip hout++news,fr:=news.map (·.1)}) (hmm:∀x∈news,Γ.m≤x.1)
  (hbor:bor=true→zIg hout∧res.flat):Valid Γ ops o c:=by
 intro σ a w Q hdst hn ⟨h0,β,bs,hr⟩
 have hwt:Region.wanted o (yielded ops a.tmps)=true:=by simp [Region.wanted,hg]
 rw [if_pos hwt]
 have hvs:zK β (NS Γ w bs) w true as (args.toList.map a.eval) []:=zHK (c:=c) (by simpa using hal) (fun k d hk=>by
  obtain ⟨x,h1,h2⟩:=hargs k d hk
  exact ⟨x,by rw [Array.getElem?_toList]; exact h1,OpF.rep h2 hn hr⟩)
 have h1:=OpF.rep hx0 hn hr
 simp only [Rep] at h1
 obtain ⟨_,_,ws,hfv,hcaps⟩:=h1
 have hex:(execOp a.eval o).run Γ.P w= .ok (.enter f (args.map a.eval++ws.toArray)) w:=by
  have e:execOp a.eval o=(do let d ←Deferred.ofValue (a.eval x0) (args.map a.eval); invoke d.target d.args):=by
   simp only [execOp,hop,resolve]
  rw [e,hfv]
  show (callFunc f ((#[]++args.map a.eval)++ws.toArray)).run Γ.P w=_
  rw [Array.empty_append]
  exact zS _ _ w (hcf _)
 unfold Oper.wp
 rw [hex,Oper.upon_enter]
 have:=zLi (f:=f) (dst:=o.dst) h0 hr hdst hn (hvs.append hcaps) ham hids hinl hhin hmen hok hR hol hnm hnews hc hmm hbor
 rw [show (args.toList.map a.eval++ws).toArray =args.map a.eval++ws.toArray by rw [←List.append_toArray,←List.map_toArray,Array.toArray_toList]] at this
 refine this.mono fun e w' he=>?_
 obtain ⟨v,rfl,hrel⟩:=he
 exact hrel
end Go.Im
namespace Go.Im
open Go
def child (r:Bool):Code→Code
 | .seq a b=>if r then b else a
 | .cond _ x y=>if r then y else x
 | .block _ b=>b
 | .loop b=>b
 | .scope b=>b
 |_=>.skip
def zQr (fc:Code):Nat→Nat→Code
 |0,_=>.skip
 |f+1,p=>if p≤1 then fc else child (p%2==1) (zQr fc f (p / 2))
def sub (fc:Code) (p:Nat):Code:=zQr fc 250 p
inductive II where
 |c (p:Nat)
 |b (id:Nat)
 |l (p:Nat)
def II.item (fc:Code):II→Item
 | .c p=>.code (sub fc p)
 | .b id=>.inBlock id
 | .l p=>.inLoop (sub fc p)
def zM7 (id:Nat):List II→Option (List II)
 | .b id'::k=>if id'==id then some k else zM7 id k
 |_::k=>zM7 id k
 |[]=>none
theorem zG1 (fc:Code) (id:Nat):∀(k k':List II),zM7 id k=some k'→exitTo id (k.map (II.item fc))=some (k'.map (II.item fc))
 | .b id'::k,k',h=>by
  simp only [zM7] at h
  simp only [List.map_cons,II.item,exitTo]
  split at h
  ·rename_i hh; cases h; rw [if_pos hh]
  ·rename_i hh; rw [if_neg hh]; exact zG1 fc id k k' h
 | .c p::k,k',h=>by simp only [zM7] at h; simp only [List.map_cons,II.item,exitTo]; exact zG1 fc id k k' h
 | .l p::k,k',h=>by simp only [zM7] at h; simp only [List.map_cons,II.item,exitTo]; exact zG1 fc id k k' h
def zOJ (fc:Code) (tm:List (Nat×D)):List II→Option (List II)
 | .b _::k=>some k
 | .l p::k=>some (.c p:: .l p::k)
 | .c p::k=>if p=0∨1000000000000000000000000000000000000000000000000000000000000≤p then none else match sub fc p with
  | .skip =>some k
  | .label _=>some k
  | .seq _ _=>some (.c (2*p):: .c (2*p+1)::k)
  | .block id _=>some (.c (2*p):: .b id::k)
  | .loop _=>some (.c (2*p):: .l (2*p)::k)
  | .exit id=>zM7 id k
  | .cond (.tmp t) _ _=>match lk tm t with
   |some (.sc (.bool true))=>some (.c (2*p)::k)
   |some (.sc (.bool false))=>some (.c (2*p+1)::k)
   |_=>none
  |_=>none
 |[]=>none
def zNV (fc:Code) (tm:List (Nat×D)):Nat→List II→Option (List II)
 |0,k=>some k
 |n+1,k=>match zOJ fc tm k with
  |some k'=>zNV fc tm n k'
  |none=>none
def Goes (Γ:Ctx) (items:List Item) (R:Ending→World→Prop) (a:Act) (w:World):Prop:=
 ∀(b:Frame) (cs:List Frame),b.fn=Γ.fid→b.kind= .normal →∃e w' fr,R e w'∧Comes Γ.P (lone (b.at a items) cs w) (lone fr cs w') e∧fr.fn=Γ.fid∧fr.leaving Γ.P w' e
def J (Γ:Ctx) (fc:Code) (k:List II) (σ:St) {T:Type} (e:Option T) (K:T→Option (D×List Ent)):Prop:=
 ∀r out,e=some r→K r=some out→∀a w,Rel Γ σ a w→Goes Γ (k.map (II.item fc)) (Post Γ out.1 out.2) a w
variable {Γ:Ctx} {fc:Code} {k:List II} {σ:St} {T U:Type} {K:T→Option (D×List Ent)}
theorem zQt:J Γ fc k σ none K:=fun _ _ h=>by cases h
theorem zA {y:Option U} {f:U→Option T} (h:∀x,y=some x→J Γ fc k σ (f x) K):J Γ fc k σ (y.bind f) K:=by
 intro r out he
 cases hy:y with
 |none=>rw [hy] at he; cases he
 |some x=>rw [hy] at he; exact h x hy r out he
theorem zQm {V:Type} {W:Type} {q:V→W} {v:V} {K:W→Option (D×List Ent)} {e:Option T} {K0:T→Option (D×List Ent)} (hK:∀out,K (q v)=some out→∃r,e=some r∧K0 r=some out) (h:J Γ fc k σ e K0):
  J Γ fc k σ (some (q v)) K:=by
 intro r out he hk
 cases he
 obtain ⟨r',h1,h2⟩:=hK out hk
 exact h r' out h1 h2
theorem Goes.step {items items':List Item} {R:Ending→World→Prop} {a:Act} {w:World} (hs:∀(b:Frame) (cs:List Frame),step Γ.P (lone (b.at a items) cs w)= .next (lone (b.at a items') cs w))
  (h:Goes Γ items' R a w):Goes Γ items R a w:=by
 intro b cs hb hk
 obtain ⟨e,w',fr,h1,h2,h3⟩:=h b cs hb hk
 exact ⟨e,w',fr,h1,.of_steps (.one (hs b cs)) h2,h3⟩
theorem zGO (fc:Code):∀(f p:Nat),p<2^f→∀g,f≤g→1≤f→zQr fc g p=zQr fc f p
 |0,p,_,g,_,h1=>by omega
 |f+1,p,hp,0,hg,_=>by omega
 |f+1,p,hp,g+1,hg,_=>by
  simp only [zQr]
  split
  ·rfl
  ·rename_i hp1
   rcases Nat.eq_zero_or_pos f with h0|h0
   ·subst h0; simp at hp; omega
   ·rw [zGO fc f (p / 2) (by rw [Nat.pow_succ] at hp; omega) g (by omega) h0]
theorem zQD {p:Nat} (hp:1≤p) (hb:p<2^249):sub fc (2*p)=child false (sub fc p):=by
 unfold sub
 rw [show (250:Nat)=249+1 from rfl]
 rw [zQr]
 rw [if_neg (by omega)]
 rw [show 2*p / 2=p by omega,show ((2*p%2==1)=false) by simp]
 rw [zGO fc 249 p hb (249+1) (by omega) (by omega)]
theorem zPD {p:Nat} (hp:1≤p) (hb:p<2^249):sub fc (2*p+1)=child true (sub fc p):=by
 unfold sub
 rw [show (250:Nat)=249+1 from rfl]
 rw [zQr]
 rw [if_neg (by omega)]
 rw [show (2*p+1) / 2=p by omega,show (((2*p+1)%2==1)=true) by simp]
 rw [zGO fc 249 p hb (249+1) (by omega) (by omega)]
theorem zOz {tm:List (Nat×D)} {k k':List II} (h:zOJ fc tm k=some k') (hr:∀x∈tm,x∈σ.tm) {a:Act} {w:World} (hrel:Rel Γ σ a w) (b:Frame) (cs:List Frame):
  step Γ.P (lone (b.at a (k.map (II.item fc))) cs w)= .next (lone (b.at a (k'.map (II.item fc))) cs w):=by
 cases k with
 |nil=>simp [zOJ] at h
 |cons x k=>
  cases x with
  |b id=>simp only [zOJ] at h; cases h; exact step_inBlock
  |l p=>simp only [zOJ] at h; cases h; exact step_inLoop
  |c p=>
   simp only [zOJ] at h
   split at h
   ·cases h
   ·rename_i hp
    have hp1:1≤p:=by omega
    have hp2:p<2^249:=by
     have h1:p<1000000000000000000000000000000000000000000000000000000000000:=by omega
     have h2:(1000000000000000000000000000000000000000000000000000000000000:Nat)≤2^200:=by decide
     exact Nat.lt_of_lt_of_le (Nat.lt_of_lt_of_le h1 h2) (Nat.pow_le_pow_right (by omega) (by omega))
    have e0:=zQD (fc:=fc) hp1 hp2
    have e1:=zPD (fc:=fc) hp1 hp2
    split at h
    ·rename_i hs; cases h; simp only [List.map_cons,II.item,hs]; exact step_skip
    ·rename_i hs; cases h; simp only [List.map_cons,II.item,hs]; exact step_label
    ·rename_i hs; cases h; rw [hs] at e0 e1; simp only [List.map_cons,II.item,hs,e0,e1]; exact step_seq
    ·rename_i hs; cases h; rw [hs] at e0; simp only [List.map_cons,II.item,hs,e0]; exact step_block
    ·rename_i hs; cases h; rw [hs] at e0; simp only [List.map_cons,II.item,hs,e0]; exact step_loop
    ·rename_i hs; simp only [List.map_cons,II.item,hs]; exact step_exit (zG1 fc _ _ _ h)
    ·rename_i t x y hs
     obtain ⟨h0,β,bs,hrb⟩:=hrel
     split at h
     ·rename_i hl
      cases h
      rw [hs] at e0
      obtain ⟨v,h1,h2⟩:=hrb.tm t _ (hr _ (zAT hl))
      simp only [Rep] at h2
      simp only [List.map_cons,II.item,hs,e0]
      exact step_cond (t:=true) (by simp [Act.eval,Array.getD_eq_getD_getElem?,h1,h2.1])
     ·rename_i hl
      cases h
      rw [hs] at e1
      obtain ⟨v,h1,h2⟩:=hrb.tm t _ (hr _ (zAT hl))
      simp only [Rep] at h2
      simp only [List.map_cons,II.item,hs,e1]
      exact step_cond (t:=false) (by simp [Act.eval,Array.getD_eq_getD_getElem?,h1,h2.1])
     ·cases h
    ·cases h
theorem zQI {e:Option T} (n:Nat) (k':List II) (h:zNV fc σ.tm n k=some k') (hj:J Γ fc k' σ e K):J Γ fc k σ e K:=by
 intro r out he hk a w hrel
 have hg:=hj r out he hk a w hrel
 clear hj
 induction n generalizing k with
 |zero=>simp only [zNV] at h; cases h; exact hg
 |succ n ih=>
  simp only [zNV] at h
  split at h
  ·rename_i k1 hk1
   exact Goes.step (zOz hk1 (fun _ hx=>hx) hrel) (ih h)
  ·cases h
theorem zP7 {e:Option T} {p id:Nat} {ops:Array Oper} {draw:Bool} {cs:Nat→Cert} {σ1 σ2:St} (hs:sub fc p= .region id ops draw) (hm:Γ.P.follows .mixedOrders =true)
  (hv:∀i o,ops[i]? =some o→Valid Γ ops o (cs i)∧∀t,o.dst=some t→t<Γ.nt) (hd:draw=true→zQL ops cs ops.size 0 (Array.replicate ops.size false)=true)
  (hrun:zGL ops cs (fun s=>Eqv s σ1) ops.size 0 σ) (hweak:∀a w,Rel Γ σ1 a w→Rel Γ σ2 a w) (hj:J Γ fc k σ2 e K):J Γ fc (.c p::k) σ e K:=by
 intro r out he hk a w hrel b cs' hb hbk
 have hw:=region (id:=id) hm hv hd hrun hrel
 obtain ⟨ex,a',w',⟨rfl,hrel'⟩,harr⟩:=hw b (k.map (II.item fc)) cs'
 obtain ⟨en,w'',fr,h1,h2,h3⟩:=hj r out he hk a' w' (hweak _ _ hrel') b cs' hb hbk
 refine ⟨en,w'',fr,h1,?_,h3⟩
 simp only [List.map_cons,II.item,hs]
 exact .of_steps harr h2
theorem zGJ {e:Option T} {σ':St} (h:∀a w,Rel Γ σ a w→Rel Γ σ' a w) (hj:J Γ fc k σ' e K):J Γ fc k σ e K:=fun r out he hk a w hrel=>hj r out he hk a w (h a w hrel)
def zTf (σ:St) (P:Program):ResultVar→D→Prop
 | .tmp t,d=>(t,d)∈σ.tm
 | .cell t T,d=>∃q cs j,(t,.pt q 0 j)∈σ.tm∧(q,.box cs)∈σ.hp∧zDQ P T (cs.drop j)=some d
def zQa (σ:St) (P:Program):List ResultVar→List D→Prop
 |[],[]=>True
 |r::rs,d::ds=>zTf σ P r d∧zQa σ P rs ds
 |_,_=>False
inductive Ret (hn:List (Nat×Ent)):D→D→List Nat→Prop where
 |cell {d d':D} {ts:List Nat}:Emb hn [d] [d'] ts→Ret hn d d' ts
 |ag {cs cs':List D} {ts:List Nat}:Emb hn cs cs' ts→Ret hn (.ag cs) (.ag cs') ts
 |po {t:Nat} {cs:List D}:(t,Ent.box cs)∈hn→Ret hn (.pt t 0 0) (.po cs) [t]
inductive zN8 (hn:List (Nat×Ent)):List D→List D→List Nat→Prop where
 |nil:zN8 hn [] [] []
 |cons {d d':D} {ds ds':List D} {t1 t2:List Nat}:Ret hn d d' t1→zN8 hn ds ds' t2→(∀t∈t1,t∉t2)→zN8 hn (d::ds) (d'::ds') (t1++t2)
theorem zPQ (l:List (Nat×Ent)) (t1 t2:List Nat):(l.filter (fun x=> !t1.contains x.1)).filter (fun x=> !t2.contains x.1)=l.filter (fun x=> !(t1++t2).contains x.1):=by
 rw [List.filter_filter]
 congr 1; funext x
 by_cases h:x.1∈t1<;>by_cases h2:x.1∈t2<;>simp [h,h2]
theorem Ret.rep {β:Nat→Loc} {N:Nat→Prop} {w:World} {hn:List (Nat×Ent)} {d d':D} {ts:List Nat} (he:Ret hn d d' ts) {hp:List (Nat×Ent)} {bs:List Nat} {v:Value}
  (h:vS β N w hp bs) (hk:(hp.map (·.1)).Nodup) (hh:∀x∈hn,x.1∈ts→x∈hp) (hr:Rep β N w true d v []):
  ∃b1 bk,bs.Perm (b1++bk)∧Rep β N w true d' v b1∧vS β N w (hp.filter (fun x=> !ts.contains x.1)) bk:=by
 cases he with
 |cell he=>
  obtain ⟨b1,bk,q1,q2,q3⟩:=Emb.rep he h hk hh (ws:=[v]) (by simp only [zK]; exact ⟨v,[],[],[],rfl,rfl,hr,rfl,rfl⟩)
  simp only [zK] at q2
  obtain ⟨v',vs,c1,c2,e1,rfl,e3,e4,rfl⟩:=q2
  cases e1
  exact ⟨_,bk,q1,by simpa using e3.up,q3⟩
 |ag he=>
  simp only [Rep] at hr
  obtain ⟨h1,ws,rfl,h3,h4⟩:=hr
  obtain ⟨b1,bk,q1,q2,q3⟩:=Emb.rep he h hk hh h4
  exact ⟨b1,bk,q1,by simp only [Rep]; exact ⟨trivial,ws,rfl,h3,q2.up⟩,q3⟩
 | @po t cs hb=>
  obtain ⟨b1,bk,p1,hE,hrest⟩:=vS.take h hk (hh _ hb (by simp))
  simp only [Rep] at hr
  obtain ⟨_,_,hnil,rfl⟩:=hr
  obtain ⟨q1,q2,ws,q3,q4,q5⟩:=hE
  have hown:(β t).own =[(β t).b]:=by simp [Loc.own,hnil]
  rw [hown] at p1
  refine ⟨(β t).b ::b1,bk,by simpa using p1,?_,?_⟩
  ·simp only [Rep]
   exact ⟨trivial,_,_,_,ws,b1,by simp,rfl,q3,q4,q5⟩
  ·rw [show (hp.filter fun x=> !([t]:List Nat).contains x.1)=hp.filter (fun x=>x.1 !=t) from by
    congr 1; funext x; by_cases hx:x.1=t<;>simp [hx]]
   exact hrest
theorem zN8.rep {β:Nat→Loc} {N:Nat→Prop} {w:World} {hn:List (Nat×Ent)} {ds ds':List D} {ts:List Nat} (he:zN8 hn ds ds' ts):∀{hp:List (Nat×Ent)} {bs:List Nat} {vs:List Value},
  vS β N w hp bs→(hp.map (·.1)).Nodup →(∀x∈hn,x.1∈ts→x∈hp)→zK β N w true ds vs []→
  ∃b1 bk,bs.Perm (b1++bk)∧zK β N w true ds' vs b1∧vS β N w (hp.filter (fun x=> !ts.contains x.1)) bk:=by
 induction he with
 |nil=>intro hp bs vs h _ _ hr; exact ⟨[],bs,.refl _,hr,by rw [zGC]; exact h⟩
 |cons h1 _ hdis ih=>
  intro hp bs vs h hk hh hr
  simp only [zK] at hr
  obtain ⟨v,vs',b1,b2,rfl,hb,h3,h4⟩:=hr
  rw [(List.append_eq_nil_iff.1 hb.symm).1] at h3
  rw [(List.append_eq_nil_iff.1 hb.symm).2] at h4
  obtain ⟨c1,ck,q1,q2,q3⟩:=h1.rep h hk (fun x hx hxt=>hh x hx (by simp [hxt])) h3
  obtain ⟨c2,ck2,q4,q5,q6⟩:=ih q3 (List.Nodup.sublist (List.Sublist.map _ List.filter_sublist) hk) (fun x hx hxt=>by
   refine List.mem_filter.2 ⟨hh x hx (by simp [hxt]),?_⟩
   simp only [Bool.not_eq_eq_eq_not,Bool.not_true,List.contains_eq_mem,decide_eq_false_iff_not]
   intro h'; exact hdis _ h' hxt) h4
  rw [zPQ] at q6
  refine ⟨c1++c2,ck2,?_,?_,q6⟩
  ·refine q1.trans ?_
   rw [List.append_assoc]
   exact List.Perm.append_left _ q4
  ·simp only [zK]
   exact ⟨v,vs',c1,c2,rfl,rfl,q2,q5⟩
def zJp (a:Act):ResultVar→Sem Value
 | .tmp t=>pure (a.tmps.getD t undef)
 | .cell q t=>do loadVar t (←asAddr (a.tmps.getD q undef))
theorem zIW {β:Nat→Loc} {bs:List Nat} {a:Act} {w:World} (hr:RelB Γ β bs σ a w):∀{rs:List ResultVar} {ds:List D},zQa σ Γ.P rs ds→
  ∃vs:List Value,(rs.mapM (zJp a)).run Γ.P w=Result.ok vs w∧zK β (NS Γ w bs) w true ds vs []
 |[],[],_=>⟨[],rfl,by simp [zK]⟩
 |r::rs,d::ds,h=>by
  obtain ⟨h1,h2⟩:=h
  obtain ⟨vs,h3,h4⟩:=zIW hr h2
  have:∃v,(zJp a r).run Γ.P w=Result.ok v w∧Rep β (NS Γ w bs) w true d v []:=by
   cases r with
   |tmp t=>
    obtain ⟨v,g1,g2⟩:=hr.tm t d h1
    exact ⟨v,by simp only [zJp,Array.getD_eq_getD_getElem?,g1]; rfl,g2⟩
   |cell q T=>
    obtain ⟨e,cs,j,g1,g2,g3⟩:=h1
    obtain ⟨v,g4,g5⟩:=hr.tm q _ g1
    simp only [Rep] at g5
    obtain ⟨b1,⟨_,hz,ws,g6,g7,g8⟩,_,_⟩:=vS.get hr.hp g2
    obtain ⟨b2,b3,_,_,g9⟩:=g8.split j
    obtain ⟨u,g10,g11⟩:=zFi g3 (g6.has.drop j) (fun y hy=>g7 y (List.mem_of_mem_drop hy)) g9
    refine ⟨u,?_,g11⟩
    simp only [zJp,Array.getD_eq_getD_getElem?,g4,Option.getD_some,g5.2.2.2,Nat.zero_mul,Nat.add_zero]
    exact g10
  obtain ⟨v,g1,g2⟩:=this
  refine ⟨v::vs,?_,?_⟩
  ·rw [List.mapM_cons,run_bind_ok g1,run_bind_ok h3]
   rfl
  ·simp only [zK]
   exact ⟨v,vs,[],[],rfl,rfl,g2,h4⟩
def zPq:List D→D
 |[d]=>d
 |ds=>.tu ds
theorem zPI {P:Program} {fn:Func} {a:Act} {w:World} {vs:List Value} (h:(fn.results.toList.mapM (zJp a)).run P w=Result.ok vs w):
  (results fn a.tmps).run P w=Result.ok (if h:vs.length=1 then vs[0] else .tuple vs.toArray) w:=by
 have e:results fn a.tmps=(do let vs ←fn.results.mapM (zJp a); pure (if h:vs.size=1 then vs[0] else .tuple vs)):=by
  unfold results
  congr 1
 rw [e]
 have:(fn.results.mapM (zJp a)).run P w= .ok vs.toArray w:=by
  rw [Array.mapM_eq_mapM_toList,map_eq_pure_bind]
  rw [run_bind_ok h]
  rfl
 rw [run_bind_ok this]
 simp only [List.size_toArray,List.getElem_toArray]
 rfl
theorem zPT {β:Nat→Loc} {N:Nat→Prop} {w:World} {ds:List D} {vs:List Value} {bs:List Nat} (h:zK β N w true ds vs bs):Rep β N w true (zPq ds) (if h:vs.length=1 then vs[0] else .tuple vs.toArray) bs:=by
 have hl:=h.length
 cases ds with
 |nil=>
  have:vs=[]:=List.length_eq_zero_iff.1 (by simpa using hl)
  subst this
  simp only [zPq,Rep]
  exact ⟨trivial,[],by simp,h⟩
 |cons d ds=>
  cases ds with
  |nil=>
   simp only [zK] at h
   obtain ⟨v',vs',c1,c2,rfl,rfl,e3,rfl,rfl⟩:=h
   simpa [zPq] using e3
  |cons d2 ds=>
   have hne:¬vs.length=1:=by simp at hl; omega
   simp only [zPq,Rep,hne,dif_neg,not_false_eq_true]
   exact ⟨trivial,vs,rfl,h⟩
theorem zPw (ds:List D):∀t∈(zPq ds).men,t∈D.men.zER ds:=by
 intro t ht
 unfold zPq at ht
 split at ht
 ·simpa [D.men.zER] using ht
 ·simpa [D.men] using ht
theorem zSP {T:Type} {v:T} {K:T→Option (D×List Ent)} {fn:Func} {rs:List ResultVar} {ds ds':List D} {ts:List Nat} {hout:List Ent} (hk:k=[]∨∃p k',k= .c p::k'∧sub fc p= .ret) (hf:Γ.P.funcs[Γ.fid]? =some fn)
  (hrs:fn.results.toList=rs) (hds:zQa σ Γ.P rs ds) (hret:zN8 σ.hp ds ds' ts) (hout':∀x∈zFC hout,x∈σ.hp∧x.1∉ts) (hlen:hout.length≤Γ.m) (hm1:∀t∈D.men.zER ds',t<Γ.m) (hm2:∀e∈hout,∀t∈e.men,t<Γ.m)
  (hK:K v=some (zPq ds',hout)):J Γ fc k σ (some v) K:=by
 intro r out he hkk a w hrel b cs hb hbk
 cases he
 rw [hK] at hkk
 cases hkk
 obtain ⟨h0,β,bs,hr⟩:=hrel
 obtain ⟨vs,h1,h2⟩:=zIW hr hds
 obtain ⟨b1,bk,p1,h3,h4⟩:=zN8.rep hret hr.hp hr.keys (fun x hx _=>hx) h2
 have hek:((zFC hout).map (·.1)).Nodup :=by
  unfold zFC
  rw [List.map_map]
  have:((fun x:Nat×Ent=>x.1) ∘ fun x:Ent×Nat=>(x.2,x.1))=Prod.snd:=by funext x; rfl
  rw [this,List.zipIdx_map_snd]
  exact List.nodup_range'
 obtain ⟨b2,bk2,p2,h5,_⟩:=vS.takes h4 (List.Nodup.sublist (List.Sublist.map _ List.filter_sublist) hr.keys) hek (fun x hx=>by
  obtain ⟨g1,g2⟩:=hout' x hx
  exact List.mem_filter.2 ⟨g1,by simpa using g2⟩)
 have hp:bs.Perm ((b1++b2)++bk2):=by
  refine p1.trans ?_
  rw [List.append_assoc]
  exact List.Perm.append_left _ p2
 have hsub:∀x∈b1++b2,x∈bs:=fun x hx=>hp.mem_iff.2 (List.mem_append_left _ hx)
 have hres:=zPI (P:=Γ.P) (fn:=fn) (by rw [hrs]; exact h1)
 have hval:=zPT h3
 generalize (if h:vs.length=1 then vs[0] else .tuple vs.toArray)=vv at hres hval
 have hpost:Post Γ (zPq ds') hout (.returned vv) w:=by
  refine ⟨_,b1,b2,rfl,hr.quiet,hr.grow,hr.keep,(List.nodup_append.1 (hp.nodup_iff.1 hr.nodup)).1,fun b hb=>hr.own b (hsub b hb),?_,?_⟩
  ·exact Rep.frame (fun b hb=>⟨NS.sub hsub hb,rfl⟩) _ true _ b1 (fun _ _=>rfl) (fun t ht=>(hr.par t (hm1 t (zPw _ t ht))).symm) hval
  ·refine vS.frame (fun b hb=>⟨NS.sub hsub hb,rfl⟩) _ _ (fun _ _=>rfl) (fun t ht=>?_) h5
   obtain ⟨x,hx1,hx2⟩:=List.mem_flatMap.1 ht
   have hx3:=zL0.1 hx1
   refine (hr.par t ?_).symm
   rcases List.mem_cons.1 hx2 with rfl|hx2
   ·exact Nat.lt_of_lt_of_le (List.getElem?_eq_some_iff.1 hx3).1 hlen
   ·exact hm2 x.2 (List.mem_of_getElem? hx3) t hx2
 have hleave:∀todo,Frame.leaving Γ.P {b.at a todo with mode:=.returning} w (.returned vv):=by
  intro todo
  refine ⟨rfl,hr.defers,hbk,fn,?_,hres⟩
  show Γ.P.funcs[b.fn]? =some fn
  rw [hb]; exact hf
 rcases hk with rfl|⟨p,k',rfl,hs⟩
 ·exact ⟨_,w,{b.at a [] with mode:=.returning},hpost,Steps.one step_end,hb,hleave []⟩
 ·refine ⟨_,w,{b.at a (.code .ret ::k'.map (II.item fc)) with mode:=.returning},hpost,?_,hb,hleave _⟩
  simp only [List.map_cons,II.item,hs]
  exact Steps.one step_ret
theorem zI3 {d:D} {t:Nat}:∀{ds:List D},d∈ds→t∈d.men→t∈D.men.zER ds
 |x::ds,h,ht=>by
  simp only [D.men.zER,qJ]
  rcases List.mem_cons.1 h with e|h
  ·rw [←e]; exact .inl ht
  ·exact .inr (zI3 h ht)
theorem zSK {P:Program} {f:FuncId} {fn:Func} {args:List D} {hin:List Ent} {R:Option (D×List Ent)} {T:Type} {e:Option T} {K:T→Option (D×List Ent)} {nt:Nat} {us:List Nat} (hf:P.funcs[f]? =some fn) (hb:fn.body=some fc) (hnt:fn.ntmps=nt)
  (hna:args.length≤nt) (hus:∀t,t∈D.men.zER args∨t∈zIp (zFC hin)→t∈us) (hR:∀out,R=some out→∃r,e=some r∧K r=some out)
  (h:∀(w0:World) (N0:Nat→Prop) (O0:List Nat) (β0:Nat→Loc),J ⟨P,f,w0,N0,O0,hin.length,β0,nt⟩ fc [.c 1] ⟨args.zipIdx.map (fun x=>(x.2,x.1)),zFC hin,us⟩ e K):Ok P f args hin R:=by
 intro out hout w N β vs bs hargs hhp hnd hlt hN hG
 obtain ⟨r,hr1,hr2⟩:=hR out hout
 have hlen:=hargs.length
 have hgoes:=h w N bs β r out hr1 hr2 {tmps:=vs.toArray++Array.replicate (fn.ntmps-vs.toArray.size) undef,defers:=[]} w ?_
 ·intro cs
  let b:Frame:= {(default:Frame) with fn:=f,kind:=.normal}
  have henter:Frame.enter P f vs.toArray .normal =b.at {tmps:=vs.toArray++Array.replicate (fn.ntmps-vs.toArray.size) undef,defers:=[]} [.code fc]:=by
   simp [Frame.enter,Frame.at,hf,hb,b]
  have hsub:sub fc 1=fc:=by simp [sub,zQr]
  obtain ⟨en,w',fr,h1,h2,h3,h4⟩:=hgoes b cs rfl rfl
  simp only [List.map_cons,List.map_nil,II.item,hsub] at h2
  rw [←henter] at h2
  exact ⟨en,w',fr,h1,h2,h3,h4⟩
 ·have hNs:∀b,N b→NS ⟨P,f,w,N,bs,hin.length,β,nt⟩ w bs b:=fun b hb=>⟨.inl hb,(hN b hb).1,(hN b hb).2⟩
  refine ⟨?_,β,bs,{defers:=rfl,size:=?_,keys:=?_,par:=fun _ _=>rfl,gh:=fun q hq=>⟨(hG q hq).1,(hN _ (hG q hq).1).1,(hN _ (hG q hq).1).2,(hG q hq).2⟩,grow:=Nat.le_refl _,quiet:=⟨rfl,rfl⟩,keep:=fun _ _ _=>rfl,hp:=?_,nodup:=hnd,own:=fun b hb=>⟨hlt b hb,.inl hb⟩,tm:=?_}⟩
  ·intro t ht
   refine hus t (ht.imp (fun ht=>?_) id)
   obtain ⟨x,hx1,hx2⟩:=List.mem_flatMap.1 ht
   obtain ⟨y,hy1,rfl⟩:=List.mem_map.1 hx1
   have hy2:y.1∈args:=by
    have:=List.mem_zipIdx_iff_getElem?.1 hy1
    exact List.mem_of_getElem? this
   exact zI3 hy2 hx2
  ·simp only [Array.size_append,List.size_toArray,Array.size_replicate,hnt]; omega
  ·unfold zFC
   rw [List.map_map]
   have:((fun x:Nat×Ent=>x.1) ∘ fun x:Ent×Nat=>(x.2,x.1))=Prod.snd:=by funext x; rfl
   rw [this,List.zipIdx_map_snd]
   exact List.nodup_range'
  ·exact vS.frame (fun b hb=>⟨hNs b hb,rfl⟩) _ _ (fun _ _=>rfl) (fun _ _=>rfl) hhp
  ·intro t d hd
   obtain ⟨y,hy1,hy2⟩:=List.mem_map.1 hd
   cases hy2
   have hy3:=List.mem_zipIdx_iff_getElem?.1 hy1
   obtain ⟨v,h1,h2⟩:=zH3 hargs hy3
   refine ⟨v,?_,Rep.frame (fun b hb=>⟨hNs b hb,rfl⟩) _ true v [] (by simp) (fun _ _=>rfl) h2⟩
   have hlt':y.2<vs.length:=(List.getElem?_eq_some_iff.1 h1).1
   rw [Array.getElem?_append_left (by simpa using hlt')]
   simpa using h1
end Go.Im
namespace Go.Im
open Go
def zQQ (tm:List (Nat×D)):List (Nat×Operand)→Option (List (Nat×D)×List (Nat×D))
 |[]=>some ([],[])
 |(i,x)::xs=>match opd tm x,zQQ tm xs with
  |some (d,ns),some (ds,ms)=>some ((i,d)::ds,ns++ms)
  |_,_=>none
theorem zJ4 {tm:List (Nat×D)} {c:Cert}:∀{xs:List (Nat×Operand)} {ds ns:List (Nat×D)},zQQ tm xs=some (ds,ns)→(∀y∈ns,y∈c.tn)→
  ds.length=xs.length∧(∀(k i:Nat) (d:D),ds[k]? =some (i,d)→∃x,xs[k]? =some (i,x)∧OpF c x d)∧∀y∈ns,y∈tm
 |[],ds,ns,h,_=>by simp only [zQQ] at h; cases h; simp
 |(i,x)::xs,ds,ns,h,hs=>by
  simp only [zQQ] at h
  split at h
  ·rename_i d n1 ds' n2 h1 h2
   cases h
   obtain ⟨q1,q2⟩:=jC (c:=c) h1 (fun y hy=>hs y (by simp [hy]))
   obtain ⟨q3,q4,q5⟩:=zJ4 (c:=c) h2 (fun y hy=>hs y (by simp [hy]))
   refine ⟨by simp [q3],?_,fun y hy=>?_⟩
   ·intro k i' d' hk
    cases k with
    |zero=>simp at hk; obtain ⟨rfl,rfl⟩:=hk; exact ⟨x,rfl,q1⟩
    |succ k=>simp at hk; obtain ⟨x',g1,g2⟩:=q4 k i' d' hk; exact ⟨x',by simpa using g1,g2⟩
   ·rcases List.mem_append.1 hy with hy|hy
    ·exact q2 y hy
    ·exact q5 y hy
  ·cases h
def zSj (P:Program) (tm:List (Nat×D)) (o:Oper):Option Cert:=
 match zLy tm o.op.operands.toList with
 |some ns=>match yT P (execOp (rho tm) o) with
  |some (.value v)=>if zSp v then some {tn:=ns,out:=some (scD v)} else none
  |_=>none
 |none=>none
def elems (z:Nat):Nat→List D→List (List D)
 |0,_=>[]
 |n+1,ds=>ds.take z::elems z n (ds.drop z)
def ac0 (P:Program) (id:Option Nat) (o:Oper) (σ:St):Option Cert:=
 match o.op with
 | .move x=>(opd σ.tm x).map fun r=> {tn:=r.2,out:=some r.1}
 | .assign x=>(opd σ.tm x).map fun r=> {tn:=r.2,out:=some r.1}
 | .pick x y z=>match opd σ.tm x with
  |some (.sc (.bool b),n1)=>(opd σ.tm (if b then y else z)).map fun r=> {tn:=n1++r.2,out:=some r.1}
  |_=>none
 | .fieldAddr s x f=>match opd σ.tm x,zLb P s f with
  |some (.pt t i j,ns),some off=>some {tn:=ns,out:=some (.pt t i (j+off))}
  |some (.ps cs,ns),some off=>some {tn:=ns,out:=some (.ps (cs.drop off))}
  |_,_=>none
 | .load T x=>match opd σ.tm x with
  |some (.ps cs,ns)=>if cs.all zE1 then (zDQ P T cs).map fun d=> {tn:=ns,out:=some d} else none
  |some (.pt t 0 j,ns)=>match lk σ.hp t with
   |some (.box cs)=>(zDQ P T (cs.drop j)).map fun d=> {tn:=ns,hn:=[(t,.box cs)],out:=some d}
   |_=>none
  |_=>none
 | .store T x y=>match o.dst,opd σ.tm x,opd σ.tm y with
  |none,some (.pt t 0 j,n1),some (d,n2)=>match lk σ.hp t with
   |some (.box cs)=>if (cellsD d).all D.cell=true∧zGk P T=some (cellsD d).length ∧j+(cellsD d).length ≤cs.length then
     some {tn:=n1++n2,hn:=[(t,.box cs)],hx:=[t],hw:=[(t,.box (cs.take j++cellsD d++cs.drop (j+(cellsD d).length)))]} else none
   |_=>none
  |_,_,_=>none
 | .box _ x=>match id,opd σ.tm x with
  |some t,some (d,ns)=>if (cellsD d).all D.cell then some {tn:=ns,out:=some (.pt t 0 0),hw:=[(t,.box (cellsD d))],fr:=[t]} else none
  |_,_=>none
 | .alloc T=>match id,yT P (zeroValue T) with
  |some t,some zv=>if zv.cells.toList.all Value.oneCell then some {out:=some (.pt t 0 0),hw:=[(t,.box (zv.cells.toList.map D.sc))],fr:=[t]} else none
  |_,_=>none
 | .field S x f=>match opd σ.tm x,yT P (underlying S) with
  |some (.ag cs,ns),some (.struct fields)=>match fields[f]? with
   |some fl=>(zPx P fl.type cs fl.offset).map fun d=> {tn:=ns,out:=some d}
   |none=>none
  |_,_=>none
 | .extract x i=>match opd σ.tm x with
  |some (.tu vs,ns)=>(vs[i]?).map fun d=> {tn:=ns,out:=some d}
  |_=>none
 | .build T parts=>match zQQ σ.tm parts.toList,yT P (zeroValue T),placesOf P T with
  |some (ds,ns),some zv,some places=>if zv.cells.toList.all Value.oneCell=true∧ds.all (fun x=>(cellsD x.2).all D.cell)=true then
    (zJO (fun i=>places[i]?) (zv.cells.toList.map D.sc) ds).map fun cs=> {tn:=ns,out:=some (.ag cs)} else none
  |_,_,_=>none
 | .makeFunc (.func f) first caps=>if first.size=0 then (zQQ σ.tm (caps.toList.map fun x=>(0,x))).map fun r=> {tn:=r.2,out:=some (.fn f (r.1.map (·.2)))} else none
 | .nilCheck x=>match opd σ.tm x with
  |some (.pt t i j,ns)=>some {tn:=ns,out:=some (.pt t i j)}
  |_=>none
 | .call {callee:=.builtin .len,args:=args,argTypes:=ts}=>match args.toList,ts.toList with
  |[x],[T]=>match opd σ.tm x,yT P (underlying T) with
   |some (.s ow z n xs,ns),some (.slice el)=>some {tn:=ns,out:=some (.sc (.int .i64 n))}
   |some (.rf t off n cap,ns),some (.slice el)=>some {tn:=ns,out:=some (.sc (.int .i64 n))}
   |some (.ln n,ns),some (.slice el)=>some {tn:=ns,out:=some (.sc (.int .i64 n))}
   |_,_=>zSj P σ.tm o
  |_,_=>none
 | .select _ _=>none
 |_=>zSj P σ.tm o
structure Good (Γ:Ctx) (ops:Array Oper) (o:Oper) (σ:St) (c:Cert):Prop where
 v:(∀t∈c.fr,Γ.m≤t)→Valid Γ ops o c
 tn:∀x∈c.tn,x∈σ.tm
 hn:∀x∈c.hn,x∈σ.hp
variable {Γ:Ctx} {ops:Array Oper} {o:Oper} {σ:St}
theorem zLf {c:Cert} (hg:o.guard=none) (hsel:∀cs b,o.op≠ .select cs b) (h:zSj Γ.P σ.tm o=some c):Good Γ ops o σ c:=by
 unfold zSj at h
 split at h
 ·rename_i ns h1
  split at h
  ·rename_i v h2
   split at h
   ·rename_i h3
    cases h
    refine ⟨fun _=>zPU hg hsel h1 h2 rfl h3,?_,by simp⟩
    have:∀(xs:List Operand) (ns:List (Nat×D)),zLy σ.tm xs=some ns→∀x∈ns,x∈σ.tm:=by
     intro xs
     induction xs with
     |nil=>intro ns h; simp only [zLy] at h; cases h; simp
     |cons x xs ih=>
      intro ns h
      simp only [zLy] at h
      split at h
      ·rename_i v' n1 n2 q1 q2
       cases h
       intro y hy
       rcases List.mem_append.1 hy with hy|hy
       ·exact (jC (c:= {tn:=n1}) q1 (fun _ h=>h)).2 y hy
       ·exact ih n2 q2 y hy
      ·cases h
    exact this _ _ h1
   ·cases h
  ·cases h
 ·cases h
theorem zHg {c:Cert} {id:Option Nat} (hg:o.guard=none) (h:ac0 Γ.P id o σ=some c):Good Γ ops o σ c:=by
 unfold ac0 at h
 split at h
 case h_1 x hop=>
  cases hx:opd σ.tm x with
  |none=>rw [hx] at h; cases h
  |some r=>
   obtain ⟨d,ns⟩:=r
   rw [hx] at h; cases h
   obtain ⟨q1,q2⟩:=jC (c:= {tn:=ns}) hx (fun _ h=>h)
   exact ⟨fun _=>zSR hg (.inl hop) rfl q1,q2,by simp⟩
 case h_2 x hop=>
  cases hx:opd σ.tm x with
  |none=>rw [hx] at h; cases h
  |some r=>
   obtain ⟨d,ns⟩:=r
   rw [hx] at h; cases h
   obtain ⟨q1,q2⟩:=jC (c:= {tn:=ns}) hx (fun _ h=>h)
   exact ⟨fun _=>zSR hg (.inr hop) rfl q1,q2,by simp⟩
 case h_3 x y z hop=>
  split at h
  ·rename_i b n1 hx
   cases hy:opd σ.tm (if b then y else z) with
   |none=>rw [hy] at h; cases h
   |some r=>
    obtain ⟨d,n2⟩:=r
    rw [hy] at h; cases h
    obtain ⟨q1,q2⟩:=jC (c:= {tn:=n1++n2}) hx (fun y hy=>by simp [hy])
    obtain ⟨q3,q4⟩:=jC (c:= {tn:=n1++n2}) hy (fun y hy=>by simp [hy])
    refine ⟨fun _=>zSa hg hop rfl q1 q3,fun x hx=>?_,by simp⟩
    rcases List.mem_append.1 hx with hx|hx
    ·exact q2 x hx
    ·exact q4 x hx
  ·cases h
 case h_4 s x f hop=>
  split at h
  ·rename_i t i j ns off hx hf
   cases h
   obtain ⟨q1,q2⟩:=jC (c:= {tn:=ns}) hx (fun _ h=>h)
   exact ⟨fun _=>zQR hg hop rfl q1 hf,q2,by simp⟩
  ·rename_i cs ns off hx hf
   cases h
   obtain ⟨q1,q2⟩:=jC (c:= {tn:=ns}) hx (fun _ h=>h)
   exact ⟨fun _=>zN0 hg hop rfl q1 hf,q2,by simp⟩
  ·cases h
 case h_5 T x hop=>
  split at h
  ·rename_i cs ns hx
   split at h
   ·rename_i hok
    cases hd:zDQ Γ.P T cs with
    |none=>rw [hd] at h; cases h
    |some d=>
     rw [hd] at h; cases h
     obtain ⟨q1,q2⟩:=jC (c:= {tn:=ns}) hx (fun _ h=>h)
     exact ⟨fun _=>zON hg hop rfl q1 hd hok,q2,by simp⟩
   ·cases h
  ·rename_i t j ns hx
   split at h
   ·rename_i cs hl
    cases hd:zDQ Γ.P T (cs.drop j) with
    |none=>rw [hd] at h; cases h
    |some d=>
     rw [hd] at h; cases h
     obtain ⟨q1,q2⟩:=jC (c:= {tn:=ns,hn:=[(t,.box cs)]}) hx (fun _ h=>h)
     exact ⟨fun _=>zNu (cs:=cs) hg hop rfl q1 (by simp) hd,q2,by simpa using zAT hl⟩
   ·cases h
  ·cases h
 case h_6 T x y hop=>
  split at h
  ·rename_i t j n1 d n2 hdst hx hy
   split at h
   ·rename_i cs hl
    split at h
    ·rename_i hc
     cases h
     obtain ⟨q1,q2⟩:=jC (c:= {tn:=n1++n2,hn:=[(t,.box cs)]}) hx (fun y hy=>by simp [hy])
     obtain ⟨q3,q4⟩:=jC (c:= {tn:=n1++n2,hn:=[(t,.box cs)]}) hy (fun y hy=>by simp [hy])
     refine ⟨fun _=>zMx (cs:=cs) (d:=d) hg hop hdst rfl q1 q3 hc.1 hc.2.1 hc.2.2 (by simp),fun x hx=>?_,by simpa using zAT hl⟩
     rcases List.mem_append.1 hx with hx|hx
     ·exact q2 x hx
     ·exact q4 x hx
    ·cases h
   ·cases h
  ·cases h
 case h_7 T x hop=>
  split at h
  ·rename_i t d ns hx
   split at h
   ·rename_i hc
    cases h
    obtain ⟨q1,q2⟩:=jC (c:= {tn:=ns}) hx (fun _ h=>h)
    exact ⟨fun hm=>zS5 hg hop rfl (hm t (by simp)) q1 hc,q2,by simp⟩
   ·cases h
  ·cases h
 case h_8 T hop=>
  split at h
  ·rename_i t zv hz
   split at h
   ·rename_i hc
    cases h
    exact ⟨fun hm=>zQY hg hop hz rfl hc rfl (hm t (by simp)),by simp,by simp⟩
   ·cases h
  ·cases h
 case h_9 S x f hop=>
  split at h
  ·rename_i cs ns fields hx hS
   split at h
   ·rename_i fl hf
    cases hd:zPx Γ.P fl.type cs fl.offset with
    |none=>rw [hd] at h; cases h
    |some d=>
     rw [hd] at h; cases h
     obtain ⟨q1,q2⟩:=jC (c:= {tn:=ns}) hx (fun _ h=>h)
     exact ⟨fun _=>zQ8 hg hop rfl q1 hS hf hd,q2,by simp⟩
   ·cases h
  ·cases h
 case h_10 x i hop=>
  split at h
  ·rename_i vs ns hx
   cases hd:vs[i]? with
   |none=>rw [hd] at h; cases h
   |some d=>
    rw [hd] at h; cases h
    obtain ⟨q1,q2⟩:=jC (c:= {tn:=ns}) hx (fun _ h=>h)
    exact ⟨fun _=>zOI hg hop rfl q1 hd,q2,by simp⟩
  ·cases h
 case h_11 T parts hop=>
  split at h
  ·rename_i ds ns zv places hp hz hpl
   split at h
   ·rename_i hc
    cases hd:zJO (fun i=>places[i]?) (zv.cells.toList.map D.sc) ds with
    |none=>rw [hd] at h; cases h
    |some cs=>
     rw [hd] at h; cases h
     obtain ⟨q1,q2,q3⟩:=zJ4 (c:= {tn:=ns,out:=some (.ag cs)}) hp (fun _ h=>h)
     refine ⟨fun _=>zQH (ds:=ds) hg hop rfl hz hpl hc.1 (by simpa using q1) (fun k i d hk=>?_) hd,q3,by simp⟩
     obtain ⟨x,g1,g2⟩:=q2 k i d hk
     refine ⟨x,by rw [←Array.getElem?_toList]; exact g1,g2,?_⟩
     have:=List.all_eq_true.1 hc.2 (i,d) (List.mem_of_getElem? hk)
     exact this
   ·cases h
  ·cases h
 case h_12 f first caps hop=>
  split at h
  ·rename_i hfs
   cases hp:zQQ σ.tm (caps.toList.map fun x=>(0,x)) with
   |none=>rw [hp] at h; cases h
   |some r=>
    obtain ⟨ds,ns⟩:=r
    rw [hp] at h; cases h
    obtain ⟨q1,q2,q3⟩:=zJ4 (c:= {tn:=ns,out:=some (.fn f (ds.map (·.2)))}) hp (fun _ h=>h)
    have hfe:first= #[]:=Array.eq_empty_of_size_eq_zero hfs
    subst hfe
    refine ⟨fun _=>zRC hg hop rfl (by simpa using q1) (fun k d hk=>?_),q3,by simp⟩
    rw [List.getElem?_map] at hk
    obtain ⟨⟨i,d'⟩,g1,g2⟩:=Option.map_eq_some_iff.1 hk
    simp only at g2; subst g2
    obtain ⟨x,g3,g4⟩:=q2 k i d' g1
    rw [List.getElem?_map] at g3
    obtain ⟨x',g5,g6⟩:=Option.map_eq_some_iff.1 g3
    cases g6
    exact ⟨x,by rw [←Array.getElem?_toList]; exact g5,g4⟩
  ·cases h
 case h_13 x hop=>
  split at h
  ·rename_i t i j ns hx
   cases h
   obtain ⟨q1,q2⟩:=jC (c:= {tn:=ns}) hx (fun _ h=>h)
   exact ⟨fun _=>zNR hg hop rfl q1,q2,by simp⟩
  ·cases h
 case h_14 args ts hop=>
  split at h
  ·rename_i x T ha ht
   have ha':args= #[x]:=by rw [←Array.toArray_toList (xs:=args),ha]
   have ht':ts= #[T]:=by rw [←Array.toArray_toList (xs:=ts),ht]
   subst ha'; subst ht'
   split at h
   ·rename_i ow z n xs ns el hx hT
    cases h
    obtain ⟨q1,q2⟩:=jC (c:= {tn:=ns}) hx (fun _ h=>h)
    exact ⟨fun _=>zQJ (t:=0) (off:=0) (cap:=none) (ty:=0) (oo:=0) hg hop rfl (.inl rfl) q1 hT,q2,by simp⟩
   ·rename_i t off n cap ns el hx hT
    cases h
    obtain ⟨q1,q2⟩:=jC (c:= {tn:=ns}) hx (fun _ h=>h)
    exact ⟨fun _=>zQJ (z:=0) (xs:=[]) (ow:=false) (ty:=0) (oo:=0) hg hop rfl (.inr (.inl rfl)) q1 hT,q2,by simp⟩
   ·rename_i n ns el hx hT
    cases h
    obtain ⟨q1,q2⟩:=jC (c:= {tn:=ns}) hx (fun _ h=>h)
    exact ⟨fun _=>zQJ (t:=0) (off:=0) (cap:=none) (z:=0) (xs:=[]) (ow:=false) (ty:=0) (oo:=0) hg hop rfl (.inr (.inr rfl)) q1 hT,q2,by simp⟩
   ·exact zLf hg (fun cs b=>by rw [hop]; simp) h
  ·cases h
 case h_15=>cases h
 case h_16=>exact zLf hg (fun cs b e=>by simp_all) h
end Go.Im
namespace Go.Im
open Go
def acG (P:Program) (ops:Array Oper) (id:Option Nat) (o:Oper) (σ:St):Option Cert:=
 match o.guard with
 |none=>ac0 P id o σ
 |some (g,want)=>match (ops[g]?).bind (·.dst) with
  |some t=>match lk σ.tm t with
   |some (.sc (.bool true))=>if want then (ac0 P id {o with guard:=none} σ).map fun c=> {c with tn:=(t,.sc (.bool true))::c.tn} else some {tn:=[(t,.sc (.bool true))]}
   |some (.sc (.bool false))=>if want then some {tn:=[(t,.sc (.bool false))]} else (ac0 P id {o with guard:=none} σ).map fun c=> {c with tn:=(t,.sc (.bool false))::c.tn}
   |_=>none
  |none=>none
variable {Γ:Ctx} {ops:Array Oper} {o:Oper} {σ:St}
theorem zPV {c:Cert} {id:Option Nat} (h:acG Γ.P ops id o σ=some c):Good Γ ops o σ c:=by
 unfold acG at h
 split at h
 ·rename_i hg; exact zHg hg h
 ·rename_i g want hg
  split at h
  ·rename_i t ht
   split at h
   ·rename_i hl
    split at h
    ·rename_i hw
     subst hw
     cases hc:ac0 Γ.P id {o with guard:=none} σ with
     |none=>rw [hc] at h; cases h
     |some c'=>
      rw [hc] at h; cases h
      have q:=zHg (Γ:=Γ) (ops:=ops) (o:= {o with guard:=none}) rfl hc
      exact ⟨fun hm=>zFT hg ht rfl (q.v hm),fun x hx=>by
       rcases List.mem_cons.1 hx with rfl|hx
       ·exact zAT hl
       ·exact q.tn x hx,q.hn⟩
    ·rename_i hw
     cases h
     have:want=false:=by simpa using hw
     subst this
     exact ⟨fun _=>valid_skip (b:=true) hg ht,by simpa using zAT hl,by simp⟩
   ·rename_i hl
    split at h
    ·rename_i hw
     subst hw
     cases h
     exact ⟨fun _=>valid_skip (b:=false) hg ht,by simpa using zAT hl,by simp⟩
    ·rename_i hw
     have:want=false:=by simpa using hw
     subst this
     cases hc:ac0 Γ.P id {o with guard:=none} σ with
     |none=>rw [hc] at h; cases h
     |some c'=>
      rw [hc] at h; cases h
      have q:=zHg (Γ:=Γ) (ops:=ops) (o:= {o with guard:=none}) rfl hc
      exact ⟨fun hm=>zFT hg ht rfl (q.v hm),fun x hx=>by
       rcases List.mem_cons.1 hx with rfl|hx
       ·exact zAT hl
       ·exact q.tn x hx,q.hn⟩
   ·cases h
  ·cases h
structure RR where
 st:St
 cs:List Cert
 L:List (Option D)
 E:List (Option D)
 Lh:List (Option Ent)
 Eh:List (Option Ent)
 ok:Bool
def RR.fail (σ:St):RR:=⟨σ,[],[],[],[],[],false⟩
def zHw (P:Program) (nt m:Nat) (ops:Array Oper) (orc:List (Nat×Cert)) (ids:List (Nat×Nat)):Nat→Nat→St→RR
 |0,_,σ=>⟨σ,[],[],[],[],[],true⟩
 |n+1,k,σ=>match ops[k]? with
  |none=>.fail σ
  |some o=>
   let fine (c:Cert):Bool:=(match o.dst with|some t=>decide (t<nt)|none=>true)&&c.fr.all (fun t=> !σ.us.contains t&&decide (m≤t))
   match lk orc k with
   |some c=>let r:=zHw P nt m ops orc ids n (k+1) (σ.upd o.dst c)
    ⟨r.st,c::r.cs,c.tn.map (fun x=>lk σ.tm x.1)++r.L,c.tn.map (fun x=>some x.2)++r.E,c.hn.map (fun x=>lk σ.hp x.1)++r.Lh,c.hn.map (fun x=>some x.2)++r.Eh,r.ok&&fine c⟩
   |none=>match acG P ops (lk ids k) o σ with
    |some c=>let r:=zHw P nt m ops orc ids n (k+1) (σ.upd o.dst c)
     ⟨r.st,c::r.cs,r.L,r.E,r.Lh,r.Eh,r.ok&&fine c⟩
    |none=>.fail σ
theorem zEv {α:Type} {l:List (Nat×α)}:∀{tn:List (Nat×α)},tn.map (fun x=>lk l x.1)=tn.map (fun x=>some x.2)→∀x∈tn,x∈l
 |[],_,x,hx=>by simp at hx
 |y::tn,h,x,hx=>by
  simp only [List.map_cons,List.cons.injEq] at h
  rcases List.mem_cons.1 hx with rfl|hx
  ·exact zAT h.1
  ·exact zEv h.2 x hx
theorem zKt {orc:List (Nat×Cert)} {ids:List (Nat×Nat)} {nt:Nat} (hnt:Γ.nt=nt) (hor:∀i c,lk orc i=some c→∀o,ops[i]? =some o→Valid Γ ops o c):∀(n k:Nat) (σ:St),k+n=ops.size→
  (zHw Γ.P nt Γ.m ops orc ids n k σ).ok =true→(zHw Γ.P nt Γ.m ops orc ids n k σ).L =(zHw Γ.P nt Γ.m ops orc ids n k σ).E →(zHw Γ.P nt Γ.m ops orc ids n k σ).Lh =(zHw Γ.P nt Γ.m ops orc ids n k σ).Eh →
  ∀(cs:Nat→Cert),(∀i,i<n→cs (k+i)=(zHw Γ.P nt Γ.m ops orc ids n k σ).cs.getD i {})→
  (∀i o,k≤i→ops[i]? =some o→Valid Γ ops o (cs i)∧∀t,o.dst=some t→t<Γ.nt)∧zGL ops cs (fun s=>s=(zHw Γ.P nt Γ.m ops orc ids n k σ).st) n k σ
 |0,k,σ,hk,hok,hL,hLh,cs,hcs=>by
  refine ⟨fun i o hi ho=>?_,rfl⟩
  rw [Array.getElem?_eq_none (by omega)] at ho
  cases ho
 |n+1,k,σ,hk,hok,hL,hLh,cs,hcs=>by
  have hget:ops[k]? =some ops[k]:=Array.getElem?_eq_getElem (by omega)
  have h0:=hcs 0 (by omega)
  have key:∀(c:Cert),(zHw Γ.P nt Γ.m ops orc ids n (k+1) (σ.upd ops[k].dst c)).ok =true→(zHw Γ.P nt Γ.m ops orc ids n (k+1) (σ.upd ops[k].dst c)).L =(zHw Γ.P nt Γ.m ops orc ids n (k+1) (σ.upd ops[k].dst c)).E →
    (zHw Γ.P nt Γ.m ops orc ids n (k+1) (σ.upd ops[k].dst c)).Lh =(zHw Γ.P nt Γ.m ops orc ids n (k+1) (σ.upd ops[k].dst c)).Eh →cs k=c→
    (∀i,i<n→cs (k+1+i)=(zHw Γ.P nt Γ.m ops orc ids n (k+1) (σ.upd ops[k].dst c)).cs.getD i {})→Valid Γ ops ops[k] c→Nd c σ→(∀t,ops[k].dst =some t→t<Γ.nt)→
    (∀i o,k≤i→ops[i]? =some o→Valid Γ ops o (cs i)∧∀t,o.dst=some t→t<Γ.nt)∧zGL ops cs (fun s=>s=(zHw Γ.P nt Γ.m ops orc ids n (k+1) (σ.upd ops[k].dst c)).st) (n+1) k σ:=by
   intro c g1 g2 g3 g4 g5 g6 g7 g8
   obtain ⟨q1,q2⟩:=zKt hnt hor n (k+1) _ (by omega) g1 g2 g3 cs g5
   refine ⟨fun i o hi ho=>?_,?_⟩
   ·rcases Nat.eq_or_lt_of_le hi with rfl|hi
    ·rw [hget] at ho; cases ho
     rw [g4]; exact ⟨g6,g8⟩
    ·exact q1 i o hi ho
   ·simp only [zGL,hget,qA]
    rw [g4]
    exact ⟨g7,q2⟩
  have hfine:∀c:Cert,((match ops[k].dst with|some t=>decide (t<nt)|none=>true)&&c.fr.all (fun t=> !σ.us.contains t&&decide (Γ.m≤t)))=true→
    (∀t,ops[k].dst =some t→t<Γ.nt)∧(∀t∈c.fr,t∉σ.us)∧∀t∈c.fr,Γ.m≤t:=by
   intro c hc
   simp only [Bool.and_eq_true] at hc
   refine ⟨fun t ht=>?_,fun t ht=>?_,fun t ht=>?_⟩
   ·have:=hc.1; rw [ht] at this; rw [hnt]; simpa using this
   ·have:=List.all_eq_true.1 hc.2 t ht; simp at this; exact this.1
   ·have:=List.all_eq_true.1 hc.2 t ht; simp at this; exact this.2
  simp only [zHw,hget] at hok hL hLh hcs h0 ⊢
  cases horc:lk orc k with
  |some c=>
   simp only [horc,Bool.and_eq_true] at hok hL hLh hcs h0 ⊢
   obtain ⟨f1,f2,f3⟩:=hfine c (by simpa using hok.2)
   have hL':=List.append_inj hL (by simp)
   have hLh':=List.append_inj hLh (by simp)
   refine key c hok.1 hL'.2 hLh'.2 (by simpa using h0) (fun i hi=>?_) (hor k c horc _ hget) ⟨zEv hL'.1,zEv hLh'.1,f2⟩ f1
   have:=hcs (i+1) (by omega)
   rw [show k+1+i=k+(i+1) by omega,this]
   simp
  |none=>
   simp only [horc] at hok hL hLh hcs h0 ⊢
   cases hac:acG Γ.P ops (lk ids k) ops[k] σ with
   |none=>simp only [hac,RR.fail] at hok; cases hok
   |some c=>
    simp only [hac,Bool.and_eq_true] at hok hL hLh hcs h0 ⊢
    obtain ⟨f1,f2,f3⟩:=hfine c (by simpa using hok.2)
    have q:=zPV hac
    refine key c hok.1 hL hLh (by simpa using h0) (fun i hi=>?_) (q.v f3) ⟨q.tn,q.hn,f2⟩ f1
    have:=hcs (i+1) (by omega)
    rw [show k+1+i=k+(i+1) by omega,this]
    simp
def zEW:List Nat→Bool
 |[]=>true
 |t::ts=> !ts.contains t&&zEW ts
theorem zBE:∀{l:List Nat},zEW l=true→l.Nodup
 |[],_=>by simp
 |t::ts,h=>by
  simp only [zEW,Bool.and_eq_true] at h
  exact List.nodup_cons.2 ⟨by simpa using h.1,zBE h.2⟩
def chk (P:Program) (nt m:Nat) (fc:Code) (p:Nat) (orc:List (Nat×Cert)) (ids:List (Nat×Nat)) (σ:St) (tm2:List (Nat×D)) (hp2:List (Nat×Ent)):List (Option D)×List (Option D)×List (Option Ent)×List (Option Ent)×Bool:=
 match sub fc p with
 | .region _ ops draw=>
  let r:=zHw P nt m ops orc ids ops.size 0 σ
  (r.L++tm2.map (fun x=>lk r.st.tm x.1),r.E++tm2.map (fun x=>some x.2),r.Lh++hp2.map (fun x=>lk r.st.hp x.1),r.Eh++hp2.map (fun x=>some x.2),
   r.ok&&zEW (hp2.map (·.1))&&(!draw||zQL ops (fun i=>r.cs.getD i {}) ops.size 0 (Array.replicate ops.size false)))
 |_=>([],[],[],[],false)
def opAt (fc:Code) (p i:Nat):Option Oper:=match sub fc p with
 | .region _ ops _=>ops[i]?
 |_=>none
def zLl (fc:Code) (p i:Nat):Option Nat:=(opAt fc p i).bind (·.dst)
def zJH (Γ:Ctx) (fc:Code) (p:Nat):List (Nat×Cert)→Prop
 |[]=>True
 |(i,c)::rest=>(∀id ops draw,sub fc p= .region id ops draw→∀o,ops[i]? =some o→Valid Γ ops o c)∧zJH Γ fc p rest
theorem zJH.get {fc:Code} {p:Nat}:∀{orc:List (Nat×Cert)},zJH Γ fc p orc→∀i c,lk orc i=some c→∀id ops draw,sub fc p= .region id ops draw→∀o,ops[i]? =some o→Valid Γ ops o c
 |(j,c')::rest,h,i,c,hl=>by
  simp only [lk] at hl
  split at hl
  ·rename_i e; cases hl; subst e; exact h.1
  ·exact zJH.get h.2 i c hl
theorem zSY {fc:Code} {p i:Nat} {c:Cert} {op:Op} (h:(opAt fc p i).map (fun o=>(o.op,o.guard))=some (op,none)) (hv:∀ops o,o.op=op→o.guard=none→Valid Γ ops o c):
  ∀id ops draw,sub fc p= .region id ops draw→∀o,ops[i]? =some o→Valid Γ ops o c:=by
 intro id ops draw hs o ho
 have e:opAt fc p i=some o:=by unfold opAt; rw [hs]; exact ho
 rw [e] at h
 simp at h
 exact hv ops o h.1 h.2
theorem zTn {fc:Code} {p i g t:Nat} {b:Bool} {c:Cert} {op:Op} (h:(opAt fc p i).map (fun o=>(o.op,o.guard))=some (op,some (g,b))) (hd:zLl fc p g=some t) (hv:∀ops o,o.op=op→o.guard=none→Valid Γ ops o c):
  ∀id ops draw,sub fc p= .region id ops draw→∀o,ops[i]? =some o→Valid Γ ops o {c with tn:=(t,.sc (.bool b))::c.tn}:=by
 intro id ops draw hs o ho
 have e:opAt fc p i=some o:=by unfold opAt; rw [hs]; exact ho
 rw [e] at h
 simp at h
 refine zFT h.2 ?_ rfl (hv ops _ h.1 rfl)
 unfold zLl opAt at hd
 rw [hs] at hd
 exact hd
variable {fc:Code} {k:List II} {T:Type} {K:T→Option (D×List Ent)}
def St.mk' (tm:List (Nat×D)) (hp:List (Nat×Ent)):St:=⟨tm,hp,zLU tm++zIp hp⟩
theorem zSu {e:Option T} {p:Nat} (orc:List (Nat×Cert)) (ids:List (Nat×Nat)) (tm2:List (Nat×D)) (hp2:List (Nat×Ent)) (hm:Γ.P.follows .mixedOrders =true) (hor:zJH Γ fc p orc)
  (h:((chk Γ.P Γ.nt Γ.m fc p orc ids σ tm2 hp2).1,(chk Γ.P Γ.nt Γ.m fc p orc ids σ tm2 hp2).2.2.1,(chk Γ.P Γ.nt Γ.m fc p orc ids σ tm2 hp2).2.2.2.2)=
   ((chk Γ.P Γ.nt Γ.m fc p orc ids σ tm2 hp2).2.1,(chk Γ.P Γ.nt Γ.m fc p orc ids σ tm2 hp2).2.2.2.1,true))
  (hj:J Γ fc k (St.mk' tm2 hp2) e K):J Γ fc (.c p::k) σ e K:=by
 simp only [Prod.mk.injEq] at h
 obtain ⟨h1,h2,h3⟩:=h
 cases hs:sub fc p with
 |region id ops draw=>
  unfold chk at h1 h2 h3
  simp only [hs,Bool.and_eq_true] at h1 h2 h3
  have hlen:∀(n kk:Nat) (s:St),(zHw Γ.P Γ.nt Γ.m ops orc ids n kk s).L.length =(zHw Γ.P Γ.nt Γ.m ops orc ids n kk s).E.length ∧(zHw Γ.P Γ.nt Γ.m ops orc ids n kk s).Lh.length =(zHw Γ.P Γ.nt Γ.m ops orc ids n kk s).Eh.length :=by
   intro n
   induction n with
   |zero=>intro kk s; simp [zHw]
   |succ n ih=>
    intro kk s
    simp only [zHw]
    split
    ·simp [RR.fail]
    ·rename_i o' _
     split
     ·rename_i c _
      have:=ih (kk+1) (s.upd o'.dst c)
      simp [this.1,this.2]
     ·split
      ·rename_i c _
       exact ih (kk+1) (s.upd o'.dst c)
      ·simp [RR.fail]
  obtain ⟨l1,l2⟩:=hlen ops.size 0 σ
  have a1:=List.append_inj h1 l1
  have a2:=List.append_inj h2 l2
  obtain ⟨q1,q2⟩:=zKt rfl (fun i c hc o ho=>zJH.get hor i c hc id ops draw hs o ho) ops.size 0 σ (by omega) h3.1.1 a1.1 a2.1 (fun i=>(zHw Γ.P Γ.nt Γ.m ops orc ids ops.size 0 σ).cs.getD i {}) (fun i hi=>by rw [Nat.zero_add])
  refine zP7 (cs:=fun i=>(zHw Γ.P Γ.nt Γ.m ops orc ids ops.size 0 σ).cs.getD i {}) (σ1:=(zHw Γ.P Γ.nt Γ.m ops orc ids ops.size 0 σ).st) (σ2:=St.mk' tm2 hp2) hs hm (fun i o ho=>q1 i o (Nat.zero_le _) ho) ?_ ?_ ?_ hj
  ·intro hdr
   have:=h3.2
   rw [hdr] at this
   simpa using this
  ·have:∀(n kk:Nat) (s:St) (F G:St→Prop),(∀x,F x→G x)→zGL ops (fun i=>(zHw Γ.P Γ.nt Γ.m ops orc ids ops.size 0 σ).cs.getD i {}) F n kk s→zGL ops (fun i=>(zHw Γ.P Γ.nt Γ.m ops orc ids ops.size 0 σ).cs.getD i {}) G n kk s:=by
    intro n
    induction n with
    |zero=>intro kk s F G hFG h; exact hFG _ h
    |succ n ih=>intro kk s F G hFG h; exact ⟨h.1,ih _ _ F G hFG h.2⟩
   exact this _ _ _ _ _ (fun x hx=>by rw [hx]; exact Eqv.refl _) q2
  ·intro a w hrel
   refine Rel.weak hrel (zEv a1.2) (zEv a2.2) (zBE h3.1.2) ?_
   intro t ht
   simpa [St.mk'] using ht
 |_=>
  unfold chk at h3
  simp only [hs] at h3
  cases h3
end Go.Im
namespace Go.Im
open Go
variable {Γ:Ctx} {fc:Code} {k:List II} {σ:St} {T U:Type} {K:T→Option (D×List Ent)}
inductive Fl (R V:Type) where
 |ret (r:R)
 |nxt (v:V)
def Fl.go {R V S:Type} (fr:R→Option S) (fn:V→Option S):Fl R V→Option S
 | .ret r=>fr r
 | .nxt v=>fn v
theorem zJj {y:Option U} {f:U→Option T} (h:J Γ fc k σ y (fun x=>(f x).bind K)):J Γ fc k σ (y.bind f) K:=by
 intro r out he hk
 cases hy:y with
 |none=>rw [hy] at he; cases he
 |some x=>
  rw [hy] at he
  exact h x out hy (by show (f x).bind K=some out; rw [show f x=some r from he]; exact hk)
abbrev w64 (x:Int):Int:=IntKind.i64.wrap x
end Go.Im
namespace Go.Im
open Go
section
variable {Γ:Ctx} {ops:Array Oper} {o:Oper}
theorem zNF {c:Cert} {x y:Operand} {T U el e':TypeId} {t ts m z bytes:Nat} {cs:Option Nat} {zv:Value} {ys:List (List D)} (hg:o.guard=none)
  (hop:o.op= .call {callee:=.builtin .append,args:= #[x,y],argTypes:= #[T,U]}) (hc:c= {tn:=c.tn,hn:=c.hn,out:=some (.rf t 0 m none),hx:=[ts],hw:=[(t,.row z ys)],fr:=[t]})
  (hm:Γ.m≤t) (hx:OpF c x (.sc (.slice none 0 0))) (hy:OpF c y (.rf ts 0 m cs)) (hyr:(ts,.row z ys)∈c.hn) (hly:ys.length=m)
  (hT:Γ.P.underlying T=some (.slice el)) (hU:Γ.P.underlying U=some (.slice e')) (hinfo:(Γ.P.info? el).map (fun i=>(i.zero,i.size,i.bytes))=some (some zv,z,bytes)) (hzs:zv.cells.size=z)
  (hone:∀e∈ys,e.all zE1=true) (hbig:m*bytes≤140737488355328) (h62:m≤4611686018427387904):Valid Γ ops o c:=by
 intro σ a w Q hdst hn ⟨h0,β,bs,hr⟩
 have hwt:Region.wanted o (yielded ops a.tmps)=true:=by simp [Region.wanted,hg]
 rw [if_pos hwt]
 have hfr:t∉σ.us:=hn.2.2 t (by rw [hc]; simp)
 obtain ⟨b2,bk,p2,hE2,hrest2⟩:=vS.take hr.hp hr.keys (hn.2.1 _ hyr)
 have hxv:=OpF.rep hx hn hr
 simp only [Rep] at hxv
 obtain ⟨wy,hS,hEy,hzy⟩:=zKl (OpF.rep hy hn hr) hE2 hly
 have hsrc:Go.Src Γ.P z U (a.eval y) m wy w:=zGh hU (zFG hone hEy) (by
  rcases hS with ⟨q1,q2,q3,_⟩|⟨b,off,cp,q1,_,_,q2,q3⟩
  ·exact .inl ⟨q1,q2,q3⟩
  ·exact .inr ⟨b,off,cp,q1,q2.has,q3⟩)
 obtain ⟨r,w1,hrun,hA⟩:=zGA (ty:=o.type) (n:=0) hT hinfo hzs (.inl ⟨hxv.1,rfl,rfl,rfl⟩) hsrc (by simpa using hbig) (by simpa using h62)
 have hex:(execOp a.eval o).run Γ.P w= .ok (.value r) w1:=by
  rw [zEP hop]
  simp only [builtin,List.map_toArray,List.map_cons,List.map_nil]
  exact run_bind_ok hrun
 unfold Oper.wp
 rw [hex,Oper.upon_value]
 refine zFW (b1:=[]) (b2:=b2) (bx:=(β ts).own) (bk:=bk) (blk:=[]) (xs:=[]) (n:=0) h0 hr hdst (by rw [hc]; rfl) hfr hm ?_ ?_ (by simp [zZ]) hEy (by simp) hzy rfl hly hA (by rw [hc]; simp)
 ·refine p2.trans ?_
  simp only [List.nil_append]
  rw [←List.append_assoc]
  exact List.Perm.append_right _ List.perm_append_comm
 ·rw [hc]
  rw [←zIx] at hrest2
  exact hrest2
theorem zNI {c:Cert} {x y:Operand} {T U el e':TypeId} {t td n m z bytes:Nat} {cd:Option Nat} {zv:Value} {xs ys:List (List D)} (hg:o.guard=none)
  (hop:o.op= .call {callee:=.builtin .append,args:= #[x,y],argTypes:= #[T,U]}) (hc:c= {tn:=c.tn,hn:=c.hn,out:=some (.rf t 0 (n+m) none),hx:=[td],hw:=[(t,.row z (xs++ys))],fr:=[t]})
  (hm:Γ.m≤t) (hx:OpF c x (.rf td 0 n cd)) (hy:OpF c y (.s false z m ys)) (hxr:(td,.row z xs)∈c.hn) (hlx:xs.length=n)
  (hT:Γ.P.underlying T=some (.slice el)) (hU:Γ.P.underlying U=some (.slice e')) (hinfo:(Γ.P.info? el).map (fun i=>(i.zero,i.size,i.bytes))=some (some zv,z,bytes)) (hzs:zv.cells.size=z)
  (hone:∀e∈ys,e.all zE1=true) (hbig:(n+m)*bytes≤140737488355328) (h62:n+m≤4611686018427387904):Valid Γ ops o c:=by
 intro σ a w Q hdst hn ⟨h0,β,bs,hr⟩
 have hwt:Region.wanted o (yielded ops a.tmps)=true:=by simp [Region.wanted,hg]
 rw [if_pos hwt]
 have hfr:t∉σ.us:=hn.2.2 t (by rw [hc]; simp)
 obtain ⟨b1,bk,p1,hE1,hrest⟩:=vS.take hr.hp hr.keys (hn.2.1 _ hxr)
 obtain ⟨wx,hD,hEx,hzx⟩:=zKl (OpF.rep hx hn hr) hE1 hlx
 have hyv:=OpF.rep hy hn hr
 simp only [Rep] at hyv
 obtain ⟨hly,hzy,ad,cap,hv,hcap,hcase⟩:=hyv
 obtain ⟨wy,hEy,hS⟩:∃wy,zZ β (NS Γ w bs) w ys wy []∧((a.eval y= .slice none 0 0∧m=0∧wy=[])∨(a.eval y= .slice ad m cap∧m=0∧wy=[])∨∃b off c,a.eval y= .slice (some ⟨b,off,none⟩) m c∧Has w b off wy∧wy.length=m*z):=by
  rcases hcase with ⟨q1,q2,_⟩|⟨_,b,off,ws,q1,q2,q3,q4,_⟩|⟨q,_⟩
  ·have:ys=[]:=List.length_eq_zero_iff.1 (by omega)
   subst this
   exact ⟨[],by simp [zZ],.inr (.inl ⟨hv,q1,rfl⟩)⟩
  ·refine ⟨ws,q4,.inr (.inr ⟨b,off,cap,by rw [hv,q1],q3,?_⟩)⟩
   rw [q4.length hzy,hly]
  ·cases q
 have hsrc:Go.Src Γ.P z U (a.eval y) m wy w:=by
  rcases hS with h|⟨h1,h2,h3⟩|h
  ·exact zGh hU (zFG hone hEy) (.inl h)
  ·rw [h1]
   subst h2; subst h3
   cases ad with
   |none=>exact Src.ofNil w hU cap
   |some ad=>exact Src.ofSlice w hU ad 0 cap [] (by simp) (by simp) (by simp)
  ·exact zGh hU (zFG hone hEy) (.inr h)
 obtain ⟨r,w1,hrun,hA⟩:=zGA (ty:=o.type) hT hinfo hzs hD hsrc hbig h62
 have hex:(execOp a.eval o).run Γ.P w= .ok (.value r) w1:=by
  rw [zEP hop]
  simp only [builtin,List.map_toArray,List.map_cons,List.map_nil]
  exact run_bind_ok hrun
 unfold Oper.wp
 rw [hex,Oper.upon_value]
 refine zFW (b1:=b1) (b2:=[]) (bx:=[]) (bk:=bk) (blk:=(β td).own) h0 hr hdst (by rw [hc]) hfr hm ?_ ?_ hEx hEy hzx hzy hlx hly hA (by rw [hc])
 ·simpa using p1
 ·rw [hc]
  rw [←zIx] at hrest
  exact hrest
end
end Go.Im

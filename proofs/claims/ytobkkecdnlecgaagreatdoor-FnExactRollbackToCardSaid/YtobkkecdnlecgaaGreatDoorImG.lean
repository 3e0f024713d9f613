import Derived.Test.YtobkkecdnlecgaaGreatDoorImF
import Derived.Laws.IdiomCopy
set_option linter.unusedVariables false
namespace Go.Im
open Go
theorem zNs {arr:Array Value} {o A B:Nat} {X Y W:List Value} (hA:o+A+X.length≤arr.size) (hB:o+B+Y.length≤arr.size)
  (hW:∀k,k<W.length→(if B≤k∧k<B+Y.length then Y[k-B]? else if A≤k∧k<A+X.length then X[k-A]? else arr[o+k]?)=W[k]?):
  ∀k (hk:k<W.length),(zDT (zDT arr (o+A) X) (o+B) Y)[o+k]? =some W[k]:=by
 intro k hk
 rw [zEz _ _ _ (by rw [wX]; exact hB),zEz _ _ _ hA]
 have:=hW k hk
 rw [List.getElem?_eq_getElem hk] at this
 rw [←this]
 by_cases c1:B≤k∧k<B+Y.length
 ·rw [if_pos (by omega),if_pos c1]; congr 1; omega
 ·rw [if_neg (by omega),if_neg c1]
  by_cases c2:A≤k∧k<A+X.length
  ·rw [if_pos (by omega),if_pos c2]; congr 1; omega
  ·rw [if_neg (by omega),if_neg c2]
theorem zMz.world {w w1 w2:World} {z n m:Nat} {wx wy:List Value} {blk:List Nat} {r:Value} (h:zMz w w1 z n m wx wy blk r) (hn:0<n+m) (hh:w2.heap=w1.heap) (hq:w2.os=w1.os∧w2.output=w1.output):zMz w w2 z n m wx wy blk r:=by
 obtain ⟨h1,h2⟩:=h
 refine ⟨⟨hq.1.trans h1.1,hq.2.trans h1.2⟩,?_⟩
 rcases h2 with ⟨h2,_⟩|⟨b,off,c,h3,h4,h5,h6,h7⟩
 ·omega
 ·exact .inr ⟨b,off,c,h3,h4,h5.frame (by rw [hh]),by rw [hh]; exact h6,by rw [hh]; exact h7⟩
theorem zN7 {wx wy:List Value} {n m k0 z:Nat} (hl:wx.length=n*z) (hly:wy.length=m*z) (hk:k0≤n):∀k,k< (wx.take (k0*z)++(wy++wx.drop (k0*z))).length →
  (wx.take (k0*z)++(wy++wx.drop (k0*z)))[k]? =if k<k0*z then wx[k]? else if k< (k0+m)*z then wy[k-k0*z]? else (wx.drop (k0*z))[k-(k0+m)*z]? :=by
 intro k _
 have hkz:k0*z≤n*z:=Nat.mul_le_mul_right _ hk
 have ht:(wx.take (k0*z)).length =k0*z:=by simp; omega
 have e:(k0+m)*z=k0*z+m*z:=Nat.add_mul _ _ _
 by_cases c1:k<k0*z
 ·rw [if_pos c1,List.getElem?_append_left (by omega),List.getElem?_take,if_pos c1]
 ·rw [if_neg c1,List.getElem?_append_right (by omega),ht]
  by_cases c2:k< (k0+m)*z
  ·rw [if_pos c2,List.getElem?_append_left (by omega)]
  ·rw [if_neg c2,List.getElem?_append_right (by omega)]
   congr 1; omega
theorem zMs {w w0:World} (hw0:w0.heap=w.heap∧w0.os=w.os∧w0.output=w.output) {b off c z n m k0:Nat} {wx wy:List Value} (hO:Own w b off (c*z) wx) (hl:wx.length=n*z) (hly:wy.length=m*z) (hk:k0≤n) (hc:n+m≤c):
  zMz w (putCells (putCells w0 b (off+(k0+m)*z) (wx.drop (k0*z))) b (off+k0*z) wy) z (n+m) 0 (wx.take (k0*z)++(wy++wx.drop (k0*z))) [] [b] (.slice (some ⟨b,off,none⟩) (n+m) c):=by
 obtain ⟨arr,e,lo,hi,g1,g2,g3,g4⟩:=hO
 have g1':w0.heap[b]? =some (.cells arr e (lo,hi)):=by rw [hw0.1]; exact g1
 obtain ⟨p1,p2,p3⟩:=wO (off:=off+(k0+m)*z) (vs:=wx.drop (k0*z)) g1'
 obtain ⟨q1,q2,q3⟩:=wO (off:=off+k0*z) (vs:=wy) p1
 have hkz:k0*z≤n*z:=Nat.mul_le_mul_right _ hk
 have e1:(k0+m)*z=k0*z+m*z:=Nat.add_mul _ _ _
 have e2:(n+m)*z=n*z+m*z:=Nat.add_mul _ _ _
 have hcz:(n+m)*z≤c*z:=Nat.mul_le_mul_right _ hc
 have hlen:(wx.take (k0*z)++(wy++wx.drop (k0*z))).length =(n+m)*z:=by simp; omega
 refine ⟨⟨(wT _ _ _ _).1.trans ((wT _ _ _ _).1.trans hw0.2.1),(wT _ _ _ _).2.trans ((wT _ _ _ _).2.trans hw0.2.2)⟩,.inr ⟨b,off,c,rfl,by omega,?_,?_,.inl ⟨rfl,fun b' hb'=>?_,?_⟩⟩⟩
 ·refine ⟨_,e,lo,hi,q1,by rw [wX,wX]; exact g2,by rw [wX,wX]; exact g3,?_⟩
  rw [List.append_nil]
  refine zNs (by simp; omega) (by omega) (fun k hk'=>?_)
  rw [zN7 hl hly hk k hk']
  rw [hlen] at hk'
  by_cases c1:k<k0*z
  ·rw [if_neg (by omega),if_neg (by omega),if_pos c1,g4 k (by omega),List.getElem?_eq_getElem]
  ·by_cases c2:k< (k0+m)*z
   ·rw [if_pos (by omega),if_neg c1,if_pos c2]
   ·rw [if_neg (by omega),if_pos (by simp; omega),if_neg c1,if_neg c2]
 ·rw [q3,p3,hw0.1]
  rcases Nat.lt_or_ge b w.heap.size with h|h
  ·exact h
  ·rw [Array.getElem?_eq_none h] at g1; cases g1
 ·rw [q2 b' hb',p2 b' hb',hw0.1]
 ·rw [q3,p3,hw0.1]
theorem zMB {w w0:World} {ROW:Array Value} {e:TypeId} (hw0:w0.heap=w.heap.push (.cells ROW e (0,0))∧w0.os=w.os∧w0.output=w.output) {c z n m k0:Nat} {wx wy:List Value} {blk:List Nat} (hR:∀k,k<k0*z→ROW[k]? =wx[k]?) (hsz:c*z≤ROW.size) (hl:wx.length=n*z) (hly:wy.length=m*z) (hk:k0≤n) (hc:n+m≤c):
  zMz w (putCells (putCells w0 w.heap.size (k0*z) wy) w.heap.size ((k0+m)*z) (wx.drop (k0*z))) z (n+m) 0 (wx.take (k0*z)++(wy++wx.drop (k0*z))) [] blk (.slice (some ⟨w.heap.size,0,none⟩) (n+m) c):=by
 have g1':w0.heap[w.heap.size]? =some (.cells ROW e (0,0)):=by rw [hw0.1]; simp
 obtain ⟨p1,p2,p3⟩:=wO (off:=k0*z) (vs:=wy) g1'
 obtain ⟨q1,q2,q3⟩:=wO (off:=(k0+m)*z) (vs:=wx.drop (k0*z)) p1
 have hkz:k0*z≤n*z:=Nat.mul_le_mul_right _ hk
 have e1:(k0+m)*z=k0*z+m*z:=Nat.add_mul _ _ _
 have e2:(n+m)*z=n*z+m*z:=Nat.add_mul _ _ _
 have hcz:(n+m)*z≤c*z:=Nat.mul_le_mul_right _ hc
 have hlen:(wx.take (k0*z)++(wy++wx.drop (k0*z))).length =(n+m)*z:=by simp; omega
 refine ⟨⟨(wT _ _ _ _).1.trans ((wT _ _ _ _).1.trans hw0.2.1),(wT _ _ _ _).2.trans ((wT _ _ _ _).2.trans hw0.2.2)⟩,.inr ⟨w.heap.size,0,c,rfl,by omega,?_,?_,.inr ⟨rfl,?_,fun b' hb'=>?_⟩⟩⟩
 ·refine ⟨_,e,0,0,q1,by omega,by rw [wX,wX]; omega,?_⟩
  rw [List.append_nil]
  have key:=zNs (arr:=ROW) (o:=0) (A:=k0*z) (B:=(k0+m)*z) (X:=wy) (Y:=wx.drop (k0*z)) (W:=wx.take (k0*z)++(wy++wx.drop (k0*z))) (by omega) (by simp; omega) (fun k hk'=>?_)
  ·simpa using key
  ·rw [zN7 hl hly hk k hk']
   rw [hlen] at hk'
   by_cases c1:k<k0*z
   ·rw [if_neg (by omega),if_neg (by omega),if_pos c1,Nat.zero_add,hR k c1]
   ·by_cases c2:k< (k0+m)*z
    ·rw [if_neg (by omega),if_pos (by omega),if_neg c1,if_pos c2]
    ·rw [if_pos (by simp; omega),if_neg c1,if_neg c2]
 ·rw [q3,p3,hw0.1]; simp
 ·rw [q3,p3,hw0.1]; simp
 ·rw [q2 b' (by omega),p2 b' (by omega)]
  exact zET hw0.1 hb'
theorem zGv {w:World} {b k:Nat} {arr:Array Value} {e:TypeId} {lo hi:Nat} (h:w.heap[b]? =some (.cells arr e (lo,hi))) (h2:∀k,k≤arr.size→¬(lo≤k∧k<hi)) (hk:k≤arr.size):w.frozen? ⟨b,k,none⟩=false:=by
 have:=h2 k hk
 simp only [World.frozen?,h,Bool.and_eq_false_imp,decide_eq_true_eq,decide_eq_false_iff_not]
 intro h5 h6; exact this ⟨h5,h6⟩
theorem zF5 {P:Program} (w:World) (dT sT ty elem:TypeId) (z b o dLen dCap:Nat) (a:Addr) (sLen sCap:Nat) (cs:List Value)
  (hu:P.underlying dT=some (.slice elem)) (hs:(P.info? elem).map (·.size)=some z) (hn:cs.length=Nat.min sLen dLen*z)
  (hsrc:∀j v,cs[j]? =some v→w.cell? (a.add j)=some v) (hc:∀j,j<cs.length→(w.cell? ⟨b,o+j,none⟩).isSome =true) (hf:∀j,j<cs.length→w.frozen? ⟨b,o+j,none⟩=false) (h1:∀v∈cs,v.oneCell'=true):
  (Builtin.copy_ #[dT,sT] ty #[.slice (some ⟨b,o,none⟩) dLen dCap,.slice (some a) sLen sCap]).run P w= .ok (goInt (Nat.min sLen dLen)) (w.setCells b o cs):=by
 have hl:=run_loadCells_list (P:=P) w a cs hsrc
 have hst:=run_storeCells_cells (P:=P) b o cs 0 w (by simpa using hc) (by simpa using hf) h1
 cases hq:P.info? elem with
 |none=>simp [hq] at hs
 |some i=>
  have hi:i.size=z:=by simpa [hq] using hs
  rw [hn] at hl
  simp [Builtin.copy_,run_underlying hu,Builtin.lenOf,Builtin.firstCells,sizeOf,typeInfo,hq,hi,hl,hst]
end Go.Im
set_option linter.unusedVariables false
namespace Go.Im
open Go
def lnC:D→D
 | .s _ _ n _=>.ln n
 |d=>d
section
variable {Γ:Ctx} {ops:Array Oper} {o:Oper}
theorem Rep.lnC {β:Nat→Loc} {N:Nat→Prop} {w:World}:∀{d:D} {v:Value} {bs:List Nat},Rep β N w false d v bs→Rep β N w true (lnC d) v []
 | .s o z n xs,v,bs,h=>by
  simp only [Rep] at h
  obtain ⟨_,_,a,cap,h3,h4,_⟩:=h
  simp only [Im.lnC,Rep]
  exact ⟨trivial,a,cap,h3,h4⟩
 | .sc _,v,bs,h=>by simp only [Rep,Im.lnC] at h ⊢; exact ⟨h.1,trivial⟩
 | .rf _ _ _ _,v,bs,h=>by simp only [Rep] at h; exact absurd h.1 (by simp)
 | .pt _ _ _,v,bs,h=>by simp only [Rep] at h; exact absurd h.1 (by simp)
 | .ps cs,v,bs,h=>by simp only [Rep,Im.lnC] at h ⊢; exact ⟨trivial,h.2⟩
 | .fn _ _,v,bs,h=>by simp only [Rep] at h; exact absurd h.1 (by simp)
 | .ag _,v,bs,h=>by simp only [Rep] at h; exact absurd h.1 (by simp)
 | .tu _,v,bs,h=>by simp only [Rep] at h; exact absurd h.1 (by simp)
 | .un,v,bs,h=>by simp only [Rep,Im.lnC] at h ⊢; exact ⟨h.1,trivial⟩
 | .nb _,v,bs,h=>by simp only [Rep,Im.lnC] at h ⊢; exact ⟨trivial,h.2⟩
 | .sub _ _ _,v,bs,h=>by simp only [Rep] at h; exact absurd h.1 (by simp)
 | .fb _ _,v,bs,h=>by simp only [Rep] at h; exact absurd h.1 (by simp)
 | .pb _,v,bs,h=>by simp only [Rep] at h; exact absurd h.1 (by simp)
 | .ln _,v,bs,h=>by simp only [Rep,Im.lnC] at h ⊢; exact ⟨trivial,h.2⟩
 | .po _,v,bs,h=>by simp only [Rep] at h; exact absurd h.1 (by simp)
theorem zI.lnC {β:Nat→Loc} {N:Nat→Prop} {w:World}:∀{ds:List D} {ws:List Value} {bs:List Nat},zI β N w false ds ws bs→zI β N w true (ds.map Im.lnC) ws []
 |[],ws,bs,h=>by simp only [zI,List.map_nil] at h ⊢; exact ⟨h.1,trivial⟩
 |d::ds,ws,bs,h=>by
  simp only [zI,List.map_cons] at h ⊢
  obtain ⟨v,vs,b1,b2,h1,_,h3,h4⟩:=h
  exact ⟨v,vs,[],[],h1,rfl,Rep.lnC h3,zI.lnC h4⟩
theorem zNE {c:Cert} {x:Operand} {T:TypeId} {z t i j:Nat} {xs:List (List D)} {e:List D} {d:D} (hg:o.guard=none) (hop:o.op= .load T x) (hc:c= {tn:=c.tn,hn:=c.hn,out:=some d})
  (hx:OpF c x (.pt t i j)) (hh:(t,.row z xs)∈c.hn) (he:xs[i]? =some e) (ho:((e.drop j).map lnC).all zCX=true)
  (hd:zB3 Γ.P T ((e.drop j).map lnC)=some d):Valid Γ ops o c:=by
 refine uE (d:=d) (f:=fun ρ=>Instr.loadAt T (ρ x)) hg (fun ρ=>by simp [execOp,hop]) (by rw [hc]) fun β bs σ a w hn hr=>?_
 have h1:=OpF.rep hx hn hr
 simp only [Rep] at h1
 obtain ⟨b1,⟨hLz,hzz,hrow⟩,_,_⟩:=vJ.get hr.hp (hn.2.1 _ hh)
 rcases hrow with ⟨_,rfl,_⟩|⟨hnil,ws,hO,hE⟩
 ·simp at he
 ·obtain ⟨b2,b3,b4,_,h4,_,_⟩:=zT.get hE hzz he
  obtain ⟨b5,b6,_,_,h6⟩:=h4.split j
  have h7:=h6.lnC
  have hone:=zEF ho h7
  obtain ⟨v,h8,h9⟩:=zDw hd ((hO.cells (i*z) z).drop j) hone h7
  refine ⟨v,?_,h9⟩
  rw [h1.2.2.2,hLz]
  exact h8
theorem zQd {α:Type} {xs:List α} {i:Int} {a:α} {d:D} (T z t j:Nat) (enc:α→List D) (x:Operand) (h:idx xs i=some a) (hd:((((enc a).drop j).map lnC).all zCX,zB3 Γ.P T (((enc a).drop j).map lnC))=(true,some d)) (hx:OkO x (.pt t i.toNat j):=by trivial):
  OpV Γ (.load T x) {tn:=tnO x (.pt t i.toNat j),hn:=[(t,rE z enc xs)],out:=some d}:=by
 simp only [Prod.mk.injEq] at hd
 obtain ⟨_,h2⟩:=zEw h
 intro ops o hop hg
 exact zNE (xs:=xs.map enc) (e:=enc a) hg hop rfl (hx.f (fun y hy=>hy)) (.head _) (by rw [List.getElem?_map,h2]; rfl) hd.1 hd.2
end
theorem zQh {α:Type} {z:Nat} {enc:α→List D} {xs:List α}:Wk (sl z enc xs) (.ln xs.length):=.ln
end Go.Im
set_option linter.unusedVariables false
namespace Go.Im
open Go
theorem FzT.all {t z:Nat} {xs:List (List D)}:∀{l:List (Nat×D)},(∀x∈l,x.2.men.contains t=false)→FzT t z xs l l
 |[],_=>.nil
 |(q,d)::l,h=>.cons (.keep (h (q,d) (by simp))) (FzT.all fun x hx=>h x (by simp [hx]))
theorem FzH.all {t z:Nat} {xs:List (List D)}:∀{l:List (Nat×Ent)},(∀x∈l,x.2.men.contains t=false)→FzH t z xs l l
 |[],_=>.nil
 |(q,e)::l,h=>.keep (h (q,e) (by simp)) (FzH.all fun x hx=>h x (by simp [hx]))
theorem Rel.frz {Γ:Ctx} {a:Act} {w:World} {t z:Nat} {xs:List (List D)} {tm1 tm2:List (Nat×D)} {hp1 hp2:List (Nat×Ent)} {us us2:List Nat} (htm:FzT t z xs tm1 tm2) (hhp:FzH t z xs hp1 hp2)
  (hu:∀q,q∈zIk tm2∨q∈zFf hp2→q∈us2) (hr:Rel Γ ⟨tm1,(t,.row z xs)::hp1,us⟩ a w):Rel Γ ⟨tm2,hp2,us2⟩ a w:=by
 obtain ⟨h0,β,bs,h⟩:=hr
 obtain ⟨b1,bk,rfl,hE,hrest⟩:=h.hp
 have hp:((β t).own ++(b1++bk)).Perm (((β t).own ++b1)++bk):=by rw [List.append_assoc]
 have hnd:=hp.nodup_iff.1 h.nodup
 have hN:∀b,NS Γ w ((β t).own ++(b1++bk)) b→NS Γ w bk b:=fun b hb=>NS.sub (fun x hx=>by simp [hx]) hb
 have hb:∀b∈(β t).own ++b1,NS Γ w bk b:=fun b hb=>by
  have:=h.own b (hp.mem_iff.2 (List.mem_append_left _ hb))
  refine ⟨?_,this.1,fun hbk=>(List.nodup_append.1 hnd).2.2 b hb b hbk rfl⟩
  rcases this.2 with h1|h1
  ·exact .inr (.inl h1)
  ·exact .inr (.inr h1)
 refine ⟨hu,β,bk,{defers:=h.defers,size:=h.size,keys:=?_,par:=h.par,grow:=h.grow,gh:=h.gh,quiet:=h.quiet,keep:=h.keep,hp:=hhp.rep hN hE hb hrest,nodup:=(List.nodup_append.1 hnd).2.1,own:=fun b hb=>h.own b (hp.mem_iff.2 (List.mem_append_right _ hb)),tm:=?_}⟩
 ·have hk:=h.keys
  simp only [List.map_cons,List.nodup_cons] at hk
  rw [hhp.keys]
  exact hk.2
 ·intro q d' hd
  obtain ⟨d,h1,h2⟩:=htm.mem hd
  obtain ⟨v,h3,h4⟩:=h.tm q d h1
  exact ⟨v,h3,Fz.rep hN hE hb h2 h4⟩
theorem zRF {Γ:Ctx} {op:Op} {tn:List (Nat×D)} {hn:List (Nat×Ent)} {d1 d2:D} {t z:Nat} {xs:List (List D)} (hv:OpV Γ op {tn:=tn,hn:=hn,out:=some d1,hw:=[(t,.row z xs)],fr:=[t]}) (hf:Fz t z xs d1 d2) (hm:d2.men=[]:=by rfl):
  OpV Γ op {tn:=tn,hn:=hn,out:=some d2,fr:=[t]}:=by
 intro ops o hop hg σ a w Q hdst hn' hr
 have hus:=hr.1
 have hfr:t∉σ.us:=hn'.2.2 t (by simp)
 have h:=hv ops o hop hg σ a w Q hdst ⟨hn'.1,hn'.2.1,hn'.2.2⟩ hr
 have hwt:Region.wanted o (yielded ops a.tmps)=true:=by simp [Region.wanted,hg]
 rw [if_pos hwt] at h ⊢
 refine Oper.wp_mono (fun a' w' hrel=>?_) h
 obtain ⟨dd,hdd⟩:∃dd,o.dst=dd:=⟨_,rfl⟩
 rw [hdd] at hrel
 rw [hdd]
 have key:FzT t z xs ((({tn:=tn,hn:=hn,out:=some d1,hw:=[(t,.row z xs)],fr:=[t]}:Cert).outs dd)++σ.tm.filter (fun x=>dd !=some x.1)) ((({tn:=tn,hn:=hn,out:=some d2,fr:=[t]}:Cert).outs dd)++σ.tm.filter (fun x=>dd !=some x.1)):=by
  have hrest:FzT t z xs (σ.tm.filter (fun x=>dd !=some x.1)) (σ.tm.filter (fun x=>dd !=some x.1)):=FzT.all fun x hx=>by
   have:t∉x.2.men:=fun h=>hfr (hus t (.inl (List.mem_flatMap.2 ⟨x,(List.mem_filter.1 hx).1,h⟩)))
   simpa using this
  cases dd with
  |none=>exact hrest
  |some q=>exact .cons hf hrest
 refine Rel.frz key (FzH.all fun x hx=>?_) (fun q hq=>?_) hrel
 ·have:t∉x.2.men:=fun h=>hfr (hus t (.inr (List.mem_flatMap.2 ⟨x,(List.mem_filter.1 hx).1,by simp [h]⟩)))
  simpa using this
 ·refine List.mem_append_right _ ?_
  rcases hq with hq|hq
  ·obtain ⟨x,hx,hx'⟩:=List.mem_flatMap.1 hq
   rcases List.mem_append.1 hx with hx|hx
   ·unfold Cert.outs at hx
    cases dd with
    |none=>simp at hx
    |some q'=>
     simp only [List.mem_singleton] at hx
     subst hx
     simp only [hm] at hx'
     cases hx'
   ·exact hus q (.inl (List.mem_flatMap.2 ⟨x,(List.mem_filter.1 hx).1,hx'⟩))
  ·obtain ⟨x,hx,hx'⟩:=List.mem_flatMap.1 hq
   exact hus q (.inr (List.mem_flatMap.2 ⟨x,(List.mem_filter.1 hx).1,hx'⟩))
end Go.Im

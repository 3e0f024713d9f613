import Derived.Test.YtdeihchdibglaaaGreatDoorImA
import Derived.Deep.Upon
import Derived.Deep.AppendSrc
set_option linter.unusedVariables false
namespace Go.Im
open Go
variable {Γ:Ctx} {ops:Array Oper} {o:Oper}
def cellsD:D→List D
 | .ag cs=>cs
 |d=>[d]
def D.cell:D→Bool
 | .ag _=>false
 | .tu _=>false
 | .po _=>false
 | .s o _ _ _=> !o
 | .sc v=>v.oneCell
 |_=>true
theorem D.zMZ {β:Nat→Loc} {N:Nat→Prop} {w:World} {top:Bool} {d:D} {v:Value} {bs:List Nat} (h:d.cell=true) (hr:Rep β N w top d v bs):v.oneCell=true:=by
 refine Rep.oneCell ?_ hr
 cases d<;>simp_all [D.cell]
theorem zLn {β:Nat→Loc} {N:Nat→Prop} {w:World} {top:Bool}:∀{cs:List D} {ws:List Value} {bs:List Nat},cs.all D.cell=true→zK β N w top cs ws bs→∀x∈ws,Value.oneCell x=true
 |[],ws,bs,_,h=>by simp only [zK] at h; rw [h.1]; simp
 |d::ds,ws,bs,hc,h=>by
  simp only [zK] at h
  obtain ⟨v,vs,b1,b2,rfl,_,h3,h4⟩:=h
  simp only [List.all_cons,Bool.and_eq_true] at hc
  intro x hx
  rcases List.mem_cons.1 hx with rfl|hx
  ·exact D.zMZ hc.1 h3
  ·exact zLn hc.2 h4 x hx
theorem zHc {β:Nat→Loc} {N:Nat→Prop} {w:World} {d:D} {v:Value} (hc:(cellsD d).all D.cell=true) (h:Rep β N w true d v []):
  zK β N w true (cellsD d) v.cells.toList []∧∀x∈v.cells.toList,Value.oneCell x=true:=by
 have key:zK β N w true (cellsD d) v.cells.toList []:=by
  cases d with
  |ag cs=>
   simp only [Rep] at h
   obtain ⟨_,ws,rfl,_,h3⟩:=h
   simpa [cellsD,Value.cells] using h3
  |_=>
   simp only [cellsD,List.all_cons,List.all_nil,Bool.and_true] at hc
   have h1:=D.zMZ hc h
   have:v.cells= #[v]:=by cases v<;>first|rfl|(simp [Value.oneCell] at h1)
   rw [this]
   simp only [cellsD,zK]
   exact ⟨v,[],[],[],rfl,rfl,h,rfl,rfl⟩
 exact ⟨key,zLn hc key⟩
theorem zK.frame' {β β':Nat→Loc} {N N':Nat→Prop} {w w':World} {cs:List D} {ws:List Value} (hN:∀b,N b→N' b∧w'.heap[b]? =w.heap[b]?) (hm:∀t∈D.men.zER cs,β' t=β t)
 (h:zK β N w true cs ws []):zK β' N' w' true cs ws []:=zK.frame hN cs true ws [] (by simp) hm h
theorem zRg {σ:St} {a:Act} {w:World} {c:Cert} {x:Operand} {d:D} (h0:∀t,t∈zLU σ.tm∨t∈zIp σ.hp→t∈σ.us) (hn:Nd c σ) (hx:OpF c x d):∀t∈d.men,t∈σ.us:=by
 intro t ht
 cases x with
 |tmp k=>exact h0 t (.inl (List.mem_flatMap.2 ⟨_,hn.1 _ hx,ht⟩))
 |const v=>simp only [OpF] at hx; subst hx; simp [D.men] at ht
 |func f=>simp only [OpF] at hx; subst hx; simp [D.men,D.men.zER] at ht
 |global g=>exact absurd hx id
theorem zOF (d:D):D.men.zER (cellsD d)=d.men:=by
 cases d<;>simp [cellsD,D.men.zER,D.men]
theorem zGB {w w1:World} {ob:Obj} {b:Nat} (h:w1.heap=w.heap.push ob) (hb:b<w.heap.size):w1.heap[b]? =w.heap[b]? :=by
 rw [h,Array.getElem?_push,if_neg (by omega)]
theorem zMb {w w1:World} {arr:Array Value} {e:TypeId} (h:w1.heap=w.heap.push (.cells arr e (0,0))):Own w1 w.heap.size 0 arr.size arr.toList:=by
 refine ⟨arr,e,0,0,by rw [h]; simp,by omega,by omega,?_⟩
 intro k hk
 simp only [Array.length_toList] at hk
 simp [hk]
theorem zS5 {c:Cert} {x:Operand} {T:TypeId} {d:D} {t:Nat} (hg:o.guard=none) (hop:o.op= .box T x)
  (hc:c= {tn:=c.tn,out:=some (.pt t 0 0),hw:=[(t,.box (cellsD d))],fr:=[t]}) (hm:Γ.m≤t) (hx:OpF c x d) (hd:(cellsD d).all D.cell=true):Valid Γ ops o c:=by
 intro σ a w Q hdst hn ⟨h0,β,bs,hr⟩
 have hwt:Region.wanted o (yielded ops a.tmps)=true:=by simp [Region.wanted,hg]
 rw [if_pos hwt]
 have h1:=OpF.rep hx hn hr
 obtain ⟨h2,h3⟩:=zHc hd h1
 have hfr:t∉σ.us:=hn.2.2 t (by rw [hc]; simp)
 have hrun:(execOp a.eval o).run Γ.P w= .ok (.value (.pointer (some ⟨w.heap.size,0,none⟩))) {w with heap:=w.heap.push (.cells (a.eval x).cells T)}:=by
  refine zFo (s:=Instr.box T (a.eval x)) (by simp [execOp,hop]) ?_
  rfl
 unfold Oper.wp
 rw [hrun,Oper.upon_value]
 have hus:∀k∈D.men.zER (cellsD d),k≠t:=fun k hk e=>hfr (e▸zRg (σ:=σ) (a:=a) (w:=w) h0 hn hx k (by rwa [zOF] at hk))
 refine Rel.new (t:=t) (z:=(cellsD d).length) (e:=.box (cellsD d)) (arr:=(a.eval x).cells) (el:=T) (fz:=(0,0)) h0 hr hdst (by rw [hc]) (by rw [hc]) hfr hm ?_ ?_ rfl ⟨rfl,rfl⟩
 ·intro w1 N1 hw1 hN1
  refine ⟨rfl,rfl,(a.eval x).cells.toList,zMb hw1,h3,?_⟩
  exact zK.frame' (fun b hb=>⟨hN1 b hb,zGB hw1 hb.2.1⟩) (fun k hk=>zAc (hus k hk)) h2
 ·intro w1 N1 hw1 hN1 d' hd'
  rw [hc] at hd'
  cases hd'
  simp only [Rep,xI]
  exact ⟨trivial,trivial,trivial,by simp⟩
theorem zQY {c:Cert} {T:TypeId} {t:Nat} {zv:Value} {cs:List D} (hg:o.guard=none) (hop:o.op= .alloc T) (hz:yT Γ.P (zeroValue T)=some zv) (hcs:zv.cells.toList.map D.sc=cs)
  (h1:zv.cells.toList.all Value.oneCell=true) (hc:c= {tn:=c.tn,out:=some (.pt t 0 0),hw:=[(t,.box cs)],fr:=[t]}) (hm:Γ.m≤t):Valid Γ ops o c:=by
 intro σ a w Q hdst hn ⟨h0,β,bs,hr⟩
 have hwt:Region.wanted o (yielded ops a.tmps)=true:=by simp [Region.wanted,hg]
 rw [if_pos hwt]
 have hfr:t∉σ.us:=hn.2.2 t (by rw [hc]; simp)
 have hrun:(execOp a.eval o).run Γ.P w= .ok (.value (.pointer (some ⟨w.heap.size,0,none⟩))) {w with heap:=w.heap.push (.cells zv.cells T)}:=by
  refine zFo (s:=Instr.alloc T true (.tuple #[])) (by simp [execOp,hop]) ?_
  unfold Instr.alloc
  rw [run_bind_ok (zS _ _ w hz)]
  rfl
 unfold Oper.wp
 rw [hrun,Oper.upon_value]
 refine Rel.new (t:=t) (z:=cs.length) (e:=.box cs) (arr:=zv.cells) (el:=T) (fz:=(0,0)) h0 hr hdst (by rw [hc]) (by rw [hc]) hfr hm ?_ ?_ rfl ⟨rfl,rfl⟩
 ·intro w1 N1 hw1 hN1
  refine ⟨rfl,rfl,zv.cells.toList,zMb hw1,fun x hx=>List.all_eq_true.1 h1 x hx,?_⟩
  rw [←hcs]
  exact zFN _
 ·intro w1 N1 hw1 hN1 d' hd'
  rw [hc] at hd'
  cases hd'
  simp only [Rep,xI]
  exact ⟨trivial,trivial,trivial,by simp⟩
theorem zIj {P:Program} {w:World} {T:TypeId} {b off r n:Nat} {ws:List Value} {v:Value} (hz:zGk P T=some n) (hv:v.cells.toList.length=n) (h1:∀x∈v.cells.toList,Value.oneCell x=true)
  (ho:Own w b off r ws) {j:Nat} (hj:j+n≤r):(storeVar T ⟨b,off+j,none⟩ v).run P w= .ok () (putCells w b (off+j) v.cells.toList):=by
 unfold storeVar
 rw [run_bind_ok (zS _ _ w hz)]
 rw [if_neg (by simp at hv; omega)]
 obtain ⟨arr,e,lo,hi,h2,h3,h4,h5⟩:=ho
 have:=zJL (P:=P) (off:=off+j) v.cells.toList 0 w arr h2 (fun k hk=>h3 k (Nat.le_of_lt hk)) (by omega) h1
 simpa using this
theorem zPc {w:World} {b off r:Nat} {ws vs:List Value} (ho:Own w b off r ws) {j:Nat} (hj:j+vs.length≤ws.length) (hr:ws.length≤r):
  Own (putCells w b (off+j) vs) b off r (ws.take j++vs++ws.drop (j+vs.length)):=by
 obtain ⟨arr,e,lo,hi,h2,h3,h4,h5⟩:=ho
 obtain ⟨h6,h7,h8⟩:=jR (off:=off+j) (vs:=vs) h2
 refine ⟨_,e,lo,hi,h6,by rw [zEi]; exact h3,by rw [zEi]; exact h4,?_⟩
 intro k hk
 rw [zGW _ _ _ (by omega)]
 simp only [List.length_append,List.length_take,List.length_drop] at hk
 rw [←List.getElem?_eq_getElem]
 by_cases c1:k<j
 ·rw [if_neg (by omega),h5 k (by omega),List.append_assoc,List.getElem?_append_left (by simp; omega)]
  simp [c1]
 ·by_cases c2:k<j+vs.length
  ·rw [if_pos (by omega),List.append_assoc,List.getElem?_append_right (by simp; omega),List.getElem?_append_left (by simp; omega)]
   congr 1
   simp; omega
  ·rw [if_neg (by omega),h5 k (by omega),List.append_assoc,List.getElem?_append_right (by simp; omega),List.getElem?_append_right (by simp; omega)]
   rw [List.getElem?_drop]
   rw [←List.getElem?_eq_getElem]
   congr 1
   simp; omega
theorem zFz (w:World) (b:Nat):∀(off:Nat) (vs:List Value),(putCells w b off vs).os =w.os∧(putCells w b off vs).output =w.output:=by
 intro off vs
 induction vs generalizing w off with
 |nil=>exact ⟨rfl,rfl⟩
 |cons v vs ih=>
  simp only [putCells]
  refine ⟨(ih _ _).1.trans ?_,(ih _ _).2.trans ?_⟩<;>(unfold World.setCell; repeat (first|rfl|split))
theorem zMx {c:Cert} {x y:Operand} {T:TypeId} {cs:List D} {d:D} {t j:Nat} (hg:o.guard=none) (hop:o.op= .store T x y) (hds:o.dst=none)
  (hc:c= {tn:=c.tn,hn:=c.hn,hx:=[t],hw:=[(t,.box (cs.take j++cellsD d++cs.drop (j+(cellsD d).length)))]}) (hx:OpF c x (.pt t 0 j)) (hy:OpF c y d)
  (hd:(cellsD d).all D.cell=true) (hz:zGk Γ.P T=some (cellsD d).length) (hj:j+(cellsD d).length ≤cs.length) (hh:(t,.box cs)∈c.hn):Valid Γ ops o c:=by
 intro σ a w Q hdst hn ⟨h0,β,bs,hr⟩
 have hwt:Region.wanted o (yielded ops a.tmps)=true:=by simp [Region.wanted,hg]
 rw [if_pos hwt]
 have h1:=OpF.rep hx hn hr
 have h2:=OpF.rep hy hn hr
 obtain ⟨h3,h4⟩:=zHc hd h2
 simp only [Rep] at h1
 obtain ⟨b1,b2,hp,⟨hnil,hLz,ws,hO,hone,hcs⟩,hrest⟩:=vS.take hr.hp hr.keys (hn.2.1 _ hh)
 have hown:(β t).own =[(β t).b]:=by simp [Loc.own,hnil]
 rw [hown] at hp
 have hlen:=hcs.length
 have hvl:=h3.length
 have hroom:ws.length≤(β t).r ∨True:=.inr trivial
 have hrun:(execOp a.eval o).run Γ.P w= .ok .skip (putCells w (β t).b ((β t).o +j) (a.eval y).cells.toList):=by
  have e:execOp a.eval o=(do Instr.storeAt T (a.eval x) (a.eval y); pure .skip):=by simp [execOp,hop]
  rw [e]
  refine (run_bind_ok (a:=()) (w':=putCells w (β t).b ((β t).o +j) (a.eval y).cells.toList) ?_).trans rfl
  rw [h1.2.2.2,Nat.zero_mul,Nat.add_zero]
  obtain ⟨arr,e,lo,hi,g1,g2,g3,g4⟩:=hO
  refine zIj (r:=ws.length) (ws:=ws) hz (by rw [hvl]) h4 ⟨arr,e,lo,hi,g1,g2,?_,g4⟩ (by omega)
  rcases Nat.eq_zero_or_pos ws.length with e0|e0
  ·omega
  ·have:=g4 (ws.length-1) (by omega)
   have:=(Array.getElem?_eq_some_iff.1 this).1
   omega
 unfold Oper.wp
 rw [hrun,Oper.upon_skip]
 have hheap:(∀b',b'≠(β t).b →(putCells w (β t).b ((β t).o +j) (a.eval y).cells.toList).heap[b']? =w.heap[b']?)∧(putCells w (β t).b ((β t).o +j) (a.eval y).cells.toList).heap.size =w.heap.size:=by
  obtain ⟨arr,e,lo,hi,g1,g2,g3,g4⟩:=hO
  exact (jR g1).2
 have hnd:=hp.nodup_iff.1 hr.nodup
 simp only [List.singleton_append,List.nodup_cons,qJ,not_or] at hnd
 obtain ⟨p1,p2,e1,hs1,hs2⟩:=hcs.split j
 obtain ⟨p3,p4,e2,hs3,hs4⟩:=hs2.split (cellsD d).length
 have hsub:∀b,b∈p1++p4→b∈b1:=fun b hb=>by
  rw [e1,e2]; simp only [qJ] at hb ⊢; rcases hb with h|h<;>simp [h]
 have hnd1:(p1++p4).Nodup :=by
  have:=(List.nodup_append.1 hnd.2).1
  rw [e1,e2] at this
  refine List.Nodup.sublist ?_ this
  exact List.Sublist.append_left (List.sublist_append_right _ _) _
 refine Rel.step (β1:=β) (bk:=b2) (br:=(β t).b ::b1) (bn:=(β t).b ::(p1++p4)) h0 hr hdst (by rw [hc]; simp) (by rw [hc]; simp) ?_ ?_ ?_ ?_ (fun _ _=>rfl) (fun _ _=>rfl) ?_ ?_ ?_ ?_ (zFz _ _ _ _)
 ·simpa using hp
 ·rw [hc,zIx]; exact hrest
 ·rw [hheap.2]; exact Nat.le_refl _
 ·intro b _ hb
  exact hheap.1 b (fun e=>hb (by simp [e]))
 ·exact List.nodup_cons.2 ⟨fun h=>hnd.1.1 (hsub _ h),hnd1⟩
 ·intro b hb
  rw [hheap.2]
  have:b∈(β t).b ::b1:=by
   rcases List.mem_cons.1 hb with rfl|hb
   ·simp
   ·simp [hsub b hb]
  exact ⟨.inl this,(hr.own b (hp.mem_iff.2 (by simp only [List.singleton_append,qK,qJ] at this ⊢; rcases this with h|h<;>simp [h]))).1⟩
 ·rw [hc]
  have hfr:∀b,(NS Γ w bs b→NS Γ (putCells w (β t).b ((β t).o +j) (a.eval y).cells.toList) ((β t).b ::(p1++p4)++b2) b∧(putCells w (β t).b ((β t).o +j) (a.eval y).cells.toList).heap[b]? =w.heap[b]?):=by
   rintro b ⟨q1,q2,q3⟩
   have hb1:b≠(β t).b :=fun e=>q3 (hp.mem_iff.2 (by simp [e]))
   refine ⟨⟨q1,by rw [hheap.2]; exact q2,?_⟩,hheap.1 b hb1⟩
   intro hb
   simp only [List.cons_append,qK,qJ] at hb
   refine q3 (hp.mem_iff.2 ?_)
   simp only [List.singleton_append,qK,qJ]
   rcases hb with hb|(hb|hb)|hb
   ·exact .inl hb
   ·exact .inr (.inl (hsub b (by simp [hb])))
   ·exact .inr (.inl (hsub b (by simp [hb])))
   ·exact .inr (.inr hb)
  have hfb:∀b∈p1++p4,(putCells w (β t).b ((β t).o +j) (a.eval y).cells.toList).heap[b]? =w.heap[b]? :=fun b hb=>hheap.1 b (fun e=>hnd.1.1 (e▸hsub b hb))
  refine ⟨p1++p4,[],by rw [hown]; simp,⟨hnil,?_,ws.take j++(a.eval y).cells.toList ++ws.drop (j+(a.eval y).cells.toList.length),?_,?_,?_⟩,rfl⟩
  ·rw [hLz]; simp; omega
  ·obtain ⟨arr,e,lo,hi,g1,g2,g3,g4⟩:=hO
   have hle:(β t).o +ws.length≤arr.size:=by
    rcases Nat.eq_zero_or_pos ws.length with e0|e0
    ·omega
    ·have:=g4 (ws.length-1) (by omega)
     have:=(Array.getElem?_eq_some_iff.1 this).1
     omega
   obtain ⟨arr',e',lo',hi',q1,q2,q3,q4⟩:=zPc (r:=ws.length) (vs:=(a.eval y).cells.toList) (j:=j) ⟨arr,e,lo,hi,g1,g2,hle,g4⟩ (by rw [hvl]; omega) (Nat.le_refl _)
   refine ⟨arr',e',lo',hi',q1,q2,?_,q4⟩
   have:=(jR (off:=(β t).o +j) (vs:=(a.eval y).cells.toList) g1).1
   rw [this] at q1
   cases q1
   rw [zEi]
   exact g3
  ·intro z hz'
   simp only [qJ] at hz'
   rcases hz' with (hz'|hz')|hz'
   ·exact hone z (List.mem_of_mem_take hz')
   ·exact h4 z hz'
   ·exact hone z (List.mem_of_mem_drop hz')
  ·have q1:=zK.frame hfr _ true _ p1 (fun b hb=>hfb b (by simp [hb])) (fun _ _=>rfl) hs1
   have q2:=zK.frame hfr _ true _ [] (by simp) (fun _ _=>rfl) h3
   have q3:=zK.frame hfr _ true _ p4 (fun b hb=>hfb b (by simp [hb])) (fun _ _=>rfl) hs4
   rw [List.drop_drop,List.drop_drop] at q3
   have:=(q1.append q2).append q3
   rw [hvl]
   simpa using this
 ·rw [hc]; simp
end Go.Im
namespace Go.Im
open Go
variable {Γ:Ctx} {ops:Array Oper} {o:Oper}
theorem tV {c:Cert} {d:D} {f:(Operand→Value)→Sem Value} (hg:o.guard=none) (he:∀ρ,execOp ρ o=(do pure (.value (←f ρ)))) (hc:c= {tn:=c.tn,hn:=c.hn,out:=some d})
  (h:∀(β:Nat→Loc) (bs:List Nat) (σ:St) (a:Act) (w:World),Nd c σ→RelB Γ β bs σ a w→∃v,(f a.eval).run Γ.P w= .ok v w∧Rep β (NS Γ w bs) w true d v []):Valid Γ ops o c:=by
 rw [hc]
 refine uW hg rfl rfl fun β bs σ a w hn hr=>?_
 obtain ⟨v,h1,h2⟩:=h β bs σ a w ⟨hn.1,hn.2.1,by rw [hc]; simp⟩ hr
 exact ⟨v,zFo (he a.eval) h1,fun d' hd=>by cases hd; exact h2⟩
theorem zH3 {β:Nat→Loc} {N:Nat→Prop} {w:World} {top:Bool}:∀{cs:List D} {ws:List Value} {i:Nat} {d:D},zK β N w top cs ws []→cs[i]? =some d→∃v,ws[i]? =some v∧Rep β N w top d v []
 |c::cs,ws,0,d,h,hd=>by
  simp only [zK] at h
  obtain ⟨v,vs,b1,b2,rfl,hb,h3,h4⟩:=h
  simp at hd
  subst hd
  rw [(List.append_eq_nil_iff.1 hb.symm).1] at h3
  exact ⟨v,rfl,h3⟩
 |c::cs,ws,i+1,d,h,hd=>by
  simp only [zK] at h
  obtain ⟨v,vs,b1,b2,rfl,hb,h3,h4⟩:=h
  simp at hd
  rw [(List.append_eq_nil_iff.1 hb.symm).2] at h4
  obtain ⟨v',h5,h6⟩:=zH3 h4 hd
  exact ⟨v',by simpa using h5,h6⟩
theorem zOI {c:Cert} {x:Operand} {i:Nat} {vs:List D} {d:D} (hg:o.guard=none) (hop:o.op= .extract x i) (hc:c= {tn:=c.tn,out:=some d}) (hx:OpF c x (.tu vs)) (hd:vs[i]? =some d):
  Valid Γ ops o c:=by
 refine tV (d:=d) (f:=fun ρ=>Instr.extract (ρ x) i) hg (fun ρ=>by simp [execOp,hop]) (by rw [hc]) fun β bs σ a w hn hr=>?_
 have h1:=OpF.rep hx hn hr
 simp only [Rep] at h1
 obtain ⟨_,ws,h2,h3⟩:=h1
 obtain ⟨v,h4,h5⟩:=zH3 h3 hd
 refine ⟨v,?_,h5⟩
 rw [h2]
 simp [Instr.extract,h4]<;>rfl
def zPx (P:Program) (T:TypeId) (cs:List D) (off:Nat):Option D:=
 match zGE P T,zGk P T with
 |some true,some n=>some (.ag ((cs.drop off).take n))
 |some false,_=>cs[off]?
 |_,_=>none
theorem zQ8 {c:Cert} {x:Operand} {S:TypeId} {f:Nat} {fields:Array Field} {fl:Field} {cs:List D} {d:D} (hg:o.guard=none) (hop:o.op= .field S x f) (hc:c= {tn:=c.tn,out:=some d})
  (hx:OpF c x (.ag cs)) (hS:yT Γ.P (underlying S)=some (.struct fields)) (hf:fields[f]? =some fl) (hd:zPx Γ.P fl.type cs fl.offset=some d):Valid Γ ops o c:=by
 refine tV (d:=d) (f:=fun ρ=>Instr.field S (ρ x) f) hg (fun ρ=>by simp [execOp,hop]) (by rw [hc]) fun β bs σ a w hn hr=>?_
 have h1:=OpF.rep hx hn hr
 simp only [Rep] at h1
 obtain ⟨_,ws,h2,h6,h3⟩:=h1
 rw [h2]
 unfold Instr.field
 rw [run_bind_ok (zS _ _ w hS)]
 simp only [hf]
 rw [run_bind_ok (a:=ws.toArray) (w':=w) rfl]
 unfold zPx at hd
 unfold part
 split at hd
 ·rename_i n g1 g2
  cases hd
  rw [run_bind_ok (zS _ _ w g1)]
  simp only [if_true]
  rw [run_bind_ok (zS _ _ w g2)]
  refine ⟨_,rfl,?_⟩
  obtain ⟨p1,p2,e,q1,q2⟩:=h3.split fl.offset
  rw [(List.append_eq_nil_iff.1 e.symm).2] at q2
  obtain ⟨p3,p4,e',q3,q4⟩:=q2.split n
  rw [(List.append_eq_nil_iff.1 e'.symm).1] at q3
  simp only [Rep]
  refine ⟨trivial,(ws.drop fl.offset).take n,?_,fun y hy=>h6 y (List.mem_of_mem_drop (List.mem_of_mem_take hy)),q3⟩
  simp [List.take_drop]
 ·rename_i _ g1
  rw [run_bind_ok (zS _ _ w g1)]
  obtain ⟨v,h4,h5⟩:=zH3 h3 hd
  refine ⟨v,?_,h5⟩
  simp [h4]<;>rfl
 ·cases hd
def zJO (place:Nat→Option (Nat×Nat)) (cs:List D):List (Nat×D)→Option (List D)
 |[]=>some cs
 |(i,d)::rest=>match place i with
  |none=>none
  |some (off,size)=>if (cellsD d).length =size∧off+size≤cs.length then zJO place (cs.take off++cellsD d++cs.drop (off+size)) rest else none
theorem zLN (vs:List Value) (off:Nat):∀(k:Nat) (arr:Array Value),(vs.zipIdx k).foldl (fun cs (x:Value×Nat)=>cs.setIfInBounds (off+x.2) x.1) arr=zEV arr (off+k) vs:=by
 induction vs with
 |nil=>intro k arr; rfl
 |cons v vs ih=>intro k arr; simp only [List.zipIdx_cons,List.foldl_cons,zEV]; rw [ih]; rfl
theorem zLK (arr:Array Value) (off:Nat) (vs:List Value) (h:off+vs.length≤arr.size):(zEV arr off vs).toList =arr.toList.take off++vs++arr.toList.drop (off+vs.length):=by
 apply List.ext_getElem?
 intro k
 rw [Array.getElem?_toList,zGW _ _ _ h]
 by_cases c1:k<off
 ·rw [if_neg (by omega),List.append_assoc,List.getElem?_append_left (by simp; omega)]
  simp [c1]
 ·by_cases c2:k<off+vs.length
  ·rw [if_pos (by omega),List.append_assoc,List.getElem?_append_right (by simp; omega),List.getElem?_append_left (by simp; omega)]
   congr 1
   simp; omega
  ·rw [if_neg (by omega),List.append_assoc,List.getElem?_append_right (by simp; omega),List.getElem?_append_right (by simp; omega)]
   rw [List.getElem?_drop,Array.getElem?_toList]
   congr 1
   simp; omega
theorem zK1 {β:Nat→Loc} {N:Nat→Prop} {w:World} {place:Nat→Option (Nat×Nat)}:∀(ps:List (Nat×D)) (vs:List (Nat×Value)) (cs:List D) (arr:Array Value) (cs':List D),
  zJO place cs ps=some cs'→zK β N w true cs arr.toList []→(∀x∈arr.toList,Value.oneCell x=true)→ps.length=vs.length→
  (∀(k:Nat) (i:Nat) (d:D),ps[k]? =some (i,d)→∃v,vs[k]? =some (i,v)∧(cellsD d).all D.cell=true∧Rep β N w true d v [])→
  ∃arr',Instr.fill place arr vs=some arr'∧zK β N w true cs' arr'.toList []∧∀x∈arr'.toList,Value.oneCell x=true
 |[],[],cs,arr,cs',h,hr,ho,_,_=>by
  simp only [zJO] at h; cases h
  exact ⟨arr,rfl,hr,ho⟩
 |(i,d)::ps,(i',v)::vs,cs,arr,cs',h,hr,ho,hl,hp=>by
  obtain ⟨v',h1,h2,h3⟩:=hp 0 i d rfl
  simp at h1
  obtain ⟨e1,e2⟩:=h1
  subst e1
  subst e2
  obtain ⟨h4,h5⟩:=zHc h2 h3
  simp only [zJO] at h
  cases hpl:place i' with
  |none=>rw [hpl] at h; cases h
  |some q=>
   obtain ⟨off,size⟩:=q
   rw [hpl] at h
   simp only at h
   split at h
   ·rename_i hc
    have e1:=h4.length
    have e2:=hr.length
    simp only [Instr.fill,hpl]
    have e3:v.cells.size=(cellsD d).length :=by simpa using e1
    have e4:arr.size=cs.length:=by simpa using e2
    rw [if_neg (by simp; omega)]
    have ef:v.cells.zipIdx.foldl (fun cs (x:Value×Nat)=>cs.setIfInBounds (off+x.2) x.1) arr=zEV arr off v.cells.toList:=by
     rw [←Array.foldl_toList,Array.toList_zipIdx]
     simpa using zLN v.cells.toList off 0 arr
    have hsp:=zLK arr off v.cells.toList (by simp; omega)
    refine zK1 ps vs _ _ cs' h ?_ ?_ (by simpa using hl) (fun k i d hk=>hp (k+1) i d (by simpa using hk))
    ·rw [ef,hsp]
     obtain ⟨p1,p2,q0,q1,q2⟩:=hr.split off
     rw [(List.append_eq_nil_iff.1 q0.symm).1] at q1
     obtain ⟨p3,p4,q3,q4,q5⟩:=hr.split (off+size)
     rw [(List.append_eq_nil_iff.1 q3.symm).2] at q5
     have:=(q1.append h4).append q5
     rw [e1,hc.1]
     simpa using this
    ·rw [ef,hsp]
     intro x hx
     simp only [qJ] at hx
     rcases hx with (hx|hx)|hx
     ·exact ho x (List.mem_of_mem_take hx)
     ·exact h5 x hx
     ·exact ho x (List.mem_of_mem_drop hx)
   ·cases h
def placesOf (P:Program) (T:TypeId):Option (Array (Nat×Nat)):=
 match yT P (underlying T) with
 |some (.struct fields)=>yT P (fields.mapM fun f=>do pure (f.offset,←sizeOf f.type))
 |_=>none
theorem zQH {c:Cert} {T:TypeId} {parts:Array (Nat×Operand)} {places:Array (Nat×Nat)} {zv:Value} {ds:List (Nat×D)} {cs:List D} (hg:o.guard=none) (hop:o.op= .build T parts)
  (hc:c= {tn:=c.tn,out:=some (.ag cs)}) (hz:yT Γ.P (zeroValue T)=some zv) (hp:placesOf Γ.P T=some places) (h1:zv.cells.toList.all Value.oneCell=true) (hl:ds.length=parts.size)
  (hds:∀(k:Nat) (i:Nat) (d:D),ds[k]? =some (i,d)→∃x,parts[k]? =some (i,x)∧OpF c x d∧(cellsD d).all D.cell=true)
  (hf:zJO (fun i=>places[i]?) (zv.cells.toList.map D.sc) ds=some cs):Valid Γ ops o c:=by
 refine tV (d:=.ag cs) (f:=fun ρ=>Instr.build T (parts.map fun (i,x)=>(i,ρ x))) hg (fun ρ=>by simp [execOp,hop]) (by rw [hc]) fun β bs σ a w hn hr=>?_
 obtain ⟨arr',h2,h3,h4⟩:=zK1 (β:=β) (N:=NS Γ w bs) (w:=w) (place:=fun i=>places[i]?) ds (parts.map fun (i,x)=>(i,a.eval x)).toList _ zv.cells cs hf (zFN _)
  (fun x hx=>List.all_eq_true.1 h1 x hx) (by simp [hl]) (fun k i d hk=>by
   obtain ⟨x,g1,g2,g3⟩:=hds k i d hk
   refine ⟨a.eval x,?_,g3,OpF.rep g2 hn hr⟩
   rw [Array.getElem?_toList,Array.getElem?_map,g1]
   rfl)
 refine ⟨.agg arr',?_,?_⟩
 ·unfold Instr.build
  rw [run_bind_ok (zS _ _ w hz)]
  unfold placesOf at hp
  split at hp
  ·rename_i fields g1
   rw [run_bind_ok (zS _ _ w g1)]
   simp only
   rw [run_bind_ok (zS _ _ w hp)]
   rw [h2]
   rfl
  ·cases hp
 ·simp only [Rep]
  exact ⟨trivial,arr'.toList,rfl,h4,h3⟩
theorem zNR {c:Cert} {x:Operand} {t i j:Nat} (hg:o.guard=none) (hop:o.op= .nilCheck x) (hc:c= {tn:=c.tn,out:=some (.pt t i j)}) (hx:OpF c x (.pt t i j)):Valid Γ ops o c:=by
 rw [hc]
 refine uW hg rfl rfl fun β bs σ a w hn hr=>?_
 have h1:=OpF.rep (c:=c) hx ⟨hn.1,by rw [hc]; simp,by rw [hc]; simp⟩ hr
 refine ⟨a.eval x,?_,fun d hd=>by cases hd; exact h1⟩
 simp only [Rep] at h1
 simp only [execOp,hop]
 rw [h1.2.2.2]
 rfl
theorem zEP {ρ:Operand→Value} {b:Builtin} {args:Array Operand} {ts:Array TypeId} (hop:o.op= .call {callee:=.builtin b,args:=args,argTypes:=ts}):
  execOp ρ o=builtin b ts o.type (args.map fun| .const _=>true|_=>false) (args.map ρ):=by
 simp only [execOp,hop,resolve]
 rfl
theorem zQJ {c:Cert} {x:Operand} {T el ty:TypeId} {oo z n t off:Nat} {xs:List (List D)} {cap:Option Nat} {d:D} {ow:Bool} (hg:o.guard=none)
  (hop:o.op= .call {callee:=.builtin .len,args:= #[x],argTypes:= #[T]}) (hc:c= {tn:=c.tn,out:=some (.sc (.int .i64 n))}) (hd:d= .s ow z n xs∨d= .rf t off n cap∨d= .ln n)
  (hx:OpF c x d) (hT:yT Γ.P (underlying T)=some (.slice el)):Valid Γ ops o c:=by
 rw [hc]
 refine uW hg rfl rfl fun β bs σ a w hn hr=>?_
 have h1:=OpF.rep (c:=c) hx ⟨hn.1,by rw [hc]; simp,by rw [hc]; simp⟩ hr
 have hv:∃ad cp,a.eval x= .slice ad n cp:=by
  rcases hd with rfl|rfl|rfl
  ·simp only [Rep] at h1
   obtain ⟨_,_,ad,cp,h2,_⟩:=h1
   exact ⟨ad,cp,h2⟩
  ·simp only [Rep] at h1
   obtain ⟨_,_,⟨_,_,rfl,h2⟩|⟨_,cp,h2,_⟩⟩:=h1
   ·exact ⟨none,0,h2⟩
   ·exact ⟨_,cp,h2⟩
  ·simp only [Rep] at h1
   obtain ⟨_,ad,cp,h2,_⟩:=h1
   exact ⟨ad,cp,h2⟩
 obtain ⟨ad,cp,hv⟩:=hv
 refine ⟨.int .i64 n,?_,fun d hd=>by cases hd; simp [Rep]⟩
 rw [zEP hop]
 simp only [builtin,List.map_toArray,List.map_cons,List.map_nil]
 rw [hv]
 refine run_bind_ok (a:=Value.int .i64 n) (w':=w) ?_
 unfold Builtin.len_
 simp only [List.getElem?_toArray,List.getElem?_cons_zero]
 rw [run_bind_ok (zS _ _ w hT)]
 rfl
theorem zRC {c:Cert} {f:FuncId} {caps:Array Operand} {ds:List D} (hg:o.guard=none) (hop:o.op= .makeFunc (.func f) #[] caps) (hc:c= {tn:=c.tn,out:=some (.fn f ds)})
  (hl:ds.length=caps.size) (hds:∀(k:Nat) (d:D),ds[k]? =some d→∃x,caps[k]? =some x∧OpF c x d):Valid Γ ops o c:=by
 refine tV (d:=.fn f ds) (f:=fun ρ=>Instr.makeFunc (.func f) #[] (caps.map ρ)) hg (fun ρ=>by simp [execOp,hop]) (by rw [hc]) fun β bs σ a w hn hr=>?_
 refine ⟨_,rfl,?_⟩
 simp only [Rep]
 refine ⟨trivial,trivial,(caps.map a.eval).toList,by rw [Array.toArray_toList],?_⟩
 have key:∀(ds:List D) (xs:List Operand),ds.length=xs.length→(∀(k:Nat) (d:D),ds[k]? =some d→∃x,xs[k]? =some x∧OpF c x d)→zK β (NS Γ w bs) w true ds (xs.map a.eval) []:=by
  intro ds
  induction ds with
  |nil=>intro xs h _; rw [List.length_eq_zero_iff.1 h.symm]; simp [zK]
  |cons d ds ih=>
   intro xs h hk
   cases xs with
   |nil=>simp at h
   |cons x xs=>
    obtain ⟨x',g1,g2⟩:=hk 0 d rfl
    simp at g1
    subst g1
    simp only [List.map_cons,zK]
    exact ⟨_,_,[],[],rfl,rfl,OpF.rep g2 hn hr,ih xs (by simpa using h) (fun k d hd=>hk (k+1) d (by simpa using hd))⟩
 have:=key ds caps.toList (by simpa using hl) (fun k d hd=>by
  obtain ⟨x,g1,g2⟩:=hds k d hd
  exact ⟨x,by rw [Array.getElem?_toList]; exact g1,g2⟩)
 simpa using this
end Go.Im
namespace Go.Im
open Go
variable {Γ:Ctx} {ops:Array Oper} {o:Oper}
def zLF (c:Cert) (x:Option Operand) (dflt n:Nat):Prop:=
 match x with
 |none=>n=dflt
 |some x=>∃k,OpF c x (.sc (.int k n))
theorem run_sliceBound {P:Program} {w:World} {k:IntKind} {n y:Nat} {code:BoundsCode} (h:n≤y):(Instr.sliceBound (.int k n) y code).run P w= .ok n w:=by
 unfold Instr.sliceBound
 rw [run_bind_ok (a:=(k,(n:Int))) (w':=w) rfl]
 simp only
 rw [if_pos ⟨by omega,by omega⟩]
 simp<;>rfl
theorem zGi {P:Program} {β:Nat→Loc} {bs:List Nat} {σ:St} {a:Act} {w:World} {c:Cert} (hn:Nd c σ) (hr:RelB Γ β bs σ a w) {b:Bool} {lo hi:Option Operand} {len cap l h:Nat}
  (hl:zLF c lo 0 l) (hh:zLF c hi len h) (h1:l≤h) (h2:h≤cap):(Instr.sliceBounds b len cap (lo.map a.eval) (hi.map a.eval) none).run P w= .ok (l,h,cap) w:=by
 unfold Instr.sliceBounds
 rw [run_bind_ok (a:=cap) (w':=w) rfl]
 cases hi with
 |none=>
  simp only [zLF] at hh; subst hh
  simp only [Option.map_none]
  rw [run_bind_ok (a:=h) (w':=w) rfl]
  cases lo with
  |none=>simp only [zLF] at hl; subst hl; rfl
  |some x=>
   obtain ⟨k,hk⟩:=hl
   have:=OpF.rep hk hn hr
   simp only [Rep] at this
   simp only [Option.map_some,this.1]
   rw [run_bind_ok (run_sliceBound h1)]
   rfl
 |some y=>
  obtain ⟨k',hk'⟩:=hh
  have h3:=OpF.rep hk' hn hr
  simp only [Rep] at h3
  simp only [Option.map_some,h3.1]
  rw [run_bind_ok (run_sliceBound h2)]
  cases lo with
  |none=>simp only [zLF] at hl; subst hl; rfl
  |some x=>
   obtain ⟨k,hk⟩:=hl
   have:=OpF.rep hk hn hr
   simp only [Rep] at this
   simp only [Option.map_some,this.1]
   rw [run_bind_ok (run_sliceBound h1)]
   rfl
theorem zMu {c:Cert} {x:Operand} {T:TypeId} {lo hi:Option Operand} {s:ByteArray} {l h:Nat} (hg:o.guard=none) (hop:o.op= .slice T x lo hi none)
  (hc:c= {tn:=c.tn,out:=some (.sc (.string (s.extract l h)))}) (hx:OpF c x (.sc (.string s))) (hT:yT Γ.P (underlying T)=some .string) (hl:zLF c lo 0 l) (hh:zLF c hi s.size h)
  (h1:l≤h) (h2:h≤s.size):Valid Γ ops o c:=by
 refine tV (d:=.sc (.string (s.extract l h))) (f:=fun ρ=>Instr.sliceAt T (ρ x) (lo.map ρ) (hi.map ρ) ((none:Option Operand).map ρ)) hg (fun ρ=>by simp [execOp,hop]) (by rw [hc]) fun β bs σ a w hn hr=>?_
 have h3:=OpF.rep hx hn hr
 simp only [Rep] at h3
 refine ⟨_,?_,by simp only [Rep]; exact ⟨rfl,trivial⟩⟩
 rw [h3.1]
 unfold Instr.sliceAt
 rw [run_bind_ok (zS _ _ w hT)]
 simp only
 unfold Instr.slice
 rw [run_bind_ok (zS _ _ w hT)]
 simp only [Option.map_none,Option.isSome_none,qD,if_false]
 show ((Instr.sliceBounds false s.size s.size (lo.map a.eval) (hi.map a.eval) none) >>= _).run Γ.P w=_
 rw [run_bind_ok (zGi hn hr hl hh h1 h2)]
 rfl
theorem zZ.sub {β:Nat→Loc} {N:Nat→Prop} {w:World} {z:Nat}:∀{xs:List (List D)} {ws:List Value} (k:Nat),zZ β N w xs ws []→(∀x∈xs,x.length=z)→
  zZ β N w (xs.take k) (ws.take (k*z)) []∧zZ β N w (xs.drop k) (ws.drop (k*z)) []
 |xs,ws,0,h,hz=>by simpa [zZ] using h
 |[],ws,k+1,h,hz=>by
  simp only [zZ] at h
  rw [h.1]
  simp [zZ]
 |x::xs,ws,k+1,h,hz=>by
  simp only [zZ] at h
  obtain ⟨w1,w2,b1,b2,rfl,hb,h3,h4⟩:=h
  rw [(List.append_eq_nil_iff.1 hb.symm).1] at h3
  rw [(List.append_eq_nil_iff.1 hb.symm).2] at h4
  have hl:=h3.length
  rw [hz x (by simp)] at hl
  obtain ⟨h5,h6⟩:=zZ.sub k h4 (fun y hy=>hz y (by simp [hy]))
  have e1:(w1++w2).drop ((k+1)*z)=w2.drop (k*z):=by
   rw [Nat.add_mul,Nat.one_mul,List.drop_append,List.drop_of_length_le (by omega),List.nil_append]; congr 1; omega
  have e2:(w1++w2).take ((k+1)*z)=w1++w2.take (k*z):=by
   rw [Nat.add_mul,Nat.one_mul,List.take_append,List.take_of_length_le (by omega)]; congr 2; omega
  rw [e1,e2]
  refine ⟨?_,by simpa using h6⟩
  simp only [List.take_succ_cons,zZ]
  exact ⟨w1,_,[],[],rfl,rfl,h3,h5⟩
theorem zEp {P:Program} {β:Nat→Loc} {bs:List Nat} {σ:St} {a:Act} {w:World} {c:Cert} (hn:Nd c σ) (hr:RelB Γ β bs σ a w) {T el:TypeId} {z:Nat} {ad:Option Addr} {lo hi:Option Operand} {len cap l h:Nat}
  (hT:yT P (underlying T)=some (.slice el)) (hz:zGk P el=some z) (hl:zLF c lo 0 l) (hh:zLF c hi len h) (h1:l≤h) (h2:h≤cap):
  (Instr.sliceAt T (.slice ad len cap) (lo.map a.eval) (hi.map a.eval) none).run P w= .ok (.slice (if cap=l then ad else ad.map (·.add (l*z))) (h-l) (cap-l)) w:=by
 unfold Instr.sliceAt
 rw [run_bind_ok (zS _ _ w hT)]
 simp only
 unfold Instr.slice
 rw [run_bind_ok (zS _ _ w hT)]
 simp only
 rw [run_bind_ok (zGi hn hr hl hh h1 h2)]
 simp only
 rw [run_bind_ok (zS _ _ w hz)]
 rfl
theorem zPe {c:Cert} {x:Operand} {T el:TypeId} {lo hi:Option Operand} {z n l h:Nat} {xs ys:List (List D)} (hg:o.guard=none) (hop:o.op= .slice T x lo hi none)
  (hc:c= {tn:=c.tn,out:=some (.s false z (h-l) ys)}) (hx:OpF c x (.s false z n xs)) (hT:yT Γ.P (underlying T)=some (.slice el)) (hz:zGk Γ.P el=some z)
  (hl:zLF c lo 0 l) (hh:zLF c hi n h) (h1:l≤h) (h2:h≤n) (hys:ys=(xs.drop l).take (h-l)):Valid Γ ops o c:=by
 refine tV (d:=.s false z (h-l) ys) (f:=fun ρ=>Instr.sliceAt T (ρ x) (lo.map ρ) (hi.map ρ) none) hg (fun ρ=>by simp [execOp,hop]) (by rw [hc]) fun β bs σ a w hn hr=>?_
 have h3:=OpF.rep hx hn hr
 simp only [Rep] at h3
 obtain ⟨hlen,hzz,ad,cap,hv,hcap,h4⟩:=h3
 rw [hv]
 refine ⟨_,zEp hn hr hT hz hl hh h1 (by omega),?_⟩
 subst hys
 simp only [Rep]
 refine ⟨by simp; omega,fun e he=>hzz e (List.mem_of_mem_drop (List.mem_of_mem_take he)),_,_,rfl,by omega,?_⟩
 by_cases h0:h-l=0
 ·exact .inl ⟨h0,trivial,by simp⟩
 ·refine .inr (.inl ⟨trivial,?_⟩)
  rcases h4 with h4|⟨_,b,off,ws,had,hN,hH,hE,_⟩|h4
  ·omega
  ·rw [if_neg (by omega)]
   have q:=(zZ.sub (h-l) (zZ.sub l hE hzz).2 (fun e he=>hzz e (List.mem_of_mem_drop he))).1
   refine ⟨b,off+l*z,_,by rw [had]; simp [zE3],hN,?_,q,trivial⟩
   exact hH.sub (l*z) ((h-l)*z)
  ·exact absurd h4.1 (by simp)
theorem zM8 {c:Cert} {x y:Operand} {T:TypeId} {k:IntKind} {s:ByteArray} {i:Int} {b:UInt8} {u:Value} (hg:o.guard=none) (hop:o.op= .index T x y) (hc:c= {tn:=c.tn,out:=some (.sc u)})
  (hu:u= .int .u8 b.toNat) (hx:OpF c x (.sc (.string s))) (hy:OpF c y (.sc (.int k i))) (hT:yT Γ.P (underlying T)=some .string) (hi:0≤i) (hb:s[i.toNat]? =some b):Valid Γ ops o c:=by
 refine tV (d:=.sc u) (f:=fun ρ=>Instr.index T (ρ x) (ρ y)) hg (fun ρ=>by simp [execOp,hop]) (by rw [hc]) fun β bs σ a w hn hr=>?_
 have h1:=OpF.rep hx hn hr
 have h2:=OpF.rep hy hn hr
 simp only [Rep] at h1 h2
 refine ⟨u,?_,by simp [Rep]⟩
 rw [h1.1,h2.1,hu]
 unfold Instr.index
 rw [run_bind_ok (a:=(k,i)) (w':=w) rfl]
 simp only
 rw [run_bind_ok (zS _ _ w hT)]
 simp only [if_pos hi,hb]
 rfl
theorem zNJ {c:Cert} {x y:Operand} {T el:TypeId} {k:IntKind} {z n t off j:Nat} {i:Int} {cap:Option Nat} {xs:List (List D)} (hg:o.guard=none) (hop:o.op= .indexAddr T x y)
  (hc:c= {tn:=c.tn,hn:=c.hn,out:=some (.pt t j 0)}) (hx:OpF c x (.rf t off n cap)) (hy:OpF c y (.sc (.int k i))) (hT:yT Γ.P (underlying T)=some (.slice el)) (hz:zGk Γ.P el=some z)
  (hi:0≤i) (hj:i<n) (hjj:off+i.toNat=j) (hh:(t,.row z xs)∈c.hn):Valid Γ ops o c:=by
 refine tV (d:=.pt t j 0) (f:=fun ρ=>Instr.indexAt T (ρ x) (ρ y)) hg (fun ρ=>by simp [execOp,hop]) (by rw [hc]) fun β bs σ a w hn hr=>?_
 have h1:=OpF.rep hx hn hr
 have h2:=OpF.rep hy hn hr
 obtain ⟨_,⟨hLz,_⟩,_⟩:=vS.get hr.hp (hn.2.1 _ hh)
 simp only [Rep] at h1 h2
 obtain ⟨_,_,⟨_,_,rfl,_⟩|⟨hnil,cp,hv,hcap,hroom,_⟩⟩:=h1
 ·omega
 ·refine ⟨.pointer (some ⟨(β t).b,(β t).o +j*(β t).z +0,none⟩),?_,by simp only [Rep]; exact ⟨trivial,trivial,hnil,trivial⟩⟩
  rw [h2.1,hv]
  unfold Instr.indexAt
  rw [run_bind_ok (a:=(k,i)) (w':=w) rfl]
  simp only
  rw [run_bind_ok (zS _ _ w hT)]
  simp only
  rw [run_bind_ok (a:=(some (⟨(β t).b,(β t).o +off*(β t).z,none⟩:Addr),n,el)) (w':=w) rfl]
  rw [run_bind_ok (zS _ _ w hT)]
  simp only
  rw [if_pos ⟨hi,hj⟩]
  rw [run_bind_ok (zS _ _ w hz)]
  rw [zE3,hLz,←hjj,Nat.add_mul,Nat.add_assoc]
  rfl
def zE1:D→Bool
 | .ag _=>false
 | .tu _=>false
 | .sc u=>u.oneCell
 |_=>true
theorem zHR {β:Nat→Loc} {N:Nat→Prop} {w:World} {top:Bool}:∀{cs:List D} {ws:List Value} {bs:List Nat},cs.all zE1=true→zK β N w top cs ws bs→∀x∈ws,Value.oneCell x=true
 |[],ws,bs,_,h=>by simp only [zK] at h; rw [h.1]; simp
 |d::ds,ws,bs,hc,h=>by
  simp only [zK] at h
  obtain ⟨v,vs,b1,b2,rfl,_,h3,h4⟩:=h
  simp only [List.all_cons,Bool.and_eq_true] at hc
  intro x hx
  rcases List.mem_cons.1 hx with rfl|hx
  ·refine Rep.oneCell ?_ h3
   have:=hc.1
   cases d<;>simp_all [zE1]
  ·exact zHR hc.2 h4 x hx
theorem zNK {c:Cert} {x:Operand} {T:TypeId} {z t i j:Nat} {xs:List (List D)} {e:List D} {d:D} (hg:o.guard=none) (hop:o.op= .load T x) (hc:c= {tn:=c.tn,hn:=c.hn,out:=some d})
  (hx:OpF c x (.pt t i j)) (hh:(t,.row z xs)∈c.hn) (he:xs[i]? =some e) (ho:(e.drop j).all zE1=true)
  (hd:zDQ Γ.P T (e.drop j)=some d):Valid Γ ops o c:=by
 refine tV (d:=d) (f:=fun ρ=>Instr.loadAt T (ρ x)) hg (fun ρ=>by simp [execOp,hop]) (by rw [hc]) fun β bs σ a w hn hr=>?_
 have h1:=OpF.rep hx hn hr
 simp only [Rep] at h1
 obtain ⟨b1,⟨hLz,hzz,hrow⟩,_,_⟩:=vS.get hr.hp (hn.2.1 _ hh)
 rcases hrow with ⟨_,rfl,_⟩|⟨hnil,ws,hO,hE⟩
 ·simp at he
 ·obtain ⟨b2,b3,b4,_,h4,_,_⟩:=zZ.get hE hzz he
  obtain ⟨b5,b6,_,_,h6⟩:=h4.split j
  have hone:=zHR ho h6
  obtain ⟨v,h7,h8⟩:=zFi hd ((hO.cells (i*z) z).drop j) hone h6.up
  refine ⟨v,?_,h8⟩
  rw [h1.2.2.2,hLz]
  exact h7
theorem zPY {c:Cert} {x y:Operand} {T U:TypeId} {s1 s2:ByteArray} (hg:o.guard=none) (hop:o.op= .binOp .add T x y U) (hc:c= {tn:=c.tn,out:=some (.sc (.string (s1++s2)))})
  (hx:OpF c x (.sc (.string s1))) (hy:OpF c y (.sc (.string s2))) (hb:s1.size+s2.size≤1099511627776):Valid Γ ops o c:=by
 refine tV (d:=.sc (.string (s1++s2))) (f:=fun ρ=>do eqGuard .add T x y (ρ x) (ρ y); binOp .add T (ρ x) (ρ y)) hg (fun ρ=>by simp [execOp,hop]) (by rw [hc]) fun β bs σ a w hn hr=>?_
 have h1:=OpF.rep hx hn hr
 have h2:=OpF.rep hy hn hr
 simp only [Rep] at h1 h2
 refine ⟨_,?_,by simp only [Rep]; exact ⟨rfl,trivial⟩⟩
 rw [h1.1,h2.1]
 rw [run_bind_ok (a:=()) (w':=w) rfl]
 show (Op.stringOp .add s1 s2).run Γ.P w=_
 unfold Op.stringOp
 simp only
 have hmax:IntKind.i64.max=9223372036854775807:=by rfl
 rw [if_neg (by rw [hmax]; omega)]
 rfl
end Go.Im
namespace Go.Im
open Go
variable {Γ:Ctx} {ops:Array Oper} {o:Oper}
def D.nest:D→Bool
 | .sc v=>v.oneCell
 | .s o _ _ _=> !o
 |_=>false
inductive Emb (hn:List (Nat×Ent)):List D→List D→List Nat→Prop where
 |nil:Emb hn [] [] []
 |keep {d:D} {ds ds':List D} {ts:List Nat}:d.nest=true→Emb hn ds ds' ts→Emb hn (d::ds) (d::ds') ts
 |nilsl {ds ds':List D} {ts:List Nat} (ow:Bool) (z:Nat):Emb hn ds ds' ts→Emb hn (.sc (.slice none 0 0)::ds) (.s ow z 0 []::ds') ts
 |move {t n z:Nat} {cap:Option Nat} {xs:List (List D)} {ds ds':List D} {ts:List Nat}:(t,.row z xs)∈hn→xs.length=n→t∉ts→Emb hn ds ds' ts→
  Emb hn (.rf t 0 n cap::ds) (.s true z n xs::ds') (t::ts)
theorem Emb.zIz (hn:List (Nat×Ent)):∀(ds:List D),ds.all D.nest=true→Emb hn ds ds []
 |[],_=>.nil
 |d::ds,h=>by
  simp only [List.all_cons,Bool.and_eq_true] at h
  exact .keep h.1 (Emb.zIz hn ds h.2)
theorem Rep.nest {β:Nat→Loc} {N:Nat→Prop} {w:World} {d:D} {v:Value} {bs:List Nat} (hd:d.nest=true) (h:Rep β N w true d v bs):Rep β N w false d v bs:=by
 cases d<;>simp_all [D.nest,Rep]
theorem Own.mono {w:World} {b off r r':Nat} {ws:List Value} (h:Own w b off r ws) (hr:r'≤r):Own w b off r' ws:=by
 obtain ⟨arr,e,lo,hi,h1,h2,h3,h4⟩:=h
 exact ⟨arr,e,lo,hi,h1,h2,by omega,h4⟩
theorem zIM (l:List (Nat×Ent)) (t:Nat) (ts:List Nat):(l.filter (fun x=>x.1 !=t)).filter (fun x=> !ts.contains x.1)=l.filter (fun x=> !(t::ts).contains x.1):=by
 rw [List.filter_filter]
 congr 1; funext x
 by_cases h:x.1=t<;>simp [h]
theorem Emb.rep {β:Nat→Loc} {N:Nat→Prop} {w:World} {hn:List (Nat×Ent)} {ds ds':List D} {ts:List Nat} (he:Emb hn ds ds' ts):∀{hp:List (Nat×Ent)} {bs:List Nat} {ws:List Value},
  vS β N w hp bs→(hp.map (·.1)).Nodup →(∀x∈hn,x.1∈ts→x∈hp)→zK β N w true ds ws []→
  ∃b1 bk,bs.Perm (b1++bk)∧zK β N w false ds' ws b1∧vS β N w (hp.filter (fun x=> !ts.contains x.1)) bk:=by
 induction he with
 |nil=>
  intro hp bs ws h _ _ hr
  refine ⟨[],bs,.refl _,?_,by rw [zGC]; exact h⟩
  simp only [zK] at hr ⊢
  exact hr
 |keep hd _ ih=>
  intro hp bs ws h hk hh hr
  simp only [zK] at hr
  obtain ⟨v,vs,b1,b2,rfl,hb,h3,h4⟩:=hr
  rw [(List.append_eq_nil_iff.1 hb.symm).1] at h3
  rw [(List.append_eq_nil_iff.1 hb.symm).2] at h4
  obtain ⟨c1,ck,q1,q2,q3⟩:=ih h hk hh h4
  refine ⟨c1,ck,q1,?_,q3⟩
  simp only [zK]
  exact ⟨v,vs,[],c1,rfl,rfl,h3.nest hd,q2⟩
 |nilsl ow z _ ih=>
  intro hp bs ws h hk hh hr
  simp only [zK] at hr
  obtain ⟨v,vs,b1,b2,rfl,hb,h3,h4⟩:=hr
  rw [(List.append_eq_nil_iff.1 hb.symm).2] at h4
  obtain ⟨c1,ck,q1,q2,q3⟩:=ih h hk hh h4
  refine ⟨c1,ck,q1,?_,q3⟩
  simp only [zK]
  simp only [Rep] at h3
  refine ⟨v,vs,[],c1,rfl,rfl,?_,q2⟩
  obtain ⟨rfl,_⟩:=h3
  simp only [Rep]
  exact ⟨rfl,by simp,none,0,rfl,Nat.le_refl _,.inl ⟨trivial,trivial,fun _=>⟨rfl,rfl⟩⟩⟩
 | @move t n z cap xs ds ds' ts hm hlen hnt _ ih=>
  intro hp bs ws h hk hh hr
  simp only [zK] at hr
  obtain ⟨v,vs,b1,b2,rfl,hb,h3,h4⟩:=hr
  rw [(List.append_eq_nil_iff.1 hb.symm).1] at h3
  rw [(List.append_eq_nil_iff.1 hb.symm).2] at h4
  obtain ⟨be,b2',p,hE,hrest⟩:=vS.take h hk (hh _ hm (by simp))
  obtain ⟨c1,ck,q1,q2,q3⟩:=ih hrest (List.Nodup.sublist (List.Sublist.map _ List.filter_sublist) hk) (fun x hx hxt=>by
   refine List.mem_filter.2 ⟨hh x hx (by simp [hxt]),?_⟩
   simp only [bne_iff_ne,ne_eq]
   intro e
   exact hnt (e▸hxt)) h4
  rw [zIM] at q3
  obtain ⟨hLz,hzz,hrow⟩:=hE
  simp only [Rep] at h3
  obtain ⟨_,_,h3⟩:=h3
  refine ⟨(β t).own ++be++c1,ck,?_,?_,q3⟩
  ·refine p.trans ?_
   rw [List.append_assoc,List.append_assoc]
   refine List.Perm.append_left _ (List.Perm.append_left _ q1)
  ·simp only [zK]
   refine ⟨v,vs,(β t).own ++be,c1,rfl,by simp,?_,q2⟩
   simp only [Rep]
   refine ⟨hlen,hzz,?_⟩
   rcases h3 with ⟨hnil,_,hn0,hv⟩|⟨hnil,cp,hv,hcap,hroom,_⟩
   ·rcases hrow with ⟨_,hx,hbe⟩|⟨hnil',_⟩
    ·refine ⟨none,0,by rw [hn0]; exact hv,by omega,.inl ⟨hn0,by simp [Loc.own,hnil,hbe],fun _=>⟨rfl,rfl⟩⟩⟩
    ·rw [hnil] at hnil'; cases hnil'
   ·rcases hrow with ⟨hnil',_⟩|⟨_,wx,hO,hEs⟩
    ·rw [hnil] at hnil'; cases hnil'
    ·refine ⟨some ⟨(β t).b,(β t).o,none⟩,cp,by simpa using hv,hcap,.inr (.inr ⟨trivial,(β t).b,(β t).o,wx,be,rfl,by simp [Loc.own,hnil],?_,hEs⟩)⟩
     rw [←hLz]
     exact hO.mono (by simpa using hroom)
theorem zKu {β:Nat→Loc} {N:Nat→Prop} {w:World}:∀{xs:List (List D)} {ws:List Value} {bs:List Nat},zK β N w false xs.flatten ws bs→zZ β N w xs ws bs
 |[],ws,bs,h=>by simp only [List.flatten_nil,zK] at h; simpa [zZ] using h
 |x::xs,ws,bs,h=>by
  simp only [List.flatten_cons] at h
  obtain ⟨b1,b2,e,h1,h2⟩:=h.split x.length
  rw [List.take_append_of_le_length (Nat.le_refl _),List.take_length] at h1
  rw [List.drop_append_of_le_length (Nat.le_refl _),List.drop_length,List.nil_append] at h2
  simp only [zZ]
  exact ⟨_,_,b1,b2,(List.take_append_drop _ _).symm,e,h1,zKu h2⟩
theorem zZ.append {β:Nat→Loc} {N:Nat→Prop} {w:World}:∀{x1 x2:List (List D)} {w1 w2:List Value} {b1 b2:List Nat},zZ β N w x1 w1 b1→zZ β N w x2 w2 b2→zZ β N w (x1++x2) (w1++w2) (b1++b2)
 |[],x2,w1,w2,b1,b2,h1,h2=>by
  simp only [zZ] at h1
  obtain ⟨rfl,rfl⟩:=h1
  simpa using h2
 |x::x1,x2,w1,w2,b1,b2,h1,h2=>by
  simp only [zZ] at h1
  obtain ⟨c1,c2,d1,d2,rfl,rfl,h3,h4⟩:=h1
  simp only [List.cons_append,zZ]
  exact ⟨c1,_,d1,d2++b2,by simp,by simp,h3,h4.append h2⟩
theorem Rel.zRc {β:Nat→Loc} {bs b1 bk:List Nat} {σ:St} {a:Act} {w w1:World} {c:Cert} {t z n:Nat} {xs:List (List D)} {arr:Array Value} {el:TypeId} {ws:List Value} {cp lo hi:Nat}
  (h0:∀t,t∈zLU σ.tm∨t∈zIp σ.hp→t∈σ.us) (h:RelB Γ β bs σ a w) {dst:Option Nat} (hd:∀t,dst=some t→t<Γ.nt) (hw:c.hw=[(t,.row z xs)]) (ht:t∉σ.us) (hm:Γ.m≤t)
  (hp:bs.Perm (b1++bk)) (hk:vS β (NS Γ w bs) w (σ.hp.filter (fun x=> !c.hx.contains x.1)) bk) (hzz:∀x∈xs,x.length=z) (hlen:xs.length=n)
  (hE:zZ β (NS Γ w bs) w xs ws b1) (hws:∃r,arr.toList=ws++r) (hcp:n≤cp) (hsz:cp*z≤arr.size)
  (hw1:w1.heap=w.heap.push (.cells arr el (lo,hi))) (hfz:∀k,k≤arr.size→¬(lo≤k∧k<hi)) (ho:c.out=some (.rf t 0 n none)) (hq:w1.os=w.os∧w1.output=w.output):Rel Γ (σ.upd dst c) (a.put dst (.slice (some ⟨w.heap.size,0,none⟩) n cp)) w1:=by
 have hlt:∀b∈b1,b<w.heap.size:=fun b hb=>(h.own b (hp.mem_iff.2 (by simp [hb]))).1
 have hnd:=hp.nodup_iff.1 h.nodup
 have hN:∀b,NS Γ w bs b→NS Γ w1 (w.heap.size::b1++bk) b∧w1.heap[b]? =w.heap[b]? :=by
  rintro b ⟨q1,q2,q3⟩
  refine ⟨⟨q1,by rw [hw1]; simp; omega,?_⟩,zGB hw1 q2⟩
  simp only [List.cons_append,qK,not_or]
  exact ⟨by omega,fun hb=>q3 (hp.mem_iff.2 hb)⟩
 refine Rel.step (β1:=zG0 β t ⟨false,w.heap.size,0,z,arr.size⟩) (bk:=bk) (br:=b1) (bn:=w.heap.size::b1) h0 h hd (by simp [hw]) (by simpa [hw] using .inr ht) hp hk ?_ ?_ ?_ ?_ ?_ ?_ ?_ ?_ hq
 ·rw [hw1]; simp
 ·intro b hb _; exact zGB hw1 hb
 ·intro k hk'; exact zAc (fun e=>ht (e▸hk'))
 ·intro k hk'; exact zAc (by omega)
 ·exact List.nodup_cons.2 ⟨fun hb=>by have:=hlt _ hb; omega,(List.nodup_append.1 hnd).1⟩
 ·intro b hb
  rcases List.mem_cons.1 hb with rfl|hb
  ·exact ⟨.inr (Nat.le_refl _),by rw [hw1]; simp⟩
  ·exact ⟨.inl hb,by have:=hlt b hb; rw [hw1]; simp; omega⟩
 ·rw [hw]
  refine ⟨b1,[],by simp [xI,Loc.own],?_,rfl⟩
  rw [xI]
  refine ⟨rfl,hzz,.inr ⟨rfl,ws,?_,?_⟩⟩
  ·have q4:∀k,k<arr.toList.length→arr[0+k]? =arr.toList[k]? :=fun k _=>by simp
   refine ⟨arr,el,lo,hi,by rw [hw1]; simp,hfz,by simp,?_⟩
   obtain ⟨r,hr⟩:=hws
   intro k hk'
   rw [q4 k (by rw [hr]; simp; omega),hr,List.getElem?_append_left hk',List.getElem?_eq_getElem hk']
  ·exact zZ.frame hN xs ws b1 (fun b hb=>zGB hw1 (hlt b hb)) hE
 ·intro d hd'
  rw [ho] at hd'
  cases hd'
  simp only [Rep,xI]
  exact ⟨trivial,trivial,.inr ⟨trivial,cp,by simp,hcp,by simpa using hsz,by simp⟩⟩
theorem Rel.newRow {β:Nat→Loc} {bs b1 bk:List Nat} {σ:St} {a:Act} {w w1:World} {c:Cert} {t z n:Nat} {xs:List (List D)} {arr:Array Value} {el:TypeId} {ws:List Value} {cp:Nat}
  (h0:∀t,t∈zLU σ.tm∨t∈zIp σ.hp→t∈σ.us) (h:RelB Γ β bs σ a w) {dst:Option Nat} (hd:∀t,dst=some t→t<Γ.nt) (hw:c.hw=[(t,.row z xs)]) (ht:t∉σ.us) (hm:Γ.m≤t)
  (hp:bs.Perm (b1++bk)) (hk:vS β (NS Γ w bs) w (σ.hp.filter (fun x=> !c.hx.contains x.1)) bk) (hzz:∀x∈xs,x.length=z) (hlen:xs.length=n)
  (hE:zZ β (NS Γ w bs) w xs ws b1) (hws:∃r,arr.toList=ws++r) (hcp:n≤cp) (hsz:cp*z≤arr.size)
  (hw1:w1.heap=w.heap.push (.cells arr el (0,0))) (ho:c.out=some (.rf t 0 n none)) (hq:w1.os=w.os∧w1.output=w.output):Rel Γ (σ.upd dst c) (a.put dst (.slice (some ⟨w.heap.size,0,none⟩) n cp)) w1:=
 Rel.zRc h0 h hd hw ht hm hp hk hzz hlen hE hws hcp hsz hw1 (by omega) ho hq
theorem zPt {c:Cert} {T el:TypeId} {n z t:Nat} {parts:Array (Nat×Operand)} {zv:Value} {zc:Array Value} {dl:List (Nat×D)} {ds:List D} {xs:List (List D)} {ts:List Nat} (hg:o.guard=none)
  (hop:o.op= .buildSlice T n parts) (hc:c= {tn:=c.tn,hn:=c.hn,out:=some (.rf t 0 n none),hx:=ts,hw:=[(t,.row z xs)],fr:=[t]}) (hm:Γ.m≤t)
  (hT:yT Γ.P (underlying T)=some (.slice el)) (hz:zGk Γ.P el=some z) (hbig:n*z≤1000) (hzv:yT Γ.P (zeroValue el)=some zv) (hzc:zc=if n*z=0 then #[] else zv.cells)
  (h1:((Array.range (n*z)).map (zc[· %zc.size]!)).toList.all Value.oneCell=true) (hl:dl.length=parts.size)
  (hds:∀(k:Nat) (i:Nat) (d:D),dl[k]? =some (i,d)→∃x,parts[k]? =some (i,x)∧OpF c x d∧(cellsD d).all D.cell=true)
  (hf:zJO (fun i=>some (i*z,z)) (((Array.range (n*z)).map (zc[· %zc.size]!)).toList.map D.sc) dl=some ds) (hxs:xs.length=n) (hzz:∀x∈xs,x.length=z) (he:Emb c.hn ds xs.flatten ts):Valid Γ ops o c:=by
 intro σ a w Q hdst hn ⟨h0,β,bs,hr⟩
 have hwt:Region.wanted o (yielded ops a.tmps)=true:=by simp [Region.wanted,hg]
 rw [if_pos hwt]
 have hfr:t∉σ.us:=hn.2.2 t (by rw [hc]; simp)
 obtain ⟨arr',h2,h3,h4⟩:=zK1 (β:=β) (N:=NS Γ w bs) (w:=w) (place:=fun i=>some (i*z,z)) dl (parts.map fun (i,x)=>(i,a.eval x)).toList _ ((Array.range (n*z)).map (zc[· %zc.size]!)) ds hf (zFN _)
  (fun x hx=>List.all_eq_true.1 h1 x hx) (by simp [hl]) (fun k i d hk=>by
   obtain ⟨x,g1,g2,g3⟩:=hds k i d hk
   refine ⟨a.eval x,?_,g3,OpF.rep g2 hn hr⟩
   rw [Array.getElem?_toList,Array.getElem?_map,g1]
   rfl)
 have hrun:(execOp a.eval o).run Γ.P w= .ok (.value (.slice (some ⟨w.heap.size,0,none⟩) n n)) {w with heap:=w.heap.push (.cells arr' el)}:=by
  refine zFo (s:=Instr.buildSlice T n (parts.map fun (i,x)=>(i,a.eval x))) (by simp [execOp,hop]) ?_
  unfold Instr.buildSlice
  rw [run_bind_ok (zS _ _ w hT)]
  simp only
  rw [run_bind_ok (zS _ _ w hz)]
  rw [if_neg (by omega)]
  by_cases e0:n*z=0
  ·rw [if_pos e0] at hzc ⊢
   subst hzc
   rw [run_bind_ok (a:=(#[]:Array Value)) (w':=w) rfl]
   rw [h2]
   rfl
  ·rw [if_neg e0] at hzc ⊢
   subst hzc
   rw [run_bind_ok (zS _ _ w hzv)]
   rw [run_bind_ok (a:=zv.cells) (w':=w) rfl]
   rw [h2]
   rfl
 unfold Oper.wp
 rw [hrun,Oper.upon_value]
 obtain ⟨b1,bk,q1,q2,q3⟩:=Emb.rep he hr.hp hr.keys (fun x hx _=>hn.2.1 x hx) h3
 have q4:=zKu q2
 have hal:arr'.size=n*z:=by
  have:=q4.length hzz
  rw [hxs] at this
  simpa using this
 exact Rel.newRow (Γ:=Γ) (arr:=arr') (el:=el) (t:=t) (z:=z) (n:=n) (cp:=n) (xs:=xs) (ws:=arr'.toList) h0 hr hdst (by rw [hc]) hfr hm q1 (by rw [hc]; exact q3) hzz hxs q4 ⟨[],by simp⟩ (Nat.le_refl _) (by omega) rfl (by rw [hc]) ⟨rfl,rfl⟩
end Go.Im
namespace Go.Im
open Go
variable {Γ:Ctx} {ops:Array Oper} {o:Oper}
theorem zNx (v:Value):v.oneCell'=v.oneCell:=by cases v<;>rfl
theorem zCH (w:World) (b:Nat):∀(vs:List Value) (off:Nat),w.setCells b off vs=putCells w b off vs:=by
 intro vs
 induction vs generalizing w with
 |nil=>intro off; rfl
 |cons v vs ih=>intro off; simp only [World.setCells,putCells]; exact ih _ _
theorem zOk {P:Program} {el:TypeId} {zv:Value} {z bytes:Nat} (h:(P.info? el).map (fun i=>(i.zero,i.size,i.bytes))=some (some zv,z,bytes)):∃i,P.info? el=some i∧i.zero=some zv∧i.size=z∧i.bytes=bytes:=by
 cases hi:P.info? el with
 |none=>rw [hi] at h; simp at h
 |some i=>rw [hi] at h; simp at h; exact ⟨i,rfl,h⟩
def Dst (w:World) (z n:Nat) (v:Value) (wx:List Value) (blk:List Nat):Prop:=
 (v= .slice none 0 0∧n=0∧wx=[]∧blk=[])∨
 (∃b off c,v= .slice (some ⟨b,off,none⟩) n c∧blk=[b]∧n≤c∧Own w b off (c*z) wx∧wx.length=n*z)
def zSV (w w1:World) (z n m:Nat) (wx wy:List Value) (blk:List Nat) (r:Value):Prop:=
 (w1.os=w.os∧w1.output=w.output)∧((n+m=0∧blk=[]∧r= .slice none 0 0∧w1=w)∨
 (∃b off c,r= .slice (some ⟨b,off,none⟩) (n+m) c∧n+m≤c∧Own w1 b off (c*z) (wx++wy)∧b<w1.heap.size∧
  ((blk=[b]∧(∀b',b'≠b→w1.heap[b']? =w.heap[b']?)∧w1.heap.size=w.heap.size)∨(b=w.heap.size∧w.heap.size≤w1.heap.size∧∀b',b'<w.heap.size→w1.heap[b']? =w.heap[b']?))))
theorem zL8 {w w1:World} {arr:Array Value} {e:TypeId} {pre:List Value} {r:Nat} (h:w1.heap=w.heap.push (.cells arr e (0,0))) (hr:r≤arr.size) (hp:∃q,arr.toList=pre++q):Own w1 w.heap.size 0 r pre:=by
 obtain ⟨arr',e',lo,hi,q1,q2,q3,q4⟩:=zMb h
 obtain ⟨q,hq⟩:=hp
 have:arr'=arr:=by
  rw [h] at q1; simp at q1; exact q1.1.symm
 subst this
 refine ⟨arr',e',lo,hi,q1,q2,by omega,?_⟩
 intro k hk
 rw [q4 k (by rw [hq]; simp; omega)]
 simp only [hq]
 rw [List.getElem_append_left hk]
theorem zGA {P:Program} {w:World} {T U el:TypeId} {ty:TypeId} {z n m bytes:Nat} {v u:Value} {wx wy:List Value} {blk:List Nat} {zv:Value}
  (hT:P.underlying T=some (.slice el)) (hinfo:(P.info? el).map (fun i=>(i.zero,i.size,i.bytes))=some (some zv,z,bytes)) (hzs:zv.cells.size=z)
  (hd:Dst w z n v wx blk) (hs:Go.Src P z U u m wy w) (hbig:(n+m)*bytes≤140737488355328) (h62:n+m≤4611686018427387904):
  ∃r w1,(Builtin.append_ #[T,U] ty #[v,u]).run P w= .ok r w1∧zSV w w1 z n m wx wy blk r:=by
 obtain ⟨i,hi,hz0,rfl,rfl⟩:=zOk hinfo
 have hyl:=hs.newsLen
 rcases hd with ⟨rfl,rfl,rfl,rfl⟩|⟨b,off,c,rfl,rfl,hnc,hO,hxl⟩
 ·by_cases hm0:m=0
  ·subst hm0
   have hwy:wy=[]:=List.length_eq_zero_iff.1 (by simpa using hyl)
   subst hwy
   exact ⟨_,_,run_append_nothing w T U ty el i hT hi none 0 0 (Nat.le_refl _) u hs,⟨rfl,rfl⟩,.inl ⟨rfl,rfl,rfl,rfl⟩⟩
  ·have hge:=grownCap_ge w (0+m) 0 el
   refine ⟨_,_,run_append_grow_src w T U ty el i zv hT hi hz0 none 0 0 [] rfl u m wy hs (by omega) (by omega) (growslice_fits (by omega) hbig),⟨rfl,rfl⟩,.inr ⟨w.heap.size,0,_,rfl,hge,?_,?_,.inr ⟨rfl,?_,?_⟩⟩⟩
   ·refine zL8 (w:=w) rfl ?_ ⟨_,by simp; rfl⟩
    simp only [Array.size_append,List.nil_append,List.size_toArray,hyl,Builtin.zeroCells,Array.size_map,Array.size_range,hzs,Nat.zero_add,←Nat.add_mul]
    exact Nat.mul_le_mul_right _ (by omega)
   ·show w.heap.size< (w.heap.push _).size; simp
   ·show w.heap.size≤(w.heap.push _).size; simp
   ·intro b' hb'; exact zGB (w:=w) rfl hb'
 ·by_cases hroom:n+m≤c
  ·obtain ⟨arr,e,lo,hi',g1,g2,g3,g4⟩:=hO
   have hle:n*i.size+m*i.size≤c*i.size:=by rw [←Nat.add_mul]; exact Nat.mul_le_mul_right _ hroom
   have hcell:∀j,j<wy.length→off+n*i.size+j<arr.size:=fun j hj=>by omega
   refine ⟨_,_,run_append_room_src w T U ty el i hT hi b off n c u m wy hs hroom ?_ ?_,by rw [zCH]; exact zFz _ _ _ _,.inr ⟨b,off,c,rfl,hroom,?_,?_,.inl ⟨rfl,?_,?_⟩⟩⟩
   ·intro j hj; rw [cell_of g1]; simp [hcell j hj]
   ·intro j hj
    have:=g2 _ (Nat.le_of_lt (hcell j hj))
    simp only [World.frozen?,g1,Bool.and_eq_false_imp,qM,decide_eq_false_iff_not]
    intro h5 h6; exact this ⟨h5,h6⟩
   ·rw [zCH]
    obtain ⟨h6,h7,h8⟩:=jR (off:=off+n*i.size) (vs:=wy) g1
    refine ⟨_,e,lo,hi',h6,by rw [zEi]; exact g2,by rw [zEi]; exact g3,?_⟩
    intro k hk
    rw [zGW _ _ _ (by omega)]
    simp only [List.length_append] at hk
    rw [←List.getElem?_eq_getElem]
    by_cases c1:k<n*i.size
    ·rw [if_neg (by omega),g4 k (by omega),List.getElem?_append_left (by omega)]
     simp
    ·rw [if_pos (by omega),List.getElem?_append_right (by omega)]
     congr 1; omega
   ·rw [zCH,(jR g1).2.2]
    rcases Nat.lt_or_ge b w.heap.size with h|h
    ·exact h
    ·rw [Array.getElem?_eq_none h] at g1; cases g1
   ·intro b' hb'; rw [zCH]; exact (jR g1).2.1 b' hb'
   ·rw [zCH]; exact (jR g1).2.2
  ·have hge:=grownCap_ge w (n+m) c el
   have hold:(Builtin.firstCells i.size n (.slice (some ⟨b,off,none⟩) n c)).run P w.drew= .ok wx.toArray w.drew:=by
    simp only [Builtin.firstCells]
    exact run_loadCells (hO.has.frame rfl) hxl
   refine ⟨_,_,run_append_grow_src w T U ty el i zv hT hi hz0 (some ⟨b,off,none⟩) n c wx hold u m wy hs (by omega) (by omega) (growslice_fits (by omega) hbig),⟨rfl,rfl⟩,.inr ⟨w.heap.size,0,_,rfl,hge,?_,?_,.inr ⟨rfl,?_,?_⟩⟩⟩
   ·refine zL8 (w:=w) rfl ?_ ⟨_,by simp; rfl⟩
    simp only [Array.size_append,List.size_toArray,List.length_append,hyl,hxl,Builtin.zeroCells,Array.size_map,Array.size_range,hzs,←Nat.add_mul]
    exact Nat.mul_le_mul_right _ (by omega)
   ·show w.heap.size< (w.heap.push _).size; simp
   ·show w.heap.size≤(w.heap.push _).size; simp
   ·intro b' hb'; exact zGB (w:=w) rfl hb'
end Go.Im
namespace Go.Im
open Go
variable {Γ:Ctx} {ops:Array Oper} {o:Oper}
theorem zFW {β:Nat→Loc} {bs b1 b2 bx bk blk:List Nat} {σ:St} {a:Act} {w w1:World} {dst:Option Nat} {c:Cert} {t z n m:Nat} {xs ys:List (List D)} {wx wy:List Value} {r:Value}
  (h0:∀t,t∈zLU σ.tm∨t∈zIp σ.hp→t∈σ.us) (h:RelB Γ β bs σ a w) (hd:∀t,dst=some t→t<Γ.nt) (hw:c.hw=[(t,.row z (xs++ys))]) (ht:t∉σ.us) (hm:Γ.m≤t)
  (hp:bs.Perm ((blk++(b1++b2)++bx)++bk)) (hk:vS β (NS Γ w bs) w (σ.hp.filter (fun x=> !c.hx.contains x.1)) bk) (hx:zZ β (NS Γ w bs) w xs wx b1) (hy:zZ β (NS Γ w bs) w ys wy b2)
  (hzx:∀x∈xs,x.length=z) (hzy:∀x∈ys,x.length=z) (hlx:xs.length=n) (hly:ys.length=m) (ha:zSV w w1 z n m wx wy blk r) (ho:c.out=some (.rf t 0 (n+m) none)):Rel Γ (σ.upd dst c) (a.put dst r) w1:=by
 have hlt:∀b∈bs,b<w.heap.size:=fun b hb=>(h.own b hb).1
 have hnd:=hp.nodup_iff.1 h.nodup
 have hndr:=(List.nodup_append.1 (List.nodup_append.1 hnd).1).1
 have hzz:∀x∈xs++ys,x.length=z:=fun x hx'=>by
  rcases List.mem_append.1 hx' with h'|h'
  ·exact hzx x h'
  ·exact hzy x h'
 have hin:∀b,b∈b1++b2→b∈bs:=fun b hb=>hp.mem_iff.2 (by simp only [qJ] at hb ⊢; rcases hb with h'|h'<;>simp [h'])
 have hblk:∀b,b∈blk→b∈bs:=fun b hb=>hp.mem_iff.2 (by simp [hb])
 have hbkin:∀b,b∈bk→b∈bs:=fun b hb=>hp.mem_iff.2 (by simp [hb])
 have hsep:∀b∈b1++b2,b∉blk:=fun b hb hb'=>(List.nodup_append.1 hndr).2.2 b hb' b hb rfl
 obtain ⟨hq,ha⟩:=ha
 rcases ha with ⟨hnm,rfl,rfl,rfl⟩|⟨b,off,cp,rfl,hcap,hO,hbs,hcase⟩
 ·have hxs:xs=[]:=List.length_eq_zero_iff.1 (by omega)
  have hys:ys=[]:=List.length_eq_zero_iff.1 (by omega)
  subst hxs; subst hys
  simp only [zZ] at hx hy
  obtain ⟨_,rfl⟩:=hx
  obtain ⟨_,rfl⟩:=hy
  refine Rel.step (β1:=zG0 β t ⟨true,0,0,z,0⟩) (bk:=bk) (br:=bx) (bn:=[]) h0 h hd (by simp [hw]) (by simpa [hw] using .inr ht) (by simpa using hp) hk (Nat.le_refl _) (fun _ _ _=>rfl) ?_ ?_ (by simp) (by simp) ?_ ?_ ⟨rfl,rfl⟩
  ·intro k hk'; exact zAc (fun e=>ht (e▸hk'))
  ·intro k hk'; exact zAc (by omega)
  ·rw [hw]
   refine ⟨[],[],by simp [xI,Loc.own],?_,rfl⟩
   rw [xI]
   exact ⟨rfl,by simp,.inl ⟨rfl,rfl,rfl⟩⟩
  ·intro d hd'
   rw [ho] at hd'
   cases hd'
   simp only [Rep,xI]
   exact ⟨trivial,trivial,.inl ⟨trivial,trivial,hnm,trivial⟩⟩
 ·have hcommon:(∀b',b'<w.heap.size→b'∉blk→w1.heap[b']? =w.heap[b']?)∧w.heap.size≤w1.heap.size∧(b∈blk∨w.heap.size≤b)∧b∉b1++b2:=by
   rcases hcase with ⟨rfl,q1,q2⟩|⟨rfl,q1,q2⟩
   ·exact ⟨fun b' _ hb=>q1 b' (by simpa using hb),by omega,.inl (by simp),fun hb=>hsep b hb (by simp)⟩
   ·exact ⟨fun b' hb _=>q2 b' hb,q1,.inr (Nat.le_refl _),fun hb=>by have:=hlt _ (hin _ hb); omega⟩
  obtain ⟨hs1,hs2,hs3,hs4⟩:=hcommon
  have hN:∀b',NS Γ w bs b'→NS Γ w1 (b::(b1++b2)++bk) b'∧w1.heap[b']? =w.heap[b']? :=by
   rintro b' ⟨q1,q2,q3⟩
   refine ⟨⟨q1,by omega,?_⟩,hs1 b' q2 (fun hb=>q3 (hblk b' hb))⟩
   intro hb
   simp only [List.cons_append,qK,qJ] at hb
   rcases hb with rfl|(hb|hb)|hb
   ·rcases hs3 with h'|h'
    ·exact q3 (hblk _ h')
    ·omega
   ·exact q3 (hin b' (by simp [hb]))
   ·exact q3 (hin b' (by simp [hb]))
   ·exact q3 (hbkin b' hb)
  refine Rel.step (β1:=zG0 β t ⟨false,b,off,z,cp*z⟩) (bk:=bk) (br:=blk++(b1++b2)++bx) (bn:=b::(b1++b2)) h0 h hd (by simp [hw]) (by simpa [hw] using .inr ht) hp hk hs2 ?_ ?_ ?_ ?_ ?_ ?_ ?_ hq
  ·intro b' hb hb'; exact hs1 b' hb (fun h'=>hb' (by simp [h']))
  ·intro k hk'; exact zAc (fun e=>ht (e▸hk'))
  ·intro k hk'; exact zAc (by omega)
  ·exact List.nodup_cons.2 ⟨hs4,(List.nodup_append.1 hndr).2.1⟩
  ·intro b' hb
   rcases List.mem_cons.1 hb with rfl|hb
   ·refine ⟨?_,hbs⟩
    rcases hs3 with h'|h'
    ·exact .inl (by simp [h'])
    ·exact .inr h'
   ·refine ⟨.inl ?_,by have:=hlt b' (hin b' hb); omega⟩
    simp only [qJ] at hb ⊢
    rcases hb with h'|h'<;>simp [h']
  ·rw [hw]
   refine ⟨b1++b2,[],by simp [xI,Loc.own],?_,rfl⟩
   rw [xI]
   refine ⟨rfl,hzz,.inr ⟨rfl,wx++wy,hO,?_⟩⟩
   have q1:=zZ.frame (β':=zG0 β t ⟨false,b,off,z,cp*z⟩) hN xs wx b1 (fun b' hb=>hs1 b' (hlt b' (hin b' (by simp [hb]))) (hsep b' (by simp [hb]))) hx
   have q2:=zZ.frame (β':=zG0 β t ⟨false,b,off,z,cp*z⟩) hN ys wy b2 (fun b' hb=>hs1 b' (hlt b' (hin b' (by simp [hb]))) (hsep b' (by simp [hb]))) hy
   exact q1.append q2
  ·intro d hd'
   rw [ho] at hd'
   cases hd'
   simp only [Rep,xI]
   exact ⟨trivial,trivial,.inr ⟨trivial,cp,by simp,hcap,by simp,by simp⟩⟩
theorem zKl {β:Nat→Loc} {N:Nat→Prop} {w:World} {t n z:Nat} {cap:Option Nat} {v:Value} {xs:List (List D)} {b1:List Nat} (hr:Rep β N w true (.rf t 0 n cap) v []) (he:zBR β N w (β t) b1 (.row z xs))
  (hl:xs.length=n):∃wx,Dst w z n v wx (β t).own ∧zZ β N w xs wx b1∧(∀x∈xs,x.length=z):=by
 obtain ⟨hLz,hzz,hrow⟩:=he
 simp only [Rep] at hr
 obtain ⟨_,_,⟨hnil,_,hn0,rfl⟩|⟨hnil,cp,rfl,hcap,hroom,_⟩⟩:=hr
 ·rcases hrow with ⟨_,rfl,rfl⟩|⟨hnil',_⟩
  ·exact ⟨[],.inl ⟨rfl,hn0,rfl,by simp [Loc.own,hnil]⟩,by simp [zZ],hzz⟩
  ·rw [hnil] at hnil'; cases hnil'
 ·rcases hrow with ⟨hnil',_⟩|⟨_,wx,hO,hE⟩
  ·rw [hnil] at hnil'; cases hnil'
  ·refine ⟨wx,.inr ⟨(β t).b,(β t).o,cp,by simp,by simp [Loc.own,hnil],hcap,?_,?_⟩,hE,hzz⟩
   ·rw [←hLz]; exact hO.mono (by simpa using hroom)
   ·rw [hE.length hzz,hl]
theorem zGh {P:Program} {w:World} {z m:Nat} {U e':TypeId} {v:Value} {wy:List Value} (hU:P.underlying U=some (.slice e')) (hone:∀x∈wy,Value.oneCell x=true)
  (h:(v= .slice none 0 0∧m=0∧wy=[])∨∃b off c,v= .slice (some ⟨b,off,none⟩) m c∧Has w b off wy∧wy.length=m*z):Go.Src P z U v m wy w:=by
 rcases h with ⟨rfl,rfl,rfl⟩|⟨b,off,c,rfl,hH,hl⟩
 ·exact Src.ofNil w hU 0
 ·refine Src.ofSlice w hU _ m c wy hl ?_ (fun u hu=>by rw [zNx]; exact hone u hu)
  intro j u hj
  rw [zE3]
  obtain ⟨hlt,rfl⟩:=List.getElem?_eq_some_iff.1 hj
  exact hH.cell j hlt
theorem zFG {β:Nat→Loc} {N:Nat→Prop} {w:World}:∀{xs:List (List D)} {ws:List Value} {bs:List Nat},(∀e∈xs,e.all zE1=true)→zZ β N w xs ws bs→∀x∈ws,Value.oneCell x=true
 |[],ws,bs,_,h=>by simp only [zZ] at h; rw [h.1]; simp
 |e::es,ws,bs,ho,h=>by
  simp only [zZ] at h
  obtain ⟨w1,w2,b1,b2,rfl,_,h3,h4⟩:=h
  intro x hx
  rcases List.mem_append.1 hx with hx|hx
  ·exact zHR (ho e (by simp)) h3 x hx
  ·exact zFG (fun e he=>ho e (by simp [he])) h4 x hx
theorem zKy (l:List (Nat×Ent)) (t ts:Nat):(l.filter (fun x=>x.1 !=t)).filter (fun x=>x.1 !=ts)=l.filter (fun x=> !([t,ts]:List Nat).contains x.1):=by
 rw [List.filter_filter]
 congr 1; funext x
 by_cases h:x.1=t<;>by_cases h2:x.1=ts<;>simp [h,h2]
theorem zP6 {c:Cert} {x y:Operand} {T U el e':TypeId} {t td ts n m z bytes:Nat} {cd cs:Option Nat} {zv:Value} {xs ys:List (List D)} (hg:o.guard=none)
  (hop:o.op= .call {callee:=.builtin .append,args:= #[x,y],argTypes:= #[T,U]}) (hc:c= {tn:=c.tn,hn:=c.hn,out:=some (.rf t 0 (n+m) none),hx:=[td,ts],hw:=[(t,.row z (xs++ys))],fr:=[t]})
  (hm:Γ.m≤t) (hx:OpF c x (.rf td 0 n cd)) (hy:OpF c y (.rf ts 0 m cs)) (hne:td≠ts) (hxr:(td,.row z xs)∈c.hn) (hyr:(ts,.row z ys)∈c.hn) (hlx:xs.length=n) (hly:ys.length=m)
  (hT:Γ.P.underlying T=some (.slice el)) (hU:Γ.P.underlying U=some (.slice e')) (hinfo:(Γ.P.info? el).map (fun i=>(i.zero,i.size,i.bytes))=some (some zv,z,bytes)) (hzs:zv.cells.size=z)
  (hone:∀e∈ys,e.all zE1=true) (hbig:(n+m)*bytes≤140737488355328) (h62:n+m≤4611686018427387904):Valid Γ ops o c:=by
 intro σ a w Q hdst hn ⟨h0,β,bs,hr⟩
 have hwt:Region.wanted o (yielded ops a.tmps)=true:=by simp [Region.wanted,hg]
 rw [if_pos hwt]
 have hfr:t∉σ.us:=hn.2.2 t (by rw [hc]; simp)
 obtain ⟨b1,b2',p1,hE1,hrest⟩:=vS.take hr.hp hr.keys (hn.2.1 _ hxr)
 obtain ⟨b2,bk,p2,hE2,hrest2⟩:=vS.take hrest (List.Nodup.sublist (List.Sublist.map _ List.filter_sublist) hr.keys) (List.mem_filter.2 ⟨hn.2.1 _ hyr,by simpa using fun e=>hne e.symm⟩)
 obtain ⟨wx,hD,hEx,hzx⟩:=zKl (OpF.rep hx hn hr) hE1 hlx
 obtain ⟨wy,hS,hEy,hzy⟩:=zKl (OpF.rep hy hn hr) hE2 hly
 have hsrc:Go.Src Γ.P z U (a.eval y) m wy w:=zGh hU (zFG hone hEy) (by
  rcases hS with ⟨q1,q2,q3,_⟩|⟨b,off,cp,q1,_,_,q2,q3⟩
  ·exact .inl ⟨q1,q2,q3⟩
  ·exact .inr ⟨b,off,cp,q1,q2.has,q3⟩)
 obtain ⟨r,w1,hrun,hA⟩:=zGA (ty:=o.type) hT hinfo hzs hD hsrc hbig h62
 have hex:(execOp a.eval o).run Γ.P w= .ok (.value r) w1:=by
  rw [zEP hop]
  simp only [builtin,List.map_toArray,List.map_cons,List.map_nil]
  exact run_bind_ok hrun
 unfold Oper.wp
 rw [hex,Oper.upon_value]
 refine zFW (b1:=b1) (b2:=b2) (bx:=(β ts).own) (bk:=bk) (blk:=(β td).own) h0 hr hdst (by rw [hc]) hfr hm ?_ ?_ hEx hEy hzx hzy hlx hly hA (by rw [hc])
 ·refine p1.trans ?_
  refine (List.Perm.append_left _ (List.Perm.append_left _ p2)).trans ?_
  simp only [List.append_assoc]
  refine List.Perm.append_left _ (List.Perm.append_left _ ?_)
  rw [←List.append_assoc,←List.append_assoc]
  exact List.Perm.append_right _ List.perm_append_comm
 ·rw [hc]
  rw [zKy] at hrest2
  exact hrest2
end Go.Im
namespace Go.Im
open Go
variable {Γ:Ctx} {ops:Array Oper} {o:Oper}
theorem vS.takes {β:Nat→Loc} {N:Nat→Prop} {w:World}:∀{hs hp:List (Nat×Ent)} {bs:List Nat},vS β N w hp bs→(hp.map (·.1)).Nodup →(hs.map (·.1)).Nodup →(∀x∈hs,x∈hp)→
  ∃b1 bk,bs.Perm (b1++bk)∧vS β N w hs b1∧vS β N w (hp.filter (fun x=> !(hs.map (·.1)).contains x.1)) bk
 |[],hp,bs,h,_,_,_=>⟨[],bs,.refl _,rfl,by rw [List.map_nil,zGC]; exact h⟩
 |(t,e)::hs,hp,bs,h,hk,hks,hm=>by
  simp only [List.map_cons,List.nodup_cons] at hks
  obtain ⟨b1,b2,p,hE,hrest⟩:=vS.take h hk (hm (t,e) (by simp))
  obtain ⟨c1,ck,q1,q2,q3⟩:=vS.takes hrest (List.Nodup.sublist (List.Sublist.map _ List.filter_sublist) hk) hks.2 (fun x hx=>by
   refine List.mem_filter.2 ⟨hm x (by simp [hx]),?_⟩
   simp only [bne_iff_ne,ne_eq]
   intro e'
   exact hks.1 (List.mem_map.2 ⟨x,hx,e'⟩))
  rw [zIM] at q3
  refine ⟨(β t).own ++(b1++c1),ck,?_,⟨b1,c1,rfl,hE,q2⟩,q3⟩
  refine p.trans ?_
  rw [List.append_assoc,List.append_assoc]
  exact List.Perm.append_left _ (List.Perm.append_left _ q1)
theorem NS.sub {w:World} {bs bs':List Nat} (h:∀b∈bs',b∈bs) {b:Nat} (hb:NS Γ w bs b):NS Γ w bs' b:=⟨hb.1,hb.2.1,fun h'=>hb.2.2 (h b h')⟩
theorem Rel.weak {σ σ':St} {a:Act} {w:World} (h:Rel Γ σ a w) (ht:∀x∈σ'.tm,x∈σ.tm) (hh:∀x∈σ'.hp,x∈σ.hp) (hk:(σ'.hp.map (·.1)).Nodup) (hu:∀t,t∈zLU σ'.tm∨t∈zIp σ'.hp→t∈σ'.us):Rel Γ σ' a w:=by
 obtain ⟨h0,β,bs,h⟩:=h
 obtain ⟨b1,bk,p,q,_⟩:=vS.takes h.hp h.keys hk hh
 have hsub:∀b∈b1,b∈bs:=fun b hb=>p.mem_iff.2 (by simp [hb])
 refine ⟨hu,β,b1,{defers:=h.defers,size:=h.size,keys:=hk,par:=h.par,grow:=h.grow,gh:=h.gh,quiet:=h.quiet,keep:=h.keep,hp:=?_,nodup:=(List.nodup_append.1 (p.nodup_iff.1 h.nodup)).1,own:=fun b hb=>h.own b (hsub b hb),tm:=?_}⟩
 ·exact vS.frame (fun b hb=>⟨NS.sub hsub hb,rfl⟩) _ _ (fun _ _=>rfl) (fun _ _=>rfl) q
 ·intro t d hd
  obtain ⟨v,h1,h2⟩:=h.tm t d (ht _ hd)
  exact ⟨v,h1,Rep.frame (fun b hb=>⟨NS.sub hsub hb,rfl⟩) d true v [] (by simp) (fun _ _=>rfl) h2⟩
def zFC (hs:List Ent):List (Nat×Ent):=hs.zipIdx.map (fun x=>(x.2,x.1))
def Post (Γ:Ctx) (res:D) (hout:List Ent) (e:Ending) (w':World):Prop:=
 ∃v b1 b2,e= .returned v∧(w'.os=Γ.w0.os∧w'.output=Γ.w0.output)∧Γ.w0.heap.size≤w'.heap.size∧(∀b,b<Γ.w0.heap.size→b∉Γ.O0→w'.heap[b]? =Γ.w0.heap[b]?)∧(b1++b2).Nodup ∧
  (∀b∈b1++b2,b<w'.heap.size∧(b∈Γ.O0∨Γ.w0.heap.size≤b))∧Rep Γ.β0 (NS Γ w' (b1++b2)) w' true res v b1∧vS Γ.β0 (NS Γ w' (b1++b2)) w' (zFC hout) b2
def Ok (P:Program) (f:FuncId) (args:List D) (hin:List Ent) (R:Option (D×List Ent)):Prop:=
 ∀out,R=some out→∀(w:World) (N:Nat→Prop) (β:Nat→Loc) (vs:List Value) (bs:List Nat),zK β N w true args vs []→vS β N w (zFC hin) bs→bs.Nodup→(∀b∈bs,b<w.heap.size)→
  (∀b,N b→b<w.heap.size∧b∉bs)→(∀q∈zNs P,N q.1∧Tab w q.1 q.2)→Calls P f vs.toArray w (Post ⟨P,f,w,N,bs,hin.length,β,0⟩ out.1 out.2)
def D.ro:D→D
 | .s o z n xs=>.s false z n (roE xs)
 |d=>d
 where
 roC:List D→List D
  |[]=>[]
  |d::ds=>d.ro::roC ds
 roE:List (List D)→List (List D)
  |[]=>[]
  |e::es=>roC e::roE es
theorem zDp:∀(cs:List D),(D.ro.roC cs).length =cs.length
 |[]=>rfl
 |d::ds=>by simp [D.ro.roC,zDp ds]
theorem zFA:∀(cs:List (List D)),(D.ro.roE cs).length =cs.length
 |[]=>rfl
 |d::ds=>by simp [D.ro.roE,zFA ds]
theorem zFV:∀{cs:List (List D)} {e:List D},e∈D.ro.roE cs→∃e'∈cs,e=D.ro.roC e'
 |d::ds,e,h=>by
  simp only [D.ro.roE,qK] at h
  rcases h with rfl|h
  ·exact ⟨d,by simp,rfl⟩
  ·obtain ⟨e',h1,h2⟩:=zFV h
   exact ⟨e',by simp [h1],h2⟩
section ro
variable {β β':Nat→Loc} {N N':Nat→Prop} {w:World}
mutual
theorem Rep.ro (hN:∀b,N b→N' b):∀(d:D) (v:Value) (bs:List Nat),(∀b∈bs,N' b)→Rep β N w false d v bs→Rep β' N' w false d.ro v []
 | .sc u,v,bs,_,h=>by simp only [Rep,D.ro] at h ⊢; exact ⟨h.1,trivial⟩
 | .s o z n xs,v,bs,hb,h=>by
  simp only [Rep] at h
  obtain ⟨h1,h2,a,cap,h3,h4,h5⟩:=h
  simp only [D.ro,Rep]
  refine ⟨by rw [zFA,h1],fun e he=>?_,a,cap,h3,h4,?_⟩
  ·obtain ⟨e',he',rfl⟩:=zFV he
   rw [zDp]; exact h2 e' he'
  ·rcases h5 with h5|⟨h5,b,off,ws,h6,h7,h8,h9,h10⟩|⟨h5,b,off,ws,bs',h6,h7,h8,h9⟩
   ·exact .inl ⟨h5.1,trivial,by simp⟩
   ·exact .inr (.inl ⟨trivial,b,off,ws,h6,hN b h7,h8,zZ.ro hN xs ws bs hb h9,trivial⟩)
   ·subst h7
    exact .inr (.inl ⟨trivial,b,off,ws,h6,hb b (by simp),h8.has,zZ.ro hN xs ws bs' (fun c hc=>hb c (by simp [hc])) h9,trivial⟩)
 | .rf _ _ _ _,v,bs,_,h=>by simp only [Rep] at h; exact absurd h.1 (by simp)
 | .pt _ _ _,v,bs,_,h=>by simp only [Rep] at h; exact absurd h.1 (by simp)
 | .ps cs,v,bs,_,h=>by
  simp only [Rep,D.ro] at h ⊢
  obtain ⟨h1,b,off,ws,h2,h3,h4,h5⟩:=h
  exact ⟨trivial,b,off,ws,h2,hN b h3,h4,zK.zHl (fun b hb=>⟨hN b hb,rfl⟩) cs ws [] (by simp) h5⟩
 | .fn _ _,v,bs,_,h=>by simp only [Rep] at h; exact absurd h.1 (by simp)
 | .ag _,v,bs,_,h=>by simp only [Rep] at h; exact absurd h.1 (by simp)
 | .tu _,v,bs,_,h=>by simp only [Rep] at h; exact absurd h.1 (by simp)
 | .un,v,bs,_,h=>by simp only [Rep,D.ro] at h ⊢; exact ⟨h.1,trivial⟩
 | .nb _,v,bs,_,h=>by simp only [Rep,D.ro] at h ⊢; exact ⟨trivial,h.2⟩
 | .sub _ _ _,v,bs,_,h=>by simp only [Rep] at h; exact absurd h.1 (by simp)
 | .fb _ _,v,bs,_,h=>by simp only [Rep] at h; exact absurd h.1 (by simp)
 | .ln _,v,bs,_,h=>by simp only [Rep,D.ro] at h ⊢; exact ⟨trivial,h.2⟩
 | .po _,v,bs,_,h=>by simp only [Rep] at h; exact absurd h.1 (by simp)
 | .pb _,v,bs,_,h=>by simp only [Rep] at h; exact absurd h.1 (by simp)
theorem zK.ro (hN:∀b,N b→N' b):∀(ds:List D) (ws:List Value) (bs:List Nat),(∀b∈bs,N' b)→zK β N w false ds ws bs→zK β' N' w false (D.ro.roC ds) ws []
 |[],ws,bs,_,h=>by simp only [zK,D.ro.roC] at h ⊢; exact ⟨h.1,trivial⟩
 |d::ds,ws,bs,hb,h=>by
  simp only [zK] at h
  obtain ⟨v,vs,b1,b2,rfl,rfl,h3,h4⟩:=h
  simp only [D.ro.roC,zK]
  exact ⟨v,vs,[],[],rfl,rfl,Rep.ro hN d v b1 (fun b hb'=>hb b (by simp [hb'])) h3,zK.ro hN ds vs b2 (fun b hb'=>hb b (by simp [hb'])) h4⟩
theorem zZ.ro (hN:∀b,N b→N' b):∀(es:List (List D)) (ws:List Value) (bs:List Nat),(∀b∈bs,N' b)→zZ β N w es ws bs→zZ β' N' w (D.ro.roE es) ws []
 |[],ws,bs,_,h=>by simp only [zZ,D.ro.roE] at h ⊢; exact ⟨h.1,trivial⟩
 |e::es,ws,bs,hb,h=>by
  simp only [zZ] at h
  obtain ⟨w1,w2,b1,b2,rfl,rfl,h3,h4⟩:=h
  simp only [D.ro.roE,zZ]
  exact ⟨w1,w2,[],[],rfl,rfl,zK.ro hN e w1 b1 (fun b hb'=>hb b (by simp [hb'])) h3,zZ.ro hN es w2 b2 (fun b hb'=>hb b (by simp [hb'])) h4⟩
end
end ro
end Go.Im

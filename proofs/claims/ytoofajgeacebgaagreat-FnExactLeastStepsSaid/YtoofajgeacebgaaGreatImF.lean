import Derived.Test.YtoofajgeacebgaaGreatImE
import Derived.Laws.StructEq
import Derived.Sort.Row
import Derived.Sort.Grow
import Derived.Lib.LaidTab
import Derived.Lib.ItoaNum
import Derived.Deep.Draws
import Derived.LaidSub
import Derived.Below
import Derived.Lib.Split
import Derived.Lib.Join
import Derived.Lib.Repeat
import Derived.Handed
import Derived.Shelf.Vars
import Derived.Lib.SplitLaws
import Derived.Lib.ConvBytes
import Derived.Sort.EncStr
import Derived.Laws.IdiomCopy
set_option linter.unusedVariables false
namespace Go.Im
open Go
section
variable {Γ:Ctx} {ops:Array Oper} {o:Oper}
theorem zJV {c:Cert} {x:Operand} {T el:TypeId} {lo hi:Option Operand} {z n l h t:Nat} {xs:List (List D)} (hg:o.guard=none) (hop:o.op= .slice T x lo hi none)
  (hc:c= {tn:=c.tn,hn:=c.hn,out:=some (.sub t l (h-l))}) (hx:OpF c x (.rf t 0 n none)) (hT:yO Γ.P (underlying T)=some (.slice el)) (hz:zF0 Γ.P el=some z)
  (hl:zJS c lo 0 l) (hh:zJS c hi n h) (h1:l≤h) (h2:h≤n) (hh':(t,.row z xs)∈c.hn):Valid Γ ops o c:=by
 refine jE (d:=.sub t l (h-l)) (f:=fun ρ=>Instr.sliceAt T (ρ x) (lo.map ρ) (hi.map ρ) none) hg (fun ρ=>by simp [execOp,hop]) (by rw [hc]) fun β bs σ a w hn hr=>?_
 have h3:=OpF.rep hx hn hr
 obtain ⟨_,⟨hLz,_⟩,_⟩:=uK.get hr.hp (hn.2.1 _ hh')
 simp only [Rep] at h3
 obtain ⟨_,_,⟨_,_,rfl,hv⟩|⟨hnil,cp,hv,hcap,hroom,_⟩⟩:=h3
 ·rw [hv]
  refine ⟨_,zEe hn hr hT hz hl hh h1 (by omega),?_⟩
  simp only [Rep]
  exact ⟨trivial,trivial,_,_,rfl,by omega,.inl (by omega)⟩
 ·rw [hv]
  refine ⟨_,zEe hn hr hT hz hl hh h1 (by omega),?_⟩
  simp only [Rep]
  refine ⟨trivial,trivial,_,_,rfl,by omega,?_⟩
  by_cases h0:h-l=0
  ·exact .inl h0
  ·refine .inr ⟨hnil,?_,?_⟩
   ·rw [if_neg (by omega)]
    simp [zDr,hLz]
   ·refine Nat.le_trans (Nat.mul_le_mul_right _ ?_) hroom
    omega
theorem zLC {c:Cert} {x:Operand} {T el:TypeId} {n t off:Nat} (hg:o.guard=none)
  (hop:o.op= .call {callee:=.builtin .len,args:= #[x],argTypes:= #[T]}) (hc:c= {tn:=c.tn,out:=some (.sc (.int .i64 n))})
  (hx:OpF c x (.sub t off n)) (hT:yO Γ.P (underlying T)=some (.slice el)):Valid Γ ops o c:=by
 rw [hc]
 refine tF hg rfl rfl fun β bs σ a w hn hr=>?_
 have h1:=OpF.rep (c:=c) hx ⟨hn.1,by rw [hc]; simp,by rw [hc]; simp⟩ hr
 simp only [Rep] at h1
 obtain ⟨_,_,ad,cp,hv,_⟩:=h1
 refine ⟨.int .i64 n,?_,fun d hd=>by cases hd; simp [Rep]⟩
 rw [zBH hop]
 simp only [builtin,List.map_toArray,List.map_cons,List.map_nil]
 rw [hv]
 refine run_bind_ok (a:=Value.int .i64 n) (w':=w) ?_
 unfold Builtin.len_
 simp only [List.getElem?_toArray,List.getElem?_cons_zero]
 rw [run_bind_ok (zL _ _ w hT)]
 rfl
theorem zJJ {c:Cert} {x y:Operand} {T el:TypeId} {k:IntKind} {z n t off j:Nat} {i:Int} {xs:List (List D)} (hg:o.guard=none) (hop:o.op= .indexAddr T x y)
  (hc:c= {tn:=c.tn,hn:=c.hn,out:=some (.pt t j 0)}) (hx:OpF c x (.sub t off n)) (hy:OpF c y (.sc (.int k i))) (hT:yO Γ.P (underlying T)=some (.slice el)) (hz:zF0 Γ.P el=some z)
  (hi:0≤i) (hj:i<n) (hjj:off+i.toNat=j) (hh:(t,.row z xs)∈c.hn):Valid Γ ops o c:=by
 refine jE (d:=.pt t j 0) (f:=fun ρ=>Instr.indexAt T (ρ x) (ρ y)) hg (fun ρ=>by simp [execOp,hop]) (by rw [hc]) fun β bs σ a w hn hr=>?_
 have h1:=OpF.rep hx hn hr
 have h2:=OpF.rep hy hn hr
 obtain ⟨_,⟨hLz,_⟩,_⟩:=uK.get hr.hp (hn.2.1 _ hh)
 simp only [Rep] at h1 h2
 obtain ⟨_,_,ad,cp,hv,hcap,h3|⟨hnil,had,hroom⟩⟩:=h1
 ·omega
 ·refine ⟨.pointer (some ⟨(β t).b,(β t).o +j*(β t).z +0,none⟩),?_,by simp only [Rep]; exact ⟨trivial,trivial,hnil,trivial⟩⟩
  rw [h2.1,hv,had]
  unfold Instr.indexAt
  rw [run_bind_ok (a:=(k,i)) (w':=w) rfl]
  simp only
  rw [run_bind_ok (zL _ _ w hT)]
  simp only
  rw [run_bind_ok (a:=(some (⟨(β t).b,(β t).o +off*(β t).z,none⟩:Addr),n,el)) (w':=w) rfl]
  rw [run_bind_ok (zL _ _ w hT)]
  simp only
  rw [if_pos ⟨hi,hj⟩]
  rw [run_bind_ok (zL _ _ w hz)]
  rw [zDr,hLz,←hjj,Nat.add_mul,Nat.add_assoc]
  rfl
theorem Rel.over {β:Nat→Loc} {bs:List Nat} {σ:St} {a:Act} {w:World} {c:Cert} {t z l:Nat} {xs ys:List (List D)} {vs:List Value} {v:Value} (h0:∀t,t∈zHf σ.tm∨t∈zFB σ.hp→t∈σ.us) (hr:RelB Γ β bs σ a w)
  {dst:Option Nat} (hd:∀t,dst=some t→t<Γ.nt) (hhx:c.hx=[t]) (hhw:c.hw=[(t,.row z (xs.take l++ys++xs.drop (l+ys.length)))]) (hm:(t,.row z xs)∈σ.hp) (hnil:(β t).nil =false)
  (hl:l+ys.length≤xs.length) (hyz:∀y∈ys,y.length=z) (hE2:∀N w',zU β N w' ys vs []) (ho:∀d,c.out=some d→∀N w',Rep β N w' true d v []):
  Rel Γ (σ.upd dst c) (a.put dst v) (putCells w (β t).b ((β t).o +l*z) vs):=by
 obtain ⟨b1,b2,hp,⟨hLz,hzz,hrow⟩,hrest⟩:=uK.take hr.hp hr.keys hm
 rcases hrow with ⟨hnil',_⟩|⟨_,ws,hO,hE⟩
 ·rw [hnil] at hnil'; cases hnil'
 have hown:(β t).own =[(β t).b]:=by simp [Loc.own,hnil]
 rw [hown] at hp
 have hws:=hE.length hzz
 have hvl:=(hE2 (fun _=>True) w).length hyz
 have hfilt:σ.hp.filter (fun x=> !c.hx.contains x.1)=σ.hp.filter (fun x=>x.1 !=t):=by
  rw [hhx]; congr 1; funext x; by_cases hx:x.1=t<;>simp [hx]
 obtain ⟨d1,d2,e1,hs1,hs2⟩:=hE.cut l hzz
 obtain ⟨d3,d4,e2,hs3,hs4⟩:=hs2.cut ys.length (fun y hy=>hzz y (List.mem_of_mem_drop hy))
 have hheap:(∀b',b'≠(β t).b →(putCells w (β t).b ((β t).o +l*z) vs).heap[b']? =w.heap[b']?)∧(putCells w (β t).b ((β t).o +l*z) vs).heap.size =w.heap.size:=by
  obtain ⟨arr,e,lo,hi,g1,g2,g3,g4⟩:=hO
  exact (jL g1).2
 have hp2:bs.Perm (((β t).b ::b1)++b2):=by simpa using hp
 have hnd:=hp2.nodup_iff.1 hr.nodup
 have hsub:∀b∈d1++d4,b∈b1:=fun b hb=>by
  rw [e1,e2]
  rcases List.mem_append.1 hb with h|h<;>simp [h]
 have hndn:((β t).b ::(d1++d4)).Nodup :=by
  have q:=(List.nodup_append.1 hnd).1
  rw [e1,e2] at q
  refine List.Nodup.sublist ?_ q
  refine List.Sublist.cons_cons _ ?_
  exact List.Sublist.append_left (List.sublist_append_right _ _) _
 have hbin:∀b∈d1++d4,b≠(β t).b :=fun b hb e=>(List.nodup_cons.1 hndn).1 (e▸hb)
 have hmz:(l+ys.length)*z≤ws.length:=by rw [hws]; exact Nat.mul_le_mul_right _ hl
 have hNS:∀b,NS Γ w bs b→NS Γ (putCells w (β t).b ((β t).o +l*z) vs) ((β t).b ::(d1++d4)++b2) b∧(putCells w (β t).b ((β t).o +l*z) vs).heap[b]? =w.heap[b]? :=by
  rintro b ⟨u1,u2,u3⟩
  have hb1:b≠(β t).b :=fun e=>u3 (hp2.mem_iff.2 (by simp [e]))
  refine ⟨⟨u1,by rw [hheap.2]; exact u2,fun hb=>u3 (hp2.mem_iff.2 ?_)⟩,hheap.1 b hb1⟩
  rcases List.mem_append.1 hb with hb|hb
  ·rcases List.mem_cons.1 hb with hb|hb
   ·exact List.mem_append_left _ (by simp [hb])
   ·exact List.mem_append_left _ (List.mem_cons_of_mem _ (hsub b hb))
  ·exact List.mem_append_right _ hb
 refine Rel.step (β1:=β) (bk:=b2) (br:=(β t).b ::b1) (bn:=(β t).b ::(d1++d4)) h0 hr hd (by rw [hhw]; simp) (by rw [hhw,hhx]; simp) hp2 (by rw [hfilt]; exact hrest) (by rw [hheap.2]; exact Nat.le_refl _)
  (fun b _ hb=>hheap.1 b (fun e=>hb (by simp [e]))) (fun _ _=>rfl) (fun _ _=>rfl) hndn ?_ ?_ (fun d hd=>ho d hd _ _) (zEv _ _ _ _)
 ·intro b hb
  rw [hheap.2]
  have:b∈(β t).b ::b1:=by
   rcases List.mem_cons.1 hb with rfl|hb
   ·simp
   ·exact List.mem_cons_of_mem _ (hsub b hb)
  exact ⟨.inl this,(hr.own b (hp2.mem_iff.2 (List.mem_append_left _ this))).1⟩
 ·rw [hhw]
  refine ⟨d1++d4,[],by rw [hown]; simp,⟨hLz,?_,.inr ⟨hnil,ws.take (l*z)++vs++ws.drop (l*z+vs.length),?_,?_⟩⟩,rfl⟩
  ·intro q hq
   simp only [List.mem_append] at hq
   rcases hq with (hq|hq)|hq
   ·exact hzz q (List.mem_of_mem_take hq)
   ·exact hyz q hq
   ·exact hzz q (List.mem_of_mem_drop hq)
  ·obtain ⟨arr,e',lo,hi,g1,g2,g3,g4⟩:=hO
   have hle:(β t).o +ws.length≤arr.size:=by
    rcases Nat.eq_zero_or_pos ws.length with e0|e0
    ·omega
    ·have:=g4 (ws.length-1) (by omega)
     have:=(Array.getElem?_eq_some_iff.1 this).1
     omega
   obtain ⟨arr',e'',lo',hi',u1,u2,u3,u4⟩:=zJX (r:=ws.length) (vs:=vs) (j:=l*z) ⟨arr,e',lo,hi,g1,g2,hle,g4⟩ (by rw [hvl,←Nat.add_mul]; exact hmz) (Nat.le_refl _)
   refine ⟨arr',e'',lo',hi',u1,u2,?_,u4⟩
   have:=(jL (off:=(β t).o +l*z) (vs:=vs) g1).1
   rw [this] at u1
   cases u1
   rw [zCI]
   exact g3
  ·have m1:=zU.frame (β':=β) hNS _ _ _ (fun b hb=>hheap.1 b (hbin b (by simp [hb]))) hs1
   have m3:=zU.frame (β':=β) hNS _ _ _ (fun b hb=>hheap.1 b (hbin b (by simp [hb]))) hs4
   have key:=(m1.append (hE2 _ _)).append m3
   rw [List.append_nil] at key
   have ex:(xs.drop l).drop ys.length=xs.drop (l+ys.length):=by rw [List.drop_drop]
   have ew:(ws.drop (l*z)).drop (ys.length*z)=ws.drop (l*z+vs.length):=by rw [List.drop_drop,hvl]
   rw [ex,ew] at key
   exact key
theorem Rel.noop {σ:St} {a:Act} {w:World} {c:Cert} {t:Nat} {e:Ent} (h:Rel Γ σ a w) (hm:(t,e)∈σ.hp) (hhx:c.hx=[t]) (hhw:c.hw=[(t,e)]):Rel Γ (σ.upd none c) a w:=by
 have h0:=h.1
 obtain ⟨_,β,bs,hr⟩:=h
 have ho:c.outs none=[]:=rfl
 refine Rel.weak ⟨h0,β,bs,hr⟩ (fun y hy=>?_) (fun y hy=>?_) ?_ ?_
 ·simp only [St.upd,ho,List.nil_append,List.mem_filter] at hy
  exact hy.1
 ·simp only [St.upd,hhw,List.mem_append,List.mem_singleton,List.mem_filter] at hy
  rcases hy with rfl|hy
  ·exact hm
  ·exact hy.1
 ·simp only [St.upd,hhw,hhx,List.map_append,List.map_cons,List.map_nil]
  refine List.nodup_append.2 ⟨by simp,List.Nodup.sublist (List.Sublist.map _ List.filter_sublist) hr.keys,?_⟩
  intro q hq q' hq' e'
  subst e'
  obtain ⟨x,hx,rfl⟩:=List.mem_map.1 hq'
  have:=(List.mem_filter.1 hx).2
  simp at hq this
  exact this hq
 ·intro q hq
  simp only [St.upd,List.mem_append]
  refine .inr (h0 q ?_)
  rcases hq with hq|hq
  ·obtain ⟨x,hx,hx'⟩:=List.mem_flatMap.1 hq
   simp only [St.upd,ho,List.nil_append,List.mem_filter] at hx
   exact .inl (List.mem_flatMap.2 ⟨x,hx.1,hx'⟩)
  ·obtain ⟨x,hx,hx'⟩:=List.mem_flatMap.1 hq
   simp only [St.upd,hhw,List.mem_append,List.mem_singleton,List.mem_filter] at hx
   rcases hx with rfl|hx
   ·exact .inr (List.mem_flatMap.2 ⟨_,hm,hx'⟩)
   ·exact .inr (List.mem_flatMap.2 ⟨x,hx.1,hx'⟩)
theorem zHY (zc:Array Value) (n:Nat):Builtin.zeroCells zc n=madeCells zc (n*zc.size):=rfl
theorem zJP {c:Cert} {x:Operand} {T el:TypeId} {z n l t:Nat} {zv:Value} {e:List D} {xs:List (List D)} (hg:o.guard=none) (hds:o.dst=none) (hop:o.op= .call {callee:=.builtin .clear,args:= #[x],argTypes:= #[T]})
  (hc:c= {tn:=c.tn,hn:=c.hn,hx:=[t],hw:=[(t,.row z (xs.take l++List.replicate n e++xs.drop (l+n)))]}) (hx:OpF c x (.sub t l n)) (hT:Γ.P.underlying T=some (.slice el)) (hzv:yO Γ.P (zeroValue el)=some zv) (hzs:zv.cells.size=z)
  (hone:zv.cells.toList.all Value.oneCell=true) (he:Emb [] (zv.cells.toList.map D.sc) e []) (hel:e.length=z) (hl:l+n≤xs.length) (hh':(t,.row z xs)∈c.hn):Valid Γ ops o c:=by
 intro σ a w Q hdst hn ⟨h0,β,bs,hr⟩
 have hwt:Region.wanted o (yielded ops a.tmps)=true:=by simp [Region.wanted,hg]
 rw [if_pos hwt]
 have h1:=OpF.rep hx hn hr
 simp only [Rep] at h1
 obtain ⟨_,_,ad,cp,hv,hcap,h3⟩:=h1
 have hdst0:∀v,a.put o.dst v=a:=fun v=>by rw [hds]; rfl
 by_cases hn0:n=0
 ·subst hn0
  have hrun:(execOp a.eval o).run Γ.P w= .ok (.value (.tuple #[])) w:=by
   rw [zBH hop]
   simp only [builtin,List.map_toArray,List.map_cons,List.map_nil]
   rw [hv]
   refine run_bind_ok (a:=Value.tuple #[]) (w':=w) ?_
   unfold Builtin.clear_
   simp only [List.getElem?_toArray,List.getElem?_cons_zero]
   rw [run_bind_ok (run_underlying hT w)]
   cases ad<;>rfl
  unfold Oper.wp
  rw [hrun,Oper.upon_value,hdst0,hds]
  exact Rel.noop (t:=t) (e:=.row z xs) ⟨h0,β,bs,hr⟩ (hn.2.1 _ hh') (by rw [hc]) (by rw [hc]; simp)
 ·rcases h3 with h3|⟨hnil,had,hroom⟩
  ·exact absurd h3 hn0
  obtain ⟨b1,b2,hp,⟨hLz,hzz,hrow⟩,hrest⟩:=uK.take hr.hp hr.keys (hn.2.1 _ hh')
  rcases hrow with ⟨hnil',_⟩|⟨_,ws,hO,hE⟩
  ·rw [hnil] at hnil'; cases hnil'
  have hws:=hE.length hzz
  have hcl:(madeCells zv.cells (n*zv.cells.size)).toList.length =n*z:=by rw [Array.length_toList,size_madeCells,hzs]
  have hEn:∀N w',zU β N w' (List.replicate n e) (madeCells zv.cells (n*zv.cells.size)).toList []:=fun N w'=>zGR he n
  have h1c:∀x∈(madeCells zv.cells (n*zv.cells.size)).toList,Value.oneCell x=true:=by
   intro x hx
   simp only [madeCells,Array.toList_map,List.mem_map] at hx
   obtain ⟨i,hi,rfl⟩:=hx
   have hi':i<n*zv.cells.size:=by simpa using hi
   have hpos:0<zv.cells.size:=by
    rcases Nat.eq_zero_or_pos zv.cells.size with h|h
    ·rw [h] at hi'; simp at hi'
    ·exact h
   rw [getElem!_pos zv.cells _ (Nat.mod_lt _ hpos)]
   exact List.all_eq_true.1 hone _ (by simp)
  have hrun:(execOp a.eval o).run Γ.P w= .ok (.value (.tuple #[])) (putCells w (β t).b ((β t).o +l*z) (madeCells zv.cells (n*zv.cells.size)).toList):=by
   rw [zBH hop]
   simp only [builtin,List.map_toArray,List.map_cons,List.map_nil]
   rw [hv,had]
   refine run_bind_ok (a:=Value.tuple #[]) (w':=putCells w (β t).b ((β t).o +l*z) (madeCells zv.cells (n*zv.cells.size)).toList) ?_
   unfold Builtin.clear_
   simp only [List.getElem?_toArray,List.getElem?_cons_zero]
   rw [run_bind_ok (run_underlying hT w)]
   obtain ⟨m,rfl⟩:∃m,n=m+1:=⟨n-1,by omega⟩
   simp only
   obtain ⟨arr,e',lo,hi,g1,g2,g3,g4⟩:=hO
   have hle:(β t).o +ws.length≤arr.size:=by
    rcases Nat.eq_zero_or_pos ws.length with e0|e0
    ·have:(l+(m+1))*z≤ws.length:=by rw [hws]; exact Nat.mul_le_mul_right _ hl
     have g5:(β t).o +(β t).r ≤arr.size:=g3
     omega
    ·have:=g4 (ws.length-1) (by omega)
     have:=(Array.getElem?_eq_some_iff.1 this).1
     omega
   have hmz:(l+(m+1))*z≤ws.length:=by rw [hws]; exact Nat.mul_le_mul_right _ hl
   have hst:=zGi (P:=Γ.P) (off:=(β t).o +l*z) (madeCells zv.cells ((m+1)*zv.cells.size)).toList 0 w arr g1 (fun k hk=>g2 k (Nat.le_of_lt hk)) (by rw [hcl]; rw [Nat.add_mul] at hmz; omega) h1c
   rw [run_bind_ok (zL _ _ w hzv),zHY,hLz]
   refine (run_bind_ok (a:=()) (w':=putCells w (β t).b ((β t).o +l*z) (madeCells zv.cells ((m+1)*zv.cells.size)).toList) ?_).trans rfl
   simpa using hst
  unfold Oper.wp
  rw [hrun,Oper.upon_value]
  refine Rel.over (l:=l) (ys:=List.replicate n e) h0 hr hdst (by rw [hc]) (by rw [hc]; simp) (hn.2.1 _ hh') hnil (by simpa using hl) (fun y hy=>by rw [List.eq_of_mem_replicate hy]; exact hel) hEn (fun d hd=>?_)
  rw [hc] at hd
  cases hd
end
end Go.Im
set_option linter.unusedVariables false
namespace Go.Im
open Go
def ovr {α:Type} (xs:List α) (i:Nat) (ys:List α):List α:=xs.take i++ys++xs.drop (i+ys.length)
theorem zIk {α:Type} {xs r:List α} {l h:Int} (hh:zF8 xs l h=some r):0≤l∧l≤h∧h≤xs.length∧r=(xs.drop l.toNat).take (h.toNat-l.toNat)∧r.length=h.toNat-l.toNat:=by
 unfold zF8 at hh
 split at hh
 ·rename_i q
  cases hh
  exact ⟨q.1,q.2.1,q.2.2,rfl,by simp; omega⟩
 ·cases hh
def zKC {α:Type} (xs:List α) (l:Int) (n:Nat) (i:Int):Option α:=if 0≤l∧0≤i∧i<n then idx xs (l+i) else none
def zL8 {α:Type} (xs:List α) (l:Int) (n:Nat) (a:α):Option (List α):=if 0≤l∧l.toNat+n≤xs.length then some (ovr xs l.toNat (List.replicate n a)) else none
theorem zHn {α:Type} {xs ys:List α} {l:Int} {n:Nat} {a:α} (h:zL8 xs l n a=some ys):xs.length=ys.length:=by
 unfold zL8 at h
 split at h
 ·cases h
  simp [ovr]
  omega
 ·cases h
theorem zHj {α:Type} {xs:List α} {l i:Int} {n:Nat} {a:α} (h:zKC xs l n i=some a):idx xs (l+i)=some a:=by
 unfold zKC at h
 split at h
 ·exact h
 ·cases h
section
variable {Γ:Ctx}
theorem zLw {α:Type} {xs r:List α} {l hi:Int} (T el z t:Nat) (enc:α→List D) (x:Operand) (lo ho:Option Operand) (h:zF8 xs l hi=some r) (hx:OkO x (.rf t 0 xs.length none):=by trivial) (hl:OkB lo (0:Nat) l:=by first|trivial|rfl) (hh:OkB ho xs.length hi:=by first|trivial|rfl)
  (hT:(yO Γ.P (underlying T),zF0 Γ.P el)=(some (.slice el),some z):=by kernel_rfl):
  OpV Γ (.slice T x lo ho none) {tn:=tnO x (.rf t 0 xs.length none)++(tnB lo l++tnB ho hi),hn:=[(t,rE z enc xs)],out:=some (.sub t l.toNat r.length)}:=by
 simp only [Prod.mk.injEq] at hT
 obtain ⟨h1,h2,h3,h4,h5⟩:=zIk h
 intro ops o hop hg
 rw [h5]
 exact zJV (n:=xs.length) (xs:=xs.map enc) (z:=z) hg hop rfl (hx.f (fun y hy=>List.mem_append_left _ hy)) hT.1 hT.2 ((hl.f (fun y hy=>List.mem_append_right _ (List.mem_append_left _ hy))).f h1)
  ((hh.f (fun y hy=>List.mem_append_right _ (List.mem_append_right _ hy))).f (by omega)) (by omega) (by omega) (.head _)
theorem zMO {α:Type} {xs r:List α} {l hi:Int} (T el z t t':Nat) (enc:α→List D) (x:Operand) (lo ho:Option Operand) (h:zF8 xs l hi=some r) (hx:OkO x (.rf t 0 xs.length none):=by trivial) (hl:OkB lo (0:Nat) l:=by first|trivial|rfl) (hh:OkB ho xs.length hi:=by first|trivial|rfl)
  (hT:(yO Γ.P (underlying T),zF0 Γ.P el,Nat.ble Γ.m t')=(some (.slice el),some z,true):=by kernel_rfl):
  OpV Γ (.slice T x lo ho none) {tn:=tnO x (.rf t 0 xs.length none)++(tnB lo l++tnB ho hi),hn:=[(t,rE z enc xs)],out:=some (.rf t' 0 r.length none),hx:=[t],hw:=[(t',rE z enc r)],fr:=[t']}:=by
 simp only [Prod.mk.injEq] at hT
 obtain ⟨h1,h2,h3,h4,h5⟩:=zIk h
 intro ops o hop hg
 have e:rE z enc r= .row z (((xs.map enc).drop l.toNat).take (hi.toNat-l.toNat)):=by
  rw [h4,rE,List.map_take,List.map_drop]
 rw [e,h5]
 exact zPx (n:=xs.length) (xs:=xs.map enc) (z:=z) hg hop rfl (Nat.le_of_ble_eq_true hT.2.2) (hx.f (fun y hy=>List.mem_append_left _ hy)) hT.1 hT.2.1 ((hl.f (fun y hy=>List.mem_append_right _ (List.mem_append_left _ hy))).f h1)
  ((hh.f (fun y hy=>List.mem_append_right _ (List.mem_append_right _ hy))).f (by omega)) (by omega) (by omega) (by simp) (.head _)
theorem zN6 (T el t off n:Nat) (x:Operand) (hx:OkO x (.sub t off n):=by trivial) (hT:yO Γ.P (underlying T)=some (.slice el):=by kernel_rfl):
  OpV Γ (.call {callee:=.builtin .len,args:= #[x],argTypes:= #[T]}) {tn:=tnO x (.sub t off n),out:=some (.sc (.int .i64 (n:Int)))}:=by
 intro ops o hop hg
 exact zLC hg hop rfl (hx.f (fun y hy=>hy)) hT
theorem zNh {α:Type} {xs:List α} {l i:Int} {n:Nat} {a:α} {kk:IntKind} (T el z t:Nat) (enc:α→List D) (x y:Operand) (h:zKC xs l n i=some a) (hx:OkO x (.sub t l.toNat n):=by trivial) (hy:OkO y (.sc (.int kk i)):=by first|trivial|rfl)
  (hT:(yO Γ.P (underlying T),zF0 Γ.P el)=(some (.slice el),some z):=by kernel_rfl):
  OpV Γ (.indexAddr T x y) {tn:=tnO x (.sub t l.toNat n)++tnO y (.sc (.int kk i)),hn:=[(t,rE z enc xs)],out:=some (.pt t (l+i).toNat 0)}:=by
 simp only [Prod.mk.injEq] at hT
 have hb:0≤l∧0≤i∧i<n:=by
  unfold zKC at h
  split at h
  ·assumption
  ·cases h
 intro ops o hop hg
 exact zJJ (n:=n) (off:=l.toNat) (i:=i) (k:=kk) (xs:=xs.map enc) (z:=z) hg hop rfl (hx.f (fun y hy=>List.mem_append_left _ hy)) (hy.f (fun y hy=>List.mem_append_right _ hy)) hT.1 hT.2 hb.2.1 hb.2.2 (by omega) (.head _)
theorem zMZ {α:Type} {xs ys:List α} {l:Int} {n:Nat} {a:α} (T el z t:Nat) (enc:α→List D) (x:Operand) (h:zL8 xs l n a=some ys) (he:Emb [] ((zIX Γ.P el).cells.toList.map D.sc) (enc a) []) (hx:OkO x (.sub t l.toNat n):=by trivial)
  (hT:(Γ.P.underlying T,yO Γ.P (zeroValue el),(zIX Γ.P el).cells.size,(zIX Γ.P el).cells.toList.all Value.oneCell,(enc a).length)=(some (.slice el),some (zIX Γ.P el),z,true,z):=by kernel_rfl):
  zPm Γ (.call {callee:=.builtin .clear,args:= #[x],argTypes:= #[T]}) {tn:=tnO x (.sub t l.toNat n),hn:=[(t,rE z enc xs)],hx:=[t],hw:=[(t,rE z enc ys)]}:=by
 simp only [Prod.mk.injEq] at hT
 obtain ⟨h1,h2,h3,h4,h5⟩:=hT
 unfold zL8 at h
 split at h
 ·rename_i q
  cases h
  intro ops o hop hg hds
  have e:rE z enc (ovr xs l.toNat (List.replicate n a))= .row z ((xs.map enc).take l.toNat++List.replicate n (enc a)++(xs.map enc).drop (l.toNat+n)):=by
   simp [rE,ovr,List.map_take,List.map_drop]
  rw [e]
  exact zJP (n:=n) (xs:=xs.map enc) hg hds hop rfl (hx.f (fun y hy=>hy)) h1 h2 h3 h4 he h5 (by simp; omega) (.head _)
 ·cases h
end
end Go.Im
set_option linter.unusedVariables false
namespace Go.Im
open Go
def mkV (P:Program) (t:TypeId) (xs:List Value):Option Value:=match zGg P t with
 |some true=>some (.agg xs.toArray)
 |some false=>xs.head?
 |none=>none
def zPi (P:Program) (g:TypeId→List Value→List Value→Option Bool) (xs ys:List Value):List Field→Option Bool
 |[]=>some true
 |f::fs=>if f.name= "_" then none else match zF0 P f.type with
  |some z=>match g f.type ((xs.drop f.offset).take z) ((ys.drop f.offset).take z),zPi P g xs ys fs with
   |some a,some r=>some (a&&r)
   |_,_=>none
  |none=>none
def eqT (P:Program):Nat→TypeId→List Value→List Value→Option Bool
 |0,_,_,_=>none
 |d+1,t,xs,ys=>match P.underlying t with
  |some (.struct fs)=>if P.stoodInHeld t=false∧zGg P t=some true then zPi P (eqT P d) xs ys fs.toList else none
   |some (.int _)=>match zGg P t,xs,ys with
   |some false,.int k1 a::_,.int k2 b::_=>if k1=k2 then some (a==b) else none
   |_,_,_=>none
  |some .bool =>match zGg P t,xs,ys with
   |some false,.bool a::_,.bool b::_=>some (a==b)
   |_,_,_=>none
  |some .string =>match zGg P t,xs,ys with
   |some false,.string a::_,.string b::_=>some (a.toList==b.toList)
   |_,_,_=>none
  |_=>none
theorem zNs {P:Program} {w:World} {t:TypeId} {cs:List Value} {off z:Nat} {v:Value} (hz:zF0 P t=some z) (hz0:zGg P t=some false→0<z) (h:mkV P t ((cs.drop off).take z)=some v):(part t cs.toArray off).run P w= .ok v w:=by
 unfold mkV at h
 unfold part
 split at h
 ·rename_i ha
  cases h
  rw [run_bind_ok (zL _ _ w ha)]
  simp only [if_true]
  rw [run_bind_ok (zL _ _ w hz)]
  have:(cs.toArray.extract off (off+z))=((cs.drop off).take z).toArray :=by
   apply Array.ext'
   simp [List.take_drop]
  rw [this]
  rfl
 ·rename_i ha
  rw [run_bind_ok (zL _ _ w ha)]
  simp only [Bool.false_eq_true,if_false]
  have:cs.toArray[off]? =some v:=by
   rw [List.head?_take,if_neg (by have:=hz0 ha; omega),List.head?_drop] at h
   simpa using h
  rw [this]
  rfl
 ·cases h
theorem zMd {P:Program}:∀(d k:Nat) (t:TypeId) (xs ys:List Value) (vx vy:Value) (r:Bool) (w:World),eqT P d t xs ys=some r→mkV P t xs=some vx→mkV P t ys=some vy→(Op.equalIn (d+k) t vx vy).run P w= .ok r w
 |0,k,t,xs,ys,vx,vy,r,w,h,_,_=>by simp [eqT] at h
 |d+1,k,t,xs,ys,vx,vy,r,w,h,hx,hy=>by
  rw [show d+1+k=(d+k)+1 by omega]
  unfold eqT at h
  unfold mkV at hx hy
  split at h
  ·rename_i fs hfs
   split at h
   ·rename_i hc
    rw [hc.2] at hx hy
    cases hx
    cases hy
    have hff:P.fieldsOf t=fs:=by unfold Program.fieldsOf; rw [hfs]
    rw [run_equalIn_struct w (d+k) t _ _ (by rw [hff]; exact hfs) hc.1,hff]
    have key:∀(l:List Field) (r:Bool),zPi P (eqT P d) xs ys l=some r→(Op.eqFields (d+k) xs.toArray ys.toArray l).run P w= .ok r w:=by
     intro l
     induction l with
     |nil=>intro r h; cases h; rfl
     |cons f l ih=>
      intro r h
      unfold zPi at h
      split at h
      ·cases h
      ·rename_i hnm
       split at h
       ·rename_i z hz
        split at h
        ·rename_i a q ha hq
         cases h
         have hmk:∀(cs:List Value),(∃a l',(cs.drop f.offset).take z=a::l')∨zGg P f.type=some true→zGg P f.type≠none→∃v,mkV P f.type ((cs.drop f.offset).take z)=some v∧(part f.type cs.toArray f.offset).run P w= .ok v w:=by
          intro cs hcs hne
          have:∃v,mkV P f.type ((cs.drop f.offset).take z)=some v:=by
           unfold mkV
           rcases hcs with ⟨a,l',e⟩|e
           ·cases hag:zGg P f.type with
            |none=>exact absurd hag hne
            |some b=>cases b<;>simp [e]
           ·rw [e]; exact ⟨_,rfl⟩
          obtain ⟨v,hv⟩:=this
          refine ⟨v,hv,zNs hz (fun hf=>?_) hv⟩
          rcases Nat.eq_zero_or_pos z with e|e
          ·subst e
           unfold mkV at hv
           rw [hf] at hv
           simp at hv
          ·exact e
         have hsh:zGg P f.type≠none∧((∃a l',(xs.drop f.offset).take z=a::l')∨zGg P f.type=some true)∧((∃a l',(ys.drop f.offset).take z=a::l')∨zGg P f.type=some true):=by
          cases d with
          |zero=>simp [eqT] at ha
          |succ d=>
           unfold eqT at ha
           split at ha
           ·split at ha
            ·rename_i hc'
             exact ⟨by rw [hc'.2]; simp,.inr hc'.2,.inr hc'.2⟩
            ·cases ha
           all_goals first
            |(split at ha
              ·rename_i g1 g2 g3
               exact ⟨by rw [g1]; simp,.inl ⟨_,_,g2⟩,.inl ⟨_,_,g3⟩⟩
              ·cases ha)
            |cases ha
         obtain ⟨va,m1,p1⟩:=hmk xs hsh.2.1 hsh.1
         obtain ⟨vb,m2,p2⟩:=hmk ys hsh.2.2 hsh.1
         have he:=zMd d k f.type _ _ va vb a w ha m1 m2
         unfold Op.eqFields
         rw [if_pos (by simpa using hnm),run_bind_ok p1,run_bind_ok p2,run_bind_ok he]
         cases a
         ·rfl
         ·simp only [Bool.not_true,Bool.false_eq_true,if_false,Bool.true_and]
          exact ih q hq
        ·cases h
       ·cases h
    exact key _ _ h
   ·cases h
  ·rename_i kk hu
   split at h
   ·rename_i hag
    rw [hag] at hx hy
    cases hx
    cases hy
    split at h
    ·rename_i e
     subst e
     cases h
     exact run_equalIn_int w (d+k) t _ _ _ _ hu
    ·cases h
   ·cases h
  ·rename_i hu
   split at h
   ·rename_i hag
    rw [hag] at hx hy
    cases hx
    cases hy
    cases h
    exact run_equalIn_bool' w (d+k) t _ _ hu
   ·cases h
  ·rename_i hu
   split at h
   ·rename_i hag
    rw [hag] at hx hy
    cases hx
    cases hy
    cases h
    exact run_equalIn_string w (d+k) t _ _ hu
   ·cases h
  ·cases h
section
variable {Γ:Ctx} {ops:Array Oper} {o:Oper}
theorem zGP {β:Nat→Loc} {N:Nat→Prop} {w:World} {top:Bool}:∀{us ws:List Value} {bs:List Nat},zI β N w top (us.map D.sc) ws bs→ws=us
 |[],ws,bs,h=>by simp only [List.map_nil,zI] at h; exact h.1
 |u::us,ws,bs,h=>by
  simp only [List.map_cons,zI,Rep] at h
  obtain ⟨v,vs,b1,b2,rfl,_,h3,h4⟩:=h
  rw [h3.1,zGP h4]
theorem zKn {P:Program} {w:World} {b:BinOp} {T:TypeId} {x y:Operand} {xs ys:Array Value} (h:P.eqGuardType P.depth T=false):(eqGuard b T x y (.agg xs) (.agg ys)).run P w= .ok () w:=by
 have key:(do
   let __do_lift ←program
   let __do_lift_1 ←program
   if (!__do_lift.eqGuardType __do_lift_1.depth T)=true then pure ()
   else do
    let __do_lift ←Op.eqGuardIn Op.maxDepth T (Value.agg xs) (Value.agg ys)
    if __do_lift=true then unsupported (.noEntry "binop/eql: two nil values of an interface type with methods, in a part of a struct or an array") else pure ():Sem Unit).run P w= .ok () w:=by
  rw [run_bind_ok (a:=P) (w':=w) rfl]
  rw [run_bind_ok (a:=P) (w':=w) rfl]
  rw [h]
  rfl
 unfold eqGuard
 split
 ·exact key
 ·exact key
 ·rfl
theorem zPg {c:Cert} {b:BinOp} {x y:Operand} {T U:TypeId} {us vs:List Value} {d:Nat} {r q:Bool} (hg:o.guard=none) (hop:o.op= .binOp b T x y U) (hb:(b= .eql ∧q=r)∨(b= .neq ∧q= !r)) (hc:c= {tn:=c.tn,out:=some (.sc (.bool q))})
  (hx:OpF c x (.ag (us.map D.sc))) (hy:OpF c y (.ag (vs.map D.sc))) (hagg:zGg Γ.P T=some true) (hgt:Γ.P.eqGuardType Γ.P.depth T=false) (hd:d≤10000) (he:eqT Γ.P d T us vs=some r):Valid Γ ops o c:=by
 refine jE (d:=.sc (.bool q)) (f:=fun ρ=>do eqGuard b T x y (ρ x) (ρ y); binOp b T (ρ x) (ρ y)) hg (fun ρ=>by simp [execOp,hop]) (by rw [hc]) fun β bs σ a w hn hr=>?_
 have h1:=OpF.rep hx hn hr
 have h2:=OpF.rep hy hn hr
 simp only [Rep] at h1 h2
 obtain ⟨_,w1,e1,_,r1⟩:=h1
 obtain ⟨_,w2,e2,_,r2⟩:=h2
 rw [zGP r1] at e1
 rw [zGP r2] at e2
 refine ⟨.bool q,?_,by simp [Rep]⟩
 rw [e1,e2]
 rw [run_bind_ok (zKn hgt)]
 have hrun:=zMd d (10000-d) T us vs (.agg us.toArray) (.agg vs.toArray) r w he (by unfold mkV; rw [hagg]) (by unfold mkV; rw [hagg])
 rw [show d+(10000-d)=10000 by omega] at hrun
 rcases hb with ⟨rfl,rfl⟩|⟨rfl,rfl⟩
 ·rw [run_eql_struct,hrun]; rfl
 ·rw [run_neq_struct,hrun]; rfl
theorem zLY {b:BinOp} {q r:Bool} (T U:Nat) (x y:Operand) (us vs:List Value) (hb:(b= .eql ∧q=r)∨(b= .neq ∧q= !r)) (hx:OkO x (.ag (us.map D.sc)):=by trivial) (hy:OkO y (.ag (vs.map D.sc)):=by trivial)
  (hT:(zGg Γ.P T,Γ.P.eqGuardType Γ.P.depth T,eqT Γ.P 4 T us vs)=(some true,false,some r):=by kernel_rfl):
  OpV Γ (.binOp b T x y U) {tn:=tnO x (.ag (us.map D.sc))++tnO y (.ag (vs.map D.sc)),out:=some (.sc (.bool q))}:=by
 simp only [Prod.mk.injEq] at hT
 obtain ⟨h1,h2,h3⟩:=hT
 intro ops o hop hg
 exact zPg hg hop hb rfl (hx.f (fun y hy=>List.mem_append_left _ hy)) (hy.f (fun y hy=>List.mem_append_right _ hy)) h1 h2 (by decide) h3
end
end Go.Im
set_option linter.unusedVariables false
namespace Go.Im
open Go
section
variable {Γ:Ctx} {ops:Array Oper} {o:Oper}
theorem zOx {c:Cert} {f:FuncId} {caps:Array Operand} {ds:List D} (hg:o.guard=none) (hop:o.op= .makeFunc (.func f) caps #[]) (hc:c= {tn:=c.tn,out:=some (.fb f ds)})
  (hl:ds.length=caps.size) (hds:∀(k:Nat) (d:D),ds[k]? =some d→∃x,caps[k]? =some x∧OpF c x d):Valid Γ ops o c:=by
 refine jE (d:=.fb f ds) (f:=fun ρ=>Instr.makeFunc (.func f) (caps.map ρ) #[]) hg (fun ρ=>by simp [execOp,hop]) (by rw [hc]) fun β bs σ a w hn hr=>?_
 refine ⟨_,rfl,?_⟩
 simp only [Rep]
 refine ⟨trivial,trivial,(caps.map a.eval).toList,by rw [Array.toArray_toList],?_⟩
 have key:∀(ds:List D) (xs:List Operand),ds.length=xs.length→(∀(k:Nat) (d:D),ds[k]? =some d→∃x,xs[k]? =some x∧OpF c x d)→zI β (NS Γ w bs) w true ds (xs.map a.eval) []:=by
  intro ds
  induction ds with
  |nil=>intro xs h _; rw [List.length_eq_zero_iff.1 h.symm]; simp [zI]
  |cons d ds ih=>
   intro xs h hk
   cases xs with
   |nil=>simp at h
   |cons x xs=>
    obtain ⟨x',g1,g2⟩:=hk 0 d rfl
    simp at g1
    subst g1
    simp only [List.map_cons,zI]
    exact ⟨_,_,[],[],rfl,rfl,OpF.rep g2 hn hr,ih xs (by simpa using h) (fun k d hd=>hk (k+1) d (by simpa using hd))⟩
 have:=key ds caps.toList (by simpa using hl) (fun k d hd=>by
  obtain ⟨x,g1,g2⟩:=hds k d hd
  exact ⟨x,by rw [Array.getElem?_toList]; exact g1,g2⟩)
 simpa using this
theorem zOh {c:Cert} {f:FuncId} {x0:Operand} {args:Array Operand} {tys:Array TypeId} {as ds caps:List D} {ids:List Nat} {bor:Bool} {hin hout:List Ent} {R:Option (D×List Ent)} {res d:D}
  {news:List (Nat×Ent)} (hg:o.guard=none) (hop:o.op= .call {callee:=.value x0,args:=args,argTypes:=tys}) (hx0:OpF c x0 (.fb f caps)) (hcf:∀xs,yO Γ.P (callFunc f xs)=some (.enter f xs))
  (hal:as.length=args.size) (hargs:∀(k:Nat) (d:D),as[k]? =some d→∃x,args[k]? =some x∧OpF c x d)
  (ham:AmL c.hn ids bor (caps++as) ds) (hids:ids.Nodup) (hinl:hin.length=ids.length) (hhin:∀x∈ids.zip hin,x∈c.hn) (hmen:∀e∈hin++hout,e.men=[])
  (hok:Ok Γ.P f ds hin R) (hR:R=some (res,hout)) (hol:hout.length≤hin.length) (hnm:Nm res d news) (hnews:(news.map (·.1)).Nodup)
  (hc:c= {tn:=c.tn,hn:=c.hn,out:=some d,hx:=ids,hw:=ids.zip hout++news,fr:=news.map (·.1)}) (hmm:∀x∈news,Γ.m≤x.1)
  (hbor:bor=true→zG3 hout∧res.flat):Valid Γ ops o c:=by
 intro σ a w Q hdst hn ⟨h0,β,bs,hr⟩
 have hwt:Region.wanted o (yielded ops a.tmps)=true:=by simp [Region.wanted,hg]
 rw [if_pos hwt]
 have hvs:zI β (NS Γ w bs) w true as (args.toList.map a.eval) []:=zFX (c:=c) (by simpa using hal) (fun k d hk=>by
  obtain ⟨x,h1,h2⟩:=hargs k d hk
  exact ⟨x,by rw [Array.getElem?_toList]; exact h1,OpF.rep h2 hn hr⟩)
 have h1:=OpF.rep hx0 hn hr
 simp only [Rep] at h1
 obtain ⟨_,_,ws,hfv,hcaps⟩:=h1
 have hex:(execOp a.eval o).run Γ.P w= .ok (.enter f (ws.toArray++args.map a.eval)) w:=by
  have e:execOp a.eval o=(do let d ←Deferred.ofValue (a.eval x0) (args.map a.eval); invoke d.target d.args):=by
   simp only [execOp,hop,resolve]
  rw [e,hfv]
  show (callFunc f ((ws.toArray++args.map a.eval)++ #[])).run Γ.P w=_
  rw [Array.append_empty]
  exact zL _ _ w (hcf _)
 unfold Oper.wp
 rw [hex,Oper.upon_enter]
 have:=zHx (f:=f) (dst:=o.dst) h0 hr hdst hn (hcaps.append hvs) ham hids hinl hhin hmen hok hR hol hnm hnews hc hmm hbor
 rw [show (ws++args.toList.map a.eval).toArray =ws.toArray++args.map a.eval by rw [←List.append_toArray,←List.map_toArray,Array.toArray_toList]] at this
 refine this.mono fun e w' he=>?_
 obtain ⟨v,rfl,hrel⟩:=he
 exact hrel
theorem zPA (f:FuncId) (xs:List Operand) (ds:List D) (hC:(ds.length,xs.all zMC,List.zipWith zME xs ds)=(xs.length,true,ds):=by kernel_rfl):
  OpV Γ (.makeFunc (.func f) xs.toArray #[]) {tn:=tnL xs ds,out:=some (.fb f ds)}:=by
 simp only [Prod.mk.injEq] at hC
 intro ops o hop hg
 exact zOx hg hop rfl (by simpa using hC.1) (fun k d hk=>by
  obtain ⟨x,q1,q2⟩:=zJv (c:= {tn:=tnL xs ds,out:=some (.fb f ds)}) hC.1 hC.2.1 hC.2.2 (fun y hy=>hy) k d hk
  exact ⟨x,by simpa using q1,q2⟩)
theorem zPF {f:FuncId} {as caps:List D} {R:Type} {e:Option R} {g:R→D×List Ent} {r:R} (t0:Nat) (xs:List Operand) (tys:List Nat) (hok:Ok Γ.P f (caps++as) [] (e.map g)) (h:e=some r) (hcf:∀vs,yO Γ.P (callFunc f vs)=some (.enter f vs):=by intro _; kernel_rfl)
  (hC:(as.length,xs.all zMC,List.zipWith zME xs as,D.men.zE1 (caps++as),(g r).1.nm,(g r).2)=(xs.length,true,as,[],true,[]):=by kernel_rfl):
  OpV Γ (.call {callee:=.value (.tmp t0),args:=xs.toArray,argTypes:=tys.toArray}) {tn:=(t0,.fb f caps)::tnL xs as,out:=some (g r).1}:=by
 simp only [Prod.mk.injEq] at hC
 obtain ⟨h1,h2,h3,h4,h5,h7⟩:=hC
 intro ops o hop hg
 exact zOh («as»:=as) (caps:=caps) (bor:=false) (ids:=[]) (hin:=[]) (hout:=[]) (news:=[]) hg hop (show (t0,D.fb f caps)∈(t0,D.fb f caps)::tnL xs as from .head _) hcf (by simpa using h1) (fun k d hk=>by
  obtain ⟨x,q1,q2⟩:=zJv (c:= {tn:=(t0,.fb f caps)::tnL xs as,out:=some (g r).1}) h1 h2 h3 (fun y hy=>List.mem_cons_of_mem _ hy) k d hk
  exact ⟨x,by simpa using q1,q2⟩) (AmL.zHk h4) (by simp) rfl (by simp) (by simp) hok (by rw [h,Option.map_some,←h7]) (by simp) (zJZ h5) (by simp) rfl (by simp) (by simp)
end
end Go.Im
set_option linter.unusedVariables false
namespace Go.Im
open Go
theorem zJd {w:World} {b off r:Nat} {ws:List Value} (h:Own w b off r ws) (hr:ws.length≤r):∀j (hj:j<ws.length),w.cell? ⟨b,off+j,none⟩=some ws[j]∧w.frozen? ⟨b,off+j,none⟩=false:=by
 obtain ⟨arr,e,lo,hi,h1,h2,h3,h4⟩:=h
 intro j hj
 unfold World.cell? World.frozen?
 simp only [h1]
 refine ⟨by simpa using h4 j hj,?_⟩
 have:=h2 (off+j) (by omega)
 simp only [Bool.and_eq_false_iff,decide_eq_false_iff_not]
 omega
theorem zJ3 {α:Type} {enc:α→Value} {β:Nat→Loc} {N:Nat→Prop} {w:World}:∀{xs:List α} {ws:List Value} {bs:List Nat},zU β N w (xs.map (fun a=>[D.sc (enc a)])) ws bs→ws=xs.map enc∧bs=[]
 |[],ws,bs,h=>by simpa [zU] using h
 |x::xs,ws,bs,h=>by
  simp only [List.map_cons,zU,zI,Rep] at h
  obtain ⟨w1,w2,b1,b2,rfl,rfl,⟨v,vs,c1,c2,rfl,rfl,h3,rfl,rfl⟩,h4⟩:=h
  obtain ⟨rfl,rfl⟩:=h3
  obtain ⟨rfl,rfl⟩:=zJ3 h4
  exact ⟨rfl,rfl⟩
theorem zIl {α:Type} {enc:α→Value} {β:Nat→Loc} {N:Nat→Prop} {w:World}:∀(xs:List α),zU β N w (xs.map (fun a=>[D.sc (enc a)])) (xs.map enc) []
 |[]=>by simp [zU]
 |x::xs=>by
  simp only [List.map_cons,zU,zI,Rep]
  exact ⟨[enc x],xs.map enc,[],[],rfl,rfl,⟨_,[],[],[],rfl,rfl,⟨rfl,rfl⟩,rfl,rfl⟩,zIl xs⟩
theorem zHU {α:Type} [Inhabited α] {enc:α→Value} {w:World} {blk off:Nat} {d:Array α} {arr:Array Value} {e:TypeId} {fz:Nat×Nat} (h:w.heap[blk]? =some (.cells arr e fz)):
  (Sort.putRow enc w blk off d).heap[blk]? =some (.cells (Sort.putCells enc off d arr) e fz)∧(∀b,b≠blk→(Sort.putRow enc w blk off d).heap[b]? =w.heap[b]?)∧(Sort.putRow enc w blk off d).heap.size =w.heap.size:=by
 unfold Sort.putRow Sort.mapBlock
 refine ⟨?_,fun b hb=>?_,by simp⟩
 ·simp only [Array.getElem?_modify,if_true,h]
  rfl
 ·simp only [Array.getElem?_modify]
  rw [if_neg (fun e=>hb e.symm)]
theorem zLH {α:Type} [Inhabited α] {P:Program} {f:FuncId} {enc:α→Value} {xs ys:List α} (hl:ys.length=xs.length)
  (h:∀(blk off cap:Nat) (w:World),Sort.Holds enc w blk off xs.toArray→blk<w.heap.size→Calls P f #[.slice (some ⟨blk,off,none⟩) xs.length cap] w fun e w'=>e= .returned (.tuple #[])∧∃n os,w'=Sort.grow (Sort.putRow enc (Sort.ahead w n) blk off ys.toArray) os)
  (h0:xs=[]→∀(p:Option Addr) (cap:Nat) (w:World),Calls P f #[.slice p 0 cap] w fun e w'=>e= .returned (.tuple #[])∧w'=w):
  Ok P f [.rf 0 0 xs.length none] [.row 1 (xs.map (fun a=>[D.sc (enc a)]))] (some (.tu [],[.row 1 (ys.map (fun a=>[D.sc (enc a)]))])):=by
 intro out ho w N β vs bs ha hh hnd hlt hN _
 cases ho
 simp only [zI] at ha
 obtain ⟨v,vs',b1,b2,rfl,hb12,h1,rfl,rfl⟩:=ha
 have hb1:b1=[]:=by simpa using hb12.symm
 subst hb1
 simp only [Rep] at h1
 obtain ⟨_,_,h1⟩:=h1
 obtain ⟨c1,c2,rfl,⟨hLz,hzz,hrow⟩,hc2⟩:=hh
 have hc2':c2=[]:=hc2
 subst hc2'
 simp only at hLz hzz hrow
 rcases hrow with ⟨hnil,hxs,hc1⟩|⟨hnil,ws,hO,hE⟩
 ·
  have hxs':xs=[]:=by simpa using hxs
  subst hxs'
  subst hc1
  have hys:ys=[]:=List.eq_nil_of_length_eq_zero hl
  subst hys
  have hv:v= .slice none 0 0:=by
   rcases h1 with ⟨_,_,_,h1⟩|⟨h1,_⟩
   ·exact h1
   ·rw [hnil] at h1; cases h1
  subst hv
  refine (h0 rfl none 0 w).mono ?_
  rintro e w' ⟨rfl,rfl⟩
  have hown:(β 0).own =[]:=by simp [Loc.own,hnil]
  refine ⟨.tuple #[],[],[],rfl,⟨rfl,rfl,rfl,Nat.le_refl _⟩,Nat.le_refl _,fun _ _ _=>rfl,by simp,by simp,?_,?_⟩
  ·simp only [Rep,zI]
   exact ⟨trivial,[],rfl,rfl,trivial⟩
  ·refine ⟨[],[],by simp [hown],⟨hLz,by simp,.inl ⟨hnil,rfl,rfl⟩⟩,rfl⟩
 ·have hown:(β 0).own =[(β 0).b]:=by simp [Loc.own,hnil]
  rw [hown] at hlt hnd hN ⊢
  obtain ⟨rfl,rfl⟩:=zJ3 hE
  obtain ⟨cp,hv,hcap,hroom⟩:∃c',v= .slice (some ⟨(β 0).b,(β 0).o,none⟩) xs.length c'∧xs.length≤c'∧c'≤(β 0).r :=by
   rcases h1 with ⟨h1,_⟩|⟨_,c',h3,h4,h5,_⟩
   ·rw [hnil] at h1; cases h1
   ·exact ⟨c',by simpa using h3,h4,by rw [hLz] at h5; simpa using h5⟩
  subst hv
  have hbl:(β 0).b <w.heap.size:=hlt _ (by simp)
  have hcells:=zJd hO (by simpa using Nat.le_trans hcap hroom)
  have hH:Sort.Holds enc w (β 0).b (β 0).o xs.toArray:=by
   intro j hj
   have hj':j<xs.length:=by simpa using hj
   obtain ⟨q1,q2⟩:=hcells j (by simpa using hj')
   refine ⟨?_,q2⟩
   rw [q1]
   simp [hj']
  refine (h _ _ cp w hH hbl).mono ?_
  rintro e w' ⟨rfl,n,os,rfl⟩
  obtain ⟨arr,el,lo,hi,g1,g2,g3,g4⟩:=hO
  obtain ⟨p1,p2,p3⟩:=zHU (enc:=enc) (w:=Sort.ahead w n) (blk:=(β 0).b) (off:=(β 0).o) (d:=ys.toArray) (fz:=(lo,hi)) (e:=el) (arr:=arr) g1
  have hg:∀b,b<w.heap.size→(Sort.grow (Sort.putRow enc (Sort.ahead w n) (β 0).b (β 0).o ys.toArray) os).heap[b]? =(Sort.putRow enc (Sort.ahead w n) (β 0).b (β 0).o ys.toArray).heap[b]? :=by
   intro b hb
   unfold Sort.grow
   simp only
   rw [Array.getElem?_append_left (by rw [p3]; exact hb)]
  have hsz:w.heap.size≤(Sort.grow (Sort.putRow enc (Sort.ahead w n) (β 0).b (β 0).o ys.toArray) os).heap.size :=by
   unfold Sort.grow
   simp only [Array.size_append]
   rw [p3]
   exact Nat.le_add_right _ _
  refine ⟨.tuple #[],[],[(β 0).b],rfl,⟨rfl,rfl,rfl,Nat.le_add_right _ _⟩,hsz,?_,by simp,?_,?_,?_⟩
  ·intro b hb hb2
   rw [hg b hb,p2 b (fun e=>hb2 (by simp [e]))]
   rfl
  ·intro b hb
   simp only [List.nil_append,List.mem_singleton] at hb
   subst hb
   exact ⟨Nat.lt_of_lt_of_le hbl hsz,.inl (by simp)⟩
  ·simp only [Rep,zI]
   exact ⟨trivial,[],rfl,rfl,trivial⟩
  ·refine ⟨[],[],by simp [hown],⟨hLz,by simp,.inr ⟨hnil,ys.map enc,?_,zIl ys⟩⟩,rfl⟩
   refine ⟨Sort.putCells enc (β 0).o ys.toArray arr,el,lo,hi,by rw [hg _ hbl]; exact p1,?_,?_,?_⟩
   ·unfold Sort.putCells
    rw [Array.size_mapIdx]
    exact g2
   ·unfold Sort.putCells
    rw [Array.size_mapIdx]
    exact g3
   ·intro k hk
    have hk':k<ys.length:=by simpa using hk
    unfold Sort.putCells
    have hka:(β 0).o +k<arr.size:=by
     have:(β 0).o +(β 0).r ≤arr.size:=g3
     omega
    rw [Array.getElem?_mapIdx,Array.getElem?_eq_getElem hka]
    simp only [Option.map_some]
    rw [if_pos (by simp; omega)]
    simp [hk']
end Go.Im
set_option linter.unusedVariables false
namespace Go.Im
open Go
end Go.Im
set_option linter.unusedVariables false
namespace Go.Im
open Go
end Go.Im
set_option linter.unusedVariables false
namespace Go.Im
open Go
section
variable {Γ:Ctx} {fc:Code} {k:List II} {σ:St} {T:Type} {K:T→Option (D×List Ent)}
theorem zP5 {e:Option T} (t:Nat) {z:Nat} {xs xs':List (List D)} {tm:List (Nat×D)} {hp:List (Nat×Ent)} (hx:D.ro.roE xs=xs')
  (hj:J Γ fc k (St.mk' tm ((t,.row z xs')::hp)) e K):J Γ fc k (St.mk' tm ((t,.row z xs)::hp)) e K:=by
 subst hx
 refine zFt (fun a w hr=>?_) hj
 obtain ⟨h0,β,bs,h⟩:=hr
 obtain ⟨b1,bk,rfl,hE,hrest⟩:=h.hp
 obtain ⟨hz,hzz,hrow⟩:=hE
 have hp:((β t).own ++(b1++bk)).Perm (b1++((β t).own ++bk)):=by
  rw [←List.append_assoc,←List.append_assoc]
  exact List.Perm.append_right _ List.perm_append_comm
 have hnd:=hp.nodup_iff.1 h.nodup
 have hsub:∀b∈(β t).own ++([]++bk),b∈(β t).own ++(b1++bk):=fun b hb=>by
  simp only [List.nil_append,List.mem_append] at hb ⊢
  rcases hb with hb|hb
  ·exact .inl hb
  ·exact .inr (.inr hb)
 have hN:∀b,NS Γ w ((β t).own ++(b1++bk)) b→NS Γ w ((β t).own ++([]++bk)) b:=fun b hb=>NS.sub hsub hb
 have hb:∀b∈b1,NS Γ w ((β t).own ++([]++bk)) b:=fun b hb=>by
  have:=h.own b (hp.mem_iff.2 (List.mem_append_left _ hb))
  refine ⟨?_,this.1,fun hbk=>(List.nodup_append.1 hnd).2.2 b hb b hbk rfl⟩
  rcases this.2 with h1|h1
  ·exact .inr (.inl h1)
  ·exact .inr (.inr h1)
 refine ⟨h0,β,(β t).own ++([]++bk),{defers:=h.defers,size:=h.size,keys:=h.keys,par:=h.par,grow:=h.grow,gh:=h.gh,quiet:=h.quiet,keep:=h.keep,hp:=?_,nodup:=?_,own:=fun b hb=>h.own b (hsub b hb),tm:=?_}⟩
 ·refine ⟨[],bk,rfl,⟨hz,fun x hx=>?_,?_⟩,?_⟩
  ·obtain ⟨e',he',rfl⟩:=zFz hx
   rw [zDu]; exact hzz e' he'
  ·rcases hrow with ⟨h1,h2,h3⟩|⟨h1,ws,h2,h3⟩
   ·subst h2; exact .inl ⟨h1,rfl,rfl⟩
   ·exact .inr ⟨h1,ws,h2,zU.ro hN xs ws b1 hb h3⟩
  ·exact uK.frame (fun b hb=>⟨hN b hb,rfl⟩) _ _ (fun _ _=>rfl) (fun _ _=>rfl) hrest
 ·exact (List.nodup_append.1 hnd).2.1
 ·exact zLX.frame (fun b hb=>⟨hN b hb,rfl⟩) (fun _ _=>rfl) h.tm
end
end Go.Im
set_option linter.unusedVariables false
namespace Go.Im
open Go
end Go.Im
set_option linter.unusedVariables false
namespace Go.Im
open Go Go.Proofs
section
variable {H:Type} {enc:TypeId×Value→H}
end
end Go.Im
set_option linter.unusedVariables false
namespace Go.Im
open Go
section
variable {Γ:Ctx} {ops:Array Oper} {o:Oper}
theorem Rel.zPB {σ:St} {a:Act} {w:World} {dst:Option Nat} {tn:List (Nat×D)} {t:Nat} {cs:List D} (hus:∀k,k∈zHf σ.tm∨k∈zFB σ.hp→k∈σ.us) (hcs:∀k∈D.men.zE1 cs,k∈σ.us) (hfree:∀d∈cs,d.free=true)
  (h:Rel Γ (σ.upd dst {tn:=tn,out:=some (.pt t 0 0),hw:=[(t,.box cs)],fr:=[t]}) a w):Rel Γ (σ.upd dst {tn:=tn,out:=some (.pb cs)}) a w:=by
 obtain ⟨_,β,bs,h⟩:=h
 obtain ⟨b1,b2,rfl,⟨hnil,_,ws,hO,hone,hcr⟩,hrest⟩:=h.hp
 obtain rfl:b1=[]:=zI.frees hfree hcr
 have hown:(β t).own =[(β t).b]:=by simp [Loc.own,hnil]
 have hnd:=h.nodup
 rw [hown] at hnd
 simp only [List.nil_append,List.singleton_append,List.nodup_cons] at hnd
 have hsub:∀b∈b2,b∈(β t).own ++([]++b2):=fun b hb=>by simp [hb]
 have hN:∀b,NS Γ w ((β t).own ++([]++b2)) b→NS Γ w b2 b:=fun b hb=>NS.sub hsub hb
 have hNt:NS Γ w b2 (β t).b :=by
  have:=h.own (β t).b (by rw [hown]; simp)
  refine ⟨?_,this.1,hnd.1⟩
  rcases this.2 with h1|h1
  ·exact .inr (.inl h1)
  ·exact .inr (.inr h1)
 refine ⟨?_,β,b2,{defers:=h.defers,size:=h.size,keys:=?_,par:=h.par,grow:=h.grow,gh:=h.gh,quiet:=h.quiet,keep:=h.keep,hp:=?_,nodup:=hnd.2,own:=fun b hb=>h.own b (hsub b hb),tm:=?_}⟩
 ·intro k hk
  simp only [St.upd,Cert.men,zFB,List.flatMap_nil,List.append_nil,List.nil_append,D.men] at hk ⊢
  rw [List.mem_append]
  have key:∀k,k∈zHf (σ.tm.filter (fun x=>dst !=some x.1))∨k∈zFB (σ.hp.filter (fun x=> !([]:List Nat).contains x.1))→k∈σ.us:=by
   rintro k (hk|hk)
   ·obtain ⟨x,hx,hk⟩:=List.mem_flatMap.1 hk
    exact hus k (.inl (List.mem_flatMap.2 ⟨x,(List.mem_filter.1 hx).1,hk⟩))
   ·obtain ⟨x,hx,hk⟩:=List.mem_flatMap.1 hk
    exact hus k (.inr (List.mem_flatMap.2 ⟨x,(List.mem_filter.1 hx).1,hk⟩))
  rcases hk with hk|hk
  ·obtain ⟨x,hx,hk⟩:=List.mem_flatMap.1 hk
   rcases List.mem_append.1 hx with hx|hx
   ·unfold Cert.outs at hx
    cases dst with
    |none=>simp at hx
    |some q=>
     simp only [List.mem_singleton] at hx
     subst hx
     exact .inr (hcs k (by simpa [D.men] using hk))
   ·exact .inr (key k (.inl (List.mem_flatMap.2 ⟨x,hx,hk⟩)))
  ·exact .inr (key k (.inr hk))
 ·have hk:=h.keys
  simp only [St.upd,List.cons_append,List.nil_append,List.map_cons,List.nodup_cons] at hk ⊢
  exact hk.2
 ·exact uK.frame (fun b hb=>⟨hN b hb,rfl⟩) _ _ (fun _ _=>rfl) (fun _ _=>rfl) hrest
 ·intro q d hd
  simp only [St.upd] at hd
  rcases List.mem_append.1 hd with hd|hd
  ·unfold Cert.outs at hd
   cases dst with
   |none=>simp at hd
   |some q'=>
    simp only [List.mem_singleton,Prod.mk.injEq] at hd
    obtain ⟨rfl,rfl⟩:=hd
    obtain ⟨v,h1,h2⟩:=h.tm q (.pt t 0 0) (by simp [St.upd,Cert.outs])
    refine ⟨v,h1,?_⟩
    simp only [Rep] at h2 ⊢
    obtain ⟨_,_,_,rfl⟩:=h2
    refine ⟨trivial,trivial,(β t).b,(β t).o,ws,by simp,hNt,hO.has,hone,?_⟩
    exact zI.frame (fun b hb=>⟨hN b hb,rfl⟩) cs true ws [] (by simp) (fun _ _=>rfl) hcr
  ·obtain ⟨v,h1,h2⟩:=h.tm q d (by simp only [St.upd]; exact List.mem_append_right _ hd)
   exact ⟨v,h1,Rep.frame (fun b hb=>⟨hN b hb,rfl⟩) d true v [] (by simp) (fun _ _=>rfl) h2⟩
theorem zGV:∀(l:List Nat) (m:Nat),m≤l.foldl max m∧∀x∈l,x≤l.foldl max m
 |[],m=>⟨Nat.le_refl _,by simp⟩
 |y::l,m=>by
  obtain ⟨h1,h2⟩:=zGV l (max m y)
  refine ⟨Nat.le_trans (Nat.le_max_left _ _) h1,fun x hx=>?_⟩
  rcases List.mem_cons.1 hx with rfl|hx
  ·exact Nat.le_trans (Nat.le_max_right _ _) h1
  ·exact h2 x hx
theorem zOe {c:Cert} {x:Operand} {T:TypeId} {d:D} (hg:o.guard=none) (hop:o.op= .box T x) (hc:c= {tn:=c.tn,out:=some (.pb (cellsD d))}) (hx:OpF c x d) (hd:(cellsD d).all D.cell=true):Valid Γ ops o c:=by
 intro σ a w Q hdst hn hr
 obtain ⟨m1,m2⟩:=zGV σ.us Γ.m
 have hft:σ.us.foldl max Γ.m+1∉σ.us:=fun h=>by have:=m2 _ h; omega
 have hn1:Nd {tn:=c.tn,out:=some (.pt (σ.us.foldl max Γ.m+1) 0 0),hw:=[((σ.us.foldl max Γ.m+1),.box (cellsD d))],fr:=[σ.us.foldl max Γ.m+1]} σ:=⟨hn.1,by simp,by simpa using hft⟩
 have hv:=zOX (Γ:=Γ) (ops:=ops) (t:=σ.us.foldl max Γ.m+1) hg hop (c:= {tn:=c.tn,out:=some (.pt (σ.us.foldl max Γ.m+1) 0 0),hw:=[((σ.us.foldl max Γ.m+1),.box (cellsD d))],fr:=[σ.us.foldl max Γ.m+1]}) rfl (by omega) hx hd σ a w Q hdst hn1 hr
 have hwt:Region.wanted o (yielded ops a.tmps)=true:=by simp [Region.wanted,hg]
 rw [if_pos hwt] at hv ⊢
 refine Oper.wp_mono (fun a' w' h'=>?_) hv
 rw [hc]
 exact Rel.zPB hr.1 (fun k hk=>zLM (a:=a) (w:=w) hr.1 hn hx k (by rwa [zJt] at hk)) (fun d' hd'=>D.zLQ (List.all_eq_true.1 hd d' hd')) h'
theorem zMb {c:Cert} {x:Operand} {T:TypeId} {cs:List D} {d:D} (hg:o.guard=none) (hop:o.op= .load T x) (hc:c= {tn:=c.tn,out:=some d}) (hx:OpF c x (.pb cs)) (hd:zBR Γ.P T cs=some d):Valid Γ ops o c:=by
 rw [hc]
 refine tF hg rfl rfl fun β bs σ a w hn hr=>?_
 have h1:=OpF.rep (c:=c) hx ⟨hn.1,by rw [hc]; simp,by rw [hc]; simp⟩ hr
 simp only [Rep] at h1
 obtain ⟨_,_,b,p,ws,h2,h3,h4,hone,h5⟩:=h1
 obtain ⟨v,h6,h7⟩:=zDQ hd h4 hone h5
 refine ⟨v,zFa (s:=Instr.loadAt T (a.eval x)) (by simp [execOp,hop]) ?_,fun d' hd=>by cases hd; exact h7⟩
 rw [h2]
 exact h6
theorem zMl (T:Nat) (x:Operand) (d:D) (hx:OkO x d:=by first|trivial|rfl) (hd:(cellsD d).all D.cell=true:=by kernel_rfl):OpV Γ (.box T x) {tn:=tnO x d,out:=some (.pb (cellsD d))}:=by
 intro ops o hop hg
 exact zOe hg hop rfl (hx.f (fun y hy=>hy)) hd
theorem zKz {d:D} (T:Nat) (x:Operand) (cs:List D) (hx:OkO x (.pb cs):=by trivial) (hd:zBR Γ.P T cs=some d:=by kernel_rfl):OpV Γ (.load T x) {tn:=tnO x (.pb cs),out:=some d}:=by
 intro ops o hop hg
 exact zMb hg hop rfl (hx.f (fun y hy=>hy)) hd
end
end Go.Im
set_option linter.unusedVariables false
namespace Go.Im
open Go
section
variable {β:Nat→Loc} {N:Nat→Prop} {w:World}
end
section
variable {Γ:Ctx} {fc:Code} {k:List II} {σ:St} {T:Type} {K:T→Option (D×List Ent)}
end
section
variable {Γ:Ctx} {ops:Array Oper} {o:Oper}
end
end Go.Im
set_option linter.unusedVariables false
namespace Go.Im
open Go
section
variable {Γ:Ctx} {ops:Array Oper} {o:Oper}
end
end Go.Im
set_option linter.unusedVariables false
namespace Go.Im
open Go
def zPQ (n:Nat):List Nat→Bool
 |[]=>false
 |m::ms=>Nat.beq n m||zPQ n ms
def dl {α:Type} (del:List Nat) (add:List (Nat×α)):List (Nat×α)→List (Nat×α)
 |[]=>add
 |x::l=>match zPQ x.1 del with
  |true=>dl del add l
  |false=>x::dl del add l
section
variable {Γ:Ctx} {fc:Code} {k:List II} {σ:St} {T:Type} {K:T→Option (D×List Ent)}
theorem J_d {e:Option T} (p:Nat) (ids:List (Nat×Nat)) (x:List Nat) (y:List (Nat×D)) (x':List Nat) (y':List (Nat×Ent)) {orc:List (Nat×Cert)} (hor:zIa Γ fc p orc) (hj:J Γ fc (aft fc p) (St.mk' (dl x y σ.tm) (dl x' y' σ.hp)) e K)
  (h:(zPC fc σ.tm p k&&Γ.P.follows .mixedOrders,(chk Γ.P Γ.nt Γ.m fc p orc ids σ (dl x y σ.tm) (dl x' y' σ.hp)).1,(chk Γ.P Γ.nt Γ.m fc p orc ids σ (dl x y σ.tm) (dl x' y' σ.hp)).2.2.1,(chk Γ.P Γ.nt Γ.m fc p orc ids σ (dl x y σ.tm) (dl x' y' σ.hp)).2.2.2.2)=
   (true,(chk Γ.P Γ.nt Γ.m fc p orc ids σ (dl x y σ.tm) (dl x' y' σ.hp)).2.1,(chk Γ.P Γ.nt Γ.m fc p orc ids σ (dl x y σ.tm) (dl x' y' σ.hp)).2.2.2.1,true):=by kernel_rfl):J Γ fc k σ e K:=
 J_g p ids _ _ hor hj h
end
end Go.Im
set_option linter.unusedVariables false
namespace Go.Im
open Go
mutual
inductive Wk:D→D→Prop where
 |same {d:D}:Wk d d
 |ln {z n:Nat} {xs:List (List D)}:Wk (.s false z n xs) (.ln n)
 |tu {cs cs':List D}:WkL cs cs'→Wk (.tu cs) (.tu cs')
 |ag {cs cs':List D}:WkL cs cs'→Wk (.ag cs) (.ag cs')
inductive WkL:List D→List D→Prop where
 |nil:WkL [] []
 |cons {d d':D} {ds ds':List D}:Wk d d'→WkL ds ds'→WkL (d::ds) (d'::ds')
end
section
variable {β:Nat→Loc} {N:Nat→Prop} {w:World}
mutual
theorem Wk.rep:∀{d d':D} {v:Value} {bs:List Nat},Wk d d'→Rep β N w true d v bs→Rep β N w true d' v bs
 |_,_,_,_,.same,h=>h
 |_,_,v,bs,.ln (z:=z) (n:=n) (xs:=xs),h=>by
  have e:=Rep.free (d:=.s false z n xs) rfl h
  subst e
  simp only [Rep] at h ⊢
  obtain ⟨_,_,a,cap,h1,h2,_⟩:=h
  exact ⟨trivial,a,cap,h1,h2⟩
 |_,_,v,bs,.tu hl,h=>by
  simp only [Rep] at h ⊢
  obtain ⟨h1,ws,h2,h3⟩:=h
  exact ⟨trivial,ws,h2,WkL.rep hl h3⟩
 |_,_,v,bs,.ag hl,h=>by
  simp only [Rep] at h ⊢
  obtain ⟨h1,ws,h2,h4,h3⟩:=h
  exact ⟨trivial,ws,h2,h4,WkL.rep hl h3⟩
theorem WkL.rep:∀{ds ds':List D} {vs:List Value} {bs:List Nat},WkL ds ds'→zI β N w true ds vs bs→zI β N w true ds' vs bs
 |_,_,_,_,.nil,h=>h
 |_,_,vs,bs,.cons h1 h2,h=>by
  simp only [zI] at h ⊢
  obtain ⟨v,vs',b1,b2,h3,h4,h5,h6⟩:=h
  exact ⟨v,vs',b1,b2,h3,h4,Wk.rep h1 h5,WkL.rep h2 h6⟩
end
end
section
variable {Γ:Ctx} {ops:Array Oper} {o:Oper}
end
end Go.Im
set_option linter.unusedVariables false
namespace Go.Im
open Go
section
variable {Γ:Ctx} {ops:Array Oper} {o:Oper}
end
end Go.Im
set_option linter.unusedVariables false
namespace Go.Im
open Go
theorem zMT {P:Program} {f:FuncId} {xs:List ByteArray}
  (h:∀(blk off cap:Nat) (w:World),Sort.Holds Go.Proofs.encStr w blk off (xs.map (·.data.toList)).toArray →blk<w.heap.size→Calls P f #[.slice (some ⟨blk,off,none⟩) xs.length cap] w fun e w'=>e= .returned (.tuple #[])∧∃n os,w'=Sort.grow (Sort.putRow Go.Proofs.encStr (Sort.ahead w n) blk off ((xs.map (·.data.toList)).mergeSort fun x y=>decide (x≤y)).toArray) os)
  (h0:∀(p:Option Addr) (cap:Nat) (w:World),Calls P f #[.slice p 0 cap] w fun e w'=>e= .returned (.tuple #[])∧w'=w):
  Ok P f [.rf 0 0 xs.length none] [.row 1 (xs.map eStr)] (some (.tu [],[.row 1 ((((xs.map (·.data.toList)).mergeSort fun x y=>decide (x≤y)).map fun l=>(⟨l.toArray⟩:ByteArray)).map eStr)])):=by
 have k:=zLH (P:=P) (f:=f) (enc:=Go.Proofs.encStr) (xs:=xs.map (·.data.toList)) (ys:=(xs.map (·.data.toList)).mergeSort fun x y=>decide (x≤y)) (by simp [List.length_mergeSort])
  (fun blk off cap w hH hb=>by rw [List.length_map]; exact h blk off cap w hH hb) (fun _ p cap w=>h0 p cap w)
 have e1:(xs.map (·.data.toList)).map (fun a=>[D.sc (Go.Proofs.encStr a)])=xs.map eStr:=by
  rw [List.map_map]
  apply List.map_congr_left
  intro a _
  simp [eStr,Go.Proofs.encStr]
 have e2:∀l:List (List UInt8),l.map (fun a=>[D.sc (Go.Proofs.encStr a)])=(l.map fun l=>(⟨l.toArray⟩:ByteArray)).map eStr:=fun l=>by
  rw [List.map_map]
  apply List.map_congr_left
  intro a _
  simp [eStr,Go.Proofs.encStr]
 rw [e1,e2,List.length_map] at k
 exact k
end Go.Im
set_option linter.unusedVariables false
namespace Go.Im
open Go
end Go.Im
set_option linter.unusedVariables false
namespace Go.Im
open Go
end Go.Im
set_option linter.unusedVariables false
namespace Go.Im
open Go
section
variable {Γ:Ctx} {ops:Array Oper} {o:Oper}
end
end Go.Im
set_option linter.unusedVariables false
namespace Go.Im
open Go
theorem FzT.all {t z:Nat} {xs:List (List D)}:∀{l:List (Nat×D)},(∀x∈l,x.2.men.contains t=false)→FzT t z xs l l
 |[],_=>.nil
 |(q,d)::l,h=>.cons (.keep (h (q,d) (by simp))) (FzT.all fun x hx=>h x (by simp [hx]))
theorem FzH.all {t z:Nat} {xs:List (List D)}:∀{l:List (Nat×Ent)},(∀x∈l,x.2.men.contains t=false)→FzH t z xs l l
 |[],_=>.nil
 |(q,e)::l,h=>.keep (h (q,e) (by simp)) (FzH.all fun x hx=>h x (by simp [hx]))
theorem Rel.frz {Γ:Ctx} {a:Act} {w:World} {t z:Nat} {xs:List (List D)} {tm1 tm2:List (Nat×D)} {hp1 hp2:List (Nat×Ent)} {us us2:List Nat} (htm:FzT t z xs tm1 tm2) (hhp:FzH t z xs hp1 hp2)
  (hu:∀q,q∈zHf tm2∨q∈zFB hp2→q∈us2) (hr:Rel Γ ⟨tm1,(t,.row z xs)::hp1,us⟩ a w):Rel Γ ⟨tm2,hp2,us2⟩ a w:=by
 obtain ⟨h0,β,bs,h⟩:=hr
 obtain ⟨b1,bk,rfl,hE,hrest⟩:=h.hp
 have hp:((β t).own ++(b1++bk)).Perm (((β t).own ++b1)++bk):=by rw [List.append_assoc]
 have hnd:=hp.nodup_iff.1 h.nodup
 have hN:∀b,NS Γ w ((β t).own ++(b1++bk)) b→NS Γ w bk b:=fun b hb=>NS.sub (fun x hx=>by simp [hx]) hb
 have hb:∀b∈(β t).own ++b1,NS Γ w bk b:=fun b hb=>by
  have:=h.own b (hp.mem_iff.2 (List.mem_append_left _ hb))
  refine ⟨?_,this.1,fun hbk=>(List.nodup_append.1 hnd).2.2 b hb b hbk rfl⟩
  rcases this.2 with h1|h1
  ·exact .inr (.inl h1)
  ·exact .inr (.inr h1)
 refine ⟨hu,β,bk,{defers:=h.defers,size:=h.size,keys:=?_,par:=h.par,grow:=h.grow,gh:=h.gh,quiet:=h.quiet,keep:=h.keep,hp:=hhp.rep hN hE hb hrest,nodup:=(List.nodup_append.1 hnd).2.1,own:=fun b hb=>h.own b (hp.mem_iff.2 (List.mem_append_right _ hb)),tm:=?_}⟩
 ·have hk:=h.keys
  simp only [List.map_cons,List.nodup_cons] at hk
  rw [hhp.keys]
  exact hk.2
 ·intro q d' hd
  obtain ⟨d,h1,h2⟩:=htm.mem hd
  obtain ⟨v,h3,h4⟩:=h.tm q d h1
  exact ⟨v,h3,Fz.rep hN hE hb h2 h4⟩
theorem zP0 {Γ:Ctx} {op:Op} {tn:List (Nat×D)} {hn:List (Nat×Ent)} {d1 d2:D} {t z:Nat} {xs:List (List D)} (hv:OpV Γ op {tn:=tn,hn:=hn,out:=some d1,hw:=[(t,.row z xs)],fr:=[t]}) (hf:Fz t z xs d1 d2) (hm:d2.men=[]:=by rfl):
  OpV Γ op {tn:=tn,hn:=hn,out:=some d2,fr:=[t]}:=by
 intro ops o hop hg σ a w Q hdst hn' hr
 have hus:=hr.1
 have hfr:t∉σ.us:=hn'.2.2 t (by simp)
 have h:=hv ops o hop hg σ a w Q hdst ⟨hn'.1,hn'.2.1,hn'.2.2⟩ hr
 have hwt:Region.wanted o (yielded ops a.tmps)=true:=by simp [Region.wanted,hg]
 rw [if_pos hwt] at h ⊢
 refine Oper.wp_mono (fun a' w' hrel=>?_) h
 obtain ⟨dd,hdd⟩:∃dd,o.dst=dd:=⟨_,rfl⟩
 rw [hdd] at hrel
 rw [hdd]
 have key:FzT t z xs ((({tn:=tn,hn:=hn,out:=some d1,hw:=[(t,.row z xs)],fr:=[t]}:Cert).outs dd)++σ.tm.filter (fun x=>dd !=some x.1)) ((({tn:=tn,hn:=hn,out:=some d2,fr:=[t]}:Cert).outs dd)++σ.tm.filter (fun x=>dd !=some x.1)):=by
  have hrest:FzT t z xs (σ.tm.filter (fun x=>dd !=some x.1)) (σ.tm.filter (fun x=>dd !=some x.1)):=FzT.all fun x hx=>by
   have:t∉x.2.men:=fun h=>hfr (hus t (.inl (List.mem_flatMap.2 ⟨x,(List.mem_filter.1 hx).1,h⟩)))
   simpa using this
  cases dd with
  |none=>exact hrest
  |some q=>exact .cons hf hrest
 refine Rel.frz key (FzH.all fun x hx=>?_) (fun q hq=>?_) hrel
 ·have:t∉x.2.men:=fun h=>hfr (hus t (.inr (List.mem_flatMap.2 ⟨x,(List.mem_filter.1 hx).1,by simp [h]⟩)))
  simpa using this
 ·refine List.mem_append_right _ ?_
  rcases hq with hq|hq
  ·obtain ⟨x,hx,hx'⟩:=List.mem_flatMap.1 hq
   rcases List.mem_append.1 hx with hx|hx
   ·unfold Cert.outs at hx
    cases dd with
    |none=>simp at hx
    |some q'=>
     simp only [List.mem_singleton] at hx
     subst hx
     simp only [hm] at hx'
     cases hx'
   ·exact hus q (.inl (List.mem_flatMap.2 ⟨x,(List.mem_filter.1 hx).1,hx'⟩))
  ·obtain ⟨x,hx,hx'⟩:=List.mem_flatMap.1 hq
   exact hus q (.inr (List.mem_flatMap.2 ⟨x,(List.mem_filter.1 hx).1,hx'⟩))
theorem zMJ {α:Type} {xs:List α} {ix:Int} {x:α} (h:idx xs ix=some x):xs.set ix.toNat x=xs:=by
 unfold idx at h
 split at h
 ·obtain ⟨h1,h2⟩:=List.getElem?_eq_some_iff.1 h
  subst h2
  exact List.set_getElem_self h1
 ·cases h
end Go.Im
set_option linter.unusedVariables false
namespace Go.Im
open Go
def zOt (k:IntKind) (a b:Int):Option Int:=if b<0 then none else some (a.fdiv (2^(min b.toNat k.bits)))
def zOq (k:IntKind) (a b:Int):Option Int:=if b<0 then none else some (k.wrap (a*2^(min b.toNat k.bits)))
def zNW (k:IntKind) (a b:Int):Int:=k.wrap ((BitVec.ofInt k.bits a&&& BitVec.ofInt k.bits b).toNat :Int)
section
variable {Γ:Ctx} {ops:Array Oper} {o:Oper}
theorem zNF {op:BinOp} {k k2:IntKind} {a b r:Int} (T U:Nat) (x y:Operand) (hne:op≠ .eql ∧op≠ .neq) (h:∀w,(binOp op T (.int k a) (.int k2 b)).run Γ.P w= .ok (.int k r) w)
  (hx:OkO x (.sc (.int k a))) (hy:OkO y (.sc (.int k2 b))):
  OpV Γ (.binOp op T x y U) {tn:=tnO x (.sc (.int k a))++tnO y (.sc (.int k2 b)),out:=some (.sc (.int k r))}:=by
 intro ops o hop hg
 refine jE (d:=.sc (.int k r)) (f:=fun ρ=>do eqGuard op T x y (ρ x) (ρ y); binOp op T (ρ x) (ρ y)) hg (fun ρ=>by simp [execOp,hop]) rfl fun β bs σ a' w hn hr=>?_
 have h1:=OpF.rep (hx.f (fun y hy=>List.mem_append_left _ hy)) hn hr
 have h2:=OpF.rep (hy.f (fun y hy=>List.mem_append_right _ hy)) hn hr
 simp only [Rep] at h1 h2
 refine ⟨_,?_,by simp only [Rep]; exact ⟨rfl,trivial⟩⟩
 rw [h1.1,h2.1]
 have e:(eqGuard op T x y (.int k a) (.int k2 b)).run Γ.P w= .ok () w:=by
  obtain ⟨n1,n2⟩:=hne
  cases op<;>first|rfl|exact absurd rfl n1|exact absurd rfl n2
 rw [run_bind_ok e]
 exact h w
theorem zOw {k k2:IntKind} {a b r:Int} (T U:Nat) (x y:Operand) (h:zOt k a b=some r) (hx:OkO x (.sc (.int k a)):=by first|trivial|rfl) (hy:OkO y (.sc (.int k2 b)):=by first|trivial|rfl):
  OpV Γ (.binOp .shr T x y U) {tn:=tnO x (.sc (.int k a))++tnO y (.sc (.int k2 b)),out:=some (.sc (.int k r))}:=by
 refine zNF T U x y (by decide) (fun w=>?_) hx hy
 unfold zOt at h
 split at h
 ·cases h
 ·cases h
  unfold binOp
  simp only [Op.shift]
  rw [if_neg (by assumption)]
  rfl
theorem zOK {k k2:IntKind} {a b r:Int} (T U:Nat) (x y:Operand) (h:zOq k a b=some r) (hx:OkO x (.sc (.int k a)):=by first|trivial|rfl) (hy:OkO y (.sc (.int k2 b)):=by first|trivial|rfl):
  OpV Γ (.binOp .shl T x y U) {tn:=tnO x (.sc (.int k a))++tnO y (.sc (.int k2 b)),out:=some (.sc (.int k r))}:=by
 refine zNF T U x y (by decide) (fun w=>?_) hx hy
 unfold zOq at h
 split at h
 ·cases h
 ·cases h
  unfold binOp
  simp only [Op.shift]
  rw [if_neg (by assumption)]
  rfl
theorem zOJ {k:IntKind} {a b:Int} (T U:Nat) (x y:Operand) (hx:OkO x (.sc (.int k a)):=by first|trivial|rfl) (hy:OkO y (.sc (.int k b)):=by first|trivial|rfl):
  OpV Γ (.binOp .and T x y U) {tn:=tnO x (.sc (.int k a))++tnO y (.sc (.int k b)),out:=some (.sc (.int k (zNW k a b)))}:=by
 refine zNF T U x y (by decide) (fun w=>?_) hx hy
 unfold binOp
 simp only [ne_eq,not_true_eq_false,if_false,Op.intBits]
 rfl
end
end Go.Im

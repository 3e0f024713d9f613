import Derived.Test.YtobkkecdnlecgaaGreatDoorImE
import Derived.Laws.StructEq
import Derived.Sort.Row
import Derived.Sort.Grow
import Derived.Lib.LaidTab
import Derived.Lib.ItoaNum
import Derived.Deep.Draws
import Derived.LaidSub
import Derived.Below
import Derived.Lib.Split
import Derived.Lib.Join
import Derived.Lib.Repeat
import Derived.Handed
import Derived.Shelf.Vars
import Derived.Lib.SplitLaws
import Derived.Lib.ConvBytes
import Derived.Sort.EncStr
import Derived.Laws.IdiomCopy
set_option linter.unusedVariables false
namespace Go.Im
open Go
section
variable {Γ:Ctx} {ops:Array Oper} {o:Oper}
theorem zKq {c:Cert} {x:Operand} {T el:TypeId} {lo hi:Option Operand} {z n l h t:Nat} {xs:List (List D)} (hg:o.guard=none) (hop:o.op= .slice T x lo hi none)
  (hc:c= {tn:=c.tn,hn:=c.hn,out:=some (.sub t l (h-l))}) (hx:OpF c x (.rf t 0 n none)) (hT:zX Γ.P (underlying T)=some (.slice el)) (hz:zEO Γ.P el=some z)
  (hl:zJf c lo 0 l) (hh:zJf c hi n h) (h1:l≤h) (h2:h≤n) (hh':(t,.row z xs)∈c.hn):Valid Γ ops o c:=by
 refine uQ (d:=.sub t l (h-l)) (f:=fun ρ=>Instr.sliceAt T (ρ x) (lo.map ρ) (hi.map ρ) none) hg (fun ρ=>by simp [execOp,hop]) (by rw [hc]) fun β bs σ a w hn hr=>?_
 have h3:=OpF.rep hx hn hr
 obtain ⟨_,⟨hLz,_⟩,_⟩:=vJ.get hr.hp (hn.2.1 _ hh')
 simp only [Rep] at h3
 obtain ⟨_,_,⟨_,_,rfl,hv⟩|⟨hnil,cp,hv,hcap,hroom,_⟩⟩:=h3
 ·rw [hv]
  refine ⟨_,zDx hn hr hT hz hl hh h1 (by omega),?_⟩
  simp only [Rep]
  exact ⟨trivial,trivial,_,_,rfl,by omega,.inl (by omega)⟩
 ·rw [hv]
  refine ⟨_,zDx hn hr hT hz hl hh h1 (by omega),?_⟩
  simp only [Rep]
  refine ⟨trivial,trivial,_,_,rfl,by omega,?_⟩
  by_cases h0:h-l=0
  ·exact .inl h0
  ·refine .inr ⟨hnil,?_,?_⟩
   ·rw [if_neg (by omega)]
    simp [zCY,hLz]
   ·refine Nat.le_trans (Nat.mul_le_mul_right _ ?_) hroom
    omega
theorem zMF {c:Cert} {x:Operand} {T el:TypeId} {n t off:Nat} (hg:o.guard=none)
  (hop:o.op= .call {callee:=.builtin .len,args:= #[x],argTypes:= #[T]}) (hc:c= {tn:=c.tn,out:=some (.sc (.int .i64 n))})
  (hx:OpF c x (.sub t off n)) (hT:zX Γ.P (underlying T)=some (.slice el)):Valid Γ ops o c:=by
 rw [hc]
 refine vK hg rfl rfl fun β bs σ a w hn hr=>?_
 have h1:=OpF.rep (c:=c) hx ⟨hn.1,by rw [hc]; simp,by rw [hc]; simp⟩ hr
 simp only [Rep] at h1
 obtain ⟨_,_,ad,cp,hv,_⟩:=h1
 refine ⟨.int .i64 n,?_,fun d hd=>by cases hd; simp [Rep]⟩
 rw [zCf hop]
 simp only [builtin,List.map_toArray,List.map_cons,List.map_nil]
 rw [hv]
 refine run_bind_ok (a:=Value.int .i64 n) (w':=w) ?_
 unfold Builtin.len_
 simp only [List.getElem?_toArray,List.getElem?_cons_zero]
 rw [run_bind_ok (zL _ _ w hT)]
 rfl
theorem zKR {c:Cert} {x y:Operand} {T el:TypeId} {k:IntKind} {z n t off j:Nat} {i:Int} {xs:List (List D)} (hg:o.guard=none) (hop:o.op= .indexAddr T x y)
  (hc:c= {tn:=c.tn,hn:=c.hn,out:=some (.pt t j 0)}) (hx:OpF c x (.sub t off n)) (hy:OpF c y (.sc (.int k i))) (hT:zX Γ.P (underlying T)=some (.slice el)) (hz:zEO Γ.P el=some z)
  (hi:0≤i) (hj:i<n) (hjj:off+i.toNat=j) (hh:(t,.row z xs)∈c.hn):Valid Γ ops o c:=by
 refine uQ (d:=.pt t j 0) (f:=fun ρ=>Instr.indexAt T (ρ x) (ρ y)) hg (fun ρ=>by simp [execOp,hop]) (by rw [hc]) fun β bs σ a w hn hr=>?_
 have h1:=OpF.rep hx hn hr
 have h2:=OpF.rep hy hn hr
 obtain ⟨_,⟨hLz,_⟩,_⟩:=vJ.get hr.hp (hn.2.1 _ hh)
 simp only [Rep] at h1 h2
 obtain ⟨_,_,ad,cp,hv,hcap,h3|⟨hnil,had,hroom⟩⟩:=h1
 ·omega
 ·refine ⟨.pointer (some ⟨(β t).b,(β t).o +j*(β t).z +0,none⟩),?_,by simp only [Rep]; exact ⟨trivial,trivial,hnil,trivial⟩⟩
  rw [h2.1,hv,had]
  unfold Instr.indexAt
  rw [run_bind_ok (a:=(k,i)) (w':=w) rfl]
  simp only
  rw [run_bind_ok (zL _ _ w hT)]
  simp only
  rw [run_bind_ok (a:=(some (⟨(β t).b,(β t).o +off*(β t).z,none⟩:Addr),n,el)) (w':=w) rfl]
  rw [run_bind_ok (zL _ _ w hT)]
  simp only
  rw [if_pos ⟨hi,hj⟩]
  rw [run_bind_ok (zL _ _ w hz)]
  rw [zCY,hLz,←hjj,Nat.add_mul,Nat.add_assoc]
  rfl
theorem Rel.over {β:Nat→Loc} {bs:List Nat} {σ:St} {a:Act} {w:World} {c:Cert} {t z l:Nat} {xs ys:List (List D)} {vs:List Value} {v:Value} (h0:∀t,t∈zHR σ.tm∨t∈zER σ.hp→t∈σ.us) (hr:RelB Γ β bs σ a w)
  {dst:Option Nat} (hd:∀t,dst=some t→t<Γ.nt) (hhx:c.hx=[t]) (hhw:c.hw=[(t,.row z (xs.take l++ys++xs.drop (l+ys.length)))]) (hm:(t,.row z xs)∈σ.hp) (hnil:(β t).nil =false)
  (hl:l+ys.length≤xs.length) (hyz:∀y∈ys,y.length=z) (hE2:∀N w',zS β N w' ys vs []) (ho:∀d,c.out=some d→∀N w',Rep β N w' true d v []):
  Rel Γ (σ.upd dst c) (a.put dst v) (putCells w (β t).b ((β t).o +l*z) vs):=by
 obtain ⟨b1,b2,hp,⟨hLz,hzz,hrow⟩,hrest⟩:=vJ.take hr.hp hr.keys hm
 rcases hrow with ⟨hnil',_⟩|⟨_,ws,hO,hE⟩
 ·rw [hnil] at hnil'; cases hnil'
 have hown:(β t).own =[(β t).b]:=by simp [Loc.own,hnil]
 rw [hown] at hp
 have hws:=hE.length hzz
 have hvl:=(hE2 (fun _=>True) w).length hyz
 have hfilt:σ.hp.filter (fun x=> !c.hx.contains x.1)=σ.hp.filter (fun x=>x.1 !=t):=by
  rw [hhx]; congr 1; funext x; by_cases hx:x.1=t<;>simp [hx]
 obtain ⟨d1,d2,e1,hs1,hs2⟩:=hE.cut l hzz
 obtain ⟨d3,d4,e2,hs3,hs4⟩:=hs2.cut ys.length (fun y hy=>hzz y (List.mem_of_mem_drop hy))
 have hheap:(∀b',b'≠(β t).b →(putCells w (β t).b ((β t).o +l*z) vs).heap[b']? =w.heap[b']?)∧(putCells w (β t).b ((β t).o +l*z) vs).heap.size =w.heap.size:=by
  obtain ⟨arr,e,lo,hi,g1,g2,g3,g4⟩:=hO
  exact (wL g1).2
 have hp2:bs.Perm (((β t).b ::b1)++b2):=by simpa using hp
 have hnd:=hp2.nodup_iff.1 hr.nodup
 have hsub:∀b∈d1++d4,b∈b1:=fun b hb=>by
  rw [e1,e2]
  rcases List.mem_append.1 hb with h|h<;>simp [h]
 have hndn:((β t).b ::(d1++d4)).Nodup :=by
  have q:=(List.nodup_append.1 hnd).1
  rw [e1,e2] at q
  refine List.Nodup.sublist ?_ q
  refine List.Sublist.cons_cons _ ?_
  exact List.Sublist.append_left (List.sublist_append_right _ _) _
 have hbin:∀b∈d1++d4,b≠(β t).b :=fun b hb e=>(List.nodup_cons.1 hndn).1 (e▸hb)
 have hmz:(l+ys.length)*z≤ws.length:=by rw [hws]; exact Nat.mul_le_mul_right _ hl
 have hNS:∀b,NS Γ w bs b→NS Γ (putCells w (β t).b ((β t).o +l*z) vs) ((β t).b ::(d1++d4)++b2) b∧(putCells w (β t).b ((β t).o +l*z) vs).heap[b]? =w.heap[b]? :=by
  rintro b ⟨u1,u2,u3⟩
  have hb1:b≠(β t).b :=fun e=>u3 (hp2.mem_iff.2 (by simp [e]))
  refine ⟨⟨u1,by rw [hheap.2]; exact u2,fun hb=>u3 (hp2.mem_iff.2 ?_)⟩,hheap.1 b hb1⟩
  rcases List.mem_append.1 hb with hb|hb
  ·rcases List.mem_cons.1 hb with hb|hb
   ·exact List.mem_append_left _ (by simp [hb])
   ·exact List.mem_append_left _ (List.mem_cons_of_mem _ (hsub b hb))
  ·exact List.mem_append_right _ hb
 refine Rel.step (β1:=β) (bk:=b2) (br:=(β t).b ::b1) (bn:=(β t).b ::(d1++d4)) h0 hr hd (by rw [hhw]; simp) (by rw [hhw,hhx]; simp) hp2 (by rw [hfilt]; exact hrest) (by rw [hheap.2]; exact Nat.le_refl _)
  (fun b _ hb=>hheap.1 b (fun e=>hb (by simp [e]))) (fun _ _=>rfl) (fun _ _=>rfl) hndn ?_ ?_ (fun d hd=>ho d hd _ _) (kL _ _ _ _)
 ·intro b hb
  rw [hheap.2]
  have:b∈(β t).b ::b1:=by
   rcases List.mem_cons.1 hb with rfl|hb
   ·simp
   ·exact List.mem_cons_of_mem _ (hsub b hb)
  exact ⟨.inl this,(hr.own b (hp2.mem_iff.2 (List.mem_append_left _ this))).1⟩
 ·rw [hhw]
  refine ⟨d1++d4,[],by rw [hown]; simp,⟨hLz,?_,.inr ⟨hnil,ws.take (l*z)++vs++ws.drop (l*z+vs.length),?_,?_⟩⟩,rfl⟩
  ·intro q hq
   simp only [List.mem_append] at hq
   rcases hq with (hq|hq)|hq
   ·exact hzz q (List.mem_of_mem_take hq)
   ·exact hyz q hq
   ·exact hzz q (List.mem_of_mem_drop hq)
  ·obtain ⟨arr,e',lo,hi,g1,g2,g3,g4⟩:=hO
   have hle:(β t).o +ws.length≤arr.size:=by
    rcases Nat.eq_zero_or_pos ws.length with e0|e0
    ·omega
    ·have:=g4 (ws.length-1) (by omega)
     have:=(Array.getElem?_eq_some_iff.1 this).1
     omega
   obtain ⟨arr',e'',lo',hi',u1,u2,u3,u4⟩:=zK5 (r:=ws.length) (vs:=vs) (j:=l*z) ⟨arr,e',lo,hi,g1,g2,hle,g4⟩ (by rw [hvl,←Nat.add_mul]; exact hmz) (Nat.le_refl _)
   refine ⟨arr',e'',lo',hi',u1,u2,?_,u4⟩
   have:=(wL (off:=(β t).o +l*z) (vs:=vs) g1).1
   rw [this] at u1
   cases u1
   rw [uL]
   exact g3
  ·have m1:=zS.frame (β':=β) hNS _ _ _ (fun b hb=>hheap.1 b (hbin b (by simp [hb]))) hs1
   have m3:=zS.frame (β':=β) hNS _ _ _ (fun b hb=>hheap.1 b (hbin b (by simp [hb]))) hs4
   have key:=(m1.append (hE2 _ _)).append m3
   rw [List.append_nil] at key
   have ex:(xs.drop l).drop ys.length=xs.drop (l+ys.length):=by rw [List.drop_drop]
   have ew:(ws.drop (l*z)).drop (ys.length*z)=ws.drop (l*z+vs.length):=by rw [List.drop_drop,hvl]
   rw [ex,ew] at key
   exact key
theorem Rel.noop {σ:St} {a:Act} {w:World} {c:Cert} {t:Nat} {e:Ent} (h:Rel Γ σ a w) (hm:(t,e)∈σ.hp) (hhx:c.hx=[t]) (hhw:c.hw=[(t,e)]):Rel Γ (σ.upd none c) a w:=by
 have h0:=h.1
 obtain ⟨_,β,bs,hr⟩:=h
 have ho:c.outs none=[]:=rfl
 refine Rel.weak ⟨h0,β,bs,hr⟩ (fun y hy=>?_) (fun y hy=>?_) ?_ ?_
 ·simp only [St.upd,ho,List.nil_append,List.mem_filter] at hy
  exact hy.1
 ·simp only [St.upd,hhw,List.mem_append,List.mem_singleton,List.mem_filter] at hy
  rcases hy with rfl|hy
  ·exact hm
  ·exact hy.1
 ·simp only [St.upd,hhw,hhx,List.map_append,List.map_cons,List.map_nil]
  refine List.nodup_append.2 ⟨by simp,List.Nodup.sublist (List.Sublist.map _ List.filter_sublist) hr.keys,?_⟩
  intro q hq q' hq' e'
  subst e'
  obtain ⟨x,hx,rfl⟩:=List.mem_map.1 hq'
  have:=(List.mem_filter.1 hx).2
  simp at hq this
  exact this hq
 ·intro q hq
  simp only [St.upd,List.mem_append]
  refine .inr (h0 q ?_)
  rcases hq with hq|hq
  ·obtain ⟨x,hx,hx'⟩:=List.mem_flatMap.1 hq
   simp only [St.upd,ho,List.nil_append,List.mem_filter] at hx
   exact .inl (List.mem_flatMap.2 ⟨x,hx.1,hx'⟩)
  ·obtain ⟨x,hx,hx'⟩:=List.mem_flatMap.1 hq
   simp only [St.upd,hhw,List.mem_append,List.mem_singleton,List.mem_filter] at hx
   rcases hx with rfl|hx
   ·exact .inr (List.mem_flatMap.2 ⟨_,hm,hx'⟩)
   ·exact .inr (List.mem_flatMap.2 ⟨x,hx.1,hx'⟩)
theorem zHA (zc:Array Value) (n:Nat):Builtin.zeroCells zc n=madeCells zc (n*zc.size):=rfl
theorem zKH {c:Cert} {x:Operand} {T el:TypeId} {z n l t:Nat} {zv:Value} {e:List D} {xs:List (List D)} (hg:o.guard=none) (hds:o.dst=none) (hop:o.op= .call {callee:=.builtin .clear,args:= #[x],argTypes:= #[T]})
  (hc:c= {tn:=c.tn,hn:=c.hn,hx:=[t],hw:=[(t,.row z (xs.take l++List.replicate n e++xs.drop (l+n)))]}) (hx:OpF c x (.sub t l n)) (hT:Γ.P.underlying T=some (.slice el)) (hzv:zX Γ.P (zeroValue el)=some zv) (hzs:zv.cells.size=z)
  (hone:zv.cells.toList.all Value.oneCell=true) (he:Emb [] (zv.cells.toList.map D.sc) e []) (hel:e.length=z) (hl:l+n≤xs.length) (hh':(t,.row z xs)∈c.hn):Valid Γ ops o c:=by
 intro σ a w Q hdst hn ⟨h0,β,bs,hr⟩
 have hwt:Region.wanted o (yielded ops a.tmps)=true:=by simp [Region.wanted,hg]
 rw [if_pos hwt]
 have h1:=OpF.rep hx hn hr
 simp only [Rep] at h1
 obtain ⟨_,_,ad,cp,hv,hcap,h3⟩:=h1
 have hdst0:∀v,a.put o.dst v=a:=fun v=>by rw [hds]; rfl
 by_cases hn0:n=0
 ·subst hn0
  have hrun:(execOp a.eval o).run Γ.P w= .ok (.value (.tuple #[])) w:=by
   rw [zCf hop]
   simp only [builtin,List.map_toArray,List.map_cons,List.map_nil]
   rw [hv]
   refine run_bind_ok (a:=Value.tuple #[]) (w':=w) ?_
   unfold Builtin.clear_
   simp only [List.getElem?_toArray,List.getElem?_cons_zero]
   rw [run_bind_ok (run_underlying hT w)]
   cases ad<;>rfl
  unfold Oper.wp
  rw [hrun,Oper.upon_value,hdst0,hds]
  exact Rel.noop (t:=t) (e:=.row z xs) ⟨h0,β,bs,hr⟩ (hn.2.1 _ hh') (by rw [hc]) (by rw [hc]; simp)
 ·rcases h3 with h3|⟨hnil,had,hroom⟩
  ·exact absurd h3 hn0
  obtain ⟨b1,b2,hp,⟨hLz,hzz,hrow⟩,hrest⟩:=vJ.take hr.hp hr.keys (hn.2.1 _ hh')
  rcases hrow with ⟨hnil',_⟩|⟨_,ws,hO,hE⟩
  ·rw [hnil] at hnil'; cases hnil'
  have hws:=hE.length hzz
  have hcl:(madeCells zv.cells (n*zv.cells.size)).toList.length =n*z:=by rw [Array.length_toList,size_madeCells,hzs]
  have hEn:∀N w',zS β N w' (List.replicate n e) (madeCells zv.cells (n*zv.cells.size)).toList []:=fun N w'=>zGn he n
  have h1c:∀x∈(madeCells zv.cells (n*zv.cells.size)).toList,Value.oneCell x=true:=by
   intro x hx
   simp only [madeCells,Array.toList_map,List.mem_map] at hx
   obtain ⟨i,hi,rfl⟩:=hx
   have hi':i<n*zv.cells.size:=by simpa using hi
   have hpos:0<zv.cells.size:=by
    rcases Nat.eq_zero_or_pos zv.cells.size with h|h
    ·rw [h] at hi'; simp at hi'
    ·exact h
   rw [getElem!_pos zv.cells _ (Nat.mod_lt _ hpos)]
   exact List.all_eq_true.1 hone _ (by simp)
  have hrun:(execOp a.eval o).run Γ.P w= .ok (.value (.tuple #[])) (putCells w (β t).b ((β t).o +l*z) (madeCells zv.cells (n*zv.cells.size)).toList):=by
   rw [zCf hop]
   simp only [builtin,List.map_toArray,List.map_cons,List.map_nil]
   rw [hv,had]
   refine run_bind_ok (a:=Value.tuple #[]) (w':=putCells w (β t).b ((β t).o +l*z) (madeCells zv.cells (n*zv.cells.size)).toList) ?_
   unfold Builtin.clear_
   simp only [List.getElem?_toArray,List.getElem?_cons_zero]
   rw [run_bind_ok (run_underlying hT w)]
   obtain ⟨m,rfl⟩:∃m,n=m+1:=⟨n-1,by omega⟩
   simp only
   obtain ⟨arr,e',lo,hi,g1,g2,g3,g4⟩:=hO
   have hle:(β t).o +ws.length≤arr.size:=by
    rcases Nat.eq_zero_or_pos ws.length with e0|e0
    ·have:(l+(m+1))*z≤ws.length:=by rw [hws]; exact Nat.mul_le_mul_right _ hl
     have g5:(β t).o +(β t).r ≤arr.size:=g3
     omega
    ·have:=g4 (ws.length-1) (by omega)
     have:=(Array.getElem?_eq_some_iff.1 this).1
     omega
   have hmz:(l+(m+1))*z≤ws.length:=by rw [hws]; exact Nat.mul_le_mul_right _ hl
   have hst:=zFv (P:=Γ.P) (off:=(β t).o +l*z) (madeCells zv.cells ((m+1)*zv.cells.size)).toList 0 w arr g1 (fun k hk=>g2 k (Nat.le_of_lt hk)) (by rw [hcl]; rw [Nat.add_mul] at hmz; omega) h1c
   rw [run_bind_ok (zL _ _ w hzv),zHA,hLz]
   refine (run_bind_ok (a:=()) (w':=putCells w (β t).b ((β t).o +l*z) (madeCells zv.cells ((m+1)*zv.cells.size)).toList) ?_).trans rfl
   simpa using hst
  unfold Oper.wp
  rw [hrun,Oper.upon_value]
  refine Rel.over (l:=l) (ys:=List.replicate n e) h0 hr hdst (by rw [hc]) (by rw [hc]; simp) (hn.2.1 _ hh') hnil (by simpa using hl) (fun y hy=>by rw [List.eq_of_mem_replicate hy]; exact hel) hEn (fun d hd=>?_)
  rw [hc] at hd
  cases hd
end
end Go.Im
set_option linter.unusedVariables false
namespace Go.Im
open Go
def ovr {α:Type} (xs:List α) (i:Nat) (ys:List α):List α:=xs.take i++ys++xs.drop (i+ys.length)
theorem zGk {α:Type} {xs r:List α} {l h:Int} (hh:zEH xs l h=some r):0≤l∧l≤h∧h≤xs.length∧r=(xs.drop l.toNat).take (h.toNat-l.toNat)∧r.length=h.toNat-l.toNat:=by
 unfold zEH at hh
 split at hh
 ·rename_i q
  cases hh
  exact ⟨q.1,q.2.1,q.2.2,rfl,by simp; omega⟩
 ·cases hh
def zIX {α:Type} (xs:List α) (l:Int) (n:Nat) (i:Int):Option α:=if 0≤l∧0≤i∧i<n then idx xs (l+i) else none
def zNw {α:Type} (xs:List α) (l:Int) (n:Nat) (a:α):Option (List α):=if 0≤l∧l.toNat+n≤xs.length then some (ovr xs l.toNat (List.replicate n a)) else none
theorem zIQ {α:Type} {xs ys:List α} {l:Int} {n:Nat} {a:α} (h:zNw xs l n a=some ys):xs.length=ys.length:=by
 unfold zNw at h
 split at h
 ·cases h
  simp [ovr]
  omega
 ·cases h
theorem zFj {α:Type} {xs:List α} {l i:Int} {n:Nat} {a:α} (h:zIX xs l n i=some a):idx xs (l+i)=some a:=by
 unfold zIX at h
 split at h
 ·exact h
 ·cases h
section
variable {Γ:Ctx}
theorem zII {α:Type} {xs r:List α} {l hi:Int} (T el z t:Nat) (enc:α→List D) (x:Operand) (lo ho:Option Operand) (h:zEH xs l hi=some r) (hx:OkO x (.rf t 0 xs.length none):=by trivial) (hl:OkB lo (0:Nat) l:=by first|trivial|rfl) (hh:OkB ho xs.length hi:=by first|trivial|rfl)
  (hT:(zX Γ.P (underlying T),zEO Γ.P el)=(some (.slice el),some z):=by kernel_rfl):
  OpV Γ (.slice T x lo ho none) {tn:=tnO x (.rf t 0 xs.length none)++(tnB lo l++tnB ho hi),hn:=[(t,rE z enc xs)],out:=some (.sub t l.toNat r.length)}:=by
 simp only [Prod.mk.injEq] at hT
 obtain ⟨h1,h2,h3,h4,h5⟩:=zGk h
 intro ops o hop hg
 rw [h5]
 exact zKq (n:=xs.length) (xs:=xs.map enc) (z:=z) hg hop rfl (hx.f (fun y hy=>List.mem_append_left _ hy)) hT.1 hT.2 ((hl.f (fun y hy=>List.mem_append_right _ (List.mem_append_left _ hy))).f h1)
  ((hh.f (fun y hy=>List.mem_append_right _ (List.mem_append_right _ hy))).f (by omega)) (by omega) (by omega) (.head _)
theorem zMp {α:Type} {xs r:List α} {l hi:Int} (T el z t t':Nat) (enc:α→List D) (x:Operand) (lo ho:Option Operand) (h:zEH xs l hi=some r) (hx:OkO x (.rf t 0 xs.length none):=by trivial) (hl:OkB lo (0:Nat) l:=by first|trivial|rfl) (hh:OkB ho xs.length hi:=by first|trivial|rfl)
  (hT:(zX Γ.P (underlying T),zEO Γ.P el,Nat.ble Γ.m t')=(some (.slice el),some z,true):=by kernel_rfl):
  OpV Γ (.slice T x lo ho none) {tn:=tnO x (.rf t 0 xs.length none)++(tnB lo l++tnB ho hi),hn:=[(t,rE z enc xs)],out:=some (.rf t' 0 r.length none),hx:=[t],hw:=[(t',rE z enc r)],fr:=[t']}:=by
 simp only [Prod.mk.injEq] at hT
 obtain ⟨h1,h2,h3,h4,h5⟩:=zGk h
 intro ops o hop hg
 have e:rE z enc r= .row z (((xs.map enc).drop l.toNat).take (hi.toNat-l.toNat)):=by
  rw [h4,rE,List.map_take,List.map_drop]
 rw [e,h5]
 exact zQB (n:=xs.length) (xs:=xs.map enc) (z:=z) hg hop rfl (Nat.le_of_ble_eq_true hT.2.2) (hx.f (fun y hy=>List.mem_append_left _ hy)) hT.1 hT.2.1 ((hl.f (fun y hy=>List.mem_append_right _ (List.mem_append_left _ hy))).f h1)
  ((hh.f (fun y hy=>List.mem_append_right _ (List.mem_append_right _ hy))).f (by omega)) (by omega) (by omega) (by simp) (.head _)
theorem zO3 (T el t off n:Nat) (x:Operand) (hx:OkO x (.sub t off n):=by trivial) (hT:zX Γ.P (underlying T)=some (.slice el):=by kernel_rfl):
  OpV Γ (.call {callee:=.builtin .len,args:= #[x],argTypes:= #[T]}) {tn:=tnO x (.sub t off n),out:=some (.sc (.int .i64 (n:Int)))}:=by
 intro ops o hop hg
 exact zMF hg hop rfl (hx.f (fun y hy=>hy)) hT
theorem zMf {α:Type} {xs:List α} {l i:Int} {n:Nat} {a:α} {kk:IntKind} (T el z t:Nat) (enc:α→List D) (x y:Operand) (h:zIX xs l n i=some a) (hx:OkO x (.sub t l.toNat n):=by trivial) (hy:OkO y (.sc (.int kk i)):=by first|trivial|rfl)
  (hT:(zX Γ.P (underlying T),zEO Γ.P el)=(some (.slice el),some z):=by kernel_rfl):
  OpV Γ (.indexAddr T x y) {tn:=tnO x (.sub t l.toNat n)++tnO y (.sc (.int kk i)),hn:=[(t,rE z enc xs)],out:=some (.pt t (l+i).toNat 0)}:=by
 simp only [Prod.mk.injEq] at hT
 have hb:0≤l∧0≤i∧i<n:=by
  unfold zIX at h
  split at h
  ·assumption
  ·cases h
 intro ops o hop hg
 exact zKR (n:=n) (off:=l.toNat) (i:=i) (k:=kk) (xs:=xs.map enc) (z:=z) hg hop rfl (hx.f (fun y hy=>List.mem_append_left _ hy)) (hy.f (fun y hy=>List.mem_append_right _ hy)) hT.1 hT.2 hb.2.1 hb.2.2 (by omega) (.head _)
theorem zOH {α:Type} {xs ys:List α} {l:Int} {n:Nat} {a:α} (T el z t:Nat) (enc:α→List D) (x:Operand) (h:zNw xs l n a=some ys) (he:Emb [] ((zIi Γ.P el).cells.toList.map D.sc) (enc a) []) (hx:OkO x (.sub t l.toNat n):=by trivial)
  (hT:(Γ.P.underlying T,zX Γ.P (zeroValue el),(zIi Γ.P el).cells.size,(zIi Γ.P el).cells.toList.all Value.oneCell,(enc a).length)=(some (.slice el),some (zIi Γ.P el),z,true,z):=by kernel_rfl):
  zQr Γ (.call {callee:=.builtin .clear,args:= #[x],argTypes:= #[T]}) {tn:=tnO x (.sub t l.toNat n),hn:=[(t,rE z enc xs)],hx:=[t],hw:=[(t,rE z enc ys)]}:=by
 simp only [Prod.mk.injEq] at hT
 obtain ⟨h1,h2,h3,h4,h5⟩:=hT
 unfold zNw at h
 split at h
 ·rename_i q
  cases h
  intro ops o hop hg hds
  have e:rE z enc (ovr xs l.toNat (List.replicate n a))= .row z ((xs.map enc).take l.toNat++List.replicate n (enc a)++(xs.map enc).drop (l.toNat+n)):=by
   simp [rE,ovr,List.map_take,List.map_drop]
  rw [e]
  exact zKH (n:=n) (xs:=xs.map enc) hg hds hop rfl (hx.f (fun y hy=>hy)) h1 h2 h3 h4 he h5 (by simp; omega) (.head _)
 ·cases h
end
end Go.Im
set_option linter.unusedVariables false
namespace Go.Im
open Go
def mkV (P:Program) (t:TypeId) (xs:List Value):Option Value:=match zFo P t with
 |some true=>some (.agg xs.toArray)
 |some false=>xs.head?
 |none=>none
def zQs (P:Program) (g:TypeId→List Value→List Value→Option Bool) (xs ys:List Value):List Field→Option Bool
 |[]=>some true
 |f::fs=>if f.name= "_" then none else match zEO P f.type with
  |some z=>match g f.type ((xs.drop f.offset).take z) ((ys.drop f.offset).take z),zQs P g xs ys fs with
   |some a,some r=>some (a&&r)
   |_,_=>none
  |none=>none
def eqT (P:Program):Nat→TypeId→List Value→List Value→Option Bool
 |0,_,_,_=>none
 |d+1,t,xs,ys=>match P.underlying t with
  |some (.struct fs)=>if P.stoodInHeld t=false∧zFo P t=some true then zQs P (eqT P d) xs ys fs.toList else none
   |some (.int _)=>match zFo P t,xs,ys with
   |some false,.int k1 a::_,.int k2 b::_=>if k1=k2 then some (a==b) else none
   |_,_,_=>none
  |some .bool =>match zFo P t,xs,ys with
   |some false,.bool a::_,.bool b::_=>some (a==b)
   |_,_,_=>none
  |some .string =>match zFo P t,xs,ys with
   |some false,.string a::_,.string b::_=>some (a.toList==b.toList)
   |_,_,_=>none
  |_=>none
theorem zNM {P:Program} {w:World} {t:TypeId} {cs:List Value} {off z:Nat} {v:Value} (hz:zEO P t=some z) (hz0:zFo P t=some false→0<z) (h:mkV P t ((cs.drop off).take z)=some v):(part t cs.toArray off).run P w= .ok v w:=by
 unfold mkV at h
 unfold part
 split at h
 ·rename_i ha
  cases h
  rw [run_bind_ok (zL _ _ w ha)]
  simp only [if_true]
  rw [run_bind_ok (zL _ _ w hz)]
  have:(cs.toArray.extract off (off+z))=((cs.drop off).take z).toArray :=by
   apply Array.ext'
   simp [List.take_drop]
  rw [this]
  rfl
 ·rename_i ha
  rw [run_bind_ok (zL _ _ w ha)]
  simp only [Bool.false_eq_true,if_false]
  have:cs.toArray[off]? =some v:=by
   rw [List.head?_take,if_neg (by have:=hz0 ha; omega),List.head?_drop] at h
   simpa using h
  rw [this]
  rfl
 ·cases h
theorem zNj {P:Program}:∀(d k:Nat) (t:TypeId) (xs ys:List Value) (vx vy:Value) (r:Bool) (w:World),eqT P d t xs ys=some r→mkV P t xs=some vx→mkV P t ys=some vy→(Op.equalIn (d+k) t vx vy).run P w= .ok r w
 |0,k,t,xs,ys,vx,vy,r,w,h,_,_=>by simp [eqT] at h
 |d+1,k,t,xs,ys,vx,vy,r,w,h,hx,hy=>by
  rw [show d+1+k=(d+k)+1 by omega]
  unfold eqT at h
  unfold mkV at hx hy
  split at h
  ·rename_i fs hfs
   split at h
   ·rename_i hc
    rw [hc.2] at hx hy
    cases hx
    cases hy
    have hff:P.fieldsOf t=fs:=by unfold Program.fieldsOf; rw [hfs]
    rw [run_equalIn_struct w (d+k) t _ _ (by rw [hff]; exact hfs) hc.1,hff]
    have key:∀(l:List Field) (r:Bool),zQs P (eqT P d) xs ys l=some r→(Op.eqFields (d+k) xs.toArray ys.toArray l).run P w= .ok r w:=by
     intro l
     induction l with
     |nil=>intro r h; cases h; rfl
     |cons f l ih=>
      intro r h
      unfold zQs at h
      split at h
      ·cases h
      ·rename_i hnm
       split at h
       ·rename_i z hz
        split at h
        ·rename_i a q ha hq
         cases h
         have hmk:∀(cs:List Value),(∃a l',(cs.drop f.offset).take z=a::l')∨zFo P f.type=some true→zFo P f.type≠none→∃v,mkV P f.type ((cs.drop f.offset).take z)=some v∧(part f.type cs.toArray f.offset).run P w= .ok v w:=by
          intro cs hcs hne
          have:∃v,mkV P f.type ((cs.drop f.offset).take z)=some v:=by
           unfold mkV
           rcases hcs with ⟨a,l',e⟩|e
           ·cases hag:zFo P f.type with
            |none=>exact absurd hag hne
            |some b=>cases b<;>simp [e]
           ·rw [e]; exact ⟨_,rfl⟩
          obtain ⟨v,hv⟩:=this
          refine ⟨v,hv,zNM hz (fun hf=>?_) hv⟩
          rcases Nat.eq_zero_or_pos z with e|e
          ·subst e
           unfold mkV at hv
           rw [hf] at hv
           simp at hv
          ·exact e
         have hsh:zFo P f.type≠none∧((∃a l',(xs.drop f.offset).take z=a::l')∨zFo P f.type=some true)∧((∃a l',(ys.drop f.offset).take z=a::l')∨zFo P f.type=some true):=by
          cases d with
          |zero=>simp [eqT] at ha
          |succ d=>
           unfold eqT at ha
           split at ha
           ·split at ha
            ·rename_i hc'
             exact ⟨by rw [hc'.2]; simp,.inr hc'.2,.inr hc'.2⟩
            ·cases ha
           all_goals first
            |(split at ha
              ·rename_i g1 g2 g3
               exact ⟨by rw [g1]; simp,.inl ⟨_,_,g2⟩,.inl ⟨_,_,g3⟩⟩
              ·cases ha)
            |cases ha
         obtain ⟨va,m1,p1⟩:=hmk xs hsh.2.1 hsh.1
         obtain ⟨vb,m2,p2⟩:=hmk ys hsh.2.2 hsh.1
         have he:=zNj d k f.type _ _ va vb a w ha m1 m2
         unfold Op.eqFields
         rw [if_pos (by simpa using hnm),run_bind_ok p1,run_bind_ok p2,run_bind_ok he]
         cases a
         ·rfl
         ·simp only [Bool.not_true,Bool.false_eq_true,if_false,Bool.true_and]
          exact ih q hq
        ·cases h
       ·cases h
    exact key _ _ h
   ·cases h
  ·rename_i kk hu
   split at h
   ·rename_i hag
    rw [hag] at hx hy
    cases hx
    cases hy
    split at h
    ·rename_i e
     subst e
     cases h
     exact run_equalIn_int w (d+k) t _ _ _ _ hu
    ·cases h
   ·cases h
  ·rename_i hu
   split at h
   ·rename_i hag
    rw [hag] at hx hy
    cases hx
    cases hy
    cases h
    exact run_equalIn_bool' w (d+k) t _ _ hu
   ·cases h
  ·rename_i hu
   split at h
   ·rename_i hag
    rw [hag] at hx hy
    cases hx
    cases hy
    cases h
    exact run_equalIn_string w (d+k) t _ _ hu
   ·cases h
  ·cases h
section
variable {Γ:Ctx} {ops:Array Oper} {o:Oper}
theorem zGc {β:Nat→Loc} {N:Nat→Prop} {w:World} {top:Bool}:∀{us ws:List Value} {bs:List Nat},zJ β N w top (us.map D.sc) ws bs→ws=us
 |[],ws,bs,h=>by simp only [List.map_nil,zJ] at h; exact h.1
 |u::us,ws,bs,h=>by
  simp only [List.map_cons,zJ,Rep] at h
  obtain ⟨v,vs,b1,b2,rfl,_,h3,h4⟩:=h
  rw [h3.1,zGc h4]
theorem zKG {P:Program} {w:World} {b:BinOp} {T:TypeId} {x y:Operand} {xs ys:Array Value} (h:P.eqGuardType P.depth T=false):(eqGuard b T x y (.agg xs) (.agg ys)).run P w= .ok () w:=by
 have key:(do
   let __do_lift ←program
   let __do_lift_1 ←program
   if (!__do_lift.eqGuardType __do_lift_1.depth T)=true then pure ()
   else do
    let __do_lift ←Op.eqGuardIn Op.maxDepth T (Value.agg xs) (Value.agg ys)
    if __do_lift=true then unsupported (.noEntry "binop/eql: two nil values of an interface type with methods, in a part of a struct or an array") else pure ():Sem Unit).run P w= .ok () w:=by
  rw [run_bind_ok (a:=P) (w':=w) rfl]
  rw [run_bind_ok (a:=P) (w':=w) rfl]
  rw [h]
  rfl
 unfold eqGuard
 split
 ·exact key
 ·exact key
 ·rfl
theorem zQn {c:Cert} {b:BinOp} {x y:Operand} {T U:TypeId} {us vs:List Value} {d:Nat} {r q:Bool} (hg:o.guard=none) (hop:o.op= .binOp b T x y U) (hb:(b= .eql ∧q=r)∨(b= .neq ∧q= !r)) (hc:c= {tn:=c.tn,out:=some (.sc (.bool q))})
  (hx:OpF c x (.ag (us.map D.sc))) (hy:OpF c y (.ag (vs.map D.sc))) (hagg:zFo Γ.P T=some true) (hgt:Γ.P.eqGuardType Γ.P.depth T=false) (hd:d≤10000) (he:eqT Γ.P d T us vs=some r):Valid Γ ops o c:=by
 refine uQ (d:=.sc (.bool q)) (f:=fun ρ=>do eqGuard b T x y (ρ x) (ρ y); binOp b T (ρ x) (ρ y)) hg (fun ρ=>by simp [execOp,hop]) (by rw [hc]) fun β bs σ a w hn hr=>?_
 have h1:=OpF.rep hx hn hr
 have h2:=OpF.rep hy hn hr
 simp only [Rep] at h1 h2
 obtain ⟨_,w1,e1,_,r1⟩:=h1
 obtain ⟨_,w2,e2,_,r2⟩:=h2
 rw [zGc r1] at e1
 rw [zGc r2] at e2
 refine ⟨.bool q,?_,by simp [Rep]⟩
 rw [e1,e2]
 rw [run_bind_ok (zKG hgt)]
 have hrun:=zNj d (10000-d) T us vs (.agg us.toArray) (.agg vs.toArray) r w he (by unfold mkV; rw [hagg]) (by unfold mkV; rw [hagg])
 rw [show d+(10000-d)=10000 by omega] at hrun
 rcases hb with ⟨rfl,rfl⟩|⟨rfl,rfl⟩
 ·rw [run_eql_struct,hrun]; rfl
 ·rw [run_neq_struct,hrun]; rfl
theorem zNs {b:BinOp} {q r:Bool} (T U:Nat) (x y:Operand) (us vs:List Value) (hb:(b= .eql ∧q=r)∨(b= .neq ∧q= !r)) (hx:OkO x (.ag (us.map D.sc)):=by trivial) (hy:OkO y (.ag (vs.map D.sc)):=by trivial)
  (hT:(zFo Γ.P T,Γ.P.eqGuardType Γ.P.depth T,eqT Γ.P 4 T us vs)=(some true,false,some r):=by kernel_rfl):
  OpV Γ (.binOp b T x y U) {tn:=tnO x (.ag (us.map D.sc))++tnO y (.ag (vs.map D.sc)),out:=some (.sc (.bool q))}:=by
 simp only [Prod.mk.injEq] at hT
 obtain ⟨h1,h2,h3⟩:=hT
 intro ops o hop hg
 exact zQn hg hop hb rfl (hx.f (fun y hy=>List.mem_append_left _ hy)) (hy.f (fun y hy=>List.mem_append_right _ hy)) h1 h2 (by decide) h3
end
end Go.Im
set_option linter.unusedVariables false
namespace Go.Im
open Go
section
variable {Γ:Ctx} {ops:Array Oper} {o:Oper}
end
end Go.Im
set_option linter.unusedVariables false
namespace Go.Im
open Go
theorem zNq {w:World} {b off r:Nat} {ws:List Value} (h:Own w b off r ws) (hr:ws.length≤r):∀j (hj:j<ws.length),w.cell? ⟨b,off+j,none⟩=some ws[j]∧w.frozen? ⟨b,off+j,none⟩=false:=by
 obtain ⟨arr,e,lo,hi,h1,h2,h3,h4⟩:=h
 intro j hj
 unfold World.cell? World.frozen?
 simp only [h1]
 refine ⟨by simpa using h4 j hj,?_⟩
 have:=h2 (off+j) (by omega)
 simp only [Bool.and_eq_false_iff,decide_eq_false_iff_not]
 omega
theorem zJN {α:Type} {enc:α→Value} {β:Nat→Loc} {N:Nat→Prop} {w:World}:∀{xs:List α} {ws:List Value} {bs:List Nat},zS β N w (xs.map (fun a=>[D.sc (enc a)])) ws bs→ws=xs.map enc∧bs=[]
 |[],ws,bs,h=>by simpa [zS] using h
 |x::xs,ws,bs,h=>by
  simp only [List.map_cons,zS,zJ,Rep] at h
  obtain ⟨w1,w2,b1,b2,rfl,rfl,⟨v,vs,c1,c2,rfl,rfl,h3,rfl,rfl⟩,h4⟩:=h
  obtain ⟨rfl,rfl⟩:=h3
  obtain ⟨rfl,rfl⟩:=zJN h4
  exact ⟨rfl,rfl⟩
theorem zGb {α:Type} {enc:α→Value} {β:Nat→Loc} {N:Nat→Prop} {w:World}:∀(xs:List α),zS β N w (xs.map (fun a=>[D.sc (enc a)])) (xs.map enc) []
 |[]=>by simp [zS]
 |x::xs=>by
  simp only [List.map_cons,zS,zJ,Rep]
  exact ⟨[enc x],xs.map enc,[],[],rfl,rfl,⟨_,[],[],[],rfl,rfl,⟨rfl,rfl⟩,rfl,rfl⟩,zGb xs⟩
theorem zKu {α:Type} [Inhabited α] {enc:α→Value} {w:World} {blk off:Nat} {d:Array α} {arr:Array Value} {e:TypeId} {fz:Nat×Nat} (h:w.heap[blk]? =some (.cells arr e fz)):
  (Sort.putRow enc w blk off d).heap[blk]? =some (.cells (Sort.putCells enc off d arr) e fz)∧(∀b,b≠blk→(Sort.putRow enc w blk off d).heap[b]? =w.heap[b]?)∧(Sort.putRow enc w blk off d).heap.size =w.heap.size:=by
 unfold Sort.putRow Sort.mapBlock
 refine ⟨?_,fun b hb=>?_,by simp⟩
 ·simp only [Array.getElem?_modify,if_true,h]
  rfl
 ·simp only [Array.getElem?_modify]
  rw [if_neg (fun e=>hb e.symm)]
theorem zME {α:Type} [Inhabited α] {P:Program} {f:FuncId} {enc:α→Value} {xs ys:List α} (hl:ys.length=xs.length)
  (h:∀(blk off cap:Nat) (w:World),Sort.Holds enc w blk off xs.toArray→blk<w.heap.size→Calls P f #[.slice (some ⟨blk,off,none⟩) xs.length cap] w fun e w'=>e= .returned (.tuple #[])∧∃n os,w'=Sort.grow (Sort.putRow enc (Sort.ahead w n) blk off ys.toArray) os)
  (h0:xs=[]→∀(p:Option Addr) (cap:Nat) (w:World),Calls P f #[.slice p 0 cap] w fun e w'=>e= .returned (.tuple #[])∧w'=w):
  Ok P f [.rf 0 0 xs.length none] [.row 1 (xs.map (fun a=>[D.sc (enc a)]))] (some (.tu [],[.row 1 (ys.map (fun a=>[D.sc (enc a)]))])):=by
 intro out ho w N β vs bs ha hh hnd hlt hN _
 cases ho
 simp only [zJ] at ha
 obtain ⟨v,vs',b1,b2,rfl,hb12,h1,rfl,rfl⟩:=ha
 have hb1:b1=[]:=by simpa using hb12.symm
 subst hb1
 simp only [Rep] at h1
 obtain ⟨_,_,h1⟩:=h1
 obtain ⟨c1,c2,rfl,⟨hLz,hzz,hrow⟩,hc2⟩:=hh
 have hc2':c2=[]:=hc2
 subst hc2'
 simp only at hLz hzz hrow
 rcases hrow with ⟨hnil,hxs,hc1⟩|⟨hnil,ws,hO,hE⟩
 ·
  have hxs':xs=[]:=by simpa using hxs
  subst hxs'
  subst hc1
  have hys:ys=[]:=List.eq_nil_of_length_eq_zero hl
  subst hys
  have hv:v= .slice none 0 0:=by
   rcases h1 with ⟨_,_,_,h1⟩|⟨h1,_⟩
   ·exact h1
   ·rw [hnil] at h1; cases h1
  subst hv
  refine (h0 rfl none 0 w).mono ?_
  rintro e w' ⟨rfl,rfl⟩
  have hown:(β 0).own =[]:=by simp [Loc.own,hnil]
  refine ⟨.tuple #[],[],[],rfl,⟨rfl,rfl⟩,Nat.le_refl _,fun _ _ _=>rfl,by simp,by simp,?_,?_⟩
  ·simp only [Rep,zJ]
   exact ⟨trivial,[],rfl,rfl,trivial⟩
  ·refine ⟨[],[],by simp [hown],⟨hLz,by simp,.inl ⟨hnil,rfl,rfl⟩⟩,rfl⟩
 ·have hown:(β 0).own =[(β 0).b]:=by simp [Loc.own,hnil]
  rw [hown] at hlt hnd hN ⊢
  obtain ⟨rfl,rfl⟩:=zJN hE
  obtain ⟨cp,hv,hcap,hroom⟩:∃c',v= .slice (some ⟨(β 0).b,(β 0).o,none⟩) xs.length c'∧xs.length≤c'∧c'≤(β 0).r :=by
   rcases h1 with ⟨h1,_⟩|⟨_,c',h3,h4,h5,_⟩
   ·rw [hnil] at h1; cases h1
   ·exact ⟨c',by simpa using h3,h4,by rw [hLz] at h5; simpa using h5⟩
  subst hv
  have hbl:(β 0).b <w.heap.size:=hlt _ (by simp)
  have hcells:=zNq hO (by simpa using Nat.le_trans hcap hroom)
  have hH:Sort.Holds enc w (β 0).b (β 0).o xs.toArray:=by
   intro j hj
   have hj':j<xs.length:=by simpa using hj
   obtain ⟨q1,q2⟩:=hcells j (by simpa using hj')
   refine ⟨?_,q2⟩
   rw [q1]
   simp [hj']
  refine (h _ _ cp w hH hbl).mono ?_
  rintro e w' ⟨rfl,n,os,rfl⟩
  obtain ⟨arr,el,lo,hi,g1,g2,g3,g4⟩:=hO
  obtain ⟨p1,p2,p3⟩:=zKu (enc:=enc) (w:=Sort.ahead w n) (blk:=(β 0).b) (off:=(β 0).o) (d:=ys.toArray) (fz:=(lo,hi)) (e:=el) (arr:=arr) g1
  have hg:∀b,b<w.heap.size→(Sort.grow (Sort.putRow enc (Sort.ahead w n) (β 0).b (β 0).o ys.toArray) os).heap[b]? =(Sort.putRow enc (Sort.ahead w n) (β 0).b (β 0).o ys.toArray).heap[b]? :=by
   intro b hb
   unfold Sort.grow
   simp only
   rw [Array.getElem?_append_left (by rw [p3]; exact hb)]
  have hsz:w.heap.size≤(Sort.grow (Sort.putRow enc (Sort.ahead w n) (β 0).b (β 0).o ys.toArray) os).heap.size :=by
   unfold Sort.grow
   simp only [Array.size_append]
   rw [p3]
   exact Nat.le_add_right _ _
  refine ⟨.tuple #[],[],[(β 0).b],rfl,⟨rfl,rfl⟩,hsz,?_,by simp,?_,?_,?_⟩
  ·intro b hb hb2
   rw [hg b hb,p2 b (fun e=>hb2 (by simp [e]))]
   rfl
  ·intro b hb
   simp only [List.nil_append,List.mem_singleton] at hb
   subst hb
   exact ⟨Nat.lt_of_lt_of_le hbl hsz,.inl (by simp)⟩
  ·simp only [Rep,zJ]
   exact ⟨trivial,[],rfl,rfl,trivial⟩
  ·refine ⟨[],[],by simp [hown],⟨hLz,by simp,.inr ⟨hnil,ys.map enc,?_,zGb ys⟩⟩,rfl⟩
   refine ⟨Sort.putCells enc (β 0).o ys.toArray arr,el,lo,hi,by rw [hg _ hbl]; exact p1,?_,?_,?_⟩
   ·unfold Sort.putCells
    rw [Array.size_mapIdx]
    exact g2
   ·unfold Sort.putCells
    rw [Array.size_mapIdx]
    exact g3
   ·intro k hk
    have hk':k<ys.length:=by simpa using hk
    unfold Sort.putCells
    have hka:(β 0).o +k<arr.size:=by
     have:(β 0).o +(β 0).r ≤arr.size:=g3
     omega
    rw [Array.getElem?_mapIdx,Array.getElem?_eq_getElem hka]
    simp only [Option.map_some]
    rw [if_pos (by simp; omega)]
    simp [hk']
end Go.Im
set_option linter.unusedVariables false
namespace Go.Im
open Go
theorem zNC {P:Program} {w:World} {name:String} {g:Nat} {k:IntKind} {zs:List Int} (hG:∀q∈zLH P,Tab w q.1 q.2) (hn:P.globalNamed name=some g) (hl:lk (zLH P) g=some (· =zs.map fun z=>Value.int k z)):Lib.TabIs P w name k zs:=by
 obtain ⟨ws,e,fz,h,rfl⟩:=hG _ (kN hl)
 unfold Lib.TabIs World.var?
 rw [hn]
 simp only [Option.bind_some]
 rw [h]
theorem zOz {P:Program} {f:FuncId} {vs:List Value} {v:Value} (h:∀w,(∀q∈zLH P,Tab w q.1 q.2)→Calls P f vs.toArray w fun e w'=>e= .returned v∧w'.os=w.os∧w'.output=w.output∧w.heap.size≤w'.heap.size∧∀b,b<w.heap.size→w'.heap[b]? =w.heap[b]?):Ok P f (vs.map D.sc) [] (some (.sc v,[])):=by
 intro out ho w N β us bs ha hh hnd hlt hN hG
 cases ho
 obtain ⟨rfl,_⟩:=zFS ha
 refine (h w (fun q hq=>(hG q hq).2)).mono ?_
 rintro e w' ⟨rfl,h1,h2,h3,h4⟩
 exact ⟨v,[],[],rfl,⟨h1,h2⟩,h3,fun b hb _=>h4 b hb,by simp,by simp,by simp [Rep],rfl⟩
theorem zOB {P:Program} {f:FuncId} {vs:List Value} {v:Value} (h:∀w,(∀q∈zLH P,Tab w q.1 q.2)→Calls P f vs.toArray w fun e w'=>e= .returned v∧∃k os,w'=Sort.grow (w.drewN k) os):Ok P f (vs.map D.sc) [] (some (.sc v,[])):=by
 refine zOz fun w hG=>(h w hG).mono ?_
 rintro e w' ⟨rfl,k,os,rfl⟩
 refine ⟨rfl,rfl,rfl,?_,fun b hb=>?_⟩
 ·show w.heap.size≤(w.heap++os).size
  rw [Array.size_append]
  exact Nat.le_add_right _ _
 ·show (w.heap++os)[b]? =w.heap[b]?
  rw [Array.getElem?_append_left hb]
end Go.Im
set_option linter.unusedVariables false
namespace Go.Im
open Go
theorem zJ1 {P:Program} {w:World} {name:String} {g:Nat} {k:IntKind} {zs:List Int} (h:Lib.TabIs P w name k zs) (hn:P.globalNamed name=some g):g<w.heap.size∧Tab w g (· =zs.map fun z=>Value.int k z):=by
 unfold Lib.TabIs World.var? at h
 rw [hn] at h
 simp only [Option.bind_some] at h
 split at h
 ·rename_i cs e fz hh
  cases h
  exact ⟨(Array.getElem?_eq_some_iff.1 hh).1,_,e,fz,hh,rfl⟩
 ·cases h
theorem zFz {P:Program} {w:World} {l:List (String×DataW Unit)} {name:String} {g n:Nat} {t e:TypeId} {k:IntKind} {zs:List Int} (h:laidMet P l w) (hl:l.filter (fun x=>x.1==name)=[(name,Lib.tabData k zs)])
  (hg:P.globalNamed name=some g) (hty:(P.globals[g]?).map (·.type)=some t) (ht:P.underlying t=some (.array n e)) (he:P.underlying e=some (.int k)) (hce:P.cellsOf e=1) (hct:P.cellsOf t=n):g<w.heap.size∧Tab w g (· =zs.map fun z=>Value.int k z):=by
 have h2:=h.filter (fun x=>x.1==name)
 rw [hl] at h2
 exact zJ1 (Lib.tabIs_of_head hg hty ht he hce hct h2) hg
end Go.Im
set_option linter.unusedVariables false
namespace Go.Im
open Go
section
variable {Γ:Ctx} {fc:Code} {k:List II} {σ:St} {T:Type} {K:T→Option (D×List Ent)}
theorem zOO {e:Option T} (t:Nat) {z:Nat} {xs xs':List (List D)} {tm:List (Nat×D)} {hp:List (Nat×Ent)} (hx:D.ro.roE xs=xs')
  (hj:J Γ fc k (St.mk' tm ((t,.row z xs')::hp)) e K):J Γ fc k (St.mk' tm ((t,.row z xs)::hp)) e K:=by
 subst hx
 refine zFd (fun a w hr=>?_) hj
 obtain ⟨h0,β,bs,h⟩:=hr
 obtain ⟨b1,bk,rfl,hE,hrest⟩:=h.hp
 obtain ⟨hz,hzz,hrow⟩:=hE
 have hp:((β t).own ++(b1++bk)).Perm (b1++((β t).own ++bk)):=by
  rw [←List.append_assoc,←List.append_assoc]
  exact List.Perm.append_right _ List.perm_append_comm
 have hnd:=hp.nodup_iff.1 h.nodup
 have hsub:∀b∈(β t).own ++([]++bk),b∈(β t).own ++(b1++bk):=fun b hb=>by
  simp only [List.nil_append,List.mem_append] at hb ⊢
  rcases hb with hb|hb
  ·exact .inl hb
  ·exact .inr (.inr hb)
 have hN:∀b,NS Γ w ((β t).own ++(b1++bk)) b→NS Γ w ((β t).own ++([]++bk)) b:=fun b hb=>NS.sub hsub hb
 have hb:∀b∈b1,NS Γ w ((β t).own ++([]++bk)) b:=fun b hb=>by
  have:=h.own b (hp.mem_iff.2 (List.mem_append_left _ hb))
  refine ⟨?_,this.1,fun hbk=>(List.nodup_append.1 hnd).2.2 b hb b hbk rfl⟩
  rcases this.2 with h1|h1
  ·exact .inr (.inl h1)
  ·exact .inr (.inr h1)
 refine ⟨h0,β,(β t).own ++([]++bk),{defers:=h.defers,size:=h.size,keys:=h.keys,par:=h.par,grow:=h.grow,gh:=h.gh,quiet:=h.quiet,keep:=h.keep,hp:=?_,nodup:=?_,own:=fun b hb=>h.own b (hsub b hb),tm:=?_}⟩
 ·refine ⟨[],bk,rfl,⟨hz,fun x hx=>?_,?_⟩,?_⟩
  ·obtain ⟨e',he',rfl⟩:=zEE hx
   rw [zCG]; exact hzz e' he'
  ·rcases hrow with ⟨h1,h2,h3⟩|⟨h1,ws,h2,h3⟩
   ·subst h2; exact .inl ⟨h1,rfl,rfl⟩
   ·exact .inr ⟨h1,ws,h2,zS.ro hN xs ws b1 hb h3⟩
  ·exact vJ.frame (fun b hb=>⟨hN b hb,rfl⟩) _ _ (fun _ _=>rfl) (fun _ _=>rfl) hrest
 ·exact (List.nodup_append.1 hnd).2.1
 ·exact zNc.frame (fun b hb=>⟨hN b hb,rfl⟩) (fun _ _=>rfl) h.tm
end
end Go.Im
set_option linter.unusedVariables false
namespace Go.Im
open Go
theorem zNQ {P:Program} {f:FuncId} {vs:List Value} {v:Value} (h:∀w,Calls P f vs.toArray w fun e w'=>e= .returned v∧RowKit.Below w.heap.size w w'):Ok P f (vs.map D.sc) [] (some (.sc v,[])):=by
 refine zOz fun w _=>(h w).mono ?_
 rintro e w' ⟨rfl,hb⟩
 exact ⟨rfl,hb.os,hb.output,hb.size,hb.block⟩
theorem zOj {P:Program} {f:FuncId} {s sep:ByteArray} {xs:List ByteArray} {t:TypeId} (h:∀w,(∀q∈zLH P,Tab w q.1 q.2)→Calls P f #[.string s,.string sep] w fun e w'=>e= .returned (.slice (some ⟨w.heap.size,0,none⟩) xs.length xs.length)∧w'=w.alloc (.cells (xs.map Value.string).toArray t)):
  Ok P f [sv s,sv sep] [] (some (so 1 eStr xs,[])):=by
 intro o ho w N β us bs ha hh hnd hlt hN hG
 cases ho
 obtain ⟨rfl,_⟩:=zFS (vs:=[.string s,.string sep]) ha
 refine (h w (fun q hq=>(hG q hq).2)).mono ?_
 rintro e w' ⟨rfl,rfl⟩
 have hsz:(w.alloc (.cells (xs.map Value.string).toArray t)).heap.size =w.heap.size+1:=Array.size_push _
 have hnew:(w.alloc (.cells (xs.map Value.string).toArray t)).heap[w.heap.size]? =some (.cells (xs.map Value.string).toArray t):=by
  show (w.heap.push _)[w.heap.size]? =_
  rw [Array.getElem?_push,if_pos rfl]
 refine ⟨_,[w.heap.size],[],rfl,⟨rfl,rfl⟩,by rw [hsz]; exact Nat.le_succ _,fun b hb _=>?_,by simp,?_,?_,rfl⟩
 ·exact RowKit.Below.heap_alloc w _ b hb
 ·intro b hb
  simp only [List.append_nil,List.mem_singleton] at hb
  subst hb
  exact ⟨by rw [hsz]; exact Nat.lt_succ_self _,.inr (Nat.le_refl _)⟩
 ·unfold so
  simp only [Rep]
  refine ⟨by simp,by simp [eStr],_,_,rfl,Nat.le_refl _,.inr (.inr ⟨trivial,w.heap.size,0,xs.map Value.string,[],rfl,rfl,?_,?_⟩)⟩
  ·refine ⟨_,t,0,0,hnew,fun k _=>by omega,by simp,fun k hk=>by simp⟩
  ·exact zGb (enc:=Value.string) xs
theorem zML {P:Program} {w:World} {g:Nat} (hG:∀q∈zLH P,Tab w q.1 q.2) (hl:lk (zLH P) g=some (fun ws=>∃m,ws=[.int .i64 m])):∃m,w.cell? ⟨g,0,none⟩=some (.int .i64 m):=by
 obtain ⟨ws,e,fz,h,m,rfl⟩:=hG _ (kN hl)
 exact ⟨m,by rw [cell_of h]; rfl⟩
end Go.Im
set_option linter.unusedVariables false
namespace Go.Im
open Go Go.Proofs
theorem zIv {P:Program} {w:World} {g:Nat} {t:TypeId} {zero:Array Value} (h:w.ShapedOpen P) (hg:g<P.globals.size)
  (h0:((begin P (fun _ _=>0) default).world.heap[g]?).bind Obj.row? =some (zero,t)) (hz:zero.size=1)
  (hb:P.buildable t=true) (hc:P.cellTypes P.depth t=some [t]) (hu:P.underlying t=some (.int .i64)):g<w.heap.size∧Tab w g (fun ws=>∃m,ws=[.int .i64 m]):=by
 obtain ⟨m,hm⟩:=cell_of_shapedOpen_int h hg h0 hz hb hc hu
 obtain ⟨cs,hh,hs,_⟩:=h.1 g zero t hg h0
 rw [cell_of hh] at hm
 refine ⟨(Array.getElem?_eq_some_iff.1 hh).1,cs.toList,t,_,by simpa using hh,m,?_⟩
 obtain ⟨l⟩:=cs
 match l,hs,hm with
 |[],hs,_=>simp at hs; omega
 |[v],_,hm=>simp at hm; rw [hm]
 |_::_::_,hs,_=>simp at hs; omega
section
variable {H:Type} {enc:TypeId×Value→H}
theorem zEQ {a:Assume} {C:Checked} {os:Os} {f:FuncId} {fn:Func} {s:ChangeSpec} {conds:List PathCond} {apart fresh handsOn again:Bool} {X:World→Array Value→Prop}
  (hX:∀(w w':World) (args:Array Value),w.heap=w'.heap→X w args→X w' args) (own:ownKnob C.prog.godebug=none) (started:os.Started) (noInit:C.prog.inits.idxOf? f=none) (hfn:C.prog.funcs[f]? =some fn)
  (witness:∃(w:World) (tape:Tape) (i:Input),w.os=os∧(w.forCall tape i).Shaped C.prog∧i.vars=[]∧Input.okWide C.prog (w.forCall tape i) .any w.heap.size f i∧
   ((s.pre enc C.prog fn conds apart (w.forCall tape i).memory i.args∧X (w.forCall tape i).memory i.args)∧sizedMet enc C.prog fn (OpenSpec.ofChange s) apart (w.forCall tape i).memory i.args)∧a.holds C.prog (lone (Frame.enter C.prog f i.args .normal) [] (w.forCall tape i)))
  (contract:∀(W:World) (base:Nat) (args:Array Value) (ds gs:List (DataW H)) (before:List MemPlace),W.ShapedOpen C.prog→
   (∀(j:Nat) t v,fn.params[j]? =some t→args[j]? =some v→Value.okWide C.prog W .any base t v)→DataW.Whole enc C.prog fn.params.toList s.vars apart W args.toList ds gs before→
   conds.all (PathCond.test C.prog ⟨fn.params.toList,ds,s.plain.varTypes C.prog,gs⟩)=true→(DataW.weightsEach C.prog (fn.params.toList++s.plain.varTypes C.prog) (ds++gs)).all (· ≤reachBytes)=true→X W args→
   a.holds C.prog (lone (Frame.enter C.prog f args .normal) [] W)→Calls C.prog f args W fun e W'=>∃v,e= .returned v∧s.post enc C.prog fn apart fresh handsOn again W args v W'):
  ReturnsInHanded a C os f .any (fun w args=>(s.pre enc C.prog fn conds apart w args∧X w args)∧sizedMet enc C.prog fn (OpenSpec.ofChange s) apart w args) (s.post enc C.prog fn apart fresh handsOn again):=by
 refine returnsInHanded_of_calls own started noInit witness fun w tape i _ hsh _ hok hpre hholds=>?_
 obtain ⟨_,_,_,fn',hfn',_,_,_,_,hval⟩:=hok
 obtain rfl:fn'=fn:=Option.some.inj (hfn'.symm.trans hfn)
 obtain ⟨⟨⟨ds,gs,before,hw,hc⟩,hx⟩,hz⟩:=hpre
 refine (contract (w.forCall tape i) w.heap.size i.args ds gs before hsh hval (DataW.Whole.of_heap (w':=w.forCall tape i) (by rfl) hw) hc (hz.weights hw) (hX _ _ _ (by rfl) hx) hholds).mono fun e W' ⟨v,he,hp⟩=>?_
 subst he
 exact ChangeSpec.post_blind hp
end
end Go.Im
set_option linter.unusedVariables false
namespace Go.Im
open Go
section
variable {Γ:Ctx} {ops:Array Oper} {o:Oper}
theorem Rel.zQ4 {σ:St} {a:Act} {w:World} {dst:Option Nat} {tn:List (Nat×D)} {t:Nat} {cs:List D} (hus:∀k,k∈zHR σ.tm∨k∈zER σ.hp→k∈σ.us) (hcs:∀k∈D.men.zDO cs,k∈σ.us) (hfree:∀d∈cs,d.free=true)
  (h:Rel Γ (σ.upd dst {tn:=tn,out:=some (.pt t 0 0),hw:=[(t,.box cs)],fr:=[t]}) a w):Rel Γ (σ.upd dst {tn:=tn,out:=some (.pb cs)}) a w:=by
 obtain ⟨_,β,bs,h⟩:=h
 obtain ⟨b1,b2,rfl,⟨hnil,_,ws,hO,hone,hcr⟩,hrest⟩:=h.hp
 obtain rfl:b1=[]:=zJ.frees hfree hcr
 have hown:(β t).own =[(β t).b]:=by simp [Loc.own,hnil]
 have hnd:=h.nodup
 rw [hown] at hnd
 simp only [List.nil_append,List.singleton_append,List.nodup_cons] at hnd
 have hsub:∀b∈b2,b∈(β t).own ++([]++b2):=fun b hb=>by simp [hb]
 have hN:∀b,NS Γ w ((β t).own ++([]++b2)) b→NS Γ w b2 b:=fun b hb=>NS.sub hsub hb
 have hNt:NS Γ w b2 (β t).b :=by
  have:=h.own (β t).b (by rw [hown]; simp)
  refine ⟨?_,this.1,hnd.1⟩
  rcases this.2 with h1|h1
  ·exact .inr (.inl h1)
  ·exact .inr (.inr h1)
 refine ⟨?_,β,b2,{defers:=h.defers,size:=h.size,keys:=?_,par:=h.par,grow:=h.grow,gh:=h.gh,quiet:=h.quiet,keep:=h.keep,hp:=?_,nodup:=hnd.2,own:=fun b hb=>h.own b (hsub b hb),tm:=?_}⟩
 ·intro k hk
  simp only [St.upd,Cert.men,zER,List.flatMap_nil,List.append_nil,List.nil_append,D.men] at hk ⊢
  rw [List.mem_append]
  have key:∀k,k∈zHR (σ.tm.filter (fun x=>dst !=some x.1))∨k∈zER (σ.hp.filter (fun x=> !([]:List Nat).contains x.1))→k∈σ.us:=by
   rintro k (hk|hk)
   ·obtain ⟨x,hx,hk⟩:=List.mem_flatMap.1 hk
    exact hus k (.inl (List.mem_flatMap.2 ⟨x,(List.mem_filter.1 hx).1,hk⟩))
   ·obtain ⟨x,hx,hk⟩:=List.mem_flatMap.1 hk
    exact hus k (.inr (List.mem_flatMap.2 ⟨x,(List.mem_filter.1 hx).1,hk⟩))
  rcases hk with hk|hk
  ·obtain ⟨x,hx,hk⟩:=List.mem_flatMap.1 hk
   rcases List.mem_append.1 hx with hx|hx
   ·unfold Cert.outs at hx
    cases dst with
    |none=>simp at hx
    |some q=>
     simp only [List.mem_singleton] at hx
     subst hx
     exact .inr (hcs k (by simpa [D.men] using hk))
   ·exact .inr (key k (.inl (List.mem_flatMap.2 ⟨x,hx,hk⟩)))
  ·exact .inr (key k (.inr hk))
 ·have hk:=h.keys
  simp only [St.upd,List.cons_append,List.nil_append,List.map_cons,List.nodup_cons] at hk ⊢
  exact hk.2
 ·exact vJ.frame (fun b hb=>⟨hN b hb,rfl⟩) _ _ (fun _ _=>rfl) (fun _ _=>rfl) hrest
 ·intro q d hd
  simp only [St.upd] at hd
  rcases List.mem_append.1 hd with hd|hd
  ·unfold Cert.outs at hd
   cases dst with
   |none=>simp at hd
   |some q'=>
    simp only [List.mem_singleton,Prod.mk.injEq] at hd
    obtain ⟨rfl,rfl⟩:=hd
    obtain ⟨v,h1,h2⟩:=h.tm q (.pt t 0 0) (by simp [St.upd,Cert.outs])
    refine ⟨v,h1,?_⟩
    simp only [Rep] at h2 ⊢
    obtain ⟨_,_,_,rfl⟩:=h2
    refine ⟨trivial,trivial,(β t).b,(β t).o,ws,by simp,hNt,hO.has,hone,?_⟩
    exact zJ.frame (fun b hb=>⟨hN b hb,rfl⟩) cs true ws [] (by simp) (fun _ _=>rfl) hcr
  ·obtain ⟨v,h1,h2⟩:=h.tm q d (by simp only [St.upd]; exact List.mem_append_right _ hd)
   exact ⟨v,h1,Rep.frame (fun b hb=>⟨hN b hb,rfl⟩) d true v [] (by simp) (fun _ _=>rfl) h2⟩
theorem zG3:∀(l:List Nat) (m:Nat),m≤l.foldl max m∧∀x∈l,x≤l.foldl max m
 |[],m=>⟨Nat.le_refl _,by simp⟩
 |y::l,m=>by
  obtain ⟨h1,h2⟩:=zG3 l (max m y)
  refine ⟨Nat.le_trans (Nat.le_max_left _ _) h1,fun x hx=>?_⟩
  rcases List.mem_cons.1 hx with rfl|hx
  ·exact Nat.le_trans (Nat.le_max_right _ _) h1
  ·exact h2 x hx
theorem zOD {c:Cert} {x:Operand} {T:TypeId} {d:D} (hg:o.guard=none) (hop:o.op= .box T x) (hc:c= {tn:=c.tn,out:=some (.pb (cellsD d))}) (hx:OpF c x d) (hd:(cellsD d).all D.cell=true):Valid Γ ops o c:=by
 intro σ a w Q hdst hn hr
 obtain ⟨m1,m2⟩:=zG3 σ.us Γ.m
 have hft:σ.us.foldl max Γ.m+1∉σ.us:=fun h=>by have:=m2 _ h; omega
 have hn1:Nd {tn:=c.tn,out:=some (.pt (σ.us.foldl max Γ.m+1) 0 0),hw:=[((σ.us.foldl max Γ.m+1),.box (cellsD d))],fr:=[σ.us.foldl max Γ.m+1]} σ:=⟨hn.1,by simp,by simpa using hft⟩
 have hv:=zQb (Γ:=Γ) (ops:=ops) (t:=σ.us.foldl max Γ.m+1) hg hop (c:= {tn:=c.tn,out:=some (.pt (σ.us.foldl max Γ.m+1) 0 0),hw:=[((σ.us.foldl max Γ.m+1),.box (cellsD d))],fr:=[σ.us.foldl max Γ.m+1]}) rfl (by omega) hx hd σ a w Q hdst hn1 hr
 have hwt:Region.wanted o (yielded ops a.tmps)=true:=by simp [Region.wanted,hg]
 rw [if_pos hwt] at hv ⊢
 refine Oper.wp_mono (fun a' w' h'=>?_) hv
 rw [hc]
 exact Rel.zQ4 hr.1 (fun k hk=>zMK (a:=a) (w:=w) hr.1 hn hx k (by rwa [zJe] at hk)) (fun d' hd'=>D.zMw (List.all_eq_true.1 hd d' hd')) h'
theorem zMA {c:Cert} {x:Operand} {T:TypeId} {cs:List D} {d:D} (hg:o.guard=none) (hop:o.op= .load T x) (hc:c= {tn:=c.tn,out:=some d}) (hx:OpF c x (.pb cs)) (hd:zCA Γ.P T cs=some d):Valid Γ ops o c:=by
 rw [hc]
 refine vK hg rfl rfl fun β bs σ a w hn hr=>?_
 have h1:=OpF.rep (c:=c) hx ⟨hn.1,by rw [hc]; simp,by rw [hc]; simp⟩ hr
 simp only [Rep] at h1
 obtain ⟨_,_,b,p,ws,h2,h3,h4,hone,h5⟩:=h1
 obtain ⟨v,h6,h7⟩:=zDG hd h4 hone h5
 refine ⟨v,zEm (s:=Instr.loadAt T (a.eval x)) (by simp [execOp,hop]) ?_,fun d' hd=>by cases hd; exact h7⟩
 rw [h2]
 exact h6
theorem zPh (T:Nat) (x:Operand) (d:D) (hx:OkO x d:=by first|trivial|rfl) (hd:(cellsD d).all D.cell=true:=by kernel_rfl):OpV Γ (.box T x) {tn:=tnO x d,out:=some (.pb (cellsD d))}:=by
 intro ops o hop hg
 exact zOD hg hop rfl (hx.f (fun y hy=>hy)) hd
theorem zLi {d:D} (T:Nat) (x:Operand) (cs:List D) (hx:OkO x (.pb cs):=by trivial) (hd:zCA Γ.P T cs=some d:=by kernel_rfl):OpV Γ (.load T x) {tn:=tnO x (.pb cs),out:=some d}:=by
 intro ops o hop hg
 exact zMA hg hop rfl (hx.f (fun y hy=>hy)) hd
end
end Go.Im
set_option linter.unusedVariables false
namespace Go.Im
open Go
def D.zPM:D→Bool
 | .sc _=>true
 |_=>false
section
variable {β:Nat→Loc} {N:Nat→Prop} {w:World}
theorem zId:∀{cs:List D} {ws:List Value} {bs:List Nat},cs.all D.zPM=true→zJ β N w true cs ws bs→zJ β N w false cs ws bs∧bs=[]
 |[],ws,bs,_,h=>by simp only [zJ] at h ⊢; exact ⟨h,h.2⟩
 |d::cs,ws,bs,hc,h=>by
  simp only [List.all_cons,Bool.and_eq_true] at hc
  simp only [zJ] at h ⊢
  obtain ⟨v,vs,b1,b2,rfl,rfl,h3,h4⟩:=h
  obtain ⟨h5,rfl⟩:=zId hc.2 h4
  cases d with
  |sc u=>
   simp only [Rep] at h3 ⊢
   obtain ⟨rfl,rfl⟩:=h3
   exact ⟨⟨_,vs,[],[],rfl,rfl,⟨rfl,rfl⟩,h5⟩,rfl⟩
  |_=>simp [D.zPM] at hc
theorem zLj:∀{xs:List (List D)} {ws:List Value} {bs:List Nat},(∀x∈xs,x.all D.zPM=true)→zJ β N w true xs.flatten ws bs→zS β N w xs ws []∧bs=[]
 |[],ws,bs,_,h=>by simp only [List.flatten_nil,zJ] at h; simp only [zS]; exact ⟨⟨h.1,trivial⟩,h.2⟩
 |x::xs,ws,bs,hx,h=>by
  rw [List.flatten_cons] at h
  obtain ⟨b1,b2,rfl,h1,h2⟩:=zJ.split x.length h
  rw [List.take_left] at h1
  rw [List.drop_left] at h2
  obtain ⟨h3,rfl⟩:=zId (hx x (by simp)) h1
  obtain ⟨h4,rfl⟩:=zLj (fun y hy=>hx y (by simp [hy])) h2
  simp only [zS]
  exact ⟨⟨ws.take x.length,ws.drop x.length,[],[],(List.take_append_drop _ _).symm,rfl,h3,h4⟩,rfl⟩
end
def zQ8 (t:Nat):D→Bool
 | .pt _ 0 _=>true
 |d=> !(d.men.contains t)
section
variable {Γ:Ctx} {fc:Code} {k:List II} {σ:St} {T:Type} {K:T→Option (D×List Ent)}
theorem zN8 {β:Nat→Loc} {N:Nat→Prop} {w:World} {t z:Nat} {d:D} {v:Value} (ho:zQ8 t d=true) (h:Rep β N w true d v []):Rep (zFi β t {(β t) with z:=z}) N w true d v []:=by
 have key:t∉d.men→Rep (zFi β t {(β t) with z:=z}) N w true d v []:=fun hm=>
  Rep.frame (fun b hb=>⟨hb,rfl⟩) d true v [] (by simp) (fun k hk=>zAV (fun e=>hm (e▸hk))) h
 unfold zQ8 at ho
 split at ho
 ·rename_i t' j
  simp only [Rep] at h ⊢
  by_cases e:t'=t
  ·subst e
   rw [xH]
   simpa using h
  ·rw [zAV e]; exact h
 ·exact key (by simpa using ho)
theorem zOc {e:Option T} (t:Nat) {z:Nat} {cs:List D} {xs:List (List D)} {tm:List (Nat×D)} {hp:List (Nat×Ent)} (hxs:xs.flatten=cs) (hz:xs.all (fun x=>x.length==z&&x.all D.zPM)=true) (htm:tm.all (fun x=>zQ8 t x.2)=true)
  (hhp:(zER hp).contains t=false) (hm:Nat.ble Γ.m t=true) (hj:J Γ fc k (St.mk' tm ((t,.row z xs)::hp)) e K):J Γ fc k (St.mk' tm ((t,.box cs)::hp)) e K:=by
 subst hxs
 refine zFd (fun a w hr=>?_) hj
 obtain ⟨h0,β,bs,h⟩:=hr
 obtain ⟨b1,b2,rfl,⟨hnil,_,ws,hO,_,hcr⟩,hrest⟩:=h.hp
 have hall:∀x∈xs,x.length=z∧x.all D.zPM=true:=fun x hx=>by
  have:=List.all_eq_true.1 hz x hx
  simpa using this
 obtain ⟨hE,rfl⟩:=zLj (fun x hx=>(hall x hx).2) hcr
 have htn:t∉zER hp:=by simpa using hhp
 have hown:(zFi β t {(β t) with z:=z} t).own =(β t).own :=by rw [xH]; rfl
 refine ⟨?_,zFi β t {(β t) with z:=z},(β t).own ++([]++b2),{defers:=h.defers,size:=h.size,keys:=h.keys,par:=fun k hk=>?_,grow:=h.grow,gh:=h.gh,quiet:=h.quiet,keep:=h.keep,hp:=?_,nodup:=h.nodup,own:=h.own,tm:=?_}⟩
 ·intro q hq
  simp only [St.mk',List.mem_append]
  exact hq
 ·have:=Nat.le_of_ble_eq_true hm
  rw [zAV (by omega)]
  exact h.par k hk
 ·refine ⟨[],b2,by rw [hown],⟨by rw [xH],fun x hx=>(hall x hx).1,.inr ⟨by rw [xH]; exact hnil,ws,?_,?_⟩⟩,?_⟩
  ·rw [xH]; exact hO
  ·exact zS.frame (fun b hb=>⟨hb,rfl⟩) xs ws [] (by simp) hE
  ·refine vJ.frame (fun b hb=>⟨hb,rfl⟩) _ _ (fun _ _=>rfl) (fun q hq=>zAV (fun e=>htn (e▸hq))) hrest
 ·intro q d hd
  obtain ⟨v,h1,h2⟩:=h.tm q d hd
  exact ⟨v,h1,zN8 (List.all_eq_true.1 htm _ hd) h2⟩
end
section
variable {Γ:Ctx} {ops:Array Oper} {o:Oper}
theorem zK7 {c:Cert} {x y:Operand} {T el:TypeId} {k:IntKind} {z n t j:Nat} {i:Int} {xs:List (List D)} (hg:o.guard=none) (hop:o.op= .indexAddr T x y)
  (hc:c= {tn:=c.tn,hn:=c.hn,out:=some (.pt t j 0)}) (hx:OpF c x (.pt t 0 0)) (hy:OpF c y (.sc (.int k i))) (hT:zX Γ.P (underlying T)=some (.array n el)) (hz:zEO Γ.P el=some z)
  (hi:0≤i) (hj:i<n) (hjj:i.toNat=j) (hh:(t,.row z xs)∈c.hn):Valid Γ ops o c:=by
 refine uQ (d:=.pt t j 0) (f:=fun ρ=>Instr.indexAt T (ρ x) (ρ y)) hg (fun ρ=>by simp [execOp,hop]) (by rw [hc]) fun β bs σ a w hn hr=>?_
 have h1:=OpF.rep hx hn hr
 have h2:=OpF.rep hy hn hr
 obtain ⟨_,⟨hLz,_⟩,_⟩:=vJ.get hr.hp (hn.2.1 _ hh)
 simp only [Rep] at h1 h2
 obtain ⟨_,_,hnil,hv⟩:=h1
 refine ⟨.pointer (some ⟨(β t).b,(β t).o +j*(β t).z +0,none⟩),?_,by simp only [Rep]; exact ⟨trivial,trivial,hnil,trivial⟩⟩
 rw [h2.1,hv]
 unfold Instr.indexAt
 rw [run_bind_ok (a:=(k,i)) (w':=w) rfl]
 simp only
 rw [run_bind_ok (zL _ _ w hT)]
 simp only
 rw [run_bind_ok (a:=(⟨(β t).b,(β t).o +0*(β t).z +0,none⟩:Addr)) (w':=w) rfl]
 rw [run_bind_ok (a:=(some (⟨(β t).b,(β t).o +0*(β t).z +0,none⟩:Addr),n,el)) (w':=w) rfl]
 rw [run_bind_ok (zL _ _ w hT)]
 simp only
 rw [if_pos ⟨hi,hj⟩]
 rw [run_bind_ok (zL _ _ w hz)]
 rw [zCY,hLz,←hjj]
 simp
def zNz {α:Type} (xs:List α) (n:Nat) (i:Int):Option α:=if xs.length=n then idx xs i else none
theorem zFE {α:Type} {xs:List α} {n:Nat} {i:Int} {a:α} (h:zNz xs n i=some a):idx xs i=some a:=by
 unfold zNz at h
 split at h
 ·exact h
 ·cases h
theorem zMZ {α:Type} {xs:List α} {i:Int} {a:α} {kk:IntKind} (T el z t:Nat) (enc:α→List D) (x y:Operand) (n:Nat) (h:zNz xs n i=some a) (hx:OkO x (.pt t 0 0):=by trivial) (hy:OkO y (.sc (.int kk i)):=by first|trivial|rfl)
  (hT:(zX Γ.P (underlying T),zEO Γ.P el)=(some (.array n el),some z):=by kernel_rfl):
  OpV Γ (.indexAddr T x y) {tn:=tnO x (.pt t 0 0)++tnO y (.sc (.int kk i)),hn:=[(t,rE z enc xs)],out:=some (.pt t i.toNat 0)}:=by
 simp only [Prod.mk.injEq] at hT
 unfold zNz at h
 split at h
 ·rename_i hl
  obtain ⟨h1,h2⟩:=zEn h
  have:=(List.getElem?_eq_some_iff.1 h2).1
  intro ops o hop hg
  exact zK7 hg hop rfl (hx.f (fun y hy=>List.mem_append_left _ hy)) (hy.f (fun y hy=>List.mem_append_right _ hy)) hT.1 hT.2 h1 (by omega) rfl (.head _)
 ·cases h
theorem zNV (T:TypeId) (vs:List Value) (hz:zX Γ.P (Instr.build T #[])=some (.agg vs.toArray):=by kernel_rfl) (h1:vs.all Value.oneCell=true:=by kernel_rfl):OpV Γ (.build T #[]) {out:=some (.ag (vs.map D.sc))}:=by
 intro ops o hop hg
 refine uQ (d:=.ag (vs.map D.sc)) (f:=fun ρ=>Instr.build T #[]) hg (fun ρ=>by simp [execOp,hop]) rfl fun β bs σ a w hn hr=>?_
 refine ⟨_,zL _ _ w hz,?_⟩
 simp only [Rep]
 exact ⟨trivial,vs,rfl,fun x hx=>List.all_eq_true.1 h1 x hx,zEB vs⟩
end
end Go.Im
set_option linter.unusedVariables false
namespace Go.Im
open Go
section
variable {Γ:Ctx} {ops:Array Oper} {o:Oper}
end
end Go.Im
set_option linter.unusedVariables false
namespace Go.Im
open Go
def zQX (n:Nat):List Nat→Bool
 |[]=>false
 |m::ms=>Nat.beq n m||zQX n ms
def dl {α:Type} (del:List Nat) (add:List (Nat×α)):List (Nat×α)→List (Nat×α)
 |[]=>add
 |x::l=>match zQX x.1 del with
  |true=>dl del add l
  |false=>x::dl del add l
section
variable {Γ:Ctx} {fc:Code} {k:List II} {σ:St} {T:Type} {K:T→Option (D×List Ent)}
theorem J_d {e:Option T} (p:Nat) (ids:List (Nat×Nat)) (x:List Nat) (y:List (Nat×D)) (x':List Nat) (y':List (Nat×Ent)) {orc:List (Nat×Cert)} (hor:zHD Γ fc p orc) (hj:J Γ fc (aft fc p) (St.mk' (dl x y σ.tm) (dl x' y' σ.hp)) e K)
  (h:(zQE fc σ.tm p k&&Γ.P.follows .mixedOrders,(chk Γ.P Γ.nt Γ.m fc p orc ids σ (dl x y σ.tm) (dl x' y' σ.hp)).1,(chk Γ.P Γ.nt Γ.m fc p orc ids σ (dl x y σ.tm) (dl x' y' σ.hp)).2.2.1,(chk Γ.P Γ.nt Γ.m fc p orc ids σ (dl x y σ.tm) (dl x' y' σ.hp)).2.2.2.2)=
   (true,(chk Γ.P Γ.nt Γ.m fc p orc ids σ (dl x y σ.tm) (dl x' y' σ.hp)).2.1,(chk Γ.P Γ.nt Γ.m fc p orc ids σ (dl x y σ.tm) (dl x' y' σ.hp)).2.2.2.1,true):=by kernel_rfl):J Γ fc k σ e K:=
 J_g p ids _ _ hor hj h
end
end Go.Im
set_option linter.unusedVariables false
namespace Go.Im
open Go
mutual
inductive Wk:D→D→Prop where
 |same {d:D}:Wk d d
 |ln {z n:Nat} {xs:List (List D)}:Wk (.s false z n xs) (.ln n)
 |tu {cs cs':List D}:WkL cs cs'→Wk (.tu cs) (.tu cs')
 |ag {cs cs':List D}:WkL cs cs'→Wk (.ag cs) (.ag cs')
inductive WkL:List D→List D→Prop where
 |nil:WkL [] []
 |cons {d d':D} {ds ds':List D}:Wk d d'→WkL ds ds'→WkL (d::ds) (d'::ds')
end
section
variable {β:Nat→Loc} {N:Nat→Prop} {w:World}
mutual
theorem Wk.rep:∀{d d':D} {v:Value} {bs:List Nat},Wk d d'→Rep β N w true d v bs→Rep β N w true d' v bs
 |_,_,_,_,.same,h=>h
 |_,_,v,bs,.ln (z:=z) (n:=n) (xs:=xs),h=>by
  have e:=Rep.free (d:=.s false z n xs) rfl h
  subst e
  simp only [Rep] at h ⊢
  obtain ⟨_,_,a,cap,h1,h2,_⟩:=h
  exact ⟨trivial,a,cap,h1,h2⟩
 |_,_,v,bs,.tu hl,h=>by
  simp only [Rep] at h ⊢
  obtain ⟨h1,ws,h2,h3⟩:=h
  exact ⟨trivial,ws,h2,WkL.rep hl h3⟩
 |_,_,v,bs,.ag hl,h=>by
  simp only [Rep] at h ⊢
  obtain ⟨h1,ws,h2,h4,h3⟩:=h
  exact ⟨trivial,ws,h2,h4,WkL.rep hl h3⟩
theorem WkL.rep:∀{ds ds':List D} {vs:List Value} {bs:List Nat},WkL ds ds'→zJ β N w true ds vs bs→zJ β N w true ds' vs bs
 |_,_,_,_,.nil,h=>h
 |_,_,vs,bs,.cons h1 h2,h=>by
  simp only [zJ] at h ⊢
  obtain ⟨v,vs',b1,b2,h3,h4,h5,h6⟩:=h
  exact ⟨v,vs',b1,b2,h3,h4,Wk.rep h1 h5,WkL.rep h2 h6⟩
end
end
theorem zQD {P:Program} {f:FuncId} {args:List D} {hin:List Ent} {R:Type} {e:Option R} {g:R→D×List Ent} (g':R→D×List Ent) (h:Ok P f args hin (e.map g)) (hw:∀r,Wk (g r).1 (g' r).1) (he:∀r,(g r).2=(g' r).2:=by intro _; rfl):
  Ok P f args hin (e.map g'):=by
 intro out ho w N β vs bs h1 h2 h3 h4 h5 h6
 cases e with
 |none=>cases ho
 |some r=>
  simp only [Option.map_some,Option.some.injEq] at ho
  subst ho
  refine (h (g r) rfl w N β vs bs h1 h2 h3 h4 h5 h6).mono ?_
  rintro e' w' ⟨v,b1,b2,q1,q2,q3,q4,q5,q6,q7,q8⟩
  exact ⟨v,b1,b2,q1,q2,q3,q4,q5,q6,(hw r).rep q7,by rw [←he r]; exact q8⟩
section
variable {Γ:Ctx} {ops:Array Oper} {o:Oper}
theorem zGO {β:Nat→Loc} {N:Nat→Prop} {w:World}:∀{xs:List (List D)} {ws:List Value} {bs:List Nat},(∀e∈xs,e.all D.free=true)→zS β N w xs ws bs→bs=[]
 |[],ws,bs,_,h=>by simp only [zS] at h; exact h.2
 |e::es,ws,bs,hf,h=>by
  simp only [zS] at h
  obtain ⟨w1,w2,b1,b2,rfl,rfl,h3,h4⟩:=h
  have e1:=zJ.frees (fun d hd=>List.all_eq_true.1 (hf e (by simp)) d hd) h3
  have e2:=zGO (fun e he=>hf e (by simp [he])) h4
  rw [e1,e2]
  rfl
theorem zL7 {c:Cert} {x y:Operand} {T U el e':TypeId} {t td ts n m z bytes off:Nat} {cd:Option Nat} {zv:Value} {xs ys:List (List D)} (hg:o.guard=none)
  (hop:o.op= .call {callee:=.builtin .append,args:= #[x,y],argTypes:= #[T,U]}) (hc:c= {tn:=c.tn,hn:=c.hn,out:=some (.rf t 0 (n+m) none),hx:=[td],hw:=[(t,.row z (xs++(ys.drop off).take m))],fr:=[t]})
  (hm:Γ.m≤t) (hx:OpF c x (.rf td 0 n cd)) (hy:OpF c y (.sub ts off m)) (hxr:(td,.row z xs)∈c.hn) (hyr:(ts,.row z ys)∈c.hn) (hlx:xs.length=n) (hle:off+m≤ys.length)
  (hT:Γ.P.underlying T=some (.slice el)) (hU:Γ.P.underlying U=some (.slice e')) (hinfo:(Γ.P.info? el).map (fun i=>(i.zero,i.size,i.bytes))=some (some zv,z,bytes)) (hzs:zv.cells.size=z)
  (hone:∀e∈ys,e.all zDz=true) (hfree:∀e∈ys,e.all D.free=true) (hbig:(n+m)*bytes≤140737488355328) (h62:n+m≤4611686018427387904):Valid Γ ops o c:=by
 intro σ a w Q hdst hn ⟨h0,β,bs,hr⟩
 have hwt:Region.wanted o (yielded ops a.tmps)=true:=by simp [Region.wanted,hg]
 rw [if_pos hwt]
 have hfr:t∉σ.us:=hn.2.2 t (by rw [hc]; simp)
 obtain ⟨b1,bk,p1,hE1,hrest⟩:=vJ.take hr.hp hr.keys (hn.2.1 _ hxr)
 obtain ⟨wx,hD,hEx,hzx⟩:=zHU (OpF.rep hx hn hr) hE1 hlx
 have hyv:=OpF.rep hy hn hr
 simp only [Rep] at hyv
 obtain ⟨_,_,ad,cap,hv,hcap,hcase⟩:=hyv
 obtain ⟨b2,⟨hLz,hzz,hrow⟩,_,_⟩:=vJ.get hr.hp (hn.2.1 _ hyr)
 have hzy:∀e∈(ys.drop off).take m,e.length=z:=fun e he=>hzz e (List.mem_of_mem_drop (List.mem_of_mem_take he))
 have hly:((ys.drop off).take m).length =m:=by simp; omega
 have hone':∀e∈(ys.drop off).take m,e.all zDz=true:=fun e he=>hone e (List.mem_of_mem_drop (List.mem_of_mem_take he))
 obtain ⟨wy,hEy,hS⟩:∃wy,zS β (NS Γ w bs) w ((ys.drop off).take m) wy []∧((a.eval y= .slice ad m cap∧m=0∧wy=[])∨∃b off c,a.eval y= .slice (some ⟨b,off,none⟩) m c∧Has w b off wy∧wy.length=m*z):=by
  rcases hcase with rfl|⟨hnil,rfl,hroom⟩
  ·exact ⟨[],by simp [zS],.inl ⟨hv,rfl,rfl⟩⟩
  ·rcases hrow with ⟨hnil',_⟩|⟨_,ws,hO,hE⟩
   ·rw [hnil] at hnil'; cases hnil'
   have:=zGO hfree hE
   subst this
   have q2:=(zS.sub m (zS.sub off hE hzz).2 (fun e he=>hzz e (List.mem_of_mem_drop he))).1
   refine ⟨_,q2,.inr ⟨_,_,cap,hv,?_,?_⟩⟩
   ·rw [hLz]; exact hO.has.sub (off*z) (m*z)
   ·rw [q2.length hzy,hly]
 have hsrc:Go.Src Γ.P z U (a.eval y) m wy w:=by
  rcases hS with ⟨h1,h2,h3⟩|h
  ·rw [h1]
   subst h2; subst h3
   cases ad with
   |none=>exact Src.ofNil w hU cap
   |some ad=>exact Src.ofSlice w hU ad 0 cap [] (by simp) (by simp) (by simp)
  ·exact zFO hU (zE2 hone' hEy) (.inr h)
 obtain ⟨r,w1,hrun,hA⟩:=zFX (ty:=o.type) hT hinfo hzs hD hsrc hbig h62
 have hex:(execOp a.eval o).run Γ.P w= .ok (.value r) w1:=by
  rw [zCf hop]
  simp only [builtin,List.map_toArray,List.map_cons,List.map_nil]
  exact run_bind_ok hrun
 unfold Oper.wp
 rw [hex,Oper.upon_value]
 refine zF2 (b1:=b1) (b2:=[]) (bx:=[]) (bk:=bk) (blk:=(β td).own) h0 hr hdst (by rw [hc]) hfr hm ?_ ?_ hEx hEy hzx hzy hlx hly hA (by rw [hc])
 ·simpa using p1
 ·rw [hc]
  rw [←zI7] at hrest
  exact hrest
theorem zN7 {α:Type} {xs ys r zs:List α} {l hi:Int} (T U el e' z bytes t td ts:Nat) (enc:α→List D) (x y:Operand) (hs:zEH ys l hi=some r) (h:app bytes xs r=some zs) (hx:OkO x (.rf td 0 xs.length none):=by trivial) (hy:OkO y (.sub ts l.toNat r.length):=by trivial)
  (hone:∀a,(enc a).all zDz=true:=by intro _; rfl) (hfree:∀a,(enc a).all D.free=true:=by intro _; rfl) (hT:(Γ.P.underlying T,Γ.P.underlying U,zLv Γ.P el,(zIi Γ.P el).cells.size,Nat.ble Γ.m t)=(some (.slice el),some (.slice e'),some (some (zIi Γ.P el),z,bytes),z,true):=by kernel_rfl):
  OpV Γ (.call {callee:=.builtin .append,args:= #[x,y],argTypes:= #[T,U]}) {tn:=tnO x (.rf td 0 xs.length none)++tnO y (.sub ts l.toNat r.length),hn:=[(td,rE z enc xs),(ts,rE z enc ys)],out:=some (.rf t 0 zs.length none),hx:=[td],hw:=[(t,rE z enc zs)],fr:=[t]}:=by
 simp only [Prod.mk.injEq] at hT
 obtain ⟨h1,h2,h3,h4,h5⟩:=hT
 obtain ⟨q1,q2,q3,q4,q5⟩:=zGk hs
 obtain ⟨rfl,g1,g2⟩:=zI2 h
 intro ops o hop hg
 refine zL7 (xs:=xs.map enc) (ys:=ys.map enc) (m:=r.length) (off:=l.toNat) (n:=xs.length) hg hop ?_ (Nat.le_of_ble_eq_true h5) (hx.f (fun y hy=>List.mem_append_left _ hy)) (hy.f (fun y hy=>List.mem_append_right _ hy)) (.head _) (.tail _ (.head _)) (by simp) (by rw [List.length_map]; omega) h1 h2 h3 h4 ?_ ?_ g1 g2
 ·congr 1
  ·simp
  ·show [(t,Ent.row z ((xs++r).map enc))]=_
   rw [List.map_append,←List.map_drop,←List.map_take,q5,←q4]
 ·intro e he
  obtain ⟨a,_,rfl⟩:=List.mem_map.1 he
  exact hone a
 ·intro e he
  obtain ⟨a,_,rfl⟩:=List.mem_map.1 he
  exact hfree a
end
end Go.Im
set_option linter.unusedVariables false
namespace Go.Im
open Go
section
variable {Γ:Ctx} {ops:Array Oper} {o:Oper}
end
end Go.Im
set_option linter.unusedVariables false
namespace Go.Im
open Go
theorem zOe {P:Program} {f:FuncId} {xs:List ByteArray}
  (h:∀(blk off cap:Nat) (w:World),Sort.Holds Go.Proofs.encStr w blk off (xs.map (·.data.toList)).toArray →blk<w.heap.size→Calls P f #[.slice (some ⟨blk,off,none⟩) xs.length cap] w fun e w'=>e= .returned (.tuple #[])∧∃n os,w'=Sort.grow (Sort.putRow Go.Proofs.encStr (Sort.ahead w n) blk off ((xs.map (·.data.toList)).mergeSort fun x y=>decide (x≤y)).toArray) os)
  (h0:∀(p:Option Addr) (cap:Nat) (w:World),Calls P f #[.slice p 0 cap] w fun e w'=>e= .returned (.tuple #[])∧w'=w):
  Ok P f [.rf 0 0 xs.length none] [.row 1 (xs.map eStr)] (some (.tu [],[.row 1 ((((xs.map (·.data.toList)).mergeSort fun x y=>decide (x≤y)).map fun l=>(⟨l.toArray⟩:ByteArray)).map eStr)])):=by
 have k:=zME (P:=P) (f:=f) (enc:=Go.Proofs.encStr) (xs:=xs.map (·.data.toList)) (ys:=(xs.map (·.data.toList)).mergeSort fun x y=>decide (x≤y)) (by simp [List.length_mergeSort])
  (fun blk off cap w hH hb=>by rw [List.length_map]; exact h blk off cap w hH hb) (fun _ p cap w=>h0 p cap w)
 have e1:(xs.map (·.data.toList)).map (fun a=>[D.sc (Go.Proofs.encStr a)])=xs.map eStr:=by
  rw [List.map_map]
  apply List.map_congr_left
  intro a _
  simp [eStr,Go.Proofs.encStr]
 have e2:∀l:List (List UInt8),l.map (fun a=>[D.sc (Go.Proofs.encStr a)])=(l.map fun l=>(⟨l.toArray⟩:ByteArray)).map eStr:=fun l=>by
  rw [List.map_map]
  apply List.map_congr_left
  intro a _
  simp [eStr,Go.Proofs.encStr]
 rw [e1,e2,List.length_map] at k
 exact k
end Go.Im
set_option linter.unusedVariables false
namespace Go.Im
open Go
theorem zMz {P:Program} {f:FuncId} {w w':World} {N:Nat→Prop} {bs blk bsub:List Nat} {m z k:Nat} {β:Nat→Loc} {L:List (List D)} {W:List Value} {r:Value}
  (hE:zS β N w L W bsub) (hz:∀e∈L,e.length=z) (hk:L.length=k) (ha:zNB w w' z k 0 W [] blk r) (hblk:∀b∈blk,b∈bs) (hsub:∀b∈bsub,b∈bs) (hnd:bsub.Nodup)
  (hsep:∀b∈bsub,b∉blk) (hlt:∀b∈bs,b<w.heap.size) (hN:∀b,N b→b<w.heap.size∧b∉bs):Post ⟨P,f,w,N,bs,m,β,0⟩ (.s true z k L) [] (.returned r) w':=by
 obtain ⟨hq,ha⟩:=ha
 rcases ha with ⟨hk0,_,rfl,rfl⟩|⟨b,off,c,rfl,hc,hO,hb,hcase⟩
 ·have hL:L=[]:=List.length_eq_zero_iff.1 (by omega)
  subst hL
  refine ⟨_,[],[],rfl,hq,Nat.le_refl _,fun _ _ _=>rfl,by simp,by simp,?_,rfl⟩
  simp only [Rep]
  exact ⟨hk,hz,none,0,by rw [show k=0 by omega],by omega,.inl ⟨by omega,by trivial,fun _=>⟨by trivial,by trivial⟩⟩⟩
 ·have hcommon:(∀b',b'<w.heap.size→b'∉blk→w'.heap[b']? =w.heap[b']?)∧w.heap.size≤w'.heap.size∧(b∈blk∨w.heap.size≤b):=by
   rcases hcase with ⟨rfl,q1,q2⟩|⟨rfl,q1,q2⟩
   ·exact ⟨fun b' _ hb'=>q1 b' (by simpa using hb'),by omega,.inl (by simp)⟩
   ·exact ⟨fun b' hb' _=>q2 b' hb',q1,.inr (Nat.le_refl _)⟩
  obtain ⟨h1,h2,h3⟩:=hcommon
  have hbn:b∉bsub:=fun h=>by
   rcases h3 with h3|h3
   ·exact hsep b h h3
   ·have:=hlt b (hsub b h); omega
  have hNS:∀b',N b'→NS ⟨P,f,w,N,bs,m,β,0⟩ w' (b::bsub++[]) b'∧w'.heap[b']? =w.heap[b']? :=fun b' hb'=>by
   obtain ⟨u1,u2⟩:=hN b' hb'
   refine ⟨⟨.inl hb',by omega,fun h=>?_⟩,h1 b' u1 (fun h=>u2 (hblk b' h))⟩
   simp only [List.append_nil,List.mem_cons] at h
   rcases h with rfl|h
   ·rcases h3 with h3|h3
    ·exact u2 (hblk _ h3)
    ·omega
   ·exact u2 (hsub b' h)
  refine ⟨_,b::bsub,[],rfl,hq,h2,fun b' hb' hb2=>h1 b' hb' (fun h=>hb2 (hblk b' h)),by simpa using ⟨hbn,hnd⟩,?_,?_,rfl⟩
  ·intro b' hb'
   simp only [List.append_nil,List.mem_cons] at hb'
   rcases hb' with rfl|hb'
   ·refine ⟨hb,?_⟩
    rcases h3 with h3|h3
    ·exact .inl (hblk _ h3)
    ·exact .inr h3
   ·have:=hlt b' (hsub b' hb')
    exact ⟨by omega,.inl (hsub b' hb')⟩
  ·simp only [Rep]
   refine ⟨hk,hz,some ⟨b,off,none⟩,c,rfl,by simpa using hc,.inr (.inr ⟨trivial,b,off,W,bsub,rfl,rfl,by simpa using hO,?_⟩)⟩
   exact zS.frame hNS L W bsub (fun b' hb'=>h1 b' (hlt b' (hsub b' hb')) (hsep b' hb')) hE
theorem zPp {β:Nat→Loc} {N:Nat→Prop} {w:World} {α:Type} {enc:α→List D} {xs:List α} {ws:List Value} {bs:List Nat} (hone:∀a,(enc a).all zDz=true) (h:zS β N w (xs.map enc) ws bs):∀x∈ws,Value.oneCell x=true:=
 zE2 (fun e he=>by obtain ⟨a,_,rfl⟩:=List.mem_map.1 he; exact hone a) h
theorem zM0 {P:Program} {f:FuncId} {α:Type} {enc:α→List D} {xs:List α} {i j:Int} {z:Nat} (hone:∀a,(enc a).all zDz=true) (h0:0≤i) (h1:i≤j) (h2:j≤xs.length)
  (hraw:∀(w:World) (v:Value) (wx:List Value) (bx:List Nat),Dst w z xs.length v wx bx→(∀b∈bx,b<w.heap.size)→(∀q∈wx,Value.oneCell q=true)→
   Calls P f #[v,.int .i64 i,.int .i64 j] w fun e w'=>∃r,e= .returned r∧zNB w w' z (i.toNat+(xs.length-j.toNat)) 0 (wx.take (i.toNat*z)++wx.drop (j.toNat*z)) [] bx r):
  Ok P f [.rf 0 0 xs.length none,.sc (.int .i64 i),.sc (.int .i64 j)] [.row z (xs.map enc)] (some (.s true z (xs.take i.toNat++xs.drop j.toNat).length ((xs.take i.toNat++xs.drop j.toNat).map enc),[])):=by
 intro out ho w N β vs bs ha hh hnd hlt hN _
 cases ho
 simp only [zJ] at ha
 obtain ⟨v,_,a1,a2,rfl,e12,hv,u0,_,a3,a4,rfl,rfl,hi,u,_,a5,a6,rfl,rfl,hj,rfl,rfl⟩:=ha
 have ea:a1=[]∧a3=[]∧a5=[]:=by simpa using e12.symm
 obtain ⟨rfl,rfl,rfl⟩:=ea
 simp only [Rep] at hi hj
 obtain ⟨rfl,_⟩:=hi
 obtain ⟨rfl,_⟩:=hj
 obtain ⟨b1,_,rfl,hE1,hnil⟩:=hh
 have hnil':_=[]:=hnil
 subst hnil'
 obtain ⟨wx,hD1,hx,hzx⟩:=zHU hv hE1 (by simp)
 simp only [List.append_nil] at hnd hlt hN ⊢
 have hnd1:=List.nodup_append.1 hnd
 refine (hraw w v wx _ hD1 (fun b hb=>hlt b (by simp [hb])) (zPp hone hx)).mono ?_
 rintro e w' ⟨r,rfl,hA⟩
 obtain ⟨d1,d2,ed,g1,g2⟩:=hx.cut i.toNat hzx
 have g3:=g2.cut (j.toNat-i.toNat) (fun e he=>hzx e (List.mem_of_mem_drop he))
 obtain ⟨d3,d4,rfl,_,g4⟩:=g3
 subst ed
 have hdd:=List.nodup_append.1 hnd1.2.1
 have hL:zS β N w ((xs.take i.toNat++xs.drop j.toNat).map enc) (wx.take (i.toNat*z)++wx.drop (j.toNat*z)) (d1++d4):=by
  simp only [List.map_append,List.map_take,List.map_drop]
  rw [List.drop_drop,List.drop_drop,←Nat.add_mul,show i.toNat+(j.toNat-i.toNat)=j.toNat by omega] at g4
  exact g1.append g4
 refine zMz (blk:=(β 0).own) hL (fun e he=>?_) (by simp) (by
  rw [show (xs.take i.toNat++xs.drop j.toNat).length =i.toNat+(xs.length-j.toNat) by simp; omega]; exact hA) (fun b hb=>by simp [hb]) (fun b hb=>?_) ?_ (fun b hb hb'=>?_) hlt hN
 ·simp only [List.map_append,List.mem_append] at he
  rcases he with he|he
  ·rw [List.map_take] at he; exact hzx e (List.mem_of_mem_take he)
  ·rw [List.map_drop] at he; exact hzx e (List.mem_of_mem_drop he)
 ·simp only [List.mem_append] at hb ⊢
  rcases hb with h|h<;>simp [h]
 ·refine List.nodup_append.2 ⟨hdd.1,(List.nodup_append.1 hdd.2.1).2.1,?_⟩
  intro x hx' y hy' e
  subst e
  exact hdd.2.2 x hx' x (by simp [hy']) rfl
 ·refine hnd1.2.2 b hb' b ?_ rfl
  simp only [List.mem_append] at hb ⊢
  rcases hb with h|h<;>simp [h]
end Go.Im
set_option linter.unusedVariables false
namespace Go.Im
open Go
theorem zOP {arr:Array Value} {o A B:Nat} {X Y W:List Value} (hA:o+A+X.length≤arr.size) (hB:o+B+Y.length≤arr.size)
  (hW:∀k,k<W.length→(if B≤k∧k<B+Y.length then Y[k-B]? else if A≤k∧k<A+X.length then X[k-A]? else arr[o+k]?)=W[k]?):
  ∀k (hk:k<W.length),(zD4 (zD4 arr (o+A) X) (o+B) Y)[o+k]? =some W[k]:=by
 intro k hk
 rw [zEk _ _ _ (by rw [uL]; exact hB),zEk _ _ _ hA]
 have:=hW k hk
 rw [List.getElem?_eq_getElem hk] at this
 rw [←this]
 by_cases c1:B≤k∧k<B+Y.length
 ·rw [if_pos (by omega),if_pos c1]; congr 1; omega
 ·rw [if_neg (by omega),if_neg c1]
  by_cases c2:A≤k∧k<A+X.length
  ·rw [if_pos (by omega),if_pos c2]; congr 1; omega
  ·rw [if_neg (by omega),if_neg c2]
theorem zNB.world {w w1 w2:World} {z n m:Nat} {wx wy:List Value} {blk:List Nat} {r:Value} (h:zNB w w1 z n m wx wy blk r) (hn:0<n+m) (hh:w2.heap=w1.heap) (hq:w2.os=w1.os∧w2.output=w1.output):zNB w w2 z n m wx wy blk r:=by
 obtain ⟨h1,h2⟩:=h
 refine ⟨⟨hq.1.trans h1.1,hq.2.trans h1.2⟩,?_⟩
 rcases h2 with ⟨h2,_⟩|⟨b,off,c,h3,h4,h5,h6,h7⟩
 ·omega
 ·exact .inr ⟨b,off,c,h3,h4,h5.frame (by rw [hh]),by rw [hh]; exact h6,by rw [hh]; exact h7⟩
theorem zOl {w w0:World} (hw0:w0.heap=w.heap∧w0.os=w.os∧w0.output=w.output) {b off c z n i j:Nat} {wx zs:List Value} (hO:Own w b off (c*z) wx) (hl:wx.length=n*z) (hij:i≤j) (hj:j≤n) (hc:n≤c) (hzs:zs.length=(j-i)*z):
  zNB w (putCells (putCells w0 b (off+i*z) (wx.drop (j*z))) b (off+(i+(n-j))*z) zs) z (i+(n-j)) 0 (wx.take (i*z)++wx.drop (j*z)) [] [b] (.slice (some ⟨b,off,none⟩) (i+(n-j)) c):=by
 obtain ⟨arr,e,lo,hi,g1,g2,g3,g4⟩:=hO
 have g1':w0.heap[b]? =some (.cells arr e (lo,hi)):=by rw [hw0.1]; exact g1
 obtain ⟨p1,p2,p3⟩:=wL (off:=off+i*z) (vs:=wx.drop (j*z)) g1'
 obtain ⟨q1,q2,q3⟩:=wL (off:=off+(i+(n-j))*z) (vs:=zs) p1
 obtain ⟨d,rfl⟩:∃d,j=i+d:=⟨j-i,by omega⟩
 obtain ⟨k,rfl⟩:∃k,n=i+d+k:=⟨n-(i+d),by omega⟩
 have e1:(i+d)*z=i*z+d*z:=Nat.add_mul _ _ _
 have e2:(i+(i+d+k-(i+d)))*z=i*z+k*z:=by rw [show i+(i+d+k-(i+d))=i+k by omega]; exact Nat.add_mul _ _ _
 have e3:(i+d+k)*z=i*z+d*z+k*z:=by rw [Nat.add_mul,Nat.add_mul]
 have e4:(i+d-i)*z=d*z:=by rw [show i+d-i=d by omega]
 have hcz:(i+d+k)*z≤c*z:=Nat.mul_le_mul_right _ hc
 have hlen:(wx.take (i*z)++wx.drop ((i+d)*z)).length =i*z+k*z:=by simp; omega
 refine ⟨⟨(kL _ _ _ _).1.trans ((kL _ _ _ _).1.trans hw0.2.1),(kL _ _ _ _).2.trans ((kL _ _ _ _).2.trans hw0.2.2)⟩,.inr ⟨b,off,c,rfl,by omega,?_,?_,.inl ⟨rfl,fun b' hb'=>?_,?_⟩⟩⟩
 ·refine ⟨_,e,lo,hi,q1,by rw [uL,uL]; exact g2,by rw [uL,uL]; exact g3,?_⟩
  rw [List.append_nil]
  refine zOP (by simp; omega) (by omega) (fun q hq=>?_)
  rw [hlen] at hq
  have ht:(wx.take (i*z)).length =i*z:=by simp; omega
  by_cases c1:q<i*z
  ·rw [if_neg (by omega),if_neg (by omega),List.getElem?_append_left (by omega),List.getElem?_take,if_pos c1,g4 q (by omega),List.getElem?_eq_getElem]
  ·rw [if_neg (by omega),if_pos (by simp; omega),List.getElem?_append_right (by omega),ht]
 ·rw [q3,p3,hw0.1]
  rcases Nat.lt_or_ge b w.heap.size with h|h
  ·exact h
  ·rw [Array.getElem?_eq_none h] at g1; cases g1
 ·rw [q2 b' hb',p2 b' hb',hw0.1]
 ·rw [q3,p3,hw0.1]
theorem zLP {w:World} {b k:Nat} {arr:Array Value} {e:TypeId} {lo hi:Nat} (h:w.heap[b]? =some (.cells arr e (lo,hi))) (h2:∀k,k≤arr.size→¬(lo≤k∧k<hi)) (hk:k≤arr.size):w.frozen? ⟨b,k,none⟩=false:=by
 have:=h2 k hk
 simp only [World.frozen?,h,Bool.and_eq_false_imp,decide_eq_true_eq,decide_eq_false_iff_not]
 intro h5 h6; exact this ⟨h5,h6⟩
theorem zKO {P:Program} (w:World) (t e ty:TypeId) (zv:Value) (z:Nat) (ht:P.underlying t=some (.slice e)) (hv:zX P (zeroValue e)=some zv) (hz:zv.cells.size=z) (hone:zv.cells.toList.all Value.oneCell=true) (b o n c:Nat) (hn:0<n)
  (hc:∀j,j<n*z→(w.cell? ⟨b,o+j,none⟩).isSome =true) (hf:∀j,j<n*z→w.frozen? ⟨b,o+j,none⟩=false):
  (Builtin.clear_ #[t] ty #[.slice (some ⟨b,o,none⟩) n c]).run P w= .ok (.tuple #[]) (w.setCells b o (Builtin.zeroCells zv.cells n).toList):=by
 have hl:(Builtin.zeroCells zv.cells n).toList.length =n*z:=by simp [Builtin.zeroCells,hz]
 have hst:=run_storeCells_cells (P:=P) b o (Builtin.zeroCells zv.cells n).toList 0 w (by rw [hl]; simpa using hc) (by rw [hl]; simpa using hf) (fun x hx=>by
  rw [zGf]
  simp only [Builtin.zeroCells,Array.toList_map,List.mem_map] at hx
  obtain ⟨i,hi,rfl⟩:=hx
  have hi':i<n*zv.cells.size:=by simpa using hi
  have hpos:0<zv.cells.size:=by
   rcases Nat.eq_zero_or_pos zv.cells.size with h|h
   ·rw [h] at hi'; simp at hi'
   ·exact h
  rw [getElem!_pos zv.cells _ (Nat.mod_lt _ hpos)]
  exact List.all_eq_true.1 hone _ (by simp))
 simp only [Nat.add_zero] at hst
 obtain ⟨m,rfl⟩:∃m,n=m+1:=⟨n-1,by omega⟩
 have hv':=fun w=>zL (P:=P) _ _ w hv
 simp [Builtin.clear_,run_underlying ht,hv',hst]
end Go.Im
set_option linter.unusedVariables false
namespace Go.Im
open Go
section
variable {Γ:Ctx} {ops:Array Oper} {o:Oper}
end
theorem zQ7 {α:Type} {z:Nat} {enc:α→List D} {xs:List α}:Wk (sl z enc xs) (.ln xs.length):=.ln
end Go.Im

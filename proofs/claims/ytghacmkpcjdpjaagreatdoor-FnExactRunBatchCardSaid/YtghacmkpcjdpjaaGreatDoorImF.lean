import Derived.Test.YtghacmkpcjdpjaaGreatDoorImE
import Derived.Laws.StructEq
import Derived.Sort.Row
import Derived.Sort.Grow
import Derived.Lib.LaidTab
import Derived.Lib.ItoaNum
import Derived.Deep.Draws
import Derived.LaidSub
import Derived.Below
import Derived.Lib.Split
import Derived.Lib.Join
import Derived.Lib.Repeat
import Derived.Handed
import Derived.Shelf.Vars
import Derived.Lib.SplitLaws
import Derived.Lib.ConvBytes
import Derived.Sort.EncStr
import Derived.Laws.IdiomCopy
set_option linter.unusedVariables false
namespace Go.Im
open Go
section
variable {Γ:Ctx} {ops:Array Oper} {o:Oper}
theorem zLa {c:Cert} {x:Operand} {T el:TypeId} {lo hi:Option Operand} {z n l h t:Nat} {xs:List (List D)} (hg:o.guard=none) (hop:o.op= .slice T x lo hi none)
  (hc:c= {tn:=c.tn,hn:=c.hn,out:=some (.sub t l (h-l))}) (hx:OpF c x (.rf t 0 n none)) (hT:yR Γ.P (underlying T)=some (.slice el)) (hz:zFV Γ.P el=some z)
  (hl:zJU c lo 0 l) (hh:zJU c hi n h) (h1:l≤h) (h2:h≤n) (hh':(t,.row z xs)∈c.hn):Valid Γ ops o c:=by
 refine tT (d:=.sub t l (h-l)) (f:=fun ρ=>Instr.sliceAt T (ρ x) (lo.map ρ) (hi.map ρ) none) hg (fun ρ=>by simp [execOp,hop]) (by rw [hc]) fun β bs σ a w hn hr=>?_
 have h3:=OpF.rep hx hn hr
 obtain ⟨_,⟨hLz,_⟩,_⟩:=vO.get hr.hp (hn.2.1 _ hh')
 simp only [Rep] at h3
 obtain ⟨_,_,⟨_,_,rfl,hv⟩|⟨hnil,cp,hv,hcap,hroom,_⟩⟩:=h3
 ·rw [hv]
  refine ⟨_,zDR hn hr hT hz hl hh h1 (by omega),?_⟩
  simp only [Rep]
  exact ⟨trivial,trivial,_,_,rfl,by omega,.inl (by omega)⟩
 ·rw [hv]
  refine ⟨_,zDR hn hr hT hz hl hh h1 (by omega),?_⟩
  simp only [Rep]
  refine ⟨trivial,trivial,_,_,rfl,by omega,?_⟩
  by_cases h0:h-l=0
  ·exact .inl h0
  ·refine .inr ⟨hnil,?_,?_⟩
   ·rw [if_neg (by omega)]
    simp [zEj,hLz]
   ·refine Nat.le_trans (Nat.mul_le_mul_right _ ?_) hroom
    omega
theorem Rel.over {β:Nat→Loc} {bs:List Nat} {σ:St} {a:Act} {w:World} {c:Cert} {t z l:Nat} {xs ys:List (List D)} {vs:List Value} {v:Value} (h0:∀t,t∈zJc σ.tm∨t∈zFJ σ.hp→t∈σ.us) (hr:RelB Γ β bs σ a w)
  {dst:Option Nat} (hd:∀t,dst=some t→t<Γ.nt) (hhx:c.hx=[t]) (hhw:c.hw=[(t,.row z (xs.take l++ys++xs.drop (l+ys.length)))]) (hm:(t,.row z xs)∈σ.hp) (hnil:(β t).nil =false)
  (hl:l+ys.length≤xs.length) (hyz:∀y∈ys,y.length=z) (hE2:∀N w',zU β N w' ys vs []) (ho:∀d,c.out=some d→∀N w',Rep β N w' true d v []):
  Rel Γ (σ.upd dst c) (a.put dst v) (putCells w (β t).b ((β t).o +l*z) vs):=by
 obtain ⟨b1,b2,hp,⟨hLz,hzz,hrow⟩,hrest⟩:=vO.take hr.hp hr.keys hm
 rcases hrow with ⟨hnil',_⟩|⟨_,ws,hO,hE⟩
 ·rw [hnil] at hnil'; cases hnil'
 have hown:(β t).own =[(β t).b]:=by simp [Loc.own,hnil]
 rw [hown] at hp
 have hws:=hE.length hzz
 have hvl:=(hE2 (fun _=>True) w).length hyz
 have hfilt:σ.hp.filter (fun x=> !c.hx.contains x.1)=σ.hp.filter (fun x=>x.1 !=t):=by
  rw [hhx]; congr 1; funext x; by_cases hx:x.1=t<;>simp [hx]
 obtain ⟨d1,d2,e1,hs1,hs2⟩:=hE.cut l hzz
 obtain ⟨d3,d4,e2,hs3,hs4⟩:=hs2.cut ys.length (fun y hy=>hzz y (List.mem_of_mem_drop hy))
 have hheap:(∀b',b'≠(β t).b →(putCells w (β t).b ((β t).o +l*z) vs).heap[b']? =w.heap[b']?)∧(putCells w (β t).b ((β t).o +l*z) vs).heap.size =w.heap.size:=by
  obtain ⟨arr,e,lo,hi,g1,g2,g3,g4⟩:=hO
  exact (wQ g1).2
 have hp2:bs.Perm (((β t).b ::b1)++b2):=by simpa using hp
 have hnd:=hp2.nodup_iff.1 hr.nodup
 have hsub:∀b∈d1++d4,b∈b1:=fun b hb=>by
  rw [e1,e2]
  rcases List.mem_append.1 hb with h|h<;>simp [h]
 have hndn:((β t).b ::(d1++d4)).Nodup :=by
  have q:=(List.nodup_append.1 hnd).1
  rw [e1,e2] at q
  refine List.Nodup.sublist ?_ q
  refine List.Sublist.cons_cons _ ?_
  exact List.Sublist.append_left (List.sublist_append_right _ _) _
 have hbin:∀b∈d1++d4,b≠(β t).b :=fun b hb e=>(List.nodup_cons.1 hndn).1 (e▸hb)
 have hmz:(l+ys.length)*z≤ws.length:=by rw [hws]; exact Nat.mul_le_mul_right _ hl
 have hNS:∀b,NS Γ w bs b→NS Γ (putCells w (β t).b ((β t).o +l*z) vs) ((β t).b ::(d1++d4)++b2) b∧(putCells w (β t).b ((β t).o +l*z) vs).heap[b]? =w.heap[b]? :=by
  rintro b ⟨u1,u2,u3⟩
  have hb1:b≠(β t).b :=fun e=>u3 (hp2.mem_iff.2 (by simp [e]))
  refine ⟨⟨u1,by rw [hheap.2]; exact u2,fun hb=>u3 (hp2.mem_iff.2 ?_)⟩,hheap.1 b hb1⟩
  rcases List.mem_append.1 hb with hb|hb
  ·rcases List.mem_cons.1 hb with hb|hb
   ·exact List.mem_append_left _ (by simp [hb])
   ·exact List.mem_append_left _ (List.mem_cons_of_mem _ (hsub b hb))
  ·exact List.mem_append_right _ hb
 refine Rel.step (β1:=β) (bk:=b2) (br:=(β t).b ::b1) (bn:=(β t).b ::(d1++d4)) h0 hr hd (by rw [hhw]; simp) (by rw [hhw,hhx]; simp) hp2 (by rw [hfilt]; exact hrest) (by rw [hheap.2]; exact Nat.le_refl _)
  (fun b _ hb=>hheap.1 b (fun e=>hb (by simp [e]))) (fun _ _=>rfl) (fun _ _=>rfl) hndn ?_ ?_ (fun d hd=>ho d hd _ _) (wX _ _ _ _)
 ·intro b hb
  rw [hheap.2]
  have:b∈(β t).b ::b1:=by
   rcases List.mem_cons.1 hb with rfl|hb
   ·simp
   ·exact List.mem_cons_of_mem _ (hsub b hb)
  exact ⟨.inl this,(hr.own b (hp2.mem_iff.2 (List.mem_append_left _ this))).1⟩
 ·rw [hhw]
  refine ⟨d1++d4,[],by rw [hown]; simp,⟨hLz,?_,.inr ⟨hnil,ws.take (l*z)++vs++ws.drop (l*z+vs.length),?_,?_⟩⟩,rfl⟩
  ·intro q hq
   simp only [List.mem_append] at hq
   rcases hq with (hq|hq)|hq
   ·exact hzz q (List.mem_of_mem_take hq)
   ·exact hyz q hq
   ·exact hzz q (List.mem_of_mem_drop hq)
  ·obtain ⟨arr,e',lo,hi,g1,g2,g3,g4⟩:=hO
   have hle:(β t).o +ws.length≤arr.size:=by
    rcases Nat.eq_zero_or_pos ws.length with e0|e0
    ·omega
    ·have:=g4 (ws.length-1) (by omega)
     have:=(Array.getElem?_eq_some_iff.1 this).1
     omega
   obtain ⟨arr',e'',lo',hi',u1,u2,u3,u4⟩:=zLf (r:=ws.length) (vs:=vs) (j:=l*z) ⟨arr,e',lo,hi,g1,g2,hle,g4⟩ (by rw [hvl,←Nat.add_mul]; exact hmz) (Nat.le_refl _)
   refine ⟨arr',e'',lo',hi',u1,u2,?_,u4⟩
   have:=(wQ (off:=(β t).o +l*z) (vs:=vs) g1).1
   rw [this] at u1
   cases u1
   rw [vF]
   exact g3
  ·have m1:=zU.frame (β':=β) hNS _ _ _ (fun b hb=>hheap.1 b (hbin b (by simp [hb]))) hs1
   have m3:=zU.frame (β':=β) hNS _ _ _ (fun b hb=>hheap.1 b (hbin b (by simp [hb]))) hs4
   have key:=(m1.append (hE2 _ _)).append m3
   rw [List.append_nil] at key
   have ex:(xs.drop l).drop ys.length=xs.drop (l+ys.length):=by rw [List.drop_drop]
   have ew:(ws.drop (l*z)).drop (ys.length*z)=ws.drop (l*z+vs.length):=by rw [List.drop_drop,hvl]
   rw [ex,ew] at key
   exact key
theorem Rel.noop {σ:St} {a:Act} {w:World} {c:Cert} {t:Nat} {e:Ent} (h:Rel Γ σ a w) (hm:(t,e)∈σ.hp) (hhx:c.hx=[t]) (hhw:c.hw=[(t,e)]):Rel Γ (σ.upd none c) a w:=by
 have h0:=h.1
 obtain ⟨_,β,bs,hr⟩:=h
 have ho:c.outs none=[]:=rfl
 refine Rel.weak ⟨h0,β,bs,hr⟩ (fun y hy=>?_) (fun y hy=>?_) ?_ ?_
 ·simp only [St.upd,ho,List.nil_append,List.mem_filter] at hy
  exact hy.1
 ·simp only [St.upd,hhw,List.mem_append,List.mem_singleton,List.mem_filter] at hy
  rcases hy with rfl|hy
  ·exact hm
  ·exact hy.1
 ·simp only [St.upd,hhw,hhx,List.map_append,List.map_cons,List.map_nil]
  refine List.nodup_append.2 ⟨by simp,List.Nodup.sublist (List.Sublist.map _ List.filter_sublist) hr.keys,?_⟩
  intro q hq q' hq' e'
  subst e'
  obtain ⟨x,hx,rfl⟩:=List.mem_map.1 hq'
  have:=(List.mem_filter.1 hx).2
  simp at hq this
  exact this hq
 ·intro q hq
  simp only [St.upd,List.mem_append]
  refine .inr (h0 q ?_)
  rcases hq with hq|hq
  ·obtain ⟨x,hx,hx'⟩:=List.mem_flatMap.1 hq
   simp only [St.upd,ho,List.nil_append,List.mem_filter] at hx
   exact .inl (List.mem_flatMap.2 ⟨x,hx.1,hx'⟩)
  ·obtain ⟨x,hx,hx'⟩:=List.mem_flatMap.1 hq
   simp only [St.upd,hhw,List.mem_append,List.mem_singleton,List.mem_filter] at hx
   rcases hx with rfl|hx
   ·exact .inr (List.mem_flatMap.2 ⟨_,hm,hx'⟩)
   ·exact .inr (List.mem_flatMap.2 ⟨x,hx.1,hx'⟩)
theorem zI7 (zc:Array Value) (n:Nat):Builtin.zeroCells zc n=madeCells zc (n*zc.size):=rfl
theorem zLn {c:Cert} {x:Operand} {T el:TypeId} {z n l t:Nat} {zv:Value} {e:List D} {xs:List (List D)} (hg:o.guard=none) (hds:o.dst=none) (hop:o.op= .call {callee:=.builtin .clear,args:= #[x],argTypes:= #[T]})
  (hc:c= {tn:=c.tn,hn:=c.hn,hx:=[t],hw:=[(t,.row z (xs.take l++List.replicate n e++xs.drop (l+n)))]}) (hx:OpF c x (.sub t l n)) (hT:Γ.P.underlying T=some (.slice el)) (hzv:yR Γ.P (zeroValue el)=some zv) (hzs:zv.cells.size=z)
  (hone:zv.cells.toList.all Value.oneCell=true) (he:Emb [] (zv.cells.toList.map D.sc) e []) (hel:e.length=z) (hl:l+n≤xs.length) (hh':(t,.row z xs)∈c.hn):Valid Γ ops o c:=by
 intro σ a w Q hdst hn ⟨h0,β,bs,hr⟩
 have hwt:Region.wanted o (yielded ops a.tmps)=true:=by simp [Region.wanted,hg]
 rw [if_pos hwt]
 have h1:=OpF.rep hx hn hr
 simp only [Rep] at h1
 obtain ⟨_,_,ad,cp,hv,hcap,h3⟩:=h1
 have hdst0:∀v,a.put o.dst v=a:=fun v=>by rw [hds]; rfl
 by_cases hn0:n=0
 ·subst hn0
  have hrun:(execOp a.eval o).run Γ.P w= .ok (.value (.tuple #[])) w:=by
   rw [zDE hop]
   simp only [builtin,List.map_toArray,List.map_cons,List.map_nil]
   rw [hv]
   refine run_bind_ok (a:=Value.tuple #[]) (w':=w) ?_
   unfold Builtin.clear_
   simp only [List.getElem?_toArray,List.getElem?_cons_zero]
   rw [run_bind_ok (run_underlying hT w)]
   cases ad<;>rfl
  unfold Oper.wp
  rw [hrun,Oper.upon_value,hdst0,hds]
  exact Rel.noop (t:=t) (e:=.row z xs) ⟨h0,β,bs,hr⟩ (hn.2.1 _ hh') (by rw [hc]) (by rw [hc]; simp)
 ·rcases h3 with h3|⟨hnil,had,hroom⟩
  ·exact absurd h3 hn0
  obtain ⟨b1,b2,hp,⟨hLz,hzz,hrow⟩,hrest⟩:=vO.take hr.hp hr.keys (hn.2.1 _ hh')
  rcases hrow with ⟨hnil',_⟩|⟨_,ws,hO,hE⟩
  ·rw [hnil] at hnil'; cases hnil'
  have hws:=hE.length hzz
  have hcl:(madeCells zv.cells (n*zv.cells.size)).toList.length =n*z:=by rw [Array.length_toList,size_madeCells,hzs]
  have hEn:∀N w',zU β N w' (List.replicate n e) (madeCells zv.cells (n*zv.cells.size)).toList []:=fun N w'=>zHc he n
  have h1c:∀x∈(madeCells zv.cells (n*zv.cells.size)).toList,Value.oneCell x=true:=by
   intro x hx
   simp only [madeCells,Array.toList_map,List.mem_map] at hx
   obtain ⟨i,hi,rfl⟩:=hx
   have hi':i<n*zv.cells.size:=by simpa using hi
   have hpos:0<zv.cells.size:=by
    rcases Nat.eq_zero_or_pos zv.cells.size with h|h
    ·rw [h] at hi'; simp at hi'
    ·exact h
   rw [getElem!_pos zv.cells _ (Nat.mod_lt _ hpos)]
   exact List.all_eq_true.1 hone _ (by simp)
  have hrun:(execOp a.eval o).run Γ.P w= .ok (.value (.tuple #[])) (putCells w (β t).b ((β t).o +l*z) (madeCells zv.cells (n*zv.cells.size)).toList):=by
   rw [zDE hop]
   simp only [builtin,List.map_toArray,List.map_cons,List.map_nil]
   rw [hv,had]
   refine run_bind_ok (a:=Value.tuple #[]) (w':=putCells w (β t).b ((β t).o +l*z) (madeCells zv.cells (n*zv.cells.size)).toList) ?_
   unfold Builtin.clear_
   simp only [List.getElem?_toArray,List.getElem?_cons_zero]
   rw [run_bind_ok (run_underlying hT w)]
   obtain ⟨m,rfl⟩:∃m,n=m+1:=⟨n-1,by omega⟩
   simp only
   obtain ⟨arr,e',lo,hi,g1,g2,g3,g4⟩:=hO
   have hle:(β t).o +ws.length≤arr.size:=by
    rcases Nat.eq_zero_or_pos ws.length with e0|e0
    ·have:(l+(m+1))*z≤ws.length:=by rw [hws]; exact Nat.mul_le_mul_right _ hl
     have g5:(β t).o +(β t).r ≤arr.size:=g3
     omega
    ·have:=g4 (ws.length-1) (by omega)
     have:=(Array.getElem?_eq_some_iff.1 this).1
     omega
   have hmz:(l+(m+1))*z≤ws.length:=by rw [hws]; exact Nat.mul_le_mul_right _ hl
   have hst:=zGa (P:=Γ.P) (off:=(β t).o +l*z) (madeCells zv.cells ((m+1)*zv.cells.size)).toList 0 w arr g1 (fun k hk=>g2 k (Nat.le_of_lt hk)) (by rw [hcl]; rw [Nat.add_mul] at hmz; omega) h1c
   rw [run_bind_ok (zR _ _ w hzv),zI7,hLz]
   refine (run_bind_ok (a:=()) (w':=putCells w (β t).b ((β t).o +l*z) (madeCells zv.cells ((m+1)*zv.cells.size)).toList) ?_).trans rfl
   simpa using hst
  unfold Oper.wp
  rw [hrun,Oper.upon_value]
  refine Rel.over (l:=l) (ys:=List.replicate n e) h0 hr hdst (by rw [hc]) (by rw [hc]; simp) (hn.2.1 _ hh') hnil (by simpa using hl) (fun y hy=>by rw [List.eq_of_mem_replicate hy]; exact hel) hEn (fun d hd=>?_)
  rw [hc] at hd
  cases hd
end
end Go.Im
set_option linter.unusedVariables false
namespace Go.Im
open Go
def ovr {α:Type} (xs:List α) (i:Nat) (ys:List α):List α:=xs.take i++ys++xs.drop (i+ys.length)
theorem zHa {α:Type} {xs r:List α} {l h:Int} (hh:zGM xs l h=some r):0≤l∧l≤h∧h≤xs.length∧r=(xs.drop l.toNat).take (h.toNat-l.toNat)∧r.length=h.toNat-l.toNat:=by
 unfold zGM at hh
 split at hh
 ·rename_i q
  cases hh
  exact ⟨q.1,q.2.1,q.2.2,rfl,by simp; omega⟩
 ·cases hh
def zO4 {α:Type} (xs:List α) (l:Int) (n:Nat) (a:α):Option (List α):=if 0≤l∧l.toNat+n≤xs.length then some (ovr xs l.toNat (List.replicate n a)) else none
theorem zOX {α:Type} {xs ys:List α} {l:Int} {n:Nat} {a:α} (h:zO4 xs l n a=some ys):xs.length=ys.length:=by
 unfold zO4 at h
 split at h
 ·cases h
  simp [ovr]
  omega
 ·cases h
section
variable {Γ:Ctx}
theorem zOl {α:Type} {xs r:List α} {l hi:Int} (T el z t:Nat) (enc:α→List D) (x:Operand) (lo ho:Option Operand) (h:zGM xs l hi=some r) (hx:OkO x (.rf t 0 xs.length none):=by trivial) (hl:OkB lo (0:Nat) l:=by first|trivial|rfl) (hh:OkB ho xs.length hi:=by first|trivial|rfl)
  (hT:(yR Γ.P (underlying T),zFV Γ.P el)=(some (.slice el),some z):=by kernel_rfl):
  OpV Γ (.slice T x lo ho none) {tn:=tnO x (.rf t 0 xs.length none)++(tnB lo l++tnB ho hi),hn:=[(t,rE z enc xs)],out:=some (.sub t l.toNat r.length)}:=by
 simp only [Prod.mk.injEq] at hT
 obtain ⟨h1,h2,h3,h4,h5⟩:=zHa h
 intro ops o hop hg
 rw [h5]
 exact zLa (n:=xs.length) (xs:=xs.map enc) (z:=z) hg hop rfl (hx.f (fun y hy=>List.mem_append_left _ hy)) hT.1 hT.2 ((hl.f (fun y hy=>List.mem_append_right _ (List.mem_append_left _ hy))).f h1)
  ((hh.f (fun y hy=>List.mem_append_right _ (List.mem_append_right _ hy))).f (by omega)) (by omega) (by omega) (.head _)
theorem zR0 {α:Type} {xs r:List α} {l hi:Int} (T el z t t':Nat) (enc:α→List D) (x:Operand) (lo ho:Option Operand) (h:zGM xs l hi=some r) (hx:OkO x (.rf t 0 xs.length none):=by trivial) (hl:OkB lo (0:Nat) l:=by first|trivial|rfl) (hh:OkB ho xs.length hi:=by first|trivial|rfl)
  (hT:(yR Γ.P (underlying T),zFV Γ.P el,Nat.ble Γ.m t')=(some (.slice el),some z,true):=by kernel_rfl):
  OpV Γ (.slice T x lo ho none) {tn:=tnO x (.rf t 0 xs.length none)++(tnB lo l++tnB ho hi),hn:=[(t,rE z enc xs)],out:=some (.rf t' 0 r.length none),hx:=[t],hw:=[(t',rE z enc r)],fr:=[t']}:=by
 simp only [Prod.mk.injEq] at hT
 obtain ⟨h1,h2,h3,h4,h5⟩:=zHa h
 intro ops o hop hg
 have e:rE z enc r= .row z (((xs.map enc).drop l.toNat).take (hi.toNat-l.toNat)):=by
  rw [h4,rE,List.map_take,List.map_drop]
 rw [e,h5]
 exact zRu (n:=xs.length) (xs:=xs.map enc) (z:=z) hg hop rfl (Nat.le_of_ble_eq_true hT.2.2) (hx.f (fun y hy=>List.mem_append_left _ hy)) hT.1 hT.2.1 ((hl.f (fun y hy=>List.mem_append_right _ (List.mem_append_left _ hy))).f h1)
  ((hh.f (fun y hy=>List.mem_append_right _ (List.mem_append_right _ hy))).f (by omega)) (by omega) (by omega) (by simp) (.head _)
theorem zRy {α:Type} {xs ys:List α} {l:Int} {n:Nat} {a:α} (T el z t:Nat) (enc:α→List D) (x:Operand) (h:zO4 xs l n a=some ys) (he:Emb [] ((zIw Γ.P el).cells.toList.map D.sc) (enc a) []) (hx:OkO x (.sub t l.toNat n):=by trivial)
  (hT:(Γ.P.underlying T,yR Γ.P (zeroValue el),(zIw Γ.P el).cells.size,(zIw Γ.P el).cells.toList.all Value.oneCell,(enc a).length)=(some (.slice el),some (zIw Γ.P el),z,true,z):=by kernel_rfl):
  zRn Γ (.call {callee:=.builtin .clear,args:= #[x],argTypes:= #[T]}) {tn:=tnO x (.sub t l.toNat n),hn:=[(t,rE z enc xs)],hx:=[t],hw:=[(t,rE z enc ys)]}:=by
 simp only [Prod.mk.injEq] at hT
 obtain ⟨h1,h2,h3,h4,h5⟩:=hT
 unfold zO4 at h
 split at h
 ·rename_i q
  cases h
  intro ops o hop hg hds
  have e:rE z enc (ovr xs l.toNat (List.replicate n a))= .row z ((xs.map enc).take l.toNat++List.replicate n (enc a)++(xs.map enc).drop (l.toNat+n)):=by
   simp [rE,ovr,List.map_take,List.map_drop]
  rw [e]
  exact zLn (n:=n) (xs:=xs.map enc) hg hds hop rfl (hx.f (fun y hy=>hy)) h1 h2 h3 h4 he h5 (by simp; omega) (.head _)
 ·cases h
end
end Go.Im
set_option linter.unusedVariables false
namespace Go.Im
open Go
def mkV (P:Program) (t:TypeId) (xs:List Value):Option Value:=match zFW P t with
 |some true=>some (.agg xs.toArray)
 |some false=>xs.head?
 |none=>none
def zRi (P:Program) (g:TypeId→List Value→List Value→Option Bool) (xs ys:List Value):List Field→Option Bool
 |[]=>some true
 |f::fs=>if f.name= "_" then none else match zFV P f.type with
  |some z=>match g f.type ((xs.drop f.offset).take z) ((ys.drop f.offset).take z),zRi P g xs ys fs with
   |some a,some r=>some (a&&r)
   |_,_=>none
  |none=>none
def eqT (P:Program):Nat→TypeId→List Value→List Value→Option Bool
 |0,_,_,_=>none
 |d+1,t,xs,ys=>match P.underlying t with
  |some (.struct fs)=>if P.stoodInHeld t=false∧zFW P t=some true then zRi P (eqT P d) xs ys fs.toList else none
   |some (.int _)=>match zFW P t,xs,ys with
   |some false,.int k1 a::_,.int k2 b::_=>if k1=k2 then some (a==b) else none
   |_,_,_=>none
  |some .bool =>match zFW P t,xs,ys with
   |some false,.bool a::_,.bool b::_=>some (a==b)
   |_,_,_=>none
  |some .string =>match zFW P t,xs,ys with
   |some false,.string a::_,.string b::_=>some (a.toList==b.toList)
   |_,_,_=>none
  |_=>none
theorem zPh {P:Program} {w:World} {t:TypeId} {cs:List Value} {off z:Nat} {v:Value} (hz:zFV P t=some z) (hz0:zFW P t=some false→0<z) (h:mkV P t ((cs.drop off).take z)=some v):(part t cs.toArray off).run P w= .ok v w:=by
 unfold mkV at h
 unfold part
 split at h
 ·rename_i ha
  cases h
  rw [run_bind_ok (zR _ _ w ha)]
  simp only [if_true]
  rw [run_bind_ok (zR _ _ w hz)]
  have:(cs.toArray.extract off (off+z))=((cs.drop off).take z).toArray :=by
   apply Array.ext'
   simp [List.take_drop]
  rw [this]
  rfl
 ·rename_i ha
  rw [run_bind_ok (zR _ _ w ha)]
  simp only [Bool.false_eq_true,if_false]
  have:cs.toArray[off]? =some v:=by
   rw [List.head?_take,if_neg (by have:=hz0 ha; omega),List.head?_drop] at h
   simpa using h
  rw [this]
  rfl
 ·cases h
theorem zNg {P:Program}:∀(d k:Nat) (t:TypeId) (xs ys:List Value) (vx vy:Value) (r:Bool) (w:World),eqT P d t xs ys=some r→mkV P t xs=some vx→mkV P t ys=some vy→(Op.equalIn (d+k) t vx vy).run P w= .ok r w
 |0,k,t,xs,ys,vx,vy,r,w,h,_,_=>by simp [eqT] at h
 |d+1,k,t,xs,ys,vx,vy,r,w,h,hx,hy=>by
  rw [show d+1+k=(d+k)+1 by omega]
  unfold eqT at h
  unfold mkV at hx hy
  split at h
  ·rename_i fs hfs
   split at h
   ·rename_i hc
    rw [hc.2] at hx hy
    cases hx
    cases hy
    have hff:P.fieldsOf t=fs:=by unfold Program.fieldsOf; rw [hfs]
    rw [run_equalIn_struct w (d+k) t _ _ (by rw [hff]; exact hfs) hc.1,hff]
    have key:∀(l:List Field) (r:Bool),zRi P (eqT P d) xs ys l=some r→(Op.eqFields (d+k) xs.toArray ys.toArray l).run P w= .ok r w:=by
     intro l
     induction l with
     |nil=>intro r h; cases h; rfl
     |cons f l ih=>
      intro r h
      unfold zRi at h
      split at h
      ·cases h
      ·rename_i hnm
       split at h
       ·rename_i z hz
        split at h
        ·rename_i a q ha hq
         cases h
         have hmk:∀(cs:List Value),(∃a l',(cs.drop f.offset).take z=a::l')∨zFW P f.type=some true→zFW P f.type≠none→∃v,mkV P f.type ((cs.drop f.offset).take z)=some v∧(part f.type cs.toArray f.offset).run P w= .ok v w:=by
          intro cs hcs hne
          have:∃v,mkV P f.type ((cs.drop f.offset).take z)=some v:=by
           unfold mkV
           rcases hcs with ⟨a,l',e⟩|e
           ·cases hag:zFW P f.type with
            |none=>exact absurd hag hne
            |some b=>cases b<;>simp [e]
           ·rw [e]; exact ⟨_,rfl⟩
          obtain ⟨v,hv⟩:=this
          refine ⟨v,hv,zPh hz (fun hf=>?_) hv⟩
          rcases Nat.eq_zero_or_pos z with e|e
          ·subst e
           unfold mkV at hv
           rw [hf] at hv
           simp at hv
          ·exact e
         have hsh:zFW P f.type≠none∧((∃a l',(xs.drop f.offset).take z=a::l')∨zFW P f.type=some true)∧((∃a l',(ys.drop f.offset).take z=a::l')∨zFW P f.type=some true):=by
          cases d with
          |zero=>simp [eqT] at ha
          |succ d=>
           unfold eqT at ha
           split at ha
           ·split at ha
            ·rename_i hc'
             exact ⟨by rw [hc'.2]; simp,.inr hc'.2,.inr hc'.2⟩
            ·cases ha
           all_goals first
            |(split at ha
              ·rename_i g1 g2 g3
               exact ⟨by rw [g1]; simp,.inl ⟨_,_,g2⟩,.inl ⟨_,_,g3⟩⟩
              ·cases ha)
            |cases ha
         obtain ⟨va,m1,p1⟩:=hmk xs hsh.2.1 hsh.1
         obtain ⟨vb,m2,p2⟩:=hmk ys hsh.2.2 hsh.1
         have he:=zNg d k f.type _ _ va vb a w ha m1 m2
         unfold Op.eqFields
         rw [if_pos (by simpa using hnm),run_bind_ok p1,run_bind_ok p2,run_bind_ok he]
         cases a
         ·rfl
         ·simp only [Bool.not_true,Bool.false_eq_true,if_false,Bool.true_and]
          exact ih q hq
        ·cases h
       ·cases h
    exact key _ _ h
   ·cases h
  ·rename_i kk hu
   split at h
   ·rename_i hag
    rw [hag] at hx hy
    cases hx
    cases hy
    split at h
    ·rename_i e
     subst e
     cases h
     exact run_equalIn_int w (d+k) t _ _ _ _ hu
    ·cases h
   ·cases h
  ·rename_i hu
   split at h
   ·rename_i hag
    rw [hag] at hx hy
    cases hx
    cases hy
    cases h
    exact run_equalIn_bool' w (d+k) t _ _ hu
   ·cases h
  ·rename_i hu
   split at h
   ·rename_i hag
    rw [hag] at hx hy
    cases hx
    cases hy
    cases h
    exact run_equalIn_string w (d+k) t _ _ hu
   ·cases h
  ·cases h
section
variable {Γ:Ctx} {ops:Array Oper} {o:Oper}
theorem zGW {β:Nat→Loc} {N:Nat→Prop} {w:World} {top:Bool}:∀{us ws:List Value} {bs:List Nat},zH β N w top (us.map D.sc) ws bs→ws=us
 |[],ws,bs,h=>by simp only [List.map_nil,zH] at h; exact h.1
 |u::us,ws,bs,h=>by
  simp only [List.map_cons,zH,Rep] at h
  obtain ⟨v,vs,b1,b2,rfl,_,h3,h4⟩:=h
  rw [h3.1,zGW h4]
theorem zL5 {P:Program} {w:World} {b:BinOp} {T:TypeId} {x y:Operand} {xs ys:Array Value} (h:P.eqGuardType P.depth T=false):(eqGuard b T x y (.agg xs) (.agg ys)).run P w= .ok () w:=by
 have key:(do
   let __do_lift ←program
   let __do_lift_1 ←program
   if (!__do_lift.eqGuardType __do_lift_1.depth T)=true then pure ()
   else do
    let __do_lift ←Op.eqGuardIn Op.maxDepth T (Value.agg xs) (Value.agg ys)
    if __do_lift=true then unsupported (.noEntry "binop/eql: two nil values of an interface type with methods, in a part of a struct or an array") else pure ():Sem Unit).run P w= .ok () w:=by
  rw [run_bind_ok (a:=P) (w':=w) rfl]
  rw [run_bind_ok (a:=P) (w':=w) rfl]
  rw [h]
  rfl
 unfold eqGuard
 split
 ·exact key
 ·exact key
 ·rfl
theorem zRg {c:Cert} {b:BinOp} {x y:Operand} {T U:TypeId} {us vs:List Value} {d:Nat} {r q:Bool} (hg:o.guard=none) (hop:o.op= .binOp b T x y U) (hb:(b= .eql ∧q=r)∨(b= .neq ∧q= !r)) (hc:c= {tn:=c.tn,out:=some (.sc (.bool q))})
  (hx:OpF c x (.ag (us.map D.sc))) (hy:OpF c y (.ag (vs.map D.sc))) (hagg:zFW Γ.P T=some true) (hgt:Γ.P.eqGuardType Γ.P.depth T=false) (hd:d≤10000) (he:eqT Γ.P d T us vs=some r):Valid Γ ops o c:=by
 refine tT (d:=.sc (.bool q)) (f:=fun ρ=>do eqGuard b T x y (ρ x) (ρ y); binOp b T (ρ x) (ρ y)) hg (fun ρ=>by simp [execOp,hop]) (by rw [hc]) fun β bs σ a w hn hr=>?_
 have h1:=OpF.rep hx hn hr
 have h2:=OpF.rep hy hn hr
 simp only [Rep] at h1 h2
 obtain ⟨_,w1,e1,_,r1⟩:=h1
 obtain ⟨_,w2,e2,_,r2⟩:=h2
 rw [zGW r1] at e1
 rw [zGW r2] at e2
 refine ⟨.bool q,?_,by simp [Rep]⟩
 rw [e1,e2]
 rw [run_bind_ok (zL5 hgt)]
 have hrun:=zNg d (10000-d) T us vs (.agg us.toArray) (.agg vs.toArray) r w he (by unfold mkV; rw [hagg]) (by unfold mkV; rw [hagg])
 rw [show d+(10000-d)=10000 by omega] at hrun
 rcases hb with ⟨rfl,rfl⟩|⟨rfl,rfl⟩
 ·rw [run_eql_struct,hrun]; rfl
 ·rw [run_neq_struct,hrun]; rfl
theorem zN5 {b:BinOp} {q r:Bool} (T U:Nat) (x y:Operand) (us vs:List Value) (hb:(b= .eql ∧q=r)∨(b= .neq ∧q= !r)) (hx:OkO x (.ag (us.map D.sc)):=by trivial) (hy:OkO y (.ag (vs.map D.sc)):=by trivial)
  (hT:(zFW Γ.P T,Γ.P.eqGuardType Γ.P.depth T,eqT Γ.P 4 T us vs)=(some true,false,some r):=by kernel_rfl):
  OpV Γ (.binOp b T x y U) {tn:=tnO x (.ag (us.map D.sc))++tnO y (.ag (vs.map D.sc)),out:=some (.sc (.bool q))}:=by
 simp only [Prod.mk.injEq] at hT
 obtain ⟨h1,h2,h3⟩:=hT
 intro ops o hop hg
 exact zRg hg hop hb rfl (hx.f (fun y hy=>List.mem_append_left _ hy)) (hy.f (fun y hy=>List.mem_append_right _ hy)) h1 h2 (by decide) h3
end
end Go.Im
set_option linter.unusedVariables false
namespace Go.Im
open Go
section
variable {Γ:Ctx} {ops:Array Oper} {o:Oper}
theorem zRa {c:Cert} {f:FuncId} {caps:Array Operand} {ds:List D} (hg:o.guard=none) (hop:o.op= .makeFunc (.func f) caps #[]) (hc:c= {tn:=c.tn,out:=some (.fb f ds)})
  (hl:ds.length=caps.size) (hds:∀(k:Nat) (d:D),ds[k]? =some d→∃x,caps[k]? =some x∧OpF c x d):Valid Γ ops o c:=by
 refine tT (d:=.fb f ds) (f:=fun ρ=>Instr.makeFunc (.func f) (caps.map ρ) #[]) hg (fun ρ=>by simp [execOp,hop]) (by rw [hc]) fun β bs σ a w hn hr=>?_
 refine ⟨_,rfl,?_⟩
 simp only [Rep]
 refine ⟨trivial,trivial,(caps.map a.eval).toList,by rw [Array.toArray_toList],?_⟩
 have key:∀(ds:List D) (xs:List Operand),ds.length=xs.length→(∀(k:Nat) (d:D),ds[k]? =some d→∃x,xs[k]? =some x∧OpF c x d)→zH β (NS Γ w bs) w true ds (xs.map a.eval) []:=by
  intro ds
  induction ds with
  |nil=>intro xs h _; rw [List.length_eq_zero_iff.1 h.symm]; simp [zH]
  |cons d ds ih=>
   intro xs h hk
   cases xs with
   |nil=>simp at h
   |cons x xs=>
    obtain ⟨x',g1,g2⟩:=hk 0 d rfl
    simp at g1
    subst g1
    simp only [List.map_cons,zH]
    exact ⟨_,_,[],[],rfl,rfl,OpF.rep g2 hn hr,ih xs (by simpa using h) (fun k d hd=>hk (k+1) d (by simpa using hd))⟩
 have:=key ds caps.toList (by simpa using hl) (fun k d hd=>by
  obtain ⟨x,g1,g2⟩:=hds k d hd
  exact ⟨x,by rw [Array.getElem?_toList]; exact g1,g2⟩)
 simpa using this
theorem zP8 {c:Cert} {f:FuncId} {x0:Operand} {args:Array Operand} {tys:Array TypeId} {as ds caps:List D} {ids:List Nat} {bor:Bool} {hin hout:List Ent} {R:Option (D×List Ent)} {res d:D}
  {news:List (Nat×Ent)} (hg:o.guard=none) (hop:o.op= .call {callee:=.value x0,args:=args,argTypes:=tys}) (hx0:OpF c x0 (.fb f caps)) (hcf:∀xs,yR Γ.P (callFunc f xs)=some (.enter f xs))
  (hal:as.length=args.size) (hargs:∀(k:Nat) (d:D),as[k]? =some d→∃x,args[k]? =some x∧OpF c x d)
  (ham:AmL c.hn ids bor (caps++as) ds) (hids:ids.Nodup) (hinl:hin.length=ids.length) (hhin:∀x∈ids.zip hin,x∈c.hn) (hmen:∀e∈hin++hout,e.men=[])
  (hok:Ok Γ.P f ds hin R) (hR:R=some (res,hout)) (hol:hout.length≤hin.length) (hnm:Nm res d news) (hnews:(news.map (·.1)).Nodup)
  (hc:c= {tn:=c.tn,hn:=c.hn,out:=some d,hx:=ids,hw:=ids.zip hout++news,fr:=news.map (·.1)}) (hmm:∀x∈news,Γ.m≤x.1)
  (hbor:bor=true→zGu hout∧res.flat):Valid Γ ops o c:=by
 intro σ a w Q hdst hn ⟨h0,β,bs,hr⟩
 have hwt:Region.wanted o (yielded ops a.tmps)=true:=by simp [Region.wanted,hg]
 rw [if_pos hwt]
 have hvs:zH β (NS Γ w bs) w true as (args.toList.map a.eval) []:=zFS (c:=c) (by simpa using hal) (fun k d hk=>by
  obtain ⟨x,h1,h2⟩:=hargs k d hk
  exact ⟨x,by rw [Array.getElem?_toList]; exact h1,OpF.rep h2 hn hr⟩)
 have h1:=OpF.rep hx0 hn hr
 simp only [Rep] at h1
 obtain ⟨_,_,ws,hfv,hcaps⟩:=h1
 have hex:(execOp a.eval o).run Γ.P w= .ok (.enter f (ws.toArray++args.map a.eval)) w:=by
  have e:execOp a.eval o=(do let d ←Deferred.ofValue (a.eval x0) (args.map a.eval); invoke d.target d.args):=by
   simp only [execOp,hop,resolve]
  rw [e,hfv]
  show (callFunc f ((ws.toArray++args.map a.eval)++ #[])).run Γ.P w=_
  rw [Array.append_empty]
  exact zR _ _ w (hcf _)
 unfold Oper.wp
 rw [hex,Oper.upon_enter]
 have:=zIq (f:=f) (dst:=o.dst) h0 hr hdst hn (hcaps.append hvs) ham hids hinl hhin hmen hok hR hol hnm hnews hc hmm hbor
 rw [show (ws++args.toList.map a.eval).toArray =ws.toArray++args.map a.eval by rw [←List.append_toArray,←List.map_toArray,Array.toArray_toList]] at this
 refine this.mono fun e w' he=>?_
 obtain ⟨v,rfl,hrel⟩:=he
 exact hrel
theorem zR4 (f:FuncId) (xs:List Operand) (ds:List D) (hC:(ds.length,xs.all zOx,List.zipWith zOv xs ds)=(xs.length,true,ds):=by kernel_rfl):
  OpV Γ (.makeFunc (.func f) xs.toArray #[]) {tn:=tnL xs ds,out:=some (.fb f ds)}:=by
 simp only [Prod.mk.injEq] at hC
 intro ops o hop hg
 exact zRa hg hop rfl (by simpa using hC.1) (fun k d hk=>by
  obtain ⟨x,q1,q2⟩:=zKu (c:= {tn:=tnL xs ds,out:=some (.fb f ds)}) hC.1 hC.2.1 hC.2.2 (fun y hy=>hy) k d hk
  exact ⟨x,by simpa using q1,q2⟩)
theorem zR9 {f:FuncId} {as caps:List D} {R:Type} {e:Option R} {g:R→D×List Ent} {r:R} (t0:Nat) (xs:List Operand) (tys:List Nat) (hok:Ok Γ.P f (caps++as) [] (e.map g)) (h:e=some r) (hcf:∀vs,yR Γ.P (callFunc f vs)=some (.enter f vs):=by intro _; kernel_rfl)
  (hC:(as.length,xs.all zOx,List.zipWith zOv xs as,D.men.zDX (caps++as),(g r).1.nm,(g r).2)=(xs.length,true,as,[],true,[]):=by kernel_rfl):
  OpV Γ (.call {callee:=.value (.tmp t0),args:=xs.toArray,argTypes:=tys.toArray}) {tn:=(t0,.fb f caps)::tnL xs as,out:=some (g r).1}:=by
 simp only [Prod.mk.injEq] at hC
 obtain ⟨h1,h2,h3,h4,h5,h7⟩:=hC
 intro ops o hop hg
 exact zP8 («as»:=as) (caps:=caps) (bor:=false) (ids:=[]) (hin:=[]) (hout:=[]) (news:=[]) hg hop (show (t0,D.fb f caps)∈(t0,D.fb f caps)::tnL xs as from .head _) hcf (by simpa using h1) (fun k d hk=>by
  obtain ⟨x,q1,q2⟩:=zKu (c:= {tn:=(t0,.fb f caps)::tnL xs as,out:=some (g r).1}) h1 h2 h3 (fun y hy=>List.mem_cons_of_mem _ hy) k d hk
  exact ⟨x,by simpa using q1,q2⟩) (AmL.zH5 h4) (by simp) rfl (by simp) (by simp) hok (by rw [h,Option.map_some,←h7]) (by simp) (zLe h5) (by simp) rfl (by simp) (by simp)
end
end Go.Im
set_option linter.unusedVariables false
namespace Go.Im
open Go
end Go.Im
set_option linter.unusedVariables false
namespace Go.Im
open Go
theorem zO8 {P:Program} {w:World} {name:String} {g:Nat} {k:IntKind} {zs:List Int} (hG:∀q∈zOs P,Tab w q.1 q.2) (hn:P.globalNamed name=some g) (hl:lk (zOs P) g=some (· =zs.map fun z=>Value.int k z)):Lib.TabIs P w name k zs:=by
 obtain ⟨ws,e,fz,h,rfl⟩:=hG _ (kV hl)
 unfold Lib.TabIs World.var?
 rw [hn]
 simp only [Option.bind_some]
 rw [h]
theorem zPi {P:Program} {f:FuncId} {vs:List Value} {v:Value} (h:∀w,(∀q∈zOs P,Tab w q.1 q.2)→Calls P f vs.toArray w fun e w'=>e= .returned v∧w'.os=w.os∧w'.output=w.output∧w.heap.size≤w'.heap.size∧∀b,b<w.heap.size→w'.heap[b]? =w.heap[b]?):Ok P f (vs.map D.sc) [] (some (.sc v,[])):=by
 intro out ho w N β us bs ha hh hnd hlt hN hG
 cases ho
 obtain ⟨rfl,_⟩:=zIa ha
 refine (h w (fun q hq=>(hG q hq).2)).mono ?_
 rintro e w' ⟨rfl,h1,h2,h3,h4⟩
 exact ⟨v,[],[],rfl,⟨h1,h2⟩,h3,fun b hb _=>h4 b hb,by simp,by simp,by simp [Rep],rfl⟩
theorem zPH {P:Program} {f:FuncId} {vs:List Value} {v:Value} (h:∀w,(∀q∈zOs P,Tab w q.1 q.2)→Calls P f vs.toArray w fun e w'=>e= .returned v∧∃k os,w'=Sort.grow (w.drewN k) os):Ok P f (vs.map D.sc) [] (some (.sc v,[])):=by
 refine zPi fun w hG=>(h w hG).mono ?_
 rintro e w' ⟨rfl,k,os,rfl⟩
 refine ⟨rfl,rfl,rfl,?_,fun b hb=>?_⟩
 ·show w.heap.size≤(w.heap++os).size
  rw [Array.size_append]
  exact Nat.le_add_right _ _
 ·show (w.heap++os)[b]? =w.heap[b]?
  rw [Array.getElem?_append_left hb]
end Go.Im
set_option linter.unusedVariables false
namespace Go.Im
open Go
theorem zKy {P:Program} {w:World} {name:String} {g:Nat} {k:IntKind} {zs:List Int} (h:Lib.TabIs P w name k zs) (hn:P.globalNamed name=some g):g<w.heap.size∧Tab w g (· =zs.map fun z=>Value.int k z):=by
 unfold Lib.TabIs World.var? at h
 rw [hn] at h
 simp only [Option.bind_some] at h
 split at h
 ·rename_i cs e fz hh
  cases h
  exact ⟨(Array.getElem?_eq_some_iff.1 hh).1,_,e,fz,hh,rfl⟩
 ·cases h
theorem zGt {P:Program} {w:World} {l:List (String×DataW Unit)} {name:String} {g n:Nat} {t e:TypeId} {k:IntKind} {zs:List Int} (h:laidMet P l w) (hl:l.filter (fun x=>x.1==name)=[(name,Lib.tabData k zs)])
  (hg:P.globalNamed name=some g) (hty:(P.globals[g]?).map (·.type)=some t) (ht:P.underlying t=some (.array n e)) (he:P.underlying e=some (.int k)) (hce:P.cellsOf e=1) (hct:P.cellsOf t=n):g<w.heap.size∧Tab w g (· =zs.map fun z=>Value.int k z):=by
 have h2:=h.filter (fun x=>x.1==name)
 rw [hl] at h2
 exact zKy (Lib.tabIs_of_head hg hty ht he hce hct h2) hg
end Go.Im
set_option linter.unusedVariables false
namespace Go.Im
open Go
section
variable {Γ:Ctx} {fc:Code} {k:List II} {σ:St} {T:Type} {K:T→Option (D×List Ent)}
theorem zMs {e:Option T} (t:Nat) {z:Nat} {xs xs':List (List D)} {tm:List (Nat×D)} {hp:List (Nat×Ent)} (hx:D.ro.roE xs=xs')
  (hj:J Γ fc k (St.mk' tm ((t,.row z xs')::hp)) e K):J Γ fc k (St.mk' tm ((t,.row z xs)::hp)) e K:=by
 subst hx
 refine zFY (fun a w hr=>?_) hj
 obtain ⟨h0,β,bs,h⟩:=hr
 obtain ⟨b1,bk,rfl,hE,hrest⟩:=h.hp
 obtain ⟨hz,hzz,hrow⟩:=hE
 have hp:((β t).own ++(b1++bk)).Perm (b1++((β t).own ++bk)):=by
  rw [←List.append_assoc,←List.append_assoc]
  exact List.Perm.append_right _ List.perm_append_comm
 have hnd:=hp.nodup_iff.1 h.nodup
 have hsub:∀b∈(β t).own ++([]++bk),b∈(β t).own ++(b1++bk):=fun b hb=>by
  simp only [List.nil_append,List.mem_append] at hb ⊢
  rcases hb with hb|hb
  ·exact .inl hb
  ·exact .inr (.inr hb)
 have hN:∀b,NS Γ w ((β t).own ++(b1++bk)) b→NS Γ w ((β t).own ++([]++bk)) b:=fun b hb=>NS.sub hsub hb
 have hb:∀b∈b1,NS Γ w ((β t).own ++([]++bk)) b:=fun b hb=>by
  have:=h.own b (hp.mem_iff.2 (List.mem_append_left _ hb))
  refine ⟨?_,this.1,fun hbk=>(List.nodup_append.1 hnd).2.2 b hb b hbk rfl⟩
  rcases this.2 with h1|h1
  ·exact .inr (.inl h1)
  ·exact .inr (.inr h1)
 refine ⟨h0,β,(β t).own ++([]++bk),{defers:=h.defers,size:=h.size,keys:=h.keys,par:=h.par,grow:=h.grow,gh:=h.gh,quiet:=h.quiet,keep:=h.keep,hp:=?_,nodup:=?_,own:=fun b hb=>h.own b (hsub b hb),tm:=?_}⟩
 ·refine ⟨[],bk,rfl,⟨hz,fun x hx=>?_,?_⟩,?_⟩
  ·obtain ⟨e',he',rfl⟩:=zFu hx
   rw [zCU]; exact hzz e' he'
  ·rcases hrow with ⟨h1,h2,h3⟩|⟨h1,ws,h2,h3⟩
   ·subst h2; exact .inl ⟨h1,rfl,rfl⟩
   ·exact .inr ⟨h1,ws,h2,zU.ro hN xs ws b1 hb h3⟩
  ·exact vO.frame (fun b hb=>⟨hN b hb,rfl⟩) _ _ (fun _ _=>rfl) (fun _ _=>rfl) hrest
 ·exact (List.nodup_append.1 hnd).2.1
 ·exact zNc.frame (fun b hb=>⟨hN b hb,rfl⟩) (fun _ _=>rfl) h.tm
end
end Go.Im
set_option linter.unusedVariables false
namespace Go.Im
open Go
theorem zOG {P:Program} {f:FuncId} {vs:List Value} {v:Value} (h:∀w,Calls P f vs.toArray w fun e w'=>e= .returned v∧RowKit.Below w.heap.size w w'):Ok P f (vs.map D.sc) [] (some (.sc v,[])):=by
 refine zPi fun w _=>(h w).mono ?_
 rintro e w' ⟨rfl,hb⟩
 exact ⟨rfl,hb.os,hb.output,hb.size,hb.block⟩
theorem zIQ {β:Nat→Loc} {N:Nat→Prop} {w:World}:∀{xs:List ByteArray} {ws:List Value} {bs:List Nat},zU β N w (xs.map eStr) ws bs→ws=xs.map Value.string∧bs=[]
 |[],ws,bs,h=>by simpa [zU] using h
 |x::xs,ws,bs,h=>by
  simp only [List.map_cons,zU,eStr,zH,Rep] at h
  obtain ⟨w1,w2,b1,b2,rfl,rfl,⟨v,vs,c1,c2,rfl,rfl,⟨rfl,rfl⟩,rfl,rfl⟩,h2⟩:=h
  obtain ⟨rfl,rfl⟩:=zIQ h2
  exact ⟨rfl,rfl⟩
theorem zPN {P:Program} {f:FuncId} {xs:List ByteArray} {sep out:ByteArray} (h0:xs=[]→out=⟨#[]⟩∧∀a c w,Calls P f #[.slice a 0 c,.string sep] w fun e w'=>e= .returned (.string ⟨#[]⟩)∧w'=w)
  (h:∀bk o c w,(∀(j:Nat) x,xs[j]? =some x→w.cell? ⟨bk,o+j,none⟩=some (.string x))→bk<w.heap.size→xs.length≤c→Calls P f #[.slice (some ⟨bk,o,none⟩) xs.length c,.string sep] w fun e w'=>e= .returned (.string out)∧RowKit.Below w.heap.size w w'):
  Ok P f [sl 1 eStr xs,sv sep] [] (some (sv out,[])):=by
 intro o ho w N β us bs ha hh hnd hlt hN _
 cases ho
 unfold sl sv at ha
 simp only [zH] at ha
 obtain ⟨v,vs,b1,b2,rfl,hb,hv,u,us,b3,b4,rfl,hb2,hu,rfl,rfl⟩:=ha
 obtain ⟨rfl,rfl⟩:=List.append_eq_nil_iff.1 hb.symm
 simp only [Rep] at hu hv
 obtain ⟨rfl,rfl⟩:=hu
 obtain ⟨_,_,a,cap,rfl,hcap,hv⟩:=hv
 have fin:∀(w':World),w'.os=w.os→w'.output=w.output→w.heap.size≤w'.heap.size→(∀b,b<w.heap.size→w'.heap[b]? =w.heap[b]?)→Post ⟨P,f,w,N,bs,0,β,0⟩ (sv out) [] (.returned (.string out)) w':=by
  intro w' h1 h2 h3 h4
  exact ⟨_,[],[],rfl,⟨h1,h2⟩,h3,fun b hb _=>h4 b hb,by simp,by simp,by simp [sv,Rep],rfl⟩
 rcases hv with ⟨hn,_,_⟩|⟨_,b,off,ws,rfl,hNb,hH,hE,_⟩|⟨h1,_⟩
 ·have hx:xs=[]:=List.eq_nil_of_length_eq_zero hn
  obtain ⟨ho,h1⟩:=h0 hx
  subst hx
  refine (h1 a cap w).mono ?_
  rintro e w' ⟨rfl,rfl⟩
  rw [←ho]
  exact fin _ rfl rfl (Nat.le_refl _) (fun _ _=>rfl)
 ·obtain ⟨rfl,_⟩:=zIQ hE
  refine (h b off cap w (fun j x hx=>?_) (hN b hNb).1 hcap).mono ?_
  ·have hj:j<xs.length:=(List.getElem?_eq_some_iff.1 hx).1
   have:=hH.cell j (by simpa using hj)
   rw [this]
   simp only [List.getElem_map]
   rw [(List.getElem?_eq_some_iff.1 hx).2]
  ·rintro e w' ⟨rfl,hb⟩
   exact fin _ hb.os hb.output hb.size hb.block
 ·cases h1
end Go.Im
set_option linter.unusedVariables false
namespace Go.Im
open Go Go.Proofs
theorem zJD {P:Program} {w:World} {g:Nat} {t:TypeId} {zero:Array Value} (h:w.ShapedOpen P) (hg:g<P.globals.size)
  (h0:((begin P (fun _ _=>0) default).world.heap[g]?).bind Obj.row? =some (zero,t)) (hz:zero.size=1)
  (hb:P.buildable t=true) (hc:P.cellTypes P.depth t=some [t]) (hu:P.underlying t=some (.int .i64)):g<w.heap.size∧Tab w g (fun ws=>∃m,ws=[.int .i64 m]):=by
 obtain ⟨m,hm⟩:=cell_of_shapedOpen_int h hg h0 hz hb hc hu
 obtain ⟨cs,hh,hs,_⟩:=h.1 g zero t hg h0
 rw [cell_of hh] at hm
 refine ⟨(Array.getElem?_eq_some_iff.1 hh).1,cs.toList,t,_,by simpa using hh,m,?_⟩
 obtain ⟨l⟩:=cs
 match l,hs,hm with
 |[],hs,_=>simp at hs; omega
 |[v],_,hm=>simp at hm; rw [hm]
 |_::_::_,hs,_=>simp at hs; omega
section
variable {H:Type} {enc:TypeId×Value→H}
theorem zF1 {a:Assume} {C:Checked} {os:Os} {f:FuncId} {fn:Func} {s:ChangeSpec} {conds:List PathCond} {apart fresh handsOn again:Bool} {X:World→Array Value→Prop}
  (hX:∀(w w':World) (args:Array Value),w.heap=w'.heap→X w args→X w' args) (own:ownKnob C.prog.godebug=none) (started:os.Started) (noInit:C.prog.inits.idxOf? f=none) (hfn:C.prog.funcs[f]? =some fn)
  (witness:∃(w:World) (tape:Tape) (i:Input),w.os=os∧(w.forCall tape i).Shaped C.prog∧i.vars=[]∧Input.okWide C.prog (w.forCall tape i) .any w.heap.size f i∧
   ((s.pre enc C.prog fn conds apart (w.forCall tape i).memory i.args∧X (w.forCall tape i).memory i.args)∧sizedMet enc C.prog fn (OpenSpec.ofChange s) apart (w.forCall tape i).memory i.args)∧a.holds C.prog (lone (Frame.enter C.prog f i.args .normal) [] (w.forCall tape i)))
  (contract:∀(W:World) (base:Nat) (args:Array Value) (ds gs:List (DataW H)) (before:List MemPlace),W.ShapedOpen C.prog→
   (∀(j:Nat) t v,fn.params[j]? =some t→args[j]? =some v→Value.okWide C.prog W .any base t v)→DataW.Whole enc C.prog fn.params.toList s.vars apart W args.toList ds gs before→
   conds.all (PathCond.test C.prog ⟨fn.params.toList,ds,s.plain.varTypes C.prog,gs⟩)=true→(DataW.weightsEach C.prog (fn.params.toList++s.plain.varTypes C.prog) (ds++gs)).all (· ≤reachBytes)=true→X W args→
   a.holds C.prog (lone (Frame.enter C.prog f args .normal) [] W)→Calls C.prog f args W fun e W'=>∃v,e= .returned v∧s.post enc C.prog fn apart fresh handsOn again W args v W'):
  ReturnsInHanded a C os f .any (fun w args=>(s.pre enc C.prog fn conds apart w args∧X w args)∧sizedMet enc C.prog fn (OpenSpec.ofChange s) apart w args) (s.post enc C.prog fn apart fresh handsOn again):=by
 refine returnsInHanded_of_calls own started noInit witness fun w tape i _ hsh _ hok hpre hholds=>?_
 obtain ⟨_,_,_,fn',hfn',_,_,_,_,hval⟩:=hok
 obtain rfl:fn'=fn:=Option.some.inj (hfn'.symm.trans hfn)
 obtain ⟨⟨⟨ds,gs,before,hw,hc⟩,hx⟩,hz⟩:=hpre
 refine (contract (w.forCall tape i) w.heap.size i.args ds gs before hsh hval (DataW.Whole.of_heap (w':=w.forCall tape i) (by rfl) hw) hc (hz.weights hw) (hX _ _ _ (by rfl) hx) hholds).mono fun e W' ⟨v,he,hp⟩=>?_
 subst he
 exact ChangeSpec.post_blind hp
end
end Go.Im
set_option linter.unusedVariables false
namespace Go.Im
open Go
section
variable {Γ:Ctx} {ops:Array Oper} {o:Oper}
theorem Rel.zRx {σ:St} {a:Act} {w:World} {dst:Option Nat} {tn:List (Nat×D)} {t:Nat} {cs:List D} (hus:∀k,k∈zJc σ.tm∨k∈zFJ σ.hp→k∈σ.us) (hcs:∀k∈D.men.zDX cs,k∈σ.us) (hfree:∀d∈cs,d.free=true)
  (h:Rel Γ (σ.upd dst {tn:=tn,out:=some (.pt t 0 0),hw:=[(t,.box cs)],fr:=[t]}) a w):Rel Γ (σ.upd dst {tn:=tn,out:=some (.pb cs)}) a w:=by
 obtain ⟨_,β,bs,h⟩:=h
 obtain ⟨b1,b2,rfl,⟨hnil,_,ws,hO,hone,hcr⟩,hrest⟩:=h.hp
 obtain rfl:b1=[]:=zH.frees hfree hcr
 have hown:(β t).own =[(β t).b]:=by simp [Loc.own,hnil]
 have hnd:=h.nodup
 rw [hown] at hnd
 simp only [List.nil_append,List.singleton_append,List.nodup_cons] at hnd
 have hsub:∀b∈b2,b∈(β t).own ++([]++b2):=fun b hb=>by simp [hb]
 have hN:∀b,NS Γ w ((β t).own ++([]++b2)) b→NS Γ w b2 b:=fun b hb=>NS.sub hsub hb
 have hNt:NS Γ w b2 (β t).b :=by
  have:=h.own (β t).b (by rw [hown]; simp)
  refine ⟨?_,this.1,hnd.1⟩
  rcases this.2 with h1|h1
  ·exact .inr (.inl h1)
  ·exact .inr (.inr h1)
 refine ⟨?_,β,b2,{defers:=h.defers,size:=h.size,keys:=?_,par:=h.par,grow:=h.grow,gh:=h.gh,quiet:=h.quiet,keep:=h.keep,hp:=?_,nodup:=hnd.2,own:=fun b hb=>h.own b (hsub b hb),tm:=?_}⟩
 ·intro k hk
  simp only [St.upd,Cert.men,zFJ,List.flatMap_nil,List.append_nil,List.nil_append,D.men] at hk ⊢
  rw [List.mem_append]
  have key:∀k,k∈zJc (σ.tm.filter (fun x=>dst !=some x.1))∨k∈zFJ (σ.hp.filter (fun x=> !([]:List Nat).contains x.1))→k∈σ.us:=by
   rintro k (hk|hk)
   ·obtain ⟨x,hx,hk⟩:=List.mem_flatMap.1 hk
    exact hus k (.inl (List.mem_flatMap.2 ⟨x,(List.mem_filter.1 hx).1,hk⟩))
   ·obtain ⟨x,hx,hk⟩:=List.mem_flatMap.1 hk
    exact hus k (.inr (List.mem_flatMap.2 ⟨x,(List.mem_filter.1 hx).1,hk⟩))
  rcases hk with hk|hk
  ·obtain ⟨x,hx,hk⟩:=List.mem_flatMap.1 hk
   rcases List.mem_append.1 hx with hx|hx
   ·unfold Cert.outs at hx
    cases dst with
    |none=>simp at hx
    |some q=>
     simp only [List.mem_singleton] at hx
     subst hx
     exact .inr (hcs k (by simpa [D.men] using hk))
   ·exact .inr (key k (.inl (List.mem_flatMap.2 ⟨x,hx,hk⟩)))
  ·exact .inr (key k (.inr hk))
 ·have hk:=h.keys
  simp only [St.upd,List.cons_append,List.nil_append,List.map_cons,List.nodup_cons] at hk ⊢
  exact hk.2
 ·exact vO.frame (fun b hb=>⟨hN b hb,rfl⟩) _ _ (fun _ _=>rfl) (fun _ _=>rfl) hrest
 ·intro q d hd
  simp only [St.upd] at hd
  rcases List.mem_append.1 hd with hd|hd
  ·unfold Cert.outs at hd
   cases dst with
   |none=>simp at hd
   |some q'=>
    simp only [List.mem_singleton,Prod.mk.injEq] at hd
    obtain ⟨rfl,rfl⟩:=hd
    obtain ⟨v,h1,h2⟩:=h.tm q (.pt t 0 0) (by simp [St.upd,Cert.outs])
    refine ⟨v,h1,?_⟩
    simp only [Rep] at h2 ⊢
    obtain ⟨_,_,_,rfl⟩:=h2
    refine ⟨trivial,trivial,(β t).b,(β t).o,ws,by simp,hNt,hO.has,hone,?_⟩
    exact zH.frame (fun b hb=>⟨hN b hb,rfl⟩) cs true ws [] (by simp) (fun _ _=>rfl) hcr
  ·obtain ⟨v,h1,h2⟩:=h.tm q d (by simp only [St.upd]; exact List.mem_append_right _ hd)
   exact ⟨v,h1,Rep.frame (fun b hb=>⟨hN b hb,rfl⟩) d true v [] (by simp) (fun _ _=>rfl) h2⟩
theorem zHw:∀(l:List Nat) (m:Nat),m≤l.foldl max m∧∀x∈l,x≤l.foldl max m
 |[],m=>⟨Nat.le_refl _,by simp⟩
 |y::l,m=>by
  obtain ⟨h1,h2⟩:=zHw l (max m y)
  refine ⟨Nat.le_trans (Nat.le_max_left _ _) h1,fun x hx=>?_⟩
  rcases List.mem_cons.1 hx with rfl|hx
  ·exact Nat.le_trans (Nat.le_max_right _ _) h1
  ·exact h2 x hx
theorem zPQ {c:Cert} {x:Operand} {T:TypeId} {d:D} (hg:o.guard=none) (hop:o.op= .box T x) (hc:c= {tn:=c.tn,out:=some (.pb (cellsD d))}) (hx:OpF c x d) (hd:(cellsD d).all D.cell=true):Valid Γ ops o c:=by
 intro σ a w Q hdst hn hr
 obtain ⟨m1,m2⟩:=zHw σ.us Γ.m
 have hft:σ.us.foldl max Γ.m+1∉σ.us:=fun h=>by have:=m2 _ h; omega
 have hn1:Nd {tn:=c.tn,out:=some (.pt (σ.us.foldl max Γ.m+1) 0 0),hw:=[((σ.us.foldl max Γ.m+1),.box (cellsD d))],fr:=[σ.us.foldl max Γ.m+1]} σ:=⟨hn.1,by simp,by simpa using hft⟩
 have hv:=zRb (Γ:=Γ) (ops:=ops) (t:=σ.us.foldl max Γ.m+1) hg hop (c:= {tn:=c.tn,out:=some (.pt (σ.us.foldl max Γ.m+1) 0 0),hw:=[((σ.us.foldl max Γ.m+1),.box (cellsD d))],fr:=[σ.us.foldl max Γ.m+1]}) rfl (by omega) hx hd σ a w Q hdst hn1 hr
 have hwt:Region.wanted o (yielded ops a.tmps)=true:=by simp [Region.wanted,hg]
 rw [if_pos hwt] at hv ⊢
 refine Oper.wp_mono (fun a' w' h'=>?_) hv
 rw [hc]
 exact Rel.zRx hr.1 (fun k hk=>zNb (a:=a) (w:=w) hr.1 hn hx k (by rwa [zKx] at hk)) (fun d' hd'=>D.zN6 (List.all_eq_true.1 hd d' hd')) h'
theorem zOh {c:Cert} {x:Operand} {T:TypeId} {cs:List D} {d:D} (hg:o.guard=none) (hop:o.op= .load T x) (hc:c= {tn:=c.tn,out:=some d}) (hx:OpF c x (.pb cs)) (hd:zBs Γ.P T cs=some d):Valid Γ ops o c:=by
 rw [hc]
 refine uE hg rfl rfl fun β bs σ a w hn hr=>?_
 have h1:=OpF.rep (c:=c) hx ⟨hn.1,by rw [hc]; simp,by rw [hc]; simp⟩ hr
 simp only [Rep] at h1
 obtain ⟨_,_,b,p,ws,h2,h3,h4,hone,h5⟩:=h1
 obtain ⟨v,h6,h7⟩:=zDx hd h4 hone h5
 refine ⟨v,zE6 (s:=Instr.loadAt T (a.eval x)) (by simp [execOp,hop]) ?_,fun d' hd=>by cases hd; exact h7⟩
 rw [h2]
 exact h6
theorem zNk (T:Nat) (x:Operand) (d:D) (hx:OkO x d:=by first|trivial|rfl) (hd:(cellsD d).all D.cell=true:=by kernel_rfl):OpV Γ (.box T x) {tn:=tnO x d,out:=some (.pb (cellsD d))}:=by
 intro ops o hop hg
 exact zPQ hg hop rfl (hx.f (fun y hy=>hy)) hd
theorem zHL {d:D} (T:Nat) (x:Operand) (cs:List D) (hx:OkO x (.pb cs):=by trivial) (hd:zBs Γ.P T cs=some d:=by kernel_rfl):OpV Γ (.load T x) {tn:=tnO x (.pb cs),out:=some d}:=by
 intro ops o hop hg
 exact zOh hg hop rfl (hx.f (fun y hy=>hy)) hd
end
end Go.Im
set_option linter.unusedVariables false
namespace Go.Im
open Go
section
variable {β:Nat→Loc} {N:Nat→Prop} {w:World}
end
section
variable {Γ:Ctx} {fc:Code} {k:List II} {σ:St} {T:Type} {K:T→Option (D×List Ent)}
end
section
variable {Γ:Ctx} {ops:Array Oper} {o:Oper}
end
end Go.Im
set_option linter.unusedVariables false
namespace Go.Im
open Go
section
variable {Γ:Ctx} {ops:Array Oper} {o:Oper}
end
end Go.Im
set_option linter.unusedVariables false
namespace Go.Im
open Go
def zRI (n:Nat):List Nat→Bool
 |[]=>false
 |m::ms=>Nat.beq n m||zRI n ms
def dl {α:Type} (del:List Nat) (add:List (Nat×α)):List (Nat×α)→List (Nat×α)
 |[]=>add
 |x::l=>match zRI x.1 del with
  |true=>dl del add l
  |false=>x::dl del add l
section
variable {Γ:Ctx} {fc:Code} {k:List II} {σ:St} {T:Type} {K:T→Option (D×List Ent)}
theorem J_d {e:Option T} (p:Nat) (ids:List (Nat×Nat)) (x:List Nat) (y:List (Nat×D)) (x':List Nat) (y':List (Nat×Ent)) {orc:List (Nat×Cert)} (hor:zI1 Γ fc p orc) (hj:J Γ fc (aft fc p) (St.mk' (dl x y σ.tm) (dl x' y' σ.hp)) e K)
  (h:(zRo fc σ.tm p k&&Γ.P.follows .mixedOrders,(chk Γ.P Γ.nt Γ.m fc p orc ids σ (dl x y σ.tm) (dl x' y' σ.hp)).1,(chk Γ.P Γ.nt Γ.m fc p orc ids σ (dl x y σ.tm) (dl x' y' σ.hp)).2.2.1,(chk Γ.P Γ.nt Γ.m fc p orc ids σ (dl x y σ.tm) (dl x' y' σ.hp)).2.2.2.2)=
   (true,(chk Γ.P Γ.nt Γ.m fc p orc ids σ (dl x y σ.tm) (dl x' y' σ.hp)).2.1,(chk Γ.P Γ.nt Γ.m fc p orc ids σ (dl x y σ.tm) (dl x' y' σ.hp)).2.2.2.1,true):=by kernel_rfl):J Γ fc k σ e K:=
 J_g p ids _ _ hor hj h
end
end Go.Im
set_option linter.unusedVariables false
namespace Go.Im
open Go
mutual
inductive Wk:D→D→Prop where
 |same {d:D}:Wk d d
 |ln {z n:Nat} {xs:List (List D)}:Wk (.s false z n xs) (.ln n)
 |tu {cs cs':List D}:WkL cs cs'→Wk (.tu cs) (.tu cs')
 |ag {cs cs':List D}:WkL cs cs'→Wk (.ag cs) (.ag cs')
inductive WkL:List D→List D→Prop where
 |nil:WkL [] []
 |cons {d d':D} {ds ds':List D}:Wk d d'→WkL ds ds'→WkL (d::ds) (d'::ds')
end
section
variable {β:Nat→Loc} {N:Nat→Prop} {w:World}
mutual
theorem Wk.rep:∀{d d':D} {v:Value} {bs:List Nat},Wk d d'→Rep β N w true d v bs→Rep β N w true d' v bs
 |_,_,_,_,.same,h=>h
 |_,_,v,bs,.ln (z:=z) (n:=n) (xs:=xs),h=>by
  have e:=Rep.free (d:=.s false z n xs) rfl h
  subst e
  simp only [Rep] at h ⊢
  obtain ⟨_,_,a,cap,h1,h2,_⟩:=h
  exact ⟨trivial,a,cap,h1,h2⟩
 |_,_,v,bs,.tu hl,h=>by
  simp only [Rep] at h ⊢
  obtain ⟨h1,ws,h2,h3⟩:=h
  exact ⟨trivial,ws,h2,WkL.rep hl h3⟩
 |_,_,v,bs,.ag hl,h=>by
  simp only [Rep] at h ⊢
  obtain ⟨h1,ws,h2,h4,h3⟩:=h
  exact ⟨trivial,ws,h2,h4,WkL.rep hl h3⟩
theorem WkL.rep:∀{ds ds':List D} {vs:List Value} {bs:List Nat},WkL ds ds'→zH β N w true ds vs bs→zH β N w true ds' vs bs
 |_,_,_,_,.nil,h=>h
 |_,_,vs,bs,.cons h1 h2,h=>by
  simp only [zH] at h ⊢
  obtain ⟨v,vs',b1,b2,h3,h4,h5,h6⟩:=h
  exact ⟨v,vs',b1,b2,h3,h4,Wk.rep h1 h5,WkL.rep h2 h6⟩
end
end
theorem zRE {P:Program} {f:FuncId} {args:List D} {hin:List Ent} {R:Type} {e:Option R} {g:R→D×List Ent} (g':R→D×List Ent) (h:Ok P f args hin (e.map g)) (hw:∀r,Wk (g r).1 (g' r).1) (he:∀r,(g r).2=(g' r).2:=by intro _; rfl):
  Ok P f args hin (e.map g'):=by
 intro out ho w N β vs bs h1 h2 h3 h4 h5 h6
 cases e with
 |none=>cases ho
 |some r=>
  simp only [Option.map_some,Option.some.injEq] at ho
  subst ho
  refine (h (g r) rfl w N β vs bs h1 h2 h3 h4 h5 h6).mono ?_
  rintro e' w' ⟨v,b1,b2,q1,q2,q3,q4,q5,q6,q7,q8⟩
  exact ⟨v,b1,b2,q1,q2,q3,q4,q5,q6,(hw r).rep q7,by rw [←he r]; exact q8⟩
def s2b (s:ByteArray):List Int:=s.data.toList.map fun b=>(b.toNat:Int)
theorem zFi (s:ByteArray):(s2b s).length =s.size:=by simp [s2b]
theorem zIh {β:Nat→Loc} {N:Nat→Prop} {w:World}:∀(xs:List Int),zU β N w (xs.map eU8) (xs.map (Value.int .u8)) []
 |[]=>by simp [zU]
 |x::xs=>by
  simp only [List.map_cons,zU]
  refine ⟨[.int .u8 x],_,[],[],rfl,rfl,?_,zIh xs⟩
  simp only [eU8,zH,Rep]
  exact ⟨_,[],[],[],rfl,rfl,⟨rfl,rfl⟩,rfl,rfl⟩
theorem zHT (w:World) (e:TypeId) (s:ByteArray):(Lib.bytesWorld w e s).heap =w.heap.push (.cells (Lib.bytesCells w e s) e ((Lib.bytesCells w e s).size,(Lib.bytesCells w e s).size +1)):=by
 apply Array.ext_getElem?
 intro i
 rcases Nat.lt_trichotomy i w.heap.size with h|h|h
 ·rw [Lib.bytesWorld_at_old w e s i h,Array.getElem?_push,if_neg (by omega)]
 ·subst h
  rw [Lib.bytesWorld_at_new,Array.getElem?_push,if_pos rfl]
 ·rw [Array.getElem?_eq_none (by rw [Lib.bytesWorld_size]; omega),Array.getElem?_eq_none (by simp; omega)]
section
variable {Γ:Ctx} {ops:Array Oper} {o:Oper}
theorem zR6 {c:Cert} {x:Operand} {S Dd e:TypeId} {s:ByteArray} (hg:o.guard=none) (hop:o.op= .convert S Dd x)
  (hc:c= {tn:=c.tn,hn:=c.hn,out:=some (.s false 1 (s2b s).length ((s2b s).map eU8))}) (hx:OpF c x (.sc (.string s)))
  (hs:Γ.P.underlying S=some .string) (hd:Γ.P.underlying Dd=some (.slice e)) (he:Γ.P.underlying e=some (.int .u8)):Valid Γ ops o c:=by
 intro σ a w Q hdst hn ⟨h0,β,bs,hr⟩
 have hwt:Region.wanted o (yielded ops a.tmps)=true:=by simp [Region.wanted,hg]
 rw [if_pos hwt]
 have h1:=OpF.rep hx hn hr
 simp only [Rep] at h1
 have hrun:(execOp a.eval o).run Γ.P w= .ok (.value (.slice (some ⟨w.heap.size,0,none⟩) (s2b s).length (grownCap w s.size 0 e))) (Lib.bytesWorld w e s):=by
  refine zE6 (s:=convert S Dd (a.eval x)) (by simp [execOp,hop]) ?_
  rw [h1.1,zFi]
  exact Lib.run_convert_string_bytes w S Dd e s hs hd he
 unfold Oper.wp
 rw [hrun,Oper.upon_value]
 have hge:=grownCap_ge w s.size 0 e
 have hheap:=zHT w e s
 have hlt:∀b∈bs,b<w.heap.size:=fun b hb=>(hr.own b hb).1
 refine Rel.step (β1:=β) (bk:=bs) (br:=[]) (bn:=[]) h0 hr hdst (by rw [hc]; simp) (by rw [hc]; simp) (.refl _) (by rw [hc]; exact (zFL σ.hp).symm ▸hr.hp) (by rw [Lib.bytesWorld_size]; omega) (fun b' hb' _=>Lib.bytesWorld_at_old w e s b' hb') (fun _ _=>rfl) (fun _ _=>rfl) (by simp) (by simp) (by rw [hc]; exact rfl) ?_ ⟨rfl,rfl⟩
 intro d hd'
 rw [hc] at hd'
 cases hd'
 simp only [Rep]
 refine ⟨by simp,fun y hy=>by obtain ⟨z,_,rfl⟩:=List.mem_map.1 hy; rfl,_,_,rfl,by rw [zFi]; exact hge,.inr (.inl ⟨trivial,w.heap.size,0,(s2b s).map (Value.int .u8),rfl,⟨.inr (.inr hr.grow),by rw [Lib.bytesWorld_size]; omega,fun h=>by have:=hlt _ (by simpa using h); omega⟩,⟨_,e,_,Lib.bytesWorld_at_new w e s,fun k hk=>?_⟩,zIh _,trivial⟩)⟩
 have hk':k<s.data.size:=by simpa [s2b] using hk
 have hk2:k<s.size:=hk'
 simp [Lib.bytesCells,s2b,Array.getElem?_append,hk2]
theorem zOV {s:ByteArray} (S Dd e:Nat) (x:Operand) (hx:OkO x (.sc (.string s)):=by first|trivial|rfl) (hT:(Γ.P.underlying S,Γ.P.underlying Dd,Γ.P.underlying e)=(some .string,some (.slice e),some (.int .u8)):=by kernel_rfl):
  OpV Γ (.convert S Dd x) {tn:=tnO x (.sc (.string s)),out:=some (.s false 1 (s2b s).length ((s2b s).map eU8))}:=by
 simp only [Prod.mk.injEq] at hT
 intro ops o hop hg
 exact zR6 hg hop rfl (hx.f (fun y hy=>hy)) hT.1 hT.2.1 hT.2.2
theorem zIs {β:Nat→Loc} {N:Nat→Prop} {w:World}:∀{xs:List (List D)} {ws:List Value} {bs:List Nat},(∀e∈xs,e.all D.free=true)→zU β N w xs ws bs→bs=[]
 |[],ws,bs,_,h=>by simp only [zU] at h; exact h.2
 |e::es,ws,bs,hf,h=>by
  simp only [zU] at h
  obtain ⟨w1,w2,b1,b2,rfl,rfl,h3,h4⟩:=h
  have e1:=zH.frees (fun d hd=>List.all_eq_true.1 (hf e (by simp)) d hd) h3
  have e2:=zIs (fun e he=>hf e (by simp [he])) h4
  rw [e1,e2]
  rfl
theorem zMP {c:Cert} {x y:Operand} {T U el e':TypeId} {t td ts n m z bytes off:Nat} {cd:Option Nat} {zv:Value} {xs ys:List (List D)} (hg:o.guard=none)
  (hop:o.op= .call {callee:=.builtin .append,args:= #[x,y],argTypes:= #[T,U]}) (hc:c= {tn:=c.tn,hn:=c.hn,out:=some (.rf t 0 (n+m) none),hx:=[td],hw:=[(t,.row z (xs++(ys.drop off).take m))],fr:=[t]})
  (hm:Γ.m≤t) (hx:OpF c x (.rf td 0 n cd)) (hy:OpF c y (.sub ts off m)) (hxr:(td,.row z xs)∈c.hn) (hyr:(ts,.row z ys)∈c.hn) (hlx:xs.length=n) (hle:off+m≤ys.length)
  (hT:Γ.P.underlying T=some (.slice el)) (hU:Γ.P.underlying U=some (.slice e')) (hinfo:(Γ.P.info? el).map (fun i=>(i.zero,i.size,i.bytes))=some (some zv,z,bytes)) (hzs:zv.cells.size=z)
  (hone:∀e∈ys,e.all zDk=true) (hfree:∀e∈ys,e.all D.free=true) (hbig:(n+m)*bytes≤140737488355328) (h62:n+m≤4611686018427387904):Valid Γ ops o c:=by
 intro σ a w Q hdst hn ⟨h0,β,bs,hr⟩
 have hwt:Region.wanted o (yielded ops a.tmps)=true:=by simp [Region.wanted,hg]
 rw [if_pos hwt]
 have hfr:t∉σ.us:=hn.2.2 t (by rw [hc]; simp)
 obtain ⟨b1,bk,p1,hE1,hrest⟩:=vO.take hr.hp hr.keys (hn.2.1 _ hxr)
 obtain ⟨wx,hD,hEx,hzx⟩:=zHH (OpF.rep hx hn hr) hE1 hlx
 have hyv:=OpF.rep hy hn hr
 simp only [Rep] at hyv
 obtain ⟨_,_,ad,cap,hv,hcap,hcase⟩:=hyv
 obtain ⟨b2,⟨hLz,hzz,hrow⟩,_,_⟩:=vO.get hr.hp (hn.2.1 _ hyr)
 have hzy:∀e∈(ys.drop off).take m,e.length=z:=fun e he=>hzz e (List.mem_of_mem_drop (List.mem_of_mem_take he))
 have hly:((ys.drop off).take m).length =m:=by simp; omega
 have hone':∀e∈(ys.drop off).take m,e.all zDk=true:=fun e he=>hone e (List.mem_of_mem_drop (List.mem_of_mem_take he))
 obtain ⟨wy,hEy,hS⟩:∃wy,zU β (NS Γ w bs) w ((ys.drop off).take m) wy []∧((a.eval y= .slice ad m cap∧m=0∧wy=[])∨∃b off c,a.eval y= .slice (some ⟨b,off,none⟩) m c∧Has w b off wy∧wy.length=m*z):=by
  rcases hcase with rfl|⟨hnil,rfl,hroom⟩
  ·exact ⟨[],by simp [zU],.inl ⟨hv,rfl,rfl⟩⟩
  ·rcases hrow with ⟨hnil',_⟩|⟨_,ws,hO,hE⟩
   ·rw [hnil] at hnil'; cases hnil'
   have:=zIs hfree hE
   subst this
   have q2:=(zU.sub m (zU.sub off hE hzz).2 (fun e he=>hzz e (List.mem_of_mem_drop he))).1
   refine ⟨_,q2,.inr ⟨_,_,cap,hv,?_,?_⟩⟩
   ·rw [hLz]; exact hO.has.sub (off*z) (m*z)
   ·rw [q2.length hzy,hly]
 have hsrc:Go.Src Γ.P z U (a.eval y) m wy w:=by
  rcases hS with ⟨h1,h2,h3⟩|h
  ·rw [h1]
   subst h2; subst h3
   cases ad with
   |none=>exact Src.ofNil w hU cap
   |some ad=>exact Src.ofSlice w hU ad 0 cap [] (by simp) (by simp) (by simp)
  ·exact zFC hU (zFj hone' hEy) (.inr h)
 obtain ⟨r,w1,hrun,hA⟩:=zFK (ty:=o.type) hT hinfo hzs hD hsrc hbig h62
 have hex:(execOp a.eval o).run Γ.P w= .ok (.value r) w1:=by
  rw [zDE hop]
  simp only [builtin,List.map_toArray,List.map_cons,List.map_nil]
  exact run_bind_ok hrun
 unfold Oper.wp
 rw [hex,Oper.upon_value]
 refine zGi (b1:=b1) (b2:=[]) (bx:=[]) (bk:=bk) (blk:=(β td).own) h0 hr hdst (by rw [hc]) hfr hm ?_ ?_ hEx hEy hzx hzy hlx hly hA (by rw [hc])
 ·simpa using p1
 ·rw [hc]
  rw [←zJ3] at hrest
  exact hrest
theorem zPa {α:Type} {xs ys r zs:List α} {l hi:Int} (T U el e' z bytes t td ts:Nat) (enc:α→List D) (x y:Operand) (hs:zGM ys l hi=some r) (h:app bytes xs r=some zs) (hx:OkO x (.rf td 0 xs.length none):=by trivial) (hy:OkO y (.sub ts l.toNat r.length):=by trivial)
  (hone:∀a,(enc a).all zDk=true:=by intro _; rfl) (hfree:∀a,(enc a).all D.free=true:=by intro _; rfl) (hT:(Γ.P.underlying T,Γ.P.underlying U,zLH Γ.P el,(zIw Γ.P el).cells.size,Nat.ble Γ.m t)=(some (.slice el),some (.slice e'),some (some (zIw Γ.P el),z,bytes),z,true):=by kernel_rfl):
  OpV Γ (.call {callee:=.builtin .append,args:= #[x,y],argTypes:= #[T,U]}) {tn:=tnO x (.rf td 0 xs.length none)++tnO y (.sub ts l.toNat r.length),hn:=[(td,rE z enc xs),(ts,rE z enc ys)],out:=some (.rf t 0 zs.length none),hx:=[td],hw:=[(t,rE z enc zs)],fr:=[t]}:=by
 simp only [Prod.mk.injEq] at hT
 obtain ⟨h1,h2,h3,h4,h5⟩:=hT
 obtain ⟨q1,q2,q3,q4,q5⟩:=zHa hs
 obtain ⟨rfl,g1,g2⟩:=zJO h
 intro ops o hop hg
 refine zMP (xs:=xs.map enc) (ys:=ys.map enc) (m:=r.length) (off:=l.toNat) (n:=xs.length) hg hop ?_ (Nat.le_of_ble_eq_true h5) (hx.f (fun y hy=>List.mem_append_left _ hy)) (hy.f (fun y hy=>List.mem_append_right _ hy)) (.head _) (.tail _ (.head _)) (by simp) (by rw [List.length_map]; omega) h1 h2 h3 h4 ?_ ?_ g1 g2
 ·congr 1
  ·simp
  ·show [(t,Ent.row z ((xs++r).map enc))]=_
   rw [List.map_append,←List.map_drop,←List.map_take,q5,←q4]
 ·intro e he
  obtain ⟨a,_,rfl⟩:=List.mem_map.1 he
  exact hone a
 ·intro e he
  obtain ⟨a,_,rfl⟩:=List.mem_map.1 he
  exact hfree a
end
end Go.Im
set_option linter.unusedVariables false
namespace Go.Im
open Go
section
variable {Γ:Ctx} {ops:Array Oper} {o:Oper}
end
end Go.Im
set_option linter.unusedVariables false
namespace Go.Im
open Go
end Go.Im
set_option linter.unusedVariables false
namespace Go.Im
open Go
theorem zNR {P:Program} {f:FuncId} {w w':World} {N:Nat→Prop} {bs blk bsub:List Nat} {m z k:Nat} {β:Nat→Loc} {L:List (List D)} {W:List Value} {r:Value}
  (hE:zU β N w L W bsub) (hz:∀e∈L,e.length=z) (hk:L.length=k) (ha:zMS w w' z k 0 W [] blk r) (hblk:∀b∈blk,b∈bs) (hsub:∀b∈bsub,b∈bs) (hnd:bsub.Nodup)
  (hsep:∀b∈bsub,b∉blk) (hlt:∀b∈bs,b<w.heap.size) (hN:∀b,N b→b<w.heap.size∧b∉bs):Post ⟨P,f,w,N,bs,m,β,0⟩ (.s true z k L) [] (.returned r) w':=by
 obtain ⟨hq,ha⟩:=ha
 rcases ha with ⟨hk0,_,rfl,rfl⟩|⟨b,off,c,rfl,hc,hO,hb,hcase⟩
 ·have hL:L=[]:=List.length_eq_zero_iff.1 (by omega)
  subst hL
  refine ⟨_,[],[],rfl,hq,Nat.le_refl _,fun _ _ _=>rfl,by simp,by simp,?_,rfl⟩
  simp only [Rep]
  exact ⟨hk,hz,none,0,by rw [show k=0 by omega],by omega,.inl ⟨by omega,by trivial,fun _=>⟨by trivial,by trivial⟩⟩⟩
 ·have hcommon:(∀b',b'<w.heap.size→b'∉blk→w'.heap[b']? =w.heap[b']?)∧w.heap.size≤w'.heap.size∧(b∈blk∨w.heap.size≤b):=by
   rcases hcase with ⟨rfl,q1,q2⟩|⟨rfl,q1,q2⟩
   ·exact ⟨fun b' _ hb'=>q1 b' (by simpa using hb'),by omega,.inl (by simp)⟩
   ·exact ⟨fun b' hb' _=>q2 b' hb',q1,.inr (Nat.le_refl _)⟩
  obtain ⟨h1,h2,h3⟩:=hcommon
  have hbn:b∉bsub:=fun h=>by
   rcases h3 with h3|h3
   ·exact hsep b h h3
   ·have:=hlt b (hsub b h); omega
  have hNS:∀b',N b'→NS ⟨P,f,w,N,bs,m,β,0⟩ w' (b::bsub++[]) b'∧w'.heap[b']? =w.heap[b']? :=fun b' hb'=>by
   obtain ⟨u1,u2⟩:=hN b' hb'
   refine ⟨⟨.inl hb',by omega,fun h=>?_⟩,h1 b' u1 (fun h=>u2 (hblk b' h))⟩
   simp only [List.append_nil,List.mem_cons] at h
   rcases h with rfl|h
   ·rcases h3 with h3|h3
    ·exact u2 (hblk _ h3)
    ·omega
   ·exact u2 (hsub b' h)
  refine ⟨_,b::bsub,[],rfl,hq,h2,fun b' hb' hb2=>h1 b' hb' (fun h=>hb2 (hblk b' h)),by simpa using ⟨hbn,hnd⟩,?_,?_,rfl⟩
  ·intro b' hb'
   simp only [List.append_nil,List.mem_cons] at hb'
   rcases hb' with rfl|hb'
   ·refine ⟨hb,?_⟩
    rcases h3 with h3|h3
    ·exact .inl (hblk _ h3)
    ·exact .inr h3
   ·have:=hlt b' (hsub b' hb')
    exact ⟨by omega,.inl (hsub b' hb')⟩
  ·simp only [Rep]
   refine ⟨hk,hz,some ⟨b,off,none⟩,c,rfl,by simpa using hc,.inr (.inr ⟨trivial,b,off,W,bsub,rfl,rfl,by simpa using hO,?_⟩)⟩
   exact zU.frame hNS L W bsub (fun b' hb'=>h1 b' (hlt b' (hsub b' hb')) (hsep b' hb')) hE
theorem zNX {β:Nat→Loc} {N:Nat→Prop} {w:World} {α:Type} {enc:α→List D} {xs:List α} {ws:List Value} {bs:List Nat} (hone:∀a,(enc a).all zDk=true) (h:zU β N w (xs.map enc) ws bs):∀x∈ws,Value.oneCell x=true:=
 zFj (fun e he=>by obtain ⟨a,_,rfl⟩:=List.mem_map.1 he; exact hone a) h
theorem zNo {P:Program} {f:FuncId} {α:Type} {enc:α→List D} {xs ys:List α} {i:Int} {z:Nat} (hone:∀a,(enc a).all zDk=true) (h0:0≤i) (h1:i≤xs.length)
  (hraw:∀(w:World) (v u:Value) (wx wy:List Value) (bx bz:List Nat),Dst w z xs.length v wx bx→Dst w z ys.length u wy bz→(∀b∈bx,b∉bz)→(∀b∈bx++bz,b<w.heap.size)→(∀q∈wx,Value.oneCell q=true)→(∀q∈wy,Value.oneCell q=true)→
   Calls P f #[v,.int .i64 i,u] w fun e w'=>∃r,e= .returned r∧zMS w w' z (xs.length+ys.length) 0 (wx.take (i.toNat*z)++(wy++wx.drop (i.toNat*z))) [] bx r):
  Ok P f [.rf 0 0 xs.length none,.sc (.int .i64 i),.rf 1 0 ys.length none] [.row z (xs.map enc),.row z (ys.map enc)] (some (.s true z (xs.take i.toNat++(ys++xs.drop i.toNat)).length ((xs.take i.toNat++(ys++xs.drop i.toNat)).map enc),[])):=by
 intro out ho w N β vs bs ha hh hnd hlt hN _
 cases ho
 simp only [zH] at ha
 obtain ⟨v,_,a1,a2,rfl,e12,hv,u0,_,a3,a4,rfl,rfl,hi,u,_,a5,a6,rfl,rfl,hu,rfl,rfl⟩:=ha
 have ea:a1=[]∧a3=[]∧a5=[]:=by simpa using e12.symm
 obtain ⟨rfl,rfl,rfl⟩:=ea
 simp only [Rep] at hi
 obtain ⟨rfl,_⟩:=hi
 obtain ⟨b1,_,rfl,hE1,b2,_,rfl,hE2,hnil⟩:=hh
 have hnil':_=[]:=hnil
 subst hnil'
 obtain ⟨wx,hD1,hx,hzx⟩:=zHH hv hE1 (by simp)
 obtain ⟨wy,hD2,hy,hzy⟩:=zHH hu hE2 (by simp)
 simp only [List.append_nil] at hnd hlt hN ⊢
 have hnd1:=List.nodup_append.1 hnd
 have hnd2:=List.nodup_append.1 hnd1.2.1
 have hnd3:=List.nodup_append.1 hnd2.2.1
 refine (hraw w v u wx wy _ _ hD1 hD2 (fun b hb hb'=>hnd1.2.2 b hb b (by simp [hb']) rfl) (fun b hb=>hlt b (by simp only [List.mem_append] at hb ⊢; rcases hb with h|h<;>simp [h])) (zNX hone hx) (zNX hone hy)).mono ?_
 rintro e w' ⟨r,rfl,hA⟩
 obtain ⟨d1,d2,rfl,g1,g2⟩:=hx.cut i.toNat hzx
 have hdd:=List.nodup_append.1 hnd2.1
 have hL:zU β N w ((xs.take i.toNat++(ys++xs.drop i.toNat)).map enc) (wx.take (i.toNat*z)++(wy++wx.drop (i.toNat*z))) (d1++(b2++d2)):=by
  simp only [List.map_append,List.map_take,List.map_drop]
  exact g1.append (hy.append g2)
 refine zNR (blk:=(β 0).own) hL (fun e he=>?_) (by simp) (by
  rw [show (xs.take i.toNat++(ys++xs.drop i.toNat)).length =xs.length+ys.length by simp; omega]; exact hA) (fun b hb=>by simp [hb]) (fun b hb=>?_) ?_ (fun b hb hb'=>?_) hlt hN
 ·simp only [List.map_append,List.mem_append] at he
  rcases he with he|he|he
  ·rw [List.map_take] at he; exact hzx e (List.mem_of_mem_take he)
  ·exact hzy e he
  ·rw [List.map_drop] at he; exact hzx e (List.mem_of_mem_drop he)
 ·simp only [List.mem_append] at hb ⊢
  rcases hb with h|h|h<;>simp [h]
 ·refine List.nodup_append.2 ⟨hdd.1,List.nodup_append.2 ⟨hnd3.2.1,hdd.2.1,?_⟩,?_⟩
  ·intro x hx' y hy' e
   subst e
   exact hnd2.2.2 x (by simp [hy']) x (by simp [hx']) rfl
  ·intro x hx' y hy' e
   subst e
   rcases List.mem_append.1 hy' with h|h
   ·exact hnd2.2.2 x (by simp [hx']) x (by simp [h]) rfl
   ·exact hdd.2.2 x hx' x h rfl
 ·refine hnd1.2.2 b hb' b ?_ rfl
  simp only [List.mem_append] at hb ⊢
  rcases hb with h|h|h<;>simp [h]
end Go.Im
set_option linter.unusedVariables false
namespace Go.Im
open Go
theorem zOe {arr:Array Value} {o A B:Nat} {X Y W:List Value} (hA:o+A+X.length≤arr.size) (hB:o+B+Y.length≤arr.size)
  (hW:∀k,k<W.length→(if B≤k∧k<B+Y.length then Y[k-B]? else if A≤k∧k<A+X.length then X[k-A]? else arr[o+k]?)=W[k]?):
  ∀k (hk:k<W.length),(zDI (zDI arr (o+A) X) (o+B) Y)[o+k]? =some W[k]:=by
 intro k hk
 rw [zEB _ _ _ (by rw [vF]; exact hB),zEB _ _ _ hA]
 have:=hW k hk
 rw [List.getElem?_eq_getElem hk] at this
 rw [←this]
 by_cases c1:B≤k∧k<B+Y.length
 ·rw [if_pos (by omega),if_pos c1]; congr 1; omega
 ·rw [if_neg (by omega),if_neg c1]
  by_cases c2:A≤k∧k<A+X.length
  ·rw [if_pos (by omega),if_pos c2]; congr 1; omega
  ·rw [if_neg (by omega),if_neg c2]
theorem zMS.world {w w1 w2:World} {z n m:Nat} {wx wy:List Value} {blk:List Nat} {r:Value} (h:zMS w w1 z n m wx wy blk r) (hn:0<n+m) (hh:w2.heap=w1.heap) (hq:w2.os=w1.os∧w2.output=w1.output):zMS w w2 z n m wx wy blk r:=by
 obtain ⟨h1,h2⟩:=h
 refine ⟨⟨hq.1.trans h1.1,hq.2.trans h1.2⟩,?_⟩
 rcases h2 with ⟨h2,_⟩|⟨b,off,c,h3,h4,h5,h6,h7⟩
 ·omega
 ·exact .inr ⟨b,off,c,h3,h4,h5.frame (by rw [hh]),by rw [hh]; exact h6,by rw [hh]; exact h7⟩
theorem zNA {wx wy:List Value} {n m k0 z:Nat} (hl:wx.length=n*z) (hly:wy.length=m*z) (hk:k0≤n):∀k,k< (wx.take (k0*z)++(wy++wx.drop (k0*z))).length →
  (wx.take (k0*z)++(wy++wx.drop (k0*z)))[k]? =if k<k0*z then wx[k]? else if k< (k0+m)*z then wy[k-k0*z]? else (wx.drop (k0*z))[k-(k0+m)*z]? :=by
 intro k _
 have hkz:k0*z≤n*z:=Nat.mul_le_mul_right _ hk
 have ht:(wx.take (k0*z)).length =k0*z:=by simp; omega
 have e:(k0+m)*z=k0*z+m*z:=Nat.add_mul _ _ _
 by_cases c1:k<k0*z
 ·rw [if_pos c1,List.getElem?_append_left (by omega),List.getElem?_take,if_pos c1]
 ·rw [if_neg c1,List.getElem?_append_right (by omega),ht]
  by_cases c2:k< (k0+m)*z
  ·rw [if_pos c2,List.getElem?_append_left (by omega)]
  ·rw [if_neg c2,List.getElem?_append_right (by omega)]
   congr 1; omega
theorem zMA {w w0:World} (hw0:w0.heap=w.heap∧w0.os=w.os∧w0.output=w.output) {b off c z n m k0:Nat} {wx wy:List Value} (hO:Own w b off (c*z) wx) (hl:wx.length=n*z) (hly:wy.length=m*z) (hk:k0≤n) (hc:n+m≤c):
  zMS w (putCells (putCells w0 b (off+(k0+m)*z) (wx.drop (k0*z))) b (off+k0*z) wy) z (n+m) 0 (wx.take (k0*z)++(wy++wx.drop (k0*z))) [] [b] (.slice (some ⟨b,off,none⟩) (n+m) c):=by
 obtain ⟨arr,e,lo,hi,g1,g2,g3,g4⟩:=hO
 have g1':w0.heap[b]? =some (.cells arr e (lo,hi)):=by rw [hw0.1]; exact g1
 obtain ⟨p1,p2,p3⟩:=wQ (off:=off+(k0+m)*z) (vs:=wx.drop (k0*z)) g1'
 obtain ⟨q1,q2,q3⟩:=wQ (off:=off+k0*z) (vs:=wy) p1
 have hkz:k0*z≤n*z:=Nat.mul_le_mul_right _ hk
 have e1:(k0+m)*z=k0*z+m*z:=Nat.add_mul _ _ _
 have e2:(n+m)*z=n*z+m*z:=Nat.add_mul _ _ _
 have hcz:(n+m)*z≤c*z:=Nat.mul_le_mul_right _ hc
 have hlen:(wx.take (k0*z)++(wy++wx.drop (k0*z))).length =(n+m)*z:=by simp; omega
 refine ⟨⟨(wX _ _ _ _).1.trans ((wX _ _ _ _).1.trans hw0.2.1),(wX _ _ _ _).2.trans ((wX _ _ _ _).2.trans hw0.2.2)⟩,.inr ⟨b,off,c,rfl,by omega,?_,?_,.inl ⟨rfl,fun b' hb'=>?_,?_⟩⟩⟩
 ·refine ⟨_,e,lo,hi,q1,by rw [vF,vF]; exact g2,by rw [vF,vF]; exact g3,?_⟩
  rw [List.append_nil]
  refine zOe (by simp; omega) (by omega) (fun k hk'=>?_)
  rw [zNA hl hly hk k hk']
  rw [hlen] at hk'
  by_cases c1:k<k0*z
  ·rw [if_neg (by omega),if_neg (by omega),if_pos c1,g4 k (by omega),List.getElem?_eq_getElem]
  ·by_cases c2:k< (k0+m)*z
   ·rw [if_pos (by omega),if_neg c1,if_pos c2]
   ·rw [if_neg (by omega),if_pos (by simp; omega),if_neg c1,if_neg c2]
 ·rw [q3,p3,hw0.1]
  rcases Nat.lt_or_ge b w.heap.size with h|h
  ·exact h
  ·rw [Array.getElem?_eq_none h] at g1; cases g1
 ·rw [q2 b' hb',p2 b' hb',hw0.1]
 ·rw [q3,p3,hw0.1]
theorem zNF {w w0:World} {ROW:Array Value} {e:TypeId} (hw0:w0.heap=w.heap.push (.cells ROW e (0,0))∧w0.os=w.os∧w0.output=w.output) {c z n m k0:Nat} {wx wy:List Value} {blk:List Nat} (hR:∀k,k<k0*z→ROW[k]? =wx[k]?) (hsz:c*z≤ROW.size) (hl:wx.length=n*z) (hly:wy.length=m*z) (hk:k0≤n) (hc:n+m≤c):
  zMS w (putCells (putCells w0 w.heap.size (k0*z) wy) w.heap.size ((k0+m)*z) (wx.drop (k0*z))) z (n+m) 0 (wx.take (k0*z)++(wy++wx.drop (k0*z))) [] blk (.slice (some ⟨w.heap.size,0,none⟩) (n+m) c):=by
 have g1':w0.heap[w.heap.size]? =some (.cells ROW e (0,0)):=by rw [hw0.1]; simp
 obtain ⟨p1,p2,p3⟩:=wQ (off:=k0*z) (vs:=wy) g1'
 obtain ⟨q1,q2,q3⟩:=wQ (off:=(k0+m)*z) (vs:=wx.drop (k0*z)) p1
 have hkz:k0*z≤n*z:=Nat.mul_le_mul_right _ hk
 have e1:(k0+m)*z=k0*z+m*z:=Nat.add_mul _ _ _
 have e2:(n+m)*z=n*z+m*z:=Nat.add_mul _ _ _
 have hcz:(n+m)*z≤c*z:=Nat.mul_le_mul_right _ hc
 have hlen:(wx.take (k0*z)++(wy++wx.drop (k0*z))).length =(n+m)*z:=by simp; omega
 refine ⟨⟨(wX _ _ _ _).1.trans ((wX _ _ _ _).1.trans hw0.2.1),(wX _ _ _ _).2.trans ((wX _ _ _ _).2.trans hw0.2.2)⟩,.inr ⟨w.heap.size,0,c,rfl,by omega,?_,?_,.inr ⟨rfl,?_,fun b' hb'=>?_⟩⟩⟩
 ·refine ⟨_,e,0,0,q1,by omega,by rw [vF,vF]; omega,?_⟩
  rw [List.append_nil]
  have key:=zOe (arr:=ROW) (o:=0) (A:=k0*z) (B:=(k0+m)*z) (X:=wy) (Y:=wx.drop (k0*z)) (W:=wx.take (k0*z)++(wy++wx.drop (k0*z))) (by omega) (by simp; omega) (fun k hk'=>?_)
  ·simpa using key
  ·rw [zNA hl hly hk k hk']
   rw [hlen] at hk'
   by_cases c1:k<k0*z
   ·rw [if_neg (by omega),if_neg (by omega),if_pos c1,Nat.zero_add,hR k c1]
   ·by_cases c2:k< (k0+m)*z
    ·rw [if_neg (by omega),if_pos (by omega),if_neg c1,if_pos c2]
    ·rw [if_pos (by simp; omega),if_neg c1,if_neg c2]
 ·rw [q3,p3,hw0.1]; simp
 ·rw [q3,p3,hw0.1]; simp
 ·rw [q2 b' (by omega),p2 b' (by omega)]
  exact zFp hw0.1 hb'
theorem zGT {w:World} {b k:Nat} {arr:Array Value} {e:TypeId} {lo hi:Nat} (h:w.heap[b]? =some (.cells arr e (lo,hi))) (h2:∀k,k≤arr.size→¬(lo≤k∧k<hi)) (hk:k≤arr.size):w.frozen? ⟨b,k,none⟩=false:=by
 have:=h2 k hk
 simp only [World.frozen?,h,Bool.and_eq_false_imp,decide_eq_true_eq,decide_eq_false_iff_not]
 intro h5 h6; exact this ⟨h5,h6⟩
theorem zFO {P:Program} (w:World) (dT sT ty elem:TypeId) (z b o dLen dCap:Nat) (a:Addr) (sLen sCap:Nat) (cs:List Value)
  (hu:P.underlying dT=some (.slice elem)) (hs:(P.info? elem).map (·.size)=some z) (hn:cs.length=Nat.min sLen dLen*z)
  (hsrc:∀j v,cs[j]? =some v→w.cell? (a.add j)=some v) (hc:∀j,j<cs.length→(w.cell? ⟨b,o+j,none⟩).isSome =true) (hf:∀j,j<cs.length→w.frozen? ⟨b,o+j,none⟩=false) (h1:∀v∈cs,v.oneCell'=true):
  (Builtin.copy_ #[dT,sT] ty #[.slice (some ⟨b,o,none⟩) dLen dCap,.slice (some a) sLen sCap]).run P w= .ok (goInt (Nat.min sLen dLen)) (w.setCells b o cs):=by
 have hl:=run_loadCells_list (P:=P) w a cs hsrc
 have hst:=run_storeCells_cells (P:=P) b o cs 0 w (by simpa using hc) (by simpa using hf) h1
 cases hq:P.info? elem with
 |none=>simp [hq] at hs
 |some i=>
  have hi:i.size=z:=by simpa [hq] using hs
  rw [hn] at hl
  simp [Builtin.copy_,run_underlying hu,Builtin.lenOf,Builtin.firstCells,sizeOf,typeInfo,hq,hi,hl,hst]
end Go.Im
set_option linter.unusedVariables false
namespace Go.Im
open Go
def lnC:D→D
 | .s _ _ n _=>.ln n
 |d=>d
section
variable {Γ:Ctx} {ops:Array Oper} {o:Oper}
theorem Rep.lnC {β:Nat→Loc} {N:Nat→Prop} {w:World}:∀{d:D} {v:Value} {bs:List Nat},Rep β N w false d v bs→Rep β N w true (lnC d) v []
 | .s o z n xs,v,bs,h=>by
  simp only [Rep] at h
  obtain ⟨_,_,a,cap,h3,h4,_⟩:=h
  simp only [Im.lnC,Rep]
  exact ⟨trivial,a,cap,h3,h4⟩
 | .sc _,v,bs,h=>by simp only [Rep,Im.lnC] at h ⊢; exact ⟨h.1,trivial⟩
 | .rf _ _ _ _,v,bs,h=>by simp only [Rep] at h; exact absurd h.1 (by simp)
 | .pt _ _ _,v,bs,h=>by simp only [Rep] at h; exact absurd h.1 (by simp)
 | .ps cs,v,bs,h=>by simp only [Rep,Im.lnC] at h ⊢; exact ⟨trivial,h.2⟩
 | .fn _ _,v,bs,h=>by simp only [Rep] at h; exact absurd h.1 (by simp)
 | .ag _,v,bs,h=>by simp only [Rep] at h; exact absurd h.1 (by simp)
 | .tu _,v,bs,h=>by simp only [Rep] at h; exact absurd h.1 (by simp)
 | .un,v,bs,h=>by simp only [Rep,Im.lnC] at h ⊢; exact ⟨h.1,trivial⟩
 | .nb _,v,bs,h=>by simp only [Rep,Im.lnC] at h ⊢; exact ⟨trivial,h.2⟩
 | .sub _ _ _,v,bs,h=>by simp only [Rep] at h; exact absurd h.1 (by simp)
 | .fb _ _,v,bs,h=>by simp only [Rep] at h; exact absurd h.1 (by simp)
 | .pb _,v,bs,h=>by simp only [Rep] at h; exact absurd h.1 (by simp)
 | .ln _,v,bs,h=>by simp only [Rep,Im.lnC] at h ⊢; exact ⟨trivial,h.2⟩
 | .po _,v,bs,h=>by simp only [Rep] at h; exact absurd h.1 (by simp)
theorem zH.lnC {β:Nat→Loc} {N:Nat→Prop} {w:World}:∀{ds:List D} {ws:List Value} {bs:List Nat},zH β N w false ds ws bs→zH β N w true (ds.map Im.lnC) ws []
 |[],ws,bs,h=>by simp only [zH,List.map_nil] at h ⊢; exact ⟨h.1,trivial⟩
 |d::ds,ws,bs,h=>by
  simp only [zH,List.map_cons] at h ⊢
  obtain ⟨v,vs,b1,b2,h1,_,h3,h4⟩:=h
  exact ⟨v,vs,[],[],h1,rfl,Rep.lnC h3,zH.lnC h4⟩
theorem zNy {c:Cert} {x:Operand} {T:TypeId} {z t i j:Nat} {xs:List (List D)} {e:List D} {d:D} (hg:o.guard=none) (hop:o.op= .load T x) (hc:c= {tn:=c.tn,hn:=c.hn,out:=some d})
  (hx:OpF c x (.pt t i j)) (hh:(t,.row z xs)∈c.hn) (he:xs[i]? =some e) (ho:((e.drop j).map lnC).all zDk=true)
  (hd:zBs Γ.P T ((e.drop j).map lnC)=some d):Valid Γ ops o c:=by
 refine tT (d:=d) (f:=fun ρ=>Instr.loadAt T (ρ x)) hg (fun ρ=>by simp [execOp,hop]) (by rw [hc]) fun β bs σ a w hn hr=>?_
 have h1:=OpF.rep hx hn hr
 simp only [Rep] at h1
 obtain ⟨b1,⟨hLz,hzz,hrow⟩,_,_⟩:=vO.get hr.hp (hn.2.1 _ hh)
 rcases hrow with ⟨_,rfl,_⟩|⟨hnil,ws,hO,hE⟩
 ·simp at he
 ·obtain ⟨b2,b3,b4,_,h4,_,_⟩:=zU.get hE hzz he
  obtain ⟨b5,b6,_,_,h6⟩:=h4.split j
  have h7:=h6.lnC
  have hone:=zEZ ho h7
  obtain ⟨v,h8,h9⟩:=zDx hd ((hO.cells (i*z) z).drop j) hone h7
  refine ⟨v,?_,h9⟩
  rw [h1.2.2.2,hLz]
  exact h8
theorem zNE {α:Type} {xs:List α} {i:Int} {a:α} {d:D} (T z t j:Nat) (enc:α→List D) (x:Operand) (h:idx xs i=some a) (hd:((((enc a).drop j).map lnC).all zDk,zBs Γ.P T (((enc a).drop j).map lnC))=(true,some d)) (hx:OkO x (.pt t i.toNat j):=by trivial):
  OpV Γ (.load T x) {tn:=tnO x (.pt t i.toNat j),hn:=[(t,rE z enc xs)],out:=some d}:=by
 simp only [Prod.mk.injEq] at hd
 obtain ⟨_,h2⟩:=zEM h
 intro ops o hop hg
 exact zNy (xs:=xs.map enc) (e:=enc a) hg hop rfl (hx.f (fun y hy=>hy)) (.head _) (by rw [List.getElem?_map,h2]; rfl) hd.1 hd.2
end
theorem zRw {α:Type} {z:Nat} {enc:α→List D} {xs:List α}:Wk (sl z enc xs) (.ln xs.length):=.ln
end Go.Im
set_option linter.unusedVariables false
namespace Go.Im
open Go
theorem FzT.all {t z:Nat} {xs:List (List D)}:∀{l:List (Nat×D)},(∀x∈l,x.2.men.contains t=false)→FzT t z xs l l
 |[],_=>.nil
 |(q,d)::l,h=>.cons (.keep (h (q,d) (by simp))) (FzT.all fun x hx=>h x (by simp [hx]))
theorem FzH.all {t z:Nat} {xs:List (List D)}:∀{l:List (Nat×Ent)},(∀x∈l,x.2.men.contains t=false)→FzH t z xs l l
 |[],_=>.nil
 |(q,e)::l,h=>.keep (h (q,e) (by simp)) (FzH.all fun x hx=>h x (by simp [hx]))
theorem Rel.frz {Γ:Ctx} {a:Act} {w:World} {t z:Nat} {xs:List (List D)} {tm1 tm2:List (Nat×D)} {hp1 hp2:List (Nat×Ent)} {us us2:List Nat} (htm:FzT t z xs tm1 tm2) (hhp:FzH t z xs hp1 hp2)
  (hu:∀q,q∈zJc tm2∨q∈zFJ hp2→q∈us2) (hr:Rel Γ ⟨tm1,(t,.row z xs)::hp1,us⟩ a w):Rel Γ ⟨tm2,hp2,us2⟩ a w:=by
 obtain ⟨h0,β,bs,h⟩:=hr
 obtain ⟨b1,bk,rfl,hE,hrest⟩:=h.hp
 have hp:((β t).own ++(b1++bk)).Perm (((β t).own ++b1)++bk):=by rw [List.append_assoc]
 have hnd:=hp.nodup_iff.1 h.nodup
 have hN:∀b,NS Γ w ((β t).own ++(b1++bk)) b→NS Γ w bk b:=fun b hb=>NS.sub (fun x hx=>by simp [hx]) hb
 have hb:∀b∈(β t).own ++b1,NS Γ w bk b:=fun b hb=>by
  have:=h.own b (hp.mem_iff.2 (List.mem_append_left _ hb))
  refine ⟨?_,this.1,fun hbk=>(List.nodup_append.1 hnd).2.2 b hb b hbk rfl⟩
  rcases this.2 with h1|h1
  ·exact .inr (.inl h1)
  ·exact .inr (.inr h1)
 refine ⟨hu,β,bk,{defers:=h.defers,size:=h.size,keys:=?_,par:=h.par,grow:=h.grow,gh:=h.gh,quiet:=h.quiet,keep:=h.keep,hp:=hhp.rep hN hE hb hrest,nodup:=(List.nodup_append.1 hnd).2.1,own:=fun b hb=>h.own b (hp.mem_iff.2 (List.mem_append_right _ hb)),tm:=?_}⟩
 ·have hk:=h.keys
  simp only [List.map_cons,List.nodup_cons] at hk
  rw [hhp.keys]
  exact hk.2
 ·intro q d' hd
  obtain ⟨d,h1,h2⟩:=htm.mem hd
  obtain ⟨v,h3,h4⟩:=h.tm q d h1
  exact ⟨v,h3,Fz.rep hN hE hb h2 h4⟩
theorem zRt {Γ:Ctx} {op:Op} {tn:List (Nat×D)} {hn:List (Nat×Ent)} {d1 d2:D} {t z:Nat} {xs:List (List D)} (hv:OpV Γ op {tn:=tn,hn:=hn,out:=some d1,hw:=[(t,.row z xs)],fr:=[t]}) (hf:Fz t z xs d1 d2) (hm:d2.men=[]:=by rfl):
  OpV Γ op {tn:=tn,hn:=hn,out:=some d2,fr:=[t]}:=by
 intro ops o hop hg σ a w Q hdst hn' hr
 have hus:=hr.1
 have hfr:t∉σ.us:=hn'.2.2 t (by simp)
 have h:=hv ops o hop hg σ a w Q hdst ⟨hn'.1,hn'.2.1,hn'.2.2⟩ hr
 have hwt:Region.wanted o (yielded ops a.tmps)=true:=by simp [Region.wanted,hg]
 rw [if_pos hwt] at h ⊢
 refine Oper.wp_mono (fun a' w' hrel=>?_) h
 obtain ⟨dd,hdd⟩:∃dd,o.dst=dd:=⟨_,rfl⟩
 rw [hdd] at hrel
 rw [hdd]
 have key:FzT t z xs ((({tn:=tn,hn:=hn,out:=some d1,hw:=[(t,.row z xs)],fr:=[t]}:Cert).outs dd)++σ.tm.filter (fun x=>dd !=some x.1)) ((({tn:=tn,hn:=hn,out:=some d2,fr:=[t]}:Cert).outs dd)++σ.tm.filter (fun x=>dd !=some x.1)):=by
  have hrest:FzT t z xs (σ.tm.filter (fun x=>dd !=some x.1)) (σ.tm.filter (fun x=>dd !=some x.1)):=FzT.all fun x hx=>by
   have:t∉x.2.men:=fun h=>hfr (hus t (.inl (List.mem_flatMap.2 ⟨x,(List.mem_filter.1 hx).1,h⟩)))
   simpa using this
  cases dd with
  |none=>exact hrest
  |some q=>exact .cons hf hrest
 refine Rel.frz key (FzH.all fun x hx=>?_) (fun q hq=>?_) hrel
 ·have:t∉x.2.men:=fun h=>hfr (hus t (.inr (List.mem_flatMap.2 ⟨x,(List.mem_filter.1 hx).1,by simp [h]⟩)))
  simpa using this
 ·refine List.mem_append_right _ ?_
  rcases hq with hq|hq
  ·obtain ⟨x,hx,hx'⟩:=List.mem_flatMap.1 hq
   rcases List.mem_append.1 hx with hx|hx
   ·unfold Cert.outs at hx
    cases dd with
    |none=>simp at hx
    |some q'=>
     simp only [List.mem_singleton] at hx
     subst hx
     simp only [hm] at hx'
     cases hx'
   ·exact hus q (.inl (List.mem_flatMap.2 ⟨x,(List.mem_filter.1 hx).1,hx'⟩))
  ·obtain ⟨x,hx,hx'⟩:=List.mem_flatMap.1 hq
   exact hus q (.inr (List.mem_flatMap.2 ⟨x,(List.mem_filter.1 hx).1,hx'⟩))
theorem zOY {α:Type} {xs:List α} {ix:Int} {x:α} (h:idx xs ix=some x):xs.set ix.toNat x=xs:=by
 unfold idx at h
 split at h
 ·obtain ⟨h1,h2⟩:=List.getElem?_eq_some_iff.1 h
  subst h2
  exact List.set_getElem_self h1
 ·cases h
end Go.Im
set_option linter.unusedVariables false
namespace Go.Im
open Go
section
variable {Γ:Ctx} {ops:Array Oper} {o:Oper}
end
end Go.Im

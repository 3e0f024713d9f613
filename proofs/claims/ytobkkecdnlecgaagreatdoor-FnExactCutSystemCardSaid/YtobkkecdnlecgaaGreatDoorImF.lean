import Derived.Test.YtobkkecdnlecgaaGreatDoorImE
import Derived.Laws.StructEq
import Derived.Sort.Row
import Derived.Sort.Grow
import Derived.Lib.LaidTab
import Derived.Lib.ItoaNum
import Derived.Deep.Draws
import Derived.LaidSub
import Derived.Below
import Derived.Lib.Split
import Derived.Lib.Join
import Derived.Lib.Repeat
import Derived.Handed
import Derived.Shelf.Vars
import Derived.Lib.SplitLaws
import Derived.Lib.ConvBytes
import Derived.Sort.EncStr
set_option linter.unusedVariables false
namespace Go.Im
open Go
def mkV (P:Program) (t:TypeId) (xs:List Value):Option Value:=match zGW P t with
 |some true=>some (.agg xs.toArray)
 |some false=>xs.head?
 |none=>none
def zSK (P:Program) (g:TypeId→List Value→List Value→Option Bool) (xs ys:List Value):List Field→Option Bool
 |[]=>some true
 |f::fs=>if f.name= "_" then none else match zGD P f.type with
  |some z=>match g f.type ((xs.drop f.offset).take z) ((ys.drop f.offset).take z),zSK P g xs ys fs with
   |some a,some r=>some (a&&r)
   |_,_=>none
  |none=>none
def eqT (P:Program):Nat→TypeId→List Value→List Value→Option Bool
 |0,_,_,_=>none
 |d+1,t,xs,ys=>match P.underlying t with
  |some (.struct fs)=>if P.stoodInHeld t=false∧zGW P t=some true then zSK P (eqT P d) xs ys fs.toList else none
   |some (.int _)=>match zGW P t,xs,ys with
   |some false,.int k1 a::_,.int k2 b::_=>if k1=k2 then some (a==b) else none
   |_,_,_=>none
  |some .bool =>match zGW P t,xs,ys with
   |some false,.bool a::_,.bool b::_=>some (a==b)
   |_,_,_=>none
  |some .string =>match zGW P t,xs,ys with
   |some false,.string a::_,.string b::_=>some (a.toList==b.toList)
   |_,_,_=>none
  |_=>none
theorem zQc {P:Program} {w:World} {t:TypeId} {cs:List Value} {off z:Nat} {v:Value} (hz:zGD P t=some z) (hz0:zGW P t=some false→0<z) (h:mkV P t ((cs.drop off).take z)=some v):(part t cs.toArray off).run P w= .ok v w:=by
 unfold mkV at h
 unfold part
 split at h
 ·rename_i ha
  cases h
  rw [run_bind_ok (zO _ _ w ha)]
  simp only [if_true]
  rw [run_bind_ok (zO _ _ w hz)]
  have:(cs.toArray.extract off (off+z))=((cs.drop off).take z).toArray :=by
   apply Array.ext'
   simp [List.take_drop]
  rw [this]
  rfl
 ·rename_i ha
  rw [run_bind_ok (zO _ _ w ha)]
  simp only [Bool.false_eq_true,if_false]
  have:cs.toArray[off]? =some v:=by
   rw [List.head?_take,if_neg (by have:=hz0 ha; omega),List.head?_drop] at h
   simpa using h
  rw [this]
  rfl
 ·cases h
theorem zPq {P:Program}:∀(d k:Nat) (t:TypeId) (xs ys:List Value) (vx vy:Value) (r:Bool) (w:World),eqT P d t xs ys=some r→mkV P t xs=some vx→mkV P t ys=some vy→(Op.equalIn (d+k) t vx vy).run P w= .ok r w
 |0,k,t,xs,ys,vx,vy,r,w,h,_,_=>by simp [eqT] at h
 |d+1,k,t,xs,ys,vx,vy,r,w,h,hx,hy=>by
  rw [show d+1+k=(d+k)+1 by omega]
  unfold eqT at h
  unfold mkV at hx hy
  split at h
  ·rename_i fs hfs
   split at h
   ·rename_i hc
    rw [hc.2] at hx hy
    cases hx
    cases hy
    have hff:P.fieldsOf t=fs:=by unfold Program.fieldsOf; rw [hfs]
    rw [run_equalIn_struct w (d+k) t _ _ (by rw [hff]; exact hfs) hc.1,hff]
    have key:∀(l:List Field) (r:Bool),zSK P (eqT P d) xs ys l=some r→(Op.eqFields (d+k) xs.toArray ys.toArray l).run P w= .ok r w:=by
     intro l
     induction l with
     |nil=>intro r h; cases h; rfl
     |cons f l ih=>
      intro r h
      unfold zSK at h
      split at h
      ·cases h
      ·rename_i hnm
       split at h
       ·rename_i z hz
        split at h
        ·rename_i a q ha hq
         cases h
         have hmk:∀(cs:List Value),(∃a l',(cs.drop f.offset).take z=a::l')∨zGW P f.type=some true→zGW P f.type≠none→∃v,mkV P f.type ((cs.drop f.offset).take z)=some v∧(part f.type cs.toArray f.offset).run P w= .ok v w:=by
          intro cs hcs hne
          have:∃v,mkV P f.type ((cs.drop f.offset).take z)=some v:=by
           unfold mkV
           rcases hcs with ⟨a,l',e⟩|e
           ·cases hag:zGW P f.type with
            |none=>exact absurd hag hne
            |some b=>cases b<;>simp [e]
           ·rw [e]; exact ⟨_,rfl⟩
          obtain ⟨v,hv⟩:=this
          refine ⟨v,hv,zQc hz (fun hf=>?_) hv⟩
          rcases Nat.eq_zero_or_pos z with e|e
          ·subst e
           unfold mkV at hv
           rw [hf] at hv
           simp at hv
          ·exact e
         have hsh:zGW P f.type≠none∧((∃a l',(xs.drop f.offset).take z=a::l')∨zGW P f.type=some true)∧((∃a l',(ys.drop f.offset).take z=a::l')∨zGW P f.type=some true):=by
          cases d with
          |zero=>simp [eqT] at ha
          |succ d=>
           unfold eqT at ha
           split at ha
           ·split at ha
            ·rename_i hc'
             exact ⟨by rw [hc'.2]; simp,.inr hc'.2,.inr hc'.2⟩
            ·cases ha
           all_goals first
            |(split at ha
              ·rename_i g1 g2 g3
               exact ⟨by rw [g1]; simp,.inl ⟨_,_,g2⟩,.inl ⟨_,_,g3⟩⟩
              ·cases ha)
            |cases ha
         obtain ⟨va,m1,p1⟩:=hmk xs hsh.2.1 hsh.1
         obtain ⟨vb,m2,p2⟩:=hmk ys hsh.2.2 hsh.1
         have he:=zPq d k f.type _ _ va vb a w ha m1 m2
         unfold Op.eqFields
         rw [if_pos (by simpa using hnm),run_bind_ok p1,run_bind_ok p2,run_bind_ok he]
         cases a
         ·rfl
         ·simp only [Bool.not_true,Bool.false_eq_true,if_false,Bool.true_and]
          exact ih q hq
        ·cases h
       ·cases h
    exact key _ _ h
   ·cases h
  ·rename_i kk hu
   split at h
   ·rename_i hag
    rw [hag] at hx hy
    cases hx
    cases hy
    split at h
    ·rename_i e
     subst e
     cases h
     exact run_equalIn_int w (d+k) t _ _ _ _ hu
    ·cases h
   ·cases h
  ·rename_i hu
   split at h
   ·rename_i hag
    rw [hag] at hx hy
    cases hx
    cases hy
    cases h
    exact run_equalIn_bool' w (d+k) t _ _ hu
   ·cases h
  ·rename_i hu
   split at h
   ·rename_i hag
    rw [hag] at hx hy
    cases hx
    cases hy
    cases h
    exact run_equalIn_string w (d+k) t _ _ hu
   ·cases h
  ·cases h
section
variable {Γ:Ctx} {ops:Array Oper} {o:Oper}
theorem zHM {β:Nat→Loc} {N:Nat→Prop} {w:World} {top:Bool}:∀{us ws:List Value} {bs:List Nat},zI β N w top (us.map D.sc) ws bs→ws=us
 |[],ws,bs,h=>by simp only [List.map_nil,zI] at h; exact h.1
 |u::us,ws,bs,h=>by
  simp only [List.map_cons,zI,Rep] at h
  obtain ⟨v,vs,b1,b2,rfl,_,h3,h4⟩:=h
  rw [h3.1,zHM h4]
theorem zMF {P:Program} {w:World} {b:BinOp} {T:TypeId} {x y:Operand} {xs ys:Array Value} (h:P.eqGuardType P.depth T=false):(eqGuard b T x y (.agg xs) (.agg ys)).run P w= .ok () w:=by
 have key:(do
   let __do_lift ←program
   let __do_lift_1 ←program
   if (!__do_lift.eqGuardType __do_lift_1.depth T)=true then pure ()
   else do
    let __do_lift ←Op.eqGuardIn Op.maxDepth T (Value.agg xs) (Value.agg ys)
    if __do_lift=true then unsupported (.noEntry "binop/eql: two nil values of an interface type with methods, in a part of a struct or an array") else pure ():Sem Unit).run P w= .ok () w:=by
  rw [run_bind_ok (a:=P) (w':=w) rfl]
  rw [run_bind_ok (a:=P) (w':=w) rfl]
  rw [h]
  rfl
 unfold eqGuard
 split
 ·exact key
 ·exact key
 ·rfl
theorem zSB {c:Cert} {b:BinOp} {x y:Operand} {T U:TypeId} {us vs:List Value} {d:Nat} {r q:Bool} (hg:o.guard=none) (hop:o.op= .binOp b T x y U) (hb:(b= .eql ∧q=r)∨(b= .neq ∧q= !r)) (hc:c= {tn:=c.tn,out:=some (.sc (.bool q))})
  (hx:OpF c x (.ag (us.map D.sc))) (hy:OpF c y (.ag (vs.map D.sc))) (hagg:zGW Γ.P T=some true) (hgt:Γ.P.eqGuardType Γ.P.depth T=false) (hd:d≤10000) (he:eqT Γ.P d T us vs=some r):Valid Γ ops o c:=by
 refine uZ (d:=.sc (.bool q)) (f:=fun ρ=>do eqGuard b T x y (ρ x) (ρ y); binOp b T (ρ x) (ρ y)) hg (fun ρ=>by simp [execOp,hop]) (by rw [hc]) fun β bs σ a w hn hr=>?_
 have h1:=OpF.rep hx hn hr
 have h2:=OpF.rep hy hn hr
 simp only [Rep] at h1 h2
 obtain ⟨_,w1,e1,_,r1⟩:=h1
 obtain ⟨_,w2,e2,_,r2⟩:=h2
 rw [zHM r1] at e1
 rw [zHM r2] at e2
 refine ⟨.bool q,?_,by simp [Rep]⟩
 rw [e1,e2]
 rw [run_bind_ok (zMF hgt)]
 have hrun:=zPq d (10000-d) T us vs (.agg us.toArray) (.agg vs.toArray) r w he (by unfold mkV; rw [hagg]) (by unfold mkV; rw [hagg])
 rw [show d+(10000-d)=10000 by omega] at hrun
 rcases hb with ⟨rfl,rfl⟩|⟨rfl,rfl⟩
 ·rw [run_eql_struct,hrun]; rfl
 ·rw [run_neq_struct,hrun]; rfl
theorem zLk {b:BinOp} {q r:Bool} (T U:Nat) (x y:Operand) (us vs:List Value) (hb:(b= .eql ∧q=r)∨(b= .neq ∧q= !r)) (hx:OkO x (.ag (us.map D.sc)):=by trivial) (hy:OkO y (.ag (vs.map D.sc)):=by trivial)
  (hT:(zGW Γ.P T,Γ.P.eqGuardType Γ.P.depth T,eqT Γ.P 4 T us vs)=(some true,false,some r):=by kernel_rfl):
  OpV Γ (.binOp b T x y U) {tn:=tnO x (.ag (us.map D.sc))++tnO y (.ag (vs.map D.sc)),out:=some (.sc (.bool q))}:=by
 simp only [Prod.mk.injEq] at hT
 obtain ⟨h1,h2,h3⟩:=hT
 intro ops o hop hg
 exact zSB hg hop hb rfl (hx.f (fun y hy=>List.mem_append_left _ hy)) (hy.f (fun y hy=>List.mem_append_right _ hy)) h1 h2 (by decide) h3
end
end Go.Im
set_option linter.unusedVariables false
namespace Go.Im
open Go
section
variable {Γ:Ctx} {ops:Array Oper} {o:Oper}
theorem zRL {c:Cert} {f:FuncId} {caps:Array Operand} {ds:List D} (hg:o.guard=none) (hop:o.op= .makeFunc (.func f) caps #[]) (hc:c= {tn:=c.tn,out:=some (.fb f ds)})
  (hl:ds.length=caps.size) (hds:∀(k:Nat) (d:D),ds[k]? =some d→∃x,caps[k]? =some x∧OpF c x d):Valid Γ ops o c:=by
 refine uZ (d:=.fb f ds) (f:=fun ρ=>Instr.makeFunc (.func f) (caps.map ρ) #[]) hg (fun ρ=>by simp [execOp,hop]) (by rw [hc]) fun β bs σ a w hn hr=>?_
 refine ⟨_,rfl,?_⟩
 simp only [Rep]
 refine ⟨trivial,trivial,(caps.map a.eval).toList,by rw [Array.toArray_toList],?_⟩
 have key:∀(ds:List D) (xs:List Operand),ds.length=xs.length→(∀(k:Nat) (d:D),ds[k]? =some d→∃x,xs[k]? =some x∧OpF c x d)→zI β (NS Γ w bs) w true ds (xs.map a.eval) []:=by
  intro ds
  induction ds with
  |nil=>intro xs h _; rw [List.length_eq_zero_iff.1 h.symm]; simp [zI]
  |cons d ds ih=>
   intro xs h hk
   cases xs with
   |nil=>simp at h
   |cons x xs=>
    obtain ⟨x',g1,g2⟩:=hk 0 d rfl
    simp at g1
    subst g1
    simp only [List.map_cons,zI]
    exact ⟨_,_,[],[],rfl,rfl,OpF.rep g2 hn hr,ih xs (by simpa using h) (fun k d hd=>hk (k+1) d (by simpa using hd))⟩
 have:=key ds caps.toList (by simpa using hl) (fun k d hd=>by
  obtain ⟨x,g1,g2⟩:=hds k d hd
  exact ⟨x,by rw [Array.getElem?_toList]; exact g1,g2⟩)
 simpa using this
theorem zRj {c:Cert} {f:FuncId} {x0:Operand} {args:Array Operand} {tys:Array TypeId} {as ds caps:List D} {ids:List Nat} {bor:Bool} {hin hout:List Ent} {R:Option (D×List Ent)} {res d:D}
  {news:List (Nat×Ent)} (hg:o.guard=none) (hop:o.op= .call {callee:=.value x0,args:=args,argTypes:=tys}) (hx0:OpF c x0 (.fb f caps)) (hcf:∀xs,yM Γ.P (callFunc f xs)=some (.enter f xs))
  (hal:as.length=args.size) (hargs:∀(k:Nat) (d:D),as[k]? =some d→∃x,args[k]? =some x∧OpF c x d)
  (ham:AmL c.hn ids bor (caps++as) ds) (hids:ids.Nodup) (hinl:hin.length=ids.length) (hhin:∀x∈ids.zip hin,x∈c.hn) (hmen:∀e∈hin++hout,e.men=[])
  (hok:Ok Γ.P f ds hin R) (hR:R=some (res,hout)) (hol:hout.length≤hin.length) (hnm:Nm res d news) (hnews:(news.map (·.1)).Nodup)
  (hc:c= {tn:=c.tn,hn:=c.hn,out:=some d,hx:=ids,hw:=ids.zip hout++news,fr:=news.map (·.1)}) (hmm:∀x∈news,Γ.m≤x.1)
  (hbor:bor=true→zHH hout∧res.flat):Valid Γ ops o c:=by
 intro σ a w Q hdst hn ⟨h0,β,bs,hr⟩
 have hwt:Region.wanted o (yielded ops a.tmps)=true:=by simp [Region.wanted,hg]
 rw [if_pos hwt]
 have hvs:zI β (NS Γ w bs) w true as (args.toList.map a.eval) []:=zGF (c:=c) (by simpa using hal) (fun k d hk=>by
  obtain ⟨x,h1,h2⟩:=hargs k d hk
  exact ⟨x,by rw [Array.getElem?_toList]; exact h1,OpF.rep h2 hn hr⟩)
 have h1:=OpF.rep hx0 hn hr
 simp only [Rep] at h1
 obtain ⟨_,_,ws,hfv,hcaps⟩:=h1
 have hex:(execOp a.eval o).run Γ.P w= .ok (.enter f (ws.toArray++args.map a.eval)) w:=by
  have e:execOp a.eval o=(do let d ←Deferred.ofValue (a.eval x0) (args.map a.eval); invoke d.target d.args):=by
   simp only [execOp,hop,resolve]
  rw [e,hfv]
  show (callFunc f ((ws.toArray++args.map a.eval)++ #[])).run Γ.P w=_
  rw [Array.append_empty]
  exact zO _ _ w (hcf _)
 unfold Oper.wp
 rw [hex,Oper.upon_enter]
 have:=zIZ (f:=f) (dst:=o.dst) h0 hr hdst hn (hcaps.append hvs) ham hids hinl hhin hmen hok hR hol hnm hnews hc hmm hbor
 rw [show (ws++args.toList.map a.eval).toArray =ws.toArray++args.map a.eval by rw [←List.append_toArray,←List.map_toArray,Array.toArray_toList]] at this
 refine this.mono fun e w' he=>?_
 obtain ⟨v,rfl,hrel⟩:=he
 exact hrel
theorem zSR (f:FuncId) (xs:List Operand) (ds:List D) (hC:(ds.length,xs.all zPB,List.zipWith zPI xs ds)=(xs.length,true,ds):=by kernel_rfl):
  OpV Γ (.makeFunc (.func f) xs.toArray #[]) {tn:=tnL xs ds,out:=some (.fb f ds)}:=by
 simp only [Prod.mk.injEq] at hC
 intro ops o hop hg
 exact zRL hg hop rfl (by simpa using hC.1) (fun k d hk=>by
  obtain ⟨x,q1,q2⟩:=zLU (c:= {tn:=tnL xs ds,out:=some (.fb f ds)}) hC.1 hC.2.1 hC.2.2 (fun y hy=>hy) k d hk
  exact ⟨x,by simpa using q1,q2⟩)
theorem zSQ {f:FuncId} {as caps:List D} {R:Type} {e:Option R} {g:R→D×List Ent} {r:R} (t0:Nat) (xs:List Operand) (tys:List Nat) (hok:Ok Γ.P f (caps++as) [] (e.map g)) (h:e=some r) (hcf:∀vs,yM Γ.P (callFunc f vs)=some (.enter f vs):=by intro _; kernel_rfl)
  (hC:(as.length,xs.all zPB,List.zipWith zPI xs as,D.men.zF3 (caps++as),(g r).1.nm,(g r).2)=(xs.length,true,as,[],true,[]):=by kernel_rfl):
  OpV Γ (.call {callee:=.value (.tmp t0),args:=xs.toArray,argTypes:=tys.toArray}) {tn:=(t0,.fb f caps)::tnL xs as,out:=some (g r).1}:=by
 simp only [Prod.mk.injEq] at hC
 obtain ⟨h1,h2,h3,h4,h5,h7⟩:=hC
 intro ops o hop hg
 exact zRj («as»:=as) (caps:=caps) (bor:=false) (ids:=[]) (hin:=[]) (hout:=[]) (news:=[]) hg hop (show (t0,D.fb f caps)∈(t0,D.fb f caps)::tnL xs as from .head _) hcf (by simpa using h1) (fun k d hk=>by
  obtain ⟨x,q1,q2⟩:=zLU (c:= {tn:=(t0,.fb f caps)::tnL xs as,out:=some (g r).1}) h1 h2 h3 (fun y hy=>List.mem_cons_of_mem _ hy) k d hk
  exact ⟨x,by simpa using q1,q2⟩) (AmL.zIy h4) (by simp) rfl (by simp) (by simp) hok (by rw [h,Option.map_some,←h7]) (by simp) (zNd h5) (by simp) rfl (by simp) (by simp)
end
end Go.Im
set_option linter.unusedVariables false
namespace Go.Im
open Go
theorem zPo {w:World} {b off r:Nat} {ws:List Value} (h:Own w b off r ws) (hr:ws.length≤r):∀j (hj:j<ws.length),w.cell? ⟨b,off+j,none⟩=some ws[j]∧w.frozen? ⟨b,off+j,none⟩=false:=by
 obtain ⟨arr,e,lo,hi,h1,h2,h3,h4⟩:=h
 intro j hj
 unfold World.cell? World.frozen?
 simp only [h1]
 refine ⟨by simpa using h4 j hj,?_⟩
 have:=h2 (off+j) (by omega)
 simp only [Bool.and_eq_false_iff,decide_eq_false_iff_not]
 omega
theorem zLg {α:Type} {enc:α→Value} {β:Nat→Loc} {N:Nat→Prop} {w:World}:∀{xs:List α} {ws:List Value} {bs:List Nat},yD β N w (xs.map (fun a=>[D.sc (enc a)])) ws bs→ws=xs.map enc∧bs=[]
 |[],ws,bs,h=>by simpa [yD] using h
 |x::xs,ws,bs,h=>by
  simp only [List.map_cons,yD,zI,Rep] at h
  obtain ⟨w1,w2,b1,b2,rfl,rfl,⟨v,vs,c1,c2,rfl,rfl,h3,rfl,rfl⟩,h4⟩:=h
  obtain ⟨rfl,rfl⟩:=h3
  obtain ⟨rfl,rfl⟩:=zLg h4
  exact ⟨rfl,rfl⟩
theorem zHV {α:Type} {enc:α→Value} {β:Nat→Loc} {N:Nat→Prop} {w:World}:∀(xs:List α),yD β N w (xs.map (fun a=>[D.sc (enc a)])) (xs.map enc) []
 |[]=>by simp [yD]
 |x::xs=>by
  simp only [List.map_cons,yD,zI,Rep]
  exact ⟨[enc x],xs.map enc,[],[],rfl,rfl,⟨_,[],[],[],rfl,rfl,⟨rfl,rfl⟩,rfl,rfl⟩,zHV xs⟩
theorem zMo {α:Type} [Inhabited α] {enc:α→Value} {w:World} {blk off:Nat} {d:Array α} {arr:Array Value} {e:TypeId} {fz:Nat×Nat} (h:w.heap[blk]? =some (.cells arr e fz)):
  (Sort.putRow enc w blk off d).heap[blk]? =some (.cells (Sort.putCells enc off d arr) e fz)∧(∀b,b≠blk→(Sort.putRow enc w blk off d).heap[b]? =w.heap[b]?)∧(Sort.putRow enc w blk off d).heap.size =w.heap.size:=by
 unfold Sort.putRow Sort.mapBlock
 refine ⟨?_,fun b hb=>?_,by simp⟩
 ·simp only [Array.getElem?_modify,if_true,h]
  rfl
 ·simp only [Array.getElem?_modify]
  rw [if_neg (fun e=>hb e.symm)]
theorem zRh {α:Type} [Inhabited α] {P:Program} {f:FuncId} {enc:α→Value} {xs ys:List α} (hl:ys.length=xs.length)
  (h:∀(blk off cap:Nat) (w:World),Sort.Holds enc w blk off xs.toArray→blk<w.heap.size→Calls P f #[.slice (some ⟨blk,off,none⟩) xs.length cap] w fun e w'=>e= .returned (.tuple #[])∧∃n os,w'=Sort.grow (Sort.putRow enc (Sort.ahead w n) blk off ys.toArray) os)
  (h0:xs=[]→∀(p:Option Addr) (cap:Nat) (w:World),Calls P f #[.slice p 0 cap] w fun e w'=>e= .returned (.tuple #[])∧w'=w):
  Ok P f [.rf 0 0 xs.length none] [.row 1 (xs.map (fun a=>[D.sc (enc a)]))] (some (.tu [],[.row 1 (ys.map (fun a=>[D.sc (enc a)]))])):=by
 intro out ho w N β vs bs ha hh hnd hlt hN _
 cases ho
 simp only [zI] at ha
 obtain ⟨v,vs',b1,b2,rfl,hb12,h1,rfl,rfl⟩:=ha
 have hb1:b1=[]:=by simpa using hb12.symm
 subst hb1
 simp only [Rep] at h1
 obtain ⟨_,_,h1⟩:=h1
 obtain ⟨c1,c2,rfl,⟨hLz,hzz,hrow⟩,hc2⟩:=hh
 have hc2':c2=[]:=hc2
 subst hc2'
 simp only at hLz hzz hrow
 rcases hrow with ⟨hnil,hxs,hc1⟩|⟨hnil,ws,hO,hE⟩
 ·
  have hxs':xs=[]:=by simpa using hxs
  subst hxs'
  subst hc1
  have hys:ys=[]:=List.eq_nil_of_length_eq_zero hl
  subst hys
  have hv:v= .slice none 0 0:=by
   rcases h1 with ⟨_,_,_,h1⟩|⟨h1,_⟩
   ·exact h1
   ·rw [hnil] at h1; cases h1
  subst hv
  refine (h0 rfl none 0 w).mono ?_
  rintro e w' ⟨rfl,rfl⟩
  have hown:(β 0).own =[]:=by simp [Loc.own,hnil]
  refine ⟨.tuple #[],[],[],rfl,⟨rfl,rfl⟩,Nat.le_refl _,fun _ _ _=>rfl,by simp,by simp,?_,?_⟩
  ·simp only [Rep,zI]
   exact ⟨trivial,[],rfl,rfl,trivial⟩
  ·refine ⟨[],[],by simp [hown],⟨hLz,by simp,.inl ⟨hnil,rfl,rfl⟩⟩,rfl⟩
 ·have hown:(β 0).own =[(β 0).b]:=by simp [Loc.own,hnil]
  rw [hown] at hlt hnd hN ⊢
  obtain ⟨rfl,rfl⟩:=zLg hE
  obtain ⟨cp,hv,hcap,hroom⟩:∃c',v= .slice (some ⟨(β 0).b,(β 0).o,none⟩) xs.length c'∧xs.length≤c'∧c'≤(β 0).r :=by
   rcases h1 with ⟨h1,_⟩|⟨_,c',h3,h4,h5,_⟩
   ·rw [hnil] at h1; cases h1
   ·exact ⟨c',by simpa using h3,h4,by rw [hLz] at h5; simpa using h5⟩
  subst hv
  have hbl:(β 0).b <w.heap.size:=hlt _ (by simp)
  have hcells:=zPo hO (by simpa using Nat.le_trans hcap hroom)
  have hH:Sort.Holds enc w (β 0).b (β 0).o xs.toArray:=by
   intro j hj
   have hj':j<xs.length:=by simpa using hj
   obtain ⟨q1,q2⟩:=hcells j (by simpa using hj')
   refine ⟨?_,q2⟩
   rw [q1]
   simp [hj']
  refine (h _ _ cp w hH hbl).mono ?_
  rintro e w' ⟨rfl,n,os,rfl⟩
  obtain ⟨arr,el,lo,hi,g1,g2,g3,g4⟩:=hO
  obtain ⟨p1,p2,p3⟩:=zMo (enc:=enc) (w:=Sort.ahead w n) (blk:=(β 0).b) (off:=(β 0).o) (d:=ys.toArray) (fz:=(lo,hi)) (e:=el) (arr:=arr) g1
  have hg:∀b,b<w.heap.size→(Sort.grow (Sort.putRow enc (Sort.ahead w n) (β 0).b (β 0).o ys.toArray) os).heap[b]? =(Sort.putRow enc (Sort.ahead w n) (β 0).b (β 0).o ys.toArray).heap[b]? :=by
   intro b hb
   unfold Sort.grow
   simp only
   rw [Array.getElem?_append_left (by rw [p3]; exact hb)]
  have hsz:w.heap.size≤(Sort.grow (Sort.putRow enc (Sort.ahead w n) (β 0).b (β 0).o ys.toArray) os).heap.size :=by
   unfold Sort.grow
   simp only [Array.size_append]
   rw [p3]
   exact Nat.le_add_right _ _
  refine ⟨.tuple #[],[],[(β 0).b],rfl,⟨rfl,rfl⟩,hsz,?_,by simp,?_,?_,?_⟩
  ·intro b hb hb2
   rw [hg b hb,p2 b (fun e=>hb2 (by simp [e]))]
   rfl
  ·intro b hb
   simp only [List.nil_append,List.mem_singleton] at hb
   subst hb
   exact ⟨Nat.lt_of_lt_of_le hbl hsz,.inl (by simp)⟩
  ·simp only [Rep,zI]
   exact ⟨trivial,[],rfl,rfl,trivial⟩
  ·refine ⟨[],[],by simp [hown],⟨hLz,by simp,.inr ⟨hnil,ys.map enc,?_,zHV ys⟩⟩,rfl⟩
   refine ⟨Sort.putCells enc (β 0).o ys.toArray arr,el,lo,hi,by rw [hg _ hbl]; exact p1,?_,?_,?_⟩
   ·unfold Sort.putCells
    rw [Array.size_mapIdx]
    exact g2
   ·unfold Sort.putCells
    rw [Array.size_mapIdx]
    exact g3
   ·intro k hk
    have hk':k<ys.length:=by simpa using hk
    unfold Sort.putCells
    have hka:(β 0).o +k<arr.size:=by
     have:(β 0).o +(β 0).r ≤arr.size:=g3
     omega
    rw [Array.getElem?_mapIdx,Array.getElem?_eq_getElem hka]
    simp only [Option.map_some]
    rw [if_pos (by simp; omega)]
    simp [hk']
end Go.Im
set_option linter.unusedVariables false
namespace Go.Im
open Go
theorem zPN {P:Program} {w:World} {name:String} {g:Nat} {k:IntKind} {zs:List Int} (hG:∀q∈zNI P,Tab w q.1 q.2) (hn:P.globalNamed name=some g) (hl:lk (zNI P) g=some (· =zs.map fun z=>Value.int k z)):Lib.TabIs P w name k zs:=by
 obtain ⟨ws,e,fz,h,rfl⟩:=hG _ (zBC hl)
 unfold Lib.TabIs World.var?
 rw [hn]
 simp only [Option.bind_some]
 rw [h]
theorem zQE {P:Program} {f:FuncId} {vs:List Value} {v:Value} (h:∀w,(∀q∈zNI P,Tab w q.1 q.2)→Calls P f vs.toArray w fun e w'=>e= .returned v∧w'.os=w.os∧w'.output=w.output∧w.heap.size≤w'.heap.size∧∀b,b<w.heap.size→w'.heap[b]? =w.heap[b]?):Ok P f (vs.map D.sc) [] (some (.sc v,[])):=by
 intro out ho w N β us bs ha hh hnd hlt hN hG
 cases ho
 obtain ⟨rfl,_⟩:=zH2 ha
 refine (h w (fun q hq=>(hG q hq).2)).mono ?_
 rintro e w' ⟨rfl,h1,h2,h3,h4⟩
 exact ⟨v,[],[],rfl,⟨h1,h2⟩,h3,fun b hb _=>h4 b hb,by simp,by simp,by simp [Rep],rfl⟩
theorem zR0 {P:Program} {f:FuncId} {vs:List Value} {v:Value} (h:∀w,(∀q∈zNI P,Tab w q.1 q.2)→Calls P f vs.toArray w fun e w'=>e= .returned v∧∃k os,w'=Sort.grow (w.drewN k) os):Ok P f (vs.map D.sc) [] (some (.sc v,[])):=by
 refine zQE fun w hG=>(h w hG).mono ?_
 rintro e w' ⟨rfl,k,os,rfl⟩
 refine ⟨rfl,rfl,rfl,?_,fun b hb=>?_⟩
 ·show w.heap.size≤(w.heap++os).size
  rw [Array.size_append]
  exact Nat.le_add_right _ _
 ·show (w.heap++os)[b]? =w.heap[b]?
  rw [Array.getElem?_append_left hb]
end Go.Im
set_option linter.unusedVariables false
namespace Go.Im
open Go
theorem zLN {P:Program} {w:World} {name:String} {g:Nat} {k:IntKind} {zs:List Int} (h:Lib.TabIs P w name k zs) (hn:P.globalNamed name=some g):g<w.heap.size∧Tab w g (· =zs.map fun z=>Value.int k z):=by
 unfold Lib.TabIs World.var? at h
 rw [hn] at h
 simp only [Option.bind_some] at h
 split at h
 ·rename_i cs e fz hh
  cases h
  exact ⟨(Array.getElem?_eq_some_iff.1 hh).1,_,e,fz,hh,rfl⟩
 ·cases h
theorem zHq {P:Program} {w:World} {l:List (String×DataW Unit)} {name:String} {g n:Nat} {t e:TypeId} {k:IntKind} {zs:List Int} (h:laidMet P l w) (hl:l.filter (fun x=>x.1==name)=[(name,Lib.tabData k zs)])
  (hg:P.globalNamed name=some g) (hty:(P.globals[g]?).map (·.type)=some t) (ht:P.underlying t=some (.array n e)) (he:P.underlying e=some (.int k)) (hce:P.cellsOf e=1) (hct:P.cellsOf t=n):g<w.heap.size∧Tab w g (· =zs.map fun z=>Value.int k z):=by
 have h2:=h.filter (fun x=>x.1==name)
 rw [hl] at h2
 exact zLN (Lib.tabIs_of_head hg hty ht he hce hct h2) hg
end Go.Im
set_option linter.unusedVariables false
namespace Go.Im
open Go
section
variable {Γ:Ctx} {fc:Code} {k:List II} {σ:St} {T:Type} {K:T→Option (D×List Ent)}
end
end Go.Im
set_option linter.unusedVariables false
namespace Go.Im
open Go
theorem zPL {P:Program} {f:FuncId} {vs:List Value} {v:Value} (h:∀w,Calls P f vs.toArray w fun e w'=>e= .returned v∧RowKit.Below w.heap.size w w'):Ok P f (vs.map D.sc) [] (some (.sc v,[])):=by
 refine zQE fun w _=>(h w).mono ?_
 rintro e w' ⟨rfl,hb⟩
 exact ⟨rfl,hb.os,hb.output,hb.size,hb.block⟩
theorem zQe {P:Program} {f:FuncId} {s sep:ByteArray} {xs:List ByteArray} {t:TypeId} (h:∀w,(∀q∈zNI P,Tab w q.1 q.2)→Calls P f #[.string s,.string sep] w fun e w'=>e= .returned (.slice (some ⟨w.heap.size,0,none⟩) xs.length xs.length)∧w'=w.alloc (.cells (xs.map Value.string).toArray t)):
  Ok P f [sv s,sv sep] [] (some (so 1 eStr xs,[])):=by
 intro o ho w N β us bs ha hh hnd hlt hN hG
 cases ho
 obtain ⟨rfl,_⟩:=zH2 (vs:=[.string s,.string sep]) ha
 refine (h w (fun q hq=>(hG q hq).2)).mono ?_
 rintro e w' ⟨rfl,rfl⟩
 have hsz:(w.alloc (.cells (xs.map Value.string).toArray t)).heap.size =w.heap.size+1:=Array.size_push _
 have hnew:(w.alloc (.cells (xs.map Value.string).toArray t)).heap[w.heap.size]? =some (.cells (xs.map Value.string).toArray t):=by
  show (w.heap.push _)[w.heap.size]? =_
  rw [Array.getElem?_push,if_pos rfl]
 refine ⟨_,[w.heap.size],[],rfl,⟨rfl,rfl⟩,by rw [hsz]; exact Nat.le_succ _,fun b hb _=>?_,by simp,?_,?_,rfl⟩
 ·exact RowKit.Below.heap_alloc w _ b hb
 ·intro b hb
  simp only [List.append_nil,List.mem_singleton] at hb
  subst hb
  exact ⟨by rw [hsz]; exact Nat.lt_succ_self _,.inr (Nat.le_refl _)⟩
 ·unfold so
  simp only [Rep]
  refine ⟨by simp,by simp [eStr],_,_,rfl,Nat.le_refl _,.inr (.inr ⟨trivial,w.heap.size,0,xs.map Value.string,[],rfl,rfl,?_,?_⟩)⟩
  ·refine ⟨_,t,0,0,hnew,fun k _=>by omega,by simp,fun k hk=>by simp⟩
  ·exact zHV (enc:=Value.string) xs
theorem zOX {P:Program} {w:World} {g:Nat} (hG:∀q∈zNI P,Tab w q.1 q.2) (hl:lk (zNI P) g=some (fun ws=>∃m,ws=[.int .i64 m])):∃m,w.cell? ⟨g,0,none⟩=some (.int .i64 m):=by
 obtain ⟨ws,e,fz,h,m,rfl⟩:=hG _ (zBC hl)
 exact ⟨m,by rw [cell_of h]; rfl⟩
end Go.Im
set_option linter.unusedVariables false
namespace Go.Im
open Go Go.Proofs
theorem zKy {P:Program} {w:World} {g:Nat} {t:TypeId} {zero:Array Value} (h:w.ShapedOpen P) (hg:g<P.globals.size)
  (h0:((begin P (fun _ _=>0) default).world.heap[g]?).bind Obj.row? =some (zero,t)) (hz:zero.size=1)
  (hb:P.buildable t=true) (hc:P.cellTypes P.depth t=some [t]) (hu:P.underlying t=some (.int .i64)):g<w.heap.size∧Tab w g (fun ws=>∃m,ws=[.int .i64 m]):=by
 obtain ⟨m,hm⟩:=cell_of_shapedOpen_int h hg h0 hz hb hc hu
 obtain ⟨cs,hh,hs,_⟩:=h.1 g zero t hg h0
 rw [cell_of hh] at hm
 refine ⟨(Array.getElem?_eq_some_iff.1 hh).1,cs.toList,t,_,by simpa using hh,m,?_⟩
 obtain ⟨l⟩:=cs
 match l,hs,hm with
 |[],hs,_=>simp at hs; omega
 |[v],_,hm=>simp at hm; rw [hm]
 |_::_::_,hs,_=>simp at hs; omega
section
variable {H:Type} {enc:TypeId×Value→H}
theorem zGw {a:Assume} {C:Checked} {os:Os} {f:FuncId} {fn:Func} {s:ChangeSpec} {conds:List PathCond} {apart fresh handsOn again:Bool} {X:World→Array Value→Prop}
  (hX:∀(w w':World) (args:Array Value),w.heap=w'.heap→X w args→X w' args) (own:ownKnob C.prog.godebug=none) (started:os.Started) (noInit:C.prog.inits.idxOf? f=none) (hfn:C.prog.funcs[f]? =some fn)
  (witness:∃(w:World) (tape:Tape) (i:Input),w.os=os∧(w.forCall tape i).Shaped C.prog∧i.vars=[]∧Input.okWide C.prog (w.forCall tape i) .any w.heap.size f i∧
   ((s.pre enc C.prog fn conds apart (w.forCall tape i).memory i.args∧X (w.forCall tape i).memory i.args)∧sizedMet enc C.prog fn (OpenSpec.ofChange s) apart (w.forCall tape i).memory i.args)∧a.holds C.prog (lone (Frame.enter C.prog f i.args .normal) [] (w.forCall tape i)))
  (contract:∀(W:World) (base:Nat) (args:Array Value) (ds gs:List (DataW H)) (before:List MemPlace),W.ShapedOpen C.prog→
   (∀(j:Nat) t v,fn.params[j]? =some t→args[j]? =some v→Value.okWide C.prog W .any base t v)→DataW.Whole enc C.prog fn.params.toList s.vars apart W args.toList ds gs before→
   conds.all (PathCond.test C.prog ⟨fn.params.toList,ds,s.plain.varTypes C.prog,gs⟩)=true→(DataW.weightsEach C.prog (fn.params.toList++s.plain.varTypes C.prog) (ds++gs)).all (· ≤reachBytes)=true→X W args→
   a.holds C.prog (lone (Frame.enter C.prog f args .normal) [] W)→Calls C.prog f args W fun e W'=>∃v,e= .returned v∧s.post enc C.prog fn apart fresh handsOn again W args v W'):
  ReturnsInHanded a C os f .any (fun w args=>(s.pre enc C.prog fn conds apart w args∧X w args)∧sizedMet enc C.prog fn (OpenSpec.ofChange s) apart w args) (s.post enc C.prog fn apart fresh handsOn again):=by
 refine returnsInHanded_of_calls own started noInit witness fun w tape i _ hsh _ hok hpre hholds=>?_
 obtain ⟨_,_,_,fn',hfn',_,_,_,_,hval⟩:=hok
 obtain rfl:fn'=fn:=Option.some.inj (hfn'.symm.trans hfn)
 obtain ⟨⟨⟨ds,gs,before,hw,hc⟩,hx⟩,hz⟩:=hpre
 refine (contract (w.forCall tape i) w.heap.size i.args ds gs before hsh hval (DataW.Whole.of_heap (w':=w.forCall tape i) (by rfl) hw) hc (hz.weights hw) (hX _ _ _ (by rfl) hx) hholds).mono fun e W' ⟨v,he,hp⟩=>?_
 subst he
 exact ChangeSpec.post_blind hp
end
end Go.Im
set_option linter.unusedVariables false
namespace Go.Im
open Go
section
variable {Γ:Ctx} {ops:Array Oper} {o:Oper}
theorem Rel.zTn {σ:St} {a:Act} {w:World} {dst:Option Nat} {tn:List (Nat×D)} {t:Nat} {cs:List D} (hus:∀k,k∈zKq σ.tm∨k∈zGT σ.hp→k∈σ.us) (hcs:∀k∈D.men.zF3 cs,k∈σ.us) (hfree:∀d∈cs,d.free=true)
  (h:Rel Γ (σ.upd dst {tn:=tn,out:=some (.pt t 0 0),hw:=[(t,.box cs)],fr:=[t]}) a w):Rel Γ (σ.upd dst {tn:=tn,out:=some (.pb cs)}) a w:=by
 obtain ⟨_,β,bs,h⟩:=h
 obtain ⟨b1,b2,rfl,⟨hnil,_,ws,hO,hone,hcr⟩,hrest⟩:=h.hp
 obtain rfl:b1=[]:=zI.frees hfree hcr
 have hown:(β t).own =[(β t).b]:=by simp [Loc.own,hnil]
 have hnd:=h.nodup
 rw [hown] at hnd
 simp only [List.nil_append,List.singleton_append,List.nodup_cons] at hnd
 have hsub:∀b∈b2,b∈(β t).own ++([]++b2):=fun b hb=>by simp [hb]
 have hN:∀b,NS Γ w ((β t).own ++([]++b2)) b→NS Γ w b2 b:=fun b hb=>NS.sub hsub hb
 have hNt:NS Γ w b2 (β t).b :=by
  have:=h.own (β t).b (by rw [hown]; simp)
  refine ⟨?_,this.1,hnd.1⟩
  rcases this.2 with h1|h1
  ·exact .inr (.inl h1)
  ·exact .inr (.inr h1)
 refine ⟨?_,β,b2,{defers:=h.defers,size:=h.size,keys:=?_,par:=h.par,grow:=h.grow,gh:=h.gh,quiet:=h.quiet,keep:=h.keep,hp:=?_,nodup:=hnd.2,own:=fun b hb=>h.own b (hsub b hb),tm:=?_}⟩
 ·intro k hk
  simp only [St.upd,Cert.men,zGT,List.flatMap_nil,List.append_nil,List.nil_append,D.men] at hk ⊢
  rw [List.mem_append]
  have key:∀k,k∈zKq (σ.tm.filter (fun x=>dst !=some x.1))∨k∈zGT (σ.hp.filter (fun x=> !([]:List Nat).contains x.1))→k∈σ.us:=by
   rintro k (hk|hk)
   ·obtain ⟨x,hx,hk⟩:=List.mem_flatMap.1 hk
    exact hus k (.inl (List.mem_flatMap.2 ⟨x,(List.mem_filter.1 hx).1,hk⟩))
   ·obtain ⟨x,hx,hk⟩:=List.mem_flatMap.1 hk
    exact hus k (.inr (List.mem_flatMap.2 ⟨x,(List.mem_filter.1 hx).1,hk⟩))
  rcases hk with hk|hk
  ·obtain ⟨x,hx,hk⟩:=List.mem_flatMap.1 hk
   rcases List.mem_append.1 hx with hx|hx
   ·unfold Cert.outs at hx
    cases dst with
    |none=>simp at hx
    |some q=>
     simp only [List.mem_singleton] at hx
     subst hx
     exact .inr (hcs k (by simpa [D.men] using hk))
   ·exact .inr (key k (.inl (List.mem_flatMap.2 ⟨x,hx,hk⟩)))
  ·exact .inr (key k (.inr hk))
 ·have hk:=h.keys
  simp only [St.upd,List.cons_append,List.nil_append,List.map_cons,List.nodup_cons] at hk ⊢
  exact hk.2
 ·exact uP.frame (fun b hb=>⟨hN b hb,rfl⟩) _ _ (fun _ _=>rfl) (fun _ _=>rfl) hrest
 ·intro q d hd
  simp only [St.upd] at hd
  rcases List.mem_append.1 hd with hd|hd
  ·unfold Cert.outs at hd
   cases dst with
   |none=>simp at hd
   |some q'=>
    simp only [List.mem_singleton,Prod.mk.injEq] at hd
    obtain ⟨rfl,rfl⟩:=hd
    obtain ⟨v,h1,h2⟩:=h.tm q (.pt t 0 0) (by simp [St.upd,Cert.outs])
    refine ⟨v,h1,?_⟩
    simp only [Rep] at h2 ⊢
    obtain ⟨_,_,_,rfl⟩:=h2
    refine ⟨trivial,trivial,(β t).b,(β t).o,ws,by simp,hNt,hO.has,hone,?_⟩
    exact zI.frame (fun b hb=>⟨hN b hb,rfl⟩) cs true ws [] (by simp) (fun _ _=>rfl) hcr
  ·obtain ⟨v,h1,h2⟩:=h.tm q d (by simp only [St.upd]; exact List.mem_append_right _ hd)
   exact ⟨v,h1,Rep.frame (fun b hb=>⟨hN b hb,rfl⟩) d true v [] (by simp) (fun _ _=>rfl) h2⟩
theorem zIh:∀(l:List Nat) (m:Nat),m≤l.foldl max m∧∀x∈l,x≤l.foldl max m
 |[],m=>⟨Nat.le_refl _,by simp⟩
 |y::l,m=>by
  obtain ⟨h1,h2⟩:=zIh l (max m y)
  refine ⟨Nat.le_trans (Nat.le_max_left _ _) h1,fun x hx=>?_⟩
  rcases List.mem_cons.1 hx with rfl|hx
  ·exact Nat.le_trans (Nat.le_max_right _ _) h1
  ·exact h2 x hx
theorem zQX {c:Cert} {x:Operand} {T:TypeId} {d:D} (hg:o.guard=none) (hop:o.op= .box T x) (hc:c= {tn:=c.tn,out:=some (.pb (cellsD d))}) (hx:OpF c x d) (hd:(cellsD d).all D.cell=true):Valid Γ ops o c:=by
 intro σ a w Q hdst hn hr
 obtain ⟨m1,m2⟩:=zIh σ.us Γ.m
 have hft:σ.us.foldl max Γ.m+1∉σ.us:=fun h=>by have:=m2 _ h; omega
 have hn1:Nd {tn:=c.tn,out:=some (.pt (σ.us.foldl max Γ.m+1) 0 0),hw:=[((σ.us.foldl max Γ.m+1),.box (cellsD d))],fr:=[σ.us.foldl max Γ.m+1]} σ:=⟨hn.1,by simp,by simpa using hft⟩
 have hv:=zSa (Γ:=Γ) (ops:=ops) (t:=σ.us.foldl max Γ.m+1) hg hop (c:= {tn:=c.tn,out:=some (.pt (σ.us.foldl max Γ.m+1) 0 0),hw:=[((σ.us.foldl max Γ.m+1),.box (cellsD d))],fr:=[σ.us.foldl max Γ.m+1]}) rfl (by omega) hx hd σ a w Q hdst hn1 hr
 have hwt:Region.wanted o (yielded ops a.tmps)=true:=by simp [Region.wanted,hg]
 rw [if_pos hwt] at hv ⊢
 refine Oper.wp_mono (fun a' w' h'=>?_) hv
 rw [hc]
 exact Rel.zTn hr.1 (fun k hk=>zOF (a:=a) (w:=w) hr.1 hn hx k (by rwa [zLL] at hk)) (fun d' hd'=>D.zPy (List.all_eq_true.1 hd d' hd')) h'
theorem zPz {c:Cert} {x:Operand} {T:TypeId} {cs:List D} {d:D} (hg:o.guard=none) (hop:o.op= .load T x) (hc:c= {tn:=c.tn,out:=some d}) (hx:OpF c x (.pb cs)) (hd:zDz Γ.P T cs=some d):Valid Γ ops o c:=by
 rw [hc]
 refine vP hg rfl rfl fun β bs σ a w hn hr=>?_
 have h1:=OpF.rep (c:=c) hx ⟨hn.1,by rw [hc]; simp,by rw [hc]; simp⟩ hr
 simp only [Rep] at h1
 obtain ⟨_,_,b,p,ws,h2,h3,h4,hone,h5⟩:=h1
 obtain ⟨v,h6,h7⟩:=zFr hd h4 hone h5
 refine ⟨v,zFP (s:=Instr.loadAt T (a.eval x)) (by simp [execOp,hop]) ?_,fun d' hd=>by cases hd; exact h7⟩
 rw [h2]
 exact h6
theorem zPg (T:Nat) (x:Operand) (d:D) (hx:OkO x d:=by first|trivial|rfl) (hd:(cellsD d).all D.cell=true:=by kernel_rfl):OpV Γ (.box T x) {tn:=tnO x d,out:=some (.pb (cellsD d))}:=by
 intro ops o hop hg
 exact zQX hg hop rfl (hx.f (fun y hy=>hy)) hd
theorem zFB {d:D} (T:Nat) (x:Operand) (cs:List D) (hx:OkO x (.pb cs):=by trivial) (hd:zDz Γ.P T cs=some d:=by kernel_rfl):OpV Γ (.load T x) {tn:=tnO x (.pb cs),out:=some d}:=by
 intro ops o hop hg
 exact zPz hg hop rfl (hx.f (fun y hy=>hy)) hd
end
end Go.Im
set_option linter.unusedVariables false
namespace Go.Im
open Go
def D.zRS:D→Bool
 | .sc _=>true
 |_=>false
section
variable {β:Nat→Loc} {N:Nat→Prop} {w:World}
theorem zKh:∀{cs:List D} {ws:List Value} {bs:List Nat},cs.all D.zRS=true→zI β N w true cs ws bs→zI β N w false cs ws bs∧bs=[]
 |[],ws,bs,_,h=>by simp only [zI] at h ⊢; exact ⟨h,h.2⟩
 |d::cs,ws,bs,hc,h=>by
  simp only [List.all_cons,Bool.and_eq_true] at hc
  simp only [zI] at h ⊢
  obtain ⟨v,vs,b1,b2,rfl,rfl,h3,h4⟩:=h
  obtain ⟨h5,rfl⟩:=zKh hc.2 h4
  cases d with
  |sc u=>
   simp only [Rep] at h3 ⊢
   obtain ⟨rfl,rfl⟩:=h3
   exact ⟨⟨_,vs,[],[],rfl,rfl,⟨rfl,rfl⟩,h5⟩,rfl⟩
  |_=>simp [D.zRS] at hc
theorem zNf:∀{xs:List (List D)} {ws:List Value} {bs:List Nat},(∀x∈xs,x.all D.zRS=true)→zI β N w true xs.flatten ws bs→yD β N w xs ws []∧bs=[]
 |[],ws,bs,_,h=>by simp only [List.flatten_nil,zI] at h; simp only [yD]; exact ⟨⟨h.1,trivial⟩,h.2⟩
 |x::xs,ws,bs,hx,h=>by
  rw [List.flatten_cons] at h
  obtain ⟨b1,b2,rfl,h1,h2⟩:=zI.split x.length h
  rw [List.take_left] at h1
  rw [List.drop_left] at h2
  obtain ⟨h3,rfl⟩:=zKh (hx x (by simp)) h1
  obtain ⟨h4,rfl⟩:=zNf (fun y hy=>hx y (by simp [hy])) h2
  simp only [yD]
  exact ⟨⟨ws.take x.length,ws.drop x.length,[],[],(List.take_append_drop _ _).symm,rfl,h3,h4⟩,rfl⟩
end
def zTi (t:Nat):D→Bool
 | .pt _ 0 _=>true
 |d=> !(d.men.contains t)
section
variable {Γ:Ctx} {fc:Code} {k:List II} {σ:St} {T:Type} {K:T→Option (D×List Ent)}
theorem zQb {β:Nat→Loc} {N:Nat→Prop} {w:World} {t z:Nat} {d:D} {v:Value} (ho:zTi t d=true) (h:Rep β N w true d v []):Rep (zGP β t {(β t) with z:=z}) N w true d v []:=by
 have key:t∉d.men→Rep (zGP β t {(β t) with z:=z}) N w true d v []:=fun hm=>
  Rep.frame (fun b hb=>⟨hb,rfl⟩) d true v [] (by simp) (fun k hk=>zBt (fun e=>hm (e▸hk))) h
 unfold zTi at ho
 split at ho
 ·rename_i t' j
  simp only [Rep] at h ⊢
  by_cases e:t'=t
  ·subst e
   rw [wN]
   simpa using h
  ·rw [zBt e]; exact h
 ·exact key (by simpa using ho)
theorem zPW {e:Option T} (t:Nat) {z:Nat} {cs:List D} {xs:List (List D)} {tm:List (Nat×D)} {hp:List (Nat×Ent)} (hxs:xs.flatten=cs) (hz:xs.all (fun x=>x.length==z&&x.all D.zRS)=true) (htm:tm.all (fun x=>zTi t x.2)=true)
  (hhp:(zGT hp).contains t=false) (hm:Nat.ble Γ.m t=true) (hj:J Γ fc k (St.mk' tm ((t,.row z xs)::hp)) e K):J Γ fc k (St.mk' tm ((t,.box cs)::hp)) e K:=by
 subst hxs
 refine zJh (fun a w hr=>?_) hj
 obtain ⟨h0,β,bs,h⟩:=hr
 obtain ⟨b1,b2,rfl,⟨hnil,_,ws,hO,_,hcr⟩,hrest⟩:=h.hp
 have hall:∀x∈xs,x.length=z∧x.all D.zRS=true:=fun x hx=>by
  have:=List.all_eq_true.1 hz x hx
  simpa using this
 obtain ⟨hE,rfl⟩:=zNf (fun x hx=>(hall x hx).2) hcr
 have htn:t∉zGT hp:=by simpa using hhp
 have hown:(zGP β t {(β t) with z:=z} t).own =(β t).own :=by rw [wN]; rfl
 refine ⟨?_,zGP β t {(β t) with z:=z},(β t).own ++([]++b2),{defers:=h.defers,size:=h.size,keys:=h.keys,par:=fun k hk=>?_,grow:=h.grow,gh:=h.gh,quiet:=h.quiet,keep:=h.keep,hp:=?_,nodup:=h.nodup,own:=h.own,tm:=?_}⟩
 ·intro q hq
  simp only [St.mk',List.mem_append]
  exact hq
 ·have:=Nat.le_of_ble_eq_true hm
  rw [zBt (by omega)]
  exact h.par k hk
 ·refine ⟨[],b2,by rw [hown],⟨by rw [wN],fun x hx=>(hall x hx).1,.inr ⟨by rw [wN]; exact hnil,ws,?_,?_⟩⟩,?_⟩
  ·rw [wN]; exact hO
  ·exact yD.frame (fun b hb=>⟨hb,rfl⟩) xs ws [] (by simp) hE
  ·refine uP.frame (fun b hb=>⟨hb,rfl⟩) _ _ (fun _ _=>rfl) (fun q hq=>zBt (fun e=>htn (e▸hq))) hrest
 ·intro q d hd
  obtain ⟨v,h1,h2⟩:=h.tm q d hd
  exact ⟨v,h1,zQb (List.all_eq_true.1 htm _ hd) h2⟩
end
section
variable {Γ:Ctx} {ops:Array Oper} {o:Oper}
theorem zMj {c:Cert} {x y:Operand} {T el:TypeId} {k:IntKind} {z n t j:Nat} {i:Int} {xs:List (List D)} (hg:o.guard=none) (hop:o.op= .indexAddr T x y)
  (hc:c= {tn:=c.tn,hn:=c.hn,out:=some (.pt t j 0)}) (hx:OpF c x (.pt t 0 0)) (hy:OpF c y (.sc (.int k i))) (hT:yM Γ.P (underlying T)=some (.array n el)) (hz:zGD Γ.P el=some z)
  (hi:0≤i) (hj:i<n) (hjj:i.toNat=j) (hh:(t,.row z xs)∈c.hn):Valid Γ ops o c:=by
 refine uZ (d:=.pt t j 0) (f:=fun ρ=>Instr.indexAt T (ρ x) (ρ y)) hg (fun ρ=>by simp [execOp,hop]) (by rw [hc]) fun β bs σ a w hn hr=>?_
 have h1:=OpF.rep hx hn hr
 have h2:=OpF.rep hy hn hr
 obtain ⟨_,⟨hLz,_⟩,_⟩:=uP.get hr.hp (hn.2.1 _ hh)
 simp only [Rep] at h1 h2
 obtain ⟨_,_,hnil,hv⟩:=h1
 refine ⟨.pointer (some ⟨(β t).b,(β t).o +j*(β t).z +0,none⟩),?_,by simp only [Rep]; exact ⟨trivial,trivial,hnil,trivial⟩⟩
 rw [h2.1,hv]
 unfold Instr.indexAt
 rw [run_bind_ok (a:=(k,i)) (w':=w) rfl]
 simp only
 rw [run_bind_ok (zO _ _ w hT)]
 simp only
 rw [run_bind_ok (a:=(⟨(β t).b,(β t).o +0*(β t).z +0,none⟩:Addr)) (w':=w) rfl]
 rw [run_bind_ok (a:=(some (⟨(β t).b,(β t).o +0*(β t).z +0,none⟩:Addr),n,el)) (w':=w) rfl]
 rw [run_bind_ok (zO _ _ w hT)]
 simp only
 rw [if_pos ⟨hi,hj⟩]
 rw [run_bind_ok (zO _ _ w hz)]
 rw [zFa,hLz,←hjj]
 simp
def zPH {α:Type} (xs:List α) (n:Nat) (i:Int):Option α:=if xs.length=n then idx xs i else none
theorem zH8 {α:Type} {xs:List α} {n:Nat} {i:Int} {a:α} (h:zPH xs n i=some a):idx xs i=some a:=by
 unfold zPH at h
 split at h
 ·exact h
 ·cases h
theorem zP4 {α:Type} {xs:List α} {i:Int} {a:α} {kk:IntKind} (T el z t:Nat) (enc:α→List D) (x y:Operand) (n:Nat) (h:zPH xs n i=some a) (hx:OkO x (.pt t 0 0):=by trivial) (hy:OkO y (.sc (.int kk i)):=by first|trivial|rfl)
  (hT:(yM Γ.P (underlying T),zGD Γ.P el)=(some (.array n el),some z):=by kernel_rfl):
  OpV Γ (.indexAddr T x y) {tn:=tnO x (.pt t 0 0)++tnO y (.sc (.int kk i)),hn:=[(t,rE z enc xs)],out:=some (.pt t i.toNat 0)}:=by
 simp only [Prod.mk.injEq] at hT
 unfold zPH at h
 split at h
 ·rename_i hl
  obtain ⟨h1,h2⟩:=zFU h
  have:=(List.getElem?_eq_some_iff.1 h2).1
  intro ops o hop hg
  exact zMj hg hop rfl (hx.f (fun y hy=>List.mem_append_left _ hy)) (hy.f (fun y hy=>List.mem_append_right _ hy)) hT.1 hT.2 h1 (by omega) rfl (.head _)
 ·cases h
theorem zQq (T:TypeId) (vs:List Value) (hz:yM Γ.P (Instr.build T #[])=some (.agg vs.toArray):=by kernel_rfl) (h1:vs.all Value.oneCell=true:=by kernel_rfl):OpV Γ (.build T #[]) {out:=some (.ag (vs.map D.sc))}:=by
 intro ops o hop hg
 refine uZ (d:=.ag (vs.map D.sc)) (f:=fun ρ=>Instr.build T #[]) hg (fun ρ=>by simp [execOp,hop]) rfl fun β bs σ a w hn hr=>?_
 refine ⟨_,zO _ _ w hz,?_⟩
 simp only [Rep]
 exact ⟨trivial,vs,rfl,fun x hx=>List.all_eq_true.1 h1 x hx,zGm vs⟩
end
end Go.Im
set_option linter.unusedVariables false
namespace Go.Im
open Go
section
variable {Γ:Ctx} {ops:Array Oper} {o:Oper}
theorem zNO {c:Cert} {x:Operand} {s:TypeId} {f off n:Nat} {cs ds:List D} (hg:o.guard=none) (hop:o.op= .fieldAddr s x f) (hc:c= {tn:=c.tn,out:=some (.pb ds)}) (hx:OpF c x (.pb cs))
  (hf:zI3 Γ.P s f=some off) (hd:(cs.drop off).take n=ds):Valid Γ ops o c:=by
 rw [hc]
 subst hd
 refine vP hg rfl rfl fun β bs σ a w hn hr=>?_
 have h1:=OpF.rep (c:=c) hx ⟨hn.1,by rw [hc]; simp,by rw [hc]; simp⟩ hr
 simp only [Rep] at h1
 obtain ⟨_,_,b,p,ws,h2,h3,h4,hone,h5⟩:=h1
 refine ⟨_,zFP (s:=Instr.fieldAt s (a.eval x) f) (by simp [execOp,hop]) (by rw [h2]; exact zHu hf),fun d' hd=>?_⟩
 cases hd
 simp only [Rep]
 obtain ⟨b1,b2,h6,h7,h8⟩:=h5.split off
 have e:b2=[]:=(List.append_eq_nil_iff.1 h6.symm).2
 subst e
 obtain ⟨b3,b4,h9,h10,h11⟩:=h8.split n
 have e:b3=[]:=(List.append_eq_nil_iff.1 h9.symm).1
 subst e
 refine ⟨trivial,trivial,b,p+off,(ws.drop off).take n,rfl,h3,?_,fun x hx=>hone x (List.mem_of_mem_drop (List.mem_of_mem_take hx)),h10⟩
 obtain ⟨arr,e,fz,q1,q2⟩:=h4.drop off
 exact ⟨arr,e,fz,q1,fun k hk=>by rw [List.length_take] at hk; rw [List.getElem_take]; exact q2 k (by omega)⟩
theorem zQj {c:Cert} {x:Operand} {cs:List D} (hg:o.guard=none) (hop:o.op= .nilCheck x) (hc:c= {tn:=c.tn,out:=some (.pb cs)}) (hx:OpF c x (.pb cs)):Valid Γ ops o c:=by
 rw [hc]
 refine vP hg rfl rfl fun β bs σ a w hn hr=>?_
 have h1:=OpF.rep (c:=c) hx ⟨hn.1,by rw [hc]; simp,by rw [hc]; simp⟩ hr
 refine ⟨a.eval x,?_,fun d hd=>by cases hd; exact h1⟩
 simp only [Rep] at h1
 obtain ⟨_,_,b,p,ws,h2,_⟩:=h1
 simp only [execOp,hop]
 rw [h2]
 rfl
theorem zFl {ds:List D} (s:Nat) (x:Operand) (f off n:Nat) (cs:List D) (hx:OkO x (.pb cs):=by trivial) (hf:zI3 Γ.P s f=some off:=by kernel_rfl) (hd:(cs.drop off).take n=ds:=by rfl):OpV Γ (.fieldAddr s x f) {tn:=tnO x (.pb cs),out:=some (.pb ds)}:=by
 intro ops o hop hg
 exact zNO hg hop rfl (hx.f (fun y hy=>hy)) hf hd
theorem zGq (x:Operand) (cs:List D) (hx:OkO x (.pb cs):=by trivial):OpV Γ (.nilCheck x) {tn:=tnO x (.pb cs),out:=some (.pb cs)}:=by
 intro ops o hop hg
 exact zQj hg hop rfl (hx.f (fun y hy=>hy))
end
end Go.Im
set_option linter.unusedVariables false
namespace Go.Im
open Go
def zTy (n:Nat):List Nat→Bool
 |[]=>false
 |m::ms=>Nat.beq n m||zTy n ms
def dl {α:Type} (del:List Nat) (add:List (Nat×α)):List (Nat×α)→List (Nat×α)
 |[]=>add
 |x::l=>match zTy x.1 del with
  |true=>dl del add l
  |false=>x::dl del add l
section
variable {Γ:Ctx} {fc:Code} {k:List II} {σ:St} {T:Type} {K:T→Option (D×List Ent)}
theorem J_d {e:Option T} (p:Nat) (ids:List (Nat×Nat)) (x:List Nat) (y:List (Nat×D)) (x':List Nat) (y':List (Nat×Ent)) {orc:List (Nat×Cert)} (hor:zJz Γ fc p orc) (hj:J Γ fc (aft fc p) (St.mk' (dl x y σ.tm) (dl x' y' σ.hp)) e K)
  (h:(zTc fc σ.tm p k&&Γ.P.follows .mixedOrders,(chk Γ.P Γ.nt Γ.m fc p orc ids σ (dl x y σ.tm) (dl x' y' σ.hp)).1,(chk Γ.P Γ.nt Γ.m fc p orc ids σ (dl x y σ.tm) (dl x' y' σ.hp)).2.2.1,(chk Γ.P Γ.nt Γ.m fc p orc ids σ (dl x y σ.tm) (dl x' y' σ.hp)).2.2.2.2)=
   (true,(chk Γ.P Γ.nt Γ.m fc p orc ids σ (dl x y σ.tm) (dl x' y' σ.hp)).2.1,(chk Γ.P Γ.nt Γ.m fc p orc ids σ (dl x y σ.tm) (dl x' y' σ.hp)).2.2.2.1,true):=by kernel_rfl):J Γ fc k σ e K:=
 J_g p ids _ _ hor hj h
end
end Go.Im
set_option linter.unusedVariables false
namespace Go.Im
open Go
mutual
inductive Wk:D→D→Prop where
 |same {d:D}:Wk d d
 |ln {z n:Nat} {xs:List (List D)}:Wk (.s false z n xs) (.ln n)
 |tu {cs cs':List D}:WkL cs cs'→Wk (.tu cs) (.tu cs')
 |ag {cs cs':List D}:WkL cs cs'→Wk (.ag cs) (.ag cs')
inductive WkL:List D→List D→Prop where
 |nil:WkL [] []
 |cons {d d':D} {ds ds':List D}:Wk d d'→WkL ds ds'→WkL (d::ds) (d'::ds')
end
section
variable {β:Nat→Loc} {N:Nat→Prop} {w:World}
mutual
theorem Wk.rep:∀{d d':D} {v:Value} {bs:List Nat},Wk d d'→Rep β N w true d v bs→Rep β N w true d' v bs
 |_,_,_,_,.same,h=>h
 |_,_,v,bs,.ln (z:=z) (n:=n) (xs:=xs),h=>by
  have e:=Rep.free (d:=.s false z n xs) rfl h
  subst e
  simp only [Rep] at h ⊢
  obtain ⟨_,_,a,cap,h1,h2,_⟩:=h
  exact ⟨trivial,a,cap,h1,h2⟩
 |_,_,v,bs,.tu hl,h=>by
  simp only [Rep] at h ⊢
  obtain ⟨h1,ws,h2,h3⟩:=h
  exact ⟨trivial,ws,h2,WkL.rep hl h3⟩
 |_,_,v,bs,.ag hl,h=>by
  simp only [Rep] at h ⊢
  obtain ⟨h1,ws,h2,h4,h3⟩:=h
  exact ⟨trivial,ws,h2,h4,WkL.rep hl h3⟩
theorem WkL.rep:∀{ds ds':List D} {vs:List Value} {bs:List Nat},WkL ds ds'→zI β N w true ds vs bs→zI β N w true ds' vs bs
 |_,_,_,_,.nil,h=>h
 |_,_,vs,bs,.cons h1 h2,h=>by
  simp only [zI] at h ⊢
  obtain ⟨v,vs',b1,b2,h3,h4,h5,h6⟩:=h
  exact ⟨v,vs',b1,b2,h3,h4,Wk.rep h1 h5,WkL.rep h2 h6⟩
end
end
section
variable {Γ:Ctx} {ops:Array Oper} {o:Oper}
end
end Go.Im
set_option linter.unusedVariables false
namespace Go.Im
open Go
section
variable {Γ:Ctx} {ops:Array Oper} {o:Oper}
end
end Go.Im
set_option linter.unusedVariables false
namespace Go.Im
open Go
end Go.Im

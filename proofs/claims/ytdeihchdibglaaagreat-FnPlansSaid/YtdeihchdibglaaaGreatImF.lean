import Derived.Test.YtdeihchdibglaaaGreatImE
import Derived.Laws.StructEq
import Derived.Sort.Row
import Derived.Sort.Grow
import Derived.Lib.LaidTab
import Derived.Lib.ItoaNum
import Derived.Deep.Draws
import Derived.LaidSub
import Derived.Below
import Derived.Lib.Split
import Derived.Lib.Join
import Derived.Lib.Repeat
import Derived.Handed
import Derived.Shelf.Vars
import Derived.Lib.SplitLaws
import Derived.Lib.ConvBytes
import Derived.Sort.EncStr
import Derived.Laws.IdiomCopy
set_option linter.unusedVariables false
namespace Go.Im
open Go
def mkV (P:Program) (t:TypeId) (xs:List Value):Option Value:=match zFR P t with
 |some true=>some (.agg xs.toArray)
 |some false=>xs.head?
 |none=>none
def zPx (P:Program) (g:TypeId→List Value→List Value→Option Bool) (xs ys:List Value):List Field→Option Bool
 |[]=>some true
 |f::fs=>if f.name= "_" then none else match zFr P f.type with
  |some z=>match g f.type ((xs.drop f.offset).take z) ((ys.drop f.offset).take z),zPx P g xs ys fs with
   |some a,some r=>some (a&&r)
   |_,_=>none
  |none=>none
def eqT (P:Program):Nat→TypeId→List Value→List Value→Option Bool
 |0,_,_,_=>none
 |d+1,t,xs,ys=>match P.underlying t with
  |some (.struct fs)=>if P.stoodInHeld t=false∧zFR P t=some true then zPx P (eqT P d) xs ys fs.toList else none
   |some (.int _)=>match zFR P t,xs,ys with
   |some false,.int k1 a::_,.int k2 b::_=>if k1=k2 then some (a==b) else none
   |_,_,_=>none
  |some .bool =>match zFR P t,xs,ys with
   |some false,.bool a::_,.bool b::_=>some (a==b)
   |_,_,_=>none
  |some .string =>match zFR P t,xs,ys with
   |some false,.string a::_,.string b::_=>some (a.toList==b.toList)
   |_,_,_=>none
  |_=>none
theorem zNn {P:Program} {w:World} {t:TypeId} {cs:List Value} {off z:Nat} {v:Value} (hz:zFr P t=some z) (hz0:zFR P t=some false→0<z) (h:mkV P t ((cs.drop off).take z)=some v):(part t cs.toArray off).run P w= .ok v w:=by
 unfold mkV at h
 unfold part
 split at h
 ·rename_i ha
  cases h
  rw [run_bind_ok (zL _ _ w ha)]
  simp only [if_true]
  rw [run_bind_ok (zL _ _ w hz)]
  have:(cs.toArray.extract off (off+z))=((cs.drop off).take z).toArray :=by
   apply Array.ext'
   simp [List.take_drop]
  rw [this]
  rfl
 ·rename_i ha
  rw [run_bind_ok (zL _ _ w ha)]
  simp only [Bool.false_eq_true,if_false]
  have:cs.toArray[off]? =some v:=by
   rw [List.head?_take,if_neg (by have:=hz0 ha; omega),List.head?_drop] at h
   simpa using h
  rw [this]
  rfl
 ·cases h
theorem zMq {P:Program}:∀(d k:Nat) (t:TypeId) (xs ys:List Value) (vx vy:Value) (r:Bool) (w:World),eqT P d t xs ys=some r→mkV P t xs=some vx→mkV P t ys=some vy→(Op.equalIn (d+k) t vx vy).run P w= .ok r w
 |0,k,t,xs,ys,vx,vy,r,w,h,_,_=>by simp [eqT] at h
 |d+1,k,t,xs,ys,vx,vy,r,w,h,hx,hy=>by
  rw [show d+1+k=(d+k)+1 by omega]
  unfold eqT at h
  unfold mkV at hx hy
  split at h
  ·rename_i fs hfs
   split at h
   ·rename_i hc
    rw [hc.2] at hx hy
    cases hx
    cases hy
    have hff:P.fieldsOf t=fs:=by unfold Program.fieldsOf; rw [hfs]
    rw [run_equalIn_struct w (d+k) t _ _ (by rw [hff]; exact hfs) hc.1,hff]
    have key:∀(l:List Field) (r:Bool),zPx P (eqT P d) xs ys l=some r→(Op.eqFields (d+k) xs.toArray ys.toArray l).run P w= .ok r w:=by
     intro l
     induction l with
     |nil=>intro r h; cases h; rfl
     |cons f l ih=>
      intro r h
      unfold zPx at h
      split at h
      ·cases h
      ·rename_i hnm
       split at h
       ·rename_i z hz
        split at h
        ·rename_i a q ha hq
         cases h
         have hmk:∀(cs:List Value),(∃a l',(cs.drop f.offset).take z=a::l')∨zFR P f.type=some true→zFR P f.type≠none→∃v,mkV P f.type ((cs.drop f.offset).take z)=some v∧(part f.type cs.toArray f.offset).run P w= .ok v w:=by
          intro cs hcs hne
          have:∃v,mkV P f.type ((cs.drop f.offset).take z)=some v:=by
           unfold mkV
           rcases hcs with ⟨a,l',e⟩|e
           ·cases hag:zFR P f.type with
            |none=>exact absurd hag hne
            |some b=>cases b<;>simp [e]
           ·rw [e]; exact ⟨_,rfl⟩
          obtain ⟨v,hv⟩:=this
          refine ⟨v,hv,zNn hz (fun hf=>?_) hv⟩
          rcases Nat.eq_zero_or_pos z with e|e
          ·subst e
           unfold mkV at hv
           rw [hf] at hv
           simp at hv
          ·exact e
         have hsh:zFR P f.type≠none∧((∃a l',(xs.drop f.offset).take z=a::l')∨zFR P f.type=some true)∧((∃a l',(ys.drop f.offset).take z=a::l')∨zFR P f.type=some true):=by
          cases d with
          |zero=>simp [eqT] at ha
          |succ d=>
           unfold eqT at ha
           split at ha
           ·split at ha
            ·rename_i hc'
             exact ⟨by rw [hc'.2]; simp,.inr hc'.2,.inr hc'.2⟩
            ·cases ha
           all_goals first
            |(split at ha
              ·rename_i g1 g2 g3
               exact ⟨by rw [g1]; simp,.inl ⟨_,_,g2⟩,.inl ⟨_,_,g3⟩⟩
              ·cases ha)
            |cases ha
         obtain ⟨va,m1,p1⟩:=hmk xs hsh.2.1 hsh.1
         obtain ⟨vb,m2,p2⟩:=hmk ys hsh.2.2 hsh.1
         have he:=zMq d k f.type _ _ va vb a w ha m1 m2
         unfold Op.eqFields
         rw [if_pos (by simpa using hnm),run_bind_ok p1,run_bind_ok p2,run_bind_ok he]
         cases a
         ·rfl
         ·simp only [Bool.not_true,Bool.false_eq_true,if_false,Bool.true_and]
          exact ih q hq
        ·cases h
       ·cases h
    exact key _ _ h
   ·cases h
  ·rename_i kk hu
   split at h
   ·rename_i hag
    rw [hag] at hx hy
    cases hx
    cases hy
    split at h
    ·rename_i e
     subst e
     cases h
     exact run_equalIn_int w (d+k) t _ _ _ _ hu
    ·cases h
   ·cases h
  ·rename_i hu
   split at h
   ·rename_i hag
    rw [hag] at hx hy
    cases hx
    cases hy
    cases h
    exact run_equalIn_bool' w (d+k) t _ _ hu
   ·cases h
  ·rename_i hu
   split at h
   ·rename_i hag
    rw [hag] at hx hy
    cases hx
    cases hy
    cases h
    exact run_equalIn_string w (d+k) t _ _ hu
   ·cases h
  ·cases h
section
variable {Γ:Ctx} {ops:Array Oper} {o:Oper}
theorem zG8 {β:Nat→Loc} {N:Nat→Prop} {w:World} {top:Bool}:∀{us ws:List Value} {bs:List Nat},zH β N w top (us.map D.sc) ws bs→ws=us
 |[],ws,bs,h=>by simp only [List.map_nil,zH] at h; exact h.1
 |u::us,ws,bs,h=>by
  simp only [List.map_cons,zH,Rep] at h
  obtain ⟨v,vs,b1,b2,rfl,_,h3,h4⟩:=h
  rw [h3.1,zG8 h4]
theorem zKj {P:Program} {w:World} {b:BinOp} {T:TypeId} {x y:Operand} {xs ys:Array Value} (h:P.eqGuardType P.depth T=false):(eqGuard b T x y (.agg xs) (.agg ys)).run P w= .ok () w:=by
 have key:(do
   let __do_lift ←program
   let __do_lift_1 ←program
   if (!__do_lift.eqGuardType __do_lift_1.depth T)=true then pure ()
   else do
    let __do_lift ←Op.eqGuardIn Op.maxDepth T (Value.agg xs) (Value.agg ys)
    if __do_lift=true then unsupported (.noEntry "binop/eql: two nil values of an interface type with methods, in a part of a struct or an array") else pure ():Sem Unit).run P w= .ok () w:=by
  rw [run_bind_ok (a:=P) (w':=w) rfl]
  rw [run_bind_ok (a:=P) (w':=w) rfl]
  rw [h]
  rfl
 unfold eqGuard
 split
 ·exact key
 ·exact key
 ·rfl
theorem zOE {c:Cert} {b:BinOp} {x y:Operand} {T U:TypeId} {us vs:List Value} {d:Nat} {r q:Bool} (hg:o.guard=none) (hop:o.op= .binOp b T x y U) (hb:(b= .eql ∧q=r)∨(b= .neq ∧q= !r)) (hc:c= {tn:=c.tn,out:=some (.sc (.bool q))})
  (hx:OpF c x (.ag (us.map D.sc))) (hy:OpF c y (.ag (vs.map D.sc))) (hagg:zFR Γ.P T=some true) (hgt:Γ.P.eqGuardType Γ.P.depth T=false) (hd:d≤10000) (he:eqT Γ.P d T us vs=some r):Valid Γ ops o c:=by
 refine jL (d:=.sc (.bool q)) (f:=fun ρ=>do eqGuard b T x y (ρ x) (ρ y); binOp b T (ρ x) (ρ y)) hg (fun ρ=>by simp [execOp,hop]) (by rw [hc]) fun β bs σ a w hn hr=>?_
 have h1:=OpF.rep hx hn hr
 have h2:=OpF.rep hy hn hr
 simp only [Rep] at h1 h2
 obtain ⟨_,w1,e1,_,r1⟩:=h1
 obtain ⟨_,w2,e2,_,r2⟩:=h2
 rw [zG8 r1] at e1
 rw [zG8 r2] at e2
 refine ⟨.bool q,?_,by simp [Rep]⟩
 rw [e1,e2]
 rw [run_bind_ok (zKj hgt)]
 have hrun:=zMq d (10000-d) T us vs (.agg us.toArray) (.agg vs.toArray) r w he (by unfold mkV; rw [hagg]) (by unfold mkV; rw [hagg])
 rw [show d+(10000-d)=10000 by omega] at hrun
 rcases hb with ⟨rfl,rfl⟩|⟨rfl,rfl⟩
 ·rw [run_eql_struct,hrun]; rfl
 ·rw [run_neq_struct,hrun]; rfl
theorem zMm {b:BinOp} {q r:Bool} (T U:Nat) (x y:Operand) (us vs:List Value) (hb:(b= .eql ∧q=r)∨(b= .neq ∧q= !r)) (hx:OkO x (.ag (us.map D.sc)):=by trivial) (hy:OkO y (.ag (vs.map D.sc)):=by trivial)
  (hT:(zFR Γ.P T,Γ.P.eqGuardType Γ.P.depth T,eqT Γ.P 4 T us vs)=(some true,false,some r):=by kernel_rfl):
  OpV Γ (.binOp b T x y U) {tn:=tnO x (.ag (us.map D.sc))++tnO y (.ag (vs.map D.sc)),out:=some (.sc (.bool q))}:=by
 simp only [Prod.mk.injEq] at hT
 obtain ⟨h1,h2,h3⟩:=hT
 intro ops o hop hg
 exact zOE hg hop hb rfl (hx.f (fun y hy=>List.mem_append_left _ hy)) (hy.f (fun y hy=>List.mem_append_right _ hy)) h1 h2 (by decide) h3
end
end Go.Im
set_option linter.unusedVariables false
namespace Go.Im
open Go
section
variable {Γ:Ctx} {ops:Array Oper} {o:Oper}
theorem zPh {c:Cert} {f:FuncId} {caps:Array Operand} {ds:List D} (hg:o.guard=none) (hop:o.op= .makeFunc (.func f) caps #[]) (hc:c= {tn:=c.tn,out:=some (.fb f ds)})
  (hl:ds.length=caps.size) (hds:∀(k:Nat) (d:D),ds[k]? =some d→∃x,caps[k]? =some x∧OpF c x d):Valid Γ ops o c:=by
 refine jL (d:=.fb f ds) (f:=fun ρ=>Instr.makeFunc (.func f) (caps.map ρ) #[]) hg (fun ρ=>by simp [execOp,hop]) (by rw [hc]) fun β bs σ a w hn hr=>?_
 refine ⟨_,rfl,?_⟩
 simp only [Rep]
 refine ⟨trivial,trivial,(caps.map a.eval).toList,by rw [Array.toArray_toList],?_⟩
 have key:∀(ds:List D) (xs:List Operand),ds.length=xs.length→(∀(k:Nat) (d:D),ds[k]? =some d→∃x,xs[k]? =some x∧OpF c x d)→zH β (NS Γ w bs) w true ds (xs.map a.eval) []:=by
  intro ds
  induction ds with
  |nil=>intro xs h _; rw [List.length_eq_zero_iff.1 h.symm]; simp [zH]
  |cons d ds ih=>
   intro xs h hk
   cases xs with
   |nil=>simp at h
   |cons x xs=>
    obtain ⟨x',g1,g2⟩:=hk 0 d rfl
    simp at g1
    subst g1
    simp only [List.map_cons,zH]
    exact ⟨_,_,[],[],rfl,rfl,OpF.rep g2 hn hr,ih xs (by simpa using h) (fun k d hd=>hk (k+1) d (by simpa using hd))⟩
 have:=key ds caps.toList (by simpa using hl) (fun k d hd=>by
  obtain ⟨x,g1,g2⟩:=hds k d hd
  exact ⟨x,by rw [Array.getElem?_toList]; exact g1,g2⟩)
 simpa using this
theorem zOo {c:Cert} {f:FuncId} {x0:Operand} {args:Array Operand} {tys:Array TypeId} {as ds caps:List D} {ids:List Nat} {bor:Bool} {hin hout:List Ent} {R:Option (D×List Ent)} {res d:D}
  {news:List (Nat×Ent)} (hg:o.guard=none) (hop:o.op= .call {callee:=.value x0,args:=args,argTypes:=tys}) (hx0:OpF c x0 (.fb f caps)) (hcf:∀xs,yP Γ.P (callFunc f xs)=some (.enter f xs))
  (hal:as.length=args.size) (hargs:∀(k:Nat) (d:D),as[k]? =some d→∃x,args[k]? =some x∧OpF c x d)
  (ham:AmL c.hn ids bor (caps++as) ds) (hids:ids.Nodup) (hinl:hin.length=ids.length) (hhin:∀x∈ids.zip hin,x∈c.hn) (hmen:∀e∈hin++hout,e.men=[])
  (hok:Ok Γ.P f ds hin R) (hR:R=some (res,hout)) (hol:hout.length≤hin.length) (hnm:Nm res d news) (hnews:(news.map (·.1)).Nodup)
  (hc:c= {tn:=c.tn,hn:=c.hn,out:=some d,hx:=ids,hw:=ids.zip hout++news,fr:=news.map (·.1)}) (hmm:∀x∈news,Γ.m≤x.1)
  (hbor:bor=true→zGe hout∧res.flat):Valid Γ ops o c:=by
 intro σ a w Q hdst hn ⟨h0,β,bs,hr⟩
 have hwt:Region.wanted o (yielded ops a.tmps)=true:=by simp [Region.wanted,hg]
 rw [if_pos hwt]
 have hvs:zH β (NS Γ w bs) w true as (args.toList.map a.eval) []:=zFN (c:=c) (by simpa using hal) (fun k d hk=>by
  obtain ⟨x,h1,h2⟩:=hargs k d hk
  exact ⟨x,by rw [Array.getElem?_toList]; exact h1,OpF.rep h2 hn hr⟩)
 have h1:=OpF.rep hx0 hn hr
 simp only [Rep] at h1
 obtain ⟨_,_,ws,hfv,hcaps⟩:=h1
 have hex:(execOp a.eval o).run Γ.P w= .ok (.enter f (ws.toArray++args.map a.eval)) w:=by
  have e:execOp a.eval o=(do let d ←Deferred.ofValue (a.eval x0) (args.map a.eval); invoke d.target d.args):=by
   simp only [execOp,hop,resolve]
  rw [e,hfv]
  show (callFunc f ((ws.toArray++args.map a.eval)++ #[])).run Γ.P w=_
  rw [Array.append_empty]
  exact zL _ _ w (hcf _)
 unfold Oper.wp
 rw [hex,Oper.upon_enter]
 have:=zHo (f:=f) (dst:=o.dst) h0 hr hdst hn (hcaps.append hvs) ham hids hinl hhin hmen hok hR hol hnm hnews hc hmm hbor
 rw [show (ws++args.toList.map a.eval).toArray =ws.toArray++args.map a.eval by rw [←List.append_toArray,←List.map_toArray,Array.toArray_toList]] at this
 refine this.mono fun e w' he=>?_
 obtain ⟨v,rfl,hrel⟩:=he
 exact hrel
theorem zPU (f:FuncId) (xs:List Operand) (ds:List D) (hC:(ds.length,xs.all zMO,List.zipWith zMN xs ds)=(xs.length,true,ds):=by kernel_rfl):
  OpV Γ (.makeFunc (.func f) xs.toArray #[]) {tn:=tnL xs ds,out:=some (.fb f ds)}:=by
 simp only [Prod.mk.injEq] at hC
 intro ops o hop hg
 exact zPh hg hop rfl (by simpa using hC.1) (fun k d hk=>by
  obtain ⟨x,q1,q2⟩:=zJ3 (c:= {tn:=tnL xs ds,out:=some (.fb f ds)}) hC.1 hC.2.1 hC.2.2 (fun y hy=>hy) k d hk
  exact ⟨x,by simpa using q1,q2⟩)
theorem zPT {f:FuncId} {as caps:List D} {R:Type} {e:Option R} {g:R→D×List Ent} {r:R} (t0:Nat) (xs:List Operand) (tys:List Nat) (hok:Ok Γ.P f (caps++as) [] (e.map g)) (h:e=some r) (hcf:∀vs,yP Γ.P (callFunc f vs)=some (.enter f vs):=by intro _; kernel_rfl)
  (hC:(as.length,xs.all zMO,List.zipWith zMN xs as,D.men.zEa (caps++as),(g r).1.nm,(g r).2)=(xs.length,true,as,[],true,[]):=by kernel_rfl):
  OpV Γ (.call {callee:=.value (.tmp t0),args:=xs.toArray,argTypes:=tys.toArray}) {tn:=(t0,.fb f caps)::tnL xs as,out:=some (g r).1}:=by
 simp only [Prod.mk.injEq] at hC
 obtain ⟨h1,h2,h3,h4,h5,h7⟩:=hC
 intro ops o hop hg
 exact zOo («as»:=as) (caps:=caps) (bor:=false) (ids:=[]) (hin:=[]) (hout:=[]) (news:=[]) hg hop (show (t0,D.fb f caps)∈(t0,D.fb f caps)::tnL xs as from .head _) hcf (by simpa using h1) (fun k d hk=>by
  obtain ⟨x,q1,q2⟩:=zJ3 (c:= {tn:=(t0,.fb f caps)::tnL xs as,out:=some (g r).1}) h1 h2 h3 (fun y hy=>List.mem_cons_of_mem _ hy) k d hk
  exact ⟨x,by simpa using q1,q2⟩) (AmL.zHf h4) (by simp) rfl (by simp) (by simp) hok (by rw [h,Option.map_some,←h7]) (by simp) (zKg h5) (by simp) rfl (by simp) (by simp)
end
end Go.Im
set_option linter.unusedVariables false
namespace Go.Im
open Go
theorem zJz {w:World} {b off r:Nat} {ws:List Value} (h:Own w b off r ws) (hr:ws.length≤r):∀j (hj:j<ws.length),w.cell? ⟨b,off+j,none⟩=some ws[j]∧w.frozen? ⟨b,off+j,none⟩=false:=by
 obtain ⟨arr,e,lo,hi,h1,h2,h3,h4⟩:=h
 intro j hj
 unfold World.cell? World.frozen?
 simp only [h1]
 refine ⟨by simpa using h4 j hj,?_⟩
 have:=h2 (off+j) (by omega)
 simp only [Bool.and_eq_false_iff,decide_eq_false_iff_not]
 omega
theorem zIY {α:Type} {enc:α→Value} {β:Nat→Loc} {N:Nat→Prop} {w:World}:∀{xs:List α} {ws:List Value} {bs:List Nat},zU β N w (xs.map (fun a=>[D.sc (enc a)])) ws bs→ws=xs.map enc∧bs=[]
 |[],ws,bs,h=>by simpa [zU] using h
 |x::xs,ws,bs,h=>by
  simp only [List.map_cons,zU,zH,Rep] at h
  obtain ⟨w1,w2,b1,b2,rfl,rfl,⟨v,vs,c1,c2,rfl,rfl,h3,rfl,rfl⟩,h4⟩:=h
  obtain ⟨rfl,rfl⟩:=h3
  obtain ⟨rfl,rfl⟩:=zIY h4
  exact ⟨rfl,rfl⟩
theorem zIo {α:Type} {enc:α→Value} {β:Nat→Loc} {N:Nat→Prop} {w:World}:∀(xs:List α),zU β N w (xs.map (fun a=>[D.sc (enc a)])) (xs.map enc) []
 |[]=>by simp [zU]
 |x::xs=>by
  simp only [List.map_cons,zU,zH,Rep]
  exact ⟨[enc x],xs.map enc,[],[],rfl,rfl,⟨_,[],[],[],rfl,rfl,⟨rfl,rfl⟩,rfl,rfl⟩,zIo xs⟩
theorem zHy {α:Type} [Inhabited α] {enc:α→Value} {w:World} {blk off:Nat} {d:Array α} {arr:Array Value} {e:TypeId} {fz:Nat×Nat} (h:w.heap[blk]? =some (.cells arr e fz)):
  (Sort.putRow enc w blk off d).heap[blk]? =some (.cells (Sort.putCells enc off d arr) e fz)∧(∀b,b≠blk→(Sort.putRow enc w blk off d).heap[b]? =w.heap[b]?)∧(Sort.putRow enc w blk off d).heap.size =w.heap.size:=by
 unfold Sort.putRow Sort.mapBlock
 refine ⟨?_,fun b hb=>?_,by simp⟩
 ·simp only [Array.getElem?_modify,if_true,h]
  rfl
 ·simp only [Array.getElem?_modify]
  rw [if_neg (fun e=>hb e.symm)]
theorem zMA {α:Type} [Inhabited α] {P:Program} {f:FuncId} {enc:α→Value} {xs ys:List α} (hl:ys.length=xs.length)
  (h:∀(blk off cap:Nat) (w:World),Sort.Holds enc w blk off xs.toArray→blk<w.heap.size→Calls P f #[.slice (some ⟨blk,off,none⟩) xs.length cap] w fun e w'=>e= .returned (.tuple #[])∧∃n os,w'=Sort.grow (Sort.putRow enc (Sort.ahead w n) blk off ys.toArray) os)
  (h0:xs=[]→∀(p:Option Addr) (cap:Nat) (w:World),Calls P f #[.slice p 0 cap] w fun e w'=>e= .returned (.tuple #[])∧w'=w):
  Ok P f [.rf 0 0 xs.length none] [.row 1 (xs.map (fun a=>[D.sc (enc a)]))] (some (.tu [],[.row 1 (ys.map (fun a=>[D.sc (enc a)]))])):=by
 intro out ho w N β vs bs ha hh hnd hlt hN _
 cases ho
 simp only [zH] at ha
 obtain ⟨v,vs',b1,b2,rfl,hb12,h1,rfl,rfl⟩:=ha
 have hb1:b1=[]:=by simpa using hb12.symm
 subst hb1
 simp only [Rep] at h1
 obtain ⟨_,_,h1⟩:=h1
 obtain ⟨c1,c2,rfl,⟨hLz,hzz,hrow⟩,hc2⟩:=hh
 have hc2':c2=[]:=hc2
 subst hc2'
 simp only at hLz hzz hrow
 rcases hrow with ⟨hnil,hxs,hc1⟩|⟨hnil,ws,hO,hE⟩
 ·
  have hxs':xs=[]:=by simpa using hxs
  subst hxs'
  subst hc1
  have hys:ys=[]:=List.eq_nil_of_length_eq_zero hl
  subst hys
  have hv:v= .slice none 0 0:=by
   rcases h1 with ⟨_,_,_,h1⟩|⟨h1,_⟩
   ·exact h1
   ·rw [hnil] at h1; cases h1
  subst hv
  refine (h0 rfl none 0 w).mono ?_
  rintro e w' ⟨rfl,rfl⟩
  have hown:(β 0).own =[]:=by simp [Loc.own,hnil]
  refine ⟨.tuple #[],[],[],rfl,⟨rfl,rfl,rfl,Nat.le_refl _⟩,Nat.le_refl _,fun _ _ _=>rfl,by simp,by simp,?_,?_⟩
  ·simp only [Rep,zH]
   exact ⟨trivial,[],rfl,rfl,trivial⟩
  ·refine ⟨[],[],by simp [hown],⟨hLz,by simp,.inl ⟨hnil,rfl,rfl⟩⟩,rfl⟩
 ·have hown:(β 0).own =[(β 0).b]:=by simp [Loc.own,hnil]
  rw [hown] at hlt hnd hN ⊢
  obtain ⟨rfl,rfl⟩:=zIY hE
  obtain ⟨cp,hv,hcap,hroom⟩:∃c',v= .slice (some ⟨(β 0).b,(β 0).o,none⟩) xs.length c'∧xs.length≤c'∧c'≤(β 0).r :=by
   rcases h1 with ⟨h1,_⟩|⟨_,c',h3,h4,h5,_⟩
   ·rw [hnil] at h1; cases h1
   ·exact ⟨c',by simpa using h3,h4,by rw [hLz] at h5; simpa using h5⟩
  subst hv
  have hbl:(β 0).b <w.heap.size:=hlt _ (by simp)
  have hcells:=zJz hO (by simpa using Nat.le_trans hcap hroom)
  have hH:Sort.Holds enc w (β 0).b (β 0).o xs.toArray:=by
   intro j hj
   have hj':j<xs.length:=by simpa using hj
   obtain ⟨q1,q2⟩:=hcells j (by simpa using hj')
   refine ⟨?_,q2⟩
   rw [q1]
   simp [hj']
  refine (h _ _ cp w hH hbl).mono ?_
  rintro e w' ⟨rfl,n,os,rfl⟩
  obtain ⟨arr,el,lo,hi,g1,g2,g3,g4⟩:=hO
  obtain ⟨p1,p2,p3⟩:=zHy (enc:=enc) (w:=Sort.ahead w n) (blk:=(β 0).b) (off:=(β 0).o) (d:=ys.toArray) (fz:=(lo,hi)) (e:=el) (arr:=arr) g1
  have hg:∀b,b<w.heap.size→(Sort.grow (Sort.putRow enc (Sort.ahead w n) (β 0).b (β 0).o ys.toArray) os).heap[b]? =(Sort.putRow enc (Sort.ahead w n) (β 0).b (β 0).o ys.toArray).heap[b]? :=by
   intro b hb
   unfold Sort.grow
   simp only
   rw [Array.getElem?_append_left (by rw [p3]; exact hb)]
  have hsz:w.heap.size≤(Sort.grow (Sort.putRow enc (Sort.ahead w n) (β 0).b (β 0).o ys.toArray) os).heap.size :=by
   unfold Sort.grow
   simp only [Array.size_append]
   rw [p3]
   exact Nat.le_add_right _ _
  refine ⟨.tuple #[],[],[(β 0).b],rfl,⟨rfl,rfl,rfl,Nat.le_add_right _ _⟩,hsz,?_,by simp,?_,?_,?_⟩
  ·intro b hb hb2
   rw [hg b hb,p2 b (fun e=>hb2 (by simp [e]))]
   rfl
  ·intro b hb
   simp only [List.nil_append,List.mem_singleton] at hb
   subst hb
   exact ⟨Nat.lt_of_lt_of_le hbl hsz,.inl (by simp)⟩
  ·simp only [Rep,zH]
   exact ⟨trivial,[],rfl,rfl,trivial⟩
  ·refine ⟨[],[],by simp [hown],⟨hLz,by simp,.inr ⟨hnil,ys.map enc,?_,zIo ys⟩⟩,rfl⟩
   refine ⟨Sort.putCells enc (β 0).o ys.toArray arr,el,lo,hi,by rw [hg _ hbl]; exact p1,?_,?_,?_⟩
   ·unfold Sort.putCells
    rw [Array.size_mapIdx]
    exact g2
   ·unfold Sort.putCells
    rw [Array.size_mapIdx]
    exact g3
   ·intro k hk
    have hk':k<ys.length:=by simpa using hk
    unfold Sort.putCells
    have hka:(β 0).o +k<arr.size:=by
     have:(β 0).o +(β 0).r ≤arr.size:=g3
     omega
    rw [Array.getElem?_mapIdx,Array.getElem?_eq_getElem hka]
    simp only [Option.map_some]
    rw [if_pos (by simp; omega)]
    simp [hk']
end Go.Im
set_option linter.unusedVariables false
namespace Go.Im
open Go
end Go.Im
set_option linter.unusedVariables false
namespace Go.Im
open Go
end Go.Im
set_option linter.unusedVariables false
namespace Go.Im
open Go
section
variable {Γ:Ctx} {fc:Code} {k:List II} {σ:St} {T:Type} {K:T→Option (D×List Ent)}
theorem zFP {e:Option T} (t:Nat) {z:Nat} {xs xs':List (List D)} {tm:List (Nat×D)} {hp:List (Nat×Ent)} (hx:D.ro.roE xs=xs')
  (hj:J Γ fc k (St.mk' tm ((t,.row z xs')::hp)) e K):J Γ fc k (St.mk' tm ((t,.row z xs)::hp)) e K:=by
 subst hx
 refine zEO (fun a w hr=>?_) hj
 obtain ⟨h0,β,bs,h⟩:=hr
 obtain ⟨b1,bk,rfl,hE,hrest⟩:=h.hp
 obtain ⟨hz,hzz,hrow⟩:=hE
 have hp:((β t).own ++(b1++bk)).Perm (b1++((β t).own ++bk)):=by
  rw [←List.append_assoc,←List.append_assoc]
  exact List.Perm.append_right _ List.perm_append_comm
 have hnd:=hp.nodup_iff.1 h.nodup
 have hsub:∀b∈(β t).own ++([]++bk),b∈(β t).own ++(b1++bk):=fun b hb=>by
  simp only [List.nil_append,List.mem_append] at hb ⊢
  rcases hb with hb|hb
  ·exact .inl hb
  ·exact .inr (.inr hb)
 have hN:∀b,NS Γ w ((β t).own ++(b1++bk)) b→NS Γ w ((β t).own ++([]++bk)) b:=fun b hb=>NS.sub hsub hb
 have hb:∀b∈b1,NS Γ w ((β t).own ++([]++bk)) b:=fun b hb=>by
  have:=h.own b (hp.mem_iff.2 (List.mem_append_left _ hb))
  refine ⟨?_,this.1,fun hbk=>(List.nodup_append.1 hnd).2.2 b hb b hbk rfl⟩
  rcases this.2 with h1|h1
  ·exact .inr (.inl h1)
  ·exact .inr (.inr h1)
 refine ⟨h0,β,(β t).own ++([]++bk),{defers:=h.defers,size:=h.size,keys:=h.keys,par:=h.par,grow:=h.grow,gh:=h.gh,quiet:=h.quiet,keep:=h.keep,hp:=?_,nodup:=?_,own:=fun b hb=>h.own b (hsub b hb),tm:=?_}⟩
 ·refine ⟨[],bk,rfl,⟨hz,fun x hx=>?_,?_⟩,?_⟩
  ·obtain ⟨e',he',rfl⟩:=zFj hx
   rw [zDh]; exact hzz e' he'
  ·rcases hrow with ⟨h1,h2,h3⟩|⟨h1,ws,h2,h3⟩
   ·subst h2; exact .inl ⟨h1,rfl,rfl⟩
   ·exact .inr ⟨h1,ws,h2,zU.ro hN xs ws b1 hb h3⟩
  ·exact uO.frame (fun b hb=>⟨hN b hb,rfl⟩) _ _ (fun _ _=>rfl) (fun _ _=>rfl) hrest
 ·exact (List.nodup_append.1 hnd).2.1
 ·exact zLT.frame (fun b hb=>⟨hN b hb,rfl⟩) (fun _ _=>rfl) h.tm
end
end Go.Im
set_option linter.unusedVariables false
namespace Go.Im
open Go
end Go.Im
set_option linter.unusedVariables false
namespace Go.Im
open Go Go.Proofs
section
variable {H:Type} {enc:TypeId×Value→H}
end
end Go.Im
set_option linter.unusedVariables false
namespace Go.Im
open Go
section
variable {Γ:Ctx} {ops:Array Oper} {o:Oper}
theorem Rel.zPP {σ:St} {a:Act} {w:World} {dst:Option Nat} {tn:List (Nat×D)} {t:Nat} {cs:List D} (hus:∀k,k∈zGU σ.tm∨k∈zFw σ.hp→k∈σ.us) (hcs:∀k∈D.men.zEa cs,k∈σ.us) (hfree:∀d∈cs,d.free=true)
  (h:Rel Γ (σ.upd dst {tn:=tn,out:=some (.pt t 0 0),hw:=[(t,.box cs)],fr:=[t]}) a w):Rel Γ (σ.upd dst {tn:=tn,out:=some (.pb cs)}) a w:=by
 obtain ⟨_,β,bs,h⟩:=h
 obtain ⟨b1,b2,rfl,⟨hnil,_,ws,hO,hone,hcr⟩,hrest⟩:=h.hp
 obtain rfl:b1=[]:=zH.frees hfree hcr
 have hown:(β t).own =[(β t).b]:=by simp [Loc.own,hnil]
 have hnd:=h.nodup
 rw [hown] at hnd
 simp only [List.nil_append,List.singleton_append,List.nodup_cons] at hnd
 have hsub:∀b∈b2,b∈(β t).own ++([]++b2):=fun b hb=>by simp [hb]
 have hN:∀b,NS Γ w ((β t).own ++([]++b2)) b→NS Γ w b2 b:=fun b hb=>NS.sub hsub hb
 have hNt:NS Γ w b2 (β t).b :=by
  have:=h.own (β t).b (by rw [hown]; simp)
  refine ⟨?_,this.1,hnd.1⟩
  rcases this.2 with h1|h1
  ·exact .inr (.inl h1)
  ·exact .inr (.inr h1)
 refine ⟨?_,β,b2,{defers:=h.defers,size:=h.size,keys:=?_,par:=h.par,grow:=h.grow,gh:=h.gh,quiet:=h.quiet,keep:=h.keep,hp:=?_,nodup:=hnd.2,own:=fun b hb=>h.own b (hsub b hb),tm:=?_}⟩
 ·intro k hk
  simp only [St.upd,Cert.men,zFw,List.flatMap_nil,List.append_nil,List.nil_append,D.men] at hk ⊢
  rw [List.mem_append]
  have key:∀k,k∈zGU (σ.tm.filter (fun x=>dst !=some x.1))∨k∈zFw (σ.hp.filter (fun x=> !([]:List Nat).contains x.1))→k∈σ.us:=by
   rintro k (hk|hk)
   ·obtain ⟨x,hx,hk⟩:=List.mem_flatMap.1 hk
    exact hus k (.inl (List.mem_flatMap.2 ⟨x,(List.mem_filter.1 hx).1,hk⟩))
   ·obtain ⟨x,hx,hk⟩:=List.mem_flatMap.1 hk
    exact hus k (.inr (List.mem_flatMap.2 ⟨x,(List.mem_filter.1 hx).1,hk⟩))
  rcases hk with hk|hk
  ·obtain ⟨x,hx,hk⟩:=List.mem_flatMap.1 hk
   rcases List.mem_append.1 hx with hx|hx
   ·unfold Cert.outs at hx
    cases dst with
    |none=>simp at hx
    |some q=>
     simp only [List.mem_singleton] at hx
     subst hx
     exact .inr (hcs k (by simpa [D.men] using hk))
   ·exact .inr (key k (.inl (List.mem_flatMap.2 ⟨x,hx,hk⟩)))
  ·exact .inr (key k (.inr hk))
 ·have hk:=h.keys
  simp only [St.upd,List.cons_append,List.nil_append,List.map_cons,List.nodup_cons] at hk ⊢
  exact hk.2
 ·exact uO.frame (fun b hb=>⟨hN b hb,rfl⟩) _ _ (fun _ _=>rfl) (fun _ _=>rfl) hrest
 ·intro q d hd
  simp only [St.upd] at hd
  rcases List.mem_append.1 hd with hd|hd
  ·unfold Cert.outs at hd
   cases dst with
   |none=>simp at hd
   |some q'=>
    simp only [List.mem_singleton,Prod.mk.injEq] at hd
    obtain ⟨rfl,rfl⟩:=hd
    obtain ⟨v,h1,h2⟩:=h.tm q (.pt t 0 0) (by simp [St.upd,Cert.outs])
    refine ⟨v,h1,?_⟩
    simp only [Rep] at h2 ⊢
    obtain ⟨_,_,_,rfl⟩:=h2
    refine ⟨trivial,trivial,(β t).b,(β t).o,ws,by simp,hNt,hO.has,hone,?_⟩
    exact zH.frame (fun b hb=>⟨hN b hb,rfl⟩) cs true ws [] (by simp) (fun _ _=>rfl) hcr
  ·obtain ⟨v,h1,h2⟩:=h.tm q d (by simp only [St.upd]; exact List.mem_append_right _ hd)
   exact ⟨v,h1,Rep.frame (fun b hb=>⟨hN b hb,rfl⟩) d true v [] (by simp) (fun _ _=>rfl) h2⟩
theorem zGE:∀(l:List Nat) (m:Nat),m≤l.foldl max m∧∀x∈l,x≤l.foldl max m
 |[],m=>⟨Nat.le_refl _,by simp⟩
 |y::l,m=>by
  obtain ⟨h1,h2⟩:=zGE l (max m y)
  refine ⟨Nat.le_trans (Nat.le_max_left _ _) h1,fun x hx=>?_⟩
  rcases List.mem_cons.1 hx with rfl|hx
  ·exact Nat.le_trans (Nat.le_max_right _ _) h1
  ·exact h2 x hx
theorem zOx {c:Cert} {x:Operand} {T:TypeId} {d:D} (hg:o.guard=none) (hop:o.op= .box T x) (hc:c= {tn:=c.tn,out:=some (.pb (cellsD d))}) (hx:OpF c x d) (hd:(cellsD d).all D.cell=true):Valid Γ ops o c:=by
 intro σ a w Q hdst hn hr
 obtain ⟨m1,m2⟩:=zGE σ.us Γ.m
 have hft:σ.us.foldl max Γ.m+1∉σ.us:=fun h=>by have:=m2 _ h; omega
 have hn1:Nd {tn:=c.tn,out:=some (.pt (σ.us.foldl max Γ.m+1) 0 0),hw:=[((σ.us.foldl max Γ.m+1),.box (cellsD d))],fr:=[σ.us.foldl max Γ.m+1]} σ:=⟨hn.1,by simp,by simpa using hft⟩
 have hv:=zPj (Γ:=Γ) (ops:=ops) (t:=σ.us.foldl max Γ.m+1) hg hop (c:= {tn:=c.tn,out:=some (.pt (σ.us.foldl max Γ.m+1) 0 0),hw:=[((σ.us.foldl max Γ.m+1),.box (cellsD d))],fr:=[σ.us.foldl max Γ.m+1]}) rfl (by omega) hx hd σ a w Q hdst hn1 hr
 have hwt:Region.wanted o (yielded ops a.tmps)=true:=by simp [Region.wanted,hg]
 rw [if_pos hwt] at hv ⊢
 refine Oper.wp_mono (fun a' w' h'=>?_) hv
 rw [hc]
 exact Rel.zPP hr.1 (fun k hk=>zMt (a:=a) (w:=w) hr.1 hn hx k (by rwa [zJx] at hk)) (fun d' hd'=>D.zMo (List.all_eq_true.1 hd d' hd')) h'
theorem zMx {c:Cert} {x:Operand} {T:TypeId} {cs:List D} {d:D} (hg:o.guard=none) (hop:o.op= .load T x) (hc:c= {tn:=c.tn,out:=some d}) (hx:OpF c x (.pb cs)) (hd:zBt Γ.P T cs=some d):Valid Γ ops o c:=by
 rw [hc]
 refine jE hg rfl rfl fun β bs σ a w hn hr=>?_
 have h1:=OpF.rep (c:=c) hx ⟨hn.1,by rw [hc]; simp,by rw [hc]; simp⟩ hr
 simp only [Rep] at h1
 obtain ⟨_,_,b,p,ws,h2,h3,h4,hone,h5⟩:=h1
 obtain ⟨v,h6,h7⟩:=zDa hd h4 hone h5
 refine ⟨v,zFb (s:=Instr.loadAt T (a.eval x)) (by simp [execOp,hop]) ?_,fun d' hd=>by cases hd; exact h7⟩
 rw [h2]
 exact h6
theorem zMe (T:Nat) (x:Operand) (d:D) (hx:OkO x d:=by first|trivial|rfl) (hd:(cellsD d).all D.cell=true:=by kernel_rfl):OpV Γ (.box T x) {tn:=tnO x d,out:=some (.pb (cellsD d))}:=by
 intro ops o hop hg
 exact zOx hg hop rfl (hx.f (fun y hy=>hy)) hd
theorem zK5 {d:D} (T:Nat) (x:Operand) (cs:List D) (hx:OkO x (.pb cs):=by trivial) (hd:zBt Γ.P T cs=some d:=by kernel_rfl):OpV Γ (.load T x) {tn:=tnO x (.pb cs),out:=some d}:=by
 intro ops o hop hg
 exact zMx hg hop rfl (hx.f (fun y hy=>hy)) hd
end
end Go.Im
set_option linter.unusedVariables false
namespace Go.Im
open Go
section
variable {β:Nat→Loc} {N:Nat→Prop} {w:World}
end
section
variable {Γ:Ctx} {fc:Code} {k:List II} {σ:St} {T:Type} {K:T→Option (D×List Ent)}
end
section
variable {Γ:Ctx} {ops:Array Oper} {o:Oper}
end
end Go.Im
set_option linter.unusedVariables false
namespace Go.Im
open Go
section
variable {Γ:Ctx} {ops:Array Oper} {o:Oper}
end
end Go.Im
set_option linter.unusedVariables false
namespace Go.Im
open Go
def zPX (n:Nat):List Nat→Bool
 |[]=>false
 |m::ms=>Nat.beq n m||zPX n ms
def dl {α:Type} (del:List Nat) (add:List (Nat×α)):List (Nat×α)→List (Nat×α)
 |[]=>add
 |x::l=>match zPX x.1 del with
  |true=>dl del add l
  |false=>x::dl del add l
section
variable {Γ:Ctx} {fc:Code} {k:List II} {σ:St} {T:Type} {K:T→Option (D×List Ent)}
theorem J_d {e:Option T} (p:Nat) (ids:List (Nat×Nat)) (x:List Nat) (y:List (Nat×D)) (x':List Nat) (y':List (Nat×Ent)) {orc:List (Nat×Cert)} (hor:zHV Γ fc p orc) (hj:J Γ fc (aft fc p) (St.mk' (dl x y σ.tm) (dl x' y' σ.hp)) e K)
  (h:(zPL fc σ.tm p k&&Γ.P.follows .mixedOrders,(chk Γ.P Γ.nt Γ.m fc p orc ids σ (dl x y σ.tm) (dl x' y' σ.hp)).1,(chk Γ.P Γ.nt Γ.m fc p orc ids σ (dl x y σ.tm) (dl x' y' σ.hp)).2.2.1,(chk Γ.P Γ.nt Γ.m fc p orc ids σ (dl x y σ.tm) (dl x' y' σ.hp)).2.2.2.2)=
   (true,(chk Γ.P Γ.nt Γ.m fc p orc ids σ (dl x y σ.tm) (dl x' y' σ.hp)).2.1,(chk Γ.P Γ.nt Γ.m fc p orc ids σ (dl x y σ.tm) (dl x' y' σ.hp)).2.2.2.1,true):=by kernel_rfl):J Γ fc k σ e K:=
 J_g p ids _ _ hor hj h
end
end Go.Im
set_option linter.unusedVariables false
namespace Go.Im
open Go
mutual
inductive Wk:D→D→Prop where
 |same {d:D}:Wk d d
 |ln {z n:Nat} {xs:List (List D)}:Wk (.s false z n xs) (.ln n)
 |tu {cs cs':List D}:WkL cs cs'→Wk (.tu cs) (.tu cs')
 |ag {cs cs':List D}:WkL cs cs'→Wk (.ag cs) (.ag cs')
inductive WkL:List D→List D→Prop where
 |nil:WkL [] []
 |cons {d d':D} {ds ds':List D}:Wk d d'→WkL ds ds'→WkL (d::ds) (d'::ds')
end
section
variable {β:Nat→Loc} {N:Nat→Prop} {w:World}
mutual
theorem Wk.rep:∀{d d':D} {v:Value} {bs:List Nat},Wk d d'→Rep β N w true d v bs→Rep β N w true d' v bs
 |_,_,_,_,.same,h=>h
 |_,_,v,bs,.ln (z:=z) (n:=n) (xs:=xs),h=>by
  have e:=Rep.free (d:=.s false z n xs) rfl h
  subst e
  simp only [Rep] at h ⊢
  obtain ⟨_,_,a,cap,h1,h2,_⟩:=h
  exact ⟨trivial,a,cap,h1,h2⟩
 |_,_,v,bs,.tu hl,h=>by
  simp only [Rep] at h ⊢
  obtain ⟨h1,ws,h2,h3⟩:=h
  exact ⟨trivial,ws,h2,WkL.rep hl h3⟩
 |_,_,v,bs,.ag hl,h=>by
  simp only [Rep] at h ⊢
  obtain ⟨h1,ws,h2,h4,h3⟩:=h
  exact ⟨trivial,ws,h2,h4,WkL.rep hl h3⟩
theorem WkL.rep:∀{ds ds':List D} {vs:List Value} {bs:List Nat},WkL ds ds'→zH β N w true ds vs bs→zH β N w true ds' vs bs
 |_,_,_,_,.nil,h=>h
 |_,_,vs,bs,.cons h1 h2,h=>by
  simp only [zH] at h ⊢
  obtain ⟨v,vs',b1,b2,h3,h4,h5,h6⟩:=h
  exact ⟨v,vs',b1,b2,h3,h4,Wk.rep h1 h5,WkL.rep h2 h6⟩
end
end
section
variable {Γ:Ctx} {ops:Array Oper} {o:Oper}
theorem zHL {β:Nat→Loc} {N:Nat→Prop} {w:World}:∀{xs:List (List D)} {ws:List Value} {bs:List Nat},(∀e∈xs,e.all D.free=true)→zU β N w xs ws bs→bs=[]
 |[],ws,bs,_,h=>by simp only [zU] at h; exact h.2
 |e::es,ws,bs,hf,h=>by
  simp only [zU] at h
  obtain ⟨w1,w2,b1,b2,rfl,rfl,h3,h4⟩:=h
  have e1:=zH.frees (fun d hd=>List.all_eq_true.1 (hf e (by simp)) d hd) h3
  have e2:=zHL (fun e he=>hf e (by simp [he])) h4
  rw [e1,e2]
  rfl
theorem zL9 {c:Cert} {x y:Operand} {T U el e':TypeId} {t td ts n m z bytes off:Nat} {cd:Option Nat} {zv:Value} {xs ys:List (List D)} (hg:o.guard=none)
  (hop:o.op= .call {callee:=.builtin .append,args:= #[x,y],argTypes:= #[T,U]}) (hc:c= {tn:=c.tn,hn:=c.hn,out:=some (.rf t 0 (n+m) none),hx:=[td],hw:=[(t,.row z (xs++(ys.drop off).take m))],fr:=[t]})
  (hm:Γ.m≤t) (hx:OpF c x (.rf td 0 n cd)) (hy:OpF c y (.sub ts off m)) (hxr:(td,.row z xs)∈c.hn) (hyr:(ts,.row z ys)∈c.hn) (hlx:xs.length=n) (hle:off+m≤ys.length)
  (hT:Γ.P.underlying T=some (.slice el)) (hU:Γ.P.underlying U=some (.slice e')) (hinfo:(Γ.P.info? el).map (fun i=>(i.zero,i.size,i.bytes))=some (some zv,z,bytes)) (hzs:zv.cells.size=z)
  (hone:∀e∈ys,e.all zCl=true) (hfree:∀e∈ys,e.all D.free=true) (hbig:(n+m)*bytes≤140737488355328) (h62:n+m≤4611686018427387904):Valid Γ ops o c:=by
 intro σ a w Q hdst hn ⟨h0,β,bs,hr⟩
 have hwt:Region.wanted o (yielded ops a.tmps)=true:=by simp [Region.wanted,hg]
 rw [if_pos hwt]
 have hfr:t∉σ.us:=hn.2.2 t (by rw [hc]; simp)
 obtain ⟨b1,bk,p1,hE1,hrest⟩:=uO.take hr.hp hr.keys (hn.2.1 _ hxr)
 obtain ⟨wx,hD,hEx,hzx⟩:=zIr (OpF.rep hx hn hr) hE1 hlx
 have hyv:=OpF.rep hy hn hr
 simp only [Rep] at hyv
 obtain ⟨_,_,ad,cap,hv,hcap,hcase⟩:=hyv
 obtain ⟨b2,⟨hLz,hzz,hrow⟩,_,_⟩:=uO.get hr.hp (hn.2.1 _ hyr)
 have hzy:∀e∈(ys.drop off).take m,e.length=z:=fun e he=>hzz e (List.mem_of_mem_drop (List.mem_of_mem_take he))
 have hly:((ys.drop off).take m).length =m:=by simp; omega
 have hone':∀e∈(ys.drop off).take m,e.all zCl=true:=fun e he=>hone e (List.mem_of_mem_drop (List.mem_of_mem_take he))
 obtain ⟨wy,hEy,hS⟩:∃wy,zU β (NS Γ w bs) w ((ys.drop off).take m) wy []∧((a.eval y= .slice ad m cap∧m=0∧wy=[])∨∃b off c,a.eval y= .slice (some ⟨b,off,none⟩) m c∧Has w b off wy∧wy.length=m*z):=by
  rcases hcase with rfl|⟨hnil,rfl,hroom⟩
  ·exact ⟨[],by simp [zU],.inl ⟨hv,rfl,rfl⟩⟩
  ·rcases hrow with ⟨hnil',_⟩|⟨_,ws,hO,hE⟩
   ·rw [hnil] at hnil'; cases hnil'
   have:=zHL hfree hE
   subst this
   have q2:=(zU.sub m (zU.sub off hE hzz).2 (fun e he=>hzz e (List.mem_of_mem_drop he))).1
   refine ⟨_,q2,.inr ⟨_,_,cap,hv,?_,?_⟩⟩
   ·rw [hLz]; exact hO.has.sub (off*z) (m*z)
   ·rw [q2.length hzy,hly]
 have hsrc:Go.Src Γ.P z U (a.eval y) m wy w:=by
  rcases hS with ⟨h1,h2,h3⟩|h
  ·rw [h1]
   subst h2; subst h3
   cases ad with
   |none=>exact Src.ofNil w hU cap
   |some ad=>exact Src.ofSlice w hU ad 0 cap [] (by simp) (by simp) (by simp)
  ·exact zEW hU (zE9 hone' hEy) (.inr h)
 obtain ⟨r,w1,hrun,hA⟩:=zE4 (ty:=o.type) hT hinfo hzs hD hsrc hbig h62
 have hex:(execOp a.eval o).run Γ.P w= .ok (.value r) w1:=by
  rw [zAm hop]
  simp only [builtin,List.map_toArray,List.map_cons,List.map_nil]
  exact run_bind_ok hrun
 unfold Oper.wp
 rw [hex,Oper.upon_value]
 refine zE7 (b1:=b1) (b2:=[]) (bx:=[]) (bk:=bk) (blk:=(β td).own) h0 hr hdst (by rw [hc]) hfr hm ?_ ?_ hEx hEy hzx hzy hlx hly hA (by rw [hc])
 ·simpa using p1
 ·rw [hc]
  rw [←zHb] at hrest
  exact hrest
theorem zPb {α:Type} {xs ys r zs:List α} {l hi:Int} (T U el e' z bytes t td ts:Nat) (enc:α→List D) (x y:Operand) (hs:zEE ys l hi=some r) (h:app bytes xs r=some zs) (hx:OkO x (.rf td 0 xs.length none):=by trivial) (hy:OkO y (.sub ts l.toNat r.length):=by trivial)
  (hone:∀a,(enc a).all zCl=true:=by intro _; rfl) (hfree:∀a,(enc a).all D.free=true:=by intro _; rfl) (hT:(Γ.P.underlying T,Γ.P.underlying U,zIv Γ.P el,(zHS Γ.P el).cells.size,Nat.ble Γ.m t)=(some (.slice el),some (.slice e'),some (some (zHS Γ.P el),z,bytes),z,true):=by kernel_rfl):
  OpV Γ (.call {callee:=.builtin .append,args:= #[x,y],argTypes:= #[T,U]}) {tn:=tnO x (.rf td 0 xs.length none)++tnO y (.sub ts l.toNat r.length),hn:=[(td,rE z enc xs),(ts,rE z enc ys)],out:=some (.rf t 0 zs.length none),hx:=[td],hw:=[(t,rE z enc zs)],fr:=[t]}:=by
 simp only [Prod.mk.injEq] at hT
 obtain ⟨h1,h2,h3,h4,h5⟩:=hT
 obtain ⟨q1,q2,q3,q4,q5⟩:=zGB hs
 obtain ⟨rfl,g1,g2⟩:=zGr h
 intro ops o hop hg
 refine zL9 (xs:=xs.map enc) (ys:=ys.map enc) (m:=r.length) (off:=l.toNat) (n:=xs.length) hg hop ?_ (Nat.le_of_ble_eq_true h5) (hx.f (fun y hy=>List.mem_append_left _ hy)) (hy.f (fun y hy=>List.mem_append_right _ hy)) (.head _) (.tail _ (.head _)) (by simp) (by rw [List.length_map]; omega) h1 h2 h3 h4 ?_ ?_ g1 g2
 ·congr 1
  ·simp
  ·show [(t,Ent.row z ((xs++r).map enc))]=_
   rw [List.map_append,←List.map_drop,←List.map_take,q5,←q4]
 ·intro e he
  obtain ⟨a,_,rfl⟩:=List.mem_map.1 he
  exact hone a
 ·intro e he
  obtain ⟨a,_,rfl⟩:=List.mem_map.1 he
  exact hfree a
end
end Go.Im
set_option linter.unusedVariables false
namespace Go.Im
open Go
section
variable {Γ:Ctx} {ops:Array Oper} {o:Oper}
end
end Go.Im
set_option linter.unusedVariables false
namespace Go.Im
open Go
theorem zN1 {P:Program} {f:FuncId} {xs:List ByteArray}
  (h:∀(blk off cap:Nat) (w:World),Sort.Holds Go.Proofs.encStr w blk off (xs.map (·.data.toList)).toArray →blk<w.heap.size→Calls P f #[.slice (some ⟨blk,off,none⟩) xs.length cap] w fun e w'=>e= .returned (.tuple #[])∧∃n os,w'=Sort.grow (Sort.putRow Go.Proofs.encStr (Sort.ahead w n) blk off ((xs.map (·.data.toList)).mergeSort fun x y=>decide (x≤y)).toArray) os)
  (h0:∀(p:Option Addr) (cap:Nat) (w:World),Calls P f #[.slice p 0 cap] w fun e w'=>e= .returned (.tuple #[])∧w'=w):
  Ok P f [.rf 0 0 xs.length none] [.row 1 (xs.map eStr)] (some (.tu [],[.row 1 ((((xs.map (·.data.toList)).mergeSort fun x y=>decide (x≤y)).map fun l=>(⟨l.toArray⟩:ByteArray)).map eStr)])):=by
 have k:=zMA (P:=P) (f:=f) (enc:=Go.Proofs.encStr) (xs:=xs.map (·.data.toList)) (ys:=(xs.map (·.data.toList)).mergeSort fun x y=>decide (x≤y)) (by simp [List.length_mergeSort])
  (fun blk off cap w hH hb=>by rw [List.length_map]; exact h blk off cap w hH hb) (fun _ p cap w=>h0 p cap w)
 have e1:(xs.map (·.data.toList)).map (fun a=>[D.sc (Go.Proofs.encStr a)])=xs.map eStr:=by
  rw [List.map_map]
  apply List.map_congr_left
  intro a _
  simp [eStr,Go.Proofs.encStr]
 have e2:∀l:List (List UInt8),l.map (fun a=>[D.sc (Go.Proofs.encStr a)])=(l.map fun l=>(⟨l.toArray⟩:ByteArray)).map eStr:=fun l=>by
  rw [List.map_map]
  apply List.map_congr_left
  intro a _
  simp [eStr,Go.Proofs.encStr]
 rw [e1,e2,List.length_map] at k
 exact k
end Go.Im
set_option linter.unusedVariables false
namespace Go.Im
open Go
end Go.Im
set_option linter.unusedVariables false
namespace Go.Im
open Go
end Go.Im
set_option linter.unusedVariables false
namespace Go.Im
open Go
def lnC:D→D
 | .s _ _ n _=>.ln n
 |d=>d
section
variable {Γ:Ctx} {ops:Array Oper} {o:Oper}
theorem Rep.lnC {β:Nat→Loc} {N:Nat→Prop} {w:World}:∀{d:D} {v:Value} {bs:List Nat},Rep β N w false d v bs→Rep β N w true (lnC d) v []
 | .s o z n xs,v,bs,h=>by
  simp only [Rep] at h
  obtain ⟨_,_,a,cap,h3,h4,_⟩:=h
  simp only [Im.lnC,Rep]
  exact ⟨trivial,a,cap,h3,h4⟩
 | .sc _,v,bs,h=>by simp only [Rep,Im.lnC] at h ⊢; exact ⟨h.1,trivial⟩
 | .rf _ _ _ _,v,bs,h=>by simp only [Rep] at h; exact absurd h.1 (by simp)
 | .pt _ _ _,v,bs,h=>by simp only [Rep] at h; exact absurd h.1 (by simp)
 | .ps cs,v,bs,h=>by simp only [Rep,Im.lnC] at h ⊢; exact ⟨trivial,h.2⟩
 | .fn _ _,v,bs,h=>by simp only [Rep] at h; exact absurd h.1 (by simp)
 | .ag _,v,bs,h=>by simp only [Rep] at h; exact absurd h.1 (by simp)
 | .tu _,v,bs,h=>by simp only [Rep] at h; exact absurd h.1 (by simp)
 | .un,v,bs,h=>by simp only [Rep,Im.lnC] at h ⊢; exact ⟨h.1,trivial⟩
 | .nb _,v,bs,h=>by simp only [Rep,Im.lnC] at h ⊢; exact ⟨trivial,h.2⟩
 | .sub _ _ _,v,bs,h=>by simp only [Rep] at h; exact absurd h.1 (by simp)
 | .fb _ _,v,bs,h=>by simp only [Rep] at h; exact absurd h.1 (by simp)
 | .pb _,v,bs,h=>by simp only [Rep] at h; exact absurd h.1 (by simp)
 | .ln _,v,bs,h=>by simp only [Rep,Im.lnC] at h ⊢; exact ⟨trivial,h.2⟩
 | .po _,v,bs,h=>by simp only [Rep] at h; exact absurd h.1 (by simp)
 | .cw _ _,v,bs,h=>by simp only [Rep] at h; exact absurd h.1 (by simp)
 | .cp _ _,v,bs,h=>by simp only [Rep] at h; exact absurd h.1 (by simp)
theorem zH.lnC {β:Nat→Loc} {N:Nat→Prop} {w:World}:∀{ds:List D} {ws:List Value} {bs:List Nat},zH β N w false ds ws bs→zH β N w true (ds.map Im.lnC) ws []
 |[],ws,bs,h=>by simp only [zH,List.map_nil] at h ⊢; exact ⟨h.1,trivial⟩
 |d::ds,ws,bs,h=>by
  simp only [zH,List.map_cons] at h ⊢
  obtain ⟨v,vs,b1,b2,h1,_,h3,h4⟩:=h
  exact ⟨v,vs,[],[],h1,rfl,Rep.lnC h3,zH.lnC h4⟩
theorem zM6 {c:Cert} {x:Operand} {T:TypeId} {z t i j:Nat} {xs:List (List D)} {e:List D} {d:D} (hg:o.guard=none) (hop:o.op= .load T x) (hc:c= {tn:=c.tn,hn:=c.hn,out:=some d})
  (hx:OpF c x (.pt t i j)) (hh:(t,.row z xs)∈c.hn) (he:xs[i]? =some e) (ho:((e.drop j).map lnC).all zCl=true)
  (hd:zBt Γ.P T ((e.drop j).map lnC)=some d):Valid Γ ops o c:=by
 refine jL (d:=d) (f:=fun ρ=>Instr.loadAt T (ρ x)) hg (fun ρ=>by simp [execOp,hop]) (by rw [hc]) fun β bs σ a w hn hr=>?_
 have h1:=OpF.rep hx hn hr
 simp only [Rep] at h1
 obtain ⟨b1,⟨hLz,hzz,hrow⟩,_,_⟩:=uO.get hr.hp (hn.2.1 _ hh)
 rcases hrow with ⟨_,rfl,_⟩|⟨hnil,ws,hO,hE⟩
 ·simp at he
 ·obtain ⟨b2,b3,b4,_,h4,_,_⟩:=zU.get hE hzz he
  obtain ⟨b5,b6,_,_,h6⟩:=h4.split j
  have h7:=h6.lnC
  have hone:=zET ho h7
  obtain ⟨v,h8,h9⟩:=zDa hd ((hO.cells (i*z) z).drop j) hone h7
  refine ⟨v,?_,h9⟩
  rw [h1.2.2.2,hLz]
  exact h8
theorem zPB {α:Type} {xs:List α} {i:Int} {a:α} {d:D} (T z t j:Nat) (enc:α→List D) (x:Operand) (h:idx xs i=some a) (hd:((((enc a).drop j).map lnC).all zCl,zBt Γ.P T (((enc a).drop j).map lnC))=(true,some d)) (hx:OkO x (.pt t i.toNat j):=by trivial):
  OpV Γ (.load T x) {tn:=tnO x (.pt t i.toNat j),hn:=[(t,rE z enc xs)],out:=some d}:=by
 simp only [Prod.mk.injEq] at hd
 obtain ⟨_,h2⟩:=zDN h
 intro ops o hop hg
 exact zM6 (xs:=xs.map enc) (e:=enc a) hg hop rfl (hx.f (fun y hy=>hy)) (.head _) (by rw [List.getElem?_map,h2]; rfl) hd.1 hd.2
end
end Go.Im
set_option linter.unusedVariables false
namespace Go.Im
open Go
theorem FzT.all {t z:Nat} {xs:List (List D)}:∀{l:List (Nat×D)},(∀x∈l,x.2.men.contains t=false)→FzT t z xs l l
 |[],_=>.nil
 |(q,d)::l,h=>.cons (.keep (h (q,d) (by simp))) (FzT.all fun x hx=>h x (by simp [hx]))
theorem FzH.all {t z:Nat} {xs:List (List D)}:∀{l:List (Nat×Ent)},(∀x∈l,x.2.men.contains t=false)→FzH t z xs l l
 |[],_=>.nil
 |(q,e)::l,h=>.keep (h (q,e) (by simp)) (FzH.all fun x hx=>h x (by simp [hx]))
theorem zFK {α:Type} {xs:List α} {ix:Int} {x:α} (h:idx xs ix=some x):xs.set ix.toNat x=xs:=by
 unfold idx at h
 split at h
 ·obtain ⟨h1,h2⟩:=List.getElem?_eq_some_iff.1 h
  subst h2
  exact List.set_getElem_self h1
 ·cases h
end Go.Im
set_option linter.unusedVariables false
namespace Go.Im
open Go
def zMS (a b:Int):Option Int:=if b=0 then none else some (a.tmod b)
def zOG (k:IntKind) (a b:Int):Option Int:=if b=0 then none else some (k.wrap (a.tdiv b))
def zPa (k:IntKind) (a b:Int):Option Int:=if b<0 then none else some (a.fdiv (2^(min b.toNat k.bits)))
def zOX (k:IntKind) (a b:Int):Option Int:=if b<0 then none else some (k.wrap (a*2^(min b.toNat k.bits)))
def zPk (k:IntKind) (a b:Int):Int:=k.wrap ((BitVec.ofInt k.bits a&&& BitVec.ofInt k.bits b).toNat :Int)
section
variable {Γ:Ctx} {ops:Array Oper} {o:Oper}
theorem zLN {op:BinOp} {k k2:IntKind} {a b r:Int} (T U:Nat) (x y:Operand) (hne:op≠ .eql ∧op≠ .neq) (h:∀w,(binOp op T (.int k a) (.int k2 b)).run Γ.P w= .ok (.int k r) w)
  (hx:OkO x (.sc (.int k a))) (hy:OkO y (.sc (.int k2 b))):
  OpV Γ (.binOp op T x y U) {tn:=tnO x (.sc (.int k a))++tnO y (.sc (.int k2 b)),out:=some (.sc (.int k r))}:=by
 intro ops o hop hg
 refine jL (d:=.sc (.int k r)) (f:=fun ρ=>do eqGuard op T x y (ρ x) (ρ y); binOp op T (ρ x) (ρ y)) hg (fun ρ=>by simp [execOp,hop]) rfl fun β bs σ a' w hn hr=>?_
 have h1:=OpF.rep (hx.f (fun y hy=>List.mem_append_left _ hy)) hn hr
 have h2:=OpF.rep (hy.f (fun y hy=>List.mem_append_right _ hy)) hn hr
 simp only [Rep] at h1 h2
 refine ⟨_,?_,by simp only [Rep]; exact ⟨rfl,trivial⟩⟩
 rw [h1.1,h2.1]
 have e:(eqGuard op T x y (.int k a) (.int k2 b)).run Γ.P w= .ok () w:=by
  obtain ⟨n1,n2⟩:=hne
  cases op<;>first|rfl|exact absurd rfl n1|exact absurd rfl n2
 rw [run_bind_ok e]
 exact h w
theorem zNp {k:IntKind} {a b r:Int} (T U:Nat) (x y:Operand) (h:zMS a b=some r) (hx:OkO x (.sc (.int k a)):=by first|trivial|rfl) (hy:OkO y (.sc (.int k b)):=by first|trivial|rfl):
  OpV Γ (.binOp .rem T x y U) {tn:=tnO x (.sc (.int k a))++tnO y (.sc (.int k b)),out:=some (.sc (.int k r))}:=by
 refine zLN T U x y (by decide) (fun w=>?_) hx hy
 unfold zMS at h
 split at h
 ·cases h
 ·cases h
  unfold binOp
  simp only [ne_eq,not_true_eq_false,if_false,Op.intDiv]
  rw [if_neg (by assumption)]
  rfl
theorem zPC {k:IntKind} {a b r:Int} (T U:Nat) (x y:Operand) (h:zOG k a b=some r) (hx:OkO x (.sc (.int k a)):=by first|trivial|rfl) (hy:OkO y (.sc (.int k b)):=by first|trivial|rfl):
  OpV Γ (.binOp .quo T x y U) {tn:=tnO x (.sc (.int k a))++tnO y (.sc (.int k b)),out:=some (.sc (.int k r))}:=by
 refine zLN T U x y (by decide) (fun w=>?_) hx hy
 unfold zOG at h
 split at h
 ·cases h
 ·cases h
  unfold binOp
  simp only [ne_eq,not_true_eq_false,if_false,Op.intDiv]
  rw [if_neg (by assumption)]
  rfl
theorem zPR {k k2:IntKind} {a b r:Int} (T U:Nat) (x y:Operand) (h:zPa k a b=some r) (hx:OkO x (.sc (.int k a)):=by first|trivial|rfl) (hy:OkO y (.sc (.int k2 b)):=by first|trivial|rfl):
  OpV Γ (.binOp .shr T x y U) {tn:=tnO x (.sc (.int k a))++tnO y (.sc (.int k2 b)),out:=some (.sc (.int k r))}:=by
 refine zLN T U x y (by decide) (fun w=>?_) hx hy
 unfold zPa at h
 split at h
 ·cases h
 ·cases h
  unfold binOp
  simp only [Op.shift]
  rw [if_neg (by assumption)]
  rfl
theorem zP8 {k k2:IntKind} {a b r:Int} (T U:Nat) (x y:Operand) (h:zOX k a b=some r) (hx:OkO x (.sc (.int k a)):=by first|trivial|rfl) (hy:OkO y (.sc (.int k2 b)):=by first|trivial|rfl):
  OpV Γ (.binOp .shl T x y U) {tn:=tnO x (.sc (.int k a))++tnO y (.sc (.int k2 b)),out:=some (.sc (.int k r))}:=by
 refine zLN T U x y (by decide) (fun w=>?_) hx hy
 unfold zOX at h
 split at h
 ·cases h
 ·cases h
  unfold binOp
  simp only [Op.shift]
  rw [if_neg (by assumption)]
  rfl
theorem zPD {k:IntKind} {a b:Int} (T U:Nat) (x y:Operand) (hx:OkO x (.sc (.int k a)):=by first|trivial|rfl) (hy:OkO y (.sc (.int k b)):=by first|trivial|rfl):
  OpV Γ (.binOp .and T x y U) {tn:=tnO x (.sc (.int k a))++tnO y (.sc (.int k b)),out:=some (.sc (.int k (zPk k a b)))}:=by
 refine zLN T U x y (by decide) (fun w=>?_) hx hy
 unfold binOp
 simp only [ne_eq,not_true_eq_false,if_false,Op.intBits]
 rfl
end
end Go.Im

import Derived.Test.YtlagdfkkokgakaaGreatDoorImE
import Derived.Laws.StructEq
import Derived.Sort.Row
import Derived.Sort.Grow
import Derived.Lib.LaidTab
import Derived.Lib.ItoaNum
import Derived.Deep.Draws
import Derived.LaidSub
import Derived.Below
import Derived.Lib.Split
import Derived.Lib.Join
import Derived.Lib.Repeat
import Derived.Handed
import Derived.Shelf.Vars
import Derived.Lib.SplitLaws
import Derived.Lib.ConvBytes
import Derived.Sort.EncStr
import Derived.Laws.IdiomCopy
set_option linter.unusedVariables false
namespace Go.Im
open Go
def mkV (P:Program) (t:TypeId) (xs:List Value):Option Value:=match zBF P t with
 |some true=>some (.agg xs.toArray)
 |some false=>xs.head?
 |none=>none
def zJk (P:Program) (g:TypeId→List Value→List Value→Option Bool) (xs ys:List Value):List Field→Option Bool
 |[]=>some true
 |f::fs=>if f.name= "_" then none else match zCa P f.type with
  |some z=>match g f.type ((xs.drop f.offset).take z) ((ys.drop f.offset).take z),zJk P g xs ys fs with
   |some a,some r=>some (a&&r)
   |_,_=>none
  |none=>none
def eqT (P:Program):Nat→TypeId→List Value→List Value→Option Bool
 |0,_,_,_=>none
 |d+1,t,xs,ys=>match P.underlying t with
  |some (.struct fs)=>if P.stoodInHeld t=false∧zBF P t=some true then zJk P (eqT P d) xs ys fs.toList else none
   |some (.int _)=>match zBF P t,xs,ys with
   |some false,.int k1 a::_,.int k2 b::_=>if k1=k2 then some (a==b) else none
   |_,_,_=>none
  |some .bool =>match zBF P t,xs,ys with
   |some false,.bool a::_,.bool b::_=>some (a==b)
   |_,_,_=>none
  |some .string =>match zBF P t,xs,ys with
   |some false,.string a::_,.string b::_=>some (a.toList==b.toList)
   |_,_,_=>none
  |_=>none
theorem zHj {P:Program} {w:World} {t:TypeId} {cs:List Value} {off z:Nat} {v:Value} (hz:zCa P t=some z) (hz0:zBF P t=some false→0<z) (h:mkV P t ((cs.drop off).take z)=some v):(part t cs.toArray off).run P w= .ok v w:=by
 unfold mkV at h
 unfold part
 split at h
 ·rename_i ha
  cases h
  rw [run_bind_ok (zJ _ _ w ha)]
  simp only [if_true]
  rw [run_bind_ok (zJ _ _ w hz)]
  have:(cs.toArray.extract off (off+z))=((cs.drop off).take z).toArray :=by
   apply Array.ext'
   simp [List.take_drop]
  rw [this]
  rfl
 ·rename_i ha
  rw [run_bind_ok (zJ _ _ w ha)]
  simp only [Bool.false_eq_true,if_false]
  have:cs.toArray[off]? =some v:=by
   rw [List.head?_take,if_neg (by have:=hz0 ha; omega),List.head?_drop] at h
   simpa using h
  rw [this]
  rfl
 ·cases h
theorem zG8 {P:Program}:∀(d k:Nat) (t:TypeId) (xs ys:List Value) (vx vy:Value) (r:Bool) (w:World),eqT P d t xs ys=some r→mkV P t xs=some vx→mkV P t ys=some vy→(Op.equalIn (d+k) t vx vy).run P w= .ok r w
 |0,k,t,xs,ys,vx,vy,r,w,h,_,_=>by simp [eqT] at h
 |d+1,k,t,xs,ys,vx,vy,r,w,h,hx,hy=>by
  rw [show d+1+k=(d+k)+1 by omega]
  unfold eqT at h
  unfold mkV at hx hy
  split at h
  ·rename_i fs hfs
   split at h
   ·rename_i hc
    rw [hc.2] at hx hy
    cases hx
    cases hy
    have hff:P.fieldsOf t=fs:=by unfold Program.fieldsOf; rw [hfs]
    rw [run_equalIn_struct w (d+k) t _ _ (by rw [hff]; exact hfs) hc.1,hff]
    have key:∀(l:List Field) (r:Bool),zJk P (eqT P d) xs ys l=some r→(Op.eqFields (d+k) xs.toArray ys.toArray l).run P w= .ok r w:=by
     intro l
     induction l with
     |nil=>intro r h; cases h; rfl
     |cons f l ih=>
      intro r h
      unfold zJk at h
      split at h
      ·cases h
      ·rename_i hnm
       split at h
       ·rename_i z hz
        split at h
        ·rename_i a q ha hq
         cases h
         have hmk:∀(cs:List Value),(∃a l',(cs.drop f.offset).take z=a::l')∨zBF P f.type=some true→zBF P f.type≠none→∃v,mkV P f.type ((cs.drop f.offset).take z)=some v∧(part f.type cs.toArray f.offset).run P w= .ok v w:=by
          intro cs hcs hne
          have:∃v,mkV P f.type ((cs.drop f.offset).take z)=some v:=by
           unfold mkV
           rcases hcs with ⟨a,l',e⟩|e
           ·cases hag:zBF P f.type with
            |none=>exact absurd hag hne
            |some b=>cases b<;>simp [e]
           ·rw [e]; exact ⟨_,rfl⟩
          obtain ⟨v,hv⟩:=this
          refine ⟨v,hv,zHj hz (fun hf=>?_) hv⟩
          rcases Nat.eq_zero_or_pos z with e|e
          ·subst e
           unfold mkV at hv
           rw [hf] at hv
           simp at hv
          ·exact e
         have hsh:zBF P f.type≠none∧((∃a l',(xs.drop f.offset).take z=a::l')∨zBF P f.type=some true)∧((∃a l',(ys.drop f.offset).take z=a::l')∨zBF P f.type=some true):=by
          cases d with
          |zero=>simp [eqT] at ha
          |succ d=>
           unfold eqT at ha
           split at ha
           ·split at ha
            ·rename_i hc'
             exact ⟨by rw [hc'.2]; simp,.inr hc'.2,.inr hc'.2⟩
            ·cases ha
           all_goals first
            |(split at ha
              ·rename_i g1 g2 g3
               exact ⟨by rw [g1]; simp,.inl ⟨_,_,g2⟩,.inl ⟨_,_,g3⟩⟩
              ·cases ha)
            |cases ha
         obtain ⟨va,m1,p1⟩:=hmk xs hsh.2.1 hsh.1
         obtain ⟨vb,m2,p2⟩:=hmk ys hsh.2.2 hsh.1
         have he:=zG8 d k f.type _ _ va vb a w ha m1 m2
         unfold Op.eqFields
         rw [if_pos (by simpa using hnm),run_bind_ok p1,run_bind_ok p2,run_bind_ok he]
         cases a
         ·rfl
         ·simp only [Bool.not_true,Bool.false_eq_true,if_false,Bool.true_and]
          exact ih q hq
        ·cases h
       ·cases h
    exact key _ _ h
   ·cases h
  ·rename_i kk hu
   split at h
   ·rename_i hag
    rw [hag] at hx hy
    cases hx
    cases hy
    split at h
    ·rename_i e
     subst e
     cases h
     exact run_equalIn_int w (d+k) t _ _ _ _ hu
    ·cases h
   ·cases h
  ·rename_i hu
   split at h
   ·rename_i hag
    rw [hag] at hx hy
    cases hx
    cases hy
    cases h
    exact run_equalIn_bool' w (d+k) t _ _ hu
   ·cases h
  ·rename_i hu
   split at h
   ·rename_i hag
    rw [hag] at hx hy
    cases hx
    cases hy
    cases h
    exact run_equalIn_string w (d+k) t _ _ hu
   ·cases h
  ·cases h
section
variable {Γ:Ctx} {ops:Array Oper} {o:Oper}
theorem zCf {β:Nat→Loc} {N:Nat→Prop} {w:World} {top:Bool}:∀{us ws:List Value} {bs:List Nat},zF β N w top (us.map D.sc) ws bs→ws=us
 |[],ws,bs,h=>by simp only [List.map_nil,zF] at h; exact h.1
 |u::us,ws,bs,h=>by
  simp only [List.map_cons,zF,Rep] at h
  obtain ⟨v,vs,b1,b2,rfl,_,h3,h4⟩:=h
  rw [h3.1,zCf h4]
theorem zFa {P:Program} {w:World} {b:BinOp} {T:TypeId} {x y:Operand} {xs ys:Array Value} (h:P.eqGuardType P.depth T=false):(eqGuard b T x y (.agg xs) (.agg ys)).run P w= .ok () w:=by
 have key:(do
   let __do_lift ←program
   let __do_lift_1 ←program
   if (!__do_lift.eqGuardType __do_lift_1.depth T)=true then pure ()
   else do
    let __do_lift ←Op.eqGuardIn Op.maxDepth T (Value.agg xs) (Value.agg ys)
    if __do_lift=true then unsupported (.noEntry "binop/eql: two nil values of an interface type with methods, in a part of a struct or an array") else pure ():Sem Unit).run P w= .ok () w:=by
  rw [run_bind_ok (a:=P) (w':=w) rfl]
  rw [run_bind_ok (a:=P) (w':=w) rfl]
  rw [h]
  rfl
 unfold eqGuard
 split
 ·exact key
 ·exact key
 ·rfl
theorem zIW {c:Cert} {b:BinOp} {x y:Operand} {T U:TypeId} {us vs:List Value} {d:Nat} {r q:Bool} (hg:o.guard=none) (hop:o.op= .binOp b T x y U) (hb:(b= .eql ∧q=r)∨(b= .neq ∧q= !r)) (hc:c= {tn:=c.tn,out:=some (.sc (.bool q))})
  (hx:OpF c x (.ag (us.map D.sc))) (hy:OpF c y (.ag (vs.map D.sc))) (hagg:zBF Γ.P T=some true) (hgt:Γ.P.eqGuardType Γ.P.depth T=false) (hd:d≤10000) (he:eqT Γ.P d T us vs=some r):Valid Γ ops o c:=by
 refine tX (d:=.sc (.bool q)) (f:=fun ρ=>do eqGuard b T x y (ρ x) (ρ y); binOp b T (ρ x) (ρ y)) hg (fun ρ=>by simp [execOp,hop]) (by rw [hc]) fun β bs σ a w hn hr=>?_
 have h1:=OpF.rep hx hn hr
 have h2:=OpF.rep hy hn hr
 simp only [Rep] at h1 h2
 obtain ⟨_,w1,e1,_,r1⟩:=h1
 obtain ⟨_,w2,e2,_,r2⟩:=h2
 rw [zCf r1] at e1
 rw [zCf r2] at e2
 refine ⟨.bool q,?_,by simp [Rep]⟩
 rw [e1,e2]
 rw [run_bind_ok (zFa hgt)]
 have hrun:=zG8 d (10000-d) T us vs (.agg us.toArray) (.agg vs.toArray) r w he (by unfold mkV; rw [hagg]) (by unfold mkV; rw [hagg])
 rw [show d+(10000-d)=10000 by omega] at hrun
 rcases hb with ⟨rfl,rfl⟩|⟨rfl,rfl⟩
 ·rw [run_eql_struct,hrun]; rfl
 ·rw [run_neq_struct,hrun]; rfl
theorem zGm {b:BinOp} {q r:Bool} (T U:Nat) (x y:Operand) (us vs:List Value) (hb:(b= .eql ∧q=r)∨(b= .neq ∧q= !r)) (hx:OkO x (.ag (us.map D.sc)):=by trivial) (hy:OkO y (.ag (vs.map D.sc)):=by trivial)
  (hT:(zBF Γ.P T,Γ.P.eqGuardType Γ.P.depth T,eqT Γ.P 4 T us vs)=(some true,false,some r):=by kernel_rfl):
  OpV Γ (.binOp b T x y U) {tn:=tnO x (.ag (us.map D.sc))++tnO y (.ag (vs.map D.sc)),out:=some (.sc (.bool q))}:=by
 simp only [Prod.mk.injEq] at hT
 obtain ⟨h1,h2,h3⟩:=hT
 intro ops o hop hg
 exact zIW hg hop hb rfl (hx.f (fun y hy=>List.mem_append_left _ hy)) (hy.f (fun y hy=>List.mem_append_right _ hy)) h1 h2 (by decide) h3
end
end Go.Im
set_option linter.unusedVariables false
namespace Go.Im
open Go
section
variable {Γ:Ctx} {ops:Array Oper} {o:Oper}
end
end Go.Im
set_option linter.unusedVariables false
namespace Go.Im
open Go
end Go.Im
set_option linter.unusedVariables false
namespace Go.Im
open Go
theorem zHm {P:Program} {w:World} {name:String} {g:Nat} {k:IntKind} {zs:List Int} (hG:∀q∈zHd P,Tab w q.1 q.2) (hn:P.globalNamed name=some g) (hl:lk (zHd P) g=some (· =zs.map fun z=>Value.int k z)):Lib.TabIs P w name k zs:=by
 obtain ⟨ws,e,fz,h,rfl⟩:=hG _ (vH hl)
 unfold Lib.TabIs World.var?
 rw [hn]
 simp only [Option.bind_some]
 rw [h]
theorem zHK {P:Program} {f:FuncId} {vs:List Value} {v:Value} (h:∀w,(∀q∈zHd P,Tab w q.1 q.2)→Calls P f vs.toArray w fun e w'=>e= .returned v∧w'.os=w.os∧w'.output=w.output∧w.heap.size≤w'.heap.size∧∀b,b<w.heap.size→w'.heap[b]? =w.heap[b]?):Ok P f (vs.map D.sc) [] (some (.sc v,[])):=by
 intro out ho w N β us bs ha hh hnd hlt hN hG
 cases ho
 obtain ⟨rfl,_⟩:=zCI ha
 refine (h w (fun q hq=>(hG q hq).2)).mono ?_
 rintro e w' ⟨rfl,h1,h2,h3,h4⟩
 exact ⟨v,[],[],rfl,⟨h1,h2⟩,h3,fun b hb _=>h4 b hb,by simp,by simp,by simp [Rep],rfl⟩
theorem zIk {P:Program} {f:FuncId} {vs:List Value} {v:Value} (h:∀w,(∀q∈zHd P,Tab w q.1 q.2)→Calls P f vs.toArray w fun e w'=>e= .returned v∧∃k os,w'=Sort.grow (w.drewN k) os):Ok P f (vs.map D.sc) [] (some (.sc v,[])):=by
 refine zHK fun w hG=>(h w hG).mono ?_
 rintro e w' ⟨rfl,k,os,rfl⟩
 refine ⟨rfl,rfl,rfl,?_,fun b hb=>?_⟩
 ·show w.heap.size≤(w.heap++os).size
  rw [Array.size_append]
  exact Nat.le_add_right _ _
 ·show (w.heap++os)[b]? =w.heap[b]?
  rw [Array.getElem?_append_left hb]
end Go.Im
set_option linter.unusedVariables false
namespace Go.Im
open Go
theorem zEs {P:Program} {w:World} {name:String} {g:Nat} {k:IntKind} {zs:List Int} (h:Lib.TabIs P w name k zs) (hn:P.globalNamed name=some g):g<w.heap.size∧Tab w g (· =zs.map fun z=>Value.int k z):=by
 unfold Lib.TabIs World.var? at h
 rw [hn] at h
 simp only [Option.bind_some] at h
 split at h
 ·rename_i cs e fz hh
  cases h
  exact ⟨(Array.getElem?_eq_some_iff.1 hh).1,_,e,fz,hh,rfl⟩
 ·cases h
theorem zBQ {P:Program} {w:World} {l:List (String×DataW Unit)} {name:String} {g n:Nat} {t e:TypeId} {k:IntKind} {zs:List Int} (h:laidMet P l w) (hl:l.filter (fun x=>x.1==name)=[(name,Lib.tabData k zs)])
  (hg:P.globalNamed name=some g) (hty:(P.globals[g]?).map (·.type)=some t) (ht:P.underlying t=some (.array n e)) (he:P.underlying e=some (.int k)) (hce:P.cellsOf e=1) (hct:P.cellsOf t=n):g<w.heap.size∧Tab w g (· =zs.map fun z=>Value.int k z):=by
 have h2:=h.filter (fun x=>x.1==name)
 rw [hl] at h2
 exact zEs (Lib.tabIs_of_head hg hty ht he hce hct h2) hg
end Go.Im
set_option linter.unusedVariables false
namespace Go.Im
open Go
section
variable {Γ:Ctx} {fc:Code} {k:List II} {σ:St} {T:Type} {K:T→Option (D×List Ent)}
theorem zJ0 {e:Option T} (t:Nat) {z:Nat} {xs xs':List (List D)} {tm:List (Nat×D)} {hp:List (Nat×Ent)} (hx:D.ro.roE xs=xs')
  (hj:J Γ fc k (St.mk' tm ((t,.row z xs')::hp)) e K):J Γ fc k (St.mk' tm ((t,.row z xs)::hp)) e K:=by
 subst hx
 refine zBT (fun a w hr=>?_) hj
 obtain ⟨h0,β,bs,h⟩:=hr
 obtain ⟨b1,bk,rfl,hE,hrest⟩:=h.hp
 obtain ⟨hz,hzz,hrow⟩:=hE
 have hp:((β t).own ++(b1++bk)).Perm (b1++((β t).own ++bk)):=by
  rw [←List.append_assoc,←List.append_assoc]
  exact List.Perm.append_right _ List.perm_append_comm
 have hnd:=hp.nodup_iff.1 h.nodup
 have hsub:∀b∈(β t).own ++([]++bk),b∈(β t).own ++(b1++bk):=fun b hb=>by
  simp only [List.nil_append,List.mem_append] at hb ⊢
  rcases hb with hb|hb
  ·exact .inl hb
  ·exact .inr (.inr hb)
 have hN:∀b,NS Γ w ((β t).own ++(b1++bk)) b→NS Γ w ((β t).own ++([]++bk)) b:=fun b hb=>NS.sub hsub hb
 have hb:∀b∈b1,NS Γ w ((β t).own ++([]++bk)) b:=fun b hb=>by
  have:=h.own b (hp.mem_iff.2 (List.mem_append_left _ hb))
  refine ⟨?_,this.1,fun hbk=>(List.nodup_append.1 hnd).2.2 b hb b hbk rfl⟩
  rcases this.2 with h1|h1
  ·exact .inr (.inl h1)
  ·exact .inr (.inr h1)
 refine ⟨h0,β,(β t).own ++([]++bk),{defers:=h.defers,size:=h.size,keys:=h.keys,par:=h.par,grow:=h.grow,gh:=h.gh,quiet:=h.quiet,keep:=h.keep,hp:=?_,nodup:=?_,own:=fun b hb=>h.own b (hsub b hb),tm:=?_}⟩
 ·refine ⟨[],bk,rfl,⟨hz,fun x hx=>?_,?_⟩,?_⟩
  ·obtain ⟨e',he',rfl⟩:=zBo hx
   rw [zAo]; exact hzz e' he'
  ·rcases hrow with ⟨h1,h2,h3⟩|⟨h1,ws,h2,h3⟩
   ·subst h2; exact .inl ⟨h1,rfl,rfl⟩
   ·exact .inr ⟨h1,ws,h2,zO.ro hN xs ws b1 hb h3⟩
  ·exact xH.frame (fun b hb=>⟨hN b hb,rfl⟩) _ _ (fun _ _=>rfl) (fun _ _=>rfl) hrest
 ·exact (List.nodup_append.1 hnd).2.1
 ·exact zGH.frame (fun b hb=>⟨hN b hb,rfl⟩) (fun _ _=>rfl) h.tm
end
end Go.Im
set_option linter.unusedVariables false
namespace Go.Im
open Go
theorem zHv {P:Program} {f:FuncId} {vs:List Value} {v:Value} (h:∀w,Calls P f vs.toArray w fun e w'=>e= .returned v∧RowKit.Below w.heap.size w w'):Ok P f (vs.map D.sc) [] (some (.sc v,[])):=by
 refine zHK fun w _=>(h w).mono ?_
 rintro e w' ⟨rfl,hb⟩
 exact ⟨rfl,hb.os,hb.output,hb.size,hb.block⟩
end Go.Im
set_option linter.unusedVariables false
namespace Go.Im
open Go Go.Proofs
theorem zEd {P:Program} {w:World} {g:Nat} {t:TypeId} {zero:Array Value} (h:w.ShapedOpen P) (hg:g<P.globals.size)
  (h0:((begin P (fun _ _=>0) default).world.heap[g]?).bind Obj.row? =some (zero,t)) (hz:zero.size=1)
  (hb:P.buildable t=true) (hc:P.cellTypes P.depth t=some [t]) (hu:P.underlying t=some (.int .i64)):g<w.heap.size∧Tab w g (fun ws=>∃m,ws=[.int .i64 m]):=by
 obtain ⟨m,hm⟩:=cell_of_shapedOpen_int h hg h0 hz hb hc hu
 obtain ⟨cs,hh,hs,_⟩:=h.1 g zero t hg h0
 rw [cell_of hh] at hm
 refine ⟨(Array.getElem?_eq_some_iff.1 hh).1,cs.toList,t,_,by simpa using hh,m,?_⟩
 obtain ⟨l⟩:=cs
 match l,hs,hm with
 |[],hs,_=>simp at hs; omega
 |[v],_,hm=>simp at hm; rw [hm]
 |_::_::_,hs,_=>simp at hs; omega
section
variable {H:Type} {enc:TypeId×Value→H}
theorem zBw {a:Assume} {C:Checked} {os:Os} {f:FuncId} {fn:Func} {s:ChangeSpec} {conds:List PathCond} {apart fresh handsOn again:Bool} {X:World→Array Value→Prop}
  (hX:∀(w w':World) (args:Array Value),w.heap=w'.heap→X w args→X w' args) (own:ownKnob C.prog.godebug=none) (started:os.Started) (noInit:C.prog.inits.idxOf? f=none) (hfn:C.prog.funcs[f]? =some fn)
  (witness:∃(w:World) (tape:Tape) (i:Input),w.os=os∧(w.forCall tape i).Shaped C.prog∧i.vars=[]∧Input.okWide C.prog (w.forCall tape i) .any w.heap.size f i∧
   ((s.pre enc C.prog fn conds apart (w.forCall tape i).memory i.args∧X (w.forCall tape i).memory i.args)∧sizedMet enc C.prog fn (OpenSpec.ofChange s) apart (w.forCall tape i).memory i.args)∧a.holds C.prog (lone (Frame.enter C.prog f i.args .normal) [] (w.forCall tape i)))
  (contract:∀(W:World) (base:Nat) (args:Array Value) (ds gs:List (DataW H)) (before:List MemPlace),W.ShapedOpen C.prog→
   (∀(j:Nat) t v,fn.params[j]? =some t→args[j]? =some v→Value.okWide C.prog W .any base t v)→DataW.Whole enc C.prog fn.params.toList s.vars apart W args.toList ds gs before→
   conds.all (PathCond.test C.prog ⟨fn.params.toList,ds,s.plain.varTypes C.prog,gs⟩)=true→(DataW.weightsEach C.prog (fn.params.toList++s.plain.varTypes C.prog) (ds++gs)).all (· ≤reachBytes)=true→X W args→
   a.holds C.prog (lone (Frame.enter C.prog f args .normal) [] W)→Calls C.prog f args W fun e W'=>∃v,e= .returned v∧s.post enc C.prog fn apart fresh handsOn again W args v W'):
  ReturnsInHanded a C os f .any (fun w args=>(s.pre enc C.prog fn conds apart w args∧X w args)∧sizedMet enc C.prog fn (OpenSpec.ofChange s) apart w args) (s.post enc C.prog fn apart fresh handsOn again):=by
 refine returnsInHanded_of_calls own started noInit witness fun w tape i _ hsh _ hok hpre hholds=>?_
 obtain ⟨_,_,_,fn',hfn',_,_,_,_,hval⟩:=hok
 obtain rfl:fn'=fn:=Option.some.inj (hfn'.symm.trans hfn)
 obtain ⟨⟨⟨ds,gs,before,hw,hc⟩,hx⟩,hz⟩:=hpre
 refine (contract (w.forCall tape i) w.heap.size i.args ds gs before hsh hval (DataW.Whole.of_heap (w':=w.forCall tape i) (by rfl) hw) hc (hz.weights hw) (hX _ _ _ (by rfl) hx) hholds).mono fun e W' ⟨v,he,hp⟩=>?_
 subst he
 exact ChangeSpec.post_blind hp
end
end Go.Im
set_option linter.unusedVariables false
namespace Go.Im
open Go
section
variable {Γ:Ctx} {ops:Array Oper} {o:Oper}
end
end Go.Im
set_option linter.unusedVariables false
namespace Go.Im
open Go
section
variable {β:Nat→Loc} {N:Nat→Prop} {w:World}
end
section
variable {Γ:Ctx} {fc:Code} {k:List II} {σ:St} {T:Type} {K:T→Option (D×List Ent)}
end
section
variable {Γ:Ctx} {ops:Array Oper} {o:Oper}
end
end Go.Im
set_option linter.unusedVariables false
namespace Go.Im
open Go
section
variable {Γ:Ctx} {ops:Array Oper} {o:Oper}
end
end Go.Im
set_option linter.unusedVariables false
namespace Go.Im
open Go
def zJF (n:Nat):List Nat→Bool
 |[]=>false
 |m::ms=>Nat.beq n m||zJF n ms
def dl {α:Type} (del:List Nat) (add:List (Nat×α)):List (Nat×α)→List (Nat×α)
 |[]=>add
 |x::l=>match zJF x.1 del with
  |true=>dl del add l
  |false=>x::dl del add l
section
variable {Γ:Ctx} {fc:Code} {k:List II} {σ:St} {T:Type} {K:T→Option (D×List Ent)}
theorem J_d {e:Option T} (p:Nat) (ids:List (Nat×Nat)) (x:List Nat) (y:List (Nat×D)) (x':List Nat) (y':List (Nat×Ent)) {orc:List (Nat×Cert)} (hor:zDt Γ fc p orc) (hj:J Γ fc (aft fc p) (St.mk' (dl x y σ.tm) (dl x' y' σ.hp)) e K)
  (h:(zJq fc σ.tm p k&&Γ.P.follows .mixedOrders,(chk Γ.P Γ.nt Γ.m fc p orc ids σ (dl x y σ.tm) (dl x' y' σ.hp)).1,(chk Γ.P Γ.nt Γ.m fc p orc ids σ (dl x y σ.tm) (dl x' y' σ.hp)).2.2.1,(chk Γ.P Γ.nt Γ.m fc p orc ids σ (dl x y σ.tm) (dl x' y' σ.hp)).2.2.2.2)=
   (true,(chk Γ.P Γ.nt Γ.m fc p orc ids σ (dl x y σ.tm) (dl x' y' σ.hp)).2.1,(chk Γ.P Γ.nt Γ.m fc p orc ids σ (dl x y σ.tm) (dl x' y' σ.hp)).2.2.2.1,true):=by kernel_rfl):J Γ fc k σ e K:=
 J_g p ids _ _ hor hj h
end
end Go.Im
set_option linter.unusedVariables false
namespace Go.Im
open Go
mutual
inductive Wk:D→D→Prop where
 |same {d:D}:Wk d d
 |ln {z n:Nat} {xs:List (List D)}:Wk (.s false z n xs) (.ln n)
 |tu {cs cs':List D}:WkL cs cs'→Wk (.tu cs) (.tu cs')
 |ag {cs cs':List D}:WkL cs cs'→Wk (.ag cs) (.ag cs')
inductive WkL:List D→List D→Prop where
 |nil:WkL [] []
 |cons {d d':D} {ds ds':List D}:Wk d d'→WkL ds ds'→WkL (d::ds) (d'::ds')
end
section
variable {β:Nat→Loc} {N:Nat→Prop} {w:World}
mutual
theorem Wk.rep:∀{d d':D} {v:Value} {bs:List Nat},Wk d d'→Rep β N w true d v bs→Rep β N w true d' v bs
 |_,_,_,_,.same,h=>h
 |_,_,v,bs,.ln (z:=z) (n:=n) (xs:=xs),h=>by
  have e:=Rep.free (d:=.s false z n xs) rfl h
  subst e
  simp only [Rep] at h ⊢
  obtain ⟨_,_,a,cap,h1,h2,_⟩:=h
  exact ⟨trivial,a,cap,h1,h2⟩
 |_,_,v,bs,.tu hl,h=>by
  simp only [Rep] at h ⊢
  obtain ⟨h1,ws,h2,h3⟩:=h
  exact ⟨trivial,ws,h2,WkL.rep hl h3⟩
 |_,_,v,bs,.ag hl,h=>by
  simp only [Rep] at h ⊢
  obtain ⟨h1,ws,h2,h4,h3⟩:=h
  exact ⟨trivial,ws,h2,h4,WkL.rep hl h3⟩
theorem WkL.rep:∀{ds ds':List D} {vs:List Value} {bs:List Nat},WkL ds ds'→zF β N w true ds vs bs→zF β N w true ds' vs bs
 |_,_,_,_,.nil,h=>h
 |_,_,vs,bs,.cons h1 h2,h=>by
  simp only [zF] at h ⊢
  obtain ⟨v,vs',b1,b2,h3,h4,h5,h6⟩:=h
  exact ⟨v,vs',b1,b2,h3,h4,Wk.rep h1 h5,WkL.rep h2 h6⟩
end
end
theorem zC9 {β:Nat→Loc} {N:Nat→Prop} {w:World}:∀(xs:List Int),zO β N w (xs.map eU8) (xs.map (Value.int .u8)) []
 |[]=>by simp [zO]
 |x::xs=>by
  simp only [List.map_cons,zO]
  refine ⟨[.int .u8 x],_,[],[],rfl,rfl,?_,zC9 xs⟩
  simp only [eU8,zF,Rep]
  exact ⟨_,[],[],[],rfl,rfl,⟨rfl,rfl⟩,rfl,rfl⟩
section
variable {Γ:Ctx} {ops:Array Oper} {o:Oper}
theorem zJo {c:Cert} {x:Operand} {T el:TypeId} {t:Nat} {xs:List Int} (hg:o.guard=none) (hop:o.op= .convert T T x)
  (hc:c= {tn:=c.tn,hn:=c.hn,out:=some (.s false 1 xs.length (xs.map eU8)),hx:=[t]}) (hx:OpF c x (.rf t 0 xs.length none)) (hh:(t,.row 1 (xs.map eU8))∈c.hn) (hl:0<xs.length)
  (hT:Γ.P.underlying T=some (.slice el)) (he:Γ.P.underlying el=some (.int .u8)):Valid Γ ops o c:=by
 intro σ a w Q hdst hn ⟨h0,β,bs,hr⟩
 have hwt:Region.wanted o (yielded ops a.tmps)=true:=by simp [Region.wanted,hg]
 rw [if_pos hwt]
 obtain ⟨b1,bk,p1,hE1,hrest⟩:=xH.take hr.hp hr.keys (hn.2.1 _ hh)
 have h1:=OpF.rep hx hn hr
 simp only [Rep] at h1
 obtain ⟨hLz,hzz,hrow⟩:=hE1
 obtain ⟨_,_,⟨hnil,_,hn0,_⟩|⟨hnil,cp,hv,hcap,hroom,_⟩⟩:=h1
 ·omega
 rcases hrow with ⟨hnil',_⟩|⟨_,ws,hO,hE⟩
 ·rw [hnil] at hnil'; cases hnil'
 have hown:(β t).own =[(β t).b]:=by simp [Loc.own,hnil]
 have hws:=zDX hE
 subst hws
 obtain ⟨arr,e,lo,hi,g1,g2,g3,g4⟩:=hO
 have hsh:w.shape? (β t).b =some (e,arr.size):=by simp [World.shape?,g1]
 have hrun:(execOp a.eval o).run Γ.P w= .ok (.value (a.eval x)) (w.freeze ⟨(β t).b,arr.size,none⟩ 1):=by
  refine zBv (s:=convert T T (a.eval x)) (by simp [execOp,hop]) ?_
  rw [hv]
  simp [convert,run_underlying hT,run_underlying he,markStringish,hsh]
 unfold Oper.wp
 rw [hrun,Oper.upon_value]
 have hne:∀b',b'≠(β t).b →(w.freeze ⟨(β t).b,arr.size,none⟩ 1).heap[b']? =w.heap[b']? :=fun b' hb=>by
  unfold World.freeze
  rw [if_neg (by decide)]
  simp only [Array.getElem?_modify]
  rw [if_neg (fun e=>hb e.symm)]
 have hsz:(w.freeze ⟨(β t).b,arr.size,none⟩ 1).heap.size =w.heap.size:=by
  unfold World.freeze
  rw [if_neg (by decide)]
  simp
 have hat:∃fz,(w.freeze ⟨(β t).b,arr.size,none⟩ 1).heap[(β t).b]? =some (.cells arr e fz):=by
  unfold World.freeze
  rw [if_neg (by decide)]
  simp only [Array.getElem?_modify,if_true,g1,Option.map_some]
  exact ⟨_,rfl⟩
 obtain ⟨fz,hat⟩:=hat
 have hbin:(β t).b ∈bs:=p1.mem_iff.2 (by simp [hown])
 have hnd:=p1.nodup_iff.1 hr.nodup
 have hob:=hr.own _ hbin
 have hNS:NS Γ (w.freeze ⟨(β t).b,arr.size,none⟩ 1) ([]++bk) (β t).b :=by
  refine ⟨?_,by rw [hsz]; exact hob.1,fun h=>?_⟩
  ·rcases hob.2 with h|h
   ·exact .inr (.inl h)
   ·exact .inr (.inr h)
  ·have:=(List.nodup_append.1 hnd).2.2 (β t).b (by simp [hown]) (β t).b (by simp at h; simp [h])
   exact this rfl
 refine Rel.step (β1:=β) (bk:=bk) (br:=(β t).own ++b1) (bn:=[]) h0 hr hdst (by rw [hc]; simp) (by rw [hc]; simp) (by simpa using p1) ?_ (by rw [hsz]; exact Nat.le_refl _) (fun b' _ hb'=>hne b' (fun e=>hb' (by simp [hown,e]))) (fun _ _=>rfl) (fun _ _=>rfl) (by simp) (by simp) (by rw [hc]; exact rfl) ?_ (by unfold World.freeze; rw [if_neg (by decide)]; exact ⟨rfl,rfl⟩)
 ·rw [hc]
  have:=hrest
  rw [show (σ.hp.filter fun x=> !([t]:List Nat).contains x.1)=σ.hp.filter (fun x=>x.1 !=t) from by
   congr 1; funext x; by_cases h:x.1=t<;>simp [h]]
  exact hrest
 ·intro d hd
  rw [hc] at hd
  cases hd
  simp only [Rep]
  refine ⟨by simp,fun y hy=>by obtain ⟨z,_,rfl⟩:=List.mem_map.1 hy; rfl,_,cp,hv,hcap,.inr (.inl ⟨trivial,_,_,_,rfl,hNS,⟨arr,e,fz,hat,fun k hk=>?_⟩,zC9 xs,trivial⟩)⟩
  have:=g4 k hk
  simpa using this
theorem zIN {xs:List Int} (T el t:Nat) (x:Operand) (hx:OkO x (.rf t 0 xs.length none):=by trivial) (hl:0<xs.length:=by simp) (hT:(Γ.P.underlying T,Γ.P.underlying el)=(some (.slice el),some (.int .u8)):=by kernel_rfl):
  OpV Γ (.convert T T x) {tn:=tnO x (.rf t 0 xs.length none),hn:=[(t,rE 1 eU8 xs)],out:=some (.s false 1 xs.length (xs.map eU8)),hx:=[t]}:=by
 simp only [Prod.mk.injEq] at hT
 intro ops o hop hg
 exact zJo hg hop rfl (hx.f (fun y hy=>hy)) (.head _) hl hT.1 hT.2
end
end Go.Im
set_option linter.unusedVariables false
namespace Go.Im
open Go
section
variable {Γ:Ctx} {ops:Array Oper} {o:Oper}
end
end Go.Im
set_option linter.unusedVariables false
namespace Go.Im
open Go
end Go.Im
set_option linter.unusedVariables false
namespace Go.Im
open Go
theorem zGv {P:Program} {f:FuncId} {w w':World} {N:Nat→Prop} {bs blk bsub:List Nat} {m z k:Nat} {β:Nat→Loc} {L:List (List D)} {W:List Value} {r:Value}
  (hE:zO β N w L W bsub) (hz:∀e∈L,e.length=z) (hk:L.length=k) (ha:zGg w w' z k 0 W [] blk r) (hblk:∀b∈blk,b∈bs) (hsub:∀b∈bsub,b∈bs) (hnd:bsub.Nodup)
  (hsep:∀b∈bsub,b∉blk) (hlt:∀b∈bs,b<w.heap.size) (hN:∀b,N b→b<w.heap.size∧b∉bs):Post ⟨P,f,w,N,bs,m,β,0⟩ (.s true z k L) [] (.returned r) w':=by
 obtain ⟨hq,ha⟩:=ha
 rcases ha with ⟨hk0,_,rfl,rfl⟩|⟨b,off,c,rfl,hc,hO,hb,hcase⟩
 ·have hL:L=[]:=List.length_eq_zero_iff.1 (by omega)
  subst hL
  refine ⟨_,[],[],rfl,hq,Nat.le_refl _,fun _ _ _=>rfl,by simp,by simp,?_,rfl⟩
  simp only [Rep]
  exact ⟨hk,hz,none,0,by rw [show k=0 by omega],by omega,.inl ⟨by omega,by trivial,fun _=>⟨by trivial,by trivial⟩⟩⟩
 ·have hcommon:(∀b',b'<w.heap.size→b'∉blk→w'.heap[b']? =w.heap[b']?)∧w.heap.size≤w'.heap.size∧(b∈blk∨w.heap.size≤b):=by
   rcases hcase with ⟨rfl,q1,q2⟩|⟨rfl,q1,q2⟩
   ·exact ⟨fun b' _ hb'=>q1 b' (by simpa using hb'),by omega,.inl (by simp)⟩
   ·exact ⟨fun b' hb' _=>q2 b' hb',q1,.inr (Nat.le_refl _)⟩
  obtain ⟨h1,h2,h3⟩:=hcommon
  have hbn:b∉bsub:=fun h=>by
   rcases h3 with h3|h3
   ·exact hsep b h h3
   ·have:=hlt b (hsub b h); omega
  have hNS:∀b',N b'→NS ⟨P,f,w,N,bs,m,β,0⟩ w' (b::bsub++[]) b'∧w'.heap[b']? =w.heap[b']? :=fun b' hb'=>by
   obtain ⟨u1,u2⟩:=hN b' hb'
   refine ⟨⟨.inl hb',by omega,fun h=>?_⟩,h1 b' u1 (fun h=>u2 (hblk b' h))⟩
   simp only [List.append_nil,List.mem_cons] at h
   rcases h with rfl|h
   ·rcases h3 with h3|h3
    ·exact u2 (hblk _ h3)
    ·omega
   ·exact u2 (hsub b' h)
  refine ⟨_,b::bsub,[],rfl,hq,h2,fun b' hb' hb2=>h1 b' hb' (fun h=>hb2 (hblk b' h)),by simpa using ⟨hbn,hnd⟩,?_,?_,rfl⟩
  ·intro b' hb'
   simp only [List.append_nil,List.mem_cons] at hb'
   rcases hb' with rfl|hb'
   ·refine ⟨hb,?_⟩
    rcases h3 with h3|h3
    ·exact .inl (hblk _ h3)
    ·exact .inr h3
   ·have:=hlt b' (hsub b' hb')
    exact ⟨by omega,.inl (hsub b' hb')⟩
  ·simp only [Rep]
   refine ⟨hk,hz,some ⟨b,off,none⟩,c,rfl,by simpa using hc,.inr (.inr ⟨trivial,b,off,W,bsub,rfl,rfl,by simpa using hO,?_⟩)⟩
   exact zO.frame hNS L W bsub (fun b' hb'=>h1 b' (hlt b' (hsub b' hb')) (hsep b' hb')) hE
theorem zG2 {β:Nat→Loc} {N:Nat→Prop} {w:World} {α:Type} {enc:α→List D} {xs:List α} {ws:List Value} {bs:List Nat} (hone:∀a,(enc a).all zBu=true) (h:zO β N w (xs.map enc) ws bs):∀x∈ws,Value.oneCell x=true:=
 zBy (fun e he=>by obtain ⟨a,_,rfl⟩:=List.mem_map.1 he; exact hone a) h
theorem zGp {P:Program} {f:FuncId} {α:Type} {enc:α→List D} {xs ys:List α} {i:Int} {z:Nat} (hone:∀a,(enc a).all zBu=true) (h0:0≤i) (h1:i≤xs.length)
  (hraw:∀(w:World) (v u:Value) (wx wy:List Value) (bx bz:List Nat),Dst w z xs.length v wx bx→Dst w z ys.length u wy bz→(∀b∈bx,b∉bz)→(∀b∈bx++bz,b<w.heap.size)→(∀q∈wx,Value.oneCell q=true)→(∀q∈wy,Value.oneCell q=true)→
   Calls P f #[v,.int .i64 i,u] w fun e w'=>∃r,e= .returned r∧zGg w w' z (xs.length+ys.length) 0 (wx.take (i.toNat*z)++(wy++wx.drop (i.toNat*z))) [] bx r):
  Ok P f [.rf 0 0 xs.length none,.sc (.int .i64 i),.rf 1 0 ys.length none] [.row z (xs.map enc),.row z (ys.map enc)] (some (.s true z (xs.take i.toNat++(ys++xs.drop i.toNat)).length ((xs.take i.toNat++(ys++xs.drop i.toNat)).map enc),[])):=by
 intro out ho w N β vs bs ha hh hnd hlt hN _
 cases ho
 simp only [zF] at ha
 obtain ⟨v,_,a1,a2,rfl,e12,hv,u0,_,a3,a4,rfl,rfl,hi,u,_,a5,a6,rfl,rfl,hu,rfl,rfl⟩:=ha
 have ea:a1=[]∧a3=[]∧a5=[]:=by simpa using e12.symm
 obtain ⟨rfl,rfl,rfl⟩:=ea
 simp only [Rep] at hi
 obtain ⟨rfl,_⟩:=hi
 obtain ⟨b1,_,rfl,hE1,b2,_,rfl,hE2,hnil⟩:=hh
 have hnil':_=[]:=hnil
 subst hnil'
 obtain ⟨wx,hD1,hx,hzx⟩:=zDx hv hE1 (by simp)
 obtain ⟨wy,hD2,hy,hzy⟩:=zDx hu hE2 (by simp)
 simp only [List.append_nil] at hnd hlt hN ⊢
 have hnd1:=List.nodup_append.1 hnd
 have hnd2:=List.nodup_append.1 hnd1.2.1
 have hnd3:=List.nodup_append.1 hnd2.2.1
 refine (hraw w v u wx wy _ _ hD1 hD2 (fun b hb hb'=>hnd1.2.2 b hb b (by simp [hb']) rfl) (fun b hb=>hlt b (by simp only [List.mem_append] at hb ⊢; rcases hb with h|h<;>simp [h])) (zG2 hone hx) (zG2 hone hy)).mono ?_
 rintro e w' ⟨r,rfl,hA⟩
 obtain ⟨d1,d2,rfl,g1,g2⟩:=hx.cut i.toNat hzx
 have hdd:=List.nodup_append.1 hnd2.1
 have hL:zO β N w ((xs.take i.toNat++(ys++xs.drop i.toNat)).map enc) (wx.take (i.toNat*z)++(wy++wx.drop (i.toNat*z))) (d1++(b2++d2)):=by
  simp only [List.map_append,List.map_take,List.map_drop]
  exact g1.append (hy.append g2)
 refine zGv (blk:=(β 0).own) hL (fun e he=>?_) (by simp) (by
  rw [show (xs.take i.toNat++(ys++xs.drop i.toNat)).length =xs.length+ys.length by simp; omega]; exact hA) (fun b hb=>by simp [hb]) (fun b hb=>?_) ?_ (fun b hb hb'=>?_) hlt hN
 ·simp only [List.map_append,List.mem_append] at he
  rcases he with he|he|he
  ·rw [List.map_take] at he; exact hzx e (List.mem_of_mem_take he)
  ·exact hzy e he
  ·rw [List.map_drop] at he; exact hzx e (List.mem_of_mem_drop he)
 ·simp only [List.mem_append] at hb ⊢
  rcases hb with h|h|h<;>simp [h]
 ·refine List.nodup_append.2 ⟨hdd.1,List.nodup_append.2 ⟨hnd3.2.1,hdd.2.1,?_⟩,?_⟩
  ·intro x hx' y hy' e
   subst e
   exact hnd2.2.2 x (by simp [hy']) x (by simp [hx']) rfl
  ·intro x hx' y hy' e
   subst e
   rcases List.mem_append.1 hy' with h|h
   ·exact hnd2.2.2 x (by simp [hx']) x (by simp [h]) rfl
   ·exact hdd.2.2 x hx' x h rfl
 ·refine hnd1.2.2 b hb' b ?_ rfl
  simp only [List.mem_append] at hb ⊢
  rcases hb with h|h|h<;>simp [h]
end Go.Im
set_option linter.unusedVariables false
namespace Go.Im
open Go
theorem zGy {arr:Array Value} {o A B:Nat} {X Y W:List Value} (hA:o+A+X.length≤arr.size) (hB:o+B+Y.length≤arr.size)
  (hW:∀k,k<W.length→(if B≤k∧k<B+Y.length then Y[k-B]? else if A≤k∧k<A+X.length then X[k-A]? else arr[o+k]?)=W[k]?):
  ∀k (hk:k<W.length),(zAF (zAF arr (o+A) X) (o+B) Y)[o+k]? =some W[k]:=by
 intro k hk
 rw [zAY _ _ _ (by rw [yU]; exact hB),zAY _ _ _ hA]
 have:=hW k hk
 rw [List.getElem?_eq_getElem hk] at this
 rw [←this]
 by_cases c1:B≤k∧k<B+Y.length
 ·rw [if_pos (by omega),if_pos c1]; congr 1; omega
 ·rw [if_neg (by omega),if_neg c1]
  by_cases c2:A≤k∧k<A+X.length
  ·rw [if_pos (by omega),if_pos c2]; congr 1; omega
  ·rw [if_neg (by omega),if_neg c2]
theorem zGg.world {w w1 w2:World} {z n m:Nat} {wx wy:List Value} {blk:List Nat} {r:Value} (h:zGg w w1 z n m wx wy blk r) (hn:0<n+m) (hh:w2.heap=w1.heap) (hq:w2.os=w1.os∧w2.output=w1.output):zGg w w2 z n m wx wy blk r:=by
 obtain ⟨h1,h2⟩:=h
 refine ⟨⟨hq.1.trans h1.1,hq.2.trans h1.2⟩,?_⟩
 rcases h2 with ⟨h2,_⟩|⟨b,off,c,h3,h4,h5,h6,h7⟩
 ·omega
 ·exact .inr ⟨b,off,c,h3,h4,h5.frame (by rw [hh]),by rw [hh]; exact h6,by rw [hh]; exact h7⟩
theorem zGT {wx wy:List Value} {n m k0 z:Nat} (hl:wx.length=n*z) (hly:wy.length=m*z) (hk:k0≤n):∀k,k< (wx.take (k0*z)++(wy++wx.drop (k0*z))).length →
  (wx.take (k0*z)++(wy++wx.drop (k0*z)))[k]? =if k<k0*z then wx[k]? else if k< (k0+m)*z then wy[k-k0*z]? else (wx.drop (k0*z))[k-(k0+m)*z]? :=by
 intro k _
 have hkz:k0*z≤n*z:=Nat.mul_le_mul_right _ hk
 have ht:(wx.take (k0*z)).length =k0*z:=by simp; omega
 have e:(k0+m)*z=k0*z+m*z:=Nat.add_mul _ _ _
 by_cases c1:k<k0*z
 ·rw [if_pos c1,List.getElem?_append_left (by omega),List.getElem?_take,if_pos c1]
 ·rw [if_neg c1,List.getElem?_append_right (by omega),ht]
  by_cases c2:k< (k0+m)*z
  ·rw [if_pos c2,List.getElem?_append_left (by omega)]
  ·rw [if_neg c2,List.getElem?_append_right (by omega)]
   congr 1; omega
theorem zFV {w w0:World} (hw0:w0.heap=w.heap∧w0.os=w.os∧w0.output=w.output) {b off c z n m k0:Nat} {wx wy:List Value} (hO:Own w b off (c*z) wx) (hl:wx.length=n*z) (hly:wy.length=m*z) (hk:k0≤n) (hc:n+m≤c):
  zGg w (putCells (putCells w0 b (off+(k0+m)*z) (wx.drop (k0*z))) b (off+k0*z) wy) z (n+m) 0 (wx.take (k0*z)++(wy++wx.drop (k0*z))) [] [b] (.slice (some ⟨b,off,none⟩) (n+m) c):=by
 obtain ⟨arr,e,lo,hi,g1,g2,g3,g4⟩:=hO
 have g1':w0.heap[b]? =some (.cells arr e (lo,hi)):=by rw [hw0.1]; exact g1
 obtain ⟨p1,p2,p3⟩:=yK (off:=off+(k0+m)*z) (vs:=wx.drop (k0*z)) g1'
 obtain ⟨q1,q2,q3⟩:=yK (off:=off+k0*z) (vs:=wy) p1
 have hkz:k0*z≤n*z:=Nat.mul_le_mul_right _ hk
 have e1:(k0+m)*z=k0*z+m*z:=Nat.add_mul _ _ _
 have e2:(n+m)*z=n*z+m*z:=Nat.add_mul _ _ _
 have hcz:(n+m)*z≤c*z:=Nat.mul_le_mul_right _ hc
 have hlen:(wx.take (k0*z)++(wy++wx.drop (k0*z))).length =(n+m)*z:=by simp; omega
 refine ⟨⟨(yQ _ _ _ _).1.trans ((yQ _ _ _ _).1.trans hw0.2.1),(yQ _ _ _ _).2.trans ((yQ _ _ _ _).2.trans hw0.2.2)⟩,.inr ⟨b,off,c,rfl,by omega,?_,?_,.inl ⟨rfl,fun b' hb'=>?_,?_⟩⟩⟩
 ·refine ⟨_,e,lo,hi,q1,by rw [yU,yU]; exact g2,by rw [yU,yU]; exact g3,?_⟩
  rw [List.append_nil]
  refine zGy (by simp; omega) (by omega) (fun k hk'=>?_)
  rw [zGT hl hly hk k hk']
  rw [hlen] at hk'
  by_cases c1:k<k0*z
  ·rw [if_neg (by omega),if_neg (by omega),if_pos c1,g4 k (by omega),List.getElem?_eq_getElem]
  ·by_cases c2:k< (k0+m)*z
   ·rw [if_pos (by omega),if_neg c1,if_pos c2]
   ·rw [if_neg (by omega),if_pos (by simp; omega),if_neg c1,if_neg c2]
 ·rw [q3,p3,hw0.1]
  rcases Nat.lt_or_ge b w.heap.size with h|h
  ·exact h
  ·rw [Array.getElem?_eq_none h] at g1; cases g1
 ·rw [q2 b' hb',p2 b' hb',hw0.1]
 ·rw [q3,p3,hw0.1]
theorem zGX {w w0:World} {ROW:Array Value} {e:TypeId} (hw0:w0.heap=w.heap.push (.cells ROW e (0,0))∧w0.os=w.os∧w0.output=w.output) {c z n m k0:Nat} {wx wy:List Value} {blk:List Nat} (hR:∀k,k<k0*z→ROW[k]? =wx[k]?) (hsz:c*z≤ROW.size) (hl:wx.length=n*z) (hly:wy.length=m*z) (hk:k0≤n) (hc:n+m≤c):
  zGg w (putCells (putCells w0 w.heap.size (k0*z) wy) w.heap.size ((k0+m)*z) (wx.drop (k0*z))) z (n+m) 0 (wx.take (k0*z)++(wy++wx.drop (k0*z))) [] blk (.slice (some ⟨w.heap.size,0,none⟩) (n+m) c):=by
 have g1':w0.heap[w.heap.size]? =some (.cells ROW e (0,0)):=by rw [hw0.1]; simp
 obtain ⟨p1,p2,p3⟩:=yK (off:=k0*z) (vs:=wy) g1'
 obtain ⟨q1,q2,q3⟩:=yK (off:=(k0+m)*z) (vs:=wx.drop (k0*z)) p1
 have hkz:k0*z≤n*z:=Nat.mul_le_mul_right _ hk
 have e1:(k0+m)*z=k0*z+m*z:=Nat.add_mul _ _ _
 have e2:(n+m)*z=n*z+m*z:=Nat.add_mul _ _ _
 have hcz:(n+m)*z≤c*z:=Nat.mul_le_mul_right _ hc
 have hlen:(wx.take (k0*z)++(wy++wx.drop (k0*z))).length =(n+m)*z:=by simp; omega
 refine ⟨⟨(yQ _ _ _ _).1.trans ((yQ _ _ _ _).1.trans hw0.2.1),(yQ _ _ _ _).2.trans ((yQ _ _ _ _).2.trans hw0.2.2)⟩,.inr ⟨w.heap.size,0,c,rfl,by omega,?_,?_,.inr ⟨rfl,?_,fun b' hb'=>?_⟩⟩⟩
 ·refine ⟨_,e,0,0,q1,by omega,by rw [yU,yU]; omega,?_⟩
  rw [List.append_nil]
  have key:=zGy (arr:=ROW) (o:=0) (A:=k0*z) (B:=(k0+m)*z) (X:=wy) (Y:=wx.drop (k0*z)) (W:=wx.take (k0*z)++(wy++wx.drop (k0*z))) (by omega) (by simp; omega) (fun k hk'=>?_)
  ·simpa using key
  ·rw [zGT hl hly hk k hk']
   rw [hlen] at hk'
   by_cases c1:k<k0*z
   ·rw [if_neg (by omega),if_neg (by omega),if_pos c1,Nat.zero_add,hR k c1]
   ·by_cases c2:k< (k0+m)*z
    ·rw [if_neg (by omega),if_pos (by omega),if_neg c1,if_pos c2]
    ·rw [if_pos (by simp; omega),if_neg c1,if_neg c2]
 ·rw [q3,p3,hw0.1]; simp
 ·rw [q3,p3,hw0.1]; simp
 ·rw [q2 b' (by omega),p2 b' (by omega)]
  exact zBp hw0.1 hb'
theorem zCd {w:World} {b k:Nat} {arr:Array Value} {e:TypeId} {lo hi:Nat} (h:w.heap[b]? =some (.cells arr e (lo,hi))) (h2:∀k,k≤arr.size→¬(lo≤k∧k<hi)) (hk:k≤arr.size):w.frozen? ⟨b,k,none⟩=false:=by
 have:=h2 k hk
 simp only [World.frozen?,h,Bool.and_eq_false_imp,decide_eq_true_eq,decide_eq_false_iff_not]
 intro h5 h6; exact this ⟨h5,h6⟩
theorem zBA {P:Program} (w:World) (dT sT ty elem:TypeId) (z b o dLen dCap:Nat) (a:Addr) (sLen sCap:Nat) (cs:List Value)
  (hu:P.underlying dT=some (.slice elem)) (hs:(P.info? elem).map (·.size)=some z) (hn:cs.length=Nat.min sLen dLen*z)
  (hsrc:∀j v,cs[j]? =some v→w.cell? (a.add j)=some v) (hc:∀j,j<cs.length→(w.cell? ⟨b,o+j,none⟩).isSome =true) (hf:∀j,j<cs.length→w.frozen? ⟨b,o+j,none⟩=false) (h1:∀v∈cs,v.oneCell'=true):
  (Builtin.copy_ #[dT,sT] ty #[.slice (some ⟨b,o,none⟩) dLen dCap,.slice (some a) sLen sCap]).run P w= .ok (goInt (Nat.min sLen dLen)) (w.setCells b o cs):=by
 have hl:=run_loadCells_list (P:=P) w a cs hsrc
 have hst:=run_storeCells_cells (P:=P) b o cs 0 w (by simpa using hc) (by simpa using hf) h1
 cases hq:P.info? elem with
 |none=>simp [hq] at hs
 |some i=>
  have hi:i.size=z:=by simpa [hq] using hs
  rw [hn] at hl
  simp [Builtin.copy_,run_underlying hu,Builtin.lenOf,Builtin.firstCells,sizeOf,typeInfo,hq,hi,hl,hst]
end Go.Im
set_option linter.unusedVariables false
namespace Go.Im
open Go
section
variable {Γ:Ctx} {ops:Array Oper} {o:Oper}
end
end Go.Im
set_option linter.unusedVariables false
namespace Go.Im
open Go
theorem FzT.all {t z:Nat} {xs:List (List D)}:∀{l:List (Nat×D)},(∀x∈l,x.2.men.contains t=false)→FzT t z xs l l
 |[],_=>.nil
 |(q,d)::l,h=>.cons (.keep (h (q,d) (by simp))) (FzT.all fun x hx=>h x (by simp [hx]))
theorem FzH.all {t z:Nat} {xs:List (List D)}:∀{l:List (Nat×Ent)},(∀x∈l,x.2.men.contains t=false)→FzH t z xs l l
 |[],_=>.nil
 |(q,e)::l,h=>.keep (h (q,e) (by simp)) (FzH.all fun x hx=>h x (by simp [hx]))
theorem Rel.frz {Γ:Ctx} {a:Act} {w:World} {t z:Nat} {xs:List (List D)} {tm1 tm2:List (Nat×D)} {hp1 hp2:List (Nat×Ent)} {us us2:List Nat} (htm:FzT t z xs tm1 tm2) (hhp:FzH t z xs hp1 hp2)
  (hu:∀q,q∈zEj tm2∨q∈zBR hp2→q∈us2) (hr:Rel Γ ⟨tm1,(t,.row z xs)::hp1,us⟩ a w):Rel Γ ⟨tm2,hp2,us2⟩ a w:=by
 obtain ⟨h0,β,bs,h⟩:=hr
 obtain ⟨b1,bk,rfl,hE,hrest⟩:=h.hp
 have hp:((β t).own ++(b1++bk)).Perm (((β t).own ++b1)++bk):=by rw [List.append_assoc]
 have hnd:=hp.nodup_iff.1 h.nodup
 have hN:∀b,NS Γ w ((β t).own ++(b1++bk)) b→NS Γ w bk b:=fun b hb=>NS.sub (fun x hx=>by simp [hx]) hb
 have hb:∀b∈(β t).own ++b1,NS Γ w bk b:=fun b hb=>by
  have:=h.own b (hp.mem_iff.2 (List.mem_append_left _ hb))
  refine ⟨?_,this.1,fun hbk=>(List.nodup_append.1 hnd).2.2 b hb b hbk rfl⟩
  rcases this.2 with h1|h1
  ·exact .inr (.inl h1)
  ·exact .inr (.inr h1)
 refine ⟨hu,β,bk,{defers:=h.defers,size:=h.size,keys:=?_,par:=h.par,grow:=h.grow,gh:=h.gh,quiet:=h.quiet,keep:=h.keep,hp:=hhp.rep hN hE hb hrest,nodup:=(List.nodup_append.1 hnd).2.1,own:=fun b hb=>h.own b (hp.mem_iff.2 (List.mem_append_right _ hb)),tm:=?_}⟩
 ·have hk:=h.keys
  simp only [List.map_cons,List.nodup_cons] at hk
  rw [hhp.keys]
  exact hk.2
 ·intro q d' hd
  obtain ⟨d,h1,h2⟩:=htm.mem hd
  obtain ⟨v,h3,h4⟩:=h.tm q d h1
  exact ⟨v,h3,Fz.rep hN hE hb h2 h4⟩
theorem zKe {Γ:Ctx} {op:Op} {tn:List (Nat×D)} {hn:List (Nat×Ent)} {d1 d2:D} {t z:Nat} {xs:List (List D)} (hv:OpV Γ op {tn:=tn,hn:=hn,out:=some d1,hw:=[(t,.row z xs)],fr:=[t]}) (hf:Fz t z xs d1 d2) (hm:d2.men=[]:=by rfl):
  OpV Γ op {tn:=tn,hn:=hn,out:=some d2,fr:=[t]}:=by
 intro ops o hop hg σ a w Q hdst hn' hr
 have hus:=hr.1
 have hfr:t∉σ.us:=hn'.2.2 t (by simp)
 have h:=hv ops o hop hg σ a w Q hdst ⟨hn'.1,hn'.2.1,hn'.2.2⟩ hr
 have hwt:Region.wanted o (yielded ops a.tmps)=true:=by simp [Region.wanted,hg]
 rw [if_pos hwt] at h ⊢
 refine Oper.wp_mono (fun a' w' hrel=>?_) h
 obtain ⟨dd,hdd⟩:∃dd,o.dst=dd:=⟨_,rfl⟩
 rw [hdd] at hrel
 rw [hdd]
 have key:FzT t z xs ((({tn:=tn,hn:=hn,out:=some d1,hw:=[(t,.row z xs)],fr:=[t]}:Cert).outs dd)++σ.tm.filter (fun x=>dd !=some x.1)) ((({tn:=tn,hn:=hn,out:=some d2,fr:=[t]}:Cert).outs dd)++σ.tm.filter (fun x=>dd !=some x.1)):=by
  have hrest:FzT t z xs (σ.tm.filter (fun x=>dd !=some x.1)) (σ.tm.filter (fun x=>dd !=some x.1)):=FzT.all fun x hx=>by
   have:t∉x.2.men:=fun h=>hfr (hus t (.inl (List.mem_flatMap.2 ⟨x,(List.mem_filter.1 hx).1,h⟩)))
   simpa using this
  cases dd with
  |none=>exact hrest
  |some q=>exact .cons hf hrest
 refine Rel.frz key (FzH.all fun x hx=>?_) (fun q hq=>?_) hrel
 ·have:t∉x.2.men:=fun h=>hfr (hus t (.inr (List.mem_flatMap.2 ⟨x,(List.mem_filter.1 hx).1,by simp [h]⟩)))
  simpa using this
 ·refine List.mem_append_right _ ?_
  rcases hq with hq|hq
  ·obtain ⟨x,hx,hx'⟩:=List.mem_flatMap.1 hq
   rcases List.mem_append.1 hx with hx|hx
   ·unfold Cert.outs at hx
    cases dd with
    |none=>simp at hx
    |some q'=>
     simp only [List.mem_singleton] at hx
     subst hx
     simp only [hm] at hx'
     cases hx'
   ·exact hus q (.inl (List.mem_flatMap.2 ⟨x,(List.mem_filter.1 hx).1,hx'⟩))
  ·obtain ⟨x,hx,hx'⟩:=List.mem_flatMap.1 hq
   exact hus q (.inr (List.mem_flatMap.2 ⟨x,(List.mem_filter.1 hx).1,hx'⟩))
end Go.Im

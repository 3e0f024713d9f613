import Derived.Test.YtlagdfkkokgakaaDoorImD
import Derived.Lib.Bytealg
import Derived.Laws.StructEq
import Derived.Sort.Row
import Derived.Sort.Grow
import Derived.Lib.LaidTab
import Derived.Lib.ItoaNum
import Derived.Deep.Draws
import Derived.LaidSub
import Derived.Below
import Derived.Lib.Split
import Derived.Lib.Join
import Derived.Lib.Repeat
import Derived.Handed
import Derived.Shelf.Vars
import Derived.Lib.SplitLaws
import Derived.Lib.ConvBytes
import Derived.Sort.EncStr
import Derived.Laws.IdiomCopy
set_option linter.unusedVariables false
namespace Go.Im
open Go
section
variable {Γ:Ctx}
theorem zBt {xs:List Int} (S Dd e t:Nat) (x:Operand) (hx:OkO x (.rf t 0 xs.length none):=by trivial) (hT:(Γ.P.underlying S,Γ.P.underlying e,Γ.P.underlying Dd)=(some (.slice e),some (.int .u8),some .string):=by kernel_rfl):
  OpV Γ (.convert S Dd x) {tn:=tnO x (.rf t 0 xs.length none),hn:=[(t,rE 1 eU8 xs)],out:=some (.sc (.string (b2s xs)))}:=by
 simp only [Prod.mk.injEq] at hT
 intro ops o hop hg
 exact zCl hg hop rfl (hx.f (fun y hy=>hy)) (.head _) hT.1 hT.2.1 hT.2.2
def zBI (P:Program) (el:TypeId):Value:=(zK P (zeroValue el)).getD default
def zD6 (P:Program) (el:TypeId):Option (Option Value×Nat×Nat):=(P.info? el).map (fun i=>(i.zero,i.size,i.bytes))
theorem zEd {α:Type} {xs ys zs:List α} (T U el e' z bytes t td:Nat) (enc:α→List D) (x y:Operand) (h:app bytes xs ys=some zs) (hx:OkO x (.rf td 0 xs.length none):=by trivial) (hy:OkO y (.s false z ys.length (ys.map enc)):=by trivial)
  (hone:∀a,(enc a).all vU=true:=by intro _; rfl) (hT:(Γ.P.underlying T,Γ.P.underlying U,zD6 Γ.P el,(zBI Γ.P el).cells.size,Nat.ble Γ.m t)=(some (.slice el),some (.slice e'),some (some (zBI Γ.P el),z,bytes),z,true):=by kernel_rfl):
  OpV Γ (.call {callee:=.builtin .append,args:= #[x,y],argTypes:= #[T,U]}) {tn:=tnO x (.rf td 0 xs.length none)++tnO y (.s false z ys.length (ys.map enc)),hn:=[(td,rE z enc xs)],out:=some (.rf t 0 zs.length none),hx:=[td],hw:=[(t,rE z enc zs)],fr:=[t]}:=by
 simp only [Prod.mk.injEq] at hT
 obtain ⟨h1,h2,h3,h4,h5⟩:=hT
 intro ops o hop hg
 exact zBi (enc:=enc) h (Nat.le_of_ble_eq_true h5) hone hg hop rfl (hx.f (fun y hy=>List.mem_append_left _ hy)) (hy.f (fun y hy=>List.mem_append_right _ hy)) (.head _) h1 h2 h3 h4
theorem zEg {α:Type} {xs:List α} {a b:α} {ix:Int} (T z t j:Nat) (enc:α→List D) (d:D) (x y:Operand) (h:idx xs ix=some a) (hb:enc b=(enc a).take j++cellsD d++(enc a).drop (j+(cellsD d).length))
  (hx:OkO x (.pt t ix.toNat j):=by trivial) (hy:OkO y d:=by first|trivial|rfl)
  (hT:((cellsD d).all D.cell,(cellsD d).all D.nest,tO Γ.P T,Nat.ble (j+(cellsD d).length) z)=(true,true,some (cellsD d).length,true):=by kernel_rfl):
  zDU Γ (.store T x y) {tn:=tnO x (.pt t ix.toNat j)++tnO y d,hn:=[(t,rE z enc xs)],hx:=[t],hw:=[(t,rE z enc (xs.set ix.toNat b))]}:=by
 simp only [Prod.mk.injEq] at hT
 obtain ⟨h1,h2,h3,h4⟩:=hT
 intro ops o hop hg hds
 exact tQ (enc:=enc) (es':=cellsD d) (hm:=[]) (ts:=[]) h hg hop hds rfl (hx.f (fun y hy=>List.mem_append_left _ hy)) (hy.f (fun y hy=>List.mem_append_right _ hy)) hb h1 h3 (Nat.le_of_ble_eq_true h4) (.head _) (Emb.uT [] _ h2) (fun q hq=>by simp at hq)
theorem zDM {α:Type} {xs:List α} {a b:α} {ix:Int} {es':List D} {ts:List Nat} (T z t j:Nat) (enc:α→List D) (d:D) (x y:Operand) (hm:List (Nat×Ent)) (h:idx xs ix=some a) (hem:Emb hm (cellsD d) es' ts) (hb:enc b=(enc a).take j++es'++(enc a).drop (j+(cellsD d).length))
  (hx:OkO x (.pt t ix.toNat j):=by trivial) (hy:OkO y d:=by first|trivial|rfl)
  (hT:((cellsD d).all D.cell,tO Γ.P T,Nat.ble (j+(cellsD d).length) z,hm.all (fun q=>q.1 !=t))=(true,some (cellsD d).length,true,true):=by kernel_rfl):
  zDU Γ (.store T x y) {tn:=tnO x (.pt t ix.toNat j)++tnO y d,hn:=(t,rE z enc xs)::hm,hx:=t::ts,hw:=[(t,rE z enc (xs.set ix.toNat b))]}:=by
 simp only [Prod.mk.injEq] at hT
 obtain ⟨h1,h3,h4,h5⟩:=hT
 intro ops o hop hg hds
 exact tQ (enc:=enc) (es':=es') (hm:=hm) (ts:=ts) h hg hop hds rfl (hx.f (fun y hy=>List.mem_append_left _ hy)) (hy.f (fun y hy=>List.mem_append_right _ hy)) hb h1 h3 (Nat.le_of_ble_eq_true h4) (.head _) hem (fun q hq=>⟨List.mem_cons_of_mem _ hq,zDA h5 q hq⟩)
def zCV (x:Operand) (d:D):D:=match x with
 | .tmp _=>d
 | .const v=>.sc v
 | .func f=>.fn f []
 | .global _=>.un
theorem OkO.of {x:Operand} {d:D} (hg:∀g,x≠ .global g) (h:zCV x d=d):OkO x d:=by
 cases x with
 |tmp t=>trivial
 |const v=>exact h.symm
 |func f=>exact h.symm
 |global g=>exact absurd rfl (hg g)
def zCS:Operand→Bool
 | .global _=>false
 |_=>true
def tnL:List Operand→List D→List (Nat×D)
 |x::xs,d::ds=>tnO x d++tnL xs ds
 |_,_=>[]
theorem zBF {c:Cert}:∀{xs:List Operand} {ds:List D},ds.length=xs.length→xs.all zCS=true→List.zipWith zCV xs ds=ds→(∀y∈tnL xs ds,y∈c.tn)→∀(k:Nat) (d:D),ds[k]? =some d→∃x,xs[k]? =some x∧OpF c x d
 |[],[],_,_,_,_,k,d,h=>by simp at h
 |x::xs,d0::ds,hl,hg,hz,hs,0,d,h=>by
  simp at h
  subst h
  simp only [List.zipWith_cons_cons,List.cons.injEq] at hz
  simp only [List.all_cons,Bool.and_eq_true] at hg
  refine ⟨x,rfl,(OkO.of (fun g e=>by subst e; simp [zCS] at hg) hz.1).f (fun y hy=>hs y (by simp [tnL,hy]))⟩
 |x::xs,d0::ds,hl,hg,hz,hs,k+1,d,h=>by
  simp only [List.zipWith_cons_cons,List.cons.injEq] at hz
  simp only [List.all_cons,Bool.and_eq_true] at hg
  obtain ⟨x',h1,h2⟩:=zBF (c:=c) (by simpa using hl) hg.2 hz.2 (fun y hy=>hs y (by simp [tnL,hy])) k d (by simpa using h)
  exact ⟨x',by simpa using h1,h2⟩
 |[],_::_,hl,_,_,_,_,_,_=>by simp at hl
 |_::_,[],hl,_,_,_,_,_,_=>by simp at hl
def zDX (P:Program) (el n z:Nat):Array Value:=if n*z=0 then #[] else (zBI P el).cells
def zDF (P:Program) (el n z:Nat):List Value:=((Array.range (n*z)).map ((zDX P el n z)[· %(zDX P el n z).size]!)).toList
theorem zDQ {α:Type} {ds:List D} {ts:List Nat} (T el z t:Nat) (enc:α→List D) (lst:List α) (js:List Nat) (xs:List Operand) (dl:List D) (hn:List (Nat×Ent)) (he:Emb hn ds (lst.map enc).flatten ts)
  (hT:(zK Γ.P (underlying T),tO Γ.P el,zK Γ.P (zeroValue el),Nat.ble (lst.length*z) 1000,(zDF Γ.P el lst.length z).all Value.oneCell,Nat.ble Γ.m t)=(some (.slice el),some z,some (zBI Γ.P el),true,true,true):=by kernel_rfl)
  (hD:(dl.length,js.length,xs.all zCS,List.zipWith zCV xs dl,dl.all (fun d=>(cellsD d).all D.cell),jM (fun i=>some (i*z,z)) ((zDF Γ.P el lst.length z).map D.sc) (js.zip dl),(lst.map enc).all (fun e=>e.length==z))=(xs.length,xs.length,true,dl,true,some ds,true):=by kernel_rfl):
  OpV Γ (.buildSlice T lst.length (js.zip xs).toArray) {tn:=tnL xs dl,hn:=hn,out:=some (.rf t 0 lst.length none),hx:=ts,hw:=[(t,rE z enc lst)],fr:=[t]}:=by
 simp only [Prod.mk.injEq] at hT hD
 obtain ⟨h1,h2,h3,h4,h5,h6⟩:=hT
 obtain ⟨g1,g2,g3,g4,g5,g6,g7⟩:=hD
 intro ops o hop hg
 refine zCd (n:=lst.length) (zv:=zBI Γ.P el) (zc:=zDX Γ.P el lst.length z) (dl:=js.zip dl) (ds:=ds) (xs:=lst.map enc) (ts:=ts) hg hop rfl (Nat.le_of_ble_eq_true h6) h1 h2 (Nat.le_of_ble_eq_true h4) h3 rfl h5 (by simp [g1,g2]) ?_ g6 (by simp) ?_ he
 ·intro k i d hk
  rw [List.getElem?_zip_eq_some] at hk
  obtain ⟨x,hx1,hx2⟩:=zBF (c:= {tn:=tnL xs dl,hn:=hn,out:=some (.rf t 0 lst.length none),hx:=ts,hw:=[(t,rE z enc lst)],fr:=[t]}) g1 g3 g4 (fun y hy=>hy) k d hk.2
  refine ⟨x,?_,hx2,List.all_eq_true.1 g5 d (List.mem_of_getElem? hk.2)⟩
  simp only [List.getElem?_toArray]
  exact List.getElem?_zip_eq_some.2 ⟨hk.1,hx1⟩
 ·intro e he'
  simpa using List.all_eq_true.1 g7 e he'
theorem zDj {α:Type} (T el z t:Nat) (enc:α→List D) (lst:List α) (js:List Nat) (xs:List Operand) (dl:List D)
  (hT:(zK Γ.P (underlying T),tO Γ.P el,zK Γ.P (zeroValue el),Nat.ble (lst.length*z) 1000,(zDF Γ.P el lst.length z).all Value.oneCell,Nat.ble Γ.m t)=(some (.slice el),some z,some (zBI Γ.P el),true,true,true):=by kernel_rfl)
  (hD:(dl.length,js.length,xs.all zCS,List.zipWith zCV xs dl,dl.all (fun d=>(cellsD d).all D.cell),jM (fun i=>some (i*z,z)) ((zDF Γ.P el lst.length z).map D.sc) (js.zip dl),(lst.map enc).all (fun e=>e.length==z),(lst.map enc).flatten.all D.nest)=(xs.length,xs.length,true,dl,true,some (lst.map enc).flatten,true,true):=by kernel_rfl):
  OpV Γ (.buildSlice T lst.length (js.zip xs).toArray) {tn:=tnL xs dl,hn:=[],out:=some (.rf t 0 lst.length none),hx:=[],hw:=[(t,rE z enc lst)],fr:=[t]}:=by
 simp only [Prod.mk.injEq] at hD
 obtain ⟨g1,g2,g3,g4,g5,g6,g7,g8⟩:=hD
 refine zDQ T el z t enc lst js xs dl [] (Emb.uT [] _ g8) hT ?_
 simp only [Prod.mk.injEq]
 exact ⟨g1,g2,g3,g4,g5,g6,g7⟩
theorem AmL.kK {hn:List (Nat×Ent)} {ids:List Nat} {bor:Bool}:∀{ds:List D},D.men.wI ds=[]→AmL hn ids bor ds ds
 |[],_=>.nil
 |d::ds,h=>by
  simp only [D.men.wI,List.append_eq_nil_iff] at h
  exact .cons (.same h.1) (AmL.kK h.2)
theorem zCI {hn:List (Nat×Ent)} {ids:List Nat} {t z:Nat} {α:Type} {enc enc':α→List D} {xs:List α} (hm:(t,rE z enc xs)∈hn) (hr:∀a,D.ro.roC (enc a)=enc' a) (ht:ids.contains t=false):Am hn ids true (.rf t 0 xs.length none) (.s false z xs.length (xs.map enc')):=
 .bor hm (by simpa using ht) (by simp) (zDo hr xs rfl rfl)
def D.nm1 (d:D):Bool:=d.free&&d.men.isEmpty
def D.nm2:D→Bool
 | .ag cs=>cs.all D.nm1
 |d=>d.nm1
def D.nm:D→Bool
 | .tu vs=>vs.all D.nm2
 |d=>d.nm2
theorem zAM {d:D} (h:d.nm1=true):Nm d d []:=by
 simp only [D.nm1,Bool.and_eq_true,List.isEmpty_iff] at h
 exact .same h.2 h.1
theorem kN {p:D→Bool} (hp:∀d,p d=true→Nm d d []):∀{cs:List D},cs.all p=true→NmL cs cs []
 |[],_=>.nil
 |d::cs,h=>by
  simp only [List.all_cons,Bool.and_eq_true] at h
  exact .cons (e1:=[]) (hp d h.1) (kN hp h.2)
theorem zAF {d:D} (h:d.nm2=true):Nm d d []:=by
 cases d with
 |ag cs=>exact .ag (kN (fun _=>zAM) h)
 |_=>exact zAM h
theorem zBH {d:D} (h:d.nm=true):Nm d d []:=by
 cases d with
 |tu cs=>exact .tu (kN (fun _=>zAF) h)
 |_=>exact zAF h
theorem xG {v:Value}:(D.sc v).flat :=trivial
theorem zBM {z n:Nat} {xs:List (List D)} (h:zA6 xs):(D.s true z n xs).flat :=⟨rfl,h⟩
theorem zC8 {cs:List D} (h:vQ cs):(D.tu cs).flat :=h
theorem zB0:vQ []:=trivial
theorem fhN:jI []:=trivial
theorem flatK {d:D} {ds:List D} (h1:d.flat) (h2:vQ ds):vQ (d::ds):=⟨h1,h2⟩
theorem zCe {α:Type} {enc:α→List D} (h:∀a,vQ (enc a)):∀(xs:List α),zA6 (xs.map enc)
 |[]=>trivial
 |x::xs=>⟨h x,zCe h xs⟩
theorem jJ {f:FuncId} {as:List D} {R:Type} {e:Option R} {g:R→D×List Ent} {r:R} (xs:List Operand) (tys:List Nat) (hok:Ok Γ.P f as [] (e.map g)) (h:e=some r) (hcf:∀vs,zK Γ.P (callFunc f vs)=some (.enter f vs):=by intro _; kernel_rfl)
  (hC:(as.length,xs.all zCS,List.zipWith zCV xs as,D.men.wI as,(g r).1.nm,(g r).2)=(xs.length,true,as,[],true,[]):=by kernel_rfl):
  OpV Γ (.call {callee:=.value (.func f),args:=xs.toArray,argTypes:=tys.toArray}) {tn:=tnL xs as,out:=some (g r).1}:=by
 simp only [Prod.mk.injEq] at hC
 obtain ⟨h1,h2,h3,h4,h5,h7⟩:=hC
 intro ops o hop hg
 exact zC4 («as»:=as) (bor:=false) (ids:=[]) (hin:=[]) (hout:=[]) (news:=[]) hg hop hcf (by simpa using h1) (fun k d hk=>by
  obtain ⟨x,q1,q2⟩:=zBF (c:= {tn:=tnL xs as,out:=some (g r).1}) h1 h2 h3 (fun y hy=>hy) k d hk
  exact ⟨x,by simpa using q1,q2⟩) (AmL.kK h4) (by simp) rfl (by simp) (by simp) hok (by rw [h,Option.map_some,←h7]) (by simp) (zBH h5) (by simp) rfl (by simp) (by simp)
theorem zDE {f:FuncId} {as caps:List D} {R:Type} {e:Option R} {g:R→D×List Ent} {r:R} (t0:Nat) (xs:List Operand) (tys:List Nat) (hok:Ok Γ.P f (as++caps) [] (e.map g)) (h:e=some r) (hcf:∀vs,zK Γ.P (callFunc f vs)=some (.enter f vs):=by intro _; kernel_rfl)
  (hC:(as.length,xs.all zCS,List.zipWith zCV xs as,D.men.wI (as++caps),(g r).1.nm,(g r).2)=(xs.length,true,as,[],true,[]):=by kernel_rfl):
  OpV Γ (.call {callee:=.value (.tmp t0),args:=xs.toArray,argTypes:=tys.toArray}) {tn:=(t0,.fn f caps)::tnL xs as,out:=some (g r).1}:=by
 simp only [Prod.mk.injEq] at hC
 obtain ⟨h1,h2,h3,h4,h5,h7⟩:=hC
 intro ops o hop hg
 exact zC6 («as»:=as) (caps:=caps) (bor:=false) (ids:=[]) (hin:=[]) (hout:=[]) (news:=[]) hg hop (show (t0,D.fn f caps)∈(t0,D.fn f caps)::tnL xs as from .head _) hcf (by simpa using h1) (fun k d hk=>by
  obtain ⟨x,q1,q2⟩:=zBF (c:= {tn:=(t0,.fn f caps)::tnL xs as,out:=some (g r).1}) h1 h2 h3 (fun y hy=>List.mem_cons_of_mem _ hy) k d hk
  exact ⟨x,by simpa using q1,q2⟩) (AmL.kK h4) (by simp) rfl (by simp) (by simp) hok (by rw [h,Option.map_some,←h7]) (by simp) (zBH h5) (by simp) rfl (by simp) (by simp)
theorem jY {f:FuncId} {as ds:List D} {R:Type} {e:Option R} {g:R→D×List Ent} {r:R} {d:D} {hin:List Ent} {news:List (Nat×Ent)} (xs:List Operand) (tys:List Nat) (bor:Bool) (hn:List (Nat×Ent)) (ids:List Nat) (ham:AmL hn ids bor as ds)
  (hok:Ok Γ.P f ds hin (e.map g)) (h:e=some r) (hnm:Nm (g r).1 d news) (hbor:bor=true→jI (g r).2∧(g r).1.flat :=by simp)
  (hcf:∀vs,zK Γ.P (callFunc f vs)=some (.enter f vs):=by intro _; kernel_rfl)
  (hC:(as.length,xs.all zCS,List.zipWith zCV xs as,wO ids,hin.length,Nat.ble (g r).2.length hin.length,(ids.zip hin).map (fun x=>lk hn x.1),(hin++(g r).2).flatMap Ent.men,wO (news.map (·.1)),news.all (fun x=>Nat.ble Γ.m x.1))=
   (xs.length,true,as,true,ids.length,true,(ids.zip hin).map (fun x=>some x.2),[],true,true):=by kernel_rfl):
  OpV Γ (.call {callee:=.value (.func f),args:=xs.toArray,argTypes:=tys.toArray}) {tn:=tnL xs as,hn:=hn,out:=some d,hx:=ids,hw:=ids.zip (g r).2++news,fr:=news.map (·.1)}:=by
 simp only [Prod.mk.injEq] at hC
 obtain ⟨h1,h2,h3,h4,h5,h6,h7,h8,h9,h10⟩:=hC
 intro ops o hop hg
 exact zC4 («as»:=as) (bor:=bor) (ids:=ids) (hin:=hin) (hout:=(g r).2) (news:=news) hg hop hcf (by simpa using h1) (fun k d' hk=>by
  obtain ⟨x,q1,q2⟩:=zBF (c:= {tn:=tnL xs as,hn:=hn,out:=some d,hx:=ids,hw:=ids.zip (g r).2++news,fr:=news.map (·.1)}) h1 h2 h3 (fun y hy=>hy) k d' hk
  exact ⟨x,by simpa using q1,q2⟩) ham (wE h4) h5 (wJ h7) (zD3 h8) hok (by rw [h,Option.map_some]) (Nat.le_of_ble_eq_true h6) hnm (wE h9) rfl (zD1 h10) hbor
end
end Go.Im
set_option linter.unusedVariables false
namespace Go.Im
open Go
structure Wd where
 w0:World
 N0:Nat→Prop
 O0:List Nat
 β0:Nat→Loc
def Wd.g (q:Wd) (P:Program) (f m nt:Nat):Ctx:=⟨P,f,q.w0,q.N0,q.O0,m,q.β0,nt⟩
theorem yL {P:Program} {f:FuncId} {args:List D} {hin:List Ent} {T:Type} {e:Option T} {g:T→D×List Ent} (fc:Code) (fn:Func) (m nt:Nat)
  (h:∀(q:Wd),J (q.g P f m nt) fc [.c 1] ⟨args.zipIdx.map (fun x=>(x.2,x.1)),wP hin,D.men.wI args++uD (wP hin)⟩ e (fun r=>some (g r)))
  (hf:(P.funcs[f]?,fn.body,fn.ntmps,Nat.ble args.length nt,hin.length)=(some fn,some fc,nt,true,m):=by kernel_rfl):Ok P f args hin (e.map g):=by
 simp only [Prod.mk.injEq] at hf
 obtain ⟨h1,h2,h3,h4,h5⟩:=hf
 subst h5
 exact zDu h1 h2 h3 (Nat.le_of_ble_eq_true h4) (fun w0 N0 O0 β0=>h ⟨w0,N0,O0,β0⟩)
section
variable {Γ:Ctx} {fc:Code} {k:List II} {σ:St} {T:Type} {K:T→Option (D×List Ent)}
theorem yT {b:Bool} {x y:Option T} (t:Nat) (h1:b=true→J Γ fc k ⟨(t,.sc (.bool true))::σ.tm,σ.hp,σ.us⟩ x K) (h2:b=false→J Γ fc k ⟨(t,.sc (.bool false))::σ.tm,σ.hp,σ.us⟩ y K) (hl:lk σ.tm t=some (.sc (.bool b)):=by kernel_rfl):
 J Γ fc k σ (if b then x else y) K:=zEp t hl h1 h2
variable {p:Nat}
theorem zDm {rest:List (Nat×Cert)} {b b':Bool} (i:Nat) (tm:List (Nat×D)) (hp:List (Nat×Ent)) (hb:b=b') (hr:zAt Γ fc p rest)
  (h:(opAt fc p i).map (fun o=>(o.guard,ac0 Γ.P none o ⟨tm,hp,[]⟩))=some (none,some {tn:=tm,hn:=hp,out:=some (.sc (.bool b))}):=by kernel_rfl):
  zAt Γ fc p ((i,{tn:=tm,hn:=hp,out:=some (.sc (.bool b'))})::rest):=
 ⟨zEo (id:=none) tm hp _ h rfl (by rw [hb]),hr⟩
end
end Go.Im
set_option linter.unusedVariables false
namespace Go.Im
open Go
def zDi {A R:Type} (b:(A→Option R)→A→Option R):Nat→A→Option R
 |0,_=>none
 |n+1,x=>b (zDi b n) x
theorem zDg {P:Program} {f:FuncId} {args:List D} {hin:List Ent} {T:Type} {g:T→D×List Ent}:Ok P f args hin ((none:Option T).map g):=fun _ h=>by cases h
theorem jF {β:Nat→Loc} {N:Nat→Prop} {w:World}:∀{vs us:List Value} {bs:List Nat},zA β N w true (vs.map D.sc) us bs→us=vs∧bs=[]
 |[],us,bs,h=>by simpa [zA] using h
 |v::vs,us,bs,h=>by
  simp only [List.map_cons,zA] at h
  obtain ⟨u,us',b1,b2,rfl,rfl,h3,h4⟩:=h
  simp only [Rep] at h3
  obtain ⟨rfl,rfl⟩:=h3
  obtain ⟨rfl,rfl⟩:=jF h4
  exact ⟨rfl,rfl⟩
theorem zDT {P:Program} {f:FuncId} {vs:List Value} {v:Value} (h:∀w,Calls P f vs.toArray w fun e w'=>e= .returned v∧w'=w):Ok P f (vs.map D.sc) [] (some (.sc v,[])):=by
 intro out ho w N β us bs ha hh hnd hlt hN _
 cases ho
 obtain ⟨rfl,_⟩:=jF ha
 refine (h w).mono ?_
 rintro e w' ⟨rfl,rfl⟩
 exact ⟨v,[],[],rfl,⟨rfl,rfl⟩,Nat.le_refl _,fun _ _ _=>rfl,by simp,by simp,by simp [Rep],rfl⟩
def zC1 (a b:ByteArray):Int:=Lib.compareBytes a.data.toList b.data.toList
end Go.Im
set_option linter.unusedVariables false
namespace Go.Im
open Go
theorem zH.cut {β:Nat→Loc} {N:Nat→Prop} {w:World} {z:Nat}:∀{xs:List (List D)} {ws:List Value} {bs:List Nat} (k:Nat),zH β N w xs ws bs→(∀x∈xs,x.length=z)→
  ∃b1 b2,bs=b1++b2∧zH β N w (xs.take k) (ws.take (k*z)) b1∧zH β N w (xs.drop k) (ws.drop (k*z)) b2
 |xs,ws,bs,0,h,hz=>⟨[],bs,rfl,by simp [zH],by simpa using h⟩
 |[],ws,bs,k+1,h,hz=>by
  simp only [zH] at h
  rw [h.1,h.2]
  exact ⟨[],[],rfl,by simp [zH],by simp [zH]⟩
 |x::xs,ws,bs,k+1,h,hz=>by
  simp only [zH] at h
  obtain ⟨w1,w2,b1,b2,rfl,rfl,h3,h4⟩:=h
  have hl:=h3.length
  rw [hz x (by simp)] at hl
  obtain ⟨c1,c2,rfl,h5,h6⟩:=zH.cut k h4 (fun y hy=>hz y (by simp [hy]))
  have e1:(w1++w2).drop ((k+1)*z)=w2.drop (k*z):=by
   rw [Nat.add_mul,Nat.one_mul,List.drop_append,List.drop_of_length_le (by omega),List.nil_append]; congr 1; omega
  have e2:(w1++w2).take ((k+1)*z)=w1++w2.take (k*z):=by
   rw [Nat.add_mul,Nat.one_mul,List.take_append,List.take_of_length_le (by omega)]; congr 2; omega
  rw [e1,e2]
  refine ⟨b1++c1,c2,by simp,?_,by simpa using h6⟩
  simp only [List.take_succ_cons,zH]
  exact ⟨w1,_,b1,c1,rfl,rfl,h3,h5⟩
section
variable {Γ:Ctx} {ops:Array Oper} {o:Oper}
end
end Go.Im
set_option linter.unusedVariables false
namespace Go.Im
open Go
section
variable {Γ:Ctx} {ops:Array Oper} {o:Oper}
theorem Rel.over {β:Nat→Loc} {bs:List Nat} {σ:St} {a:Act} {w:World} {c:Cert} {t z l:Nat} {xs ys:List (List D)} {vs:List Value} {v:Value} (h0:∀t,t∈zAu σ.tm∨t∈uD σ.hp→t∈σ.us) (hr:RelB Γ β bs σ a w)
  {dst:Option Nat} (hd:∀t,dst=some t→t<Γ.nt) (hhx:c.hx=[t]) (hhw:c.hw=[(t,.row z (xs.take l++ys++xs.drop (l+ys.length)))]) (hm:(t,.row z xs)∈σ.hp) (hnil:(β t).nil =false)
  (hl:l+ys.length≤xs.length) (hyz:∀y∈ys,y.length=z) (hE2:∀N w',zH β N w' ys vs []) (ho:∀d,c.out=some d→∀N w',Rep β N w' true d v []):
  Rel Γ (σ.upd dst c) (a.put dst v) (putCells w (β t).b ((β t).o +l*z) vs):=by
 obtain ⟨b1,b2,hp,⟨hLz,hzz,hrow⟩,hrest⟩:=yB.take hr.hp hr.keys hm
 rcases hrow with ⟨hnil',_⟩|⟨_,ws,hO,hE⟩
 ·rw [hnil] at hnil'; cases hnil'
 have hown:(β t).own =[(β t).b]:=by simp [Loc.own,hnil]
 rw [hown] at hp
 have hws:=hE.length hzz
 have hvl:=(hE2 (fun _=>True) w).length hyz
 have hfilt:σ.hp.filter (fun x=> !c.hx.contains x.1)=σ.hp.filter (fun x=>x.1 !=t):=by
  rw [hhx]; congr 1; funext x; by_cases hx:x.1=t<;>simp [hx]
 obtain ⟨d1,d2,e1,hs1,hs2⟩:=hE.cut l hzz
 obtain ⟨d3,d4,e2,hs3,hs4⟩:=hs2.cut ys.length (fun y hy=>hzz y (List.mem_of_mem_drop hy))
 have hheap:(∀b',b'≠(β t).b →(putCells w (β t).b ((β t).o +l*z) vs).heap[b']? =w.heap[b']?)∧(putCells w (β t).b ((β t).o +l*z) vs).heap.size =w.heap.size:=by
  obtain ⟨arr,e,lo,hi,g1,g2,g3,g4⟩:=hO
  exact (zM g1).2
 have hp2:bs.Perm (((β t).b ::b1)++b2):=by simpa using hp
 have hnd:=hp2.nodup_iff.1 hr.nodup
 have hsub:∀b∈d1++d4,b∈b1:=fun b hb=>by
  rw [e1,e2]
  rcases List.mem_append.1 hb with h|h<;>simp [h]
 have hndn:((β t).b ::(d1++d4)).Nodup :=by
  have q:=(List.nodup_append.1 hnd).1
  rw [e1,e2] at q
  refine List.Nodup.sublist ?_ q
  refine List.Sublist.cons_cons _ ?_
  exact List.Sublist.append_left (List.sublist_append_right _ _) _
 have hbin:∀b∈d1++d4,b≠(β t).b :=fun b hb e=>(List.nodup_cons.1 hndn).1 (e▸hb)
 have hmz:(l+ys.length)*z≤ws.length:=by rw [hws]; exact Nat.mul_le_mul_right _ hl
 have hNS:∀b,NS Γ w bs b→NS Γ (putCells w (β t).b ((β t).o +l*z) vs) ((β t).b ::(d1++d4)++b2) b∧(putCells w (β t).b ((β t).o +l*z) vs).heap[b]? =w.heap[b]? :=by
  rintro b ⟨u1,u2,u3⟩
  have hb1:b≠(β t).b :=fun e=>u3 (hp2.mem_iff.2 (by simp [e]))
  refine ⟨⟨u1,by rw [hheap.2]; exact u2,fun hb=>u3 (hp2.mem_iff.2 ?_)⟩,hheap.1 b hb1⟩
  rcases List.mem_append.1 hb with hb|hb
  ·rcases List.mem_cons.1 hb with hb|hb
   ·exact List.mem_append_left _ (by simp [hb])
   ·exact List.mem_append_left _ (List.mem_cons_of_mem _ (hsub b hb))
  ·exact List.mem_append_right _ hb
 refine Rel.step (β1:=β) (bk:=b2) (br:=(β t).b ::b1) (bn:=(β t).b ::(d1++d4)) h0 hr hd (by rw [hhw]; simp) (by rw [hhw,hhx]; simp) hp2 (by rw [hfilt]; exact hrest) (by rw [hheap.2]; exact Nat.le_refl _)
  (fun b _ hb=>hheap.1 b (fun e=>hb (by simp [e]))) (fun _ _=>rfl) (fun _ _=>rfl) hndn ?_ ?_ (fun d hd=>ho d hd _ _) (zP _ _ _ _)
 ·intro b hb
  rw [hheap.2]
  have:b∈(β t).b ::b1:=by
   rcases List.mem_cons.1 hb with rfl|hb
   ·simp
   ·exact List.mem_cons_of_mem _ (hsub b hb)
  exact ⟨.inl this,(hr.own b (hp2.mem_iff.2 (List.mem_append_left _ this))).1⟩
 ·rw [hhw]
  refine ⟨d1++d4,[],by rw [hown]; simp,⟨hLz,?_,.inr ⟨hnil,ws.take (l*z)++vs++ws.drop (l*z+vs.length),?_,?_⟩⟩,rfl⟩
  ·intro q hq
   simp only [List.mem_append] at hq
   rcases hq with (hq|hq)|hq
   ·exact hzz q (List.mem_of_mem_take hq)
   ·exact hyz q hq
   ·exact hzz q (List.mem_of_mem_drop hq)
  ·obtain ⟨arr,e',lo,hi,g1,g2,g3,g4⟩:=hO
   have hle:(β t).o +ws.length≤arr.size:=by
    rcases Nat.eq_zero_or_pos ws.length with e0|e0
    ·omega
    ·have:=g4 (ws.length-1) (by omega)
     have:=(Array.getElem?_eq_some_iff.1 this).1
     omega
   obtain ⟨arr',e'',lo',hi',u1,u2,u3,u4⟩:=zAD (r:=ws.length) (vs:=vs) (j:=l*z) ⟨arr,e',lo,hi,g1,g2,hle,g4⟩ (by rw [hvl,←Nat.add_mul]; exact hmz) (Nat.le_refl _)
   refine ⟨arr',e'',lo',hi',u1,u2,?_,u4⟩
   have:=(zM (off:=(β t).o +l*z) (vs:=vs) g1).1
   rw [this] at u1
   cases u1
   rw [zT]
   exact g3
  ·have m1:=zH.frame (β':=β) hNS _ _ _ (fun b hb=>hheap.1 b (hbin b (by simp [hb]))) hs1
   have m3:=zH.frame (β':=β) hNS _ _ _ (fun b hb=>hheap.1 b (hbin b (by simp [hb]))) hs4
   have key:=(m1.append (hE2 _ _)).append m3
   rw [List.append_nil] at key
   have ex:(xs.drop l).drop ys.length=xs.drop (l+ys.length):=by rw [List.drop_drop]
   have ew:(ws.drop (l*z)).drop (ys.length*z)=ws.drop (l*z+vs.length):=by rw [List.drop_drop,hvl]
   rw [ex,ew] at key
   exact key
end
end Go.Im
set_option linter.unusedVariables false
namespace Go.Im
open Go
section
variable {Γ:Ctx}
end
end Go.Im
set_option linter.unusedVariables false
namespace Go.Im
open Go
section
variable {Γ:Ctx} {ops:Array Oper} {o:Oper}
end
end Go.Im
set_option linter.unusedVariables false
namespace Go.Im
open Go
section
variable {Γ:Ctx} {ops:Array Oper} {o:Oper}
end
end Go.Im
set_option linter.unusedVariables false
namespace Go.Im
open Go
end Go.Im
set_option linter.unusedVariables false
namespace Go.Im
open Go
theorem zCx {P:Program} {w:World} {name:String} {g:Nat} {k:IntKind} {zs:List Int} (hG:∀q∈zBT P,Tab w q.1 q.2) (hn:P.globalNamed name=some g) (hl:lk (zBT P) g=some (· =zs.map fun z=>Value.int k z)):Lib.TabIs P w name k zs:=by
 obtain ⟨ws,e,fz,h,rfl⟩:=hG _ (yY hl)
 unfold Lib.TabIs World.var?
 rw [hn]
 simp only [Option.bind_some]
 rw [h]
theorem zC3 {P:Program} {f:FuncId} {vs:List Value} {v:Value} (h:∀w,(∀q∈zBT P,Tab w q.1 q.2)→Calls P f vs.toArray w fun e w'=>e= .returned v∧w'.os=w.os∧w'.output=w.output∧w.heap.size≤w'.heap.size∧∀b,b<w.heap.size→w'.heap[b]? =w.heap[b]?):Ok P f (vs.map D.sc) [] (some (.sc v,[])):=by
 intro out ho w N β us bs ha hh hnd hlt hN hG
 cases ho
 obtain ⟨rfl,_⟩:=jF ha
 refine (h w (fun q hq=>(hG q hq).2)).mono ?_
 rintro e w' ⟨rfl,h1,h2,h3,h4⟩
 exact ⟨v,[],[],rfl,⟨h1,h2⟩,h3,fun b hb _=>h4 b hb,by simp,by simp,by simp [Rep],rfl⟩
theorem zDc {P:Program} {f:FuncId} {vs:List Value} {v:Value} (h:∀w,(∀q∈zBT P,Tab w q.1 q.2)→Calls P f vs.toArray w fun e w'=>e= .returned v∧∃k os,w'=Sort.grow (w.drewN k) os):Ok P f (vs.map D.sc) [] (some (.sc v,[])):=by
 refine zC3 fun w hG=>(h w hG).mono ?_
 rintro e w' ⟨rfl,k,os,rfl⟩
 refine ⟨rfl,rfl,rfl,?_,fun b hb=>?_⟩
 ·show w.heap.size≤(w.heap++os).size
  rw [Array.size_append]
  exact Nat.le_add_right _ _
 ·show (w.heap++os)[b]? =w.heap[b]?
  rw [Array.getElem?_append_left hb]
end Go.Im
set_option linter.unusedVariables false
namespace Go.Im
open Go
theorem zAr {P:Program} {w:World} {name:String} {g:Nat} {k:IntKind} {zs:List Int} (h:Lib.TabIs P w name k zs) (hn:P.globalNamed name=some g):g<w.heap.size∧Tab w g (· =zs.map fun z=>Value.int k z):=by
 unfold Lib.TabIs World.var? at h
 rw [hn] at h
 simp only [Option.bind_some] at h
 split at h
 ·rename_i cs e fz hh
  cases h
  exact ⟨(Array.getElem?_eq_some_iff.1 hh).1,_,e,fz,hh,rfl⟩
 ·cases h
theorem vP {P:Program} {w:World} {l:List (String×DataW Unit)} {name:String} {g n:Nat} {t e:TypeId} {k:IntKind} {zs:List Int} (h:laidMet P l w) (hl:l.filter (fun x=>x.1==name)=[(name,Lib.tabData k zs)])
  (hg:P.globalNamed name=some g) (hty:(P.globals[g]?).map (·.type)=some t) (ht:P.underlying t=some (.array n e)) (he:P.underlying e=some (.int k)) (hce:P.cellsOf e=1) (hct:P.cellsOf t=n):g<w.heap.size∧Tab w g (· =zs.map fun z=>Value.int k z):=by
 have h2:=h.filter (fun x=>x.1==name)
 rw [hl] at h2
 exact zAr (Lib.tabIs_of_head hg hty ht he hce hct h2) hg
end Go.Im
set_option linter.unusedVariables false
namespace Go.Im
open Go
section
variable {Γ:Ctx} {fc:Code} {k:List II} {σ:St} {T:Type} {K:T→Option (D×List Ent)}
theorem zDZ {e:Option T} (t:Nat) {z:Nat} {xs xs':List (List D)} {tm:List (Nat×D)} {hp:List (Nat×Ent)} (hx:D.ro.roE xs=xs')
  (hj:J Γ fc k (St.mk' tm ((t,.row z xs')::hp)) e K):J Γ fc k (St.mk' tm ((t,.row z xs)::hp)) e K:=by
 subst hx
 refine uO (fun a w hr=>?_) hj
 obtain ⟨h0,β,bs,h⟩:=hr
 obtain ⟨b1,bk,rfl,hE,hrest⟩:=h.hp
 obtain ⟨hz,hzz,hrow⟩:=hE
 have hp:((β t).own ++(b1++bk)).Perm (b1++((β t).own ++bk)):=by
  rw [←List.append_assoc,←List.append_assoc]
  exact List.Perm.append_right _ List.perm_append_comm
 have hnd:=hp.nodup_iff.1 h.nodup
 have hsub:∀b∈(β t).own ++([]++bk),b∈(β t).own ++(b1++bk):=fun b hb=>by
  simp only [List.nil_append,List.mem_append] at hb ⊢
  rcases hb with hb|hb
  ·exact .inl hb
  ·exact .inr (.inr hb)
 have hN:∀b,NS Γ w ((β t).own ++(b1++bk)) b→NS Γ w ((β t).own ++([]++bk)) b:=fun b hb=>NS.sub hsub hb
 have hb:∀b∈b1,NS Γ w ((β t).own ++([]++bk)) b:=fun b hb=>by
  have:=h.own b (hp.mem_iff.2 (List.mem_append_left _ hb))
  refine ⟨?_,this.1,fun hbk=>(List.nodup_append.1 hnd).2.2 b hb b hbk rfl⟩
  rcases this.2 with h1|h1
  ·exact .inr (.inl h1)
  ·exact .inr (.inr h1)
 refine ⟨h0,β,(β t).own ++([]++bk),{defers:=h.defers,size:=h.size,keys:=h.keys,par:=h.par,grow:=h.grow,gh:=h.gh,quiet:=h.quiet,keep:=h.keep,hp:=?_,nodup:=?_,own:=fun b hb=>h.own b (hsub b hb),tm:=?_}⟩
 ·refine ⟨[],bk,rfl,⟨hz,fun x hx=>?_,?_⟩,?_⟩
  ·obtain ⟨e',he',rfl⟩:=wU hx
   rw [xP]; exact hzz e' he'
  ·rcases hrow with ⟨h1,h2,h3⟩|⟨h1,ws,h2,h3⟩
   ·subst h2; exact .inl ⟨h1,rfl,rfl⟩
   ·exact .inr ⟨h1,ws,h2,zH.ro hN xs ws b1 hb h3⟩
  ·exact yB.frame (fun b hb=>⟨hN b hb,rfl⟩) _ _ (fun _ _=>rfl) (fun _ _=>rfl) hrest
 ·exact (List.nodup_append.1 hnd).2.1
 ·exact zBE.frame (fun b hb=>⟨hN b hb,rfl⟩) (fun _ _=>rfl) h.tm
end
end Go.Im
set_option linter.unusedVariables false
namespace Go.Im
open Go
theorem zBY {P:Program} {f:FuncId} {vs:List Value} {v:Value} (h:∀w,Calls P f vs.toArray w fun e w'=>e= .returned v∧RowKit.Below w.heap.size w w'):Ok P f (vs.map D.sc) [] (some (.sc v,[])):=by
 refine zC3 fun w _=>(h w).mono ?_
 rintro e w' ⟨rfl,hb⟩
 exact ⟨rfl,hb.os,hb.output,hb.size,hb.block⟩
end Go.Im
set_option linter.unusedVariables false
namespace Go.Im
open Go Go.Proofs
theorem kI {P:Program} {w:World} {g:Nat} {t:TypeId} {zero:Array Value} (h:w.ShapedOpen P) (hg:g<P.globals.size)
  (h0:((begin P (fun _ _=>0) default).world.heap[g]?).bind Obj.row? =some (zero,t)) (hz:zero.size=1)
  (hb:P.buildable t=true) (hc:P.cellTypes P.depth t=some [t]) (hu:P.underlying t=some (.int .i64)):g<w.heap.size∧Tab w g (fun ws=>∃m,ws=[.int .i64 m]):=by
 obtain ⟨m,hm⟩:=cell_of_shapedOpen_int h hg h0 hz hb hc hu
 obtain ⟨cs,hh,hs,_⟩:=h.1 g zero t hg h0
 rw [cell_of hh] at hm
 refine ⟨(Array.getElem?_eq_some_iff.1 hh).1,cs.toList,t,_,by simpa using hh,m,?_⟩
 obtain ⟨l⟩:=cs
 match l,hs,hm with
 |[],hs,_=>simp at hs; omega
 |[v],_,hm=>simp at hm; rw [hm]
 |_::_::_,hs,_=>simp at hs; omega
section
variable {H:Type} {enc:TypeId×Value→H}
theorem wY {a:Assume} {C:Checked} {os:Os} {f:FuncId} {fn:Func} {s:ChangeSpec} {conds:List PathCond} {apart fresh handsOn again:Bool} {X:World→Array Value→Prop}
  (hX:∀(w w':World) (args:Array Value),w.heap=w'.heap→X w args→X w' args) (own:ownKnob C.prog.godebug=none) (started:os.Started) (noInit:C.prog.inits.idxOf? f=none) (hfn:C.prog.funcs[f]? =some fn)
  (witness:∃(w:World) (tape:Tape) (i:Input),w.os=os∧(w.forCall tape i).Shaped C.prog∧i.vars=[]∧Input.okWide C.prog (w.forCall tape i) .any w.heap.size f i∧
   ((s.pre enc C.prog fn conds apart (w.forCall tape i).memory i.args∧X (w.forCall tape i).memory i.args)∧sizedMet enc C.prog fn (OpenSpec.ofChange s) apart (w.forCall tape i).memory i.args)∧a.holds C.prog (lone (Frame.enter C.prog f i.args .normal) [] (w.forCall tape i)))
  (contract:∀(W:World) (base:Nat) (args:Array Value) (ds gs:List (DataW H)) (before:List MemPlace),W.ShapedOpen C.prog→
   (∀(j:Nat) t v,fn.params[j]? =some t→args[j]? =some v→Value.okWide C.prog W .any base t v)→DataW.Whole enc C.prog fn.params.toList s.vars apart W args.toList ds gs before→
   conds.all (PathCond.test C.prog ⟨fn.params.toList,ds,s.plain.varTypes C.prog,gs⟩)=true→(DataW.weightsEach C.prog (fn.params.toList++s.plain.varTypes C.prog) (ds++gs)).all (· ≤reachBytes)=true→X W args→
   a.holds C.prog (lone (Frame.enter C.prog f args .normal) [] W)→Calls C.prog f args W fun e W'=>∃v,e= .returned v∧s.post enc C.prog fn apart fresh handsOn again W args v W'):
  ReturnsInHanded a C os f .any (fun w args=>(s.pre enc C.prog fn conds apart w args∧X w args)∧sizedMet enc C.prog fn (OpenSpec.ofChange s) apart w args) (s.post enc C.prog fn apart fresh handsOn again):=by
 refine returnsInHanded_of_calls own started noInit witness fun w tape i _ hsh _ hok hpre hholds=>?_
 obtain ⟨_,_,_,fn',hfn',_,_,_,_,hval⟩:=hok
 obtain rfl:fn'=fn:=Option.some.inj (hfn'.symm.trans hfn)
 obtain ⟨⟨⟨ds,gs,before,hw,hc⟩,hx⟩,hz⟩:=hpre
 refine (contract (w.forCall tape i) w.heap.size i.args ds gs before hsh hval (DataW.Whole.of_heap (w':=w.forCall tape i) (by rfl) hw) hc (hz.weights hw) (hX _ _ _ (by rfl) hx) hholds).mono fun e W' ⟨v,he,hp⟩=>?_
 subst he
 exact ChangeSpec.post_blind hp
end
end Go.Im
set_option linter.unusedVariables false
namespace Go.Im
open Go
section
variable {Γ:Ctx} {ops:Array Oper} {o:Oper}
end
end Go.Im
set_option linter.unusedVariables false
namespace Go.Im
open Go
section
variable {β:Nat→Loc} {N:Nat→Prop} {w:World}
end
section
variable {Γ:Ctx} {fc:Code} {k:List II} {σ:St} {T:Type} {K:T→Option (D×List Ent)}
end
section
variable {Γ:Ctx} {ops:Array Oper} {o:Oper}
end
end Go.Im
set_option linter.unusedVariables false
namespace Go.Im
open Go
section
variable {Γ:Ctx} {ops:Array Oper} {o:Oper}
end
end Go.Im
set_option linter.unusedVariables false
namespace Go.Im
open Go
def zEj (n:Nat):List Nat→Bool
 |[]=>false
 |m::ms=>Nat.beq n m||zEj n ms
def dl {α:Type} (del:List Nat) (add:List (Nat×α)):List (Nat×α)→List (Nat×α)
 |[]=>add
 |x::l=>match zEj x.1 del with
  |true=>dl del add l
  |false=>x::dl del add l
section
variable {Γ:Ctx} {fc:Code} {k:List II} {σ:St} {T:Type} {K:T→Option (D×List Ent)}
theorem J_d {e:Option T} (p:Nat) (ids:List (Nat×Nat)) (x:List Nat) (y:List (Nat×D)) (x':List Nat) (y':List (Nat×Ent)) {orc:List (Nat×Cert)} (hor:zAt Γ fc p orc) (hj:J Γ fc (aft fc p) (St.mk' (dl x y σ.tm) (dl x' y' σ.hp)) e K)
  (h:(zDO fc σ.tm p k&&Γ.P.follows .mixedOrders,(chk Γ.P Γ.nt Γ.m fc p orc ids σ (dl x y σ.tm) (dl x' y' σ.hp)).1,(chk Γ.P Γ.nt Γ.m fc p orc ids σ (dl x y σ.tm) (dl x' y' σ.hp)).2.2.1,(chk Γ.P Γ.nt Γ.m fc p orc ids σ (dl x y σ.tm) (dl x' y' σ.hp)).2.2.2.2)=
   (true,(chk Γ.P Γ.nt Γ.m fc p orc ids σ (dl x y σ.tm) (dl x' y' σ.hp)).2.1,(chk Γ.P Γ.nt Γ.m fc p orc ids σ (dl x y σ.tm) (dl x' y' σ.hp)).2.2.2.1,true):=by kernel_rfl):J Γ fc k σ e K:=
 J_g p ids _ _ hor hj h
end
end Go.Im
set_option linter.unusedVariables false
namespace Go.Im
open Go
mutual
inductive Wk:D→D→Prop where
 |same {d:D}:Wk d d
 |ln {z n:Nat} {xs:List (List D)}:Wk (.s false z n xs) (.ln n)
 |tu {cs cs':List D}:WkL cs cs'→Wk (.tu cs) (.tu cs')
 |ag {cs cs':List D}:WkL cs cs'→Wk (.ag cs) (.ag cs')
inductive WkL:List D→List D→Prop where
 |nil:WkL [] []
 |cons {d d':D} {ds ds':List D}:Wk d d'→WkL ds ds'→WkL (d::ds) (d'::ds')
end
section
variable {β:Nat→Loc} {N:Nat→Prop} {w:World}
mutual
theorem Wk.rep:∀{d d':D} {v:Value} {bs:List Nat},Wk d d'→Rep β N w true d v bs→Rep β N w true d' v bs
 |_,_,_,_,.same,h=>h
 |_,_,v,bs,.ln (z:=z) (n:=n) (xs:=xs),h=>by
  have e:=Rep.free (d:=.s false z n xs) rfl h
  subst e
  simp only [Rep] at h ⊢
  obtain ⟨_,_,a,cap,h1,h2,_⟩:=h
  exact ⟨trivial,a,cap,h1,h2⟩
 |_,_,v,bs,.tu hl,h=>by
  simp only [Rep] at h ⊢
  obtain ⟨h1,ws,h2,h3⟩:=h
  exact ⟨trivial,ws,h2,WkL.rep hl h3⟩
 |_,_,v,bs,.ag hl,h=>by
  simp only [Rep] at h ⊢
  obtain ⟨h1,ws,h2,h4,h3⟩:=h
  exact ⟨trivial,ws,h2,h4,WkL.rep hl h3⟩
theorem WkL.rep:∀{ds ds':List D} {vs:List Value} {bs:List Nat},WkL ds ds'→zA β N w true ds vs bs→zA β N w true ds' vs bs
 |_,_,_,_,.nil,h=>h
 |_,_,vs,bs,.cons h1 h2,h=>by
  simp only [zA] at h ⊢
  obtain ⟨v,vs',b1,b2,h3,h4,h5,h6⟩:=h
  exact ⟨v,vs',b1,b2,h3,h4,Wk.rep h1 h5,WkL.rep h2 h6⟩
end
end
theorem jB {β:Nat→Loc} {N:Nat→Prop} {w:World}:∀(xs:List Int),zH β N w (xs.map eU8) (xs.map (Value.int .u8)) []
 |[]=>by simp [zH]
 |x::xs=>by
  simp only [List.map_cons,zH]
  refine ⟨[.int .u8 x],_,[],[],rfl,rfl,?_,jB xs⟩
  simp only [eU8,zA,Rep]
  exact ⟨_,[],[],[],rfl,rfl,⟨rfl,rfl⟩,rfl,rfl⟩
section
variable {Γ:Ctx} {ops:Array Oper} {o:Oper}
theorem zEc {c:Cert} {x:Operand} {T el:TypeId} {t:Nat} {xs:List Int} (hg:o.guard=none) (hop:o.op= .convert T T x)
  (hc:c= {tn:=c.tn,hn:=c.hn,out:=some (.s false 1 xs.length (xs.map eU8)),hx:=[t]}) (hx:OpF c x (.rf t 0 xs.length none)) (hh:(t,.row 1 (xs.map eU8))∈c.hn) (hl:0<xs.length)
  (hT:Γ.P.underlying T=some (.slice el)) (he:Γ.P.underlying el=some (.int .u8)):Valid Γ ops o c:=by
 intro σ a w Q hdst hn ⟨h0,β,bs,hr⟩
 have hwt:Region.wanted o (yielded ops a.tmps)=true:=by simp [Region.wanted,hg]
 rw [if_pos hwt]
 obtain ⟨b1,bk,p1,hE1,hrest⟩:=yB.take hr.hp hr.keys (hn.2.1 _ hh)
 have h1:=OpF.rep hx hn hr
 simp only [Rep] at h1
 obtain ⟨hLz,hzz,hrow⟩:=hE1
 obtain ⟨_,_,⟨hnil,_,hn0,_⟩|⟨hnil,cp,hv,hcap,hroom,_⟩⟩:=h1
 ·omega
 rcases hrow with ⟨hnil',_⟩|⟨_,ws,hO,hE⟩
 ·rw [hnil] at hnil'; cases hnil'
 have hown:(β t).own =[(β t).b]:=by simp [Loc.own,hnil]
 have hws:=kU hE
 subst hws
 obtain ⟨arr,e,lo,hi,g1,g2,g3,g4⟩:=hO
 have hsh:w.shape? (β t).b =some (e,arr.size):=by simp [World.shape?,g1]
 have hrun:(execOp a.eval o).run Γ.P w= .ok (.value (a.eval x)) (w.freeze ⟨(β t).b,arr.size,none⟩ 1):=by
  refine vD (s:=convert T T (a.eval x)) (by simp [execOp,hop]) ?_
  rw [hv]
  simp [convert,run_underlying hT,run_underlying he,markStringish,hsh]
 unfold Oper.wp
 rw [hrun,Oper.upon_value]
 have hne:∀b',b'≠(β t).b →(w.freeze ⟨(β t).b,arr.size,none⟩ 1).heap[b']? =w.heap[b']? :=fun b' hb=>by
  unfold World.freeze
  rw [if_neg (by decide)]
  simp only [Array.getElem?_modify]
  rw [if_neg (fun e=>hb e.symm)]
 have hsz:(w.freeze ⟨(β t).b,arr.size,none⟩ 1).heap.size =w.heap.size:=by
  unfold World.freeze
  rw [if_neg (by decide)]
  simp
 have hat:∃fz,(w.freeze ⟨(β t).b,arr.size,none⟩ 1).heap[(β t).b]? =some (.cells arr e fz):=by
  unfold World.freeze
  rw [if_neg (by decide)]
  simp only [Array.getElem?_modify,if_true,g1,Option.map_some]
  exact ⟨_,rfl⟩
 obtain ⟨fz,hat⟩:=hat
 have hbin:(β t).b ∈bs:=p1.mem_iff.2 (by simp [hown])
 have hnd:=p1.nodup_iff.1 hr.nodup
 have hob:=hr.own _ hbin
 have hNS:NS Γ (w.freeze ⟨(β t).b,arr.size,none⟩ 1) ([]++bk) (β t).b :=by
  refine ⟨?_,by rw [hsz]; exact hob.1,fun h=>?_⟩
  ·rcases hob.2 with h|h
   ·exact .inr (.inl h)
   ·exact .inr (.inr h)
  ·have:=(List.nodup_append.1 hnd).2.2 (β t).b (by simp [hown]) (β t).b (by simp at h; simp [h])
   exact this rfl
 refine Rel.step (β1:=β) (bk:=bk) (br:=(β t).own ++b1) (bn:=[]) h0 hr hdst (by rw [hc]; simp) (by rw [hc]; simp) (by simpa using p1) ?_ (by rw [hsz]; exact Nat.le_refl _) (fun b' _ hb'=>hne b' (fun e=>hb' (by simp [hown,e]))) (fun _ _=>rfl) (fun _ _=>rfl) (by simp) (by simp) (by rw [hc]; exact rfl) ?_ (by unfold World.freeze; rw [if_neg (by decide)]; exact ⟨rfl,rfl⟩)
 ·rw [hc]
  have:=hrest
  rw [show (σ.hp.filter fun x=> !([t]:List Nat).contains x.1)=σ.hp.filter (fun x=>x.1 !=t) from by
   congr 1; funext x; by_cases h:x.1=t<;>simp [h]]
  exact hrest
 ·intro d hd
  rw [hc] at hd
  cases hd
  simp only [Rep]
  refine ⟨by simp,fun y hy=>by obtain ⟨z,_,rfl⟩:=List.mem_map.1 hy; rfl,_,cp,hv,hcap,.inr (.inl ⟨trivial,_,_,_,rfl,hNS,⟨arr,e,fz,hat,fun k hk=>?_⟩,jB xs,trivial⟩)⟩
  have:=g4 k hk
  simpa using this
theorem zDr {xs:List Int} (T el t:Nat) (x:Operand) (hx:OkO x (.rf t 0 xs.length none):=by trivial) (hl:0<xs.length:=by simp) (hT:(Γ.P.underlying T,Γ.P.underlying el)=(some (.slice el),some (.int .u8)):=by kernel_rfl):
  OpV Γ (.convert T T x) {tn:=tnO x (.rf t 0 xs.length none),hn:=[(t,rE 1 eU8 xs)],out:=some (.s false 1 xs.length (xs.map eU8)),hx:=[t]}:=by
 simp only [Prod.mk.injEq] at hT
 intro ops o hop hg
 exact zEc hg hop rfl (hx.f (fun y hy=>hy)) (.head _) hl hT.1 hT.2
end
end Go.Im
set_option linter.unusedVariables false
namespace Go.Im
open Go
section
variable {Γ:Ctx} {ops:Array Oper} {o:Oper}
end
end Go.Im
set_option linter.unusedVariables false
namespace Go.Im
open Go
end Go.Im
set_option linter.unusedVariables false
namespace Go.Im
open Go
theorem zB3 {P:Program} {f:FuncId} {w w':World} {N:Nat→Prop} {bs blk bsub:List Nat} {m z k:Nat} {β:Nat→Loc} {L:List (List D)} {W:List Value} {r:Value}
  (hE:zH β N w L W bsub) (hz:∀e∈L,e.length=z) (hk:L.length=k) (ha:zBr w w' z k 0 W [] blk r) (hblk:∀b∈blk,b∈bs) (hsub:∀b∈bsub,b∈bs) (hnd:bsub.Nodup)
  (hsep:∀b∈bsub,b∉blk) (hlt:∀b∈bs,b<w.heap.size) (hN:∀b,N b→b<w.heap.size∧b∉bs):Post ⟨P,f,w,N,bs,m,β,0⟩ (.s true z k L) [] (.returned r) w':=by
 obtain ⟨hq,ha⟩:=ha
 rcases ha with ⟨hk0,_,rfl,rfl⟩|⟨b,off,c,rfl,hc,hO,hb,hcase⟩
 ·have hL:L=[]:=List.length_eq_zero_iff.1 (by omega)
  subst hL
  refine ⟨_,[],[],rfl,hq,Nat.le_refl _,fun _ _ _=>rfl,by simp,by simp,?_,rfl⟩
  simp only [Rep]
  exact ⟨hk,hz,none,0,by rw [show k=0 by omega],by omega,.inl ⟨by omega,by trivial,fun _=>⟨by trivial,by trivial⟩⟩⟩
 ·have hcommon:(∀b',b'<w.heap.size→b'∉blk→w'.heap[b']? =w.heap[b']?)∧w.heap.size≤w'.heap.size∧(b∈blk∨w.heap.size≤b):=by
   rcases hcase with ⟨rfl,q1,q2⟩|⟨rfl,q1,q2⟩
   ·exact ⟨fun b' _ hb'=>q1 b' (by simpa using hb'),by omega,.inl (by simp)⟩
   ·exact ⟨fun b' hb' _=>q2 b' hb',q1,.inr (Nat.le_refl _)⟩
  obtain ⟨h1,h2,h3⟩:=hcommon
  have hbn:b∉bsub:=fun h=>by
   rcases h3 with h3|h3
   ·exact hsep b h h3
   ·have:=hlt b (hsub b h); omega
  have hNS:∀b',N b'→NS ⟨P,f,w,N,bs,m,β,0⟩ w' (b::bsub++[]) b'∧w'.heap[b']? =w.heap[b']? :=fun b' hb'=>by
   obtain ⟨u1,u2⟩:=hN b' hb'
   refine ⟨⟨.inl hb',by omega,fun h=>?_⟩,h1 b' u1 (fun h=>u2 (hblk b' h))⟩
   simp only [List.append_nil,List.mem_cons] at h
   rcases h with rfl|h
   ·rcases h3 with h3|h3
    ·exact u2 (hblk _ h3)
    ·omega
   ·exact u2 (hsub b' h)
  refine ⟨_,b::bsub,[],rfl,hq,h2,fun b' hb' hb2=>h1 b' hb' (fun h=>hb2 (hblk b' h)),by simpa using ⟨hbn,hnd⟩,?_,?_,rfl⟩
  ·intro b' hb'
   simp only [List.append_nil,List.mem_cons] at hb'
   rcases hb' with rfl|hb'
   ·refine ⟨hb,?_⟩
    rcases h3 with h3|h3
    ·exact .inl (hblk _ h3)
    ·exact .inr h3
   ·have:=hlt b' (hsub b' hb')
    exact ⟨by omega,.inl (hsub b' hb')⟩
  ·simp only [Rep]
   refine ⟨hk,hz,some ⟨b,off,none⟩,c,rfl,by simpa using hc,.inr (.inr ⟨trivial,b,off,W,bsub,rfl,rfl,by simpa using hO,?_⟩)⟩
   exact zH.frame hNS L W bsub (fun b' hb'=>h1 b' (hlt b' (hsub b' hb')) (hsep b' hb')) hE
theorem zBv {β:Nat→Loc} {N:Nat→Prop} {w:World} {α:Type} {enc:α→List D} {xs:List α} {ws:List Value} {bs:List Nat} (hone:∀a,(enc a).all vU=true) (h:zH β N w (xs.map enc) ws bs):∀x∈ws,Value.oneCell x=true:=
 vX (fun e he=>by obtain ⟨a,_,rfl⟩:=List.mem_map.1 he; exact hone a) h
theorem zB8 {P:Program} {f:FuncId} {α:Type} {enc:α→List D} {xs ys:List α} {i:Int} {z:Nat} (hone:∀a,(enc a).all vU=true) (h0:0≤i) (h1:i≤xs.length)
  (hraw:∀(w:World) (v u:Value) (wx wy:List Value) (bx bz:List Nat),Dst w z xs.length v wx bx→Dst w z ys.length u wy bz→(∀b∈bx,b∉bz)→(∀b∈bx++bz,b<w.heap.size)→(∀q∈wx,Value.oneCell q=true)→(∀q∈wy,Value.oneCell q=true)→
   Calls P f #[v,.int .i64 i,u] w fun e w'=>∃r,e= .returned r∧zBr w w' z (xs.length+ys.length) 0 (wx.take (i.toNat*z)++(wy++wx.drop (i.toNat*z))) [] bx r):
  Ok P f [.rf 0 0 xs.length none,.sc (.int .i64 i),.rf 1 0 ys.length none] [.row z (xs.map enc),.row z (ys.map enc)] (some (.s true z (xs.take i.toNat++(ys++xs.drop i.toNat)).length ((xs.take i.toNat++(ys++xs.drop i.toNat)).map enc),[])):=by
 intro out ho w N β vs bs ha hh hnd hlt hN _
 cases ho
 simp only [zA] at ha
 obtain ⟨v,_,a1,a2,rfl,e12,hv,u0,_,a3,a4,rfl,rfl,hi,u,_,a5,a6,rfl,rfl,hu,rfl,rfl⟩:=ha
 have ea:a1=[]∧a3=[]∧a5=[]:=by simpa using e12.symm
 obtain ⟨rfl,rfl,rfl⟩:=ea
 simp only [Rep] at hi
 obtain ⟨rfl,_⟩:=hi
 obtain ⟨b1,_,rfl,hE1,b2,_,rfl,hE2,hnil⟩:=hh
 have hnil':_=[]:=hnil
 subst hnil'
 obtain ⟨wx,hD1,hx,hzx⟩:=zAH hv hE1 (by simp)
 obtain ⟨wy,hD2,hy,hzy⟩:=zAH hu hE2 (by simp)
 simp only [List.append_nil] at hnd hlt hN ⊢
 have hnd1:=List.nodup_append.1 hnd
 have hnd2:=List.nodup_append.1 hnd1.2.1
 have hnd3:=List.nodup_append.1 hnd2.2.1
 refine (hraw w v u wx wy _ _ hD1 hD2 (fun b hb hb'=>hnd1.2.2 b hb b (by simp [hb']) rfl) (fun b hb=>hlt b (by simp only [List.mem_append] at hb ⊢; rcases hb with h|h<;>simp [h])) (zBv hone hx) (zBv hone hy)).mono ?_
 rintro e w' ⟨r,rfl,hA⟩
 obtain ⟨d1,d2,rfl,g1,g2⟩:=hx.cut i.toNat hzx
 have hdd:=List.nodup_append.1 hnd2.1
 have hL:zH β N w ((xs.take i.toNat++(ys++xs.drop i.toNat)).map enc) (wx.take (i.toNat*z)++(wy++wx.drop (i.toNat*z))) (d1++(b2++d2)):=by
  simp only [List.map_append,List.map_take,List.map_drop]
  exact g1.append (hy.append g2)
 refine zB3 (blk:=(β 0).own) hL (fun e he=>?_) (by simp) (by
  rw [show (xs.take i.toNat++(ys++xs.drop i.toNat)).length =xs.length+ys.length by simp; omega]; exact hA) (fun b hb=>by simp [hb]) (fun b hb=>?_) ?_ (fun b hb hb'=>?_) hlt hN
 ·simp only [List.map_append,List.mem_append] at he
  rcases he with he|he|he
  ·rw [List.map_take] at he; exact hzx e (List.mem_of_mem_take he)
  ·exact hzy e he
  ·rw [List.map_drop] at he; exact hzx e (List.mem_of_mem_drop he)
 ·simp only [List.mem_append] at hb ⊢
  rcases hb with h|h|h<;>simp [h]
 ·refine List.nodup_append.2 ⟨hdd.1,List.nodup_append.2 ⟨hnd3.2.1,hdd.2.1,?_⟩,?_⟩
  ·intro x hx' y hy' e
   subst e
   exact hnd2.2.2 x (by simp [hy']) x (by simp [hx']) rfl
  ·intro x hx' y hy' e
   subst e
   rcases List.mem_append.1 hy' with h|h
   ·exact hnd2.2.2 x (by simp [hx']) x (by simp [h]) rfl
   ·exact hdd.2.2 x hx' x h rfl
 ·refine hnd1.2.2 b hb' b ?_ rfl
  simp only [List.mem_append] at hb ⊢
  rcases hb with h|h|h<;>simp [h]
end Go.Im
set_option linter.unusedVariables false
namespace Go.Im
open Go
theorem zBO {arr:Array Value} {o A B:Nat} {X Y W:List Value} (hA:o+A+X.length≤arr.size) (hB:o+B+Y.length≤arr.size)
  (hW:∀k,k<W.length→(if B≤k∧k<B+Y.length then Y[k-B]? else if A≤k∧k<A+X.length then X[k-A]? else arr[o+k]?)=W[k]?):
  ∀k (hk:k<W.length),(wB (wB arr (o+A) X) (o+B) Y)[o+k]? =some W[k]:=by
 intro k hk
 rw [wK _ _ _ (by rw [zT]; exact hB),wK _ _ _ hA]
 have:=hW k hk
 rw [List.getElem?_eq_getElem hk] at this
 rw [←this]
 by_cases c1:B≤k∧k<B+Y.length
 ·rw [if_pos (by omega),if_pos c1]; congr 1; omega
 ·rw [if_neg (by omega),if_neg c1]
  by_cases c2:A≤k∧k<A+X.length
  ·rw [if_pos (by omega),if_pos c2]; congr 1; omega
  ·rw [if_neg (by omega),if_neg c2]
theorem zBr.world {w w1 w2:World} {z n m:Nat} {wx wy:List Value} {blk:List Nat} {r:Value} (h:zBr w w1 z n m wx wy blk r) (hn:0<n+m) (hh:w2.heap=w1.heap) (hq:w2.os=w1.os∧w2.output=w1.output):zBr w w2 z n m wx wy blk r:=by
 obtain ⟨h1,h2⟩:=h
 refine ⟨⟨hq.1.trans h1.1,hq.2.trans h1.2⟩,?_⟩
 rcases h2 with ⟨h2,_⟩|⟨b,off,c,h3,h4,h5,h6,h7⟩
 ·omega
 ·exact .inr ⟨b,off,c,h3,h4,h5.frame (by rw [hh]),by rw [hh]; exact h6,by rw [hh]; exact h7⟩
theorem zBP {wx wy:List Value} {n m k0 z:Nat} (hl:wx.length=n*z) (hly:wy.length=m*z) (hk:k0≤n):∀k,k< (wx.take (k0*z)++(wy++wx.drop (k0*z))).length →
  (wx.take (k0*z)++(wy++wx.drop (k0*z)))[k]? =if k<k0*z then wx[k]? else if k< (k0+m)*z then wy[k-k0*z]? else (wx.drop (k0*z))[k-(k0+m)*z]? :=by
 intro k _
 have hkz:k0*z≤n*z:=Nat.mul_le_mul_right _ hk
 have ht:(wx.take (k0*z)).length =k0*z:=by simp; omega
 have e:(k0+m)*z=k0*z+m*z:=Nat.add_mul _ _ _
 by_cases c1:k<k0*z
 ·rw [if_pos c1,List.getElem?_append_left (by omega),List.getElem?_take,if_pos c1]
 ·rw [if_neg c1,List.getElem?_append_right (by omega),ht]
  by_cases c2:k< (k0+m)*z
  ·rw [if_pos c2,List.getElem?_append_left (by omega)]
  ·rw [if_neg c2,List.getElem?_append_right (by omega)]
   congr 1; omega
theorem zBj {w w0:World} (hw0:w0.heap=w.heap∧w0.os=w.os∧w0.output=w.output) {b off c z n m k0:Nat} {wx wy:List Value} (hO:Own w b off (c*z) wx) (hl:wx.length=n*z) (hly:wy.length=m*z) (hk:k0≤n) (hc:n+m≤c):
  zBr w (putCells (putCells w0 b (off+(k0+m)*z) (wx.drop (k0*z))) b (off+k0*z) wy) z (n+m) 0 (wx.take (k0*z)++(wy++wx.drop (k0*z))) [] [b] (.slice (some ⟨b,off,none⟩) (n+m) c):=by
 obtain ⟨arr,e,lo,hi,g1,g2,g3,g4⟩:=hO
 have g1':w0.heap[b]? =some (.cells arr e (lo,hi)):=by rw [hw0.1]; exact g1
 obtain ⟨p1,p2,p3⟩:=zM (off:=off+(k0+m)*z) (vs:=wx.drop (k0*z)) g1'
 obtain ⟨q1,q2,q3⟩:=zM (off:=off+k0*z) (vs:=wy) p1
 have hkz:k0*z≤n*z:=Nat.mul_le_mul_right _ hk
 have e1:(k0+m)*z=k0*z+m*z:=Nat.add_mul _ _ _
 have e2:(n+m)*z=n*z+m*z:=Nat.add_mul _ _ _
 have hcz:(n+m)*z≤c*z:=Nat.mul_le_mul_right _ hc
 have hlen:(wx.take (k0*z)++(wy++wx.drop (k0*z))).length =(n+m)*z:=by simp; omega
 refine ⟨⟨(zP _ _ _ _).1.trans ((zP _ _ _ _).1.trans hw0.2.1),(zP _ _ _ _).2.trans ((zP _ _ _ _).2.trans hw0.2.2)⟩,.inr ⟨b,off,c,rfl,by omega,?_,?_,.inl ⟨rfl,fun b' hb'=>?_,?_⟩⟩⟩
 ·refine ⟨_,e,lo,hi,q1,by rw [zT,zT]; exact g2,by rw [zT,zT]; exact g3,?_⟩
  rw [List.append_nil]
  refine zBO (by simp; omega) (by omega) (fun k hk'=>?_)
  rw [zBP hl hly hk k hk']
  rw [hlen] at hk'
  by_cases c1:k<k0*z
  ·rw [if_neg (by omega),if_neg (by omega),if_pos c1,g4 k (by omega),List.getElem?_eq_getElem]
  ·by_cases c2:k< (k0+m)*z
   ·rw [if_pos (by omega),if_neg c1,if_pos c2]
   ·rw [if_neg (by omega),if_pos (by simp; omega),if_neg c1,if_neg c2]
 ·rw [q3,p3,hw0.1]
  rcases Nat.lt_or_ge b w.heap.size with h|h
  ·exact h
  ·rw [Array.getElem?_eq_none h] at g1; cases g1
 ·rw [q2 b' hb',p2 b' hb',hw0.1]
 ·rw [q3,p3,hw0.1]
theorem zBL {w w0:World} {ROW:Array Value} {e:TypeId} (hw0:w0.heap=w.heap.push (.cells ROW e (0,0))∧w0.os=w.os∧w0.output=w.output) {c z n m k0:Nat} {wx wy:List Value} {blk:List Nat} (hR:∀k,k<k0*z→ROW[k]? =wx[k]?) (hsz:c*z≤ROW.size) (hl:wx.length=n*z) (hly:wy.length=m*z) (hk:k0≤n) (hc:n+m≤c):
  zBr w (putCells (putCells w0 w.heap.size (k0*z) wy) w.heap.size ((k0+m)*z) (wx.drop (k0*z))) z (n+m) 0 (wx.take (k0*z)++(wy++wx.drop (k0*z))) [] blk (.slice (some ⟨w.heap.size,0,none⟩) (n+m) c):=by
 have g1':w0.heap[w.heap.size]? =some (.cells ROW e (0,0)):=by rw [hw0.1]; simp
 obtain ⟨p1,p2,p3⟩:=zM (off:=k0*z) (vs:=wy) g1'
 obtain ⟨q1,q2,q3⟩:=zM (off:=(k0+m)*z) (vs:=wx.drop (k0*z)) p1
 have hkz:k0*z≤n*z:=Nat.mul_le_mul_right _ hk
 have e1:(k0+m)*z=k0*z+m*z:=Nat.add_mul _ _ _
 have e2:(n+m)*z=n*z+m*z:=Nat.add_mul _ _ _
 have hcz:(n+m)*z≤c*z:=Nat.mul_le_mul_right _ hc
 have hlen:(wx.take (k0*z)++(wy++wx.drop (k0*z))).length =(n+m)*z:=by simp; omega
 refine ⟨⟨(zP _ _ _ _).1.trans ((zP _ _ _ _).1.trans hw0.2.1),(zP _ _ _ _).2.trans ((zP _ _ _ _).2.trans hw0.2.2)⟩,.inr ⟨w.heap.size,0,c,rfl,by omega,?_,?_,.inr ⟨rfl,?_,fun b' hb'=>?_⟩⟩⟩
 ·refine ⟨_,e,0,0,q1,by omega,by rw [zT,zT]; omega,?_⟩
  rw [List.append_nil]
  have key:=zBO (arr:=ROW) (o:=0) (A:=k0*z) (B:=(k0+m)*z) (X:=wy) (Y:=wx.drop (k0*z)) (W:=wx.take (k0*z)++(wy++wx.drop (k0*z))) (by omega) (by simp; omega) (fun k hk'=>?_)
  ·simpa using key
  ·rw [zBP hl hly hk k hk']
   rw [hlen] at hk'
   by_cases c1:k<k0*z
   ·rw [if_neg (by omega),if_neg (by omega),if_pos c1,Nat.zero_add,hR k c1]
   ·by_cases c2:k< (k0+m)*z
    ·rw [if_neg (by omega),if_pos (by omega),if_neg c1,if_pos c2]
    ·rw [if_pos (by simp; omega),if_neg c1,if_neg c2]
 ·rw [q3,p3,hw0.1]; simp
 ·rw [q3,p3,hw0.1]; simp
 ·rw [q2 b' (by omega),p2 b' (by omega)]
  exact wV hw0.1 hb'
theorem uH {w:World} {b k:Nat} {arr:Array Value} {e:TypeId} {lo hi:Nat} (h:w.heap[b]? =some (.cells arr e (lo,hi))) (h2:∀k,k≤arr.size→¬(lo≤k∧k<hi)) (hk:k≤arr.size):w.frozen? ⟨b,k,none⟩=false:=by
 have:=h2 k hk
 simp only [World.frozen?,h,Bool.and_eq_false_imp,decide_eq_true_eq,decide_eq_false_iff_not]
 intro h5 h6; exact this ⟨h5,h6⟩
theorem vF {P:Program} (w:World) (dT sT ty elem:TypeId) (z b o dLen dCap:Nat) (a:Addr) (sLen sCap:Nat) (cs:List Value)
  (hu:P.underlying dT=some (.slice elem)) (hs:(P.info? elem).map (·.size)=some z) (hn:cs.length=Nat.min sLen dLen*z)
  (hsrc:∀j v,cs[j]? =some v→w.cell? (a.add j)=some v) (hc:∀j,j<cs.length→(w.cell? ⟨b,o+j,none⟩).isSome =true) (hf:∀j,j<cs.length→w.frozen? ⟨b,o+j,none⟩=false) (h1:∀v∈cs,v.oneCell'=true):
  (Builtin.copy_ #[dT,sT] ty #[.slice (some ⟨b,o,none⟩) dLen dCap,.slice (some a) sLen sCap]).run P w= .ok (goInt (Nat.min sLen dLen)) (w.setCells b o cs):=by
 have hl:=run_loadCells_list (P:=P) w a cs hsrc
 have hst:=run_storeCells_cells (P:=P) b o cs 0 w (by simpa using hc) (by simpa using hf) h1
 cases hq:P.info? elem with
 |none=>simp [hq] at hs
 |some i=>
  have hi:i.size=z:=by simpa [hq] using hs
  rw [hn] at hl
  simp [Builtin.copy_,run_underlying hu,Builtin.lenOf,Builtin.firstCells,sizeOf,typeInfo,hq,hi,hl,hst]
end Go.Im
set_option linter.unusedVariables false
namespace Go.Im
open Go
section
variable {Γ:Ctx} {ops:Array Oper} {o:Oper}
end
end Go.Im
set_option linter.unusedVariables false
namespace Go.Im
open Go
theorem FzT.all {t z:Nat} {xs:List (List D)}:∀{l:List (Nat×D)},(∀x∈l,x.2.men.contains t=false)→FzT t z xs l l
 |[],_=>.nil
 |(q,d)::l,h=>.cons (.keep (h (q,d) (by simp))) (FzT.all fun x hx=>h x (by simp [hx]))
theorem FzH.all {t z:Nat} {xs:List (List D)}:∀{l:List (Nat×Ent)},(∀x∈l,x.2.men.contains t=false)→FzH t z xs l l
 |[],_=>.nil
 |(q,e)::l,h=>.keep (h (q,e) (by simp)) (FzH.all fun x hx=>h x (by simp [hx]))
end Go.Im

import Derived.Test.YtghacmkpcjdpjaaGreatDoorImD
import Derived.Lib.Bytealg
import Derived.Laws.StructEq
import Derived.Sort.Row
import Derived.Sort.Grow
import Derived.Lib.LaidTab
import Derived.Lib.ItoaNum
import Derived.Deep.Draws
import Derived.LaidSub
import Derived.Below
import Derived.Lib.Split
import Derived.Lib.Join
import Derived.Lib.Repeat
import Derived.Handed
import Derived.Shelf.Vars
set_option linter.unusedVariables false
namespace Go.Im
open Go
def iv (x:Int):D:=.sc (.int .i64 x)
def uv (x:Int):D:=.sc (.int .u8 x)
def bv (b:Bool):D:=.sc (.bool b)
def sv (s:ByteArray):D:=.sc (.string s)
def nv:D:=.sc (.slice none 0 0)
def sl {α:Type} (z:Nat) (e:α→List D) (xs:List α):D:=.s false z xs.length (xs.map e)
def so {α:Type} (z:Nat) (e:α→List D) (xs:List α):D:=.s true z xs.length (xs.map e)
def rr {α:Type} (t:Nat) (xs:List α):D:=.rf t 0 xs.length none
def pp (t:Nat):D:=.pt t 0 0
def rE {α:Type} (z:Nat) (e:α→List D) (xs:List α):Ent:=.row z (xs.map e)
def zJE (fc:Code):Nat→Nat→List II
 |0,_=>[]
 |f+1,p=>if p≤1 then [] else match sub fc (p / 2) with
  | .seq _ _=>if p%2==0 then .c (p+1)::zJE fc f (p / 2) else zJE fc f (p / 2)
  | .block id _=>.b id::zJE fc f (p / 2)
  | .loop _=>.l p::zJE fc f (p / 2)
  |_=>zJE fc f (p / 2)
def aft (fc:Code) (p:Nat):List II:=zJE fc 250 p
def atI (fc:Code) (p:Nat):List II:=.c p::aft fc p
def zJV (fc:Code) (tm:List (Nat×D)) (p:Nat):Nat→List II→Option (List II)
 |0,_=>none
 |n+1,k=>match k with
  | .c q::r=>if q=p then some r else match zHc fc tm (.c q::r) with
   |some k'=>zJV fc tm p n k'
   |none=>none
  |k=>match zHc fc tm k with
   |some k'=>zJV fc tm p n k'
   |none=>none
theorem zCM {fc:Code} {tm:List (Nat×D)} {p:Nat}:∀(n:Nat) (k r:List II),zJV fc tm p n k=some r→∃m,zGH fc tm m k=some (.c p::r)
 |0,k,r,h=>by cases h
 |n+1,k,r,h=>by
  unfold zJV at h
  split at h
  ·rename_i q r'
   split at h
   ·rename_i e; subst e; cases h; exact ⟨0,rfl⟩
   ·split at h
    ·rename_i k' hk'
     obtain ⟨m,hm⟩:=zCM n k' r h
     exact ⟨m+1,by simp only [zGH,hk']; exact hm⟩
    ·cases h
  ·split at h
   ·rename_i k' hk'
    obtain ⟨m,hm⟩:=zCM n k' r h
    exact ⟨m+1,by simp only [zGH,hk']; exact hm⟩
   ·cases h
def II.eq:II→II→Bool
 | .c x,.c y=>x==y
 | .b x,.b y=>x==y
 | .l x,.l y=>x==y
 |_,_=>false
theorem II.zDf:∀{p q:II},II.eq p q=true→p=q
 | .c x,.c y,h=>by simp [II.eq] at h; rw [h]
 | .b x,.b y,h=>by simp [II.eq] at h; rw [h]
 | .l x,.l y,h=>by simp [II.eq] at h; rw [h]
 | .c _,.b _,h=>by cases h
 | .c _,.l _,h=>by cases h
 | .b _,.c _,h=>by cases h
 | .b _,.l _,h=>by cases h
 | .l _,.c _,h=>by cases h
 | .l _,.b _,h=>by cases h
def IIs.eq:List II→List II→Bool
 |[],[]=>true
 |a::k,b::k'=>II.eq a b&&IIs.eq k k'
 |_,_=>false
theorem IIs.zDf:∀{a b:List II},IIs.eq a b=true→a=b
 |[],[],_=>rfl
 |a::k,b::k',h=>by
  simp only [IIs.eq,Bool.and_eq_true] at h
  rw [II.zDf h.1,IIs.zDf h.2]
 |[],_::_,h=>by cases h
 |_::_,[],h=>by cases h
def zIR (fc:Code) (tm:List (Nat×D)) (k':List II):Nat→List II→Bool
 |0,_=>false
 |n+1,k=>if k.length==k'.length&&IIs.eq k k' then true else match zHc fc tm k with
  |some k2=>zIR fc tm k' n k2
  |none=>false
theorem zFh {fc:Code} {tm:List (Nat×D)} {k':List II}:∀(n:Nat) (k:List II),zIR fc tm k' n k=true→∃m,zGH fc tm m k=some k'
 |0,k,h=>by cases h
 |n+1,k,h=>by
  unfold zIR at h
  split at h
  ·rename_i e
   simp only [Bool.and_eq_true] at e
   exact ⟨0,by simp only [zGH]; rw [IIs.zDf e.2]⟩
  ·split at h
   ·rename_i k2 hk2
    obtain ⟨m,hm⟩:=zFh n k2 h
    exact ⟨m+1,by simp only [zGH,hk2]; exact hm⟩
   ·cases h
def zKh (fc:Code) (tm:List (Nat×D)):Nat→List II→Bool
 |0,_=>false
 |n+1,k=>match k with
  |[]=>true
  | .c q::r=>match sub fc q with
   | .ret =>true
   |_=>match zHc fc tm (.c q::r) with
    |some k2=>zKh fc tm n k2
    |none=>false
  |k=>match zHc fc tm k with
   |some k2=>zKh fc tm n k2
   |none=>false
theorem zDd {fc:Code} {tm:List (Nat×D)}:∀(n:Nat) (k:List II),zKh fc tm n k=true→∃m k',zGH fc tm m k=some k'∧(k'=[]∨∃p k'',k'= .c p::k''∧sub fc p= .ret)
 |0,k,h=>by cases h
 |n+1,k,h=>by
  unfold zKh at h
  split at h
  ·exact ⟨0,[],rfl,.inl rfl⟩
  ·rename_i q r
   split at h
   ·rename_i hs
    exact ⟨0,_,rfl,.inr ⟨q,r,rfl,hs⟩⟩
   ·split at h
    ·rename_i k2 hk2
     obtain ⟨m,k',h1,h2⟩:=zDd n k2 h
     exact ⟨m+1,k',by simp only [zGH,hk2]; exact h1,h2⟩
    ·cases h
  ·split at h
   ·rename_i k2 hk2
    obtain ⟨m,k',h1,h2⟩:=zDd n k2 h
    exact ⟨m+1,k',by simp only [zGH,hk2]; exact h1,h2⟩
   ·cases h
section
variable {Γ:Ctx} {fc:Code} {k:List II} {σ:St} {T:Type} {K:T→Option (D×List Ent)}
theorem zB {p:Nat}:zDB Γ fc p []:=trivial
def zK4 (fc:Code) (tm:List (Nat×D)) (p:Nat) (k:List II):Bool:=match zJV fc tm p 60 k with
 |some r=>IIs.eq r (aft fc p)
 |none=>false
theorem J_g {e:Option T} (p:Nat) (ids:List (Nat×Nat)) (tm2:List (Nat×D)) (hp2:List (Nat×Ent)) {orc:List (Nat×Cert)} (hor:zDB Γ fc p orc) (hj:J Γ fc (aft fc p) (St.mk' tm2 hp2) e K)
  (h:(zK4 fc σ.tm p k&&Γ.P.follows .mixedOrders,(chk Γ.P Γ.nt Γ.m fc p orc ids σ tm2 hp2).1,(chk Γ.P Γ.nt Γ.m fc p orc ids σ tm2 hp2).2.2.1,(chk Γ.P Γ.nt Γ.m fc p orc ids σ tm2 hp2).2.2.2.2)=
   (true,(chk Γ.P Γ.nt Γ.m fc p orc ids σ tm2 hp2).2.1,(chk Γ.P Γ.nt Γ.m fc p orc ids σ tm2 hp2).2.2.2.1,true):=by kernel_rfl):J Γ fc k σ e K:=by
 simp only [Prod.mk.injEq,Bool.and_eq_true] at h
 obtain ⟨⟨h0,hm⟩,h1,h2,h3⟩:=h
 unfold zK4 at h0
 split at h0
 ·rename_i r hr
  obtain ⟨m,hm2⟩:=zCM _ _ _ hr
  rw [IIs.zDf h0] at hm2
  refine zJk m _ hm2 (zKy orc ids tm2 hp2 hm hor ?_ hj)
  simp only [Prod.mk.injEq]
  exact ⟨h1,h2,h3⟩
 ·cases h0
theorem zLi {b:Bool} {x y:Option T} (t:Nat) (hl:lk σ.tm t=some (.sc (.bool b)):=by kernel_rfl) (h1:b=true→J Γ fc k ⟨(t,.sc (.bool true))::σ.tm,σ.hp,σ.us⟩ x K) (h2:b=false→J Γ fc k ⟨(t,.sc (.bool false))::σ.tm,σ.hp,σ.us⟩ y K):
  J Γ fc k σ (if b then x else y) K:=by
 cases b with
 |true=>exact zJO true hl rfl (h1 rfl)
 |false=>exact zJO false hl rfl (h2 rfl)
theorem zKq {e:Option T} {k':List II} {tm2:List (Nat×D)} {hp2:List (Nat×Ent)} (hj:J Γ fc k' (St.mk' tm2 hp2) e K)
  (h:(zIR fc σ.tm k' 60 k,tm2.map (fun x=>lk σ.tm x.1),hp2.map (fun x=>lk σ.hp x.1),zAl (hp2.map (·.1)))=(true,tm2.map (fun x=>some x.2),hp2.map (fun x=>some x.2),true):=by kernel_rfl):J Γ fc k σ e K:=by
 simp only [Prod.mk.injEq] at h
 obtain ⟨m,hm⟩:=zFh _ _ h.1
 refine zJk m _ hm (zBq tm2 hp2 ?_ hj)
 simp only [Prod.mk.injEq]
 exact h.2
theorem J_b {S:Type} {g:S→Option T} {s:S} {k':List II} {tm2:List (Nat×D)} {hp2:List (Nat×Ent)} (hj:J Γ fc k' (St.mk' tm2 hp2) (g s) K)
 (h:(zIR fc σ.tm k' 60 k,tm2.map (fun x=>lk σ.tm x.1),hp2.map (fun x=>lk σ.hp x.1),zAl (hp2.map (·.1)))=(true,tm2.map (fun x=>some x.2),hp2.map (fun x=>some x.2),true):=by kernel_rfl):
 J Γ fc k σ (some (Lp.go s)) (fun x=>(Lp.elim g x).bind K):=zLc (zKq hj h)
theorem xS {V:Type} {v:V} {w:T} {K0:V→Option (D×List Ent)} {k':List II} {tm2:List (Nat×D)} {hp2:List (Nat×Ent)} (hj:J Γ fc k' (St.mk' tm2 hp2) (some v) K0) (hK:K w=K0 v)
 (h:(zIR fc σ.tm k' 60 k,tm2.map (fun x=>lk σ.tm x.1),hp2.map (fun x=>lk σ.hp x.1),zAl (hp2.map (·.1)))=(true,tm2.map (fun x=>some x.2),hp2.map (fun x=>some x.2),true):=by kernel_rfl):
 J Γ fc k σ (some w) K:=J_q (zKq hj h) hK
theorem zIz {U:Type} {y:Option U} {f:U→Option T} {k':List II} {tm2:List (Nat×D)} {hp2:List (Nat×Ent)} (hj:J Γ fc k' (St.mk' tm2 hp2) y (fun x=>(f x).bind K))
 (h:(zIR fc σ.tm k' 60 k,tm2.map (fun x=>lk σ.tm x.1),hp2.map (fun x=>lk σ.hp x.1),zAl (hp2.map (·.1)))=(true,tm2.map (fun x=>some x.2),hp2.map (fun x=>some x.2),true):=by kernel_rfl):
 J Γ fc k σ (y.bind f) K:=zCH (zKq hj h)
theorem zBo {R V:Type} {y:Option (Fl R V)} {K0:R→Option (D×List Ent)} {fr:R→Option T} {rest:V→Option T} {k':List II} {tm2:List (Nat×D)} {hp2:List (Nat×Ent)} (hr:∀r,(fr r).bind K=K0 r)
 (hj:J Γ fc k' (St.mk' tm2 hp2) y (Fl.go K0 (fun v=>(rest v).bind K)))
 (h:(zIR fc σ.tm k' 60 k,tm2.map (fun x=>lk σ.tm x.1),hp2.map (fun x=>lk σ.hp x.1),zAl (hp2.map (·.1)))=(true,tm2.map (fun x=>some x.2),hp2.map (fun x=>some x.2),true):=by kernel_rfl):
 J Γ fc k σ (y.bind (Fl.go fr rest)) K:=zJT hr (zKq hj h)
def zK9 (P:Program) (f:FuncId):List ResultVar:=match P.funcs[f]? with
 |some fn=>fn.results.toList
 |none=>[]
theorem zI8 {P:Program} {f:FuncId} (h:(P.funcs[f]?).isSome =true):∃fn,P.funcs[f]? =some fn∧fn.results.toList=zK9 P f:=by
 unfold zK9
 cases hf:P.funcs[f]? with
 |none=>rw [hf] at h; cases h
 |some fn=>exact ⟨fn,rfl,rfl⟩
def D.plain:D→Bool
 | .ag cs=>cs.all D.nest
 |d=>d.nest
theorem Ret.plain {hn:List (Nat×Ent)} {d:D} (h:d.plain=true):Ret hn d d []:=by
 cases d with
 |ag cs=>exact .ag (Emb.zCG hn cs h)
 |_=>exact .cell (.keep h .nil)
theorem zGy.plain {hn:List (Nat×Ent)}:∀{ds:List D},ds.all D.plain=true→zGy hn ds ds []
 |[],_=>.nil
 |d::ds,h=>by
  simp only [List.all_cons,Bool.and_eq_true] at h
  exact .cons (t1:=[]) (Ret.plain h.1) (zGy.plain h.2) (by simp)
theorem zGa:∀{cs:List D},cs.all D.nest=true→D.men.zAc cs=[]
 |[],_=>rfl
 |d::cs,h=>by
  simp only [List.all_cons,Bool.and_eq_true] at h
  simp only [D.men.zAc,zGa h.2,List.append_nil]
  have:=h.1
  cases d<;>simp_all [D.nest,D.men]
theorem zCJ:∀{ds:List D},ds.all D.plain=true→D.men.zAc ds=[]
 |[],_=>rfl
 |d::ds,h=>by
  simp only [List.all_cons,Bool.and_eq_true] at h
  simp only [D.men.zAc,zCJ h.2,List.append_nil]
  have:=h.1
  cases d with
  |ag cs=>simp only [D.men]; exact zGa this
  |_=>simp_all [D.plain,D.nest,D.men]
def zGl (Γ:Ctx) (fc:Code) (k:List II) (σ:St) (hout:List Ent):Bool×Option (List D)×List (Option Ent)×Bool×List Nat×Bool:=
 (zKh fc σ.tm 60 k,zJu Γ.P σ.tm σ.hp (zK9 Γ.P Γ.fid),(zA0 hout).map (fun x=>lk σ.hp x.1),Nat.ble hout.length Γ.m,hout.flatMap Ent.men,(Γ.P.funcs[Γ.fid]?).isSome)
theorem zC7 {v:T} {ds ds':List D} {ts:List Nat} {hout:List Ent} (hret:zGy σ.hp ds ds' ts) (hK:K v=some (zHZ ds',hout))
  (h:(zGl Γ fc k σ hout,D.men.zAc ds',ts.all (fun t=>Nat.ble hout.length t))=((true,some ds,(zA0 hout).map (fun x=>some x.2),true,[],true),[],true):=by kernel_rfl):J Γ fc k σ (some v) K:=by
 simp only [zGl,Prod.mk.injEq] at h
 obtain ⟨⟨h1,h2,h3,h4,h5,h6⟩,h7,h8⟩:=h
 obtain ⟨m,k',g1,g2⟩:=zDd _ _ h1
 obtain ⟨fn,g3,g4⟩:=zI8 h6
 refine zJk m k' g1 (zKB g2 g3 g4 (zDt h2) hret (fun x hx=>⟨kQ h3 x hx,fun ht=>?_⟩) (Nat.le_of_ble_eq_true h4) (by rw [h7]; simp) (fun e he t ht=>?_) hK)
 ·have h1:=Nat.le_of_ble_eq_true (List.all_eq_true.1 h8 _ ht)
  have h2:=(List.getElem?_eq_some_iff.1 (zED.1 hx)).1
  omega
 ·have:t∈hout.flatMap Ent.men:=List.mem_flatMap.2 ⟨e,he,ht⟩
  rw [h5] at this
  simp at this
theorem xA {v:T} {d:D} {hout:List Ent} (hK:K v=some (d,hout))
  (h:(zGl Γ fc k σ hout,d.plain)=((true,some [d],(zA0 hout).map (fun x=>some x.2),true,[],true),true):=by kernel_rfl):J Γ fc k σ (some v) K:=by
 simp only [Prod.mk.injEq] at h
 have hp:[d].all D.plain=true:=by simpa using h.2
 refine zC7 (ds:=[d]) (ds':=[d]) (ts:=[]) (zGy.plain hp) hK ?_
 simp only [Prod.mk.injEq]
 exact ⟨h.1,zCJ hp,rfl⟩
theorem zHY {v:T} {ds:List D} {hout:List Ent} (hK:K v=some (.tu ds,hout))
  (h:(zGl Γ fc k σ hout,ds.all D.plain,ds.length==1)=((true,some ds,(zA0 hout).map (fun x=>some x.2),true,[],true),true,false):=by kernel_rfl):J Γ fc k σ (some v) K:=by
 simp only [Prod.mk.injEq] at h
 obtain ⟨h1,hp,hl⟩:=h
 have:zHZ ds= .tu ds:=by
  match ds,hl with
  |[],_=>rfl
  |d1::d2::ds,_=>rfl
 refine zC7 (ds:=ds) (ds':=ds) (ts:=[]) (zGy.plain hp) (by rw [this]; exact hK) ?_
 simp only [Prod.mk.injEq]
 exact ⟨h1,zCJ hp,rfl⟩
end
def OpV (Γ:Ctx) (op:Op) (c:Cert):Prop:=∀(ops:Array Oper) (o:Oper),o.op=op→o.guard=none→Valid Γ ops o c
def zK7 (Γ:Ctx) (op:Op) (c:Cert):Prop:=∀(ops:Array Oper) (o:Oper),o.op=op→o.guard=none→o.dst=none→Valid Γ ops o c
section
variable {Γ:Ctx} {fc:Code} {p:Nat}
theorem zM {rest:List (Nat×Cert)} {op:Op} {c:Cert} (i:Nat) (hv:OpV Γ op c) (hr:zDB Γ fc p rest) (h:(opAt fc p i).map (fun o=>(o.op,o.guard))=some (op,none):=by kernel_rfl):zDB Γ fc p ((i,c)::rest):=
 ⟨zKQ h hv,hr⟩
theorem zKP {rest:List (Nat×Cert)} {op:Op} {c:Cert} (i:Nat) (hv:zK7 Γ op c) (hr:zDB Γ fc p rest) (h:(opAt fc p i).map (fun o=>(o.op,o.guard,o.dst))=some (op,none,none):=by kernel_rfl):zDB Γ fc p ((i,c)::rest):=
 ⟨zKD h hv,hr⟩
theorem zB8 {rest:List (Nat×Cert)} {op:Op} {c:Cert} (i g t:Nat) (b:Bool) (hv:OpV Γ op c) (hr:zDB Γ fc p rest) (h:((opAt fc p i).map (fun o=>(o.op,o.guard)),zEK fc p g)=(some (op,some (g,b)),some t):=by kernel_rfl):
  zDB Γ fc p ((i,{c with tn:=(t,.sc (.bool b))::c.tn})::rest):=by
 simp only [Prod.mk.injEq] at h
 exact ⟨zLf h.1 h.2 hv,hr⟩
theorem zIb {rest:List (Nat×Cert)} {c:Cert} (i:Nat) (hv:∀id ops draw,sub fc p= .region id ops draw→∀o,ops[i]? =some o→Valid Γ ops o c) (hr:zDB Γ fc p rest):zDB Γ fc p ((i,c)::rest):=⟨hv,hr⟩
def tnO (x:Operand) (d:D):List (Nat×D):=match x with
 | .tmp t=>[(t,d)]
 |_=>[]
def OkO (x:Operand) (d:D):Prop:=match x with
 | .tmp _=>True
 | .const v=>d= .sc v
 | .func f=>d= .fn f []
 | .global _=>False
theorem OkO.f {c:Cert} {x:Operand} {d:D} (h:OkO x d) (hs:∀y∈tnO x d,y∈c.tn):OpF c x d:=by
 cases x with
 |tmp t=>exact hs _ (by simp [tnO])
 |const v=>exact h
 |func f=>exact h
 |global g=>exact h.elim
theorem zFq {α:Type} {xs:List α} {i:Int} {a:α} {kk:IntKind} (T el z:Nat) (enc:α→List D) (x y:Operand) (h:idx xs i=some a) (hx:OkO x (.s false z xs.length (xs.map enc)):=by trivial) (hy:OkO y (.sc (.int kk i)):=by first|trivial|rfl)
  (hT:(zX Γ.P (underlying T),zBG Γ.P el)=(some (.slice el),some z):=by kernel_rfl):OpV Γ (.indexAddr T x y) {tn:=tnO x (.s false z xs.length (xs.map enc))++tnO y (.sc (.int kk i)),out:=some (.ps (enc a))}:=by
 simp only [Prod.mk.injEq] at hT
 intro ops o hop hg
 exact zJ2 h hg hop rfl (hx.f (fun y hy=>List.mem_append_left _ hy)) (hy.f (fun y hy=>List.mem_append_right _ hy)) hT.1 hT.2
theorem zBM {α:Type} {xs:List α} {i:Int} {a:α} {kk:IntKind} (T el z t:Nat) (enc:α→List D) (x y:Operand) (h:idx xs i=some a) (hx:OkO x (.rf t 0 xs.length none):=by trivial) (hy:OkO y (.sc (.int kk i)):=by first|trivial|rfl)
  (hT:(zX Γ.P (underlying T),zBG Γ.P el)=(some (.slice el),some z):=by kernel_rfl):
  OpV Γ (.indexAddr T x y) {tn:=tnO x (.rf t 0 xs.length none)++tnO y (.sc (.int kk i)),hn:=[(t,rE z enc xs)],out:=some (.pt t i.toNat 0)}:=by
 simp only [Prod.mk.injEq] at hT
 intro ops o hop hg
 exact zG7 h hg hop rfl (hx.f (fun y hy=>List.mem_append_left _ hy)) (hy.f (fun y hy=>List.mem_append_right _ hy)) (.head _) hT.1 hT.2
theorem zAZ {α:Type} {xs:List α} {i:Int} {a:α} {d:D} (T z t j:Nat) (enc:α→List D) (x:Operand) (h:idx xs i=some a) (hd:(((enc a).drop j).all zAt,jY Γ.P T ((enc a).drop j))=(true,some d)) (hx:OkO x (.pt t i.toNat j):=by trivial):
  OpV Γ (.load T x) {tn:=tnO x (.pt t i.toNat j),hn:=[(t,rE z enc xs)],out:=some d}:=by
 simp only [Prod.mk.injEq] at hd
 intro ops o hop hg
 exact zGv h hg hop rfl (hx.f (fun y hy=>hy)) (.head _) hd.1 hd.2
theorem zGN {s:ByteArray} {i b:Int} {kk:IntKind} (T:Nat) (x y:Operand) (h:bidx s i=some b) (hx:OkO x (.sc (.string s)):=by first|trivial|rfl) (hy:OkO y (.sc (.int kk i)):=by first|trivial|rfl) (hT:zX Γ.P (underlying T)=some .string :=by kernel_rfl):
  OpV Γ (.index T x y) {tn:=tnO x (.sc (.string s))++tnO y (.sc (.int kk i)),out:=some (.sc (.int .u8 b))}:=by
 intro ops o hop hg
 exact zKo h hg hop rfl (hx.f (fun y hy=>List.mem_append_left _ hy)) (hy.f (fun y hy=>List.mem_append_right _ hy)) hT
theorem zC9 {s1 s2 s:ByteArray} (T U:Nat) (x y:Operand) (h:cat s1 s2=some s) (hx:OkO x (.sc (.string s1)):=by first|trivial|rfl) (hy:OkO y (.sc (.string s2)):=by first|trivial|rfl):
  OpV Γ (.binOp .add T x y U) {tn:=tnO x (.sc (.string s1))++tnO y (.sc (.string s2)),out:=some (.sc (.string s))}:=by
 intro ops o hop hg
 exact zIv h hg hop rfl (hx.f (fun y hy=>List.mem_append_left _ hy)) (hy.f (fun y hy=>List.mem_append_right _ hy))
theorem zJq {α:Type} {xs:List α} (T el U z:Nat) (enc:α→List D) (x:Operand) (hx:OkO x (.s false z xs.length (xs.map enc)):=by trivial) (hT:zX Γ.P (underlying T)=some (.slice el):=by kernel_rfl):
  OpV Γ (.binOp .eql T x (.const (.slice none 0 0)) U) {tn:=tnO x (.s false z xs.length (xs.map enc)),out:=some (.nb xs.length)}:=by
 intro ops o hop hg
 exact zJn hg hop rfl (hx.f (fun y hy=>hy)) hT
def tnB (x:Option Operand) (i:Int):List (Nat×D):=match x with
 |some y=>tnO y (.sc (.int .i64 i))
 |none=>[]
def OkB (x:Option Operand) (dflt i:Int):Prop:=match x with
 |some y=>OkO y (.sc (.int .i64 i))
 |none=>i=dflt
theorem OkB.f {c:Cert} {x:Option Operand} {dflt:Nat} {i:Int} (h:OkB x dflt i) (hs:∀y∈tnB x i,y∈c.tn):zIQ c x dflt i:=by
 cases x with
 |none=>exact h
 |some y=>exact ⟨_,OkO.f (d:=.sc (.int .i64 i)) h hs⟩
theorem zJj {s r:ByteArray} {l hi:Int} (T:Nat) (x:Operand) (lo ho:Option Operand) (h:zCg s l hi=some r) (hx:OkO x (.sc (.string s)):=by first|trivial|rfl) (hl:OkB lo (0:Nat) l:=by first|trivial|rfl) (hh:OkB ho s.size hi:=by first|trivial|rfl) (hT:zX Γ.P (underlying T)=some .string :=by kernel_rfl):
  OpV Γ (.slice T x lo ho none) {tn:=tnO x (.sc (.string s))++(tnB lo l++tnB ho hi),out:=some (.sc (.string r))}:=by
 intro ops o hop hg
 exact zJH h hg hop rfl (hx.f (fun y hy=>List.mem_append_left _ hy)) (hl.f (fun y hy=>List.mem_append_right _ (List.mem_append_left _ hy))) (hh.f (fun y hy=>List.mem_append_right _ (List.mem_append_right _ hy))) hT
theorem zKS {α:Type} {xs r:List α} {l hi:Int} (T el z:Nat) (enc:α→List D) (x:Operand) (lo ho:Option Operand) (h:zFp xs l hi=some r) (hx:OkO x (.s false z xs.length (xs.map enc)):=by first|trivial|rfl) (hl:OkB lo (0:Nat) l:=by first|trivial|rfl) (hh:OkB ho xs.length hi:=by first|trivial|rfl)
  (hT:(zX Γ.P (underlying T),zBG Γ.P el)=(some (.slice el),some z):=by kernel_rfl):
  OpV Γ (.slice T x lo ho none) {tn:=tnO x (.s false z xs.length (xs.map enc))++(tnB lo l++tnB ho hi),out:=some (.s false z r.length (r.map enc))}:=by
 simp only [Prod.mk.injEq] at hT
 intro ops o hop hg
 exact zJK h hg hop rfl (hx.f (fun y hy=>List.mem_append_left _ hy)) (hl.f (fun y hy=>List.mem_append_right _ (List.mem_append_left _ hy))) (hh.f (fun y hy=>List.mem_append_right _ (List.mem_append_right _ hy))) hT.1 hT.2
end
end Go.Im
set_option linter.unusedVariables false
namespace Go.Im
open Go
section
variable {Γ:Ctx}
theorem zKf {xs:List Int} (S Dd e:Nat) (x:Operand) (hx:OkO x (.s false 1 xs.length (xs.map eU8)):=by trivial) (hT:(Γ.P.underlying S,Γ.P.underlying e,Γ.P.underlying Dd)=(some (.slice e),some (.int .u8),some .string):=by kernel_rfl):
  OpV Γ (.convert S Dd x) {tn:=tnO x (.s false 1 xs.length (xs.map eU8)),out:=some (.sc (.string (b2s xs)))}:=by
 simp only [Prod.mk.injEq] at hT
 intro ops o hop hg
 exact zJx hg hop rfl (hx.f (fun y hy=>hy)) hT.1 hT.2.1 hT.2.2
def zGB (P:Program) (el:TypeId):Value:=(zX P (zeroValue el)).getD default
def zIO (P:Program) (el:TypeId):Option (Option Value×Nat×Nat):=(P.info? el).map (fun i=>(i.zero,i.size,i.bytes))
theorem zJC {α:Type} {xs ys zs:List α} (T U el e' z bytes t td ts:Nat) (enc:α→List D) (x y:Operand) (h:app bytes xs ys=some zs) (hx:OkO x (.rf td 0 xs.length none):=by trivial) (hy:OkO y (.rf ts 0 ys.length none):=by trivial)
  (hone:∀a,(enc a).all zAt=true:=by intro _; rfl) (hT:(Γ.P.underlying T,Γ.P.underlying U,zIO Γ.P el,(zGB Γ.P el).cells.size,Nat.ble Γ.m t,td==ts)=(some (.slice el),some (.slice e'),some (some (zGB Γ.P el),z,bytes),z,true,false):=by kernel_rfl):
  OpV Γ (.call {callee:=.builtin .append,args:= #[x,y],argTypes:= #[T,U]}) {tn:=tnO x (.rf td 0 xs.length none)++tnO y (.rf ts 0 ys.length none),hn:=[(td,rE z enc xs),(ts,rE z enc ys)],out:=some (.rf t 0 zs.length none),hx:=[td,ts],hw:=[(t,rE z enc zs)],fr:=[t]}:=by
 simp only [Prod.mk.injEq] at hT
 obtain ⟨h1,h2,h3,h4,h5,h6⟩:=hT
 intro ops o hop hg
 exact zI7 (enc:=enc) h (Nat.le_of_ble_eq_true h5) (by simpa using h6) hone hg hop rfl (hx.f (fun y hy=>List.mem_append_left _ hy)) (hy.f (fun y hy=>List.mem_append_right _ hy)) (.head _) (.tail _ (.head _)) h1 h2 h3 h4
theorem zK2 {α:Type} {xs ys zs:List α} (T U el e' z bytes t td:Nat) (enc:α→List D) (x y:Operand) (h:app bytes xs ys=some zs) (hx:OkO x (.rf td 0 xs.length none):=by trivial) (hy:OkO y (.s false z ys.length (ys.map enc)):=by trivial)
  (hone:∀a,(enc a).all zAt=true:=by intro _; rfl) (hT:(Γ.P.underlying T,Γ.P.underlying U,zIO Γ.P el,(zGB Γ.P el).cells.size,Nat.ble Γ.m t)=(some (.slice el),some (.slice e'),some (some (zGB Γ.P el),z,bytes),z,true):=by kernel_rfl):
  OpV Γ (.call {callee:=.builtin .append,args:= #[x,y],argTypes:= #[T,U]}) {tn:=tnO x (.rf td 0 xs.length none)++tnO y (.s false z ys.length (ys.map enc)),hn:=[(td,rE z enc xs)],out:=some (.rf t 0 zs.length none),hx:=[td],hw:=[(t,rE z enc zs)],fr:=[t]}:=by
 simp only [Prod.mk.injEq] at hT
 obtain ⟨h1,h2,h3,h4,h5⟩:=hT
 intro ops o hop hg
 exact zG5 (enc:=enc) h (Nat.le_of_ble_eq_true h5) hone hg hop rfl (hx.f (fun y hy=>List.mem_append_left _ hy)) (hy.f (fun y hy=>List.mem_append_right _ hy)) (.head _) h1 h2 h3 h4
theorem zLk {α:Type} {xs:List α} {a b:α} {ix:Int} (T z t j:Nat) (enc:α→List D) (d:D) (x y:Operand) (h:idx xs ix=some a) (hb:enc b=(enc a).take j++cellsD d++(enc a).drop (j+(cellsD d).length))
  (hx:OkO x (.pt t ix.toNat j):=by trivial) (hy:OkO y d:=by first|trivial|rfl)
  (hT:((cellsD d).all D.cell,(cellsD d).all D.nest,zBG Γ.P T,Nat.ble (j+(cellsD d).length) z)=(true,true,some (cellsD d).length,true):=by kernel_rfl):
  zK7 Γ (.store T x y) {tn:=tnO x (.pt t ix.toNat j)++tnO y d,hn:=[(t,rE z enc xs)],hx:=[t],hw:=[(t,rE z enc (xs.set ix.toNat b))]}:=by
 simp only [Prod.mk.injEq] at hT
 obtain ⟨h1,h2,h3,h4⟩:=hT
 intro ops o hop hg hds
 exact zCR (enc:=enc) (es':=cellsD d) (hm:=[]) (ts:=[]) h hg hop hds rfl (hx.f (fun y hy=>List.mem_append_left _ hy)) (hy.f (fun y hy=>List.mem_append_right _ hy)) hb h1 h3 (Nat.le_of_ble_eq_true h4) (.head _) (Emb.zCG [] _ h2) (fun q hq=>by simp at hq)
theorem zKJ {α:Type} {xs:List α} {a b:α} {ix:Int} {es':List D} {ts:List Nat} (T z t j:Nat) (enc:α→List D) (d:D) (x y:Operand) (hm:List (Nat×Ent)) (h:idx xs ix=some a) (hem:Emb hm (cellsD d) es' ts) (hb:enc b=(enc a).take j++es'++(enc a).drop (j+(cellsD d).length))
  (hx:OkO x (.pt t ix.toNat j):=by trivial) (hy:OkO y d:=by first|trivial|rfl)
  (hT:((cellsD d).all D.cell,zBG Γ.P T,Nat.ble (j+(cellsD d).length) z,hm.all (fun q=>q.1 !=t))=(true,some (cellsD d).length,true,true):=by kernel_rfl):
  zK7 Γ (.store T x y) {tn:=tnO x (.pt t ix.toNat j)++tnO y d,hn:=(t,rE z enc xs)::hm,hx:=t::ts,hw:=[(t,rE z enc (xs.set ix.toNat b))]}:=by
 simp only [Prod.mk.injEq] at hT
 obtain ⟨h1,h3,h4,h5⟩:=hT
 intro ops o hop hg hds
 exact zCR (enc:=enc) (es':=es') (hm:=hm) (ts:=ts) h hg hop hds rfl (hx.f (fun y hy=>List.mem_append_left _ hy)) (hy.f (fun y hy=>List.mem_append_right _ hy)) hb h1 h3 (Nat.le_of_ble_eq_true h4) (.head _) hem (fun q hq=>⟨List.mem_cons_of_mem _ hq,zKc h5 q hq⟩)
def zIM (x:Operand) (d:D):D:=match x with
 | .tmp _=>d
 | .const v=>.sc v
 | .func f=>.fn f []
 | .global _=>.un
theorem OkO.of {x:Operand} {d:D} (hg:∀g,x≠ .global g) (h:zIM x d=d):OkO x d:=by
 cases x with
 |tmp t=>trivial
 |const v=>exact h.symm
 |func f=>exact h.symm
 |global g=>exact absurd rfl (hg g)
def zIL:Operand→Bool
 | .global _=>false
 |_=>true
def tnL:List Operand→List D→List (Nat×D)
 |x::xs,d::ds=>tnO x d++tnL xs ds
 |_,_=>[]
theorem zGC {c:Cert}:∀{xs:List Operand} {ds:List D},ds.length=xs.length→xs.all zIL=true→List.zipWith zIM xs ds=ds→(∀y∈tnL xs ds,y∈c.tn)→∀(k:Nat) (d:D),ds[k]? =some d→∃x,xs[k]? =some x∧OpF c x d
 |[],[],_,_,_,_,k,d,h=>by simp at h
 |x::xs,d0::ds,hl,hg,hz,hs,0,d,h=>by
  simp at h
  subst h
  simp only [List.zipWith_cons_cons,List.cons.injEq] at hz
  simp only [List.all_cons,Bool.and_eq_true] at hg
  refine ⟨x,rfl,(OkO.of (fun g e=>by subst e; simp [zIL] at hg) hz.1).f (fun y hy=>hs y (by simp [tnL,hy]))⟩
 |x::xs,d0::ds,hl,hg,hz,hs,k+1,d,h=>by
  simp only [List.zipWith_cons_cons,List.cons.injEq] at hz
  simp only [List.all_cons,Bool.and_eq_true] at hg
  obtain ⟨x',h1,h2⟩:=zGC (c:=c) (by simpa using hl) hg.2 hz.2 (fun y hy=>hs y (by simp [tnL,hy])) k d (by simpa using h)
  exact ⟨x',by simpa using h1,h2⟩
 |[],_::_,hl,_,_,_,_,_,_=>by simp at hl
 |_::_,[],hl,_,_,_,_,_,_=>by simp at hl
def zKG (P:Program) (el n z:Nat):Array Value:=if n*z=0 then #[] else (zGB P el).cells
def zKv (P:Program) (el n z:Nat):List Value:=((Array.range (n*z)).map ((zKG P el n z)[· %(zKG P el n z).size]!)).toList
theorem zKx {α:Type} {ds:List D} {ts:List Nat} (T el z t:Nat) (enc:α→List D) (lst:List α) (js:List Nat) (xs:List Operand) (dl:List D) (hn:List (Nat×Ent)) (he:Emb hn ds (lst.map enc).flatten ts)
  (hT:(zX Γ.P (underlying T),zBG Γ.P el,zX Γ.P (zeroValue el),Nat.ble (lst.length*z) 1000,(zKv Γ.P el lst.length z).all Value.oneCell,Nat.ble Γ.m t)=(some (.slice el),some z,some (zGB Γ.P el),true,true,true):=by kernel_rfl)
  (hD:(dl.length,js.length,xs.all zIL,List.zipWith zIM xs dl,dl.all (fun d=>(cellsD d).all D.cell),zD6 (fun i=>some (i*z,z)) ((zKv Γ.P el lst.length z).map D.sc) (js.zip dl),(lst.map enc).all (fun e=>e.length==z))=(xs.length,xs.length,true,dl,true,some ds,true):=by kernel_rfl):
  OpV Γ (.buildSlice T lst.length (js.zip xs).toArray) {tn:=tnL xs dl,hn:=hn,out:=some (.rf t 0 lst.length none),hx:=ts,hw:=[(t,rE z enc lst)],fr:=[t]}:=by
 simp only [Prod.mk.injEq] at hT hD
 obtain ⟨h1,h2,h3,h4,h5,h6⟩:=hT
 obtain ⟨g1,g2,g3,g4,g5,g6,g7⟩:=hD
 intro ops o hop hg
 refine zIg (n:=lst.length) (zv:=zGB Γ.P el) (zc:=zKG Γ.P el lst.length z) (dl:=js.zip dl) (ds:=ds) (xs:=lst.map enc) (ts:=ts) hg hop rfl (Nat.le_of_ble_eq_true h6) h1 h2 (Nat.le_of_ble_eq_true h4) h3 rfl h5 (by simp [g1,g2]) ?_ g6 (by simp) ?_ he
 ·intro k i d hk
  rw [List.getElem?_zip_eq_some] at hk
  obtain ⟨x,hx1,hx2⟩:=zGC (c:= {tn:=tnL xs dl,hn:=hn,out:=some (.rf t 0 lst.length none),hx:=ts,hw:=[(t,rE z enc lst)],fr:=[t]}) g1 g3 g4 (fun y hy=>hy) k d hk.2
  refine ⟨x,?_,hx2,List.all_eq_true.1 g5 d (List.mem_of_getElem? hk.2)⟩
  simp only [List.getElem?_toArray]
  exact List.getElem?_zip_eq_some.2 ⟨hk.1,hx1⟩
 ·intro e he'
  simpa using List.all_eq_true.1 g7 e he'
theorem zDR {α:Type} (T el z t:Nat) (enc:α→List D) (lst:List α) (js:List Nat) (xs:List Operand) (dl:List D)
  (hT:(zX Γ.P (underlying T),zBG Γ.P el,zX Γ.P (zeroValue el),Nat.ble (lst.length*z) 1000,(zKv Γ.P el lst.length z).all Value.oneCell,Nat.ble Γ.m t)=(some (.slice el),some z,some (zGB Γ.P el),true,true,true):=by kernel_rfl)
  (hD:(dl.length,js.length,xs.all zIL,List.zipWith zIM xs dl,dl.all (fun d=>(cellsD d).all D.cell),zD6 (fun i=>some (i*z,z)) ((zKv Γ.P el lst.length z).map D.sc) (js.zip dl),(lst.map enc).all (fun e=>e.length==z),(lst.map enc).flatten.all D.nest)=(xs.length,xs.length,true,dl,true,some (lst.map enc).flatten,true,true):=by kernel_rfl):
  OpV Γ (.buildSlice T lst.length (js.zip xs).toArray) {tn:=tnL xs dl,hn:=[],out:=some (.rf t 0 lst.length none),hx:=[],hw:=[(t,rE z enc lst)],fr:=[t]}:=by
 simp only [Prod.mk.injEq] at hD
 obtain ⟨g1,g2,g3,g4,g5,g6,g7,g8⟩:=hD
 refine zKx T el z t enc lst js xs dl [] (Emb.zCG [] _ g8) hT ?_
 simp only [Prod.mk.injEq]
 exact ⟨g1,g2,g3,g4,g5,g6,g7⟩
theorem AmL.zE3 {hn:List (Nat×Ent)} {ids:List Nat} {bor:Bool}:∀{ds:List D},D.men.zAc ds=[]→AmL hn ids bor ds ds
 |[],_=>.nil
 |d::ds,h=>by
  simp only [D.men.zAc,List.append_eq_nil_iff] at h
  exact .cons (.same h.1) (AmL.zE3 h.2)
theorem zF7 {hn:List (Nat×Ent)} {ids:List Nat} {t z:Nat} {α:Type} {enc enc':α→List D} {xs:List α} (hm:(t,rE z enc xs)∈hn) (hr:∀a,D.ro.roC (enc a)=enc' a) (ht:ids.contains t=false):Am hn ids true (.rf t 0 xs.length none) (.s false z xs.length (xs.map enc')):=
 .bor hm (by simpa using ht) (by simp) (zKg hr xs rfl rfl)
def D.nm1 (d:D):Bool:=d.free&&d.men.isEmpty
def D.nm2:D→Bool
 | .ag cs=>cs.all D.nm1
 |d=>d.nm1
def D.nm:D→Bool
 | .tu vs=>vs.all D.nm2
 |d=>d.nm2
theorem zGb {d:D} (h:d.nm1=true):Nm d d []:=by
 simp only [D.nm1,Bool.and_eq_true,List.isEmpty_iff] at h
 exact .same h.2 h.1
theorem zEo {p:D→Bool} (hp:∀d,p d=true→Nm d d []):∀{cs:List D},cs.all p=true→NmL cs cs []
 |[],_=>.nil
 |d::cs,h=>by
  simp only [List.all_cons,Bool.and_eq_true] at h
  exact .cons (e1:=[]) (hp d h.1) (zEo hp h.2)
theorem zFV {d:D} (h:d.nm2=true):Nm d d []:=by
 cases d with
 |ag cs=>exact .ag (zEo (fun _=>zGb) h)
 |_=>exact zGb h
theorem zHv {d:D} (h:d.nm=true):Nm d d []:=by
 cases d with
 |tu cs=>exact .tu (zEo (fun _=>zFV) h)
 |_=>exact zFV h
theorem zW {v:Value}:(D.sc v).flat :=trivial
theorem zBZ {z n:Nat} {xs:List (List D)} (h:zF2 xs):(D.s true z n xs).flat :=⟨rfl,h⟩
theorem zDu {cs:List D} (h:zAk cs):(D.ag cs).flat :=h
theorem zHX {cs:List D} (h:zAk cs):(D.tu cs).flat :=h
theorem zAQ:zAk []:=trivial
theorem fhN:zCy []:=trivial
theorem flatK {d:D} {ds:List D} (h1:d.flat) (h2:zAk ds):zAk (d::ds):=⟨h1,h2⟩
theorem zD5 {α:Type} {enc:α→List D} (h:∀a,zAk (enc a)):∀(xs:List α),zF2 (xs.map enc)
 |[]=>trivial
 |x::xs=>⟨h x,zD5 h xs⟩
theorem wU {f:FuncId} {as:List D} {R:Type} {e:Option R} {g:R→D×List Ent} {r:R} (xs:List Operand) (tys:List Nat) (hok:Ok Γ.P f as [] (e.map g)) (h:e=some r) (hcf:∀vs,zX Γ.P (callFunc f vs)=some (.enter f vs):=by intro _; kernel_rfl)
  (hC:(as.length,xs.all zIL,List.zipWith zIM xs as,D.men.zAc as,(g r).1.nm,(g r).2)=(xs.length,true,as,[],true,[]):=by kernel_rfl):
  OpV Γ (.call {callee:=.value (.func f),args:=xs.toArray,argTypes:=tys.toArray}) {tn:=tnL xs as,out:=some (g r).1}:=by
 simp only [Prod.mk.injEq] at hC
 obtain ⟨h1,h2,h3,h4,h5,h7⟩:=hC
 intro ops o hop hg
 exact zJc («as»:=as) (bor:=false) (ids:=[]) (hin:=[]) (hout:=[]) (news:=[]) hg hop hcf (by simpa using h1) (fun k d hk=>by
  obtain ⟨x,q1,q2⟩:=zGC (c:= {tn:=tnL xs as,out:=some (g r).1}) h1 h2 h3 (fun y hy=>hy) k d hk
  exact ⟨x,by simpa using q1,q2⟩) (AmL.zE3 h4) (by simp) rfl (by simp) (by simp) hok (by rw [h,Option.map_some,←h7]) (by simp) (zHv h5) (by simp) rfl (by simp) (by simp)
theorem zKd {f:FuncId} {as caps:List D} {R:Type} {e:Option R} {g:R→D×List Ent} {r:R} (t0:Nat) (xs:List Operand) (tys:List Nat) (hok:Ok Γ.P f (as++caps) [] (e.map g)) (h:e=some r) (hcf:∀vs,zX Γ.P (callFunc f vs)=some (.enter f vs):=by intro _; kernel_rfl)
  (hC:(as.length,xs.all zIL,List.zipWith zIM xs as,D.men.zAc (as++caps),(g r).1.nm,(g r).2)=(xs.length,true,as,[],true,[]):=by kernel_rfl):
  OpV Γ (.call {callee:=.value (.tmp t0),args:=xs.toArray,argTypes:=tys.toArray}) {tn:=(t0,.fn f caps)::tnL xs as,out:=some (g r).1}:=by
 simp only [Prod.mk.injEq] at hC
 obtain ⟨h1,h2,h3,h4,h5,h7⟩:=hC
 intro ops o hop hg
 exact zHf («as»:=as) (caps:=caps) (bor:=false) (ids:=[]) (hin:=[]) (hout:=[]) (news:=[]) hg hop (show (t0,D.fn f caps)∈(t0,D.fn f caps)::tnL xs as from .head _) hcf (by simpa using h1) (fun k d hk=>by
  obtain ⟨x,q1,q2⟩:=zGC (c:= {tn:=(t0,.fn f caps)::tnL xs as,out:=some (g r).1}) h1 h2 h3 (fun y hy=>List.mem_cons_of_mem _ hy) k d hk
  exact ⟨x,by simpa using q1,q2⟩) (AmL.zE3 h4) (by simp) rfl (by simp) (by simp) hok (by rw [h,Option.map_some,←h7]) (by simp) (zHv h5) (by simp) rfl (by simp) (by simp)
theorem jC {f:FuncId} {as ds:List D} {R:Type} {e:Option R} {g:R→D×List Ent} {r:R} {d:D} {hin:List Ent} {news:List (Nat×Ent)} (xs:List Operand) (tys:List Nat) (bor:Bool) (hn:List (Nat×Ent)) (ids:List Nat) (ham:AmL hn ids bor as ds)
  (hok:Ok Γ.P f ds hin (e.map g)) (h:e=some r) (hnm:Nm (g r).1 d news) (hbor:bor=true→zCy (g r).2∧(g r).1.flat :=by simp)
  (hcf:∀vs,zX Γ.P (callFunc f vs)=some (.enter f vs):=by intro _; kernel_rfl)
  (hC:(as.length,xs.all zIL,List.zipWith zIM xs as,zAl ids,hin.length,Nat.ble (g r).2.length hin.length,(ids.zip hin).map (fun x=>lk hn x.1),(hin++(g r).2).flatMap Ent.men,zAl (news.map (·.1)),news.all (fun x=>Nat.ble Γ.m x.1))=
   (xs.length,true,as,true,ids.length,true,(ids.zip hin).map (fun x=>some x.2),[],true,true):=by kernel_rfl):
  OpV Γ (.call {callee:=.value (.func f),args:=xs.toArray,argTypes:=tys.toArray}) {tn:=tnL xs as,hn:=hn,out:=some d,hx:=ids,hw:=ids.zip (g r).2++news,fr:=news.map (·.1)}:=by
 simp only [Prod.mk.injEq] at hC
 obtain ⟨h1,h2,h3,h4,h5,h6,h7,h8,h9,h10⟩:=hC
 intro ops o hop hg
 exact zJc («as»:=as) (bor:=bor) (ids:=ids) (hin:=hin) (hout:=(g r).2) (news:=news) hg hop hcf (by simpa using h1) (fun k d' hk=>by
  obtain ⟨x,q1,q2⟩:=zGC (c:= {tn:=tnL xs as,hn:=hn,out:=some d,hx:=ids,hw:=ids.zip (g r).2++news,fr:=news.map (·.1)}) h1 h2 h3 (fun y hy=>hy) k d' hk
  exact ⟨x,by simpa using q1,q2⟩) ham (uX h4) h5 (kQ h7) (zIV h8) hok (by rw [h,Option.map_some]) (Nat.le_of_ble_eq_true h6) hnm (uX h9) rfl (zIT h10) hbor
theorem zJh {f:FuncId} {ds:List D} {R:Type} {e:Option R} {g:R→D×List Ent} {r:R} {d:D} {hin:List Ent} {news:List (Nat×Ent)} (t0:Nat) (xs:List Operand) (tys:List Nat) (bor:Bool) (hn:List (Nat×Ent)) (ids:List Nat) (as:List D) (caps:List D) (ham:AmL hn ids bor (as++caps) ds)
  (hok:Ok Γ.P f ds hin (e.map g)) (h:e=some r) (hnm:Nm (g r).1 d news) (hbor:bor=true→zCy (g r).2∧(g r).1.flat :=by simp)
  (hcf:∀vs,zX Γ.P (callFunc f vs)=some (.enter f vs):=by intro _; kernel_rfl)
  (hC:(as.length,xs.all zIL,List.zipWith zIM xs as,zAl ids,hin.length,Nat.ble (g r).2.length hin.length,(ids.zip hin).map (fun x=>lk hn x.1),(hin++(g r).2).flatMap Ent.men,zAl (news.map (·.1)),news.all (fun x=>Nat.ble Γ.m x.1))=
   (xs.length,true,as,true,ids.length,true,(ids.zip hin).map (fun x=>some x.2),[],true,true):=by kernel_rfl):
  OpV Γ (.call {callee:=.value (.tmp t0),args:=xs.toArray,argTypes:=tys.toArray}) {tn:=(t0,.fn f caps)::tnL xs as,hn:=hn,out:=some d,hx:=ids,hw:=ids.zip (g r).2++news,fr:=news.map (·.1)}:=by
 simp only [Prod.mk.injEq] at hC
 obtain ⟨h1,h2,h3,h4,h5,h6,h7,h8,h9,h10⟩:=hC
 intro ops o hop hg
 exact zHf («as»:=as) (caps:=caps) (bor:=bor) (ids:=ids) (hin:=hin) (hout:=(g r).2) (news:=news) hg hop (show (t0,D.fn f caps)∈(t0,D.fn f caps)::tnL xs as from .head _) hcf (by simpa using h1) (fun k d' hk=>by
  obtain ⟨x,q1,q2⟩:=zGC (c:= {tn:=(t0,.fn f caps)::tnL xs as,hn:=hn,out:=some d,hx:=ids,hw:=ids.zip (g r).2++news,fr:=news.map (·.1)}) h1 h2 h3 (fun y hy=>List.mem_cons_of_mem _ hy) k d' hk
  exact ⟨x,by simpa using q1,q2⟩) ham (uX h4) h5 (kQ h7) (zIV h8) hok (by rw [h,Option.map_some]) (Nat.le_of_ble_eq_true h6) hnm (uX h9) rfl (zIT h10) hbor
theorem zKu {op:Op} {tn:List (Nat×D)} {hn:List (Nat×Ent)} {d:D} {hx:List Nat} {hw:List (Nat×Ent)} {fr:List Nat} (A B:List (Nat×Ent)) (hv:OpV Γ op {tn:=tn,hn:=hn,out:=some d,hx:=hx,hw:=hw,fr:=fr})
  (hC:(A.map (fun x=>lk hn x.1),hx,hw,fr,zAl (B.map (·.1)))=(A.map (fun x=>some x.2),A.map (·.1),A++B,B.map (·.1),true):=by kernel_rfl):OpV Γ op {tn:=tn,hn:=hn,out:=some d,hx:=[],hw:=B,fr:=fr}:=by
 simp only [Prod.mk.injEq] at hC
 obtain ⟨h1,h2,h3,h4,h5⟩:=hC
 intro ops o hop hg
 exact zI1 A B (kQ h1) h2 h3 h4 (uX h5) (hv ops o hop hg)
end
end Go.Im
set_option linter.unusedVariables false
namespace Go.Im
open Go
structure Wd where
 w0:World
 N0:Nat→Prop
 O0:List Nat
 β0:Nat→Loc
def Wd.g (q:Wd) (P:Program) (f m nt:Nat):Ctx:=⟨P,f,q.w0,q.N0,q.O0,m,q.β0,nt⟩
theorem zS {P:Program} {f:FuncId} {args:List D} {hin:List Ent} {T:Type} {e:Option T} {g:T→D×List Ent} (fc:Code) (fn:Func) (m nt:Nat)
  (h:∀(q:Wd),J (q.g P f m nt) fc [.c 1] ⟨args.zipIdx.map (fun x=>(x.2,x.1)),zA0 hin,D.men.zAc args++zBs (zA0 hin)⟩ e (fun r=>some (g r)))
  (hf:(P.funcs[f]?,fn.body,fn.ntmps,Nat.ble args.length nt,hin.length)=(some fn,some fc,nt,true,m):=by kernel_rfl):Ok P f args hin (e.map g):=by
 simp only [Prod.mk.injEq] at hf
 obtain ⟨h1,h2,h3,h4,h5⟩:=hf
 subst h5
 exact zKm h1 h2 h3 (Nat.le_of_ble_eq_true h4) (fun w0 N0 O0 β0=>h ⟨w0,N0,O0,β0⟩)
section
variable {Γ:Ctx} {fc:Code} {k:List II} {σ:St} {T:Type} {K:T→Option (D×List Ent)}
theorem zU {b:Bool} {x y:Option T} (t:Nat) (h1:b=true→J Γ fc k ⟨(t,.sc (.bool true))::σ.tm,σ.hp,σ.us⟩ x K) (h2:b=false→J Γ fc k ⟨(t,.sc (.bool false))::σ.tm,σ.hp,σ.us⟩ y K) (hl:lk σ.tm t=some (.sc (.bool b)):=by kernel_rfl):
 J Γ fc k σ (if b then x else y) K:=zLi t hl h1 h2
variable {p:Nat}
theorem xX {rest:List (Nat×Cert)} {b b':Bool} (i:Nat) (tm:List (Nat×D)) (hp:List (Nat×Ent)) (hb:b=b') (hr:zDB Γ fc p rest)
  (h:(opAt fc p i).map (fun o=>(o.guard,ac0 Γ.P none o ⟨tm,hp,[]⟩))=some (none,some {tn:=tm,hn:=hp,out:=some (.sc (.bool b))}):=by kernel_rfl):
  zDB Γ fc p ((i,{tn:=tm,hn:=hp,out:=some (.sc (.bool b'))})::rest):=
 ⟨zKW (id:=none) tm hp _ h rfl (by rw [hb]),hr⟩
theorem zFk {rest:List (Nat×Cert)} {b b':Bool} (i g t:Nat) (bg:Bool) (tm:List (Nat×D)) (hp:List (Nat×Ent)) (hb:b=b') (hr:zDB Γ fc p rest)
  (h:((opAt fc p i).map (fun o=>(o.guard,ac0 Γ.P none {o with guard:=none} ⟨tm,hp,[]⟩)),zEK fc p g)=(some (some (g,bg),some {tn:=tm,hn:=hp,out:=some (.sc (.bool b))}),some t):=by kernel_rfl):
  zDB Γ fc p ((i,{tn:=(t,.sc (.bool bg))::tm,hn:=hp,out:=some (.sc (.bool b'))})::rest):=by
 simp only [Prod.mk.injEq] at h
 exact ⟨zKI (id:=none) tm hp _ h.1 h.2 rfl (by rw [hb]),hr⟩
end
end Go.Im
set_option linter.unusedVariables false
namespace Go.Im
open Go
def zJP {A R:Type} (b:(A→Option R)→A→Option R):Nat→A→Option R
 |0,_=>none
 |n+1,x=>b (zJP b n) x
theorem zBP {β:Nat→Loc} {N:Nat→Prop} {w:World}:∀{vs us:List Value} {bs:List Nat},zD β N w true (vs.map D.sc) us bs→us=vs∧bs=[]
 |[],us,bs,h=>by simpa [zD] using h
 |v::vs,us,bs,h=>by
  simp only [List.map_cons,zD] at h
  obtain ⟨u,us',b1,b2,rfl,rfl,h3,h4⟩:=h
  simp only [Rep] at h3
  obtain ⟨rfl,rfl⟩:=h3
  obtain ⟨rfl,rfl⟩:=zBP h4
  exact ⟨rfl,rfl⟩
theorem zJY {P:Program} {f:FuncId} {vs:List Value} {v:Value} (h:∀w,Calls P f vs.toArray w fun e w'=>e= .returned v∧w'=w):Ok P f (vs.map D.sc) [] (some (.sc v,[])):=by
 intro out ho w N β us bs ha hh hnd hlt hN _
 cases ho
 obtain ⟨rfl,_⟩:=zBP ha
 refine (h w).mono ?_
 rintro e w' ⟨rfl,rfl⟩
 exact ⟨v,[],[],rfl,⟨rfl,rfl⟩,Nat.le_refl _,fun _ _ _=>rfl,by simp,by simp,by simp [Rep],rfl⟩
def zIZ (a b:ByteArray):Int:=Lib.compareBytes a.data.toList b.data.toList
end Go.Im
set_option linter.unusedVariables false
namespace Go.Im
open Go
theorem zN.cut {β:Nat→Loc} {N:Nat→Prop} {w:World} {z:Nat}:∀{xs:List (List D)} {ws:List Value} {bs:List Nat} (k:Nat),zN β N w xs ws bs→(∀x∈xs,x.length=z)→
  ∃b1 b2,bs=b1++b2∧zN β N w (xs.take k) (ws.take (k*z)) b1∧zN β N w (xs.drop k) (ws.drop (k*z)) b2
 |xs,ws,bs,0,h,hz=>⟨[],bs,rfl,by simp [zN],by simpa using h⟩
 |[],ws,bs,k+1,h,hz=>by
  simp only [zN] at h
  rw [h.1,h.2]
  exact ⟨[],[],rfl,by simp [zN],by simp [zN]⟩
 |x::xs,ws,bs,k+1,h,hz=>by
  simp only [zN] at h
  obtain ⟨w1,w2,b1,b2,rfl,rfl,h3,h4⟩:=h
  have hl:=h3.length
  rw [hz x (by simp)] at hl
  obtain ⟨c1,c2,rfl,h5,h6⟩:=zN.cut k h4 (fun y hy=>hz y (by simp [hy]))
  have e1:(w1++w2).drop ((k+1)*z)=w2.drop (k*z):=by
   rw [Nat.add_mul,Nat.one_mul,List.drop_append,List.drop_of_length_le (by omega),List.nil_append]; congr 1; omega
  have e2:(w1++w2).take ((k+1)*z)=w1++w2.take (k*z):=by
   rw [Nat.add_mul,Nat.one_mul,List.take_append,List.take_of_length_le (by omega)]; congr 2; omega
  rw [e1,e2]
  refine ⟨b1++c1,c2,by simp,?_,by simpa using h6⟩
  simp only [List.take_succ_cons,zN]
  exact ⟨w1,_,b1,c1,rfl,rfl,h3,h5⟩
section
variable {Γ:Ctx} {ops:Array Oper} {o:Oper}
theorem zK8 {c:Cert} {x:Operand} {T el:TypeId} {lo hi:Option Operand} {z n l h t t':Nat} {xs:List (List D)} (hg:o.guard=none) (hop:o.op= .slice T x lo hi none)
  (hc:c= {tn:=c.tn,hn:=c.hn,out:=some (.rf t' 0 (h-l) none),hx:=[t],hw:=[(t',.row z ((xs.drop l).take (h-l)))],fr:=[t']}) (hm:Γ.m≤t') (hx:OpF c x (.rf t 0 n none)) (hT:zX Γ.P (underlying T)=some (.slice el)) (hz:zBG Γ.P el=some z)
  (hl:zFF c lo 0 l) (hh:zFF c hi n h) (h1:l≤h) (h2:h≤n) (hnn:n=xs.length) (hh':(t,.row z xs)∈c.hn):Valid Γ ops o c:=by
 intro σ a w Q hdst hn ⟨h0,β,bs,hr⟩
 have hwt:Region.wanted o (yielded ops a.tmps)=true:=by simp [Region.wanted,hg]
 rw [if_pos hwt]
 have hfr:t'∉σ.us:=hn.2.2 t' (by rw [hc]; simp)
 have h3:=OpF.rep hx hn hr
 obtain ⟨b1,b2,hp,⟨hLz,hzz,hrow⟩,hrest⟩:=xV.take hr.hp hr.keys (hn.2.1 _ hh')
 have hne:∀k,k∈σ.us→k≠t':=fun k hk e=>hfr (e▸hk)
 have hkm:∀k,k<Γ.m→k≠t':=fun k hk e=>by omega
 simp only [Rep] at h3
 obtain ⟨_,_,h3⟩:=h3
 have hfilt:σ.hp.filter (fun x=> !c.hx.contains x.1)=σ.hp.filter (fun x=>x.1 !=t):=by
  rw [hc]; congr 1; funext x; by_cases hx:x.1=t<;>simp [hx]
 have hrun:∀ad len cp,a.eval x= .slice ad len cp→n=len→n≤cp→(execOp a.eval o).run Γ.P w= .ok (.value (.slice (if cp=l then ad else ad.map (·.add (l*z))) (h-l) (cp-l))) w:=by
  intro ad len cp he hlen hcp
  subst hlen
  refine zAx (s:=Instr.sliceAt T (a.eval x) (lo.map a.eval) (hi.map a.eval) none) (by simp [execOp,hop]) ?_
  rw [he]
  exact zAS hn hr hT hz hl hh h1 (by omega)
 rcases hrow with ⟨hnil,hxs,hb1⟩|⟨hnil,ws,hO,hE⟩
 ·subst hxs
  subst hb1
  simp at hnn
  have hl0:l=0:=by omega
  have hh0:h=0:=by omega
  subst hl0 hh0 hnn
  have hv:a.eval x= .slice none 0 0:=by
   rcases h3 with ⟨_,_,_,h3⟩|⟨h3,_⟩
   ·exact h3
   ·rw [hnil] at h3; cases h3
  have hown:(β t).own =[]:=by simp [Loc.own,hnil]
  rw [hown] at hp
  unfold Oper.wp
  rw [hrun _ _ _ hv rfl (Nat.le_refl _),Oper.upon_value]
  refine Rel.step (β1:=zAW β t' ⟨true,0,0,z,0⟩) (bk:=b2) (br:=[]) (bn:=[]) h0 hr hdst (by rw [hc]; simp) (by rw [hc]; simpa using .inr hfr) (by simpa using hp) (by rw [hfilt]; exact hrest) (Nat.le_refl _) (fun _ _ _=>rfl)
   (fun k hk=>by simp [zAW,hne k hk]) (fun k hk=>by simp [zAW,hkm k hk]) (by simp) (by simp) ?_ ?_ ⟨rfl,rfl⟩
  ·rw [hc]
   refine ⟨[],[],?_,?_,rfl⟩
   ·simp [zAW,Loc.own]
   ·simp [zAW,jB]
  ·intro d hd
   rw [hc] at hd
   cases hd
   simp [Rep,zAW]
 ·have hv:∃c',a.eval x= .slice (some ⟨(β t).b,(β t).o,none⟩) n c'∧n≤c'∧c'*z≤(β t).r :=by
   rcases h3 with ⟨h3,_⟩|⟨_,c',h3,h4,h5,_⟩
   ·rw [hnil] at h3; cases h3
   ·exact ⟨c',by simpa using h3,h4,by rw [←hLz]; simpa using h5⟩
  obtain ⟨cp,hv,hcp,hroom⟩:=hv
  have hown:(β t).own =[(β t).b]:=by simp [Loc.own,hnil]
  rw [hown] at hp
  have hws:=hE.length hzz
  obtain ⟨d1,d2,e1,hs1,hs2⟩:=hE.cut l hzz
  obtain ⟨d3,d4,e2,hs3,hs4⟩:=hs2.cut (h-l) (fun y hy=>hzz y (List.mem_of_mem_drop hy))
  have hp2:bs.Perm (((β t).b ::b1)++b2):=by simpa using hp
  have hnd:=hp2.nodup_iff.1 hr.nodup
  have hsub:∀b∈d3,b∈b1:=fun b hb=>by rw [e1,e2]; simp [hb]
  have hndn:((β t).b ::d3).Nodup :=by
   have q:=(List.nodup_append.1 hnd).1
   rw [e1,e2] at q
   refine List.Nodup.sublist ?_ q
   refine List.Sublist.cons_cons _ ?_
   exact (List.sublist_append_left d3 d4).trans (List.sublist_append_right _ _)
  unfold Oper.wp
  rw [hrun _ _ _ hv rfl hcp,Oper.upon_value]
  have hNS:∀b,NS Γ w bs b→NS Γ w ((β t).b ::d3++b2) b∧w.heap[b]? =w.heap[b]? :=by
   rintro b ⟨u1,u2,u3⟩
   refine ⟨⟨u1,u2,fun hb=>u3 (hp2.mem_iff.2 ?_)⟩,rfl⟩
   simp only [List.cons_append,List.mem_cons,List.mem_append] at hb ⊢
   rcases hb with rfl|hb|hb
   ·exact .inl rfl
   ·exact .inr (.inl (hsub b hb))
   ·exact .inr (.inr hb)
  refine Rel.step (β1:=zAW β t' ⟨false,(β t).b,if cp=l then (β t).o else (β t).o +l*z,z,(cp-l)*z⟩) (bk:=b2) (br:=(β t).b ::b1) (bn:=(β t).b ::d3) h0 hr hdst (by rw [hc]; simp) (by rw [hc]; simpa using .inr hfr) hp2 (by rw [hfilt]; exact hrest) (Nat.le_refl _) (fun _ _ _=>rfl)
   (fun k hk=>by simp [zAW,hne k hk]) (fun k hk=>by simp [zAW,hkm k hk]) hndn ?_ ?_ ?_ ⟨rfl,rfl⟩
  ·intro b hb
   have:b∈(β t).b ::b1:=by
    rcases List.mem_cons.1 hb with rfl|hb
    ·simp
    ·exact List.mem_cons_of_mem _ (hsub b hb)
   exact ⟨.inl this,(hr.own b (hp2.mem_iff.2 (List.mem_append_left _ this))).1⟩
  ·rw [hc]
   refine ⟨d3,[],by simp [zAW,Loc.own],⟨by simp [zAW],fun y hy=>hzz y (List.mem_of_mem_drop (List.mem_of_mem_take hy)),.inr ⟨by simp [zAW],(ws.drop (l*z)).take ((h-l)*z),?_,?_⟩⟩,rfl⟩
   ·simp only [yD]
    obtain ⟨arr,e,lo',hi',u1,u2,u3,u4⟩:=hO
    have hmul:(cp-l)*z=cp*z-l*z:=Nat.sub_mul _ _ _
    have hlc:l*z≤cp*z:=Nat.mul_le_mul_right _ (by omega)
    refine ⟨arr,e,lo',hi',u1,u2,?_,?_⟩
    ·split
     ·rename_i hcl; rw [hcl]; simp; omega
     ·omega
    ·intro k hk
     simp only [List.length_take,List.length_drop] at hk
     have hkl:k<ws.length-l*z:=by omega
     have hcl:cp≠l:=by
      intro e; subst e
      have:ws.length=cp*z:=by rw [hws,←hnn]; congr 1; omega
      omega
     rw [if_neg hcl]
     have:=u4 (l*z+k) (by omega)
     rw [Nat.add_assoc,this]
     simp
   ·refine zN.frame (β':=zAW β t' ⟨false,(β t).b,if cp=l then (β t).o else (β t).o +l*z,z,(cp-l)*z⟩) hNS _ _ _ (fun _ _=>rfl) hs3
  ·intro d hd
   rw [hc] at hd
   cases hd
   simp only [Rep,yD]
   refine ⟨trivial,trivial,.inr ⟨trivial,cp-l,?_,by omega,by simp,by simp⟩⟩
   simp only [Nat.zero_mul,Nat.add_zero]
   split
   ·rfl
   ·simp [zAm]
end
end Go.Im
set_option linter.unusedVariables false
namespace Go.Im
open Go
section
variable {Γ:Ctx} {ops:Array Oper} {o:Oper}
theorem Rel.over {β:Nat→Loc} {bs:List Nat} {σ:St} {a:Act} {w:World} {c:Cert} {t z l:Nat} {xs ys:List (List D)} {vs:List Value} {v:Value} (h0:∀t,t∈zEt σ.tm∨t∈zBs σ.hp→t∈σ.us) (hr:RelB Γ β bs σ a w)
  {dst:Option Nat} (hd:∀t,dst=some t→t<Γ.nt) (hhx:c.hx=[t]) (hhw:c.hw=[(t,.row z (xs.take l++ys++xs.drop (l+ys.length)))]) (hm:(t,.row z xs)∈σ.hp) (hnil:(β t).nil =false)
  (hl:l+ys.length≤xs.length) (hyz:∀y∈ys,y.length=z) (hE2:∀N w',zN β N w' ys vs []) (ho:∀d,c.out=some d→∀N w',Rep β N w' true d v []):
  Rel Γ (σ.upd dst c) (a.put dst v) (putCells w (β t).b ((β t).o +l*z) vs):=by
 obtain ⟨b1,b2,hp,⟨hLz,hzz,hrow⟩,hrest⟩:=xV.take hr.hp hr.keys hm
 rcases hrow with ⟨hnil',_⟩|⟨_,ws,hO,hE⟩
 ·rw [hnil] at hnil'; cases hnil'
 have hown:(β t).own =[(β t).b]:=by simp [Loc.own,hnil]
 rw [hown] at hp
 have hws:=hE.length hzz
 have hvl:=(hE2 (fun _=>True) w).length hyz
 have hfilt:σ.hp.filter (fun x=> !c.hx.contains x.1)=σ.hp.filter (fun x=>x.1 !=t):=by
  rw [hhx]; congr 1; funext x; by_cases hx:x.1=t<;>simp [hx]
 obtain ⟨d1,d2,e1,hs1,hs2⟩:=hE.cut l hzz
 obtain ⟨d3,d4,e2,hs3,hs4⟩:=hs2.cut ys.length (fun y hy=>hzz y (List.mem_of_mem_drop hy))
 have hheap:(∀b',b'≠(β t).b →(putCells w (β t).b ((β t).o +l*z) vs).heap[b']? =w.heap[b']?)∧(putCells w (β t).b ((β t).o +l*z) vs).heap.size =w.heap.size:=by
  obtain ⟨arr,e,lo,hi,g1,g2,g3,g4⟩:=hO
  exact (yN g1).2
 have hp2:bs.Perm (((β t).b ::b1)++b2):=by simpa using hp
 have hnd:=hp2.nodup_iff.1 hr.nodup
 have hsub:∀b∈d1++d4,b∈b1:=fun b hb=>by
  rw [e1,e2]
  rcases List.mem_append.1 hb with h|h<;>simp [h]
 have hndn:((β t).b ::(d1++d4)).Nodup :=by
  have q:=(List.nodup_append.1 hnd).1
  rw [e1,e2] at q
  refine List.Nodup.sublist ?_ q
  refine List.Sublist.cons_cons _ ?_
  exact List.Sublist.append_left (List.sublist_append_right _ _) _
 have hbin:∀b∈d1++d4,b≠(β t).b :=fun b hb e=>(List.nodup_cons.1 hndn).1 (e▸hb)
 have hmz:(l+ys.length)*z≤ws.length:=by rw [hws]; exact Nat.mul_le_mul_right _ hl
 have hNS:∀b,NS Γ w bs b→NS Γ (putCells w (β t).b ((β t).o +l*z) vs) ((β t).b ::(d1++d4)++b2) b∧(putCells w (β t).b ((β t).o +l*z) vs).heap[b]? =w.heap[b]? :=by
  rintro b ⟨u1,u2,u3⟩
  have hb1:b≠(β t).b :=fun e=>u3 (hp2.mem_iff.2 (by simp [e]))
  refine ⟨⟨u1,by rw [hheap.2]; exact u2,fun hb=>u3 (hp2.mem_iff.2 ?_)⟩,hheap.1 b hb1⟩
  rcases List.mem_append.1 hb with hb|hb
  ·rcases List.mem_cons.1 hb with hb|hb
   ·exact List.mem_append_left _ (by simp [hb])
   ·exact List.mem_append_left _ (List.mem_cons_of_mem _ (hsub b hb))
  ·exact List.mem_append_right _ hb
 refine Rel.step (β1:=β) (bk:=b2) (br:=(β t).b ::b1) (bn:=(β t).b ::(d1++d4)) h0 hr hd (by rw [hhw]; simp) (by rw [hhw,hhx]; simp) hp2 (by rw [hfilt]; exact hrest) (by rw [hheap.2]; exact Nat.le_refl _)
  (fun b _ hb=>hheap.1 b (fun e=>hb (by simp [e]))) (fun _ _=>rfl) (fun _ _=>rfl) hndn ?_ ?_ (fun d hd=>ho d hd _ _) (yT _ _ _ _)
 ·intro b hb
  rw [hheap.2]
  have:b∈(β t).b ::b1:=by
   rcases List.mem_cons.1 hb with rfl|hb
   ·simp
   ·exact List.mem_cons_of_mem _ (hsub b hb)
  exact ⟨.inl this,(hr.own b (hp2.mem_iff.2 (List.mem_append_left _ this))).1⟩
 ·rw [hhw]
  refine ⟨d1++d4,[],by rw [hown]; simp,⟨hLz,?_,.inr ⟨hnil,ws.take (l*z)++vs++ws.drop (l*z+vs.length),?_,?_⟩⟩,rfl⟩
  ·intro q hq
   simp only [List.mem_append] at hq
   rcases hq with (hq|hq)|hq
   ·exact hzz q (List.mem_of_mem_take hq)
   ·exact hyz q hq
   ·exact hzz q (List.mem_of_mem_drop hq)
  ·obtain ⟨arr,e',lo,hi,g1,g2,g3,g4⟩:=hO
   have hle:(β t).o +ws.length≤arr.size:=by
    rcases Nat.eq_zero_or_pos ws.length with e0|e0
    ·omega
    ·have:=g4 (ws.length-1) (by omega)
     have:=(Array.getElem?_eq_some_iff.1 this).1
     omega
   obtain ⟨arr',e'',lo',hi',u1,u2,u3,u4⟩:=zF6 (r:=ws.length) (vs:=vs) (j:=l*z) ⟨arr,e',lo,hi,g1,g2,hle,g4⟩ (by rw [hvl,←Nat.add_mul]; exact hmz) (Nat.le_refl _)
   refine ⟨arr',e'',lo',hi',u1,u2,?_,u4⟩
   have:=(yN (off:=(β t).o +l*z) (vs:=vs) g1).1
   rw [this] at u1
   cases u1
   rw [xE]
   exact g3
  ·have m1:=zN.frame (β':=β) hNS _ _ _ (fun b hb=>hheap.1 b (hbin b (by simp [hb]))) hs1
   have m3:=zN.frame (β':=β) hNS _ _ _ (fun b hb=>hheap.1 b (hbin b (by simp [hb]))) hs4
   have key:=(m1.append (hE2 _ _)).append m3
   rw [List.append_nil] at key
   have ex:(xs.drop l).drop ys.length=xs.drop (l+ys.length):=by rw [List.drop_drop]
   have ew:(ws.drop (l*z)).drop (ys.length*z)=ws.drop (l*z+vs.length):=by rw [List.drop_drop,hvl]
   rw [ex,ew] at key
   exact key
end
end Go.Im
set_option linter.unusedVariables false
namespace Go.Im
open Go
theorem zG6 {α:Type} {xs r:List α} {l h:Int} (hh:zFp xs l h=some r):0≤l∧l≤h∧h≤xs.length∧r=(xs.drop l.toNat).take (h.toNat-l.toNat)∧r.length=h.toNat-l.toNat:=by
 unfold zFp at hh
 split at hh
 ·rename_i q
  cases hh
  exact ⟨q.1,q.2.1,q.2.2,rfl,by simp; omega⟩
 ·cases hh
section
variable {Γ:Ctx}
theorem zK6 {α:Type} {xs r:List α} {l hi:Int} (T el z t t':Nat) (enc:α→List D) (x:Operand) (lo ho:Option Operand) (h:zFp xs l hi=some r) (hx:OkO x (.rf t 0 xs.length none):=by trivial) (hl:OkB lo (0:Nat) l:=by first|trivial|rfl) (hh:OkB ho xs.length hi:=by first|trivial|rfl)
  (hT:(zX Γ.P (underlying T),zBG Γ.P el,Nat.ble Γ.m t')=(some (.slice el),some z,true):=by kernel_rfl):
  OpV Γ (.slice T x lo ho none) {tn:=tnO x (.rf t 0 xs.length none)++(tnB lo l++tnB ho hi),hn:=[(t,rE z enc xs)],out:=some (.rf t' 0 r.length none),hx:=[t],hw:=[(t',rE z enc r)],fr:=[t']}:=by
 simp only [Prod.mk.injEq] at hT
 obtain ⟨h1,h2,h3,h4,h5⟩:=zG6 h
 intro ops o hop hg
 have e:rE z enc r= .row z (((xs.map enc).drop l.toNat).take (hi.toNat-l.toNat)):=by
  rw [h4,rE,List.map_take,List.map_drop]
 rw [e,h5]
 exact zK8 (n:=xs.length) (xs:=xs.map enc) (z:=z) hg hop rfl (Nat.le_of_ble_eq_true hT.2.2) (hx.f (fun y hy=>List.mem_append_left _ hy)) hT.1 hT.2.1 ((hl.f (fun y hy=>List.mem_append_right _ (List.mem_append_left _ hy))).f h1)
  ((hh.f (fun y hy=>List.mem_append_right _ (List.mem_append_right _ hy))).f (by omega)) (by omega) (by omega) (by simp) (.head _)
end
end Go.Im
set_option linter.unusedVariables false
namespace Go.Im
open Go
def mkV (P:Program) (t:TypeId) (xs:List Value):Option Value:=match zBt P t with
 |some true=>some (.agg xs.toArray)
 |some false=>xs.head?
 |none=>none
def zKs (P:Program) (g:TypeId→List Value→List Value→Option Bool) (xs ys:List Value):List Field→Option Bool
 |[]=>some true
 |f::fs=>if f.name= "_" then none else match zBG P f.type with
  |some z=>match g f.type ((xs.drop f.offset).take z) ((ys.drop f.offset).take z),zKs P g xs ys fs with
   |some a,some r=>some (a&&r)
   |_,_=>none
  |none=>none
def eqT (P:Program):Nat→TypeId→List Value→List Value→Option Bool
 |0,_,_,_=>none
 |d+1,t,xs,ys=>match P.underlying t with
  |some (.struct fs)=>if P.stoodInHeld t=false∧zBt P t=some true then zKs P (eqT P d) xs ys fs.toList else none
   |some (.int _)=>match zBt P t,xs,ys with
   |some false,.int k1 a::_,.int k2 b::_=>if k1=k2 then some (a==b) else none
   |_,_,_=>none
  |some .bool =>match zBt P t,xs,ys with
   |some false,.bool a::_,.bool b::_=>some (a==b)
   |_,_,_=>none
  |some .string =>match zBt P t,xs,ys with
   |some false,.string a::_,.string b::_=>some (a.toList==b.toList)
   |_,_,_=>none
  |_=>none
theorem zII {P:Program} {w:World} {t:TypeId} {cs:List Value} {off z:Nat} {v:Value} (hz:zBG P t=some z) (hz0:zBt P t=some false→0<z) (h:mkV P t ((cs.drop off).take z)=some v):(part t cs.toArray off).run P w= .ok v w:=by
 unfold mkV at h
 unfold part
 split at h
 ·rename_i ha
  cases h
  rw [run_bind_ok (zI _ _ w ha)]
  simp only [if_true]
  rw [run_bind_ok (zI _ _ w hz)]
  have:(cs.toArray.extract off (off+z))=((cs.drop off).take z).toArray :=by
   apply Array.ext'
   simp [List.take_drop]
  rw [this]
  rfl
 ·rename_i ha
  rw [run_bind_ok (zI _ _ w ha)]
  simp only [Bool.false_eq_true,if_false]
  have:cs.toArray[off]? =some v:=by
   rw [List.head?_take,if_neg (by have:=hz0 ha; omega),List.head?_drop] at h
   simpa using h
  rw [this]
  rfl
 ·cases h
theorem zHW {P:Program}:∀(d k:Nat) (t:TypeId) (xs ys:List Value) (vx vy:Value) (r:Bool) (w:World),eqT P d t xs ys=some r→mkV P t xs=some vx→mkV P t ys=some vy→(Op.equalIn (d+k) t vx vy).run P w= .ok r w
 |0,k,t,xs,ys,vx,vy,r,w,h,_,_=>by simp [eqT] at h
 |d+1,k,t,xs,ys,vx,vy,r,w,h,hx,hy=>by
  rw [show d+1+k=(d+k)+1 by omega]
  unfold eqT at h
  unfold mkV at hx hy
  split at h
  ·rename_i fs hfs
   split at h
   ·rename_i hc
    rw [hc.2] at hx hy
    cases hx
    cases hy
    have hff:P.fieldsOf t=fs:=by unfold Program.fieldsOf; rw [hfs]
    rw [run_equalIn_struct w (d+k) t _ _ (by rw [hff]; exact hfs) hc.1,hff]
    have key:∀(l:List Field) (r:Bool),zKs P (eqT P d) xs ys l=some r→(Op.eqFields (d+k) xs.toArray ys.toArray l).run P w= .ok r w:=by
     intro l
     induction l with
     |nil=>intro r h; cases h; rfl
     |cons f l ih=>
      intro r h
      unfold zKs at h
      split at h
      ·cases h
      ·rename_i hnm
       split at h
       ·rename_i z hz
        split at h
        ·rename_i a q ha hq
         cases h
         have hmk:∀(cs:List Value),(∃a l',(cs.drop f.offset).take z=a::l')∨zBt P f.type=some true→zBt P f.type≠none→∃v,mkV P f.type ((cs.drop f.offset).take z)=some v∧(part f.type cs.toArray f.offset).run P w= .ok v w:=by
          intro cs hcs hne
          have:∃v,mkV P f.type ((cs.drop f.offset).take z)=some v:=by
           unfold mkV
           rcases hcs with ⟨a,l',e⟩|e
           ·cases hag:zBt P f.type with
            |none=>exact absurd hag hne
            |some b=>cases b<;>simp [e]
           ·rw [e]; exact ⟨_,rfl⟩
          obtain ⟨v,hv⟩:=this
          refine ⟨v,hv,zII hz (fun hf=>?_) hv⟩
          rcases Nat.eq_zero_or_pos z with e|e
          ·subst e
           unfold mkV at hv
           rw [hf] at hv
           simp at hv
          ·exact e
         have hsh:zBt P f.type≠none∧((∃a l',(xs.drop f.offset).take z=a::l')∨zBt P f.type=some true)∧((∃a l',(ys.drop f.offset).take z=a::l')∨zBt P f.type=some true):=by
          cases d with
          |zero=>simp [eqT] at ha
          |succ d=>
           unfold eqT at ha
           split at ha
           ·split at ha
            ·rename_i hc'
             exact ⟨by rw [hc'.2]; simp,.inr hc'.2,.inr hc'.2⟩
            ·cases ha
           all_goals first
            |(split at ha
              ·rename_i g1 g2 g3
               exact ⟨by rw [g1]; simp,.inl ⟨_,_,g2⟩,.inl ⟨_,_,g3⟩⟩
              ·cases ha)
            |cases ha
         obtain ⟨va,m1,p1⟩:=hmk xs hsh.2.1 hsh.1
         obtain ⟨vb,m2,p2⟩:=hmk ys hsh.2.2 hsh.1
         have he:=zHW d k f.type _ _ va vb a w ha m1 m2
         unfold Op.eqFields
         rw [if_pos (by simpa using hnm),run_bind_ok p1,run_bind_ok p2,run_bind_ok he]
         cases a
         ·rfl
         ·simp only [Bool.not_true,Bool.false_eq_true,if_false,Bool.true_and]
          exact ih q hq
        ·cases h
       ·cases h
    exact key _ _ h
   ·cases h
  ·rename_i kk hu
   split at h
   ·rename_i hag
    rw [hag] at hx hy
    cases hx
    cases hy
    split at h
    ·rename_i e
     subst e
     cases h
     exact run_equalIn_int w (d+k) t _ _ _ _ hu
    ·cases h
   ·cases h
  ·rename_i hu
   split at h
   ·rename_i hag
    rw [hag] at hx hy
    cases hx
    cases hy
    cases h
    exact run_equalIn_bool' w (d+k) t _ _ hu
   ·cases h
  ·rename_i hu
   split at h
   ·rename_i hag
    rw [hag] at hx hy
    cases hx
    cases hy
    cases h
    exact run_equalIn_string w (d+k) t _ _ hu
   ·cases h
  ·cases h
section
variable {Γ:Ctx} {ops:Array Oper} {o:Oper}
theorem zCq {β:Nat→Loc} {N:Nat→Prop} {w:World} {top:Bool}:∀{us ws:List Value} {bs:List Nat},zD β N w top (us.map D.sc) ws bs→ws=us
 |[],ws,bs,h=>by simp only [List.map_nil,zD] at h; exact h.1
 |u::us,ws,bs,h=>by
  simp only [List.map_cons,zD,Rep] at h
  obtain ⟨v,vs,b1,b2,rfl,_,h3,h4⟩:=h
  rw [h3.1,zCq h4]
theorem zFH {P:Program} {w:World} {b:BinOp} {T:TypeId} {x y:Operand} {xs ys:Array Value} (h:P.eqGuardType P.depth T=false):(eqGuard b T x y (.agg xs) (.agg ys)).run P w= .ok () w:=by
 have key:(do
   let __do_lift ←program
   let __do_lift_1 ←program
   if (!__do_lift.eqGuardType __do_lift_1.depth T)=true then pure ()
   else do
    let __do_lift ←Op.eqGuardIn Op.maxDepth T (Value.agg xs) (Value.agg ys)
    if __do_lift=true then unsupported (.noEntry "binop/eql: two nil values of an interface type with methods, in a part of a struct or an array") else pure ():Sem Unit).run P w= .ok () w:=by
  rw [run_bind_ok (a:=P) (w':=w) rfl]
  rw [run_bind_ok (a:=P) (w':=w) rfl]
  rw [h]
  rfl
 unfold eqGuard
 split
 ·exact key
 ·exact key
 ·rfl
theorem zKn {c:Cert} {b:BinOp} {x y:Operand} {T U:TypeId} {us vs:List Value} {d:Nat} {r q:Bool} (hg:o.guard=none) (hop:o.op= .binOp b T x y U) (hb:(b= .eql ∧q=r)∨(b= .neq ∧q= !r)) (hc:c= {tn:=c.tn,out:=some (.sc (.bool q))})
  (hx:OpF c x (.ag (us.map D.sc))) (hy:OpF c y (.ag (vs.map D.sc))) (hagg:zBt Γ.P T=some true) (hgt:Γ.P.eqGuardType Γ.P.depth T=false) (hd:d≤10000) (he:eqT Γ.P d T us vs=some r):Valid Γ ops o c:=by
 refine vO (d:=.sc (.bool q)) (f:=fun ρ=>do eqGuard b T x y (ρ x) (ρ y); binOp b T (ρ x) (ρ y)) hg (fun ρ=>by simp [execOp,hop]) (by rw [hc]) fun β bs σ a w hn hr=>?_
 have h1:=OpF.rep hx hn hr
 have h2:=OpF.rep hy hn hr
 simp only [Rep] at h1 h2
 obtain ⟨_,w1,e1,_,r1⟩:=h1
 obtain ⟨_,w2,e2,_,r2⟩:=h2
 rw [zCq r1] at e1
 rw [zCq r2] at e2
 refine ⟨.bool q,?_,by simp [Rep]⟩
 rw [e1,e2]
 rw [run_bind_ok (zFH hgt)]
 have hrun:=zHW d (10000-d) T us vs (.agg us.toArray) (.agg vs.toArray) r w he (by unfold mkV; rw [hagg]) (by unfold mkV; rw [hagg])
 rw [show d+(10000-d)=10000 by omega] at hrun
 rcases hb with ⟨rfl,rfl⟩|⟨rfl,rfl⟩
 ·rw [run_eql_struct,hrun]; rfl
 ·rw [run_neq_struct,hrun]; rfl
theorem zFy {b:BinOp} {q r:Bool} (T U:Nat) (x y:Operand) (us vs:List Value) (hb:(b= .eql ∧q=r)∨(b= .neq ∧q= !r)) (hx:OkO x (.ag (us.map D.sc)):=by trivial) (hy:OkO y (.ag (vs.map D.sc)):=by trivial)
  (hT:(zBt Γ.P T,Γ.P.eqGuardType Γ.P.depth T,eqT Γ.P 4 T us vs)=(some true,false,some r):=by kernel_rfl):
  OpV Γ (.binOp b T x y U) {tn:=tnO x (.ag (us.map D.sc))++tnO y (.ag (vs.map D.sc)),out:=some (.sc (.bool q))}:=by
 simp only [Prod.mk.injEq] at hT
 obtain ⟨h1,h2,h3⟩:=hT
 intro ops o hop hg
 exact zKn hg hop hb rfl (hx.f (fun y hy=>List.mem_append_left _ hy)) (hy.f (fun y hy=>List.mem_append_right _ hy)) h1 h2 (by decide) h3
end
end Go.Im
set_option linter.unusedVariables false
namespace Go.Im
open Go
section
variable {Γ:Ctx} {ops:Array Oper} {o:Oper}
end
end Go.Im
set_option linter.unusedVariables false
namespace Go.Im
open Go
theorem zEc {α:Type} {enc:α→Value} {β:Nat→Loc} {N:Nat→Prop} {w:World}:∀(xs:List α),zN β N w (xs.map (fun a=>[D.sc (enc a)])) (xs.map enc) []
 |[]=>by simp [zN]
 |x::xs=>by
  simp only [List.map_cons,zN,zD,Rep]
  exact ⟨[enc x],xs.map enc,[],[],rfl,rfl,⟨_,[],[],[],rfl,rfl,⟨rfl,rfl⟩,rfl,rfl⟩,zEc xs⟩
end Go.Im
set_option linter.unusedVariables false
namespace Go.Im
open Go
theorem zIw {P:Program} {w:World} {name:String} {g:Nat} {k:IntKind} {zs:List Int} (hG:∀q∈zGA P,Tab w q.1 q.2) (hn:P.globalNamed name=some g) (hl:lk (zGA P) g=some (· =zs.map fun z=>Value.int k z)):Lib.TabIs P w name k zs:=by
 obtain ⟨ws,e,fz,h,rfl⟩:=hG _ (uM hl)
 unfold Lib.TabIs World.var?
 rw [hn]
 simp only [Option.bind_some]
 rw [h]
theorem zIU {P:Program} {f:FuncId} {vs:List Value} {v:Value} (h:∀w,(∀q∈zGA P,Tab w q.1 q.2)→Calls P f vs.toArray w fun e w'=>e= .returned v∧w'.os=w.os∧w'.output=w.output∧w.heap.size≤w'.heap.size∧∀b,b<w.heap.size→w'.heap[b]? =w.heap[b]?):Ok P f (vs.map D.sc) [] (some (.sc v,[])):=by
 intro out ho w N β us bs ha hh hnd hlt hN hG
 cases ho
 obtain ⟨rfl,_⟩:=zBP ha
 refine (h w (fun q hq=>(hG q hq).2)).mono ?_
 rintro e w' ⟨rfl,h1,h2,h3,h4⟩
 exact ⟨v,[],[],rfl,⟨h1,h2⟩,h3,fun b hb _=>h4 b hb,by simp,by simp,by simp [Rep],rfl⟩
theorem zJw {P:Program} {f:FuncId} {vs:List Value} {v:Value} (h:∀w,(∀q∈zGA P,Tab w q.1 q.2)→Calls P f vs.toArray w fun e w'=>e= .returned v∧∃k os,w'=Sort.grow (w.drewN k) os):Ok P f (vs.map D.sc) [] (some (.sc v,[])):=by
 refine zIU fun w hG=>(h w hG).mono ?_
 rintro e w' ⟨rfl,k,os,rfl⟩
 refine ⟨rfl,rfl,rfl,?_,fun b hb=>?_⟩
 ·show w.heap.size≤(w.heap++os).size
  rw [Array.size_append]
  exact Nat.le_add_right _ _
 ·show (w.heap++os)[b]? =w.heap[b]?
  rw [Array.getElem?_append_left hb]
end Go.Im
set_option linter.unusedVariables false
namespace Go.Im
open Go
theorem zFb {P:Program} {w:World} {name:String} {g:Nat} {k:IntKind} {zs:List Int} (h:Lib.TabIs P w name k zs) (hn:P.globalNamed name=some g):g<w.heap.size∧Tab w g (· =zs.map fun z=>Value.int k z):=by
 unfold Lib.TabIs World.var? at h
 rw [hn] at h
 simp only [Option.bind_some] at h
 split at h
 ·rename_i cs e fz hh
  cases h
  exact ⟨(Array.getElem?_eq_some_iff.1 hh).1,_,e,fz,hh,rfl⟩
 ·cases h
theorem zB6 {P:Program} {w:World} {l:List (String×DataW Unit)} {name:String} {g n:Nat} {t e:TypeId} {k:IntKind} {zs:List Int} (h:laidMet P l w) (hl:l.filter (fun x=>x.1==name)=[(name,Lib.tabData k zs)])
  (hg:P.globalNamed name=some g) (hty:(P.globals[g]?).map (·.type)=some t) (ht:P.underlying t=some (.array n e)) (he:P.underlying e=some (.int k)) (hce:P.cellsOf e=1) (hct:P.cellsOf t=n):g<w.heap.size∧Tab w g (· =zs.map fun z=>Value.int k z):=by
 have h2:=h.filter (fun x=>x.1==name)
 rw [hl] at h2
 exact zFb (Lib.tabIs_of_head hg hty ht he hce hct h2) hg
end Go.Im
set_option linter.unusedVariables false
namespace Go.Im
open Go
section
variable {Γ:Ctx} {fc:Code} {k:List II} {σ:St} {T:Type} {K:T→Option (D×List Ent)}
end
end Go.Im
set_option linter.unusedVariables false
namespace Go.Im
open Go
theorem zIu {P:Program} {f:FuncId} {vs:List Value} {v:Value} (h:∀w,Calls P f vs.toArray w fun e w'=>e= .returned v∧RowKit.Below w.heap.size w w'):Ok P f (vs.map D.sc) [] (some (.sc v,[])):=by
 refine zIU fun w _=>(h w).mono ?_
 rintro e w' ⟨rfl,hb⟩
 exact ⟨rfl,hb.os,hb.output,hb.size,hb.block⟩
theorem zIC {P:Program} {f:FuncId} {s sep:ByteArray} {xs:List ByteArray} {t:TypeId} (h:∀w,(∀q∈zGA P,Tab w q.1 q.2)→Calls P f #[.string s,.string sep] w fun e w'=>e= .returned (.slice (some ⟨w.heap.size,0,none⟩) xs.length xs.length)∧w'=w.alloc (.cells (xs.map Value.string).toArray t)):
  Ok P f [sv s,sv sep] [] (some (so 1 eStr xs,[])):=by
 intro o ho w N β us bs ha hh hnd hlt hN hG
 cases ho
 obtain ⟨rfl,_⟩:=zBP (vs:=[.string s,.string sep]) ha
 refine (h w (fun q hq=>(hG q hq).2)).mono ?_
 rintro e w' ⟨rfl,rfl⟩
 have hsz:(w.alloc (.cells (xs.map Value.string).toArray t)).heap.size =w.heap.size+1:=Array.size_push _
 have hnew:(w.alloc (.cells (xs.map Value.string).toArray t)).heap[w.heap.size]? =some (.cells (xs.map Value.string).toArray t):=by
  show (w.heap.push _)[w.heap.size]? =_
  rw [Array.getElem?_push,if_pos rfl]
 refine ⟨_,[w.heap.size],[],rfl,⟨rfl,rfl⟩,by rw [hsz]; exact Nat.le_succ _,fun b hb _=>?_,by simp,?_,?_,rfl⟩
 ·exact RowKit.Below.heap_alloc w _ b hb
 ·intro b hb
  simp only [List.append_nil,List.mem_singleton] at hb
  subst hb
  exact ⟨by rw [hsz]; exact Nat.lt_succ_self _,.inr (Nat.le_refl _)⟩
 ·unfold so
  simp only [Rep]
  refine ⟨by simp,by simp [eStr],_,_,rfl,Nat.le_refl _,.inr (.inr ⟨trivial,w.heap.size,0,xs.map Value.string,[],rfl,rfl,?_,?_⟩)⟩
  ·refine ⟨_,t,0,0,hnew,fun k _=>by omega,by simp,fun k hk=>by simp⟩
  ·exact zEc (enc:=Value.string) xs
theorem zGX {P:Program} {w:World} {g:Nat} (hG:∀q∈zGA P,Tab w q.1 q.2) (hl:lk (zGA P) g=some (fun ws=>∃m,ws=[.int .i64 m])):∃m,w.cell? ⟨g,0,none⟩=some (.int .i64 m):=by
 obtain ⟨ws,e,fz,h,m,rfl⟩:=hG _ (uM hl)
 exact ⟨m,by rw [cell_of h]; rfl⟩
end Go.Im
set_option linter.unusedVariables false
namespace Go.Im
open Go Go.Proofs
theorem zEn {P:Program} {w:World} {g:Nat} {t:TypeId} {zero:Array Value} (h:w.ShapedOpen P) (hg:g<P.globals.size)
  (h0:((begin P (fun _ _=>0) default).world.heap[g]?).bind Obj.row? =some (zero,t)) (hz:zero.size=1)
  (hb:P.buildable t=true) (hc:P.cellTypes P.depth t=some [t]) (hu:P.underlying t=some (.int .i64)):g<w.heap.size∧Tab w g (fun ws=>∃m,ws=[.int .i64 m]):=by
 obtain ⟨m,hm⟩:=cell_of_shapedOpen_int h hg h0 hz hb hc hu
 obtain ⟨cs,hh,hs,_⟩:=h.1 g zero t hg h0
 rw [cell_of hh] at hm
 refine ⟨(Array.getElem?_eq_some_iff.1 hh).1,cs.toList,t,_,by simpa using hh,m,?_⟩
 obtain ⟨l⟩:=cs
 match l,hs,hm with
 |[],hs,_=>simp at hs; omega
 |[v],_,hm=>simp at hm; rw [hm]
 |_::_::_,hs,_=>simp at hs; omega
section
variable {H:Type} {enc:TypeId×Value→H}
theorem zAP {a:Assume} {C:Checked} {os:Os} {f:FuncId} {fn:Func} {s:ChangeSpec} {conds:List PathCond} {apart fresh handsOn again:Bool} {X:World→Array Value→Prop}
  (hX:∀(w w':World) (args:Array Value),w.heap=w'.heap→X w args→X w' args) (own:ownKnob C.prog.godebug=none) (started:os.Started) (noInit:C.prog.inits.idxOf? f=none) (hfn:C.prog.funcs[f]? =some fn)
  (witness:∃(w:World) (tape:Tape) (i:Input),w.os=os∧(w.forCall tape i).Shaped C.prog∧i.vars=[]∧Input.okWide C.prog (w.forCall tape i) .any w.heap.size f i∧
   ((s.pre enc C.prog fn conds apart (w.forCall tape i).memory i.args∧X (w.forCall tape i).memory i.args)∧sizedMet enc C.prog fn (OpenSpec.ofChange s) apart (w.forCall tape i).memory i.args)∧a.holds C.prog (lone (Frame.enter C.prog f i.args .normal) [] (w.forCall tape i)))
  (contract:∀(W:World) (base:Nat) (args:Array Value) (ds gs:List (DataW H)) (before:List MemPlace),W.ShapedOpen C.prog→
   (∀(j:Nat) t v,fn.params[j]? =some t→args[j]? =some v→Value.okWide C.prog W .any base t v)→DataW.Whole enc C.prog fn.params.toList s.vars apart W args.toList ds gs before→
   conds.all (PathCond.test C.prog ⟨fn.params.toList,ds,s.plain.varTypes C.prog,gs⟩)=true→(DataW.weightsEach C.prog (fn.params.toList++s.plain.varTypes C.prog) (ds++gs)).all (· ≤reachBytes)=true→X W args→
   a.holds C.prog (lone (Frame.enter C.prog f args .normal) [] W)→Calls C.prog f args W fun e W'=>∃v,e= .returned v∧s.post enc C.prog fn apart fresh handsOn again W args v W'):
  ReturnsInHanded a C os f .any (fun w args=>(s.pre enc C.prog fn conds apart w args∧X w args)∧sizedMet enc C.prog fn (OpenSpec.ofChange s) apart w args) (s.post enc C.prog fn apart fresh handsOn again):=by
 refine returnsInHanded_of_calls own started noInit witness fun w tape i _ hsh _ hok hpre hholds=>?_
 obtain ⟨_,_,_,fn',hfn',_,_,_,_,hval⟩:=hok
 obtain rfl:fn'=fn:=Option.some.inj (hfn'.symm.trans hfn)
 obtain ⟨⟨⟨ds,gs,before,hw,hc⟩,hx⟩,hz⟩:=hpre
 refine (contract (w.forCall tape i) w.heap.size i.args ds gs before hsh hval (DataW.Whole.of_heap (w':=w.forCall tape i) (by rfl) hw) hc (hz.weights hw) (hX _ _ _ (by rfl) hx) hholds).mono fun e W' ⟨v,he,hp⟩=>?_
 subst he
 exact ChangeSpec.post_blind hp
end
end Go.Im
set_option linter.unusedVariables false
namespace Go.Im
open Go
section
variable {Γ:Ctx} {ops:Array Oper} {o:Oper}
theorem Rel.zKw {σ:St} {a:Act} {w:World} {dst:Option Nat} {tn:List (Nat×D)} {t:Nat} {cs:List D} (hus:∀k,k∈zEt σ.tm∨k∈zBs σ.hp→k∈σ.us) (hcs:∀k∈D.men.zAc cs,k∈σ.us) (hfree:∀d∈cs,d.free=true)
  (h:Rel Γ (σ.upd dst {tn:=tn,out:=some (.pt t 0 0),hw:=[(t,.box cs)],fr:=[t]}) a w):Rel Γ (σ.upd dst {tn:=tn,out:=some (.pb cs)}) a w:=by
 obtain ⟨_,β,bs,h⟩:=h
 obtain ⟨b1,b2,rfl,⟨hnil,_,ws,hO,hone,hcr⟩,hrest⟩:=h.hp
 obtain rfl:b1=[]:=zD.frees hfree hcr
 have hown:(β t).own =[(β t).b]:=by simp [Loc.own,hnil]
 have hnd:=h.nodup
 rw [hown] at hnd
 simp only [List.nil_append,List.singleton_append,List.nodup_cons] at hnd
 have hsub:∀b∈b2,b∈(β t).own ++([]++b2):=fun b hb=>by simp [hb]
 have hN:∀b,NS Γ w ((β t).own ++([]++b2)) b→NS Γ w b2 b:=fun b hb=>NS.sub hsub hb
 have hNt:NS Γ w b2 (β t).b :=by
  have:=h.own (β t).b (by rw [hown]; simp)
  refine ⟨?_,this.1,hnd.1⟩
  rcases this.2 with h1|h1
  ·exact .inr (.inl h1)
  ·exact .inr (.inr h1)
 refine ⟨?_,β,b2,{defers:=h.defers,size:=h.size,keys:=?_,par:=h.par,grow:=h.grow,gh:=h.gh,quiet:=h.quiet,keep:=h.keep,hp:=?_,nodup:=hnd.2,own:=fun b hb=>h.own b (hsub b hb),tm:=?_}⟩
 ·intro k hk
  simp only [St.upd,Cert.men,zBs,List.flatMap_nil,List.append_nil,List.nil_append,D.men] at hk ⊢
  rw [List.mem_append]
  have key:∀k,k∈zEt (σ.tm.filter (fun x=>dst !=some x.1))∨k∈zBs (σ.hp.filter (fun x=> !([]:List Nat).contains x.1))→k∈σ.us:=by
   rintro k (hk|hk)
   ·obtain ⟨x,hx,hk⟩:=List.mem_flatMap.1 hk
    exact hus k (.inl (List.mem_flatMap.2 ⟨x,(List.mem_filter.1 hx).1,hk⟩))
   ·obtain ⟨x,hx,hk⟩:=List.mem_flatMap.1 hk
    exact hus k (.inr (List.mem_flatMap.2 ⟨x,(List.mem_filter.1 hx).1,hk⟩))
  rcases hk with hk|hk
  ·obtain ⟨x,hx,hk⟩:=List.mem_flatMap.1 hk
   rcases List.mem_append.1 hx with hx|hx
   ·unfold Cert.outs at hx
    cases dst with
    |none=>simp at hx
    |some q=>
     simp only [List.mem_singleton] at hx
     subst hx
     exact .inr (hcs k (by simpa [D.men] using hk))
   ·exact .inr (key k (.inl (List.mem_flatMap.2 ⟨x,hx,hk⟩)))
  ·exact .inr (key k (.inr hk))
 ·have hk:=h.keys
  simp only [St.upd,List.cons_append,List.nil_append,List.map_cons,List.nodup_cons] at hk ⊢
  exact hk.2
 ·exact xV.frame (fun b hb=>⟨hN b hb,rfl⟩) _ _ (fun _ _=>rfl) (fun _ _=>rfl) hrest
 ·intro q d hd
  simp only [St.upd] at hd
  rcases List.mem_append.1 hd with hd|hd
  ·unfold Cert.outs at hd
   cases dst with
   |none=>simp at hd
   |some q'=>
    simp only [List.mem_singleton,Prod.mk.injEq] at hd
    obtain ⟨rfl,rfl⟩:=hd
    obtain ⟨v,h1,h2⟩:=h.tm q (.pt t 0 0) (by simp [St.upd,Cert.outs])
    refine ⟨v,h1,?_⟩
    simp only [Rep] at h2 ⊢
    obtain ⟨_,_,_,rfl⟩:=h2
    refine ⟨trivial,trivial,(β t).b,(β t).o,ws,by simp,hNt,hO.has,hone,?_⟩
    exact zD.frame (fun b hb=>⟨hN b hb,rfl⟩) cs true ws [] (by simp) (fun _ _=>rfl) hcr
  ·obtain ⟨v,h1,h2⟩:=h.tm q d (by simp only [St.upd]; exact List.mem_append_right _ hd)
   exact ⟨v,h1,Rep.frame (fun b hb=>⟨hN b hb,rfl⟩) d true v [] (by simp) (fun _ _=>rfl) h2⟩
theorem zC3:∀(l:List Nat) (m:Nat),m≤l.foldl max m∧∀x∈l,x≤l.foldl max m
 |[],m=>⟨Nat.le_refl _,by simp⟩
 |y::l,m=>by
  obtain ⟨h1,h2⟩:=zC3 l (max m y)
  refine ⟨Nat.le_trans (Nat.le_max_left _ _) h1,fun x hx=>?_⟩
  rcases List.mem_cons.1 hx with rfl|hx
  ·exact Nat.le_trans (Nat.le_max_right _ _) h1
  ·exact h2 x hx
theorem zJ9 {c:Cert} {x:Operand} {T:TypeId} {d:D} (hg:o.guard=none) (hop:o.op= .box T x) (hc:c= {tn:=c.tn,out:=some (.pb (cellsD d))}) (hx:OpF c x d) (hd:(cellsD d).all D.cell=true):Valid Γ ops o c:=by
 intro σ a w Q hdst hn hr
 obtain ⟨m1,m2⟩:=zC3 σ.us Γ.m
 have hft:σ.us.foldl max Γ.m+1∉σ.us:=fun h=>by have:=m2 _ h; omega
 have hn1:Nd {tn:=c.tn,out:=some (.pt (σ.us.foldl max Γ.m+1) 0 0),hw:=[((σ.us.foldl max Γ.m+1),.box (cellsD d))],fr:=[σ.us.foldl max Γ.m+1]} σ:=⟨hn.1,by simp,by simpa using hft⟩
 have hv:=zJL (Γ:=Γ) (ops:=ops) (t:=σ.us.foldl max Γ.m+1) hg hop (c:= {tn:=c.tn,out:=some (.pt (σ.us.foldl max Γ.m+1) 0 0),hw:=[((σ.us.foldl max Γ.m+1),.box (cellsD d))],fr:=[σ.us.foldl max Γ.m+1]}) rfl (by omega) hx hd σ a w Q hdst hn1 hr
 have hwt:Region.wanted o (yielded ops a.tmps)=true:=by simp [Region.wanted,hg]
 rw [if_pos hwt] at hv ⊢
 refine Oper.wp_mono (fun a' w' h'=>?_) hv
 rw [hc]
 exact Rel.zKw hr.1 (fun k hk=>zHA (a:=a) (w:=w) hr.1 hn hx k (by rwa [zFc] at hk)) (fun d' hd'=>D.zHi (List.all_eq_true.1 hd d' hd')) h'
theorem zHQ {c:Cert} {x:Operand} {T:TypeId} {cs:List D} {d:D} (hg:o.guard=none) (hop:o.op= .load T x) (hc:c= {tn:=c.tn,out:=some d}) (hx:OpF c x (.pb cs)) (hd:jY Γ.P T cs=some d):Valid Γ ops o c:=by
 rw [hc]
 refine wD hg rfl rfl fun β bs σ a w hn hr=>?_
 have h1:=OpF.rep (c:=c) hx ⟨hn.1,by rw [hc]; simp,by rw [hc]; simp⟩ hr
 simp only [Rep] at h1
 obtain ⟨_,_,b,p,ws,h2,h3,h4,hone,h5⟩:=h1
 obtain ⟨v,h6,h7⟩:=zAr hd h4 hone h5
 refine ⟨v,zAx (s:=Instr.loadAt T (a.eval x)) (by simp [execOp,hop]) ?_,fun d' hd=>by cases hd; exact h7⟩
 rw [h2]
 exact h6
theorem zJp (T:Nat) (x:Operand) (d:D) (hx:OkO x d:=by first|trivial|rfl) (hd:(cellsD d).all D.cell=true:=by kernel_rfl):OpV Γ (.box T x) {tn:=tnO x d,out:=some (.pb (cellsD d))}:=by
 intro ops o hop hg
 exact zJ9 hg hop rfl (hx.f (fun y hy=>hy)) hd
theorem zDP {d:D} (T:Nat) (x:Operand) (cs:List D) (hx:OkO x (.pb cs):=by trivial) (hd:jY Γ.P T cs=some d:=by kernel_rfl):OpV Γ (.load T x) {tn:=tnO x (.pb cs),out:=some d}:=by
 intro ops o hop hg
 exact zHQ hg hop rfl (hx.f (fun y hy=>hy)) hd
end
end Go.Im

import Derived.Test.YtdeihchdibglaaaGreatDoorPureFnPlanTextsx1
set_option linter.unusedVariables false
set_option maxRecDepth 4000
namespace Go.Told
open Go Go.Im
noncomputable section
theorem zHv {α R:Type} {g:Nat→α→Option R}:∀{xs:List α} {i:Nat},xU g i xs=none→∀x∈xs,∃j,g j x=none
 |[],_,_,x,h=>by simp at h
 |y::ys,i,h,x,hx=>by
  simp only [xU] at h
  cases hg:g i y with
  |some r=>rw [hg] at h; cases h
  |none=>
   rw [hg] at h
   rcases List.mem_cons.1 hx with rfl|hx
   ·exact ⟨i,hg⟩
   ·exact zHv h x hx
structure Sr (b:Nat) (s:zC):Prop where
 len:s.Code.length≤1048576
 byt:∀c∈s.Code,0≤c∧c≤255
 a0:0≤s.At
 a1:s.At≤(b:Int)
theorem Sr.mono {b b':Nat} {s:zC} (h:Sr b s) (hb:b≤b'):Sr b' s:=⟨h.len,h.byt,h.a0,by have:=h.a1; omega⟩
theorem zMj {a:List Int} (h:a.length≤1048576) (hb:∀c∈a,0≤c∧c≤255):∃s,zB5 a=some s∧Sr 0 s:=
 ⟨_,rfl,h,hb,Int.le_refl _,Int.le_refl _⟩
theorem wZ {b:Nat} {s:zC} (h:Sr b s) (hb:b≤1000000000) (n:Int):∃r s',zH s n=some (r,s')∧0≤r∧(1≤n→r<n)∧Sr (b+1) s':=by
 obtain ⟨hl,hbt,h0,h1⟩:=h
 have e1:w64 (s.At+1)=s.At+1:=wC (by omega) (by omega)
 have e2:w64 (s.At+1-1)=s.At:=by rw [wC (by omega) (by omega)]; omega
 have hS:Sr (b+1) {Code:=s.Code,At:=s.At+1}:=⟨hl,hbt,by show 0≤s.At+1; omega,by show s.At+1≤_; omega⟩
 unfold zH
 rw [e1,e2]
 by_cases hn:n<1
 ·rw [if_pos (by simpa using hn)]
  exact ⟨0,_,rfl,Int.le_refl _,fun h=>by omega,hS⟩
 rw [if_neg (by simpa using hn)]
 have hr:∀v:Int,0≤v→∃r,zPo v n=some r∧0≤r∧r<n:=fun v hv=>⟨v.tmod n,by unfold zPo; rw [if_neg (by omega)],Int.tmod_nonneg _ hv,Int.tmod_lt_of_pos _ (by omega)⟩
 by_cases hk:((s.Code.length:Int)==0)=true
 ·rw [if_pos hk,wC (x:=s.At*7) (by omega) (by omega)]
  obtain ⟨r,e,g1,g2⟩:=hr (s.At*7) (by omega)
  rw [e]
  exact ⟨r,_,rfl,g1,fun _=>g2,hS⟩
 ·rw [if_neg hk]
  have hkp:0<s.Code.length:=by
   have:¬((s.Code.length:Int)=0):=fun h=>hk (by simp [h])
   omega
  have hrk:∀v:Int,0≤v→∃(q:Nat) (hq:q<s.Code.length),zPo v (s.Code.length:Int)=some (q:Int):=fun v hv=>by
   have g1:=Int.tmod_nonneg (s.Code.length:Int) hv
   have g2:=Int.tmod_lt_of_pos v (b:=(s.Code.length:Int)) (by omega)
   refine ⟨(v.tmod (s.Code.length:Int)).toNat,by omega,?_⟩
   unfold zPo
   rw [if_neg (by omega)]
   congr 1
   omega
  obtain ⟨q,hq,eq⟩:=hrk s.At h0
  obtain ⟨q2,hq2,eq2⟩:=hrk (s.At+1) (by omega)
  have hc:=hbt _ (qE hq)
  have hc2:=hbt _ (qE hq2)
  obtain ⟨d,ed,d0,d1⟩:∃d,zRL .i64 s.At (s.Code.length:Int)=some d∧0≤d∧d≤s.At:=by
   have g1:=Int.tdiv_nonneg h0 (show 0≤(s.Code.length:Int) by omega)
   have g2:s.At.tdiv (s.Code.length:Int)≤s.At:=by
    rw [Int.tdiv_eq_ediv_of_nonneg h0]
    exact Int.ediv_le_self _ h0
   refine ⟨s.At.tdiv (s.Code.length:Int),?_,g1,g2⟩
   unfold zRL
   rw [if_neg (by omega)]
   congr 1
   exact wC (by omega) (by omega)
  rw [eq]
  simp only [qA,zL hq,ed]
  rw [wC (x:=s.At+1) (by omega) (by omega),eq2]
  simp only [qA,zL hq2]
  rw [wC (x:=s.Code[q]) (by omega) (by omega),wC (x:=d*37) (by omega) (by omega),wC (x:=s.Code[q]+d*37) (by omega) (by omega),wC (x:=(s.Code[q]+d*37)*251) (by omega) (by omega),
   wC (x:=s.Code[q2]) (by omega) (by omega),wC (x:=s.Code[q2]*13) (by omega) (by omega),wC (x:=(s.Code[q]+d*37)*251+s.Code[q2]*13) (by omega) (by omega),wC (x:=(s.Code[q]+d*37)*251+s.Code[q2]*13+s.At) (by omega) (by omega)]
  by_cases h200:n>200
  ·rw [if_pos (by simpa using h200)]
   obtain ⟨r,e,g1,g2⟩:=hr ((s.Code[q]+d*37)*251+s.Code[q2]*13+s.At) (by omega)
   simp only [qA,e]
   exact ⟨r,_,rfl,g1,fun _=>g2,hS⟩
  ·rw [if_neg (by simpa using h200)]
   obtain ⟨r,e,g1,g2⟩:=hr (s.Code[q]+d*37) (by omega)
   simp only [qA,e]
   exact ⟨r,_,rfl,g1,fun _=>g2,hS⟩
theorem xY {b:Nat} {s:zC} (h:Sr b s) (hb:b≤1000000000) (n:Int):∃r s',zI s n=some (r,s')∧Sr (b+1) s':=by
 obtain ⟨r,s',e,_,_,h'⟩:=wZ h hb n
 unfold zI
 rw [e]
 exact ⟨_,_,rfl,h'⟩
theorem at_next {α:Type} {b:Nat} {s:zC} (h:Sr b s) (hb:b≤1000000000) {l:List α} {n:Int} (hn:n=(l.length:Int)) (hl:l≠[]):
  ∃r s' x,zH s n=some (r,s')∧idx l r=some x∧x∈l∧Sr (b+1) s':=by
 obtain ⟨r,s',e,g1,g2,h'⟩:=wZ h hb n
 have hlp:0<l.length:=List.length_pos_iff.2 hl
 have g3:=g2 (by omega)
 obtain ⟨q,rfl⟩:=Int.eq_ofNat_of_zero_le g1
 have hq:q<l.length:=by omega
 exact ⟨_,s',l[q],e,zL hq,qE hq,h'⟩
theorem jO {b:Nat} {s:zC} (h:Sr b s) (hb:b≤1000000000) (l:List Int) (hl:l≠[]):∃x s',zT s l=some (x,s')∧x∈l∧Sr (b+1) s':=by
 obtain ⟨r,s',x,e1,e2,hx,h'⟩:=at_next h hb (l:=l) rfl hl
 unfold zT
 rw [e1]
 simp only [qA,e2]
 exact ⟨x,s',rfl,hx,h'⟩
theorem some_spec {b:Nat} {s:zC} (h:Sr b s) (n:Int) (hn:n≤100000) (hb:b+100000≤1000000000):
  ∃x s',zB7 s n=some (x,s')∧x.length=n.toNat∧Sr (b+n.toNat) s':=by
 obtain ⟨t,e,x,s',rfl,hx,hs⟩:=xO (b:=zCX) (fun i q=>∃x s',q=(s'.Code,s'.At,n-(i:Int),x)∧x.length=i∧Sr (b+i) s') n.toNat (fun t=>∃x s',t=(s'.Code,s'.At,x)∧x.length=n.toNat∧Sr (b+n.toNat) s') (by
  rintro i q hi ⟨x,s',rfl,hx,hs⟩
  unfold zCX
  simp only
  rw [if_pos (by simp; omega)]
  obtain ⟨r,s2,e,_,_,h2⟩:=wZ hs (by omega) 256
  have e':zH {Code:=s'.Code,At:=s'.At} 256=some (r,s2):=e
  rw [e']
  simp only [qA]
  rw [wY (by simp; omega) (by simp; omega),wC (x:=n-(i:Int)-1) (by omega) (by omega)]
  refine .inl ⟨_,rfl,_,s2,by rw [show n-(i:Int)-1=n-((i+1:Nat):Int) by omega],by simp [hx],?_⟩
  exact h2.mono (by omega)) (by
  rintro q ⟨x,s',rfl,hx,hs⟩
  unfold zCX
  simp only
  rw [if_neg (by simp; omega)]
  exact ⟨_,rfl,x,s',rfl,hx,hs⟩) n.toNat 0 (s.Code,s.At,n,[]) (by omega) ⟨[],s,by simp,rfl,h⟩
 refine ⟨x,s',?_,hx,hs⟩
 unfold zB7
 rw [show zD2 (s.Code,s.At,n,([]:List Int))=some (s'.Code,s'.At,x) from e]
 rfl
theorem zO2 {l:List UInt8} (h1:1≤l.length) (h2:l.length≤40) (h3:∀c∈l,zM3 (c.toNat:Int)=true):zHq (bs l):=by
 have e:(bs l).toList =l:=by rw [ByteArray.toList_eq]; rfl
 refine ⟨h1,h2,fun c hc=>?_⟩
 unfold bl at hc
 rw [e] at hc
 obtain ⟨b,hb,rfl⟩:=List.mem_map.1 hc
 exact h3 b hb
theorem zLM {b:Nat} {s:zC} (h:Sr b s) (hb:b≤1000000000):∃p s',zAO s=some (p,s')∧zHq p∧Sr (b+1) s':=by
 obtain ⟨r,s',x,e1,e2,hx,h'⟩:=at_next h hb (l:=[bs [97],bs [98,47,99],bs [99,117,114],bs [103,101,110,47,48,48,48,48,48,49],bs [112,107,103,47,97,45,49,46,48,46,48],bs [112,108,97,110],bs [120,95,49]]) (n:=7) rfl (by simp)
 refine ⟨x,s',?_,?_,h'⟩
 ·unfold zAO
  rw [e1]
  simp only [qA,e2]
 ·simp only [qK,List.not_mem_nil,or_false] at hx
  rcases hx with rfl|rfl|rfl|rfl|rfl|rfl|rfl<;>exact zO2 (by decide) (by decide) (by decide)
theorem zKP {b:Nat} {s:zC} (h:Sr b s) (hb:b+1≤1000000000):∃p s',kU s=some (p,s')∧p.size≤100∧Sr (b+2) s':=by
 obtain ⟨q,s1,e,h1⟩:=xY h (by omega) 14
 unfold kU
 rw [e]
 simp only [qA]
 cases q
 ·obtain ⟨p,s2,e2,h2,h3⟩:=zLM h1 (by omega)
  rw [e2]
  exact ⟨p,s2,rfl,by have:=h2.2.1; omega,h3⟩
 ·obtain ⟨r,s',x,e1,e2,hx,h'⟩:=at_next h1 (by omega) (l:=[bs [],bs [65],bs [97,32,98],bs [97,98,99,100,101,102,103,104,105,106,97,98,99,100,101,102,103,104,105,106,97,98,99,100,101,102,103,104,105,106,97,98,99,100,101,102,103,104,105,106],bs [97,98,99,100,101,102,103,104,105,106,97,98,99,100,101,102,103,104,105,106,97,98,99,100,101,102,103,104,105,106,97,98,99,100,101,102,103,104,105,106,107],bs [97,10]]) (n:=6) rfl (by simp)
  rw [e1]
  simp only [qA,e2,if_true]
  refine ⟨x,s',rfl,?_,h'⟩
  simp only [qK,List.not_mem_nil,or_false] at hx
  rcases hx with rfl|rfl|rfl|rfl|rfl|rfl<;>decide
theorem zI9 {c:Int}:∀{l:List Int},c∉l→zF0 c l=[l]
 |[],_=>rfl
 |x::l,h=>by
  have hx:¬x=c:=fun e=>h (by simp [e])
  have ih:=zI9 (c:=c) (l:=l) (fun e=>h (by simp [e]))
  have e:zF0 c (x::l)=if x=c then []::zF0 c l else match zF0 c l with|a::t=>(x::a)::t|[]=>[[x]]:=rfl
  rw [e,if_neg hx,ih]
theorem zEb {c:Int}:∀{l:List Int} (r:List Int),c∉l→zF0 c (l++c::r)=l::zF0 c r
 |[],r,_=>by simp [zF0]
 |x::l,r,h=>by
  have hx:¬x=c:=fun e=>h (by simp [e])
  have ih:=zEb (c:=c) (l:=l) r (fun e=>h (by simp [e]))
  have e:zF0 c (x::(l++c::r))=if x=c then []::zF0 c (l++c::r) else match zF0 c (l++c::r) with|a::t=>(x::a)::t|[]=>[[x]]:=rfl
  rw [List.cons_append,e,if_neg hx,ih]
theorem zHr:∀(n:Nat),(∀c∈zGd n,zGI c=true)∧1≤(zGd n).length ∧val (zGd n)=n:=by
 intro n
 induction n using Nat.strongRecOn with
 |ind n ih=>
  by_cases h:n<10
  ·rw [zAg h]
   refine ⟨fun c hc=>?_,by simp,by simp [val]; omega⟩
   rw [List.mem_singleton.1 hc]
   unfold zGI
   simp
   omega
  ·obtain ⟨h1,h2,h3⟩:=ih (n / 10) (by omega)
   rw [zEJ h]
   refine ⟨fun c hc=>?_,by simp,?_⟩
   ·rcases List.mem_append.1 hc with hc|hc
    ·exact h1 c hc
    ·rw [List.mem_singleton.1 hc]
     unfold zGI
     simp
     omega
   ·rw [zH5,h3]
    omega
theorem zIO {n:Nat} (h:n<1000):zKp (zGd n) 3=some (n:Int):=by
 obtain ⟨h1,h2,h3⟩:=zHr n
 have h4:=zGM 2 n (by omega)
 unfold zKp
 rw [if_neg,h3]
 rintro (h|h|h)
 ·omega
 ·omega
 ·exact h h1
theorem zLq {c d:Int} (h:zGI c=true) (hd:d<48∨d>57):c≠d:=by
 unfold zGI at h
 simp only [Bool.and_eq_true,qM] at h
 omega
theorem zOM (v:Version):bl (zGQ v)=zGd v.A.toNat++46::(zGd v.B.toNat++46::zGd v.C.toNat):=by
 unfold zGQ
 have h46:bl (bs [46])=[46]:=zFs _
 simp only [xE,zFP,h46,List.append_assoc,List.cons_append,List.nil_append]
theorem zMk {v:Version} (h:VF v=0):PV (zGQ v)= {Code:=0,Version:=v}:=by
 obtain ⟨h1,h2,h3⟩:=zID h
 have hn:∀n:Nat,(46:Int)∉zGd n:=fun n hm=>zLq ((zHr n).1 _ hm) (.inl (by omega)) rfl
 have hp:vH 46 (zGQ v)=[zKc v.A.toNat,zKc v.B.toNat,zKc v.C.toNat]:=by
  refine (zGm ?_).symm
  rw [zOM,zEb _ (hn _),zEb _ (hn _),zI9 (hn _)]
  simp [zFP]
 unfold PV
 rw [hp,if_neg (by simp)]
 have e1:=zIO (n:=v.A.toNat) (by omega)
 have e2:=zIO (n:=v.B.toNat) (by omega)
 have e3:=zIO (n:=v.C.toNat) (by omega)
 simp only [goL,zF1,zFP,e1,e2,e3,zQu]
 obtain ⟨a,b,c⟩:=v
 simp only at h1 h2 h3 ⊢
 simp
 refine ⟨?_,?_,?_⟩<;>omega
theorem zIw {s:ByteArray} (h:NF s=0):∀c∈bl s,zIn c=true:=by
 intro c hc
 unfold NF at h
 split at h
 ·cases h
 split at h
 ·cases h
 split at h
 ·unfold zI6 at h
  cases hs:xU (fun _ c=>if zIn c then none else some (5:Int)) 0 (bl s) with
  |some r=>
   exfalso
   have key:∀(xs:List Int) (i:Nat) (r:Int),xU (fun _ c=>if zIn c then none else some (5:Int)) i xs=some r→r=5:=by
    intro xs
    induction xs with
    |nil=>intro i r h; cases h
    |cons y ys ih=>
     intro i r h
     simp only [xU] at h
     cases hn:zIn y
     ·rw [hn] at h; simp at h; omega
     ·rw [hn] at h; simp at h; exact ih _ _ h
   rw [hs] at h
   have:=key _ _ _ hs
   simp only [Option.getD_some] at h
   omega
  |none=>
   obtain ⟨j,hj⟩:=zHv hs c hc
   cases hn:zIn c
   ·rw [hn] at hj; cases hj
   ·rfl
 ·cases h
theorem zJx (p:Int→Bool):∀{l r:List Int},(∀x∈l,p x=true)→(∀y∈r.head?,p y=false)→tw p (l++r)=l.length
 |[],[],_,_=>rfl
 |[],y::r,_,h=>by
  rw [List.nil_append,zFO,h y (by simp)]
  rfl
 |x::l,r,h,h2=>by
  rw [List.cons_append,zFO,h x (by simp),if_pos rfl,zJx p (fun y hy=>h y (by simp [hy])) h2]
  rfl
theorem zEH {a b:ByteArray}:(a++b).extract 0 a.size=a∧(a++b).extract a.size (a++b).size =b:=by
 constructor
 ·refine zEX.1 ?_
  rw [xM,xE,←zO]
  simp
 ·refine zEX.1 ?_
  rw [xM,xE,←zO a,←zO (a++b),xE]
  simp
theorem zKF (t:Term):(bl (zG8 t)=[]∧t.Low=zeroV)∨(bl (zG8 t)=62::61::bl (zGQ t.Low)∧zG8 t=bs [62,61]++zGQ t.Low):=by
 unfold zG8
 cases h:eqV t.Low zeroV
 ·right
  rw [if_neg (by simp)]
  refine ⟨?_,rfl⟩
  rw [xE,show bl (bs [62,61])=[62,61] from zFs _]
  rfl
 ·left
  rw [if_pos rfl]
  exact ⟨zFl,(zMo _ _).1 h⟩
theorem zIy (t:Term):(bl (zFI t)=[]∧t.High=zJQ)∨(bl (zFI t)=60::bl (zGQ t.High)∧zFI t=bs [60]++zGQ t.High∧eqV t.High zJQ=false):=by
 unfold zFI
 cases h:eqV t.High zJQ
 ·right
  rw [if_neg (by simp)]
  refine ⟨?_,rfl,rfl⟩
  rw [xE,show bl (bs [60])=[60] from zFs _]
  rfl
 ·left
  rw [if_pos rfl]
  exact ⟨zFl,(zMo _ _).1 h⟩
theorem zHz (v:Version):∀c∈bl (zGQ v),zGI c=true∨c=46:=by
 intro c hc
 rw [zOM] at hc
 simp only [qJ,qK] at hc
 rcases hc with h|h|h|h|h
 ·exact .inl ((zHr _).1 c h)
 ·exact .inr h
 ·exact .inl ((zHr _).1 c h)
 ·exact .inr h
 ·exact .inl ((zHr _).1 c h)
theorem zLR {t:Term} (h:TF t=0):PTm (zFb t)= {Code:=0,Term:=t}:=by
 obtain ⟨hN,hL,hH,_⟩:=zJz h
 have hrest:∀y∈(bl (zG8 t++zFI t)).head?,zIn y=false:=by
  intro y hy
  rw [xE] at hy
  rcases zKF t with ⟨e,_⟩|⟨e,_⟩
  ·rcases zIy t with ⟨e2,_⟩|⟨e2,_⟩
   ·rw [e,e2] at hy; simp at hy
   ·rw [e,e2] at hy
    simp at hy
    subst hy
    decide
  ·rw [e] at hy
   simp at hy
   subst hy
   decide
 have hn:zHD (zFb t)=t.Name.size:=by
  unfold zHD zFb
  rw [xE,zJx zIn (zIw hN) hrest,zO]
 have e1:nameP (zFb t)=t.Name:=by
  unfold nameP
  rw [hn]
  exact zEH.1
 have e2:zJI (zFb t)=zG8 t++zFI t:=by
  unfold zJI
  rw [hn]
  exact zEH.2
 have hver60:∀v:Version,∀c∈bl (zGQ v),zH4 c=true:=fun v c hc=>by
  unfold zH4
  rcases zHz v c hc with h|h
  ·simpa using zLq h (.inr (by omega))
  ·subst h; decide
 have hlow60:∀c∈bl (zG8 t),zH4 c=true:=by
  intro c hc
  rcases zKF t with ⟨e,_⟩|⟨e,_⟩
  ·rw [e] at hc; cases hc
  ·rw [e] at hc
   simp only [qK] at hc
   rcases hc with rfl|rfl|hc
   ·decide
   ·decide
   ·exact hver60 _ c hc
 have hcut:zDN (zG8 t++zFI t)=(zG8 t).size :=by
  unfold zDN
  rw [xE,zJx zH4 hlow60,zO]
  intro y hy
  rcases zIy t with ⟨e,_⟩|⟨e,_⟩
  ·rw [e] at hy; simp at hy
  ·rw [e] at hy
   simp at hy
   subst hy
   decide
 have elow:zFr (zG8 t++zFI t)=zG8 t:=by
  unfold zFr
  rw [hcut]
  exact zEH.1
 have eh:zHE (zG8 t++zFI t)=some t.High:=by
  unfold zHE
  rw [hcut]
  rcases zIy t with ⟨e,e'⟩|⟨e,e',e3⟩
  ·have hz:(zFI t).size =0:=by rw [←zO,e]; rfl
   rw [if_neg (by rw [xS]; omega),e']
  ·have hz:(zFI t).size =(zGQ t.High).size +1:=by rw [←zO,e,←zO]; rfl
   rw [if_pos (by rw [xS]; omega)]
   have hV:VF t.High=0:=hH.resolve_left (by rw [e3]; simp)
   have:(zG8 t++zFI t).extract ((zG8 t).size +1) (zG8 t++zFI t).size =zGQ t.High:=by
    refine zEX.1 ?_
    rw [xM,xE,e,←zO (zG8 t++zFI t),xE,e,←zO (zG8 t)]
    have:∀(a b:List Int) (x:Int),List.take ((a++x::b).length -(a.length+1)) (List.drop (a.length+1) (a++x::b))=b:=fun a b x=>by
     rw [←List.drop_drop,List.drop_left,List.drop_succ_cons,List.drop_zero]
     exact List.take_of_length_le (by simp; omega)
    exact this _ _ _
   rw [this,zMk hV]
   rfl
 have el:zMR (zG8 t++zFI t)=some t.Low:=by
  unfold zMR
  rw [elow]
  rcases zKF t with ⟨e,e'⟩|⟨e,e'⟩
  ·rw [if_pos,e']
   rw [zF9,e,zFl]
   rfl
  ·rw [if_neg]
   ·have hz:(zG8 t).size =(zGQ t.Low).size +2:=by rw [←zO,e,←zO]; rfl
    rw [if_neg]
    ·have:(zG8 t).extract 2 (zG8 t).size =zGQ t.Low:=by
      rw [e']
      exact zEH.2
     rw [this,zMk hL]
     rfl
    ·have h2:¬((zG8 t).size <2):=by omega
     have:(zG8 t).extract 0 2=bs [62,61]:=by
      rw [e']
      exact zEH.1
     rw [this,zDM]
     simp [h2]
   ·rw [zF9,e,zFl]
    simp
 unfold PTm
 rw [e1,e2,hN,eh,el]
 simp only [bne_self_eq_false,qD,if_false]
 unfold zRk
 have:({Name:=t.Name,Low:=t.Low,High:=t.High}:Term)=t:=rfl
 rw [this,h]
 rfl
theorem zO1 {c d:Int} (h:zIn c=true) (hd:d<48):c≠d:=by
 unfold zIn zOv zKq at h
 simp only [Bool.or_eq_true,Bool.and_eq_true,qM,beq_iff_eq] at h
 omega
theorem zLc {t:Term} (h:TF t=0):(10:Int)∉bl (zFb t):=by
 obtain ⟨hN,_⟩:=zJz h
 have hv:∀v:Version,(10:Int)∉bl (zGQ v):=fun v hm=>by
  rcases zHz v _ hm with h|h
  ·exact zLq h (.inl (by omega)) rfl
  ·omega
 intro hm
 unfold zFb at hm
 simp only [xE,qJ] at hm
 rcases hm with hm|hm|hm
 ·exact zO1 (zIw hN _ hm) (by omega) rfl
 ·rcases zKF t with ⟨e,_⟩|⟨e,_⟩
  ·rw [e] at hm; cases hm
  ·rw [e] at hm
   simp only [qK] at hm
   rcases hm with hm|hm|hm
   ·omega
   ·omega
   ·exact hv _ hm
 ·rcases zIy t with ⟨e,_⟩|⟨e,_⟩
  ·rw [e] at hm; cases hm
  ·rw [e] at hm
   simp only [qK] at hm
   rcases hm with hm|hm
   ·omega
   ·exact hv _ hm
theorem zI5 {α:Type} (f:α→ByteArray):∀(l:List α) (a:ByteArray),bl (zEn (fun t=>f t++bs [10]) a l)=bl a++l.flatMap (fun t=>bl (f t)++[10])
 |[],a=>by simp [zEn]
 |x::l,a=>by
  have ih:=zI5 f l (a++(f x++bs [10]))
  show bl (zEn (fun t=>f t++bs [10]) (a++(f x++bs [10])) l)=_
  rw [ih]
  have h10:bl (bs [10])=[10]:=zFs _
  simp [xE,h10]
theorem zLh {α:Type} (f:α→ByteArray):∀(l:List α),(∀t∈l,(10:Int)∉bl (f t))→zF0 10 (l.flatMap (fun t=>bl (f t)++[10]))=l.map (fun t=>bl (f t))++[[]]
 |[],_=>rfl
 |x::l,h=>by
  have ih:=zLh f l (fun t ht=>h t (by simp [ht]))
  rw [List.flatMap_cons,List.append_assoc]
  rw [show bl (f x)++([10]++l.flatMap (fun t=>bl (f t)++[10]))=bl (f x)++10::l.flatMap (fun t=>bl (f t)++[10]) from rfl]
  rw [zEb _ (h x (by simp)),ih]
  rfl
theorem zG4 {α:Type} (f:α→ByteArray) (l:List α) (h:∀t∈l,(10:Int)∉bl (f t)):zAW (zEn (fun t=>f t++bs [10]) (bs []) l)=l.map f:=by
 have hp:vH 10 (zEn (fun t=>f t++bs [10]) (bs []) l)=l.map f++[bs []]:=by
  refine (zGm ?_).symm
  rw [zI5,zFl,List.nil_append,zLh f l h]
  simp [zFl]
 unfold zAW
 rw [hp]
 simp
theorem zJg:∀(l:List Term),(∀t∈l,TF t=0)→zIm (l.map zFb)=some l
 |[],_=>rfl
 |t::l,h=>by
  have ih:=zJg l (fun x hx=>h x (by simp [hx]))
  simp only [List.map_cons,zIm]
  rw [zLR (h t (by simp)),ih]
  rfl
theorem zKI (l:List Term) (h:∀t∈l,TF t=0) (h8:l.length≤8):zJB (zFE l)=if jE [] l then none else some l:=by
 have e:zAW (zFE l)=l.map zFb:=zG4 zFb l (fun t ht=>zLc (h t ht))
 unfold zJB
 rw [e,zJg l h]
 simp only
 cases ha:jE [] l
 ·rw [if_pos ⟨h8,rfl,trivial⟩]; rfl
 ·rw [if_neg (fun h=>by cases h.2.1)]; rfl
theorem zHm {b:Nat} {s:zC} (h:Sr b s) (hb:b≤1000000000):∃p s',wJ s=some (p,s')∧p.size≤20∧Sr (b+1) s':=by
 obtain ⟨r,s',x,e1,e2,hx,h'⟩:=at_next h hb (l:=[bs [97],bs [98],bs [99],bs [100],bs [108,105,98],bs [119,101,98]]) (n:=6) rfl (by simp)
 refine ⟨x,s',?_,?_,h'⟩
 ·unfold wJ
  rw [e1]
  simp only [qA,e2]
 ·simp only [qK,List.not_mem_nil,or_false] at hx
  rcases hx with rfl|rfl|rfl|rfl|rfl|rfl<;>decide
theorem zHX {b:Nat} {s:zC} (h:Sr b s) (hb:b+10≤1000000000):∃v s',vX s=some (v,s')∧(0≤v.A∧v.A≤3)∧Sr (b+5) s':=by
 obtain ⟨a,s1,e1,a0,a1,h1⟩:=wZ h (by omega) 4
 obtain ⟨c,s2,e2,_,_,h2⟩:=wZ h1 (by omega) 3
 obtain ⟨d,s3,e3,_,h3⟩:=jO h2 (by omega) [0,0,c] (by simp)
 obtain ⟨f,s4,e4,_,_,h4⟩:=wZ h3 (by omega) 3
 obtain ⟨g,s5,e5,_,h5⟩:=jO h4 (by omega) [0,0,0,f] (by simp)
 refine ⟨{A:=a,B:=d,C:=g},s5,?_,⟨a0,by have:=a1 (by omega); simp only; omega⟩,h5⟩
 unfold vX
 rw [e1]
 simp only [qA,e2,e3,e4,e5]
theorem zGq {b:Nat} {s:zC} (h:Sr b s) (hb:b+20≤1000000000):∃t s',wP s=some (t,s')∧t.Name.size≤20∧Sr (b+9) s':=by
 obtain ⟨p,s1,e1,hp,h1⟩:=zHm h (by omega)
 obtain ⟨q,s2,e2,h2⟩:=xY h1 (by omega) 2
 obtain ⟨v,s3,e3,h3⟩:∃(v:Version) (s3:zC),(if q=true then (vX s2).bind fun x9=>some (x9.2.Code,x9.2.At,x9.1.A,x9.1.B,x9.1.C) else some (s2.Code,s2.At,0,0,0))=some (s3.Code,s3.At,v.A,v.B,v.C)∧Sr (b+7) s3:=by
  cases q
  ·exact ⟨{A:=0,B:=0,C:=0},s2,rfl,h2.mono (by omega)⟩
  ·obtain ⟨v,s3,e,_,h3⟩:=zHX h2 (by omega)
   rw [e]
   exact ⟨v,s3,rfl,h3.mono (by omega)⟩
 obtain ⟨q2,s4,e4,h4⟩:=xY (s:= {Code:=s3.Code,At:=s3.At}) h3 (by omega) 3
 obtain ⟨u,s5,e5,h5⟩:∃(u:Version) (s5:zC),(if q2=true then (zH s4 2).bind fun x15=>some (x15.2.Code,x15.2.At,w64 (w64 (v.A+1)+x15.1),(0:Int),(0:Int)) else some (s4.Code,s4.At,1000,0,0))=some (s5.Code,s5.At,u.A,u.B,u.C)∧Sr (b+9) s5:=by
  cases q2
  ·exact ⟨{A:=1000,B:=0,C:=0},s4,rfl,h4.mono (by omega)⟩
  ·obtain ⟨r,s5,e,_,_,h5⟩:=wZ h4 (by omega) 2
   rw [e]
   exact ⟨{A:=w64 (w64 (v.A+1)+r),B:=0,C:=0},s5,rfl,h5.mono (by omega)⟩
 refine ⟨{Name:=p,Low:=v,High:=u},s5,?_,hp,h5⟩
 unfold wP wT uK
 rw [e1]
 simp only [qA,e2,e3,e4,e5]
theorem zKC {b:Nat} {s:zC} (h:Sr b s) (hb:b+10≤1000000000):∃p s',wK s=some (p,s')∧p.size≤20∧Sr (b+2) s':=by
 obtain ⟨q,s1,e,h1⟩:=xY h (by omega) 14
 unfold wK
 rw [e]
 simp only [qA]
 cases q
 ·obtain ⟨p,s2,e2,h2,h3⟩:=zHm h1 (by omega)
  rw [e2]
  exact ⟨p,s2,rfl,h2,h3⟩
 ·obtain ⟨r,s',x,e1,e2,hx,h'⟩:=at_next h1 (by omega) (l:=[bs [],bs [49,97],bs [65],bs [97,98,99,100,101,102,103,104,105,106,107,108,109],bs [97,98,99,100,101,102,103,104,105,106,107,108],bs [97,32,98],bs [97,45],bs [95,97],bs [97,95,49]]) (n:=9) rfl (by simp)
  rw [e1]
  simp only [qA,e2,if_true]
  refine ⟨x,s',rfl,?_,h'⟩
  simp only [qK,List.not_mem_nil,or_false] at hx
  rcases hx with rfl|rfl|rfl|rfl|rfl|rfl|rfl|rfl|rfl<;>decide
theorem zES {b:Nat} {s:zC} (h:Sr b s) (hb:b+20≤1000000000):∃v s',xW s=some (v,s')∧Sr (b+7) s':=by
 obtain ⟨v,s1,e1,_,h1⟩:=zHX h (by omega)
 obtain ⟨n,s2,e2,_,_,h2⟩:=wZ h1 (by omega) 14
 unfold xW
 rw [e1]
 simp only [qA,e2]
 by_cases c0:(n==0)=true
 ·obtain ⟨y,s3,e3,_,h3⟩:=jO h2 (by omega) [-1,999,1000] (by simp)
  rw [if_pos c0,e3]
  exact ⟨_,_,rfl,h3⟩
 rw [if_neg c0]
 by_cases c1:(n==1)=true
 ·obtain ⟨y,s3,e3,_,h3⟩:=jO h2 (by omega) [-1,999,1000] (by simp)
  rw [if_pos c1,e3]
  exact ⟨_,_,rfl,h3⟩
 rw [if_neg c1]
 by_cases c2:(n==2)=true
 ·obtain ⟨y,s3,e3,_,h3⟩:=jO h2 (by omega) [-1,999,1000,4611686018427387904] (by simp)
  rw [if_pos c2,e3]
  exact ⟨_,_,rfl,h3⟩
 rw [if_neg c2]
 exact ⟨_,_,rfl,h2.mono (by omega)⟩
theorem zEY {b:Nat} {s:zC} (h:Sr b s) (hb:b+40≤1000000000):∃t s',wI s=some (t,s')∧t.Name.size≤20∧Sr (b+20) s':=by
 obtain ⟨t,s1,e1,ht,h1⟩:=zGq h (by omega)
 obtain ⟨n,s2,e2,_,_,h2⟩:=wZ h1 (by omega) 14
 unfold wI
 rw [e1]
 simp only [qA,e2]
 by_cases c0:(n==0)=true
 ·obtain ⟨p,s3,e3,hp,h3⟩:=zKC h2 (by omega)
  rw [if_pos c0,e3]
  exact ⟨_,_,rfl,hp,h3.mono (by omega)⟩
 rw [if_neg c0]
 by_cases c1:(n==1)=true
 ·obtain ⟨v,s3,e3,h3⟩:=zES h2 (by omega)
  rw [if_pos c1,e3]
  exact ⟨_,_,rfl,ht,h3.mono (by omega)⟩
 rw [if_neg c1]
 by_cases c2:(n==2)=true
 ·obtain ⟨v,s3,e3,h3⟩:=zES h2 (by omega)
  rw [if_pos c2,e3]
  exact ⟨_,_,rfl,ht,h3.mono (by omega)⟩
 rw [if_neg c2]
 by_cases c3:(n==3)=true
 ·rw [if_pos c3]
  exact ⟨_,_,rfl,ht,h2.mono (by omega)⟩
 rw [if_neg c3]
 exact ⟨_,_,rfl,ht,h2.mono (by omega)⟩
theorem zOt {b:Nat} {s:zC} (h:Sr b s) (hb:b+200≤1000000000):∃l s',zDY s=some (l,s')∧l.length≤4∧(∀t∈l,t.Name.size≤20)∧Sr (b+100) s':=by
 obtain ⟨n,s1,e1,hn,h1⟩:=jO h (by omega) [0,1,1,2,3] (by simp)
 have hn3:0≤n∧n≤3:=by
  simp only [qK,List.not_mem_nil,or_false] at hn
  omega
 obtain ⟨t,e2,l,s2,rfl,hl,hz,h2⟩:=xO (b:=zCQ) (fun i q=>∃(l:List Term) (s':zC),q=(s'.Code,s'.At,l,n-(i:Int))∧l.length=i∧(∀t∈l,t.Name.size≤20)∧Sr (b+1+9*i) s') n.toNat
  (fun t=>∃(l:List Term) (s':zC),t=(s'.Code,s'.At,l)∧l.length=n.toNat∧(∀t∈l,t.Name.size≤20)∧Sr (b+1+9*n.toNat) s') (by
  rintro i q hi ⟨l,s',rfl,hl,hz,hs⟩
  unfold zCQ
  simp only
  rw [if_pos (by simp; omega)]
  obtain ⟨t,u,f1,ht,g1⟩:=zGq hs (by omega)
  have f1':wP {Code:=s'.Code,At:=s'.At}=some (t,u):=f1
  rw [f1']
  simp only [qA]
  rw [wY (by simp; omega) (by simp; omega),wC (x:=n-(i:Int)-1) (by omega) (by omega)]
  refine .inl ⟨_,rfl,_,u,by rw [show n-(i:Int)-1=n-((i+1:Nat):Int) by omega],by simp [hl],fun x hx=>?_,g1.mono (by omega)⟩
  rcases List.mem_append.1 hx with hx|hx
  ·exact hz x hx
  ·rw [List.mem_singleton.1 hx]; exact ht) (by
  rintro q ⟨l,s',rfl,hl,hz,hs⟩
  unfold zCQ
  simp only
  rw [if_neg (by simp; omega)]
  exact ⟨_,rfl,l,s',rfl,hl,hz,hs⟩) n.toNat 0 (s1.Code,s1.At,[],n) (by omega) ⟨[],s1,by simp,rfl,by simp,h1⟩
 have h2:=h2.mono (b':=b+30) (by omega)
 obtain ⟨q,s3,e3,h3⟩:=xY (s:= {Code:=s2.Code,At:=s2.At}) h2 (by omega) 24
 unfold zDY
 have e2':zD9 (s1.Code,s1.At,[],n)=some (s2.Code,s2.At,l):=e2
 rw [e1]
 simp only [qA,e2',e3]
 cases q
 ·exact ⟨l,s3,rfl,by omega,hz,h3.mono (by omega)⟩
 ·obtain ⟨t,s4,e4,ht,h4⟩:=zEY h3 (by omega)
  rw [if_pos rfl,e4]
  simp only [qA]
  rw [wY (by simp; omega) (by simp; omega)]
  refine ⟨_,s4,rfl,by simp; omega,fun x hx=>?_,h4.mono (by omega)⟩
  rcases List.mem_append.1 hx with hx|hx
  ·exact hz x hx
  ·rw [List.mem_singleton.1 hx]; exact ht
def zJ7 (c:List Pack) (k:Int):ByteArray:=(pat c k).Name
def inN (ns:List ByteArray) (n:ByteArray):Bool:=ns.any fun x=>seq x n
theorem zGu {ns:List ByteArray} {n:ByteArray}:inN ns n=true↔n∈ns:=by
 unfold inN
 rw [List.any_eq_true]
 constructor
 ·rintro ⟨x,hx,e⟩; rw [←zET.1 e]; exact hx
 ·exact fun h=>⟨n,h,zDM n⟩
def mvB (c:List Pack) (a b:List Int) (ns:List ByteArray) (k:Int):Bool:=if inN ns (zJ7 c k) then decide (k∈b) else decide (k∈a)
def upTo (n:Nat):List Int:=(List.range n).map fun i:Nat=>(i:Int)
def mvL (c:List Pack) (a b:List Int) (ns:List ByteArray):List Int:=(upTo c.length).filter (mvB c a b ns)
theorem zOr (n:Nat):upTo (n+1)=upTo n++[(n:Int)]:=by simp [upTo,List.range_succ]
theorem zJ8 (n:Nat):(upTo n).length =n:=by simp [upTo]
theorem zNd {n:Nat} {k:Int}:k∈upTo n↔0≤k∧k<n:=by
 unfold upTo
 rw [List.mem_map]
 constructor
 ·rintro ⟨i,hi,rfl⟩
  have:=List.mem_range.1 hi
  omega
 ·rintro ⟨h1,h2⟩
  exact ⟨k.toNat,List.mem_range.2 (by omega),by omega⟩
theorem zQM (n:Nat):(upTo n).Pairwise (· < ·):=by
 unfold upTo
 refine List.pairwise_map.2 (List.pairwise_lt_range.imp fun h=>by omega)
theorem zKm (c:List Pack) (a b:List Int) (ns:List ByteArray):(mvL c a b ns).Pairwise (· < ·):=(zQM _).filter _
theorem zHF (c:List Pack) (a b:List Int) (ns:List ByteArray):Places c (mvL c a b ns):=fun k hk=>zNd.1 (List.mem_filter.1 hk).1
theorem zHN (c:List Pack) (a b:List Int) (ns:List ByteArray):(mvL c a b ns).length ≤c.length:=by
 have:=List.length_filter_le (mvB c a b ns) (upTo c.length)
 rw [zJ8] at this
 exact this
theorem zHL {c:List Pack} {a b:List Int} {ns:List ByteArray} (ha:Places c a) (hb:Places c b) {k:Int}:k∈mvL c a b ns↔(zJ7 c k∈ns∧k∈b)∨(zJ7 c k∉ns∧k∈a):=by
 unfold mvL mvB
 rw [List.mem_filter,zNd]
 have hin:=zGu (ns:=ns) (n:=zJ7 c k)
 cases hq:inN ns (zJ7 c k)
 ·have hno:zJ7 c k∉ns:=fun h=>by rw [hin.2 h] at hq; cases hq
  simp only [qD,if_false,qM]
  constructor
  ·rintro ⟨_,h⟩; exact .inr ⟨hno,h⟩
  ·rintro (⟨h,_⟩|⟨_,h⟩)
   ·exact absurd h hno
   ·exact ⟨ha k h,h⟩
 ·have hyes:=hin.1 hq
  simp only [if_true,qM]
  constructor
  ·rintro ⟨_,h⟩; exact .inl ⟨hyes,h⟩
  ·rintro (⟨_,h⟩|⟨h,_⟩)
   ·exact ⟨hb k h,h⟩
   ·exact absurd hyes h
theorem zOl {c:List Pack} {a b:List Int} {ns:List ByteArray} (hc:c.length≤1048576) (ha:a.length≤1048576) (hb:b.length≤1048576) (hn:ns.length≤1048576):zAR c a b ns=some (mvL c a b ns):=by
 obtain ⟨t,e,rfl⟩:=xO (b:=zCM c a b ns) (fun i s=>s=((upTo i).filter (mvB c a b ns),(i:Int))) c.length (fun t=>t=mvL c a b ns) (by
  rintro i s hi rfl
  refine .inl ⟨_,?_,rfl⟩
  unfold zCM
  have hk:=vU (c:=c) (k:=(i:Int)) ⟨by omega,by omega⟩
  have hl:((upTo i).filter (mvB c a b ns)).length ≤i:=by
   have:=List.length_filter_le (mvB c a b ns) (upTo i)
   rw [zJ8] at this
   exact this
  rw [if_pos (by simp; omega)]
  simp only
  rw [hk.1]
  simp only [qA]
  rw [zDw _ _ hn,zFa _ _ ha,zFa _ _ hb,zM (by omega),wY (B:=8) (ys:=[(i:Int)]) (by simp; omega) (by simp; omega)]
  simp only [qA]
  have hm:mvB c a b ns (i:Int)=if (ns.any fun x=>seq x (pat c i).Name) then decide ((i:Int)∈b) else decide ((i:Int)∈a):=rfl
  rw [zOr,List.filter_append,List.filter_cons,List.filter_nil,hm]
  cases (ns.any fun x=>seq x (pat c i).Name)<;>cases decide ((i:Int)∈a)<;>cases decide ((i:Int)∈b)<;>simp) (by
  rintro s rfl
  unfold zCM
  rw [if_neg (by simp)]
  exact ⟨_,rfl,rfl⟩) c.length 0 (([]:List Int),0) (by omega) (by simp [upTo])
 unfold zAR zD8
 rw [e]
 rfl
theorem zPk {c:List Pack} {a b:List Int} {n1 n2:List ByteArray} (pa:Places c a) (pb:Places c b):mvL c (mvL c a b n1) b n2=mvL c a b (n1++n2):=by
 refine zFH (zKm _ _ _ _) (zKm _ _ _ _) fun k=>?_
 rw [zHL (zHF _ _ _ _) pb,zHL pa pb,zHL pa pb,qJ]
 by_cases h1:zJ7 c k∈n1<;>by_cases h2:zJ7 c k∈n2<;>simp [h1,h2]
theorem zMe {c:List Pack} {a b:List Int} (pa:Places c a) (pb:Places c b) (sa:a.Pairwise (· < ·)):mvL c a b []=a:=by
 refine zFH (zKm _ _ _ _) sa fun k=>?_
 rw [zHL pa pb]
 simp
def zKS (c:List Pack) (a:List Int) (n:ByteArray):Int:=(xU (fun _ k=>if seq (pat c k).Name n then some k else none) 0 a).getD (-1)
theorem zMS {q:Int→Bool}:∀(xs:List Int) (i:Nat),((xU (fun _ k=>if q k then some k else none) i xs)=none∧∀k∈xs,q k=false)∨∃k∈xs,q k=true∧(xU (fun _ k=>if q k then some k else none) i xs)=some k
 |[],i=>.inl ⟨rfl,by simp⟩
 |x::xs,i=>by
  simp only [xU]
  cases hq:q x
  ·simp only [qD,if_false]
   rcases zMS (q:=q) xs (i+1) with ⟨h1,h2⟩|⟨k,h1,h2,h3⟩
   ·refine .inl ⟨h1,fun k hk=>?_⟩
    rcases List.mem_cons.1 hk with rfl|hk
    ·exact hq
    ·exact h2 k hk
   ·exact .inr ⟨k,by simp [h1],h2,h3⟩
  ·simp only [if_true]
   exact .inr ⟨x,by simp,hq,rfl⟩
theorem zNv (c:List Pack) (a:List Int) (n:ByteArray):(zKS c a n= -1∧∀k∈a,zJ7 c k≠n)∨(zKS c a n∈a∧zJ7 c (zKS c a n)=n):=by
 unfold zKS
 rcases zMS (q:=fun k=>seq (pat c k).Name n) a 0 with ⟨h1,h2⟩|⟨k,h1,h2,h3⟩
 ·rw [h1]
  refine .inl ⟨rfl,fun k hk e=>?_⟩
  have:seq (zJ7 c k) n=false:=h2 k hk
  rw [zET.2 e] at this
  cases this
 ·rw [h3]
  exact .inr ⟨h1,zET.1 h2⟩
structure Sml (c:List Pack):Prop where
 len:c.length≤24
 zRh:∀k,(pat c k).Provides.length ≤4
 needs:∀k,(pat c k).Needs.length ≤4
 bars:∀k,(pat c k).Bars.length ≤4
 clause:∀k,∀l∈(pat c k).Needs,l.length≤4
theorem Sml.of {c:List Pack} (h:CF c=0):Sml c:=by
 obtain ⟨h1,h2,_⟩:=zGS h
 have key:∀p,PF p=0→p.Provides.length≤4∧p.Needs.length≤4∧p.Bars.length≤4∧∀l∈p.Needs,l.length≤4:=by
  intro p hp
  have hm:zNM p=false:=by
   cases hm:zNM p with
   |false=>rfl
   |true=>
    unfold PF at hp
    rw [hm] at hp
    split at hp
    ·rename_i h3; simp [hp] at h3
    split at hp
    ·rename_i h3; simp [hp] at h3
    split at hp
    ·cases hp
    ·cases hp
  unfold zNM at hm
  simp only [Bool.or_eq_false_iff,decide_eq_false_iff_not,List.any_eq_false,qM] at hm
  obtain ⟨m1,m2,m3,m4⟩:=hm
  exact ⟨by omega,by omega,by omega,fun l hl=>by have:=m4 l hl; omega⟩
 have pk:∀k,(pat c k).Provides.length ≤4∧(pat c k).Needs.length ≤4∧(pat c k).Bars.length ≤4∧∀l∈(pat c k).Needs,l.length≤4:=by
  intro k
  unfold pat
  cases hk:idx c k with
  |none=>simp [noPack]
  |some p=>
   refine key p (h2 p ?_)
   unfold idx at hk
   split at hk
   ·exact List.mem_of_getElem? hk
   ·cases hk
 exact ⟨h1,fun k=>(pk k).1,fun k=>(pk k).2.1,fun k=>(pk k).2.2.1,fun k=>(pk k).2.2.2⟩
structure Two (c:List Pack) (a b:List Int):Prop where
 sml:Sml c
 pa:Places c a
 pb:Places c b
 sa:a.Pairwise (· < ·)
 sb:b.Pairwise (· < ·)
 la:a.length≤24
 lb:b.length≤24
theorem zNT {c:List Pack} {a:List Int} (hp:Places c a) {n:ByteArray} (h:zKS c a n≥0):0≤zKS c a n∧zKS c a n<c.length:=by
 rcases zNv c a n with ⟨q,_⟩|⟨q,_⟩
 ·omega
 ·exact hp _ q
theorem zKw {α:Type} (xs:List α) (f:α→ByteArray) {b:(List ByteArray×Int)→Option (Lp (List ByteArray×Int) (List ByteArray))}
  (hstep:∀(i:Nat) (hi:i<xs.length) (l:List ByteArray),b (l,(i:Int))=(vC l (f xs[i])).bind fun x=>some (Lp.go (x,w64 ((i:Int)+1)))) (hend:∀l,b (l,(xs.length:Int))=some (.done l)) (l0:List ByteArray) (hs:l0.Pairwise ltS) (hl:l0.length+xs.length≤1048576):
  ∃r,loop b (l0,0)=some r∧r.Pairwise ltS∧(∀x,x∈r↔x∈l0∨∃y∈xs,f y=x)∧r.length≤l0.length+xs.length:=by
 refine xO (b:=b) (fun i s=>s.2=(i:Int)∧s.1.Pairwise ltS∧(∀x,x∈s.1↔x∈l0∨∃y∈xs.take i,f y=x)∧s.1.length≤l0.length+i) xs.length _ (by
  rintro i ⟨l,j⟩ hi ⟨hj,h1,h2,h3⟩
  simp only at hj h1 h2 h3
  subst hj
  refine .inl ?_
  obtain ⟨r,e1,e2,e3,e4⟩:=zJ6 l (f xs[i]) h1 (by omega)
  rw [hstep i hi,e1,zM (by omega)]
  refine ⟨_,rfl,rfl,e2,fun x=>?_,by simp only; omega⟩
  rw [e3,h2,qF hi]
  constructor
  ·rintro ((q|⟨y,q1,q2⟩)|q)
   ·exact .inl q
   ·exact .inr ⟨y,List.mem_append_left _ q1,q2⟩
   ·exact .inr ⟨_,List.mem_append_right _ (by simp),q.symm⟩
  ·rintro (q|⟨y,q1,q2⟩)
   ·exact .inl (.inl q)
   ·rcases List.mem_append.1 q1 with q1|q1
    ·exact .inl (.inr ⟨y,q1,q2⟩)
    ·simp at q1; subst q1; exact .inr q2.symm) (by
  rintro ⟨l,j⟩ ⟨hj,h1,h2,h3⟩
  simp only at hj h1 h2 h3
  subst hj
  rw [List.take_length] at h2
  exact ⟨_,hend l,h1,h2,h3⟩) xs.length 0 (l0,0) (by omega) ⟨rfl,hs,by simp,by simp⟩
inductive Rch (K:ByteArray→ByteArray→Bool) (L:List ByteArray) (h:ByteArray):ByteArray→Prop where
 |base:Rch K L h h
 |step {x y:ByteArray}:Rch K L h x→y∈L→K x y=true→Rch K L h y
def zFK (K:ByteArray→ByteArray→Bool) (L:List ByteArray):List ByteArray:=L.filter fun y=> @decide (Rch K L (L.headD ByteArray.empty) y) (Classical.propDecidable _)
def zHt (K:ByteArray→ByteArray→Bool) (L:List ByteArray):List ByteArray:=L.filter fun y=> !(@decide (Rch K L (L.headD ByteArray.empty) y) (Classical.propDecidable _))
theorem Rch.mem {K:ByteArray→ByteArray→Bool} {L:List ByteArray} {h x:ByteArray} (hh:h∈L) (r:Rch K L h x):x∈L:=by
 cases r with
 |base=>exact hh
 |step _ h2 _=>exact h2
theorem zLL {K:ByteArray→ByteArray→Bool} {L:List ByteArray} {h:ByteArray} {t:List ByteArray} (e:L=h::t) {x:ByteArray}:x∈zFK K L↔Rch K L h x:=by
 unfold zFK
 rw [List.mem_filter]
 have:L.headD ByteArray.empty=h:=by rw [e]; rfl
 rw [this]
 simp only [qM]
 exact ⟨fun h=>h.2,fun r=>⟨r.mem (by rw [e]; simp),r⟩⟩
theorem zPg {K:ByteArray→ByteArray→Bool} {L:List ByteArray} {h:ByteArray} {t:List ByteArray} (e:L=h::t) {x:ByteArray}:x∈zHt K L↔x∈L∧¬Rch K L h x:=by
 unfold zHt
 rw [List.mem_filter]
 have:L.headD ByteArray.empty=h:=by rw [e]; rfl
 rw [this]
 simp
theorem zPE {K:ByteArray→ByteArray→Bool} {L:List ByteArray} {h:ByteArray} {t:List ByteArray} (e:L=h::t):(zHt K L).length <L.length:=by
 have hne:zHt K L≠L:=fun he=>by
  have:h∈zHt K L:=by rw [he,e]; simp
  exact ((zPg e).1 this).2 .base
 have hs:(zHt K L).Sublist L:=List.filter_sublist
 rcases Nat.lt_or_ge (zHt K L).length L.length with q|q
 ·exact q
 ·exact absurd (hs.eq_of_length (Nat.le_antisymm hs.length_le q)) hne
theorem zKJ {P L:List ByteArray} (hP:P.Pairwise ltS) (hL:L.Pairwise ltS) (h:∀x∈P,x∈L):P.length≤L.length:=by
 have e:P=L.filter (inN P):=zGV hP (hL.filter _) fun x=>by
  rw [List.mem_filter,zGu]
  exact ⟨fun hx=>⟨h x hx,hx⟩,fun hx=>hx.2⟩
 rw [e]
 exact List.length_filter_le _ _
theorem zNm {K:ByteArray→ByteArray→Bool} {c:List Pack} {a b:List Int} (hJ:∀x y,xP c a b x y=some (K x y)) {L P:List ByteArray} {out:List (List ByteArray)} {s3:List ByteArray×Bool×Int} {i:Nat} (hi:i<L.length) (hs3:s3.2.2=(i:Int)) (hP:P.Pairwise ltS) (hl:P.length≤1000) (g:Bool):
  ∃t,loop (zBP c a b (L,out) s3) (P,g,0)=some t∧t.1.Pairwise ltS∧((t=(P,g)∧(L[i]∈P∨∀x∈P,K x L[i]=false))∨(L[i]∉P∧(∃x∈P,K x L[i]=true)∧t.2=true∧(∀z,z∈t.1↔z∈P∨z=L[i])∧t.1.length=P.length+1)):=by
 let Q:List ByteArray×Bool→Prop:=fun t=>t.1.Pairwise ltS∧((t=(P,g)∧(L[i]∈P∨∀x∈P,K x L[i]=false))∨(L[i]∉P∧(∃x∈P,K x L[i]=true)∧t.2=true∧(∀z,z∈t.1↔z∈P∨z=L[i])∧t.1.length=P.length+1))
 refine xO (b:=zBP c a b (L,out) s3)
  (fun k s=>s.2.2=(k:Int)∧k≤P.length+1∧((s.1=P∧s.2.1=g∧k≤P.length∧(∀(j:Nat) (hj:j<P.length),j<k→K P[j] L[i]=false))∨(s.1.Pairwise ltS∧L[i]∉P∧(∃x∈P,K x L[i]=true)∧s.2.1=true∧(∀z,z∈s.1↔z∈P∨z=L[i])∧s.1.length=P.length+1))) (P.length+2) Q (by
  rintro k ⟨p,g',k'⟩ hk ⟨hk',hle,hcase⟩
  simp only at hk' hcase
  subst hk'
  have hix:idx L s3.2.2=some L[i]:=by rw [hs3]; exact zL hi
  unfold zBP
  simp only
  rcases hcase with ⟨rfl,rfl,hkp,hno⟩|⟨h1,h2,h3,h4,h5,h6⟩
  ·by_cases hkl:k<p.length
   ·rw [if_pos (by simp; omega),hix]
    simp only [qA]
    rw [zDw _ _ (by omega)]
    have hq:(p.any fun x=>seq x L[i])=inN p L[i]:=rfl
    rw [hq]
    simp only [qA]
    cases hin:inN p L[i]
    ·simp only [Bool.not_false,if_true]
     have hnin:L[i]∉p:=fun h=>by rw [zGu.2 h] at hin; cases hin
     rw [zL hkl]
     simp only [qA]
     rw [hJ]
     simp only [qA]
     cases hj:K p[k] L[i]
     ·simp only [qD,if_false,qA]
      rw [zM (by omega)]
      refine .inl ⟨_,rfl,rfl,by omega,.inl ⟨rfl,rfl,by omega,fun j hj' hjk=>?_⟩⟩
      rcases Nat.lt_succ_iff_lt_or_eq.1 hjk with q|q
      ·exact hno j hj' q
      ·subst q; exact hj
     ·simp only [if_true]
      obtain ⟨r,e1,e2,e3,e4⟩:=zJ6 p L[i] hP (by omega)
      rw [e1]
      simp only [qA]
      rw [zM (by omega)]
      refine .inl ⟨_,rfl,rfl,by omega,.inr ⟨e2,hnin,⟨_,qE hkl,hj⟩,rfl,e3,?_⟩⟩
      have hnd:∀{l:List ByteArray},l.Pairwise ltS→l.Nodup:=fun h=>h.imp fun h=>zMY h
      have:r.Perm (L[i]::p):=(List.perm_ext_iff_of_nodup (hnd e2) (List.nodup_cons.2 ⟨hnin,hnd hP⟩)).2 fun z=>by
       rw [e3,qK]; exact Or.comm
      rw [this.length_eq]
      rfl
    ·simp only [Bool.not_true,qD,if_false]
     exact .inr ⟨_,rfl,hP,.inl ⟨rfl,.inl (zGu.1 hin)⟩⟩
   ·rw [if_neg (by simp; omega)]
    simp only [qA,qD,if_false]
    refine .inr ⟨_,rfl,hP,.inl ⟨rfl,.inr fun x hx=>?_⟩⟩
    obtain ⟨j,hj,rfl⟩:=List.getElem_of_mem hx
    exact hno j hj (by omega)
  ·refine .inr ⟨(p,g'),?_,h1,.inr ⟨h2,h3,h4,h5,h6⟩⟩
   by_cases hkl:k<p.length
   ·rw [if_pos (by simp; omega),hix]
    simp only [qA]
    rw [zDw _ _ (by omega)]
    have hq:(p.any fun x=>seq x L[i])=true:=by
     show inN p L[i]=true
     exact zGu.2 ((h5 _).2 (.inr rfl))
    rw [hq]
    simp
   ·rw [if_neg (by simp; omega)]
    simp) (by
  rintro ⟨p,g',k'⟩ ⟨hk',hle,_⟩
  omega) (P.length+2) 0 (P,g,0) (by omega) ⟨rfl,by omega,.inl ⟨rfl,rfl,by omega,fun j hj h=>by omega⟩⟩
theorem zN4 {K:ByteArray→ByteArray→Bool} {c:List Pack} {a b:List Int} (hJ:∀x y,xP c a b x y=some (K x y)) {L P:List ByteArray} {h:ByteArray} {out:List (List ByteArray)} (hL:L.Pairwise ltS) (hl:L.length≤500) (hP:P.Pairwise ltS) (hsub:∀x∈P,Rch K L h x) (hh:h∈L):
  ∃t,loop (zAf c a b (L,out)) (P,false,0)=some t∧t.1.Pairwise ltS∧(∀x∈P,x∈t.1)∧(∀x∈t.1,Rch K L h x)∧(t.2=true→P.length<t.1.length)∧(t.2=false→t.1=P∧∀y∈L,y∈P∨∀x∈P,K x y=false):=by
 refine xO (b:=zAf c a b (L,out))
  (fun i s=>s.2.2=(i:Int)∧s.1.Pairwise ltS∧(∀x∈P,x∈s.1)∧(∀x∈s.1,Rch K L h x)∧(s.2.1=true→P.length<s.1.length)∧P.length≤s.1.length∧(s.2.1=false→s.1=P∧∀y∈L.take i,y∈P∨∀x∈P,K x y=false)) L.length _ (by
  rintro i ⟨p,g,k⟩ hi ⟨hk,h1,h2,h3,h4,h5,h6⟩
  simp only at hk h1 h2 h3 h4 h5 h6
  subst hk
  refine .inl ?_
  have hpl:=zKJ h1 hL (fun x hx=>(h3 x hx).mem hh)
  obtain ⟨⟨p',g'⟩,e,q1,q2⟩:=zNm hJ (out:=out) (s3:=(p,g,(i:Int))) hi rfl h1 (by omega) g
  unfold zAf zDc
  rw [if_pos (by simp; omega)]
  simp only
  rw [e,zM (by omega)]
  refine ⟨_,rfl,rfl,q1,?_⟩
  simp only at q1 q2 ⊢
  rcases q2 with ⟨q3,q4⟩|⟨q3,⟨x0,q4,q5⟩,q6,q7,q8⟩
  ·cases q3
   refine ⟨h2,h3,h4,h5,fun hg=>?_⟩
   obtain ⟨rfl,h8⟩:=h6 hg
   refine ⟨rfl,fun y hy=>?_⟩
   rw [qF hi] at hy
   rcases List.mem_append.1 hy with hy|hy
   ·exact h8 y hy
   ·simp at hy; subst hy; exact q4
  ·refine ⟨fun x hx=>(q7 x).2 (.inl (h2 x hx)),fun x hx=>?_,fun _=>by omega,by omega,fun hg=>?_⟩
   ·rcases (q7 x).1 hx with hx|rfl
    ·exact h3 x hx
    ·exact .step (h3 _ q4) (qE hi) q5
   ·rw [q6] at hg; cases hg) (by
  rintro ⟨p,g,k⟩ ⟨hk,h1,h2,h3,h4,h5,h6⟩
  simp only at hk h1 h2 h3 h4 h5 h6
  subst hk
  rw [List.take_length] at h6
  unfold zAf
  rw [if_neg (by simp)]
  exact ⟨_,rfl,h1,h2,h3,h4,h6⟩) L.length 0 (P,false,0) (by omega) ⟨rfl,hP,fun x hx=>hx,hsub,by simp,Nat.le_refl _,fun _=>⟨rfl,by simp⟩⟩
theorem zOn {K:ByteArray→ByteArray→Bool} {c:List Pack} {a b:List Int} (hJ:∀x y,xP c a b x y=some (K x y)) {L:List ByteArray} {h:ByteArray} {t:List ByteArray} {out:List (List ByteArray)} (e0:L=h::t) (hL:L.Pairwise ltS) (hl:L.length≤500):zBq c a b (L,out) ([h],true)=some (zFK K L):=by
 have hh:h∈L:=by rw [e0]; simp
 obtain ⟨r,e,h1,h2,h3,h4⟩:=zLu (b:=zDO c a b (L,out)) (fun s=>s.1.Pairwise ltS∧h∈s.1∧(∀x∈s.1,Rch K L h x)∧(s.2=false→∀y∈L,y∈s.1∨∀x∈s.1,K x y=false))
  (fun s=>(L.length-s.1.length)*2+(if s.2 then 1 else 0)) (fun t=>t.Pairwise ltS∧h∈t∧(∀x∈t,Rch K L h x)∧∀y∈L,y∈t∨∀x∈t,K x y=false) (by
  rintro ⟨p,g⟩ ⟨g1,g2,g3,g4⟩
  simp only at g1 g2 g3 g4
  unfold zDO
  simp only
  cases g
  ·rw [if_neg (by simp)]
   exact .inr ⟨_,rfl,g1,g2,g3,g4 rfl⟩
  ·rw [if_pos rfl]
   obtain ⟨⟨p',g'⟩,e,q1,q2,q3,q4,q5⟩:=zN4 hJ (out:=out) hL hl g1 g3 hh
   simp only at q1 q2 q3 q4 q5
   unfold zCN
   rw [e]
   have hpl:=zKJ q1 hL (fun x hx=>(q3 x hx).mem hh)
   refine .inl ⟨_,rfl,⟨q1,q2 _ g2,q3,fun hg=>?_⟩,?_⟩
   ·obtain ⟨rfl,q6⟩:=q5 hg
    exact q6
   ·simp only
    cases g'
    ·obtain ⟨rfl,_⟩:=q5 rfl
     simp
    ·have:=q4 rfl
     simp
     omega) _ ([h],true) (Nat.le_refl _) ⟨by simp,by simp,fun x hx=>by simp at hx; subst hx; exact .base,by simp⟩
 unfold zBq
 rw [e]
 congr 1
 refine zGV h1 (hL.filter _) fun x=>?_
 show x∈r↔x∈zFK K L
 rw [zLL e0]
 refine ⟨h3 x,fun hr=>?_⟩
 induction hr with
 |base=>exact h2
 |step _ hy hj ih=>
  rcases h4 _ hy with q|q
  ·exact q
  ·rw [q _ ih] at hj; cases hj
theorem zOi {K:ByteArray→ByteArray→Bool} {c:List Pack} {a b:List Int} {L:List ByteArray} {h:ByteArray} {t:List ByteArray} {out:List (List ByteArray)} (e0:L=h::t) (hl:L.length≤500):zAZ c a b (L,out) (zFK K L) (([]:List ByteArray),0)=some (zHt K L):=by
 have hpl:(zFK K L).length ≤L.length:=List.length_filter_le _ _
 obtain ⟨r,e,rfl⟩:=xO (b:=zCf c a b (L,out) (zFK K L)) (fun i s=>s.2=(i:Int)∧s.1=(L.take i).filter (fun y=> !(inN (zFK K L) y))) L.length (fun t=>t=L.filter (fun y=> !(inN (zFK K L) y))) (by
  rintro i ⟨l,k⟩ hi ⟨hk,hl'⟩
  simp only at hk hl'
  subst hk hl'
  refine .inl ?_
  have hlen:((L.take i).filter (fun y=> !(inN (zFK K L) y))).length ≤i:=by
   have:=List.length_filter_le (fun y=> !(inN (zFK K L) y)) (L.take i)
   simp at this ⊢
   omega
  unfold zCf
  simp only
  rw [if_pos (by simp; omega),zL hi]
  simp only [qA]
  rw [zDw _ _ (by omega),zM (by omega),wY (by simp at hlen ⊢; omega) (by simp at hlen ⊢; omega)]
  have hq:((zFK K L).any fun x=>seq x L[i])=inN (zFK K L) L[i]:=rfl
  rw [hq]
  simp only [qA]
  refine ⟨((L.take (i+1)).filter (fun y=> !(inN (zFK K L) y)),((i+1:Nat):Int)),?_,rfl,rfl⟩
  rw [qF hi,List.filter_append,List.filter_cons,List.filter_nil]
  cases inN (zFK K L) L[i]<;>simp) (by
  rintro ⟨l,k⟩ ⟨hk,hl'⟩
  simp only at hk hl'
  subst hk hl'
  rw [List.take_length]
  unfold zCf
  rw [if_neg (by simp)]
  exact ⟨_,rfl,rfl⟩) L.length 0 (([]:List ByteArray),0) (by omega) ⟨rfl,by simp⟩
 unfold zAZ
 rw [e]
 congr 1
 unfold zHt
 refine List.filter_congr fun y hy=>?_
 have hd:L.headD ByteArray.empty=h:=by rw [e0]; rfl
 rw [hd]
 congr 1
 rw [Bool.eq_iff_iff,zGu,zLL e0]
 exact (@decide_eq_true_iff _ (Classical.propDecidable _)).symm
theorem zGo {K:ByteArray→ByteArray→Bool} {c:List Pack} {a b:List Int} (hJ:∀x y,xP c a b x y=some (K x y)) {L:List ByteArray} {out:List (List ByteArray)} (hL:L.Pairwise ltS) (hl:L.length≤500) (ho:out.length≤500):zBZ c a b (L,out)=some (if L=[] then .done out else .go (zHt K L,out++[zFK K L])):=by
 cases L with
 |nil=>
  unfold zBZ
  rw [if_neg (by simp),if_pos rfl]
 |cons h t=>
  unfold zBZ
  rw [if_pos (by simp),if_neg (by simp)]
  simp only
  rw [show idx (h::t) 0=some h from rfl]
  simp only [qA]
  rw [zOn hJ rfl hL hl]
  simp only [qA]
  rw [zOi rfl hl]
  simp only [qA]
  rw [wY (by simp; omega) (by simp; omega)]
  rfl
def zFx (K:ByteArray→ByteArray→Bool):Nat→List ByteArray→List (List ByteArray)
 |0,_=>[]
 |n+1,L=>if L=[] then [] else zFK K L::zFx K n (zHt K L)
theorem zIe {K:ByteArray→ByteArray→Bool} {L:List ByteArray} (h:L.Pairwise ltS):(zHt K L).Pairwise ltS:=h.filter _
theorem zL6 {K:ByteArray→ByteArray→Bool} {L:List ByteArray} (h:L.Pairwise ltS):(zFK K L).Pairwise ltS:=h.filter _
theorem zGr {K:ByteArray→ByteArray→Bool} {c:List Pack} {a b:List Int} (hJ:∀x y,xP c a b x y=some (K x y)):∀(n:Nat) (L:List ByteArray) (out:List (List ByteArray)),L.Pairwise ltS→L.length≤n→L.length+out.length≤500→tK c a b (L,out)=some (out++zFx K n L)
 |0,L,out,h1,h2,h3=>by
  have:L=[]:=List.length_eq_zero_iff.1 (by omega)
  subst this
  unfold tK
  rw [wO,zGo hJ h1 (by simp) (by omega)]
  simp [zFx,Lp.elim]
 |n+1,L,out,h1,h2,h3=>by
  unfold tK
  rw [wO,zGo hJ h1 (by omega) (by omega)]
  cases L with
  |nil=>simp [zFx,Lp.elim]
  |cons h t=>
   have hlt:=zPE (K:=K) (L:=h::t) rfl
   have ih:=zGr hJ n (zHt K (h::t)) (out++[zFK K (h::t)]) (zIe h1) (by omega) (by simp at h3 hlt ⊢; omega)
   rw [if_neg (by simp)]
   simp only [qA,Lp.elim]
   unfold tK at ih
   rw [ih]
   simp [zFx]
def zCJ (n m:Nat):List Nat:=(List.range n).filter fun j=>m / 2^(n-1-j)%2==1
def SLi (n:Nat):List (List Nat):=(List.range (n-1)).flatMap fun s=>((List.range (2^n-1)).map fun i=>zCJ n (2^n-1-i)).filter fun p=>p.length==s+1
theorem zRS:∀n:Fin 7,∀p∈SLi n.1,p.Pairwise (· < ·)∧p≠[]∧∀j∈p,j<n.1:=by decide+kernel
def atN (ns:List ByteArray) (p:List Nat):List ByteArray:=p.map fun j=>ns.getD j ByteArray.empty
theorem zG5 (ns:List ByteArray) (p:List Nat):(atN ns p).length =p.length:=by simp [atN]
theorem getD_at {ns:List ByteArray} {j:Nat} (h:j<ns.length):ns.getD j ByteArray.empty=ns[j]:=by simp [List.getD,h]
theorem zO5 {ns:List ByteArray} {p:List Nat} (hp:∀j∈p,j<ns.length):∀x∈atN ns p,x∈ns:=by
 intro x hx
 obtain ⟨j,hj,rfl⟩:=List.mem_map.1 hx
 rw [getD_at (hp j hj)]
 exact qE _
theorem zNA {ns:List ByteArray} (hs:ns.Pairwise ltS) {p:List Nat} (hp:∀j∈p,j<ns.length) (hl:p.Pairwise (· < ·)):(atN ns p).Pairwise ltS:=by
 refine List.pairwise_map.2 (List.Pairwise.imp_of_mem (fun {x y} hx hy h=>?_) hl)
 rw [getD_at (hp x hx),getD_at (hp y hy)]
 exact List.pairwise_iff_getElem.1 hs x y (hp x hx) (hp y hy) h
theorem and1:∀m:Fin 64,zSh .i64 (m.1:Int) 1=((m.1%2:Nat):Int):=by decide+kernel
theorem zTu:∀(m:Fin 64) (k:Fin 7),zRH .i64 (m.1:Int) (k.1:Int)=some ((m.1 / 2^k.1:Nat):Int):=by decide+kernel
theorem zT0:∀n:Fin 7,zSk .i64 1 (n.1:Int)=some ((2^n.1:Nat):Int):=by decide+kernel
theorem zRQ:∀n:Fin 64,IntKind.u64.wrap (n.1:Int)=(n.1:Int):=by decide+kernel
theorem zRE {m k:Nat} (hm:m<64) (hk:k<7):∃x,zRH .i64 (m:Int) (k:Int)=some x∧((zSh .i64 x 1)==1)=(m / 2^k%2==1):=by
 refine ⟨_,zTu ⟨m,hm⟩ ⟨k,hk⟩,?_⟩
 have h64:m / 2^k<64:=Nat.lt_of_le_of_lt (Nat.div_le_self _ _) hm
 rw [and1 ⟨m / 2^k,h64⟩]
 rw [Bool.eq_iff_iff,beq_iff_eq,beq_iff_eq]
 simp only
 omega
theorem zNU {ns:List ByteArray} (hn:ns.length≤6) {m:Nat} (hm:m<64):zDR ns (m:Int)=some (atN ns (zCJ ns.length m)):=by
 obtain ⟨t,e,rfl⟩:=xO (b:=zDd ns (m:Int)) (fun i s=>s=(atN ns ((List.range i).filter fun j=>m / 2^(ns.length-1-j)%2==1),(i:Int))) ns.length (fun t=>t=atN ns (zCJ ns.length m)) (by
  rintro i s hi rfl
  refine .inl ⟨_,?_,rfl⟩
  obtain ⟨x,h1,h2⟩:=zRE hm (k:=ns.length-1-i) (by omega)
  have hw:IntKind.u64.wrap (w64 ((w64 ((ns.length:Int)-1))-(i:Int)))=((ns.length-1-i:Nat):Int):=by
   rw [wC (x:=(ns.length:Int)-1) (by omega) (by omega),wC (by omega) (by omega),show (ns.length:Int)-1-(i:Int)=((ns.length-1-i:Nat):Int) by omega]
   exact zRQ ⟨_,by omega⟩
  have hlen:(atN ns ((List.range i).filter fun j=>m / 2^(ns.length-1-j)%2==1)).length ≤i:=by
   rw [zG5]
   have:=List.length_filter_le (fun j=>m / 2^(ns.length-1-j)%2==1) (List.range i)
   simpa using this
  unfold zDd
  simp only
  rw [if_pos (by simp; omega),hw,h1]
  simp only [qA]
  rw [h2,zL hi,zM (by omega)]
  simp only [qA]
  rw [wY (by simp at hlen ⊢; omega) (by simp at hlen ⊢; omega)]
  simp only [qA]
  rw [List.range_succ,List.filter_append,List.filter_cons,List.filter_nil]
  cases (m / 2^(ns.length-1-i)%2==1)
  ·simp
  ·simp [atN,hi]) (by
  rintro s rfl
  unfold zDd
  rw [if_neg (by simp)]
  exact ⟨_,rfl,rfl⟩) ns.length 0 (([]:List ByteArray),0) (by omega) (by simp [atN])
 unfold zDR zDA
 rw [e]
 rfl
def zJD (c:List Pack) (a b:List Int) (p:List ByteArray):Bool:=((zGe c (mvL c a b p)).length :Int)==0
def SLn (ns:List ByteArray):List (List ByteArray):=(SLi ns.length).map (atN ns)
def nxB (c:List Pack) (a b:List Int) (ns:List ByteArray):List ByteArray:=if ns.length>6 then ns else ((SLn ns).find? (zJD c a b)).getD ns
theorem zNe {c:List Pack} {a b:List Int} (hC:Cat c) (h:Two c a b) {p:List ByteArray} (hp:p.length≤1048576):
  zAR c a b p=some (mvL c a b p)∧kQ c (mvL c a b p)=some (zJD c a b p):=by
 have hc:=h.sml.len
 have la:=h.la
 have lb:=h.lb
 have:=zHN c a b p
 refine ⟨zOl (by omega) (by omega) (by omega) hp,?_⟩
 rw [zIS hC (zHF _ _ _ _) (by omega)]
 rfl
theorem zFh {α:Type} (q:α→Bool) (l r:List α):(l++r).find? q=((l.find? q).or (r.find? q)):=List.find?_append
theorem zNw {c:List Pack} {a b:List Int} (hC:Cat c) (h:Two c a b) {ns:List ByteArray} (hn:ns.length≤6) (s:Nat):
  zEI c a b ns (s:Int) ((2^ns.length-1:Nat):Int)=some (frs ((((List.range (2^ns.length-1)).map fun i=>zCJ ns.length (2^ns.length-1-i)).filter (fun p=>p.length==s) |>.map (atN ns)).find? (zJD c a b))):=by
 have h64:2^ns.length≤64:=Nat.pow_le_pow_right (by omega) hn
 generalize hM:2^ns.length-1=M at*
 obtain ⟨t,e,ht⟩:=xO (b:=zDk c a b ns (s:Int))
  (fun i x=>x=((M-i:Nat):Int)∧i≤M∧((((List.range i).map fun i=>zCJ ns.length (M-i)).filter (fun p=>p.length==s) |>.map (atN ns)).find? (zJD c a b))=none) M
  (fun t=>t=frs ((((List.range M).map fun i=>zCJ ns.length (M-i)).filter (fun p=>p.length==s) |>.map (atN ns)).find? (zJD c a b))) (by
  rintro i x hi ⟨rfl,hiM,hno⟩
  have hpick:=zNU hn (m:=M-i) (by omega)
  have hpl:(atN ns (zCJ ns.length (M-i))).length ≤6:=by
   rw [zG5]
   have:=List.length_filter_le (fun j=>(M-i) / 2^(ns.length-1-j)%2==1) (List.range ns.length)
   simp at this
   unfold zCJ
   omega
  obtain ⟨f1,f2⟩:=zNe hC h (p:=atN ns (zCJ ns.length (M-i))) (by omega)
  have hsplit:∀k,((((List.range (i+1+k)).map fun i=>zCJ ns.length (M-i)).filter (fun p=>p.length==s) |>.map (atN ns)).find? (zJD c a b))=((((List.range (i+1)).map fun i=>zCJ ns.length (M-i)).filter (fun p=>p.length==s) |>.map (atN ns)).find? (zJD c a b)).or ((((List.range' (i+1) k).map fun i=>zCJ ns.length (M-i)).filter (fun p=>p.length==s) |>.map (atN ns)).find? (zJD c a b)):=by
   intro k
   rw [←zFh,←List.map_append,←List.filter_append,←List.map_append]
   congr 4
   rw [List.range_eq_range',List.range_eq_range',←List.range'_append_1]
   simp
  have hone:((((List.range (i+1)).map fun i=>zCJ ns.length (M-i)).filter (fun p=>p.length==s) |>.map (atN ns)).find? (zJD c a b))=if ((zCJ ns.length (M-i)).length ==s&&zJD c a b (atN ns (zCJ ns.length (M-i))))=true then some (atN ns (zCJ ns.length (M-i))) else none:=by
   rw [List.range_succ,List.map_append,List.filter_append,List.map_append,zFh,hno]
   simp only [Option.none_or,List.map_cons,List.map_nil,List.filter_cons,List.filter_nil]
   cases (zCJ ns.length (M-i)).length ==s
   ·simp
   ·cases hf:zJD c a b (atN ns (zCJ ns.length (M-i)))<;>simp [hf]
  unfold zDk
  rw [if_pos (by simp; omega),hpick]
  simp only [qA]
  rw [f1]
  simp only [qA]
  rw [f2,zG5]
  simp only [qA]
  have hcast:(((zCJ ns.length (M-i)).length :Int)==(s:Int))=((zCJ ns.length (M-i)).length ==s):=by
   rw [Bool.eq_iff_iff,beq_iff_eq,beq_iff_eq]; omega
  rw [hcast,wC (by omega) (by omega),show ((M-i:Nat):Int)-1=((M-(i+1):Nat):Int) by omega]
  cases hL:(zCJ ns.length (M-i)).length ==s
  ·simp only [qD,if_false,qA]
   refine .inl ⟨_,rfl,rfl,by omega,?_⟩
   rw [hone,hL]
   simp
  ·simp only [if_true,qA]
   cases hf:zJD c a b (atN ns (zCJ ns.length (M-i)))
   ·simp only [qD,if_false]
    refine .inl ⟨_,rfl,rfl,by omega,?_⟩
    rw [hone,hL,hf]
    simp
   ·simp only [if_true]
    refine .inr ⟨_,rfl,?_⟩
    have:=hsplit (M-(i+1))
    rw [show i+1+(M-(i+1))=M by omega,hone,hL,hf] at this
    rw [this]
    simp [frs]) (by
  rintro x ⟨rfl,_,hno⟩
  unfold zDk
  rw [if_neg (by simp)]
  exact ⟨_,rfl,by rw [hno]; rfl⟩) M 0 (M:Int) (by omega) ⟨by simp,by omega,by simp⟩
 subst ht
 unfold zEI
 exact e
theorem zNO {c:List Pack} {a b:List Int} (hC:Cat c) (h:Two c a b) {ns:List ByteArray}:zFq c a b ns=some (nxB c a b ns):=by
 unfold zFq nxB
 by_cases h6:ns.length>6
 ·rw [if_pos (by simp; omega),if_pos h6]
 rw [if_neg (by simp; omega),if_neg h6]
 have hn:ns.length≤6:=by omega
 have h64:2^ns.length≤64:=Nat.pow_le_pow_right (by omega) hn
 have h1:1≤2^ns.length:=Nat.one_le_two_pow
 let SP:Nat→List (List ByteArray):=fun s=>(((List.range (2^ns.length-1)).map fun i=>zCJ ns.length (2^ns.length-1-i)).filter (fun p=>p.length==s)).map (atN ns)
 have hSL:SLn ns=(List.range (ns.length-1)).flatMap fun s=>SP (s+1):=by
  unfold SLn SLi
  rw [List.map_flatMap]
 obtain ⟨t,e,ht⟩:=xO (b:=zCT c a b ns) (fun i x=>x=((i+1:Nat):Int)∧((List.range i).flatMap fun s=>SP (s+1)).find? (zJD c a b)=none) (ns.length-1)
  (fun t=>t=frs ((SLn ns).find? (zJD c a b))) (by
  rintro i x hi ⟨rfl,hno⟩
  have hsplit:(SLn ns).find? (zJD c a b)=((SP (i+1)).find? (zJD c a b)).or (((List.range' (i+1) (ns.length-1-(i+1))).flatMap fun s=>SP (s+1)).find? (zJD c a b)):=by
   have hr:List.range (ns.length-1)=List.range i++(i::List.range' (i+1) (ns.length-1-(i+1))):=by
    rw [List.range_eq_range',List.range_eq_range',←List.range'_succ,show ns.length-1-(i+1)+1=ns.length-1-i by omega]
    have:=List.range'_append_1 (s:=0) (m:=i) (n:=ns.length-1-i)
    rw [show i+(ns.length-1-i)=ns.length-1 by omega,Nat.zero_add] at this
    exact this.symm
   rw [hSL,hr,List.flatMap_append,zFh,hno,List.flatMap_cons,zFh]
   rfl
  unfold zCT
  rw [if_pos (by simp; omega)]
  have hw:IntKind.u64.wrap (ns.length:Int)=(ns.length:Int):=zRQ ⟨ns.length,by omega⟩
  rw [hw,zT0 ⟨ns.length,by omega⟩]
  simp only [qA]
  rw [wC (by omega) (by omega),show ((2^ns.length:Nat):Int)-1=((2^ns.length-1:Nat):Int) by omega,zNw hC h hn (i+1),zDx]
  cases hf:(SP (i+1)).find? (zJD c a b) with
  |some r=>
   refine .inr ⟨_,rfl,?_⟩
   rw [hsplit,hf]
   rfl
  |none=>
   refine .inl ⟨((i+1+1:Nat):Int),?_,rfl,?_⟩
   ·show some (Lp.go (w64 (((i+1:Nat):Int)+1)))=_
    rw [zM (by omega)]
   ·rw [List.range_succ,List.flatMap_append,zFh,hno]
    simp [hf]) (by
  rintro x ⟨rfl,hno⟩
  refine ⟨_,?_,rfl⟩
  unfold zCT
  rw [if_neg (by simp; omega),hSL,hno]
  rfl) (ns.length-1) 0 1 (by omega) ⟨rfl,rfl⟩
 subst ht
 unfold zF2
 rw [e]
 cases (SLn ns).find? (zJD c a b)<;>rfl
theorem zQA {ns:List ByteArray} (hn:ns.length≤6) (hs:ns.Pairwise ltS) {p:List ByteArray} (hp:p∈SLn ns):p≠[]∧p.Pairwise ltS∧(∀x∈p,x∈ns)∧p.length≤1048576:=by
 obtain ⟨q,hq,rfl⟩:=List.mem_map.1 hp
 obtain ⟨h1,h2,h3⟩:=zRS ⟨ns.length,by omega⟩ q hq
 have hsort:=zNA hs h3 h1
 refine ⟨fun e=>?_,hsort,zO5 h3,?_⟩
 ·have:=zG5 ns q
  rw [e] at this
  exact h2 (List.length_eq_zero_iff.1 this.symm)
 ·have:=zKJ hsort hs (zO5 h3)
  omega
theorem zMN {c:List Pack} {a b:List Int} {ns:List ByteArray} (hs:ns.Pairwise ltS) (hne:ns≠[]):nxB c a b ns≠[]∧(nxB c a b ns).Pairwise ltS∧(∀x∈nxB c a b ns,x∈ns)∧(zJD c a b ns=true→zJD c a b (nxB c a b ns)=true):=by
 unfold nxB
 split
 ·exact ⟨hne,hs,fun x hx=>hx,fun h=>h⟩
 ·rename_i h6
  cases hf:(SLn ns).find? (zJD c a b) with
  |none=>exact ⟨hne,hs,fun x hx=>hx,fun h=>h⟩
  |some p=>
   obtain ⟨h1,h2,h3,_⟩:=zQA (by omega) hs (List.mem_of_find?_eq_some hf)
   exact ⟨h1,h2,h3,fun _=>List.find?_some hf⟩
def wN (c:List Pack) (b:List Int):Nat→List Int→List ByteArray→List (List ByteArray)×List (List Int)×List Int
 |0,a,_=>([],[],a)
 |n+1,a,l=>if l=[] then ([],[],a) else
  (nxB c a b l::(wN c b n (mvL c a b (nxB c a b l)) (l.filter fun y=> !(inN (nxB c a b l) y))).1,
   mvL c a b (nxB c a b l)::(wN c b n (mvL c a b (nxB c a b l)) (l.filter fun y=> !(inN (nxB c a b l) y))).2.1,
   (wN c b n (mvL c a b (nxB c a b l)) (l.filter fun y=> !(inN (nxB c a b l) y))).2.2)
theorem Two.move {c:List Pack} {a b:List Int} (h:Two c a b) (p:List ByteArray):Two c (mvL c a b p) b:=by
 have:=zHN c a b p
 have:=h.sml.len
 exact ⟨h.sml,zHF _ _ _ _,h.pb,zKm _ _ _ _,h.sb,by omega,h.lb⟩
theorem zOB {l B:List ByteArray} (h1:B≠[]) (h2:∀x∈B,x∈l):(l.filter fun y=> !(inN B y)).length <l.length:=by
 rcases Nat.lt_or_ge (l.filter fun y=> !(inN B y)).length l.length with q|q
 ·exact q
 ·exfalso
  have e:=(List.filter_sublist (l:=l) (p:=fun y=> !(inN B y))).eq_of_length (Nat.le_antisymm (List.length_filter_le _ _) q)
  obtain ⟨x,hx⟩:=List.exists_mem_of_ne_nil B h1
  have:x∈l.filter fun y=> !(inN B y):=by rw [e]; exact h2 x hx
  have:=(List.mem_filter.1 this).2
  rw [zGu.2 hx] at this
  cases this
theorem zPa {c:List Pack} {a b:List Int} (pa:Places c a) (pb:Places c b) {n1 n2:List ByteArray} (h:∀x,x∈n1↔x∈n2):mvL c a b n1=mvL c a b n2:=by
 refine zFH (zKm _ _ _ _) (zKm _ _ _ _) fun k=>?_
 rw [zHL pa pb,zHL pa pb,h]
theorem zP5 {l B:List ByteArray} (h2:∀x∈B,x∈l) (x:ByteArray):x∈B++(l.filter fun y=> !(inN B y))↔x∈l:=by
 rw [qJ,List.mem_filter]
 constructor
 ·rintro (q|q)
  ·exact h2 x q
  ·exact q.1
 ·intro q
  by_cases hx:x∈B
  ·exact .inl hx
  ·refine .inr ⟨q,?_⟩
   cases hi:inN B x with
   |false=>rfl
   |true=>exact absurd (zGu.1 hi) hx
theorem zRY {c:List Pack} {b:List Int}:∀(n:Nat) (a:List Int) (l:List ByteArray),Two c a b→l.Pairwise ltS→l.length≤n→(wN c b n a l).2.2=mvL c a b l∧(wN c b n a l).1.length ≤l.length∧(wN c b n a l).2.1.length ≤l.length
 |0,a,l,h,hs,hn=>by
  have:l=[]:=List.length_eq_zero_iff.1 (by omega)
  subst this
  exact ⟨(zMe h.pa h.pb h.sa).symm,by simp [wN],by simp [wN]⟩
 |n+1,a,l,h,hs,hn=>by
  unfold wN
  by_cases he:l=[]
  ·subst he
   rw [if_pos rfl]
   exact ⟨(zMe h.pa h.pb h.sa).symm,by simp,by simp⟩
  ·rw [if_neg he]
   obtain ⟨g1,g2,g3,_⟩:=zMN (c:=c) (a:=a) (b:=b) hs he
   have hlt:=zOB g1 g3
   obtain ⟨i1,i2,i3⟩:=zRY (c:=c) (b:=b) n _ _ (h.move (nxB c a b l)) (hs.filter (fun y=> !(inN (nxB c a b l) y))) (by omega)
   refine ⟨?_,by simp only [List.length_cons]; omega,by simp only [List.length_cons]; omega⟩
   simp only
   rw [i1,zPk h.pa h.pb]
   exact zPa h.pa h.pb (zP5 g3)
theorem zIX {c:List Pack} {b:List Int} (hC:Cat c) {x4:List (List ByteArray)} {s1:List (List ByteArray)×List (List Int)×List Int×Int}:∀(n:Nat) (a:List Int) (l:List ByteArray) (bs:List (List ByteArray)) (ss:List (List Int)),Two c a b→l.Pairwise ltS→l.length≤n→l.length≤24→bs.length+l.length≤1000→ss.length+l.length≤1000→
  zBj c b x4 s1 (bs,ss,a,l)=some (bs++(wN c b n a l).1,ss++(wN c b n a l).2.1,(wN c b n a l).2.2)
 |n,a,l,bs,ss,h,hs,hn,h24,hb,hss=>by
  unfold zBj
  rw [wO]
  by_cases he:l=[]
  ·subst he
   have e:jB c b x4 s1 (bs,ss,a,([]:List ByteArray))=some (.done (bs,ss,a)):=by
    unfold jB
    rw [if_neg (by simp)]
   rw [e]
   cases n<;>simp [wN,Lp.elim]
  ·cases n with
   |zero=>exact absurd (List.length_eq_zero_iff.1 (by omega)) he
   |succ n=>
    obtain ⟨g1,g2,g3,_⟩:=zMN (c:=c) (a:=a) (b:=b) hs he
    have hlt:=zOB g1 g3
    have hBl:=zKJ g2 hs g3
    have hpos:0<l.length:=List.length_pos_iff.2 he
    have e:jB c b x4 s1 (bs,ss,a,l)=some (.go (bs++[nxB c a b l],ss++[mvL c a b (nxB c a b l)],mvL c a b (nxB c a b l),l.filter fun y=> !(inN (nxB c a b l) y))):=by
     unfold jB
     simp only
     rw [if_pos (by simp; omega),zNO hC h]
     simp only [qA]
     have hr:zDt c b x4 s1 (bs,ss,a,l) (nxB c a b l) (([]:List ByteArray),0)=some (l.filter fun y=> !(inN (nxB c a b l) y)):=by
      obtain ⟨t,e,rfl⟩:=xO (b:=zAu c b x4 s1 (bs,ss,a,l) (nxB c a b l)) (fun i s=>s=((l.take i).filter (fun y=> !(inN (nxB c a b l) y)),(i:Int))) l.length (fun t=>t=l.filter fun y=> !(inN (nxB c a b l) y)) (by
       rintro i s hi rfl
       have hlen:((l.take i).filter (fun y=> !(inN (nxB c a b l) y))).length ≤i:=by
        have:=List.length_filter_le (fun y=> !(inN (nxB c a b l) y)) (l.take i)
        simp at this ⊢
        omega
       refine .inl ⟨((l.take (i+1)).filter (fun y=> !(inN (nxB c a b l) y)),((i+1:Nat):Int)),?_,rfl⟩
       unfold zAu
       simp only
       rw [if_pos (by simp; omega),zL hi]
       simp only [qA]
       rw [zDw _ _ (by omega),zM (by omega),wY (by simp at hlen ⊢; omega) (by simp at hlen ⊢; omega)]
       have hq:((nxB c a b l).any fun x=>seq x l[i])=inN (nxB c a b l) l[i]:=rfl
       rw [hq]
       simp only [qA]
       rw [qF hi,List.filter_append,List.filter_cons,List.filter_nil]
       cases inN (nxB c a b l) l[i]<;>simp) (by
       rintro s rfl
       rw [List.take_length]
       unfold zAu
       rw [if_neg (by simp)]
       exact ⟨_,rfl,rfl⟩) l.length 0 (([]:List ByteArray),0) (by omega) (by simp)
      unfold zDt
      exact e
     rw [hr]
     simp only [qA]
     rw [(zNe hC h (by omega)).1]
     simp only [qA]
     rw [wY (by simp; omega) (by simp; omega)]
     simp only [qA,List.nil_append]
     rw [wY (by simp; omega) (by simp; omega)]
     simp only [qA]
     rw [wY (by simp; omega) (by simp; omega)]
     rfl
    have ih:=zIX hC (x4:=x4) (s1:=s1) n (mvL c a b (nxB c a b l)) (l.filter fun y=> !(inN (nxB c a b l) y)) (bs++[nxB c a b l]) (ss++[mvL c a b (nxB c a b l)]) (h.move _) (hs.filter _) (by omega) (by omega) (by simp only [List.length_append,List.length_singleton]; omega) (by simp only [List.length_append,List.length_singleton]; omega)
    unfold zBj at ih
    rw [e]
    simp only [qA,Lp.elim]
    rw [ih]
    conv=>rhs; unfold wN
    rw [if_neg he]
    simp
 termination_by n=>n
theorem zL3 (K:ByteArray→ByteArray→Bool):∀(n:Nat) (L:List ByteArray),(zFx K n L).length ≤n∧∀P∈zFx K n L,P.length≤L.length
 |0,L=>by simp [zFx]
 |n+1,L=>by
  unfold zFx
  split
  ·simp
  ·obtain ⟨h1,h2⟩:=zL3 K n (zHt K L)
   refine ⟨by simp; omega,fun P hP=>?_⟩
   rcases List.mem_cons.1 hP with rfl|hP
   ·exact List.length_filter_le _ _
   ·exact Nat.le_trans (h2 P hP) (List.length_filter_le _ _)
theorem zHZ {K:ByteArray→ByteArray→Bool}:∀(n:Nat) {L:List ByteArray},L.Pairwise ltS→∀P∈zFx K n L,P.Pairwise ltS
 |0,L,_=>by simp [zFx]
 |n+1,L,h=>by
  unfold zFx
  split
  ·simp
  ·intro P hP
   rcases List.mem_cons.1 hP with rfl|hP
   ·exact zL6 h
   ·exact zHZ n (zIe h) P hP
def stp (c:List Pack) (b:List Int) (ps:List (List ByteArray)) (a:List Int):List (List ByteArray)×List (List Int)×List Int:=
 ps.foldl (fun s P=>(s.1++(wN c b P.length s.2.2 P).1,s.2.1++(wN c b P.length s.2.2 P).2.1,(wN c b P.length s.2.2 P).2.2)) ([],[],a)
theorem zKT (c:List Pack) (b:List Int) (ps:List (List ByteArray)) (P:List ByteArray) (a:List Int):
  stp c b (ps++[P]) a=((stp c b ps a).1++(wN c b P.length (stp c b ps a).2.2 P).1,(stp c b ps a).2.1++(wN c b P.length (stp c b ps a).2.2 P).2.1,(wN c b P.length (stp c b ps a).2.2 P).2.2):=by
 unfold stp
 rw [List.foldl_append]
 rfl
theorem zOu {c:List Pack} {a b:List Int} (h:Two c a b) {ps:List (List ByteArray)} (hs:∀P∈ps,P.Pairwise ltS) (hl:∀P∈ps,P.length≤24):∀i,i≤ps.length→(stp c b (ps.take i) a).2.2=mvL c a b (ps.take i).flatten ∧(stp c b (ps.take i) a).1.length ≤24*i∧(stp c b (ps.take i) a).2.1.length ≤24*i
 |0,_=>⟨by simp only [List.take_zero,List.flatten_nil]; exact (zMe h.pa h.pb h.sa).symm,by simp [stp],by simp [stp]⟩
 |i+1,hi=>by
  obtain ⟨h1,h2,h3⟩:=zOu h hs hl i (by omega)
  have hP:=qE (show i<ps.length by omega)
  have h24:=hl _ hP
  rw [qF (by omega),zKT,h1]
  obtain ⟨w1,w2,w3⟩:=zRY (c:=c) (b:=b) ps[i].length (mvL c a b (ps.take i).flatten) ps[i] (h.move _) (hs _ hP) (Nat.le_refl _)
  refine ⟨?_,by simp only [List.length_append]; omega,by simp only [List.length_append]; omega⟩
  simp only
  rw [w1,zPk h.pa h.pb]
  congr 1
  rw [List.flatten_append]
  simp only [List.flatten_cons,List.flatten_nil,List.append_nil]
theorem zNP {c:List Pack} {a b:List Int} (hC:Cat c) (h:Two c a b) {ps:List (List ByteArray)} (s1:ps.length≤24) (s2:∀P∈ps,P.length≤24) (s3:∀P∈ps,P.Pairwise ltS) (hp:zB2 c a b=some ps):zCt c a b=some ((stp c b ps a).1,(stp c b ps a).2.1):=by
 obtain ⟨t,e,rfl⟩:=xO (b:=zA2 c b ps) (fun i s=>s=((stp c b (ps.take i) a).1,(stp c b (ps.take i) a).2.1,(stp c b (ps.take i) a).2.2,(i:Int))) ps.length (fun t=>t=((stp c b ps a).1,(stp c b ps a).2.1)) (by
  rintro i s hi rfl
  obtain ⟨q1,q2,q3⟩:=zOu h s3 s2 i (by omega)
  have hP:=qE hi
  have h24:=s2 _ hP
  refine .inl ⟨_,?_,rfl⟩
  unfold zA2
  simp only
  rw [if_pos (by simp; omega),zL hi]
  simp only [qA]
  rw [zIX hC _ _ _ _ _ (by rw [q1]; exact h.move _) (s3 _ hP) (Nat.le_refl _) h24 (by omega) (by omega),zM (by omega)]
  simp only [qA]
  rw [qF hi,zKT]) (by
  rintro s rfl
  rw [List.take_length]
  unfold zA2
  rw [if_neg (by simp)]
  exact ⟨_,rfl,rfl⟩) ps.length 0 (([]:List (List ByteArray)),([]:List (List Int)),a,0) (by omega) (by simp [stp])
 unfold zCt zEG
 rw [hp]
 simp only [qA]
 rw [e]
 rfl
theorem zOm {c:List Pack} {b:List Int}:∀(n:Nat) (a:List Int) (l:List ByteArray),∀s∈(wN c b n a l).2.1,s.length≤c.length
 |0,a,l=>by simp [wN]
 |n+1,a,l=>by
  unfold wN
  split
  ·simp
  ·intro s hs
   simp only at hs
   rcases List.mem_cons.1 hs with rfl|hs
   ·exact zHN _ _ _ _
   ·exact zOm n _ _ s hs
theorem zMH {c:List Pack} {a b:List Int} (ps:List (List ByteArray)):∀i,i≤ps.length→∀s∈(stp c b (ps.take i) a).2.1,s.length≤c.length
 |0,_=>by simp [stp]
 |i+1,hi=>by
  intro s hs
  rw [qF (by omega),zKT] at hs
  simp only at hs
  rcases List.mem_append.1 hs with hs|hs
  ·exact zMH ps i (by omega) s hs
  ·exact zOm _ _ _ s hs
inductive Chn (c:List Pack) (b:List Int) (Q:List Int→List ByteArray→Prop):List Int→List (List ByteArray)→List (List Int)→List Int→Prop where
 |nil {a:List Int}:Chn c b Q a [] [] a
 |cons {a e:List Int} {B:List ByteArray} {bs:List (List ByteArray)} {ss:List (List Int)}:Q a B→Chn c b Q (mvL c a b B) bs ss e→Chn c b Q a (B::bs) (mvL c a b B::ss) e
def zHj:ByteArray:=bs [114,111,111,116]
structure DPk (k:Nat) (p:Pack):Prop where
 name:p.Name.size≤20
 noRoot:p.Name≠zHj
 zRh:p.Provides.length≤k∧∀n∈p.Provides,n.size≤20
 needs:p.Needs.length≤k∧∀l∈p.Needs,l.length≤8∧∀t∈l,t.Name.size≤20
 bars:p.Bars.length≤k∧∀t∈p.Bars,t.Name.size≤20
theorem DPk.mono {p:Pack} (h:DPk 4 p):DPk 8 p:=by
 obtain ⟨h1,h0,h2,h3,h4⟩:=h
 exact ⟨h1,h0,⟨by omega,h2.2⟩,⟨by omega,h3.2⟩,⟨by omega,h4.2⟩⟩
theorem DPk.sm {p:Pack} (h:DPk 8 p):Pack.sm 1048576 p:=by
 obtain ⟨h1,_,h2,h3,h4⟩:=h
 refine ⟨by omega,⟨trivial,trivial,trivial⟩,trivial,⟨by omega,fun n hn=>?_⟩,⟨by omega,fun l hl=>⟨?_,fun t ht=>⟨?_,⟨trivial,trivial,trivial⟩,⟨trivial,trivial,trivial⟩⟩⟩⟩,⟨by omega,fun t ht=>⟨?_,⟨trivial,trivial,trivial⟩,⟨trivial,trivial,trivial⟩⟩⟩⟩
 ·have:=h2.2 n hn; omega
 ·have:=(h3.2 l hl).1; omega
 ·have:=(h3.2 l hl).2 t ht; omega
 ·have:=h4.2 t ht; omega
theorem zJa {b:Nat} {s:zC} (h:Sr b s) (hb:b≤1000000000):∃p s',wJ s=some (p,s')∧p.size≤20∧p≠zHj∧Sr (b+1) s':=by
 obtain ⟨r,s',x,e1,e2,hx,h'⟩:=at_next h hb (l:=[bs [97],bs [98],bs [99],bs [100],bs [108,105,98],bs [119,101,98]]) (n:=6) rfl (by simp)
 have key:x.size≤20∧x≠zHj:=by
  simp only [qK,List.not_mem_nil,or_false] at hx
  rcases hx with rfl|rfl|rfl|rfl|rfl|rfl<;>exact ⟨by decide,by decide⟩
 refine ⟨x,s',?_,key.1,key.2,h'⟩
 unfold wJ
 rw [e1]
 simp only [qA,e2]
theorem zJc {b:Nat} {s:zC} (h:Sr b s) (hb:b+10≤1000000000):∃p s',wK s=some (p,s')∧p.size≤20∧p≠zHj∧Sr (b+2) s':=by
 obtain ⟨q,s1,e,h1⟩:=xY h (by omega) 14
 unfold wK
 rw [e]
 simp only [qA]
 cases q
 ·obtain ⟨p,s2,e2,h2,h3,h4⟩:=zJa h1 (by omega)
  rw [e2]
  exact ⟨p,s2,rfl,h2,h3,h4⟩
 ·obtain ⟨r,s',x,e1,e2,hx,h'⟩:=at_next h1 (by omega) (l:=[bs [],bs [49,97],bs [65],bs [97,98,99,100,101,102,103,104,105,106,107,108,109],bs [97,98,99,100,101,102,103,104,105,106,107,108],bs [97,32,98],bs [97,45],bs [95,97],bs [97,95,49]]) (n:=9) rfl (by simp)
  rw [e1]
  simp only [qA,e2,if_true]
  have key:x.size≤20∧x≠zHj:=by
   simp only [qK,List.not_mem_nil,or_false] at hx
   rcases hx with rfl|rfl|rfl|rfl|rfl|rfl|rfl|rfl|rfl<;>exact ⟨by decide,by decide⟩
  exact ⟨x,s',rfl,key.1,key.2,h'⟩
theorem zLJ {b:Nat} (x2:ByteArray×zC) (x4 x6:Int×zC) (v15:List Int×Int×List ByteArray) {s:zC} (h:Sr b s) (hb:b+200≤1000000000) (n:Int) (hn:0≤n∧n≤4):
  ∃l s',zDB x2 x4 x6 v15 (s.Code,s.At,([]:List (List Term)),n)=some (s'.Code,s'.At,l)∧l.length≤4∧(∀c∈l,c.length≤8∧∀t∈c,t.Name.size≤20)∧Sr (b+20*n.toNat) s':=by
 obtain ⟨t,e2,l,s2,rfl,hl,hz,h2⟩:=xO (b:=zCY x2 x4 x6 v15) (fun i q=>∃(l:List (List Term)) (s':zC),q=(s'.Code,s'.At,l,n-(i:Int))∧l.length=i∧(∀c∈l,c.length≤8∧∀t∈c,t.Name.size≤20)∧Sr (b+20*i) s') n.toNat
  (fun t=>∃(l:List (List Term)) (s':zC),t=(s'.Code,s'.At,l)∧l.length=n.toNat∧(∀c∈l,c.length≤8∧∀t∈c,t.Name.size≤20)∧Sr (b+20*n.toNat) s') (by
  rintro i q hi ⟨l,s',rfl,hl,hz,hs⟩
  unfold zCY
  simp only
  rw [if_pos (by simp; omega)]
  obtain ⟨t,u,f1,ht,g1⟩:=zGq hs (by omega)
  have f1':wP {Code:=s'.Code,At:=s'.At}=some (t,u):=f1
  obtain ⟨q,u2,f2,g2⟩:=xY g1 (by omega) 3
  rw [f1']
  simp only [qA,f2]
  obtain ⟨c,u3,f3,hc,hne,g3⟩:∃(c:List Term) (u3:zC),(if q=true then (wP u2).bind fun x67=>(app 64 [t] [x67.1]).bind fun x69=>some (x67.2.Code,x67.2.At,x69) else some (u2.Code,u2.At,[t]))=some (u3.Code,u3.At,c)∧(c.length≤8∧∀t∈c,t.Name.size≤20)∧0<c.length∧Sr (b+20*i+19) u3:=by
   cases q
   ·exact ⟨[t],u2,rfl,⟨by simp,by simpa using ht⟩,by simp,g2.mono (by omega)⟩
   ·obtain ⟨t2,u3,f3,ht2,g3⟩:=zGq g2 (by omega)
    rw [if_pos rfl,f3]
    simp only [qA]
    rw [wY (by simp) (by simp)]
    exact ⟨[t,t2],u3,rfl,⟨by simp,by simp [ht,ht2]⟩,by simp,g3.mono (by omega)⟩
  rw [f3]
  simp only [qA]
  obtain ⟨q2,u4,f4,g4⟩:=xY (s:= {Code:=u3.Code,At:=u3.At}) g3 (by omega) 8
  rw [f4]
  simp only [qA]
  obtain ⟨c2,f5,hc2⟩:∃c2:List Term,(if q2=true then (wT (bs [109,97,105,108])).bind fun x75=>(idx c 0).bind fun x77=>some (c.set ((0:Int).toNat) x75) else some c)=some c2∧(c2.length≤8∧∀t∈c2,t.Name.size≤20):=by
   cases q2
   ·exact ⟨c,rfl,hc⟩
   ·rw [if_pos rfl,show (0:Int)=((0:Nat):Int) from rfl,zL hne]
    unfold wT uK
    refine ⟨_,rfl,by simpa using hc.1,fun t ht=>?_⟩
    rcases List.mem_or_eq_of_mem_set ht with ht|ht
    ·exact hc.2 t ht
    ·subst ht
     show (bs [109,97,105,108]).size ≤20
     decide
  rw [f5]
  simp only [qA]
  rw [wY (by simp; omega) (by simp; omega),wC (x:=n-(i:Int)-1) (by omega) (by omega)]
  refine .inl ⟨_,rfl,_,u4,by rw [show n-(i:Int)-1=n-((i+1:Nat):Int) by omega],by simp [hl],fun x hx=>?_,g4.mono (by omega)⟩
  rcases List.mem_append.1 hx with hx|hx
  ·exact hz x hx
  ·rw [List.mem_singleton.1 hx]; exact hc2) (by
  rintro q ⟨l,s',rfl,hl,hz,hs⟩
  unfold zCY
  simp only
  rw [if_neg (by simp; omega)]
  exact ⟨_,rfl,l,s',rfl,hl,hz,hs⟩) n.toNat 0 (s.Code,s.At,[],n) (by omega) ⟨[],s,by simp,rfl,by simp,h⟩
 exact ⟨l,s2,e2,by omega,hz,h2⟩
theorem zL2 {b:Nat} {s:zC} (h:Sr b s) (hb:b+300≤1000000000):∃p s',zAE s=some (p,s')∧DPk 4 p∧Sr (b+100) s':=by
 obtain ⟨nm,s1,e1,hs1,hr1,h1⟩:=zJa h (by omega)
 obtain ⟨va,s2,e2,_,_,h2⟩:=wZ h1 (by omega) 3
 obtain ⟨si,s3,e3,_,_,h3⟩:=wZ h2 (by omega) 9
 obtain ⟨q,s4,e4,h4⟩:=xY h3 (by omega) 5
 obtain ⟨pr,s5,e5,hp,h5⟩:∃(pr:List ByteArray) (s5:zC),(if q=true then (zH s4 2).bind fun x11=>(idx [bs [109,97,105,108],bs [100,98]] x11.1).bind fun x13=>some (x11.2.Code,x11.2.At,[x13]) else some (s4.Code,s4.At,([]:List ByteArray)))=some (s5.Code,s5.At,pr)∧(pr.length≤1∧∀n∈pr,n.size≤20)∧Sr (b+5) s5:=by
  cases q
  ·exact ⟨[],s4,rfl,by simp,h4.mono (by omega)⟩
  ·obtain ⟨r,s',x,f1,f2,hx,h'⟩:=at_next h4 (by omega) (l:=[bs [109,97,105,108],bs [100,98]]) (n:=2) rfl (by simp)
   rw [if_pos rfl,f1]
   simp only [qA,f2]
   refine ⟨[x],s',rfl,⟨by simp,fun n hn=>?_⟩,h'⟩
   rw [List.mem_singleton.1 hn]
   simp only [qK,List.not_mem_nil,or_false] at hx
   rcases hx with rfl|rfl<;>decide
 obtain ⟨n,s6,e6,hn,h6⟩:=jO (s:= {Code:=s5.Code,At:=s5.At}) h5 (by omega) [0,0,1,1,2] (by simp)
 have hn2:0≤n∧n≤4:=by
  simp only [qK,List.not_mem_nil,or_false] at hn
  omega
 obtain ⟨l,s7,e7,hl,hz,h7⟩:=zLJ (nm,s1) (va,s2) (si,s3) (s5.Code,s5.At,pr) h6 (by omega) n hn2
 have h7:=h7.mono (b':=b+86) (by omega)
 obtain ⟨q2,s8,e8,h8⟩:=xY (s:= {Code:=s7.Code,At:=s7.At}) h7 (by omega) 6
 obtain ⟨br,s9,e9,hb9,h9⟩:∃(br:List Term) (s9:zC),(if q2=true then (wP s8).bind fun x86=>(app 64 ([]:List Term) [x86.1]).bind fun x88=>some (x86.2.Code,x86.2.At,x88) else some (s8.Code,s8.At,([]:List Term)))=some (s9.Code,s9.At,br)∧(br.length≤1∧∀t∈br,t.Name.size≤20)∧Sr (b+100) s9:=by
  cases q2
  ·exact ⟨[],s8,rfl,by simp,h8.mono (by omega)⟩
  ·obtain ⟨t,s',f1,ht,h'⟩:=zGq h8 (by omega)
   rw [if_pos rfl,f1]
   simp only [qA]
   rw [wY (by simp) (by simp)]
   exact ⟨[t],s',rfl,⟨by simp,by simpa using ht⟩,h'.mono (by omega)⟩
 unfold zAE
 rw [e1]
 simp only [qA,e2,e3,e4,e5,e6,e7,e8,e9]
 exact ⟨_,s9,rfl,⟨hs1,hr1,⟨by simp only; omega,hp.2⟩,⟨by simp only; omega,hz⟩,⟨by simp only; omega,hb9.2⟩⟩,h9⟩
theorem jP {α:Type} {z:Nat} {l m:List α} (hl:l.length≤100) (hm:m.length≤100) (hz:z≤1000):app z l m=some (l++m):=by
 refine wY ?_ (by omega)
 exact Nat.le_trans (Nat.mul_le_mul (show l.length+m.length≤200 by omega) hz) (by decide)
theorem zQ5 {α:Type} {z n:Nat} {x:α} (hz:z≤1000) (hn:n≤1000):mk z (n:Int) x=some (List.replicate n x):=by
 unfold mk
 have h:z*(n:Int).toNat ≤281474976710656:=by
  rw [Int.toNat_natCast]
  exact Nat.le_trans (Nat.mul_le_mul hz hn) (by decide)
 rw [if_pos ⟨by omega,h,by omega⟩]
 rfl
theorem zKH {b:Nat} {s:zC} (h:Sr b s) (hb:b+500≤1000000000):∃p s',kS s=some (p,s')∧DPk 8 p∧Sr (b+200) s':=by
 obtain ⟨p,s1,e1,hp,h1⟩:=zL2 h (by omega)
 obtain ⟨n,s2,e2,_,_,h2⟩:=wZ h1 (by omega) 24
 have hp8:=hp.mono
 obtain ⟨hp1,hp2,hp3,hp4,hp5⟩:=hp
 obtain ⟨_,_,q3,q4,q5⟩:=hp8
 unfold kS
 rw [e1]
 simp only [qA,e2]
 by_cases c0:(n==0)=true
 ·obtain ⟨y,s3,e3,hy,hy2,h3⟩:=zJc h2 (by omega)
  rw [if_pos c0,e3]
  exact ⟨_,_,rfl,⟨hy,hy2,q3,q4,q5⟩,h3.mono (by omega)⟩
 rw [if_neg c0]
 by_cases c1:(n==1)=true
 ·obtain ⟨y,s3,e3,h3⟩:=zES h2 (by omega)
  rw [if_pos c1,e3]
  exact ⟨_,_,rfl,⟨hp1,hp2,q3,q4,q5⟩,h3.mono (by omega)⟩
 rw [if_neg c1]
 by_cases c2:(n==2)=true
 ·obtain ⟨y,s3,e3,_,h3⟩:=jO h2 (by omega) [0,200,201] (by simp)
  rw [if_pos c2,e3]
  exact ⟨_,_,rfl,⟨hp1,hp2,q3,q4,q5⟩,h3.mono (by omega)⟩
 rw [if_neg c2]
 by_cases c3:(n==3)=true
 ·obtain ⟨y,s3,e3,hy,hy2,h3⟩:=zJc h2 (by omega)
  rw [if_pos c3,e3]
  simp only [qA]
  rw [jP (by omega) (by simp) (by decide)]
  refine ⟨_,_,rfl,⟨hp1,hp2,⟨by simp; omega,fun x hx=>?_⟩,q4,q5⟩,h3.mono (by omega)⟩
  rcases List.mem_append.1 hx with hx|hx
  ·exact hp3.2 x hx
  ·simp only [qK,List.not_mem_nil,or_false] at hx
   rcases hx with rfl|rfl
   ·exact hy
   ·exact hp1
 rw [if_neg c3]
 by_cases c4:(n==4)=true
 ·rw [if_pos c4,jP (by omega) (by simp) (by decide)]
  refine ⟨_,_,rfl,⟨hp1,hp2,q3,⟨by simp; omega,fun x hx=>?_⟩,q5⟩,h2.mono (by omega)⟩
  rcases List.mem_append.1 hx with hx|hx
  ·exact hp4.2 x hx
  ·rw [List.mem_singleton.1 hx]
   simp
 rw [if_neg c4]
 by_cases c5:(n==5)=true
 ·obtain ⟨y,s3,e3,hy,h3⟩:=zEY h2 (by omega)
  obtain ⟨z,s4,e4,hz,h4⟩:=zEY h3 (by omega)
  rw [if_pos c5,e3]
  simp only [qA,e4]
  rw [jP (by omega) (by simp) (by decide)]
  refine ⟨_,_,rfl,⟨hp1,hp2,q3,⟨by simp; omega,fun x hx=>?_⟩,q5⟩,h4.mono (by omega)⟩
  rcases List.mem_append.1 hx with hx|hx
  ·exact hp4.2 x hx
  ·rw [List.mem_singleton.1 hx]
   simp [hy,hz]
 rw [if_neg c5]
 by_cases c6:(n==6)=true
 ·obtain ⟨y,s3,e3,hy,h3⟩:=zEY h2 (by omega)
  rw [if_pos c6,e3]
  simp only [qA]
  rw [jP (by omega) (by simp) (by decide)]
  refine ⟨_,_,rfl,⟨hp1,hp2,q3,q4,⟨by simp; omega,fun x hx=>?_⟩⟩,h3.mono (by omega)⟩
  rcases List.mem_append.1 hx with hx|hx
  ·exact hp5.2 x hx
  ·rw [List.mem_singleton.1 hx]
   exact hy
 rw [if_neg c6]
 have hmk:=zQ5 (z:=64) (n:=5) (x:=({Name:=ByteArray.empty,Low:= {A:=0,B:=0,C:=0},High:= {A:=0,B:=0,C:=0}}:Term)) (by decide) (by decide)
 have hmk:mk 64 5 ({Name:=ByteArray.empty,Low:= {A:=0,B:=0,C:=0},High:= {A:=0,B:=0,C:=0}}:Term)=_:=hmk
 have hem:(ByteArray.empty).size ≤20:=by decide
 by_cases c7:(n==7)=true
 ·rw [if_pos c7,hmk]
  refine ⟨_,_,rfl,⟨hp1,hp2,q3,q4,⟨by simp,fun x hx=>?_⟩⟩,h2.mono (by omega)⟩
  rw [(List.mem_replicate.1 hx).2]
  exact hem
 rw [if_neg c7]
 by_cases c8:(n==8)=true
 ·rw [if_pos c8,hmk]
  simp only [qA]
  rw [jP (by omega) (by simp) (by decide)]
  refine ⟨_,_,rfl,⟨hp1,hp2,q3,⟨by simp; omega,fun x hx=>?_⟩,q5⟩,h2.mono (by omega)⟩
  rcases List.mem_append.1 hx with hx|hx
  ·exact hp4.2 x hx
  ·rw [List.mem_singleton.1 hx]
   refine ⟨by simp,fun t ht=>?_⟩
   rw [(List.mem_replicate.1 ht).2]
   exact hem
 rw [if_neg c8]
 exact ⟨_,_,rfl,⟨hp1,hp2,q3,q4,q5⟩,h2.mono (by omega)⟩
def DCt (c:List Pack):Prop:=c.length≤25∧∀p∈c,DPk 8 p
theorem DCt.cat {c:List Pack} (h:DCt c):Cat c:=⟨by have:=h.1; omega,fun p hp=>(h.2 p hp).sm⟩
theorem zKL {b:Nat} {s:zC} (h:Sr b s) (hb:b+3000≤1000000000) (n:Int) (hn:0≤n∧n≤12):
  ∃l s',zBn (s.Code,s.At,([]:List Pack),n)=some (s'.Code,s'.At,l)∧l.length≤12∧(∀p∈l,DPk 8 p)∧Sr (b+1200) s':=by
 obtain ⟨t,e2,l,s2,rfl,hl,hz,h2⟩:=xO (b:=zAo) (fun i q=>∃(l:List Pack) (s':zC),q=(s'.Code,s'.At,l,n-(i:Int))∧l.length≤i∧(∀p∈l,DPk 8 p)∧Sr (b+100*i) s') n.toNat
  (fun t=>∃(l:List Pack) (s':zC),t=(s'.Code,s'.At,l)∧l.length≤n.toNat∧(∀p∈l,DPk 8 p)∧Sr (b+100*n.toNat) s') (by
  rintro i q hi ⟨l,s',rfl,hl,hz,hs⟩
  unfold zAo
  simp only
  rw [if_pos (by simp; omega)]
  obtain ⟨p,u,f1,hp,g1⟩:=zL2 hs (by omega)
  have f1':zAE {Code:=s'.Code,At:=s'.At}=some (p,u):=f1
  rw [f1']
  simp only [qA]
  rw [zHC l _ _ (by omega)]
  simp only [qA]
  rw [wC (x:=n-(i:Int)-1) (by omega) (by omega)]
  by_cases hf:zGR l p.Name p.Version<0
  ·rw [if_pos (by simpa using hf),jP (by omega) (by simp) (by decide)]
   refine .inl ⟨_,rfl,l++[p],u,by rw [show n-(i:Int)-1=n-((i+1:Nat):Int) by omega],by simp; omega,fun x hx=>?_,g1.mono (by omega)⟩
   rcases List.mem_append.1 hx with hx|hx
   ·exact hz x hx
   ·rw [List.mem_singleton.1 hx]; exact hp.mono
  ·rw [if_neg (by simpa using hf)]
   exact .inl ⟨_,rfl,l,u,by rw [show n-(i:Int)-1=n-((i+1:Nat):Int) by omega],by omega,hz,g1.mono (by omega)⟩) (by
  rintro q ⟨l,s',rfl,hl,hz,hs⟩
  unfold zAo
  simp only
  rw [if_neg (by simp; omega)]
  exact ⟨_,rfl,l,s',rfl,hl,hz,hs⟩) n.toNat 0 (s.Code,s.At,[],n) (by omega) ⟨[],s,by simp,by simp,by simp,h⟩
 exact ⟨l,s2,e2,by omega,hz,h2.mono (by omega)⟩
theorem zLp {b:Nat} {s:zC} (h:Sr b s) (hb:b+5000≤1000000000):∃c s',zAN s=some (c,s')∧DCt c∧Sr (b+2000) s':=by
 obtain ⟨x,s1,e1,x0,x1,h1⟩:=wZ h (by omega) 12
 obtain ⟨n,s2,e2,hn,h2⟩:=jO h1 (by omega) [3,4,5,6,7,8,x] (by simp)
 have hn2:0≤n∧n≤12:=by
  have:=x1 (by omega)
  simp only [qK,List.not_mem_nil,or_false] at hn
  omega
 obtain ⟨l,s3,e3,hl,hz,h3⟩:=zKL h2 (by omega) n hn2
 obtain ⟨k,s4,e4,_,_,h4⟩:=wZ (s:= {Code:=s3.Code,At:=s3.At}) h3 (by omega) 40
 unfold zAN
 rw [e1]
 simp only [qA,e2,e3,e4]
 by_cases c0:(k==0)=true
 ·obtain ⟨p,s5,e5,hp,h5⟩:=zKH h4 (by omega)
  rw [if_pos c0,e5]
  simp only [qA]
  rw [jP (by omega) (by simp) (by decide)]
  refine ⟨l++[p],s5,rfl,⟨by simp; omega,fun y hy=>?_⟩,h5.mono (by omega)⟩
  rcases List.mem_append.1 hy with hy|hy
  ·exact hz y hy
  ·rw [List.mem_singleton.1 hy]; exact hp
 rw [if_neg c0]
 by_cases c1:(k==1)=true
 ·rw [if_pos c1]
  by_cases hp:((l.length:Int)>0)
  ·rw [if_pos (by simpa using hp),show (0:Int)=((0:Nat):Int) from rfl,zL (by omega)]
   simp only [qA]
   rw [jP (by omega) (by simp) (by decide)]
   refine ⟨l++[l[0]],s4,rfl,⟨by simp; omega,fun y hy=>?_⟩,h4.mono (by omega)⟩
   rcases List.mem_append.1 hy with hy|hy
   ·exact hz y hy
   ·rw [List.mem_singleton.1 hy]; exact hz _ (qE _)
  ·rw [if_neg (by simpa using hp)]
   exact ⟨l,s4,rfl,⟨by omega,hz⟩,h4.mono (by omega)⟩
 rw [if_neg c1]
 by_cases c2:(k==2)=true
 ·have hmk:=zQ5 (z:=120) (n:=25) (x:=({Name:=ByteArray.empty,Version:= {A:=0,B:=0,C:=0},Size:=0,Provides:=[],Needs:=[],Bars:=[]}:Pack)) (by decide) (by decide)
  have hmk:mk 120 25 ({Name:=ByteArray.empty,Version:= {A:=0,B:=0,C:=0},Size:=0,Provides:=[],Needs:=[],Bars:=[]}:Pack)=_:=hmk
  rw [if_pos c2,hmk]
  refine ⟨_,s4,rfl,⟨by simp,fun y hy=>?_⟩,h4.mono (by omega)⟩
  rw [(List.mem_replicate.1 hy).2]
  exact ⟨show (ByteArray.empty).size ≤20 by decide,show ByteArray.empty≠zHj by decide,by simp,by simp,by simp⟩
 rw [if_neg c2]
 exact ⟨l,s4,rfl,⟨by omega,hz⟩,h4.mono (by omega)⟩
theorem zOW (xs:List Int) (p:Int→Bool) {b:(List Int×Int)→Option (Lp (List Int×Int) (List Int))} (hstep:∀(i:Nat) (hi:i<xs.length) (acc:List Int),acc.length≤i→b (acc,(i:Int))=some (.go (if p xs[i] then acc++[xs[i]] else acc,((i+1:Nat):Int))))
  (hend:∀acc:List Int,b (acc,(xs.length:Int))=some (.done acc)):loop b (([]:List Int),0)=some (xs.filter p):=by
 obtain ⟨t,e,rfl⟩:=xO (b:=b) (fun i s=>s=((xs.take i).filter p,(i:Int))) xs.length (fun t=>t=xs.filter p) (by
  rintro i s hi rfl
  refine .inl ⟨_,hstep i hi _ (Nat.le_trans (List.length_filter_le _ _) (by simp; omega)),?_⟩
  rw [qF hi,List.filter_append]
  cases h:p xs[i]<;>simp [h]) (by
  rintro s rfl
  rw [List.take_length]
  exact ⟨_,hend _,rfl⟩) xs.length 0 ([],0) (by omega) (by simp)
 exact e
theorem zHh {α β:Type} {f:Nat→List β→α→List β} {P:β→Prop}:∀(xs:List α) (i:Nat) (l:List β),(∀i l x,x∈xs→(∀y∈l,P y)→∀y∈f i l x,P y)→(∀y∈l,P y)→∀y∈foldI f i xs l,P y
 |[],_,_,_,h=>h
 |x::xs,i,l,hf,h=>zHh xs (i+1) (f i l x) (fun i l y hy=>hf i l y (by simp [hy])) (hf i l x (by simp) h)
theorem zM1 (c:List Pack) (a:List Int):∀y∈zGe c a,y.Pack∈a:=by
 unfold zGe
 refine zHh a 0 [] (fun i l k hk hl=>?_) (by simp)
 have key:∀(q:Bool) (l:List yU) (y:yU),y.Pack=k→(∀z∈l,z.Pack∈a)→∀z∈(if q then l++[y] else l),z.Pack∈a:=by
  intro q l y hy hl z hz
  cases q
  ·exact hl z hz
  ·rcases List.mem_append.1 hz with h|h
   ·exact hl z h
   ·rw [List.mem_singleton.1 h,hy]; exact hk
 unfold fS
 refine zHh _ 0 _ (fun i l x _ hl=>?_) (zHh _ 0 _ (fun i l x _ hl=>?_) ?_)
 ·unfold fB; exact key _ _ _ rfl hl
 ·unfold fN; exact key _ _ _ rfl hl
 ·unfold fD; exact key _ _ _ rfl hl
theorem zMT {c:List Pack} (hc:Cat c) (x19:Bool×zC):∀(n:Nat) (a:List Int),a.length≤n→n≤1000→Places c a→∃r,loop (zC1 c x19) a=some r∧r.Sublist a
 |n,a,hn,h1,hp=>by
  have e0:=zIE hc hp (by omega)
  rw [wO]
  unfold zC1
  rw [e0]
  simp only [qA]
  by_cases hl:0< (zGe c a).length
  ·rw [if_pos (by simpa using hl),show (0:Int)=((0:Nat):Int) from rfl,zL hl]
   simp only [qA]
   have hm:=zM1 c a _ (qE hl)
   generalize (zGe c a)[0]=f at hm
   have ef:kD c x19 a f (([]:List Int),((0:Nat):Int))=some (a.filter fun k=>k !=f.Pack):=by
    unfold kD
    refine zOW a (fun k=>k !=f.Pack) (fun i hi acc hacc=>?_) (fun acc=>?_)
    ·unfold zCw
     simp only
     rw [if_pos (by simp; omega),zL hi]
     simp only [qA]
     rw [zM (by omega)]
     cases a[i] !=f.Pack
     ·rfl
     ·rw [if_pos rfl,wY (by simp; omega) (by simp; omega)]
      rfl
    ·unfold zCw
     simp only
     rw [if_neg (by simp)]
   rw [ef]
   simp only [qA,Lp.elim]
   have hlt:(a.filter fun k=>k !=f.Pack).length <a.length:=by
    refine Nat.lt_of_le_of_ne (List.length_filter_le _ _) fun e=>?_
    have:=List.length_filter_eq_length_iff.1 e _ hm
    simp at this
   have hs:(a.filter fun k=>k !=f.Pack).Sublist a:=List.filter_sublist
   cases n with
   |zero=>omega
   |succ n=>
    obtain ⟨r,h2,h3⟩:=zMT hc x19 n (a.filter fun k=>k !=f.Pack) (by omega) (by omega) (fun k hk=>hp k (hs.subset hk))
    exact ⟨r,h2,h3.trans hs⟩
  ·rw [if_neg (by simpa using hl)]
   exact ⟨a,rfl,List.Sublist.refl _⟩
theorem zHY {b:Nat} {s:zC} (h:Sr b s) (hb:b+1000≤1000000000) {c:List Pack} (hc:Cat c) (hl:c.length≤25):∃a s',wX s c=some (a,s')∧a.length≤26∧Sr (b+100) s':=by
 obtain ⟨t,e1,l,s1,rfl,hl1,hp1,h1⟩:=xO (b:=zAq c) (fun i q=>∃(l:List Int) (s':zC),q=(s'.Code,s'.At,l,(i:Int))∧l.length≤i∧Places c l∧Sr (b+i) s') c.length
  (fun t=>∃(l:List Int) (s':zC),t=(s'.Code,s'.At,l)∧l.length≤c.length∧Places c l∧Sr (b+c.length) s') (by
  rintro i q hi ⟨l,s',rfl,hl,hz,hs⟩
  unfold zAq
  simp only
  rw [if_pos (by simp; omega)]
  obtain ⟨q,u,f1,g1⟩:=xY (s:= {Code:=s'.Code,At:=s'.At}) hs (by omega) 3
  rw [f1]
  simp only [qA]
  rw [zM (by omega)]
  cases q
  ·exact .inl ⟨_,rfl,l,u,rfl,by omega,hz,g1⟩
  ·rw [if_pos rfl,jP (by omega) (by simp) (by decide)]
   refine .inl ⟨_,rfl,l++[(i:Int)],u,rfl,by simp; omega,fun k hk=>?_,g1⟩
   rcases List.mem_append.1 hk with hk|hk
   ·exact hz k hk
   ·rw [List.mem_singleton.1 hk]; omega) (by
  rintro q ⟨l,s',rfl,hl,hz,hs⟩
  unfold zAq
  simp only
  rw [if_neg (by simp)]
  exact ⟨_,rfl,l,s',rfl,hl,hz,hs⟩) c.length 0 (s.Code,s.At,[],0) (by omega) ⟨[],s,rfl,by simp,by intro k hk; simp at hk,h⟩
 have e1':zAV c (s.Code,s.At,([]:List Int),0)=some (s1.Code,s1.At,l):=e1
 obtain ⟨q,s2,e2,h2⟩:=xY (s:= {Code:=s1.Code,At:=s1.At}) h1 (by omega) 2
 obtain ⟨a,e3,ha⟩:∃a:List Int,((if q=true then (zY c).bind fun x22=>some (x22==0) else some false).bind fun v24=>if v24=true then (kM c (q,s2) l).bind fun v81=>some v81 else some l)=some a∧a.length≤25:=by
  cases q
  ·exact ⟨l,rfl,by omega⟩
  ·rw [if_pos rfl,uQ c hc]
   simp only [qA]
   cases CF c==0
   ·exact ⟨l,rfl,by omega⟩
   ·rw [if_pos rfl]
    obtain ⟨r,e,hs⟩:=zMT hc (true,s2) 25 l (by omega) (by omega) hp1
    have e:kM c (true,s2) l=some r:=e
    rw [e]
    exact ⟨r,rfl,by have:=hs.length_le; omega⟩
 obtain ⟨q3,s3,e4,h3⟩:=xY h2 (by omega) 24
 unfold wX
 rw [e1']
 simp only [qA,e2]
 rw [←Option.bind_assoc,e3]
 simp only [qA,e4]
 cases q3
 ·exact ⟨a,s3,rfl,by omega,h3.mono (by omega)⟩
 ·obtain ⟨x,s4,e5,_,h4⟩:=jO h3 (by omega) [(c.length:Int),(-1),0] (by simp)
  rw [if_pos rfl,e5]
  simp only [qA]
  rw [jP (by omega) (by simp) (by decide)]
  exact ⟨a++[x],s4,rfl,by simp; omega,h4.mono (by omega)⟩
def zR9 (n:ByteArray):Term:= {Name:=n,Low:= {A:=0,B:=0,C:=0},High:= {A:=1000,B:=0,C:=0}}
theorem zLT {b:Nat} {s:zC} (h:Sr b s) (hb:b+1000≤1000000000) {c:List Pack} (hl:c.length≤25):∃l s',vP s c=some (l,s')∧l.length≤3∧Sr (b+10) s'∧∀t∈l,∃p∈c,t=zR9 p.Name:=by
 obtain ⟨n,s1,e1,n0,n1,h1⟩:=wZ h (by omega) 3
 have hn:=n1 (by omega)
 have key:∀(k:Nat) (l:List Term) (s':zC) (i:Nat),i+k=(1+n).toNat →l.length≤i→(∀t∈l,∃p∈c,t=zR9 p.Name)→Sr (b+1+i) s'→∃l2 s2,loop (jV c) (s'.Code,s'.At,l,(k:Int))=some (s2.Code,s2.At,l2)∧l2.length≤3∧Sr (b+10) s2∧∀t∈l2,∃p∈c,t=zR9 p.Name:=by
  intro k
  induction k with
  |zero=>
   intro l s' i hi hl1 ht hs
   refine ⟨l,s',?_,by omega,hs.mono (by omega),ht⟩
   rw [wO]
   unfold jV
   rfl
  |succ k ih=>
   intro l s' i hi hl1 ht hs
   by_cases h0:c.length=0
   ·have hb:jV c (s'.Code,s'.At,l,((k+1:Nat):Int))=some (.done (s'.Code,s'.At,l)):=by
     have hd:decide ((c.length:Int)>0)=false:=decide_eq_false (by omega)
     unfold jV
     rw [hd]
     simp
    rw [wO,hb]
    exact ⟨l,s',rfl,by omega,hs.mono (by omega),ht⟩
   ·obtain ⟨r,u,f1,r0,r1,g1⟩:=wZ (s:= {Code:=s'.Code,At:=s'.At}) hs (by omega) (c.length:Int)
    have hr:=r1 (by omega)
    obtain ⟨j,rfl⟩:=Int.eq_ofNat_of_zero_le r0
    have hj:j<c.length:=by omega
    have hb:jV c (s'.Code,s'.At,l,((k+1:Nat):Int))=some (.go (u.Code,u.At,l++[({Name:=c[j].Name,Low:= {A:=0,B:=0,C:=0},High:= {A:=1000,B:=0,C:=0}}:Term)],(k:Int))):=by
     unfold jV
     simp only
     have hd:decide ((c.length:Int)>0)=true:=by simp; omega
     rw [if_pos (decide_eq_true (by omega)),hd]
     simp only [qA,if_true]
     rw [f1]
     simp only [qA]
     rw [zL hj]
     unfold wT uK
     simp only [qA]
     rw [jP (by omega) (by simp) (by decide),wC (x:=((k+1:Nat):Int)-1) (by omega) (by omega),show ((k+1:Nat):Int)-1=(k:Int) by omega]
     rfl
    rw [wO,hb]
    exact ih (l++[({Name:=c[j].Name,Low:= {A:=0,B:=0,C:=0},High:= {A:=1000,B:=0,C:=0}}:Term)]) u (i+1) (by omega) (by simp; omega) (fun t hq=>by
     rcases List.mem_append.1 hq with hq|hq
     ·exact ht t hq
     ·exact ⟨c[j],qE hj,List.mem_singleton.1 hq⟩) g1
 obtain ⟨l2,s2,e2,hl2,h2,h3⟩:=key (1+n).toNat [] s1 0 (by omega) (by simp) (by simp) h1
 unfold vP
 rw [e1]
 simp only [qA]
 rw [wC (x:=1+n) (by omega) (by omega)]
 have e2':zEs c (s1.Code,s1.At,([]:List Term),1+n)=some (s2.Code,s2.At,l2):=by
  rw [show 1+n=((1+n).toNat :Int) by omega]
  exact e2
 rw [e2']
 exact ⟨l2,s2,rfl,hl2,h2,h3⟩
theorem zKU {b:Nat} {s:zC} (h:Sr b s) (hb:b+1000≤1000000000) {c:List Pack} (hl:c.length≤25):∃l s',vP s c=some (l,s')∧l.length≤3∧Sr (b+10) s':=by
 obtain ⟨l,s',e,h1,h2,_⟩:=zLT h hb hl
 exact ⟨l,s',e,h1,h2⟩
theorem zHT {c:List Pack} (hc:Cat c) {l:List Term} (hl:l.length≤1048576) {k:Int} (hk:0≤k∧k<c.length):∃r,vW c l k=some r:=by
 have key:=xZ l (fun _ t=>if zGF (pat c k) t then some true else none) (b:=zAy c l k) (by
  intro i hi
  unfold zAy
  rw [if_pos (by simp; omega),zL hi,(vU hk).1]
  simp only [qA,zHB _ _ (hc.zRh hk)]
  rw [zM (by omega)]
  cases zGF (pat c k) l[i]<;>rfl) (by
  unfold zAy
  rw [if_neg (by simp)])
 unfold vW zBe
 rw [key,zDx]
 split<;>exact ⟨_,rfl⟩
theorem zOD {c:List Pack} (hc:Cat c) {a:List Int} (hp:Places c a) (ha:a.length≤1048576) {k:Int} (hk:0≤k∧k<c.length):∃r,zDT c a k=some r:=by
 obtain ⟨t,e,_⟩:=xO (b:=zCO c a k) (fun i s=>s=(i:Int)) a.length (fun _=>True) (by
  rintro i s hi rfl
  have hq:=hp _ (qE hi)
  obtain ⟨r1,f1⟩:=zHT hc (hc.bars hq) hk
  obtain ⟨r2,f2⟩:=zHT hc (hc.bars hk) hq
  unfold zCO
  rw [if_pos (by simp; omega),zL hi]
  simp only [qA,(vU hq).1,(vU hk).1,f1,f2]
  rw [zM (by omega)]
  cases seq (pat c a[i]).Name (pat c k).Name
  ·cases r1
   ·cases r2
    ·exact .inl ⟨_,rfl,rfl⟩
    ·exact .inr ⟨_,rfl,trivial⟩
   ·exact .inr ⟨_,rfl,trivial⟩
  ·exact .inr ⟨_,rfl,trivial⟩) (by
  rintro s rfl
  unfold zCO
  rw [if_neg (by simp)]
  exact ⟨_,rfl,trivial⟩) a.length 0 0 (by omega) rfl
 have e:zD6 c a k 0=some t:=e
 unfold zDT
 rw [e]
 cases t<;>exact ⟨_,rfl⟩
theorem zNq {c:List Pack} {l:List Int} (hl:l.length≤1048576) {x y:Int} (hx:0≤x∧x<c.length) (hy:0≤y∧y<c.length):∃r,zCP c l x y=some r:=by
 unfold zCP
 rw [zFa _ _ hl,zFa _ _ hl]
 simp only [qA,(vU hx).1,(vU hy).1,jH]
 split
 ·exact ⟨_,rfl⟩
 ·split<;>exact ⟨_,rfl⟩
theorem zJX {c:List Pack} (hc:Cat c) {asks:List Term} (hk:asks.length≤1000) {a:List Int} (hp:Places c a) (ha:a.length≤1000):∃l,zB6 c asks a=some l∧l.length≤1048576:=by
 obtain ⟨t,e1,h1⟩:=xO (b:=zBd c asks a) (fun i s=>s=(i:Int)) asks.length (fun t=>∀l,t= .ret l→l.length≤1048576) (by
  rintro i s hi rfl
  unfold zBd
  rw [if_pos (by simp; omega),zM (by omega),zFQ (Nat.le_succ i) (by omega)]
  simp only [qA]
  rw [zKA hc hp (by omega) _ (by simp; omega)]
  simp only [qA]
  generalize zQv c a _=m
  cases m
  ·refine .inr ⟨_,rfl,?_⟩
   rintro l ⟨⟩
   simp; omega
  ·exact .inl ⟨_,rfl,rfl⟩) (by
  rintro s rfl
  unfold zBd
  rw [if_neg (by simp)]
  exact ⟨_,rfl,by rintro l ⟨⟩⟩) asks.length 0 0 (by omega) rfl
 have e1:zBJ c asks a 0=some t:=e1
 obtain ⟨u,e2,h2⟩:=xO (b:=zBc c a) (fun i s=>s=(i:Int)) a.length (fun t=>∀l,t= .ret l→l.length≤1048576) (by
  rintro i s hi rfl
  have hq:=hp _ (qE hi)
  have hN:=hc.needs hq
  obtain ⟨v,e3,h3⟩:=xO (b:=zBo c a (i:Int) (pat c a[i])) (fun j s=>s=(j:Int)) (pat c a[i]).Needs.length (fun t=>∀l,t= .ret l→l.length≤1048576) (by
   rintro j s hj rfl
   have hcl:=hc.clause hq (qE hj)
   unfold zBo
   rw [if_pos (by simp; omega),zM (by omega),zL hj]
   simp only [qA]
   rw [zKA hc hp (by omega) _ hcl]
   simp only [qA]
   generalize zQv c a _=m
   cases m
   ·refine .inr ⟨_,rfl,?_⟩
    rintro l ⟨⟩
    exact hcl
   ·exact .inl ⟨_,rfl,rfl⟩) (by
   rintro s rfl
   unfold zBo
   rw [if_neg (by simp)]
   exact ⟨_,rfl,by rintro l ⟨⟩⟩) (pat c a[i]).Needs.length 0 0 (by omega) rfl
  have e3:zCn c a (i:Int) (pat c a[i]) 0=some v:=e3
  unfold zBc
  rw [if_pos (by simp; omega),zM (by omega),zL hi]
  simp only [qA,(vU hq).1,e3]
  cases v with
  |ret l=>exact .inr ⟨_,rfl,by rintro l' ⟨⟩; exact h3 l rfl⟩
  |nxt _=>exact .inl ⟨_,rfl,rfl⟩) (by
  rintro s rfl
  unfold zBc
  rw [if_neg (by simp)]
  exact ⟨_,rfl,by rintro l ⟨⟩⟩) a.length 0 0 (by omega) rfl
 have e2:zCc c a 0=some u:=e2
 unfold zB6
 rw [e1,e2]
 cases t with
 |ret l=>exact ⟨l,rfl,h1 l rfl⟩
 |nxt _=>
  cases u with
  |ret l=>exact ⟨l,rfl,h2 l rfl⟩
  |nxt _=>exact ⟨[],rfl,by simp⟩
theorem zLd {c:List Pack} (hc:Cat c) (hcl:c.length≤25) {cl:List Term} (h1:cl.length≤1048576) {a d lk:List Int} (hp:Places c a) (ha:a.length≤1048576) (hd:d.length≤1048576) (hlk:lk.length≤1048576):
  ∃l,uU c cl a d lk=some l∧∀k∈l,(0≤k∧k<c.length)∧k∉a:=by
 obtain ⟨t,e,ht⟩:=xO (b:=tZ c cl a d lk) (fun i s=>s.2=(i:Int)∧s.1.length≤i∧∀k∈s.1,(0≤k∧k<c.length)∧k∉a) c.length (fun t=>∀k∈t,(0≤k∧k<c.length)∧k∉a) (by
  rintro i ⟨out,j⟩ hi ⟨hj,hol,ho⟩
  simp only at hj hol ho
  subst hj
  have hki:0≤(i:Int)∧(i:Int)<c.length:=by omega
  obtain ⟨g,eg,_⟩:=xO (b:=tY c cl a d lk (out,(i:Int))) (fun j s=>s.2=(j:Int)) cl.length (fun _=>True) (by
   rintro j ⟨q,j'⟩ hj hj'
   simp only at hj'
   subst hj'
   unfold tY
   simp only
   rw [if_pos (by simp; omega),(vU hki).1,zL hj]
   simp only [qA,zHB _ _ (hc.zRh hki)]
   rw [zM (by omega)]
   cases q
   ·exact .inl ⟨_,rfl,rfl⟩
   ·exact .inl ⟨_,rfl,rfl⟩) (by
   rintro ⟨q,j'⟩ hj'
   simp only at hj'
   subst hj'
   unfold tY
   simp only
   rw [if_neg (by simp)]
   exact ⟨_,rfl,trivial⟩) cl.length 0 (false,0) (by omega) rfl
  have eg:jN c cl a d lk (out,(i:Int)) (false,0)=some g:=eg
  obtain ⟨ft,ef⟩:=zOD hc hp ha hki
  have ins:∀n:Nat,n≤out.length→∃v:Nat,v≤n∧vD c cl a d lk (out,(i:Int)) (n:Int)=some (v:Int):=by
   intro n
   induction n with
   |zero=>
    intro _
    refine ⟨0,Nat.le_refl _,?_⟩
    unfold vD
    rw [wO]
    unfold zAv
    rfl
   |succ n ih=>
    intro hn
    have hq:=(ho _ (qE (show n<out.length by omega))).1
    obtain ⟨r,er⟩:=zNq (l:=lk) hlk hki hq
    obtain ⟨v,hv,ev⟩:=ih (by omega)
    unfold vD at ev ⊢
    rw [wO]
    unfold zAv
    simp only
    rw [if_pos (decide_eq_true (by omega)),wC (x:=((n+1:Nat):Int)-1) (by omega) (by omega),show ((n+1:Nat):Int)-1=(n:Int) by omega,zL (show n<out.length by omega)]
    simp only [qA,er]
    cases r
    ·exact ⟨n+1,Nat.le_refl _,rfl⟩
    ·exact ⟨v,by omega,ev⟩
  unfold tZ
  simp only
  rw [if_pos (by simp; omega),eg,zFa _ _ ha,zFa _ _ hd,ef,zM (by omega)]
  simp only [qA]
  by_cases hg:g=true
  ·subst hg
   by_cases hia:(i:Int)∈a
   ·have:decide ((i:Int)∈a)=true:=by simpa using hia
    rw [this]
    exact .inl ⟨_,rfl,rfl,by simp only; omega,ho⟩
   ·have:decide ((i:Int)∈a)=false:=by simpa using hia
    rw [this]
    cases decide ((i:Int)∈d)
    ·cases ft
     ·exact .inl ⟨_,rfl,rfl,by simp only; omega,ho⟩
     ·obtain ⟨v,hv,ev⟩:=ins out.length (Nat.le_refl _)
      have l1:zGp out 0 (v:Int)=some (out.take v):=by
       have:=zFQ (xs:=out) (l:=0) (h:=v) (by omega) hv
       simpa using this
      have l2:zGp out (v:Int) (out.length:Int)=some (out.drop v):=by
       have:=zFQ (xs:=out) (l:=v) (h:=out.length) hv (Nat.le_refl _)
       rw [this,List.take_of_length_le (by simp)]
      simp only [Bool.not_true,qD,if_false,qA,ev,l1,l2]
      rw [jP (by simp) (by simp; omega) (by decide)]
      simp only [qA]
      rw [jP (by simp; omega) (by simp) (by decide)]
      simp only [qA]
      rw [jP (by simp; omega) (by simp; omega) (by decide)]
      refine .inl ⟨_,rfl,rfl,by simp; omega,fun k hk=>?_⟩
      simp only [List.nil_append,qJ,qI] at hk
      rcases hk with (hk|hk)|hk
      ·exact ho k (List.mem_of_mem_take hk)
      ·subst hk; exact ⟨hki,hia⟩
      ·exact ho k (List.mem_of_mem_drop hk)
    ·exact .inl ⟨_,rfl,rfl,by simp only; omega,ho⟩
  ·have:g=false:=by simpa using hg
   subst this
   exact .inl ⟨_,rfl,rfl,by simp only; omega,ho⟩) (by
  rintro ⟨out,j⟩ ⟨hj,hol,ho⟩
  simp only at hj hol ho
  subst hj
  unfold tZ
  simp only
  rw [if_neg (by simp)]
  exact ⟨_,rfl,ho⟩) c.length 0 (([]:List Int),0) (by omega) ⟨rfl,by simp,by simp⟩
 have e:jM c cl a d lk (([]:List Int),0)=some t:=e
 unfold uU
 rw [e]
 exact ⟨t,rfl,ht⟩
theorem zJr (fs:List yS) (h:fs.length≤100):zBC fs=some (fs.map (·.Pack)):=by
 obtain ⟨t,e,rfl⟩:=xO (b:=zBg fs) (fun i s=>s=((fs.take i).map (·.Pack),(i:Int))) fs.length (fun t=>t=fs.map (·.Pack)) (by
  rintro i s hi rfl
  unfold zBg
  simp only
  rw [if_pos (by simp; omega),zL hi]
  simp only [qA]
  rw [jP (by simp; omega) (by simp) (by decide),zM (by omega)]
  refine .inl ⟨_,rfl,?_⟩
  rw [qF hi,List.map_append]
  rfl) (by
  rintro s rfl
  rw [List.take_length]
  unfold zBg
  simp only
  rw [if_neg (by simp)]
  exact ⟨_,rfl,rfl⟩) fs.length 0 (([]:List Int),0) (by omega) (by simp)
 have e:zCa fs (([]:List Int),0)=some _:=e
 unfold zBC
 rw [e]
 rfl
theorem zJq (a:List Int) (hn:a.Nodup) (hl:a.length≤100):∃r,zBA a=some r∧r.Pairwise (· < ·)∧(∀x,x∈r↔x∈a)∧r.length=a.length:=by
 obtain ⟨t,e,h1,h2,h3⟩:=xO (b:=zBy a) (fun i s=>s.2=(i:Int)∧s.1.Pairwise (· < ·)∧(∀x,x∈s.1↔x∈a.take i)∧s.1.length=i) a.length (fun t=>t.Pairwise (· < ·)∧(∀x,x∈t↔x∈a)∧t.length=a.length) (by
  rintro i ⟨o,j⟩ hi ⟨hj,h1,h2,h3⟩
  simp only at hj h1 h2 h3
  subst hj
  have hni:a[i]∉o:=by
   rw [h2]
   intro hm
   obtain ⟨k,hk,e⟩:=List.mem_take_iff_getElem.1 hm
   have hne:=List.pairwise_iff_getElem.1 hn k i (by omega) hi (by omega)
   exact hne e
  obtain ⟨r,er,g1,g2,g3⟩:=zMP o a[i] h1 hni (by omega)
  unfold zBy
  simp only
  rw [if_pos (by simp; omega),zL hi]
  simp only [qA,er]
  rw [zM (by omega)]
  refine .inl ⟨_,rfl,rfl,g1,fun x=>?_,by simp only; omega⟩
  simp only
  rw [g2,h2,qF hi]
  simp only [qJ,qI]) (by
  rintro ⟨o,j⟩ ⟨hj,h1,h2,h3⟩
  simp only at hj h1 h2 h3
  subst hj
  rw [List.take_length] at h2
  unfold zBy
  simp only
  rw [if_neg (by simp)]
  exact ⟨_,rfl,h1,h2,h3⟩) a.length 0 (([]:List Int),0) (by omega) ⟨rfl,by simp,by simp,rfl⟩
 have e:zCi a (([]:List Int),0)=some t:=e
 unfold zBA
 rw [e]
 exact ⟨t,rfl,h1,h2,h3⟩
def zRs (c:List Pack) (r:SolveResult):Prop:=r.Set.Pairwise (· < ·)∧Places c r.Set∧r.Set.length≤60
theorem zN6 {c:List Pack} (hc:Cat c) (hcl:c.length≤25) {asks:List Term} (hk:asks.length≤1000) {lk:List Int} (hlk:lk.length≤1048576):∀(m n:Nat) (fs:List yS) (d:List Int),2*(60-n)+fs.length=m→n≤60→m≤120→(fs.map (·.Pack)).Nodup →Places c (fs.map (·.Pack))→fs.length≤n→
  (∀f∈fs,f.Denied.length+m≤120)→d.length+m≤120→∃r:SolveResult,loop (zBX c asks lk 60) (fs,d,(n:Int))=some (.ret r)∧zRs c r:=by
 intro m
 induction m with
 |zero=>
  intro n fs d hm hn _ hnd hpl hfn hfd hdd
  have hf0:fs=[]:=List.length_eq_zero_iff.1 (by omega)
  subst hf0
  have hn60:n=60:=by omega
  subst hn60
  obtain ⟨cl,e1,hcl1⟩:=zJX hc hk hpl (by simp)
  obtain ⟨l,e2,hl⟩:=zLd hc hcl hcl1 hpl (by simp) (show d.length≤1048576 by omega) hlk
  rw [wO]
  unfold zBX
  simp only
  rw [zJr [] (by simp)]
  simp only [qA,e1]
  by_cases h0:((cl.length:Int)==0)=true
  ·obtain ⟨r,e3,g1,g2,g3⟩:=zJq _ hnd (by simp)
   rw [if_pos h0,e3]
   exact ⟨_,rfl,g1,fun k hk=>hpl k ((g2 k).1 hk),by simp only; rw [g3]; simp⟩
  ·rw [if_neg h0,e2]
   simp only [qA]
   by_cases h1:(l.length:Int)>0
   ·rw [if_pos (by simpa using h1)]
    exact ⟨_,rfl,by simp [zRs,Places]⟩
   ·rw [if_neg (by simpa using h1)]
    exact ⟨_,rfl,by simp [zRs,Places]⟩
 |succ m ih=>
  intro n fs d hm hn hm2 hnd hpl hfn hfd hdd
  obtain ⟨cl,e1,hcl1⟩:=zJX hc hk hpl (by simp; omega)
  obtain ⟨l,e2,hl⟩:=zLd hc hcl hcl1 hpl (by simp; omega) (show d.length≤1048576 by omega) hlk
  rw [wO]
  unfold zBX
  simp only
  rw [zJr fs (by omega)]
  simp only [qA,e1]
  by_cases h0:((cl.length:Int)==0)=true
  ·obtain ⟨r,e3,g1,g2,g3⟩:=zJq _ hnd (by simp; omega)
   rw [if_pos h0,e3]
   exact ⟨_,rfl,g1,fun k hk=>hpl k ((g2 k).1 hk),by simp only; rw [g3]; simp; omega⟩
  ·rw [if_neg h0,e2]
   simp only [qA]
   by_cases h1:(l.length:Int)>0
   ·rw [if_pos (by simpa using h1)]
    by_cases h60:((n:Int)==60)=true
    ·rw [if_pos h60]
     exact ⟨_,rfl,by simp [zRs,Places]⟩
    ·have hn60:n≠60:=fun e=>h60 (by rw [e]; rfl)
     obtain ⟨hx1,hx2⟩:=hl _ (qE (show 0<l.length by omega))
     rw [if_neg h60,show (0:Int)=((0:Nat):Int) from rfl,zL (show 0<l.length by omega)]
     simp only [qA]
     rw [jP (by omega) (by simp) (by decide),zM (by omega)]
     simp only [qA,Lp.elim]
     refine ih (n+1) (fs++[{Pack:=l[0],Denied:=d}]) d (by simp; omega) (by omega) (by omega) ?_ ?_ (by simp; omega) ?_ (by omega)
     ·rw [List.map_append,List.nodup_append]
      refine ⟨hnd,by simp,fun x hx y hy=>?_⟩
      simp only [List.map_cons,List.map_nil,qI] at hy
      subst hy
      intro e
      subst e
      exact hx2 hx
     ·intro k hk
      rw [List.map_append,qJ] at hk
      rcases hk with hk|hk
      ·exact hpl k hk
      ·simp only [List.map_cons,List.map_nil,qI] at hk
       subst hk
       exact hx1
     ·intro f hf
      rcases List.mem_append.1 hf with hf|hf
      ·have:=hfd f hf; omega
      ·rw [List.mem_singleton.1 hf]; simp only; omega
   ·rw [if_neg (by simpa using h1)]
    by_cases hf0:((fs.length:Int)==0)=true
    ·rw [if_pos hf0]
     exact ⟨_,rfl,by simp [zRs,Places]⟩
    ·have hfl:fs.length≠0:=by simpa using hf0
     have hlast:fs.length-1<fs.length:=by omega
     have l1:zGp fs 0 ((fs.length-1:Nat):Int)=some (fs.take (fs.length-1)):=by
      have:=zFQ (xs:=fs) (l:=0) (h:=fs.length-1) (by omega) (by omega)
      simpa using this
     have hD:=hfd _ (qE hlast)
     rw [if_neg hf0,wC (x:=(fs.length:Int)-1) (by omega) (by omega),show (fs.length:Int)-1=((fs.length-1:Nat):Int) by omega,zL hlast,l1]
     simp only [qA]
     rw [wY (by simp; omega) (by simp; omega)]
     simp only [qA]
     rw [wY (by simp; omega) (by simp; omega)]
     simp only [qA,Lp.elim]
     have hsub:(fs.take (fs.length-1)).Sublist fs:=List.take_sublist _ _
     refine ih n (fs.take (fs.length-1)) _ (by simp; omega) hn (by omega) (hnd.sublist (hsub.map _)) (fun k hk=>hpl k ((hsub.map _).subset hk)) (by simp; omega) (fun f hf=>?_) (by simp; omega)
     have:=hfd f (hsub.subset hf)
     omega
theorem zH8 {c:List Pack} (hc:Cat c) (hcl:c.length≤25) {asks:List Term} (hk:asks.length≤1000) {lk:List Int} (hlk:lk.length≤1048576):∃r,vN c asks lk 60=some r∧zRs c r:=by
 obtain ⟨r,e,h⟩:=zN6 hc hcl hk hlk 120 0 [] [] (by simp) (by omega) (by omega) (by simp) (by intro k hk; simp at hk) (by simp) (by simp) (by simp)
 have e:zCF c asks lk 60 (([]:List yS),([]:List Int),0)=some (.ret r):=e
 unfold vN
 rw [e]
 exact ⟨r,rfl,h⟩
theorem zOx {b:Nat} {s:zC} (h:Sr b s) (hb:b+10000≤1000000000):∃c x y s',zDX s=some (c,x,y,s')∧DCt c∧x.length≤60∧y.length≤60∧Sr (b+5000) s':=by
 obtain ⟨c,s1,e1,hD,h1⟩:=zLp h (by omega)
 have hC:=hD.cat
 have hl:=hD.1
 have key:∃(x y:List Int) (s':zC),(if (CF c==0)=true then
   ((vP s1 c).bind fun x7=>
   (vN c x7.1 ([]:List Int) 60).bind fun x9=>
   (if x9.Code==0 then
     (some x9.Set)
    else
     (some ([]:List Int))).bind fun v12=>
   (vP x7.2 c).bind fun x13=>
   (zEh 1 (c.length:Int)).bind fun x15=>
   (zH x13.2 x15).bind fun x17=>
   (vN c x13.1 [x17.1] 60).bind fun x19=>
   (if x19.Code==0 then
     (some (decide ((c.length:Int)>0)))
    else
     (some false)).bind fun v22=>
   if v22 then
    (some (x17.2.Code,x17.2.At,v12,x19.Set))
   else
    (some (x17.2.Code,x17.2.At,v12,([]:List Int))))
  else
   (some (s1.Code,s1.At,([]:List Int),([]:List Int))))=some (s'.Code,s'.At,x,y)∧x.length≤60∧y.length≤60∧Sr (b+3000) s':=by
  cases CF c==0
  ·exact ⟨[],[],s1,rfl,by simp,by simp,h1.mono (by omega)⟩
  obtain ⟨l,s2,f1,hl1,g1⟩:=zKU h1 (by omega) hl
  obtain ⟨r,f2,hr⟩:=zH8 hC hl (asks:=l) (by omega) (lk:=[]) (by simp)
  obtain ⟨l2,s3,f3,hl2,g3⟩:=zKU g1 (by omega) hl
  obtain ⟨m,f4⟩:∃m,zEh 1 (c.length:Int)=some m:=by
   unfold zEh
   split<;>exact ⟨_,rfl⟩
  obtain ⟨z,s4,f5,_,_,g5⟩:=wZ g3 (by omega) m
  obtain ⟨r2,f6,hr2⟩:=zH8 hC hl (asks:=l2) (by omega) (lk:=[z]) (by simp)
  obtain ⟨x,f7,hx⟩:∃x:List Int,(if r.Code==0 then some r.Set else some ([]:List Int))=some x∧x.length≤60:=by
   cases r.Code==0
   ·exact ⟨[],rfl,by simp⟩
   ·exact ⟨r.Set,rfl,hr.2.2⟩
  rw [if_pos rfl,f1]
  simp only [qA,f2,f7,f3,f4,f5,f6]
  cases r2.Code==0
  ·exact ⟨x,[],s4,rfl,hx,by simp,g5.mono (by omega)⟩
  ·cases hd:decide ((c.length:Int)>0)
   ·exact ⟨x,[],s4,by simp,hx,by simp,g5.mono (by omega)⟩
   ·exact ⟨x,r2.Set,s4,by simp,hx,hr2.2.2,g5.mono (by omega)⟩
 obtain ⟨x,y,s2,e2,hx,hy,h2⟩:=key
 have some_set:∀{b:Nat} {s:zC} (z:List Int),Sr b s→b+1000≤1000000000→z.length≤60→∀q:Bool,∃(w:List Int) (s':zC),(if q=true then (wX s c).bind fun x28=>some (x28.2.Code,x28.2.At,x28.1) else some (s.Code,s.At,z))=some (s'.Code,s'.At,w)∧w.length≤60∧Sr (b+100) s':=by
  intro b s z hs hb hz q
  cases q
  ·exact ⟨z,s,rfl,hz,hs.mono (by omega)⟩
  ·obtain ⟨w,s',f,hw,g⟩:=zHY hs hb hC hl
   rw [if_pos rfl,f]
   exact ⟨w,s',rfl,by omega,g⟩
 obtain ⟨q,s3,e3,h3⟩:=xY (s:= {Code:=s2.Code,At:=s2.At}) h2 (by omega) 14
 obtain ⟨x2,s4,e4,hx2,h4⟩:=some_set x h3 (by omega) hx q
 obtain ⟨q2,s5,e5,h5⟩:=xY (s:= {Code:=s4.Code,At:=s4.At}) h4 (by omega) 14
 obtain ⟨y2,s6,e6,hy2,h6⟩:=some_set y h5 (by omega) hy q2
 unfold zDX
 rw [e1]
 simp only [qA]
 rw [uQ c hC]
 simp only [qA]
 rw [e2]
 simp only [qA,e3,e4,e5,e6]
 exact ⟨c,x2,y2,s6,rfl,hD,hx2,hy2,h6.mono (by omega)⟩
theorem zMA {α R:Type} (f:Nat→α→Option R):∀(xs ys:List α) (i:Nat),xU f i (xs++ys)=(xU f i xs).or (xU f (i+xs.length) ys)
 |[],ys,i=>by simp [xU]
 |x::xs,ys,i=>by
  simp only [List.cons_append,xU,List.length_cons]
  cases f i x with
  |some r=>rfl
  |none=>simp only; rw [zMA f xs ys (i+1),show i+1+xs.length=i+(xs.length+1) by omega]
theorem zQU {a:List Int} (h:a.length≤1048576):zEk a=some false:=by
 unfold zEk
 congr 1
 simp; omega
theorem zOG (x:List Int) (h:x.length≤1048576):zDZ x x=some true:=by
 have key:zCp x x 0=some (.nxt ()):=by
  unfold zCp
  refine zPb x.length (fun i hi=>?_) ?_
  ·unfold zE5
   rw [if_pos (by simp; omega),zL hi]
   simp only [qA]
   rw [zM (by omega)]
   simp
  ·unfold zE5
   rw [if_neg (by simp)]
 unfold zDZ
 rw [key]
 simp [Fl.go]
theorem zSi {c:List Pack} {a:List Int} (hp:Places c a) (ha:a.length≤1048576) (n:ByteArray):kE c a n=some (zKS c a n):=by
 have key:=xZ a (fun _ k=>if seq (pat c k).Name n then some k else none) (b:=zDG c a n) (by
  intro i hi
  have hk:=hp _ (qE hi)
  unfold zDG
  rw [if_pos (by simp; omega),zL hi]
  simp only [qA,(vU hk).1]
  rw [zM (by omega)]
  cases seq (pat c a[i]).Name n<;>rfl) (by
  unfold zDG
  rw [if_neg (by simp)])
 unfold kE zEq zKS
 rw [key,zDx]
 cases xU (fun _ k=>if seq (pat c k).Name n then some k else none) 0 a<;>rfl
theorem zRA {c:List Pack} {a b:List Int} (pa:Places c a) (pb:Places c b) (ha:a.length≤1000) (hb:b.length≤1000) (n:ByteArray):∃l,zBF c a b n=some l∧l.length≤2∧∀p∈l,p∈c:=by
 have hidx:∀{s:List Int},Places c s→zKS c s n≥0→idx c (zKS c s n)=some (pat c (zKS c s n))∧pat c (zKS c s n)∈c:=fun hp h=>vU (zNT hp h)
 obtain ⟨l1,e1,h1,m1⟩:∃l:List Pack,(if decide (zKS c a n≥0)=true then (idx c (zKS c a n)).bind fun x8=>(app 120 ([]:List Pack) [x8]).bind fun x10=>some x10 else some ([]:List Pack))=some l∧l.length≤1∧∀p∈l,p∈c:=by
  by_cases h:zKS c a n≥0
  ·obtain ⟨q1,q2⟩:=hidx pa h
   rw [if_pos (by simpa using h),q1]
   simp only [qA]
   rw [jP (by simp) (by simp) (by decide)]
   exact ⟨_,rfl,by simp,by simpa using q2⟩
  ·rw [if_neg (by simpa using h)]
   exact ⟨_,rfl,by simp,by simp⟩
 unfold zBF
 rw [zSi pa (by omega),zSi pb (by omega)]
 simp only [qA,e1]
 by_cases h:zKS c b n≥0
 ·obtain ⟨q1,q2⟩:=hidx pb h
  rw [if_pos (by simpa using h),q1]
  simp only [qA]
  rw [jP (by omega) (by simp) (by decide)]
  refine ⟨_,rfl,by simp; omega,fun p hp=>?_⟩
  rcases List.mem_append.1 hp with hp|hp
  ·exact m1 p hp
  ·rw [List.mem_singleton.1 hp]; exact q2
 ·rw [if_neg (by simpa using h)]
  exact ⟨_,rfl,by omega,m1⟩
theorem zQ1 {c:List Pack} (hD:DCt c) {a b:List Int} (pa:Places c a) (pb:Places c b) (ha:a.length≤1000) (hb:b.length≤1000) (n:ByteArray):∃l,zAs c a b n=some l∧l.length≤1000:=by
 obtain ⟨ps,e,hl,hm⟩:=zRA pa pb ha hb n
 obtain ⟨t,e2,h2,h3⟩:=xO (b:=zBM ps) (fun i s=>s.2=(i:Int)∧s.1.Pairwise ltS∧s.1.length≤1+8*i) ps.length (fun t=>t.Pairwise ltS∧t.length≤1+8*ps.length) (by
  rintro i ⟨l,j⟩ hi ⟨hj,hs,hll⟩
  simp only at hj hs hll
  subst hj
  have hP:=(hD.2 _ (hm _ (qE hi))).zRh
  obtain ⟨r,er,r1,_,r3⟩:=zKw (ps[i]).Provides id (b:=zBU ps (l,(i:Int))) (by
   intro k hk l2
   unfold zBU
   simp only
   rw [zL hi]
   simp only [qA]
   rw [if_pos (by simp; omega),zL hk]
   rfl) (by
   intro l2
   unfold zBU
   simp only
   rw [zL hi]
   simp only [qA]
   rw [if_neg (by simp)]) l hs (by omega)
  have er:zDb ps (l,(i:Int)) (l,0)=some r:=er
  unfold zBM
  simp only
  rw [if_pos (by simp; omega),er,zM (by omega)]
  exact .inl ⟨_,rfl,rfl,r1,by simp only; omega⟩) (by
  rintro ⟨l,j⟩ ⟨hj,hs,hll⟩
  simp only at hj hs hll
  subst hj
  unfold zBM
  simp only
  rw [if_neg (by simp)]
  exact ⟨_,rfl,hs,hll⟩) ps.length 0 ([n],0) (by omega) ⟨rfl,by simp,by simp⟩
 have e2:zCE ps ([n],0)=some t:=e2
 unfold zAs
 rw [e]
 simp only [qA,e2]
 exact ⟨t,rfl,by omega⟩
theorem zOO {p:Pack} (h:DPk 8 p):∃l,kN p=some l∧l.length≤1000:=by
 obtain ⟨n1,n2⟩:=h.needs
 obtain ⟨b1,b2⟩:=h.bars
 obtain ⟨t,e2,h2,h3⟩:=xO (b:=kR p) (fun i s=>s.2=(i:Int)∧s.1.Pairwise ltS∧s.1.length≤8*i) p.Needs.length (fun t=>t.Pairwise ltS∧t.length≤8*p.Needs.length) (by
  rintro i ⟨l,j⟩ hi ⟨hj,hs,hll⟩
  simp only at hj hs hll
  subst hj
  have hP:=(n2 _ (qE hi)).1
  obtain ⟨r,er,r1,_,r3⟩:=zKw (p.Needs[i]) (fun t=>t.Name) (b:=kV p (l,(i:Int))) (by
   intro k hk l2
   unfold kV
   simp only
   rw [zL hi]
   simp only [qA]
   rw [if_pos (by simp; omega),zL hk]
   rfl) (by
   intro l2
   unfold kV
   simp only
   rw [zL hi]
   simp only [qA]
   rw [if_neg (by simp)]) l hs (by omega)
  have er:zA4 p (l,(i:Int)) (l,0)=some r:=er
  unfold kR
  simp only
  rw [if_pos (by simp; omega),er,zM (by omega)]
  exact .inl ⟨_,rfl,rfl,r1,by simp only; omega⟩) (by
  rintro ⟨l,j⟩ ⟨hj,hs,hll⟩
  simp only at hj hs hll
  subst hj
  unfold kR
  simp only
  rw [if_neg (by simp)]
  exact ⟨_,rfl,hs,hll⟩) p.Needs.length 0 (([]:List ByteArray),0) (by omega) ⟨rfl,by simp,by simp⟩
 have e2:zAz p (([]:List ByteArray),0)=some t:=e2
 obtain ⟨r,er,_,_,r3⟩:=zKw p.Bars (fun t=>t.Name) (b:=kW p) (by
  intro k hk l2
  unfold kW
  simp only
  rw [if_pos (by simp; omega),zL hk]
  rfl) (by
  intro l2
  unfold kW
  simp only
  rw [if_neg (by simp)]) t h2 (by omega)
 have er:zA7 p (t,0)=some r:=er
 unfold kN
 rw [e2]
 simp only [qA,er]
 exact ⟨r,rfl,by omega⟩
theorem anyS {α:Type} (xs:List α) {b:Int→Option (Lp Int (Fl Bool Unit))} (hstep:∀(i:Nat) (hi:i<xs.length),∃q:Bool,b (i:Int)=some (if q then .done (.ret true) else .go ((i+1:Nat):Int))) (hend:b (xs.length:Int)=some (.done (.nxt ()))):∃r,(loop b 0).bind (Fl.go some fun _=>some false)=some r:=by
 obtain ⟨t,e,_⟩:=xO (b:=b) (fun i s=>s=(i:Int)) xs.length (fun _=>True) (by
  rintro i s hi rfl
  obtain ⟨q,e⟩:=hstep i hi
  rw [e]
  cases q
  ·exact .inl ⟨_,rfl,rfl⟩
  ·exact .inr ⟨_,rfl,trivial⟩) (by
  rintro s rfl
  exact ⟨_,hend,trivial⟩) xs.length 0 0 (by omega) rfl
 rw [e]
 cases t<;>exact ⟨_,rfl⟩
theorem zRF (m ns:List ByteArray) (hm:m.length≤1000) (hn:ns.length≤1000):∃r,zC8 m ns=some r:=by
 unfold zC8 zCI
 refine anyS m (fun i hi=>⟨ns.any fun x=>seq x m[i],?_⟩) ?_
 ·unfold zDP
  rw [if_pos (by simp; omega),zL hi]
  simp only [qA]
  rw [zDw _ _ (by omega),zM (by omega)]
  cases ns.any fun x=>seq x m[i]<;>rfl
 ·unfold zDP
  rw [if_neg (by simp)]
theorem zOR (l:List Term) (ns:List ByteArray) (hl:l.length≤1000) (hn:ns.length≤1000):∃r,uY l ns=some r:=by
 unfold uY zCh
 refine anyS l (fun i hi=>⟨ns.any fun x=>seq x l[i].Name,?_⟩) ?_
 ·unfold zDu
  rw [if_pos (by simp; omega),zL hi]
  simp only [qA]
  rw [zDw _ _ (by omega),zM (by omega)]
  cases ns.any fun x=>seq x l[i].Name <;>rfl
 ·unfold zDu
  rw [if_neg (by simp)]
theorem zRK {c:List Pack} (hD:DCt c) {a b:List Int} (pa:Places c a) (pb:Places c b) (ha:a.length≤1000) (hb:b.length≤1000) (n:ByteArray) (ns:List ByteArray) (hn:ns.length≤1000):∃r,uG c a b n ns=some r:=by
 obtain ⟨ps,e,hl,hm⟩:=zRA pa pb ha hb n
 unfold uG zDD
 rw [e]
 simp only [qA]
 have key:∀i,(hi:i<ps.length)→∃q:Bool,zDh ns ps (i:Int)=some (if q then .done (.ret true) else .go ((i+1:Nat):Int)):=by
  intro i hi
  obtain ⟨m,em,hm2⟩:=zOO (hD.2 _ (hm _ (qE hi)))
  obtain ⟨q,eq⟩:=zRF m ns hm2 hn
  refine ⟨q,?_⟩
  unfold zDh
  rw [if_pos (by simp; omega),zL hi]
  simp only [qA,em,eq]
  rw [zM (by omega)]
  cases q<;>rfl
 refine anyS ps key ?_
 unfold zDh
 rw [if_neg (by simp)]
theorem zLz {c:List Pack} (hD:DCt c) {a:List Int} (pa:Places c a) (ha:a.length≤1000) (n1 n2:List ByteArray) (h1:n1.length≤1000) (h2:n2.length≤1000):∃r,vJ c a n1 n2=some r:=by
 unfold vJ zAx
 have key:∀i,(hi:i<a.length)→∃q:Bool,kT c a n1 n2 (i:Int)=some (if q then .done (.ret true) else .go ((i+1:Nat):Int)):=by
  intro i hi
  have hk:=pa _ (qE hi)
  obtain ⟨q1,q2⟩:=vU hk
  obtain ⟨m1,m2⟩:=(hD.2 _ q2).needs
  have in1:∀j,(hj:j< (pat c a[i]).Needs.length)→∃q:Bool,uR c a n1 n2 (i:Int) (pat c a[i]) (j:Int)=some (if q then .done (.ret true) else .go ((j+1:Nat):Int)):=by
   intro j hj
   have hl:=(m2 _ (qE hj)).1
   obtain ⟨r1,e1⟩:=zOR (pat c a[i]).Needs[j] n1 (by omega) h1
   obtain ⟨r2,e2⟩:=zOR (pat c a[i]).Needs[j] n2 (by omega) h2
   refine ⟨r1&&r2,?_⟩
   unfold uR
   rw [if_pos (by simp; omega),zL hj]
   simp only [qA,e1,e2]
   rw [zM (by omega)]
   cases r1<;>cases r2<;>rfl
  obtain ⟨t,e,ht⟩:=xO (b:=uR c a n1 n2 (i:Int) (pat c a[i])) (fun j s=>s=(j:Int)) (pat c a[i]).Needs.length (fun t=>t= .ret true∨t= .nxt ()) (by
   rintro j s hj rfl
   obtain ⟨q,e⟩:=in1 j hj
   rw [e]
   cases q
   ·exact .inl ⟨_,rfl,rfl⟩
   ·exact .inr ⟨_,rfl,.inl rfl⟩) (by
   rintro s rfl
   unfold uR
   rw [if_neg (by simp)]
   exact ⟨_,rfl,.inr rfl⟩) (pat c a[i]).Needs.length 0 0 (by omega) rfl
  have e:zA9 c a n1 n2 (i:Int) (pat c a[i]) 0=some t:=e
  unfold kT
  rw [if_pos (by simp; omega),zL hi]
  simp only [qA,q1,e]
  rw [zM (by omega)]
  rcases ht with rfl|rfl
  ·exact ⟨true,rfl⟩
  ·exact ⟨false,rfl⟩
 refine anyS a key ?_
 unfold kT
 rw [if_neg (by simp)]
theorem zQ3 {c:List Pack} (hD:DCt c) {a b:List Int} (pa:Places c a) (pb:Places c b) (ha:a.length≤1000) (hb:b.length≤1000) (x y:ByteArray):∃r,xP c a b x y=some r:=by
 obtain ⟨n1,e1,h1⟩:=zQ1 hD pa pb ha hb x
 obtain ⟨n2,e2,h2⟩:=zQ1 hD pa pb ha hb y
 obtain ⟨r1,e3⟩:=zRK hD pa pb ha hb x n2 h2
 obtain ⟨r2,e4⟩:=zRK hD pa pb ha hb y n1 h1
 obtain ⟨r3,e5⟩:=zLz hD pa ha n1 n2 h1 h2
 obtain ⟨r4,e6⟩:=zLz hD pb hb n1 n2 h1 h2
 unfold xP
 rw [e1,e2]
 simp only [qA,e3,e4,e5,e6]
 cases r1<;>cases r2<;>cases r3<;>exact ⟨_,rfl⟩
theorem zQg {c:List Pack} {a b:List Int} (h:Two c a b):∃l,zAG c a b=some l∧l.Pairwise ltS∧l.length≤24:=by
 have hc:=h.sml.len
 have la:=h.la
 have lb:=h.lb
 obtain ⟨l,e,h1,h2⟩:=xO (b:=zAp c a b) (fun i s=>s.2=(i:Int)∧s.1.Pairwise ltS∧s.1.length≤i) c.length (fun t=>t.Pairwise ltS∧t.length≤c.length) (by
  rintro i ⟨l,j⟩ hi ⟨hj,hs,hl⟩
  simp only at hj hs hl
  subst hj
  refine .inl ?_
  unfold zAp
  rw [if_pos (by simp; omega)]
  simp only
  rw [zL hi]
  simp only [qA]
  rw [zSi h.pa (by omega),zSi h.pb (by omega),zM (by omega)]
  simp only [qA]
  by_cases hne:zKS c a c[i].Name =zKS c b c[i].Name
  ·rw [if_neg (by simp [hne])]
   exact ⟨_,rfl,rfl,hs,by simp only; omega⟩
  ·rw [if_pos (by simp [hne])]
   obtain ⟨r,e1,e2,_,e4⟩:=zJ6 l c[i].Name hs (by omega)
   rw [e1]
   exact ⟨_,rfl,rfl,e2,by simp only; omega⟩) (by
  rintro ⟨l,j⟩ ⟨hj,hs,hl⟩
  simp only at hj hs hl
  subst hj
  unfold zAp
  rw [if_neg (by simp)]
  exact ⟨_,rfl,hs,hl⟩) c.length 0 (([]:List ByteArray),0) (by omega) ⟨rfl,by simp,by simp⟩
 have e:zAY c a b (([]:List ByteArray),0)=some l:=e
 unfold zAG
 rw [e]
 exact ⟨l,rfl,h1,by omega⟩
theorem zP1 {c:List Pack} (hD:DCt c) {a b:List Int} (h:Two c a b):∃bs ss,zCt c a b=some (bs,ss)∧ss.length≤576∧∀s∈ss,s.length≤25:=by
 have la:=h.la
 have lb:=h.lb
 obtain ⟨L,e,h1,h2⟩:=zQg h
 have hJ:∀x y,xP c a b x y=some ((xP c a b x y).getD false):=fun x y=>by
  obtain ⟨r,e⟩:=zQ3 hD h.pa h.pb (by omega) (by omega) x y
  rw [e]
  rfl
 have hp:zB2 c a b=some (zFx (fun x y=>(xP c a b x y).getD false) 24 L):=by
  unfold zB2
  rw [e]
  simp only [qA]
  rw [zGr hJ 24 _ _ h1 h2 (by simp; omega)]
  rfl
 generalize hps:zFx (fun x y=>(xP c a b x y).getD false) 24 L=ps at hp
 obtain ⟨q1,q2⟩:=zL3 (fun x y=>(xP c a b x y).getD false) 24 L
 have q3:=zHZ (K:=fun x y=>(xP c a b x y).getD false) 24 h1
 rw [hps] at q1 q2 q3
 have q2':∀P∈ps,P.length≤24:=fun P hP=>Nat.le_trans (q2 P hP) h2
 have hq:=zOu h q3 q2' ps.length (Nat.le_refl _)
 have hss:=zMH (c:=c) (a:=a) (b:=b) ps ps.length (Nat.le_refl _)
 rw [List.take_length] at hq hss
 have hcl:=hD.1
 exact ⟨_,_,zNP hD.cat h q1 q2' q3 hp,by omega,fun s hs=>Nat.le_trans (hss s hs) hcl⟩
structure Dw (d:zP) (k:Nat):Prop where
 len:d.Files.length≤k
 fil:∀f∈d.Files,f.Path.size≤100∧f.Data.length≤5000
theorem Dw.mono {d:zP} {k k':Nat} (h:Dw d k) (hk:k≤k'):Dw d k':=⟨Nat.le_trans h.len hk,h.fil⟩
theorem zQd (l:List Int):(b2s l).size =l.length:=by
 have key:∀(l:List Int) (a:ByteArray),(l.foldl (fun r n=>ByteArray.push r (UInt8.ofNat n.toNat)) a).size =a.size+l.length:=by
  intro l
  induction l with
  |nil=>intro a; rfl
  |cons x l ih=>
   intro a
   simp only [List.foldl_cons,List.length_cons]
   rw [ih,ByteArray.size_push]
   omega
 unfold b2s
 rw [key]
 simp
theorem zEE (s:ByteArray):(s2b s).length =s.size:=by
 unfold s2b
 rw [qC]
 rfl
theorem zSO (d:zP):∃q d',zEa d=some (q,d')∧d'.Files=d.Files:=by
 unfold zEa
 split
 ·exact ⟨_,_,rfl,rfl⟩
 ·obtain ⟨v,ev⟩:∃v,(if d.Stop !=(-1) then some (decide (d.Writes≥d.Stop)) else some false)=some v:=by split<;>exact ⟨_,rfl⟩
  rw [ev]
  simp only [qA]
  cases v<;>exact ⟨_,_,rfl,rfl⟩
theorem zRe (p:ByteArray) (x17:Bool×zP) (x20:List Int) (hl:x17.2.Files.length≤1048576):∃v:Nat,v≤x17.2.Files.length∧zFf p x17 x20 0=some (v:Int):=by
 obtain ⟨t,e,v,hv,rfl⟩:=xO (b:=zBI p x17 x20) (fun i s=>s=(i:Int)) x17.2.Files.length (fun t=>∃v:Nat,v≤x17.2.Files.length∧t=(v:Int)) (by
  rintro i s hi rfl
  unfold zBI
  rw [if_pos (by simp; omega),zL hi]
  simp only [qA]
  rw [zM (by omega)]
  cases slt x17.2.Files[i].Path p
  ·exact .inr ⟨_,rfl,i,by omega,rfl⟩
  ·exact .inl ⟨_,rfl,rfl⟩) (by
  rintro s rfl
  unfold zBI
  rw [if_neg (by simp)]
  exact ⟨_,rfl,_,Nat.le_refl _,rfl⟩) x17.2.Files.length 0 0 (by omega) rfl
 exact ⟨v,hv,e⟩
theorem zGt {d:zP} {k:Nat} (h:Dw d k) (hk:k≤1000) {p:ByteArray} (hp:p.size≤100) {x:List Int} (hx:x.length≤1048576):∃r,wD d p x=some r∧Dw r.2 (k+1):=by
 have hl:=h.len
 have hT:=zJY d (by omega) (fun f hf=>by have:=(h.fil f hf).2; omega)
 obtain ⟨q,d',eR,hF⟩:=zSO d
 obtain ⟨n,e,hn⟩:∃n:Int,uE d p=some n∧(n= -1∨∃j:Nat,j<d.Files.length∧n=(j:Int)):=by
  rcases zGT d p (by omega) with ⟨j,hj,e,_⟩|⟨e,_⟩
  ·exact ⟨_,e,.inr ⟨j,hj,rfl⟩⟩
  ·exact ⟨_,e,.inl rfl⟩
 obtain ⟨v,ev⟩:∃v:Int,(if decide (n≥0)=true then (idx d.Files n).bind fun x7=>some (x7.Data.length:Int) else some 0)=some v:=by
  rcases hn with rfl|⟨j,hj,rfl⟩
  ·exact ⟨0,rfl⟩
  ·rw [if_pos (by simp),zL hj]
   exact ⟨_,rfl⟩
 unfold wD
 rw [e]
 simp only [qA,ev]
 by_cases h4:(x.length:Int)>4000
 ·rw [if_pos (by simpa using h4)]
  exact ⟨_,rfl,h.mono (by omega)⟩
 rw [if_neg (by simpa using h4)]
 obtain ⟨m,em,hm⟩:∃m:Bool,(if decide (n<0)=true then some (decide ((d.Files.length:Int)≥120)) else some false)=some m∧(m=false→n= -1→d.Files.length<120):=by
  rcases hn with rfl|⟨j,hj,rfl⟩
  ·exact ⟨_,rfl,fun h _=>by have:=of_decide_eq_false h; omega⟩
  ·rw [if_neg (by simp)]
   exact ⟨false,rfl,fun _ h=>by omega⟩
 rw [em]
 simp only [qA]
 cases m
 case true=>exact ⟨_,rfl,h.mono (by omega)⟩
 have hm:=hm rfl
 simp only [qD,if_false,hT,qA]
 split
 ·exact ⟨_,rfl,h.mono (by omega)⟩
 rw [eR]
 simp only [qA]
 cases q
 ·exact ⟨_,rfl,⟨by show d'.Files.length≤_; rw [hF]; omega,fun f hf=>h.fil f (by rw [←hF]; exact hf)⟩⟩
 simp only [Bool.not_true,qD,if_false]
 rw [wY (by simp; omega) (by simp; omega)]
 simp only [qA,List.nil_append]
 rcases hn with rfl|⟨j,hj,rfl⟩
 ·have h120:=hm rfl
  obtain ⟨w,hw,ew⟩:=zRe p (true,d') x (by show d'.Files.length≤_; rw [hF]; omega)
  simp only at hw
  rw [hF] at hw
  rw [if_neg (by simp),ew]
  simp only [qA]
  have l1:zGp d'.Files 0 (w:Int)=some (d.Files.take w):=by
   rw [hF]
   have:=zFQ (xs:=d.Files) (l:=0) (h:=w) (by omega) hw
   simpa using this
  have l2:zGp d'.Files (w:Int) (d'.Files.length:Int)=some (d.Files.drop w):=by
   rw [hF]
   have:=zFQ (xs:=d.Files) (l:=w) (h:=d.Files.length) hw (Nat.le_refl _)
   rw [this,List.take_of_length_le (by simp)]
  rw [l1,l2]
  simp only [qA]
  rw [wY (by simp; omega) (by simp; omega)]
  simp only [qA]
  rw [wY (by simp; omega) (by simp; omega)]
  simp only [qA]
  rw [wY (by simp; omega) (by simp; omega)]
  refine ⟨_,rfl,⟨by simp; omega,fun f hf=>?_⟩⟩
  simp only [List.nil_append,qJ,qI] at hf
  rcases hf with (hf|hf)|hf
  ·exact h.fil f (List.mem_of_mem_take hf)
  ·subst hf; exact ⟨hp,by simp only; omega⟩
  ·exact h.fil f (List.mem_of_mem_drop hf)
 ·rw [if_pos (by simp),zL (show j<d'.Files.length by rw [hF]; exact hj)]
  refine ⟨_,rfl,⟨by simp only [List.length_set]; rw [hF]; omega,fun f hf=>?_⟩⟩
  rcases List.mem_or_eq_of_mem_set hf with hf|hf
  ·exact h.fil f (by rw [←hF]; exact hf)
  ·subst hf; exact ⟨hp,by simp only; omega⟩
theorem zS4 (n:Int) (hn:n∈[400,1000,200,20000]):∃r,zB4 n=some r∧Dw r.zP 3:=by
 have hB:0≤n∧n≤20000∧n≠0:=by
  simp only [qK,List.not_mem_nil,or_false] at hn
  omega
 have eE:vI n=some {Code:=0,zP:= {Files:=[],Budget:=n,Writes:=0,Stop:= -1,Down:=false}}:=by
  unfold vI
  rw [zH9]
  have:inB n 0 20000=true:=by unfold inB; simp [hB.1,hB.2.1]
  rw [this]
  rfl
 have h0:(n==0)=false:=by simpa using hB.2.2
 unfold zB4
 rw [eE,zGz]
 simp only [qA,bne_self_eq_false,qD,if_false,h0]
 refine ⟨_,rfl,⟨by simp,fun f hf=>?_⟩⟩
 have hg:(zQO 1).size ≤100:=by rw [zLv (by omega)]; decide
 have hi:inB 1 1 999999=true:=by decide
 simp only [hi,if_true,qK,List.not_mem_nil,or_false] at hf
 rcases hf with rfl|rfl|rfl
 ·exact ⟨show (bs [99,117,114]).size ≤100 by decide,by simp⟩
 ·exact ⟨hg,by simp⟩
 ·exact ⟨show (bs [114,111,111,116,115]).size ≤100 by decide,by simp⟩
theorem zRM (d:zP) (hl:d.Files.length≤1048576):∃n,zFj d=some n∧1≤n∧n≤1000000:=by
 unfold zFj
 rw [zJi d hl]
 have hgl:=zGn d.Files
 simp only [qA]
 by_cases h0:(zGN d.Files).length =0
 ·rw [h0]
  exact ⟨1,rfl,by decide,by decide⟩
 ·have hlt:(zGN d.Files).length -1< (zGN d.Files).length :=by omega
  have hm:=zLB (qE hlt)
  rw [if_neg (by simpa using h0),wC (x:=((zGN d.Files).length :Int)-1) (by omega) (by omega),show ((zGN d.Files).length :Int)-1=(((zGN d.Files).length -1:Nat):Int) by omega,zL hlt]
  simp only [qA]
  rw [wC (by omega) (by omega)]
  exact ⟨_,rfl,by omega,by omega⟩
theorem zSF (n:Int):∃p,wL n=some p∧p.size≤100:=by
 rw [zGz]
 refine ⟨_,rfl,?_⟩
 by_cases h:inB n 1 999999=true
 ·have:n≤999999:=by unfold inB at h; simp at h; omega
  rw [if_pos h,zLv this]
  decide
 ·rw [if_neg h]
  decide
theorem zR3 {c:List Pack} (hC:Cat c) (h0:CF c=0) {a:List Int} (hs:zG6 c a=true) {d:zP} {k:Nat} (h:Dw d k) (hk:k≤500) (now:Bool):∃r,zCs c d a now=some r∧Dw r (k+30):=by
 have hpk:=zHy h0
 obtain ⟨h24,hPF,_⟩:=zGS h0
 obtain ⟨_,hpl⟩:=zFm.1 hs
 have hal:=zG9 hs
 have hl:=h.len
 obtain ⟨n,en,n1,n2⟩:=zRM d (by omega)
 obtain ⟨t,e1,d1,rfl,hd1⟩:=xO (b:=zDK c a now n) (fun i s=>∃d':zP,s=(d'.Files,d'.Budget,d'.Writes,d'.Stop,d'.Down,(i:Int))∧Dw d' (k+i)) a.length (fun t=>∃d':zP,t=(d'.Files,d'.Budget,d'.Writes,d'.Stop,d'.Down)∧Dw d' (k+a.length)) (by
  rintro i s hi ⟨d',rfl,hd'⟩
  have hkp:=hpl _ (qE hi)
  obtain ⟨q1,q2⟩:=vU hkp
  obtain ⟨f1,f2,f3⟩:=zOo (hPF _ q2)
  have hsz:1≤(pat c a[i]).Size ∧(pat c a[i]).Size ≤200:=by unfold inB at f3; simp at f3; omega
  obtain ⟨r,er,hr⟩:=zGt hd' (by omega) (p:=zNn (pat c a[i])) (by have:=zNE f1 f2; omega) (x:=zNH (pat c a[i])) (by rw [zLx]; omega)
  have er:wD {Files:=d'.Files,Budget:=d'.Budget,Writes:=d'.Writes,Stop:=d'.Stop,Down:=d'.Down} (zNn (pat c a[i])) (zNH (pat c a[i]))=some r:=er
  refine .inl ?_
  unfold zDK
  simp only
  rw [if_pos (by simp; omega),zL hi]
  simp only [qA,q1]
  rw [zMw f1 f2,zL1 f1 f2 hsz]
  simp only [qA,er]
  rw [zM (by omega)]
  exact ⟨_,rfl,r.2,rfl,hr⟩) (by
  rintro s ⟨d',rfl,hd'⟩
  unfold zDK
  simp only
  rw [if_neg (by simp)]
  exact ⟨_,rfl,d',rfl,hd'⟩) a.length 0 (d.Files,d.Budget,d.Writes,d.Stop,d.Down,0) (by omega) ⟨d,rfl,h⟩
 have e1:zFS c a now n (d.Files,d.Budget,d.Writes,d.Stop,d.Down,0)=some (d1.Files,d1.Budget,d1.Writes,d1.Stop,d1.Down):=e1
 obtain ⟨p,ep,hp⟩:=zSF n
 obtain ⟨et,ht⟩:=zIN hpk hpl (by omega)
 obtain ⟨r,er,hr⟩:=zGt (d:= {Files:=d1.Files,Budget:=d1.Budget,Writes:=d1.Writes,Stop:=d1.Stop,Down:=d1.Down}) hd1 (by omega) hp (x:=s2b (zQ0 c a)) (by rw [zEE]; omega)
 obtain ⟨m,rfl⟩:=Int.eq_ofNat_of_zero_le (show 0≤n by omega)
 obtain ⟨s,es,hs2⟩:=zFy m (by omega)
 unfold zCs
 rw [en]
 simp only [qA]
 rw [e1,ep,et]
 simp only [qA,er]
 cases now
 ·exact ⟨_,rfl,hr.mono (by omega)⟩
 ·rw [es]
  simp only [qA,if_true]
  obtain ⟨r2,er2,hr2⟩:=zGt hr (by omega) (p:=bs [99,117,114]) (by decide) (x:=s2b s) (by rw [zEE,←zO,hs2]; have:=zGM 6 m (by omega); omega)
  rw [er2]
  exact ⟨_,rfl,hr2.mono (by omega)⟩
theorem zRR {b:Nat} {s:zC} (h:Sr b s) (hb:b≤100000):∃d s',zEd s=some (d,s')∧Dw d 200∧Sr (b+2000) s':=by
 obtain ⟨bu,s1,e1,hbu,h1⟩:=jO h (by omega) [100,40,1000,20000] (by simp)
 have hB:0≤bu∧bu≤20000:=by
  simp only [qK,List.not_mem_nil,or_false] at hbu
  omega
 have eE:vI bu=some {Code:=0,zP:= {Files:=[],Budget:=bu,Writes:=0,Stop:= -1,Down:=false}}:=by
  unfold vI
  rw [zH9]
  have:inB bu 0 20000=true:=by unfold inB; simp [hB.1,hB.2]
  rw [this]
  rfl
 obtain ⟨n,s2,e2,hn0,hn1,h2⟩:=wZ h1 (by omega) 6
 have hn6:=hn1 (by omega)
 obtain ⟨t,e3,d,s3,rfl,hd,h3⟩:=xO (b:=zCK) (fun i q=>∃(d:zP) (s':zC),q=(s'.Code,s'.At,d.Files,d.Budget,d.Writes,d.Stop,d.Down,n-(i:Int))∧Dw d i∧Sr (b+2+25*i) s') n.toNat
  (fun t=>∃(d:zP) (s':zC),t=(s'.Code,s'.At,d.Files,d.Budget,d.Writes,d.Stop,d.Down)∧Dw d n.toNat∧Sr (b+2+25*n.toNat) s') (by
  rintro i q hi ⟨d,s',rfl,hd,hs⟩
  unfold zCK
  simp only
  rw [if_pos (by simp; omega)]
  obtain ⟨p,u1,f1,hp,g1⟩:=zLM hs (by omega)
  obtain ⟨m,u2,f2,hm0,hm1,g2⟩:=wZ g1 (by omega) 20
  obtain ⟨x,u3,f3,hx,g3⟩:=some_spec g2 m (by have:=hm1 (by omega); omega) (by omega)
  have hm:=hm1 (by omega)
  obtain ⟨r,f4,hr⟩:=zGt hd (by omega) (p:=p) (by have:=hp.2.1; omega) (x:=x) (by omega)
  have f1':zAO {Code:=s'.Code,At:=s'.At}=some (p,u1):=f1
  have f4':wD {Files:=d.Files,Budget:=d.Budget,Writes:=d.Writes,Stop:=d.Stop,Down:=d.Down} p x=some r:=f4
  rw [f1']
  simp only [qA,f2,f3,f4']
  rw [wC (x:=n-(i:Int)-1) (by omega) (by omega)]
  refine .inl ⟨_,rfl,r.2,u3,by rw [show n-(i:Int)-1=n-((i+1:Nat):Int) by omega],hr,?_⟩
  exact g3.mono (by omega)) (by
  rintro q ⟨d,s',rfl,hd,hs⟩
  unfold zCK
  simp only
  rw [if_neg (by simp; omega)]
  exact ⟨_,rfl,d,s',rfl,hd,hs⟩) n.toNat 0 (s2.Code,s2.At,[],bu,0,-1,false,n) (by omega) ⟨{Files:=[],Budget:=bu,Writes:=0,Stop:= -1,Down:=false},s2,by simp,⟨by simp,by simp⟩,by simpa using h2⟩
 have h3:=h3.mono (b':=b+200) (by omega)
 obtain ⟨st,s4,e4,hst,h4⟩:=jO (s:= {Code:=s3.Code,At:=s3.At}) h3 (by omega) [-1,-1,-1,d.Writes,w64 (d.Writes+1),0] (by simp)
 obtain ⟨q,s5,e5,h5⟩:=xY h4 (by omega) 10
 obtain ⟨v,s6,e6,_,_,h6⟩:=wZ h5 (by omega) 30
 unfold zEd
 have e3':zD4 (s2.Code,s2.At,[],bu,0,-1,false,n)=some (s3.Code,s3.At,d.Files,d.Budget,d.Writes,d.Stop,d.Down):=e3
 rw [e1]
 simp only [qA,eE,e2,e3',e4,e5,e6]
 have hfin:∀(dn:Bool) (fs:List File) (bu' wr' st':Int) (s':zC),fs.length≤200→(∀f∈fs,f.Path.size≤100∧f.Data.length≤5000)→Sr (b+2000) s'→
   ∃(d:zP) (s'':zC),(some (({Files:=fs,Budget:=bu',Writes:=wr',Stop:=st',Down:=dn}:zP),({Code:=s'.Code,At:=s'.At}:zC)):Option (zP×zC))=some (d,s'')∧Dw d 200∧Sr (b+2000) s'':=
  fun dn fs bu' wr' st' s' hl hf hs=>⟨_,_,rfl,⟨hl,hf⟩,hs⟩
 have hdl:d.Files.length≤6:=by have:=hd.len; omega
 have hdf:=hd.fil
 obtain ⟨dn,eq⟩:∃dn:Bool,(if q=true then some true else some d.Down)=some dn:=by cases q<;>exact ⟨_,rfl⟩
 rw [eq]
 simp only [qA]
 by_cases v0:(v==0)=true
 ·obtain ⟨y,s7,e7,hy,h7⟩:=jO h6 (by omega) [-1,0,5,20001] (by simp)
  rw [if_pos v0,e7]
  exact hfin dn d.Files y d.Writes st s7 (by omega) hdf (h7.mono (by omega))
 rw [if_neg v0]
 by_cases v1:(v==1)=true
 ·obtain ⟨y,s7,e7,hy,h7⟩:=jO h6 (by omega) [-1,1000000001] (by simp)
  rw [if_pos v1,e7]
  exact hfin dn d.Files d.Budget y st s7 (by omega) hdf (h7.mono (by omega))
 rw [if_neg v1]
 by_cases v2:(v==2)=true
 ·obtain ⟨y,s7,e7,hy,h7⟩:=jO h6 (by omega) [-2,1000000001] (by simp)
  rw [if_pos v2,e7]
  exact hfin dn d.Files d.Budget d.Writes y s7 (by omega) hdf (h7.mono (by omega))
 rw [if_neg v2]
 by_cases v3:(v==3)=true
 ·obtain ⟨p,s7,e7,hp,h7⟩:=zKP h6 (by omega)
  obtain ⟨x,s8,e8,hx,h8⟩:=some_spec h7 3 (by omega) (by omega)
  have h33:(3:Int).toNat =3:=rfl
  rw [if_pos v3,e7]
  simp only [qA,e8]
  rw [jP (by omega) (by simp) (by decide)]
  refine hfin dn _ d.Budget d.Writes st s8 (by simp; omega) (fun f hf=>?_) (h8.mono (by omega))
  rcases List.mem_append.1 hf with hf|hf
  ·exact hdf f hf
  ·rw [List.mem_singleton.1 hf]
   exact ⟨hp,by simp only; omega⟩
 rw [if_neg v3]
 by_cases v4:(v==4)=true
 ·have em:=zQ5 (z:=40) (n:=121) (x:=({Path:=ByteArray.empty,Data:=([]:List Int)}:File)) (by decide) (by decide)
  have em:mk 40 121 ({Path:=ByteArray.empty,Data:=([]:List Int)}:File)=_:=em
  rw [if_pos v4,em]
  refine hfin dn _ d.Budget d.Writes st s6 (by simp) (fun f hf=>?_) (h6.mono (by omega))
  rw [List.eq_of_mem_replicate hf]
  exact ⟨by decide,by decide⟩
 rw [if_neg v4]
 by_cases v5:(v==5)=true
 ·obtain ⟨m,s7,e7,hm0,hm1,h7⟩:=wZ h6 (by omega) 2
  have hm:=hm1 (by omega)
  rw [if_pos v5,e7]
  simp only [qA]
  rw [wC (x:=4000+m) (by omega) (by omega)]
  have em:mk 1 (4000+m) (0:Int)=some (List.replicate (4000+m).toNat 0):=by
   unfold mk
   rw [if_pos ⟨by omega,by omega,by omega⟩]
  rw [em]
  refine hfin dn _ 20000 d.Writes st s7 (by simp) (fun f hf=>?_) (h7.mono (by omega))
  rw [List.mem_singleton.1 hf]
  exact ⟨by show (bs [97]).size ≤_; decide,by simp only [List.length_replicate]; omega⟩
 rw [if_neg v5]
 exact hfin dn d.Files d.Budget d.Writes st s6 (by omega) hdf (h6.mono (by omega))
theorem zRb {n:ByteArray} (h:NF n=0):TF (zR9 n)=0:=by
 unfold TF zR9
 rw [if_neg (by simp [h])]
 rfl
theorem zPi {d:zP} {k:Nat} (h:Dw d k) (hk:k≤1000):∃n,zAI d=some n:=by
 have hl:=h.len
 have hgl:=zGn d.Files
 unfold zAI
 rcases zGT d (bs [99,117,114]) (by omega) with ⟨j,hj,e,_⟩|⟨e,_⟩
 ·rw [e]
  simp only [qA]
  rw [if_neg (by simp),zL hj]
  simp only [qA]
  rw [zGU _ 6 (by omega),zJi d (by omega)]
  simp only [qA]
  rw [zFa _ _ (by omega)]
  cases zKp (bl (b2s d.Files[j].Data)) 6 with
  |none=>exact ⟨_,rfl⟩
  |some v=>
   simp only [Bool.not_true,qD,if_false,qA]
   split<;>exact ⟨_,rfl⟩
 ·rw [e]
  exact ⟨_,rfl⟩
theorem zSs {c:List Pack} (hc:c.length≤1048576) {d:zP} {k:Nat} (h:Dw d k) (hk:k≤1000) (n:Int):∃r,zEC c d n=some r∧r.Set.Pairwise (· < ·)∧Places c r.Set:=by
 have hl:=h.len
 have hgl:=zGn d.Files
 have hno:∀q w:Int,([]:List Int).Pairwise (· < ·)∧Places c ([]:List Int):=fun _ _=>⟨by simp,by intro k hk; simp at hk⟩
 unfold zEC
 rw [zJi d (by omega)]
 simp only [qA]
 rw [zFa _ _ (by omega)]
 simp only [qA]
 by_cases hm:n∈zGN d.Files
 ·obtain ⟨⟨f,hf,hfp⟩,_,_⟩:=zOq hm
  have hg:=(zLB hm)
  have hin:inB n 1 999999=true:=by unfold inB; simp; omega
  rw [if_neg (by simpa using hm),zGz,hin]
  simp only [qA,if_true]
  rcases zGT d (zQO n) (by omega) with ⟨j,hj,e,_⟩|⟨_,hno2⟩
  ·have hd:=(h.fil _ (qE hj)).2
   rw [e]
   simp only [qA]
   rw [zL hj]
   simp only [qA]
   rw [zLG hc _ (by rw [zQd]; omega)]
   simp only [qA]
   rcases zQb c (b2s d.Files[j].Data) with ⟨q,q2⟩|⟨q,_,q3,q4⟩
   ·have:((PS c (b2s d.Files[j].Data)).Code !=0)=true:=by rcases q with q|q<;>rw [q]<;>rfl
    rw [this]
    exact ⟨_,rfl,(hno 0 0).1,(hno 0 0).2⟩
   ·have:((PS c (b2s d.Files[j].Data)).Code !=0)=false:=by rw [q]; rfl
    rw [this]
    exact ⟨_,rfl,q3,q4⟩
  ·exact absurd hfp (hno2 f hf)
 ·rw [if_pos (by simpa using hm)]
  exact ⟨_,rfl,(hno 0 0).1,(hno 0 0).2⟩
theorem zQN {c:List Pack} (hc:c.length≤1048576) {d:zP} {k:Nat} (h:Dw d k) (hk:k≤1000):∃r,zCL c d=some r∧r.Set.Pairwise (· < ·)∧Places c r.Set:=by
 obtain ⟨n,e⟩:=zPi h hk
 obtain ⟨r,e2,h1,h2⟩:=zSs hc h hk n
 unfold zCL
 rw [e]
 simp only [qA,e2]
 exact ⟨r,rfl,h1,h2⟩
theorem zQS {c:List Pack} (hD:DCt c) {d:zP} {k:Nat} (h:Dw d k) (hk:k≤1000) {b:Nat} {s:zC} (hs:Sr b s) (hb:b+10000≤1000000000):∃ss s',zDV s c d=some (ss,s')∧ss.length≤600∧(∀a∈ss,a.length≤60)∧Sr (b+1000) s':=by
 have hC:=hD.cat
 have hcl:=hD.1
 have hdl:=h.len
 obtain ⟨q,eq,_⟩:=zJP d (by omega)
 unfold zDV
 rw [zNY hC q eq]
 simp only [qA]
 by_cases hz:(if CF c !=0 then CF c else q)=0
 ·have h0:CF c=0:=by
   split at hz
   ·exact hz
   ·rename_i hq; simpa using hq
  rw [if_neg (by simpa using hz)]
  obtain ⟨r,e1,p1,p2⟩:=zQN hC.1 h hk
  obtain ⟨l,s1,e2,hl,h1⟩:=zKU hs (by omega) hcl
  have hrl:r.Set.length≤c.length:=zG9 (zFm.2 ⟨p1,p2⟩)
  obtain ⟨r2,e3,u1,u2,u3⟩:=zH8 hC hcl (asks:=l) (by omega) (lk:=r.Set) (by omega)
  have hr2l:r2.Set.length≤c.length:=zG9 (zFm.2 ⟨u1,u2⟩)
  rw [e1]
  simp only [qA,e2,e3]
  obtain ⟨v,ev⟩:∃v,(if r.Code !=0 then some true else if r2.Code !=0 then some true else (kQ c r.Set).bind fun x15=>some (!x15))=some v:=by
   rw [zIS hC p2 (by omega)]
   split
   ·exact ⟨_,rfl⟩
   ·split<;>exact ⟨_,rfl⟩
  rw [ev]
  simp only [qA]
  cases v
  case true=>exact ⟨_,s1,rfl,by simp,by simp,h1.mono (by omega)⟩
  have hSm:=Sml.of h0
  have h24:=hSm.len
  obtain ⟨bs,ss,e4,k1,k2⟩:=zP1 hD (a:=r.Set) (b:=r2.Set) ⟨hSm,p2,u2,p1,u1,by omega,by omega⟩
  simp only [qD,if_false]
  rw [e4]
  simp only [qA]
  obtain ⟨w,s2,e5,hw,h2⟩:∃(w:Bool) (s2:zC),(if decide ((ss.length:Int)>0)=true then (zI s1 8).bind fun x22=>some (x22.2.Code,x22.2.At,x22.1) else some (s1.Code,s1.At,false))=some (s2.Code,s2.At,w)∧(w=true→0<ss.length)∧Sr (b+20) s2:=by
   by_cases hp:((ss.length:Int)>0)
   ·obtain ⟨w,s2,f,g⟩:=xY h1 (by omega) 8
    rw [if_pos (by simpa using hp),f]
    exact ⟨w,s2,rfl,fun _=>by omega,g.mono (by omega)⟩
   ·rw [if_neg (by simpa using hp)]
    exact ⟨false,s1,rfl,(fun h=>by cases h),h1.mono (by omega)⟩
  rw [e5]
  simp only [qA]
  cases w
  ·exact ⟨ss,s2,rfl,by omega,fun a ha=>by have:=k2 a ha; omega,h2.mono (by omega)⟩
  ·have hp:=hw rfl
   obtain ⟨a,s3,e6,ha,h3⟩:=zHY (s:= {Code:=s2.Code,At:=s2.At}) h2 (by omega) hC hcl
   simp only [if_true]
   rw [show (0:Int)=((0:Nat):Int) from rfl,zL hp]
   simp only [qA,e6]
   rw [wY (by simp; omega) (by simp; omega)]
   refine ⟨_,s3,rfl,by simp; omega,fun z hz=>?_,h3.mono (by omega)⟩
   rcases List.mem_append.1 hz with hz|hz
   ·have:=k2 z hz; omega
   ·simp only [qK,List.not_mem_nil,or_false] at hz
    rcases hz with rfl|rfl
    ·have:=k2 _ (qE hp); omega
    ·omega
 ·rw [if_pos (by simpa using hz)]
  exact ⟨_,s,rfl,by simp,by simp,hs.mono (by omega)⟩
theorem zNo {b:Nat} {s:zC} (h:Sr b s) (hb:b+20000≤100000):∃c d s',zDS s=some (c,d,s')∧DCt c∧Dw d 300∧Sr (b+10000) s':=by
 obtain ⟨c,x,y,s1,e1,hD,hx,hy,h1⟩:=zOx h (by omega)
 have hC:=hD.cat
 have hcl:=hD.1
 obtain ⟨n,s2,e2,hn,h2⟩:=jO h1 (by omega) [400,1000,200,20000] (by simp)
 obtain ⟨r,e3,hr⟩:=zS4 n hn
 generalize hd0:r.zP=d0 at hr
 obtain ⟨v,ev,hv⟩:∃v,(if (CF c==0)=true then (jD c x).bind fun x11=>if x11=true then (jD c y).bind fun x14=>some x14 else some false else some false)=some v∧(v=true→CF c=0∧zG6 c x=true∧zG6 c y=true):=by
  rw [zHG hC.1 (by omega),zHG hC.1 (by omega)]
  cases h0:CF c==0
  ·exact ⟨false,rfl,fun h=>by cases h⟩
  ·cases h1:zG6 c x
   ·exact ⟨false,rfl,fun h=>by cases h⟩
   ·exact ⟨zG6 c y,rfl,fun h=>⟨by simpa using h0,rfl,h⟩⟩
 have key1:∃(d:zP) (s':zC),(if v=true then
   ((zI s2 2).bind fun x18=>
   (if x18.1 then
     ((zCs c d0 x true).bind fun x21=>
     some (x21.Files,x21.Budget,x21.Writes,x21.Stop,x21.Down))
    else
     (some (d0.Files,d0.Budget,d0.Writes,d0.Stop,d0.Down))).bind fun v23=>
   (zI x18.2 2).bind fun x24=>
   (if x24.1 then
     ((zI x24.2 2).bind fun x27=>
     (zCs c ({Files:=v23.1,Budget:=v23.2.1,Writes:=v23.2.2.1,Stop:=v23.2.2.2.1,Down:=v23.2.2.2.2}:zP) y x27.1).bind fun x29=>
     some (x27.2.Code,x27.2.At,x29.Files,x29.Budget,x29.Writes,x29.Stop,x29.Down))
    else
     (some (x24.2.Code,x24.2.At,v23.1,v23.2.1,v23.2.2.1,v23.2.2.2.1,v23.2.2.2.2))).bind fun v31=>
   (zI ({Code:=v31.1,At:=v31.2.1}:zC) 3).bind fun x32=>
   if x32.1 then
    ((vP x32.2 c).bind fun x35=>
    (zAH x35.1).bind fun x37=>
    (wD ({Files:=v31.2.2.1,Budget:=v31.2.2.2.1,Writes:=v31.2.2.2.2.1,Stop:=v31.2.2.2.2.2.1,Down:=v31.2.2.2.2.2.2}:zP) (bs [114,111,111,116,115]) (s2b x37)).bind fun x39=>
    some (x35.2.Code,x35.2.At,x39.2.Files,x39.2.Budget,x39.2.Writes,x39.2.Stop,x39.2.Down))
   else
    (some (x32.2.Code,x32.2.At,v31.2.2.1,v31.2.2.2.1,v31.2.2.2.2.1,v31.2.2.2.2.2.1,v31.2.2.2.2.2.2)))
  else
   (some (s2.Code,s2.At,d0.Files,d0.Budget,d0.Writes,d0.Stop,d0.Down)))=some (s'.Code,s'.At,d.Files,d.Budget,d.Writes,d.Stop,d.Down)∧Dw d 80∧Sr (b+6000) s':=by
  cases v
  case false=>exact ⟨d0,s2,rfl,hr.mono (by omega),h2.mono (by omega)⟩
  obtain ⟨h0,hsx,hsy⟩:=hv rfl
  obtain ⟨q,s3,f1,g1⟩:=xY h2 (by omega) 2
  obtain ⟨d1,f2,k1⟩:∃d1:zP,(if q=true then (zCs c d0 x true).bind fun x21=>some (x21.Files,x21.Budget,x21.Writes,x21.Stop,x21.Down) else some (d0.Files,d0.Budget,d0.Writes,d0.Stop,d0.Down))=some (d1.Files,d1.Budget,d1.Writes,d1.Stop,d1.Down)∧Dw d1 33:=by
   cases q
   ·exact ⟨d0,rfl,hr.mono (by omega)⟩
   ·obtain ⟨d1,f,k⟩:=zR3 hC h0 hsx hr (by omega) true
    rw [if_pos rfl,f]
    exact ⟨d1,rfl,k⟩
  obtain ⟨q2,s4,f3,g3⟩:=xY g1 (by omega) 2
  obtain ⟨d2,s5,f4,k2,g4⟩:∃(d2:zP) (s5:zC),(if q2=true then (zI s4 2).bind fun x27=>(zCs c {Files:=d1.Files,Budget:=d1.Budget,Writes:=d1.Writes,Stop:=d1.Stop,Down:=d1.Down} y x27.1).bind fun x29=>some (x27.2.Code,x27.2.At,x29.Files,x29.Budget,x29.Writes,x29.Stop,x29.Down) else some (s4.Code,s4.At,d1.Files,d1.Budget,d1.Writes,d1.Stop,d1.Down))=some (s5.Code,s5.At,d2.Files,d2.Budget,d2.Writes,d2.Stop,d2.Down)∧Dw d2 63∧Sr (b+5010) s5:=by
   cases q2
   ·exact ⟨d1,s4,rfl,k1.mono (by omega),g3.mono (by omega)⟩
   ·obtain ⟨q3,s5,f,g⟩:=xY g3 (by omega) 2
    obtain ⟨d2,f',k⟩:=zR3 hC h0 hsy (d:= {Files:=d1.Files,Budget:=d1.Budget,Writes:=d1.Writes,Stop:=d1.Stop,Down:=d1.Down}) k1 (by omega) q3
    rw [if_pos rfl,f]
    simp only [qA,f']
    exact ⟨d2,s5,rfl,k,g.mono (by omega)⟩
  obtain ⟨q3,s6,f5,g5⟩:=xY (s:= {Code:=s5.Code,At:=s5.At}) g4 (by omega) 3
  rw [if_pos rfl,f1]
  simp only [qA,f2,f3,f4,f5]
  cases q3
  ·exact ⟨d2,s6,rfl,k2.mono (by omega),g5.mono (by omega)⟩
  ·obtain ⟨l,s7,f6,hl,g6,ht⟩:=zLT g5 (by omega) hcl
   have hTF:∀t∈l,TF t=0:=fun t hq=>by
    obtain ⟨p,hp,rfl⟩:=ht t hq
    exact zRb (zHy h0 p hp).1
   have hsz:=zEF zJJ 38 l (fun t ht=>zG2 (hTF t ht)) (bs [])
   have hz:(bs []).size =0:=rfl
   obtain ⟨w,f7,k3⟩:=zGt (d:= {Files:=d2.Files,Budget:=d2.Budget,Writes:=d2.Writes,Stop:=d2.Stop,Down:=d2.Down}) k2 (by omega) (p:=bs [114,111,111,116,115]) (by decide) (x:=s2b (zFE l)) (by rw [zEE]; show (zEn zJJ (bs []) l).size ≤_; omega)
   rw [if_pos rfl,f6]
   simp only [qA]
   rw [zJ9 l (by omega) hTF]
   simp only [qA,f7]
   exact ⟨w.2,s7,rfl,k3.mono (by omega),g6.mono (by omega)⟩
 obtain ⟨d,s3,e4,hd,h3⟩:=key1
 obtain ⟨m,s4,e5,_,_,h4⟩:=wZ (s:= {Code:=s3.Code,At:=s3.At}) h3 (by omega) 20
 have hd':Dw {Files:=d.Files,Budget:=d.Budget,Writes:=0,Stop:=d.Stop,Down:=d.Down} 80:=⟨hd.len,hd.fil⟩
 have texts:∀(l:List ByteArray) (k:Int) (p:ByteArray),k=(l.length:Int)→l≠[]→(∀z∈l,z.size≤1000)→p.size≤100→∃(d':zP) (s':zC),((zH s4 k).bind fun x45=>(idx l x45.1).bind fun x47=>(wD ({Files:=d.Files,Budget:=d.Budget,Writes:=0,Stop:=d.Stop,Down:=d.Down}:zP) p (s2b x47)).bind fun x49=>some (x45.2.Code,x45.2.At,x49.2.Files,x49.2.Budget,x49.2.Writes,x49.2.Stop,x49.2.Down))=some (s'.Code,s'.At,d'.Files,d'.Budget,d'.Writes,d'.Stop,d'.Down)∧Dw d' 300∧Sr (b+10000) s':=by
  intro l k p hk hl hz hp
  obtain ⟨r,s',x,f1,f2,hx,g⟩:=at_next h4 (by omega) hk hl
  obtain ⟨w,f3,k3⟩:=zGt hd' (by omega) hp (x:=s2b x) (by rw [zEE]; have:=hz x hx; omega)
  rw [f1]
  simp only [qA,f2,f3]
  exact ⟨w.2,s',rfl,k3.mono (by omega),g.mono (by omega)⟩
 unfold zDS
 rw [e1]
 simp only [qA]
 rw [e2]
 simp only [qA]
 rw [e3]
 simp only [qA]
 rw [uQ c hC]
 simp only [qA]
 rw [ev]
 simp only [qA,hd0]
 rw [e4]
 simp only [qA]
 rw [e5]
 simp only [qA]
 have fin:∀{o:Option (List Int×Int×List File×Int×Int×Int×Bool)},(∃(d':zP) (s':zC),o=some (s'.Code,s'.At,d'.Files,d'.Budget,d'.Writes,d'.Stop,d'.Down)∧Dw d' 300∧Sr (b+10000) s')→
   ∃(c':List Pack) (d':zP) (s':zC),(o.bind fun v78=>some (c,({Files:=v78.2.2.1,Budget:=v78.2.2.2.1,Writes:=v78.2.2.2.2.1,Stop:=v78.2.2.2.2.2.1,Down:=v78.2.2.2.2.2.2}:zP),({Code:=v78.1,At:=v78.2.1}:zC)))=some (c',d',s')∧DCt c'∧Dw d' 300∧Sr (b+10000) s':=by
  rintro o ⟨d',s',rfl,k,g⟩
  exact ⟨c,d',s',rfl,hD,k,g⟩
 refine fin ?_
 by_cases c0:(m==0)=true
 ·rw [if_pos c0]
  exact texts [bs [],bs [55],bs [120],bs [48,48,48,48,48,49],bs [49,48,48,48,48,48,48]] 5 (bs [99,117,114]) rfl (by simp) (by decide) (by decide)
 rw [if_neg c0]
 by_cases c1:(m==1)=true
 ·rw [if_pos c1]
  exact texts [bs [122,122,32,49,10],bs [97,32,49,10,97,32,49,10],bs [97,10]] 3 (bs [103,101,110,47,48,48,48,48,48,57]) rfl (by simp) (by decide) (by decide)
 rw [if_neg c1]
 by_cases c2:(m==2)=true
 ·obtain ⟨w,f3,k3⟩:=zGt hd' (by omega) (p:=bs [103,101,110,47,57]) (by decide) (x:=[120]) (by simp)
  rw [if_pos c2,f3]
  exact ⟨w.2,s4,rfl,k3.mono (by omega),h4.mono (by omega)⟩
 rw [if_neg c2]
 by_cases c3:(m==3)=true
 ·rw [if_pos c3]
  exact texts [bs [97],bs [97,10,97,62,61,49,10],bs [97,62,61,49,10],bs [10],bs [97,32,10]] 5 (bs [114,111,111,116,115]) rfl (by simp) (by decide) (by decide)
 rw [if_neg c3]
 by_cases c4:(m==4)=true
 ·obtain ⟨d2,s5,f,k,g⟩:=zRR h4 (by omega)
  rw [if_pos c4,f]
  exact ⟨d2,s5,rfl,k.mono (by omega),g.mono (by omega)⟩
 rw [if_neg c4]
 by_cases c5:(m==5)=true
 ·rw [if_pos c5]
  by_cases hp:((d.Files.length:Int)>0)
  ·have hdl:=hd.len
   have hlt:d.Files.length-1≤d.Files.length:=by omega
   have l1:zGp d.Files 0 ((d.Files.length-1:Nat):Int)=some (d.Files.take (d.Files.length-1)):=by
    have:=zFQ (xs:=d.Files) (l:=0) (h:=d.Files.length-1) (by omega) hlt
    simpa using this
   rw [if_pos (by simpa using hp),wC (x:=(d.Files.length:Int)-1) (by omega) (by omega),show (d.Files.length:Int)-1=((d.Files.length-1:Nat):Int) by omega,l1]
   exact ⟨{Files:=d.Files.take (d.Files.length-1),Budget:=d.Budget,Writes:=0,Stop:=d.Stop,Down:=d.Down},s4,rfl,⟨by simp; omega,fun f hf=>hd.fil f (List.mem_of_mem_take hf)⟩,h4.mono (by omega)⟩
  ·rw [if_neg (by simpa using hp)]
   exact ⟨_,s4,rfl,hd'.mono (by omega),h4.mono (by omega)⟩
 rw [if_neg c5]
 by_cases c6:(m==6)=true
 ·obtain ⟨w,f3,k3⟩:=zGt hd' (by omega) (p:=bs [103,101,110,47,57,57,57,57,57,57]) (by decide) (x:=[]) (by simp)
  rw [if_pos c6,f3]
  exact ⟨w.2,s4,rfl,k3.mono (by omega),h4.mono (by omega)⟩
 rw [if_neg c6]
 exact ⟨_,s4,rfl,hd'.mono (by omega),h4.mono (by omega)⟩
theorem zKz {a:List Int} {s:zC} (e0:zB5 a=some s) (h:Sr 0 s):∃c asks sets,vT a=some (c,asks,sets)∧DCt c∧asks.length≤4∧(∀t∈asks,t.Name.size≤20)∧sets.length≤600∧∀z∈sets,z.length≤60:=by
 obtain ⟨c,d,s1,e1,hD,hd,h1⟩:=zNo h (by omega)
 obtain ⟨ss,s2,e2,k1,k2,h2⟩:=zQS hD hd (by omega) h1 (by omega)
 obtain ⟨l,s3,e3,hl,hn,_⟩:=zOt h2 (by omega)
 unfold vT
 rw [e0]
 simp only [qA]
 rw [e1]
 simp only [qA]
 rw [e2]
 simp only [qA,e3]
 exact ⟨c,l,ss,rfl,hD,hl,hn,k1,k2⟩
def zEU:ByteArray:=bs [114,111,111,116,32]
def zGb:ByteArray:=bs [115,116,101,112]
def zFR (t:Term):ByteArray:=zEU++zFb t
def zFk (c:List Pack) (k:Int):ByteArray:=(pat c k).Name ++(bs [32]++zGQ (pat c k).Version)
def zAS (c:List Pack) (l:List Term) (ss:List (List Int)):List ByteArray:=l.map zFR++ss.flatMap (fun a=>zGb::a.map (zFk c))
theorem zI8 {α:Type} (f:α→ByteArray):∀(l:List α) (a:ByteArray),bl (zEn f a l)=bl a++l.flatMap (fun t=>bl (f t))
 |[],a=>by simp [zEn]
 |x::l,a=>by
  have ih:=zI8 f l (a++f x)
  show bl (zEn f (a++f x) l)=_
  rw [ih,xE]
  simp
theorem zJ5 (c:List Pack) (l:List Term) (ss:List (List Int)):zGa c l ss=zEn (fun t=>id t++bs [10]) (bs []) (zAS c l ss):=by
 refine zEX.1 ?_
 have h10:bl (bs [10])=[10]:=zFs _
 have hst:bl (bs [115,116,101,112,10])=bl zGb++[10]:=by unfold zGb; rw [zFs,zFs]; rfl
 have e1:∀t,bl (zE2 t)=bl (zFR t)++[10]:=by
  intro t
  unfold zE2 zFR zEU
  rw [xE,xE,xE,h10,List.append_assoc]
 have e2:∀k,bl (zGZ c k)=bl (zFk c k)++[10]:=by
  intro k
  unfold zGZ zHu zFk
  simp only [xE,h10,List.append_assoc]
 have e3:∀a,bl (zEM c a)=(bl zGb++[10])++a.flatMap (fun k=>bl (zFk c k)++[10]):=by
  intro a
  unfold zEM zQ0
  rw [xE,hst,zI8,zFl,List.nil_append]
  congr 1
  exact congrArg (fun g=>List.flatMap g a) (funext fun k=>e2 k)
 unfold zGa zAS
 rw [zI8,zI8,zI5,zFl,List.flatMap_append]
 simp only [List.nil_append,id]
 congr 1
 ·rw [List.flatMap_map]
  exact congrArg (fun g=>List.flatMap g l) (funext fun t=>e1 t)
 ·rw [List.flatMap_assoc]
  refine congrArg (fun g=>List.flatMap g ss) (funext fun a=>?_)
  rw [e3,List.flatMap_cons,List.flatMap_map]
structure Fair (c:List Pack):Prop where
 names:∀p∈c,NF p.Name=0
 vers:∀p∈c,VF p.Version=0
 noRoot:∀p∈c,p.Name≠zHj
theorem zQp {p:ByteArray} (h:NF p=0):(32:Int)∉bl p:=fun hm=>zO1 (zIw h _ hm) (by omega) rfl
theorem zS7 (v:Version):(32:Int)∉bl (zGQ v):=fun hm=>by
 rcases zHz v _ hm with h|h
 ·exact zLq h (.inl (by omega)) rfl
 ·omega
theorem zSt (v:Version):(10:Int)∉bl (zGQ v):=fun hm=>by
 rcases zHz v _ hm with h|h
 ·exact zLq h (.inl (by omega)) rfl
 ·omega
theorem zI0 (c:List Pack) (k:Int):bl (zFk c k)=bl (pat c k).Name ++32::bl (zGQ (pat c k).Version):=by
 unfold zFk
 rw [xE,xE,zFs]
 rfl
theorem zII (t:Term):begins (zFR t) zEU=true∧(zFR t).extract zEU.size (zFR t).size =zFb t:=by
 have h:=zEH (a:=zEU) (b:=zFb t)
 refine ⟨?_,h.2⟩
 unfold begins zFR
 rw [h.1,zDM,xS]
 simp
theorem zIK:begins zGb zEU=false:=by
 unfold begins zGb zEU
 rfl
theorem zLW {c:List Pack} (hf:Fair c) {k:Int} (hk:0≤k∧k<c.length):begins (zFk c k) zEU=false:=by
 obtain ⟨_,q⟩:=vU hk
 cases h:begins (zFk c k) zEU with
 |false=>rfl
 |true=>
  exfalso
  obtain ⟨h1,_⟩:=zJk h
  have hr:bl zEU=bl zHj++[32]:=by unfold zEU zHj; rw [zFs,zFs]; rfl
  have hrn:(32:Int)∉bl zHj:=by unfold zHj; rw [zFs]; decide
  obtain ⟨r,e⟩:∃r,bl (zFk c k)=bl zHj++32::r:=by
   have h3:=List.take_append_drop (bl zEU).length (bl (zFk c k))
   rw [h1] at h3
   refine ⟨(bl (zFk c k)).drop (bl zEU).length,?_⟩
   generalize (bl (zFk c k)).drop (bl zEU).length =r at h3
   rw [←h3,hr]
   simp
  have c1:=zEb (c:=32) (l:=bl zHj) r hrn
  rw [←e,zI0,zEb _ (zQp (hf.names _ q))] at c1
  exact hf.noRoot _ q (zEX.1 (List.cons.inj c1).1)
theorem zP3 {c:List Pack} {k:Int}:seq (zFk c k) zGb=false:=by
 cases h:seq (zFk c k) zGb with
 |false=>rfl
 |true=>
  exfalso
  have e:=zET.1 h
  have h32:(32:Int)∈bl (zFk c k):=by rw [zI0]; simp
  rw [e] at h32
  unfold zGb at h32
  rw [zFs] at h32
  revert h32
  decide
theorem zNp {c:List Pack} (hf:Fair c) {k:Int} (hk:0≤k∧k<c.length):vH 32 (zFk c k)=[(pat c k).Name,zGQ (pat c k).Version]:=by
 obtain ⟨_,q⟩:=vU hk
 refine (zGm ?_).symm
 rw [zI0,zEb _ (zQp (hf.names _ q)),zI9 (zS7 _)]
 rfl
theorem zNS {c:List Pack} (h0:CF c=0) {k:Int} (hk:0≤k∧k<c.length):zGR c (pat c k).Name (pat c k).Version =k:=by
 obtain ⟨j,rfl⟩:=Int.eq_ofNat_of_zero_le hk.1
 have hj:j<c.length:=by omega
 obtain ⟨_,_,hu⟩:=zGS h0
 have hu:=hu j hj
 have hp:pat c (j:Int)=c[j]:=by unfold pat; rw [zL hj]; rfl
 rw [hp]
 unfold zGR
 have key:=zMA (fun i q=>if isB c[j].Name c[j].Version q then some (i:Int) else none) (c.take j) (c.drop j) 0
 rw [List.take_append_drop] at key
 have h1:xU (fun i q=>if isB c[j].Name c[j].Version q then some (i:Int) else none) 0 (c.take j)=none:=by
  have hs:=zHM (p:=isB c[j].Name c[j].Version) (c.take j) 0
  have ha:=zEl (isB c[j].Name c[j].Version) (c.take j) 0
  rw [hu] at ha
  cases hq:xU (fun i q=>if isB c[j].Name c[j].Version q then some (i:Int) else none) 0 (c.take j) with
  |none=>rfl
  |some r=>
   rw [hq] at hs ha
   simp only [Option.getD_some] at hs ha
   exfalso
   rcases hs with hs|hs
   ·have all:∀(xs:List Pack) (i:Nat) (r:Int),xU (fun i q=>if isB c[j].Name c[j].Version q then some (i:Int) else none) i xs=some r→0≤r:=by
     intro xs
     induction xs with
     |nil=>intro i r h; cases h
     |cons y ys ih=>
      intro i r h
      simp only [xU] at h
      cases hy:isB c[j].Name c[j].Version y
      ·rw [hy] at h; exact ih _ _ h
      ·rw [hy] at h; simp at h; omega
    have:=all _ _ _ hq
    omega
   ·have:r≥0:=by omega
    simp [this] at ha
 have h2:isB c[j].Name c[j].Version c[j]=true:=by
  unfold isB
  rw [zDM,(zMo _ _).2 rfl]
  rfl
 rw [h1,List.drop_eq_getElem_cons hj] at key
 simp only [xU,h2,if_true] at key
 rw [key]
 have:min j c.length=j:=by omega
 simp [this]
theorem zLY {c:List Pack} (h0:CF c=0) (hf:Fair c) {k:Int} (hk:0≤k∧k<c.length):zAw c (vH 32 (zFk c k))=k:=by
 obtain ⟨_,q⟩:=vU hk
 rw [zNp hf hk]
 unfold zAw
 have e:(PV (zGQ (pat c k).Version))= {Code:=0,Version:=(pat c k).Version}:=zMk (hf.vers _ q)
 simp only [List.length_cons,List.length_nil,List.getD_cons_zero,List.getD_cons_succ,e]
 simp
 exact zNS h0 hk
theorem zN3 {c:List Pack} (hf:Fair c) {l:List Term} (hl:∀t∈l,TF t=0) {ss:List (List Int)} (hs:∀a∈ss,Places c a):∀x∈zAS c l ss,(10:Int)∉bl x:=by
 intro x hx
 unfold zAS at hx
 rcases List.mem_append.1 hx with hx|hx
 ·obtain ⟨t,ht,rfl⟩:=List.mem_map.1 hx
  unfold zFR zEU
  rw [xE,qJ]
  rintro (h|h)
  ·rw [zFs] at h
   revert h
   decide
  ·exact zLc (hl t ht) h
 ·obtain ⟨a,ha,hx⟩:=List.mem_flatMap.1 hx
  rcases List.mem_cons.1 hx with rfl|hx
  ·unfold zGb
   rw [zFs]
   decide
  ·obtain ⟨k,hk,rfl⟩:=List.mem_map.1 hx
   obtain ⟨_,q⟩:=vU (hs a ha k hk)
   rw [zI0,qJ,qK]
   rintro (h|h|h)
   ·exact zO1 (zIw (hf.names _ q) _ h) (by omega) rfl
   ·omega
   ·exact zSt _ h
theorem zIU {c:List Pack} (hf:Fair c) {l:List Term} (hl:∀t∈l,TF t=0) {ss:List (List Int)} (hs:∀a∈ss,Places c a):zAW (zGa c l ss)=zAS c l ss:=by
 rw [zJ5,zG4 id _ (zN3 hf hl hs)]
 simp
def zGD (c:List Pack) (_:Nat) (s:List Term×List (List Int)) (x:ByteArray):Lp (List Term×List (List Int)) (Fl (List Term×List (List Int)×Int) (List Term×List (List Int))):=
 if begins x zEU then (if (PTm (x.extract zEU.size x.size)).Code !=0 then .done (.ret ([],[],5)) else .go (s.1++[(PTm (x.extract zEU.size x.size)).Term],s.2))
 else if seq x zGb then .go (s.1,s.2++[[]])
 else if zAw c (vH 32 x)<0 then .done (.ret ([],[],5))
 else if s.2.length=0 then .done (.ret ([],[],5))
 else .go (s.1,s.2.set (s.2.length-1) (s.2.getD (s.2.length-1) []++[zAw c (vH 32 x)]))
theorem zLS {c:List Pack} (hC:Cat c) {text:ByteArray} {xs:List ByteArray} (hx:∀x∈xs,x.size≤1000) (hl:xs.length≤100000):zCd c text xs (([]:List Term),([]:List (List Int)),0)=some (goL (zGD c) (fun s=>.nxt s) 0 xs (([]:List Term),([]:List (List Int)))):=by
 have key:=zIV xs (zGD c) (fun s=>(Fl.nxt s:Fl (List Term×List (List Int)×Int) (List Term×List (List Int)))) (fun i s=>((s.1,s.2,(i:Int)):List Term×List (List Int)×Int)) (fun i s=>s.1.length≤i∧s.2.length≤i∧∀a∈s.2,a.length≤i) (b:=zBb c text xs) (([]:List Term),([]:List (List Int))) (by
  rintro i ⟨qs,zs⟩ hi ⟨h1,h2,h3⟩
  simp only at h1 h2 h3
  have hsz:=hx _ (qE hi)
  constructor
  ·unfold zBb zGD
   simp only
   rw [if_pos (by simp; omega),zL hi]
   simp only [qA]
   rw [zGK]
   simp only [qA]
   rw [show bs [114,111,111,116,32]=zEU from rfl,show bs [115,116,101,112]=zGb from rfl]
   cases hb:begins xs[i] zEU
   ·simp only [qD,if_false]
    cases hq:seq xs[i] zGb
    ·simp only [qD,if_false]
     have es:strings_Split xs[i] (bs [32])=some (vH 32 xs[i]):=zHP _ 32 (by omega)
     rw [es]
     simp only [qA]
     rw [zKK c _ hC.1 (fun p hp=>by have:=zIJ 32 xs[i] p hp; omega)]
     simp only [qA]
     by_cases hk:zAw c (vH 32 xs[i])<0
     ·rw [if_pos (by simpa using hk),if_pos hk]
      rfl
     ·rw [if_neg (by simpa using hk),if_neg hk]
      simp only [qA]
      by_cases hz:zs.length=0
      ·rw [if_pos (by simp [hz]),if_pos hz]
      ·have hlt:zs.length-1<zs.length:=by omega
       have hzl:=h3 _ (qE hlt)
       rw [if_neg (by simpa using hz),if_neg hz,wC (x:=(zs.length:Int)-1) (by omega) (by omega),show (zs.length:Int)-1=((zs.length-1:Nat):Int) by omega,zL hlt]
       simp only [qA]
       rw [wY (by simp; omega) (by simp; omega),zM (by omega)]
       simp only [qA,Int.toNat_natCast]
       have:zs.getD (zs.length-1) []=zs[zs.length-1]:=by simp [List.getD,hlt]
       rw [this]
    ·simp only [if_true]
     rw [wY (by simp; omega) (by simp; omega),zM (by omega)]
     rfl
   ·simp only [if_true]
    rw [zJM _ (by have:=extract_size (s:=xs[i]) (i:=zEU.size) (j:=xs[i].size) (by unfold begins at hb; simp at hb; exact hb.1) (Nat.le_refl _); omega)]
    simp only [qA]
    cases hq:(PTm (xs[i].extract zEU.size xs[i].size)).Code !=0
    ·simp only [qD,if_false]
     rw [wY (by simp; omega) (by simp; omega),zM (by omega)]
     rfl
    ·rfl
  ·rintro ⟨qs',zs'⟩ hg
   unfold zGD at hg
   simp only at hg
   split at hg
   ·split at hg
    ·cases hg
    ·cases hg
     exact ⟨by simp; omega,by simp only; omega,fun a ha=>by have:=h3 a ha; omega⟩
   ·split at hg
    ·cases hg
     refine ⟨by simp only; omega,by simp; omega,fun a ha=>?_⟩
     rcases List.mem_append.1 ha with ha|ha
     ·have:=h3 a ha; omega
     ·rw [List.mem_singleton.1 ha]; simp
    ·split at hg
     ·cases hg
     ·split at hg
      ·cases hg
      ·rename_i hz
       cases hg
       refine ⟨by simp only; omega,by simp; omega,fun a ha=>?_⟩
       rcases List.mem_or_eq_of_mem_set ha with ha|ha
       ·have:=h3 a ha; omega
       ·subst ha
        have hlt:zs.length-1<zs.length:=by omega
        have:zs.getD (zs.length-1) []=zs[zs.length-1]:=by simp [List.getD,hlt]
        rw [this]
        have:=h3 _ (qE hlt)
        simp
        omega) (by
  rintro ⟨qs,zs⟩ _
  unfold zBb
  simp only
  rw [if_neg (by simp)]) ⟨by simp,by simp,by simp⟩
 exact key
theorem zMO {c:List Pack} (fin:List Term×List (List Int)→Fl (List Term×List (List Int)×Int) (List Term×List (List Int))):∀(l:List Term),(∀t∈l,TF t=0)→∀(i:Nat) (qs:List Term) (zs:List (List Int)) (ys:List ByteArray),goL (zGD c) fin i (l.map zFR++ys) (qs,zs)=goL (zGD c) fin (i+l.length) ys (qs++l,zs)
 |[],_,i,qs,zs,ys=>by simp
 |t::l,h,i,qs,zs,ys=>by
  have ih:=zMO (c:=c) fin l (fun x hx=>h x (by simp [hx])) (i+1) (qs++[t]) zs ys
  have e:zGD c i (qs,zs) (zFR t)= .go (qs++[t],zs):=by
   obtain ⟨h1,h2⟩:=zII t
   unfold zGD
   rw [if_pos h1,h2,zLR (h t (by simp))]
   rfl
  simp only [List.map_cons,List.cons_append,goL,e]
  rw [ih]
  simp [Nat.add_assoc,Nat.add_comm 1]
theorem zM9 {c:List Pack} (h0:CF c=0) (hf:Fair c) (fin:List Term×List (List Int)→Fl (List Term×List (List Int)×Int) (List Term×List (List Int))):∀(a:List Int),Places c a→∀(i:Nat) (qs:List Term) (zs:List (List Int)) (z:List Int) (ys:List ByteArray),goL (zGD c) fin i (a.map (zFk c)++ys) (qs,zs++[z])=goL (zGD c) fin (i+a.length) ys (qs,zs++[z++a])
 |[],_,i,qs,zs,z,ys=>by simp
 |k::a,h,i,qs,zs,z,ys=>by
  have hk:=h k (by simp)
  have ih:=zM9 h0 hf fin a (fun x hx=>h x (by simp [hx])) (i+1) qs zs (z++[k]) ys
  have e:zGD c i (qs,zs++[z]) (zFk c k)= .go (qs,zs++[z++[k]]):=by
   unfold zGD
   rw [zLW hf hk,zP3,zLY h0 hf hk]
   simp only [qD,if_false]
   rw [if_neg (by omega),if_neg (by simp)]
   simp [List.getD]
  simp only [List.map_cons,List.cons_append,goL,e]
  rw [ih]
  simp [Nat.add_assoc,Nat.add_comm 1]
theorem zMU {c:List Pack} (h0:CF c=0) (hf:Fair c) (fin:List Term×List (List Int)→Fl (List Term×List (List Int)×Int) (List Term×List (List Int))):∀(ss:List (List Int)),(∀a∈ss,Places c a)→∀(i:Nat) (qs:List Term) (zs:List (List Int)),goL (zGD c) fin i (ss.flatMap (fun a=>zGb::a.map (zFk c))) (qs,zs)=fin (qs,zs++ss)
 |[],_,i,qs,zs=>by simp [goL]
 |a::ss,h,i,qs,zs=>by
  have e:zGD c i (qs,zs) zGb= .go (qs,zs++[[]]):=by
   unfold zGD
   rw [zIK,zDM]
   rfl
  simp only [List.flatMap_cons,List.cons_append,goL,e]
  rw [zM9 h0 hf fin a (h a (by simp)) (i+1) qs zs [] _,zMU h0 hf fin ss (fun x hx=>h x (by simp [hx]))]
  simp
theorem zKh {c:List Pack} (h0:CF c=0) {l:List Term} (hl:∀t∈l,TF t=0) {ss:List (List Int)} (hs:∀a∈ss,zG6 c a=true):(zGa c l ss).size ≤l.length*43+ss.length*605:=by
 have k1:=zEF zE2 43 l (fun t ht=>zFX (hl t ht)) (bs [])
 have k2:=zEF (zEM c) 605 ss (fun a ha=>(zE4 h0 hs a ha).1) (zEn zE2 (bs []) l)
 have hz:(bs []).size =0:=rfl
 unfold zGa
 omega
theorem zOb {c:List Pack} (h0:CF c=0) {l:List Term} (hl:∀t∈l,TF t=0) {ss:List (List Int)} (hs:∀a∈ss,Places c a):∀x∈zAS c l ss,x.size≤1000:=by
 intro x hx
 unfold zAS at hx
 rcases List.mem_append.1 hx with hx|hx
 ·obtain ⟨t,ht,rfl⟩:=List.mem_map.1 hx
  have h5:zEU.size=5:=rfl
  have:=zED (hl t ht)
  unfold zFR
  rw [xS]
  omega
 ·obtain ⟨a,ha,hx⟩:=List.mem_flatMap.1 hx
  rcases List.mem_cons.1 hx with rfl|hx
  ·show (bs [115,116,101,112]).size ≤1000
   decide
  ·obtain ⟨k,hk,rfl⟩:=List.mem_map.1 hx
   obtain ⟨_,q⟩:=vU (hs a ha k hk)
   obtain ⟨p1,p2⟩:=zHy h0 _ q
   have:=zFc p1 p2
   have h1:(bs [10]).size =1:=rfl
   unfold zHu at this
   unfold zFk
   simp only [xS] at this ⊢
   omega
theorem zOs {c:List Pack} {l:List Term} {ss:List (List Int)} (hs:∀a∈ss,a.length≤100):(zAS c l ss).length ≤l.length+ss.length*101:=by
 have key:∀ss:List (List Int),(∀a∈ss,a.length≤100)→(ss.flatMap (fun a=>zGb::a.map (zFk c))).length ≤ss.length*101:=by
  intro ss
  induction ss with
  |nil=>intro _; simp
  |cons a ss ih=>
   intro h
   have h1:=ih (fun x hx=>h x (by simp [hx]))
   have h2:=h a (by simp)
   rw [List.flatMap_cons,List.length_append]
   simp only [List.length_cons,qC]
   omega
 have:=key ss hs
 unfold zAS
 rw [List.length_append,qC]
 omega
theorem zO6 {c:List Pack} (hC:Cat c) (h0:CF c=0) (hf:Fair c) {l:List Term} (hl:∀t∈l,TF t=0) (hl8:l.length≤8) {ss:List (List Int)} (hs:∀a∈ss,zG6 c a=true) (hsl:ss.length≤600):
  jS c (zGa c l ss)=some (if ss.length=0∨jE [] l=true then {Code:=5,Asks:=[],Sets:=[]} else {Code:=0,Asks:=l,Sets:=ss}):=by
 have hp:∀a∈ss,Places c a:=fun a ha=>(zFm.1 (hs a ha)).2
 have h24:=(zGS h0).1
 have hal:∀a∈ss,a.length≤24:=fun a ha=>by have:=zG9 (hs a ha); omega
 have hsz:=zKh h0 hl hs
 have hll:=zOs (c:=c) (l:=l) (ss:=ss) (fun a ha=>by have:=hal a ha; omega)
 have hg:goL (zGD c) (fun s=>(Fl.nxt s:Fl (List Term×List (List Int)×Int) (List Term×List (List Int)))) 0 (zAS c l ss) (([]:List Term),([]:List (List Int)))= .nxt (l,ss):=by
  unfold zAS
  rw [zMO _ l hl,zMU h0 hf _ ss hp]
  simp
 have htsf:=zQW hl
 have hPT:PT c l ss=zGa c l ss:=by
  unfold PT
  rw [h0,htsf]
  have:(ss.any fun a=> !(zG6 c a))=false:=by
   rw [List.any_eq_false]
   intro a ha
   rw [hs a ha]
   simp
  rw [this]
  rfl
 unfold jS zB9
 rw [zDv c hC,h0]
 simp only [qA,bne_self_eq_false,qD,if_false]
 rw [zIl _ (by omega),zIU hf hl hp]
 simp only [qA]
 rw [zLS hC (zOb h0 hl hp) (by omega),hg]
 simp only [qA,Fl.go]
 by_cases hz:ss.length=0
 ·rw [if_pos (by simp [hz]),if_pos (.inl hz)]
  rfl
 ·rw [if_neg (by simpa using hz),if_neg (by simp; omega),zKR l (by omega),zHo hC (by omega) ⟨by omega,fun a ha=>by have:=hal a ha; omega⟩,hPT]
  simp only [qA,zDM]
  cases ht:jE [] l
  ·have hn:¬(ss.length=0∨false=true):=by
    rintro (h|h)
    ·exact hz h
    ·cases h
   rw [if_neg hn]
   rfl
  ·have hn:ss.length=0∨true=true:=.inr rfl
   rw [if_pos hn]
   rfl
theorem zN5 {c:List Pack} (hC:Cat c) (h0:CF c=0) (hf:Fair c) {l:List Term} (hl:∀t∈l,TF t=0) (hl8:l.length≤8) {ss:List (List Int)} (hs:∀a∈ss,zG6 c a=true) (hsl:ss.length≤600) (hn:ss.length=0∨jE [] l=true):
  jT c (zGa c l ss)=some {Code:=5,Asks:=[],Sets:=[]}:=by
 have hp:∀a∈ss,Places c a:=fun a ha=>(zFm.1 (hs a ha)).2
 have h24:=(zGS h0).1
 have hal:∀a∈ss,a.length≤24:=fun a ha=>by have:=zG9 (hs a ha); omega
 have hsz:=zKh h0 hl hs
 have hrl:(zAS c l ss).length =l.length+(ss.flatMap (fun a=>zGb::a.map (zFk c))).length :=by
  unfold zAS
  rw [List.length_append,qC]
 have hat:∀i,(hi:i<l.length)→∃h:i< (zAS c l ss).length,(zAS c l ss)[i]=zFR l[i]:=by
  intro i hi
  refine ⟨by omega,?_⟩
  unfold zAS
  rw [List.getElem_append_left (by simpa using hi)]
  simp
 have hnext:(h:l.length< (zAS c l ss).length)→begins (zAS c l ss)[l.length] zEU=false:=by
  intro h
  cases ss with
  |nil=>simp [zAS] at h
  |cons a ss=>
   have h2:(zAS c l (a::ss))[l.length]? =some zGb:=by
    unfold zAS
    rw [List.getElem?_append_right (by simp)]
    simp
   rw [List.getElem?_eq_getElem h] at h2
   rw [Option.some.inj h2]
   exact zIK
 obtain ⟨t,e,rfl⟩:=xO (b:=zDg c (zGa c l ss) (zAS c l ss)) (fun i s=>s=(zEn zJJ (bs []) (l.take i),(i:Int))) l.length (fun t=>t=(zFE l,(l.length:Int))) (by
  rintro i s hi rfl
  obtain ⟨h1,h2⟩:=hat i hi
  obtain ⟨b1,b2⟩:=zII l[i]
  have hz1:=zEF zJJ 38 (l.take i) (fun t ht=>zG2 (hl t (List.mem_of_mem_take ht))) (bs [])
  have hz:(bs []).size =0:=rfl
  have hz10:(bs [10]).size =1:=rfl
  have hts:=zED (hl _ (qE hi))
  have hti:(l.take i).length ≤i:=by rw [List.length_take]; omega
  refine .inl ⟨_,?_,rfl⟩
  unfold zDg
  simp only
  rw [if_pos (by simp; omega),zL h1,h2]
  simp only [qA]
  rw [zHa,show begins (zFR l[i]) (bs [114,111,111,116,32])=true from b1]
  simp only [qA,if_true]
  have h5:zEU.size=5:=rfl
  have hle:5≤(zFR l[i]).size :=by unfold zFR; rw [xS]; omega
  have es:zFt (zFR l[i]) 5 ((zFR l[i]).size :Int)=some (zFb l[i]):=by
   have:=zDy (s:=zFR l[i]) (l:=5) (h:=(zFR l[i]).size) hle (Nat.le_refl _)
   rw [h5] at b2
   rw [b2] at this
   exact this
  rw [es]
  simp only [qA]
  rw [vV (by omega)]
  simp only [qA]
  rw [vV (by rw [xS]; omega),zM (by omega)]
  simp only [qA]
  rw [qF hi]
  unfold zEn
  rw [List.foldl_append,zEw]
  rfl) (by
  rintro s rfl
  rw [List.take_length]
  refine ⟨_,?_,rfl⟩
  unfold zDg
  simp only
  by_cases h:l.length< (zAS c l ss).length
  ·rw [if_pos (by simp; omega),zL h]
   simp only [qA]
   rw [zHa,show begins (zAS c l ss)[l.length] (bs [114,111,111,116,32])=false from hnext h]
   rfl
  ·rw [if_neg (by simp; omega)]
   rfl) l.length 0 (bs [],0) (by omega) rfl
 have e:zAL c (zGa c l ss) (zAS c l ss) (bs [],0)=some (zFE l,(l.length:Int)):=e
 have hrs:(zFE l).size ≤90000:=by
  have:=zEF zJJ 38 l (fun t ht=>zG2 (hl t ht)) (bs [])
  have hz:(bs []).size =0:=rfl
  show (zEn zJJ (bs []) l).size ≤90000
  omega
 obtain ⟨o,eR⟩:=zIb (zFE l) hrs
 rw [zKI l hl hl8] at eR
 unfold jT zDU
 rw [uQ c hC,h0]
 simp only [qA,bne_self_eq_false,qD,if_false]
 rw [zFw _ (by omega),zIU hf hl hp]
 simp only [qA]
 rw [e]
 simp only [qA]
 rw [eR]
 cases ht:jE [] l
 ·have hz:ss.length=0:=hn.resolve_right (by rw [ht]; simp)
  have hz':ss=[]:=List.length_eq_zero_iff.1 hz
  subst hz'
  have e3:∀x,jX c (zGa c l []) (zAS c l []) (zFE l,(l.length:Int)) x ()=some (.nxt ()):=by
   intro x
   unfold jX
   rw [wO]
   unfold zFn
   rw [if_neg (by simp [zAS])]
   rfl
  simp only [qD,if_false,qA,Bool.not_true]
  rw [e3]
  rfl
 ·simp only [if_true,qA,Bool.not_false]
theorem zNy {c:List Pack} (hC:Cat c):∃r,jT c (bs [])=some r∧r.Code=if CF c !=0 then CF c else 5:=by
 unfold jT
 rw [uQ c hC]
 simp only [qA]
 cases h0:CF c !=0
 ·have hl:zAW (bs [])=[]:=by
   have:=zG4 id [] (by simp)
   simpa [zEn] using this
  have e:∀x,zAL c (bs []) [] (x,0)=some (x,0):=by
   intro x
   unfold zAL
   rw [wO]
   rfl
  obtain ⟨o,eR⟩:=zIb (bs []) (by decide)
  have hr:zJB (bs [])=some []:=by
   have:=zNN
   rwa [show b2s []=bs [] from rfl] at this
  rw [hr] at eR
  have e3:∀x v,jX c (bs []) [] (v,0) x ()=some (.nxt ()):=by
   intro x v
   unfold jX
   rw [wO]
   rfl
  unfold zDU
  simp only [qD,if_false]
  rw [zFw _ (by decide),hl]
  simp only [qA]
  rw [e]
  simp only [qA]
  rw [eR]
  simp only [qA,Bool.not_true,qD,if_false]
  rw [e3]
  exact ⟨_,rfl,rfl⟩
 ·exact ⟨_,rfl,rfl⟩
theorem zN1 {c:List Pack} (hC:Cat c):∃r,jS c (bs [])=some r∧r.Code=if CF c !=0 then CF c else 5:=by
 unfold jS
 rw [zDv c hC]
 simp only [qA]
 cases h0:CF c !=0
 ·have hl:zAW (bs [])=[]:=by
   have:=zG4 id [] (by simp)
   simpa [zEn] using this
  unfold zB9
  simp only [qD,if_false]
  rw [zIl _ (by decide),hl]
  simp only [qA]
  rw [zLS hC (by simp) (by simp)]
  exact ⟨_,rfl,rfl⟩
 ·exact ⟨_,rfl,rfl⟩
theorem zOh {c:List Pack} (hC:Cat c) (hnr:∀p∈c,p.Name≠zHj) {l:List Term} (hl:l.length≤4) {ss:List (List Int)} (hs:ss.length≤600) (hz:∀a∈ss,a.length≤60) (code:List Int) (hcl:code.length≤1048576) (hD:vT code=some (c,l,ss)):uO code=some true:=by
 have hI:=zHo (l:=l) (ss:=ss) hC (by omega) ⟨by omega,fun a ha=>by have:=hz a ha; omega⟩
 have hS:=zKW (l:=l) (ss:=ss) hC (by omega) ⟨by omega,fun a ha=>by have:=hz a ha; omega⟩
 unfold uO
 rw [zQU hcl,hD]
 simp only [qA,qD,if_false]
 rw [hI,hS]
 simp only [qA]
 by_cases hbad:(CF c !=0||(tsF l !=0||ss.any (fun a=> !(zG6 c a))))=true
 ·have hT:PT c l ss=bs []:=by unfold PT; rw [if_pos hbad]
  obtain ⟨r1,e1,k1⟩:=zN1 hC
  obtain ⟨r2,e2,k2⟩:=zNy hC
  rw [hT,e1,e2,zDM]
  simp only [qA,if_true,k1,k2,beq_self_eq_true]
 ·have hT:PT c l ss=zGa c l ss:=by unfold PT; rw [if_neg hbad]
  simp only [Bool.or_eq_true,not_or,Bool.not_eq_true] at hbad
  obtain ⟨b1,b2,b3⟩:=hbad
  have h0:CF c=0:=by simpa using b1
  have hlt:∀t∈l,TF t=0:=zKx (by simpa using b2)
  have hss:∀a∈ss,zG6 c a=true:=fun a ha=>by
   have:=List.any_eq_false.1 b3 a ha
   simpa using this
  have hf:Fair c:=⟨fun p hp=>(zHy h0 p hp).1,fun p hp=>(zHy h0 p hp).2,hnr⟩
  have hR:=zO6 hC h0 hf hlt (by omega) hss hs
  rw [hT,hR]
  simp only [qA]
  by_cases hn:ss.length=0∨jE [] l=true
  ·have hN:=zN5 hC h0 hf hlt (by omega) hss hs hn
   rw [if_pos hn,hN]
   have e:(if seq (zGa c l ss) (bs [])=true then some true else some ((5:Int) !=0))=some true:=by split<;>rfl
   simp only [e,qA,if_true,beq_self_eq_true]
  ·have hne:seq (zGa c l ss) (bs [])=false:=by
    rw [zF9,zJ5,zI5,zFl]
    cases ss with
    |nil=>exact absurd (.inl rfl) hn
    |cons a ss=>simp [zAS]
   have hal:∀i,(hi:i<ss.length)→ss[i].length ≤1048576:=fun i hi=>by have:=hz _ (qE hi); omega
   have key:uT (c,l,ss) (zGa c l ss) {Code:=0,Asks:=l,Sets:=ss} 0=some (.nxt ()):=by
    unfold uT
    refine zPb ss.length (fun i hi=>?_) ?_
    ·unfold zAU
     simp only
     rw [if_pos (by simp; omega),zL hi]
     simp only [qA]
     rw [zOG _ (hal i hi),zM (by omega)]
     rfl
    ·unfold zAU
     simp only
     rw [if_neg (by simp)]
   rw [if_neg hn,hne]
   simp only [qD,if_false,bne_self_eq_false,qA,key,Fl.go]
   rw [hI,hT]
   simp only [qA,zDM]
theorem zJn (a1:List Int) (k1:a1.length≤maxLen∧∀y1∈a1,IntKind.u8.min≤y1∧y1≤IntKind.u8.max):uO a1=some true:=by
 by_cases h:a1.length≤1048576
 ·obtain ⟨s,e0,h0⟩:=zMj h (fun c hc=>by have:=k1.2 c hc; simpa [IntKind.min,IntKind.max,IntKind.signed,IntKind.bits] using this)
  obtain ⟨c,l,ss,e,hD,hl,_,hs,hz⟩:=zKz e0 h0
  exact zOh hD.cat (fun p hp=>(hD.2 p hp).noRoot) hl hs hz a1 h e
 ·unfold uO zEk
  have:decide ((a1.length:Int)>1048576)=true:=by simp; omega
  rw [this]
  rfl
end
end Go.Told

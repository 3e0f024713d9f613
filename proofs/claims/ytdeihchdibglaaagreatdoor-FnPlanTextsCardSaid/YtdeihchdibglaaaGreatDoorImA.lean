import Derived.Calls
import Derived.Wp
import Derived.KernelRfl
import Derived.Orders
namespace Go
theorem qA {α : Type _} {β : Type _} (a : α) (f : α → Option β) : (some a).bind f = f a := rfl
theorem qB {n m : Nat} (h : Nat.ble n m = true) : n ≤ m := Nat.le_of_ble_eq_true h
theorem qC {α : Type _} {β : Type _} {l : List α} (f : α → β) : (l.map f).length = l.length := List.length_map f
theorem qD : (false = true) = False := Bool.false_eq_true
theorem qE {α : Type _} {l : List α} {n : Nat} (h : n < l.length) : l[n]'h ∈ l := List.getElem_mem h
theorem qF {α : Type _} {i : Nat} {l : List α} (h : i < l.length) : l.take (i + 1) = l.take i ++ [l[i]] := List.take_succ_eq_append_getElem h
theorem qI {α : Type _} {a b : α} : a ∈ [b] ↔ a = b := List.mem_singleton
theorem qJ {α : Type _} {a : α} {s t : List α} : a ∈ s ++ t ↔ a ∈ s ∨ a ∈ t := List.mem_append
theorem qK {α : Type _} {a b : α} {l : List α} : a ∈ b :: l ↔ a = b ∨ a ∈ l := List.mem_cons
theorem qM {p : Prop} [Decidable p] : (decide p = true) = p := decide_eq_true_eq
end Go
namespace Go.Im
open Go
inductive D where
 |sc (v:Value)
 |s (o:Bool) (z n:Nat) (xs:List (List D))
 |rf (t off n:Nat) (cap:Option Nat)
 |pt (t i j:Nat)
 |ps (cs:List D)
 |fn (f:FuncId) (caps:List D)
 |ag (cs:List D)
 |tu (vs:List D)
 |un
 |nb (n:Nat)
 |sub (t off n:Nat)
 |fb (f:FuncId) (bnd:List D)
 |pb (cs:List D)
 |ln (n:Nat)
 |po (cs:List D)
 deriving Inhabited
structure Loc where
 nil:Bool
 b:Nat
 o:Nat
 z:Nat
 r:Nat
def Loc.own (L:Loc):List Nat:=if L.nil then [] else [L.b]
def Has (w:World) (b off:Nat) (ws:List Value):Prop:=
 ∃arr e fz,w.heap[b]? =some (.cells arr e fz)∧∀k (h:k<ws.length),arr[off+k]? =some ws[k]
def Own (w:World) (b off room:Nat) (ws:List Value):Prop:=
 ∃arr e lo hi,w.heap[b]? =some (.cells arr e (lo,hi))∧(∀k,k≤arr.size→¬(lo≤k∧k<hi))∧off+room≤arr.size∧
  (∀k (h:k<ws.length),arr[off+k]? =some ws[k])
mutual
def Rep (β:Nat→Loc) (N:Nat→Prop) (w:World) (top:Bool):D→Value→List Nat→Prop
 | .sc u,v,bs=>v=u∧bs=[]
 | .s o z n xs,v,bs=>xs.length=n∧(∀e∈xs,e.length=z)∧∃a cap,v= .slice a n cap∧n≤cap∧
  ((n=0∧bs=[]∧(o=true→a=none∧cap=0))∨
   (o=false∧∃b off ws,a=some ⟨b,off,none⟩∧N b∧Has w b off ws∧zZ β N w xs ws bs∧bs=[])∨
   (o=true∧∃b off ws bs',a=some ⟨b,off,none⟩∧bs=b::bs'∧Own w b off (cap*z) ws∧zZ β N w xs ws bs'))
 | .rf t off n cap,v,bs=>top=true∧bs=[]∧(((β t).nil =true∧off=0∧n=0∧v= .slice none 0 0)∨
  ((β t).nil =false∧∃c,v= .slice (some ⟨(β t).b,(β t).o +off*(β t).z,none⟩) n c∧n≤c∧(off+c)*(β t).z ≤(β t).r ∧(∀c',cap=some c'→c=c')))
 | .pt t i j,v,bs=>top=true∧bs=[]∧(β t).nil =false∧v= .pointer (some ⟨(β t).b,(β t).o +i*(β t).z +j,none⟩)
 | .ps cs,v,bs=>bs=[]∧∃b off ws,v= .pointer (some ⟨b,off,none⟩)∧N b∧Has w b off ws∧zK β N w false cs ws []
 | .fn f caps,v,bs=>top=true∧bs=[]∧∃ws:List Value,v= .func (.func f) #[] ws.toArray∧zK β N w true caps ws []
 | .fb f bnd,v,bs=>top=true∧bs=[]∧∃ws:List Value,v= .func (.func f) ws.toArray #[]∧zK β N w true bnd ws []
 | .pb cs,v,bs=>top=true∧bs=[]∧∃b off,∃ws:List Value,v= .pointer (some ⟨b,off,none⟩)∧N b∧Has w b off ws∧(∀x∈ws,x.oneCell=true)∧zK β N w true cs ws []
 | .ag cs,v,bs=>top=true∧∃ws:List Value,v= .agg ws.toArray∧(∀x∈ws,x.oneCell=true)∧zK β N w true cs ws bs
 | .tu vs,v,bs=>top=true∧∃ws:List Value,v= .tuple ws.toArray∧zK β N w true vs ws bs
 | .un,v,bs=>v.oneCell=true∧bs=[]
 | .nb n,v,bs=>bs=[]∧∃b,v= .bool b∧(b=true→n=0)
 | .sub t off n,v,bs=>top=true∧bs=[]∧∃a c,v= .slice a n c∧n≤c∧(n=0∨((β t).nil =false∧a=some ⟨(β t).b,(β t).o +off*(β t).z,none⟩∧(off+n)*(β t).z ≤(β t).r))
 | .ln n,v,bs=>bs=[]∧∃a cap,v= .slice a n cap∧n≤cap
 | .po cs,v,bs=>top=true∧∃b off r,∃ws:List Value,∃bs',v= .pointer (some ⟨b,off,none⟩)∧bs=b::bs'∧Own w b off r ws∧(∀x∈ws,x.oneCell=true)∧zK β N w true cs ws bs'
def zK (β:Nat→Loc) (N:Nat→Prop) (w:World) (top:Bool):List D→List Value→List Nat→Prop
 |[],ws,bs=>ws=[]∧bs=[]
 |d::ds,ws,bs=>∃v vs b1 b2,ws=v::vs∧bs=b1++b2∧Rep β N w top d v b1∧zK β N w top ds vs b2
def zZ (β:Nat→Loc) (N:Nat→Prop) (w:World):List (List D)→List Value→List Nat→Prop
 |[],ws,bs=>ws=[]∧bs=[]
 |e::es,ws,bs=>∃w1 w2 b1 b2,ws=w1++w2∧bs=b1++b2∧zK β N w false e w1 b1∧zZ β N w es w2 b2
end
def D.men:D→List Nat
 | .rf t _ _ _=>[t]
 | .pt t _ _=>[t]
 | .sub t _ _=>[t]
 | .fn _ caps=>zER caps
 | .fb _ bnd=>zER bnd
 | .pb cs=>zER cs
 | .ag cs=>zER cs
 | .tu vs=>zER vs
 | .po cs=>zER cs
 |_=>[]
 where
 zER:List D→List Nat
  |[]=>[]
  |d::ds=>d.men++zER ds
section frame
variable {β β':Nat→Loc} {N N':Nat→Prop} {w w':World}
theorem Has.frame {b off:Nat} {ws:List Value} (h:Has w b off ws) (hw:w'.heap[b]? =w.heap[b]?):Has w' b off ws:=by
 obtain ⟨arr,e,fz,h1,h2⟩:=h
 exact ⟨arr,e,fz,hw.trans h1,h2⟩
theorem Own.frame {b off r:Nat} {ws:List Value} (h:Own w b off r ws) (hw:w'.heap[b]? =w.heap[b]?):Own w' b off r ws:=by
 obtain ⟨arr,e,lo,hi,h1,h2,h3⟩:=h
 exact ⟨arr,e,lo,hi,hw.trans h1,h2,h3⟩
theorem Own.has {b off r:Nat} {ws:List Value} (h:Own w b off r ws):Has w b off ws:=by
 obtain ⟨arr,e,lo,hi,h1,_,_,h2⟩:=h
 exact ⟨arr,e,(lo,hi),h1,h2⟩
mutual
theorem Rep.frame (hN:∀b,N b→N' b∧w'.heap[b]? =w.heap[b]?):∀(d:D) (top:Bool) (v:Value) (bs:List Nat),(∀b∈bs,w'.heap[b]? =w.heap[b]?)→
  (∀t∈d.men,β' t=β t)→Rep β N w top d v bs→Rep β' N' w' top d v bs
 | .sc u,_,v,bs,_,_,h=>h
 | .s o z n xs,top,v,bs,hb,hm,h=>by
  simp only [Rep] at h ⊢
  obtain ⟨h1,h2,a,cap,h3,h4,h5⟩:=h
  refine ⟨h1,h2,a,cap,h3,h4,?_⟩
  rcases h5 with h5|⟨h5,b,off,ws,h6,h7,h8,h9,h10⟩|⟨h5,b,off,ws,bs',h6,h7,h8,h9⟩
  ·exact .inl h5
  ·exact .inr (.inl ⟨h5,b,off,ws,h6,(hN b h7).1,h8.frame (hN b h7).2,zZ.frame hN xs ws bs hb h9,h10⟩)
  ·subst h7
   exact .inr (.inr ⟨h5,b,off,ws,bs',h6,rfl,h8.frame (hb b (by simp)),zZ.frame hN xs ws bs' (fun c hc=>hb c (by simp [hc])) h9⟩)
 | .rf t off n cap,top,v,bs,_,hm,h=>by
  simp only [Rep] at h ⊢
  rw [hm t (by simp [D.men])]
  exact h
 | .pt t i j,top,v,bs,_,hm,h=>by
  simp only [Rep] at h ⊢
  rw [hm t (by simp [D.men])]
  exact h
 | .ps cs,top,v,bs,_,_,h=>by
  simp only [Rep] at h ⊢
  obtain ⟨h1,b,off,ws,h2,h3,h4,h5⟩:=h
  exact ⟨h1,b,off,ws,h2,(hN b h3).1,h4.frame (hN b h3).2,zK.zHl hN cs ws [] (by simp) h5⟩
 | .fn f caps,top,v,bs,_,hm,h=>by
  simp only [Rep] at h ⊢
  obtain ⟨h1,h2,ws,h3,h4⟩:=h
  exact ⟨h1,h2,ws,h3,zK.frame hN caps true ws [] (by simp) (fun t ht=>hm t (by simpa [D.men] using ht)) h4⟩
 | .fb f bnd,top,v,bs,_,hm,h=>by
  simp only [Rep] at h ⊢
  obtain ⟨h1,h2,ws,h3,h4⟩:=h
  exact ⟨h1,h2,ws,h3,zK.frame hN bnd true ws [] (by simp) (fun t ht=>hm t (by simpa [D.men] using ht)) h4⟩
 | .pb cs,top,v,bs,_,hm,h=>by
  simp only [Rep] at h ⊢
  obtain ⟨h1,h2,b,off,ws,h3,h4,h5,h6,h7⟩:=h
  exact ⟨h1,h2,b,off,ws,h3,(hN b h4).1,h5.frame (hN b h4).2,h6,zK.frame hN cs true ws [] (by simp) (fun t ht=>hm t (by simpa [D.men] using ht)) h7⟩
 | .ag cs,top,v,bs,hb,hm,h=>by
  simp only [Rep] at h ⊢
  obtain ⟨h1,ws,h2,h3,h4⟩:=h
  exact ⟨h1,ws,h2,h3,zK.frame hN cs true ws bs hb (fun t ht=>hm t (by simpa [D.men] using ht)) h4⟩
 | .tu vs,top,v,bs,hb,hm,h=>by
  simp only [Rep] at h ⊢
  obtain ⟨h1,ws,h2,h3⟩:=h
  exact ⟨h1,ws,h2,zK.frame hN vs true ws bs hb (fun t ht=>hm t (by simpa [D.men] using ht)) h3⟩
 | .un,_,v,bs,_,_,h=>h
 | .nb _,_,v,bs,_,_,h=>h
 | .ln _,_,v,bs,_,_,h=>h
 | .po cs,top,v,bs,hb,hm,h=>by
  simp only [Rep] at h ⊢
  obtain ⟨h1,b,off,r,ws,bs',h2,h3,h4,h5,h6⟩:=h
  subst h3
  exact ⟨h1,b,off,r,ws,bs',h2,rfl,h4.frame (hb b (by simp)),h5,zK.frame hN cs true ws bs' (fun c hc=>hb c (by simp [hc])) hm h6⟩
 | .sub t off n,top,v,bs,_,hm,h=>by
  simp only [Rep] at h ⊢
  rw [hm t (by simp [D.men])]
  exact h
theorem zK.frame (hN:∀b,N b→N' b∧w'.heap[b]? =w.heap[b]?):∀(ds:List D) (top:Bool) (ws:List Value) (bs:List Nat),(∀b∈bs,w'.heap[b]? =w.heap[b]?)→
  (∀t∈D.men.zER ds,β' t=β t)→zK β N w top ds ws bs→zK β' N' w' top ds ws bs
 |[],_,ws,bs,_,_,h=>h
 |d::ds,top,ws,bs,hb,hm,h=>by
  simp only [zK] at h ⊢
  obtain ⟨v,vs,b1,b2,h1,h2,h3,h4⟩:=h
  subst h2
  exact ⟨v,vs,b1,b2,h1,rfl,Rep.frame hN d top v b1 (fun b hb'=>hb b (by simp [hb'])) (fun t ht=>hm t (by simp [D.men.zER,ht])) h3,
   zK.frame hN ds top vs b2 (fun b hb'=>hb b (by simp [hb'])) (fun t ht=>hm t (by simp [D.men.zER,ht])) h4⟩
theorem zK.zHl (hN:∀b,N b→N' b∧w'.heap[b]? =w.heap[b]?):∀(ds:List D) (ws:List Value) (bs:List Nat),(∀b∈bs,w'.heap[b]? =w.heap[b]?)→
  zK β N w false ds ws bs→zK β' N' w' false ds ws bs
 |[],ws,bs,_,h=>h
 |d::ds,ws,bs,hb,h=>by
  simp only [zK] at h ⊢
  obtain ⟨v,vs,b1,b2,h1,h2,h3,h4⟩:=h
  subst h2
  refine ⟨v,vs,b1,b2,h1,rfl,?_,zK.zHl hN ds vs b2 (fun b hb'=>hb b (by simp [hb'])) h4⟩
  by_cases hd:d.men=[]
  ·exact Rep.frame hN d false v b1 (fun b hb'=>hb b (by simp [hb'])) (fun t ht=>by simp [hd] at ht) h3
  ·cases d<;>first|(simp [D.men] at hd; done)|(simp only [Rep] at h3; exact absurd h3.1 (by simp))
theorem zZ.frame (hN:∀b,N b→N' b∧w'.heap[b]? =w.heap[b]?):∀(es:List (List D)) (ws:List Value) (bs:List Nat),(∀b∈bs,w'.heap[b]? =w.heap[b]?)→
  zZ β N w es ws bs→zZ β' N' w' es ws bs
 |[],ws,bs,_,h=>h
 |e::es,ws,bs,hb,h=>by
  simp only [zZ] at h ⊢
  obtain ⟨w1,w2,b1,b2,h1,h2,h3,h4⟩:=h
  subst h2
  exact ⟨w1,w2,b1,b2,h1,rfl,zK.zHl hN e w1 b1 (fun b hb'=>hb b (by simp [hb'])) h3,zZ.frame hN es w2 b2 (fun b hb'=>hb b (by simp [hb'])) h4⟩
end
end frame
end Go.Im
set_option linter.unusedVariables false
namespace Go.Im
open Go
inductive Ent where
 |box (cs:List D)
 |row (z:Nat) (xs:List (List D))
 |lent (z:Nat) (xs:List (List D)) (i j t n:Nat)
def Ent.men:Ent→List Nat
 | .box cs=>D.men.zER cs
 | .row _ _=>[]
 | .lent _ _ _ _ t _=>[t]
structure St where
 tm:List (Nat×D)
 hp:List (Nat×Ent)
 us:List Nat
structure Ctx where
 P:Program
 fid:FuncId
 w0:World
 N0:Nat→Prop
 O0:List Nat
 m:Nat
 β0:Nat→Loc
 nt:Nat
def zBR (β:Nat→Loc) (N:Nat→Prop) (w:World) (L:Loc) (bs:List Nat):Ent→Prop
 | .box cs=>L.nil=false∧L.z=cs.length∧∃ws,Own w L.b L.o L.r ws∧(∀x∈ws,Value.oneCell x=true)∧zK β N w true cs ws bs
 | .row z xs=>L.z=z∧(∀x∈xs,x.length=z)∧((L.nil=true∧xs=[]∧bs=[])∨(L.nil=false∧∃ws,Own w L.b L.o L.r ws∧zZ β N w xs ws bs))
 | .lent z xs i j t n=>L.nil=false∧L.z=z∧(∀x∈xs,x.length=z)∧∃ws,Own w L.b L.o L.r ws∧zZ β N w (xs.modify i (fun c=>c.set j .un)) ws bs∧
  ∃v,ws[i*z+j]? =some v∧Rep β N w true (.rf t 0 n none) v []
def vS (β:Nat→Loc) (N:Nat→Prop) (w:World):List (Nat×Ent)→List Nat→Prop
 |[],bs=>bs=[]
 |(t,e)::hp,bs=>∃b1 b2,bs=(β t).own ++(b1++b2)∧zBR β N w (β t) b1 e∧vS β N w hp b2
def NS (Γ:Ctx) (w:World) (bs:List Nat) (b:Nat):Prop:=(Γ.N0 b∨b∈Γ.O0∨Γ.w0.heap.size≤b)∧b<w.heap.size∧b∉bs
def zOX (β:Nat→Loc) (N:Nat→Prop) (w:World) (tmps:Array Value) (tm:List (Nat×D)):Prop:=
 ∀t d,(t,d)∈tm→∃v,tmps[t]? =some v∧Rep β N w true d v []
def zRU (P:Program) (n:String):Option (List Value→Prop):=
 if n= "math/bits.deBruijn32tab" then some (· =[.int .u8 0,.int .u8 1,.int .u8 28,.int .u8 2,.int .u8 29,.int .u8 14,.int .u8 24,.int .u8 3,.int .u8 30,.int .u8 22,.int .u8 20,.int .u8 15,.int .u8 25,.int .u8 17,.int .u8 4,.int .u8 8,.int .u8 31,.int .u8 27,.int .u8 13,.int .u8 23,.int .u8 21,.int .u8 19,.int .u8 16,.int .u8 7,.int .u8 26,.int .u8 12,.int .u8 18,.int .u8 6,.int .u8 11,.int .u8 5,.int .u8 10,.int .u8 9])
 else if n= "math/bits.deBruijn64tab" then some (· =[.int .u8 0,.int .u8 1,.int .u8 56,.int .u8 2,.int .u8 57,.int .u8 49,.int .u8 28,.int .u8 3,.int .u8 61,.int .u8 58,.int .u8 42,.int .u8 50,.int .u8 38,.int .u8 29,.int .u8 17,.int .u8 4,.int .u8 62,.int .u8 47,.int .u8 59,.int .u8 36,.int .u8 45,.int .u8 43,.int .u8 51,.int .u8 22,.int .u8 53,.int .u8 39,.int .u8 33,.int .u8 30,.int .u8 24,.int .u8 18,.int .u8 12,.int .u8 5,.int .u8 63,.int .u8 55,.int .u8 48,.int .u8 27,.int .u8 60,.int .u8 41,.int .u8 37,.int .u8 16,.int .u8 46,.int .u8 35,.int .u8 44,.int .u8 21,.int .u8 52,.int .u8 32,.int .u8 23,.int .u8 11,.int .u8 54,.int .u8 26,.int .u8 40,.int .u8 15,.int .u8 34,.int .u8 20,.int .u8 31,.int .u8 10,.int .u8 25,.int .u8 14,.int .u8 19,.int .u8 9,.int .u8 13,.int .u8 8,.int .u8 7,.int .u8 6])
 else if n= "internal/strconv.uint64pow10" then some (· =[.int .u64 1,.int .u64 10,.int .u64 100,.int .u64 1000,.int .u64 10000,.int .u64 100000,.int .u64 1000000,.int .u64 10000000,.int .u64 100000000,.int .u64 1000000000,.int .u64 10000000000,.int .u64 100000000000,.int .u64 1000000000000,.int .u64 10000000000000,.int .u64 100000000000000,.int .u64 1000000000000000,.int .u64 10000000000000000,.int .u64 100000000000000000,.int .u64 1000000000000000000,.int .u64 10000000000000000000])
 else if n= "internal/bytealg.MaxLen" ∧P.globals.toList.any (fun x=>x.name== "internal/strconv.uint64pow10") then some (fun ws=>∃m,ws=[.int .i64 m])
 else none
def zNs (P:Program):List (Nat×(List Value→Prop)):=P.globals.toList.zipIdx.filterMap fun x=>(zRU P x.1.name).map fun p=>(x.2,p)
def Tab (w:World) (b:Nat) (p:List Value→Prop):Prop:=∃ws e fz,w.heap[b]? =some (.cells ws.toArray e fz)∧p ws
structure RelB (Γ:Ctx) (β:Nat→Loc) (bs:List Nat) (σ:St) (a:Act) (w:World):Prop where
 defers:a.defers=[]
 size:a.tmps.size=Γ.nt
 keys:(σ.hp.map (·.1)).Nodup
 par:∀k,k<Γ.m→β k=Γ.β0 k
 grow:Γ.w0.heap.size≤w.heap.size
 quiet:w.os=Γ.w0.os∧w.output=Γ.w0.output
 keep:∀b,b<Γ.w0.heap.size→b∉Γ.O0→w.heap[b]? =Γ.w0.heap[b]?
 hp:vS β (NS Γ w bs) w σ.hp bs
 nodup:bs.Nodup
 own:∀b∈bs,b<w.heap.size∧(b∈Γ.O0∨Γ.w0.heap.size≤b)
 tm:zOX β (NS Γ w bs) w a.tmps σ.tm
 gh:∀q∈zNs Γ.P,Γ.N0 q.1∧q.1<Γ.w0.heap.size∧q.1∉Γ.O0∧Tab Γ.w0 q.1 q.2
theorem RelB.tables {Γ:Ctx} {β:Nat→Loc} {bs:List Nat} {σ:St} {a:Act} {w:World} (h:RelB Γ β bs σ a w):∀q∈zNs Γ.P,NS Γ w bs q.1∧Tab w q.1 q.2:=by
 intro q hq
 obtain ⟨h1,h2,h3,h4⟩:=h.gh q hq
 refine ⟨⟨.inl h1,Nat.lt_of_lt_of_le h2 h.grow,fun hb=>?_⟩,by obtain ⟨ws,e,fz,h4,h5⟩:=h4; exact ⟨ws,e,fz,(h.keep _ h2 h3).trans h4,h5⟩⟩
 rcases (h.own _ hb).2 with h5|h5
 ·exact h3 h5
 ·omega
def zLU (tm:List (Nat×D)):List Nat:=tm.flatMap (fun x=>x.2.men)
def zIp (hp:List (Nat×Ent)):List Nat:=hp.flatMap (fun x=>x.1::x.2.men)
def Rel (Γ:Ctx) (σ:St) (a:Act) (w:World):Prop:=(∀t,t∈zLU σ.tm∨t∈zIp σ.hp→t∈σ.us)∧∃β bs,RelB Γ β bs σ a w
theorem zBR.frame {β β':Nat→Loc} {N N':Nat→Prop} {w w':World} {L:Loc} {bs:List Nat} {e:Ent} (hN:∀b,N b→N' b∧w'.heap[b]? =w.heap[b]?)
  (hb:∀b∈bs,w'.heap[b]? =w.heap[b]?) (hL:L.nil=false→w'.heap[L.b]? =w.heap[L.b]?) (hm:∀t∈e.men,β' t=β t) (h:zBR β N w L bs e):zBR β' N' w' L bs e:=by
 cases e with
 |box cs=>
  obtain ⟨h0,h1,ws,h2,h3,h4⟩:=h
  exact ⟨h0,h1,ws,h2.frame (hL h0),h3,zK.frame hN cs true ws bs hb hm h4⟩
 |row z xs=>
  obtain ⟨h1,h2,h⟩:=h
  refine ⟨h1,h2,?_⟩
  rcases h with h|⟨h0,ws,h3,h4⟩
  ·exact .inl h
  ·exact .inr ⟨h0,ws,h3.frame (hL h0),zZ.frame hN xs ws bs hb h4⟩
 |lent z xs i j t n=>
  obtain ⟨h0,h1,h2,ws,h3,h4,v,h5,h6⟩:=h
  exact ⟨h0,h1,h2,ws,h3.frame (hL h0),zZ.frame hN _ ws bs hb h4,v,h5,Rep.frame hN _ _ _ _ (by simp) (fun k hk=>hm k (by simpa [Ent.men,D.men] using hk)) h6⟩
theorem vS.frame {β β':Nat→Loc} {N N':Nat→Prop} {w w':World} (hN:∀b,N b→N' b∧w'.heap[b]? =w.heap[b]?):∀(hp:List (Nat×Ent)) (bs:List Nat),
  (∀b∈bs,w'.heap[b]? =w.heap[b]?)→(∀t∈hp.flatMap (fun x=>x.1::x.2.men),β' t=β t)→vS β N w hp bs→vS β' N' w' hp bs
 |[],bs,_,_,h=>h
 |(t,e)::hp,bs,hb,hm,h=>by
  obtain ⟨b1,b2,h1,h2,h3⟩:=h
  subst h1
  have ht:β' t=β t:=hm t (by simp)
  refine ⟨b1,b2,by rw [ht],?_,vS.frame hN hp b2 (fun b hb'=>hb b (by simp [hb'])) (fun t' ht'=>hm t' (by simp only [List.flatMap_cons,qJ]; exact .inr ht')) h3⟩
  rw [ht]
  exact h2.frame hN (fun b hb'=>hb b (by simp [hb'])) (fun hn=>hb _ (by simp [Loc.own,hn])) (fun t' ht'=>hm t' (by simp [ht']))
theorem zOX.frame {β β':Nat→Loc} {N N':Nat→Prop} {w w':World} {tmps:Array Value} {tm:List (Nat×D)} (hN:∀b,N b→N' b∧w'.heap[b]? =w.heap[b]?)
  (hm:∀t∈tm.flatMap (fun x=>x.2.men),β' t=β t) (h:zOX β N w tmps tm):zOX β' N' w' tmps tm:=by
 intro t d hd
 obtain ⟨v,h1,h2⟩:=h t d hd
 exact ⟨v,h1,Rep.frame hN d true v [] (by simp) (fun t' ht'=>hm t' (List.mem_flatMap.2 ⟨_,hd,ht'⟩)) h2⟩
theorem vS.get {β:Nat→Loc} {N:Nat→Prop} {w:World}:∀{hp:List (Nat×Ent)} {bs:List Nat} {t:Nat} {e:Ent},vS β N w hp bs→(t,e)∈hp→
  ∃b1,zBR β N w (β t) b1 e∧(∀b∈(β t).own,b∈bs)∧∀b∈b1,b∈bs
 |(t',e')::hp,bs,t,e,h,hm=>by
  obtain ⟨b1,b2,h1,h2,h3⟩:=h
  subst h1
  rcases List.mem_cons.1 hm with heq|hm
  ·cases heq
   exact ⟨b1,h2,fun b hb=>by simp [hb],fun b hb=>by simp [hb]⟩
  ·obtain ⟨b1',h4,h5,h6⟩:=vS.get h3 hm
   exact ⟨b1',h4,fun b hb=>by simp [h5 b hb],fun b hb=>by simp [h6 b hb]⟩
def yT (P:Program) {α:Type}:Sem α→Option α
 | .pure a=>some a
 | .program k=>yT P (k P)
 |_=>none
theorem zS {P:Program} {α:Type} (s:Sem α) (x:α) (w:World) (h:yT P s=some x):s.run P w= .ok x w:=by
 induction s with
 |pure a=>simp [yT] at h; simp [Sem.run,h]
 |program k ih=>simp only [yT] at h; simp only [Sem.run]; exact ih P h
 |_=>simp [yT] at h
end Go.Im
namespace Go.Im
open Go
structure Cert where
 tn:List (Nat×D):=[]
 hn:List (Nat×Ent):=[]
 out:Option D:=none
 hx:List Nat:=[]
 hw:List (Nat×Ent):=[]
 fr:List Nat:=[]
def Cert.outs (c:Cert) (dst:Option Nat):List (Nat×D):=
 match dst,c.out with
 |some t,some d=>[(t,d)]
 |_,_=>[]
theorem zI2 {c:Cert} {dst:Option Nat} {x:Nat×D} (h:x∈c.outs dst):dst=some x.1:=by
 unfold Cert.outs at h
 split at h
 ·simp at h; rw [h]
 ·simp at h
def Cert.men (c:Cert):List Nat:=(match c.out with|some d=>d.men|none=>[])++zIp c.hw
def St.upd (σ:St) (dst:Option Nat) (c:Cert):St:=
 ⟨c.outs dst++σ.tm.filter (fun x=>dst !=some x.1),c.hw++σ.hp.filter (fun x=> !c.hx.contains x.1),c.men++σ.us⟩
structure Eqv (σ σ':St):Prop where
 tm:σ.tm.Perm σ'.tm
 hp:σ.hp.Perm σ'.hp
 us:∀t,t∈σ.us↔t∈σ'.us
theorem Eqv.refl (σ:St):Eqv σ σ:=⟨.refl _,.refl _,fun _=>Iff.rfl⟩
theorem Eqv.symm {σ σ':St} (h:Eqv σ σ'):Eqv σ' σ:=⟨h.tm.symm,h.hp.symm,fun t=>(h.us t).symm⟩
theorem Eqv.trans {σ σ' σ'':St} (h:Eqv σ σ') (h':Eqv σ' σ''):Eqv σ σ'':=⟨h.tm.trans h'.tm,h.hp.trans h'.hp,fun t=>(h.us t).trans (h'.us t)⟩
theorem Eqv.upd {σ σ':St} (h:Eqv σ σ') (dst:Option Nat) (c:Cert):Eqv (σ.upd dst c) (σ'.upd dst c):=
 ⟨(h.tm.filter _).append_left _,(h.hp.filter _).append_left _,fun t=>by simp [St.upd,h.us t]⟩
def Nd (c:Cert) (σ:St):Prop:=(∀x∈c.tn,x∈σ.tm)∧(∀x∈c.hn,x∈σ.hp)∧(∀t∈c.fr,t∉σ.us)
theorem Nd.eqv {c:Cert} {σ σ':St} (e:Eqv σ σ') (h:Nd c σ):Nd c σ':=
 ⟨fun x hx=>e.tm.mem_iff.1 (h.1 x hx),fun x hx=>e.hp.mem_iff.1 (h.2.1 x hx),fun t ht h'=>h.2.2 t ht ((e.us t).2 h')⟩
def apart (d1:Option Nat) (c1:Cert) (d2:Option Nat) (c2:Cert):Bool:=
 (match d1 with|some t=>d2 !=some t&&c2.tn.all (fun x=>x.1 !=t)|none=>true)&&
 (match d2 with|some t=>c1.tn.all (fun x=>x.1 !=t)|none=>true)&&
 c1.hx.all (fun t=>c2.hn.all (fun x=>x.1 !=t)&&c2.hw.all (fun x=>x.1 !=t))&&
 c2.hx.all (fun t=>c1.hn.all (fun x=>x.1 !=t)&&c1.hw.all (fun x=>x.1 !=t))&&
 c1.hw.all (fun x=>c2.hn.all (fun y=>x.1 !=y.1))&&
 c1.fr.all (fun t=> !c2.men.contains t)
theorem apart_spec {d1 d2:Option Nat} {c1 c2:Cert} (h:apart d1 c1 d2 c2=true):
  (∀t,d1=some t→d2≠some t∧∀x∈c2.tn,x.1≠t)∧(∀t,d2=some t→∀x∈c1.tn,x.1≠t)∧
  (∀t∈c1.hx,(∀x∈c2.hn,x.1≠t)∧(∀x∈c2.hw,x.1≠t))∧(∀t∈c2.hx,(∀x∈c1.hn,x.1≠t)∧(∀x∈c1.hw,x.1≠t))∧
  (∀x∈c1.hw,∀y∈c2.hn,x.1≠y.1)∧(∀t∈c1.fr,t∉c2.men):=by
 simp only [apart,Bool.and_eq_true] at h
 obtain ⟨⟨⟨⟨⟨h1,h2⟩,h3⟩,h4⟩,h5⟩,h6⟩:=h
 refine ⟨?_,?_,?_,?_,?_,?_⟩
 ·rintro t rfl
  simp only [Bool.and_eq_true] at h1
  exact ⟨by simpa using h1.1,by simpa using h1.2⟩
 ·rintro t rfl
  simpa using h2
 ·simpa using h3
 ·simpa using h4
 ·intro x hx y hy
  have:=List.all_eq_true.1 h5 x hx
  have:=List.all_eq_true.1 this y hy
  simpa using this
 ·simpa using h6
theorem swap {σ:St} {d1 d2:Option Nat} {c1 c2:Cert} (h:apart d1 c1 d2 c2=true) (n1:Nd c1 σ) (n2:Nd c2 (σ.upd d1 c1)):
  Nd c2 σ∧Nd c1 (σ.upd d2 c2)∧Eqv ((σ.upd d1 c1).upd d2 c2) ((σ.upd d2 c2).upd d1 c1):=by
 obtain ⟨h1,h2,h3,h4,h5,h6⟩:=apart_spec h
 refine ⟨⟨?_,?_,?_⟩,⟨?_,?_,?_⟩,⟨?_,?_,?_⟩⟩
 ·intro x hx
  have:=n2.1 x hx
  simp only [St.upd,qJ,List.mem_filter] at this
  rcases this with h'|h'
  ·exact absurd rfl ((h1 _ (zI2 h')).2 _ hx)
  ·exact h'.1
 ·intro x hx
  have:=n2.2.1 x hx
  simp only [St.upd,qJ,List.mem_filter] at this
  rcases this with h'|h'
  ·exact absurd rfl (h5 x h' x hx)
  ·exact h'.1
 ·intro t ht h'
  exact n2.2.2 t ht (by simp [St.upd,h'])
 ·intro x hx
  simp only [St.upd,qJ,List.mem_filter]
  refine .inr ⟨n1.1 x hx,?_⟩
  simp only [bne_iff_ne,ne_eq]
  intro hd
  exact h2 _ hd x hx rfl
 ·intro x hx
  simp only [St.upd,qJ,List.mem_filter]
  refine .inr ⟨n1.2.1 x hx,?_⟩
  simp only [Bool.not_eq_eq_eq_not,Bool.not_true,List.contains_eq_mem,decide_eq_false_iff_not]
  intro hd
  exact (h4 _ hd).1 x hx rfl
 ·intro t ht h'
  simp only [St.upd,qJ] at h'
  rcases h' with h'|h'
  ·exact h6 t ht h'
  ·exact n1.2.2 t ht h'
 ·simp only [St.upd,List.filter_append,List.filter_filter]
  have e1:(c1.outs d1).filter (fun x=>d2 !=some x.1)=c1.outs d1:=by
   rw [List.filter_eq_self]
   intro x hx
   simpa using (h1 _ (zI2 hx)).1
  have e2:(c2.outs d2).filter (fun x=>d1 !=some x.1)=c2.outs d2:=by
   rw [List.filter_eq_self]
   intro x hx
   simp only [bne_iff_ne,ne_eq]
   intro he
   exact (h1 _ he).1 (zI2 hx)
  rw [e1,e2,←List.append_assoc,←List.append_assoc]
  refine List.Perm.append (List.perm_append_comm) ?_
  rw [show (fun x:Nat×D=>d2 !=some x.1&&d1 !=some x.1)=(fun x=>d1 !=some x.1&&d2 !=some x.1) from by funext x; exact Bool.and_comm _ _]
 ·simp only [St.upd,List.filter_append,List.filter_filter]
  have e1:c1.hw.filter (fun x=> !c2.hx.contains x.1)=c1.hw:=by
   rw [List.filter_eq_self]
   intro x hx
   simp only [Bool.not_eq_eq_eq_not,Bool.not_true,List.contains_eq_mem,decide_eq_false_iff_not]
   intro he
   exact (h4 _ he).2 x hx rfl
  have e2:c2.hw.filter (fun x=> !c1.hx.contains x.1)=c2.hw:=by
   rw [List.filter_eq_self]
   intro x hx
   simp only [Bool.not_eq_eq_eq_not,Bool.not_true,List.contains_eq_mem,decide_eq_false_iff_not]
   intro he
   exact (h3 _ he).2 x hx rfl
  rw [e1,e2,←List.append_assoc,←List.append_assoc]
  refine List.Perm.append (List.perm_append_comm) ?_
  rw [show (fun x:Nat×Ent=> !c2.hx.contains x.1&& !c1.hx.contains x.1)=(fun x=> !c1.hx.contains x.1&& !c2.hx.contains x.1) from by funext x; exact Bool.and_comm _ _]
 ·intro t
  simp only [St.upd,qJ]
  exact ⟨fun h=>by rcases h with h|h|h<;>simp [h],fun h=>by rcases h with h|h|h<;>simp [h]⟩
def zMf (ops:Array Oper) (cs:Nat→Cert) (F:St→Prop):Nat→Array Bool→St→Prop
 |0,listed,σ=>Region.ready .any ops listed=[]∧F σ
 |k+1,listed,σ=>(Region.ready .any ops listed=[]→F σ)∧
  ∀i∈Region.ready .any ops listed,Nd (cs i) σ∧zMf ops cs F k (listed.setIfInBounds i true) (σ.upd ((ops[i]?).bind (·.dst)) (cs i))
theorem zMf.eqv {ops:Array Oper} {cs:Nat→Cert} {F:St→Prop} (hF:∀σ σ',Eqv σ σ'→F σ→F σ'):∀(k:Nat) (listed:Array Bool) (σ σ':St),Eqv σ σ'→
  zMf ops cs F k listed σ→zMf ops cs F k listed σ'
 |0,_,σ,σ',e,h=>⟨h.1,hF _ _ e h.2⟩
 |k+1,_,σ,σ',e,h=>⟨fun h0=>hF _ _ e (h.1 h0),fun i hi=>⟨(h.2 i hi).1.eqv e,zMf.eqv hF k _ _ _ (e.upd _ _) (h.2 i hi).2⟩⟩
theorem zMf.first {ops:Array Oper} {cs:Nat→Cert} {F:St→Prop} (hF:∀σ σ',Eqv σ σ'→F σ→F σ') {i:Nat} (dp:List Nat)
  (hD:∀j∈dp,∀oj,ops[j]? =some oj→∃e∈oj.after,Region.binds .any e=true∧(e.on=i∨e.on∈dp)):
  ∀(fuel:Nat) (listed:Array Bool) (σ:St),
   (∀j oj,ops[j]? =some oj→j≠i→listed.getD j true=false→j∉dp→
    apart ((ops[i]?).bind (·.dst)) (cs i) ((ops[j]?).bind (·.dst)) (cs j)=true)→
   (∀j∈dp,listed.getD j false=false)→
   i∈Region.ready .any ops listed→Nd (cs i) σ→
   zMf ops cs F fuel (listed.setIfInBounds i true) (σ.upd ((ops[i]?).bind (·.dst)) (cs i))→zMf ops cs F (fuel+1) listed σ:=by
 intro fuel
 induction fuel with
 |zero=>
  intro listed σ _ _ hr hn H
  refine ⟨fun h=>(by rw [h] at hr; cases hr),fun j hj=>?_⟩
  by_cases hji:j=i
  ·subst hji; exact ⟨hn,H⟩
  ·have:=ready_mono hj hji
   rw [H.1] at this
   cases this
 |succ fuel ih=>
  intro listed σ hfree hun0 hr hn H
  refine ⟨fun h=>(by rw [h] at hr; cases hr),fun j hj=>?_⟩
  by_cases hji:j=i
  ·subst hji; exact ⟨hn,H⟩
  ·have h1:=H.2 j (ready_mono hj hji)
   obtain ⟨hjun,oj,hoj,hall⟩:=mem_ready.1 hj
   have hilt:listed.getD i false=false:=by
    have h0:=(mem_ready.1 hr).1
    rcases Nat.lt_or_ge i listed.size with h'|h'
    ·simp [h'] at h0 ⊢; exact h0
    ·simp [Array.getElem?_eq_none h']
   have hnot:j∉dp:=fun hin=>by
    obtain ⟨e,he,hb,heq⟩:=hD j hin oj hoj
    have h1:=hall e he hb
    rcases heq with heq|heq
    ·rw [heq] at h1
     rcases Nat.lt_or_ge i listed.size with h'|h'
     ·simp [h'] at hilt h1; rw [hilt] at h1; cases h1
     ·simp [Array.getElem?_eq_none h'] at h1
    ·have hlt:=hun0 _ heq
     rcases Nat.lt_or_ge e.on listed.size with h'|h'
     ·simp [h'] at hlt h1; rw [hlt] at h1; cases h1
     ·simp [Array.getElem?_eq_none h'] at h1
   obtain ⟨s1,s2,s3⟩:=swap (hfree j oj hoj hji hjun hnot) hn h1.1
   have hfree':∀k ok,ops[k]? =some ok→k≠i→(listed.setIfInBounds j true).getD k true=false→
     k∉dp→apart ((ops[i]?).bind (·.dst)) (cs i) ((ops[k]?).bind (·.dst)) (cs k)=true:=fun k ok hk hki hun hno=>by
    refine hfree k ok hk hki ?_ hno
    by_cases hjk:j=k
    ·subst hjk; exact hjun
    ·rw [getD_set_ne true hjk] at hun; exact hun
   have hun':∀k∈dp,(listed.setIfInBounds j true).getD k false=false:=fun k hk=>by
    by_cases hjk:j=k
    ·subst hjk; exact absurd hk hnot
    ·rw [getD_set_ne false hjk]; exact hun0 k hk
   refine ⟨s1,ih (listed.setIfInBounds j true) _ hfree' hun' (ready_mono hr (Ne.symm hji)) s2 ?_⟩
   rw [Array.setIfInBounds_comm _ _ hji]
   exact zMf.eqv hF _ _ _ _ s3 h1.2
def zJC (ops:Array Oper) (k:Nat):Nat→List Nat→List Nat
 |0,acc=>acc
 |n+1,acc=>zJC ops k n (match ops[ops.size-(n+1)]? with
  |some oj=>if oj.after.any (fun e=>Region.binds .any e&&(e.on==k||acc.contains e.on)) then (ops.size-(n+1))::acc else acc
  |none=>acc)
theorem zIZ {ops:Array Oper} {k:Nat}:∀(n:Nat) (acc:List Nat),(∀j∈acc,∀oj,ops[j]? =some oj→∃e∈oj.after,Region.binds .any e=true∧(e.on=k∨e.on∈acc))→
  ∀j∈zJC ops k n acc,∀oj,ops[j]? =some oj→∃e∈oj.after,Region.binds .any e=true∧(e.on=k∨e.on∈zJC ops k n acc)
 |0,acc,h=>h
 |n+1,acc,h=>by
  unfold zJC
  apply zIZ n
  split
  ·rename_i oj hoj
   split
   ·rename_i hany
    rw [Array.any_eq_true] at hany
    obtain ⟨m,hm,hb⟩:=hany
    simp only [Bool.and_eq_true,Bool.or_eq_true,beq_iff_eq,List.contains_eq_mem,qM] at hb
    intro j hj oj' hoj'
    rcases List.mem_cons.1 hj with rfl|hj
    ·rw [hoj] at hoj'
     cases hoj'
     refine ⟨_,Array.getElem_mem hm,hb.1,?_⟩
     rcases hb.2 with hb2|hb2
     ·exact .inl hb2
     ·exact .inr (List.mem_cons_of_mem _ hb2)
    ·obtain ⟨e,h1,h2,h3⟩:=h j hj oj' hoj'
     refine ⟨e,h1,h2,?_⟩
     rcases h3 with h3|h3
     ·exact .inl h3
     ·exact .inr (List.mem_cons_of_mem _ h3)
   ·exact h
  ·exact h
def zQL (ops:Array Oper) (cs:Nat→Cert):Nat→Nat→Array Bool→Bool
 |0,_,listed=>(Region.ready .any ops listed).isEmpty
 |n+1,k,listed=>(Region.ready .any ops listed).contains k&&
  (zJC ops k ops.size []).all (fun j=> !listed.getD j false)&&
  (List.range ops.size).all (fun j=>j==k||listed.getD j true||(match ops[j]? with
   |some oj=>(zJC ops k ops.size []).contains j||apart ((ops[k]?).bind (·.dst)) (cs k) (oj.dst) (cs j)
   |none=>true))&&
  zQL ops cs n (k+1) (listed.setIfInBounds k true)
def zGL (ops:Array Oper) (cs:Nat→Cert) (F:St→Prop):Nat→Nat→St→Prop
 |0,_,σ=>F σ
 |n+1,k,σ=>Nd (cs k) σ∧zGL ops cs F n (k+1) (σ.upd ((ops[k]?).bind (·.dst)) (cs k))
theorem zMf.lex {ops:Array Oper} {cs:Nat→Cert} {F:St→Prop} (hF:∀σ σ',Eqv σ σ'→F σ→F σ'):∀(n k:Nat) (listed:Array Bool) (σ:St),
  zQL ops cs n k listed=true→zGL ops cs F n k σ→zMf ops cs F n listed σ
 |0,_,_,_,hB,h=>⟨by simpa [zQL] using hB,h⟩
 |n+1,k,listed,σ,hB,h=>by
  simp only [zQL,Bool.and_eq_true] at hB
  obtain ⟨⟨⟨hr,hdl⟩,hf⟩,hB'⟩:=hB
  refine zMf.first hF (zJC ops k ops.size []) (zIZ ops.size [] (by simp)) n listed σ ?_ ?_ (by simpa using hr) h.1 (zMf.lex hF n (k+1) _ _ hB' h.2)
  ·intro j oj hj hjk hun hno
   have hlt:j<ops.size:=by
    rcases Nat.lt_or_ge j ops.size with h'|h'
    ·exact h'
    ·simp [Array.getElem?_eq_none h'] at hj
   have:=List.all_eq_true.1 hf j (List.mem_range.2 hlt)
   rw [hj,hun] at this
   simp only [Bool.or_false,Bool.or_eq_true,beq_iff_eq,hjk,false_or,List.contains_eq_mem,qM] at this
   rcases this with h'|h'
   ·exact absurd h' hno
   ·rw [hj]; exact h'
  ·intro j hj
   simpa using List.all_eq_true.1 hdl j hj
end Go.Im
namespace Go.Im
open Go
theorem vS.perm {β:Nat→Loc} {N:Nat→Prop} {w:World} {hp hp':List (Nat×Ent)} (h:hp.Perm hp'):∀{bs:List Nat},vS β N w hp bs→∃bs',bs.Perm bs'∧vS β N w hp' bs':=by
 induction h with
 |nil=>exact fun h=>⟨_,.refl _,h⟩
 |cons x _ ih=>
  rintro bs ⟨b1,b2,rfl,h2,h3⟩
  obtain ⟨b2',hp,h4⟩:=ih h3
  exact ⟨_,((hp.append_left b1).append_left _),b1,b2',rfl,h2,h4⟩
 |swap x y l=>
  rintro bs ⟨b1,b2,rfl,h2,b3,b4,rfl,h3,h4⟩
  refine ⟨(β x.1).own ++(b3++((β y.1).own ++(b1++b4))),?_,b3,_,rfl,h3,b1,b4,rfl,h2,h4⟩
  simp only [←List.append_assoc]
  refine List.Perm.append_right _ ?_
  rw [List.append_assoc,List.append_assoc ((β x.1).own ++b3)]
  exact List.perm_append_comm
 |trans _ _ ih1 ih2=>
  intro bs h
  obtain ⟨bs1,p1,h1⟩:=ih1 h
  obtain ⟨bs2,p2,h2⟩:=ih2 h1
  exact ⟨bs2,p1.trans p2,h2⟩
theorem NS.perm {Γ:Ctx} {w:World} {bs bs':List Nat} (h:bs.Perm bs'):NS Γ w bs=NS Γ w bs':=by
 funext b
 simp only [NS,h.mem_iff]
theorem Rel.eqv {Γ:Ctx} {σ σ':St} {a:Act} {w:World} (e:Eqv σ σ') (h:Rel Γ σ a w):Rel Γ σ' a w:=by
 obtain ⟨h0,β,bs,h⟩:=h
 obtain ⟨bs',hp,h1⟩:=vS.perm e.hp h.hp
 refine ⟨fun t ht=>(e.us t).1 (h0 t ?_),β,bs',?_⟩
 ·rcases ht with ht|ht
  ·exact .inl ((e.tm.flatMap_right _).mem_iff.2 ht)
  ·exact .inr ((e.hp.flatMap_right _).mem_iff.2 ht)
 ·exact {defers:=h.defers,size:=h.size,keys:=(e.hp.map _).nodup_iff.1 h.keys,par:=h.par,grow:=h.grow,gh:=h.gh,quiet:=h.quiet,keep:=h.keep,hp:=NS.perm hp▸h1,nodup:=hp.nodup_iff.1 h.nodup,own:=fun b hb=>h.own b (hp.mem_iff.2 hb),tm:=fun t d hd=>by rw [←NS.perm hp]; exact h.tm t d (e.tm.mem_iff.2 hd)}
def Valid (Γ:Ctx) (ops:Array Oper) (o:Oper) (c:Cert):Prop:=
 ∀(σ:St) (a:Act) (w:World) (Q:Exit→Act→World→Prop),(∀t,o.dst=some t→t<Γ.nt)→Nd c σ→Rel Γ σ a w→
  if Region.wanted o (yielded ops a.tmps) then o.wp Γ.P a w (Rel Γ (σ.upd o.dst c)) Q else Rel Γ (σ.upd o.dst c) (a.put o.dst undef) w
theorem Valid.wpOp {Γ:Ctx} {ops:Array Oper} {c:Cert} {i:Nat} {σ:St} {a:Act} {w:World} {Q:Exit→Act→World→Prop} {K:Act→World→Prop} (hi:i<ops.size)
  (hv:∀o,ops[i]? =some o→Valid Γ ops o c∧∀t,o.dst=some t→t<Γ.nt) (hn:Nd c σ) (hr:Rel Γ σ a w) (hK:∀a w,Rel Γ (σ.upd ((ops[i]?).bind (·.dst)) c) a w→K a w):Go.wpOp Γ.P ops Q i K a w:=by
 unfold Go.wpOp
 have hget:ops[i]? =some ops[i]:=Array.getElem?_eq_getElem hi
 rw [hget] at hK ⊢
 simp only [qA] at hK ⊢
 have:=(hv _ hget).1 σ a w Q (hv _ hget).2 hn hr
 split
 ·rename_i hw
  rw [if_pos hw] at this
  exact .inl (Oper.wp_mono hK this)
 ·rename_i hw
  rw [if_neg hw] at this
  exact hK _ _ this
theorem zPz {ops:Array Oper} {md:Region.Mode} {listed:Array Bool} {i:Nat} (h:i∈Region.ready md ops listed):i<ops.size:=by
 unfold Region.ready at h
 exact List.mem_range.1 (List.mem_filter.1 h).1
theorem zNl {Γ:Ctx} {ops:Array Oper} {cs:Nat→Cert} {F:St→Prop} {Q:Exit→Act→World→Prop} (hv:∀i o,ops[i]? =some o→Valid Γ ops o (cs i)∧∀t,o.dst=some t→t<Γ.nt)
  (hF:∀σ a w,F σ→Rel Γ σ a w→Q .normal a w):∀(k:Nat) (listed:Array Bool) (σ:St) (a:Act) (w:World),zMf ops cs F k listed σ→Rel Γ σ a w→
  wpAny Γ.P .any ops Q k listed a w
 |0,_,σ,a,w,h,hr=>⟨h.1,hF _ _ _ h.2 hr⟩
 |k+1,_,σ,a,w,h,hr=>⟨fun h0=>hF _ _ _ (h.1 h0) hr,fun i hi=>
   Valid.wpOp (zPz hi) (hv i) (h.2 i hi).1 hr (fun a' w' hr'=>zNl hv hF k _ _ a' w' (h.2 i hi).2 hr')⟩
theorem zMV {Γ:Ctx} {ops:Array Oper} {cs:Nat→Cert} {F:St→Prop} {Q:Exit→Act→World→Prop} (hv:∀i o,ops[i]? =some o→Valid Γ ops o (cs i)∧∀t,o.dst=some t→t<Γ.nt)
  (hF:∀σ a w,F σ→Rel Γ σ a w→Q .normal a w):∀(n k:Nat) (σ:St) (a:Act) (w:World),k+n=ops.size→zGL ops cs F n k σ→Rel Γ σ a w→
  wpOps Γ.P ops Q (List.range' k n) a w
 |0,k,σ,a,w,_,h,hr=>by simpa [wpOps] using hF _ _ _ h hr
 |n+1,k,σ,a,w,hk,h,hr=>by
  rw [List.range'_succ,wpOps_cons]
  exact Valid.wpOp (by omega) (hv k) h.1 hr (fun a' w' hr'=>zMV hv hF n (k+1) _ a' w' (by omega) h.2 hr')
theorem Rel.drew {Γ:Ctx} {σ:St} {a:Act} {w:World} (h:Rel Γ σ a w) (n:Nat):Rel Γ σ a {w with drawn:=n}:=by
 obtain ⟨h0,β,bs,h⟩:=h
 refine ⟨h0,β,bs,{defers:=h.defers,size:=h.size,keys:=h.keys,par:=h.par,grow:=h.grow,gh:=h.gh,quiet:=h.quiet,keep:=h.keep,hp:=?_,nodup:=h.nodup,own:=h.own,tm:=?_}⟩
 ·exact vS.frame (β':=β) (w:=w) (N:=NS Γ w bs) (w':= {w with drawn:=n}) (N':=NS Γ {w with drawn:=n} bs) (fun b hb=>⟨hb,rfl⟩) _ _ (fun _ _=>rfl) (fun _ _=>rfl) h.hp
 ·exact zOX.frame (β':=β) (w:=w) (N:=NS Γ w bs) (w':= {w with drawn:=n}) (N':=NS Γ {w with drawn:=n} bs) (fun b hb=>⟨hb,rfl⟩) (fun _ _=>rfl) h.tm
theorem region {Γ:Ctx} {id:Nat} {ops:Array Oper} {draw:Bool} {cs:Nat→Cert} {σ σ':St} {a:Act} {w:World} (hm:Γ.P.follows .mixedOrders =true)
  (hv:∀i o,ops[i]? =some o→Valid Γ ops o (cs i)∧∀t,o.dst=some t→t<Γ.nt) (hd:draw=true→zQL ops cs ops.size 0 (Array.replicate ops.size false)=true)
  (hrun:zGL ops cs (fun s=>Eqv s σ') ops.size 0 σ) (hr:Rel Γ σ a w):
  (Code.region id ops draw).wp Γ.P (fun e a' w'=>e= .normal ∧Rel Γ σ' a' w') a w:=by
 cases draw with
 |true=>
  refine wp_region_any hm (zNl hv (F:=fun s=>Eqv s σ') (fun s a w e h=>⟨rfl,h.eqv e⟩) _ _ σ a _ ?_ (hr.drew _))
  exact zMf.lex (fun _ _ e h=>e.symm.trans h) _ _ _ _ (hd rfl) hrun
 |false=>
  refine wp_region ?_
  rw [List.range_eq_range']
  exact zMV hv (F:=fun s=>Eqv s σ') (fun s a w e h=>⟨rfl,h.eqv e⟩) _ _ σ a w (by omega) hrun hr
end Go.Im
namespace Go.Im
open Go
theorem zJ3 {α:Type} (l:List α):l.filter (fun _=>true)=l:=by simp
def OpF (c:Cert) (x:Operand) (d:D):Prop:=
 match x with
 | .tmp t=>(t,d)∈c.tn
 | .const v=>d= .sc v
 | .func f=>d= .fn f []
 | .global _=>False
theorem OpF.rep {Γ:Ctx} {β:Nat→Loc} {bs:List Nat} {σ:St} {a:Act} {w:World} {c:Cert} {x:Operand} {d:D} (h:OpF c x d) (hn:Nd c σ) (hr:RelB Γ β bs σ a w):
  Rep β (NS Γ w bs) w true d (a.eval x) []:=by
 cases x with
 |tmp t=>
  obtain ⟨v,h1,h2⟩:=hr.tm t d (hn.1 _ h)
  have:a.eval (.tmp t)=v:=by simp [Act.eval,Array.getD_eq_getD_getElem?,h1]
  rw [this]; exact h2
 |const v=>simp only [OpF] at h; subst h; simp [Rep,Act.eval]
 |func f=>
  simp only [OpF] at h; subst h
  simp only [Rep,Act.eval]
  exact ⟨trivial,trivial,[],rfl,rfl,rfl⟩
 |global g=>exact absurd h id
theorem zRa {a:Act} {t:Nat} {v:Value} (h:t<a.tmps.size):(a.put (some t) v).tmps[t]? =some v:=by
 simp [Act.put,h]
theorem zSb {a:Act} {dst:Option Nat} {t:Nat} {v:Value} (h:dst≠some t):(a.put dst v).tmps[t]? =a.tmps[t]? :=by
 cases dst with
 |none=>rfl
 |some d=>simp only [Act.put]; rw [Array.getElem?_setIfInBounds_ne]; intro e; exact h (by rw [e])
theorem zML {a:Act} {dst:Option Nat} {v:Value}:(a.put dst v).tmps.size =a.tmps.size:=by
 cases dst<;>simp [Act.put]
theorem zO3 {a:Act} {dst:Option Nat} {v:Value}:(a.put dst v).defers =a.defers:=by
 cases dst<;>rfl
theorem zOX.put {β:Nat→Loc} {N:Nat→Prop} {w:World} {a:Act} {σ:St} {dst:Option Nat} {c:Cert} {v:Value} (h:zOX β N w a.tmps σ.tm)
  (hd:∀t,dst=some t→t<a.tmps.size) (ho:∀d,c.out=some d→Rep β N w true d v []):zOX β N w (a.put dst v).tmps (σ.upd dst c).tm :=by
 intro t d hm
 simp only [St.upd,qJ,List.mem_filter] at hm
 rcases hm with hm|⟨hm,hne⟩
 ·have e:=zI2 hm
  simp only at e
  subst e
  refine ⟨v,zRa (hd t rfl),ho d ?_⟩
  unfold Cert.outs at hm
  split at hm
  ·simp at hm; obtain ⟨rfl,rfl⟩:=hm; assumption
  ·simp at hm
 ·obtain ⟨u,h1,h2⟩:=h t d hm
  refine ⟨u,?_,h2⟩
  rw [zSb]
  ·exact h1
  ·simpa using hne
theorem Rel.put {Γ:Ctx} {β:Nat→Loc} {bs:List Nat} {σ:St} {a:Act} {w:World} {dst:Option Nat} {c:Cert} {v:Value}
  (h0:∀t,t∈zLU σ.tm∨t∈zIp σ.hp→t∈σ.us) (h:RelB Γ β bs σ a w) (hd:∀t,dst=some t→t<Γ.nt)
  (hx:c.hx=[]) (hw:c.hw=[]) (ho:∀d,c.out=some d→Rep β (NS Γ w bs) w true d v []):Rel Γ (σ.upd dst c) (a.put dst v) w:=by
 refine ⟨?_,β,bs,{defers:=zO3.trans h.defers,size:=zML.trans h.size,keys:=?_,par:=h.par,grow:=h.grow,gh:=h.gh,quiet:=h.quiet,keep:=h.keep,hp:=?_,nodup:=h.nodup,own:=h.own,tm:=zOX.put h.tm (by rw [h.size]; exact hd) ho}⟩
 ·intro t ht
  simp only [St.upd,hx,hw,List.nil_append,List.contains_nil,Bool.not_false,zJ3] at ht
  simp only [St.upd,qJ]
  rcases ht with ht|ht
  ·simp only [zLU,List.mem_flatMap,qJ,List.mem_filter] at ht
   obtain ⟨x,hx1|hx1,hx2⟩:=ht
   ·refine .inl ?_
    unfold Cert.outs at hx1
    split at hx1
    ·simp at hx1; subst hx1
     simp only [Cert.men,qJ]
     refine .inl ?_
     rename_i h1; rw [h1]; exact hx2
    ·simp at hx1
   ·exact .inr (h0 t (.inl (List.mem_flatMap.2 ⟨x,hx1.1,hx2⟩)))
  ·exact .inr (h0 t (.inr ht))
 ·simp only [St.upd,hx,hw,List.nil_append,List.contains_nil,Bool.not_false,zJ3]
  exact h.keys
 ·simp only [St.upd,hx,hw,List.nil_append,List.contains_nil,Bool.not_false,zJ3]
  exact h.hp
theorem uW {Γ:Ctx} {ops:Array Oper} {o:Oper} {c:Cert} (hg:o.guard=none) (hx:c.hx=[]) (hw:c.hw=[])
  (h:∀(β:Nat→Loc) (bs:List Nat) (σ:St) (a:Act) (w:World),Nd c σ→RelB Γ β bs σ a w→
   ∃v,(execOp a.eval o).run Γ.P w= .ok (.value v) w∧∀d,c.out=some d→Rep β (NS Γ w bs) w true d v []):Valid Γ ops o c:=by
 intro σ a w Q hd hn ⟨h0,β,bs,hr⟩
 have hwt:Region.wanted o (yielded ops a.tmps)=true:=by simp [Region.wanted,hg]
 rw [if_pos hwt]
 obtain ⟨v,h1,h2⟩:=h β bs σ a w hn hr
 unfold Oper.wp
 rw [h1,Oper.upon_value]
 exact Rel.put h0 hr hd hx hw h2
theorem zFT {Γ:Ctx} {ops:Array Oper} {o o':Oper} {c:Cert} {g:Nat} {b:Bool} {t:Nat} (hg:o.guard=some (g,b)) (hgd:(ops[g]?).bind (·.dst)=some t)
  (ho:o'= {o with guard:=none}) (hv:Valid Γ ops o' c):Valid Γ ops o {c with tn:=(t,.sc (.bool b))::c.tn}:=by
 intro σ a w Q hd hn hr
 obtain ⟨h0,β,bs,hrb⟩:=hr
 obtain ⟨v,h1,h2⟩:=hrb.tm t _ (hn.1 (t,.sc (.bool b)) (by simp))
 simp only [Rep] at h2
 obtain ⟨rfl,_⟩:=h2
 have hwt:Region.wanted o (yielded ops a.tmps)=true:=by simp [Region.wanted,hg,yielded,hgd,h1]
 rw [if_pos hwt]
 have hwt':Region.wanted o' (yielded ops a.tmps)=true:=by simp [Region.wanted,ho]
 have:=hv σ a w Q (by rw [ho]; exact hd) ⟨fun x hx=>hn.1 x (by simp [hx]),hn.2.1,hn.2.2⟩ ⟨h0,β,bs,hrb⟩
 rw [if_pos hwt'] at this
 have e1:execOp a.eval o'=execOp a.eval o:=by subst ho; rfl
 have e2:o'.dst=o.dst:=by subst ho; rfl
 unfold Oper.wp at this ⊢
 rw [e1] at this
 subst ho
 exact this
theorem valid_skip {Γ:Ctx} {ops:Array Oper} {o:Oper} {g:Nat} {b:Bool} {t:Nat} (hg:o.guard=some (g,!b)) (hgd:(ops[g]?).bind (·.dst)=some t):
  Valid Γ ops o {tn:=[(t,.sc (.bool b))]}:=by
 intro σ a w Q hd hn hr
 obtain ⟨h0,β,bs,hrb⟩:=hr
 obtain ⟨v,h1,h2⟩:=hrb.tm t _ (hn.1 (t,.sc (.bool b)) (by simp))
 simp only [Rep] at h2
 obtain ⟨rfl,_⟩:=h2
 have hwt:Region.wanted o (yielded ops a.tmps)=false:=by simp [Region.wanted,hg,yielded,hgd,h1]
 rw [if_neg (by simp [hwt])]
 exact Rel.put h0 hrb hd rfl rfl (by simp)
end Go.Im
namespace Go.Im
open Go
theorem zE3 (b off n:Nat):Addr.add ⟨b,off,none⟩ n=⟨b,off+n,none⟩:=by
 unfold Addr.add
 split
 ·rename_i h; subst h; rfl
 ·rfl
theorem cell_of {w:World} {b off:Nat} {arr:Array Value} {e:TypeId} {fz:Nat×Nat} (h:w.heap[b]? =some (.cells arr e fz)):w.cell? ⟨b,off,none⟩=arr[off]? :=by
 simp [World.cell?,h]
theorem run_bind {P:Program} {α β:Type} (s:Sem α) (f:α→Sem β) (w:World):(s >>= f).run P w=match s.run P w with
  | .ok a w'=>(f a).run P w'
  | .halt h w'=>.halt h w':=by
 show (Sem.bind s f).run P w=_
 induction s generalizing w with
 |pure a=>simp [Sem.bind,Sem.run]
 |load m a k ih=>
  simp only [Sem.bind,Sem.run]
  cases hc:w.cell? a with
  |some v=>simp only [ih]
  |none=>
   simp only
   cases hf:w.farLoad P a (m== .atomic) with
   |ok r=>obtain ⟨v,l⟩:=r; simp only [ih]
   |error h=>simp only
 |store m a v k ih=>
  cases v<;>simp only [Sem.bind,Sem.run]<;>
   first
    |rfl
    |(cases hc:w.cell? a with
      |some v=>simp only; split<;>simp only [ih]
      |none=>
       simp only
       cases hf:w.farStore P a _ (m== .atomic) with
       |ok r=>obtain ⟨v,l⟩:=r; simp only [ih]
       |error h=>simp only)
 |new o k ih=>simp only [Sem.bind,Sem.run,ih]
 |shape r k ih=>simp only [Sem.bind,Sem.run,ih]
 |freeze a n k ih=>simp only [Sem.bind,Sem.run,ih]
 |frozen a k ih=>simp only [Sem.bind,Sem.run,ih]
 |getObj r k ih=>
  simp only [Sem.bind,Sem.run]
  split<;>simp only [ih]
 |setObj r o k ih=>
  simp only [Sem.bind,Sem.run]
  split<;>simp only [ih]
 |choose q k ih=>
  simp only [Sem.bind,Sem.run]
  split<;>simp only [ih]
 |sys c k ih=>simp only [Sem.bind,Sem.run,ih]
 |program k ih=>simp only [Sem.bind,Sem.run,ih]
 |mark m k ih=>simp only [Sem.bind,Sem.run,ih]
 |halt h=>simp [Sem.bind,Sem.run]
theorem run_bind_ok {P:Program} {α β:Type} {s:Sem α} {f:α→Sem β} {w w':World} {a:α} (h:s.run P w= .ok a w'):(s >>= f).run P w=(f a).run P w':=by
 rw [run_bind,h]
theorem run_pure {P:Program} {α:Type} (a:α) (w:World):(pure a:Sem α).run P w= .ok a w:=rfl
theorem run_load {P:Program} {w:World} {b off:Nat} {v:Value} (h:w.cell? ⟨b,off,none⟩=some v) (m:Mode):(load ⟨b,off,none⟩ m).run P w= .ok v w:=by
 simp [load,Sem.run,h]
theorem zIi {P:Program} {w:World} {b off:Nat}:∀(n i:Nat) (acc:Array Value) (ws:List Value),(∀k (h:k<ws.length),w.cell? ⟨b,off+i+k,none⟩=some ws[k])→ws.length=n→
  (loadCellsFrom ⟨b,off,none⟩ i n acc).run P w= .ok (acc++ws.toArray) w
 |0,i,acc,ws,_,hl=>by
  have:ws=[]:=List.length_eq_zero_iff.1 hl
  subst this
  simp [loadCellsFrom,run_pure]
 |n+1,i,acc,[],_,hl=>by simp at hl
 |n+1,i,acc,v::ws,h,hl=>by
  simp only [loadCellsFrom]
  rw [run_bind_ok (a:=v) (w':=w)]
  ·rw [zIi n (i+1) (acc.push v) ws]
   ·simp
   ·intro k hk
    have:=h (k+1) (by simp [hk])
    rw [show off+(i+1)+k=off+i+(k+1) by omega]
    simpa using this
   ·simpa using hl
  ·rw [zE3]
   exact run_load (h 0 (by simp)) _
theorem Has.cell {w:World} {b off:Nat} {ws:List Value} (h:Has w b off ws) (k:Nat) (hk:k<ws.length):w.cell? ⟨b,off+k,none⟩=some ws[k]:=by
 obtain ⟨arr,e,fz,h1,h2⟩:=h
 rw [cell_of h1]
 exact h2 k hk
theorem Has.sub {w:World} {b off:Nat} {ws:List Value} (h:Has w b off ws) (i n:Nat):Has w b (off+i) ((ws.drop i).take n):=by
 obtain ⟨arr,e,fz,h1,h2⟩:=h
 refine ⟨arr,e,fz,h1,fun k hk=>?_⟩
 have hk':i+k<ws.length:=by simp at hk; omega
 rw [show off+i+k=off+(i+k) by omega,h2 (i+k) hk']
 simp
theorem Has.drop {w:World} {b off:Nat} {ws:List Value} (h:Has w b off ws) (i:Nat):Has w b (off+i) (ws.drop i):=by
 have:=h.sub i ws.length
 rwa [List.take_of_length_le (by simp)] at this
theorem run_loadCells {P:Program} {w:World} {b off n:Nat} {ws:List Value} (h:Has w b off ws) (hn:ws.length=n):(loadCells ⟨b,off,none⟩ n).run P w= .ok ws.toArray w:=by
 unfold loadCells
 rw [zIi n 0 #[] ws]
 ·simp
 ·intro k hk; simpa using h.cell k hk
 ·exact hn
def putCells (w:World) (b off:Nat):List Value→World
 |[]=>w
 |v::vs=>putCells (w.setCell ⟨b,off,none⟩ v) b (off+1) vs
def zEV (arr:Array Value) (off:Nat):List Value→Array Value
 |[]=>arr
 |v::vs=>zEV (arr.setIfInBounds off v) (off+1) vs
theorem zEi (arr:Array Value) (off:Nat) (vs:List Value):(zEV arr off vs).size =arr.size:=by
 induction vs generalizing arr off with
 |nil=>rfl
 |cons v vs ih=>simp [zEV,ih]
theorem zGW (arr:Array Value) (off:Nat) (vs:List Value) (h:off+vs.length≤arr.size) (k:Nat):
  (zEV arr off vs)[k]? =if off≤k∧k<off+vs.length then vs[k-off]? else arr[k]? :=by
 induction vs generalizing arr off with
 |nil=>simp [zEV]; omega
 |cons v vs ih=>
  simp only [zEV]
  rw [ih _ _ (by simp at h ⊢; omega)]
  simp only [List.length_cons] at h ⊢
  by_cases hk:k=off
  ·subst hk
   rw [if_neg (by omega),if_pos (by omega)]
   simp only [Nat.sub_self,List.getElem?_cons_zero]
   rw [Array.getElem?_setIfInBounds_self_of_lt (by omega)]
  ·by_cases h1:off+1≤k∧k<off+1+vs.length
   ·rw [if_pos h1,if_pos (by omega)]
    rw [show k-off=(k-(off+1))+1 by omega]
    simp
   ·rw [if_neg h1,if_neg (by omega)]
    rw [Array.getElem?_setIfInBounds_ne (by omega)]
theorem jR {w:World} {b off:Nat} {vs:List Value} {arr:Array Value} {e:TypeId} {fz:Nat×Nat} (h:w.heap[b]? =some (.cells arr e fz)):
  (putCells w b off vs).heap[b]? =some (.cells (zEV arr off vs) e fz)∧(∀b',b'≠b→(putCells w b off vs).heap[b']? =w.heap[b']?)∧(putCells w b off vs).heap.size =w.heap.size:=by
 induction vs generalizing w arr off with
 |nil=>exact ⟨h,fun _ _=>rfl,rfl⟩
 |cons v vs ih=>
  simp only [putCells,zEV]
  have h1:(w.setCell ⟨b,off,none⟩ v).heap[b]? =some (.cells (arr.setIfInBounds off v) e fz):=by
   simp [World.setCell,Array.getElem?_modify,h]
  obtain ⟨h2,h3,h4⟩:=ih (off:=off+1) h1
  refine ⟨h2,fun b' hb=>(h3 b' hb).trans ?_,h4.trans ?_⟩
  ·simp [World.setCell,Array.getElem?_modify,Ne.symm hb]
  ·simp [World.setCell]
theorem zJL {P:Program} {b off:Nat} {e:TypeId} {lo hi:Nat} (vs:List Value):∀(i:Nat) (w:World) (arr:Array Value),w.heap[b]? =some (.cells arr e (lo,hi))→
  (∀k,k<arr.size→¬(lo≤k∧k<hi))→off+i+vs.length≤arr.size→(∀v∈vs,v.oneCell=true)→
  (storeCells ⟨b,off,none⟩ vs i).run P w= .ok () (putCells w b (off+i) vs):=by
 induction vs with
 |nil=>intro i w arr h1 h2 h3 h4; simp [storeCells,run_pure,putCells]
 |cons v vs ih=>
  intro i w arr h1 h2 h3 h4
  simp only [List.length_cons] at h3
  simp only [storeCells,putCells]
  have hlt:off+i<arr.size:=by omega
  have hc:w.cell? ⟨b,off+i,none⟩=some arr[off+i]:=by rw [cell_of h1]; simp [hlt]
  have hf:w.frozen? ⟨b,off+i,none⟩=false:=by
   simp only [World.frozen?,h1]
   have:=h2 _ hlt
   simp only [Bool.and_eq_false_imp,qM,decide_eq_false_iff_not]
   intro h5 h6; exact this ⟨h5,h6⟩
  have hs:(store (Addr.add ⟨b,off,none⟩ i) v).run P w= .ok () (w.setCell ⟨b,off+i,none⟩ v):=by
   rw [zE3]
   have:=h4 v (by simp)
   cases v<;>first|(simp [Value.oneCell] at this; done)|simp [store,Sem.run,hc,hf]
  rw [run_bind_ok hs]
  refine ih (i+1) _ (arr.setIfInBounds (off+i) v) ?_ ?_ ?_ (fun v' hv=>h4 v' (by simp [hv]))
  ·simp [World.setCell,Array.getElem?_modify,h1]
  ·simpa using h2
  ·simp; omega
end Go.Im
namespace Go.Im
open Go
section reps
variable {β:Nat→Loc} {N:Nat→Prop} {w:World} {top:Bool}
def D.free:D→Bool
 | .s o _ _ _=> !o
 | .ag _=>false
 | .tu _=>false
 | .po _=>false
 |_=>true
theorem Rep.free {d:D} {v:Value} {bs:List Nat} (hf:d.free=true) (h:Rep β N w top d v bs):bs=[]:=by
 cases d with
 |s o z n xs=>
  simp only [D.free,Bool.not_eq_eq_eq_not,Bool.not_true] at hf
  subst hf
  simp only [Rep] at h
  obtain ⟨_,_,a,cap,_,_,h5⟩:=h
  rcases h5 with h5|h5|h5
  ·exact h5.2.1
  ·obtain ⟨_,b,off,ws,_,_,_,_,h6⟩:=h5; exact h6
  ·exact absurd h5.1 (by simp)
 |ag cs=>simp [D.free] at hf
 |tu cs=>simp [D.free] at hf
 |po cs=>simp [D.free] at hf
 |_=>simp only [Rep] at h; first|exact h.2|exact h.2.1|exact h.1
theorem zK.length:∀{cs:List D} {ws:List Value} {bs:List Nat},zK β N w top cs ws bs→ws.length=cs.length
 |[],ws,bs,h=>by simp only [zK] at h; simp [h.1]
 |d::ds,ws,bs,h=>by
  simp only [zK] at h
  obtain ⟨v,vs,b1,b2,rfl,rfl,h3,h4⟩:=h
  simp [zK.length h4]
theorem zK.split:∀{cs:List D} {ws:List Value} {bs:List Nat} (k:Nat),zK β N w top cs ws bs→
  ∃b1 b2,bs=b1++b2∧zK β N w top (cs.take k) (ws.take k) b1∧zK β N w top (cs.drop k) (ws.drop k) b2
 |cs,ws,bs,0,h=>⟨[],bs,rfl,by simp [zK],by simpa using h⟩
 |[],ws,bs,k+1,h=>by
  simp only [zK] at h
  obtain ⟨rfl,rfl⟩:=h
  exact ⟨[],[],rfl,by simp [zK],by simp [zK]⟩
 |d::ds,ws,bs,k+1,h=>by
  simp only [zK] at h
  obtain ⟨v,vs,b1,b2,rfl,rfl,h3,h4⟩:=h
  obtain ⟨b3,b4,rfl,h5,h6⟩:=zK.split k h4
  refine ⟨b1++b3,b4,by simp,?_,by simpa using h6⟩
  simp only [List.take_succ_cons,zK]
  exact ⟨v,_,b1,b3,rfl,rfl,h3,h5⟩
theorem zK.append:∀{c1 c2:List D} {w1 w2:List Value} {b1 b2:List Nat},zK β N w top c1 w1 b1→zK β N w top c2 w2 b2→zK β N w top (c1++c2) (w1++w2) (b1++b2)
 |[],c2,w1,w2,b1,b2,h1,h2=>by
  simp only [zK] at h1
  obtain ⟨rfl,rfl⟩:=h1
  simpa using h2
 |d::ds,c2,w1,w2,b1,b2,h1,h2=>by
  simp only [zK] at h1
  obtain ⟨v,vs,b3,b4,rfl,rfl,h3,h4⟩:=h1
  simp only [List.cons_append,zK]
  exact ⟨v,_,b3,b4++b2,rfl,by simp,h3,h4.append h2⟩
theorem zK.frees:∀{cs:List D} {ws:List Value} {bs:List Nat},(∀d∈cs,d.free=true)→zK β N w top cs ws bs→bs=[]
 |[],ws,bs,_,h=>by simp only [zK] at h; exact h.2
 |d::ds,ws,bs,hf,h=>by
  simp only [zK] at h
  obtain ⟨v,vs,b1,b2,rfl,rfl,h3,h4⟩:=h
  rw [Rep.free (hf d (by simp)) h3,zK.frees (fun d hd=>hf d (by simp [hd])) h4]
  rfl
theorem Rep.up {d:D} {v:Value} {bs:List Nat} (h:Rep β N w false d v bs):Rep β N w true d v bs:=by
 cases d<;>simp only [Rep] at h ⊢ <;>first|exact h|exact absurd h.1 (by simp)
theorem zK.up:∀{cs:List D} {ws:List Value} {bs:List Nat},zK β N w false cs ws bs→zK β N w true cs ws bs
 |[],ws,bs,h=>h
 |d::ds,ws,bs,h=>by
  simp only [zK] at h ⊢
  obtain ⟨v,vs,b1,b2,h1,h2,h3,h4⟩:=h
  exact ⟨v,vs,b1,b2,h1,h2,h3.up,h4.up⟩
theorem Rep.oneCell {d:D} {v:Value} {bs:List Nat} (hf:match d with| .ag _=>False| .tu _=>False| .sc u=>u.oneCell=true|_=>True) (h:Rep β N w top d v bs):v.oneCell=true:=by
 cases d with
 |sc u=>simp only [Rep] at h; rw [h.1]; exact hf
 |s o z n xs=>simp only [Rep] at h; obtain ⟨_,_,a,cap,rfl,_⟩:=h; rfl
 |rf=>simp only [Rep] at h; obtain ⟨_,_,⟨_,_,_,rfl⟩|⟨_,c,rfl,_⟩⟩:=h<;>rfl
 |pt=>simp only [Rep] at h; rw [h.2.2.2]; rfl
 |ps=>simp only [Rep] at h; obtain ⟨_,b,off,ws,rfl,_⟩:=h; rfl
 |fn=>simp only [Rep] at h; obtain ⟨_,_,ws,rfl,_⟩:=h; rfl
 |ag=>exact absurd hf id
 |tu=>exact absurd hf id
 |un=>simp only [Rep] at h; exact h.1
 |nb n=>simp only [Rep] at h; obtain ⟨_,b,rfl,_⟩:=h; rfl
 |sub=>simp only [Rep] at h; obtain ⟨_,_,a,c,rfl,_⟩:=h; rfl
 |fb=>simp only [Rep] at h; obtain ⟨_,_,ws,rfl,_⟩:=h; rfl
 |pb=>simp only [Rep] at h; obtain ⟨_,_,b,off,ws,rfl,_⟩:=h; rfl
 |ln n=>simp only [Rep] at h; obtain ⟨_,a,c,rfl,_⟩:=h; rfl
 |po=>simp only [Rep] at h; obtain ⟨_,b,off,r,ws,bs',rfl,_⟩:=h; rfl
end reps
def zGk (P:Program) (t:TypeId):Option Nat:=yT P (sizeOf t)
def zGE (P:Program) (t:TypeId):Option Bool:=yT P (isAgg t)
def zDQ (P:Program) (T:TypeId) (cs:List D):Option D:=
 match zGE P T,zGk P T with
 |some true,some n=>if n≤cs.length∧(cs.take n).all D.free=true then some (.ag (cs.take n)) else none
 |some false,_=>match cs with
  |d::_=>if d.free then some d else none
  |[]=>none
 |_,_=>none
theorem zFi {P:Program} {β:Nat→Loc} {N:Nat→Prop} {w:World} {T:TypeId} {cs:List D} {d:D} {b off:Nat} {ws:List Value} {bs:List Nat} (h:zDQ P T cs=some d)
  (hh:Has w b off ws) (ho:∀x∈ws,x.oneCell=true) (hr:zK β N w true cs ws bs):∃v,(loadVar T ⟨b,off,none⟩).run P w= .ok v w∧Rep β N w true d v []:=by
 unfold zDQ at h
 unfold loadVar
 split at h
 ·rename_i n h1 h2
  split at h
  ·rename_i h3
   cases h
   rw [run_bind_ok (zS _ _ w h1)]
   simp only [if_true]
   rw [run_bind_ok (zS _ _ w h2)]
   obtain ⟨b1,b2,_,h4,_⟩:=hr.split n
   have hb1:b1=[]:=zK.frees (by simpa using h3.2) h4
   subst hb1
   have hlen:=hr.length
   rw [run_bind_ok (run_loadCells (ws:=ws.take n) (by have:=hh.sub 0 n; simpa using this) (by simp; omega))]
   refine ⟨_,rfl,?_⟩
   simp only [Rep]
   exact ⟨trivial,ws.take n,rfl,fun x hx=>ho x (List.mem_of_mem_take hx),h4⟩
  ·cases h
 ·rename_i _ h1
  split at h
  ·rename_i d' ds
   split at h
   ·rename_i hf
    cases h
    simp only [zK] at hr
    obtain ⟨v,vs,b1,b2,rfl,rfl,h3,h4⟩:=hr
    rw [run_bind_ok (zS _ _ w h1)]
    simp only [qD,if_false]
    have:=hh.cell 0 (by simp)
    refine ⟨v,run_load (by simpa using this) _,?_⟩
    have e:=Rep.free hf h3
    subst e
    exact h3
   ·cases h
  ·cases h
 ·cases h
def lk {α:Type}:List (Nat×α)→Nat→Option α
 |[],_=>none
 |(k,v)::r,t=>if k=t then some v else lk r t
theorem zAT {α:Type}:∀{l:List (Nat×α)} {t:Nat} {v:α},lk l t=some v→(t,v)∈l
 |(k,u)::r,t,v,h=>by
  simp only [lk] at h
  split at h
  ·rename_i e; cases h; subst e; simp
  ·simp [zAT h]
def opd (tm:List (Nat×D)):Operand→Option (D×List (Nat×D))
 | .tmp t=>match lk tm t with
  |some d=>some (d,[(t,d)])
  |none=>none
 | .const v=>some (.sc v,[])
 | .func f=>some (.fn f [],[])
 | .global _=>none
theorem jC {tm:List (Nat×D)} {x:Operand} {d:D} {ns:List (Nat×D)} (h:opd tm x=some (d,ns)) {c:Cert} (hs:∀y∈ns,y∈c.tn):OpF c x d∧∀y∈ns,y∈tm:=by
 cases x with
 |tmp t=>
  simp only [opd] at h
  split at h
  ·rename_i d' hd; cases h; exact ⟨hs _ (by simp),by simpa using zAT hd⟩
  ·cases h
 |const v=>simp only [opd] at h; cases h; exact ⟨rfl,by simp⟩
 |func f=>simp only [opd] at h; cases h; exact ⟨rfl,by simp⟩
 |global g=>simp [opd] at h
def zLy (tm:List (Nat×D)):List Operand→Option (List (Nat×D))
 |[]=>some []
 |x::xs=>match opd tm x,zLy tm xs with
  |some (.sc _,ns),some ms=>some (ns++ms)
  |_,_=>none
def rho (tm:List (Nat×D)) (x:Operand):Value:=match opd tm x with
 |some (.sc v,_)=>v
 |_=>undef
def scD:Value→D
 | .agg arr=>.ag (arr.toList.map .sc)
 |v=>.sc v
def zSp:Value→Bool
 | .agg arr=>arr.toList.all Value.oneCell
 |_=>true
theorem zFN {β:Nat→Loc} {N:Nat→Prop} {w:World} {top:Bool}:∀(ws:List Value),zK β N w top (ws.map D.sc) ws []
 |[]=>by simp [zK]
 |v::vs=>by
  simp only [List.map_cons,zK]
  exact ⟨v,vs,[],[],rfl,rfl,by simp [Rep],zFN vs⟩
theorem zQZ {β:Nat→Loc} {N:Nat→Prop} {w:World} {v:Value} (h:zSp v=true):Rep β N w true (scD v) v []:=by
 cases v with
 |agg arr=>
  simp only [scD,Rep]
  exact ⟨trivial,arr.toList,by simp,fun x hx=>by simp only [zSp] at h; exact List.all_eq_true.1 h x hx,zFN _⟩
 |_=>simp [scD,Rep]
theorem zNi {Γ:Ctx} {β:Nat→Loc} {bs:List Nat} {σ:St} {a:Act} {w:World} (hr:RelB Γ β bs σ a w) {tm:List (Nat×D)}:∀{xs:List Operand} {ns:List (Nat×D)},zLy tm xs=some ns→
  (∀y∈ns,y∈σ.tm)→∀x∈xs,a.eval x=rho tm x
 |x::xs,ns,h,hs,y,hy=>by
  simp only [zLy] at h
  split at h
  ·rename_i v n1 n2 h1 h2
   cases h
   rcases List.mem_cons.1 hy with rfl|hy
   ·have e:rho tm y=v:=by simp [rho,h1]
    rw [e]
    have hc:=(jC (c:= {tn:=n1}) h1 (fun _ h=>h)).1
    have:=OpF.rep (Γ:=Γ) (σ:=σ) hc ⟨fun z hz=>hs z (by simp; exact .inl hz),by simp,by simp⟩ hr
    simp only [Rep] at this
    exact this.1
   ·exact zNi hr h2 (fun z hz=>hs z (by simp [hz])) y hy
  ·cases h
theorem zPU {Γ:Ctx} {ops:Array Oper} {o:Oper} {tm:List (Nat×D)} {ns:List (Nat×D)} {v u:Value} (hg:o.guard=none) (hsel:∀cs b,o.op≠ .select cs b)
  (h1:zLy tm o.op.operands.toList=some ns) (h2:yT Γ.P (execOp (rho tm) o)=some (.value v)) (h3:v=u) (h4:zSp u=true):Valid Γ ops o {tn:=ns,out:=some (scD u)}:=by
 subst h3
 refine uW hg rfl rfl fun β bs σ a w hn hr=>⟨v,?_,fun d hd=>?_⟩
 ·rw [execOp_congr (ρ:=a.eval) (ρ':=rho tm) o hsel fun x hx=>zNi hr h1 hn.1 x (by simpa using hx)]
  exact zS _ _ w h2
 ·cases hd
  exact zQZ h4
end Go.Im
namespace Go.Im
open Go
theorem vS.front {β:Nat→Loc} {N:Nat→Prop} {w:World} {hp:List (Nat×Ent)} {bs:List Nat} {t:Nat} {e:Ent} (h:vS β N w hp bs) (hm:(t,e)∈hp):
  ∃l1 l2 b1 b2,hp=l1++(t,e)::l2∧bs.Perm ((β t).own ++(b1++b2))∧zBR β N w (β t) b1 e∧vS β N w (l1++l2) b2:=by
 obtain ⟨l1,l2,rfl⟩:=List.append_of_mem hm
 obtain ⟨bs',p,b1,b2,rfl,h2,h3⟩:=vS.perm (List.perm_middle (l₁:=l1) (a:=(t,e)) (l₂:=l2)) h
 exact ⟨l1,l2,b1,b2,rfl,p,h2,h3⟩
theorem vS.take {β:Nat→Loc} {N:Nat→Prop} {w:World} {hp:List (Nat×Ent)} {bs:List Nat} {t:Nat} {e:Ent} (h:vS β N w hp bs) (hk:(hp.map (·.1)).Nodup) (hm:(t,e)∈hp):
  ∃b1 b2,bs.Perm ((β t).own ++(b1++b2))∧zBR β N w (β t) b1 e∧vS β N w (hp.filter (fun x=>x.1 !=t)) b2:=by
 obtain ⟨l1,l2,b1,b2,rfl,p,h2,h3⟩:=h.front hm
 refine ⟨b1,b2,p,h2,?_⟩
 simp only [List.map_append,List.map_cons] at hk
 have hk':=List.nodup_append.1 hk
 have e1:l1.filter (fun x=>x.1 !=t)=l1:=List.filter_eq_self.2 fun x hx=>by
  simp only [bne_iff_ne,ne_eq]
  intro e
  exact hk'.2.2 t (List.mem_map.2 ⟨x,hx,e⟩) t (by simp) rfl
 have e2:l2.filter (fun x=>x.1 !=t)=l2:=List.filter_eq_self.2 fun x hx=>by
  simp only [bne_iff_ne,ne_eq]
  intro e
  exact (List.nodup_cons.1 hk'.2.1).1 (List.mem_map.2 ⟨x,hx,e⟩)
 have:(l1++(t,e)::l2).filter (fun x=>x.1 !=t)=l1++l2:=by
  simp [List.filter_append,e1,e2]
 rw [this]
 exact h3
def zG0 (β:Nat→Loc) (t:Nat) (L:Loc) (k:Nat):Loc:=if k=t then L else β k
theorem xI {β:Nat→Loc} {t:Nat} {L:Loc}:zG0 β t L t=L:=by simp [zG0]
theorem zAc {β:Nat→Loc} {t k:Nat} {L:Loc} (h:k≠t):zG0 β t L k=β k:=by simp [zG0,h]
theorem Rel.step {Γ:Ctx} {β β1:Nat→Loc} {bs bk br bn:List Nat} {σ:St} {a:Act} {w w1:World} {dst:Option Nat} {c:Cert} {v:Value}
  (h0:∀t,t∈zLU σ.tm∨t∈zIp σ.hp→t∈σ.us) (h:RelB Γ β bs σ a w) (hd:∀t,dst=some t→t<Γ.nt)
  (hkk:(c.hw.map (·.1)).Nodup) (hkx:∀x∈c.hw,x.1∈c.hx∨x.1∉σ.us) (hp:bs.Perm (br++bk)) (hk:vS β (NS Γ w bs) w (σ.hp.filter (fun x=> !c.hx.contains x.1)) bk)
  (hsz:w.heap.size≤w1.heap.size) (hsame:∀b,b<w.heap.size→b∉br→w1.heap[b]? =w.heap[b]?)
  (hβ:∀t,t∈σ.us→β1 t=β t) (hβm:∀t,t<Γ.m→β1 t=β t)
  (hbn:bn.Nodup) (hbn':∀b∈bn,(b∈br∨w.heap.size≤b)∧b<w1.heap.size)
  (hw:vS β1 (NS Γ w1 (bn++bk)) w1 c.hw bn) (ho:∀d,c.out=some d→Rep β1 (NS Γ w1 (bn++bk)) w1 true d v []) (hq:w1.os=w.os∧w1.output=w.output):Rel Γ (σ.upd dst c) (a.put dst v) w1:=by
 have hlt:∀b∈bs,b<w.heap.size:=fun b hb=>(h.own b hb).1
 have hnd:=hp.nodup_iff.1 h.nodup
 have hbk:∀b∈bk,b∈bs:=fun b hb=>hp.mem_iff.2 (by simp [hb])
 have hbr:∀b∈br,b∈bs:=fun b hb=>hp.mem_iff.2 (by simp [hb])
 have hdis:∀b∈bk,b∉br:=fun b hb hb'=>(List.nodup_append.1 hnd).2.2 b hb' b hb rfl
 have hN:∀b,NS Γ w bs b→NS Γ w1 (bn++bk) b∧w1.heap[b]? =w.heap[b]? :=by
  rintro b ⟨h1,h2,h3⟩
  refine ⟨⟨h1,Nat.lt_of_lt_of_le h2 hsz,?_⟩,hsame b h2 fun hb=>h3 (hbr b hb)⟩
  intro hb
  rcases List.mem_append.1 hb with hb|hb
  ·rcases (hbn' b hb).1 with hb'|hb'
   ·exact h3 (hbr b hb')
   ·omega
  ·exact h3 (hbk b hb)
 have hmen:∀t,t∈(σ.upd dst c).us ↔(t∈c.men∨t∈σ.us):=fun t=>by simp [St.upd]
 refine ⟨?_,β1,bn++bk,?_⟩
 ·intro t ht
  rw [hmen]
  rcases ht with ht|ht
  ·simp only [zLU,St.upd,List.mem_flatMap,qJ,List.mem_filter] at ht
   obtain ⟨x,hx1|hx1,hx2⟩:=ht
   ·refine .inl ?_
    unfold Cert.outs at hx1
    split at hx1
    ·simp at hx1; subst hx1
     simp only [Cert.men,qJ]
     refine .inl ?_
     rename_i h1; rw [h1]; exact hx2
    ·simp at hx1
   ·exact .inr (h0 t (.inl (List.mem_flatMap.2 ⟨x,hx1.1,hx2⟩)))
  ·simp only [zIp,St.upd,List.mem_flatMap,qJ,List.mem_filter] at ht
   obtain ⟨x,hx1|hx1,hx2⟩:=ht
   ·refine .inl ?_
    simp only [Cert.men,qJ]
    exact .inr (List.mem_flatMap.2 ⟨x,hx1,hx2⟩)
   ·exact .inr (h0 t (.inr (List.mem_flatMap.2 ⟨x,hx1.1,hx2⟩)))
 ·refine {gh:=h.gh,defers:=zO3.trans h.defers,size:=zML.trans h.size,keys:=?_,par:=fun k hk=>(hβm k hk).trans (h.par k hk),grow:=Nat.le_trans h.grow hsz,quiet:=⟨hq.1.trans h.quiet.1,hq.2.trans h.quiet.2⟩,keep:=?_,hp:=?_,nodup:=?_,own:=?_,tm:=?_}
  ·simp only [St.upd,List.map_append]
   refine List.nodup_append.2 ⟨hkk,List.Nodup.sublist (List.Sublist.map _ List.filter_sublist) h.keys,?_⟩
   intro k hk k' hk' e
   subst e
   obtain ⟨x,hx1,rfl⟩:=List.mem_map.1 hk
   obtain ⟨y,hy1,hy2⟩:=List.mem_map.1 hk'
   obtain ⟨hy3,hy4⟩:=List.mem_filter.1 hy1
   rcases hkx x hx1 with h'|h'
   ·rw [←hy2] at h'
    simp [h'] at hy4
   ·exact h' (h0 _ (.inr (List.mem_flatMap.2 ⟨y,hy3,by simp [hy2]⟩)))
  ·intro b hb hbO
   rw [hsame b (Nat.lt_of_lt_of_le hb h.grow)]
   ·exact h.keep b hb hbO
   ·intro hbb
    rcases (h.own b (hbr b hbb)).2 with h'|h'
    ·exact hbO h'
    ·omega
  ·have:vS β1 (NS Γ w1 (bn++bk)) w1 (σ.hp.filter (fun x=> !c.hx.contains x.1)) bk:=by
    refine vS.frame hN _ _ (fun b hb=>hsame b (hlt b (hbk b hb)) (hdis b hb)) (fun t ht=>hβ t (h0 t (.inr ?_))) hk
    obtain ⟨x,hx1,hx2⟩:=List.mem_flatMap.1 ht
    exact List.mem_flatMap.2 ⟨x,(List.mem_filter.1 hx1).1,hx2⟩
   simp only [St.upd]
   clear hbn hbn' ho
   generalize c.hw=hh at hw ⊢
   generalize NS Γ w1 (bn++bk)=NN at hw this ⊢
   clear hN hdis hbk
   induction hh generalizing bn with
   |nil=>simp only [vS] at hw; subst hw; simpa using this
   |cons x hh ih=>
    obtain ⟨b1,b2,rfl,h2,h3⟩:=hw
    exact ⟨b1,b2++bk,by simp,h2,ih h3⟩
  ·refine List.nodup_append.2 ⟨hbn,(List.nodup_append.1 hnd).2.1,?_⟩
   intro x hx y hy e
   subst e
   rcases (hbn' x hx).1 with hb|hb
   ·exact hdis x hy hb
   ·have:=hlt x (hbk x hy); omega
  ·intro b hb
   rcases List.mem_append.1 hb with hb|hb
   ·refine ⟨(hbn' b hb).2,?_⟩
    rcases (hbn' b hb).1 with hb'|hb'
    ·exact (h.own b (hbr b hb')).2
    ·exact .inr (Nat.le_trans h.grow hb')
   ·exact ⟨Nat.lt_of_lt_of_le (hlt b (hbk b hb)) hsz,(h.own b (hbk b hb)).2⟩
  ·exact zOX.put (h.tm.frame hN fun t ht=>hβ t (h0 t (.inl ht))) (by rw [h.size]; exact hd) ho
theorem zGC (l:List (Nat×Ent)):l.filter (fun x=> !([]:List Nat).contains x.1)=l:=by simp
theorem zIx (l:List (Nat×Ent)) (t:Nat):l.filter (fun x=> !([t]:List Nat).contains x.1)=l.filter (fun x=>x.1 !=t):=by
 congr 1; funext x
 by_cases h:x.1=t<;>simp [h]
theorem Rel.new {Γ:Ctx} {β:Nat→Loc} {bs:List Nat} {σ:St} {a:Act} {w:World} {dst:Option Nat} {c:Cert} {v:Value} {t z:Nat} {e:Ent} {arr:Array Value} {el:TypeId} {fz:Nat×Nat}
  (h0:∀t,t∈zLU σ.tm∨t∈zIp σ.hp→t∈σ.us) (h:RelB Γ β bs σ a w) (hd:∀t,dst=some t→t<Γ.nt) (hx:c.hx=[]) (hw:c.hw=[(t,e)]) (ht:t∉σ.us) (hm:Γ.m≤t)
  (he:∀w1 N1,w1.heap=w.heap.push (.cells arr el fz)→(∀b,NS Γ w bs b→N1 b)→zBR (zG0 β t ⟨false,w.heap.size,0,z,arr.size⟩) N1 w1 ⟨false,w.heap.size,0,z,arr.size⟩ [] e)
  (ho:∀w1 N1,w1.heap=w.heap.push (.cells arr el fz)→(∀b,NS Γ w bs b→N1 b)→∀d,c.out=some d→Rep (zG0 β t ⟨false,w.heap.size,0,z,arr.size⟩) N1 w1 true d v [])
  {w1:World} (hw1:w1.heap=w.heap.push (.cells arr el fz)) (hq:w1.os=w.os∧w1.output=w.output):Rel Γ (σ.upd dst c) (a.put dst v) w1:=by
 have hN:∀b,NS Γ w bs b→NS Γ w1 ([w.heap.size]++bs) b:=by
  rintro b ⟨h1,h2,h3⟩
  refine ⟨h1,by rw [hw1]; simp; omega,?_⟩
  simp only [List.singleton_append,qK,not_or]
  exact ⟨by omega,h3⟩
 refine Rel.step (β1:=zG0 β t ⟨false,w.heap.size,0,z,arr.size⟩) (bk:=bs) (br:=[]) (bn:=[w.heap.size]) h0 h hd (by simp [hw]) (by simpa [hw] using .inr ht) (by simp) ?_ ?_ ?_ ?_ ?_ (by simp) ?_ ?_ ?_ hq
 ·rw [hx,zGC]; exact h.hp
 ·rw [hw1]; simp
 ·intro b hb _
  rw [hw1,Array.getElem?_push]
  rw [if_neg (by omega)]
 ·intro k hk; exact zAc (fun e=>ht (e▸hk))
 ·intro k hk; exact zAc (by omega)
 ·intro b hb
  simp only [qI] at hb
  subst hb
  exact ⟨.inr (Nat.le_refl _),by rw [hw1]; simp⟩
 ·rw [hw]
  refine ⟨[],[],by simp [xI,Loc.own],?_,rfl⟩
  rw [xI]
  exact he w1 _ hw1 hN
 ·exact ho w1 _ hw1 hN
end Go.Im
namespace Go.Im
open Go
variable {Γ:Ctx} {ops:Array Oper} {o:Oper}
theorem zSR {c:Cert} {x:Operand} {d:D} (hg:o.guard=none) (hop:o.op= .move x∨o.op= .assign x) (hc:c= {tn:=c.tn,out:=some d}) (hx:OpF c x d):Valid Γ ops o c:=by
 rw [hc]
 refine uW hg rfl rfl fun β bs σ a w hn hr=>⟨a.eval x,?_,fun d' hd=>?_⟩
 ·rcases hop with h|h<;>simp [execOp,h,run_pure]
 ·cases hd
  exact OpF.rep (c:=c) hx ⟨hn.1,by rw [hc]; simp,by rw [hc]; simp⟩ hr
theorem zSa {c:Cert} {x y z:Operand} {d:D} {b:Bool} (hg:o.guard=none) (hop:o.op= .pick x y z) (hc:c= {tn:=c.tn,out:=some d}) (hx:OpF c x (.sc (.bool b)))
  (hy:OpF c (if b then y else z) d):Valid Γ ops o c:=by
 rw [hc]
 refine uW hg rfl rfl fun β bs σ a w hn hr=>?_
 have hn':Nd c σ:=⟨hn.1,by rw [hc]; simp,by rw [hc]; simp⟩
 have h1:=OpF.rep hx hn' hr
 simp only [Rep] at h1
 refine ⟨if b then a.eval y else a.eval z,?_,fun d' hd=>?_⟩
 ·simp only [execOp,hop,h1.1]
  cases b<;>rfl
 ·cases hd
  have:=OpF.rep hy hn' hr
  cases b<;>exact this
def zLb (P:Program) (s:TypeId) (f:Nat):Option Nat:=
 match yT P (underlying s) with
 |some (.struct fields)=>match fields[f]? with
  |some fl=>match zGk P fl.type with
   |some 0=>none
   |some _=>some fl.offset
   |none=>none
  |none=>none
 |_=>none
theorem zJv {P:Program} {w:World} {s:TypeId} {f off b o:Nat} (h:zLb P s f=some off):(Instr.fieldAt s (.pointer (some ⟨b,o,none⟩)) f).run P w= .ok (.pointer (some ⟨b,o+off,none⟩)) w:=by
 unfold zLb at h
 split at h
 ·rename_i fields h1
  split at h
  ·rename_i fl h2
   split at h
   ·cases h
   ·rename_i n hn h3
    cases h
    unfold Instr.fieldAt
    rw [run_bind_ok (zS _ _ w h1)]
    simp only [h2]
    rw [run_bind_ok (a:=(⟨b,o,none⟩:Addr)) (w':=w) rfl]
    have:(fieldPlace ⟨b,o,none⟩ fl).run P w= .ok ⟨b,o+fl.offset,none⟩ w:=by
     unfold fieldPlace
     rw [run_bind_ok (zS _ _ w h3)]
     rw [if_neg hn,zE3]
     rfl
    rw [run_bind_ok this]
    rfl
   ·cases h
  ·cases h
 ·cases h
theorem zFo {ρ:Operand→Value} {s:Sem Value} {P:Program} {w w':World} {v:Value} (he:execOp ρ o=(do pure (.value (←s)))) (hs:s.run P w= .ok v w'):(execOp ρ o).run P w= .ok (.value v) w':=by
 rw [he]
 exact run_bind_ok hs
theorem zQR {c:Cert} {x:Operand} {s:TypeId} {f off t i j:Nat} (hg:o.guard=none) (hop:o.op= .fieldAddr s x f) (hc:c= {tn:=c.tn,out:=some (.pt t i (j+off))}) (hx:OpF c x (.pt t i j))
  (hf:zLb Γ.P s f=some off):Valid Γ ops o c:=by
 rw [hc]
 refine uW hg rfl rfl fun β bs σ a w hn hr=>?_
 have h1:=OpF.rep (c:=c) hx ⟨hn.1,by rw [hc]; simp,by rw [hc]; simp⟩ hr
 simp only [Rep] at h1
 refine ⟨_,zFo (s:=Instr.fieldAt s (a.eval x) f) (by simp [execOp,hop]) (by rw [h1.2.2.2]; exact zJv hf),fun d' hd=>?_⟩
 cases hd
 simp only [Rep]
 exact ⟨trivial,trivial,h1.2.2.1,by simp only [Nat.add_assoc]⟩
theorem zN0 {c:Cert} {x:Operand} {s:TypeId} {f off:Nat} {cs:List D} (hg:o.guard=none) (hop:o.op= .fieldAddr s x f) (hc:c= {tn:=c.tn,out:=some (.ps (cs.drop off))}) (hx:OpF c x (.ps cs))
  (hf:zLb Γ.P s f=some off):Valid Γ ops o c:=by
 rw [hc]
 refine uW hg rfl rfl fun β bs σ a w hn hr=>?_
 have h1:=OpF.rep (c:=c) hx ⟨hn.1,by rw [hc]; simp,by rw [hc]; simp⟩ hr
 simp only [Rep] at h1
 obtain ⟨_,b,p,ws,h2,h3,h4,h5⟩:=h1
 refine ⟨_,zFo (s:=Instr.fieldAt s (a.eval x) f) (by simp [execOp,hop]) (by rw [h2]; exact zJv hf),fun d' hd=>?_⟩
 cases hd
 simp only [Rep]
 obtain ⟨b1,b2,h6,h7,h8⟩:=h5.split off
 have e:b2=[]:=(List.append_eq_nil_iff.1 h6.symm).2
 subst e
 exact ⟨trivial,b,p+off,ws.drop off,rfl,h3,h4.drop off,h8⟩
theorem zON {c:Cert} {x:Operand} {T:TypeId} {cs:List D} {d:D} (hg:o.guard=none) (hop:o.op= .load T x) (hc:c= {tn:=c.tn,out:=some d}) (hx:OpF c x (.ps cs))
  (hd:zDQ Γ.P T cs=some d) (ho:cs.all (fun d=>match d with| .ag _=>false| .tu _=>false| .sc u=>u.oneCell|_=>true)=true):Valid Γ ops o c:=by
 rw [hc]
 refine uW hg rfl rfl fun β bs σ a w hn hr=>?_
 have h1:=OpF.rep (c:=c) hx ⟨hn.1,by rw [hc]; simp,by rw [hc]; simp⟩ hr
 simp only [Rep] at h1
 obtain ⟨_,b,p,ws,h2,h3,h4,h5⟩:=h1
 have hone:∀y∈ws,y.oneCell=true:=by
  clear h4 hx hd hc
  generalize ([]:List Nat)=bb at h5
  induction cs generalizing ws bb with
  |nil=>simp only [zK] at h5; rw [h5.1]; simp
  |cons d ds ih=>
   simp only [zK] at h5
   obtain ⟨v,vs,b1,b2,rfl,_,h6,h7⟩:=h5
   simp only [List.all_cons,Bool.and_eq_true] at ho
   intro y hy
   rcases List.mem_cons.1 hy with rfl|hy
   ·refine Rep.oneCell ?_ h6
    have:=ho.1
    cases d<;>simp_all
   ·exact ih ho.2 vs b2 h7 y hy
 obtain ⟨v,h6,h7⟩:=zFi hd h4 hone h5.up
 refine ⟨v,zFo (s:=Instr.loadAt T (a.eval x)) (by simp [execOp,hop]) ?_,fun d' hd=>by cases hd; exact h7⟩
 rw [h2]
 exact h6
theorem Own.cells {w:World} {b off r:Nat} {ws:List Value} (h:Own w b off r ws) (i n:Nat):Has w b (off+i) ((ws.drop i).take n):=h.has.sub i n
theorem zNu {c:Cert} {x:Operand} {T:TypeId} {cs:List D} {d:D} {t j:Nat} (hg:o.guard=none) (hop:o.op= .load T x) (hc:c= {tn:=c.tn,hn:=c.hn,out:=some d}) (hx:OpF c x (.pt t 0 j))
  (hh:(t,.box cs)∈c.hn) (hd:zDQ Γ.P T (cs.drop j)=some d):Valid Γ ops o c:=by
 rw [hc]
 refine uW hg rfl rfl fun β bs σ a w hn hr=>?_
 have h1:=OpF.rep (c:=c) hx ⟨hn.1,hn.2.1,by rw [hc]; simp⟩ hr
 simp only [Rep] at h1
 obtain ⟨b1,h2,_,_⟩:=vS.get hr.hp (hn.2.1 _ hh)
 obtain ⟨_,hz,ws,h3,h4,h5⟩:=h2
 obtain ⟨b2,b3,_,_,h6⟩:=h5.split j
 obtain ⟨v,h7,h8⟩:=zFi hd (h3.has.drop j) (fun y hy=>h4 y (List.mem_of_mem_drop hy)) h6
 refine ⟨v,zFo (s:=Instr.loadAt T (a.eval x)) (by simp [execOp,hop]) ?_,fun d' hd=>by cases hd; exact h8⟩
 rw [h1.2.2.2,Nat.zero_mul,Nat.add_zero]
 exact h7
theorem zZ.get {β:Nat→Loc} {N:Nat→Prop} {w:World} {z:Nat}:∀{xs:List (List D)} {ws:List Value} {bs:List Nat} {i:Nat} {e:List D},zZ β N w xs ws bs→(∀x∈xs,x.length=z)→xs[i]? =some e→
  ∃b1 b2 b3,bs=b1++b2++b3∧zK β N w false e ((ws.drop (i*z)).take z) b2∧zZ β N w (xs.take i) (ws.take (i*z)) b1∧zZ β N w (xs.drop (i+1)) (ws.drop ((i+1)*z)) b3
 |x::xs,ws,bs,0,e,h,hz,he=>by
  simp only [zZ] at h
  obtain ⟨w1,w2,b1,b2,rfl,rfl,h3,h4⟩:=h
  simp at he
  subst he
  have hl:=h3.length
  rw [hz x (by simp)] at hl
  refine ⟨[],b1,b2,by simp,?_,by simp [zZ],?_⟩
  ·simp only [Nat.zero_mul,List.drop_zero]
   rw [List.take_append_of_le_length (by omega),List.take_of_length_le (by omega)]
   exact h3
  ·simp only [Nat.zero_add,Nat.one_mul,List.drop_succ_cons,List.drop_zero]
   rw [List.drop_append_of_le_length (by omega),List.drop_of_length_le (by omega)]
   simpa using h4
 |x::xs,ws,bs,i+1,e,h,hz,he=>by
  simp only [zZ] at h
  obtain ⟨w1,w2,b1,b2,rfl,rfl,h3,h4⟩:=h
  simp at he
  have hl:=h3.length
  rw [hz x (by simp)] at hl
  obtain ⟨c1,c2,c3,rfl,h5,h6,h7⟩:=zZ.get h4 (fun y hy=>hz y (by simp [hy])) he
  have e1:∀k,(w1++w2).drop (k+z)=w2.drop k:=fun k=>by
   rw [List.drop_append,List.drop_of_length_le (by omega),List.nil_append]; congr 1; omega
  have e2:∀k,(w1++w2).take (k+z)=w1++w2.take k:=fun k=>by
   rw [List.take_append,List.take_of_length_le (by omega)]; congr 2; omega
  refine ⟨b1++c1,c2,c3,by simp,?_,?_,?_⟩
  ·rw [show (i+1)*z=i*z+z by rw [Nat.add_mul,Nat.one_mul],e1]; exact h5
  ·rw [show (i+1)*z=i*z+z by rw [Nat.add_mul,Nat.one_mul],e2,List.take_succ_cons]
   simp only [zZ]
   exact ⟨w1,_,b1,c1,rfl,rfl,h3,h6⟩
  ·rw [show (i+1+1)*z=(i+1)*z+z by rw [Nat.add_mul (i+1),Nat.one_mul],e1]
   exact h7
theorem zZ.length {β:Nat→Loc} {N:Nat→Prop} {w:World} {z:Nat}:∀{xs:List (List D)} {ws:List Value} {bs:List Nat},zZ β N w xs ws bs→(∀x∈xs,x.length=z)→ws.length=xs.length*z
 |[],ws,bs,h,_=>by simp only [zZ] at h; simp [h.1]
 |x::xs,ws,bs,h,hz=>by
  simp only [zZ] at h
  obtain ⟨w1,w2,b1,b2,rfl,rfl,h3,h4⟩:=h
  have hl:=h3.length
  rw [hz x (by simp)] at hl
  simp [zZ.length h4 (fun y hy=>hz y (by simp [hy])),hl,Nat.add_mul,Nat.add_comm]
theorem zQ7 {c:Cert} {x y:Operand} {T el:TypeId} {k:IntKind} {z n:Nat} {i:Int} {xs:List (List D)} {e:List D} (hg:o.guard=none) (hop:o.op= .indexAddr T x y)
  (hc:c= {tn:=c.tn,out:=some (.ps e)}) (hx:OpF c x (.s false z n xs)) (hy:OpF c y (.sc (.int k i))) (hT:yT Γ.P (underlying T)=some (.slice el)) (hz:zGk Γ.P el=some z)
  (hi:0≤i) (he:xs[i.toNat]? =some e):Valid Γ ops o c:=by
 rw [hc]
 refine uW hg rfl rfl fun β bs σ a w hn hr=>?_
 have hn':Nd c σ:=⟨hn.1,by rw [hc]; simp,by rw [hc]; simp⟩
 have h1:=OpF.rep hx hn' hr
 have h2:=OpF.rep hy hn' hr
 simp only [Rep] at h1 h2
 obtain ⟨hlen,hzz,ad,cap,hv,hcap,h3⟩:=h1
 have hlt:i.toNat<n:=by
  rw [←hlen]
  exact (List.getElem?_eq_some_iff.1 he).1
 rcases h3 with h3|⟨_,b,off,ws,had,hN,hH,hE,_⟩|h3
 ·omega
 ·obtain ⟨b1,b2,b3,hb,h4,_,_⟩:=zZ.get hE hzz he
  have e2:b2=[]:=(List.append_eq_nil_iff.1 (List.append_eq_nil_iff.1 hb.symm).1).2
  subst e2
  refine ⟨_,zFo (s:=Instr.indexAt T (a.eval x) (a.eval y)) (v:=.pointer (some ⟨b,off+i.toNat*z,none⟩)) (by simp [execOp,hop]) ?_,fun d' hd=>?_⟩
  ·rw [h2.1,hv,had]
   unfold Instr.indexAt
   rw [run_bind_ok (a:=(k,i)) (w':=w) rfl]
   simp only
   rw [run_bind_ok (zS _ _ w hT)]
   simp only
   rw [run_bind_ok (a:=(some (⟨b,off,none⟩:Addr),n,el)) (w':=w) rfl]
   rw [run_bind_ok (zS _ _ w hT)]
   simp only
   rw [if_pos ⟨hi,by omega⟩]
   rw [run_bind_ok (zS _ _ w hz)]
   rw [zE3]
   rfl
  ·cases hd
   simp only [Rep]
   exact ⟨trivial,b,off+i.toNat*z,_,rfl,hN,hH.sub (i.toNat*z) z,h4⟩
 ·exact absurd h3.1 (by simp)
end Go.Im

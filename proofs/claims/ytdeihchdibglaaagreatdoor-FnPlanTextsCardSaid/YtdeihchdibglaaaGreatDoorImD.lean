import Derived.Test.YtdeihchdibglaaaGreatDoorImC
import Derived.Laws.MakeOwn
import Derived.Laws.BytesString
import Derived.ChangeArms
import Derived.Carry
set_option linter.unusedVariables false
namespace Go.Im
open Go
def idx {α:Type} (xs:List α) (i:Int):Option α:=if 0≤i then xs[i.toNat]? else none
def bidx (s:ByteArray) (i:Int):Option Int:=if 0≤i then (s[i.toNat]?).map (fun b=>(b.toNat:Int)) else none
def app {α:Type} (bytes:Nat) (xs ys:List α):Option (List α):=if (xs.length+ys.length)*bytes≤140737488355328∧xs.length+ys.length≤4611686018427387904 then some (xs++ys) else none
def cat (s t:ByteArray):Option ByteArray:=if s.size+t.size≤1099511627776 then some (s++t) else none
def zFt (s:ByteArray) (l h:Int):Option ByteArray:=if 0≤l∧l≤h∧h≤s.size then some (s.extract l.toNat h.toNat) else none
def zGp {α:Type} (s:List α) (l h:Int):Option (List α):=if 0≤l∧l≤h∧h≤s.length then some ((s.drop l.toNat).take (h.toNat-l.toNat)) else none
abbrev seq (a b:ByteArray):Bool:=a.toList==b.toList
abbrev slt (a b:ByteArray):Bool:=Op.bytesLess a.toList b.toList
def zF (v:Int):List D:=[.sc (.int .i64 v)]
def eU8 (v:Int):List D:=[.sc (.int .u8 v)]
def eStr (v:ByteArray):List D:=[.sc (.string v)]
def eSl {α:Type} (o:Bool) (z:Nat) (f:α→List D) (xs:List α):List D:=[.s o z xs.length (xs.map f)]
section
variable {Γ:Ctx} {fc:Code} {k:List II} {σ:St} {T U:Type} {K:T→Option (D×List Ent)}
theorem zSo {σ':St} {e:Option T} (h:σ=σ') (hj:J Γ fc k σ' e K):J Γ fc k σ e K:=by subst h; exact hj
theorem J_j {V:Type} {v:V} {rest:V→Option T} (h:J Γ fc k σ (rest v) K):J Γ fc k σ (some v) (fun v=>(rest v).bind K):=
 zQm (q:=fun v=>v) (fun out ho=>Option.bind_eq_some_iff.1 ho) h
theorem zRI {R V:Type} {y:Option (Fl R V)} {K0:R→Option (D×List Ent)} {fr:R→Option T} {rest:V→Option T} (hr:∀r,(fr r).bind K=K0 r)
  (h:J Γ fc k σ y (Fl.go K0 (fun v=>(rest v).bind K))):J Γ fc k σ (y.bind (Fl.go fr rest)) K:=by
 refine zJj ?_
 have e:(fun x=>(Fl.go fr rest x).bind K)=Fl.go K0 (fun v=>(rest v).bind K):=by
  funext x
  cases x with
  |ret r=>exact hr r
  |nxt v=>rfl
 rw [e]
 exact h
theorem zU {V:Type} {y:Option V} {rest:V→Option T} (k':List II) (σ':V→St) (hj:∀v,J Γ fc k' (σ' v) (rest v) K) (h:(∀v,J Γ fc k' (σ' v) (rest v) K)→J Γ fc k σ y (fun v=>(rest v).bind K)):J Γ fc k σ (y.bind rest) K:=
 zJj (h hj)
theorem zK3 {R V:Type} {y:Option (Fl R V)} {fr:R→Option T} {rest:V→Option T} (k':List II) (σ':V→St) (hj:∀v,J Γ fc k' (σ' v) (rest v) K) (h:(∀v,J Γ fc k' (σ' v) (rest v) K)→J Γ fc k σ y (fun x=>(Fl.go fr rest x).bind K)):
 J Γ fc k σ (y.bind (Fl.go fr rest)) K:=zJj (h hj)
theorem zRz {e:Option T} {t:Nat} {b:Bool} (b':Bool) (hl:lk σ.tm t=some (.sc (.bool b))) (h:b=b') (hj:J Γ fc k ⟨(t,.sc (.bool b'))::σ.tm,σ.hp,σ.us⟩ e K):J Γ fc k σ e K:=by
 subst h
 refine zGJ (fun a w hr=>?_) hj
 have hm:=zAT hl
 exact Rel.weak (σ':=⟨_,σ.hp,σ.us⟩) hr (fun x hx=>by rcases List.mem_cons.1 hx with rfl|hx; exact hm; exact hx) (fun x hx=>hx) hr.2.choose_spec.choose_spec.keys (fun t' ht'=>by
  refine hr.1 t' ?_
  rcases ht' with ht'|ht'
  ·simp only [zLU,List.flatMap_cons,D.men,List.nil_append] at ht'
   exact .inl ht'
  ·exact .inr ht')
theorem vB {e:Option T} (tm2:List (Nat×D)) (hp2:List (Nat×Ent)) (h:(tm2.map (fun x=>lk σ.tm x.1),hp2.map (fun x=>lk σ.hp x.1),zEW (hp2.map (·.1)))=(tm2.map (fun x=>some x.2),hp2.map (fun x=>some x.2),true))
  (hj:J Γ fc k (St.mk' tm2 hp2) e K):J Γ fc k σ e K:=by
 simp only [Prod.mk.injEq] at h
 obtain ⟨h1,h2,h3⟩:=h
 refine zGJ (fun a w hr=>?_) hj
 exact Rel.weak hr (zEv h1) (zEv h2) (zBE h3) (fun t ht=>by simpa [St.mk'] using ht)
end
section
variable {Γ:Ctx} {fc:Code}
theorem zTi {p i:Nat} {id:Option Nat} (tm:List (Nat×D)) (hp:List (Nat×Ent)) (c0:Cert) {c:Cert} (h:(opAt fc p i).map (fun o=>(o.guard,ac0 Γ.P id o ⟨tm,hp,[]⟩))=some (none,some c0)) (hf:c0.fr=[]) (hc:c0=c):
  ∀id ops draw,sub fc p= .region id ops draw→∀o,ops[i]? =some o→Valid Γ ops o c:=by
 intro id' ops draw hs o ho
 have e:opAt fc p i=some o:=by unfold opAt; rw [hs]; exact ho
 rw [e] at h
 simp only [Option.map_some,Option.some.injEq,Prod.mk.injEq] at h
 subst hc
 exact (zHg h.1 h.2).v (by rw [hf]; simp)
theorem zSG {p i g t:Nat} {b:Bool} {id:Option Nat} (tm:List (Nat×D)) (hp:List (Nat×Ent)) (c0:Cert) {c:Cert} (h:(opAt fc p i).map (fun o=>(o.guard,ac0 Γ.P id {o with guard:=none} ⟨tm,hp,[]⟩))=some (some (g,b),some c0)) (hd:zLl fc p g=some t) (hf:c0.fr=[])
  (hc: {c0 with tn:=(t,.sc (.bool b))::c0.tn}=c):∀id ops draw,sub fc p= .region id ops draw→∀o,ops[i]? =some o→Valid Γ ops o c:=by
 intro id' ops draw hs o ho
 have e:opAt fc p i=some o:=by unfold opAt; rw [hs]; exact ho
 rw [e] at h
 simp only [Option.map_some,Option.some.injEq,Prod.mk.injEq] at h
 subst hc
 refine zFT h.1 ?_ rfl ((zHg (o:= {o with guard:=none}) rfl h.2).v (by rw [hf]; simp))
 unfold zLl opAt at hd
 rw [hs] at hd
 exact hd
end
section
variable {Γ:Ctx} {ops:Array Oper} {o:Oper}
theorem zFv {α:Type} {xs:List α} {i:Int} {a:α} (h:idx xs i=some a):0≤i∧xs[i.toNat]? =some a:=by
 unfold idx at h
 split at h
 ·exact ⟨by assumption,h⟩
 ·cases h
theorem zQE {c:Cert} {x y:Operand} {T el:TypeId} {k:IntKind} {z:Nat} {i:Int} {α:Type} {enc:α→List D} {xs:List α} {a:α} (h:idx xs i=some a) (hg:o.guard=none) (hop:o.op= .indexAddr T x y)
  (hc:c= {tn:=c.tn,out:=some (.ps (enc a))}) (hx:OpF c x (.s false z xs.length (xs.map enc))) (hy:OpF c y (.sc (.int k i))) (hT:yT Γ.P (underlying T)=some (.slice el)) (hz:zGk Γ.P el=some z):Valid Γ ops o c:=by
 obtain ⟨h1,h2⟩:=zFv h
 exact zQ7 hg hop hc hx hy hT hz h1 (by rw [List.getElem?_map,h2]; rfl)
theorem zNz {c:Cert} {x y:Operand} {T el:TypeId} {k:IntKind} {z t:Nat} {i:Int} {cap:Option Nat} {α:Type} {enc:α→List D} {xs:List α} {a:α} (h:idx xs i=some a) (hg:o.guard=none) (hop:o.op= .indexAddr T x y)
  (hc:c= {tn:=c.tn,hn:=c.hn,out:=some (.pt t i.toNat 0)}) (hx:OpF c x (.rf t 0 xs.length cap)) (hy:OpF c y (.sc (.int k i))) (hh:(t,.row z (xs.map enc))∈c.hn) (hT:yT Γ.P (underlying T)=some (.slice el)) (hz:zGk Γ.P el=some z):Valid Γ ops o c:=by
 obtain ⟨h1,h2⟩:=zFv h
 have:=(List.getElem?_eq_some_iff.1 h2).1
 exact zNJ (off:=0) hg hop hc hx hy hT hz h1 (by omega) (by omega) hh
theorem zNZ {c:Cert} {x:Operand} {T:TypeId} {z t j:Nat} {i:Int} {α:Type} {enc:α→List D} {xs:List α} {a:α} {d:D} (h:idx xs i=some a) (hg:o.guard=none) (hop:o.op= .load T x) (hc:c= {tn:=c.tn,hn:=c.hn,out:=some d})
  (hx:OpF c x (.pt t i.toNat j)) (hh:(t,.row z (xs.map enc))∈c.hn) (ho:((enc a).drop j).all zE1=true) (hd:zDQ Γ.P T ((enc a).drop j)=some d):Valid Γ ops o c:=by
 obtain ⟨h1,h2⟩:=zFv h
 exact zNK hg hop hc hx hh (by rw [List.getElem?_map,h2]; rfl) ho hd
theorem zR4 {c:Cert} {x y:Operand} {T:TypeId} {k:IntKind} {s:ByteArray} {i b:Int} (h:bidx s i=some b) (hg:o.guard=none) (hop:o.op= .index T x y) (hc:c= {tn:=c.tn,out:=some (.sc (.int .u8 b))})
  (hx:OpF c x (.sc (.string s))) (hy:OpF c y (.sc (.int k i))) (hT:yT Γ.P (underlying T)=some .string):Valid Γ ops o c:=by
 unfold bidx at h
 split at h
 ·rename_i h0
  obtain ⟨b',h1,rfl⟩:=Option.map_eq_some_iff.1 h
  exact zM8 hg hop hc rfl hx hy hT h0 h1
 ·cases h
theorem zPJ {c:Cert} {x y:Operand} {T U:TypeId} {s1 s2 s:ByteArray} (h:cat s1 s2=some s) (hg:o.guard=none) (hop:o.op= .binOp .add T x y U) (hc:c= {tn:=c.tn,out:=some (.sc (.string s))})
  (hx:OpF c x (.sc (.string s1))) (hy:OpF c y (.sc (.string s2))):Valid Γ ops o c:=by
 unfold cat at h
 split at h
 ·cases h; exact zPY hg hop hc hx hy (by assumption)
 ·cases h
theorem zI4 {α:Type} {bytes:Nat} {xs ys zs:List α} (h:app bytes xs ys=some zs):zs=xs++ys∧(xs.length+ys.length)*bytes≤140737488355328∧xs.length+ys.length≤4611686018427387904:=by
 unfold app at h
 split at h
 ·rename_i q; cases h; exact ⟨rfl,q⟩
 ·cases h
theorem zPP {c:Cert} {x y:Operand} {T U el e':TypeId} {t td ts z bytes:Nat} {cd cs:Option Nat} {zv:Value} {α:Type} {enc:α→List D} {xs ys zs:List α} (h:app bytes xs ys=some zs) (hm:Γ.m≤t) (hne:td≠ts) (hone:∀a,(enc a).all zE1=true) (hg:o.guard=none)
  (hop:o.op= .call {callee:=.builtin .append,args:= #[x,y],argTypes:= #[T,U]}) (hc:c= {tn:=c.tn,hn:=c.hn,out:=some (.rf t 0 zs.length none),hx:=[td,ts],hw:=[(t,.row z (zs.map enc))],fr:=[t]})
  (hx:OpF c x (.rf td 0 xs.length cd)) (hy:OpF c y (.rf ts 0 ys.length cs)) (hxr:(td,.row z (xs.map enc))∈c.hn) (hyr:(ts,.row z (ys.map enc))∈c.hn)
  (hT:Γ.P.underlying T=some (.slice el)) (hU:Γ.P.underlying U=some (.slice e')) (hinfo:(Γ.P.info? el).map (fun i=>(i.zero,i.size,i.bytes))=some (some zv,z,bytes)) (hzs:zv.cells.size=z):Valid Γ ops o c:=by
 obtain ⟨rfl,h1,h2⟩:=zI4 h
 refine zP6 (xs:=xs.map enc) (ys:=ys.map enc) hg hop ?_ hm hx hy hne hxr hyr (by simp) (by simp) hT hU hinfo hzs ?_ h1 h2
 ·rw [hc]; simp
 ·intro e he
  obtain ⟨a,_,rfl⟩:=List.mem_map.1 he
  exact hone a
theorem zNG {c:Cert} {x y:Operand} {T U el e':TypeId} {t ts z bytes:Nat} {cs:Option Nat} {zv:Value} {α:Type} {enc:α→List D} {ys zs:List α} (h:app bytes [] ys=some zs) (hm:Γ.m≤t) (hone:∀a,(enc a).all zE1=true) (hg:o.guard=none)
  (hop:o.op= .call {callee:=.builtin .append,args:= #[x,y],argTypes:= #[T,U]}) (hc:c= {tn:=c.tn,hn:=c.hn,out:=some (.rf t 0 zs.length none),hx:=[ts],hw:=[(t,.row z (zs.map enc))],fr:=[t]})
  (hx:OpF c x (.sc (.slice none 0 0))) (hy:OpF c y (.rf ts 0 ys.length cs)) (hyr:(ts,.row z (ys.map enc))∈c.hn)
  (hT:Γ.P.underlying T=some (.slice el)) (hU:Γ.P.underlying U=some (.slice e')) (hinfo:(Γ.P.info? el).map (fun i=>(i.zero,i.size,i.bytes))=some (some zv,z,bytes)) (hzs:zv.cells.size=z):Valid Γ ops o c:=by
 obtain ⟨h0,h1,h2⟩:=zI4 h
 rw [List.nil_append] at h0
 subst h0
 refine zNF (ys:=zs.map enc) (m:=zs.length) hg hop ?_ hm hx hy hyr (by simp) hT hU hinfo hzs ?_ (by simpa using h1) (by simpa using h2)
 ·exact hc
 ·intro e he
  obtain ⟨a,_,rfl⟩:=List.mem_map.1 he
  exact hone a
theorem zNW {c:Cert} {x y:Operand} {T U el e':TypeId} {t td z bytes:Nat} {cd:Option Nat} {zv:Value} {α:Type} {enc:α→List D} {xs ys zs:List α} (h:app bytes xs ys=some zs) (hm:Γ.m≤t) (hone:∀a,(enc a).all zE1=true) (hg:o.guard=none)
  (hop:o.op= .call {callee:=.builtin .append,args:= #[x,y],argTypes:= #[T,U]}) (hc:c= {tn:=c.tn,hn:=c.hn,out:=some (.rf t 0 zs.length none),hx:=[td],hw:=[(t,.row z (zs.map enc))],fr:=[t]})
  (hx:OpF c x (.rf td 0 xs.length cd)) (hy:OpF c y (.s false z ys.length (ys.map enc))) (hxr:(td,.row z (xs.map enc))∈c.hn)
  (hT:Γ.P.underlying T=some (.slice el)) (hU:Γ.P.underlying U=some (.slice e')) (hinfo:(Γ.P.info? el).map (fun i=>(i.zero,i.size,i.bytes))=some (some zv,z,bytes)) (hzs:zv.cells.size=z):Valid Γ ops o c:=by
 obtain ⟨rfl,h1,h2⟩:=zI4 h
 refine zNI (xs:=xs.map enc) (ys:=ys.map enc) hg hop ?_ hm hx hy hxr (by simp) hT hU hinfo hzs ?_ h1 h2
 ·rw [hc]; simp
 ·intro e he
  obtain ⟨a,_,rfl⟩:=List.mem_map.1 he
  exact hone a
end
end Go.Im
namespace Go.Im
open Go
def bs (l:List UInt8):ByteArray:=⟨l.toArray⟩
inductive Lp (S T:Type) where
 |go (s:S)
 |done (t:T)
def Lp.elim {S T:Type} (f:S→Option T):Lp S T→Option T
 | .go s=>f s
 | .done t=>some t
def run {S T:Type} (b:S→Option (Lp S T)):Nat→S→Option T
 |0,_=>none
 |n+1,s=>(b s).bind (Lp.elim (run b n))
open Classical in
noncomputable def loop {S T:Type} (b:S→Option (Lp S T)) (s:S):Option T:=if h:∃n t,run b n s=some t then some (Classical.choose (Classical.choose_spec h)) else none
section
variable {S T:Type} {b:S→Option (Lp S T)}
theorem zK7:∀{n m:Nat} {s:S} {t:T},run b n s=some t→n≤m→run b m s=some t
 |0,_,_,_,h,_=>by cases h
 |n+1,0,_,_,_,h=>by omega
 |n+1,m+1,s,t,h,hm=>by
  simp only [run] at h ⊢
  obtain ⟨x,h1,h2⟩:=Option.bind_eq_some_iff.1 h
  rw [h1]
  cases x with
  |go s'=>exact zK7 (n:=n) (m:=m) h2 (by omega)
  |done t'=>exact h2
theorem zHn {s:S} {t:T}:loop b s=some t↔∃n,run b n s=some t:=by
 unfold loop
 split
 ·rename_i h
  have h1:=Classical.choose_spec (Classical.choose_spec h)
  constructor
  ·intro e
   cases e
   exact ⟨_,h1⟩
  ·rintro ⟨n,hn⟩
   have a:=zK7 h1 (Nat.le_max_left _ n)
   have c:=zK7 hn (Nat.le_max_right (Classical.choose h) n)
   rw [a] at c
   exact c
 ·rename_i h
  constructor
  ·intro e; cases e
  ·rintro ⟨n,hn⟩; exact absurd ⟨n,t,hn⟩ h
theorem wO (b:S→Option (Lp S T)) (s:S):loop b s=(b s).bind (Lp.elim (loop b)):=by
 apply Option.ext
 intro t
 rw [zHn]
 constructor
 ·rintro ⟨n,hn⟩
  cases n with
  |zero=>cases hn
  |succ n=>
   simp only [run] at hn
   obtain ⟨x,h1,h2⟩:=Option.bind_eq_some_iff.1 hn
   rw [h1]
   cases x with
   |go s'=>exact zHn.2 ⟨n,h2⟩
   |done t'=>exact h2
 ·intro h
  obtain ⟨x,h1,h2⟩:=Option.bind_eq_some_iff.1 h
  cases x with
  |go s'=>
   obtain ⟨n,hn⟩:=zHn.1 h2
   exact ⟨n+1,by simp only [run]; rw [h1]; exact hn⟩
  |done t'=>exact ⟨1,by simp only [run]; rw [h1]; exact h2⟩
end
theorem zQ2 {α:Type} {m:Nat} {l:List (Nat×α)} (h:l.all (fun x=>Nat.ble m x.1)=true):∀x∈l,m≤x.1:=fun x hx=>qB (List.all_eq_true.1 h x hx)
theorem jG {α:Type} {enc enc':α→List D} (h:∀a,D.ro.roC (enc a)=enc' a) (xs:List α):∀{off n:Nat},off=0→n=xs.length→xs.map enc'=((D.ro.roE (xs.map enc)).drop off).take n:=by
 rintro _ _ rfl rfl
 have:D.ro.roE (xs.map enc)=xs.map enc':=by
  induction xs with
  |nil=>rfl
  |cons x xs ih=>simp only [List.map_cons,D.ro.roE,ih,h]
 rw [this,List.drop_zero,List.take_of_length_le (by simp)]
section
variable {Γ:Ctx} {fc:Code} {k:List II} {σ:St} {T U:Type} {K:T→Option (D×List Ent)}
theorem J_q {V:Type} {v:V} {w:T} {K0:V→Option (D×List Ent)} (h:J Γ fc k σ (some v) K0) (hK:K w=K0 v):J Γ fc k σ (some w) K:=by
 intro r out he hk a wd hrel
 cases he
 exact h v out rfl (hK▸hk) a wd hrel
theorem xB {b:Bool} {x y:Option T} (h1:b=true→J Γ fc k σ x K) (h2:b=false→J Γ fc k σ y K):J Γ fc k σ (if b then x else y) K:=by
 cases b with
 |true=>exact h1 rfl
 |false=>exact h2 rfl
theorem zTq {S:Type} {g:S→Option T} {s:S} (h:J Γ fc k σ (g s) K):J Γ fc k σ (some (Lp.go s)) (fun x=>(Lp.elim g x).bind K):=
 zQm (q:=Lp.go) (fun out ho=>Option.bind_eq_some_iff.1 ho) h
theorem uM {S:Type} {b:S→Option (Lp S T)} {σ:S→St} (h:∀g:S→Option T,(∀s,J Γ fc k (σ s) (g s) K)→∀s,J Γ fc k (σ s) (b s) (fun x=>(Lp.elim g x).bind K)):∀s,J Γ fc k (σ s) (loop b s) K:=by
 have key:∀n s,J Γ fc k (σ s) (run b n s) K:=by
  intro n
  induction n with
  |zero=>exact fun s=>zQt
  |succ n ih=>exact fun s=>zJj (h (run b n) ih s)
 intro s r out he hk a w hrel
 obtain ⟨n,hn⟩:=zHn.1 he
 exact key n s r out hn hk a w hrel
def zQ4 (P:Program) (tm:List (Nat×D)) (hp:List (Nat×Ent)):List ResultVar→Option (List D)
 |[]=>some []
 | .tmp t::rs=>match lk tm t,zQ4 P tm hp rs with
  |some d,some ds=>some (d::ds)
  |_,_=>none
 | .cell t T::rs=>match lk tm t with
  |some (.pt q 0 j)=>match lk hp q with
   |some (.box cs)=>match zDQ P T (cs.drop j),zQ4 P tm hp rs with
    |some d,some ds=>some (d::ds)
    |_,_=>none
   |_=>none
  |_=>none
theorem zJs {P:Program}:∀{rs:List ResultVar} {ds:List D},zQ4 P σ.tm σ.hp rs=some ds→zQa σ P rs ds
 |[],ds,h=>by simp only [zQ4] at h; cases h; trivial
 | .tmp t::rs,ds,h=>by
  simp only [zQ4] at h
  split at h
  ·rename_i d ds' h1 h2; cases h; exact ⟨zAT h1,zJs h2⟩
  ·cases h
 | .cell t T::rs,ds,h=>by
  simp only [zQ4] at h
  split at h
  ·rename_i q j h1
   split at h
   ·rename_i cs h2
    split at h
    ·rename_i d ds' h3 h4; cases h; exact ⟨⟨q,cs,j,zAT h1,zAT h2,h3⟩,zJs h4⟩
    ·cases h
   ·cases h
  ·cases h
theorem zRO {P:Program} {f:FuncId} {fn:Func} {args:List D} {hin:List Ent} {e:Option T} {g:T→D×List Ent} {nt:Nat} (hf:P.funcs[f]? =some fn) (hb:fn.body=some fc) (hnt:fn.ntmps=nt)
  (hna:args.length≤nt)
  (h:∀(w0:World) (N0:Nat→Prop) (O0:List Nat) (β0:Nat→Loc),J ⟨P,f,w0,N0,O0,hin.length,β0,nt⟩ fc [.c 1] ⟨args.zipIdx.map (fun x=>(x.2,x.1)),zFC hin,D.men.zER args++zIp (zFC hin)⟩ e (fun r=>some (g r))):Ok P f args hin (e.map g):=
 zSK hf hb hnt hna (fun t ht=>List.mem_append.2 ht) (fun out ho=>by
  obtain ⟨r,h1,h2⟩:=Option.map_eq_some_iff.1 ho
  exact ⟨r,h1,by rw [h2]⟩) h
end
section
variable {Γ:Ctx} {fc:Code} {k:List II} {σ:St} {T:Type} {K:T→Option (D×List Ent)}
def D.ren (f:Nat→Nat):D→D
 | .rf t off n cap=>.rf (f t) off n cap
 | .pt t i j=>.pt (f t) i j
 | .sub t i j=>.sub (f t) i j
 | .fn g caps=>.fn g (renL f caps)
 | .fb g caps=>.fb g (renL f caps)
 | .pb cs=>.pb (renL f cs)
 | .ag cs=>.ag (renL f cs)
 | .tu cs=>.tu (renL f cs)
 | .po cs=>.po (renL f cs)
 |d=>d
 where
 renL (f:Nat→Nat):List D→List D
  |[]=>[]
  |d::ds=>d.ren f::renL f ds
section
variable {β β':Nat→Loc} {N:Nat→Prop} {w:World} {f:Nat→Nat}
mutual
theorem Rep.ren (hβ:∀t,β' (f t)=β t):∀(d:D) (v:Value) (bs:List Nat),Rep β N w true d v bs→Rep β' N w true (d.ren f) v bs
 | .sc u,v,bs,h=>by simpa only [Rep,D.ren] using h
 | .s o z n xs,v,bs,h=>Rep.frame (β':=β') (fun b hb=>⟨hb,rfl⟩) (.s o z n xs) true v bs (fun _ _=>rfl) (by simp [D.men]) h
 | .rf t off n cap,v,bs,h=>by simp only [Rep,D.ren] at h ⊢; rw [hβ]; exact h
 | .pt t i j,v,bs,h=>by simp only [Rep,D.ren] at h ⊢; rw [hβ]; exact h
 | .ps cs,v,bs,h=>Rep.frame (β':=β') (fun b hb=>⟨hb,rfl⟩) (.ps cs) true v bs (fun _ _=>rfl) (by simp [D.men]) h
 | .fn g caps,v,bs,h=>by
  simp only [Rep,D.ren] at h ⊢
  obtain ⟨h1,h2,ws,h3,h4⟩:=h
  exact ⟨h1,h2,ws,h3,zK.ren hβ caps ws [] h4⟩
 | .fb g caps,v,bs,h=>by
  simp only [Rep,D.ren] at h ⊢
  obtain ⟨h1,h2,ws,h3,h4⟩:=h
  exact ⟨h1,h2,ws,h3,zK.ren hβ caps ws [] h4⟩
 | .pb cs,v,bs,h=>by
  simp only [Rep,D.ren] at h ⊢
  obtain ⟨h1,h2,b,off,ws,h3,h4,h5,h6,h7⟩:=h
  exact ⟨h1,h2,b,off,ws,h3,h4,h5,h6,zK.ren hβ cs ws [] h7⟩
 | .ag cs,v,bs,h=>by
  simp only [Rep,D.ren] at h ⊢
  obtain ⟨h1,ws,h2,h3,h4⟩:=h
  exact ⟨h1,ws,h2,h3,zK.ren hβ cs ws bs h4⟩
 | .tu cs,v,bs,h=>by
  simp only [Rep,D.ren] at h ⊢
  obtain ⟨h1,ws,h2,h4⟩:=h
  exact ⟨h1,ws,h2,zK.ren hβ cs ws bs h4⟩
 | .un,v,bs,h=>by simpa only [Rep,D.ren] using h
 | .nb _,v,bs,h=>by simpa only [Rep,D.ren] using h
 | .ln _,v,bs,h=>by simpa only [Rep,D.ren] using h
 | .po cs,v,bs,h=>by
  simp only [Rep,D.ren] at h ⊢
  obtain ⟨h1,b,off,r,ws,bs',h2,h3,h4,h5,h6⟩:=h
  exact ⟨h1,b,off,r,ws,bs',h2,h3,h4,h5,zK.ren hβ cs ws bs' h6⟩
 | .sub t off n,v,bs,h=>by simp only [Rep,D.ren] at h ⊢; rw [hβ]; exact h
theorem zK.ren (hβ:∀t,β' (f t)=β t):∀(ds:List D) (ws:List Value) (bs:List Nat),zK β N w true ds ws bs→zK β' N w true (D.ren.renL f ds) ws bs
 |[],ws,bs,h=>by simpa only [zK,D.ren.renL] using h
 |d::ds,ws,bs,h=>by
  simp only [zK,D.ren.renL] at h ⊢
  obtain ⟨v,vs,b1,b2,h1,h2,h3,h4⟩:=h
  exact ⟨v,vs,b1,b2,h1,h2,Rep.ren hβ d v b1 h3,zK.ren hβ ds vs b2 h4⟩
end
def Ent.ren (f:Nat→Nat):Ent→Ent
 | .box cs=>.box (D.ren.renL f cs)
 | .row z xs=>.row z xs
 | .lent z xs i j t n=>.lent z xs i j (f t) n
theorem zBR.ren (hβ:∀t,β' (f t)=β t) {L:Loc} {bs:List Nat}:∀{e:Ent},zBR β N w L bs e→zBR β' N w L bs (e.ren f)
 | .box cs,h=>by
  obtain ⟨h0,h1,ws,h2,h3,h4⟩:=h
  have:(D.ren.renL f cs).length =cs.length:=by
   clear h1 h2 h3 h4
   induction cs with
   |nil=>rfl
   |cons c cs ih=>simp [D.ren.renL,ih]
  exact ⟨h0,by rw [this]; exact h1,ws,h2,h3,zK.ren hβ cs ws bs h4⟩
 | .row z xs,h=>zBR.frame (e:=.row z xs) (fun b hb=>⟨hb,rfl⟩) (fun _ _=>rfl) (fun _=>rfl) (by simp [Ent.men]) h
 | .lent z xs i j t n,h=>by
  obtain ⟨h0,h1,h2,ws,h3,h4,v,h5,h6⟩:=h
  refine ⟨h0,h1,h2,ws,h3,zZ.frame (fun b hb=>⟨hb,rfl⟩) _ _ _ (fun _ _=>rfl) h4,v,h5,?_⟩
  have:=Rep.ren (β':=β') hβ _ _ _ h6
  simpa only [D.ren] using this
theorem vS.ren (hβ:∀t,β' (f t)=β t):∀{hp:List (Nat×Ent)} {bs:List Nat},vS β N w hp bs→vS β' N w (hp.map (fun x=>(f x.1,x.2.ren f))) bs
 |[],bs,h=>h
 |(t,e)::hp,bs,h=>by
  obtain ⟨b1,b2,h1,h2,h3⟩:=h
  refine ⟨b1,b2,by simp only [hβ]; exact h1,?_,vS.ren hβ h3⟩
  simp only [hβ]
  exact zBR.ren hβ h2
end
def swp (a b x:Nat):Nat:=if x=a then b else if x=b then a else x
theorem zMg (a b x:Nat):swp a b (swp a b x)=x:=by
 unfold swp
 split
 ·subst_vars
  split
  ·rename_i h; exact h
  ·simp
 ·split
  ·subst_vars; simp
  ·simp [*]
mutual
theorem D.zKD (f:Nat→Nat):∀(d:D),(d.ren f).men =d.men.map f
 | .sc _=>rfl
 | .s _ _ _ _=>rfl
 | .rf _ _ _ _=>rfl
 | .pt _ _ _=>rfl
 | .ps _=>rfl
 | .fn _ cs=>by simp only [D.ren,D.men]; exact zFu f cs
 | .fb _ cs=>by simp only [D.ren,D.men]; exact zFu f cs
 | .pb cs=>by simp only [D.ren,D.men]; exact zFu f cs
 | .ag cs=>by simp only [D.ren,D.men]; exact zFu f cs
 | .tu cs=>by simp only [D.ren,D.men]; exact zFu f cs
 | .un =>rfl
 | .nb _=>rfl
 | .ln _=>rfl
 | .po cs=>by simp only [D.ren,D.men]; exact zFu f cs
 | .sub _ _ _=>rfl
theorem zFu (f:Nat→Nat):∀(ds:List D),D.men.zER (D.ren.renL f ds)=(D.men.zER ds).map f
 |[]=>rfl
 |d::ds=>by simp only [D.ren.renL,D.men.zER,List.map_append,D.zKD f d,zFu f ds]
end
theorem Ent.zKD (f:Nat→Nat) (e:Ent):(e.ren f).men =e.men.map f:=by
 cases e with
 |box cs=>exact zFu f cs
 |row z xs=>rfl
 |lent z xs i j t n=>rfl
theorem xV {e:Option T} (a b:Nat) (ha:Γ.m≤a) (hb:Γ.m≤b)
  (hj:J Γ fc k ⟨σ.tm.map (fun x=>(x.1,x.2.ren (swp a b))),σ.hp.map (fun x=>(swp a b x.1,x.2.ren (swp a b))),σ.us.map (swp a b)⟩ e K):J Γ fc k σ e K:=by
 refine zGJ (fun ac w hr=>?_) hj
 obtain ⟨h0,β,bs,h⟩:=hr
 have hβ:∀t,(fun x=>β (swp a b x)) (swp a b t)=β t:=fun t=>by simp only [zMg]
 refine ⟨?_,fun x=>β (swp a b x),bs,?_⟩
 ·intro t ht
  have key:∃t',t=swp a b t'∧(t'∈zLU σ.tm∨t'∈zIp σ.hp):=by
   rcases ht with ht|ht
   ·obtain ⟨x,hx,hx'⟩:=List.mem_flatMap.1 ht
    obtain ⟨y,hy,rfl⟩:=List.mem_map.1 hx
    simp only [D.zKD] at hx'
    obtain ⟨t',ht',rfl⟩:=List.mem_map.1 hx'
    exact ⟨t',rfl,.inl (List.mem_flatMap.2 ⟨y,hy,ht'⟩)⟩
   ·obtain ⟨x,hx,hx'⟩:=List.mem_flatMap.1 ht
    obtain ⟨y,hy,rfl⟩:=List.mem_map.1 hx
    rcases List.mem_cons.1 hx' with rfl|hx'
    ·exact ⟨y.1,rfl,.inr (List.mem_flatMap.2 ⟨y,hy,by simp⟩)⟩
    ·simp only [Ent.zKD] at hx'
     obtain ⟨t',ht',rfl⟩:=List.mem_map.1 hx'
     exact ⟨t',rfl,.inr (List.mem_flatMap.2 ⟨y,hy,by simp [ht']⟩)⟩
  obtain ⟨t',rfl,ht'⟩:=key
  exact List.mem_map.2 ⟨t',h0 t' ht',rfl⟩
 ·refine {defers:=h.defers,size:=h.size,keys:=?_,par:=fun k' hk'=>?_,grow:=h.grow,gh:=h.gh,quiet:=h.quiet,keep:=h.keep,hp:=vS.ren (β':=fun x=>β (swp a b x)) hβ h.hp,nodup:=h.nodup,own:=h.own,tm:=?_}
  ·rw [List.map_map]
   have e1:(σ.hp.map ((fun x:Nat×Ent=>x.1) ∘ fun x:Nat×Ent=>(swp a b x.1,x.2.ren (swp a b))))=(σ.hp.map (·.1)).map (swp a b):=by rw [List.map_map]; rfl
   rw [e1]
   refine List.Pairwise.map _ ?_ h.keys
   intro x y hxy hxy'
   apply hxy
   have:=congrArg (swp a b) hxy'
   rwa [zMg,zMg] at this
  ·have e2:swp a b k'=k':=by unfold swp; rw [if_neg (by omega),if_neg (by omega)]
   simp only [e2]
   exact h.par k' hk'
  ·intro t d hd
   obtain ⟨x,hx,hx'⟩:=List.mem_map.1 hd
   cases hx'
   obtain ⟨v,h1,h2⟩:=h.tm x.1 x.2 hx
   exact ⟨v,h1,Rep.ren (β':=fun x=>β (swp a b x)) hβ _ _ _ h2⟩
end
end Go.Im
namespace Go.Im
open Go
section
variable {Γ:Ctx} {fc:Code} {k:List II} {σ:St} {T:Type} {K:T→Option (D×List Ent)}
theorem zK.free {β:Nat→Loc} {N:Nat→Prop} {w:World}:∀{ds:List D} {vs:List Value} {bs:List Nat},ds.all D.free=true→zK β N w true ds vs bs→bs=[]
 |[],vs,bs,_,h=>by simp only [zK] at h; exact h.2
 |d::ds,vs,bs,hf,h=>by
  simp only [List.all_cons,Bool.and_eq_true] at hf
  simp only [zK] at h
  obtain ⟨v,vs',b1,b2,rfl,rfl,h3,h4⟩:=h
  rw [Rep.free hf.1 h3,zK.free hf.2 h4]
  rfl
theorem Emb.free {hn:List (Nat×Ent)} {ds ds':List D} {ts:List Nat} (h:Emb hn ds ds' ts):ds.all D.free=true:=by
 induction h with
 |nil=>rfl
 |keep hd _ ih=>
  rename_i d _ _ _ _
  simp only [List.all_cons,ih,Bool.and_true]
  cases d<;>simp_all [D.nest,D.free]
 |nilsl _ _ _ ih=>simpa [D.free] using ih
 |move _ _ _ _ ih=>simpa [D.free] using ih
theorem Emb.lengths {hn:List (Nat×Ent)} {ds ds':List D} {ts:List Nat} (h:Emb hn ds ds' ts):ds'.length=ds.length:=by
 induction h with
 |nil=>rfl
 |keep _ _ ih=>simp [ih]
 |nilsl _ _ _ ih=>simp [ih]
 |move _ _ _ _ ih=>simp [ih]
theorem Emb.zER {hn:List (Nat×Ent)} {ds ds':List D} {ts:List Nat} (h:Emb hn ds ds' ts):D.men.zER ds'=[]:=by
 induction h with
 |nil=>rfl
 |keep hd _ ih=>
  rename_i d _ _ _ _
  cases d<;>simp_all [D.nest,D.men,D.men.zER]
 |nilsl _ _ _ ih=>simpa [D.men,D.men.zER] using ih
 |move _ _ _ _ ih=>simpa [D.men,D.men.zER] using ih
theorem zQn {l:List Ent} (h:l.flatMap Ent.men=[]):∀e∈l,e.men=[]:=fun e he=>List.eq_nil_iff_forall_not_mem.2 (fun t ht=>by
 have:t∈l.flatMap Ent.men:=List.mem_flatMap.2 ⟨e,he,ht⟩
 rw [h] at this
 simp at this)
theorem tT {e:Option T} (t:Nat) {cs cs':List D} {ts:List Nat} (hl:lk σ.hp t=some (.box cs)) (he:Emb (σ.hp.filter (fun x=>x.1 !=t)) cs cs' ts)
  (hj:J Γ fc k ⟨σ.tm,(t,.box cs')::(σ.hp.filter (fun x=>x.1 !=t)).filter (fun x=> !ts.contains x.1),σ.us⟩ e K):J Γ fc k σ e K:=by
 refine zGJ (fun a w hr=>?_) hj
 obtain ⟨h0,β,bs,h⟩:=hr
 obtain ⟨b1,bk,p,hE,hrest⟩:=vS.take h.hp h.keys (zAT hl)
 obtain ⟨hnil,hz,ws,hO,hone,hcs⟩:=hE
 have hb1:=zK.free he.free hcs
 subst hb1
 have hkf:((σ.hp.filter (fun x=>x.1 !=t)).map (·.1)).Nodup :=List.Nodup.sublist (List.Sublist.map _ List.filter_sublist) h.keys
 obtain ⟨c1,ck,q1,q2,q3⟩:=Emb.rep he hrest hkf (fun x hx _=>hx) hcs
 have hp:bs.Perm ((β t).own ++(c1++ck)):=by
  refine p.trans (List.Perm.append_left _ ?_)
  simpa using q1
 have hNS:∀b,NS Γ w bs b→NS Γ w ((β t).own ++(c1++ck)) b:=fun b hb=>NS.sub (fun x hx=>hp.mem_iff.2 hx) hb
 refine ⟨?_,β,(β t).own ++(c1++ck),{defers:=h.defers,size:=h.size,keys:=?_,par:=h.par,grow:=h.grow,gh:=h.gh,quiet:=h.quiet,keep:=h.keep,hp:=⟨c1,ck,rfl,⟨hnil,by rw [he.lengths]; exact hz,ws,hO,hone,?_⟩,?_⟩,nodup:=hp.nodup_iff.1 h.nodup,own:=fun b hb=>h.own b (hp.mem_iff.2 hb),tm:=?_}⟩
 ·intro t' ht'
  rcases ht' with ht'|ht'
  ·exact h0 t' (.inl ht')
  ·simp only [zIp,List.flatMap_cons,Ent.men,he.zER,qJ,qK,List.not_mem_nil,or_false] at ht'
   rcases ht' with rfl|ht'
   ·exact h0 t' (.inr (List.mem_flatMap.2 ⟨_,zAT hl,by simp⟩))
   ·obtain ⟨x,hx,hx'⟩:=List.mem_flatMap.1 ht'
    exact h0 t' (.inr (List.mem_flatMap.2 ⟨x,(List.mem_filter.1 (List.mem_filter.1 hx).1).1,hx'⟩))
 ·simp only [List.map_cons,List.nodup_cons]
  refine ⟨fun hin=>?_,List.Nodup.sublist (List.Sublist.map _ List.filter_sublist) hkf⟩
  obtain ⟨x,hx,hx'⟩:=List.mem_map.1 hin
  have:=(List.mem_filter.1 (List.mem_filter.1 hx).1).2
  simp [hx'] at this
 ·exact (zK.frame (fun b hb=>⟨hNS b hb,rfl⟩) cs' false ws c1 (fun _ _=>rfl) (fun _ _=>rfl) q2).up
 ·exact vS.frame (fun b hb=>⟨hNS b hb,rfl⟩) _ _ (fun _ _=>rfl) (fun _ _=>rfl) q3
 ·intro t' d hd
  obtain ⟨v,h1,h2⟩:=h.tm t' d hd
  exact ⟨v,h1,Rep.frame (fun b hb=>⟨hNS b hb,rfl⟩) d true v [] (by simp) (fun _ _=>rfl) h2⟩
theorem vF {e:Option T} (t:Nat) {cs cs':List D} {es:List (Nat×Ent)} (hl:lk σ.hp t=some (.box cs)) (hn:NmL cs cs' es) (hlen:cs'.length=cs.length) (hnd:zEW (es.map (·.1))=true)
  (hf:es.all (fun x=> !σ.us.contains x.1&&Nat.ble Γ.m x.1)=true)
  (hj:J Γ fc k ⟨σ.tm,(t,.box cs')::(es++σ.hp.filter (fun x=>x.1 !=t)),es.map (·.1)++σ.us⟩ e K):J Γ fc k σ e K:=by
 refine zGJ (fun a w hr=>?_) hj
 obtain ⟨h0,β,bs,h⟩:=hr
 obtain ⟨b1,bk,p,hE,hrest⟩:=vS.take h.hp h.keys (zAT hl)
 obtain ⟨hnil,hz,ws,hO,hone,hcs⟩:=hE
 have hnd':=zBE hnd
 have hfr:∀i∈es.map (·.1),i∉σ.us∧Γ.m≤i:=fun i hi=>by
  obtain ⟨x,hx,rfl⟩:=List.mem_map.1 hi
  have:=List.all_eq_true.1 hf x hx
  simp only [Bool.and_eq_true,Bool.not_eq_eq_eq_not,Bool.not_true,List.contains_eq_mem,decide_eq_false_iff_not] at this
  exact ⟨this.1,qB this.2⟩
 obtain ⟨β1,g1,g2,g3⟩:=NmL.rep β hn hnd' hcs
 have htu:t∈σ.us:=h0 t (.inr (List.mem_flatMap.2 ⟨_,zAT hl,by simp⟩))
 have hβt:β1 t=β t:=g1 t (fun hi=>(hfr t hi).1 htu)
 have hβu:∀t'∈σ.us,β1 t'=β t':=fun t' ht'=>g1 t' (fun hi=>(hfr t' hi).1 ht')
 have hmen:=NmL.men hn
 refine ⟨?_,β1,(β t).own ++([]++(b1++bk)),{defers:=h.defers,size:=h.size,keys:=?_,par:=fun q hq=>?_,grow:=h.grow,gh:=h.gh,quiet:=h.quiet,keep:=h.keep,hp:=?_,nodup:=?_,own:=fun b hb=>h.own b (p.mem_iff.2 (by simpa using hb)),tm:=?_}⟩
 ·intro t' ht'
  rcases ht' with ht'|ht'
  ·exact List.mem_append_right _ (h0 t' (.inl ht'))
  ·simp only [zIp,List.flatMap_cons,List.flatMap_append,qJ,Ent.men,qK] at ht'
   rcases ht' with (rfl|ht')|ht'|ht'
   ·exact List.mem_append_right _ htu
   ·exact List.mem_append_left _ (hmen.1 t' ht')
   ·obtain ⟨x,hx,hx'⟩:=List.mem_flatMap.1 ht'
    have hx2:t'∈x.1::x.2.men:=hx'
    rw [hmen.2 x hx] at hx2
    simp at hx2
    subst hx2
    exact List.mem_append_left _ (List.mem_map.2 ⟨x,hx,rfl⟩)
   ·obtain ⟨x,hx,hx'⟩:=List.mem_flatMap.1 ht'
    exact List.mem_append_right _ (h0 t' (.inr (List.mem_flatMap.2 ⟨x,(List.mem_filter.1 hx).1,hx'⟩)))
 ·simp only [List.map_cons,List.map_append,List.nodup_cons]
  refine ⟨?_,List.nodup_append.2 ⟨hnd',List.Nodup.sublist (List.Sublist.map _ List.filter_sublist) h.keys,?_⟩⟩
  ·intro hin
   rcases List.mem_append.1 hin with hin|hin
   ·exact (hfr t hin).1 htu
   ·obtain ⟨x,hx,hx'⟩:=List.mem_map.1 hin
    have:=(List.mem_filter.1 hx).2
    simp [hx'] at this
  ·intro i hi j hj' hij
   subst hij
   obtain ⟨x,hx,hx'⟩:=List.mem_map.1 hj'
   exact (hfr i hi).1 (h0 i (.inr (List.mem_flatMap.2 ⟨x,(List.mem_filter.1 hx).1,by simp [hx']⟩)))
 ·rw [←h.par q hq]
  refine g1 q (fun hi=>?_)
  have:=(hfr q hi).2
  omega
 ·have hNS:∀b,NS Γ w bs b→NS Γ w ((β t).own ++([]++(b1++bk))) b:=fun b hb=>NS.sub (fun x hx=>p.mem_iff.2 (by simpa using hx)) hb
  refine ⟨[],b1++bk,by rw [hβt],?_,vS.app ?_ ?_⟩
  ·rw [hβt]
   exact ⟨hnil,by rw [hlen]; exact hz,ws,hO,hone,zK.frame (fun b hb=>⟨hNS b hb,rfl⟩) cs' true ws [] (by simp) (fun _ _=>rfl) g2⟩
  ·exact vS.frame (fun b hb=>⟨hNS b hb,rfl⟩) _ _ (fun _ _=>rfl) (fun _ _=>rfl) g3
  ·refine vS.frame (fun b hb=>⟨hNS b hb,rfl⟩) _ _ (fun _ _=>rfl) (fun t' ht'=>hβu t' ?_) hrest
   obtain ⟨x,hx,hx'⟩:=List.mem_flatMap.1 ht'
   exact h0 t' (.inr (List.mem_flatMap.2 ⟨x,(List.mem_filter.1 hx).1,hx'⟩))
 ·have:=p.nodup_iff.1 h.nodup
  simpa using this
 ·have hNS:∀b,NS Γ w bs b→NS Γ w ((β t).own ++([]++(b1++bk))) b:=fun b hb=>NS.sub (fun x hx=>p.mem_iff.2 (by simpa using hx)) hb
  intro t' d hd
  obtain ⟨v,h1,h2⟩:=h.tm t' d hd
  exact ⟨v,h1,Rep.frame (fun b hb=>⟨hNS b hb,rfl⟩) d true v [] (by simp) (fun q hq=>hβu q (h0 q (.inl (List.mem_flatMap.2 ⟨_,hd,hq⟩)))) h2⟩
end
end Go.Im
namespace Go.Im
open Go
def mk {α:Type} (bytes:Nat) (n:Int) (a:α):Option (List α):=if 0≤n∧bytes*n.toNat≤281474976710656∧n≤9223372036854775807 then some (List.replicate n.toNat a) else none
section
variable {Γ:Ctx} {ops:Array Oper} {o:Oper}
theorem zIY (z:Array Value) (n:Nat):(madeCells z ((n+1)*z.size)).toList =z.toList++(madeCells z (n*z.size)).toList :=by
 by_cases h0:z.size=0
 ·have:z= #[]:=Array.eq_empty_of_size_eq_zero h0
  subst this
  simp [madeCells]
 ·apply List.ext_getElem
  ·simp [madeCells,Nat.add_mul,Nat.add_comm]
  ·intro i h1 h2
   simp only [madeCells,Array.toList_map,Array.toList_range,List.getElem_map,List.getElem_range]
   simp [madeCells] at h1 h2
   have hm:i%z.size<z.size:=Nat.mod_lt _ (by omega)
   rw [getElem!_pos z _ hm]
   by_cases hi:i<z.size
   ·rw [List.getElem_append_left (by simpa using hi)]
    simp [Nat.mod_eq_of_lt hi]
   ·rw [List.getElem_append_right (by simp; omega)]
    simp only [List.getElem_map,List.getElem_range,Array.length_toList]
    have hm2:(i-z.size)%z.size<z.size:=Nat.mod_lt _ (by omega)
    rw [getElem!_pos z _ hm2]
    congr 1
    rw [Nat.mod_eq_sub_mod (by omega)]
theorem zKd {β:Nat→Loc} {N:Nat→Prop} {w:World} {zv:Value} {e:List D} (he:Emb [] (zv.cells.toList.map D.sc) e []):∀(n:Nat),zZ β N w (List.replicate n e) (madeCells zv.cells (n*zv.cells.size)).toList []
 |0=>by simp [zZ,madeCells]
 |n+1=>by
  rw [zIY,List.replicate_succ]
  simp only [zZ]
  obtain ⟨b1,bk,q1,q2,_⟩:=Emb.rep (β:=β) (N:=N) (w:=w) he (hp:=[]) (bs:=[]) rfl (by simp) (by simp) (zFN _)
  have:b1=[]:=(List.append_eq_nil_iff.1 (List.nil_perm.1 q1)).1
  subst this
  exact ⟨_,_,[],[],rfl,rfl,q2,zKd he n⟩
theorem zOL {c:Cert} {x y:Operand} {T el:TypeId} {k1 k2:IntKind} {n z t bytes:Nat} {zv:Value} {e:List D} (hg:o.guard=none) (hop:o.op= .makeSlice T x y)
  (hc:c= {tn:=c.tn,hn:=c.hn,out:=some (.rf t 0 n none),hw:=[(t,.row z (List.replicate n e))],fr:=[t]}) (hm:Γ.m≤t) (hx:OpF c x (.sc (.int k1 n))) (hy:OpF c y (.sc (.int k2 n)))
  (hT:Γ.P.underlying T=some (.slice el)) (hinfo:(Γ.P.info? el).map (fun i=>(i.zero,i.size,i.bytes))=some (some zv,z,bytes)) (hzs:zv.cells.size=z) (he:Emb [] (zv.cells.toList.map D.sc) e []) (hel:e.length=z)
  (hb:bytes*n≤281474976710656) (h63:n≤9223372036854775807):Valid Γ ops o c:=by
 intro σ a w Q hdst hn ⟨h0,β,bs,hr⟩
 have hwt:Region.wanted o (yielded ops a.tmps)=true:=by simp [Region.wanted,hg]
 rw [if_pos hwt]
 have hfr:t∉σ.us:=hn.2.2 t (by rw [hc]; simp)
 obtain ⟨i,hi,hz0,rfl,rfl⟩:=zOk hinfo
 have h1:=OpF.rep hx hn hr
 have h2:=OpF.rep hy hn hr
 simp only [Rep] at h1 h2
 have hbi:(i.bytes:Int)*(n:Int)≤281474976710656:=by
  have:((i.bytes*n:Nat):Int)≤281474976710656:=by omega
  rwa [Int.natCast_mul] at this
 have hrun:(execOp a.eval o).run Γ.P w= .ok (.value (.slice (some ⟨w.heap.size,0,none⟩) n n)) (w.alloc (.cells (madeCells zv.cells (n*i.size)) el)):=by
  refine zFo (s:=Instr.makeSlice T (a.eval x) (a.eval y)) (by simp [execOp,hop]) ?_
  rw [h1.1,h2.1]
  have:=run_make (P:=Γ.P) w T el i zv hT hi hz0 k1 k2 n n (by omega) (Int.le_refl _) hbi (by omega)
  simpa using this
 unfold Oper.wp
 rw [hrun,Oper.upon_value]
 exact Rel.newRow (Γ:=Γ) (arr:=madeCells zv.cells (n*i.size)) (el:=el) (t:=t) (z:=i.size) (n:=n) (cp:=n) (xs:=List.replicate n e) (ws:=(madeCells zv.cells (n*i.size)).toList) (b1:=[]) (bk:=bs) h0 hr hdst (by rw [hc]) hfr hm
  (.refl _) (by rw [hc]; exact (zGC σ.hp).symm ▸hr.hp) (fun x hx=>by rw [List.eq_of_mem_replicate hx]; exact hel) (by simp) (by rw [←hzs]; exact zKd he n) ⟨[],by simp⟩ (Nat.le_refl _) (by rw [size_madeCells]; exact Nat.le_refl _) rfl (by rw [hc]) ⟨rfl,rfl⟩
theorem zZ.cons {β:Nat→Loc} {N:Nat→Prop} {w:World} {e:List D} {xs:List (List D)} {w1 w2:List Value} {b1 b2:List Nat} (h1:zK β N w false e w1 b1) (h2:zZ β N w xs w2 b2):zZ β N w (e::xs) (w1++w2) (b1++b2):=by
 simp only [zZ]
 exact ⟨w1,w2,b1,b2,rfl,rfl,h1,h2⟩
theorem zIf {c:Cert} {en:Ent} {x y:Operand} {T:TypeId} {xs:List (List D)} {e es':List D} {d:D} {t i j z:Nat} {ts:List Nat} {hm:List (Nat×Ent)} (hg:o.guard=none) (hop:o.op= .store T x y) (hds:o.dst=none)
  (hc:c= {tn:=c.tn,hn:=c.hn,hx:=t::ts,hw:=[(t,.row z (xs.set i (e.take j++es'++e.drop (j+(cellsD d).length))))]}) (hx:OpF c x (.pt t i j)) (hy:OpF c y d)
  (hd:(cellsD d).all D.cell=true) (hz:zGk Γ.P T=some (cellsD d).length) (hj:j+(cellsD d).length ≤z) (hh:(t,en)∈c.hn) (hen:∀β N w L bs,zBR β N w L bs en→zBR β N w L bs (.row z xs)) (he:xs[i]? =some e) (hem:Emb hm (cellsD d) es' ts) (hmn:∀q∈hm,q∈c.hn∧q.1≠t):Valid Γ ops o c:=by
 intro σ a w Q hdst hn ⟨h0,β,bs,hr⟩
 have hwt:Region.wanted o (yielded ops a.tmps)=true:=by simp [Region.wanted,hg]
 rw [if_pos hwt]
 have h1:=OpF.rep hx hn hr
 have h2:=OpF.rep hy hn hr
 obtain ⟨h3,h4⟩:=zHc hd h2
 simp only [Rep] at h1
 obtain ⟨b1,b2,hp,hE0,hrest⟩:=vS.take hr.hp hr.keys (hn.2.1 _ hh)
 obtain ⟨hLz,hzz,hrow⟩:=hen _ _ _ _ _ hE0
 rcases hrow with ⟨hnil,_⟩|⟨hnil,ws,hO,hE⟩
 ·rw [h1.2.2.1] at hnil; cases hnil
 have hown:(β t).own =[(β t).b]:=by simp [Loc.own,hnil]
 rw [hown] at hp
 have hkf:((σ.hp.filter (fun x=>x.1 !=t)).map (·.1)).Nodup :=List.Nodup.sublist (List.Sublist.map _ List.filter_sublist) hr.keys
 obtain ⟨c1,ck,k1,k2,k3⟩:=Emb.rep hem hrest hkf (fun q hq _=>List.mem_filter.2 ⟨hn.2.1 _ (hmn q hq).1,by simpa using (hmn q hq).2⟩) h3
 have hvl:=h3.length
 have hws:=hE.length hzz
 have hlt:i<xs.length:=(List.getElem?_eq_some_iff.1 he).1
 have hiz:i*z+z≤ws.length:=by
  rw [hws,←Nat.succ_mul]; exact Nat.mul_le_mul_right _ hlt
 have hrun:(execOp a.eval o).run Γ.P w= .ok .skip (putCells w (β t).b ((β t).o +(i*z+j)) (a.eval y).cells.toList):=by
  have e:execOp a.eval o=(do Instr.storeAt T (a.eval x) (a.eval y); pure .skip):=by simp [execOp,hop]
  rw [e]
  refine (run_bind_ok (a:=()) (w':=putCells w (β t).b ((β t).o +(i*z+j)) (a.eval y).cells.toList) ?_).trans rfl
  rw [h1.2.2.2,hLz,Nat.add_assoc]
  obtain ⟨arr,e,lo,hi,g1,g2,g3,g4⟩:=hO
  refine zIj (r:=ws.length) (ws:=ws) hz (by rw [hvl]) h4 ⟨arr,e,lo,hi,g1,g2,?_,g4⟩ (by omega)
  rcases Nat.eq_zero_or_pos ws.length with e0|e0
  ·omega
  ·have:=g4 (ws.length-1) (by omega)
   have:=(Array.getElem?_eq_some_iff.1 this).1
   omega
 unfold Oper.wp
 rw [hrun,Oper.upon_skip]
 have hheap:(∀b',b'≠(β t).b →(putCells w (β t).b ((β t).o +(i*z+j)) (a.eval y).cells.toList).heap[b']? =w.heap[b']?)∧(putCells w (β t).b ((β t).o +(i*z+j)) (a.eval y).cells.toList).heap.size =w.heap.size:=by
  obtain ⟨arr,e,lo,hi,g1,g2,g3,g4⟩:=hO
  exact (jR g1).2
 obtain ⟨q1,q2,q3,eb,hs2,hs1,hs3⟩:=hE.get hzz he
 obtain ⟨p1,p2,e1,hs4,hs5⟩:=hs2.split j
 obtain ⟨p3,p4,e2,hs6,hs7⟩:=hs5.split (cellsD d).length
 have hp2:bs.Perm (((β t).b ::(b1++c1))++ck):=by
  exact hp.trans (List.Perm.cons _ (by show (b1++b2).Perm ((b1++c1)++ck); rw [List.append_assoc]; exact List.Perm.append_left _ k1))
 have hnd:=hp2.nodup_iff.1 hr.nodup
 simp only [List.cons_append,List.nodup_cons,qJ,not_or] at hnd
 have hsub:∀b,b∈q1++((p1++c1++p4)++q3)→b∈b1++c1:=fun b hb=>by
  rw [eb,e1,e2]
  simp only [qJ] at hb ⊢
  rcases hb with h|((h|h)|h)|h<;>simp [h]
 have hndb:(b1++c1).Nodup :=(List.nodup_append.1 hnd.2).1
 have hnd1:(q1++((p1++c1++p4)++q3)).Nodup :=by
  have hperm:(q1++((p1++c1++p4)++q3)).Perm ((q1++(p1++p4)++q3)++c1):=by
   simp only [List.append_assoc]
   refine List.Perm.append_left _ (List.Perm.append_left _ ?_)
   rw [←List.append_assoc p4 q3 c1]
   exact List.perm_append_comm
  refine hperm.nodup_iff.2 (List.Nodup.sublist ?_ hndb)
  refine List.Sublist.append_right ?_ _
  rw [eb,e1,e2]
  refine List.Sublist.append_right (List.Sublist.append_left ?_ _) _
  exact List.Sublist.append_left (List.sublist_append_right _ _) _
 have hbin:∀b∈b1++c1,b≠(β t).b :=fun b hb e=>by
  subst e
  rcases List.mem_append.1 hb with h|h
  ·exact hnd.1.1.1 h
  ·exact hnd.1.1.2 h
 refine Rel.step (β1:=β) (bk:=ck) (br:=(β t).b ::(b1++c1)) (bn:=(β t).b ::(q1++((p1++c1++p4)++q3))) h0 hr hdst (by rw [hc]; simp) (by rw [hc]; simp) hp2 ?_ ?_ ?_ (fun _ _=>rfl) (fun _ _=>rfl) ?_ ?_ ?_ ?_ (zFz _ _ _ _)
 ·rw [hc,←zIM]; exact k3
 ·rw [hheap.2]; exact Nat.le_refl _
 ·intro b _ hb
  exact hheap.1 b (fun e=>hb (by simp [e]))
 ·exact List.nodup_cons.2 ⟨fun h=>hbin _ (hsub _ h) rfl,hnd1⟩
 ·intro b hb
  rw [hheap.2]
  have:b∈(β t).b ::(b1++c1):=by
   rcases List.mem_cons.1 hb with rfl|hb
   ·simp
   ·exact List.mem_cons_of_mem _ (hsub b hb)
  exact ⟨.inl this,(hr.own b (hp2.mem_iff.2 (List.mem_append_left _ this))).1⟩
 ·rw [hc]
  have hfr:∀b,(NS Γ w bs b→NS Γ (putCells w (β t).b ((β t).o +(i*z+j)) (a.eval y).cells.toList) ((β t).b ::(q1++((p1++c1++p4)++q3))++ck) b∧(putCells w (β t).b ((β t).o +(i*z+j)) (a.eval y).cells.toList).heap[b]? =w.heap[b]?):=by
   rintro b ⟨u1,u2,u3⟩
   have hb1:b≠(β t).b :=fun e=>u3 (hp2.mem_iff.2 (by simp [e]))
   refine ⟨⟨u1,by rw [hheap.2]; exact u2,?_⟩,hheap.1 b hb1⟩
   intro hb
   refine u3 (hp2.mem_iff.2 ?_)
   rcases List.mem_append.1 hb with hb|hb
   ·rcases List.mem_cons.1 hb with hb|hb
    ·exact List.mem_append_left _ (by simp [hb])
    ·exact List.mem_append_left _ (List.mem_cons_of_mem _ (hsub b hb))
   ·exact List.mem_append_right _ hb
  have hfb:∀b∈q1++((p1++c1++p4)++q3),(putCells w (β t).b ((β t).o +(i*z+j)) (a.eval y).cells.toList).heap[b]? =w.heap[b]? :=fun b hb=>hheap.1 b (hbin b (hsub b hb))
  have hel:e.length=z:=hzz e (List.mem_of_getElem? he)
  have hel':(e.take j++es'++e.drop (j+(cellsD d).length)).length =z:=by
   have:=hem.lengths
   simp; omega
  refine ⟨q1++((p1++c1++p4)++q3),[],by rw [hown]; simp,⟨hLz,?_,.inr ⟨hnil,ws.take (i*z+j)++(a.eval y).cells.toList ++ws.drop (i*z+j+(a.eval y).cells.toList.length),?_,?_⟩⟩,rfl⟩
  ·intro q hq
   rcases List.mem_or_eq_of_mem_set hq with hq|rfl
   ·exact hzz q hq
   ·exact hel'
  ·obtain ⟨arr,e',lo,hi,g1,g2,g3,g4⟩:=hO
   have hle:(β t).o +ws.length≤arr.size:=by
    rcases Nat.eq_zero_or_pos ws.length with e0|e0
    ·omega
    ·have:=g4 (ws.length-1) (by omega)
     have:=(Array.getElem?_eq_some_iff.1 this).1
     omega
   obtain ⟨arr',e'',lo',hi',u1,u2,u3,u4⟩:=zPc (r:=ws.length) (vs:=(a.eval y).cells.toList) (j:=i*z+j) ⟨arr,e',lo,hi,g1,g2,hle,g4⟩ (by rw [hvl]; omega) (Nat.le_refl _)
   refine ⟨arr',e'',lo',hi',u1,u2,?_,u4⟩
   have:=(jR (off:=(β t).o +(i*z+j)) (vs:=(a.eval y).cells.toList) g1).1
   rw [this] at u1
   cases u1
   rw [zEi]
   exact g3
  ·have m1:=zZ.frame (β':=β) hfr _ _ _ (fun b hb=>hfb b (by simp [hb])) hs1
   have m2:=zK.zHl (β':=β) hfr _ _ _ (fun b hb=>hfb b (by simp [hb])) hs4
   have m3:=zK.zHl (β':=β) hfr _ _ _ (fun b hb=>hfb b (by simp [hb])) k2
   have m4:=zK.zHl (β':=β) hfr _ _ _ (fun b hb=>hfb b (by simp [hb])) hs7
   have m5:=zZ.frame (β':=β) hfr _ _ _ (fun b hb=>hfb b (by simp [hb])) hs3
   have key:=m1.append (zZ.cons ((m2.append m3).append m4) m5)
   have exs:xs.set i (e.take j++es'++e.drop (j+(cellsD d).length))=xs.take i++(e.take j++es'++(e.drop j).drop (cellsD d).length)::xs.drop (i+1):=by
    rw [List.set_eq_take_append_cons_drop,if_pos hlt,List.drop_drop]
   have ews:ws.take (i*z+j)++(a.eval y).cells.toList ++ws.drop (i*z+j+(a.eval y).cells.toList.length)=
     ws.take (i*z)++(((((ws.drop (i*z)).take z).take j++(a.eval y).cells.toList)++((((ws.drop (i*z)).take z).drop j).drop (cellsD d).length))++ws.drop ((i+1)*z)):=by
    rw [←hvl]
    have t1:ws.take (i*z+j)=ws.take (i*z)++((ws.drop (i*z)).take z).take j:=by
     rw [List.take_add,List.take_take,Nat.min_eq_left (by omega)]
    have t2:ws.drop (i*z+j+(a.eval y).cells.toList.length)=((((ws.drop (i*z)).take z).drop j).drop (a.eval y).cells.toList.length)++ws.drop ((i+1)*z):=by
     have u1:ws.drop ((i+1)*z)=((ws.drop (i*z)).drop (j+(a.eval y).cells.toList.length)).drop (z-(j+(a.eval y).cells.toList.length)):=by
      rw [List.drop_drop,List.drop_drop]; congr 1; rw [Nat.add_mul]; omega
     have u2:(((ws.drop (i*z)).take z).drop j).drop (a.eval y).cells.toList.length =((ws.drop (i*z)).drop (j+(a.eval y).cells.toList.length)).take (z-(j+(a.eval y).cells.toList.length)):=by
      rw [List.drop_drop,List.drop_take]
     rw [u1,u2,List.take_append_drop,List.drop_drop,Nat.add_assoc]
    rw [t1,t2]
    simp only [List.append_assoc]
   rw [exs,ews]
   simpa using key
 ·rw [hc]; simp
theorem zM2 {c:Cert} {x y:Operand} {T:TypeId} {xs:List (List D)} {e es':List D} {d:D} {t i j z:Nat} {ts:List Nat} {hm:List (Nat×Ent)} (hg:o.guard=none) (hop:o.op= .store T x y) (hds:o.dst=none)
  (hc:c= {tn:=c.tn,hn:=c.hn,hx:=t::ts,hw:=[(t,.row z (xs.set i (e.take j++es'++e.drop (j+(cellsD d).length))))]}) (hx:OpF c x (.pt t i j)) (hy:OpF c y d)
  (hd:(cellsD d).all D.cell=true) (hz:zGk Γ.P T=some (cellsD d).length) (hj:j+(cellsD d).length ≤z) (hh:(t,.row z xs)∈c.hn) (he:xs[i]? =some e) (hem:Emb hm (cellsD d) es' ts) (hmn:∀q∈hm,q∈c.hn∧q.1≠t):Valid Γ ops o c:=
 zIf hg hop hds hc hx hy hd hz hj hh (fun _ _ _ _ _ h=>h) he hem hmn
theorem zOE {c:Cert} {x y:Operand} {T el:TypeId} {k1 k2:IntKind} {n:Int} {z t bytes:Nat} {zv:Value} {α:Type} {enc:α→List D} {a:α} {xs:List α} (h:mk bytes n a=some xs) (hm:Γ.m≤t) (hg:o.guard=none) (hop:o.op= .makeSlice T x y)
  (hc:c= {tn:=c.tn,hn:=c.hn,out:=some (.rf t 0 xs.length none),hw:=[(t,.row z (xs.map enc))],fr:=[t]}) (hx:OpF c x (.sc (.int k1 n))) (hy:OpF c y (.sc (.int k2 n)))
  (hT:Γ.P.underlying T=some (.slice el)) (hinfo:(Γ.P.info? el).map (fun i=>(i.zero,i.size,i.bytes))=some (some zv,z,bytes)) (hzs:zv.cells.size=z) (he:Emb [] (zv.cells.toList.map D.sc) (enc a) []) (hel:(enc a).length =z):Valid Γ ops o c:=by
 unfold mk at h
 split at h
 ·rename_i hh
  cases h
  have hn:n=(n.toNat:Int):=by omega
  refine zOL (n:=n.toNat) (e:=enc a) hg hop ?_ hm (k1:=k1) (k2:=k2) (by rw [←hn]; exact hx) (by rw [←hn]; exact hy) hT hinfo hzs he hel hh.2.1 (by omega)
  rw [List.length_replicate,List.map_replicate] at hc
  exact hc
 ·cases h
theorem zMd {c:Cert} {x y:Operand} {T:TypeId} {α:Type} {enc:α→List D} {xs:List α} {a b:α} {ix:Int} {es':List D} {d:D} {t j z:Nat} {ts:List Nat} {hm:List (Nat×Ent)} (h:idx xs ix=some a) (hg:o.guard=none) (hop:o.op= .store T x y) (hds:o.dst=none)
  (hc:c= {tn:=c.tn,hn:=c.hn,hx:=t::ts,hw:=[(t,.row z ((xs.set ix.toNat b).map enc))]}) (hx:OpF c x (.pt t ix.toNat j)) (hy:OpF c y d) (hb:enc b=(enc a).take j++es'++(enc a).drop (j+(cellsD d).length))
  (hd:(cellsD d).all D.cell=true) (hz:zGk Γ.P T=some (cellsD d).length) (hj:j+(cellsD d).length ≤z) (hh:(t,.row z (xs.map enc))∈c.hn) (hem:Emb hm (cellsD d) es' ts) (hmn:∀q∈hm,q∈c.hn∧q.1≠t):Valid Γ ops o c:=by
 obtain ⟨h1,h2⟩:=zFv h
 refine zM2 (e:=enc a) (es':=es') hg hop hds ?_ hx hy hd hz hj hh (by rw [List.getElem?_map,h2]; rfl) hem hmn
 rw [List.map_set,hb] at hc
 exact hc
def zSA:Value→Bool
 | .bool _=>false
 |_=>true
end
section
variable {Γ:Ctx} {fc:Code} {k:List II} {σ:St} {T:Type} {K:T→Option (D×List Ent)}
end
end Go.Im
namespace Go.Im
open Go
def b2s (xs:List Int):ByteArray:=xs.foldl (fun r n=>r.push (UInt8.ofNat n.toNat)) ByteArray.empty
theorem zI7 {β:Nat→Loc} {N:Nat→Prop} {w:World}:∀{xs:List Int} {ws:List Value} {bs:List Nat},zZ β N w (xs.map eU8) ws bs→ws=xs.map (Value.int .u8)
 |[],ws,bs,h=>by simp only [List.map_nil,zZ] at h; rw [h.1]; rfl
 |x::xs,ws,bs,h=>by
  simp only [List.map_cons,zZ] at h
  obtain ⟨w1,w2,b1,b2,rfl,rfl,h3,h4⟩:=h
  simp only [eU8,zK,Rep] at h3
  obtain ⟨v,vs,c1,c2,rfl,rfl,⟨rfl,_⟩,rfl,_⟩:=h3
  rw [zI7 h4]
  rfl
section
variable {Γ:Ctx} {ops:Array Oper} {o:Oper}
theorem zO0 {P:Program} {w:World} {S Dd e:TypeId} {ad:Option Addr} {n cp:Nat} {xs:List Int} (hs:P.underlying S=some (.slice e)) (he:P.underlying e=some (.int .u8)) (hd:P.underlying Dd=some .string) (hn:xs.length=n)
  (h:(ad=none∧n=0)∨n=0∨∃b off,ad=some ⟨b,off,none⟩∧Has w b off (xs.map (Value.int .u8))):(convert S Dd (.slice ad n cp)).run P w= .ok (.string (b2s xs)) w:=by
 rw [run_convert_bytes_string w S Dd e ad n cp hs he hd]
 by_cases h0:n=0
 ·subst h0
  have:xs=[]:=List.length_eq_zero_iff.1 hn
  subst this
  cases ad with
  |none=>rfl
  |some a=>
   have:=run_bytesToString (P:=P) w a 0 cp [] (by simp [loadCells,loadCellsFrom,Sem.run_pure])
   exact this
 ·rcases h with ⟨_,h⟩|h|⟨b,off,rfl,h⟩
  ·exact absurd h h0
  ·exact absurd h h0
  ·exact run_bytesToString w ⟨b,off,none⟩ n cp xs (run_loadCells h (by simp [hn]))
theorem zPR {c:Cert} {x:Operand} {S Dd e:TypeId} {t:Nat} {cap:Option Nat} {xs:List Int} (hg:o.guard=none) (hop:o.op= .convert S Dd x) (hc:c= {tn:=c.tn,hn:=c.hn,out:=some (.sc (.string (b2s xs)))})
  (hx:OpF c x (.rf t 0 xs.length cap)) (hh:(t,.row 1 (xs.map eU8))∈c.hn) (hs:Γ.P.underlying S=some (.slice e)) (he:Γ.P.underlying e=some (.int .u8)) (hd:Γ.P.underlying Dd=some .string):Valid Γ ops o c:=by
 rw [hc]
 refine uW hg rfl rfl fun β bs σ a w hn hr=>?_
 have h1:=OpF.rep (c:=c) hx ⟨fun y hy=>hn.1 y hy,fun y hy=>hn.2.1 y hy,by rw [hc]; simp⟩ hr
 obtain ⟨b1,hE,_,_⟩:=vS.get hr.hp (hn.2.1 _ hh)
 obtain ⟨wx,hD,hEx,_⟩:=zKl h1 hE (by simp)
 have hwx:=zI7 hEx
 subst hwx
 have hv:∃ad cp,a.eval x= .slice ad xs.length cp∧((ad=none∧xs.length=0)∨xs.length=0∨∃b off,ad=some ⟨b,off,none⟩∧Has w b off (xs.map (Value.int .u8))):=by
  rcases hD with ⟨q1,q2,_,_⟩|⟨b,off,cp,q1,_,_,q2,_⟩
  ·exact ⟨none,0,by rw [q1,q2],.inl ⟨rfl,q2⟩⟩
  ·exact ⟨_,cp,q1,.inr (.inr ⟨b,off,rfl,q2.has⟩)⟩
 obtain ⟨ad,cp,h2,h3⟩:=hv
 refine ⟨.string (b2s xs),zFo (s:=convert S Dd (a.eval x)) (by simp [execOp,hop]) ?_,fun d hd'=>by cases hd'; simp [Rep]⟩
 rw [h2]
 exact zO0 hs he hd rfl h3
theorem zQT {c:Cert} {x:Operand} {S Dd e:TypeId} {xs:List Int} (hg:o.guard=none) (hop:o.op= .convert S Dd x) (hc:c= {tn:=c.tn,hn:=c.hn,out:=some (.sc (.string (b2s xs)))})
  (hx:OpF c x (.s false 1 xs.length (xs.map eU8))) (hs:Γ.P.underlying S=some (.slice e)) (he:Γ.P.underlying e=some (.int .u8)) (hd:Γ.P.underlying Dd=some .string):Valid Γ ops o c:=by
 rw [hc]
 refine uW hg rfl rfl fun β bs σ a w hn hr=>?_
 have h1:=OpF.rep (c:=c) hx ⟨fun y hy=>hn.1 y hy,fun y hy=>hn.2.1 y hy,by rw [hc]; simp⟩ hr
 simp only [Rep] at h1
 obtain ⟨_,_,ad,cp,h2,_,h3⟩:=h1
 refine ⟨.string (b2s xs),zFo (s:=convert S Dd (a.eval x)) (by simp [execOp,hop]) ?_,fun d hd'=>by cases hd'; simp [Rep]⟩
 rw [h2]
 refine zO0 hs he hd rfl ?_
 rcases h3 with h3|⟨_,b,off,ws,q1,_,q3,q4,_⟩|h3
 ·exact .inr (.inl h3.1)
 ·have:=zI7 q4
  subst this
  exact .inr (.inr ⟨b,off,q1,q3⟩)
 ·exact absurd h3.1 (by simp)
section
variable {Γ:Ctx} {ops:Array Oper} {o:Oper}
theorem zM6 {g:Nat} {b:Bool} {t:Nat} {v:Value} (hv:v= .bool (!b)∨zSA v=true) (hg:o.guard=some (g,b)) (hgd:(ops[g]?).bind (·.dst)=some t):Valid Γ ops o {tn:=[(t,.sc v)],out:=some (.sc undef)}:=by
 intro σ a w Q hd hn hr
 obtain ⟨h0,β,bs,hrb⟩:=hr
 obtain ⟨u,h1,h2⟩:=hrb.tm t _ (hn.1 (t,.sc v) (by simp))
 simp only [Rep] at h2
 obtain ⟨rfl,_⟩:=h2
 have hwt:Region.wanted o (yielded ops a.tmps)=false:=by
  rcases hv with rfl|hv
  ·simp [Region.wanted,hg,yielded,hgd,h1]
  ·cases u<;>simp_all [Region.wanted,yielded,zSA]
 rw [if_neg (by simp [hwt])]
 exact Rel.put h0 hrb hd rfl rfl (by simp [Rep])
theorem zIo {fc:Code} {p i g t:Nat} {b:Bool} {v:Value} (hv:v= .bool (!b)∨zSA v=true) (h:(opAt fc p i).map (fun o=>o.guard)=some (some (g,b))) (hd:zLl fc p g=some t):
  ∀id ops draw,sub fc p= .region id ops draw→∀o,ops[i]? =some o→Valid Γ ops o {tn:=[(t,.sc v)],out:=some (.sc undef)}:=by
 intro id ops draw hs o ho
 have e:opAt fc p i=some o:=by unfold opAt; rw [hs]; exact ho
 rw [e] at h
 simp only [Option.map_some,Option.some.injEq] at h
 refine zM6 hv h ?_
 unfold zLl opAt at hd
 rw [hs] at hd
 exact hd
end
theorem zSD {fc:Code} {p i:Nat} {c:Cert} {op:Op} (h:(opAt fc p i).map (fun o=>(o.op,o.guard,o.dst))=some (op,none,none)) (hv:∀ops o,o.op=op→o.guard=none→o.dst=none→Valid Γ ops o c):
  ∀id ops draw,sub fc p= .region id ops draw→∀o,ops[i]? =some o→Valid Γ ops o c:=by
 intro id ops draw hs o ho
 have e:opAt fc p i=some o:=by unfold opAt; rw [hs]; exact ho
 rw [e] at h
 simp at h
 exact hv ops o h.1 h.2.1 h.2.2
def zQi (c:Cert) (x:Option Operand) (dflt:Nat) (n:Int):Prop:=
 match x with
 |none=>n=(dflt:Int)
 |some x=>∃k,OpF c x (.sc (.int k n))
theorem zQi.f {c:Cert} {x:Option Operand} {dflt:Nat} {n:Int} (h:zQi c x dflt n) (h0:0≤n):zLF c x dflt n.toNat:=by
 cases x with
 |none=>simp only [zQi] at h; simp only [zLF]; omega
 |some x=>
  obtain ⟨k,hk⟩:=h
  refine ⟨k,?_⟩
  rw [Int.toNat_of_nonneg h0]
  exact hk
theorem zRw {c:Cert} {x:Operand} {T:TypeId} {lo hi:Option Operand} {s r:ByteArray} {l h:Int} (hh:zFt s l h=some r) (hg:o.guard=none) (hop:o.op= .slice T x lo hi none)
  (hc:c= {tn:=c.tn,out:=some (.sc (.string r))}) (hx:OpF c x (.sc (.string s))) (h1:zQi c lo 0 l) (h2:zQi c hi s.size h) (hT:yT Γ.P (underlying T)=some .string):Valid Γ ops o c:=by
 unfold zFt at hh
 split at hh
 ·rename_i q
  cases hh
  exact zMu hg hop hc hx hT (h1.f q.1) (h2.f (by omega)) (by omega) (by omega)
 ·cases hh
theorem zRW {c:Cert} {x:Operand} {T el:TypeId} {lo hi:Option Operand} {z:Nat} {α:Type} {enc:α→List D} {xs r:List α} {l h:Int} (hh:zGp xs l h=some r) (hg:o.guard=none) (hop:o.op= .slice T x lo hi none)
  (hc:c= {tn:=c.tn,out:=some (.s false z r.length (r.map enc))}) (hx:OpF c x (.s false z xs.length (xs.map enc))) (h1:zQi c lo 0 l) (h2:zQi c hi xs.length h) (hT:yT Γ.P (underlying T)=some (.slice el)) (hz:zGk Γ.P el=some z):Valid Γ ops o c:=by
 unfold zGp at hh
 split at hh
 ·rename_i q
  cases hh
  have hl:((xs.drop l.toNat).take (h.toNat-l.toNat)).length =h.toNat-l.toNat:=by simp; omega
  rw [hl] at hc
  exact zPe hg hop hc hx hT hz (h1.f q.1) (h2.f (by omega)) (by omega) (by omega) (by rw [List.map_take,List.map_drop])
 ·cases hh
end
end Go.Im
namespace Go.Im
open Go
theorem tQ {α:Type} {enc enc':α→List D} (h:∀a,D.ro.roC (enc a)=enc' a) (xs:List α):D.ro.roE (xs.map enc)=xs.map enc':=by
 induction xs with
 |nil=>rfl
 |cons x xs ih=>simp only [List.map_cons,D.ro.roE,ih,h]
theorem zE7 {α:Type} {o:Bool} {z:Nat} {f f':α→List D} (h:∀a,D.ro.roC (f a)=f' a) (xs:List α):D.ro.roC (eSl o z f xs)=eSl false z f' xs:=by
 simp only [eSl,D.ro.roC,D.ro,tQ h]
section
variable {Γ:Ctx} {ops:Array Oper} {o:Oper}
theorem zNf {α:Type}:∀{l:List (Nat×α)} {x y:Nat×α},(l.map (·.1)).Nodup →x∈l→y∈l→x.1=y.1→x=y
 |q::qs,x,y,hk,hx,hy,h=>by
  simp only [List.map_cons,List.nodup_cons] at hk
  rcases List.mem_cons.1 hx with hx|hx
  ·rcases List.mem_cons.1 hy with hy|hy
   ·rw [hx,hy]
   ·exact absurd (List.mem_map.2 ⟨y,hy,by rw [←h,hx]⟩) hk.1
  ·rcases List.mem_cons.1 hy with hy|hy
   ·exact absurd (List.mem_map.2 ⟨x,hx,by rw [h,hy]⟩) hk.1
   ·exact zNf hk.2 hx hy h
theorem zPZ {c:Cert} {dst:Option Nat} {x:Nat×D} {t:Nat} (hx:x∈c.outs dst) (ht:t∈x.2.men):t∈(match c.out with|some d=>d.men|none=>[]):=by
 obtain ⟨tn,hn,out,hxx,hw,fr⟩:=c
 unfold Cert.outs at hx
 cases dst with
 |none=>simp at hx
 |some u=>
  cases out with
  |none=>simp at hx
  |some d=>
   simp at hx
   subst hx
   exact ht
theorem zPO {c:Cert} (A B:List (Nat×Ent)) (hA:∀x∈A,x∈c.hn) (hhx:c.hx=A.map (·.1)) (hhw:c.hw=A++B) (hfr:c.fr=B.map (·.1)) (hnd:(B.map (·.1)).Nodup) (hv:Valid Γ ops o c):Valid Γ ops o {c with hx:=[],hw:=B}:=by
 intro σ a w Q hd hn hr
 have hn':Nd c σ:=⟨hn.1,hn.2.1,hn.2.2⟩
 have key:∀a' w',Rel Γ (σ.upd o.dst c) a' w'→Rel Γ (σ.upd o.dst {c with hx:=[],hw:=B}) a' w':=by
  intro a' w' h
  obtain ⟨h0,β,bs,hrb⟩:=hr
  have hkB:∀t∈B.map (·.1),t∉σ.us:=fun t ht=>hn.2.2 t (by show t∈c.fr; rw [hfr]; exact ht)
  refine Rel.weak h (fun x hx=>hx) ?_ ?_ ?_
  ·intro x hx
   simp only [St.upd,qJ,List.mem_filter] at hx ⊢
   rcases hx with hx|⟨hx,_⟩
   ·exact .inl (by rw [hhw]; exact List.mem_append_right _ hx)
   ·by_cases hin:x.1∈c.hx
    ·rw [hhx] at hin
     obtain ⟨y,hy,hyx⟩:=List.mem_map.1 hin
     have hy':=hn.2.1 y (hA y hy)
     have:y=x:=zNf hrb.keys hy' hx hyx
     subst this
     exact .inl (by rw [hhw]; exact List.mem_append_left _ hy)
    ·exact .inr ⟨hx,by simpa using hin⟩
  ·simp only [St.upd,List.map_append]
   refine List.nodup_append.2 ⟨hnd,List.Nodup.sublist (List.Sublist.map _ List.filter_sublist) hrb.keys,?_⟩
   intro t ht t' ht' e
   subst e
   obtain ⟨x,hx,rfl⟩:=List.mem_map.1 ht'
   exact hkB _ ht (h0 _ (.inr (List.mem_flatMap.2 ⟨x,(List.mem_filter.1 hx).1,by simp⟩)))
  ·intro t ht
   simp only [St.upd,qJ]
   rcases ht with ht|ht
   ·obtain ⟨x,hx,hx'⟩:=List.mem_flatMap.1 ht
    simp only [St.upd,qJ,List.mem_filter] at hx
    rcases hx with hx|⟨hx,_⟩
    ·refine .inl ?_
     unfold Cert.men
     refine List.mem_append_left _ ?_
     exact zPZ (c:=c) hx hx'
    ·exact .inr (h0 t (.inl (List.mem_flatMap.2 ⟨x,hx,hx'⟩)))
   ·obtain ⟨x,hx,hx'⟩:=List.mem_flatMap.1 ht
    simp only [St.upd,qJ,List.mem_filter] at hx
    rcases hx with hx|⟨hx,_⟩
    ·refine .inl ?_
     unfold Cert.men
     refine List.mem_append_right _ ?_
     exact List.mem_flatMap.2 ⟨x,hx,hx'⟩
    ·exact .inr (h0 t (.inr (List.mem_flatMap.2 ⟨x,hx,hx'⟩)))
 have:=hv σ a w Q hd hn' hr
 split at this
 ·rename_i hw
  rw [if_pos hw]
  exact Oper.wp_mono key this
 ·rename_i hw
  rw [if_neg hw]
  exact key _ _ this
end
end Go.Im
namespace Go.Im
open Go
section
variable {H:Type} {enc:TypeId×Value→H} {P:Program} {W:World} {sp:Nat→Bool} {held:Bool}
def Reads (enc:TypeId×Value→H) (P:Program) (W:World) (t:TypeId) {α:Type} (ec:α→List D) (ok:α→Prop):Prop:=
 ∀(fuel:Nat) (cs:List Value) (x:DataW H×List MemPlace),DataW.trod enc P W 0 (fun _=>true) true fuel t cs=some x→∃a:α,ok a∧∀β:Nat→Im.Loc,zK β (fun b=>b<W.heap.size) W false (ec a) cs []
theorem zTv {β:Nat→Im.Loc} {N:Nat→Prop} {u:Value}:zK β N W false [.sc u] [u] []:=by
 simp only [zK,Rep]
 exact ⟨u,[],[],[],rfl,rfl,⟨rfl,rfl⟩,rfl,rfl⟩
theorem zRJ {t:TypeId} {k:IntKind} (ht:P.underlying t=some (.int k)):Reads enc P W t (fun v:Int=>[.sc (.int k v)]) (fun v=>k.min≤v∧v≤k.max):=by
 intro fuel cs x h
 have key:∃n,cs=[.int k n]∧k.min≤n∧n≤k.max:=by
  cases fuel with
  |zero=>simp [DataW.trod] at h
  |succ n=>
   unfold DataW.trod at h
   rw [ht] at h
   split at h<;>simp_all
   obtain ⟨⟨rfl,hw⟩,_⟩:=h
   simp only [Lit.wf,Bool.and_eq_true,qM] at hw
   exact hw
 obtain ⟨n,rfl,h1⟩:=key
 exact ⟨n,h1,fun β=>zTv⟩
theorem zPX {t e:TypeId} {z:Nat} {α:Type} {ec:α→List D} {ok:α→Prop} (ht:P.underlying t=some (.slice e)) (hz:P.cellsOf e=z) (hz0:0<z) (h:Reads enc P W e ec ok) (hlen:∀a,(ec a).length =z):
  Reads enc P W t (fun xs:List α=>[.s false z xs.length (xs.map ec)]) (fun xs=>xs.length≤maxLen∧∀a∈xs,ok a):=by
 intro fuel cs x hx
 have hnil:∀β:Nat→Im.Loc,∀v:Value,v= .slice none 0 0→zK β (fun b=>b<W.heap.size) W false [.s false z ([]:List α).length (([]:List α).map ec)] [v] []:=by
  intro β v hv
  simp only [zK,Rep]
  exact ⟨v,[],[],[],rfl,rfl,⟨rfl,by simp,none,0,by rw [hv]; rfl,Nat.le_refl _,.inl ⟨rfl,rfl,by simp⟩⟩,rfl,rfl⟩
 rcases DataW.trod_slice ht hx with ⟨rfl,_⟩|⟨a,len,cap,elems,rest,n,rfl,rfl,_,_,hcap,hmax,hl,hel,_,_⟩
 ·exact ⟨[],⟨by simp,by simp⟩,fun β=>hnil β _ rfl⟩
 ···have hc:len≤cap:=hcap
    have hget:∀i,i<len→∃(c:List Value) (q:α),W.cells? 0 (a.add (i*z)) z=some c∧c.length=z∧ok q∧∀β:Nat→Im.Loc,zK β (fun b=>b<W.heap.size) W false (ec q) c []:=by
     intro i hi
     have:=hel i hi
     have hs:elems[i]? =some elems[i]:=List.getElem?_eq_getElem (by omega)
     rw [hs,hz] at this
     obtain ⟨c,h1,h2⟩:=Option.bind_eq_some_iff.1 this
     obtain ⟨q,h3,h4⟩:=h n c _ h2
     refine ⟨c,q,h1,?_,h3,h4⟩
     have:=(h4 (fun _=>⟨true,0,0,0,0⟩)).length
     rw [hlen] at this
     exact this
    have hall:∀m,m≤len→∃(ws:List Value) (qs:List α),qs.length=m∧ws.length=m*z∧(∀q∈qs,ok q)∧(∀β:Nat→Im.Loc,zZ β (fun b=>b<W.heap.size) W (qs.map ec) ws [])∧∀j,j<m*z→W.cell? (a.add j)=ws[j]? :=by
     intro m
     induction m with
     |zero=>intro _; exact ⟨[],[],rfl,by simp,by simp,fun β=>by simp [zZ],by simp⟩
     |succ m ih=>
      intro hm
      obtain ⟨ws,qs,h1,h2,h3,h4,h5⟩:=ih (by omega)
      obtain ⟨c,q,g1,g2,g3,g4⟩:=hget m (by omega)
      refine ⟨ws++c,qs++[q],by simp [h1],by simp [h2,g2,Nat.add_mul],?_,fun β=>?_,?_⟩
      ·intro q' hq'
       rcases List.mem_append.1 hq' with hq'|hq'
       ·exact h3 q' hq'
       ·simp at hq'; rw [hq']; exact g3
      ·rw [List.map_append]
       have:zZ β (fun b=>b<W.heap.size) W ([q].map ec) c []:=by
        simp only [List.map_cons,List.map_nil,zZ]
        exact ⟨c,[],[],[],by simp,rfl,g4 β,rfl,rfl⟩
       exact (h4 β).append this
      ·intro j hj
       by_cases hjm:j<m*z
       ·rw [List.getElem?_append_left (by omega)]; exact h5 j hjm
       ·rw [List.getElem?_append_right (by omega),h2]
        unfold World.cells? at g1
        split at g1
        ·have hlt:j-m*z<z:=by rw [Nat.add_mul] at hj; omega
         have:=mapM_some_get g1 (j-m*z) (j-m*z) (by simp [hlt])
         rw [←this]
         congr 1
         unfold Addr.add
         by_cases hmz:m*z=0
         ·simp [hmz]
         ·by_cases hjz:j-m*z=0
          ·have:j=m*z:=by omega
           simp [hmz,this]
          ·rw [if_neg (by omega),if_neg hjz,if_neg hmz]
           simp only [Addr.mk.injEq,and_true,true_and]
           omega
        ·cases g1
    obtain ⟨ws,qs,h1,h2,h3,h4,h5⟩:=hall len (Nat.le_refl _)
    refine ⟨qs,⟨by omega,h3⟩,fun β=>?_⟩
    simp only [zK]
    refine ⟨_,[],[],[],rfl,rfl,?_,rfl,rfl⟩
    simp only [Rep]
    refine ⟨by simp,?_,some a,cap,by rw [h1],by rw [h1]; exact hc,?_⟩
    ·intro q hq
     obtain ⟨q',_,rfl⟩:=List.mem_map.1 hq
     exact hlen q'
    ·by_cases h0:len=0
     ·exact .inl ⟨by omega,trivial,by simp⟩
     ·have hpos:0<len*z:=Nat.mul_pos (by omega) hz0
      have hc0:=h5 0 hpos
      rw [List.getElem?_eq_getElem (by omega)] at hc0
      simp only [Addr.add,if_true] at hc0
      unfold World.cell? at hc0
      split at hc0
      ·rename_i arr ty fz hb
       split at hc0
       ·cases hc0
       ·rename_i hsp
        have hspot:a.spot=none:=by cases hh:a.spot<;>simp_all
        have hlt:a.block<W.heap.size:=by
         rcases Nat.lt_or_ge a.block W.heap.size with h|h
         ·exact h
         ·rw [Array.getElem?_eq_none h] at hb; cases hb
        refine .inr (.inl ⟨trivial,a.block,a.off,ws,?_,hlt,⟨arr,ty,fz,hb,?_⟩,h4 β,trivial⟩)
        ·rw [←hspot]
        ·intro k hk
         have:=h5 k (by omega)
         rw [List.getElem?_eq_getElem hk] at this
         rw [←this]
         by_cases hk0:k=0
         ·subst hk0
          simp [World.cell?,Addr.add,hb,hspot]
         ·simp [World.cell?,Addr.add,hk0,hb]
      ·cases hc0
end
end Go.Im
namespace Go.Im
open Go
section
variable {P:Program} {W:World}
theorem zQB {β:Nat→Im.Loc} {N:Nat→Prop} {v:Value} {d:D} (hv:v.cells= #[v]) (hr:zK β N W false [d] v.cells.toList []):Rep β N W true d v []:=by
 rw [hv] at hr
 simp only [zK] at hr
 obtain ⟨u,us,b1,b2,h1,h2,h3,h4⟩:=hr
 cases h1
 rw [(List.append_eq_nil_iff.1 h2.symm).1] at h3
 exact h3.up
theorem zPF {β:Nat→Im.Loc} {N:Nat→Prop}:zK β N W true [] [] []:=by simp [zK]
theorem zOV {β:Nat→Im.Loc} {N:Nat→Prop} {d:D} {v:Value} {ds:List D} {vs:List Value} (h1:Rep β N W true d v []) (h2:zK β N W true ds vs []):zK β N W true (d::ds) (v::vs) []:=by
 simp only [zK]
 exact ⟨v,vs,[],[],rfl,rfl,h1,h2⟩
def Still (W:World) (e:Ending) (W':World):Prop:=e= .returned (.bool true)∧W'.os=W.os∧W'.output=W.output∧∀b,b<W.heap.size→W'.heap[b]? =W.heap[b]?
theorem zO7 {f:FuncId} {args:List D} {vs:List Value} (hok:Ok P f args [] (some (.sc (.bool true),[]))) (hargs:∀β:Nat→Im.Loc,zK β (fun b=>b<W.heap.size) W true args vs []) (hg:∀q∈zNs P,q.1<W.heap.size∧Tab W q.1 q.2):Calls P f vs.toArray W (Still W):=by
 refine (hok _ rfl W (fun b=>b<W.heap.size) (fun _=>⟨true,0,0,0,0⟩) vs [] (hargs _) rfl (by simp) (by simp) (fun b hb=>⟨hb,by simp⟩) hg).mono fun e W' h=>?_
 obtain ⟨v,b1,b2,rfl,hq,_,hk,_,_,hr,_⟩:=h
 simp only [Rep] at hr
 exact ⟨by rw [hr.1],hq.1,hq.2,fun b hb=>hk b hb (by simp)⟩
theorem zNt {W':World} {e:Ending} (h:Still W e W') (may:MemPlace→Prop):W.keptBut W' may:=by
 refine ⟨h.2.1,h.2.2.1,fun i hi=>?_⟩
 rw [h.2.2.2 i hi]
 split<;>simp_all
theorem zOd {W':World} {e:Ending} (h:Still W e W') {p:MemPlace} (hp:p.block<W.heap.size):W.sameAt W' p:=by
 cases p with
 |cell b o=>exact World.cell?_of_block (w:=W) (h.2.2.2 b hp)
 |map b=>exact h.2.2.2 b hp
theorem zNB {H:Type} {enc:TypeId×Value→H} {t:TypeId} {W':World} {e:Ending} (hs:Still W e W') (hl:laidOutB P=true) (hr:P.readableRec t=true) (hrow:t<P.types.size) {v:Value} {d:DataW H} {ps:List MemPlace}
  (h:DataW.Trod enc P W 0 (fun _=>true) true t v d ps) (hlt:∀x∈ps,x.block<W.heap.size):DataW.Trod enc P W' 0 (fun b=>decide (b<W.heap.size)) true t v d ps:=
 WideElems.Trod_stays hl hr hrow h (fun x hx=>zOd hs (hlt x hx)) (fun x hx=>by simpa using hlt x hx)
end
end Go.Im
namespace Go.Im
open Go
section
variable {Γ:Ctx} {fc:Code} {k:List II} {σ:St} {T:Type} {K:T→Option (D×List Ent)}
theorem modify_eq {z i j:Nat} {xs:List (List D)} {e:List D} (he:xs[i]? =some e) (f:List D→List D):xs.modify i f=xs.take i++f e::xs.drop (i+1):=by
 have hlt:i<xs.length:=(List.getElem?_eq_some_iff.1 he).1
 have hge:xs[i]=e:=(List.getElem?_eq_some_iff.1 he).2
 rw [List.modify_eq_take_drop,List.drop_eq_getElem_cons hlt,hge]
 rfl
theorem zR5 {e0:Option T} (t i j t':Nat) {z z' n:Nat} {xs ys:List (List D)} {e:List D} (hl:lk σ.hp t=some (.row z xs)) (he:xs[i]? =some e) (hej:e[j]? =some (.s true z' n ys))
  (hf:(!σ.us.contains t'&&Nat.ble Γ.m t')=true)
  (hj:J Γ fc k ⟨σ.tm,(t,.lent z xs i j t' n)::(t',.row z' ys)::σ.hp.filter (fun x=>x.1 !=t),t'::σ.us⟩ e0 K):J Γ fc k σ e0 K:=by
 refine zGJ (fun a w hr=>?_) hj
 obtain ⟨h0,β,bs,h⟩:=hr
 simp only [Bool.and_eq_true,Bool.not_eq_eq_eq_not,Bool.not_true,List.contains_eq_mem,decide_eq_false_iff_not] at hf
 obtain ⟨hfr,hm⟩:=hf
 have hm:=qB hm
 obtain ⟨b1,bk,p,⟨hLz,hzz,hrow⟩,hrest⟩:=vS.take h.hp h.keys (zAT hl)
 rcases hrow with ⟨_,rfl,_⟩|⟨hnil,ws,hO,hE⟩
 ·simp at he
 have hel:e.length=z:=hzz e (List.mem_of_getElem? he)
 obtain ⟨q1,q2,q3,eb,hs2,hs1,hs3⟩:=hE.get hzz he
 obtain ⟨p1,p2,e1,hs4,hs5⟩:=hs2.split j
 have hjlt:j<e.length:=(List.getElem?_eq_some_iff.1 hej).1
 have hdj:e.drop j= .s true z' n ys::e.drop (j+1):=by
  rw [List.drop_eq_getElem_cons hjlt]
  congr 1
  exact (List.getElem?_eq_some_iff.1 hej).2
 rw [hdj] at hs5
 simp only [zK] at hs5
 obtain ⟨v,vs,c1,c2,ev,e2,hv,hrest5⟩:=hs5
 obtain ⟨β1,g1,g2,g3⟩:=Nm.rep (N:=NS Γ w bs) (w:=w) β (Nm.own (z:=z') (n:=n) (xs:=ys) t') (by simp) hv.up
 have htu:t∈σ.us:=h0 t (.inr (List.mem_flatMap.2 ⟨_,zAT hl,by simp⟩))
 have hne:t≠t':=fun e=>hfr (e▸htu)
 have hβt:β1 t=β t:=g1 t (by simpa using hne)
 have hβu:∀q∈σ.us,β1 q=β q:=fun q hq=>g1 q (by simp; intro e; exact hfr (e▸hq))
 have hone:v.oneCell=true:=Rep.oneCell (by trivial) hv
 have hown:(β t).own =[(β t).b]:=by simp [Loc.own,hnil]
 have hwsl:=hE.length hzz
 have hlt:i<xs.length:=(List.getElem?_eq_some_iff.1 he).1
 have hiz:i*z+z≤ws.length:=by
  rw [hwsl,←Nat.succ_mul]; exact Nat.mul_le_mul_right _ hlt
 have hget:ws[i*z+j]? =some v:=by
  have:(((ws.drop (i*z)).take z).drop j)[0]? =some v:=by rw [ev]; rfl
  rw [List.getElem?_drop,List.getElem?_take,if_pos (by omega),List.getElem?_drop] at this
  simpa [Nat.add_comm] using this
 have hperm:bs.Perm ((β t).own ++((q1++(p1++c2)++q3)++(c1++bk))):=by
  refine p.trans (List.Perm.append_left _ ?_)
  rw [eb,e1,e2]
  simp only [List.append_assoc]
  refine List.Perm.append_left _ (List.Perm.append_left _ ?_)
  have h1:(c1++(c2++q3)).Perm ((c2++q3)++c1):=List.perm_append_comm
  have h2:=List.Perm.append_right bk h1
  simpa only [List.append_assoc] using h2
 have hNS:∀b,NS Γ w bs b→NS Γ w ((β t).own ++((q1++(p1++c2)++q3)++(c1++bk))) b:=fun b hb=>NS.sub (fun x hx=>hperm.mem_iff.2 hx) hb
 have hfrm:∀b,NS Γ w bs b→NS Γ w ((β t).own ++((q1++(p1++c2)++q3)++(c1++bk))) b∧w.heap[b]? =w.heap[b]? :=fun b hb=>⟨hNS b hb,rfl⟩
 simp only [vS] at g3
 obtain ⟨d1,d2,e3,g4,rfl⟩:=g3
 simp only [List.append_nil] at e3
 refine ⟨?_,β1,(β t).own ++((q1++(p1++c2)++q3)++(c1++bk)),{defers:=h.defers,size:=h.size,keys:=?_,par:=fun q hq=>?_,grow:=h.grow,gh:=h.gh,quiet:=h.quiet,keep:=h.keep,hp:=?_,nodup:=hperm.nodup_iff.1 h.nodup,own:=fun b hb=>h.own b (hperm.mem_iff.2 hb),tm:=?_}⟩
 ·intro q hq
  rcases hq with hq|hq
  ·exact List.mem_cons_of_mem _ (h0 q (.inl hq))
  ·simp only [zIp,List.flatMap_cons,Ent.men,qJ,qK,List.not_mem_nil,or_false] at hq
   rcases hq with (rfl|rfl)|rfl|hq
   ·exact List.mem_cons_of_mem _ htu
   ·simp
   ·simp
   ·obtain ⟨x,hx,hx'⟩:=List.mem_flatMap.1 hq
    exact List.mem_cons_of_mem _ (h0 q (.inr (List.mem_flatMap.2 ⟨x,(List.mem_filter.1 hx).1,hx'⟩)))
 ·simp only [List.map_cons,List.nodup_cons,qK,not_or]
  refine ⟨⟨hne,fun hin=>?_⟩,fun hin=>?_,List.Nodup.sublist (List.Sublist.map _ List.filter_sublist) h.keys⟩
  ·obtain ⟨x,hx,hx'⟩:=List.mem_map.1 hin
   have:=(List.mem_filter.1 hx).2
   simp [hx'] at this
  ·obtain ⟨x,hx,hx'⟩:=List.mem_map.1 hin
   exact hfr (h0 t' (.inr (List.mem_flatMap.2 ⟨x,(List.mem_filter.1 hx).1,by simp [hx']⟩)))
 ·rw [←h.par q hq]
  exact g1 q (by simp; omega)
 ·refine ⟨q1++(p1++c2)++q3,c1++bk,by rw [hβt],?_,d1,bk,?_,?_,?_⟩
  ·rw [hβt]
   refine ⟨hnil,hLz,hzz,ws,hO,?_,v,hget,Rep.frame hfrm _ true v [] (by simp) (fun _ _=>rfl) g2⟩
   rw [modify_eq (z:=z) (j:=j) he]
   have m1:=zZ.frame (β':=β1) hfrm _ _ _ (fun _ _=>rfl) hs1
   have m2:=zK.zHl (β':=β1) hfrm _ _ _ (fun _ _=>rfl) hs4
   have m3:=zK.zHl (β':=β1) hfrm _ _ _ (fun _ _=>rfl) hrest5
   have m5:=zZ.frame (β':=β1) hfrm _ _ _ (fun _ _=>rfl) hs3
   have mu:zK β1 (NS Γ w ((β t).own ++((q1++(p1++c2)++q3)++(c1++bk)))) w false [.un] [v] []:=by
    simp only [zK,Rep]
    exact ⟨v,[],[],[],rfl,rfl,⟨hone,rfl⟩,rfl,rfl⟩
   have key:=m1.append (zZ.cons (m2.append (mu.append m3)) m5)
   have ee:e.set j .un =e.take j++([D.un]++e.drop (j+1)):=by
    rw [List.set_eq_take_append_cons_drop,if_pos hjlt]; rfl
   have ew:ws=ws.take (i*z)++((((ws.drop (i*z)).take z).take j++([v]++vs))++ws.drop ((i+1)*z)):=by
    have u1:((ws.drop (i*z)).take z).take j++([v]++vs)=(ws.drop (i*z)).take z:=by
     have:[v]++vs=((ws.drop (i*z)).take z).drop j:=by rw [ev]; rfl
     rw [this,List.take_append_drop]
    have u2:ws.drop ((i+1)*z)=(ws.drop (i*z)).drop z:=by rw [List.drop_drop]; congr 1; rw [Nat.add_mul]; omega
    rw [u1,u2,List.take_append_drop,List.take_append_drop]
   rw [ee]
   rw [ew]
   simp only [List.append_assoc] at key ⊢
   simpa only [List.append_nil,List.nil_append] using key
  ·rw [e3,List.append_assoc]
  ·exact g4.frame (fun b hb=>⟨hNS b hb,rfl⟩) (fun _ _=>rfl) (fun _=>rfl) (fun _ _=>rfl)
  ·refine vS.frame (fun b hb=>⟨hNS b hb,rfl⟩) _ _ (fun _ _=>rfl) (fun q hq=>hβu q ?_) hrest
   obtain ⟨x,hx,hx'⟩:=List.mem_flatMap.1 hq
   exact h0 q (.inr (List.mem_flatMap.2 ⟨x,(List.mem_filter.1 hx).1,hx'⟩))
 ·intro q d hd
  obtain ⟨u,h1,h2⟩:=h.tm q d hd
  exact ⟨u,h1,Rep.frame (fun b hb=>⟨hNS b hb,rfl⟩) d true u [] (by simp) (fun y hy=>hβu y (h0 y (.inl (List.mem_flatMap.2 ⟨_,hd,hy⟩)))) h2⟩
end
end Go.Im
namespace Go.Im
open Go
section
variable {Γ:Ctx} {fc:Code} {k:List II} {σ:St} {T:Type} {K:T→Option (D×List Ent)}
end
section
variable {Γ:Ctx} {ops:Array Oper} {o:Oper}
theorem zL4 {c:Cert} {x y:Operand} {T el:TypeId} {k:IntKind} {z n t off j a0 b0 t' n':Nat} {i:Int} {cap:Option Nat} {xs:List (List D)} (hg:o.guard=none) (hop:o.op= .indexAddr T x y)
  (hc:c= {tn:=c.tn,hn:=c.hn,out:=some (.pt t j 0)}) (hx:OpF c x (.rf t off n cap)) (hy:OpF c y (.sc (.int k i))) (hT:yT Γ.P (underlying T)=some (.slice el)) (hz:zGk Γ.P el=some z)
  (hi:0≤i) (hj:i<n) (hjj:off+i.toNat=j) (hh:(t,.lent z xs a0 b0 t' n')∈c.hn):Valid Γ ops o c:=by
 refine tV (d:=.pt t j 0) (f:=fun ρ=>Instr.indexAt T (ρ x) (ρ y)) hg (fun ρ=>by simp [execOp,hop]) (by rw [hc]) fun β bs σ a w hn hr=>?_
 have h1:=OpF.rep hx hn hr
 have h2:=OpF.rep hy hn hr
 obtain ⟨_,⟨_,hLz,_⟩,_⟩:=vS.get hr.hp (hn.2.1 _ hh)
 simp only [Rep] at h1 h2
 obtain ⟨_,_,⟨_,_,rfl,_⟩|⟨hnil,cp,hv,hcap,hroom,_⟩⟩:=h1
 ·omega
 ·refine ⟨.pointer (some ⟨(β t).b,(β t).o +j*(β t).z +0,none⟩),?_,by simp only [Rep]; exact ⟨trivial,trivial,hnil,trivial⟩⟩
  rw [h2.1,hv]
  unfold Instr.indexAt
  rw [run_bind_ok (a:=(k,i)) (w':=w) rfl]
  simp only
  rw [run_bind_ok (zS _ _ w hT)]
  simp only
  rw [run_bind_ok (a:=(some (⟨(β t).b,(β t).o +off*(β t).z,none⟩:Addr),n,el)) (w':=w) rfl]
  rw [run_bind_ok (zS _ _ w hT)]
  simp only
  rw [if_pos ⟨hi,hj⟩]
  rw [run_bind_ok (zS _ _ w hz)]
  rw [zE3,hLz,←hjj,Nat.add_mul,Nat.add_assoc]
  rfl
theorem zLw {c:Cert} {x y:Operand} {T el:TypeId} {k:IntKind} {z t a0 b0 t' n':Nat} {i:Int} {cap:Option Nat} {α:Type} {enc:α→List D} {xs:List α} {a:α} (h:idx xs i=some a) (hg:o.guard=none) (hop:o.op= .indexAddr T x y)
  (hc:c= {tn:=c.tn,hn:=c.hn,out:=some (.pt t i.toNat 0)}) (hx:OpF c x (.rf t 0 xs.length cap)) (hy:OpF c y (.sc (.int k i))) (hh:(t,.lent z (xs.map enc) a0 b0 t' n')∈c.hn) (hT:yT Γ.P (underlying T)=some (.slice el)) (hz:zGk Γ.P el=some z):Valid Γ ops o c:=by
 obtain ⟨h1,h2⟩:=zFv h
 have hlt:=(List.getElem?_eq_some_iff.1 h2).1
 exact zL4 hg hop hc hx hy hT hz h1 (by omega) (Nat.zero_add _) hh
theorem zMy {c:Cert} {x:Operand} {T:TypeId} {z t i j t' n:Nat} {xs:List (List D)} (hg:o.guard=none) (hop:o.op= .load T x) (hc:c= {tn:=c.tn,hn:=c.hn,out:=some (.rf t' 0 n none)})
  (hx:OpF c x (.pt t i j)) (hh:(t,.lent z xs i j t' n)∈c.hn) (hd:zDQ Γ.P T [.rf t' 0 n none]=some (.rf t' 0 n none)):Valid Γ ops o c:=by
 refine tV (d:=.rf t' 0 n none) (f:=fun ρ=>Instr.loadAt T (ρ x)) hg (fun ρ=>by simp [execOp,hop]) (by rw [hc]) fun β bs σ a w hn hr=>?_
 have h1:=OpF.rep hx hn hr
 simp only [Rep] at h1
 obtain ⟨b1,⟨hnil,hLz,hzz,ws,hO,hE,v,hget,hv⟩,_,_⟩:=vS.get hr.hp (hn.2.1 _ hh)
 have hlt:i*z+j<ws.length:=(List.getElem?_eq_some_iff.1 hget).1
 have hH:Has w (β t).b ((β t).o +(i*z+j)) [v]:=by
  have:=hO.cells (i*z+j) 1
  have e:(ws.drop (i*z+j)).take 1=[v]:=by
   rw [List.drop_eq_getElem_cons hlt]
   simp [(List.getElem?_eq_some_iff.1 hget).2]
  rw [e] at this
  exact this
 have hone:v.oneCell=true:=Rep.oneCell (by trivial) hv
 have hcs:zK β (NS Γ w bs) w true [.rf t' 0 n none] [v] []:=by
  simp only [zK]
  exact ⟨v,[],[],[],rfl,rfl,hv,rfl,rfl⟩
 obtain ⟨u,h7,h8⟩:=zFi hd hH (by simpa using hone) hcs
 refine ⟨u,?_,h8⟩
 rw [h1.2.2.2,hLz,Nat.add_assoc]
 exact h7
end
end Go.Im

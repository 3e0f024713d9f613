import Derived.Test.YtlagdfkkokgakaaGreatDoorToldNewSystem
set_option linter.unusedVariables false
set_option maxRecDepth 4000
namespace Go.Told
open Go Go.Im
theorem yR {x:Int} (h1: -9223372036854775808≤x) (h2:x≤9223372036854775807):w64 x=x:=by
 unfold w64
 rw [IntKind.wrap_i64]
 omega
theorem yA {i:Nat} (h:i<9223372036854775807):w64 ((i:Int)+1)=((i+1:Nat):Int):=by
 rw [yR (by omega) (by omega)]; omega
theorem zBx {T:Type} {S:Type} {b:S→Option (Lp S T)} (I:Nat→S→Prop) (n:Nat) (Q:T→Prop) (hstep:∀i s,i<n→I i s→(∃s',b s=some (.go s')∧I (i+1) s')∨∃t,b s=some (.done t)∧Q t)
  (hend:∀s,I n s→∃t,b s=some (.done t)∧Q t):∀(k i:Nat) (s:S),i+k=n→I i s→∃t,loop b s=some t∧Q t
 |0,i,s,hk,hI=>by
  obtain ⟨t,h1,h2⟩:=hend s (by rw [show n=i by omega]; exact hI)
  exact ⟨t,by rw [zA8,h1]; rfl,h2⟩
 |k+1,i,s,hk,hI=>by
  rcases hstep i s (by omega) hI with ⟨s',h1,h2⟩|⟨t,h1,h2⟩
  ·obtain ⟨t,h3,h4⟩:=zBx I n Q hstep hend k (i+1) s' (by omega) h2
   exact ⟨t,by rw [zA8,h1]; exact h3,h4⟩
  ·exact ⟨t,by rw [zA8,h1]; rfl,h2⟩
theorem yF {α:Type} {xs:List α} {i:Nat} (h:i<xs.length):idx xs (i:Int)=some xs[i]:=by
 unfold idx
 rw [if_pos (by omega)]
 simp [h]
theorem vB {α:Type} (l r:List α) (x:α):idx (l++x::r) (l.length:Int)=some x:=by
 rw [yF (by simp)]
 simp
theorem zDU {α:Type} (xs:List α) {b:(List α×Int)→Option (Lp (List α×Int) (List α))} (hstep:∀(ys:List α) (i:Nat) (hi:i<xs.length),ys.length=xs.length→b (ys,(i:Int))=some (.go (ys.set i xs[i],((i+1:Nat):Int))))
  (hend:∀ys:List α,ys.length=xs.length→b (ys,(xs.length:Int))=some (.done ys)) (y0:List α) (h0:y0.length=xs.length):loop b (y0,0)=some xs:=by
 obtain ⟨t,h1,h2⟩:=zBx (b:=b) (fun i s=>s.2=(i:Int)∧s.1.length=xs.length∧s.1.take i=xs.take i) xs.length (fun t=>t=xs) (by
  rintro i ⟨ys,j⟩ hi ⟨hj,hl,hp⟩
  simp only at hj hl hp
  subst hj
  refine .inl ⟨_,hstep ys i hi hl,rfl,by simpa using hl,?_⟩
  simp only
  rw [List.take_succ_eq_append_getElem (by simp; omega),List.take_succ_eq_append_getElem hi,←hp,List.take_set_of_le (Nat.le_refl _)]
  simp) (by
  rintro ⟨ys,j⟩ ⟨hj,hl,hp⟩
  simp only at hj hl hp
  subst hj
  refine ⟨ys,hend ys hl,?_⟩
  rw [List.take_of_length_le (by omega),List.take_of_length_le (by omega)] at hp
  exact hp) xs.length 0 (y0,0) (by omega) ⟨rfl,h0,by simp⟩
 rw [h1,h2]
theorem zCg {R:Type} (n:Nat) {b:Int→Option (Lp Int (Fl R Unit))} (hstep:∀i:Nat,i<n→b (i:Int)=some (.go ((i+1:Nat):Int))) (hend:b (n:Int)=some (.done (.nxt ()))):loop b 0=some (.nxt ()):=by
 obtain ⟨t,h1,h2⟩:=zBx (b:=b) (fun i s=>s=(i:Int)) n (fun t=>t= .nxt ()) (by
  rintro i s hi rfl
  exact .inl ⟨_,hstep i hi,rfl⟩) (by
  rintro s rfl
  exact ⟨_,hend,rfl⟩) n 0 0 (by omega) rfl
 rw [h1,h2]
theorem zDL {α:Type} (xs:List α) (P:α→Prop) (l:Int) {b:(Int×Int)→Option (Lp (Int×Int) (Fl Int Int))}
  (hstep:∀(q:Int) (i:Nat) (hi:i<xs.length),0≤q→q≤l→(∃q',b (q,(i:Int))=some (.go (q',((i+1:Nat):Int)))∧0≤q'∧q'≤q∧P xs[i])∨∃t,b (q,(i:Int))=some (.done (.ret t))∧t<0)
  (hend:∀q:Int,b (q,(xs.length:Int))=some (.done (.nxt q))) (h0:0≤l):
  ∃t,loop b (l,0)=some t∧match t with| .ret r=>r<0| .nxt r=>0≤r∧r≤l∧∀x∈xs,P x:=by
 refine zBx (b:=b) (fun i s=>s.2=(i:Int)∧0≤s.1∧s.1≤l∧∀j,(hj:j<xs.length)→j<i→P xs[j]) xs.length _ (by
  rintro i ⟨q,j⟩ hi ⟨hj,h1,h2,h3⟩
  simp only at hj h1 h2 h3
  subst hj
  rcases hstep q i hi h1 h2 with ⟨q',e,g1,g2,g3⟩|⟨t,e,ht⟩
  ·refine .inl ⟨_,e,rfl,g1,by simp only; omega,fun j hj hji=>?_⟩
   rcases Nat.lt_or_ge j i with h|h
   ·exact h3 j hj h
   ·have:j=i:=by omega
    subst this; exact g3
  ·exact .inr ⟨_,e,ht⟩) (by
  rintro ⟨q,j⟩ ⟨hj,h1,h2,h3⟩
  simp only at hj h1 h2 h3
  subst hj
  refine ⟨_,hend q,h1,h2,fun x hx=>?_⟩
  obtain ⟨j,hj,rfl⟩:=List.getElem_of_mem hx
  exact h3 j hj hj) xs.length 0 (l,0) (by omega) ⟨rfl,h0,Int.le_refl _,fun j _ h=>by omega⟩
def pm {α:Type} (m:α→Int→α) (c:α→Int):List α→Int→List α
 |[],_=>[]
 |x::xs,k=>m x k::pm m c xs (k+c x)
def cs {α:Type} (c:α→Int):List α→Int
 |[]=>0
 |x::xs=>c x+cs c xs
theorem zAM {α:Type} (m:α→Int→α) (c:α→Int):∀(xs:List α) (k:Int),(pm m c xs k).length =xs.length
 |[],_=>rfl
 |x::xs,k=>by simp [pm,zAM m c xs]
theorem yB {α:Type} {c:α→Int} (hc:∀a,0≤c a):∀(xs:List α),0≤cs c xs
 |[]=>Int.le_refl _
 |x::xs=>by have:=hc x; have:=yB hc xs; simp only [cs]; omega
theorem zFc {α:Type} {c:α→Int} {C:Int} {N:Nat} (hC:0≤C):∀(xs:List α),(∀a∈xs,c a≤C)→xs.length≤N→cs c xs≤N*C
 |[],_,_=>Int.mul_nonneg (by omega) hC
 |x::xs,h,hl=>by
  have h1:=h x (by simp)
  simp only [List.length_cons] at hl
  have h2:=zFc (N:=N-1) hC xs (fun a ha=>h a (by simp [ha])) (by omega)
  simp only [cs]
  have:((N-1:Nat):Int)*C+C=N*C:=by
   have e:((N-1:Nat):Int)=(N:Int)-1:=by omega
   rw [e,Int.sub_mul,Int.one_mul]; omega
  omega
theorem zBa {α:Type} (m:α→Int→α) (c:α→Int) (P:α→Prop) (hc:∀a,0≤c a) {b:(List α×Int×Int)→Option (Lp (List α×Int×Int) (List α×Int))}
  (hstep:∀(l r:List α) (x:α) (k:Int),P x→0≤k→k+c x≤9223372036854775807→l.length<9223372036854775807→b (l++x::r,k,(l.length:Int))=some (.go (l++m x k::r,k+c x,((l.length+1:Nat):Int))))
  (hend:∀(l:List α) (k:Int),b (l,k,(l.length:Int))=some (.done (l,k))):∀(xs l:List α) (k:Int),(∀x∈xs,P x)→0≤k→k+cs c xs≤9223372036854775807→l.length+xs.length<9223372036854775807→
  loop b (l++xs,k,(l.length:Int))=some (l++pm m c xs k,k+cs c xs)
 |[],l,k,_,_,_,_=>by
  rw [zA8,List.append_nil,hend]
  simp [pm,cs,Lp.elim]
 |x::xs,l,k,hP,h0,h1,h2=>by
  have hx:=hc x
  have hxs:=yB hc xs
  simp only [cs] at h1
  simp only [List.length_cons] at h2
  rw [zA8,hstep l xs x k (hP x (by simp)) h0 (by omega) (by omega)]
  simp only [Option.bind_some,Lp.elim]
  have:=zBa m c P hc hstep hend xs (l++[m x k]) (k+c x) (fun y hy=>hP y (by simp [hy])) (by omega) (by omega) (by simp; omega)
  simp only [List.length_append,List.length_cons,List.length_nil,List.append_assoc,List.cons_append,List.nil_append] at this
  rw [this]
  simp only [pm,cs]
  congr 2
  omega
theorem zAX {α:Type} (m:α→Int→α) (c:α→Int) (P:α→Prop) (hc:∀a,0≤c a) {b:List α→(Int×Int)→Option (Lp (Int×Int) (Fl Int Int))}
  (hstep:∀(l r:List α) (x:α) (k:Int),P x→0≤k→k+c x≤9223372036854775807→l.length<9223372036854775807→b (l++m x k::r) (k,(l.length:Int))=some (.go (k+c x,((l.length+1:Nat):Int))))
  (hend:∀(l:List α) (k:Int),b l (k,(l.length:Int))=some (.done (.nxt k))):∀(xs l:List α) (k:Int),(∀x∈xs,P x)→0≤k→k+cs c xs≤9223372036854775807→l.length+xs.length<9223372036854775807→
  loop (b (l++pm m c xs k)) (k,(l.length:Int))=some (.nxt (k+cs c xs))
 |[],l,k,_,_,_,_=>by
  rw [zA8,pm,List.append_nil,hend]
  simp [cs,Lp.elim]
 |x::xs,l,k,hP,h0,h1,h2=>by
  have hx:=hc x
  have hxs:=yB hc xs
  simp only [cs] at h1
  simp only [List.length_cons] at h2
  rw [pm,zA8,hstep l _ x k (hP x (by simp)) h0 (by omega) (by omega)]
  simp only [Option.bind_some,Lp.elim]
  have:=zAX m c P hc hstep hend xs (l++[m x k]) (k+c x) (fun y hy=>hP y (by simp [hy])) (by omega) (by omega) (by simp; omega)
  simp only [List.length_append,List.length_cons,List.length_nil,List.append_assoc,List.cons_append,List.nil_append] at this
  rw [this]
  simp only [cs]
  congr 2
  omega
theorem zBM {α β:Type} {xs:List α} {ys:List β} (h:xs.length=ys.length):same xs ys=some ():=if_pos h
theorem zCq {α:Type} (l r:List α) (x y:α):(l++x::r).set l.length y=l++y::r:=by
 rw [List.set_append_right _ _ (Nat.le_refl _)]
 simp
def c1 {α:Type} (_:α):Int:=1
theorem zAy {α:Type} (a:α):0≤c1 a:=by unfold c1; decide
theorem zB8 {α:Type} {B:Nat} {xs ys:List α} (h:(xs.length+ys.length)*B≤140737488355328) (h2:xs.length+ys.length≤4611686018427387904):app B xs ys=some (xs++ys):=if_pos ⟨h,h2⟩
theorem zEF {S T:Type} {b:S→Option (Lp S T)} (I:S→Prop) (μ:S→Nat) (Q:T→Prop) (step:∀s,I s→(∃s',b s=some (.go s')∧I s'∧μ s'<μ s)∨∃t,b s=some (.done t)∧Q t):∀(n:Nat) (s:S),μ s≤n→I s→∃t,loop b s=some t∧Q t
 |0,s,hn,hI=>by
  rcases step s hI with ⟨s',_,_,h3⟩|⟨t,h1,h2⟩
  ·omega
  ·exact ⟨t,by rw [zA8,h1]; rfl,h2⟩
 |n+1,s,hn,hI=>by
  rcases step s hI with ⟨s',h1,h2,h3⟩|⟨t,h1,h2⟩
  ·obtain ⟨t,h4,h5⟩:=zEF I μ Q step n s' (by omega) h2
   exact ⟨t,by rw [zA8,h1]; exact h4,h5⟩
  ·exact ⟨t,by rw [zA8,h1]; rfl,h2⟩
def Version.ok (x:Version):Prop:=(IntKind.i64.min≤x.A∧x.A≤IntKind.i64.max)∧(IntKind.i64.min≤x.B∧x.B≤IntKind.i64.max)∧(IntKind.i64.min≤x.C∧x.C≤IntKind.i64.max)
def Term.ok (x:Term):Prop:=(x.Name.size≤maxLen)∧(Version.ok x.Low)∧(Version.ok x.High)
def Pack.ok (x:Pack):Prop:=(x.Name.size≤maxLen)∧(Version.ok x.Version)∧(IntKind.i64.min≤x.Size∧x.Size≤IntKind.i64.max)∧(x.Provides.length≤maxLen∧∀y1∈x.Provides,y1.size≤maxLen)∧(x.Needs.length≤maxLen∧∀y1∈x.Needs,y1.length≤maxLen∧∀y2∈y1,Term.ok y2)∧(x.Bars.length≤maxLen∧∀y1∈x.Bars,Term.ok y1)
def Version.sm (B:Nat) (x:Version):Prop:=(True)∧(True)∧(True)
def Term.sm (B:Nat) (x:Term):Prop:=(x.Name.size≤B)∧(Version.sm B x.Low)∧(Version.sm B x.High)
def Pack.sm (B:Nat) (x:Pack):Prop:=(x.Name.size≤B)∧(Version.sm B x.Version)∧(True)∧(x.Provides.length≤B∧∀y0∈x.Provides,y0.size≤B)∧(x.Needs.length≤B∧∀y0∈x.Needs,y0.length≤B∧∀y1∈y0,Term.sm B y1)∧(x.Bars.length≤B∧∀y0∈x.Bars,Term.sm B y0)
theorem zEl (x:(List ByteArray)) (hx:x.length≤maxLen∧∀y1∈x,y1.size≤maxLen) (l:Int) (h0:0≤l) (h1:l≤1048576):∃r,tQ x l=some r∧(r<0∨(0≤r∧r≤l∧(x.length≤1048576∧∀y0∈x,y0.size≤1048576))):=by
 obtain ⟨hm,hx⟩:=hx
 unfold maxLen at hm
 unfold tQ
 rw [yR (x:=l-x.length) (by omega) (by omega)]
 by_cases c1:l-(x.length:Int)<0
 ·rw [if_pos (by simpa using c1)]
  exact ⟨_,rfl,.inl (by omega)⟩
 ·rw [if_neg (by simpa using c1)]
  have key:=zDL x (fun y0=>y0.size≤1048576) (l-x.length) (b:=uM x) ?_ ?_ (by omega)
  ·obtain ⟨t,h2,h3⟩:=key
   unfold jH
   rw [h2]
   cases t with
   |ret r=>exact ⟨r,rfl,.inl h3⟩
   |nxt r=>exact ⟨r,rfl,.inr ⟨h3.1,by have:=h3.2.1; omega,by omega,h3.2.2⟩⟩
  ·intro q i hi hq0 hq1
   unfold uM
   rw [if_pos (by simp; omega)]
   simp only [yF hi,Option.bind_some]
   have hi2:w64 ((i:Int)+1)=((i+1:Nat):Int):=yA (by omega)
   have hs:=hx _ (List.getElem_mem hi)
   unfold maxLen at hs
   rw [yR (x:=q-(x[i]).size) (by omega) (by omega)]
   by_cases c:q-((x[i]).size :Int)<0
   ·rw [if_pos (by simpa using c)]
    exact .inr ⟨_,rfl,by omega⟩
   ·rw [if_neg (by simpa using c),hi2]
    exact .inl ⟨_,rfl,by omega,by omega,by show (x[i]).size ≤1048576; omega⟩
  ·intro q
   unfold uM
   rw [if_neg (by simp)]
theorem zG7 (x:Term) (hx:Term.ok x) (l:Int) (h0:0≤l) (h1:l≤1048576):∃r,zA5 x l=some r∧(r<0∨(0≤r∧r≤l∧(Term.sm 1048576 x))):=by
 obtain ⟨k0,k1,k2⟩:=hx
 unfold maxLen at*
 unfold zA5
 rw [yR (x:=l-x.Name.size) (by omega) (by omega)]
 by_cases c0:l-(x.Name.size:Int)<0
 ·rw [if_pos (by simpa using c0)]
  exact ⟨_,rfl,.inl (by omega)⟩
 rw [if_neg (by simpa using c0)]
 exact ⟨_,rfl,.inr ⟨by omega,by omega,by omega,⟨trivial,trivial,trivial⟩,⟨trivial,trivial,trivial⟩⟩⟩
theorem zDy (x:(List Term)) (hx:x.length≤maxLen∧∀y1∈x,Term.ok y1) (l:Int) (h0:0≤l) (h1:l≤1048576):∃r,uT x l=some r∧(r<0∨(0≤r∧r≤l∧(x.length≤1048576∧∀y0∈x,Term.sm 1048576 y0))):=by
 obtain ⟨hm,hx⟩:=hx
 unfold maxLen at hm
 unfold uT
 rw [yR (x:=l-x.length) (by omega) (by omega)]
 by_cases c1:l-(x.length:Int)<0
 ·rw [if_pos (by simpa using c1)]
  exact ⟨_,rfl,.inl (by omega)⟩
 ·rw [if_neg (by simpa using c1)]
  have key:=zDL x (fun y0=>Term.sm 1048576 y0) (l-x.length) (b:=kG x) ?_ ?_ (by omega)
  ·obtain ⟨t,h2,h3⟩:=key
   unfold zAc
   rw [h2]
   cases t with
   |ret r=>exact ⟨r,rfl,.inl h3⟩
   |nxt r=>exact ⟨r,rfl,.inr ⟨h3.1,by have:=h3.2.1; omega,by omega,h3.2.2⟩⟩
  ·intro q i hi hq0 hq1
   unfold kG
   rw [if_pos (by simp; omega)]
   simp only [yF hi,Option.bind_some]
   have hi2:w64 ((i:Int)+1)=((i+1:Nat):Int):=yA (by omega)
   obtain ⟨r,e,hr⟩:=zG7 x[i] (hx _ (List.getElem_mem hi)) q hq0 (by omega)
   rw [e]
   simp only [Option.bind_some]
   by_cases c:r<0
   ·rw [if_pos (by simpa using c)]
    exact .inr ⟨_,rfl,by omega⟩
   ·rw [if_neg (by simpa using c),hi2]
    obtain ⟨g1,g2,g3⟩:=hr.resolve_left c
    exact .inl ⟨_,rfl,g1,g2,g3⟩
  ·intro q
   unfold kG
   rw [if_neg (by simp)]
theorem zFr (x:(List (List Term))) (hx:x.length≤maxLen∧∀y1∈x,y1.length≤maxLen∧∀y2∈y1,Term.ok y2) (l:Int) (h0:0≤l) (h1:l≤1048576):∃r,jT x l=some r∧(r<0∨(0≤r∧r≤l∧(x.length≤1048576∧∀y0∈x,y0.length≤1048576∧∀y1∈y0,Term.sm 1048576 y1))):=by
 obtain ⟨hm,hx⟩:=hx
 unfold maxLen at hm
 unfold jT
 rw [yR (x:=l-x.length) (by omega) (by omega)]
 by_cases c1:l-(x.length:Int)<0
 ·rw [if_pos (by simpa using c1)]
  exact ⟨_,rfl,.inl (by omega)⟩
 ·rw [if_neg (by simpa using c1)]
  have key:=zDL x (fun y0=>y0.length≤1048576∧∀y1∈y0,Term.sm 1048576 y1) (l-x.length) (b:=jI x) ?_ ?_ (by omega)
  ·obtain ⟨t,h2,h3⟩:=key
   unfold kD
   rw [h2]
   cases t with
   |ret r=>exact ⟨r,rfl,.inl h3⟩
   |nxt r=>exact ⟨r,rfl,.inr ⟨h3.1,by have:=h3.2.1; omega,by omega,h3.2.2⟩⟩
  ·intro q i hi hq0 hq1
   unfold jI
   rw [if_pos (by simp; omega)]
   simp only [yF hi,Option.bind_some]
   have hi2:w64 ((i:Int)+1)=((i+1:Nat):Int):=yA (by omega)
   obtain ⟨r,e,hr⟩:=zDy x[i] (hx _ (List.getElem_mem hi)) q hq0 (by omega)
   rw [e]
   simp only [Option.bind_some]
   by_cases c:r<0
   ·rw [if_pos (by simpa using c)]
    exact .inr ⟨_,rfl,by omega⟩
   ·rw [if_neg (by simpa using c),hi2]
    obtain ⟨g1,g2,g3⟩:=hr.resolve_left c
    exact .inl ⟨_,rfl,g1,g2,g3⟩
  ·intro q
   unfold jI
   rw [if_neg (by simp)]
theorem zGU (x:Pack) (hx:Pack.ok x) (l:Int) (h0:0≤l) (h1:l≤1048576):∃r,zA9 x l=some r∧(r<0∨(0≤r∧r≤l∧(Pack.sm 1048576 x))):=by
 obtain ⟨k0,k1,k2,k3,k4,k5⟩:=hx
 unfold maxLen at*
 unfold zA9
 rw [yR (x:=l-x.Name.size) (by omega) (by omega)]
 by_cases c0:l-(x.Name.size:Int)<0
 ·rw [if_pos (by simpa using c0)]
  exact ⟨_,rfl,.inl (by omega)⟩
 rw [if_neg (by simpa using c0)]
 obtain ⟨r3,e3,g3⟩:=zEl x.Provides k3 (l-x.Name.size) (by omega) (by omega)
 rw [e3]
 simp only [Option.bind_some]
 by_cases c3:r3<0
 ·rw [if_pos (by simpa using c3)]
  exact ⟨_,rfl,.inl (by omega)⟩
 rw [if_neg (by simpa using c3)]
 obtain ⟨p3,q3,z3⟩:=g3.resolve_left c3
 obtain ⟨r4,e4,g4⟩:=zFr x.Needs k4 r3 (by omega) (by omega)
 rw [e4]
 simp only [Option.bind_some]
 by_cases c4:r4<0
 ·rw [if_pos (by simpa using c4)]
  exact ⟨_,rfl,.inl (by omega)⟩
 rw [if_neg (by simpa using c4)]
 obtain ⟨p4,q4,z4⟩:=g4.resolve_left c4
 obtain ⟨r5,e5,g5⟩:=zDy x.Bars k5 r4 (by omega) (by omega)
 rw [e5]
 simp only [Option.bind_some]
 by_cases c5:r5<0
 ·rw [if_pos (by simpa using c5)]
  exact ⟨_,rfl,.inl (by omega)⟩
 rw [if_neg (by simpa using c5)]
 obtain ⟨p5,q5,z5⟩:=g5.resolve_left c5
 exact ⟨_,rfl,.inr ⟨by omega,by omega,by omega,⟨trivial,trivial,trivial⟩,trivial,z3,z4,z5⟩⟩
theorem zFZ (x:(List Pack)) (hx:x.length≤maxLen∧∀y1∈x,Pack.ok y1) (l:Int) (h0:0≤l) (h1:l≤1048576):∃r,zAd x l=some r∧(r<0∨(0≤r∧r≤l∧(x.length≤1048576∧∀y0∈x,Pack.sm 1048576 y0))):=by
 obtain ⟨hm,hx⟩:=hx
 unfold maxLen at hm
 unfold zAd
 rw [yR (x:=l-x.length) (by omega) (by omega)]
 by_cases c1:l-(x.length:Int)<0
 ·rw [if_pos (by simpa using c1)]
  exact ⟨_,rfl,.inl (by omega)⟩
 ·rw [if_neg (by simpa using c1)]
  have key:=zDL x (fun y0=>Pack.sm 1048576 y0) (l-x.length) (b:=kH x) ?_ ?_ (by omega)
  ·obtain ⟨t,h2,h3⟩:=key
   unfold zAk
   rw [h2]
   cases t with
   |ret r=>exact ⟨r,rfl,.inl h3⟩
   |nxt r=>exact ⟨r,rfl,.inr ⟨h3.1,by have:=h3.2.1; omega,by omega,h3.2.2⟩⟩
  ·intro q i hi hq0 hq1
   unfold kH
   rw [if_pos (by simp; omega)]
   simp only [yF hi,Option.bind_some]
   have hi2:w64 ((i:Int)+1)=((i+1:Nat):Int):=yA (by omega)
   obtain ⟨r,e,hr⟩:=zGU x[i] (hx _ (List.getElem_mem hi)) q hq0 (by omega)
   rw [e]
   simp only [Option.bind_some]
   by_cases c:r<0
   ·rw [if_pos (by simpa using c)]
    exact .inr ⟨_,rfl,by omega⟩
   ·rw [if_neg (by simpa using c),hi2]
    obtain ⟨g1,g2,g3⟩:=hr.resolve_left c
    exact .inl ⟨_,rfl,g1,g2,g3⟩
  ·intro q
   unfold kH
   rw [if_neg (by simp)]
theorem zB6 (x:Version) (hx:Version.sm 1049600 x):yZ x=some x:=by
 obtain ⟨h0,h1,h2⟩:=hx
 unfold yZ
 rfl
theorem zEK (x:(List ByteArray)) (hx:x.length≤1049600∧∀y0∈x,y0.size≤1049600):tL x=some x:=by
 have hl:=hx.1
 unfold tL
 have hm:∀z:ByteArray,mk 16 (x.length:Int) z=some (List.replicate x.length z):=fun z=>by
  unfold mk; rw [if_pos ⟨by omega,by simp; omega,by omega⟩]; simp
 rw [hm]
 simp only [Option.bind_some,tV]
 rw [zDU x ?_ ?_ _ (by simp)]
 ·rfl
 ·intro ys i hi hl2
  unfold kL
  rw [if_pos (by simp; omega)]
  have hi2:w64 ((i:Int)+1)=((i+1:Nat):Int):=yA (by omega)
  simp only [yF hi,yF (show i<ys.length by omega),Option.bind_some,Int.toNat_natCast,hi2]
 ·intro ys _
  unfold kL
  rw [if_neg (by simp)]
theorem zGr (x:Term) (hx:Term.sm 1049600 x):zAA x=some x:=by
 obtain ⟨h0,h1,h2⟩:=hx
 unfold zAA
 simp only [zB6 x.Low h1,zB6 x.High h2,Option.bind_some]
theorem zD6 (x:(List Term)) (hx:x.length≤1049600∧∀y0∈x,Term.sm 1049600 y0):uP x=some x:=by
 have hl:=hx.1
 unfold uP
 have hm:∀z:Term,mk 64 (x.length:Int) z=some (List.replicate x.length z):=fun z=>by
  unfold mk; rw [if_pos ⟨by omega,by simp; omega,by omega⟩]; simp
 rw [hm]
 simp only [Option.bind_some,kU]
 rw [zDU x ?_ ?_ _ (by simp)]
 ·rfl
 ·intro ys i hi hl2
  unfold zA0
  rw [if_pos (by simp; omega)]
  have hi2:w64 ((i:Int)+1)=((i+1:Nat):Int):=yA (by omega)
  simp only [yF hi,yF (show i<ys.length by omega),Option.bind_some,Int.toNat_natCast,hi2,zGr x[i] (hx.2 _ (List.getElem_mem hi))]
 ·intro ys _
  unfold zA0
  rw [if_neg (by simp)]
theorem zFl (x:(List (List Term))) (hx:x.length≤1049600∧∀y0∈x,y0.length≤1049600∧∀y1∈y0,Term.sm 1049600 y1):jU x=some x:=by
 have hl:=hx.1
 unfold jU
 have hm:∀z:(List Term),mk 24 (x.length:Int) z=some (List.replicate x.length z):=fun z=>by
  unfold mk; rw [if_pos ⟨by omega,by simp; omega,by omega⟩]; simp
 rw [hm]
 simp only [Option.bind_some,jY]
 rw [zDU x ?_ ?_ _ (by simp)]
 ·rfl
 ·intro ys i hi hl2
  unfold zAs
  rw [if_pos (by simp; omega)]
  have hi2:w64 ((i:Int)+1)=((i+1:Nat):Int):=yA (by omega)
  simp only [yF hi,yF (show i<ys.length by omega),Option.bind_some,Int.toNat_natCast,hi2,zD6 x[i] (hx.2 _ (List.getElem_mem hi))]
 ·intro ys _
  unfold zAs
  rw [if_neg (by simp)]
theorem zGK (x:Pack) (hx:Pack.sm 1049600 x):zA6 x=some x:=by
 obtain ⟨h0,h1,h2,h3,h4,h5⟩:=hx
 unfold zA6
 simp only [zB6 x.Version h1,zEK x.Provides h3,zFl x.Needs h4,zD6 x.Bars h5,Option.bind_some]
theorem zFH (x:(List Pack)) (hx:x.length≤1049600∧∀y0∈x,Pack.sm 1049600 y0):xD x=some x:=by
 have hl:=hx.1
 unfold xD
 have hm:∀z:Pack,mk 120 (x.length:Int) z=some (List.replicate x.length z):=fun z=>by
  unfold mk; rw [if_pos ⟨by omega,by simp; omega,by omega⟩]; simp
 rw [hm]
 simp only [Option.bind_some,zAh]
 rw [zDU x ?_ ?_ _ (by simp)]
 ·rfl
 ·intro ys i hi hl2
  unfold zA4
  rw [if_pos (by simp; omega)]
  have hi2:w64 ((i:Int)+1)=((i+1:Nat):Int):=yA (by omega)
  simp only [yF hi,yF (show i<ys.length by omega),Option.bind_some,Int.toNat_natCast,hi2,zGK x[i] (hx.2 _ (List.getElem_mem hi))]
 ·intro ys _
  unfold zA4
  rw [if_neg (by simp)]
theorem zEt (x:(List Int)) (hx:x.length≤1049600∧∀y0∈x,True):zAi x x=some true:=by
 have hl:=hx.1
 unfold zAi
 rw [if_neg (by simp)]
 unfold zAa
 rw [zCg x.length ?_ ?_]
 ·rfl
 ·intro i hi
  unfold zA3
  rw [if_pos (by simp; omega)]
  have hi2:w64 ((i:Int)+1)=((i+1:Nat):Int):=yA (by omega)
  simp [yF hi,hi2]
 ·unfold zA3
  rw [if_neg (by simp)]
def File.sm (B:Nat) (x:File):Prop:=(x.Path.size≤B)∧(x.Data.length≤B∧∀y0∈x.Data,True)
def zC.sm (B:Nat) (x:zC):Prop:=(x.Files.length≤B∧∀y0∈x.Files,File.sm B y0)∧(True)∧(True)∧(True)∧(True)
theorem zFn (x:File) (hx:File.sm 1049600 x):zAD x x=some true:=by
 obtain ⟨h0,h1⟩:=hx
 unfold zAD
 simp [zEt x.Data h1]
theorem zE7 (x:(List File)) (hx:x.length≤1049600∧∀y0∈x,File.sm 1049600 y0):kX x x=some true:=by
 have hl:=hx.1
 unfold kX
 rw [if_neg (by simp)]
 unfold kT
 rw [zCg x.length ?_ ?_]
 ·rfl
 ·intro i hi
  unfold zAz
  rw [if_pos (by simp; omega)]
  have hi2:w64 ((i:Int)+1)=((i+1:Nat):Int):=yA (by omega)
  simp [yF hi,hi2,zFn x[i] (hx.2 _ (List.getElem_mem hi))]
 ·unfold zAz
  rw [if_neg (by simp)]
theorem zFm (x:zC) (hx:zC.sm 1049600 x):zAB x x=some true:=by
 obtain ⟨h0,h1,h2,h3,h4⟩:=hx
 unfold zAB
 simp [zE7 x.Files h0]
theorem zBg (x:Version) (hx:Version.sm 1049600 x):yX x x=some true:=by
 obtain ⟨h0,h1,h2⟩:=hx
 unfold yX
 simp
theorem zDo (x:(List ByteArray)) (hx:x.length≤1049600∧∀y0∈x,y0.size≤1049600):uZ x x=some true:=by
 have hl:=hx.1
 unfold uZ
 rw [if_neg (by simp)]
 unfold tT
 rw [zCg x.length ?_ ?_]
 ·rfl
 ·intro i hi
  unfold kN
  rw [if_pos (by simp; omega)]
  have hi2:w64 ((i:Int)+1)=((i+1:Nat):Int):=yA (by omega)
  simp [yF hi,hi2]
 ·unfold kN
  rw [if_neg (by simp)]
theorem zET (x:Term) (hx:Term.sm 1049600 x):zAC x x=some true:=by
 obtain ⟨h0,h1,h2⟩:=hx
 unfold zAC
 simp [zBg x.Low h1,zBg x.High h2]
theorem zCt (x:(List Term)) (hx:x.length≤1049600∧∀y0∈x,Term.sm 1049600 y0):uF x x=some true:=by
 have hl:=hx.1
 unfold uF
 rw [if_neg (by simp)]
 unfold kR
 rw [zCg x.length ?_ ?_]
 ·rfl
 ·intro i hi
  unfold zA1
  rw [if_pos (by simp; omega)]
  have hi2:w64 ((i:Int)+1)=((i+1:Nat):Int):=yA (by omega)
  simp [yF hi,hi2,zET x[i] (hx.2 _ (List.getElem_mem hi))]
 ·unfold zA1
  rw [if_neg (by simp)]
theorem zDW (x:(List (List Term))) (hx:x.length≤1049600∧∀y0∈x,y0.length≤1049600∧∀y1∈y0,Term.sm 1049600 y1):jQ x x=some true:=by
 have hl:=hx.1
 unfold jQ
 rw [if_neg (by simp)]
 unfold jW
 rw [zCg x.length ?_ ?_]
 ·rfl
 ·intro i hi
  unfold zAm
  rw [if_pos (by simp; omega)]
  have hi2:w64 ((i:Int)+1)=((i+1:Nat):Int):=yA (by omega)
  simp [yF hi,hi2,zCt x[i] (hx.2 _ (List.getElem_mem hi))]
 ·unfold zAm
  rw [if_neg (by simp)]
theorem zFj (x:Pack) (hx:Pack.sm 1049600 x):zA7 x x=some true:=by
 obtain ⟨h0,h1,h2,h3,h4,h5⟩:=hx
 unfold zA7
 simp [zBg x.Version h1,zDo x.Provides h3,zDW x.Needs h4,zCt x.Bars h5]
theorem zCv (x:(List Pack)) (hx:x.length≤1049600∧∀y0∈x,Pack.sm 1049600 y0):uS x x=some true:=by
 have hl:=hx.1
 unfold uS
 rw [if_neg (by simp)]
 unfold kV
 rw [zCg x.length ?_ ?_]
 ·rfl
 ·intro i hi
  unfold zA2
  rw [if_pos (by simp; omega)]
  have hi2:w64 ((i:Int)+1)=((i+1:Nat):Int):=yA (by omega)
  simp [yF hi,hi2,zFj x[i] (hx.2 _ (List.getElem_mem hi))]
 ·unfold zA2
  rw [if_neg (by simp)]
def System.sm (B:Nat) (x:System):Prop:=(x.Catalog.length≤B∧∀y0∈x.Catalog,Pack.sm B y0)∧(zC.sm B x.zC)
theorem zDO (x:System) (hx:System.sm 1049600 x):jS x x=some true:=by
 obtain ⟨h0,h1⟩:=hx
 unfold jS
 simp [zCv x.Catalog h0,zFm x.zC h1]
def zD.sm (B:Nat) (x:zD):Prop:=(True)∧(True)∧(System.sm B x.System)
theorem zBO (x:zD) (hx:zD.sm 1049600 x):yC x x=some true:=by
 obtain ⟨h0,h1,h2⟩:=hx
 unfold yC
 simp [zDO x.System h2]
theorem zCC (a:Int):(b2s [a]).size =1:=rfl
theorem zDH {k:Int} (h0:0≤k) (h1:k≤9223372036854775807):∃s,zT k=some s:=by
 have key:∀(n:Nat) (k:Int) (s:ByteArray),0≤k→k<10^n→k≤9223372036854775807→s.size+n≤1000→∃t,loop zAn (k,s)=some t∧t.size≤s.size+n:=by
  intro n
  induction n with
  |zero=>
   intro k s h0 h1 _ _
   have:k=0:=by simp at h1; omega
   subst this
   exact ⟨s,by rw [zA8]; rfl,by omega⟩
  |succ n ih=>
   intro k s h0 h1 h2 h3
   by_cases hk:k>0
   ·rw [zA8]
    unfold zAn
    simp only
    rw [if_pos (by simpa using hk)]
    have hc:∀a:Int,cat (b2s [a]) s=some (b2s [a]++s):=fun a=>by
     unfold cat; rw [if_pos (by rw [zCC]; omega)]
    rw [hc]
    simp only [Option.bind_some,Lp.elim]
    have hd:k.tdiv 10=k / 10:=Int.tdiv_eq_ediv_of_nonneg h0
    rw [hd,yR (by omega) (by omega)]
    obtain ⟨t,g1,g2⟩:=ih (k / 10) (b2s [IntKind.u8.wrap (w64 (48+k.tmod 10))]++s) (by omega) (by rw [Int.pow_succ] at h1; omega) (by omega) (by rw [ByteArray.size_append,zCC]; omega)
    refine ⟨t,g1,?_⟩
    rw [ByteArray.size_append,zCC] at g2
    omega
   ·have:k=0:=by omega
    subst this
    exact ⟨s,by rw [zA8]; rfl,by omega⟩
 unfold zT
 by_cases hk:k≤0
 ·rw [if_pos (by simpa using hk)]
  exact ⟨_,rfl⟩
 ·rw [if_neg (by simpa using hk)]
  obtain ⟨t,g1,g2⟩:=key 19 k (bs []) h0 (by omega) h1 (by decide)
  unfold kE
  rw [g1]
  simp only [Option.bind_some]
  have e0:(bs []).size =0:=rfl
  have e1:(bs [109]).size =1:=rfl
  unfold cat
  rw [if_pos (by omega)]
  exact ⟨_,rfl⟩
noncomputable def mT (k:Int):ByteArray:=(zT k).getD ByteArray.empty
theorem kY {k:Int} (h0:0≤k) (h1:k≤9223372036854775807):zT k=some (mT k):=by
 obtain ⟨s,hs⟩:=zDH h0 h1
 unfold mT
 rw [hs]
 rfl
def zFG (_:Int) (k:Int):Int:=IntKind.u8.wrap k
theorem zDZ (xs:List Int) (hx:xs.length≤1049600∧∀y0∈xs,True) (k:Int) (h0:0≤k) (h1:k+cs c1 xs≤9223372036854775807):vU xs k=some (k+cs c1 xs,pm zFG c1 xs k):=by
 unfold vU uE
 have key:=zBa zFG c1 (fun y0=>True) zAy (b:=vT) ?_ ?_ xs [] k hx.2 h0 h1 (by have:=hx.1; simp; omega)
 ·simp only [List.nil_append,List.length_nil,Int.natCast_zero] at key
  rw [key]
  rfl
 ·intro l r x k hP h0 hk hl
  simp only [c1] at hk
  have w0:=yR (x:=k+1) (by omega) (by omega)
  have hi2:w64 ((l.length:Int)+1)=((l.length+1:Nat):Int):=yA (by omega)
  unfold vT
  rw [if_pos (by simp; omega)]
  simp only [vB,zCq,Option.bind_some,Int.toNat_natCast,hi2,w0]
  rfl
 ·intro l k
  unfold vT
  rw [if_neg (by simp)]
theorem zE4 (xs:List Int) (hx:xs.length≤1049600∧∀y0∈xs,True) (k:Int) (h0:0≤k) (h1:k+cs c1 xs≤9223372036854775807):tO (pm zFG c1 xs k) k=some (k+cs c1 xs):=by
 unfold tO jJ
 have key:=zAX zFG c1 (fun y0=>True) zAy (b:=vY) ?_ ?_ xs [] k hx.2 h0 h1 (by have:=hx.1; simp; omega)
 ·simp only [List.nil_append,List.length_nil,Int.natCast_zero] at key
  rw [key]
  rfl
 ·intro l r x k hP h0 hk hl
  simp only [c1] at hk
  have w0:=yR (x:=k+1) (by omega) (by omega)
  have hi2:w64 ((l.length:Int)+1)=((l.length+1:Nat):Int):=yA (by omega)
  unfold vY
  rw [if_pos (by simp; omega)]
  simp [vB,hi2,zFG,w0]
  all_goals (first|rfl|omega|(simp only [c1]; omega))
 ·intro l k
  unfold vY
  rw [if_neg (by simp)]
noncomputable def mFile (x:File) (k:Int):File:=({Path:=mT (k),Data:=pm zFG c1 x.Data (k+1)}:File)
noncomputable def cFile (x:File):Int:=1+cs c1 x.Data
theorem uV (x:File):0≤cFile x:=by
 have n1:=yB zAy x.Data
 unfold cFile
 omega
theorem zDY (xs:List File) (hx:xs.length≤1049600∧∀y0∈xs,File.sm 1049600 y0) (k:Int) (h0:0≤k) (h1:k+cs cFile xs≤9223372036854775807):vO xs k=some (k+cs cFile xs,pm mFile cFile xs k):=by
 unfold vO vZ
 have key:=zBa mFile cFile (fun y0=>File.sm 1049600 y0) uV (b:=vQ) ?_ ?_ xs [] k hx.2 h0 h1 (by have:=hx.1; simp; omega)
 ·simp only [List.nil_append,List.length_nil,Int.natCast_zero] at key
  rw [key]
  rfl
 ·intro l r x k hP h0 hk hl
  simp only [cFile] at hk
  have n1:=yB zAy x.Data
  have t0:=kY (k:=k) (by omega) (by omega)
  have w0:=yR (x:=k+1) (by omega) (by omega)
  have t1:=zDZ x.Data (hP.2) (k+1) (by omega) (by omega)
  have hi2:w64 ((l.length:Int)+1)=((l.length+1:Nat):Int):=yA (by omega)
  unfold vQ
  rw [if_pos (by simp; omega)]
  simp only [vB,zCq,Option.bind_some,Int.toNat_natCast,hi2,t0,w0,t1,zBM (zAM _ _ _ _)]
  rw [show k+1+cs c1 x.Data=k+cFile x from by simp only [cFile]; omega]
  rfl
 ·intro l k
  unfold vQ
  rw [if_neg (by simp)]
theorem zEx (xs:List File) (hx:xs.length≤1049600∧∀y0∈xs,File.sm 1049600 y0) (k:Int) (h0:0≤k) (h1:k+cs cFile xs≤9223372036854775807):tF (pm mFile cFile xs k) k=some (k+cs cFile xs):=by
 unfold tF jC
 have key:=zAX mFile cFile (fun y0=>File.sm 1049600 y0) uV (b:=uO) ?_ ?_ xs [] k hx.2 h0 h1 (by have:=hx.1; simp; omega)
 ·simp only [List.nil_append,List.length_nil,Int.natCast_zero] at key
  rw [key]
  rfl
 ·intro l r x k hP h0 hk hl
  simp only [cFile] at hk
  have n1:=yB zAy x.Data
  have t0:=kY (k:=k) (by omega) (by omega)
  have w0:=yR (x:=k+1) (by omega) (by omega)
  have t1:=zE4 x.Data (hP.2) (k+1) (by omega) (by omega)
  have z1:¬(k+1+cs c1 x.Data<0):=by omega
  have hi2:w64 ((l.length:Int)+1)=((l.length+1:Nat):Int):=yA (by omega)
  unfold uO
  rw [if_pos (by simp; omega)]
  simp [vB,hi2,mFile,t0,w0,t1,z1]
  all_goals (first|rfl|omega|(simp only [cFile]; omega))
 ·intro l k
  unfold uO
  rw [if_neg (by simp)]
theorem zEn (x:zC) (hP:zC.sm 1049600 x) (k:Int) (h0:0≤k) (h1:k+cs cFile x.Files≤9223372036854775807):tJ x k=some (k+cs cFile x.Files,pm mFile cFile x.Files (k)):=by
 have n0:=yB uV x.Files
 have t0:=zDY x.Files (hP.1) (k) (by omega) (by omega)
 unfold tJ
 simp only [t0,Option.bind_some,zBM (zAM _ _ _ _)]
theorem zFh (x:zC) (hP:zC.sm 1049600 x) (k:Int) (h0:0≤k) (h1:k+cs cFile x.Files≤9223372036854775807):jP ({Files:=pm mFile cFile x.Files (k),Budget:=x.Budget,Writes:=x.Writes,Stop:=x.Stop,Down:=x.Down}:zC) k=some (k+cs cFile x.Files):=by
 have n0:=yB uV x.Files
 have t0:=zEx x.Files (hP.1) (k) (by omega) (by omega)
 have z0:¬(k+cs cFile x.Files<0):=by omega
 unfold jP
 simp [t0]
 all_goals (first|rfl|omega)
noncomputable def zCh (_:ByteArray) (k:Int):ByteArray:=mT k
theorem zDd (xs:List ByteArray) (hx:xs.length≤1049600∧∀y0∈xs,y0.size≤1049600) (k:Int) (h0:0≤k) (h1:k+cs c1 xs≤9223372036854775807):xU xs k=some (k+cs c1 xs,pm zCh c1 xs k):=by
 unfold xU wM
 have key:=zBa zCh c1 (fun y0=>y0.size≤1049600) zAy (b:=wB) ?_ ?_ xs [] k hx.2 h0 h1 (by have:=hx.1; simp; omega)
 ·simp only [List.nil_append,List.length_nil,Int.natCast_zero] at key
  rw [key]
  rfl
 ·intro l r x k hP h0 hk hl
  simp only [c1] at hk
  have t0:=kY (k:=k) (by omega) (by omega)
  have w0:=yR (x:=k+1) (by omega) (by omega)
  have hi2:w64 ((l.length:Int)+1)=((l.length+1:Nat):Int):=yA (by omega)
  unfold wB
  rw [if_pos (by simp; omega)]
  simp only [vB,zCq,Option.bind_some,Int.toNat_natCast,hi2,t0,w0]
  rfl
 ·intro l k
  unfold wB
  rw [if_neg (by simp)]
theorem zDq (xs:List ByteArray) (hx:xs.length≤1049600∧∀y0∈xs,y0.size≤1049600) (k:Int) (h0:0≤k) (h1:k+cs c1 xs≤9223372036854775807):wK (pm zCh c1 xs k) k=some (k+cs c1 xs):=by
 unfold wK vJ
 have key:=zAX zCh c1 (fun y0=>y0.size≤1049600) zAy (b:=wQ) ?_ ?_ xs [] k hx.2 h0 h1 (by have:=hx.1; simp; omega)
 ·simp only [List.nil_append,List.length_nil,Int.natCast_zero] at key
  rw [key]
  rfl
 ·intro l r x k hP h0 hk hl
  simp only [c1] at hk
  have t0:=kY (k:=k) (by omega) (by omega)
  have w0:=yR (x:=k+1) (by omega) (by omega)
  have hi2:w64 ((l.length:Int)+1)=((l.length+1:Nat):Int):=yA (by omega)
  unfold wQ
  rw [if_pos (by simp; omega)]
  simp [vB,hi2,zCh,t0,w0]
  all_goals (first|rfl|omega|(simp only [c1]; omega))
 ·intro l k
  unfold wQ
  rw [if_neg (by simp)]
noncomputable def zEV (x:Term) (k:Int):Term:=({Name:=mT (k),Low:=({A:=(k+1),B:=(k+1+1),C:=(k+1+1+1)}:Version),High:=({A:=(k+1+1+1+1),B:=(k+1+1+1+1+1),C:=(k+1+1+1+1+1+1)}:Version)}:Term)
noncomputable def zAR (x:Term):Int:=1+1+1+1+1+1+1
theorem jM (x:Term):0≤zAR x:=by
 unfold zAR
 omega
theorem zCb (xs:List Term) (hx:xs.length≤1049600∧∀y0∈xs,Term.sm 1049600 y0) (k:Int) (h0:0≤k) (h1:k+cs zAR xs≤9223372036854775807):xJ xs k=some (k+cs zAR xs,pm zEV zAR xs k):=by
 unfold xJ uD
 have key:=zBa zEV zAR (fun y0=>Term.sm 1049600 y0) jM (b:=vE) ?_ ?_ xs [] k hx.2 h0 h1 (by have:=hx.1; simp; omega)
 ·simp only [List.nil_append,List.length_nil,Int.natCast_zero] at key
  rw [key]
  rfl
 ·intro l r x k hP h0 hk hl
  simp only [zAR] at hk
  have t0:=kY (k:=k) (by omega) (by omega)
  have w0:=yR (x:=k+1) (by omega) (by omega)
  have w1:=yR (x:=k+1+1) (by omega) (by omega)
  have w2:=yR (x:=k+1+1+1) (by omega) (by omega)
  have w3:=yR (x:=k+1+1+1+1) (by omega) (by omega)
  have w4:=yR (x:=k+1+1+1+1+1) (by omega) (by omega)
  have w5:=yR (x:=k+1+1+1+1+1+1) (by omega) (by omega)
  have w6:=yR (x:=k+1+1+1+1+1+1+1) (by omega) (by omega)
  have hi2:w64 ((l.length:Int)+1)=((l.length+1:Nat):Int):=yA (by omega)
  unfold vE
  rw [if_pos (by simp; omega)]
  simp only [vB,zCq,Option.bind_some,Int.toNat_natCast,hi2,t0,w0,w1,w2,w3,w4,w5,w6]
  rw [show k+1+1+1+1+1+1+1=k+zAR x from by simp only [zAR]; omega]
  rfl
 ·intro l k
  unfold vE
  rw [if_neg (by simp)]
theorem zCr (xs:List Term) (hx:xs.length≤1049600∧∀y0∈xs,Term.sm 1049600 y0) (k:Int) (h0:0≤k) (h1:k+cs zAR xs≤9223372036854775807):xZ (pm zEV zAR xs k) k=some (k+cs zAR xs):=by
 unfold xZ jA
 have key:=zAX zEV zAR (fun y0=>Term.sm 1049600 y0) jM (b:=uJ) ?_ ?_ xs [] k hx.2 h0 h1 (by have:=hx.1; simp; omega)
 ·simp only [List.nil_append,List.length_nil,Int.natCast_zero] at key
  rw [key]
  rfl
 ·intro l r x k hP h0 hk hl
  simp only [zAR] at hk
  have t0:=kY (k:=k) (by omega) (by omega)
  have w0:=yR (x:=k+1) (by omega) (by omega)
  have w1:=yR (x:=k+1+1) (by omega) (by omega)
  have w2:=yR (x:=k+1+1+1) (by omega) (by omega)
  have w3:=yR (x:=k+1+1+1+1) (by omega) (by omega)
  have w4:=yR (x:=k+1+1+1+1+1) (by omega) (by omega)
  have w5:=yR (x:=k+1+1+1+1+1+1) (by omega) (by omega)
  have w6:=yR (x:=k+1+1+1+1+1+1+1) (by omega) (by omega)
  have hi2:w64 ((l.length:Int)+1)=((l.length+1:Nat):Int):=yA (by omega)
  unfold uJ
  rw [if_pos (by simp; omega)]
  simp [vB,hi2,zEV,t0,w0,w1,w2,w3,w4,w5,w6]
  all_goals (first|rfl|omega|(simp only [zAR]; omega))
 ·intro l k
  unfold uJ
  rw [if_neg (by simp)]
noncomputable def zDz (x:(List Term)) (k:Int):(List Term):=pm zEV zAR x k
noncomputable def zAv (x:(List Term)):Int:=cs zAR x
theorem zAI (x:(List Term)):0≤zAv x:=yB jM x
theorem zDi (xs:List (List Term)) (hx:xs.length≤1049600∧∀y0∈xs,y0.length≤1049600∧∀y1∈y0,Term.sm 1049600 y1) (k:Int) (h0:0≤k) (h1:k+cs zAv xs≤9223372036854775807):wG xs k=some (k+cs zAv xs,pm zDz zAv xs k):=by
 unfold wG vI
 have key:=zBa zDz zAv (fun y0=>y0.length≤1049600∧∀y1∈y0,Term.sm 1049600 y1) zAI (b:=wL) ?_ ?_ xs [] k hx.2 h0 h1 (by have:=hx.1; simp; omega)
 ·simp only [List.nil_append,List.length_nil,Int.natCast_zero] at key
  rw [key]
  rfl
 ·intro l r x k hP h0 hk hl
  simp only [zAv] at hk
  have n0:=yB jM x
  have t0:=zCb x (hP) (k) (by omega) (by omega)
  have hi2:w64 ((l.length:Int)+1)=((l.length+1:Nat):Int):=yA (by omega)
  unfold wL
  rw [if_pos (by simp; omega)]
  simp only [vB,zCq,Option.bind_some,Int.toNat_natCast,hi2,t0,zBM (zAM _ _ _ _)]
  rfl
 ·intro l k
  unfold wL
  rw [if_neg (by simp)]
theorem zDF (xs:List (List Term)) (hx:xs.length≤1049600∧∀y0∈xs,y0.length≤1049600∧∀y1∈y0,Term.sm 1049600 y1) (k:Int) (h0:0≤k) (h1:k+cs zAv xs≤9223372036854775807):vM (pm zDz zAv xs k) k=some (k+cs zAv xs):=by
 unfold vM uG
 have key:=zAX zDz zAv (fun y0=>y0.length≤1049600∧∀y1∈y0,Term.sm 1049600 y1) zAI (b:=vG) ?_ ?_ xs [] k hx.2 h0 h1 (by have:=hx.1; simp; omega)
 ·simp only [List.nil_append,List.length_nil,Int.natCast_zero] at key
  rw [key]
  rfl
 ·intro l r x k hP h0 hk hl
  simp only [zAv] at hk
  have n0:=yB jM x
  have t0:=zCr x (hP) (k) (by omega) (by omega)
  have z0:¬(k+cs zAR x<0):=by omega
  have hi2:w64 ((l.length:Int)+1)=((l.length+1:Nat):Int):=yA (by omega)
  unfold vG
  rw [if_pos (by simp; omega)]
  simp [vB,hi2,zDz,t0,z0]
  all_goals (first|rfl|omega|(simp only [zAv]; omega))
 ·intro l k
  unfold vG
  rw [if_neg (by simp)]
noncomputable def zDN (x:Pack) (k:Int):Pack:=({Name:=mT (k),Version:=({A:=(k+1),B:=(k+1+1),C:=(k+1+1+1)}:Version),Size:=(k+1+1+1+1),Provides:=pm zCh c1 x.Provides (k+1+1+1+1+1),Needs:=pm zDz zAv x.Needs (k+1+1+1+1+1+cs c1 x.Provides),Bars:=pm zEV zAR x.Bars (k+1+1+1+1+1+cs c1 x.Provides+cs zAv x.Needs)}:Pack)
noncomputable def jG (x:Pack):Int:=1+1+1+1+1+cs c1 x.Provides+cs zAv x.Needs+cs zAR x.Bars
theorem jN (x:Pack):0≤jG x:=by
 have n5:=yB zAy x.Provides
 have n6:=yB zAI x.Needs
 have n7:=yB jM x.Bars
 unfold jG
 omega
theorem zBW (xs:List Pack) (hx:xs.length≤1049600∧∀y0∈xs,Pack.sm 1049600 y0) (k:Int) (h0:0≤k) (h1:k+cs jG xs≤9223372036854775807):xK xs k=some (k+cs jG xs,pm zDN jG xs k):=by
 unfold xK uR
 have key:=zBa zDN jG (fun y0=>Pack.sm 1049600 y0) jN (b:=vN) ?_ ?_ xs [] k hx.2 h0 h1 (by have:=hx.1; simp; omega)
 ·simp only [List.nil_append,List.length_nil,Int.natCast_zero] at key
  rw [key]
  rfl
 ·intro l r x k hP h0 hk hl
  simp only [jG] at hk
  have n5:=yB zAy x.Provides
  have n6:=yB zAI x.Needs
  have n7:=yB jM x.Bars
  have t0:=kY (k:=k) (by omega) (by omega)
  have w0:=yR (x:=k+1) (by omega) (by omega)
  have w1:=yR (x:=k+1+1) (by omega) (by omega)
  have w2:=yR (x:=k+1+1+1) (by omega) (by omega)
  have w3:=yR (x:=k+1+1+1+1) (by omega) (by omega)
  have w4:=yR (x:=k+1+1+1+1+1) (by omega) (by omega)
  have t5:=zDd x.Provides (hP.2.2.2.1) (k+1+1+1+1+1) (by omega) (by omega)
  have t6:=zDi x.Needs (hP.2.2.2.2.1) (k+1+1+1+1+1+cs c1 x.Provides) (by omega) (by omega)
  have t7:=zCb x.Bars (hP.2.2.2.2.2) (k+1+1+1+1+1+cs c1 x.Provides+cs zAv x.Needs) (by omega) (by omega)
  have hi2:w64 ((l.length:Int)+1)=((l.length+1:Nat):Int):=yA (by omega)
  unfold vN
  rw [if_pos (by simp; omega)]
  simp only [vB,zCq,Option.bind_some,Int.toNat_natCast,hi2,t0,w0,w1,w2,w3,w4,t5,t6,t7,zBM (zAM _ _ _ _)]
  rw [show k+1+1+1+1+1+cs c1 x.Provides+cs zAv x.Needs+cs zAR x.Bars=k+jG x from by simp only [jG]; omega]
  rfl
 ·intro l k
  unfold vN
  rw [if_neg (by simp)]
theorem zEm (xs:List Pack) (hx:xs.length≤1049600∧∀y0∈xs,Pack.sm 1049600 y0) (k:Int) (h0:0≤k) (h1:k+cs jG xs≤9223372036854775807):tK (pm zDN jG xs k) k=some (k+cs jG xs):=by
 unfold tK jD
 have key:=zAX zDN jG (fun y0=>Pack.sm 1049600 y0) jN (b:=uI) ?_ ?_ xs [] k hx.2 h0 h1 (by have:=hx.1; simp; omega)
 ·simp only [List.nil_append,List.length_nil,Int.natCast_zero] at key
  rw [key]
  rfl
 ·intro l r x k hP h0 hk hl
  simp only [jG] at hk
  have n5:=yB zAy x.Provides
  have n6:=yB zAI x.Needs
  have n7:=yB jM x.Bars
  have t0:=kY (k:=k) (by omega) (by omega)
  have w0:=yR (x:=k+1) (by omega) (by omega)
  have w1:=yR (x:=k+1+1) (by omega) (by omega)
  have w2:=yR (x:=k+1+1+1) (by omega) (by omega)
  have w3:=yR (x:=k+1+1+1+1) (by omega) (by omega)
  have w4:=yR (x:=k+1+1+1+1+1) (by omega) (by omega)
  have t5:=zDq x.Provides (hP.2.2.2.1) (k+1+1+1+1+1) (by omega) (by omega)
  have z5:¬(k+1+1+1+1+1+cs c1 x.Provides<0):=by omega
  have t6:=zDF x.Needs (hP.2.2.2.2.1) (k+1+1+1+1+1+cs c1 x.Provides) (by omega) (by omega)
  have z6:¬(k+1+1+1+1+1+cs c1 x.Provides+cs zAv x.Needs<0):=by omega
  have t7:=zCr x.Bars (hP.2.2.2.2.2) (k+1+1+1+1+1+cs c1 x.Provides+cs zAv x.Needs) (by omega) (by omega)
  have z7:¬(k+1+1+1+1+1+cs c1 x.Provides+cs zAv x.Needs+cs zAR x.Bars<0):=by omega
  have hi2:w64 ((l.length:Int)+1)=((l.length+1:Nat):Int):=yA (by omega)
  unfold uI
  rw [if_pos (by simp; omega)]
  simp [vB,hi2,zDN,t0,w0,w1,w2,w3,w4,t5,z5,t6,z6,t7,z7]
  all_goals (first|rfl|omega|(simp only [jG]; omega))
 ·intro l k
  unfold uI
  rw [if_neg (by simp)]
theorem zDg (x:System) (hP:System.sm 1049600 x) (k:Int) (h0:0≤k) (h1:k+cs jG x.Catalog+cs cFile x.zC.Files≤9223372036854775807):wJ x k=some (k+cs jG x.Catalog+cs cFile x.zC.Files,pm zDN jG x.Catalog (k),pm mFile cFile x.zC.Files (k+cs jG x.Catalog)):=by
 have n0:=yB jN x.Catalog
 have n1:=yB uV x.zC.Files
 have t0:=zBW x.Catalog (hP.1) (k) (by omega) (by omega)
 have t1:=zEn x.zC (hP.2) (k+cs jG x.Catalog) (by omega) (by omega)
 unfold wJ
 simp only [t0,t1,Option.bind_some,zBM (zAM _ _ _ _)]
theorem zEb (x:System) (hP:System.sm 1049600 x) (k:Int) (h0:0≤k) (h1:k+cs jG x.Catalog+cs cFile x.zC.Files≤9223372036854775807):vD ({Catalog:=pm zDN jG x.Catalog (k),zC:=({Files:=pm mFile cFile x.zC.Files (k+cs jG x.Catalog),Budget:=x.zC.Budget,Writes:=x.zC.Writes,Stop:=x.zC.Stop,Down:=x.zC.Down}:zC)}:System) k=some (k+cs jG x.Catalog+cs cFile x.zC.Files):=by
 have n0:=yB jN x.Catalog
 have n1:=yB uV x.zC.Files
 have t0:=zEm x.Catalog (hP.1) (k) (by omega) (by omega)
 have z0:¬(k+cs jG x.Catalog<0):=by omega
 have t1:=zFh x.zC (hP.2) (k+cs jG x.Catalog) (by omega) (by omega)
 have z1:¬(k+cs jG x.Catalog+cs cFile x.zC.Files<0):=by omega
 unfold vD
 simp [t0,t1,z0,z1]
 all_goals (first|rfl|omega)
theorem zBH (x:zD) (hP:zD.sm 1049600 x) (k:Int) (h0:0≤k) (h1:k+cs jG x.System.Catalog+cs cFile x.System.zC.Files≤9223372036854775807):yM x k=some (k+cs jG x.System.Catalog+cs cFile x.System.zC.Files,pm zDN jG x.System.Catalog (k),pm mFile cFile x.System.zC.Files (k+cs jG x.System.Catalog)):=by
 have n0:=yB jN x.System.Catalog
 have n1:=yB uV x.System.zC.Files
 have t0:=zDg x.System (hP.2.2) (k) (by omega) (by omega)
 unfold yM
 simp only [t0,Option.bind_some,zBM (zAM _ _ _ _)]
theorem zBN (x:zD) (hP:zD.sm 1049600 x) (k:Int) (h0:0≤k) (h1:k+cs jG x.System.Catalog+cs cFile x.System.zC.Files≤9223372036854775807):yE ({Code:=x.Code,Choices:=x.Choices,System:=({Catalog:=pm zDN jG x.System.Catalog (k),zC:=({Files:=pm mFile cFile x.System.zC.Files (k+cs jG x.System.Catalog),Budget:=x.System.zC.Budget,Writes:=x.System.zC.Writes,Stop:=x.System.zC.Stop,Down:=x.System.zC.Down}:zC)}:System)}:zD) k=some (k+cs jG x.System.Catalog+cs cFile x.System.zC.Files):=by
 have n0:=yB jN x.System.Catalog
 have n1:=yB uV x.System.zC.Files
 have t0:=zEb x.System (hP.2.2) (k) (by omega) (by omega)
 have z0:¬(k+cs jG x.System.Catalog+cs cFile x.System.zC.Files<0):=by omega
 unfold yE
 simp [t0]
 all_goals (first|rfl|omega)
theorem Version.zBs {x:Version} (h:Version.sm 1048576 x):Version.sm 1049600 x:=⟨trivial,trivial,trivial⟩
theorem Term.zBs {x:Term} (h:Term.sm 1048576 x):Term.sm 1049600 x:=⟨(Nat.le_trans h.1 (by decide)),(Version.zBs h.2.1),(Version.zBs h.2.2)⟩
theorem Pack.zBs {x:Pack} (h:Pack.sm 1048576 x):Pack.sm 1049600 x:=⟨(Nat.le_trans h.1 (by decide)),(Version.zBs h.2.1),trivial,⟨Nat.le_trans h.2.2.2.1.1 (by decide),fun y0 z0=>(Nat.le_trans (h.2.2.2.1.2 y0 z0) (by decide))⟩,⟨Nat.le_trans h.2.2.2.2.1.1 (by decide),fun y0 z0=>⟨Nat.le_trans (h.2.2.2.2.1.2 y0 z0).1 (by decide),fun y1 z1=>(Term.zBs ((h.2.2.2.2.1.2 y0 z0).2 y1 z1))⟩⟩,⟨Nat.le_trans h.2.2.2.2.2.1 (by decide),fun y0 z0=>(Term.zBs (h.2.2.2.2.2.2 y0 z0))⟩⟩
theorem zEG (x:(List ByteArray)) (hx:x.length≤1049600∧∀y0∈x,y0.size≤1049600):cs c1 x≤1049600:=by
 have:=zFc (c:=c1) (C:=1) (N:=1049600) (by decide) x (fun a _=>by unfold c1; decide) hx.1
 omega
theorem zD9 (x:(List Term)) (hx:x.length≤1049600∧∀y0∈x,Term.sm 1049600 y0):cs zAR x≤7347200:=by
 have:=zFc (c:=zAR) (C:=7) (N:=1049600) (by decide) x (fun a ha=>by have hP:=hx.2 a ha; unfold zAR; omega) hx.1
 omega
theorem zFs (x:(List (List Term))) (hx:x.length≤1049600∧∀y0∈x,y0.length≤1049600∧∀y1∈y0,Term.sm 1049600 y1):cs zAv x≤7711621120000:=by
 have:=zFc (c:=zAv) (C:=7347200) (N:=1049600) (by decide) x (fun a ha=>zD9 a (hx.2 a ha)) hx.1
 omega
theorem zDw (x:(List Pack)) (hx:x.length≤1049600∧∀y0∈x,Pack.sm 1049600 y0):cs jG x≤8094126340838528000:=by
 have:=zFc (c:=jG) (C:=7711629516805) (N:=1049600) (by decide) x (fun a ha=>by have hP:=hx.2 a ha; have q5:=zEG a.Provides (hP.2.2.2.1); have q6:=zFs a.Needs (hP.2.2.2.2.1); have q7:=zD9 a.Bars (hP.2.2.2.2.2); unfold jG; omega) hx.1
 omega
theorem zGc (x:(List Int)) (hx:x.length≤1049600∧∀y0∈x,True):cs c1 x≤1049600:=by
 have:=zFc (c:=c1) (C:=1) (N:=1049600) (by decide) x (fun a _=>by unfold c1; decide) hx.1
 omega
theorem zGa (x:(List File)) (hx:x.length≤1049600∧∀y0∈x,File.sm 1049600 y0):cs cFile x≤1101661209600:=by
 have:=zFc (c:=cFile) (C:=1049601) (N:=1049600) (by decide) x (fun a ha=>by have hP:=hx.2 a ha; have q1:=zGc a.Data (hP.2); unfold cFile; omega) hx.1
 omega
theorem zB4 (a1:(List Pack)) (a2:Int) (k0:a1.length≤maxLen∧∀y1∈a1,Pack.ok y1) (k1:IntKind.i64.min≤a2∧a2≤IntKind.i64.max) (both:(a1.length≤1048576∧∀y0∈a1,Pack.sm 1048576 y0)→(True)→∃r,wU a1 a2=some r∧xG a1 a2=some r∧(zD.sm 1049600 r)):yP a1 a2=some true:=by
 unfold yP
 obtain ⟨r1,e1,g1⟩:=zFZ a1 k0 1048576 (by omega) (by omega)
 rw [e1]
 simp only [Option.bind_some]
 by_cases d1:r1<0
 ·rw [if_pos (by simpa using d1)]
 rw [if_neg (by simpa using d1)]
 obtain ⟨p1,q1,s_a1⟩:=g1.resolve_left d1
 have s_a2:True:=trivial
 obtain ⟨r,e1,e2,hr⟩:=both s_a1 s_a2
 have m_a1:a1.length≤1049600∧∀y0∈a1,Pack.sm 1049600 y0:=⟨Nat.le_trans s_a1.1 (by decide),fun y0 z0=>(Pack.zBs (s_a1.2 y0 z0))⟩
 have m_a2:True:=trivial
 have n1:=yB jN a1
 have b1:=zDw a1 (m_a1)
 have n3:=yB jN r.System.Catalog
 have b3:=zDw r.System.Catalog (hr.2.2.1)
 have n4:=yB uV r.System.zC.Files
 have b4:=zGa r.System.zC.Files (hr.2.2.2.1)
 have t2:=zBW a1 m_a1 (1) (by omega) (by omega)
 have z1:¬(1+cs jG a1<0):=by omega
 have t5:=zBH r hr 1 (by omega) (by omega)
 have u5:=zBN r hr 1 (by omega) (by omega)
 have z2:¬(1+cs jG r.System.Catalog+cs cFile r.System.zC.Files<0):=by omega
 simp [e1,e2,zFH a1 m_a1,zCv a1 m_a1,zBO r hr,t2,z1,t5,u5,z2,zBM (zAM _ _ _ _)]
def bl (s:ByteArray):List Int:=s.toList.map (fun b=>(b.toNat:Int))
theorem vL (s:ByteArray):(bl s).length =s.size:=by
 unfold bl
 rw [List.length_map,ByteArray.toList_eq]
 rfl
theorem zDR {s:ByteArray} {i:Nat} (h:i< (bl s).length):bidx s (i:Int)=some (bl s)[i]:=by
 unfold bidx
 rw [if_pos (by omega)]
 have hs:i<s.size:=by rw [vL] at h; exact h
 have e:s[(i:Int).toNat]? =some s[i]:=by simp [hs]
 rw [e]
 simp only [Option.map_some,bl,List.getElem_map]
 congr 2
 simp only [ByteArray.toList_eq]
 rfl
theorem zCS:∀(a:List UInt8),Op.bytesLess a a=false
 |[]=>rfl
 |x::a=>by simp [Op.bytesLess,zCS a]
theorem zDB:∀{a b c:List UInt8},Op.bytesLess a b=true→Op.bytesLess b c=true→Op.bytesLess a c=true
 |_,[],_,h,_=>by simp [Op.bytesLess] at h
 |_,_::_,[],_,h=>by simp [Op.bytesLess] at h
 |[],_::_,_::_,_,_=>by simp [Op.bytesLess]
 |x::a,y::b,z::c,h1,h2=>by
  simp only [Op.bytesLess,Bool.or_eq_true,decide_eq_true_eq,Bool.and_eq_true,beq_iff_eq] at h1 h2 ⊢
  rcases h1 with h1|⟨rfl,h1⟩
  ·rcases h2 with h2|⟨rfl,h2⟩
   ·exact .inl (UInt8.lt_trans h1 h2)
   ·exact .inl h1
  ·rcases h2 with h2|⟨rfl,h2⟩
   ·exact .inl h2
   ·exact .inr ⟨rfl,zDB h1 h2⟩
theorem toList_inj {a b:ByteArray} (h:a.toList=b.toList):a=b:=by
 rw [ByteArray.toList_eq,ByteArray.toList_eq] at h
 cases a; cases b
 simp at h
 rw [h]
theorem zCi (a:ByteArray):slt a a=false:=zCS _
theorem zCH {a b c:ByteArray} (h1:slt a b=true) (h2:slt b c=true):slt a c=true:=zDB h1 h2
theorem zBi (a b:ByteArray):bl (a++b)=bl a++bl b:=by
 unfold bl
 rw [ByteArray.toList_eq,ByteArray.toList_eq,ByteArray.toList_eq]
 simp
theorem zDu (s:ByteArray) (i j:Nat):bl (s.extract i j)=((bl s).drop i).take (j-i):=by
 unfold bl
 rw [ByteArray.toList_eq,ByteArray.toList_eq]
 simp [List.map_drop,List.map_take]
theorem zGh {a b:ByteArray}:bl a=bl b↔a=b:=by
 constructor
 ·intro h
  unfold bl at h
  refine toList_inj ?_
  have hinj:∀(x y:List UInt8),x.map (fun b=>(b.toNat:Int))=y.map (fun b=>(b.toNat:Int))→x=y:=by
   intro x
   induction x with
   |nil=>intro y h; cases y<;>simp_all
   |cons u x ih=>
    intro y h
    cases y with
    |nil=>simp at h
    |cons v y=>
     simp only [List.map_cons,List.cons.injEq] at h
     rw [ih y h.2]
     have:u.toNat=v.toNat:=by omega
     rw [UInt8.toNat_inj.1 this]
  exact hinj _ _ h
 ·intro h; rw [h]
theorem zGB {c:Int} (h0:0≤c) (h1:c≤255):bl (b2s [c])=[c]:=by
 unfold bl b2s
 rw [ByteArray.toList_eq]
 simp only [List.foldl_cons,List.foldl_nil]
 show [((UInt8.ofNat c.toNat).toNat :Int)]=[c]
 simp
 omega
theorem wrap_u8 {c:Int} (h0:0≤c) (h1:c≤255):IntKind.u8.wrap c=c:=by
 simp only [IntKind.wrap,IntKind.signed,IntKind.bits]
 simp
 omega
def zCy (n:Nat):List Int:=if n<10 then [48+(n:Int)] else zCy (n / 10)++[48+((n%10:Nat):Int)]
termination_by n
decreasing_by omega
theorem zAr {n:Nat} (h:n<10):zCy n=[48+(n:Int)]:=by rw [zCy,if_pos h]
theorem zBt {n:Nat} (h:¬n<10):zCy n=zCy (n / 10)++[48+((n%10:Nat):Int)]:=by rw [zCy,if_neg h]
theorem zDE:∀(k n:Nat),n<10^(k+1)→(zCy n).length ≤k+1
 |0,n,h=>by rw [zAr (by simpa using h)]; simp
 |k+1,n,h=>by
  by_cases hn:n<10
  ·rw [zAr hn]; simp
  ·rw [Nat.pow_succ] at h
   rw [zBt hn,List.length_append]
   have:=zDE k (n / 10) (by omega)
   simp only [List.length_singleton]
   omega
theorem zDf (g:Int→Option ByteArray) (a1:Int):xR g a1=if decide (a1<10) then some (b2s [IntKind.u8.wrap (w64 (48+a1))]) else (g (w64 (a1.tdiv 10))).bind fun x3=>(cat x3 (b2s [IntKind.u8.wrap (w64 (48+(a1.tmod 10)))])).bind fun x5=>some x5:=rfl
theorem zBL:∀(k f n:Nat),n<10^(k+1)→k<f→n≤9000000000000000000→k≤100→∃s,zHY xR f (n:Int)=some s∧bl s=zCy n
 |k,0,n,_,hf,_,_=>by omega
 |k,f+1,n,h,hf,hn,hk=>by
  rw [show zHY xR (f+1) (n:Int)=xR (zHY xR f) (n:Int) from rfl,zDf]
  by_cases h1:n<10
  ·rw [if_pos (by simp; omega),yR (by omega) (by omega),wrap_u8 (by omega) (by omega)]
   exact ⟨_,rfl,by rw [zGB (by omega) (by omega),zAr h1]⟩
  ·rw [if_neg (by simp; omega)]
   cases k with
   |zero=>simp at h; omega
   |succ k=>
    have e1:w64 ((n:Int).tdiv 10)=((n / 10:Nat):Int):=by
     rw [Int.tdiv_eq_ediv_of_nonneg (by omega),yR (by omega) (by omega)]; omega
    have e2:(n:Int).tmod 10=((n%10:Nat):Int):=by
     rw [Int.tmod_eq_emod_of_nonneg (by omega)]; omega
    rw [Nat.pow_succ] at h
    obtain ⟨s,e,hs⟩:=zBL k f (n / 10) (by omega) (by omega) (by omega) (by omega)
    rw [e1,e2,e,yR (by omega) (by omega),wrap_u8 (by omega) (by omega)]
    have hsz:s.size≤k+1:=by
     rw [←vL,hs]
     exact zDE k (n / 10) (by omega)
    simp only [Option.bind_some]
    unfold cat
    rw [if_pos (by have:(b2s [48+((n%10:Nat):Int)]).size =1:=rfl; omega)]
    exact ⟨_,rfl,by rw [zBi,hs,zGB (by omega) (by omega),zBt h1]⟩
theorem zDl (n:Nat) (h:n≤9000000000000000000):∃s,kJ (n:Int)=some s∧bl s=zCy n:=
 zBL 18 64 n (by omega) (by omega) h (by omega)
theorem zHy (l:List UInt8):bl (bs l)=l.map (fun b=>(b.toNat:Int)):=by
 unfold bl bs
 rw [ByteArray.toList_eq]
theorem zGO {a b:ByteArray} (h:a.size+b.size≤1099511627776):cat a b=some (a++b):=if_pos h
theorem zHf (a b c:ByteArray):a++b++c=a++(b++c):=zGh.1 (by simp only [zBi,List.append_assoc])
theorem zIt (a b:ByteArray):(a++b).size =a.size+b.size:=by
 rw [←vL,zBi,List.length_append,vL,vL]
theorem zBK {n:Nat} (h:n<256):(UInt8.ofNat n).toNat =n:=by
 simp [Nat.mod_eq_of_lt h]
theorem decDigits_eq:∀(n:Nat),(Lib.decDigits n).map (fun b=>(b.toNat:Int))=zCy n:=by
 intro n
 induction n using Nat.strongRecOn with
 |ind n ih=>
  rw [Lib.decDigits]
  by_cases h:n<10
  ·rw [dif_pos h,zAr h]
   simp only [List.map_cons,List.map_nil]
   rw [zBK (by omega)]
   simp
  ·rw [dif_neg h,zBt h,List.map_append,ih (n / 10) (by omega)]
   simp only [List.map_cons,List.map_nil]
   rw [zBK (by omega)]
   simp
def zGf (n:Nat):ByteArray:=⟨(Lib.decDigits n).toArray⟩
theorem zCl (n:Nat):bl (zGf n)=zCy n:=by
 unfold bl zGf
 rw [ByteArray.toList_eq]
 exact decDigits_eq n
theorem zE1 (n:Nat) (h:n≤9000000000000000000):kJ (n:Int)=some (zGf n):=by
 obtain ⟨s,e,hs⟩:=zDl n h
 rw [e,zGh.1 (hs.trans (zCl n).symm)]
theorem zEI (n:Nat) (h:n≤9000000000000000000):xW (n:Int) 10=some (zGf n):=by
 unfold xW
 rw [if_pos (by omega)]
 unfold Lib.itoa zGf
 rw [if_neg (by omega)]
 simp
def inB (a b c:Int):Bool:=decide (b≤a)&&decide (a≤c)
theorem zDV (a b c:Int):xB a b c=some (inB a b c):=by
 unfold xB inB
 by_cases h:a≥b<;>simp [h]
theorem zCF (a b c:Int):yN a b c=some (inB a b c):=by
 unfold yN inB
 by_cases h:b≤a<;>simp [h]
section del
variable {α:Type} (p:α→Bool)
theorem zIf {xs:List α} {l h:Nat} (h1:l≤h) (h2:h≤xs.length):zHc xs (l:Int) (h:Int)=some ((xs.drop l).take (h-l)):=by
 unfold zHc
 rw [if_pos (by omega)]
 rfl
end del
def jK {α R:Type} (g:Nat→α→Option R):Nat→List α→Option R
 |_,[]=>none
 |i,x::xs=>match g i x with
  |some r=>some r
  |none=>jK g (i+1) xs
def frs {R:Type}:Option R→Fl R Unit
 |some r=>.ret r
 |none=>.nxt ()
theorem zD7 {α R:Type} (xs:List α) (g:Nat→α→Option R) {b:Int→Option (Lp Int (Fl R Unit))}
  (hstep:∀(i:Nat) (hi:i<xs.length),b (i:Int)=some (match g i xs[i] with|some r=>.done (.ret r)|none=>.go ((i+1:Nat):Int))) (hend:b (xs.length:Int)=some (.done (.nxt ()))):
  ∀(k i:Nat),i+k=xs.length→loop b (i:Int)=some (frs (jK g i (xs.drop i)))
 |0,i,h=>by
  have e:i=xs.length:=by omega
  subst e
  rw [zA8,hend,List.drop_length]
  rfl
 |k+1,i,h=>by
  have hi:i<xs.length:=by omega
  have ih:=zD7 xs g hstep hend k (i+1) (by omega)
  rw [zA8,hstep i hi,List.drop_eq_getElem_cons hi]
  simp only [jK]
  cases g i xs[i] with
  |some r=>rfl
  |none=>exact ih
theorem xS {α R:Type} (xs:List α) (g:Nat→α→Option R) {b:Int→Option (Lp Int (Fl R Unit))}
  (hstep:∀(i:Nat) (hi:i<xs.length),b (i:Int)=some (match g i xs[i] with|some r=>.done (.ret r)|none=>.go ((i+1:Nat):Int))) (hend:b (xs.length:Int)=some (.done (.nxt ()))):
  loop b 0=some (frs (jK g 0 xs)):=by
 have:=zD7 xs g hstep hend xs.length 0 (by omega)
 simpa using this
theorem zB0 {R T:Type} (o:Option R) (f:R→Option T) (h:Unit→Option T):(some (frs o)).bind (Fl.go f h)=match o with|some r=>f r|none=>h ():=by
 cases o<;>rfl
theorem zBE {α:Type} (p:α→Bool):∀(xs:List α) (i:Nat),((jK (fun j x=>if p x then some (j:Int) else none) i xs).getD (-1)≥0)↔xs.any p=true
 |[],i=>by simp [jK]
 |x::xs,i=>by
  simp only [jK]
  cases h:p x
  ·simp only [Bool.false_eq_true,if_false,List.any_cons,h,Bool.false_or]
   exact zBE p xs (i+1)
  ·simp [h]
theorem zEB {α:Type} (p:α→Bool):∀(xs:List α) (i:Nat),(jK (fun _ x=>if p x then some true else none) i xs).getD false=xs.any p
 |[],i=>rfl
 |x::xs,i=>by
  simp only [jK]
  cases h:p x
  ·simp only [Bool.false_eq_true,if_false,List.any_cons,h,Bool.false_or]
   exact zEB p xs (i+1)
  ·simp [h]
theorem zEh {o:Option Int} {b:Bool} (h:(o.getD (-1)≥0)↔b=true):decide (o.getD (-1)≥0)=b:=by
 rw [Bool.eq_iff_iff,decide_eq_true_eq]; exact h
def zHp (c:Int):zZ:= {Code:=c,zC:= {Files:=[],Budget:=0,Writes:=0,Stop:=0,Down:=false}}
theorem zEi:∀(a b:List UInt8),(Lib.compareBytes a b<0↔Op.bytesLess a b=true)∧(Lib.compareBytes a b=0↔a=b)
 |[],[]=>by simp [Lib.compareBytes,Op.bytesLess]
 |[],_::_=>by simp [Lib.compareBytes,Op.bytesLess]
 |_::_,[]=>by simp [Lib.compareBytes,Op.bytesLess]
 |x::a,y::b=>by
  obtain ⟨ih1,ih2⟩:=zEi a b
  simp only [Lib.compareBytes,Op.bytesLess]
  by_cases h1:x<y
  ·simp [h1]
   intro e; subst e; exact absurd h1 (by simp [UInt8.lt_irrefl])
  ·by_cases h2:y<x
   ·simp [h1,h2]
    have hne:x≠y:=fun e=>by subst e; exact absurd h2 (by simp [UInt8.lt_irrefl])
    simp [hne]
   ·have e:x=y:=by
     rw [UInt8.lt_iff_toNat_lt] at h1 h2
     exact UInt8.toNat_inj.1 (by omega)
    subst e
    simp [UInt8.lt_irrefl,ih1,ih2]
theorem zGE (a b:ByteArray):zHL a b<0↔slt a b=true:=by
 unfold zHL slt
 rw [ByteArray.toList_eq,ByteArray.toList_eq]
 exact (zEi _ _).1
theorem zGk (a b:ByteArray):zHL a b=0↔a=b:=by
 unfold zHL
 rw [(zEi _ _).2,←ByteArray.toList_eq,←ByteArray.toList_eq]
 exact ⟨toList_inj,fun e=>by rw [e]⟩
theorem zHN {i j:Int} (h0:0≤i) (h1:i≤j) (h2:j≤4611686018427387903):w64 ((IntKind.u64.wrap (w64 (i+j))).fdiv (2^(min (1:Int).toNat 64)))=(i+j) / 2:=by
 rw [yR (x:=i+j) (by omega) (by omega)]
 have e1:IntKind.u64.wrap (i+j)=i+j:=by
  simp only [IntKind.wrap,IntKind.signed,IntKind.bits]
  simp
  omega
 rw [e1]
 have e2:((2:Int)^(min (1:Int).toNat 64))=2:=by decide
 rw [e2,Int.fdiv_eq_ediv_of_nonneg _ (by omega)]
 exact yR (by omega) (by omega)
theorem zD1 (f:File) (p:ByteArray):xE f p=some (zHL f.Path p):=rfl
theorem zFP (fs:List File) (p:ByteArray) (h:fs.length≤1048576):
  ∃(k:Nat) (b:Bool),zH fs p=some ((k:Int),b)∧k≤fs.length∧(b=true→∃hk:k<fs.length,fs[k].Path =p)∧
   (fs.Pairwise (fun f g=>slt f.Path g.Path=true)→(∀i,(hi:i<fs.length)→i<k→slt fs[i].Path p=true)∧(∀i,(hi:i<fs.length)→k≤i→slt fs[i].Path p=false)∧(b=false→∀f∈fs,f.Path≠p)):=by
 obtain ⟨t,e,k,rfl,hk,hs⟩:=zEF (b:=zR fs p)
  (fun s=>∃i j:Nat,s=((i:Int),(j:Int))∧i≤j∧j≤fs.length∧(fs.Pairwise (fun f g=>slt f.Path g.Path=true)→(∀q,(hq:q<fs.length)→q<i→slt fs[q].Path p=true)∧(∀q,(hq:q<fs.length)→j≤q→slt fs[q].Path p=false)))
  (fun s=>(s.2-s.1).toNat)
  (fun t=>∃k:Nat,t=(k:Int)∧k≤fs.length∧(fs.Pairwise (fun f g=>slt f.Path g.Path=true)→(∀q,(hq:q<fs.length)→q<k→slt fs[q].Path p=true)∧(∀q,(hq:q<fs.length)→k≤q→slt fs[q].Path p=false))) (by
  rintro s ⟨i,j,rfl,hij,hj,hP⟩
  unfold zR
  by_cases hlt:i<j
  ·left
   rw [if_pos (by simp; omega)]
   simp only
   rw [zHN (by omega) (by omega) (by omega)]
   have hm:(((i:Int)+(j:Int)) / 2)=(((i+j) / 2:Nat):Int):=by omega
   rw [hm]
   have hmj:(i+j) / 2<j:=by omega
   have him:i≤(i+j) / 2:=by omega
   generalize (i+j) / 2=m at*
   have hmn:m<fs.length:=by omega
   simp only [yF hmn,Option.bind_some,zD1]
   by_cases hc:zHL fs[m].Path p<0
   ·rw [if_pos (by simpa using hc),yA (by omega)]
    refine ⟨_,rfl,⟨m+1,j,rfl,by omega,hj,fun hso=>?_⟩,by simp; omega⟩
    obtain ⟨g1,g2⟩:=hP hso
    refine ⟨fun q hq hqm=>?_,g2⟩
    have hl:=(zGE _ _).1 hc
    rcases Nat.lt_or_ge q m with h'|h'
    ·exact zCH (List.pairwise_iff_getElem.1 hso q m hq hmn h') hl
    ·have:q=m:=by omega
     subst this; exact hl
   ·rw [if_neg (by simpa using hc)]
    refine ⟨_,rfl,⟨i,m,rfl,by omega,by omega,fun hso=>?_⟩,by simp; omega⟩
    obtain ⟨g1,g2⟩:=hP hso
    refine ⟨g1,fun q hq hmq=>?_⟩
    have hl:slt fs[m].Path p=false:=by
     cases h':slt fs[m].Path p with
     |false=>rfl
     |true=>exact absurd ((zGE _ _).2 h') hc
    rcases Nat.lt_or_ge m q with h'|h'
    ·cases hq2:slt fs[q].Path p with
     |false=>rfl
     |true=>
      have:=zCH (List.pairwise_iff_getElem.1 hso m q hmn hq h') hq2
      rw [hl] at this; cases this
    ·have:q=m:=by omega
     subst this; exact hl
  ·right
   rw [if_neg (by simp; omega)]
   have:i=j:=by omega
   subst this
   exact ⟨_,rfl,i,rfl,by omega,hP⟩) fs.length (0,(fs.length:Int)) (by simp) ⟨0,fs.length,rfl,by omega,by omega,fun _=>⟨fun q _ h=>by omega,fun q hq h=>by omega⟩⟩
 unfold zH
 rw [show zM fs p (0,(fs.length:Int))=some (k:Int) from e]
 simp only [Option.bind_some]
 by_cases hkn:k<fs.length
 ·rw [if_pos (by simpa using hkn)]
  simp only [yF hkn,Option.bind_some,zD1]
  refine ⟨k,_,rfl,hk,fun hb=>⟨hkn,(zGk _ _).1 (by simpa using hb)⟩,fun hso=>⟨(hs hso).1,(hs hso).2,fun hb f hf hfp=>?_⟩⟩
  have hne:zHL fs[k].Path p≠0:=by simpa using hb
  obtain ⟨q,hq,rfl⟩:=List.getElem_of_mem hf
  rcases Nat.lt_trichotomy q k with h'|h'|h'
  ·have:=(hs hso).1 q hq h'
   rw [hfp,zCi] at this; cases this
  ·subst h'; exact hne ((zGk _ _).2 hfp)
  ·have h1:=List.pairwise_iff_getElem.1 hso k q hkn hq h'
   have h2:=(hs hso).2 k hkn (Nat.le_refl _)
   rw [hfp] at h1
   rw [h1] at h2; cases h2
 ·rw [if_neg (by simpa using hkn)]
  refine ⟨k,false,rfl,hk,(fun hb=>by cases hb),fun hso=>⟨(hs hso).1,(hs hso).2,fun _ f hf hfp=>?_⟩⟩
  obtain ⟨q,hq,rfl⟩:=List.getElem_of_mem hf
  have:=(hs hso).1 q hq (by omega)
  rw [hfp,zCi] at this; cases this
def zHT:List Int→List Int→Bool
 |_,[]=>false
 |[],_::_=>true
 |a::x,b::y=>decide (a<b)||(a==b&&zHT x y)
theorem zEE (a b:ByteArray):slt a b=zHT (bl a) (bl b):=by
 unfold slt bl
 generalize a.toList=x
 generalize b.toList=y
 induction x generalizing y with
 |nil=>cases y<;>rfl
 |cons u x ih=>
  cases y with
  |nil=>rfl
  |cons v y=>
   simp only [Op.bytesLess,List.map_cons,zHT,ih y]
   congr 1
   ·rw [Bool.eq_iff_iff]; simp [UInt8.lt_iff_toNat_lt]
   ·congr 1
    rw [Bool.eq_iff_iff]
    simp only [beq_iff_eq]
    constructor
    ·intro h; rw [h]
    ·intro h; exact UInt8.toNat_inj.1 (by omega)
def zHb (c:Int):Bool:=decide (97≤c)&&decide (c≤122)
def zE0 (c:Int):Bool:=decide (48≤c)&&decide (c≤57)
def zGI (c:Int):Bool:=zHb c||(zE0 c||c==95)
theorem zCG (c:Int):xI c=some (zHb c):=by
 unfold xI zHb
 by_cases h:c≥97<;>simp [h]
theorem zFY (c:Int):jL c=some (zE0 c):=by
 unfold jL zE0
 by_cases h:c≥48<;>simp [h]
theorem zGj (c:Int):zAE c=some (zGI c):=by
 unfold zAE zGI
 simp only [zCG,zFY,Option.bind_some]
 cases zHb c<;>cases zE0 c<;>simp
theorem zDQ (c:Int):vP c=some (zGI c):=by
 unfold vP zGI zHb zE0
 by_cases h1:c≥97<;>by_cases h2:c≤122<;>by_cases h3:c≥48<;>by_cases h4:c≤57<;>simp [h1,h2,h3,h4]
def zEf (s:ByteArray):Int:=(jK (fun _ c=>if zGI c then none else some (5:Int)) 0 (bl s)).getD 0
def NF (s:ByteArray):Int:=if s.size<1 then 5 else if s.size>12 then 5 else if zHb ((bl s).headD 0) then zEf s else 5
theorem zGs {s:ByteArray} (h:1≤s.size):bidx s 0=some ((bl s).headD 0):=by
 have h':0< (bl s).length :=by rw [vL]; exact h
 have e:=zDR (s:=s) (i:=0) h'
 rw [show ((0:Nat):Int)=0 from rfl] at e
 rw [e]
 have:(bl s)[0]? =some ((bl s).headD 0):=by
  cases hb:bl s with
  |nil=>rw [hb] at h'; simp at h'
  |cons c l=>rfl
 rw [List.getElem?_eq_getElem h'] at this
 exact this
theorem zDD (s:ByteArray) (h:s.size≤12):wX s 0=some (frs (jK (fun _ c=>if zGI c then none else some (5:Int)) 0 (bl s))):=by
 unfold wX
 refine xS (bl s) _ (fun i hi=>?_) ?_
 ·have hs:i<s.size:=by rw [←vL]; exact hi
  unfold kP
  rw [if_pos (by simp; omega),zDR hi]
  simp only [Option.bind_some,zGj]
  rw [yA (by omega)]
  cases zGI (bl s)[i]<;>rfl
 ·unfold kP
  rw [if_neg (by rw [vL]; simp)]
theorem zDT (s:ByteArray) (h:s.size≤12):wV s 0=some (frs (jK (fun _ c=>if zGI c then none else some (5:Int)) 0 (bl s))):=by
 unfold wV
 refine xS (bl s) _ (fun i hi=>?_) ?_
 ·have hs:i<s.size:=by rw [←vL]; exact hi
  unfold kM
  rw [if_pos (by simp; omega),zDR hi]
  simp only [Option.bind_some,zDQ]
  rw [yA (by omega)]
  cases zGI (bl s)[i]<;>rfl
 ·unfold kM
  rw [if_neg (by rw [vL]; simp)]
theorem zBe (s:ByteArray):yV s=some (NF s):=by
 unfold yV NF
 by_cases h1:s.size<1
 ·rw [if_pos (show decide ((s.size:Int)<1)=true by rw [decide_eq_true_eq]; omega),if_pos h1]; rfl
 rw [if_neg (show ¬decide ((s.size:Int)<1)=true by rw [decide_eq_true_eq]; omega),if_neg h1]
 by_cases h2:s.size>12
 ·rw [if_pos (show decide ((s.size:Int)>12)=true by rw [decide_eq_true_eq]; omega),if_pos h2]; rfl
 rw [if_neg (show ¬decide ((s.size:Int)>12)=true by rw [decide_eq_true_eq]; omega),if_neg h2,zGs (by omega),zDD s (by omega)]
 simp only [Option.bind_some,zCG]
 cases h3:zHb ((bl s).headD 0)
 ·rfl
 ·unfold zEf
  cases jK (fun _ c=>if zGI c then none else some (5:Int)) 0 (bl s)<;>rfl
theorem zHq (c:Int):(if decide (c<97)=true then some true else some (decide (c>122)))=some (!(zHb c)):=by
 unfold zHb
 by_cases h3:c<97
 ·rw [if_pos (by rw [decide_eq_true_eq]; exact h3)]
  have:decide (97≤c)=false:=by rw [decide_eq_false_iff_not]; omega
  rw [this]; rfl
 ·rw [if_neg (by rw [decide_eq_true_eq]; exact h3)]
  have:decide (97≤c)=true:=by rw [decide_eq_true_eq]; omega
  rw [this]
  congr 1
  rw [Bool.true_and,Bool.eq_iff_iff]
  simp
theorem zBd (s:ByteArray):yY s=some (NF s):=by
 unfold yY NF
 by_cases h1:s.size<1
 ·rw [if_pos (show decide ((s.size:Int)<1)=true by rw [decide_eq_true_eq]; omega),if_pos h1]; rfl
 rw [if_neg (show ¬decide ((s.size:Int)<1)=true by rw [decide_eq_true_eq]; omega),if_neg h1]
 by_cases h2:s.size>12
 ·rw [if_pos (show decide ((s.size:Int)>12)=true by rw [decide_eq_true_eq]; omega),if_pos h2]; rfl
 rw [if_neg (show ¬decide ((s.size:Int)>12)=true by rw [decide_eq_true_eq]; omega),if_neg h2,zGs (by omega),zDT s (by omega)]
 simp only [Option.bind_some,zHq]
 cases h3:zHb ((bl s).headD 0)
 ·rfl
 ·unfold zEf
  cases jK (fun _ c=>if zGI c then none else some (5:Int)) 0 (bl s)<;>rfl
def VF (v:Version):Int:=if inB v.A 0 999&&inB v.B 0 999&&inB v.C 0 999 then 0 else 3
theorem zBl (v:Version):yH v=some (VF v):=by
 unfold yH VF
 simp only [zDV,Option.bind_some]
 cases inB v.A 0 999<;>cases inB v.B 0 999<;>cases inB v.C 0 999<;>rfl
theorem zBh (v:Version):yJ v=some (VF v):=by
 unfold yJ VF
 simp only [zCF,Option.bind_some]
 cases inB v.A 0 999<;>cases inB v.B 0 999<;>cases inB v.C 0 999<;>rfl
def sgn (a b:Int):Int:=if a<b then-1 else if a>b then 1 else 0
theorem zGu (a b:Int):vF a b=some (sgn a b):=by
 unfold vF sgn
 by_cases h:a<b
 ·simp [h]
 ·by_cases h2:a>b<;>simp [h,h2]
theorem cmp_eq (a b:Int):yI a b=some (sgn a b):=by
 unfold yI wD sgn
 simp only [Option.bind_some,bne_self_eq_false,Bool.false_eq_true,if_false]
 by_cases h:a<b
 ·simp [h]
 ·by_cases h2:a>b<;>simp [h,h2]
def zG1 (a b:Version):Int:=if sgn a.A b.A≠0 then sgn a.A b.A else if sgn a.B b.B≠0 then sgn a.B b.B else sgn a.C b.C
theorem zAU (a b:Version):yG a b=some (zG1 a b):=by
 unfold yG zG1
 simp only [zGu,Option.bind_some]
 by_cases h1:sgn a.A b.A=0
 ·by_cases h2:sgn a.B b.B=0<;>simp [h1,h2]
 ·simp [h1]
theorem zId (l:List Int) (h:l.length≤10):loop (zAx l) 0=some (frs (jK (fun _ c=>if c !=0 then some c else none) 0 l)):=by
 refine xS l _ (fun i hi=>?_) ?_
 ·unfold zAx
  rw [if_pos (by simp; omega),yF hi]
  simp only [Option.bind_some]
  rw [yA (by omega)]
  cases l[i] !=0<;>rfl
 ·unfold zAx
  rw [if_neg (by simp)]
theorem zE6 (a b:Version):zAl a b=some (zG1 a b):=by
 unfold zAl zG1 zAW zAG
 simp only [cmp_eq,Option.bind_some]
 rw [zId _ (by simp),zB0]
 by_cases h1:sgn a.A b.A=0
 ·by_cases h2:sgn a.B b.B=0
  ·by_cases h3:sgn a.C b.C=0<;>simp [h1,h2,h3,jK]
  ·simp [h1,h2,jK]
 ·simp [h1,jK]
def eqV (a b:Version):Bool:=a.A==b.A&&(a.B==b.B&&(a.C==b.C&&true))
theorem zGQ (a b:Version):(zG1 a b==0)=eqV a b:=by
 unfold zG1 eqV sgn
 rw [Bool.eq_iff_iff]
 simp only [beq_iff_eq,Bool.and_eq_true,Bool.and_true]
 constructor
 ·intro h
  split at h<;>omega
 ·intro ⟨h1,h2,h3⟩
  split<;>omega
def zIY:Version:= {A:=1000,B:=0,C:=0}
def TF (t:Term):Int:=if NF t.Name≠0 then NF t.Name else if VF t.Low≠0 then VF t.Low else
 if eqV t.High zIY=false∧VF t.High≠0 then 3 else if zG1 t.Low t.High≥0 then 1 else 0
theorem zDm (t:Term):tN t=some (TF t):=by
 unfold tN TF zAJ
 simp only [zBe,zBl,zAU,Option.bind_some]
 show (if (NF t.Name !=0)=true then some (NF t.Name) else if (VF t.Low !=0)=true then some (VF t.Low) else (if (!(eqV t.High zIY))=true then some (VF t.High !=0) else some false).bind fun v=>if v=true then some 3 else if decide (zG1 t.Low t.High≥0)=true then some 1 else some 0)=_
 generalize NF t.Name=a
 generalize VF t.Low=b
 generalize eqV t.High zIY=c
 generalize VF t.High=d
 generalize zG1 t.Low t.High=e
 by_cases h1:a=0
 ·by_cases h2:b=0
  ·by_cases h4:d=0<;>by_cases h5:e≥0<;>cases c<;>simp [h1,h2,h4,h5]
  ·simp [h1,h2]
 ·simp [h1]
theorem zDe (t:Term):tH t=some (TF t):=by
 unfold tH TF zBr
 simp only [zBd,zBh,zE6,Option.bind_some]
 show (if (NF t.Name !=0)=true then some (NF t.Name) else if (VF t.Low !=0)=true then some (VF t.Low) else (if (!(eqV t.High zIY))=true then some (VF t.High !=0) else some false).bind fun v=>if v=true then some 3 else if decide (zG1 t.Low t.High≥0)=true then some 1 else some 0)=_
 generalize NF t.Name=a
 generalize VF t.Low=b
 generalize eqV t.High zIY=c
 generalize VF t.High=d
 generalize zG1 t.Low t.High=e
 by_cases h1:a=0
 ·by_cases h2:b=0
  ·by_cases h4:d=0<;>by_cases h5:e≥0<;>cases c<;>simp [h1,h2,h4,h5]
  ·simp [h1,h2]
 ·simp [h1]
def tsF (l:List Term):Int:=(jK (fun _ t=>if TF t !=0 then some (TF t) else none) 0 l).getD 0
theorem zCw (l:List Term) (h:l.length≤1048576):wT l=some (tsF l):=by
 have key:=xS l (fun _ t=>if TF t !=0 then some (TF t) else none) (b:=kC l) (by
  intro i hi
  unfold kC
  rw [if_pos (by simp; omega),yF hi]
  simp only [Option.bind_some,zDm]
  rw [yA (by omega)]
  cases TF l[i] !=0<;>rfl) (by
  unfold kC
  rw [if_neg (by simp)])
 unfold wT kS tsF
 rw [key,zB0]
 cases jK (fun _ t=>if TF t !=0 then some (TF t) else none) 0 l<;>rfl
theorem zB3 (l:List Term) (h:l.length≤1048576):xA l=some (tsF l):=by
 have key:=xS l (fun _ t=>if TF t !=0 then some (TF t) else none) (b:=vS l) (by
  intro i hi
  unfold vS
  rw [if_pos (by simp; omega),yF hi]
  simp only [Option.bind_some,zDe]
  rw [yA (by omega)]
  cases TF l[i] !=0<;>rfl) (by
  unfold vS
  rw [if_neg (by simp)])
 unfold xA uW tsF
 rw [key,zB0]
 cases jK (fun _ t=>if TF t !=0 then some (TF t) else none) 0 l<;>rfl
theorem zHk (a b:ByteArray):seq a b=seq b a:=by
 unfold seq
 rw [Bool.eq_iff_iff]
 simp only [beq_iff_eq]
 exact eq_comm
theorem zC7 {α:Type} {xs:List α} {i:Nat} (h:i≤xs.length):zHc xs 0 (i:Int)=some (xs.take i):=by
 have:=zIf (xs:=xs) (l:=0) (h:=i) (by omega) h
 rw [show ((0:Nat):Int)=0 from rfl] at this
 rw [this]
 simp
theorem zFE (l:List ByteArray) (n:ByteArray) (h:l.length≤1048576):kZ l n=some (l.any fun x=>seq x n):=by
 have key:=xS l (fun _ x=>if seq x n then some true else none) (b:=jX l n) (by
  intro i hi
  unfold jX
  rw [if_pos (by simp; omega),yF hi]
  simp only [Option.bind_some]
  rw [yA (by omega)]
  cases seq l[i] n<;>rfl) (by
  unfold jX
  rw [if_neg (by simp)])
 unfold kZ zAj
 rw [key,zB0,←zEB (fun x=>seq x n) l 0]
 cases jK (fun _ x=>if seq x n then some true else none) 0 l<;>rfl
theorem zDS (l:List ByteArray) (n:ByteArray) (h:l.length≤1048576):yL l n=some (l.any fun x=>seq x n):=by
 have key:=xS l (fun i x=>if seq x n then some (i:Int) else none) (b:=xC l n) (by
  intro i hi
  unfold xC
  rw [if_pos (by simp; omega),yF hi]
  simp only [Option.bind_some]
  rw [yA (by omega),zHk n]
  cases seq l[i] n<;>rfl) (by
  unfold xC
  rw [if_neg (by simp)])
 unfold yL xQ xM
 rw [key,zB0]
 rw [←zEh (zBE (fun x=>seq x n) l 0)]
 cases jK (fun j x=>if seq x n then some (j:Int) else none) 0 l<;>rfl
def zFu (p:Pack) (i:Nat) (n:ByteArray):Option Int:=if NF n !=0 then some (NF n) else if seq n p.Name||(p.Provides.take i).any (fun x=>seq x n) then some 6 else none
def zFd (_:Nat) (l:List Term):Option Int:=if (l.length:Int)==0 then some 1 else if tsF l !=0 then some (tsF l) else none
def zIg (p:Pack):Bool:=decide ((p.Provides.length:Int)>4)||(decide ((p.Needs.length:Int)>4)||(decide ((p.Bars.length:Int)>4)||p.Needs.any (fun l=>decide ((l.length:Int)>4))))
def zEr (p:Pack):Int:=match jK (zFu p) 0 p.Provides with
 |some r=>r
 |none=>match jK zFd 0 p.Needs with
  |some r=>r
  |none=>tsF p.Bars
def PF (p:Pack):Int:=if NF p.Name !=0 then NF p.Name else if VF p.Version !=0 then VF p.Version else if !(inB p.Size 1 200) then 3 else if zIg p then 2 else zEr p
theorem zCU (p:Pack) (hp:Pack.sm 1048576 p):((wZ p 0).bind (Fl.go some fun v60=>(wW p 0).bind (Fl.go some fun v80=>(wT p.Bars).bind fun x81=>some x81)))=some (zEr p):=by
 obtain ⟨_,_,_,hpr,hne,hba⟩:=hp
 have k2:=xS p.Provides (zFu p) (b:=uK p) (by
  intro i hi
  unfold uK zFu
  rw [if_pos (by simp; omega),yF hi]
  simp only [Option.bind_some,zBe]
  rw [zC7 (by omega)]
  simp only [Option.bind_some]
  rw [zFE _ _ (by simp; omega),yA (by omega)]
  simp only [Option.bind_some]
  cases NF p.Provides[i] !=0<;>cases seq p.Provides[i] p.Name<;>cases (p.Provides.take i).any (fun x=>seq x p.Provides[i])<;>rfl) (by
  unfold uK
  rw [if_neg (by simp)])
 have k3:=xS p.Needs zFd (b:=uL p) (by
  intro i hi
  unfold uL zFd
  rw [if_pos (by simp; omega),yF hi]
  simp only [Option.bind_some]
  rw [zCw _ (hne.2 _ (List.getElem_mem hi)).1,yA (by omega)]
  simp only [Option.bind_some]
  cases (p.Needs[i].length :Int)==0<;>cases tsF p.Needs[i] !=0<;>rfl) (by
  unfold uL
  rw [if_neg (by simp)])
 unfold wZ wW zEr
 rw [k2,k3,zCw _ hba.1]
 cases jK (zFu p) 0 p.Provides<;>cases jK zFd 0 p.Needs<;>rfl
theorem zC0 (p:Pack) (hp:Pack.sm 1048576 p):((wY p 0).bind (Fl.go some fun v46=>(vC p 0).bind (Fl.go some fun v62=>(xA p.Bars).bind fun x63=>some x63)))=some (zEr p):=by
 obtain ⟨_,_,_,hpr,hne,hba⟩:=hp
 have k2:=xS p.Provides (zFu p) (b:=uH p) (by
  intro i hi
  unfold uH zFu
  rw [if_pos (by simp; omega),yF hi]
  simp only [Option.bind_some,zBd]
  rw [zC7 (by omega)]
  simp only [Option.bind_some]
  rw [zDS _ _ (by simp; omega),yA (by omega)]
  simp only [Option.bind_some]
  cases NF p.Provides[i] !=0<;>cases seq p.Provides[i] p.Name<;>cases (p.Provides.take i).any (fun x=>seq x p.Provides[i])<;>rfl) (by
  unfold uH
  rw [if_neg (by simp)])
 have k3:=xS p.Needs zFd (b:=uN p) (by
  intro i hi
  unfold uN zFd
  rw [if_pos (by simp; omega),yF hi]
  simp only [Option.bind_some]
  rw [zB3 _ (hne.2 _ (List.getElem_mem hi)).1,yA (by omega)]
  simp only [Option.bind_some]
  cases (p.Needs[i].length :Int)==0<;>cases tsF p.Needs[i] !=0<;>rfl) (by
  unfold uN
  rw [if_neg (by simp)])
 unfold wY vC zEr
 rw [k2,k3,zB3 _ hba.1]
 cases jK (zFu p) 0 p.Provides<;>cases jK zFd 0 p.Needs<;>rfl
theorem zD2 {α R:Type} (p:α→Bool) (r:R):∀(xs:List α) (i:Nat),jK (fun _ x=>if p x then some r else none) i xs=if xs.any p then some r else none
 |[],i=>rfl
 |x::xs,i=>by
  simp only [jK]
  cases h:p x
  ·simp only [Bool.false_eq_true,if_false,List.any_cons,h,Bool.false_or]
   exact zD2 p r xs (i+1)
  ·simp [h]
theorem zDp (p:Pack) (hp:Pack.sm 1048576 p):uY p=some (PF p):=by
 have hl:=zCU p hp
 obtain ⟨_,_,_,hpr,hne,hba⟩:=hp
 have k1:=xS p.Needs (fun _ l=>if decide ((l.length:Int)>4) then some (2:Int) else none) (b:=uQ p) (by
  intro i hi
  unfold uQ
  rw [if_pos (by simp; omega),yF hi]
  simp only [Option.bind_some]
  rw [yA (by omega)]
  cases decide ((p.Needs[i].length :Int)>4)<;>rfl) (by
  unfold uQ
  rw [if_neg (by simp)])
 rw [zD2] at k1
 unfold uY PF zIg
 simp only [zBe,zBl,zDV,Option.bind_some]
 rw [hl]
 unfold tZ
 rw [k1]
 cases NF p.Name !=0<;>cases VF p.Version !=0<;>cases inB p.Size 1 200<;>cases decide ((p.Provides.length:Int)>4)<;>cases decide ((p.Needs.length:Int)>4)<;>cases decide ((p.Bars.length:Int)>4)<;>cases p.Needs.any (fun l=>decide ((l.length:Int)>4))<;>rfl
theorem zHx (l:List Int) (h:l.length≤10):loop (uU l) 0=some (frs (jK (fun _ c=>if c !=0 then some c else none) 0 l)):=by
 refine xS l _ (fun i hi=>?_) ?_
 ·unfold uU
  rw [if_pos (by simp; omega),yF hi]
  simp only [Option.bind_some]
  rw [yA (by omega)]
  cases l[i] !=0<;>rfl
 ·unfold uU
  rw [if_neg (by simp)]
theorem zDh (p:Pack) (hp:Pack.sm 1048576 p):tC p=some (PF p):=by
 have hl:=zC0 p hp
 obtain ⟨_,_,_,hpr,hne,hba⟩:=hp
 have k1:=xS p.Needs (fun i l=>if decide ((l.length:Int)>4) then some (i:Int) else none) (b:=zP p.Needs) (by
  intro i hi
  unfold zP vW
  rw [if_pos (by simp; omega),yF hi]
  simp only [Option.bind_some]
  rw [yA (by omega)]
  cases decide ((p.Needs[i].length :Int)>4)<;>rfl) (by
  unfold zP
  rw [if_neg (by simp)])
 have k2:zI p.Needs=some (p.Needs.any (fun l=>decide ((l.length:Int)>4))):=by
  unfold zI zN zQ
  rw [k1,zB0,←zEh (zBE (fun l:List Term=>decide ((l.length:Int)>4)) p.Needs 0)]
  cases jK (fun j (x:List Term)=>if decide ((x.length:Int)>4) then some (j:Int) else none) 0 p.Needs<;>rfl
 have k3:uX [NF p.Name,VF p.Version]=some (if NF p.Name !=0 then NF p.Name else VF p.Version):=by
  have k:=zHx [NF p.Name,VF p.Version] (by simp)
  unfold uX jF
  rw [k,zB0]
  simp only [jK]
  cases hn:NF p.Name !=0
  ·cases hv:VF p.Version !=0
   ·have:VF p.Version=0:=by simpa using hv
    simp [this]
   ·rfl
  ·rfl
 unfold tC PF zIg
 simp only [zBd,zBh,zCF,Option.bind_some]
 rw [hl,k2,k3]
 simp only [Option.bind_some]
 cases hn:NF p.Name !=0
 ·simp only [Bool.false_eq_true,if_false]
  cases VF p.Version !=0<;>cases inB p.Size 1 200<;>cases decide ((p.Provides.length:Int)>4)<;>cases decide ((p.Needs.length:Int)>4)<;>cases decide ((p.Bars.length:Int)>4)<;>cases p.Needs.any (fun l=>decide ((l.length:Int)>4))<;>rfl
 ·simp only [if_true,hn]
def isB (n:ByteArray) (v:Version) (q:Pack):Bool:=seq q.Name n&&eqV q.Version v
def zG4 (c:List Pack) (n:ByteArray) (v:Version):Int:=(jK (fun i q=>if isB n v q then some (i:Int) else none) 0 c).getD (-1)
theorem zEq (c:List Pack) (n:ByteArray) (v:Version):decide (zG4 c n v≥0)=c.any (isB n v):=zEh (zBE (isB n v) c 0)
theorem zFX (c:List Pack) (n:ByteArray) (v:Version) (h:c.length≤1048576):zAg c n v=some (zG4 c n v):=by
 have key:=xS c (fun i q=>if isB n v q then some (i:Int) else none) (b:=zAf c n v) (by
  intro i hi
  unfold zAf isB
  rw [if_pos (by simp; omega),yF hi]
  simp only [Option.bind_some,zAU,zGQ]
  rw [yA (by omega)]
  cases seq c[i].Name n<;>cases eqV c[i].Version v<;>rfl) (by
  unfold zAf
  rw [if_neg (by simp)])
 unfold zG4
 unfold zAg zAw
 rw [key,zB0]
 cases jK (fun i q=>if isB n v q then some (i:Int) else none) 0 c<;>rfl
theorem zFS (c:List Pack) (n:ByteArray) (v:Version) (h:c.length≤1048576):zAL c n v=some (zG4 c n v):=by
 have key:=xS c (fun i q=>if isB n v q then some (i:Int) else none) (b:=zV c n v) (by
  intro i hi
  unfold zV isB zAK
  rw [if_pos (by simp; omega),yF hi]
  simp only [Option.bind_some]
  rw [yA (by omega)]
  show (Option.bind (if seq c[i].Name n=true then some (eqV c[i].Version v) else some false) _)=_
  cases seq c[i].Name n<;>cases eqV c[i].Version v<;>rfl) (by
  unfold zV
  rw [if_neg (by simp)])
 unfold zG4
 unfold zAL zS zW
 rw [key,zB0]
 cases jK (fun i q=>if isB n v q then some (i:Int) else none) 0 c<;>rfl
theorem find_spec (c:List Pack) (n:ByteArray) (v:Version) (h:c.length≤1048576):∃k,zAg c n v=some k∧decide (k≥0)=c.any (isB n v):=⟨_,zFX c n v h,zEq c n v⟩
theorem zG6 (c:List Pack) (n:ByteArray) (v:Version) (h:c.length≤1048576):∃k,zAL c n v=some k∧decide (k≥0)=c.any (isB n v):=⟨_,zFS c n v h,zEq c n v⟩
def zIn (c:List Pack) (i:Nat) (p:Pack):Option Int:=if PF p !=0 then some (PF p) else if (c.take i).any (isB p.Name p.Version) then some 6 else none
def CF (c:List Pack):Int:=if decide ((c.length:Int)>24) then 2 else (jK (zIn c) 0 c).getD 0
theorem zCn (c:List Pack) (hc:c.length≤1048576∧∀y0∈c,Pack.sm 1048576 y0):xY c=some (CF c):=by
 have key:=xS c (zIn c) (b:=wE c) (by
  intro i hi
  unfold wE zIn
  rw [if_pos (by simp; omega),yF hi]
  simp only [Option.bind_some]
  rw [zDp _ (hc.2 _ (List.getElem_mem hi)),zC7 (by omega)]
  simp only [Option.bind_some]
  obtain ⟨k,e,hk⟩:=find_spec (c.take i) c[i].Name c[i].Version (by simp; omega)
  rw [e,yA (by omega)]
  simp only [Option.bind_some]
  rw [hk]
  cases PF c[i] !=0<;>cases (c.take i).any (isB c[i].Name c[i].Version)<;>rfl) (by
  unfold wE
  rw [if_neg (by simp)])
 unfold xY CF wO
 rw [key,zB0]
 cases decide ((c.length:Int)>24)<;>cases jK (zIn c) 0 c<;>rfl
theorem zCo (c:List Pack) (hc:c.length≤1048576∧∀y0∈c,Pack.sm 1048576 y0):xX c=some (CF c):=by
 have key:=xS c (zIn c) (b:=wC c) (by
  intro i hi
  unfold wC zIn
  rw [if_pos (by simp; omega),yF hi]
  simp only [Option.bind_some]
  rw [zDh _ (hc.2 _ (List.getElem_mem hi)),zC7 (by omega)]
  simp only [Option.bind_some]
  obtain ⟨k,e,hk⟩:=zG6 (c.take i) c[i].Name c[i].Version (by simp; omega)
  rw [e,yA (by omega)]
  simp only [Option.bind_some]
  rw [hk]
  cases PF c[i] !=0<;>cases (c.take i).any (isB c[i].Name c[i].Version)<;>rfl) (by
  unfold wC
  rw [if_neg (by simp)])
 unfold xX CF wR
 rw [key,zB0]
 cases decide ((c.length:Int)>24)<;>cases jK (zIn c) 0 c<;>rfl
def Cat (c:List Pack):Prop:=c.length≤1048576∧∀y0∈c,Pack.sm 1048576 y0
theorem zF5:∀(k n:Nat),n<10^(k+1)→zCy (10^(k+1)+n)=49::(List.replicate (k+1-(zCy n).length) 48++zCy n)
 |0,n,h=>by
  have h':n<10:=by simpa using h
  rw [zBt (by simp),show (10^(0+1)+n) / 10=1 by simp; omega,show (10^(0+1)+n)%10=n by simp; omega,zAr (n:=1) (by omega),zAr h']
  rfl
 |k+1,n,h=>by
  have hp:1≤10^k:=Nat.one_le_pow _ _ (by omega)
  have e1:10^(k+1+1)=10*10^(k+1):=by rw [Nat.pow_succ]; omega
  rw [e1] at h
  have hq:n / 10<10^(k+1):=by omega
  have ih:=zF5 k (n / 10) hq
  have hl:=zDE k (n / 10) hq
  rw [e1,zBt (by omega),show (10*10^(k+1)+n) / 10=10^(k+1)+n / 10 by omega,show (10*10^(k+1)+n)%10=n%10 by omega,ih]
  by_cases hn:n<10
  ·rw [show n / 10=0 by omega,zAr (n:=0) (by omega),zAr hn,show n%10=n by omega]
   simp only [List.length_singleton,List.cons_append,List.append_assoc,List.nil_append]
   rw [show k+1+1-1=k+1 by omega,show k+1-1=k by omega]
   rw [show List.replicate (k+1) (48:Int)=List.replicate k 48++[48] from List.replicate_succ']
   simp
  ·rw [zBt hn,List.length_append]
   simp only [List.length_singleton,List.cons_append,List.append_assoc]
   rw [show k+1+1-((zCy (n / 10)).length +1)=k+1-(zCy (n / 10)).length by omega]
theorem zIP (l:List UInt8):bl ⟨l.toArray⟩=l.map (fun b=>(b.toNat:Int)):=by
 unfold bl
 rw [ByteArray.toList_eq]
theorem zD8 (u:UInt8):∀(n:Nat),Lib.repeatL [u] n=List.replicate n u
 |0=>rfl
 |n+1=>by rw [Lib.repeatL,zD8 u n,List.replicate_succ]; rfl
def zJm (n:Int):List Int:=[103,101,110,47]++(List.replicate (6-(zCy n.toNat).length) 48++zCy n.toNat)
theorem zGW (l:List UInt8):(bs l).data.toList =l:=rfl
def zH8 (n:Int):ByteArray:=bs [103,101,110,47]++(⟨(List.replicate (6-(zCy n.toNat).length) (48:UInt8)).toArray⟩++zGf n.toNat)
theorem zDG (n:Int):bl (zH8 n)=zJm n:=by
 unfold zH8 zJm
 rw [zBi,zBi,zHy,zIP,zCl,List.map_replicate]
 rfl
theorem zDP {n:Nat} (h:n≤999999):1≤(zCy n).length ∧(zCy n).length ≤6:=by
 refine ⟨?_,zDE 5 n (by omega)⟩
 by_cases hn:n<10
 ·rw [zAr hn]; simp
 ·rw [zBt hn,List.length_append]; simp
theorem zGV {n:Int} (h:n≤999999):(zH8 n).size =10:=by
 rw [←vL,zDG]
 unfold zJm
 have:=zDP (n:=n.toNat) (by omega)
 simp
 omega
theorem zIl {s:ByteArray} {l h:Nat} (h1:l≤h) (h2:h≤s.size):zIv s (l:Int) (h:Int)=some (s.extract l h):=by
 unfold zIv
 rw [if_pos (by omega)]
 rfl
theorem zEz {n:Int} (h0:0≤n) (h1:n≤999999):zAe n=some (zH8 n):=by
 have hd:=zDP (n:=n.toNat) (by omega)
 have hs:(zGf n.toNat).size =(zCy n.toNat).length :=by rw [←vL,zCl]
 have hf:=zEI n.toNat (by omega)
 rw [Int.toNat_of_nonneg h0] at hf
 have h4:(bs [103,101,110,47]).size =4:=rfl
 unfold zAe zBC
 rw [hf]
 simp only [Option.bind_some]
 rw [hs,yR (by omega) (by omega)]
 unfold strings_Repeat
 rw [if_pos ⟨by omega,by omega,by rw [show (bs [48]).size =1 from rfl]; omega⟩,zGW,zD8]
 simp only [Option.bind_some]
 have hr:(⟨(List.replicate (6-((zCy n.toNat).length :Int)).toNat (48:UInt8)).toArray⟩:ByteArray).size =6-(zCy n.toNat).length :=by
  rw [←vL,zIP]
  simp
 rw [zGO (by rw [hr]; omega)]
 simp only [Option.bind_some]
 rw [zGO (by rw [zIt,hr]; omega)]
 unfold zH8
 rw [show (6-((zCy n.toNat).length :Int)).toNat =6-(zCy n.toNat).length by omega]
 simp only [Option.bind_some,zHf]
theorem zEJ (n:Int):zAb n=some (if inB n 1 999999 then zH8 n else bs []):=by
 unfold zAb
 rw [zDV]
 simp only [Option.bind_some]
 cases h:inB n 1 999999
 ·rfl
 have h':1≤n∧n≤999999:=by simpa [inB] using h
 rw [if_neg (by simp),yR (by omega) (by omega)]
 have e:=zE1 (1000000+n.toNat) (by omega)
 rw [show ((1000000+n.toNat:Nat):Int)=1000000+n by omega] at e
 rw [e]
 simp only [Option.bind_some]
 have hp:=zF5 5 n.toNat (by omega)
 rw [show 10^(5+1)+n.toNat=1000000+n.toNat by omega] at hp
 have hd:=zDP (n:=n.toNat) (by omega)
 have hz:(zGf (1000000+n.toNat)).size =7:=by
  rw [←vL,zCl,hp]
  simp
  omega
 have e2:=zIl (s:=zGf (1000000+n.toNat)) (l:=1) (h:=(zGf (1000000+n.toNat)).size) (by omega) (Nat.le_refl _)
 rw [show ((1:Nat):Int)=1 from rfl] at e2
 rw [e2]
 simp only [Option.bind_some]
 have hx:((zGf (1000000+n.toNat)).extract 1 (zGf (1000000+n.toNat)).size).size =6:=by
  rw [←vL,zDu,zCl,hp,hz]
  simp
  omega
 rw [zGO (by rw [hx]; decide)]
 simp only [Option.bind_some,if_true]
 congr 1
 refine zGh.1 ?_
 rw [zBi,zDu,zCl,hp,zDG,zHy,hz]
 unfold zJm
 rw [List.take_of_length_le (by simp; omega)]
 rfl
theorem zFq {a1:List Pack} {s46:List Pack×Int} {x48:Pack} {x50:List ByteArray} {p:Pack} (hp:idx a1 s46.2=some p) (hn:p.Needs.length≤1048576) (hl:∀l∈p.Needs,l.length≤1048576):
  jZ a1 s46 x48 x50 ([],0)=some p.Needs:=by
 obtain ⟨t,e,rfl⟩:=zBx (b:=jB a1 s46 x48 x50) (fun i s=>s=(p.Needs.take i,(i:Int))) p.Needs.length (fun t=>t=p.Needs) (by
  rintro i s hi rfl
  have hlen:(p.Needs.take i).length =i:=by simp; omega
  have hd:=hl _ (List.getElem_mem hi)
  have ha:app 64 ([]:List Term) p.Needs[i]=some p.Needs[i]:=zB8 (by simp; omega) (by simp; omega)
  have hb:app 24 (p.Needs.take i) [p.Needs[i]]=some (p.Needs.take i++[p.Needs[i]]):=zB8 (by simp; omega) (by simp; omega)
  unfold jB
  simp only [hp,Option.bind_some]
  rw [if_pos (by simp; omega)]
  simp only [yF hi,Option.bind_some,ha,hb,yA (show i<9223372036854775807 by omega)]
  exact .inl ⟨_,rfl,by rw [List.take_succ_eq_append_getElem hi]⟩) (by
  rintro s rfl
  unfold jB
  simp only [hp,Option.bind_some]
  rw [if_neg (by simp)]
  exact ⟨_,rfl,by simp⟩) p.Needs.length 0 ([],0) (by omega) (by simp)
 exact e
theorem zEo {a1:List Pack} {s27:List Pack×Int} {p:Pack} {x31:List ByteArray} {x33:List Term} (hn:p.Needs.length≤1048576) (hl:∀l∈p.Needs,l.length≤1048576):
  vK a1 s27 p x31 x33 ([],0)=some p.Needs:=by
 obtain ⟨t,e,rfl⟩:=zBx (b:=wN a1 s27 p x31 x33) (fun i s=>s=(p.Needs.take i,(i:Int))) p.Needs.length (fun t=>t=p.Needs) (by
  rintro i s hi rfl
  have hlen:(p.Needs.take i).length =i:=by simp; omega
  have hd:=hl _ (List.getElem_mem hi)
  have ha:zX p.Needs[i]=some p.Needs[i]:=by
   unfold zX
   rw [zB8 (by simp; omega) (by simp; omega)]
   rfl
  have hb:app 24 (p.Needs.take i) [p.Needs[i]]=some (p.Needs.take i++[p.Needs[i]]):=zB8 (by simp; omega) (by simp; omega)
  unfold wN
  rw [if_pos (by simp; omega)]
  simp only [yF hi,Option.bind_some,ha,hb,yA (show i<9223372036854775807 by omega)]
  exact .inl ⟨_,rfl,by rw [List.take_succ_eq_append_getElem hi]⟩) (by
  rintro s rfl
  unfold wN
  rw [if_neg (by simp)]
  exact ⟨_,rfl,by simp⟩) p.Needs.length 0 ([],0) (by omega) (by simp)
 exact e
theorem zFt {c:List Pack} (hc:Cat c):wS c=some c:=by
 obtain ⟨h1,h2⟩:=hc
 obtain ⟨t,e,rfl⟩:=zBx (b:=jE c) (fun i s=>s=(c.take i,(i:Int))) c.length (fun t=>t=c) (by
  rintro i s hi rfl
  have hlen:(c.take i).length =i:=by simp; omega
  have hd:=h2 _ (List.getElem_mem hi)
  have hp:=hd.2.2.2.1.1
  have hn:=hd.2.2.2.2.1.1
  have hb:=hd.2.2.2.2.2.1
  have ha:app 16 ([]:List ByteArray) c[i].Provides =some c[i].Provides :=zB8 (by simp; omega) (by simp; omega)
  have hb2:app 64 ([]:List Term) c[i].Bars =some c[i].Bars :=zB8 (by simp; omega) (by simp; omega)
  have hq:∀p:Pack,app 120 (c.take i) [p]=some (c.take i++[p]):=fun p=>zB8 (by simp; omega) (by simp; omega)
  unfold jE
  rw [if_pos (by simp; omega)]
  simp only [yF hi,Option.bind_some,ha]
  rw [zFq (p:=c[i]) (by exact yF hi) hn (fun l hl=>(hd.2.2.2.2.1.2 l hl).1)]
  simp only [Option.bind_some,hb2,hq,yA (show i<9223372036854775807 by omega)]
  exact .inl ⟨_,rfl,by rw [List.take_succ_eq_append_getElem hi]⟩) (by
  rintro s rfl
  unfold jE
  rw [if_neg (by simp)]
  exact ⟨_,rfl,by simp⟩) c.length 0 ([],0) (by omega) (by simp)
 simp only [wS,kF,e,Option.bind_some]
theorem zDj {c:List Pack} (hc:Cat c):wI c=some c:=by
 obtain ⟨h1,h2⟩:=hc
 obtain ⟨t,e,rfl⟩:=zBx (b:=wP c) (fun i s=>s=(c.take i,(i:Int))) c.length (fun t=>t=c) (by
  rintro i s hi rfl
  have hlen:(c.take i).length =i:=by simp; omega
  have hd:=h2 _ (List.getElem_mem hi)
  have hp:=hd.2.2.2.1.1
  have hn:=hd.2.2.2.2.1.1
  have hb:=hd.2.2.2.2.2.1
  have ha:yT c[i].Provides =some c[i].Provides :=by
   unfold yT
   rw [zB8 (by simp; omega) (by simp; omega)]
   rfl
  have hb2:zX c[i].Bars =some c[i].Bars :=by
   unfold zX
   rw [zB8 (by simp; omega) (by simp; omega)]
   rfl
  have hq:∀p:Pack,app 120 (c.take i) [p]=some (c.take i++[p]):=fun p=>zB8 (by simp; omega) (by simp; omega)
  unfold wP
  rw [if_pos (by simp; omega)]
  simp only [yF hi,Option.bind_some,ha,hb2]
  rw [zEo hn (fun l hl=>(hd.2.2.2.2.1.2 l hl).1)]
  simp only [Option.bind_some,hq,yA (show i<9223372036854775807 by omega)]
  exact .inl ⟨_,rfl,by rw [List.take_succ_eq_append_getElem hi]⟩) (by
  rintro s rfl
  unfold wP
  rw [if_neg (by simp)]
  exact ⟨_,rfl,by simp⟩) c.length 0 ([],0) (by omega) (by simp)
 simp only [wI,vR,e,Option.bind_some]
theorem zEg {fs:List File} {bu wr st:Int} {dn:Bool} {p:ByteArray} {x:List Int} (hl:fs.length≤100) (hs:fs.Pairwise (fun f g=>slt f.Path g.Path=true)) (h:∀f∈fs,slt f.Path p=true) (hx:x.length≤100):
  yO {Files:=fs,Budget:=bu,Writes:=wr,Stop:=st,Down:=dn} p x=some {Files:=fs++[{Path:=p,Data:=x}],Budget:=bu,Writes:=wr,Stop:=st,Down:=dn}:=by
 obtain ⟨k,b,e,hk,h1,h2⟩:=zFP fs p (by omega)
 obtain ⟨g1,g2,g3⟩:=h2 hs
 have hb:b=false:=by
  cases b with
  |false=>rfl
  |true=>
   obtain ⟨hk',hp⟩:=h1 rfl
   have:=h _ (List.getElem_mem hk')
   rw [hp,zCi] at this
   cases this
 subst hb
 have hke:k=fs.length:=by
  rcases Nat.lt_or_ge k fs.length with hlt|hge
  ·have a:=h _ (List.getElem_mem hlt)
   have b:=g2 k hlt (Nat.le_refl _)
   rw [a] at b
   cases b
  ·omega
 subst hke
 have hcl:xL x=some x:=by
  unfold xL
  rw [zB8 (by simp; omega) (by simp; omega)]
  rfl
 unfold yO tY
 simp only [e,Option.bind_some,Bool.not_false,if_true]
 unfold xV
 rw [if_pos ⟨by omega,by omega,by simp,by simp; omega⟩]
 simp only [Option.bind_some,hcl,Int.toNat_natCast,List.take_length,List.drop_length,List.append_nil]
 rw [vB]
 simp only [Option.bind_some]
 rw [List.set_append_right _ _ (by omega)]
 simp
theorem zFo:slt (bs [99,117,114]) (zH8 1)=true:=by
 rw [zEE,zDG,zHy]
 rfl
theorem zE2:slt (zH8 1) (bs [114,111,111,116,115])=true:=by
 rw [zEE,zDG,zHy]
 rfl
def zJ3 (n:Int):zC:= {Files:=[{Path:=bs [99,117,114],Data:=[49]},{Path:=zH8 1,Data:=[]},{Path:=bs [114,111,111,116,115],Data:=[]}],Budget:=n,Writes:=0,Stop:= -1,Down:=false}
def zCM (n:Int):zZ:=if inB n 0 20000 then (if n=0 then zHp 8 else {Code:=0,zC:=zJ3 n}) else zHp 3
theorem zDc (n:Int):jV n=some (zCM n)∧jO n=some (zCM n):=by
 unfold jV jO kK zCM
 rw [zDV,zCF]
 simp only [Option.bind_some]
 cases hb:inB n 0 20000
 ·exact ⟨rfl,rfl⟩
 ·simp only [Bool.not_true,Bool.false_eq_true,if_false,if_true,Option.bind_some,bne_self_eq_false]
  by_cases h0:n=0
  ·subst h0
   exact ⟨rfl,rfl⟩
  ·have h0':(n==0)=false:=by simpa using h0
   have hg:inB 1 1 999999=true:=by decide
   rw [h0',if_neg h0,zEJ,zEz (by omega) (by omega),hg]
   simp only [Bool.false_eq_true,if_false,if_true,Option.bind_some]
   refine ⟨rfl,?_⟩
   have hs:=zCH zFo zE2
   rw [zEg (by simp) (by simp) (by simp) (by simp)]
   simp only [Option.bind_some,List.nil_append]
   rw [zEg (by simp) (by simp) (by simpa using zFo) (by simp)]
   simp only [Option.bind_some,List.cons_append,List.nil_append]
   rw [zEg (by simp) (by simpa using zFo) (by simpa using ⟨hs,zE2⟩) (by simp)]
   rfl
theorem zGC (n:Int):zC.sm 1049600 (zCM n).zC :=by
 have hz:∀c:Int,zC.sm 1049600 (zHp c).zC :=fun c=>by simp [zC.sm,zHp]
 unfold zCM
 split
 ·split
  ·exact hz 8
  ·refine ⟨⟨by simp [zJ3],fun f hf=>?_⟩,trivial,trivial,trivial,trivial⟩
   have hg:=zGV (n:=1) (by omega)
   simp only [zJ3,List.mem_cons,List.not_mem_nil,or_false] at hf
   rcases hf with rfl|rfl|rfl
   ·exact ⟨by decide,by simp,fun _ _=>trivial⟩
   ·exact ⟨by simp only; omega,by simp,fun _ _=>trivial⟩
   ·exact ⟨by decide,by simp,fun _ _=>trivial⟩
 ·exact hz 3
theorem zDs (a1:(List Pack)) (a2:Int) (k0:a1.length≤maxLen∧∀y1∈a1,Pack.ok y1) (k1:IntKind.i64.min≤a2∧a2≤IntKind.i64.max) (s0:(a1.length≤1048576∧∀y0∈a1,Pack.sm 1048576 y0)) (s1:(True)):∃r,wU a1 a2=some r∧xG a1 a2=some r∧(zD.sm 1049600 r):=by
 have hz:∀q:Int,zD.sm 1049600 {Code:=q,Choices:=0,System:= {Catalog:=[],zC:= {Files:=[],Budget:=0,Writes:=0,Stop:=0,Down:=false}}}:=fun q=>by simp [zD.sm,System.sm,zC.sm]
 have hs:a1.length≤1049600∧∀y0∈a1,Pack.sm 1049600 y0:=⟨Nat.le_trans s0.1 (by decide),fun y0 z0=>Pack.zBs (s0.2 y0 z0)⟩
 unfold wU xG zAq
 rw [zCn a1 s0,zCo a1 s0,(zDc a2).1,(zDc a2).2,zFt s0,zDj s0]
 simp only [Option.bind_some]
 have hd:=zGC a2
 cases h0:CF a1 !=0
 ·simp only [Bool.false_eq_true,if_false]
  cases h1:(zCM a2).Code !=0
  ·have h2:(zCM a2).Code =0:=by simpa using h1
   simp only [Bool.false_eq_true,if_false,Option.bind_some]
   rw [h2]
   exact ⟨_,rfl,rfl,trivial,trivial,hs,hd⟩
  ·simp only [if_true]
   exact ⟨_,rfl,rfl,hz _⟩
 ·simp only [if_true]
  exact ⟨_,rfl,rfl,hz _⟩
theorem zBI (a1:(List Pack)) (a2:Int) (k0:a1.length≤maxLen∧∀y1∈a1,Pack.ok y1) (k1:IntKind.i64.min≤a2∧a2≤IntKind.i64.max):yP a1 a2=some true:=zB4 a1 a2 k0 k1 (zDs a1 a2 k0 k1)
end Go.Told

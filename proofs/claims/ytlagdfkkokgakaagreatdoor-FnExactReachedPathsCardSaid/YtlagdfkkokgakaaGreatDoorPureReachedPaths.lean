import Derived.Test.YtlagdfkkokgakaaGreatDoorToldReachedPaths
set_option linter.unusedVariables false
set_option maxRecDepth 4000
namespace Go.Told
open Go Go.Im
theorem zFt {S T:Type} {b b':S→Option (Lp S T)} (h:∀s,b s=b' s):loop b=loop b':=by
 have:b=b':=funext h
 rw [this]
theorem xU {x:Int} (h1: -9223372036854775808≤x) (h2:x≤9223372036854775807):w64 x=x:=by
 unfold w64
 rw [IntKind.wrap_i64]
 omega
theorem zP {i:Nat} (h:i<9223372036854775807):w64 ((i:Int)+1)=((i+1:Nat):Int):=by
 rw [xU (by omega) (by omega)]; omega
theorem tF {T:Type} {S:Type} {b:S→Option (Lp S T)} (I:Nat→S→Prop) (n:Nat) (Q:T→Prop) (hstep:∀i s,i<n→I i s→(∃s',b s=some (.go s')∧I (i+1) s')∨∃t,b s=some (.done t)∧Q t)
  (hend:∀s,I n s→∃t,b s=some (.done t)∧Q t):∀(k i:Nat) (s:S),i+k=n→I i s→∃t,loop b s=some t∧Q t
 |0,i,s,hk,hI=>by
  obtain ⟨t,h1,h2⟩:=hend s (by rw [show n=i by omega]; exact hI)
  exact ⟨t,by rw [vN,h1]; rfl,h2⟩
 |k+1,i,s,hk,hI=>by
  rcases hstep i s (by omega) hI with ⟨s',h1,h2⟩|⟨t,h1,h2⟩
  ·obtain ⟨t,h3,h4⟩:=tF I n Q hstep hend k (i+1) s' (by omega) h2
   exact ⟨t,by rw [vN,h1]; exact h3,h4⟩
  ·exact ⟨t,by rw [vN,h1]; rfl,h2⟩
theorem zM {α:Type} {xs:List α} {i:Nat} (h:i<xs.length):idx xs (i:Int)=some xs[i]:=by
 unfold idx
 rw [if_pos (by omega)]
 simp [h]
theorem zCB {α:Type} (l r:List α) (x:α):idx (l++x::r) (l.length:Int)=some x:=by
 rw [zM (by simp)]
 simp
def goL {α A T:Type} (g:Nat→A→α→Lp A T) (fin:A→T):Nat→List α→A→T
 |_,[],a=>fin a
 |i,x::xs,a=>match g i a x with
  | .go a'=>goL g fin (i+1) xs a'
  | .done t=>t
theorem zJU {α A S T:Type} (xs:List α) (g:Nat→A→α→Lp A T) (fin:A→T) (e:Nat→A→S) (I:Nat→A→Prop) {b:S→Option (Lp S T)}
  (hstep:∀(i:Nat) (a:A) (hi:i<xs.length),I i a→b (e i a)=some (match g i a xs[i] with| .go a'=>.go (e (i+1) a')| .done t=>.done t)∧∀a',g i a xs[i]= .go a'→I (i+1) a')
  (hend:∀a,I xs.length a→b (e xs.length a)=some (.done (fin a))):∀(k i:Nat) (a:A),i+k=xs.length→I i a→loop b (e i a)=some (goL g fin i (xs.drop i) a)
 |0,i,a,hk,hI=>by
  have:i=xs.length:=by omega
  subst this
  rw [vN,hend a hI,List.drop_length]; rfl
 |k+1,i,a,hk,hI=>by
  have hi:i<xs.length:=by omega
  obtain ⟨h1,h2⟩:=hstep i a hi hI
  rw [vN,h1,List.drop_eq_getElem_cons hi]
  simp only [goL]
  cases hg:g i a xs[i] with
  |go a'=>
   simp only [Option.bind_some,Lp.elim]
   exact zJU xs g fin e I hstep hend k (i+1) a' (by omega) (h2 a' hg)
  |done t=>rfl
theorem zIC {α A S T:Type} (xs:List α) (g:Nat→A→α→Lp A T) (fin:A→T) (e:Nat→A→S) (I:Nat→A→Prop) {b:S→Option (Lp S T)} (a0:A)
  (hstep:∀(i:Nat) (a:A) (hi:i<xs.length),I i a→b (e i a)=some (match g i a xs[i] with| .go a'=>.go (e (i+1) a')| .done t=>.done t)∧∀a',g i a xs[i]= .go a'→I (i+1) a')
  (hend:∀a,I xs.length a→b (e xs.length a)=some (.done (fin a))) (h0:I 0 a0):loop b (e 0 a0)=some (goL g fin 0 xs a0):=by
 have:=zJU xs g fin e I hstep hend xs.length 0 a0 (by omega) h0
 simpa using this
theorem zEB {α:Type} (xs:List α) {b:(List α×Int)→Option (Lp (List α×Int) (List α))} (hstep:∀(ys:List α) (i:Nat) (hi:i<xs.length),ys.length=xs.length→b (ys,(i:Int))=some (.go (ys.set i xs[i],((i+1:Nat):Int))))
  (hend:∀ys:List α,ys.length=xs.length→b (ys,(xs.length:Int))=some (.done ys)) (y0:List α) (h0:y0.length=xs.length):loop b (y0,0)=some xs:=by
 obtain ⟨t,h1,h2⟩:=tF (b:=b) (fun i s=>s.2=(i:Int)∧s.1.length=xs.length∧s.1.take i=xs.take i) xs.length (fun t=>t=xs) (by
  rintro i ⟨ys,j⟩ hi ⟨hj,hl,hp⟩
  simp only at hj hl hp
  subst hj
  refine .inl ⟨_,hstep ys i hi hl,rfl,by simpa using hl,?_⟩
  simp only
  rw [List.take_succ_eq_append_getElem (by simp; omega),List.take_succ_eq_append_getElem hi,←hp,List.take_set_of_le (Nat.le_refl _)]
  simp) (by
  rintro ⟨ys,j⟩ ⟨hj,hl,hp⟩
  simp only at hj hl hp
  subst hj
  refine ⟨ys,hend ys hl,?_⟩
  rw [List.take_of_length_le (by omega),List.take_of_length_le (by omega)] at hp
  exact hp) xs.length 0 (y0,0) (by omega) ⟨rfl,h0,by simp⟩
 rw [h1,h2]
theorem zEE {R:Type} (n:Nat) {b:Int→Option (Lp Int (Fl R Unit))} (hstep:∀i:Nat,i<n→b (i:Int)=some (.go ((i+1:Nat):Int))) (hend:b (n:Int)=some (.done (.nxt ()))):loop b 0=some (.nxt ()):=by
 obtain ⟨t,h1,h2⟩:=tF (b:=b) (fun i s=>s=(i:Int)) n (fun t=>t= .nxt ()) (by
  rintro i s hi rfl
  exact .inl ⟨_,hstep i hi,rfl⟩) (by
  rintro s rfl
  exact ⟨_,hend,rfl⟩) n 0 0 (by omega) rfl
 rw [h1,h2]
theorem zGl {α:Type} (xs:List α) (P:α→Prop) (l:Int) {b:(Int×Int)→Option (Lp (Int×Int) (Fl Int Int))}
  (hstep:∀(q:Int) (i:Nat) (hi:i<xs.length),0≤q→q≤l→(∃q',b (q,(i:Int))=some (.go (q',((i+1:Nat):Int)))∧0≤q'∧q'≤q∧P xs[i])∨∃t,b (q,(i:Int))=some (.done (.ret t))∧t<0)
  (hend:∀q:Int,b (q,(xs.length:Int))=some (.done (.nxt q))) (h0:0≤l):
  ∃t,loop b (l,0)=some t∧match t with| .ret r=>r<0| .nxt r=>0≤r∧r≤l∧∀x∈xs,P x:=by
 refine tF (b:=b) (fun i s=>s.2=(i:Int)∧0≤s.1∧s.1≤l∧∀j,(hj:j<xs.length)→j<i→P xs[j]) xs.length _ (by
  rintro i ⟨q,j⟩ hi ⟨hj,h1,h2,h3⟩
  simp only at hj h1 h2 h3
  subst hj
  rcases hstep q i hi h1 h2 with ⟨q',e,g1,g2,g3⟩|⟨t,e,ht⟩
  ·refine .inl ⟨_,e,rfl,g1,by simp only; omega,fun j hj hji=>?_⟩
   rcases Nat.lt_or_ge j i with h|h
   ·exact h3 j hj h
   ·have:j=i:=by omega
    subst this; exact g3
  ·exact .inr ⟨_,e,ht⟩) (by
  rintro ⟨q,j⟩ ⟨hj,h1,h2,h3⟩
  simp only at hj h1 h2 h3
  subst hj
  refine ⟨_,hend q,h1,h2,fun x hx=>?_⟩
  obtain ⟨j,hj,rfl⟩:=List.getElem_of_mem hx
  exact h3 j hj hj) xs.length 0 (l,0) (by omega) ⟨rfl,h0,Int.le_refl _,fun j _ h=>by omega⟩
def pm {α:Type} (m:α→Int→α) (c:α→Int):List α→Int→List α
 |[],_=>[]
 |x::xs,k=>m x k::pm m c xs (k+c x)
def cs {α:Type} (c:α→Int):List α→Int
 |[]=>0
 |x::xs=>c x+cs c xs
theorem zDp {α:Type} (m:α→Int→α) (c:α→Int):∀(xs:List α) (k:Int),(pm m c xs k).length =xs.length
 |[],_=>rfl
 |x::xs,k=>by simp [pm,zDp m c xs]
theorem vB {α:Type} {c:α→Int} (hc:∀a,0≤c a):∀(xs:List α),0≤cs c xs
 |[]=>Int.le_refl _
 |x::xs=>by have:=hc x; have:=vB hc xs; simp only [cs]; omega
theorem zIu {α:Type} {c:α→Int} {C:Int} {N:Nat} (hC:0≤C):∀(xs:List α),(∀a∈xs,c a≤C)→xs.length≤N→cs c xs≤N*C
 |[],_,_=>Int.mul_nonneg (by omega) hC
 |x::xs,h,hl=>by
  have h1:=h x (by simp)
  simp only [List.length_cons] at hl
  have h2:=zIu (N:=N-1) hC xs (fun a ha=>h a (by simp [ha])) (by omega)
  simp only [cs]
  have:((N-1:Nat):Int)*C+C=N*C:=by
   have e:((N-1:Nat):Int)=(N:Int)-1:=by omega
   rw [e,Int.sub_mul,Int.one_mul]; omega
  omega
theorem zCW {α:Type} (m:α→Int→α) (c:α→Int) (P:α→Prop) (hc:∀a,0≤c a) {b:(List α×Int×Int)→Option (Lp (List α×Int×Int) (List α×Int))}
  (hstep:∀(l r:List α) (x:α) (k:Int),P x→0≤k→k+c x≤9223372036854775807→l.length<9223372036854775807→b (l++x::r,k,(l.length:Int))=some (.go (l++m x k::r,k+c x,((l.length+1:Nat):Int))))
  (hend:∀(l:List α) (k:Int),b (l,k,(l.length:Int))=some (.done (l,k))):∀(xs l:List α) (k:Int),(∀x∈xs,P x)→0≤k→k+cs c xs≤9223372036854775807→l.length+xs.length<9223372036854775807→
  loop b (l++xs,k,(l.length:Int))=some (l++pm m c xs k,k+cs c xs)
 |[],l,k,_,_,_,_=>by
  rw [vN,List.append_nil,hend]
  simp [pm,cs,Lp.elim]
 |x::xs,l,k,hP,h0,h1,h2=>by
  have hx:=hc x
  have hxs:=vB hc xs
  simp only [cs] at h1
  simp only [List.length_cons] at h2
  rw [vN,hstep l xs x k (hP x (by simp)) h0 (by omega) (by omega)]
  simp only [Option.bind_some,Lp.elim]
  have:=zCW m c P hc hstep hend xs (l++[m x k]) (k+c x) (fun y hy=>hP y (by simp [hy])) (by omega) (by omega) (by simp; omega)
  simp only [List.length_append,List.length_cons,List.length_nil,List.append_assoc,List.cons_append,List.nil_append] at this
  rw [this]
  simp only [pm,cs]
  congr 2
  omega
theorem zI5 {α:Type} (m:α→Int→α) (c:α→Int) (P:α→Prop) (hc:∀a,0≤c a) {b:List α→(Int×Int)→Option (Lp (Int×Int) (Fl Int Int))}
  (hstep:∀(l r:List α) (x:α) (k:Int),P x→0≤k→k+c x≤9223372036854775807→l.length<9223372036854775807→b (l++m x k::r) (k,(l.length:Int))=some (.go (k+c x,((l.length+1:Nat):Int))))
  (hend:∀(l:List α) (k:Int),b l (k,(l.length:Int))=some (.done (.nxt k))):∀(xs l:List α) (k:Int),(∀x∈xs,P x)→0≤k→k+cs c xs≤9223372036854775807→l.length+xs.length<9223372036854775807→
  loop (b (l++pm m c xs k)) (k,(l.length:Int))=some (.nxt (k+cs c xs))
 |[],l,k,_,_,_,_=>by
  rw [vN,pm,List.append_nil,hend]
  simp [cs,Lp.elim]
 |x::xs,l,k,hP,h0,h1,h2=>by
  have hx:=hc x
  have hxs:=vB hc xs
  simp only [cs] at h1
  simp only [List.length_cons] at h2
  rw [pm,vN,hstep l _ x k (hP x (by simp)) h0 (by omega) (by omega)]
  simp only [Option.bind_some,Lp.elim]
  have:=zI5 m c P hc hstep hend xs (l++[m x k]) (k+c x) (fun y hy=>hP y (by simp [hy])) (by omega) (by omega) (by simp; omega)
  simp only [List.length_append,List.length_cons,List.length_nil,List.append_assoc,List.cons_append,List.nil_append] at this
  rw [this]
  simp only [cs]
  congr 2
  omega
theorem zDE {α β:Type} {xs:List α} {ys:List β} (h:xs.length=ys.length):same xs ys=some ():=if_pos h
theorem zE4 {α:Type} (l r:List α) (x y:α):(l++x::r).set l.length y=l++y::r:=by
 rw [List.set_append_right _ _ (Nat.le_refl _)]
 simp
def c1 {α:Type} (_:α):Int:=1
theorem zAT {α:Type} (a:α):0≤c1 a:=by unfold c1; decide
theorem zC8 {α:Type} {B:Nat} {xs ys:List α} (h:(xs.length+ys.length)*B≤140737488355328) (h2:xs.length+ys.length≤4611686018427387904):app B xs ys=some (xs++ys):=if_pos ⟨h,h2⟩
theorem zI8 {S T:Type} {b:S→Option (Lp S T)} (I:S→Prop) (μ:S→Nat) (Q:T→Prop) (step:∀s,I s→(∃s',b s=some (.go s')∧I s'∧μ s'<μ s)∨∃t,b s=some (.done t)∧Q t):∀(n:Nat) (s:S),μ s≤n→I s→∃t,loop b s=some t∧Q t
 |0,s,hn,hI=>by
  rcases step s hI with ⟨s',_,_,h3⟩|⟨t,h1,h2⟩
  ·omega
  ·exact ⟨t,by rw [vN,h1]; rfl,h2⟩
 |n+1,s,hn,hI=>by
  rcases step s hI with ⟨s',h1,h2,h3⟩|⟨t,h1,h2⟩
  ·obtain ⟨t,h4,h5⟩:=zI8 I μ Q step n s' (by omega) h2
   exact ⟨t,by rw [vN,h1]; exact h4,h5⟩
  ·exact ⟨t,by rw [vN,h1]; rfl,h2⟩
def Version.ok (x:Version):Prop:=(IntKind.i64.min≤x.A∧x.A≤IntKind.i64.max)∧(IntKind.i64.min≤x.B∧x.B≤IntKind.i64.max)∧(IntKind.i64.min≤x.C∧x.C≤IntKind.i64.max)
def Term.ok (x:Term):Prop:=(x.Name.size≤maxLen)∧(Version.ok x.Low)∧(Version.ok x.High)
def Pack.ok (x:Pack):Prop:=(x.Name.size≤maxLen)∧(Version.ok x.Version)∧(IntKind.i64.min≤x.Size∧x.Size≤IntKind.i64.max)∧(x.Provides.length≤maxLen∧∀y1∈x.Provides,y1.size≤maxLen)∧(x.Needs.length≤maxLen∧∀y1∈x.Needs,y1.length≤maxLen∧∀y2∈y1,Term.ok y2)∧(x.Bars.length≤maxLen∧∀y1∈x.Bars,Term.ok y1)
def File.ok (x:File):Prop:=(x.Path.size≤maxLen)∧(x.Data.length≤maxLen∧∀y1∈x.Data,IntKind.u8.min≤y1∧y1≤IntKind.u8.max)
def zL.ok (x:zL):Prop:=(x.Files.length≤maxLen∧∀y1∈x.Files,File.ok y1)∧(IntKind.i64.min≤x.Budget∧x.Budget≤IntKind.i64.max)∧(IntKind.i64.min≤x.Writes∧x.Writes≤IntKind.i64.max)∧(IntKind.i64.min≤x.Stop∧x.Stop≤IntKind.i64.max)∧(True)
theorem zKA (x:(List Int)) (hx:x.length≤maxLen∧∀y1∈x,IntKind.u8.min≤y1∧y1≤IntKind.u8.max) (l:Int) (h0:0≤l) (h1:l≤1048576):∃r,zB1 x l=some r∧(r<0∨(0≤r∧r≤l∧(x.length≤1048576∧∀y0∈x,True))):=by
 obtain ⟨hm,hx⟩:=hx
 unfold maxLen at hm
 unfold zB1
 rw [xU (x:=l-x.length) (by omega) (by omega)]
 by_cases c1:l-(x.length:Int)<0
 ·rw [if_pos (by simpa using c1)]
  exact ⟨_,rfl,.inl (by omega)⟩
 ·rw [if_neg (by simpa using c1)]
  exact ⟨_,rfl,.inr ⟨by omega,by omega,by omega,fun _ _=>trivial⟩⟩
def File.sm (B:Nat) (x:File):Prop:=(x.Path.size≤B)∧(x.Data.length≤B∧∀y0∈x.Data,True)
def zL.sm (B:Nat) (x:zL):Prop:=(x.Files.length≤B∧∀y0∈x.Files,File.sm B y0)∧(True)∧(True)∧(True)∧(True)
theorem zLx (x:File) (hx:File.ok x) (l:Int) (h0:0≤l) (h1:l≤1048576):∃r,zC7 x l=some r∧(r<0∨(0≤r∧r≤l∧(File.sm 1048576 x))):=by
 obtain ⟨k0,k1⟩:=hx
 unfold maxLen at*
 unfold zC7
 rw [xU (x:=l-x.Path.size) (by omega) (by omega)]
 by_cases c0:l-(x.Path.size:Int)<0
 ·rw [if_pos (by simpa using c0)]
  exact ⟨_,rfl,.inl (by omega)⟩
 rw [if_neg (by simpa using c0)]
 obtain ⟨r1,e1,g1⟩:=zKA x.Data k1 (l-x.Path.size) (by omega) (by omega)
 rw [e1]
 simp only [Option.bind_some]
 by_cases c1:r1<0
 ·rw [if_pos (by simpa using c1)]
  exact ⟨_,rfl,.inl (by omega)⟩
 rw [if_neg (by simpa using c1)]
 obtain ⟨p1,q1,z1⟩:=g1.resolve_left c1
 exact ⟨_,rfl,.inr ⟨by omega,by omega,by omega,z1⟩⟩
theorem zK4 (x:(List File)) (hx:x.length≤maxLen∧∀y1∈x,File.ok y1) (l:Int) (h0:0≤l) (h1:l≤1048576):∃r,zBx x l=some r∧(r<0∨(0≤r∧r≤l∧(x.length≤1048576∧∀y0∈x,File.sm 1048576 y0))):=by
 obtain ⟨hm,hx⟩:=hx
 unfold maxLen at hm
 unfold zBx
 rw [xU (x:=l-x.length) (by omega) (by omega)]
 by_cases c1:l-(x.length:Int)<0
 ·rw [if_pos (by simpa using c1)]
  exact ⟨_,rfl,.inl (by omega)⟩
 ·rw [if_neg (by simpa using c1)]
  have key:=zGl x (fun y0=>File.sm 1048576 y0) (l-x.length) (b:=zAO x) ?_ ?_ (by omega)
  ·obtain ⟨t,h2,h3⟩:=key
   unfold zBA
   rw [h2]
   cases t with
   |ret r=>exact ⟨r,rfl,.inl h3⟩
   |nxt r=>exact ⟨r,rfl,.inr ⟨h3.1,by have:=h3.2.1; omega,by omega,h3.2.2⟩⟩
  ·intro q i hi hq0 hq1
   unfold zAO
   rw [if_pos (by simp; omega)]
   simp only [zM hi,Option.bind_some]
   have hi2:w64 ((i:Int)+1)=((i+1:Nat):Int):=zP (by omega)
   obtain ⟨r,e,hr⟩:=zLx x[i] (hx _ (List.getElem_mem hi)) q hq0 (by omega)
   rw [e]
   simp only [Option.bind_some]
   by_cases c:r<0
   ·rw [if_pos (by simpa using c)]
    exact .inr ⟨_,rfl,by omega⟩
   ·rw [if_neg (by simpa using c),hi2]
    obtain ⟨g1,g2,g3⟩:=hr.resolve_left c
    exact .inl ⟨_,rfl,g1,g2,g3⟩
  ·intro q
   unfold zAO
   rw [if_neg (by simp)]
theorem zKZ (x:zL) (hx:zL.ok x) (l:Int) (h0:0≤l) (h1:l≤1048576):∃r,zC2 x l=some r∧(r<0∨(0≤r∧r≤l∧(zL.sm 1048576 x))):=by
 obtain ⟨k0,k1,k2,k3,k4⟩:=hx
 unfold maxLen at*
 unfold zC2
 obtain ⟨r0,e0,g0⟩:=zK4 x.Files k0 l (by omega) (by omega)
 rw [e0]
 simp only [Option.bind_some]
 by_cases c0:r0<0
 ·rw [if_pos (by simpa using c0)]
  exact ⟨_,rfl,.inl (by omega)⟩
 rw [if_neg (by simpa using c0)]
 obtain ⟨p0,q0,z0⟩:=g0.resolve_left c0
 exact ⟨_,rfl,.inr ⟨by omega,by omega,z0,trivial,trivial,trivial,trivial⟩⟩
def Version.sm (B:Nat) (x:Version):Prop:=(True)∧(True)∧(True)
def Term.sm (B:Nat) (x:Term):Prop:=(x.Name.size≤B)∧(Version.sm B x.Low)∧(Version.sm B x.High)
def Pack.sm (B:Nat) (x:Pack):Prop:=(x.Name.size≤B)∧(Version.sm B x.Version)∧(True)∧(x.Provides.length≤B∧∀y0∈x.Provides,y0.size≤B)∧(x.Needs.length≤B∧∀y0∈x.Needs,y0.length≤B∧∀y1∈y0,Term.sm B y1)∧(x.Bars.length≤B∧∀y0∈x.Bars,Term.sm B y0)
theorem zI2 (x:(List ByteArray)) (hx:x.length≤maxLen∧∀y1∈x,y1.size≤maxLen) (l:Int) (h0:0≤l) (h1:l≤1048576):∃r,zAz x l=some r∧(r<0∨(0≤r∧r≤l∧(x.length≤1048576∧∀y0∈x,y0.size≤1048576))):=by
 obtain ⟨hm,hx⟩:=hx
 unfold maxLen at hm
 unfold zAz
 rw [xU (x:=l-x.length) (by omega) (by omega)]
 by_cases c1:l-(x.length:Int)<0
 ·rw [if_pos (by simpa using c1)]
  exact ⟨_,rfl,.inl (by omega)⟩
 ·rw [if_neg (by simpa using c1)]
  have key:=zGl x (fun y0=>y0.size≤1048576) (l-x.length) (b:=zAo x) ?_ ?_ (by omega)
  ·obtain ⟨t,h2,h3⟩:=key
   unfold zAB
   rw [h2]
   cases t with
   |ret r=>exact ⟨r,rfl,.inl h3⟩
   |nxt r=>exact ⟨r,rfl,.inr ⟨h3.1,by have:=h3.2.1; omega,by omega,h3.2.2⟩⟩
  ·intro q i hi hq0 hq1
   unfold zAo
   rw [if_pos (by simp; omega)]
   simp only [zM hi,Option.bind_some]
   have hi2:w64 ((i:Int)+1)=((i+1:Nat):Int):=zP (by omega)
   have hs:=hx _ (List.getElem_mem hi)
   unfold maxLen at hs
   rw [xU (x:=q-(x[i]).size) (by omega) (by omega)]
   by_cases c:q-((x[i]).size :Int)<0
   ·rw [if_pos (by simpa using c)]
    exact .inr ⟨_,rfl,by omega⟩
   ·rw [if_neg (by simpa using c),hi2]
    exact .inl ⟨_,rfl,by omega,by omega,by show (x[i]).size ≤1048576; omega⟩
  ·intro q
   unfold zAo
   rw [if_neg (by simp)]
theorem zLE (x:Term) (hx:Term.ok x) (l:Int) (h0:0≤l) (h1:l≤1048576):∃r,zCt x l=some r∧(r<0∨(0≤r∧r≤l∧(Term.sm 1048576 x))):=by
 obtain ⟨k0,k1,k2⟩:=hx
 unfold maxLen at*
 unfold zCt
 rw [xU (x:=l-x.Name.size) (by omega) (by omega)]
 by_cases c0:l-(x.Name.size:Int)<0
 ·rw [if_pos (by simpa using c0)]
  exact ⟨_,rfl,.inl (by omega)⟩
 rw [if_neg (by simpa using c0)]
 exact ⟨_,rfl,.inr ⟨by omega,by omega,by omega,⟨trivial,trivial,trivial⟩,⟨trivial,trivial,trivial⟩⟩⟩
theorem zGX (x:(List Term)) (hx:x.length≤maxLen∧∀y1∈x,Term.ok y1) (l:Int) (h0:0≤l) (h1:l≤1048576):∃r,zAn x l=some r∧(r<0∨(0≤r∧r≤l∧(x.length≤1048576∧∀y0∈x,Term.sm 1048576 y0))):=by
 obtain ⟨hm,hx⟩:=hx
 unfold maxLen at hm
 unfold zAn
 rw [xU (x:=l-x.length) (by omega) (by omega)]
 by_cases c1:l-(x.length:Int)<0
 ·rw [if_pos (by simpa using c1)]
  exact ⟨_,rfl,.inl (by omega)⟩
 ·rw [if_neg (by simpa using c1)]
  have key:=zGl x (fun y0=>Term.sm 1048576 y0) (l-x.length) (b:=zAL x) ?_ ?_ (by omega)
  ·obtain ⟨t,h2,h3⟩:=key
   unfold zB2
   rw [h2]
   cases t with
   |ret r=>exact ⟨r,rfl,.inl h3⟩
   |nxt r=>exact ⟨r,rfl,.inr ⟨h3.1,by have:=h3.2.1; omega,by omega,h3.2.2⟩⟩
  ·intro q i hi hq0 hq1
   unfold zAL
   rw [if_pos (by simp; omega)]
   simp only [zM hi,Option.bind_some]
   have hi2:w64 ((i:Int)+1)=((i+1:Nat):Int):=zP (by omega)
   obtain ⟨r,e,hr⟩:=zLE x[i] (hx _ (List.getElem_mem hi)) q hq0 (by omega)
   rw [e]
   simp only [Option.bind_some]
   by_cases c:r<0
   ·rw [if_pos (by simpa using c)]
    exact .inr ⟨_,rfl,by omega⟩
   ·rw [if_neg (by simpa using c),hi2]
    obtain ⟨g1,g2,g3⟩:=hr.resolve_left c
    exact .inl ⟨_,rfl,g1,g2,g3⟩
  ·intro q
   unfold zAL
   rw [if_neg (by simp)]
theorem zIP (x:(List (List Term))) (hx:x.length≤maxLen∧∀y1∈x,y1.length≤maxLen∧∀y2∈y1,Term.ok y2) (l:Int) (h0:0≤l) (h1:l≤1048576):∃r,zAG x l=some r∧(r<0∨(0≤r∧r≤l∧(x.length≤1048576∧∀y0∈x,y0.length≤1048576∧∀y1∈y0,Term.sm 1048576 y1))):=by
 obtain ⟨hm,hx⟩:=hx
 unfold maxLen at hm
 unfold zAG
 rw [xU (x:=l-x.length) (by omega) (by omega)]
 by_cases c1:l-(x.length:Int)<0
 ·rw [if_pos (by simpa using c1)]
  exact ⟨_,rfl,.inl (by omega)⟩
 ·rw [if_neg (by simpa using c1)]
  have key:=zGl x (fun y0=>y0.length≤1048576∧∀y1∈y0,Term.sm 1048576 y1) (l-x.length) (b:=zA2 x) ?_ ?_ (by omega)
  ·obtain ⟨t,h2,h3⟩:=key
   unfold zAQ
   rw [h2]
   cases t with
   |ret r=>exact ⟨r,rfl,.inl h3⟩
   |nxt r=>exact ⟨r,rfl,.inr ⟨h3.1,by have:=h3.2.1; omega,by omega,h3.2.2⟩⟩
  ·intro q i hi hq0 hq1
   unfold zA2
   rw [if_pos (by simp; omega)]
   simp only [zM hi,Option.bind_some]
   have hi2:w64 ((i:Int)+1)=((i+1:Nat):Int):=zP (by omega)
   obtain ⟨r,e,hr⟩:=zGX x[i] (hx _ (List.getElem_mem hi)) q hq0 (by omega)
   rw [e]
   simp only [Option.bind_some]
   by_cases c:r<0
   ·rw [if_pos (by simpa using c)]
    exact .inr ⟨_,rfl,by omega⟩
   ·rw [if_neg (by simpa using c),hi2]
    obtain ⟨g1,g2,g3⟩:=hr.resolve_left c
    exact .inl ⟨_,rfl,g1,g2,g3⟩
  ·intro q
   unfold zA2
   rw [if_neg (by simp)]
theorem zLB (x:Pack) (hx:Pack.ok x) (l:Int) (h0:0≤l) (h1:l≤1048576):∃r,zC4 x l=some r∧(r<0∨(0≤r∧r≤l∧(Pack.sm 1048576 x))):=by
 obtain ⟨k0,k1,k2,k3,k4,k5⟩:=hx
 unfold maxLen at*
 unfold zC4
 rw [xU (x:=l-x.Name.size) (by omega) (by omega)]
 by_cases c0:l-(x.Name.size:Int)<0
 ·rw [if_pos (by simpa using c0)]
  exact ⟨_,rfl,.inl (by omega)⟩
 rw [if_neg (by simpa using c0)]
 obtain ⟨r3,e3,g3⟩:=zI2 x.Provides k3 (l-x.Name.size) (by omega) (by omega)
 rw [e3]
 simp only [Option.bind_some]
 by_cases c3:r3<0
 ·rw [if_pos (by simpa using c3)]
  exact ⟨_,rfl,.inl (by omega)⟩
 rw [if_neg (by simpa using c3)]
 obtain ⟨p3,q3,z3⟩:=g3.resolve_left c3
 obtain ⟨r4,e4,g4⟩:=zIP x.Needs k4 r3 (by omega) (by omega)
 rw [e4]
 simp only [Option.bind_some]
 by_cases c4:r4<0
 ·rw [if_pos (by simpa using c4)]
  exact ⟨_,rfl,.inl (by omega)⟩
 rw [if_neg (by simpa using c4)]
 obtain ⟨p4,q4,z4⟩:=g4.resolve_left c4
 obtain ⟨r5,e5,g5⟩:=zGX x.Bars k5 r4 (by omega) (by omega)
 rw [e5]
 simp only [Option.bind_some]
 by_cases c5:r5<0
 ·rw [if_pos (by simpa using c5)]
  exact ⟨_,rfl,.inl (by omega)⟩
 rw [if_neg (by simpa using c5)]
 obtain ⟨p5,q5,z5⟩:=g5.resolve_left c5
 exact ⟨_,rfl,.inr ⟨by omega,by omega,by omega,⟨trivial,trivial,trivial⟩,trivial,z3,z4,z5⟩⟩
theorem zKa (x:(List Pack)) (hx:x.length≤maxLen∧∀y1∈x,Pack.ok y1) (l:Int) (h0:0≤l) (h1:l≤1048576):∃r,zB4 x l=some r∧(r<0∨(0≤r∧r≤l∧(x.length≤1048576∧∀y0∈x,Pack.sm 1048576 y0))):=by
 obtain ⟨hm,hx⟩:=hx
 unfold maxLen at hm
 unfold zB4
 rw [xU (x:=l-x.length) (by omega) (by omega)]
 by_cases c1:l-(x.length:Int)<0
 ·rw [if_pos (by simpa using c1)]
  exact ⟨_,rfl,.inl (by omega)⟩
 ·rw [if_neg (by simpa using c1)]
  have key:=zGl x (fun y0=>Pack.sm 1048576 y0) (l-x.length) (b:=zAP x) ?_ ?_ (by omega)
  ·obtain ⟨t,h2,h3⟩:=key
   unfold zBo
   rw [h2]
   cases t with
   |ret r=>exact ⟨r,rfl,.inl h3⟩
   |nxt r=>exact ⟨r,rfl,.inr ⟨h3.1,by have:=h3.2.1; omega,by omega,h3.2.2⟩⟩
  ·intro q i hi hq0 hq1
   unfold zAP
   rw [if_pos (by simp; omega)]
   simp only [zM hi,Option.bind_some]
   have hi2:w64 ((i:Int)+1)=((i+1:Nat):Int):=zP (by omega)
   obtain ⟨r,e,hr⟩:=zLB x[i] (hx _ (List.getElem_mem hi)) q hq0 (by omega)
   rw [e]
   simp only [Option.bind_some]
   by_cases c:r<0
   ·rw [if_pos (by simpa using c)]
    exact .inr ⟨_,rfl,by omega⟩
   ·rw [if_neg (by simpa using c),hi2]
    obtain ⟨g1,g2,g3⟩:=hr.resolve_left c
    exact .inl ⟨_,rfl,g1,g2,g3⟩
  ·intro q
   unfold zAP
   rw [if_neg (by simp)]
theorem zKs (x:(List Int)) (hx:x.length≤1049600∧∀y0∈x,True):zB3 x=some x:=by
 have hl:=hx.1
 unfold zB3
 have hm:∀z:Int,mk 1 (x.length:Int) z=some (List.replicate x.length z):=fun z=>by
  unfold mk; rw [if_pos ⟨by omega,by simp; omega,by omega⟩]; simp
 rw [hm]
 simp only [Option.bind_some,zBw]
 rw [zEB x ?_ ?_ _ (by simp)]
 ·rfl
 ·intro ys i hi hl2
  unfold zCn
  rw [if_pos (by simp; omega)]
  have hi2:w64 ((i:Int)+1)=((i+1:Nat):Int):=zP (by omega)
  simp only [zM hi,zM (show i<ys.length by omega),Option.bind_some,Int.toNat_natCast,hi2]
 ·intro ys _
  unfold zCn
  rw [if_neg (by simp)]
theorem zLp (x:File) (hx:File.sm 1049600 x):zCx x=some x:=by
 obtain ⟨h0,h1⟩:=hx
 unfold zCx
 simp only [zKs x.Data h1,Option.bind_some]
theorem zKF (x:(List File)) (hx:x.length≤1049600∧∀y0∈x,File.sm 1049600 y0):zBv x=some x:=by
 have hl:=hx.1
 unfold zBv
 have hm:∀z:File,mk 40 (x.length:Int) z=some (List.replicate x.length z):=fun z=>by
  unfold mk; rw [if_pos ⟨by omega,by simp; omega,by omega⟩]; simp
 rw [hm]
 simp only [Option.bind_some,zBE]
 rw [zEB x ?_ ?_ _ (by simp)]
 ·rfl
 ·intro ys i hi hl2
  unfold zCj
  rw [if_pos (by simp; omega)]
  have hi2:w64 ((i:Int)+1)=((i+1:Nat):Int):=zP (by omega)
  simp only [zM hi,zM (show i<ys.length by omega),Option.bind_some,Int.toNat_natCast,hi2,zLp x[i] (hx.2 _ (List.getElem_mem hi))]
 ·intro ys _
  unfold zCj
  rw [if_neg (by simp)]
theorem zLb (x:zL) (hx:zL.sm 1049600 x):uD x=some x:=by
 obtain ⟨h0,h1,h2,h3,h4⟩:=hx
 unfold uD
 simp only [zKF x.Files h0,Option.bind_some]
theorem zJb (x:(List Int)) (hx:x.length≤1049600∧∀y0∈x,True):xZ x=some x:=by
 have hl:=hx.1
 unfold xZ
 have hm:∀z:Int,mk 8 (x.length:Int) z=some (List.replicate x.length z):=fun z=>by
  unfold mk; rw [if_pos ⟨by omega,by simp; omega,by omega⟩]; simp
 rw [hm]
 simp only [Option.bind_some,zAV]
 rw [zEB x ?_ ?_ _ (by simp)]
 ·rfl
 ·intro ys i hi hl2
  unfold zBX
  rw [if_pos (by simp; omega)]
  have hi2:w64 ((i:Int)+1)=((i+1:Nat):Int):=zP (by omega)
  simp only [zM hi,zM (show i<ys.length by omega),Option.bind_some,Int.toNat_natCast,hi2]
 ·intro ys _
  unfold zBX
  rw [if_neg (by simp)]
theorem zDW (x:Version) (hx:Version.sm 1049600 x):wO x=some x:=by
 obtain ⟨h0,h1,h2⟩:=hx
 unfold wO
 rfl
theorem zIw (x:(List ByteArray)) (hx:x.length≤1049600∧∀y0∈x,y0.size≤1049600):zAx x=some x:=by
 have hl:=hx.1
 unfold zAx
 have hm:∀z:ByteArray,mk 16 (x.length:Int) z=some (List.replicate x.length z):=fun z=>by
  unfold mk; rw [if_pos ⟨by omega,by simp; omega,by omega⟩]; simp
 rw [hm]
 simp only [Option.bind_some,zA7]
 rw [zEB x ?_ ?_ _ (by simp)]
 ·rfl
 ·intro ys i hi hl2
  unfold zBi
  rw [if_pos (by simp; omega)]
  have hi2:w64 ((i:Int)+1)=((i+1:Nat):Int):=zP (by omega)
  simp only [zM hi,zM (show i<ys.length by omega),Option.bind_some,Int.toNat_natCast,hi2]
 ·intro ys _
  unfold zBi
  rw [if_neg (by simp)]
theorem zLo (x:Term) (hx:Term.sm 1049600 x):zC3 x=some x:=by
 obtain ⟨h0,h1,h2⟩:=hx
 unfold zC3
 simp only [zDW x.Low h1,zDW x.High h2,Option.bind_some]
theorem zGV (x:(List Term)) (hx:x.length≤1049600∧∀y0∈x,Term.sm 1049600 y0):zAc x=some x:=by
 have hl:=hx.1
 unfold zAc
 have hm:∀z:Term,mk 64 (x.length:Int) z=some (List.replicate x.length z):=fun z=>by
  unfold mk; rw [if_pos ⟨by omega,by simp; omega,by omega⟩]; simp
 rw [hm]
 simp only [Option.bind_some,zBy]
 rw [zEB x ?_ ?_ _ (by simp)]
 ·rfl
 ·intro ys i hi hl2
  unfold zCp
  rw [if_pos (by simp; omega)]
  have hi2:w64 ((i:Int)+1)=((i+1:Nat):Int):=zP (by omega)
  simp only [zM hi,zM (show i<ys.length by omega),Option.bind_some,Int.toNat_natCast,hi2,zLo x[i] (hx.2 _ (List.getElem_mem hi))]
 ·intro ys _
  unfold zCp
  rw [if_neg (by simp)]
theorem zJx (x:(List (List Term))) (hx:x.length≤1049600∧∀y0∈x,y0.length≤1049600∧∀y1∈y0,Term.sm 1049600 y1):zAE x=some x:=by
 have hl:=hx.1
 unfold zAE
 have hm:∀z:(List Term),mk 24 (x.length:Int) z=some (List.replicate x.length z):=fun z=>by
  unfold mk; rw [if_pos ⟨by omega,by simp; omega,by omega⟩]; simp
 rw [hm]
 simp only [Option.bind_some,zBb]
 rw [zEB x ?_ ?_ _ (by simp)]
 ·rfl
 ·intro ys i hi hl2
  unfold zBV
  rw [if_pos (by simp; omega)]
  have hi2:w64 ((i:Int)+1)=((i+1:Nat):Int):=zP (by omega)
  simp only [zM hi,zM (show i<ys.length by omega),Option.bind_some,Int.toNat_natCast,hi2,zGV x[i] (hx.2 _ (List.getElem_mem hi))]
 ·intro ys _
  unfold zBV
  rw [if_neg (by simp)]
theorem zLL (x:Pack) (hx:Pack.sm 1049600 x):zCu x=some x:=by
 obtain ⟨h0,h1,h2,h3,h4,h5⟩:=hx
 unfold zCu
 simp only [zDW x.Version h1,zIw x.Provides h3,zJx x.Needs h4,zGV x.Bars h5,Option.bind_some]
theorem zKg (x:(List Pack)) (hx:x.length≤1049600∧∀y0∈x,Pack.sm 1049600 y0):wW x=some x:=by
 have hl:=hx.1
 unfold wW
 have hm:∀z:Pack,mk 120 (x.length:Int) z=some (List.replicate x.length z):=fun z=>by
  unfold mk; rw [if_pos ⟨by omega,by simp; omega,by omega⟩]; simp
 rw [hm]
 simp only [Option.bind_some,zBq]
 rw [zEB x ?_ ?_ _ (by simp)]
 ·rfl
 ·intro ys i hi hl2
  unfold zCi
  rw [if_pos (by simp; omega)]
  have hi2:w64 ((i:Int)+1)=((i+1:Nat):Int):=zP (by omega)
  simp only [zM hi,zM (show i<ys.length by omega),Option.bind_some,Int.toNat_natCast,hi2,zLL x[i] (hx.2 _ (List.getElem_mem hi))]
 ·intro ys _
  unfold zCi
  rw [if_neg (by simp)]
theorem zHH (x:(List Int)) (hx:x.length≤1049600∧∀y0∈x,True):zBt x x=some true:=by
 have hl:=hx.1
 unfold zBt
 rw [if_neg (by simp)]
 unfold zBL
 rw [zEE x.length ?_ ?_]
 ·rfl
 ·intro i hi
  unfold zCq
  rw [if_pos (by simp; omega)]
  have hi2:w64 ((i:Int)+1)=((i+1:Nat):Int):=zP (by omega)
  simp [zM hi,hi2]
 ·unfold zCq
  rw [if_neg (by simp)]
theorem zIR (x:File) (hx:File.sm 1049600 x):zC6 x x=some true:=by
 obtain ⟨h0,h1⟩:=hx
 unfold zC6
 simp [zHH x.Data h1]
theorem zHX (x:(List File)) (hx:x.length≤1049600∧∀y0∈x,File.sm 1049600 y0):zBz x x=some true:=by
 have hl:=hx.1
 unfold zBz
 rw [if_neg (by simp)]
 unfold zBK
 rw [zEE x.length ?_ ?_]
 ·rfl
 ·intro i hi
  unfold zCk
  rw [if_pos (by simp; omega)]
  have hi2:w64 ((i:Int)+1)=((i+1:Nat):Int):=zP (by omega)
  simp [zM hi,hi2,zIR x[i] (hx.2 _ (List.getElem_mem hi))]
 ·unfold zCk
  rw [if_neg (by simp)]
theorem zJm (x:zL) (hx:zL.sm 1049600 x):zCw x x=some true:=by
 obtain ⟨h0,h1,h2,h3,h4⟩:=hx
 unfold zCw
 simp [zHX x.Files h0]
theorem zHi (x:(List Int)) (hx:x.length≤1049600∧∀y0∈x,True):zAH x x=some true:=by
 have hl:=hx.1
 unfold zAH
 rw [if_neg (by simp)]
 unfold zAS
 rw [zEE x.length ?_ ?_]
 ·rfl
 ·intro i hi
  unfold zBW
  rw [if_pos (by simp; omega)]
  have hi2:w64 ((i:Int)+1)=((i+1:Nat):Int):=zP (by omega)
  simp [zM hi,hi2]
 ·unfold zBW
  rw [if_neg (by simp)]
def zJ.sm (B:Nat) (x:zJ):Prop:=(True)∧(x.Names.length≤B∧∀y0∈x.Names,y0.size≤B)
theorem zEw (x:(List ByteArray)) (hx:x.length≤1049600∧∀y0∈x,y0.size≤1049600):uK x x=some true:=by
 have hl:=hx.1
 unfold uK
 rw [if_neg (by simp)]
 unfold zA4
 rw [zEE x.length ?_ ?_]
 ·rfl
 ·intro i hi
  unfold zBj
  rw [if_pos (by simp; omega)]
  have hi2:w64 ((i:Int)+1)=((i+1:Nat):Int):=zP (by omega)
  simp [zM hi,hi2]
 ·unfold zBj
  rw [if_neg (by simp)]
theorem zEO (x:zJ) (hx:zJ.sm 1049600 x):yX x x=some true:=by
 obtain ⟨h0,h1⟩:=hx
 unfold yX
 simp [zEw x.Names h1]
theorem zDw (x:Version) (hx:Version.sm 1049600 x):wM x x=some true:=by
 obtain ⟨h0,h1,h2⟩:=hx
 unfold wM
 simp
theorem zIT (x:Term) (hx:Term.sm 1049600 x):zC0 x x=some true:=by
 obtain ⟨h0,h1,h2⟩:=hx
 unfold zC0
 simp [zDw x.Low h1,zDw x.High h2]
theorem zF7 (x:(List Term)) (hx:x.length≤1049600∧∀y0∈x,Term.sm 1049600 y0):zAm x x=some true:=by
 have hl:=hx.1
 unfold zAm
 rw [if_neg (by simp)]
 unfold zB8
 rw [zEE x.length ?_ ?_]
 ·rfl
 ·intro i hi
  unfold zCl
  rw [if_pos (by simp; omega)]
  have hi2:w64 ((i:Int)+1)=((i+1:Nat):Int):=zP (by omega)
  simp [zM hi,hi2,zIT x[i] (hx.2 _ (List.getElem_mem hi))]
 ·unfold zCl
  rw [if_neg (by simp)]
theorem zHo (x:(List (List Term))) (hx:x.length≤1049600∧∀y0∈x,y0.length≤1049600∧∀y1∈y0,Term.sm 1049600 y1):zAK x x=some true:=by
 have hl:=hx.1
 unfold zAK
 rw [if_neg (by simp)]
 unfold zAX
 rw [zEE x.length ?_ ?_]
 ·rfl
 ·intro i hi
  unfold zBU
  rw [if_pos (by simp; omega)]
  have hi2:w64 ((i:Int)+1)=((i+1:Nat):Int):=zP (by omega)
  simp [zM hi,hi2,zF7 x[i] (hx.2 _ (List.getElem_mem hi))]
 ·unfold zBU
  rw [if_neg (by simp)]
theorem zJz (x:Pack) (hx:Pack.sm 1049600 x):zC1 x x=some true:=by
 obtain ⟨h0,h1,h2,h3,h4,h5⟩:=hx
 unfold zC1
 simp [zDw x.Version h1,zEw x.Provides h3,zHo x.Needs h4,zF7 x.Bars h5]
theorem zHR (x:(List Pack)) (hx:x.length≤1049600∧∀y0∈x,Pack.sm 1049600 y0):zBP x x=some true:=by
 have hl:=hx.1
 unfold zBP
 rw [if_neg (by simp)]
 unfold zB7
 rw [zEE x.length ?_ ?_]
 ·rfl
 ·intro i hi
  unfold zCm
  rw [if_pos (by simp; omega)]
  have hi2:w64 ((i:Int)+1)=((i+1:Nat):Int):=zP (by omega)
  simp [zM hi,hi2,zJz x[i] (hx.2 _ (List.getElem_mem hi))]
 ·unfold zCm
  rw [if_neg (by simp)]
theorem zGg (a:Int):(b2s [a]).size =1:=rfl
theorem zHs {k:Int} (h0:0≤k) (h1:k≤9223372036854775807):∃s,yY k=some s:=by
 have key:∀(n:Nat) (k:Int) (s:ByteArray),0≤k→k<10^n→k≤9223372036854775807→s.size+n≤1000→∃t,loop zBT (k,s)=some t∧t.size≤s.size+n:=by
  intro n
  induction n with
  |zero=>
   intro k s h0 h1 _ _
   have:k=0:=by simp at h1; omega
   subst this
   exact ⟨s,by rw [vN]; rfl,by omega⟩
  |succ n ih=>
   intro k s h0 h1 h2 h3
   by_cases hk:k>0
   ·rw [vN]
    unfold zBT
    simp only
    rw [if_pos (by simpa using hk)]
    have hc:∀a:Int,cat (b2s [a]) s=some (b2s [a]++s):=fun a=>by
     unfold cat; rw [if_pos (by rw [zGg]; omega)]
    rw [hc]
    simp only [Option.bind_some,Lp.elim]
    have hd:k.tdiv 10=k / 10:=Int.tdiv_eq_ediv_of_nonneg h0
    rw [hd,xU (by omega) (by omega)]
    obtain ⟨t,g1,g2⟩:=ih (k / 10) (b2s [IntKind.u8.wrap (w64 (48+k.tmod 10))]++s) (by omega) (by rw [Int.pow_succ] at h1; omega) (by omega) (by rw [ByteArray.size_append,zGg]; omega)
    refine ⟨t,g1,?_⟩
    rw [ByteArray.size_append,zGg] at g2
    omega
   ·have:k=0:=by omega
    subst this
    exact ⟨s,by rw [vN]; rfl,by omega⟩
 unfold yY
 by_cases hk:k≤0
 ·rw [if_pos (by simpa using hk)]
  exact ⟨_,rfl⟩
 ·rw [if_neg (by simpa using hk)]
  obtain ⟨t,g1,g2⟩:=key 19 k (bs []) h0 (by omega) h1 (by decide)
  unfold zAR
  rw [g1]
  simp only [Option.bind_some]
  have e0:(bs []).size =0:=rfl
  have e1:(bs [109]).size =1:=rfl
  unfold cat
  rw [if_pos (by omega)]
  exact ⟨_,rfl⟩
noncomputable def mT (k:Int):ByteArray:=(yY k).getD ByteArray.empty
theorem zDq {k:Int} (h0:0≤k) (h1:k≤9223372036854775807):yY k=some (mT k):=by
 obtain ⟨s,hs⟩:=zHs h0 h1
 unfold mT
 rw [hs]
 rfl
def zNe (_:Int) (k:Int):Int:=IntKind.u8.wrap k
theorem zH3 (xs:List Int) (hx:xs.length≤1049600∧∀y0∈xs,True) (k:Int) (h0:0≤k) (h1:k+cs c1 xs≤9223372036854775807):jZ xs k=some (k+cs c1 xs,pm zNe c1 xs k):=by
 unfold jZ zAf
 have key:=zCW zNe c1 (fun y0=>True) zAT (b:=jX) ?_ ?_ xs [] k hx.2 h0 h1 (by have:=hx.1; simp; omega)
 ·simp only [List.nil_append,List.length_nil,Int.natCast_zero] at key
  rw [key]
  rfl
 ·intro l r x k hP h0 hk hl
  simp only [c1] at hk
  have w0:=xU (x:=k+1) (by omega) (by omega)
  have hi2:w64 ((l.length:Int)+1)=((l.length+1:Nat):Int):=zP (by omega)
  unfold jX
  rw [if_pos (by simp; omega)]
  simp only [zCB,zE4,Option.bind_some,Int.toNat_natCast,hi2,w0]
  rfl
 ·intro l k
  unfold jX
  rw [if_neg (by simp)]
noncomputable def mFile (x:File) (k:Int):File:=({Path:=mT (k),Data:=pm zNe c1 x.Data (k+1)}:File)
noncomputable def cFile (x:File):Int:=1+cs c1 x.Data
theorem zDX (x:File):0≤cFile x:=by
 have n1:=vB zAT x.Data
 unfold cFile
 omega
theorem zHA (xs:List File) (hx:xs.length≤1049600∧∀y0∈xs,File.sm 1049600 y0) (k:Int) (h0:0≤k) (h1:k+cs cFile xs≤9223372036854775807):kJ xs k=some (k+cs cFile xs,pm mFile cFile xs k):=by
 unfold kJ zAi
 have key:=zCW mFile cFile (fun y0=>File.sm 1049600 y0) zDX (b:=kP) ?_ ?_ xs [] k hx.2 h0 h1 (by have:=hx.1; simp; omega)
 ·simp only [List.nil_append,List.length_nil,Int.natCast_zero] at key
  rw [key]
  rfl
 ·intro l r x k hP h0 hk hl
  simp only [cFile] at hk
  have n1:=vB zAT x.Data
  have t0:=zDq (k:=k) (by omega) (by omega)
  have w0:=xU (x:=k+1) (by omega) (by omega)
  have t1:=zH3 x.Data (hP.2) (k+1) (by omega) (by omega)
  have hi2:w64 ((l.length:Int)+1)=((l.length+1:Nat):Int):=zP (by omega)
  unfold kP
  rw [if_pos (by simp; omega)]
  simp only [zCB,zE4,Option.bind_some,Int.toNat_natCast,hi2,t0,w0,t1,zDE (zDp _ _ _ _)]
  rw [show k+1+cs c1 x.Data=k+cFile x from by simp only [cFile]; omega]
  rfl
 ·intro l k
  unfold kP
  rw [if_neg (by simp)]
theorem zHG (x:zL) (hP:zL.sm 1049600 x) (k:Int) (h0:0≤k) (h1:k+cs cFile x.Files≤9223372036854775807):zAw x k=some (k+cs cFile x.Files,pm mFile cFile x.Files (k)):=by
 have n0:=vB zDX x.Files
 have t0:=zHA x.Files (hP.1) (k) (by omega) (by omega)
 unfold zAw
 simp only [t0,Option.bind_some,zDE (zDp _ _ _ _)]
def zMQ (_:Int) (k:Int):Int:=k
theorem zG8 (xs:List Int) (hx:xs.length≤1049600∧∀y0∈xs,True) (k:Int) (h0:0≤k) (h1:k+cs c1 xs≤9223372036854775807):tJ xs k=some (k+cs c1 xs,pm zMQ c1 xs k):=by
 unfold tJ kH
 have key:=zCW zMQ c1 (fun y0=>True) zAT (b:=tL) ?_ ?_ xs [] k hx.2 h0 h1 (by have:=hx.1; simp; omega)
 ·simp only [List.nil_append,List.length_nil,Int.natCast_zero] at key
  rw [key]
  rfl
 ·intro l r x k hP h0 hk hl
  simp only [c1] at hk
  have w0:=xU (x:=k+1) (by omega) (by omega)
  have hi2:w64 ((l.length:Int)+1)=((l.length+1:Nat):Int):=zP (by omega)
  unfold tL
  rw [if_pos (by simp; omega)]
  simp only [zCB,zE4,Option.bind_some,Int.toNat_natCast,hi2,w0]
  rfl
 ·intro l k
  unfold tL
  rw [if_neg (by simp)]
noncomputable def zEj (_:ByteArray) (k:Int):ByteArray:=mT k
theorem zEh (xs:List ByteArray) (hx:xs.length≤1049600∧∀y0∈xs,y0.size≤1049600) (k:Int) (h0:0≤k) (h1:k+cs c1 xs≤9223372036854775807):wB xs k=some (k+cs c1 xs,pm zEj c1 xs k):=by
 unfold wB tY
 have key:=zCW zEj c1 (fun y0=>y0.size≤1049600) zAT (b:=uU) ?_ ?_ xs [] k hx.2 h0 h1 (by have:=hx.1; simp; omega)
 ·simp only [List.nil_append,List.length_nil,Int.natCast_zero] at key
  rw [key]
  rfl
 ·intro l r x k hP h0 hk hl
  simp only [c1] at hk
  have t0:=zDq (k:=k) (by omega) (by omega)
  have w0:=xU (x:=k+1) (by omega) (by omega)
  have hi2:w64 ((l.length:Int)+1)=((l.length+1:Nat):Int):=zP (by omega)
  unfold uU
  rw [if_pos (by simp; omega)]
  simp only [zCB,zE4,Option.bind_some,Int.toNat_natCast,hi2,t0,w0]
  rfl
 ·intro l k
  unfold uU
  rw [if_neg (by simp)]
theorem zGs (xs:List ByteArray) (hx:xs.length≤1049600∧∀y0∈xs,y0.size≤1049600) (k:Int) (h0:0≤k) (h1:k+cs c1 xs≤9223372036854775807):tK (pm zEj c1 xs k) k=some (k+cs c1 xs):=by
 unfold tK kN
 have key:=zI5 zEj c1 (fun y0=>y0.size≤1049600) zAT (b:=tZ) ?_ ?_ xs [] k hx.2 h0 h1 (by have:=hx.1; simp; omega)
 ·simp only [List.nil_append,List.length_nil,Int.natCast_zero] at key
  rw [key]
  rfl
 ·intro l r x k hP h0 hk hl
  simp only [c1] at hk
  have t0:=zDq (k:=k) (by omega) (by omega)
  have w0:=xU (x:=k+1) (by omega) (by omega)
  have hi2:w64 ((l.length:Int)+1)=((l.length+1:Nat):Int):=zP (by omega)
  unfold tZ
  rw [if_pos (by simp; omega)]
  simp [zCB,hi2,zEj,t0,w0]
  all_goals (first|rfl|omega|(simp only [c1]; omega))
 ·intro l k
  unfold tZ
  rw [if_neg (by simp)]
theorem zE3 (x:zJ) (hP:zJ.sm 1049600 x) (k:Int) (h0:0≤k) (h1:k+cs c1 x.Names≤9223372036854775807):xX x k=some (k+cs c1 x.Names,pm zEj c1 x.Names (k)):=by
 have n0:=vB zAT x.Names
 have t0:=zEh x.Names (hP.2) (k) (by omega) (by omega)
 unfold xX
 simp only [t0,Option.bind_some,zDE (zDp _ _ _ _)]
theorem zEM (x:zJ) (hP:zJ.sm 1049600 x) (k:Int) (h0:0≤k) (h1:k+cs c1 x.Names≤9223372036854775807):xD ({Code:=x.Code,Names:=pm zEj c1 x.Names (k)}:zJ) k=some (k+cs c1 x.Names):=by
 have n0:=vB zAT x.Names
 have t0:=zGs x.Names (hP.2) (k) (by omega) (by omega)
 have z0:¬(k+cs c1 x.Names<0):=by omega
 unfold xD
 simp [t0]
 all_goals (first|rfl|omega)
noncomputable def zM4 (x:Term) (k:Int):Term:=({Name:=mT (k),Low:=({A:=(k+1),B:=(k+1+1),C:=(k+1+1+1)}:Version),High:=({A:=(k+1+1+1+1),B:=(k+1+1+1+1+1),C:=(k+1+1+1+1+1+1)}:Version)}:Term)
noncomputable def zEf (x:Term):Int:=1+1+1+1+1+1+1
theorem zCY (x:Term):0≤zEf x:=by
 unfold zEf
 omega
theorem zEX (xs:List Term) (hx:xs.length≤1049600∧∀y0∈xs,Term.sm 1049600 y0) (k:Int) (h0:0≤k) (h1:k+cs zEf xs≤9223372036854775807):vL xs k=some (k+cs zEf xs,pm zM4 zEf xs k):=by
 unfold vL zAd
 have key:=zCW zM4 zEf (fun y0=>Term.sm 1049600 y0) zCY (b:=kE) ?_ ?_ xs [] k hx.2 h0 h1 (by have:=hx.1; simp; omega)
 ·simp only [List.nil_append,List.length_nil,Int.natCast_zero] at key
  rw [key]
  rfl
 ·intro l r x k hP h0 hk hl
  simp only [zEf] at hk
  have t0:=zDq (k:=k) (by omega) (by omega)
  have w0:=xU (x:=k+1) (by omega) (by omega)
  have w1:=xU (x:=k+1+1) (by omega) (by omega)
  have w2:=xU (x:=k+1+1+1) (by omega) (by omega)
  have w3:=xU (x:=k+1+1+1+1) (by omega) (by omega)
  have w4:=xU (x:=k+1+1+1+1+1) (by omega) (by omega)
  have w5:=xU (x:=k+1+1+1+1+1+1) (by omega) (by omega)
  have w6:=xU (x:=k+1+1+1+1+1+1+1) (by omega) (by omega)
  have hi2:w64 ((l.length:Int)+1)=((l.length+1:Nat):Int):=zP (by omega)
  unfold kE
  rw [if_pos (by simp; omega)]
  simp only [zCB,zE4,Option.bind_some,Int.toNat_natCast,hi2,t0,w0,w1,w2,w3,w4,w5,w6]
  rw [show k+1+1+1+1+1+1+1=k+zEf x from by simp only [zEf]; omega]
  rfl
 ·intro l k
  unfold kE
  rw [if_neg (by simp)]
noncomputable def zLD (x:(List Term)) (k:Int):(List Term):=pm zM4 zEf x k
noncomputable def zD1 (x:(List Term)):Int:=cs zEf x
theorem zDG (x:(List Term)):0≤zD1 x:=vB zCY x
theorem zG6 (xs:List (List Term)) (hx:xs.length≤1049600∧∀y0∈xs,y0.length≤1049600∧∀y1∈y0,Term.sm 1049600 y1) (k:Int) (h0:0≤k) (h1:k+cs zD1 xs≤9223372036854775807):tH xs k=some (k+cs zD1 xs,pm zLD zD1 xs k):=by
 unfold tH kM
 have key:=zCW zLD zD1 (fun y0=>y0.length≤1049600∧∀y1∈y0,Term.sm 1049600 y1) zDG (b:=tV) ?_ ?_ xs [] k hx.2 h0 h1 (by have:=hx.1; simp; omega)
 ·simp only [List.nil_append,List.length_nil,Int.natCast_zero] at key
  rw [key]
  rfl
 ·intro l r x k hP h0 hk hl
  simp only [zD1] at hk
  have n0:=vB zCY x
  have t0:=zEX x (hP) (k) (by omega) (by omega)
  have hi2:w64 ((l.length:Int)+1)=((l.length+1:Nat):Int):=zP (by omega)
  unfold tV
  rw [if_pos (by simp; omega)]
  simp only [zCB,zE4,Option.bind_some,Int.toNat_natCast,hi2,t0,zDE (zDp _ _ _ _)]
  rfl
 ·intro l k
  unfold tV
  rw [if_neg (by simp)]
noncomputable def zOc (x:Pack) (k:Int):Pack:=({Name:=mT (k),Version:=({A:=(k+1),B:=(k+1+1),C:=(k+1+1+1)}:Version),Size:=(k+1+1+1+1),Provides:=pm zEj c1 x.Provides (k+1+1+1+1+1),Needs:=pm zLD zD1 x.Needs (k+1+1+1+1+1+cs c1 x.Provides),Bars:=pm zM4 zEf x.Bars (k+1+1+1+1+1+cs c1 x.Provides+cs zD1 x.Needs)}:Pack)
noncomputable def zE5 (x:Pack):Int:=1+1+1+1+1+cs c1 x.Provides+cs zD1 x.Needs+cs zEf x.Bars
theorem zFz (x:Pack):0≤zE5 x:=by
 have n5:=vB zAT x.Provides
 have n6:=vB zDG x.Needs
 have n7:=vB zCY x.Bars
 unfold zE5
 omega
theorem zHh (xs:List Pack) (hx:xs.length≤1049600∧∀y0∈xs,Pack.sm 1049600 y0) (k:Int) (h0:0≤k) (h1:k+cs zE5 xs≤9223372036854775807):kI xs k=some (k+cs zE5 xs,pm zOc zE5 xs k):=by
 unfold kI zAb
 have key:=zCW zOc zE5 (fun y0=>Pack.sm 1049600 y0) zFz (b:=kK) ?_ ?_ xs [] k hx.2 h0 h1 (by have:=hx.1; simp; omega)
 ·simp only [List.nil_append,List.length_nil,Int.natCast_zero] at key
  rw [key]
  rfl
 ·intro l r x k hP h0 hk hl
  simp only [zE5] at hk
  have n5:=vB zAT x.Provides
  have n6:=vB zDG x.Needs
  have n7:=vB zCY x.Bars
  have t0:=zDq (k:=k) (by omega) (by omega)
  have w0:=xU (x:=k+1) (by omega) (by omega)
  have w1:=xU (x:=k+1+1) (by omega) (by omega)
  have w2:=xU (x:=k+1+1+1) (by omega) (by omega)
  have w3:=xU (x:=k+1+1+1+1) (by omega) (by omega)
  have w4:=xU (x:=k+1+1+1+1+1) (by omega) (by omega)
  have t5:=zEh x.Provides (hP.2.2.2.1) (k+1+1+1+1+1) (by omega) (by omega)
  have t6:=zG6 x.Needs (hP.2.2.2.2.1) (k+1+1+1+1+1+cs c1 x.Provides) (by omega) (by omega)
  have t7:=zEX x.Bars (hP.2.2.2.2.2) (k+1+1+1+1+1+cs c1 x.Provides+cs zD1 x.Needs) (by omega) (by omega)
  have hi2:w64 ((l.length:Int)+1)=((l.length+1:Nat):Int):=zP (by omega)
  unfold kK
  rw [if_pos (by simp; omega)]
  simp only [zCB,zE4,Option.bind_some,Int.toNat_natCast,hi2,t0,w0,w1,w2,w3,w4,t5,t6,t7,zDE (zDp _ _ _ _)]
  rw [show k+1+1+1+1+1+cs c1 x.Provides+cs zD1 x.Needs+cs zEf x.Bars=k+zE5 x from by simp only [zE5]; omega]
  rfl
 ·intro l k
  unfold kK
  rw [if_neg (by simp)]
theorem Version.zDc {x:Version} (h:Version.sm 1048576 x):Version.sm 1049600 x:=⟨trivial,trivial,trivial⟩
theorem Term.zDc {x:Term} (h:Term.sm 1048576 x):Term.sm 1049600 x:=⟨(Nat.le_trans h.1 (by decide)),(Version.zDc h.2.1),(Version.zDc h.2.2)⟩
theorem Pack.zDc {x:Pack} (h:Pack.sm 1048576 x):Pack.sm 1049600 x:=⟨(Nat.le_trans h.1 (by decide)),(Version.zDc h.2.1),trivial,⟨Nat.le_trans h.2.2.2.1.1 (by decide),fun y0 z0=>(Nat.le_trans (h.2.2.2.1.2 y0 z0) (by decide))⟩,⟨Nat.le_trans h.2.2.2.2.1.1 (by decide),fun y0 z0=>⟨Nat.le_trans (h.2.2.2.2.1.2 y0 z0).1 (by decide),fun y1 z1=>(Term.zDc ((h.2.2.2.2.1.2 y0 z0).2 y1 z1))⟩⟩,⟨Nat.le_trans h.2.2.2.2.2.1 (by decide),fun y0 z0=>(Term.zDc (h.2.2.2.2.2.2 y0 z0))⟩⟩
theorem File.zDc {x:File} (h:File.sm 1048576 x):File.sm 1049600 x:=⟨(Nat.le_trans h.1 (by decide)),⟨Nat.le_trans h.2.1 (by decide),fun y0 z0=>trivial⟩⟩
theorem zL.zDc {x:zL} (h:zL.sm 1048576 x):zL.sm 1049600 x:=⟨⟨Nat.le_trans h.1.1 (by decide),fun y0 z0=>(File.zDc (h.1.2 y0 z0))⟩,trivial,trivial,trivial,trivial⟩
theorem zFv (x:(List ByteArray)) (hx:x.length≤1049600∧∀y0∈x,y0.size≤1049600):cs c1 x≤1049600:=by
 have:=zIu (c:=c1) (C:=1) (N:=1049600) (by decide) x (fun a _=>by unfold c1; decide) hx.1
 omega
theorem zGI (x:(List Term)) (hx:x.length≤1049600∧∀y0∈x,Term.sm 1049600 y0):cs zEf x≤7347200:=by
 have:=zIu (c:=zEf) (C:=7) (N:=1049600) (by decide) x (fun a ha=>by have hP:=hx.2 a ha; unfold zEf; omega) hx.1
 omega
theorem zJq (x:(List (List Term))) (hx:x.length≤1049600∧∀y0∈x,y0.length≤1049600∧∀y1∈y0,Term.sm 1049600 y1):cs zD1 x≤7711621120000:=by
 have:=zIu (c:=zD1) (C:=7347200) (N:=1049600) (by decide) x (fun a ha=>zGI a (hx.2 a ha)) hx.1
 omega
theorem zKh (x:(List Pack)) (hx:x.length≤1049600∧∀y0∈x,Pack.sm 1049600 y0):cs zE5 x≤8094126340838528000:=by
 have:=zIu (c:=zE5) (C:=7711629516805) (N:=1049600) (by decide) x (fun a ha=>by have hP:=hx.2 a ha; have q5:=zFv a.Provides (hP.2.2.2.1); have q6:=zJq a.Needs (hP.2.2.2.2.1); have q7:=zGI a.Bars (hP.2.2.2.2.2); unfold zE5; omega) hx.1
 omega
theorem zKC (x:(List Int)) (hx:x.length≤1049600∧∀y0∈x,True):cs c1 x≤1049600:=by
 have:=zIu (c:=c1) (C:=1) (N:=1049600) (by decide) x (fun a _=>by unfold c1; decide) hx.1
 omega
theorem zKw (x:(List File)) (hx:x.length≤1049600∧∀y0∈x,File.sm 1049600 y0):cs cFile x≤1101661209600:=by
 have:=zIu (c:=cFile) (C:=1049601) (N:=1049600) (by decide) x (fun a ha=>by have hP:=hx.2 a ha; have q1:=zKC a.Data (hP.2); unfold cFile; omega) hx.1
 omega
theorem zJe (x:(List Int)) (hx:x.length≤1049600∧∀y0∈x,True):cs c1 x≤1049600:=by
 have:=zIu (c:=c1) (C:=1) (N:=1049600) (by decide) x (fun a _=>by unfold c1; decide) hx.1
 omega
theorem zD2 (a1:(List Pack)) (a2:zL) (a3:(List Int)) (k0:a1.length≤maxLen∧∀y1∈a1,Pack.ok y1) (k1:zL.ok a2) (k2:a3.length≤maxLen∧∀y1∈a3,IntKind.i64.min≤y1∧y1≤IntKind.i64.max) (both:(a1.length≤1048576∧∀y0∈a1,Pack.sm 1048576 y0)→(zL.sm 1048576 a2)→(a3.length≤1048576∧∀y0∈a3,True)→∃r,wX a1 a2 a3=some r∧xR a1 a2 a3=some r∧(zJ.sm 1049600 r)):xI a1 a2 a3=some true:=by
 unfold xI
 by_cases d1:(a3.length:Int)>1048576
 ·rw [if_pos (by simpa using d1)]
 rw [if_neg (by simpa using d1)]
 have s_a3:a3.length≤1048576∧∀y0∈a3,True:=⟨by omega,fun _ _=>trivial⟩
 obtain ⟨r2,e2,g2⟩:=zKa a1 k0 1048576 (by omega) (by omega)
 rw [e2]
 simp only [Option.bind_some]
 by_cases d2:r2<0
 ·rw [if_pos (by simpa using d2)]
 rw [if_neg (by simpa using d2)]
 obtain ⟨p2,q2,s_a1⟩:=g2.resolve_left d2
 obtain ⟨r3,e3,g3⟩:=zKZ a2 k1 r2 (by omega) (by omega)
 rw [e3]
 simp only [Option.bind_some]
 by_cases d3:r3<0
 ·rw [if_pos (by simpa using d3)]
 rw [if_neg (by simpa using d3)]
 obtain ⟨p3,q3,s_a2⟩:=g3.resolve_left d3
 obtain ⟨r,e1,e2,hr⟩:=both s_a1 s_a2 s_a3
 have m_a1:a1.length≤1049600∧∀y0∈a1,Pack.sm 1049600 y0:=⟨Nat.le_trans s_a1.1 (by decide),fun y0 z0=>(Pack.zDc (s_a1.2 y0 z0))⟩
 have m_a2:zL.sm 1049600 a2:=(zL.zDc s_a2)
 have m_a3:a3.length≤1049600∧∀y0∈a3,True:=⟨Nat.le_trans s_a3.1 (by decide),fun y0 z0=>trivial⟩
 have n1:=vB zFz a1
 have b1:=zKh a1 (m_a1)
 have n3:=vB zDX a2.Files
 have b3:=zKw a2.Files (m_a2.1)
 have n5:=vB zAT a3
 have b5:=zJe a3 (m_a3)
 have n7:=vB zAT r.Names
 have b7:=zFv r.Names (hr.2)
 have t2:=zHh a1 m_a1 (1) (by omega) (by omega)
 have t4:=zHG a2 m_a2 (1+cs zE5 a1) (by omega) (by omega)
 have t6:=zG8 a3 m_a3 (1+cs zE5 a1+cs cFile a2.Files) (by omega) (by omega)
 have z1:¬(1+cs zE5 a1+cs cFile a2.Files+cs c1 a3<0):=by omega
 have t8:=zE3 r hr 1 (by omega) (by omega)
 have u8:=zEM r hr 1 (by omega) (by omega)
 have z2:¬(1+cs c1 r.Names<0):=by omega
 simp [e1,e2,zKg a1 m_a1,zHR a1 m_a1,zLb a2 m_a2,zJm a2 m_a2,zJb a3 m_a3,zHi a3 m_a3,zEO r hr,t2,t4,t6,z1,t8,u8,z2,zDE (zDp _ _ _ _)]
def bl (s:ByteArray):List Int:=s.toList.map (fun b=>(b.toNat:Int))
theorem yL (s:ByteArray):(bl s).length =s.size:=by
 unfold bl
 rw [List.length_map,ByteArray.toList_eq]
 rfl
theorem zDJ {s:ByteArray} {i:Nat} (h:i< (bl s).length):bidx s (i:Int)=some (bl s)[i]:=by
 unfold bidx
 rw [if_pos (by omega)]
 have hs:i<s.size:=by rw [yL] at h; exact h
 have e:s[(i:Int).toNat]? =some s[i]:=by simp [hs]
 rw [e]
 simp only [Option.map_some,bl,List.getElem_map]
 congr 2
 simp only [ByteArray.toList_eq]
 rfl
theorem zHu {s:ByteArray}:∀c∈bl s,0≤c∧c≤255:=by
 intro c hc
 unfold bl at hc
 obtain ⟨b,_,rfl⟩:=List.mem_map.1 hc
 have:=b.toNat_lt
 omega
theorem zGq:∀(a:List UInt8),Op.bytesLess a a=false
 |[]=>rfl
 |x::a=>by simp [Op.bytesLess,zGq a]
theorem zGA:∀{a b c:List UInt8},Op.bytesLess a b=true→Op.bytesLess b c=true→Op.bytesLess a c=true
 |_,[],_,h,_=>by simp [Op.bytesLess] at h
 |_,_::_,[],_,h=>by simp [Op.bytesLess] at h
 |[],_::_,_::_,_,_=>by simp [Op.bytesLess]
 |x::a,y::b,z::c,h1,h2=>by
  simp only [Op.bytesLess,Bool.or_eq_true,decide_eq_true_eq,Bool.and_eq_true,beq_iff_eq] at h1 h2 ⊢
  rcases h1 with h1|⟨rfl,h1⟩
  ·rcases h2 with h2|⟨rfl,h2⟩
   ·exact .inl (UInt8.lt_trans h1 h2)
   ·exact .inl h1
  ·rcases h2 with h2|⟨rfl,h2⟩
   ·exact .inl h2
   ·exact .inr ⟨rfl,zGA h1 h2⟩
theorem zJA:∀(a b:List UInt8),Op.bytesLess a b=false→a≠b→Op.bytesLess b a=true
 |[],[],_,h=>absurd rfl h
 |[],_::_,h,_=>by simp [Op.bytesLess] at h
 |_::_,[],_,_=>by simp [Op.bytesLess]
 |x::a,y::b,h,hne=>by
  simp only [Op.bytesLess,Bool.or_eq_false_iff,decide_eq_false_iff_not,Bool.and_eq_false_iff,beq_eq_false_iff_ne] at h
  simp only [Op.bytesLess,Bool.or_eq_true,decide_eq_true_eq,Bool.and_eq_true,beq_iff_eq]
  by_cases hxy:x=y
  ·subst hxy
   refine .inr ⟨rfl,zJA a b ?_ (fun e=>hne (by rw [e]))⟩
   rcases h.2 with h'|h'
   ·exact absurd rfl h'
   ·exact h'
  ·refine .inl ?_
   have:=h.1
   rw [UInt8.lt_iff_toNat_lt] at this ⊢
   have:x.toNat≠y.toNat:=fun e=>hxy (UInt8.toNat_inj.1 e)
   omega
theorem toList_inj {a b:ByteArray} (h:a.toList=b.toList):a=b:=by
 rw [ByteArray.toList_eq,ByteArray.toList_eq] at h
 cases a; cases b
 simp at h
 rw [h]
theorem zCS (a:ByteArray):slt a a=false:=zGq _
theorem zDa {a b c:ByteArray} (h1:slt a b=true) (h2:slt b c=true):slt a c=true:=zGA h1 h2
theorem zNy {a b:ByteArray} (h:slt a b=false) (hne:a≠b):slt b a=true:=zJA _ _ h (fun e=>hne (toList_inj e))
theorem zFh {a b:ByteArray}:seq a b=true↔a=b:=by
 unfold seq
 simp only [beq_iff_eq]
 exact ⟨toList_inj,fun e=>by rw [e]⟩
theorem seq_eq (a b:ByteArray):seq a b=decide (a=b):=by
 rw [Bool.eq_iff_iff,zFh]; simp
theorem zOh (a b c:Int):yZ a b c=some (decide (a≥b)&&decide (a≤c)):=by
 unfold yZ
 cases decide (a≥b)<;>rfl
theorem zCZ (a b:ByteArray):bl (a++b)=bl a++bl b:=by
 unfold bl
 rw [ByteArray.toList_eq,ByteArray.toList_eq,ByteArray.toList_eq]
 simp
theorem zCA (s:ByteArray) (i j:Nat):bl (s.extract i j)=((bl s).drop i).take (j-i):=by
 unfold bl
 rw [ByteArray.toList_eq,ByteArray.toList_eq]
 simp [List.map_drop,List.map_take]
theorem zGT {a b:ByteArray}:bl a=bl b↔a=b:=by
 constructor
 ·intro h
  unfold bl at h
  refine toList_inj ?_
  have hinj:∀(x y:List UInt8),x.map (fun b=>(b.toNat:Int))=y.map (fun b=>(b.toNat:Int))→x=y:=by
   intro x
   induction x with
   |nil=>intro y h; cases y<;>simp_all
   |cons u x ih=>
    intro y h
    cases y with
    |nil=>simp at h
    |cons v y=>
     simp only [List.map_cons,List.cons.injEq] at h
     rw [ih y h.2]
     have:u.toNat=v.toNat:=by omega
     rw [UInt8.toNat_inj.1 this]
  exact hinj _ _ h
 ·intro h; rw [h]
theorem zMT (a b:ByteArray):seq a b=decide (bl a=bl b):=by
 rw [seq_eq]
 simp [zGT]
theorem zJr {c:Int} (h0:0≤c) (h1:c≤255):bl (b2s [c])=[c]:=by
 unfold bl b2s
 rw [ByteArray.toList_eq]
 simp only [List.foldl_cons,List.foldl_nil]
 show [((UInt8.ofNat c.toNat).toNat :Int)]=[c]
 simp
 omega
theorem wrap_u8 {c:Int} (h0:0≤c) (h1:c≤255):IntKind.u8.wrap c=c:=by
 simp only [IntKind.wrap,IntKind.signed,IntKind.bits]
 simp
 omega
def zEx (n:Nat):List Int:=if n<10 then [48+(n:Int)] else zEx (n / 10)++[48+((n%10:Nat):Int)]
termination_by n
decreasing_by omega
theorem zA3 {n:Nat} (h:n<10):zEx n=[48+(n:Int)]:=by rw [zEx,if_pos h]
theorem zDi {n:Nat} (h:¬n<10):zEx n=zEx (n / 10)++[48+((n%10:Nat):Int)]:=by rw [zEx,if_neg h]
theorem zEA:∀(k n:Nat),10^k≤n→n<10^(k+1)→(zEx n).length =k+1
 |0,n,_,h=>by rw [zA3 (by simpa using h)]; rfl
 |k+1,n,h1,h2=>by
  have hp:1≤10^k:=Nat.one_le_pow _ _ (by omega)
  rw [Nat.pow_succ] at h1
  rw [Nat.pow_succ] at h2
  rw [zDi (by omega),List.length_append,zEA k (n / 10) (by omega) (by omega)]
  rfl
theorem zFU:∀(k n:Nat),n<10^(k+1)→(zEx n).length ≤k+1
 |0,n,h=>by rw [zA3 (by simpa using h)]; simp
 |k+1,n,h=>by
  by_cases hn:n<10
  ·rw [zA3 hn]; simp
  ·rw [Nat.pow_succ] at h
   rw [zDi hn,List.length_append]
   have:=zFU k (n / 10) (by omega)
   simp only [List.length_singleton]
   omega
theorem zGx (g:Int→Option ByteArray) (a1:Int):vQ g a1=if decide (a1<10) then some (b2s [IntKind.u8.wrap (w64 (48+a1))]) else (g (w64 (a1.tdiv 10))).bind fun x3=>(cat x3 (b2s [IntKind.u8.wrap (w64 (48+(a1.tmod 10)))])).bind fun x5=>some x5:=rfl
theorem zEv:∀(k f n:Nat),n<10^(k+1)→k<f→n≤9000000000000000000→k≤100→∃s,zN2 vQ f (n:Int)=some s∧bl s=zEx n
 |k,0,n,_,hf,_,_=>by omega
 |k,f+1,n,h,hf,hn,hk=>by
  rw [show zN2 vQ (f+1) (n:Int)=vQ (zN2 vQ f) (n:Int) from rfl,zGx]
  by_cases h1:n<10
  ·rw [if_pos (by simp; omega),xU (by omega) (by omega),wrap_u8 (by omega) (by omega)]
   exact ⟨_,rfl,by rw [zJr (by omega) (by omega),zA3 h1]⟩
  ·rw [if_neg (by simp; omega)]
   cases k with
   |zero=>simp at h; omega
   |succ k=>
    have e1:w64 ((n:Int).tdiv 10)=((n / 10:Nat):Int):=by
     rw [Int.tdiv_eq_ediv_of_nonneg (by omega),xU (by omega) (by omega)]; omega
    have e2:(n:Int).tmod 10=((n%10:Nat):Int):=by
     rw [Int.tmod_eq_emod_of_nonneg (by omega)]; omega
    rw [Nat.pow_succ] at h
    obtain ⟨s,e,hs⟩:=zEv k f (n / 10) (by omega) (by omega) (by omega) (by omega)
    rw [e1,e2,e,xU (by omega) (by omega),wrap_u8 (by omega) (by omega)]
    have hsz:s.size≤k+1:=by
     rw [←yL,hs]
     exact zFU k (n / 10) (by omega)
    simp only [Option.bind_some]
    unfold cat
    rw [if_pos (by have:(b2s [48+((n%10:Nat):Int)]).size =1:=rfl; omega)]
    exact ⟨_,rfl,by rw [zCZ,hs,zJr (by omega) (by omega),zDi h1]⟩
theorem zEu (n:Nat) (h:n≤9000000000000000000):∃s,xS (n:Int)=some s∧bl s=zEx n:=
 zEv 18 64 n (by omega) (by omega) h (by omega)
theorem zK1 (l:List UInt8):bl (bs l)=l.map (fun b=>(b.toNat:Int)):=by
 unfold bl bs
 rw [ByteArray.toList_eq]
theorem zCX {a b:ByteArray} (h:a.size+b.size≤1099511627776):cat a b=some (a++b):=if_pos h
theorem zHd (a b c:ByteArray):a++b++c=a++(b++c):=zGT.1 (by simp only [zCZ,List.append_assoc])
theorem zCN (a b:ByteArray):(a++b).size =a.size+b.size:=by
 rw [←yL,zCZ,List.length_append,yL,yL]
theorem zEz {n:Nat} (h:n<256):(UInt8.ofNat n).toNat =n:=by
 simp [Nat.mod_eq_of_lt h]
theorem decDigits_eq:∀(n:Nat),(Lib.decDigits n).map (fun b=>(b.toNat:Int))=zEx n:=by
 intro n
 induction n using Nat.strongRecOn with
 |ind n ih=>
  rw [Lib.decDigits]
  by_cases h:n<10
  ·rw [dif_pos h,zA3 h]
   simp only [List.map_cons,List.map_nil]
   rw [zEz (by omega)]
   simp
  ·rw [dif_neg h,zDi h,List.map_append,ih (n / 10) (by omega)]
   simp only [List.map_cons,List.map_nil]
   rw [zEz (by omega)]
   simp
def zHD (n:Nat):ByteArray:=⟨(Lib.decDigits n).toArray⟩
theorem zEF (n:Nat):bl (zHD n)=zEx n:=by
 unfold bl zHD
 rw [ByteArray.toList_eq]
 exact decDigits_eq n
theorem zFw (n:Nat) (h:n≤9000000000000000000):xS (n:Int)=some (zHD n):=by
 obtain ⟨s,e,hs⟩:=zEu n h
 rw [e,zGT.1 (hs.trans (zEF n).symm)]
theorem zF3 (n:Nat) (h:n≤9000000000000000000):vZ (n:Int) 10=some (zHD n):=by
 unfold vZ
 rw [if_pos (by omega)]
 unfold Lib.itoa zHD
 rw [if_neg (by omega)]
 simp
def inB (a b c:Int):Bool:=decide (b≤a)&&decide (a≤c)
theorem zIU (a b c:Int):yZ a b c=some (inB a b c):=by
 unfold yZ inB
 by_cases h:a≥b<;>simp [h]
theorem zIi (a b c:Int):yN a b c=some (inB a b c):=by
 unfold yN inB
 by_cases h:b≤a<;>simp [h]
section del
variable {α:Type} (p:α→Bool)
theorem zDI {xs:List α} {l h:Nat} (h1:l≤h) (h2:h≤xs.length):zEq xs (l:Int) (h:Int)=some ((xs.drop l).take (h-l)):=by
 unfold zEq
 rw [if_pos (by omega)]
 rfl
end del
section del
variable {α:Type} (p:α→Bool)
theorem zJ1 {xs:List α} {l n:Nat} {a:α} (h:l+n≤xs.length):zL8 xs (l:Int) n a=some (xs.take l++List.replicate n a++xs.drop (l+n)):=by
 unfold zL8
 rw [if_pos (by omega)]
 simp [ovr]
end del
section del
variable {α:Type} (p:α→Bool)
theorem zM3 {R:Type} (a1:List α) (out:Int→R) {b:Int→Option (Lp Int (Fl R Unit))} (hl:a1.length<9223372036854775807)
  (hstep:∀(i:Nat) (hi:i<a1.length),b (i:Int)=some (if p a1[i] then .done (.ret (out i)) else .go ((i+1:Nat):Int))) (hend:b (a1.length:Int)=some (.done (.nxt ()))):
  ∃t,loop b 0=some t∧((t= .nxt ()∧∀x∈a1,p x=false)∨∃i:Nat,∃hi:i<a1.length,t= .ret (out i)∧p a1[i]=true∧∀x∈a1.take i,p x=false):=by
 refine tF (b:=b) (fun i s=>s=(i:Int)∧∀x∈a1.take i,p x=false) a1.length _ (by
  rintro i s hi ⟨rfl,hn⟩
  have e:=hstep i hi
  cases hp:p a1[i]
  ·rw [hp] at e
   refine .inl ⟨_,e,rfl,fun x hx=>?_⟩
   rw [List.take_succ_eq_append_getElem hi] at hx
   rcases List.mem_append.1 hx with hx|hx
   ·exact hn x hx
   ·simp at hx; rw [hx]; exact hp
  ·rw [hp] at e
   exact .inr ⟨_,e,.inr ⟨i,hi,rfl,hp,hn⟩⟩) (by
  rintro s ⟨rfl,hn⟩
  rw [List.take_length] at hn
  exact ⟨_,hend,.inl ⟨rfl,hn⟩⟩) a1.length 0 0 (by omega) ⟨rfl,by simp⟩
end del
section del
variable {α:Type} (p:α→Bool)
theorem zDM {xs:List α} {i:Nat} {x:α} (h:i<xs.length):(xs.set i x).take (i+1)=xs.take i++[x]:=by
 rw [List.take_succ_eq_append_getElem (by simpa using h),List.take_set_of_le (Nat.le_refl _)]
 simp
end del
section del
variable {α:Type} (p:α→Bool)
theorem set_drop {xs:List α} {i j:Nat} {x:α} (h:i<j):(xs.set i x).drop j=xs.drop j:=by
 rw [List.drop_set_of_lt h]
end del
section del
variable {α:Type} (p:α→Bool)
theorem zL7 (a:List α) {b:(List α×Int×Int)→Option (Lp (List α×Int×Int) (List α×Int))} (hl:a.length<9223372036854775807)
  (hstep:∀(xs:List α) (i j:Nat) (hj:j<xs.length),i≤j→xs.length=a.length→xs[j]∈a→b (xs,(i:Int),(j:Int))=some (.go (if p xs[j] then (xs,(i:Int),((j+1:Nat):Int)) else (xs.set i xs[j],((i+1:Nat):Int),((j+1:Nat):Int)))))
  (hend:∀(xs:List α) (i:Nat),xs.length=a.length→b (xs,(i:Int),(xs.length:Int))=some (.done (xs,(i:Int)))) (i0 j0:Nat) (hij:i0≤j0) (hj0:j0≤a.length) (h0:a.take i0=(a.take j0).filter (fun x=> !p x)):
  ∃ys:List α,loop b (a,(i0:Int),(j0:Int))=some (ys,((a.filter (fun x=> !p x)).length :Int))∧ys.length=a.length∧ys.take (a.filter (fun x=> !p x)).length =a.filter (fun x=> !p x):=by
 obtain ⟨t,e,h⟩:=tF (b:=b) (fun j s=>s.1.length=a.length∧s.1.drop j=a.drop j∧s.2.2=(j:Int)∧∃i:Nat,s.2.1=(i:Int)∧i≤j∧s.1.take i=(a.take j).filter (fun x=> !p x)) a.length
  (fun t=>t.1.length=a.length∧∃i:Nat,t.2=(i:Int)∧i≤a.length∧t.1.take i=a.filter (fun x=> !p x)) (by
  rintro j ⟨xs,i',j'⟩ hj ⟨hxl,hxd,hjj,i,hi,hle,ht⟩
  simp only at hxl hxd hjj hi ht
  subst hjj hi
  have hjx:j<xs.length:=by omega
  have hx:xs[j]=a[j]:=by
   have:=congrArg (fun l=>l[0]?) hxd
   simp only [List.getElem?_drop,Nat.add_zero] at this
   rw [List.getElem?_eq_getElem hjx,List.getElem?_eq_getElem hj] at this
   exact Option.some.inj this
  have e:=hstep xs i j hjx hle hxl (by rw [hx]; exact List.getElem_mem hj)
  have htk:(a.take (j+1)).filter (fun x=> !p x)=(a.take j).filter (fun x=> !p x)++(if p a[j] then [] else [a[j]]):=by
   rw [List.take_succ_eq_append_getElem hj,List.filter_append]
   cases h:p a[j]<;>simp [h]
  have hd1:a.drop (j+1)=xs.drop (j+1):=by
   have:=congrArg (List.drop 1) hxd
   simpa [List.drop_drop] using this.symm
  rw [hx] at e
  cases hp:p a[j]
  ·rw [hp] at e htk
   refine .inl ⟨_,e,by simpa using hxl,?_,rfl,i+1,rfl,by omega,?_⟩
   ·show (xs.set i a[j]).drop (j+1)=a.drop (j+1)
    rw [set_drop (by omega),hd1]
   ·show (xs.set i a[j]).take (i+1)=_
    rw [zDM (by omega),htk,ht]
    rfl
  ·rw [hp] at e htk
   refine .inl ⟨_,e,hxl,?_,rfl,i,rfl,by omega,?_⟩
   ·exact hd1.symm
   ·show xs.take i=_
    rw [htk,ht]
    simp) (by
  rintro ⟨xs,i',j'⟩ ⟨hxl,hxd,hjj,i,hi,hle,ht⟩
  simp only at hxl hxd hjj hi ht
  subst hjj hi
  have e:=hend xs i hxl
  rw [hxl] at e
  refine ⟨_,e,hxl,i,rfl,hle,?_⟩
  rw [List.take_length] at ht
  exact ht) (a.length-j0) j0 (a,(i0:Int),(j0:Int)) (by omega) ⟨rfl,rfl,rfl,i0,rfl,hij,h0⟩
 obtain ⟨ys,i'⟩:=t
 obtain ⟨h1,i,h2,h3,h4⟩:=h
 simp only at h1 h2 h4
 subst h2
 have hlen:i=(a.filter (fun x=> !p x)).length :=by rw [←h4]; simp; omega
 subst hlen
 exact ⟨ys,e,h1,h4⟩
end del
section del
variable {α:Type} (p:α→Bool)
theorem zNp {a ys:List α} (zero:α) (h1:ys.length=a.length) (h2:ys.take (a.filter (fun x=> !p x)).length =a.filter (fun x=> !p x)):
  (zEq ys ((a.filter (fun x=> !p x)).length :Int) (ys.length:Int)).bind (fun r=>(zL8 ys ((a.filter (fun x=> !p x)).length :Int) r.length zero).bind fun z=>(zEq z 0 ((a.filter (fun x=> !p x)).length :Int)).bind fun q=>some q)=some (a.filter (fun x=> !p x)):=by
 have hle:(a.filter (fun x=> !p x)).length ≤ys.length:=by rw [h1]; exact List.length_filter_le _ _
 rw [zDI hle (Nat.le_refl _)]
 simp only [Option.bind_some]
 rw [zJ1 (by simp; omega)]
 simp only [Option.bind_some]
 have:zEq (List.take (List.filter (fun x=> !p x) a).length ys++List.replicate (List.take (ys.length-(List.filter (fun x=> !p x) a).length) (List.drop (List.filter (fun x=> !p x) a).length ys)).length zero++
   List.drop ((List.filter (fun x=> !p x) a).length +(List.take (ys.length-(List.filter (fun x=> !p x) a).length) (List.drop (List.filter (fun x=> !p x) a).length ys)).length) ys) ((0:Nat):Int) ((a.filter (fun x=> !p x)).length :Int)=some (a.filter (fun x=> !p x)):=by
  rw [zDI (by omega) (by simp; omega)]
  rw [h2]
  simp
 exact (congrArg (fun o=>Option.bind o fun q=>some q) this)
end del
section del
variable {α:Type} (p:α→Bool)
theorem zNk (a:List α) (zero:α) (hl:a.length≤1048577) {b1:Int→Option (Lp Int (Fl Int Unit))} {b2:(List α×Int×Int)→Option (Lp (List α×Int×Int) (List α×Int))}
  (h1:∀(i:Nat) (hi:i<a.length),b1 (i:Int)=some (if p a[i] then .done (.ret (i:Int)) else .go ((i+1:Nat):Int))) (h1e:b1 (a.length:Int)=some (.done (.nxt ())))
  (h2:∀(xs:List α) (i j:Nat) (hj:j<xs.length),i≤j→xs.length=a.length→xs[j]∈a→b2 (xs,(i:Int),(j:Int))=some (.go (if p xs[j] then (xs,(i:Int),((j+1:Nat):Int)) else (xs.set i xs[j],((i+1:Nat):Int),((j+1:Nat):Int)))))
  (h2e:∀(xs:List α) (i:Nat),xs.length=a.length→b2 (xs,(i:Int),(xs.length:Int))=some (.done (xs,(i:Int)))):
  ((loop b1 0).bind (Fl.go some fun _=>some (-1))).bind (fun x4=>if x4==(-1) then (some a) else ((loop b2 (a,x4,w64 (x4+1))).bind fun v26=>(zEq v26.1 v26.2 (v26.1.length:Int)).bind fun x27=>(zL8 v26.1 v26.2 x27.length zero).bind fun x29=>(zEq x29 0 v26.2).bind fun x31=>some x31))=some (a.filter (fun x=> !p x)):=by
 obtain ⟨t,e,h⟩:=zM3 p a (fun i=>i) (b:=b1) (by omega) h1 h1e
 rw [e]
 rcases h with ⟨rfl,hn⟩|⟨i,hi,rfl,hp,hn⟩
 ·show some a=_
  congr 1
  exact (List.filter_eq_self.2 (fun x hx=>by rw [hn x hx]; rfl)).symm
 ·simp only [Option.bind_some,Fl.go]
  rw [if_neg (by simp),zP (by omega)]
  obtain ⟨ys,e2,h3,h4⟩:=zL7 p a (b:=b2) (by omega) h2 h2e i (i+1) (by omega) (by omega) (by
   rw [List.take_succ_eq_append_getElem hi,List.filter_append]
   rw [List.filter_eq_self.2 (fun x hx=>by rw [hn x hx]; rfl)]
   simp [hp])
  rw [e2]
  simp only [Option.bind_some]
  exact zNp p zero h3 h4
end del
def uS {α R:Type} (g:Nat→α→Option R):Nat→List α→Option R
 |_,[]=>none
 |i,x::xs=>match g i x with
  |some r=>some r
  |none=>uS g (i+1) xs
def frs {R:Type}:Option R→Fl R Unit
 |some r=>.ret r
 |none=>.nxt ()
theorem zGC {α R:Type} (xs:List α) (g:Nat→α→Option R) {b:Int→Option (Lp Int (Fl R Unit))}
  (hstep:∀(i:Nat) (hi:i<xs.length),b (i:Int)=some (match g i xs[i] with|some r=>.done (.ret r)|none=>.go ((i+1:Nat):Int))) (hend:b (xs.length:Int)=some (.done (.nxt ()))):
  ∀(k i:Nat),i+k=xs.length→loop b (i:Int)=some (frs (uS g i (xs.drop i)))
 |0,i,h=>by
  have e:i=xs.length:=by omega
  subst e
  rw [vN,hend,List.drop_length]
  rfl
 |k+1,i,h=>by
  have hi:i<xs.length:=by omega
  have ih:=zGC xs g hstep hend k (i+1) (by omega)
  rw [vN,hstep i hi,List.drop_eq_getElem_cons hi]
  simp only [uS]
  cases g i xs[i] with
  |some r=>rfl
  |none=>exact ih
theorem vD {α R:Type} (xs:List α) (g:Nat→α→Option R) {b:Int→Option (Lp Int (Fl R Unit))}
  (hstep:∀(i:Nat) (hi:i<xs.length),b (i:Int)=some (match g i xs[i] with|some r=>.done (.ret r)|none=>.go ((i+1:Nat):Int))) (hend:b (xs.length:Int)=some (.done (.nxt ()))):
  loop b 0=some (frs (uS g 0 xs)):=by
 have:=zGC xs g hstep hend xs.length 0 (by omega)
 simpa using this
theorem zD6 {R T:Type} (o:Option R) (f:R→Option T) (h:Unit→Option T):(some (frs o)).bind (Fl.go f h)=match o with|some r=>f r|none=>h ():=by
 cases o<;>rfl
theorem zD3 {α:Type} (p:α→Bool):∀(xs:List α) (i:Nat),((uS (fun j x=>if p x then some (j:Int) else none) i xs).getD (-1)≥0)↔xs.any p=true
 |[],i=>by simp [uS]
 |x::xs,i=>by
  simp only [uS]
  cases h:p x
  ·simp only [Bool.false_eq_true,if_false,List.any_cons,h,Bool.false_or]
   exact zD3 p xs (i+1)
  ·simp [h]
theorem zHU {α:Type} (p:α→Bool):∀(xs:List α) (i:Nat),(uS (fun _ x=>if p x then some true else none) i xs).getD false=xs.any p
 |[],i=>rfl
 |x::xs,i=>by
  simp only [uS]
  cases h:p x
  ·simp only [Bool.false_eq_true,if_false,List.any_cons,h,Bool.false_or]
   exact zHU p xs (i+1)
  ·simp [h]
def foldI {α A:Type} (f:Nat→A→α→A):Nat→List α→A→A
 |_,[],a=>a
 |i,x::xs,a=>foldI f (i+1) xs (f i a x)
theorem zGB {α A:Type} (xs:List α) (f:Nat→A→α→A) (I:Nat→A→Prop) {b:(A×Int)→Option (Lp (A×Int) A)}
  (hstep:∀(i:Nat) (a:A) (hi:i<xs.length),I i a→b (a,(i:Int))=some (.go (f i a xs[i],((i+1:Nat):Int)))∧I (i+1) (f i a xs[i])) (hend:∀a,b (a,(xs.length:Int))=some (.done a)):
  ∀(k i:Nat) (a:A),i+k=xs.length→I i a→loop b (a,(i:Int))=some (foldI f i (xs.drop i) a)∧I xs.length (foldI f i (xs.drop i) a)
 |0,i,a,h,hI=>by
  have e:i=xs.length:=by omega
  subst e
  rw [vN,hend,List.drop_length]
  exact ⟨rfl,hI⟩
 |k+1,i,a,h,hI=>by
  have hi:i<xs.length:=by omega
  obtain ⟨h1,h2⟩:=hstep i a hi hI
  have ih:=zGB xs f I hstep hend k (i+1) _ (by omega) h2
  rw [vN,h1,List.drop_eq_getElem_cons hi]
  exact ih
theorem zFD {o:Option Int} {b:Bool} (h:(o.getD (-1)≥0)↔b=true):decide (o.getD (-1)≥0)=b:=by
 rw [Bool.eq_iff_iff,decide_eq_true_eq]; exact h
def zJv (c:Int):Bool:=(decide (c≥97)&&decide (c≤122))||(decide (c≥48)&&decide (c≤57))||c==95
def zIO (c:Int):Bool:=zJv c||c==46||c==45||c==47
theorem zGy (c:Int):vF c=some (zJv c):=by
 unfold vF wQ wY zJv
 cases decide (c≥97)<;>cases decide (c≤122)<;>cases decide (c≥48)<;>cases decide (c≤57)<;>rfl
theorem zEt (c:Int):zCv c=some (zIO c):=by
 unfold zCv zIO
 rw [zGy]
 cases zJv c<;>cases (c==46)<;>cases (c==45)<;>cases (c==47)<;>rfl
theorem zEJ (c:Int):xA c=some (zJv c):=by
 unfold xA zJv
 cases decide (c≥97)<;>cases decide (c≤122)<;>cases decide (c≥48)<;>cases decide (c≤57)<;>rfl
theorem zI0 (s:ByteArray):zAs s=wK s:=by
 unfold zAs wK
 have:jP s=vV s:=by
  unfold jP vV
  refine zFt fun i=>?_
  unfold zCJ tC
  split
  ·congr 1
   funext c
   rw [zEt,zEJ]
   unfold zIO
   simp only [bne]
   cases zJv c<;>cases (c==46)<;>cases (c==45)<;>cases (c==47)<;>rfl
  ·rfl
 rw [this]
def zGd (s:ByteArray):Prop:=1≤s.size∧s.size≤40∧∀c∈bl s,zIO c=true
theorem zG5 (s:ByteArray):(zGd s∧wK s=some 0)∨(¬zGd s∧wK s=some 5):=by
 unfold wK
 by_cases h1:s.size<1
 ·refine .inr ⟨fun h=>by have:=h.1; omega,?_⟩
  rw [if_pos (by simp; omega)]; rfl
 ·rw [if_neg (by simp; omega)]
  simp only [Option.bind_some]
  by_cases h2:s.size>40
  ·refine .inr ⟨fun h=>by have:=h.2.1; omega,?_⟩
   rw [if_pos (by simp; omega)]
  ·rw [if_neg (by simp; omega)]
   obtain ⟨t,e,h⟩:=tF (b:=tC s) (fun i j=>j=(i:Int)∧∀k,(hk:k< (bl s).length)→k<i→zIO (bl s)[k]=true) (bl s).length (fun t=>match t with| .ret r=>r=5∧¬zGd s| .nxt _=>∀c∈bl s,zIO c=true) (by
    rintro i j hi ⟨rfl,hp⟩
    have hs:=yL s
    unfold tC
    rw [if_pos (by simp; omega),zDJ hi]
    simp only [Option.bind_some,zEt]
    cases hb:zIO (bl s)[i] with
    |false=>exact .inr ⟨_,rfl,rfl,fun h=>by have:=h.2.2 _ (List.getElem_mem hi); rw [hb] at this; cases this⟩
    |true=>
     rw [zP (by omega)]
     refine .inl ⟨_,rfl,rfl,fun k hk hki=>?_⟩
     rcases Nat.lt_or_ge k i with h|h
     ·exact hp k hk h
     ·have:k=i:=by omega
      subst this; exact hb) (by
    rintro j ⟨rfl,hp⟩
    unfold tC
    rw [if_neg (by simp [yL])]
    refine ⟨_,rfl,fun c hc=>?_⟩
    obtain ⟨k,hk,rfl⟩:=List.getElem_of_mem hc
    exact hp k hk hk) (bl s).length 0 0 (by omega) ⟨rfl,fun k _ h=>by omega⟩
   simp only [vV,e,Option.bind_some]
   cases t with
   |ret r=>
    obtain ⟨rfl,h⟩:=h
    exact .inr ⟨h,rfl⟩
   |nxt u=>exact .inl ⟨⟨by omega,by omega,h⟩,rfl⟩
theorem zGz (s:ByteArray):∃r,wK s=some r∧(r=0↔zGd s):=by
 rcases zG5 s with ⟨h1,h2⟩|⟨h1,h2⟩
 ·exact ⟨0,h2,by simp [h1]⟩
 ·exact ⟨5,h2,by simp [h1]⟩
def total (fs:List File):Int:=match fs with
 |[]=>0
 |f::fs=>f.Data.length+total fs
theorem zEc:∀(l r:List File),total (l++r)=total l+total r
 |[],r=>by simp [total]
 |f::l,r=>by simp only [List.cons_append,total,zEc l r]; omega
theorem zEd:∀(l:List File),0≤total l
 |[]=>Int.le_refl _
 |f::l=>by have:=zEd l; simp only [total]; omega
theorem zJC:∀(l:List File) (C:Int),0≤C→(∀f∈l,(f.Data.length:Int)≤C)→total l≤l.length*C
 |[],C,_,_=>by simp [total]
 |f::l,C,hC,h=>by
  have h1:=h f (by simp)
  have h2:=zJC l C hC (fun g hg=>h g (by simp [hg]))
  simp only [total,List.length_cons,Int.natCast_add,Int.add_mul]
  omega
theorem zKl (d:zL) (h:d.Files.length≤1048576) (hf:∀f∈d.Files,f.Data.length≤1048576):zBp d=some (total d.Files):=by
 have htot:=zJC d.Files 1048576 (by omega) (fun f hm=>by have:=hf f hm; omega)
 have hb:((d.Files.length:Int))*1048576≤1048576*1048576:=Int.mul_le_mul_of_nonneg_right (by omega) (by omega)
 obtain ⟨t,e,rfl⟩:=tF (b:=zAW d) (fun i s=>s=(total (d.Files.take i),(i:Int))) d.Files.length (fun t=>t=total d.Files) (by
  rintro i s hi rfl
  unfold zAW
  rw [if_pos (by simp; omega)]
  have hsplit:total (d.Files.take (i+1))=total (d.Files.take i)+d.Files[i].Data.length :=by
   rw [List.take_succ_eq_append_getElem hi,zEc]
   simp [total]
  have hle:total d.Files=total (d.Files.take (i+1))+total (d.Files.drop (i+1)):=by rw [←zEc,List.take_append_drop]
  have h1:=zEd (d.Files.take i)
  have h2:=zEd (d.Files.drop (i+1))
  simp only [zM hi,Option.bind_some]
  rw [xU (by omega) (by omega),zP (by omega)]
  exact .inl ⟨_,rfl,by rw [hsplit]⟩) (by
  rintro s rfl
  unfold zAW
  rw [if_neg (by simp)]
  exact ⟨_,rfl,by simp⟩) d.Files.length 0 (0,0) (by omega) (by simp [total])
 simp only [zBp,zB0,e,Option.bind_some]
structure zL.good (d:zL):Prop where
 b0:0≤d.Budget
 b1:d.Budget≤20000
 w0:0≤d.Writes
 w1:d.Writes≤1000000000
 s0: -1≤d.Stop
 s1:d.Stop≤1000000000
 len:d.Files.length≤120
 path:∀f∈d.Files,zGd f.Path
 data:∀f∈d.Files,f.Data.length≤4000
 sorted:d.Files.Pairwise (fun f g=>slt f.Path g.Path=true)
 room:total d.Files≤d.Budget
theorem zG1 (d:zL):zAp d=wH d:=by
 unfold zAp wH
 have:jS d=uE d:=by
  unfold jS uE
  refine zFt fun i=>?_
  unfold zCH uZ
  split
  ·cases hx:idx d.Files i with
   |none=>rfl
   |some x=>simp only [Option.bind_some,zI0]
  ·rfl
 rw [this]
 rfl
theorem zLS {xs:List File} (h:∀i,(hi:i+1<xs.length)→slt xs[i].Path xs[i+1].Path =true):xs.Pairwise (fun f g=>slt f.Path g.Path=true):=by
 induction xs with
 |nil=>exact .nil
 |cons x xs ih=>
  have h':∀i,(hi:i+1<xs.length)→slt xs[i].Path xs[i+1].Path =true:=fun i hi=>h (i+1) (by simp; omega)
  have ih':=ih h'
  refine .cons ?_ ih'
  cases xs with
  |nil=>simp
  |cons y ys=>
   have hxy:slt x.Path y.Path=true:=by simpa using h 0 (by simp)
   intro z hz
   rcases List.mem_cons.1 hz with rfl|hz
   ·exact hxy
   ·exact zDa hxy ((List.pairwise_cons.1 ih').1 z hz)
theorem zGu (d:zL) (h:d.Files.length≤1048576):∃c,wH d=some c∧(c=0→d.good):=by
 unfold wH
 simp only [zOh,Option.bind_some]
 by_cases hB:0≤d.Budget∧d.Budget≤20000
 ·by_cases hW:0≤d.Writes∧d.Writes≤1000000000
  ·by_cases hS: -1≤d.Stop∧d.Stop≤1000000000
   ·simp [hB.1,hB.2,hW.1,hW.2,hS.1,hS.2]
    by_cases hl:120<d.Files.length
    ·rw [if_pos (by omega)]
     exact ⟨2,rfl,by simp⟩
    ·rw [if_neg (by omega)]
     obtain ⟨t,e,ht⟩:=tF (b:=uZ d) (fun i s=>s=(i:Int)∧(∀j,(hj:j<d.Files.length)→j<i→zGd d.Files[j].Path ∧d.Files[j].Data.length ≤4000)∧∀j,(hj:j+1<d.Files.length)→j+1<i→slt d.Files[j].Path d.Files[j+1].Path =true) d.Files.length
      (fun t=>match t with| .ret r=>r≠0| .nxt _=>(∀f∈d.Files,zGd f.Path∧f.Data.length≤4000)∧d.Files.Pairwise (fun f g=>slt f.Path g.Path=true)) (by
      rintro i s hi ⟨rfl,h1,h2⟩
      unfold uZ
      rw [if_pos (by simp; omega)]
      obtain ⟨r,hr,hr2⟩:=zGz d.Files[i].Path
      simp only [zM hi,Option.bind_some,hr]
      by_cases hr0:r=0
      ·subst hr0
       rw [if_neg (by simp)]
       have key:∃q,(if decide ((i:Int)>0) then (idx d.Files (w64 ((i:Int)-1))).bind fun x39=>some (slt d.Files[i].Path x39.Path||seq d.Files[i].Path x39.Path) else some false)=some q∧(q=false→∀j,(hj:j+1<d.Files.length)→j+1<i+1→slt d.Files[j].Path d.Files[j+1].Path =true):=by
        by_cases hp:i=0
        ·subst hp
         exact ⟨false,by simp,fun _ j hj hji=>by omega⟩
        ·rw [if_pos (by simp; omega),xU (by omega) (by omega),show ((i:Int)-1)=((i-1:Nat):Int) by omega,zM (show i-1<d.Files.length by omega)]
         refine ⟨_,rfl,fun hq j hj hji=>?_⟩
         rcases Nat.lt_or_ge (j+1) i with hlt|hge
         ·exact h2 j hj hlt
         ·have hj1:j+1=i:=by omega
          subst hj1
          simp only [Bool.or_eq_false_iff] at hq
          have hq1:=hq.1
          have hq2:d.Files[j+1].Path ≠d.Files[j].Path :=fun e=>by
           have:=hq.2
           simp only [Nat.add_sub_cancel] at this
           rw [e] at this
           simp at this
          simp only [Nat.add_sub_cancel] at hq1
          exact zNy hq1 hq2
       obtain ⟨q,hq,hq2⟩:=key
       rw [hq]
       simp only [Option.bind_some]
       cases q with
       |true=>exact .inr ⟨_,rfl,by simp⟩
       |false=>
        by_cases hd:(d.Files[i].Data.length :Int)>4000
        ·exact .inr ⟨.ret 2,by rw [if_neg (by simp),if_pos (by simpa using hd)],by simp⟩
        ·refine .inl ⟨((i+1:Nat):Int),?_,rfl,fun j hj hji=>?_,hq2 rfl⟩
         ·rw [if_neg (by simp),if_neg (by simpa using hd),zP (by omega)]
         ·rcases Nat.lt_or_ge j i with h'|h'
          ·exact h1 j hj h'
          ·have:j=i:=by omega
           subst this
           exact ⟨hr2.1 rfl,by omega⟩
      ·rw [if_pos (by simpa using hr0)]
       exact .inr ⟨_,rfl,hr0⟩) (by
      rintro s ⟨rfl,h1,h2⟩
      unfold uZ
      rw [if_neg (by simp)]
      refine ⟨_,rfl,fun f hf=>?_,zLS (fun i hi=>h2 i hi hi)⟩
      obtain ⟨j,hj,rfl⟩:=List.getElem_of_mem hf
      exact h1 j hj hj) d.Files.length 0 0 (by omega) ⟨rfl,fun j _ h=>by omega,fun j _ h=>by omega⟩
     simp only [uE,e,Option.bind_some]
     cases t with
     |ret r=>exact ⟨r,rfl,fun h=>absurd h ht⟩
     |nxt u=>
      simp only [Fl.go]
      rw [zKl d h (fun f hf=>by have:=(ht.1 f hf).2; omega)]
      simp only [Option.bind_some]
      by_cases hr:d.Budget<total d.Files
      ·rw [if_pos hr]
       exact ⟨8,rfl,by simp⟩
      ·rw [if_neg hr]
       exact ⟨0,rfl,fun _=>⟨hB.1,hB.2,hW.1,hW.2,hS.1,hS.2,by omega,fun f hf=>(ht.1 f hf).1,fun f hf=>(ht.1 f hf).2,ht.2,by omega⟩⟩
   ·refine ⟨3,?_,by simp⟩
    simp [hB.1,hB.2,hW.1,hW.2]
    intro a b
    exact absurd ⟨a,b⟩ hS
  ·refine ⟨3,?_,by simp⟩
   simp [hB.1,hB.2]
   rw [if_pos (by omega)]
   rfl
 ·refine ⟨3,?_,by simp⟩
  rw [if_pos (by simp; omega)]
  rfl
theorem zKO (s p:ByteArray):strings_HasPrefix s p=jC s p:=by
 unfold strings_HasPrefix yT jC
 split
 ·cases zGQ s 0 (p.size:Int)<;>rfl
 ·rfl
def begins (s p:ByteArray):Bool:=decide (p.size≤s.size)&&seq (s.extract 0 p.size) p
theorem zJd (s p:ByteArray):jC s p=some (begins s p):=by
 unfold jC begins
 by_cases h:p.size≤s.size
 ·rw [if_pos (by simp; omega)]
  unfold zGQ
  rw [if_pos (by omega)]
  simp [h]
 ·rw [if_neg (by simp; omega)]
  simp [h]
theorem zKf (d:zL) (p:ByteArray):kQ d p=kW d p:=by
 have:uY d p=kF d p:=by
  unfold uY kF
  refine zFt fun s=>?_
  unfold zCy kT
  split
  ·cases h:idx d.Files s.2 with
   |none=>rfl
   |some x=>simp only [Option.bind_some,zKO]
  ·rfl
 unfold kQ kW
 rw [this]
def jA (fs:List File) (p:ByteArray):List ByteArray:=(fs.filter (fun f=>begins f.Path p)).map (·.Path)
theorem zGv (l r:List File) (p:ByteArray):jA (l++r) p=jA l p++jA r p:=by
 simp [jA]
theorem zCU (l:List File) (p:ByteArray):(jA l p).length ≤l.length:=by
 simp only [jA,List.length_map]
 exact List.length_filter_le _ _
theorem zGU (d:zL) (p:ByteArray) (h:d.Files.length≤1048576):kW d p=some (jA d.Files p):=by
 obtain ⟨t,e,rfl⟩:=tF (b:=kT d p) (fun i s=>s=(jA (d.Files.take i) p,(i:Int))) d.Files.length (fun t=>t=jA d.Files p) (by
  rintro i s hi rfl
  unfold kT
  rw [if_pos (by simp; omega)]
  have hl:=zCU (d.Files.take i) p
  have hl2:(d.Files.take i).length ≤i:=by simp; omega
  have ha:∀x:ByteArray,app 16 (jA (d.Files.take i) p) [x]=some (jA (d.Files.take i) p++[x]):=fun x=>zC8 (by simp; omega) (by simp; omega)
  have hsplit:jA (d.Files.take (i+1)) p=jA (d.Files.take i) p++jA [d.Files[i]] p:=by
   rw [List.take_succ_eq_append_getElem hi,zGv]
  simp only [zM hi,Option.bind_some,zJd,ha,zP (show i<9223372036854775807 by omega)]
  cases hb:begins d.Files[i].Path p with
  |true=>exact .inl ⟨_,rfl,by rw [hsplit]; simp [jA,hb]⟩
  |false=>exact .inl ⟨_,rfl,by rw [hsplit]; simp [jA,hb]⟩) (by
  rintro s rfl
  unfold kT
  rw [if_neg (by simp)]
  exact ⟨_,rfl,by simp⟩) d.Files.length 0 ([],0) (by omega) (by simp [jA])
 simp only [kW,kF,e,Option.bind_some]
theorem zHz:∀(a b:List UInt8),(Lib.compareBytes a b<0↔Op.bytesLess a b=true)∧(Lib.compareBytes a b=0↔a=b)
 |[],[]=>by simp [Lib.compareBytes,Op.bytesLess]
 |[],_::_=>by simp [Lib.compareBytes,Op.bytesLess]
 |_::_,[]=>by simp [Lib.compareBytes,Op.bytesLess]
 |x::a,y::b=>by
  obtain ⟨ih1,ih2⟩:=zHz a b
  simp only [Lib.compareBytes,Op.bytesLess]
  by_cases h1:x<y
  ·simp [h1]
   intro e; subst e; exact absurd h1 (by simp [UInt8.lt_irrefl])
  ·by_cases h2:y<x
   ·simp [h1,h2]
    have hne:x≠y:=fun e=>by subst e; exact absurd h2 (by simp [UInt8.lt_irrefl])
    simp [hne]
   ·have e:x=y:=by
     rw [UInt8.lt_iff_toNat_lt] at h1 h2
     exact UInt8.toNat_inj.1 (by omega)
    subst e
    simp [UInt8.lt_irrefl,ih1,ih2]
theorem zJu (a b:ByteArray):zMw a b<0↔slt a b=true:=by
 unfold zMw slt
 rw [ByteArray.toList_eq,ByteArray.toList_eq]
 exact (zHz _ _).1
theorem zKV (a b:ByteArray):zMw a b=0↔a=b:=by
 unfold zMw
 rw [(zHz _ _).2,←ByteArray.toList_eq,←ByteArray.toList_eq]
 exact ⟨toList_inj,fun e=>by rw [e]⟩
theorem zNE {i j:Int} (h0:0≤i) (h1:i≤j) (h2:j≤4611686018427387903):w64 ((IntKind.u64.wrap (w64 (i+j))).fdiv (2^(min (1:Int).toNat 64)))=(i+j) / 2:=by
 rw [xU (x:=i+j) (by omega) (by omega)]
 have e1:IntKind.u64.wrap (i+j)=i+j:=by
  simp only [IntKind.wrap,IntKind.signed,IntKind.bits]
  simp
  omega
 rw [e1]
 have e2:((2:Int)^(min (1:Int).toNat 64))=2:=by decide
 rw [e2,Int.fdiv_eq_ediv_of_nonneg _ (by omega)]
 exact xU (by omega) (by omega)
theorem zGN (f:File) (p:ByteArray):wV f p=some (zMw f.Path p):=rfl
theorem zKx (fs:List File) (p:ByteArray) (h:fs.length≤1048576):
  ∃(k:Nat) (b:Bool),zF fs p=some ((k:Int),b)∧k≤fs.length∧(b=true→∃hk:k<fs.length,fs[k].Path =p)∧
   (fs.Pairwise (fun f g=>slt f.Path g.Path=true)→(∀i,(hi:i<fs.length)→i<k→slt fs[i].Path p=true)∧(∀i,(hi:i<fs.length)→k≤i→slt fs[i].Path p=false)∧(b=false→∀f∈fs,f.Path≠p)):=by
 obtain ⟨t,e,k,rfl,hk,hs⟩:=zI8 (b:=yB fs p)
  (fun s=>∃i j:Nat,s=((i:Int),(j:Int))∧i≤j∧j≤fs.length∧(fs.Pairwise (fun f g=>slt f.Path g.Path=true)→(∀q,(hq:q<fs.length)→q<i→slt fs[q].Path p=true)∧(∀q,(hq:q<fs.length)→j≤q→slt fs[q].Path p=false)))
  (fun s=>(s.2-s.1).toNat)
  (fun t=>∃k:Nat,t=(k:Int)∧k≤fs.length∧(fs.Pairwise (fun f g=>slt f.Path g.Path=true)→(∀q,(hq:q<fs.length)→q<k→slt fs[q].Path p=true)∧(∀q,(hq:q<fs.length)→k≤q→slt fs[q].Path p=false))) (by
  rintro s ⟨i,j,rfl,hij,hj,hP⟩
  unfold yB
  by_cases hlt:i<j
  ·left
   rw [if_pos (by simp; omega)]
   simp only
   rw [zNE (by omega) (by omega) (by omega)]
   have hm:(((i:Int)+(j:Int)) / 2)=(((i+j) / 2:Nat):Int):=by omega
   rw [hm]
   have hmj:(i+j) / 2<j:=by omega
   have him:i≤(i+j) / 2:=by omega
   generalize (i+j) / 2=m at*
   have hmn:m<fs.length:=by omega
   simp only [zM hmn,Option.bind_some,zGN]
   by_cases hc:zMw fs[m].Path p<0
   ·rw [if_pos (by simpa using hc),zP (by omega)]
    refine ⟨_,rfl,⟨m+1,j,rfl,by omega,hj,fun hso=>?_⟩,by simp; omega⟩
    obtain ⟨g1,g2⟩:=hP hso
    refine ⟨fun q hq hqm=>?_,g2⟩
    have hl:=(zJu _ _).1 hc
    rcases Nat.lt_or_ge q m with h'|h'
    ·exact zDa (List.pairwise_iff_getElem.1 hso q m hq hmn h') hl
    ·have:q=m:=by omega
     subst this; exact hl
   ·rw [if_neg (by simpa using hc)]
    refine ⟨_,rfl,⟨i,m,rfl,by omega,by omega,fun hso=>?_⟩,by simp; omega⟩
    obtain ⟨g1,g2⟩:=hP hso
    refine ⟨g1,fun q hq hmq=>?_⟩
    have hl:slt fs[m].Path p=false:=by
     cases h':slt fs[m].Path p with
     |false=>rfl
     |true=>exact absurd ((zJu _ _).2 h') hc
    rcases Nat.lt_or_ge m q with h'|h'
    ·cases hq2:slt fs[q].Path p with
     |false=>rfl
     |true=>
      have:=zDa (List.pairwise_iff_getElem.1 hso m q hmn hq h') hq2
      rw [hl] at this; cases this
    ·have:q=m:=by omega
     subst this; exact hl
  ·right
   rw [if_neg (by simp; omega)]
   have:i=j:=by omega
   subst this
   exact ⟨_,rfl,i,rfl,by omega,hP⟩) fs.length (0,(fs.length:Int)) (by simp) ⟨0,fs.length,rfl,by omega,by omega,fun _=>⟨fun q _ h=>by omega,fun q hq h=>by omega⟩⟩
 unfold zF
 rw [show zR fs p (0,(fs.length:Int))=some (k:Int) from e]
 simp only [Option.bind_some]
 by_cases hkn:k<fs.length
 ·rw [if_pos (by simpa using hkn)]
  simp only [zM hkn,Option.bind_some,zGN]
  refine ⟨k,_,rfl,hk,fun hb=>⟨hkn,(zKV _ _).1 (by simpa using hb)⟩,fun hso=>⟨(hs hso).1,(hs hso).2,fun hb f hf hfp=>?_⟩⟩
  have hne:zMw fs[k].Path p≠0:=by simpa using hb
  obtain ⟨q,hq,rfl⟩:=List.getElem_of_mem hf
  rcases Nat.lt_trichotomy q k with h'|h'|h'
  ·have:=(hs hso).1 q hq h'
   rw [hfp,zCS] at this; cases this
  ·subst h'; exact hne ((zKV _ _).2 hfp)
  ·have h1:=List.pairwise_iff_getElem.1 hso k q hkn hq h'
   have h2:=(hs hso).2 k hkn (Nat.le_refl _)
   rw [hfp] at h1
   rw [h1] at h2; cases h2
 ·rw [if_neg (by simpa using hkn)]
  refine ⟨k,false,rfl,hk,(fun hb=>by cases hb),fun hso=>⟨(hs hso).1,(hs hso).2,fun _ f hf hfp=>?_⟩⟩
  obtain ⟨q,hq,rfl⟩:=List.getElem_of_mem hf
  have:=(hs hso).1 q hq (by omega)
  rw [hfp,zCS] at this; cases this
theorem zIS (d:zL) (p:ByteArray) (h:d.Files.length≤1048576):
  (∃k:Nat,∃hk:k<d.Files.length,xL d p=some (k:Int)∧d.Files[k].Path =p)∨(xL d p=some (-1)∧∀f∈d.Files,f.Path≠p):=by
 obtain ⟨t,e,ht⟩:=tF (b:=zB5 d p) (fun i s=>s=(i:Int)∧∀q,(hq:q<d.Files.length)→q<i→d.Files[q].Path ≠p) d.Files.length
  (fun t=>match t with| .ret r=>∃k:Nat,∃hk:k<d.Files.length,r=(k:Int)∧d.Files[k].Path =p| .nxt _=>∀f∈d.Files,f.Path≠p) (by
  rintro i s hi ⟨rfl,hq⟩
  unfold zB5
  rw [if_pos (by simp; omega)]
  simp only [zM hi,Option.bind_some]
  by_cases hp:d.Files[i].Path =p
  ·rw [if_pos (zFh.2 hp)]
   exact .inr ⟨_,rfl,i,hi,rfl,hp⟩
  ·rw [if_neg (fun h'=>hp (zFh.1 h')),zP (by omega)]
   refine .inl ⟨_,rfl,rfl,fun q hq' hqi=>?_⟩
   rcases Nat.lt_or_ge q i with h'|h'
   ·exact hq q hq' h'
   ·have:q=i:=by omega
    subst this; exact hp) (by
  rintro s ⟨rfl,hq⟩
  unfold zB5
  rw [if_neg (by simp)]
  refine ⟨_,rfl,fun f hf=>?_⟩
  obtain ⟨q,hq',rfl⟩:=List.getElem_of_mem hf
  exact hq q hq' hq') d.Files.length 0 0 (by omega) ⟨rfl,fun q _ h=>by omega⟩
 unfold xL
 rw [show zCg d p 0=some t from e]
 cases t with
 |ret r=>
  obtain ⟨k,hk,rfl,hp⟩:=ht
  exact .inl ⟨k,hk,rfl,hp⟩
 |nxt _=>exact .inr ⟨rfl,ht⟩
theorem zGY {fs:List File} (hs:fs.Pairwise (fun f g=>slt f.Path g.Path=true)) {i j:Nat} (hi:i<fs.length) (hj:j<fs.length) (h:fs[i].Path =fs[j].Path):i=j:=by
 rcases Nat.lt_trichotomy i j with h'|h'|h'
 ·have:=List.pairwise_iff_getElem.1 hs i j hi hj h'
  rw [h,zCS] at this; cases this
 ·exact h'
 ·have:=List.pairwise_iff_getElem.1 hs j i hj hi h'
  rw [h,zCS] at this; cases this
theorem zKJ (d:zL) (p:ByteArray) (hl0:d.Files.length≤120) (hso:d.Files.Pairwise (fun f g=>slt f.Path g.Path=true)):
  (∃k:Nat,∃hk:k<d.Files.length,xL d p=some (k:Int)∧zF d.Files p=some ((k:Int),true)∧d.Files[k].Path =p)∨
   (xL d p=some (-1)∧(∀f∈d.Files,f.Path≠p)∧∃k:Nat,zF d.Files p=some ((k:Int),false)∧k≤d.Files.length∧(∀i,(hi:i<d.Files.length)→i<k→slt d.Files[i].Path p=true)∧(∀i,(hi:i<d.Files.length)→k≤i→slt d.Files[i].Path p=false)):=by
 have hl:d.Files.length≤1048576:=by omega
 obtain ⟨k,b,e,hk,h1,h2⟩:=zKx d.Files p hl
 obtain ⟨g1,g2,g3⟩:=h2 hso
 rcases zIS d p hl with ⟨q,hq,e2,hp⟩|⟨e2,hp⟩
 ·left
  cases b with
  |false=>exact absurd hp (g3 rfl _ (List.getElem_mem hq))
  |true=>
   obtain ⟨hk',hp'⟩:=h1 rfl
   have:q=k:=zGY hso hq hk' (by rw [hp,hp'])
   subst this
   exact ⟨q,hq,e2,e,hp⟩
 ·right
  cases b with
  |true=>
   obtain ⟨hk',hp'⟩:=h1 rfl
   exact absurd hp' (hp _ (List.getElem_mem hk'))
  |false=>exact ⟨e2,hp,k,e,hk,g1,g2⟩
theorem zKb (d:zL) (p:ByteArray) (hl0:d.Files.length≤120) (hso:d.Files.Pairwise (fun f g=>slt f.Path g.Path=true)):
  (∃k:Nat,∃hk:k<d.Files.length,xL d p=some (k:Int)∧yU d p=some (d.Files[k].Data,true)∧d.Files[k].Path =p)∨
   (xL d p=some (-1)∧yU d p=some ([],false)∧∀f∈d.Files,f.Path≠p):=by
 rcases zKJ d p hl0 hso with ⟨k,hk,e1,e2,hp⟩|⟨e1,hp,k,e2,_⟩
 ·left
  refine ⟨k,hk,e1,?_,hp⟩
  unfold yU jU
  rw [e2]
  simp only [Option.bind_some,Bool.not_true,Bool.false_eq_true,if_false,zM hk]
 ·right
  refine ⟨e1,?_,hp⟩
  unfold yU jU
  rw [e2]
  rfl
theorem zIr (d:zL) (p:ByteArray) (hg:d.good):
 (∃k:Nat,∃hk:k<d.Files.length,xL d p=some (k:Int)∧yU d p=some (d.Files[k].Data,true)∧d.Files[k].Path =p)∨
  (xL d p=some (-1)∧yU d p=some ([],false)∧∀f∈d.Files,f.Path≠p):=zKb d p hg.len hg.sorted
theorem zHb {P:List Int→Prop} (h0:P []) (h1:∀l c,P l→P (l++[c])) (l:List Int):P l:=by
 have key:∀m:List Int,P m.reverse:=by
  intro m
  induction m with
  |nil=>exact h0
  |cons c m ih=>rw [List.reverse_cons]; exact h1 _ c ih
 have:=key l.reverse
 rwa [List.reverse_reverse] at this
def zF5 (c:Int):Bool:=decide (c≥48)&&decide (c≤57)
def val (l:List Int):Int:=l.foldl (fun a c=>a*10+(c-48)) 0
theorem zFE (l:List Int) (c:Int):val (l++[c])=val l*10+(c-48):=by simp [val]
theorem zD9 {l:List Int} (h:∀c∈l,zF5 c=true):0≤val l∧val l<10^l.length:=by
 revert h
 refine zHb (P:=fun l=>(∀c∈l,zF5 c=true)→0≤val l∧val l<10^l.length) ?_ ?_ l
 ·intro _; simp [val]
 ·intro l c ih h
  obtain ⟨h1,h2⟩:=ih (fun x hx=>h x (by simp [hx]))
  have hc:=h c (by simp)
  simp only [zF5,Bool.and_eq_true,decide_eq_true_eq] at hc
  rw [zFE,List.length_append,List.length_singleton,Int.pow_succ]
  omega
def zHa (l:List Int) (most:Int):Option Int:=if l.length<1∨(l.length:Int)>most∨¬(∀c∈l,zF5 c=true) then none else some (val l)
theorem zJQ {n:Nat} (h:n≤17):(10:Int)^n≤100000000000000000:=by
 have:(10:Nat)^n≤10^17:=Nat.pow_le_pow_right (by omega) h
 have e:((10^n:Nat):Int)=(10:Int)^n:=by simp
 rw [←e]
 omega
theorem zGe (c:Int):wY c=some (zF5 c):=by
 unfold wY zF5
 cases decide (c≥48)<;>rfl
theorem zE9 (s:ByteArray) (most:Int) (hm:most≤17):vI s most=some (match zHa (bl s) most with|some n=>(n,true)|none=>(0,false)):=by
 unfold vI zHa
 have hl:=yL s
 by_cases h1:s.size<1
 ·rw [if_pos (by simp; omega),if_pos (by omega)]
  rfl
 ·rw [if_neg (by simp; omega)]
  simp only [Option.bind_some]
  by_cases h2:(s.size:Int)>most
  ·rw [if_pos (by simpa using h2),if_pos (by omega)]
  ·rw [if_neg (by simpa using h2)]
   obtain ⟨t,e,ht⟩:=tF (b:=zA8 s) (fun i q=>q=(val ((bl s).take i),(i:Int))∧∀c∈(bl s).take i,zF5 c=true) (bl s).length
    (fun t=>match t with| .ret r=>r=(0,false)∧¬ ∀c∈bl s,zF5 c=true| .nxt v=>v=val (bl s)∧∀c∈bl s,zF5 c=true) (by
    rintro i q hi ⟨rfl,hd⟩
    have hb:=zD9 hd
    have hlen:((bl s).take i).length ≤17:=by simp; omega
    have hp:=zJQ hlen
    have hr:=zHu _ (List.getElem_mem hi)
    unfold zA8
    rw [if_pos (by simp; omega)]
    simp only [zDJ hi,Option.bind_some,zGe]
    cases hc:zF5 (bl s)[i] with
    |false=>exact .inr ⟨_,rfl,rfl,fun h=>by have:=h _ (List.getElem_mem hi); rw [hc] at this; cases this⟩
    |true=>
     have hc':=hc
     simp only [zF5,Bool.and_eq_true,decide_eq_true_eq] at hc'
     rw [wrap_u8 (by omega) (by omega),xU (x:=(bl s)[i]-48) (by omega) (by omega),xU (x:=val ((bl s).take i)*10) (by omega) (by omega),xU (by omega) (by omega),zP (by omega)]
     refine .inl ⟨_,rfl,by rw [List.take_succ_eq_append_getElem hi,zFE],fun c hcm=>?_⟩
     rw [List.take_succ_eq_append_getElem hi] at hcm
     rcases List.mem_append.1 hcm with h|h
     ·exact hd c h
     ·simp at h; rw [h]; exact hc) (by
    rintro q ⟨rfl,hd⟩
    unfold zA8
    rw [if_neg (by simp; omega)]
    rw [List.take_length] at hd ⊢
    exact ⟨_,rfl,rfl,hd⟩) (bl s).length 0 (0,0) (by omega) ⟨by simp [val],by simp⟩
   unfold zBd
   rw [e]
   cases t with
   |ret r=>
    obtain ⟨rfl,h⟩:=ht
    rw [if_pos (.inr (.inr h))]
    rfl
   |nxt v=>
    obtain ⟨rfl,h⟩:=ht
    rw [if_neg (fun h'=>by rcases h' with h'|h'|h'<;>first|omega|exact h' h)]
    rfl
theorem number_eq (s:ByteArray) (most:Int) (hm:most≤17):kL s most=some (match zHa (bl s) most with|some n=>n|none=> -1):=by
 unfold kL zHa
 have hl:=yL s
 have he:seq s (bs [])=decide (s.size<1):=by
  rw [zMT,zK1,List.map_nil]
  rw [Bool.eq_iff_iff]
  simp only [decide_eq_true_eq]
  constructor
  ·intro h; rw [h] at hl; simp at hl; omega
  ·intro h; exact List.eq_nil_of_length_eq_zero (by omega)
 rw [he]
 by_cases h1:s.size<1
 ·rw [if_pos (by simpa using h1),if_pos (by omega)]
  rfl
 ·rw [if_neg (by simpa using h1)]
  simp only [Option.bind_some]
  by_cases h2:(s.size:Int)>most
  ·rw [if_pos (by simpa using h2),if_pos (by omega)]
  ·rw [if_neg (by simpa using h2)]
   obtain ⟨t,e,ht⟩:=tF (b:=zBs s) (fun i q=>q=(val ((bl s).take i),(i:Int))∧∀c∈(bl s).take i,zF5 c=true) (bl s).length
    (fun t=>match t with| .ret r=>r= -1∧¬ ∀c∈bl s,zF5 c=true| .nxt v=>v=val (bl s)∧∀c∈bl s,zF5 c=true) (by
    rintro i q hi ⟨rfl,hd⟩
    have hb:=zD9 hd
    have hlen:((bl s).take i).length ≤17:=by simp; omega
    have hp:=zJQ hlen
    have hr:=zHu _ (List.getElem_mem hi)
    unfold zBs
    rw [if_pos (by simp; omega)]
    simp only [zDJ hi,Option.bind_some]
    have hq:(if decide ((bl s)[i]<48)=true then some true else some (decide ((bl s)[i]>57)))=some (!zF5 (bl s)[i]):=by
     unfold zF5
     by_cases a:(bl s)[i]<48
     ·have b:¬((bl s)[i]≥48):=by omega
      simp [a,b]
     ·have b:(bl s)[i]≥48:=by omega
      by_cases c:(bl s)[i]>57
      ·have d:¬((bl s)[i]≤57):=by omega
       simp [a,b,c,d]
      ·have d:(bl s)[i]≤57:=by omega
       simp [a,b,c,d]
    rw [hq]
    simp only [Option.bind_some]
    cases hc:zF5 (bl s)[i] with
    |false=>exact .inr ⟨_,rfl,rfl,fun h=>by have:=h _ (List.getElem_mem hi); rw [hc] at this; cases this⟩
    |true=>
     have hc':=hc
     simp only [zF5,Bool.and_eq_true,decide_eq_true_eq] at hc'
     rw [wrap_u8 (by omega) (by omega),xU (x:=(bl s)[i]-48) (by omega) (by omega),xU (x:=10*val ((bl s).take i)) (by omega) (by omega),xU (by omega) (by omega),zP (by omega)]
     refine .inl ⟨_,rfl,by rw [List.take_succ_eq_append_getElem hi,zFE,Int.mul_comm],fun c hcm=>?_⟩
     rw [List.take_succ_eq_append_getElem hi] at hcm
     rcases List.mem_append.1 hcm with h|h
     ·exact hd c h
     ·simp at h; rw [h]; exact hc) (by
    rintro q ⟨rfl,hd⟩
    unfold zBs
    rw [if_neg (by simp; omega)]
    rw [List.take_length] at hd ⊢
    exact ⟨_,rfl,rfl,hd⟩) (bl s).length 0 (0,0) (by omega) ⟨by simp [val],by simp⟩
   unfold zCf
   rw [e]
   cases t with
   |ret r=>
    obtain ⟨rfl,h⟩:=ht
    rw [if_pos (.inr (.inr h))]
    rfl
   |nxt v=>
    obtain ⟨rfl,h⟩:=ht
    rw [if_neg (fun h'=>by rcases h' with h'|h'|h'<;>first|omega|exact h' h)]
    rfl
theorem zMd {l:List Int} (h:∀c∈l,zF5 c=true):zEx (10^l.length+(val l).toNat)=49::l:=by
 revert h
 refine zHb (P:=fun l=>(∀c∈l,zF5 c=true)→zEx (10^l.length+(val l).toNat)=49::l) ?_ ?_ l
 ·intro _; rw [zA3 (by decide)]; rfl
 ·intro l c ih h
  have hl:∀c∈l,zF5 c=true:=fun x hx=>h x (by simp [hx])
  have hb:=zD9 hl
  have hc:=h c (by simp)
  simp only [zF5,Bool.and_eq_true,decide_eq_true_eq] at hc
  have e1:(val (l++[c])).toNat =(val l).toNat *10+(c-48).toNat :=by rw [zFE]; omega
  have e2:10^(l++[c]).length =10^l.length*10:=by rw [List.length_append,List.length_singleton,Nat.pow_succ]
  have hp:1≤10^l.length:=Nat.one_le_pow _ _ (by omega)
  rw [e1,e2,zDi (by omega)]
  have e3:(10^l.length*10+((val l).toNat *10+(c-48).toNat)) / 10=10^l.length+(val l).toNat :=by omega
  have e4:(10^l.length*10+((val l).toNat *10+(c-48).toNat))%10=(c-48).toNat :=by omega
  rw [e3,e4,ih hl,List.cons_append]
  congr 3
  omega
def zNG:List Int:=[103,101,110,47]
theorem zLC:bl (bs [103,101,110,47])=zNG:=zK1 _
theorem zK8 (n:Int):∃s,uM n=some s∧bl s=(if 1≤n∧n≤999999 then zNG++(zEx (1000000+n.toNat)).drop 1 else []):=by
 unfold uM
 rw [zOh]
 simp only [Option.bind_some]
 by_cases h:1≤n∧n≤999999
 ·rw [if_pos h]
  have hb:(decide (n≥1)&&decide (n≤999999))=true:=by simp; omega
  rw [hb]
  rw [xU (by omega) (by omega),show (1000000:Int)+n=((1000000+n.toNat:Nat):Int) by omega]
  obtain ⟨s,e,hs⟩:=zEu (1000000+n.toNat) (by omega)
  have hlen:(zEx (1000000+n.toNat)).length =7:=zEA 6 _ (by omega) (by omega)
  have hsz:s.size=7:=by rw [←yL,hs,hlen]
  rw [e]
  simp only [Bool.not_true,Bool.false_eq_true,if_false,Option.bind_some]
  unfold zGQ
  rw [if_pos (by omega)]
  simp only [Option.bind_some]
  have hx:(s.extract (1:Int).toNat ((s.size:Int)).toNat).size =6:=by
   rw [←yL,zCA,List.length_take,List.length_drop,hs,hlen,hsz]
   rfl
  unfold cat
  rw [if_pos (by have:(bs [103,101,110,47]).size =4:=rfl; omega)]
  refine ⟨_,rfl,?_⟩
  rw [zCZ,zLC,zCA,hs]
  congr 1
  rw [List.take_of_length_le (by rw [List.length_drop,hlen,hsz]; decide)]
  rfl
 ·rw [if_neg h]
  have hb:(decide (n≥1)&&decide (n≤999999))=false:=by
   simp only [Bool.and_eq_false_iff,decide_eq_false_iff_not]; omega
  rw [hb]
  exact ⟨_,rfl,zK1 _⟩
def zCE (l:List Int):Option Int:=match zHa (l.drop 4) 6 with
 |some n=>if n≥1∧l.length=10 then some n else none
 |none=>none
theorem zLw {l:List Int} (hp:l.take 4=zNG) (hl:4≤l.length) {n:Int} (h:zHa (l.drop 4) 6=some n):
  (if 1≤n∧n≤999999 then zNG++(zEx (1000000+n.toNat)).drop 1 else [])=l↔(n≥1∧l.length=10):=by
 unfold zHa at h
 split at h
 ·cases h
 ·rename_i hc
  cases h
  have hc1:1≤(l.drop 4).length :=by omega
  have hc2:(l.drop 4).length ≤6:=by omega
  have hd:∀c∈l.drop 4,zF5 c=true:=Classical.byContradiction fun h=>hc (.inr (.inr h))
  have hb:=zD9 hd
  have hle:val (l.drop 4)≤999999:=by
   have:(10:Nat)^(l.drop 4).length ≤10^6:=Nat.pow_le_pow_right (by omega) hc2
   have e:(((10:Nat)^(l.drop 4).length :Nat):Int)=(10:Int)^(l.drop 4).length :=by simp
   omega
  have hll:l.length=4+(l.drop 4).length :=by simp; omega
  by_cases hn:1≤val (l.drop 4)
  ·rw [if_pos ⟨hn,hle⟩]
   constructor
   ·intro e
    refine ⟨hn,?_⟩
    rw [←e,List.length_append,List.length_drop,zEA 6 _ (by omega) (by omega)]
    rfl
   ·rintro ⟨_,h10⟩
    have h6:(l.drop 4).length =6:=by omega
    have key:=zMd hd
    rw [h6,show (10:Nat)^6=1000000 from rfl] at key
    rw [key,←hp]
    simp
  ·rw [if_neg (by omega)]
   constructor
   ·intro e
    rw [←e] at hll
    simp at hll
   ·rintro ⟨h',_⟩; omega
theorem zI7 {s p:ByteArray} (h:begins s p=true):(bl s).take (bl p).length =bl p∧(bl p).length ≤(bl s).length :=by
 unfold begins at h
 simp only [Bool.and_eq_true,decide_eq_true_eq] at h
 have:=zFh.1 h.2
 refine ⟨?_,by rw [yL,yL]; exact h.1⟩
 have e:=congrArg bl this
 rw [zCA] at e
 simpa [yL] using e
theorem zE2 {fs:List File} {p:ByteArray}:∀s∈jA fs p,begins s p=true:=by
 intro s hs
 unfold jA at hs
 obtain ⟨f,hf,rfl⟩:=List.mem_map.1 hs
 exact (List.mem_filter.1 hf).2
def zDd (fs:List File):List Int:=(jA fs (bs [103,101,110,47])).filterMap (fun p=>zCE (bl p))
theorem zGp {ps:List ByteArray} (h:∀s∈ps,begins s (bs [103,101,110,47])=true) {i:Nat} (hi:i<ps.length):(bl ps[i]).take 4=zNG∧4≤(bl ps[i]).length :=by
 have:=zI7 (h _ (List.getElem_mem hi))
 rw [zLC] at this
 exact this
theorem zHW {s:ByteArray} {k:Nat} (h:k≤s.size):∃t,zGQ s (k:Int) (s.size:Int)=some t∧bl t=(bl s).drop k:=by
 unfold zGQ
 rw [if_pos (by omega)]
 refine ⟨_,rfl,?_⟩
 rw [zCA]
 simp only [Int.toNat_natCast]
 rw [List.take_of_length_le (by rw [List.length_drop,yL]; exact Nat.le_refl _)]
theorem zLt {f:ByteArray→Option Int}:∀(l:List ByteArray),(l.filterMap f).length ≤l.length:=fun l=>List.length_filterMap_le f l
theorem zEQ (d:zL) (h:d.Files.length≤1048576):jY d=some (zDd d.Files):=by
 unfold jY zDd
 rw [zGU d _ h]
 simp only [Option.bind_some]
 have hm:=zE2 (fs:=d.Files) (p:=bs [103,101,110,47])
 have hlen:=zCU d.Files (bs [103,101,110,47])
 generalize jA d.Files (bs [103,101,110,47])=ps at*
 obtain ⟨t,e,rfl⟩:=tF (b:=zBG d ps) (fun i s=>s=((ps.take i).filterMap (fun p=>zCE (bl p)),(i:Int))) ps.length (fun t=>t=ps.filterMap (fun p=>zCE (bl p))) (by
  rintro i s hi rfl
  obtain ⟨hp,h4⟩:=zGp hm hi
  have hsz:4≤ps[i].size :=by rw [←yL]; exact h4
  obtain ⟨u,hu,hub⟩:=zHW (s:=ps[i]) (k:=4) hsz
  have hu':zGQ ps[i] 4 (ps[i].size :Int)=some u:=hu
  have hfl:=zLt (f:=fun p=>zCE (bl p)) (ps.take i)
  have hil:(ps.take i).length ≤i:=by simp; omega
  have ha:∀x:Int,app 8 ((ps.take i).filterMap (fun p=>zCE (bl p))) [x]=some ((ps.take i).filterMap (fun p=>zCE (bl p))++[x]):=fun x=>zC8 (by simp; omega) (by simp; omega)
  have hsplit:(ps.take (i+1)).filterMap (fun p=>zCE (bl p))=(ps.take i).filterMap (fun p=>zCE (bl p))++[ps[i]].filterMap (fun p=>zCE (bl p)):=by
   rw [List.take_succ_eq_append_getElem hi,List.filterMap_append]
  unfold zBG
  rw [if_pos (by simp; omega)]
  simp only [zM hi,Option.bind_some,hu',zE9 u 6 (by omega),hub,zP (show i<9223372036854775807 by omega)]
  left
  cases hn:zHa ((bl ps[i]).drop 4) 6 with
  |none=>
   refine ⟨_,rfl,?_⟩
   rw [hsplit]
   simp [zCE,hn]
  |some n=>
   obtain ⟨g,hg,hgb⟩:=zK8 n
   have hiff:=zLw hp h4 hn
   rw [←hgb] at hiff
   simp only [if_true,hg,Option.bind_some]
   rw [zMT]
   by_cases hc:n≥1∧(bl ps[i]).length =10
   ·rw [decide_eq_true (hiff.2 hc)]
    simp only [Option.bind_some,if_true,ha]
    refine ⟨_,rfl,?_⟩
    rw [hsplit]
    simp [zCE,hn,hc]
   ·rw [decide_eq_false (fun e=>hc (hiff.1 e))]
    refine ⟨_,rfl,?_⟩
    rw [hsplit]
    simp only [List.filterMap_cons,zCE,hn,if_neg hc,List.filterMap_nil,List.append_nil]) (by
  rintro s rfl
  unfold zBG
  rw [if_neg (by simp)]
  exact ⟨_,rfl,by simp⟩) ps.length 0 ([],0) (by omega) (by simp)
 simp only [zCc,e,Option.bind_some]
theorem zJc (d:zL) (h:d.Files.length≤1048576):wL d=some (zDd d.Files):=by
 unfold wL zDd
 rw [zKf,zGU d _ h]
 simp only [Option.bind_some]
 have hm:=zE2 (fs:=d.Files) (p:=bs [103,101,110,47])
 have hlen:=zCU d.Files (bs [103,101,110,47])
 generalize jA d.Files (bs [103,101,110,47])=ps at*
 obtain ⟨t,e,rfl⟩:=tF (b:=kZ ps) (fun i s=>s=((ps.take i).filterMap (fun p=>zCE (bl p)),(i:Int))) ps.length (fun t=>t=ps.filterMap (fun p=>zCE (bl p))) (by
  rintro i s hi rfl
  obtain ⟨hp,h4⟩:=zGp hm hi
  have hsz:4≤ps[i].size :=by rw [←yL]; exact h4
  obtain ⟨u,hu,hub⟩:=zHW (s:=ps[i]) (k:=4) hsz
  have hu':zGQ ps[i] 4 (ps[i].size :Int)=some u:=hu
  have hfl:=zLt (f:=fun p=>zCE (bl p)) (ps.take i)
  have hil:(ps.take i).length ≤i:=by simp; omega
  have ha:∀x:Int,app 8 ((ps.take i).filterMap (fun p=>zCE (bl p))) [x]=some ((ps.take i).filterMap (fun p=>zCE (bl p))++[x]):=fun x=>zC8 (by simp; omega) (by simp; omega)
  have hsplit:(ps.take (i+1)).filterMap (fun p=>zCE (bl p))=(ps.take i).filterMap (fun p=>zCE (bl p))++[ps[i]].filterMap (fun p=>zCE (bl p)):=by
   rw [List.take_succ_eq_append_getElem hi,List.filterMap_append]
  unfold kZ
  rw [if_pos (by simp; omega)]
  simp only [zM hi,Option.bind_some,hu',number_eq u 6 (by omega),hub,zP (show i<9223372036854775807 by omega)]
  left
  cases hn:zHa ((bl ps[i]).drop 4) 6 with
  |none=>
   refine ⟨_,rfl,?_⟩
   rw [hsplit]
   simp [zCE,hn]
  |some n=>
   have hbl:((ps[i].size :Int)==10)=decide ((bl ps[i]).length =10):=by
    rw [yL,Bool.eq_iff_iff]; simp; omega
   simp only [hbl]
   by_cases h1:n≥1
   ·rw [if_pos (by simpa using h1)]
    by_cases h2:(bl ps[i]).length =10
    ·rw [decide_eq_true h2]
     simp only [Option.bind_some,if_true,ha]
     refine ⟨_,rfl,?_⟩
     rw [hsplit]
     simp [zCE,hn,h1,h2]
    ·rw [decide_eq_false h2]
     refine ⟨_,rfl,?_⟩
     rw [hsplit]
     simp [zCE,hn,h2]
   ·rw [if_neg (by simpa using h1)]
    refine ⟨_,rfl,?_⟩
    rw [hsplit]
    simp only [List.filterMap_cons,zCE,hn,if_neg (fun h':n≥1∧(bl ps[i]).length =10=>h1 h'.1),List.filterMap_nil,List.append_nil]) (by
  rintro s rfl
  unfold kZ
  rw [if_neg (by simp)]
  exact ⟨_,rfl,by simp⟩) ps.length 0 ([],0) (by omega) (by simp)
 simp only [zAA,e,Option.bind_some]
theorem zDb (fs:List File):(zDd fs).length ≤fs.length:=by
 unfold zDd
 have h1:=zLt (f:=fun p=>zCE (bl p)) (jA fs (bs [103,101,110,47]))
 have h2:=zCU fs (bs [103,101,110,47])
 omega
theorem zKd {l:List Int} {n:Int} (h:zCE l=some n):l.length=10∧(∀c∈l.drop 4,zF5 c=true)∧n=val (l.drop 4)∧1≤n∧n≤999999:=by
 unfold zCE at h
 cases hn:zHa (l.drop 4) 6 with
 |none=>rw [hn] at h; cases h
 |some m=>
  rw [hn] at h
  simp only at h
  split at h
  ·rename_i hc
   cases h
   unfold zHa at hn
   split at hn
   ·cases hn
   ·rename_i hc2
    cases hn
    have hd:∀c∈l.drop 4,zF5 c=true:=Classical.byContradiction fun h=>hc2 (.inr (.inr h))
    have hb:=zD9 hd
    have h6:(l.drop 4).length =6:=by rw [List.length_drop,hc.2]
    rw [h6] at hb
    exact ⟨hc.2,hd,rfl,hc.1,by omega⟩
  ·cases h
theorem zHJ {fs:List File} {n:Int} (h:n∈zDd fs):1≤n∧n≤999999:=by
 unfold zDd at h
 obtain ⟨p,_,hp⟩:=List.mem_filterMap.1 h
 exact (zKd hp).2.2.2
theorem zJH {l:List Int} (h:∀c∈l,0≤c∧c≤255):bl (b2s l)=l:=by
 refine (zHb (P:=fun l=>(∀c∈l,0≤c∧c≤255)→bl (b2s l)=l) ?_ ?_ l) h
 ·intro _; exact zK1 []
 ·intro l c ih h
  have e:b2s (l++[c])=b2s l++b2s [c]:=by
   unfold b2s
   rw [List.foldl_append]
   generalize List.foldl (fun r n=>ByteArray.push r (UInt8.ofNat n.toNat)) ByteArray.empty l=x
   simp only [List.foldl_cons,List.foldl_nil]
   generalize UInt8.ofNat c.toNat=u
   apply toList_inj
   rw [ByteArray.toList_eq,ByteArray.toList_eq]
   simp
  rw [e,zCZ,ih (fun x hx=>h x (by simp [hx])),zJr (h c (by simp)).1 (h c (by simp)).2]
theorem zEn (l:List Int) (v:Int) (h:l.length≤1048576):wU l v=some (decide (v∈l)):=by
 obtain ⟨t,e,ht⟩:=tF (b:=zCe l v) (fun i s=>s=(i:Int)∧v∉l.take i) l.length (fun t=>match t with| .ret r=>r=true∧v∈l| .nxt _=>v∉l) (by
  rintro i s hi ⟨rfl,hv⟩
  unfold zCe
  rw [if_pos (by simp; omega)]
  simp only [zM hi,Option.bind_some]
  by_cases hc:l[i]=v
  ·rw [if_pos (by simpa using hc)]
   exact .inr ⟨_,rfl,rfl,hc▸List.getElem_mem hi⟩
  ·rw [if_neg (by simpa using hc),zP (by omega)]
   refine .inl ⟨_,rfl,rfl,?_⟩
   rw [List.take_succ_eq_append_getElem hi]
   simp only [List.mem_append,List.mem_singleton,not_or]
   exact ⟨hv,fun e=>hc e.symm⟩) (by
  rintro s ⟨rfl,hv⟩
  unfold zCe
  rw [if_neg (by simp)]
  rw [List.take_length] at hv
  exact ⟨_,rfl,hv⟩) l.length 0 0 (by omega) ⟨rfl,by simp⟩
 unfold wU
 rw [show zCF l v 0=some t from e]
 cases t with
 |ret r=>obtain ⟨rfl,hm⟩:=ht; simp [Fl.go,hm]
 |nxt _=>simp only [Fl.go,Option.bind_some]; rw [decide_eq_false ht]
theorem zEY (l:List Int) (v:Int) (h:l.length≤1048576):zZ l v=some (decide (v∈l)):=by
 obtain ⟨t,e,ht⟩:=tF (b:=vM l v) (fun i s=>s=(i:Int)∧v∉l.take i) l.length (fun t=>match t with| .ret r=>0≤r∧v∈l| .nxt _=>v∉l) (by
  rintro i s hi ⟨rfl,hv⟩
  unfold vM
  rw [if_pos (by simp; omega)]
  simp only [zM hi,Option.bind_some]
  by_cases hc:v=l[i]
  ·rw [if_pos (by simpa using hc)]
   exact .inr ⟨_,rfl,by omega,hc▸List.getElem_mem hi⟩
  ·rw [if_neg (by simpa using hc),zP (by omega)]
   refine .inl ⟨_,rfl,rfl,?_⟩
   rw [List.take_succ_eq_append_getElem hi]
   simp only [List.mem_append,List.mem_singleton,not_or]
   exact ⟨hv,hc⟩) (by
  rintro s ⟨rfl,hv⟩
  unfold vM
  rw [if_neg (by simp)]
  rw [List.take_length] at hv
  exact ⟨_,rfl,hv⟩) l.length 0 0 (by omega) ⟨rfl,by simp⟩
 unfold zZ vW
 rw [show vR l v 0=some t from e]
 cases t with
 |ret r=>obtain ⟨h0,hm⟩:=ht; simp [Fl.go,hm,h0]
 |nxt _=>simp only [Fl.go,Option.bind_some]; rw [decide_eq_false ht]; rfl
def zHm (d:zL):Option Int:=match d.Files.find? (fun f=>decide (f.Path=bs [99,117,114])) with
 |none=>none
 |some f=>match zHa f.Data 6 with
  |none=>none
  |some n=>if n∈zDd d.Files then some n else none
theorem zKR {fs:List File} {p:ByteArray} {k:Nat} (hs:fs.Pairwise (fun f g=>slt f.Path g.Path=true)) (hk:k<fs.length) (hp:fs[k].Path =p):fs.find? (fun f=>decide (f.Path=p))=some fs[k]:=by
 rw [List.find?_eq_some_iff_getElem]
 refine ⟨by simp [hp],k,hk,rfl,fun j hj=>?_⟩
 simp only [Bool.not_eq_eq_eq_not,Bool.not_true,decide_eq_false_iff_not]
 intro e
 have:=zGY hs (by omega) hk (e.trans hp.symm)
 omega
theorem zIe {fs:List File} {p:ByteArray} (h:∀f∈fs,f.Path≠p):fs.find? (fun f=>decide (f.Path=p))=none:=by
 rw [List.find?_eq_none]
 intro f hf
 simpa using h f hf
theorem zFx (d:zL) (hg:d.good) (hb:∀f∈d.Files,∀c∈f.Data,0≤c∧c≤255):
  zAr d=some ((zHm d).getD 0)∧vT d=some ((zHm d).getD 0,match zHm d with|some _=>0|none=>4):=by
 have hl:d.Files.length≤1048576:=by have:=hg.len; omega
 have hgl:=zDb d.Files
 unfold zAr vT
 rcases zIr d (bs [99,117,114]) hg with ⟨k,hk,e1,e2,hp⟩|⟨e1,e2,hp⟩
 ·have hf:=zKR hg.sorted hk hp
  have hbk:=zJH (hb _ (List.getElem_mem hk))
  have hn:¬((k:Int)<0):=by omega
  rw [e1,e2,zEQ d hl,zJc d hl]
  simp only [Option.bind_some,zM hk,zE9 _ 6 (by omega),number_eq _ 6 (by omega),hbk,decide_eq_false hn,Bool.false_eq_true,if_false]
  unfold zHm
  rw [hf]
  simp only
  cases hnum:zHa d.Files[k].Data 6 with
  |none=>
   have hneg:¬((-1:Int)∈zDd d.Files):=fun h=>by have:=zHJ h; omega
   simp [zEY _ _ (show (zDd d.Files).length ≤1048576 by omega),hneg]
  |some n=>
   simp only [zEY _ _ (show (zDd d.Files).length ≤1048576 by omega),zEn _ _ (show (zDd d.Files).length ≤1048576 by omega)]
   by_cases hm:n∈zDd d.Files
   ·simp [hm]
   ·simp [hm]
 ·have hf:=zIe hp
  rw [e1,e2]
  simp only [Option.bind_some,number_eq _ 6 (by omega)]
  unfold zHm
  rw [hf]
  simp
theorem zKW {d:zL} {n:Int} (h:zHm d=some n):1≤n:=by
 unfold zHm at h
 split at h
 ·cases h
 ·split at h
  ·cases h
  ·split at h
   ·rename_i hm; cases h; exact (zHJ hm).1
   ·cases h
def zLY (c:Int):Bool:=decide (97≤c)&&decide (c≤122)
def zHO (c:Int):Bool:=decide (48≤c)&&decide (c≤57)
def zLj (c:Int):Bool:=zLY c||(zHO c||c==95)
theorem zFY (c:Int):wQ c=some (zLY c):=by
 unfold wQ zLY
 by_cases h:c≥97<;>simp [h]
theorem zK0 (c:Int):wY c=some (zHO c):=by
 unfold wY zHO
 by_cases h:c≥48<;>simp [h]
theorem zLG (c:Int):vF c=some (zLj c):=by
 unfold vF zLj
 simp only [zFY,zK0,Option.bind_some]
 cases zLY c<;>cases zHO c<;>simp
theorem zH6 (c:Int):xA c=some (zLj c):=by
 unfold xA zLj zLY zHO
 by_cases h1:c≥97<;>by_cases h2:c≤122<;>by_cases h3:c≥48<;>by_cases h4:c≤57<;>simp [h1,h2,h3,h4]
def zHl (s:ByteArray):Int:=(uS (fun _ c=>if zLj c then none else some (5:Int)) 0 (bl s)).getD 0
def NF (s:ByteArray):Int:=if s.size<1 then 5 else if s.size>12 then 5 else if zLY ((bl s).headD 0) then zHl s else 5
theorem zLy {s:ByteArray} (h:1≤s.size):bidx s 0=some ((bl s).headD 0):=by
 have h':0< (bl s).length :=by rw [yL]; exact h
 have e:=zDJ (s:=s) (i:=0) h'
 rw [show ((0:Nat):Int)=0 from rfl] at e
 rw [e]
 have:(bl s)[0]? =some ((bl s).headD 0):=by
  cases hb:bl s with
  |nil=>rw [hb] at h'; simp at h'
  |cons c l=>rfl
 rw [List.getElem?_eq_getElem h'] at this
 exact this
theorem zHC (s:ByteArray) (h:s.size≤12):jO s 0=some (frs (uS (fun _ c=>if zLj c then none else some (5:Int)) 0 (bl s))):=by
 unfold jO
 refine vD (bl s) _ (fun i hi=>?_) ?_
 ·have hs:i<s.size:=by rw [←yL]; exact hi
  unfold zBe
  rw [if_pos (by simp; omega),zDJ hi]
  simp only [Option.bind_some,zLG]
  rw [zP (by omega)]
  cases zLj (bl s)[i]<;>rfl
 ·unfold zBe
  rw [if_neg (by rw [yL]; simp)]
theorem zHr (s:ByteArray) (h:s.size≤12):jQ s 0=some (frs (uS (fun _ c=>if zLj c then none else some (5:Int)) 0 (bl s))):=by
 unfold jQ
 refine vD (bl s) _ (fun i hi=>?_) ?_
 ·have hs:i<s.size:=by rw [←yL]; exact hi
  unfold zBg
  rw [if_pos (by simp; omega),zDJ hi]
  simp only [Option.bind_some,zH6]
  rw [zP (by omega)]
  cases zLj (bl s)[i]<;>rfl
 ·unfold zBg
  rw [if_neg (by rw [yL]; simp)]
theorem zDy (s:ByteArray):wP s=some (NF s):=by
 unfold wP NF
 by_cases h1:s.size<1
 ·rw [if_pos (show decide ((s.size:Int)<1)=true by rw [decide_eq_true_eq]; omega),if_pos h1]; rfl
 rw [if_neg (show ¬decide ((s.size:Int)<1)=true by rw [decide_eq_true_eq]; omega),if_neg h1]
 by_cases h2:s.size>12
 ·rw [if_pos (show decide ((s.size:Int)>12)=true by rw [decide_eq_true_eq]; omega),if_pos h2]; rfl
 rw [if_neg (show ¬decide ((s.size:Int)>12)=true by rw [decide_eq_true_eq]; omega),if_neg h2,zLy (by omega),zHC s (by omega)]
 simp only [Option.bind_some,zFY]
 cases h3:zLY ((bl s).headD 0)
 ·rfl
 ·unfold zHl
  cases uS (fun _ c=>if zLj c then none else some (5:Int)) 0 (bl s)<;>rfl
theorem zMh (c:Int):(if decide (c<97)=true then some true else some (decide (c>122)))=some (!(zLY c)):=by
 unfold zLY
 by_cases h3:c<97
 ·rw [if_pos (by rw [decide_eq_true_eq]; exact h3)]
  have:decide (97≤c)=false:=by rw [decide_eq_false_iff_not]; omega
  rw [this]; rfl
 ·rw [if_neg (by rw [decide_eq_true_eq]; exact h3)]
  have:decide (97≤c)=true:=by rw [decide_eq_true_eq]; omega
  rw [this]
  congr 1
  rw [Bool.true_and,Bool.eq_iff_iff]
  simp
theorem zDx (s:ByteArray):wJ s=some (NF s):=by
 unfold wJ NF
 by_cases h1:s.size<1
 ·rw [if_pos (show decide ((s.size:Int)<1)=true by rw [decide_eq_true_eq]; omega),if_pos h1]; rfl
 rw [if_neg (show ¬decide ((s.size:Int)<1)=true by rw [decide_eq_true_eq]; omega),if_neg h1]
 by_cases h2:s.size>12
 ·rw [if_pos (show decide ((s.size:Int)>12)=true by rw [decide_eq_true_eq]; omega),if_pos h2]; rfl
 rw [if_neg (show ¬decide ((s.size:Int)>12)=true by rw [decide_eq_true_eq]; omega),if_neg h2,zLy (by omega),zHr s (by omega)]
 simp only [Option.bind_some,zMh]
 cases h3:zLY ((bl s).headD 0)
 ·rfl
 ·unfold zHl
  cases uS (fun _ c=>if zLj c then none else some (5:Int)) 0 (bl s)<;>rfl
def VF (v:Version):Int:=if inB v.A 0 999&&inB v.B 0 999&&inB v.C 0 999 then 0 else 3
theorem zCT (v:Version):yQ v=some (VF v):=by
 unfold yQ VF
 simp only [zIU,Option.bind_some]
 cases inB v.A 0 999<;>cases inB v.B 0 999<;>cases inB v.C 0 999<;>rfl
theorem zDB (v:Version):xG v=some (VF v):=by
 unfold xG VF
 simp only [zIi,Option.bind_some]
 cases inB v.A 0 999<;>cases inB v.B 0 999<;>cases inB v.C 0 999<;>rfl
def sgn (a b:Int):Int:=if a<b then-1 else if a>b then 1 else 0
theorem zLH (a b:Int):kG a b=some (sgn a b):=by
 unfold kG sgn
 by_cases h:a<b
 ·simp [h]
 ·by_cases h2:a>b<;>simp [h,h2]
theorem cmp_eq (a b:Int):xH a b=some (sgn a b):=by
 unfold xH uR sgn
 simp only [Option.bind_some,bne_self_eq_false,Bool.false_eq_true,if_false]
 by_cases h:a<b
 ·simp [h]
 ·by_cases h2:a>b<;>simp [h,h2]
def zLs (a b:Version):Int:=if sgn a.A b.A≠0 then sgn a.A b.A else if sgn a.B b.B≠0 then sgn a.B b.B else sgn a.C b.C
theorem zDh (a b:Version):xC a b=some (zLs a b):=by
 unfold xC zLs
 simp only [zLH,Option.bind_some]
 by_cases h1:sgn a.A b.A=0
 ·by_cases h2:sgn a.B b.B=0<;>simp [h1,h2]
 ·simp [h1]
theorem zMY (l:List Int) (h:l.length≤10):loop (zBZ l) 0=some (frs (uS (fun _ c=>if c !=0 then some c else none) 0 l)):=by
 refine vD l _ (fun i hi=>?_) ?_
 ·unfold zBZ
  rw [if_pos (by simp; omega),zM hi]
  simp only [Option.bind_some]
  rw [zP (by omega)]
  cases l[i] !=0<;>rfl
 ·unfold zBZ
  rw [if_neg (by simp)]
theorem zIv (a b:Version):zBM a b=some (zLs a b):=by
 unfold zBM zLs zDn zCG
 simp only [cmp_eq,Option.bind_some]
 rw [zMY _ (by simp),zD6]
 by_cases h1:sgn a.A b.A=0
 ·by_cases h2:sgn a.B b.B=0
  ·by_cases h3:sgn a.C b.C=0<;>simp [h1,h2,h3,uS]
  ·simp [h1,h2,uS]
 ·simp [h1,uS]
def eqV (a b:Version):Bool:=a.A==b.A&&(a.B==b.B&&(a.C==b.C&&true))
theorem zLz (a b:Version):(zLs a b==0)=eqV a b:=by
 unfold zLs eqV sgn
 rw [Bool.eq_iff_iff]
 simp only [beq_iff_eq,Bool.and_eq_true,Bool.and_true]
 constructor
 ·intro h
  split at h<;>omega
 ·intro ⟨h1,h2,h3⟩
  split<;>omega
def zOp:Version:= {A:=1000,B:=0,C:=0}
def TF (t:Term):Int:=if NF t.Name≠0 then NF t.Name else if VF t.Low≠0 then VF t.Low else
 if eqV t.High zOp=false∧VF t.High≠0 then 3 else if zLs t.Low t.High≥0 then 1 else 0
theorem zG2 (t:Term):zAv t=some (TF t):=by
 unfold zAv TF zCP
 simp only [zDy,zCT,zDh,Option.bind_some]
 show (if (NF t.Name !=0)=true then some (NF t.Name) else if (VF t.Low !=0)=true then some (VF t.Low) else (if (!(eqV t.High zOp))=true then some (VF t.High !=0) else some false).bind fun v=>if v=true then some 3 else if decide (zLs t.Low t.High≥0)=true then some 1 else some 0)=_
 generalize NF t.Name=a
 generalize VF t.Low=b
 generalize eqV t.High zOp=c
 generalize VF t.High=d
 generalize zLs t.Low t.High=e
 by_cases h1:a=0
 ·by_cases h2:b=0
  ·by_cases h4:d=0<;>by_cases h5:e≥0<;>cases c<;>simp [h1,h2,h4,h5]
  ·simp [h1,h2]
 ·simp [h1]
theorem zG4 (t:Term):zAu t=some (TF t):=by
 unfold zAu TF zDL
 simp only [zDx,zDB,zIv,Option.bind_some]
 show (if (NF t.Name !=0)=true then some (NF t.Name) else if (VF t.Low !=0)=true then some (VF t.Low) else (if (!(eqV t.High zOp))=true then some (VF t.High !=0) else some false).bind fun v=>if v=true then some 3 else if decide (zLs t.Low t.High≥0)=true then some 1 else some 0)=_
 generalize NF t.Name=a
 generalize VF t.Low=b
 generalize eqV t.High zOp=c
 generalize VF t.High=d
 generalize zLs t.Low t.High=e
 by_cases h1:a=0
 ·by_cases h2:b=0
  ·by_cases h4:d=0<;>by_cases h5:e≥0<;>cases c<;>simp [h1,h2,h4,h5]
  ·simp [h1,h2]
 ·simp [h1]
def tsF (l:List Term):Int:=(uS (fun _ t=>if TF t !=0 then some (TF t) else none) 0 l).getD 0
theorem zF6 (l:List Term) (h:l.length≤1048576):jD l=some (tsF l):=by
 have key:=vD l (fun _ t=>if TF t !=0 then some (TF t) else none) (b:=zAU l) (by
  intro i hi
  unfold zAU
  rw [if_pos (by simp; omega),zM hi]
  simp only [Option.bind_some,zG2]
  rw [zP (by omega)]
  cases TF l[i] !=0<;>rfl) (by
  unfold zAU
  rw [if_neg (by simp)])
 unfold jD zBB tsF
 rw [key,zD6]
 cases uS (fun _ t=>if TF t !=0 then some (TF t) else none) 0 l<;>rfl
theorem zEb (l:List Term) (h:l.length≤1048576):wG l=some (tsF l):=by
 have key:=vD l (fun _ t=>if TF t !=0 then some (TF t) else none) (b:=kD l) (by
  intro i hi
  unfold kD
  rw [if_pos (by simp; omega),zM hi]
  simp only [Option.bind_some,zG4]
  rw [zP (by omega)]
  cases TF l[i] !=0<;>rfl) (by
  unfold kD
  rw [if_neg (by simp)])
 unfold wG zAe tsF
 rw [key,zD6]
 cases uS (fun _ t=>if TF t !=0 then some (TF t) else none) 0 l<;>rfl
theorem zCI {n:Nat} (h:n<1000):(zHD n).size ≤3:=by
 rw [←yL,zEF]
 exact zFU 2 n (by omega)
theorem zDj:(bs [46]).size =1:=rfl
def zNi (v:Version):ByteArray:=zHD v.A.toNat++bs [46]++zHD v.B.toNat++bs [46]++zHD v.C.toNat
theorem zJ5 {v:Version} (h:VF v=0):(0≤v.A∧v.A≤999)∧(0≤v.B∧v.B≤999)∧(0≤v.C∧v.C≤999):=by
 unfold VF inB at h
 split at h
 ·rename_i hh
  simp only [Bool.and_eq_true,decide_eq_true_eq] at hh
  omega
 ·cases h
theorem zFI {v:Version} (h:VF v=0):(zNi v).size ≤11:=by
 obtain ⟨h1,h2,h3⟩:=zJ5 h
 unfold zNi
 simp only [zCN,zDj]
 have a1:=zCI (n:=v.A.toNat) (by omega)
 have a2:=zCI (n:=v.B.toNat) (by omega)
 have a3:=zCI (n:=v.C.toNat) (by omega)
 omega
theorem zHk {x:Int} (h:0≤x∧x≤999):xS x=some (zHD x.toNat):=by
 have:=zFw x.toNat (by omega)
 rwa [Int.toNat_of_nonneg h.1] at this
theorem zH2 {x:Int} (h:0≤x∧x≤999):zBk x=some (zHD x.toNat):=by
 have:=zF3 x.toNat (by omega)
 rw [Int.toNat_of_nonneg h.1] at this
 unfold zBk
 rw [this]
 rfl
theorem zEW {v:Version} (h:VF v=0):vK v=some (zNi v):=by
 obtain ⟨h1,h2,h3⟩:=zJ5 h
 have a1:=zCI (n:=v.A.toNat) (by omega)
 have a2:=zCI (n:=v.B.toNat) (by omega)
 have a3:=zCI (n:=v.C.toNat) (by omega)
 unfold vK zNi
 rw [zCT,h]
 simp only [Option.bind_some,zHk h1,zHk h2,zHk h3]
 rw [if_neg (by simp)]
 rw [zCX (by rw [zDj]; omega)]
 simp only [Option.bind_some]
 rw [zCX (by simp only [zCN,zDj]; omega)]
 simp only [Option.bind_some]
 rw [zCX (by simp only [zCN,zDj]; omega)]
 simp only [Option.bind_some]
 rw [zCX (by simp only [zCN,zDj]; omega)]
 rfl
theorem zLc {v:Version} (h:VF v=0):vY v=some (zNi v):=by
 obtain ⟨h1,h2,h3⟩:=zJ5 h
 have a1:=zCI (n:=v.A.toNat) (by omega)
 have a2:=zCI (n:=v.B.toNat) (by omega)
 have a3:=zCI (n:=v.C.toNat) (by omega)
 unfold vY zNi
 simp only [Option.bind_some,zH2 h1,zH2 h2,zH2 h3]
 rw [zCX (by rw [zDj]; omega)]
 simp only [Option.bind_some]
 rw [zCX (by simp only [zCN,zDj]; omega)]
 simp only [Option.bind_some]
 rw [zCX (by simp only [zCN,zDj]; omega)]
 simp only [Option.bind_some]
 rw [zCX (by simp only [zCN,zDj]; omega)]
 rfl
theorem zJk {s:ByteArray} (h:NF s=0):1≤s.size∧s.size≤12:=by
 unfold NF at h
 split at h
 ·cases h
 ·split at h
  ·cases h
  ·omega
def zeroV:Version:= {A:=0,B:=0,C:=0}
theorem zMF (a b:ByteArray):seq a b=seq b a:=by
 unfold seq
 rw [Bool.eq_iff_iff]
 simp only [beq_iff_eq]
 exact eq_comm
theorem zHI {α R:Type} (g:Nat→α→Option R):∀(xs:List α) (i:Nat),uS g i xs=none↔∀(j:Nat) (h:j<xs.length),g (i+j) xs[j]=none
 |[],i=>by simp [uS]
 |x::xs,i=>by
  simp only [uS]
  cases h:g i x with
  |some r=>
   simp only [reduceCtorEq,false_iff]
   intro hh
   have:=hh 0 (by simp)
   simp only [Nat.add_zero,List.getElem_cons_zero] at this
   rw [h] at this
   cases this
  |none=>
   show uS g (i+1) xs=none↔_
   rw [zHI g xs (i+1)]
   constructor
   ·intro hh j hj
    cases j with
    |zero=>simpa using h
    |succ j=>
     have:=hh j (by simpa using hj)
     rw [show i+(j+1)=i+1+j by omega]
     simpa using this
   ·intro hh j hj
    have:=hh (j+1) (by simpa using hj)
    rw [show i+(j+1)=i+1+j by omega] at this
    simpa using this
theorem zFa {α:Type} {xs:List α} {i:Nat} (h:i≤xs.length):zEq xs 0 (i:Int)=some (xs.take i):=by
 have:=zDI (xs:=xs) (l:=0) (h:=i) (by omega) h
 rw [show ((0:Nat):Int)=0 from rfl] at this
 rw [this]
 simp
theorem zKr (l:List ByteArray) (n:ByteArray) (h:l.length≤1048576):zBC l n=some (l.any fun x=>seq x n):=by
 have key:=vD l (fun _ x=>if seq x n then some true else none) (b:=zAY l n) (by
  intro i hi
  unfold zAY
  rw [if_pos (by simp; omega),zM hi]
  simp only [Option.bind_some]
  rw [zP (by omega)]
  cases seq l[i] n<;>rfl) (by
  unfold zAY
  rw [if_neg (by simp)])
 unfold zBC zBN
 rw [key,zD6,←zHU (fun x=>seq x n) l 0]
 cases uS (fun _ x=>if seq x n then some true else none) 0 l<;>rfl
theorem zH4 (l:List ByteArray) (n:ByteArray) (h:l.length≤1048576):xM l n=some (l.any fun x=>seq x n):=by
 have key:=vD l (fun i x=>if seq x n then some (i:Int) else none) (b:=wZ l n) (by
  intro i hi
  unfold wZ
  rw [if_pos (by simp; omega),zM hi]
  simp only [Option.bind_some]
  rw [zP (by omega),zMF n]
  cases seq l[i] n<;>rfl) (by
  unfold wZ
  rw [if_neg (by simp)])
 unfold xM vO vH
 rw [key,zD6]
 rw [←zFD (zD3 (fun x=>seq x n) l 0)]
 cases uS (fun j x=>if seq x n then some (j:Int) else none) 0 l<;>rfl
def zJ9 (p:Pack) (i:Nat) (n:ByteArray):Option Int:=if NF n !=0 then some (NF n) else if seq n p.Name||(p.Provides.take i).any (fun x=>seq x n) then some 6 else none
def zJf (_:Nat) (l:List Term):Option Int:=if (l.length:Int)==0 then some 1 else if tsF l !=0 then some (tsF l) else none
def zNu (p:Pack):Bool:=decide ((p.Provides.length:Int)>4)||(decide ((p.Needs.length:Int)>4)||(decide ((p.Bars.length:Int)>4)||p.Needs.any (fun l=>decide ((l.length:Int)>4))))
def zIm (p:Pack):Int:=match uS (zJ9 p) 0 p.Provides with
 |some r=>r
 |none=>match uS zJf 0 p.Needs with
  |some r=>r
  |none=>tsF p.Bars
def PF (p:Pack):Int:=if NF p.Name !=0 then NF p.Name else if VF p.Version !=0 then VF p.Version else if !(inB p.Size 1 200) then 3 else if zNu p then 2 else zIm p
theorem zFV (p:Pack) (hp:Pack.sm 1048576 p):((jM p 0).bind (Fl.go some fun v60=>(jL p 0).bind (Fl.go some fun v80=>(jD p.Bars).bind fun x81=>some x81)))=some (zIm p):=by
 obtain ⟨_,_,_,hpr,hne,hba⟩:=hp
 have k2:=vD p.Provides (zJ9 p) (b:=zAa p) (by
  intro i hi
  unfold zAa zJ9
  rw [if_pos (by simp; omega),zM hi]
  simp only [Option.bind_some,zDy]
  rw [zFa (by omega)]
  simp only [Option.bind_some]
  rw [zKr _ _ (by simp; omega),zP (by omega)]
  simp only [Option.bind_some]
  cases NF p.Provides[i] !=0<;>cases seq p.Provides[i] p.Name<;>cases (p.Provides.take i).any (fun x=>seq x p.Provides[i])<;>rfl) (by
  unfold zAa
  rw [if_neg (by simp)])
 have k3:=vD p.Needs zJf (b:=zAg p) (by
  intro i hi
  unfold zAg zJf
  rw [if_pos (by simp; omega),zM hi]
  simp only [Option.bind_some]
  rw [zF6 _ (hne.2 _ (List.getElem_mem hi)).1,zP (by omega)]
  simp only [Option.bind_some]
  cases (p.Needs[i].length :Int)==0<;>cases tsF p.Needs[i] !=0<;>rfl) (by
  unfold zAg
  rw [if_neg (by simp)])
 unfold jM jL zIm
 rw [k2,k3,zF6 _ hba.1]
 cases uS (zJ9 p) 0 p.Provides<;>cases uS zJf 0 p.Needs<;>rfl
theorem zFA (p:Pack) (hp:Pack.sm 1048576 p):((jH p 0).bind (Fl.go some fun v46=>(jN p 0).bind (Fl.go some fun v62=>(wG p.Bars).bind fun x63=>some x63)))=some (zIm p):=by
 obtain ⟨_,_,_,hpr,hne,hba⟩:=hp
 have k2:=vD p.Provides (zJ9 p) (b:=zAl p) (by
  intro i hi
  unfold zAl zJ9
  rw [if_pos (by simp; omega),zM hi]
  simp only [Option.bind_some,zDx]
  rw [zFa (by omega)]
  simp only [Option.bind_some]
  rw [zH4 _ _ (by simp; omega),zP (by omega)]
  simp only [Option.bind_some]
  cases NF p.Provides[i] !=0<;>cases seq p.Provides[i] p.Name<;>cases (p.Provides.take i).any (fun x=>seq x p.Provides[i])<;>rfl) (by
  unfold zAl
  rw [if_neg (by simp)])
 have k3:=vD p.Needs zJf (b:=zAk p) (by
  intro i hi
  unfold zAk zJf
  rw [if_pos (by simp; omega),zM hi]
  simp only [Option.bind_some]
  rw [zEb _ (hne.2 _ (List.getElem_mem hi)).1,zP (by omega)]
  simp only [Option.bind_some]
  cases (p.Needs[i].length :Int)==0<;>cases tsF p.Needs[i] !=0<;>rfl) (by
  unfold zAk
  rw [if_neg (by simp)])
 unfold jH jN zIm
 rw [k2,k3,zEb _ hba.1]
 cases uS (zJ9 p) 0 p.Provides<;>cases uS zJf 0 p.Needs<;>rfl
theorem zGH {α R:Type} (p:α→Bool) (r:R):∀(xs:List α) (i:Nat),uS (fun _ x=>if p x then some r else none) i xs=if xs.any p then some r else none
 |[],i=>rfl
 |x::xs,i=>by
  simp only [uS]
  cases h:p x
  ·simp only [Bool.false_eq_true,if_false,List.any_cons,h,Bool.false_or]
   exact zGH p r xs (i+1)
  ·simp [h]
theorem zG0 (p:Pack) (hp:Pack.sm 1048576 p):zAy p=some (PF p):=by
 have hl:=zFV p hp
 obtain ⟨_,_,_,hpr,hne,hba⟩:=hp
 have k1:=vD p.Needs (fun _ l=>if decide ((l.length:Int)>4) then some (2:Int) else none) (b:=zAj p) (by
  intro i hi
  unfold zAj
  rw [if_pos (by simp; omega),zM hi]
  simp only [Option.bind_some]
  rw [zP (by omega)]
  cases decide ((p.Needs[i].length :Int)>4)<;>rfl) (by
  unfold zAj
  rw [if_neg (by simp)])
 rw [zGH] at k1
 unfold zAy PF zNu
 simp only [zDy,zCT,zIU,Option.bind_some]
 rw [hl]
 unfold zA9
 rw [k1]
 cases NF p.Name !=0<;>cases VF p.Version !=0<;>cases inB p.Size 1 200<;>cases decide ((p.Provides.length:Int)>4)<;>cases decide ((p.Needs.length:Int)>4)<;>cases decide ((p.Bars.length:Int)>4)<;>cases p.Needs.any (fun l=>decide ((l.length:Int)>4))<;>rfl
theorem zJB (l:List Int) (h:l.length≤10):loop (zAh l) 0=some (frs (uS (fun _ c=>if c !=0 then some c else none) 0 l)):=by
 refine vD l _ (fun i hi=>?_) ?_
 ·unfold zAh
  rw [if_pos (by simp; omega),zM hi]
  simp only [Option.bind_some]
  rw [zP (by omega)]
  cases l[i] !=0<;>rfl
 ·unfold zAh
  rw [if_neg (by simp)]
theorem zG3 (p:Pack) (hp:Pack.sm 1048576 p):zA0 p=some (PF p):=by
 have hl:=zFA p hp
 obtain ⟨_,_,_,hpr,hne,hba⟩:=hp
 have k1:=vD p.Needs (fun i l=>if decide ((l.length:Int)>4) then some (i:Int) else none) (b:=zW p.Needs) (by
  intro i hi
  unfold zW kV
  rw [if_pos (by simp; omega),zM hi]
  simp only [Option.bind_some]
  rw [zP (by omega)]
  cases decide ((p.Needs[i].length :Int)>4)<;>rfl) (by
  unfold zW
  rw [if_neg (by simp)])
 have k2:zN p.Needs=some (p.Needs.any (fun l=>decide ((l.length:Int)>4))):=by
  unfold zN zU yA
  rw [k1,zD6,←zFD (zD3 (fun l:List Term=>decide ((l.length:Int)>4)) p.Needs 0)]
  cases uS (fun j (x:List Term)=>if decide ((x.length:Int)>4) then some (j:Int) else none) 0 p.Needs<;>rfl
 have k3:wN [NF p.Name,VF p.Version]=some (if NF p.Name !=0 then NF p.Name else VF p.Version):=by
  have k:=zJB [NF p.Name,VF p.Version] (by simp)
  unfold wN jI
  rw [k,zD6]
  simp only [uS]
  cases hn:NF p.Name !=0
  ·cases hv:VF p.Version !=0
   ·have:VF p.Version=0:=by simpa using hv
    simp [this]
   ·rfl
  ·rfl
 unfold zA0 PF zNu
 simp only [zDx,zDB,zIi,Option.bind_some]
 rw [hl,k2,k3]
 simp only [Option.bind_some]
 cases hn:NF p.Name !=0
 ·simp only [Bool.false_eq_true,if_false]
  cases VF p.Version !=0<;>cases inB p.Size 1 200<;>cases decide ((p.Provides.length:Int)>4)<;>cases decide ((p.Needs.length:Int)>4)<;>cases decide ((p.Bars.length:Int)>4)<;>cases p.Needs.any (fun l=>decide ((l.length:Int)>4))<;>rfl
 ·simp only [if_true,hn]
def isB (n:ByteArray) (v:Version) (q:Pack):Bool:=seq q.Name n&&eqV q.Version v
def zF9 (c:List Pack) (n:ByteArray) (v:Version):Int:=(uS (fun i q=>if isB n v q then some (i:Int) else none) 0 c).getD (-1)
theorem zIl (c:List Pack) (n:ByteArray) (v:Version):decide (zF9 c n v≥0)=c.any (isB n v):=zFD (zD3 (isB n v) c 0)
theorem zGO (c:List Pack) (n:ByteArray) (v:Version) (h:c.length≤1048576):jT c n v=some (zF9 c n v):=by
 have key:=vD c (fun i q=>if isB n v q then some (i:Int) else none) (b:=zBO c n v) (by
  intro i hi
  unfold zBO isB
  rw [if_pos (by simp; omega),zM hi]
  simp only [Option.bind_some,zDh,zLz]
  rw [zP (by omega)]
  cases seq c[i].Name n<;>cases eqV c[i].Version v<;>rfl) (by
  unfold zBO
  rw [if_neg (by simp)])
 unfold zF9
 unfold jT zCa
 rw [key,zD6]
 cases uS (fun i q=>if isB n v q then some (i:Int) else none) 0 c<;>rfl
theorem zGD (c:List Pack) (n:ByteArray) (v:Version) (h:c.length≤1048576):zCb c n v=some (zF9 c n v):=by
 have key:=vD c (fun i q=>if isB n v q then some (i:Int) else none) (b:=yJ c n v) (by
  intro i hi
  unfold yJ isB zCR
  rw [if_pos (by simp; omega),zM hi]
  simp only [Option.bind_some]
  rw [zP (by omega)]
  show (Option.bind (if seq c[i].Name n=true then some (eqV c[i].Version v) else some false) _)=_
  cases seq c[i].Name n<;>cases eqV c[i].Version v<;>rfl) (by
  unfold yJ
  rw [if_neg (by simp)])
 unfold zF9
 unfold zCb yG yK
 rw [key,zD6]
 cases uS (fun i q=>if isB n v q then some (i:Int) else none) 0 c<;>rfl
theorem find_spec (c:List Pack) (n:ByteArray) (v:Version) (h:c.length≤1048576):∃k,jT c n v=some k∧decide (k≥0)=c.any (isB n v):=⟨_,zGO c n v h,zIl c n v⟩
theorem zLQ (c:List Pack) (n:ByteArray) (v:Version) (h:c.length≤1048576):∃k,zCb c n v=some k∧decide (k≥0)=c.any (isB n v):=⟨_,zGD c n v h,zIl c n v⟩
theorem zGP {p:Pack→Bool}:∀(c:List Pack) (i:Nat),(uS (fun i q=>if p q then some (i:Int) else none) i c).getD (-1)= -1∨((i:Int)≤(uS (fun i q=>if p q then some (i:Int) else none) i c).getD (-1)∧(uS (fun i q=>if p q then some (i:Int) else none) i c).getD (-1)< (i:Int)+c.length)
 |[],i=>.inl rfl
 |q::c,i=>by
  simp only [uS]
  cases h:p q
  ·have:=zGP (p:=p) c (i+1)
   simp only [Bool.false_eq_true,if_false,List.length_cons]
   rcases this with h|h
   ·exact .inl h
   ·exact .inr (by omega)
  ·simp only [if_true,Option.getD_some,List.length_cons]
   exact .inr (by omega)
theorem zJ2 (c:List Pack) (n:ByteArray) (v:Version):zF9 c n v= -1∨(0≤zF9 c n v∧zF9 c n v<c.length):=by
 have:=zGP (p:=isB n v) c 0
 unfold zF9
 rcases this with h|h
 ·exact .inl h
 ·exact .inr (by simpa using h)
def zLW (c:List Pack) (i:Nat) (p:Pack):Option Int:=if PF p !=0 then some (PF p) else if (c.take i).any (isB p.Name p.Version) then some 6 else none
def CF (c:List Pack):Int:=if decide ((c.length:Int)>24) then 2 else (uS (zLW c) 0 c).getD 0
theorem zFj (c:List Pack) (hc:c.length≤1048576∧∀y0∈c,Pack.sm 1048576 y0):uG c=some (CF c):=by
 have key:=vD c (zLW c) (b:=uQ c) (by
  intro i hi
  unfold uQ zLW
  rw [if_pos (by simp; omega),zM hi]
  simp only [Option.bind_some]
  rw [zG0 _ (hc.2 _ (List.getElem_mem hi)),zFa (by omega)]
  simp only [Option.bind_some]
  obtain ⟨k,e,hk⟩:=find_spec (c.take i) c[i].Name c[i].Version (by simp; omega)
  rw [e,zP (by omega)]
  simp only [Option.bind_some]
  rw [hk]
  cases PF c[i] !=0<;>cases (c.take i).any (isB c[i].Name c[i].Version)<;>rfl) (by
  unfold uQ
  rw [if_neg (by simp)])
 unfold uG CF tO
 rw [key,zD6]
 cases decide ((c.length:Int)>24)<;>cases uS (zLW c) 0 c<;>rfl
theorem zD0 (c:List Pack) (hc:c.length≤1048576∧∀y0∈c,Pack.sm 1048576 y0):wC c=some (CF c):=by
 have key:=vD c (zLW c) (b:=uV c) (by
  intro i hi
  unfold uV zLW
  rw [if_pos (by simp; omega),zM hi]
  simp only [Option.bind_some]
  rw [zG3 _ (hc.2 _ (List.getElem_mem hi)),zFa (by omega)]
  simp only [Option.bind_some]
  obtain ⟨k,e,hk⟩:=zLQ (c.take i) c[i].Name c[i].Version (by simp; omega)
  rw [e,zP (by omega)]
  simp only [Option.bind_some]
  rw [hk]
  cases PF c[i] !=0<;>cases (c.take i).any (isB c[i].Name c[i].Version)<;>rfl) (by
  unfold uV
  rw [if_neg (by simp)])
 unfold wC CF tX
 rw [key,zD6]
 cases decide ((c.length:Int)>24)<;>cases uS (zLW c) 0 c<;>rfl
def noPack:Pack:= {Name:=ByteArray.empty,Version:= {A:=0,B:=0,C:=0},Size:=0,Provides:=[],Needs:=[],Bars:=[]}
def pat (c:List Pack) (k:Int):Pack:=(idx c k).getD noPack
def Places (c:List Pack) (a:List Int):Prop:=∀k∈a,0≤k∧k<c.length
theorem zNc {c:List Pack} {k:Int} (h:0≤k∧k<c.length):idx c k=some (pat c k)∧pat c k∈c:=by
 unfold pat idx
 rw [if_pos h.1]
 have:k.toNat<c.length:=by omega
 rw [List.getElem?_eq_getElem this]
 exact ⟨rfl,List.getElem_mem this⟩
def Cat (c:List Pack):Prop:=c.length≤1048576∧∀y0∈c,Pack.sm 1048576 y0
theorem zNv {p:Pack} (h:PF p=0):NF p.Name=0∧VF p.Version=0∧inB p.Size 1 200=true:=by
 unfold PF at h
 split at h
 ·rename_i h1; simp [h] at h1
 rename_i h1
 split at h
 ·rename_i h2; simp [h] at h2
 rename_i h2
 split at h
 ·cases h
 rename_i h3
 exact ⟨by simpa using h1,by simpa using h2,by simpa using h3⟩
def zI9 (p:Pack):ByteArray:=bs [112,107,103,47]++(p.Name++(bs [45]++zNi p.Version))
theorem zKi {p:Pack} (h1:NF p.Name=0) (h2:VF p.Version=0):(zI9 p).size ≤28:=by
 have a1:=zJk h1
 have a2:=zFI h2
 have b1:(bs [112,107,103,47]).size =4:=rfl
 have b2:(bs [45]).size =1:=rfl
 unfold zI9
 simp only [zCN]
 omega
theorem zJy {p:Pack} (h1:NF p.Name=0) (h2:VF p.Version=0):zCs p=some (zI9 p):=by
 have a1:=zJk h1
 have a2:=zFI h2
 have b1:(bs [112,107,103,47]).size =4:=rfl
 have b2:(bs [45]).size =1:=rfl
 unfold zCs zI9
 rw [zEW h2,zCX (by omega)]
 simp only [Option.bind_some]
 rw [zCX (by rw [zCN]; omega)]
 simp only [Option.bind_some]
 rw [zCX (by simp only [zCN]; omega)]
 simp only [Option.bind_some,zHd]
theorem zLm {p:Pack} (h1:NF p.Name=0) (h2:VF p.Version=0):zAq p=some (zI9 p):=by
 have a1:=zJk h1
 have a2:=zFI h2
 have b1:(bs [112,107,103,47]).size =4:=rfl
 have b2:(bs [45]).size =1:=rfl
 unfold zAq zI9
 rw [zLc h2,zCX (by omega)]
 simp only [Option.bind_some]
 rw [zCX (by rw [zCN]; omega)]
 simp only [Option.bind_some]
 rw [zCX (by simp only [zCN]; omega)]
 simp only [Option.bind_some,zHd]
theorem zHB:∀(k n:Nat),n<10^(k+1)→zEx (10^(k+1)+n)=49::(List.replicate (k+1-(zEx n).length) 48++zEx n)
 |0,n,h=>by
  have h':n<10:=by simpa using h
  rw [zDi (by simp),show (10^(0+1)+n) / 10=1 by simp; omega,show (10^(0+1)+n)%10=n by simp; omega,zA3 (n:=1) (by omega),zA3 h']
  rfl
 |k+1,n,h=>by
  have hp:1≤10^k:=Nat.one_le_pow _ _ (by omega)
  have e1:10^(k+1+1)=10*10^(k+1):=by rw [Nat.pow_succ]; omega
  rw [e1] at h
  have hq:n / 10<10^(k+1):=by omega
  have ih:=zHB k (n / 10) hq
  have hl:=zFU k (n / 10) hq
  rw [e1,zDi (by omega),show (10*10^(k+1)+n) / 10=10^(k+1)+n / 10 by omega,show (10*10^(k+1)+n)%10=n%10 by omega,ih]
  by_cases hn:n<10
  ·rw [show n / 10=0 by omega,zA3 (n:=0) (by omega),zA3 hn,show n%10=n by omega]
   simp only [List.length_singleton,List.cons_append,List.append_assoc,List.nil_append]
   rw [show k+1+1-1=k+1 by omega,show k+1-1=k by omega]
   rw [show List.replicate (k+1) (48:Int)=List.replicate k 48++[48] from List.replicate_succ']
   simp
  ·rw [zDi hn,List.length_append]
   simp only [List.length_singleton,List.cons_append,List.append_assoc]
   rw [show k+1+1-((zEx (n / 10)).length +1)=k+1-(zEx (n / 10)).length by omega]
theorem zNR (l:List UInt8):bl ⟨l.toArray⟩=l.map (fun b=>(b.toNat:Int)):=by
 unfold bl
 rw [ByteArray.toList_eq]
theorem zGJ (u:UInt8):∀(n:Nat),Lib.repeatL [u] n=List.replicate n u
 |0=>rfl
 |n+1=>by rw [Lib.repeatL,zGJ u n,List.replicate_succ]; rfl
def zOJ (n:Int):List Int:=[103,101,110,47]++(List.replicate (6-(zEx n.toNat).length) 48++zEx n.toNat)
theorem zLq (l:List UInt8):(bs l).data.toList =l:=rfl
def zNl (n:Int):ByteArray:=bs [103,101,110,47]++(⟨(List.replicate (6-(zEx n.toNat).length) (48:UInt8)).toArray⟩++zHD n.toNat)
theorem zLF (n:Int):bl (zNl n)=zOJ n:=by
 unfold zNl zOJ
 rw [zCZ,zCZ,zK1,zNR,zEF,List.map_replicate]
 rfl
theorem zJF {n:Nat} (h:n≤999999):1≤(zEx n).length ∧(zEx n).length ≤6:=by
 refine ⟨?_,zFU 5 n (by omega)⟩
 by_cases hn:n<10
 ·rw [zA3 hn]; simp
 ·rw [zDi hn,List.length_append]; simp
theorem zJt {s:ByteArray} {l h:Nat} (h1:l≤h) (h2:h≤s.size):zGQ s (l:Int) (h:Int)=some (s.extract l h):=by
 unfold zGQ
 rw [if_pos (by omega)]
 rfl
theorem zIj {n:Int} (h0:0≤n) (h1:n≤999999):zBR n=some (zNl n):=by
 have hd:=zJF (n:=n.toNat) (by omega)
 have hs:(zHD n.toNat).size =(zEx n.toNat).length :=by rw [←yL,zEF]
 have hf:=zF3 n.toNat (by omega)
 rw [Int.toNat_of_nonneg h0] at hf
 have h4:(bs [103,101,110,47]).size =4:=rfl
 unfold zBR zBk
 rw [hf]
 simp only [Option.bind_some]
 rw [hs,xU (by omega) (by omega)]
 unfold strings_Repeat
 rw [if_pos ⟨by omega,by omega,by rw [show (bs [48]).size =1 from rfl]; omega⟩,zLq,zGJ]
 simp only [Option.bind_some]
 have hr:(⟨(List.replicate (6-((zEx n.toNat).length :Int)).toNat (48:UInt8)).toArray⟩:ByteArray).size =6-(zEx n.toNat).length :=by
  rw [←yL,zNR]
  simp
 rw [zCX (by rw [hr]; omega)]
 simp only [Option.bind_some]
 rw [zCX (by rw [zCN,hr]; omega)]
 unfold zNl
 rw [show (6-((zEx n.toNat).length :Int)).toNat =6-(zEx n.toNat).length by omega]
 simp only [Option.bind_some,zHd]
theorem zId (n:Int):uM n=some (if inB n 1 999999 then zNl n else bs []):=by
 unfold uM
 rw [zIU]
 simp only [Option.bind_some]
 cases h:inB n 1 999999
 ·rfl
 have h':1≤n∧n≤999999:=by simpa [inB] using h
 rw [if_neg (by simp),xU (by omega) (by omega)]
 have e:=zFw (1000000+n.toNat) (by omega)
 rw [show ((1000000+n.toNat:Nat):Int)=1000000+n by omega] at e
 rw [e]
 simp only [Option.bind_some]
 have hp:=zHB 5 n.toNat (by omega)
 rw [show 10^(5+1)+n.toNat=1000000+n.toNat by omega] at hp
 have hd:=zJF (n:=n.toNat) (by omega)
 have hz:(zHD (1000000+n.toNat)).size =7:=by
  rw [←yL,zEF,hp]
  simp
  omega
 have e2:=zJt (s:=zHD (1000000+n.toNat)) (l:=1) (h:=(zHD (1000000+n.toNat)).size) (by omega) (Nat.le_refl _)
 rw [show ((1:Nat):Int)=1 from rfl] at e2
 rw [e2]
 simp only [Option.bind_some]
 have hx:((zHD (1000000+n.toNat)).extract 1 (zHD (1000000+n.toNat)).size).size =6:=by
  rw [←yL,zCA,zEF,hp,hz]
  simp
  omega
 rw [zCX (by rw [hx]; decide)]
 simp only [Option.bind_some,if_true]
 congr 1
 refine zGT.1 ?_
 rw [zCZ,zCA,zEF,hp,zLF,zK1,hz]
 unfold zOJ
 rw [List.take_of_length_le (by simp; omega)]
 rfl
theorem zLN {α:Type} {g:Nat→α→Option Int} (hg:∀i x,g i x≠some 0):∀(l:List α) (i:Nat),(uS g i l).getD 0=0→uS g i l=none
 |[],_,_=>rfl
 |x::l,i,h=>by
  simp only [uS] at h ⊢
  cases hx:g i x with
  |none=>rw [hx] at h; exact zLN hg l (i+1) h
  |some r=>
   rw [hx] at h
   simp only [Option.getD_some] at h
   subst h
   exact absurd hx (hg i x)
theorem zLJ {c:List Pack} (h:CF c=0):c.length≤24∧(∀p∈c,PF p=0)∧∀(j:Nat) (hj:j<c.length),(c.take j).any (isB c[j].Name c[j].Version)=false:=by
 unfold CF at h
 split at h
 ·cases h
 rename_i h1
 have h2:=zLN (g:=zLW c) (fun i x=>by
  unfold zLW
  split
  ·rename_i h3
   intro e
   rw [Option.some.inj e] at h3
   simp at h3
  ·split<;>simp) c 0 h
 rw [zHI] at h2
 have h3:∀(j:Nat) (hj:j<c.length),PF c[j]=0∧(c.take j).any (isB c[j].Name c[j].Version)=false:=by
  intro j hj
  have:=h2 j hj
  unfold zLW at this
  rw [Nat.zero_add] at this
  split at this
  ·cases this
  ·rename_i h4
   split at this
   ·cases this
   ·rename_i h5
    exact ⟨by simpa using h4,by simpa using h5⟩
 refine ⟨by simp at h1; omega,fun p hp=>?_,fun j hj=>(h3 j hj).2⟩
 obtain ⟨j,hj,rfl⟩:=List.getElem_of_mem hp
 exact (h3 j hj).1
theorem zJX:∀{a:List Int} {lo hi:Int},a.Pairwise (· < ·)→(∀k∈a,lo≤k∧k<hi)→(a.length:Int)≤hi-lo∨a=[]
 |[],_,_,_,_=>.inr rfl
 |x::a,lo,hi,hp,hb=>by
  obtain ⟨h1,h2⟩:=List.pairwise_cons.1 hp
  have hx:=hb x (by simp)
  have:=zJX (lo:=x+1) (hi:=hi) h2 (fun k hk=>⟨by have:=h1 k hk; omega,(hb k (by simp [hk])).2⟩)
  refine .inl ?_
  rcases this with h3|h3
  ·simp only [List.length_cons]; omega
  ·subst h3; simp; omega
theorem zHT (s:ByteArray):s.data.toList.map (fun b=>(b.toNat:Int))=bl s:=by
 unfold bl
 rw [ByteArray.toList_eq]
def fileOf (d:zL) (p:ByteArray):Option File:=d.Files.find? (fun f=>decide (f.Path=p))
def Byt (d:zL):Prop:=∀f∈d.Files,∀c∈f.Data,0≤c∧c≤255
theorem zKU (d:zL) (p:ByteArray) (hg:d.good):
  (∃k:Nat,∃hk:k<d.Files.length,xL d p=some (k:Int)∧yU d p=some (d.Files[k].Data,true)∧fileOf d p=some d.Files[k])∨
   (xL d p=some (-1)∧yU d p=some ([],false)∧fileOf d p=none):=by
 rcases zIr d p hg with ⟨k,hk,e1,e2,hp⟩|⟨e1,e2,hp⟩
 ·exact .inl ⟨k,hk,e1,e2,zKR hg.sorted hk hp⟩
 ·exact .inr ⟨e1,e2,zIe hp⟩
def Pkz (c:List Pack):Prop:=∀p∈c,NF p.Name=0∧VF p.Version=0∧(1≤p.Size∧p.Size≤200)
theorem zOx {c:List Pack} (h:CF c=0):Pkz c:=fun p hp=>by
 obtain ⟨h1,h2,h3⟩:=zNv ((zLJ h).2.1 p hp)
 refine ⟨h1,h2,?_⟩
 unfold inB at h3
 simpa using h3
theorem zF4 {α:Type} (q:α→Bool):∀(l:List α) (i:Nat) (acc:List α),foldI (fun _ a x=>if q x then a++[x] else a) i l acc=acc++l.filter q
 |[],_,acc=>by simp [foldI]
 |x::l,i,acc=>by
  simp only [foldI]
  rw [zF4 q l (i+1)]
  cases h:q x<;>simp [h]
theorem zKz (x y:Int):wN [x,y]=some (if x !=0 then x else y):=by
 unfold wN jI
 rw [zJB _ (by simp),zD6]
 simp only [uS]
 by_cases h:x=0
 ·by_cases h2:y=0<;>simp [h,h2]
 ·simp [h]
theorem zKG {c:List Pack} {d:zL} (hc:Cat c):∀r,wH d=some r→kX c d=some (if CF c !=0 then CF c else r):=by
 intro r hr
 unfold kX
 rw [zFj c hc,hr]
 simp only [Option.bind_some]
 cases CF c !=0<;>rfl
theorem zLf {c:List Pack} {d:zL} (hc:Cat c):∀r,wH d=some r→jB c d=some (if CF c !=0 then CF c else r):=by
 intro r hr
 unfold jB
 rw [zD0 c hc,zG1,hr]
 simp only [Option.bind_some,zKz]
def zEy (c:Int):List Int→List (List Int)
 |[]=>[[]]
 |x::l=>if x=c then []::zEy c l else match zEy c l with
  |h::t=>(x::h)::t
  |[]=>[[x]]
theorem zHc (c:Int):∀l,zEy c l≠[]
 |[]=>by simp [zEy]
 |x::l=>by
  unfold zEy
  split
  ·simp
  ·split<;>simp
theorem zGW {c:Int}:∀{l:List Int},(∀x∈l,0≤x∧x≤255)→∀p∈zEy c l,∀x∈p,0≤x∧x≤255
 |[],_=>by simp [zEy]
 |y::l,h=>by
  have ih:=zGW (c:=c) (l:=l) (fun x hx=>h x (by simp [hx]))
  intro p hp
  unfold zEy at hp
  split at hp
  ·rcases List.mem_cons.1 hp with rfl|hp
   ·simp
   ·exact ih p hp
  ·split at hp
   ·rename_i a t e
    rcases List.mem_cons.1 hp with rfl|hp
    ·intro x hx
     rcases List.mem_cons.1 hx with rfl|hx
     ·exact h _ (by simp)
     ·exact ih a (by rw [e]; simp) x hx
    ·exact ih p (by rw [e]; simp [hp])
   ·rename_i e
    exact absurd e (zHc c l)
theorem zE6 (c:Int):∀l,(zEy c l).length ≤l.length+1
 |[]=>by simp [zEy]
 |x::l=>by
  have ih:=zE6 c l
  unfold zEy
  split
  ·simp; omega
  ·split
   ·rename_i e; rw [e] at ih; simp at ih ⊢; omega
   ·simp
theorem zGo (c:Int):∀l,∀p∈zEy c l,p.length≤l.length
 |[]=>by simp [zEy]
 |x::l=>by
  have ih:=zGo c l
  intro p hp
  unfold zEy at hp
  split at hp
  ·rcases List.mem_cons.1 hp with rfl|hp
   ·simp
   ·have:=ih p hp; simp; omega
  ·split at hp
   ·rename_i a t e
    rcases List.mem_cons.1 hp with rfl|hp
    ·have:=ih a (by rw [e]; simp); simp; omega
    ·have:=ih p (by rw [e]; simp [hp]); simp; omega
   ·simp at hp; rw [hp]; simp
def uJ (c:Int) (s:ByteArray):List ByteArray:=(zEy c (bl s)).map b2s
theorem zFW (c:Int) (s:ByteArray):(uJ c s).map bl=zEy c (bl s):=by
 unfold uJ
 rw [List.map_map]
 have:∀p∈zEy c (bl s),(bl ∘ b2s) p=id p:=fun p hp=>zJH (zGW zHu p hp)
 rw [List.map_congr_left this,List.map_id]
theorem zGM:∀{a b:List ByteArray},a.map bl=b.map bl→a=b
 |[],[],_=>rfl
 |[],_::_,h=>by simp at h
 |_::_,[],h=>by simp at h
 |x::a,y::b,h=>by
  simp only [List.map_cons,List.cons.injEq] at h
  rw [zGT.1 h.1,zGM h.2]
theorem zIx {c:Int} {s:ByteArray} {ps:List ByteArray} (h:ps.map bl=zEy c (bl s)):ps=uJ c s:=zGM (h.trans (zFW c s).symm)
def zMn (c:UInt8):List UInt8→List (List UInt8)
 |[]=>[[]]
 |x::l=>if x=c then []::zMn c l else match zMn c l with
  |h::t=>(x::h)::t
  |[]=>[[x]]
theorem zIh (c:UInt8):∀(l:List UInt8),(zMn c l).map (fun p=>p.map (fun b=>(b.toNat:Int)))=zEy (c.toNat:Int) (l.map (fun b=>(b.toNat:Int)))
 |[]=>rfl
 |x::l=>by
  have ih:=zIh c l
  simp only [List.map_cons]
  unfold zMn zEy
  by_cases h:x=c
  ·subst h
   rw [if_pos rfl,if_pos rfl,List.map_cons,ih]
   rfl
  ·have h':¬((x.toNat:Int)=(c.toNat:Int)):=fun e=>h (UInt8.toNat_inj.1 (by omega))
   rw [if_neg h,if_neg h',←ih]
   cases hc:zMn c l with
   |nil=>rfl
   |cons a t=>rfl
theorem zHQ (c:UInt8):∀(l:List UInt8),c∉l→zMn c l=[l]
 |[],_=>rfl
 |x::l,h=>by
  unfold zMn
  rw [if_neg (fun e=>h (by simp [e])),zHQ c l (fun e=>h (by simp [e]))]
theorem index_one (c b:UInt8) (l:List UInt8):Lib.index (b::l) [c]=if b=c then 0 else if Lib.index l [c]== -1 then-1 else Lib.index l [c]+1:=by
 rw [Lib.index]
 have:([c].isPrefixOf (b::l))=decide (b=c):=by
  simp only [List.isPrefixOf,Bool.and_true]
  rw [Bool.eq_iff_iff,beq_iff_eq,decide_eq_true_eq]
  exact ⟨fun h=>h.symm,fun h=>h.symm⟩
 rw [this]
 by_cases h:b=c<;>simp [h]
theorem zFe (c:UInt8):∀(l:List UInt8) (k:Nat),l.count c≤k→Lib.splitK [c] 0 k l=zMn c l
 |[],k,_=>by
  cases k with
  |zero=>rfl
  |succ k=>rfl
 |b::l,0,h=>by
  have hn:c∉b::l:=List.count_eq_zero.1 (by omega)
  rw [zHQ c _ hn]
  rfl
 |b::l,k+1,h=>by
  unfold zMn
  by_cases hb:b=c
  ·subst hb
   rw [if_pos rfl]
   have e:Lib.index (b::l) [b]=0:=by rw [index_one,if_pos rfl]
   rw [Lib.splitK,e]
   simp only [List.count_cons_self] at h
   rw [if_neg (by decide)]
   show []::Lib.splitK [b] 0 k ((b::l).drop 1)=_
   rw [List.drop_one,List.tail_cons,zFe b l k (by omega)]
  ·rw [if_neg hb]
   have hc:l.count c≤k+1:=by rw [List.count_cons_of_ne hb] at h; exact h
   have ih:=zFe c l (k+1) hc
   rw [←ih,Lib.splitK,Lib.splitK,index_one,if_neg hb]
   cases hi:Lib.index l [c]== -1
   ·have hge:=Lib.index_ge l [c]
    have hne:Lib.index l [c]≠ -1:=by simpa using hi
    have hne':(Lib.index l [c]+1== -1)=false:=by
     rw [beq_eq_false_iff_ne]; omega
    simp only [Bool.false_eq_true,if_false,hne']
    rw [show (Lib.index l [c]+1).toNat =(Lib.index l [c]).toNat +1 by omega]
    simp only [Nat.add_zero,List.length_singleton,List.take_succ_cons,List.drop_succ_cons]
   ·simp
theorem zFr (s:ByteArray) (c:UInt8) (h:s.size≤1048577):strings_Split s ⟨#[c]⟩=some (uJ (c.toNat:Int) s):=by
 unfold strings_Split
 rw [if_pos ⟨by omega,by show 1≤1; omega⟩]
 congr 1
 refine zIx ?_
 have e:=Lib.splitB_data ⟨#[c]⟩ 0 (Lib.countB s ⟨#[c]⟩) s
 have e2:Lib.countB s ⟨#[c]⟩=s.data.toList.count c:=Lib.count_one c s.data.toList
 rw [e2] at e ⊢
 rw [show (⟨#[c]⟩:ByteArray).data.toList =[c] from rfl,zFe c _ _ (Nat.le_refl _)] at e
 have e3:∀ps:List ByteArray,ps.map bl=(ps.map (·.data.toList)).map (fun p=>p.map (fun b=>(b.toNat:Int))):=by
  intro ps
  rw [List.map_map]
  exact List.map_congr_left (fun p _=>(zHT p).symm)
 rw [e3,e,zIh,zHT]
def zKn (c:Int) (l:List Int):List (List Int)×List Int:=l.foldl (fun a x=>if x=c then (a.1++[a.2],[]) else (a.1,a.2++[x])) ([],[])
theorem zJD (c:Int):∀(l:List Int) (a:List (List Int)×List Int),(l.foldl (fun a x=>if x=c then (a.1++[a.2],[]) else (a.1,a.2++[x])) a).1++[(l.foldl (fun a x=>if x=c then (a.1++[a.2],[]) else (a.1,a.2++[x])) a).2]=
  a.1++(match zEy c l with|h::t=>(a.2++h)::t|[]=>[a.2])
 |[],a=>by simp [zEy]
 |x::l,a=>by
  simp only [List.foldl_cons]
  rw [zJD c l]
  have hn:=zHc c l
  by_cases h:x=c
  ·rw [if_pos h]
   conv=>rhs; unfold zEy
   rw [if_pos h]
   cases hc:zEy c l with
   |nil=>exact absurd hc hn
   |cons a t=>simp
  ·rw [if_neg h]
   conv=>rhs; unfold zEy
   rw [if_neg h]
   cases hc:zEy c l with
   |nil=>exact absurd hc hn
   |cons a t=>simp
theorem zKQ (c:Int) (l:List Int):(zKn c l).1++[(zKn c l).2]=zEy c l:=by
 unfold zKn
 rw [zJD c l ([],[])]
 cases h:zEy c l with
 |nil=>exact absurd h (zHc c l)
 |cons a t=>simp
theorem zEP (c:Int) (l:List Int) (x:Int):zKn c (l++[x])=if x=c then ((zKn c l).1++[(zKn c l).2],[]) else ((zKn c l).1,(zKn c l).2++[x]):=by
 unfold zKn
 rw [List.foldl_append]
 rfl
theorem zMp (c:Int) (l:List Int):(zKn c l).1.length ≤l.length:=by
 have h1:=zKQ c l
 have h2:=zE6 c l
 rw [←h1] at h2
 simp at h2
 exact h2
theorem zEe (s:ByteArray) (c:Int) (h:s.size≤1048577):uP s c=some (uJ c s):=by
 have hlen:=yL s
 obtain ⟨t,e,ht⟩:=tF (b:=zBc s c) (fun i q=>q.2.2=(i:Int)∧
   ((i≤s.size∧q.1.map bl=(zKn c ((bl s).take i)).1∧∃f:Nat,q.2.1=(f:Int)∧f≤i∧((bl s).drop f).take (i-f)=(zKn c ((bl s).take i)).2)∨(i=s.size+1∧q.1.map bl=zEy c (bl s)))) (s.size+1)
  (fun t=>t.map bl=zEy c (bl s)) (by
  rintro i ⟨out,from_,j⟩ hi ⟨hj,hI⟩
  simp only at hj hI
  subst hj
  rcases hI with ⟨hle,ho,f,hf,hfi,hc⟩|⟨he,_⟩
  case inr=>omega
  subst hf
  have hol:out.length≤i:=by
   have:=congrArg List.length ho
   rw [List.length_map] at this
   rw [this]
   refine Nat.le_trans (zMp _ _) ?_
   simp
   omega
  unfold zBc
  rw [if_pos (by simp; omega)]
  simp only
  by_cases hn:i=s.size
  ·subst hn
   have es:zGQ s (f:Int) (s.size:Int)=some (s.extract f s.size):=zJt hfi (Nat.le_refl _)
   rw [if_pos (by simp)]
   simp only [Option.bind_some,if_true]
   rw [es]
   simp only [Option.bind_some]
   rw [zC8 (by simp; omega) (by simp; omega),zP (by omega)]
   refine .inl ⟨_,rfl,rfl,.inr ⟨trivial,?_⟩⟩
   have htk:(bl s).take s.size=bl s:=by rw [←hlen,List.take_length]
   rw [htk] at ho hc
   rw [List.map_append,ho,←zKQ]
   simp only [List.map_cons,List.map_nil]
   rw [zCA,hc]
  ·have hlt:i< (bl s).length :=by omega
   have htk:(bl s).take (i+1)=(bl s).take i++[(bl s)[i]]:=List.take_succ_eq_append_getElem hlt
   rw [if_neg (by simp; omega),zDJ hlt]
   simp only [Option.bind_some]
   by_cases hb:(bl s)[i]=c
   ·rw [show ((bl s)[i]==c)=true by simpa using hb]
    simp only [if_true]
    have es:zGQ s (f:Int) (i:Int)=some (s.extract f i):=zJt hfi (by omega)
    rw [es]
    simp only [Option.bind_some]
    rw [zC8 (by simp; omega) (by simp; omega),zP (by omega)]
    refine .inl ⟨_,rfl,rfl,.inl ⟨by omega,?_,i+1,rfl,Nat.le_refl _,?_⟩⟩
    ·rw [htk,zEP,if_pos hb,List.map_append,ho]
     simp only [List.map_cons,List.map_nil]
     rw [zCA,hc]
    ·rw [htk,zEP,if_pos hb]
     simp
   ·rw [show ((bl s)[i]==c)=false by simpa using hb]
    simp only [Bool.false_eq_true,if_false,Option.bind_some]
    rw [zP (by omega)]
    refine .inl ⟨_,rfl,rfl,.inl ⟨by omega,?_,f,rfl,by omega,?_⟩⟩
    ·rw [htk,zEP,if_neg hb]
     exact ho
    ·rw [htk,zEP,if_neg hb,←hc,show i+1-f=(i-f)+1 by omega]
     have hd:i-f< ((bl s).drop f).length :=by simp; omega
     rw [List.take_succ_eq_append_getElem hd]
     congr 2
     rw [List.getElem_drop]
     congr 1
     omega) (by
  rintro ⟨out,from_,j⟩ ⟨hj,hI⟩
  simp only at hj hI
  subst hj
  rcases hI with ⟨hle,_⟩|⟨_,ho⟩
  ·omega
  unfold zBc
  rw [if_neg (by simp; omega)]
  exact ⟨_,rfl,ho⟩) (s.size+1) 0 (([]:List ByteArray),0,0) (by omega) ⟨rfl,.inl ⟨by omega,rfl,0,rfl,by omega,by simp [zKn]⟩⟩
 unfold uP zBl
 rw [e,zIx ht]
 rfl
def zDg (s:ByteArray):List ByteArray:=if (uJ 10 s).getLast? =some (bs []) then (uJ 10 s).dropLast else uJ 10 s
theorem zGZ (ps:List ByteArray) (h0:ps≠[]) (hl:ps.length≤1048578):((idx ps (w64 ((ps.length:Int)-1))).bind fun x4=>(if seq x4 (bs []) then ((zEq ps 0 (w64 ((ps.length:Int)-1))).bind fun x7=>some x7) else (some ps)).bind fun v9=>some v9)=
  some (if ps.getLast? =some (bs []) then ps.dropLast else ps):=by
 have hp:0<ps.length:=List.length_pos_iff.2 h0
 rw [xU (by omega) (by omega),show (ps.length:Int)-1=((ps.length-1:Nat):Int) by omega,zM (show ps.length-1<ps.length by omega)]
 simp only [Option.bind_some]
 have hg:ps.getLast? =some ps[ps.length-1]:=by
  rw [List.getLast?_eq_getElem?,List.getElem?_eq_getElem]
 rw [hg]
 by_cases h:ps[ps.length-1]=bs []
 ·rw [if_pos (zFh.2 h),if_pos (by rw [h])]
  have e:zEq ps 0 ((ps.length-1:Nat):Int)=some (ps.take (ps.length-1)):=zFa (by omega)
  rw [e,List.dropLast_eq_take]
  rfl
 ·have hs:seq ps[ps.length-1] (bs [])=false:=by
   cases hq:seq ps[ps.length-1] (bs []) with
   |false=>rfl
   |true=>exact absurd (zFh.1 hq) h
  rw [hs,if_neg (show ¬(some ps[ps.length-1]=some (bs [])) from fun e=>h (Option.some.inj e))]
  rfl
theorem zI4 (c:Int) (s:ByteArray):uJ c s≠[]:=by
 unfold uJ
 intro h
 exact zHc c (bl s) (List.map_eq_nil_iff.1 h)
theorem zDC (c:Int) (s:ByteArray):(uJ c s).length ≤s.size+1:=by
 unfold uJ
 rw [List.length_map,←yL]
 exact zE6 c (bl s)
theorem zIB (s:ByteArray) (h:s.size≤1048577):zB6 s=some (zDg s):=by
 unfold zB6
 rw [zEe s 10 h]
 exact zGZ _ (zI4 _ _) (by have:=zDC 10 s; omega)
theorem zHS (s:ByteArray) (h:s.size≤1048577):zBJ s=some (zDg s):=by
 unfold zBJ
 have e:=zFr s 10 h
 rw [show (((10:UInt8).toNat :Nat):Int)=10 from rfl] at e
 rw [show bs [10]=⟨#[10]⟩ from rfl,e]
 exact zGZ _ (zI4 _ _) (by have:=zDC 10 s; omega)
theorem zGG (s:ByteArray):(zDg s).length ≤s.size+1:=by
 have:=zDC 10 s
 unfold zDg
 split
 ·simp; omega
 ·exact this
theorem zFR (s:ByteArray):∀p∈zDg s,p.size≤s.size:=by
 intro p hp
 have hm:p∈uJ 10 s:=by
  unfold zDg at hp
  split at hp
  ·exact (List.dropLast_sublist _).subset hp
  ·exact hp
 have hb:bl p∈zEy 10 (bl s):=by
  rw [←zFW]
  exact List.mem_map_of_mem hm
 have:=zGo 10 (bl s) _ hb
 rw [yL,yL] at this
 exact this
def zOQ:zO:= {Code:=5,Version:=zeroV}
def zDQ (i:Nat) (a:List Int) (x:ByteArray):Lp (List Int) (Fl zO (List Int)):=match zHa (bl x) 3 with
 |some n=>.go (a.set i n)
 |none=>.done (.ret zOQ)
def zNX (t:Fl zO (List Int)):zO:=match t with
 | .ret r=>r
 | .nxt l=> {Code:=0,Version:= {A:=l.getD 0 0,B:=l.getD 1 0,C:=l.getD 2 0}}
def PV (s:ByteArray):zO:=if (uJ 46 s).length >3 then zOQ else zNX (goL zDQ .nxt 0 (uJ 46 s) [0,0,0])
theorem zIJ {l:List Int} {n:Int} (h:zHa l 3=some n):0≤n:=by
 unfold zHa at h
 split at h
 ·cases h
 ·rename_i h1
  cases h
  exact (zD9 (l:=l) (by
   intro c hc
   cases hd:zF5 c with
   |true=>rfl
   |false=>exact absurd (.inr (.inr (fun h'=>by rw [h' c hc] at hd; cases hd))) h1)).1
theorem zHj:∀(ps:List ByteArray) (i:Nat) (a:List Int),a.length=3→match goL zDQ Fl.nxt i ps a with| .ret r=>r=zOQ| .nxt l=>l.length=3
 |[],_,a,h=>h
 |p::ps,i,a,h=>by
  simp only [goL]
  unfold zDQ
  cases hn:zHa (bl p) 3 with
  |none=>rfl
  |some n=>exact zHj ps (i+1) (a.set i n) (by simpa using h)
theorem zFo (s:ByteArray) (h:s.size≤1048577):wT s=some (PV s):=by
 unfold wT PV
 rw [zEe s 46 h]
 simp only [Option.bind_some]
 by_cases hl:(uJ 46 s).length >3
 ·rw [if_pos (by simp; omega),if_pos hl]; rfl
 rw [if_neg (by simp; omega),if_neg hl]
 have key:=zIC (uJ 46 s) zDQ Fl.nxt (fun i a=>(a,(i:Int))) (fun _ a=>a.length=3) (b:=uT (uJ 46 s)) [0,0,0] (by
  intro i a hi ha
  unfold uT zDQ
  rw [if_pos (by simp; omega),zM hi]
  simp only [Option.bind_some,zE9 _ 3 (by omega)]
  cases hn:zHa (bl (uJ 46 s)[i]) 3 with
  |none=>exact ⟨rfl,fun a' h=>by cases h⟩
  |some n=>
   simp only [Bool.not_true,Bool.false_eq_true,if_false]
   rw [zM (show i<a.length by omega),zP (by omega)]
   exact ⟨rfl,fun a' h=>by cases h; simpa using ha⟩) (by
  intro a ha
  unfold uT
  rw [if_neg (by simp)]) rfl
 unfold tQ
 rw [show ((0:Nat):Int)=0 from rfl] at key
 rw [key]
 have h3:=zHj (uJ 46 s) 0 [0,0,0] rfl
 cases hg:goL zDQ Fl.nxt 0 (uJ 46 s) [0,0,0] with
 |ret r=>rfl
 |nxt l=>
  rw [hg] at h3
  match l,h3 with
  |[x,y,z],_=>rfl
theorem zFs (s:ByteArray) (h:s.size≤1048577):uI s=some (PV s):=by
 unfold uI PV
 have e:=zFr s 46 h
 rw [show (((46:UInt8).toNat :Nat):Int)=46 from rfl] at e
 rw [show bs [46]=⟨#[46]⟩ from rfl,e]
 simp only [Option.bind_some]
 by_cases hl:(uJ 46 s).length >3
 ·rw [if_pos (by simp; omega),if_pos hl]; rfl
 rw [if_neg (by simp; omega),if_neg hl]
 have key:=zIC (uJ 46 s) zDQ Fl.nxt (fun i a=>(a,(i:Int))) (fun _ a=>a.length=3) (b:=uO (uJ 46 s)) [0,0,0] (by
  intro i a hi ha
  have hia:i<a.length:=by omega
  unfold uO zDQ
  rw [if_pos (by simp; omega),zM hi]
  simp only [Option.bind_some,number_eq _ 3 (by omega)]
  have ea:∀(b:List Int),b.length=3→zMb b 3 (i:Int)=idx b (i:Int):=fun b hb=>if_pos hb
  rw [ea a ha,zM hia]
  simp only [Option.bind_some,Int.toNat_natCast]
  rw [ea _ (by simpa using ha),zM (by simpa using hia)]
  simp only [Option.bind_some,List.getElem_set_self]
  cases hn:zHa (bl (uJ 46 s)[i]) 3 with
  |none=>exact ⟨rfl,fun a' h=>by cases h⟩
  |some n=>
   have:=zIJ hn
   simp only
   rw [if_neg (by simpa using this),zP (by omega)]
   exact ⟨rfl,fun a' h=>by cases h; simpa using ha⟩) (by
  intro a ha
  unfold uO
  rw [if_neg (by simp)]) rfl
 unfold tN
 rw [show ((0:Nat):Int)=0 from rfl] at key
 rw [key]
 have h3:=zHj (uJ 46 s) 0 [0,0,0] rfl
 cases hg:goL zDQ Fl.nxt 0 (uJ 46 s) [0,0,0] with
 |ret r=>rfl
 |nxt l=>
  rw [hg] at h3
  match l,h3 with
  |[x,y,z],_=>rfl
theorem zFq:∀{l1 l2:List Int},l1.Pairwise (· < ·)→l2.Pairwise (· < ·)→(∀x,x∈l1↔x∈l2)→l1=l2
 |[],[],_,_,_=>rfl
 |[],y::l2,_,_,h=>by have:=(h y).2 (by simp); simp at this
 |x::l1,[],_,_,h=>by have:=(h x).1 (by simp); simp at this
 |x::l1,y::l2,h1,h2,h=>by
  rw [List.pairwise_cons] at h1 h2
  have hxy:x=y:=by
   have hx:=(h x).1 (by simp)
   have hy:=(h y).2 (by simp)
   rcases List.mem_cons.1 hx with e|hx
   ·exact e
   ·rcases List.mem_cons.1 hy with e|hy
    ·exact e.symm
    ·have:=h1.1 y hy
     have:=h2.1 x hx
     omega
  subst hxy
  congr 1
  refine zFq h1.2 h2.2 fun z=>?_
  constructor
  ·intro hz
   rcases List.mem_cons.1 ((h z).1 (List.mem_cons_of_mem _ hz)) with e|hz'
   ·have:=h1.1 z hz; omega
   ·exact hz'
  ·intro hz
   rcases List.mem_cons.1 ((h z).2 (List.mem_cons_of_mem _ hz)) with e|hz'
   ·have:=h2.1 z hz; omega
   ·exact hz'
theorem zDR {l:List Int} (h:l.Pairwise (· < ·)) {i j:Nat} (hi:i<l.length) (hj:j<l.length) (hij:i<j):l[i]<l[j]:=List.pairwise_iff_getElem.1 h i j hi hj hij
theorem zHp (l:List Int) (v:Int) (hs:l.Pairwise (· < ·)) (hv:v∉l) (hl:l.length≤1048576):
  ∃r,jJ l v=some r∧r.Pairwise (· < ·)∧(∀x,x∈r↔x∈l∨x=v)∧r.length=l.length+1:=by
 obtain ⟨⟨acc,inn⟩,e,h1,h2,h3,h4⟩:=tF (b:=zCh l v)
  (fun i s=>s.2.2=(i:Int)∧s.1.Pairwise (· < ·)∧(∀x,x∈s.1↔x∈l.take i∨(s.2.1=true∧x=v))∧s.1.length=i+(if s.2.1 then 1 else 0)∧(s.2.1=false→∀x∈l.take i,x<v)∧(s.2.1=true→∀x∈l.drop i,v<x)) l.length
  (fun t=>t.1.Pairwise (· < ·)∧(∀x,x∈t.1↔x∈l∨(t.2=true∧x=v))∧t.1.length=l.length+(if t.2 then 1 else 0)∧(t.2=false→∀x∈l,x<v)) (by
  rintro i ⟨acc,inn,j⟩ hi ⟨hj,hp,hm,hlen,hf,ht⟩
  simp only at hj hp hm hlen hf ht
  subst hj
  have hlt:∀x∈l.take i,x<l[i]:=by
   intro x hx
   obtain ⟨k,hk,rfl⟩:=List.mem_iff_getElem.1 hx
   rw [List.getElem_take]
   have:k<i:=by simp at hk; omega
   exact zDR hs (by omega) hi this
  have htk:l.take (i+1)=l.take i++[l[i]]:=List.take_succ_eq_append_getElem hi
  have hdr:l.drop i=l[i]::l.drop (i+1):=List.drop_eq_getElem_cons hi
  have hne:l[i]≠v:=fun e=>hv (e▸List.getElem_mem hi)
  have hal:acc.length≤1048577:=by rw [hlen]; split<;>omega
  unfold zCh
  rw [if_pos (by simp; omega),zM hi]
  simp only [Option.bind_some]
  rw [zP (by omega)]
  refine .inl ?_
  cases inn
  ·by_cases hgt:l[i]>v
   ·rw [if_pos (by simpa using hgt)]
    simp only [Bool.not_false,Option.bind_some,if_true]
    rw [zC8 (by simp; omega) (by simp; omega)]
    simp only [Option.bind_some]
    rw [zC8 (by simp; omega) (by simp; omega)]
    refine ⟨_,rfl,rfl,?_,?_,?_,by simp,?_⟩
    ·simp only
     have hav:∀x∈acc,x<v:=fun x hx=>hf rfl x (by have:=(hm x).1 hx; simpa using this)
     rw [List.pairwise_append,List.pairwise_append]
     refine ⟨⟨hp,by simp,fun x hx y hy=>by simp at hy; rw [hy]; exact hav x hx⟩,by simp,fun x hx y hy=>?_⟩
     simp at hy
     rw [hy]
     rcases List.mem_append.1 hx with hx|hx
     ·have:=hav x hx; omega
     ·simp at hx; omega
    ·intro x
     have:=hm x
     simp only [List.mem_append,List.mem_singleton,htk]
     simp at this
     rw [this]
     simp
     constructor<;>(intro h; rcases h with (h|h)|h<;>simp [h])
    ·simp; simp at hlen; omega
    ·intro _ x hx
     have:l[i]<x:=by
      obtain ⟨k,hk,rfl⟩:=List.mem_iff_getElem.1 hx
      rw [List.getElem_drop]
      simp at hk
      exact zDR hs hi (by omega) (by omega)
     omega
   ·rw [if_neg (by simpa using hgt)]
    simp only [Option.bind_some,Bool.false_eq_true,if_false]
    rw [zC8 (by simp; omega) (by simp; omega)]
    refine ⟨_,rfl,rfl,?_,?_,?_,?_,by simp⟩
    ·simp only
     rw [List.pairwise_append]
     refine ⟨hp,by simp,fun x hx y hy=>?_⟩
     simp at hy
     rw [hy]
     have:=(hm x).1 hx
     exact hlt x (by simpa using this)
    ·intro x
     have:=hm x
     simp only [List.mem_append,List.mem_singleton,htk]
     simp at this
     rw [this]
     simp
    ·simp; simp at hlen; omega
    ·intro _ x hx
     rw [htk] at hx
     rcases List.mem_append.1 hx with hx|hx
     ·exact hf rfl x hx
     ·simp at hx; omega
  ·have hlv:v<l[i]:=ht rfl _ (by rw [hdr]; exact List.mem_cons_self)
   rw [if_pos (by simpa using hlv)]
   simp only [Bool.not_true,Option.bind_some,Bool.false_eq_true,if_false]
   rw [zC8 (by simp; omega) (by simp; omega)]
   refine ⟨_,rfl,rfl,?_,?_,?_,by simp,?_⟩
   ·simp only
    rw [List.pairwise_append]
    refine ⟨hp,by simp,fun x hx y hy=>?_⟩
    simp at hy
    rw [hy]
    rcases (hm x).1 hx with hx|⟨_,hx⟩
    ·exact hlt x hx
    ·omega
   ·intro x
    have:=hm x
    simp only [List.mem_append,List.mem_singleton,htk]
    rw [this]
    simp
    constructor<;>(intro h; rcases h with (h|h)|h<;>simp [h])
   ·simp; simp at hlen; omega
   ·intro _ x hx
    exact ht rfl x (by rw [hdr]; exact List.mem_cons_of_mem _ hx)) (by
  rintro ⟨acc,inn,j⟩ ⟨hj,hp,hm,hlen,hf,ht⟩
  simp only at hj hp hm hlen hf ht
  subst hj
  unfold zCh
  rw [if_neg (by simp)]
  rw [List.take_length] at hm hf
  exact ⟨_,rfl,hp,hm,hlen,hf⟩) l.length 0 (([]:List Int),false,0) (by omega) ⟨rfl,by simp,by simp,by simp,by simp,by simp⟩
 simp only at h1 h2 h3 h4
 unfold jJ zCK
 rw [e]
 simp only [Option.bind_some]
 cases inn
 ·simp only [Bool.not_false,if_true]
  simp at h3
  rw [zC8 (by simp; omega) (by simp; omega)]
  refine ⟨_,rfl,?_,?_,by simp; omega⟩
  ·rw [List.pairwise_append]
   refine ⟨h1,by simp,fun x hx y hy=>?_⟩
   simp at hy
   rw [hy]
   have:=(h2 x).1 hx
   exact h4 rfl x (by simpa using this)
  ·intro x
   have:=h2 x
   simp at this
   simp [this]
 ·refine ⟨_,rfl,h1,?_,by simpa using h3⟩
  intro x
  have:=h2 x
  simpa using this
theorem zHt (a:List Int) (k0:Nat) (h0:1≤k0) (hk:k0<a.length) (hs:a.Pairwise (· ≤ ·)) (hl:a.length≤1048577) (hd:a[k0]'hk=a[k0-1]'(by omega)) (hp0:(a.take k0).Pairwise (· < ·)) (x48:List Int) (hx:x48.length=a.length-k0):
  ∃xs k,xQ (k0:Int) x48 (a,(k0:Int),1)=some (xs,((k:Nat):Int))∧xs.length=a.length∧k≤a.length∧(xs.take k).Pairwise (· < ·)∧∀x,x∈xs.take k↔x∈a:=by
 have hle:∀(i j:Nat) (hi:i<a.length) (hj:j<a.length),i≤j→a[i]≤a[j]:=by
  intro i j hi hj hij
  rcases Nat.lt_or_ge i j with h|h
  ·exact List.pairwise_iff_getElem.1 hs i j hi hj h
  ·have:i=j:=by omega
   subst this; exact Int.le_refl _
 obtain ⟨⟨xs,k'⟩,e,h1,k,h2,h3,h4,h5⟩:=tF (b:=wD (k0:Int) x48)
  (fun i s=>s.2.2=((i+1:Nat):Int)∧s.1.length=a.length∧(∀j,i+k0≤j→s.1[j]? =a[j]?)∧∃k:Nat,s.2.1=(k:Int)∧1≤k∧k≤i+k0∧(s.1.take k).Pairwise (· < ·)∧(∀x,x∈s.1.take k↔x∈a.take (i+k0+1))∧(∀x∈s.1.take k,x≤a.getD (i+k0) 0)) (a.length-k0-1)
  (fun t=>t.1.length=a.length∧∃k:Nat,t.2=(k:Int)∧k≤a.length∧(t.1.take k).Pairwise (· < ·)∧∀x,x∈t.1.take k↔x∈a) (by
  rintro i ⟨xs,kk,jj⟩ hi ⟨hj,hlen,hsame,k,hkk,hk1,hkle,hpw,hmem,hmax⟩
  simp only at hj hlen hsame hkk hpw hmem hmax
  subst hj hkk
  have hi1:i+k0+1<a.length:=by omega
  have g1:xs[i+k0+1]'(by omega)=a[i+k0+1]:=by
   have:=hsame (i+k0+1) (by omega)
   rw [List.getElem?_eq_getElem (by omega),List.getElem?_eq_getElem hi1] at this
   exact Option.some.inj this
  have g0:xs[i+k0]'(by omega)=a[i+k0]:=by
   have:=hsame (i+k0) (by omega)
   rw [List.getElem?_eq_getElem (by omega),List.getElem?_eq_getElem (by omega)] at this
   exact Option.some.inj this
  have hgd:a.getD (i+k0) 0=a[i+k0]:=by simp [List.getD,show i+k0<a.length by omega]
  rw [hgd] at hmax
  have r1:zHF xs (k0:Int) x48.length ((i+1:Nat):Int)=some a[i+k0+1]:=by
   unfold zHF
   rw [if_pos (by omega),show (k0:Int)+((i+1:Nat):Int)=((i+k0+1:Nat):Int) by omega,zM (by omega),g1]
  have r0:zHF xs (k0:Int) x48.length (i:Int)=some a[i+k0]:=by
   unfold zHF
   rw [if_pos (by omega),show (k0:Int)+(i:Int)=((i+k0:Nat):Int) by omega,zM (by omega),g0]
  refine .inl ?_
  unfold wD
  rw [if_pos (by simp; omega)]
  simp only
  rw [r1,xU (x:=((i+1:Nat):Int)-1) (by omega) (by omega),show ((i+1:Nat):Int)-1=(i:Int) by omega,r0,zM (show k<xs.length by omega),zP (show k<_ by omega),zP (show i+1<_ by omega)]
  simp only [Option.bind_some]
  have htk:a.take (i+k0+1+1)=a.take (i+k0+1)++[a[i+k0+1]]:=List.take_succ_eq_append_getElem hi1
  have hmono:=hle (i+k0) (i+k0+1) (by omega) hi1 (by omega)
  have hgd1:a.getD (i+1+k0) 0=a[i+k0+1]:=by
   rw [show i+1+k0=i+k0+1 by omega]
   simp [List.getD,hi1]
  by_cases hne:a[i+k0+1]=a[i+k0]
  ·rw [if_neg (by simp [hne])]
   refine ⟨_,rfl,rfl,hlen,fun j hj=>hsame j (by omega),k,rfl,hk1,by omega,hpw,?_,?_⟩
   ·intro x
    rw [show i+1+k0+1=i+k0+1+1 by omega,htk,hmem,List.mem_append,List.mem_singleton]
    constructor
    ·exact fun h=>.inl h
    ·rintro (h|h)
     ·exact h
     ·rw [h,hne]
      refine List.mem_iff_getElem.2 ⟨i+k0,by simp; omega,by simp⟩
   ·intro x hx
    rw [hgd1]
    exact Int.le_trans (hmax x hx) hmono
  ·rw [if_pos (by simpa using hne)]
   refine ⟨_,rfl,rfl,by simpa using hlen,?_,k+1,rfl,by omega,by omega,?_,?_,?_⟩
   ·intro j hj
    show (xs.set (k:Int).toNat a[i+k0+1])[j]? =a[j]?
    rw [Int.toNat_natCast,List.getElem?_set_ne (by omega)]
    exact hsame j (by omega)
   ·show ((xs.set (k:Int).toNat a[i+k0+1]).take (k+1)).Pairwise (· < ·)
    rw [Int.toNat_natCast,zDM (by omega),List.pairwise_append]
    refine ⟨hpw,by simp,fun x hx y hy=>?_⟩
    simp at hy
    rw [hy]
    have:=hmax x hx
    omega
   ·intro x
    show x∈(xs.set (k:Int).toNat a[i+k0+1]).take (k+1)↔_
    rw [Int.toNat_natCast,zDM (by omega),show i+1+k0+1=i+k0+1+1 by omega,htk,List.mem_append,List.mem_append,hmem]
   ·intro x hx
    have hx':x∈(xs.set (k:Int).toNat a[i+k0+1]).take (k+1):=hx
    rw [Int.toNat_natCast,zDM (by omega)] at hx'
    rw [hgd1]
    rcases List.mem_append.1 hx' with h|h
    ·exact Int.le_trans (hmax x h) hmono
    ·simp at h; omega) (by
  rintro ⟨xs,kk,jj⟩ ⟨hj,hlen,hsame,k,hkk,hk1,hkle,hpw,hmem,hmax⟩
  simp only at hj hlen hsame hkk hpw hmem hmax
  subst hj hkk
  unfold wD
  rw [if_neg (by simp; omega)]
  refine ⟨_,rfl,hlen,k,rfl,by omega,hpw,fun x=>?_⟩
  rw [hmem,List.take_of_length_le (by omega)]) (a.length-k0-1) 0 (a,(k0:Int),1) (by omega) ⟨rfl,rfl,fun _ _=>rfl,k0,rfl,h0,by omega,hp0,by
   intro x
   rw [Nat.zero_add,List.take_succ_eq_append_getElem hk,List.mem_append,List.mem_singleton]
   constructor
   ·exact fun h=>.inl h
   ·rintro (h|h)
    ·exact h
    ·rw [h,hd]
     exact List.mem_iff_getElem.2 ⟨k0-1,by simp; omega,by simp⟩,by
   intro x hx
   rw [Nat.zero_add]
   obtain ⟨j,hj,rfl⟩:=List.mem_iff_getElem.1 hx
   rw [List.getElem_take]
   have hgd:a.getD k0 0=a[k0]:=by simp [List.getD,hk]
   rw [hgd]
   simp at hj
   exact hle j k0 (by omega) hk (by omega)⟩
 simp only at h1 h2
 subst h2
 exact ⟨xs,k,by unfold xQ; exact e,h1,h3,h4,h5⟩
theorem zKq (a:List Int) (hs:a.Pairwise (· ≤ ·)) (hl:a.length≤1048577):∃r,xV a=some r∧r.Pairwise (· < ·)∧(∀x,x∈r↔x∈a)∧r.length≤a.length:=by
 have step1:∀i (hi:i<a.length) (h1:1≤i),(a.take i).Pairwise (· < ·)→a[i]≠a[i-1]'(by omega)→(a.take (i+1)).Pairwise (· < ·):=by
  intro i hi h1 hp hne
  rw [List.take_succ_eq_append_getElem hi,List.pairwise_append]
  refine ⟨hp,by simp,fun x hx y hy=>?_⟩
  simp at hy
  rw [hy]
  obtain ⟨j,hj,rfl⟩:=List.mem_iff_getElem.1 hx
  rw [List.getElem_take]
  simp at hj
  have q1:a[i-1]'(by omega)≤a[i]:=List.pairwise_iff_getElem.1 hs (i-1) i (by omega) hi (by omega)
  have q2:a[j]'(by omega)≤a[i-1]'(by omega):=by
   rcases Nat.lt_or_ge j (i-1) with h|h
   ·exact List.pairwise_iff_getElem.1 hs j (i-1) (by omega) (by omega) h
   ·have:j=i-1:=by omega
    subst this; exact Int.le_refl _
  omega
 have hb:∀i (hi:i<a.length) (h1:1≤i),(a.take i).Pairwise (· < ·)→(a[i]=a[i-1]'(by omega)∧∃r,yV a (i:Int)=some (.done (.ret r))∧r.Pairwise (· < ·)∧(∀x,x∈r↔x∈a)∧r.length≤a.length)∨(a[i]≠a[i-1]'(by omega)∧yV a (i:Int)=some (.go ((i+1:Nat):Int))):=by
  intro i hi h1 hp
  unfold yV
  rw [if_pos (by simp; omega),zM hi,xU (x:=(i:Int)-1) (by omega) (by omega),show (i:Int)-1=((i-1:Nat):Int) by omega,zM (show i-1<a.length by omega),zP (by omega)]
  simp only [Option.bind_some]
  by_cases he:a[i]=a[i-1]'(by omega)
  ·left
   refine ⟨he,?_⟩
   rw [if_pos (by simpa using he),zDI (Nat.le_of_lt hi) (Nat.le_refl _)]
   simp only [Option.bind_some]
   obtain ⟨xs,k,e,g1,g2,g3,g4⟩:=zHt a i h1 hi hs hl he hp ((a.drop i).take (a.length-i)) (by simp)
   rw [e]
   simp only [Option.bind_some]
   have hk:k≤xs.length:=by omega
   rw [zDI hk (Nat.le_refl _)]
   simp only [Option.bind_some]
   rw [zJ1 (by simp; omega)]
   simp only [Option.bind_some]
   refine ⟨xs.take k,?_,g3,g4,by simp; omega⟩
   have:∀ys:List Int,zEq (xs.take k++ys) 0 (k:Int)=some (xs.take k):=by
    intro ys
    have hh:=zDI (xs:=xs.take k++ys) (l:=0) (h:=k) (by omega) (by simp; omega)
    rw [show ((0:Nat):Int)=0 from rfl] at hh
    rw [hh]
    simp [Nat.min_eq_left hk]
   rw [List.append_assoc,this]
   rfl
  ·right
   rw [if_neg (by simpa using he)]
   exact ⟨he,rfl⟩
 unfold xV
 by_cases h2:a.length<2
 ·rw [if_pos (by simp; omega)]
  refine ⟨a,rfl,?_,fun x=>Iff.rfl,Nat.le_refl _⟩
  match a,h2 with
  |[],_=>simp
  |[x],_=>simp
 ·rw [if_neg (by simp; omega)]
  obtain ⟨t,e,h⟩:=tF (b:=yV a) (fun i s=>s=((i+1:Nat):Int)∧(a.take (i+1)).Pairwise (· < ·)) (a.length-1)
   (fun t=>(∃r,t= .ret r∧r.Pairwise (· < ·)∧(∀x,x∈r↔x∈a)∧r.length≤a.length)∨(t= .nxt ()∧a.Pairwise (· < ·))) (by
   rintro i s hi ⟨rfl,hp⟩
   rcases hb (i+1) (by omega) (by omega) hp with ⟨_,r,e,q⟩|⟨hne,e⟩
   ·exact .inr ⟨_,e,.inl ⟨r,rfl,q⟩⟩
   ·exact .inl ⟨_,e,rfl,step1 (i+1) (by omega) (by omega) hp hne⟩) (by
   rintro s ⟨rfl,hp⟩
   rw [show a.length-1+1=a.length by omega] at hp ⊢
   refine ⟨.nxt (),?_,.inr ⟨rfl,by rw [List.take_length] at hp; exact hp⟩⟩
   unfold yV
   rw [if_neg (by simp)]) (a.length-1) 0 1 (by omega) ⟨rfl,by
    match a,h2 with
    |x::l,_=>simp⟩
  unfold wI
  rw [e]
  rcases h with ⟨r,rfl,q⟩|⟨rfl,q⟩
  ·exact ⟨r,rfl,q⟩
  ·exact ⟨a,rfl,q,fun x=>Iff.rfl,Nat.le_refl _⟩
def kR (s:ByteArray):List ByteArray:=(uJ 32 s).filter (fun w=> !(seq w (bs [])))
theorem zIY (c:Int) (s:ByteArray):∀p∈uJ c s,p.size≤s.size:=by
 intro p hp
 have hb:bl p∈zEy c (bl s):=by
  rw [←zFW]
  exact List.mem_map_of_mem hp
 have:=zGo c (bl s) _ hb
 rw [yL,yL] at this
 exact this
theorem zFO (s:ByteArray):∀p∈kR s,p.size≤s.size:=fun p hp=>zIY 32 s p (List.mem_filter.1 hp).1
theorem zIt (s:ByteArray) (h:s.size≤1048577):zBQ s=some (kR s):=by
 have hl:=zDC 32 s
 have key:=zGB (uJ 32 s) (fun _ l w=>if !(seq w (bs [])) then l++[w] else l) (fun i l=>l.length≤i) (b:=zBa (uJ 32 s)) (by
  intro i l hi hI
  unfold zBa
  rw [if_pos (by simp; omega)]
  simp only
  rw [zM hi]
  simp only [Option.bind_some]
  rw [zC8 (by simp; omega) (by simp; omega),zP (by omega)]
  cases seq (uJ 32 s)[i] (bs [])
  ·exact ⟨rfl,by simp; omega⟩
  ·exact ⟨rfl,by simp; omega⟩) (by
  intro l
  unfold zBa
  rw [if_neg (by simp)]) (uJ 32 s).length 0 [] (by omega) (by simp)
 unfold zBQ
 rw [zEe s 32 h]
 simp only [Option.bind_some]
 unfold zBm
 rw [show ((0:Nat):Int)=0 from rfl] at key
 rw [key.1,List.drop_zero,zF4 (fun w=> !(seq w (bs [])))]
 rfl
theorem zI3 (s:ByteArray) (h:s.size≤1048575):zBH s=some (kR s):=by
 have hl:=zDC 32 s
 have e:=zFr s 32 (by omega)
 rw [show (((32:UInt8).toNat :Nat):Int)=32 from rfl] at e
 have key:=zNk (fun w:ByteArray=>seq w (bs [])) (uJ 32 s) ByteArray.empty (by omega) (b1:=yI (uJ 32 s)) (b2:=yD) (by
  intro i hi
  unfold yI uL
  rw [if_pos (by simp; omega),zM hi]
  simp only [Option.bind_some]
  rw [zP (by omega)]
  split<;>rfl) (by
  unfold yI
  rw [if_neg (by simp)]) (by
  intro xs i j hj hij hl2 hm
  unfold yD uL
  simp only
  rw [if_pos (by simp; omega),zM hj]
  simp only [Option.bind_some]
  rw [zM (show i<xs.length by omega),zP (show j<_ by omega),zP (show i<_ by omega)]
  cases seq xs[j] (bs [])<;>simp) (by
  intro xs i hl2
  unfold yD
  rw [if_neg (by simp)])
 unfold zBH
 rw [show bs [32]=⟨#[32]⟩ from rfl,e]
 simp only [Option.bind_some]
 have e2:zY (uJ 32 s)=some (kR s):=key
 rw [e2]
 rfl
def jE (c:List Pack) (w:List ByteArray):Int:=if w.length≠2 then-1 else if (PV (w.getD 1 (bs []))).Code !=0 then-1 else zF9 c (w.getD 0 (bs [])) (PV (w.getD 1 (bs []))).Version
theorem zF8 (c:List Pack) (w:List ByteArray):jE c w= -1∨(0≤jE c w∧jE c w<c.length):=by
 unfold jE
 split
 ·exact .inl rfl
 ·split
  ·exact .inl rfl
  ·exact zJ2 _ _ _
theorem zHw (c:List Pack) (w:List ByteArray) (hc:c.length≤1048576) (hw:∀p∈w,p.size≤1048577):zAF c w=some (jE c w):=by
 unfold zAF jE
 match w,hw with
 |[],_=>rfl
 |[_],_=>rfl
 |[x,y],hw=>
  have e0:idx [x,y] 0=some x:=rfl
  have e1:idx [x,y] 1=some y:=rfl
  rw [if_neg (by simp),e1,e0]
  simp only [Option.bind_some,zFs y (hw y (by simp))]
  rw [if_neg (show ¬([x,y].length ≠2) by simp)]
  show (if (PV y).Code !=0 then some (-1) else _)=some (if (PV y).Code !=0 then-1 else zF9 c x (PV y).Version)
  rw [zGD c x _ hc]
  cases (PV y).Code !=0<;>rfl
 |_::_::_::r,_=>
  rw [if_pos (by simp; omega),if_pos (by simp)]
theorem zIX (c:List Pack) (w:List ByteArray) (hc:c.length≤1048576) (hw:∀p∈w,p.size≤1048577):(if (w.length:Int)==2 then ((idx w 1).bind fun x36=>(wT x36).bind fun x38=>if x38.Code==0 then ((idx w 0).bind fun x41=>(jT c x41 x38.Version).bind fun x43=>some x43) else (some (-1))) else (some (-1)))=some (jE c w):=by
 unfold jE
 match w,hw with
 |[],_=>rfl
 |[_],_=>rfl
 |[x,y],hw=>
  have e0:idx [x,y] 0=some x:=rfl
  have e1:idx [x,y] 1=some y:=rfl
  rw [if_pos (by simp),e1,e0]
  simp only [Option.bind_some,zFo y (hw y (by simp))]
  rw [if_neg (show ¬([x,y].length ≠2) by simp)]
  show (if (PV y).Code ==0 then _ else some (-1))=some (if (PV y).Code !=0 then-1 else zF9 c x (PV y).Version)
  rw [zGO c x _ hc,bne]
  cases (PV y).Code ==0<;>rfl
 |_::_::_::r,_=>
  rw [if_neg (by simp; omega),if_pos (by simp)]
def zDA (c:List Pack):Nat→List Int→List ByteArray→Fl yE (List Int)
 |_,out,[]=>.nxt out
 |i,out,s::ps=>if jE c (kR s)<0∨jE c (kR s)∈out then .ret {Code:=5,At:=i,Set:=[]} else zDA c (i+1) (out++[jE c (kR s)]) ps
def zOT (t:Fl yE (List Int)):yE:=match t with
 | .ret r=>r
 | .nxt l=> {Code:=0,At:=0,Set:=l.mergeSort (fun x y=>decide (x≤y))}
def PS (c:List Pack) (s:ByteArray):yE:=if s.size>4000 then {Code:=2,At:=0,Set:=[]} else zOT (zDA c 0 [] (zDg s))
theorem zDK (c:List Pack):∀(ps:List ByteArray) (i:Nat) (out:List Int),out.Nodup→(∀k∈out,0≤k∧k<c.length)→match zDA c i out ps with
  | .ret r=>r.Code=5∧r.Set=[]
  | .nxt l=>l.Nodup∧(∀k∈l,0≤k∧k<c.length)
 |[],_,out,h1,h2=>⟨h1,h2⟩
 |s::ps,i,out,h1,h2=>by
  simp only [zDA]
  split
  ·rename_i h
   split at h
   ·cases h; exact ⟨rfl,rfl⟩
   ·rename_i hn
    rw [not_or] at hn
    have:=zDK c ps (i+1) (out++[jE c (kR s)]) (by
     rw [List.nodup_append]
     refine ⟨h1,by simp,fun a ha b hb=>?_⟩
     simp only [List.mem_singleton] at hb
     subst hb
     intro e
     subst e
     exact hn.2 ha) (by
     intro k hk
     rcases List.mem_append.1 hk with hk|hk
     ·exact h2 k hk
     ·simp only [List.mem_singleton] at hk
      subst hk
      rcases zF8 c (kR s) with h|h
      ·omega
      ·exact h)
    rw [h] at this
    exact this
  ·rename_i l h
   split at h
   ·cases h
   ·rename_i hn
    rw [not_or] at hn
    have:=zDK c ps (i+1) (out++[jE c (kR s)]) (by
     rw [List.nodup_append]
     refine ⟨h1,by simp,fun a ha b hb=>?_⟩
     simp only [List.mem_singleton] at hb
     subst hb
     intro e
     subst e
     exact hn.2 ha) (by
     intro k hk
     rcases List.mem_append.1 hk with hk|hk
     ·exact h2 k hk
     ·simp only [List.mem_singleton] at hk
      subst hk
      rcases zF8 c (kR s) with h|h
      ·omega
      ·exact h)
    rw [h] at this
    exact this
theorem zLU {l:List Int} (h:l.Nodup):(l.mergeSort (fun x y=>decide (x≤y))).Pairwise (· < ·)∧∀x,x∈l.mergeSort (fun x y=>decide (x≤y))↔x∈l:=by
 have hp:(l.mergeSort (fun x y=>decide (x≤y))).Perm l:=List.mergeSort_perm _ _
 have hs:(l.mergeSort (fun x y=>decide (x≤y))).Pairwise (fun x y=>(decide (x≤y))=true):=List.pairwise_mergeSort (fun a b c h1 h2=>by simp at h1 h2 ⊢; omega) (fun a b=>by simp; omega) l
 have hn:(l.mergeSort (fun x y=>decide (x≤y))).Nodup :=hp.nodup_iff.2 h
 refine ⟨?_,fun x=>hp.mem_iff⟩
 rw [List.pairwise_iff_getElem] at hs ⊢
 intro i j hi hj hij
 have h1:=hs i j hi hj hij
 have h2:=(List.pairwise_iff_getElem.1 hn) i j hi hj hij
 simp only [decide_eq_true_eq] at h1
 omega
theorem zH1 (c:List Pack) (s:ByteArray):(((PS c s).Code =2∨(PS c s).Code =5)∧(PS c s).Set =[])∨(PS c s).Code =0∧(PS c s).At =0∧(PS c s).Set.Pairwise (· < ·)∧∀k∈(PS c s).Set,0≤k∧k<c.length:=by
 have key:∀r,r=PS c s→((r.Code=2∨r.Code=5)∧r.Set=[])∨r.Code=0∧r.At=0∧r.Set.Pairwise (· < ·)∧∀k∈r.Set,0≤k∧k<c.length:=by
  intro r hr
  unfold PS at hr
  split at hr
  ·subst hr
   exact .inl ⟨.inl rfl,rfl⟩
  ·have:=zDK c (zDg s) 0 [] (by simp) (by simp)
   cases h:zDA c 0 [] (zDg s) with
   |ret q=>
    rw [h] at this hr
    simp only [zOT] at hr
    subst hr
    exact .inl ⟨.inr this.1,this.2⟩
   |nxt l=>
    rw [h] at this hr
    simp only [zOT] at hr
    subst hr
    obtain ⟨h1,h2⟩:=zLU this.1
    exact .inr ⟨rfl,rfl,h1,fun k hk=>this.2 k ((h2 k).1 hk)⟩
 exact key _ rfl
section
variable {c:List Pack} (hc:c.length≤1048576)
include hc
theorem zFy (ps:List ByteArray) (hps:∀p∈ps,p.size≤100000) (hl:ps.length≤100000):∀(k i:Nat) (S out:List Int),i+k=ps.length→out.length≤i→S.length≤i→S.Pairwise (· < ·)→(∀x,x∈S↔x∈out)→
  ∃t,loop (kU c ps) (S,(i:Int))=some t∧match zDA c i out (ps.drop i) with
   | .ret r=>t= .ret r
   | .nxt l=>∃S',t= .nxt S'∧S'.Pairwise (· < ·)∧∀x,x∈S'↔x∈l
 |0,i,S,out,hk,ho,hS,h1,h2=>by
  have e:i=ps.length:=by omega
  subst e
  rw [vN]
  unfold kU
  rw [if_neg (by simp),List.drop_length]
  exact ⟨_,rfl,S,rfl,h1,h2⟩
 |k+1,i,S,out,hk,ho,hS,h1,h2=>by
  have hi:i<ps.length:=by omega
  have hm:=List.getElem_mem hi
  have hw:=zFO ps[i]
  have hps1:=hps _ hm
  have hb:kU c ps (S,(i:Int))=if jE c (kR ps[i])<0∨jE c (kR ps[i])∈S then some (.done (.ret {Code:=5,At:=i,Set:=[]})) else (jJ S (jE c (kR ps[i]))).bind fun x51=>some (.go (x51,((i+1:Nat):Int))):=by
   unfold kU
   rw [if_pos (by simp; omega),zM hi]
   simp only [Option.bind_some,zIt _ (show ps[i].size ≤1048577 by omega)]
   rw [zIX c _ hc (fun p hp=>by have:=hw p hp; omega)]
   simp only [Option.bind_some]
   by_cases hneg:jE c (kR ps[i])<0
   ·rw [if_pos (by simpa using hneg),if_pos (.inl hneg)]
    rfl
   ·rw [if_neg (by simpa using hneg),zEn S _ (by omega),zP (by omega)]
    simp only [Option.bind_some]
    by_cases hmem:jE c (kR ps[i])∈S
    ·rw [if_pos (by simpa using hmem),if_pos (.inr hmem)]
    ·rw [if_neg (by simpa using hmem),if_neg (by rw [not_or]; exact ⟨hneg,hmem⟩)]
  rw [vN,hb,List.drop_eq_getElem_cons hi]
  simp only [zDA]
  by_cases hbad:jE c (kR ps[i])<0∨jE c (kR ps[i])∈out
  ·rw [if_pos hbad,if_pos (by rw [h2]; exact hbad)]
   exact ⟨_,rfl,rfl⟩
  ·have hbad2:¬(jE c (kR ps[i])<0∨jE c (kR ps[i])∈S):=by rw [h2]; exact hbad
   rw [if_neg hbad,if_neg hbad2]
   obtain ⟨r,er,r1,r2,r3⟩:=zHp S (jE c (kR ps[i])) h1 (fun h=>hbad2 (.inr h)) (by omega)
   rw [er]
   simp only [Option.bind_some,Lp.elim]
   refine zFy ps hps hl k (i+1) r (out++[jE c (kR ps[i])]) (by omega) (by simp; omega) (by omega) r1 (fun x=>?_)
   rw [r2,h2,List.mem_append,List.mem_singleton]
end
section
variable {c:List Pack} (hc:c.length≤1048576)
include hc
theorem zHM (s:ByteArray) (h:s.size≤90000):zB9 c s=some (PS c s):=by
 unfold zB9 PS
 by_cases h4:s.size>4000
 ·rw [if_pos (by simp; omega),if_pos h4]
 ·rw [if_neg (by simp; omega),if_neg h4,zIB s (by omega)]
  simp only [Option.bind_some]
  have hlen:=zGG s
  obtain ⟨t,e,ht⟩:=zFy hc (zDg s) (fun p hp=>by have:=zFR s p hp; omega) (by omega) (zDg s).length 0 [] [] (by omega) (by simp) (by simp) (by simp) (by simp)
  rw [List.drop_zero] at ht
  unfold zBF
  rw [show ((0:Nat):Int)=0 from rfl] at e
  rw [e]
  have hg:=zDK c (zDg s) 0 [] (by simp) (by simp)
  cases hr:zDA c 0 [] (zDg s) with
  |ret r=>
   rw [hr] at ht
   simp only at ht
   subst ht
   rfl
  |nxt l=>
   rw [hr] at ht hg
   obtain ⟨S',rfl,h1,h2⟩:=ht
   obtain ⟨g1,g2⟩:=zLU hg.1
   have:S'=l.mergeSort (fun x y=>decide (x≤y)):=zFq h1 g1 (fun x=>by rw [h2,g2])
   subst this
   rfl
end
section
variable {c:List Pack} (hc:c.length≤1048576)
include hc
theorem zEN (ps:List ByteArray) (hps:∀p∈ps,p.size≤100000) (hl:ps.length≤100000):∀(k i:Nat) (out:List Int),i+k=ps.length→out.length≤i→loop (jR c ps) (out,(i:Int))=some (zDA c i out (ps.drop i))
 |0,i,out,hk,ho=>by
  have e:i=ps.length:=by omega
  subst e
  rw [vN]
  unfold jR
  rw [if_neg (by simp),List.drop_length]
  rfl
 |k+1,i,out,hk,ho=>by
  have hi:i<ps.length:=by omega
  have hm:=List.getElem_mem hi
  have hw:=zFO ps[i]
  have hps1:=hps _ hm
  have hb:jR c ps (out,(i:Int))=if jE c (kR ps[i])<0∨jE c (kR ps[i])∈out then some (.done (.ret {Code:=5,At:=i,Set:=[]})) else some (.go (out++[jE c (kR ps[i])],((i+1:Nat):Int))):=by
   unfold jR
   rw [if_pos (by simp; omega),zM hi]
   simp only [Option.bind_some,zI3 _ (show ps[i].size ≤1048575 by omega)]
   rw [zHw c _ hc (fun p hp=>by have:=hw p hp; omega)]
   simp only [Option.bind_some]
   rw [zC8 (by simp; omega) (by simp; omega),zP (by omega)]
   by_cases hneg:jE c (kR ps[i])<0
   ·rw [if_pos (by simpa using hneg),if_pos (.inl hneg)]
    rfl
   ·rw [if_neg (by simpa using hneg),zEY out _ (by omega)]
    simp only [Option.bind_some]
    by_cases hmem:jE c (kR ps[i])∈out
    ·rw [if_pos (by simpa using hmem),if_pos (.inr hmem)]
    ·rw [if_neg (by simpa using hmem),if_neg (by rw [not_or]; exact ⟨hneg,hmem⟩)]
  rw [vN,hb,List.drop_eq_getElem_cons hi]
  simp only [zDA]
  by_cases hbad:jE c (kR ps[i])<0∨jE c (kR ps[i])∈out
  ·rw [if_pos hbad,if_pos hbad]
   rfl
  ·rw [if_neg hbad,if_neg hbad]
   simp only [Option.bind_some,Lp.elim]
   exact zEN ps hps hl k (i+1) (out++[jE c (kR ps[i])]) (by omega) (by simp; omega)
end
theorem zHe {c:List Pack} (hC:Cat c) (s:ByteArray) (h:s.size≤90000):zAJ c s=some (if CF c !=0 then {Code:=CF c,At:=0,Set:=[]} else PS c s):=by
 have hc:=hC.1
 unfold zAJ PS
 rw [zD0 c hC]
 simp only [Option.bind_some]
 cases CF c !=0
 case true=>rfl
 simp only [Bool.false_eq_true,if_false]
 by_cases h4:s.size>4000
 ·rw [if_pos (by simp; omega),if_pos h4]
 ·rw [if_neg (by simp; omega),if_neg h4,zHS s (by omega)]
  simp only [Option.bind_some]
  have hlen:=zGG s
  have e:=zEN hc (zDg s) (fun p hp=>by have:=zFR s p hp; omega) (by omega) (zDg s).length 0 [] (by omega) (by simp)
  rw [List.drop_zero,show ((0:Nat):Int)=0 from rfl] at e
  unfold zAZ
  rw [e]
  have hlp:∀(ps:List ByteArray) (i:Nat) (out l:List Int),zDA c i out ps= .nxt l→l.length≤out.length+ps.length:=by
   intro ps
   induction ps with
   |nil=>intro i out l h; cases h; simp
   |cons s ps ih=>
    intro i out l h
    simp only [zDA] at h
    split at h
    ·cases h
    ·have:=ih _ _ _ h
     simp at this ⊢
     omega
  cases hr:zDA c 0 [] (zDg s) with
  |ret r=>rfl
  |nxt l=>
   have hl:=hlp _ _ _ _ hr
   simp only [Option.bind_some,Fl.go]
   unfold xB
   rw [if_pos (by simp at hl; omega)]
   simp only [Option.bind_some]
   rw [zDE (by rw [List.length_mergeSort])]
   rfl
theorem zK3 {l:List Int} {n:Int} (hp:l.take 4=zNG) (hl:4≤l.length) (h:zCE l=some n):l=zOJ n∧1≤n∧n≤999999:=by
 unfold zCE at h
 cases hn:zHa (l.drop 4) 6 with
 |none=>rw [hn] at h; cases h
 |some m=>
  rw [hn] at h
  simp only at h
  split at h
  ·rename_i hc
   cases h
   have e:=(zLw hp hl hn).2 hc
   by_cases hr:1≤n∧n≤999999
   ·rw [if_pos hr] at e
    refine ⟨?_,hr⟩
    have hpd:=zHB 5 n.toNat (by omega)
    rw [show 10^(5+1)+n.toNat=1000000+n.toNat by omega] at hpd
    rw [←e,hpd]
    rfl
   ·rw [if_neg hr] at e
    rw [←e] at hc
    simp at hc
  ·cases h
theorem zIp {fs:List File} {n:Int} (h:n∈zDd fs):(∃f∈fs,f.Path=zNl n)∧1≤n∧n≤999999:=by
 unfold zDd at h
 obtain ⟨p,hp,hg⟩:=List.mem_filterMap.1 h
 have hb:=zI7 (zE2 p hp)
 rw [zLC] at hb
 obtain ⟨e,h1⟩:=zK3 hb.1 hb.2 hg
 refine ⟨?_,h1⟩
 unfold jA at hp
 obtain ⟨f,hf,rfl⟩:=List.mem_map.1 hp
 exact ⟨f,(List.mem_filter.1 hf).1,zGT.1 (e.trans (zLF n).symm)⟩
def zHZ (c:Int):yE:= {Code:=c,At:=0,Set:=[]}
def zA1 (c:List Pack) (d:zL) (n:Int):yE:=if n∈zDd d.Files then (match fileOf d (zNl n) with
 |some f=>if (PS c (b2s f.Data)).Code !=0 then zHZ (PS c (b2s f.Data)).Code else PS c (b2s f.Data)
 |none=>zHZ 0) else zHZ 4
theorem zJ0 (c:List Pack) (d:zL) (n:Int):((zA1 c d n).Code ≠0→(zA1 c d n).Set =[])∧(zA1 c d n).At =0∧(zA1 c d n).Set.Pairwise (· < ·)∧(∀k∈(zA1 c d n).Set,0≤k∧k<c.length):=by
 have key:∀r,r=zA1 c d n→(r.Code≠0→r.Set=[])∧r.At=0∧r.Set.Pairwise (· < ·)∧(∀k∈r.Set,0≤k∧k<c.length):=by
  intro r hr
  have hcode:∀x,(zHZ x).Set =[]∧(zHZ x).At =0:=fun x=>⟨rfl,rfl⟩
  unfold zA1 at hr
  split at hr
  ·split at hr
   ·split at hr
    ·subst hr; exact ⟨fun _=>rfl,rfl,by rw [(hcode _).1]; simp,by rw [(hcode _).1]; simp⟩
    ·rename_i f _ hc
     subst hr
     rcases zH1 c (b2s f.Data) with ⟨h,_⟩|⟨h1,h2,h3,h4⟩
     ·rcases h with h|h<;>rw [h] at hc<;>simp at hc
     ·exact ⟨fun h=>absurd h1 h,h2,h3,h4⟩
   ·subst hr; exact ⟨fun _=>rfl,rfl,by rw [(hcode _).1]; simp,by rw [(hcode _).1]; simp⟩
  ·subst hr; exact ⟨fun _=>rfl,rfl,by rw [(hcode _).1]; simp,by rw [(hcode _).1]; simp⟩
 exact key _ rfl
theorem zGK {d:zL} (hg:d.good) {p:ByteArray} (h:∃f∈d.Files,f.Path=p):∃k:Nat,∃hk:k<d.Files.length,xL d p=some (k:Int)∧yU d p=some (d.Files[k].Data,true)∧fileOf d p=some d.Files[k]:=by
 rcases zKU d p hg with h1|⟨_,_,h3⟩
 ·exact h1
 ·obtain ⟨f,hf,hp⟩:=h
  unfold fileOf at h3
  have:=List.find?_eq_none.1 h3 f hf
  simp [hp] at this
section
variable {c:List Pack} {d:zL} (hc:c.length≤1048576) (hg:d.good) (hb:Byt d)
include hc hg hb in
theorem zKK (n:Int):zCO c d n=some (zA1 c d n):=by
 have hfl:d.Files.length≤1048576:=by have:=hg.len; omega
 have hgl:=zDb d.Files
 unfold zCO zA1
 rw [zEQ d hfl]
 simp only [Option.bind_some]
 rw [zEn _ _ (by omega)]
 simp only [Option.bind_some]
 by_cases hm:n∈zDd d.Files
 ·obtain ⟨hf,h1,h2⟩:=zIp hm
  obtain ⟨k,hk,e1,_,e3⟩:=zGK hg hf
  have hmem:=List.getElem_mem hk
  have hdat:=hg.data _ hmem
  rw [if_neg (by simpa using hm),if_pos hm,zId,show inB n 1 999999=true by unfold inB; simp; omega]
  simp only [Option.bind_some,if_true,e1]
  rw [zM hk]
  simp only [Option.bind_some]
  rw [zHM hc _ (by rw [←yL,zJH (hb _ hmem)]; omega),e3]
  simp only [Option.bind_some]
  cases (PS c (b2s d.Files[k].Data)).Code !=0<;>rfl
 ·rw [if_pos (by simpa using hm),if_neg hm]
  rfl
end
section
variable {c:List Pack} {d:zL} (hc:c.length≤1048576) (hg:d.good) (hb:Byt d)
include hg hb in
theorem zK6 (hC:Cat c) (h0:CF c=0) (n:Int):zCQ c d n=some ((zA1 c d n).Set,(zA1 c d n).Code):=by
 have hfl:d.Files.length≤1048576:=by have:=hg.len; omega
 have hgl:=zDb d.Files
 unfold zCQ zA1
 rw [zJc d hfl]
 simp only [Option.bind_some]
 rw [zEY _ _ (by omega)]
 simp only [Option.bind_some]
 by_cases hm:n∈zDd d.Files
 ·obtain ⟨hf,h1,h2⟩:=zIp hm
  obtain ⟨k,hk,_,e2,e3⟩:=zGK hg hf
  have hmem:=List.getElem_mem hk
  have hdat:=hg.data _ hmem
  rw [if_neg (by simpa using hm),if_pos hm,zIj (by omega) h2]
  simp only [Option.bind_some,e2]
  rw [zHe hC _ (by rw [←yL,zJH (hb _ hmem)]; omega),e3,h0]
  simp only [bne_self_eq_false,Bool.false_eq_true,if_false,Option.bind_some]
  rcases zH1 c (b2s d.Files[k].Data) with ⟨h,h'⟩|⟨h,_⟩
  ·have hn:((PS c (b2s d.Files[k].Data)).Code !=0)=true:=by rcases h with h|h<;>rw [h]<;>rfl
   rw [hn,h']
   rfl
  ·simp [h]
 ·rw [if_pos (by simpa using hm),if_neg hm]
  rfl
end
theorem zIG {c:List Pack} {d:zL} (hC:Cat c) (hd:zL.sm 1048576 d):(∃q,q≠0∧kX c d=some q∧jB c d=some q)∨(kX c d=some 0∧jB c d=some 0∧CF c=0∧d.good):=by
 obtain ⟨k,ek,hk⟩:=zGu d hd.1.1
 rw [zKG hC k ek,zLf hC k ek]
 by_cases h0:CF c=0
 ·by_cases h1:k=0
  ·exact .inr ⟨by simp [h0,h1],by simp [h0,h1],h0,hk h1⟩
  ·exact .inl ⟨k,h1,by simp [h0],by simp [h0]⟩
 ·exact .inl ⟨CF c,h0,by simp [h0],by simp [h0]⟩
theorem zHV {a b:ByteArray} (h:slt a b=false) (hne:a≠b):slt b a=true:=by
 cases h2:slt b a with
 |true=>rfl
 |false=>
  have c1:¬zMw a b<0:=fun hc=>by rw [(zJu a b).1 hc] at h; cases h
  have key:∀(x y:List UInt8),Op.bytesLess x y=false→Op.bytesLess y x=false→x=y:=by
   intro x
   induction x with
   |nil=>intro y; cases y<;>simp [Op.bytesLess]
   |cons u x ih=>
    intro y
    cases y with
    |nil=>simp [Op.bytesLess]
    |cons v y=>
     simp only [Op.bytesLess]
     intro e1 e2
     have e3:¬u<v:=fun hh=>by simp [hh] at e1
     have e4:¬v<u:=fun hh=>by simp [hh] at e2
     rw [UInt8.lt_iff_toNat_lt] at e3 e4
     have e5:u=v:=UInt8.toNat_inj.1 (by omega)
     subst e5
     simp [UInt8.lt_irrefl] at e1 e2
     rw [ih y e1 e2]
  exfalso
  apply hne
  unfold slt at h h2
  exact toList_inj (key _ _ h h2)
theorem zIc (c:List Pack) (d:zL) (n:Int):(zA1 c d n).Code ≠9:=by
 unfold zA1
 split
 ·split
  ·rename_i f _
   rcases zH1 c (b2s f.Data) with ⟨h,_⟩|⟨h,_⟩
   ·rcases h with h|h<;>simp [h,zHZ]
   ·simp [h]
  ·simp [zHZ]
 ·simp [zHZ]
theorem zH5 {S1 S2 T1 T2:Type} {b1:S1→Option (Lp S1 T1)} {b2:S2→Option (Lp S2 T2)} (I:Nat→S1→S2→Prop) (n:Nat) (Q:T1→T2→Prop)
  (hstep:∀i s1 s2,i<n→I i s1 s2→(∃s1' s2',b1 s1=some (.go s1')∧b2 s2=some (.go s2')∧I (i+1) s1' s2')∨∃t1 t2,b1 s1=some (.done t1)∧b2 s2=some (.done t2)∧Q t1 t2)
  (hend:∀s1 s2,I n s1 s2→∃t1 t2,b1 s1=some (.done t1)∧b2 s2=some (.done t2)∧Q t1 t2):∀(k i:Nat) (s1:S1) (s2:S2),i+k=n→I i s1 s2→∃t1 t2,loop b1 s1=some t1∧loop b2 s2=some t2∧Q t1 t2
 |0,i,s1,s2,hk,hI=>by
  obtain ⟨t1,t2,h1,h2,h3⟩:=hend s1 s2 (by rw [show n=i by omega]; exact hI)
  exact ⟨t1,t2,by rw [vN,h1]; rfl,by rw [vN,h2]; rfl,h3⟩
 |k+1,i,s1,s2,hk,hI=>by
  rcases hstep i s1 s2 (by omega) hI with ⟨s1',s2',h1,h2,h3⟩|⟨t1,t2,h1,h2,h3⟩
  ·obtain ⟨t1,t2,h4,h5,h6⟩:=zH5 I n Q hstep hend k (i+1) s1' s2' (by omega) h3
   exact ⟨t1,t2,by rw [vN,h1]; exact h4,by rw [vN,h2]; exact h5,h6⟩
  ·exact ⟨t1,t2,by rw [vN,h1]; rfl,by rw [vN,h2]; rfl,h3⟩
def ltS (a b:ByteArray):Prop:=slt a b=true
def leS (a b:ByteArray):Prop:=slt b a=false
theorem zHv (a:ByteArray):leS a a:=zCS a
theorem zJK {a b:ByteArray} (h:leS a b) (hne:a≠b):ltS a b:=zHV h (Ne.symm hne)
theorem zL6 {a b:ByteArray} (h:ltS a b):leS a b:=by
 unfold leS
 cases h2:slt b a with
 |false=>rfl
 |true=>
  have h3:=zDa h h2
  rw [zCS] at h3
  cases h3
theorem zJ7 {a b c:ByteArray} (h1:leS a b) (h2:ltS b c):ltS a c:=by
 by_cases h:a=b
 ·rw [h]; exact h2
 ·exact zDa (zJK h1 h) h2
theorem zFT {a b c:ByteArray} (h1:leS a b) (h2:leS b c):leS a c:=by
 by_cases h:b=c
 ·rw [←h]; exact h1
 ·exact zL6 (zJ7 h1 (zJK h2 h))
theorem zLd {a b:ByteArray} (h:ltS a b):a≠b:=fun e=>by
 subst e
 unfold ltS at h
 rw [zCS] at h
 cases h
theorem zGf:∀{l1 l2:List ByteArray},l1.Pairwise ltS→l2.Pairwise ltS→(∀x,x∈l1↔x∈l2)→l1=l2
 |[],[],_,_,_=>rfl
 |[],y::l2,_,_,h=>by have:=(h y).2 (by simp); simp at this
 |x::l1,[],_,_,h=>by have:=(h x).1 (by simp); simp at this
 |x::l1,y::l2,h1,h2,h=>by
  rw [List.pairwise_cons] at h1 h2
  have hxy:x=y:=by
   have hx:=(h x).1 (by simp)
   have hy:=(h y).2 (by simp)
   rcases List.mem_cons.1 hx with e|hx
   ·exact e
   ·rcases List.mem_cons.1 hy with e|hy
    ·exact e.symm
    ·exact absurd rfl (zLd (zDa (h1.1 y hy) (h2.1 x hx)))
  subst hxy
  congr 1
  refine zGf h1.2 h2.2 fun z=>?_
  constructor
  ·intro hz
   rcases List.mem_cons.1 ((h z).1 (List.mem_cons_of_mem _ hz)) with e|hz'
   ·exact absurd e.symm (zLd (h1.1 z hz))
   ·exact hz'
  ·intro hz
   rcases List.mem_cons.1 ((h z).2 (List.mem_cons_of_mem _ hz)) with e|hz'
   ·exact absurd e.symm (zLd (h2.1 z hz))
   ·exact hz'
theorem zJl:∀(x y:List UInt8),x<y↔Op.bytesLess x y=true
 |[],[]=>by simp [Op.bytesLess]
 |[],y::l=>by simp [Op.bytesLess]
 |x::l,[]=>by simp [Op.bytesLess]
 |x::l,y::r=>by
  rw [List.cons_lt_cons_iff,zJl l r]
  simp only [Op.bytesLess]
  by_cases h:x<y
  ·simp [h]
  ·by_cases h2:y<x
   ·have:x≠y:=fun e=>by subst e; exact UInt8.lt_irrefl _ h2
    simp [h,this]
   ·have:x=y:=by
     rw [UInt8.lt_iff_toNat_lt] at h h2
     exact UInt8.toNat_inj.1 (by omega)
    subst this
    simp [UInt8.lt_irrefl]
theorem zO8 (x y:List UInt8):decide (x≤y)= !(Op.bytesLess y x):=by
 cases hb:Op.bytesLess y x with
 |true=>
  have:¬(x≤y):=fun h=>h ((zJl y x).2 hb)
  simpa using this
 |false=>
  have:x≤y:=fun hc=>by
   rw [(zJl y x).1 hc] at hb
   cases hb
  simpa using this
theorem toList_data (s:ByteArray):s.data.toList=s.toList:=(ByteArray.toList_eq s).symm
theorem zMm (a:List ByteArray) (hl:a.length≤1048577):∃r,wF a=some r∧r.Pairwise leS∧(∀x,x∈r↔x∈a)∧r.length=a.length:=by
 unfold wF
 rw [if_pos (by omega)]
 have hle:∀x y:List UInt8,decide (x≤y)=true↔leS ⟨x.toArray⟩ ⟨y.toArray⟩:=fun x y=>by
  rw [zO8]
  unfold leS slt
  rw [←toList_data,←toList_data]
  cases Op.bytesLess y x<;>simp
 have hpw:=List.pairwise_mergeSort (le:=fun x y:List UInt8=>decide (x≤y)) (by
  intro x y z h1 h2
  exact (hle x z).2 (zFT ((hle x y).1 h1) ((hle y z).1 h2))) (by
  intro x y
  have:leS ⟨x.toArray⟩ ⟨y.toArray⟩∨leS ⟨y.toArray⟩ ⟨x.toArray⟩:=by
   cases h:slt ⟨y.toArray⟩ ⟨x.toArray⟩ with
   |false=>exact .inl h
   |true=>exact .inr (zL6 h)
  rcases this with h|h
  ·rw [(hle x y).2 h]; rfl
  ·rw [(hle y x).2 h,Bool.or_true]) (a.map (·.data.toList))
 refine ⟨_,rfl,?_,fun x=>?_,by simp [List.length_mergeSort]⟩
 ·exact List.pairwise_map.2 (hpw.imp fun h=>(hle _ _).1 h)
 ·simp only [List.mem_map,List.mem_mergeSort]
  constructor
  ·rintro ⟨_,⟨y,hy,rfl⟩,rfl⟩
   exact hy
  ·intro hx
   exact ⟨_,⟨x,hx,rfl⟩,rfl⟩
theorem zLl (l:List ByteArray) (v:ByteArray) (hs:l.Pairwise ltS) (hl:l.length≤1048576):
  ∃r,zCr l v=some r∧r.Pairwise ltS∧(∀x,x∈r↔x∈l∨x=v)∧r.length≤l.length+1:=by
 obtain ⟨t,e,ht⟩:=tF (b:=zBS l v)
  (fun i s=>s.2.2=(i:Int)∧s.1.Pairwise ltS∧(∀x,x∈s.1↔x∈l.take i∨(s.2.1=true∧x=v))∧s.1.length=i+(if s.2.1 then 1 else 0)∧(s.2.1=false→∀x∈l.take i,ltS x v)∧(s.2.1=true→∀x∈l.drop i,ltS v x)) l.length
  (fun t=>(t= .ret l∧v∈l)∨∃a b,t= .nxt (a,b)∧a.Pairwise ltS∧(∀x,x∈a↔x∈l∨(b=true∧x=v))∧a.length=l.length+(if b then 1 else 0)∧(b=false→∀x∈l,ltS x v)) (by
  rintro i ⟨acc,inn,j⟩ hi ⟨hj,hp,hm,hlen,hf,ht⟩
  simp only at hj hp hm hlen hf ht
  subst hj
  have hget:∀(i j:Nat) (hi:i<l.length) (hj:j<l.length),i<j→ltS l[i] l[j]:=fun i j hi hj h=>List.pairwise_iff_getElem.1 hs i j hi hj h
  have hlt:∀x∈l.take i,ltS x l[i]:=by
   intro x hx
   obtain ⟨k,hk,rfl⟩:=List.mem_iff_getElem.1 hx
   rw [List.getElem_take]
   have:k<i:=by simp at hk; omega
   exact hget _ _ (by omega) hi this
  have htk:l.take (i+1)=l.take i++[l[i]]:=List.take_succ_eq_append_getElem hi
  have hdr:l.drop i=l[i]::l.drop (i+1):=List.drop_eq_getElem_cons hi
  have hal:acc.length≤1048577:=by rw [hlen]; split<;>omega
  unfold zBS
  rw [if_pos (by simp; omega),zM hi]
  simp only [Option.bind_some]
  rw [zP (by omega)]
  by_cases heq:l[i]=v
  ·rw [if_pos (by rw [seq_eq]; simpa using heq)]
   exact .inr ⟨_,rfl,.inl ⟨rfl,heq▸List.getElem_mem hi⟩⟩
  ·rw [if_neg (by rw [seq_eq]; simpa using heq)]
   refine .inl ?_
   have hs2:(slt l[i] v||seq l[i] v)=slt l[i] v:=by rw [seq_eq]; simp [heq]
   rw [hs2]
   cases inn
   ·cases hgt:slt l[i] v
    ·have hvl:ltS v l[i]:=zHV hgt heq
     simp only [Bool.not_false,Option.bind_some,if_true]
     rw [zC8 (by simp; omega) (by simp; omega)]
     simp only [Option.bind_some]
     rw [zC8 (by simp; omega) (by simp; omega)]
     refine ⟨_,rfl,rfl,?_,?_,?_,by simp,?_⟩
     ·simp only
      have hav:∀x∈acc,ltS x v:=fun x hx=>hf rfl x (by have:=(hm x).1 hx; simpa using this)
      rw [List.pairwise_append,List.pairwise_append]
      refine ⟨⟨hp,by simp,fun x hx y hy=>by simp at hy; rw [hy]; exact hav x hx⟩,by simp,fun x hx y hy=>?_⟩
      simp at hy
      rw [hy]
      rcases List.mem_append.1 hx with hx|hx
      ·exact zDa (hav x hx) hvl
      ·simp at hx; rw [hx]; exact hvl
     ·intro x
      have:=hm x
      simp only [List.mem_append,List.mem_singleton,htk]
      simp at this
      rw [this]
      simp
      constructor<;>(intro h; rcases h with (h|h)|h<;>simp [h])
     ·simp; simp at hlen; omega
     ·intro _ x hx
      have:ltS l[i] x:=by
       obtain ⟨k,hk,rfl⟩:=List.mem_iff_getElem.1 hx
       rw [List.getElem_drop]
       simp at hk
       exact hget _ _ hi (by omega) (by omega)
      exact zDa hvl this
    ·simp only [Bool.not_true,Bool.false_eq_true,if_false,Option.bind_some]
     rw [zC8 (by simp; omega) (by simp; omega)]
     refine ⟨_,rfl,rfl,?_,?_,?_,?_,by simp⟩
     ·simp only
      rw [List.pairwise_append]
      refine ⟨hp,by simp,fun x hx y hy=>?_⟩
      simp at hy
      rw [hy]
      have:=(hm x).1 hx
      exact hlt x (by simpa using this)
     ·intro x
      have:=hm x
      simp only [List.mem_append,List.mem_singleton,htk]
      simp at this
      rw [this]
      simp
     ·simp; simp at hlen; omega
     ·intro _ x hx
      rw [htk] at hx
      rcases List.mem_append.1 hx with hx|hx
      ·exact hf rfl x hx
      ·simp at hx; rw [hx]; exact hgt
   ·have hlv:ltS v l[i]:=ht rfl _ (by rw [hdr]; exact List.mem_cons_self)
    have hgt:slt l[i] v=false:=zL6 hlv
    rw [hgt]
    simp only [Bool.not_false,Bool.not_true,Option.bind_some,Bool.false_eq_true,if_false,if_true]
    rw [zC8 (by simp; omega) (by simp; omega)]
    refine ⟨_,rfl,rfl,?_,?_,?_,by simp,?_⟩
    ·simp only
     rw [List.pairwise_append]
     refine ⟨hp,by simp,fun x hx y hy=>?_⟩
     simp at hy
     rw [hy]
     rcases (hm x).1 hx with hx|⟨_,hx⟩
     ·exact hlt x hx
     ·rw [hx]; exact hlv
    ·intro x
     have:=hm x
     simp only [List.mem_append,List.mem_singleton,htk]
     rw [this]
     simp
     constructor<;>(intro h; rcases h with (h|h)|h<;>simp [h])
    ·simp; simp at hlen; omega
    ·intro _ x hx
     exact ht rfl x (by rw [hdr]; exact List.mem_cons_of_mem _ hx)) (by
  rintro ⟨acc,inn,j⟩ ⟨hj,hp,hm,hlen,hf,ht⟩
  simp only at hj hp hm hlen hf ht
  subst hj
  unfold zBS
  rw [if_neg (by simp)]
  rw [List.take_length] at hm hf
  exact ⟨_,rfl,.inr ⟨acc,inn,rfl,hp,hm,hlen,hf⟩⟩) l.length 0 (([]:List ByteArray),false,0) (by omega) ⟨rfl,by simp,by simp,by simp,by simp,by simp⟩
 unfold zCr zCd
 rw [e]
 rcases ht with ⟨rfl,hv⟩|⟨acc,inn,rfl,h1,h2,h3,h4⟩
 ·refine ⟨l,rfl,hs,fun x=>⟨.inl,fun h=>h.elim id (fun e=>e▸hv)⟩,by omega⟩
 ·simp only [Option.bind_some,Fl.go]
  cases inn
  ·simp only [Bool.not_false,if_true]
   simp at h3
   rw [zC8 (by simp; omega) (by simp; omega)]
   refine ⟨_,rfl,?_,?_,by simp; omega⟩
   ·rw [List.pairwise_append]
    refine ⟨h1,by simp,fun x hx y hy=>?_⟩
    simp at hy
    rw [hy]
    have:=(h2 x).1 hx
    exact h4 rfl x (by simpa using this)
   ·intro x
    have:=h2 x
    simp at this
    simp [this]
  ·refine ⟨_,rfl,h1,?_,by simp at h3; omega⟩
   intro x
   have:=h2 x
   simpa using this
theorem zGw (a:List ByteArray) (k0:Nat) (h0:1≤k0) (hk:k0<a.length) (hs:a.Pairwise leS) (hl:a.length≤1048577) (hd:a[k0]'hk=a[k0-1]'(by omega)) (hp0:(a.take k0).Pairwise ltS) (x48:List ByteArray) (hx:x48.length=a.length-k0):
  ∃xs k,xK (k0:Int) x48 (a,(k0:Int),1)=some (xs,((k:Nat):Int))∧xs.length=a.length∧k≤a.length∧(xs.take k).Pairwise ltS∧∀x,x∈xs.take k↔x∈a:=by
 have hle:∀(i j:Nat) (hi:i<a.length) (hj:j<a.length),i≤j→leS a[i] a[j]:=by
  intro i j hi hj hij
  rcases Nat.lt_or_ge i j with h|h
  ·exact List.pairwise_iff_getElem.1 hs i j hi hj h
  ·have:i=j:=by omega
   subst this; exact zHv _
 obtain ⟨⟨xs,k'⟩,e,h1,k,h2,h3,h4,h5⟩:=tF (b:=xY (k0:Int) x48)
  (fun i s=>s.2.2=((i+1:Nat):Int)∧s.1.length=a.length∧(∀j,i+k0≤j→s.1[j]? =a[j]?)∧∃k:Nat,s.2.1=(k:Int)∧1≤k∧k≤i+k0∧(s.1.take k).Pairwise ltS∧(∀x,x∈s.1.take k↔x∈a.take (i+k0+1))∧(∀x∈s.1.take k,leS x (a.getD (i+k0) ByteArray.empty))) (a.length-k0-1)
  (fun t=>t.1.length=a.length∧∃k:Nat,t.2=(k:Int)∧k≤a.length∧(t.1.take k).Pairwise ltS∧∀x,x∈t.1.take k↔x∈a) (by
  rintro i ⟨xs,kk,jj⟩ hi ⟨hj,hlen,hsame,k,hkk,hk1,hkle,hpw,hmem,hmax⟩
  simp only at hj hlen hsame hkk hpw hmem hmax
  subst hj hkk
  have hi1:i+k0+1<a.length:=by omega
  have g1:xs[i+k0+1]'(by omega)=a[i+k0+1]:=by
   have:=hsame (i+k0+1) (by omega)
   rw [List.getElem?_eq_getElem (by omega),List.getElem?_eq_getElem hi1] at this
   exact Option.some.inj this
  have g0:xs[i+k0]'(by omega)=a[i+k0]:=by
   have:=hsame (i+k0) (by omega)
   rw [List.getElem?_eq_getElem (by omega),List.getElem?_eq_getElem (by omega)] at this
   exact Option.some.inj this
  have hgd:a.getD (i+k0) ByteArray.empty=a[i+k0]:=by simp [List.getD,show i+k0<a.length by omega]
  rw [hgd] at hmax
  have r1:zHF xs (k0:Int) x48.length ((i+1:Nat):Int)=some a[i+k0+1]:=by
   unfold zHF
   rw [if_pos (by omega),show (k0:Int)+((i+1:Nat):Int)=((i+k0+1:Nat):Int) by omega,zM (by omega),g1]
  have r0:zHF xs (k0:Int) x48.length (i:Int)=some a[i+k0]:=by
   unfold zHF
   rw [if_pos (by omega),show (k0:Int)+(i:Int)=((i+k0:Nat):Int) by omega,zM (by omega),g0]
  refine .inl ?_
  unfold xY
  rw [if_pos (by simp; omega)]
  simp only
  rw [r1,xU (x:=((i+1:Nat):Int)-1) (by omega) (by omega),show ((i+1:Nat):Int)-1=(i:Int) by omega,r0,zM (show k<xs.length by omega),zP (show k<_ by omega),zP (show i+1<_ by omega)]
  simp only [Option.bind_some]
  have htk:a.take (i+k0+1+1)=a.take (i+k0+1)++[a[i+k0+1]]:=List.take_succ_eq_append_getElem hi1
  have hmono:=hle (i+k0) (i+k0+1) (by omega) hi1 (by omega)
  have hgd1:a.getD (i+1+k0) ByteArray.empty=a[i+k0+1]:=by
   rw [show i+1+k0=i+k0+1 by omega]
   simp [List.getD,hi1]
  by_cases hne:a[i+k0+1]=a[i+k0]
  ·rw [if_neg (by simp [hne])]
   refine ⟨_,rfl,rfl,hlen,fun j hj=>hsame j (by omega),k,rfl,hk1,by omega,hpw,?_,?_⟩
   ·intro x
    rw [show i+1+k0+1=i+k0+1+1 by omega,htk,hmem,List.mem_append,List.mem_singleton]
    constructor
    ·exact fun h=>.inl h
    ·rintro (h|h)
     ·exact h
     ·rw [h,hne]
      refine List.mem_iff_getElem.2 ⟨i+k0,by simp; omega,by simp⟩
   ·intro x hx
    rw [hgd1]
    exact zFT (hmax x hx) hmono
  ·rw [if_pos (by simpa [seq_eq] using hne)]
   refine ⟨_,rfl,rfl,by simpa using hlen,?_,k+1,rfl,by omega,by omega,?_,?_,?_⟩
   ·intro j hj
    show (xs.set (k:Int).toNat a[i+k0+1])[j]? =a[j]?
    rw [Int.toNat_natCast,List.getElem?_set_ne (by omega)]
    exact hsame j (by omega)
   ·show ((xs.set (k:Int).toNat a[i+k0+1]).take (k+1)).Pairwise ltS
    rw [Int.toNat_natCast,zDM (by omega),List.pairwise_append]
    refine ⟨hpw,by simp,fun x hx y hy=>?_⟩
    simp at hy
    rw [hy]
    exact zJ7 (hmax x hx) (zJK hmono (Ne.symm hne))
   ·intro x
    show x∈(xs.set (k:Int).toNat a[i+k0+1]).take (k+1)↔_
    rw [Int.toNat_natCast,zDM (by omega),show i+1+k0+1=i+k0+1+1 by omega,htk,List.mem_append,List.mem_append,hmem]
   ·intro x hx
    have hx':x∈(xs.set (k:Int).toNat a[i+k0+1]).take (k+1):=hx
    rw [Int.toNat_natCast,zDM (by omega)] at hx'
    rw [hgd1]
    rcases List.mem_append.1 hx' with h|h
    ·exact zFT (hmax x h) hmono
    ·simp at h; rw [h]; exact zHv _) (by
  rintro ⟨xs,kk,jj⟩ ⟨hj,hlen,hsame,k,hkk,hk1,hkle,hpw,hmem,hmax⟩
  simp only at hj hlen hsame hkk hpw hmem hmax
  subst hj hkk
  unfold xY
  rw [if_neg (by simp; omega)]
  refine ⟨_,rfl,hlen,k,rfl,by omega,hpw,fun x=>?_⟩
  rw [hmem,List.take_of_length_le (by omega)]) (a.length-k0-1) 0 (a,(k0:Int),1) (by omega) ⟨rfl,rfl,fun _ _=>rfl,k0,rfl,h0,by omega,hp0,by
   intro x
   rw [Nat.zero_add,List.take_succ_eq_append_getElem hk,List.mem_append,List.mem_singleton]
   constructor
   ·exact fun h=>.inl h
   ·rintro (h|h)
    ·exact h
    ·rw [h,hd]
     exact List.mem_iff_getElem.2 ⟨k0-1,by simp; omega,by simp⟩,by
   intro x hx
   rw [Nat.zero_add]
   obtain ⟨j,hj,rfl⟩:=List.mem_iff_getElem.1 hx
   rw [List.getElem_take]
   have hgd:a.getD k0 ByteArray.empty=a[k0]:=by simp [List.getD,hk]
   rw [hgd]
   simp at hj
   exact hle j k0 (by omega) hk (by omega)⟩
 simp only at h1 h2
 subst h2
 exact ⟨xs,k,by unfold xK; exact e,h1,h3,h4,h5⟩
theorem zJa (a:List ByteArray) (hs:a.Pairwise leS) (hl:a.length≤1048577):∃r,xO a=some r∧r.Pairwise ltS∧(∀x,x∈r↔x∈a)∧r.length≤a.length:=by
 have step1:∀i (hi:i<a.length) (h1:1≤i),(a.take i).Pairwise ltS→a[i]≠a[i-1]'(by omega)→(a.take (i+1)).Pairwise ltS:=by
  intro i hi h1 hp hne
  rw [List.take_succ_eq_append_getElem hi,List.pairwise_append]
  refine ⟨hp,by simp,fun x hx y hy=>?_⟩
  simp at hy
  rw [hy]
  obtain ⟨j,hj,rfl⟩:=List.mem_iff_getElem.1 hx
  rw [List.getElem_take]
  simp at hj
  have q1:leS (a[i-1]'(by omega)) a[i]:=List.pairwise_iff_getElem.1 hs (i-1) i (by omega) hi (by omega)
  have q2:leS (a[j]'(by omega)) (a[i-1]'(by omega)):=by
   rcases Nat.lt_or_ge j (i-1) with h|h
   ·exact List.pairwise_iff_getElem.1 hs j (i-1) (by omega) (by omega) h
   ·have:j=i-1:=by omega
    subst this; exact zHv _
  exact zJ7 q2 (zJK q1 (Ne.symm hne))
 have hb:∀i (hi:i<a.length) (h1:1≤i),(a.take i).Pairwise ltS→(a[i]=a[i-1]'(by omega)∧∃r,yS a (i:Int)=some (.done (.ret r))∧r.Pairwise ltS∧(∀x,x∈r↔x∈a)∧r.length≤a.length)∨(a[i]≠a[i-1]'(by omega)∧yS a (i:Int)=some (.go ((i+1:Nat):Int))):=by
  intro i hi h1 hp
  unfold yS
  rw [if_pos (by simp; omega),zM hi,xU (x:=(i:Int)-1) (by omega) (by omega),show (i:Int)-1=((i-1:Nat):Int) by omega,zM (show i-1<a.length by omega),zP (by omega)]
  simp only [Option.bind_some]
  by_cases he:a[i]=a[i-1]'(by omega)
  ·left
   refine ⟨he,?_⟩
   rw [if_pos (by simpa [seq_eq] using he),zDI (Nat.le_of_lt hi) (Nat.le_refl _)]
   simp only [Option.bind_some]
   obtain ⟨xs,k,e,g1,g2,g3,g4⟩:=zGw a i h1 hi hs hl he hp ((a.drop i).take (a.length-i)) (by simp)
   rw [e]
   simp only [Option.bind_some]
   have hk:k≤xs.length:=by omega
   rw [zDI hk (Nat.le_refl _)]
   simp only [Option.bind_some]
   rw [zJ1 (by simp; omega)]
   simp only [Option.bind_some]
   refine ⟨xs.take k,?_,g3,g4,by simp; omega⟩
   have:∀ys:List ByteArray,zEq (xs.take k++ys) 0 (k:Int)=some (xs.take k):=by
    intro ys
    have hh:=zDI (xs:=xs.take k++ys) (l:=0) (h:=k) (by omega) (by simp; omega)
    rw [show ((0:Nat):Int)=0 from rfl] at hh
    rw [hh]
    simp [Nat.min_eq_left hk]
   rw [List.append_assoc,this]
   rfl
  ·right
   rw [if_neg (by simpa [seq_eq] using he)]
   exact ⟨he,rfl⟩
 unfold xO
 by_cases h2:a.length<2
 ·rw [if_pos (by simp; omega)]
  refine ⟨a,rfl,?_,fun x=>Iff.rfl,Nat.le_refl _⟩
  match a,h2 with
  |[],_=>simp
  |[x],_=>simp
 ·rw [if_neg (by simp; omega)]
  obtain ⟨t,e,h⟩:=tF (b:=yS a) (fun i s=>s=((i+1:Nat):Int)∧(a.take (i+1)).Pairwise ltS) (a.length-1)
   (fun t=>(∃r,t= .ret r∧r.Pairwise ltS∧(∀x,x∈r↔x∈a)∧r.length≤a.length)∨(t= .nxt ()∧a.Pairwise ltS)) (by
   rintro i s hi ⟨rfl,hp⟩
   rcases hb (i+1) (by omega) (by omega) hp with ⟨_,r,e,q⟩|⟨hne,e⟩
   ·exact .inr ⟨_,e,.inl ⟨r,rfl,q⟩⟩
   ·exact .inl ⟨_,e,rfl,step1 (i+1) (by omega) (by omega) hp hne⟩) (by
   rintro s ⟨rfl,hp⟩
   rw [show a.length-1+1=a.length by omega] at hp ⊢
   refine ⟨.nxt (),?_,.inr ⟨rfl,by rw [List.take_length] at hp; exact hp⟩⟩
   unfold yS
   rw [if_neg (by simp)]) (a.length-1) 0 1 (by omega) ⟨rfl,by
    match a,h2 with
    |x::l,_=>simp⟩
  unfold wE
  rw [e]
  rcases h with ⟨r,rfl,q⟩|⟨rfl,q⟩
  ·exact ⟨r,rfl,q⟩
  ·exact ⟨a,rfl,q,fun x=>Iff.rfl,Nat.le_refl _⟩
theorem zKL (a:List ByteArray) (hl:a.length≤1048577):∃r,zBu a=some r∧r.Pairwise ltS∧∀x,x∈r↔x∈a:=by
 obtain ⟨m,e1,e2,e3,e4⟩:=zMm a hl
 obtain ⟨r,f1,f2,f3,_⟩:=zJa m e2 (by omega)
 unfold zBu
 rw [e1]
 simp only [Option.bind_some]
 rw [zDE e4]
 simp only [Option.bind_some]
 rw [f1]
 exact ⟨r,rfl,f2,fun x=>by rw [f3,e3]⟩
theorem zIn (d:zL) (a2 gs:List Int) (h2:a2.length≤40) (hg:gs.length≤1048576):
  ∃t,zA5 d a2 gs (([]:List Int),0)=some t∧((t= .ret (([]:List Int),4)∧∃x∈a2,x∉gs)∨∃l,t= .nxt l∧(∀x∈a2,x∈gs)∧l.Pairwise (· < ·)∧(∀x,x∈l↔x∈a2)∧l.length≤a2.length):=by
 unfold zA5
 refine tF (b:=zAN d a2 gs) (fun i s=>s.2=(i:Int)∧(∀x∈a2.take i,x∈gs)∧s.1.Pairwise (· < ·)∧(∀x,x∈s.1↔x∈a2.take i)∧s.1.length≤i) a2.length _ (by
  rintro i ⟨l,j⟩ hi ⟨hj,ha,hp,hm,hl⟩
  simp only at hj hp hm hl
  subst hj
  unfold zAN
  rw [if_pos (by simp; omega),zM hi]
  simp only [Option.bind_some]
  rw [zEn _ _ hg,zEn _ _ (show l.length≤1048576 by omega),zP (by omega)]
  simp only [Option.bind_some]
  have htk:a2.take (i+1)=a2.take i++[a2[i]]:=List.take_succ_eq_append_getElem hi
  by_cases hc:a2[i]∈gs
  ·rw [if_neg (by simpa using hc)]
   have ha':∀x∈a2.take (i+1),x∈gs:=by
    intro x hx
    rw [htk] at hx
    rcases List.mem_append.1 hx with hx|hx
    ·exact ha x hx
    ·simp at hx; rw [hx]; exact hc
   by_cases hin:a2[i]∈l
   ·rw [if_neg (by simpa using hin)]
    refine .inl ⟨_,rfl,rfl,ha',hp,fun x=>?_,by simp only; omega⟩
    rw [htk,List.mem_append,List.mem_singleton,←hm]
    exact ⟨.inl,fun h=>h.elim id (fun e=>e▸hin)⟩
   ·rw [if_pos (by simpa using hin)]
    obtain ⟨r,e,r1,r2,r3⟩:=zHp l a2[i] hp hin (by omega)
    rw [e]
    refine .inl ⟨_,rfl,rfl,ha',r1,fun x=>?_,by simp only; omega⟩
    rw [htk,List.mem_append,List.mem_singleton,←hm]
    exact r2 x
  ·rw [if_pos (by simpa using hc)]
   exact .inr ⟨_,rfl,.inl ⟨rfl,_,List.getElem_mem hi,hc⟩⟩) (by
  rintro ⟨l,j⟩ ⟨hj,ha,hp,hm,hl⟩
  simp only at hj hp hm hl
  subst hj
  unfold zAN
  rw [if_neg (by simp)]
  rw [List.take_length] at ha hm
  exact ⟨_,rfl,.inr ⟨l,rfl,ha,hp,hm,hl⟩⟩) a2.length 0 (([]:List Int),0) (by omega) ⟨rfl,by simp,by simp,by simp,by simp⟩
theorem zJg (a2 gs:List Int) (h2:a2.length≤1048576) (hg:gs.length≤1048576):zQ a2 gs=some (a2.any fun x=> !(decide (x∈gs))):=by
 have key:=vD a2 (fun i x=>if !(decide (x∈gs)) then some (i:Int) else none) (b:=yC a2 gs) (by
  intro i hi
  unfold yC jK
  rw [if_pos (by simp; omega),zM hi]
  simp only [Option.bind_some]
  rw [zEY _ _ hg,zP (by omega)]
  cases decide (a2[i]∈gs)<;>rfl) (by
  unfold yC
  rw [if_neg (by simp)])
 unfold zQ zX yF
 rw [key,zD6,←zFD (zD3 (fun x=> !(decide (x∈gs))) a2 0)]
 cases uS (fun i x=>if !(decide (x∈gs)) then some (i:Int) else none) 0 a2<;>rfl
theorem zLI (d:zL) (a2:List Int) (hg:d.good) (hb:∀f∈d.Files,∀c∈f.Data,0≤c∧c≤255):
  ∃r,jG d a2=some r∧jF d a2=some r∧r.1.length≤41:=by
 have hl:d.Files.length≤1048576:=by have:=hg.len; omega
 have hgl:=zDb d.Files
 have hgs:(zDd d.Files).length ≤1048576:=by omega
 unfold jG jF
 rw [zEQ d hl,zJc d hl]
 simp only [Option.bind_some]
 by_cases h40:(a2.length:Int)>40
 ·rw [if_pos (by simpa using h40),if_pos (by simpa using h40)]
  exact ⟨_,rfl,rfl,by simp⟩
 rw [if_neg (by simpa using h40),if_neg (by simpa using h40)]
 obtain ⟨e1,e2⟩:=zFx d hg hb
 obtain ⟨t,et,ht⟩:=zIn d a2 (zDd d.Files) (by omega) hgs
 rw [et,zJg _ _ (by omega) hgs]
 simp only [Option.bind_some]
 rcases ht with ⟨rfl,x,hx,hxn⟩|⟨l,rfl,hall,hp,hm,hll⟩
 ·have:(a2.any fun x=> !(decide (x∈zDd d.Files)))=true:=List.any_eq_true.2 ⟨x,hx,by simpa using hxn⟩
  rw [if_pos this]
  exact ⟨_,rfl,rfl,by simp⟩
 ·have:(a2.any fun x=> !(decide (x∈zDd d.Files)))=false:=by
   rw [List.any_eq_false]
   intro x hx
   simpa using hall x hx
  rw [if_neg (by rw [this]; simp)]
  simp only [Fl.go]
  rw [e1,e2]
  cases hcur:zHm d with
  |none=>exact ⟨_,rfl,rfl,by simp⟩
  |some n=>
   have hpos:=zKW hcur
   have hn:n≠0:=by omega
   simp only [Option.bind_some,Option.getD_some]
   rw [if_neg (by simpa using hn),if_neg (by simp)]
   rw [zEn _ _ (show l.length≤1048576 by omega)]
   simp only [Option.bind_some]
   have hs:∃r,(if (!(decide (n∈l)))=true then (jJ l n).bind fun x46=>some x46 else some l)=some r∧r.Pairwise (· < ·)∧(∀x,x∈r↔x∈a2∨x=n)∧r.length≤41:=by
    by_cases hin:n∈l
    ·rw [if_neg (by simpa using hin)]
     refine ⟨l,rfl,hp,fun x=>?_,by omega⟩
     rw [hm]
     exact ⟨.inl,fun h=>h.elim id (fun e=>e▸(hm n).1 hin)⟩
    ·rw [if_pos (by simpa using hin)]
     obtain ⟨r,e,r1,r2,r3⟩:=zHp l n hp hin (by omega)
     rw [e]
     exact ⟨r,rfl,r1,fun x=>by rw [r2,hm],by omega⟩
   obtain ⟨r,er,r1,r2,r3⟩:=hs
   rw [er]
   simp only [Option.bind_some]
   unfold vU
   rw [zC8 (by simp; omega) (by simp; omega)]
   simp only [Option.bind_some,List.nil_append]
   rw [zC8 (by simp; omega) (by simp; omega)]
   simp only [Option.bind_some]
   have hsort:xB (a2++[n])=some ((a2++[n]).mergeSort fun x y=>decide (x≤y)):=by
    unfold xB
    rw [if_pos (by simp; omega)]
   rw [hsort]
   simp only [Option.bind_some]
   rw [zDE (List.length_mergeSort _)]
   simp only [Option.bind_some]
   have hpw:((a2++[n]).mergeSort fun x y=>decide (x≤y)).Pairwise (· ≤ ·):=by
    have:=List.pairwise_mergeSort (le:=fun x y:Int=>decide (x≤y)) (by intro a b c h1 h2; simp at h1 h2 ⊢; omega) (by intro a b; simp; omega) (a2++[n])
    exact this.imp (by intro a b h; simpa using h)
   obtain ⟨q,eq,q1,q2,q3⟩:=zKq _ hpw (by rw [List.length_mergeSort]; simp; omega)
   rw [eq]
   have hqr:q=r:=zFq q1 r1 (fun x=>by rw [q2,r2,List.mem_mergeSort,List.mem_append,List.mem_singleton])
   subst hqr
   exact ⟨_,rfl,rfl,r3⟩
theorem zL0 {d:zL} {a2:List Int} (hg:d.good) (hb:Byt d) {r:List Int×Int} (h:jG d a2=some r):r.2≠9:=by
 have hl:d.Files.length≤1048576:=by have:=hg.len; omega
 have hgl:=zDb d.Files
 have hgs:(zDd d.Files).length ≤1048576:=by omega
 unfold jG at h
 rw [zEQ d hl] at h
 simp only [Option.bind_some] at h
 by_cases h40:(a2.length:Int)>40
 ·rw [if_pos (by simpa using h40)] at h
  rw [←Option.some.inj h]; simp
 rw [if_neg (by simpa using h40)] at h
 obtain ⟨e1,_⟩:=zFx d hg hb
 obtain ⟨t,et,ht⟩:=zIn d a2 (zDd d.Files) (by omega) hgs
 rw [et] at h
 rcases ht with ⟨rfl,_⟩|⟨l,rfl,_⟩
 ·simp only [Option.bind_some,Fl.go] at h
  rw [←Option.some.inj h]; simp
 ·simp only [Option.bind_some,Fl.go,e1] at h
  cases hz:((zHm d).getD 0==0)
  ·simp only [hz,Bool.false_eq_true,if_false] at h
   obtain ⟨x,_,h⟩:=Option.bind_eq_some_iff.1 h
   obtain ⟨v,_,h⟩:=Option.bind_eq_some_iff.1 h
   rw [←Option.some.inj h]; simp
  ·simp only [hz,if_true] at h
   rw [←Option.some.inj h]; simp
def RI (n:Nat) (x y:List ByteArray):Prop:=x.Pairwise ltS∧(∀z,z∈x↔z∈y)∧x.length≤n∧y.length≤n∧∀z∈x,z.size≤28
theorem zM9 {c:List Pack} (h0:CF c=0) {d:zL} {x4:List Int×Int} {s33 s30:List ByteArray×Int} {x37:yE} {a3:List Int} {x34:List Int×Int} (hS:x37.Set=x34.1) (hp:Places c x34.1) {n:Nat} {x y:List ByteArray} (hl:n+x34.1.length≤100000) (h:RI n x y):
  ∃x' y',vJ c d x4 s33 x37 (x,0)=some x'∧wS c d a3 s30 x34 (y,0)=some y'∧RI (n+x34.1.length) x' y':=by
 unfold vJ wS
 refine zH5 (b1:=jV c d x4 s33 x37) (b2:=tT c d a3 s30 x34) (fun i s1 s2=>s1.2=(i:Int)∧s2.2=(i:Int)∧RI (n+i) s1.1 s2.1) x34.1.length (RI (n+x34.1.length)) (by
  rintro i ⟨u,j⟩ ⟨v,j'⟩ hi ⟨rfl,rfl,r1,r2,r3,r4,r5⟩
  simp only at r1 r2 r3 r4 r5
  obtain ⟨e1,e2⟩:=zNc (hp _ (List.getElem_mem hi))
  obtain ⟨p1,p2,p3⟩:=zOx h0 _ e2
  have hsz:=zKi p1 p2
  obtain ⟨r,er,q1,q2,q3⟩:=zLl u (zI9 (pat c x34.1[i])) r1 (by omega)
  refine .inl ⟨(r,((i+1:Nat):Int)),(v++[zI9 (pat c x34.1[i])],((i+1:Nat):Int)),?_,?_,?_⟩
  ·unfold jV
   simp only [hS]
   rw [if_pos (by simp; omega),zM hi]
   simp only [Option.bind_some,e1,zJy p1 p2,er,zP (show i<9223372036854775807 by omega)]
  ·unfold tT
   rw [if_pos (by simp; omega)]
   simp only
   rw [zM hi]
   simp only [Option.bind_some,e1,zLm p1 p2,zP (show i<9223372036854775807 by omega)]
   rw [zC8 (by simp; omega) (by simp; omega)]
   rfl
  ·refine ⟨rfl,rfl,q1,fun z=>?_,?_,?_,fun z hz=>?_⟩
   ·simp only [List.mem_append,List.mem_singleton]
    rw [q2,r2]
   ·simp only; omega
   ·simp only [List.length_append,List.length_singleton]; omega
   ·rcases (q2 z).1 hz with h|h
    ·exact r5 z h
    ·rw [h]; exact hsz) (by
  rintro ⟨u,j⟩ ⟨v,j'⟩ ⟨rfl,rfl,hr⟩
  refine ⟨u,v,?_,?_,hr⟩
  ·unfold jV
   simp only [hS]
   rw [if_neg (by simp)]
  ·unfold tT
   rw [if_neg (by simp)]) x34.1.length 0 (x,0) (y,0) (by omega) ⟨rfl,rfl,h⟩
theorem zKE {c:List Pack} {d:zL} (hC:Cat c) (h0:CF c=0) (hg:d.good) (hb:Byt d) (a2:List Int):
  ∃r,jW c d a2=some r∧uF c d a2=some r∧r.1.length≤1000∧(∀z∈r.1,z.size≤28)∧r.2≠9∧(r.2=0→∃K,jG d a2=some (K,0)∧jF d a2=some (K,0)∧K.length≤41):=by
 obtain ⟨⟨K,q⟩,e1,e2,e3⟩:=zLI d a2 hg hb
 simp only at e3
 have hcl:=(zLJ h0).1
 unfold jW uF
 rw [e1,e2]
 simp only [Option.bind_some]
 by_cases hq:q=0
 ·subst hq
  simp only [bne_self_eq_false,Bool.false_eq_true,if_false]
  unfold kS
  obtain ⟨t1,t2,l1,l2,h⟩:=zH5 (b1:=vX c d (K,0)) (b2:=vP c d K) (fun i s1 s2=>s1.2=(i:Int)∧s2.2=(i:Int)∧RI (24*i) s1.1 s2.1) K.length
   (fun t1 t2=>(∃q:Int,q≠0∧q≠9∧t1= .ret (([]:List ByteArray),q)∧t2= .ret (([]:List ByteArray),q))∨∃x y,t1= .nxt x∧t2= .nxt y∧RI (24*K.length) x y) (by
   rintro i ⟨u,j⟩ ⟨v,j'⟩ hi ⟨rfl,rfl,hr⟩
   obtain ⟨g1,g2,g3,g4⟩:=zJ0 c d K[i]
   have hset:=zK6 hg hb hC h0 K[i]
   have hspec:=zKK hC.1 hg hb K[i]
   have hb1:vX c d (K,0) (u,(i:Int))=(if ((zA1 c d K[i]).Code !=0)=true then (some (Lp.done (Fl.ret (([]:List ByteArray),(zA1 c d K[i]).Code)))) else ((vJ c d (K,0) (u,(i:Int)) (zA1 c d K[i]) (u,0)).bind fun v59=>some (Lp.go (v59,((i+1:Nat):Int))))):=by
    unfold vX
    rw [if_pos (by simp; omega)]
    simp only
    rw [zM hi]
    simp only [Option.bind_some,hspec,zP (show i<9223372036854775807 by omega)]
   have hb2:vP c d K (v,(i:Int))=(if ((zA1 c d K[i]).Code !=0)=true then (some (Lp.done (Fl.ret (([]:List ByteArray),(zA1 c d K[i]).Code)))) else ((wS c d K (v,(i:Int)) ((zA1 c d K[i]).Set,(zA1 c d K[i]).Code) (v,0)).bind fun v56=>some (Lp.go (v56,((i+1:Nat):Int))))):=by
    unfold vP
    rw [if_pos (by simp; omega)]
    simp only
    rw [zM hi]
    simp only [Option.bind_some,hset,zP (show i<9223372036854775807 by omega)]
   rw [hb1,hb2]
   by_cases hc:(zA1 c d K[i]).Code =0
   ·have hsl:(zA1 c d K[i]).Set.length ≤24:=by
     rcases zJX (lo:=0) (hi:=c.length) g3 g4 with h|h
     ·omega
     ·rw [h]; simp
    obtain ⟨x',y',f1,f2,f3,f4,f5,f6,f7⟩:=zM9 h0 (d:=d) (x4:=(K,0)) (s33:=(u,(i:Int))) (s30:=(v,(i:Int))) (x37:=zA1 c d K[i]) (a3:=K) (x34:=((zA1 c d K[i]).Set,(zA1 c d K[i]).Code)) rfl g4 (by simp only; omega) hr
    rw [f1,f2]
    have hc':((zA1 c d K[i]).Code !=0)=false:=by simpa using hc
    simp only [hc',Bool.false_eq_true,if_false,Option.bind_some]
    refine .inl ⟨_,_,rfl,rfl,rfl,rfl,f3,f4,?_,?_,f7⟩
    ·simp only at f5 ⊢; omega
    ·simp only at f6 ⊢; omega
   ·have hc':((zA1 c d K[i]).Code !=0)=true:=by simpa using hc
    simp only [hc',if_true]
    exact .inr ⟨_,_,rfl,rfl,.inl ⟨_,hc,zIc c d K[i],rfl,rfl⟩⟩) (by
   rintro ⟨u,j⟩ ⟨v,j'⟩ ⟨rfl,rfl,hr⟩
   refine ⟨.nxt u,.nxt v,?_,?_,.inr ⟨u,v,rfl,rfl,hr⟩⟩
   ·unfold vX
    rw [if_neg (by simp)]
   ·unfold vP
    rw [if_neg (by simp)]) K.length 0 (([]:List ByteArray),0) (([]:List ByteArray),0) (by omega) ⟨rfl,rfl,by simp [RI]⟩
  unfold kY kC
  rw [l1,l2]
  rcases h with ⟨q,hq,hq9,rfl,rfl⟩|⟨x,y,rfl,rfl,h1,h2,h3,h4,h5⟩
  ·exact ⟨_,rfl,rfl,by simp,by simp,hq9,fun h=>absurd h hq⟩
  ·obtain ⟨r,er,r1,r2⟩:=zKL y (by omega)
   have:r=x:=zGf r1 h1 (fun z=>by rw [r2,h2])
   subst this
   simp only [Option.bind_some,Fl.go,er]
   exact ⟨_,rfl,rfl,by simp only; omega,h5,by simp only; decide,fun _=>⟨K,rfl,rfl,e3⟩⟩
 ·have hq':(q !=0)=true:=by simpa using hq
  have hq9:=zL0 hg hb e1
  simp only [hq',if_true]
  exact ⟨_,rfl,rfl,by simp,by simp,hq9,fun h=>absurd h hq⟩
theorem zFf (a1:(List Pack)) (a2:zL) (a3:(List Int)) (k0:a1.length≤maxLen∧∀y1∈a1,Pack.ok y1) (k1:zL.ok a2) (k2:a3.length≤maxLen∧∀y1∈a3,IntKind.i64.min≤y1∧y1≤IntKind.i64.max) (s0:(a1.length≤1048576∧∀y0∈a1,Pack.sm 1048576 y0)) (s1:(zL.sm 1048576 a2)) (s2:(a3.length≤1048576∧∀y0∈a3,True)):∃r,wX a1 a2 a3=some r∧xR a1 a2 a3=some r∧(zJ.sm 1049600 r):=by
 have hb:Byt a2:=fun f hf c hc=>by have:=(k1.1.2 f hf).2.2 c hc; simpa [IntKind.min,IntKind.max,IntKind.signed,IntKind.bits] using this
 have hz:∀q:Int,zJ.sm 1049600 {Code:=q,Names:=[]}:=fun q=>by simp [zJ.sm]
 unfold wX xR
 rcases zIG s0 s1 with ⟨q,hq,e1,e2⟩|⟨e1,e2,h0,hg⟩
 ·have hq':(q !=0)=true:=by simpa using hq
  rw [e1,e2]
  simp only [Option.bind_some,hq',if_true]
  exact ⟨_,rfl,rfl,hz q⟩
 ·obtain ⟨r,r1,r2,r3,r4,_⟩:=zKE s0 h0 hg hb a3
  rw [e1,e2,r1,r2]
  simp only [Option.bind_some,bne_self_eq_false,Bool.false_eq_true,if_false]
  exact ⟨_,rfl,rfl,trivial,Nat.le_trans r3 (by decide),fun p hp=>Nat.le_trans (r4 p hp) (by decide)⟩
theorem zDF (a1:(List Pack)) (a2:zL) (a3:(List Int)) (k0:a1.length≤maxLen∧∀y1∈a1,Pack.ok y1) (k1:zL.ok a2) (k2:a3.length≤maxLen∧∀y1∈a3,IntKind.i64.min≤y1∧y1≤IntKind.i64.max):xI a1 a2 a3=some true:=zD2 a1 a2 a3 k0 k1 k2 (zFf a1 a2 a3 k0 k1 k2)
end Go.Told

import Derived.Test.YtobkkecdnlecgaaGreatDoorToldCollectGens
set_option linter.unusedVariables false
set_option maxRecDepth 4000
namespace Go.Told
open Go Go.Im
theorem zFg {S T:Type} {b b':S→Option (Lp S T)} (h:∀s,b s=b' s):loop b=loop b':=by
 have:b=b':=funext h
 rw [this]
theorem xS {x:Int} (h1: -9223372036854775808≤x) (h2:x≤9223372036854775807):w64 x=x:=by
 unfold w64
 rw [IntKind.wrap_i64]
 omega
theorem zN {i:Nat} (h:i<9223372036854775807):w64 ((i:Int)+1)=((i+1:Nat):Int):=by
 rw [xS (by omega) (by omega)]; omega
theorem uT {T:Type} {S:Type} {b:S→Option (Lp S T)} (I:Nat→S→Prop) (n:Nat) (Q:T→Prop) (hstep:∀i s,i<n→I i s→(∃s',b s=some (.go s')∧I (i+1) s')∨∃t,b s=some (.done t)∧Q t)
  (hend:∀s,I n s→∃t,b s=some (.done t)∧Q t):∀(k i:Nat) (s:S),i+k=n→I i s→∃t,loop b s=some t∧Q t
 |0,i,s,hk,hI=>by
  obtain ⟨t,h1,h2⟩:=hend s (by rw [show n=i by omega]; exact hI)
  exact ⟨t,by rw [vY,h1]; rfl,h2⟩
 |k+1,i,s,hk,hI=>by
  rcases hstep i s (by omega) hI with ⟨s',h1,h2⟩|⟨t,h1,h2⟩
  ·obtain ⟨t,h3,h4⟩:=uT I n Q hstep hend k (i+1) s' (by omega) h2
   exact ⟨t,by rw [vY,h1]; exact h3,h4⟩
  ·exact ⟨t,by rw [vY,h1]; rfl,h2⟩
theorem zM {α:Type} {xs:List α} {i:Nat} (h:i<xs.length):idx xs (i:Int)=some xs[i]:=by
 unfold idx
 rw [if_pos (by omega)]
 simp [h]
theorem zCL {α:Type} (l r:List α) (x:α):idx (l++x::r) (l.length:Int)=some x:=by
 rw [zM (by simp)]
 simp
def goL {α A T:Type} (g:Nat→A→α→Lp A T) (fin:A→T):Nat→List α→A→T
 |_,[],a=>fin a
 |i,x::xs,a=>match g i a x with
  | .go a'=>goL g fin (i+1) xs a'
  | .done t=>t
theorem zLf {α A S T:Type} (xs:List α) (g:Nat→A→α→Lp A T) (fin:A→T) (e:Nat→A→S) (I:Nat→A→Prop) {b:S→Option (Lp S T)}
  (hstep:∀(i:Nat) (a:A) (hi:i<xs.length),I i a→b (e i a)=some (match g i a xs[i] with| .go a'=>.go (e (i+1) a')| .done t=>.done t)∧∀a',g i a xs[i]= .go a'→I (i+1) a')
  (hend:∀a,I xs.length a→b (e xs.length a)=some (.done (fin a))):∀(k i:Nat) (a:A),i+k=xs.length→I i a→loop b (e i a)=some (goL g fin i (xs.drop i) a)
 |0,i,a,hk,hI=>by
  have:i=xs.length:=by omega
  subst this
  rw [vY,hend a hI,List.drop_length]; rfl
 |k+1,i,a,hk,hI=>by
  have hi:i<xs.length:=by omega
  obtain ⟨h1,h2⟩:=hstep i a hi hI
  rw [vY,h1,List.drop_eq_getElem_cons hi]
  simp only [goL]
  cases hg:g i a xs[i] with
  |go a'=>
   simp only [Option.bind_some,Lp.elim]
   exact zLf xs g fin e I hstep hend k (i+1) a' (by omega) (h2 a' hg)
  |done t=>rfl
theorem zJ9 {α A S T:Type} (xs:List α) (g:Nat→A→α→Lp A T) (fin:A→T) (e:Nat→A→S) (I:Nat→A→Prop) {b:S→Option (Lp S T)} (a0:A)
  (hstep:∀(i:Nat) (a:A) (hi:i<xs.length),I i a→b (e i a)=some (match g i a xs[i] with| .go a'=>.go (e (i+1) a')| .done t=>.done t)∧∀a',g i a xs[i]= .go a'→I (i+1) a')
  (hend:∀a,I xs.length a→b (e xs.length a)=some (.done (fin a))) (h0:I 0 a0):loop b (e 0 a0)=some (goL g fin 0 xs a0):=by
 have:=zLf xs g fin e I hstep hend xs.length 0 a0 (by omega) h0
 simpa using this
theorem zF3 {α:Type} (xs:List α) {b:(List α×Int)→Option (Lp (List α×Int) (List α))} (hstep:∀(ys:List α) (i:Nat) (hi:i<xs.length),ys.length=xs.length→b (ys,(i:Int))=some (.go (ys.set i xs[i],((i+1:Nat):Int))))
  (hend:∀ys:List α,ys.length=xs.length→b (ys,(xs.length:Int))=some (.done ys)) (y0:List α) (h0:y0.length=xs.length):loop b (y0,0)=some xs:=by
 obtain ⟨t,h1,h2⟩:=uT (b:=b) (fun i s=>s.2=(i:Int)∧s.1.length=xs.length∧s.1.take i=xs.take i) xs.length (fun t=>t=xs) (by
  rintro i ⟨ys,j⟩ hi ⟨hj,hl,hp⟩
  simp only at hj hl hp
  subst hj
  refine .inl ⟨_,hstep ys i hi hl,rfl,by simpa using hl,?_⟩
  simp only
  rw [List.take_succ_eq_append_getElem (by simp; omega),List.take_succ_eq_append_getElem hi,←hp,List.take_set_of_le (Nat.le_refl _)]
  simp) (by
  rintro ⟨ys,j⟩ ⟨hj,hl,hp⟩
  simp only at hj hl hp
  subst hj
  refine ⟨ys,hend ys hl,?_⟩
  rw [List.take_of_length_le (by omega),List.take_of_length_le (by omega)] at hp
  exact hp) xs.length 0 (y0,0) (by omega) ⟨rfl,h0,by simp⟩
 rw [h1,h2]
theorem zF6 {R:Type} (n:Nat) {b:Int→Option (Lp Int (Fl R Unit))} (hstep:∀i:Nat,i<n→b (i:Int)=some (.go ((i+1:Nat):Int))) (hend:b (n:Int)=some (.done (.nxt ()))):loop b 0=some (.nxt ()):=by
 obtain ⟨t,h1,h2⟩:=uT (b:=b) (fun i s=>s=(i:Int)) n (fun t=>t= .nxt ()) (by
  rintro i s hi rfl
  exact .inl ⟨_,hstep i hi,rfl⟩) (by
  rintro s rfl
  exact ⟨_,hend,rfl⟩) n 0 0 (by omega) rfl
 rw [h1,h2]
theorem zHj {α:Type} (xs:List α) (P:α→Prop) (l:Int) {b:(Int×Int)→Option (Lp (Int×Int) (Fl Int Int))}
  (hstep:∀(q:Int) (i:Nat) (hi:i<xs.length),0≤q→q≤l→(∃q',b (q,(i:Int))=some (.go (q',((i+1:Nat):Int)))∧0≤q'∧q'≤q∧P xs[i])∨∃t,b (q,(i:Int))=some (.done (.ret t))∧t<0)
  (hend:∀q:Int,b (q,(xs.length:Int))=some (.done (.nxt q))) (h0:0≤l):
  ∃t,loop b (l,0)=some t∧match t with| .ret r=>r<0| .nxt r=>0≤r∧r≤l∧∀x∈xs,P x:=by
 refine uT (b:=b) (fun i s=>s.2=(i:Int)∧0≤s.1∧s.1≤l∧∀j,(hj:j<xs.length)→j<i→P xs[j]) xs.length _ (by
  rintro i ⟨q,j⟩ hi ⟨hj,h1,h2,h3⟩
  simp only at hj h1 h2 h3
  subst hj
  rcases hstep q i hi h1 h2 with ⟨q',e,g1,g2,g3⟩|⟨t,e,ht⟩
  ·refine .inl ⟨_,e,rfl,g1,by simp only; omega,fun j hj hji=>?_⟩
   rcases Nat.lt_or_ge j i with h|h
   ·exact h3 j hj h
   ·have:j=i:=by omega
    subst this; exact g3
  ·exact .inr ⟨_,e,ht⟩) (by
  rintro ⟨q,j⟩ ⟨hj,h1,h2,h3⟩
  simp only at hj h1 h2 h3
  subst hj
  refine ⟨_,hend q,h1,h2,fun x hx=>?_⟩
  obtain ⟨j,hj,rfl⟩:=List.getElem_of_mem hx
  exact h3 j hj hj) xs.length 0 (l,0) (by omega) ⟨rfl,h0,Int.le_refl _,fun j _ h=>by omega⟩
def pm {α:Type} (m:α→Int→α) (c:α→Int):List α→Int→List α
 |[],_=>[]
 |x::xs,k=>m x k::pm m c xs (k+c x)
def cs {α:Type} (c:α→Int):List α→Int
 |[]=>0
 |x::xs=>c x+cs c xs
theorem zEl {α:Type} (m:α→Int→α) (c:α→Int):∀(xs:List α) (k:Int),(pm m c xs k).length =xs.length
 |[],_=>rfl
 |x::xs,k=>by simp [pm,zEl m c xs]
theorem wR {α:Type} {c:α→Int} (hc:∀a,0≤c a):∀(xs:List α),0≤cs c xs
 |[]=>Int.le_refl _
 |x::xs=>by have:=hc x; have:=wR hc xs; simp only [cs]; omega
theorem zJg {α:Type} {c:α→Int} {C:Int} {N:Nat} (hC:0≤C):∀(xs:List α),(∀a∈xs,c a≤C)→xs.length≤N→cs c xs≤N*C
 |[],_,_=>Int.mul_nonneg (by omega) hC
 |x::xs,h,hl=>by
  have h1:=h x (by simp)
  simp only [List.length_cons] at hl
  have h2:=zJg (N:=N-1) hC xs (fun a ha=>h a (by simp [ha])) (by omega)
  simp only [cs]
  have:((N-1:Nat):Int)*C+C=N*C:=by
   have e:((N-1:Nat):Int)=(N:Int)-1:=by omega
   rw [e,Int.sub_mul,Int.one_mul]; omega
  omega
theorem zDS {α:Type} (m:α→Int→α) (c:α→Int) (P:α→Prop) (hc:∀a,0≤c a) {b:(List α×Int×Int)→Option (Lp (List α×Int×Int) (List α×Int))}
  (hstep:∀(l r:List α) (x:α) (k:Int),P x→0≤k→k+c x≤9223372036854775807→l.length<9223372036854775807→b (l++x::r,k,(l.length:Int))=some (.go (l++m x k::r,k+c x,((l.length+1:Nat):Int))))
  (hend:∀(l:List α) (k:Int),b (l,k,(l.length:Int))=some (.done (l,k))):∀(xs l:List α) (k:Int),(∀x∈xs,P x)→0≤k→k+cs c xs≤9223372036854775807→l.length+xs.length<9223372036854775807→
  loop b (l++xs,k,(l.length:Int))=some (l++pm m c xs k,k+cs c xs)
 |[],l,k,_,_,_,_=>by
  rw [vY,List.append_nil,hend]
  simp [pm,cs,Lp.elim]
 |x::xs,l,k,hP,h0,h1,h2=>by
  have hx:=hc x
  have hxs:=wR hc xs
  simp only [cs] at h1
  simp only [List.length_cons] at h2
  rw [vY,hstep l xs x k (hP x (by simp)) h0 (by omega) (by omega)]
  simp only [Option.bind_some,Lp.elim]
  have:=zDS m c P hc hstep hend xs (l++[m x k]) (k+c x) (fun y hy=>hP y (by simp [hy])) (by omega) (by omega) (by simp; omega)
  simp only [List.length_append,List.length_cons,List.length_nil,List.append_assoc,List.cons_append,List.nil_append] at this
  rw [this]
  simp only [pm,cs]
  congr 2
  omega
theorem zGW {α:Type} (m:α→Int→α) (c:α→Int) (P:α→Prop) (hc:∀a,0≤c a) {b:List α→(Int×Int)→Option (Lp (Int×Int) (Fl Int Int))}
  (hstep:∀(l r:List α) (x:α) (k:Int),P x→0≤k→k+c x≤9223372036854775807→l.length<9223372036854775807→b (l++m x k::r) (k,(l.length:Int))=some (.go (k+c x,((l.length+1:Nat):Int))))
  (hend:∀(l:List α) (k:Int),b l (k,(l.length:Int))=some (.done (.nxt k))):∀(xs l:List α) (k:Int),(∀x∈xs,P x)→0≤k→k+cs c xs≤9223372036854775807→l.length+xs.length<9223372036854775807→
  loop (b (l++pm m c xs k)) (k,(l.length:Int))=some (.nxt (k+cs c xs))
 |[],l,k,_,_,_,_=>by
  rw [vY,pm,List.append_nil,hend]
  simp [cs,Lp.elim]
 |x::xs,l,k,hP,h0,h1,h2=>by
  have hx:=hc x
  have hxs:=wR hc xs
  simp only [cs] at h1
  simp only [List.length_cons] at h2
  rw [pm,vY,hstep l _ x k (hP x (by simp)) h0 (by omega) (by omega)]
  simp only [Option.bind_some,Lp.elim]
  have:=zGW m c P hc hstep hend xs (l++[m x k]) (k+c x) (fun y hy=>hP y (by simp [hy])) (by omega) (by omega) (by simp; omega)
  simp only [List.length_append,List.length_cons,List.length_nil,List.append_assoc,List.cons_append,List.nil_append] at this
  rw [this]
  simp only [cs]
  congr 2
  omega
theorem zED {α β:Type} {xs:List α} {ys:List β} (h:xs.length=ys.length):same xs ys=some ():=if_pos h
theorem zF5 {α:Type} (l r:List α) (x y:α):(l++x::r).set l.length y=l++y::r:=by
 rw [List.set_append_right _ _ (Nat.le_refl _)]
 simp
def c1 {α:Type} (_:α):Int:=1
theorem zCW {α:Type} (a:α):0≤c1 a:=by unfold c1; decide
theorem zBe {α:Type} {B:Nat} {xs ys:List α} (h:(xs.length+ys.length)*B≤140737488355328) (h2:xs.length+ys.length≤4611686018427387904):app B xs ys=some (xs++ys):=if_pos ⟨h,h2⟩
theorem zJu {S T:Type} {b:S→Option (Lp S T)} (I:S→Prop) (μ:S→Nat) (Q:T→Prop) (step:∀s,I s→(∃s',b s=some (.go s')∧I s'∧μ s'<μ s)∨∃t,b s=some (.done t)∧Q t):∀(n:Nat) (s:S),μ s≤n→I s→∃t,loop b s=some t∧Q t
 |0,s,hn,hI=>by
  rcases step s hI with ⟨s',_,_,h3⟩|⟨t,h1,h2⟩
  ·omega
  ·exact ⟨t,by rw [vY,h1]; rfl,h2⟩
 |n+1,s,hn,hI=>by
  rcases step s hI with ⟨s',h1,h2,h3⟩|⟨t,h1,h2⟩
  ·obtain ⟨t,h4,h5⟩:=zJu I μ Q step n s' (by omega) h2
   exact ⟨t,by rw [vY,h1]; exact h4,h5⟩
  ·exact ⟨t,by rw [vY,h1]; rfl,h2⟩
def Version.ok (x:Version):Prop:=(IntKind.i64.min≤x.A∧x.A≤IntKind.i64.max)∧(IntKind.i64.min≤x.B∧x.B≤IntKind.i64.max)∧(IntKind.i64.min≤x.C∧x.C≤IntKind.i64.max)
def Term.ok (x:Term):Prop:=(x.Name.size≤maxLen)∧(Version.ok x.Low)∧(Version.ok x.High)
def Pack.ok (x:Pack):Prop:=(x.Name.size≤maxLen)∧(Version.ok x.Version)∧(IntKind.i64.min≤x.Size∧x.Size≤IntKind.i64.max)∧(x.Provides.length≤maxLen∧∀y1∈x.Provides,y1.size≤maxLen)∧(x.Needs.length≤maxLen∧∀y1∈x.Needs,y1.length≤maxLen∧∀y2∈y1,Term.ok y2)∧(x.Bars.length≤maxLen∧∀y1∈x.Bars,Term.ok y1)
def File.ok (x:File):Prop:=(x.Path.size≤maxLen)∧(x.Data.length≤maxLen∧∀y1∈x.Data,IntKind.u8.min≤y1∧y1≤IntKind.u8.max)
def zC.ok (x:zC):Prop:=(x.Files.length≤maxLen∧∀y1∈x.Files,File.ok y1)∧(IntKind.i64.min≤x.Budget∧x.Budget≤IntKind.i64.max)∧(IntKind.i64.min≤x.Writes∧x.Writes≤IntKind.i64.max)∧(IntKind.i64.min≤x.Stop∧x.Stop≤IntKind.i64.max)∧(True)
theorem zLM (x:(List Int)) (hx:x.length≤maxLen∧∀y1∈x,IntKind.u8.min≤y1∧y1≤IntKind.u8.max) (l:Int) (h0:0≤l) (h1:l≤1048576):∃r,zCs x l=some r∧(r<0∨(0≤r∧r≤l∧(x.length≤1048576∧∀y0∈x,True))):=by
 obtain ⟨hm,hx⟩:=hx
 unfold maxLen at hm
 unfold zCs
 rw [xS (x:=l-x.length) (by omega) (by omega)]
 by_cases c1:l-(x.length:Int)<0
 ·rw [if_pos (by simpa using c1)]
  exact ⟨_,rfl,.inl (by omega)⟩
 ·rw [if_neg (by simpa using c1)]
  exact ⟨_,rfl,.inr ⟨by omega,by omega,by omega,fun _ _=>trivial⟩⟩
def File.sm (B:Nat) (x:File):Prop:=(x.Path.size≤B)∧(x.Data.length≤B∧∀y0∈x.Data,True)
def zC.sm (B:Nat) (x:zC):Prop:=(x.Files.length≤B∧∀y0∈x.Files,File.sm B y0)∧(True)∧(True)∧(True)∧(True)
theorem zMq (x:File) (hx:File.ok x) (l:Int) (h0:0≤l) (h1:l≤1048576):∃r,zDl x l=some r∧(r<0∨(0≤r∧r≤l∧(File.sm 1048576 x))):=by
 obtain ⟨k0,k1⟩:=hx
 unfold maxLen at*
 unfold zDl
 rw [xS (x:=l-x.Path.size) (by omega) (by omega)]
 by_cases c0:l-(x.Path.size:Int)<0
 ·rw [if_pos (by simpa using c0)]
  exact ⟨_,rfl,.inl (by omega)⟩
 rw [if_neg (by simpa using c0)]
 obtain ⟨r1,e1,g1⟩:=zLM x.Data k1 (l-x.Path.size) (by omega) (by omega)
 rw [e1]
 simp only [Option.bind_some]
 by_cases c1:r1<0
 ·rw [if_pos (by simpa using c1)]
  exact ⟨_,rfl,.inl (by omega)⟩
 rw [if_neg (by simpa using c1)]
 obtain ⟨p1,q1,z1⟩:=g1.resolve_left c1
 exact ⟨_,rfl,.inr ⟨by omega,by omega,by omega,z1⟩⟩
theorem zLF (x:(List File)) (hx:x.length≤maxLen∧∀y1∈x,File.ok y1) (l:Int) (h0:0≤l) (h1:l≤1048576):∃r,zCl x l=some r∧(r<0∨(0≤r∧r≤l∧(x.length≤1048576∧∀y0∈x,File.sm 1048576 y0))):=by
 obtain ⟨hm,hx⟩:=hx
 unfold maxLen at hm
 unfold zCl
 rw [xS (x:=l-x.length) (by omega) (by omega)]
 by_cases c1:l-(x.length:Int)<0
 ·rw [if_pos (by simpa using c1)]
  exact ⟨_,rfl,.inl (by omega)⟩
 ·rw [if_neg (by simpa using c1)]
  have key:=zHj x (fun y0=>File.sm 1048576 y0) (l-x.length) (b:=zBM x) ?_ ?_ (by omega)
  ·obtain ⟨t,h2,h3⟩:=key
   unfold zCv
   rw [h2]
   cases t with
   |ret r=>exact ⟨r,rfl,.inl h3⟩
   |nxt r=>exact ⟨r,rfl,.inr ⟨h3.1,by have:=h3.2.1; omega,by omega,h3.2.2⟩⟩
  ·intro q i hi hq0 hq1
   unfold zBM
   rw [if_pos (by simp; omega)]
   simp only [zM hi,Option.bind_some]
   have hi2:w64 ((i:Int)+1)=((i+1:Nat):Int):=zN (by omega)
   obtain ⟨r,e,hr⟩:=zMq x[i] (hx _ (List.getElem_mem hi)) q hq0 (by omega)
   rw [e]
   simp only [Option.bind_some]
   by_cases c:r<0
   ·rw [if_pos (by simpa using c)]
    exact .inr ⟨_,rfl,by omega⟩
   ·rw [if_neg (by simpa using c),hi2]
    obtain ⟨g1,g2,g3⟩:=hr.resolve_left c
    exact .inl ⟨_,rfl,g1,g2,g3⟩
  ·intro q
   unfold zBM
   rw [if_neg (by simp)]
theorem zNh (x:zC) (hx:zC.ok x) (l:Int) (h0:0≤l) (h1:l≤1048576):∃r,zDo x l=some r∧(r<0∨(0≤r∧r≤l∧(zC.sm 1048576 x))):=by
 obtain ⟨k0,k1,k2,k3,k4⟩:=hx
 unfold maxLen at*
 unfold zDo
 obtain ⟨r0,e0,g0⟩:=zLF x.Files k0 l (by omega) (by omega)
 rw [e0]
 simp only [Option.bind_some]
 by_cases c0:r0<0
 ·rw [if_pos (by simpa using c0)]
  exact ⟨_,rfl,.inl (by omega)⟩
 rw [if_neg (by simpa using c0)]
 obtain ⟨p0,q0,z0⟩:=g0.resolve_left c0
 exact ⟨_,rfl,.inr ⟨by omega,by omega,z0,trivial,trivial,trivial,trivial⟩⟩
def Version.sm (B:Nat) (x:Version):Prop:=(True)∧(True)∧(True)
def Term.sm (B:Nat) (x:Term):Prop:=(x.Name.size≤B)∧(Version.sm B x.Low)∧(Version.sm B x.High)
def Pack.sm (B:Nat) (x:Pack):Prop:=(x.Name.size≤B)∧(Version.sm B x.Version)∧(True)∧(x.Provides.length≤B∧∀y0∈x.Provides,y0.size≤B)∧(x.Needs.length≤B∧∀y0∈x.Needs,y0.length≤B∧∀y1∈y0,Term.sm B y1)∧(x.Bars.length≤B∧∀y0∈x.Bars,Term.sm B y0)
theorem zIZ (x:(List ByteArray)) (hx:x.length≤maxLen∧∀y1∈x,y1.size≤maxLen) (l:Int) (h0:0≤l) (h1:l≤1048576):∃r,zAZ x l=some r∧(r<0∨(0≤r∧r≤l∧(x.length≤1048576∧∀y0∈x,y0.size≤1048576))):=by
 obtain ⟨hm,hx⟩:=hx
 unfold maxLen at hm
 unfold zAZ
 rw [xS (x:=l-x.length) (by omega) (by omega)]
 by_cases c1:l-(x.length:Int)<0
 ·rw [if_pos (by simpa using c1)]
  exact ⟨_,rfl,.inl (by omega)⟩
 ·rw [if_neg (by simpa using c1)]
  have key:=zHj x (fun y0=>y0.size≤1048576) (l-x.length) (b:=zA8 x) ?_ ?_ (by omega)
  ·obtain ⟨t,h2,h3⟩:=key
   unfold zBh
   rw [h2]
   cases t with
   |ret r=>exact ⟨r,rfl,.inl h3⟩
   |nxt r=>exact ⟨r,rfl,.inr ⟨h3.1,by have:=h3.2.1; omega,by omega,h3.2.2⟩⟩
  ·intro q i hi hq0 hq1
   unfold zA8
   rw [if_pos (by simp; omega)]
   simp only [zM hi,Option.bind_some]
   have hi2:w64 ((i:Int)+1)=((i+1:Nat):Int):=zN (by omega)
   have hs:=hx _ (List.getElem_mem hi)
   unfold maxLen at hs
   rw [xS (x:=q-(x[i]).size) (by omega) (by omega)]
   by_cases c:q-((x[i]).size :Int)<0
   ·rw [if_pos (by simpa using c)]
    exact .inr ⟨_,rfl,by omega⟩
   ·rw [if_neg (by simpa using c),hi2]
    exact .inl ⟨_,rfl,by omega,by omega,by show (x[i]).size ≤1048576; omega⟩
  ·intro q
   unfold zA8
   rw [if_neg (by simp)]
theorem zMS (x:Term) (hx:Term.ok x) (l:Int) (h0:0≤l) (h1:l≤1048576):∃r,zDt x l=some r∧(r<0∨(0≤r∧r≤l∧(Term.sm 1048576 x))):=by
 obtain ⟨k0,k1,k2⟩:=hx
 unfold maxLen at*
 unfold zDt
 rw [xS (x:=l-x.Name.size) (by omega) (by omega)]
 by_cases c0:l-(x.Name.size:Int)<0
 ·rw [if_pos (by simpa using c0)]
  exact ⟨_,rfl,.inl (by omega)⟩
 rw [if_neg (by simpa using c0)]
 exact ⟨_,rfl,.inr ⟨by omega,by omega,by omega,⟨trivial,trivial,trivial⟩,⟨trivial,trivial,trivial⟩⟩⟩
theorem zHW (x:(List Term)) (hx:x.length≤maxLen∧∀y1∈x,Term.ok y1) (l:Int) (h0:0≤l) (h1:l≤1048576):∃r,zA5 x l=some r∧(r<0∨(0≤r∧r≤l∧(x.length≤1048576∧∀y0∈x,Term.sm 1048576 y0))):=by
 obtain ⟨hm,hx⟩:=hx
 unfold maxLen at hm
 unfold zA5
 rw [xS (x:=l-x.length) (by omega) (by omega)]
 by_cases c1:l-(x.length:Int)<0
 ·rw [if_pos (by simpa using c1)]
  exact ⟨_,rfl,.inl (by omega)⟩
 ·rw [if_neg (by simpa using c1)]
  have key:=zHj x (fun y0=>Term.sm 1048576 y0) (l-x.length) (b:=zBI x) ?_ ?_ (by omega)
  ·obtain ⟨t,h2,h3⟩:=key
   unfold zCy
   rw [h2]
   cases t with
   |ret r=>exact ⟨r,rfl,.inl h3⟩
   |nxt r=>exact ⟨r,rfl,.inr ⟨h3.1,by have:=h3.2.1; omega,by omega,h3.2.2⟩⟩
  ·intro q i hi hq0 hq1
   unfold zBI
   rw [if_pos (by simp; omega)]
   simp only [zM hi,Option.bind_some]
   have hi2:w64 ((i:Int)+1)=((i+1:Nat):Int):=zN (by omega)
   obtain ⟨r,e,hr⟩:=zMS x[i] (hx _ (List.getElem_mem hi)) q hq0 (by omega)
   rw [e]
   simp only [Option.bind_some]
   by_cases c:r<0
   ·rw [if_pos (by simpa using c)]
    exact .inr ⟨_,rfl,by omega⟩
   ·rw [if_neg (by simpa using c),hi2]
    obtain ⟨g1,g2,g3⟩:=hr.resolve_left c
    exact .inl ⟨_,rfl,g1,g2,g3⟩
  ·intro q
   unfold zBI
   rw [if_neg (by simp)]
theorem zK6 (x:(List (List Term))) (hx:x.length≤maxLen∧∀y1∈x,y1.length≤maxLen∧∀y2∈y1,Term.ok y2) (l:Int) (h0:0≤l) (h1:l≤1048576):∃r,zB1 x l=some r∧(r<0∨(0≤r∧r≤l∧(x.length≤1048576∧∀y0∈x,y0.length≤1048576∧∀y1∈y0,Term.sm 1048576 y1))):=by
 obtain ⟨hm,hx⟩:=hx
 unfold maxLen at hm
 unfold zB1
 rw [xS (x:=l-x.length) (by omega) (by omega)]
 by_cases c1:l-(x.length:Int)<0
 ·rw [if_pos (by simpa using c1)]
  exact ⟨_,rfl,.inl (by omega)⟩
 ·rw [if_neg (by simpa using c1)]
  have key:=zHj x (fun y0=>y0.length≤1048576∧∀y1∈y0,Term.sm 1048576 y1) (l-x.length) (b:=zBt x) ?_ ?_ (by omega)
  ·obtain ⟨t,h2,h3⟩:=key
   unfold zBD
   rw [h2]
   cases t with
   |ret r=>exact ⟨r,rfl,.inl h3⟩
   |nxt r=>exact ⟨r,rfl,.inr ⟨h3.1,by have:=h3.2.1; omega,by omega,h3.2.2⟩⟩
  ·intro q i hi hq0 hq1
   unfold zBt
   rw [if_pos (by simp; omega)]
   simp only [zM hi,Option.bind_some]
   have hi2:w64 ((i:Int)+1)=((i+1:Nat):Int):=zN (by omega)
   obtain ⟨r,e,hr⟩:=zHW x[i] (hx _ (List.getElem_mem hi)) q hq0 (by omega)
   rw [e]
   simp only [Option.bind_some]
   by_cases c:r<0
   ·rw [if_pos (by simpa using c)]
    exact .inr ⟨_,rfl,by omega⟩
   ·rw [if_neg (by simpa using c),hi2]
    obtain ⟨g1,g2,g3⟩:=hr.resolve_left c
    exact .inl ⟨_,rfl,g1,g2,g3⟩
  ·intro q
   unfold zBt
   rw [if_neg (by simp)]
theorem zMR (x:Pack) (hx:Pack.ok x) (l:Int) (h0:0≤l) (h1:l≤1048576):∃r,zDn x l=some r∧(r<0∨(0≤r∧r≤l∧(Pack.sm 1048576 x))):=by
 obtain ⟨k0,k1,k2,k3,k4,k5⟩:=hx
 unfold maxLen at*
 unfold zDn
 rw [xS (x:=l-x.Name.size) (by omega) (by omega)]
 by_cases c0:l-(x.Name.size:Int)<0
 ·rw [if_pos (by simpa using c0)]
  exact ⟨_,rfl,.inl (by omega)⟩
 rw [if_neg (by simpa using c0)]
 obtain ⟨r3,e3,g3⟩:=zIZ x.Provides k3 (l-x.Name.size) (by omega) (by omega)
 rw [e3]
 simp only [Option.bind_some]
 by_cases c3:r3<0
 ·rw [if_pos (by simpa using c3)]
  exact ⟨_,rfl,.inl (by omega)⟩
 rw [if_neg (by simpa using c3)]
 obtain ⟨p3,q3,z3⟩:=g3.resolve_left c3
 obtain ⟨r4,e4,g4⟩:=zK6 x.Needs k4 r3 (by omega) (by omega)
 rw [e4]
 simp only [Option.bind_some]
 by_cases c4:r4<0
 ·rw [if_pos (by simpa using c4)]
  exact ⟨_,rfl,.inl (by omega)⟩
 rw [if_neg (by simpa using c4)]
 obtain ⟨p4,q4,z4⟩:=g4.resolve_left c4
 obtain ⟨r5,e5,g5⟩:=zHW x.Bars k5 r4 (by omega) (by omega)
 rw [e5]
 simp only [Option.bind_some]
 by_cases c5:r5<0
 ·rw [if_pos (by simpa using c5)]
  exact ⟨_,rfl,.inl (by omega)⟩
 rw [if_neg (by simpa using c5)]
 obtain ⟨p5,q5,z5⟩:=g5.resolve_left c5
 exact ⟨_,rfl,.inr ⟨by omega,by omega,by omega,⟨trivial,trivial,trivial⟩,trivial,z3,z4,z5⟩⟩
theorem zMb (x:(List Pack)) (hx:x.length≤maxLen∧∀y1∈x,Pack.ok y1) (l:Int) (h0:0≤l) (h1:l≤1048576):∃r,zCd x l=some r∧(r<0∨(0≤r∧r≤l∧(x.length≤1048576∧∀y0∈x,Pack.sm 1048576 y0))):=by
 obtain ⟨hm,hx⟩:=hx
 unfold maxLen at hm
 unfold zCd
 rw [xS (x:=l-x.length) (by omega) (by omega)]
 by_cases c1:l-(x.length:Int)<0
 ·rw [if_pos (by simpa using c1)]
  exact ⟨_,rfl,.inl (by omega)⟩
 ·rw [if_neg (by simpa using c1)]
  have key:=zHj x (fun y0=>Pack.sm 1048576 y0) (l-x.length) (b:=zBF x) ?_ ?_ (by omega)
  ·obtain ⟨t,h2,h3⟩:=key
   unfold zCC
   rw [h2]
   cases t with
   |ret r=>exact ⟨r,rfl,.inl h3⟩
   |nxt r=>exact ⟨r,rfl,.inr ⟨h3.1,by have:=h3.2.1; omega,by omega,h3.2.2⟩⟩
  ·intro q i hi hq0 hq1
   unfold zBF
   rw [if_pos (by simp; omega)]
   simp only [zM hi,Option.bind_some]
   have hi2:w64 ((i:Int)+1)=((i+1:Nat):Int):=zN (by omega)
   obtain ⟨r,e,hr⟩:=zMR x[i] (hx _ (List.getElem_mem hi)) q hq0 (by omega)
   rw [e]
   simp only [Option.bind_some]
   by_cases c:r<0
   ·rw [if_pos (by simpa using c)]
    exact .inr ⟨_,rfl,by omega⟩
   ·rw [if_neg (by simpa using c),hi2]
    obtain ⟨g1,g2,g3⟩:=hr.resolve_left c
    exact .inl ⟨_,rfl,g1,g2,g3⟩
  ·intro q
   unfold zBF
   rw [if_neg (by simp)]
theorem zMg (x:(List Int)) (hx:x.length≤1049600∧∀y0∈x,True):zC0 x=some x:=by
 have hl:=hx.1
 unfold zC0
 have hm:∀z:Int,mk 1 (x.length:Int) z=some (List.replicate x.length z):=fun z=>by
  unfold mk; rw [if_pos ⟨by omega,by simp; omega,by omega⟩]; simp
 rw [hm]
 simp only [Option.bind_some,zCn]
 rw [zF3 x ?_ ?_ _ (by simp)]
 ·rfl
 ·intro ys i hi hl2
  unfold zDd
  rw [if_pos (by simp; omega)]
  have hi2:w64 ((i:Int)+1)=((i+1:Nat):Int):=zN (by omega)
  simp only [zM hi,zM (show i<ys.length by omega),Option.bind_some,Int.toNat_natCast,hi2]
 ·intro ys _
  unfold zDd
  rw [if_neg (by simp)]
theorem zNm (x:File) (hx:File.sm 1049600 x):zDr x=some x:=by
 obtain ⟨h0,h1⟩:=hx
 unfold zDr
 simp only [zMg x.Data h1,Option.bind_some]
theorem zLT (x:(List File)) (hx:x.length≤1049600∧∀y0∈x,File.sm 1049600 y0):zCx x=some x:=by
 have hl:=hx.1
 unfold zCx
 have hm:∀z:File,mk 40 (x.length:Int) z=some (List.replicate x.length z):=fun z=>by
  unfold mk; rw [if_pos ⟨by omega,by simp; omega,by omega⟩]; simp
 rw [hm]
 simp only [Option.bind_some,zC2]
 rw [zF3 x ?_ ?_ _ (by simp)]
 ·rfl
 ·intro ys i hi hl2
  unfold zDe
  rw [if_pos (by simp; omega)]
  have hi2:w64 ((i:Int)+1)=((i+1:Nat):Int):=zN (by omega)
  simp only [zM hi,zM (show i<ys.length by omega),Option.bind_some,Int.toNat_natCast,hi2,zNm x[i] (hx.2 _ (List.getElem_mem hi))]
 ·intro ys _
  unfold zDe
  rw [if_neg (by simp)]
theorem zMY (x:zC) (hx:zC.sm 1049600 x):tO x=some x:=by
 obtain ⟨h0,h1,h2,h3,h4⟩:=hx
 unfold tO
 simp only [zLT x.Files h0,Option.bind_some]
theorem zKm (x:(List Int)) (hx:x.length≤1049600∧∀y0∈x,True):wN x=some x:=by
 have hl:=hx.1
 unfold wN
 have hm:∀z:Int,mk 8 (x.length:Int) z=some (List.replicate x.length z):=fun z=>by
  unfold mk; rw [if_pos ⟨by omega,by simp; omega,by omega⟩]; simp
 rw [hm]
 simp only [Option.bind_some,zBB]
 rw [zF3 x ?_ ?_ _ (by simp)]
 ·rfl
 ·intro ys i hi hl2
  unfold zCI
  rw [if_pos (by simp; omega)]
  have hi2:w64 ((i:Int)+1)=((i+1:Nat):Int):=zN (by omega)
  simp only [zM hi,zM (show i<ys.length by omega),Option.bind_some,Int.toNat_natCast,hi2]
 ·intro ys _
  unfold zCI
  rw [if_neg (by simp)]
theorem zEV (x:Version) (hx:Version.sm 1049600 x):vF x=some x:=by
 obtain ⟨h0,h1,h2⟩:=hx
 unfold vF
 rfl
theorem zJw (x:(List ByteArray)) (hx:x.length≤1049600∧∀y0∈x,y0.size≤1049600):zBc x=some x:=by
 have hl:=hx.1
 unfold zBc
 have hm:∀z:ByteArray,mk 16 (x.length:Int) z=some (List.replicate x.length z):=fun z=>by
  unfold mk; rw [if_pos ⟨by omega,by simp; omega,by omega⟩]; simp
 rw [hm]
 simp only [Option.bind_some,zBr]
 rw [zF3 x ?_ ?_ _ (by simp)]
 ·rfl
 ·intro ys i hi hl2
  unfold zBU
  rw [if_pos (by simp; omega)]
  have hi2:w64 ((i:Int)+1)=((i+1:Nat):Int):=zN (by omega)
  simp only [zM hi,zM (show i<ys.length by omega),Option.bind_some,Int.toNat_natCast,hi2]
 ·intro ys _
  unfold zBU
  rw [if_neg (by simp)]
theorem zMU (x:Term) (hx:Term.sm 1049600 x):zDk x=some x:=by
 obtain ⟨h0,h1,h2⟩:=hx
 unfold zDk
 simp only [zEV x.Low h1,zEV x.High h2,Option.bind_some]
theorem zIn (x:(List Term)) (hx:x.length≤1049600∧∀y0∈x,Term.sm 1049600 y0):zA7 x=some x:=by
 have hl:=hx.1
 unfold zA7
 have hm:∀z:Term,mk 64 (x.length:Int) z=some (List.replicate x.length z):=fun z=>by
  unfold mk; rw [if_pos ⟨by omega,by simp; omega,by omega⟩]; simp
 rw [hm]
 simp only [Option.bind_some,zCw]
 rw [zF3 x ?_ ?_ _ (by simp)]
 ·rfl
 ·intro ys i hi hl2
  unfold zDb
  rw [if_pos (by simp; omega)]
  have hi2:w64 ((i:Int)+1)=((i+1:Nat):Int):=zN (by omega)
  simp only [zM hi,zM (show i<ys.length by omega),Option.bind_some,Int.toNat_natCast,hi2,zMU x[i] (hx.2 _ (List.getElem_mem hi))]
 ·intro ys _
  unfold zDb
  rw [if_neg (by simp)]
theorem zKA (x:(List (List Term))) (hx:x.length≤1049600∧∀y0∈x,y0.length≤1049600∧∀y1∈y0,Term.sm 1049600 y1):zB0 x=some x:=by
 have hl:=hx.1
 unfold zB0
 have hm:∀z:(List Term),mk 24 (x.length:Int) z=some (List.replicate x.length z):=fun z=>by
  unfold mk; rw [if_pos ⟨by omega,by simp; omega,by omega⟩]; simp
 rw [hm]
 simp only [Option.bind_some,zBQ]
 rw [zF3 x ?_ ?_ _ (by simp)]
 ·rfl
 ·intro ys i hi hl2
  unfold zCJ
  rw [if_pos (by simp; omega)]
  have hi2:w64 ((i:Int)+1)=((i+1:Nat):Int):=zN (by omega)
  simp only [zM hi,zM (show i<ys.length by omega),Option.bind_some,Int.toNat_natCast,hi2,zIn x[i] (hx.2 _ (List.getElem_mem hi))]
 ·intro ys _
  unfold zCJ
  rw [if_neg (by simp)]
theorem zMV (x:Pack) (hx:Pack.sm 1049600 x):zDq x=some x:=by
 obtain ⟨h0,h1,h2,h3,h4,h5⟩:=hx
 unfold zDq
 simp only [zEV x.Version h1,zJw x.Provides h3,zKA x.Needs h4,zIn x.Bars h5,Option.bind_some]
theorem zLL (x:(List Pack)) (hx:x.length≤1049600∧∀y0∈x,Pack.sm 1049600 y0):vO x=some x:=by
 have hl:=hx.1
 unfold vO
 have hm:∀z:Pack,mk 120 (x.length:Int) z=some (List.replicate x.length z):=fun z=>by
  unfold mk; rw [if_pos ⟨by omega,by simp; omega,by omega⟩]; simp
 rw [hm]
 simp only [Option.bind_some,zC8]
 rw [zF3 x ?_ ?_ _ (by simp)]
 ·rfl
 ·intro ys i hi hl2
  unfold zDc
  rw [if_pos (by simp; omega)]
  have hi2:w64 ((i:Int)+1)=((i+1:Nat):Int):=zN (by omega)
  simp only [zM hi,zM (show i<ys.length by omega),Option.bind_some,Int.toNat_natCast,hi2,zMV x[i] (hx.2 _ (List.getElem_mem hi))]
 ·intro ys _
  unfold zDc
  rw [if_neg (by simp)]
theorem zJI (x:(List Int)) (hx:x.length≤1049600∧∀y0∈x,True):zCb x x=some true:=by
 have hl:=hx.1
 unfold zCb
 rw [if_neg (by simp)]
 unfold zC4
 rw [zF6 x.length ?_ ?_]
 ·rfl
 ·intro i hi
  unfold zDa
  rw [if_pos (by simp; omega)]
  have hi2:w64 ((i:Int)+1)=((i+1:Nat):Int):=zN (by omega)
  simp [zM hi,hi2]
 ·unfold zDa
  rw [if_neg (by simp)]
theorem zKM (x:File) (hx:File.sm 1049600 x):zDm x x=some true:=by
 obtain ⟨h0,h1⟩:=hx
 unfold zDm
 simp [zJI x.Data h1]
theorem zJx (x:(List File)) (hx:x.length≤1049600∧∀y0∈x,File.sm 1049600 y0):zCj x x=some true:=by
 have hl:=hx.1
 unfold zCj
 rw [if_neg (by simp)]
 unfold zC1
 rw [zF6 x.length ?_ ?_]
 ·rfl
 ·intro i hi
  unfold zDf
  rw [if_pos (by simp; omega)]
  have hi2:w64 ((i:Int)+1)=((i+1:Nat):Int):=zN (by omega)
  simp [zM hi,hi2,zKM x[i] (hx.2 _ (List.getElem_mem hi))]
 ·unfold zDf
  rw [if_neg (by simp)]
theorem zHt (x:zC) (hx:zC.sm 1049600 x):zBy x x=some true:=by
 obtain ⟨h0,h1,h2,h3,h4⟩:=hx
 unfold zBy
 simp [zJx x.Files h0]
def zI.sm (B:Nat) (x:zI):Prop:=(True)∧(zC.sm B x.zC)
theorem zGp (x:zI) (hx:zI.sm 1049600 x):xR x x=some true:=by
 obtain ⟨h0,h1⟩:=hx
 unfold xR
 simp [zHt x.zC h1]
theorem zID (x:(List Int)) (hx:x.length≤1049600∧∀y0∈x,True):zB7 x x=some true:=by
 have hl:=hx.1
 unfold zB7
 rw [if_neg (by simp)]
 unfold zBH
 rw [zF6 x.length ?_ ?_]
 ·rfl
 ·intro i hi
  unfold zCM
  rw [if_pos (by simp; omega)]
  have hi2:w64 ((i:Int)+1)=((i+1:Nat):Int):=zN (by omega)
  simp [zM hi,hi2]
 ·unfold zCM
  rw [if_neg (by simp)]
theorem zEt (x:Version) (hx:Version.sm 1049600 x):vD x x=some true:=by
 obtain ⟨h0,h1,h2⟩:=hx
 unfold vD
 simp
theorem zH6 (x:(List ByteArray)) (hx:x.length≤1049600∧∀y0∈x,y0.size≤1049600):zBa x x=some true:=by
 have hl:=hx.1
 unfold zBa
 rw [if_neg (by simp)]
 unfold zBl
 rw [zF6 x.length ?_ ?_]
 ·rfl
 ·intro i hi
  unfold zBW
  rw [if_pos (by simp; omega)]
  have hi2:w64 ((i:Int)+1)=((i+1:Nat):Int):=zN (by omega)
  simp [zM hi,hi2]
 ·unfold zBW
  rw [if_neg (by simp)]
theorem zKl (x:Term) (hx:Term.sm 1049600 x):zDj x x=some true:=by
 obtain ⟨h0,h1,h2⟩:=hx
 unfold zDj
 simp [zEt x.Low h1,zEt x.High h2]
theorem zG0 (x:(List Term)) (hx:x.length≤1049600∧∀y0∈x,Term.sm 1049600 y0):zAE x x=some true:=by
 have hl:=hx.1
 unfold zAE
 rw [if_neg (by simp)]
 unfold zCD
 rw [zF6 x.length ?_ ?_]
 ·rfl
 ·intro i hi
  unfold zCZ
  rw [if_pos (by simp; omega)]
  have hi2:w64 ((i:Int)+1)=((i+1:Nat):Int):=zN (by omega)
  simp [zM hi,hi2,zKl x[i] (hx.2 _ (List.getElem_mem hi))]
 ·unfold zCZ
  rw [if_neg (by simp)]
theorem zIt (x:(List (List Term))) (hx:x.length≤1049600∧∀y0∈x,y0.length≤1049600∧∀y1∈y0,Term.sm 1049600 y1):zB9 x x=some true:=by
 have hl:=hx.1
 unfold zB9
 rw [if_neg (by simp)]
 unfold zBP
 rw [zF6 x.length ?_ ?_]
 ·rfl
 ·intro i hi
  unfold zCK
  rw [if_pos (by simp; omega)]
  have hi2:w64 ((i:Int)+1)=((i+1:Nat):Int):=zN (by omega)
  simp [zM hi,hi2,zG0 x[i] (hx.2 _ (List.getElem_mem hi))]
 ·unfold zCK
  rw [if_neg (by simp)]
theorem zKE (x:Pack) (hx:Pack.sm 1049600 x):zDi x x=some true:=by
 obtain ⟨h0,h1,h2,h3,h4,h5⟩:=hx
 unfold zDi
 simp [zEt x.Version h1,zH6 x.Provides h3,zIt x.Needs h4,zG0 x.Bars h5]
theorem zJ2 (x:(List Pack)) (hx:x.length≤1049600∧∀y0∈x,Pack.sm 1049600 y0):zCt x x=some true:=by
 have hl:=hx.1
 unfold zCt
 rw [if_neg (by simp)]
 unfold zCm
 rw [zF6 x.length ?_ ?_]
 ·rfl
 ·intro i hi
  unfold zDg
  rw [if_pos (by simp; omega)]
  have hi2:w64 ((i:Int)+1)=((i+1:Nat):Int):=zN (by omega)
  simp [zM hi,hi2,zKE x[i] (hx.2 _ (List.getElem_mem hi))]
 ·unfold zDg
  rw [if_neg (by simp)]
theorem zHv (a:Int):(b2s [a]).size =1:=rfl
theorem zI6 {k:Int} (h0:0≤k) (h1:k≤9223372036854775807):∃s,xJ k=some s:=by
 have key:∀(n:Nat) (k:Int) (s:ByteArray),0≤k→k<10^n→k≤9223372036854775807→s.size+n≤1000→∃t,loop zCH (k,s)=some t∧t.size≤s.size+n:=by
  intro n
  induction n with
  |zero=>
   intro k s h0 h1 _ _
   have:k=0:=by simp at h1; omega
   subst this
   exact ⟨s,by rw [vY]; rfl,by omega⟩
  |succ n ih=>
   intro k s h0 h1 h2 h3
   by_cases hk:k>0
   ·rw [vY]
    unfold zCH
    simp only
    rw [if_pos (by simpa using hk)]
    have hc:∀a:Int,cat (b2s [a]) s=some (b2s [a]++s):=fun a=>by
     unfold cat; rw [if_pos (by rw [zHv]; omega)]
    rw [hc]
    simp only [Option.bind_some,Lp.elim]
    have hd:k.tdiv 10=k / 10:=Int.tdiv_eq_ediv_of_nonneg h0
    rw [hd,xS (by omega) (by omega)]
    obtain ⟨t,g1,g2⟩:=ih (k / 10) (b2s [IntKind.u8.wrap (w64 (48+k.tmod 10))]++s) (by omega) (by rw [Int.pow_succ] at h1; omega) (by omega) (by rw [ByteArray.size_append,zHv]; omega)
    refine ⟨t,g1,?_⟩
    rw [ByteArray.size_append,zHv] at g2
    omega
   ·have:k=0:=by omega
    subst this
    exact ⟨s,by rw [vY]; rfl,by omega⟩
 unfold xJ
 by_cases hk:k≤0
 ·rw [if_pos (by simpa using hk)]
  exact ⟨_,rfl⟩
 ·rw [if_neg (by simpa using hk)]
  obtain ⟨t,g1,g2⟩:=key 19 k (bs []) h0 (by omega) h1 (by decide)
  unfold zBN
  rw [g1]
  simp only [Option.bind_some]
  have e0:(bs []).size =0:=rfl
  have e1:(bs [109]).size =1:=rfl
  unfold cat
  rw [if_pos (by omega)]
  exact ⟨_,rfl⟩
noncomputable def mT (k:Int):ByteArray:=(xJ k).getD ByteArray.empty
theorem zEh {k:Int} (h0:0≤k) (h1:k≤9223372036854775807):xJ k=some (mT k):=by
 obtain ⟨s,hs⟩:=zI6 h0 h1
 unfold mT
 rw [hs]
 rfl
def zLJ (_:Int) (k:Int):Int:=IntKind.u8.wrap k
theorem zIH (xs:List Int) (hx:xs.length≤1049600∧∀y0∈xs,True) (k:Int) (h0:0≤k) (h1:k+cs c1 xs≤9223372036854775807):zAw xs k=some (k+cs c1 xs,pm zLJ c1 xs k):=by
 unfold zAw zAK
 have key:=zDS zLJ c1 (fun y0=>True) zCW (b:=zAn) ?_ ?_ xs [] k hx.2 h0 h1 (by have:=hx.1; simp; omega)
 ·simp only [List.nil_append,List.length_nil,Int.natCast_zero] at key
  rw [key]
  rfl
 ·intro l r x k hP h0 hk hl
  simp only [c1] at hk
  have w0:=xS (x:=k+1) (by omega) (by omega)
  have hi2:w64 ((l.length:Int)+1)=((l.length+1:Nat):Int):=zN (by omega)
  unfold zAn
  rw [if_pos (by simp; omega)]
  simp only [zCL,zF5,Option.bind_some,Int.toNat_natCast,hi2,w0]
  rfl
 ·intro l k
  unfold zAn
  rw [if_neg (by simp)]
theorem zJ0 (xs:List Int) (hx:xs.length≤1049600∧∀y0∈xs,True) (k:Int) (h0:0≤k) (h1:k+cs c1 xs≤9223372036854775807):zAY (pm zLJ c1 xs k) k=some (k+cs c1 xs):=by
 unfold zAY zBp
 have key:=zGW zLJ c1 (fun y0=>True) zCW (b:=zAC) ?_ ?_ xs [] k hx.2 h0 h1 (by have:=hx.1; simp; omega)
 ·simp only [List.nil_append,List.length_nil,Int.natCast_zero] at key
  rw [key]
  rfl
 ·intro l r x k hP h0 hk hl
  simp only [c1] at hk
  have w0:=xS (x:=k+1) (by omega) (by omega)
  have hi2:w64 ((l.length:Int)+1)=((l.length+1:Nat):Int):=zN (by omega)
  unfold zAC
  rw [if_pos (by simp; omega)]
  simp [zCL,hi2,zLJ,w0]
  all_goals (first|rfl|omega|(simp only [c1]; omega))
 ·intro l k
  unfold zAC
  rw [if_neg (by simp)]
noncomputable def mFile (x:File) (k:Int):File:=({Path:=mT (k),Data:=pm zLJ c1 x.Data (k+1)}:File)
noncomputable def cFile (x:File):Int:=1+cs c1 x.Data
theorem zBu (x:File):0≤cFile x:=by
 have n1:=wR zCW x.Data
 unfold cFile
 omega
theorem zI9 (xs:List File) (hx:xs.length≤1049600∧∀y0∈xs,File.sm 1049600 y0) (k:Int) (h0:0≤k) (h1:k+cs cFile xs≤9223372036854775807):zAs xs k=some (k+cs cFile xs,pm mFile cFile xs k):=by
 unfold zAs zAJ
 have key:=zDS mFile cFile (fun y0=>File.sm 1049600 y0) zBu (b:=zAk) ?_ ?_ xs [] k hx.2 h0 h1 (by have:=hx.1; simp; omega)
 ·simp only [List.nil_append,List.length_nil,Int.natCast_zero] at key
  rw [key]
  rfl
 ·intro l r x k hP h0 hk hl
  simp only [cFile] at hk
  have n1:=wR zCW x.Data
  have t0:=zEh (k:=k) (by omega) (by omega)
  have w0:=xS (x:=k+1) (by omega) (by omega)
  have t1:=zIH x.Data (hP.2) (k+1) (by omega) (by omega)
  have hi2:w64 ((l.length:Int)+1)=((l.length+1:Nat):Int):=zN (by omega)
  unfold zAk
  rw [if_pos (by simp; omega)]
  simp only [zCL,zF5,Option.bind_some,Int.toNat_natCast,hi2,t0,w0,t1,zED (zEl _ _ _ _)]
  rw [show k+1+cs c1 x.Data=k+cFile x from by simp only [cFile]; omega]
  rfl
 ·intro l k
  unfold zAk
  rw [if_neg (by simp)]
theorem zJ4 (xs:List File) (hx:xs.length≤1049600∧∀y0∈xs,File.sm 1049600 y0) (k:Int) (h0:0≤k) (h1:k+cs cFile xs≤9223372036854775807):zAT (pm mFile cFile xs k) k=some (k+cs cFile xs):=by
 unfold zAT zBo
 have key:=zGW mFile cFile (fun y0=>File.sm 1049600 y0) zBu (b:=zAL) ?_ ?_ xs [] k hx.2 h0 h1 (by have:=hx.1; simp; omega)
 ·simp only [List.nil_append,List.length_nil,Int.natCast_zero] at key
  rw [key]
  rfl
 ·intro l r x k hP h0 hk hl
  simp only [cFile] at hk
  have n1:=wR zCW x.Data
  have t0:=zEh (k:=k) (by omega) (by omega)
  have w0:=xS (x:=k+1) (by omega) (by omega)
  have t1:=zJ0 x.Data (hP.2) (k+1) (by omega) (by omega)
  have z1:¬(k+1+cs c1 x.Data<0):=by omega
  have hi2:w64 ((l.length:Int)+1)=((l.length+1:Nat):Int):=zN (by omega)
  unfold zAL
  rw [if_pos (by simp; omega)]
  simp [zCL,hi2,mFile,t0,w0,t1,z1]
  all_goals (first|rfl|omega|(simp only [cFile]; omega))
 ·intro l k
  unfold zAL
  rw [if_neg (by simp)]
theorem zGv (x:zC) (hP:zC.sm 1049600 x) (k:Int) (h0:0≤k) (h1:k+cs cFile x.Files≤9223372036854775807):tX x k=some (k+cs cFile x.Files,pm mFile cFile x.Files (k)):=by
 have n0:=wR zBu x.Files
 have t0:=zI9 x.Files (hP.1) (k) (by omega) (by omega)
 unfold tX
 simp only [t0,Option.bind_some,zED (zEl _ _ _ _)]
theorem zKK (x:zC) (hP:zC.sm 1049600 x) (k:Int) (h0:0≤k) (h1:k+cs cFile x.Files≤9223372036854775807):zB6 ({Files:=pm mFile cFile x.Files (k),Budget:=x.Budget,Writes:=x.Writes,Stop:=x.Stop,Down:=x.Down}:zC) k=some (k+cs cFile x.Files):=by
 have n0:=wR zBu x.Files
 have t0:=zJ4 x.Files (hP.1) (k) (by omega) (by omega)
 have z0:¬(k+cs cFile x.Files<0):=by omega
 unfold zB6
 simp [t0]
 all_goals (first|rfl|omega)
theorem zFP (x:zI) (hP:zI.sm 1049600 x) (k:Int) (h0:0≤k) (h1:k+cs cFile x.zC.Files≤9223372036854775807):wU x k=some (k+cs cFile x.zC.Files,pm mFile cFile x.zC.Files (k)):=by
 have n0:=wR zBu x.zC.Files
 have t0:=zGv x.zC (hP.2) (k) (by omega) (by omega)
 unfold wU
 simp only [t0,Option.bind_some,zED (zEl _ _ _ _)]
theorem zFZ (x:zI) (hP:zI.sm 1049600 x) (k:Int) (h0:0≤k) (h1:k+cs cFile x.zC.Files≤9223372036854775807):xY ({Code:=x.Code,zC:=({Files:=pm mFile cFile x.zC.Files (k),Budget:=x.zC.Budget,Writes:=x.zC.Writes,Stop:=x.zC.Stop,Down:=x.zC.Down}:zC)}:zI) k=some (k+cs cFile x.zC.Files):=by
 have n0:=wR zBu x.zC.Files
 have t0:=zKK x.zC (hP.2) (k) (by omega) (by omega)
 have z0:¬(k+cs cFile x.zC.Files<0):=by omega
 unfold xY
 simp [t0]
 all_goals (first|rfl|omega)
def zO0 (_:Int) (k:Int):Int:=k
theorem zHE (xs:List Int) (hx:xs.length≤1049600∧∀y0∈xs,True) (k:Int) (h0:0≤k) (h1:k+cs c1 xs≤9223372036854775807):jR xs k=some (k+cs c1 xs,pm zO0 c1 xs k):=by
 unfold jR zAf
 have key:=zDS zO0 c1 (fun y0=>True) zCW (b:=jY) ?_ ?_ xs [] k hx.2 h0 h1 (by have:=hx.1; simp; omega)
 ·simp only [List.nil_append,List.length_nil,Int.natCast_zero] at key
  rw [key]
  rfl
 ·intro l r x k hP h0 hk hl
  simp only [c1] at hk
  have w0:=xS (x:=k+1) (by omega) (by omega)
  have hi2:w64 ((l.length:Int)+1)=((l.length+1:Nat):Int):=zN (by omega)
  unfold jY
  rw [if_pos (by simp; omega)]
  simp only [zCL,zF5,Option.bind_some,Int.toNat_natCast,hi2,w0]
  rfl
 ·intro l k
  unfold jY
  rw [if_neg (by simp)]
noncomputable def zKd (_:ByteArray) (k:Int):ByteArray:=mT k
theorem zGX (xs:List ByteArray) (hx:xs.length≤1049600∧∀y0∈xs,y0.size≤1049600) (k:Int) (h0:0≤k) (h1:k+cs c1 xs≤9223372036854775807):uX xs k=some (k+cs c1 xs,pm zKd c1 xs k):=by
 unfold uX kD
 have key:=zDS zKd c1 (fun y0=>y0.size≤1049600) zCW (b:=jF) ?_ ?_ xs [] k hx.2 h0 h1 (by have:=hx.1; simp; omega)
 ·simp only [List.nil_append,List.length_nil,Int.natCast_zero] at key
  rw [key]
  rfl
 ·intro l r x k hP h0 hk hl
  simp only [c1] at hk
  have t0:=zEh (k:=k) (by omega) (by omega)
  have w0:=xS (x:=k+1) (by omega) (by omega)
  have hi2:w64 ((l.length:Int)+1)=((l.length+1:Nat):Int):=zN (by omega)
  unfold jF
  rw [if_pos (by simp; omega)]
  simp only [zCL,zF5,Option.bind_some,Int.toNat_natCast,hi2,t0,w0]
  rfl
 ·intro l k
  unfold jF
  rw [if_neg (by simp)]
noncomputable def zNR (x:Term) (k:Int):Term:=({Name:=mT (k),Low:=({A:=(k+1),B:=(k+1+1),C:=(k+1+1+1)}:Version),High:=({A:=(k+1+1+1+1),B:=(k+1+1+1+1+1),C:=(k+1+1+1+1+1+1)}:Version)}:Term)
noncomputable def zEX (x:Term):Int:=1+1+1+1+1+1+1
theorem zDN (x:Term):0≤zEX x:=by
 unfold zEX
 omega
theorem zFQ (xs:List Term) (hx:xs.length≤1049600∧∀y0∈xs,Term.sm 1049600 y0) (k:Int) (h0:0≤k) (h1:k+cs zEX xs≤9223372036854775807):vX xs k=some (k+cs zEX xs,pm zNR zEX xs k):=by
 unfold vX zAB
 have key:=zDS zNR zEX (fun y0=>Term.sm 1049600 y0) zDN (b:=zAu) ?_ ?_ xs [] k hx.2 h0 h1 (by have:=hx.1; simp; omega)
 ·simp only [List.nil_append,List.length_nil,Int.natCast_zero] at key
  rw [key]
  rfl
 ·intro l r x k hP h0 hk hl
  simp only [zEX] at hk
  have t0:=zEh (k:=k) (by omega) (by omega)
  have w0:=xS (x:=k+1) (by omega) (by omega)
  have w1:=xS (x:=k+1+1) (by omega) (by omega)
  have w2:=xS (x:=k+1+1+1) (by omega) (by omega)
  have w3:=xS (x:=k+1+1+1+1) (by omega) (by omega)
  have w4:=xS (x:=k+1+1+1+1+1) (by omega) (by omega)
  have w5:=xS (x:=k+1+1+1+1+1+1) (by omega) (by omega)
  have w6:=xS (x:=k+1+1+1+1+1+1+1) (by omega) (by omega)
  have hi2:w64 ((l.length:Int)+1)=((l.length+1:Nat):Int):=zN (by omega)
  unfold zAu
  rw [if_pos (by simp; omega)]
  simp only [zCL,zF5,Option.bind_some,Int.toNat_natCast,hi2,t0,w0,w1,w2,w3,w4,w5,w6]
  rw [show k+1+1+1+1+1+1+1=k+zEX x from by simp only [zEX]; omega]
  rfl
 ·intro l k
  unfold zAu
  rw [if_neg (by simp)]
noncomputable def zMJ (x:(List Term)) (k:Int):(List Term):=pm zNR zEX x k
noncomputable def zEu (x:(List Term)):Int:=cs zEX x
theorem zEJ (x:(List Term)):0≤zEu x:=wR zDN x
theorem zHF (xs:List (List Term)) (hx:xs.length≤1049600∧∀y0∈xs,y0.length≤1049600∧∀y1∈y0,Term.sm 1049600 y1) (k:Int) (h0:0≤k) (h1:k+cs zEu xs≤9223372036854775807):jQ xs k=some (k+cs zEu xs,pm zMJ zEu xs k):=by
 unfold jQ zAr
 have key:=zDS zMJ zEu (fun y0=>y0.length≤1049600∧∀y1∈y0,Term.sm 1049600 y1) zEJ (b:=jV) ?_ ?_ xs [] k hx.2 h0 h1 (by have:=hx.1; simp; omega)
 ·simp only [List.nil_append,List.length_nil,Int.natCast_zero] at key
  rw [key]
  rfl
 ·intro l r x k hP h0 hk hl
  simp only [zEu] at hk
  have n0:=wR zDN x
  have t0:=zFQ x (hP) (k) (by omega) (by omega)
  have hi2:w64 ((l.length:Int)+1)=((l.length+1:Nat):Int):=zN (by omega)
  unfold jV
  rw [if_pos (by simp; omega)]
  simp only [zCL,zF5,Option.bind_some,Int.toNat_natCast,hi2,t0,zED (zEl _ _ _ _)]
  rfl
 ·intro l k
  unfold jV
  rw [if_neg (by simp)]
noncomputable def zPK (x:Pack) (k:Int):Pack:=({Name:=mT (k),Version:=({A:=(k+1),B:=(k+1+1),C:=(k+1+1+1)}:Version),Size:=(k+1+1+1+1),Provides:=pm zKd c1 x.Provides (k+1+1+1+1+1),Needs:=pm zMJ zEu x.Needs (k+1+1+1+1+1+cs c1 x.Provides),Bars:=pm zNR zEX x.Bars (k+1+1+1+1+1+cs c1 x.Provides+cs zEu x.Needs)}:Pack)
noncomputable def zF4 (x:Pack):Int:=1+1+1+1+1+cs c1 x.Provides+cs zEu x.Needs+cs zEX x.Bars
theorem zG6 (x:Pack):0≤zF4 x:=by
 have n5:=wR zCW x.Provides
 have n6:=wR zEJ x.Needs
 have n7:=wR zDN x.Bars
 unfold zF4
 omega
theorem zIB (xs:List Pack) (hx:xs.length≤1049600∧∀y0∈xs,Pack.sm 1049600 y0) (k:Int) (h0:0≤k) (h1:k+cs zF4 xs≤9223372036854775807):zAv xs k=some (k+cs zF4 xs,pm zPK zF4 xs k):=by
 unfold zAv zA9
 have key:=zDS zPK zF4 (fun y0=>Pack.sm 1049600 y0) zG6 (b:=zAi) ?_ ?_ xs [] k hx.2 h0 h1 (by have:=hx.1; simp; omega)
 ·simp only [List.nil_append,List.length_nil,Int.natCast_zero] at key
  rw [key]
  rfl
 ·intro l r x k hP h0 hk hl
  simp only [zF4] at hk
  have n5:=wR zCW x.Provides
  have n6:=wR zEJ x.Needs
  have n7:=wR zDN x.Bars
  have t0:=zEh (k:=k) (by omega) (by omega)
  have w0:=xS (x:=k+1) (by omega) (by omega)
  have w1:=xS (x:=k+1+1) (by omega) (by omega)
  have w2:=xS (x:=k+1+1+1) (by omega) (by omega)
  have w3:=xS (x:=k+1+1+1+1) (by omega) (by omega)
  have w4:=xS (x:=k+1+1+1+1+1) (by omega) (by omega)
  have t5:=zGX x.Provides (hP.2.2.2.1) (k+1+1+1+1+1) (by omega) (by omega)
  have t6:=zHF x.Needs (hP.2.2.2.2.1) (k+1+1+1+1+1+cs c1 x.Provides) (by omega) (by omega)
  have t7:=zFQ x.Bars (hP.2.2.2.2.2) (k+1+1+1+1+1+cs c1 x.Provides+cs zEu x.Needs) (by omega) (by omega)
  have hi2:w64 ((l.length:Int)+1)=((l.length+1:Nat):Int):=zN (by omega)
  unfold zAi
  rw [if_pos (by simp; omega)]
  simp only [zCL,zF5,Option.bind_some,Int.toNat_natCast,hi2,t0,w0,w1,w2,w3,w4,t5,t6,t7,zED (zEl _ _ _ _)]
  rw [show k+1+1+1+1+1+cs c1 x.Provides+cs zEu x.Needs+cs zEX x.Bars=k+zF4 x from by simp only [zF4]; omega]
  rfl
 ·intro l k
  unfold zAi
  rw [if_neg (by simp)]
theorem Version.zDB {x:Version} (h:Version.sm 1048576 x):Version.sm 1049600 x:=⟨trivial,trivial,trivial⟩
theorem Term.zDB {x:Term} (h:Term.sm 1048576 x):Term.sm 1049600 x:=⟨(Nat.le_trans h.1 (by decide)),(Version.zDB h.2.1),(Version.zDB h.2.2)⟩
theorem Pack.zDB {x:Pack} (h:Pack.sm 1048576 x):Pack.sm 1049600 x:=⟨(Nat.le_trans h.1 (by decide)),(Version.zDB h.2.1),trivial,⟨Nat.le_trans h.2.2.2.1.1 (by decide),fun y0 z0=>(Nat.le_trans (h.2.2.2.1.2 y0 z0) (by decide))⟩,⟨Nat.le_trans h.2.2.2.2.1.1 (by decide),fun y0 z0=>⟨Nat.le_trans (h.2.2.2.2.1.2 y0 z0).1 (by decide),fun y1 z1=>(Term.zDB ((h.2.2.2.2.1.2 y0 z0).2 y1 z1))⟩⟩,⟨Nat.le_trans h.2.2.2.2.2.1 (by decide),fun y0 z0=>(Term.zDB (h.2.2.2.2.2.2 y0 z0))⟩⟩
theorem File.zDB {x:File} (h:File.sm 1048576 x):File.sm 1049600 x:=⟨(Nat.le_trans h.1 (by decide)),⟨Nat.le_trans h.2.1 (by decide),fun y0 z0=>trivial⟩⟩
theorem zC.zDB {x:zC} (h:zC.sm 1048576 x):zC.sm 1049600 x:=⟨⟨Nat.le_trans h.1.1 (by decide),fun y0 z0=>(File.zDB (h.1.2 y0 z0))⟩,trivial,trivial,trivial,trivial⟩
theorem zJ7 (x:(List ByteArray)) (hx:x.length≤1049600∧∀y0∈x,y0.size≤1049600):cs c1 x≤1049600:=by
 have:=zJg (c:=c1) (C:=1) (N:=1049600) (by decide) x (fun a _=>by unfold c1; decide) hx.1
 omega
theorem zIm (x:(List Term)) (hx:x.length≤1049600∧∀y0∈x,Term.sm 1049600 y0):cs zEX x≤7347200:=by
 have:=zJg (c:=zEX) (C:=7) (N:=1049600) (by decide) x (fun a ha=>by have hP:=hx.2 a ha; unfold zEX; omega) hx.1
 omega
theorem zKv (x:(List (List Term))) (hx:x.length≤1049600∧∀y0∈x,y0.length≤1049600∧∀y1∈y0,Term.sm 1049600 y1):cs zEu x≤7711621120000:=by
 have:=zJg (c:=zEu) (C:=7347200) (N:=1049600) (by decide) x (fun a ha=>zIm a (hx.2 a ha)) hx.1
 omega
theorem zLY (x:(List Pack)) (hx:x.length≤1049600∧∀y0∈x,Pack.sm 1049600 y0):cs zF4 x≤8094126340838528000:=by
 have:=zJg (c:=zF4) (C:=7711629516805) (N:=1049600) (by decide) x (fun a ha=>by have hP:=hx.2 a ha; have q5:=zJ7 a.Provides (hP.2.2.2.1); have q6:=zKv a.Needs (hP.2.2.2.2.1); have q7:=zIm a.Bars (hP.2.2.2.2.2); unfold zF4; omega) hx.1
 omega
theorem zMh (x:(List Int)) (hx:x.length≤1049600∧∀y0∈x,True):cs c1 x≤1049600:=by
 have:=zJg (c:=c1) (C:=1) (N:=1049600) (by decide) x (fun a _=>by unfold c1; decide) hx.1
 omega
theorem zIa (x:(List File)) (hx:x.length≤1049600∧∀y0∈x,File.sm 1049600 y0):cs cFile x≤1101661209600:=by
 have:=zJg (c:=cFile) (C:=1049601) (N:=1049600) (by decide) x (fun a ha=>by have hP:=hx.2 a ha; have q1:=zMh a.Data (hP.2); unfold cFile; omega) hx.1
 omega
theorem zKj (x:(List Int)) (hx:x.length≤1049600∧∀y0∈x,True):cs c1 x≤1049600:=by
 have:=zJg (c:=c1) (C:=1) (N:=1049600) (by decide) x (fun a _=>by unfold c1; decide) hx.1
 omega
theorem zEI (a1:(List Pack)) (a2:zC) (a3:(List Int)) (k0:a1.length≤maxLen∧∀y1∈a1,Pack.ok y1) (k1:zC.ok a2) (k2:a3.length≤maxLen∧∀y1∈a3,IntKind.i64.min≤y1∧y1≤IntKind.i64.max) (both:(a1.length≤1048576∧∀y0∈a1,Pack.sm 1048576 y0)→(zC.sm 1048576 a2)→(a3.length≤1048576∧∀y0∈a3,True)→∃r,uK a1 a2 a3=some r∧wK a1 a2 a3=some r∧(zI.sm 1049600 r)):xZ a1 a2 a3=some true:=by
 unfold xZ
 by_cases d1:(a3.length:Int)>1048576
 ·rw [if_pos (by simpa using d1)]
 rw [if_neg (by simpa using d1)]
 have s_a3:a3.length≤1048576∧∀y0∈a3,True:=⟨by omega,fun _ _=>trivial⟩
 obtain ⟨r2,e2,g2⟩:=zMb a1 k0 1048576 (by omega) (by omega)
 rw [e2]
 simp only [Option.bind_some]
 by_cases d2:r2<0
 ·rw [if_pos (by simpa using d2)]
 rw [if_neg (by simpa using d2)]
 obtain ⟨p2,q2,s_a1⟩:=g2.resolve_left d2
 obtain ⟨r3,e3,g3⟩:=zNh a2 k1 r2 (by omega) (by omega)
 rw [e3]
 simp only [Option.bind_some]
 by_cases d3:r3<0
 ·rw [if_pos (by simpa using d3)]
 rw [if_neg (by simpa using d3)]
 obtain ⟨p3,q3,s_a2⟩:=g3.resolve_left d3
 obtain ⟨r,e1,e2,hr⟩:=both s_a1 s_a2 s_a3
 have m_a1:a1.length≤1049600∧∀y0∈a1,Pack.sm 1049600 y0:=⟨Nat.le_trans s_a1.1 (by decide),fun y0 z0=>(Pack.zDB (s_a1.2 y0 z0))⟩
 have m_a2:zC.sm 1049600 a2:=(zC.zDB s_a2)
 have m_a3:a3.length≤1049600∧∀y0∈a3,True:=⟨Nat.le_trans s_a3.1 (by decide),fun y0 z0=>trivial⟩
 have n1:=wR zG6 a1
 have b1:=zLY a1 (m_a1)
 have n3:=wR zBu a2.Files
 have b3:=zIa a2.Files (m_a2.1)
 have n5:=wR zCW a3
 have b5:=zKj a3 (m_a3)
 have n7:=wR zBu r.zC.Files
 have b7:=zIa r.zC.Files (hr.2.1)
 have t2:=zIB a1 m_a1 (1) (by omega) (by omega)
 have t4:=zGv a2 m_a2 (1+cs zF4 a1) (by omega) (by omega)
 have t6:=zHE a3 m_a3 (1+cs zF4 a1+cs cFile a2.Files) (by omega) (by omega)
 have z1:¬(1+cs zF4 a1+cs cFile a2.Files+cs c1 a3<0):=by omega
 have t8:=zFP r hr 1 (by omega) (by omega)
 have u8:=zFZ r hr 1 (by omega) (by omega)
 have z2:¬(1+cs cFile r.zC.Files<0):=by omega
 simp [e1,e2,zLL a1 m_a1,zJ2 a1 m_a1,zMY a2 m_a2,zHt a2 m_a2,zKm a3 m_a3,zID a3 m_a3,zGp r hr,t2,t4,t6,z1,t8,u8,z2,zED (zEl _ _ _ _)]
def bl (s:ByteArray):List Int:=s.toList.map (fun b=>(b.toNat:Int))
theorem yO (s:ByteArray):(bl s).length =s.size:=by
 unfold bl
 rw [List.length_map,ByteArray.toList_eq]
 rfl
theorem zE6 {s:ByteArray} {i:Nat} (h:i< (bl s).length):bidx s (i:Int)=some (bl s)[i]:=by
 unfold bidx
 rw [if_pos (by omega)]
 have hs:i<s.size:=by rw [yO] at h; exact h
 have e:s[(i:Int).toNat]? =some s[i]:=by simp [hs]
 rw [e]
 simp only [Option.map_some,bl,List.getElem_map]
 congr 2
 simp only [ByteArray.toList_eq]
 rfl
theorem zI0 {s:ByteArray}:∀c∈bl s,0≤c∧c≤255:=by
 intro c hc
 unfold bl at hc
 obtain ⟨b,_,rfl⟩:=List.mem_map.1 hc
 have:=b.toNat_lt
 omega
theorem zHi:∀(a:List UInt8),Op.bytesLess a a=false
 |[]=>rfl
 |x::a=>by simp [Op.bytesLess,zHi a]
theorem zHP:∀{a b c:List UInt8},Op.bytesLess a b=true→Op.bytesLess b c=true→Op.bytesLess a c=true
 |_,[],_,h,_=>by simp [Op.bytesLess] at h
 |_,_::_,[],_,h=>by simp [Op.bytesLess] at h
 |[],_::_,_::_,_,_=>by simp [Op.bytesLess]
 |x::a,y::b,z::c,h1,h2=>by
  simp only [Op.bytesLess,Bool.or_eq_true,decide_eq_true_eq,Bool.and_eq_true,beq_iff_eq] at h1 h2 ⊢
  rcases h1 with h1|⟨rfl,h1⟩
  ·rcases h2 with h2|⟨rfl,h2⟩
   ·exact .inl (UInt8.lt_trans h1 h2)
   ·exact .inl h1
  ·rcases h2 with h2|⟨rfl,h2⟩
   ·exact .inl h2
   ·exact .inr ⟨rfl,zHP h1 h2⟩
theorem zLl:∀(a b:List UInt8),Op.bytesLess a b=false→a≠b→Op.bytesLess b a=true
 |[],[],_,h=>absurd rfl h
 |[],_::_,h,_=>by simp [Op.bytesLess] at h
 |_::_,[],_,_=>by simp [Op.bytesLess]
 |x::a,y::b,h,hne=>by
  simp only [Op.bytesLess,Bool.or_eq_false_iff,decide_eq_false_iff_not,Bool.and_eq_false_iff,beq_eq_false_iff_ne] at h
  simp only [Op.bytesLess,Bool.or_eq_true,decide_eq_true_eq,Bool.and_eq_true,beq_iff_eq]
  by_cases hxy:x=y
  ·subst hxy
   refine .inr ⟨rfl,zLl a b ?_ (fun e=>hne (by rw [e]))⟩
   rcases h.2 with h'|h'
   ·exact absurd rfl h'
   ·exact h'
  ·refine .inl ?_
   have:=h.1
   rw [UInt8.lt_iff_toNat_lt] at this ⊢
   have:x.toNat≠y.toNat:=fun e=>hxy (UInt8.toNat_inj.1 e)
   omega
theorem toList_inj {a b:ByteArray} (h:a.toList=b.toList):a=b:=by
 rw [ByteArray.toList_eq,ByteArray.toList_eq] at h
 cases a; cases b
 simp at h
 rw [h]
theorem zDI (a:ByteArray):slt a a=false:=zHi _
theorem zDT {a b c:ByteArray} (h1:slt a b=true) (h2:slt b c=true):slt a c=true:=zHP h1 h2
theorem zPi {a b:ByteArray} (h:slt a b=false) (hne:a≠b):slt b a=true:=zLl _ _ h (fun e=>hne (toList_inj e))
theorem zGr {a b:ByteArray}:seq a b=true↔a=b:=by
 unfold seq
 simp only [beq_iff_eq]
 exact ⟨toList_inj,fun e=>by rw [e]⟩
theorem seq_eq (a b:ByteArray):seq a b=decide (a=b):=by
 rw [Bool.eq_iff_iff,zGr]; simp
theorem zPR (a b c:Int):xI a b c=some (decide (a≥b)&&decide (a≤c)):=by
 unfold xI
 cases decide (a≥b)<;>rfl
theorem zDR (a b:ByteArray):bl (a++b)=bl a++bl b:=by
 unfold bl
 rw [ByteArray.toList_eq,ByteArray.toList_eq,ByteArray.toList_eq]
 simp
theorem zDv (s:ByteArray) (i j:Nat):bl (s.extract i j)=((bl s).drop i).take (j-i):=by
 unfold bl
 rw [ByteArray.toList_eq,ByteArray.toList_eq]
 simp [List.map_drop,List.map_take]
theorem zIr {a b:ByteArray}:bl a=bl b↔a=b:=by
 constructor
 ·intro h
  unfold bl at h
  refine toList_inj ?_
  have hinj:∀(x y:List UInt8),x.map (fun b=>(b.toNat:Int))=y.map (fun b=>(b.toNat:Int))→x=y:=by
   intro x
   induction x with
   |nil=>intro y h; cases y<;>simp_all
   |cons u x ih=>
    intro y h
    cases y with
    |nil=>simp at h
    |cons v y=>
     simp only [List.map_cons,List.cons.injEq] at h
     rw [ih y h.2]
     have:u.toNat=v.toNat:=by omega
     rw [UInt8.toNat_inj.1 this]
  exact hinj _ _ h
 ·intro h; rw [h]
theorem zO4 (a b:ByteArray):seq a b=decide (bl a=bl b):=by
 rw [seq_eq]
 simp [zIr]
theorem zK2 {c:Int} (h0:0≤c) (h1:c≤255):bl (b2s [c])=[c]:=by
 unfold bl b2s
 rw [ByteArray.toList_eq]
 simp only [List.foldl_cons,List.foldl_nil]
 show [((UInt8.ofNat c.toNat).toNat :Int)]=[c]
 simp
 omega
theorem wrap_u8 {c:Int} (h0:0≤c) (h1:c≤255):IntKind.u8.wrap c=c:=by
 simp only [IntKind.wrap,IntKind.signed,IntKind.bits]
 simp
 omega
def zFw (n:Nat):List Int:=if n<10 then [48+(n:Int)] else zFw (n / 10)++[48+((n%10:Nat):Int)]
termination_by n
decreasing_by omega
theorem zBs {n:Nat} (h:n<10):zFw n=[48+(n:Int)]:=by rw [zFw,if_pos h]
theorem zEd {n:Nat} (h:¬n<10):zFw n=zFw (n / 10)++[48+((n%10:Nat):Int)]:=by rw [zFw,if_neg h]
theorem zF8:∀(k n:Nat),10^k≤n→n<10^(k+1)→(zFw n).length =k+1
 |0,n,_,h=>by rw [zBs (by simpa using h)]; rfl
 |k+1,n,h1,h2=>by
  have hp:1≤10^k:=Nat.one_le_pow _ _ (by omega)
  rw [Nat.pow_succ] at h1
  rw [Nat.pow_succ] at h2
  rw [zEd (by omega),List.length_append,zF8 k (n / 10) (by omega) (by omega)]
  rfl
theorem zH2:∀(k n:Nat),n<10^(k+1)→(zFw n).length ≤k+1
 |0,n,h=>by rw [zBs (by simpa using h)]; simp
 |k+1,n,h=>by
  by_cases hn:n<10
  ·rw [zBs hn]; simp
  ·rw [Nat.pow_succ] at h
   rw [zEd hn,List.length_append]
   have:=zH2 k (n / 10) (by omega)
   simp only [List.length_singleton]
   omega
theorem zHL (g:Int→Option ByteArray) (a1:Int):uM g a1=if decide (a1<10) then some (b2s [IntKind.u8.wrap (w64 (48+a1))]) else (g (w64 (a1.tdiv 10))).bind fun x3=>(cat x3 (b2s [IntKind.u8.wrap (w64 (48+(a1.tmod 10)))])).bind fun x5=>some x5:=rfl
theorem zFu:∀(k f n:Nat),n<10^(k+1)→k<f→n≤9000000000000000000→k≤100→∃s,zPn uM f (n:Int)=some s∧bl s=zFw n
 |k,0,n,_,hf,_,_=>by omega
 |k,f+1,n,h,hf,hn,hk=>by
  rw [show zPn uM (f+1) (n:Int)=uM (zPn uM f) (n:Int) from rfl,zHL]
  by_cases h1:n<10
  ·rw [if_pos (by simp; omega),xS (by omega) (by omega),wrap_u8 (by omega) (by omega)]
   exact ⟨_,rfl,by rw [zK2 (by omega) (by omega),zBs h1]⟩
  ·rw [if_neg (by simp; omega)]
   cases k with
   |zero=>simp at h; omega
   |succ k=>
    have e1:w64 ((n:Int).tdiv 10)=((n / 10:Nat):Int):=by
     rw [Int.tdiv_eq_ediv_of_nonneg (by omega),xS (by omega) (by omega)]; omega
    have e2:(n:Int).tmod 10=((n%10:Nat):Int):=by
     rw [Int.tmod_eq_emod_of_nonneg (by omega)]; omega
    rw [Nat.pow_succ] at h
    obtain ⟨s,e,hs⟩:=zFu k f (n / 10) (by omega) (by omega) (by omega) (by omega)
    rw [e1,e2,e,xS (by omega) (by omega),wrap_u8 (by omega) (by omega)]
    have hsz:s.size≤k+1:=by
     rw [←yO,hs]
     exact zH2 k (n / 10) (by omega)
    simp only [Option.bind_some]
    unfold cat
    rw [if_pos (by have:(b2s [48+((n%10:Nat):Int)]).size =1:=rfl; omega)]
    exact ⟨_,rfl,by rw [zDR,hs,zK2 (by omega) (by omega),zEd h1]⟩
theorem zFx (n:Nat) (h:n≤9000000000000000000):∃s,wB (n:Int)=some s∧bl s=zFw n:=
 zFu 18 64 n (by omega) (by omega) h (by omega)
theorem zKT (l:List UInt8):bl (bs l)=l.map (fun b=>(b.toNat:Int)):=by
 unfold bl bs
 rw [ByteArray.toList_eq]
theorem zDV {a b:ByteArray} (h:a.size+b.size≤1099511627776):cat a b=some (a++b):=if_pos h
theorem zIV (a b c:ByteArray):a++b++c=a++(b++c):=zIr.1 (by simp only [zDR,List.append_assoc])
theorem zDJ (a b:ByteArray):(a++b).size =a.size+b.size:=by
 rw [←yO,zDR,List.length_append,yO,yO]
theorem zFr {n:Nat} (h:n<256):(UInt8.ofNat n).toNat =n:=by
 simp [Nat.mod_eq_of_lt h]
theorem decDigits_eq:∀(n:Nat),(Lib.decDigits n).map (fun b=>(b.toNat:Int))=zFw n:=by
 intro n
 induction n using Nat.strongRecOn with
 |ind n ih=>
  rw [Lib.decDigits]
  by_cases h:n<10
  ·rw [dif_pos h,zBs h]
   simp only [List.map_cons,List.map_nil]
   rw [zFr (by omega)]
   simp
  ·rw [dif_neg h,zEd h,List.map_append,ih (n / 10) (by omega)]
   simp only [List.map_cons,List.map_nil]
   rw [zFr (by omega)]
   simp
def zIY (n:Nat):ByteArray:=⟨(Lib.decDigits n).toArray⟩
theorem zF7 (n:Nat):bl (zIY n)=zFw n:=by
 unfold bl zIY
 rw [ByteArray.toList_eq]
 exact decDigits_eq n
theorem zG7 (n:Nat) (h:n≤9000000000000000000):wB (n:Int)=some (zIY n):=by
 obtain ⟨s,e,hs⟩:=zFx n h
 rw [e,zIr.1 (hs.trans (zF7 n).symm)]
theorem zG1 (n:Nat) (h:n≤9000000000000000000):uR (n:Int) 10=some (zIY n):=by
 unfold uR
 rw [if_pos (by omega)]
 unfold Lib.itoa zIY
 rw [if_neg (by omega)]
 simp
def inB (a b c:Int):Bool:=decide (b≤a)&&decide (a≤c)
theorem zKQ (a b c:Int):xI a b c=some (inB a b c):=by
 unfold xI inB
 by_cases h:a≥b<;>simp [h]
theorem zJn (a b c:Int):yS a b c=some (inB a b c):=by
 unfold yS inB
 by_cases h:b≤a<;>simp [h]
section del
variable {α:Type} (p:α→Bool)
theorem zEr {xs:List α} {l h:Nat} (h1:l≤h) (h2:h≤xs.length):zEH xs (l:Int) (h:Int)=some ((xs.drop l).take (h-l)):=by
 unfold zEH
 rw [if_pos (by omega)]
 rfl
end del
section del
variable {α:Type} (p:α→Bool)
theorem zKD {xs:List α} {l n:Nat} {a:α} (h:l+n≤xs.length):zNw xs (l:Int) n a=some (xs.take l++List.replicate n a++xs.drop (l+n)):=by
 unfold zNw
 rw [if_pos (by omega)]
 simp [ovr]
end del
section del
variable {α:Type} (p:α→Bool)
theorem zOk {R:Type} (a1:List α) (out:Int→R) {b:Int→Option (Lp Int (Fl R Unit))} (hl:a1.length<9223372036854775807)
  (hstep:∀(i:Nat) (hi:i<a1.length),b (i:Int)=some (if p a1[i] then .done (.ret (out i)) else .go ((i+1:Nat):Int))) (hend:b (a1.length:Int)=some (.done (.nxt ()))):
  ∃t,loop b 0=some t∧((t= .nxt ()∧∀x∈a1,p x=false)∨∃i:Nat,∃hi:i<a1.length,t= .ret (out i)∧p a1[i]=true∧∀x∈a1.take i,p x=false):=by
 refine uT (b:=b) (fun i s=>s=(i:Int)∧∀x∈a1.take i,p x=false) a1.length _ (by
  rintro i s hi ⟨rfl,hn⟩
  have e:=hstep i hi
  cases hp:p a1[i]
  ·rw [hp] at e
   refine .inl ⟨_,e,rfl,fun x hx=>?_⟩
   rw [List.take_succ_eq_append_getElem hi] at hx
   rcases List.mem_append.1 hx with hx|hx
   ·exact hn x hx
   ·simp at hx; rw [hx]; exact hp
  ·rw [hp] at e
   exact .inr ⟨_,e,.inr ⟨i,hi,rfl,hp,hn⟩⟩) (by
  rintro s ⟨rfl,hn⟩
  rw [List.take_length] at hn
  exact ⟨_,hend,.inl ⟨rfl,hn⟩⟩) a1.length 0 0 (by omega) ⟨rfl,by simp⟩
end del
section del
variable {α:Type} (p:α→Bool)
theorem zEG {xs:List α} {i:Nat} {x:α} (h:i<xs.length):(xs.set i x).take (i+1)=xs.take i++[x]:=by
 rw [List.take_succ_eq_append_getElem (by simpa using h),List.take_set_of_le (Nat.le_refl _)]
 simp
end del
section del
variable {α:Type} (p:α→Bool)
theorem set_drop {xs:List α} {i j:Nat} {x:α} (h:i<j):(xs.set i x).drop j=xs.drop j:=by
 rw [List.drop_set_of_lt h]
end del
section del
variable {α:Type} (p:α→Bool)
theorem zM9 (a:List α) {b:(List α×Int×Int)→Option (Lp (List α×Int×Int) (List α×Int))} (hl:a.length<9223372036854775807)
  (hstep:∀(xs:List α) (i j:Nat) (hj:j<xs.length),i≤j→xs.length=a.length→xs[j]∈a→b (xs,(i:Int),(j:Int))=some (.go (if p xs[j] then (xs,(i:Int),((j+1:Nat):Int)) else (xs.set i xs[j],((i+1:Nat):Int),((j+1:Nat):Int)))))
  (hend:∀(xs:List α) (i:Nat),xs.length=a.length→b (xs,(i:Int),(xs.length:Int))=some (.done (xs,(i:Int)))) (i0 j0:Nat) (hij:i0≤j0) (hj0:j0≤a.length) (h0:a.take i0=(a.take j0).filter (fun x=> !p x)):
  ∃ys:List α,loop b (a,(i0:Int),(j0:Int))=some (ys,((a.filter (fun x=> !p x)).length :Int))∧ys.length=a.length∧ys.take (a.filter (fun x=> !p x)).length =a.filter (fun x=> !p x):=by
 obtain ⟨t,e,h⟩:=uT (b:=b) (fun j s=>s.1.length=a.length∧s.1.drop j=a.drop j∧s.2.2=(j:Int)∧∃i:Nat,s.2.1=(i:Int)∧i≤j∧s.1.take i=(a.take j).filter (fun x=> !p x)) a.length
  (fun t=>t.1.length=a.length∧∃i:Nat,t.2=(i:Int)∧i≤a.length∧t.1.take i=a.filter (fun x=> !p x)) (by
  rintro j ⟨xs,i',j'⟩ hj ⟨hxl,hxd,hjj,i,hi,hle,ht⟩
  simp only at hxl hxd hjj hi ht
  subst hjj hi
  have hjx:j<xs.length:=by omega
  have hx:xs[j]=a[j]:=by
   have:=congrArg (fun l=>l[0]?) hxd
   simp only [List.getElem?_drop,Nat.add_zero] at this
   rw [List.getElem?_eq_getElem hjx,List.getElem?_eq_getElem hj] at this
   exact Option.some.inj this
  have e:=hstep xs i j hjx hle hxl (by rw [hx]; exact List.getElem_mem hj)
  have htk:(a.take (j+1)).filter (fun x=> !p x)=(a.take j).filter (fun x=> !p x)++(if p a[j] then [] else [a[j]]):=by
   rw [List.take_succ_eq_append_getElem hj,List.filter_append]
   cases h:p a[j]<;>simp [h]
  have hd1:a.drop (j+1)=xs.drop (j+1):=by
   have:=congrArg (List.drop 1) hxd
   simpa [List.drop_drop] using this.symm
  rw [hx] at e
  cases hp:p a[j]
  ·rw [hp] at e htk
   refine .inl ⟨_,e,by simpa using hxl,?_,rfl,i+1,rfl,by omega,?_⟩
   ·show (xs.set i a[j]).drop (j+1)=a.drop (j+1)
    rw [set_drop (by omega),hd1]
   ·show (xs.set i a[j]).take (i+1)=_
    rw [zEG (by omega),htk,ht]
    rfl
  ·rw [hp] at e htk
   refine .inl ⟨_,e,hxl,?_,rfl,i,rfl,by omega,?_⟩
   ·exact hd1.symm
   ·show xs.take i=_
    rw [htk,ht]
    simp) (by
  rintro ⟨xs,i',j'⟩ ⟨hxl,hxd,hjj,i,hi,hle,ht⟩
  simp only at hxl hxd hjj hi ht
  subst hjj hi
  have e:=hend xs i hxl
  rw [hxl] at e
  refine ⟨_,e,hxl,i,rfl,hle,?_⟩
  rw [List.take_length] at ht
  exact ht) (a.length-j0) j0 (a,(i0:Int),(j0:Int)) (by omega) ⟨rfl,rfl,rfl,i0,rfl,hij,h0⟩
 obtain ⟨ys,i'⟩:=t
 obtain ⟨h1,i,h2,h3,h4⟩:=h
 simp only at h1 h2 h4
 subst h2
 have hlen:i=(a.filter (fun x=> !p x)).length :=by rw [←h4]; simp; omega
 subst hlen
 exact ⟨ys,e,h1,h4⟩
end del
section del
variable {α:Type} (p:α→Bool)
theorem zOT {a ys:List α} (zero:α) (h1:ys.length=a.length) (h2:ys.take (a.filter (fun x=> !p x)).length =a.filter (fun x=> !p x)):
  (zEH ys ((a.filter (fun x=> !p x)).length :Int) (ys.length:Int)).bind (fun r=>(zNw ys ((a.filter (fun x=> !p x)).length :Int) r.length zero).bind fun z=>(zEH z 0 ((a.filter (fun x=> !p x)).length :Int)).bind fun q=>some q)=some (a.filter (fun x=> !p x)):=by
 have hle:(a.filter (fun x=> !p x)).length ≤ys.length:=by rw [h1]; exact List.length_filter_le _ _
 rw [zEr hle (Nat.le_refl _)]
 simp only [Option.bind_some]
 rw [zKD (by simp; omega)]
 simp only [Option.bind_some]
 have:zEH (List.take (List.filter (fun x=> !p x) a).length ys++List.replicate (List.take (ys.length-(List.filter (fun x=> !p x) a).length) (List.drop (List.filter (fun x=> !p x) a).length ys)).length zero++
   List.drop ((List.filter (fun x=> !p x) a).length +(List.take (ys.length-(List.filter (fun x=> !p x) a).length) (List.drop (List.filter (fun x=> !p x) a).length ys)).length) ys) ((0:Nat):Int) ((a.filter (fun x=> !p x)).length :Int)=some (a.filter (fun x=> !p x)):=by
  rw [zEr (by omega) (by simp; omega)]
  rw [h2]
  simp
 exact (congrArg (fun o=>Option.bind o fun q=>some q) this)
end del
section del
variable {α:Type} (p:α→Bool)
theorem zOE (a:List α) (zero:α) (hl:a.length≤1048577) {b1:Int→Option (Lp Int (Fl Int Unit))} {b2:(List α×Int×Int)→Option (Lp (List α×Int×Int) (List α×Int))}
  (h1:∀(i:Nat) (hi:i<a.length),b1 (i:Int)=some (if p a[i] then .done (.ret (i:Int)) else .go ((i+1:Nat):Int))) (h1e:b1 (a.length:Int)=some (.done (.nxt ())))
  (h2:∀(xs:List α) (i j:Nat) (hj:j<xs.length),i≤j→xs.length=a.length→xs[j]∈a→b2 (xs,(i:Int),(j:Int))=some (.go (if p xs[j] then (xs,(i:Int),((j+1:Nat):Int)) else (xs.set i xs[j],((i+1:Nat):Int),((j+1:Nat):Int)))))
  (h2e:∀(xs:List α) (i:Nat),xs.length=a.length→b2 (xs,(i:Int),(xs.length:Int))=some (.done (xs,(i:Int)))):
  ((loop b1 0).bind (Fl.go some fun _=>some (-1))).bind (fun x4=>if x4==(-1) then (some a) else ((loop b2 (a,x4,w64 (x4+1))).bind fun v26=>(zEH v26.1 v26.2 (v26.1.length:Int)).bind fun x27=>(zNw v26.1 v26.2 x27.length zero).bind fun x29=>(zEH x29 0 v26.2).bind fun x31=>some x31))=some (a.filter (fun x=> !p x)):=by
 obtain ⟨t,e,h⟩:=zOk p a (fun i=>i) (b:=b1) (by omega) h1 h1e
 rw [e]
 rcases h with ⟨rfl,hn⟩|⟨i,hi,rfl,hp,hn⟩
 ·show some a=_
  congr 1
  exact (List.filter_eq_self.2 (fun x hx=>by rw [hn x hx]; rfl)).symm
 ·simp only [Option.bind_some,Fl.go]
  rw [if_neg (by simp),zN (by omega)]
  obtain ⟨ys,e2,h3,h4⟩:=zM9 p a (b:=b2) (by omega) h2 h2e i (i+1) (by omega) (by omega) (by
   rw [List.take_succ_eq_append_getElem hi,List.filter_append]
   rw [List.filter_eq_self.2 (fun x hx=>by rw [hn x hx]; rfl)]
   simp [hp])
  rw [e2]
  simp only [Option.bind_some]
  exact zOT p zero h3 h4
end del
def jI {α R:Type} (g:Nat→α→Option R):Nat→List α→Option R
 |_,[]=>none
 |i,x::xs=>match g i x with
  |some r=>some r
  |none=>jI g (i+1) xs
def frs {R:Type}:Option R→Fl R Unit
 |some r=>.ret r
 |none=>.nxt ()
theorem zIb {α R:Type} (xs:List α) (g:Nat→α→Option R) {b:Int→Option (Lp Int (Fl R Unit))}
  (hstep:∀(i:Nat) (hi:i<xs.length),b (i:Int)=some (match g i xs[i] with|some r=>.done (.ret r)|none=>.go ((i+1:Nat):Int))) (hend:b (xs.length:Int)=some (.done (.nxt ()))):
  ∀(k i:Nat),i+k=xs.length→loop b (i:Int)=some (frs (jI g i (xs.drop i)))
 |0,i,h=>by
  have e:i=xs.length:=by omega
  subst e
  rw [vY,hend,List.drop_length]
  rfl
 |k+1,i,h=>by
  have hi:i<xs.length:=by omega
  have ih:=zIb xs g hstep hend k (i+1) (by omega)
  rw [vY,hstep i hi,List.drop_eq_getElem_cons hi]
  simp only [jI]
  cases g i xs[i] with
  |some r=>rfl
  |none=>exact ih
theorem uG {α R:Type} (xs:List α) (g:Nat→α→Option R) {b:Int→Option (Lp Int (Fl R Unit))}
  (hstep:∀(i:Nat) (hi:i<xs.length),b (i:Int)=some (match g i xs[i] with|some r=>.done (.ret r)|none=>.go ((i+1:Nat):Int))) (hend:b (xs.length:Int)=some (.done (.nxt ()))):
  loop b 0=some (frs (jI g 0 xs)):=by
 have:=zIb xs g hstep hend xs.length 0 (by omega)
 simpa using this
theorem zEL {R T:Type} (o:Option R) (f:R→Option T) (h:Unit→Option T):(some (frs o)).bind (Fl.go f h)=match o with|some r=>f r|none=>h ():=by
 cases o<;>rfl
theorem zEy {α:Type} (p:α→Bool):∀(xs:List α) (i:Nat),((jI (fun j x=>if p x then some (j:Int) else none) i xs).getD (-1)≥0)↔xs.any p=true
 |[],i=>by simp [jI]
 |x::xs,i=>by
  simp only [jI]
  cases h:p x
  ·simp only [Bool.false_eq_true,if_false,List.any_cons,h,Bool.false_or]
   exact zEy p xs (i+1)
  ·simp [h]
theorem zJC {α:Type} (p:α→Bool):∀(xs:List α) (i:Nat),(jI (fun _ x=>if p x then some true else none) i xs).getD false=xs.any p
 |[],i=>rfl
 |x::xs,i=>by
  simp only [jI]
  cases h:p x
  ·simp only [Bool.false_eq_true,if_false,List.any_cons,h,Bool.false_or]
   exact zJC p xs (i+1)
  ·simp [h]
def foldI {α A:Type} (f:Nat→A→α→A):Nat→List α→A→A
 |_,[],a=>a
 |i,x::xs,a=>foldI f (i+1) xs (f i a x)
theorem zEf {α A:Type} (xs:List α) (f:Nat→A→α→A) (I:Nat→A→Prop) {b:(A×Int)→Option (Lp (A×Int) A)}
  (hstep:∀(i:Nat) (a:A) (hi:i<xs.length),I i a→b (a,(i:Int))=some (.go (f i a xs[i],((i+1:Nat):Int)))∧I (i+1) (f i a xs[i])) (hend:∀a,b (a,(xs.length:Int))=some (.done a)):
  ∀(k i:Nat) (a:A),i+k=xs.length→I i a→loop b (a,(i:Int))=some (foldI f i (xs.drop i) a)∧I xs.length (foldI f i (xs.drop i) a)
 |0,i,a,h,hI=>by
  have e:i=xs.length:=by omega
  subst e
  rw [vY,hend,List.drop_length]
  exact ⟨rfl,hI⟩
 |k+1,i,a,h,hI=>by
  have hi:i<xs.length:=by omega
  obtain ⟨h1,h2⟩:=hstep i a hi hI
  have ih:=zEf xs f I hstep hend k (i+1) _ (by omega) h2
  rw [vY,h1,List.drop_eq_getElem_cons hi]
  exact ih
theorem zGL {o:Option Int} {b:Bool} (h:(o.getD (-1)≥0)↔b=true):decide (o.getD (-1)≥0)=b:=by
 rw [Bool.eq_iff_iff,decide_eq_true_eq]; exact h
def zKC (c:Int):Bool:=(decide (c≥97)&&decide (c≤122))||(decide (c≥48)&&decide (c≤57))||c==95
def zK4 (c:Int):Bool:=zKC c||c==46||c==45||c==47
theorem zH5 (c:Int):uE c=some (zKC c):=by
 unfold uE vI vN zKC
 cases decide (c≥97)<;>cases decide (c≤122)<;>cases decide (c≥48)<;>cases decide (c≤57)<;>rfl
theorem zFp (c:Int):zDh c=some (zK4 c):=by
 unfold zDh zK4
 rw [zH5]
 cases zKC c<;>cases (c==46)<;>cases (c==45)<;>cases (c==47)<;>rfl
theorem zF9 (c:Int):xK c=some (zKC c):=by
 unfold xK zKC
 cases decide (c≥97)<;>cases decide (c≤122)<;>cases decide (c≥48)<;>cases decide (c≤57)<;>rfl
theorem zJs (s:ByteArray):zAO s=vC s:=by
 unfold zAO vC
 have:kY s=uS s:=by
  unfold kY uS
  refine zFg fun i=>?_
  unfold zD8 jJ
  split
  ·congr 1
   funext c
   rw [zFp,zF9]
   unfold zK4
   simp only [bne]
   cases zKC c<;>cases (c==46)<;>cases (c==45)<;>cases (c==47)<;>rfl
  ·rfl
 rw [this]
def zHn (s:ByteArray):Prop:=1≤s.size∧s.size≤40∧∀c∈bl s,zK4 c=true
theorem zHM (s:ByteArray):(zHn s∧vC s=some 0)∨(¬zHn s∧vC s=some 5):=by
 unfold vC
 by_cases h1:s.size<1
 ·refine .inr ⟨fun h=>by have:=h.1; omega,?_⟩
  rw [if_pos (by simp; omega)]; rfl
 ·rw [if_neg (by simp; omega)]
  simp only [Option.bind_some]
  by_cases h2:s.size>40
  ·refine .inr ⟨fun h=>by have:=h.2.1; omega,?_⟩
   rw [if_pos (by simp; omega)]
  ·rw [if_neg (by simp; omega)]
   obtain ⟨t,e,h⟩:=uT (b:=jJ s) (fun i j=>j=(i:Int)∧∀k,(hk:k< (bl s).length)→k<i→zK4 (bl s)[k]=true) (bl s).length (fun t=>match t with| .ret r=>r=5∧¬zHn s| .nxt _=>∀c∈bl s,zK4 c=true) (by
    rintro i j hi ⟨rfl,hp⟩
    have hs:=yO s
    unfold jJ
    rw [if_pos (by simp; omega),zE6 hi]
    simp only [Option.bind_some,zFp]
    cases hb:zK4 (bl s)[i] with
    |false=>exact .inr ⟨_,rfl,rfl,fun h=>by have:=h.2.2 _ (List.getElem_mem hi); rw [hb] at this; cases this⟩
    |true=>
     rw [zN (by omega)]
     refine .inl ⟨_,rfl,rfl,fun k hk hki=>?_⟩
     rcases Nat.lt_or_ge k i with h|h
     ·exact hp k hk h
     ·have:k=i:=by omega
      subst this; exact hb) (by
    rintro j ⟨rfl,hp⟩
    unfold jJ
    rw [if_neg (by simp [yO])]
    refine ⟨_,rfl,fun c hc=>?_⟩
    obtain ⟨k,hk,rfl⟩:=List.getElem_of_mem hc
    exact hp k hk hk) (bl s).length 0 0 (by omega) ⟨rfl,fun k _ h=>by omega⟩
   simp only [uS,e,Option.bind_some]
   cases t with
   |ret r=>
    obtain ⟨rfl,h⟩:=h
    exact .inr ⟨h,rfl⟩
   |nxt u=>exact .inl ⟨⟨by omega,by omega,h⟩,rfl⟩
theorem zHH (s:ByteArray):∃r,vC s=some r∧(r=0↔zHn s):=by
 rcases zHM s with ⟨h1,h2⟩|⟨h1,h2⟩
 ·exact ⟨0,h2,by simp [h1]⟩
 ·exact ⟨5,h2,by simp [h1]⟩
def total (fs:List File):Int:=match fs with
 |[]=>0
 |f::fs=>f.Data.length+total fs
theorem zFe:∀(l r:List File),total (l++r)=total l+total r
 |[],r=>by simp [total]
 |f::l,r=>by simp only [List.cons_append,total,zFe l r]; omega
theorem zEZ:∀(l:List File),0≤total l
 |[]=>Int.le_refl _
 |f::l=>by have:=zEZ l; simp only [total]; omega
theorem zLm:∀(l:List File) (C:Int),0≤C→(∀f∈l,(f.Data.length:Int)≤C)→total l≤l.length*C
 |[],C,_,_=>by simp [total]
 |f::l,C,hC,h=>by
  have h1:=h f (by simp)
  have h2:=zLm l C hC (fun g hg=>h g (by simp [hg]))
  simp only [total,List.length_cons,Int.natCast_add,Int.add_mul]
  omega
theorem zL6 (d:zC) (h:d.Files.length≤1048576) (hf:∀f∈d.Files,f.Data.length≤1048576):zC6 d=some (total d.Files):=by
 have htot:=zLm d.Files 1048576 (by omega) (fun f hm=>by have:=hf f hm; omega)
 have hb:((d.Files.length:Int))*1048576≤1048576*1048576:=Int.mul_le_mul_of_nonneg_right (by omega) (by omega)
 obtain ⟨t,e,rfl⟩:=uT (b:=zBA d) (fun i s=>s=(total (d.Files.take i),(i:Int))) d.Files.length (fun t=>t=total d.Files) (by
  rintro i s hi rfl
  unfold zBA
  rw [if_pos (by simp; omega)]
  have hsplit:total (d.Files.take (i+1))=total (d.Files.take i)+d.Files[i].Data.length :=by
   rw [List.take_succ_eq_append_getElem hi,zFe]
   simp [total]
  have hle:total d.Files=total (d.Files.take (i+1))+total (d.Files.drop (i+1)):=by rw [←zFe,List.take_append_drop]
  have h1:=zEZ (d.Files.take i)
  have h2:=zEZ (d.Files.drop (i+1))
  simp only [zM hi,Option.bind_some]
  rw [xS (by omega) (by omega),zN (by omega)]
  exact .inl ⟨_,rfl,by rw [hsplit]⟩) (by
  rintro s rfl
  unfold zBA
  rw [if_neg (by simp)]
  exact ⟨_,rfl,by simp⟩) d.Files.length 0 (0,0) (by omega) (by simp [total])
 simp only [zC6,zCp,e,Option.bind_some]
structure zC.good (d:zC):Prop where
 b0:0≤d.Budget
 b1:d.Budget≤20000
 w0:0≤d.Writes
 w1:d.Writes≤1000000000
 s0: -1≤d.Stop
 s1:d.Stop≤1000000000
 len:d.Files.length≤120
 path:∀f∈d.Files,zHn f.Path
 data:∀f∈d.Files,f.Data.length≤4000
 sorted:d.Files.Pairwise (fun f g=>slt f.Path g.Path=true)
 room:total d.Files≤d.Budget
theorem zH7 (d:zC):zAR d=vB d:=by
 unfold zAR vB
 have:kV d=uU d:=by
  unfold kV uU
  refine zFg fun i=>?_
  unfold zDy jN
  split
  ·cases hx:idx d.Files i with
   |none=>rfl
   |some x=>simp only [Option.bind_some,zJs]
  ·rfl
 rw [this]
 rfl
theorem zMM {xs:List File} (h:∀i,(hi:i+1<xs.length)→slt xs[i].Path xs[i+1].Path =true):xs.Pairwise (fun f g=>slt f.Path g.Path=true):=by
 induction xs with
 |nil=>exact .nil
 |cons x xs ih=>
  have h':∀i,(hi:i+1<xs.length)→slt xs[i].Path xs[i+1].Path =true:=fun i hi=>h (i+1) (by simp; omega)
  have ih':=ih h'
  refine .cons ?_ ih'
  cases xs with
  |nil=>simp
  |cons y ys=>
   have hxy:slt x.Path y.Path=true:=by simpa using h 0 (by simp)
   intro z hz
   rcases List.mem_cons.1 hz with rfl|hz
   ·exact hxy
   ·exact zDT hxy ((List.pairwise_cons.1 ih').1 z hz)
theorem zH8 (d:zC) (h:d.Files.length≤1048576):∃c,vB d=some c∧(c=0→d.good):=by
 unfold vB
 simp only [zPR,Option.bind_some]
 by_cases hB:0≤d.Budget∧d.Budget≤20000
 ·by_cases hW:0≤d.Writes∧d.Writes≤1000000000
  ·by_cases hS: -1≤d.Stop∧d.Stop≤1000000000
   ·simp [hB.1,hB.2,hW.1,hW.2,hS.1,hS.2]
    by_cases hl:120<d.Files.length
    ·rw [if_pos (by omega)]
     exact ⟨2,rfl,by simp⟩
    ·rw [if_neg (by omega)]
     obtain ⟨t,e,ht⟩:=uT (b:=jN d) (fun i s=>s=(i:Int)∧(∀j,(hj:j<d.Files.length)→j<i→zHn d.Files[j].Path ∧d.Files[j].Data.length ≤4000)∧∀j,(hj:j+1<d.Files.length)→j+1<i→slt d.Files[j].Path d.Files[j+1].Path =true) d.Files.length
      (fun t=>match t with| .ret r=>r≠0| .nxt _=>(∀f∈d.Files,zHn f.Path∧f.Data.length≤4000)∧d.Files.Pairwise (fun f g=>slt f.Path g.Path=true)) (by
      rintro i s hi ⟨rfl,h1,h2⟩
      unfold jN
      rw [if_pos (by simp; omega)]
      obtain ⟨r,hr,hr2⟩:=zHH d.Files[i].Path
      simp only [zM hi,Option.bind_some,hr]
      by_cases hr0:r=0
      ·subst hr0
       rw [if_neg (by simp)]
       have key:∃q,(if decide ((i:Int)>0) then (idx d.Files (w64 ((i:Int)-1))).bind fun x39=>some (slt d.Files[i].Path x39.Path||seq d.Files[i].Path x39.Path) else some false)=some q∧(q=false→∀j,(hj:j+1<d.Files.length)→j+1<i+1→slt d.Files[j].Path d.Files[j+1].Path =true):=by
        by_cases hp:i=0
        ·subst hp
         exact ⟨false,by simp,fun _ j hj hji=>by omega⟩
        ·rw [if_pos (by simp; omega),xS (by omega) (by omega),show ((i:Int)-1)=((i-1:Nat):Int) by omega,zM (show i-1<d.Files.length by omega)]
         refine ⟨_,rfl,fun hq j hj hji=>?_⟩
         rcases Nat.lt_or_ge (j+1) i with hlt|hge
         ·exact h2 j hj hlt
         ·have hj1:j+1=i:=by omega
          subst hj1
          simp only [Bool.or_eq_false_iff] at hq
          have hq1:=hq.1
          have hq2:d.Files[j+1].Path ≠d.Files[j].Path :=fun e=>by
           have:=hq.2
           simp only [Nat.add_sub_cancel] at this
           rw [e] at this
           simp at this
          simp only [Nat.add_sub_cancel] at hq1
          exact zPi hq1 hq2
       obtain ⟨q,hq,hq2⟩:=key
       rw [hq]
       simp only [Option.bind_some]
       cases q with
       |true=>exact .inr ⟨_,rfl,by simp⟩
       |false=>
        by_cases hd:(d.Files[i].Data.length :Int)>4000
        ·exact .inr ⟨.ret 2,by rw [if_neg (by simp),if_pos (by simpa using hd)],by simp⟩
        ·refine .inl ⟨((i+1:Nat):Int),?_,rfl,fun j hj hji=>?_,hq2 rfl⟩
         ·rw [if_neg (by simp),if_neg (by simpa using hd),zN (by omega)]
         ·rcases Nat.lt_or_ge j i with h'|h'
          ·exact h1 j hj h'
          ·have:j=i:=by omega
           subst this
           exact ⟨hr2.1 rfl,by omega⟩
      ·rw [if_pos (by simpa using hr0)]
       exact .inr ⟨_,rfl,hr0⟩) (by
      rintro s ⟨rfl,h1,h2⟩
      unfold jN
      rw [if_neg (by simp)]
      refine ⟨_,rfl,fun f hf=>?_,zMM (fun i hi=>h2 i hi hi)⟩
      obtain ⟨j,hj,rfl⟩:=List.getElem_of_mem hf
      exact h1 j hj hj) d.Files.length 0 0 (by omega) ⟨rfl,fun j _ h=>by omega,fun j _ h=>by omega⟩
     simp only [uU,e,Option.bind_some]
     cases t with
     |ret r=>exact ⟨r,rfl,fun h=>absurd h ht⟩
     |nxt u=>
      simp only [Fl.go]
      rw [zL6 d h (fun f hf=>by have:=(ht.1 f hf).2; omega)]
      simp only [Option.bind_some]
      by_cases hr:d.Budget<total d.Files
      ·rw [if_pos hr]
       exact ⟨8,rfl,by simp⟩
      ·rw [if_neg hr]
       exact ⟨0,rfl,fun _=>⟨hB.1,hB.2,hW.1,hW.2,hS.1,hS.2,by omega,fun f hf=>(ht.1 f hf).1,fun f hf=>(ht.1 f hf).2,ht.2,by omega⟩⟩
   ·refine ⟨3,?_,by simp⟩
    simp [hB.1,hB.2,hW.1,hW.2]
    intro a b
    exact absurd ⟨a,b⟩ hS
  ·refine ⟨3,?_,by simp⟩
   simp [hB.1,hB.2]
   rw [if_pos (by omega)]
   rfl
 ·refine ⟨3,?_,by simp⟩
  rw [if_pos (by simp; omega)]
  rfl
def zC.fits (d:zC):Prop:=d.Files.length≤1048576∧∀f∈d.Files,f.Data.length≤1048576
theorem zC.zMQ {d:zC} (h:zC.sm 1048576 d):d.fits:=⟨h.1.1,fun f hf=>(h.1.2 f hf).2.1⟩
theorem zJh (d:zC) (h:d.fits):zBx d=some d:=by
 obtain ⟨h1,h2⟩:=h
 obtain ⟨t,e,rfl⟩:=uT (b:=zBj d) (fun i s=>s=(d.Files.take i,(i:Int))) d.Files.length (fun t=>t=d.Files) (by
  rintro i s hi rfl
  have hl:(d.Files.take i).length =i:=by simp; omega
  have hd:=h2 _ (List.getElem_mem hi)
  have ha:app 1 ([]:List Int) d.Files[i].Data =some d.Files[i].Data :=zBe (by simp; omega) (by simp; omega)
  have hb:∀f:File,app 40 (d.Files.take i) [f]=some (d.Files.take i++[f]):=fun f=>zBe (by simp; omega) (by simp; omega)
  unfold zBj
  rw [if_pos (by simp; omega)]
  simp only [zM hi,Option.bind_some,ha,hb,zN (show i<9223372036854775807 by omega)]
  exact .inl ⟨_,rfl,by rw [List.take_succ_eq_append_getElem hi]⟩) (by
  rintro s rfl
  unfold zBj
  rw [if_neg (by simp)]
  exact ⟨_,rfl,by simp⟩) d.Files.length 0 ([],0) (by omega) (by simp)
 simp only [zBx,zAX,e,Option.bind_some]
theorem zLU (d:zC):uN d=zBx d:=by
 have:tL d=zAX d:=by
  unfold tL zAX
  refine zFg fun s=>?_
  unfold zCN zBj jO
  split
  ·cases h:idx d.Files s.2 with
   |none=>rfl
   |some x=>
    simp only [Option.bind_some]
    cases h2:app 1 ([]:List Int) x.Data<;>rfl
  ·rfl
 unfold uN zBx
 rw [this]
theorem zNd (d:zC) (h:d.fits):uN d=some d:=by rw [zLU,zJh d h]
def zOo (c:Int):zI:= {Code:=c,zC:= {Files:=[],Budget:=0,Writes:=0,Stop:=0,Down:=false}}
theorem zNX (c:Int):zI.sm 1049600 (zOo c):=by simp [zI.sm,zC.sm,zOo]
theorem zNt (s p:ByteArray):strings_HasPrefix s p=tY s p:=by
 unfold strings_HasPrefix xC tY
 split
 ·cases zHS s 0 (p.size:Int)<;>rfl
 ·rfl
def begins (s p:ByteArray):Bool:=decide (p.size≤s.size)&&seq (s.extract 0 p.size) p
theorem zKB (s p:ByteArray):tY s p=some (begins s p):=by
 unfold tY begins
 by_cases h:p.size≤s.size
 ·rw [if_pos (by simp; omega)]
  unfold zHS
  rw [if_pos (by omega)]
  simp [h]
 ·rw [if_neg (by simp; omega)]
  simp [h]
theorem zIf (d:zC) (p:ByteArray):uF d p=uO d p:=by
 have:jM d p=jD d p:=by
  unfold jM jD
  refine zFg fun s=>?_
  unfold zDu jP
  split
  ·cases h:idx d.Files s.2 with
   |none=>rfl
   |some x=>simp only [Option.bind_some,zNt]
  ·rfl
 unfold uF uO
 rw [this]
def xW (fs:List File) (p:ByteArray):List ByteArray:=(fs.filter (fun f=>begins f.Path p)).map (·.Path)
theorem zHK (l r:List File) (p:ByteArray):xW (l++r) p=xW l p++xW r p:=by
 simp [xW]
theorem zBR (l:List File) (p:ByteArray):(xW l p).length ≤l.length:=by
 simp only [xW,List.length_map]
 exact List.length_filter_le _ _
theorem zGh (d:zC) (p:ByteArray) (h:d.Files.length≤1048576):uO d p=some (xW d.Files p):=by
 obtain ⟨t,e,rfl⟩:=uT (b:=jP d p) (fun i s=>s=(xW (d.Files.take i) p,(i:Int))) d.Files.length (fun t=>t=xW d.Files p) (by
  rintro i s hi rfl
  unfold jP
  rw [if_pos (by simp; omega)]
  have hl:=zBR (d.Files.take i) p
  have hl2:(d.Files.take i).length ≤i:=by simp; omega
  have ha:∀x:ByteArray,app 16 (xW (d.Files.take i) p) [x]=some (xW (d.Files.take i) p++[x]):=fun x=>zBe (by simp; omega) (by simp; omega)
  have hsplit:xW (d.Files.take (i+1)) p=xW (d.Files.take i) p++xW [d.Files[i]] p:=by
   rw [List.take_succ_eq_append_getElem hi,zHK]
  simp only [zM hi,Option.bind_some,zKB,ha,zN (show i<9223372036854775807 by omega)]
  cases hb:begins d.Files[i].Path p with
  |true=>exact .inl ⟨_,rfl,by rw [hsplit]; simp [xW,hb]⟩
  |false=>exact .inl ⟨_,rfl,by rw [hsplit]; simp [xW,hb]⟩) (by
  rintro s rfl
  unfold jP
  rw [if_neg (by simp)]
  exact ⟨_,rfl,by simp⟩) d.Files.length 0 ([],0) (by omega) (by simp [xW])
 simp only [uO,jD,e,Option.bind_some]
theorem zIS:∀(a b:List UInt8),(Lib.compareBytes a b<0↔Op.bytesLess a b=true)∧(Lib.compareBytes a b=0↔a=b)
 |[],[]=>by simp [Lib.compareBytes,Op.bytesLess]
 |[],_::_=>by simp [Lib.compareBytes,Op.bytesLess]
 |_::_,[]=>by simp [Lib.compareBytes,Op.bytesLess]
 |x::a,y::b=>by
  obtain ⟨ih1,ih2⟩:=zIS a b
  simp only [Lib.compareBytes,Op.bytesLess]
  by_cases h1:x<y
  ·simp [h1]
   intro e; subst e; exact absurd h1 (by simp [UInt8.lt_irrefl])
  ·by_cases h2:y<x
   ·simp [h1,h2]
    have hne:x≠y:=fun e=>by subst e; exact absurd h2 (by simp [UInt8.lt_irrefl])
    simp [hne]
   ·have e:x=y:=by
     rw [UInt8.lt_iff_toNat_lt] at h1 h2
     exact UInt8.toNat_inj.1 (by omega)
    subst e
    simp [UInt8.lt_irrefl,ih1,ih2]
theorem zKS (a b:ByteArray):zN6 a b<0↔slt a b=true:=by
 unfold zN6 slt
 rw [ByteArray.toList_eq,ByteArray.toList_eq]
 exact (zIS _ _).1
theorem zM1 (a b:ByteArray):zN6 a b=0↔a=b:=by
 unfold zN6
 rw [(zIS _ _).2,←ByteArray.toList_eq,←ByteArray.toList_eq]
 exact ⟨toList_inj,fun e=>by rw [e]⟩
theorem zOY {i j:Int} (h0:0≤i) (h1:i≤j) (h2:j≤4611686018427387903):w64 ((IntKind.u64.wrap (w64 (i+j))).fdiv (2^(min (1:Int).toNat 64)))=(i+j) / 2:=by
 rw [xS (x:=i+j) (by omega) (by omega)]
 have e1:IntKind.u64.wrap (i+j)=i+j:=by
  simp only [IntKind.wrap,IntKind.signed,IntKind.bits]
  simp
  omega
 rw [e1]
 have e2:((2:Int)^(min (1:Int).toNat 64))=2:=by decide
 rw [e2,Int.fdiv_eq_ediv_of_nonneg _ (by omega)]
 exact xS (by omega) (by omega)
theorem zIk (f:File) (p:ByteArray):vR f p=some (zN6 f.Path p):=rfl
theorem zMk (fs:List File) (p:ByteArray) (h:fs.length≤1048576):
  ∃(k:Nat) (b:Bool),zK fs p=some ((k:Int),b)∧k≤fs.length∧(b=true→∃hk:k<fs.length,fs[k].Path =p)∧
   (fs.Pairwise (fun f g=>slt f.Path g.Path=true)→(∀i,(hi:i<fs.length)→i<k→slt fs[i].Path p=true)∧(∀i,(hi:i<fs.length)→k≤i→slt fs[i].Path p=false)∧(b=false→∀f∈fs,f.Path≠p)):=by
 obtain ⟨t,e,k,rfl,hk,hs⟩:=zJu (b:=yC fs p)
  (fun s=>∃i j:Nat,s=((i:Int),(j:Int))∧i≤j∧j≤fs.length∧(fs.Pairwise (fun f g=>slt f.Path g.Path=true)→(∀q,(hq:q<fs.length)→q<i→slt fs[q].Path p=true)∧(∀q,(hq:q<fs.length)→j≤q→slt fs[q].Path p=false)))
  (fun s=>(s.2-s.1).toNat)
  (fun t=>∃k:Nat,t=(k:Int)∧k≤fs.length∧(fs.Pairwise (fun f g=>slt f.Path g.Path=true)→(∀q,(hq:q<fs.length)→q<k→slt fs[q].Path p=true)∧(∀q,(hq:q<fs.length)→k≤q→slt fs[q].Path p=false))) (by
  rintro s ⟨i,j,rfl,hij,hj,hP⟩
  unfold yC
  by_cases hlt:i<j
  ·left
   rw [if_pos (by simp; omega)]
   simp only
   rw [zOY (by omega) (by omega) (by omega)]
   have hm:(((i:Int)+(j:Int)) / 2)=(((i+j) / 2:Nat):Int):=by omega
   rw [hm]
   have hmj:(i+j) / 2<j:=by omega
   have him:i≤(i+j) / 2:=by omega
   generalize (i+j) / 2=m at*
   have hmn:m<fs.length:=by omega
   simp only [zM hmn,Option.bind_some,zIk]
   by_cases hc:zN6 fs[m].Path p<0
   ·rw [if_pos (by simpa using hc),zN (by omega)]
    refine ⟨_,rfl,⟨m+1,j,rfl,by omega,hj,fun hso=>?_⟩,by simp; omega⟩
    obtain ⟨g1,g2⟩:=hP hso
    refine ⟨fun q hq hqm=>?_,g2⟩
    have hl:=(zKS _ _).1 hc
    rcases Nat.lt_or_ge q m with h'|h'
    ·exact zDT (List.pairwise_iff_getElem.1 hso q m hq hmn h') hl
    ·have:q=m:=by omega
     subst this; exact hl
   ·rw [if_neg (by simpa using hc)]
    refine ⟨_,rfl,⟨i,m,rfl,by omega,by omega,fun hso=>?_⟩,by simp; omega⟩
    obtain ⟨g1,g2⟩:=hP hso
    refine ⟨g1,fun q hq hmq=>?_⟩
    have hl:slt fs[m].Path p=false:=by
     cases h':slt fs[m].Path p with
     |false=>rfl
     |true=>exact absurd ((zKS _ _).2 h') hc
    rcases Nat.lt_or_ge m q with h'|h'
    ·cases hq2:slt fs[q].Path p with
     |false=>rfl
     |true=>
      have:=zDT (List.pairwise_iff_getElem.1 hso m q hmn hq h') hq2
      rw [hl] at this; cases this
    ·have:q=m:=by omega
     subst this; exact hl
  ·right
   rw [if_neg (by simp; omega)]
   have:i=j:=by omega
   subst this
   exact ⟨_,rfl,i,rfl,by omega,hP⟩) fs.length (0,(fs.length:Int)) (by simp) ⟨0,fs.length,rfl,by omega,by omega,fun _=>⟨fun q _ h=>by omega,fun q hq h=>by omega⟩⟩
 unfold zK
 rw [show zU fs p (0,(fs.length:Int))=some (k:Int) from e]
 simp only [Option.bind_some]
 by_cases hkn:k<fs.length
 ·rw [if_pos (by simpa using hkn)]
  simp only [zM hkn,Option.bind_some,zIk]
  refine ⟨k,_,rfl,hk,fun hb=>⟨hkn,(zM1 _ _).1 (by simpa using hb)⟩,fun hso=>⟨(hs hso).1,(hs hso).2,fun hb f hf hfp=>?_⟩⟩
  have hne:zN6 fs[k].Path p≠0:=by simpa using hb
  obtain ⟨q,hq,rfl⟩:=List.getElem_of_mem hf
  rcases Nat.lt_trichotomy q k with h'|h'|h'
  ·have:=(hs hso).1 q hq h'
   rw [hfp,zDI] at this; cases this
  ·subst h'; exact hne ((zM1 _ _).2 hfp)
  ·have h1:=List.pairwise_iff_getElem.1 hso k q hkn hq h'
   have h2:=(hs hso).2 k hkn (Nat.le_refl _)
   rw [hfp] at h1
   rw [h1] at h2; cases h2
 ·rw [if_neg (by simpa using hkn)]
  refine ⟨k,false,rfl,hk,(fun hb=>by cases hb),fun hso=>⟨(hs hso).1,(hs hso).2,fun _ f hf hfp=>?_⟩⟩
  obtain ⟨q,hq,rfl⟩:=List.getElem_of_mem hf
  have:=(hs hso).1 q hq (by omega)
  rw [hfp,zDI] at this; cases this
theorem zKa (d:zC) (p:ByteArray) (h:d.Files.length≤1048576):
  (∃k:Nat,∃hk:k<d.Files.length,yK d p=some (k:Int)∧d.Files[k].Path =p)∨(yK d p=some (-1)∧∀f∈d.Files,f.Path≠p):=by
 obtain ⟨t,e,ht⟩:=uT (b:=zAj d p) (fun i s=>s=(i:Int)∧∀q,(hq:q<d.Files.length)→q<i→d.Files[q].Path ≠p) d.Files.length
  (fun t=>match t with| .ret r=>∃k:Nat,∃hk:k<d.Files.length,r=(k:Int)∧d.Files[k].Path =p| .nxt _=>∀f∈d.Files,f.Path≠p) (by
  rintro i s hi ⟨rfl,hq⟩
  unfold zAj
  rw [if_pos (by simp; omega)]
  simp only [zM hi,Option.bind_some]
  by_cases hp:d.Files[i].Path =p
  ·rw [if_pos (zGr.2 hp)]
   exact .inr ⟨_,rfl,i,hi,rfl,hp⟩
  ·rw [if_neg (fun h'=>hp (zGr.1 h')),zN (by omega)]
   refine .inl ⟨_,rfl,rfl,fun q hq' hqi=>?_⟩
   rcases Nat.lt_or_ge q i with h'|h'
   ·exact hq q hq' h'
   ·have:q=i:=by omega
    subst this; exact hp) (by
  rintro s ⟨rfl,hq⟩
  unfold zAj
  rw [if_neg (by simp)]
  refine ⟨_,rfl,fun f hf=>?_⟩
  obtain ⟨q,hq',rfl⟩:=List.getElem_of_mem hf
  exact hq q hq' hq') d.Files.length 0 0 (by omega) ⟨rfl,fun q _ h=>by omega⟩
 unfold yK
 rw [show zAW d p 0=some t from e]
 cases t with
 |ret r=>
  obtain ⟨k,hk,rfl,hp⟩:=ht
  exact .inl ⟨k,hk,rfl,hp⟩
 |nxt _=>exact .inr ⟨rfl,ht⟩
theorem zHQ {fs:List File} (hs:fs.Pairwise (fun f g=>slt f.Path g.Path=true)) {i j:Nat} (hi:i<fs.length) (hj:j<fs.length) (h:fs[i].Path =fs[j].Path):i=j:=by
 rcases Nat.lt_trichotomy i j with h'|h'|h'
 ·have:=List.pairwise_iff_getElem.1 hs i j hi hj h'
  rw [h,zDI] at this; cases this
 ·exact h'
 ·have:=List.pairwise_iff_getElem.1 hs j i hj hi h'
  rw [h,zDI] at this; cases this
theorem zHT (d:zC) (p:ByteArray) (hl0:d.Files.length≤120) (hso:d.Files.Pairwise (fun f g=>slt f.Path g.Path=true)):
  (∃k:Nat,∃hk:k<d.Files.length,yK d p=some (k:Int)∧zK d.Files p=some ((k:Int),true)∧d.Files[k].Path =p)∨
   (yK d p=some (-1)∧(∀f∈d.Files,f.Path≠p)∧∃k:Nat,zK d.Files p=some ((k:Int),false)∧k≤d.Files.length∧(∀i,(hi:i<d.Files.length)→i<k→slt d.Files[i].Path p=true)∧(∀i,(hi:i<d.Files.length)→k≤i→slt d.Files[i].Path p=false)):=by
 have hl:d.Files.length≤1048576:=by omega
 obtain ⟨k,b,e,hk,h1,h2⟩:=zMk d.Files p hl
 obtain ⟨g1,g2,g3⟩:=h2 hso
 rcases zKa d p hl with ⟨q,hq,e2,hp⟩|⟨e2,hp⟩
 ·left
  cases b with
  |false=>exact absurd hp (g3 rfl _ (List.getElem_mem hq))
  |true=>
   obtain ⟨hk',hp'⟩:=h1 rfl
   have:q=k:=zHQ hso hq hk' (by rw [hp,hp'])
   subst this
   exact ⟨q,hq,e2,e,hp⟩
 ·right
  cases b with
  |true=>
   obtain ⟨hk',hp'⟩:=h1 rfl
   exact absurd hp' (hp _ (List.getElem_mem hk'))
  |false=>exact ⟨e2,hp,k,e,hk,g1,g2⟩
theorem zL3 (d:zC) (p:ByteArray) (hl0:d.Files.length≤120) (hso:d.Files.Pairwise (fun f g=>slt f.Path g.Path=true)):
  (∃k:Nat,∃hk:k<d.Files.length,yK d p=some (k:Int)∧yR d p=some (d.Files[k].Data,true)∧d.Files[k].Path =p)∨
   (yK d p=some (-1)∧yR d p=some ([],false)∧∀f∈d.Files,f.Path≠p):=by
 rcases zHT d p hl0 hso with ⟨k,hk,e1,e2,hp⟩|⟨e1,hp,k,e2,_⟩
 ·left
  refine ⟨k,hk,e1,?_,hp⟩
  unfold yR wZ
  rw [e2]
  simp only [Option.bind_some,Bool.not_true,Bool.false_eq_true,if_false,zM hk]
 ·right
  refine ⟨e1,?_,hp⟩
  unfold yR wZ
  rw [e2]
  rfl
theorem zFH (d:zC) (p:ByteArray) (hg:d.good):
 (∃k:Nat,∃hk:k<d.Files.length,yK d p=some (k:Int)∧yR d p=some (d.Files[k].Data,true)∧d.Files[k].Path =p)∨
  (yK d p=some (-1)∧yR d p=some ([],false)∧∀f∈d.Files,f.Path≠p):=zL3 d p hg.len hg.sorted
theorem zGK {P:List Int→Prop} (h0:P []) (h1:∀l c,P l→P (l++[c])) (l:List Int):P l:=by
 have key:∀m:List Int,P m.reverse:=by
  intro m
  induction m with
  |nil=>exact h0
  |cons c m ih=>rw [List.reverse_cons]; exact h1 _ c ih
 have:=key l.reverse
 rwa [List.reverse_reverse] at this
def zFW (c:Int):Bool:=decide (c≥48)&&decide (c≤57)
def val (l:List Int):Int:=l.foldl (fun a c=>a*10+(c-48)) 0
theorem zFn (l:List Int) (c:Int):val (l++[c])=val l*10+(c-48):=by simp [val]
theorem zDW {l:List Int} (h:∀c∈l,zFW c=true):0≤val l∧val l<10^l.length:=by
 revert h
 refine zGK (P:=fun l=>(∀c∈l,zFW c=true)→0≤val l∧val l<10^l.length) ?_ ?_ l
 ·intro _; simp [val]
 ·intro l c ih h
  obtain ⟨h1,h2⟩:=ih (fun x hx=>h x (by simp [hx]))
  have hc:=h c (by simp)
  simp only [zFW,Bool.and_eq_true,decide_eq_true_eq] at hc
  rw [zFn,List.length_append,List.length_singleton,Int.pow_succ]
  omega
def zH3 (l:List Int) (most:Int):Option Int:=if l.length<1∨(l.length:Int)>most∨¬(∀c∈l,zFW c=true) then none else some (val l)
theorem zLg {n:Nat} (h:n≤17):(10:Int)^n≤100000000000000000:=by
 have:(10:Nat)^n≤10^17:=Nat.pow_le_pow_right (by omega) h
 have e:((10^n:Nat):Int)=(10:Int)^n:=by simp
 rw [←e]
 omega
theorem zHu (c:Int):vN c=some (zFW c):=by
 unfold vN zFW
 cases decide (c≥48)<;>rfl
theorem zEA (s:ByteArray) (most:Int) (hm:most≤17):wF s most=some (match zH3 (bl s) most with|some n=>(n,true)|none=>(0,false)):=by
 unfold wF zH3
 have hl:=yO s
 by_cases h1:s.size<1
 ·rw [if_pos (by simp; omega),if_pos (by omega)]
  rfl
 ·rw [if_neg (by simp; omega)]
  simp only [Option.bind_some]
  by_cases h2:(s.size:Int)>most
  ·rw [if_pos (by simpa using h2),if_pos (by omega)]
  ·rw [if_neg (by simpa using h2)]
   obtain ⟨t,e,ht⟩:=uT (b:=zBf s) (fun i q=>q=(val ((bl s).take i),(i:Int))∧∀c∈(bl s).take i,zFW c=true) (bl s).length
    (fun t=>match t with| .ret r=>r=(0,false)∧¬ ∀c∈bl s,zFW c=true| .nxt v=>v=val (bl s)∧∀c∈bl s,zFW c=true) (by
    rintro i q hi ⟨rfl,hd⟩
    have hb:=zDW hd
    have hlen:((bl s).take i).length ≤17:=by simp; omega
    have hp:=zLg hlen
    have hr:=zI0 _ (List.getElem_mem hi)
    unfold zBf
    rw [if_pos (by simp; omega)]
    simp only [zE6 hi,Option.bind_some,zHu]
    cases hc:zFW (bl s)[i] with
    |false=>exact .inr ⟨_,rfl,rfl,fun h=>by have:=h _ (List.getElem_mem hi); rw [hc] at this; cases this⟩
    |true=>
     have hc':=hc
     simp only [zFW,Bool.and_eq_true,decide_eq_true_eq] at hc'
     rw [wrap_u8 (by omega) (by omega),xS (x:=(bl s)[i]-48) (by omega) (by omega),xS (x:=val ((bl s).take i)*10) (by omega) (by omega),xS (by omega) (by omega),zN (by omega)]
     refine .inl ⟨_,rfl,by rw [List.take_succ_eq_append_getElem hi,zFn],fun c hcm=>?_⟩
     rw [List.take_succ_eq_append_getElem hi] at hcm
     rcases List.mem_append.1 hcm with h|h
     ·exact hd c h
     ·simp at h; rw [h]; exact hc) (by
    rintro q ⟨rfl,hd⟩
    unfold zBf
    rw [if_neg (by simp; omega)]
    rw [List.take_length] at hd ⊢
    exact ⟨_,rfl,rfl,hd⟩) (bl s).length 0 (0,0) (by omega) ⟨by simp [val],by simp⟩
   unfold zBE
   rw [e]
   cases t with
   |ret r=>
    obtain ⟨rfl,h⟩:=ht
    rw [if_pos (.inr (.inr h))]
    rfl
   |nxt v=>
    obtain ⟨rfl,h⟩:=ht
    rw [if_neg (fun h'=>by rcases h' with h'|h'|h'<;>first|omega|exact h' h)]
    rfl
theorem number_eq (s:ByteArray) (most:Int) (hm:most≤17):zAt s most=some (match zH3 (bl s) most with|some n=>n|none=> -1):=by
 unfold zAt zH3
 have hl:=yO s
 have he:seq s (bs [])=decide (s.size<1):=by
  rw [zO4,zKT,List.map_nil]
  rw [Bool.eq_iff_iff]
  simp only [decide_eq_true_eq]
  constructor
  ·intro h; rw [h] at hl; simp at hl; omega
  ·intro h; exact List.eq_nil_of_length_eq_zero (by omega)
 rw [he]
 by_cases h1:s.size<1
 ·rw [if_pos (by simpa using h1),if_pos (by omega)]
  rfl
 ·rw [if_neg (by simpa using h1)]
  simp only [Option.bind_some]
  by_cases h2:(s.size:Int)>most
  ·rw [if_pos (by simpa using h2),if_pos (by omega)]
  ·rw [if_neg (by simpa using h2)]
   obtain ⟨t,e,ht⟩:=uT (b:=zCz s) (fun i q=>q=(val ((bl s).take i),(i:Int))∧∀c∈(bl s).take i,zFW c=true) (bl s).length
    (fun t=>match t with| .ret r=>r= -1∧¬ ∀c∈bl s,zFW c=true| .nxt v=>v=val (bl s)∧∀c∈bl s,zFW c=true) (by
    rintro i q hi ⟨rfl,hd⟩
    have hb:=zDW hd
    have hlen:((bl s).take i).length ≤17:=by simp; omega
    have hp:=zLg hlen
    have hr:=zI0 _ (List.getElem_mem hi)
    unfold zCz
    rw [if_pos (by simp; omega)]
    simp only [zE6 hi,Option.bind_some]
    have hq:(if decide ((bl s)[i]<48)=true then some true else some (decide ((bl s)[i]>57)))=some (!zFW (bl s)[i]):=by
     unfold zFW
     by_cases a:(bl s)[i]<48
     ·have b:¬((bl s)[i]≥48):=by omega
      simp [a,b]
     ·have b:(bl s)[i]≥48:=by omega
      by_cases c:(bl s)[i]>57
      ·have d:¬((bl s)[i]≤57):=by omega
       simp [a,b,c,d]
      ·have d:(bl s)[i]≤57:=by omega
       simp [a,b,c,d]
    rw [hq]
    simp only [Option.bind_some]
    cases hc:zFW (bl s)[i] with
    |false=>exact .inr ⟨_,rfl,rfl,fun h=>by have:=h _ (List.getElem_mem hi); rw [hc] at this; cases this⟩
    |true=>
     have hc':=hc
     simp only [zFW,Bool.and_eq_true,decide_eq_true_eq] at hc'
     rw [wrap_u8 (by omega) (by omega),xS (x:=(bl s)[i]-48) (by omega) (by omega),xS (x:=10*val ((bl s).take i)) (by omega) (by omega),xS (by omega) (by omega),zN (by omega)]
     refine .inl ⟨_,rfl,by rw [List.take_succ_eq_append_getElem hi,zFn,Int.mul_comm],fun c hcm=>?_⟩
     rw [List.take_succ_eq_append_getElem hi] at hcm
     rcases List.mem_append.1 hcm with h|h
     ·exact hd c h
     ·simp at h; rw [h]; exact hc) (by
    rintro q ⟨rfl,hd⟩
    unfold zCz
    rw [if_neg (by simp; omega)]
    rw [List.take_length] at hd ⊢
    exact ⟨_,rfl,rfl,hd⟩) (bl s).length 0 (0,0) (by omega) ⟨by simp [val],by simp⟩
   unfold zCO
   rw [e]
   cases t with
   |ret r=>
    obtain ⟨rfl,h⟩:=ht
    rw [if_pos (.inr (.inr h))]
    rfl
   |nxt v=>
    obtain ⟨rfl,h⟩:=ht
    rw [if_neg (fun h'=>by rcases h' with h'|h'|h'<;>first|omega|exact h' h)]
    rfl
theorem zOg {l:List Int} (h:∀c∈l,zFW c=true):zFw (10^l.length+(val l).toNat)=49::l:=by
 revert h
 refine zGK (P:=fun l=>(∀c∈l,zFW c=true)→zFw (10^l.length+(val l).toNat)=49::l) ?_ ?_ l
 ·intro _; rw [zBs (by decide)]; rfl
 ·intro l c ih h
  have hl:∀c∈l,zFW c=true:=fun x hx=>h x (by simp [hx])
  have hb:=zDW hl
  have hc:=h c (by simp)
  simp only [zFW,Bool.and_eq_true,decide_eq_true_eq] at hc
  have e1:(val (l++[c])).toNat =(val l).toNat *10+(c-48).toNat :=by rw [zFn]; omega
  have e2:10^(l++[c]).length =10^l.length*10:=by rw [List.length_append,List.length_singleton,Nat.pow_succ]
  have hp:1≤10^l.length:=Nat.one_le_pow _ _ (by omega)
  rw [e1,e2,zEd (by omega)]
  have e3:(10^l.length*10+((val l).toNat *10+(c-48).toNat)) / 10=10^l.length+(val l).toNat :=by omega
  have e4:(10^l.length*10+((val l).toNat *10+(c-48).toNat))%10=(c-48).toNat :=by omega
  rw [e3,e4,ih hl,List.cons_append]
  congr 3
  omega
def zOs:List Int:=[103,101,110,47]
theorem zJr:bl (bs [103,101,110,47])=zOs:=zKT _
theorem zLC (n:Int):∃s,wH n=some s∧bl s=(if 1≤n∧n≤999999 then zOs++(zFw (1000000+n.toNat)).drop 1 else []):=by
 unfold wH
 rw [zPR]
 simp only [Option.bind_some]
 by_cases h:1≤n∧n≤999999
 ·rw [if_pos h]
  have hb:(decide (n≥1)&&decide (n≤999999))=true:=by simp; omega
  rw [hb]
  rw [xS (by omega) (by omega),show (1000000:Int)+n=((1000000+n.toNat:Nat):Int) by omega]
  obtain ⟨s,e,hs⟩:=zFx (1000000+n.toNat) (by omega)
  have hlen:(zFw (1000000+n.toNat)).length =7:=zF8 6 _ (by omega) (by omega)
  have hsz:s.size=7:=by rw [←yO,hs,hlen]
  rw [e]
  simp only [Bool.not_true,Bool.false_eq_true,if_false,Option.bind_some]
  unfold zHS
  rw [if_pos (by omega)]
  simp only [Option.bind_some]
  have hx:(s.extract (1:Int).toNat ((s.size:Int)).toNat).size =6:=by
   rw [←yO,zDv,List.length_take,List.length_drop,hs,hlen,hsz]
   rfl
  unfold cat
  rw [if_pos (by have:(bs [103,101,110,47]).size =4:=rfl; omega)]
  refine ⟨_,rfl,?_⟩
  rw [zDR,zJr,zDv,hs]
  congr 1
  rw [List.take_of_length_le (by rw [List.length_drop,hlen,hsz]; decide)]
  rfl
 ·rw [if_neg h]
  have hb:(decide (n≥1)&&decide (n≤999999))=false:=by
   simp only [Bool.and_eq_false_iff,decide_eq_false_iff_not]; omega
  rw [hb]
  exact ⟨_,rfl,zKT _⟩
def zDw (l:List Int):Option Int:=match zH3 (l.drop 4) 6 with
 |some n=>if n≥1∧l.length=10 then some n else none
 |none=>none
theorem zNe {l:List Int} (hp:l.take 4=zOs) (hl:4≤l.length) {n:Int} (h:zH3 (l.drop 4) 6=some n):
  (if 1≤n∧n≤999999 then zOs++(zFw (1000000+n.toNat)).drop 1 else [])=l↔(n≥1∧l.length=10):=by
 unfold zH3 at h
 split at h
 ·cases h
 ·rename_i hc
  cases h
  have hc1:1≤(l.drop 4).length :=by omega
  have hc2:(l.drop 4).length ≤6:=by omega
  have hd:∀c∈l.drop 4,zFW c=true:=Classical.byContradiction fun h=>hc (.inr (.inr h))
  have hb:=zDW hd
  have hle:val (l.drop 4)≤999999:=by
   have:(10:Nat)^(l.drop 4).length ≤10^6:=Nat.pow_le_pow_right (by omega) hc2
   have e:(((10:Nat)^(l.drop 4).length :Nat):Int)=(10:Int)^(l.drop 4).length :=by simp
   omega
  have hll:l.length=4+(l.drop 4).length :=by simp; omega
  by_cases hn:1≤val (l.drop 4)
  ·rw [if_pos ⟨hn,hle⟩]
   constructor
   ·intro e
    refine ⟨hn,?_⟩
    rw [←e,List.length_append,List.length_drop,zF8 6 _ (by omega) (by omega)]
    rfl
   ·rintro ⟨_,h10⟩
    have h6:(l.drop 4).length =6:=by omega
    have key:=zOg hd
    rw [h6,show (10:Nat)^6=1000000 from rfl] at key
    rw [key,←hp]
    simp
  ·rw [if_neg (by omega)]
   constructor
   ·intro e
    rw [←e] at hll
    simp at hll
   ·rintro ⟨h',_⟩; omega
theorem zEx {s p:ByteArray} (h:begins s p=true):(bl s).take (bl p).length =bl p∧(bl p).length ≤(bl s).length :=by
 unfold begins at h
 simp only [Bool.and_eq_true,decide_eq_true_eq] at h
 have:=zGr.1 h.2
 refine ⟨?_,by rw [yO,yO]; exact h.1⟩
 have e:=congrArg bl this
 rw [zDv] at e
 simpa [yO] using e
theorem zDH {fs:List File} {p:ByteArray}:∀s∈xW fs p,begins s p=true:=by
 intro s hs
 unfold xW at hs
 obtain ⟨f,hf,rfl⟩:=List.mem_map.1 hs
 exact (List.mem_filter.1 hf).2
def kG (fs:List File):List Int:=(xW fs (bs [103,101,110,47])).filterMap (fun p=>zDw (bl p))
theorem zHp {ps:List ByteArray} (h:∀s∈ps,begins s (bs [103,101,110,47])=true) {i:Nat} (hi:i<ps.length):(bl ps[i]).take 4=zOs∧4≤(bl ps[i]).length :=by
 have:=zEx (h _ (List.getElem_mem hi))
 rw [zJr] at this
 exact this
theorem zJv {s:ByteArray} {k:Nat} (h:k≤s.size):∃t,zHS s (k:Int) (s.size:Int)=some t∧bl t=(bl s).drop k:=by
 unfold zHS
 rw [if_pos (by omega)]
 refine ⟨_,rfl,?_⟩
 rw [zDv]
 simp only [Int.toNat_natCast]
 rw [List.take_of_length_le (by rw [List.length_drop,yO]; exact Nat.le_refl _)]
theorem zNg {f:ByteArray→Option Int}:∀(l:List ByteArray),(l.filterMap f).length ≤l.length:=fun l=>List.length_filterMap_le f l
theorem zEj (d:zC) (h:d.Files.length≤1048576):wT d=some (kG d.Files):=by
 unfold wT kG
 rw [zGh d _ h]
 simp only [Option.bind_some]
 have hm:=zDH (fs:=d.Files) (p:=bs [103,101,110,47])
 have hlen:=zBR d.Files (bs [103,101,110,47])
 generalize xW d.Files (bs [103,101,110,47])=ps at*
 obtain ⟨t,e,rfl⟩:=uT (b:=zBi d ps) (fun i s=>s=((ps.take i).filterMap (fun p=>zDw (bl p)),(i:Int))) ps.length (fun t=>t=ps.filterMap (fun p=>zDw (bl p))) (by
  rintro i s hi rfl
  obtain ⟨hp,h4⟩:=zHp hm hi
  have hsz:4≤ps[i].size :=by rw [←yO]; exact h4
  obtain ⟨u,hu,hub⟩:=zJv (s:=ps[i]) (k:=4) hsz
  have hu':zHS ps[i] 4 (ps[i].size :Int)=some u:=hu
  have hfl:=zNg (f:=fun p=>zDw (bl p)) (ps.take i)
  have hil:(ps.take i).length ≤i:=by simp; omega
  have ha:∀x:Int,app 8 ((ps.take i).filterMap (fun p=>zDw (bl p))) [x]=some ((ps.take i).filterMap (fun p=>zDw (bl p))++[x]):=fun x=>zBe (by simp; omega) (by simp; omega)
  have hsplit:(ps.take (i+1)).filterMap (fun p=>zDw (bl p))=(ps.take i).filterMap (fun p=>zDw (bl p))++[ps[i]].filterMap (fun p=>zDw (bl p)):=by
   rw [List.take_succ_eq_append_getElem hi,List.filterMap_append]
  unfold zBi
  rw [if_pos (by simp; omega)]
  simp only [zM hi,Option.bind_some,hu',zEA u 6 (by omega),hub,zN (show i<9223372036854775807 by omega)]
  left
  cases hn:zH3 ((bl ps[i]).drop 4) 6 with
  |none=>
   refine ⟨_,rfl,?_⟩
   rw [hsplit]
   simp [zDw,hn]
  |some n=>
   obtain ⟨g,hg,hgb⟩:=zLC n
   have hiff:=zNe hp h4 hn
   rw [←hgb] at hiff
   simp only [if_true,hg,Option.bind_some]
   rw [zO4]
   by_cases hc:n≥1∧(bl ps[i]).length =10
   ·rw [decide_eq_true (hiff.2 hc)]
    simp only [Option.bind_some,if_true,ha]
    refine ⟨_,rfl,?_⟩
    rw [hsplit]
    simp [zDw,hn,hc]
   ·rw [decide_eq_false (fun e=>hc (hiff.1 e))]
    refine ⟨_,rfl,?_⟩
    rw [hsplit]
    simp only [List.filterMap_cons,zDw,hn,if_neg hc,List.filterMap_nil,List.append_nil]) (by
  rintro s rfl
  unfold zBi
  rw [if_neg (by simp)]
  exact ⟨_,rfl,by simp⟩) ps.length 0 ([],0) (by omega) (by simp)
 simp only [zBS,e,Option.bind_some]
theorem zIL (d:zC) (h:d.Files.length≤1048576):wD d=some (kG d.Files):=by
 unfold wD kG
 rw [zIf,zGh d _ h]
 simp only [Option.bind_some]
 have hm:=zDH (fs:=d.Files) (p:=bs [103,101,110,47])
 have hlen:=zBR d.Files (bs [103,101,110,47])
 generalize xW d.Files (bs [103,101,110,47])=ps at*
 obtain ⟨t,e,rfl⟩:=uT (b:=zA4 ps) (fun i s=>s=((ps.take i).filterMap (fun p=>zDw (bl p)),(i:Int))) ps.length (fun t=>t=ps.filterMap (fun p=>zDw (bl p))) (by
  rintro i s hi rfl
  obtain ⟨hp,h4⟩:=zHp hm hi
  have hsz:4≤ps[i].size :=by rw [←yO]; exact h4
  obtain ⟨u,hu,hub⟩:=zJv (s:=ps[i]) (k:=4) hsz
  have hu':zHS ps[i] 4 (ps[i].size :Int)=some u:=hu
  have hfl:=zNg (f:=fun p=>zDw (bl p)) (ps.take i)
  have hil:(ps.take i).length ≤i:=by simp; omega
  have ha:∀x:Int,app 8 ((ps.take i).filterMap (fun p=>zDw (bl p))) [x]=some ((ps.take i).filterMap (fun p=>zDw (bl p))++[x]):=fun x=>zBe (by simp; omega) (by simp; omega)
  have hsplit:(ps.take (i+1)).filterMap (fun p=>zDw (bl p))=(ps.take i).filterMap (fun p=>zDw (bl p))++[ps[i]].filterMap (fun p=>zDw (bl p)):=by
   rw [List.take_succ_eq_append_getElem hi,List.filterMap_append]
  unfold zA4
  rw [if_pos (by simp; omega)]
  simp only [zM hi,Option.bind_some,hu',number_eq u 6 (by omega),hub,zN (show i<9223372036854775807 by omega)]
  left
  cases hn:zH3 ((bl ps[i]).drop 4) 6 with
  |none=>
   refine ⟨_,rfl,?_⟩
   rw [hsplit]
   simp [zDw,hn]
  |some n=>
   have hbl:((ps[i].size :Int)==10)=decide ((bl ps[i]).length =10):=by
    rw [yO,Bool.eq_iff_iff]; simp; omega
   simp only [hbl]
   by_cases h1:n≥1
   ·rw [if_pos (by simpa using h1)]
    by_cases h2:(bl ps[i]).length =10
    ·rw [decide_eq_true h2]
     simp only [Option.bind_some,if_true,ha]
     refine ⟨_,rfl,?_⟩
     rw [hsplit]
     simp [zDw,hn,h1,h2]
    ·rw [decide_eq_false h2]
     refine ⟨_,rfl,?_⟩
     rw [hsplit]
     simp [zDw,hn,h2]
   ·rw [if_neg (by simpa using h1)]
    refine ⟨_,rfl,?_⟩
    rw [hsplit]
    simp only [List.filterMap_cons,zDw,hn,if_neg (fun h':n≥1∧(bl ps[i]).length =10=>h1 h'.1),List.filterMap_nil,List.append_nil]) (by
  rintro s rfl
  unfold zA4
  rw [if_neg (by simp)]
  exact ⟨_,rfl,by simp⟩) ps.length 0 ([],0) (by omega) (by simp)
 simp only [zBk,e,Option.bind_some]
theorem zBw (fs:List File):(kG fs).length ≤fs.length:=by
 unfold kG
 have h1:=zNg (f:=fun p=>zDw (bl p)) (xW fs (bs [103,101,110,47]))
 have h2:=zBR fs (bs [103,101,110,47])
 omega
def zIy:List Int→List Int→Bool
 |_,[]=>false
 |[],_::_=>true
 |a::x,b::y=>decide (a<b)||(a==b&&zIy x y)
theorem zMW (a b:ByteArray):slt a b=zIy (bl a) (bl b):=by
 unfold slt bl
 generalize a.toList=x
 generalize b.toList=y
 induction x generalizing y with
 |nil=>cases y<;>rfl
 |cons u x ih=>
  cases y with
  |nil=>rfl
  |cons v y=>
   simp only [Op.bytesLess,List.map_cons,zIy,ih y]
   congr 1
   ·rw [Bool.eq_iff_iff]; simp [UInt8.lt_iff_toNat_lt]
   ·congr 1
    rw [Bool.eq_iff_iff]
    simp only [beq_iff_eq]
    constructor
    ·intro h; rw [h]
    ·intro h; exact UInt8.toNat_inj.1 (by omega)
theorem zKW (x:Int) (l:List Int):val (x::l)=(x-48)*10^l.length+val l:=by
 refine zGK (P:=fun l=>val (x::l)=(x-48)*10^l.length+val l) ?_ ?_ l
 ·simp [val]
 ·intro l c ih
  rw [←List.cons_append,zFn,zFn,ih,List.length_append,List.length_singleton,Int.pow_succ]
  rw [Int.add_mul,Int.mul_assoc]
  omega
theorem zLc:∀{a b:List Int},a.length=b.length→(∀c∈a,zFW c=true)→(∀c∈b,zFW c=true)→zIy a b=true→val a<val b
 |[],[],_,_,_,h=>by simp [zIy] at h
 |x::a,y::b,hl,ha,hb,h=>by
  have hl':a.length=b.length:=by simpa using hl
  have ba:=zDW (l:=a) (fun c hc=>ha c (by simp [hc]))
  have bb:=zDW (l:=b) (fun c hc=>hb c (by simp [hc]))
  rw [zKW,zKW,hl']
  rw [hl'] at ba
  simp only [zIy,Bool.or_eq_true,decide_eq_true_eq,Bool.and_eq_true,beq_iff_eq] at h
  rcases h with h|⟨rfl,h⟩
  ·have e:(y-48)*10^b.length=(x-48)*10^b.length+(y-x)*10^b.length:=by rw [←Int.add_mul]; congr 1; omega
   have:1*(10:Int)^b.length≤(y-x)*10^b.length:=Int.mul_le_mul_of_nonneg_right (by omega) (by omega)
   omega
  ·have:=zLc hl' (fun c hc=>ha c (by simp [hc])) (fun c hc=>hb c (by simp [hc])) h
   omega
 |[],_::_,hl,_,_,_=>by simp at hl
 |_::_,[],hl,_,_,_=>by simp at hl
theorem zGy:∀(p a b:List Int),zIy (p++a) (p++b)=zIy a b
 |[],_,_=>rfl
 |x::p,a,b=>by simp [zIy,zGy p a b]
theorem zGa {l:List Int} {n:Int} (h:zDw l=some n):l.length=10∧(∀c∈l.drop 4,zFW c=true)∧n=val (l.drop 4)∧1≤n∧n≤999999:=by
 unfold zDw at h
 cases hn:zH3 (l.drop 4) 6 with
 |none=>rw [hn] at h; cases h
 |some m=>
  rw [hn] at h
  simp only at h
  split at h
  ·rename_i hc
   cases h
   unfold zH3 at hn
   split at hn
   ·cases hn
   ·rename_i hc2
    cases hn
    have hd:∀c∈l.drop 4,zFW c=true:=Classical.byContradiction fun h=>hc2 (.inr (.inr h))
    have hb:=zDW hd
    have h6:(l.drop 4).length =6:=by rw [List.length_drop,hc.2]
    rw [h6] at hb
    exact ⟨hc.2,hd,rfl,hc.1,by omega⟩
  ·cases h
theorem zHm {fs:List File} {n:Int} (h:n∈kG fs):1≤n∧n≤999999:=by
 unfold kG at h
 obtain ⟨p,_,hp⟩:=List.mem_filterMap.1 h
 exact (zGa hp).2.2.2
theorem zJT {fs:List File} (hs:fs.Pairwise (fun f g=>slt f.Path g.Path=true)):(kG fs).Pairwise (· < ·):=by
 unfold kG
 have h1:(xW fs (bs [103,101,110,47])).Pairwise (fun a b=>slt a b=true):=by
  unfold xW
  rw [List.pairwise_map]
  exact List.Pairwise.filter _ hs
 have h2:=zDH (fs:=fs) (p:=bs [103,101,110,47])
 generalize xW fs (bs [103,101,110,47])=ps at*
 rw [List.pairwise_filterMap]
 refine List.Pairwise.imp_of_mem ?_ h1
 intro a b ha hb hab x hx y hy
 obtain ⟨a1,a2,rfl,_,_⟩:=zGa hx
 obtain ⟨b1,b2,rfl,_,_⟩:=zGa hy
 have pa:=zEx (h2 a ha)
 have pb:=zEx (h2 b hb)
 rw [zJr] at pa pb
 refine zLc (by rw [List.length_drop,List.length_drop,a1,b1]) a2 b2 ?_
 rw [zMW,←List.take_append_drop 4 (bl a),←List.take_append_drop 4 (bl b)] at hab
 rw [show (bl a).take 4=zOs from pa.1,show (bl b).take 4=zOs from pb.1,zGy] at hab
 exact hab
theorem zLb {l:List Int} (h:∀c∈l,0≤c∧c≤255):bl (b2s l)=l:=by
 refine (zGK (P:=fun l=>(∀c∈l,0≤c∧c≤255)→bl (b2s l)=l) ?_ ?_ l) h
 ·intro _; exact zKT []
 ·intro l c ih h
  have e:b2s (l++[c])=b2s l++b2s [c]:=by
   unfold b2s
   rw [List.foldl_append]
   generalize List.foldl (fun r n=>ByteArray.push r (UInt8.ofNat n.toNat)) ByteArray.empty l=x
   simp only [List.foldl_cons,List.foldl_nil]
   generalize UInt8.ofNat c.toNat=u
   apply toList_inj
   rw [ByteArray.toList_eq,ByteArray.toList_eq]
   simp
  rw [e,zDR,ih (fun x hx=>h x (by simp [hx])),zK2 (h c (by simp)).1 (h c (by simp)).2]
theorem zD0 (l:List Int) (v:Int) (h:l.length≤1048576):yX l v=some (decide (v∈l)):=by
 obtain ⟨t,e,ht⟩:=uT (b:=zCV l v) (fun i s=>s=(i:Int)∧v∉l.take i) l.length (fun t=>match t with| .ret r=>r=true∧v∈l| .nxt _=>v∉l) (by
  rintro i s hi ⟨rfl,hv⟩
  unfold zCV
  rw [if_pos (by simp; omega)]
  simp only [zM hi,Option.bind_some]
  by_cases hc:l[i]=v
  ·rw [if_pos (by simpa using hc)]
   exact .inr ⟨_,rfl,rfl,hc▸List.getElem_mem hi⟩
  ·rw [if_neg (by simpa using hc),zN (by omega)]
   refine .inl ⟨_,rfl,rfl,?_⟩
   rw [List.take_succ_eq_append_getElem hi]
   simp only [List.mem_append,List.mem_singleton,not_or]
   exact ⟨hv,fun e=>hc e.symm⟩) (by
  rintro s ⟨rfl,hv⟩
  unfold zCV
  rw [if_neg (by simp)]
  rw [List.take_length] at hv
  exact ⟨_,rfl,hv⟩) l.length 0 0 (by omega) ⟨rfl,by simp⟩
 unfold yX
 rw [show zD2 l v 0=some t from e]
 cases t with
 |ret r=>obtain ⟨rfl,hm⟩:=ht; simp [Fl.go,hm]
 |nxt _=>simp only [Fl.go,Option.bind_some]; rw [decide_eq_false ht]
theorem zFh (l:List Int) (v:Int) (h:l.length≤1048576):zV l v=some (decide (v∈l)):=by
 obtain ⟨t,e,ht⟩:=uT (b:=uD l v) (fun i s=>s=(i:Int)∧v∉l.take i) l.length (fun t=>match t with| .ret r=>0≤r∧v∈l| .nxt _=>v∉l) (by
  rintro i s hi ⟨rfl,hv⟩
  unfold uD
  rw [if_pos (by simp; omega)]
  simp only [zM hi,Option.bind_some]
  by_cases hc:v=l[i]
  ·rw [if_pos (by simpa using hc)]
   exact .inr ⟨_,rfl,by omega,hc▸List.getElem_mem hi⟩
  ·rw [if_neg (by simpa using hc),zN (by omega)]
   refine .inl ⟨_,rfl,rfl,?_⟩
   rw [List.take_succ_eq_append_getElem hi]
   simp only [List.mem_append,List.mem_singleton,not_or]
   exact ⟨hv,hc⟩) (by
  rintro s ⟨rfl,hv⟩
  unfold uD
  rw [if_neg (by simp)]
  rw [List.take_length] at hv
  exact ⟨_,rfl,hv⟩) l.length 0 0 (by omega) ⟨rfl,by simp⟩
 unfold zV tN
 rw [show uP l v 0=some t from e]
 cases t with
 |ret r=>obtain ⟨h0,hm⟩:=ht; simp [Fl.go,hm,h0]
 |nxt _=>simp only [Fl.go,Option.bind_some]; rw [decide_eq_false ht]; rfl
def zGB (d:zC):Option Int:=match d.Files.find? (fun f=>decide (f.Path=bs [99,117,114])) with
 |none=>none
 |some f=>match zH3 f.Data 6 with
  |none=>none
  |some n=>if n∈kG d.Files then some n else none
theorem zM5 {fs:List File} {p:ByteArray} {k:Nat} (hs:fs.Pairwise (fun f g=>slt f.Path g.Path=true)) (hk:k<fs.length) (hp:fs[k].Path =p):fs.find? (fun f=>decide (f.Path=p))=some fs[k]:=by
 rw [List.find?_eq_some_iff_getElem]
 refine ⟨by simp [hp],k,hk,rfl,fun j hj=>?_⟩
 simp only [Bool.not_eq_eq_eq_not,Bool.not_true,decide_eq_false_iff_not]
 intro e
 have:=zHQ hs (by omega) hk (e.trans hp.symm)
 omega
theorem zJR {fs:List File} {p:ByteArray} (h:∀f∈fs,f.Path≠p):fs.find? (fun f=>decide (f.Path=p))=none:=by
 rw [List.find?_eq_none]
 intro f hf
 simpa using h f hf
theorem zFc (d:zC) (hg:d.good) (hb:∀f∈d.Files,∀c∈f.Data,0≤c∧c≤255):
  kK d=some ((zGB d).getD 0)∧uY d=some ((zGB d).getD 0,match zGB d with|some _=>0|none=>4):=by
 have hl:d.Files.length≤1048576:=by have:=hg.len; omega
 have hgl:=zBw d.Files
 unfold kK uY
 rcases zFH d (bs [99,117,114]) hg with ⟨k,hk,e1,e2,hp⟩|⟨e1,e2,hp⟩
 ·have hf:=zM5 hg.sorted hk hp
  have hbk:=zLb (hb _ (List.getElem_mem hk))
  have hn:¬((k:Int)<0):=by omega
  rw [e1,e2,zEj d hl,zIL d hl]
  simp only [Option.bind_some,zM hk,zEA _ 6 (by omega),number_eq _ 6 (by omega),hbk,decide_eq_false hn,Bool.false_eq_true,if_false]
  unfold zGB
  rw [hf]
  simp only
  cases hnum:zH3 d.Files[k].Data 6 with
  |none=>
   have hneg:¬((-1:Int)∈kG d.Files):=fun h=>by have:=zHm h; omega
   simp [zFh _ _ (show (kG d.Files).length ≤1048576 by omega),hneg]
  |some n=>
   simp only [zFh _ _ (show (kG d.Files).length ≤1048576 by omega),zD0 _ _ (show (kG d.Files).length ≤1048576 by omega)]
   by_cases hm:n∈kG d.Files
   ·simp [hm]
   ·simp [hm]
 ·have hf:=zJR hp
  rw [e1,e2]
  simp only [Option.bind_some,number_eq _ 6 (by omega)]
  unfold zGB
  rw [hf]
  simp
theorem zNp {d:zC} {n:Int} (h:zGB d=some n):1≤n:=by
 unfold zGB at h
 split at h
 ·cases h
 ·split at h
  ·cases h
  ·split at h
   ·rename_i hm; cases h; exact (zHm hm).1
   ·cases h
def zN3 (c:Int):Bool:=decide (97≤c)&&decide (c≤122)
def zJO (c:Int):Bool:=decide (48≤c)&&decide (c≤57)
def zNf (c:Int):Bool:=zN3 c||(zJO c||c==95)
theorem zGV (c:Int):vI c=some (zN3 c):=by
 unfold vI zN3
 by_cases h:c≥97<;>simp [h]
theorem zLI (c:Int):vN c=some (zJO c):=by
 unfold vN zJO
 by_cases h:c≥48<;>simp [h]
theorem zMy (c:Int):uE c=some (zNf c):=by
 unfold uE zNf
 simp only [zGV,zLI,Option.bind_some]
 cases zN3 c<;>cases zJO c<;>simp
theorem zIF (c:Int):xK c=some (zNf c):=by
 unfold xK zNf zN3 zJO
 by_cases h1:c≥97<;>by_cases h2:c≤122<;>by_cases h3:c≥48<;>by_cases h4:c≤57<;>simp [h1,h2,h3,h4]
def zIK (s:ByteArray):Int:=(jI (fun _ c=>if zNf c then none else some (5:Int)) 0 (bl s)).getD 0
def NF (s:ByteArray):Int:=if s.size<1 then 5 else if s.size>12 then 5 else if zN3 ((bl s).headD 0) then zIK s else 5
theorem zNr {s:ByteArray} (h:1≤s.size):bidx s 0=some ((bl s).headD 0):=by
 have h':0< (bl s).length :=by rw [yO]; exact h
 have e:=zE6 (s:=s) (i:=0) h'
 rw [show ((0:Nat):Int)=0 from rfl] at e
 rw [e]
 have:(bl s)[0]? =some ((bl s).headD 0):=by
  cases hb:bl s with
  |nil=>rw [hb] at h'; simp at h'
  |cons c l=>rfl
 rw [List.getElem?_eq_getElem h'] at this
 exact this
theorem zIO (s:ByteArray) (h:s.size≤12):kW s 0=some (frs (jI (fun _ c=>if zNf c then none else some (5:Int)) 0 (bl s))):=by
 unfold kW
 refine uG (bl s) _ (fun i hi=>?_) ?_
 ·have hs:i<s.size:=by rw [←yO]; exact hi
  unfold zBX
  rw [if_pos (by simp; omega),zE6 hi]
  simp only [Option.bind_some,zMy]
  rw [zN (by omega)]
  cases zNf (bl s)[i]<;>rfl
 ·unfold zBX
  rw [if_neg (by rw [yO]; simp)]
theorem zI3 (s:ByteArray) (h:s.size≤12):zAa s 0=some (frs (jI (fun _ c=>if zNf c then none else some (5:Int)) 0 (bl s))):=by
 unfold zAa
 refine uG (bl s) _ (fun i hi=>?_) ?_
 ·have hs:i<s.size:=by rw [←yO]; exact hi
  unfold zBZ
  rw [if_pos (by simp; omega),zE6 hi]
  simp only [Option.bind_some,zIF]
  rw [zN (by omega)]
  cases zNf (bl s)[i]<;>rfl
 ·unfold zBZ
  rw [if_neg (by rw [yO]; simp)]
theorem zEp (s:ByteArray):vG s=some (NF s):=by
 unfold vG NF
 by_cases h1:s.size<1
 ·rw [if_pos (show decide ((s.size:Int)<1)=true by rw [decide_eq_true_eq]; omega),if_pos h1]; rfl
 rw [if_neg (show ¬decide ((s.size:Int)<1)=true by rw [decide_eq_true_eq]; omega),if_neg h1]
 by_cases h2:s.size>12
 ·rw [if_pos (show decide ((s.size:Int)>12)=true by rw [decide_eq_true_eq]; omega),if_pos h2]; rfl
 rw [if_neg (show ¬decide ((s.size:Int)>12)=true by rw [decide_eq_true_eq]; omega),if_neg h2,zNr (by omega),zIO s (by omega)]
 simp only [Option.bind_some,zGV]
 cases h3:zN3 ((bl s).headD 0)
 ·rfl
 ·unfold zIK
  cases jI (fun _ c=>if zNf c then none else some (5:Int)) 0 (bl s)<;>rfl
theorem zOd (c:Int):(if decide (c<97)=true then some true else some (decide (c>122)))=some (!(zN3 c)):=by
 unfold zN3
 by_cases h3:c<97
 ·rw [if_pos (by rw [decide_eq_true_eq]; exact h3)]
  have:decide (97≤c)=false:=by rw [decide_eq_false_iff_not]; omega
  rw [this]; rfl
 ·rw [if_neg (by rw [decide_eq_true_eq]; exact h3)]
  have:decide (97≤c)=true:=by rw [decide_eq_true_eq]; omega
  rw [this]
  congr 1
  rw [Bool.true_and,Bool.eq_iff_iff]
  simp
theorem zEq (s:ByteArray):vE s=some (NF s):=by
 unfold vE NF
 by_cases h1:s.size<1
 ·rw [if_pos (show decide ((s.size:Int)<1)=true by rw [decide_eq_true_eq]; omega),if_pos h1]; rfl
 rw [if_neg (show ¬decide ((s.size:Int)<1)=true by rw [decide_eq_true_eq]; omega),if_neg h1]
 by_cases h2:s.size>12
 ·rw [if_pos (show decide ((s.size:Int)>12)=true by rw [decide_eq_true_eq]; omega),if_pos h2]; rfl
 rw [if_neg (show ¬decide ((s.size:Int)>12)=true by rw [decide_eq_true_eq]; omega),if_neg h2,zNr (by omega),zI3 s (by omega)]
 simp only [Option.bind_some,zOd]
 cases h3:zN3 ((bl s).headD 0)
 ·rfl
 ·unfold zIK
  cases jI (fun _ c=>if zNf c then none else some (5:Int)) 0 (bl s)<;>rfl
def VF (v:Version):Int:=if inB v.A 0 999&&inB v.B 0 999&&inB v.C 0 999 then 0 else 3
theorem zDF (v:Version):yY v=some (VF v):=by
 unfold yY VF
 simp only [zKQ,Option.bind_some]
 cases inB v.A 0 999<;>cases inB v.B 0 999<;>cases inB v.C 0 999<;>rfl
theorem zEv (v:Version):xP v=some (VF v):=by
 unfold xP VF
 simp only [zJn,Option.bind_some]
 cases inB v.A 0 999<;>cases inB v.B 0 999<;>cases inB v.C 0 999<;>rfl
def sgn (a b:Int):Int:=if a<b then-1 else if a>b then 1 else 0
theorem zMt (a b:Int):zAe a b=some (sgn a b):=by
 unfold zAe sgn
 by_cases h:a<b
 ·simp [h]
 ·by_cases h2:a>b<;>simp [h,h2]
theorem cmp_eq (a b:Int):xQ a b=some (sgn a b):=by
 unfold xQ jG sgn
 simp only [Option.bind_some,bne_self_eq_false,Bool.false_eq_true,if_false]
 by_cases h:a<b
 ·simp [h]
 ·by_cases h2:a>b<;>simp [h,h2]
def zNl (a b:Version):Int:=if sgn a.A b.A≠0 then sgn a.A b.A else if sgn a.B b.B≠0 then sgn a.B b.B else sgn a.C b.C
theorem zEa (a b:Version):xO a b=some (zNl a b):=by
 unfold xO zNl
 simp only [zMt,Option.bind_some]
 by_cases h1:sgn a.A b.A=0
 ·by_cases h2:sgn a.B b.B=0<;>simp [h1,h2]
 ·simp [h1]
theorem zPr (l:List Int) (h:l.length≤10):loop (zCT l) 0=some (frs (jI (fun _ c=>if c !=0 then some c else none) 0 l)):=by
 refine uG l _ (fun i hi=>?_) ?_
 ·unfold zCT
  rw [if_pos (by simp; omega),zM hi]
  simp only [Option.bind_some]
  rw [zN (by omega)]
  cases l[i] !=0<;>rfl
 ·unfold zCT
  rw [if_neg (by simp)]
theorem zJL (a b:Version):zCa a b=some (zNl a b):=by
 unfold zCa zNl zEe zD6
 simp only [cmp_eq,Option.bind_some]
 rw [zPr _ (by simp),zEL]
 by_cases h1:sgn a.A b.A=0
 ·by_cases h2:sgn a.B b.B=0
  ·by_cases h3:sgn a.C b.C=0<;>simp [h1,h2,h3,jI]
  ·simp [h1,h2,jI]
 ·simp [h1,jI]
def eqV (a b:Version):Bool:=a.A==b.A&&(a.B==b.B&&(a.C==b.C&&true))
theorem zNa (a b:Version):(zNl a b==0)=eqV a b:=by
 unfold zNl eqV sgn
 rw [Bool.eq_iff_iff]
 simp only [beq_iff_eq,Bool.and_eq_true,Bool.and_true]
 constructor
 ·intro h
  split at h<;>omega
 ·intro ⟨h1,h2,h3⟩
  split<;>omega
def zPQ:Version:= {A:=1000,B:=0,C:=0}
def TF (t:Term):Int:=if NF t.Name≠0 then NF t.Name else if VF t.Low≠0 then VF t.Low else
 if eqV t.High zPQ=false∧VF t.High≠0 then 3 else if zNl t.Low t.High≥0 then 1 else 0
theorem zHB (t:Term):zAU t=some (TF t):=by
 unfold zAU TF zDE
 simp only [zEp,zDF,zEa,Option.bind_some]
 show (if (NF t.Name !=0)=true then some (NF t.Name) else if (VF t.Low !=0)=true then some (VF t.Low) else (if (!(eqV t.High zPQ))=true then some (VF t.High !=0) else some false).bind fun v=>if v=true then some 3 else if decide (zNl t.Low t.High≥0)=true then some 1 else some 0)=_
 generalize NF t.Name=a
 generalize VF t.Low=b
 generalize eqV t.High zPQ=c
 generalize VF t.High=d
 generalize zNl t.Low t.High=e
 by_cases h1:a=0
 ·by_cases h2:b=0
  ·by_cases h4:d=0<;>by_cases h5:e≥0<;>cases c<;>simp [h1,h2,h4,h5]
  ·simp [h1,h2]
 ·simp [h1]
theorem zHN (t:Term):zAP t=some (TF t):=by
 unfold zAP TF zE8
 simp only [zEq,zEv,zJL,Option.bind_some]
 show (if (NF t.Name !=0)=true then some (NF t.Name) else if (VF t.Low !=0)=true then some (VF t.Low) else (if (!(eqV t.High zPQ))=true then some (VF t.High !=0) else some false).bind fun v=>if v=true then some 3 else if decide (zNl t.Low t.High≥0)=true then some 1 else some 0)=_
 generalize NF t.Name=a
 generalize VF t.Low=b
 generalize eqV t.High zPQ=c
 generalize VF t.High=d
 generalize zNl t.Low t.High=e
 by_cases h1:a=0
 ·by_cases h2:b=0
  ·by_cases h4:d=0<;>by_cases h5:e≥0<;>cases c<;>simp [h1,h2,h4,h5]
  ·simp [h1,h2]
 ·simp [h1]
def tsF (l:List Term):Int:=(jI (fun _ t=>if TF t !=0 then some (TF t) else none) 0 l).getD 0
theorem zGw (l:List Term) (h:l.length≤1048576):kH l=some (tsF l):=by
 have key:=uG l (fun _ t=>if TF t !=0 then some (TF t) else none) (b:=zBG l) (by
  intro i hi
  unfold zBG
  rw [if_pos (by simp; omega),zM hi]
  simp only [Option.bind_some,zHB]
  rw [zN (by omega)]
  cases TF l[i] !=0<;>rfl) (by
  unfold zBG
  rw [if_neg (by simp)])
 unfold kH zCF tsF
 rw [key,zEL]
 cases jI (fun _ t=>if TF t !=0 then some (TF t) else none) 0 l<;>rfl
theorem zEY (l:List Term) (h:l.length≤1048576):vH l=some (tsF l):=by
 have key:=uG l (fun _ t=>if TF t !=0 then some (TF t) else none) (b:=zAo l) (by
  intro i hi
  unfold zAo
  rw [if_pos (by simp; omega),zM hi]
  simp only [Option.bind_some,zHN]
  rw [zN (by omega)]
  cases TF l[i] !=0<;>rfl) (by
  unfold zAo
  rw [if_neg (by simp)])
 unfold vH zAF tsF
 rw [key,zEL]
 cases jI (fun _ t=>if TF t !=0 then some (TF t) else none) 0 l<;>rfl
theorem zD9 {n:Nat} (h:n<1000):(zIY n).size ≤3:=by
 rw [←yO,zF7]
 exact zH2 2 n (by omega)
theorem zEc:(bs [46]).size =1:=rfl
def zPm (v:Version):ByteArray:=zIY v.A.toNat++bs [46]++zIY v.B.toNat++bs [46]++zIY v.C.toNat
theorem zKt {v:Version} (h:VF v=0):(0≤v.A∧v.A≤999)∧(0≤v.B∧v.B≤999)∧(0≤v.C∧v.C≤999):=by
 unfold VF inB at h
 split at h
 ·rename_i hh
  simp only [Bool.and_eq_true,decide_eq_true_eq] at hh
  omega
 ·cases h
theorem zGT {v:Version} (h:VF v=0):(zPm v).size ≤11:=by
 obtain ⟨h1,h2,h3⟩:=zKt h
 unfold zPm
 simp only [zDJ,zEc]
 have a1:=zD9 (n:=v.A.toNat) (by omega)
 have a2:=zD9 (n:=v.B.toNat) (by omega)
 have a3:=zD9 (n:=v.C.toNat) (by omega)
 omega
theorem zIT {x:Int} (h:0≤x∧x≤999):wB x=some (zIY x.toNat):=by
 have:=zG7 x.toNat (by omega)
 rwa [Int.toNat_of_nonneg h.1] at this
theorem zI1 {x:Int} (h:0≤x∧x≤999):zBV x=some (zIY x.toNat):=by
 have:=zG1 x.toNat (by omega)
 rw [Int.toNat_of_nonneg h.1] at this
 unfold zBV
 rw [this]
 rfl
theorem zFA {v:Version} (h:VF v=0):vZ v=some (zPm v):=by
 obtain ⟨h1,h2,h3⟩:=zKt h
 have a1:=zD9 (n:=v.A.toNat) (by omega)
 have a2:=zD9 (n:=v.B.toNat) (by omega)
 have a3:=zD9 (n:=v.C.toNat) (by omega)
 unfold vZ zPm
 rw [zDF,h]
 simp only [Option.bind_some,zIT h1,zIT h2,zIT h3]
 rw [if_neg (by simp)]
 rw [zDV (by rw [zEc]; omega)]
 simp only [Option.bind_some]
 rw [zDV (by simp only [zDJ,zEc]; omega)]
 simp only [Option.bind_some]
 rw [zDV (by simp only [zDJ,zEc]; omega)]
 simp only [Option.bind_some]
 rw [zDV (by simp only [zDJ,zEc]; omega)]
 rfl
theorem zNv {v:Version} (h:VF v=0):tK v=some (zPm v):=by
 obtain ⟨h1,h2,h3⟩:=zKt h
 have a1:=zD9 (n:=v.A.toNat) (by omega)
 have a2:=zD9 (n:=v.B.toNat) (by omega)
 have a3:=zD9 (n:=v.C.toNat) (by omega)
 unfold tK zPm
 simp only [Option.bind_some,zI1 h1,zI1 h2,zI1 h3]
 rw [zDV (by rw [zEc]; omega)]
 simp only [Option.bind_some]
 rw [zDV (by simp only [zDJ,zEc]; omega)]
 simp only [Option.bind_some]
 rw [zDV (by simp only [zDJ,zEc]; omega)]
 simp only [Option.bind_some]
 rw [zDV (by simp only [zDJ,zEc]; omega)]
 rfl
theorem zKb {s:ByteArray} (h:NF s=0):1≤s.size∧s.size≤12:=by
 unfold NF at h
 split at h
 ·cases h
 ·split at h
  ·cases h
  ·omega
def zeroV:Version:= {A:=0,B:=0,C:=0}
theorem zNU (a b:ByteArray):seq a b=seq b a:=by
 unfold seq
 rw [Bool.eq_iff_iff]
 simp only [beq_iff_eq]
 exact eq_comm
theorem zJ3 {α R:Type} (g:Nat→α→Option R):∀(xs:List α) (i:Nat),jI g i xs=none↔∀(j:Nat) (h:j<xs.length),g (i+j) xs[j]=none
 |[],i=>by simp [jI]
 |x::xs,i=>by
  simp only [jI]
  cases h:g i x with
  |some r=>
   simp only [reduceCtorEq,false_iff]
   intro hh
   have:=hh 0 (by simp)
   simp only [Nat.add_zero,List.getElem_cons_zero] at this
   rw [h] at this
   cases this
  |none=>
   show jI g (i+1) xs=none↔_
   rw [zJ3 g xs (i+1)]
   constructor
   ·intro hh j hj
    cases j with
    |zero=>simpa using h
    |succ j=>
     have:=hh j (by simpa using hj)
     rw [show i+(j+1)=i+1+j by omega]
     simpa using this
   ·intro hh j hj
    have:=hh (j+1) (by simpa using hj)
    rw [show i+(j+1)=i+1+j by omega] at this
    simpa using this
theorem zFI {α:Type} {xs:List α} {i:Nat} (h:i≤xs.length):zEH xs 0 (i:Int)=some (xs.take i):=by
 have:=zEr (xs:=xs) (l:=0) (h:=i) (by omega) h
 rw [show ((0:Nat):Int)=0 from rfl] at this
 rw [this]
 simp
theorem zIs (l:List ByteArray) (n:ByteArray) (h:l.length≤1048576):zA6 l n=some (l.any fun x=>seq x n):=by
 have key:=uG l (fun _ x=>if seq x n then some true else none) (b:=zBC l n) (by
  intro i hi
  unfold zBC
  rw [if_pos (by simp; omega),zM hi]
  simp only [Option.bind_some]
  rw [zN (by omega)]
  cases seq l[i] n<;>rfl) (by
  unfold zBC
  rw [if_neg (by simp)])
 unfold zA6 zCe
 rw [key,zEL,←zJC (fun x=>seq x n) l 0]
 cases jI (fun _ x=>if seq x n then some true else none) 0 l<;>rfl
theorem zFG (l:List ByteArray) (n:ByteArray) (h:l.length≤1048576):yV l n=some (l.any fun x=>seq x n):=by
 have key:=uG l (fun i x=>if seq x n then some (i:Int) else none) (b:=vP l n) (by
  intro i hi
  unfold vP
  rw [if_pos (by simp; omega),zM hi]
  simp only [Option.bind_some]
  rw [zN (by omega),zNU n]
  cases seq l[i] n<;>rfl) (by
  unfold vP
  rw [if_neg (by simp)])
 unfold yV uJ vW
 rw [key,zEL]
 rw [←zGL (zEy (fun x=>seq x n) l 0)]
 cases jI (fun j x=>if seq x n then some (j:Int) else none) 0 l<;>rfl
def zKf (p:Pack) (i:Nat) (n:ByteArray):Option Int:=if NF n !=0 then some (NF n) else if seq n p.Name||(p.Provides.take i).any (fun x=>seq x n) then some 6 else none
def zK0 (_:Nat) (l:List Term):Option Int:=if (l.length:Int)==0 then some 1 else if tsF l !=0 then some (tsF l) else none
def zPk (p:Pack):Bool:=decide ((p.Provides.length:Int)>4)||(decide ((p.Needs.length:Int)>4)||(decide ((p.Bars.length:Int)>4)||p.Needs.any (fun l=>decide ((l.length:Int)>4))))
def zJo (p:Pack):Int:=match jI (zKf p) 0 p.Provides with
 |some r=>r
 |none=>match jI zK0 0 p.Needs with
  |some r=>r
  |none=>tsF p.Bars
def PF (p:Pack):Int:=if NF p.Name !=0 then NF p.Name else if VF p.Version !=0 then VF p.Version else if !(inB p.Size 1 200) then 3 else if zPk p then 2 else zJo p
theorem zGQ (p:Pack) (hp:Pack.sm 1048576 p):((kT p 0).bind (Fl.go some fun v60=>(kQ p 0).bind (Fl.go some fun v80=>(kH p.Bars).bind fun x81=>some x81)))=some (zJo p):=by
 obtain ⟨_,_,_,hpr,hne,hba⟩:=hp
 have k2:=uG p.Provides (zKf p) (b:=zAG p) (by
  intro i hi
  unfold zAG zKf
  rw [if_pos (by simp; omega),zM hi]
  simp only [Option.bind_some,zEp]
  rw [zFI (by omega)]
  simp only [Option.bind_some]
  rw [zIs _ _ (by simp; omega),zN (by omega)]
  simp only [Option.bind_some]
  cases NF p.Provides[i] !=0<;>cases seq p.Provides[i] p.Name<;>cases (p.Provides.take i).any (fun x=>seq x p.Provides[i])<;>rfl) (by
  unfold zAG
  rw [if_neg (by simp)])
 have k3:=uG p.Needs zK0 (b:=zAA p) (by
  intro i hi
  unfold zAA zK0
  rw [if_pos (by simp; omega),zM hi]
  simp only [Option.bind_some]
  rw [zGw _ (hne.2 _ (List.getElem_mem hi)).1,zN (by omega)]
  simp only [Option.bind_some]
  cases (p.Needs[i].length :Int)==0<;>cases tsF p.Needs[i] !=0<;>rfl) (by
  unfold zAA
  rw [if_neg (by simp)])
 unfold kT kQ zJo
 rw [k2,k3,zGw _ hba.1]
 cases jI (zKf p) 0 p.Provides<;>cases jI zK0 0 p.Needs<;>rfl
theorem zGD (p:Pack) (hp:Pack.sm 1048576 p):((kX p 0).bind (Fl.go some fun v46=>(kU p 0).bind (Fl.go some fun v62=>(vH p.Bars).bind fun x63=>some x63)))=some (zJo p):=by
 obtain ⟨_,_,_,hpr,hne,hba⟩:=hp
 have k2:=uG p.Provides (zKf p) (b:=zAD p) (by
  intro i hi
  unfold zAD zKf
  rw [if_pos (by simp; omega),zM hi]
  simp only [Option.bind_some,zEq]
  rw [zFI (by omega)]
  simp only [Option.bind_some]
  rw [zFG _ _ (by simp; omega),zN (by omega)]
  simp only [Option.bind_some]
  cases NF p.Provides[i] !=0<;>cases seq p.Provides[i] p.Name<;>cases (p.Provides.take i).any (fun x=>seq x p.Provides[i])<;>rfl) (by
  unfold zAD
  rw [if_neg (by simp)])
 have k3:=uG p.Needs zK0 (b:=zAI p) (by
  intro i hi
  unfold zAI zK0
  rw [if_pos (by simp; omega),zM hi]
  simp only [Option.bind_some]
  rw [zEY _ (hne.2 _ (List.getElem_mem hi)).1,zN (by omega)]
  simp only [Option.bind_some]
  cases (p.Needs[i].length :Int)==0<;>cases tsF p.Needs[i] !=0<;>rfl) (by
  unfold zAI
  rw [if_neg (by simp)])
 unfold kX kU zJo
 rw [k2,k3,zEY _ hba.1]
 cases jI (zKf p) 0 p.Provides<;>cases jI zK0 0 p.Needs<;>rfl
theorem zIe {α R:Type} (p:α→Bool) (r:R):∀(xs:List α) (i:Nat),jI (fun _ x=>if p x then some r else none) i xs=if xs.any p then some r else none
 |[],i=>rfl
 |x::xs,i=>by
  simp only [jI]
  cases h:p x
  ·simp only [Bool.false_eq_true,if_false,List.any_cons,h,Bool.false_or]
   exact zIe p r xs (i+1)
  ·simp [h]
theorem zH4 (p:Pack) (hp:Pack.sm 1048576 p):zAS p=some (PF p):=by
 have hl:=zGQ p hp
 obtain ⟨_,_,_,hpr,hne,hba⟩:=hp
 have k1:=uG p.Needs (fun _ l=>if decide ((l.length:Int)>4) then some (2:Int) else none) (b:=zAH p) (by
  intro i hi
  unfold zAH
  rw [if_pos (by simp; omega),zM hi]
  simp only [Option.bind_some]
  rw [zN (by omega)]
  cases decide ((p.Needs[i].length :Int)>4)<;>rfl) (by
  unfold zAH
  rw [if_neg (by simp)])
 rw [zIe] at k1
 unfold zAS PF zPk
 simp only [zEp,zDF,zKQ,Option.bind_some]
 rw [hl]
 unfold zBq
 rw [k1]
 cases NF p.Name !=0<;>cases VF p.Version !=0<;>cases inB p.Size 1 200<;>cases decide ((p.Provides.length:Int)>4)<;>cases decide ((p.Needs.length:Int)>4)<;>cases decide ((p.Bars.length:Int)>4)<;>cases p.Needs.any (fun l=>decide ((l.length:Int)>4))<;>rfl
theorem zN9 (l:List Int) (h:l.length≤10):loop (zA3 l) 0=some (frs (jI (fun _ c=>if c !=0 then some c else none) 0 l)):=by
 refine uG l _ (fun i hi=>?_) ?_
 ·unfold zA3
  rw [if_pos (by simp; omega),zM hi]
  simp only [Option.bind_some]
  rw [zN (by omega)]
  cases l[i] !=0<;>rfl
 ·unfold zA3
  rw [if_neg (by simp)]
theorem zHC (p:Pack) (hp:Pack.sm 1048576 p):zAN p=some (PF p):=by
 have hl:=zGD p hp
 obtain ⟨_,_,_,hpr,hne,hba⟩:=hp
 have k1:=uG p.Needs (fun i l=>if decide ((l.length:Int)>4) then some (i:Int) else none) (b:=zY p.Needs) (by
  intro i hi
  unfold zY zA0
  rw [if_pos (by simp; omega),zM hi]
  simp only [Option.bind_some]
  rw [zN (by omega)]
  cases decide ((p.Needs[i].length :Int)>4)<;>rfl) (by
  unfold zY
  rw [if_neg (by simp)])
 have k2:zO p.Needs=some (p.Needs.any (fun l=>decide ((l.length:Int)>4))):=by
  unfold zO zW yB
  rw [k1,zEL,←zGL (zEy (fun l:List Term=>decide ((l.length:Int)>4)) p.Needs 0)]
  cases jI (fun j (x:List Term)=>if decide ((x.length:Int)>4) then some (j:Int) else none) 0 p.Needs<;>rfl
 have k3:zAQ [NF p.Name,VF p.Version]=some (if NF p.Name !=0 then NF p.Name else VF p.Version):=by
  have k:=zN9 [NF p.Name,VF p.Version] (by simp)
  unfold zAQ zBg
  rw [k,zEL]
  simp only [jI]
  cases hn:NF p.Name !=0
  ·cases hv:VF p.Version !=0
   ·have:VF p.Version=0:=by simpa using hv
    simp [this]
   ·rfl
  ·rfl
 unfold zAN PF zPk
 simp only [zEq,zEv,zJn,Option.bind_some]
 rw [hl,k2,k3]
 simp only [Option.bind_some]
 cases hn:NF p.Name !=0
 ·simp only [Bool.false_eq_true,if_false]
  cases VF p.Version !=0<;>cases inB p.Size 1 200<;>cases decide ((p.Provides.length:Int)>4)<;>cases decide ((p.Needs.length:Int)>4)<;>cases decide ((p.Bars.length:Int)>4)<;>cases p.Needs.any (fun l=>decide ((l.length:Int)>4))<;>rfl
 ·simp only [if_true,hn]
def isB (n:ByteArray) (v:Version) (q:Pack):Bool:=seq q.Name n&&eqV q.Version v
def zGA (c:List Pack) (n:ByteArray) (v:Version):Int:=(jI (fun i q=>if isB n v q then some (i:Int) else none) 0 c).getD (-1)
theorem zJ6 (c:List Pack) (n:ByteArray) (v:Version):decide (zGA c n v≥0)=c.any (isB n v):=zGL (zEy (isB n v) c 0)
theorem zIp (c:List Pack) (n:ByteArray) (v:Version) (h:c.length≤1048576):zAm c n v=some (zGA c n v):=by
 have key:=uG c (fun i q=>if isB n v q then some (i:Int) else none) (b:=zC7 c n v) (by
  intro i hi
  unfold zC7 isB
  rw [if_pos (by simp; omega),zM hi]
  simp only [Option.bind_some,zEa,zNa]
  rw [zN (by omega)]
  cases seq c[i].Name n<;>cases eqV c[i].Version v<;>rfl) (by
  unfold zC7
  rw [if_neg (by simp)])
 unfold zGA
 unfold zAm zCP
 rw [key,zEL]
 cases jI (fun i q=>if isB n v q then some (i:Int) else none) 0 c<;>rfl
theorem zIh (c:List Pack) (n:ByteArray) (v:Version) (h:c.length≤1048576):zCS c n v=some (zGA c n v):=by
 have key:=uG c (fun i q=>if isB n v q then some (i:Int) else none) (b:=yL c n v) (by
  intro i hi
  unfold yL isB zDA
  rw [if_pos (by simp; omega),zM hi]
  simp only [Option.bind_some]
  rw [zN (by omega)]
  show (Option.bind (if seq c[i].Name n=true then some (eqV c[i].Version v) else some false) _)=_
  cases seq c[i].Name n<;>cases eqV c[i].Version v<;>rfl) (by
  unfold yL
  rw [if_neg (by simp)])
 unfold zGA
 unfold zCS yI yM
 rw [key,zEL]
 cases jI (fun i q=>if isB n v q then some (i:Int) else none) 0 c<;>rfl
theorem find_spec (c:List Pack) (n:ByteArray) (v:Version) (h:c.length≤1048576):∃k,zAm c n v=some k∧decide (k≥0)=c.any (isB n v):=⟨_,zIp c n v h,zJ6 c n v⟩
theorem zM4 (c:List Pack) (n:ByteArray) (v:Version) (h:c.length≤1048576):∃k,zCS c n v=some k∧decide (k≥0)=c.any (isB n v):=⟨_,zIh c n v h,zJ6 c n v⟩
theorem zIl {p:Pack→Bool}:∀(c:List Pack) (i:Nat),(jI (fun i q=>if p q then some (i:Int) else none) i c).getD (-1)= -1∨((i:Int)≤(jI (fun i q=>if p q then some (i:Int) else none) i c).getD (-1)∧(jI (fun i q=>if p q then some (i:Int) else none) i c).getD (-1)< (i:Int)+c.length)
 |[],i=>.inl rfl
 |q::c,i=>by
  simp only [jI]
  cases h:p q
  ·have:=zIl (p:=p) c (i+1)
   simp only [Bool.false_eq_true,if_false,List.length_cons]
   rcases this with h|h
   ·exact .inl h
   ·exact .inr (by omega)
  ·simp only [if_true,Option.getD_some,List.length_cons]
   exact .inr (by omega)
theorem zKi (c:List Pack) (n:ByteArray) (v:Version):zGA c n v= -1∨(0≤zGA c n v∧zGA c n v<c.length):=by
 have:=zIl (p:=isB n v) c 0
 unfold zGA
 rcases this with h|h
 ·exact .inl h
 ·exact .inr (by simpa using h)
def zN0 (c:List Pack) (i:Nat) (p:Pack):Option Int:=if PF p !=0 then some (PF p) else if (c.take i).any (isB p.Name p.Version) then some 6 else none
def CF (c:List Pack):Int:=if decide ((c.length:Int)>24) then 2 else (jI (zN0 c) 0 c).getD 0
theorem zGq (c:List Pack) (hc:c.length≤1048576∧∀y0∈c,Pack.sm 1048576 y0):tQ c=some (CF c):=by
 have key:=uG c (zN0 c) (b:=jE c) (by
  intro i hi
  unfold jE zN0
  rw [if_pos (by simp; omega),zM hi]
  simp only [Option.bind_some]
  rw [zH4 _ (hc.2 _ (List.getElem_mem hi)),zFI (by omega)]
  simp only [Option.bind_some]
  obtain ⟨k,e,hk⟩:=find_spec (c.take i) c[i].Name c[i].Version (by simp; omega)
  rw [e,zN (by omega)]
  simp only [Option.bind_some]
  rw [hk]
  cases PF c[i] !=0<;>cases (c.take i).any (isB c[i].Name c[i].Version)<;>rfl) (by
  unfold jE
  rw [if_neg (by simp)])
 unfold tQ CF jX
 rw [key,zEL]
 cases decide ((c.length:Int)>24)<;>cases jI (zN0 c) 0 c<;>rfl
theorem zE0 (c:List Pack) (hc:c.length≤1048576∧∀y0∈c,Pack.sm 1048576 y0):wP c=some (CF c):=by
 have key:=uG c (zN0 c) (b:=tZ c) (by
  intro i hi
  unfold tZ zN0
  rw [if_pos (by simp; omega),zM hi]
  simp only [Option.bind_some]
  rw [zHC _ (hc.2 _ (List.getElem_mem hi)),zFI (by omega)]
  simp only [Option.bind_some]
  obtain ⟨k,e,hk⟩:=zM4 (c.take i) c[i].Name c[i].Version (by simp; omega)
  rw [e,zN (by omega)]
  simp only [Option.bind_some]
  rw [hk]
  cases PF c[i] !=0<;>cases (c.take i).any (isB c[i].Name c[i].Version)<;>rfl) (by
  unfold tZ
  rw [if_neg (by simp)])
 unfold wP CF jZ
 rw [key,zEL]
 cases decide ((c.length:Int)>24)<;>cases jI (zN0 c) 0 c<;>rfl
def noPack:Pack:= {Name:=ByteArray.empty,Version:= {A:=0,B:=0,C:=0},Size:=0,Provides:=[],Needs:=[],Bars:=[]}
def pat (c:List Pack) (k:Int):Pack:=(idx c k).getD noPack
def Places (c:List Pack) (a:List Int):Prop:=∀k∈a,0≤k∧k<c.length
theorem zOA {c:List Pack} {k:Int} (h:0≤k∧k<c.length):idx c k=some (pat c k)∧pat c k∈c:=by
 unfold pat idx
 rw [if_pos h.1]
 have:k.toNat<c.length:=by omega
 rw [List.getElem?_eq_getElem this]
 exact ⟨rfl,List.getElem_mem this⟩
def Cat (c:List Pack):Prop:=c.length≤1048576∧∀y0∈c,Pack.sm 1048576 y0
theorem zOG {p:Pack} (h:PF p=0):NF p.Name=0∧VF p.Version=0∧inB p.Size 1 200=true:=by
 unfold PF at h
 split at h
 ·rename_i h1; simp [h] at h1
 rename_i h1
 split at h
 ·rename_i h2; simp [h] at h2
 rename_i h2
 split at h
 ·cases h
 rename_i h3
 exact ⟨by simpa using h1,by simpa using h2,by simpa using h3⟩
def zJj (p:Pack):ByteArray:=bs [112,107,103,47]++(p.Name++(bs [45]++zPm p.Version))
theorem zLZ {p:Pack} (h1:NF p.Name=0) (h2:VF p.Version=0):(zJj p).size ≤28:=by
 have a1:=zKb h1
 have a2:=zGT h2
 have b1:(bs [112,107,103,47]).size =4:=rfl
 have b2:(bs [45]).size =1:=rfl
 unfold zJj
 simp only [zDJ]
 omega
theorem zKh {p:Pack} (h1:NF p.Name=0) (h2:VF p.Version=0):zDp p=some (zJj p):=by
 have a1:=zKb h1
 have a2:=zGT h2
 have b1:(bs [112,107,103,47]).size =4:=rfl
 have b2:(bs [45]).size =1:=rfl
 unfold zDp zJj
 rw [zFA h2,zDV (by omega)]
 simp only [Option.bind_some]
 rw [zDV (by rw [zDJ]; omega)]
 simp only [Option.bind_some]
 rw [zDV (by simp only [zDJ]; omega)]
 simp only [Option.bind_some,zIV]
theorem zMv {p:Pack} (h1:NF p.Name=0) (h2:VF p.Version=0):zBb p=some (zJj p):=by
 have a1:=zKb h1
 have a2:=zGT h2
 have b1:(bs [112,107,103,47]).size =4:=rfl
 have b2:(bs [45]).size =1:=rfl
 unfold zBb zJj
 rw [zNv h2,zDV (by omega)]
 simp only [Option.bind_some]
 rw [zDV (by rw [zDJ]; omega)]
 simp only [Option.bind_some]
 rw [zDV (by simp only [zDJ]; omega)]
 simp only [Option.bind_some,zIV]
theorem zIE:∀(k n:Nat),n<10^(k+1)→zFw (10^(k+1)+n)=49::(List.replicate (k+1-(zFw n).length) 48++zFw n)
 |0,n,h=>by
  have h':n<10:=by simpa using h
  rw [zEd (by simp),show (10^(0+1)+n) / 10=1 by simp; omega,show (10^(0+1)+n)%10=n by simp; omega,zBs (n:=1) (by omega),zBs h']
  rfl
 |k+1,n,h=>by
  have hp:1≤10^k:=Nat.one_le_pow _ _ (by omega)
  have e1:10^(k+1+1)=10*10^(k+1):=by rw [Nat.pow_succ]; omega
  rw [e1] at h
  have hq:n / 10<10^(k+1):=by omega
  have ih:=zIE k (n / 10) hq
  have hl:=zH2 k (n / 10) hq
  rw [e1,zEd (by omega),show (10*10^(k+1)+n) / 10=10^(k+1)+n / 10 by omega,show (10*10^(k+1)+n)%10=n%10 by omega,ih]
  by_cases hn:n<10
  ·rw [show n / 10=0 by omega,zBs (n:=0) (by omega),zBs hn,show n%10=n by omega]
   simp only [List.length_singleton,List.cons_append,List.append_assoc,List.nil_append]
   rw [show k+1+1-1=k+1 by omega,show k+1-1=k by omega]
   rw [show List.replicate (k+1) (48:Int)=List.replicate k 48++[48] from List.replicate_succ']
   simp
  ·rw [zEd hn,List.length_append]
   simp only [List.length_singleton,List.cons_append,List.append_assoc]
   rw [show k+1+1-((zFw (n / 10)).length +1)=k+1-(zFw (n / 10)).length by omega]
theorem zPB (l:List UInt8):bl ⟨l.toArray⟩=l.map (fun b=>(b.toNat:Int)):=by
 unfold bl
 rw [ByteArray.toList_eq]
theorem zHY (u:UInt8):∀(n:Nat),Lib.repeatL [u] n=List.replicate n u
 |0=>rfl
 |n+1=>by rw [Lib.repeatL,zHY u n,List.replicate_succ]; rfl
def zQq (n:Int):List Int:=[103,101,110,47]++(List.replicate (6-(zFw n.toNat).length) 48++zFw n.toNat)
theorem zMX (l:List UInt8):(bs l).data.toList =l:=rfl
def zLa (n:Int):ByteArray:=bs [103,101,110,47]++(⟨(List.replicate (6-(zFw n.toNat).length) (48:UInt8)).toArray⟩++zIY n.toNat)
theorem zIz (n:Int):bl (zLa n)=zQq n:=by
 unfold zLa zQq
 rw [zDR,zDR,zKT,zPB,zF7,List.map_replicate]
 rfl
theorem zLt {n:Nat} (h:n≤999999):1≤(zFw n).length ∧(zFw n).length ≤6:=by
 refine ⟨?_,zH2 5 n (by omega)⟩
 by_cases hn:n<10
 ·rw [zBs hn]; simp
 ·rw [zEd hn,List.length_append]; simp
theorem zKz {s:ByteArray} {l h:Nat} (h1:l≤h) (h2:h≤s.size):zHS s (l:Int) (h:Int)=some (s.extract l h):=by
 unfold zHS
 rw [if_pos (by omega)]
 rfl
theorem zGz {n:Int} (h0:0≤n) (h1:n≤999999):kI n=some (zLa n):=by
 have hd:=zLt (n:=n.toNat) (by omega)
 have hs:(zIY n.toNat).size =(zFw n.toNat).length :=by rw [←yO,zF7]
 have hf:=zG1 n.toNat (by omega)
 rw [Int.toNat_of_nonneg h0] at hf
 have h4:(bs [103,101,110,47]).size =4:=rfl
 unfold kI zBV
 rw [hf]
 simp only [Option.bind_some]
 rw [hs,xS (by omega) (by omega)]
 unfold strings_Repeat
 rw [if_pos ⟨by omega,by omega,by rw [show (bs [48]).size =1 from rfl]; omega⟩,zMX,zHY]
 simp only [Option.bind_some]
 have hr:(⟨(List.replicate (6-((zFw n.toNat).length :Int)).toNat (48:UInt8)).toArray⟩:ByteArray).size =6-(zFw n.toNat).length :=by
  rw [←yO,zPB]
  simp
 rw [zDV (by rw [hr]; omega)]
 simp only [Option.bind_some]
 rw [zDV (by rw [zDJ,hr]; omega)]
 unfold zLa
 rw [show (6-((zFw n.toNat).length :Int)).toNat =6-(zFw n.toNat).length by omega]
 simp only [Option.bind_some,zIV]
theorem zGx (n:Int):wH n=some (if inB n 1 999999 then zLa n else bs []):=by
 unfold wH
 rw [zKQ]
 simp only [Option.bind_some]
 cases h:inB n 1 999999
 ·rfl
 have h':1≤n∧n≤999999:=by simpa [inB] using h
 rw [if_neg (by simp),xS (by omega) (by omega)]
 have e:=zG7 (1000000+n.toNat) (by omega)
 rw [show ((1000000+n.toNat:Nat):Int)=1000000+n by omega] at e
 rw [e]
 simp only [Option.bind_some]
 have hp:=zIE 5 n.toNat (by omega)
 rw [show 10^(5+1)+n.toNat=1000000+n.toNat by omega] at hp
 have hd:=zLt (n:=n.toNat) (by omega)
 have hz:(zIY (1000000+n.toNat)).size =7:=by
  rw [←yO,zF7,hp]
  simp
  omega
 have e2:=zKz (s:=zIY (1000000+n.toNat)) (l:=1) (h:=(zIY (1000000+n.toNat)).size) (by omega) (Nat.le_refl _)
 rw [show ((1:Nat):Int)=1 from rfl] at e2
 rw [e2]
 simp only [Option.bind_some]
 have hx:((zIY (1000000+n.toNat)).extract 1 (zIY (1000000+n.toNat)).size).size =6:=by
  rw [←yO,zDv,zF7,hp,hz]
  simp
  omega
 rw [zDV (by rw [hx]; decide)]
 simp only [Option.bind_some,if_true]
 congr 1
 refine zIr.1 ?_
 rw [zDR,zDv,zF7,hp,zIz,zKT,hz]
 unfold zQq
 rw [List.take_of_length_le (by simp; omega)]
 rfl
theorem zNb {α:Type} {g:Nat→α→Option Int} (hg:∀i x,g i x≠some 0):∀(l:List α) (i:Nat),(jI g i l).getD 0=0→jI g i l=none
 |[],_,_=>rfl
 |x::l,i,h=>by
  simp only [jI] at h ⊢
  cases hx:g i x with
  |none=>rw [hx] at h; exact zNb hg l (i+1) h
  |some r=>
   rw [hx] at h
   simp only [Option.getD_some] at h
   subst h
   exact absurd hx (hg i x)
theorem zMO {c:List Pack} (h:CF c=0):c.length≤24∧(∀p∈c,PF p=0)∧∀(j:Nat) (hj:j<c.length),(c.take j).any (isB c[j].Name c[j].Version)=false:=by
 unfold CF at h
 split at h
 ·cases h
 rename_i h1
 have h2:=zNb (g:=zN0 c) (fun i x=>by
  unfold zN0
  split
  ·rename_i h3
   intro e
   rw [Option.some.inj e] at h3
   simp at h3
  ·split<;>simp) c 0 h
 rw [zJ3] at h2
 have h3:∀(j:Nat) (hj:j<c.length),PF c[j]=0∧(c.take j).any (isB c[j].Name c[j].Version)=false:=by
  intro j hj
  have:=h2 j hj
  unfold zN0 at this
  rw [Nat.zero_add] at this
  split at this
  ·cases this
  ·rename_i h4
   split at this
   ·cases this
   ·rename_i h5
    exact ⟨by simpa using h4,by simpa using h5⟩
 refine ⟨by simp at h1; omega,fun p hp=>?_,fun j hj=>(h3 j hj).2⟩
 obtain ⟨j,hj,rfl⟩:=List.getElem_of_mem hp
 exact (h3 j hj).1
theorem zLy:∀{a:List Int} {lo hi:Int},a.Pairwise (· < ·)→(∀k∈a,lo≤k∧k<hi)→(a.length:Int)≤hi-lo∨a=[]
 |[],_,_,_,_=>.inr rfl
 |x::a,lo,hi,hp,hb=>by
  obtain ⟨h1,h2⟩:=List.pairwise_cons.1 hp
  have hx:=hb x (by simp)
  have:=zLy (lo:=x+1) (hi:=hi) h2 (fun k hk=>⟨by have:=h1 k hk; omega,(hb k (by simp [hk])).2⟩)
  refine .inl ?_
  rcases this with h3|h3
  ·simp only [List.length_cons]; omega
  ·subst h3; simp; omega
theorem zJY (s:ByteArray):s.data.toList.map (fun b=>(b.toNat:Int))=bl s:=by
 unfold bl
 rw [ByteArray.toList_eq]
def fileOf (d:zC) (p:ByteArray):Option File:=d.Files.find? (fun f=>decide (f.Path=p))
def Byt (d:zC):Prop:=∀f∈d.Files,∀c∈f.Data,0≤c∧c≤255
theorem zMB (d:zC) (p:ByteArray) (hg:d.good):
  (∃k:Nat,∃hk:k<d.Files.length,yK d p=some (k:Int)∧yR d p=some (d.Files[k].Data,true)∧fileOf d p=some d.Files[k])∨
   (yK d p=some (-1)∧yR d p=some ([],false)∧fileOf d p=none):=by
 rcases zFH d p hg with ⟨k,hk,e1,e2,hp⟩|⟨e1,e2,hp⟩
 ·exact .inl ⟨k,hk,e1,e2,zM5 hg.sorted hk hp⟩
 ·exact .inr ⟨e1,e2,zJR hp⟩
def Pkz (c:List Pack):Prop:=∀p∈c,NF p.Name=0∧VF p.Version=0∧(1≤p.Size∧p.Size≤200)
theorem zP1 {c:List Pack} (h:CF c=0):Pkz c:=fun p hp=>by
 obtain ⟨h1,h2,h3⟩:=zOG ((zMO h).2.1 p hp)
 refine ⟨h1,h2,?_⟩
 unfold inB at h3
 simpa using h3
theorem zEW {α:Type} (q:α→Bool):∀(l:List α) (i:Nat) (acc:List α),foldI (fun _ a x=>if q x then a++[x] else a) i l acc=acc++l.filter q
 |[],_,acc=>by simp [foldI]
 |x::l,i,acc=>by
  simp only [foldI]
  rw [zEW q l (i+1)]
  cases h:q x<;>simp [h]
theorem zL5 {c:List Pack} {d:zC} (hc:Cat c):∀r,vB d=some r→zCi c d=some (if CF c !=0 then CF c else r):=by
 intro r hr
 unfold zCi
 rw [zGq c hc,hr]
 simp only [Option.bind_some]
 cases CF c !=0<;>rfl
def zFt (c:Int):List Int→List (List Int)
 |[]=>[[]]
 |x::l=>if x=c then []::zFt c l else match zFt c l with
  |h::t=>(x::h)::t
  |[]=>[[x]]
theorem zIP (c:Int):∀l,zFt c l≠[]
 |[]=>by simp [zFt]
 |x::l=>by
  unfold zFt
  split
  ·simp
  ·split<;>simp
theorem zIc {c:Int}:∀{l:List Int},(∀x∈l,0≤x∧x≤255)→∀p∈zFt c l,∀x∈p,0≤x∧x≤255
 |[],_=>by simp [zFt]
 |y::l,h=>by
  have ih:=zIc (c:=c) (l:=l) (fun x hx=>h x (by simp [hx]))
  intro p hp
  unfold zFt at hp
  split at hp
  ·rcases List.mem_cons.1 hp with rfl|hp
   ·simp
   ·exact ih p hp
  ·split at hp
   ·rename_i a t e
    rcases List.mem_cons.1 hp with rfl|hp
    ·intro x hx
     rcases List.mem_cons.1 hx with rfl|hx
     ·exact h _ (by simp)
     ·exact ih a (by rw [e]; simp) x hx
    ·exact ih p (by rw [e]; simp [hp])
   ·rename_i e
    exact absurd e (zIP c l)
theorem zF0 (c:Int):∀l,(zFt c l).length ≤l.length+1
 |[]=>by simp [zFt]
 |x::l=>by
  have ih:=zF0 c l
  unfold zFt
  split
  ·simp; omega
  ·split
   ·rename_i e; rw [e] at ih; simp at ih ⊢; omega
   ·simp
theorem zHc (c:Int):∀l,∀p∈zFt c l,p.length≤l.length
 |[]=>by simp [zFt]
 |x::l=>by
  have ih:=zHc c l
  intro p hp
  unfold zFt at hp
  split at hp
  ·rcases List.mem_cons.1 hp with rfl|hp
   ·simp
   ·have:=ih p hp; simp; omega
  ·split at hp
   ·rename_i a t e
    rcases List.mem_cons.1 hp with rfl|hp
    ·have:=ih a (by rw [e]; simp); simp; omega
    ·have:=ih p (by rw [e]; simp [hp]); simp; omega
   ·simp at hp; rw [hp]; simp
def tT (c:Int) (s:ByteArray):List ByteArray:=(zFt c (bl s)).map b2s
theorem zHh (c:Int) (s:ByteArray):(tT c s).map bl=zFt c (bl s):=by
 unfold tT
 rw [List.map_map]
 have:∀p∈zFt c (bl s),(bl ∘ b2s) p=id p:=fun p hp=>zLb (zIc zI0 p hp)
 rw [List.map_congr_left this,List.map_id]
theorem zIq:∀{a b:List ByteArray},a.map bl=b.map bl→a=b
 |[],[],_=>rfl
 |[],_::_,h=>by simp at h
 |_::_,[],h=>by simp at h
 |x::a,y::b,h=>by
  simp only [List.map_cons,List.cons.injEq] at h
  rw [zIr.1 h.1,zIq h.2]
theorem zJ8 {c:Int} {s:ByteArray} {ps:List ByteArray} (h:ps.map bl=zFt c (bl s)):ps=tT c s:=zIq (h.trans (zHh c s).symm)
def zNK (c:UInt8):List UInt8→List (List UInt8)
 |[]=>[[]]
 |x::l=>if x=c then []::zNK c l else match zNK c l with
  |h::t=>(x::h)::t
  |[]=>[[x]]
theorem zJa (c:UInt8):∀(l:List UInt8),(zNK c l).map (fun p=>p.map (fun b=>(b.toNat:Int)))=zFt (c.toNat:Int) (l.map (fun b=>(b.toNat:Int)))
 |[]=>rfl
 |x::l=>by
  have ih:=zJa c l
  simp only [List.map_cons]
  unfold zNK zFt
  by_cases h:x=c
  ·subst h
   rw [if_pos rfl,if_pos rfl,List.map_cons,ih]
   rfl
  ·have h':¬((x.toNat:Int)=(c.toNat:Int)):=fun e=>h (UInt8.toNat_inj.1 (by omega))
   rw [if_neg h,if_neg h',←ih]
   cases hc:zNK c l with
   |nil=>rfl
   |cons a t=>rfl
theorem zJq (c:UInt8):∀(l:List UInt8),c∉l→zNK c l=[l]
 |[],_=>rfl
 |x::l,h=>by
  unfold zNK
  rw [if_neg (fun e=>h (by simp [e])),zJq c l (fun e=>h (by simp [e]))]
theorem index_one (c b:UInt8) (l:List UInt8):Lib.index (b::l) [c]=if b=c then 0 else if Lib.index l [c]== -1 then-1 else Lib.index l [c]+1:=by
 rw [Lib.index]
 have:([c].isPrefixOf (b::l))=decide (b=c):=by
  simp only [List.isPrefixOf,Bool.and_true]
  rw [Bool.eq_iff_iff,beq_iff_eq,decide_eq_true_eq]
  exact ⟨fun h=>h.symm,fun h=>h.symm⟩
 rw [this]
 by_cases h:b=c<;>simp [h]
theorem zGj (c:UInt8):∀(l:List UInt8) (k:Nat),l.count c≤k→Lib.splitK [c] 0 k l=zNK c l
 |[],k,_=>by
  cases k with
  |zero=>rfl
  |succ k=>rfl
 |b::l,0,h=>by
  have hn:c∉b::l:=List.count_eq_zero.1 (by omega)
  rw [zJq c _ hn]
  rfl
 |b::l,k+1,h=>by
  unfold zNK
  by_cases hb:b=c
  ·subst hb
   rw [if_pos rfl]
   have e:Lib.index (b::l) [b]=0:=by rw [index_one,if_pos rfl]
   rw [Lib.splitK,e]
   simp only [List.count_cons_self] at h
   rw [if_neg (by decide)]
   show []::Lib.splitK [b] 0 k ((b::l).drop 1)=_
   rw [List.drop_one,List.tail_cons,zGj b l k (by omega)]
  ·rw [if_neg hb]
   have hc:l.count c≤k+1:=by rw [List.count_cons_of_ne hb] at h; exact h
   have ih:=zGj c l (k+1) hc
   rw [←ih,Lib.splitK,Lib.splitK,index_one,if_neg hb]
   cases hi:Lib.index l [c]== -1
   ·have hge:=Lib.index_ge l [c]
    have hne:Lib.index l [c]≠ -1:=by simpa using hi
    have hne':(Lib.index l [c]+1== -1)=false:=by
     rw [beq_eq_false_iff_ne]; omega
    simp only [Bool.false_eq_true,if_false,hne']
    rw [show (Lib.index l [c]+1).toNat =(Lib.index l [c]).toNat +1 by omega]
    simp only [Nat.add_zero,List.length_singleton,List.take_succ_cons,List.drop_succ_cons]
   ·simp
theorem zGg (s:ByteArray) (c:UInt8) (h:s.size≤1048577):strings_Split s ⟨#[c]⟩=some (tT (c.toNat:Int) s):=by
 unfold strings_Split
 rw [if_pos ⟨by omega,by show 1≤1; omega⟩]
 congr 1
 refine zJ8 ?_
 have e:=Lib.splitB_data ⟨#[c]⟩ 0 (Lib.countB s ⟨#[c]⟩) s
 have e2:Lib.countB s ⟨#[c]⟩=s.data.toList.count c:=Lib.count_one c s.data.toList
 rw [e2] at e ⊢
 rw [show (⟨#[c]⟩:ByteArray).data.toList =[c] from rfl,zGj c _ _ (Nat.le_refl _)] at e
 have e3:∀ps:List ByteArray,ps.map bl=(ps.map (·.data.toList)).map (fun p=>p.map (fun b=>(b.toNat:Int))):=by
  intro ps
  rw [List.map_map]
  exact List.map_congr_left (fun p _=>(zJY p).symm)
 rw [e3,e,zJa,zJY]
def zLG (c:Int) (l:List Int):List (List Int)×List Int:=l.foldl (fun a x=>if x=c then (a.1++[a.2],[]) else (a.1,a.2++[x])) ([],[])
theorem zLo (c:Int):∀(l:List Int) (a:List (List Int)×List Int),(l.foldl (fun a x=>if x=c then (a.1++[a.2],[]) else (a.1,a.2++[x])) a).1++[(l.foldl (fun a x=>if x=c then (a.1++[a.2],[]) else (a.1,a.2++[x])) a).2]=
  a.1++(match zFt c l with|h::t=>(a.2++h)::t|[]=>[a.2])
 |[],a=>by simp [zFt]
 |x::l,a=>by
  simp only [List.foldl_cons]
  rw [zLo c l]
  have hn:=zIP c l
  by_cases h:x=c
  ·rw [if_pos h]
   conv=>rhs; unfold zFt
   rw [if_pos h]
   cases hc:zFt c l with
   |nil=>exact absurd hc hn
   |cons a t=>simp
  ·rw [if_neg h]
   conv=>rhs; unfold zFt
   rw [if_neg h]
   cases hc:zFt c l with
   |nil=>exact absurd hc hn
   |cons a t=>simp
theorem zMu (c:Int) (l:List Int):(zLG c l).1++[(zLG c l).2]=zFt c l:=by
 unfold zLG
 rw [zLo c l ([],[])]
 cases h:zFt c l with
 |nil=>exact absurd h (zIP c l)
 |cons a t=>simp
theorem zFN (c:Int) (l:List Int) (x:Int):zLG c (l++[x])=if x=c then ((zLG c l).1++[(zLG c l).2],[]) else ((zLG c l).1,(zLG c l).2++[x]):=by
 unfold zLG
 rw [List.foldl_append]
 rfl
theorem zND (c:Int) (l:List Int):(zLG c l).1.length ≤l.length:=by
 have h1:=zMu c l
 have h2:=zF0 c l
 rw [←h1] at h2
 simp at h2
 exact h2
theorem zES (s:ByteArray) (c:Int) (h:s.size≤1048577):jA s c=some (tT c s):=by
 have hlen:=yO s
 obtain ⟨t,e,ht⟩:=uT (b:=zBO s c) (fun i q=>q.2.2=(i:Int)∧
   ((i≤s.size∧q.1.map bl=(zLG c ((bl s).take i)).1∧∃f:Nat,q.2.1=(f:Int)∧f≤i∧((bl s).drop f).take (i-f)=(zLG c ((bl s).take i)).2)∨(i=s.size+1∧q.1.map bl=zFt c (bl s)))) (s.size+1)
  (fun t=>t.map bl=zFt c (bl s)) (by
  rintro i ⟨out,from_,j⟩ hi ⟨hj,hI⟩
  simp only at hj hI
  subst hj
  rcases hI with ⟨hle,ho,f,hf,hfi,hc⟩|⟨he,_⟩
  case inr=>omega
  subst hf
  have hol:out.length≤i:=by
   have:=congrArg List.length ho
   rw [List.length_map] at this
   rw [this]
   refine Nat.le_trans (zND _ _) ?_
   simp
   omega
  unfold zBO
  rw [if_pos (by simp; omega)]
  simp only
  by_cases hn:i=s.size
  ·subst hn
   have es:zHS s (f:Int) (s.size:Int)=some (s.extract f s.size):=zKz hfi (Nat.le_refl _)
   rw [if_pos (by simp)]
   simp only [Option.bind_some,if_true]
   rw [es]
   simp only [Option.bind_some]
   rw [zBe (by simp; omega) (by simp; omega),zN (by omega)]
   refine .inl ⟨_,rfl,rfl,.inr ⟨trivial,?_⟩⟩
   have htk:(bl s).take s.size=bl s:=by rw [←hlen,List.take_length]
   rw [htk] at ho hc
   rw [List.map_append,ho,←zMu]
   simp only [List.map_cons,List.map_nil]
   rw [zDv,hc]
  ·have hlt:i< (bl s).length :=by omega
   have htk:(bl s).take (i+1)=(bl s).take i++[(bl s)[i]]:=List.take_succ_eq_append_getElem hlt
   rw [if_neg (by simp; omega),zE6 hlt]
   simp only [Option.bind_some]
   by_cases hb:(bl s)[i]=c
   ·rw [show ((bl s)[i]==c)=true by simpa using hb]
    simp only [if_true]
    have es:zHS s (f:Int) (i:Int)=some (s.extract f i):=zKz hfi (by omega)
    rw [es]
    simp only [Option.bind_some]
    rw [zBe (by simp; omega) (by simp; omega),zN (by omega)]
    refine .inl ⟨_,rfl,rfl,.inl ⟨by omega,?_,i+1,rfl,Nat.le_refl _,?_⟩⟩
    ·rw [htk,zFN,if_pos hb,List.map_append,ho]
     simp only [List.map_cons,List.map_nil]
     rw [zDv,hc]
    ·rw [htk,zFN,if_pos hb]
     simp
   ·rw [show ((bl s)[i]==c)=false by simpa using hb]
    simp only [Bool.false_eq_true,if_false,Option.bind_some]
    rw [zN (by omega)]
    refine .inl ⟨_,rfl,rfl,.inl ⟨by omega,?_,f,rfl,by omega,?_⟩⟩
    ·rw [htk,zFN,if_neg hb]
     exact ho
    ·rw [htk,zFN,if_neg hb,←hc,show i+1-f=(i-f)+1 by omega]
     have hd:i-f< ((bl s).drop f).length :=by simp; omega
     rw [List.take_succ_eq_append_getElem hd]
     congr 2
     rw [List.getElem_drop]
     congr 1
     omega) (by
  rintro ⟨out,from_,j⟩ ⟨hj,hI⟩
  simp only at hj hI
  subst hj
  rcases hI with ⟨hle,_⟩|⟨_,ho⟩
  ·omega
  unfold zBO
  rw [if_neg (by simp; omega)]
  exact ⟨_,rfl,ho⟩) (s.size+1) 0 (([]:List ByteArray),0,0) (by omega) ⟨rfl,.inl ⟨by omega,rfl,0,rfl,by omega,by simp [zLG]⟩⟩
 unfold jA zC9
 rw [e,zJ8 ht]
 rfl
def zDZ (s:ByteArray):List ByteArray:=if (tT 10 s).getLast? =some (bs []) then (tT 10 s).dropLast else tT 10 s
theorem zIj (ps:List ByteArray) (h0:ps≠[]) (hl:ps.length≤1048578):((idx ps (w64 ((ps.length:Int)-1))).bind fun x4=>(if seq x4 (bs []) then ((zEH ps 0 (w64 ((ps.length:Int)-1))).bind fun x7=>some x7) else (some ps)).bind fun v9=>some v9)=
  some (if ps.getLast? =some (bs []) then ps.dropLast else ps):=by
 have hp:0<ps.length:=List.length_pos_iff.2 h0
 rw [xS (by omega) (by omega),show (ps.length:Int)-1=((ps.length-1:Nat):Int) by omega,zM (show ps.length-1<ps.length by omega)]
 simp only [Option.bind_some]
 have hg:ps.getLast? =some ps[ps.length-1]:=by
  rw [List.getLast?_eq_getElem?,List.getElem?_eq_getElem]
 rw [hg]
 by_cases h:ps[ps.length-1]=bs []
 ·rw [if_pos (zGr.2 h),if_pos (by rw [h])]
  have e:zEH ps 0 ((ps.length-1:Nat):Int)=some (ps.take (ps.length-1)):=zFI (by omega)
  rw [e,List.dropLast_eq_take]
  rfl
 ·have hs:seq ps[ps.length-1] (bs [])=false:=by
   cases hq:seq ps[ps.length-1] (bs []) with
   |false=>rfl
   |true=>exact absurd (zGr.1 hq) h
  rw [hs,if_neg (show ¬(some ps[ps.length-1]=some (bs [])) from fun e=>h (Option.some.inj e))]
  rfl
theorem zJW (c:Int) (s:ByteArray):tT c s≠[]:=by
 unfold tT
 intro h
 exact zIP c (bl s) (List.map_eq_nil_iff.1 h)
theorem zE4 (c:Int) (s:ByteArray):(tT c s).length ≤s.size+1:=by
 unfold tT
 rw [List.length_map,←yO]
 exact zF0 c (bl s)
theorem zJE (s:ByteArray) (h:s.size≤1048577):zCq s=some (zDZ s):=by
 unfold zCq
 rw [zES s 10 h]
 exact zIj _ (zJW _ _) (by have:=zE4 10 s; omega)
theorem zJb (s:ByteArray) (h:s.size≤1048577):zCr s=some (zDZ s):=by
 unfold zCr
 have e:=zGg s 10 h
 rw [show (((10:UInt8).toNat :Nat):Int)=10 from rfl] at e
 rw [show bs [10]=⟨#[10]⟩ from rfl,e]
 exact zIj _ (zJW _ _) (by have:=zE4 10 s; omega)
theorem zHZ (s:ByteArray):(zDZ s).length ≤s.size+1:=by
 have:=zE4 10 s
 unfold zDZ
 split
 ·simp; omega
 ·exact this
theorem zHe (s:ByteArray):∀p∈zDZ s,p.size≤s.size:=by
 intro p hp
 have hm:p∈tT 10 s:=by
  unfold zDZ at hp
  split at hp
  ·exact (List.dropLast_sublist _).subset hp
  ·exact hp
 have hb:bl p∈zFt 10 (bl s):=by
  rw [←zHh]
  exact List.mem_map_of_mem hm
 have:=zHc 10 (bl s) _ hb
 rw [yO,yO] at this
 exact this
def zQ2:zP:= {Code:=5,Version:=zeroV}
def zEF (i:Nat) (a:List Int) (x:ByteArray):Lp (List Int) (Fl zP (List Int)):=match zH3 (bl x) 3 with
 |some n=>.go (a.set i n)
 |none=>.done (.ret zQ2)
def zQl (t:Fl zP (List Int)):zP:=match t with
 | .ret r=>r
 | .nxt l=> {Code:=0,Version:= {A:=l.getD 0 0,B:=l.getD 1 0,C:=l.getD 2 0}}
def PV (s:ByteArray):zP:=if (tT 46 s).length >3 then zQ2 else zQl (goL zEF .nxt 0 (tT 46 s) [0,0,0])
theorem zKe {l:List Int} {n:Int} (h:zH3 l 3=some n):0≤n:=by
 unfold zH3 at h
 split at h
 ·cases h
 ·rename_i h1
  cases h
  exact (zDW (l:=l) (by
   intro c hc
   cases hd:zFW c with
   |true=>rfl
   |false=>exact absurd (.inr (.inr (fun h'=>by rw [h' c hc] at hd; cases hd))) h1)).1
theorem zIW:∀(ps:List ByteArray) (i:Nat) (a:List Int),a.length=3→match goL zEF Fl.nxt i ps a with| .ret r=>r=zQ2| .nxt l=>l.length=3
 |[],_,a,h=>h
 |p::ps,i,a,h=>by
  simp only [goL]
  unfold zEF
  cases hn:zH3 (bl p) 3 with
  |none=>rfl
  |some n=>exact zIW ps (i+1) (a.set i n) (by simpa using h)
theorem zGe (s:ByteArray) (h:s.size≤1048577):vQ s=some (PV s):=by
 unfold vQ PV
 rw [zES s 46 h]
 simp only [Option.bind_some]
 by_cases hl:(tT 46 s).length >3
 ·rw [if_pos (by simp; omega),if_pos hl]; rfl
 rw [if_neg (by simp; omega),if_neg hl]
 have key:=zJ9 (tT 46 s) zEF Fl.nxt (fun i a=>(a,(i:Int))) (fun _ a=>a.length=3) (b:=jB (tT 46 s)) [0,0,0] (by
  intro i a hi ha
  unfold jB zEF
  rw [if_pos (by simp; omega),zM hi]
  simp only [Option.bind_some,zEA _ 3 (by omega)]
  cases hn:zH3 (bl (tT 46 s)[i]) 3 with
  |none=>exact ⟨rfl,fun a' h=>by cases h⟩
  |some n=>
   simp only [Bool.not_true,Bool.false_eq_true,if_false]
   rw [zM (show i<a.length by omega),zN (by omega)]
   exact ⟨rfl,fun a' h=>by cases h; simpa using ha⟩) (by
  intro a ha
  unfold jB
  rw [if_neg (by simp)]) rfl
 unfold jW
 rw [show ((0:Nat):Int)=0 from rfl] at key
 rw [key]
 have h3:=zIW (tT 46 s) 0 [0,0,0] rfl
 cases hg:goL zEF Fl.nxt 0 (tT 46 s) [0,0,0] with
 |ret r=>rfl
 |nxt l=>
  rw [hg] at h3
  match l,h3 with
  |[x,y,z],_=>rfl
theorem zGd (s:ByteArray) (h:s.size≤1048577):tC s=some (PV s):=by
 unfold tC PV
 have e:=zGg s 46 h
 rw [show (((46:UInt8).toNat :Nat):Int)=46 from rfl] at e
 rw [show bs [46]=⟨#[46]⟩ from rfl,e]
 simp only [Option.bind_some]
 by_cases hl:(tT 46 s).length >3
 ·rw [if_pos (by simp; omega),if_pos hl]; rfl
 rw [if_neg (by simp; omega),if_neg hl]
 have key:=zJ9 (tT 46 s) zEF Fl.nxt (fun i a=>(a,(i:Int))) (fun _ a=>a.length=3) (b:=jC (tT 46 s)) [0,0,0] (by
  intro i a hi ha
  have hia:i<a.length:=by omega
  unfold jC zEF
  rw [if_pos (by simp; omega),zM hi]
  simp only [Option.bind_some,number_eq _ 3 (by omega)]
  have ea:∀(b:List Int),b.length=3→zNz b 3 (i:Int)=idx b (i:Int):=fun b hb=>if_pos hb
  rw [ea a ha,zM hia]
  simp only [Option.bind_some,Int.toNat_natCast]
  rw [ea _ (by simpa using ha),zM (by simpa using hia)]
  simp only [Option.bind_some,List.getElem_set_self]
  cases hn:zH3 (bl (tT 46 s)[i]) 3 with
  |none=>exact ⟨rfl,fun a' h=>by cases h⟩
  |some n=>
   have:=zKe hn
   simp only
   rw [if_neg (by simpa using this),zN (by omega)]
   exact ⟨rfl,fun a' h=>by cases h; simpa using ha⟩) (by
  intro a ha
  unfold jC
  rw [if_neg (by simp)]) rfl
 unfold jU
 rw [show ((0:Nat):Int)=0 from rfl] at key
 rw [key]
 have h3:=zIW (tT 46 s) 0 [0,0,0] rfl
 cases hg:goL zEF Fl.nxt 0 (tT 46 s) [0,0,0] with
 |ret r=>rfl
 |nxt l=>
  rw [hg] at h3
  match l,h3 with
  |[x,y,z],_=>rfl
theorem zFm:∀{l1 l2:List Int},l1.Pairwise (· < ·)→l2.Pairwise (· < ·)→(∀x,x∈l1↔x∈l2)→l1=l2
 |[],[],_,_,_=>rfl
 |[],y::l2,_,_,h=>by have:=(h y).2 (by simp); simp at this
 |x::l1,[],_,_,h=>by have:=(h x).1 (by simp); simp at this
 |x::l1,y::l2,h1,h2,h=>by
  rw [List.pairwise_cons] at h1 h2
  have hxy:x=y:=by
   have hx:=(h x).1 (by simp)
   have hy:=(h y).2 (by simp)
   rcases List.mem_cons.1 hx with e|hx
   ·exact e
   ·rcases List.mem_cons.1 hy with e|hy
    ·exact e.symm
    ·have:=h1.1 y hy
     have:=h2.1 x hx
     omega
  subst hxy
  congr 1
  refine zFm h1.2 h2.2 fun z=>?_
  constructor
  ·intro hz
   rcases List.mem_cons.1 ((h z).1 (List.mem_cons_of_mem _ hz)) with e|hz'
   ·have:=h1.1 z hz; omega
   ·exact hz'
  ·intro hz
   rcases List.mem_cons.1 ((h z).2 (List.mem_cons_of_mem _ hz)) with e|hz'
   ·have:=h2.1 z hz; omega
   ·exact hz'
theorem zEK {l:List Int} (h:l.Pairwise (· < ·)) {i j:Nat} (hi:i<l.length) (hj:j<l.length) (hij:i<j):l[i]<l[j]:=List.pairwise_iff_getElem.1 h i j hi hj hij
theorem zGG (l:List Int) (v:Int) (hs:l.Pairwise (· < ·)) (hv:v∉l) (hl:l.length≤1048576):
  ∃r,wX l v=some r∧r.Pairwise (· < ·)∧(∀x,x∈r↔x∈l∨x=v)∧r.length=l.length+1:=by
 obtain ⟨⟨acc,inn⟩,e,h1,h2,h3,h4⟩:=uT (b:=zCQ l v)
  (fun i s=>s.2.2=(i:Int)∧s.1.Pairwise (· < ·)∧(∀x,x∈s.1↔x∈l.take i∨(s.2.1=true∧x=v))∧s.1.length=i+(if s.2.1 then 1 else 0)∧(s.2.1=false→∀x∈l.take i,x<v)∧(s.2.1=true→∀x∈l.drop i,v<x)) l.length
  (fun t=>t.1.Pairwise (· < ·)∧(∀x,x∈t.1↔x∈l∨(t.2=true∧x=v))∧t.1.length=l.length+(if t.2 then 1 else 0)∧(t.2=false→∀x∈l,x<v)) (by
  rintro i ⟨acc,inn,j⟩ hi ⟨hj,hp,hm,hlen,hf,ht⟩
  simp only at hj hp hm hlen hf ht
  subst hj
  have hlt:∀x∈l.take i,x<l[i]:=by
   intro x hx
   obtain ⟨k,hk,rfl⟩:=List.mem_iff_getElem.1 hx
   rw [List.getElem_take]
   have:k<i:=by simp at hk; omega
   exact zEK hs (by omega) hi this
  have htk:l.take (i+1)=l.take i++[l[i]]:=List.take_succ_eq_append_getElem hi
  have hdr:l.drop i=l[i]::l.drop (i+1):=List.drop_eq_getElem_cons hi
  have hne:l[i]≠v:=fun e=>hv (e▸List.getElem_mem hi)
  have hal:acc.length≤1048577:=by rw [hlen]; split<;>omega
  unfold zCQ
  rw [if_pos (by simp; omega),zM hi]
  simp only [Option.bind_some]
  rw [zN (by omega)]
  refine .inl ?_
  cases inn
  ·by_cases hgt:l[i]>v
   ·rw [if_pos (by simpa using hgt)]
    simp only [Bool.not_false,Option.bind_some,if_true]
    rw [zBe (by simp; omega) (by simp; omega)]
    simp only [Option.bind_some]
    rw [zBe (by simp; omega) (by simp; omega)]
    refine ⟨_,rfl,rfl,?_,?_,?_,by simp,?_⟩
    ·simp only
     have hav:∀x∈acc,x<v:=fun x hx=>hf rfl x (by have:=(hm x).1 hx; simpa using this)
     rw [List.pairwise_append,List.pairwise_append]
     refine ⟨⟨hp,by simp,fun x hx y hy=>by simp at hy; rw [hy]; exact hav x hx⟩,by simp,fun x hx y hy=>?_⟩
     simp at hy
     rw [hy]
     rcases List.mem_append.1 hx with hx|hx
     ·have:=hav x hx; omega
     ·simp at hx; omega
    ·intro x
     have:=hm x
     simp only [List.mem_append,List.mem_singleton,htk]
     simp at this
     rw [this]
     simp
     constructor<;>(intro h; rcases h with (h|h)|h<;>simp [h])
    ·simp; simp at hlen; omega
    ·intro _ x hx
     have:l[i]<x:=by
      obtain ⟨k,hk,rfl⟩:=List.mem_iff_getElem.1 hx
      rw [List.getElem_drop]
      simp at hk
      exact zEK hs hi (by omega) (by omega)
     omega
   ·rw [if_neg (by simpa using hgt)]
    simp only [Option.bind_some,Bool.false_eq_true,if_false]
    rw [zBe (by simp; omega) (by simp; omega)]
    refine ⟨_,rfl,rfl,?_,?_,?_,?_,by simp⟩
    ·simp only
     rw [List.pairwise_append]
     refine ⟨hp,by simp,fun x hx y hy=>?_⟩
     simp at hy
     rw [hy]
     have:=(hm x).1 hx
     exact hlt x (by simpa using this)
    ·intro x
     have:=hm x
     simp only [List.mem_append,List.mem_singleton,htk]
     simp at this
     rw [this]
     simp
    ·simp; simp at hlen; omega
    ·intro _ x hx
     rw [htk] at hx
     rcases List.mem_append.1 hx with hx|hx
     ·exact hf rfl x hx
     ·simp at hx; omega
  ·have hlv:v<l[i]:=ht rfl _ (by rw [hdr]; exact List.mem_cons_self)
   rw [if_pos (by simpa using hlv)]
   simp only [Bool.not_true,Option.bind_some,Bool.false_eq_true,if_false]
   rw [zBe (by simp; omega) (by simp; omega)]
   refine ⟨_,rfl,rfl,?_,?_,?_,by simp,?_⟩
   ·simp only
    rw [List.pairwise_append]
    refine ⟨hp,by simp,fun x hx y hy=>?_⟩
    simp at hy
    rw [hy]
    rcases (hm x).1 hx with hx|⟨_,hx⟩
    ·exact hlt x hx
    ·omega
   ·intro x
    have:=hm x
    simp only [List.mem_append,List.mem_singleton,htk]
    rw [this]
    simp
    constructor<;>(intro h; rcases h with (h|h)|h<;>simp [h])
   ·simp; simp at hlen; omega
   ·intro _ x hx
    exact ht rfl x (by rw [hdr]; exact List.mem_cons_of_mem _ hx)) (by
  rintro ⟨acc,inn,j⟩ ⟨hj,hp,hm,hlen,hf,ht⟩
  simp only at hj hp hm hlen hf ht
  subst hj
  unfold zCQ
  rw [if_neg (by simp)]
  rw [List.take_length] at hm hf
  exact ⟨_,rfl,hp,hm,hlen,hf⟩) l.length 0 (([]:List Int),false,0) (by omega) ⟨rfl,by simp,by simp,by simp,by simp,by simp⟩
 simp only at h1 h2 h3 h4
 unfold wX zD3
 rw [e]
 simp only [Option.bind_some]
 cases inn
 ·simp only [Bool.not_false,if_true]
  simp at h3
  rw [zBe (by simp; omega) (by simp; omega)]
  refine ⟨_,rfl,?_,?_,by simp; omega⟩
  ·rw [List.pairwise_append]
   refine ⟨h1,by simp,fun x hx y hy=>?_⟩
   simp at hy
   rw [hy]
   have:=(h2 x).1 hx
   exact h4 rfl x (by simpa using this)
  ·intro x
   have:=h2 x
   simp at this
   simp [this]
 ·refine ⟨_,rfl,h1,?_,by simpa using h3⟩
  intro x
  have:=h2 x
  simpa using this
theorem zIJ (a:List Int) (k0:Nat) (h0:1≤k0) (hk:k0<a.length) (hs:a.Pairwise (· ≤ ·)) (hl:a.length≤1048577) (hd:a[k0]'hk=a[k0-1]'(by omega)) (hp0:(a.take k0).Pairwise (· < ·)) (x48:List Int) (hx:x48.length=a.length-k0):
  ∃xs k,wC (k0:Int) x48 (a,(k0:Int),1)=some (xs,((k:Nat):Int))∧xs.length=a.length∧k≤a.length∧(xs.take k).Pairwise (· < ·)∧∀x,x∈xs.take k↔x∈a:=by
 have hle:∀(i j:Nat) (hi:i<a.length) (hj:j<a.length),i≤j→a[i]≤a[j]:=by
  intro i j hi hj hij
  rcases Nat.lt_or_ge i j with h|h
  ·exact List.pairwise_iff_getElem.1 hs i j hi hj h
  ·have:i=j:=by omega
   subst this; exact Int.le_refl _
 obtain ⟨⟨xs,k'⟩,e,h1,k,h2,h3,h4,h5⟩:=uT (b:=wS (k0:Int) x48)
  (fun i s=>s.2.2=((i+1:Nat):Int)∧s.1.length=a.length∧(∀j,i+k0≤j→s.1[j]? =a[j]?)∧∃k:Nat,s.2.1=(k:Int)∧1≤k∧k≤i+k0∧(s.1.take k).Pairwise (· < ·)∧(∀x,x∈s.1.take k↔x∈a.take (i+k0+1))∧(∀x∈s.1.take k,x≤a.getD (i+k0) 0)) (a.length-k0-1)
  (fun t=>t.1.length=a.length∧∃k:Nat,t.2=(k:Int)∧k≤a.length∧(t.1.take k).Pairwise (· < ·)∧∀x,x∈t.1.take k↔x∈a) (by
  rintro i ⟨xs,kk,jj⟩ hi ⟨hj,hlen,hsame,k,hkk,hk1,hkle,hpw,hmem,hmax⟩
  simp only at hj hlen hsame hkk hpw hmem hmax
  subst hj hkk
  have hi1:i+k0+1<a.length:=by omega
  have g1:xs[i+k0+1]'(by omega)=a[i+k0+1]:=by
   have:=hsame (i+k0+1) (by omega)
   rw [List.getElem?_eq_getElem (by omega),List.getElem?_eq_getElem hi1] at this
   exact Option.some.inj this
  have g0:xs[i+k0]'(by omega)=a[i+k0]:=by
   have:=hsame (i+k0) (by omega)
   rw [List.getElem?_eq_getElem (by omega),List.getElem?_eq_getElem (by omega)] at this
   exact Option.some.inj this
  have hgd:a.getD (i+k0) 0=a[i+k0]:=by simp [List.getD,show i+k0<a.length by omega]
  rw [hgd] at hmax
  have r1:zIX xs (k0:Int) x48.length ((i+1:Nat):Int)=some a[i+k0+1]:=by
   unfold zIX
   rw [if_pos (by omega),show (k0:Int)+((i+1:Nat):Int)=((i+k0+1:Nat):Int) by omega,zM (by omega),g1]
  have r0:zIX xs (k0:Int) x48.length (i:Int)=some a[i+k0]:=by
   unfold zIX
   rw [if_pos (by omega),show (k0:Int)+(i:Int)=((i+k0:Nat):Int) by omega,zM (by omega),g0]
  refine .inl ?_
  unfold wS
  rw [if_pos (by simp; omega)]
  simp only
  rw [r1,xS (x:=((i+1:Nat):Int)-1) (by omega) (by omega),show ((i+1:Nat):Int)-1=(i:Int) by omega,r0,zM (show k<xs.length by omega),zN (show k<_ by omega),zN (show i+1<_ by omega)]
  simp only [Option.bind_some]
  have htk:a.take (i+k0+1+1)=a.take (i+k0+1)++[a[i+k0+1]]:=List.take_succ_eq_append_getElem hi1
  have hmono:=hle (i+k0) (i+k0+1) (by omega) hi1 (by omega)
  have hgd1:a.getD (i+1+k0) 0=a[i+k0+1]:=by
   rw [show i+1+k0=i+k0+1 by omega]
   simp [List.getD,hi1]
  by_cases hne:a[i+k0+1]=a[i+k0]
  ·rw [if_neg (by simp [hne])]
   refine ⟨_,rfl,rfl,hlen,fun j hj=>hsame j (by omega),k,rfl,hk1,by omega,hpw,?_,?_⟩
   ·intro x
    rw [show i+1+k0+1=i+k0+1+1 by omega,htk,hmem,List.mem_append,List.mem_singleton]
    constructor
    ·exact fun h=>.inl h
    ·rintro (h|h)
     ·exact h
     ·rw [h,hne]
      refine List.mem_iff_getElem.2 ⟨i+k0,by simp; omega,by simp⟩
   ·intro x hx
    rw [hgd1]
    exact Int.le_trans (hmax x hx) hmono
  ·rw [if_pos (by simpa using hne)]
   refine ⟨_,rfl,rfl,by simpa using hlen,?_,k+1,rfl,by omega,by omega,?_,?_,?_⟩
   ·intro j hj
    show (xs.set (k:Int).toNat a[i+k0+1])[j]? =a[j]?
    rw [Int.toNat_natCast,List.getElem?_set_ne (by omega)]
    exact hsame j (by omega)
   ·show ((xs.set (k:Int).toNat a[i+k0+1]).take (k+1)).Pairwise (· < ·)
    rw [Int.toNat_natCast,zEG (by omega),List.pairwise_append]
    refine ⟨hpw,by simp,fun x hx y hy=>?_⟩
    simp at hy
    rw [hy]
    have:=hmax x hx
    omega
   ·intro x
    show x∈(xs.set (k:Int).toNat a[i+k0+1]).take (k+1)↔_
    rw [Int.toNat_natCast,zEG (by omega),show i+1+k0+1=i+k0+1+1 by omega,htk,List.mem_append,List.mem_append,hmem]
   ·intro x hx
    have hx':x∈(xs.set (k:Int).toNat a[i+k0+1]).take (k+1):=hx
    rw [Int.toNat_natCast,zEG (by omega)] at hx'
    rw [hgd1]
    rcases List.mem_append.1 hx' with h|h
    ·exact Int.le_trans (hmax x h) hmono
    ·simp at h; omega) (by
  rintro ⟨xs,kk,jj⟩ ⟨hj,hlen,hsame,k,hkk,hk1,hkle,hpw,hmem,hmax⟩
  simp only at hj hlen hsame hkk hpw hmem hmax
  subst hj hkk
  unfold wS
  rw [if_neg (by simp; omega)]
  refine ⟨_,rfl,hlen,k,rfl,by omega,hpw,fun x=>?_⟩
  rw [hmem,List.take_of_length_le (by omega)]) (a.length-k0-1) 0 (a,(k0:Int),1) (by omega) ⟨rfl,rfl,fun _ _=>rfl,k0,rfl,h0,by omega,hp0,by
   intro x
   rw [Nat.zero_add,List.take_succ_eq_append_getElem hk,List.mem_append,List.mem_singleton]
   constructor
   ·exact fun h=>.inl h
   ·rintro (h|h)
    ·exact h
    ·rw [h,hd]
     exact List.mem_iff_getElem.2 ⟨k0-1,by simp; omega,by simp⟩,by
   intro x hx
   rw [Nat.zero_add]
   obtain ⟨j,hj,rfl⟩:=List.mem_iff_getElem.1 hx
   rw [List.getElem_take]
   have hgd:a.getD k0 0=a[k0]:=by simp [List.getD,hk]
   rw [hgd]
   simp at hj
   exact hle j k0 (by omega) hk (by omega)⟩
 simp only at h1 h2
 subst h2
 exact ⟨xs,k,by unfold wC; exact e,h1,h3,h4,h5⟩
theorem zL8 (a:List Int) (hs:a.Pairwise (· ≤ ·)) (hl:a.length≤1048577):∃r,wE a=some r∧r.Pairwise (· < ·)∧(∀x,x∈r↔x∈a)∧r.length≤a.length:=by
 have step1:∀i (hi:i<a.length) (h1:1≤i),(a.take i).Pairwise (· < ·)→a[i]≠a[i-1]'(by omega)→(a.take (i+1)).Pairwise (· < ·):=by
  intro i hi h1 hp hne
  rw [List.take_succ_eq_append_getElem hi,List.pairwise_append]
  refine ⟨hp,by simp,fun x hx y hy=>?_⟩
  simp at hy
  rw [hy]
  obtain ⟨j,hj,rfl⟩:=List.mem_iff_getElem.1 hx
  rw [List.getElem_take]
  simp at hj
  have q1:a[i-1]'(by omega)≤a[i]:=List.pairwise_iff_getElem.1 hs (i-1) i (by omega) hi (by omega)
  have q2:a[j]'(by omega)≤a[i-1]'(by omega):=by
   rcases Nat.lt_or_ge j (i-1) with h|h
   ·exact List.pairwise_iff_getElem.1 hs j (i-1) (by omega) (by omega) h
   ·have:j=i-1:=by omega
    subst this; exact Int.le_refl _
  omega
 have hb:∀i (hi:i<a.length) (h1:1≤i),(a.take i).Pairwise (· < ·)→(a[i]=a[i-1]'(by omega)∧∃r,xE a (i:Int)=some (.done (.ret r))∧r.Pairwise (· < ·)∧(∀x,x∈r↔x∈a)∧r.length≤a.length)∨(a[i]≠a[i-1]'(by omega)∧xE a (i:Int)=some (.go ((i+1:Nat):Int))):=by
  intro i hi h1 hp
  unfold xE
  rw [if_pos (by simp; omega),zM hi,xS (x:=(i:Int)-1) (by omega) (by omega),show (i:Int)-1=((i-1:Nat):Int) by omega,zM (show i-1<a.length by omega),zN (by omega)]
  simp only [Option.bind_some]
  by_cases he:a[i]=a[i-1]'(by omega)
  ·left
   refine ⟨he,?_⟩
   rw [if_pos (by simpa using he),zEr (Nat.le_of_lt hi) (Nat.le_refl _)]
   simp only [Option.bind_some]
   obtain ⟨xs,k,e,g1,g2,g3,g4⟩:=zIJ a i h1 hi hs hl he hp ((a.drop i).take (a.length-i)) (by simp)
   rw [e]
   simp only [Option.bind_some]
   have hk:k≤xs.length:=by omega
   rw [zEr hk (Nat.le_refl _)]
   simp only [Option.bind_some]
   rw [zKD (by simp; omega)]
   simp only [Option.bind_some]
   refine ⟨xs.take k,?_,g3,g4,by simp; omega⟩
   have:∀ys:List Int,zEH (xs.take k++ys) 0 (k:Int)=some (xs.take k):=by
    intro ys
    have hh:=zEr (xs:=xs.take k++ys) (l:=0) (h:=k) (by omega) (by simp; omega)
    rw [show ((0:Nat):Int)=0 from rfl] at hh
    rw [hh]
    simp [Nat.min_eq_left hk]
   rw [List.append_assoc,this]
   rfl
  ·right
   rw [if_neg (by simpa using he)]
   exact ⟨he,rfl⟩
 unfold wE
 by_cases h2:a.length<2
 ·rw [if_pos (by simp; omega)]
  refine ⟨a,rfl,?_,fun x=>Iff.rfl,Nat.le_refl _⟩
  match a,h2 with
  |[],_=>simp
  |[x],_=>simp
 ·rw [if_neg (by simp; omega)]
  obtain ⟨t,e,h⟩:=uT (b:=xE a) (fun i s=>s=((i+1:Nat):Int)∧(a.take (i+1)).Pairwise (· < ·)) (a.length-1)
   (fun t=>(∃r,t= .ret r∧r.Pairwise (· < ·)∧(∀x,x∈r↔x∈a)∧r.length≤a.length)∨(t= .nxt ()∧a.Pairwise (· < ·))) (by
   rintro i s hi ⟨rfl,hp⟩
   rcases hb (i+1) (by omega) (by omega) hp with ⟨_,r,e,q⟩|⟨hne,e⟩
   ·exact .inr ⟨_,e,.inl ⟨r,rfl,q⟩⟩
   ·exact .inl ⟨_,e,rfl,step1 (i+1) (by omega) (by omega) hp hne⟩) (by
   rintro s ⟨rfl,hp⟩
   rw [show a.length-1+1=a.length by omega] at hp ⊢
   refine ⟨.nxt (),?_,.inr ⟨rfl,by rw [List.take_length] at hp; exact hp⟩⟩
   unfold xE
   rw [if_neg (by simp)]) (a.length-1) 0 1 (by omega) ⟨rfl,by
    match a,h2 with
    |x::l,_=>simp⟩
  unfold wY
  rw [e]
  rcases h with ⟨r,rfl,q⟩|⟨rfl,q⟩
  ·exact ⟨r,rfl,q⟩
  ·exact ⟨a,rfl,q,fun x=>Iff.rfl,Nat.le_refl _⟩
def zAx (s:ByteArray):List ByteArray:=(tT 32 s).filter (fun w=> !(seq w (bs [])))
theorem zKw (c:Int) (s:ByteArray):∀p∈tT c s,p.size≤s.size:=by
 intro p hp
 have hb:bl p∈zFt c (bl s):=by
  rw [←zHh]
  exact List.mem_map_of_mem hp
 have:=zHc c (bl s) _ hb
 rw [yO,yO] at this
 exact this
theorem zHr (s:ByteArray):∀p∈zAx s,p.size≤s.size:=fun p hp=>zKw 32 s p (List.mem_filter.1 hp).1
theorem zJk (s:ByteArray) (h:s.size≤1048577):zCE s=some (zAx s):=by
 have hl:=zE4 32 s
 have key:=zEf (tT 32 s) (fun _ l w=>if !(seq w (bs [])) then l++[w] else l) (fun i l=>l.length≤i) (b:=zBJ (tT 32 s)) (by
  intro i l hi hI
  unfold zBJ
  rw [if_pos (by simp; omega)]
  simp only
  rw [zM hi]
  simp only [Option.bind_some]
  rw [zBe (by simp; omega) (by simp; omega),zN (by omega)]
  cases seq (tT 32 s)[i] (bs [])
  ·exact ⟨rfl,by simp; omega⟩
  ·exact ⟨rfl,by simp; omega⟩) (by
  intro l
  unfold zBJ
  rw [if_neg (by simp)]) (tT 32 s).length 0 [] (by omega) (by simp)
 unfold zCE
 rw [zES s 32 h]
 simp only [Option.bind_some]
 unfold zC5
 rw [show ((0:Nat):Int)=0 from rfl] at key
 rw [key.1,List.drop_zero,zEW (fun w=> !(seq w (bs [])))]
 rfl
theorem zJA (s:ByteArray) (h:s.size≤1048575):zCu s=some (zAx s):=by
 have hl:=zE4 32 s
 have e:=zGg s 32 (by omega)
 rw [show (((32:UInt8).toNat :Nat):Int)=32 from rfl] at e
 have key:=zOE (fun w:ByteArray=>seq w (bs [])) (tT 32 s) ByteArray.empty (by omega) (b1:=yJ (tT 32 s)) (b2:=yD) (by
  intro i hi
  unfold yJ tV
  rw [if_pos (by simp; omega),zM hi]
  simp only [Option.bind_some]
  rw [zN (by omega)]
  split<;>rfl) (by
  unfold yJ
  rw [if_neg (by simp)]) (by
  intro xs i j hj hij hl2 hm
  unfold yD tV
  simp only
  rw [if_pos (by simp; omega),zM hj]
  simp only [Option.bind_some]
  rw [zM (show i<xs.length by omega),zN (show j<_ by omega),zN (show i<_ by omega)]
  cases seq xs[j] (bs [])<;>simp) (by
  intro xs i hl2
  unfold yD
  rw [if_neg (by simp)])
 unfold zCu
 rw [show bs [32]=⟨#[32]⟩ from rfl,e]
 simp only [Option.bind_some]
 have e2:zZ (tT 32 s)=some (zAx s):=key
 rw [e2]
 rfl
def kM (c:List Pack) (w:List ByteArray):Int:=if w.length≠2 then-1 else if (PV (w.getD 1 (bs []))).Code !=0 then-1 else zGA c (w.getD 0 (bs [])) (PV (w.getD 1 (bs []))).Version
theorem zG9 (c:List Pack) (w:List ByteArray):kM c w= -1∨(0≤kM c w∧kM c w<c.length):=by
 unfold kM
 split
 ·exact .inl rfl
 ·split
  ·exact .inl rfl
  ·exact zKi _ _ _
theorem zI8 (c:List Pack) (w:List ByteArray) (hc:c.length≤1048576) (hw:∀p∈w,p.size≤1048577):zB3 c w=some (kM c w):=by
 unfold zB3 kM
 match w,hw with
 |[],_=>rfl
 |[_],_=>rfl
 |[x,y],hw=>
  have e0:idx [x,y] 0=some x:=rfl
  have e1:idx [x,y] 1=some y:=rfl
  rw [if_neg (by simp),e1,e0]
  simp only [Option.bind_some,zGd y (hw y (by simp))]
  rw [if_neg (show ¬([x,y].length ≠2) by simp)]
  show (if (PV y).Code !=0 then some (-1) else _)=some (if (PV y).Code !=0 then-1 else zGA c x (PV y).Version)
  rw [zIh c x _ hc]
  cases (PV y).Code !=0<;>rfl
 |_::_::_::r,_=>
  rw [if_pos (by simp; omega),if_pos (by simp)]
theorem zKL (c:List Pack) (w:List ByteArray) (hc:c.length≤1048576) (hw:∀p∈w,p.size≤1048577):(if (w.length:Int)==2 then ((idx w 1).bind fun x36=>(vQ x36).bind fun x38=>if x38.Code==0 then ((idx w 0).bind fun x41=>(zAm c x41 x38.Version).bind fun x43=>some x43) else (some (-1))) else (some (-1)))=some (kM c w):=by
 unfold kM
 match w,hw with
 |[],_=>rfl
 |[_],_=>rfl
 |[x,y],hw=>
  have e0:idx [x,y] 0=some x:=rfl
  have e1:idx [x,y] 1=some y:=rfl
  rw [if_pos (by simp),e1,e0]
  simp only [Option.bind_some,zGe y (hw y (by simp))]
  rw [if_neg (show ¬([x,y].length ≠2) by simp)]
  show (if (PV y).Code ==0 then _ else some (-1))=some (if (PV y).Code !=0 then-1 else zGA c x (PV y).Version)
  rw [zIp c x _ hc,bne]
  cases (PV y).Code ==0<;>rfl
 |_::_::_::r,_=>
  rw [if_neg (by simp; omega),if_pos (by simp)]
def zEz (c:List Pack):Nat→List Int→List ByteArray→Fl yG (List Int)
 |_,out,[]=>.nxt out
 |i,out,s::ps=>if kM c (zAx s)<0∨kM c (zAx s)∈out then .ret {Code:=5,At:=i,Set:=[]} else zEz c (i+1) (out++[kM c (zAx s)]) ps
def zQG (t:Fl yG (List Int)):yG:=match t with
 | .ret r=>r
 | .nxt l=> {Code:=0,At:=0,Set:=l.mergeSort (fun x y=>decide (x≤y))}
def PS (c:List Pack) (s:ByteArray):yG:=if s.size>4000 then {Code:=2,At:=0,Set:=[]} else zQG (zEz c 0 [] (zDZ s))
theorem zEC (c:List Pack):∀(ps:List ByteArray) (i:Nat) (out:List Int),out.Nodup→(∀k∈out,0≤k∧k<c.length)→match zEz c i out ps with
  | .ret r=>r.Code=5∧r.Set=[]
  | .nxt l=>l.Nodup∧(∀k∈l,0≤k∧k<c.length)
 |[],_,out,h1,h2=>⟨h1,h2⟩
 |s::ps,i,out,h1,h2=>by
  simp only [zEz]
  split
  ·rename_i h
   split at h
   ·cases h; exact ⟨rfl,rfl⟩
   ·rename_i hn
    rw [not_or] at hn
    have:=zEC c ps (i+1) (out++[kM c (zAx s)]) (by
     rw [List.nodup_append]
     refine ⟨h1,by simp,fun a ha b hb=>?_⟩
     simp only [List.mem_singleton] at hb
     subst hb
     intro e
     subst e
     exact hn.2 ha) (by
     intro k hk
     rcases List.mem_append.1 hk with hk|hk
     ·exact h2 k hk
     ·simp only [List.mem_singleton] at hk
      subst hk
      rcases zG9 c (zAx s) with h|h
      ·omega
      ·exact h)
    rw [h] at this
    exact this
  ·rename_i l h
   split at h
   ·cases h
   ·rename_i hn
    rw [not_or] at hn
    have:=zEC c ps (i+1) (out++[kM c (zAx s)]) (by
     rw [List.nodup_append]
     refine ⟨h1,by simp,fun a ha b hb=>?_⟩
     simp only [List.mem_singleton] at hb
     subst hb
     intro e
     subst e
     exact hn.2 ha) (by
     intro k hk
     rcases List.mem_append.1 hk with hk|hk
     ·exact h2 k hk
     ·simp only [List.mem_singleton] at hk
      subst hk
      rcases zG9 c (zAx s) with h|h
      ·omega
      ·exact h)
    rw [h] at this
    exact this
theorem zNi {l:List Int} (h:l.Nodup):(l.mergeSort (fun x y=>decide (x≤y))).Pairwise (· < ·)∧∀x,x∈l.mergeSort (fun x y=>decide (x≤y))↔x∈l:=by
 have hp:(l.mergeSort (fun x y=>decide (x≤y))).Perm l:=List.mergeSort_perm _ _
 have hs:(l.mergeSort (fun x y=>decide (x≤y))).Pairwise (fun x y=>(decide (x≤y))=true):=List.pairwise_mergeSort (fun a b c h1 h2=>by simp at h1 h2 ⊢; omega) (fun a b=>by simp; omega) l
 have hn:(l.mergeSort (fun x y=>decide (x≤y))).Nodup :=hp.nodup_iff.2 h
 refine ⟨?_,fun x=>hp.mem_iff⟩
 rw [List.pairwise_iff_getElem] at hs ⊢
 intro i j hi hj hij
 have h1:=hs i j hi hj hij
 have h2:=(List.pairwise_iff_getElem.1 hn) i j hi hj hij
 simp only [decide_eq_true_eq] at h1
 omega
theorem zIx (c:List Pack) (s:ByteArray):(((PS c s).Code =2∨(PS c s).Code =5)∧(PS c s).Set =[])∨(PS c s).Code =0∧(PS c s).At =0∧(PS c s).Set.Pairwise (· < ·)∧∀k∈(PS c s).Set,0≤k∧k<c.length:=by
 have key:∀r,r=PS c s→((r.Code=2∨r.Code=5)∧r.Set=[])∨r.Code=0∧r.At=0∧r.Set.Pairwise (· < ·)∧∀k∈r.Set,0≤k∧k<c.length:=by
  intro r hr
  unfold PS at hr
  split at hr
  ·subst hr
   exact .inl ⟨.inl rfl,rfl⟩
  ·have:=zEC c (zDZ s) 0 [] (by simp) (by simp)
   cases h:zEz c 0 [] (zDZ s) with
   |ret q=>
    rw [h] at this hr
    simp only [zQG] at hr
    subst hr
    exact .inl ⟨.inr this.1,this.2⟩
   |nxt l=>
    rw [h] at this hr
    simp only [zQG] at hr
    subst hr
    obtain ⟨h1,h2⟩:=zNi this.1
    exact .inr ⟨rfl,rfl,h1,fun k hk=>this.2 k ((h2 k).1 hk)⟩
 exact key _ rfl
section
variable {c:List Pack} (hc:c.length≤1048576)
include hc
theorem zG8 (ps:List ByteArray) (hps:∀p∈ps,p.size≤100000) (hl:ps.length≤100000):∀(k i:Nat) (S out:List Int),i+k=ps.length→out.length≤i→S.length≤i→S.Pairwise (· < ·)→(∀x,x∈S↔x∈out)→
  ∃t,loop (zAy c ps) (S,(i:Int))=some t∧match zEz c i out (ps.drop i) with
   | .ret r=>t= .ret r
   | .nxt l=>∃S',t= .nxt S'∧S'.Pairwise (· < ·)∧∀x,x∈S'↔x∈l
 |0,i,S,out,hk,ho,hS,h1,h2=>by
  have e:i=ps.length:=by omega
  subst e
  rw [vY]
  unfold zAy
  rw [if_neg (by simp),List.drop_length]
  exact ⟨_,rfl,S,rfl,h1,h2⟩
 |k+1,i,S,out,hk,ho,hS,h1,h2=>by
  have hi:i<ps.length:=by omega
  have hm:=List.getElem_mem hi
  have hw:=zHr ps[i]
  have hps1:=hps _ hm
  have hb:zAy c ps (S,(i:Int))=if kM c (zAx ps[i])<0∨kM c (zAx ps[i])∈S then some (.done (.ret {Code:=5,At:=i,Set:=[]})) else (wX S (kM c (zAx ps[i]))).bind fun x51=>some (.go (x51,((i+1:Nat):Int))):=by
   unfold zAy
   rw [if_pos (by simp; omega),zM hi]
   simp only [Option.bind_some,zJk _ (show ps[i].size ≤1048577 by omega)]
   rw [zKL c _ hc (fun p hp=>by have:=hw p hp; omega)]
   simp only [Option.bind_some]
   by_cases hneg:kM c (zAx ps[i])<0
   ·rw [if_pos (by simpa using hneg),if_pos (.inl hneg)]
    rfl
   ·rw [if_neg (by simpa using hneg),zD0 S _ (by omega),zN (by omega)]
    simp only [Option.bind_some]
    by_cases hmem:kM c (zAx ps[i])∈S
    ·rw [if_pos (by simpa using hmem),if_pos (.inr hmem)]
    ·rw [if_neg (by simpa using hmem),if_neg (by rw [not_or]; exact ⟨hneg,hmem⟩)]
  rw [vY,hb,List.drop_eq_getElem_cons hi]
  simp only [zEz]
  by_cases hbad:kM c (zAx ps[i])<0∨kM c (zAx ps[i])∈out
  ·rw [if_pos hbad,if_pos (by rw [h2]; exact hbad)]
   exact ⟨_,rfl,rfl⟩
  ·have hbad2:¬(kM c (zAx ps[i])<0∨kM c (zAx ps[i])∈S):=by rw [h2]; exact hbad
   rw [if_neg hbad,if_neg hbad2]
   obtain ⟨r,er,r1,r2,r3⟩:=zGG S (kM c (zAx ps[i])) h1 (fun h=>hbad2 (.inr h)) (by omega)
   rw [er]
   simp only [Option.bind_some,Lp.elim]
   refine zG8 ps hps hl k (i+1) r (out++[kM c (zAx ps[i])]) (by omega) (by simp; omega) (by omega) r1 (fun x=>?_)
   rw [r2,h2,List.mem_append,List.mem_singleton]
end
section
variable {c:List Pack} (hc:c.length≤1048576)
include hc
theorem zJp (s:ByteArray) (h:s.size≤90000):zCk c s=some (PS c s):=by
 unfold zCk PS
 by_cases h4:s.size>4000
 ·rw [if_pos (by simp; omega),if_pos h4]
 ·rw [if_neg (by simp; omega),if_neg h4,zJE s (by omega)]
  simp only [Option.bind_some]
  have hlen:=zHZ s
  obtain ⟨t,e,ht⟩:=zG8 hc (zDZ s) (fun p hp=>by have:=zHe s p hp; omega) (by omega) (zDZ s).length 0 [] [] (by omega) (by simp) (by simp) (by simp) (by simp)
  rw [List.drop_zero] at ht
  unfold zCh
  rw [show ((0:Nat):Int)=0 from rfl] at e
  rw [e]
  have hg:=zEC c (zDZ s) 0 [] (by simp) (by simp)
  cases hr:zEz c 0 [] (zDZ s) with
  |ret r=>
   rw [hr] at ht
   simp only at ht
   subst ht
   rfl
  |nxt l=>
   rw [hr] at ht hg
   obtain ⟨S',rfl,h1,h2⟩:=ht
   obtain ⟨g1,g2⟩:=zNi hg.1
   have:S'=l.mergeSort (fun x y=>decide (x≤y)):=zFm h1 g1 (fun x=>by rw [h2,g2])
   subst this
   rfl
end
section
variable {c:List Pack} (hc:c.length≤1048576)
include hc
theorem zFK (ps:List ByteArray) (hps:∀p∈ps,p.size≤100000) (hl:ps.length≤100000):∀(k i:Nat) (out:List Int),i+k=ps.length→out.length≤i→loop (kZ c ps) (out,(i:Int))=some (zEz c i out (ps.drop i))
 |0,i,out,hk,ho=>by
  have e:i=ps.length:=by omega
  subst e
  rw [vY]
  unfold kZ
  rw [if_neg (by simp),List.drop_length]
  rfl
 |k+1,i,out,hk,ho=>by
  have hi:i<ps.length:=by omega
  have hm:=List.getElem_mem hi
  have hw:=zHr ps[i]
  have hps1:=hps _ hm
  have hb:kZ c ps (out,(i:Int))=if kM c (zAx ps[i])<0∨kM c (zAx ps[i])∈out then some (.done (.ret {Code:=5,At:=i,Set:=[]})) else some (.go (out++[kM c (zAx ps[i])],((i+1:Nat):Int))):=by
   unfold kZ
   rw [if_pos (by simp; omega),zM hi]
   simp only [Option.bind_some,zJA _ (show ps[i].size ≤1048575 by omega)]
   rw [zI8 c _ hc (fun p hp=>by have:=hw p hp; omega)]
   simp only [Option.bind_some]
   rw [zBe (by simp; omega) (by simp; omega),zN (by omega)]
   by_cases hneg:kM c (zAx ps[i])<0
   ·rw [if_pos (by simpa using hneg),if_pos (.inl hneg)]
    rfl
   ·rw [if_neg (by simpa using hneg),zFh out _ (by omega)]
    simp only [Option.bind_some]
    by_cases hmem:kM c (zAx ps[i])∈out
    ·rw [if_pos (by simpa using hmem),if_pos (.inr hmem)]
    ·rw [if_neg (by simpa using hmem),if_neg (by rw [not_or]; exact ⟨hneg,hmem⟩)]
  rw [vY,hb,List.drop_eq_getElem_cons hi]
  simp only [zEz]
  by_cases hbad:kM c (zAx ps[i])<0∨kM c (zAx ps[i])∈out
  ·rw [if_pos hbad,if_pos hbad]
   rfl
  ·rw [if_neg hbad,if_neg hbad]
   simp only [Option.bind_some,Lp.elim]
   exact zFK ps hps hl k (i+1) (out++[kM c (zAx ps[i])]) (by omega) (by simp; omega)
end
theorem zIM {c:List Pack} (hC:Cat c) (s:ByteArray) (h:s.size≤90000):zBz c s=some (if CF c !=0 then {Code:=CF c,At:=0,Set:=[]} else PS c s):=by
 have hc:=hC.1
 unfold zBz PS
 rw [zE0 c hC]
 simp only [Option.bind_some]
 cases CF c !=0
 case true=>rfl
 simp only [Bool.false_eq_true,if_false]
 by_cases h4:s.size>4000
 ·rw [if_pos (by simp; omega),if_pos h4]
 ·rw [if_neg (by simp; omega),if_neg h4,zJb s (by omega)]
  simp only [Option.bind_some]
  have hlen:=zHZ s
  have e:=zFK hc (zDZ s) (fun p hp=>by have:=zHe s p hp; omega) (by omega) (zDZ s).length 0 [] (by omega) (by simp)
  rw [List.drop_zero,show ((0:Nat):Int)=0 from rfl] at e
  unfold zBK
  rw [e]
  have hlp:∀(ps:List ByteArray) (i:Nat) (out l:List Int),zEz c i out ps= .nxt l→l.length≤out.length+ps.length:=by
   intro ps
   induction ps with
   |nil=>intro i out l h; cases h; simp
   |cons s ps ih=>
    intro i out l h
    simp only [zEz] at h
    split at h
    ·cases h
    ·have:=ih _ _ _ h
     simp at this ⊢
     omega
  cases hr:zEz c 0 [] (zDZ s) with
  |ret r=>rfl
  |nxt l=>
   have hl:=hlp _ _ _ _ hr
   simp only [Option.bind_some,Fl.go]
   unfold xM
   rw [if_pos (by simp at hl; omega)]
   simp only [Option.bind_some]
   rw [zED (by rw [List.length_mergeSort])]
   rfl
theorem zIo {l:List Int} {n:Int} (hp:l.take 4=zOs) (hl:4≤l.length) (h:zDw l=some n):l=zQq n∧1≤n∧n≤999999:=by
 unfold zDw at h
 cases hn:zH3 (l.drop 4) 6 with
 |none=>rw [hn] at h; cases h
 |some m=>
  rw [hn] at h
  simp only at h
  split at h
  ·rename_i hc
   cases h
   have e:=(zNe hp hl hn).2 hc
   by_cases hr:1≤n∧n≤999999
   ·rw [if_pos hr] at e
    refine ⟨?_,hr⟩
    have hpd:=zIE 5 n.toNat (by omega)
    rw [show 10^(5+1)+n.toNat=1000000+n.toNat by omega] at hpd
    rw [←e,hpd]
    rfl
   ·rw [if_neg hr] at e
    rw [←e] at hc
    simp at hc
  ·cases h
theorem zGU {fs:List File} {n:Int} (h:n∈kG fs):(∃f∈fs,f.Path=zLa n)∧1≤n∧n≤999999:=by
 unfold kG at h
 obtain ⟨p,hp,hg⟩:=List.mem_filterMap.1 h
 have hb:=zEx (zDH p hp)
 rw [zJr] at hb
 obtain ⟨e,h1⟩:=zIo hb.1 hb.2 hg
 refine ⟨?_,h1⟩
 unfold xW at hp
 obtain ⟨f,hf,rfl⟩:=List.mem_map.1 hp
 exact ⟨f,(List.mem_filter.1 hf).1,zIr.1 (e.trans (zIz n).symm)⟩
def zJD (c:Int):yG:= {Code:=c,At:=0,Set:=[]}
def zBd (c:List Pack) (d:zC) (n:Int):yG:=if n∈kG d.Files then (match fileOf d (zLa n) with
 |some f=>if (PS c (b2s f.Data)).Code !=0 then zJD (PS c (b2s f.Data)).Code else PS c (b2s f.Data)
 |none=>zJD 0) else zJD 4
theorem zKN (c:List Pack) (d:zC) (n:Int):((zBd c d n).Code ≠0→(zBd c d n).Set =[])∧(zBd c d n).At =0∧(zBd c d n).Set.Pairwise (· < ·)∧(∀k∈(zBd c d n).Set,0≤k∧k<c.length):=by
 have key:∀r,r=zBd c d n→(r.Code≠0→r.Set=[])∧r.At=0∧r.Set.Pairwise (· < ·)∧(∀k∈r.Set,0≤k∧k<c.length):=by
  intro r hr
  have hcode:∀x,(zJD x).Set =[]∧(zJD x).At =0:=fun x=>⟨rfl,rfl⟩
  unfold zBd at hr
  split at hr
  ·split at hr
   ·split at hr
    ·subst hr; exact ⟨fun _=>rfl,rfl,by rw [(hcode _).1]; simp,by rw [(hcode _).1]; simp⟩
    ·rename_i f _ hc
     subst hr
     rcases zIx c (b2s f.Data) with ⟨h,_⟩|⟨h1,h2,h3,h4⟩
     ·rcases h with h|h<;>rw [h] at hc<;>simp at hc
     ·exact ⟨fun h=>absurd h1 h,h2,h3,h4⟩
   ·subst hr; exact ⟨fun _=>rfl,rfl,by rw [(hcode _).1]; simp,by rw [(hcode _).1]; simp⟩
  ·subst hr; exact ⟨fun _=>rfl,rfl,by rw [(hcode _).1]; simp,by rw [(hcode _).1]; simp⟩
 exact key _ rfl
theorem zHV {d:zC} (hg:d.good) {p:ByteArray} (h:∃f∈d.Files,f.Path=p):∃k:Nat,∃hk:k<d.Files.length,yK d p=some (k:Int)∧yR d p=some (d.Files[k].Data,true)∧fileOf d p=some d.Files[k]:=by
 rcases zMB d p hg with h1|⟨_,_,h3⟩
 ·exact h1
 ·obtain ⟨f,hf,hp⟩:=h
  unfold fileOf at h3
  have:=List.find?_eq_none.1 h3 f hf
  simp [hp] at this
section
variable {c:List Pack} {d:zC} (hc:c.length≤1048576) (hg:d.good) (hb:Byt d)
include hc hg hb in
theorem zLB (n:Int):zDC c d n=some (zBd c d n):=by
 have hfl:d.Files.length≤1048576:=by have:=hg.len; omega
 have hgl:=zBw d.Files
 unfold zDC zBd
 rw [zEj d hfl]
 simp only [Option.bind_some]
 rw [zD0 _ _ (by omega)]
 simp only [Option.bind_some]
 by_cases hm:n∈kG d.Files
 ·obtain ⟨hf,h1,h2⟩:=zGU hm
  obtain ⟨k,hk,e1,_,e3⟩:=zHV hg hf
  have hmem:=List.getElem_mem hk
  have hdat:=hg.data _ hmem
  rw [if_neg (by simpa using hm),if_pos hm,zGx,show inB n 1 999999=true by unfold inB; simp; omega]
  simp only [Option.bind_some,if_true,e1]
  rw [zM hk]
  simp only [Option.bind_some]
  rw [zJp hc _ (by rw [←yO,zLb (hb _ hmem)]; omega),e3]
  simp only [Option.bind_some]
  cases (PS c (b2s d.Files[k].Data)).Code !=0<;>rfl
 ·rw [if_pos (by simpa using hm),if_neg hm]
  rfl
end
section
variable {c:List Pack} {d:zC} (hc:c.length≤1048576) (hg:d.good) (hb:Byt d)
include hg hb in
theorem zMd (hC:Cat c) (h0:CF c=0) (n:Int):zDD c d n=some ((zBd c d n).Set,(zBd c d n).Code):=by
 have hfl:d.Files.length≤1048576:=by have:=hg.len; omega
 have hgl:=zBw d.Files
 unfold zDD zBd
 rw [zIL d hfl]
 simp only [Option.bind_some]
 rw [zFh _ _ (by omega)]
 simp only [Option.bind_some]
 by_cases hm:n∈kG d.Files
 ·obtain ⟨hf,h1,h2⟩:=zGU hm
  obtain ⟨k,hk,_,e2,e3⟩:=zHV hg hf
  have hmem:=List.getElem_mem hk
  have hdat:=hg.data _ hmem
  rw [if_neg (by simpa using hm),if_pos hm,zGz (by omega) h2]
  simp only [Option.bind_some,e2]
  rw [zIM hC _ (by rw [←yO,zLb (hb _ hmem)]; omega),e3,h0]
  simp only [bne_self_eq_false,Bool.false_eq_true,if_false,Option.bind_some]
  rcases zIx c (b2s d.Files[k].Data) with ⟨h,h'⟩|⟨h,_⟩
  ·have hn:((PS c (b2s d.Files[k].Data)).Code !=0)=true:=by rcases h with h|h<;>rw [h]<;>rfl
   rw [hn,h']
   rfl
  ·simp [h]
 ·rw [if_pos (by simpa using hm),if_neg hm]
  rfl
end
structure zC.fine (d:zC):Prop where
 b1:d.Budget≤20000
 w0:0≤d.Writes
 w1:d.Writes≤2000000000
 s0: -1≤d.Stop
 len:d.Files.length≤120
 data:∀f∈d.Files,f.Data.length≤4000
 sorted:d.Files.Pairwise (fun f g=>slt f.Path g.Path=true)
 room:total d.Files≤d.Budget
theorem zC.good.fine {d:zC} (h:d.good):d.fine:=⟨h.b1,h.w0,by have:=h.w1; omega,h.s0,h.len,h.data,h.sorted,h.room⟩
theorem zJP {a b:ByteArray} (h:slt a b=false) (hne:a≠b):slt b a=true:=by
 cases h2:slt b a with
 |true=>rfl
 |false=>
  have c1:¬zN6 a b<0:=fun hc=>by rw [(zKS a b).1 hc] at h; cases h
  have key:∀(x y:List UInt8),Op.bytesLess x y=false→Op.bytesLess y x=false→x=y:=by
   intro x
   induction x with
   |nil=>intro y; cases y<;>simp [Op.bytesLess]
   |cons u x ih=>
    intro y
    cases y with
    |nil=>simp [Op.bytesLess]
    |cons v y=>
     simp only [Op.bytesLess]
     intro e1 e2
     have e3:¬u<v:=fun hh=>by simp [hh] at e1
     have e4:¬v<u:=fun hh=>by simp [hh] at e2
     rw [UInt8.lt_iff_toNat_lt] at e3 e4
     have e5:u=v:=UInt8.toNat_inj.1 (by omega)
     subst e5
     simp [UInt8.lt_irrefl] at e1 e2
     rw [ih y e1 e2]
  exfalso
  apply hne
  unfold slt at h h2
  exact toList_inj (key _ _ h h2)
theorem zOK {d:zC} (hf:d.fine) (hd:d.Down=false):zB8 d=some (if decide (d.Stop≥0)&&decide (d.Writes≥d.Stop) then (false,{d with Down:=true}) else (true,{d with Writes:=d.Writes+1})):=by
 unfold zB8
 rw [hd]
 simp only [Bool.false_eq_true,if_false]
 have h0:=hf.s0
 by_cases h1:d.Stop= -1
 ·have h2:¬(d.Stop≥0):=by omega
  simp [h1]
  exact xS (by have:=hf.w0; omega) (by have:=hf.w1; omega)
 ·have h2:d.Stop≥0:=by omega
  have h3:(d.Stop != -1)=true:=by simpa using h1
  simp only [h3,if_true,Option.bind_some,h2,decide_true,Bool.true_and]
  cases decide (d.Writes≥d.Stop)
  ·simp only [Bool.false_eq_true,if_false]
   rw [xS (by have:=hf.w0; omega) (by have:=hf.w1; omega)]
  ·simp only [if_true]
theorem zPE {c:List Pack} {d:zC} (hC:Cat c) (hd:zC.sm 1048576 d):∃k,vB d=some k∧zCg c d=some (if CF c !=0 then CF c else if k !=0 then k else if d.Down then 9 else 0)∧(k=0→d.good):=by
 obtain ⟨k,ek,hk⟩:=zH8 d hd.1.1
 refine ⟨k,ek,?_,hk⟩
 unfold zCg
 rw [zL5 hC k ek]
 simp only [Option.bind_some]
 by_cases h0:CF c=0
 ·by_cases h1:k=0
  ·simp [h0,h1]
   cases d.Down<;>rfl
  ·simp [h0,h1]
 ·simp [h0]
theorem zFR (d:zC) (c:Int):zDX d c=some (if c !=0&&c !=9 then zOo c else {Code:=c,zC:=d}):=by
 unfold zDX zOo
 cases c !=0
 ·rfl
 ·cases c !=9<;>rfl
theorem zJy (c:List Pack) (d:zC) (n:Int):(zBd c d n).Code ≠9:=by
 unfold zBd
 split
 ·split
  ·rename_i f _
   rcases zIx c (b2s f.Data) with ⟨h,_⟩|⟨h,_⟩
   ·rcases h with h|h<;>simp [h,zJD]
   ·simp [h]
  ·simp [zJD]
 ·simp [zJD]
theorem zGJ {S1 S2 T1 T2:Type} {b1:S1→Option (Lp S1 T1)} {b2:S2→Option (Lp S2 T2)} (I:Nat→S1→S2→Prop) (n:Nat) (Q:T1→T2→Prop)
  (hstep:∀i s1 s2,i<n→I i s1 s2→(∃s1' s2',b1 s1=some (.go s1')∧b2 s2=some (.go s2')∧I (i+1) s1' s2')∨∃t1 t2,b1 s1=some (.done t1)∧b2 s2=some (.done t2)∧Q t1 t2)
  (hend:∀s1 s2,I n s1 s2→∃t1 t2,b1 s1=some (.done t1)∧b2 s2=some (.done t2)∧Q t1 t2):∀(k i:Nat) (s1:S1) (s2:S2),i+k=n→I i s1 s2→∃t1 t2,loop b1 s1=some t1∧loop b2 s2=some t2∧Q t1 t2
 |0,i,s1,s2,hk,hI=>by
  obtain ⟨t1,t2,h1,h2,h3⟩:=hend s1 s2 (by rw [show n=i by omega]; exact hI)
  exact ⟨t1,t2,by rw [vY,h1]; rfl,by rw [vY,h2]; rfl,h3⟩
 |k+1,i,s1,s2,hk,hI=>by
  rcases hstep i s1 s2 (by omega) hI with ⟨s1',s2',h1,h2,h3⟩|⟨t1,t2,h1,h2,h3⟩
  ·obtain ⟨t1,t2,h4,h5,h6⟩:=zGJ I n Q hstep hend k (i+1) s1' s2' (by omega) h3
   exact ⟨t1,t2,by rw [vY,h1]; exact h4,by rw [vY,h2]; exact h5,h6⟩
  ·exact ⟨t1,t2,by rw [vY,h1]; rfl,by rw [vY,h2]; rfl,h3⟩
theorem zHg:∀{l r:List File},l.Sublist r→total l≤total r
 |_,_,.slnil =>Int.le_refl _
 |_,_,.cons x h=>by have:=zHg h; simp only [total]; omega
 |_,_,.cons_cons x h=>by have:=zHg h; simp only [total]; omega
def dropped (d:zC) (p:ByteArray) (c:Int) (r:zC):Prop:=
 (c=9∧r= {d with Down:=true})∨(c=0∧r.Down=false∧r.Writes=d.Writes+1∧r.Budget=d.Budget∧r.Stop=d.Stop∧r.Files.Sublist d.Files∧∀f∈d.Files,f.Path≠p→f∈r.Files)
theorem zJd {d r:zC} {p:ByteArray} (hf:d.fine) (hw:d.Writes+1≤2000000000) (h:dropped d p 0 r):r.fine∧r.Down=false:=by
 rcases h with ⟨h,_⟩|⟨_,h2,h3,h4,h5,h6,_⟩
 ·omega
 ·refine ⟨⟨by rw [h4]; exact hf.b1,by have:=hf.w0; omega,by omega,by rw [h5]; exact hf.s0,Nat.le_trans h6.length_le hf.len,fun f hm=>hf.data f (h6.subset hm),hf.sorted.sublist h6,?_⟩,h2⟩
  rw [h4]
  exact Int.le_trans (zHg h6) hf.room
theorem zMP {d:zC} (hf:d.fine) (hdn:d.Down=false) {p:ByteArray} (hp:∃f∈d.Files,f.Path=p):
  ∃c r,zBv d p=some (c==0,r)∧jT d p=some (c,r)∧dropped d p c r:=by
 obtain ⟨fs,bu,wr,st,dn⟩:=d
 simp only at hdn hp
 subst hdn
 have hl:=hf.len; have hw0:=hf.w0; have hw1:=hf.w1; have hso:=hf.sorted
 simp only at hl hw0 hw1 hso
 have hR:=zOK hf rfl
 simp only at hR
 have hw:w64 (wr+1)=wr+1:=xS (by omega) (by omega)
 rcases zHT {Files:=fs,Budget:=bu,Writes:=wr,Stop:=st,Down:=false} p hl hso with ⟨k,hk,e1,e2,hpk⟩|⟨e1,hno,_⟩
 ·simp only at hk e2 hpk
  have hk1:w64 ((k:Int)+1)=((k+1:Nat):Int):=zN (by omega)
  have hs1:zEH fs 0 (k:Int)=some (fs.take k):=by
   unfold zEH
   rw [if_pos ⟨by omega,by omega,by omega⟩]
   simp
  have hs2:zEH fs ((k+1:Nat):Int) (fs.length:Int)=some (fs.drop (k+1)):=by
   rw [zEr (by omega) (Nat.le_refl _)]
   rw [List.take_of_length_le (by simp)]
  have hA1:app 40 ([]:List File) (fs.take k)=some (fs.take k):=by rw [zBe (by simp; omega) (by simp; omega)]; rfl
  have hA2:app 40 (fs.take k) (fs.drop (k+1))=some (fs.take k++fs.drop (k+1)):=zBe (by simp; omega) (by simp; omega)
  have hD:vM fs (k:Int) ((k+1:Nat):Int)=some (fs.take k++fs.drop (k+1)):=by
   unfold vM
   rw [if_pos ⟨by omega,by omega,by omega,by omega⟩]
   simp
  unfold zBv jT yN jL wZ
  simp only [e2,hR,Option.bind_some,Bool.not_true,Bool.false_eq_true,if_false,hk1,hD]
  cases c3:(decide (st≥0)&&decide (wr≥st))
  ·have c4:(if decide (st≥0) then some (decide (wr≥st)) else some false)=some false:=by
    cases h:decide (st≥0)<;>simp [h] at c3 ⊢
    exact c3
   rw [c4]
   simp only [Option.bind_some,Bool.false_eq_true,if_false,Bool.not_true]
   refine ⟨0,{Files:=fs.take k++fs.drop (k+1),Budget:=bu,Writes:=wr+1,Stop:=st,Down:=false},?_,?_,.inr ⟨rfl,rfl,rfl,rfl,rfl,?_,?_⟩⟩
   ·rw [show yK {Files:=fs,Budget:=bu,Writes:=wr+1,Stop:=st,Down:=false} p=yK {Files:=fs,Budget:=bu,Writes:=wr,Stop:=st,Down:=false} p from rfl,e1]
    simp only [Option.bind_some,hs1,hA1,hk1,hs2,hA2]
    rfl
   ·rw [hw]
   ·show (fs.take k++fs.drop (k+1)).Sublist fs
    conv=>rhs; rw [←List.take_append_drop k fs]
    refine List.Sublist.append (List.Sublist.refl _) ?_
    rw [List.drop_eq_getElem_cons hk]
    exact List.sublist_cons_self _ _
   ·intro f hm hne
    show f∈fs.take k++fs.drop (k+1)
    have hm':f∈fs.take k++fs[k]::fs.drop (k+1):=by rw [←List.drop_eq_getElem_cons hk,List.take_append_drop]; exact hm
    rcases List.mem_append.1 hm' with h|h
    ·exact List.mem_append_left _ h
    ·rcases List.mem_cons.1 h with h|h
     ·exact absurd (h▸hpk) hne
     ·exact List.mem_append_right _ h
  ·have c4:(if decide (st≥0) then some (decide (wr≥st)) else some false)=some true:=by
    cases h:decide (st≥0)<;>simp [h] at c3 ⊢
    exact c3
   rw [c4]
   simp only [Option.bind_some,if_true,Bool.not_false]
   exact ⟨9,_,rfl,rfl,.inl ⟨rfl,rfl⟩⟩
 ·obtain ⟨f,hm,e⟩:=hp
  exact absurd e (hno f hm)
def ltS (a b:ByteArray):Prop:=slt a b=true
def leS (a b:ByteArray):Prop:=slt b a=false
theorem zI5 (a:ByteArray):leS a a:=zDI a
theorem zKU {a b:ByteArray} (h:leS a b) (hne:a≠b):ltS a b:=zJP h (Ne.symm hne)
theorem zMT {a b:ByteArray} (h:ltS a b):leS a b:=by
 unfold leS
 cases h2:slt b a with
 |false=>rfl
 |true=>
  have h3:=zDT h h2
  rw [zDI] at h3
  cases h3
theorem zKc {a b c:ByteArray} (h1:leS a b) (h2:ltS b c):ltS a c:=by
 by_cases h:a=b
 ·rw [h]; exact h2
 ·exact zDT (zKU h1 h) h2
theorem zHx {a b c:ByteArray} (h1:leS a b) (h2:leS b c):leS a c:=by
 by_cases h:b=c
 ·rw [←h]; exact h1
 ·exact zMT (zKc h1 (zKU h2 h))
theorem zLp {a b:ByteArray} (h:ltS a b):a≠b:=fun e=>by
 subst e
 unfold ltS at h
 rw [zDI] at h
 cases h
theorem zHl:∀{l1 l2:List ByteArray},l1.Pairwise ltS→l2.Pairwise ltS→(∀x,x∈l1↔x∈l2)→l1=l2
 |[],[],_,_,_=>rfl
 |[],y::l2,_,_,h=>by have:=(h y).2 (by simp); simp at this
 |x::l1,[],_,_,h=>by have:=(h x).1 (by simp); simp at this
 |x::l1,y::l2,h1,h2,h=>by
  rw [List.pairwise_cons] at h1 h2
  have hxy:x=y:=by
   have hx:=(h x).1 (by simp)
   have hy:=(h y).2 (by simp)
   rcases List.mem_cons.1 hx with e|hx
   ·exact e
   ·rcases List.mem_cons.1 hy with e|hy
    ·exact e.symm
    ·exact absurd rfl (zLp (zDT (h1.1 y hy) (h2.1 x hx)))
  subst hxy
  congr 1
  refine zHl h1.2 h2.2 fun z=>?_
  constructor
  ·intro hz
   rcases List.mem_cons.1 ((h z).1 (List.mem_cons_of_mem _ hz)) with e|hz'
   ·exact absurd e.symm (zLp (h1.1 z hz))
   ·exact hz'
  ·intro hz
   rcases List.mem_cons.1 ((h z).2 (List.mem_cons_of_mem _ hz)) with e|hz'
   ·exact absurd e.symm (zLp (h2.1 z hz))
   ·exact hz'
theorem zKy:∀(x y:List UInt8),x<y↔Op.bytesLess x y=true
 |[],[]=>by simp [Op.bytesLess]
 |[],y::l=>by simp [Op.bytesLess]
 |x::l,[]=>by simp [Op.bytesLess]
 |x::l,y::r=>by
  rw [List.cons_lt_cons_iff,zKy l r]
  simp only [Op.bytesLess]
  by_cases h:x<y
  ·simp [h]
  ·by_cases h2:y<x
   ·have:x≠y:=fun e=>by subst e; exact UInt8.lt_irrefl _ h2
    simp [h,this]
   ·have:x=y:=by
     rw [UInt8.lt_iff_toNat_lt] at h h2
     exact UInt8.toNat_inj.1 (by omega)
    subst this
    simp [UInt8.lt_irrefl]
theorem zPA (x y:List UInt8):decide (x≤y)= !(Op.bytesLess y x):=by
 cases hb:Op.bytesLess y x with
 |true=>
  have:¬(x≤y):=fun h=>h ((zKy y x).2 hb)
  simpa using this
 |false=>
  have:x≤y:=fun hc=>by
   rw [(zKy y x).1 hc] at hb
   cases hb
  simpa using this
theorem toList_data (s:ByteArray):s.data.toList=s.toList:=(ByteArray.toList_eq s).symm
theorem zNS (a:List ByteArray) (hl:a.length≤1048577):∃r,wV a=some r∧r.Pairwise leS∧(∀x,x∈r↔x∈a)∧r.length=a.length:=by
 unfold wV
 rw [if_pos (by omega)]
 have hle:∀x y:List UInt8,decide (x≤y)=true↔leS ⟨x.toArray⟩ ⟨y.toArray⟩:=fun x y=>by
  rw [zPA]
  unfold leS slt
  rw [←toList_data,←toList_data]
  cases Op.bytesLess y x<;>simp
 have hpw:=List.pairwise_mergeSort (le:=fun x y:List UInt8=>decide (x≤y)) (by
  intro x y z h1 h2
  exact (hle x z).2 (zHx ((hle x y).1 h1) ((hle y z).1 h2))) (by
  intro x y
  have:leS ⟨x.toArray⟩ ⟨y.toArray⟩∨leS ⟨y.toArray⟩ ⟨x.toArray⟩:=by
   cases h:slt ⟨y.toArray⟩ ⟨x.toArray⟩ with
   |false=>exact .inl h
   |true=>exact .inr (zMT h)
  rcases this with h|h
  ·rw [(hle x y).2 h]; rfl
  ·rw [(hle y x).2 h,Bool.or_true]) (a.map (·.data.toList))
 refine ⟨_,rfl,?_,fun x=>?_,by simp [List.length_mergeSort]⟩
 ·exact List.pairwise_map.2 (hpw.imp fun h=>(hle _ _).1 h)
 ·simp only [List.mem_map,List.mem_mergeSort]
  constructor
  ·rintro ⟨_,⟨y,hy,rfl⟩,rfl⟩
   exact hy
  ·intro hx
   exact ⟨_,⟨x,hx,rfl⟩,rfl⟩
theorem zM3 (l:List ByteArray) (v:ByteArray) (hs:l.Pairwise ltS) (hl:l.length≤1048576):
  ∃r,zDs l v=some r∧r.Pairwise ltS∧(∀x,x∈r↔x∈l∨x=v)∧r.length≤l.length+1:=by
 obtain ⟨t,e,ht⟩:=uT (b:=zC3 l v)
  (fun i s=>s.2.2=(i:Int)∧s.1.Pairwise ltS∧(∀x,x∈s.1↔x∈l.take i∨(s.2.1=true∧x=v))∧s.1.length=i+(if s.2.1 then 1 else 0)∧(s.2.1=false→∀x∈l.take i,ltS x v)∧(s.2.1=true→∀x∈l.drop i,ltS v x)) l.length
  (fun t=>(t= .ret l∧v∈l)∨∃a b,t= .nxt (a,b)∧a.Pairwise ltS∧(∀x,x∈a↔x∈l∨(b=true∧x=v))∧a.length=l.length+(if b then 1 else 0)∧(b=false→∀x∈l,ltS x v)) (by
  rintro i ⟨acc,inn,j⟩ hi ⟨hj,hp,hm,hlen,hf,ht⟩
  simp only at hj hp hm hlen hf ht
  subst hj
  have hget:∀(i j:Nat) (hi:i<l.length) (hj:j<l.length),i<j→ltS l[i] l[j]:=fun i j hi hj h=>List.pairwise_iff_getElem.1 hs i j hi hj h
  have hlt:∀x∈l.take i,ltS x l[i]:=by
   intro x hx
   obtain ⟨k,hk,rfl⟩:=List.mem_iff_getElem.1 hx
   rw [List.getElem_take]
   have:k<i:=by simp at hk; omega
   exact hget _ _ (by omega) hi this
  have htk:l.take (i+1)=l.take i++[l[i]]:=List.take_succ_eq_append_getElem hi
  have hdr:l.drop i=l[i]::l.drop (i+1):=List.drop_eq_getElem_cons hi
  have hal:acc.length≤1048577:=by rw [hlen]; split<;>omega
  unfold zC3
  rw [if_pos (by simp; omega),zM hi]
  simp only [Option.bind_some]
  rw [zN (by omega)]
  by_cases heq:l[i]=v
  ·rw [if_pos (by rw [seq_eq]; simpa using heq)]
   exact .inr ⟨_,rfl,.inl ⟨rfl,heq▸List.getElem_mem hi⟩⟩
  ·rw [if_neg (by rw [seq_eq]; simpa using heq)]
   refine .inl ?_
   have hs2:(slt l[i] v||seq l[i] v)=slt l[i] v:=by rw [seq_eq]; simp [heq]
   rw [hs2]
   cases inn
   ·cases hgt:slt l[i] v
    ·have hvl:ltS v l[i]:=zJP hgt heq
     simp only [Bool.not_false,Option.bind_some,if_true]
     rw [zBe (by simp; omega) (by simp; omega)]
     simp only [Option.bind_some]
     rw [zBe (by simp; omega) (by simp; omega)]
     refine ⟨_,rfl,rfl,?_,?_,?_,by simp,?_⟩
     ·simp only
      have hav:∀x∈acc,ltS x v:=fun x hx=>hf rfl x (by have:=(hm x).1 hx; simpa using this)
      rw [List.pairwise_append,List.pairwise_append]
      refine ⟨⟨hp,by simp,fun x hx y hy=>by simp at hy; rw [hy]; exact hav x hx⟩,by simp,fun x hx y hy=>?_⟩
      simp at hy
      rw [hy]
      rcases List.mem_append.1 hx with hx|hx
      ·exact zDT (hav x hx) hvl
      ·simp at hx; rw [hx]; exact hvl
     ·intro x
      have:=hm x
      simp only [List.mem_append,List.mem_singleton,htk]
      simp at this
      rw [this]
      simp
      constructor<;>(intro h; rcases h with (h|h)|h<;>simp [h])
     ·simp; simp at hlen; omega
     ·intro _ x hx
      have:ltS l[i] x:=by
       obtain ⟨k,hk,rfl⟩:=List.mem_iff_getElem.1 hx
       rw [List.getElem_drop]
       simp at hk
       exact hget _ _ hi (by omega) (by omega)
      exact zDT hvl this
    ·simp only [Bool.not_true,Bool.false_eq_true,if_false,Option.bind_some]
     rw [zBe (by simp; omega) (by simp; omega)]
     refine ⟨_,rfl,rfl,?_,?_,?_,?_,by simp⟩
     ·simp only
      rw [List.pairwise_append]
      refine ⟨hp,by simp,fun x hx y hy=>?_⟩
      simp at hy
      rw [hy]
      have:=(hm x).1 hx
      exact hlt x (by simpa using this)
     ·intro x
      have:=hm x
      simp only [List.mem_append,List.mem_singleton,htk]
      simp at this
      rw [this]
      simp
     ·simp; simp at hlen; omega
     ·intro _ x hx
      rw [htk] at hx
      rcases List.mem_append.1 hx with hx|hx
      ·exact hf rfl x hx
      ·simp at hx; rw [hx]; exact hgt
   ·have hlv:ltS v l[i]:=ht rfl _ (by rw [hdr]; exact List.mem_cons_self)
    have hgt:slt l[i] v=false:=zMT hlv
    rw [hgt]
    simp only [Bool.not_false,Bool.not_true,Option.bind_some,Bool.false_eq_true,if_false,if_true]
    rw [zBe (by simp; omega) (by simp; omega)]
    refine ⟨_,rfl,rfl,?_,?_,?_,by simp,?_⟩
    ·simp only
     rw [List.pairwise_append]
     refine ⟨hp,by simp,fun x hx y hy=>?_⟩
     simp at hy
     rw [hy]
     rcases (hm x).1 hx with hx|⟨_,hx⟩
     ·exact hlt x hx
     ·rw [hx]; exact hlv
    ·intro x
     have:=hm x
     simp only [List.mem_append,List.mem_singleton,htk]
     rw [this]
     simp
     constructor<;>(intro h; rcases h with (h|h)|h<;>simp [h])
    ·simp; simp at hlen; omega
    ·intro _ x hx
     exact ht rfl x (by rw [hdr]; exact List.mem_cons_of_mem _ hx)) (by
  rintro ⟨acc,inn,j⟩ ⟨hj,hp,hm,hlen,hf,ht⟩
  simp only at hj hp hm hlen hf ht
  subst hj
  unfold zC3
  rw [if_neg (by simp)]
  rw [List.take_length] at hm hf
  exact ⟨_,rfl,.inr ⟨acc,inn,rfl,hp,hm,hlen,hf⟩⟩) l.length 0 (([]:List ByteArray),false,0) (by omega) ⟨rfl,by simp,by simp,by simp,by simp,by simp⟩
 unfold zDs zCX
 rw [e]
 rcases ht with ⟨rfl,hv⟩|⟨acc,inn,rfl,h1,h2,h3,h4⟩
 ·refine ⟨l,rfl,hs,fun x=>⟨.inl,fun h=>h.elim id (fun e=>e▸hv)⟩,by omega⟩
 ·simp only [Option.bind_some,Fl.go]
  cases inn
  ·simp only [Bool.not_false,if_true]
   simp at h3
   rw [zBe (by simp; omega) (by simp; omega)]
   refine ⟨_,rfl,?_,?_,by simp; omega⟩
   ·rw [List.pairwise_append]
    refine ⟨h1,by simp,fun x hx y hy=>?_⟩
    simp at hy
    rw [hy]
    have:=(h2 x).1 hx
    exact h4 rfl x (by simpa using this)
   ·intro x
    have:=h2 x
    simp at this
    simp [this]
  ·refine ⟨_,rfl,h1,?_,by simp at h3; omega⟩
   intro x
   have:=h2 x
   simpa using this
theorem zHG (a:List ByteArray) (k0:Nat) (h0:1≤k0) (hk:k0<a.length) (hs:a.Pairwise leS) (hl:a.length≤1048577) (hd:a[k0]'hk=a[k0-1]'(by omega)) (hp0:(a.take k0).Pairwise ltS) (x48:List ByteArray) (hx:x48.length=a.length-k0):
  ∃xs k,xV (k0:Int) x48 (a,(k0:Int),1)=some (xs,((k:Nat):Int))∧xs.length=a.length∧k≤a.length∧(xs.take k).Pairwise ltS∧∀x,x∈xs.take k↔x∈a:=by
 have hle:∀(i j:Nat) (hi:i<a.length) (hj:j<a.length),i≤j→leS a[i] a[j]:=by
  intro i j hi hj hij
  rcases Nat.lt_or_ge i j with h|h
  ·exact List.pairwise_iff_getElem.1 hs i j hi hj h
  ·have:i=j:=by omega
   subst this; exact zI5 _
 obtain ⟨⟨xs,k'⟩,e,h1,k,h2,h3,h4,h5⟩:=uT (b:=wI (k0:Int) x48)
  (fun i s=>s.2.2=((i+1:Nat):Int)∧s.1.length=a.length∧(∀j,i+k0≤j→s.1[j]? =a[j]?)∧∃k:Nat,s.2.1=(k:Int)∧1≤k∧k≤i+k0∧(s.1.take k).Pairwise ltS∧(∀x,x∈s.1.take k↔x∈a.take (i+k0+1))∧(∀x∈s.1.take k,leS x (a.getD (i+k0) ByteArray.empty))) (a.length-k0-1)
  (fun t=>t.1.length=a.length∧∃k:Nat,t.2=(k:Int)∧k≤a.length∧(t.1.take k).Pairwise ltS∧∀x,x∈t.1.take k↔x∈a) (by
  rintro i ⟨xs,kk,jj⟩ hi ⟨hj,hlen,hsame,k,hkk,hk1,hkle,hpw,hmem,hmax⟩
  simp only at hj hlen hsame hkk hpw hmem hmax
  subst hj hkk
  have hi1:i+k0+1<a.length:=by omega
  have g1:xs[i+k0+1]'(by omega)=a[i+k0+1]:=by
   have:=hsame (i+k0+1) (by omega)
   rw [List.getElem?_eq_getElem (by omega),List.getElem?_eq_getElem hi1] at this
   exact Option.some.inj this
  have g0:xs[i+k0]'(by omega)=a[i+k0]:=by
   have:=hsame (i+k0) (by omega)
   rw [List.getElem?_eq_getElem (by omega),List.getElem?_eq_getElem (by omega)] at this
   exact Option.some.inj this
  have hgd:a.getD (i+k0) ByteArray.empty=a[i+k0]:=by simp [List.getD,show i+k0<a.length by omega]
  rw [hgd] at hmax
  have r1:zIX xs (k0:Int) x48.length ((i+1:Nat):Int)=some a[i+k0+1]:=by
   unfold zIX
   rw [if_pos (by omega),show (k0:Int)+((i+1:Nat):Int)=((i+k0+1:Nat):Int) by omega,zM (by omega),g1]
  have r0:zIX xs (k0:Int) x48.length (i:Int)=some a[i+k0]:=by
   unfold zIX
   rw [if_pos (by omega),show (k0:Int)+(i:Int)=((i+k0:Nat):Int) by omega,zM (by omega),g0]
  refine .inl ?_
  unfold wI
  rw [if_pos (by simp; omega)]
  simp only
  rw [r1,xS (x:=((i+1:Nat):Int)-1) (by omega) (by omega),show ((i+1:Nat):Int)-1=(i:Int) by omega,r0,zM (show k<xs.length by omega),zN (show k<_ by omega),zN (show i+1<_ by omega)]
  simp only [Option.bind_some]
  have htk:a.take (i+k0+1+1)=a.take (i+k0+1)++[a[i+k0+1]]:=List.take_succ_eq_append_getElem hi1
  have hmono:=hle (i+k0) (i+k0+1) (by omega) hi1 (by omega)
  have hgd1:a.getD (i+1+k0) ByteArray.empty=a[i+k0+1]:=by
   rw [show i+1+k0=i+k0+1 by omega]
   simp [List.getD,hi1]
  by_cases hne:a[i+k0+1]=a[i+k0]
  ·rw [if_neg (by simp [hne])]
   refine ⟨_,rfl,rfl,hlen,fun j hj=>hsame j (by omega),k,rfl,hk1,by omega,hpw,?_,?_⟩
   ·intro x
    rw [show i+1+k0+1=i+k0+1+1 by omega,htk,hmem,List.mem_append,List.mem_singleton]
    constructor
    ·exact fun h=>.inl h
    ·rintro (h|h)
     ·exact h
     ·rw [h,hne]
      refine List.mem_iff_getElem.2 ⟨i+k0,by simp; omega,by simp⟩
   ·intro x hx
    rw [hgd1]
    exact zHx (hmax x hx) hmono
  ·rw [if_pos (by simpa [seq_eq] using hne)]
   refine ⟨_,rfl,rfl,by simpa using hlen,?_,k+1,rfl,by omega,by omega,?_,?_,?_⟩
   ·intro j hj
    show (xs.set (k:Int).toNat a[i+k0+1])[j]? =a[j]?
    rw [Int.toNat_natCast,List.getElem?_set_ne (by omega)]
    exact hsame j (by omega)
   ·show ((xs.set (k:Int).toNat a[i+k0+1]).take (k+1)).Pairwise ltS
    rw [Int.toNat_natCast,zEG (by omega),List.pairwise_append]
    refine ⟨hpw,by simp,fun x hx y hy=>?_⟩
    simp at hy
    rw [hy]
    exact zKc (hmax x hx) (zKU hmono (Ne.symm hne))
   ·intro x
    show x∈(xs.set (k:Int).toNat a[i+k0+1]).take (k+1)↔_
    rw [Int.toNat_natCast,zEG (by omega),show i+1+k0+1=i+k0+1+1 by omega,htk,List.mem_append,List.mem_append,hmem]
   ·intro x hx
    have hx':x∈(xs.set (k:Int).toNat a[i+k0+1]).take (k+1):=hx
    rw [Int.toNat_natCast,zEG (by omega)] at hx'
    rw [hgd1]
    rcases List.mem_append.1 hx' with h|h
    ·exact zHx (hmax x h) hmono
    ·simp at h; rw [h]; exact zI5 _) (by
  rintro ⟨xs,kk,jj⟩ ⟨hj,hlen,hsame,k,hkk,hk1,hkle,hpw,hmem,hmax⟩
  simp only at hj hlen hsame hkk hpw hmem hmax
  subst hj hkk
  unfold wI
  rw [if_neg (by simp; omega)]
  refine ⟨_,rfl,hlen,k,rfl,by omega,hpw,fun x=>?_⟩
  rw [hmem,List.take_of_length_le (by omega)]) (a.length-k0-1) 0 (a,(k0:Int),1) (by omega) ⟨rfl,rfl,fun _ _=>rfl,k0,rfl,h0,by omega,hp0,by
   intro x
   rw [Nat.zero_add,List.take_succ_eq_append_getElem hk,List.mem_append,List.mem_singleton]
   constructor
   ·exact fun h=>.inl h
   ·rintro (h|h)
    ·exact h
    ·rw [h,hd]
     exact List.mem_iff_getElem.2 ⟨k0-1,by simp; omega,by simp⟩,by
   intro x hx
   rw [Nat.zero_add]
   obtain ⟨j,hj,rfl⟩:=List.mem_iff_getElem.1 hx
   rw [List.getElem_take]
   have hgd:a.getD k0 ByteArray.empty=a[k0]:=by simp [List.getD,hk]
   rw [hgd]
   simp at hj
   exact hle j k0 (by omega) hk (by omega)⟩
 simp only at h1 h2
 subst h2
 exact ⟨xs,k,by unfold xV; exact e,h1,h3,h4,h5⟩
theorem zKF (a:List ByteArray) (hs:a.Pairwise leS) (hl:a.length≤1048577):∃r,xX a=some r∧r.Pairwise ltS∧(∀x,x∈r↔x∈a)∧r.length≤a.length:=by
 have step1:∀i (hi:i<a.length) (h1:1≤i),(a.take i).Pairwise ltS→a[i]≠a[i-1]'(by omega)→(a.take (i+1)).Pairwise ltS:=by
  intro i hi h1 hp hne
  rw [List.take_succ_eq_append_getElem hi,List.pairwise_append]
  refine ⟨hp,by simp,fun x hx y hy=>?_⟩
  simp at hy
  rw [hy]
  obtain ⟨j,hj,rfl⟩:=List.mem_iff_getElem.1 hx
  rw [List.getElem_take]
  simp at hj
  have q1:leS (a[i-1]'(by omega)) a[i]:=List.pairwise_iff_getElem.1 hs (i-1) i (by omega) hi (by omega)
  have q2:leS (a[j]'(by omega)) (a[i-1]'(by omega)):=by
   rcases Nat.lt_or_ge j (i-1) with h|h
   ·exact List.pairwise_iff_getElem.1 hs j (i-1) (by omega) (by omega) h
   ·have:j=i-1:=by omega
    subst this; exact zI5 _
  exact zKc q2 (zKU q1 (Ne.symm hne))
 have hb:∀i (hi:i<a.length) (h1:1≤i),(a.take i).Pairwise ltS→(a[i]=a[i-1]'(by omega)∧∃r,xA a (i:Int)=some (.done (.ret r))∧r.Pairwise ltS∧(∀x,x∈r↔x∈a)∧r.length≤a.length)∨(a[i]≠a[i-1]'(by omega)∧xA a (i:Int)=some (.go ((i+1:Nat):Int))):=by
  intro i hi h1 hp
  unfold xA
  rw [if_pos (by simp; omega),zM hi,xS (x:=(i:Int)-1) (by omega) (by omega),show (i:Int)-1=((i-1:Nat):Int) by omega,zM (show i-1<a.length by omega),zN (by omega)]
  simp only [Option.bind_some]
  by_cases he:a[i]=a[i-1]'(by omega)
  ·left
   refine ⟨he,?_⟩
   rw [if_pos (by simpa [seq_eq] using he),zEr (Nat.le_of_lt hi) (Nat.le_refl _)]
   simp only [Option.bind_some]
   obtain ⟨xs,k,e,g1,g2,g3,g4⟩:=zHG a i h1 hi hs hl he hp ((a.drop i).take (a.length-i)) (by simp)
   rw [e]
   simp only [Option.bind_some]
   have hk:k≤xs.length:=by omega
   rw [zEr hk (Nat.le_refl _)]
   simp only [Option.bind_some]
   rw [zKD (by simp; omega)]
   simp only [Option.bind_some]
   refine ⟨xs.take k,?_,g3,g4,by simp; omega⟩
   have:∀ys:List ByteArray,zEH (xs.take k++ys) 0 (k:Int)=some (xs.take k):=by
    intro ys
    have hh:=zEr (xs:=xs.take k++ys) (l:=0) (h:=k) (by omega) (by simp; omega)
    rw [show ((0:Nat):Int)=0 from rfl] at hh
    rw [hh]
    simp [Nat.min_eq_left hk]
   rw [List.append_assoc,this]
   rfl
  ·right
   rw [if_neg (by simpa [seq_eq] using he)]
   exact ⟨he,rfl⟩
 unfold xX
 by_cases h2:a.length<2
 ·rw [if_pos (by simp; omega)]
  refine ⟨a,rfl,?_,fun x=>Iff.rfl,Nat.le_refl _⟩
  match a,h2 with
  |[],_=>simp
  |[x],_=>simp
 ·rw [if_neg (by simp; omega)]
  obtain ⟨t,e,h⟩:=uT (b:=xA a) (fun i s=>s=((i+1:Nat):Int)∧(a.take (i+1)).Pairwise ltS) (a.length-1)
   (fun t=>(∃r,t= .ret r∧r.Pairwise ltS∧(∀x,x∈r↔x∈a)∧r.length≤a.length)∨(t= .nxt ()∧a.Pairwise ltS)) (by
   rintro i s hi ⟨rfl,hp⟩
   rcases hb (i+1) (by omega) (by omega) hp with ⟨_,r,e,q⟩|⟨hne,e⟩
   ·exact .inr ⟨_,e,.inl ⟨r,rfl,q⟩⟩
   ·exact .inl ⟨_,e,rfl,step1 (i+1) (by omega) (by omega) hp hne⟩) (by
   rintro s ⟨rfl,hp⟩
   rw [show a.length-1+1=a.length by omega] at hp ⊢
   refine ⟨.nxt (),?_,.inr ⟨rfl,by rw [List.take_length] at hp; exact hp⟩⟩
   unfold xA
   rw [if_neg (by simp)]) (a.length-1) 0 1 (by omega) ⟨rfl,by
    match a,h2 with
    |x::l,_=>simp⟩
  unfold wQ
  rw [e]
  rcases h with ⟨r,rfl,q⟩|⟨rfl,q⟩
  ·exact ⟨r,rfl,q⟩
  ·exact ⟨a,rfl,q,fun x=>Iff.rfl,Nat.le_refl _⟩
theorem zLN (a:List ByteArray) (hl:a.length≤1048577):∃r,zCB a=some r∧r.Pairwise ltS∧∀x,x∈r↔x∈a:=by
 obtain ⟨m,e1,e2,e3,e4⟩:=zNS a hl
 obtain ⟨r,f1,f2,f3,_⟩:=zKF m e2 (by omega)
 unfold zCB
 rw [e1]
 simp only [Option.bind_some]
 rw [zED e4]
 simp only [Option.bind_some]
 rw [f1]
 exact ⟨r,rfl,f2,fun x=>by rw [f3,e3]⟩
theorem zJc (d:zC) (a2 gs:List Int) (h2:a2.length≤40) (hg:gs.length≤1048576):
  ∃t,zBm d a2 gs (([]:List Int),0)=some t∧((t= .ret (([]:List Int),4)∧∃x∈a2,x∉gs)∨∃l,t= .nxt l∧(∀x∈a2,x∈gs)∧l.Pairwise (· < ·)∧(∀x,x∈l↔x∈a2)∧l.length≤a2.length):=by
 unfold zBm
 refine uT (b:=zBL d a2 gs) (fun i s=>s.2=(i:Int)∧(∀x∈a2.take i,x∈gs)∧s.1.Pairwise (· < ·)∧(∀x,x∈s.1↔x∈a2.take i)∧s.1.length≤i) a2.length _ (by
  rintro i ⟨l,j⟩ hi ⟨hj,ha,hp,hm,hl⟩
  simp only at hj hp hm hl
  subst hj
  unfold zBL
  rw [if_pos (by simp; omega),zM hi]
  simp only [Option.bind_some]
  rw [zD0 _ _ hg,zD0 _ _ (show l.length≤1048576 by omega),zN (by omega)]
  simp only [Option.bind_some]
  have htk:a2.take (i+1)=a2.take i++[a2[i]]:=List.take_succ_eq_append_getElem hi
  by_cases hc:a2[i]∈gs
  ·rw [if_neg (by simpa using hc)]
   have ha':∀x∈a2.take (i+1),x∈gs:=by
    intro x hx
    rw [htk] at hx
    rcases List.mem_append.1 hx with hx|hx
    ·exact ha x hx
    ·simp at hx; rw [hx]; exact hc
   by_cases hin:a2[i]∈l
   ·rw [if_neg (by simpa using hin)]
    refine .inl ⟨_,rfl,rfl,ha',hp,fun x=>?_,by simp only; omega⟩
    rw [htk,List.mem_append,List.mem_singleton,←hm]
    exact ⟨.inl,fun h=>h.elim id (fun e=>e▸hin)⟩
   ·rw [if_pos (by simpa using hin)]
    obtain ⟨r,e,r1,r2,r3⟩:=zGG l a2[i] hp hin (by omega)
    rw [e]
    refine .inl ⟨_,rfl,rfl,ha',r1,fun x=>?_,by simp only; omega⟩
    rw [htk,List.mem_append,List.mem_singleton,←hm]
    exact r2 x
  ·rw [if_pos (by simpa using hc)]
   exact .inr ⟨_,rfl,.inl ⟨rfl,_,List.getElem_mem hi,hc⟩⟩) (by
  rintro ⟨l,j⟩ ⟨hj,ha,hp,hm,hl⟩
  simp only at hj hp hm hl
  subst hj
  unfold zBL
  rw [if_neg (by simp)]
  rw [List.take_length] at ha hm
  exact ⟨_,rfl,.inr ⟨l,rfl,ha,hp,hm,hl⟩⟩) a2.length 0 (([]:List Int),0) (by omega) ⟨rfl,by simp,by simp,by simp,by simp⟩
theorem zKo (a2 gs:List Int) (h2:a2.length≤1048576) (hg:gs.length≤1048576):zQ a2 gs=some (a2.any fun x=> !(decide (x∈gs))):=by
 have key:=uG a2 (fun i x=>if !(decide (x∈gs)) then some (i:Int) else none) (b:=yE a2 gs) (by
  intro i hi
  unfold yE kS
  rw [if_pos (by simp; omega),zM hi]
  simp only [Option.bind_some]
  rw [zFh _ _ hg,zN (by omega)]
  cases decide (a2[i]∈gs)<;>rfl) (by
  unfold yE
  rw [if_neg (by simp)])
 unfold zQ yA yH
 rw [key,zEL,←zGL (zEy (fun x=> !(decide (x∈gs))) a2 0)]
 cases jI (fun i x=>if !(decide (x∈gs)) then some (i:Int) else none) 0 a2<;>rfl
theorem zMr (d:zC) (a2:List Int) (hg:d.good) (hb:∀f∈d.Files,∀c∈f.Data,0≤c∧c≤255):
  ∃r,kJ d a2=some r∧vT d a2=some r∧r.1.length≤41:=by
 have hl:d.Files.length≤1048576:=by have:=hg.len; omega
 have hgl:=zBw d.Files
 have hgs:(kG d.Files).length ≤1048576:=by omega
 unfold kJ vT
 rw [zEj d hl,zIL d hl]
 simp only [Option.bind_some]
 by_cases h40:(a2.length:Int)>40
 ·rw [if_pos (by simpa using h40),if_pos (by simpa using h40)]
  exact ⟨_,rfl,rfl,by simp⟩
 rw [if_neg (by simpa using h40),if_neg (by simpa using h40)]
 obtain ⟨e1,e2⟩:=zFc d hg hb
 obtain ⟨t,et,ht⟩:=zJc d a2 (kG d.Files) (by omega) hgs
 rw [et,zKo _ _ (by omega) hgs]
 simp only [Option.bind_some]
 rcases ht with ⟨rfl,x,hx,hxn⟩|⟨l,rfl,hall,hp,hm,hll⟩
 ·have:(a2.any fun x=> !(decide (x∈kG d.Files)))=true:=List.any_eq_true.2 ⟨x,hx,by simpa using hxn⟩
  rw [if_pos this]
  exact ⟨_,rfl,rfl,by simp⟩
 ·have:(a2.any fun x=> !(decide (x∈kG d.Files)))=false:=by
   rw [List.any_eq_false]
   intro x hx
   simpa using hall x hx
  rw [if_neg (by rw [this]; simp)]
  simp only [Fl.go]
  rw [e1,e2]
  cases hcur:zGB d with
  |none=>exact ⟨_,rfl,rfl,by simp⟩
  |some n=>
   have hpos:=zNp hcur
   have hn:n≠0:=by omega
   simp only [Option.bind_some,Option.getD_some]
   rw [if_neg (by simpa using hn),if_neg (by simp)]
   rw [zD0 _ _ (show l.length≤1048576 by omega)]
   simp only [Option.bind_some]
   have hs:∃r,(if (!(decide (n∈l)))=true then (wX l n).bind fun x46=>some x46 else some l)=some r∧r.Pairwise (· < ·)∧(∀x,x∈r↔x∈a2∨x=n)∧r.length≤41:=by
    by_cases hin:n∈l
    ·rw [if_neg (by simpa using hin)]
     refine ⟨l,rfl,hp,fun x=>?_,by omega⟩
     rw [hm]
     exact ⟨.inl,fun h=>h.elim id (fun e=>e▸(hm n).1 hin)⟩
    ·rw [if_pos (by simpa using hin)]
     obtain ⟨r,e,r1,r2,r3⟩:=zGG l n hp hin (by omega)
     rw [e]
     exact ⟨r,rfl,r1,fun x=>by rw [r2,hm],by omega⟩
   obtain ⟨r,er,r1,r2,r3⟩:=hs
   rw [er]
   simp only [Option.bind_some]
   unfold uV
   rw [zBe (by simp; omega) (by simp; omega)]
   simp only [Option.bind_some,List.nil_append]
   rw [zBe (by simp; omega) (by simp; omega)]
   simp only [Option.bind_some]
   have hsort:xM (a2++[n])=some ((a2++[n]).mergeSort fun x y=>decide (x≤y)):=by
    unfold xM
    rw [if_pos (by simp; omega)]
   rw [hsort]
   simp only [Option.bind_some]
   rw [zED (List.length_mergeSort _)]
   simp only [Option.bind_some]
   have hpw:((a2++[n]).mergeSort fun x y=>decide (x≤y)).Pairwise (· ≤ ·):=by
    have:=List.pairwise_mergeSort (le:=fun x y:Int=>decide (x≤y)) (by intro a b c h1 h2; simp at h1 h2 ⊢; omega) (by intro a b; simp; omega) (a2++[n])
    exact this.imp (by intro a b h; simpa using h)
   obtain ⟨q,eq,q1,q2,q3⟩:=zL8 _ hpw (by rw [List.length_mergeSort]; simp; omega)
   rw [eq]
   have hqr:q=r:=zFm q1 r1 (fun x=>by rw [q2,r2,List.mem_mergeSort,List.mem_append,List.mem_singleton])
   subst hqr
   exact ⟨_,rfl,rfl,r3⟩
theorem zMj (d:zC) (a2 gs:List Int) (h2:a2.length≤40) (hg:gs.length≤1048576):
  ∃t,zAz d a2 gs (([]:List Int),0)=some t∧((t= .ret (([]:List Int),4,d)∧∃x∈a2,x∉gs)∨∃l,t= .nxt l∧(∀x∈a2,x∈gs)∧l.Pairwise (· < ·)∧(∀x,x∈l↔x∈a2)∧l.length≤a2.length):=by
 unfold zAz
 refine uT (b:=zBn d a2 gs) (fun i s=>s.2=(i:Int)∧(∀x∈a2.take i,x∈gs)∧s.1.Pairwise (· < ·)∧(∀x,x∈s.1↔x∈a2.take i)∧s.1.length≤i) a2.length _ (by
  rintro i ⟨l,j⟩ hi ⟨hj,ha,hp,hm,hl⟩
  simp only at hj hp hm hl
  subst hj
  unfold zBn
  rw [if_pos (by simp; omega),zM hi]
  simp only [Option.bind_some]
  rw [zD0 _ _ hg,zD0 _ _ (show l.length≤1048576 by omega),zN (by omega)]
  simp only [Option.bind_some]
  have htk:a2.take (i+1)=a2.take i++[a2[i]]:=List.take_succ_eq_append_getElem hi
  by_cases hc:a2[i]∈gs
  ·rw [if_neg (by simpa using hc)]
   have ha':∀x∈a2.take (i+1),x∈gs:=by
    intro x hx
    rw [htk] at hx
    rcases List.mem_append.1 hx with hx|hx
    ·exact ha x hx
    ·simp at hx; rw [hx]; exact hc
   by_cases hin:a2[i]∈l
   ·rw [if_neg (by simpa using hin)]
    refine .inl ⟨_,rfl,rfl,ha',hp,fun x=>?_,by simp only; omega⟩
    rw [htk,List.mem_append,List.mem_singleton,←hm]
    exact ⟨.inl,fun h=>h.elim id (fun e=>e▸hin)⟩
   ·rw [if_pos (by simpa using hin)]
    obtain ⟨r,e,r1,r2,r3⟩:=zGG l a2[i] hp hin (by omega)
    rw [e]
    refine .inl ⟨_,rfl,rfl,ha',r1,fun x=>?_,by simp only; omega⟩
    rw [htk,List.mem_append,List.mem_singleton,←hm]
    exact r2 x
  ·rw [if_pos (by simpa using hc)]
   exact .inr ⟨_,rfl,.inl ⟨rfl,_,List.getElem_mem hi,hc⟩⟩) (by
  rintro ⟨l,j⟩ ⟨hj,ha,hp,hm,hl⟩
  simp only at hj hp hm hl
  subst hj
  unfold zBn
  rw [if_neg (by simp)]
  rw [List.take_length] at ha hm
  exact ⟨_,rfl,.inr ⟨l,rfl,ha,hp,hm,hl⟩⟩) a2.length 0 (([]:List Int),0) (by omega) ⟨rfl,by simp,by simp,by simp,by simp⟩
theorem zKn (d:zC) (hg:d.good) (hb:∀f∈d.Files,∀c∈f.Data,0≤c∧c≤255):zAq d=some ((zGB d).getD 0,d):=by
 obtain ⟨e,_⟩:=zFc d hg hb
 unfold kK at e
 unfold zAq
 rcases zFH d (bs [99,117,114]) hg with ⟨k,hk,e1,e2,hp⟩|⟨e1,e2,hp⟩
 ·have hn:decide ((k:Int)<0)=false:=by simp
  rw [e1] at e ⊢
  simp only [Option.bind_some,hn,Bool.false_eq_true,if_false,zM hk,Int.toNat_natCast,List.set_getElem_self] at e ⊢
  rw [zEA _ 6 (by omega)] at e ⊢
  simp only [Option.bind_some] at e ⊢
  generalize (match zH3 (bl (b2s d.Files[k].Data)) 6 with|some n=>(n,true)|none=>(0,false))=x7 at e ⊢
  cases h2:x7.2
  ·rw [h2] at e
   simp only [Bool.not_false,if_true,Option.bind_some] at e ⊢
   rw [←Option.some.inj e]
  ·rw [h2] at e
   simp only [Bool.not_true,Bool.false_eq_true,if_false] at e ⊢
   have hl:d.Files.length≤1048576:=by have:=hg.len; omega
   have hgl:=zBw d.Files
   rw [zEj d hl] at e
   rw [zEj _ hl]
   simp only [Option.bind_some,zD0 _ _ (show (kG d.Files).length ≤1048576 by omega)] at e ⊢
   cases h3:(!(decide (x7.1∈kG d.Files)))
   ·rw [h3] at e
    simp only [Bool.false_eq_true,if_false] at e ⊢
    rw [←Option.some.inj e]
   ·rw [h3] at e
    simp only [if_true] at e ⊢
    rw [←Option.some.inj e]
 ·rw [e1] at e ⊢
  have hn:decide ((-1:Int)<0)=true:=by decide
  simp only [Option.bind_some,hn,if_true] at e ⊢
  rw [←Option.some.inj e]
theorem zLx {d:zC} {a2:List Int} (hg:d.good) (hb:Byt d) {r:List Int×Int} (h:kJ d a2=some r):zB5 d a2=some (r.1,r.2,d)∧r.2≠9:=by
 have hl:d.Files.length≤1048576:=by have:=hg.len; omega
 have hgl:=zBw d.Files
 have hgs:(kG d.Files).length ≤1048576:=by omega
 unfold kJ at h
 unfold zB5
 rw [zEj d hl] at h ⊢
 simp only [Option.bind_some] at h ⊢
 by_cases h40:(a2.length:Int)>40
 ·rw [if_pos (by simpa using h40)] at h ⊢
  have hr:=Option.some.inj h; subst hr; exact ⟨rfl,by simp⟩
 rw [if_neg (by simpa using h40)] at h ⊢
 obtain ⟨e1,_⟩:=zFc d hg hb
 have e2:=zKn d hg hb
 obtain ⟨t,et,ht⟩:=zJc d a2 (kG d.Files) (by omega) hgs
 obtain ⟨u,eu,hu⟩:=zMj d a2 (kG d.Files) (by omega) hgs
 rw [et] at h
 rw [eu]
 rcases ht with ⟨rfl,x,hx,hxn⟩|⟨l,rfl,hall,hp,hm,hll⟩
 ·rcases hu with ⟨rfl,_⟩|⟨_,_,hall,_⟩
  ·simp only [Option.bind_some,Fl.go] at h ⊢
   have hr:=Option.some.inj h; subst hr; exact ⟨rfl,by simp⟩
  ·exact absurd (hall x hx) hxn
 ·rcases hu with ⟨_,x,hx,hxn⟩|⟨l',rfl,_,hp',hm',_⟩
  ·exact absurd (hall x hx) hxn
  ·have:l'=l:=zFm hp' hp (fun x=>by rw [hm',hm])
   subst this
   simp only [Option.bind_some,Fl.go,e1] at h
   simp only [Option.bind_some,Fl.go,e2]
   cases hz:((zGB d).getD 0==0)
   ·simp only [hz,Bool.false_eq_true,if_false] at h ⊢
    rw [zD0 _ _ (show l'.length≤1048576 by omega)] at h ⊢
    simp only [Option.bind_some] at h ⊢
    generalize (if (!(decide ((zGB d).getD 0∈l')))=true then (wX l' ((zGB d).getD 0)).bind fun x46=>some x46 else some l')=o at h ⊢
    cases o with
    |none=>cases h
    |some v=>
     simp only [Option.bind_some] at h ⊢
     have hr:=Option.some.inj h; subst hr; exact ⟨rfl,by simp⟩
   ·simp only [hz,if_true] at h ⊢
    have hr:=Option.some.inj h; subst hr; exact ⟨rfl,by simp⟩
def RI (n:Nat) (x y:List ByteArray):Prop:=x.Pairwise ltS∧(∀z,z∈x↔z∈y)∧x.length≤n∧y.length≤n∧∀z∈x,z.size≤28
theorem zNZ {c:List Pack} (h0:CF c=0) {d:zC} {x4:List Int×Int} {s33 s30:List ByteArray×Int} {x37:yG} {a3:List Int} {x34:List Int×Int} (hS:x37.Set=x34.1) (hp:Places c x34.1) {n:Nat} {x y:List ByteArray} (hl:n+x34.1.length≤100000) (h:RI n x y):
  ∃x' y',vV c d x4 s33 x37 (x,0)=some x'∧vL c d a3 s30 x34 (y,0)=some y'∧RI (n+x34.1.length) x' y':=by
 unfold vV vL
 refine zGJ (b1:=zAd c d x4 s33 x37) (b2:=kE c d a3 s30 x34) (fun i s1 s2=>s1.2=(i:Int)∧s2.2=(i:Int)∧RI (n+i) s1.1 s2.1) x34.1.length (RI (n+x34.1.length)) (by
  rintro i ⟨u,j⟩ ⟨v,j'⟩ hi ⟨rfl,rfl,r1,r2,r3,r4,r5⟩
  simp only at r1 r2 r3 r4 r5
  obtain ⟨e1,e2⟩:=zOA (hp _ (List.getElem_mem hi))
  obtain ⟨p1,p2,p3⟩:=zP1 h0 _ e2
  have hsz:=zLZ p1 p2
  obtain ⟨r,er,q1,q2,q3⟩:=zM3 u (zJj (pat c x34.1[i])) r1 (by omega)
  refine .inl ⟨(r,((i+1:Nat):Int)),(v++[zJj (pat c x34.1[i])],((i+1:Nat):Int)),?_,?_,?_⟩
  ·unfold zAd
   simp only [hS]
   rw [if_pos (by simp; omega),zM hi]
   simp only [Option.bind_some,e1,zKh p1 p2,er,zN (show i<9223372036854775807 by omega)]
  ·unfold kE
   rw [if_pos (by simp; omega)]
   simp only
   rw [zM hi]
   simp only [Option.bind_some,e1,zMv p1 p2,zN (show i<9223372036854775807 by omega)]
   rw [zBe (by simp; omega) (by simp; omega)]
   rfl
  ·refine ⟨rfl,rfl,q1,fun z=>?_,?_,?_,fun z hz=>?_⟩
   ·simp only [List.mem_append,List.mem_singleton]
    rw [q2,r2]
   ·simp only; omega
   ·simp only [List.length_append,List.length_singleton]; omega
   ·rcases (q2 z).1 hz with h|h
    ·exact r5 z h
    ·rw [h]; exact hsz) (by
  rintro ⟨u,j⟩ ⟨v,j'⟩ ⟨rfl,rfl,hr⟩
  refine ⟨u,v,?_,?_,hr⟩
  ·unfold zAd
   simp only [hS]
   rw [if_neg (by simp)]
  ·unfold kE
   rw [if_neg (by simp)]) x34.1.length 0 (x,0) (y,0) (by omega) ⟨rfl,rfl,h⟩
theorem zL1 {c:List Pack} {d:zC} (hC:Cat c) (h0:CF c=0) (hg:d.good) (hb:Byt d) (a2:List Int):
  ∃r,zAp c d a2=some r∧tJ c d a2=some r∧r.1.length≤1000∧(∀z∈r.1,z.size≤28)∧r.2≠9∧(r.2=0→∃K,kJ d a2=some (K,0)∧vT d a2=some (K,0)∧K.length≤41):=by
 obtain ⟨⟨K,q⟩,e1,e2,e3⟩:=zMr d a2 hg hb
 simp only at e3
 have hcl:=(zMO h0).1
 unfold zAp tJ
 rw [e1,e2]
 simp only [Option.bind_some]
 by_cases hq:q=0
 ·subst hq
  simp only [bne_self_eq_false,Bool.false_eq_true,if_false]
  unfold zA1
  obtain ⟨t1,t2,l1,l2,h⟩:=zGJ (b1:=tH c d (K,0)) (b2:=uH c d K) (fun i s1 s2=>s1.2=(i:Int)∧s2.2=(i:Int)∧RI (24*i) s1.1 s2.1) K.length
   (fun t1 t2=>(∃q:Int,q≠0∧q≠9∧t1= .ret (([]:List ByteArray),q)∧t2= .ret (([]:List ByteArray),q))∨∃x y,t1= .nxt x∧t2= .nxt y∧RI (24*K.length) x y) (by
   rintro i ⟨u,j⟩ ⟨v,j'⟩ hi ⟨rfl,rfl,hr⟩
   obtain ⟨g1,g2,g3,g4⟩:=zKN c d K[i]
   have hset:=zMd hg hb hC h0 K[i]
   have hspec:=zLB hC.1 hg hb K[i]
   have hb1:tH c d (K,0) (u,(i:Int))=(if ((zBd c d K[i]).Code !=0)=true then (some (Lp.done (Fl.ret (([]:List ByteArray),(zBd c d K[i]).Code)))) else ((vV c d (K,0) (u,(i:Int)) (zBd c d K[i]) (u,0)).bind fun v59=>some (Lp.go (v59,((i+1:Nat):Int))))):=by
    unfold tH
    rw [if_pos (by simp; omega)]
    simp only
    rw [zM hi]
    simp only [Option.bind_some,hspec,zN (show i<9223372036854775807 by omega)]
   have hb2:uH c d K (v,(i:Int))=(if ((zBd c d K[i]).Code !=0)=true then (some (Lp.done (Fl.ret (([]:List ByteArray),(zBd c d K[i]).Code)))) else ((vL c d K (v,(i:Int)) ((zBd c d K[i]).Set,(zBd c d K[i]).Code) (v,0)).bind fun v56=>some (Lp.go (v56,((i+1:Nat):Int))))):=by
    unfold uH
    rw [if_pos (by simp; omega)]
    simp only
    rw [zM hi]
    simp only [Option.bind_some,hset,zN (show i<9223372036854775807 by omega)]
   rw [hb1,hb2]
   by_cases hc:(zBd c d K[i]).Code =0
   ·have hsl:(zBd c d K[i]).Set.length ≤24:=by
     rcases zLy (lo:=0) (hi:=c.length) g3 g4 with h|h
     ·omega
     ·rw [h]; simp
    obtain ⟨x',y',f1,f2,f3,f4,f5,f6,f7⟩:=zNZ h0 (d:=d) (x4:=(K,0)) (s33:=(u,(i:Int))) (s30:=(v,(i:Int))) (x37:=zBd c d K[i]) (a3:=K) (x34:=((zBd c d K[i]).Set,(zBd c d K[i]).Code)) rfl g4 (by simp only; omega) hr
    rw [f1,f2]
    have hc':((zBd c d K[i]).Code !=0)=false:=by simpa using hc
    simp only [hc',Bool.false_eq_true,if_false,Option.bind_some]
    refine .inl ⟨_,_,rfl,rfl,rfl,rfl,f3,f4,?_,?_,f7⟩
    ·simp only at f5 ⊢; omega
    ·simp only at f6 ⊢; omega
   ·have hc':((zBd c d K[i]).Code !=0)=true:=by simpa using hc
    simp only [hc',if_true]
    exact .inr ⟨_,_,rfl,rfl,.inl ⟨_,hc,zJy c d K[i],rfl,rfl⟩⟩) (by
   rintro ⟨u,j⟩ ⟨v,j'⟩ ⟨rfl,rfl,hr⟩
   refine ⟨.nxt u,.nxt v,?_,?_,.inr ⟨u,v,rfl,rfl,hr⟩⟩
   ·unfold tH
    rw [if_neg (by simp)]
   ·unfold uH
    rw [if_neg (by simp)]) K.length 0 (([]:List ByteArray),0) (([]:List ByteArray),0) (by omega) ⟨rfl,rfl,by simp [RI]⟩
  unfold zA2 zAb
  rw [l1,l2]
  rcases h with ⟨q,hq,hq9,rfl,rfl⟩|⟨x,y,rfl,rfl,h1,h2,h3,h4,h5⟩
  ·exact ⟨_,rfl,rfl,by simp,by simp,hq9,fun h=>absurd h hq⟩
  ·obtain ⟨r,er,r1,r2⟩:=zLN y (by omega)
   have:r=x:=zHl r1 h1 (fun z=>by rw [r2,h2])
   subst this
   simp only [Option.bind_some,Fl.go,er]
   exact ⟨_,rfl,rfl,by simp only; omega,h5,by simp only; decide,fun _=>⟨K,rfl,rfl,e3⟩⟩
 ·have hq':(q !=0)=true:=by simpa using hq
  have hq9:=(zLx hg hb e1).2
  simp only [hq',if_true]
  exact ⟨_,rfl,rfl,by simp,by simp,hq9,fun h=>absurd h hq⟩
theorem zLn {α β:Type} (q:α→Bool) (g:α→β):∀(l:List α) (i:Nat) (acc:List β),foldI (fun _ a x=>if q x then a++[g x] else a) i l acc=acc++(l.filter q).map g
 |[],i,acc=>by simp [foldI]
 |x::l,i,acc=>by
  simp only [foldI]
  rw [zLn q g l]
  cases h:q x<;>simp [h]
def zFT (d:zC) (K:List Int) (R:List ByteArray):List ByteArray:=((kG d.Files).filter (fun n=> !(decide (n∈K)))).map zLa++(xW d.Files (bs [112,107,103,47])).filter (fun p=> !(R.any (fun x=>seq x p)))
theorem zMl {d:zC} (hg:d.good) {K:List Int} {R:List ByteArray} (hK:K.length≤1048576) (hR:R.length≤1048576):jS d K R=some (zFT d K R)∧zDK d K R=some (zFT d K R):=by
 have hl:d.Files.length≤1048576:=by have:=hg.len; omega
 have hfl:=hg.len
 have hgl:=zBw d.Files
 have hpl:=zBR d.Files (bs [112,107,103,47])
 have h1:∀(i:Nat) (hi:i< (kG d.Files).length),wH (kG d.Files)[i]=some (zLa (kG d.Files)[i])∧kI (kG d.Files)[i]=some (zLa (kG d.Files)[i]):=fun i hi=>by
  have:=zHm (List.getElem_mem hi)
  refine ⟨?_,zGz (by omega) this.2⟩
  rw [zGx]
  have:inB (kG d.Files)[i] 1 999999=true:=by unfold inB; simp; omega
  rw [this]; rfl
 have hlen:∀{α β:Type} (q:Bool) (a:List β) (x:β) (i:Nat),a.length≤i→(if q=true then a++[x] else a).length ≤i+1:=fun q a x i h=>by
  split
  ·simp; omega
  ·omega
 have s1:=zEf (kG d.Files) (fun _ a n=>if !(decide (n∈K)) then a++[zLa n] else a) (fun i a=>a.length≤i) (b:=kF d K R (kG d.Files)) (by
  intro i a hi ha
  refine ⟨?_,hlen (α:=Int) _ _ _ _ ha⟩
  unfold kF
  rw [if_pos (by simp; omega)]
  simp only
  rw [zM hi]
  simp only [Option.bind_some,zD0 _ _ hK,(h1 i hi).1,zN (show i<9223372036854775807 by omega)]
  rw [zBe (by simp; omega) (by simp; omega)]
  cases decide ((kG d.Files)[i]∈K)<;>rfl) (by
  intro a
  unfold kF
  rw [if_neg (by simp)]) (kG d.Files).length 0 ([]:List ByteArray) (by omega) (by simp)
 have i1:=zEf (kG d.Files) (fun _ a n=>if !(decide (n∈K)) then a++[zLa n] else a) (fun i a=>a.length≤i) (b:=zCR d K R (kG d.Files)) (by
  intro i a hi ha
  refine ⟨?_,hlen (α:=Int) _ _ _ _ ha⟩
  unfold zCR
  rw [if_pos (by simp; omega)]
  simp only
  rw [zM hi]
  simp only [Option.bind_some,zFh _ _ hK,(h1 i hi).2,zN (show i<9223372036854775807 by omega)]
  rw [zBe (by simp; omega) (by simp; omega)]
  cases decide ((kG d.Files)[i]∈K)<;>rfl) (by
  intro a
  unfold zCR
  rw [if_neg (by simp)]) (kG d.Files).length 0 ([]:List ByteArray) (by omega) (by simp)
 rw [List.drop_zero,zLn] at s1 i1
 simp only [List.nil_append] at s1 i1
 generalize hG:((kG d.Files).filter (fun n=> !(decide (n∈K)))).map zLa=G at s1 i1
 have hGl:G.length≤120:=by have:=s1.2; omega
 have s2:=zEf (xW d.Files (bs [112,107,103,47])) (fun _ a p=>if !(R.any (fun x=>seq x p)) then a++[p] else a) (fun i a=>a.length≤120+i) (b:=kC d K R (xW d.Files (bs [112,107,103,47]))) (by
  intro i a hi ha
  refine ⟨?_,hlen (α:=Int) _ _ _ _ ha⟩
  unfold kC
  rw [if_pos (by simp; omega)]
  simp only
  rw [zM hi]
  simp only [Option.bind_some,zIs _ _ hR,zN (show i<9223372036854775807 by omega)]
  rw [zBe (by simp; omega) (by simp; omega)]
  cases (R.any fun x=>seq x (xW d.Files (bs [112,107,103,47]))[i])<;>rfl) (by
  intro a
  unfold kC
  rw [if_neg (by simp)]) (xW d.Files (bs [112,107,103,47])).length 0 G (by omega) (by omega)
 have i2:=zEf (xW d.Files (bs [112,107,103,47])) (fun _ a p=>if !(R.any (fun x=>seq x p)) then a++[p] else a) (fun i a=>a.length≤120+i) (b:=zCU R (xW d.Files (bs [112,107,103,47]))) (by
  intro i a hi ha
  refine ⟨?_,hlen (α:=Int) _ _ _ _ ha⟩
  unfold zCU
  rw [if_pos (by simp; omega)]
  simp only
  rw [zM hi]
  simp only [Option.bind_some,zFG _ _ hR,zN (show i<9223372036854775807 by omega)]
  rw [zBe (by simp; omega) (by simp; omega)]
  cases (R.any fun x=>seq x (xW d.Files (bs [112,107,103,47]))[i])<;>rfl) (by
  intro a
  unfold zCU
  rw [if_neg (by simp)]) (xW d.Files (bs [112,107,103,47])).length 0 G (by omega) (by omega)
 rw [List.drop_zero,zEW] at s2 i2
 unfold jS zDK zAl zAc zD5 zD1 zFT
 rw [zEj d hl,zIL d hl,zIf,zGh d _ hl,hG]
 simp only [Option.bind_some]
 rw [show ((0:Int))=((0:Nat):Int) from rfl,s1.1,i1.1]
 simp only [Option.bind_some]
 rw [s2.1,i2.1]
 exact ⟨rfl,rfl⟩
theorem zJM {fs:List File} {n:Int} (h:n∈kG fs):zDw (bl (zLa n))=some n:=by
 unfold kG at h
 obtain ⟨p,hp,hg⟩:=List.mem_filterMap.1 h
 have hb:=zEx (zDH p hp)
 rw [zJr] at hb
 obtain ⟨e,_⟩:=zIo hb.1 hb.2 hg
 rw [zIz,←e]
 exact hg
theorem zLW {d:zC} (hg:d.good) (K:List Int) (R:List ByteArray):(zFT d K R).Nodup ∧(∀p∈zFT d K R,∃f∈d.Files,f.Path=p)∧(zFT d K R).length ≤240:=by
 have hfl:=hg.len
 refine ⟨?_,?_,?_⟩
 ·unfold zFT
  refine List.nodup_append.2 ⟨?_,?_,?_⟩
  ·have h:=(zJT hg.sorted).filter (fun n=> !(decide (n∈K)))
   refine List.pairwise_map.2 (List.Pairwise.imp_of_mem ?_ h)
   intro a b ha hb hab he
   have h1:=zJM (List.mem_filter.1 ha).1
   have h2:=zJM (List.mem_filter.1 hb).1
   rw [he,h2] at h1
   have:=Option.some.inj h1
   omega
  ·refine List.Pairwise.filter _ ?_
   unfold xW
   refine List.pairwise_map.2 (List.Pairwise.imp ?_ (List.Pairwise.filter _ hg.sorted))
   intro a b hab
   exact zLp hab
  ·intro a ha b hb he
   obtain ⟨n,hn,rfl⟩:=List.mem_map.1 ha
   have h1:=zEx (zDH b (List.mem_filter.1 hb).1)
   rw [←he,zIz,zKT] at h1
   have h2:=h1.1
   unfold zQq at h2
   simp at h2
 ·intro p hp
  unfold zFT at hp
  rcases List.mem_append.1 hp with h|h
  ·obtain ⟨n,hn,rfl⟩:=List.mem_map.1 h
   exact (zGU (List.mem_filter.1 hn).1).1
  ·have:=(List.mem_filter.1 h).1
   unfold xW at this
   obtain ⟨f,hf,e⟩:=List.mem_map.1 this
   exact ⟨f,(List.mem_filter.1 hf).1,e⟩
 ·unfold zFT
  rw [List.length_append,List.length_map]
  have h1:=List.length_filter_le (fun n=> !(decide (n∈K))) (kG d.Files)
  have h2:=List.length_filter_le (fun p=> !(R.any (fun x=>seq x p))) (xW d.Files (bs [112,107,103,47]))
  have h3:=zBw d.Files
  have h4:=zBR d.Files (bs [112,107,103,47])
  omega
theorem zLQ {d:zC} (hf:d.fine) (hdn:d.Down=false) {W:List ByteArray} (hl:W.length≤240) (hn:W.Nodup) (hp:∀p∈W,∃f∈d.Files,f.Path=p) (hwr:d.Writes+W.length≤2000000000) (c:List Pack) (a3:List Int):
  ∃t1 t2,uW W (d.Files,d.Budget,d.Writes,d.Stop,d.Down,0)=some t1∧wW c a3 W (d.Files,d.Budget,d.Writes,d.Stop,d.Down,0)=some t2∧
   ((∃r:zC,t1= .ret {Code:=9,zC:=r}∧t2= .ret (9,r)∧r.Files.Sublist d.Files)∨∃s,t1= .nxt s∧t2= .nxt s∧s.1.Sublist d.Files):=by
 unfold uW wW
 refine zGJ (b1:=uI W) (b2:=wO c a3 W) (fun i s1 s2=>∃r:zC,s1=(r.Files,r.Budget,r.Writes,r.Stop,r.Down,(i:Int))∧s2=(r.Files,r.Budget,r.Writes,r.Stop,r.Down,(i:Int))∧r.fine∧r.Down=false∧r.Writes=d.Writes+i∧r.Files.Sublist d.Files∧∀p∈W.drop i,∃f∈r.Files,f.Path=p) W.length _ (by
  rintro i _ _ hi ⟨r,rfl,rfl,rf,rd,rw',rs,rp⟩
  have hdr:W.drop i=W[i]::W.drop (i+1):=List.drop_eq_getElem_cons hi
  obtain ⟨q,r',e1,e2,e3⟩:=zMP rf rd (rp W[i] (by rw [hdr]; exact List.mem_cons_self))
  have hb1:uI W (r.Files,r.Budget,r.Writes,r.Stop,r.Down,(i:Int))=(if !(q==0) then some (Lp.done (Fl.ret ({Code:=9,zC:=r'}:zI))) else some (Lp.go (r'.Files,r'.Budget,r'.Writes,r'.Stop,r'.Down,((i+1:Nat):Int)))):=by
   unfold uI
   rw [if_pos (by simp; omega)]
   simp only
   rw [zM hi]
   simp only [Option.bind_some,e1,zN (show i<9223372036854775807 by omega)]
  have hb2:wO c a3 W (r.Files,r.Budget,r.Writes,r.Stop,r.Down,(i:Int))=(if q !=0 then some (Lp.done (Fl.ret (q,r'))) else some (Lp.go (r'.Files,r'.Budget,r'.Writes,r'.Stop,r'.Down,((i+1:Nat):Int)))):=by
   unfold wO
   rw [if_pos (by simp; omega)]
   simp only
   rw [zM hi]
   simp only [Option.bind_some,e2,zN (show i<9223372036854775807 by omega)]
  rw [hb1,hb2]
  rcases e3 with ⟨rfl,hr⟩|⟨rfl,h2,h3,h4,h5,h6,h7⟩
  ·refine .inr ⟨_,_,rfl,rfl,.inl ⟨r',rfl,rfl,?_⟩⟩
   rw [hr]; exact rs
  ·refine .inl ⟨_,_,rfl,rfl,r',rfl,rfl,?_,h2,by omega,h6.trans rs,fun p hp'=>?_⟩
   ·exact (zJd rf (by omega) (.inr ⟨rfl,h2,h3,h4,h5,h6,h7⟩)).1
   ·obtain ⟨f,hf',he⟩:=rp p (by rw [hdr]; exact List.mem_cons_of_mem _ hp')
    refine ⟨f,h7 f hf' ?_,he⟩
    rw [he]
    intro e
    have hnd:(W.drop i).Nodup :=hn.sublist (List.drop_sublist _ _)
    rw [hdr] at hnd
    exact (List.nodup_cons.1 hnd).1 (e▸hp')) (by
  rintro _ _ ⟨r,rfl,rfl,rf,rd,rw',rs,rp⟩
  refine ⟨_,_,?_,?_,.inr ⟨(r.Files,r.Budget,r.Writes,r.Stop,r.Down),rfl,rfl,rs⟩⟩
  ·unfold uI
   rw [if_neg (by simp)]
  ·unfold wO
   rw [if_neg (by simp)]) W.length 0 _ _ (by omega) ⟨d,rfl,rfl,hf,hdn,by omega,List.Sublist.refl _,by rw [List.drop_zero]; exact hp⟩
theorem zGC (a1:(List Pack)) (a2:zC) (a3:(List Int)) (k0:a1.length≤maxLen∧∀y1∈a1,Pack.ok y1) (k1:zC.ok a2) (k2:a3.length≤maxLen∧∀y1∈a3,IntKind.i64.min≤y1∧y1≤IntKind.i64.max) (s0:(a1.length≤1048576∧∀y0∈a1,Pack.sm 1048576 y0)) (s1:(zC.sm 1048576 a2)) (s2:(a3.length≤1048576∧∀y0∈a3,True)):∃r,uK a1 a2 a3=some r∧wK a1 a2 a3=some r∧(zI.sm 1049600 r):=by
 have hb:Byt a2:=fun f hf c hc=>by have:=(k1.1.2 f hf).2.2 c hc; simpa [IntKind.min,IntKind.max,IntKind.signed,IntKind.bits] using this
 obtain ⟨k,ek,ea,hgood⟩:=zPE s0 s1
 have hnone:∀q:Int,zI.sm 1049600 {Code:=q,zC:= {Files:=[],Budget:=0,Writes:=0,Stop:=0,Down:=false}}:=zNX
 unfold uK wK xB xD
 rw [ea,zE0 a1 s0,zH7,ek]
 simp only [Option.bind_some]
 by_cases h0:CF a1=0
 ·simp only [h0,bne_self_eq_false,Bool.false_eq_true,if_false]
  by_cases h1:k=0
  ·subst h1
   have hg:=hgood rfl
   simp only [bne_self_eq_false,Bool.false_eq_true,if_false,beq_self_eq_true,if_true,Option.bind_some]
   cases hdn:a2.Down
   ·simp only [Bool.false_eq_true,if_false,bne_self_eq_false,Option.bind_some]
    rw [zNd a2 (zC.zMQ s1),zJh a2 (zC.zMQ s1)]
    simp only [Option.bind_some]
    unfold uZ tF
    rcases zFH a2 (bs [112,108,97,110]) hg with ⟨q,hq,e1,e2,_⟩|⟨e1,e2,_⟩
    ·rw [e1,e2]
     have hq0:decide ((q:Int)≥0)=true:=by simp
     simp only [Option.bind_some,hq0,if_true,zFR]
     exact ⟨_,rfl,rfl,hnone 6⟩
    ·rw [e1,e2]
     have hq0:decide ((-1:Int)≥0)=false:=by decide
     simp only [Option.bind_some,hq0,Bool.false_eq_true,if_false]
     obtain ⟨⟨R,q⟩,r1,r2,r3,_,r9,r5⟩:=zL1 s0 h0 hg hb a3
     rw [r1,r2]
     simp only at r3 r5 r9
     simp only [Option.bind_some]
     by_cases hq:q=0
     ·subst hq
      obtain ⟨K,f1,f2,f3⟩:=r5 rfl
      obtain ⟨w1,w2⟩:=zMl hg (K:=K) (R:=R) (by omega) (by omega)
      obtain ⟨n1,n2,n3⟩:=zLW hg K R
      have hw1:=hg.w1
      obtain ⟨t1,t2,l1,l2,h⟩:=zLQ hg.fine hdn n3 n1 n2 (by omega) a1 a3
      rw [hdn] at l1 l2
      rw [(zLx hg hb f1).1,f2]
      simp only [bne_self_eq_false,Bool.false_eq_true,if_false,Option.bind_some,w1,w2,hdn]
      rw [l1,l2]
      have hm:=zC.zDB s1
      rcases h with ⟨r,rfl,rfl,hs⟩|⟨⟨fs,bu,wr,st,dn⟩,rfl,rfl,hs⟩
      ·simp only [Option.bind_some,Fl.go,zFR]
       exact ⟨_,rfl,rfl,trivial,⟨Nat.le_trans hs.length_le hm.1.1,fun f hf=>hm.1.2 f (hs.subset hf)⟩,trivial,trivial,trivial,trivial⟩
      ·simp only [Option.bind_some,Fl.go,zFR]
       exact ⟨_,rfl,rfl,trivial,⟨Nat.le_trans hs.length_le hm.1.1,fun f hf=>hm.1.2 f (hs.subset hf)⟩,trivial,trivial,trivial,trivial⟩
     ·have hq':(q !=0)=true:=by simpa using hq
      have hq9:(q !=9)=true:=by simpa using r9
      simp only [hq',if_true,Option.bind_some,zFR,hq9,Bool.and_self]
      exact ⟨_,rfl,rfl,hnone q⟩
   ·simp only [if_true,Option.bind_some]
    exact ⟨_,rfl,rfl,hnone 9⟩
  ·have hk:(k !=0)=true:=by simpa using h1
   have hk':(k==0)=false:=by simpa using h1
   simp only [hk,hk',if_true,Option.bind_some,Bool.false_eq_true,if_false]
   exact ⟨_,rfl,rfl,hnone k⟩
 ·have hk:(CF a1 !=0)=true:=by simpa using h0
  simp only [hk,if_true]
  exact ⟨_,rfl,rfl,hnone _⟩
theorem zEP (a1:(List Pack)) (a2:zC) (a3:(List Int)) (k0:a1.length≤maxLen∧∀y1∈a1,Pack.ok y1) (k1:zC.ok a2) (k2:a3.length≤maxLen∧∀y1∈a3,IntKind.i64.min≤y1∧y1≤IntKind.i64.max):xZ a1 a2 a3=some true:=zEI a1 a2 a3 k0 k1 k2 (zGC a1 a2 a3 k0 k1 k2)
end Go.Told

import Derived.Test.YtobkkecdnlecgaaGreatDoorToldCutSystem
set_option linter.unusedVariables false
set_option maxRecDepth 4000
namespace Go.Told
open Go Go.Im
theorem zGM {S T:Type} {b b':S→Option (Lp S T)} (h:∀s,b s=b' s):loop b=loop b':=by
 have:b=b':=funext h
 rw [this]
theorem wF {x:Int} (h1: -9223372036854775808≤x) (h2:x≤9223372036854775807):w64 x=x:=by
 unfold w64
 rw [IntKind.wrap_i64]
 omega
theorem zK {i:Nat} (h:i<9223372036854775807):w64 ((i:Int)+1)=((i+1:Nat):Int):=by
 rw [wF (by omega) (by omega)]; omega
theorem jF {T:Type} {S:Type} {b:S→Option (Lp S T)} (I:Nat→S→Prop) (n:Nat) (Q:T→Prop) (hstep:∀i s,i<n→I i s→(∃s',b s=some (.go s')∧I (i+1) s')∨∃t,b s=some (.done t)∧Q t)
  (hend:∀s,I n s→∃t,b s=some (.done t)∧Q t):∀(k i:Nat) (s:S),i+k=n→I i s→∃t,loop b s=some t∧Q t
 |0,i,s,hk,hI=>by
  obtain ⟨t,h1,h2⟩:=hend s (by rw [show n=i by omega]; exact hI)
  exact ⟨t,by rw [vN,h1]; rfl,h2⟩
 |k+1,i,s,hk,hI=>by
  rcases hstep i s (by omega) hI with ⟨s',h1,h2⟩|⟨t,h1,h2⟩
  ·obtain ⟨t,h3,h4⟩:=jF I n Q hstep hend k (i+1) s' (by omega) h2
   exact ⟨t,by rw [vN,h1]; exact h3,h4⟩
  ·exact ⟨t,by rw [vN,h1]; rfl,h2⟩
theorem zL {α:Type} {xs:List α} {i:Nat} (h:i<xs.length):idx xs (i:Int)=some xs[i]:=by
 unfold idx
 rw [if_pos (by omega)]
 simp [h]
theorem zAK {α:Type} (l r:List α) (x:α):idx (l++x::r) (l.length:Int)=some x:=by
 rw [zL (by simp)]
 simp
def goL {α A T:Type} (g:Nat→A→α→Lp A T) (fin:A→T):Nat→List α→A→T
 |_,[],a=>fin a
 |i,x::xs,a=>match g i a x with
  | .go a'=>goL g fin (i+1) xs a'
  | .done t=>t
theorem zNx {α A S T:Type} (xs:List α) (g:Nat→A→α→Lp A T) (fin:A→T) (e:Nat→A→S) (I:Nat→A→Prop) {b:S→Option (Lp S T)}
  (hstep:∀(i:Nat) (a:A) (hi:i<xs.length),I i a→b (e i a)=some (match g i a xs[i] with| .go a'=>.go (e (i+1) a')| .done t=>.done t)∧∀a',g i a xs[i]= .go a'→I (i+1) a')
  (hend:∀a,I xs.length a→b (e xs.length a)=some (.done (fin a))):∀(k i:Nat) (a:A),i+k=xs.length→I i a→loop b (e i a)=some (goL g fin i (xs.drop i) a)
 |0,i,a,hk,hI=>by
  have:i=xs.length:=by omega
  subst this
  rw [vN,hend a hI,List.drop_length]; rfl
 |k+1,i,a,hk,hI=>by
  have hi:i<xs.length:=by omega
  obtain ⟨h1,h2⟩:=hstep i a hi hI
  rw [vN,h1,List.drop_eq_getElem_cons hi]
  simp only [goL]
  cases hg:g i a xs[i] with
  |go a'=>
   simp only [Option.bind_some,Lp.elim]
   exact zNx xs g fin e I hstep hend k (i+1) a' (by omega) (h2 a' hg)
  |done t=>rfl
theorem zL0 {α A S T:Type} (xs:List α) (g:Nat→A→α→Lp A T) (fin:A→T) (e:Nat→A→S) (I:Nat→A→Prop) {b:S→Option (Lp S T)} (a0:A)
  (hstep:∀(i:Nat) (a:A) (hi:i<xs.length),I i a→b (e i a)=some (match g i a xs[i] with| .go a'=>.go (e (i+1) a')| .done t=>.done t)∧∀a',g i a xs[i]= .go a'→I (i+1) a')
  (hend:∀a,I xs.length a→b (e xs.length a)=some (.done (fin a))) (h0:I 0 a0):loop b (e 0 a0)=some (goL g fin 0 xs a0):=by
 have:=zNx xs g fin e I hstep hend xs.length 0 a0 (by omega) h0
 simpa using this
theorem zHJ {α:Type} (xs:List α) {b:(List α×Int)→Option (Lp (List α×Int) (List α))} (hstep:∀(ys:List α) (i:Nat) (hi:i<xs.length),ys.length=xs.length→b (ys,(i:Int))=some (.go (ys.set i xs[i],((i+1:Nat):Int))))
  (hend:∀ys:List α,ys.length=xs.length→b (ys,(xs.length:Int))=some (.done ys)) (y0:List α) (h0:y0.length=xs.length):loop b (y0,0)=some xs:=by
 obtain ⟨t,h1,h2⟩:=jF (b:=b) (fun i s=>s.2=(i:Int)∧s.1.length=xs.length∧s.1.take i=xs.take i) xs.length (fun t=>t=xs) (by
  rintro i ⟨ys,j⟩ hi ⟨hj,hl,hp⟩
  simp only at hj hl hp
  subst hj
  refine .inl ⟨_,hstep ys i hi hl,rfl,by simpa using hl,?_⟩
  simp only
  rw [List.take_succ_eq_append_getElem (by simp; omega),List.take_succ_eq_append_getElem hi,←hp,List.take_set_of_le (Nat.le_refl _)]
  simp) (by
  rintro ⟨ys,j⟩ ⟨hj,hl,hp⟩
  simp only at hj hl hp
  subst hj
  refine ⟨ys,hend ys hl,?_⟩
  rw [List.take_of_length_le (by omega),List.take_of_length_le (by omega)] at hp
  exact hp) xs.length 0 (y0,0) (by omega) ⟨rfl,h0,by simp⟩
 rw [h1,h2]
theorem zHW {R:Type} (n:Nat) {b:Int→Option (Lp Int (Fl R Unit))} (hstep:∀i:Nat,i<n→b (i:Int)=some (.go ((i+1:Nat):Int))) (hend:b (n:Int)=some (.done (.nxt ()))):loop b 0=some (.nxt ()):=by
 obtain ⟨t,h1,h2⟩:=jF (b:=b) (fun i s=>s=(i:Int)) n (fun t=>t= .nxt ()) (by
  rintro i s hi rfl
  exact .inl ⟨_,hstep i hi,rfl⟩) (by
  rintro s rfl
  exact ⟨_,hend,rfl⟩) n 0 0 (by omega) rfl
 rw [h1,h2]
theorem zJk {α:Type} (xs:List α) (P:α→Prop) (l:Int) {b:(Int×Int)→Option (Lp (Int×Int) (Fl Int Int))}
  (hstep:∀(q:Int) (i:Nat) (hi:i<xs.length),0≤q→q≤l→(∃q',b (q,(i:Int))=some (.go (q',((i+1:Nat):Int)))∧0≤q'∧q'≤q∧P xs[i])∨∃t,b (q,(i:Int))=some (.done (.ret t))∧t<0)
  (hend:∀q:Int,b (q,(xs.length:Int))=some (.done (.nxt q))) (h0:0≤l):
  ∃t,loop b (l,0)=some t∧match t with| .ret r=>r<0| .nxt r=>0≤r∧r≤l∧∀x∈xs,P x:=by
 refine jF (b:=b) (fun i s=>s.2=(i:Int)∧0≤s.1∧s.1≤l∧∀j,(hj:j<xs.length)→j<i→P xs[j]) xs.length _ (by
  rintro i ⟨q,j⟩ hi ⟨hj,h1,h2,h3⟩
  simp only at hj h1 h2 h3
  subst hj
  rcases hstep q i hi h1 h2 with ⟨q',e,g1,g2,g3⟩|⟨t,e,ht⟩
  ·refine .inl ⟨_,e,rfl,g1,by simp only; omega,fun j hj hji=>?_⟩
   rcases Nat.lt_or_ge j i with h|h
   ·exact h3 j hj h
   ·have:j=i:=by omega
    subst this; exact g3
  ·exact .inr ⟨_,e,ht⟩) (by
  rintro ⟨q,j⟩ ⟨hj,h1,h2,h3⟩
  simp only at hj h1 h2 h3
  subst hj
  refine ⟨_,hend q,h1,h2,fun x hx=>?_⟩
  obtain ⟨j,hj,rfl⟩:=List.getElem_of_mem hx
  exact h3 j hj hj) xs.length 0 (l,0) (by omega) ⟨rfl,h0,Int.le_refl _,fun j _ h=>by omega⟩
def pm {α:Type} (m:α→Int→α) (c:α→Int):List α→Int→List α
 |[],_=>[]
 |x::xs,k=>m x k::pm m c xs (k+c x)
def cs {α:Type} (c:α→Int):List α→Int
 |[]=>0
 |x::xs=>c x+cs c xs
theorem zF6 {α:Type} (m:α→Int→α) (c:α→Int):∀(xs:List α) (k:Int),(pm m c xs k).length =xs.length
 |[],_=>rfl
 |x::xs,k=>by simp [pm,zF6 m c xs]
theorem wG {α:Type} {c:α→Int} (hc:∀a,0≤c a):∀(xs:List α),0≤cs c xs
 |[]=>Int.le_refl _
 |x::xs=>by have:=hc x; have:=wG hc xs; simp only [cs]; omega
theorem zMP {α:Type} {c:α→Int} {C:Int} {N:Nat} (hC:0≤C):∀(xs:List α),(∀a∈xs,c a≤C)→xs.length≤N→cs c xs≤N*C
 |[],_,_=>Int.mul_nonneg (by omega) hC
 |x::xs,h,hl=>by
  have h1:=h x (by simp)
  simp only [List.length_cons] at hl
  have h2:=zMP (N:=N-1) hC xs (fun a ha=>h a (by simp [ha])) (by omega)
  simp only [cs]
  have:((N-1:Nat):Int)*C+C=N*C:=by
   have e:((N-1:Nat):Int)=(N:Int)-1:=by omega
   rw [e,Int.sub_mul,Int.one_mul]; omega
  omega
theorem zFR {α:Type} (m:α→Int→α) (c:α→Int) (P:α→Prop) (hc:∀a,0≤c a) {b:(List α×Int×Int)→Option (Lp (List α×Int×Int) (List α×Int))}
  (hstep:∀(l r:List α) (x:α) (k:Int),P x→0≤k→k+c x≤9223372036854775807→l.length<9223372036854775807→b (l++x::r,k,(l.length:Int))=some (.go (l++m x k::r,k+c x,((l.length+1:Nat):Int))))
  (hend:∀(l:List α) (k:Int),b (l,k,(l.length:Int))=some (.done (l,k))):∀(xs l:List α) (k:Int),(∀x∈xs,P x)→0≤k→k+cs c xs≤9223372036854775807→l.length+xs.length<9223372036854775807→
  loop b (l++xs,k,(l.length:Int))=some (l++pm m c xs k,k+cs c xs)
 |[],l,k,_,_,_,_=>by
  rw [vN,List.append_nil,hend]
  simp [pm,cs,Lp.elim]
 |x::xs,l,k,hP,h0,h1,h2=>by
  have hx:=hc x
  have hxs:=wG hc xs
  simp only [cs] at h1
  simp only [List.length_cons] at h2
  rw [vN,hstep l xs x k (hP x (by simp)) h0 (by omega) (by omega)]
  simp only [Option.bind_some,Lp.elim]
  have:=zFR m c P hc hstep hend xs (l++[m x k]) (k+c x) (fun y hy=>hP y (by simp [hy])) (by omega) (by omega) (by simp; omega)
  simp only [List.length_append,List.length_cons,List.length_nil,List.append_assoc,List.cons_append,List.nil_append] at this
  rw [this]
  simp only [pm,cs]
  congr 2
  omega
theorem zFM {α:Type} (m:α→Int→α) (c:α→Int) (P:α→Prop) (hc:∀a,0≤c a) {b:List α→(Int×Int)→Option (Lp (Int×Int) (Fl Int Int))}
  (hstep:∀(l r:List α) (x:α) (k:Int),P x→0≤k→k+c x≤9223372036854775807→l.length<9223372036854775807→b (l++m x k::r) (k,(l.length:Int))=some (.go (k+c x,((l.length+1:Nat):Int))))
  (hend:∀(l:List α) (k:Int),b l (k,(l.length:Int))=some (.done (.nxt k))):∀(xs l:List α) (k:Int),(∀x∈xs,P x)→0≤k→k+cs c xs≤9223372036854775807→l.length+xs.length<9223372036854775807→
  loop (b (l++pm m c xs k)) (k,(l.length:Int))=some (.nxt (k+cs c xs))
 |[],l,k,_,_,_,_=>by
  rw [vN,pm,List.append_nil,hend]
  simp [cs,Lp.elim]
 |x::xs,l,k,hP,h0,h1,h2=>by
  have hx:=hc x
  have hxs:=wG hc xs
  simp only [cs] at h1
  simp only [List.length_cons] at h2
  rw [pm,vN,hstep l _ x k (hP x (by simp)) h0 (by omega) (by omega)]
  simp only [Option.bind_some,Lp.elim]
  have:=zFM m c P hc hstep hend xs (l++[m x k]) (k+c x) (fun y hy=>hP y (by simp [hy])) (by omega) (by omega) (by simp; omega)
  simp only [List.length_append,List.length_cons,List.length_nil,List.append_assoc,List.cons_append,List.nil_append] at this
  rw [this]
  simp only [cs]
  congr 2
  omega
theorem zG1 {α β:Type} {xs:List α} {ys:List β} (h:xs.length=ys.length):same xs ys=some ():=if_pos h
theorem zHT {α:Type} (l r:List α) (x y:α):(l++x::r).set l.length y=l++y::r:=by
 rw [List.set_append_right _ _ (Nat.le_refl _)]
 simp
theorem zHD (a:ByteArray):seq a a=true:=by
 unfold seq
 simp
def c1 {α:Type} (_:α):Int:=1
theorem zEe {α:Type} (a:α):0≤c1 a:=by unfold c1; decide
theorem jN {α:Type} {B:Nat} {xs ys:List α} (h:(xs.length+ys.length)*B≤140737488355328) (h2:xs.length+ys.length≤4611686018427387904):app B xs ys=some (xs++ys):=if_pos ⟨h,h2⟩
theorem zLE {S T:Type} {b:S→Option (Lp S T)} (I:S→Prop) (μ:S→Nat) (Q:T→Prop) (step:∀s,I s→(∃s',b s=some (.go s')∧I s'∧μ s'<μ s)∨∃t,b s=some (.done t)∧Q t):∀(n:Nat) (s:S),μ s≤n→I s→∃t,loop b s=some t∧Q t
 |0,s,hn,hI=>by
  rcases step s hI with ⟨s',_,_,h3⟩|⟨t,h1,h2⟩
  ·omega
  ·exact ⟨t,by rw [vN,h1]; rfl,h2⟩
 |n+1,s,hn,hI=>by
  rcases step s hI with ⟨s',h1,h2,h3⟩|⟨t,h1,h2⟩
  ·obtain ⟨t,h4,h5⟩:=zLE I μ Q step n s' (by omega) h2
   exact ⟨t,by rw [vN,h1]; exact h4,h5⟩
  ·exact ⟨t,by rw [vN,h1]; rfl,h2⟩
def Version.ok (x:Version):Prop:=(IntKind.i64.min≤x.A∧x.A≤IntKind.i64.max)∧(IntKind.i64.min≤x.B∧x.B≤IntKind.i64.max)∧(IntKind.i64.min≤x.C∧x.C≤IntKind.i64.max)
def Term.ok (x:Term):Prop:=(x.Name.size≤maxLen)∧(Version.ok x.Low)∧(Version.ok x.High)
def Pack.ok (x:Pack):Prop:=(x.Name.size≤maxLen)∧(Version.ok x.Version)∧(IntKind.i64.min≤x.Size∧x.Size≤IntKind.i64.max)∧(x.Provides.length≤maxLen∧∀y1∈x.Provides,y1.size≤maxLen)∧(x.Needs.length≤maxLen∧∀y1∈x.Needs,y1.length≤maxLen∧∀y2∈y1,Term.ok y2)∧(x.Bars.length≤maxLen∧∀y1∈x.Bars,Term.ok y1)
def File.ok (x:File):Prop:=(x.Path.size≤maxLen)∧(x.Data.length≤maxLen∧∀y1∈x.Data,IntKind.u8.min≤y1∧y1≤IntKind.u8.max)
def zD.ok (x:zD):Prop:=(x.Files.length≤maxLen∧∀y1∈x.Files,File.ok y1)∧(IntKind.i64.min≤x.Budget∧x.Budget≤IntKind.i64.max)∧(IntKind.i64.min≤x.Writes∧x.Writes≤IntKind.i64.max)∧(IntKind.i64.min≤x.Stop∧x.Stop≤IntKind.i64.max)∧(True)
def System.ok (x:System):Prop:=(x.Catalog.length≤maxLen∧∀y1∈x.Catalog,Pack.ok y1)∧(zD.ok x.zD)
theorem zOp (x:(List Int)) (hx:x.length≤maxLen∧∀y1∈x,IntKind.u8.min≤y1∧y1≤IntKind.u8.max) (l:Int) (h0:0≤l) (h1:l≤1048576):∃r,zCX x l=some r∧(r<0∨(0≤r∧r≤l∧(x.length≤1048576∧∀y0∈x,True))):=by
 obtain ⟨hm,hx⟩:=hx
 unfold maxLen at hm
 unfold zCX
 rw [wF (x:=l-x.length) (by omega) (by omega)]
 by_cases c1:l-(x.length:Int)<0
 ·rw [if_pos (by simpa using c1)]
  exact ⟨_,rfl,.inl (by omega)⟩
 ·rw [if_neg (by simpa using c1)]
  exact ⟨_,rfl,.inr ⟨by omega,by omega,by omega,fun _ _=>trivial⟩⟩
def File.sm (B:Nat) (x:File):Prop:=(x.Path.size≤B)∧(x.Data.length≤B∧∀y0∈x.Data,True)
def zD.sm (B:Nat) (x:zD):Prop:=(x.Files.length≤B∧∀y0∈x.Files,File.sm B y0)∧(True)∧(True)∧(True)∧(True)
theorem zP8 (x:File) (hx:File.ok x) (l:Int) (h0:0≤l) (h1:l≤1048576):∃r,zEE x l=some r∧(r<0∨(0≤r∧r≤l∧(File.sm 1048576 x))):=by
 obtain ⟨k0,k1⟩:=hx
 unfold maxLen at*
 unfold zEE
 rw [wF (x:=l-x.Path.size) (by omega) (by omega)]
 by_cases c0:l-(x.Path.size:Int)<0
 ·rw [if_pos (by simpa using c0)]
  exact ⟨_,rfl,.inl (by omega)⟩
 rw [if_neg (by simpa using c0)]
 obtain ⟨r1,e1,g1⟩:=zOp x.Data k1 (l-x.Path.size) (by omega) (by omega)
 rw [e1]
 simp only [Option.bind_some]
 by_cases c1:r1<0
 ·rw [if_pos (by simpa using c1)]
  exact ⟨_,rfl,.inl (by omega)⟩
 rw [if_neg (by simpa using c1)]
 obtain ⟨p1,q1,z1⟩:=g1.resolve_left c1
 exact ⟨_,rfl,.inr ⟨by omega,by omega,by omega,z1⟩⟩
theorem zOf (x:(List File)) (hx:x.length≤maxLen∧∀y1∈x,File.ok y1) (l:Int) (h0:0≤l) (h1:l≤1048576):∃r,zDg x l=some r∧(r<0∨(0≤r∧r≤l∧(x.length≤1048576∧∀y0∈x,File.sm 1048576 y0))):=by
 obtain ⟨hm,hx⟩:=hx
 unfold maxLen at hm
 unfold zDg
 rw [wF (x:=l-x.length) (by omega) (by omega)]
 by_cases c1:l-(x.length:Int)<0
 ·rw [if_pos (by simpa using c1)]
  exact ⟨_,rfl,.inl (by omega)⟩
 ·rw [if_neg (by simpa using c1)]
  have key:=zJk x (fun y0=>File.sm 1048576 y0) (l-x.length) (b:=zCz x) ?_ ?_ (by omega)
  ·obtain ⟨t,h2,h3⟩:=key
   unfold zDe
   rw [h2]
   cases t with
   |ret r=>exact ⟨r,rfl,.inl h3⟩
   |nxt r=>exact ⟨r,rfl,.inr ⟨h3.1,by have:=h3.2.1; omega,by omega,h3.2.2⟩⟩
  ·intro q i hi hq0 hq1
   unfold zCz
   rw [if_pos (by simp; omega)]
   simp only [zL hi,Option.bind_some]
   have hi2:w64 ((i:Int)+1)=((i+1:Nat):Int):=zK (by omega)
   obtain ⟨r,e,hr⟩:=zP8 x[i] (hx _ (List.getElem_mem hi)) q hq0 (by omega)
   rw [e]
   simp only [Option.bind_some]
   by_cases c:r<0
   ·rw [if_pos (by simpa using c)]
    exact .inr ⟨_,rfl,by omega⟩
   ·rw [if_neg (by simpa using c),hi2]
    obtain ⟨g1,g2,g3⟩:=hr.resolve_left c
    exact .inl ⟨_,rfl,g1,g2,g3⟩
  ·intro q
   unfold zCz
   rw [if_neg (by simp)]
theorem zPf (x:zD) (hx:zD.ok x) (l:Int) (h0:0≤l) (h1:l≤1048576):∃r,zEG x l=some r∧(r<0∨(0≤r∧r≤l∧(zD.sm 1048576 x))):=by
 obtain ⟨k0,k1,k2,k3,k4⟩:=hx
 unfold maxLen at*
 unfold zEG
 obtain ⟨r0,e0,g0⟩:=zOf x.Files k0 l (by omega) (by omega)
 rw [e0]
 simp only [Option.bind_some]
 by_cases c0:r0<0
 ·rw [if_pos (by simpa using c0)]
  exact ⟨_,rfl,.inl (by omega)⟩
 rw [if_neg (by simpa using c0)]
 obtain ⟨p0,q0,z0⟩:=g0.resolve_left c0
 exact ⟨_,rfl,.inr ⟨by omega,by omega,z0,trivial,trivial,trivial,trivial⟩⟩
def Version.sm (B:Nat) (x:Version):Prop:=(True)∧(True)∧(True)
def Term.sm (B:Nat) (x:Term):Prop:=(x.Name.size≤B)∧(Version.sm B x.Low)∧(Version.sm B x.High)
def Pack.sm (B:Nat) (x:Pack):Prop:=(x.Name.size≤B)∧(Version.sm B x.Version)∧(True)∧(x.Provides.length≤B∧∀y0∈x.Provides,y0.size≤B)∧(x.Needs.length≤B∧∀y0∈x.Needs,y0.length≤B∧∀y1∈y0,Term.sm B y1)∧(x.Bars.length≤B∧∀y0∈x.Bars,Term.sm B y0)
theorem zLc (x:(List ByteArray)) (hx:x.length≤maxLen∧∀y1∈x,y1.size≤maxLen) (l:Int) (h0:0≤l) (h1:l≤1048576):∃r,zB0 x l=some r∧(r<0∨(0≤r∧r≤l∧(x.length≤1048576∧∀y0∈x,y0.size≤1048576))):=by
 obtain ⟨hm,hx⟩:=hx
 unfold maxLen at hm
 unfold zB0
 rw [wF (x:=l-x.length) (by omega) (by omega)]
 by_cases c1:l-(x.length:Int)<0
 ·rw [if_pos (by simpa using c1)]
  exact ⟨_,rfl,.inl (by omega)⟩
 ·rw [if_neg (by simpa using c1)]
  have key:=zJk x (fun y0=>y0.size≤1048576) (l-x.length) (b:=zBp x) ?_ ?_ (by omega)
  ·obtain ⟨t,h2,h3⟩:=key
   unfold zBX
   rw [h2]
   cases t with
   |ret r=>exact ⟨r,rfl,.inl h3⟩
   |nxt r=>exact ⟨r,rfl,.inr ⟨h3.1,by have:=h3.2.1; omega,by omega,h3.2.2⟩⟩
  ·intro q i hi hq0 hq1
   unfold zBp
   rw [if_pos (by simp; omega)]
   simp only [zL hi,Option.bind_some]
   have hi2:w64 ((i:Int)+1)=((i+1:Nat):Int):=zK (by omega)
   have hs:=hx _ (List.getElem_mem hi)
   unfold maxLen at hs
   rw [wF (x:=q-(x[i]).size) (by omega) (by omega)]
   by_cases c:q-((x[i]).size :Int)<0
   ·rw [if_pos (by simpa using c)]
    exact .inr ⟨_,rfl,by omega⟩
   ·rw [if_neg (by simpa using c),hi2]
    exact .inl ⟨_,rfl,by omega,by omega,by show (x[i]).size ≤1048576; omega⟩
  ·intro q
   unfold zBp
   rw [if_neg (by simp)]
theorem zPw (x:Term) (hx:Term.ok x) (l:Int) (h0:0≤l) (h1:l≤1048576):∃r,zEK x l=some r∧(r<0∨(0≤r∧r≤l∧(Term.sm 1048576 x))):=by
 obtain ⟨k0,k1,k2⟩:=hx
 unfold maxLen at*
 unfold zEK
 rw [wF (x:=l-x.Name.size) (by omega) (by omega)]
 by_cases c0:l-(x.Name.size:Int)<0
 ·rw [if_pos (by simpa using c0)]
  exact ⟨_,rfl,.inl (by omega)⟩
 rw [if_neg (by simpa using c0)]
 exact ⟨_,rfl,.inr ⟨by omega,by omega,by omega,⟨trivial,trivial,trivial⟩,⟨trivial,trivial,trivial⟩⟩⟩
theorem zJT (x:(List Term)) (hx:x.length≤maxLen∧∀y1∈x,Term.ok y1) (l:Int) (h0:0≤l) (h1:l≤1048576):∃r,zBd x l=some r∧(r<0∨(0≤r∧r≤l∧(x.length≤1048576∧∀y0∈x,Term.sm 1048576 y0))):=by
 obtain ⟨hm,hx⟩:=hx
 unfold maxLen at hm
 unfold zBd
 rw [wF (x:=l-x.length) (by omega) (by omega)]
 by_cases c1:l-(x.length:Int)<0
 ·rw [if_pos (by simpa using c1)]
  exact ⟨_,rfl,.inl (by omega)⟩
 ·rw [if_neg (by simpa using c1)]
  have key:=zJk x (fun y0=>Term.sm 1048576 y0) (l-x.length) (b:=zC7 x) ?_ ?_ (by omega)
  ·obtain ⟨t,h2,h3⟩:=key
   unfold zDc
   rw [h2]
   cases t with
   |ret r=>exact ⟨r,rfl,.inl h3⟩
   |nxt r=>exact ⟨r,rfl,.inr ⟨h3.1,by have:=h3.2.1; omega,by omega,h3.2.2⟩⟩
  ·intro q i hi hq0 hq1
   unfold zC7
   rw [if_pos (by simp; omega)]
   simp only [zL hi,Option.bind_some]
   have hi2:w64 ((i:Int)+1)=((i+1:Nat):Int):=zK (by omega)
   obtain ⟨r,e,hr⟩:=zPw x[i] (hx _ (List.getElem_mem hi)) q hq0 (by omega)
   rw [e]
   simp only [Option.bind_some]
   by_cases c:r<0
   ·rw [if_pos (by simpa using c)]
    exact .inr ⟨_,rfl,by omega⟩
   ·rw [if_neg (by simpa using c),hi2]
    obtain ⟨g1,g2,g3⟩:=hr.resolve_left c
    exact .inl ⟨_,rfl,g1,g2,g3⟩
  ·intro q
   unfold zC7
   rw [if_neg (by simp)]
theorem zMt (x:(List (List Term))) (hx:x.length≤maxLen∧∀y1∈x,y1.length≤maxLen∧∀y2∈y1,Term.ok y2) (l:Int) (h0:0≤l) (h1:l≤1048576):∃r,zCl x l=some r∧(r<0∨(0≤r∧r≤l∧(x.length≤1048576∧∀y0∈x,y0.length≤1048576∧∀y1∈y0,Term.sm 1048576 y1))):=by
 obtain ⟨hm,hx⟩:=hx
 unfold maxLen at hm
 unfold zCl
 rw [wF (x:=l-x.length) (by omega) (by omega)]
 by_cases c1:l-(x.length:Int)<0
 ·rw [if_pos (by simpa using c1)]
  exact ⟨_,rfl,.inl (by omega)⟩
 ·rw [if_neg (by simpa using c1)]
  have key:=zJk x (fun y0=>y0.length≤1048576∧∀y1∈y0,Term.sm 1048576 y1) (l-x.length) (b:=zCe x) ?_ ?_ (by omega)
  ·obtain ⟨t,h2,h3⟩:=key
   unfold zCC
   rw [h2]
   cases t with
   |ret r=>exact ⟨r,rfl,.inl h3⟩
   |nxt r=>exact ⟨r,rfl,.inr ⟨h3.1,by have:=h3.2.1; omega,by omega,h3.2.2⟩⟩
  ·intro q i hi hq0 hq1
   unfold zCe
   rw [if_pos (by simp; omega)]
   simp only [zL hi,Option.bind_some]
   have hi2:w64 ((i:Int)+1)=((i+1:Nat):Int):=zK (by omega)
   obtain ⟨r,e,hr⟩:=zJT x[i] (hx _ (List.getElem_mem hi)) q hq0 (by omega)
   rw [e]
   simp only [Option.bind_some]
   by_cases c:r<0
   ·rw [if_pos (by simpa using c)]
    exact .inr ⟨_,rfl,by omega⟩
   ·rw [if_neg (by simpa using c),hi2]
    obtain ⟨g1,g2,g3⟩:=hr.resolve_left c
    exact .inl ⟨_,rfl,g1,g2,g3⟩
  ·intro q
   unfold zCe
   rw [if_neg (by simp)]
theorem zPp (x:Pack) (hx:Pack.ok x) (l:Int) (h0:0≤l) (h1:l≤1048576):∃r,zEM x l=some r∧(r<0∨(0≤r∧r≤l∧(Pack.sm 1048576 x))):=by
 obtain ⟨k0,k1,k2,k3,k4,k5⟩:=hx
 unfold maxLen at*
 unfold zEM
 rw [wF (x:=l-x.Name.size) (by omega) (by omega)]
 by_cases c0:l-(x.Name.size:Int)<0
 ·rw [if_pos (by simpa using c0)]
  exact ⟨_,rfl,.inl (by omega)⟩
 rw [if_neg (by simpa using c0)]
 obtain ⟨r3,e3,g3⟩:=zLc x.Provides k3 (l-x.Name.size) (by omega) (by omega)
 rw [e3]
 simp only [Option.bind_some]
 by_cases c3:r3<0
 ·rw [if_pos (by simpa using c3)]
  exact ⟨_,rfl,.inl (by omega)⟩
 rw [if_neg (by simpa using c3)]
 obtain ⟨p3,q3,z3⟩:=g3.resolve_left c3
 obtain ⟨r4,e4,g4⟩:=zMt x.Needs k4 r3 (by omega) (by omega)
 rw [e4]
 simp only [Option.bind_some]
 by_cases c4:r4<0
 ·rw [if_pos (by simpa using c4)]
  exact ⟨_,rfl,.inl (by omega)⟩
 rw [if_neg (by simpa using c4)]
 obtain ⟨p4,q4,z4⟩:=g4.resolve_left c4
 obtain ⟨r5,e5,g5⟩:=zJT x.Bars k5 r4 (by omega) (by omega)
 rw [e5]
 simp only [Option.bind_some]
 by_cases c5:r5<0
 ·rw [if_pos (by simpa using c5)]
  exact ⟨_,rfl,.inl (by omega)⟩
 rw [if_neg (by simpa using c5)]
 obtain ⟨p5,q5,z5⟩:=g5.resolve_left c5
 exact ⟨_,rfl,.inr ⟨by omega,by omega,by omega,⟨trivial,trivial,trivial⟩,trivial,z3,z4,z5⟩⟩
theorem zOs (x:(List Pack)) (hx:x.length≤maxLen∧∀y1∈x,Pack.ok y1) (l:Int) (h0:0≤l) (h1:l≤1048576):∃r,zDm x l=some r∧(r<0∨(0≤r∧r≤l∧(x.length≤1048576∧∀y0∈x,Pack.sm 1048576 y0))):=by
 obtain ⟨hm,hx⟩:=hx
 unfold maxLen at hm
 unfold zDm
 rw [wF (x:=l-x.length) (by omega) (by omega)]
 by_cases c1:l-(x.length:Int)<0
 ·rw [if_pos (by simpa using c1)]
  exact ⟨_,rfl,.inl (by omega)⟩
 ·rw [if_neg (by simpa using c1)]
  have key:=zJk x (fun y0=>Pack.sm 1048576 y0) (l-x.length) (b:=zC9 x) ?_ ?_ (by omega)
  ·obtain ⟨t,h2,h3⟩:=key
   unfold zDP
   rw [h2]
   cases t with
   |ret r=>exact ⟨r,rfl,.inl h3⟩
   |nxt r=>exact ⟨r,rfl,.inr ⟨h3.1,by have:=h3.2.1; omega,by omega,h3.2.2⟩⟩
  ·intro q i hi hq0 hq1
   unfold zC9
   rw [if_pos (by simp; omega)]
   simp only [zL hi,Option.bind_some]
   have hi2:w64 ((i:Int)+1)=((i+1:Nat):Int):=zK (by omega)
   obtain ⟨r,e,hr⟩:=zPp x[i] (hx _ (List.getElem_mem hi)) q hq0 (by omega)
   rw [e]
   simp only [Option.bind_some]
   by_cases c:r<0
   ·rw [if_pos (by simpa using c)]
    exact .inr ⟨_,rfl,by omega⟩
   ·rw [if_neg (by simpa using c),hi2]
    obtain ⟨g1,g2,g3⟩:=hr.resolve_left c
    exact .inl ⟨_,rfl,g1,g2,g3⟩
  ·intro q
   unfold zC9
   rw [if_neg (by simp)]
def System.sm (B:Nat) (x:System):Prop:=(x.Catalog.length≤B∧∀y0∈x.Catalog,Pack.sm B y0)∧(zD.sm B x.zD)
theorem zM0 (x:System) (hx:System.ok x) (l:Int) (h0:0≤l) (h1:l≤1048576):∃r,zCm x l=some r∧(r<0∨(0≤r∧r≤l∧(System.sm 1048576 x))):=by
 obtain ⟨k0,k1⟩:=hx
 unfold maxLen at*
 unfold zCm
 obtain ⟨r0,e0,g0⟩:=zOs x.Catalog k0 l (by omega) (by omega)
 rw [e0]
 simp only [Option.bind_some]
 by_cases c0:r0<0
 ·rw [if_pos (by simpa using c0)]
  exact ⟨_,rfl,.inl (by omega)⟩
 rw [if_neg (by simpa using c0)]
 obtain ⟨p0,q0,z0⟩:=g0.resolve_left c0
 obtain ⟨r1,e1,g1⟩:=zPf x.zD k1 r0 (by omega) (by omega)
 rw [e1]
 simp only [Option.bind_some]
 by_cases c1:r1<0
 ·rw [if_pos (by simpa using c1)]
  exact ⟨_,rfl,.inl (by omega)⟩
 rw [if_neg (by simpa using c1)]
 obtain ⟨p1,q1,z1⟩:=g1.resolve_left c1
 exact ⟨_,rfl,.inr ⟨by omega,by omega,z0,z1⟩⟩
theorem zNZ (x:(List Int)) (hx:x.length≤1049600∧∀y0∈x,True):zDo x=some x:=by
 have hl:=hx.1
 unfold zDo
 have hm:∀z:Int,mk 1 (x.length:Int) z=some (List.replicate x.length z):=fun z=>by
  unfold mk; rw [if_pos ⟨by omega,by simp; omega,by omega⟩]; simp
 rw [hm]
 simp only [Option.bind_some,zDq]
 rw [zHJ x ?_ ?_ _ (by simp)]
 ·rfl
 ·intro ys i hi hl2
  unfold zE3
  rw [if_pos (by simp; omega)]
  have hi2:w64 ((i:Int)+1)=((i+1:Nat):Int):=zK (by omega)
  simp only [zL hi,zL (show i<ys.length by omega),Option.bind_some,Int.toNat_natCast,hi2]
 ·intro ys _
  unfold zE3
  rw [if_neg (by simp)]
theorem zP3 (x:File) (hx:File.sm 1049600 x):zE6 x=some x:=by
 obtain ⟨h0,h1⟩:=hx
 unfold zE6
 simp only [zNZ x.Data h1,Option.bind_some]
theorem zOe (x:(List File)) (hx:x.length≤1049600∧∀y0∈x,File.sm 1049600 y0):zDs x=some x:=by
 have hl:=hx.1
 unfold zDs
 have hm:∀z:File,mk 40 (x.length:Int) z=some (List.replicate x.length z):=fun z=>by
  unfold mk; rw [if_pos ⟨by omega,by simp; omega,by omega⟩]; simp
 rw [hm]
 simp only [Option.bind_some,zD7]
 rw [zHJ x ?_ ?_ _ (by simp)]
 ·rfl
 ·intro ys i hi hl2
  unfold zEy
  rw [if_pos (by simp; omega)]
  have hi2:w64 ((i:Int)+1)=((i+1:Nat):Int):=zK (by omega)
  simp only [zL hi,zL (show i<ys.length by omega),Option.bind_some,Int.toNat_natCast,hi2,zP3 x[i] (hx.2 _ (List.getElem_mem hi))]
 ·intro ys _
  unfold zEy
  rw [if_neg (by simp)]
theorem zP7 (x:zD) (hx:zD.sm 1049600 x):zEA x=some x:=by
 obtain ⟨h0,h1,h2,h3,h4⟩:=hx
 unfold zEA
 simp only [zOe x.Files h0,Option.bind_some]
theorem zG6 (x:Version) (hx:Version.sm 1049600 x):vV x=some x:=by
 obtain ⟨h0,h1,h2⟩:=hx
 unfold vV
 rfl
theorem zL5 (x:(List ByteArray)) (hx:x.length≤1049600∧∀y0∈x,y0.size≤1049600):zB2 x=some x:=by
 have hl:=hx.1
 unfold zB2
 have hm:∀z:ByteArray,mk 16 (x.length:Int) z=some (List.replicate x.length z):=fun z=>by
  unfold mk; rw [if_pos ⟨by omega,by simp; omega,by omega⟩]; simp
 rw [hm]
 simp only [Option.bind_some,zBR]
 rw [zHJ x ?_ ?_ _ (by simp)]
 ·rfl
 ·intro ys i hi hl2
  unfold zCK
  rw [if_pos (by simp; omega)]
  have hi2:w64 ((i:Int)+1)=((i+1:Nat):Int):=zK (by omega)
  simp only [zL hi,zL (show i<ys.length by omega),Option.bind_some,Int.toNat_natCast,hi2]
 ·intro ys _
  unfold zCK
  rw [if_neg (by simp)]
theorem zON (x:Term) (hx:Term.sm 1049600 x):zEJ x=some x:=by
 obtain ⟨h0,h1,h2⟩:=hx
 unfold zEJ
 simp only [zG6 x.Low h1,zG6 x.High h2,Option.bind_some]
theorem zJB (x:(List Term)) (hx:x.length≤1049600∧∀y0∈x,Term.sm 1049600 y0):zBb x=some x:=by
 have hl:=hx.1
 unfold zBb
 have hm:∀z:Term,mk 64 (x.length:Int) z=some (List.replicate x.length z):=fun z=>by
  unfold mk; rw [if_pos ⟨by omega,by simp; omega,by omega⟩]; simp
 rw [hm]
 simp only [Option.bind_some,zDf]
 rw [zHJ x ?_ ?_ _ (by simp)]
 ·rfl
 ·intro ys i hi hl2
  unfold zEv
  rw [if_pos (by simp; omega)]
  have hi2:w64 ((i:Int)+1)=((i+1:Nat):Int):=zK (by omega)
  simp only [zL hi,zL (show i<ys.length by omega),Option.bind_some,Int.toNat_natCast,hi2,zON x[i] (hx.2 _ (List.getElem_mem hi))]
 ·intro ys _
  unfold zEv
  rw [if_neg (by simp)]
theorem zMC (x:(List (List Term))) (hx:x.length≤1049600∧∀y0∈x,y0.length≤1049600∧∀y1∈y0,Term.sm 1049600 y1):zCk x=some x:=by
 have hl:=hx.1
 unfold zCk
 have hm:∀z:(List Term),mk 24 (x.length:Int) z=some (List.replicate x.length z):=fun z=>by
  unfold mk; rw [if_pos ⟨by omega,by simp; omega,by omega⟩]; simp
 rw [hm]
 simp only [Option.bind_some,zCw]
 rw [zHJ x ?_ ?_ _ (by simp)]
 ·rfl
 ·intro ys i hi hl2
  unfold zDY
  rw [if_pos (by simp; omega)]
  have hi2:w64 ((i:Int)+1)=((i+1:Nat):Int):=zK (by omega)
  simp only [zL hi,zL (show i<ys.length by omega),Option.bind_some,Int.toNat_natCast,hi2,zJB x[i] (hx.2 _ (List.getElem_mem hi))]
 ·intro ys _
  unfold zDY
  rw [if_neg (by simp)]
theorem zPm (x:Pack) (hx:Pack.sm 1049600 x):zED x=some x:=by
 obtain ⟨h0,h1,h2,h3,h4,h5⟩:=hx
 unfold zED
 simp only [zG6 x.Version h1,zL5 x.Provides h3,zMC x.Needs h4,zJB x.Bars h5,Option.bind_some]
theorem zOu (x:(List Pack)) (hx:x.length≤1049600∧∀y0∈x,Pack.sm 1049600 y0):zDu x=some x:=by
 have hl:=hx.1
 unfold zDu
 have hm:∀z:Pack,mk 120 (x.length:Int) z=some (List.replicate x.length z):=fun z=>by
  unfold mk; rw [if_pos ⟨by omega,by simp; omega,by omega⟩]; simp
 rw [hm]
 simp only [Option.bind_some,zD5]
 rw [zHJ x ?_ ?_ _ (by simp)]
 ·rfl
 ·intro ys i hi hl2
  unfold zE1
  rw [if_pos (by simp; omega)]
  have hi2:w64 ((i:Int)+1)=((i+1:Nat):Int):=zK (by omega)
  simp only [zL hi,zL (show i<ys.length by omega),Option.bind_some,Int.toNat_natCast,hi2,zPm x[i] (hx.2 _ (List.getElem_mem hi))]
 ·intro ys _
  unfold zE1
  rw [if_neg (by simp)]
theorem zM8 (x:System) (hx:System.sm 1049600 x):vK x=some x:=by
 obtain ⟨h0,h1⟩:=hx
 unfold vK
 simp only [zOu x.Catalog h0,zP7 x.zD h1,Option.bind_some]
theorem zLd (x:(List Int)) (hx:x.length≤1049600∧∀y0∈x,True):zDC x x=some true:=by
 have hl:=hx.1
 unfold zDC
 rw [if_neg (by simp)]
 unfold zDN
 rw [zHW x.length ?_ ?_]
 ·rfl
 ·intro i hi
  unfold zEx
  rw [if_pos (by simp; omega)]
  have hi2:w64 ((i:Int)+1)=((i+1:Nat):Int):=zK (by omega)
  simp [zL hi,hi2]
 ·unfold zEx
  rw [if_neg (by simp)]
theorem zMY (x:File) (hx:File.sm 1049600 x):zEB x x=some true:=by
 obtain ⟨h0,h1⟩:=hx
 unfold zEB
 simp [zLd x.Data h1]
theorem zLO (x:(List File)) (hx:x.length≤1049600∧∀y0∈x,File.sm 1049600 y0):zDn x x=some true:=by
 have hl:=hx.1
 unfold zDn
 rw [if_neg (by simp)]
 unfold zDi
 rw [zHW x.length ?_ ?_]
 ·rfl
 ·intro i hi
  unfold zEz
  rw [if_pos (by simp; omega)]
  have hi2:w64 ((i:Int)+1)=((i+1:Nat):Int):=zK (by omega)
  simp [zL hi,hi2,zMY x[i] (hx.2 _ (List.getElem_mem hi))]
 ·unfold zEz
  rw [if_neg (by simp)]
theorem zMx (x:zD) (hx:zD.sm 1049600 x):zEI x x=some true:=by
 obtain ⟨h0,h1,h2,h3,h4⟩:=hx
 unfold zEI
 simp [zLO x.Files h0]
theorem zFZ (x:Version) (hx:Version.sm 1049600 x):vW x x=some true:=by
 obtain ⟨h0,h1,h2⟩:=hx
 unfold vW
 simp
theorem zJo (x:(List ByteArray)) (hx:x.length≤1049600∧∀y0∈x,y0.size≤1049600):zBs x x=some true:=by
 have hl:=hx.1
 unfold zBs
 rw [if_neg (by simp)]
 unfold zBH
 rw [zHW x.length ?_ ?_]
 ·rfl
 ·intro i hi
  unfold zCS
  rw [if_pos (by simp; omega)]
  have hi2:w64 ((i:Int)+1)=((i+1:Nat):Int):=zK (by omega)
  simp [zL hi,hi2]
 ·unfold zCS
  rw [if_neg (by simp)]
theorem zME (x:Term) (hx:Term.sm 1049600 x):zE8 x x=some true:=by
 obtain ⟨h0,h1,h2⟩:=hx
 unfold zE8
 simp [zFZ x.Low h1,zFZ x.High h2]
theorem zHZ (x:(List Term)) (hx:x.length≤1049600∧∀y0∈x,Term.sm 1049600 y0):zAW x x=some true:=by
 have hl:=hx.1
 unfold zAW
 rw [if_neg (by simp)]
 unfold zDR
 rw [zHW x.length ?_ ?_]
 ·rfl
 ·intro i hi
  unfold zE0
  rw [if_pos (by simp; omega)]
  have hi2:w64 ((i:Int)+1)=((i+1:Nat):Int):=zK (by omega)
  simp [zL hi,hi2,zME x[i] (hx.2 _ (List.getElem_mem hi))]
 ·unfold zE0
  rw [if_neg (by simp)]
theorem zKB (x:(List (List Term))) (hx:x.length≤1049600∧∀y0∈x,y0.length≤1049600∧∀y1∈y0,Term.sm 1049600 y1):zCn x x=some true:=by
 have hl:=hx.1
 unfold zCn
 rw [if_neg (by simp)]
 unfold zCu
 rw [zHW x.length ?_ ?_]
 ·rfl
 ·intro i hi
  unfold zDT
  rw [if_pos (by simp; omega)]
  have hi2:w64 ((i:Int)+1)=((i+1:Nat):Int):=zK (by omega)
  simp [zL hi,hi2,zHZ x[i] (hx.2 _ (List.getElem_mem hi))]
 ·unfold zDT
  rw [if_neg (by simp)]
theorem zM2 (x:Pack) (hx:Pack.sm 1049600 x):zE5 x x=some true:=by
 obtain ⟨h0,h1,h2,h3,h4,h5⟩:=hx
 unfold zE5
 simp [zFZ x.Version h1,zJo x.Provides h3,zKB x.Needs h4,zHZ x.Bars h5]
theorem zLQ (x:(List Pack)) (hx:x.length≤1049600∧∀y0∈x,Pack.sm 1049600 y0):zDw x x=some true:=by
 have hl:=hx.1
 unfold zDw
 rw [if_neg (by simp)]
 unfold zDr
 rw [zHW x.length ?_ ?_]
 ·rfl
 ·intro i hi
  unfold zE2
  rw [if_pos (by simp; omega)]
  have hi2:w64 ((i:Int)+1)=((i+1:Nat):Int):=zK (by omega)
  simp [zL hi,hi2,zM2 x[i] (hx.2 _ (List.getElem_mem hi))]
 ·unfold zE2
  rw [if_neg (by simp)]
theorem zH0 (x:System) (hx:System.sm 1049600 x):kM x x=some true:=by
 obtain ⟨h0,h1⟩:=hx
 unfold kM
 simp [zLQ x.Catalog h0,zMx x.zD h1]
def zC.sm (B:Nat) (x:zC):Prop:=(True)∧(True)∧(System.sm B x.System)
theorem zHp (x:zC) (hx:zC.sm 1049600 x):wL x x=some true:=by
 obtain ⟨h0,h1,h2⟩:=hx
 unfold wL
 simp [zH0 x.System h2]
theorem zIY (a:Int):(b2s [a]).size =1:=rfl
theorem zKG {k:Int} (h0:0≤k) (h1:k≤9223372036854775807):∃s,xE k=some s:=by
 have key:∀(n:Nat) (k:Int) (s:ByteArray),0≤k→k<10^n→k≤9223372036854775807→s.size+n≤1000→∃t,loop zDS (k,s)=some t∧t.size≤s.size+n:=by
  intro n
  induction n with
  |zero=>
   intro k s h0 h1 _ _
   have:k=0:=by simp at h1; omega
   subst this
   exact ⟨s,by rw [vN]; rfl,by omega⟩
  |succ n ih=>
   intro k s h0 h1 h2 h3
   by_cases hk:k>0
   ·rw [vN]
    unfold zDS
    simp only
    rw [if_pos (by simpa using hk)]
    have hc:∀a:Int,cat (b2s [a]) s=some (b2s [a]++s):=fun a=>by
     unfold cat; rw [if_pos (by rw [zIY]; omega)]
    rw [hc]
    simp only [Option.bind_some,Lp.elim]
    have hd:k.tdiv 10=k / 10:=Int.tdiv_eq_ediv_of_nonneg h0
    rw [hd,wF (by omega) (by omega)]
    obtain ⟨t,g1,g2⟩:=ih (k / 10) (b2s [IntKind.u8.wrap (w64 (48+k.tmod 10))]++s) (by omega) (by rw [Int.pow_succ] at h1; omega) (by omega) (by rw [ByteArray.size_append,zIY]; omega)
    refine ⟨t,g1,?_⟩
    rw [ByteArray.size_append,zIY] at g2
    omega
   ·have:k=0:=by omega
    subst this
    exact ⟨s,by rw [vN]; rfl,by omega⟩
 unfold xE
 by_cases hk:k≤0
 ·rw [if_pos (by simpa using hk)]
  exact ⟨_,rfl⟩
 ·rw [if_neg (by simpa using hk)]
  obtain ⟨t,g1,g2⟩:=key 19 k (bs []) h0 (by omega) h1 (by decide)
  unfold zCG
  rw [g1]
  simp only [Option.bind_some]
  have e0:(bs []).size =0:=rfl
  have e1:(bs [109]).size =1:=rfl
  unfold cat
  rw [if_pos (by omega)]
  exact ⟨_,rfl⟩
noncomputable def mT (k:Int):ByteArray:=(xE k).getD ByteArray.empty
theorem zDQ {k:Int} (h0:0≤k) (h1:k≤9223372036854775807):xE k=some (mT k):=by
 obtain ⟨s,hs⟩:=zKG h0 h1
 unfold mT
 rw [hs]
 rfl
def zOz (_:Int) (k:Int):Int:=IntKind.u8.wrap k
theorem zKp (xs:List Int) (hx:xs.length≤1049600∧∀y0∈xs,True) (k:Int) (h0:0≤k) (h1:k+cs c1 xs≤9223372036854775807):zAp xs k=some (k+cs c1 xs,pm zOz c1 xs k):=by
 unfold zAp zBe
 have key:=zFR zOz c1 (fun y0=>True) zEe (b:=zAx) ?_ ?_ xs [] k hx.2 h0 h1 (by have:=hx.1; simp; omega)
 ·simp only [List.nil_append,List.length_nil,Int.natCast_zero] at key
  rw [key]
  rfl
 ·intro l r x k hP h0 hk hl
  simp only [c1] at hk
  have w0:=wF (x:=k+1) (by omega) (by omega)
  have hi2:w64 ((l.length:Int)+1)=((l.length+1:Nat):Int):=zK (by omega)
  unfold zAx
  rw [if_pos (by simp; omega)]
  simp only [zAK,zHT,Option.bind_some,Int.toNat_natCast,hi2,w0]
  rfl
 ·intro l k
  unfold zAx
  rw [if_neg (by simp)]
theorem zKZ (xs:List Int) (hx:xs.length≤1049600∧∀y0∈xs,True) (k:Int) (h0:0≤k) (h1:k+cs c1 xs≤9223372036854775807):zB7 (pm zOz c1 xs k) k=some (k+cs c1 xs):=by
 unfold zB7 zBF
 have key:=zFM zOz c1 (fun y0=>True) zEe (b:=zBl) ?_ ?_ xs [] k hx.2 h0 h1 (by have:=hx.1; simp; omega)
 ·simp only [List.nil_append,List.length_nil,Int.natCast_zero] at key
  rw [key]
  rfl
 ·intro l r x k hP h0 hk hl
  simp only [c1] at hk
  have w0:=wF (x:=k+1) (by omega) (by omega)
  have hi2:w64 ((l.length:Int)+1)=((l.length+1:Nat):Int):=zK (by omega)
  unfold zBl
  rw [if_pos (by simp; omega)]
  simp [zAK,hi2,zOz,w0]
  all_goals (first|rfl|omega|(simp only [c1]; omega))
 ·intro l k
  unfold zBl
  rw [if_neg (by simp)]
noncomputable def mFile (x:File) (k:Int):File:=({Path:=mT (k),Data:=pm zOz c1 x.Data (k+1)}:File)
noncomputable def cFile (x:File):Int:=1+cs c1 x.Data
theorem kR (x:File):0≤cFile x:=by
 have n1:=wG zEe x.Data
 unfold cFile
 omega
theorem zKA (xs:List File) (hx:xs.length≤1049600∧∀y0∈xs,File.sm 1049600 y0) (k:Int) (h0:0≤k) (h1:k+cs cFile xs≤9223372036854775807):zAC xs k=some (k+cs cFile xs,pm mFile cFile xs k):=by
 unfold zAC zAX
 have key:=zFR mFile cFile (fun y0=>File.sm 1049600 y0) kR (b:=zAz) ?_ ?_ xs [] k hx.2 h0 h1 (by have:=hx.1; simp; omega)
 ·simp only [List.nil_append,List.length_nil,Int.natCast_zero] at key
  rw [key]
  rfl
 ·intro l r x k hP h0 hk hl
  simp only [cFile] at hk
  have n1:=wG zEe x.Data
  have t0:=zDQ (k:=k) (by omega) (by omega)
  have w0:=wF (x:=k+1) (by omega) (by omega)
  have t1:=zKp x.Data (hP.2) (k+1) (by omega) (by omega)
  have hi2:w64 ((l.length:Int)+1)=((l.length+1:Nat):Int):=zK (by omega)
  unfold zAz
  rw [if_pos (by simp; omega)]
  simp only [zAK,zHT,Option.bind_some,Int.toNat_natCast,hi2,t0,w0,t1,zG1 (zF6 _ _ _ _)]
  rw [show k+1+cs c1 x.Data=k+cFile x from by simp only [cFile]; omega]
  rfl
 ·intro l k
  unfold zAz
  rw [if_neg (by simp)]
theorem zLy (xs:List File) (hx:xs.length≤1049600∧∀y0∈xs,File.sm 1049600 y0) (k:Int) (h0:0≤k) (h1:k+cs cFile xs≤9223372036854775807):zBy (pm mFile cFile xs k) k=some (k+cs cFile xs):=by
 unfold zBy zCd
 have key:=zFM mFile cFile (fun y0=>File.sm 1049600 y0) kR (b:=zBi) ?_ ?_ xs [] k hx.2 h0 h1 (by have:=hx.1; simp; omega)
 ·simp only [List.nil_append,List.length_nil,Int.natCast_zero] at key
  rw [key]
  rfl
 ·intro l r x k hP h0 hk hl
  simp only [cFile] at hk
  have n1:=wG zEe x.Data
  have t0:=zDQ (k:=k) (by omega) (by omega)
  have w0:=wF (x:=k+1) (by omega) (by omega)
  have t1:=zKZ x.Data (hP.2) (k+1) (by omega) (by omega)
  have z1:¬(k+1+cs c1 x.Data<0):=by omega
  have hi2:w64 ((l.length:Int)+1)=((l.length+1:Nat):Int):=zK (by omega)
  unfold zBi
  rw [if_pos (by simp; omega)]
  simp [zAK,hi2,mFile,t0,w0,t1,z1]
  all_goals (first|rfl|omega|(simp only [cFile]; omega))
 ·intro l k
  unfold zBi
  rw [if_neg (by simp)]
theorem zLT (x:zD) (hP:zD.sm 1049600 x) (k:Int) (h0:0≤k) (h1:k+cs cFile x.Files≤9223372036854775807):zBx x k=some (k+cs cFile x.Files,pm mFile cFile x.Files (k)):=by
 have n0:=wG kR x.Files
 have t0:=zKA x.Files (hP.1) (k) (by omega) (by omega)
 unfold zBx
 simp only [t0,Option.bind_some,zG1 (zF6 _ _ _ _)]
theorem zMV (x:zD) (hP:zD.sm 1049600 x) (k:Int) (h0:0≤k) (h1:k+cs cFile x.Files≤9223372036854775807):zCq ({Files:=pm mFile cFile x.Files (k),Budget:=x.Budget,Writes:=x.Writes,Stop:=x.Stop,Down:=x.Down}:zD) k=some (k+cs cFile x.Files):=by
 have n0:=wG kR x.Files
 have t0:=zLy x.Files (hP.1) (k) (by omega) (by omega)
 have z0:¬(k+cs cFile x.Files<0):=by omega
 unfold zCq
 simp [t0]
 all_goals (first|rfl|omega)
noncomputable def zHX (_:ByteArray) (k:Int):ByteArray:=mT k
theorem zIR (xs:List ByteArray) (hx:xs.length≤1049600∧∀y0∈xs,y0.size≤1049600) (k:Int) (h0:0≤k) (h1:k+cs c1 xs≤9223372036854775807):tH xs k=some (k+cs c1 xs,pm zHX c1 xs k):=by
 unfold tH kF
 have key:=zFR zHX c1 (fun y0=>y0.size≤1049600) zEe (b:=jD) ?_ ?_ xs [] k hx.2 h0 h1 (by have:=hx.1; simp; omega)
 ·simp only [List.nil_append,List.length_nil,Int.natCast_zero] at key
  rw [key]
  rfl
 ·intro l r x k hP h0 hk hl
  simp only [c1] at hk
  have t0:=zDQ (k:=k) (by omega) (by omega)
  have w0:=wF (x:=k+1) (by omega) (by omega)
  have hi2:w64 ((l.length:Int)+1)=((l.length+1:Nat):Int):=zK (by omega)
  unfold jD
  rw [if_pos (by simp; omega)]
  simp only [zAK,zHT,Option.bind_some,Int.toNat_natCast,hi2,t0,w0]
  rfl
 ·intro l k
  unfold jD
  rw [if_neg (by simp)]
theorem zJv (xs:List ByteArray) (hx:xs.length≤1049600∧∀y0∈xs,y0.size≤1049600) (k:Int) (h0:0≤k) (h1:k+cs c1 xs≤9223372036854775807):jV (pm zHX c1 xs k) k=some (k+cs c1 xs):=by
 unfold jV zAu
 have key:=zFM zHX c1 (fun y0=>y0.size≤1049600) zEe (b:=kD) ?_ ?_ xs [] k hx.2 h0 h1 (by have:=hx.1; simp; omega)
 ·simp only [List.nil_append,List.length_nil,Int.natCast_zero] at key
  rw [key]
  rfl
 ·intro l r x k hP h0 hk hl
  simp only [c1] at hk
  have t0:=zDQ (k:=k) (by omega) (by omega)
  have w0:=wF (x:=k+1) (by omega) (by omega)
  have hi2:w64 ((l.length:Int)+1)=((l.length+1:Nat):Int):=zK (by omega)
  unfold kD
  rw [if_pos (by simp; omega)]
  simp [zAK,hi2,zHX,t0,w0]
  all_goals (first|rfl|omega|(simp only [c1]; omega))
 ·intro l k
  unfold kD
  rw [if_neg (by simp)]
noncomputable def zM3 (x:Term) (k:Int):Term:=({Name:=mT (k),Low:=({A:=(k+1),B:=(k+1+1),C:=(k+1+1+1)}:Version),High:=({A:=(k+1+1+1+1),B:=(k+1+1+1+1+1),C:=(k+1+1+1+1+1+1)}:Version)}:Term)
noncomputable def zF7 (x:Term):Int:=1+1+1+1+1+1+1
theorem zCf (x:Term):0≤zF7 x:=by
 unfold zF7
 omega
theorem zHy (xs:List Term) (hx:xs.length≤1049600∧∀y0∈xs,Term.sm 1049600 y0) (k:Int) (h0:0≤k) (h1:k+cs zF7 xs≤9223372036854775807):uI xs k=some (k+cs zF7 xs,pm zM3 zF7 xs k):=by
 unfold uI zAS
 have key:=zFR zM3 zF7 (fun y0=>Term.sm 1049600 y0) zCf (b:=zA3) ?_ ?_ xs [] k hx.2 h0 h1 (by have:=hx.1; simp; omega)
 ·simp only [List.nil_append,List.length_nil,Int.natCast_zero] at key
  rw [key]
  rfl
 ·intro l r x k hP h0 hk hl
  simp only [zF7] at hk
  have t0:=zDQ (k:=k) (by omega) (by omega)
  have w0:=wF (x:=k+1) (by omega) (by omega)
  have w1:=wF (x:=k+1+1) (by omega) (by omega)
  have w2:=wF (x:=k+1+1+1) (by omega) (by omega)
  have w3:=wF (x:=k+1+1+1+1) (by omega) (by omega)
  have w4:=wF (x:=k+1+1+1+1+1) (by omega) (by omega)
  have w5:=wF (x:=k+1+1+1+1+1+1) (by omega) (by omega)
  have w6:=wF (x:=k+1+1+1+1+1+1+1) (by omega) (by omega)
  have hi2:w64 ((l.length:Int)+1)=((l.length+1:Nat):Int):=zK (by omega)
  unfold zA3
  rw [if_pos (by simp; omega)]
  simp only [zAK,zHT,Option.bind_some,Int.toNat_natCast,hi2,t0,w0,w1,w2,w3,w4,w5,w6]
  rw [show k+1+1+1+1+1+1+1=k+zF7 x from by simp only [zF7]; omega]
  rfl
 ·intro l k
  unfold zA3
  rw [if_neg (by simp)]
theorem zIm (xs:List Term) (hx:xs.length≤1049600∧∀y0∈xs,Term.sm 1049600 y0) (k:Int) (h0:0≤k) (h1:k+cs zF7 xs≤9223372036854775807):tZ (pm zM3 zF7 xs k) k=some (k+cs zF7 xs):=by
 unfold tZ zCa
 have key:=zFM zM3 zF7 (fun y0=>Term.sm 1049600 y0) zCf (b:=zBm) ?_ ?_ xs [] k hx.2 h0 h1 (by have:=hx.1; simp; omega)
 ·simp only [List.nil_append,List.length_nil,Int.natCast_zero] at key
  rw [key]
  rfl
 ·intro l r x k hP h0 hk hl
  simp only [zF7] at hk
  have t0:=zDQ (k:=k) (by omega) (by omega)
  have w0:=wF (x:=k+1) (by omega) (by omega)
  have w1:=wF (x:=k+1+1) (by omega) (by omega)
  have w2:=wF (x:=k+1+1+1) (by omega) (by omega)
  have w3:=wF (x:=k+1+1+1+1) (by omega) (by omega)
  have w4:=wF (x:=k+1+1+1+1+1) (by omega) (by omega)
  have w5:=wF (x:=k+1+1+1+1+1+1) (by omega) (by omega)
  have w6:=wF (x:=k+1+1+1+1+1+1+1) (by omega) (by omega)
  have hi2:w64 ((l.length:Int)+1)=((l.length+1:Nat):Int):=zK (by omega)
  unfold zBm
  rw [if_pos (by simp; omega)]
  simp [zAK,hi2,zM3,t0,w0,w1,w2,w3,w4,w5,w6]
  all_goals (first|rfl|omega|(simp only [zF7]; omega))
 ·intro l k
  unfold zBm
  rw [if_neg (by simp)]
noncomputable def zJY (x:(List Term)) (k:Int):(List Term):=pm zM3 zF7 x k
noncomputable def zEb (x:(List Term)):Int:=cs zF7 x
theorem zFb (x:(List Term)):0≤zEb x:=wG zCf x
theorem zJ6 (xs:List (List Term)) (hx:xs.length≤1049600∧∀y0∈xs,y0.length≤1049600∧∀y1∈y0,Term.sm 1049600 y1) (k:Int) (h0:0≤k) (h1:k+cs zEb xs≤9223372036854775807):jX xs k=some (k+cs zEb xs,pm zJY zEb xs k):=by
 unfold jX zAE
 have key:=zFR zJY zEb (fun y0=>y0.length≤1049600∧∀y1∈y0,Term.sm 1049600 y1) zFb (b:=kG) ?_ ?_ xs [] k hx.2 h0 h1 (by have:=hx.1; simp; omega)
 ·simp only [List.nil_append,List.length_nil,Int.natCast_zero] at key
  rw [key]
  rfl
 ·intro l r x k hP h0 hk hl
  simp only [zEb] at hk
  have n0:=wG zCf x
  have t0:=zHy x (hP) (k) (by omega) (by omega)
  have hi2:w64 ((l.length:Int)+1)=((l.length+1:Nat):Int):=zK (by omega)
  unfold kG
  rw [if_pos (by simp; omega)]
  simp only [zAK,zHT,Option.bind_some,Int.toNat_natCast,hi2,t0,zG1 (zF6 _ _ _ _)]
  rfl
 ·intro l k
  unfold kG
  rw [if_neg (by simp)]
theorem zKo (xs:List (List Term)) (hx:xs.length≤1049600∧∀y0∈xs,y0.length≤1049600∧∀y1∈y0,Term.sm 1049600 y1) (k:Int) (h0:0≤k) (h1:k+cs zEb xs≤9223372036854775807):zA4 (pm zJY zEb xs k) k=some (k+cs zEb xs):=by
 unfold zA4 zAU
 have key:=zFM zJY zEb (fun y0=>y0.length≤1049600∧∀y1∈y0,Term.sm 1049600 y1) zFb (b:=zA0) ?_ ?_ xs [] k hx.2 h0 h1 (by have:=hx.1; simp; omega)
 ·simp only [List.nil_append,List.length_nil,Int.natCast_zero] at key
  rw [key]
  rfl
 ·intro l r x k hP h0 hk hl
  simp only [zEb] at hk
  have n0:=wG zCf x
  have t0:=zIm x (hP) (k) (by omega) (by omega)
  have z0:¬(k+cs zF7 x<0):=by omega
  have hi2:w64 ((l.length:Int)+1)=((l.length+1:Nat):Int):=zK (by omega)
  unfold zA0
  rw [if_pos (by simp; omega)]
  simp [zAK,hi2,zJY,t0,z0]
  all_goals (first|rfl|omega|(simp only [zEb]; omega))
 ·intro l k
  unfold zA0
  rw [if_neg (by simp)]
noncomputable def zKr (x:Pack) (k:Int):Pack:=({Name:=mT (k),Version:=({A:=(k+1),B:=(k+1+1),C:=(k+1+1+1)}:Version),Size:=(k+1+1+1+1),Provides:=pm zHX c1 x.Provides (k+1+1+1+1+1),Needs:=pm zJY zEb x.Needs (k+1+1+1+1+1+cs c1 x.Provides),Bars:=pm zM3 zF7 x.Bars (k+1+1+1+1+1+cs c1 x.Provides+cs zEb x.Needs)}:Pack)
noncomputable def zBL (x:Pack):Int:=1+1+1+1+1+cs c1 x.Provides+cs zEb x.Needs+cs zF7 x.Bars
theorem zCg (x:Pack):0≤zBL x:=by
 have n5:=wG zEe x.Provides
 have n6:=wG zFb x.Needs
 have n7:=wG zCf x.Bars
 unfold zBL
 omega
theorem zKm (xs:List Pack) (hx:xs.length≤1049600∧∀y0∈xs,Pack.sm 1049600 y0) (k:Int) (h0:0≤k) (h1:k+cs zBL xs≤9223372036854775807):zA7 xs k=some (k+cs zBL xs,pm zKr zBL xs k):=by
 unfold zA7 zBo
 have key:=zFR zKr zBL (fun y0=>Pack.sm 1049600 y0) zCg (b:=zAm) ?_ ?_ xs [] k hx.2 h0 h1 (by have:=hx.1; simp; omega)
 ·simp only [List.nil_append,List.length_nil,Int.natCast_zero] at key
  rw [key]
  rfl
 ·intro l r x k hP h0 hk hl
  simp only [zBL] at hk
  have n5:=wG zEe x.Provides
  have n6:=wG zFb x.Needs
  have n7:=wG zCf x.Bars
  have t0:=zDQ (k:=k) (by omega) (by omega)
  have w0:=wF (x:=k+1) (by omega) (by omega)
  have w1:=wF (x:=k+1+1) (by omega) (by omega)
  have w2:=wF (x:=k+1+1+1) (by omega) (by omega)
  have w3:=wF (x:=k+1+1+1+1) (by omega) (by omega)
  have w4:=wF (x:=k+1+1+1+1+1) (by omega) (by omega)
  have t5:=zIR x.Provides (hP.2.2.2.1) (k+1+1+1+1+1) (by omega) (by omega)
  have t6:=zJ6 x.Needs (hP.2.2.2.2.1) (k+1+1+1+1+1+cs c1 x.Provides) (by omega) (by omega)
  have t7:=zHy x.Bars (hP.2.2.2.2.2) (k+1+1+1+1+1+cs c1 x.Provides+cs zEb x.Needs) (by omega) (by omega)
  have hi2:w64 ((l.length:Int)+1)=((l.length+1:Nat):Int):=zK (by omega)
  unfold zAm
  rw [if_pos (by simp; omega)]
  simp only [zAK,zHT,Option.bind_some,Int.toNat_natCast,hi2,t0,w0,w1,w2,w3,w4,t5,t6,t7,zG1 (zF6 _ _ _ _)]
  rw [show k+1+1+1+1+1+cs c1 x.Provides+cs zEb x.Needs+cs zF7 x.Bars=k+zBL x from by simp only [zBL]; omega]
  rfl
 ·intro l k
  unfold zAm
  rw [if_neg (by simp)]
theorem zMa (xs:List Pack) (hx:xs.length≤1049600∧∀y0∈xs,Pack.sm 1049600 y0) (k:Int) (h0:0≤k) (h1:k+cs zBL xs≤9223372036854775807):zB9 (pm zKr zBL xs k) k=some (k+cs zBL xs):=by
 unfold zB9 zBQ
 have key:=zFM zKr zBL (fun y0=>Pack.sm 1049600 y0) zCg (b:=zAO) ?_ ?_ xs [] k hx.2 h0 h1 (by have:=hx.1; simp; omega)
 ·simp only [List.nil_append,List.length_nil,Int.natCast_zero] at key
  rw [key]
  rfl
 ·intro l r x k hP h0 hk hl
  simp only [zBL] at hk
  have n5:=wG zEe x.Provides
  have n6:=wG zFb x.Needs
  have n7:=wG zCf x.Bars
  have t0:=zDQ (k:=k) (by omega) (by omega)
  have w0:=wF (x:=k+1) (by omega) (by omega)
  have w1:=wF (x:=k+1+1) (by omega) (by omega)
  have w2:=wF (x:=k+1+1+1) (by omega) (by omega)
  have w3:=wF (x:=k+1+1+1+1) (by omega) (by omega)
  have w4:=wF (x:=k+1+1+1+1+1) (by omega) (by omega)
  have t5:=zJv x.Provides (hP.2.2.2.1) (k+1+1+1+1+1) (by omega) (by omega)
  have z5:¬(k+1+1+1+1+1+cs c1 x.Provides<0):=by omega
  have t6:=zKo x.Needs (hP.2.2.2.2.1) (k+1+1+1+1+1+cs c1 x.Provides) (by omega) (by omega)
  have z6:¬(k+1+1+1+1+1+cs c1 x.Provides+cs zEb x.Needs<0):=by omega
  have t7:=zIm x.Bars (hP.2.2.2.2.2) (k+1+1+1+1+1+cs c1 x.Provides+cs zEb x.Needs) (by omega) (by omega)
  have z7:¬(k+1+1+1+1+1+cs c1 x.Provides+cs zEb x.Needs+cs zF7 x.Bars<0):=by omega
  have hi2:w64 ((l.length:Int)+1)=((l.length+1:Nat):Int):=zK (by omega)
  unfold zAO
  rw [if_pos (by simp; omega)]
  simp [zAK,hi2,zKr,t0,w0,w1,w2,w3,w4,t5,z5,t6,z6,t7,z7]
  all_goals (first|rfl|omega|(simp only [zBL]; omega))
 ·intro l k
  unfold zAO
  rw [if_neg (by simp)]
theorem zHe (x:System) (hP:System.sm 1049600 x) (k:Int) (h0:0≤k) (h1:k+cs zBL x.Catalog+cs cFile x.zD.Files≤9223372036854775807):vX x k=some (k+cs zBL x.Catalog+cs cFile x.zD.Files,pm zKr zBL x.Catalog (k),pm mFile cFile x.zD.Files (k+cs zBL x.Catalog)):=by
 have n0:=wG zCg x.Catalog
 have n1:=wG kR x.zD.Files
 have t0:=zKm x.Catalog (hP.1) (k) (by omega) (by omega)
 have t1:=zLT x.zD (hP.2) (k+cs zBL x.Catalog) (by omega) (by omega)
 unfold vX
 simp only [t0,t1,Option.bind_some,zG1 (zF6 _ _ _ _)]
theorem zKP (x:System) (hP:System.sm 1049600 x) (k:Int) (h0:0≤k) (h1:k+cs zBL x.Catalog+cs cFile x.zD.Files≤9223372036854775807):zA8 ({Catalog:=pm zKr zBL x.Catalog (k),zD:=({Files:=pm mFile cFile x.zD.Files (k+cs zBL x.Catalog),Budget:=x.zD.Budget,Writes:=x.zD.Writes,Stop:=x.zD.Stop,Down:=x.zD.Down}:zD)}:System) k=some (k+cs zBL x.Catalog+cs cFile x.zD.Files):=by
 have n0:=wG zCg x.Catalog
 have n1:=wG kR x.zD.Files
 have t0:=zMa x.Catalog (hP.1) (k) (by omega) (by omega)
 have z0:¬(k+cs zBL x.Catalog<0):=by omega
 have t1:=zMV x.zD (hP.2) (k+cs zBL x.Catalog) (by omega) (by omega)
 have z1:¬(k+cs zBL x.Catalog+cs cFile x.zD.Files<0):=by omega
 unfold zA8
 simp [t0,t1,z0,z1]
 all_goals (first|rfl|omega)
theorem zGV (x:zC) (hP:zC.sm 1049600 x) (k:Int) (h0:0≤k) (h1:k+cs zBL x.System.Catalog+cs cFile x.System.zD.Files≤9223372036854775807):vF x k=some (k+cs zBL x.System.Catalog+cs cFile x.System.zD.Files,pm zKr zBL x.System.Catalog (k),pm mFile cFile x.System.zD.Files (k+cs zBL x.System.Catalog)):=by
 have n0:=wG zCg x.System.Catalog
 have n1:=wG kR x.System.zD.Files
 have t0:=zHe x.System (hP.2.2) (k) (by omega) (by omega)
 unfold vF
 simp only [t0,Option.bind_some,zG1 (zF6 _ _ _ _)]
theorem zHo (x:zC) (hP:zC.sm 1049600 x) (k:Int) (h0:0≤k) (h1:k+cs zBL x.System.Catalog+cs cFile x.System.zD.Files≤9223372036854775807):wO ({Code:=x.Code,Choices:=x.Choices,System:=({Catalog:=pm zKr zBL x.System.Catalog (k),zD:=({Files:=pm mFile cFile x.System.zD.Files (k+cs zBL x.System.Catalog),Budget:=x.System.zD.Budget,Writes:=x.System.zD.Writes,Stop:=x.System.zD.Stop,Down:=x.System.zD.Down}:zD)}:System)}:zC) k=some (k+cs zBL x.System.Catalog+cs cFile x.System.zD.Files):=by
 have n0:=wG zCg x.System.Catalog
 have n1:=wG kR x.System.zD.Files
 have t0:=zKP x.System (hP.2.2) (k) (by omega) (by omega)
 have z0:¬(k+cs zBL x.System.Catalog+cs cFile x.System.zD.Files<0):=by omega
 unfold wO
 simp [t0]
 all_goals (first|rfl|omega)
theorem Version.zEF {x:Version} (h:Version.sm 1048576 x):Version.sm 1049600 x:=⟨trivial,trivial,trivial⟩
theorem Term.zEF {x:Term} (h:Term.sm 1048576 x):Term.sm 1049600 x:=⟨(Nat.le_trans h.1 (by decide)),(Version.zEF h.2.1),(Version.zEF h.2.2)⟩
theorem Pack.zEF {x:Pack} (h:Pack.sm 1048576 x):Pack.sm 1049600 x:=⟨(Nat.le_trans h.1 (by decide)),(Version.zEF h.2.1),trivial,⟨Nat.le_trans h.2.2.2.1.1 (by decide),fun y0 z0=>(Nat.le_trans (h.2.2.2.1.2 y0 z0) (by decide))⟩,⟨Nat.le_trans h.2.2.2.2.1.1 (by decide),fun y0 z0=>⟨Nat.le_trans (h.2.2.2.2.1.2 y0 z0).1 (by decide),fun y1 z1=>(Term.zEF ((h.2.2.2.2.1.2 y0 z0).2 y1 z1))⟩⟩,⟨Nat.le_trans h.2.2.2.2.2.1 (by decide),fun y0 z0=>(Term.zEF (h.2.2.2.2.2.2 y0 z0))⟩⟩
theorem File.zEF {x:File} (h:File.sm 1048576 x):File.sm 1049600 x:=⟨(Nat.le_trans h.1 (by decide)),⟨Nat.le_trans h.2.1 (by decide),fun y0 z0=>trivial⟩⟩
theorem zD.zEF {x:zD} (h:zD.sm 1048576 x):zD.sm 1049600 x:=⟨⟨Nat.le_trans h.1.1 (by decide),fun y0 z0=>(File.zEF (h.1.2 y0 z0))⟩,trivial,trivial,trivial,trivial⟩
theorem System.zEF {x:System} (h:System.sm 1048576 x):System.sm 1049600 x:=⟨⟨Nat.le_trans h.1.1 (by decide),fun y0 z0=>(Pack.zEF (h.1.2 y0 z0))⟩,(zD.zEF h.2)⟩
theorem zLG (x:(List ByteArray)) (hx:x.length≤1049600∧∀y0∈x,y0.size≤1049600):cs c1 x≤1049600:=by
 have:=zMP (c:=c1) (C:=1) (N:=1049600) (by decide) x (fun a _=>by unfold c1; decide) hx.1
 omega
theorem zKk (x:(List Term)) (hx:x.length≤1049600∧∀y0∈x,Term.sm 1049600 y0):cs zF7 x≤7347200:=by
 have:=zMP (c:=zF7) (C:=7) (N:=1049600) (by decide) x (fun a ha=>by have hP:=hx.2 a ha; unfold zF7; omega) hx.1
 omega
theorem zMv (x:(List (List Term))) (hx:x.length≤1049600∧∀y0∈x,y0.length≤1049600∧∀y1∈y0,Term.sm 1049600 y1):cs zEb x≤7711621120000:=by
 have:=zMP (c:=zEb) (C:=7347200) (N:=1049600) (by decide) x (fun a ha=>zKk a (hx.2 a ha)) hx.1
 omega
theorem zJW (x:(List Pack)) (hx:x.length≤1049600∧∀y0∈x,Pack.sm 1049600 y0):cs zBL x≤8094126340838528000:=by
 have:=zMP (c:=zBL) (C:=7711629516805) (N:=1049600) (by decide) x (fun a ha=>by have hP:=hx.2 a ha; have q5:=zLG a.Provides (hP.2.2.2.1); have q6:=zMv a.Needs (hP.2.2.2.2.1); have q7:=zKk a.Bars (hP.2.2.2.2.2); unfold zBL; omega) hx.1
 omega
theorem zNG (x:(List Int)) (hx:x.length≤1049600∧∀y0∈x,True):cs c1 x≤1049600:=by
 have:=zMP (c:=c1) (C:=1) (N:=1049600) (by decide) x (fun a _=>by unfold c1; decide) hx.1
 omega
theorem zJX (x:(List File)) (hx:x.length≤1049600∧∀y0∈x,File.sm 1049600 y0):cs cFile x≤1101661209600:=by
 have:=zMP (c:=cFile) (C:=1049601) (N:=1049600) (by decide) x (fun a ha=>by have hP:=hx.2 a ha; have q1:=zNG a.Data (hP.2); unfold cFile; omega) hx.1
 omega
theorem zG2 (a1:System) (k0:System.ok a1) (both:(System.sm 1048576 a1)→∃r,kV a1=some r∧uG a1=some r∧(zC.sm 1049600 r)):vH a1=some true:=by
 unfold vH
 obtain ⟨r1,e1,g1⟩:=zM0 a1 k0 1048576 (by omega) (by omega)
 rw [e1]
 simp only [Option.bind_some]
 by_cases d1:r1<0
 ·rw [if_pos (by simpa using d1)]
 rw [if_neg (by simpa using d1)]
 obtain ⟨p1,q1,s_a1⟩:=g1.resolve_left d1
 obtain ⟨r,e1,e2,hr⟩:=both s_a1
 have m_a1:System.sm 1049600 a1:=(System.zEF s_a1)
 have n1:=wG zCg a1.Catalog
 have b1:=zJW a1.Catalog (m_a1.1)
 have n2:=wG kR a1.zD.Files
 have b2:=zJX a1.zD.Files (m_a1.2.1)
 have n4:=wG zCg r.System.Catalog
 have b4:=zJW r.System.Catalog (hr.2.2.1)
 have n5:=wG kR r.System.zD.Files
 have b5:=zJX r.System.zD.Files (hr.2.2.2.1)
 have t3:=zHe a1 m_a1 (1) (by omega) (by omega)
 have z1:¬(1+cs zBL a1.Catalog+cs cFile a1.zD.Files<0):=by omega
 have t6:=zGV r hr 1 (by omega) (by omega)
 have u6:=zHo r hr 1 (by omega) (by omega)
 have z2:¬(1+cs zBL r.System.Catalog+cs cFile r.System.zD.Files<0):=by omega
 simp [e1,e2,zM8 a1 m_a1,zH0 a1 m_a1,zHp r hr,t3,z1,t6,u6,z2,zG1 (zF6 _ _ _ _)]
def bl (s:ByteArray):List Int:=s.toList.map (fun b=>(b.toNat:Int))
theorem zP (s:ByteArray):(bl s).length =s.size:=by
 unfold bl
 rw [List.length_map,ByteArray.toList_eq]
 rfl
theorem zEw {s:ByteArray} {i:Nat} (h:i< (bl s).length):bidx s (i:Int)=some (bl s)[i]:=by
 unfold bidx
 rw [if_pos (by omega)]
 have hs:i<s.size:=by rw [zP] at h; exact h
 have e:s[(i:Int).toNat]? =some s[i]:=by simp [hs]
 rw [e]
 simp only [Option.map_some,bl,List.getElem_map]
 congr 2
 simp only [ByteArray.toList_eq]
 rfl
theorem zIx {s:ByteArray}:∀c∈bl s,0≤c∧c≤255:=by
 intro c hc
 unfold bl at hc
 obtain ⟨b,_,rfl⟩:=List.mem_map.1 hc
 have:=b.toNat_lt
 omega
theorem zJm:∀(a:List UInt8),Op.bytesLess a a=false
 |[]=>rfl
 |x::a=>by simp [Op.bytesLess,zJm a]
theorem zKe:∀{a b c:List UInt8},Op.bytesLess a b=true→Op.bytesLess b c=true→Op.bytesLess a c=true
 |_,[],_,h,_=>by simp [Op.bytesLess] at h
 |_,_::_,[],_,h=>by simp [Op.bytesLess] at h
 |[],_::_,_::_,_,_=>by simp [Op.bytesLess]
 |x::a,y::b,z::c,h1,h2=>by
  simp only [Op.bytesLess,Bool.or_eq_true,decide_eq_true_eq,Bool.and_eq_true,beq_iff_eq] at h1 h2 ⊢
  rcases h1 with h1|⟨rfl,h1⟩
  ·rcases h2 with h2|⟨rfl,h2⟩
   ·exact .inl (UInt8.lt_trans h1 h2)
   ·exact .inl h1
  ·rcases h2 with h2|⟨rfl,h2⟩
   ·exact .inl h2
   ·exact .inr ⟨rfl,zKe h1 h2⟩
theorem zNp:∀(a b:List UInt8),Op.bytesLess a b=false→a≠b→Op.bytesLess b a=true
 |[],[],_,h=>absurd rfl h
 |[],_::_,h,_=>by simp [Op.bytesLess] at h
 |_::_,[],_,_=>by simp [Op.bytesLess]
 |x::a,y::b,h,hne=>by
  simp only [Op.bytesLess,Bool.or_eq_false_iff,decide_eq_false_iff_not,Bool.and_eq_false_iff,beq_eq_false_iff_ne] at h
  simp only [Op.bytesLess,Bool.or_eq_true,decide_eq_true_eq,Bool.and_eq_true,beq_iff_eq]
  by_cases hxy:x=y
  ·subst hxy
   refine .inr ⟨rfl,zNp a b ?_ (fun e=>hne (by rw [e]))⟩
   rcases h.2 with h'|h'
   ·exact absurd rfl h'
   ·exact h'
  ·refine .inl ?_
   have:=h.1
   rw [UInt8.lt_iff_toNat_lt] at this ⊢
   have:x.toNat≠y.toNat:=fun e=>hxy (UInt8.toNat_inj.1 e)
   omega
theorem toList_inj {a b:ByteArray} (h:a.toList=b.toList):a=b:=by
 rw [ByteArray.toList_eq,ByteArray.toList_eq] at h
 cases a; cases b
 simp at h
 rw [h]
theorem zGJ (a:ByteArray):slt a a=false:=zJm _
theorem zJa {a b c:ByteArray} (h1:slt a b=true) (h2:slt b c=true):slt a c=true:=zKe h1 h2
theorem zRi {a b:ByteArray} (h:slt a b=false) (hne:a≠b):slt b a=true:=zNp _ _ h (fun e=>hne (toList_inj e))
theorem zG0 {a b:ByteArray}:seq a b=true↔a=b:=by
 unfold seq
 simp only [beq_iff_eq]
 exact ⟨toList_inj,fun e=>by rw [e]⟩
theorem seq_eq (a b:ByteArray):seq a b=decide (a=b):=by
 rw [Bool.eq_iff_iff,zG0]; simp
theorem zS8 (a b c:Int):wP a b c=some (decide (a≥b)&&decide (a≤c)):=by
 unfold wP
 cases decide (a≥b)<;>rfl
theorem zCy (a b:ByteArray):bl (a++b)=bl a++bl b:=by
 unfold bl
 rw [ByteArray.toList_eq,ByteArray.toList_eq,ByteArray.toList_eq]
 simp
theorem wR (s:ByteArray) (i j:Nat):bl (s.extract i j)=((bl s).drop i).take (j-i):=by
 unfold bl
 rw [ByteArray.toList_eq,ByteArray.toList_eq]
 simp [List.map_drop,List.map_take]
theorem zGx {a b:ByteArray}:bl a=bl b↔a=b:=by
 constructor
 ·intro h
  unfold bl at h
  refine toList_inj ?_
  have hinj:∀(x y:List UInt8),x.map (fun b=>(b.toNat:Int))=y.map (fun b=>(b.toNat:Int))→x=y:=by
   intro x
   induction x with
   |nil=>intro y h; cases y<;>simp_all
   |cons u x ih=>
    intro y h
    cases y with
    |nil=>simp at h
    |cons v y=>
     simp only [List.map_cons,List.cons.injEq] at h
     rw [ih y h.2]
     have:u.toNat=v.toNat:=by omega
     rw [UInt8.toNat_inj.1 this]
  exact hinj _ _ h
 ·intro h; rw [h]
theorem zG5 (a b:ByteArray):seq a b=decide (bl a=bl b):=by
 rw [seq_eq]
 simp [zGx]
theorem zMZ {c:Int} (h0:0≤c) (h1:c≤255):bl (b2s [c])=[c]:=by
 unfold bl b2s
 rw [ByteArray.toList_eq]
 simp only [List.foldl_cons,List.foldl_nil]
 show [((UInt8.ofNat c.toNat).toNat :Int)]=[c]
 simp
 omega
theorem wrap_u8 {c:Int} (h0:0≤c) (h1:c≤255):IntKind.u8.wrap c=c:=by
 simp only [IntKind.wrap,IntKind.signed,IntKind.bits]
 simp
 omega
def zHb (n:Nat):List Int:=if n<10 then [48+(n:Int)] else zHb (n / 10)++[48+((n%10:Nat):Int)]
termination_by n
decreasing_by omega
theorem zBY {n:Nat} (h:n<10):zHb n=[48+(n:Int)]:=by rw [zHb,if_pos h]
theorem zFG {n:Nat} (h:¬n<10):zHb n=zHb (n / 10)++[48+((n%10:Nat):Int)]:=by rw [zHb,if_neg h]
theorem zHl:∀(k n:Nat),10^k≤n→n<10^(k+1)→(zHb n).length =k+1
 |0,n,_,h=>by rw [zBY (by simpa using h)]; rfl
 |k+1,n,h1,h2=>by
  have hp:1≤10^k:=Nat.one_le_pow _ _ (by omega)
  rw [Nat.pow_succ] at h1
  rw [Nat.pow_succ] at h2
  rw [zFG (by omega),List.length_append,zHl k (n / 10) (by omega) (by omega)]
  rfl
theorem zIW:∀(k n:Nat),n<10^(k+1)→(zHb n).length ≤k+1
 |0,n,h=>by rw [zBY (by simpa using h)]; simp
 |k+1,n,h=>by
  by_cases hn:n<10
  ·rw [zBY hn]; simp
  ·rw [Nat.pow_succ] at h
   rw [zFG hn,List.length_append]
   have:=zIW k (n / 10) (by omega)
   simp only [List.length_singleton]
   omega
theorem zJ1 (g:Int→Option ByteArray) (a1:Int):uX g a1=if decide (a1<10) then some (b2s [IntKind.u8.wrap (w64 (48+a1))]) else (g (w64 (a1.tdiv 10))).bind fun x3=>(cat x3 (b2s [IntKind.u8.wrap (w64 (48+(a1.tmod 10)))])).bind fun x5=>some x5:=rfl
theorem zHc:∀(k f n:Nat),n<10^(k+1)→k<f→n≤9000000000000000000→k≤100→∃s,zRm uX f (n:Int)=some s∧bl s=zHb n
 |k,0,n,_,hf,_,_=>by omega
 |k,f+1,n,h,hf,hn,hk=>by
  rw [show zRm uX (f+1) (n:Int)=uX (zRm uX f) (n:Int) from rfl,zJ1]
  by_cases h1:n<10
  ·rw [if_pos (by simp; omega),wF (by omega) (by omega),wrap_u8 (by omega) (by omega)]
   exact ⟨_,rfl,by rw [zMZ (by omega) (by omega),zBY h1]⟩
  ·rw [if_neg (by simp; omega)]
   cases k with
   |zero=>simp at h; omega
   |succ k=>
    have e1:w64 ((n:Int).tdiv 10)=((n / 10:Nat):Int):=by
     rw [Int.tdiv_eq_ediv_of_nonneg (by omega),wF (by omega) (by omega)]; omega
    have e2:(n:Int).tmod 10=((n%10:Nat):Int):=by
     rw [Int.tmod_eq_emod_of_nonneg (by omega)]; omega
    rw [Nat.pow_succ] at h
    obtain ⟨s,e,hs⟩:=zHc k f (n / 10) (by omega) (by omega) (by omega) (by omega)
    rw [e1,e2,e,wF (by omega) (by omega),wrap_u8 (by omega) (by omega)]
    have hsz:s.size≤k+1:=by
     rw [←zP,hs]
     exact zIW k (n / 10) (by omega)
    simp only [Option.bind_some]
    unfold cat
    rw [if_pos (by have:(b2s [48+((n%10:Nat):Int)]).size =1:=rfl; omega)]
    exact ⟨_,rfl,by rw [zCy,hs,zMZ (by omega) (by omega),zFG h1]⟩
theorem zHd (n:Nat) (h:n≤9000000000000000000):∃s,vB (n:Int)=some s∧bl s=zHb n:=
 zHc 18 64 n (by omega) (by omega) h (by omega)
theorem zL3 (l:List UInt8):bl (bs l)=l.map (fun b=>(b.toNat:Int)):=by
 unfold bl bs
 rw [ByteArray.toList_eq]
theorem zBn {a b:ByteArray} (h:a.size+b.size≤1099511627776):cat a b=some (a++b):=if_pos h
theorem zGt (a b c:ByteArray):a++b++c=a++(b++c):=zGx.1 (by simp only [zCy,List.append_assoc])
theorem jW (a b:ByteArray):(a++b).size =a.size+b.size:=by
 rw [←zP,zCy,List.length_append,zP,zP]
theorem zGY {n:Nat} (h:n<256):(UInt8.ofNat n).toNat =n:=by
 simp [Nat.mod_eq_of_lt h]
theorem decDigits_eq:∀(n:Nat),(Lib.decDigits n).map (fun b=>(b.toNat:Int))=zHb n:=by
 intro n
 induction n using Nat.strongRecOn with
 |ind n ih=>
  rw [Lib.decDigits]
  by_cases h:n<10
  ·rw [dif_pos h,zBY h]
   simp only [List.map_cons,List.map_nil]
   rw [zGY (by omega)]
   simp
  ·rw [dif_neg h,zFG h,List.map_append,ih (n / 10) (by omega)]
   simp only [List.map_cons,List.map_nil]
   rw [zGY (by omega)]
   simp
def zKR (n:Nat):ByteArray:=⟨(Lib.decDigits n).toArray⟩
theorem zHj (n:Nat):bl (zKR n)=zHb n:=by
 unfold bl zKR
 rw [ByteArray.toList_eq]
 exact decDigits_eq n
theorem zIq (n:Nat) (h:n≤9000000000000000000):vB (n:Int)=some (zKR n):=by
 obtain ⟨s,e,hs⟩:=zHd n h
 rw [e,zGx.1 (hs.trans (zHj n).symm)]
theorem zIa (n:Nat) (h:n≤9000000000000000000):tX (n:Int) 10=some (zKR n):=by
 unfold tX
 rw [if_pos (by omega)]
 unfold Lib.itoa zKR
 rw [if_neg (by omega)]
 simp
def inB (a b c:Int):Bool:=decide (b≤a)&&decide (a≤c)
theorem zNc (a b c:Int):wP a b c=some (inB a b c):=by
 unfold wP inB
 by_cases h:a≥b<;>simp [h]
theorem zLH (a b c:Int):xZ a b c=some (inB a b c):=by
 unfold xZ inB
 by_cases h:b≤a<;>simp [h]
section del
variable {α:Type} (p:α→Bool)
theorem zK0 {xs:List α} {l h:Nat} (h1:l≤h) (h2:h≤xs.length):zHx xs (l:Int) (h:Int)=some ((xs.drop l).take (h-l)):=by
 unfold zHx
 rw [if_pos (by omega)]
 rfl
end del
section del
variable {α:Type} (p:α→Bool)
theorem zQV {xs:List α} {l n:Nat} {a:α} (h:l+n≤xs.length):zPD xs (l:Int) n a=some (xs.take l++List.replicate n a++xs.drop (l+n)):=by
 unfold zPD
 rw [if_pos (by omega)]
 simp [ovr]
end del
section del
variable {α:Type} (p:α→Bool)
theorem zQk {R:Type} (a1:List α) (out:Int→R) {b:Int→Option (Lp Int (Fl R Unit))} (hl:a1.length<9223372036854775807)
  (hstep:∀(i:Nat) (hi:i<a1.length),b (i:Int)=some (if p a1[i] then .done (.ret (out i)) else .go ((i+1:Nat):Int))) (hend:b (a1.length:Int)=some (.done (.nxt ()))):
  ∃t,loop b 0=some t∧((t= .nxt ()∧∀x∈a1,p x=false)∨∃i:Nat,∃hi:i<a1.length,t= .ret (out i)∧p a1[i]=true∧∀x∈a1.take i,p x=false):=by
 refine jF (b:=b) (fun i s=>s=(i:Int)∧∀x∈a1.take i,p x=false) a1.length _ (by
  rintro i s hi ⟨rfl,hn⟩
  have e:=hstep i hi
  cases hp:p a1[i]
  ·rw [hp] at e
   refine .inl ⟨_,e,rfl,fun x hx=>?_⟩
   rw [List.take_succ_eq_append_getElem hi] at hx
   rcases List.mem_append.1 hx with hx|hx
   ·exact hn x hx
   ·simp at hx; rw [hx]; exact hp
  ·rw [hp] at e
   exact .inr ⟨_,e,.inr ⟨i,hi,rfl,hp,hn⟩⟩) (by
  rintro s ⟨rfl,hn⟩
  rw [List.take_length] at hn
  exact ⟨_,hend,.inl ⟨rfl,hn⟩⟩) a1.length 0 0 (by omega) ⟨rfl,by simp⟩
end del
section del
variable {α:Type} (p:α→Bool)
theorem zPV {xs:List α} {i:Nat} {x:α} (h:i<xs.length):(xs.set i x).take (i+1)=xs.take i++[x]:=by
 rw [List.take_succ_eq_append_getElem (by simpa using h),List.take_set_of_le (Nat.le_refl _)]
 simp
end del
section del
variable {α:Type} (p:α→Bool)
theorem set_drop {xs:List α} {i j:Nat} {x:α} (h:i<j):(xs.set i x).drop j=xs.drop j:=by
 rw [List.drop_set_of_lt h]
end del
section del
variable {α:Type} (p:α→Bool)
theorem zOM (a:List α) {b:(List α×Int×Int)→Option (Lp (List α×Int×Int) (List α×Int))} (hl:a.length<9223372036854775807)
  (hstep:∀(xs:List α) (i j:Nat) (hj:j<xs.length),i≤j→xs.length=a.length→xs[j]∈a→b (xs,(i:Int),(j:Int))=some (.go (if p xs[j] then (xs,(i:Int),((j+1:Nat):Int)) else (xs.set i xs[j],((i+1:Nat):Int),((j+1:Nat):Int)))))
  (hend:∀(xs:List α) (i:Nat),xs.length=a.length→b (xs,(i:Int),(xs.length:Int))=some (.done (xs,(i:Int)))) (i0 j0:Nat) (hij:i0≤j0) (hj0:j0≤a.length) (h0:a.take i0=(a.take j0).filter (fun x=> !p x)):
  ∃ys:List α,loop b (a,(i0:Int),(j0:Int))=some (ys,((a.filter (fun x=> !p x)).length :Int))∧ys.length=a.length∧ys.take (a.filter (fun x=> !p x)).length =a.filter (fun x=> !p x):=by
 obtain ⟨t,e,h⟩:=jF (b:=b) (fun j s=>s.1.length=a.length∧s.1.drop j=a.drop j∧s.2.2=(j:Int)∧∃i:Nat,s.2.1=(i:Int)∧i≤j∧s.1.take i=(a.take j).filter (fun x=> !p x)) a.length
  (fun t=>t.1.length=a.length∧∃i:Nat,t.2=(i:Int)∧i≤a.length∧t.1.take i=a.filter (fun x=> !p x)) (by
  rintro j ⟨xs,i',j'⟩ hj ⟨hxl,hxd,hjj,i,hi,hle,ht⟩
  simp only at hxl hxd hjj hi ht
  subst hjj hi
  have hjx:j<xs.length:=by omega
  have hx:xs[j]=a[j]:=by
   have:=congrArg (fun l=>l[0]?) hxd
   simp only [List.getElem?_drop,Nat.add_zero] at this
   rw [List.getElem?_eq_getElem hjx,List.getElem?_eq_getElem hj] at this
   exact Option.some.inj this
  have e:=hstep xs i j hjx hle hxl (by rw [hx]; exact List.getElem_mem hj)
  have htk:(a.take (j+1)).filter (fun x=> !p x)=(a.take j).filter (fun x=> !p x)++(if p a[j] then [] else [a[j]]):=by
   rw [List.take_succ_eq_append_getElem hj,List.filter_append]
   cases h:p a[j]<;>simp [h]
  have hd1:a.drop (j+1)=xs.drop (j+1):=by
   have:=congrArg (List.drop 1) hxd
   simpa [List.drop_drop] using this.symm
  rw [hx] at e
  cases hp:p a[j]
  ·rw [hp] at e htk
   refine .inl ⟨_,e,by simpa using hxl,?_,rfl,i+1,rfl,by omega,?_⟩
   ·show (xs.set i a[j]).drop (j+1)=a.drop (j+1)
    rw [set_drop (by omega),hd1]
   ·show (xs.set i a[j]).take (i+1)=_
    rw [zPV (by omega),htk,ht]
    rfl
  ·rw [hp] at e htk
   refine .inl ⟨_,e,hxl,?_,rfl,i,rfl,by omega,?_⟩
   ·exact hd1.symm
   ·show xs.take i=_
    rw [htk,ht]
    simp) (by
  rintro ⟨xs,i',j'⟩ ⟨hxl,hxd,hjj,i,hi,hle,ht⟩
  simp only at hxl hxd hjj hi ht
  subst hjj hi
  have e:=hend xs i hxl
  rw [hxl] at e
  refine ⟨_,e,hxl,i,rfl,hle,?_⟩
  rw [List.take_length] at ht
  exact ht) (a.length-j0) j0 (a,(i0:Int),(j0:Int)) (by omega) ⟨rfl,rfl,rfl,i0,rfl,hij,h0⟩
 obtain ⟨ys,i'⟩:=t
 obtain ⟨h1,i,h2,h3,h4⟩:=h
 simp only at h1 h2 h4
 subst h2
 have hlen:i=(a.filter (fun x=> !p x)).length :=by rw [←h4]; simp; omega
 subst hlen
 exact ⟨ys,e,h1,h4⟩
end del
section del
variable {α:Type} (p:α→Bool)
theorem zRp {a ys:List α} (zero:α) (h1:ys.length=a.length) (h2:ys.take (a.filter (fun x=> !p x)).length =a.filter (fun x=> !p x)):
  (zHx ys ((a.filter (fun x=> !p x)).length :Int) (ys.length:Int)).bind (fun r=>(zPD ys ((a.filter (fun x=> !p x)).length :Int) r.length zero).bind fun z=>(zHx z 0 ((a.filter (fun x=> !p x)).length :Int)).bind fun q=>some q)=some (a.filter (fun x=> !p x)):=by
 have hle:(a.filter (fun x=> !p x)).length ≤ys.length:=by rw [h1]; exact List.length_filter_le _ _
 rw [zK0 hle (Nat.le_refl _)]
 simp only [Option.bind_some]
 rw [zQV (by simp; omega)]
 simp only [Option.bind_some]
 have:zHx (List.take (List.filter (fun x=> !p x) a).length ys++List.replicate (List.take (ys.length-(List.filter (fun x=> !p x) a).length) (List.drop (List.filter (fun x=> !p x) a).length ys)).length zero++
   List.drop ((List.filter (fun x=> !p x) a).length +(List.take (ys.length-(List.filter (fun x=> !p x) a).length) (List.drop (List.filter (fun x=> !p x) a).length ys)).length) ys) ((0:Nat):Int) ((a.filter (fun x=> !p x)).length :Int)=some (a.filter (fun x=> !p x)):=by
  rw [zK0 (by omega) (by simp; omega)]
  rw [h2]
  simp
 exact (congrArg (fun o=>Option.bind o fun q=>some q) this)
end del
section del
variable {α:Type} (p:α→Bool)
theorem zPh (a:List α) (zero:α) (hl:a.length≤1048577) {b1:Int→Option (Lp Int (Fl Int Unit))} {b2:(List α×Int×Int)→Option (Lp (List α×Int×Int) (List α×Int))}
  (h1:∀(i:Nat) (hi:i<a.length),b1 (i:Int)=some (if p a[i] then .done (.ret (i:Int)) else .go ((i+1:Nat):Int))) (h1e:b1 (a.length:Int)=some (.done (.nxt ())))
  (h2:∀(xs:List α) (i j:Nat) (hj:j<xs.length),i≤j→xs.length=a.length→xs[j]∈a→b2 (xs,(i:Int),(j:Int))=some (.go (if p xs[j] then (xs,(i:Int),((j+1:Nat):Int)) else (xs.set i xs[j],((i+1:Nat):Int),((j+1:Nat):Int)))))
  (h2e:∀(xs:List α) (i:Nat),xs.length=a.length→b2 (xs,(i:Int),(xs.length:Int))=some (.done (xs,(i:Int)))):
  ((loop b1 0).bind (Fl.go some fun _=>some (-1))).bind (fun x4=>if x4==(-1) then (some a) else ((loop b2 (a,x4,w64 (x4+1))).bind fun v26=>(zHx v26.1 v26.2 (v26.1.length:Int)).bind fun x27=>(zPD v26.1 v26.2 x27.length zero).bind fun x29=>(zHx x29 0 v26.2).bind fun x31=>some x31))=some (a.filter (fun x=> !p x)):=by
 obtain ⟨t,e,h⟩:=zQk p a (fun i=>i) (b:=b1) (by omega) h1 h1e
 rw [e]
 rcases h with ⟨rfl,hn⟩|⟨i,hi,rfl,hp,hn⟩
 ·show some a=_
  congr 1
  exact (List.filter_eq_self.2 (fun x hx=>by rw [hn x hx]; rfl)).symm
 ·simp only [Option.bind_some,Fl.go]
  rw [if_neg (by simp),zK (by omega)]
  obtain ⟨ys,e2,h3,h4⟩:=zOM p a (b:=b2) (by omega) h2 h2e i (i+1) (by omega) (by omega) (by
   rw [List.take_succ_eq_append_getElem hi,List.filter_append]
   rw [List.filter_eq_self.2 (fun x hx=>by rw [hn x hx]; rfl)]
   simp [hp])
  rw [e2]
  simp only [Option.bind_some]
  exact zRp p zero h3 h4
end del
def vG {α R:Type} (g:Nat→α→Option R):Nat→List α→Option R
 |_,[]=>none
 |i,x::xs=>match g i x with
  |some r=>some r
  |none=>vG g (i+1) xs
def frs {R:Type}:Option R→Fl R Unit
 |some r=>.ret r
 |none=>.nxt ()
theorem zJE {α R:Type} (xs:List α) (g:Nat→α→Option R) {b:Int→Option (Lp Int (Fl R Unit))}
  (hstep:∀(i:Nat) (hi:i<xs.length),b (i:Int)=some (match g i xs[i] with|some r=>.done (.ret r)|none=>.go ((i+1:Nat):Int))) (hend:b (xs.length:Int)=some (.done (.nxt ()))):
  ∀(k i:Nat),i+k=xs.length→loop b (i:Int)=some (frs (vG g i (xs.drop i)))
 |0,i,h=>by
  have e:i=xs.length:=by omega
  subst e
  rw [vN,hend,List.drop_length]
  rfl
 |k+1,i,h=>by
  have hi:i<xs.length:=by omega
  have ih:=zJE xs g hstep hend k (i+1) (by omega)
  rw [vN,hstep i hi,List.drop_eq_getElem_cons hi]
  simp only [vG]
  cases g i xs[i] with
  |some r=>rfl
  |none=>exact ih
theorem wS {α R:Type} (xs:List α) (g:Nat→α→Option R) {b:Int→Option (Lp Int (Fl R Unit))}
  (hstep:∀(i:Nat) (hi:i<xs.length),b (i:Int)=some (match g i xs[i] with|some r=>.done (.ret r)|none=>.go ((i+1:Nat):Int))) (hend:b (xs.length:Int)=some (.done (.nxt ()))):
  loop b 0=some (frs (vG g 0 xs)):=by
 have:=zJE xs g hstep hend xs.length 0 (by omega)
 simpa using this
theorem zEu {R T:Type} (o:Option R) (f:R→Option T) (h:Unit→Option T):(some (frs o)).bind (Fl.go f h)=match o with|some r=>f r|none=>h ():=by
 cases o<;>rfl
theorem zDV {α:Type} (p:α→Bool):∀(xs:List α) (i:Nat),((vG (fun j x=>if p x then some (j:Int) else none) i xs).getD (-1)≥0)↔xs.any p=true
 |[],i=>by simp [vG]
 |x::xs,i=>by
  simp only [vG]
  cases h:p x
  ·simp only [Bool.false_eq_true,if_false,List.any_cons,h,Bool.false_or]
   exact zDV p xs (i+1)
  ·simp [h]
theorem zHE {α:Type} (p:α→Bool):∀(xs:List α) (i:Nat),(vG (fun _ x=>if p x then some true else none) i xs).getD false=xs.any p
 |[],i=>rfl
 |x::xs,i=>by
  simp only [vG]
  cases h:p x
  ·simp only [Bool.false_eq_true,if_false,List.any_cons,h,Bool.false_or]
   exact zHE p xs (i+1)
  ·simp [h]
def foldI {α A:Type} (f:Nat→A→α→A):Nat→List α→A→A
 |_,[],a=>a
 |i,x::xs,a=>foldI f (i+1) xs (f i a x)
theorem zCI {α A:Type} (xs:List α) (f:Nat→A→α→A) (I:Nat→A→Prop) {b:(A×Int)→Option (Lp (A×Int) A)}
  (hstep:∀(i:Nat) (a:A) (hi:i<xs.length),I i a→b (a,(i:Int))=some (.go (f i a xs[i],((i+1:Nat):Int)))∧I (i+1) (f i a xs[i])) (hend:∀a,b (a,(xs.length:Int))=some (.done a)):
  ∀(k i:Nat) (a:A),i+k=xs.length→I i a→loop b (a,(i:Int))=some (foldI f i (xs.drop i) a)∧I xs.length (foldI f i (xs.drop i) a)
 |0,i,a,h,hI=>by
  have e:i=xs.length:=by omega
  subst e
  rw [vN,hend,List.drop_length]
  exact ⟨rfl,hI⟩
 |k+1,i,a,h,hI=>by
  have hi:i<xs.length:=by omega
  obtain ⟨h1,h2⟩:=hstep i a hi hI
  have ih:=zCI xs f I hstep hend k (i+1) _ (by omega) h2
  rw [vN,h1,List.drop_eq_getElem_cons hi]
  exact ih
theorem zFD {o:Option Int} {b:Bool} (h:(o.getD (-1)≥0)↔b=true):decide (o.getD (-1)≥0)=b:=by
 rw [Bool.eq_iff_iff,decide_eq_true_eq]; exact h
def zM9 (c:Int):Bool:=(decide (c≥97)&&decide (c≤122))||(decide (c≥48)&&decide (c≤57))||c==95
def zMK (c:Int):Bool:=zM9 c||c==46||c==45||c==47
theorem zJr (c:Int):vO c=some (zM9 c):=by
 unfold vO vY uD zM9
 cases decide (c≥97)<;>cases decide (c≤122)<;>cases decide (c≥48)<;>cases decide (c≤57)<;>rfl
theorem zHf (c:Int):zEN c=some (zMK c):=by
 unfold zEN zMK
 rw [zJr]
 cases zM9 c<;>cases (c==46)<;>cases (c==45)<;>cases (c==47)<;>rfl
theorem zH5 (c:Int):wC c=some (zM9 c):=by
 unfold wC zM9
 cases decide (c≥97)<;>cases decide (c≤122)<;>cases decide (c≥48)<;>cases decide (c≤57)<;>rfl
theorem zLZ (s:ByteArray):zB4 s=vT s:=by
 unfold zB4 vT
 have:kW s=tN s:=by
  unfold kW tN
  refine zGM fun i=>?_
  unfold zFc jP
  split
  ·congr 1
   funext c
   rw [zHf,zH5]
   unfold zMK
   simp only [bne]
   cases zM9 c<;>cases (c==46)<;>cases (c==45)<;>cases (c==47)<;>rfl
  ·rfl
 rw [this]
def zJc (s:ByteArray):Prop:=1≤s.size∧s.size≤40∧∀c∈bl s,zMK c=true
theorem zJu (s:ByteArray):(zJc s∧vT s=some 0)∨(¬zJc s∧vT s=some 5):=by
 unfold vT
 by_cases h1:s.size<1
 ·refine .inr ⟨fun h=>by have:=h.1; omega,?_⟩
  rw [if_pos (by simp; omega)]; rfl
 ·rw [if_neg (by simp; omega)]
  simp only [Option.bind_some]
  by_cases h2:s.size>40
  ·refine .inr ⟨fun h=>by have:=h.2.1; omega,?_⟩
   rw [if_pos (by simp; omega)]
  ·rw [if_neg (by simp; omega)]
   obtain ⟨t,e,h⟩:=jF (b:=jP s) (fun i j=>j=(i:Int)∧∀k,(hk:k< (bl s).length)→k<i→zMK (bl s)[k]=true) (bl s).length (fun t=>match t with| .ret r=>r=5∧¬zJc s| .nxt _=>∀c∈bl s,zMK c=true) (by
    rintro i j hi ⟨rfl,hp⟩
    have hs:=zP s
    unfold jP
    rw [if_pos (by simp; omega),zEw hi]
    simp only [Option.bind_some,zHf]
    cases hb:zMK (bl s)[i] with
    |false=>exact .inr ⟨_,rfl,rfl,fun h=>by have:=h.2.2 _ (List.getElem_mem hi); rw [hb] at this; cases this⟩
    |true=>
     rw [zK (by omega)]
     refine .inl ⟨_,rfl,rfl,fun k hk hki=>?_⟩
     rcases Nat.lt_or_ge k i with h|h
     ·exact hp k hk h
     ·have:k=i:=by omega
      subst this; exact hb) (by
    rintro j ⟨rfl,hp⟩
    unfold jP
    rw [if_neg (by simp [zP])]
    refine ⟨_,rfl,fun c hc=>?_⟩
    obtain ⟨k,hk,rfl⟩:=List.getElem_of_mem hc
    exact hp k hk hk) (bl s).length 0 0 (by omega) ⟨rfl,fun k _ h=>by omega⟩
   simp only [tN,e,Option.bind_some]
   cases t with
   |ret r=>
    obtain ⟨rfl,h⟩:=h
    exact .inr ⟨h,rfl⟩
   |nxt u=>exact .inl ⟨⟨by omega,by omega,h⟩,rfl⟩
theorem zJy (s:ByteArray):∃r,vT s=some r∧(r=0↔zJc s):=by
 rcases zJu s with ⟨h1,h2⟩|⟨h1,h2⟩
 ·exact ⟨0,h2,by simp [h1]⟩
 ·exact ⟨5,h2,by simp [h1]⟩
def total (fs:List File):Int:=match fs with
 |[]=>0
 |f::fs=>f.Data.length+total fs
theorem zG4:∀(l r:List File),total (l++r)=total l+total r
 |[],r=>by simp [total]
 |f::l,r=>by simp only [List.cons_append,total,zG4 l r]; omega
theorem zGA:∀(l:List File),0≤total l
 |[]=>Int.le_refl _
 |f::l=>by have:=zGA l; simp only [total]; omega
theorem zNi:∀(l:List File) (C:Int),0≤C→(∀f∈l,(f.Data.length:Int)≤C)→total l≤l.length*C
 |[],C,_,_=>by simp [total]
 |f::l,C,hC,h=>by
  have h1:=h f (by simp)
  have h2:=zNi l C hC (fun g hg=>h g (by simp [hg]))
  simp only [total,List.length_cons,Int.natCast_add,Int.add_mul]
  omega
theorem zNR (d:zD) (h:d.Files.length≤1048576) (hf:∀f∈d.Files,f.Data.length≤1048576):zDL d=some (total d.Files):=by
 have htot:=zNi d.Files 1048576 (by omega) (fun f hm=>by have:=hf f hm; omega)
 have hb:((d.Files.length:Int))*1048576≤1048576*1048576:=Int.mul_le_mul_of_nonneg_right (by omega) (by omega)
 obtain ⟨t,e,rfl⟩:=jF (b:=zCv d) (fun i s=>s=(total (d.Files.take i),(i:Int))) d.Files.length (fun t=>t=total d.Files) (by
  rintro i s hi rfl
  unfold zCv
  rw [if_pos (by simp; omega)]
  have hsplit:total (d.Files.take (i+1))=total (d.Files.take i)+d.Files[i].Data.length :=by
   rw [List.take_succ_eq_append_getElem hi,zG4]
   simp [total]
  have hle:total d.Files=total (d.Files.take (i+1))+total (d.Files.drop (i+1)):=by rw [←zG4,List.take_append_drop]
  have h1:=zGA (d.Files.take i)
  have h2:=zGA (d.Files.drop (i+1))
  simp only [zL hi,Option.bind_some]
  rw [wF (by omega) (by omega),zK (by omega)]
  exact .inl ⟨_,rfl,by rw [hsplit]⟩) (by
  rintro s rfl
  unfold zCv
  rw [if_neg (by simp)]
  exact ⟨_,rfl,by simp⟩) d.Files.length 0 (0,0) (by omega) (by simp [total])
 simp only [zDL,zDv,e,Option.bind_some]
structure zD.good (d:zD):Prop where
 b0:0≤d.Budget
 b1:d.Budget≤20000
 w0:0≤d.Writes
 w1:d.Writes≤1000000000
 s0: -1≤d.Stop
 s1:d.Stop≤1000000000
 len:d.Files.length≤120
 path:∀f∈d.Files,zJc f.Path
 data:∀f∈d.Files,f.Data.length≤4000
 sorted:d.Files.Pairwise (fun f g=>slt f.Path g.Path=true)
 room:total d.Files≤d.Budget
theorem zGX (d:zD):jB d=vC d:=by
 unfold jB vC
 have:zAk d=tT d:=by
  unfold zAk tT
  refine zGM fun i=>?_
  unfold zFf jS
  split
  ·cases hx:idx d.Files i with
   |none=>rfl
   |some x=>simp only [Option.bind_some,zLZ]
  ·rfl
 rw [this]
 rfl
theorem zO5 {xs:List File} (h:∀i,(hi:i+1<xs.length)→slt xs[i].Path xs[i+1].Path =true):xs.Pairwise (fun f g=>slt f.Path g.Path=true):=by
 induction xs with
 |nil=>exact .nil
 |cons x xs ih=>
  have h':∀i,(hi:i+1<xs.length)→slt xs[i].Path xs[i+1].Path =true:=fun i hi=>h (i+1) (by simp; omega)
  have ih':=ih h'
  refine .cons ?_ ih'
  cases xs with
  |nil=>simp
  |cons y ys=>
   have hxy:slt x.Path y.Path=true:=by simpa using h 0 (by simp)
   intro z hz
   rcases List.mem_cons.1 hz with rfl|hz
   ·exact hxy
   ·exact zJa hxy ((List.pairwise_cons.1 ih').1 z hz)
theorem zHa (d:zD) (h:d.Files.length≤1048576):∃c,vC d=some c∧(c=0→d.good):=by
 unfold vC
 simp only [zS8,Option.bind_some]
 by_cases hB:0≤d.Budget∧d.Budget≤20000
 ·by_cases hW:0≤d.Writes∧d.Writes≤1000000000
  ·by_cases hS: -1≤d.Stop∧d.Stop≤1000000000
   ·simp [hB.1,hB.2,hW.1,hW.2,hS.1,hS.2]
    by_cases hl:120<d.Files.length
    ·rw [if_pos (by omega)]
     exact ⟨2,rfl,by simp⟩
    ·rw [if_neg (by omega)]
     obtain ⟨t,e,ht⟩:=jF (b:=jS d) (fun i s=>s=(i:Int)∧(∀j,(hj:j<d.Files.length)→j<i→zJc d.Files[j].Path ∧d.Files[j].Data.length ≤4000)∧∀j,(hj:j+1<d.Files.length)→j+1<i→slt d.Files[j].Path d.Files[j+1].Path =true) d.Files.length
      (fun t=>match t with| .ret r=>r≠0| .nxt _=>(∀f∈d.Files,zJc f.Path∧f.Data.length≤4000)∧d.Files.Pairwise (fun f g=>slt f.Path g.Path=true)) (by
      rintro i s hi ⟨rfl,h1,h2⟩
      unfold jS
      rw [if_pos (by simp; omega)]
      obtain ⟨r,hr,hr2⟩:=zJy d.Files[i].Path
      simp only [zL hi,Option.bind_some,hr]
      by_cases hr0:r=0
      ·subst hr0
       rw [if_neg (by simp)]
       have key:∃q,(if decide ((i:Int)>0) then (idx d.Files (w64 ((i:Int)-1))).bind fun x39=>some (slt d.Files[i].Path x39.Path||seq d.Files[i].Path x39.Path) else some false)=some q∧(q=false→∀j,(hj:j+1<d.Files.length)→j+1<i+1→slt d.Files[j].Path d.Files[j+1].Path =true):=by
        by_cases hp:i=0
        ·subst hp
         exact ⟨false,by simp,fun _ j hj hji=>by omega⟩
        ·rw [if_pos (by simp; omega),wF (by omega) (by omega),show ((i:Int)-1)=((i-1:Nat):Int) by omega,zL (show i-1<d.Files.length by omega)]
         refine ⟨_,rfl,fun hq j hj hji=>?_⟩
         rcases Nat.lt_or_ge (j+1) i with hlt|hge
         ·exact h2 j hj hlt
         ·have hj1:j+1=i:=by omega
          subst hj1
          simp only [Bool.or_eq_false_iff] at hq
          have hq1:=hq.1
          have hq2:d.Files[j+1].Path ≠d.Files[j].Path :=fun e=>by
           have:=hq.2
           simp only [Nat.add_sub_cancel] at this
           rw [e] at this
           simp at this
          simp only [Nat.add_sub_cancel] at hq1
          exact zRi hq1 hq2
       obtain ⟨q,hq,hq2⟩:=key
       rw [hq]
       simp only [Option.bind_some]
       cases q with
       |true=>exact .inr ⟨_,rfl,by simp⟩
       |false=>
        by_cases hd:(d.Files[i].Data.length :Int)>4000
        ·exact .inr ⟨.ret 2,by rw [if_neg (by simp),if_pos (by simpa using hd)],by simp⟩
        ·refine .inl ⟨((i+1:Nat):Int),?_,rfl,fun j hj hji=>?_,hq2 rfl⟩
         ·rw [if_neg (by simp),if_neg (by simpa using hd),zK (by omega)]
         ·rcases Nat.lt_or_ge j i with h'|h'
          ·exact h1 j hj h'
          ·have:j=i:=by omega
           subst this
           exact ⟨hr2.1 rfl,by omega⟩
      ·rw [if_pos (by simpa using hr0)]
       exact .inr ⟨_,rfl,hr0⟩) (by
      rintro s ⟨rfl,h1,h2⟩
      unfold jS
      rw [if_neg (by simp)]
      refine ⟨_,rfl,fun f hf=>?_,zO5 (fun i hi=>h2 i hi hi)⟩
      obtain ⟨j,hj,rfl⟩:=List.getElem_of_mem hf
      exact h1 j hj hj) d.Files.length 0 0 (by omega) ⟨rfl,fun j _ h=>by omega,fun j _ h=>by omega⟩
     simp only [tT,e,Option.bind_some]
     cases t with
     |ret r=>exact ⟨r,rfl,fun h=>absurd h ht⟩
     |nxt u=>
      simp only [Fl.go]
      rw [zNR d h (fun f hf=>by have:=(ht.1 f hf).2; omega)]
      simp only [Option.bind_some]
      by_cases hr:d.Budget<total d.Files
      ·rw [if_pos hr]
       exact ⟨8,rfl,by simp⟩
      ·rw [if_neg hr]
       exact ⟨0,rfl,fun _=>⟨hB.1,hB.2,hW.1,hW.2,hS.1,hS.2,by omega,fun f hf=>(ht.1 f hf).1,fun f hf=>(ht.1 f hf).2,ht.2,by omega⟩⟩
   ·refine ⟨3,?_,by simp⟩
    simp [hB.1,hB.2,hW.1,hW.2]
    intro a b
    exact absurd ⟨a,b⟩ hS
  ·refine ⟨3,?_,by simp⟩
   simp [hB.1,hB.2]
   rw [if_pos (by omega)]
   rfl
 ·refine ⟨3,?_,by simp⟩
  rw [if_pos (by simp; omega)]
  rfl
def zD.fits (d:zD):Prop:=d.Files.length≤1048576∧∀f∈d.Files,f.Data.length≤1048576
theorem zD.zOO {d:zD} (h:zD.sm 1048576 d):d.fits:=⟨h.1.1,fun f hf=>(h.1.2 f hf).2.1⟩
theorem zLF (d:zD) (h:d.fits):zCr d=some d:=by
 obtain ⟨h1,h2⟩:=h
 obtain ⟨t,e,rfl⟩:=jF (b:=zBO d) (fun i s=>s=(d.Files.take i,(i:Int))) d.Files.length (fun t=>t=d.Files) (by
  rintro i s hi rfl
  have hl:(d.Files.take i).length =i:=by simp; omega
  have hd:=h2 _ (List.getElem_mem hi)
  have ha:app 1 ([]:List Int) d.Files[i].Data =some d.Files[i].Data :=jN (by simp; omega) (by simp; omega)
  have hb:∀f:File,app 40 (d.Files.take i) [f]=some (d.Files.take i++[f]):=fun f=>jN (by simp; omega) (by simp; omega)
  unfold zBO
  rw [if_pos (by simp; omega)]
  simp only [zL hi,Option.bind_some,ha,hb,zK (show i<9223372036854775807 by omega)]
  exact .inl ⟨_,rfl,by rw [List.take_succ_eq_append_getElem hi]⟩) (by
  rintro s rfl
  unfold zBO
  rw [if_neg (by simp)]
  exact ⟨_,rfl,by simp⟩) d.Files.length 0 ([],0) (by omega) (by simp)
 simp only [zCr,zBw,e,Option.bind_some]
theorem zNQ (d:zD):uT d=zCr d:=by
 have:tL d=zBw d:=by
  unfold tL zBw
  refine zGM fun s=>?_
  unfold zEd zBO jR
  split
  ·cases h:idx d.Files s.2 with
   |none=>rfl
   |some x=>
    simp only [Option.bind_some]
    cases h2:app 1 ([]:List Int) x.Data<;>rfl
  ·rfl
 unfold uT zCr
 rw [this]
theorem zPj (d:zD) (h:d.fits):uT d=some d:=by rw [zNQ,zLF d h]
theorem zOA (s p:ByteArray):strings_HasPrefix s p=kN s p:=by
 unfold strings_HasPrefix yL kN
 split
 ·cases zFS s 0 (p.size:Int)<;>rfl
 ·rfl
def begins (s p:ByteArray):Bool:=decide (p.size≤s.size)&&seq (s.extract 0 p.size) p
theorem zMR (s p:ByteArray):kN s p=some (begins s p):=by
 unfold kN begins
 by_cases h:p.size≤s.size
 ·rw [if_pos (by simp; omega)]
  unfold zFS
  rw [if_pos (by omega)]
  simp [h]
 ·rw [if_neg (by simp; omega)]
  simp [h]
theorem zOa (d:zD) (p:ByteArray):zAq d p=zBj d p:=by
 have:jT d p=zAn d p:=by
  unfold jT zAn
  refine zGM fun s=>?_
  unfold zE7 zAG
  split
  ·cases h:idx d.Files s.2 with
   |none=>rfl
   |some x=>simp only [Option.bind_some,zOA]
  ·rfl
 unfold zAq zBj
 rw [this]
def kJ (fs:List File) (p:ByteArray):List ByteArray:=(fs.filter (fun f=>begins f.Path p)).map (·.Path)
theorem zJt (l r:List File) (p:ByteArray):kJ (l++r) p=kJ l p++kJ r p:=by
 simp [kJ]
theorem zFz (l:List File) (p:ByteArray):(kJ l p).length ≤l.length:=by
 simp only [kJ,List.length_map]
 exact List.length_filter_le _ _
theorem zJQ (d:zD) (p:ByteArray) (h:d.Files.length≤1048576):zBj d p=some (kJ d.Files p):=by
 obtain ⟨t,e,rfl⟩:=jF (b:=zAG d p) (fun i s=>s=(kJ (d.Files.take i) p,(i:Int))) d.Files.length (fun t=>t=kJ d.Files p) (by
  rintro i s hi rfl
  unfold zAG
  rw [if_pos (by simp; omega)]
  have hl:=zFz (d.Files.take i) p
  have hl2:(d.Files.take i).length ≤i:=by simp; omega
  have ha:∀x:ByteArray,app 16 (kJ (d.Files.take i) p) [x]=some (kJ (d.Files.take i) p++[x]):=fun x=>jN (by simp; omega) (by simp; omega)
  have hsplit:kJ (d.Files.take (i+1)) p=kJ (d.Files.take i) p++kJ [d.Files[i]] p:=by
   rw [List.take_succ_eq_append_getElem hi,zJt]
  simp only [zL hi,Option.bind_some,zMR,ha,zK (show i<9223372036854775807 by omega)]
  cases hb:begins d.Files[i].Path p with
  |true=>exact .inl ⟨_,rfl,by rw [hsplit]; simp [kJ,hb]⟩
  |false=>exact .inl ⟨_,rfl,by rw [hsplit]; simp [kJ,hb]⟩) (by
  rintro s rfl
  unfold zAG
  rw [if_neg (by simp)]
  exact ⟨_,rfl,by simp⟩) d.Files.length 0 ([],0) (by omega) (by simp [kJ])
 simp only [zBj,zAn,e,Option.bind_some]
theorem zKF:∀(a b:List UInt8),(Lib.compareBytes a b<0↔Op.bytesLess a b=true)∧(Lib.compareBytes a b=0↔a=b)
 |[],[]=>by simp [Lib.compareBytes,Op.bytesLess]
 |[],_::_=>by simp [Lib.compareBytes,Op.bytesLess]
 |_::_,[]=>by simp [Lib.compareBytes,Op.bytesLess]
 |x::a,y::b=>by
  obtain ⟨ih1,ih2⟩:=zKF a b
  simp only [Lib.compareBytes,Op.bytesLess]
  by_cases h1:x<y
  ·simp [h1]
   intro e; subst e; exact absurd h1 (by simp [UInt8.lt_irrefl])
  ·by_cases h2:y<x
   ·simp [h1,h2]
    have hne:x≠y:=fun e=>by subst e; exact absurd h2 (by simp [UInt8.lt_irrefl])
    simp [hne]
   ·have e:x=y:=by
     rw [UInt8.lt_iff_toNat_lt] at h1 h2
     exact UInt8.toNat_inj.1 (by omega)
    subst e
    simp [UInt8.lt_irrefl,ih1,ih2]
theorem zPA (a b:ByteArray):zQH a b<0↔slt a b=true:=by
 unfold zQH slt
 rw [ByteArray.toList_eq,ByteArray.toList_eq]
 exact (zKF _ _).1
theorem zO8 (a b:ByteArray):zQH a b=0↔a=b:=by
 unfold zQH
 rw [(zKF _ _).2,←ByteArray.toList_eq,←ByteArray.toList_eq]
 exact ⟨toList_inj,fun e=>by rw [e]⟩
theorem zRw {i j:Int} (h0:0≤i) (h1:i≤j) (h2:j≤4611686018427387903):w64 ((IntKind.u64.wrap (w64 (i+j))).fdiv (2^(min (1:Int).toNat 64)))=(i+j) / 2:=by
 rw [wF (x:=i+j) (by omega) (by omega)]
 have e1:IntKind.u64.wrap (i+j)=i+j:=by
  simp only [IntKind.wrap,IntKind.signed,IntKind.bits]
  simp
  omega
 rw [e1]
 have e2:((2:Int)^(min (1:Int).toNat 64))=2:=by decide
 rw [e2,Int.fdiv_eq_ediv_of_nonneg _ (by omega)]
 exact wF (by omega) (by omega)
theorem zJS (f:File) (p:ByteArray):uF f p=some (zQH f.Path p):=rfl
theorem zNK (fs:List File) (p:ByteArray) (h:fs.length≤1048576):
  ∃(k:Nat) (b:Bool),zJ fs p=some ((k:Int),b)∧k≤fs.length∧(b=true→∃hk:k<fs.length,fs[k].Path =p)∧
   (fs.Pairwise (fun f g=>slt f.Path g.Path=true)→(∀i,(hi:i<fs.length)→i<k→slt fs[i].Path p=true)∧(∀i,(hi:i<fs.length)→k≤i→slt fs[i].Path p=false)∧(b=false→∀f∈fs,f.Path≠p)):=by
 obtain ⟨t,e,k,rfl,hk,hs⟩:=zLE (b:=yT fs p)
  (fun s=>∃i j:Nat,s=((i:Int),(j:Int))∧i≤j∧j≤fs.length∧(fs.Pairwise (fun f g=>slt f.Path g.Path=true)→(∀q,(hq:q<fs.length)→q<i→slt fs[q].Path p=true)∧(∀q,(hq:q<fs.length)→j≤q→slt fs[q].Path p=false)))
  (fun s=>(s.2-s.1).toNat)
  (fun t=>∃k:Nat,t=(k:Int)∧k≤fs.length∧(fs.Pairwise (fun f g=>slt f.Path g.Path=true)→(∀q,(hq:q<fs.length)→q<k→slt fs[q].Path p=true)∧(∀q,(hq:q<fs.length)→k≤q→slt fs[q].Path p=false))) (by
  rintro s ⟨i,j,rfl,hij,hj,hP⟩
  unfold yT
  by_cases hlt:i<j
  ·left
   rw [if_pos (by simp; omega)]
   simp only
   rw [zRw (by omega) (by omega) (by omega)]
   have hm:(((i:Int)+(j:Int)) / 2)=(((i+j) / 2:Nat):Int):=by omega
   rw [hm]
   have hmj:(i+j) / 2<j:=by omega
   have him:i≤(i+j) / 2:=by omega
   generalize (i+j) / 2=m at*
   have hmn:m<fs.length:=by omega
   simp only [zL hmn,Option.bind_some,zJS]
   by_cases hc:zQH fs[m].Path p<0
   ·rw [if_pos (by simpa using hc),zK (by omega)]
    refine ⟨_,rfl,⟨m+1,j,rfl,by omega,hj,fun hso=>?_⟩,by simp; omega⟩
    obtain ⟨g1,g2⟩:=hP hso
    refine ⟨fun q hq hqm=>?_,g2⟩
    have hl:=(zPA _ _).1 hc
    rcases Nat.lt_or_ge q m with h'|h'
    ·exact zJa (List.pairwise_iff_getElem.1 hso q m hq hmn h') hl
    ·have:q=m:=by omega
     subst this; exact hl
   ·rw [if_neg (by simpa using hc)]
    refine ⟨_,rfl,⟨i,m,rfl,by omega,by omega,fun hso=>?_⟩,by simp; omega⟩
    obtain ⟨g1,g2⟩:=hP hso
    refine ⟨g1,fun q hq hmq=>?_⟩
    have hl:slt fs[m].Path p=false:=by
     cases h':slt fs[m].Path p with
     |false=>rfl
     |true=>exact absurd ((zPA _ _).2 h') hc
    rcases Nat.lt_or_ge m q with h'|h'
    ·cases hq2:slt fs[q].Path p with
     |false=>rfl
     |true=>
      have:=zJa (List.pairwise_iff_getElem.1 hso m q hmn hq h') hq2
      rw [hl] at this; cases this
    ·have:q=m:=by omega
     subst this; exact hl
  ·right
   rw [if_neg (by simp; omega)]
   have:i=j:=by omega
   subst this
   exact ⟨_,rfl,i,rfl,by omega,hP⟩) fs.length (0,(fs.length:Int)) (by simp) ⟨0,fs.length,rfl,by omega,by omega,fun _=>⟨fun q _ h=>by omega,fun q hq h=>by omega⟩⟩
 unfold zJ
 rw [show zY fs p (0,(fs.length:Int))=some (k:Int) from e]
 simp only [Option.bind_some]
 by_cases hkn:k<fs.length
 ·rw [if_pos (by simpa using hkn)]
  simp only [zL hkn,Option.bind_some,zJS]
  refine ⟨k,_,rfl,hk,fun hb=>⟨hkn,(zO8 _ _).1 (by simpa using hb)⟩,fun hso=>⟨(hs hso).1,(hs hso).2,fun hb f hf hfp=>?_⟩⟩
  have hne:zQH fs[k].Path p≠0:=by simpa using hb
  obtain ⟨q,hq,rfl⟩:=List.getElem_of_mem hf
  rcases Nat.lt_trichotomy q k with h'|h'|h'
  ·have:=(hs hso).1 q hq h'
   rw [hfp,zGJ] at this; cases this
  ·subst h'; exact hne ((zO8 _ _).2 hfp)
  ·have h1:=List.pairwise_iff_getElem.1 hso k q hkn hq h'
   have h2:=(hs hso).2 k hkn (Nat.le_refl _)
   rw [hfp] at h1
   rw [h1] at h2; cases h2
 ·rw [if_neg (by simpa using hkn)]
  refine ⟨k,false,rfl,hk,(fun hb=>by cases hb),fun hso=>⟨(hs hso).1,(hs hso).2,fun _ f hf hfp=>?_⟩⟩
  obtain ⟨q,hq,rfl⟩:=List.getElem_of_mem hf
  have:=(hs hso).1 q hq (by omega)
  rw [hfp,zGJ] at this; cases this
theorem zMk (d:zD) (p:ByteArray) (h:d.Files.length≤1048576):
  (∃k:Nat,∃hk:k<d.Files.length,wQ d p=some (k:Int)∧d.Files[k].Path =p)∨(wQ d p=some (-1)∧∀f∈d.Files,f.Path≠p):=by
 obtain ⟨t,e,ht⟩:=jF (b:=zDF d p) (fun i s=>s=(i:Int)∧∀q,(hq:q<d.Files.length)→q<i→d.Files[q].Path ≠p) d.Files.length
  (fun t=>match t with| .ret r=>∃k:Nat,∃hk:k<d.Files.length,r=(k:Int)∧d.Files[k].Path =p| .nxt _=>∀f∈d.Files,f.Path≠p) (by
  rintro i s hi ⟨rfl,hq⟩
  unfold zDF
  rw [if_pos (by simp; omega)]
  simp only [zL hi,Option.bind_some]
  by_cases hp:d.Files[i].Path =p
  ·rw [if_pos (zG0.2 hp)]
   exact .inr ⟨_,rfl,i,hi,rfl,hp⟩
  ·rw [if_neg (fun h'=>hp (zG0.1 h')),zK (by omega)]
   refine .inl ⟨_,rfl,rfl,fun q hq' hqi=>?_⟩
   rcases Nat.lt_or_ge q i with h'|h'
   ·exact hq q hq' h'
   ·have:q=i:=by omega
    subst this; exact hp) (by
  rintro s ⟨rfl,hq⟩
  unfold zDF
  rw [if_neg (by simp)]
  refine ⟨_,rfl,fun f hf=>?_⟩
  obtain ⟨q,hq',rfl⟩:=List.getElem_of_mem hf
  exact hq q hq' hq') d.Files.length 0 0 (by omega) ⟨rfl,fun q _ h=>by omega⟩
 unfold wQ
 rw [show zEl d p 0=some t from e]
 cases t with
 |ret r=>
  obtain ⟨k,hk,rfl,hp⟩:=ht
  exact .inl ⟨k,hk,rfl,hp⟩
 |nxt _=>exact .inr ⟨rfl,ht⟩
theorem zJK {fs:List File} (hs:fs.Pairwise (fun f g=>slt f.Path g.Path=true)) {i j:Nat} (hi:i<fs.length) (hj:j<fs.length) (h:fs[i].Path =fs[j].Path):i=j:=by
 rcases Nat.lt_trichotomy i j with h'|h'|h'
 ·have:=List.pairwise_iff_getElem.1 hs i j hi hj h'
  rw [h,zGJ] at this; cases this
 ·exact h'
 ·have:=List.pairwise_iff_getElem.1 hs j i hj hi h'
  rw [h,zGJ] at this; cases this
theorem zPb (d:zD) (p:ByteArray) (hg:d.good):
  (∃k:Nat,∃hk:k<d.Files.length,wQ d p=some (k:Int)∧zJ d.Files p=some ((k:Int),true)∧d.Files[k].Path =p)∨
   (wQ d p=some (-1)∧(∀f∈d.Files,f.Path≠p)∧∃k:Nat,zJ d.Files p=some ((k:Int),false)∧k≤d.Files.length∧(∀i,(hi:i<d.Files.length)→i<k→slt d.Files[i].Path p=true)∧(∀i,(hi:i<d.Files.length)→k≤i→slt d.Files[i].Path p=false)):=by
 have hl:d.Files.length≤1048576:=by have:=hg.len; omega
 obtain ⟨k,b,e,hk,h1,h2⟩:=zNK d.Files p hl
 obtain ⟨g1,g2,g3⟩:=h2 hg.sorted
 rcases zMk d p hl with ⟨q,hq,e2,hp⟩|⟨e2,hp⟩
 ·left
  cases b with
  |false=>exact absurd hp (g3 rfl _ (List.getElem_mem hq))
  |true=>
   obtain ⟨hk',hp'⟩:=h1 rfl
   have:q=k:=zJK hg.sorted hq hk' (by rw [hp,hp'])
   subst this
   exact ⟨q,hq,e2,e,hp⟩
 ·right
  cases b with
  |true=>
   obtain ⟨hk',hp'⟩:=h1 rfl
   exact absurd hp' (hp _ (List.getElem_mem hk'))
  |false=>exact ⟨e2,hp,k,e,hk,g1,g2⟩
theorem zLw (d:zD) (p:ByteArray) (hg:d.good):
  (∃k:Nat,∃hk:k<d.Files.length,wQ d p=some (k:Int)∧xY d p=some (d.Files[k].Data,true)∧d.Files[k].Path =p)∨
   (wQ d p=some (-1)∧xY d p=some ([],false)∧∀f∈d.Files,f.Path≠p):=by
 rcases zPb d p hg with ⟨k,hk,e1,e2,hp⟩|⟨e1,hp,k,e2,_⟩
 ·left
  refine ⟨k,hk,e1,?_,hp⟩
  unfold xY zA2
  rw [e2]
  simp only [Option.bind_some,Bool.not_true,Bool.false_eq_true,if_false,zL hk]
 ·right
  refine ⟨e1,?_,hp⟩
  unfold xY zA2
  rw [e2]
  rfl
theorem zKt {P:List Int→Prop} (h0:P []) (h1:∀l c,P l→P (l++[c])) (l:List Int):P l:=by
 have key:∀m:List Int,P m.reverse:=by
  intro m
  induction m with
  |nil=>exact h0
  |cons c m ih=>rw [List.reverse_cons]; exact h1 _ c ih
 have:=key l.reverse
 rwa [List.reverse_reverse] at this
def zIl (c:Int):Bool:=decide (c≥48)&&decide (c≤57)
def val (l:List Int):Int:=l.foldl (fun a c=>a*10+(c-48)) 0
theorem zIw (l:List Int) (c:Int):val (l++[c])=val l*10+(c-48):=by simp [val]
theorem zGg {l:List Int} (h:∀c∈l,zIl c=true):0≤val l∧val l<10^l.length:=by
 revert h
 refine zKt (P:=fun l=>(∀c∈l,zIl c=true)→0≤val l∧val l<10^l.length) ?_ ?_ l
 ·intro _; simp [val]
 ·intro l c ih h
  obtain ⟨h1,h2⟩:=ih (fun x hx=>h x (by simp [hx]))
  have hc:=h c (by simp)
  simp only [zIl,Bool.and_eq_true,decide_eq_true_eq] at hc
  rw [zIw,List.length_append,List.length_singleton,Int.pow_succ]
  omega
def zJH (l:List Int) (most:Int):Option Int:=if l.length<1∨(l.length:Int)>most∨¬(∀c∈l,zIl c=true) then none else some (val l)
theorem zNz {n:Nat} (h:n≤17):(10:Int)^n≤100000000000000000:=by
 have:(10:Nat)^n≤10^17:=Nat.pow_le_pow_right (by omega) h
 have e:((10^n:Nat):Int)=(10:Int)^n:=by simp
 rw [←e]
 omega
theorem zIN (c:Int):uD c=some (zIl c):=by
 unfold uD zIl
 cases decide (c≥48)<;>rfl
theorem zHt (s:ByteArray) (most:Int) (hm:most≤17):uN s most=some (match zJH (bl s) most with|some n=>(n,true)|none=>(0,false)):=by
 unfold uN zJH
 have hl:=zP s
 by_cases h1:s.size<1
 ·rw [if_pos (by simp; omega),if_pos (by omega)]
  rfl
 ·rw [if_neg (by simp; omega)]
  simp only [Option.bind_some]
  by_cases h2:(s.size:Int)>most
  ·rw [if_pos (by simpa using h2),if_pos (by omega)]
  ·rw [if_neg (by simpa using h2)]
   obtain ⟨t,e,ht⟩:=jF (b:=zBJ s) (fun i q=>q=(val ((bl s).take i),(i:Int))∧∀c∈(bl s).take i,zIl c=true) (bl s).length
    (fun t=>match t with| .ret r=>r=(0,false)∧¬ ∀c∈bl s,zIl c=true| .nxt v=>v=val (bl s)∧∀c∈bl s,zIl c=true) (by
    rintro i q hi ⟨rfl,hd⟩
    have hb:=zGg hd
    have hlen:((bl s).take i).length ≤17:=by simp; omega
    have hp:=zNz hlen
    have hr:=zIx _ (List.getElem_mem hi)
    unfold zBJ
    rw [if_pos (by simp; omega)]
    simp only [zEw hi,Option.bind_some,zIN]
    cases hc:zIl (bl s)[i] with
    |false=>exact .inr ⟨_,rfl,rfl,fun h=>by have:=h _ (List.getElem_mem hi); rw [hc] at this; cases this⟩
    |true=>
     have hc':=hc
     simp only [zIl,Bool.and_eq_true,decide_eq_true_eq] at hc'
     rw [wrap_u8 (by omega) (by omega),wF (x:=(bl s)[i]-48) (by omega) (by omega),wF (x:=val ((bl s).take i)*10) (by omega) (by omega),wF (by omega) (by omega),zK (by omega)]
     refine .inl ⟨_,rfl,by rw [List.take_succ_eq_append_getElem hi,zIw],fun c hcm=>?_⟩
     rw [List.take_succ_eq_append_getElem hi] at hcm
     rcases List.mem_append.1 hcm with h|h
     ·exact hd c h
     ·simp at h; rw [h]; exact hc) (by
    rintro q ⟨rfl,hd⟩
    unfold zBJ
    rw [if_neg (by simp; omega)]
    rw [List.take_length] at hd ⊢
    exact ⟨_,rfl,rfl,hd⟩) (bl s).length 0 (0,0) (by omega) ⟨by simp [val],by simp⟩
   unfold zCH
   rw [e]
   cases t with
   |ret r=>
    obtain ⟨rfl,h⟩:=ht
    rw [if_pos (.inr (.inr h))]
    rfl
   |nxt v=>
    obtain ⟨rfl,h⟩:=ht
    rw [if_neg (fun h'=>by rcases h' with h'|h'|h'<;>first|omega|exact h' h)]
    rfl
theorem number_eq (s:ByteArray) (most:Int) (hm:most≤17):zA9 s most=some (match zJH (bl s) most with|some n=>n|none=> -1):=by
 unfold zA9 zJH
 have hl:=zP s
 have he:seq s (bs [])=decide (s.size<1):=by
  rw [zG5,zL3,List.map_nil]
  rw [Bool.eq_iff_iff]
  simp only [decide_eq_true_eq]
  constructor
  ·intro h; rw [h] at hl; simp at hl; omega
  ·intro h; exact List.eq_nil_of_length_eq_zero (by omega)
 rw [he]
 by_cases h1:s.size<1
 ·rw [if_pos (by simpa using h1),if_pos (by omega)]
  rfl
 ·rw [if_neg (by simpa using h1)]
  simp only [Option.bind_some]
  by_cases h2:(s.size:Int)>most
  ·rw [if_pos (by simpa using h2),if_pos (by omega)]
  ·rw [if_neg (by simpa using h2)]
   obtain ⟨t,e,ht⟩:=jF (b:=zCV s) (fun i q=>q=(val ((bl s).take i),(i:Int))∧∀c∈(bl s).take i,zIl c=true) (bl s).length
    (fun t=>match t with| .ret r=>r= -1∧¬ ∀c∈bl s,zIl c=true| .nxt v=>v=val (bl s)∧∀c∈bl s,zIl c=true) (by
    rintro i q hi ⟨rfl,hd⟩
    have hb:=zGg hd
    have hlen:((bl s).take i).length ≤17:=by simp; omega
    have hp:=zNz hlen
    have hr:=zIx _ (List.getElem_mem hi)
    unfold zCV
    rw [if_pos (by simp; omega)]
    simp only [zEw hi,Option.bind_some]
    have hq:(if decide ((bl s)[i]<48)=true then some true else some (decide ((bl s)[i]>57)))=some (!zIl (bl s)[i]):=by
     unfold zIl
     by_cases a:(bl s)[i]<48
     ·have b:¬((bl s)[i]≥48):=by omega
      simp [a,b]
     ·have b:(bl s)[i]≥48:=by omega
      by_cases c:(bl s)[i]>57
      ·have d:¬((bl s)[i]≤57):=by omega
       simp [a,b,c,d]
      ·have d:(bl s)[i]≤57:=by omega
       simp [a,b,c,d]
    rw [hq]
    simp only [Option.bind_some]
    cases hc:zIl (bl s)[i] with
    |false=>exact .inr ⟨_,rfl,rfl,fun h=>by have:=h _ (List.getElem_mem hi); rw [hc] at this; cases this⟩
    |true=>
     have hc':=hc
     simp only [zIl,Bool.and_eq_true,decide_eq_true_eq] at hc'
     rw [wrap_u8 (by omega) (by omega),wF (x:=(bl s)[i]-48) (by omega) (by omega),wF (x:=10*val ((bl s).take i)) (by omega) (by omega),wF (by omega) (by omega),zK (by omega)]
     refine .inl ⟨_,rfl,by rw [List.take_succ_eq_append_getElem hi,zIw,Int.mul_comm],fun c hcm=>?_⟩
     rw [List.take_succ_eq_append_getElem hi] at hcm
     rcases List.mem_append.1 hcm with h|h
     ·exact hd c h
     ·simp at h; rw [h]; exact hc) (by
    rintro q ⟨rfl,hd⟩
    unfold zCV
    rw [if_neg (by simp; omega)]
    rw [List.take_length] at hd ⊢
    exact ⟨_,rfl,rfl,hd⟩) (bl s).length 0 (0,0) (by omega) ⟨by simp [val],by simp⟩
   unfold zEi
   rw [e]
   cases t with
   |ret r=>
    obtain ⟨rfl,h⟩:=ht
    rw [if_pos (.inr (.inr h))]
    rfl
   |nxt v=>
    obtain ⟨rfl,h⟩:=ht
    rw [if_neg (fun h'=>by rcases h' with h'|h'|h'<;>first|omega|exact h' h)]
    rfl
theorem zPX {l:List Int} (h:∀c∈l,zIl c=true):zHb (10^l.length+(val l).toNat)=49::l:=by
 revert h
 refine zKt (P:=fun l=>(∀c∈l,zIl c=true)→zHb (10^l.length+(val l).toNat)=49::l) ?_ ?_ l
 ·intro _; rw [zBY (by decide)]; rfl
 ·intro l c ih h
  have hl:∀c∈l,zIl c=true:=fun x hx=>h x (by simp [hx])
  have hb:=zGg hl
  have hc:=h c (by simp)
  simp only [zIl,Bool.and_eq_true,decide_eq_true_eq] at hc
  have e1:(val (l++[c])).toNat =(val l).toNat *10+(c-48).toNat :=by rw [zIw]; omega
  have e2:10^(l++[c]).length =10^l.length*10:=by rw [List.length_append,List.length_singleton,Nat.pow_succ]
  have hp:1≤10^l.length:=Nat.one_le_pow _ _ (by omega)
  rw [e1,e2,zFG (by omega)]
  have e3:(10^l.length*10+((val l).toNat *10+(c-48).toNat)) / 10=10^l.length+(val l).toNat :=by omega
  have e4:(10^l.length*10+((val l).toNat *10+(c-48).toNat))%10=(c-48).toNat :=by omega
  rw [e3,e4,ih hl,List.cons_append]
  congr 3
  omega
def zRF:List Int:=[103,101,110,47]
theorem zPi:bl (bs [103,101,110,47])=zRF:=zL3 _
theorem zOy (n:Int):∃s,jE n=some s∧bl s=(if 1≤n∧n≤999999 then zRF++(zHb (1000000+n.toNat)).drop 1 else []):=by
 unfold jE
 rw [zS8]
 simp only [Option.bind_some]
 by_cases h:1≤n∧n≤999999
 ·rw [if_pos h]
  have hb:(decide (n≥1)&&decide (n≤999999))=true:=by simp; omega
  rw [hb]
  rw [wF (by omega) (by omega),show (1000000:Int)+n=((1000000+n.toNat:Nat):Int) by omega]
  obtain ⟨s,e,hs⟩:=zHd (1000000+n.toNat) (by omega)
  have hlen:(zHb (1000000+n.toNat)).length =7:=zHl 6 _ (by omega) (by omega)
  have hsz:s.size=7:=by rw [←zP,hs,hlen]
  rw [e]
  simp only [Bool.not_true,Bool.false_eq_true,if_false,Option.bind_some]
  unfold zFS
  rw [if_pos (by omega)]
  simp only [Option.bind_some]
  have hx:(s.extract (1:Int).toNat ((s.size:Int)).toNat).size =6:=by
   rw [←zP,wR,List.length_take,List.length_drop,hs,hlen,hsz]
   rfl
  unfold cat
  rw [if_pos (by have:(bs [103,101,110,47]).size =4:=rfl; omega)]
  refine ⟨_,rfl,?_⟩
  rw [zCy,zPi,wR,hs]
  congr 1
  rw [List.take_of_length_le (by rw [List.length_drop,hlen,hsz]; decide)]
  rfl
 ·rw [if_neg h]
  have hb:(decide (n≥1)&&decide (n≤999999))=false:=by
   simp only [Bool.and_eq_false_iff,decide_eq_false_iff_not]; omega
  rw [hb]
  exact ⟨_,rfl,zL3 _⟩
def zFd (l:List Int):Option Int:=match zJH (l.drop 4) 6 with
 |some n=>if n≥1∧l.length=10 then some n else none
 |none=>none
theorem zP6 {l:List Int} (hp:l.take 4=zRF) (hl:4≤l.length) {n:Int} (h:zJH (l.drop 4) 6=some n):
  (if 1≤n∧n≤999999 then zRF++(zHb (1000000+n.toNat)).drop 1 else [])=l↔(n≥1∧l.length=10):=by
 unfold zJH at h
 split at h
 ·cases h
 ·rename_i hc
  cases h
  have hc1:1≤(l.drop 4).length :=by omega
  have hc2:(l.drop 4).length ≤6:=by omega
  have hd:∀c∈l.drop 4,zIl c=true:=Classical.byContradiction fun h=>hc (.inr (.inr h))
  have hb:=zGg hd
  have hle:val (l.drop 4)≤999999:=by
   have:(10:Nat)^(l.drop 4).length ≤10^6:=Nat.pow_le_pow_right (by omega) hc2
   have e:(((10:Nat)^(l.drop 4).length :Nat):Int)=(10:Int)^(l.drop 4).length :=by simp
   omega
  have hll:l.length=4+(l.drop 4).length :=by simp; omega
  by_cases hn:1≤val (l.drop 4)
  ·rw [if_pos ⟨hn,hle⟩]
   constructor
   ·intro e
    refine ⟨hn,?_⟩
    rw [←e,List.length_append,List.length_drop,zHl 6 _ (by omega) (by omega)]
    rfl
   ·rintro ⟨_,h10⟩
    have h6:(l.drop 4).length =6:=by omega
    have key:=zPX hd
    rw [h6,show (10:Nat)^6=1000000 from rfl] at key
    rw [key,←hp]
    simp
  ·rw [if_neg (by omega)]
   constructor
   ·intro e
    rw [←e] at hll
    simp at hll
   ·rintro ⟨h',_⟩; omega
theorem zKY {s p:ByteArray} (h:begins s p=true):(bl s).take (bl p).length =bl p∧(bl p).length ≤(bl s).length :=by
 unfold begins at h
 simp only [Bool.and_eq_true,decide_eq_true_eq] at h
 have:=zG0.1 h.2
 refine ⟨?_,by rw [zP,zP]; exact h.1⟩
 have e:=congrArg bl this
 rw [wR] at e
 simpa [zP] using e
theorem zHi {fs:List File} {p:ByteArray}:∀s∈kJ fs p,begins s p=true:=by
 intro s hs
 unfold kJ at hs
 obtain ⟨f,hf,rfl⟩:=List.mem_map.1 hs
 exact (List.mem_filter.1 hf).2
def zGf (fs:List File):List Int:=(kJ fs (bs [103,101,110,47])).filterMap (fun p=>zFd (bl p))
theorem zIJ {ps:List ByteArray} (h:∀s∈ps,begins s (bs [103,101,110,47])=true) {i:Nat} (hi:i<ps.length):(bl ps[i]).take 4=zRF∧4≤(bl ps[i]).length :=by
 have:=zKY (h _ (List.getElem_mem hi))
 rw [zPi] at this
 exact this
theorem zLi {s:ByteArray} {k:Nat} (h:k≤s.size):∃t,zFS s (k:Int) (s.size:Int)=some t∧bl t=(bl s).drop k:=by
 unfold zFS
 rw [if_pos (by omega)]
 refine ⟨_,rfl,?_⟩
 rw [wR]
 simp only [Int.toNat_natCast]
 rw [List.take_of_length_le (by rw [List.length_drop,zP]; exact Nat.le_refl _)]
theorem zP9 {f:ByteArray→Option Int}:∀(l:List ByteArray),(l.filterMap f).length ≤l.length:=fun l=>List.length_filterMap_le f l
theorem zLI (d:zD) (h:d.Files.length≤1048576):zCp d=some (zGf d.Files):=by
 unfold zCp zGf
 rw [zJQ d _ h]
 simp only [Option.bind_some]
 have hm:=zHi (fs:=d.Files) (p:=bs [103,101,110,47])
 have hlen:=zFz d.Files (bs [103,101,110,47])
 generalize kJ d.Files (bs [103,101,110,47])=ps at*
 obtain ⟨t,e,rfl⟩:=jF (b:=zD0 d ps) (fun i s=>s=((ps.take i).filterMap (fun p=>zFd (bl p)),(i:Int))) ps.length (fun t=>t=ps.filterMap (fun p=>zFd (bl p))) (by
  rintro i s hi rfl
  obtain ⟨hp,h4⟩:=zIJ hm hi
  have hsz:4≤ps[i].size :=by rw [←zP]; exact h4
  obtain ⟨u,hu,hub⟩:=zLi (s:=ps[i]) (k:=4) hsz
  have hu':zFS ps[i] 4 (ps[i].size :Int)=some u:=hu
  have hfl:=zP9 (f:=fun p=>zFd (bl p)) (ps.take i)
  have hil:(ps.take i).length ≤i:=by simp; omega
  have ha:∀x:Int,app 8 ((ps.take i).filterMap (fun p=>zFd (bl p))) [x]=some ((ps.take i).filterMap (fun p=>zFd (bl p))++[x]):=fun x=>jN (by simp; omega) (by simp; omega)
  have hsplit:(ps.take (i+1)).filterMap (fun p=>zFd (bl p))=(ps.take i).filterMap (fun p=>zFd (bl p))++[ps[i]].filterMap (fun p=>zFd (bl p)):=by
   rw [List.take_succ_eq_append_getElem hi,List.filterMap_append]
  unfold zD0
  rw [if_pos (by simp; omega)]
  simp only [zL hi,Option.bind_some,hu',zHt u 6 (by omega),hub,zK (show i<9223372036854775807 by omega)]
  left
  cases hn:zJH ((bl ps[i]).drop 4) 6 with
  |none=>
   refine ⟨_,rfl,?_⟩
   rw [hsplit]
   simp [zFd,hn]
  |some n=>
   obtain ⟨g,hg,hgb⟩:=zOy n
   have hiff:=zP6 hp h4 hn
   rw [←hgb] at hiff
   simp only [if_true,hg,Option.bind_some]
   rw [zG5]
   by_cases hc:n≥1∧(bl ps[i]).length =10
   ·rw [decide_eq_true (hiff.2 hc)]
    simp only [Option.bind_some,if_true,ha]
    refine ⟨_,rfl,?_⟩
    rw [hsplit]
    simp [zFd,hn,hc]
   ·rw [decide_eq_false (fun e=>hc (hiff.1 e))]
    refine ⟨_,rfl,?_⟩
    rw [hsplit]
    simp only [List.filterMap_cons,zFd,hn,if_neg hc,List.filterMap_nil,List.append_nil]) (by
  rintro s rfl
  unfold zD0
  rw [if_neg (by simp)]
  exact ⟨_,rfl,by simp⟩) ps.length 0 ([],0) (by omega) (by simp)
 simp only [zEr,e,Option.bind_some]
theorem zPe (d:zD) (h:d.Files.length≤1048576):tY d=some (zGf d.Files):=by
 unfold tY zGf
 rw [zOa,zJQ d _ h]
 simp only [Option.bind_some]
 have hm:=zHi (fs:=d.Files) (p:=bs [103,101,110,47])
 have hlen:=zFz d.Files (bs [103,101,110,47])
 generalize kJ d.Files (bs [103,101,110,47])=ps at*
 obtain ⟨t,e,rfl⟩:=jF (b:=zBa ps) (fun i s=>s=((ps.take i).filterMap (fun p=>zFd (bl p)),(i:Int))) ps.length (fun t=>t=ps.filterMap (fun p=>zFd (bl p))) (by
  rintro i s hi rfl
  obtain ⟨hp,h4⟩:=zIJ hm hi
  have hsz:4≤ps[i].size :=by rw [←zP]; exact h4
  obtain ⟨u,hu,hub⟩:=zLi (s:=ps[i]) (k:=4) hsz
  have hu':zFS ps[i] 4 (ps[i].size :Int)=some u:=hu
  have hfl:=zP9 (f:=fun p=>zFd (bl p)) (ps.take i)
  have hil:(ps.take i).length ≤i:=by simp; omega
  have ha:∀x:Int,app 8 ((ps.take i).filterMap (fun p=>zFd (bl p))) [x]=some ((ps.take i).filterMap (fun p=>zFd (bl p))++[x]):=fun x=>jN (by simp; omega) (by simp; omega)
  have hsplit:(ps.take (i+1)).filterMap (fun p=>zFd (bl p))=(ps.take i).filterMap (fun p=>zFd (bl p))++[ps[i]].filterMap (fun p=>zFd (bl p)):=by
   rw [List.take_succ_eq_append_getElem hi,List.filterMap_append]
  unfold zBa
  rw [if_pos (by simp; omega)]
  simp only [zL hi,Option.bind_some,hu',number_eq u 6 (by omega),hub,zK (show i<9223372036854775807 by omega)]
  left
  cases hn:zJH ((bl ps[i]).drop 4) 6 with
  |none=>
   refine ⟨_,rfl,?_⟩
   rw [hsplit]
   simp [zFd,hn]
  |some n=>
   have hbl:((ps[i].size :Int)==10)=decide ((bl ps[i]).length =10):=by
    rw [zP,Bool.eq_iff_iff]; simp; omega
   simp only [hbl]
   by_cases h1:n≥1
   ·rw [if_pos (by simpa using h1)]
    by_cases h2:(bl ps[i]).length =10
    ·rw [decide_eq_true h2]
     simp only [Option.bind_some,if_true,ha]
     refine ⟨_,rfl,?_⟩
     rw [hsplit]
     simp [zFd,hn,h1,h2]
    ·rw [decide_eq_false h2]
     refine ⟨_,rfl,?_⟩
     rw [hsplit]
     simp [zFd,hn,h2]
   ·rw [if_neg (by simpa using h1)]
    refine ⟨_,rfl,?_⟩
    rw [hsplit]
    simp only [List.filterMap_cons,zFd,hn,if_neg (fun h':n≥1∧(bl ps[i]).length =10=>h1 h'.1),List.filterMap_nil,List.append_nil]) (by
  rintro s rfl
  unfold zBa
  rw [if_neg (by simp)]
  exact ⟨_,rfl,by simp⟩) ps.length 0 ([],0) (by omega) (by simp)
 simp only [zBN,e,Option.bind_some]
theorem zGC (fs:List File):(zGf fs).length ≤fs.length:=by
 unfold zGf
 have h1:=zP9 (f:=fun p=>zFd (bl p)) (kJ fs (bs [103,101,110,47]))
 have h2:=zFz fs (bs [103,101,110,47])
 omega
theorem zNE {l:List Int} {n:Int} (h:zFd l=some n):l.length=10∧(∀c∈l.drop 4,zIl c=true)∧n=val (l.drop 4)∧1≤n∧n≤999999:=by
 unfold zFd at h
 cases hn:zJH (l.drop 4) 6 with
 |none=>rw [hn] at h; cases h
 |some m=>
  rw [hn] at h
  simp only at h
  split at h
  ·rename_i hc
   cases h
   unfold zJH at hn
   split at hn
   ·cases hn
   ·rename_i hc2
    cases hn
    have hd:∀c∈l.drop 4,zIl c=true:=Classical.byContradiction fun h=>hc2 (.inr (.inr h))
    have hb:=zGg hd
    have h6:(l.drop 4).length =6:=by rw [List.length_drop,hc.2]
    rw [h6] at hb
    exact ⟨hc.2,hd,rfl,hc.1,by omega⟩
  ·cases h
theorem zL7 {fs:List File} {n:Int} (h:n∈zGf fs):1≤n∧n≤999999:=by
 unfold zGf at h
 obtain ⟨p,_,hp⟩:=List.mem_filterMap.1 h
 exact (zNE hp).2.2.2
theorem zH7 {l:List Int} (h:∀c∈l,0≤c∧c≤255):bl (b2s l)=l:=by
 refine (zKt (P:=fun l=>(∀c∈l,0≤c∧c≤255)→bl (b2s l)=l) ?_ ?_ l) h
 ·intro _; exact zL3 []
 ·intro l c ih h
  have e:b2s (l++[c])=b2s l++b2s [c]:=by
   unfold b2s
   rw [List.foldl_append]
   generalize List.foldl (fun r n=>ByteArray.push r (UInt8.ofNat n.toNat)) ByteArray.empty l=x
   simp only [List.foldl_cons,List.foldl_nil]
   generalize UInt8.ofNat c.toNat=u
   apply toList_inj
   rw [ByteArray.toList_eq,ByteArray.toList_eq]
   simp
  rw [e,zCy,ih (fun x hx=>h x (by simp [hx])),zMZ (h c (by simp)).1 (h c (by simp)).2]
theorem zK8 (l:List Int) (v:Int) (h:l.length≤1048576):zBK l v=some (decide (v∈l)):=by
 obtain ⟨t,e,ht⟩:=jF (b:=zEm l v) (fun i s=>s=(i:Int)∧v∉l.take i) l.length (fun t=>match t with| .ret r=>r=true∧v∈l| .nxt _=>v∉l) (by
  rintro i s hi ⟨rfl,hv⟩
  unfold zEm
  rw [if_pos (by simp; omega)]
  simp only [zL hi,Option.bind_some]
  by_cases hc:l[i]=v
  ·rw [if_pos (by simpa using hc)]
   exact .inr ⟨_,rfl,rfl,hc▸List.getElem_mem hi⟩
  ·rw [if_neg (by simpa using hc),zK (by omega)]
   refine .inl ⟨_,rfl,rfl,?_⟩
   rw [List.take_succ_eq_append_getElem hi]
   simp only [List.mem_append,List.mem_singleton,not_or]
   exact ⟨hv,fun e=>hc e.symm⟩) (by
  rintro s ⟨rfl,hv⟩
  unfold zEm
  rw [if_neg (by simp)]
  rw [List.take_length] at hv
  exact ⟨_,rfl,hv⟩) l.length 0 0 (by omega) ⟨rfl,by simp⟩
 unfold zBK
 rw [show zEZ l v 0=some t from e]
 cases t with
 |ret r=>obtain ⟨rfl,hm⟩:=ht; simp [Fl.go,hm]
 |nxt _=>simp only [Fl.go,Option.bind_some]; rw [decide_eq_false ht]
theorem zIv (l:List Int) (v:Int) (h:l.length≤1048576):xR l v=some (decide (v∈l)):=by
 obtain ⟨t,e,ht⟩:=jF (b:=uK l v) (fun i s=>s=(i:Int)∧v∉l.take i) l.length (fun t=>match t with| .ret r=>0≤r∧v∈l| .nxt _=>v∉l) (by
  rintro i s hi ⟨rfl,hv⟩
  unfold uK
  rw [if_pos (by simp; omega)]
  simp only [zL hi,Option.bind_some]
  by_cases hc:v=l[i]
  ·rw [if_pos (by simpa using hc)]
   exact .inr ⟨_,rfl,by omega,hc▸List.getElem_mem hi⟩
  ·rw [if_neg (by simpa using hc),zK (by omega)]
   refine .inl ⟨_,rfl,rfl,?_⟩
   rw [List.take_succ_eq_append_getElem hi]
   simp only [List.mem_append,List.mem_singleton,not_or]
   exact ⟨hv,hc⟩) (by
  rintro s ⟨rfl,hv⟩
  unfold uK
  rw [if_neg (by simp)]
  rw [List.take_length] at hv
  exact ⟨_,rfl,hv⟩) l.length 0 0 (by omega) ⟨rfl,by simp⟩
 unfold xR tJ
 rw [show uY l v 0=some t from e]
 cases t with
 |ret r=>obtain ⟨h0,hm⟩:=ht; simp [Fl.go,hm,h0]
 |nxt _=>simp only [Fl.go,Option.bind_some]; rw [decide_eq_false ht]; rfl
def zL8 (d:zD):Option Int:=match d.Files.find? (fun f=>decide (f.Path=bs [99,117,114])) with
 |none=>none
 |some f=>match zJH f.Data 6 with
  |none=>none
  |some n=>if n∈zGf d.Files then some n else none
theorem zOC {fs:List File} {p:ByteArray} {k:Nat} (hs:fs.Pairwise (fun f g=>slt f.Path g.Path=true)) (hk:k<fs.length) (hp:fs[k].Path =p):fs.find? (fun f=>decide (f.Path=p))=some fs[k]:=by
 rw [List.find?_eq_some_iff_getElem]
 refine ⟨by simp [hp],k,hk,rfl,fun j hj=>?_⟩
 simp only [Bool.not_eq_eq_eq_not,Bool.not_true,decide_eq_false_iff_not]
 intro e
 have:=zJK hs (by omega) hk (e.trans hp.symm)
 omega
theorem zLa {fs:List File} {p:ByteArray} (h:∀f∈fs,f.Path≠p):fs.find? (fun f=>decide (f.Path=p))=none:=by
 rw [List.find?_eq_none]
 intro f hf
 simpa using h f hf
theorem zId (d:zD) (hg:d.good) (hb:∀f∈d.Files,∀c∈f.Data,0≤c∧c≤255):
  zB1 d=some ((zL8 d).getD 0)∧tV d=some ((zL8 d).getD 0,match zL8 d with|some _=>0|none=>4):=by
 have hl:d.Files.length≤1048576:=by have:=hg.len; omega
 have hgl:=zGC d.Files
 unfold zB1 tV
 rcases zLw d (bs [99,117,114]) hg with ⟨k,hk,e1,e2,hp⟩|⟨e1,e2,hp⟩
 ·have hf:=zOC hg.sorted hk hp
  have hbk:=zH7 (hb _ (List.getElem_mem hk))
  have hn:¬((k:Int)<0):=by omega
  rw [e1,e2,zLI d hl,zPe d hl]
  simp only [Option.bind_some,zL hk,zHt _ 6 (by omega),number_eq _ 6 (by omega),hbk,decide_eq_false hn,Bool.false_eq_true,if_false]
  unfold zL8
  rw [hf]
  simp only
  cases hnum:zJH d.Files[k].Data 6 with
  |none=>
   have hneg:¬((-1:Int)∈zGf d.Files):=fun h=>by have:=zL7 h; omega
   simp [zIv _ _ (show (zGf d.Files).length ≤1048576 by omega),hneg]
  |some n=>
   simp only [zIv _ _ (show (zGf d.Files).length ≤1048576 by omega),zK8 _ _ (show (zGf d.Files).length ≤1048576 by omega)]
   by_cases hm:n∈zGf d.Files
   ·simp [hm]
   ·simp [hm]
 ·have hf:=zLa hp
  rw [e1,e2]
  simp only [Option.bind_some,number_eq _ 6 (by omega)]
  unfold zL8
  rw [hf]
  simp
def zPG (c:Int):Bool:=decide (97≤c)&&decide (c≤122)
def zLY (c:Int):Bool:=decide (48≤c)&&decide (c≤57)
def zMb (c:Int):Bool:=zPG c||(zLY c||c==95)
theorem zJb (c:Int):vY c=some (zPG c):=by
 unfold vY zPG
 by_cases h:c≥97<;>simp [h]
theorem zNN (c:Int):uD c=some (zLY c):=by
 unfold uD zLY
 by_cases h:c≥48<;>simp [h]
theorem zLx (c:Int):vO c=some (zMb c):=by
 unfold vO zMb
 simp only [zJb,zNN,Option.bind_some]
 cases zPG c<;>cases zLY c<;>simp
theorem zHB (c:Int):wC c=some (zMb c):=by
 unfold wC zMb zPG zLY
 by_cases h1:c≥97<;>by_cases h2:c≤122<;>by_cases h3:c≥48<;>by_cases h4:c≤57<;>simp [h1,h2,h3,h4]
def zKJ (s:ByteArray):Int:=(vG (fun _ c=>if zMb c then none else some (5:Int)) 0 (bl s)).getD 0
def NF (s:ByteArray):Int:=if s.size<1 then 5 else if s.size>12 then 5 else if zPG ((bl s).headD 0) then zKJ s else 5
theorem zOB {s:ByteArray} (h:1≤s.size):bidx s 0=some ((bl s).headD 0):=by
 have h':0< (bl s).length :=by rw [zP]; exact h
 have e:=zEw (s:=s) (i:=0) h'
 rw [show ((0:Nat):Int)=0 from rfl] at e
 rw [e]
 have:(bl s)[0]? =some ((bl s).headD 0):=by
  cases hb:bl s with
  |nil=>rw [hb] at h'; simp at h'
  |cons c l=>rfl
 rw [List.getElem?_eq_getElem h'] at this
 exact this
theorem zKO (s:ByteArray) (h:s.size≤12):kY s 0=some (frs (vG (fun _ c=>if zMb c then none else some (5:Int)) 0 (bl s))):=by
 unfold kY
 refine wS (bl s) _ (fun i hi=>?_) ?_
 ·have hs:i<s.size:=by rw [←zP]; exact hi
  unfold zCT
  rw [if_pos (by simp; omega),zEw hi]
  simp only [Option.bind_some,zLx]
  rw [zK (by omega)]
  cases zMb (bl s)[i]<;>rfl
 ·unfold zCT
  rw [if_neg (by rw [zP]; simp)]
theorem zKw (s:ByteArray) (h:s.size≤12):zAl s 0=some (frs (vG (fun _ c=>if zMb c then none else some (5:Int)) 0 (bl s))):=by
 unfold zAl
 refine wS (bl s) _ (fun i hi=>?_) ?_
 ·have hs:i<s.size:=by rw [←zP]; exact hi
  unfold zCQ
  rw [if_pos (by simp; omega),zEw hi]
  simp only [Option.bind_some,zHB]
  rw [zK (by omega)]
  cases zMb (bl s)[i]<;>rfl
 ·unfold zCQ
  rw [if_neg (by rw [zP]; simp)]
theorem zF1 (s:ByteArray):vD s=some (NF s):=by
 unfold vD NF
 by_cases h1:s.size<1
 ·rw [if_pos (show decide ((s.size:Int)<1)=true by rw [decide_eq_true_eq]; omega),if_pos h1]; rfl
 rw [if_neg (show ¬decide ((s.size:Int)<1)=true by rw [decide_eq_true_eq]; omega),if_neg h1]
 by_cases h2:s.size>12
 ·rw [if_pos (show decide ((s.size:Int)>12)=true by rw [decide_eq_true_eq]; omega),if_pos h2]; rfl
 rw [if_neg (show ¬decide ((s.size:Int)>12)=true by rw [decide_eq_true_eq]; omega),if_neg h2,zOB (by omega),zKO s (by omega)]
 simp only [Option.bind_some,zJb]
 cases h3:zPG ((bl s).headD 0)
 ·rfl
 ·unfold zKJ
  cases vG (fun _ c=>if zMb c then none else some (5:Int)) 0 (bl s)<;>rfl
theorem zQh (c:Int):(if decide (c<97)=true then some true else some (decide (c>122)))=some (!(zPG c)):=by
 unfold zPG
 by_cases h3:c<97
 ·rw [if_pos (by rw [decide_eq_true_eq]; exact h3)]
  have:decide (97≤c)=false:=by rw [decide_eq_false_iff_not]; omega
  rw [this]; rfl
 ·rw [if_neg (by rw [decide_eq_true_eq]; exact h3)]
  have:decide (97≤c)=true:=by rw [decide_eq_true_eq]; omega
  rw [this]
  congr 1
  rw [Bool.true_and,Bool.eq_iff_iff]
  simp
theorem zF0 (s:ByteArray):wZ s=some (NF s):=by
 unfold wZ NF
 by_cases h1:s.size<1
 ·rw [if_pos (show decide ((s.size:Int)<1)=true by rw [decide_eq_true_eq]; omega),if_pos h1]; rfl
 rw [if_neg (show ¬decide ((s.size:Int)<1)=true by rw [decide_eq_true_eq]; omega),if_neg h1]
 by_cases h2:s.size>12
 ·rw [if_pos (show decide ((s.size:Int)>12)=true by rw [decide_eq_true_eq]; omega),if_pos h2]; rfl
 rw [if_neg (show ¬decide ((s.size:Int)>12)=true by rw [decide_eq_true_eq]; omega),if_neg h2,zOB (by omega),zKw s (by omega)]
 simp only [Option.bind_some,zQh]
 cases h3:zPG ((bl s).headD 0)
 ·rfl
 ·unfold zKJ
  cases vG (fun _ c=>if zMb c then none else some (5:Int)) 0 (bl s)<;>rfl
def VF (v:Version):Int:=if inB v.A 0 999&&inB v.B 0 999&&inB v.C 0 999 then 0 else 3
theorem zFx (v:Version):wJ v=some (VF v):=by
 unfold wJ VF
 simp only [zNc,Option.bind_some]
 cases inB v.A 0 999<;>cases inB v.B 0 999<;>cases inB v.C 0 999<;>rfl
theorem zGj (v:Version):wV v=some (VF v):=by
 unfold wV VF
 simp only [zLH,Option.bind_some]
 cases inB v.A 0 999<;>cases inB v.B 0 999<;>cases inB v.C 0 999<;>rfl
def sgn (a b:Int):Int:=if a<b then-1 else if a>b then 1 else 0
theorem zPd (a b:Int):zAt a b=some (sgn a b):=by
 unfold zAt sgn
 by_cases h:a<b
 ·simp [h]
 ·by_cases h2:a>b<;>simp [h,h2]
theorem cmp_eq (a b:Int):wW a b=some (sgn a b):=by
 unfold wW jM sgn
 simp only [Option.bind_some,bne_self_eq_false,Bool.false_eq_true,if_false]
 by_cases h:a<b
 ·simp [h]
 ·by_cases h2:a>b<;>simp [h,h2]
def zI6 (a b:Version):Int:=if sgn a.A b.A≠0 then sgn a.A b.A else if sgn a.B b.B≠0 then sgn a.B b.B else sgn a.C b.C
theorem zBE (a b:Version):yF a b=some (zI6 a b):=by
 unfold yF zI6
 simp only [zPd,Option.bind_some]
 by_cases h1:sgn a.A b.A=0
 ·by_cases h2:sgn a.B b.B=0<;>simp [h1,h2]
 ·simp [h1]
theorem zRe (l:List Int) (h:l.length≤10):loop (zEg l) 0=some (frs (vG (fun _ c=>if c !=0 then some c else none) 0 l)):=by
 refine wS l _ (fun i hi=>?_) ?_
 ·unfold zEg
  rw [if_pos (by simp; omega),zL hi]
  simp only [Option.bind_some]
  rw [zK (by omega)]
  cases l[i] !=0<;>rfl
 ·unfold zEg
  rw [if_neg (by simp)]
theorem zIi (a b:Version):uV a b=some (zI6 a b):=by
 unfold uV zI6 zFH zEW
 simp only [cmp_eq,Option.bind_some]
 rw [zRe _ (by simp),zEu]
 by_cases h1:sgn a.A b.A=0
 ·by_cases h2:sgn a.B b.B=0
  ·by_cases h3:sgn a.C b.C=0<;>simp [h1,h2,h3,vG]
  ·simp [h1,h2,vG]
 ·simp [h1,vG]
theorem zOI (a b:Version):zI6 b a= -zI6 a b:=by
 unfold zI6 sgn
 split<;>split<;>omega
def eqV (a b:Version):Bool:=a.A==b.A&&(a.B==b.B&&(a.C==b.C&&true))
theorem zLp (a b:Version):(zI6 a b==0)=eqV a b:=by
 unfold zI6 eqV sgn
 rw [Bool.eq_iff_iff]
 simp only [beq_iff_eq,Bool.and_eq_true,Bool.and_true]
 constructor
 ·intro h
  split at h<;>omega
 ·intro ⟨h1,h2,h3⟩
  split<;>omega
def zKS:Version:= {A:=1000,B:=0,C:=0}
def TF (t:Term):Int:=if NF t.Name≠0 then NF t.Name else if VF t.Low≠0 then VF t.Low else
 if eqV t.High zKS=false∧VF t.High≠0 then 3 else if zI6 t.Low t.High≥0 then 1 else 0
theorem zGa (t:Term):vU t=some (TF t):=by
 unfold vU TF zAe
 simp only [zF1,zFx,zBE,Option.bind_some]
 show (if (NF t.Name !=0)=true then some (NF t.Name) else if (VF t.Low !=0)=true then some (VF t.Low) else (if (!(eqV t.High zKS))=true then some (VF t.High !=0) else some false).bind fun v=>if v=true then some 3 else if decide (zI6 t.Low t.High≥0)=true then some 1 else some 0)=_
 generalize NF t.Name=a
 generalize VF t.Low=b
 generalize eqV t.High zKS=c
 generalize VF t.High=d
 generalize zI6 t.Low t.High=e
 by_cases h1:a=0
 ·by_cases h2:b=0
  ·by_cases h4:d=0<;>by_cases h5:e≥0<;>cases c<;>simp [h1,h2,h4,h5]
  ·simp [h1,h2]
 ·simp [h1]
theorem zFY (t:Term):vJ t=some (TF t):=by
 unfold vJ TF zDZ
 simp only [zF0,zGj,zIi,Option.bind_some]
 show (if (NF t.Name !=0)=true then some (NF t.Name) else if (VF t.Low !=0)=true then some (VF t.Low) else (if (!(eqV t.High zKS))=true then some (VF t.High !=0) else some false).bind fun v=>if v=true then some 3 else if decide (zI6 t.Low t.High≥0)=true then some 1 else some 0)=_
 generalize NF t.Name=a
 generalize VF t.Low=b
 generalize eqV t.High zKS=c
 generalize VF t.High=d
 generalize zI6 t.Low t.High=e
 by_cases h1:a=0
 ·by_cases h2:b=0
  ·by_cases h4:d=0<;>by_cases h5:e≥0<;>cases c<;>simp [h1,h2,h4,h5]
  ·simp [h1,h2]
 ·simp [h1]
def tsF (l:List Term):Int:=(vG (fun _ t=>if TF t !=0 then some (TF t) else none) 0 l).getD 0
theorem zIo (l:List Term) (h:l.length≤1048576):kQ l=some (tsF l):=by
 have key:=wS l (fun _ t=>if TF t !=0 then some (TF t) else none) (b:=zCA l) (by
  intro i hi
  unfold zCA
  rw [if_pos (by simp; omega),zL hi]
  simp only [Option.bind_some,zGa]
  rw [zK (by omega)]
  cases TF l[i] !=0<;>rfl) (by
  unfold zCA
  rw [if_neg (by simp)])
 unfold kQ zDB tsF
 rw [key,zEu]
 cases vG (fun _ t=>if TF t !=0 then some (TF t) else none) 0 l<;>rfl
theorem zFQ (l:List Term) (h:l.length≤1048576):wY l=some (tsF l):=by
 have key:=wS l (fun _ t=>if TF t !=0 then some (TF t) else none) (b:=zA6 l) (by
  intro i hi
  unfold zA6
  rw [if_pos (by simp; omega),zL hi]
  simp only [Option.bind_some,zFY]
  rw [zK (by omega)]
  cases TF l[i] !=0<;>rfl) (by
  unfold zA6
  rw [if_neg (by simp)])
 unfold wY zAV tsF
 rw [key,zEu]
 cases vG (fun _ t=>if TF t !=0 then some (TF t) else none) 0 l<;>rfl
theorem zFe {n:Nat} (h:n<1000):(zKR n).size ≤3:=by
 rw [←zP,zHj]
 exact zIW 2 n (by omega)
theorem zFF:(bs [46]).size =1:=rfl
def zQy (v:Version):ByteArray:=zKR v.A.toNat++bs [46]++zKR v.B.toNat++bs [46]++zKR v.C.toNat
theorem zIG {v:Version} (h:VF v=0):(0≤v.A∧v.A≤999)∧(0≤v.B∧v.B≤999)∧(0≤v.C∧v.C≤999):=by
 unfold VF inB at h
 split at h
 ·rename_i hh
  simp only [Bool.and_eq_true,decide_eq_true_eq] at hh
  omega
 ·cases h
theorem zF4 {v:Version} (h:VF v=0):(zQy v).size ≤11:=by
 obtain ⟨h1,h2,h3⟩:=zIG h
 unfold zQy
 simp only [jW,zFF]
 have a1:=zFe (n:=v.A.toNat) (by omega)
 have a2:=zFe (n:=v.B.toNat) (by omega)
 have a3:=zFe (n:=v.C.toNat) (by omega)
 omega
theorem zKH {x:Int} (h:0≤x∧x≤999):vB x=some (zKR x.toNat):=by
 have:=zIq x.toNat (by omega)
 rwa [Int.toNat_of_nonneg h.1] at this
theorem zK5 {x:Int} (h:0≤x∧x≤999):zCM x=some (zKR x.toNat):=by
 have:=zIa x.toNat (by omega)
 rw [Int.toNat_of_nonneg h.1] at this
 unfold zCM
 rw [this]
 rfl
theorem zEV {v:Version} (h:VF v=0):xX v=some (zQy v):=by
 obtain ⟨h1,h2,h3⟩:=zIG h
 have a1:=zFe (n:=v.A.toNat) (by omega)
 have a2:=zFe (n:=v.B.toNat) (by omega)
 have a3:=zFe (n:=v.C.toNat) (by omega)
 unfold xX zQy
 rw [zFx,h]
 simp only [Option.bind_some,zKH h1,zKH h2,zKH h3]
 rw [if_neg (by simp)]
 rw [zBn (by rw [zFF]; omega)]
 simp only [Option.bind_some]
 rw [zBn (by simp only [jW,zFF]; omega)]
 simp only [Option.bind_some]
 rw [zBn (by simp only [jW,zFF]; omega)]
 simp only [Option.bind_some]
 rw [zBn (by simp only [jW,zFF]; omega)]
 rfl
theorem zI2 {v:Version} (h:VF v=0):wI v=some (zQy v):=by
 obtain ⟨h1,h2,h3⟩:=zIG h
 have a1:=zFe (n:=v.A.toNat) (by omega)
 have a2:=zFe (n:=v.B.toNat) (by omega)
 have a3:=zFe (n:=v.C.toNat) (by omega)
 unfold wI zQy
 simp only [Option.bind_some,zK5 h1,zK5 h2,zK5 h3]
 rw [zBn (by rw [zFF]; omega)]
 simp only [Option.bind_some]
 rw [zBn (by simp only [jW,zFF]; omega)]
 simp only [Option.bind_some]
 rw [zBn (by simp only [jW,zFF]; omega)]
 simp only [Option.bind_some]
 rw [zBn (by simp only [jW,zFF]; omega)]
 rfl
theorem zHk {s:ByteArray} (h:NF s=0):1≤s.size∧s.size≤12:=by
 unfold NF at h
 split at h
 ·cases h
 ·split at h
  ·cases h
  ·omega
def zeroV:Version:= {A:=0,B:=0,C:=0}
def zO9 (t:Term):ByteArray:=if eqV t.Low zeroV then bs [] else bs [62,61]++zQy t.Low
def zOD (t:Term):ByteArray:=if eqV t.High zKS then bs [] else bs [60]++zQy t.High
def zKE (t:Term):ByteArray:=t.Name++(zO9 t++zOD t)
theorem zKi:bl (bs [])=[]:=by unfold bl; rw [ByteArray.toList_eq]; rfl
theorem zN2 (a:ByteArray):a++bs []=a:=zGx.1 (by rw [zCy,zKi,List.append_nil])
theorem zMy {t:Term} (h:TF t=0):NF t.Name=0∧VF t.Low=0∧(eqV t.High zKS=true∨VF t.High=0)∧zI6 t.Low t.High<0:=by
 unfold TF at h
 split at h
 ·rename_i h1; exact absurd h h1
 rename_i h1
 split at h
 ·rename_i h2; exact absurd h h2
 rename_i h2
 split at h
 ·cases h
 rename_i h3
 split at h
 ·cases h
 rename_i h4
 refine ⟨by simpa using h1,by simpa using h2,?_,by omega⟩
 cases he:eqV t.High zKS
 ·refine .inr ?_
  by_cases hv:VF t.High=0
  ·exact hv
  ·exact absurd ⟨he,hv⟩ h3
 ·exact .inl rfl
theorem zIT {t:Term} (h:VF t.Low=0):(zO9 t).size ≤13:=by
 unfold zO9
 have hv:=zF4 h
 split
 ·decide
 ·rw [jW]; have:(bs [62,61]).size =2:=rfl; omega
theorem zHU {t:Term} (h:eqV t.High zKS=true∨VF t.High=0):(zOD t).size ≤12:=by
 unfold zOD
 split
 ·decide
 ·rename_i he
  rcases h with h|h
  ·exact absurd h he
  ·have hv:=zF4 h
   rw [jW]; have:(bs [60]).size =1:=rfl; omega
theorem zHN {t:Term} (h:TF t=0):(zKE t).size ≤37:=by
 obtain ⟨h1,h2,h3,_⟩:=zMy h
 have a1:=zHk h1
 have a2:=zIT h2
 have a3:=zHU h3
 unfold zKE
 simp only [jW]
 omega
theorem zR2 (a b:Version):(zI6 a b !=0)= !(eqV a b):=by
 rw [←zLp]; rfl
theorem zJl (t:Term):zAy t=some (if TF t !=0 then bs [] else zKE t):=by
 unfold zAy
 rw [zGa]
 simp only [Option.bind_some]
 cases h:TF t !=0
 case true=>rfl
 have h0:TF t=0:=by simpa using h
 obtain ⟨h1,h2,h3,_⟩:=zMy h0
 have a1:=zHk h1
 have a2:=zIT h2
 have a3:=zHU h3
 rw [if_neg (by simp),if_neg (by simp),zBE]
 simp only [Option.bind_some,zAe]
 rw [show (zI6 t.Low ({A:=0,B:=0,C:=0}:Version) !=0)= !(eqV t.Low zeroV) from zR2 _ _]
 have step1:(if (!(eqV t.Low zeroV))=true then (cat t.Name (bs [62,61])).bind fun x8=>(xX t.Low).bind fun x10=>(cat x8 x10).bind fun x12=>some x12 else some t.Name)=some (t.Name++zO9 t):=by
  unfold zO9 at a2 ⊢
  cases hq:eqV t.Low zeroV
  ·rw [if_pos (by rfl),zEV h2]
   have hv:=zF4 h2
   have h62:(bs [62,61]).size =2:=rfl
   rw [zBn (by omega)]
   simp only [Option.bind_some]
   rw [zBn (by rw [jW]; omega)]
   simp only [Option.bind_some,zGt]
   rfl
  ·rw [if_neg (by simp)]
   rw [if_pos rfl,zN2]
 rw [step1]
 simp only [Option.bind_some]
 have step2:(if (!(eqV t.High zKS))=true then (cat (t.Name++zO9 t) (bs [60])).bind fun x8=>(xX t.High).bind fun x10=>(cat x8 x10).bind fun x12=>some x12 else some (t.Name++zO9 t))=some (zKE t):=by
  unfold zKE
  unfold zOD at a3 ⊢
  cases hq:eqV t.High zKS
  ·have hV:VF t.High=0:=h3.resolve_left (by rw [hq]; simp)
   have hv:=zF4 hV
   have h62:(bs [60]).size =1:=rfl
   rw [if_pos (by rfl),zEV hV]
   rw [zBn (by rw [jW]; omega)]
   simp only [Option.bind_some]
   rw [zBn (by simp only [jW]; omega)]
   simp only [Option.bind_some,zGt]
   rfl
  ·rw [if_neg (by simp)]
   rw [if_pos rfl,zN2]
 exact (congrArg (fun o=>Option.bind o fun v=>some v) step2)
theorem zIE (t:Term):zA1 t=some (if TF t !=0 then bs [] else zKE t):=by
 unfold zA1
 rw [zFY]
 simp only [Option.bind_some]
 cases h:TF t !=0
 case true=>rfl
 have h0:TF t=0:=by simpa using h
 obtain ⟨h1,h2,h3,_⟩:=zMy h0
 have a1:=zHk h1
 have a2:=zIT h2
 have a3:=zHU h3
 simp only [Bool.false_eq_true,if_false,Option.bind_some,zDZ]
 rw [show (!(t.Low.A==0&&(t.Low.B==0&&(t.Low.C==0&&true))))= !(eqV t.Low zeroV) from rfl]
 have step1:(if (!(eqV t.Low zeroV))=true then (wI t.Low).bind fun x6=>(cat (bs [62,61]) x6).bind fun x8=>(cat t.Name x8).bind fun x10=>some x10 else some t.Name)=some (t.Name++zO9 t):=by
  unfold zO9 at a2 ⊢
  cases hq:eqV t.Low zeroV
  ·rw [if_pos (by rfl),zI2 h2]
   have hv:=zF4 h2
   have h62:(bs [62,61]).size =2:=rfl
   simp only [Option.bind_some]
   rw [zBn (by omega)]
   simp only [Option.bind_some]
   rw [zBn (by rw [jW]; omega)]
   rfl
  ·rw [if_neg (by simp)]
   rw [if_pos rfl,zN2]
 rw [step1]
 simp only [Option.bind_some]
 have step2:(if (!(eqV t.High zKS))=true then (wI t.High).bind fun x6=>(cat (bs [60]) x6).bind fun x8=>(cat (t.Name++zO9 t) x8).bind fun x10=>some x10 else some (t.Name++zO9 t))=some (zKE t):=by
  unfold zKE
  unfold zOD at a3 ⊢
  cases hq:eqV t.High zKS
  ·have hV:VF t.High=0:=h3.resolve_left (by rw [hq]; simp)
   have hv:=zF4 hV
   have h62:(bs [60]).size =1:=rfl
   rw [if_pos (by rfl),zI2 hV]
   simp only [Option.bind_some]
   rw [zBn (by omega)]
   simp only [Option.bind_some]
   rw [zBn (by simp only [jW]; omega)]
   simp only [Option.bind_some,zGt]
   rfl
  ·rw [if_neg (by simp)]
   rw [if_pos rfl,zN2]
 exact (congrArg (fun o=>Option.bind o fun v=>some v) step2)
theorem zNj:∀(l:List Term) (i:Nat),(vG (fun _ t=>if TF t !=0 then some (TF t) else none) i l).getD 0=0→∀t∈l,TF t=0
 |[],_,_=>by simp
 |t::l,i,h=>by
  simp only [vG] at h
  cases ht:TF t !=0
  ·rw [ht] at h
   have:=zNj l (i+1) (by simpa using h)
   intro x hx
   rcases List.mem_cons.1 hx with rfl|hx
   ·simpa using ht
   ·exact this x hx
  ·rw [ht] at h
   simp only [if_true,Option.getD_some] at h
   rw [h] at ht
   simp at ht
theorem zQt {l:List Term} (h:tsF l=0):∀t∈l,TF t=0:=zNj l 0 h
def zOn {α:Type} (f:α→ByteArray) (a:ByteArray) (l:List α):ByteArray:=l.foldl (fun a t=>a++f t) a
theorem zN4 {α:Type} (f:α→ByteArray):∀(l:List α) (a:ByteArray),foldI (fun _ a t=>a++f t) 0 l a=zOn f a l∧∀i,foldI (fun _ a t=>a++f t) i l a=zOn f a l
 |[],a=>⟨rfl,fun _=>rfl⟩
 |x::l,a=>by
  have:=zN4 f l (a++f x)
  exact ⟨this.2 1,fun i=>this.2 (i+1)⟩
theorem zLC {α:Type} (xs:List α) (f:α→ByteArray) (C:Nat) (hC:∀x∈xs,(f x).size ≤C) {b:(ByteArray×Int)→Option (Lp (ByteArray×Int) ByteArray)} (a0:ByteArray)
  (hstep:∀(i:Nat) (a:ByteArray) (hi:i<xs.length),a.size≤a0.size+i*C→b (a,(i:Int))=some (.go (a++f xs[i],((i+1:Nat):Int)))) (hend:∀a,b (a,(xs.length:Int))=some (.done a)):
  loop b (a0,0)=some (zOn f a0 xs)∧(zOn f a0 xs).size ≤a0.size+xs.length*C:=by
 have h:=zCI xs (fun _ a t=>a++f t) (fun i a=>a.size≤a0.size+i*C) (b:=b) (fun i a hi hI=>⟨hstep i a hi hI,by
  have h:=hC _ (List.getElem_mem hi)
  simp only [jW]
  rw [Nat.add_mul]
  omega⟩) hend xs.length 0 a0 (by omega) (by omega)
 rw [List.drop_zero,(zN4 f xs a0).1] at h
 exact h
def zOG (t:Term):ByteArray:=zKE t++bs [10]
def zIe (l:List Term):ByteArray:=zOn zOG (bs []) l
theorem zJA {t:Term} (h:TF t=0):(zOG t).size ≤38:=by
 unfold zOG
 have:=zHN h
 rw [jW]; have:(bs [10]).size =1:=rfl; omega
theorem zMs (l:List Term) (hl:l.length≤1048576) (h:∀t∈l,TF t=0):zE9 l=some (zIe l):=by
 have key:=zLC l zOG 38 (fun t ht=>zJA (h t ht)) (b:=zDp l) (bs []) (fun i a hi ha=>by
  have hz:(bs []).size =0:=rfl
  have ht:=h _ (List.getElem_mem hi)
  have hts:=zHN ht
  have h10:(bs [10]).size =1:=rfl
  unfold zDp
  rw [if_pos (by simp; omega),zL hi]
  simp only [Option.bind_some,zJl]
  rw [if_neg (by simp [ht]),zBn (by omega)]
  simp only [Option.bind_some]
  rw [zBn (by rw [jW]; omega)]
  simp only [Option.bind_some,zGt]
  rw [zK (by omega)]
  rfl) (fun a=>by
  unfold zDp
  rw [if_neg (by simp)])
 unfold zE9 zEq
 rw [key.1]
 rfl
theorem zJ4 (l:List Term) (hl:l.length≤1048576):uH l=some (if tsF l !=0 then bs [] else zIe l):=by
 unfold uH
 rw [zFQ l hl]
 simp only [Option.bind_some]
 cases h0:tsF l !=0
 case true=>rfl
 have h:=zQt (l:=l) (by simpa using h0)
 have key:=zLC l zOG 38 (fun t ht=>zJA (h t ht)) (b:=zAM l) (bs []) (fun i a hi ha=>by
  have hz:(bs []).size =0:=rfl
  have ht:=h _ (List.getElem_mem hi)
  have hts:=zHN ht
  have h10:(bs [10]).size =1:=rfl
  unfold zAM
  rw [if_pos (by simp; omega),zL hi]
  simp only [Option.bind_some,zIE]
  rw [if_neg (by simp [ht]),zBn (by omega)]
  simp only [Option.bind_some]
  rw [zBn (by rw [jW]; omega)]
  simp only [Option.bind_some]
  rw [zK (by omega)]
  rfl) (fun a=>by
  unfold zAM
  rw [if_neg (by simp)])
 unfold zBP
 rw [key.1]
 rfl
theorem zKx (a b:ByteArray):seq a b=seq b a:=by
 unfold seq
 rw [Bool.eq_iff_iff]
 simp only [beq_iff_eq]
 exact eq_comm
theorem zF2 {α R:Type} (g:Nat→α→Option R):∀(xs:List α) (i:Nat),vG g i xs=none↔∀(j:Nat) (h:j<xs.length),g (i+j) xs[j]=none
 |[],i=>by simp [vG]
 |x::xs,i=>by
  simp only [vG]
  cases h:g i x with
  |some r=>
   simp only [reduceCtorEq,false_iff]
   intro hh
   have:=hh 0 (by simp)
   simp only [Nat.add_zero,List.getElem_cons_zero] at this
   rw [h] at this
   cases this
  |none=>
   show vG g (i+1) xs=none↔_
   rw [zF2 g xs (i+1)]
   constructor
   ·intro hh j hj
    cases j with
    |zero=>simpa using h
    |succ j=>
     have:=hh j (by simpa using hj)
     rw [show i+(j+1)=i+1+j by omega]
     simpa using this
   ·intro hh j hj
    have:=hh (j+1) (by simpa using hj)
    rw [show i+(j+1)=i+1+j by omega] at this
    simpa using this
theorem zGI {α:Type} {xs:List α} {i:Nat} (h:i≤xs.length):zHx xs 0 (i:Int)=some (xs.take i):=by
 have:=zK0 (xs:=xs) (l:=0) (h:=i) (by omega) h
 rw [show ((0:Nat):Int)=0 from rfl] at this
 rw [this]
 simp
theorem zJD (l:List ByteArray) (n:ByteArray) (h:l.length≤1048576):kU l n=some (l.any fun x=>seq x n):=by
 have key:=wS l (fun _ x=>if seq x n then some true else none) (b:=zC2 l n) (by
  intro i hi
  unfold zC2
  rw [if_pos (by simp; omega),zL hi]
  simp only [Option.bind_some]
  rw [zK (by omega)]
  cases seq l[i] n<;>rfl) (by
  unfold zC2
  rw [if_neg (by simp)])
 unfold kU zD4
 rw [key,zEu,←zHE (fun x=>seq x n) l 0]
 cases vG (fun _ x=>if seq x n then some true else none) 0 l<;>rfl
theorem zK7 (l:List ByteArray) (n:ByteArray) (h:l.length≤1048576):wX l n=some (l.any fun x=>seq x n):=by
 have key:=wS l (fun i x=>if seq x n then some (i:Int) else none) (b:=uE l n) (by
  intro i hi
  unfold uE
  rw [if_pos (by simp; omega),zL hi]
  simp only [Option.bind_some]
  rw [zK (by omega),zKx n]
  cases seq l[i] n<;>rfl) (by
  unfold uE
  rw [if_neg (by simp)])
 unfold wX uR uJ
 rw [key,zEu]
 rw [←zFD (zDV (fun x=>seq x n) l 0)]
 cases vG (fun j x=>if seq x n then some (j:Int) else none) 0 l<;>rfl
def zMW (p:Pack) (i:Nat) (n:ByteArray):Option Int:=if NF n !=0 then some (NF n) else if seq n p.Name||(p.Provides.take i).any (fun x=>seq x n) then some 6 else none
def zMO (_:Nat) (l:List Term):Option Int:=if (l.length:Int)==0 then some 1 else if tsF l !=0 then some (tsF l) else none
def zQQ (p:Pack):Bool:=decide ((p.Provides.length:Int)>4)||(decide ((p.Needs.length:Int)>4)||(decide ((p.Bars.length:Int)>4)||p.Needs.any (fun l=>decide ((l.length:Int)>4))))
def zKV (p:Pack):Int:=match vG (zMW p) 0 p.Provides with
 |some r=>r
 |none=>match vG zMO 0 p.Needs with
  |some r=>r
  |none=>tsF p.Bars
def PF (p:Pack):Int:=if NF p.Name !=0 then NF p.Name else if VF p.Version !=0 then VF p.Version else if !(inB p.Size 1 200) then 3 else if zQQ p then 2 else zKV p
theorem zJd (p:Pack) (hp:Pack.sm 1048576 p):((zAi p 0).bind (Fl.go some fun v60=>(zAg p 0).bind (Fl.go some fun v80=>(kQ p.Bars).bind fun x81=>some x81)))=some (zKV p):=by
 obtain ⟨_,_,_,hpr,hne,hba⟩:=hp
 have k2:=wS p.Provides (zMW p) (b:=zBh p) (by
  intro i hi
  unfold zBh zMW
  rw [if_pos (by simp; omega),zL hi]
  simp only [Option.bind_some,zF1]
  rw [zGI (by omega)]
  simp only [Option.bind_some]
  rw [zJD _ _ (by simp; omega),zK (by omega)]
  simp only [Option.bind_some]
  cases NF p.Provides[i] !=0<;>cases seq p.Provides[i] p.Name<;>cases (p.Provides.take i).any (fun x=>seq x p.Provides[i])<;>rfl) (by
  unfold zBh
  rw [if_neg (by simp)])
 have k3:=wS p.Needs zMO (b:=zAN p) (by
  intro i hi
  unfold zAN zMO
  rw [if_pos (by simp; omega),zL hi]
  simp only [Option.bind_some]
  rw [zIo _ (hne.2 _ (List.getElem_mem hi)).1,zK (by omega)]
  simp only [Option.bind_some]
  cases (p.Needs[i].length :Int)==0<;>cases tsF p.Needs[i] !=0<;>rfl) (by
  unfold zAN
  rw [if_neg (by simp)])
 unfold zAi zAg zKV
 rw [k2,k3,zIo _ hba.1]
 cases vG (zMW p) 0 p.Provides<;>cases vG zMO 0 p.Needs<;>rfl
theorem zIu (p:Pack) (hp:Pack.sm 1048576 p):((zAf p 0).bind (Fl.go some fun v46=>(kX p 0).bind (Fl.go some fun v62=>(wY p.Bars).bind fun x63=>some x63)))=some (zKV p):=by
 obtain ⟨_,_,_,hpr,hne,hba⟩:=hp
 have k2:=wS p.Provides (zMW p) (b:=zAR p) (by
  intro i hi
  unfold zAR zMW
  rw [if_pos (by simp; omega),zL hi]
  simp only [Option.bind_some,zF0]
  rw [zGI (by omega)]
  simp only [Option.bind_some]
  rw [zK7 _ _ (by simp; omega),zK (by omega)]
  simp only [Option.bind_some]
  cases NF p.Provides[i] !=0<;>cases seq p.Provides[i] p.Name<;>cases (p.Provides.take i).any (fun x=>seq x p.Provides[i])<;>rfl) (by
  unfold zAR
  rw [if_neg (by simp)])
 have k3:=wS p.Needs zMO (b:=zAZ p) (by
  intro i hi
  unfold zAZ zMO
  rw [if_pos (by simp; omega),zL hi]
  simp only [Option.bind_some]
  rw [zFQ _ (hne.2 _ (List.getElem_mem hi)).1,zK (by omega)]
  simp only [Option.bind_some]
  cases (p.Needs[i].length :Int)==0<;>cases tsF p.Needs[i] !=0<;>rfl) (by
  unfold zAZ
  rw [if_neg (by simp)])
 unfold zAf kX zKV
 rw [k2,k3,zFQ _ hba.1]
 cases vG (zMW p) 0 p.Provides<;>cases vG zMO 0 p.Needs<;>rfl
theorem zGO {α R:Type} (p:α→Bool) (r:R):∀(xs:List α) (i:Nat),vG (fun _ x=>if p x then some r else none) i xs=if xs.any p then some r else none
 |[],i=>rfl
 |x::xs,i=>by
  simp only [vG]
  cases h:p x
  ·simp only [Bool.false_eq_true,if_false,List.any_cons,h,Bool.false_or]
   exact zGO p r xs (i+1)
  ·simp [h]
theorem zJw (p:Pack) (hp:Pack.sm 1048576 p):zB8 p=some (PF p):=by
 have hl:=zJd p hp
 obtain ⟨_,_,_,hpr,hne,hba⟩:=hp
 have k1:=wS p.Needs (fun _ l=>if decide ((l.length:Int)>4) then some (2:Int) else none) (b:=zBf p) (by
  intro i hi
  unfold zBf
  rw [if_pos (by simp; omega),zL hi]
  simp only [Option.bind_some]
  rw [zK (by omega)]
  cases decide ((p.Needs[i].length :Int)>4)<;>rfl) (by
  unfold zBf
  rw [if_neg (by simp)])
 rw [zGO] at k1
 unfold zB8 PF zQQ
 simp only [zF1,zFx,zNc,Option.bind_some]
 rw [hl]
 unfold zBI
 rw [k1]
 cases NF p.Name !=0<;>cases VF p.Version !=0<;>cases inB p.Size 1 200<;>cases decide ((p.Provides.length:Int)>4)<;>cases decide ((p.Needs.length:Int)>4)<;>cases decide ((p.Bars.length:Int)>4)<;>cases p.Needs.any (fun l=>decide ((l.length:Int)>4))<;>rfl
theorem zNm (l:List Int) (h:l.length≤10):loop (zAL l) 0=some (frs (vG (fun _ c=>if c !=0 then some c else none) 0 l)):=by
 refine wS l _ (fun i hi=>?_) ?_
 ·unfold zAL
  rw [if_pos (by simp; omega),zL hi]
  simp only [Option.bind_some]
  rw [zK (by omega)]
  cases l[i] !=0<;>rfl
 ·unfold zAL
  rw [if_neg (by simp)]
theorem zJ0 (p:Pack) (hp:Pack.sm 1048576 p):zBu p=some (PF p):=by
 have hl:=zIu p hp
 obtain ⟨_,_,_,hpr,hne,hba⟩:=hp
 have k1:=wS p.Needs (fun i l=>if decide ((l.length:Int)>4) then some (i:Int) else none) (b:=yK p.Needs) (by
  intro i hi
  unfold yK zAJ
  rw [if_pos (by simp; omega),zL hi]
  simp only [Option.bind_some]
  rw [zK (by omega)]
  cases decide ((p.Needs[i].length :Int)>4)<;>rfl) (by
  unfold yK
  rw [if_neg (by simp)])
 have k2:zR p.Needs=some (p.Needs.any (fun l=>decide ((l.length:Int)>4))):=by
  unfold zR yG yR
  rw [k1,zEu,←zFD (zDV (fun l:List Term=>decide ((l.length:Int)>4)) p.Needs 0)]
  cases vG (fun j (x:List Term)=>if decide ((x.length:Int)>4) then some (j:Int) else none) 0 p.Needs<;>rfl
 have k3:vS [NF p.Name,VF p.Version]=some (if NF p.Name !=0 then NF p.Name else VF p.Version):=by
  have k:=zNm [NF p.Name,VF p.Version] (by simp)
  unfold vS zAa
  rw [k,zEu]
  simp only [vG]
  cases hn:NF p.Name !=0
  ·cases hv:VF p.Version !=0
   ·have:VF p.Version=0:=by simpa using hv
    simp [this]
   ·rfl
  ·rfl
 unfold zBu PF zQQ
 simp only [zF0,zGj,zLH,Option.bind_some]
 rw [hl,k2,k3]
 simp only [Option.bind_some]
 cases hn:NF p.Name !=0
 ·simp only [Bool.false_eq_true,if_false]
  cases VF p.Version !=0<;>cases inB p.Size 1 200<;>cases decide ((p.Provides.length:Int)>4)<;>cases decide ((p.Needs.length:Int)>4)<;>cases decide ((p.Bars.length:Int)>4)<;>cases p.Needs.any (fun l=>decide ((l.length:Int)>4))<;>rfl
 ·simp only [if_true,hn]
def isB (n:ByteArray) (v:Version) (q:Pack):Bool:=seq q.Name n&&eqV q.Version v
def zIt (c:List Pack) (n:ByteArray) (v:Version):Int:=(vG (fun i q=>if isB n v q then some (i:Int) else none) 0 c).getD (-1)
theorem zLj (c:List Pack) (n:ByteArray) (v:Version):decide (zIt c n v≥0)=c.any (isB n v):=zFD (zDV (isB n v) c 0)
theorem zJ9 (c:List Pack) (n:ByteArray) (v:Version) (h:c.length≤1048576):zAo c n v=some (zIt c n v):=by
 have key:=wS c (fun i q=>if isB n v q then some (i:Int) else none) (b:=zCW c n v) (by
  intro i hi
  unfold zCW isB
  rw [if_pos (by simp; omega),zL hi]
  simp only [Option.bind_some,zBE,zLp]
  rw [zK (by omega)]
  cases seq c[i].Name n<;>cases eqV c[i].Version v<;>rfl) (by
  unfold zCW
  rw [if_neg (by simp)])
 unfold zIt
 unfold zAo zEs
 rw [key,zEu]
 cases vG (fun i q=>if isB n v q then some (i:Int) else none) 0 c<;>rfl
theorem zJG (c:List Pack) (n:ByteArray) (v:Version) (h:c.length≤1048576):zEp c n v=some (zIt c n v):=by
 have key:=wS c (fun i q=>if isB n v q then some (i:Int) else none) (b:=xJ c n v) (by
  intro i hi
  unfold xJ isB zFp
  rw [if_pos (by simp; omega),zL hi]
  simp only [Option.bind_some]
  rw [zK (by omega)]
  show (Option.bind (if seq c[i].Name n=true then some (eqV c[i].Version v) else some false) _)=_
  cases seq c[i].Name n<;>cases eqV c[i].Version v<;>rfl) (by
  unfold xJ
  rw [if_neg (by simp)])
 unfold zIt
 unfold zEp xB xO
 rw [key,zEu]
 cases vG (fun i q=>if isB n v q then some (i:Int) else none) 0 c<;>rfl
theorem find_spec (c:List Pack) (n:ByteArray) (v:Version) (h:c.length≤1048576):∃k,zAo c n v=some k∧decide (k≥0)=c.any (isB n v):=⟨_,zJ9 c n v h,zLj c n v⟩
theorem zOK (c:List Pack) (n:ByteArray) (v:Version) (h:c.length≤1048576):∃k,zEp c n v=some k∧decide (k≥0)=c.any (isB n v):=⟨_,zJG c n v h,zLj c n v⟩
theorem zJR {p:Pack→Bool}:∀(c:List Pack) (i:Nat),(vG (fun i q=>if p q then some (i:Int) else none) i c).getD (-1)= -1∨((i:Int)≤(vG (fun i q=>if p q then some (i:Int) else none) i c).getD (-1)∧(vG (fun i q=>if p q then some (i:Int) else none) i c).getD (-1)< (i:Int)+c.length)
 |[],i=>.inl rfl
 |q::c,i=>by
  simp only [vG]
  cases h:p q
  ·have:=zJR (p:=p) c (i+1)
   simp only [Bool.false_eq_true,if_false,List.length_cons]
   rcases this with h|h
   ·exact .inl h
   ·exact .inr (by omega)
  ·simp only [if_true,Option.getD_some,List.length_cons]
   exact .inr (by omega)
theorem zMp (c:List Pack) (n:ByteArray) (v:Version):zIt c n v= -1∨(0≤zIt c n v∧zIt c n v<c.length):=by
 have:=zJR (p:=isB n v) c 0
 unfold zIt
 rcases this with h|h
 ·exact .inl h
 ·exact .inr (by simpa using h)
def zPK (c:List Pack) (i:Nat) (p:Pack):Option Int:=if PF p !=0 then some (PF p) else if (c.take i).any (isB p.Name p.Version) then some 6 else none
def CF (c:List Pack):Int:=if decide ((c.length:Int)>24) then 2 else (vG (zPK c) 0 c).getD 0
theorem zHQ (c:List Pack) (hc:c.length≤1048576∧∀y0∈c,Pack.sm 1048576 y0):tF c=some (CF c):=by
 have key:=wS c (zPK c) (b:=jJ c) (by
  intro i hi
  unfold jJ zPK
  rw [if_pos (by simp; omega),zL hi]
  simp only [Option.bind_some]
  rw [zJw _ (hc.2 _ (List.getElem_mem hi)),zGI (by omega)]
  simp only [Option.bind_some]
  obtain ⟨k,e,hk⟩:=find_spec (c.take i) c[i].Name c[i].Version (by simp; omega)
  rw [e,zK (by omega)]
  simp only [Option.bind_some]
  rw [hk]
  cases PF c[i] !=0<;>cases (c.take i).any (isB c[i].Name c[i].Version)<;>rfl) (by
  unfold jJ
  rw [if_neg (by simp)])
 unfold tF CF kC
 rw [key,zEu]
 cases decide ((c.length:Int)>24)<;>cases vG (zPK c) 0 c<;>rfl
theorem zGc (c:List Pack) (hc:c.length≤1048576∧∀y0∈c,Pack.sm 1048576 y0):vL c=some (CF c):=by
 have key:=wS c (zPK c) (b:=jK c) (by
  intro i hi
  unfold jK zPK
  rw [if_pos (by simp; omega),zL hi]
  simp only [Option.bind_some]
  rw [zJ0 _ (hc.2 _ (List.getElem_mem hi)),zGI (by omega)]
  simp only [Option.bind_some]
  obtain ⟨k,e,hk⟩:=zOK (c.take i) c[i].Name c[i].Version (by simp; omega)
  rw [e,zK (by omega)]
  simp only [Option.bind_some]
  rw [hk]
  cases PF c[i] !=0<;>cases (c.take i).any (isB c[i].Name c[i].Version)<;>rfl) (by
  unfold jK
  rw [if_neg (by simp)])
 unfold vL CF jZ
 rw [key,zEu]
 cases decide ((c.length:Int)>24)<;>cases vG (zPK c) 0 c<;>rfl
def noPack:Pack:= {Name:=ByteArray.empty,Version:= {A:=0,B:=0,C:=0},Size:=0,Provides:=[],Needs:=[],Bars:=[]}
def pat (c:List Pack) (k:Int):Pack:=(idx c k).getD noPack
def Places (c:List Pack) (a:List Int):Prop:=∀k∈a,0≤k∧k<c.length
theorem zFw {c:List Pack} {k:Int} (h:0≤k∧k<c.length):idx c k=some (pat c k)∧pat c k∈c:=by
 unfold pat idx
 rw [if_pos h.1]
 have:k.toNat<c.length:=by omega
 rw [List.getElem?_eq_getElem this]
 exact ⟨rfl,List.getElem_mem this⟩
def Cat (c:List Pack):Prop:=c.length≤1048576∧∀y0∈c,Pack.sm 1048576 y0
theorem Cat.zTf {c:List Pack} (hc:Cat c) {k:Int} (h:0≤k∧k<c.length):(pat c k).Provides.length ≤1048576:=(hc.2 _ (zFw h).2).2.2.2.1.1
theorem Cat.needs {c:List Pack} (hc:Cat c) {k:Int} (h:0≤k∧k<c.length):(pat c k).Needs.length ≤1048576:=(hc.2 _ (zFw h).2).2.2.2.2.1.1
theorem Cat.clause {c:List Pack} (hc:Cat c) {k:Int} (h:0≤k∧k<c.length) {l:List Term} (hl:l∈(pat c k).Needs):l.length≤1048576:=((hc.2 _ (zFw h).2).2.2.2.2.1.2 l hl).1
theorem Cat.bars {c:List Pack} (hc:Cat c) {k:Int} (h:0≤k∧k<c.length):(pat c k).Bars.length ≤1048576:=(hc.2 _ (zFw h).2).2.2.2.2.2.1
def zRC (c:List Pack) (a:List Int) (i:Nat) (k:Int):Option Bool:=if !(inB k 0 ((c.length:Int)-1))||(decide (0<i)&&decide (k≤a.getD (i-1) 0)) then some false else none
def zRy (c:List Pack) (a:List Int):Bool:=(vG (zRC c a) 0 a).isNone
theorem getD_lt {a:List Int} {i:Nat} (h:i<a.length):a.getD i 0=a[i]:=by simp [List.getD,h]
def SF (c:List Pack) (a:List Int):Int:=if CF c !=0 then CF c else if zRy c a then 0 else 1
def zTe (a:List Int) (i:Nat) (k:Int):Option Int:=if decide (k≤a.getD (i-1) 0) then some 1 else none
theorem zPS (c:List Pack) (a:List Int):zRy c a=((vG (zTe a) 1 (a.drop 1)).isNone &&a.all (fun k=>inB k 0 ((c.length:Int)-1))):=by
 unfold zRy
 rw [Bool.eq_iff_iff,Bool.and_eq_true,Option.isNone_iff_eq_none,Option.isNone_iff_eq_none,zF2,zF2,List.all_eq_true]
 constructor
 ·intro h
  constructor
  ·intro j hj
   have hj':1+j<a.length:=by simp at hj; omega
   have:=h (1+j) hj'
   unfold zRC at this
   unfold zTe
   rw [List.getElem_drop]
   split at this
   ·cases this
   ·rename_i hn
    rw [if_neg]
    intro hx
    apply hn
    rw [Nat.zero_add]
    rw [Bool.or_eq_true,Bool.and_eq_true]
    exact .inr ⟨by rw [decide_eq_true_eq]; omega,hx⟩
  ·intro k hk
   obtain ⟨i,hi,rfl⟩:=List.mem_iff_getElem.1 hk
   have:=h i hi
   unfold zRC at this
   split at this
   ·cases this
   ·rename_i hn
    simp only [Bool.or_eq_true,not_or] at hn
    simpa using hn.1
 ·rintro ⟨h1,h2⟩ j hj
  unfold zRC
  rw [if_neg]
  rw [Nat.zero_add,h2 _ (List.getElem_mem hj)]
  simp only [Bool.not_true,Bool.false_or,Bool.and_eq_true,not_and]
  intro h0 hx
  have h0':0<j:=by simpa using h0
  have hd:j-1< (a.drop 1).length :=by simp; omega
  have:=h1 (j-1) hd
  unfold zTe at this
  rw [List.getElem_drop] at this
  have ej:1+(j-1)=j:=by omega
  simp only [ej] at this
  rw [if_pos hx] at this
  cases this
theorem zOY {c:List Pack} {a:List Int} (h:(SF c a==0)=true):Places c a:=by
 unfold SF at h
 split at h
 ·rename_i h1
  rw [beq_iff_eq] at h
  rw [h] at h1
  simp at h1
 ·split at h
  ·rename_i h2
   rw [zPS,Bool.and_eq_true,List.all_eq_true] at h2
   intro k hk
   have:=h2.2 k hk
   unfold inB at this
   simp only [Bool.and_eq_true,decide_eq_true_eq] at this
   omega
  ·cases h
def zR1 (t:Term) (v:Version):Bool:=decide (zI6 v t.Low≥0)&&decide (zI6 v t.High<0)
def zO4 (t:Term) (n:ByteArray) (v:Version):Bool:=seq t.Name n&&zR1 t v
theorem zMN (t:Term) (n:ByteArray) (v:Version):kL t n v=some (zO4 t n v):=by
 unfold kL zO4 zR1
 simp only [zBE,Option.bind_some]
 cases seq t.Name n<;>cases decide (zI6 v t.Low≥0)<;>rfl
theorem zQv (t:Term) (n:ByteArray) (v:Version):zCo t n v=some (zO4 t n v):=by
 unfold zCo zO4 zR1
 simp only [zIi,Option.bind_some]
 have e:decide (zI6 t.Low v≤0)=decide (zI6 v t.Low≥0):=by
  rw [zOI v t.Low]
  rw [Bool.eq_iff_iff,decide_eq_true_eq,decide_eq_true_eq]
  omega
 rw [e]
 cases seq t.Name n<;>cases decide (zI6 v t.Low≥0)<;>rfl
def zCR (p:Pack) (t:Term):Bool:=(seq t.Name p.Name||p.Provides.any (fun x=>seq x t.Name))&&zR1 t p.Version
theorem zOg (p:Pack) (t:Term) (h:p.Provides.length≤1048576):zDk p t=some (zCR p t):=by
 unfold zDk zCR
 simp only [zMN,Option.bind_some,zJD _ _ h,zO4,zHD,Bool.true_and]
 cases seq t.Name p.Name<;>cases p.Provides.any (fun x=>seq x t.Name)<;>rfl
theorem zJP (p:Pack) (t:Term) (h:p.Provides.length≤1048576):uQ p t=some (zCR p t):=by
 unfold uQ zCb
 rw [jN (by simp; omega) (by simp; omega)]
 simp only [Option.bind_some]
 have key:=wS ([p.Name]++p.Provides) (fun i n=>if zO4 t n p.Version then some (i:Int) else none) (b:=yQ ([p.Name]++p.Provides) t p) (by
  intro i hi
  have hi':i<p.Provides.length+1:=by simpa using hi
  unfold yQ zAc
  rw [if_pos (by rw [decide_eq_true_eq]; exact Int.ofNat_lt.2 hi),zL hi]
  simp only [Option.bind_some,zQv]
  rw [zK (by omega)]
  cases zO4 t ([p.Name]++p.Provides)[i] p.Version<;>rfl) (by
  unfold yQ
  rw [if_neg (by simp)])
 unfold zZ yH yV
 rw [key,zEu]
 have e:zCR p t=([p.Name]++p.Provides).any (fun n=>zO4 t n p.Version):=by
  unfold zCR zO4
  have:(fun n=>seq t.Name n&&zR1 t p.Version)=(fun n=>seq n t.Name&&zR1 t p.Version):=funext fun n=>by rw [zKx]
  rw [this,zKx t.Name p.Name]
  cases zR1 t p.Version<;>simp
 rw [e,←zFD (zDV (fun n=>zO4 t n p.Version) ([p.Name]++p.Provides) 0)]
 cases vG (fun i n=>if zO4 t n p.Version then some (i:Int) else none) 0 ([p.Name]++p.Provides)<;>rfl
theorem zKN (p:Pack) (l:List Term) (h:p.Provides.length≤1048576) (hl:l.length≤1048576):uL p l=some (l.any (zCR p)):=by
 have key:=wS l (fun i t=>if zCR p t then some (i:Int) else none) (b:=yX l p) (by
  intro i hi
  unfold yX
  rw [if_pos (by simp; omega),zL hi]
  simp only [Option.bind_some,zJP _ _ h]
  rw [zK (by omega)]
  cases zCR p l[i]<;>rfl) (by
  unfold yX
  rw [if_neg (by simp)])
 unfold uL yC yJ yY
 rw [key,zEu,←zFD (zDV (zCR p) l 0)]
 cases vG (fun i t=>if zCR p t then some (i:Int) else none) 0 l<;>rfl
def zGl (c:List Pack) (a:List Int) (t:Term) (x:Int):Bool:=a.any (fun k=>k !=x&&zCR (pat c k) t)
theorem zJU {c:List Pack} {a:List Int} (hc:Cat c) (hp:Places c a) (ha:a.length≤1048576) (t:Term) (x:Int):zBk c a t x=some (zGl c a t x):=by
 have key:=wS a (fun _ k=>if k !=x&&zCR (pat c k) t then some true else none) (b:=zCF c a t x) (by
  intro i hi
  have hk:=hp _ (List.getElem_mem hi)
  unfold zCF
  rw [if_pos (by simp; omega),zL hi]
  simp only [Option.bind_some]
  rw [(zFw hk).1]
  simp only [Option.bind_some]
  rw [zOg _ _ (hc.zTf hk),zK (by omega)]
  cases a[i] !=x<;>cases zCR (pat c a[i]) t<;>rfl) (by
  unfold zCF
  rw [if_neg (by simp)])
 unfold zBk zDE zGl
 rw [key,zEu,←zHE (fun k=>k !=x&&zCR (pat c k) t) a 0]
 cases vG (fun _ k=>if k !=x&&zCR (pat c k) t then some true else none) 0 a<;>rfl
theorem zNY {c:List Pack} {a:List Int} (hc:Cat c) (hp:Places c a) (ha:a.length≤1048576) (t:Term) (x:Int):yA a x c t=some (zGl c a t x):=by
 have key:=wS a (fun i k=>if k !=x&&zCR (pat c k) t then some (i:Int) else none) (b:=xQ a x c t) (by
  intro i hi
  have hk:=hp _ (List.getElem_mem hi)
  unfold xQ zDX
  rw [if_pos (by simp; omega),zL hi]
  simp only [Option.bind_some]
  rw [(zFw hk).1]
  simp only [Option.bind_some]
  rw [zJP _ _ (hc.zTf hk),zK (by omega)]
  cases a[i] !=x<;>cases zCR (pat c a[i]) t<;>rfl) (by
  unfold xQ
  rw [if_neg (by simp)])
 unfold yA xI xU zGl
 rw [key,zEu,←zFD (zDV (fun k=>k !=x&&zCR (pat c k) t) a 0)]
 cases vG (fun i k=>if k !=x&&zCR (pat c k) t then some (i:Int) else none) 0 a<;>rfl
def zQF (c:List Pack) (a:List Int) (l:List Term):Bool:=a.any (fun k=>l.any (zCR (pat c k)))
theorem zPR {c:List Pack} {a:List Int} (hc:Cat c) (hp:Places c a) (ha:a.length≤1048576) (l:List Term) (hl:l.length≤1048576):zFn c a l=some (zQF c a l):=by
 have key:=wS l (fun _ t=>if zGl c a t (-1) then some true else none) (b:=zEj c a l) (by
  intro i hi
  unfold zEj
  rw [if_pos (by simp; omega),zL hi]
  simp only [Option.bind_some,zJU hc hp ha]
  rw [zK (by omega)]
  cases zGl c a l[i] (-1)<;>rfl) (by
  unfold zEj
  rw [if_neg (by simp)])
 unfold zFn zFi
 rw [key,zEu]
 have e:zQF c a l=l.any (fun t=>zGl c a t (-1)):=by
  unfold zQF zGl
  rw [Bool.eq_iff_iff]
  simp only [List.any_eq_true,Bool.and_eq_true,bne_iff_ne]
  constructor
  ·rintro ⟨k,hk,t,ht,hg⟩
   exact ⟨t,ht,k,hk,by have:=(hp k hk).1; omega,hg⟩
  ·rintro ⟨t,ht,k,hk,_,hg⟩
   exact ⟨k,hk,t,ht,hg⟩
 rw [e,←zHE (fun t=>zGl c a t (-1)) l 0]
 cases vG (fun _ t=>if zGl c a t (-1) then some true else none) 0 l<;>rfl
theorem zQs {c:List Pack} {a:List Int} (hc:Cat c) (hp:Places c a) (ha:a.length≤1048576) (l:List Term) (hl:l.length≤1048576):yB a c l=some (zQF c a l):=by
 have key:=wS a (fun i k=>if l.any (zCR (pat c k)) then some (i:Int) else none) (b:=xM a c l) (by
  intro i hi
  have hk:=hp _ (List.getElem_mem hi)
  unfold xM zDU
  rw [if_pos (by simp; omega),zL hi]
  simp only [Option.bind_some]
  rw [(zFw hk).1]
  simp only [Option.bind_some]
  rw [zKN _ _ (hc.zTf hk) hl,zK (by omega)]
  cases l.any (zCR (pat c a[i]))<;>rfl) (by
  unfold xM
  rw [if_neg (by simp)])
 unfold yB xH xS zQF
 rw [key,zEu,←zFD (zDV (fun k=>l.any (zCR (pat c k))) a 0)]
 cases vG (fun i k=>if l.any (zCR (pat c k)) then some (i:Int) else none) 0 a<;>rfl
theorem zJZ {α T:Type} (xs:List α) (g:Nat→α→Option T) (e:T) {b:Int→Option (Lp Int T)}
  (hstep:∀(i:Nat) (hi:i<xs.length),b (i:Int)=some (match g i xs[i] with|some r=>.done r|none=>.go ((i+1:Nat):Int))) (hend:b (xs.length:Int)=some (.done e)):
  ∀(k i:Nat),i+k=xs.length→loop b (i:Int)=some ((vG g i (xs.drop i)).getD e)
 |0,i,h=>by
  have e:i=xs.length:=by omega
  subst e
  rw [vN,hend,List.drop_length]
  rfl
 |k+1,i,h=>by
  have hi:i<xs.length:=by omega
  have ih:=zJZ xs g e hstep hend k (i+1) (by omega)
  rw [vN,hstep i hi,List.drop_eq_getElem_cons hi]
  simp only [vG]
  cases g i xs[i] with
  |some r=>rfl
  |none=>exact ih
def fN (c:List Pack) (a:List Int) (k:Int) (j:Nat) (l:List zT) (x:List Term):List zT:=if !(zQF c a x) then l++[{Kind:=2,Pack:=k,At:=(j:Int)}] else l
def fB (c:List Pack) (a:List Int) (k:Int) (j:Nat) (l:List zT) (t:Term):List zT:=if zGl c a t k then l++[{Kind:=3,Pack:=k,At:=(j:Int)}] else l
def fD (c:List Pack) (a:List Int) (i:Nat) (k:Int) (l:List zT):List zT:=if (a.take i).any (fun o=>seq (pat c o).Name (pat c k).Name) then l++[{Kind:=1,Pack:=k,At:=0}] else l
def fS (c:List Pack) (a:List Int) (i:Nat) (l:List zT) (k:Int):List zT:=foldI (fB c a k) 0 (pat c k).Bars (foldI (fN c a k) 0 (pat c k).Needs (fD c a i k l))
def zFN (c:List Pack) (a:List Int):List zT:=foldI (fS c a) 0 a []
theorem zSg (c:List Pack) (a:List Int) (k:Int) (j:Nat) (l:List zT) (x:List Term):(fN c a k j l x).length ≤l.length+1:=by unfold fN; split<;>simp
theorem zRP (c:List Pack) (a:List Int) (k:Int) (j:Nat) (l:List zT) (t:Term):(fB c a k j l t).length ≤l.length+1:=by unfold fB; split<;>simp
theorem zQ7 (c:List Pack) (a:List Int) (i:Nat) (k:Int) (l:List zT):(fD c a i k l).length ≤l.length+1:=by unfold fD; split<;>simp
theorem zKd {c:List Pack} {a:List Int} (k:Int) (ns:List (List Term)) (hn:ns.length≤1048576) (n0:Nat) (h0:n0≤5497560000000) {b:(List zT×Int)→Option (Lp (List zT×Int) (List zT))}
  (hstep:∀(j:Nat) (l:List zT) (hj:j<ns.length),b (l,(j:Int))=(if !(zQF c a ns[j]) then (app 24 l [{Kind:=2,Pack:=k,At:=(j:Int)}]) else some l).bind fun v=>some (Lp.go (v,w64 ((j:Int)+1)))) (hend:∀l,b (l,(ns.length:Int))=some (.done l)) (l:List zT) (hl:l.length≤n0):
  loop b (l,0)=some (foldI (fN c a k) 0 ns l)∧(foldI (fN c a k) 0 ns l).length ≤n0+ns.length:=by
 have key:=zCI ns (fN c a k) (fun j l=>l.length≤n0+j) (b:=b) (by
  intro j l hj hI
  refine ⟨?_,by have:=zSg c a k j l ns[j]; omega⟩
  rw [hstep j l hj,zK (by omega),jN (by simp; omega) (by simp; omega)]
  unfold fN
  cases zQF c a ns[j]<;>rfl) hend ns.length 0 l (by omega) (by simpa using hl)
 simpa using key
theorem zLA {c:List Pack} {a:List Int} (k:Int) (ts:List Term) (hn:ts.length≤1048576) (n0:Nat) (h0:n0≤5497560000000) {b:(List zT×Int)→Option (Lp (List zT×Int) (List zT))}
  (hstep:∀(j:Nat) (l:List zT) (hj:j<ts.length),b (l,(j:Int))=(if zGl c a ts[j] k then (app 24 l [{Kind:=3,Pack:=k,At:=(j:Int)}]) else some l).bind fun v=>some (Lp.go (v,w64 ((j:Int)+1)))) (hend:∀l,b (l,(ts.length:Int))=some (.done l)) (l:List zT) (hl:l.length≤n0):
  loop b (l,0)=some (foldI (fB c a k) 0 ts l)∧(foldI (fB c a k) 0 ts l).length ≤n0+ts.length:=by
 have key:=zCI ts (fB c a k) (fun j l=>l.length≤n0+j) (b:=b) (by
  intro j l hj hI
  refine ⟨?_,by have:=zRP c a k j l ts[j]; omega⟩
  rw [hstep j l hj,zK (by omega),jN (by simp; omega) (by simp; omega)]
  unfold fB
  cases zGl c a ts[j] k<;>rfl) hend ts.length 0 l (by omega) (by simpa using hl)
 simpa using key
theorem zK3 {α:Type} (o:Option α):o.bind (fun x=>some x)=o:=by cases o<;>rfl
def zFC (i:Nat):Nat:=i*2097153
theorem zNe {c:List Pack} {a:List Int} (hc:Cat c) (hp:Places c a) (ha:a.length≤1048576):zCh c a=some (zFN c a):=by
 have key:=zCI a (fS c a) (fun i l=>l.length≤zFC i) (b:=zBG c a) (by
  intro i l hi hI
  have hk:=hp _ (List.getElem_mem hi)
  have hb:zFC i≤2199022206976:=by unfold zFC; omega
  have hb1:zFC (i+1)=zFC i+2097153:=by unfold zFC; omega
  have hN:=hc.needs hk
  have hB:=hc.bars hk
  have k1:=zJZ (a.take i) (fun _ o=>if seq (pat c o).Name (pat c a[i]).Name then some (l++[({Kind:=1,Pack:=a[i],At:=0}:zT)]) else none) l (b:=zBZ c a (l,(i:Int)) (pat c a[i])) (by
   intro j hj
   have hj':j<i:=by simp at hj; omega
   have hja:j<a.length:=by omega
   have hkj:=hp _ (List.getElem_mem hja)
   unfold zBZ
   rw [if_pos (by simp; omega),zL hja]
   simp only [Option.bind_some]
   rw [(zFw hkj).1,zL hi]
   simp only [Option.bind_some]
   rw [zK (by omega),jN (by simp; omega) (by simp; omega),List.getElem_take]
   cases seq (pat c a[j]).Name (pat c a[i]).Name <;>rfl) (by
   have:(a.take i).length =i:=by simp; omega
   rw [this]
   unfold zBZ
   rw [if_neg (by simp)]) (a.take i).length 0 (by omega)
  rw [List.drop_zero,zGO] at k1
  have e1:zAH c a (l,(i:Int)) (pat c a[i]) 0=some (fD c a i a[i] l):=by
   unfold zAH fD
   rw [show ((0:Nat):Int)=0 from rfl] at k1
   rw [k1]
   cases (a.take i).any (fun o=>seq (pat c o).Name (pat c a[i]).Name)<;>rfl
  have hd:=zQ7 c a i a[i] l
  obtain ⟨e2,l2⟩:=zKd (c:=c) (a:=a) a[i] (pat c a[i]).Needs hN (zFC i+1) (by omega) (b:=zBW c a (l,(i:Int)) (pat c a[i])) (by
   intro j l hj
   unfold zBW
   rw [if_pos (by simp; omega),zL hj]
   simp only [Option.bind_some]
   rw [zPR hc hp ha _ (hc.clause hk (List.getElem_mem hj)),zL hi]
   simp only [Option.bind_some,zK3]) (by
   intro l
   unfold zBW
   rw [if_neg (by simp)]) (fD c a i a[i] l) (by omega)
  obtain ⟨e3,l3⟩:=zLA (c:=c) (a:=a) a[i] (pat c a[i]).Bars hB (zFC i+1+1048576) (by omega) (b:=zBU c a (l,(i:Int)) (pat c a[i])) (by
   intro j l hj
   unfold zBU
   rw [if_pos (by simp; omega),zL hj,zL hi]
   simp only [Option.bind_some,zJU hc hp ha,zK3]) (by
   intro l
   unfold zBU
   rw [if_neg (by simp)]) _ (Nat.le_trans l2 (by omega))
  refine ⟨?_,by show (fS c a i l a[i]).length ≤_; unfold fS; omega⟩
  unfold zBG
  rw [if_pos (by simp; omega),zL hi]
  simp only [Option.bind_some]
  rw [(zFw hk).1]
  simp only [Option.bind_some]
  rw [e1]
  simp only [Option.bind_some]
  unfold zC0 zCt
  rw [e2]
  simp only [Option.bind_some]
  rw [e3,zK (by omega)]
  rfl) (by
  intro l
  unfold zBG
  rw [if_neg (by simp)]) a.length 0 [] (by omega) (by simp)
 unfold zCh zCs zFN
 have k:=key.1
 rw [show ((0:Nat):Int)=0 from rfl,List.drop_zero] at k
 rw [k]
 rfl
theorem zN8 (q:Int→Bool):∀(xs:List Int) (i:Nat),(∀k∈xs,0≤k)→(((vG (fun _ k=>if q k then some k else none) i xs).getD (-1)≥0)↔xs.any q=true)
 |[],i,_=>by simp [vG]
 |x::xs,i,h=>by
  simp only [vG]
  cases hq:q x
  ·simp only [Bool.false_eq_true,if_false,List.any_cons,hq,Bool.false_or]
   exact zN8 q xs (i+1) (fun k hk=>h k (by simp [hk]))
  ·have:=h x (by simp)
   simp [hq]
   omega
theorem zOv {c:List Pack} {a:List Int} (hp:Places c a) (ha:a.length≤1048576) (n:ByteArray):∃k,zFm c a n=some k∧decide (k≥0)=a.any (fun o=>seq (pat c o).Name n):=by
 have key:=wS a (fun _ k=>if seq (pat c k).Name n then some k else none) (b:=zEh c a n) (by
  intro i hi
  have hk:=hp _ (List.getElem_mem hi)
  unfold zEh
  rw [if_pos (by simp; omega),zL hi]
  simp only [Option.bind_some]
  rw [(zFw hk).1]
  simp only [Option.bind_some]
  rw [zK (by omega)]
  cases seq (pat c a[i]).Name n<;>rfl) (by
  unfold zEh
  rw [if_neg (by simp)])
 refine ⟨_,?_,zFD (zN8 (fun o=>seq (pat c o).Name n) a 0 (fun k hk=>(hp k hk).1))⟩
 unfold zFm zFg
 rw [key,zEu]
 cases vG (fun _ k=>if seq (pat c k).Name n then some k else none) 0 a<;>rfl
theorem zM4 {c:List Pack} {a:List Int} (hc:Cat c) (hp:Places c a) (ha:a.length≤1048576):zEH c a=some (zFN c a):=by
 have key:=zCI a (fS c a) (fun i l=>l.length≤zFC i) (b:=zDJ c a) (by
  intro i l hi hI
  have hk:=hp _ (List.getElem_mem hi)
  have hb:zFC i≤2199022206976:=by unfold zFC; omega
  have hb1:zFC (i+1)=zFC i+2097153:=by unfold zFC; omega
  have hN:=hc.needs hk
  have hB:=hc.bars hk
  obtain ⟨kk,e0,hkk⟩:=zOv (c:=c) (a:=a.take i) (fun k hk=>hp k (List.mem_of_mem_take hk)) (by simp; omega) (pat c a[i]).Name
  have hd:=zQ7 c a i a[i] l
  obtain ⟨e2,l2⟩:=zKd (c:=c) (a:=a) a[i] (pat c a[i]).Needs hN (zFC i+1) (by omega) (b:=zDD c a (l,(i:Int)) a[i] (pat c a[i])) (by
   intro j l hj
   unfold zDD
   rw [if_pos (by simp; omega),zL hj]
   simp only [Option.bind_some]
   rw [zQs hc hp ha _ (hc.clause hk (List.getElem_mem hj))]
   simp only [Option.bind_some,zK3]) (by
   intro l
   unfold zDD
   rw [if_neg (by simp)]) (fD c a i a[i] l) (by omega)
  obtain ⟨e3,l3⟩:=zLA (c:=c) (a:=a) a[i] (pat c a[i]).Bars hB (zFC i+1+1048576) (by omega) (b:=zD9 c a (l,(i:Int)) a[i] (pat c a[i])) (by
   intro j l hj
   unfold zD9
   rw [if_pos (by simp; omega),zL hj]
   simp only [Option.bind_some,zNY hc hp ha,zK3]) (by
   intro l
   unfold zD9
   rw [if_neg (by simp)]) _ (Nat.le_trans l2 (by omega))
  refine ⟨?_,by show (fS c a i l a[i]).length ≤_; unfold fS; omega⟩
  unfold zDJ
  rw [if_pos (by simp; omega),zL hi]
  simp only [Option.bind_some]
  rw [(zFw hk).1,zGI (by omega)]
  simp only [Option.bind_some]
  rw [e0]
  simp only [Option.bind_some]
  rw [hkk,jN (by simp; omega) (by simp; omega)]
  simp only [Option.bind_some]
  have ed:(if (a.take i).any (fun o=>seq (pat c o).Name (pat c a[i]).Name)=true then some (l++[({Kind:=1,Pack:=a[i],At:=0}:zT)]) else some l)=some (fD c a i a[i] l):=by
   unfold fD
   cases (a.take i).any (fun o=>seq (pat c o).Name (pat c a[i]).Name)<;>rfl
  rw [ed]
  simp only [Option.bind_some]
  unfold zEt zEo
  rw [e2]
  simp only [Option.bind_some]
  rw [e3,zK (by omega)]
  rfl) (by
  intro l
  unfold zDJ
  rw [if_neg (by simp)]) a.length 0 [] (by omega) (by simp)
 unfold zEH zEn zFN
 have k:=key.1
 rw [show ((0:Nat):Int)=0 from rfl,List.drop_zero] at k
 rw [k]
 rfl
def zST (c:List Pack) (a:List Int):Bool:=(SF c a==0)&&((zFN c a).length :Int)==0
theorem zIU {c:List Pack} {a:List Int} (hc:Cat c) (ha:a.length≤1048576) (h:(SF c a==0)=true):jH c a=some (zST c a):=by
 unfold jH zST
 rw [zM4 hc (zOY h) ha,h]
 simp
theorem zRc {p:Pack} (h:PF p=0):NF p.Name=0∧VF p.Version=0∧inB p.Size 1 200=true:=by
 unfold PF at h
 split at h
 ·rename_i h1; simp [h] at h1
 rename_i h1
 split at h
 ·rename_i h2; simp [h] at h2
 rename_i h2
 split at h
 ·cases h
 rename_i h3
 exact ⟨by simpa using h1,by simpa using h2,by simpa using h3⟩
def zMG (p:Pack):ByteArray:=bs [112,107,103,47]++(p.Name++(bs [45]++zQy p.Version))
theorem zMm {p:Pack} (h1:NF p.Name=0) (h2:VF p.Version=0):zEL p=some (zMG p):=by
 have a1:=zHk h1
 have a2:=zF4 h2
 have b1:(bs [112,107,103,47]).size =4:=rfl
 have b2:(bs [45]).size =1:=rfl
 unfold zEL zMG
 rw [zEV h2,zBn (by omega)]
 simp only [Option.bind_some]
 rw [zBn (by rw [jW]; omega)]
 simp only [Option.bind_some]
 rw [zBn (by simp only [jW]; omega)]
 simp only [Option.bind_some,zGt]
theorem zPl {p:Pack} (h1:NF p.Name=0) (h2:VF p.Version=0):zB5 p=some (zMG p):=by
 have a1:=zHk h1
 have a2:=zF4 h2
 have b1:(bs [112,107,103,47]).size =4:=rfl
 have b2:(bs [45]).size =1:=rfl
 unfold zB5 zMG
 rw [zI2 h2,zBn (by omega)]
 simp only [Option.bind_some]
 rw [zBn (by rw [jW]; omega)]
 simp only [Option.bind_some]
 rw [zBn (by simp only [jW]; omega)]
 simp only [Option.bind_some,zGt]
theorem zKL:∀(k n:Nat),n<10^(k+1)→zHb (10^(k+1)+n)=49::(List.replicate (k+1-(zHb n).length) 48++zHb n)
 |0,n,h=>by
  have h':n<10:=by simpa using h
  rw [zFG (by simp),show (10^(0+1)+n) / 10=1 by simp; omega,show (10^(0+1)+n)%10=n by simp; omega,zBY (n:=1) (by omega),zBY h']
  rfl
 |k+1,n,h=>by
  have hp:1≤10^k:=Nat.one_le_pow _ _ (by omega)
  have e1:10^(k+1+1)=10*10^(k+1):=by rw [Nat.pow_succ]; omega
  rw [e1] at h
  have hq:n / 10<10^(k+1):=by omega
  have ih:=zKL k (n / 10) hq
  have hl:=zIW k (n / 10) hq
  rw [e1,zFG (by omega),show (10*10^(k+1)+n) / 10=10^(k+1)+n / 10 by omega,show (10*10^(k+1)+n)%10=n%10 by omega,ih]
  by_cases hn:n<10
  ·rw [show n / 10=0 by omega,zBY (n:=0) (by omega),zBY hn,show n%10=n by omega]
   simp only [List.length_singleton,List.cons_append,List.append_assoc,List.nil_append]
   rw [show k+1+1-1=k+1 by omega,show k+1-1=k by omega]
   rw [show List.replicate (k+1) (48:Int)=List.replicate k 48++[48] from List.replicate_succ']
   simp
  ·rw [zFG hn,List.length_append]
   simp only [List.length_singleton,List.cons_append,List.append_assoc]
   rw [show k+1+1-((zHb (n / 10)).length +1)=k+1-(zHb (n / 10)).length by omega]
theorem zSC (l:List UInt8):bl ⟨l.toArray⟩=l.map (fun b=>(b.toNat:Int)):=by
 unfold bl
 rw [ByteArray.toList_eq]
theorem zJF (u:UInt8):∀(n:Nat),Lib.repeatL [u] n=List.replicate n u
 |0=>rfl
 |n+1=>by rw [Lib.repeatL,zJF u n,List.replicate_succ]; rfl
def zSJ (n:Int):List Int:=[103,101,110,47]++(List.replicate (6-(zHb n.toNat).length) 48++zHb n.toNat)
theorem zOP (l:List UInt8):(bs l).data.toList =l:=rfl
def zRq (n:Int):ByteArray:=bs [103,101,110,47]++(⟨(List.replicate (6-(zHb n.toNat).length) (48:UInt8)).toArray⟩++zKR n.toNat)
theorem zOU (n:Int):bl (zRq n)=zSJ n:=by
 unfold zRq zSJ
 rw [zCy,zCy,zL3,zSC,zHj,List.map_replicate]
 rfl
theorem zNh {n:Nat} (h:n≤999999):1≤(zHb n).length ∧(zHb n).length ≤6:=by
 refine ⟨?_,zIW 5 n (by omega)⟩
 by_cases hn:n<10
 ·rw [zBY hn]; simp
 ·rw [zFG hn,List.length_append]; simp
theorem zE4 {s:ByteArray} {l h:Nat} (h1:l≤h) (h2:h≤s.size):zFS s (l:Int) (h:Int)=some (s.extract l h):=by
 unfold zFS
 rw [if_pos (by omega)]
 rfl
theorem zL9 {n:Int} (h0:0≤n) (h1:n≤999999):zD1 n=some (zRq n):=by
 have hd:=zNh (n:=n.toNat) (by omega)
 have hs:(zKR n.toNat).size =(zHb n.toNat).length :=by rw [←zP,zHj]
 have hf:=zIa n.toNat (by omega)
 rw [Int.toNat_of_nonneg h0] at hf
 have h4:(bs [103,101,110,47]).size =4:=rfl
 unfold zD1 zCM
 rw [hf]
 simp only [Option.bind_some]
 rw [hs,wF (by omega) (by omega)]
 unfold strings_Repeat
 rw [if_pos ⟨by omega,by omega,by rw [show (bs [48]).size =1 from rfl]; omega⟩,zOP,zJF]
 simp only [Option.bind_some]
 have hr:(⟨(List.replicate (6-((zHb n.toNat).length :Int)).toNat (48:UInt8)).toArray⟩:ByteArray).size =6-(zHb n.toNat).length :=by
  rw [←zP,zSC]
  simp
 rw [zBn (by rw [hr]; omega)]
 simp only [Option.bind_some]
 rw [zBn (by rw [jW,hr]; omega)]
 unfold zRq
 rw [show (6-((zHb n.toNat).length :Int)).toNat =6-(zHb n.toNat).length by omega]
 simp only [Option.bind_some,zGt]
theorem zKW (n:Int):jE n=some (if inB n 1 999999 then zRq n else bs []):=by
 unfold jE
 rw [zNc]
 simp only [Option.bind_some]
 cases h:inB n 1 999999
 ·rfl
 have h':1≤n∧n≤999999:=by simpa [inB] using h
 rw [if_neg (by simp),wF (by omega) (by omega)]
 have e:=zIq (1000000+n.toNat) (by omega)
 rw [show ((1000000+n.toNat:Nat):Int)=1000000+n by omega] at e
 rw [e]
 simp only [Option.bind_some]
 have hp:=zKL 5 n.toNat (by omega)
 rw [show 10^(5+1)+n.toNat=1000000+n.toNat by omega] at hp
 have hd:=zNh (n:=n.toNat) (by omega)
 have hz:(zKR (1000000+n.toNat)).size =7:=by
  rw [←zP,zHj,hp]
  simp
  omega
 have e2:=zE4 (s:=zKR (1000000+n.toNat)) (l:=1) (h:=(zKR (1000000+n.toNat)).size) (by omega) (Nat.le_refl _)
 rw [show ((1:Nat):Int)=1 from rfl] at e2
 rw [e2]
 simp only [Option.bind_some]
 have hx:((zKR (1000000+n.toNat)).extract 1 (zKR (1000000+n.toNat)).size).size =6:=by
  rw [←zP,wR,zHj,hp,hz]
  simp
  omega
 rw [zBn (by rw [hx]; decide)]
 simp only [Option.bind_some,if_true]
 congr 1
 refine zGx.1 ?_
 rw [zCy,wR,zHj,hp,zOU,zL3,hz]
 unfold zSJ
 rw [List.take_of_length_le (by simp; omega)]
 rfl
theorem zPn {α:Type} {g:Nat→α→Option Int} (hg:∀i x,g i x≠some 0):∀(l:List α) (i:Nat),(vG g i l).getD 0=0→vG g i l=none
 |[],_,_=>rfl
 |x::l,i,h=>by
  simp only [vG] at h ⊢
  cases hx:g i x with
  |none=>rw [hx] at h; exact zPn hg l (i+1) h
  |some r=>
   rw [hx] at h
   simp only [Option.getD_some] at h
   subst h
   exact absurd hx (hg i x)
theorem zQY {c:List Pack} (h:CF c=0):c.length≤24∧(∀p∈c,PF p=0)∧∀(j:Nat) (hj:j<c.length),(c.take j).any (isB c[j].Name c[j].Version)=false:=by
 unfold CF at h
 split at h
 ·cases h
 rename_i h1
 have h2:=zPn (g:=zPK c) (fun i x=>by
  unfold zPK
  split
  ·rename_i h3
   intro e
   rw [Option.some.inj e] at h3
   simp at h3
  ·split<;>simp) c 0 h
 rw [zF2] at h2
 have h3:∀(j:Nat) (hj:j<c.length),PF c[j]=0∧(c.take j).any (isB c[j].Name c[j].Version)=false:=by
  intro j hj
  have:=h2 j hj
  unfold zPK at this
  rw [Nat.zero_add] at this
  split at this
  ·cases this
  ·rename_i h4
   split at this
   ·cases this
   ·rename_i h5
    exact ⟨by simpa using h4,by simpa using h5⟩
 refine ⟨by simp at h1; omega,fun p hp=>?_,fun j hj=>(h3 j hj).2⟩
 obtain ⟨j,hj,rfl⟩:=List.getElem_of_mem hp
 exact (h3 j hj).1
theorem zOZ {a:List Int} (h:∀i,(hi:i+1<a.length)→a[i]<a[i+1]):a.Pairwise (· < ·):=by
 rw [List.pairwise_iff_getElem]
 intro i j hi hj hij
 obtain ⟨d,rfl⟩:∃d,j=i+1+d:=⟨j-i-1,by omega⟩
 clear hij
 induction d with
 |zero=>exact h i (by omega)
 |succ d ih=>
  have h1:=ih (by omega)
  have h2:=h (i+1+d) (by omega)
  show a[i]<a[i+1+d+1]
  omega
theorem zNo:∀{a:List Int} {lo hi:Int},a.Pairwise (· < ·)→(∀k∈a,lo≤k∧k<hi)→(a.length:Int)≤hi-lo∨a=[]
 |[],_,_,_,_=>.inr rfl
 |x::a,lo,hi,hp,hb=>by
  obtain ⟨h1,h2⟩:=List.pairwise_cons.1 hp
  have hx:=hb x (by simp)
  have:=zNo (lo:=x+1) (hi:=hi) h2 (fun k hk=>⟨by have:=h1 k hk; omega,(hb k (by simp [hk])).2⟩)
  refine .inl ?_
  rcases this with h3|h3
  ·simp only [List.length_cons]; omega
  ·subst h3; simp; omega
theorem zLJ {c:List Pack} {a:List Int}:zRy c a=true↔a.Pairwise (· < ·)∧Places c a:=by
 unfold zRy
 rw [Option.isNone_iff_eq_none,zF2]
 constructor
 ·intro h
  have h1:∀(j:Nat) (hj:j<a.length),inB a[j] 0 ((c.length:Int)-1)=true∧(0<j→¬a[j]≤a.getD (j-1) 0):=by
   intro j hj
   have:=h j hj
   unfold zRC at this
   rw [Nat.zero_add] at this
   split at this
   ·cases this
   ·rename_i h2
    simp only [Bool.or_eq_true,Bool.not_eq_true',Bool.and_eq_true,decide_eq_true_eq,not_or,not_and,Bool.not_eq_false] at h2
    exact h2
  refine ⟨zOZ fun i hi=>?_,fun k hk=>?_⟩
  ·have:=(h1 (i+1) hi).2 (by omega)
   rw [show i+1-1=i by omega,getD_lt (by omega)] at this
   omega
  ·obtain ⟨j,hj,rfl⟩:=List.getElem_of_mem hk
   have:=(h1 j hj).1
   unfold inB at this
   simp only [Bool.and_eq_true,decide_eq_true_eq] at this
   omega
 ·rintro ⟨h1,h2⟩ j hj
  unfold zRC
  rw [Nat.zero_add]
  have hk:=h2 a[j] (List.getElem_mem hj)
  rw [if_neg]
  simp only [Bool.or_eq_true,Bool.not_eq_true',Bool.and_eq_true,decide_eq_true_eq,not_or,not_and,Bool.not_eq_false]
  refine ⟨by unfold inB; simp; omega,fun h0=>?_⟩
  rw [getD_lt (by omega)]
  have:=(List.pairwise_iff_getElem.1 h1) (j-1) j (by omega) hj (by omega)
  omega
theorem zJf (s:ByteArray):s.data.toList.map (fun b=>(b.toNat:Int))=bl s:=by
 unfold bl
 rw [ByteArray.toList_eq]
theorem u8w (x:Int):IntKind.u8.wrap x=x%256:=by
 simp only [IntKind.wrap,IntKind.signed,IntKind.bits]
 simp
def zEc (p:Pack):Int:=p.Version.A+p.Version.B+p.Version.C+(bl p.Name).foldl (· + ·) 0
def zO2 (b0:Int):Nat→Int
 |0=>b0
 |i+1=>(31*zO2 b0 i+7)%256
def zMn (p:Pack):List Int:=(List.range p.Size.toNat).map (zO2 (zEc p%256))
theorem zJJ {b0:Int} (h:0≤b0∧b0<256):∀i,0≤zO2 b0 i∧zO2 b0 i<256
 |0=>h
 |i+1=>by unfold zO2; omega
theorem zGN:∀(l:List Int) (a:Int),l.foldl (· + ·) a=a+l.foldl (· + ·) 0
 |[],a=>by simp
 |x::l,a=>by
  simp only [List.foldl_cons]
  rw [zGN l (a+x),zGN l (0+x)]
  omega
theorem zLl:∀(l:List Int) (i:Nat) (a:Int),foldI (fun _ a x=>a+x) i l a=a+l.foldl (· + ·) 0
 |[],_,a=>by simp [foldI]
 |x::l,i,a=>by
  simp only [foldI,List.foldl_cons]
  rw [zLl l (i+1) (a+x),zGN l (0+x)]
  omega
theorem zLP:∀(l:List Int) (i:Nat) (a b:Int),b=a%256→foldI (fun _ a x=>(a+x)%256) i l b=(a+l.foldl (· + ·) 0)%256
 |[],_,a,b,h=>by simp [foldI,h]
 |x::l,i,a,b,h=>by
  simp only [foldI,List.foldl_cons]
  rw [zLP l (i+1) (a+x) ((b+x)%256) (by rw [h]; omega),zGN l (0+x)]
  congr 1
  omega
theorem zLM {p:Pack} (h1:NF p.Name=0) (h2:VF p.Version=0) (h3:1≤p.Size∧p.Size≤200):zDy p=some (zMn p):=by
 obtain ⟨v1,v2,v3⟩:=zIG h2
 have hn:=zHk h1
 have hlen:(bl p.Name).length ≤12:=by rw [zP]; omega
 have k1:=zCI (bl p.Name) (fun _ a x=>a+x) (fun i a=>0≤a∧a≤3000+i*255) (b:=zCB p) (by
  intro i a hi ha
  have hr:=zIx (bl p.Name)[i] (List.getElem_mem hi)
  unfold zCB
  rw [if_pos (by rw [zP] at hi; simp; omega)]
  simp only
  rw [zEw hi]
  simp only [Option.bind_some]
  rw [wF (x:=(bl p.Name)[i]) (by omega) (by omega),wF (by omega) (by omega),zK (by omega)]
  exact ⟨rfl,by omega,by omega⟩) (by
  intro a
  unfold zCB
  rw [if_neg (by rw [zP]; simp)]) (bl p.Name).length 0 (p.Version.A+p.Version.B+p.Version.C) (by omega) ⟨by omega,by omega⟩
 rw [List.drop_zero,zLl] at k1
 obtain ⟨e1,b1,b2⟩:=k1
 have hb:0≤zEc p∧zEc p≤3000+12*255:=by
  unfold zEc
  omega
 obtain ⟨t,e2,rfl⟩:=jF (b:=zC3 p) (fun i s=>s.2.2=(i:Int)∧s.2.1=(List.range i).map (zO2 (zEc p%256))∧0≤s.1∧s.1≤10000∧s.1%256=zO2 (zEc p%256) i) p.Size.toNat (fun t=>t=zMn p) (by
  rintro i ⟨n,out,j⟩ hi ⟨hj,ho,h4,h5,h6⟩
  simp only at hj ho h4 h5 h6
  subst hj ho
  unfold zC3
  rw [if_pos (by simp; omega)]
  simp only
  have ht:n.tmod 256=n%256:=Int.tmod_eq_emod_of_nonneg h4
  rw [ht,u8w,jN (by simp; omega) (by simp; omega)]
  simp only [Option.bind_some]
  rw [wF (x:=31*(n%256)) (by omega) (by omega),wF (by omega) (by omega),zK (by omega)]
  refine .inl ⟨_,rfl,rfl,?_,by omega,by omega,?_⟩
  ·simp only
   rw [List.range_succ,List.map_append,show n%256%256=zO2 (zEc p%256) i by omega]
   rfl
  ·simp only [zO2]
   rw [←h6]) (by
  rintro ⟨n,out,j⟩ ⟨hj,ho,_⟩
  simp only at hj ho
  subst hj ho
  unfold zC3
  rw [if_neg (by simp; omega)]
  exact ⟨_,rfl,rfl⟩) p.Size.toNat 0 (zEc p,([]:List Int),0) (by omega) ⟨rfl,rfl,hb.1,by omega,rfl⟩
 unfold zDy
 rw [wF (x:=p.Version.A+p.Version.B) (by omega) (by omega),wF (x:=p.Version.A+p.Version.B+p.Version.C) (by omega) (by omega)]
 unfold zDI
 rw [show ((0:Nat):Int)=0 from rfl] at e1
 rw [e1]
 simp only [Option.bind_some]
 unfold zD3
 unfold zEc at e2
 rw [e2]
 rfl
theorem zOh {p:Pack} (h1:NF p.Name=0) (h2:VF p.Version=0) (h3:1≤p.Size∧p.Size≤200):zAw p=some (zMn p):=by
 obtain ⟨v1,v2,v3⟩:=zIG h2
 have hn:=zHk h1
 have hlen:(bl p.Name).length ≤12:=by rw [zP]; omega
 have k1:=zCI (bl p.Name) (fun _ a x=>(a+x)%256) (fun i a=>True) (b:=zA5 p) (by
  intro i a hi ha
  unfold zA5
  rw [if_pos (by rw [zP] at hi; simp; omega)]
  simp only
  rw [zEw hi]
  simp only [Option.bind_some,u8w]
  rw [zK (by omega)]
  exact ⟨rfl,trivial⟩) (by
  intro a
  unfold zA5
  rw [if_neg (by rw [zP]; simp)]) (bl p.Name).length 0 ((p.Version.A+p.Version.B+p.Version.C)%256) (by omega) trivial
 rw [List.drop_zero,zLP _ _ (p.Version.A+p.Version.B+p.Version.C) _ rfl] at k1
 have hb:0≤zEc p%256∧zEc p%256<256:=by omega
 obtain ⟨t,e2,rfl⟩:=jF (b:=zAB p) (fun i s=>s.2.2=(i:Int)∧s.2.1=(List.range i).map (zO2 (zEc p%256))∧s.1=zO2 (zEc p%256) i) p.Size.toNat (fun t=>t=zMn p) (by
  rintro i ⟨n,out,j⟩ hi ⟨hj,ho,h6⟩
  simp only at hj ho h6
  subst hj ho h6
  have hr:=zJJ hb i
  unfold zAB
  rw [if_pos (by simp; omega)]
  simp only
  rw [jN (by simp; omega) (by simp; omega)]
  simp only [Option.bind_some,u8w]
  rw [zK (by omega)]
  refine .inl ⟨_,rfl,rfl,?_,?_⟩
  ·simp only
   rw [List.range_succ,List.map_append]
   rfl
  ·simp only [zO2]
   omega) (by
  rintro ⟨n,out,j⟩ ⟨hj,ho,_⟩
  simp only at hj ho
  subst hj ho
  unfold zAB
  rw [if_neg (by simp; omega)]
  exact ⟨_,rfl,rfl⟩) p.Size.toNat 0 (zEc p%256,([]:List Int),0) (by omega) ⟨rfl,rfl,rfl⟩
 unfold zAw
 simp only [u8w]
 rw [show ((p.Version.A%256+p.Version.B%256)%256+p.Version.C%256)%256=(p.Version.A+p.Version.B+p.Version.C)%256 by omega]
 unfold zAQ
 rw [show ((0:Nat):Int)=0 from rfl] at k1
 rw [k1.1]
 simp only [Option.bind_some]
 unfold zBc
 unfold zEc at e2
 rw [e2]
 rfl
theorem zMw (p:Pack):∀x∈zMn p,0≤x∧x≤255:=by
 intro x hx
 unfold zMn at hx
 obtain ⟨i,_,rfl⟩:=List.mem_map.1 hx
 have:=zJJ (b0:=zEc p%256) (by omega) i
 omega
def fileOf (d:zD) (p:ByteArray):Option File:=d.Files.find? (fun f=>decide (f.Path=p))
def zH3 (c:List Pack) (d:zD) (k:Int):Bool:=match fileOf d (zMG (pat c k)) with
 |none=>true
 |some f=>decide (f.Data≠zMn (pat c k))
def zIs (c:List Pack) (d:zD) (a:List Int):List Int:=a.filter (zH3 c d)
def Byt (d:zD):Prop:=∀f∈d.Files,∀c∈f.Data,0≤c∧c≤255
theorem zRv {a b:List Int} (ha:∀c∈a,0≤c∧c≤255) (hb:∀c∈b,0≤c∧c≤255):seq (b2s a) (b2s b)=decide (a=b):=by
 rw [zG5,zH7 ha,zH7 hb]
theorem zMh (a b:List Int) (h:a.length≤1048576):uO a b=some (decide (a=b)):=by
 unfold uO
 by_cases hl:a.length=b.length
 ·rw [if_neg (by simp [hl])]
  have key:=wS a (fun i x=>if x !=b.getD i 0 then some false else none) (b:=tC a b) (by
   intro i hi
   unfold tC
   rw [if_pos (by simp; omega),zL hi,zL (show i<b.length by omega)]
   simp only [Option.bind_some,getD_lt (show i<b.length by omega)]
   rw [zK (by omega)]
   cases a[i] !=b[i]<;>rfl) (by
   unfold tC
   rw [if_neg (by simp)])
  unfold jL
  rw [key,zEu]
  by_cases he:a=b
  ·have hn:vG (fun i x=>if x !=b.getD i 0 then some false else none) 0 a=none:=by
    rw [zF2]
    intro j hj
    subst he
    rw [Nat.zero_add,getD_lt hj]
    simp
   rw [hn,decide_eq_true he]
  ·rw [decide_eq_false he]
   cases hs:vG (fun i x=>if x !=b.getD i 0 then some false else none) 0 a with
   |none=>
    rw [zF2] at hs
    refine absurd (List.ext_getElem hl fun j h1 h2=>?_) he
    have:=hs j h1
    rw [Nat.zero_add,getD_lt h2] at this
    split at this
    ·cases this
    ·rename_i h3; simpa using h3
   |some r=>
    have:∀(l:List Int) (i:Nat),vG (fun i x=>if x !=b.getD i 0 then some false else none) i l=some r→r=false:=by
     intro l
     induction l with
     |nil=>intro i h; cases h
     |cons x l ih=>
      intro i h
      simp only [vG] at h
      by_cases hc:(x !=b.getD i 0)=true
      ·rw [if_pos hc] at h; exact (Option.some.inj h).symm
      ·rw [if_neg hc] at h; exact ih _ h
    rw [this a 0 hs]
 ·rw [if_pos (by simp; omega),decide_eq_false (fun e=>hl (by rw [e]))]
theorem zG3 (d:zD) (p:ByteArray) (hg:d.good):
  (∃k:Nat,∃hk:k<d.Files.length,wQ d p=some (k:Int)∧xY d p=some (d.Files[k].Data,true)∧fileOf d p=some d.Files[k])∨
   (wQ d p=some (-1)∧xY d p=some ([],false)∧fileOf d p=none):=by
 rcases zLw d p hg with ⟨k,hk,e1,e2,hp⟩|⟨e1,e2,hp⟩
 ·exact .inl ⟨k,hk,e1,e2,zOC hg.sorted hk hp⟩
 ·exact .inr ⟨e1,e2,zLa hp⟩
def Pkz (c:List Pack):Prop:=∀p∈c,NF p.Name=0∧VF p.Version=0∧(1≤p.Size∧p.Size≤200)
theorem zQD {c:List Pack} (h:CF c=0):Pkz c:=fun p hp=>by
 obtain ⟨h1,h2,h3⟩:=zRc ((zQY h).2.1 p hp)
 refine ⟨h1,h2,?_⟩
 unfold inB at h3
 simpa using h3
theorem zG8 {α:Type} (q:α→Bool):∀(l:List α) (i:Nat) (acc:List α),foldI (fun _ a x=>if q x then a++[x] else a) i l acc=acc++l.filter q
 |[],_,acc=>by simp [foldI]
 |x::l,i,acc=>by
  simp only [foldI]
  rw [zG8 q l (i+1)]
  cases h:q x<;>simp [h]
section
variable {c:List Pack} {d:zD} {a:List Int} (hc:Pkz c) (hg:d.good) (hb:Byt d) (hp:Places c a) (ha:a.length≤1048576)
include hc hg hb hp ha in
theorem zJ3:zBz c d a=some (zIs c d a):=by
 have key:=zCI a (fun _ l k=>if zH3 c d k then l++[k] else l) (fun i l=>l.length≤i) (b:=zAT c d a) (by
  intro i l hi hl
  have hm:=List.getElem_mem hi
  obtain ⟨e1,e2⟩:=zFw (hp _ hm)
  obtain ⟨p1,p2,p3⟩:=hc _ e2
  unfold zAT
  rw [if_pos (by simp; omega)]
  simp only
  rw [zL hi]
  simp only [Option.bind_some,e1,zMm p1 p2,zLM p1 p2 p3]
  rw [zK (by omega),jN (by simp; omega) (by simp; omega)]
  have hx:(if zH3 c d a[i] then l++[a[i]] else l).length ≤i+1:=by
   split
   ·simp; omega
   ·omega
  refine ⟨?_,hx⟩
  have fin:∀v52:Bool,v52=zH3 c d a[i]→((if v52=true then (some (l++[a[i]])) else (some l)).bind fun v58=>some (Lp.go (v58,((i+1:Nat):Int))))=(some (Lp.go ((if zH3 c d a[i]=true then l++[a[i]] else l),((i+1:Nat):Int))):Option (Lp (List Int×Int) (List Int))):=by
   rintro _ rfl
   cases zH3 c d a[i]<;>rfl
  rcases zG3 d (zMG (pat c a[i])) hg with ⟨k,hk,f1,_,f3⟩|⟨f1,_,f3⟩
  ·rw [f1]
   simp only [Option.bind_some]
   rw [if_neg (show ¬decide ((k:Int)<0)=true by simp),zL hk]
   unfold zFs
   refine fin _ ?_
   unfold zH3
   rw [f3,zRv (hb _ (List.getElem_mem hk)) (zMw _)]
   simp
  ·rw [f1]
   refine fin true ?_
   unfold zH3
   rw [f3]) (by
  intro l
  unfold zAT
  rw [if_neg (by simp)]) a.length 0 [] (by omega) (by simp)
 unfold zBz zCc
 rw [show ((0:Nat):Int)=0 from rfl] at key
 rw [key.1,List.drop_zero,zG8]
 rfl
end
section
variable {c:List Pack} {d:zD} {a:List Int} (hc:Pkz c) (hg:d.good) (hb:Byt d) (hp:Places c a) (ha:a.length≤1048576)
include hc hg hp in
theorem zKn:∀k∈a,zBv k d c=some (zH3 c d k):=by
 intro k hk
 obtain ⟨e1,e2⟩:=zFw (hp k hk)
 obtain ⟨p1,p2,p3⟩:=hc _ e2
 unfold zBv
 rw [e1]
 simp only [Option.bind_some,zPl p1 p2,zOh p1 p2 p3]
 unfold zH3
 rcases zG3 d (zMG (pat c k)) hg with ⟨q,hq,_,f2,f3⟩|⟨_,f2,f3⟩
 ·rw [f2,f3]
  simp only [Option.bind_some]
  rw [if_neg (by simp),zMh _ _ (by have:=hg.data _ (List.getElem_mem hq); omega)]
  simp
 ·rw [f2,f3]
  rfl
end
section
variable {c:List Pack} {d:zD} {a:List Int} (hc:Pkz c) (hg:d.good) (hb:Byt d) (hp:Places c a) (ha:a.length≤1048576)
include hc hg hp ha in
theorem zLm:zDj c d a=some (zIs c d a):=by
 have h1:=zKn hc hg hp
 have h2:∀k∈a,xG k d c=some (!(zH3 c d k)):=by
  intro k hk
  unfold xG
  rw [h1 k hk]
  rfl
 have key:=zPh (fun k=> !(zH3 c d k)) a (0:Int) (by omega) (b1:=zX a d c) (b2:=zW d c) (by
  intro i hi
  unfold zX
  rw [if_pos (by simp; omega),zL hi]
  simp only [Option.bind_some,h2 _ (List.getElem_mem hi)]
  rw [zK (by omega)]
  split<;>rfl) (by
  unfold zX
  rw [if_neg (by simp)]) (by
  intro xs i j hj hij hl hm
  unfold zW
  simp only
  rw [if_pos (by simp; omega),zL hj]
  simp only [Option.bind_some,h2 _ hm]
  rw [zL (show i<xs.length by omega),zK (show j<_ by omega),zK (show i<_ by omega)]
  cases zH3 c d xs[j]<;>simp) (by
  intro xs i hl
  unfold zW
  rw [if_neg (by simp)])
 have hf:a.filter (fun x=> !!(zH3 c d x))=zIs c d a:=by simp [zIs]
 rw [hf] at key
 unfold zDj vE tK
 rw [jN (by simp; omega) (by simp; omega)]
 simp only [Option.bind_some,List.nil_append]
 have e:zS a d c=some (zIs c d a):=key
 rw [e]
 rfl
end
theorem zNH (x y:Int):vS [x,y]=some (if x !=0 then x else y):=by
 unfold vS zAa
 rw [zNm _ (by simp),zEu]
 simp only [vG]
 by_cases h:x=0
 ·by_cases h2:y=0<;>simp [h,h2]
 ·simp [h]
theorem zNT {c:List Pack} {d:zD} (hc:Cat c):∀r,vC d=some r→zAP c d=some (if CF c !=0 then CF c else r):=by
 intro r hr
 unfold zAP
 rw [zHQ c hc,hr]
 simp only [Option.bind_some]
 cases CF c !=0<;>rfl
theorem zPt {c:List Pack} {d:zD} (hc:Cat c):∀r,vC d=some r→kK c d=some (if CF c !=0 then CF c else r):=by
 intro r hr
 unfold kK
 rw [zGc c hc,zGX,hr]
 simp only [Option.bind_some,zNH]
def zHg (c:Int):List Int→List (List Int)
 |[]=>[[]]
 |x::l=>if x=c then []::zHg c l else match zHg c l with
  |h::t=>(x::h)::t
  |[]=>[[x]]
theorem zK9 (c:Int):∀l,zHg c l≠[]
 |[]=>by simp [zHg]
 |x::l=>by
  unfold zHg
  split
  ·simp
  ·split<;>simp
theorem zJI {c:Int}:∀{l:List Int},(∀x∈l,0≤x∧x≤255)→∀p∈zHg c l,∀x∈p,0≤x∧x≤255
 |[],_=>by simp [zHg]
 |y::l,h=>by
  have ih:=zJI (c:=c) (l:=l) (fun x hx=>h x (by simp [hx]))
  intro p hp
  unfold zHg at hp
  split at hp
  ·rcases List.mem_cons.1 hp with rfl|hp
   ·simp
   ·exact ih p hp
  ·split at hp
   ·rename_i a t e
    rcases List.mem_cons.1 hp with rfl|hp
    ·intro x hx
     rcases List.mem_cons.1 hx with rfl|hx
     ·exact h _ (by simp)
     ·exact ih a (by rw [e]; simp) x hx
    ·exact ih p (by rw [e]; simp [hp])
   ·rename_i e
    exact absurd e (zK9 c l)
theorem zHn (c:Int):∀l,(zHg c l).length ≤l.length+1
 |[]=>by simp [zHg]
 |x::l=>by
  have ih:=zHn c l
  unfold zHg
  split
  ·simp; omega
  ·split
   ·rename_i e; rw [e] at ih; simp at ih ⊢; omega
   ·simp
theorem zIS (c:Int):∀l,∀p∈zHg c l,p.length≤l.length
 |[]=>by simp [zHg]
 |x::l=>by
  have ih:=zIS c l
  intro p hp
  unfold zHg at hp
  split at hp
  ·rcases List.mem_cons.1 hp with rfl|hp
   ·simp
   ·have:=ih p hp; simp; omega
  ·split at hp
   ·rename_i a t e
    rcases List.mem_cons.1 hp with rfl|hp
    ·have:=ih a (by rw [e]; simp); simp; omega
    ·have:=ih p (by rw [e]; simp [hp]); simp; omega
   ·simp at hp; rw [hp]; simp
def uS (c:Int) (s:ByteArray):List ByteArray:=(zHg c (bl s)).map b2s
theorem zJi (c:Int) (s:ByteArray):(uS c s).map bl=zHg c (bl s):=by
 unfold uS
 rw [List.map_map]
 have:∀p∈zHg c (bl s),(bl ∘ b2s) p=id p:=fun p hp=>zH7 (zJI zIx p hp)
 rw [List.map_congr_left this,List.map_id]
theorem zJO:∀{a b:List ByteArray},a.map bl=b.map bl→a=b
 |[],[],_=>rfl
 |[],_::_,h=>by simp at h
 |_::_,[],h=>by simp at h
 |x::a,y::b,h=>by
  simp only [List.map_cons,List.cons.injEq] at h
  rw [zGx.1 h.1,zJO h.2]
theorem zLB {c:Int} {s:ByteArray} {ps:List ByteArray} (h:ps.map bl=zHg c (bl s)):ps=uS c s:=zJO (h.trans (zJi c s).symm)
def zQp (c:UInt8):List UInt8→List (List UInt8)
 |[]=>[[]]
 |x::l=>if x=c then []::zQp c l else match zQp c l with
  |h::t=>(x::h)::t
  |[]=>[[x]]
theorem zLo (c:UInt8):∀(l:List UInt8),(zQp c l).map (fun p=>p.map (fun b=>(b.toNat:Int)))=zHg (c.toNat:Int) (l.map (fun b=>(b.toNat:Int)))
 |[]=>rfl
 |x::l=>by
  have ih:=zLo c l
  simp only [List.map_cons]
  unfold zQp zHg
  by_cases h:x=c
  ·subst h
   rw [if_pos rfl,if_pos rfl,List.map_cons,ih]
   rfl
  ·have h':¬((x.toNat:Int)=(c.toNat:Int)):=fun e=>h (UInt8.toNat_inj.1 (by omega))
   rw [if_neg h,if_neg h',←ih]
   cases hc:zQp c l with
   |nil=>rfl
   |cons a t=>rfl
theorem zKT (c:UInt8):∀(l:List UInt8),c∉l→zQp c l=[l]
 |[],_=>rfl
 |x::l,h=>by
  unfold zQp
  rw [if_neg (fun e=>h (by simp [e])),zKT c l (fun e=>h (by simp [e]))]
theorem index_one (c b:UInt8) (l:List UInt8):Lib.index (b::l) [c]=if b=c then 0 else if Lib.index l [c]== -1 then-1 else Lib.index l [c]+1:=by
 rw [Lib.index]
 have:([c].isPrefixOf (b::l))=decide (b=c):=by
  simp only [List.isPrefixOf,Bool.and_true]
  rw [Bool.eq_iff_iff,beq_iff_eq,decide_eq_true_eq]
  exact ⟨fun h=>h.symm,fun h=>h.symm⟩
 rw [this]
 by_cases h:b=c<;>simp [h]
theorem zHS (c:UInt8):∀(l:List UInt8) (k:Nat),l.count c≤k→Lib.splitK [c] 0 k l=zQp c l
 |[],k,_=>by
  cases k with
  |zero=>rfl
  |succ k=>rfl
 |b::l,0,h=>by
  have hn:c∉b::l:=List.count_eq_zero.1 (by omega)
  rw [zKT c _ hn]
  rfl
 |b::l,k+1,h=>by
  unfold zQp
  by_cases hb:b=c
  ·subst hb
   rw [if_pos rfl]
   have e:Lib.index (b::l) [b]=0:=by rw [index_one,if_pos rfl]
   rw [Lib.splitK,e]
   simp only [List.count_cons_self] at h
   rw [if_neg (by decide)]
   show []::Lib.splitK [b] 0 k ((b::l).drop 1)=_
   rw [List.drop_one,List.tail_cons,zHS b l k (by omega)]
  ·rw [if_neg hb]
   have hc:l.count c≤k+1:=by rw [List.count_cons_of_ne hb] at h; exact h
   have ih:=zHS c l (k+1) hc
   rw [←ih,Lib.splitK,Lib.splitK,index_one,if_neg hb]
   cases hi:Lib.index l [c]== -1
   ·have hge:=Lib.index_ge l [c]
    have hne:Lib.index l [c]≠ -1:=by simpa using hi
    have hne':(Lib.index l [c]+1== -1)=false:=by
     rw [beq_eq_false_iff_ne]; omega
    simp only [Bool.false_eq_true,if_false,hne']
    rw [show (Lib.index l [c]+1).toNat =(Lib.index l [c]).toNat +1 by omega]
    simp only [Nat.add_zero,List.length_singleton,List.take_succ_cons,List.drop_succ_cons]
   ·simp
theorem zHP (s:ByteArray) (c:UInt8) (h:s.size≤1048577):strings_Split s ⟨#[c]⟩=some (uS (c.toNat:Int) s):=by
 unfold strings_Split
 rw [if_pos ⟨by omega,by show 1≤1; omega⟩]
 congr 1
 refine zLB ?_
 have e:=Lib.splitB_data ⟨#[c]⟩ 0 (Lib.countB s ⟨#[c]⟩) s
 have e2:Lib.countB s ⟨#[c]⟩=s.data.toList.count c:=Lib.count_one c s.data.toList
 rw [e2] at e ⊢
 rw [show (⟨#[c]⟩:ByteArray).data.toList =[c] from rfl,zHS c _ _ (Nat.le_refl _)] at e
 have e3:∀ps:List ByteArray,ps.map bl=(ps.map (·.data.toList)).map (fun p=>p.map (fun b=>(b.toNat:Int))):=by
  intro ps
  rw [List.map_map]
  exact List.map_congr_left (fun p _=>(zJf p).symm)
 rw [e3,e,zLo,zJf]
def zNL (c:Int) (l:List Int):List (List Int)×List Int:=l.foldl (fun a x=>if x=c then (a.1++[a.2],[]) else (a.1,a.2++[x])) ([],[])
theorem zNs (c:Int):∀(l:List Int) (a:List (List Int)×List Int),(l.foldl (fun a x=>if x=c then (a.1++[a.2],[]) else (a.1,a.2++[x])) a).1++[(l.foldl (fun a x=>if x=c then (a.1++[a.2],[]) else (a.1,a.2++[x])) a).2]=
  a.1++(match zHg c l with|h::t=>(a.2++h)::t|[]=>[a.2])
 |[],a=>by simp [zHg]
 |x::l,a=>by
  simp only [List.foldl_cons]
  rw [zNs c l]
  have hn:=zK9 c l
  by_cases h:x=c
  ·rw [if_pos h]
   conv=>rhs; unfold zHg
   rw [if_pos h]
   cases hc:zHg c l with
   |nil=>exact absurd hc hn
   |cons a t=>simp
  ·rw [if_neg h]
   conv=>rhs; unfold zHg
   rw [if_neg h]
   cases hc:zHg c l with
   |nil=>exact absurd hc hn
   |cons a t=>simp
theorem zPc (c:Int) (l:List Int):(zNL c l).1++[(zNL c l).2]=zHg c l:=by
 unfold zNL
 rw [zNs c l ([],[])]
 cases h:zHg c l with
 |nil=>exact absurd h (zK9 c l)
 |cons a t=>simp
theorem zHz (c:Int) (l:List Int) (x:Int):zNL c (l++[x])=if x=c then ((zNL c l).1++[(zNL c l).2],[]) else ((zNL c l).1,(zNL c l).2++[x]):=by
 unfold zNL
 rw [List.foldl_append]
 rfl
theorem zPP (c:Int) (l:List Int):(zNL c l).1.length ≤l.length:=by
 have h1:=zPc c l
 have h2:=zHn c l
 rw [←h1] at h2
 simp at h2
 exact h2
theorem zG7 (s:ByteArray) (c:Int) (h:s.size≤1048577):jI s c=some (uS c s):=by
 have hlen:=zP s
 obtain ⟨t,e,ht⟩:=jF (b:=zCx s c) (fun i q=>q.2.2=(i:Int)∧
   ((i≤s.size∧q.1.map bl=(zNL c ((bl s).take i)).1∧∃f:Nat,q.2.1=(f:Int)∧f≤i∧((bl s).drop f).take (i-f)=(zNL c ((bl s).take i)).2)∨(i=s.size+1∧q.1.map bl=zHg c (bl s)))) (s.size+1)
  (fun t=>t.map bl=zHg c (bl s)) (by
  rintro i ⟨out,from_,j⟩ hi ⟨hj,hI⟩
  simp only at hj hI
  subst hj
  rcases hI with ⟨hle,ho,f,hf,hfi,hc⟩|⟨he,_⟩
  case inr=>omega
  subst hf
  have hol:out.length≤i:=by
   have:=congrArg List.length ho
   rw [List.length_map] at this
   rw [this]
   refine Nat.le_trans (zPP _ _) ?_
   simp
   omega
  unfold zCx
  rw [if_pos (by simp; omega)]
  simp only
  by_cases hn:i=s.size
  ·subst hn
   have es:zFS s (f:Int) (s.size:Int)=some (s.extract f s.size):=zE4 hfi (Nat.le_refl _)
   rw [if_pos (by simp)]
   simp only [Option.bind_some,if_true]
   rw [es]
   simp only [Option.bind_some]
   rw [jN (by simp; omega) (by simp; omega),zK (by omega)]
   refine .inl ⟨_,rfl,rfl,.inr ⟨trivial,?_⟩⟩
   have htk:(bl s).take s.size=bl s:=by rw [←hlen,List.take_length]
   rw [htk] at ho hc
   rw [List.map_append,ho,←zPc]
   simp only [List.map_cons,List.map_nil]
   rw [wR,hc]
  ·have hlt:i< (bl s).length :=by omega
   have htk:(bl s).take (i+1)=(bl s).take i++[(bl s)[i]]:=List.take_succ_eq_append_getElem hlt
   rw [if_neg (by simp; omega),zEw hlt]
   simp only [Option.bind_some]
   by_cases hb:(bl s)[i]=c
   ·rw [show ((bl s)[i]==c)=true by simpa using hb]
    simp only [if_true]
    have es:zFS s (f:Int) (i:Int)=some (s.extract f i):=zE4 hfi (by omega)
    rw [es]
    simp only [Option.bind_some]
    rw [jN (by simp; omega) (by simp; omega),zK (by omega)]
    refine .inl ⟨_,rfl,rfl,.inl ⟨by omega,?_,i+1,rfl,Nat.le_refl _,?_⟩⟩
    ·rw [htk,zHz,if_pos hb,List.map_append,ho]
     simp only [List.map_cons,List.map_nil]
     rw [wR,hc]
    ·rw [htk,zHz,if_pos hb]
     simp
   ·rw [show ((bl s)[i]==c)=false by simpa using hb]
    simp only [Bool.false_eq_true,if_false,Option.bind_some]
    rw [zK (by omega)]
    refine .inl ⟨_,rfl,rfl,.inl ⟨by omega,?_,f,rfl,by omega,?_⟩⟩
    ·rw [htk,zHz,if_neg hb]
     exact ho
    ·rw [htk,zHz,if_neg hb,←hc,show i+1-f=(i-f)+1 by omega]
     have hd:i-f< ((bl s).drop f).length :=by simp; omega
     rw [List.take_succ_eq_append_getElem hd]
     congr 2
     rw [List.getElem_drop]
     congr 1
     omega) (by
  rintro ⟨out,from_,j⟩ ⟨hj,hI⟩
  simp only at hj hI
  subst hj
  rcases hI with ⟨hle,_⟩|⟨_,ho⟩
  ·omega
  unfold zCx
  rw [if_neg (by simp; omega)]
  exact ⟨_,rfl,ho⟩) (s.size+1) 0 (([]:List ByteArray),0,0) (by omega) ⟨rfl,.inl ⟨by omega,rfl,0,rfl,by omega,by simp [zNL]⟩⟩
 unfold jI zDK
 rw [e,zLB ht]
 rfl
def zBB (s:ByteArray):List ByteArray:=if (uS 10 s).getLast? =some (bs []) then (uS 10 s).dropLast else uS 10 s
theorem zJV (ps:List ByteArray) (h0:ps≠[]) (hl:ps.length≤1048578):((idx ps (w64 ((ps.length:Int)-1))).bind fun x4=>(if seq x4 (bs []) then ((zHx ps 0 (w64 ((ps.length:Int)-1))).bind fun x7=>some x7) else (some ps)).bind fun v9=>some v9)=
  some (if ps.getLast? =some (bs []) then ps.dropLast else ps):=by
 have hp:0<ps.length:=List.length_pos_iff.2 h0
 rw [wF (by omega) (by omega),show (ps.length:Int)-1=((ps.length-1:Nat):Int) by omega,zL (show ps.length-1<ps.length by omega)]
 simp only [Option.bind_some]
 have hg:ps.getLast? =some ps[ps.length-1]:=by
  rw [List.getLast?_eq_getElem?,List.getElem?_eq_getElem]
 rw [hg]
 by_cases h:ps[ps.length-1]=bs []
 ·rw [if_pos (zG0.2 h),if_pos (by rw [h])]
  have e:zHx ps 0 ((ps.length-1:Nat):Int)=some (ps.take (ps.length-1)):=zGI (by omega)
  rw [e,List.dropLast_eq_take]
  rfl
 ·have hs:seq ps[ps.length-1] (bs [])=false:=by
   cases hq:seq ps[ps.length-1] (bs []) with
   |false=>rfl
   |true=>exact absurd (zG0.1 hq) h
  rw [hs,if_neg (show ¬(some ps[ps.length-1]=some (bs [])) from fun e=>h (Option.some.inj e))]
  rfl
theorem zLb (c:Int) (s:ByteArray):uS c s≠[]:=by
 unfold uS
 intro h
 exact zK9 c (bl s) (List.map_eq_nil_iff.1 h)
theorem zGe (c:Int) (s:ByteArray):(uS c s).length ≤s.size+1:=by
 unfold uS
 rw [List.length_map,←zP]
 exact zHn c (bl s)
theorem zIk (s:ByteArray) (h:s.size≤1048577):zBg s=some (zBB s):=by
 unfold zBg
 rw [zG7 s 10 h]
 exact zJV _ (zLb _ _) (by have:=zGe 10 s; omega)
theorem zIg (s:ByteArray) (h:s.size≤1048577):kT s=some (zBB s):=by
 unfold kT
 have e:=zHP s 10 h
 rw [show (((10:UInt8).toNat :Nat):Int)=10 from rfl] at e
 rw [show bs [10]=⟨#[10]⟩ from rfl,e]
 exact zJV _ (zLb _ _) (by have:=zGe 10 s; omega)
theorem zGQ (s:ByteArray):(zBB s).length ≤s.size+1:=by
 have:=zGe 10 s
 unfold zBB
 split
 ·simp; omega
 ·exact this
theorem zGu (s:ByteArray):∀p∈zBB s,p.size≤s.size:=by
 intro p hp
 have hm:p∈uS 10 s:=by
  unfold zBB at hp
  split at hp
  ·exact (List.dropLast_sublist _).subset hp
  ·exact hp
 have hb:bl p∈zHg 10 (bl s):=by
  rw [←zJi]
  exact List.mem_map_of_mem hm
 have:=zIS 10 (bl s) _ hb
 rw [zP,zP] at this
 exact this
def zTl:zN:= {Code:=5,Version:=zeroV}
def zGr (i:Nat) (a:List Int) (x:ByteArray):Lp (List Int) (Fl zN (List Int)):=match zJH (bl x) 3 with
 |some n=>.go (a.set i n)
 |none=>.done (.ret zTl)
def zSr (t:Fl zN (List Int)):zN:=match t with
 | .ret r=>r
 | .nxt l=> {Code:=0,Version:= {A:=l.getD 0 0,B:=l.getD 1 0,C:=l.getD 2 0}}
def PV (s:ByteArray):zN:=if (uS 46 s).length >3 then zTl else zSr (goL zGr .nxt 0 (uS 46 s) [0,0,0])
theorem zMU {l:List Int} {n:Int} (h:zJH l 3=some n):0≤n:=by
 unfold zJH at h
 split at h
 ·cases h
 ·rename_i h1
  cases h
  exact (zGg (l:=l) (by
   intro c hc
   cases hd:zIl c with
   |true=>rfl
   |false=>exact absurd (.inr (.inr (fun h'=>by rw [h' c hc] at hd; cases hd))) h1)).1
theorem zK4:∀(ps:List ByteArray) (i:Nat) (a:List Int),a.length=3→match goL zGr Fl.nxt i ps a with| .ret r=>r=zTl| .nxt l=>l.length=3
 |[],_,a,h=>h
 |p::ps,i,a,h=>by
  simp only [goL]
  unfold zGr
  cases hn:zJH (bl p) 3 with
  |none=>rfl
  |some n=>exact zK4 ps (i+1) (a.set i n) (by simpa using h)
theorem zFo (s:ByteArray) (h:s.size≤1048577):xW s=some (PV s):=by
 unfold xW PV
 rw [zG7 s 46 h]
 simp only [Option.bind_some]
 by_cases hl:(uS 46 s).length >3
 ·rw [if_pos (by simp; omega),if_pos hl]; rfl
 rw [if_neg (by simp; omega),if_neg hl]
 have key:=zL0 (uS 46 s) zGr Fl.nxt (fun i a=>(a,(i:Int))) (fun _ a=>a.length=3) (b:=jG (uS 46 s)) [0,0,0] (by
  intro i a hi ha
  unfold jG zGr
  rw [if_pos (by simp; omega),zL hi]
  simp only [Option.bind_some,zHt _ 3 (by omega)]
  cases hn:zJH (bl (uS 46 s)[i]) 3 with
  |none=>exact ⟨rfl,fun a' h=>by cases h⟩
  |some n=>
   simp only [Bool.not_true,Bool.false_eq_true,if_false]
   rw [zL (show i<a.length by omega),zK (by omega)]
   exact ⟨rfl,fun a' h=>by cases h; simpa using ha⟩) (by
  intro a ha
  unfold jG
  rw [if_neg (by simp)]) rfl
 unfold kI
 rw [show ((0:Nat):Int)=0 from rfl] at key
 rw [key]
 have h3:=zK4 (uS 46 s) 0 [0,0,0] rfl
 cases hg:goL zGr Fl.nxt 0 (uS 46 s) [0,0,0] with
 |ret r=>rfl
 |nxt l=>
  rw [hg] at h3
  match l,h3 with
  |[x,y,z],_=>rfl
theorem zDW (s:ByteArray) (h:s.size≤1048577):wU s=some (PV s):=by
 unfold wU PV
 have e:=zHP s 46 h
 rw [show (((46:UInt8).toNat :Nat):Int)=46 from rfl] at e
 rw [show bs [46]=⟨#[46]⟩ from rfl,e]
 simp only [Option.bind_some]
 by_cases hl:(uS 46 s).length >3
 ·rw [if_pos (by simp; omega),if_pos hl]; rfl
 rw [if_neg (by simp; omega),if_neg hl]
 have key:=zL0 (uS 46 s) zGr Fl.nxt (fun i a=>(a,(i:Int))) (fun _ a=>a.length=3) (b:=jC (uS 46 s)) [0,0,0] (by
  intro i a hi ha
  have hia:i<a.length:=by omega
  unfold jC zGr
  rw [if_pos (by simp; omega),zL hi]
  simp only [Option.bind_some,number_eq _ 3 (by omega)]
  have ea:∀(b:List Int),b.length=3→zPH b 3 (i:Int)=idx b (i:Int):=fun b hb=>if_pos hb
  rw [ea a ha,zL hia]
  simp only [Option.bind_some,Int.toNat_natCast]
  rw [ea _ (by simpa using ha),zL (by simpa using hia)]
  simp only [Option.bind_some,List.getElem_set_self]
  cases hn:zJH (bl (uS 46 s)[i]) 3 with
  |none=>exact ⟨rfl,fun a' h=>by cases h⟩
  |some n=>
   have:=zMU hn
   simp only
   rw [if_neg (by simpa using this),zK (by omega)]
   exact ⟨rfl,fun a' h=>by cases h; simpa using ha⟩) (by
  intro a ha
  unfold jC
  rw [if_neg (by simp)]) rfl
 unfold jY
 rw [show ((0:Nat):Int)=0 from rfl] at key
 rw [key]
 have h3:=zK4 (uS 46 s) 0 [0,0,0] rfl
 cases hg:goL zGr Fl.nxt 0 (uS 46 s) [0,0,0] with
 |ret r=>rfl
 |nxt l=>
  rw [hg] at h3
  match l,h3 with
  |[x,y,z],_=>rfl
def tw (p:Int→Bool) (l:List Int):Nat:=(l.takeWhile p).length
theorem zQa (p:Int→Bool):∀(l:List Int),tw p l≤l.length
 |[]=>by simp [tw]
 |x::l=>by
  have:=zQa p l
  unfold tw at this ⊢
  rw [List.takeWhile_cons]
  split
  ·simp; omega
  ·simp
theorem zHr (p:Int→Bool) (x:Int) (l:List Int):tw p (x::l)=if p x then tw p l+1 else 0:=by
 unfold tw
 rw [List.takeWhile_cons]
 split<;>simp
theorem zIQ (l:List Int) (p:Int→Bool) {b:Int→Option (Lp Int Int)} (hs:∀(i:Nat) (hi:i<l.length),b (i:Int)=some (if p l[i] then .go ((i+1:Nat):Int) else .done (i:Int))) (he:b (l.length:Int)=some (.done (l.length:Int))):
  ∀(k i:Nat),i+k=l.length→loop b (i:Int)=some ((i+tw p (l.drop i):Nat):Int)
 |0,i,h=>by
  have e:i=l.length:=by omega
  subst e
  rw [vN,he,List.drop_length]
  rfl
 |k+1,i,h=>by
  have hi:i<l.length:=by omega
  rw [vN,hs i hi,List.drop_eq_getElem_cons hi,zHr]
  cases p l[i]
  ·rfl
  ·have:=zIQ l p hs he k (i+1) (by omega)
   simp only [if_true,Option.bind_some,Lp.elim]
   rw [this]
   congr 2
   omega
theorem zHL (l:List Int) (p:Int→Bool) {b:Int→Option (Lp Int Int)} (hs:∀(i:Nat) (hi:i<l.length),b (i:Int)=some (if p l[i] then .go ((i+1:Nat):Int) else .done (i:Int))) (he:b (l.length:Int)=some (.done (l.length:Int))):
  loop b 0=some ((tw p l:Nat):Int):=by
 have:=zIQ l p hs he l.length 0 (by omega)
 simpa using this
def zJx (c:Int):Bool:=c !=60
def zIH (s:ByteArray):Nat:=tw zMb (bl s)
def nameP (s:ByteArray):ByteArray:=s.extract 0 (zIH s)
def zLz (s:ByteArray):ByteArray:=s.extract (zIH s) s.size
def zEP (r:ByteArray):Nat:=tw zJx (bl r)
def zIV (r:ByteArray):Option Version:=if zEP r<r.size then (if (PV (r.extract (zEP r+1) r.size)).Code !=0 then none else some (PV (r.extract (zEP r+1) r.size)).Version) else some zKS
def zFW (r:ByteArray):ByteArray:=r.extract 0 (zEP r)
def zO1 (r:ByteArray):Option Version:=if seq (zFW r) (bs []) then some zeroV else if decide ((zFW r).size <2)|| !(seq ((zFW r).extract 0 2) (bs [62,61])) then none else
 (if (PV ((zFW r).extract 2 (zFW r).size)).Code !=0 then none else some (PV ((zFW r).extract 2 (zFW r).size)).Version)
def zN6:Term:= {Name:=ByteArray.empty,Low:=zeroV,High:=zeroV}
def zM5 (c:Int):xL:= {Code:=c,Term:=zN6}
def zSE (t:Term):xL:=if TF t !=0 then zM5 (TF t) else {Code:=0,Term:=t}
def PTm (s:ByteArray):xL:=if NF (nameP s) !=0 then zM5 5 else match zIV (zLz s),zO1 (zLz s) with
 |some h,some l=>zSE {Name:=nameP s,Low:=l,High:=h}
 |_,_=>zM5 5
theorem extract_size {s:ByteArray} {i j:Nat} (h:i≤j) (hj:j≤s.size):(s.extract i j).size =j-i:=by
 rw [←zP,wR]
 simp
 rw [zP]
 omega
theorem zN3 (s:ByteArray):zIH s≤s.size:=by
 rw [←zP]; exact zQa _ _
theorem zMJ (s:ByteArray):zEP s≤s.size:=by
 rw [←zP]; exact zQa _ _
theorem zJs (s:ByteArray) (h:s.size≤1048577):zB6 s=some (PTm s):=by
 have k1:zAh s 0=some ((zIH s:Nat):Int):=by
  unfold zAh zIH
  refine zHL (bl s) zMb (fun i hi=>?_) ?_
  ·have hs:i<s.size:=by rw [←zP]; exact hi
   unfold zCO
   rw [if_pos (by simp; omega),zEw hi]
   simp only [Option.bind_some,zLx]
   rw [zK (by omega)]
   cases zMb (bl s)[i]<;>rfl
  ·unfold zCO
   rw [if_neg (by rw [zP]; simp)]
   rfl
 have hn:=zN3 s
 have e1:zFS s 0 ((zIH s:Nat):Int)=some (nameP s):=zE4 (Nat.zero_le _) hn
 have e2:zFS s ((zIH s:Nat):Int) (s.size:Int)=some (zLz s):=zE4 hn (Nat.le_refl _)
 unfold zB6 zET zAe
 rw [k1]
 simp only [Option.bind_some]
 rw [e1]
 simp only [Option.bind_some,zF1]
 unfold PTm
 cases hN:NF (nameP s) !=0
 case true=>rfl
 simp only [Bool.false_eq_true,if_false]
 rw [e2]
 simp only [Option.bind_some]
 generalize hT:({Name:=nameP s,Low:= {A:=0,B:=0,C:=0},High:= {A:=1000,B:=0,C:=0}}:Term)=T0
 generalize hr:zLz s=r
 have hrs:r.size≤1048577:=by
  rw [←hr]
  unfold zLz
  rw [extract_size hn (Nat.le_refl _)]
  omega
 have k2:zAd T0 r 0=some ((zEP r:Nat):Int):=by
  unfold zAd zEP
  refine zHL (bl r) zJx (fun i hi=>?_) ?_
  ·have hs:i<r.size:=by rw [←zP]; exact hi
   unfold zCJ zJx
   rw [if_pos (by simp; omega),zEw hi]
   simp only [Option.bind_some]
   rw [zK (by omega)]
   cases (bl r)[i] !=60<;>rfl
  ·unfold zCJ
   rw [if_neg (by rw [zP]; simp)]
   rfl
 rw [k2]
 have hc:=zMJ r
 have elow:zFS r 0 ((zEP r:Nat):Int)=some (zFW r):=zE4 (Nat.zero_le _) hc
 have hlow:(zFW r).size =zEP r:=by
  unfold zFW
  rw [extract_size (Nat.zero_le _) hc]
  omega
 simp only [Option.bind_some]
 have eh:(if decide (((zEP r:Nat):Int)< (r.size:Int)) then ((zFS r (w64 (((zEP r:Nat):Int)+1)) (r.size:Int)).bind fun x40=>(xW x40).bind fun x42=>if x42.Code !=0 then (some (Fl.ret (zM5 5))) else (some (Fl.nxt (x42.Version.A,x42.Version.B,x42.Version.C))))
   else (some (Fl.nxt ((1000:Int),(0:Int),(0:Int)))))=some (match zIV r with|some v=>Fl.nxt (v.A,v.B,v.C)|none=>Fl.ret (zM5 5)):=by
  unfold zIV
  by_cases hlt:zEP r<r.size
  ·rw [if_pos (by simp; omega),if_pos hlt,zK (by omega)]
   have e3:zFS r ((zEP r+1:Nat):Int) (r.size:Int)=some (r.extract (zEP r+1) r.size):=zE4 (by omega) (Nat.le_refl _)
   rw [e3]
   simp only [Option.bind_some]
   rw [zFo _ (by rw [extract_size (by omega) (Nat.le_refl _)]; omega)]
   simp only [Option.bind_some]
   cases (PV (r.extract (zEP r+1) r.size)).Code !=0<;>rfl
  ·rw [if_neg (by simp; omega),if_neg hlt]
   rfl
 have eh':=eh
 unfold zM5 zN6 zeroV at eh'
 rw [eh']
 cases hH:zIV r with
 |none=>rfl
 |some v=>
  simp only [Option.bind_some,Fl.go]
  rw [elow]
  simp only [Option.bind_some]
  have el:(if !(seq (zFW r) (bs [])) then ((if decide (((zFW r).size :Int)<2) then (some true) else ((zFS (zFW r) 0 2).bind fun x50=>some (!(seq x50 (bs [62,61]))))).bind fun v52=>if v52 then (some (Fl.ret (zM5 5))) else
     ((zFS (zFW r) 2 ((zFW r).size :Int)).bind fun x54=>(xW x54).bind fun x56=>if x56.Code !=0 then (some (Fl.ret (zM5 5))) else (some (Fl.nxt (x56.Version.A,x56.Version.B,x56.Version.C)))))
    else (some (Fl.nxt ((0:Int),(0:Int),(0:Int)))))=some (match zO1 r with|some v=>Fl.nxt (v.A,v.B,v.C)|none=>Fl.ret (zM5 5)):=by
   unfold zO1
   cases hq:seq (zFW r) (bs [])
   ·simp only [Bool.not_false,if_true,Bool.false_eq_true,if_false]
    by_cases h2:(zFW r).size <2
    ·rw [if_pos (by simp; omega)]
     simp [h2]
    ·have e5:zFS (zFW r) ((0:Nat):Int) ((2:Nat):Int)=some ((zFW r).extract 0 2):=zE4 (by omega) (by omega)
     rw [show ((0:Nat):Int)=0 from rfl,show ((2:Nat):Int)=2 from rfl] at e5
     rw [if_neg (by simp; omega),e5]
     simp only [Option.bind_some,h2,decide_false,Bool.false_or]
     cases seq ((zFW r).extract 0 2) (bs [62,61])
     ·rfl
     ·have e6:zFS (zFW r) ((2:Nat):Int) ((zFW r).size :Int)=some ((zFW r).extract 2 (zFW r).size):=zE4 (by omega) (Nat.le_refl _)
      rw [show ((2:Nat):Int)=2 from rfl] at e6
      simp only [Bool.not_true,Bool.false_eq_true,if_false]
      rw [e6]
      simp only [Option.bind_some]
      rw [zFo _ (by rw [extract_size (by omega) (Nat.le_refl _)]; omega)]
      simp only [Option.bind_some]
      cases (PV ((zFW r).extract 2 (zFW r).size)).Code !=0<;>rfl
   ·rfl
  have el':=el
  unfold zM5 zN6 zeroV at el'
  rw [el']
  cases hL:zO1 r with
  |none=>rfl
  |some u=>
   simp only [Option.bind_some,Fl.go]
   rw [zGa]
   simp only [Option.bind_some]
   unfold zSE
   have:({Name:=nameP s,Low:= {A:=u.A,B:=u.B,C:=u.C},High:= {A:=v.A,B:=v.B,C:=v.C}}:Term)= {Name:=nameP s,Low:=u,High:=v}:=rfl
   rw [this]
   cases TF {Name:=nameP s,Low:=u,High:=v} !=0<;>rfl
theorem zJp (s p:ByteArray):strings_CutPrefix s p=some (if begins s p then (s.extract p.size s.size,true) else (s,false)):=by
 unfold strings_CutPrefix wM yL begins
 by_cases h:p.size≤s.size
 ·have e1:zFS s ((0:Nat):Int) (p.size:Int)=some (s.extract 0 p.size):=zE4 (Nat.zero_le _) h
  have e2:zFS s (p.size:Int) (s.size:Int)=some (s.extract p.size s.size):=zE4 h (Nat.le_refl _)
  rw [show ((0:Nat):Int)=0 from rfl] at e1
  rw [if_pos (by simp; omega),e1]
  simp only [Option.bind_some,h,decide_true,Bool.true_and]
  cases seq (s.extract 0 p.size) p
  ·rfl
  ·simp only [Bool.not_true,Bool.false_eq_true,if_false]
   rw [e2]
   rfl
 ·rw [if_neg (by simp; omega)]
  simp [h]
theorem zIf (c:UInt8):∀(l:List UInt8),Lib.indexByte l c=if tw (fun x=>x !=(c.toNat:Int)) (l.map (fun b=>(b.toNat:Int)))=l.length then-1 else (tw (fun x=>x !=(c.toNat:Int)) (l.map (fun b=>(b.toNat:Int))):Int)
 |[]=>rfl
 |b::l=>by
  have ih:=zIf c l
  have hle:=zQa (fun x=>x !=(c.toNat:Int)) (l.map (fun b=>(b.toNat:Int)))
  rw [List.length_map] at hle
  rw [Lib.indexByte,List.map_cons,zHr]
  by_cases h:b=c
  ·subst h
   simp
  ·have h':((b.toNat:Int) !=(c.toNat:Int))=true:=by
    simp only [bne_iff_ne,ne_eq]
    intro e
    exact h (UInt8.toNat_inj.1 (by omega))
   rw [if_neg (by simpa using h)]
   simp only [h',if_true,List.length_cons]
   rw [ih]
   by_cases he:tw (fun x=>x !=(c.toNat:Int)) (l.map (fun b=>(b.toNat:Int)))=l.length
   ·rw [he]
    simp
   ·rw [if_neg he,if_neg (by simp),if_neg (by omega)]
    omega
theorem zFI (s p:ByteArray):begins s p=decide ((bl s).take (bl p).length =bl p):=by
 unfold begins
 rw [zG5,wR,List.drop_zero,Nat.sub_zero,←zP p,←zP s]
 by_cases h:(bl p).length ≤(bl s).length
 ·simp [h]
 ·have:¬((bl s).take (bl p).length =bl p):=by
   intro e
   have:=congrArg List.length e
   simp at this
   omega
  simp [h,this]
theorem zJ2 (s:ByteArray) (h:s.size≤1048577):zB3 s=some (PTm s):=by
 have k1:zAb s 0=some ((zIH s:Nat):Int):=by
  unfold zAb zIH
  refine zHL (bl s) zMb (fun i hi=>?_) ?_
  ·have hs:i<s.size:=by rw [←zP]; exact hi
   unfold zCL
   rw [if_pos (by simp; omega),zEw hi]
   simp only [Option.bind_some,zHB]
   rw [zK (by omega)]
   cases zMb (bl s)[i]<;>rfl
  ·unfold zCL
   rw [if_neg (by rw [zP]; simp)]
   rfl
 have hn:=zN3 s
 have e1:zFS s 0 ((zIH s:Nat):Int)=some (nameP s):=zE4 (Nat.zero_le _) hn
 have e2:zFS s ((zIH s:Nat):Int) (s.size:Int)=some (zLz s):=zE4 hn (Nat.le_refl _)
 unfold zB3 zEO zDZ
 rw [k1]
 simp only [Option.bind_some]
 rw [e1]
 simp only [Option.bind_some]
 rw [e2]
 simp only [Option.bind_some,zF0]
 unfold PTm
 cases hN:NF (nameP s) !=0
 case true=>rfl
 simp only [Bool.false_eq_true,if_false,zJp,Option.bind_some]
 generalize hr:zLz s=r
 have hrs:r.size≤1048577:=by
  rw [←hr]
  unfold zLz
  rw [extract_size hn (Nat.le_refl _)]
  omega
 have hlr:=zP r
 have b2:bl (bs [62,61])=[62,61]:=zL3 _
 have b1:bl (bs [60])=[60]:=zL3 _
 have s2:(bs [62,61]).size =2:=rfl
 have s1:(bs [60]).size =1:=rfl
 have fin:∀(l u:Version),((vJ ({Name:=nameP s,Low:=({A:=l.A,B:=l.B,C:=l.C}:Version),High:=({A:=u.A,B:=u.B,C:=u.C}:Version)}:Term)).bind fun x50=>if x50 !=0 then (some (zM5 x50)) else (some ({Code:=0,Term:=({Name:=nameP s,Low:=({A:=l.A,B:=l.B,C:=l.C}:Version),High:=({A:=u.A,B:=u.B,C:=u.C}:Version)}:Term)}:xL)))=
   some (zSE {Name:=nameP s,Low:=l,High:=u}):=by
  intro l u
  rw [zFY]
  simp only [Option.bind_some]
  unfold zSE
  cases TF {Name:=nameP s,Low:=l,High:=u} !=0<;>rfl
 have fin':=fin
 unfold zM5 zN6 zeroV at fin'
 cases hb:begins r (bs [62,61])
 ·
  simp only [Bool.false_eq_true,if_false,Option.bind_some,Fl.go]
  cases hb1:begins r (bs [60])
  ·simp only [Bool.false_eq_true,if_false,Option.bind_some,Fl.go]
   cases hq:seq r (bs [])
   ·
    have hne:bl r≠[]:=by
     intro e
     rw [zG5,e,zKi] at hq
     simp at hq
    have hcut:1≤zEP r:=by
     unfold zEP
     cases hx:bl r with
     |nil=>exact absurd hx hne
     |cons x l=>
      rw [zHr]
      rw [zFI,b1,hx] at hb1
      have:zJx x=true:=by
       unfold zJx
       simpa using hb1
      rw [this]
      simp
    have hlow:zO1 r=none:=by
     have hls:(zFW r).size =zEP r:=by
      unfold zFW
      rw [extract_size (Nat.zero_le _) (zMJ r)]
      omega
     unfold zO1
     have hs0:seq (zFW r) (bs [])=false:=by
      cases hs:seq (zFW r) (bs []) with
      |false=>rfl
      |true=>
       have:=congrArg ByteArray.size (zG0.1 hs)
       rw [hls] at this
       have hz:(bs []).size =0:=rfl
       omega
     rw [hs0,if_neg (by simp),if_pos]
     by_cases h2:(zFW r).size <2
     ·simp [h2]
     ·simp only [h2,decide_false,Bool.false_or]
      rw [zFI,b2] at hb
      rw [zG5,b2,wR,zFW,wR]
      simp only [List.drop_zero,Nat.sub_zero,List.take_take]
      rw [Nat.min_eq_left (by omega)]
      simpa using hb
    rw [hlow]
    cases zIV r<;>rfl
   ·
    have he:bl r=[]:=by
     rw [zG5,zKi] at hq
     simpa using hq
    have hz:r.size=0:=by rw [←hlr,he]; rfl
    have hc0:zEP r=0:=by unfold zEP; rw [he]; rfl
    have h1:zIV r=some zKS:=by
     unfold zIV
     rw [if_neg (by omega)]
    have h2:zO1 r=some zeroV:=by
     unfold zO1
     have:seq (zFW r) (bs [])=true:=by
      rw [zG5,zKi,zFW,wR,he]
      simp
     rw [this]
     rfl
    rw [h1,h2]
    exact fin' zeroV zKS
  ·
   have hx:=hb1
   rw [zFI,b1] at hx
   simp only [decide_eq_true_eq] at hx
   have hc0:zEP r=0:=by
    unfold zEP
    cases hy:bl r with
    |nil=>rfl
    |cons x l=>
     rw [hy] at hx
     simp at hx
     rw [zHr,hx]
     rfl
   have hpos:0<r.size:=by
    rw [←hlr]
    cases hy:bl r with
    |nil=>rw [hy] at hx; simp at hx
    |cons x l=>simp
   have h2:zO1 r=some zeroV:=by
    unfold zO1
    have:seq (zFW r) (bs [])=true:=by
     rw [zG5,zKi,zFW,wR,hc0]
     simp
    rw [this]
    rfl
   rw [h2]
   simp only [if_true]
   rw [s1,zDW _ (by rw [extract_size (by omega) (Nat.le_refl _)]; omega)]
   simp only [Option.bind_some]
   have hH:zIV r=(if (PV (r.extract 1 r.size)).Code !=0 then none else some (PV (r.extract 1 r.size)).Version):=by
    unfold zIV
    rw [if_pos (by omega),hc0]
   rw [hH]
   cases (PV (r.extract 1 r.size)).Code !=0
   ·simp only [Bool.false_eq_true,if_false,Option.bind_some,Fl.go,zHD,Bool.not_true]
    exact fin' zeroV (PV (r.extract 1 r.size)).Version
   ·rfl
 ·
  have hx:=hb
  rw [zFI,b2] at hx
  simp only [decide_eq_true_eq] at hx
  have hr2:2≤r.size:=by
   have:=congrArg List.length hx
   simp at this
   omega
  simp only [if_true]
  rw [s2]
  generalize hq:r.extract 2 r.size=q
  have hbq:bl q=(bl r).drop 2:=by
   rw [←hq,wR]
   rw [List.take_of_length_le (by simp; omega)]
  have hqs:q.size=r.size-2:=by rw [←hq,extract_size hr2 (Nat.le_refl _)]
  have hbr:bl r=62::61::bl q:=by
   rw [hbq]
   have:=List.take_append_drop 2 (bl r)
   rw [show (bl r).take 2=[62,61] from hx] at this
   exact this.symm
  have hcut:zEP r=zEP q+2:=by
   unfold zEP
   rw [hbr,zHr,zHr]
   simp [zJx]
  have hcq:=zMJ q
  have hix:strings_IndexByte q 60=some (if zEP q=q.size then-1 else (zEP q:Int)):=by
   unfold strings_IndexByte
   have:=zIf 60 q.data.toList
   rw [zJf] at this
   have e60:(60:Int).toNat.toUInt8 =60:=rfl
   rw [e60,this]
   rfl
  rw [hix]
  simp only [Option.bind_some]
  have hv33:(if decide ((if zEP q=q.size then (-1:Int) else (zEP q:Int))<0) then (some (q.size:Int)) else some (if zEP q=q.size then (-1:Int) else (zEP q:Int)))=some (zEP q:Int):=by
   by_cases e:zEP q=q.size
   ·rw [if_pos e,if_pos (by decide),e]
   ·rw [if_neg e,if_neg (by simp)]
  rw [hv33]
  simp only [Option.bind_some]
  have e3:zFS q 0 (zEP q:Int)=some (q.extract 0 (zEP q)):=zE4 (Nat.zero_le _) hcq
  have e4:zFS q (zEP q:Int) (q.size:Int)=some (q.extract (zEP q) q.size):=zE4 hcq (Nat.le_refl _)
  rw [e3]
  simp only [Option.bind_some]
  rw [zDW _ (by rw [extract_size (Nat.zero_le _) hcq]; omega)]
  simp only [Option.bind_some]
  rw [e4]
  simp only [Option.bind_some]
  have hlt:zFW r=bs [62,61]++q.extract 0 (zEP q):=by
   refine zGx.1 ?_
   rw [zFW,wR,zCy,wR,hbr,hcut,b2]
   rfl
  have hls:(zFW r).size =zEP q+2:=by
   rw [hlt,jW,s2,extract_size (Nat.zero_le _) hcq]
   omega
  have hlow:zO1 r=(if (PV (q.extract 0 (zEP q))).Code !=0 then none else some (PV (q.extract 0 (zEP q))).Version):=by
   have hs0:seq (zFW r) (bs [])=false:=by
    cases hs:seq (zFW r) (bs []) with
    |false=>rfl
    |true=>
     have:=congrArg ByteArray.size (zG0.1 hs)
     have hz:(bs []).size =0:=rfl
     omega
   have ha:seq ((zFW r).extract 0 2) (bs [62,61])=true:=by
    rw [zG5,wR,hlt,zCy,b2]
    simp
   have hc:(zFW r).extract 2 (zFW r).size =q.extract 0 (zEP q):=by
    refine zGx.1 ?_
    rw [wR,hls,hlt,zCy,b2]
    simp only [List.cons_append,List.nil_append,List.drop_succ_cons,List.drop_zero,Nat.add_sub_cancel]
    rw [List.take_of_length_le]
    rw [zP,extract_size (Nat.zero_le _) hcq]
    omega
   unfold zO1
   rw [hs0,ha,hc,if_neg (by simp),if_neg (by simp; omega)]
  have hhigh:zIV r=(if zEP q<q.size then (if (PV (q.extract (zEP q+1) q.size)).Code !=0 then none else some (PV (q.extract (zEP q+1) q.size)).Version) else some zKS):=by
   have hc:r.extract (zEP r+1) r.size=q.extract (zEP q+1) q.size:=by
    refine zGx.1 ?_
    rw [wR,wR,hbr,hcut,hqs]
    rw [show zEP q+2+1=(zEP q+1)+1+1 by omega]
    simp only [List.drop_succ_cons]
    congr 1
    omega
   unfold zIV
   rw [hc]
   by_cases e:zEP q<q.size
   ·rw [if_pos (by omega),if_pos e]
   ·rw [if_neg (by omega),if_neg e]
  rw [hlow,hhigh]
  cases hv:(PV (q.extract 0 (zEP q))).Code !=0
  case true=>
   simp only [if_true]
   split<;>rename_i hh1 hh2
   ·cases hh2
   ·rfl
  simp only [Bool.false_eq_true,if_false,Option.bind_some,Fl.go]
  generalize hw:q.extract (zEP q) q.size=w
  have hbw:bl w=(bl q).drop (zEP q):=by
   rw [←hw,wR,List.take_of_length_le]
   rw [List.length_drop,zP]
   exact Nat.le_refl _
  have hws:w.size=q.size-zEP q:=by rw [←hw,extract_size hcq (Nat.le_refl _)]
  by_cases hlt2:zEP q<q.size
  ·have hhead:(bl q)[zEP q]? =some 60:=by
    have key:∀(l:List Int),tw zJx l<l.length→l[tw zJx l]? =some 60:=by
     intro l
     induction l with
     |nil=>intro h; simp [tw] at h
     |cons x l ih=>
      intro h
      rw [zHr] at h ⊢
      cases hx:zJx x
      ·unfold zJx at hx
       simp at hx
       rw [hx]
       simp
      ·rw [hx] at h
       simp only [if_true,List.length_cons] at h ⊢
       rw [List.getElem?_cons_succ]
       exact ih (by omega)
    exact key (bl q) (by rw [zP]; exact hlt2)
   have hbeg:begins w (bs [60])=true:=by
    rw [zFI,b1,hbw]
    have:((bl q).drop (zEP q)).take 1=[60]:=by
     obtain ⟨hi,hv⟩:=List.getElem?_eq_some_iff.1 hhead
     rw [List.drop_eq_getElem_cons hi,hv]
     rfl
    simpa using this
   rw [hbeg,if_pos hlt2]
   simp only [if_true]
   have he:w.extract (bs [60]).size w.size=q.extract (zEP q+1) q.size:=by
    refine zGx.1 ?_
    rw [wR,wR,hbw,s1,List.drop_drop,hws]
    congr 1
   rw [he,zDW _ (by rw [extract_size (by omega) (Nat.le_refl _)]; omega)]
   simp only [Option.bind_some]
   cases hv2:(PV (q.extract (zEP q+1) q.size)).Code !=0
   ·simp only [Bool.false_eq_true,if_false,Option.bind_some,Fl.go,zHD,Bool.not_true]
    exact fin' (PV (q.extract 0 (zEP q))).Version (PV (q.extract (zEP q+1) q.size)).Version
   ·rfl
  ·have hbw0:bl w=[]:=by
    rw [hbw,List.drop_eq_nil_of_le]
    rw [zP]
    omega
   have hbeg:begins w (bs [60])=false:=by
    rw [zFI,b1,hbw0]
    rfl
   have hsw:seq w (bs [])=true:=by
    rw [zG5,zKi,hbw0]
    rfl
   rw [hbeg,if_neg hlt2]
   simp only [Bool.false_eq_true,if_false,Option.bind_some,Fl.go]
   rw [hsw]
   exact fin' (PV (q.extract 0 (zEP q))).Version zKS
theorem zPk {s:ByteArray} (h:(PTm s).Code =0):TF (PTm s).Term =0:=by
 unfold PTm at h ⊢
 split at h
 ·simp [zM5] at h
 ·rename_i h1
  rw [if_neg h1]
  split at h
  ·unfold zSE at h ⊢
   split at h
   ·rename_i h2
    simp only [zM5] at h
    rw [h] at h2
    simp at h2
   ·rename_i h2
    rw [if_neg h2]
    simpa using h2
  ·simp [zM5] at h
def zGh (out:List Term) (t:Term):Bool:=out.any (fun o=>seq o.Name t.Name)
def zCP:List Term→List Term→Bool
 |_,[]=>false
 |out,t::l=>zGh out t||zCP (out++[t]) l
def zHw:List ByteArray→Option (List Term)
 |[]=>some []
 |s::l=>if (PTm s).Code !=0 then none else (zHw l).map ((PTm s).Term :: ·)
def zIc (s:ByteArray):Option (List Term):=match zHw (zBB s) with
 |none=>none
 |some l=>if l.length≤8∧zCP [] l=false∧zIe l=s then some l else none
theorem zHv:∀{ps:List ByteArray} {l:List Term},zHw ps=some l→(∀t∈l,TF t=0)∧l.length=ps.length
 |[],l,h=>by cases h; simp
 |p::ps,l,h=>by
  simp only [zHw] at h
  split at h
  ·cases h
  ·rename_i h1
   obtain ⟨l',e,rfl⟩:=Option.map_eq_some_iff.1 h
   obtain ⟨h2,h3⟩:=zHv e
   refine ⟨fun t ht=>?_,by simp [h3]⟩
   rcases List.mem_cons.1 ht with rfl|ht
   ·exact zPk (by simpa using h1)
   ·exact h2 t ht
def goR:List Term→List ByteArray→Fl (List Term×Bool) (List Term)
 |out,[]=>.nxt out
 |out,s::ps=>if (PTm s).Code !=0 then .ret (out,false) else if zGh out (PTm s).Term then .ret (out,false) else goR (out++[(PTm s).Term]) ps
theorem zQA:∀(ps:List ByteArray) (out:List Term),match zHw ps with
  |none=>∃o,goR out ps= .ret (o,false)
  |some l=>(zCP out l=true→∃o,goR out ps= .ret (o,false))∧(zCP out l=false→goR out ps= .nxt (out++l))
 |[],out=>by simp [zHw,zCP,goR]
 |s::ps,out=>by
  have ih:=zQA ps (out++[(PTm s).Term])
  simp only [zHw,goR]
  cases h:(PTm s).Code !=0
  ·simp only [Bool.false_eq_true,if_false]
   cases hr:zHw ps with
   |none=>
    rw [hr] at ih
    simp only [Option.map_none]
    cases zGh out (PTm s).Term
    ·exact ih
    ·exact ⟨out,rfl⟩
   |some l=>
    rw [hr] at ih
    simp only [Option.map_some,zCP]
    cases zGh out (PTm s).Term
    ·simp only [Bool.false_or,Bool.false_eq_true,if_false]
     refine ⟨ih.1,fun h2=>?_⟩
     rw [ih.2 h2,List.append_assoc]
     rfl
    ·exact ⟨fun _=>⟨out,rfl⟩,fun h2=>by simp at h2⟩
  ·exact ⟨out,rfl⟩
theorem zNC {R:Type} (out:List Term) (n:ByteArray) (r:R) (h:out.length≤1048576) {b:Int→Option (Lp Int (Fl R Unit))}
  (hs:∀(i:Nat) (hi:i<out.length),b (i:Int)=some (if seq out[i].Name n then .done (.ret r) else .go ((i+1:Nat):Int))) (he:b (out.length:Int)=some (.done (.nxt ()))):
  loop b 0=some (if out.any (fun o=>seq o.Name n) then .ret r else .nxt ()):=by
 have key:=wS out (fun _ o=>if seq o.Name n then some r else none) (b:=b) (fun i hi=>by
  rw [hs i hi]
  cases seq out[i].Name n<;>rfl) he
 rw [key,zGO]
 cases out.any (fun o=>seq o.Name n)<;>rfl
theorem zIr (s:ByteArray) (ps:List ByteArray) (hps:∀p∈ps,p.size≤1048577) (hl:ps.length≤100000):∀(k i:Nat) (out:List Term),i+k=ps.length→out.length≤i→loop (zC6 s ps) (out,(i:Int))=some (goR out (ps.drop i))
 |0,i,out,hk,ho=>by
  have e:i=ps.length:=by omega
  subst e
  rw [vN]
  unfold zC6
  rw [if_neg (by simp),List.drop_length]
  rfl
 |k+1,i,out,hk,ho=>by
  have hi:i<ps.length:=by omega
  have ih:=zIr s ps hps hl k (i+1) (out++[(PTm ps[i]).Term]) (by omega) (by simp; omega)
  rw [vN,List.drop_eq_getElem_cons hi]
  conv=>lhs; unfold zC6
  rw [if_pos (by simp; omega),zL hi]
  simp only [Option.bind_some,zJs _ (hps _ (List.getElem_mem hi)),goR]
  cases h:(PTm ps[i]).Code !=0
  ·simp only [Bool.false_eq_true,if_false]
   have key:=zNC out (PTm ps[i]).Term.Name (out,false) (by omega) (b:=zCE s ps (out,(i:Int)) (PTm ps[i])) (by
    intro j hj
    unfold zCE
    rw [if_pos (by simp; omega)]
    simp only
    rw [zL hj]
    simp only [Option.bind_some]
    rw [zK (by omega)]
    cases seq out[j].Name (PTm ps[i]).Term.Name <;>rfl) (by
    unfold zCE
    rw [if_neg (by simp)])
   unfold zDG
   rw [key]
   have:out.any (fun o=>seq o.Name (PTm ps[i]).Term.Name)=zGh out (PTm ps[i]).Term :=rfl
   rw [this]
   cases zGh out (PTm ps[i]).Term
   ·simp only [Bool.false_eq_true,if_false,Option.bind_some,Fl.go]
    rw [jN (by simp; omega) (by simp; omega),zK (by omega)]
    simp only [Option.bind_some,Lp.elim]
    exact ih
   ·rfl
  ·rfl
theorem zLn (s:ByteArray) (h:s.size≤90000):∃o,zD6 s=some (match zIc s with|some l=>(l,true)|none=>(o,false)):=by
 have hlen:=zGQ s
 have hsz:∀p∈zBB s,p.size≤1048577:=fun p hp=>by have:=zGu s p hp; omega
 have key:=zIr s (zBB s) hsz (by omega) (zBB s).length 0 [] (by omega) (by simp)
 rw [List.drop_zero,show ((0:Nat):Int)=0 from rfl] at key
 unfold zD6
 rw [zIk s (by omega)]
 simp only [Option.bind_some]
 unfold zDl
 rw [key]
 have hg:=zQA (zBB s) []
 unfold zIc
 cases hr:zHw (zBB s) with
 |none=>
  rw [hr] at hg
  obtain ⟨o,e⟩:=hg
  rw [e]
  exact ⟨o,rfl⟩
 |some l=>
  rw [hr] at hg
  simp only at hg ⊢
  cases ha:zCP [] l
  ·have hg:=hg.2 ha
   simp only [List.nil_append] at hg
   rw [hg]
   simp only [Option.bind_some,Fl.go,true_and]
   obtain ⟨h1,h2⟩:=zHv hr
   by_cases h8:l.length≤8
   ·rw [if_pos (by simp; omega),zMs l (by omega) h1]
    simp only [Option.bind_some,h8,true_and]
    by_cases he:zIe l=s
    ·rw [if_pos he,he,zHD]
     exact ⟨[],rfl⟩
    ·rw [if_neg he]
     have:seq (zIe l) s=false:=by
      rw [seq_eq]; simpa using he
     rw [this]
     exact ⟨l,rfl⟩
   ·rw [if_neg (by simp; omega),if_neg (fun e=>h8 e.1)]
    exact ⟨l,rfl⟩
  ·obtain ⟨o,e⟩:=hg.1 ha
   rw [e,if_neg (by simp)]
   exact ⟨o,rfl⟩
theorem zKf (x2:List Int×Bool) (ps:List ByteArray) (hps:∀p∈ps,p.size≤1048577) (hl:ps.length≤100000):∀(k i:Nat) (out:List Term),i+k=ps.length→out.length≤i→
  loop (zAs x2 ps) (out,(i:Int))=some (match zHw (ps.drop i) with|none=>.ret ([],5)|some l=>.nxt (out++l))
 |0,i,out,hk,ho=>by
  have e:i=ps.length:=by omega
  subst e
  rw [vN]
  unfold zAs
  rw [if_neg (by simp),List.drop_length]
  simp [zHw,Lp.elim]
 |k+1,i,out,hk,ho=>by
  have hi:i<ps.length:=by omega
  have ih:=zKf x2 ps hps hl k (i+1) (out++[(PTm ps[i]).Term]) (by omega) (by simp; omega)
  rw [vN,List.drop_eq_getElem_cons hi]
  conv=>lhs; unfold zAs
  rw [if_pos (by simp; omega),zL hi]
  simp only [Option.bind_some,zJ2 _ (hps _ (List.getElem_mem hi)),zHw]
  cases h:(PTm ps[i]).Code !=0
  ·simp only [Bool.false_eq_true,if_false]
   rw [jN (by simp; omega) (by simp; omega),zK (by omega)]
   simp only [Option.bind_some,Lp.elim]
   refine Eq.trans ih ?_
   cases zHw (ps.drop (i+1)) with
   |none=>rfl
   |some l=>simp
  ·rfl
theorem zH1 (l:List Term) (h:l.length≤100000):∀(k i:Nat),i+k=l.length→loop (zAj l) (i:Int)=some (if zCP (l.take i) (l.drop i) then .ret true else .nxt ())
 |0,i,hk=>by
  have e:i=l.length:=by omega
  subst e
  rw [vN]
  unfold zAj
  rw [if_neg (by simp),List.drop_length]
  rfl
 |k+1,i,hk=>by
  have hi:i<l.length:=by omega
  have ih:=zH1 l h k (i+1) (by omega)
  have hb:zAj l (i:Int)=some (if zGh (l.take i) l[i] then .done (.ret true) else .go ((i+1:Nat):Int)):=by
   unfold zAj
   rw [if_pos (by simp; omega),zL hi]
   simp only [Option.bind_some]
   have e0:zHx l ((0:Nat):Int) (i:Int)=some ((l.drop 0).take (i-0)):=zK0 (Nat.zero_le _) (by omega)
   rw [show ((0:Nat):Int)=0 from rfl,List.drop_zero,Nat.sub_zero] at e0
   rw [e0]
   simp only [Option.bind_some]
   have ec:zV (l.take i) l[i]=some (zGh (l.take i) l[i]):=by
    have key:=wS (l.take i) (fun j o=>if seq o.Name l[i].Name then some (j:Int) else none) (b:=yU (l.take i) l[i]) (by
     intro j hj
     have hj':j<i:=by simp at hj; omega
     unfold yU zBM
     rw [if_pos (show decide ((j:Int)< ((l.take i).length :Int))=true by rw [decide_eq_true_eq]; omega),zL hj]
     simp only [Option.bind_some]
     rw [zK (by omega)]
     cases seq (l.take i)[j].Name l[i].Name <;>rfl) (by
     unfold yU
     rw [if_neg (by simp)])
    unfold zV yI yZ
    rw [key,zEu]
    unfold zGh
    rw [←zFD (zDV (fun o=>seq o.Name l[i].Name) (l.take i) 0)]
    cases vG (fun j o=>if seq o.Name l[i].Name then some (j:Int) else none) 0 (l.take i)<;>rfl
   rw [ec]
   simp only [Option.bind_some]
   rw [zK (by omega)]
   cases zGh (l.take i) l[i]<;>rfl
  rw [vN,hb,List.drop_eq_getElem_cons hi]
  have ea:zCP (l.take i) (l[i]::l.drop (i+1))=(zGh (l.take i) l[i]||zCP (l.take i++[l[i]]) (l.drop (i+1))):=rfl
  rw [ea]
  simp only [Option.bind_some]
  rw [List.take_succ_eq_append_getElem hi] at ih
  by_cases ht:zGh (l.take i) l[i]=true
  ·rw [if_pos ht,ht]
   rfl
  ·have ht':zGh (l.take i) l[i]=false:=by simpa using ht
   rw [if_neg ht,ht',Bool.false_or]
   exact ih
theorem zKv (l:List Term) (h:l.length≤100000):zAY l=some (zCP [] l):=by
 have:=zH1 l h l.length 0 (by omega)
 unfold zAY zC4
 rw [show ((0:Nat):Int)=0 from rfl] at this
 rw [this]
 simp only [List.take_zero,List.drop_zero]
 cases zCP [] l<;>rfl
theorem zRs:∀{l:List Term},(∀t∈l,TF t=0)→tsF l=0:=by
 intro l h
 unfold tsF
 have:vG (fun _ t=>if TF t !=0 then some (TF t) else none) 0 l=none:=by
  rw [zF2]
  intro j hj
  rw [h _ (List.getElem_mem hj)]
  rfl
 rw [this]
 rfl
def zGp (d:zD):Option (List Term):=match fileOf d (bs [114,111,111,116,115]) with
 |none=>some []
 |some f=>zIc (b2s f.Data)
theorem zOx:zIc (b2s [])=some []:=by
 have hl:zBB (b2s [])=[]:=by
  unfold zBB
  have hp:uS 10 (b2s [])=[b2s []]:=by
   unfold uS
   rw [show bl (b2s [])=[] from zH7 (by simp)]
   rfl
  rw [hp,if_pos (by rfl)]
  rfl
 unfold zIc
 rw [hl]
 simp [zHw,zCP,zIe,zOn]
 rfl
theorem zOm {d:zD} (hg:d.good) (hb:Byt d):zAD d=some (match zGp d with|some l=>(l,0)|none=>([],5)):=by
 unfold zAD
 have key:∀(x2:List Int×Bool),(b2s x2.1).size ≤90000→((kT (b2s x2.1)).bind fun x4=>(jO x2 x4 (([]:List Term),0)).bind (Fl.go some fun v23=>(uH v23).bind fun x24=>
   (if !(seq x24 (b2s x2.1)) then (some true) else (if decide ((v23.length:Int)>8) then (some true) else ((zAY v23).bind fun x28=>some x28))).bind fun v30=>if v30 then (some (([]:List Term),5)) else (some (v23,0))))=
   some (match zIc (b2s x2.1) with|some l=>(l,(0:Int))|none=>([],5)):=by
  intro x2 hx
  generalize hs:b2s x2.1=s
  rw [hs] at hx
  have hlen:=zGQ s
  have hsz:∀p∈zBB s,p.size≤1048577:=fun p hp=>by have:=zGu s p hp; omega
  have k1:=zKf x2 (zBB s) hsz (by omega) (zBB s).length 0 [] (by omega) (by simp)
  rw [List.drop_zero,show ((0:Nat):Int)=0 from rfl] at k1
  rw [zIg s (by omega)]
  simp only [Option.bind_some]
  unfold jO zIc
  rw [k1]
  cases hr:zHw (zBB s) with
  |none=>rfl
  |some l=>
   obtain ⟨h1,h2⟩:=zHv hr
   simp only [List.nil_append,Option.bind_some,Fl.go]
   rw [zJ4 l (by omega),zRs h1]
   simp only [Option.bind_some,bne_self_eq_false,Bool.false_eq_true,if_false]
   by_cases he:zIe l=s
   ·rw [he,zHD]
    simp only [Bool.not_true,Bool.false_eq_true,if_false]
    by_cases h8:l.length≤8
    ·rw [if_neg (by simp; omega),zKv l (by omega)]
     simp only [Option.bind_some,h8,true_and,and_true]
     cases zCP [] l<;>rfl
    ·rw [if_pos (by simp; omega),if_neg (fun e=>h8 e.1)]
     rfl
   ·have:seq (zIe l) s=false:=by rw [seq_eq]; simpa using he
    rw [this]
    simp only [Bool.not_false,if_true,Option.bind_some]
    rw [if_neg (fun e=>he e.2.2)]
 have hsize:∀l:List Int,(∀c∈l,0≤c∧c≤255)→(b2s l).size =l.length:=fun l h=>by rw [←zP,zH7 h]
 unfold zGp
 rcases zG3 d (bs [114,111,111,116,115]) hg with ⟨k,hk,_,e2,e3⟩|⟨_,e2,e3⟩
 ·rw [e2,e3]
  have hm:=List.getElem_mem hk
  have hd:=hg.data _ hm
  simp only [Option.bind_some]
  exact key (d.Files[k].Data,true) (by show (b2s d.Files[k].Data).size ≤90000; rw [hsize _ (hb _ hm)]; omega)
 ·rw [e2,e3]
  simp only [Option.bind_some]
  have:=key ([],false) (by show (b2s []).size ≤90000; rw [hsize _ (by simp)]; simp)
  rw [zOx] at this
  exact this
theorem zOW {d:zD} (hg:d.good) (hb:Byt d):∃o,zEC d=some (match zGp d with|some l=>(l,true)|none=>(o,false)):=by
 unfold zEC zGp
 rcases zG3 d (bs [114,111,111,116,115]) hg with ⟨k,hk,e1,_,e3⟩|⟨e1,_,e3⟩
 ·rw [e1,e3]
  have hm:=List.getElem_mem hk
  have hd:=hg.data _ hm
  obtain ⟨o,e⟩:=zLn (b2s d.Files[k].Data) (by rw [←zP,zH7 (hb _ hm)]; omega)
  simp only [Option.bind_some]
  rw [if_neg (by simp),zL hk]
  simp only [Option.bind_some]
  rw [e]
  refine ⟨o,?_⟩
  cases zIc (b2s d.Files[k].Data)<;>rfl
 ·rw [e1,e3]
  exact ⟨[],rfl⟩
theorem zKj:∀{l1 l2:List Int},l1.Pairwise (· < ·)→l2.Pairwise (· < ·)→(∀x,x∈l1↔x∈l2)→l1=l2
 |[],[],_,_,_=>rfl
 |[],y::l2,_,_,h=>by have:=(h y).2 (by simp); simp at this
 |x::l1,[],_,_,h=>by have:=(h x).1 (by simp); simp at this
 |x::l1,y::l2,h1,h2,h=>by
  rw [List.pairwise_cons] at h1 h2
  have hxy:x=y:=by
   have hx:=(h x).1 (by simp)
   have hy:=(h y).2 (by simp)
   rcases List.mem_cons.1 hx with e|hx
   ·exact e
   ·rcases List.mem_cons.1 hy with e|hy
    ·exact e.symm
    ·have:=h1.1 y hy
     have:=h2.1 x hx
     omega
  subst hxy
  congr 1
  refine zKj h1.2 h2.2 fun z=>?_
  constructor
  ·intro hz
   rcases List.mem_cons.1 ((h z).1 (List.mem_cons_of_mem _ hz)) with e|hz'
   ·have:=h1.1 z hz; omega
   ·exact hz'
  ·intro hz
   rcases List.mem_cons.1 ((h z).2 (List.mem_cons_of_mem _ hz)) with e|hz'
   ·have:=h2.1 z hz; omega
   ·exact hz'
theorem zGv {l:List Int} (h:l.Pairwise (· < ·)) {i j:Nat} (hi:i<l.length) (hj:j<l.length) (hij:i<j):l[i]<l[j]:=List.pairwise_iff_getElem.1 h i j hi hj hij
theorem zQl (l:List Int) (v:Int) (hs:l.Pairwise (· < ·)) (hv:v∉l) (hl:l.length≤1048576):
  ∃r,zEQ l v=some r∧r.Pairwise (· < ·)∧(∀x,x∈r↔x∈l∨x=v)∧r.length=l.length+1:=by
 obtain ⟨⟨acc,inn⟩,e,h1,h2,h3,h4⟩:=jF (b:=zEk l v)
  (fun i s=>s.2.2=(i:Int)∧s.1.Pairwise (· < ·)∧(∀x,x∈s.1↔x∈l.take i∨(s.2.1=true∧x=v))∧s.1.length=i+(if s.2.1 then 1 else 0)∧(s.2.1=false→∀x∈l.take i,x<v)∧(s.2.1=true→∀x∈l.drop i,v<x)) l.length
  (fun t=>t.1.Pairwise (· < ·)∧(∀x,x∈t.1↔x∈l∨(t.2=true∧x=v))∧t.1.length=l.length+(if t.2 then 1 else 0)∧(t.2=false→∀x∈l,x<v)) (by
  rintro i ⟨acc,inn,j⟩ hi ⟨hj,hp,hm,hlen,hf,ht⟩
  simp only at hj hp hm hlen hf ht
  subst hj
  have hlt:∀x∈l.take i,x<l[i]:=by
   intro x hx
   obtain ⟨k,hk,rfl⟩:=List.mem_iff_getElem.1 hx
   rw [List.getElem_take]
   have:k<i:=by simp at hk; omega
   exact zGv hs (by omega) hi this
  have htk:l.take (i+1)=l.take i++[l[i]]:=List.take_succ_eq_append_getElem hi
  have hdr:l.drop i=l[i]::l.drop (i+1):=List.drop_eq_getElem_cons hi
  have hne:l[i]≠v:=fun e=>hv (e▸List.getElem_mem hi)
  have hal:acc.length≤1048577:=by rw [hlen]; split<;>omega
  unfold zEk
  rw [if_pos (by simp; omega),zL hi]
  simp only [Option.bind_some]
  rw [zK (by omega)]
  refine .inl ?_
  cases inn
  ·by_cases hgt:l[i]>v
   ·rw [if_pos (by simpa using hgt)]
    simp only [Bool.not_false,Option.bind_some,if_true]
    rw [jN (by simp; omega) (by simp; omega)]
    simp only [Option.bind_some]
    rw [jN (by simp; omega) (by simp; omega)]
    refine ⟨_,rfl,rfl,?_,?_,?_,by simp,?_⟩
    ·simp only
     have hav:∀x∈acc,x<v:=fun x hx=>hf rfl x (by have:=(hm x).1 hx; simpa using this)
     rw [List.pairwise_append,List.pairwise_append]
     refine ⟨⟨hp,by simp,fun x hx y hy=>by simp at hy; rw [hy]; exact hav x hx⟩,by simp,fun x hx y hy=>?_⟩
     simp at hy
     rw [hy]
     rcases List.mem_append.1 hx with hx|hx
     ·have:=hav x hx; omega
     ·simp at hx; omega
    ·intro x
     have:=hm x
     simp only [List.mem_append,List.mem_singleton,htk]
     simp at this
     rw [this]
     simp
     constructor<;>(intro h; rcases h with (h|h)|h<;>simp [h])
    ·simp; simp at hlen; omega
    ·intro _ x hx
     have:l[i]<x:=by
      obtain ⟨k,hk,rfl⟩:=List.mem_iff_getElem.1 hx
      rw [List.getElem_drop]
      simp at hk
      exact zGv hs hi (by omega) (by omega)
     omega
   ·rw [if_neg (by simpa using hgt)]
    simp only [Option.bind_some,Bool.false_eq_true,if_false]
    rw [jN (by simp; omega) (by simp; omega)]
    refine ⟨_,rfl,rfl,?_,?_,?_,?_,by simp⟩
    ·simp only
     rw [List.pairwise_append]
     refine ⟨hp,by simp,fun x hx y hy=>?_⟩
     simp at hy
     rw [hy]
     have:=(hm x).1 hx
     exact hlt x (by simpa using this)
    ·intro x
     have:=hm x
     simp only [List.mem_append,List.mem_singleton,htk]
     simp at this
     rw [this]
     simp
    ·simp; simp at hlen; omega
    ·intro _ x hx
     rw [htk] at hx
     rcases List.mem_append.1 hx with hx|hx
     ·exact hf rfl x hx
     ·simp at hx; omega
  ·have hlv:v<l[i]:=ht rfl _ (by rw [hdr]; exact List.mem_cons_self)
   rw [if_pos (by simpa using hlv)]
   simp only [Bool.not_true,Option.bind_some,Bool.false_eq_true,if_false]
   rw [jN (by simp; omega) (by simp; omega)]
   refine ⟨_,rfl,rfl,?_,?_,?_,by simp,?_⟩
   ·simp only
    rw [List.pairwise_append]
    refine ⟨hp,by simp,fun x hx y hy=>?_⟩
    simp at hy
    rw [hy]
    rcases (hm x).1 hx with hx|⟨_,hx⟩
    ·exact hlt x hx
    ·omega
   ·intro x
    have:=hm x
    simp only [List.mem_append,List.mem_singleton,htk]
    rw [this]
    simp
    constructor<;>(intro h; rcases h with (h|h)|h<;>simp [h])
   ·simp; simp at hlen; omega
   ·intro _ x hx
    exact ht rfl x (by rw [hdr]; exact List.mem_cons_of_mem _ hx)) (by
  rintro ⟨acc,inn,j⟩ ⟨hj,hp,hm,hlen,hf,ht⟩
  simp only at hj hp hm hlen hf ht
  subst hj
  unfold zEk
  rw [if_neg (by simp)]
  rw [List.take_length] at hm hf
  exact ⟨_,rfl,hp,hm,hlen,hf⟩) l.length 0 (([]:List Int),false,0) (by omega) ⟨rfl,by simp,by simp,by simp,by simp,by simp⟩
 simp only at h1 h2 h3 h4
 unfold zEQ zFh
 rw [e]
 simp only [Option.bind_some]
 cases inn
 ·simp only [Bool.not_false,if_true]
  simp at h3
  rw [jN (by simp; omega) (by simp; omega)]
  refine ⟨_,rfl,?_,?_,by simp; omega⟩
  ·rw [List.pairwise_append]
   refine ⟨h1,by simp,fun x hx y hy=>?_⟩
   simp at hy
   rw [hy]
   have:=(h2 x).1 hx
   exact h4 rfl x (by simpa using this)
  ·intro x
   have:=h2 x
   simp at this
   simp [this]
 ·refine ⟨_,rfl,h1,?_,by simpa using h3⟩
  intro x
  have:=h2 x
  simpa using this
def zAF (s:ByteArray):List ByteArray:=(uS 32 s).filter (fun w=> !(seq w (bs [])))
theorem zMq (c:Int) (s:ByteArray):∀p∈uS c s,p.size≤s.size:=by
 intro p hp
 have hb:bl p∈zHg c (bl s):=by
  rw [←zJi]
  exact List.mem_map_of_mem hp
 have:=zIS c (bl s) _ hb
 rw [zP,zP] at this
 exact this
theorem zIF (s:ByteArray):∀p∈zAF s,p.size≤s.size:=fun p hp=>zMq 32 s p (List.mem_filter.1 hp).1
theorem zLv (s:ByteArray) (h:s.size≤1048577):zDM s=some (zAF s):=by
 have hl:=zGe 32 s
 have key:=zCI (uS 32 s) (fun _ l w=>if !(seq w (bs [])) then l++[w] else l) (fun i l=>l.length≤i) (b:=zC5 (uS 32 s)) (by
  intro i l hi hI
  unfold zC5
  rw [if_pos (by simp; omega)]
  simp only
  rw [zL hi]
  simp only [Option.bind_some]
  rw [jN (by simp; omega) (by simp; omega),zK (by omega)]
  cases seq (uS 32 s)[i] (bs [])
  ·exact ⟨rfl,by simp; omega⟩
  ·exact ⟨rfl,by simp; omega⟩) (by
  intro l
  unfold zC5
  rw [if_neg (by simp)]) (uS 32 s).length 0 [] (by omega) (by simp)
 unfold zDM
 rw [zG7 s 32 h]
 simp only [Option.bind_some]
 unfold zDh
 rw [show ((0:Nat):Int)=0 from rfl] at key
 rw [key.1,List.drop_zero,zG8 (fun w=> !(seq w (bs [])))]
 rfl
theorem zLV (s:ByteArray) (h:s.size≤1048575):zD2 s=some (zAF s):=by
 have hl:=zGe 32 s
 have e:=zHP s 32 (by omega)
 rw [show (((32:UInt8).toNat :Nat):Int)=32 from rfl] at e
 have key:=zPh (fun w:ByteArray=>seq w (bs [])) (uS 32 s) ByteArray.empty (by omega) (b1:=xD (uS 32 s)) (b2:=xA) (by
  intro i hi
  unfold xD jA
  rw [if_pos (by simp; omega),zL hi]
  simp only [Option.bind_some]
  rw [zK (by omega)]
  split<;>rfl) (by
  unfold xD
  rw [if_neg (by simp)]) (by
  intro xs i j hj hij hl2 hm
  unfold xA jA
  simp only
  rw [if_pos (by simp; omega),zL hj]
  simp only [Option.bind_some]
  rw [zL (show i<xs.length by omega),zK (show j<_ by omega),zK (show i<_ by omega)]
  cases seq xs[j] (bs [])<;>simp) (by
  intro xs i hl2
  unfold xA
  rw [if_neg (by simp)])
 unfold zD2
 rw [show bs [32]=⟨#[32]⟩ from rfl,e]
 simp only [Option.bind_some]
 have e2:yO (uS 32 s)=some (zAF s):=key
 rw [e2]
 rfl
def kS (c:List Pack) (w:List ByteArray):Int:=if w.length≠2 then-1 else if (PV (w.getD 1 (bs []))).Code !=0 then-1 else zIt c (w.getD 0 (bs [])) (PV (w.getD 1 (bs []))).Version
theorem zIn (c:List Pack) (w:List ByteArray):kS c w= -1∨(0≤kS c w∧kS c w<c.length):=by
 unfold kS
 split
 ·exact .inl rfl
 ·split
  ·exact .inl rfl
  ·exact zMp _ _ _
theorem zKu (c:List Pack) (w:List ByteArray) (hc:c.length≤1048576) (hw:∀p∈w,p.size≤1048577):zCi c w=some (kS c w):=by
 unfold zCi kS
 match w,hw with
 |[],_=>rfl
 |[_],_=>rfl
 |[x,y],hw=>
  have e0:idx [x,y] 0=some x:=rfl
  have e1:idx [x,y] 1=some y:=rfl
  rw [if_neg (by simp),e1,e0]
  simp only [Option.bind_some,zDW y (hw y (by simp))]
  rw [if_neg (show ¬([x,y].length ≠2) by simp)]
  show (if (PV y).Code !=0 then some (-1) else _)=some (if (PV y).Code !=0 then-1 else zIt c x (PV y).Version)
  rw [zJG c x _ hc]
  cases (PV y).Code !=0<;>rfl
 |_::_::_::r,_=>
  rw [if_pos (by simp; omega),if_pos (by simp)]
theorem zNb (c:List Pack) (w:List ByteArray) (hc:c.length≤1048576) (hw:∀p∈w,p.size≤1048577):(if (w.length:Int)==2 then ((idx w 1).bind fun x36=>(xW x36).bind fun x38=>if x38.Code==0 then ((idx w 0).bind fun x41=>(zAo c x41 x38.Version).bind fun x43=>some x43) else (some (-1))) else (some (-1)))=some (kS c w):=by
 unfold kS
 match w,hw with
 |[],_=>rfl
 |[_],_=>rfl
 |[x,y],hw=>
  have e0:idx [x,y] 0=some x:=rfl
  have e1:idx [x,y] 1=some y:=rfl
  rw [if_pos (by simp),e1,e0]
  simp only [Option.bind_some,zFo y (hw y (by simp))]
  rw [if_neg (show ¬([x,y].length ≠2) by simp)]
  show (if (PV y).Code ==0 then _ else some (-1))=some (if (PV y).Code !=0 then-1 else zIt c x (PV y).Version)
  rw [zJ9 c x _ hc,bne]
  cases (PV y).Code ==0<;>rfl
 |_::_::_::r,_=>
  rw [if_neg (by simp; omega),if_pos (by simp)]
def zGd (c:List Pack):Nat→List Int→List ByteArray→Fl xK (List Int)
 |_,out,[]=>.nxt out
 |i,out,s::ps=>if kS c (zAF s)<0∨kS c (zAF s)∈out then .ret {Code:=5,At:=i,Set:=[]} else zGd c (i+1) (out++[kS c (zAF s)]) ps
def zTk (t:Fl xK (List Int)):xK:=match t with
 | .ret r=>r
 | .nxt l=> {Code:=0,At:=0,Set:=l.mergeSort (fun x y=>decide (x≤y))}
def PS (c:List Pack) (s:ByteArray):xK:=if s.size>4000 then {Code:=2,At:=0,Set:=[]} else zTk (zGd c 0 [] (zBB s))
theorem zGo (c:List Pack):∀(ps:List ByteArray) (i:Nat) (out:List Int),out.Nodup→(∀k∈out,0≤k∧k<c.length)→match zGd c i out ps with
  | .ret r=>r.Code=5∧r.Set=[]
  | .nxt l=>l.Nodup∧(∀k∈l,0≤k∧k<c.length)
 |[],_,out,h1,h2=>⟨h1,h2⟩
 |s::ps,i,out,h1,h2=>by
  simp only [zGd]
  split
  ·rename_i h
   split at h
   ·cases h; exact ⟨rfl,rfl⟩
   ·rename_i hn
    rw [not_or] at hn
    have:=zGo c ps (i+1) (out++[kS c (zAF s)]) (by
     rw [List.nodup_append]
     refine ⟨h1,by simp,fun a ha b hb=>?_⟩
     simp only [List.mem_singleton] at hb
     subst hb
     intro e
     subst e
     exact hn.2 ha) (by
     intro k hk
     rcases List.mem_append.1 hk with hk|hk
     ·exact h2 k hk
     ·simp only [List.mem_singleton] at hk
      subst hk
      rcases zIn c (zAF s) with h|h
      ·omega
      ·exact h)
    rw [h] at this
    exact this
  ·rename_i l h
   split at h
   ·cases h
   ·rename_i hn
    rw [not_or] at hn
    have:=zGo c ps (i+1) (out++[kS c (zAF s)]) (by
     rw [List.nodup_append]
     refine ⟨h1,by simp,fun a ha b hb=>?_⟩
     simp only [List.mem_singleton] at hb
     subst hb
     intro e
     subst e
     exact hn.2 ha) (by
     intro k hk
     rcases List.mem_append.1 hk with hk|hk
     ·exact h2 k hk
     ·simp only [List.mem_singleton] at hk
      subst hk
      rcases zIn c (zAF s) with h|h
      ·omega
      ·exact h)
    rw [h] at this
    exact this
theorem zPa {l:List Int} (h:l.Nodup):(l.mergeSort (fun x y=>decide (x≤y))).Pairwise (· < ·)∧∀x,x∈l.mergeSort (fun x y=>decide (x≤y))↔x∈l:=by
 have hp:(l.mergeSort (fun x y=>decide (x≤y))).Perm l:=List.mergeSort_perm _ _
 have hs:(l.mergeSort (fun x y=>decide (x≤y))).Pairwise (fun x y=>(decide (x≤y))=true):=List.pairwise_mergeSort (fun a b c h1 h2=>by simp at h1 h2 ⊢; omega) (fun a b=>by simp; omega) l
 have hn:(l.mergeSort (fun x y=>decide (x≤y))).Nodup :=hp.nodup_iff.2 h
 refine ⟨?_,fun x=>hp.mem_iff⟩
 rw [List.pairwise_iff_getElem] at hs ⊢
 intro i j hi hj hij
 have h1:=hs i j hi hj hij
 have h2:=(List.pairwise_iff_getElem.1 hn) i j hi hj hij
 simp only [decide_eq_true_eq] at h1
 omega
theorem zNl (c:List Pack) (s:ByteArray):(((PS c s).Code =2∨(PS c s).Code =5)∧(PS c s).Set =[])∨(PS c s).Code =0∧(PS c s).At =0∧(PS c s).Set.Pairwise (· < ·)∧∀k∈(PS c s).Set,0≤k∧k<c.length:=by
 have key:∀r,r=PS c s→((r.Code=2∨r.Code=5)∧r.Set=[])∨r.Code=0∧r.At=0∧r.Set.Pairwise (· < ·)∧∀k∈r.Set,0≤k∧k<c.length:=by
  intro r hr
  unfold PS at hr
  split at hr
  ·subst hr
   exact .inl ⟨.inl rfl,rfl⟩
  ·have:=zGo c (zBB s) 0 [] (by simp) (by simp)
   cases h:zGd c 0 [] (zBB s) with
   |ret q=>
    rw [h] at this hr
    simp only [zTk] at hr
    subst hr
    exact .inl ⟨.inr this.1,this.2⟩
   |nxt l=>
    rw [h] at this hr
    simp only [zTk] at hr
    subst hr
    obtain ⟨h1,h2⟩:=zPa this.1
    exact .inr ⟨rfl,rfl,h1,fun k hk=>this.2 k ((h2 k).1 hk)⟩
 exact key _ rfl
section
variable {c:List Pack} (hc:c.length≤1048576)
include hc
theorem zIj (ps:List ByteArray) (hps:∀p∈ps,p.size≤100000) (hl:ps.length≤100000):∀(k i:Nat) (S out:List Int),i+k=ps.length→out.length≤i→S.length≤i→S.Pairwise (· < ·)→(∀x,x∈S↔x∈out)→
  ∃t,loop (zAI c ps) (S,(i:Int))=some t∧match zGd c i out (ps.drop i) with
   | .ret r=>t= .ret r
   | .nxt l=>∃S',t= .nxt S'∧S'.Pairwise (· < ·)∧∀x,x∈S'↔x∈l
 |0,i,S,out,hk,ho,hS,h1,h2=>by
  have e:i=ps.length:=by omega
  subst e
  rw [vN]
  unfold zAI
  rw [if_neg (by simp),List.drop_length]
  exact ⟨_,rfl,S,rfl,h1,h2⟩
 |k+1,i,S,out,hk,ho,hS,h1,h2=>by
  have hi:i<ps.length:=by omega
  have hm:=List.getElem_mem hi
  have hw:=zIF ps[i]
  have hps1:=hps _ hm
  have hb:zAI c ps (S,(i:Int))=if kS c (zAF ps[i])<0∨kS c (zAF ps[i])∈S then some (.done (.ret {Code:=5,At:=i,Set:=[]})) else (zEQ S (kS c (zAF ps[i]))).bind fun x51=>some (.go (x51,((i+1:Nat):Int))):=by
   unfold zAI
   rw [if_pos (by simp; omega),zL hi]
   simp only [Option.bind_some,zLv _ (show ps[i].size ≤1048577 by omega)]
   rw [zNb c _ hc (fun p hp=>by have:=hw p hp; omega)]
   simp only [Option.bind_some]
   by_cases hneg:kS c (zAF ps[i])<0
   ·rw [if_pos (by simpa using hneg),if_pos (.inl hneg)]
    rfl
   ·rw [if_neg (by simpa using hneg),zK8 S _ (by omega),zK (by omega)]
    simp only [Option.bind_some]
    by_cases hmem:kS c (zAF ps[i])∈S
    ·rw [if_pos (by simpa using hmem),if_pos (.inr hmem)]
    ·rw [if_neg (by simpa using hmem),if_neg (by rw [not_or]; exact ⟨hneg,hmem⟩)]
  rw [vN,hb,List.drop_eq_getElem_cons hi]
  simp only [zGd]
  by_cases hbad:kS c (zAF ps[i])<0∨kS c (zAF ps[i])∈out
  ·rw [if_pos hbad,if_pos (by rw [h2]; exact hbad)]
   exact ⟨_,rfl,rfl⟩
  ·have hbad2:¬(kS c (zAF ps[i])<0∨kS c (zAF ps[i])∈S):=by rw [h2]; exact hbad
   rw [if_neg hbad,if_neg hbad2]
   obtain ⟨r,er,r1,r2,r3⟩:=zQl S (kS c (zAF ps[i])) h1 (fun h=>hbad2 (.inr h)) (by omega)
   rw [er]
   simp only [Option.bind_some,Lp.elim]
   refine zIj ps hps hl k (i+1) r (out++[kS c (zAF ps[i])]) (by omega) (by simp; omega) (by omega) r1 (fun x=>?_)
   rw [r2,h2,List.mem_append,List.mem_singleton]
end
section
variable {c:List Pack} (hc:c.length≤1048576)
include hc
theorem zLt (s:ByteArray) (h:s.size≤90000):zCZ c s=some (PS c s):=by
 unfold zCZ PS
 by_cases h4:s.size>4000
 ·rw [if_pos (by simp; omega),if_pos h4]
 ·rw [if_neg (by simp; omega),if_neg h4,zIk s (by omega)]
  simp only [Option.bind_some]
  have hlen:=zGQ s
  obtain ⟨t,e,ht⟩:=zIj hc (zBB s) (fun p hp=>by have:=zGu s p hp; omega) (by omega) (zBB s).length 0 [] [] (by omega) (by simp) (by simp) (by simp) (by simp)
  rw [List.drop_zero] at ht
  unfold zDd
  rw [show ((0:Nat):Int)=0 from rfl] at e
  rw [e]
  have hg:=zGo c (zBB s) 0 [] (by simp) (by simp)
  cases hr:zGd c 0 [] (zBB s) with
  |ret r=>
   rw [hr] at ht
   simp only at ht
   subst ht
   rfl
  |nxt l=>
   rw [hr] at ht hg
   obtain ⟨S',rfl,h1,h2⟩:=ht
   obtain ⟨g1,g2⟩:=zPa hg.1
   have:S'=l.mergeSort (fun x y=>decide (x≤y)):=zKj h1 g1 (fun x=>by rw [h2,g2])
   subst this
   rfl
end
section
variable {c:List Pack} (hc:c.length≤1048576)
include hc
theorem zHA (ps:List ByteArray) (hps:∀p∈ps,p.size≤100000) (hl:ps.length≤100000):∀(k i:Nat) (out:List Int),i+k=ps.length→out.length≤i→loop (kZ c ps) (out,(i:Int))=some (zGd c i out (ps.drop i))
 |0,i,out,hk,ho=>by
  have e:i=ps.length:=by omega
  subst e
  rw [vN]
  unfold kZ
  rw [if_neg (by simp),List.drop_length]
  rfl
 |k+1,i,out,hk,ho=>by
  have hi:i<ps.length:=by omega
  have hm:=List.getElem_mem hi
  have hw:=zIF ps[i]
  have hps1:=hps _ hm
  have hb:kZ c ps (out,(i:Int))=if kS c (zAF ps[i])<0∨kS c (zAF ps[i])∈out then some (.done (.ret {Code:=5,At:=i,Set:=[]})) else some (.go (out++[kS c (zAF ps[i])],((i+1:Nat):Int))):=by
   unfold kZ
   rw [if_pos (by simp; omega),zL hi]
   simp only [Option.bind_some,zLV _ (show ps[i].size ≤1048575 by omega)]
   rw [zKu c _ hc (fun p hp=>by have:=hw p hp; omega)]
   simp only [Option.bind_some]
   rw [jN (by simp; omega) (by simp; omega),zK (by omega)]
   by_cases hneg:kS c (zAF ps[i])<0
   ·rw [if_pos (by simpa using hneg),if_pos (.inl hneg)]
    rfl
   ·rw [if_neg (by simpa using hneg),zIv out _ (by omega)]
    simp only [Option.bind_some]
    by_cases hmem:kS c (zAF ps[i])∈out
    ·rw [if_pos (by simpa using hmem),if_pos (.inr hmem)]
    ·rw [if_neg (by simpa using hmem),if_neg (by rw [not_or]; exact ⟨hneg,hmem⟩)]
  rw [vN,hb,List.drop_eq_getElem_cons hi]
  simp only [zGd]
  by_cases hbad:kS c (zAF ps[i])<0∨kS c (zAF ps[i])∈out
  ·rw [if_pos hbad,if_pos hbad]
   rfl
  ·rw [if_neg hbad,if_neg hbad]
   simp only [Option.bind_some,Lp.elim]
   exact zHA ps hps hl k (i+1) (out++[kS c (zAF ps[i])]) (by omega) (by simp; omega)
end
theorem zKC {c:List Pack} (hC:Cat c) (s:ByteArray) (h:s.size≤90000):zCj c s=some (if CF c !=0 then {Code:=CF c,At:=0,Set:=[]} else PS c s):=by
 have hc:=hC.1
 unfold zCj PS
 rw [zGc c hC]
 simp only [Option.bind_some]
 cases CF c !=0
 case true=>rfl
 simp only [Bool.false_eq_true,if_false]
 by_cases h4:s.size>4000
 ·rw [if_pos (by simp; omega),if_pos h4]
 ·rw [if_neg (by simp; omega),if_neg h4,zIg s (by omega)]
  simp only [Option.bind_some]
  have hlen:=zGQ s
  have e:=zHA hc (zBB s) (fun p hp=>by have:=zGu s p hp; omega) (by omega) (zBB s).length 0 [] (by omega) (by simp)
  rw [List.drop_zero,show ((0:Nat):Int)=0 from rfl] at e
  unfold zC8
  rw [e]
  have hlp:∀(ps:List ByteArray) (i:Nat) (out l:List Int),zGd c i out ps= .nxt l→l.length≤out.length+ps.length:=by
   intro ps
   induction ps with
   |nil=>intro i out l h; cases h; simp
   |cons s ps ih=>
    intro i out l h
    simp only [zGd] at h
    split at h
    ·cases h
    ·have:=ih _ _ _ h
     simp at this ⊢
     omega
  cases hr:zGd c 0 [] (zBB s) with
  |ret r=>rfl
  |nxt l=>
   have hl:=hlp _ _ _ _ hr
   simp only [Option.bind_some,Fl.go]
   unfold tO
   rw [if_pos (by simp at hl; omega)]
   simp only [Option.bind_some]
   rw [zG1 (by rw [List.length_mergeSort])]
   rfl
theorem zOk {l:List Int} {n:Int} (hp:l.take 4=zRF) (hl:4≤l.length) (h:zFd l=some n):l=zSJ n∧1≤n∧n≤999999:=by
 unfold zFd at h
 cases hn:zJH (l.drop 4) 6 with
 |none=>rw [hn] at h; cases h
 |some m=>
  rw [hn] at h
  simp only at h
  split at h
  ·rename_i hc
   cases h
   have e:=(zP6 hp hl hn).2 hc
   by_cases hr:1≤n∧n≤999999
   ·rw [if_pos hr] at e
    refine ⟨?_,hr⟩
    have hpd:=zKL 5 n.toNat (by omega)
    rw [show 10^(5+1)+n.toNat=1000000+n.toNat by omega] at hpd
    rw [←e,hpd]
    rfl
   ·rw [if_neg hr] at e
    rw [←e] at hc
    simp at hc
  ·cases h
theorem zL1 {fs:List File} {n:Int} (h:n∈zGf fs):(∃f∈fs,f.Path=zRq n)∧1≤n∧n≤999999:=by
 unfold zGf at h
 obtain ⟨p,hp,hg⟩:=List.mem_filterMap.1 h
 have hb:=zKY (zHi p hp)
 rw [zPi] at hb
 obtain ⟨e,h1⟩:=zOk hb.1 hb.2 hg
 refine ⟨?_,h1⟩
 unfold kJ at hp
 obtain ⟨f,hf,rfl⟩:=List.mem_map.1 hp
 exact ⟨f,(List.mem_filter.1 hf).1,zGx.1 (e.trans (zOU n).symm)⟩
def zOt (c:Int):xK:= {Code:=c,At:=0,Set:=[]}
def zFT (c:List Pack) (d:zD) (n:Int):xK:=if n∈zGf d.Files then (match fileOf d (zRq n) with
 |some f=>if (PS c (b2s f.Data)).Code !=0 then zOt (PS c (b2s f.Data)).Code else PS c (b2s f.Data)
 |none=>zOt 0) else zOt 4
theorem zNa (c:List Pack) (d:zD) (n:Int):((zFT c d n).Code ≠0→(zFT c d n).Set =[])∧(zFT c d n).At =0∧(zFT c d n).Set.Pairwise (· < ·)∧(∀k∈(zFT c d n).Set,0≤k∧k<c.length):=by
 have key:∀r,r=zFT c d n→(r.Code≠0→r.Set=[])∧r.At=0∧r.Set.Pairwise (· < ·)∧(∀k∈r.Set,0≤k∧k<c.length):=by
  intro r hr
  have hcode:∀x,(zOt x).Set =[]∧(zOt x).At =0:=fun x=>⟨rfl,rfl⟩
  unfold zFT at hr
  split at hr
  ·split at hr
   ·split at hr
    ·subst hr; exact ⟨fun _=>rfl,rfl,by rw [(hcode _).1]; simp,by rw [(hcode _).1]; simp⟩
    ·rename_i f _ hc
     subst hr
     rcases zNl c (b2s f.Data) with ⟨h,_⟩|⟨h1,h2,h3,h4⟩
     ·rcases h with h|h<;>rw [h] at hc<;>simp at hc
     ·exact ⟨fun h=>absurd h1 h,h2,h3,h4⟩
   ·subst hr; exact ⟨fun _=>rfl,rfl,by rw [(hcode _).1]; simp,by rw [(hcode _).1]; simp⟩
  ·subst hr; exact ⟨fun _=>rfl,rfl,by rw [(hcode _).1]; simp,by rw [(hcode _).1]; simp⟩
 exact key _ rfl
theorem zKl {d:zD} (hg:d.good) {p:ByteArray} (h:∃f∈d.Files,f.Path=p):∃k:Nat,∃hk:k<d.Files.length,wQ d p=some (k:Int)∧xY d p=some (d.Files[k].Data,true)∧fileOf d p=some d.Files[k]:=by
 rcases zG3 d p hg with h1|⟨_,_,h3⟩
 ·exact h1
 ·obtain ⟨f,hf,hp⟩:=h
  unfold fileOf at h3
  have:=List.find?_eq_none.1 h3 f hf
  simp [hp] at this
section
variable {c:List Pack} {d:zD} (hc:c.length≤1048576) (hg:d.good) (hb:Byt d)
include hc hg hb in
theorem zOw (n:Int):zFt c d n=some (zFT c d n):=by
 have hfl:d.Files.length≤1048576:=by have:=hg.len; omega
 have hgl:=zGC d.Files
 unfold zFt zFT
 rw [zLI d hfl]
 simp only [Option.bind_some]
 rw [zK8 _ _ (by omega)]
 simp only [Option.bind_some]
 by_cases hm:n∈zGf d.Files
 ·obtain ⟨hf,h1,h2⟩:=zL1 hm
  obtain ⟨k,hk,e1,_,e3⟩:=zKl hg hf
  have hmem:=List.getElem_mem hk
  have hdat:=hg.data _ hmem
  rw [if_neg (by simpa using hm),if_pos hm,zKW,show inB n 1 999999=true by unfold inB; simp; omega]
  simp only [Option.bind_some,if_true,e1]
  rw [zL hk]
  simp only [Option.bind_some]
  rw [zLt hc _ (by rw [←zP,zH7 (hb _ hmem)]; omega),e3]
  simp only [Option.bind_some]
  cases (PS c (b2s d.Files[k].Data)).Code !=0<;>rfl
 ·rw [if_pos (by simpa using hm),if_neg hm]
  rfl
end
section
variable {c:List Pack} {d:zD} (hc:c.length≤1048576) (hg:d.good) (hb:Byt d)
include hg hb in
theorem zOr (hC:Cat c) (h0:CF c=0) (n:Int):zFv c d n=some ((zFT c d n).Set,(zFT c d n).Code):=by
 have hfl:d.Files.length≤1048576:=by have:=hg.len; omega
 have hgl:=zGC d.Files
 unfold zFv zFT
 rw [zPe d hfl]
 simp only [Option.bind_some]
 rw [zIv _ _ (by omega)]
 simp only [Option.bind_some]
 by_cases hm:n∈zGf d.Files
 ·obtain ⟨hf,h1,h2⟩:=zL1 hm
  obtain ⟨k,hk,_,e2,e3⟩:=zKl hg hf
  have hmem:=List.getElem_mem hk
  have hdat:=hg.data _ hmem
  rw [if_neg (by simpa using hm),if_pos hm,zL9 (by omega) h2]
  simp only [Option.bind_some,e2]
  rw [zKC hC _ (by rw [←zP,zH7 (hb _ hmem)]; omega),e3,h0]
  simp only [bne_self_eq_false,Bool.false_eq_true,if_false,Option.bind_some]
  rcases zNl c (b2s d.Files[k].Data) with ⟨h,h'⟩|⟨h,_⟩
  ·have hn:((PS c (b2s d.Files[k].Data)).Code !=0)=true:=by rcases h with h|h<;>rw [h]<;>rfl
   rw [hn,h']
   rfl
  ·simp [h]
 ·rw [if_pos (by simpa using hm),if_neg hm]
  rfl
end
section
variable {c:List Pack} {d:zD} (hc:c.length≤1048576) (hg:d.good) (hb:Byt d)
def zBT (c:List Pack) (d:zD):xK:=match zL8 d with
 |some n=>zFT c d n
 |none=>zOt 4
end
section
variable {c:List Pack} {d:zD} (hc:c.length≤1048576) (hg:d.good) (hb:Byt d)
theorem zOT (d:zD):(0:Int)∉zGf d.Files:=fun h=>by have:=zL7 h; omega
end
section
variable {c:List Pack} {d:zD} (hc:c.length≤1048576) (hg:d.good) (hb:Byt d)
include hc hg hb in
theorem zLs:zDH c d=some (zBT c d):=by
 unfold zDH zBT
 rw [(zId d hg hb).1]
 simp only [Option.bind_some,zOw hc hg hb]
 cases zL8 d with
 |some n=>rfl
 |none=>
  simp only [Option.getD_none]
  unfold zFT
  rw [if_neg (zOT d)]
end
section
variable {c:List Pack} {d:zD} (hc:c.length≤1048576) (hg:d.good) (hb:Byt d)
include hg hb in
theorem zNU (hC:Cat c) (h0:CF c=0):zFu c d=some ((zBT c d).Set,(zBT c d).Code):=by
 unfold zFu zBT
 rw [(zId d hg hb).2]
 cases h:zL8 d with
 |some n=>
  simp only [Option.bind_some,Option.getD_some,bne_self_eq_false,Bool.false_eq_true,if_false]
  rw [zOr hg hb hC h0]
  rfl
 |none=>rfl
end
theorem zMH (c:List Pack) (d:zD):((zBT c d).Code ≠0→(zBT c d).Set =[])∧(zBT c d).At =0∧(zBT c d).Set.Pairwise (· < ·)∧(∀k∈(zBT c d).Set,0≤k∧k<c.length):=by
 unfold zBT
 split
 ·exact zNa c d _
 ·exact ⟨fun _=>rfl,rfl,by show List.Pairwise _ []; simp,by show ∀k∈[],_; simp⟩
theorem zMf {c:List Pack} {d:zD} (hC:Cat c) (hd:zD.sm 1048576 d):(∃q,q≠0∧zAP c d=some q∧kK c d=some q)∨(zAP c d=some 0∧kK c d=some 0∧CF c=0∧d.good):=by
 obtain ⟨k,ek,hk⟩:=zHa d hd.1.1
 rw [zNT hC k ek,zPt hC k ek]
 by_cases h0:CF c=0
 ·by_cases h1:k=0
  ·exact .inr ⟨by simp [h0,h1],by simp [h0,h1],h0,hk h1⟩
  ·exact .inl ⟨k,h1,by simp [h0],by simp [h0]⟩
 ·exact .inl ⟨CF c,h0,by simp [h0],by simp [h0]⟩
theorem zQ5 {c:List Pack} {l:List Int} (hc:c.length≤1048576) (h1:l.Pairwise (· < ·)) (h2:∀k∈l,0≤k∧k<c.length):l.length≤1048576:=by
 rcases zNo (lo:=0) (hi:=c.length) h1 h2 with h|h
 ·omega
 ·rw [h]; simp
theorem zLu {c:List Pack} {d:zD} {a:List Int} (hC:Cat c) (h0:CF c=0) (hg:d.good) (hs:zRy c a=true) (ha:a.length≤1048576):
  zCY c d a=some (((zFN c a).length :Int)==0&&((zIs c d a).length :Int)==0):=by
 have hS:SF c a=0:=by unfold SF; simp [h0,hs]
 have hp:=(zLJ.1 hs).2
 unfold zCY
 rw [zIU hC ha (by rw [hS]; rfl),zLm (zQD h0) hg hp ha]
 unfold zST
 rw [hS]
 simp only [Option.bind_some,beq_self_eq_true,Bool.true_and]
 cases ((zFN c a).length :Int)==0<;>rfl
theorem zMe {c:List Pack} {a:List Int} (hC:Cat c) (hp:Places c a) (ha:a.length≤1048576):zDb c a=some (((zFN c a).length :Int)==0):=by
 unfold zDb
 rw [zNe hC hp ha]
 rfl
def zSF (c:List Pack) (d:zD):Int:=
 if (zBT c d).Code !=0 then (zBT c d).Code else
 if !(((zFN c (zBT c d).Set).length :Int)==0&&((zIs c d (zBT c d).Set).length :Int)==0) then 1 else
 match zGp d with|some _=>0|none=>5
theorem zMT {s:System} (hC:Cat s.Catalog) (hd:zD.sm 1048576 s.zD) (hb:Byt s.zD):
  (∃q,q≠0∧uW s=some q∧uU s=some q)∨
  (uW s=some (zSF s.Catalog s.zD)∧uU s=some (zSF s.Catalog s.zD)∧CF s.Catalog=0∧s.zD.good):=by
 obtain ⟨c,d⟩:=s
 simp only at hC hd hb ⊢
 unfold uW uU
 simp only
 rcases zMf hC hd with ⟨q,h,e1,e2⟩|⟨e1,e2,h0,hg⟩
 ·rw [e1,e2]
  have hn:(q !=0)=true:=by simpa using h
  simp only [Option.bind_some,hn,if_true]
  exact .inl ⟨q,h,rfl,rfl⟩
 ·refine .inr ?_
  rw [e1,e2]
  simp only [Option.bind_some,bne_self_eq_false,Bool.false_eq_true,if_false]
  rw [zLs hC.1 hg hb,zNU hg hb hC h0]
  obtain ⟨h1,h2,h3,h4⟩:=zMH c d
  have ha:(zBT c d).Set.length ≤1048576:=zQ5 hC.1 h3 h4
  have hp:Places c (zBT c d).Set :=h4
  have hs:zRy c (zBT c d).Set =true:=zLJ.2 ⟨h3,hp⟩
  obtain ⟨o,eo⟩:=zOW hg hb
  simp only [Option.bind_some]
  rw [zMe hC hp ha,zLu hC h0 hg hs ha,zJ3 (zQD h0) hg hb hp ha,eo,zOm hg hb]
  simp only [Option.bind_some]
  unfold zSF
  refine ⟨?_,?_,h0,hg⟩
  ·cases hc:(zBT c d).Code !=0
   ·simp only [Bool.false_eq_true,if_false]
    cases hf:((zFN c (zBT c d).Set).length :Int)==0
    ·simp
    ·have hl:decide (((zIs c d (zBT c d).Set).length :Int)>0)= !(((zIs c d (zBT c d).Set).length :Int)==0):=by
      cases zIs c d (zBT c d).Set with
      |nil=>rfl
      |cons x l=>simp<;>omega
     simp only [Bool.not_true,Bool.false_eq_true,if_false,Option.bind_some,hl,Bool.true_and]
     cases ((zIs c d (zBT c d).Set).length :Int)==0
     ·simp
     ·cases zGp d<;>simp
   ·simp
  ·cases hc:(zBT c d).Code !=0
   ·simp only [Bool.false_eq_true,if_false]
    cases (((zFN c (zBT c d).Set).length :Int)==0&&((zIs c d (zBT c d).Set).length :Int)==0)
    ·simp
    ·cases zGp d<;>simp
   ·simp
theorem zMi {a1:List Pack} {s46:List Pack×Int} {x48:Pack} {x50:List ByteArray} {p:Pack} (hp:idx a1 s46.2=some p) (hn:p.Needs.length≤1048576) (hl:∀l∈p.Needs,l.length≤1048576):
  zCD a1 s46 x48 x50 ([],0)=some p.Needs:=by
 obtain ⟨t,e,rfl⟩:=jF (b:=zBS a1 s46 x48 x50) (fun i s=>s=(p.Needs.take i,(i:Int))) p.Needs.length (fun t=>t=p.Needs) (by
  rintro i s hi rfl
  have hlen:(p.Needs.take i).length =i:=by simp; omega
  have hd:=hl _ (List.getElem_mem hi)
  have ha:app 64 ([]:List Term) p.Needs[i]=some p.Needs[i]:=jN (by simp; omega) (by simp; omega)
  have hb:app 24 (p.Needs.take i) [p.Needs[i]]=some (p.Needs.take i++[p.Needs[i]]):=jN (by simp; omega) (by simp; omega)
  unfold zBS
  simp only [hp,Option.bind_some]
  rw [if_pos (by simp; omega)]
  simp only [zL hi,Option.bind_some,ha,hb,zK (show i<9223372036854775807 by omega)]
  exact .inl ⟨_,rfl,by rw [List.take_succ_eq_append_getElem hi]⟩) (by
  rintro s rfl
  unfold zBS
  simp only [hp,Option.bind_some]
  rw [if_neg (by simp)]
  exact ⟨_,rfl,by simp⟩) p.Needs.length 0 ([],0) (by omega) (by simp)
 exact e
theorem zLS {a1:List Pack} {s27:List Pack×Int} {p:Pack} {x31:List ByteArray} {x33:List Term} (hn:p.Needs.length≤1048576) (hl:∀l∈p.Needs,l.length≤1048576):
  zAr a1 s27 p x31 x33 ([],0)=some p.Needs:=by
 obtain ⟨t,e,rfl⟩:=jF (b:=kH a1 s27 p x31 x33) (fun i s=>s=(p.Needs.take i,(i:Int))) p.Needs.length (fun t=>t=p.Needs) (by
  rintro i s hi rfl
  have hlen:(p.Needs.take i).length =i:=by simp; omega
  have hd:=hl _ (List.getElem_mem hi)
  have ha:xP p.Needs[i]=some p.Needs[i]:=by
   unfold xP
   rw [jN (by simp; omega) (by simp; omega)]
   rfl
  have hb:app 24 (p.Needs.take i) [p.Needs[i]]=some (p.Needs.take i++[p.Needs[i]]):=jN (by simp; omega) (by simp; omega)
  unfold kH
  rw [if_pos (by simp; omega)]
  simp only [zL hi,Option.bind_some,ha,hb,zK (show i<9223372036854775807 by omega)]
  exact .inl ⟨_,rfl,by rw [List.take_succ_eq_append_getElem hi]⟩) (by
  rintro s rfl
  unfold kH
  rw [if_neg (by simp)]
  exact ⟨_,rfl,by simp⟩) p.Needs.length 0 ([],0) (by omega) (by simp)
 exact e
theorem zMA {c:List Pack} (hc:Cat c):kP c=some c:=by
 obtain ⟨h1,h2⟩:=hc
 obtain ⟨t,e,rfl⟩:=jF (b:=zBV c) (fun i s=>s=(c.take i,(i:Int))) c.length (fun t=>t=c) (by
  rintro i s hi rfl
  have hlen:(c.take i).length =i:=by simp; omega
  have hd:=h2 _ (List.getElem_mem hi)
  have hp:=hd.2.2.2.1.1
  have hn:=hd.2.2.2.2.1.1
  have hb:=hd.2.2.2.2.2.1
  have ha:app 16 ([]:List ByteArray) c[i].Provides =some c[i].Provides :=jN (by simp; omega) (by simp; omega)
  have hb2:app 64 ([]:List Term) c[i].Bars =some c[i].Bars :=jN (by simp; omega) (by simp; omega)
  have hq:∀p:Pack,app 120 (c.take i) [p]=some (c.take i++[p]):=fun p=>jN (by simp; omega) (by simp; omega)
  unfold zBV
  rw [if_pos (by simp; omega)]
  simp only [zL hi,Option.bind_some,ha]
  rw [zMi (p:=c[i]) (by exact zL hi) hn (fun l hl=>(hd.2.2.2.2.1.2 l hl).1)]
  simp only [Option.bind_some,hb2,hq,zK (show i<9223372036854775807 by omega)]
  exact .inl ⟨_,rfl,by rw [List.take_succ_eq_append_getElem hi]⟩) (by
  rintro s rfl
  unfold zBV
  rw [if_neg (by simp)]
  exact ⟨_,rfl,by simp⟩) c.length 0 ([],0) (by omega) (by simp)
 simp only [kP,zC1,e,Option.bind_some]
theorem zJ7 {c:List Pack} (hc:Cat c):jU c=some c:=by
 obtain ⟨h1,h2⟩:=hc
 obtain ⟨t,e,rfl⟩:=jF (b:=kE c) (fun i s=>s=(c.take i,(i:Int))) c.length (fun t=>t=c) (by
  rintro i s hi rfl
  have hlen:(c.take i).length =i:=by simp; omega
  have hd:=h2 _ (List.getElem_mem hi)
  have hp:=hd.2.2.2.1.1
  have hn:=hd.2.2.2.2.1.1
  have hb:=hd.2.2.2.2.2.1
  have ha:vM c[i].Provides =some c[i].Provides :=by
   unfold vM
   rw [jN (by simp; omega) (by simp; omega)]
   rfl
  have hb2:xP c[i].Bars =some c[i].Bars :=by
   unfold xP
   rw [jN (by simp; omega) (by simp; omega)]
   rfl
  have hq:∀p:Pack,app 120 (c.take i) [p]=some (c.take i++[p]):=fun p=>jN (by simp; omega) (by simp; omega)
  unfold kE
  rw [if_pos (by simp; omega)]
  simp only [zL hi,Option.bind_some,ha,hb2]
  rw [zLS hn (fun l hl=>(hd.2.2.2.2.1.2 l hl).1)]
  simp only [Option.bind_some,hq,zK (show i<9223372036854775807 by omega)]
  exact .inl ⟨_,rfl,by rw [List.take_succ_eq_append_getElem hi]⟩) (by
  rintro s rfl
  unfold kE
  rw [if_neg (by simp)]
  exact ⟨_,rfl,by simp⟩) c.length 0 ([],0) (by omega) (by simp)
 simp only [jU,zAA,e,Option.bind_some]
theorem zJ5 (a1:System) (k0:System.ok a1) (s0:(System.sm 1048576 a1)):∃r,kV a1=some r∧uG a1=some r∧(zC.sm 1049600 r):=by
 have hb:Byt a1.zD:=fun f hf c hc=>by have:=(k0.2.1.2 f hf).2.2 c hc; simpa [IntKind.min,IntKind.max,IntKind.signed,IntKind.bits] using this
 obtain ⟨c,d⟩:=a1
 have hz:∀q:Int,zC.sm 1049600 {Code:=q,Choices:=0,System:= {Catalog:=[],zD:= {Files:=[],Budget:=0,Writes:=0,Stop:=0,Down:=false}}}:=fun q=>by simp [zC.sm,System.sm,zD.sm]
 have hs:=System.zEF s0
 unfold kV uG zGG vR zFK zD8
 rcases zMT s0.1 s0.2 hb with ⟨q,h,e1,e2⟩|⟨e1,e2,_,hg⟩
 ·rw [e1,e2]
  have hn:(q !=0)=true:=by simpa using h
  simp only [Option.bind_some,hn,if_true]
  exact ⟨_,rfl,rfl,hz q⟩
 ·rw [e1,e2]
  simp only [Option.bind_some]
  cases hq:zSF c d !=0
  ·simp only [Bool.false_eq_true,if_false]
   obtain ⟨k,hk,_⟩:=zHa d s0.2.1.1
   unfold zES zER zEa
   rw [zGX,hk,zLF d (zD.zOO s0.2),zPj d (zD.zOO s0.2),zMA s0.1,zJ7 s0.1]
   simp only [Option.bind_some]
   by_cases k0:k=0
   ·subst k0
    simp only [bne_self_eq_false,Bool.false_eq_true,if_false,Option.bind_some]
    exact ⟨_,rfl,rfl,trivial,trivial,hs.1,hs.2.1,trivial,trivial,trivial,trivial⟩
   ·have hn:(k !=0)=true:=by simpa using k0
    simp only [hn,if_true,Option.bind_some,List.length_nil]
    cases hk9:k !=9
    ·simp only [Bool.false_eq_true,if_false,Option.bind_some,beq_self_eq_true,if_true,Int.ofNat_zero]
     exact ⟨_,rfl,rfl,trivial,trivial,hs.1,by simp [zD.sm]⟩
    ·simp only [if_true,Option.bind_some,beq_self_eq_true,Int.ofNat_zero]
     exact ⟨_,rfl,rfl,hz k⟩
  ·simp only [if_true,Option.bind_some]
   exact ⟨_,rfl,rfl,hz _⟩
theorem zGU (a1:System) (k0:System.ok a1):vH a1=some true:=zG2 a1 k0 (zJ5 a1 k0)
end Go.Told

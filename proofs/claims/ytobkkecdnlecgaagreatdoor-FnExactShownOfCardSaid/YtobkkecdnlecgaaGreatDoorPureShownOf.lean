import Derived.Test.YtobkkecdnlecgaaGreatDoorToldShownOf
set_option linter.unusedVariables false
set_option maxRecDepth 4000
namespace Go.Told
open Go Go.Im
theorem zHh {S T:Type} {b b':S→Option (Lp S T)} (h:∀s,b s=b' s):loop b=loop b':=by
 have:b=b':=funext h
 rw [this]
theorem wR {x:Int} (h1: -9223372036854775808≤x) (h2:x≤9223372036854775807):w64 x=x:=by
 unfold w64
 rw [IntKind.wrap_i64]
 omega
theorem zN {i:Nat} (h:i<9223372036854775807):w64 ((i:Int)+1)=((i+1:Nat):Int):=by
 rw [wR (by omega) (by omega)]; omega
theorem zBb {T:Type} {S:Type} {b:S→Option (Lp S T)} (I:Nat→S→Prop) (n:Nat) (Q:T→Prop) (hstep:∀i s,i<n→I i s→(∃s',b s=some (.go s')∧I (i+1) s')∨∃t,b s=some (.done t)∧Q t)
  (hend:∀s,I n s→∃t,b s=some (.done t)∧Q t):∀(k i:Nat) (s:S),i+k=n→I i s→∃t,loop b s=some t∧Q t
 |0,i,s,hk,hI=>by
  obtain ⟨t,h1,h2⟩:=hend s (by rw [show n=i by omega]; exact hI)
  exact ⟨t,by rw [vE,h1]; rfl,h2⟩
 |k+1,i,s,hk,hI=>by
  rcases hstep i s (by omega) hI with ⟨s',h1,h2⟩|⟨t,h1,h2⟩
  ·obtain ⟨t,h3,h4⟩:=zBb I n Q hstep hend k (i+1) s' (by omega) h2
   exact ⟨t,by rw [vE,h1]; exact h3,h4⟩
  ·exact ⟨t,by rw [vE,h1]; rfl,h2⟩
theorem zO {α:Type} {xs:List α} {i:Nat} (h:i<xs.length):idx xs (i:Int)=some xs[i]:=by
 unfold idx
 rw [if_pos (by omega)]
 simp [h]
theorem zEm {α:Type} (l r:List α) (x:α):idx (l++x::r) (l.length:Int)=some x:=by
 rw [zO (by simp)]
 simp
def goL {α A T:Type} (g:Nat→A→α→Lp A T) (fin:A→T):Nat→List α→A→T
 |_,[],a=>fin a
 |i,x::xs,a=>match g i a x with
  | .go a'=>goL g fin (i+1) xs a'
  | .done t=>t
theorem zMG {α A S T:Type} (xs:List α) (g:Nat→A→α→Lp A T) (fin:A→T) (e:Nat→A→S) (I:Nat→A→Prop) {b:S→Option (Lp S T)}
  (hstep:∀(i:Nat) (a:A) (hi:i<xs.length),I i a→b (e i a)=some (match g i a xs[i] with| .go a'=>.go (e (i+1) a')| .done t=>.done t)∧∀a',g i a xs[i]= .go a'→I (i+1) a')
  (hend:∀a,I xs.length a→b (e xs.length a)=some (.done (fin a))):∀(k i:Nat) (a:A),i+k=xs.length→I i a→loop b (e i a)=some (goL g fin i (xs.drop i) a)
 |0,i,a,hk,hI=>by
  have:i=xs.length:=by omega
  subst this
  rw [vE,hend a hI,List.drop_length]; rfl
 |k+1,i,a,hk,hI=>by
  have hi:i<xs.length:=by omega
  obtain ⟨h1,h2⟩:=hstep i a hi hI
  rw [vE,h1,List.drop_eq_getElem_cons hi]
  simp only [goL]
  cases hg:g i a xs[i] with
  |go a'=>
   simp only [Option.bind_some,Lp.elim]
   exact zMG xs g fin e I hstep hend k (i+1) a' (by omega) (h2 a' hg)
  |done t=>rfl
theorem zLe {α A S T:Type} (xs:List α) (g:Nat→A→α→Lp A T) (fin:A→T) (e:Nat→A→S) (I:Nat→A→Prop) {b:S→Option (Lp S T)} (a0:A)
  (hstep:∀(i:Nat) (a:A) (hi:i<xs.length),I i a→b (e i a)=some (match g i a xs[i] with| .go a'=>.go (e (i+1) a')| .done t=>.done t)∧∀a',g i a xs[i]= .go a'→I (i+1) a')
  (hend:∀a,I xs.length a→b (e xs.length a)=some (.done (fin a))) (h0:I 0 a0):loop b (e 0 a0)=some (goL g fin 0 xs a0):=by
 have:=zMG xs g fin e I hstep hend xs.length 0 a0 (by omega) h0
 simpa using this
theorem zHb {α:Type} (xs:List α) {b:(List α×Int)→Option (Lp (List α×Int) (List α))} (hstep:∀(ys:List α) (i:Nat) (hi:i<xs.length),ys.length=xs.length→b (ys,(i:Int))=some (.go (ys.set i xs[i],((i+1:Nat):Int))))
  (hend:∀ys:List α,ys.length=xs.length→b (ys,(xs.length:Int))=some (.done ys)) (y0:List α) (h0:y0.length=xs.length):loop b (y0,0)=some xs:=by
 obtain ⟨t,h1,h2⟩:=zBb (b:=b) (fun i s=>s.2=(i:Int)∧s.1.length=xs.length∧s.1.take i=xs.take i) xs.length (fun t=>t=xs) (by
  rintro i ⟨ys,j⟩ hi ⟨hj,hl,hp⟩
  simp only at hj hl hp
  subst hj
  refine .inl ⟨_,hstep ys i hi hl,rfl,by simpa using hl,?_⟩
  simp only
  rw [List.take_succ_eq_append_getElem (by simp; omega),List.take_succ_eq_append_getElem hi,←hp,List.take_set_of_le (Nat.le_refl _)]
  simp) (by
  rintro ⟨ys,j⟩ ⟨hj,hl,hp⟩
  simp only at hj hl hp
  subst hj
  refine ⟨ys,hend ys hl,?_⟩
  rw [List.take_of_length_le (by omega),List.take_of_length_le (by omega)] at hp
  exact hp) xs.length 0 (y0,0) (by omega) ⟨rfl,h0,by simp⟩
 rw [h1,h2]
theorem zG0 {R:Type} (n:Nat) {b:Int→Option (Lp Int (Fl R Unit))} (hstep:∀i:Nat,i<n→b (i:Int)=some (.go ((i+1:Nat):Int))) (hend:b (n:Int)=some (.done (.nxt ()))):loop b 0=some (.nxt ()):=by
 obtain ⟨t,h1,h2⟩:=zBb (b:=b) (fun i s=>s=(i:Int)) n (fun t=>t= .nxt ()) (by
  rintro i s hi rfl
  exact .inl ⟨_,hstep i hi,rfl⟩) (by
  rintro s rfl
  exact ⟨_,hend,rfl⟩) n 0 0 (by omega) rfl
 rw [h1,h2]
theorem zHS {α:Type} (xs:List α) (P:α→Prop) (l:Int) {b:(Int×Int)→Option (Lp (Int×Int) (Fl Int Int))}
  (hstep:∀(q:Int) (i:Nat) (hi:i<xs.length),0≤q→q≤l→(∃q',b (q,(i:Int))=some (.go (q',((i+1:Nat):Int)))∧0≤q'∧q'≤q∧P xs[i])∨∃t,b (q,(i:Int))=some (.done (.ret t))∧t<0)
  (hend:∀q:Int,b (q,(xs.length:Int))=some (.done (.nxt q))) (h0:0≤l):
  ∃t,loop b (l,0)=some t∧match t with| .ret r=>r<0| .nxt r=>0≤r∧r≤l∧∀x∈xs,P x:=by
 refine zBb (b:=b) (fun i s=>s.2=(i:Int)∧0≤s.1∧s.1≤l∧∀j,(hj:j<xs.length)→j<i→P xs[j]) xs.length _ (by
  rintro i ⟨q,j⟩ hi ⟨hj,h1,h2,h3⟩
  simp only at hj h1 h2 h3
  subst hj
  rcases hstep q i hi h1 h2 with ⟨q',e,g1,g2,g3⟩|⟨t,e,ht⟩
  ·refine .inl ⟨_,e,rfl,g1,by simp only; omega,fun j hj hji=>?_⟩
   rcases Nat.lt_or_ge j i with h|h
   ·exact h3 j hj h
   ·have:j=i:=by omega
    subst this; exact g3
  ·exact .inr ⟨_,e,ht⟩) (by
  rintro ⟨q,j⟩ ⟨hj,h1,h2,h3⟩
  simp only at hj h1 h2 h3
  subst hj
  refine ⟨_,hend q,h1,h2,fun x hx=>?_⟩
  obtain ⟨j,hj,rfl⟩:=List.getElem_of_mem hx
  exact h3 j hj hj) xs.length 0 (l,0) (by omega) ⟨rfl,h0,Int.le_refl _,fun j _ h=>by omega⟩
def pm {α:Type} (m:α→Int→α) (c:α→Int):List α→Int→List α
 |[],_=>[]
 |x::xs,k=>m x k::pm m c xs (k+c x)
def cs {α:Type} (c:α→Int):List α→Int
 |[]=>0
 |x::xs=>c x+cs c xs
theorem zEJ {α:Type} (m:α→Int→α) (c:α→Int):∀(xs:List α) (k:Int),(pm m c xs k).length =xs.length
 |[],_=>rfl
 |x::xs,k=>by simp [pm,zEJ m c xs]
theorem vH {α:Type} {c:α→Int} (hc:∀a,0≤c a):∀(xs:List α),0≤cs c xs
 |[]=>Int.le_refl _
 |x::xs=>by have:=hc x; have:=vH hc xs; simp only [cs]; omega
theorem zKs {α:Type} {c:α→Int} {C:Int} {N:Nat} (hC:0≤C):∀(xs:List α),(∀a∈xs,c a≤C)→xs.length≤N→cs c xs≤N*C
 |[],_,_=>Int.mul_nonneg (by omega) hC
 |x::xs,h,hl=>by
  have h1:=h x (by simp)
  simp only [List.length_cons] at hl
  have h2:=zKs (N:=N-1) hC xs (fun a ha=>h a (by simp [ha])) (by omega)
  simp only [cs]
  have:((N-1:Nat):Int)*C+C=N*C:=by
   have e:((N-1:Nat):Int)=(N:Int)-1:=by omega
   rw [e,Int.sub_mul,Int.one_mul]; omega
  omega
theorem zEN {α:Type} (m:α→Int→α) (c:α→Int) (P:α→Prop) (hc:∀a,0≤c a) {b:(List α×Int×Int)→Option (Lp (List α×Int×Int) (List α×Int))}
  (hstep:∀(l r:List α) (x:α) (k:Int),P x→0≤k→k+c x≤9223372036854775807→l.length<9223372036854775807→b (l++x::r,k,(l.length:Int))=some (.go (l++m x k::r,k+c x,((l.length+1:Nat):Int))))
  (hend:∀(l:List α) (k:Int),b (l,k,(l.length:Int))=some (.done (l,k))):∀(xs l:List α) (k:Int),(∀x∈xs,P x)→0≤k→k+cs c xs≤9223372036854775807→l.length+xs.length<9223372036854775807→
  loop b (l++xs,k,(l.length:Int))=some (l++pm m c xs k,k+cs c xs)
 |[],l,k,_,_,_,_=>by
  rw [vE,List.append_nil,hend]
  simp [pm,cs,Lp.elim]
 |x::xs,l,k,hP,h0,h1,h2=>by
  have hx:=hc x
  have hxs:=vH hc xs
  simp only [cs] at h1
  simp only [List.length_cons] at h2
  rw [vE,hstep l xs x k (hP x (by simp)) h0 (by omega) (by omega)]
  simp only [Option.bind_some,Lp.elim]
  have:=zEN m c P hc hstep hend xs (l++[m x k]) (k+c x) (fun y hy=>hP y (by simp [hy])) (by omega) (by omega) (by simp; omega)
  simp only [List.length_append,List.length_cons,List.length_nil,List.append_assoc,List.cons_append,List.nil_append] at this
  rw [this]
  simp only [pm,cs]
  congr 2
  omega
theorem zKu {α:Type} (m:α→Int→α) (c:α→Int) (P:α→Prop) (hc:∀a,0≤c a) {b:List α→(Int×Int)→Option (Lp (Int×Int) (Fl Int Int))}
  (hstep:∀(l r:List α) (x:α) (k:Int),P x→0≤k→k+c x≤9223372036854775807→l.length<9223372036854775807→b (l++m x k::r) (k,(l.length:Int))=some (.go (k+c x,((l.length+1:Nat):Int))))
  (hend:∀(l:List α) (k:Int),b l (k,(l.length:Int))=some (.done (.nxt k))):∀(xs l:List α) (k:Int),(∀x∈xs,P x)→0≤k→k+cs c xs≤9223372036854775807→l.length+xs.length<9223372036854775807→
  loop (b (l++pm m c xs k)) (k,(l.length:Int))=some (.nxt (k+cs c xs))
 |[],l,k,_,_,_,_=>by
  rw [vE,pm,List.append_nil,hend]
  simp [cs,Lp.elim]
 |x::xs,l,k,hP,h0,h1,h2=>by
  have hx:=hc x
  have hxs:=vH hc xs
  simp only [cs] at h1
  simp only [List.length_cons] at h2
  rw [pm,vE,hstep l _ x k (hP x (by simp)) h0 (by omega) (by omega)]
  simp only [Option.bind_some,Lp.elim]
  have:=zKu m c P hc hstep hend xs (l++[m x k]) (k+c x) (fun y hy=>hP y (by simp [hy])) (by omega) (by omega) (by simp; omega)
  simp only [List.length_append,List.length_cons,List.length_nil,List.append_assoc,List.cons_append,List.nil_append] at this
  rw [this]
  simp only [cs]
  congr 2
  omega
theorem zFX {α β:Type} {xs:List α} {ys:List β} (h:xs.length=ys.length):same xs ys=some ():=if_pos h
theorem zGv {α:Type} (l r:List α) (x y:α):(l++x::r).set l.length y=l++y::r:=by
 rw [List.set_append_right _ _ (Nat.le_refl _)]
 simp
theorem zGT (a:ByteArray):seq a a=true:=by
 unfold seq
 simp
def c1 {α:Type} (_:α):Int:=1
theorem zCI {α:Type} (a:α):0≤c1 a:=by unfold c1; decide
theorem zCu {α:Type} {B:Nat} {xs ys:List α} (h:(xs.length+ys.length)*B≤140737488355328) (h2:xs.length+ys.length≤4611686018427387904):app B xs ys=some (xs++ys):=if_pos ⟨h,h2⟩
theorem zK9 {S T:Type} {b:S→Option (Lp S T)} (I:S→Prop) (μ:S→Nat) (Q:T→Prop) (step:∀s,I s→(∃s',b s=some (.go s')∧I s'∧μ s'<μ s)∨∃t,b s=some (.done t)∧Q t):∀(n:Nat) (s:S),μ s≤n→I s→∃t,loop b s=some t∧Q t
 |0,s,hn,hI=>by
  rcases step s hI with ⟨s',_,_,h3⟩|⟨t,h1,h2⟩
  ·omega
  ·exact ⟨t,by rw [vE,h1]; rfl,h2⟩
 |n+1,s,hn,hI=>by
  rcases step s hI with ⟨s',h1,h2,h3⟩|⟨t,h1,h2⟩
  ·obtain ⟨t,h4,h5⟩:=zK9 I μ Q step n s' (by omega) h2
   exact ⟨t,by rw [vE,h1]; exact h4,h5⟩
  ·exact ⟨t,by rw [vE,h1]; rfl,h2⟩
def Version.ok (x:Version):Prop:=(IntKind.i64.min≤x.A∧x.A≤IntKind.i64.max)∧(IntKind.i64.min≤x.B∧x.B≤IntKind.i64.max)∧(IntKind.i64.min≤x.C∧x.C≤IntKind.i64.max)
def Term.ok (x:Term):Prop:=(x.Name.size≤maxLen)∧(Version.ok x.Low)∧(Version.ok x.High)
def Pack.ok (x:Pack):Prop:=(x.Name.size≤maxLen)∧(Version.ok x.Version)∧(IntKind.i64.min≤x.Size∧x.Size≤IntKind.i64.max)∧(x.Provides.length≤maxLen∧∀y1∈x.Provides,y1.size≤maxLen)∧(x.Needs.length≤maxLen∧∀y1∈x.Needs,y1.length≤maxLen∧∀y2∈y1,Term.ok y2)∧(x.Bars.length≤maxLen∧∀y1∈x.Bars,Term.ok y1)
def File.ok (x:File):Prop:=(x.Path.size≤maxLen)∧(x.Data.length≤maxLen∧∀y1∈x.Data,IntKind.u8.min≤y1∧y1≤IntKind.u8.max)
def zF.ok (x:zF):Prop:=(x.Files.length≤maxLen∧∀y1∈x.Files,File.ok y1)∧(IntKind.i64.min≤x.Budget∧x.Budget≤IntKind.i64.max)∧(IntKind.i64.min≤x.Writes∧x.Writes≤IntKind.i64.max)∧(IntKind.i64.min≤x.Stop∧x.Stop≤IntKind.i64.max)∧(True)
def System.ok (x:System):Prop:=(x.Catalog.length≤maxLen∧∀y1∈x.Catalog,Pack.ok y1)∧(zF.ok x.zF)
theorem zNz (x:(List Int)) (hx:x.length≤maxLen∧∀y1∈x,IntKind.u8.min≤y1∧y1≤IntKind.u8.max) (l:Int) (h0:0≤l) (h1:l≤1048576):∃r,zCX x l=some r∧(r<0∨(0≤r∧r≤l∧(x.length≤1048576∧∀y0∈x,True))):=by
 obtain ⟨hm,hx⟩:=hx
 unfold maxLen at hm
 unfold zCX
 rw [wR (x:=l-x.length) (by omega) (by omega)]
 by_cases c1:l-(x.length:Int)<0
 ·rw [if_pos (by simpa using c1)]
  exact ⟨_,rfl,.inl (by omega)⟩
 ·rw [if_neg (by simpa using c1)]
  exact ⟨_,rfl,.inr ⟨by omega,by omega,by omega,fun _ _=>trivial⟩⟩
def File.sm (B:Nat) (x:File):Prop:=(x.Path.size≤B)∧(x.Data.length≤B∧∀y0∈x.Data,True)
def zF.sm (B:Nat) (x:zF):Prop:=(x.Files.length≤B∧∀y0∈x.Files,File.sm B y0)∧(True)∧(True)∧(True)∧(True)
theorem zO7 (x:File) (hx:File.ok x) (l:Int) (h0:0≤l) (h1:l≤1048576):∃r,zDP x l=some r∧(r<0∨(0≤r∧r≤l∧(File.sm 1048576 x))):=by
 obtain ⟨k0,k1⟩:=hx
 unfold maxLen at*
 unfold zDP
 rw [wR (x:=l-x.Path.size) (by omega) (by omega)]
 by_cases c0:l-(x.Path.size:Int)<0
 ·rw [if_pos (by simpa using c0)]
  exact ⟨_,rfl,.inl (by omega)⟩
 rw [if_neg (by simpa using c0)]
 obtain ⟨r1,e1,g1⟩:=zNz x.Data k1 (l-x.Path.size) (by omega) (by omega)
 rw [e1]
 simp only [Option.bind_some]
 by_cases c1:r1<0
 ·rw [if_pos (by simpa using c1)]
  exact ⟨_,rfl,.inl (by omega)⟩
 rw [if_neg (by simpa using c1)]
 obtain ⟨p1,q1,z1⟩:=g1.resolve_left c1
 exact ⟨_,rfl,.inr ⟨by omega,by omega,by omega,z1⟩⟩
theorem zNb (x:(List File)) (hx:x.length≤maxLen∧∀y1∈x,File.ok y1) (l:Int) (h0:0≤l) (h1:l≤1048576):∃r,zCB x l=some r∧(r<0∨(0≤r∧r≤l∧(x.length≤1048576∧∀y0∈x,File.sm 1048576 y0))):=by
 obtain ⟨hm,hx⟩:=hx
 unfold maxLen at hm
 unfold zCB
 rw [wR (x:=l-x.length) (by omega) (by omega)]
 by_cases c1:l-(x.length:Int)<0
 ·rw [if_pos (by simpa using c1)]
  exact ⟨_,rfl,.inl (by omega)⟩
 ·rw [if_neg (by simpa using c1)]
  have key:=zHS x (fun y0=>File.sm 1048576 y0) (l-x.length) (b:=zCb x) ?_ ?_ (by omega)
  ·obtain ⟨t,h2,h3⟩:=key
   unfold zC8
   rw [h2]
   cases t with
   |ret r=>exact ⟨r,rfl,.inl h3⟩
   |nxt r=>exact ⟨r,rfl,.inr ⟨h3.1,by have:=h3.2.1; omega,by omega,h3.2.2⟩⟩
  ·intro q i hi hq0 hq1
   unfold zCb
   rw [if_pos (by simp; omega)]
   simp only [zO hi,Option.bind_some]
   have hi2:w64 ((i:Int)+1)=((i+1:Nat):Int):=zN (by omega)
   obtain ⟨r,e,hr⟩:=zO7 x[i] (hx _ (List.getElem_mem hi)) q hq0 (by omega)
   rw [e]
   simp only [Option.bind_some]
   by_cases c:r<0
   ·rw [if_pos (by simpa using c)]
    exact .inr ⟨_,rfl,by omega⟩
   ·rw [if_neg (by simpa using c),hi2]
    obtain ⟨g1,g2,g3⟩:=hr.resolve_left c
    exact .inl ⟨_,rfl,g1,g2,g3⟩
  ·intro q
   unfold zCb
   rw [if_neg (by simp)]
theorem zO4 (x:zF) (hx:zF.ok x) (l:Int) (h0:0≤l) (h1:l≤1048576):∃r,zEg x l=some r∧(r<0∨(0≤r∧r≤l∧(zF.sm 1048576 x))):=by
 obtain ⟨k0,k1,k2,k3,k4⟩:=hx
 unfold maxLen at*
 unfold zEg
 obtain ⟨r0,e0,g0⟩:=zNb x.Files k0 l (by omega) (by omega)
 rw [e0]
 simp only [Option.bind_some]
 by_cases c0:r0<0
 ·rw [if_pos (by simpa using c0)]
  exact ⟨_,rfl,.inl (by omega)⟩
 rw [if_neg (by simpa using c0)]
 obtain ⟨p0,q0,z0⟩:=g0.resolve_left c0
 exact ⟨_,rfl,.inr ⟨by omega,by omega,z0,trivial,trivial,trivial,trivial⟩⟩
def Version.sm (B:Nat) (x:Version):Prop:=(True)∧(True)∧(True)
def Term.sm (B:Nat) (x:Term):Prop:=(x.Name.size≤B)∧(Version.sm B x.Low)∧(Version.sm B x.High)
def Pack.sm (B:Nat) (x:Pack):Prop:=(x.Name.size≤B)∧(Version.sm B x.Version)∧(True)∧(x.Provides.length≤B∧∀y0∈x.Provides,y0.size≤B)∧(x.Needs.length≤B∧∀y0∈x.Needs,y0.length≤B∧∀y1∈y0,Term.sm B y1)∧(x.Bars.length≤B∧∀y0∈x.Bars,Term.sm B y0)
theorem zLl (x:(List ByteArray)) (hx:x.length≤maxLen∧∀y1∈x,y1.size≤maxLen) (l:Int) (h0:0≤l) (h1:l≤1048576):∃r,zBg x l=some r∧(r<0∨(0≤r∧r≤l∧(x.length≤1048576∧∀y0∈x,y0.size≤1048576))):=by
 obtain ⟨hm,hx⟩:=hx
 unfold maxLen at hm
 unfold zBg
 rw [wR (x:=l-x.length) (by omega) (by omega)]
 by_cases c1:l-(x.length:Int)<0
 ·rw [if_pos (by simpa using c1)]
  exact ⟨_,rfl,.inl (by omega)⟩
 ·rw [if_neg (by simpa using c1)]
  have key:=zHS x (fun y0=>y0.size≤1048576) (l-x.length) (b:=zAP x) ?_ ?_ (by omega)
  ·obtain ⟨t,h2,h3⟩:=key
   unfold zBk
   rw [h2]
   cases t with
   |ret r=>exact ⟨r,rfl,.inl h3⟩
   |nxt r=>exact ⟨r,rfl,.inr ⟨h3.1,by have:=h3.2.1; omega,by omega,h3.2.2⟩⟩
  ·intro q i hi hq0 hq1
   unfold zAP
   rw [if_pos (by simp; omega)]
   simp only [zO hi,Option.bind_some]
   have hi2:w64 ((i:Int)+1)=((i+1:Nat):Int):=zN (by omega)
   have hs:=hx _ (List.getElem_mem hi)
   unfold maxLen at hs
   rw [wR (x:=q-(x[i]).size) (by omega) (by omega)]
   by_cases c:q-((x[i]).size :Int)<0
   ·rw [if_pos (by simpa using c)]
    exact .inr ⟨_,rfl,by omega⟩
   ·rw [if_neg (by simpa using c),hi2]
    exact .inl ⟨_,rfl,by omega,by omega,by show (x[i]).size ≤1048576; omega⟩
  ·intro q
   unfold zAP
   rw [if_neg (by simp)]
theorem zNK (x:Term) (hx:Term.ok x) (l:Int) (h0:0≤l) (h1:l≤1048576):∃r,zEc x l=some r∧(r<0∨(0≤r∧r≤l∧(Term.sm 1048576 x))):=by
 obtain ⟨k0,k1,k2⟩:=hx
 unfold maxLen at*
 unfold zEc
 rw [wR (x:=l-x.Name.size) (by omega) (by omega)]
 by_cases c0:l-(x.Name.size:Int)<0
 ·rw [if_pos (by simpa using c0)]
  exact ⟨_,rfl,.inl (by omega)⟩
 rw [if_neg (by simpa using c0)]
 exact ⟨_,rfl,.inr ⟨by omega,by omega,by omega,⟨trivial,trivial,trivial⟩,⟨trivial,trivial,trivial⟩⟩⟩
theorem zJw (x:(List Term)) (hx:x.length≤maxLen∧∀y1∈x,Term.ok y1) (l:Int) (h0:0≤l) (h1:l≤1048576):∃r,zA3 x l=some r∧(r<0∨(0≤r∧r≤l∧(x.length≤1048576∧∀y0∈x,Term.sm 1048576 y0))):=by
 obtain ⟨hm,hx⟩:=hx
 unfold maxLen at hm
 unfold zA3
 rw [wR (x:=l-x.length) (by omega) (by omega)]
 by_cases c1:l-(x.length:Int)<0
 ·rw [if_pos (by simpa using c1)]
  exact ⟨_,rfl,.inl (by omega)⟩
 ·rw [if_neg (by simpa using c1)]
  have key:=zHS x (fun y0=>Term.sm 1048576 y0) (l-x.length) (b:=zBI x) ?_ ?_ (by omega)
  ·obtain ⟨t,h2,h3⟩:=key
   unfold zCA
   rw [h2]
   cases t with
   |ret r=>exact ⟨r,rfl,.inl h3⟩
   |nxt r=>exact ⟨r,rfl,.inr ⟨h3.1,by have:=h3.2.1; omega,by omega,h3.2.2⟩⟩
  ·intro q i hi hq0 hq1
   unfold zBI
   rw [if_pos (by simp; omega)]
   simp only [zO hi,Option.bind_some]
   have hi2:w64 ((i:Int)+1)=((i+1:Nat):Int):=zN (by omega)
   obtain ⟨r,e,hr⟩:=zNK x[i] (hx _ (List.getElem_mem hi)) q hq0 (by omega)
   rw [e]
   simp only [Option.bind_some]
   by_cases c:r<0
   ·rw [if_pos (by simpa using c)]
    exact .inr ⟨_,rfl,by omega⟩
   ·rw [if_neg (by simpa using c),hi2]
    obtain ⟨g1,g2,g3⟩:=hr.resolve_left c
    exact .inl ⟨_,rfl,g1,g2,g3⟩
  ·intro q
   unfold zBI
   rw [if_neg (by simp)]
theorem zMj (x:(List (List Term))) (hx:x.length≤maxLen∧∀y1∈x,y1.length≤maxLen∧∀y2∈y1,Term.ok y2) (l:Int) (h0:0≤l) (h1:l≤1048576):∃r,zB3 x l=some r∧(r<0∨(0≤r∧r≤l∧(x.length≤1048576∧∀y0∈x,y0.length≤1048576∧∀y1∈y0,Term.sm 1048576 y1))):=by
 obtain ⟨hm,hx⟩:=hx
 unfold maxLen at hm
 unfold zB3
 rw [wR (x:=l-x.length) (by omega) (by omega)]
 by_cases c1:l-(x.length:Int)<0
 ·rw [if_pos (by simpa using c1)]
  exact ⟨_,rfl,.inl (by omega)⟩
 ·rw [if_neg (by simpa using c1)]
  have key:=zHS x (fun y0=>y0.length≤1048576∧∀y1∈y0,Term.sm 1048576 y1) (l-x.length) (b:=zBu x) ?_ ?_ (by omega)
  ·obtain ⟨t,h2,h3⟩:=key
   unfold zBQ
   rw [h2]
   cases t with
   |ret r=>exact ⟨r,rfl,.inl h3⟩
   |nxt r=>exact ⟨r,rfl,.inr ⟨h3.1,by have:=h3.2.1; omega,by omega,h3.2.2⟩⟩
  ·intro q i hi hq0 hq1
   unfold zBu
   rw [if_pos (by simp; omega)]
   simp only [zO hi,Option.bind_some]
   have hi2:w64 ((i:Int)+1)=((i+1:Nat):Int):=zN (by omega)
   obtain ⟨r,e,hr⟩:=zJw x[i] (hx _ (List.getElem_mem hi)) q hq0 (by omega)
   rw [e]
   simp only [Option.bind_some]
   by_cases c:r<0
   ·rw [if_pos (by simpa using c)]
    exact .inr ⟨_,rfl,by omega⟩
   ·rw [if_neg (by simpa using c),hi2]
    obtain ⟨g1,g2,g3⟩:=hr.resolve_left c
    exact .inl ⟨_,rfl,g1,g2,g3⟩
  ·intro q
   unfold zBu
   rw [if_neg (by simp)]
theorem zOc (x:Pack) (hx:Pack.ok x) (l:Int) (h0:0≤l) (h1:l≤1048576):∃r,zDR x l=some r∧(r<0∨(0≤r∧r≤l∧(Pack.sm 1048576 x))):=by
 obtain ⟨k0,k1,k2,k3,k4,k5⟩:=hx
 unfold maxLen at*
 unfold zDR
 rw [wR (x:=l-x.Name.size) (by omega) (by omega)]
 by_cases c0:l-(x.Name.size:Int)<0
 ·rw [if_pos (by simpa using c0)]
  exact ⟨_,rfl,.inl (by omega)⟩
 rw [if_neg (by simpa using c0)]
 obtain ⟨r3,e3,g3⟩:=zLl x.Provides k3 (l-x.Name.size) (by omega) (by omega)
 rw [e3]
 simp only [Option.bind_some]
 by_cases c3:r3<0
 ·rw [if_pos (by simpa using c3)]
  exact ⟨_,rfl,.inl (by omega)⟩
 rw [if_neg (by simpa using c3)]
 obtain ⟨p3,q3,z3⟩:=g3.resolve_left c3
 obtain ⟨r4,e4,g4⟩:=zMj x.Needs k4 r3 (by omega) (by omega)
 rw [e4]
 simp only [Option.bind_some]
 by_cases c4:r4<0
 ·rw [if_pos (by simpa using c4)]
  exact ⟨_,rfl,.inl (by omega)⟩
 rw [if_neg (by simpa using c4)]
 obtain ⟨p4,q4,z4⟩:=g4.resolve_left c4
 obtain ⟨r5,e5,g5⟩:=zJw x.Bars k5 r4 (by omega) (by omega)
 rw [e5]
 simp only [Option.bind_some]
 by_cases c5:r5<0
 ·rw [if_pos (by simpa using c5)]
  exact ⟨_,rfl,.inl (by omega)⟩
 rw [if_neg (by simpa using c5)]
 obtain ⟨p5,q5,z5⟩:=g5.resolve_left c5
 exact ⟨_,rfl,.inr ⟨by omega,by omega,by omega,⟨trivial,trivial,trivial⟩,trivial,z3,z4,z5⟩⟩
theorem zN3 (x:(List Pack)) (hx:x.length≤maxLen∧∀y1∈x,Pack.ok y1) (l:Int) (h0:0≤l) (h1:l≤1048576):∃r,zC3 x l=some r∧(r<0∨(0≤r∧r≤l∧(x.length≤1048576∧∀y0∈x,Pack.sm 1048576 y0))):=by
 obtain ⟨hm,hx⟩:=hx
 unfold maxLen at hm
 unfold zC3
 rw [wR (x:=l-x.length) (by omega) (by omega)]
 by_cases c1:l-(x.length:Int)<0
 ·rw [if_pos (by simpa using c1)]
  exact ⟨_,rfl,.inl (by omega)⟩
 ·rw [if_neg (by simpa using c1)]
  have key:=zHS x (fun y0=>Pack.sm 1048576 y0) (l-x.length) (b:=zBO x) ?_ ?_ (by omega)
  ·obtain ⟨t,h2,h3⟩:=key
   unfold zDj
   rw [h2]
   cases t with
   |ret r=>exact ⟨r,rfl,.inl h3⟩
   |nxt r=>exact ⟨r,rfl,.inr ⟨h3.1,by have:=h3.2.1; omega,by omega,h3.2.2⟩⟩
  ·intro q i hi hq0 hq1
   unfold zBO
   rw [if_pos (by simp; omega)]
   simp only [zO hi,Option.bind_some]
   have hi2:w64 ((i:Int)+1)=((i+1:Nat):Int):=zN (by omega)
   obtain ⟨r,e,hr⟩:=zOc x[i] (hx _ (List.getElem_mem hi)) q hq0 (by omega)
   rw [e]
   simp only [Option.bind_some]
   by_cases c:r<0
   ·rw [if_pos (by simpa using c)]
    exact .inr ⟨_,rfl,by omega⟩
   ·rw [if_neg (by simpa using c),hi2]
    obtain ⟨g1,g2,g3⟩:=hr.resolve_left c
    exact .inl ⟨_,rfl,g1,g2,g3⟩
  ·intro q
   unfold zBO
   rw [if_neg (by simp)]
def System.sm (B:Nat) (x:System):Prop:=(x.Catalog.length≤B∧∀y0∈x.Catalog,Pack.sm B y0)∧(zF.sm B x.zF)
theorem zLF (x:System) (hx:System.ok x) (l:Int) (h0:0≤l) (h1:l≤1048576):∃r,zB9 x l=some r∧(r<0∨(0≤r∧r≤l∧(System.sm 1048576 x))):=by
 obtain ⟨k0,k1⟩:=hx
 unfold maxLen at*
 unfold zB9
 obtain ⟨r0,e0,g0⟩:=zN3 x.Catalog k0 l (by omega) (by omega)
 rw [e0]
 simp only [Option.bind_some]
 by_cases c0:r0<0
 ·rw [if_pos (by simpa using c0)]
  exact ⟨_,rfl,.inl (by omega)⟩
 rw [if_neg (by simpa using c0)]
 obtain ⟨p0,q0,z0⟩:=g0.resolve_left c0
 obtain ⟨r1,e1,g1⟩:=zO4 x.zF k1 r0 (by omega) (by omega)
 rw [e1]
 simp only [Option.bind_some]
 by_cases c1:r1<0
 ·rw [if_pos (by simpa using c1)]
  exact ⟨_,rfl,.inl (by omega)⟩
 rw [if_neg (by simpa using c1)]
 obtain ⟨p1,q1,z1⟩:=g1.resolve_left c1
 exact ⟨_,rfl,.inr ⟨by omega,by omega,z0,z1⟩⟩
theorem zMY (x:(List Int)) (hx:x.length≤1049600∧∀y0∈x,True):zCq x=some x:=by
 have hl:=hx.1
 unfold zCq
 have hm:∀z:Int,mk 1 (x.length:Int) z=some (List.replicate x.length z):=fun z=>by
  unfold mk; rw [if_pos ⟨by omega,by simp; omega,by omega⟩]; simp
 rw [hm]
 simp only [Option.bind_some,zCp]
 rw [zHb x ?_ ?_ _ (by simp)]
 ·rfl
 ·intro ys i hi hl2
  unfold zDG
  rw [if_pos (by simp; omega)]
  have hi2:w64 ((i:Int)+1)=((i+1:Nat):Int):=zN (by omega)
  simp only [zO hi,zO (show i<ys.length by omega),Option.bind_some,Int.toNat_natCast,hi2]
 ·intro ys _
  unfold zDG
  rw [if_neg (by simp)]
theorem zOe (x:File) (hx:File.sm 1049600 x):zDW x=some x:=by
 obtain ⟨h0,h1⟩:=hx
 unfold zDW
 simp only [zMY x.Data h1,Option.bind_some]
theorem zMV (x:(List File)) (hx:x.length≤1049600∧∀y0∈x,File.sm 1049600 y0):zCW x=some x:=by
 have hl:=hx.1
 unfold zCW
 have hm:∀z:File,mk 40 (x.length:Int) z=some (List.replicate x.length z):=fun z=>by
  unfold mk; rw [if_pos ⟨by omega,by simp; omega,by omega⟩]; simp
 rw [hm]
 simp only [Option.bind_some,zCP]
 rw [zHb x ?_ ?_ _ (by simp)]
 ·rfl
 ·intro ys i hi hl2
  unfold zDF
  rw [if_pos (by simp; omega)]
  have hi2:w64 ((i:Int)+1)=((i+1:Nat):Int):=zN (by omega)
  simp only [zO hi,zO (show i<ys.length by omega),Option.bind_some,Int.toNat_natCast,hi2,zOe x[i] (hx.2 _ (List.getElem_mem hi))]
 ·intro ys _
  unfold zDF
  rw [if_neg (by simp)]
theorem zOq (x:zF) (hx:zF.sm 1049600 x):zDS x=some x:=by
 obtain ⟨h0,h1,h2,h3,h4⟩:=hx
 unfold zDS
 simp only [zMV x.Files h0,Option.bind_some]
theorem zFM (x:Version) (hx:Version.sm 1049600 x):vK x=some x:=by
 obtain ⟨h0,h1,h2⟩:=hx
 unfold vK
 rfl
theorem zKZ (x:(List ByteArray)) (hx:x.length≤1049600∧∀y0∈x,y0.size≤1049600):zAY x=some x:=by
 have hl:=hx.1
 unfold zAY
 have hm:∀z:ByteArray,mk 16 (x.length:Int) z=some (List.replicate x.length z):=fun z=>by
  unfold mk; rw [if_pos ⟨by omega,by simp; omega,by omega⟩]; simp
 rw [hm]
 simp only [Option.bind_some,zBp]
 rw [zHb x ?_ ?_ _ (by simp)]
 ·rfl
 ·intro ys i hi hl2
  unfold zCl
  rw [if_pos (by simp; omega)]
  have hi2:w64 ((i:Int)+1)=((i+1:Nat):Int):=zN (by omega)
  simp only [zO hi,zO (show i<ys.length by omega),Option.bind_some,Int.toNat_natCast,hi2]
 ·intro ys _
  unfold zCl
  rw [if_neg (by simp)]
theorem zOo (x:Term) (hx:Term.sm 1049600 x):zDV x=some x:=by
 obtain ⟨h0,h1,h2⟩:=hx
 unfold zDV
 simp only [zFM x.Low h1,zFM x.High h2,Option.bind_some]
theorem zJb (x:(List Term)) (hx:x.length≤1049600∧∀y0∈x,Term.sm 1049600 y0):zAF x=some x:=by
 have hl:=hx.1
 unfold zAF
 have hm:∀z:Term,mk 64 (x.length:Int) z=some (List.replicate x.length z):=fun z=>by
  unfold mk; rw [if_pos ⟨by omega,by simp; omega,by omega⟩]; simp
 rw [hm]
 simp only [Option.bind_some,zCH]
 rw [zHb x ?_ ?_ _ (by simp)]
 ·rfl
 ·intro ys i hi hl2
  unfold zDN
  rw [if_pos (by simp; omega)]
  have hi2:w64 ((i:Int)+1)=((i+1:Nat):Int):=zN (by omega)
  simp only [zO hi,zO (show i<ys.length by omega),Option.bind_some,Int.toNat_natCast,hi2,zOo x[i] (hx.2 _ (List.getElem_mem hi))]
 ·intro ys _
  unfold zDN
  rw [if_neg (by simp)]
theorem zL1 (x:(List (List Term))) (hx:x.length≤1049600∧∀y0∈x,y0.length≤1049600∧∀y1∈y0,Term.sm 1049600 y1):zB5 x=some x:=by
 have hl:=hx.1
 unfold zB5
 have hm:∀z:(List Term),mk 24 (x.length:Int) z=some (List.replicate x.length z):=fun z=>by
  unfold mk; rw [if_pos ⟨by omega,by simp; omega,by omega⟩]; simp
 rw [hm]
 simp only [Option.bind_some,zBK]
 rw [zHb x ?_ ?_ _ (by simp)]
 ·rfl
 ·intro ys i hi hl2
  unfold zDo
  rw [if_pos (by simp; omega)]
  have hi2:w64 ((i:Int)+1)=((i+1:Nat):Int):=zN (by omega)
  simp only [zO hi,zO (show i<ys.length by omega),Option.bind_some,Int.toNat_natCast,hi2,zJb x[i] (hx.2 _ (List.getElem_mem hi))]
 ·intro ys _
  unfold zDo
  rw [if_neg (by simp)]
theorem zO1 (x:Pack) (hx:Pack.sm 1049600 x):zEa x=some x:=by
 obtain ⟨h0,h1,h2,h3,h4,h5⟩:=hx
 unfold zEa
 simp only [zFM x.Version h1,zKZ x.Provides h3,zL1 x.Needs h4,zJb x.Bars h5,Option.bind_some]
theorem zMO (x:(List Pack)) (hx:x.length≤1049600∧∀y0∈x,Pack.sm 1049600 y0):zDl x=some x:=by
 have hl:=hx.1
 unfold zDl
 have hm:∀z:Pack,mk 120 (x.length:Int) z=some (List.replicate x.length z):=fun z=>by
  unfold mk; rw [if_pos ⟨by omega,by simp; omega,by omega⟩]; simp
 rw [hm]
 simp only [Option.bind_some,zCw]
 rw [zHb x ?_ ?_ _ (by simp)]
 ·rfl
 ·intro ys i hi hl2
  unfold zDI
  rw [if_pos (by simp; omega)]
  have hi2:w64 ((i:Int)+1)=((i+1:Nat):Int):=zN (by omega)
  simp only [zO hi,zO (show i<ys.length by omega),Option.bind_some,Int.toNat_natCast,hi2,zO1 x[i] (hx.2 _ (List.getElem_mem hi))]
 ·intro ys _
  unfold zDI
  rw [if_neg (by simp)]
theorem zMc (x:System) (hx:System.sm 1049600 x):vD x=some x:=by
 obtain ⟨h0,h1⟩:=hx
 unfold vD
 simp only [zMO x.Catalog h0,zOq x.zF h1,Option.bind_some]
theorem zLh (x:(List Int)) (hx:x.length≤1049600∧∀y0∈x,True):zDk x x=some true:=by
 have hl:=hx.1
 unfold zDk
 rw [if_neg (by simp)]
 unfold zCR
 rw [zG0 x.length ?_ ?_]
 ·rfl
 ·intro i hi
  unfold zDM
  rw [if_pos (by simp; omega)]
  have hi2:w64 ((i:Int)+1)=((i+1:Nat):Int):=zN (by omega)
  simp [zO hi,hi2]
 ·unfold zDM
  rw [if_neg (by simp)]
theorem zL3 (x:File) (hx:File.sm 1049600 x):zEd x x=some true:=by
 obtain ⟨h0,h1⟩:=hx
 unfold zEd
 simp [zLh x.Data h1]
theorem zKS (x:(List File)) (hx:x.length≤1049600∧∀y0∈x,File.sm 1049600 y0):zDg x x=some true:=by
 have hl:=hx.1
 unfold zDg
 rw [if_neg (by simp)]
 unfold zCO
 rw [zG0 x.length ?_ ?_]
 ·rfl
 ·intro i hi
  unfold zDH
  rw [if_pos (by simp; omega)]
  have hi2:w64 ((i:Int)+1)=((i+1:Nat):Int):=zN (by omega)
  simp [zO hi,hi2,zL3 x[i] (hx.2 _ (List.getElem_mem hi))]
 ·unfold zDH
  rw [if_neg (by simp)]
theorem zLB (x:zF) (hx:zF.sm 1049600 x):zEf x x=some true:=by
 obtain ⟨h0,h1,h2,h3,h4⟩:=hx
 unfold zEf
 simp [zKS x.Files h0]
theorem zJR (x:(List Int)) (hx:x.length≤1049600∧∀y0∈x,True):zB4 x x=some true:=by
 have hl:=hx.1
 unfold zB4
 rw [if_neg (by simp)]
 unfold zBY
 rw [zG0 x.length ?_ ?_]
 ·rfl
 ·intro i hi
  unfold zDt
  rw [if_pos (by simp; omega)]
  have hi2:w64 ((i:Int)+1)=((i+1:Nat):Int):=zN (by omega)
  simp [zO hi,hi2]
 ·unfold zDt
  rw [if_neg (by simp)]
theorem zFn (x:Version) (hx:Version.sm 1049600 x):vI x x=some true:=by
 obtain ⟨h0,h1,h2⟩:=hx
 unfold vI
 simp
theorem zIO (x:(List ByteArray)) (hx:x.length≤1049600∧∀y0∈x,y0.size≤1049600):zAX x x=some true:=by
 have hl:=hx.1
 unfold zAX
 rw [if_neg (by simp)]
 unfold zBt
 rw [zG0 x.length ?_ ?_]
 ·rfl
 ·intro i hi
  unfold zCi
  rw [if_pos (by simp; omega)]
  have hi2:w64 ((i:Int)+1)=((i+1:Nat):Int):=zN (by omega)
  simp [zO hi,hi2]
 ·unfold zCi
  rw [if_neg (by simp)]
theorem zLx (x:Term) (hx:Term.sm 1049600 x):zEb x x=some true:=by
 obtain ⟨h0,h1,h2⟩:=hx
 unfold zEb
 simp [zFn x.Low h1,zFn x.High h2]
theorem zHs (x:(List Term)) (hx:x.length≤1049600∧∀y0∈x,Term.sm 1049600 y0):zA6 x x=some true:=by
 have hl:=hx.1
 unfold zA6
 rw [if_neg (by simp)]
 unfold zDi
 rw [zG0 x.length ?_ ?_]
 ·rfl
 ·intro i hi
  unfold zDL
  rw [if_pos (by simp; omega)]
  have hi2:w64 ((i:Int)+1)=((i+1:Nat):Int):=zN (by omega)
  simp [zO hi,hi2,zLx x[i] (hx.2 _ (List.getElem_mem hi))]
 ·unfold zDL
  rw [if_neg (by simp)]
theorem zJE (x:(List (List Term))) (hx:x.length≤1049600∧∀y0∈x,y0.length≤1049600∧∀y1∈y0,Term.sm 1049600 y1):zBA x x=some true:=by
 have hl:=hx.1
 unfold zBA
 rw [if_neg (by simp)]
 unfold zBV
 rw [zG0 x.length ?_ ?_]
 ·rfl
 ·intro i hi
  unfold zDs
  rw [if_pos (by simp; omega)]
  have hi2:w64 ((i:Int)+1)=((i+1:Nat):Int):=zN (by omega)
  simp [zO hi,hi2,zHs x[i] (hx.2 _ (List.getElem_mem hi))]
 ·unfold zDs
  rw [if_neg (by simp)]
theorem zLY (x:Pack) (hx:Pack.sm 1049600 x):zDO x x=some true:=by
 obtain ⟨h0,h1,h2,h3,h4,h5⟩:=hx
 unfold zDO
 simp [zFn x.Version h1,zIO x.Provides h3,zJE x.Needs h4,zHs x.Bars h5]
theorem zLm (x:(List Pack)) (hx:x.length≤1049600∧∀y0∈x,Pack.sm 1049600 y0):zC4 x x=some true:=by
 have hl:=hx.1
 unfold zC4
 rw [if_neg (by simp)]
 unfold zDe
 rw [zG0 x.length ?_ ?_]
 ·rfl
 ·intro i hi
  unfold zDJ
  rw [if_pos (by simp; omega)]
  have hi2:w64 ((i:Int)+1)=((i+1:Nat):Int):=zN (by omega)
  simp [zO hi,hi2,zLY x[i] (hx.2 _ (List.getElem_mem hi))]
 ·unfold zDJ
  rw [if_neg (by simp)]
def zI.sm (B:Nat) (x:zI):Prop:=(True)∧(True)∧(x.Set.length≤B∧∀y0∈x.Set,True)
theorem zH6 (x:zI) (hx:zI.sm 1049600 x):wS x x=some true:=by
 obtain ⟨h0,h1,h2⟩:=hx
 unfold wS
 simp [zJR x.Set h2]
theorem zJL (x:System) (hx:System.sm 1049600 x):zB7 x x=some true:=by
 obtain ⟨h0,h1⟩:=hx
 unfold zB7
 simp [zLm x.Catalog h0,zLB x.zF h1]
theorem zIz (a:Int):(b2s [a]).size =1:=rfl
theorem zJO {k:Int} (h0:0≤k) (h1:k≤9223372036854775807):∃s,wQ k=some s:=by
 have key:∀(n:Nat) (k:Int) (s:ByteArray),0≤k→k<10^n→k≤9223372036854775807→s.size+n≤1000→∃t,loop zDn (k,s)=some t∧t.size≤s.size+n:=by
  intro n
  induction n with
  |zero=>
   intro k s h0 h1 _ _
   have:k=0:=by simp at h1; omega
   subst this
   exact ⟨s,by rw [vE]; rfl,by omega⟩
  |succ n ih=>
   intro k s h0 h1 h2 h3
   by_cases hk:k>0
   ·rw [vE]
    unfold zDn
    simp only
    rw [if_pos (by simpa using hk)]
    have hc:∀a:Int,cat (b2s [a]) s=some (b2s [a]++s):=fun a=>by
     unfold cat; rw [if_pos (by rw [zIz]; omega)]
    rw [hc]
    simp only [Option.bind_some,Lp.elim]
    have hd:k.tdiv 10=k / 10:=Int.tdiv_eq_ediv_of_nonneg h0
    rw [hd,wR (by omega) (by omega)]
    obtain ⟨t,g1,g2⟩:=ih (k / 10) (b2s [IntKind.u8.wrap (w64 (48+k.tmod 10))]++s) (by omega) (by rw [Int.pow_succ] at h1; omega) (by omega) (by rw [ByteArray.size_append,zIz]; omega)
    refine ⟨t,g1,?_⟩
    rw [ByteArray.size_append,zIz] at g2
    omega
   ·have:k=0:=by omega
    subst this
    exact ⟨s,by rw [vE]; rfl,by omega⟩
 unfold wQ
 by_cases hk:k≤0
 ·rw [if_pos (by simpa using hk)]
  exact ⟨_,rfl⟩
 ·rw [if_neg (by simpa using hk)]
  obtain ⟨t,g1,g2⟩:=key 19 k (bs []) h0 (by omega) h1 (by decide)
  unfold zBP
  rw [g1]
  simp only [Option.bind_some]
  have e0:(bs []).size =0:=rfl
  have e1:(bs [109]).size =1:=rfl
  unfold cat
  rw [if_pos (by omega)]
  exact ⟨_,rfl⟩
noncomputable def mT (k:Int):ByteArray:=(wQ k).getD ByteArray.empty
theorem zF5 {k:Int} (h0:0≤k) (h1:k≤9223372036854775807):wQ k=some (mT k):=by
 obtain ⟨s,hs⟩:=zJO h0 h1
 unfold mT
 rw [hs]
 rfl
def zQx (_:Int) (k:Int):Int:=IntKind.u8.wrap k
theorem zJJ (xs:List Int) (hx:xs.length≤1049600∧∀y0∈xs,True) (k:Int) (h0:0≤k) (h1:k+cs c1 xs≤9223372036854775807):zAc xs k=some (k+cs c1 xs,pm zQx c1 xs k):=by
 unfold zAc zAQ
 have key:=zEN zQx c1 (fun y0=>True) zCI (b:=kX) ?_ ?_ xs [] k hx.2 h0 h1 (by have:=hx.1; simp; omega)
 ·simp only [List.nil_append,List.length_nil,Int.natCast_zero] at key
  rw [key]
  rfl
 ·intro l r x k hP h0 hk hl
  simp only [c1] at hk
  have w0:=wR (x:=k+1) (by omega) (by omega)
  have hi2:w64 ((l.length:Int)+1)=((l.length+1:Nat):Int):=zN (by omega)
  unfold kX
  rw [if_pos (by simp; omega)]
  simp only [zEm,zGv,Option.bind_some,Int.toNat_natCast,hi2,w0]
  rfl
 ·intro l k
  unfold kX
  rw [if_neg (by simp)]
noncomputable def mFile (x:File) (k:Int):File:=({Path:=mT (k),Data:=pm zQx c1 x.Data (k+1)}:File)
noncomputable def cFile (x:File):Int:=1+cs c1 x.Data
theorem zFj (x:File):0≤cFile x:=by
 have n1:=vH zCI x.Data
 unfold cFile
 omega
theorem zJQ (xs:List File) (hx:xs.length≤1049600∧∀y0∈xs,File.sm 1049600 y0) (k:Int) (h0:0≤k) (h1:k+cs cFile xs≤9223372036854775807):zAk xs k=some (k+cs cFile xs,pm mFile cFile xs k):=by
 unfold zAk zAI
 have key:=zEN mFile cFile (fun y0=>File.sm 1049600 y0) zFj (b:=zAd) ?_ ?_ xs [] k hx.2 h0 h1 (by have:=hx.1; simp; omega)
 ·simp only [List.nil_append,List.length_nil,Int.natCast_zero] at key
  rw [key]
  rfl
 ·intro l r x k hP h0 hk hl
  simp only [cFile] at hk
  have n1:=vH zCI x.Data
  have t0:=zF5 (k:=k) (by omega) (by omega)
  have w0:=wR (x:=k+1) (by omega) (by omega)
  have t1:=zJJ x.Data (hP.2) (k+1) (by omega) (by omega)
  have hi2:w64 ((l.length:Int)+1)=((l.length+1:Nat):Int):=zN (by omega)
  unfold zAd
  rw [if_pos (by simp; omega)]
  simp only [zEm,zGv,Option.bind_some,Int.toNat_natCast,hi2,t0,w0,t1,zFX (zEJ _ _ _ _)]
  rw [show k+1+cs c1 x.Data=k+cFile x from by simp only [cFile]; omega]
  rfl
 ·intro l k
  unfold zAd
  rw [if_neg (by simp)]
theorem zKQ (x:zF) (hP:zF.sm 1049600 x) (k:Int) (h0:0≤k) (h1:k+cs cFile x.Files≤9223372036854775807):zBd x k=some (k+cs cFile x.Files,pm mFile cFile x.Files (k)):=by
 have n0:=vH zFj x.Files
 have t0:=zJQ x.Files (hP.1) (k) (by omega) (by omega)
 unfold zBd
 simp only [t0,Option.bind_some,zFX (zEJ _ _ _ _)]
def zI0 (_:Int) (k:Int):Int:=k
theorem zIL (xs:List Int) (hx:xs.length≤1049600∧∀y0∈xs,True) (k:Int) (h0:0≤k) (h1:k+cs c1 xs≤9223372036854775807):jI xs k=some (k+cs c1 xs,pm zI0 c1 xs k):=by
 unfold jI zAb
 have key:=zEN zI0 c1 (fun y0=>True) zCI (b:=jO) ?_ ?_ xs [] k hx.2 h0 h1 (by have:=hx.1; simp; omega)
 ·simp only [List.nil_append,List.length_nil,Int.natCast_zero] at key
  rw [key]
  rfl
 ·intro l r x k hP h0 hk hl
  simp only [c1] at hk
  have w0:=wR (x:=k+1) (by omega) (by omega)
  have hi2:w64 ((l.length:Int)+1)=((l.length+1:Nat):Int):=zN (by omega)
  unfold jO
  rw [if_pos (by simp; omega)]
  simp only [zEm,zGv,Option.bind_some,Int.toNat_natCast,hi2,w0]
  rfl
 ·intro l k
  unfold jO
  rw [if_neg (by simp)]
theorem zJK (xs:List Int) (hx:xs.length≤1049600∧∀y0∈xs,True) (k:Int) (h0:0≤k) (h1:k+cs c1 xs≤9223372036854775807):zAq (pm zI0 c1 xs k) k=some (k+cs c1 xs):=by
 unfold zAq zA1
 have key:=zKu zI0 c1 (fun y0=>True) zCI (b:=zAo) ?_ ?_ xs [] k hx.2 h0 h1 (by have:=hx.1; simp; omega)
 ·simp only [List.nil_append,List.length_nil,Int.natCast_zero] at key
  rw [key]
  rfl
 ·intro l r x k hP h0 hk hl
  simp only [c1] at hk
  have w0:=wR (x:=k+1) (by omega) (by omega)
  have hi2:w64 ((l.length:Int)+1)=((l.length+1:Nat):Int):=zN (by omega)
  unfold zAo
  rw [if_pos (by simp; omega)]
  simp [zEm,hi2,zI0,w0]
  all_goals (first|rfl|omega|(simp only [c1]; omega))
 ·intro l k
  unfold zAo
  rw [if_neg (by simp)]
noncomputable def zMe (_:ByteArray) (k:Int):ByteArray:=mT k
theorem zIy (xs:List ByteArray) (hx:xs.length≤1049600∧∀y0∈xs,y0.size≤1049600) (k:Int) (h0:0≤k) (h1:k+cs c1 xs≤9223372036854775807):uZ xs k=some (k+cs c1 xs,pm zMe c1 xs k):=by
 unfold uZ jM
 have key:=zEN zMe c1 (fun y0=>y0.size≤1049600) zCI (b:=tQ) ?_ ?_ xs [] k hx.2 h0 h1 (by have:=hx.1; simp; omega)
 ·simp only [List.nil_append,List.length_nil,Int.natCast_zero] at key
  rw [key]
  rfl
 ·intro l r x k hP h0 hk hl
  simp only [c1] at hk
  have t0:=zF5 (k:=k) (by omega) (by omega)
  have w0:=wR (x:=k+1) (by omega) (by omega)
  have hi2:w64 ((l.length:Int)+1)=((l.length+1:Nat):Int):=zN (by omega)
  unfold tQ
  rw [if_pos (by simp; omega)]
  simp only [zEm,zGv,Option.bind_some,Int.toNat_natCast,hi2,t0,w0]
  rfl
 ·intro l k
  unfold tQ
  rw [if_neg (by simp)]
noncomputable def zPh (x:Term) (k:Int):Term:=({Name:=mT (k),Low:=({A:=(k+1),B:=(k+1+1),C:=(k+1+1+1)}:Version),High:=({A:=(k+1+1+1+1),B:=(k+1+1+1+1+1),C:=(k+1+1+1+1+1+1)}:Version)}:Term)
noncomputable def zFQ (x:Term):Int:=1+1+1+1+1+1+1
theorem zEK (x:Term):0≤zFQ x:=by
 unfold zFQ
 omega
theorem zGI (xs:List Term) (hx:xs.length≤1049600∧∀y0∈xs,Term.sm 1049600 y0) (k:Int) (h0:0≤k) (h1:k+cs zFQ xs≤9223372036854775807):vW xs k=some (k+cs zFQ xs,pm zPh zFQ xs k):=by
 unfold vW zAM
 have key:=zEN zPh zFQ (fun y0=>Term.sm 1049600 y0) zEK (b:=zAp) ?_ ?_ xs [] k hx.2 h0 h1 (by have:=hx.1; simp; omega)
 ·simp only [List.nil_append,List.length_nil,Int.natCast_zero] at key
  rw [key]
  rfl
 ·intro l r x k hP h0 hk hl
  simp only [zFQ] at hk
  have t0:=zF5 (k:=k) (by omega) (by omega)
  have w0:=wR (x:=k+1) (by omega) (by omega)
  have w1:=wR (x:=k+1+1) (by omega) (by omega)
  have w2:=wR (x:=k+1+1+1) (by omega) (by omega)
  have w3:=wR (x:=k+1+1+1+1) (by omega) (by omega)
  have w4:=wR (x:=k+1+1+1+1+1) (by omega) (by omega)
  have w5:=wR (x:=k+1+1+1+1+1+1) (by omega) (by omega)
  have w6:=wR (x:=k+1+1+1+1+1+1+1) (by omega) (by omega)
  have hi2:w64 ((l.length:Int)+1)=((l.length+1:Nat):Int):=zN (by omega)
  unfold zAp
  rw [if_pos (by simp; omega)]
  simp only [zEm,zGv,Option.bind_some,Int.toNat_natCast,hi2,t0,w0,w1,w2,w3,w4,w5,w6]
  rw [show k+1+1+1+1+1+1+1=k+zFQ x from by simp only [zFQ]; omega]
  rfl
 ·intro l k
  unfold zAp
  rw [if_neg (by simp)]
noncomputable def zOx (x:(List Term)) (k:Int):(List Term):=pm zPh zFQ x k
noncomputable def zFz (x:(List Term)):Int:=cs zFQ x
theorem zF9 (x:(List Term)):0≤zFz x:=vH zEK x
theorem zIE (xs:List (List Term)) (hx:xs.length≤1049600∧∀y0∈xs,y0.length≤1049600∧∀y1∈y0,Term.sm 1049600 y1) (k:Int) (h0:0≤k) (h1:k+cs zFz xs≤9223372036854775807):jF xs k=some (k+cs zFz xs,pm zOx zFz xs k):=by
 unfold jF zAf
 have key:=zEN zOx zFz (fun y0=>y0.length≤1049600∧∀y1∈y0,Term.sm 1049600 y1) zF9 (b:=jL) ?_ ?_ xs [] k hx.2 h0 h1 (by have:=hx.1; simp; omega)
 ·simp only [List.nil_append,List.length_nil,Int.natCast_zero] at key
  rw [key]
  rfl
 ·intro l r x k hP h0 hk hl
  simp only [zFz] at hk
  have n0:=vH zEK x
  have t0:=zGI x (hP) (k) (by omega) (by omega)
  have hi2:w64 ((l.length:Int)+1)=((l.length+1:Nat):Int):=zN (by omega)
  unfold jL
  rw [if_pos (by simp; omega)]
  simp only [zEm,zGv,Option.bind_some,Int.toNat_natCast,hi2,t0,zFX (zEJ _ _ _ _)]
  rfl
 ·intro l k
  unfold jL
  rw [if_neg (by simp)]
noncomputable def zPV (x:Pack) (k:Int):Pack:=({Name:=mT (k),Version:=({A:=(k+1),B:=(k+1+1),C:=(k+1+1+1)}:Version),Size:=(k+1+1+1+1),Provides:=pm zMe c1 x.Provides (k+1+1+1+1+1),Needs:=pm zOx zFz x.Needs (k+1+1+1+1+1+cs c1 x.Provides),Bars:=pm zPh zFQ x.Bars (k+1+1+1+1+1+cs c1 x.Provides+cs zFz x.Needs)}:Pack)
noncomputable def zFF (x:Pack):Int:=1+1+1+1+1+cs c1 x.Provides+cs zFz x.Needs+cs zFQ x.Bars
theorem zFI (x:Pack):0≤zFF x:=by
 have n5:=vH zCI x.Provides
 have n6:=vH zF9 x.Needs
 have n7:=vH zEK x.Bars
 unfold zFF
 omega
theorem zJN (xs:List Pack) (hx:xs.length≤1049600∧∀y0∈xs,Pack.sm 1049600 y0) (k:Int) (h0:0≤k) (h1:k+cs zFF xs≤9223372036854775807):kZ xs k=some (k+cs zFF xs,pm zPV zFF xs k):=by
 unfold kZ zAO
 have key:=zEN zPV zFF (fun y0=>Pack.sm 1049600 y0) zFI (b:=zAi) ?_ ?_ xs [] k hx.2 h0 h1 (by have:=hx.1; simp; omega)
 ·simp only [List.nil_append,List.length_nil,Int.natCast_zero] at key
  rw [key]
  rfl
 ·intro l r x k hP h0 hk hl
  simp only [zFF] at hk
  have n5:=vH zCI x.Provides
  have n6:=vH zF9 x.Needs
  have n7:=vH zEK x.Bars
  have t0:=zF5 (k:=k) (by omega) (by omega)
  have w0:=wR (x:=k+1) (by omega) (by omega)
  have w1:=wR (x:=k+1+1) (by omega) (by omega)
  have w2:=wR (x:=k+1+1+1) (by omega) (by omega)
  have w3:=wR (x:=k+1+1+1+1) (by omega) (by omega)
  have w4:=wR (x:=k+1+1+1+1+1) (by omega) (by omega)
  have t5:=zIy x.Provides (hP.2.2.2.1) (k+1+1+1+1+1) (by omega) (by omega)
  have t6:=zIE x.Needs (hP.2.2.2.2.1) (k+1+1+1+1+1+cs c1 x.Provides) (by omega) (by omega)
  have t7:=zGI x.Bars (hP.2.2.2.2.2) (k+1+1+1+1+1+cs c1 x.Provides+cs zFz x.Needs) (by omega) (by omega)
  have hi2:w64 ((l.length:Int)+1)=((l.length+1:Nat):Int):=zN (by omega)
  unfold zAi
  rw [if_pos (by simp; omega)]
  simp only [zEm,zGv,Option.bind_some,Int.toNat_natCast,hi2,t0,w0,w1,w2,w3,w4,t5,t6,t7,zFX (zEJ _ _ _ _)]
  rw [show k+1+1+1+1+1+cs c1 x.Provides+cs zFz x.Needs+cs zFQ x.Bars=k+zFF x from by simp only [zFF]; omega]
  rfl
 ·intro l k
  unfold zAi
  rw [if_neg (by simp)]
theorem zHd (x:zI) (hP:zI.sm 1049600 x) (k:Int) (h0:0≤k) (h1:k+cs c1 x.Set≤9223372036854775807):vP x k=some (k+cs c1 x.Set,pm zI0 c1 x.Set (k)):=by
 have n0:=vH zCI x.Set
 have t0:=zIL x.Set (hP.2.2) (k) (by omega) (by omega)
 unfold vP
 simp only [t0,Option.bind_some,zFX (zEJ _ _ _ _)]
theorem zH7 (x:zI) (hP:zI.sm 1049600 x) (k:Int) (h0:0≤k) (h1:k+cs c1 x.Set≤9223372036854775807):wZ ({Code:=x.Code,At:=x.At,Set:=pm zI0 c1 x.Set (k)}:zI) k=some (k+cs c1 x.Set):=by
 have n0:=vH zCI x.Set
 have t0:=zJK x.Set (hP.2.2) (k) (by omega) (by omega)
 have z0:¬(k+cs c1 x.Set<0):=by omega
 unfold wZ
 simp [t0]
 all_goals (first|rfl|omega)
theorem zI4 (x:System) (hP:System.sm 1049600 x) (k:Int) (h0:0≤k) (h1:k+cs zFF x.Catalog+cs cFile x.zF.Files≤9223372036854775807):jH x k=some (k+cs zFF x.Catalog+cs cFile x.zF.Files,pm zPV zFF x.Catalog (k),pm mFile cFile x.zF.Files (k+cs zFF x.Catalog)):=by
 have n0:=vH zFI x.Catalog
 have n1:=vH zFj x.zF.Files
 have t0:=zJN x.Catalog (hP.1) (k) (by omega) (by omega)
 have t1:=zKQ x.zF (hP.2) (k+cs zFF x.Catalog) (by omega) (by omega)
 unfold jH
 simp only [t0,t1,Option.bind_some,zFX (zEJ _ _ _ _)]
theorem Version.zEz {x:Version} (h:Version.sm 1048576 x):Version.sm 1049600 x:=⟨trivial,trivial,trivial⟩
theorem Term.zEz {x:Term} (h:Term.sm 1048576 x):Term.sm 1049600 x:=⟨(Nat.le_trans h.1 (by decide)),(Version.zEz h.2.1),(Version.zEz h.2.2)⟩
theorem Pack.zEz {x:Pack} (h:Pack.sm 1048576 x):Pack.sm 1049600 x:=⟨(Nat.le_trans h.1 (by decide)),(Version.zEz h.2.1),trivial,⟨Nat.le_trans h.2.2.2.1.1 (by decide),fun y0 z0=>(Nat.le_trans (h.2.2.2.1.2 y0 z0) (by decide))⟩,⟨Nat.le_trans h.2.2.2.2.1.1 (by decide),fun y0 z0=>⟨Nat.le_trans (h.2.2.2.2.1.2 y0 z0).1 (by decide),fun y1 z1=>(Term.zEz ((h.2.2.2.2.1.2 y0 z0).2 y1 z1))⟩⟩,⟨Nat.le_trans h.2.2.2.2.2.1 (by decide),fun y0 z0=>(Term.zEz (h.2.2.2.2.2.2 y0 z0))⟩⟩
theorem File.zEz {x:File} (h:File.sm 1048576 x):File.sm 1049600 x:=⟨(Nat.le_trans h.1 (by decide)),⟨Nat.le_trans h.2.1 (by decide),fun y0 z0=>trivial⟩⟩
theorem zF.zEz {x:zF} (h:zF.sm 1048576 x):zF.sm 1049600 x:=⟨⟨Nat.le_trans h.1.1 (by decide),fun y0 z0=>(File.zEz (h.1.2 y0 z0))⟩,trivial,trivial,trivial,trivial⟩
theorem System.zEz {x:System} (h:System.sm 1048576 x):System.sm 1049600 x:=⟨⟨Nat.le_trans h.1.1 (by decide),fun y0 z0=>(Pack.zEz (h.1.2 y0 z0))⟩,(zF.zEz h.2)⟩
theorem zKq (x:(List ByteArray)) (hx:x.length≤1049600∧∀y0∈x,y0.size≤1049600):cs c1 x≤1049600:=by
 have:=zKs (c:=c1) (C:=1) (N:=1049600) (by decide) x (fun a _=>by unfold c1; decide) hx.1
 omega
theorem zJ0 (x:(List Term)) (hx:x.length≤1049600∧∀y0∈x,Term.sm 1049600 y0):cs zFQ x≤7347200:=by
 have:=zKs (c:=zFQ) (C:=7) (N:=1049600) (by decide) x (fun a ha=>by have hP:=hx.2 a ha; unfold zFQ; omega) hx.1
 omega
theorem zLG (x:(List (List Term))) (hx:x.length≤1049600∧∀y0∈x,y0.length≤1049600∧∀y1∈y0,Term.sm 1049600 y1):cs zFz x≤7711621120000:=by
 have:=zKs (c:=zFz) (C:=7347200) (N:=1049600) (by decide) x (fun a ha=>zJ0 a (hx.2 a ha)) hx.1
 omega
theorem zN8 (x:(List Pack)) (hx:x.length≤1049600∧∀y0∈x,Pack.sm 1049600 y0):cs zFF x≤8094126340838528000:=by
 have:=zKs (c:=zFF) (C:=7711629516805) (N:=1049600) (by decide) x (fun a ha=>by have hP:=hx.2 a ha; have q5:=zKq a.Provides (hP.2.2.2.1); have q6:=zLG a.Needs (hP.2.2.2.2.1); have q7:=zJ0 a.Bars (hP.2.2.2.2.2); unfold zFF; omega) hx.1
 omega
theorem zNi (x:(List Int)) (hx:x.length≤1049600∧∀y0∈x,True):cs c1 x≤1049600:=by
 have:=zKs (c:=c1) (C:=1) (N:=1049600) (by decide) x (fun a _=>by unfold c1; decide) hx.1
 omega
theorem zMQ (x:(List File)) (hx:x.length≤1049600∧∀y0∈x,File.sm 1049600 y0):cs cFile x≤1101661209600:=by
 have:=zKs (c:=cFile) (C:=1049601) (N:=1049600) (by decide) x (fun a ha=>by have hP:=hx.2 a ha; have q1:=zNi a.Data (hP.2); unfold cFile; omega) hx.1
 omega
theorem zLA (x:(List Int)) (hx:x.length≤1049600∧∀y0∈x,True):cs c1 x≤1049600:=by
 have:=zKs (c:=c1) (C:=1) (N:=1049600) (by decide) x (fun a _=>by unfold c1; decide) hx.1
 omega
theorem zG3 (a1:System) (k0:System.ok a1) (both:(System.sm 1048576 a1)→∃r,zB1 a1=some r∧jW a1=some r∧(zI.sm 1049600 r)):vQ a1=some true:=by
 unfold vQ
 obtain ⟨r1,e1,g1⟩:=zLF a1 k0 1048576 (by omega) (by omega)
 rw [e1]
 simp only [Option.bind_some]
 by_cases d1:r1<0
 ·rw [if_pos (by simpa using d1)]
 rw [if_neg (by simpa using d1)]
 obtain ⟨p1,q1,s_a1⟩:=g1.resolve_left d1
 obtain ⟨r,e1,e2,hr⟩:=both s_a1
 have m_a1:System.sm 1049600 a1:=(System.zEz s_a1)
 have n1:=vH zFI a1.Catalog
 have b1:=zN8 a1.Catalog (m_a1.1)
 have n2:=vH zFj a1.zF.Files
 have b2:=zMQ a1.zF.Files (m_a1.2.1)
 have n4:=vH zCI r.Set
 have b4:=zLA r.Set (hr.2.2)
 have t3:=zI4 a1 m_a1 (1) (by omega) (by omega)
 have z1:¬(1+cs zFF a1.Catalog+cs cFile a1.zF.Files<0):=by omega
 have t5:=zHd r hr 1 (by omega) (by omega)
 have u5:=zH7 r hr 1 (by omega) (by omega)
 have z2:¬(1+cs c1 r.Set<0):=by omega
 simp [e1,e2,zMc a1 m_a1,zJL a1 m_a1,zH6 r hr,t3,z1,t5,u5,z2,zFX (zEJ _ _ _ _)]
def bl (s:ByteArray):List Int:=s.toList.map (fun b=>(b.toNat:Int))
theorem zQ (s:ByteArray):(bl s).length =s.size:=by
 unfold bl
 rw [List.length_map,ByteArray.toList_eq]
 rfl
theorem zDK {s:ByteArray} {i:Nat} (h:i< (bl s).length):bidx s (i:Int)=some (bl s)[i]:=by
 unfold bidx
 rw [if_pos (by omega)]
 have hs:i<s.size:=by rw [zQ] at h; exact h
 have e:s[(i:Int).toNat]? =some s[i]:=by simp [hs]
 rw [e]
 simp only [Option.map_some,bl,List.getElem_map]
 congr 2
 simp only [ByteArray.toList_eq]
 rfl
theorem zHE {s:ByteArray}:∀c∈bl s,0≤c∧c≤255:=by
 intro c hc
 unfold bl at hc
 obtain ⟨b,_,rfl⟩:=List.mem_map.1 hc
 have:=b.toNat_lt
 omega
theorem zHK:∀(a:List UInt8),Op.bytesLess a a=false
 |[]=>rfl
 |x::a=>by simp [Op.bytesLess,zHK a]
theorem zJp:∀{a b c:List UInt8},Op.bytesLess a b=true→Op.bytesLess b c=true→Op.bytesLess a c=true
 |_,[],_,h,_=>by simp [Op.bytesLess] at h
 |_,_::_,[],_,h=>by simp [Op.bytesLess] at h
 |[],_::_,_::_,_,_=>by simp [Op.bytesLess]
 |x::a,y::b,z::c,h1,h2=>by
  simp only [Op.bytesLess,Bool.or_eq_true,decide_eq_true_eq,Bool.and_eq_true,beq_iff_eq] at h1 h2 ⊢
  rcases h1 with h1|⟨rfl,h1⟩
  ·rcases h2 with h2|⟨rfl,h2⟩
   ·exact .inl (UInt8.lt_trans h1 h2)
   ·exact .inl h1
  ·rcases h2 with h2|⟨rfl,h2⟩
   ·exact .inl h2
   ·exact .inr ⟨rfl,zJp h1 h2⟩
theorem zMz:∀(a b:List UInt8),Op.bytesLess a b=false→a≠b→Op.bytesLess b a=true
 |[],[],_,h=>absurd rfl h
 |[],_::_,h,_=>by simp [Op.bytesLess] at h
 |_::_,[],_,_=>by simp [Op.bytesLess]
 |x::a,y::b,h,hne=>by
  simp only [Op.bytesLess,Bool.or_eq_false_iff,decide_eq_false_iff_not,Bool.and_eq_false_iff,beq_eq_false_iff_ne] at h
  simp only [Op.bytesLess,Bool.or_eq_true,decide_eq_true_eq,Bool.and_eq_true,beq_iff_eq]
  by_cases hxy:x=y
  ·subst hxy
   refine .inr ⟨rfl,zMz a b ?_ (fun e=>hne (by rw [e]))⟩
   rcases h.2 with h'|h'
   ·exact absurd rfl h'
   ·exact h'
  ·refine .inl ?_
   have:=h.1
   rw [UInt8.lt_iff_toNat_lt] at this ⊢
   have:x.toNat≠y.toNat:=fun e=>hxy (UInt8.toNat_inj.1 e)
   omega
theorem toList_inj {a b:ByteArray} (h:a.toList=b.toList):a=b:=by
 rw [ByteArray.toList_eq,ByteArray.toList_eq] at h
 cases a; cases b
 simp at h
 rw [h]
theorem zGi (a:ByteArray):slt a a=false:=zHK _
theorem zHY {a b c:ByteArray} (h1:slt a b=true) (h2:slt b c=true):slt a c=true:=zJp h1 h2
theorem zQ1 {a b:ByteArray} (h:slt a b=false) (hne:a≠b):slt b a=true:=zMz _ _ h (fun e=>hne (toList_inj e))
theorem zFL {a b:ByteArray}:seq a b=true↔a=b:=by
 unfold seq
 simp only [beq_iff_eq]
 exact ⟨toList_inj,fun e=>by rw [e]⟩
theorem seq_eq (a b:ByteArray):seq a b=decide (a=b):=by
 rw [Bool.eq_iff_iff,zFL]; simp
theorem zQU (a b c:Int):wG a b c=some (decide (a≥b)&&decide (a≤c)):=by
 unfold wG
 cases decide (a≥b)<;>rfl
theorem zBF (a b:ByteArray):bl (a++b)=bl a++bl b:=by
 unfold bl
 rw [ByteArray.toList_eq,ByteArray.toList_eq,ByteArray.toList_eq]
 simp
theorem wI (s:ByteArray) (i j:Nat):bl (s.extract i j)=((bl s).drop i).take (j-i):=by
 unfold bl
 rw [ByteArray.toList_eq,ByteArray.toList_eq]
 simp [List.map_drop,List.map_take]
theorem zFV {a b:ByteArray}:bl a=bl b↔a=b:=by
 constructor
 ·intro h
  unfold bl at h
  refine toList_inj ?_
  have hinj:∀(x y:List UInt8),x.map (fun b=>(b.toNat:Int))=y.map (fun b=>(b.toNat:Int))→x=y:=by
   intro x
   induction x with
   |nil=>intro y h; cases y<;>simp_all
   |cons u x ih=>
    intro y h
    cases y with
    |nil=>simp at h
    |cons v y=>
     simp only [List.map_cons,List.cons.injEq] at h
     rw [ih y h.2]
     have:u.toNat=v.toNat:=by omega
     rw [UInt8.toNat_inj.1 this]
  exact hinj _ _ h
 ·intro h; rw [h]
theorem zFY (a b:ByteArray):seq a b=decide (bl a=bl b):=by
 rw [seq_eq]
 simp [zFV]
theorem zLT {c:Int} (h0:0≤c) (h1:c≤255):bl (b2s [c])=[c]:=by
 unfold bl b2s
 rw [ByteArray.toList_eq]
 simp only [List.foldl_cons,List.foldl_nil]
 show [((UInt8.ofNat c.toNat).toNat :Int)]=[c]
 simp
 omega
theorem wrap_u8 {c:Int} (h0:0≤c) (h1:c≤255):IntKind.u8.wrap c=c:=by
 simp only [IntKind.wrap,IntKind.signed,IntKind.bits]
 simp
 omega
def zGm (n:Nat):List Int:=if n<10 then [48+(n:Int)] else zGm (n / 10)++[48+((n%10:Nat):Int)]
termination_by n
decreasing_by omega
theorem zBs {n:Nat} (h:n<10):zGm n=[48+(n:Int)]:=by rw [zGm,if_pos h]
theorem zES {n:Nat} (h:¬n<10):zGm n=zGm (n / 10)++[48+((n%10:Nat):Int)]:=by rw [zGm,if_neg h]
theorem zGw:∀(k n:Nat),10^k≤n→n<10^(k+1)→(zGm n).length =k+1
 |0,n,_,h=>by rw [zBs (by simpa using h)]; rfl
 |k+1,n,h1,h2=>by
  have hp:1≤10^k:=Nat.one_le_pow _ _ (by omega)
  rw [Nat.pow_succ] at h1
  rw [Nat.pow_succ] at h2
  rw [zES (by omega),List.length_append,zGw k (n / 10) (by omega) (by omega)]
  rfl
theorem zHW:∀(k n:Nat),n<10^(k+1)→(zGm n).length ≤k+1
 |0,n,h=>by rw [zBs (by simpa using h)]; simp
 |k+1,n,h=>by
  by_cases hn:n<10
  ·rw [zBs hn]; simp
  ·rw [Nat.pow_succ] at h
   rw [zES hn,List.length_append]
   have:=zHW k (n / 10) (by omega)
   simp only [List.length_singleton]
   omega
theorem zI8 (g:Int→Option ByteArray) (a1:Int):uL g a1=if decide (a1<10) then some (b2s [IntKind.u8.wrap (w64 (48+a1))]) else (g (w64 (a1.tdiv 10))).bind fun x3=>(cat x3 (b2s [IntKind.u8.wrap (w64 (48+(a1.tmod 10)))])).bind fun x5=>some x5:=rfl
theorem zGr:∀(k f n:Nat),n<10^(k+1)→k<f→n≤9000000000000000000→k≤100→∃s,zQv uL f (n:Int)=some s∧bl s=zGm n
 |k,0,n,_,hf,_,_=>by omega
 |k,f+1,n,h,hf,hn,hk=>by
  rw [show zQv uL (f+1) (n:Int)=uL (zQv uL f) (n:Int) from rfl,zI8]
  by_cases h1:n<10
  ·rw [if_pos (by simp; omega),wR (by omega) (by omega),wrap_u8 (by omega) (by omega)]
   exact ⟨_,rfl,by rw [zLT (by omega) (by omega),zBs h1]⟩
  ·rw [if_neg (by simp; omega)]
   cases k with
   |zero=>simp at h; omega
   |succ k=>
    have e1:w64 ((n:Int).tdiv 10)=((n / 10:Nat):Int):=by
     rw [Int.tdiv_eq_ediv_of_nonneg (by omega),wR (by omega) (by omega)]; omega
    have e2:(n:Int).tmod 10=((n%10:Nat):Int):=by
     rw [Int.tmod_eq_emod_of_nonneg (by omega)]; omega
    rw [Nat.pow_succ] at h
    obtain ⟨s,e,hs⟩:=zGr k f (n / 10) (by omega) (by omega) (by omega) (by omega)
    rw [e1,e2,e,wR (by omega) (by omega),wrap_u8 (by omega) (by omega)]
    have hsz:s.size≤k+1:=by
     rw [←zQ,hs]
     exact zHW k (n / 10) (by omega)
    simp only [Option.bind_some]
    unfold cat
    rw [if_pos (by have:(b2s [48+((n%10:Nat):Int)]).size =1:=rfl; omega)]
    exact ⟨_,rfl,by rw [zBF,hs,zLT (by omega) (by omega),zES h1]⟩
theorem zGp (n:Nat) (h:n≤9000000000000000000):∃s,wU (n:Int)=some s∧bl s=zGm n:=
 zGr 18 64 n (by omega) (by omega) h (by omega)
theorem zKG (l:List UInt8):bl (bs l)=l.map (fun b=>(b.toNat:Int)):=by
 unfold bl bs
 rw [ByteArray.toList_eq]
theorem zA8 {a b:ByteArray} (h:a.size+b.size≤1099511627776):cat a b=some (a++b):=if_pos h
theorem zF3 (a b c:ByteArray):a++b++c=a++(b++c):=zFV.1 (by simp only [zBF,List.append_assoc])
theorem jG (a b:ByteArray):(a++b).size =a.size+b.size:=by
 rw [←zQ,zBF,List.length_append,zQ,zQ]
theorem zGs {n:Nat} (h:n<256):(UInt8.ofNat n).toNat =n:=by
 simp [Nat.mod_eq_of_lt h]
theorem decDigits_eq:∀(n:Nat),(Lib.decDigits n).map (fun b=>(b.toNat:Int))=zGm n:=by
 intro n
 induction n using Nat.strongRecOn with
 |ind n ih=>
  rw [Lib.decDigits]
  by_cases h:n<10
  ·rw [dif_pos h,zBs h]
   simp only [List.map_cons,List.map_nil]
   rw [zGs (by omega)]
   simp
  ·rw [dif_neg h,zES h,List.map_append,ih (n / 10) (by omega)]
   simp only [List.map_cons,List.map_nil]
   rw [zGs (by omega)]
   simp
def zKg (n:Nat):ByteArray:=⟨(Lib.decDigits n).toArray⟩
theorem zG5 (n:Nat):bl (zKg n)=zGm n:=by
 unfold bl zKg
 rw [ByteArray.toList_eq]
 exact decDigits_eq n
theorem zHr (n:Nat) (h:n≤9000000000000000000):wU (n:Int)=some (zKg n):=by
 obtain ⟨s,e,hs⟩:=zGp n h
 rw [e,zFV.1 (hs.trans (zG5 n).symm)]
theorem zH1 (n:Nat) (h:n≤9000000000000000000):uW (n:Int) 10=some (zKg n):=by
 unfold uW
 rw [if_pos (by omega)]
 unfold Lib.itoa zKg
 rw [if_neg (by omega)]
 simp
def inB (a b c:Int):Bool:=decide (b≤a)&&decide (a≤c)
theorem zL4 (a b c:Int):wG a b c=some (inB a b c):=by
 unfold wG inB
 by_cases h:a≥b<;>simp [h]
theorem zKH (a b c:Int):xW a b c=some (inB a b c):=by
 unfold xW inB
 by_cases h:b≤a<;>simp [h]
section del
variable {α:Type} (p:α→Bool)
theorem zKd {xs:List α} {l h:Nat} (h1:l≤h) (h2:h≤xs.length):zGB xs (l:Int) (h:Int)=some ((xs.drop l).take (h-l)):=by
 unfold zGB
 rw [if_pos (by omega)]
 rfl
end del
section del
variable {α:Type} (p:α→Bool)
theorem zQg {xs:List α} {l n:Nat} {a:α} (h:l+n≤xs.length):zOO xs (l:Int) n a=some (xs.take l++List.replicate n a++xs.drop (l+n)):=by
 unfold zOO
 rw [if_pos (by omega)]
 simp [ovr]
end del
section del
variable {α:Type} (p:α→Bool)
theorem zOV {R:Type} (a1:List α) (out:Int→R) {b:Int→Option (Lp Int (Fl R Unit))} (hl:a1.length<9223372036854775807)
  (hstep:∀(i:Nat) (hi:i<a1.length),b (i:Int)=some (if p a1[i] then .done (.ret (out i)) else .go ((i+1:Nat):Int))) (hend:b (a1.length:Int)=some (.done (.nxt ()))):
  ∃t,loop b 0=some t∧((t= .nxt ()∧∀x∈a1,p x=false)∨∃i:Nat,∃hi:i<a1.length,t= .ret (out i)∧p a1[i]=true∧∀x∈a1.take i,p x=false):=by
 refine zBb (b:=b) (fun i s=>s=(i:Int)∧∀x∈a1.take i,p x=false) a1.length _ (by
  rintro i s hi ⟨rfl,hn⟩
  have e:=hstep i hi
  cases hp:p a1[i]
  ·rw [hp] at e
   refine .inl ⟨_,e,rfl,fun x hx=>?_⟩
   rw [List.take_succ_eq_append_getElem hi] at hx
   rcases List.mem_append.1 hx with hx|hx
   ·exact hn x hx
   ·simp at hx; rw [hx]; exact hp
  ·rw [hp] at e
   exact .inr ⟨_,e,.inr ⟨i,hi,rfl,hp,hn⟩⟩) (by
  rintro s ⟨rfl,hn⟩
  rw [List.take_length] at hn
  exact ⟨_,hend,.inl ⟨rfl,hn⟩⟩) a1.length 0 0 (by omega) ⟨rfl,by simp⟩
end del
section del
variable {α:Type} (p:α→Bool)
theorem zPb {xs:List α} {i:Nat} {x:α} (h:i<xs.length):(xs.set i x).take (i+1)=xs.take i++[x]:=by
 rw [List.take_succ_eq_append_getElem (by simpa using h),List.take_set_of_le (Nat.le_refl _)]
 simp
end del
section del
variable {α:Type} (p:α→Bool)
theorem set_drop {xs:List α} {i j:Nat} {x:α} (h:i<j):(xs.set i x).drop j=xs.drop j:=by
 rw [List.drop_set_of_lt h]
end del
section del
variable {α:Type} (p:α→Bool)
theorem zNW (a:List α) {b:(List α×Int×Int)→Option (Lp (List α×Int×Int) (List α×Int))} (hl:a.length<9223372036854775807)
  (hstep:∀(xs:List α) (i j:Nat) (hj:j<xs.length),i≤j→xs.length=a.length→xs[j]∈a→b (xs,(i:Int),(j:Int))=some (.go (if p xs[j] then (xs,(i:Int),((j+1:Nat):Int)) else (xs.set i xs[j],((i+1:Nat):Int),((j+1:Nat):Int)))))
  (hend:∀(xs:List α) (i:Nat),xs.length=a.length→b (xs,(i:Int),(xs.length:Int))=some (.done (xs,(i:Int)))) (i0 j0:Nat) (hij:i0≤j0) (hj0:j0≤a.length) (h0:a.take i0=(a.take j0).filter (fun x=> !p x)):
  ∃ys:List α,loop b (a,(i0:Int),(j0:Int))=some (ys,((a.filter (fun x=> !p x)).length :Int))∧ys.length=a.length∧ys.take (a.filter (fun x=> !p x)).length =a.filter (fun x=> !p x):=by
 obtain ⟨t,e,h⟩:=zBb (b:=b) (fun j s=>s.1.length=a.length∧s.1.drop j=a.drop j∧s.2.2=(j:Int)∧∃i:Nat,s.2.1=(i:Int)∧i≤j∧s.1.take i=(a.take j).filter (fun x=> !p x)) a.length
  (fun t=>t.1.length=a.length∧∃i:Nat,t.2=(i:Int)∧i≤a.length∧t.1.take i=a.filter (fun x=> !p x)) (by
  rintro j ⟨xs,i',j'⟩ hj ⟨hxl,hxd,hjj,i,hi,hle,ht⟩
  simp only at hxl hxd hjj hi ht
  subst hjj hi
  have hjx:j<xs.length:=by omega
  have hx:xs[j]=a[j]:=by
   have:=congrArg (fun l=>l[0]?) hxd
   simp only [List.getElem?_drop,Nat.add_zero] at this
   rw [List.getElem?_eq_getElem hjx,List.getElem?_eq_getElem hj] at this
   exact Option.some.inj this
  have e:=hstep xs i j hjx hle hxl (by rw [hx]; exact List.getElem_mem hj)
  have htk:(a.take (j+1)).filter (fun x=> !p x)=(a.take j).filter (fun x=> !p x)++(if p a[j] then [] else [a[j]]):=by
   rw [List.take_succ_eq_append_getElem hj,List.filter_append]
   cases h:p a[j]<;>simp [h]
  have hd1:a.drop (j+1)=xs.drop (j+1):=by
   have:=congrArg (List.drop 1) hxd
   simpa [List.drop_drop] using this.symm
  rw [hx] at e
  cases hp:p a[j]
  ·rw [hp] at e htk
   refine .inl ⟨_,e,by simpa using hxl,?_,rfl,i+1,rfl,by omega,?_⟩
   ·show (xs.set i a[j]).drop (j+1)=a.drop (j+1)
    rw [set_drop (by omega),hd1]
   ·show (xs.set i a[j]).take (i+1)=_
    rw [zPb (by omega),htk,ht]
    rfl
  ·rw [hp] at e htk
   refine .inl ⟨_,e,hxl,?_,rfl,i,rfl,by omega,?_⟩
   ·exact hd1.symm
   ·show xs.take i=_
    rw [htk,ht]
    simp) (by
  rintro ⟨xs,i',j'⟩ ⟨hxl,hxd,hjj,i,hi,hle,ht⟩
  simp only at hxl hxd hjj hi ht
  subst hjj hi
  have e:=hend xs i hxl
  rw [hxl] at e
  refine ⟨_,e,hxl,i,rfl,hle,?_⟩
  rw [List.take_length] at ht
  exact ht) (a.length-j0) j0 (a,(i0:Int),(j0:Int)) (by omega) ⟨rfl,rfl,rfl,i0,rfl,hij,h0⟩
 obtain ⟨ys,i'⟩:=t
 obtain ⟨h1,i,h2,h3,h4⟩:=h
 simp only at h1 h2 h4
 subst h2
 have hlen:i=(a.filter (fun x=> !p x)).length :=by rw [←h4]; simp; omega
 subst hlen
 exact ⟨ys,e,h1,h4⟩
end del
section del
variable {α:Type} (p:α→Bool)
theorem zQo {a ys:List α} (zero:α) (h1:ys.length=a.length) (h2:ys.take (a.filter (fun x=> !p x)).length =a.filter (fun x=> !p x)):
  (zGB ys ((a.filter (fun x=> !p x)).length :Int) (ys.length:Int)).bind (fun r=>(zOO ys ((a.filter (fun x=> !p x)).length :Int) r.length zero).bind fun z=>(zGB z 0 ((a.filter (fun x=> !p x)).length :Int)).bind fun q=>some q)=some (a.filter (fun x=> !p x)):=by
 have hle:(a.filter (fun x=> !p x)).length ≤ys.length:=by rw [h1]; exact List.length_filter_le _ _
 rw [zKd hle (Nat.le_refl _)]
 simp only [Option.bind_some]
 rw [zQg (by simp; omega)]
 simp only [Option.bind_some]
 have:zGB (List.take (List.filter (fun x=> !p x) a).length ys++List.replicate (List.take (ys.length-(List.filter (fun x=> !p x) a).length) (List.drop (List.filter (fun x=> !p x) a).length ys)).length zero++
   List.drop ((List.filter (fun x=> !p x) a).length +(List.take (ys.length-(List.filter (fun x=> !p x) a).length) (List.drop (List.filter (fun x=> !p x) a).length ys)).length) ys) ((0:Nat):Int) ((a.filter (fun x=> !p x)).length :Int)=some (a.filter (fun x=> !p x)):=by
  rw [zKd (by omega) (by simp; omega)]
  rw [h2]
  simp
 exact (congrArg (fun o=>Option.bind o fun q=>some q) this)
end del
section del
variable {α:Type} (p:α→Bool)
theorem zOi (a:List α) (zero:α) (hl:a.length≤1048577) {b1:Int→Option (Lp Int (Fl Int Unit))} {b2:(List α×Int×Int)→Option (Lp (List α×Int×Int) (List α×Int))}
  (h1:∀(i:Nat) (hi:i<a.length),b1 (i:Int)=some (if p a[i] then .done (.ret (i:Int)) else .go ((i+1:Nat):Int))) (h1e:b1 (a.length:Int)=some (.done (.nxt ())))
  (h2:∀(xs:List α) (i j:Nat) (hj:j<xs.length),i≤j→xs.length=a.length→xs[j]∈a→b2 (xs,(i:Int),(j:Int))=some (.go (if p xs[j] then (xs,(i:Int),((j+1:Nat):Int)) else (xs.set i xs[j],((i+1:Nat):Int),((j+1:Nat):Int)))))
  (h2e:∀(xs:List α) (i:Nat),xs.length=a.length→b2 (xs,(i:Int),(xs.length:Int))=some (.done (xs,(i:Int)))):
  ((loop b1 0).bind (Fl.go some fun _=>some (-1))).bind (fun x4=>if x4==(-1) then (some a) else ((loop b2 (a,x4,w64 (x4+1))).bind fun v26=>(zGB v26.1 v26.2 (v26.1.length:Int)).bind fun x27=>(zOO v26.1 v26.2 x27.length zero).bind fun x29=>(zGB x29 0 v26.2).bind fun x31=>some x31))=some (a.filter (fun x=> !p x)):=by
 obtain ⟨t,e,h⟩:=zOV p a (fun i=>i) (b:=b1) (by omega) h1 h1e
 rw [e]
 rcases h with ⟨rfl,hn⟩|⟨i,hi,rfl,hp,hn⟩
 ·show some a=_
  congr 1
  exact (List.filter_eq_self.2 (fun x hx=>by rw [hn x hx]; rfl)).symm
 ·simp only [Option.bind_some,Fl.go]
  rw [if_neg (by simp),zN (by omega)]
  obtain ⟨ys,e2,h3,h4⟩:=zNW p a (b:=b2) (by omega) h2 h2e i (i+1) (by omega) (by omega) (by
   rw [List.take_succ_eq_append_getElem hi,List.filter_append]
   rw [List.filter_eq_self.2 (fun x hx=>by rw [hn x hx]; rfl)]
   simp [hp])
  rw [e2]
  simp only [Option.bind_some]
  exact zQo p zero h3 h4
end del
def wY {α R:Type} (g:Nat→α→Option R):Nat→List α→Option R
 |_,[]=>none
 |i,x::xs=>match g i x with
  |some r=>some r
  |none=>wY g (i+1) xs
def frs {R:Type}:Option R→Fl R Unit
 |some r=>.ret r
 |none=>.nxt ()
theorem zJl {α R:Type} (xs:List α) (g:Nat→α→Option R) {b:Int→Option (Lp Int (Fl R Unit))}
  (hstep:∀(i:Nat) (hi:i<xs.length),b (i:Int)=some (match g i xs[i] with|some r=>.done (.ret r)|none=>.go ((i+1:Nat):Int))) (hend:b (xs.length:Int)=some (.done (.nxt ()))):
  ∀(k i:Nat),i+k=xs.length→loop b (i:Int)=some (frs (wY g i (xs.drop i)))
 |0,i,h=>by
  have e:i=xs.length:=by omega
  subst e
  rw [vE,hend,List.drop_length]
  rfl
 |k+1,i,h=>by
  have hi:i<xs.length:=by omega
  have ih:=zJl xs g hstep hend k (i+1) (by omega)
  rw [vE,hstep i hi,List.drop_eq_getElem_cons hi]
  simp only [wY]
  cases g i xs[i] with
  |some r=>rfl
  |none=>exact ih
theorem wJ {α R:Type} (xs:List α) (g:Nat→α→Option R) {b:Int→Option (Lp Int (Fl R Unit))}
  (hstep:∀(i:Nat) (hi:i<xs.length),b (i:Int)=some (match g i xs[i] with|some r=>.done (.ret r)|none=>.go ((i+1:Nat):Int))) (hend:b (xs.length:Int)=some (.done (.nxt ()))):
  loop b 0=some (frs (wY g 0 xs)):=by
 have:=zJl xs g hstep hend xs.length 0 (by omega)
 simpa using this
theorem zDC {R T:Type} (o:Option R) (f:R→Option T) (h:Unit→Option T):(some (frs o)).bind (Fl.go f h)=match o with|some r=>f r|none=>h ():=by
 cases o<;>rfl
theorem zDm {α:Type} (p:α→Bool):∀(xs:List α) (i:Nat),((wY (fun j x=>if p x then some (j:Int) else none) i xs).getD (-1)≥0)↔xs.any p=true
 |[],i=>by simp [wY]
 |x::xs,i=>by
  simp only [wY]
  cases h:p x
  ·simp only [Bool.false_eq_true,if_false,List.any_cons,h,Bool.false_or]
   exact zDm p xs (i+1)
  ·simp [h]
theorem zGU {α:Type} (p:α→Bool):∀(xs:List α) (i:Nat),(wY (fun _ x=>if p x then some true else none) i xs).getD false=xs.any p
 |[],i=>rfl
 |x::xs,i=>by
  simp only [wY]
  cases h:p x
  ·simp only [Bool.false_eq_true,if_false,List.any_cons,h,Bool.false_or]
   exact zGU p xs (i+1)
  ·simp [h]
def foldI {α A:Type} (f:Nat→A→α→A):Nat→List α→A→A
 |_,[],a=>a
 |i,x::xs,a=>foldI f (i+1) xs (f i a x)
theorem zCc {α A:Type} (xs:List α) (f:Nat→A→α→A) (I:Nat→A→Prop) {b:(A×Int)→Option (Lp (A×Int) A)}
  (hstep:∀(i:Nat) (a:A) (hi:i<xs.length),I i a→b (a,(i:Int))=some (.go (f i a xs[i],((i+1:Nat):Int)))∧I (i+1) (f i a xs[i])) (hend:∀a,b (a,(xs.length:Int))=some (.done a)):
  ∀(k i:Nat) (a:A),i+k=xs.length→I i a→loop b (a,(i:Int))=some (foldI f i (xs.drop i) a)∧I xs.length (foldI f i (xs.drop i) a)
 |0,i,a,h,hI=>by
  have e:i=xs.length:=by omega
  subst e
  rw [vE,hend,List.drop_length]
  exact ⟨rfl,hI⟩
 |k+1,i,a,h,hI=>by
  have hi:i<xs.length:=by omega
  obtain ⟨h1,h2⟩:=hstep i a hi hI
  have ih:=zCc xs f I hstep hend k (i+1) _ (by omega) h2
  rw [vE,h1,List.drop_eq_getElem_cons hi]
  exact ih
theorem zEU {o:Option Int} {b:Bool} (h:(o.getD (-1)≥0)↔b=true):decide (o.getD (-1)≥0)=b:=by
 rw [Bool.eq_iff_iff,decide_eq_true_eq]; exact h
def zL0 (c:Int):Bool:=(decide (c≥97)&&decide (c≤122))||(decide (c≥48)&&decide (c≤57))||c==95
def zLt (c:Int):Bool:=zL0 c||c==46||c==45||c==47
theorem zI9 (c:Int):vG c=some (zL0 c):=by
 unfold vG vO vR zL0
 cases decide (c≥97)<;>cases decide (c≤122)<;>cases decide (c≥48)<;>cases decide (c≤57)<;>rfl
theorem zGt (c:Int):zEh c=some (zLt c):=by
 unfold zEh zLt
 rw [zI9]
 cases zL0 c<;>cases (c==46)<;>cases (c==45)<;>cases (c==47)<;>rfl
theorem zGJ (c:Int):xY c=some (zL0 c):=by
 unfold xY zL0
 cases decide (c≥97)<;>cases decide (c≤122)<;>cases decide (c≥48)<;>cases decide (c≤57)<;>rfl
theorem zKL (s:ByteArray):zBf s=vN s:=by
 unfold zBf vN
 have:kL s=tF s:=by
  unfold kL tF
  refine zHh fun i=>?_
  unfold zEy jD
  split
  ·congr 1
   funext c
   rw [zGt,zGJ]
   unfold zLt
   simp only [bne]
   cases zL0 c<;>cases (c==46)<;>cases (c==45)<;>cases (c==47)<;>rfl
  ·rfl
 rw [this]
def zHJ (s:ByteArray):Prop:=1≤s.size∧s.size≤40∧∀c∈bl s,zLt c=true
theorem zI6 (s:ByteArray):(zHJ s∧vN s=some 0)∨(¬zHJ s∧vN s=some 5):=by
 unfold vN
 by_cases h1:s.size<1
 ·refine .inr ⟨fun h=>by have:=h.1; omega,?_⟩
  rw [if_pos (by simp; omega)]; rfl
 ·rw [if_neg (by simp; omega)]
  simp only [Option.bind_some]
  by_cases h2:s.size>40
  ·refine .inr ⟨fun h=>by have:=h.2.1; omega,?_⟩
   rw [if_pos (by simp; omega)]
  ·rw [if_neg (by simp; omega)]
   obtain ⟨t,e,h⟩:=zBb (b:=jD s) (fun i j=>j=(i:Int)∧∀k,(hk:k< (bl s).length)→k<i→zLt (bl s)[k]=true) (bl s).length (fun t=>match t with| .ret r=>r=5∧¬zHJ s| .nxt _=>∀c∈bl s,zLt c=true) (by
    rintro i j hi ⟨rfl,hp⟩
    have hs:=zQ s
    unfold jD
    rw [if_pos (by simp; omega),zDK hi]
    simp only [Option.bind_some,zGt]
    cases hb:zLt (bl s)[i] with
    |false=>exact .inr ⟨_,rfl,rfl,fun h=>by have:=h.2.2 _ (List.getElem_mem hi); rw [hb] at this; cases this⟩
    |true=>
     rw [zN (by omega)]
     refine .inl ⟨_,rfl,rfl,fun k hk hki=>?_⟩
     rcases Nat.lt_or_ge k i with h|h
     ·exact hp k hk h
     ·have:k=i:=by omega
      subst this; exact hb) (by
    rintro j ⟨rfl,hp⟩
    unfold jD
    rw [if_neg (by simp [zQ])]
    refine ⟨_,rfl,fun c hc=>?_⟩
    obtain ⟨k,hk,rfl⟩:=List.getElem_of_mem hc
    exact hp k hk hk) (bl s).length 0 0 (by omega) ⟨rfl,fun k _ h=>by omega⟩
   simp only [tF,e,Option.bind_some]
   cases t with
   |ret r=>
    obtain ⟨rfl,h⟩:=h
    exact .inr ⟨h,rfl⟩
   |nxt u=>exact .inl ⟨⟨by omega,by omega,h⟩,rfl⟩
theorem zIN (s:ByteArray):∃r,vN s=some r∧(r=0↔zHJ s):=by
 rcases zI6 s with ⟨h1,h2⟩|⟨h1,h2⟩
 ·exact ⟨0,h2,by simp [h1]⟩
 ·exact ⟨5,h2,by simp [h1]⟩
def total (fs:List File):Int:=match fs with
 |[]=>0
 |f::fs=>f.Data.length+total fs
theorem zFP:∀(l r:List File),total (l++r)=total l+total r
 |[],r=>by simp [total]
 |f::l,r=>by simp only [List.cons_append,total,zFP l r]; omega
theorem zFG:∀(l:List File),0≤total l
 |[]=>Int.le_refl _
 |f::l=>by have:=zFG l; simp only [total]; omega
theorem zMx:∀(l:List File) (C:Int),0≤C→(∀f∈l,(f.Data.length:Int)≤C)→total l≤l.length*C
 |[],C,_,_=>by simp [total]
 |f::l,C,hC,h=>by
  have h1:=h f (by simp)
  have h2:=zMx l C hC (fun g hg=>h g (by simp [hg]))
  simp only [total,List.length_cons,Int.natCast_add,Int.add_mul]
  omega
theorem zNm (d:zF) (h:d.Files.length≤1048576) (hf:∀f∈d.Files,f.Data.length≤1048576):zCD d=some (total d.Files):=by
 have htot:=zMx d.Files 1048576 (by omega) (fun f hm=>by have:=hf f hm; omega)
 have hb:((d.Files.length:Int))*1048576≤1048576*1048576:=Int.mul_le_mul_of_nonneg_right (by omega) (by omega)
 obtain ⟨t,e,rfl⟩:=zBb (b:=zBH d) (fun i s=>s=(total (d.Files.take i),(i:Int))) d.Files.length (fun t=>t=total d.Files) (by
  rintro i s hi rfl
  unfold zBH
  rw [if_pos (by simp; omega)]
  have hsplit:total (d.Files.take (i+1))=total (d.Files.take i)+d.Files[i].Data.length :=by
   rw [List.take_succ_eq_append_getElem hi,zFP]
   simp [total]
  have hle:total d.Files=total (d.Files.take (i+1))+total (d.Files.drop (i+1)):=by rw [←zFP,List.take_append_drop]
  have h1:=zFG (d.Files.take i)
  have h2:=zFG (d.Files.drop (i+1))
  simp only [zO hi,Option.bind_some]
  rw [wR (by omega) (by omega),zN (by omega)]
  exact .inl ⟨_,rfl,by rw [hsplit]⟩) (by
  rintro s rfl
  unfold zBH
  rw [if_neg (by simp)]
  exact ⟨_,rfl,by simp⟩) d.Files.length 0 (0,0) (by omega) (by simp [total])
 simp only [zCD,zCY,e,Option.bind_some]
structure zF.good (d:zF):Prop where
 b0:0≤d.Budget
 b1:d.Budget≤20000
 w0:0≤d.Writes
 w1:d.Writes≤1000000000
 s0: -1≤d.Stop
 s1:d.Stop≤1000000000
 len:d.Files.length≤120
 path:∀f∈d.Files,zHJ f.Path
 data:∀f∈d.Files,f.Data.length≤4000
 sorted:d.Files.Pairwise (fun f g=>slt f.Path g.Path=true)
 room:total d.Files≤d.Budget
theorem zIB (d:zF):zAU d=vJ d:=by
 unfold zAU vJ
 have:kJ d=uU d:=by
  unfold kJ uU
  refine zHh fun i=>?_
  unfold zEx jC
  split
  ·cases hx:idx d.Files i with
   |none=>rfl
   |some x=>simp only [Option.bind_some,zKL]
  ·rfl
 rw [this]
 rfl
theorem zOz {xs:List File} (h:∀i,(hi:i+1<xs.length)→slt xs[i].Path xs[i+1].Path =true):xs.Pairwise (fun f g=>slt f.Path g.Path=true):=by
 induction xs with
 |nil=>exact .nil
 |cons x xs ih=>
  have h':∀i,(hi:i+1<xs.length)→slt xs[i].Path xs[i+1].Path =true:=fun i hi=>h (i+1) (by simp; omega)
  have ih':=ih h'
  refine .cons ?_ ih'
  cases xs with
  |nil=>simp
  |cons y ys=>
   have hxy:slt x.Path y.Path=true:=by simpa using h 0 (by simp)
   intro z hz
   rcases List.mem_cons.1 hz with rfl|hz
   ·exact hxy
   ·exact zHY hxy ((List.pairwise_cons.1 ih').1 z hz)
theorem zID (d:zF) (h:d.Files.length≤1048576):∃c,vJ d=some c∧(c=0→d.good):=by
 unfold vJ
 simp only [zQU,Option.bind_some]
 by_cases hB:0≤d.Budget∧d.Budget≤20000
 ·by_cases hW:0≤d.Writes∧d.Writes≤1000000000
  ·by_cases hS: -1≤d.Stop∧d.Stop≤1000000000
   ·simp [hB.1,hB.2,hW.1,hW.2,hS.1,hS.2]
    by_cases hl:120<d.Files.length
    ·rw [if_pos (by omega)]
     exact ⟨2,rfl,by simp⟩
    ·rw [if_neg (by omega)]
     obtain ⟨t,e,ht⟩:=zBb (b:=jC d) (fun i s=>s=(i:Int)∧(∀j,(hj:j<d.Files.length)→j<i→zHJ d.Files[j].Path ∧d.Files[j].Data.length ≤4000)∧∀j,(hj:j+1<d.Files.length)→j+1<i→slt d.Files[j].Path d.Files[j+1].Path =true) d.Files.length
      (fun t=>match t with| .ret r=>r≠0| .nxt _=>(∀f∈d.Files,zHJ f.Path∧f.Data.length≤4000)∧d.Files.Pairwise (fun f g=>slt f.Path g.Path=true)) (by
      rintro i s hi ⟨rfl,h1,h2⟩
      unfold jC
      rw [if_pos (by simp; omega)]
      obtain ⟨r,hr,hr2⟩:=zIN d.Files[i].Path
      simp only [zO hi,Option.bind_some,hr]
      by_cases hr0:r=0
      ·subst hr0
       rw [if_neg (by simp)]
       have key:∃q,(if decide ((i:Int)>0) then (idx d.Files (w64 ((i:Int)-1))).bind fun x39=>some (slt d.Files[i].Path x39.Path||seq d.Files[i].Path x39.Path) else some false)=some q∧(q=false→∀j,(hj:j+1<d.Files.length)→j+1<i+1→slt d.Files[j].Path d.Files[j+1].Path =true):=by
        by_cases hp:i=0
        ·subst hp
         exact ⟨false,by simp,fun _ j hj hji=>by omega⟩
        ·rw [if_pos (by simp; omega),wR (by omega) (by omega),show ((i:Int)-1)=((i-1:Nat):Int) by omega,zO (show i-1<d.Files.length by omega)]
         refine ⟨_,rfl,fun hq j hj hji=>?_⟩
         rcases Nat.lt_or_ge (j+1) i with hlt|hge
         ·exact h2 j hj hlt
         ·have hj1:j+1=i:=by omega
          subst hj1
          simp only [Bool.or_eq_false_iff] at hq
          have hq1:=hq.1
          have hq2:d.Files[j+1].Path ≠d.Files[j].Path :=fun e=>by
           have:=hq.2
           simp only [Nat.add_sub_cancel] at this
           rw [e] at this
           simp at this
          simp only [Nat.add_sub_cancel] at hq1
          exact zQ1 hq1 hq2
       obtain ⟨q,hq,hq2⟩:=key
       rw [hq]
       simp only [Option.bind_some]
       cases q with
       |true=>exact .inr ⟨_,rfl,by simp⟩
       |false=>
        by_cases hd:(d.Files[i].Data.length :Int)>4000
        ·exact .inr ⟨.ret 2,by rw [if_neg (by simp),if_pos (by simpa using hd)],by simp⟩
        ·refine .inl ⟨((i+1:Nat):Int),?_,rfl,fun j hj hji=>?_,hq2 rfl⟩
         ·rw [if_neg (by simp),if_neg (by simpa using hd),zN (by omega)]
         ·rcases Nat.lt_or_ge j i with h'|h'
          ·exact h1 j hj h'
          ·have:j=i:=by omega
           subst this
           exact ⟨hr2.1 rfl,by omega⟩
      ·rw [if_pos (by simpa using hr0)]
       exact .inr ⟨_,rfl,hr0⟩) (by
      rintro s ⟨rfl,h1,h2⟩
      unfold jC
      rw [if_neg (by simp)]
      refine ⟨_,rfl,fun f hf=>?_,zOz (fun i hi=>h2 i hi hi)⟩
      obtain ⟨j,hj,rfl⟩:=List.getElem_of_mem hf
      exact h1 j hj hj) d.Files.length 0 0 (by omega) ⟨rfl,fun j _ h=>by omega,fun j _ h=>by omega⟩
     simp only [uU,e,Option.bind_some]
     cases t with
     |ret r=>exact ⟨r,rfl,fun h=>absurd h ht⟩
     |nxt u=>
      simp only [Fl.go]
      rw [zNm d h (fun f hf=>by have:=(ht.1 f hf).2; omega)]
      simp only [Option.bind_some]
      by_cases hr:d.Budget<total d.Files
      ·rw [if_pos hr]
       exact ⟨8,rfl,by simp⟩
      ·rw [if_neg hr]
       exact ⟨0,rfl,fun _=>⟨hB.1,hB.2,hW.1,hW.2,hS.1,hS.2,by omega,fun f hf=>(ht.1 f hf).1,fun f hf=>(ht.1 f hf).2,ht.2,by omega⟩⟩
   ·refine ⟨3,?_,by simp⟩
    simp [hB.1,hB.2,hW.1,hW.2]
    intro a b
    exact absurd ⟨a,b⟩ hS
  ·refine ⟨3,?_,by simp⟩
   simp [hB.1,hB.2]
   rw [if_pos (by omega)]
   rfl
 ·refine ⟨3,?_,by simp⟩
  rw [if_pos (by simp; omega)]
  rfl
theorem zO6 (s p:ByteArray):strings_HasPrefix s p=jU s p:=by
 unfold strings_HasPrefix yM jU
 split
 ·cases zFc s 0 (p.size:Int)<;>rfl
 ·rfl
def begins (s p:ByteArray):Bool:=decide (p.size≤s.size)&&seq (s.extract 0 p.size) p
theorem zLs (s p:ByteArray):jU s p=some (begins s p):=by
 unfold jU begins
 by_cases h:p.size≤s.size
 ·rw [if_pos (by simp; omega)]
  unfold zFc
  rw [if_pos (by omega)]
  simp [h]
 ·rw [if_neg (by simp; omega)]
  simp [h]
theorem zMN (d:zF) (p:ByteArray):zAl d p=zA0 d p:=by
 have:jB d p=zAn d p:=by
  unfold jB zAn
  refine zHh fun s=>?_
  unfold zDQ zAw
  split
  ·cases h:idx d.Files s.2 with
   |none=>rfl
   |some x=>simp only [Option.bind_some,zO6]
  ·rfl
 unfold zAl zA0
 rw [this]
def jS (fs:List File) (p:ByteArray):List ByteArray:=(fs.filter (fun f=>begins f.Path p)).map (·.Path)
theorem zII (l r:List File) (p:ByteArray):jS (l++r) p=jS l p++jS r p:=by
 simp [jS]
theorem zEH (l:List File) (p:ByteArray):(jS l p).length ≤l.length:=by
 simp only [jS,List.length_map]
 exact List.length_filter_le _ _
theorem zJj (d:zF) (p:ByteArray) (h:d.Files.length≤1048576):zA0 d p=some (jS d.Files p):=by
 obtain ⟨t,e,rfl⟩:=zBb (b:=zAw d p) (fun i s=>s=(jS (d.Files.take i) p,(i:Int))) d.Files.length (fun t=>t=jS d.Files p) (by
  rintro i s hi rfl
  unfold zAw
  rw [if_pos (by simp; omega)]
  have hl:=zEH (d.Files.take i) p
  have hl2:(d.Files.take i).length ≤i:=by simp; omega
  have ha:∀x:ByteArray,app 16 (jS (d.Files.take i) p) [x]=some (jS (d.Files.take i) p++[x]):=fun x=>zCu (by simp; omega) (by simp; omega)
  have hsplit:jS (d.Files.take (i+1)) p=jS (d.Files.take i) p++jS [d.Files[i]] p:=by
   rw [List.take_succ_eq_append_getElem hi,zII]
  simp only [zO hi,Option.bind_some,zLs,ha,zN (show i<9223372036854775807 by omega)]
  cases hb:begins d.Files[i].Path p with
  |true=>exact .inl ⟨_,rfl,by rw [hsplit]; simp [jS,hb]⟩
  |false=>exact .inl ⟨_,rfl,by rw [hsplit]; simp [jS,hb]⟩) (by
  rintro s rfl
  unfold zAw
  rw [if_neg (by simp)]
  exact ⟨_,rfl,by simp⟩) d.Files.length 0 ([],0) (by omega) (by simp [jS])
 simp only [zA0,zAn,e,Option.bind_some]
theorem zJ8:∀(a b:List UInt8),(Lib.compareBytes a b<0↔Op.bytesLess a b=true)∧(Lib.compareBytes a b=0↔a=b)
 |[],[]=>by simp [Lib.compareBytes,Op.bytesLess]
 |[],_::_=>by simp [Lib.compareBytes,Op.bytesLess]
 |_::_,[]=>by simp [Lib.compareBytes,Op.bytesLess]
 |x::a,y::b=>by
  obtain ⟨ih1,ih2⟩:=zJ8 a b
  simp only [Lib.compareBytes,Op.bytesLess]
  by_cases h1:x<y
  ·simp [h1]
   intro e; subst e; exact absurd h1 (by simp [UInt8.lt_irrefl])
  ·by_cases h2:y<x
   ·simp [h1,h2]
    have hne:x≠y:=fun e=>by subst e; exact absurd h2 (by simp [UInt8.lt_irrefl])
    simp [hne]
   ·have e:x=y:=by
     rw [UInt8.lt_iff_toNat_lt] at h1 h2
     exact UInt8.toNat_inj.1 (by omega)
    subst e
    simp [UInt8.lt_irrefl,ih1,ih2]
theorem zOv (a b:ByteArray):zPJ a b<0↔slt a b=true:=by
 unfold zPJ slt
 rw [ByteArray.toList_eq,ByteArray.toList_eq]
 exact (zJ8 _ _).1
theorem zO8 (a b:ByteArray):zPJ a b=0↔a=b:=by
 unfold zPJ
 rw [(zJ8 _ _).2,←ByteArray.toList_eq,←ByteArray.toList_eq]
 exact ⟨toList_inj,fun e=>by rw [e]⟩
theorem zQl {i j:Int} (h0:0≤i) (h1:i≤j) (h2:j≤4611686018427387903):w64 ((IntKind.u64.wrap (w64 (i+j))).fdiv (2^(min (1:Int).toNat 64)))=(i+j) / 2:=by
 rw [wR (x:=i+j) (by omega) (by omega)]
 have e1:IntKind.u64.wrap (i+j)=i+j:=by
  simp only [IntKind.wrap,IntKind.signed,IntKind.bits]
  simp
  omega
 rw [e1]
 have e2:((2:Int)^(min (1:Int).toNat 64))=2:=by decide
 rw [e2,Int.fdiv_eq_ediv_of_nonneg _ (by omega)]
 exact wR (by omega) (by omega)
theorem zIU (f:File) (p:ByteArray):vS f p=some (zPJ f.Path p):=rfl
theorem zNe (fs:List File) (p:ByteArray) (h:fs.length≤1048576):
  ∃(k:Nat) (b:Bool),zJ fs p=some ((k:Int),b)∧k≤fs.length∧(b=true→∃hk:k<fs.length,fs[k].Path =p)∧
   (fs.Pairwise (fun f g=>slt f.Path g.Path=true)→(∀i,(hi:i<fs.length)→i<k→slt fs[i].Path p=true)∧(∀i,(hi:i<fs.length)→k≤i→slt fs[i].Path p=false)∧(b=false→∀f∈fs,f.Path≠p)):=by
 obtain ⟨t,e,k,rfl,hk,hs⟩:=zK9 (b:=yS fs p)
  (fun s=>∃i j:Nat,s=((i:Int),(j:Int))∧i≤j∧j≤fs.length∧(fs.Pairwise (fun f g=>slt f.Path g.Path=true)→(∀q,(hq:q<fs.length)→q<i→slt fs[q].Path p=true)∧(∀q,(hq:q<fs.length)→j≤q→slt fs[q].Path p=false)))
  (fun s=>(s.2-s.1).toNat)
  (fun t=>∃k:Nat,t=(k:Int)∧k≤fs.length∧(fs.Pairwise (fun f g=>slt f.Path g.Path=true)→(∀q,(hq:q<fs.length)→q<k→slt fs[q].Path p=true)∧(∀q,(hq:q<fs.length)→k≤q→slt fs[q].Path p=false))) (by
  rintro s ⟨i,j,rfl,hij,hj,hP⟩
  unfold yS
  by_cases hlt:i<j
  ·left
   rw [if_pos (by simp; omega)]
   simp only
   rw [zQl (by omega) (by omega) (by omega)]
   have hm:(((i:Int)+(j:Int)) / 2)=(((i+j) / 2:Nat):Int):=by omega
   rw [hm]
   have hmj:(i+j) / 2<j:=by omega
   have him:i≤(i+j) / 2:=by omega
   generalize (i+j) / 2=m at*
   have hmn:m<fs.length:=by omega
   simp only [zO hmn,Option.bind_some,zIU]
   by_cases hc:zPJ fs[m].Path p<0
   ·rw [if_pos (by simpa using hc),zN (by omega)]
    refine ⟨_,rfl,⟨m+1,j,rfl,by omega,hj,fun hso=>?_⟩,by simp; omega⟩
    obtain ⟨g1,g2⟩:=hP hso
    refine ⟨fun q hq hqm=>?_,g2⟩
    have hl:=(zOv _ _).1 hc
    rcases Nat.lt_or_ge q m with h'|h'
    ·exact zHY (List.pairwise_iff_getElem.1 hso q m hq hmn h') hl
    ·have:q=m:=by omega
     subst this; exact hl
   ·rw [if_neg (by simpa using hc)]
    refine ⟨_,rfl,⟨i,m,rfl,by omega,by omega,fun hso=>?_⟩,by simp; omega⟩
    obtain ⟨g1,g2⟩:=hP hso
    refine ⟨g1,fun q hq hmq=>?_⟩
    have hl:slt fs[m].Path p=false:=by
     cases h':slt fs[m].Path p with
     |false=>rfl
     |true=>exact absurd ((zOv _ _).2 h') hc
    rcases Nat.lt_or_ge m q with h'|h'
    ·cases hq2:slt fs[q].Path p with
     |false=>rfl
     |true=>
      have:=zHY (List.pairwise_iff_getElem.1 hso m q hmn hq h') hq2
      rw [hl] at this; cases this
    ·have:q=m:=by omega
     subst this; exact hl
  ·right
   rw [if_neg (by simp; omega)]
   have:i=j:=by omega
   subst this
   exact ⟨_,rfl,i,rfl,by omega,hP⟩) fs.length (0,(fs.length:Int)) (by simp) ⟨0,fs.length,rfl,by omega,by omega,fun _=>⟨fun q _ h=>by omega,fun q hq h=>by omega⟩⟩
 unfold zJ
 rw [show zX fs p (0,(fs.length:Int))=some (k:Int) from e]
 simp only [Option.bind_some]
 by_cases hkn:k<fs.length
 ·rw [if_pos (by simpa using hkn)]
  simp only [zO hkn,Option.bind_some,zIU]
  refine ⟨k,_,rfl,hk,fun hb=>⟨hkn,(zO8 _ _).1 (by simpa using hb)⟩,fun hso=>⟨(hs hso).1,(hs hso).2,fun hb f hf hfp=>?_⟩⟩
  have hne:zPJ fs[k].Path p≠0:=by simpa using hb
  obtain ⟨q,hq,rfl⟩:=List.getElem_of_mem hf
  rcases Nat.lt_trichotomy q k with h'|h'|h'
  ·have:=(hs hso).1 q hq h'
   rw [hfp,zGi] at this; cases this
  ·subst h'; exact hne ((zO8 _ _).2 hfp)
  ·have h1:=List.pairwise_iff_getElem.1 hso k q hkn hq h'
   have h2:=(hs hso).2 k hkn (Nat.le_refl _)
   rw [hfp] at h1
   rw [h1] at h2; cases h2
 ·rw [if_neg (by simpa using hkn)]
  refine ⟨k,false,rfl,hk,(fun hb=>by cases hb),fun hso=>⟨(hs hso).1,(hs hso).2,fun _ f hf hfp=>?_⟩⟩
  obtain ⟨q,hq,rfl⟩:=List.getElem_of_mem hf
  have:=(hs hso).1 q hq (by omega)
  rw [hfp,zGi] at this; cases this
theorem zLU (d:zF) (p:ByteArray) (h:d.Files.length≤1048576):
  (∃k:Nat,∃hk:k<d.Files.length,wH d p=some (k:Int)∧d.Files[k].Path =p)∨(wH d p=some (-1)∧∀f∈d.Files,f.Path≠p):=by
 obtain ⟨t,e,ht⟩:=zBb (b:=zC1 d p) (fun i s=>s=(i:Int)∧∀q,(hq:q<d.Files.length)→q<i→d.Files[q].Path ≠p) d.Files.length
  (fun t=>match t with| .ret r=>∃k:Nat,∃hk:k<d.Files.length,r=(k:Int)∧d.Files[k].Path =p| .nxt _=>∀f∈d.Files,f.Path≠p) (by
  rintro i s hi ⟨rfl,hq⟩
  unfold zC1
  rw [if_pos (by simp; omega)]
  simp only [zO hi,Option.bind_some]
  by_cases hp:d.Files[i].Path =p
  ·rw [if_pos (zFL.2 hp)]
   exact .inr ⟨_,rfl,i,hi,rfl,hp⟩
  ·rw [if_neg (fun h'=>hp (zFL.1 h')),zN (by omega)]
   refine .inl ⟨_,rfl,rfl,fun q hq' hqi=>?_⟩
   rcases Nat.lt_or_ge q i with h'|h'
   ·exact hq q hq' h'
   ·have:q=i:=by omega
    subst this; exact hp) (by
  rintro s ⟨rfl,hq⟩
  unfold zC1
  rw [if_neg (by simp)]
  refine ⟨_,rfl,fun f hf=>?_⟩
  obtain ⟨q,hq',rfl⟩:=List.getElem_of_mem hf
  exact hq q hq' hq') d.Files.length 0 0 (by omega) ⟨rfl,fun q _ h=>by omega⟩
 unfold wH
 rw [show zDA d p 0=some t from e]
 cases t with
 |ret r=>
  obtain ⟨k,hk,rfl,hp⟩:=ht
  exact .inl ⟨k,hk,rfl,hp⟩
 |nxt _=>exact .inr ⟨rfl,ht⟩
theorem zJf {fs:List File} (hs:fs.Pairwise (fun f g=>slt f.Path g.Path=true)) {i j:Nat} (hi:i<fs.length) (hj:j<fs.length) (h:fs[i].Path =fs[j].Path):i=j:=by
 rcases Nat.lt_trichotomy i j with h'|h'|h'
 ·have:=List.pairwise_iff_getElem.1 hs i j hi hj h'
  rw [h,zGi] at this; cases this
 ·exact h'
 ·have:=List.pairwise_iff_getElem.1 hs j i hj hi h'
  rw [h,zGi] at this; cases this
theorem zOt (d:zF) (p:ByteArray) (hg:d.good):
  (∃k:Nat,∃hk:k<d.Files.length,wH d p=some (k:Int)∧zJ d.Files p=some ((k:Int),true)∧d.Files[k].Path =p)∨
   (wH d p=some (-1)∧(∀f∈d.Files,f.Path≠p)∧∃k:Nat,zJ d.Files p=some ((k:Int),false)∧k≤d.Files.length∧(∀i,(hi:i<d.Files.length)→i<k→slt d.Files[i].Path p=true)∧(∀i,(hi:i<d.Files.length)→k≤i→slt d.Files[i].Path p=false)):=by
 have hl:d.Files.length≤1048576:=by have:=hg.len; omega
 obtain ⟨k,b,e,hk,h1,h2⟩:=zNe d.Files p hl
 obtain ⟨g1,g2,g3⟩:=h2 hg.sorted
 rcases zLU d p hl with ⟨q,hq,e2,hp⟩|⟨e2,hp⟩
 ·left
  cases b with
  |false=>exact absurd hp (g3 rfl _ (List.getElem_mem hq))
  |true=>
   obtain ⟨hk',hp'⟩:=h1 rfl
   have:q=k:=zJf hg.sorted hq hk' (by rw [hp,hp'])
   subst this
   exact ⟨q,hq,e2,e,hp⟩
 ·right
  cases b with
  |true=>
   obtain ⟨hk',hp'⟩:=h1 rfl
   exact absurd hp' (hp _ (List.getElem_mem hk'))
  |false=>exact ⟨e2,hp,k,e,hk,g1,g2⟩
theorem zLi (d:zF) (p:ByteArray) (hg:d.good):
  (∃k:Nat,∃hk:k<d.Files.length,wH d p=some (k:Int)∧xV d p=some (d.Files[k].Data,true)∧d.Files[k].Path =p)∨
   (wH d p=some (-1)∧xV d p=some ([],false)∧∀f∈d.Files,f.Path≠p):=by
 rcases zOt d p hg with ⟨k,hk,e1,e2,hp⟩|⟨e1,hp,k,e2,_⟩
 ·left
  refine ⟨k,hk,e1,?_,hp⟩
  unfold xV zAh
  rw [e2]
  simp only [Option.bind_some,Bool.not_true,Bool.false_eq_true,if_false,zO hk]
 ·right
  refine ⟨e1,?_,hp⟩
  unfold xV zAh
  rw [e2]
  rfl
theorem zKc {P:List Int→Prop} (h0:P []) (h1:∀l c,P l→P (l++[c])) (l:List Int):P l:=by
 have key:∀m:List Int,P m.reverse:=by
  intro m
  induction m with
  |nil=>exact h0
  |cons c m ih=>rw [List.reverse_cons]; exact h1 _ c ih
 have:=key l.reverse
 rwa [List.reverse_reverse] at this
def zHq (c:Int):Bool:=decide (c≥48)&&decide (c≤57)
def val (l:List Int):Int:=l.foldl (fun a c=>a*10+(c-48)) 0
theorem zHG (l:List Int) (c:Int):val (l++[c])=val l*10+(c-48):=by simp [val]
theorem zFs {l:List Int} (h:∀c∈l,zHq c=true):0≤val l∧val l<10^l.length:=by
 revert h
 refine zKc (P:=fun l=>(∀c∈l,zHq c=true)→0≤val l∧val l<10^l.length) ?_ ?_ l
 ·intro _; simp [val]
 ·intro l c ih h
  obtain ⟨h1,h2⟩:=ih (fun x hx=>h x (by simp [hx]))
  have hc:=h c (by simp)
  simp only [zHq,Bool.and_eq_true,decide_eq_true_eq] at hc
  rw [zHG,List.length_append,List.length_singleton,Int.pow_succ]
  omega
def zIS (l:List Int) (most:Int):Option Int:=if l.length<1∨(l.length:Int)>most∨¬(∀c∈l,zHq c=true) then none else some (val l)
theorem zMw {n:Nat} (h:n≤17):(10:Int)^n≤100000000000000000:=by
 have:(10:Nat)^n≤10^17:=Nat.pow_le_pow_right (by omega) h
 have e:((10^n:Nat):Int)=(10:Int)^n:=by simp
 rw [←e]
 omega
theorem zHV (c:Int):vR c=some (zHq c):=by
 unfold vR zHq
 cases decide (c≥48)<;>rfl
theorem zGz (s:ByteArray) (most:Int) (hm:most≤17):uD s most=some (match zIS (bl s) most with|some n=>(n,true)|none=>(0,false)):=by
 unfold uD zIS
 have hl:=zQ s
 by_cases h1:s.size<1
 ·rw [if_pos (by simp; omega),if_pos (by omega)]
  rfl
 ·rw [if_neg (by simp; omega)]
  simp only [Option.bind_some]
  by_cases h2:(s.size:Int)>most
  ·rw [if_pos (by simpa using h2),if_pos (by omega)]
  ·rw [if_neg (by simpa using h2)]
   obtain ⟨t,e,ht⟩:=zBb (b:=zBw s) (fun i q=>q=(val ((bl s).take i),(i:Int))∧∀c∈(bl s).take i,zHq c=true) (bl s).length
    (fun t=>match t with| .ret r=>r=(0,false)∧¬ ∀c∈bl s,zHq c=true| .nxt v=>v=val (bl s)∧∀c∈bl s,zHq c=true) (by
    rintro i q hi ⟨rfl,hd⟩
    have hb:=zFs hd
    have hlen:((bl s).take i).length ≤17:=by simp; omega
    have hp:=zMw hlen
    have hr:=zHE _ (List.getElem_mem hi)
    unfold zBw
    rw [if_pos (by simp; omega)]
    simp only [zDK hi,Option.bind_some,zHV]
    cases hc:zHq (bl s)[i] with
    |false=>exact .inr ⟨_,rfl,rfl,fun h=>by have:=h _ (List.getElem_mem hi); rw [hc] at this; cases this⟩
    |true=>
     have hc':=hc
     simp only [zHq,Bool.and_eq_true,decide_eq_true_eq] at hc'
     rw [wrap_u8 (by omega) (by omega),wR (x:=(bl s)[i]-48) (by omega) (by omega),wR (x:=val ((bl s).take i)*10) (by omega) (by omega),wR (by omega) (by omega),zN (by omega)]
     refine .inl ⟨_,rfl,by rw [List.take_succ_eq_append_getElem hi,zHG],fun c hcm=>?_⟩
     rw [List.take_succ_eq_append_getElem hi] at hcm
     rcases List.mem_append.1 hcm with h|h
     ·exact hd c h
     ·simp at h; rw [h]; exact hc) (by
    rintro q ⟨rfl,hd⟩
    unfold zBw
    rw [if_neg (by simp; omega)]
    rw [List.take_length] at hd ⊢
    exact ⟨_,rfl,rfl,hd⟩) (bl s).length 0 (0,0) (by omega) ⟨by simp [val],by simp⟩
   unfold zBM
   rw [e]
   cases t with
   |ret r=>
    obtain ⟨rfl,h⟩:=ht
    rw [if_pos (.inr (.inr h))]
    rfl
   |nxt v=>
    obtain ⟨rfl,h⟩:=ht
    rw [if_neg (fun h'=>by rcases h' with h'|h'|h'<;>first|omega|exact h' h)]
    rfl
theorem number_eq (s:ByteArray) (most:Int) (hm:most≤17):kV s most=some (match zIS (bl s) most with|some n=>n|none=> -1):=by
 unfold kV zIS
 have hl:=zQ s
 have he:seq s (bs [])=decide (s.size<1):=by
  rw [zFY,zKG,List.map_nil]
  rw [Bool.eq_iff_iff]
  simp only [decide_eq_true_eq]
  constructor
  ·intro h; rw [h] at hl; simp at hl; omega
  ·intro h; exact List.eq_nil_of_length_eq_zero (by omega)
 rw [he]
 by_cases h1:s.size<1
 ·rw [if_pos (by simpa using h1),if_pos (by omega)]
  rfl
 ·rw [if_neg (by simpa using h1)]
  simp only [Option.bind_some]
  by_cases h2:(s.size:Int)>most
  ·rw [if_pos (by simpa using h2),if_pos (by omega)]
  ·rw [if_neg (by simpa using h2)]
   obtain ⟨t,e,ht⟩:=zBb (b:=zC2 s) (fun i q=>q=(val ((bl s).take i),(i:Int))∧∀c∈(bl s).take i,zHq c=true) (bl s).length
    (fun t=>match t with| .ret r=>r= -1∧¬ ∀c∈bl s,zHq c=true| .nxt v=>v=val (bl s)∧∀c∈bl s,zHq c=true) (by
    rintro i q hi ⟨rfl,hd⟩
    have hb:=zFs hd
    have hlen:((bl s).take i).length ≤17:=by simp; omega
    have hp:=zMw hlen
    have hr:=zHE _ (List.getElem_mem hi)
    unfold zC2
    rw [if_pos (by simp; omega)]
    simp only [zDK hi,Option.bind_some]
    have hq:(if decide ((bl s)[i]<48)=true then some true else some (decide ((bl s)[i]>57)))=some (!zHq (bl s)[i]):=by
     unfold zHq
     by_cases a:(bl s)[i]<48
     ·have b:¬((bl s)[i]≥48):=by omega
      simp [a,b]
     ·have b:(bl s)[i]≥48:=by omega
      by_cases c:(bl s)[i]>57
      ·have d:¬((bl s)[i]≤57):=by omega
       simp [a,b,c,d]
      ·have d:(bl s)[i]≤57:=by omega
       simp [a,b,c,d]
    rw [hq]
    simp only [Option.bind_some]
    cases hc:zHq (bl s)[i] with
    |false=>exact .inr ⟨_,rfl,rfl,fun h=>by have:=h _ (List.getElem_mem hi); rw [hc] at this; cases this⟩
    |true=>
     have hc':=hc
     simp only [zHq,Bool.and_eq_true,decide_eq_true_eq] at hc'
     rw [wrap_u8 (by omega) (by omega),wR (x:=(bl s)[i]-48) (by omega) (by omega),wR (x:=10*val ((bl s).take i)) (by omega) (by omega),wR (by omega) (by omega),zN (by omega)]
     refine .inl ⟨_,rfl,by rw [List.take_succ_eq_append_getElem hi,zHG,Int.mul_comm],fun c hcm=>?_⟩
     rw [List.take_succ_eq_append_getElem hi] at hcm
     rcases List.mem_append.1 hcm with h|h
     ·exact hd c h
     ·simp at h; rw [h]; exact hc) (by
    rintro q ⟨rfl,hd⟩
    unfold zC2
    rw [if_neg (by simp; omega)]
    rw [List.take_length] at hd ⊢
    exact ⟨_,rfl,rfl,hd⟩) (bl s).length 0 (0,0) (by omega) ⟨by simp [val],by simp⟩
   unfold zD1
   rw [e]
   cases t with
   |ret r=>
    obtain ⟨rfl,h⟩:=ht
    rw [if_pos (.inr (.inr h))]
    rfl
   |nxt v=>
    obtain ⟨rfl,h⟩:=ht
    rw [if_neg (fun h'=>by rcases h' with h'|h'|h'<;>first|omega|exact h' h)]
    rfl
theorem zP4 {l:List Int} (h:∀c∈l,zHq c=true):zGm (10^l.length+(val l).toNat)=49::l:=by
 revert h
 refine zKc (P:=fun l=>(∀c∈l,zHq c=true)→zGm (10^l.length+(val l).toNat)=49::l) ?_ ?_ l
 ·intro _; rw [zBs (by decide)]; rfl
 ·intro l c ih h
  have hl:∀c∈l,zHq c=true:=fun x hx=>h x (by simp [hx])
  have hb:=zFs hl
  have hc:=h c (by simp)
  simp only [zHq,Bool.and_eq_true,decide_eq_true_eq] at hc
  have e1:(val (l++[c])).toNat =(val l).toNat *10+(c-48).toNat :=by rw [zHG]; omega
  have e2:10^(l++[c]).length =10^l.length*10:=by rw [List.length_append,List.length_singleton,Nat.pow_succ]
  have hp:1≤10^l.length:=Nat.one_le_pow _ _ (by omega)
  rw [e1,e2,zES (by omega)]
  have e3:(10^l.length*10+((val l).toNat *10+(c-48).toNat)) / 10=10^l.length+(val l).toNat :=by omega
  have e4:(10^l.length*10+((val l).toNat *10+(c-48).toNat))%10=(c-48).toNat :=by omega
  rw [e3,e4,ih hl,List.cons_append]
  congr 3
  omega
def zQL:List Int:=[103,101,110,47]
theorem zNT:bl (bs [103,101,110,47])=zQL:=zKG _
theorem zNg (n:Int):∃s,tN n=some s∧bl s=(if 1≤n∧n≤999999 then zQL++(zGm (1000000+n.toNat)).drop 1 else []):=by
 unfold tN
 rw [zQU]
 simp only [Option.bind_some]
 by_cases h:1≤n∧n≤999999
 ·rw [if_pos h]
  have hb:(decide (n≥1)&&decide (n≤999999))=true:=by simp; omega
  rw [hb]
  rw [wR (by omega) (by omega),show (1000000:Int)+n=((1000000+n.toNat:Nat):Int) by omega]
  obtain ⟨s,e,hs⟩:=zGp (1000000+n.toNat) (by omega)
  have hlen:(zGm (1000000+n.toNat)).length =7:=zGw 6 _ (by omega) (by omega)
  have hsz:s.size=7:=by rw [←zQ,hs,hlen]
  rw [e]
  simp only [Bool.not_true,Bool.false_eq_true,if_false,Option.bind_some]
  unfold zFc
  rw [if_pos (by omega)]
  simp only [Option.bind_some]
  have hx:(s.extract (1:Int).toNat ((s.size:Int)).toNat).size =6:=by
   rw [←zQ,wI,List.length_take,List.length_drop,hs,hlen,hsz]
   rfl
  unfold cat
  rw [if_pos (by have:(bs [103,101,110,47]).size =4:=rfl; omega)]
  refine ⟨_,rfl,?_⟩
  rw [zBF,zNT,wI,hs]
  congr 1
  rw [List.take_of_length_le (by rw [List.length_drop,hlen,hsz]; decide)]
  rfl
 ·rw [if_neg h]
  have hb:(decide (n≥1)&&decide (n≤999999))=false:=by
   simp only [Bool.and_eq_false_iff,decide_eq_false_iff_not]; omega
  rw [hb]
  exact ⟨_,rfl,zKG _⟩
def zEq (l:List Int):Option Int:=match zIS (l.drop 4) 6 with
 |some n=>if n≥1∧l.length=10 then some n else none
 |none=>none
theorem zOC {l:List Int} (hp:l.take 4=zQL) (hl:4≤l.length) {n:Int} (h:zIS (l.drop 4) 6=some n):
  (if 1≤n∧n≤999999 then zQL++(zGm (1000000+n.toNat)).drop 1 else [])=l↔(n≥1∧l.length=10):=by
 unfold zIS at h
 split at h
 ·cases h
 ·rename_i hc
  cases h
  have hc1:1≤(l.drop 4).length :=by omega
  have hc2:(l.drop 4).length ≤6:=by omega
  have hd:∀c∈l.drop 4,zHq c=true:=Classical.byContradiction fun h=>hc (.inr (.inr h))
  have hb:=zFs hd
  have hle:val (l.drop 4)≤999999:=by
   have:(10:Nat)^(l.drop 4).length ≤10^6:=Nat.pow_le_pow_right (by omega) hc2
   have e:(((10:Nat)^(l.drop 4).length :Nat):Int)=(10:Int)^(l.drop 4).length :=by simp
   omega
  have hll:l.length=4+(l.drop 4).length :=by simp; omega
  by_cases hn:1≤val (l.drop 4)
  ·rw [if_pos ⟨hn,hle⟩]
   constructor
   ·intro e
    refine ⟨hn,?_⟩
    rw [←e,List.length_append,List.length_drop,zGw 6 _ (by omega) (by omega)]
    rfl
   ·rintro ⟨_,h10⟩
    have h6:(l.drop 4).length =6:=by omega
    have key:=zP4 hd
    rw [h6,show (10:Nat)^6=1000000 from rfl] at key
    rw [key,←hp]
    simp
  ·rw [if_neg (by omega)]
   constructor
   ·intro e
    rw [←e] at hll
    simp at hll
   ·rintro ⟨h',_⟩; omega
theorem zKp {s p:ByteArray} (h:begins s p=true):(bl s).take (bl p).length =bl p∧(bl p).length ≤(bl s).length :=by
 unfold begins at h
 simp only [Bool.and_eq_true,decide_eq_true_eq] at h
 have:=zFL.1 h.2
 refine ⟨?_,by rw [zQ,zQ]; exact h.1⟩
 have e:=congrArg bl this
 rw [wI] at e
 simpa [zQ] using e
theorem zGu {fs:List File} {p:ByteArray}:∀s∈jS fs p,begins s p=true:=by
 intro s hs
 unfold jS at hs
 obtain ⟨f,hf,rfl⟩:=List.mem_map.1 hs
 exact (List.mem_filter.1 hf).2
def zFw (fs:List File):List Int:=(jS fs (bs [103,101,110,47])).filterMap (fun p=>zEq (bl p))
theorem zI3 {ps:List ByteArray} (h:∀s∈ps,begins s (bs [103,101,110,47])=true) {i:Nat} (hi:i<ps.length):(bl ps[i]).take 4=zQL∧4≤(bl ps[i]).length :=by
 have:=zKp (h _ (List.getElem_mem hi))
 rw [zNT] at this
 exact this
theorem zKN {s:ByteArray} {k:Nat} (h:k≤s.size):∃t,zFc s (k:Int) (s.size:Int)=some t∧bl t=(bl s).drop k:=by
 unfold zFc
 rw [if_pos (by omega)]
 refine ⟨_,rfl,?_⟩
 rw [wI]
 simp only [Int.toNat_natCast]
 rw [List.take_of_length_le (by rw [List.length_drop,zQ]; exact Nat.le_refl _)]
theorem zNP {f:ByteArray→Option Int}:∀(l:List ByteArray),(l.filterMap f).length ≤l.length:=fun l=>List.length_filterMap_le f l
theorem zK1 (d:zF) (h:d.Files.length≤1048576):zBC d=some (zFw d.Files):=by
 unfold zBC zFw
 rw [zJj d _ h]
 simp only [Option.bind_some]
 have hm:=zGu (fs:=d.Files) (p:=bs [103,101,110,47])
 have hlen:=zEH d.Files (bs [103,101,110,47])
 generalize jS d.Files (bs [103,101,110,47])=ps at*
 obtain ⟨t,e,rfl⟩:=zBb (b:=zCF d ps) (fun i s=>s=((ps.take i).filterMap (fun p=>zEq (bl p)),(i:Int))) ps.length (fun t=>t=ps.filterMap (fun p=>zEq (bl p))) (by
  rintro i s hi rfl
  obtain ⟨hp,h4⟩:=zI3 hm hi
  have hsz:4≤ps[i].size :=by rw [←zQ]; exact h4
  obtain ⟨u,hu,hub⟩:=zKN (s:=ps[i]) (k:=4) hsz
  have hu':zFc ps[i] 4 (ps[i].size :Int)=some u:=hu
  have hfl:=zNP (f:=fun p=>zEq (bl p)) (ps.take i)
  have hil:(ps.take i).length ≤i:=by simp; omega
  have ha:∀x:Int,app 8 ((ps.take i).filterMap (fun p=>zEq (bl p))) [x]=some ((ps.take i).filterMap (fun p=>zEq (bl p))++[x]):=fun x=>zCu (by simp; omega) (by simp; omega)
  have hsplit:(ps.take (i+1)).filterMap (fun p=>zEq (bl p))=(ps.take i).filterMap (fun p=>zEq (bl p))++[ps[i]].filterMap (fun p=>zEq (bl p)):=by
   rw [List.take_succ_eq_append_getElem hi,List.filterMap_append]
  unfold zCF
  rw [if_pos (by simp; omega)]
  simp only [zO hi,Option.bind_some,hu',zGz u 6 (by omega),hub,zN (show i<9223372036854775807 by omega)]
  left
  cases hn:zIS ((bl ps[i]).drop 4) 6 with
  |none=>
   refine ⟨_,rfl,?_⟩
   rw [hsplit]
   simp [zEq,hn]
  |some n=>
   obtain ⟨g,hg,hgb⟩:=zNg n
   have hiff:=zOC hp h4 hn
   rw [←hgb] at hiff
   simp only [if_true,hg,Option.bind_some]
   rw [zFY]
   by_cases hc:n≥1∧(bl ps[i]).length =10
   ·rw [decide_eq_true (hiff.2 hc)]
    simp only [Option.bind_some,if_true,ha]
    refine ⟨_,rfl,?_⟩
    rw [hsplit]
    simp [zEq,hn,hc]
   ·rw [decide_eq_false (fun e=>hc (hiff.1 e))]
    refine ⟨_,rfl,?_⟩
    rw [hsplit]
    simp only [List.filterMap_cons,zEq,hn,if_neg hc,List.filterMap_nil,List.append_nil]) (by
  rintro s rfl
  unfold zCF
  rw [if_neg (by simp)]
  exact ⟨_,rfl,by simp⟩) ps.length 0 ([],0) (by omega) (by simp)
 simp only [zDy,e,Option.bind_some]
theorem zO9 (d:zF) (h:d.Files.length≤1048576):tJ d=some (zFw d.Files):=by
 unfold tJ zFw
 rw [zMN,zJj d _ h]
 simp only [Option.bind_some]
 have hm:=zGu (fs:=d.Files) (p:=bs [103,101,110,47])
 have hlen:=zEH d.Files (bs [103,101,110,47])
 generalize jS d.Files (bs [103,101,110,47])=ps at*
 obtain ⟨t,e,rfl⟩:=zBb (b:=zAJ ps) (fun i s=>s=((ps.take i).filterMap (fun p=>zEq (bl p)),(i:Int))) ps.length (fun t=>t=ps.filterMap (fun p=>zEq (bl p))) (by
  rintro i s hi rfl
  obtain ⟨hp,h4⟩:=zI3 hm hi
  have hsz:4≤ps[i].size :=by rw [←zQ]; exact h4
  obtain ⟨u,hu,hub⟩:=zKN (s:=ps[i]) (k:=4) hsz
  have hu':zFc ps[i] 4 (ps[i].size :Int)=some u:=hu
  have hfl:=zNP (f:=fun p=>zEq (bl p)) (ps.take i)
  have hil:(ps.take i).length ≤i:=by simp; omega
  have ha:∀x:Int,app 8 ((ps.take i).filterMap (fun p=>zEq (bl p))) [x]=some ((ps.take i).filterMap (fun p=>zEq (bl p))++[x]):=fun x=>zCu (by simp; omega) (by simp; omega)
  have hsplit:(ps.take (i+1)).filterMap (fun p=>zEq (bl p))=(ps.take i).filterMap (fun p=>zEq (bl p))++[ps[i]].filterMap (fun p=>zEq (bl p)):=by
   rw [List.take_succ_eq_append_getElem hi,List.filterMap_append]
  unfold zAJ
  rw [if_pos (by simp; omega)]
  simp only [zO hi,Option.bind_some,hu',number_eq u 6 (by omega),hub,zN (show i<9223372036854775807 by omega)]
  left
  cases hn:zIS ((bl ps[i]).drop 4) 6 with
  |none=>
   refine ⟨_,rfl,?_⟩
   rw [hsplit]
   simp [zEq,hn]
  |some n=>
   have hbl:((ps[i].size :Int)==10)=decide ((bl ps[i]).length =10):=by
    rw [zQ,Bool.eq_iff_iff]; simp; omega
   simp only [hbl]
   by_cases h1:n≥1
   ·rw [if_pos (by simpa using h1)]
    by_cases h2:(bl ps[i]).length =10
    ·rw [decide_eq_true h2]
     simp only [Option.bind_some,if_true,ha]
     refine ⟨_,rfl,?_⟩
     rw [hsplit]
     simp [zEq,hn,h1,h2]
    ·rw [decide_eq_false h2]
     refine ⟨_,rfl,?_⟩
     rw [hsplit]
     simp [zEq,hn,h2]
   ·rw [if_neg (by simpa using h1)]
    refine ⟨_,rfl,?_⟩
    rw [hsplit]
    simp only [List.filterMap_cons,zEq,hn,if_neg (fun h':n≥1∧(bl ps[i]).length =10=>h1 h'.1),List.filterMap_nil,List.append_nil]) (by
  rintro s rfl
  unfold zAJ
  rw [if_neg (by simp)]
  exact ⟨_,rfl,by simp⟩) ps.length 0 ([],0) (by omega) (by simp)
 simp only [zBr,e,Option.bind_some]
theorem zFH (fs:List File):(zFw fs).length ≤fs.length:=by
 unfold zFw
 have h1:=zNP (f:=fun p=>zEq (bl p)) (jS fs (bs [103,101,110,47]))
 have h2:=zEH fs (bs [103,101,110,47])
 omega
theorem zNa {l:List Int} {n:Int} (h:zEq l=some n):l.length=10∧(∀c∈l.drop 4,zHq c=true)∧n=val (l.drop 4)∧1≤n∧n≤999999:=by
 unfold zEq at h
 cases hn:zIS (l.drop 4) 6 with
 |none=>rw [hn] at h; cases h
 |some m=>
  rw [hn] at h
  simp only at h
  split at h
  ·rename_i hc
   cases h
   unfold zIS at hn
   split at hn
   ·cases hn
   ·rename_i hc2
    cases hn
    have hd:∀c∈l.drop 4,zHq c=true:=Classical.byContradiction fun h=>hc2 (.inr (.inr h))
    have hb:=zFs hd
    have h6:(l.drop 4).length =6:=by rw [List.length_drop,hc.2]
    rw [h6] at hb
    exact ⟨hc.2,hd,rfl,hc.1,by omega⟩
  ·cases h
theorem zKv {fs:List File} {n:Int} (h:n∈zFw fs):1≤n∧n≤999999:=by
 unfold zFw at h
 obtain ⟨p,_,hp⟩:=List.mem_filterMap.1 h
 exact (zNa hp).2.2.2
theorem zGN {l:List Int} (h:∀c∈l,0≤c∧c≤255):bl (b2s l)=l:=by
 refine (zKc (P:=fun l=>(∀c∈l,0≤c∧c≤255)→bl (b2s l)=l) ?_ ?_ l) h
 ·intro _; exact zKG []
 ·intro l c ih h
  have e:b2s (l++[c])=b2s l++b2s [c]:=by
   unfold b2s
   rw [List.foldl_append]
   generalize List.foldl (fun r n=>ByteArray.push r (UInt8.ofNat n.toNat)) ByteArray.empty l=x
   simp only [List.foldl_cons,List.foldl_nil]
   generalize UInt8.ofNat c.toNat=u
   apply toList_inj
   rw [ByteArray.toList_eq,ByteArray.toList_eq]
   simp
  rw [e,zBF,ih (fun x hx=>h x (by simp [hx])),zLT (h c (by simp)).1 (h c (by simp)).2]
theorem zJW (l:List Int) (v:Int) (h:l.length≤1048576):zBl l v=some (decide (v∈l)):=by
 obtain ⟨t,e,ht⟩:=zBb (b:=zD2 l v) (fun i s=>s=(i:Int)∧v∉l.take i) l.length (fun t=>match t with| .ret r=>r=true∧v∈l| .nxt _=>v∉l) (by
  rintro i s hi ⟨rfl,hv⟩
  unfold zD2
  rw [if_pos (by simp; omega)]
  simp only [zO hi,Option.bind_some]
  by_cases hc:l[i]=v
  ·rw [if_pos (by simpa using hc)]
   exact .inr ⟨_,rfl,rfl,hc▸List.getElem_mem hi⟩
  ·rw [if_neg (by simpa using hc),zN (by omega)]
   refine .inl ⟨_,rfl,rfl,?_⟩
   rw [List.take_succ_eq_append_getElem hi]
   simp only [List.mem_append,List.mem_singleton,not_or]
   exact ⟨hv,fun e=>hc e.symm⟩) (by
  rintro s ⟨rfl,hv⟩
  unfold zD2
  rw [if_neg (by simp)]
  rw [List.take_length] at hv
  exact ⟨_,rfl,hv⟩) l.length 0 0 (by omega) ⟨rfl,by simp⟩
 unfold zBl
 rw [show zE1 l v 0=some t from e]
 cases t with
 |ret r=>obtain ⟨rfl,hm⟩:=ht; simp [Fl.go,hm]
 |nxt _=>simp only [Fl.go,Option.bind_some]; rw [decide_eq_false ht]
theorem zHF (l:List Int) (v:Int) (h:l.length≤1048576):xL l v=some (decide (v∈l)):=by
 obtain ⟨t,e,ht⟩:=zBb (b:=uG l v) (fun i s=>s=(i:Int)∧v∉l.take i) l.length (fun t=>match t with| .ret r=>0≤r∧v∈l| .nxt _=>v∉l) (by
  rintro i s hi ⟨rfl,hv⟩
  unfold uG
  rw [if_pos (by simp; omega)]
  simp only [zO hi,Option.bind_some]
  by_cases hc:v=l[i]
  ·rw [if_pos (by simpa using hc)]
   exact .inr ⟨_,rfl,by omega,hc▸List.getElem_mem hi⟩
  ·rw [if_neg (by simpa using hc),zN (by omega)]
   refine .inl ⟨_,rfl,rfl,?_⟩
   rw [List.take_succ_eq_append_getElem hi]
   simp only [List.mem_append,List.mem_singleton,not_or]
   exact ⟨hv,hc⟩) (by
  rintro s ⟨rfl,hv⟩
  unfold uG
  rw [if_neg (by simp)]
  rw [List.take_length] at hv
  exact ⟨_,rfl,hv⟩) l.length 0 0 (by omega) ⟨rfl,by simp⟩
 unfold xL uY
 rw [show uQ l v 0=some t from e]
 cases t with
 |ret r=>obtain ⟨h0,hm⟩:=ht; simp [Fl.go,hm,h0]
 |nxt _=>simp only [Fl.go,Option.bind_some]; rw [decide_eq_false ht]; rfl
def zK5 (d:zF):Option Int:=match d.Files.find? (fun f=>decide (f.Path=bs [99,117,114])) with
 |none=>none
 |some f=>match zIS f.Data 6 with
  |none=>none
  |some n=>if n∈zFw d.Files then some n else none
theorem zNC {fs:List File} {p:ByteArray} {k:Nat} (hs:fs.Pairwise (fun f g=>slt f.Path g.Path=true)) (hk:k<fs.length) (hp:fs[k].Path =p):fs.find? (fun f=>decide (f.Path=p))=some fs[k]:=by
 rw [List.find?_eq_some_iff_getElem]
 refine ⟨by simp [hp],k,hk,rfl,fun j hj=>?_⟩
 simp only [Bool.not_eq_eq_eq_not,Bool.not_true,decide_eq_false_iff_not]
 intro e
 have:=zJf hs (by omega) hk (e.trans hp.symm)
 omega
theorem zKY {fs:List File} {p:ByteArray} (h:∀f∈fs,f.Path≠p):fs.find? (fun f=>decide (f.Path=p))=none:=by
 rw [List.find?_eq_none]
 intro f hf
 simpa using h f hf
theorem zHy (d:zF) (hg:d.good) (hb:∀f∈d.Files,∀c∈f.Data,0≤c∧c≤255):
  zBa d=some ((zK5 d).getD 0)∧uX d=some ((zK5 d).getD 0,match zK5 d with|some _=>0|none=>4):=by
 have hl:d.Files.length≤1048576:=by have:=hg.len; omega
 have hgl:=zFH d.Files
 unfold zBa uX
 rcases zLi d (bs [99,117,114]) hg with ⟨k,hk,e1,e2,hp⟩|⟨e1,e2,hp⟩
 ·have hf:=zNC hg.sorted hk hp
  have hbk:=zGN (hb _ (List.getElem_mem hk))
  have hn:¬((k:Int)<0):=by omega
  rw [e1,e2,zK1 d hl,zO9 d hl]
  simp only [Option.bind_some,zO hk,zGz _ 6 (by omega),number_eq _ 6 (by omega),hbk,decide_eq_false hn,Bool.false_eq_true,if_false]
  unfold zK5
  rw [hf]
  simp only
  cases hnum:zIS d.Files[k].Data 6 with
  |none=>
   have hneg:¬((-1:Int)∈zFw d.Files):=fun h=>by have:=zKv h; omega
   simp [zHF _ _ (show (zFw d.Files).length ≤1048576 by omega),hneg]
  |some n=>
   simp only [zHF _ _ (show (zFw d.Files).length ≤1048576 by omega),zJW _ _ (show (zFw d.Files).length ≤1048576 by omega)]
   by_cases hm:n∈zFw d.Files
   ·simp [hm]
   ·simp [hm]
 ·have hf:=zKY hp
  rw [e1,e2]
  simp only [Option.bind_some,number_eq _ 6 (by omega)]
  unfold zK5
  rw [hf]
  simp
def zOM (c:Int):Bool:=decide (97≤c)&&decide (c≤122)
def zK3 (c:Int):Bool:=decide (48≤c)&&decide (c≤57)
def zLn (c:Int):Bool:=zOM c||(zK3 c||c==95)
theorem zHI (c:Int):vO c=some (zOM c):=by
 unfold vO zOM
 by_cases h:c≥97<;>simp [h]
theorem zMZ (c:Int):vR c=some (zK3 c):=by
 unfold vR zK3
 by_cases h:c≥48<;>simp [h]
theorem zK8 (c:Int):vG c=some (zLn c):=by
 unfold vG zLn
 simp only [zHI,zMZ,Option.bind_some]
 cases zOM c<;>cases zK3 c<;>simp
theorem zGG (c:Int):xY c=some (zLn c):=by
 unfold xY zLn zOM zK3
 by_cases h1:c≥97<;>by_cases h2:c≤122<;>by_cases h3:c≥48<;>by_cases h4:c≤57<;>simp [h1,h2,h3,h4]
def zJU (s:ByteArray):Int:=(wY (fun _ c=>if zLn c then none else some (5:Int)) 0 (bl s)).getD 0
def NF (s:ByteArray):Int:=if s.size<1 then 5 else if s.size>12 then 5 else if zOM ((bl s).headD 0) then zJU s else 5
theorem zOu {s:ByteArray} (h:1≤s.size):bidx s 0=some ((bl s).headD 0):=by
 have h':0< (bl s).length :=by rw [zQ]; exact h
 have e:=zDK (s:=s) (i:=0) h'
 rw [show ((0:Nat):Int)=0 from rfl] at e
 rw [e]
 have:(bl s)[0]? =some ((bl s).headD 0):=by
  cases hb:bl s with
  |nil=>rw [hb] at h'; simp at h'
  |cons c l=>rfl
 rw [List.getElem?_eq_getElem h'] at this
 exact this
theorem zJM (s:ByteArray) (h:s.size≤12):kD s 0=some (frs (wY (fun _ c=>if zLn c then none else some (5:Int)) 0 (bl s))):=by
 unfold kD
 refine wJ (bl s) _ (fun i hi=>?_) ?_
 ·have hs:i<s.size:=by rw [←zQ]; exact hi
  unfold zCe
  rw [if_pos (by simp; omega),zDK hi]
  simp only [Option.bind_some,zK8]
  rw [zN (by omega)]
  cases zLn (bl s)[i]<;>rfl
 ·unfold zCe
  rw [if_neg (by rw [zQ]; simp)]
theorem zJ4 (s:ByteArray) (h:s.size≤12):kI s 0=some (frs (wY (fun _ c=>if zLn c then none else some (5:Int)) 0 (bl s))):=by
 unfold kI
 refine wJ (bl s) _ (fun i hi=>?_) ?_
 ·have hs:i<s.size:=by rw [←zQ]; exact hi
  unfold zCd
  rw [if_pos (by simp; omega),zDK hi]
  simp only [Option.bind_some,zGG]
  rw [zN (by omega)]
  cases zLn (bl s)[i]<;>rfl
 ·unfold zCd
  rw [if_neg (by rw [zQ]; simp)]
theorem zEI (s:ByteArray):wX s=some (NF s):=by
 unfold wX NF
 by_cases h1:s.size<1
 ·rw [if_pos (show decide ((s.size:Int)<1)=true by rw [decide_eq_true_eq]; omega),if_pos h1]; rfl
 rw [if_neg (show ¬decide ((s.size:Int)<1)=true by rw [decide_eq_true_eq]; omega),if_neg h1]
 by_cases h2:s.size>12
 ·rw [if_pos (show decide ((s.size:Int)>12)=true by rw [decide_eq_true_eq]; omega),if_pos h2]; rfl
 rw [if_neg (show ¬decide ((s.size:Int)>12)=true by rw [decide_eq_true_eq]; omega),if_neg h2,zOu (by omega),zJM s (by omega)]
 simp only [Option.bind_some,zHI]
 cases h3:zOM ((bl s).headD 0)
 ·rfl
 ·unfold zJU
  cases wY (fun _ c=>if zLn c then none else some (5:Int)) 0 (bl s)<;>rfl
theorem zPj (c:Int):(if decide (c<97)=true then some true else some (decide (c>122)))=some (!(zOM c)):=by
 unfold zOM
 by_cases h3:c<97
 ·rw [if_pos (by rw [decide_eq_true_eq]; exact h3)]
  have:decide (97≤c)=false:=by rw [decide_eq_false_iff_not]; omega
  rw [this]; rfl
 ·rw [if_neg (by rw [decide_eq_true_eq]; exact h3)]
  have:decide (97≤c)=true:=by rw [decide_eq_true_eq]; omega
  rw [this]
  congr 1
  rw [Bool.true_and,Bool.eq_iff_iff]
  simp
theorem zEG (s:ByteArray):wW s=some (NF s):=by
 unfold wW NF
 by_cases h1:s.size<1
 ·rw [if_pos (show decide ((s.size:Int)<1)=true by rw [decide_eq_true_eq]; omega),if_pos h1]; rfl
 rw [if_neg (show ¬decide ((s.size:Int)<1)=true by rw [decide_eq_true_eq]; omega),if_neg h1]
 by_cases h2:s.size>12
 ·rw [if_pos (show decide ((s.size:Int)>12)=true by rw [decide_eq_true_eq]; omega),if_pos h2]; rfl
 rw [if_neg (show ¬decide ((s.size:Int)>12)=true by rw [decide_eq_true_eq]; omega),if_neg h2,zOu (by omega),zJ4 s (by omega)]
 simp only [Option.bind_some,zPj]
 cases h3:zOM ((bl s).headD 0)
 ·rfl
 ·unfold zJU
  cases wY (fun _ c=>if zLn c then none else some (5:Int)) 0 (bl s)<;>rfl
def VF (v:Version):Int:=if inB v.A 0 999&&inB v.B 0 999&&inB v.C 0 999 then 0 else 3
theorem zE9 (v:Version):wB v=some (VF v):=by
 unfold wB VF
 simp only [zL4,Option.bind_some]
 cases inB v.A 0 999<;>cases inB v.B 0 999<;>cases inB v.C 0 999<;>rfl
theorem zFt (v:Version):wM v=some (VF v):=by
 unfold wM VF
 simp only [zKH,Option.bind_some]
 cases inB v.A 0 999<;>cases inB v.B 0 999<;>cases inB v.C 0 999<;>rfl
def sgn (a b:Int):Int:=if a<b then-1 else if a>b then 1 else 0
theorem zNY (a b:Int):kU a b=some (sgn a b):=by
 unfold kU sgn
 by_cases h:a<b
 ·simp [h]
 ·by_cases h2:a>b<;>simp [h,h2]
theorem cmp_eq (a b:Int):wK a b=some (sgn a b):=by
 unfold wK tT sgn
 simp only [Option.bind_some,bne_self_eq_false,Bool.false_eq_true,if_false]
 by_cases h:a<b
 ·simp [h]
 ·by_cases h2:a>b<;>simp [h,h2]
def zIf (a b:Version):Int:=if sgn a.A b.A≠0 then sgn a.A b.A else if sgn a.B b.B≠0 then sgn a.B b.B else sgn a.C b.C
theorem zBj (a b:Version):yF a b=some (zIf a b):=by
 unfold yF zIf
 simp only [zNY,Option.bind_some]
 by_cases h1:sgn a.A b.A=0
 ·by_cases h2:sgn a.B b.B=0<;>simp [h1,h2]
 ·simp [h1]
theorem zQ3 (l:List Int) (h:l.length≤10):loop (zDz l) 0=some (frs (wY (fun _ c=>if c !=0 then some c else none) 0 l)):=by
 refine wJ l _ (fun i hi=>?_) ?_
 ·unfold zDz
  rw [if_pos (by simp; omega),zO hi]
  simp only [Option.bind_some]
  rw [zN (by omega)]
  cases l[i] !=0<;>rfl
 ·unfold zDz
  rw [if_neg (by simp)]
theorem zHo (a b:Version):uM a b=some (zIf a b):=by
 unfold uM zIf zEW zE2
 simp only [cmp_eq,Option.bind_some]
 rw [zQ3 _ (by simp),zDC]
 by_cases h1:sgn a.A b.A=0
 ·by_cases h2:sgn a.B b.B=0
  ·by_cases h3:sgn a.C b.C=0<;>simp [h1,h2,h3,wY]
  ·simp [h1,h2,wY]
 ·simp [h1,wY]
theorem zNJ (a b:Version):zIf b a= -zIf a b:=by
 unfold zIf sgn
 split<;>split<;>omega
def eqV (a b:Version):Bool:=a.A==b.A&&(a.B==b.B&&(a.C==b.C&&true))
theorem zKr (a b:Version):(zIf a b==0)=eqV a b:=by
 unfold zIf eqV sgn
 rw [Bool.eq_iff_iff]
 simp only [beq_iff_eq,Bool.and_eq_true,Bool.and_true]
 constructor
 ·intro h
  split at h<;>omega
 ·intro ⟨h1,h2,h3⟩
  split<;>omega
def zKf:Version:= {A:=1000,B:=0,C:=0}
def TF (t:Term):Int:=if NF t.Name≠0 then NF t.Name else if VF t.Low≠0 then VF t.Low else
 if eqV t.High zKf=false∧VF t.High≠0 then 3 else if zIf t.Low t.High≥0 then 1 else 0
theorem zFo (t:Term):vM t=some (TF t):=by
 unfold vM TF kP
 simp only [zEI,zE9,zBj,Option.bind_some]
 show (if (NF t.Name !=0)=true then some (NF t.Name) else if (VF t.Low !=0)=true then some (VF t.Low) else (if (!(eqV t.High zKf))=true then some (VF t.High !=0) else some false).bind fun v=>if v=true then some 3 else if decide (zIf t.Low t.High≥0)=true then some 1 else some 0)=_
 generalize NF t.Name=a
 generalize VF t.Low=b
 generalize eqV t.High zKf=c
 generalize VF t.High=d
 generalize zIf t.Low t.High=e
 by_cases h1:a=0
 ·by_cases h2:b=0
  ·by_cases h4:d=0<;>by_cases h5:e≥0<;>cases c<;>simp [h1,h2,h4,h5]
  ·simp [h1,h2]
 ·simp [h1]
theorem zFm (t:Term):vB t=some (TF t):=by
 unfold vB TF zDq
 simp only [zEG,zFt,zHo,Option.bind_some]
 show (if (NF t.Name !=0)=true then some (NF t.Name) else if (VF t.Low !=0)=true then some (VF t.Low) else (if (!(eqV t.High zKf))=true then some (VF t.High !=0) else some false).bind fun v=>if v=true then some 3 else if decide (zIf t.Low t.High≥0)=true then some 1 else some 0)=_
 generalize NF t.Name=a
 generalize VF t.Low=b
 generalize eqV t.High zKf=c
 generalize VF t.High=d
 generalize zIf t.Low t.High=e
 by_cases h1:a=0
 ·by_cases h2:b=0
  ·by_cases h4:d=0<;>by_cases h5:e≥0<;>cases c<;>simp [h1,h2,h4,h5]
  ·simp [h1,h2]
 ·simp [h1]
def tsF (l:List Term):Int:=(wY (fun _ t=>if TF t !=0 then some (TF t) else none) 0 l).getD 0
theorem zHv (l:List Term) (h:l.length≤1048576):jY l=some (tsF l):=by
 have key:=wJ l (fun _ t=>if TF t !=0 then some (TF t) else none) (b:=zBT l) (by
  intro i hi
  unfold zBT
  rw [if_pos (by simp; omega),zO hi]
  simp only [Option.bind_some,zFo]
  rw [zN (by omega)]
  cases TF l[i] !=0<;>rfl) (by
  unfold zBT
  rw [if_neg (by simp)])
 unfold jY zCZ tsF
 rw [key,zDC]
 cases wY (fun _ t=>if TF t !=0 then some (TF t) else none) 0 l<;>rfl
theorem zEY (l:List Term) (h:l.length≤1048576):wT l=some (tsF l):=by
 have key:=wJ l (fun _ t=>if TF t !=0 then some (TF t) else none) (b:=zAg l) (by
  intro i hi
  unfold zAg
  rw [if_pos (by simp; omega),zO hi]
  simp only [Option.bind_some,zFm]
  rw [zN (by omega)]
  cases TF l[i] !=0<;>rfl) (by
  unfold zAg
  rw [if_neg (by simp)])
 unfold wT zAN tsF
 rw [key,zDC]
 cases wY (fun _ t=>if TF t !=0 then some (TF t) else none) 0 l<;>rfl
theorem zEv {n:Nat} (h:n<1000):(zKg n).size ≤3:=by
 rw [←zQ,zG5]
 exact zHW 2 n (by omega)
theorem zET:(bs [46]).size =1:=rfl
def zPv (v:Version):ByteArray:=zKg v.A.toNat++bs [46]++zKg v.B.toNat++bs [46]++zKg v.C.toNat
theorem zIo {v:Version} (h:VF v=0):(0≤v.A∧v.A≤999)∧(0≤v.B∧v.B≤999)∧(0≤v.C∧v.C≤999):=by
 unfold VF inB at h
 split at h
 ·rename_i hh
  simp only [Bool.and_eq_true,decide_eq_true_eq] at hh
  omega
 ·cases h
theorem zEO {v:Version} (h:VF v=0):(zPv v).size ≤11:=by
 obtain ⟨h1,h2,h3⟩:=zIo h
 unfold zPv
 simp only [jG,zET]
 have a1:=zEv (n:=v.A.toNat) (by omega)
 have a2:=zEv (n:=v.B.toNat) (by omega)
 have a3:=zEv (n:=v.C.toNat) (by omega)
 omega
theorem zKb {x:Int} (h:0≤x∧x≤999):wU x=some (zKg x.toNat):=by
 have:=zHr x.toNat (by omega)
 rwa [Int.toNat_of_nonneg h.1] at this
theorem zJV {x:Int} (h:0≤x∧x≤999):zCm x=some (zKg x.toNat):=by
 have:=zH1 x.toNat (by omega)
 rw [Int.toNat_of_nonneg h.1] at this
 unfold zCm
 rw [this]
 rfl
theorem zE0 {v:Version} (h:VF v=0):xS v=some (zPv v):=by
 obtain ⟨h1,h2,h3⟩:=zIo h
 have a1:=zEv (n:=v.A.toNat) (by omega)
 have a2:=zEv (n:=v.B.toNat) (by omega)
 have a3:=zEv (n:=v.C.toNat) (by omega)
 unfold xS zPv
 rw [zE9,h]
 simp only [Option.bind_some,zKb h1,zKb h2,zKb h3]
 rw [if_neg (by simp)]
 rw [zA8 (by rw [zET]; omega)]
 simp only [Option.bind_some]
 rw [zA8 (by simp only [jG,zET]; omega)]
 simp only [Option.bind_some]
 rw [zA8 (by simp only [jG,zET]; omega)]
 simp only [Option.bind_some]
 rw [zA8 (by simp only [jG,zET]; omega)]
 rfl
theorem zHN {v:Version} (h:VF v=0):xZ v=some (zPv v):=by
 obtain ⟨h1,h2,h3⟩:=zIo h
 have a1:=zEv (n:=v.A.toNat) (by omega)
 have a2:=zEv (n:=v.B.toNat) (by omega)
 have a3:=zEv (n:=v.C.toNat) (by omega)
 unfold xZ zPv
 simp only [Option.bind_some,zJV h1,zJV h2,zJV h3]
 rw [zA8 (by rw [zET]; omega)]
 simp only [Option.bind_some]
 rw [zA8 (by simp only [jG,zET]; omega)]
 simp only [Option.bind_some]
 rw [zA8 (by simp only [jG,zET]; omega)]
 simp only [Option.bind_some]
 rw [zA8 (by simp only [jG,zET]; omega)]
 rfl
theorem zG2 {s:ByteArray} (h:NF s=0):1≤s.size∧s.size≤12:=by
 unfold NF at h
 split at h
 ·cases h
 ·split at h
  ·cases h
  ·omega
def zeroV:Version:= {A:=0,B:=0,C:=0}
def zNO (t:Term):ByteArray:=if eqV t.Low zeroV then bs [] else bs [62,61]++zPv t.Low
def zOE (t:Term):ByteArray:=if eqV t.High zKf then bs [] else bs [60]++zPv t.High
def zJZ (t:Term):ByteArray:=t.Name++(zNO t++zOE t)
theorem zJs:bl (bs [])=[]:=by unfold bl; rw [ByteArray.toList_eq]; rfl
theorem zMC (a:ByteArray):a++bs []=a:=zFV.1 (by rw [zBF,zJs,List.append_nil])
theorem zLK {t:Term} (h:TF t=0):NF t.Name=0∧VF t.Low=0∧(eqV t.High zKf=true∨VF t.High=0)∧zIf t.Low t.High<0:=by
 unfold TF at h
 split at h
 ·rename_i h1; exact absurd h h1
 rename_i h1
 split at h
 ·rename_i h2; exact absurd h h2
 rename_i h2
 split at h
 ·cases h
 rename_i h3
 split at h
 ·cases h
 rename_i h4
 refine ⟨by simpa using h1,by simpa using h2,?_,by omega⟩
 cases he:eqV t.High zKf
 ·refine .inr ?_
  by_cases hv:VF t.High=0
  ·exact hv
  ·exact absurd ⟨he,hv⟩ h3
 ·exact .inl rfl
theorem zIt {t:Term} (h:VF t.Low=0):(zNO t).size ≤13:=by
 unfold zNO
 have hv:=zEO h
 split
 ·decide
 ·rw [jG]; have:(bs [62,61]).size =2:=rfl; omega
theorem zHc {t:Term} (h:eqV t.High zKf=true∨VF t.High=0):(zOE t).size ≤12:=by
 unfold zOE
 split
 ·decide
 ·rename_i he
  rcases h with h|h
  ·exact absurd h he
  ·have hv:=zEO h
   rw [jG]; have:(bs [60]).size =1:=rfl; omega
theorem zHi {t:Term} (h:TF t=0):(zJZ t).size ≤37:=by
 obtain ⟨h1,h2,h3,_⟩:=zLK h
 have a1:=zG2 h1
 have a2:=zIt h2
 have a3:=zHc h3
 unfold zJZ
 simp only [jG]
 omega
theorem zQr (a b:Version):(zIf a b !=0)= !(eqV a b):=by
 rw [←zKr]; rfl
theorem zHU (t:Term):zAe t=some (if TF t !=0 then bs [] else zJZ t):=by
 unfold zAe
 rw [zFo]
 simp only [Option.bind_some]
 cases h:TF t !=0
 case true=>rfl
 have h0:TF t=0:=by simpa using h
 obtain ⟨h1,h2,h3,_⟩:=zLK h0
 have a1:=zG2 h1
 have a2:=zIt h2
 have a3:=zHc h3
 rw [if_neg (by simp),if_neg (by simp),zBj]
 simp only [Option.bind_some,kP]
 rw [show (zIf t.Low ({A:=0,B:=0,C:=0}:Version) !=0)= !(eqV t.Low zeroV) from zQr _ _]
 have step1:(if (!(eqV t.Low zeroV))=true then (cat t.Name (bs [62,61])).bind fun x8=>(xS t.Low).bind fun x10=>(cat x8 x10).bind fun x12=>some x12 else some t.Name)=some (t.Name++zNO t):=by
  unfold zNO at a2 ⊢
  cases hq:eqV t.Low zeroV
  ·rw [if_pos (by rfl),zE0 h2]
   have hv:=zEO h2
   have h62:(bs [62,61]).size =2:=rfl
   rw [zA8 (by omega)]
   simp only [Option.bind_some]
   rw [zA8 (by rw [jG]; omega)]
   simp only [Option.bind_some,zF3]
   rfl
  ·rw [if_neg (by simp)]
   rw [if_pos rfl,zMC]
 rw [step1]
 simp only [Option.bind_some]
 have step2:(if (!(eqV t.High zKf))=true then (cat (t.Name++zNO t) (bs [60])).bind fun x8=>(xS t.High).bind fun x10=>(cat x8 x10).bind fun x12=>some x12 else some (t.Name++zNO t))=some (zJZ t):=by
  unfold zJZ
  unfold zOE at a3 ⊢
  cases hq:eqV t.High zKf
  ·have hV:VF t.High=0:=h3.resolve_left (by rw [hq]; simp)
   have hv:=zEO hV
   have h62:(bs [60]).size =1:=rfl
   rw [if_pos (by rfl),zE0 hV]
   rw [zA8 (by rw [jG]; omega)]
   simp only [Option.bind_some]
   rw [zA8 (by simp only [jG]; omega)]
   simp only [Option.bind_some,zF3]
   rfl
  ·rw [if_neg (by simp)]
   rw [if_pos rfl,zMC]
 exact (congrArg (fun o=>Option.bind o fun v=>some v) step2)
theorem zId (t:Term):zAa t=some (if TF t !=0 then bs [] else zJZ t):=by
 unfold zAa
 rw [zFm]
 simp only [Option.bind_some]
 cases h:TF t !=0
 case true=>rfl
 have h0:TF t=0:=by simpa using h
 obtain ⟨h1,h2,h3,_⟩:=zLK h0
 have a1:=zG2 h1
 have a2:=zIt h2
 have a3:=zHc h3
 simp only [Bool.false_eq_true,if_false,Option.bind_some,zDq]
 rw [show (!(t.Low.A==0&&(t.Low.B==0&&(t.Low.C==0&&true))))= !(eqV t.Low zeroV) from rfl]
 have step1:(if (!(eqV t.Low zeroV))=true then (xZ t.Low).bind fun x6=>(cat (bs [62,61]) x6).bind fun x8=>(cat t.Name x8).bind fun x10=>some x10 else some t.Name)=some (t.Name++zNO t):=by
  unfold zNO at a2 ⊢
  cases hq:eqV t.Low zeroV
  ·rw [if_pos (by rfl),zHN h2]
   have hv:=zEO h2
   have h62:(bs [62,61]).size =2:=rfl
   simp only [Option.bind_some]
   rw [zA8 (by omega)]
   simp only [Option.bind_some]
   rw [zA8 (by rw [jG]; omega)]
   rfl
  ·rw [if_neg (by simp)]
   rw [if_pos rfl,zMC]
 rw [step1]
 simp only [Option.bind_some]
 have step2:(if (!(eqV t.High zKf))=true then (xZ t.High).bind fun x6=>(cat (bs [60]) x6).bind fun x8=>(cat (t.Name++zNO t) x8).bind fun x10=>some x10 else some (t.Name++zNO t))=some (zJZ t):=by
  unfold zJZ
  unfold zOE at a3 ⊢
  cases hq:eqV t.High zKf
  ·have hV:VF t.High=0:=h3.resolve_left (by rw [hq]; simp)
   have hv:=zEO hV
   have h62:(bs [60]).size =1:=rfl
   rw [if_pos (by rfl),zHN hV]
   simp only [Option.bind_some]
   rw [zA8 (by omega)]
   simp only [Option.bind_some]
   rw [zA8 (by simp only [jG]; omega)]
   simp only [Option.bind_some,zF3]
   rfl
  ·rw [if_neg (by simp)]
   rw [if_pos rfl,zMC]
 exact (congrArg (fun o=>Option.bind o fun v=>some v) step2)
theorem zMp:∀(l:List Term) (i:Nat),(wY (fun _ t=>if TF t !=0 then some (TF t) else none) i l).getD 0=0→∀t∈l,TF t=0
 |[],_,_=>by simp
 |t::l,i,h=>by
  simp only [wY] at h
  cases ht:TF t !=0
  ·rw [ht] at h
   have:=zMp l (i+1) (by simpa using h)
   intro x hx
   rcases List.mem_cons.1 hx with rfl|hx
   ·simpa using ht
   ·exact this x hx
  ·rw [ht] at h
   simp only [if_true,Option.getD_some] at h
   rw [h] at ht
   simp at ht
theorem zP7 {l:List Term} (h:tsF l=0):∀t∈l,TF t=0:=zMp l 0 h
def zNy {α:Type} (f:α→ByteArray) (a:ByteArray) (l:List α):ByteArray:=l.foldl (fun a t=>a++f t) a
theorem zMu {α:Type} (f:α→ByteArray):∀(l:List α) (a:ByteArray),foldI (fun _ a t=>a++f t) 0 l a=zNy f a l∧∀i,foldI (fun _ a t=>a++f t) i l a=zNy f a l
 |[],a=>⟨rfl,fun _=>rfl⟩
 |x::l,a=>by
  have:=zMu f l (a++f x)
  exact ⟨this.2 1,fun i=>this.2 (i+1)⟩
theorem zKA {α:Type} (xs:List α) (f:α→ByteArray) (C:Nat) (hC:∀x∈xs,(f x).size ≤C) {b:(ByteArray×Int)→Option (Lp (ByteArray×Int) ByteArray)} (a0:ByteArray)
  (hstep:∀(i:Nat) (a:ByteArray) (hi:i<xs.length),a.size≤a0.size+i*C→b (a,(i:Int))=some (.go (a++f xs[i],((i+1:Nat):Int)))) (hend:∀a,b (a,(xs.length:Int))=some (.done a)):
  loop b (a0,0)=some (zNy f a0 xs)∧(zNy f a0 xs).size ≤a0.size+xs.length*C:=by
 have h:=zCc xs (fun _ a t=>a++f t) (fun i a=>a.size≤a0.size+i*C) (b:=b) (fun i a hi hI=>⟨hstep i a hi hI,by
  have h:=hC _ (List.getElem_mem hi)
  simp only [jG]
  rw [Nat.add_mul]
  omega⟩) hend xs.length 0 a0 (by omega) (by omega)
 rw [List.drop_zero,(zMu f xs a0).1] at h
 exact h
def zOr (t:Term):ByteArray:=zJZ t++bs [10]
def zHt (l:List Term):ByteArray:=zNy zOr (bs []) l
theorem zJ1 {t:Term} (h:TF t=0):(zOr t).size ≤38:=by
 unfold zOr
 have:=zHi h
 rw [jG]; have:(bs [10]).size =1:=rfl; omega
theorem zLV (l:List Term) (hl:l.length≤1048576) (h:∀t∈l,TF t=0):zDY l=some (zHt l):=by
 have key:=zKA l zOr 38 (fun t ht=>zJ1 (h t ht)) (b:=zDd l) (bs []) (fun i a hi ha=>by
  have hz:(bs []).size =0:=rfl
  have ht:=h _ (List.getElem_mem hi)
  have hts:=zHi ht
  have h10:(bs [10]).size =1:=rfl
  unfold zDd
  rw [if_pos (by simp; omega),zO hi]
  simp only [Option.bind_some,zHU]
  rw [if_neg (by simp [ht]),zA8 (by omega)]
  simp only [Option.bind_some]
  rw [zA8 (by rw [jG]; omega)]
  simp only [Option.bind_some,zF3]
  rw [zN (by omega)]
  rfl) (fun a=>by
  unfold zDd
  rw [if_neg (by simp)])
 unfold zDY zDD
 rw [key.1]
 rfl
theorem zIP (l:List Term) (hl:l.length≤1048576):vU l=some (if tsF l !=0 then bs [] else zHt l):=by
 unfold vU
 rw [zEY l hl]
 simp only [Option.bind_some]
 cases h0:tsF l !=0
 case true=>rfl
 have h:=zP7 (l:=l) (by simpa using h0)
 have key:=zKA l zOr 38 (fun t ht=>zJ1 (h t ht)) (b:=zAL l) (bs []) (fun i a hi ha=>by
  have hz:(bs []).size =0:=rfl
  have ht:=h _ (List.getElem_mem hi)
  have hts:=zHi ht
  have h10:(bs [10]).size =1:=rfl
  unfold zAL
  rw [if_pos (by simp; omega),zO hi]
  simp only [Option.bind_some,zId]
  rw [if_neg (by simp [ht]),zA8 (by omega)]
  simp only [Option.bind_some]
  rw [zA8 (by rw [jG]; omega)]
  simp only [Option.bind_some]
  rw [zN (by omega)]
  rfl) (fun a=>by
  unfold zAL
  rw [if_neg (by simp)])
 unfold zB0
 rw [key.1]
 rfl
theorem zJT (a b:ByteArray):seq a b=seq b a:=by
 unfold seq
 rw [Bool.eq_iff_iff]
 simp only [beq_iff_eq]
 exact eq_comm
theorem zEM {α R:Type} (g:Nat→α→Option R):∀(xs:List α) (i:Nat),wY g i xs=none↔∀(j:Nat) (h:j<xs.length),g (i+j) xs[j]=none
 |[],i=>by simp [wY]
 |x::xs,i=>by
  simp only [wY]
  cases h:g i x with
  |some r=>
   simp only [reduceCtorEq,false_iff]
   intro hh
   have:=hh 0 (by simp)
   simp only [Nat.add_zero,List.getElem_cons_zero] at this
   rw [h] at this
   cases this
  |none=>
   show wY g (i+1) xs=none↔_
   rw [zEM g xs (i+1)]
   constructor
   ·intro hh j hj
    cases j with
    |zero=>simpa using h
    |succ j=>
     have:=hh j (by simpa using hj)
     rw [show i+(j+1)=i+1+j by omega]
     simpa using this
   ·intro hh j hj
    have:=hh (j+1) (by simpa using hj)
    rw [show i+(j+1)=i+1+j by omega] at this
    simpa using this
theorem zGh {α:Type} {xs:List α} {i:Nat} (h:i≤xs.length):zGB xs 0 (i:Int)=some (xs.take i):=by
 have:=zKd (xs:=xs) (l:=0) (h:=i) (by omega) h
 rw [show ((0:Nat):Int)=0 from rfl] at this
 rw [this]
 simp
theorem zIV (l:List ByteArray) (n:ByteArray) (h:l.length≤1048576):jV l n=some (l.any fun x=>seq x n):=by
 have key:=wJ l (fun _ x=>if seq x n then some true else none) (b:=zBX l n) (by
  intro i hi
  unfold zBX
  rw [if_pos (by simp; omega),zO hi]
  simp only [Option.bind_some]
  rw [zN (by omega)]
  cases seq l[i] n<;>rfl) (by
  unfold zBX
  rw [if_neg (by simp)])
 unfold jV zC7
 rw [key,zDC,←zGU (fun x=>seq x n) l 0]
 cases wY (fun _ x=>if seq x n then some true else none) 0 l<;>rfl
theorem zJD (l:List ByteArray) (n:ByteArray) (h:l.length≤1048576):wP l n=some (l.any fun x=>seq x n):=by
 have key:=wJ l (fun i x=>if seq x n then some (i:Int) else none) (b:=vT l n) (by
  intro i hi
  unfold vT
  rw [if_pos (by simp; omega),zO hi]
  simp only [Option.bind_some]
  rw [zN (by omega),zJT n]
  cases seq l[i] n<;>rfl) (by
  unfold vT
  rw [if_neg (by simp)])
 unfold wP uI vX
 rw [key,zDC]
 rw [←zEU (zDm (fun x=>seq x n) l 0)]
 cases wY (fun j x=>if seq x n then some (j:Int) else none) 0 l<;>rfl
def zLv (p:Pack) (i:Nat) (n:ByteArray):Option Int:=if NF n !=0 then some (NF n) else if seq n p.Name||(p.Provides.take i).any (fun x=>seq x n) then some 6 else none
def zL8 (_:Nat) (l:List Term):Option Int:=if (l.length:Int)==0 then some 1 else if tsF l !=0 then some (tsF l) else none
def zQc (p:Pack):Bool:=decide ((p.Provides.length:Int)>4)||(decide ((p.Needs.length:Int)>4)||(decide ((p.Bars.length:Int)>4)||p.Needs.any (fun l=>decide ((l.length:Int)>4))))
def zK4 (p:Pack):Int:=match wY (zLv p) 0 p.Provides with
 |some r=>r
 |none=>match wY zL8 0 p.Needs with
  |some r=>r
  |none=>tsF p.Bars
def PF (p:Pack):Int:=if NF p.Name !=0 then NF p.Name else if VF p.Version !=0 then VF p.Version else if !(inB p.Size 1 200) then 3 else if zQc p then 2 else zK4 p
theorem zIq (p:Pack) (hp:Pack.sm 1048576 p):((kN p 0).bind (Fl.go some fun v60=>(kR p 0).bind (Fl.go some fun v80=>(jY p.Bars).bind fun x81=>some x81)))=some (zK4 p):=by
 obtain ⟨_,_,_,hpr,hne,hba⟩:=hp
 have k2:=wJ p.Provides (zLv p) (b:=zA7 p) (by
  intro i hi
  unfold zA7 zLv
  rw [if_pos (by simp; omega),zO hi]
  simp only [Option.bind_some,zEI]
  rw [zGh (by omega)]
  simp only [Option.bind_some]
  rw [zIV _ _ (by simp; omega),zN (by omega)]
  simp only [Option.bind_some]
  cases NF p.Provides[i] !=0<;>cases seq p.Provides[i] p.Name<;>cases (p.Provides.take i).any (fun x=>seq x p.Provides[i])<;>rfl) (by
  unfold zA7
  rw [if_neg (by simp)])
 have k3:=wJ p.Needs zL8 (b:=zA9 p) (by
  intro i hi
  unfold zA9 zL8
  rw [if_pos (by simp; omega),zO hi]
  simp only [Option.bind_some]
  rw [zHv _ (hne.2 _ (List.getElem_mem hi)).1,zN (by omega)]
  simp only [Option.bind_some]
  cases (p.Needs[i].length :Int)==0<;>cases tsF p.Needs[i] !=0<;>rfl) (by
  unfold zA9
  rw [if_neg (by simp)])
 unfold kN kR zK4
 rw [k2,k3,zHv _ hba.1]
 cases wY (zLv p) 0 p.Provides<;>cases wY zL8 0 p.Needs<;>rfl
theorem zH9 (p:Pack) (hp:Pack.sm 1048576 p):((kE p 0).bind (Fl.go some fun v46=>(kC p 0).bind (Fl.go some fun v62=>(wT p.Bars).bind fun x63=>some x63)))=some (zK4 p):=by
 obtain ⟨_,_,_,hpr,hne,hba⟩:=hp
 have k2:=wJ p.Provides (zLv p) (b:=zAD p) (by
  intro i hi
  unfold zAD zLv
  rw [if_pos (by simp; omega),zO hi]
  simp only [Option.bind_some,zEG]
  rw [zGh (by omega)]
  simp only [Option.bind_some]
  rw [zJD _ _ (by simp; omega),zN (by omega)]
  simp only [Option.bind_some]
  cases NF p.Provides[i] !=0<;>cases seq p.Provides[i] p.Name<;>cases (p.Provides.take i).any (fun x=>seq x p.Provides[i])<;>rfl) (by
  unfold zAD
  rw [if_neg (by simp)])
 have k3:=wJ p.Needs zL8 (b:=zAA p) (by
  intro i hi
  unfold zAA zL8
  rw [if_pos (by simp; omega),zO hi]
  simp only [Option.bind_some]
  rw [zEY _ (hne.2 _ (List.getElem_mem hi)).1,zN (by omega)]
  simp only [Option.bind_some]
  cases (p.Needs[i].length :Int)==0<;>cases tsF p.Needs[i] !=0<;>rfl) (by
  unfold zAA
  rw [if_neg (by simp)])
 unfold kE kC zK4
 rw [k2,k3,zEY _ hba.1]
 cases wY (zLv p) 0 p.Provides<;>cases wY zL8 0 p.Needs<;>rfl
theorem zGj {α R:Type} (p:α→Bool) (r:R):∀(xs:List α) (i:Nat),wY (fun _ x=>if p x then some r else none) i xs=if xs.any p then some r else none
 |[],i=>rfl
 |x::xs,i=>by
  simp only [wY]
  cases h:p x
  ·simp only [Bool.false_eq_true,if_false,List.any_cons,h,Bool.false_or]
   exact zGj p r xs (i+1)
  ·simp [h]
theorem zIG (p:Pack) (hp:Pack.sm 1048576 p):zAV p=some (PF p):=by
 have hl:=zIq p hp
 obtain ⟨_,_,_,hpr,hne,hba⟩:=hp
 have k1:=wJ p.Needs (fun _ l=>if decide ((l.length:Int)>4) then some (2:Int) else none) (b:=zA5 p) (by
  intro i hi
  unfold zA5
  rw [if_pos (by simp; omega),zO hi]
  simp only [Option.bind_some]
  rw [zN (by omega)]
  cases decide ((p.Needs[i].length :Int)>4)<;>rfl) (by
  unfold zA5
  rw [if_neg (by simp)])
 rw [zGj] at k1
 unfold zAV PF zQc
 simp only [zEI,zE9,zL4,Option.bind_some]
 rw [hl]
 unfold zBv
 rw [k1]
 cases NF p.Name !=0<;>cases VF p.Version !=0<;>cases inB p.Size 1 200<;>cases decide ((p.Provides.length:Int)>4)<;>cases decide ((p.Needs.length:Int)>4)<;>cases decide ((p.Bars.length:Int)>4)<;>cases p.Needs.any (fun l=>decide ((l.length:Int)>4))<;>rfl
theorem zMF (l:List Int) (h:l.length≤10):loop (zAC l) 0=some (frs (wY (fun _ c=>if c !=0 then some c else none) 0 l)):=by
 refine wJ l _ (fun i hi=>?_) ?_
 ·unfold zAC
  rw [if_pos (by simp; omega),zO hi]
  simp only [Option.bind_some]
  rw [zN (by omega)]
  cases l[i] !=0<;>rfl
 ·unfold zAC
  rw [if_neg (by simp)]
theorem zI7 (p:Pack) (hp:Pack.sm 1048576 p):zBh p=some (PF p):=by
 have hl:=zH9 p hp
 obtain ⟨_,_,_,hpr,hne,hba⟩:=hp
 have k1:=wJ p.Needs (fun i l=>if decide ((l.length:Int)>4) then some (i:Int) else none) (b:=yL p.Needs) (by
  intro i hi
  unfold yL zAv
  rw [if_pos (by simp; omega),zO hi]
  simp only [Option.bind_some]
  rw [zN (by omega)]
  cases decide ((p.Needs[i].length :Int)>4)<;>rfl) (by
  unfold yL
  rw [if_neg (by simp)])
 have k2:zS p.Needs=some (p.Needs.any (fun l=>decide ((l.length:Int)>4))):=by
  unfold zS yG yR
  rw [k1,zDC,←zEU (zDm (fun l:List Term=>decide ((l.length:Int)>4)) p.Needs 0)]
  cases wY (fun j (x:List Term)=>if decide ((x.length:Int)>4) then some (j:Int) else none) 0 p.Needs<;>rfl
 have k3:vL [NF p.Name,VF p.Version]=some (if NF p.Name !=0 then NF p.Name else VF p.Version):=by
  have k:=zMF [NF p.Name,VF p.Version] (by simp)
  unfold vL kF
  rw [k,zDC]
  simp only [wY]
  cases hn:NF p.Name !=0
  ·cases hv:VF p.Version !=0
   ·have:VF p.Version=0:=by simpa using hv
    simp [this]
   ·rfl
  ·rfl
 unfold zBh PF zQc
 simp only [zEG,zFt,zKH,Option.bind_some]
 rw [hl,k2,k3]
 simp only [Option.bind_some]
 cases hn:NF p.Name !=0
 ·simp only [Bool.false_eq_true,if_false]
  cases VF p.Version !=0<;>cases inB p.Size 1 200<;>cases decide ((p.Provides.length:Int)>4)<;>cases decide ((p.Needs.length:Int)>4)<;>cases decide ((p.Bars.length:Int)>4)<;>cases p.Needs.any (fun l=>decide ((l.length:Int)>4))<;>rfl
 ·simp only [if_true,hn]
def isB (n:ByteArray) (v:Version) (q:Pack):Bool:=seq q.Name n&&eqV q.Version v
def zH5 (c:List Pack) (n:ByteArray) (v:Version):Int:=(wY (fun i q=>if isB n v q then some (i:Int) else none) 0 c).getD (-1)
theorem zLf (c:List Pack) (n:ByteArray) (v:Version):decide (zH5 c n v≥0)=c.any (isB n v):=zEU (zDm (isB n v) c 0)
theorem zIQ (c:List Pack) (n:ByteArray) (v:Version) (h:c.length≤1048576):kY c n v=some (zH5 c n v):=by
 have key:=wJ c (fun i q=>if isB n v q then some (i:Int) else none) (b:=zC5 c n v) (by
  intro i hi
  unfold zC5 isB
  rw [if_pos (by simp; omega),zO hi]
  simp only [Option.bind_some,zBj,zKr]
  rw [zN (by omega)]
  cases seq c[i].Name n<;>cases eqV c[i].Version v<;>rfl) (by
  unfold zC5
  rw [if_neg (by simp)])
 unfold zH5
 unfold kY zD6
 rw [key,zDC]
 cases wY (fun i q=>if isB n v q then some (i:Int) else none) 0 c<;>rfl
theorem zIX (c:List Pack) (n:ByteArray) (v:Version) (h:c.length≤1048576):zD0 c n v=some (zH5 c n v):=by
 have key:=wJ c (fun i q=>if isB n v q then some (i:Int) else none) (b:=xI c n v) (by
  intro i hi
  unfold xI isB zEE
  rw [if_pos (by simp; omega),zO hi]
  simp only [Option.bind_some]
  rw [zN (by omega)]
  show (Option.bind (if seq c[i].Name n=true then some (eqV c[i].Version v) else some false) _)=_
  cases seq c[i].Name n<;>cases eqV c[i].Version v<;>rfl) (by
  unfold xI
  rw [if_neg (by simp)])
 unfold zH5
 unfold zD0 xC xJ
 rw [key,zDC]
 cases wY (fun i q=>if isB n v q then some (i:Int) else none) 0 c<;>rfl
theorem find_spec (c:List Pack) (n:ByteArray) (v:Version) (h:c.length≤1048576):∃k,kY c n v=some k∧decide (k≥0)=c.any (isB n v):=⟨_,zIQ c n v h,zLf c n v⟩
theorem zNQ (c:List Pack) (n:ByteArray) (v:Version) (h:c.length≤1048576):∃k,zD0 c n v=some k∧decide (k≥0)=c.any (isB n v):=⟨_,zIX c n v h,zLf c n v⟩
theorem zJe {p:Pack→Bool}:∀(c:List Pack) (i:Nat),(wY (fun i q=>if p q then some (i:Int) else none) i c).getD (-1)= -1∨((i:Int)≤(wY (fun i q=>if p q then some (i:Int) else none) i c).getD (-1)∧(wY (fun i q=>if p q then some (i:Int) else none) i c).getD (-1)< (i:Int)+c.length)
 |[],i=>.inl rfl
 |q::c,i=>by
  simp only [wY]
  cases h:p q
  ·have:=zJe (p:=p) c (i+1)
   simp only [Bool.false_eq_true,if_false,List.length_cons]
   rcases this with h|h
   ·exact .inl h
   ·exact .inr (by omega)
  ·simp only [if_true,Option.getD_some,List.length_cons]
   exact .inr (by omega)
theorem zLu (c:List Pack) (n:ByteArray) (v:Version):zH5 c n v= -1∨(0≤zH5 c n v∧zH5 c n v<c.length):=by
 have:=zJe (p:=isB n v) c 0
 unfold zH5
 rcases this with h|h
 ·exact .inl h
 ·exact .inr (by simpa using h)
def zOI (c:List Pack) (i:Nat) (p:Pack):Option Int:=if PF p !=0 then some (PF p) else if (c.take i).any (isB p.Name p.Version) then some 6 else none
def CF (c:List Pack):Int:=if decide ((c.length:Int)>24) then 2 else (wY (zOI c) 0 c).getD 0
theorem zGZ (c:List Pack) (hc:c.length≤1048576∧∀y0∈c,Pack.sm 1048576 y0):uV c=some (CF c):=by
 have key:=wJ c (zOI c) (b:=tK c) (by
  intro i hi
  unfold tK zOI
  rw [if_pos (by simp; omega),zO hi]
  simp only [Option.bind_some]
  rw [zIG _ (hc.2 _ (List.getElem_mem hi)),zGh (by omega)]
  simp only [Option.bind_some]
  obtain ⟨k,e,hk⟩:=find_spec (c.take i) c[i].Name c[i].Version (by simp; omega)
  rw [e,zN (by omega)]
  simp only [Option.bind_some]
  rw [hk]
  cases PF c[i] !=0<;>cases (c.take i).any (isB c[i].Name c[i].Version)<;>rfl) (by
  unfold tK
  rw [if_neg (by simp)])
 unfold uV CF jQ
 rw [key,zDC]
 cases decide ((c.length:Int)>24)<;>cases wY (zOI c) 0 c<;>rfl
theorem zFq (c:List Pack) (hc:c.length≤1048576∧∀y0∈c,Pack.sm 1048576 y0):vC c=some (CF c):=by
 have key:=wJ c (zOI c) (b:=tV c) (by
  intro i hi
  unfold tV zOI
  rw [if_pos (by simp; omega),zO hi]
  simp only [Option.bind_some]
  rw [zI7 _ (hc.2 _ (List.getElem_mem hi)),zGh (by omega)]
  simp only [Option.bind_some]
  obtain ⟨k,e,hk⟩:=zNQ (c.take i) c[i].Name c[i].Version (by simp; omega)
  rw [e,zN (by omega)]
  simp only [Option.bind_some]
  rw [hk]
  cases PF c[i] !=0<;>cases (c.take i).any (isB c[i].Name c[i].Version)<;>rfl) (by
  unfold tV
  rw [if_neg (by simp)])
 unfold vC CF jK
 rw [key,zDC]
 cases decide ((c.length:Int)>24)<;>cases wY (zOI c) 0 c<;>rfl
def noPack:Pack:= {Name:=ByteArray.empty,Version:= {A:=0,B:=0,C:=0},Size:=0,Provides:=[],Needs:=[],Bars:=[]}
def pat (c:List Pack) (k:Int):Pack:=(idx c k).getD noPack
def Places (c:List Pack) (a:List Int):Prop:=∀k∈a,0≤k∧k<c.length
theorem zEC {c:List Pack} {k:Int} (h:0≤k∧k<c.length):idx c k=some (pat c k)∧pat c k∈c:=by
 unfold pat idx
 rw [if_pos h.1]
 have:k.toNat<c.length:=by omega
 rw [List.getElem?_eq_getElem this]
 exact ⟨rfl,List.getElem_mem this⟩
def Cat (c:List Pack):Prop:=c.length≤1048576∧∀y0∈c,Pack.sm 1048576 y0
theorem Cat.zSn {c:List Pack} (hc:Cat c) {k:Int} (h:0≤k∧k<c.length):(pat c k).Provides.length ≤1048576:=(hc.2 _ (zEC h).2).2.2.2.1.1
theorem Cat.needs {c:List Pack} (hc:Cat c) {k:Int} (h:0≤k∧k<c.length):(pat c k).Needs.length ≤1048576:=(hc.2 _ (zEC h).2).2.2.2.2.1.1
theorem Cat.clause {c:List Pack} (hc:Cat c) {k:Int} (h:0≤k∧k<c.length) {l:List Term} (hl:l∈(pat c k).Needs):l.length≤1048576:=((hc.2 _ (zEC h).2).2.2.2.2.1.2 l hl).1
theorem Cat.bars {c:List Pack} (hc:Cat c) {k:Int} (h:0≤k∧k<c.length):(pat c k).Bars.length ≤1048576:=(hc.2 _ (zEC h).2).2.2.2.2.2.1
def zQK (c:List Pack) (a:List Int) (i:Nat) (k:Int):Option Bool:=if !(inB k 0 ((c.length:Int)-1))||(decide (0<i)&&decide (k≤a.getD (i-1) 0)) then some false else none
def zQd (c:List Pack) (a:List Int):Bool:=(wY (zQK c a) 0 a).isNone
theorem getD_lt {a:List Int} {i:Nat} (h:i<a.length):a.getD i 0=a[i]:=by simp [List.getD,h]
def SF (c:List Pack) (a:List Int):Int:=if CF c !=0 then CF c else if zQd c a then 0 else 1
def zRU (a:List Int) (i:Nat) (k:Int):Option Int:=if decide (k≤a.getD (i-1) 0) then some 1 else none
theorem zPa (c:List Pack) (a:List Int):zQd c a=((wY (zRU a) 1 (a.drop 1)).isNone &&a.all (fun k=>inB k 0 ((c.length:Int)-1))):=by
 unfold zQd
 rw [Bool.eq_iff_iff,Bool.and_eq_true,Option.isNone_iff_eq_none,Option.isNone_iff_eq_none,zEM,zEM,List.all_eq_true]
 constructor
 ·intro h
  constructor
  ·intro j hj
   have hj':1+j<a.length:=by simp at hj; omega
   have:=h (1+j) hj'
   unfold zQK at this
   unfold zRU
   rw [List.getElem_drop]
   split at this
   ·cases this
   ·rename_i hn
    rw [if_neg]
    intro hx
    apply hn
    rw [Nat.zero_add]
    rw [Bool.or_eq_true,Bool.and_eq_true]
    exact .inr ⟨by rw [decide_eq_true_eq]; omega,hx⟩
  ·intro k hk
   obtain ⟨i,hi,rfl⟩:=List.mem_iff_getElem.1 hk
   have:=h i hi
   unfold zQK at this
   split at this
   ·cases this
   ·rename_i hn
    simp only [Bool.or_eq_true,not_or] at hn
    simpa using hn.1
 ·rintro ⟨h1,h2⟩ j hj
  unfold zQK
  rw [if_neg]
  rw [Nat.zero_add,h2 _ (List.getElem_mem hj)]
  simp only [Bool.not_true,Bool.false_or,Bool.and_eq_true,not_and]
  intro h0 hx
  have h0':0<j:=by simpa using h0
  have hd:j-1< (a.drop 1).length :=by simp; omega
  have:=h1 (j-1) hd
  unfold zRU at this
  rw [List.getElem_drop] at this
  have ej:1+(j-1)=j:=by omega
  simp only [ej] at this
  rw [if_pos hx] at this
  cases this
theorem zOd {c:List Pack} {a:List Int} (h:(SF c a==0)=true):Places c a:=by
 unfold SF at h
 split at h
 ·rename_i h1
  rw [beq_iff_eq] at h
  rw [h] at h1
  simp at h1
 ·split at h
  ·rename_i h2
   rw [zPa,Bool.and_eq_true,List.all_eq_true] at h2
   intro k hk
   have:=h2.2 k hk
   unfold inB at this
   simp only [Bool.and_eq_true,decide_eq_true_eq] at this
   omega
  ·cases h
def zQq (t:Term) (v:Version):Bool:=decide (zIf v t.Low≥0)&&decide (zIf v t.High<0)
def zNU (t:Term) (n:ByteArray) (v:Version):Bool:=seq t.Name n&&zQq t v
theorem zLP (t:Term) (n:ByteArray) (v:Version):jR t n v=some (zNU t n v):=by
 unfold jR zNU zQq
 simp only [zBj,Option.bind_some]
 cases seq t.Name n<;>cases decide (zIf v t.Low≥0)<;>rfl
theorem zPr (t:Term) (n:ByteArray) (v:Version):zB8 t n v=some (zNU t n v):=by
 unfold zB8 zNU zQq
 simp only [zHo,Option.bind_some]
 have e:decide (zIf t.Low v≤0)=decide (zIf v t.Low≥0):=by
  rw [zNJ v t.Low]
  rw [Bool.eq_iff_iff,decide_eq_true_eq,decide_eq_true_eq]
  omega
 rw [e]
 cases seq t.Name n<;>cases decide (zIf v t.Low≥0)<;>rfl
def zCg (p:Pack) (t:Term):Bool:=(seq t.Name p.Name||p.Provides.any (fun x=>seq x t.Name))&&zQq t p.Version
theorem zNk (p:Pack) (t:Term) (h:p.Provides.length≤1048576):zDf p t=some (zCg p t):=by
 unfold zDf zCg
 simp only [zLP,Option.bind_some,zIV _ _ h,zNU,zGT,Bool.true_and]
 cases seq t.Name p.Name<;>cases p.Provides.any (fun x=>seq x t.Name)<;>rfl
theorem zJy (p:Pack) (t:Term) (h:p.Provides.length≤1048576):vZ p t=some (zCg p t):=by
 unfold vZ zBo
 rw [zCu (by simp; omega) (by simp; omega)]
 simp only [Option.bind_some]
 have key:=wJ ([p.Name]++p.Provides) (fun i n=>if zNU t n p.Version then some (i:Int) else none) (b:=yQ ([p.Name]++p.Provides) t p) (by
  intro i hi
  have hi':i<p.Provides.length+1:=by simpa using hi
  unfold yQ kS
  rw [if_pos (by rw [decide_eq_true_eq]; exact Int.ofNat_lt.2 hi),zO hi]
  simp only [Option.bind_some,zPr]
  rw [zN (by omega)]
  cases zNU t ([p.Name]++p.Provides)[i] p.Version<;>rfl) (by
  unfold yQ
  rw [if_neg (by simp)])
 unfold zY yH yV
 rw [key,zDC]
 have e:zCg p t=([p.Name]++p.Provides).any (fun n=>zNU t n p.Version):=by
  unfold zCg zNU
  have:(fun n=>seq t.Name n&&zQq t p.Version)=(fun n=>seq n t.Name&&zQq t p.Version):=funext fun n=>by rw [zJT]
  rw [this,zJT t.Name p.Name]
  cases zQq t p.Version<;>simp
 rw [e,←zEU (zDm (fun n=>zNU t n p.Version) ([p.Name]++p.Provides) 0)]
 cases wY (fun i n=>if zNU t n p.Version then some (i:Int) else none) 0 ([p.Name]++p.Provides)<;>rfl
theorem zJX (p:Pack) (l:List Term) (h:p.Provides.length≤1048576) (hl:l.length≤1048576):vV p l=some (l.any (zCg p)):=by
 have key:=wJ l (fun i t=>if zCg p t then some (i:Int) else none) (b:=yU l p) (by
  intro i hi
  unfold yU
  rw [if_pos (by simp; omega),zO hi]
  simp only [Option.bind_some,zJy _ _ h]
  rw [zN (by omega)]
  cases zCg p l[i]<;>rfl) (by
  unfold yU
  rw [if_neg (by simp)])
 unfold vV yC yJ xA
 rw [key,zDC,←zEU (zDm (zCg p) l 0)]
 cases wY (fun i t=>if zCg p t then some (i:Int) else none) 0 l<;>rfl
def zF0 (c:List Pack) (a:List Int) (t:Term) (x:Int):Bool:=a.any (fun k=>k !=x&&zCg (pat c k) t)
theorem zJh {c:List Pack} {a:List Int} (hc:Cat c) (hp:Places c a) (ha:a.length≤1048576) (t:Term) (x:Int):zAK c a t x=some (zF0 c a t x):=by
 have key:=wJ a (fun _ k=>if k !=x&&zCg (pat c k) t then some true else none) (b:=zBG c a t x) (by
  intro i hi
  have hk:=hp _ (List.getElem_mem hi)
  unfold zBG
  rw [if_pos (by simp; omega),zO hi]
  simp only [Option.bind_some]
  rw [(zEC hk).1]
  simp only [Option.bind_some]
  rw [zNk _ _ (hc.zSn hk),zN (by omega)]
  cases a[i] !=x<;>cases zCg (pat c a[i]) t<;>rfl) (by
  unfold zBG
  rw [if_neg (by simp)])
 unfold zAK zCL zF0
 rw [key,zDC,←zGU (fun k=>k !=x&&zCg (pat c k) t) a 0]
 cases wY (fun _ k=>if k !=x&&zCg (pat c k) t then some true else none) 0 a<;>rfl
theorem zNs {c:List Pack} {a:List Int} (hc:Cat c) (hp:Places c a) (ha:a.length≤1048576) (t:Term) (x:Int):yA a x c t=some (zF0 c a t x):=by
 have key:=wJ a (fun i k=>if k !=x&&zCg (pat c k) t then some (i:Int) else none) (b:=xK a x c t) (by
  intro i hi
  have hk:=hp _ (List.getElem_mem hi)
  unfold xK zDw
  rw [if_pos (by simp; omega),zO hi]
  simp only [Option.bind_some]
  rw [(zEC hk).1]
  simp only [Option.bind_some]
  rw [zJy _ _ (hc.zSn hk),zN (by omega)]
  cases a[i] !=x<;>cases zCg (pat c a[i]) t<;>rfl) (by
  unfold xK
  rw [if_neg (by simp)])
 unfold yA xG xP zF0
 rw [key,zDC,←zEU (zDm (fun k=>k !=x&&zCg (pat c k) t) a 0)]
 cases wY (fun i k=>if k !=x&&zCg (pat c k) t then some (i:Int) else none) 0 a<;>rfl
def zPE (c:List Pack) (a:List Int) (l:List Term):Bool:=a.any (fun k=>l.any (zCg (pat c k)))
theorem zPn {c:List Pack} {a:List Int} (hc:Cat c) (hp:Places c a) (ha:a.length≤1048576) (l:List Term) (hl:l.length≤1048576):zE4 c a l=some (zPE c a l):=by
 have key:=wJ l (fun _ t=>if zF0 c a t (-1) then some true else none) (b:=zD9 c a l) (by
  intro i hi
  unfold zD9
  rw [if_pos (by simp; omega),zO hi]
  simp only [Option.bind_some,zJh hc hp ha]
  rw [zN (by omega)]
  cases zF0 c a l[i] (-1)<;>rfl) (by
  unfold zD9
  rw [if_neg (by simp)])
 unfold zE4 zEs
 rw [key,zDC]
 have e:zPE c a l=l.any (fun t=>zF0 c a t (-1)):=by
  unfold zPE zF0
  rw [Bool.eq_iff_iff]
  simp only [List.any_eq_true,Bool.and_eq_true,bne_iff_ne]
  constructor
  ·rintro ⟨k,hk,t,ht,hg⟩
   exact ⟨t,ht,k,hk,by have:=(hp k hk).1; omega,hg⟩
  ·rintro ⟨t,ht,k,hk,_,hg⟩
   exact ⟨k,hk,t,ht,hg⟩
 rw [e,←zGU (fun t=>zF0 c a t (-1)) l 0]
 cases wY (fun _ t=>if zF0 c a t (-1) then some true else none) 0 l<;>rfl
theorem zOY {c:List Pack} {a:List Int} (hc:Cat c) (hp:Places c a) (ha:a.length≤1048576) (l:List Term) (hl:l.length≤1048576):zZ a c l=some (zPE c a l):=by
 have key:=wJ a (fun i k=>if l.any (zCg (pat c k)) then some (i:Int) else none) (b:=xM a c l) (by
  intro i hi
  have hk:=hp _ (List.getElem_mem hi)
  unfold xM zDv
  rw [if_pos (by simp; omega),zO hi]
  simp only [Option.bind_some]
  rw [(zEC hk).1]
  simp only [Option.bind_some]
  rw [zJX _ _ (hc.zSn hk) hl,zN (by omega)]
  cases l.any (zCg (pat c a[i]))<;>rfl) (by
  unfold xM
  rw [if_neg (by simp)])
 unfold zZ xH xQ zPE
 rw [key,zDC,←zEU (zDm (fun k=>l.any (zCg (pat c k))) a 0)]
 cases wY (fun i k=>if l.any (zCg (pat c k)) then some (i:Int) else none) 0 a<;>rfl
theorem zJn {α T:Type} (xs:List α) (g:Nat→α→Option T) (e:T) {b:Int→Option (Lp Int T)}
  (hstep:∀(i:Nat) (hi:i<xs.length),b (i:Int)=some (match g i xs[i] with|some r=>.done r|none=>.go ((i+1:Nat):Int))) (hend:b (xs.length:Int)=some (.done e)):
  ∀(k i:Nat),i+k=xs.length→loop b (i:Int)=some ((wY g i (xs.drop i)).getD e)
 |0,i,h=>by
  have e:i=xs.length:=by omega
  subst e
  rw [vE,hend,List.drop_length]
  rfl
 |k+1,i,h=>by
  have hi:i<xs.length:=by omega
  have ih:=zJn xs g e hstep hend k (i+1) (by omega)
  rw [vE,hstep i hi,List.drop_eq_getElem_cons hi]
  simp only [wY]
  cases g i xs[i] with
  |some r=>rfl
  |none=>exact ih
def fN (c:List Pack) (a:List Int) (k:Int) (j:Nat) (l:List zM) (x:List Term):List zM:=if !(zPE c a x) then l++[{Kind:=2,Pack:=k,At:=(j:Int)}] else l
def fB (c:List Pack) (a:List Int) (k:Int) (j:Nat) (l:List zM) (t:Term):List zM:=if zF0 c a t k then l++[{Kind:=3,Pack:=k,At:=(j:Int)}] else l
def fD (c:List Pack) (a:List Int) (i:Nat) (k:Int) (l:List zM):List zM:=if (a.take i).any (fun o=>seq (pat c o).Name (pat c k).Name) then l++[{Kind:=1,Pack:=k,At:=0}] else l
def fS (c:List Pack) (a:List Int) (i:Nat) (l:List zM) (k:Int):List zM:=foldI (fB c a k) 0 (pat c k).Bars (foldI (fN c a k) 0 (pat c k).Needs (fD c a i k l))
def zEZ (c:List Pack) (a:List Int):List zM:=foldI (fS c a) 0 a []
theorem zRp (c:List Pack) (a:List Int) (k:Int) (j:Nat) (l:List zM) (x:List Term):(fN c a k j l x).length ≤l.length+1:=by unfold fN; split<;>simp
theorem zRF (c:List Pack) (a:List Int) (k:Int) (j:Nat) (l:List zM) (t:Term):(fB c a k j l t).length ≤l.length+1:=by unfold fB; split<;>simp
theorem zPF (c:List Pack) (a:List Int) (i:Nat) (k:Int) (l:List zM):(fD c a i k l).length ≤l.length+1:=by unfold fD; split<;>simp
theorem zJz {c:List Pack} {a:List Int} (k:Int) (ns:List (List Term)) (hn:ns.length≤1048576) (n0:Nat) (h0:n0≤5497560000000) {b:(List zM×Int)→Option (Lp (List zM×Int) (List zM))}
  (hstep:∀(j:Nat) (l:List zM) (hj:j<ns.length),b (l,(j:Int))=(if !(zPE c a ns[j]) then (app 24 l [{Kind:=2,Pack:=k,At:=(j:Int)}]) else some l).bind fun v=>some (Lp.go (v,w64 ((j:Int)+1)))) (hend:∀l,b (l,(ns.length:Int))=some (.done l)) (l:List zM) (hl:l.length≤n0):
  loop b (l,0)=some (foldI (fN c a k) 0 ns l)∧(foldI (fN c a k) 0 ns l).length ≤n0+ns.length:=by
 have key:=zCc ns (fN c a k) (fun j l=>l.length≤n0+j) (b:=b) (by
  intro j l hj hI
  refine ⟨?_,by have:=zRp c a k j l ns[j]; omega⟩
  rw [hstep j l hj,zN (by omega),zCu (by simp; omega) (by simp; omega)]
  unfold fN
  cases zPE c a ns[j]<;>rfl) hend ns.length 0 l (by omega) (by simpa using hl)
 simpa using key
theorem zLc {c:List Pack} {a:List Int} (k:Int) (ts:List Term) (hn:ts.length≤1048576) (n0:Nat) (h0:n0≤5497560000000) {b:(List zM×Int)→Option (Lp (List zM×Int) (List zM))}
  (hstep:∀(j:Nat) (l:List zM) (hj:j<ts.length),b (l,(j:Int))=(if zF0 c a ts[j] k then (app 24 l [{Kind:=3,Pack:=k,At:=(j:Int)}]) else some l).bind fun v=>some (Lp.go (v,w64 ((j:Int)+1)))) (hend:∀l,b (l,(ts.length:Int))=some (.done l)) (l:List zM) (hl:l.length≤n0):
  loop b (l,0)=some (foldI (fB c a k) 0 ts l)∧(foldI (fB c a k) 0 ts l).length ≤n0+ts.length:=by
 have key:=zCc ts (fB c a k) (fun j l=>l.length≤n0+j) (b:=b) (by
  intro j l hj hI
  refine ⟨?_,by have:=zRF c a k j l ts[j]; omega⟩
  rw [hstep j l hj,zN (by omega),zCu (by simp; omega) (by simp; omega)]
  unfold fB
  cases zF0 c a ts[j] k<;>rfl) hend ts.length 0 l (by omega) (by simpa using hl)
 simpa using key
theorem zJB {α:Type} (o:Option α):o.bind (fun x=>some x)=o:=by cases o<;>rfl
def zEQ (i:Nat):Nat:=i*2097153
theorem zLp {c:List Pack} {a:List Int} (hc:Cat c) (hp:Places c a) (ha:a.length≤1048576):zB2 c a=some (zEZ c a):=by
 have key:=zCc a (fS c a) (fun i l=>l.length≤zEQ i) (b:=zBx c a) (by
  intro i l hi hI
  have hk:=hp _ (List.getElem_mem hi)
  have hb:zEQ i≤2199022206976:=by unfold zEQ; omega
  have hb1:zEQ (i+1)=zEQ i+2097153:=by unfold zEQ; omega
  have hN:=hc.needs hk
  have hB:=hc.bars hk
  have k1:=zJn (a.take i) (fun _ o=>if seq (pat c o).Name (pat c a[i]).Name then some (l++[({Kind:=1,Pack:=a[i],At:=0}:zM)]) else none) l (b:=zBz c a (l,(i:Int)) (pat c a[i])) (by
   intro j hj
   have hj':j<i:=by simp at hj; omega
   have hja:j<a.length:=by omega
   have hkj:=hp _ (List.getElem_mem hja)
   unfold zBz
   rw [if_pos (by simp; omega),zO hja]
   simp only [Option.bind_some]
   rw [(zEC hkj).1,zO hi]
   simp only [Option.bind_some]
   rw [zN (by omega),zCu (by simp; omega) (by simp; omega),List.getElem_take]
   cases seq (pat c a[j]).Name (pat c a[i]).Name <;>rfl) (by
   have:(a.take i).length =i:=by simp; omega
   rw [this]
   unfold zBz
   rw [if_neg (by simp)]) (a.take i).length 0 (by omega)
  rw [List.drop_zero,zGj] at k1
  have e1:zAy c a (l,(i:Int)) (pat c a[i]) 0=some (fD c a i a[i] l):=by
   unfold zAy fD
   rw [show ((0:Nat):Int)=0 from rfl] at k1
   rw [k1]
   cases (a.take i).any (fun o=>seq (pat c o).Name (pat c a[i]).Name)<;>rfl
  have hd:=zPF c a i a[i] l
  obtain ⟨e2,l2⟩:=zJz (c:=c) (a:=a) a[i] (pat c a[i]).Needs hN (zEQ i+1) (by omega) (b:=zBq c a (l,(i:Int)) (pat c a[i])) (by
   intro j l hj
   unfold zBq
   rw [if_pos (by simp; omega),zO hj]
   simp only [Option.bind_some]
   rw [zPn hc hp ha _ (hc.clause hk (List.getElem_mem hj)),zO hi]
   simp only [Option.bind_some,zJB]) (by
   intro l
   unfold zBq
   rw [if_neg (by simp)]) (fD c a i a[i] l) (by omega)
  obtain ⟨e3,l3⟩:=zLc (c:=c) (a:=a) a[i] (pat c a[i]).Bars hB (zEQ i+1+1048576) (by omega) (b:=zBy c a (l,(i:Int)) (pat c a[i])) (by
   intro j l hj
   unfold zBy
   rw [if_pos (by simp; omega),zO hj,zO hi]
   simp only [Option.bind_some,zJh hc hp ha,zJB]) (by
   intro l
   unfold zBy
   rw [if_neg (by simp)]) _ (Nat.le_trans l2 (by omega))
  refine ⟨?_,by show (fS c a i l a[i]).length ≤_; unfold fS; omega⟩
  unfold zBx
  rw [if_pos (by simp; omega),zO hi]
  simp only [Option.bind_some]
  rw [(zEC hk).1]
  simp only [Option.bind_some]
  rw [e1]
  simp only [Option.bind_some]
  unfold zBU zBW
  rw [e2]
  simp only [Option.bind_some]
  rw [e3,zN (by omega)]
  rfl) (by
  intro l
  unfold zBx
  rw [if_neg (by simp)]) a.length 0 [] (by omega) (by simp)
 unfold zB2 zBS zEZ
 have k:=key.1
 rw [show ((0:Nat):Int)=0 from rfl,List.drop_zero] at k
 rw [k]
 rfl
theorem zM5 (q:Int→Bool):∀(xs:List Int) (i:Nat),(∀k∈xs,0≤k)→(((wY (fun _ k=>if q k then some k else none) i xs).getD (-1)≥0)↔xs.any q=true)
 |[],i,_=>by simp [wY]
 |x::xs,i,h=>by
  simp only [wY]
  cases hq:q x
  ·simp only [Bool.false_eq_true,if_false,List.any_cons,hq,Bool.false_or]
   exact zM5 q xs (i+1) (fun k hk=>h k (by simp [hk]))
  ·have:=h x (by simp)
   simp [hq]
   omega
theorem zNu {c:List Pack} {a:List Int} (hp:Places c a) (ha:a.length≤1048576) (n:ByteArray):∃k,zE5 c a n=some k∧decide (k≥0)=a.any (fun o=>seq (pat c o).Name n):=by
 have key:=wJ a (fun _ k=>if seq (pat c k).Name n then some k else none) (b:=zD7 c a n) (by
  intro i hi
  have hk:=hp _ (List.getElem_mem hi)
  unfold zD7
  rw [if_pos (by simp; omega),zO hi]
  simp only [Option.bind_some]
  rw [(zEC hk).1]
  simp only [Option.bind_some]
  rw [zN (by omega)]
  cases seq (pat c a[i]).Name n<;>rfl) (by
  unfold zD7
  rw [if_neg (by simp)])
 refine ⟨_,?_,zEU (zM5 (fun o=>seq (pat c o).Name n) a 0 (fun k hk=>(hp k hk).1))⟩
 unfold zE5 zEw
 rw [key,zDC]
 cases wY (fun _ k=>if seq (pat c k).Name n then some k else none) 0 a<;>rfl
theorem zLJ {c:List Pack} {a:List Int} (hc:Cat c) (hp:Places c a) (ha:a.length≤1048576):zDT c a=some (zEZ c a):=by
 have key:=zCc a (fS c a) (fun i l=>l.length≤zEQ i) (b:=zCJ c a) (by
  intro i l hi hI
  have hk:=hp _ (List.getElem_mem hi)
  have hb:zEQ i≤2199022206976:=by unfold zEQ; omega
  have hb1:zEQ (i+1)=zEQ i+2097153:=by unfold zEQ; omega
  have hN:=hc.needs hk
  have hB:=hc.bars hk
  obtain ⟨kk,e0,hkk⟩:=zNu (c:=c) (a:=a.take i) (fun k hk=>hp k (List.mem_of_mem_take hk)) (by simp; omega) (pat c a[i]).Name
  have hd:=zPF c a i a[i] l
  obtain ⟨e2,l2⟩:=zJz (c:=c) (a:=a) a[i] (pat c a[i]).Needs hN (zEQ i+1) (by omega) (b:=zCs c a (l,(i:Int)) a[i] (pat c a[i])) (by
   intro j l hj
   unfold zCs
   rw [if_pos (by simp; omega),zO hj]
   simp only [Option.bind_some]
   rw [zOY hc hp ha _ (hc.clause hk (List.getElem_mem hj))]
   simp only [Option.bind_some,zJB]) (by
   intro l
   unfold zCs
   rw [if_neg (by simp)]) (fD c a i a[i] l) (by omega)
  obtain ⟨e3,l3⟩:=zLc (c:=c) (a:=a) a[i] (pat c a[i]).Bars hB (zEQ i+1+1048576) (by omega) (b:=zCK c a (l,(i:Int)) a[i] (pat c a[i])) (by
   intro j l hj
   unfold zCK
   rw [if_pos (by simp; omega),zO hj]
   simp only [Option.bind_some,zNs hc hp ha,zJB]) (by
   intro l
   unfold zCK
   rw [if_neg (by simp)]) _ (Nat.le_trans l2 (by omega))
  refine ⟨?_,by show (fS c a i l a[i]).length ≤_; unfold fS; omega⟩
  unfold zCJ
  rw [if_pos (by simp; omega),zO hi]
  simp only [Option.bind_some]
  rw [(zEC hk).1,zGh (by omega)]
  simp only [Option.bind_some]
  rw [e0]
  simp only [Option.bind_some]
  rw [hkk,zCu (by simp; omega) (by simp; omega)]
  simp only [Option.bind_some]
  have ed:(if (a.take i).any (fun o=>seq (pat c o).Name (pat c a[i]).Name)=true then some (l++[({Kind:=1,Pack:=a[i],At:=0}:zM)]) else some l)=some (fD c a i a[i] l):=by
   unfold fD
   cases (a.take i).any (fun o=>seq (pat c o).Name (pat c a[i]).Name)<;>rfl
  rw [ed]
  simp only [Option.bind_some]
  unfold zDE zD4
  rw [e2]
  simp only [Option.bind_some]
  rw [e3,zN (by omega)]
  rfl) (by
  intro l
  unfold zCJ
  rw [if_neg (by simp)]) a.length 0 [] (by omega) (by simp)
 unfold zDT zDB zEZ
 have k:=key.1
 rw [show ((0:Nat):Int)=0 from rfl,List.drop_zero] at k
 rw [k]
 rfl
def zRW (c:List Pack) (a:List Int):Bool:=(SF c a==0)&&((zEZ c a).length :Int)==0
theorem zIb {c:List Pack} {a:List Int} (hc:Cat c) (ha:a.length≤1048576) (h:(SF c a==0)=true):tO c a=some (zRW c a):=by
 unfold tO zRW
 rw [zLJ hc (zOd h) ha,h]
 simp
theorem zQ8 {p:Pack} (h:PF p=0):NF p.Name=0∧VF p.Version=0∧inB p.Size 1 200=true:=by
 unfold PF at h
 split at h
 ·rename_i h1; simp [h] at h1
 rename_i h1
 split at h
 ·rename_i h2; simp [h] at h2
 rename_i h2
 split at h
 ·cases h
 rename_i h3
 exact ⟨by simpa using h1,by simpa using h2,by simpa using h3⟩
def zLy (p:Pack):ByteArray:=bs [112,107,103,47]++(p.Name++(bs [45]++zPv p.Version))
theorem zMa {p:Pack} (h1:NF p.Name=0) (h2:VF p.Version=0):zDZ p=some (zLy p):=by
 have a1:=zG2 h1
 have a2:=zEO h2
 have b1:(bs [112,107,103,47]).size =4:=rfl
 have b2:(bs [45]).size =1:=rfl
 unfold zDZ zLy
 rw [zE0 h2,zA8 (by omega)]
 simp only [Option.bind_some]
 rw [zA8 (by rw [jG]; omega)]
 simp only [Option.bind_some]
 rw [zA8 (by simp only [jG]; omega)]
 simp only [Option.bind_some,zF3]
theorem zNX {p:Pack} (h1:NF p.Name=0) (h2:VF p.Version=0):zAT p=some (zLy p):=by
 have a1:=zG2 h1
 have a2:=zEO h2
 have b1:(bs [112,107,103,47]).size =4:=rfl
 have b2:(bs [45]).size =1:=rfl
 unfold zAT zLy
 rw [zHN h2,zA8 (by omega)]
 simp only [Option.bind_some]
 rw [zA8 (by rw [jG]; omega)]
 simp only [Option.bind_some]
 rw [zA8 (by simp only [jG]; omega)]
 simp only [Option.bind_some,zF3]
theorem zJY:∀(k n:Nat),n<10^(k+1)→zGm (10^(k+1)+n)=49::(List.replicate (k+1-(zGm n).length) 48++zGm n)
 |0,n,h=>by
  have h':n<10:=by simpa using h
  rw [zES (by simp),show (10^(0+1)+n) / 10=1 by simp; omega,show (10^(0+1)+n)%10=n by simp; omega,zBs (n:=1) (by omega),zBs h']
  rfl
 |k+1,n,h=>by
  have hp:1≤10^k:=Nat.one_le_pow _ _ (by omega)
  have e1:10^(k+1+1)=10*10^(k+1):=by rw [Nat.pow_succ]; omega
  rw [e1] at h
  have hq:n / 10<10^(k+1):=by omega
  have ih:=zJY k (n / 10) hq
  have hl:=zHW k (n / 10) hq
  rw [e1,zES (by omega),show (10*10^(k+1)+n) / 10=10^(k+1)+n / 10 by omega,show (10*10^(k+1)+n)%10=n%10 by omega,ih]
  by_cases hn:n<10
  ·rw [show n / 10=0 by omega,zBs (n:=0) (by omega),zBs hn,show n%10=n by omega]
   simp only [List.length_singleton,List.cons_append,List.append_assoc,List.nil_append]
   rw [show k+1+1-1=k+1 by omega,show k+1-1=k by omega]
   rw [show List.replicate (k+1) (48:Int)=List.replicate k 48++[48] from List.replicate_succ']
   simp
  ·rw [zES hn,List.length_append]
   simp only [List.length_singleton,List.cons_append,List.append_assoc]
   rw [show k+1+1-((zGm (n / 10)).length +1)=k+1-(zGm (n / 10)).length by omega]
theorem zQV (l:List UInt8):bl ⟨l.toArray⟩=l.map (fun b=>(b.toNat:Int)):=by
 unfold bl
 rw [ByteArray.toList_eq]
theorem zIY (u:UInt8):∀(n:Nat),Lib.repeatL [u] n=List.replicate n u
 |0=>rfl
 |n+1=>by rw [Lib.repeatL,zIY u n,List.replicate_succ]; rfl
def zRL (n:Int):List Int:=[103,101,110,47]++(List.replicate (6-(zGm n.toNat).length) 48++zGm n.toNat)
theorem zOG (l:List UInt8):(bs l).data.toList =l:=rfl
def zQa (n:Int):ByteArray:=bs [103,101,110,47]++(⟨(List.replicate (6-(zGm n.toNat).length) (48:UInt8)).toArray⟩++zKg n.toNat)
theorem zNF (n:Int):bl (zQa n)=zRL n:=by
 unfold zQa zRL
 rw [zBF,zBF,zKG,zQV,zG5,List.map_replicate]
 rfl
theorem zMH {n:Nat} (h:n≤999999):1≤(zGm n).length ∧(zGm n).length ≤6:=by
 refine ⟨?_,zHW 5 n (by omega)⟩
 by_cases hn:n<10
 ·rw [zBs hn]; simp
 ·rw [zES hn,List.length_append]; simp
theorem zEe {s:ByteArray} {l h:Nat} (h1:l≤h) (h2:h≤s.size):zFc s (l:Int) (h:Int)=some (s.extract l h):=by
 unfold zFc
 rw [if_pos (by omega)]
 rfl
theorem zKk {n:Int} (h0:0≤n) (h1:n≤999999):zC6 n=some (zQa n):=by
 have hd:=zMH (n:=n.toNat) (by omega)
 have hs:(zKg n.toNat).size =(zGm n.toNat).length :=by rw [←zQ,zG5]
 have hf:=zH1 n.toNat (by omega)
 rw [Int.toNat_of_nonneg h0] at hf
 have h4:(bs [103,101,110,47]).size =4:=rfl
 unfold zC6 zCm
 rw [hf]
 simp only [Option.bind_some]
 rw [hs,wR (by omega) (by omega)]
 unfold strings_Repeat
 rw [if_pos ⟨by omega,by omega,by rw [show (bs [48]).size =1 from rfl]; omega⟩,zOG,zIY]
 simp only [Option.bind_some]
 have hr:(⟨(List.replicate (6-((zGm n.toNat).length :Int)).toNat (48:UInt8)).toArray⟩:ByteArray).size =6-(zGm n.toNat).length :=by
  rw [←zQ,zQV]
  simp
 rw [zA8 (by rw [hr]; omega)]
 simp only [Option.bind_some]
 rw [zA8 (by rw [jG,hr]; omega)]
 unfold zQa
 rw [show (6-((zGm n.toNat).length :Int)).toNat =6-(zGm n.toNat).length by omega]
 simp only [Option.bind_some,zF3]
theorem zKX (n:Int):tN n=some (if inB n 1 999999 then zQa n else bs []):=by
 unfold tN
 rw [zL4]
 simp only [Option.bind_some]
 cases h:inB n 1 999999
 ·rfl
 have h':1≤n∧n≤999999:=by simpa [inB] using h
 rw [if_neg (by simp),wR (by omega) (by omega)]
 have e:=zHr (1000000+n.toNat) (by omega)
 rw [show ((1000000+n.toNat:Nat):Int)=1000000+n by omega] at e
 rw [e]
 simp only [Option.bind_some]
 have hp:=zJY 5 n.toNat (by omega)
 rw [show 10^(5+1)+n.toNat=1000000+n.toNat by omega] at hp
 have hd:=zMH (n:=n.toNat) (by omega)
 have hz:(zKg (1000000+n.toNat)).size =7:=by
  rw [←zQ,zG5,hp]
  simp
  omega
 have e2:=zEe (s:=zKg (1000000+n.toNat)) (l:=1) (h:=(zKg (1000000+n.toNat)).size) (by omega) (Nat.le_refl _)
 rw [show ((1:Nat):Int)=1 from rfl] at e2
 rw [e2]
 simp only [Option.bind_some]
 have hx:((zKg (1000000+n.toNat)).extract 1 (zKg (1000000+n.toNat)).size).size =6:=by
  rw [←zQ,wI,zG5,hp,hz]
  simp
  omega
 rw [zA8 (by rw [hx]; decide)]
 simp only [Option.bind_some,if_true]
 congr 1
 refine zFV.1 ?_
 rw [zBF,wI,zG5,hp,zNF,zKG,hz]
 unfold zRL
 rw [List.take_of_length_le (by simp; omega)]
 rfl
theorem zOl {α:Type} {g:Nat→α→Option Int} (hg:∀i x,g i x≠some 0):∀(l:List α) (i:Nat),(wY g i l).getD 0=0→wY g i l=none
 |[],_,_=>rfl
 |x::l,i,h=>by
  simp only [wY] at h ⊢
  cases hx:g i x with
  |none=>rw [hx] at h; exact zOl hg l (i+1) h
  |some r=>
   rw [hx] at h
   simp only [Option.getD_some] at h
   subst h
   exact absurd hx (hg i x)
theorem zQz {c:List Pack} (h:CF c=0):c.length≤24∧(∀p∈c,PF p=0)∧∀(j:Nat) (hj:j<c.length),(c.take j).any (isB c[j].Name c[j].Version)=false:=by
 unfold CF at h
 split at h
 ·cases h
 rename_i h1
 have h2:=zOl (g:=zOI c) (fun i x=>by
  unfold zOI
  split
  ·rename_i h3
   intro e
   rw [Option.some.inj e] at h3
   simp at h3
  ·split<;>simp) c 0 h
 rw [zEM] at h2
 have h3:∀(j:Nat) (hj:j<c.length),PF c[j]=0∧(c.take j).any (isB c[j].Name c[j].Version)=false:=by
  intro j hj
  have:=h2 j hj
  unfold zOI at this
  rw [Nat.zero_add] at this
  split at this
  ·cases this
  ·rename_i h4
   split at this
   ·cases this
   ·rename_i h5
    exact ⟨by simpa using h4,by simpa using h5⟩
 refine ⟨by simp at h1; omega,fun p hp=>?_,fun j hj=>(h3 j hj).2⟩
 obtain ⟨j,hj,rfl⟩:=List.getElem_of_mem hp
 exact (h3 j hj).1
theorem zOa {a:List Int} (h:∀i,(hi:i+1<a.length)→a[i]<a[i+1]):a.Pairwise (· < ·):=by
 rw [List.pairwise_iff_getElem]
 intro i j hi hj hij
 obtain ⟨d,rfl⟩:∃d,j=i+1+d:=⟨j-i-1,by omega⟩
 clear hij
 induction d with
 |zero=>exact h i (by omega)
 |succ d ih=>
  have h1:=ih (by omega)
  have h2:=h (i+1+d) (by omega)
  show a[i]<a[i+1+d+1]
  omega
theorem zMr:∀{a:List Int} {lo hi:Int},a.Pairwise (· < ·)→(∀k∈a,lo≤k∧k<hi)→(a.length:Int)≤hi-lo∨a=[]
 |[],_,_,_,_=>.inr rfl
 |x::a,lo,hi,hp,hb=>by
  obtain ⟨h1,h2⟩:=List.pairwise_cons.1 hp
  have hx:=hb x (by simp)
  have:=zMr (lo:=x+1) (hi:=hi) h2 (fun k hk=>⟨by have:=h1 k hk; omega,(hb k (by simp [hk])).2⟩)
  refine .inl ?_
  rcases this with h3|h3
  ·simp only [List.length_cons]; omega
  ·subst h3; simp; omega
theorem zK2 {c:List Pack} {a:List Int}:zQd c a=true↔a.Pairwise (· < ·)∧Places c a:=by
 unfold zQd
 rw [Option.isNone_iff_eq_none,zEM]
 constructor
 ·intro h
  have h1:∀(j:Nat) (hj:j<a.length),inB a[j] 0 ((c.length:Int)-1)=true∧(0<j→¬a[j]≤a.getD (j-1) 0):=by
   intro j hj
   have:=h j hj
   unfold zQK at this
   rw [Nat.zero_add] at this
   split at this
   ·cases this
   ·rename_i h2
    simp only [Bool.or_eq_true,Bool.not_eq_true',Bool.and_eq_true,decide_eq_true_eq,not_or,not_and,Bool.not_eq_false] at h2
    exact h2
  refine ⟨zOa fun i hi=>?_,fun k hk=>?_⟩
  ·have:=(h1 (i+1) hi).2 (by omega)
   rw [show i+1-1=i by omega,getD_lt (by omega)] at this
   omega
  ·obtain ⟨j,hj,rfl⟩:=List.getElem_of_mem hk
   have:=(h1 j hj).1
   unfold inB at this
   simp only [Bool.and_eq_true,decide_eq_true_eq] at this
   omega
 ·rintro ⟨h1,h2⟩ j hj
  unfold zQK
  rw [Nat.zero_add]
  have hk:=h2 a[j] (List.getElem_mem hj)
  rw [if_neg]
  simp only [Bool.or_eq_true,Bool.not_eq_true',Bool.and_eq_true,decide_eq_true_eq,not_or,not_and,Bool.not_eq_false]
  refine ⟨by unfold inB; simp; omega,fun h0=>?_⟩
  rw [getD_lt (by omega)]
  have:=(List.pairwise_iff_getElem.1 h1) (j-1) j (by omega) hj (by omega)
  omega
theorem zIw (s:ByteArray):s.data.toList.map (fun b=>(b.toNat:Int))=bl s:=by
 unfold bl
 rw [ByteArray.toList_eq]
theorem u8w (x:Int):IntKind.u8.wrap x=x%256:=by
 simp only [IntKind.wrap,IntKind.signed,IntKind.bits]
 simp
def zDx (p:Pack):Int:=p.Version.A+p.Version.B+p.Version.C+(bl p.Name).foldl (· + ·) 0
def zNB (b0:Int):Nat→Int
 |0=>b0
 |i+1=>(31*zNB b0 i+7)%256
def zLO (p:Pack):List Int:=(List.range p.Size.toNat).map (zNB (zDx p%256))
theorem zJu {b0:Int} (h:0≤b0∧b0<256):∀i,0≤zNB b0 i∧zNB b0 i<256
 |0=>h
 |i+1=>by unfold zNB; omega
theorem zGf:∀(l:List Int) (a:Int),l.foldl (· + ·) a=a+l.foldl (· + ·) 0
 |[],a=>by simp
 |x::l,a=>by
  simp only [List.foldl_cons]
  rw [zGf l (a+x),zGf l (0+x)]
  omega
theorem zKm:∀(l:List Int) (i:Nat) (a:Int),foldI (fun _ a x=>a+x) i l a=a+l.foldl (· + ·) 0
 |[],_,a=>by simp [foldI]
 |x::l,i,a=>by
  simp only [foldI,List.foldl_cons]
  rw [zKm l (i+1) (a+x),zGf l (0+x)]
  omega
theorem zKE:∀(l:List Int) (i:Nat) (a b:Int),b=a%256→foldI (fun _ a x=>(a+x)%256) i l b=(a+l.foldl (· + ·) 0)%256
 |[],_,a,b,h=>by simp [foldI,h]
 |x::l,i,a,b,h=>by
  simp only [foldI,List.foldl_cons]
  rw [zKE l (i+1) (a+x) ((b+x)%256) (by rw [h]; omega),zGf l (0+x)]
  congr 1
  omega
theorem zKh {p:Pack} (h1:NF p.Name=0) (h2:VF p.Version=0) (h3:1≤p.Size∧p.Size≤200):zCz p=some (zLO p):=by
 obtain ⟨v1,v2,v3⟩:=zIo h2
 have hn:=zG2 h1
 have hlen:(bl p.Name).length ≤12:=by rw [zQ]; omega
 have k1:=zCc (bl p.Name) (fun _ a x=>a+x) (fun i a=>0≤a∧a≤3000+i*255) (b:=zBZ p) (by
  intro i a hi ha
  have hr:=zHE (bl p.Name)[i] (List.getElem_mem hi)
  unfold zBZ
  rw [if_pos (by rw [zQ] at hi; simp; omega)]
  simp only
  rw [zDK hi]
  simp only [Option.bind_some]
  rw [wR (x:=(bl p.Name)[i]) (by omega) (by omega),wR (by omega) (by omega),zN (by omega)]
  exact ⟨rfl,by omega,by omega⟩) (by
  intro a
  unfold zBZ
  rw [if_neg (by rw [zQ]; simp)]) (bl p.Name).length 0 (p.Version.A+p.Version.B+p.Version.C) (by omega) ⟨by omega,by omega⟩
 rw [List.drop_zero,zKm] at k1
 obtain ⟨e1,b1,b2⟩:=k1
 have hb:0≤zDx p∧zDx p≤3000+12*255:=by
  unfold zDx
  omega
 obtain ⟨t,e2,rfl⟩:=zBb (b:=zBL p) (fun i s=>s.2.2=(i:Int)∧s.2.1=(List.range i).map (zNB (zDx p%256))∧0≤s.1∧s.1≤10000∧s.1%256=zNB (zDx p%256) i) p.Size.toNat (fun t=>t=zLO p) (by
  rintro i ⟨n,out,j⟩ hi ⟨hj,ho,h4,h5,h6⟩
  simp only at hj ho h4 h5 h6
  subst hj ho
  unfold zBL
  rw [if_pos (by simp; omega)]
  simp only
  have ht:n.tmod 256=n%256:=Int.tmod_eq_emod_of_nonneg h4
  rw [ht,u8w,zCu (by simp; omega) (by simp; omega)]
  simp only [Option.bind_some]
  rw [wR (x:=31*(n%256)) (by omega) (by omega),wR (by omega) (by omega),zN (by omega)]
  refine .inl ⟨_,rfl,rfl,?_,by omega,by omega,?_⟩
  ·simp only
   rw [List.range_succ,List.map_append,show n%256%256=zNB (zDx p%256) i by omega]
   rfl
  ·simp only [zNB]
   rw [←h6]) (by
  rintro ⟨n,out,j⟩ ⟨hj,ho,_⟩
  simp only at hj ho
  subst hj ho
  unfold zBL
  rw [if_neg (by simp; omega)]
  exact ⟨_,rfl,rfl⟩) p.Size.toNat 0 (zDx p,([]:List Int),0) (by omega) ⟨rfl,rfl,hb.1,by omega,rfl⟩
 unfold zCz
 rw [wR (x:=p.Version.A+p.Version.B) (by omega) (by omega),wR (x:=p.Version.A+p.Version.B+p.Version.C) (by omega) (by omega)]
 unfold zDc
 rw [show ((0:Nat):Int)=0 from rfl] at e1
 rw [e1]
 simp only [Option.bind_some]
 unfold zCx
 unfold zDx at e2
 rw [e2]
 rfl
theorem zNh {p:Pack} (h1:NF p.Name=0) (h2:VF p.Version=0) (h3:1≤p.Size∧p.Size≤200):zAm p=some (zLO p):=by
 obtain ⟨v1,v2,v3⟩:=zIo h2
 have hn:=zG2 h1
 have hlen:(bl p.Name).length ≤12:=by rw [zQ]; omega
 have k1:=zCc (bl p.Name) (fun _ a x=>(a+x)%256) (fun i a=>True) (b:=zAs p) (by
  intro i a hi ha
  unfold zAs
  rw [if_pos (by rw [zQ] at hi; simp; omega)]
  simp only
  rw [zDK hi]
  simp only [Option.bind_some,u8w]
  rw [zN (by omega)]
  exact ⟨rfl,trivial⟩) (by
  intro a
  unfold zAs
  rw [if_neg (by rw [zQ]; simp)]) (bl p.Name).length 0 ((p.Version.A+p.Version.B+p.Version.C)%256) (by omega) trivial
 rw [List.drop_zero,zKE _ _ (p.Version.A+p.Version.B+p.Version.C) _ rfl] at k1
 have hb:0≤zDx p%256∧zDx p%256<256:=by omega
 obtain ⟨t,e2,rfl⟩:=zBb (b:=zAr p) (fun i s=>s.2.2=(i:Int)∧s.2.1=(List.range i).map (zNB (zDx p%256))∧s.1=zNB (zDx p%256) i) p.Size.toNat (fun t=>t=zLO p) (by
  rintro i ⟨n,out,j⟩ hi ⟨hj,ho,h6⟩
  simp only at hj ho h6
  subst hj ho h6
  have hr:=zJu hb i
  unfold zAr
  rw [if_pos (by simp; omega)]
  simp only
  rw [zCu (by simp; omega) (by simp; omega)]
  simp only [Option.bind_some,u8w]
  rw [zN (by omega)]
  refine .inl ⟨_,rfl,rfl,?_,?_⟩
  ·simp only
   rw [List.range_succ,List.map_append]
   rfl
  ·simp only [zNB]
   omega) (by
  rintro ⟨n,out,j⟩ ⟨hj,ho,_⟩
  simp only at hj ho
  subst hj ho
  unfold zAr
  rw [if_neg (by simp; omega)]
  exact ⟨_,rfl,rfl⟩) p.Size.toNat 0 (zDx p%256,([]:List Int),0) (by omega) ⟨rfl,rfl,rfl⟩
 unfold zAm
 simp only [u8w]
 rw [show ((p.Version.A%256+p.Version.B%256)%256+p.Version.C%256)%256=(p.Version.A+p.Version.B+p.Version.C)%256 by omega]
 unfold zAH
 rw [show ((0:Nat):Int)=0 from rfl] at k1
 rw [k1.1]
 simp only [Option.bind_some]
 unfold zAE
 unfold zDx at e2
 rw [e2]
 rfl
theorem zLW (p:Pack):∀x∈zLO p,0≤x∧x≤255:=by
 intro x hx
 unfold zLO at hx
 obtain ⟨i,_,rfl⟩:=List.mem_map.1 hx
 have:=zJu (b0:=zDx p%256) (by omega) i
 omega
def fileOf (d:zF) (p:ByteArray):Option File:=d.Files.find? (fun f=>decide (f.Path=p))
def zGO (c:List Pack) (d:zF) (k:Int):Bool:=match fileOf d (zLy (pat c k)) with
 |none=>true
 |some f=>decide (f.Data≠zLO (pat c k))
def zHA (c:List Pack) (d:zF) (a:List Int):List Int:=a.filter (zGO c d)
def Byt (d:zF):Prop:=∀f∈d.Files,∀c∈f.Data,0≤c∧c≤255
theorem zQ6 {a b:List Int} (ha:∀c∈a,0≤c∧c≤255) (hb:∀c∈b,0≤c∧c≤255):seq (b2s a) (b2s b)=decide (a=b):=by
 rw [zFY,zGN ha,zGN hb]
theorem zMg (a b:List Int) (h:a.length≤1048576):uF a b=some (decide (a=b)):=by
 unfold uF
 by_cases hl:a.length=b.length
 ·rw [if_neg (by simp [hl])]
  have key:=wJ a (fun i x=>if x !=b.getD i 0 then some false else none) (b:=uS a b) (by
   intro i hi
   unfold uS
   rw [if_pos (by simp; omega),zO hi,zO (show i<b.length by omega)]
   simp only [Option.bind_some,getD_lt (show i<b.length by omega)]
   rw [zN (by omega)]
   cases a[i] !=b[i]<;>rfl) (by
   unfold uS
   rw [if_neg (by simp)])
  unfold tL
  rw [key,zDC]
  by_cases he:a=b
  ·have hn:wY (fun i x=>if x !=b.getD i 0 then some false else none) 0 a=none:=by
    rw [zEM]
    intro j hj
    subst he
    rw [Nat.zero_add,getD_lt hj]
    simp
   rw [hn,decide_eq_true he]
  ·rw [decide_eq_false he]
   cases hs:wY (fun i x=>if x !=b.getD i 0 then some false else none) 0 a with
   |none=>
    rw [zEM] at hs
    refine absurd (List.ext_getElem hl fun j h1 h2=>?_) he
    have:=hs j h1
    rw [Nat.zero_add,getD_lt h2] at this
    split at this
    ·cases this
    ·rename_i h3; simpa using h3
   |some r=>
    have:∀(l:List Int) (i:Nat),wY (fun i x=>if x !=b.getD i 0 then some false else none) i l=some r→r=false:=by
     intro l
     induction l with
     |nil=>intro i h; cases h
     |cons x l ih=>
      intro i h
      simp only [wY] at h
      by_cases hc:(x !=b.getD i 0)=true
      ·rw [if_pos hc] at h; exact (Option.some.inj h).symm
      ·rw [if_neg hc] at h; exact ih _ h
    rw [this a 0 hs]
 ·rw [if_pos (by simp; omega),decide_eq_false (fun e=>hl (by rw [e]))]
theorem zFU (d:zF) (p:ByteArray) (hg:d.good):
  (∃k:Nat,∃hk:k<d.Files.length,wH d p=some (k:Int)∧xV d p=some (d.Files[k].Data,true)∧fileOf d p=some d.Files[k])∨
   (wH d p=some (-1)∧xV d p=some ([],false)∧fileOf d p=none):=by
 rcases zLi d p hg with ⟨k,hk,e1,e2,hp⟩|⟨e1,e2,hp⟩
 ·exact .inl ⟨k,hk,e1,e2,zNC hg.sorted hk hp⟩
 ·exact .inr ⟨e1,e2,zKY hp⟩
def Pkz (c:List Pack):Prop:=∀p∈c,NF p.Name=0∧VF p.Version=0∧(1≤p.Size∧p.Size≤200)
theorem zPM {c:List Pack} (h:CF c=0):Pkz c:=fun p hp=>by
 obtain ⟨h1,h2,h3⟩:=zQ8 ((zQz h).2.1 p hp)
 refine ⟨h1,h2,?_⟩
 unfold inB at h3
 simpa using h3
theorem zFR {α:Type} (q:α→Bool):∀(l:List α) (i:Nat) (acc:List α),foldI (fun _ a x=>if q x then a++[x] else a) i l acc=acc++l.filter q
 |[],_,acc=>by simp [foldI]
 |x::l,i,acc=>by
  simp only [foldI]
  rw [zFR q l (i+1)]
  cases h:q x<;>simp [h]
section
variable {c:List Pack} {d:zF} {a:List Int} (hc:Pkz c) (hg:d.good) (hb:Byt d) (hp:Places c a) (ha:a.length≤1048576)
include hc hg hb hp ha in
theorem zIK:zAW c d a=some (zHA c d a):=by
 have key:=zCc a (fun _ l k=>if zGO c d k then l++[k] else l) (fun i l=>l.length≤i) (b:=zA2 c d a) (by
  intro i l hi hl
  have hm:=List.getElem_mem hi
  obtain ⟨e1,e2⟩:=zEC (hp _ hm)
  obtain ⟨p1,p2,p3⟩:=hc _ e2
  unfold zA2
  rw [if_pos (by simp; omega)]
  simp only
  rw [zO hi]
  simp only [Option.bind_some,e1,zMa p1 p2,zKh p1 p2 p3]
  rw [zN (by omega),zCu (by simp; omega) (by simp; omega)]
  have hx:(if zGO c d a[i] then l++[a[i]] else l).length ≤i+1:=by
   split
   ·simp; omega
   ·omega
  refine ⟨?_,hx⟩
  have fin:∀v52:Bool,v52=zGO c d a[i]→((if v52=true then (some (l++[a[i]])) else (some l)).bind fun v58=>some (Lp.go (v58,((i+1:Nat):Int))))=(some (Lp.go ((if zGO c d a[i]=true then l++[a[i]] else l),((i+1:Nat):Int))):Option (Lp (List Int×Int) (List Int))):=by
   rintro _ rfl
   cases zGO c d a[i]<;>rfl
  rcases zFU d (zLy (pat c a[i])) hg with ⟨k,hk,f1,_,f3⟩|⟨f1,_,f3⟩
  ·rw [f1]
   simp only [Option.bind_some]
   rw [if_neg (show ¬decide ((k:Int)<0)=true by simp),zO hk]
   unfold zE8
   refine fin _ ?_
   unfold zGO
   rw [f3,zQ6 (hb _ (List.getElem_mem hk)) (zLW _)]
   simp
  ·rw [f1]
   refine fin true ?_
   unfold zGO
   rw [f3]) (by
  intro l
  unfold zA2
  rw [if_neg (by simp)]) a.length 0 [] (by omega) (by simp)
 unfold zAW zBn
 rw [show ((0:Nat):Int)=0 from rfl] at key
 rw [key.1,List.drop_zero,zFR]
 rfl
end
section
variable {c:List Pack} {d:zF} {a:List Int} (hc:Pkz c) (hg:d.good) (hb:Byt d) (hp:Places c a) (ha:a.length≤1048576)
include hc hg hp in
theorem zJ9:∀k∈a,zBc k d c=some (zGO c d k):=by
 intro k hk
 obtain ⟨e1,e2⟩:=zEC (hp k hk)
 obtain ⟨p1,p2,p3⟩:=hc _ e2
 unfold zBc
 rw [e1]
 simp only [Option.bind_some,zNX p1 p2,zNh p1 p2 p3]
 unfold zGO
 rcases zFU d (zLy (pat c k)) hg with ⟨q,hq,_,f2,f3⟩|⟨_,f2,f3⟩
 ·rw [f2,f3]
  simp only [Option.bind_some]
  rw [if_neg (by simp),zMg _ _ (by have:=hg.data _ (List.getElem_mem hq); omega)]
  simp
 ·rw [f2,f3]
  rfl
end
section
variable {c:List Pack} {d:zF} {a:List Int} (hc:Pkz c) (hg:d.good) (hb:Byt d) (hp:Places c a) (ha:a.length≤1048576)
include hc hg hp ha in
theorem zLb:zCU c d a=some (zHA c d a):=by
 have h1:=zJ9 hc hg hp
 have h2:∀k∈a,xD k d c=some (!(zGO c d k)):=by
  intro k hk
  unfold xD
  rw [h1 k hk]
  rfl
 have key:=zOi (fun k=> !(zGO c d k)) a (0:Int) (by omega) (b1:=zW a d c) (b2:=zV d c) (by
  intro i hi
  unfold zW
  rw [if_pos (by simp; omega),zO hi]
  simp only [Option.bind_some,h2 _ (List.getElem_mem hi)]
  rw [zN (by omega)]
  split<;>rfl) (by
  unfold zW
  rw [if_neg (by simp)]) (by
  intro xs i j hj hij hl hm
  unfold zV
  simp only
  rw [if_pos (by simp; omega),zO hj]
  simp only [Option.bind_some,h2 _ hm]
  rw [zO (show i<xs.length by omega),zN (show j<_ by omega),zN (show i<_ by omega)]
  cases zGO c d xs[j]<;>simp) (by
  intro xs i hl
  unfold zV
  rw [if_neg (by simp)])
 have hf:a.filter (fun x=> !!(zGO c d x))=zHA c d a:=by simp [zHA]
 rw [hf] at key
 unfold zCU wV uT
 rw [zCu (by simp; omega) (by simp; omega)]
 simp only [Option.bind_some,List.nil_append]
 have e:zT a d c=some (zHA c d a):=key
 rw [e]
 rfl
end
theorem zNq (x y:Int):vL [x,y]=some (if x !=0 then x else y):=by
 unfold vL kF
 rw [zMF _ (by simp),zDC]
 simp only [wY]
 by_cases h:x=0
 ·by_cases h2:y=0<;>simp [h,h2]
 ·simp [h]
theorem zNc {c:List Pack} {d:zF} (hc:Cat c):∀r,vJ d=some r→zAz c d=some (if CF c !=0 then CF c else r):=by
 intro r hr
 unfold zAz
 rw [zGZ c hc,hr]
 simp only [Option.bind_some]
 cases CF c !=0<;>rfl
theorem zO0 {c:List Pack} {d:zF} (hc:Cat c):∀r,vJ d=some r→jT c d=some (if CF c !=0 then CF c else r):=by
 intro r hr
 unfold jT
 rw [zFq c hc,zIB,hr]
 simp only [Option.bind_some,zNq]
def zGn (c:Int):List Int→List (List Int)
 |[]=>[[]]
 |x::l=>if x=c then []::zGn c l else match zGn c l with
  |h::t=>(x::h)::t
  |[]=>[[x]]
theorem zJ6 (c:Int):∀l,zGn c l≠[]
 |[]=>by simp [zGn]
 |x::l=>by
  unfold zGn
  split
  ·simp
  ·split<;>simp
theorem zJv {c:Int}:∀{l:List Int},(∀x∈l,0≤x∧x≤255)→∀p∈zGn c l,∀x∈p,0≤x∧x≤255
 |[],_=>by simp [zGn]
 |y::l,h=>by
  have ih:=zJv (c:=c) (l:=l) (fun x hx=>h x (by simp [hx]))
  intro p hp
  unfold zGn at hp
  split at hp
  ·rcases List.mem_cons.1 hp with rfl|hp
   ·simp
   ·exact ih p hp
  ·split at hp
   ·rename_i a t e
    rcases List.mem_cons.1 hp with rfl|hp
    ·intro x hx
     rcases List.mem_cons.1 hx with rfl|hx
     ·exact h _ (by simp)
     ·exact ih a (by rw [e]; simp) x hx
    ·exact ih p (by rw [e]; simp [hp])
   ·rename_i e
    exact absurd e (zJ6 c l)
theorem zGy (c:Int):∀l,(zGn c l).length ≤l.length+1
 |[]=>by simp [zGn]
 |x::l=>by
  have ih:=zGy c l
  unfold zGn
  split
  ·simp; omega
  ·split
   ·rename_i e; rw [e] at ih; simp at ih ⊢; omega
   ·simp
theorem zIj (c:Int):∀l,∀p∈zGn c l,p.length≤l.length
 |[]=>by simp [zGn]
 |x::l=>by
  have ih:=zIj c l
  intro p hp
  unfold zGn at hp
  split at hp
  ·rcases List.mem_cons.1 hp with rfl|hp
   ·simp
   ·have:=ih p hp; simp; omega
  ·split at hp
   ·rename_i a t e
    rcases List.mem_cons.1 hp with rfl|hp
    ·have:=ih a (by rw [e]; simp); simp; omega
    ·have:=ih p (by rw [e]; simp [hp]); simp; omega
   ·simp at hp; rw [hp]; simp
def uK (c:Int) (s:ByteArray):List ByteArray:=(zGn c (bl s)).map b2s
theorem zIx (c:Int) (s:ByteArray):(uK c s).map bl=zGn c (bl s):=by
 unfold uK
 rw [List.map_map]
 have:∀p∈zGn c (bl s),(bl ∘ b2s) p=id p:=fun p hp=>zGN (zJv zHE p hp)
 rw [List.map_congr_left this,List.map_id]
theorem zJg:∀{a b:List ByteArray},a.map bl=b.map bl→a=b
 |[],[],_=>rfl
 |[],_::_,h=>by simp at h
 |_::_,[],h=>by simp at h
 |x::a,y::b,h=>by
  simp only [List.map_cons,List.cons.injEq] at h
  rw [zFV.1 h.1,zJg h.2]
theorem zLg {c:Int} {s:ByteArray} {ps:List ByteArray} (h:ps.map bl=zGn c (bl s)):ps=uK c s:=zJg (h.trans (zIx c s).symm)
def zP2 (c:UInt8):List UInt8→List (List UInt8)
 |[]=>[[]]
 |x::l=>if x=c then []::zP2 c l else match zP2 c l with
  |h::t=>(x::h)::t
  |[]=>[[x]]
theorem zLa (c:UInt8):∀(l:List UInt8),(zP2 c l).map (fun p=>p.map (fun b=>(b.toNat:Int)))=zGn (c.toNat:Int) (l.map (fun b=>(b.toNat:Int)))
 |[]=>rfl
 |x::l=>by
  have ih:=zLa c l
  simp only [List.map_cons]
  unfold zP2 zGn
  by_cases h:x=c
  ·subst h
   rw [if_pos rfl,if_pos rfl,List.map_cons,ih]
   rfl
  ·have h':¬((x.toNat:Int)=(c.toNat:Int)):=fun e=>h (UInt8.toNat_inj.1 (by omega))
   rw [if_neg h,if_neg h',←ih]
   cases hc:zP2 c l with
   |nil=>rfl
   |cons a t=>rfl
theorem zKT (c:UInt8):∀(l:List UInt8),c∉l→zP2 c l=[l]
 |[],_=>rfl
 |x::l,h=>by
  unfold zP2
  rw [if_neg (fun e=>h (by simp [e])),zKT c l (fun e=>h (by simp [e]))]
theorem index_one (c b:UInt8) (l:List UInt8):Lib.index (b::l) [c]=if b=c then 0 else if Lib.index l [c]== -1 then-1 else Lib.index l [c]+1:=by
 rw [Lib.index]
 have:([c].isPrefixOf (b::l))=decide (b=c):=by
  simp only [List.isPrefixOf,Bool.and_true]
  rw [Bool.eq_iff_iff,beq_iff_eq,decide_eq_true_eq]
  exact ⟨fun h=>h.symm,fun h=>h.symm⟩
 rw [this]
 by_cases h:b=c<;>simp [h]
theorem zHk (c:UInt8):∀(l:List UInt8) (k:Nat),l.count c≤k→Lib.splitK [c] 0 k l=zP2 c l
 |[],k,_=>by
  cases k with
  |zero=>rfl
  |succ k=>rfl
 |b::l,0,h=>by
  have hn:c∉b::l:=List.count_eq_zero.1 (by omega)
  rw [zKT c _ hn]
  rfl
 |b::l,k+1,h=>by
  unfold zP2
  by_cases hb:b=c
  ·subst hb
   rw [if_pos rfl]
   have e:Lib.index (b::l) [b]=0:=by rw [index_one,if_pos rfl]
   rw [Lib.splitK,e]
   simp only [List.count_cons_self] at h
   rw [if_neg (by decide)]
   show []::Lib.splitK [b] 0 k ((b::l).drop 1)=_
   rw [List.drop_one,List.tail_cons,zHk b l k (by omega)]
  ·rw [if_neg hb]
   have hc:l.count c≤k+1:=by rw [List.count_cons_of_ne hb] at h; exact h
   have ih:=zHk c l (k+1) hc
   rw [←ih,Lib.splitK,Lib.splitK,index_one,if_neg hb]
   cases hi:Lib.index l [c]== -1
   ·have hge:=Lib.index_ge l [c]
    have hne:Lib.index l [c]≠ -1:=by simpa using hi
    have hne':(Lib.index l [c]+1== -1)=false:=by
     rw [beq_eq_false_iff_ne]; omega
    simp only [Bool.false_eq_true,if_false,hne']
    rw [show (Lib.index l [c]+1).toNat =(Lib.index l [c]).toNat +1 by omega]
    simp only [Nat.add_zero,List.length_singleton,List.take_succ_cons,List.drop_succ_cons]
   ·simp
theorem zHg (s:ByteArray) (c:UInt8) (h:s.size≤1048577):strings_Split s ⟨#[c]⟩=some (uK (c.toNat:Int) s):=by
 unfold strings_Split
 rw [if_pos ⟨by omega,by show 1≤1; omega⟩]
 congr 1
 refine zLg ?_
 have e:=Lib.splitB_data ⟨#[c]⟩ 0 (Lib.countB s ⟨#[c]⟩) s
 have e2:Lib.countB s ⟨#[c]⟩=s.data.toList.count c:=Lib.count_one c s.data.toList
 rw [e2] at e ⊢
 rw [show (⟨#[c]⟩:ByteArray).data.toList =[c] from rfl,zHk c _ _ (Nat.le_refl _)] at e
 have e3:∀ps:List ByteArray,ps.map bl=(ps.map (·.data.toList)).map (fun p=>p.map (fun b=>(b.toNat:Int))):=by
  intro ps
  rw [List.map_map]
  exact List.map_congr_left (fun p _=>(zIw p).symm)
 rw [e3,e,zLa,zIw]
def zN4 (c:Int) (l:List Int):List (List Int)×List Int:=l.foldl (fun a x=>if x=c then (a.1++[a.2],[]) else (a.1,a.2++[x])) ([],[])
theorem zME (c:Int):∀(l:List Int) (a:List (List Int)×List Int),(l.foldl (fun a x=>if x=c then (a.1++[a.2],[]) else (a.1,a.2++[x])) a).1++[(l.foldl (fun a x=>if x=c then (a.1++[a.2],[]) else (a.1,a.2++[x])) a).2]=
  a.1++(match zGn c l with|h::t=>(a.2++h)::t|[]=>[a.2])
 |[],a=>by simp [zGn]
 |x::l,a=>by
  simp only [List.foldl_cons]
  rw [zME c l]
  have hn:=zJ6 c l
  by_cases h:x=c
  ·rw [if_pos h]
   conv=>rhs; unfold zGn
   rw [if_pos h]
   cases hc:zGn c l with
   |nil=>exact absurd hc hn
   |cons a t=>simp
  ·rw [if_neg h]
   conv=>rhs; unfold zGn
   rw [if_neg h]
   cases hc:zGn c l with
   |nil=>exact absurd hc hn
   |cons a t=>simp
theorem zO3 (c:Int) (l:List Int):(zN4 c l).1++[(zN4 c l).2]=zGn c l:=by
 unfold zN4
 rw [zME c l ([],[])]
 cases h:zGn c l with
 |nil=>exact absurd h (zJ6 c l)
 |cons a t=>simp
theorem zGM (c:Int) (l:List Int) (x:Int):zN4 c (l++[x])=if x=c then ((zN4 c l).1++[(zN4 c l).2],[]) else ((zN4 c l).1,(zN4 c l).2++[x]):=by
 unfold zN4
 rw [List.foldl_append]
 rfl
theorem zOU (c:Int) (l:List Int):(zN4 c l).1.length ≤l.length:=by
 have h1:=zO3 c l
 have h2:=zGy c l
 rw [←h1] at h2
 simp at h2
 exact h2
theorem zFT (s:ByteArray) (c:Int) (h:s.size≤1048577):tZ s c=some (uK c s):=by
 have hlen:=zQ s
 obtain ⟨t,e,ht⟩:=zBb (b:=zBN s c) (fun i q=>q.2.2=(i:Int)∧
   ((i≤s.size∧q.1.map bl=(zN4 c ((bl s).take i)).1∧∃f:Nat,q.2.1=(f:Int)∧f≤i∧((bl s).drop f).take (i-f)=(zN4 c ((bl s).take i)).2)∨(i=s.size+1∧q.1.map bl=zGn c (bl s)))) (s.size+1)
  (fun t=>t.map bl=zGn c (bl s)) (by
  rintro i ⟨out,from_,j⟩ hi ⟨hj,hI⟩
  simp only at hj hI
  subst hj
  rcases hI with ⟨hle,ho,f,hf,hfi,hc⟩|⟨he,_⟩
  case inr=>omega
  subst hf
  have hol:out.length≤i:=by
   have:=congrArg List.length ho
   rw [List.length_map] at this
   rw [this]
   refine Nat.le_trans (zOU _ _) ?_
   simp
   omega
  unfold zBN
  rw [if_pos (by simp; omega)]
  simp only
  by_cases hn:i=s.size
  ·subst hn
   have es:zFc s (f:Int) (s.size:Int)=some (s.extract f s.size):=zEe hfi (Nat.le_refl _)
   rw [if_pos (by simp)]
   simp only [Option.bind_some,if_true]
   rw [es]
   simp only [Option.bind_some]
   rw [zCu (by simp; omega) (by simp; omega),zN (by omega)]
   refine .inl ⟨_,rfl,rfl,.inr ⟨trivial,?_⟩⟩
   have htk:(bl s).take s.size=bl s:=by rw [←hlen,List.take_length]
   rw [htk] at ho hc
   rw [List.map_append,ho,←zO3]
   simp only [List.map_cons,List.map_nil]
   rw [wI,hc]
  ·have hlt:i< (bl s).length :=by omega
   have htk:(bl s).take (i+1)=(bl s).take i++[(bl s)[i]]:=List.take_succ_eq_append_getElem hlt
   rw [if_neg (by simp; omega),zDK hlt]
   simp only [Option.bind_some]
   by_cases hb:(bl s)[i]=c
   ·rw [show ((bl s)[i]==c)=true by simpa using hb]
    simp only [if_true]
    have es:zFc s (f:Int) (i:Int)=some (s.extract f i):=zEe hfi (by omega)
    rw [es]
    simp only [Option.bind_some]
    rw [zCu (by simp; omega) (by simp; omega),zN (by omega)]
    refine .inl ⟨_,rfl,rfl,.inl ⟨by omega,?_,i+1,rfl,Nat.le_refl _,?_⟩⟩
    ·rw [htk,zGM,if_pos hb,List.map_append,ho]
     simp only [List.map_cons,List.map_nil]
     rw [wI,hc]
    ·rw [htk,zGM,if_pos hb]
     simp
   ·rw [show ((bl s)[i]==c)=false by simpa using hb]
    simp only [Bool.false_eq_true,if_false,Option.bind_some]
    rw [zN (by omega)]
    refine .inl ⟨_,rfl,rfl,.inl ⟨by omega,?_,f,rfl,by omega,?_⟩⟩
    ·rw [htk,zGM,if_neg hb]
     exact ho
    ·rw [htk,zGM,if_neg hb,←hc,show i+1-f=(i-f)+1 by omega]
     have hd:i-f< ((bl s).drop f).length :=by simp; omega
     rw [List.take_succ_eq_append_getElem hd]
     congr 2
     rw [List.getElem_drop]
     congr 1
     omega) (by
  rintro ⟨out,from_,j⟩ ⟨hj,hI⟩
  simp only at hj hI
  subst hj
  rcases hI with ⟨hle,_⟩|⟨_,ho⟩
  ·omega
  unfold zBN
  rw [if_neg (by simp; omega)]
  exact ⟨_,rfl,ho⟩) (s.size+1) 0 (([]:List ByteArray),0,0) (by omega) ⟨rfl,.inl ⟨by omega,rfl,0,rfl,by omega,by simp [zN4]⟩⟩
 unfold tZ zCT
 rw [e,zLg ht]
 rfl
def zBi (s:ByteArray):List ByteArray:=if (uK 10 s).getLast? =some (bs []) then (uK 10 s).dropLast else uK 10 s
theorem zIR (ps:List ByteArray) (h0:ps≠[]) (hl:ps.length≤1048578):((idx ps (w64 ((ps.length:Int)-1))).bind fun x4=>(if seq x4 (bs []) then ((zGB ps 0 (w64 ((ps.length:Int)-1))).bind fun x7=>some x7) else (some ps)).bind fun v9=>some v9)=
  some (if ps.getLast? =some (bs []) then ps.dropLast else ps):=by
 have hp:0<ps.length:=List.length_pos_iff.2 h0
 rw [wR (by omega) (by omega),show (ps.length:Int)-1=((ps.length-1:Nat):Int) by omega,zO (show ps.length-1<ps.length by omega)]
 simp only [Option.bind_some]
 have hg:ps.getLast? =some ps[ps.length-1]:=by
  rw [List.getLast?_eq_getElem?,List.getElem?_eq_getElem]
 rw [hg]
 by_cases h:ps[ps.length-1]=bs []
 ·rw [if_pos (zFL.2 h),if_pos (by rw [h])]
  have e:zGB ps 0 ((ps.length-1:Nat):Int)=some (ps.take (ps.length-1)):=zGh (by omega)
  rw [e,List.dropLast_eq_take]
  rfl
 ·have hs:seq ps[ps.length-1] (bs [])=false:=by
   cases hq:seq ps[ps.length-1] (bs []) with
   |false=>rfl
   |true=>exact absurd (zFL.1 hq) h
  rw [hs,if_neg (show ¬(some ps[ps.length-1]=some (bs [])) from fun e=>h (Option.some.inj e))]
  rfl
theorem zKU (c:Int) (s:ByteArray):uK c s≠[]:=by
 unfold uK
 intro h
 exact zJ6 c (bl s) (List.map_eq_nil_iff.1 h)
theorem zFv (c:Int) (s:ByteArray):(uK c s).length ≤s.size+1:=by
 unfold uK
 rw [List.length_map,←zQ]
 exact zGy c (bl s)
theorem zHl (s:ByteArray) (h:s.size≤1048577):zAG s=some (zBi s):=by
 unfold zAG
 rw [zFT s 10 h]
 exact zIR _ (zKU _ _) (by have:=zFv 10 s; omega)
theorem zHw (s:ByteArray) (h:s.size≤1048577):jZ s=some (zBi s):=by
 unfold jZ
 have e:=zHg s 10 h
 rw [show (((10:UInt8).toNat :Nat):Int)=10 from rfl] at e
 rw [show bs [10]=⟨#[10]⟩ from rfl,e]
 exact zIR _ (zKU _ _) (by have:=zFv 10 s; omega)
theorem zGc (s:ByteArray):(zBi s).length ≤s.size+1:=by
 have:=zFv 10 s
 unfold zBi
 split
 ·simp; omega
 ·exact this
theorem zFA (s:ByteArray):∀p∈zBi s,p.size≤s.size:=by
 intro p hp
 have hm:p∈uK 10 s:=by
  unfold zBi at hp
  split at hp
  ·exact (List.dropLast_sublist _).subset hp
  ·exact hp
 have hb:bl p∈zGn 10 (bl s):=by
  rw [←zIx]
  exact List.mem_map_of_mem hm
 have:=zIj 10 (bl s) _ hb
 rw [zQ,zQ] at this
 exact this
def zSm:zL:= {Code:=5,Version:=zeroV}
def zF4 (i:Nat) (a:List Int) (x:ByteArray):Lp (List Int) (Fl zL (List Int)):=match zIS (bl x) 3 with
 |some n=>.go (a.set i n)
 |none=>.done (.ret zSm)
def zR2 (t:Fl zL (List Int)):zL:=match t with
 | .ret r=>r
 | .nxt l=> {Code:=0,Version:= {A:=l.getD 0 0,B:=l.getD 1 0,C:=l.getD 2 0}}
def PV (s:ByteArray):zL:=if (uK 46 s).length >3 then zSm else zR2 (goL zF4 .nxt 0 (uK 46 s) [0,0,0])
theorem zMk {l:List Int} {n:Int} (h:zIS l 3=some n):0≤n:=by
 unfold zIS at h
 split at h
 ·cases h
 ·rename_i h1
  cases h
  exact (zFs (l:=l) (by
   intro c hc
   cases hd:zHq c with
   |true=>rfl
   |false=>exact absurd (.inr (.inr (fun h'=>by rw [h' c hc] at hd; cases hd))) h1)).1
theorem zJ3:∀(ps:List ByteArray) (i:Nat) (a:List Int),a.length=3→match goL zF4 Fl.nxt i ps a with| .ret r=>r=zSm| .nxt l=>l.length=3
 |[],_,a,h=>h
 |p::ps,i,a,h=>by
  simp only [goL]
  unfold zF4
  cases hn:zIS (bl p) 3 with
  |none=>rfl
  |some n=>exact zJ3 ps (i+1) (a.set i n) (by simpa using h)
theorem zEB (s:ByteArray) (h:s.size≤1048577):xU s=some (PV s):=by
 unfold xU PV
 rw [zFT s 46 h]
 simp only [Option.bind_some]
 by_cases hl:(uK 46 s).length >3
 ·rw [if_pos (by simp; omega),if_pos hl]; rfl
 rw [if_neg (by simp; omega),if_neg hl]
 have key:=zLe (uK 46 s) zF4 Fl.nxt (fun i a=>(a,(i:Int))) (fun _ a=>a.length=3) (b:=tY (uK 46 s)) [0,0,0] (by
  intro i a hi ha
  unfold tY zF4
  rw [if_pos (by simp; omega),zO hi]
  simp only [Option.bind_some,zGz _ 3 (by omega)]
  cases hn:zIS (bl (uK 46 s)[i]) 3 with
  |none=>exact ⟨rfl,fun a' h=>by cases h⟩
  |some n=>
   simp only [Bool.not_true,Bool.false_eq_true,if_false]
   rw [zO (show i<a.length by omega),zN (by omega)]
   exact ⟨rfl,fun a' h=>by cases h; simpa using ha⟩) (by
  intro a ha
  unfold tY
  rw [if_neg (by simp)]) rfl
 unfold jN
 rw [show ((0:Nat):Int)=0 from rfl] at key
 rw [key]
 have h3:=zJ3 (uK 46 s) 0 [0,0,0] rfl
 cases hg:goL zF4 Fl.nxt 0 (uK 46 s) [0,0,0] with
 |ret r=>rfl
 |nxt l=>
  rw [hg] at h3
  match l,h3 with
  |[x,y,z],_=>rfl
theorem zDr (s:ByteArray) (h:s.size≤1048577):wL s=some (PV s):=by
 unfold wL PV
 have e:=zHg s 46 h
 rw [show (((46:UInt8).toNat :Nat):Int)=46 from rfl] at e
 rw [show bs [46]=⟨#[46]⟩ from rfl,e]
 simp only [Option.bind_some]
 by_cases hl:(uK 46 s).length >3
 ·rw [if_pos (by simp; omega),if_pos hl]; rfl
 rw [if_neg (by simp; omega),if_neg hl]
 have key:=zLe (uK 46 s) zF4 Fl.nxt (fun i a=>(a,(i:Int))) (fun _ a=>a.length=3) (b:=tX (uK 46 s)) [0,0,0] (by
  intro i a hi ha
  have hia:i<a.length:=by omega
  unfold tX zF4
  rw [if_pos (by simp; omega),zO hi]
  simp only [Option.bind_some,number_eq _ 3 (by omega)]
  have ea:∀(b:List Int),b.length=3→zOH b 3 (i:Int)=idx b (i:Int):=fun b hb=>if_pos hb
  rw [ea a ha,zO hia]
  simp only [Option.bind_some,Int.toNat_natCast]
  rw [ea _ (by simpa using ha),zO (by simpa using hia)]
  simp only [Option.bind_some,List.getElem_set_self]
  cases hn:zIS (bl (uK 46 s)[i]) 3 with
  |none=>exact ⟨rfl,fun a' h=>by cases h⟩
  |some n=>
   have:=zMk hn
   simp only
   rw [if_neg (by simpa using this),zN (by omega)]
   exact ⟨rfl,fun a' h=>by cases h; simpa using ha⟩) (by
  intro a ha
  unfold tX
  rw [if_neg (by simp)]) rfl
 unfold jP
 rw [show ((0:Nat):Int)=0 from rfl] at key
 rw [key]
 have h3:=zJ3 (uK 46 s) 0 [0,0,0] rfl
 cases hg:goL zF4 Fl.nxt 0 (uK 46 s) [0,0,0] with
 |ret r=>rfl
 |nxt l=>
  rw [hg] at h3
  match l,h3 with
  |[x,y,z],_=>rfl
def tw (p:Int→Bool) (l:List Int):Nat:=(l.takeWhile p).length
theorem zOR (p:Int→Bool):∀(l:List Int),tw p l≤l.length
 |[]=>by simp [tw]
 |x::l=>by
  have:=zOR p l
  unfold tw at this ⊢
  rw [List.takeWhile_cons]
  split
  ·simp; omega
  ·simp
theorem zG9 (p:Int→Bool) (x:Int) (l:List Int):tw p (x::l)=if p x then tw p l+1 else 0:=by
 unfold tw
 rw [List.takeWhile_cons]
 split<;>simp
theorem zI1 (l:List Int) (p:Int→Bool) {b:Int→Option (Lp Int Int)} (hs:∀(i:Nat) (hi:i<l.length),b (i:Int)=some (if p l[i] then .go ((i+1:Nat):Int) else .done (i:Int))) (he:b (l.length:Int)=some (.done (l.length:Int))):
  ∀(k i:Nat),i+k=l.length→loop b (i:Int)=some ((i+tw p (l.drop i):Nat):Int)
 |0,i,h=>by
  have e:i=l.length:=by omega
  subst e
  rw [vE,he,List.drop_length]
  rfl
 |k+1,i,h=>by
  have hi:i<l.length:=by omega
  rw [vE,hs i hi,List.drop_eq_getElem_cons hi,zG9]
  cases p l[i]
  ·rfl
  ·have:=zI1 l p hs he k (i+1) (by omega)
   simp only [if_true,Option.bind_some,Lp.elim]
   rw [this]
   congr 2
   omega
theorem zHa (l:List Int) (p:Int→Bool) {b:Int→Option (Lp Int Int)} (hs:∀(i:Nat) (hi:i<l.length),b (i:Int)=some (if p l[i] then .go ((i+1:Nat):Int) else .done (i:Int))) (he:b (l.length:Int)=some (.done (l.length:Int))):
  loop b 0=some ((tw p l:Nat):Int):=by
 have:=zI1 l p hs he l.length 0 (by omega)
 simpa using this
def zIF (c:Int):Bool:=c !=60
def zHT (s:ByteArray):Nat:=tw zLn (bl s)
def nameP (s:ByteArray):ByteArray:=s.extract 0 (zHT s)
def zKF (s:ByteArray):ByteArray:=s.extract (zHT s) s.size
def zEk (r:ByteArray):Nat:=tw zIF (bl r)
def zHZ (r:ByteArray):Option Version:=if zEk r<r.size then (if (PV (r.extract (zEk r+1) r.size)).Code !=0 then none else some (PV (r.extract (zEk r+1) r.size)).Version) else some zKf
def zFg (r:ByteArray):ByteArray:=r.extract 0 (zEk r)
def zN9 (r:ByteArray):Option Version:=if seq (zFg r) (bs []) then some zeroV else if decide ((zFg r).size <2)|| !(seq ((zFg r).extract 0 2) (bs [62,61])) then none else
 (if (PV ((zFg r).extract 2 (zFg r).size)).Code !=0 then none else some (PV ((zFg r).extract 2 (zFg r).size)).Version)
def zMJ:Term:= {Name:=ByteArray.empty,Low:=zeroV,High:=zeroV}
def zMd (c:Int):yK:= {Code:=c,Term:=zMJ}
def zRg (t:Term):yK:=if TF t !=0 then zMd (TF t) else {Code:=0,Term:=t}
def PTm (s:ByteArray):yK:=if NF (nameP s) !=0 then zMd 5 else match zHZ (zKF s),zN9 (zKF s) with
 |some h,some l=>zRg {Name:=nameP s,Low:=l,High:=h}
 |_,_=>zMd 5
theorem extract_size {s:ByteArray} {i j:Nat} (h:i≤j) (hj:j≤s.size):(s.extract i j).size =j-i:=by
 rw [←zQ,wI]
 simp
 rw [zQ]
 omega
theorem zMI (s:ByteArray):zHT s≤s.size:=by
 rw [←zQ]; exact zOR _ _
theorem zMh (s:ByteArray):zEk s≤s.size:=by
 rw [←zQ]; exact zOR _ _
theorem zIC (s:ByteArray) (h:s.size≤1048577):zBe s=some (PTm s):=by
 have k1:kG s 0=some ((zHT s:Nat):Int):=by
  unfold kG zHT
  refine zHa (bl s) zLn (fun i hi=>?_) ?_
  ·have hs:i<s.size:=by rw [←zQ]; exact hi
   unfold zCh
   rw [if_pos (by simp; omega),zDK hi]
   simp only [Option.bind_some,zK8]
   rw [zN (by omega)]
   cases zLn (bl s)[i]<;>rfl
  ·unfold zCh
   rw [if_neg (by rw [zQ]; simp)]
   rfl
 have hn:=zMI s
 have e1:zFc s 0 ((zHT s:Nat):Int)=some (nameP s):=zEe (Nat.zero_le _) hn
 have e2:zFc s ((zHT s:Nat):Int) (s.size:Int)=some (zKF s):=zEe hn (Nat.le_refl _)
 unfold zBe zEo kP
 rw [k1]
 simp only [Option.bind_some]
 rw [e1]
 simp only [Option.bind_some,zEI]
 unfold PTm
 cases hN:NF (nameP s) !=0
 case true=>rfl
 simp only [Bool.false_eq_true,if_false]
 rw [e2]
 simp only [Option.bind_some]
 generalize hT:({Name:=nameP s,Low:= {A:=0,B:=0,C:=0},High:= {A:=1000,B:=0,C:=0}}:Term)=T0
 generalize hr:zKF s=r
 have hrs:r.size≤1048577:=by
  rw [←hr]
  unfold zKF
  rw [extract_size hn (Nat.le_refl _)]
  omega
 have k2:kT T0 r 0=some ((zEk r:Nat):Int):=by
  unfold kT zEk
  refine zHa (bl r) zIF (fun i hi=>?_) ?_
  ·have hs:i<r.size:=by rw [←zQ]; exact hi
   unfold zCj zIF
   rw [if_pos (by simp; omega),zDK hi]
   simp only [Option.bind_some]
   rw [zN (by omega)]
   cases (bl r)[i] !=60<;>rfl
  ·unfold zCj
   rw [if_neg (by rw [zQ]; simp)]
   rfl
 rw [k2]
 have hc:=zMh r
 have elow:zFc r 0 ((zEk r:Nat):Int)=some (zFg r):=zEe (Nat.zero_le _) hc
 have hlow:(zFg r).size =zEk r:=by
  unfold zFg
  rw [extract_size (Nat.zero_le _) hc]
  omega
 simp only [Option.bind_some]
 have eh:(if decide (((zEk r:Nat):Int)< (r.size:Int)) then ((zFc r (w64 (((zEk r:Nat):Int)+1)) (r.size:Int)).bind fun x40=>(xU x40).bind fun x42=>if x42.Code !=0 then (some (Fl.ret (zMd 5))) else (some (Fl.nxt (x42.Version.A,x42.Version.B,x42.Version.C))))
   else (some (Fl.nxt ((1000:Int),(0:Int),(0:Int)))))=some (match zHZ r with|some v=>Fl.nxt (v.A,v.B,v.C)|none=>Fl.ret (zMd 5)):=by
  unfold zHZ
  by_cases hlt:zEk r<r.size
  ·rw [if_pos (by simp; omega),if_pos hlt,zN (by omega)]
   have e3:zFc r ((zEk r+1:Nat):Int) (r.size:Int)=some (r.extract (zEk r+1) r.size):=zEe (by omega) (Nat.le_refl _)
   rw [e3]
   simp only [Option.bind_some]
   rw [zEB _ (by rw [extract_size (by omega) (Nat.le_refl _)]; omega)]
   simp only [Option.bind_some]
   cases (PV (r.extract (zEk r+1) r.size)).Code !=0<;>rfl
  ·rw [if_neg (by simp; omega),if_neg hlt]
   rfl
 have eh':=eh
 unfold zMd zMJ zeroV at eh'
 rw [eh']
 cases hH:zHZ r with
 |none=>rfl
 |some v=>
  simp only [Option.bind_some,Fl.go]
  rw [elow]
  simp only [Option.bind_some]
  have el:(if !(seq (zFg r) (bs [])) then ((if decide (((zFg r).size :Int)<2) then (some true) else ((zFc (zFg r) 0 2).bind fun x50=>some (!(seq x50 (bs [62,61]))))).bind fun v52=>if v52 then (some (Fl.ret (zMd 5))) else
     ((zFc (zFg r) 2 ((zFg r).size :Int)).bind fun x54=>(xU x54).bind fun x56=>if x56.Code !=0 then (some (Fl.ret (zMd 5))) else (some (Fl.nxt (x56.Version.A,x56.Version.B,x56.Version.C)))))
    else (some (Fl.nxt ((0:Int),(0:Int),(0:Int)))))=some (match zN9 r with|some v=>Fl.nxt (v.A,v.B,v.C)|none=>Fl.ret (zMd 5)):=by
   unfold zN9
   cases hq:seq (zFg r) (bs [])
   ·simp only [Bool.not_false,if_true,Bool.false_eq_true,if_false]
    by_cases h2:(zFg r).size <2
    ·rw [if_pos (by simp; omega)]
     simp [h2]
    ·have e5:zFc (zFg r) ((0:Nat):Int) ((2:Nat):Int)=some ((zFg r).extract 0 2):=zEe (by omega) (by omega)
     rw [show ((0:Nat):Int)=0 from rfl,show ((2:Nat):Int)=2 from rfl] at e5
     rw [if_neg (by simp; omega),e5]
     simp only [Option.bind_some,h2,decide_false,Bool.false_or]
     cases seq ((zFg r).extract 0 2) (bs [62,61])
     ·rfl
     ·have e6:zFc (zFg r) ((2:Nat):Int) ((zFg r).size :Int)=some ((zFg r).extract 2 (zFg r).size):=zEe (by omega) (Nat.le_refl _)
      rw [show ((2:Nat):Int)=2 from rfl] at e6
      simp only [Bool.not_true,Bool.false_eq_true,if_false]
      rw [e6]
      simp only [Option.bind_some]
      rw [zEB _ (by rw [extract_size (by omega) (Nat.le_refl _)]; omega)]
      simp only [Option.bind_some]
      cases (PV ((zFg r).extract 2 (zFg r).size)).Code !=0<;>rfl
   ·rfl
  have el':=el
  unfold zMd zMJ zeroV at el'
  rw [el']
  cases hL:zN9 r with
  |none=>rfl
  |some u=>
   simp only [Option.bind_some,Fl.go]
   rw [zFo]
   simp only [Option.bind_some]
   unfold zRg
   have:({Name:=nameP s,Low:= {A:=u.A,B:=u.B,C:=u.C},High:= {A:=v.A,B:=v.B,C:=v.C}}:Term)= {Name:=nameP s,Low:=u,High:=v}:=rfl
   rw [this]
   cases TF {Name:=nameP s,Low:=u,High:=v} !=0<;>rfl
theorem zIH (s p:ByteArray):strings_CutPrefix s p=some (if begins s p then (s.extract p.size s.size,true) else (s,false)):=by
 unfold strings_CutPrefix wE yM begins
 by_cases h:p.size≤s.size
 ·have e1:zFc s ((0:Nat):Int) (p.size:Int)=some (s.extract 0 p.size):=zEe (Nat.zero_le _) h
  have e2:zFc s (p.size:Int) (s.size:Int)=some (s.extract p.size s.size):=zEe h (Nat.le_refl _)
  rw [show ((0:Nat):Int)=0 from rfl] at e1
  rw [if_pos (by simp; omega),e1]
  simp only [Option.bind_some,h,decide_true,Bool.true_and]
  cases seq (s.extract 0 p.size) p
  ·rfl
  ·simp only [Bool.not_true,Bool.false_eq_true,if_false]
   rw [e2]
   rfl
 ·rw [if_neg (by simp; omega)]
  simp [h]
theorem zHm (c:UInt8):∀(l:List UInt8),Lib.indexByte l c=if tw (fun x=>x !=(c.toNat:Int)) (l.map (fun b=>(b.toNat:Int)))=l.length then-1 else (tw (fun x=>x !=(c.toNat:Int)) (l.map (fun b=>(b.toNat:Int))):Int)
 |[]=>rfl
 |b::l=>by
  have ih:=zHm c l
  have hle:=zOR (fun x=>x !=(c.toNat:Int)) (l.map (fun b=>(b.toNat:Int)))
  rw [List.length_map] at hle
  rw [Lib.indexByte,List.map_cons,zG9]
  by_cases h:b=c
  ·subst h
   simp
  ·have h':((b.toNat:Int) !=(c.toNat:Int))=true:=by
    simp only [bne_iff_ne,ne_eq]
    intro e
    exact h (UInt8.toNat_inj.1 (by omega))
   rw [if_neg (by simpa using h)]
   simp only [h',if_true,List.length_cons]
   rw [ih]
   by_cases he:tw (fun x=>x !=(c.toNat:Int)) (l.map (fun b=>(b.toNat:Int)))=l.length
   ·rw [he]
    simp
   ·rw [if_neg he,if_neg (by simp),if_neg (by omega)]
    omega
theorem zEV (s p:ByteArray):begins s p=decide ((bl s).take (bl p).length =bl p):=by
 unfold begins
 rw [zFY,wI,List.drop_zero,Nat.sub_zero,←zQ p,←zQ s]
 by_cases h:(bl p).length ≤(bl s).length
 ·simp [h]
 ·have:¬((bl s).take (bl p).length =bl p):=by
   intro e
   have:=congrArg List.length e
   simp at this
   omega
  simp [h,this]
theorem zI5 (s:ByteArray) (h:s.size≤1048577):zAS s=some (PTm s):=by
 have k1:kQ s 0=some ((zHT s:Nat):Int):=by
  unfold kQ zHT
  refine zHa (bl s) zLn (fun i hi=>?_) ?_
  ·have hs:i<s.size:=by rw [←zQ]; exact hi
   unfold zCn
   rw [if_pos (by simp; omega),zDK hi]
   simp only [Option.bind_some,zGG]
   rw [zN (by omega)]
   cases zLn (bl s)[i]<;>rfl
  ·unfold zCn
   rw [if_neg (by rw [zQ]; simp)]
   rfl
 have hn:=zMI s
 have e1:zFc s 0 ((zHT s:Nat):Int)=some (nameP s):=zEe (Nat.zero_le _) hn
 have e2:zFc s ((zHT s:Nat):Int) (s.size:Int)=some (zKF s):=zEe hn (Nat.le_refl _)
 unfold zAS zEn zDq
 rw [k1]
 simp only [Option.bind_some]
 rw [e1]
 simp only [Option.bind_some]
 rw [e2]
 simp only [Option.bind_some,zEG]
 unfold PTm
 cases hN:NF (nameP s) !=0
 case true=>rfl
 simp only [Bool.false_eq_true,if_false,zIH,Option.bind_some]
 generalize hr:zKF s=r
 have hrs:r.size≤1048577:=by
  rw [←hr]
  unfold zKF
  rw [extract_size hn (Nat.le_refl _)]
  omega
 have hlr:=zQ r
 have b2:bl (bs [62,61])=[62,61]:=zKG _
 have b1:bl (bs [60])=[60]:=zKG _
 have s2:(bs [62,61]).size =2:=rfl
 have s1:(bs [60]).size =1:=rfl
 have fin:∀(l u:Version),((vB ({Name:=nameP s,Low:=({A:=l.A,B:=l.B,C:=l.C}:Version),High:=({A:=u.A,B:=u.B,C:=u.C}:Version)}:Term)).bind fun x50=>if x50 !=0 then (some (zMd x50)) else (some ({Code:=0,Term:=({Name:=nameP s,Low:=({A:=l.A,B:=l.B,C:=l.C}:Version),High:=({A:=u.A,B:=u.B,C:=u.C}:Version)}:Term)}:yK)))=
   some (zRg {Name:=nameP s,Low:=l,High:=u}):=by
  intro l u
  rw [zFm]
  simp only [Option.bind_some]
  unfold zRg
  cases TF {Name:=nameP s,Low:=l,High:=u} !=0<;>rfl
 have fin':=fin
 unfold zMd zMJ zeroV at fin'
 cases hb:begins r (bs [62,61])
 ·
  simp only [Bool.false_eq_true,if_false,Option.bind_some,Fl.go]
  cases hb1:begins r (bs [60])
  ·simp only [Bool.false_eq_true,if_false,Option.bind_some,Fl.go]
   cases hq:seq r (bs [])
   ·
    have hne:bl r≠[]:=by
     intro e
     rw [zFY,e,zJs] at hq
     simp at hq
    have hcut:1≤zEk r:=by
     unfold zEk
     cases hx:bl r with
     |nil=>exact absurd hx hne
     |cons x l=>
      rw [zG9]
      rw [zEV,b1,hx] at hb1
      have:zIF x=true:=by
       unfold zIF
       simpa using hb1
      rw [this]
      simp
    have hlow:zN9 r=none:=by
     have hls:(zFg r).size =zEk r:=by
      unfold zFg
      rw [extract_size (Nat.zero_le _) (zMh r)]
      omega
     unfold zN9
     have hs0:seq (zFg r) (bs [])=false:=by
      cases hs:seq (zFg r) (bs []) with
      |false=>rfl
      |true=>
       have:=congrArg ByteArray.size (zFL.1 hs)
       rw [hls] at this
       have hz:(bs []).size =0:=rfl
       omega
     rw [hs0,if_neg (by simp),if_pos]
     by_cases h2:(zFg r).size <2
     ·simp [h2]
     ·simp only [h2,decide_false,Bool.false_or]
      rw [zEV,b2] at hb
      rw [zFY,b2,wI,zFg,wI]
      simp only [List.drop_zero,Nat.sub_zero,List.take_take]
      rw [Nat.min_eq_left (by omega)]
      simpa using hb
    rw [hlow]
    cases zHZ r<;>rfl
   ·
    have he:bl r=[]:=by
     rw [zFY,zJs] at hq
     simpa using hq
    have hz:r.size=0:=by rw [←hlr,he]; rfl
    have hc0:zEk r=0:=by unfold zEk; rw [he]; rfl
    have h1:zHZ r=some zKf:=by
     unfold zHZ
     rw [if_neg (by omega)]
    have h2:zN9 r=some zeroV:=by
     unfold zN9
     have:seq (zFg r) (bs [])=true:=by
      rw [zFY,zJs,zFg,wI,he]
      simp
     rw [this]
     rfl
    rw [h1,h2]
    exact fin' zeroV zKf
  ·
   have hx:=hb1
   rw [zEV,b1] at hx
   simp only [decide_eq_true_eq] at hx
   have hc0:zEk r=0:=by
    unfold zEk
    cases hy:bl r with
    |nil=>rfl
    |cons x l=>
     rw [hy] at hx
     simp at hx
     rw [zG9,hx]
     rfl
   have hpos:0<r.size:=by
    rw [←hlr]
    cases hy:bl r with
    |nil=>rw [hy] at hx; simp at hx
    |cons x l=>simp
   have h2:zN9 r=some zeroV:=by
    unfold zN9
    have:seq (zFg r) (bs [])=true:=by
     rw [zFY,zJs,zFg,wI,hc0]
     simp
    rw [this]
    rfl
   rw [h2]
   simp only [if_true]
   rw [s1,zDr _ (by rw [extract_size (by omega) (Nat.le_refl _)]; omega)]
   simp only [Option.bind_some]
   have hH:zHZ r=(if (PV (r.extract 1 r.size)).Code !=0 then none else some (PV (r.extract 1 r.size)).Version):=by
    unfold zHZ
    rw [if_pos (by omega),hc0]
   rw [hH]
   cases (PV (r.extract 1 r.size)).Code !=0
   ·simp only [Bool.false_eq_true,if_false,Option.bind_some,Fl.go,zGT,Bool.not_true]
    exact fin' zeroV (PV (r.extract 1 r.size)).Version
   ·rfl
 ·
  have hx:=hb
  rw [zEV,b2] at hx
  simp only [decide_eq_true_eq] at hx
  have hr2:2≤r.size:=by
   have:=congrArg List.length hx
   simp at this
   omega
  simp only [if_true]
  rw [s2]
  generalize hq:r.extract 2 r.size=q
  have hbq:bl q=(bl r).drop 2:=by
   rw [←hq,wI]
   rw [List.take_of_length_le (by simp; omega)]
  have hqs:q.size=r.size-2:=by rw [←hq,extract_size hr2 (Nat.le_refl _)]
  have hbr:bl r=62::61::bl q:=by
   rw [hbq]
   have:=List.take_append_drop 2 (bl r)
   rw [show (bl r).take 2=[62,61] from hx] at this
   exact this.symm
  have hcut:zEk r=zEk q+2:=by
   unfold zEk
   rw [hbr,zG9,zG9]
   simp [zIF]
  have hcq:=zMh q
  have hix:strings_IndexByte q 60=some (if zEk q=q.size then-1 else (zEk q:Int)):=by
   unfold strings_IndexByte
   have:=zHm 60 q.data.toList
   rw [zIw] at this
   have e60:(60:Int).toNat.toUInt8 =60:=rfl
   rw [e60,this]
   rfl
  rw [hix]
  simp only [Option.bind_some]
  have hv33:(if decide ((if zEk q=q.size then (-1:Int) else (zEk q:Int))<0) then (some (q.size:Int)) else some (if zEk q=q.size then (-1:Int) else (zEk q:Int)))=some (zEk q:Int):=by
   by_cases e:zEk q=q.size
   ·rw [if_pos e,if_pos (by decide),e]
   ·rw [if_neg e,if_neg (by simp)]
  rw [hv33]
  simp only [Option.bind_some]
  have e3:zFc q 0 (zEk q:Int)=some (q.extract 0 (zEk q)):=zEe (Nat.zero_le _) hcq
  have e4:zFc q (zEk q:Int) (q.size:Int)=some (q.extract (zEk q) q.size):=zEe hcq (Nat.le_refl _)
  rw [e3]
  simp only [Option.bind_some]
  rw [zDr _ (by rw [extract_size (Nat.zero_le _) hcq]; omega)]
  simp only [Option.bind_some]
  rw [e4]
  simp only [Option.bind_some]
  have hlt:zFg r=bs [62,61]++q.extract 0 (zEk q):=by
   refine zFV.1 ?_
   rw [zFg,wI,zBF,wI,hbr,hcut,b2]
   rfl
  have hls:(zFg r).size =zEk q+2:=by
   rw [hlt,jG,s2,extract_size (Nat.zero_le _) hcq]
   omega
  have hlow:zN9 r=(if (PV (q.extract 0 (zEk q))).Code !=0 then none else some (PV (q.extract 0 (zEk q))).Version):=by
   have hs0:seq (zFg r) (bs [])=false:=by
    cases hs:seq (zFg r) (bs []) with
    |false=>rfl
    |true=>
     have:=congrArg ByteArray.size (zFL.1 hs)
     have hz:(bs []).size =0:=rfl
     omega
   have ha:seq ((zFg r).extract 0 2) (bs [62,61])=true:=by
    rw [zFY,wI,hlt,zBF,b2]
    simp
   have hc:(zFg r).extract 2 (zFg r).size =q.extract 0 (zEk q):=by
    refine zFV.1 ?_
    rw [wI,hls,hlt,zBF,b2]
    simp only [List.cons_append,List.nil_append,List.drop_succ_cons,List.drop_zero,Nat.add_sub_cancel]
    rw [List.take_of_length_le]
    rw [zQ,extract_size (Nat.zero_le _) hcq]
    omega
   unfold zN9
   rw [hs0,ha,hc,if_neg (by simp),if_neg (by simp; omega)]
  have hhigh:zHZ r=(if zEk q<q.size then (if (PV (q.extract (zEk q+1) q.size)).Code !=0 then none else some (PV (q.extract (zEk q+1) q.size)).Version) else some zKf):=by
   have hc:r.extract (zEk r+1) r.size=q.extract (zEk q+1) q.size:=by
    refine zFV.1 ?_
    rw [wI,wI,hbr,hcut,hqs]
    rw [show zEk q+2+1=(zEk q+1)+1+1 by omega]
    simp only [List.drop_succ_cons]
    congr 1
    omega
   unfold zHZ
   rw [hc]
   by_cases e:zEk q<q.size
   ·rw [if_pos (by omega),if_pos e]
   ·rw [if_neg (by omega),if_neg e]
  rw [hlow,hhigh]
  cases hv:(PV (q.extract 0 (zEk q))).Code !=0
  case true=>
   simp only [if_true]
   split<;>rename_i hh1 hh2
   ·cases hh2
   ·rfl
  simp only [Bool.false_eq_true,if_false,Option.bind_some,Fl.go]
  generalize hw:q.extract (zEk q) q.size=w
  have hbw:bl w=(bl q).drop (zEk q):=by
   rw [←hw,wI,List.take_of_length_le]
   rw [List.length_drop,zQ]
   exact Nat.le_refl _
  have hws:w.size=q.size-zEk q:=by rw [←hw,extract_size hcq (Nat.le_refl _)]
  by_cases hlt2:zEk q<q.size
  ·have hhead:(bl q)[zEk q]? =some 60:=by
    have key:∀(l:List Int),tw zIF l<l.length→l[tw zIF l]? =some 60:=by
     intro l
     induction l with
     |nil=>intro h; simp [tw] at h
     |cons x l ih=>
      intro h
      rw [zG9] at h ⊢
      cases hx:zIF x
      ·unfold zIF at hx
       simp at hx
       rw [hx]
       simp
      ·rw [hx] at h
       simp only [if_true,List.length_cons] at h ⊢
       rw [List.getElem?_cons_succ]
       exact ih (by omega)
    exact key (bl q) (by rw [zQ]; exact hlt2)
   have hbeg:begins w (bs [60])=true:=by
    rw [zEV,b1,hbw]
    have:((bl q).drop (zEk q)).take 1=[60]:=by
     obtain ⟨hi,hv⟩:=List.getElem?_eq_some_iff.1 hhead
     rw [List.drop_eq_getElem_cons hi,hv]
     rfl
    simpa using this
   rw [hbeg,if_pos hlt2]
   simp only [if_true]
   have he:w.extract (bs [60]).size w.size=q.extract (zEk q+1) q.size:=by
    refine zFV.1 ?_
    rw [wI,wI,hbw,s1,List.drop_drop,hws]
    congr 1
   rw [he,zDr _ (by rw [extract_size (by omega) (Nat.le_refl _)]; omega)]
   simp only [Option.bind_some]
   cases hv2:(PV (q.extract (zEk q+1) q.size)).Code !=0
   ·simp only [Bool.false_eq_true,if_false,Option.bind_some,Fl.go,zGT,Bool.not_true]
    exact fin' (PV (q.extract 0 (zEk q))).Version (PV (q.extract (zEk q+1) q.size)).Version
   ·rfl
  ·have hbw0:bl w=[]:=by
    rw [hbw,List.drop_eq_nil_of_le]
    rw [zQ]
    omega
   have hbeg:begins w (bs [60])=false:=by
    rw [zEV,b1,hbw0]
    rfl
   have hsw:seq w (bs [])=true:=by
    rw [zFY,zJs,hbw0]
    rfl
   rw [hbeg,if_neg hlt2]
   simp only [Bool.false_eq_true,if_false,Option.bind_some,Fl.go]
   rw [hsw]
   exact fin' (PV (q.extract 0 (zEk q))).Version zKf
theorem zO5 {s:ByteArray} (h:(PTm s).Code =0):TF (PTm s).Term =0:=by
 unfold PTm at h ⊢
 split at h
 ·simp [zMd] at h
 ·rename_i h1
  rw [if_neg h1]
  split at h
  ·unfold zRg at h ⊢
   split at h
   ·rename_i h2
    simp only [zMd] at h
    rw [h] at h2
    simp at h2
   ·rename_i h2
    rw [if_neg h2]
    simpa using h2
  ·simp [zMd] at h
def zFx (out:List Term) (t:Term):Bool:=out.any (fun o=>seq o.Name t.Name)
def zCk:List Term→List Term→Bool
 |_,[]=>false
 |out,t::l=>zFx out t||zCk (out++[t]) l
def zG4:List ByteArray→Option (List Term)
 |[]=>some []
 |s::l=>if (PTm s).Code !=0 then none else (zG4 l).map ((PTm s).Term :: ·)
def zHn (s:ByteArray):Option (List Term):=match zG4 (zBi s) with
 |none=>none
 |some l=>if l.length≤8∧zCk [] l=false∧zHt l=s then some l else none
theorem zG1:∀{ps:List ByteArray} {l:List Term},zG4 ps=some l→(∀t∈l,TF t=0)∧l.length=ps.length
 |[],l,h=>by cases h; simp
 |p::ps,l,h=>by
  simp only [zG4] at h
  split at h
  ·cases h
  ·rename_i h1
   obtain ⟨l',e,rfl⟩:=Option.map_eq_some_iff.1 h
   obtain ⟨h2,h3⟩:=zG1 e
   refine ⟨fun t ht=>?_,by simp [h3]⟩
   rcases List.mem_cons.1 ht with rfl|ht
   ·exact zO5 (by simpa using h1)
   ·exact h2 t ht
def goR:List Term→List ByteArray→Fl (List Term×Bool) (List Term)
 |out,[]=>.nxt out
 |out,s::ps=>if (PTm s).Code !=0 then .ret (out,false) else if zFx out (PTm s).Term then .ret (out,false) else goR (out++[(PTm s).Term]) ps
theorem zPH:∀(ps:List ByteArray) (out:List Term),match zG4 ps with
  |none=>∃o,goR out ps= .ret (o,false)
  |some l=>(zCk out l=true→∃o,goR out ps= .ret (o,false))∧(zCk out l=false→goR out ps= .nxt (out++l))
 |[],out=>by simp [zG4,zCk,goR]
 |s::ps,out=>by
  have ih:=zPH ps (out++[(PTm s).Term])
  simp only [zG4,goR]
  cases h:(PTm s).Code !=0
  ·simp only [Bool.false_eq_true,if_false]
   cases hr:zG4 ps with
   |none=>
    rw [hr] at ih
    simp only [Option.map_none]
    cases zFx out (PTm s).Term
    ·exact ih
    ·exact ⟨out,rfl⟩
   |some l=>
    rw [hr] at ih
    simp only [Option.map_some,zCk]
    cases zFx out (PTm s).Term
    ·simp only [Bool.false_or,Bool.false_eq_true,if_false]
     refine ⟨ih.1,fun h2=>?_⟩
     rw [ih.2 h2,List.append_assoc]
     rfl
    ·exact ⟨fun _=>⟨out,rfl⟩,fun h2=>by simp at h2⟩
  ·exact ⟨out,rfl⟩
theorem zML {R:Type} (out:List Term) (n:ByteArray) (r:R) (h:out.length≤1048576) {b:Int→Option (Lp Int (Fl R Unit))}
  (hs:∀(i:Nat) (hi:i<out.length),b (i:Int)=some (if seq out[i].Name n then .done (.ret r) else .go ((i+1:Nat):Int))) (he:b (out.length:Int)=some (.done (.nxt ()))):
  loop b 0=some (if out.any (fun o=>seq o.Name n) then .ret r else .nxt ()):=by
 have key:=wJ out (fun _ o=>if seq o.Name n then some r else none) (b:=b) (fun i hi=>by
  rw [hs i hi]
  cases seq out[i].Name n<;>rfl) he
 rw [key,zGj]
 cases out.any (fun o=>seq o.Name n)<;>rfl
theorem zHu (s:ByteArray) (ps:List ByteArray) (hps:∀p∈ps,p.size≤1048577) (hl:ps.length≤100000):∀(k i:Nat) (out:List Term),i+k=ps.length→out.length≤i→loop (zBD s ps) (out,(i:Int))=some (goR out (ps.drop i))
 |0,i,out,hk,ho=>by
  have e:i=ps.length:=by omega
  subst e
  rw [vE]
  unfold zBD
  rw [if_neg (by simp),List.drop_length]
  rfl
 |k+1,i,out,hk,ho=>by
  have hi:i<ps.length:=by omega
  have ih:=zHu s ps hps hl k (i+1) (out++[(PTm ps[i]).Term]) (by omega) (by simp; omega)
  rw [vE,List.drop_eq_getElem_cons hi]
  conv=>lhs; unfold zBD
  rw [if_pos (by simp; omega),zO hi]
  simp only [Option.bind_some,zIC _ (hps _ (List.getElem_mem hi)),goR]
  cases h:(PTm ps[i]).Code !=0
  ·simp only [Bool.false_eq_true,if_false]
   have key:=zML out (PTm ps[i]).Term.Name (out,false) (by omega) (b:=zBR s ps (out,(i:Int)) (PTm ps[i])) (by
    intro j hj
    unfold zBR
    rw [if_pos (by simp; omega)]
    simp only
    rw [zO hj]
    simp only [Option.bind_some]
    rw [zN (by omega)]
    cases seq out[j].Name (PTm ps[i]).Term.Name <;>rfl) (by
    unfold zBR
    rw [if_neg (by simp)])
   unfold zCE
   rw [key]
   have:out.any (fun o=>seq o.Name (PTm ps[i]).Term.Name)=zFx out (PTm ps[i]).Term :=rfl
   rw [this]
   cases zFx out (PTm ps[i]).Term
   ·simp only [Bool.false_eq_true,if_false,Option.bind_some,Fl.go]
    rw [zCu (by simp; omega) (by simp; omega),zN (by omega)]
    simp only [Option.bind_some,Lp.elim]
    exact ih
   ·rfl
  ·rfl
theorem zKy (s:ByteArray) (h:s.size≤90000):∃o,zCG s=some (match zHn s with|some l=>(l,true)|none=>(o,false)):=by
 have hlen:=zGc s
 have hsz:∀p∈zBi s,p.size≤1048577:=fun p hp=>by have:=zFA s p hp; omega
 have key:=zHu s (zBi s) hsz (by omega) (zBi s).length 0 [] (by omega) (by simp)
 rw [List.drop_zero,show ((0:Nat):Int)=0 from rfl] at key
 unfold zCG
 rw [zHl s (by omega)]
 simp only [Option.bind_some]
 unfold zC0
 rw [key]
 have hg:=zPH (zBi s) []
 unfold zHn
 cases hr:zG4 (zBi s) with
 |none=>
  rw [hr] at hg
  obtain ⟨o,e⟩:=hg
  rw [e]
  exact ⟨o,rfl⟩
 |some l=>
  rw [hr] at hg
  simp only at hg ⊢
  cases ha:zCk [] l
  ·have hg:=hg.2 ha
   simp only [List.nil_append] at hg
   rw [hg]
   simp only [Option.bind_some,Fl.go,true_and]
   obtain ⟨h1,h2⟩:=zG1 hr
   by_cases h8:l.length≤8
   ·rw [if_pos (by simp; omega),zLV l (by omega) h1]
    simp only [Option.bind_some,h8,true_and]
    by_cases he:zHt l=s
    ·rw [if_pos he,he,zGT]
     exact ⟨[],rfl⟩
    ·rw [if_neg he]
     have:seq (zHt l) s=false:=by
      rw [seq_eq]; simpa using he
     rw [this]
     exact ⟨l,rfl⟩
   ·rw [if_neg (by simp; omega),if_neg (fun e=>h8 e.1)]
    exact ⟨l,rfl⟩
  ·obtain ⟨o,e⟩:=hg.1 ha
   rw [e,if_neg (by simp)]
   exact ⟨o,rfl⟩
theorem zJd (x2:List Int×Bool) (ps:List ByteArray) (hps:∀p∈ps,p.size≤1048577) (hl:ps.length≤100000):∀(k i:Nat) (out:List Term),i+k=ps.length→out.length≤i→
  loop (zAj x2 ps) (out,(i:Int))=some (match zG4 (ps.drop i) with|none=>.ret ([],5)|some l=>.nxt (out++l))
 |0,i,out,hk,ho=>by
  have e:i=ps.length:=by omega
  subst e
  rw [vE]
  unfold zAj
  rw [if_neg (by simp),List.drop_length]
  simp [zG4,Lp.elim]
 |k+1,i,out,hk,ho=>by
  have hi:i<ps.length:=by omega
  have ih:=zJd x2 ps hps hl k (i+1) (out++[(PTm ps[i]).Term]) (by omega) (by simp; omega)
  rw [vE,List.drop_eq_getElem_cons hi]
  conv=>lhs; unfold zAj
  rw [if_pos (by simp; omega),zO hi]
  simp only [Option.bind_some,zI5 _ (hps _ (List.getElem_mem hi)),zG4]
  cases h:(PTm ps[i]).Code !=0
  ·simp only [Bool.false_eq_true,if_false]
   rw [zCu (by simp; omega) (by simp; omega),zN (by omega)]
   simp only [Option.bind_some,Lp.elim]
   refine Eq.trans ih ?_
   cases zG4 (ps.drop (i+1)) with
   |none=>rfl
   |some l=>simp
  ·rfl
theorem zGV (l:List Term) (h:l.length≤100000):∀(k i:Nat),i+k=l.length→loop (kK l) (i:Int)=some (if zCk (l.take i) (l.drop i) then .ret true else .nxt ())
 |0,i,hk=>by
  have e:i=l.length:=by omega
  subst e
  rw [vE]
  unfold kK
  rw [if_neg (by simp),List.drop_length]
  rfl
 |k+1,i,hk=>by
  have hi:i<l.length:=by omega
  have ih:=zGV l h k (i+1) (by omega)
  have hb:kK l (i:Int)=some (if zFx (l.take i) l[i] then .done (.ret true) else .go ((i+1:Nat):Int)):=by
   unfold kK
   rw [if_pos (by simp; omega),zO hi]
   simp only [Option.bind_some]
   have e0:zGB l ((0:Nat):Int) (i:Int)=some ((l.drop 0).take (i-0)):=zKd (Nat.zero_le _) (by omega)
   rw [show ((0:Nat):Int)=0 from rfl,List.drop_zero,Nat.sub_zero] at e0
   rw [e0]
   simp only [Option.bind_some]
   have ec:zU (l.take i) l[i]=some (zFx (l.take i) l[i]):=by
    have key:=wJ (l.take i) (fun j o=>if seq o.Name l[i].Name then some (j:Int) else none) (b:=yX (l.take i) l[i]) (by
     intro j hj
     have hj':j<i:=by simp at hj; omega
     unfold yX zBm
     rw [if_pos (show decide ((j:Int)< ((l.take i).length :Int))=true by rw [decide_eq_true_eq]; omega),zO hj]
     simp only [Option.bind_some]
     rw [zN (by omega)]
     cases seq (l.take i)[j].Name l[i].Name <;>rfl) (by
     unfold yX
     rw [if_neg (by simp)])
    unfold zU yI yY
    rw [key,zDC]
    unfold zFx
    rw [←zEU (zDm (fun o=>seq o.Name l[i].Name) (l.take i) 0)]
    cases wY (fun j o=>if seq o.Name l[i].Name then some (j:Int) else none) 0 (l.take i)<;>rfl
   rw [ec]
   simp only [Option.bind_some]
   rw [zN (by omega)]
   cases zFx (l.take i) l[i]<;>rfl
  rw [vE,hb,List.drop_eq_getElem_cons hi]
  have ea:zCk (l.take i) (l[i]::l.drop (i+1))=(zFx (l.take i) l[i]||zCk (l.take i++[l[i]]) (l.drop (i+1))):=rfl
  rw [ea]
  simp only [Option.bind_some]
  rw [List.take_succ_eq_append_getElem hi] at ih
  by_cases ht:zFx (l.take i) l[i]=true
  ·rw [if_pos ht,ht]
   rfl
  ·have ht':zFx (l.take i) l[i]=false:=by simpa using ht
   rw [if_neg ht,ht',Bool.false_or]
   exact ih
theorem zJP (l:List Term) (h:l.length≤100000):zA4 l=some (zCk [] l):=by
 have:=zGV l h l.length 0 (by omega)
 unfold zA4 zCa
 rw [show ((0:Nat):Int)=0 from rfl] at this
 rw [this]
 simp only [List.take_zero,List.drop_zero]
 cases zCk [] l<;>rfl
theorem zQw:∀{l:List Term},(∀t∈l,TF t=0)→tsF l=0:=by
 intro l h
 unfold tsF
 have:wY (fun _ t=>if TF t !=0 then some (TF t) else none) 0 l=none:=by
  rw [zEM]
  intro j hj
  rw [h _ (List.getElem_mem hj)]
  rfl
 rw [this]
 rfl
def zF7 (d:zF):Option (List Term):=match fileOf d (bs [114,111,111,116,115]) with
 |none=>some []
 |some f=>zHn (b2s f.Data)
theorem zN5:zHn (b2s [])=some []:=by
 have hl:zBi (b2s [])=[]:=by
  unfold zBi
  have hp:uK 10 (b2s [])=[b2s []]:=by
   unfold uK
   rw [show bl (b2s [])=[] from zGN (by simp)]
   rfl
  rw [hp,if_pos (by rfl)]
  rfl
 unfold zHn
 rw [hl]
 simp [zG4,zCk,zHt,zNy]
 rfl
theorem zNr {d:zF} (hg:d.good) (hb:Byt d):kW d=some (match zF7 d with|some l=>(l,0)|none=>([],5)):=by
 unfold kW
 have key:∀(x2:List Int×Bool),(b2s x2.1).size ≤90000→((jZ (b2s x2.1)).bind fun x4=>(jA x2 x4 (([]:List Term),0)).bind (Fl.go some fun v23=>(vU v23).bind fun x24=>
   (if !(seq x24 (b2s x2.1)) then (some true) else (if decide ((v23.length:Int)>8) then (some true) else ((zA4 v23).bind fun x28=>some x28))).bind fun v30=>if v30 then (some (([]:List Term),5)) else (some (v23,0))))=
   some (match zHn (b2s x2.1) with|some l=>(l,(0:Int))|none=>([],5)):=by
  intro x2 hx
  generalize hs:b2s x2.1=s
  rw [hs] at hx
  have hlen:=zGc s
  have hsz:∀p∈zBi s,p.size≤1048577:=fun p hp=>by have:=zFA s p hp; omega
  have k1:=zJd x2 (zBi s) hsz (by omega) (zBi s).length 0 [] (by omega) (by simp)
  rw [List.drop_zero,show ((0:Nat):Int)=0 from rfl] at k1
  rw [zHw s (by omega)]
  simp only [Option.bind_some]
  unfold jA zHn
  rw [k1]
  cases hr:zG4 (zBi s) with
  |none=>rfl
  |some l=>
   obtain ⟨h1,h2⟩:=zG1 hr
   simp only [List.nil_append,Option.bind_some,Fl.go]
   rw [zIP l (by omega),zQw h1]
   simp only [Option.bind_some,bne_self_eq_false,Bool.false_eq_true,if_false]
   by_cases he:zHt l=s
   ·rw [he,zGT]
    simp only [Bool.not_true,Bool.false_eq_true,if_false]
    by_cases h8:l.length≤8
    ·rw [if_neg (by simp; omega),zJP l (by omega)]
     simp only [Option.bind_some,h8,true_and,and_true]
     cases zCk [] l<;>rfl
    ·rw [if_pos (by simp; omega),if_neg (fun e=>h8 e.1)]
     rfl
   ·have:seq (zHt l) s=false:=by rw [seq_eq]; simpa using he
    rw [this]
    simp only [Bool.not_false,if_true,Option.bind_some]
    rw [if_neg (fun e=>he e.2.2)]
 have hsize:∀l:List Int,(∀c∈l,0≤c∧c≤255)→(b2s l).size =l.length:=fun l h=>by rw [←zQ,zGN h]
 unfold zF7
 rcases zFU d (bs [114,111,111,116,115]) hg with ⟨k,hk,_,e2,e3⟩|⟨_,e2,e3⟩
 ·rw [e2,e3]
  have hm:=List.getElem_mem hk
  have hd:=hg.data _ hm
  simp only [Option.bind_some]
  exact key (d.Files[k].Data,true) (by show (b2s d.Files[k].Data).size ≤90000; rw [hsize _ (hb _ hm)]; omega)
 ·rw [e2,e3]
  simp only [Option.bind_some]
  have:=key ([],false) (by show (b2s []).size ≤90000; rw [hsize _ (by simp)]; simp)
  rw [zN5] at this
  exact this
theorem zOj {d:zF} (hg:d.good) (hb:Byt d):∃o,zDU d=some (match zF7 d with|some l=>(l,true)|none=>(o,false)):=by
 unfold zDU zF7
 rcases zFU d (bs [114,111,111,116,115]) hg with ⟨k,hk,e1,_,e3⟩|⟨e1,_,e3⟩
 ·rw [e1,e3]
  have hm:=List.getElem_mem hk
  have hd:=hg.data _ hm
  obtain ⟨o,e⟩:=zKy (b2s d.Files[k].Data) (by rw [←zQ,zGN (hb _ hm)]; omega)
  simp only [Option.bind_some]
  rw [if_neg (by simp),zO hk]
  simp only [Option.bind_some]
  rw [e]
  refine ⟨o,?_⟩
  cases zHn (b2s d.Files[k].Data)<;>rfl
 ·rw [e1,e3]
  exact ⟨[],rfl⟩
theorem zJo:∀{l1 l2:List Int},l1.Pairwise (· < ·)→l2.Pairwise (· < ·)→(∀x,x∈l1↔x∈l2)→l1=l2
 |[],[],_,_,_=>rfl
 |[],y::l2,_,_,h=>by have:=(h y).2 (by simp); simp at this
 |x::l1,[],_,_,h=>by have:=(h x).1 (by simp); simp at this
 |x::l1,y::l2,h1,h2,h=>by
  rw [List.pairwise_cons] at h1 h2
  have hxy:x=y:=by
   have hx:=(h x).1 (by simp)
   have hy:=(h y).2 (by simp)
   rcases List.mem_cons.1 hx with e|hx
   ·exact e
   ·rcases List.mem_cons.1 hy with e|hy
    ·exact e.symm
    ·have:=h1.1 y hy
     have:=h2.1 x hx
     omega
  subst hxy
  congr 1
  refine zJo h1.2 h2.2 fun z=>?_
  constructor
  ·intro hz
   rcases List.mem_cons.1 ((h z).1 (List.mem_cons_of_mem _ hz)) with e|hz'
   ·have:=h1.1 z hz; omega
   ·exact hz'
  ·intro hz
   rcases List.mem_cons.1 ((h z).2 (List.mem_cons_of_mem _ hz)) with e|hz'
   ·have:=h2.1 z hz; omega
   ·exact hz'
theorem zFD {l:List Int} (h:l.Pairwise (· < ·)) {i j:Nat} (hi:i<l.length) (hj:j<l.length) (hij:i<j):l[i]<l[j]:=List.pairwise_iff_getElem.1 h i j hi hj hij
theorem zOX (l:List Int) (v:Int) (hs:l.Pairwise (· < ·)) (hv:v∉l) (hl:l.length≤1048576):
  ∃r,zEl l v=some r∧r.Pairwise (· < ·)∧(∀x,x∈r↔x∈l∨x=v)∧r.length=l.length+1:=by
 obtain ⟨⟨acc,inn⟩,e,h1,h2,h3,h4⟩:=zBb (b:=zD3 l v)
  (fun i s=>s.2.2=(i:Int)∧s.1.Pairwise (· < ·)∧(∀x,x∈s.1↔x∈l.take i∨(s.2.1=true∧x=v))∧s.1.length=i+(if s.2.1 then 1 else 0)∧(s.2.1=false→∀x∈l.take i,x<v)∧(s.2.1=true→∀x∈l.drop i,v<x)) l.length
  (fun t=>t.1.Pairwise (· < ·)∧(∀x,x∈t.1↔x∈l∨(t.2=true∧x=v))∧t.1.length=l.length+(if t.2 then 1 else 0)∧(t.2=false→∀x∈l,x<v)) (by
  rintro i ⟨acc,inn,j⟩ hi ⟨hj,hp,hm,hlen,hf,ht⟩
  simp only at hj hp hm hlen hf ht
  subst hj
  have hlt:∀x∈l.take i,x<l[i]:=by
   intro x hx
   obtain ⟨k,hk,rfl⟩:=List.mem_iff_getElem.1 hx
   rw [List.getElem_take]
   have:k<i:=by simp at hk; omega
   exact zFD hs (by omega) hi this
  have htk:l.take (i+1)=l.take i++[l[i]]:=List.take_succ_eq_append_getElem hi
  have hdr:l.drop i=l[i]::l.drop (i+1):=List.drop_eq_getElem_cons hi
  have hne:l[i]≠v:=fun e=>hv (e▸List.getElem_mem hi)
  have hal:acc.length≤1048577:=by rw [hlen]; split<;>omega
  unfold zD3
  rw [if_pos (by simp; omega),zO hi]
  simp only [Option.bind_some]
  rw [zN (by omega)]
  refine .inl ?_
  cases inn
  ·by_cases hgt:l[i]>v
   ·rw [if_pos (by simpa using hgt)]
    simp only [Bool.not_false,Option.bind_some,if_true]
    rw [zCu (by simp; omega) (by simp; omega)]
    simp only [Option.bind_some]
    rw [zCu (by simp; omega) (by simp; omega)]
    refine ⟨_,rfl,rfl,?_,?_,?_,by simp,?_⟩
    ·simp only
     have hav:∀x∈acc,x<v:=fun x hx=>hf rfl x (by have:=(hm x).1 hx; simpa using this)
     rw [List.pairwise_append,List.pairwise_append]
     refine ⟨⟨hp,by simp,fun x hx y hy=>by simp at hy; rw [hy]; exact hav x hx⟩,by simp,fun x hx y hy=>?_⟩
     simp at hy
     rw [hy]
     rcases List.mem_append.1 hx with hx|hx
     ·have:=hav x hx; omega
     ·simp at hx; omega
    ·intro x
     have:=hm x
     simp only [List.mem_append,List.mem_singleton,htk]
     simp at this
     rw [this]
     simp
     constructor<;>(intro h; rcases h with (h|h)|h<;>simp [h])
    ·simp; simp at hlen; omega
    ·intro _ x hx
     have:l[i]<x:=by
      obtain ⟨k,hk,rfl⟩:=List.mem_iff_getElem.1 hx
      rw [List.getElem_drop]
      simp at hk
      exact zFD hs hi (by omega) (by omega)
     omega
   ·rw [if_neg (by simpa using hgt)]
    simp only [Option.bind_some,Bool.false_eq_true,if_false]
    rw [zCu (by simp; omega) (by simp; omega)]
    refine ⟨_,rfl,rfl,?_,?_,?_,?_,by simp⟩
    ·simp only
     rw [List.pairwise_append]
     refine ⟨hp,by simp,fun x hx y hy=>?_⟩
     simp at hy
     rw [hy]
     have:=(hm x).1 hx
     exact hlt x (by simpa using this)
    ·intro x
     have:=hm x
     simp only [List.mem_append,List.mem_singleton,htk]
     simp at this
     rw [this]
     simp
    ·simp; simp at hlen; omega
    ·intro _ x hx
     rw [htk] at hx
     rcases List.mem_append.1 hx with hx|hx
     ·exact hf rfl x hx
     ·simp at hx; omega
  ·have hlv:v<l[i]:=ht rfl _ (by rw [hdr]; exact List.mem_cons_self)
   rw [if_pos (by simpa using hlv)]
   simp only [Bool.not_true,Option.bind_some,Bool.false_eq_true,if_false]
   rw [zCu (by simp; omega) (by simp; omega)]
   refine ⟨_,rfl,rfl,?_,?_,?_,by simp,?_⟩
   ·simp only
    rw [List.pairwise_append]
    refine ⟨hp,by simp,fun x hx y hy=>?_⟩
    simp at hy
    rw [hy]
    rcases (hm x).1 hx with hx|⟨_,hx⟩
    ·exact hlt x hx
    ·omega
   ·intro x
    have:=hm x
    simp only [List.mem_append,List.mem_singleton,htk]
    rw [this]
    simp
    constructor<;>(intro h; rcases h with (h|h)|h<;>simp [h])
   ·simp; simp at hlen; omega
   ·intro _ x hx
    exact ht rfl x (by rw [hdr]; exact List.mem_cons_of_mem _ hx)) (by
  rintro ⟨acc,inn,j⟩ ⟨hj,hp,hm,hlen,hf,ht⟩
  simp only at hj hp hm hlen hf ht
  subst hj
  unfold zD3
  rw [if_neg (by simp)]
  rw [List.take_length] at hm hf
  exact ⟨_,rfl,hp,hm,hlen,hf⟩) l.length 0 (([]:List Int),false,0) (by omega) ⟨rfl,by simp,by simp,by simp,by simp,by simp⟩
 simp only at h1 h2 h3 h4
 unfold zEl zEr
 rw [e]
 simp only [Option.bind_some]
 cases inn
 ·simp only [Bool.not_false,if_true]
  simp at h3
  rw [zCu (by simp; omega) (by simp; omega)]
  refine ⟨_,rfl,?_,?_,by simp; omega⟩
  ·rw [List.pairwise_append]
   refine ⟨h1,by simp,fun x hx y hy=>?_⟩
   simp at hy
   rw [hy]
   have:=(h2 x).1 hx
   exact h4 rfl x (by simpa using this)
  ·intro x
   have:=h2 x
   simp at this
   simp [this]
 ·refine ⟨_,rfl,h1,?_,by simpa using h3⟩
  intro x
  have:=h2 x
  simpa using this
def zAu (s:ByteArray):List ByteArray:=(uK 32 s).filter (fun w=> !(seq w (bs [])))
theorem zMl (c:Int) (s:ByteArray):∀p∈uK c s,p.size≤s.size:=by
 intro p hp
 have hb:bl p∈zGn c (bl s):=by
  rw [←zIx]
  exact List.mem_map_of_mem hp
 have:=zIj c (bl s) _ hb
 rw [zQ,zQ] at this
 exact this
theorem zHP (s:ByteArray):∀p∈zAu s,p.size≤s.size:=fun p hp=>zMl 32 s p (List.mem_filter.1 hp).1
theorem zK0 (s:ByteArray) (h:s.size≤1048577):zCQ s=some (zAu s):=by
 have hl:=zFv 32 s
 have key:=zCc (uK 32 s) (fun _ l w=>if !(seq w (bs [])) then l++[w] else l) (fun i l=>l.length≤i) (b:=zBJ (uK 32 s)) (by
  intro i l hi hI
  unfold zBJ
  rw [if_pos (by simp; omega)]
  simp only
  rw [zO hi]
  simp only [Option.bind_some]
  rw [zCu (by simp; omega) (by simp; omega),zN (by omega)]
  cases seq (uK 32 s)[i] (bs [])
  ·exact ⟨rfl,by simp; omega⟩
  ·exact ⟨rfl,by simp; omega⟩) (by
  intro l
  unfold zBJ
  rw [if_neg (by simp)]) (uK 32 s).length 0 [] (by omega) (by simp)
 unfold zCQ
 rw [zFT s 32 h]
 simp only [Option.bind_some]
 unfold zCV
 rw [show ((0:Nat):Int)=0 from rfl] at key
 rw [key.1,List.drop_zero,zFR (fun w=> !(seq w (bs [])))]
 rfl
theorem zKR (s:ByteArray) (h:s.size≤1048575):zCC s=some (zAu s):=by
 have hl:=zFv 32 s
 have e:=zHg s 32 (by omega)
 rw [show (((32:UInt8).toNat :Nat):Int)=32 from rfl] at e
 have key:=zOi (fun w:ByteArray=>seq w (bs [])) (uK 32 s) ByteArray.empty (by omega) (b1:=xE (uK 32 s)) (b2:=yZ) (by
  intro i hi
  unfold xE tH
  rw [if_pos (by simp; omega),zO hi]
  simp only [Option.bind_some]
  rw [zN (by omega)]
  split<;>rfl) (by
  unfold xE
  rw [if_neg (by simp)]) (by
  intro xs i j hj hij hl2 hm
  unfold yZ tH
  simp only
  rw [if_pos (by simp; omega),zO hj]
  simp only [Option.bind_some]
  rw [zO (show i<xs.length by omega),zN (show j<_ by omega),zN (show i<_ by omega)]
  cases seq xs[j] (bs [])<;>simp) (by
  intro xs i hl2
  unfold yZ
  rw [if_neg (by simp)])
 unfold zCC
 rw [show bs [32]=⟨#[32]⟩ from rfl,e]
 simp only [Option.bind_some]
 have e2:yO (uK 32 s)=some (zAu s):=key
 rw [e2]
 rfl
def jX (c:List Pack) (w:List ByteArray):Int:=if w.length≠2 then-1 else if (PV (w.getD 1 (bs []))).Code !=0 then-1 else zH5 c (w.getD 0 (bs [])) (PV (w.getD 1 (bs []))).Version
theorem zH4 (c:List Pack) (w:List ByteArray):jX c w= -1∨(0≤jX c w∧jX c w<c.length):=by
 unfold jX
 split
 ·exact .inl rfl
 ·split
  ·exact .inl rfl
  ·exact zLu _ _ _
theorem zKa (c:List Pack) (w:List ByteArray) (hc:c.length≤1048576) (hw:∀p∈w,p.size≤1048577):zB6 c w=some (jX c w):=by
 unfold zB6 jX
 match w,hw with
 |[],_=>rfl
 |[_],_=>rfl
 |[x,y],hw=>
  have e0:idx [x,y] 0=some x:=rfl
  have e1:idx [x,y] 1=some y:=rfl
  rw [if_neg (by simp),e1,e0]
  simp only [Option.bind_some,zDr y (hw y (by simp))]
  rw [if_neg (show ¬([x,y].length ≠2) by simp)]
  show (if (PV y).Code !=0 then some (-1) else _)=some (if (PV y).Code !=0 then-1 else zH5 c x (PV y).Version)
  rw [zIX c x _ hc]
  cases (PV y).Code !=0<;>rfl
 |_::_::_::r,_=>
  rw [if_pos (by simp; omega),if_pos (by simp)]
theorem zLz (c:List Pack) (w:List ByteArray) (hc:c.length≤1048576) (hw:∀p∈w,p.size≤1048577):(if (w.length:Int)==2 then ((idx w 1).bind fun x36=>(xU x36).bind fun x38=>if x38.Code==0 then ((idx w 0).bind fun x41=>(kY c x41 x38.Version).bind fun x43=>some x43) else (some (-1))) else (some (-1)))=some (jX c w):=by
 unfold jX
 match w,hw with
 |[],_=>rfl
 |[_],_=>rfl
 |[x,y],hw=>
  have e0:idx [x,y] 0=some x:=rfl
  have e1:idx [x,y] 1=some y:=rfl
  rw [if_pos (by simp),e1,e0]
  simp only [Option.bind_some,zEB y (hw y (by simp))]
  rw [if_neg (show ¬([x,y].length ≠2) by simp)]
  show (if (PV y).Code ==0 then _ else some (-1))=some (if (PV y).Code !=0 then-1 else zH5 c x (PV y).Version)
  rw [zIQ c x _ hc,bne]
  cases (PV y).Code ==0<;>rfl
 |_::_::_::r,_=>
  rw [if_neg (by simp; omega),if_pos (by simp)]
def zFu (c:List Pack):Nat→List Int→List ByteArray→Fl zI (List Int)
 |_,out,[]=>.nxt out
 |i,out,s::ps=>if jX c (zAu s)<0∨jX c (zAu s)∈out then .ret {Code:=5,At:=i,Set:=[]} else zFu c (i+1) (out++[jX c (zAu s)]) ps
def zSg (t:Fl zI (List Int)):zI:=match t with
 | .ret r=>r
 | .nxt l=> {Code:=0,At:=0,Set:=l.mergeSort (fun x y=>decide (x≤y))}
def PS (c:List Pack) (s:ByteArray):zI:=if s.size>4000 then {Code:=2,At:=0,Set:=[]} else zSg (zFu c 0 [] (zBi s))
theorem zFB (c:List Pack):∀(ps:List ByteArray) (i:Nat) (out:List Int),out.Nodup→(∀k∈out,0≤k∧k<c.length)→match zFu c i out ps with
  | .ret r=>r.Code=5∧r.Set=[]
  | .nxt l=>l.Nodup∧(∀k∈l,0≤k∧k<c.length)
 |[],_,out,h1,h2=>⟨h1,h2⟩
 |s::ps,i,out,h1,h2=>by
  simp only [zFu]
  split
  ·rename_i h
   split at h
   ·cases h; exact ⟨rfl,rfl⟩
   ·rename_i hn
    rw [not_or] at hn
    have:=zFB c ps (i+1) (out++[jX c (zAu s)]) (by
     rw [List.nodup_append]
     refine ⟨h1,by simp,fun a ha b hb=>?_⟩
     simp only [List.mem_singleton] at hb
     subst hb
     intro e
     subst e
     exact hn.2 ha) (by
     intro k hk
     rcases List.mem_append.1 hk with hk|hk
     ·exact h2 k hk
     ·simp only [List.mem_singleton] at hk
      subst hk
      rcases zH4 c (zAu s) with h|h
      ·omega
      ·exact h)
    rw [h] at this
    exact this
  ·rename_i l h
   split at h
   ·cases h
   ·rename_i hn
    rw [not_or] at hn
    have:=zFB c ps (i+1) (out++[jX c (zAu s)]) (by
     rw [List.nodup_append]
     refine ⟨h1,by simp,fun a ha b hb=>?_⟩
     simp only [List.mem_singleton] at hb
     subst hb
     intro e
     subst e
     exact hn.2 ha) (by
     intro k hk
     rcases List.mem_append.1 hk with hk|hk
     ·exact h2 k hk
     ·simp only [List.mem_singleton] at hk
      subst hk
      rcases zH4 c (zAu s) with h|h
      ·omega
      ·exact h)
    rw [h] at this
    exact this
theorem zNM {l:List Int} (h:l.Nodup):(l.mergeSort (fun x y=>decide (x≤y))).Pairwise (· < ·)∧∀x,x∈l.mergeSort (fun x y=>decide (x≤y))↔x∈l:=by
 have hp:(l.mergeSort (fun x y=>decide (x≤y))).Perm l:=List.mergeSort_perm _ _
 have hs:(l.mergeSort (fun x y=>decide (x≤y))).Pairwise (fun x y=>(decide (x≤y))=true):=List.pairwise_mergeSort (fun a b c h1 h2=>by simp at h1 h2 ⊢; omega) (fun a b=>by simp; omega) l
 have hn:(l.mergeSort (fun x y=>decide (x≤y))).Nodup :=hp.nodup_iff.2 h
 refine ⟨?_,fun x=>hp.mem_iff⟩
 rw [List.pairwise_iff_getElem] at hs ⊢
 intro i j hi hj hij
 have h1:=hs i j hi hj hij
 have h2:=(List.pairwise_iff_getElem.1 hn) i j hi hj hij
 simp only [decide_eq_true_eq] at h1
 omega
theorem zMt (c:List Pack) (s:ByteArray):(((PS c s).Code =2∨(PS c s).Code =5)∧(PS c s).Set =[])∨(PS c s).Code =0∧(PS c s).At =0∧(PS c s).Set.Pairwise (· < ·)∧∀k∈(PS c s).Set,0≤k∧k<c.length:=by
 have key:∀r,r=PS c s→((r.Code=2∨r.Code=5)∧r.Set=[])∨r.Code=0∧r.At=0∧r.Set.Pairwise (· < ·)∧∀k∈r.Set,0≤k∧k<c.length:=by
  intro r hr
  unfold PS at hr
  split at hr
  ·subst hr
   exact .inl ⟨.inl rfl,rfl⟩
  ·have:=zFB c (zBi s) 0 [] (by simp) (by simp)
   cases h:zFu c 0 [] (zBi s) with
   |ret q=>
    rw [h] at this hr
    simp only [zSg] at hr
    subst hr
    exact .inl ⟨.inr this.1,this.2⟩
   |nxt l=>
    rw [h] at this hr
    simp only [zSg] at hr
    subst hr
    obtain ⟨h1,h2⟩:=zNM this.1
    exact .inr ⟨rfl,rfl,h1,fun k hk=>this.2 k ((h2 k).1 hk)⟩
 exact key _ rfl
section
variable {c:List Pack} (hc:c.length≤1048576)
include hc
theorem zH0 (ps:List ByteArray) (hps:∀p∈ps,p.size≤100000) (hl:ps.length≤100000):∀(k i:Nat) (S out:List Int),i+k=ps.length→out.length≤i→S.length≤i→S.Pairwise (· < ·)→(∀x,x∈S↔x∈out)→
  ∃t,loop (zAx c ps) (S,(i:Int))=some t∧match zFu c i out (ps.drop i) with
   | .ret r=>t= .ret r
   | .nxt l=>∃S',t= .nxt S'∧S'.Pairwise (· < ·)∧∀x,x∈S'↔x∈l
 |0,i,S,out,hk,ho,hS,h1,h2=>by
  have e:i=ps.length:=by omega
  subst e
  rw [vE]
  unfold zAx
  rw [if_neg (by simp),List.drop_length]
  exact ⟨_,rfl,S,rfl,h1,h2⟩
 |k+1,i,S,out,hk,ho,hS,h1,h2=>by
  have hi:i<ps.length:=by omega
  have hm:=List.getElem_mem hi
  have hw:=zHP ps[i]
  have hps1:=hps _ hm
  have hb:zAx c ps (S,(i:Int))=if jX c (zAu ps[i])<0∨jX c (zAu ps[i])∈S then some (.done (.ret {Code:=5,At:=i,Set:=[]})) else (zEl S (jX c (zAu ps[i]))).bind fun x51=>some (.go (x51,((i+1:Nat):Int))):=by
   unfold zAx
   rw [if_pos (by simp; omega),zO hi]
   simp only [Option.bind_some,zK0 _ (show ps[i].size ≤1048577 by omega)]
   rw [zLz c _ hc (fun p hp=>by have:=hw p hp; omega)]
   simp only [Option.bind_some]
   by_cases hneg:jX c (zAu ps[i])<0
   ·rw [if_pos (by simpa using hneg),if_pos (.inl hneg)]
    rfl
   ·rw [if_neg (by simpa using hneg),zJW S _ (by omega),zN (by omega)]
    simp only [Option.bind_some]
    by_cases hmem:jX c (zAu ps[i])∈S
    ·rw [if_pos (by simpa using hmem),if_pos (.inr hmem)]
    ·rw [if_neg (by simpa using hmem),if_neg (by rw [not_or]; exact ⟨hneg,hmem⟩)]
  rw [vE,hb,List.drop_eq_getElem_cons hi]
  simp only [zFu]
  by_cases hbad:jX c (zAu ps[i])<0∨jX c (zAu ps[i])∈out
  ·rw [if_pos hbad,if_pos (by rw [h2]; exact hbad)]
   exact ⟨_,rfl,rfl⟩
  ·have hbad2:¬(jX c (zAu ps[i])<0∨jX c (zAu ps[i])∈S):=by rw [h2]; exact hbad
   rw [if_neg hbad,if_neg hbad2]
   obtain ⟨r,er,r1,r2,r3⟩:=zOX S (jX c (zAu ps[i])) h1 (fun h=>hbad2 (.inr h)) (by omega)
   rw [er]
   simp only [Option.bind_some,Lp.elim]
   refine zH0 ps hps hl k (i+1) r (out++[jX c (zAu ps[i])]) (by omega) (by simp; omega) (by omega) r1 (fun x=>?_)
   rw [r2,h2,List.mem_append,List.mem_singleton]
end
section
variable {c:List Pack} (hc:c.length≤1048576)
include hc
theorem zKV (s:ByteArray) (h:s.size≤90000):zCt c s=some (PS c s):=by
 unfold zCt PS
 by_cases h4:s.size>4000
 ·rw [if_pos (by simp; omega),if_pos h4]
 ·rw [if_neg (by simp; omega),if_neg h4,zHl s (by omega)]
  simp only [Option.bind_some]
  have hlen:=zGc s
  obtain ⟨t,e,ht⟩:=zH0 hc (zBi s) (fun p hp=>by have:=zFA s p hp; omega) (by omega) (zBi s).length 0 [] [] (by omega) (by simp) (by simp) (by simp) (by simp)
  rw [List.drop_zero] at ht
  unfold zCM
  rw [show ((0:Nat):Int)=0 from rfl] at e
  rw [e]
  have hg:=zFB c (zBi s) 0 [] (by simp) (by simp)
  cases hr:zFu c 0 [] (zBi s) with
  |ret r=>
   rw [hr] at ht
   simp only at ht
   subst ht
   rfl
  |nxt l=>
   rw [hr] at ht hg
   obtain ⟨S',rfl,h1,h2⟩:=ht
   obtain ⟨g1,g2⟩:=zNM hg.1
   have:S'=l.mergeSort (fun x y=>decide (x≤y)):=zJo h1 g1 (fun x=>by rw [h2,g2])
   subst this
   rfl
end
section
variable {c:List Pack} (hc:c.length≤1048576)
include hc
theorem zGP (ps:List ByteArray) (hps:∀p∈ps,p.size≤100000) (hl:ps.length≤100000):∀(k i:Nat) (out:List Int),i+k=ps.length→out.length≤i→loop (kH c ps) (out,(i:Int))=some (zFu c i out (ps.drop i))
 |0,i,out,hk,ho=>by
  have e:i=ps.length:=by omega
  subst e
  rw [vE]
  unfold kH
  rw [if_neg (by simp),List.drop_length]
  rfl
 |k+1,i,out,hk,ho=>by
  have hi:i<ps.length:=by omega
  have hm:=List.getElem_mem hi
  have hw:=zHP ps[i]
  have hps1:=hps _ hm
  have hb:kH c ps (out,(i:Int))=if jX c (zAu ps[i])<0∨jX c (zAu ps[i])∈out then some (.done (.ret {Code:=5,At:=i,Set:=[]})) else some (.go (out++[jX c (zAu ps[i])],((i+1:Nat):Int))):=by
   unfold kH
   rw [if_pos (by simp; omega),zO hi]
   simp only [Option.bind_some,zKR _ (show ps[i].size ≤1048575 by omega)]
   rw [zKa c _ hc (fun p hp=>by have:=hw p hp; omega)]
   simp only [Option.bind_some]
   rw [zCu (by simp; omega) (by simp; omega),zN (by omega)]
   by_cases hneg:jX c (zAu ps[i])<0
   ·rw [if_pos (by simpa using hneg),if_pos (.inl hneg)]
    rfl
   ·rw [if_neg (by simpa using hneg),zHF out _ (by omega)]
    simp only [Option.bind_some]
    by_cases hmem:jX c (zAu ps[i])∈out
    ·rw [if_pos (by simpa using hmem),if_pos (.inr hmem)]
    ·rw [if_neg (by simpa using hmem),if_neg (by rw [not_or]; exact ⟨hneg,hmem⟩)]
  rw [vE,hb,List.drop_eq_getElem_cons hi]
  simp only [zFu]
  by_cases hbad:jX c (zAu ps[i])<0∨jX c (zAu ps[i])∈out
  ·rw [if_pos hbad,if_pos hbad]
   rfl
  ·rw [if_neg hbad,if_neg hbad]
   simp only [Option.bind_some,Lp.elim]
   exact zGP ps hps hl k (i+1) (out++[jX c (zAu ps[i])]) (by omega) (by simp; omega)
end
theorem zJA {c:List Pack} (hC:Cat c) (s:ByteArray) (h:s.size≤90000):zBB c s=some (if CF c !=0 then {Code:=CF c,At:=0,Set:=[]} else PS c s):=by
 have hc:=hC.1
 unfold zBB PS
 rw [zFq c hC]
 simp only [Option.bind_some]
 cases CF c !=0
 case true=>rfl
 simp only [Bool.false_eq_true,if_false]
 by_cases h4:s.size>4000
 ·rw [if_pos (by simp; omega),if_pos h4]
 ·rw [if_neg (by simp; omega),if_neg h4,zHw s (by omega)]
  simp only [Option.bind_some]
  have hlen:=zGc s
  have e:=zGP hc (zBi s) (fun p hp=>by have:=zFA s p hp; omega) (by omega) (zBi s).length 0 [] (by omega) (by simp)
  rw [List.drop_zero,show ((0:Nat):Int)=0 from rfl] at e
  unfold zBE
  rw [e]
  have hlp:∀(ps:List ByteArray) (i:Nat) (out l:List Int),zFu c i out ps= .nxt l→l.length≤out.length+ps.length:=by
   intro ps
   induction ps with
   |nil=>intro i out l h; cases h; simp
   |cons s ps ih=>
    intro i out l h
    simp only [zFu] at h
    split at h
    ·cases h
    ·have:=ih _ _ _ h
     simp at this ⊢
     omega
  cases hr:zFu c 0 [] (zBi s) with
  |ret r=>rfl
  |nxt l=>
   have hl:=hlp _ _ _ _ hr
   simp only [Option.bind_some,Fl.go]
   unfold tC
   rw [if_pos (by simp at hl; omega)]
   simp only [Option.bind_some]
   rw [zFX (by rw [List.length_mergeSort])]
   rfl
theorem zN0 {l:List Int} {n:Int} (hp:l.take 4=zQL) (hl:4≤l.length) (h:zEq l=some n):l=zRL n∧1≤n∧n≤999999:=by
 unfold zEq at h
 cases hn:zIS (l.drop 4) 6 with
 |none=>rw [hn] at h; cases h
 |some m=>
  rw [hn] at h
  simp only at h
  split at h
  ·rename_i hc
   cases h
   have e:=(zOC hp hl hn).2 hc
   by_cases hr:1≤n∧n≤999999
   ·rw [if_pos hr] at e
    refine ⟨?_,hr⟩
    have hpd:=zJY 5 n.toNat (by omega)
    rw [show 10^(5+1)+n.toNat=1000000+n.toNat by omega] at hpd
    rw [←e,hpd]
    rfl
   ·rw [if_neg hr] at e
    rw [←e] at hc
    simp at hc
  ·cases h
theorem zKj {fs:List File} {n:Int} (h:n∈zFw fs):(∃f∈fs,f.Path=zQa n)∧1≤n∧n≤999999:=by
 unfold zFw at h
 obtain ⟨p,hp,hg⟩:=List.mem_filterMap.1 h
 have hb:=zKp (zGu p hp)
 rw [zNT] at hb
 obtain ⟨e,h1⟩:=zN0 hb.1 hb.2 hg
 refine ⟨?_,h1⟩
 unfold jS at hp
 obtain ⟨f,hf,rfl⟩:=List.mem_map.1 hp
 exact ⟨f,(List.mem_filter.1 hf).1,zFV.1 (e.trans (zNF n).symm)⟩
def zNd (c:Int):zI:= {Code:=c,At:=0,Set:=[]}
def zFi (c:List Pack) (d:zF) (n:Int):zI:=if n∈zFw d.Files then (match fileOf d (zQa n) with
 |some f=>if (PS c (b2s f.Data)).Code !=0 then zNd (PS c (b2s f.Data)).Code else PS c (b2s f.Data)
 |none=>zNd 0) else zNd 4
theorem zMm (c:List Pack) (d:zF) (n:Int):((zFi c d n).Code ≠0→(zFi c d n).Set =[])∧(zFi c d n).At =0∧(zFi c d n).Set.Pairwise (· < ·)∧(∀k∈(zFi c d n).Set,0≤k∧k<c.length):=by
 have key:∀r,r=zFi c d n→(r.Code≠0→r.Set=[])∧r.At=0∧r.Set.Pairwise (· < ·)∧(∀k∈r.Set,0≤k∧k<c.length):=by
  intro r hr
  have hcode:∀x,(zNd x).Set =[]∧(zNd x).At =0:=fun x=>⟨rfl,rfl⟩
  unfold zFi at hr
  split at hr
  ·split at hr
   ·split at hr
    ·subst hr; exact ⟨fun _=>rfl,rfl,by rw [(hcode _).1]; simp,by rw [(hcode _).1]; simp⟩
    ·rename_i f _ hc
     subst hr
     rcases zMt c (b2s f.Data) with ⟨h,_⟩|⟨h1,h2,h3,h4⟩
     ·rcases h with h|h<;>rw [h] at hc<;>simp at hc
     ·exact ⟨fun h=>absurd h1 h,h2,h3,h4⟩
   ·subst hr; exact ⟨fun _=>rfl,rfl,by rw [(hcode _).1]; simp,by rw [(hcode _).1]; simp⟩
  ·subst hr; exact ⟨fun _=>rfl,rfl,by rw [(hcode _).1]; simp,by rw [(hcode _).1]; simp⟩
 exact key _ rfl
theorem zJk {d:zF} (hg:d.good) {p:ByteArray} (h:∃f∈d.Files,f.Path=p):∃k:Nat,∃hk:k<d.Files.length,wH d p=some (k:Int)∧xV d p=some (d.Files[k].Data,true)∧fileOf d p=some d.Files[k]:=by
 rcases zFU d p hg with h1|⟨_,_,h3⟩
 ·exact h1
 ·obtain ⟨f,hf,hp⟩:=h
  unfold fileOf at h3
  have:=List.find?_eq_none.1 h3 f hf
  simp [hp] at this
section
variable {c:List Pack} {d:zF} (hc:c.length≤1048576) (hg:d.good) (hb:Byt d)
include hc hg hb in
theorem zMU (n:Int):zE7 c d n=some (zFi c d n):=by
 have hfl:d.Files.length≤1048576:=by have:=hg.len; omega
 have hgl:=zFH d.Files
 unfold zE7 zFi
 rw [zK1 d hfl]
 simp only [Option.bind_some]
 rw [zJW _ _ (by omega)]
 simp only [Option.bind_some]
 by_cases hm:n∈zFw d.Files
 ·obtain ⟨hf,h1,h2⟩:=zKj hm
  obtain ⟨k,hk,e1,_,e3⟩:=zJk hg hf
  have hmem:=List.getElem_mem hk
  have hdat:=hg.data _ hmem
  rw [if_neg (by simpa using hm),if_pos hm,zKX,show inB n 1 999999=true by unfold inB; simp; omega]
  simp only [Option.bind_some,if_true,e1]
  rw [zO hk]
  simp only [Option.bind_some]
  rw [zKV hc _ (by rw [←zQ,zGN (hb _ hmem)]; omega),e3]
  simp only [Option.bind_some]
  cases (PS c (b2s d.Files[k].Data)).Code !=0<;>rfl
 ·rw [if_pos (by simpa using hm),if_neg hm]
  rfl
end
section
variable {c:List Pack} {d:zF} (hc:c.length≤1048576) (hg:d.good) (hb:Byt d)
include hg hb in
theorem zMW (hC:Cat c) (h0:CF c=0) (n:Int):zE6 c d n=some ((zFi c d n).Set,(zFi c d n).Code):=by
 have hfl:d.Files.length≤1048576:=by have:=hg.len; omega
 have hgl:=zFH d.Files
 unfold zE6 zFi
 rw [zO9 d hfl]
 simp only [Option.bind_some]
 rw [zHF _ _ (by omega)]
 simp only [Option.bind_some]
 by_cases hm:n∈zFw d.Files
 ·obtain ⟨hf,h1,h2⟩:=zKj hm
  obtain ⟨k,hk,_,e2,e3⟩:=zJk hg hf
  have hmem:=List.getElem_mem hk
  have hdat:=hg.data _ hmem
  rw [if_neg (by simpa using hm),if_pos hm,zKk (by omega) h2]
  simp only [Option.bind_some,e2]
  rw [zJA hC _ (by rw [←zQ,zGN (hb _ hmem)]; omega),e3,h0]
  simp only [bne_self_eq_false,Bool.false_eq_true,if_false,Option.bind_some]
  rcases zMt c (b2s d.Files[k].Data) with ⟨h,h'⟩|⟨h,_⟩
  ·have hn:((PS c (b2s d.Files[k].Data)).Code !=0)=true:=by rcases h with h|h<;>rw [h]<;>rfl
   rw [hn,h']
   rfl
  ·simp [h]
 ·rw [if_pos (by simpa using hm),if_neg hm]
  rfl
end
section
variable {c:List Pack} {d:zF} (hc:c.length≤1048576) (hg:d.good) (hb:Byt d)
def zAt (c:List Pack) (d:zF):zI:=match zK5 d with
 |some n=>zFi c d n
 |none=>zNd 4
end
section
variable {c:List Pack} {d:zF} (hc:c.length≤1048576) (hg:d.good) (hb:Byt d)
theorem zNR (d:zF):(0:Int)∉zFw d.Files:=fun h=>by have:=zKv h; omega
end
section
variable {c:List Pack} {d:zF} (hc:c.length≤1048576) (hg:d.good) (hb:Byt d)
include hc hg hb in
theorem zH3:zAB c d=some (zAt c d):=by
 unfold zAB zAt
 rw [(zHy d hg hb).1]
 simp only [Option.bind_some,zMU hc hg hb]
 cases zK5 d with
 |some n=>rfl
 |none=>
  simp only [Option.getD_none]
  unfold zFi
  rw [if_neg (zNR d)]
end
section
variable {c:List Pack} {d:zF} (hc:c.length≤1048576) (hg:d.good) (hb:Byt d)
include hg hb in
theorem zIT (hC:Cat c) (h0:CF c=0):zDp c d=some ((zAt c d).Set,(zAt c d).Code):=by
 unfold zDp zAt
 rw [(zHy d hg hb).2]
 cases h:zK5 d with
 |some n=>
  simp only [Option.bind_some,Option.getD_some,bne_self_eq_false,Bool.false_eq_true,if_false]
  rw [zMW hg hb hC h0]
  rfl
 |none=>rfl
end
theorem zIl (c:List Pack) (d:zF):((zAt c d).Code ≠0→(zAt c d).Set =[])∧(zAt c d).At =0∧(zAt c d).Set.Pairwise (· < ·)∧(∀k∈(zAt c d).Set,0≤k∧k<c.length):=by
 unfold zAt
 split
 ·exact zMm c d _
 ·exact ⟨fun _=>rfl,rfl,by show List.Pairwise _ []; simp,by show ∀k∈[],_; simp⟩
theorem zLR {c:List Pack} {d:zF} (hC:Cat c) (hd:zF.sm 1048576 d):(∃q,q≠0∧zAz c d=some q∧jT c d=some q)∨(zAz c d=some 0∧jT c d=some 0∧CF c=0∧d.good):=by
 obtain ⟨k,ek,hk⟩:=zID d hd.1.1
 rw [zNc hC k ek,zO0 hC k ek]
 by_cases h0:CF c=0
 ·by_cases h1:k=0
  ·exact .inr ⟨by simp [h0,h1],by simp [h0,h1],h0,hk h1⟩
  ·exact .inl ⟨k,h1,by simp [h0],by simp [h0]⟩
 ·exact .inl ⟨CF c,h0,by simp [h0],by simp [h0]⟩
theorem zFO {r:zI} (h:r.Set.length≤1048576):zI.sm 1049600 r:=⟨trivial,trivial,by omega,fun _ _=>trivial⟩
theorem zMB {c:List Pack} {l:List Int} (hc:c.length≤1048576) (h1:l.Pairwise (· < ·)) (h2:∀k∈l,0≤k∧k<c.length):l.length≤1048576:=by
 rcases zMr (lo:=0) (hi:=c.length) h1 h2 with h|h
 ·omega
 ·rw [h]; simp
theorem zKl {c:List Pack} {d:zF} {a:List Int} (hC:Cat c) (h0:CF c=0) (hg:d.good) (hs:zQd c a=true) (ha:a.length≤1048576):
  zC9 c d a=some (((zEZ c a).length :Int)==0&&((zHA c d a).length :Int)==0):=by
 have hS:SF c a=0:=by unfold SF; simp [h0,hs]
 have hp:=(zK2.1 hs).2
 unfold zC9
 rw [zIb hC ha (by rw [hS]; rfl),zLb (zPM h0) hg hp ha]
 unfold zRW
 rw [hS]
 simp only [Option.bind_some,beq_self_eq_true,Bool.true_and]
 cases ((zEZ c a).length :Int)==0<;>rfl
theorem zMb {c:List Pack} {a:List Int} (hC:Cat c) (hp:Places c a) (ha:a.length≤1048576):zCN c a=some (((zEZ c a).length :Int)==0):=by
 unfold zCN
 rw [zLp hC hp ha]
 rfl
def zQD (c:List Pack) (d:zF):Int:=
 if (zAt c d).Code !=0 then (zAt c d).Code else
 if !(((zEZ c (zAt c d).Set).length :Int)==0&&((zHA c d (zAt c d).Set).length :Int)==0) then 1 else
 match zF7 d with|some _=>0|none=>5
theorem zLH {s:System} (hC:Cat s.Catalog) (hd:zF.sm 1048576 s.zF) (hb:Byt s.zF):
  (∃q,q≠0∧uP s=some q∧uO s=some q)∨
  (uP s=some (zQD s.Catalog s.zF)∧uO s=some (zQD s.Catalog s.zF)∧CF s.Catalog=0∧s.zF.good):=by
 obtain ⟨c,d⟩:=s
 simp only at hC hd hb ⊢
 unfold uP uO
 simp only
 rcases zLR hC hd with ⟨q,h,e1,e2⟩|⟨e1,e2,h0,hg⟩
 ·rw [e1,e2]
  have hn:(q !=0)=true:=by simpa using h
  simp only [Option.bind_some,hn,if_true]
  exact .inl ⟨q,h,rfl,rfl⟩
 ·refine .inr ?_
  rw [e1,e2]
  simp only [Option.bind_some,bne_self_eq_false,Bool.false_eq_true,if_false]
  rw [zH3 hC.1 hg hb,zIT hg hb hC h0]
  obtain ⟨h1,h2,h3,h4⟩:=zIl c d
  have ha:(zAt c d).Set.length ≤1048576:=zMB hC.1 h3 h4
  have hp:Places c (zAt c d).Set :=h4
  have hs:zQd c (zAt c d).Set =true:=zK2.2 ⟨h3,hp⟩
  obtain ⟨o,eo⟩:=zOj hg hb
  simp only [Option.bind_some]
  rw [zMb hC hp ha,zKl hC h0 hg hs ha,zIK (zPM h0) hg hb hp ha,eo,zNr hg hb]
  simp only [Option.bind_some]
  unfold zQD
  refine ⟨?_,?_,h0,hg⟩
  ·cases hc:(zAt c d).Code !=0
   ·simp only [Bool.false_eq_true,if_false]
    cases hf:((zEZ c (zAt c d).Set).length :Int)==0
    ·simp
    ·have hl:decide (((zHA c d (zAt c d).Set).length :Int)>0)= !(((zHA c d (zAt c d).Set).length :Int)==0):=by
      cases zHA c d (zAt c d).Set with
      |nil=>rfl
      |cons x l=>simp<;>omega
     simp only [Bool.not_true,Bool.false_eq_true,if_false,Option.bind_some,hl,Bool.true_and]
     cases ((zHA c d (zAt c d).Set).length :Int)==0
     ·simp
     ·cases zF7 d<;>simp
   ·simp
  ·cases hc:(zAt c d).Code !=0
   ·simp only [Bool.false_eq_true,if_false]
    cases (((zEZ c (zAt c d).Set).length :Int)==0&&((zHA c d (zAt c d).Set).length :Int)==0)
    ·simp
    ·cases zF7 d<;>simp
   ·simp
theorem zKC (a1:System) (k0:System.ok a1) (s0:(System.sm 1048576 a1)):∃r,zB1 a1=some r∧jW a1=some r∧(zI.sm 1049600 r):=by
 have hb:Byt a1.zF:=fun f hf c hc=>by have:=(k0.2.1.2 f hf).2.2 c hc; simpa [IntKind.min,IntKind.max,IntKind.signed,IntKind.bits] using this
 unfold zB1 jW
 rcases zLH s0.1 s0.2 hb with ⟨q,h,e1,e2⟩|⟨e1,e2,h0,hg⟩
 ·rw [e1,e2]
  have hn:(q !=0)=true:=by simpa using h
  simp only [Option.bind_some,hn,if_true]
  exact ⟨_,rfl,rfl,zFO (by simp)⟩
 ·rw [e1,e2]
  simp only [Option.bind_some]
  cases hq:zQD a1.Catalog a1.zF !=0
  ·simp only [Bool.false_eq_true,if_false]
   rw [zH3 s0.1.1 hg hb,zIT hg hb s0.1 h0]
   obtain ⟨h1,h2,h3,h4⟩:=zIl a1.Catalog a1.zF
   have h5:(zAt a1.Catalog a1.zF).Code =0:=by
    have h6:zQD a1.Catalog a1.zF=0:=by simpa using hq
    unfold zQD at h6
    cases hc:(zAt a1.Catalog a1.zF).Code !=0
    ·simpa using hc
    ·rw [hc] at h6; simpa using h6
   simp only [Option.bind_some]
   refine ⟨_,rfl,?_,zFO (zMB s0.1.1 h3 h4)⟩
   congr 1
   cases hs:zAt a1.Catalog a1.zF with
   |mk x y z=>rw [hs] at h2 h5; simp only at h2 h5; rw [h2,h5]
  ·simp only [if_true]
   exact ⟨_,rfl,rfl,zFO (by simp)⟩
theorem zGQ (a1:System) (k0:System.ok a1):vQ a1=some true:=zG3 a1 k0 (zKC a1 k0)
end Go.Told

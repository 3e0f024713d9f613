import Derived.Test.YtobkkecdnlecgaaGreatDoorToldRollbackTo
set_option linter.unusedVariables false
set_option maxRecDepth 4000
namespace Go.Told
open Go Go.Im
theorem zF7 {S T:Type} {b b':S→Option (Lp S T)} (h:∀s,b s=b' s):loop b=loop b':=by
 have:b=b':=funext h
 rw [this]
theorem wC {x:Int} (h1: -9223372036854775808≤x) (h2:x≤9223372036854775807):w64 x=x:=by
 unfold w64
 rw [IntKind.wrap_i64]
 omega
theorem zM {i:Nat} (h:i<9223372036854775807):w64 ((i:Int)+1)=((i+1:Nat):Int):=by
 rw [wC (by omega) (by omega)]; omega
theorem kX {T:Type} {S:Type} {b:S→Option (Lp S T)} (I:Nat→S→Prop) (n:Nat) (Q:T→Prop) (hstep:∀i s,i<n→I i s→(∃s',b s=some (.go s')∧I (i+1) s')∨∃t,b s=some (.done t)∧Q t)
  (hend:∀s,I n s→∃t,b s=some (.done t)∧Q t):∀(k i:Nat) (s:S),i+k=n→I i s→∃t,loop b s=some t∧Q t
 |0,i,s,hk,hI=>by
  obtain ⟨t,h1,h2⟩:=hend s (by rw [show n=i by omega]; exact hI)
  exact ⟨t,by rw [jO,h1]; rfl,h2⟩
 |k+1,i,s,hk,hI=>by
  rcases hstep i s (by omega) hI with ⟨s',h1,h2⟩|⟨t,h1,h2⟩
  ·obtain ⟨t,h3,h4⟩:=kX I n Q hstep hend k (i+1) s' (by omega) h2
   exact ⟨t,by rw [jO,h1]; exact h3,h4⟩
  ·exact ⟨t,by rw [jO,h1]; rfl,h2⟩
theorem zK {α:Type} {xs:List α} {i:Nat} (h:i<xs.length):idx xs (i:Int)=some xs[i]:=by
 unfold idx
 rw [if_pos (by omega)]
 simp [h]
theorem zDE {α:Type} (l r:List α) (x:α):idx (l++x::r) (l.length:Int)=some x:=by
 rw [zK (by simp)]
 simp
def goL {α A T:Type} (g:Nat→A→α→Lp A T) (fin:A→T):Nat→List α→A→T
 |_,[],a=>fin a
 |i,x::xs,a=>match g i a x with
  | .go a'=>goL g fin (i+1) xs a'
  | .done t=>t
theorem zLq {α A S T:Type} (xs:List α) (g:Nat→A→α→Lp A T) (fin:A→T) (e:Nat→A→S) (I:Nat→A→Prop) {b:S→Option (Lp S T)}
  (hstep:∀(i:Nat) (a:A) (hi:i<xs.length),I i a→b (e i a)=some (match g i a xs[i] with| .go a'=>.go (e (i+1) a')| .done t=>.done t)∧∀a',g i a xs[i]= .go a'→I (i+1) a')
  (hend:∀a,I xs.length a→b (e xs.length a)=some (.done (fin a))):∀(k i:Nat) (a:A),i+k=xs.length→I i a→loop b (e i a)=some (goL g fin i (xs.drop i) a)
 |0,i,a,hk,hI=>by
  have:i=xs.length:=by omega
  subst this
  rw [jO,hend a hI,List.drop_length]; rfl
 |k+1,i,a,hk,hI=>by
  have hi:i<xs.length:=by omega
  obtain ⟨h1,h2⟩:=hstep i a hi hI
  rw [jO,h1,List.drop_eq_getElem_cons hi]
  simp only [goL]
  cases hg:g i a xs[i] with
  |go a'=>
   simp only [Option.bind_some,Lp.elim]
   exact zLq xs g fin e I hstep hend k (i+1) a' (by omega) (h2 a' hg)
  |done t=>rfl
theorem zJs {α A S T:Type} (xs:List α) (g:Nat→A→α→Lp A T) (fin:A→T) (e:Nat→A→S) (I:Nat→A→Prop) {b:S→Option (Lp S T)} (a0:A)
  (hstep:∀(i:Nat) (a:A) (hi:i<xs.length),I i a→b (e i a)=some (match g i a xs[i] with| .go a'=>.go (e (i+1) a')| .done t=>.done t)∧∀a',g i a xs[i]= .go a'→I (i+1) a')
  (hend:∀a,I xs.length a→b (e xs.length a)=some (.done (fin a))) (h0:I 0 a0):loop b (e 0 a0)=some (goL g fin 0 xs a0):=by
 have:=zLq xs g fin e I hstep hend xs.length 0 a0 (by omega) h0
 simpa using this
theorem zGz {α:Type} (xs:List α) {b:(List α×Int)→Option (Lp (List α×Int) (List α))} (hstep:∀(ys:List α) (i:Nat) (hi:i<xs.length),ys.length=xs.length→b (ys,(i:Int))=some (.go (ys.set i xs[i],((i+1:Nat):Int))))
  (hend:∀ys:List α,ys.length=xs.length→b (ys,(xs.length:Int))=some (.done ys)) (y0:List α) (h0:y0.length=xs.length):loop b (y0,0)=some xs:=by
 obtain ⟨t,h1,h2⟩:=kX (b:=b) (fun i s=>s.2=(i:Int)∧s.1.length=xs.length∧s.1.take i=xs.take i) xs.length (fun t=>t=xs) (by
  rintro i ⟨ys,j⟩ hi ⟨hj,hl,hp⟩
  simp only at hj hl hp
  subst hj
  refine .inl ⟨_,hstep ys i hi hl,rfl,by simpa using hl,?_⟩
  simp only
  rw [List.take_succ_eq_append_getElem (by simp; omega),List.take_succ_eq_append_getElem hi,←hp,List.take_set_of_le (Nat.le_refl _)]
  simp) (by
  rintro ⟨ys,j⟩ ⟨hj,hl,hp⟩
  simp only at hj hl hp
  subst hj
  refine ⟨ys,hend ys hl,?_⟩
  rw [List.take_of_length_le (by omega),List.take_of_length_le (by omega)] at hp
  exact hp) xs.length 0 (y0,0) (by omega) ⟨rfl,h0,by simp⟩
 rw [h1,h2]
theorem zGr {R:Type} (n:Nat) {b:Int→Option (Lp Int (Fl R Unit))} (hstep:∀i:Nat,i<n→b (i:Int)=some (.go ((i+1:Nat):Int))) (hend:b (n:Int)=some (.done (.nxt ()))):loop b 0=some (.nxt ()):=by
 obtain ⟨t,h1,h2⟩:=kX (b:=b) (fun i s=>s=(i:Int)) n (fun t=>t= .nxt ()) (by
  rintro i s hi rfl
  exact .inl ⟨_,hstep i hi,rfl⟩) (by
  rintro s rfl
  exact ⟨_,hend,rfl⟩) n 0 0 (by omega) rfl
 rw [h1,h2]
theorem zHe {α:Type} (xs:List α) (P:α→Prop) (l:Int) {b:(Int×Int)→Option (Lp (Int×Int) (Fl Int Int))}
  (hstep:∀(q:Int) (i:Nat) (hi:i<xs.length),0≤q→q≤l→(∃q',b (q,(i:Int))=some (.go (q',((i+1:Nat):Int)))∧0≤q'∧q'≤q∧P xs[i])∨∃t,b (q,(i:Int))=some (.done (.ret t))∧t<0)
  (hend:∀q:Int,b (q,(xs.length:Int))=some (.done (.nxt q))) (h0:0≤l):
  ∃t,loop b (l,0)=some t∧match t with| .ret r=>r<0| .nxt r=>0≤r∧r≤l∧∀x∈xs,P x:=by
 refine kX (b:=b) (fun i s=>s.2=(i:Int)∧0≤s.1∧s.1≤l∧∀j,(hj:j<xs.length)→j<i→P xs[j]) xs.length _ (by
  rintro i ⟨q,j⟩ hi ⟨hj,h1,h2,h3⟩
  simp only at hj h1 h2 h3
  subst hj
  rcases hstep q i hi h1 h2 with ⟨q',e,g1,g2,g3⟩|⟨t,e,ht⟩
  ·refine .inl ⟨_,e,rfl,g1,by simp only; omega,fun j hj hji=>?_⟩
   rcases Nat.lt_or_ge j i with h|h
   ·exact h3 j hj h
   ·have:j=i:=by omega
    subst this; exact g3
  ·exact .inr ⟨_,e,ht⟩) (by
  rintro ⟨q,j⟩ ⟨hj,h1,h2,h3⟩
  simp only at hj h1 h2 h3
  subst hj
  refine ⟨_,hend q,h1,h2,fun x hx=>?_⟩
  obtain ⟨j,hj,rfl⟩:=List.getElem_of_mem hx
  exact h3 j hj hj) xs.length 0 (l,0) (by omega) ⟨rfl,h0,Int.le_refl _,fun j _ h=>by omega⟩
def pm {α:Type} (m:α→Int→α) (c:α→Int):List α→Int→List α
 |[],_=>[]
 |x::xs,k=>m x k::pm m c xs (k+c x)
def cs {α:Type} (c:α→Int):List α→Int
 |[]=>0
 |x::xs=>c x+cs c xs
theorem zE1 {α:Type} (m:α→Int→α) (c:α→Int):∀(xs:List α) (k:Int),(pm m c xs k).length =xs.length
 |[],_=>rfl
 |x::xs,k=>by simp [pm,zE1 m c xs]
theorem vH {α:Type} {c:α→Int} (hc:∀a,0≤c a):∀(xs:List α),0≤cs c xs
 |[]=>Int.le_refl _
 |x::xs=>by have:=hc x; have:=vH hc xs; simp only [cs]; omega
theorem zKU {α:Type} {c:α→Int} {C:Int} {N:Nat} (hC:0≤C):∀(xs:List α),(∀a∈xs,c a≤C)→xs.length≤N→cs c xs≤N*C
 |[],_,_=>Int.mul_nonneg (by omega) hC
 |x::xs,h,hl=>by
  have h1:=h x (by simp)
  simp only [List.length_cons] at hl
  have h2:=zKU (N:=N-1) hC xs (fun a ha=>h a (by simp [ha])) (by omega)
  simp only [cs]
  have:((N-1:Nat):Int)*C+C=N*C:=by
   have e:((N-1:Nat):Int)=(N:Int)-1:=by omega
   rw [e,Int.sub_mul,Int.one_mul]; omega
  omega
theorem zE0 {α:Type} (m:α→Int→α) (c:α→Int) (P:α→Prop) (hc:∀a,0≤c a) {b:(List α×Int×Int)→Option (Lp (List α×Int×Int) (List α×Int))}
  (hstep:∀(l r:List α) (x:α) (k:Int),P x→0≤k→k+c x≤9223372036854775807→l.length<9223372036854775807→b (l++x::r,k,(l.length:Int))=some (.go (l++m x k::r,k+c x,((l.length+1:Nat):Int))))
  (hend:∀(l:List α) (k:Int),b (l,k,(l.length:Int))=some (.done (l,k))):∀(xs l:List α) (k:Int),(∀x∈xs,P x)→0≤k→k+cs c xs≤9223372036854775807→l.length+xs.length<9223372036854775807→
  loop b (l++xs,k,(l.length:Int))=some (l++pm m c xs k,k+cs c xs)
 |[],l,k,_,_,_,_=>by
  rw [jO,List.append_nil,hend]
  simp [pm,cs,Lp.elim]
 |x::xs,l,k,hP,h0,h1,h2=>by
  have hx:=hc x
  have hxs:=vH hc xs
  simp only [cs] at h1
  simp only [List.length_cons] at h2
  rw [jO,hstep l xs x k (hP x (by simp)) h0 (by omega) (by omega)]
  simp only [Option.bind_some,Lp.elim]
  have:=zE0 m c P hc hstep hend xs (l++[m x k]) (k+c x) (fun y hy=>hP y (by simp [hy])) (by omega) (by omega) (by simp; omega)
  simp only [List.length_append,List.length_cons,List.length_nil,List.append_assoc,List.cons_append,List.nil_append] at this
  rw [this]
  simp only [pm,cs]
  congr 2
  omega
theorem zHi {α:Type} (m:α→Int→α) (c:α→Int) (P:α→Prop) (hc:∀a,0≤c a) {b:List α→(Int×Int)→Option (Lp (Int×Int) (Fl Int Int))}
  (hstep:∀(l r:List α) (x:α) (k:Int),P x→0≤k→k+c x≤9223372036854775807→l.length<9223372036854775807→b (l++m x k::r) (k,(l.length:Int))=some (.go (k+c x,((l.length+1:Nat):Int))))
  (hend:∀(l:List α) (k:Int),b l (k,(l.length:Int))=some (.done (.nxt k))):∀(xs l:List α) (k:Int),(∀x∈xs,P x)→0≤k→k+cs c xs≤9223372036854775807→l.length+xs.length<9223372036854775807→
  loop (b (l++pm m c xs k)) (k,(l.length:Int))=some (.nxt (k+cs c xs))
 |[],l,k,_,_,_,_=>by
  rw [jO,pm,List.append_nil,hend]
  simp [cs,Lp.elim]
 |x::xs,l,k,hP,h0,h1,h2=>by
  have hx:=hc x
  have hxs:=vH hc xs
  simp only [cs] at h1
  simp only [List.length_cons] at h2
  rw [pm,jO,hstep l _ x k (hP x (by simp)) h0 (by omega) (by omega)]
  simp only [Option.bind_some,Lp.elim]
  have:=zHi m c P hc hstep hend xs (l++[m x k]) (k+c x) (fun y hy=>hP y (by simp [hy])) (by omega) (by omega) (by simp; omega)
  simp only [List.length_append,List.length_cons,List.length_nil,List.append_assoc,List.cons_append,List.nil_append] at this
  rw [this]
  simp only [cs]
  congr 2
  omega
theorem zFI {α β:Type} {xs:List α} {ys:List β} (h:xs.length=ys.length):same xs ys=some ():=if_pos h
theorem zGs {α:Type} (l r:List α) (x y:α):(l++x::r).set l.length y=l++y::r:=by
 rw [List.set_append_right _ _ (Nat.le_refl _)]
 simp
theorem zOG (a:ByteArray):seq a a=true:=by
 unfold seq
 simp
def c1 {α:Type} (_:α):Int:=1
theorem zEl {α:Type} (a:α):0≤c1 a:=by unfold c1; decide
theorem zAU {α:Type} {B:Nat} {xs ys:List α} (h:(xs.length+ys.length)*B≤140737488355328) (h2:xs.length+ys.length≤4611686018427387904):app B xs ys=some (xs++ys):=if_pos ⟨h,h2⟩
theorem zKj {S T:Type} {b:S→Option (Lp S T)} (I:S→Prop) (μ:S→Nat) (Q:T→Prop) (step:∀s,I s→(∃s',b s=some (.go s')∧I s'∧μ s'<μ s)∨∃t,b s=some (.done t)∧Q t):∀(n:Nat) (s:S),μ s≤n→I s→∃t,loop b s=some t∧Q t
 |0,s,hn,hI=>by
  rcases step s hI with ⟨s',_,_,h3⟩|⟨t,h1,h2⟩
  ·omega
  ·exact ⟨t,by rw [jO,h1]; rfl,h2⟩
 |n+1,s,hn,hI=>by
  rcases step s hI with ⟨s',h1,h2,h3⟩|⟨t,h1,h2⟩
  ·obtain ⟨t,h4,h5⟩:=zKj I μ Q step n s' (by omega) h2
   exact ⟨t,by rw [jO,h1]; exact h4,h5⟩
  ·exact ⟨t,by rw [jO,h1]; rfl,h2⟩
def Version.ok (x:Version):Prop:=(IntKind.i64.min≤x.A∧x.A≤IntKind.i64.max)∧(IntKind.i64.min≤x.B∧x.B≤IntKind.i64.max)∧(IntKind.i64.min≤x.C∧x.C≤IntKind.i64.max)
def Term.ok (x:Term):Prop:=(x.Name.size≤maxLen)∧(Version.ok x.Low)∧(Version.ok x.High)
def Pack.ok (x:Pack):Prop:=(x.Name.size≤maxLen)∧(Version.ok x.Version)∧(IntKind.i64.min≤x.Size∧x.Size≤IntKind.i64.max)∧(x.Provides.length≤maxLen∧∀y1∈x.Provides,y1.size≤maxLen)∧(x.Needs.length≤maxLen∧∀y1∈x.Needs,y1.length≤maxLen∧∀y2∈y1,Term.ok y2)∧(x.Bars.length≤maxLen∧∀y1∈x.Bars,Term.ok y1)
def File.ok (x:File):Prop:=(x.Path.size≤maxLen)∧(x.Data.length≤maxLen∧∀y1∈x.Data,IntKind.u8.min≤y1∧y1≤IntKind.u8.max)
def zC.ok (x:zC):Prop:=(x.Files.length≤maxLen∧∀y1∈x.Files,File.ok y1)∧(IntKind.i64.min≤x.Budget∧x.Budget≤IntKind.i64.max)∧(IntKind.i64.min≤x.Writes∧x.Writes≤IntKind.i64.max)∧(IntKind.i64.min≤x.Stop∧x.Stop≤IntKind.i64.max)∧(True)
theorem zMw (x:(List Int)) (hx:x.length≤maxLen∧∀y1∈x,IntKind.u8.min≤y1∧y1≤IntKind.u8.max) (l:Int) (h0:0≤l) (h1:l≤1048576):∃r,zC2 x l=some r∧(r<0∨(0≤r∧r≤l∧(x.length≤1048576∧∀y0∈x,True))):=by
 obtain ⟨hm,hx⟩:=hx
 unfold maxLen at hm
 unfold zC2
 rw [wC (x:=l-x.length) (by omega) (by omega)]
 by_cases c1:l-(x.length:Int)<0
 ·rw [if_pos (by simpa using c1)]
  exact ⟨_,rfl,.inl (by omega)⟩
 ·rw [if_neg (by simpa using c1)]
  exact ⟨_,rfl,.inr ⟨by omega,by omega,by omega,fun _ _=>trivial⟩⟩
def File.sm (B:Nat) (x:File):Prop:=(x.Path.size≤B)∧(x.Data.length≤B∧∀y0∈x.Data,True)
def zC.sm (B:Nat) (x:zC):Prop:=(x.Files.length≤B∧∀y0∈x.Files,File.sm B y0)∧(True)∧(True)∧(True)∧(True)
theorem zNC (x:File) (hx:File.ok x) (l:Int) (h0:0≤l) (h1:l≤1048576):∃r,zD0 x l=some r∧(r<0∨(0≤r∧r≤l∧(File.sm 1048576 x))):=by
 obtain ⟨k0,k1⟩:=hx
 unfold maxLen at*
 unfold zD0
 rw [wC (x:=l-x.Path.size) (by omega) (by omega)]
 by_cases c0:l-(x.Path.size:Int)<0
 ·rw [if_pos (by simpa using c0)]
  exact ⟨_,rfl,.inl (by omega)⟩
 rw [if_neg (by simpa using c0)]
 obtain ⟨r1,e1,g1⟩:=zMw x.Data k1 (l-x.Path.size) (by omega) (by omega)
 rw [e1]
 simp only [Option.bind_some]
 by_cases c1:r1<0
 ·rw [if_pos (by simpa using c1)]
  exact ⟨_,rfl,.inl (by omega)⟩
 rw [if_neg (by simpa using c1)]
 obtain ⟨p1,q1,z1⟩:=g1.resolve_left c1
 exact ⟨_,rfl,.inr ⟨by omega,by omega,by omega,z1⟩⟩
theorem zMd (x:(List File)) (hx:x.length≤maxLen∧∀y1∈x,File.ok y1) (l:Int) (h0:0≤l) (h1:l≤1048576):∃r,zCe x l=some r∧(r<0∨(0≤r∧r≤l∧(x.length≤1048576∧∀y0∈x,File.sm 1048576 y0))):=by
 obtain ⟨hm,hx⟩:=hx
 unfold maxLen at hm
 unfold zCe
 rw [wC (x:=l-x.length) (by omega) (by omega)]
 by_cases c1:l-(x.length:Int)<0
 ·rw [if_pos (by simpa using c1)]
  exact ⟨_,rfl,.inl (by omega)⟩
 ·rw [if_neg (by simpa using c1)]
  have key:=zHe x (fun y0=>File.sm 1048576 y0) (l-x.length) (b:=zBK x) ?_ ?_ (by omega)
  ·obtain ⟨t,h2,h3⟩:=key
   unfold zCG
   rw [h2]
   cases t with
   |ret r=>exact ⟨r,rfl,.inl h3⟩
   |nxt r=>exact ⟨r,rfl,.inr ⟨h3.1,by have:=h3.2.1; omega,by omega,h3.2.2⟩⟩
  ·intro q i hi hq0 hq1
   unfold zBK
   rw [if_pos (by simp; omega)]
   simp only [zK hi,Option.bind_some]
   have hi2:w64 ((i:Int)+1)=((i+1:Nat):Int):=zM (by omega)
   obtain ⟨r,e,hr⟩:=zNC x[i] (hx _ (List.getElem_mem hi)) q hq0 (by omega)
   rw [e]
   simp only [Option.bind_some]
   by_cases c:r<0
   ·rw [if_pos (by simpa using c)]
    exact .inr ⟨_,rfl,by omega⟩
   ·rw [if_neg (by simpa using c),hi2]
    obtain ⟨g1,g2,g3⟩:=hr.resolve_left c
    exact .inl ⟨_,rfl,g1,g2,g3⟩
  ·intro q
   unfold zBK
   rw [if_neg (by simp)]
theorem zMD (x:zC) (hx:zC.ok x) (l:Int) (h0:0≤l) (h1:l≤1048576):∃r,zDx x l=some r∧(r<0∨(0≤r∧r≤l∧(zC.sm 1048576 x))):=by
 obtain ⟨k0,k1,k2,k3,k4⟩:=hx
 unfold maxLen at*
 unfold zDx
 obtain ⟨r0,e0,g0⟩:=zMd x.Files k0 l (by omega) (by omega)
 rw [e0]
 simp only [Option.bind_some]
 by_cases c0:r0<0
 ·rw [if_pos (by simpa using c0)]
  exact ⟨_,rfl,.inl (by omega)⟩
 rw [if_neg (by simpa using c0)]
 obtain ⟨p0,q0,z0⟩:=g0.resolve_left c0
 exact ⟨_,rfl,.inr ⟨by omega,by omega,z0,trivial,trivial,trivial,trivial⟩⟩
def Version.sm (B:Nat) (x:Version):Prop:=(True)∧(True)∧(True)
def Term.sm (B:Nat) (x:Term):Prop:=(x.Name.size≤B)∧(Version.sm B x.Low)∧(Version.sm B x.High)
def Pack.sm (B:Nat) (x:Pack):Prop:=(x.Name.size≤B)∧(Version.sm B x.Version)∧(True)∧(x.Provides.length≤B∧∀y0∈x.Provides,y0.size≤B)∧(x.Needs.length≤B∧∀y0∈x.Needs,y0.length≤B∧∀y1∈y0,Term.sm B y1)∧(x.Bars.length≤B∧∀y0∈x.Bars,Term.sm B y0)
theorem zJ2 (x:(List ByteArray)) (hx:x.length≤maxLen∧∀y1∈x,y1.size≤maxLen) (l:Int) (h0:0≤l) (h1:l≤1048576):∃r,zAS x l=some r∧(r<0∨(0≤r∧r≤l∧(x.length≤1048576∧∀y0∈x,y0.size≤1048576))):=by
 obtain ⟨hm,hx⟩:=hx
 unfold maxLen at hm
 unfold zAS
 rw [wC (x:=l-x.length) (by omega) (by omega)]
 by_cases c1:l-(x.length:Int)<0
 ·rw [if_pos (by simpa using c1)]
  exact ⟨_,rfl,.inl (by omega)⟩
 ·rw [if_neg (by simpa using c1)]
  have key:=zHe x (fun y0=>y0.size≤1048576) (l-x.length) (b:=zA6 x) ?_ ?_ (by omega)
  ·obtain ⟨t,h2,h3⟩:=key
   unfold zBj
   rw [h2]
   cases t with
   |ret r=>exact ⟨r,rfl,.inl h3⟩
   |nxt r=>exact ⟨r,rfl,.inr ⟨h3.1,by have:=h3.2.1; omega,by omega,h3.2.2⟩⟩
  ·intro q i hi hq0 hq1
   unfold zA6
   rw [if_pos (by simp; omega)]
   simp only [zK hi,Option.bind_some]
   have hi2:w64 ((i:Int)+1)=((i+1:Nat):Int):=zM (by omega)
   have hs:=hx _ (List.getElem_mem hi)
   unfold maxLen at hs
   rw [wC (x:=q-(x[i]).size) (by omega) (by omega)]
   by_cases c:q-((x[i]).size :Int)<0
   ·rw [if_pos (by simpa using c)]
    exact .inr ⟨_,rfl,by omega⟩
   ·rw [if_neg (by simpa using c),hi2]
    exact .inl ⟨_,rfl,by omega,by omega,by show (x[i]).size ≤1048576; omega⟩
  ·intro q
   unfold zA6
   rw [if_neg (by simp)]
theorem zNu (x:Term) (hx:Term.ok x) (l:Int) (h0:0≤l) (h1:l≤1048576):∃r,zDy x l=some r∧(r<0∨(0≤r∧r≤l∧(Term.sm 1048576 x))):=by
 obtain ⟨k0,k1,k2⟩:=hx
 unfold maxLen at*
 unfold zDy
 rw [wC (x:=l-x.Name.size) (by omega) (by omega)]
 by_cases c0:l-(x.Name.size:Int)<0
 ·rw [if_pos (by simpa using c0)]
  exact ⟨_,rfl,.inl (by omega)⟩
 rw [if_neg (by simpa using c0)]
 exact ⟨_,rfl,.inr ⟨by omega,by omega,by omega,⟨trivial,trivial,trivial⟩,⟨trivial,trivial,trivial⟩⟩⟩
theorem zIo (x:(List Term)) (hx:x.length≤maxLen∧∀y1∈x,Term.ok y1) (l:Int) (h0:0≤l) (h1:l≤1048576):∃r,zAB x l=some r∧(r<0∨(0≤r∧r≤l∧(x.length≤1048576∧∀y0∈x,Term.sm 1048576 y0))):=by
 obtain ⟨hm,hx⟩:=hx
 unfold maxLen at hm
 unfold zAB
 rw [wC (x:=l-x.length) (by omega) (by omega)]
 by_cases c1:l-(x.length:Int)<0
 ·rw [if_pos (by simpa using c1)]
  exact ⟨_,rfl,.inl (by omega)⟩
 ·rw [if_neg (by simpa using c1)]
  have key:=zHe x (fun y0=>Term.sm 1048576 y0) (l-x.length) (b:=zBG x) ?_ ?_ (by omega)
  ·obtain ⟨t,h2,h3⟩:=key
   unfold zCE
   rw [h2]
   cases t with
   |ret r=>exact ⟨r,rfl,.inl h3⟩
   |nxt r=>exact ⟨r,rfl,.inr ⟨h3.1,by have:=h3.2.1; omega,by omega,h3.2.2⟩⟩
  ·intro q i hi hq0 hq1
   unfold zBG
   rw [if_pos (by simp; omega)]
   simp only [zK hi,Option.bind_some]
   have hi2:w64 ((i:Int)+1)=((i+1:Nat):Int):=zM (by omega)
   obtain ⟨r,e,hr⟩:=zNu x[i] (hx _ (List.getElem_mem hi)) q hq0 (by omega)
   rw [e]
   simp only [Option.bind_some]
   by_cases c:r<0
   ·rw [if_pos (by simpa using c)]
    exact .inr ⟨_,rfl,by omega⟩
   ·rw [if_neg (by simpa using c),hi2]
    obtain ⟨g1,g2,g3⟩:=hr.resolve_left c
    exact .inl ⟨_,rfl,g1,g2,g3⟩
  ·intro q
   unfold zBG
   rw [if_neg (by simp)]
theorem zKY (x:(List (List Term))) (hx:x.length≤maxLen∧∀y1∈x,y1.length≤maxLen∧∀y2∈y1,Term.ok y2) (l:Int) (h0:0≤l) (h1:l≤1048576):∃r,zB2 x l=some r∧(r<0∨(0≤r∧r≤l∧(x.length≤1048576∧∀y0∈x,y0.length≤1048576∧∀y1∈y0,Term.sm 1048576 y1))):=by
 obtain ⟨hm,hx⟩:=hx
 unfold maxLen at hm
 unfold zB2
 rw [wC (x:=l-x.length) (by omega) (by omega)]
 by_cases c1:l-(x.length:Int)<0
 ·rw [if_pos (by simpa using c1)]
  exact ⟨_,rfl,.inl (by omega)⟩
 ·rw [if_neg (by simpa using c1)]
  have key:=zHe x (fun y0=>y0.length≤1048576∧∀y1∈y0,Term.sm 1048576 y1) (l-x.length) (b:=zBb x) ?_ ?_ (by omega)
  ·obtain ⟨t,h2,h3⟩:=key
   unfold zBJ
   rw [h2]
   cases t with
   |ret r=>exact ⟨r,rfl,.inl h3⟩
   |nxt r=>exact ⟨r,rfl,.inr ⟨h3.1,by have:=h3.2.1; omega,by omega,h3.2.2⟩⟩
  ·intro q i hi hq0 hq1
   unfold zBb
   rw [if_pos (by simp; omega)]
   simp only [zK hi,Option.bind_some]
   have hi2:w64 ((i:Int)+1)=((i+1:Nat):Int):=zM (by omega)
   obtain ⟨r,e,hr⟩:=zIo x[i] (hx _ (List.getElem_mem hi)) q hq0 (by omega)
   rw [e]
   simp only [Option.bind_some]
   by_cases c:r<0
   ·rw [if_pos (by simpa using c)]
    exact .inr ⟨_,rfl,by omega⟩
   ·rw [if_neg (by simpa using c),hi2]
    obtain ⟨g1,g2,g3⟩:=hr.resolve_left c
    exact .inl ⟨_,rfl,g1,g2,g3⟩
  ·intro q
   unfold zBb
   rw [if_neg (by simp)]
theorem zM4 (x:Pack) (hx:Pack.ok x) (l:Int) (h0:0≤l) (h1:l≤1048576):∃r,zDA x l=some r∧(r<0∨(0≤r∧r≤l∧(Pack.sm 1048576 x))):=by
 obtain ⟨k0,k1,k2,k3,k4,k5⟩:=hx
 unfold maxLen at*
 unfold zDA
 rw [wC (x:=l-x.Name.size) (by omega) (by omega)]
 by_cases c0:l-(x.Name.size:Int)<0
 ·rw [if_pos (by simpa using c0)]
  exact ⟨_,rfl,.inl (by omega)⟩
 rw [if_neg (by simpa using c0)]
 obtain ⟨r3,e3,g3⟩:=zJ2 x.Provides k3 (l-x.Name.size) (by omega) (by omega)
 rw [e3]
 simp only [Option.bind_some]
 by_cases c3:r3<0
 ·rw [if_pos (by simpa using c3)]
  exact ⟨_,rfl,.inl (by omega)⟩
 rw [if_neg (by simpa using c3)]
 obtain ⟨p3,q3,z3⟩:=g3.resolve_left c3
 obtain ⟨r4,e4,g4⟩:=zKY x.Needs k4 r3 (by omega) (by omega)
 rw [e4]
 simp only [Option.bind_some]
 by_cases c4:r4<0
 ·rw [if_pos (by simpa using c4)]
  exact ⟨_,rfl,.inl (by omega)⟩
 rw [if_neg (by simpa using c4)]
 obtain ⟨p4,q4,z4⟩:=g4.resolve_left c4
 obtain ⟨r5,e5,g5⟩:=zIo x.Bars k5 r4 (by omega) (by omega)
 rw [e5]
 simp only [Option.bind_some]
 by_cases c5:r5<0
 ·rw [if_pos (by simpa using c5)]
  exact ⟨_,rfl,.inl (by omega)⟩
 rw [if_neg (by simpa using c5)]
 obtain ⟨p5,q5,z5⟩:=g5.resolve_left c5
 exact ⟨_,rfl,.inr ⟨by omega,by omega,by omega,⟨trivial,trivial,trivial⟩,trivial,z3,z4,z5⟩⟩
theorem zLF (x:(List Pack)) (hx:x.length≤maxLen∧∀y1∈x,Pack.ok y1) (l:Int) (h0:0≤l) (h1:l≤1048576):∃r,zCF x l=some r∧(r<0∨(0≤r∧r≤l∧(x.length≤1048576∧∀y0∈x,Pack.sm 1048576 y0))):=by
 obtain ⟨hm,hx⟩:=hx
 unfold maxLen at hm
 unfold zCF
 rw [wC (x:=l-x.length) (by omega) (by omega)]
 by_cases c1:l-(x.length:Int)<0
 ·rw [if_pos (by simpa using c1)]
  exact ⟨_,rfl,.inl (by omega)⟩
 ·rw [if_neg (by simpa using c1)]
  have key:=zHe x (fun y0=>Pack.sm 1048576 y0) (l-x.length) (b:=zBL x) ?_ ?_ (by omega)
  ·obtain ⟨t,h2,h3⟩:=key
   unfold zCx
   rw [h2]
   cases t with
   |ret r=>exact ⟨r,rfl,.inl h3⟩
   |nxt r=>exact ⟨r,rfl,.inr ⟨h3.1,by have:=h3.2.1; omega,by omega,h3.2.2⟩⟩
  ·intro q i hi hq0 hq1
   unfold zBL
   rw [if_pos (by simp; omega)]
   simp only [zK hi,Option.bind_some]
   have hi2:w64 ((i:Int)+1)=((i+1:Nat):Int):=zM (by omega)
   obtain ⟨r,e,hr⟩:=zM4 x[i] (hx _ (List.getElem_mem hi)) q hq0 (by omega)
   rw [e]
   simp only [Option.bind_some]
   by_cases c:r<0
   ·rw [if_pos (by simpa using c)]
    exact .inr ⟨_,rfl,by omega⟩
   ·rw [if_neg (by simpa using c),hi2]
    obtain ⟨g1,g2,g3⟩:=hr.resolve_left c
    exact .inl ⟨_,rfl,g1,g2,g3⟩
  ·intro q
   unfold zBL
   rw [if_neg (by simp)]
theorem zMo (x:(List Int)) (hx:x.length≤1049600∧∀y0∈x,True):zC0 x=some x:=by
 have hl:=hx.1
 unfold zC0
 have hm:∀z:Int,mk 1 (x.length:Int) z=some (List.replicate x.length z):=fun z=>by
  unfold mk; rw [if_pos ⟨by omega,by simp; omega,by omega⟩]; simp
 rw [hm]
 simp only [Option.bind_some,zCl]
 rw [zGz x ?_ ?_ _ (by simp)]
 ·rfl
 ·intro ys i hi hl2
  unfold zDq
  rw [if_pos (by simp; omega)]
  have hi2:w64 ((i:Int)+1)=((i+1:Nat):Int):=zM (by omega)
  simp only [zK hi,zK (show i<ys.length by omega),Option.bind_some,Int.toNat_natCast,hi2]
 ·intro ys _
  unfold zDq
  rw [if_neg (by simp)]
theorem zM3 (x:File) (hx:File.sm 1049600 x):zDv x=some x:=by
 obtain ⟨h0,h1⟩:=hx
 unfold zDv
 simp only [zMo x.Data h1,Option.bind_some]
theorem zLG (x:(List File)) (hx:x.length≤1049600∧∀y0∈x,File.sm 1049600 y0):zCc x=some x:=by
 have hl:=hx.1
 unfold zCc
 have hm:∀z:File,mk 40 (x.length:Int) z=some (List.replicate x.length z):=fun z=>by
  unfold mk; rw [if_pos ⟨by omega,by simp; omega,by omega⟩]; simp
 rw [hm]
 simp only [Option.bind_some,zCJ]
 rw [zGz x ?_ ?_ _ (by simp)]
 ·rfl
 ·intro ys i hi hl2
  unfold zDl
  rw [if_pos (by simp; omega)]
  have hi2:w64 ((i:Int)+1)=((i+1:Nat):Int):=zM (by omega)
  simp only [zK hi,zK (show i<ys.length by omega),Option.bind_some,Int.toNat_natCast,hi2,zM3 x[i] (hx.2 _ (List.getElem_mem hi))]
 ·intro ys _
  unfold zDl
  rw [if_neg (by simp)]
theorem zNm (x:zC) (hx:zC.sm 1049600 x):tH x=some x:=by
 obtain ⟨h0,h1,h2,h3,h4⟩:=hx
 unfold tH
 simp only [zLG x.Files h0,Option.bind_some]
theorem zFh (x:Version) (hx:Version.sm 1049600 x):wZ x=some x:=by
 obtain ⟨h0,h1,h2⟩:=hx
 unfold wZ
 rfl
theorem zJU (x:(List ByteArray)) (hx:x.length≤1049600∧∀y0∈x,y0.size≤1049600):zAN x=some x:=by
 have hl:=hx.1
 unfold zAN
 have hm:∀z:ByteArray,mk 16 (x.length:Int) z=some (List.replicate x.length z):=fun z=>by
  unfold mk; rw [if_pos ⟨by omega,by simp; omega,by omega⟩]; simp
 rw [hm]
 simp only [Option.bind_some,zBf]
 rw [zGz x ?_ ?_ _ (by simp)]
 ·rfl
 ·intro ys i hi hl2
  unfold zBU
  rw [if_pos (by simp; omega)]
  have hi2:w64 ((i:Int)+1)=((i+1:Nat):Int):=zM (by omega)
  simp only [zK hi,zK (show i<ys.length by omega),Option.bind_some,Int.toNat_natCast,hi2]
 ·intro ys _
  unfold zBU
  rw [if_neg (by simp)]
theorem zMC (x:Term) (hx:Term.sm 1049600 x):zD8 x=some x:=by
 obtain ⟨h0,h1,h2⟩:=hx
 unfold zD8
 simp only [zFh x.Low h1,zFh x.High h2,Option.bind_some]
theorem zIu (x:(List Term)) (hx:x.length≤1049600∧∀y0∈x,Term.sm 1049600 y0):zAA x=some x:=by
 have hl:=hx.1
 unfold zAA
 have hm:∀z:Term,mk 64 (x.length:Int) z=some (List.replicate x.length z):=fun z=>by
  unfold mk; rw [if_pos ⟨by omega,by simp; omega,by omega⟩]; simp
 rw [hm]
 simp only [Option.bind_some,zCy]
 rw [zGz x ?_ ?_ _ (by simp)]
 ·rfl
 ·intro ys i hi hl2
  unfold zDn
  rw [if_pos (by simp; omega)]
  have hi2:w64 ((i:Int)+1)=((i+1:Nat):Int):=zM (by omega)
  simp only [zK hi,zK (show i<ys.length by omega),Option.bind_some,Int.toNat_natCast,hi2,zMC x[i] (hx.2 _ (List.getElem_mem hi))]
 ·intro ys _
  unfold zDn
  rw [if_neg (by simp)]
theorem zKX (x:(List (List Term))) (hx:x.length≤1049600∧∀y0∈x,y0.length≤1049600∧∀y1∈y0,Term.sm 1049600 y1):zBw x=some x:=by
 have hl:=hx.1
 unfold zBw
 have hm:∀z:(List Term),mk 24 (x.length:Int) z=some (List.replicate x.length z):=fun z=>by
  unfold mk; rw [if_pos ⟨by omega,by simp; omega,by omega⟩]; simp
 rw [hm]
 simp only [Option.bind_some,zBN]
 rw [zGz x ?_ ?_ _ (by simp)]
 ·rfl
 ·intro ys i hi hl2
  unfold zCS
  rw [if_pos (by simp; omega)]
  have hi2:w64 ((i:Int)+1)=((i+1:Nat):Int):=zM (by omega)
  simp only [zK hi,zK (show i<ys.length by omega),Option.bind_some,Int.toNat_natCast,hi2,zIu x[i] (hx.2 _ (List.getElem_mem hi))]
 ·intro ys _
  unfold zCS
  rw [if_neg (by simp)]
theorem zNl (x:Pack) (hx:Pack.sm 1049600 x):zD4 x=some x:=by
 obtain ⟨h0,h1,h2,h3,h4,h5⟩:=hx
 unfold zD4
 simp only [zFh x.Version h1,zJU x.Provides h3,zKX x.Needs h4,zIu x.Bars h5,Option.bind_some]
theorem zMe (x:(List Pack)) (hx:x.length≤1049600∧∀y0∈x,Pack.sm 1049600 y0):vR x=some x:=by
 have hl:=hx.1
 unfold vR
 have hm:∀z:Pack,mk 120 (x.length:Int) z=some (List.replicate x.length z):=fun z=>by
  unfold mk; rw [if_pos ⟨by omega,by simp; omega,by omega⟩]; simp
 rw [hm]
 simp only [Option.bind_some,zCg]
 rw [zGz x ?_ ?_ _ (by simp)]
 ·rfl
 ·intro ys i hi hl2
  unfold zDp
  rw [if_pos (by simp; omega)]
  have hi2:w64 ((i:Int)+1)=((i+1:Nat):Int):=zM (by omega)
  simp only [zK hi,zK (show i<ys.length by omega),Option.bind_some,Int.toNat_natCast,hi2,zNl x[i] (hx.2 _ (List.getElem_mem hi))]
 ·intro ys _
  unfold zDp
  rw [if_neg (by simp)]
theorem zJM (x:(List Int)) (hx:x.length≤1049600∧∀y0∈x,True):zC7 x x=some true:=by
 have hl:=hx.1
 unfold zC7
 rw [if_neg (by simp)]
 unfold zC8
 rw [zGr x.length ?_ ?_]
 ·rfl
 ·intro i hi
  unfold zDr
  rw [if_pos (by simp; omega)]
  have hi2:w64 ((i:Int)+1)=((i+1:Nat):Int):=zM (by omega)
  simp [zK hi,hi2]
 ·unfold zDr
  rw [if_neg (by simp)]
theorem zKP (x:File) (hx:File.sm 1049600 x):zDu x x=some true:=by
 obtain ⟨h0,h1⟩:=hx
 unfold zDu
 simp [zJM x.Data h1]
theorem zJD (x:(List File)) (hx:x.length≤1049600∧∀y0∈x,File.sm 1049600 y0):zCu x x=some true:=by
 have hl:=hx.1
 unfold zCu
 rw [if_neg (by simp)]
 unfold zCA
 rw [zGr x.length ?_ ?_]
 ·rfl
 ·intro i hi
  unfold zDs
  rw [if_pos (by simp; omega)]
  have hi2:w64 ((i:Int)+1)=((i+1:Nat):Int):=zM (by omega)
  simp [zK hi,hi2,zKP x[i] (hx.2 _ (List.getElem_mem hi))]
 ·unfold zDs
  rw [if_neg (by simp)]
theorem zHG (x:zC) (hx:zC.sm 1049600 x):zB0 x x=some true:=by
 obtain ⟨h0,h1,h2,h3,h4⟩:=hx
 unfold zB0
 simp [zJD x.Files h0]
def zH.sm (B:Nat) (x:zH):Prop:=(True)∧(zC.sm B x.zC)
theorem zGo (x:zH) (hx:zH.sm 1049600 x):wK x x=some true:=by
 obtain ⟨h0,h1⟩:=hx
 unfold wK
 simp [zHG x.zC h1]
theorem zEA (x:Version) (hx:Version.sm 1049600 x):vF x x=some true:=by
 obtain ⟨h0,h1,h2⟩:=hx
 unfold vF
 simp
theorem zHY (x:(List ByteArray)) (hx:x.length≤1049600∧∀y0∈x,y0.size≤1049600):zAJ x x=some true:=by
 have hl:=hx.1
 unfold zAJ
 rw [if_neg (by simp)]
 unfold zBd
 rw [zGr x.length ?_ ?_]
 ·rfl
 ·intro i hi
  unfold zBY
  rw [if_pos (by simp; omega)]
  have hi2:w64 ((i:Int)+1)=((i+1:Nat):Int):=zM (by omega)
  simp [zK hi,hi2]
 ·unfold zBY
  rw [if_neg (by simp)]
theorem zLj (x:Term) (hx:Term.sm 1049600 x):zD2 x x=some true:=by
 obtain ⟨h0,h1,h2⟩:=hx
 unfold zD2
 simp [zEA x.Low h1,zEA x.High h2]
theorem zGD (x:(List Term)) (hx:x.length≤1049600∧∀y0∈x,Term.sm 1049600 y0):zAr x x=some true:=by
 have hl:=hx.1
 unfold zAr
 rw [if_neg (by simp)]
 unfold zC1
 rw [zGr x.length ?_ ?_]
 ·rfl
 ·intro i hi
  unfold zDo
  rw [if_pos (by simp; omega)]
  have hi2:w64 ((i:Int)+1)=((i+1:Nat):Int):=zM (by omega)
  simp [zK hi,hi2,zLj x[i] (hx.2 _ (List.getElem_mem hi))]
 ·unfold zDo
  rw [if_neg (by simp)]
theorem zIZ (x:(List (List Term))) (hx:x.length≤1049600∧∀y0∈x,y0.length≤1049600∧∀y1∈y0,Term.sm 1049600 y1):zBv x x=some true:=by
 have hl:=hx.1
 unfold zBv
 rw [if_neg (by simp)]
 unfold zBI
 rw [zGr x.length ?_ ?_]
 ·rfl
 ·intro i hi
  unfold zCO
  rw [if_pos (by simp; omega)]
  have hi2:w64 ((i:Int)+1)=((i+1:Nat):Int):=zM (by omega)
  simp [zK hi,hi2,zGD x[i] (hx.2 _ (List.getElem_mem hi))]
 ·unfold zCO
  rw [if_neg (by simp)]
theorem zK9 (x:Pack) (hx:Pack.sm 1049600 x):zD1 x x=some true:=by
 obtain ⟨h0,h1,h2,h3,h4,h5⟩:=hx
 unfold zD1
 simp [zEA x.Version h1,zHY x.Provides h3,zIZ x.Needs h4,zGD x.Bars h5]
theorem zKd (x:(List Pack)) (hx:x.length≤1049600∧∀y0∈x,Pack.sm 1049600 y0):zC3 x x=some true:=by
 have hl:=hx.1
 unfold zC3
 rw [if_neg (by simp)]
 unfold zCh
 rw [zGr x.length ?_ ?_]
 ·rfl
 ·intro i hi
  unfold zDm
  rw [if_pos (by simp; omega)]
  have hi2:w64 ((i:Int)+1)=((i+1:Nat):Int):=zM (by omega)
  simp [zK hi,hi2,zK9 x[i] (hx.2 _ (List.getElem_mem hi))]
 ·unfold zDm
  rw [if_neg (by simp)]
theorem zGX (a:Int):(b2s [a]).size =1:=rfl
theorem zJh {k:Int} (h0:0≤k) (h1:k≤9223372036854775807):∃s,wD k=some s:=by
 have key:∀(n:Nat) (k:Int) (s:ByteArray),0≤k→k<10^n→k≤9223372036854775807→s.size+n≤1000→∃t,loop zCP (k,s)=some t∧t.size≤s.size+n:=by
  intro n
  induction n with
  |zero=>
   intro k s h0 h1 _ _
   have:k=0:=by simp at h1; omega
   subst this
   exact ⟨s,by rw [jO]; rfl,by omega⟩
  |succ n ih=>
   intro k s h0 h1 h2 h3
   by_cases hk:k>0
   ·rw [jO]
    unfold zCP
    simp only
    rw [if_pos (by simpa using hk)]
    have hc:∀a:Int,cat (b2s [a]) s=some (b2s [a]++s):=fun a=>by
     unfold cat; rw [if_pos (by rw [zGX]; omega)]
    rw [hc]
    simp only [Option.bind_some,Lp.elim]
    have hd:k.tdiv 10=k / 10:=Int.tdiv_eq_ediv_of_nonneg h0
    rw [hd,wC (by omega) (by omega)]
    obtain ⟨t,g1,g2⟩:=ih (k / 10) (b2s [IntKind.u8.wrap (w64 (48+k.tmod 10))]++s) (by omega) (by rw [Int.pow_succ] at h1; omega) (by omega) (by rw [ByteArray.size_append,zGX]; omega)
    refine ⟨t,g1,?_⟩
    rw [ByteArray.size_append,zGX] at g2
    omega
   ·have:k=0:=by omega
    subst this
    exact ⟨s,by rw [jO]; rfl,by omega⟩
 unfold wD
 by_cases hk:k≤0
 ·rw [if_pos (by simpa using hk)]
  exact ⟨_,rfl⟩
 ·rw [if_neg (by simpa using hk)]
  obtain ⟨t,g1,g2⟩:=key 19 k (bs []) h0 (by omega) h1 (by decide)
  unfold zBP
  rw [g1]
  simp only [Option.bind_some]
  have e0:(bs []).size =0:=rfl
  have e1:(bs [109]).size =1:=rfl
  unfold cat
  rw [if_pos (by omega)]
  exact ⟨_,rfl⟩
noncomputable def mT (k:Int):ByteArray:=(wD k).getD ByteArray.empty
theorem zE2 {k:Int} (h0:0≤k) (h1:k≤9223372036854775807):wD k=some (mT k):=by
 obtain ⟨s,hs⟩:=zJh h0 h1
 unfold mT
 rw [hs]
 rfl
def zLM (_:Int) (k:Int):Int:=IntKind.u8.wrap k
theorem zJb (xs:List Int) (hx:xs.length≤1049600∧∀y0∈xs,True) (k:Int) (h0:0≤k) (h1:k+cs c1 xs≤9223372036854775807):zAh xs k=some (k+cs c1 xs,pm zLM c1 xs k):=by
 unfold zAh zAw
 have key:=zE0 zLM c1 (fun y0=>True) zEl (b:=zAb) ?_ ?_ xs [] k hx.2 h0 h1 (by have:=hx.1; simp; omega)
 ·simp only [List.nil_append,List.length_nil,Int.natCast_zero] at key
  rw [key]
  rfl
 ·intro l r x k hP h0 hk hl
  simp only [c1] at hk
  have w0:=wC (x:=k+1) (by omega) (by omega)
  have hi2:w64 ((l.length:Int)+1)=((l.length+1:Nat):Int):=zM (by omega)
  unfold zAb
  rw [if_pos (by simp; omega)]
  simp only [zDE,zGs,Option.bind_some,Int.toNat_natCast,hi2,w0]
  rfl
 ·intro l k
  unfold zAb
  rw [if_neg (by simp)]
theorem zJY (xs:List Int) (hx:xs.length≤1049600∧∀y0∈xs,True) (k:Int) (h0:0≤k) (h1:k+cs c1 xs≤9223372036854775807):zAG (pm zLM c1 xs k) k=some (k+cs c1 xs):=by
 unfold zAG zBh
 have key:=zHi zLM c1 (fun y0=>True) zEl (b:=zAs) ?_ ?_ xs [] k hx.2 h0 h1 (by have:=hx.1; simp; omega)
 ·simp only [List.nil_append,List.length_nil,Int.natCast_zero] at key
  rw [key]
  rfl
 ·intro l r x k hP h0 hk hl
  simp only [c1] at hk
  have w0:=wC (x:=k+1) (by omega) (by omega)
  have hi2:w64 ((l.length:Int)+1)=((l.length+1:Nat):Int):=zM (by omega)
  unfold zAs
  rw [if_pos (by simp; omega)]
  simp [zDE,hi2,zLM,w0]
  all_goals (first|rfl|omega|(simp only [c1]; omega))
 ·intro l k
  unfold zAs
  rw [if_neg (by simp)]
noncomputable def mFile (x:File) (k:Int):File:=({Path:=mT (k),Data:=pm zLM c1 x.Data (k+1)}:File)
noncomputable def cFile (x:File):Int:=1+cs c1 x.Data
theorem zBp (x:File):0≤cFile x:=by
 have n1:=vH zEl x.Data
 unfold cFile
 omega
theorem zIC (xs:List File) (hx:xs.length≤1049600∧∀y0∈xs,File.sm 1049600 y0) (k:Int) (h0:0≤k) (h1:k+cs cFile xs≤9223372036854775807):zAa xs k=some (k+cs cFile xs,pm mFile cFile xs k):=by
 unfold zAa zAz
 have key:=zE0 mFile cFile (fun y0=>File.sm 1049600 y0) zBp (b:=kS) ?_ ?_ xs [] k hx.2 h0 h1 (by have:=hx.1; simp; omega)
 ·simp only [List.nil_append,List.length_nil,Int.natCast_zero] at key
  rw [key]
  rfl
 ·intro l r x k hP h0 hk hl
  simp only [cFile] at hk
  have n1:=vH zEl x.Data
  have t0:=zE2 (k:=k) (by omega) (by omega)
  have w0:=wC (x:=k+1) (by omega) (by omega)
  have t1:=zJb x.Data (hP.2) (k+1) (by omega) (by omega)
  have hi2:w64 ((l.length:Int)+1)=((l.length+1:Nat):Int):=zM (by omega)
  unfold kS
  rw [if_pos (by simp; omega)]
  simp only [zDE,zGs,Option.bind_some,Int.toNat_natCast,hi2,t0,w0,t1,zFI (zE1 _ _ _ _)]
  rw [show k+1+cs c1 x.Data=k+cFile x from by simp only [cFile]; omega]
  rfl
 ·intro l k
  unfold kS
  rw [if_neg (by simp)]
theorem zJ9 (xs:List File) (hx:xs.length≤1049600∧∀y0∈xs,File.sm 1049600 y0) (k:Int) (h0:0≤k) (h1:k+cs cFile xs≤9223372036854775807):zAM (pm mFile cFile xs k) k=some (k+cs cFile xs):=by
 unfold zAM zBn
 have key:=zHi mFile cFile (fun y0=>File.sm 1049600 y0) zBp (b:=zA8) ?_ ?_ xs [] k hx.2 h0 h1 (by have:=hx.1; simp; omega)
 ·simp only [List.nil_append,List.length_nil,Int.natCast_zero] at key
  rw [key]
  rfl
 ·intro l r x k hP h0 hk hl
  simp only [cFile] at hk
  have n1:=vH zEl x.Data
  have t0:=zE2 (k:=k) (by omega) (by omega)
  have w0:=wC (x:=k+1) (by omega) (by omega)
  have t1:=zJY x.Data (hP.2) (k+1) (by omega) (by omega)
  have z1:¬(k+1+cs c1 x.Data<0):=by omega
  have hi2:w64 ((l.length:Int)+1)=((l.length+1:Nat):Int):=zM (by omega)
  unfold zA8
  rw [if_pos (by simp; omega)]
  simp [zDE,hi2,mFile,t0,w0,t1,z1]
  all_goals (first|rfl|omega|(simp only [cFile]; omega))
 ·intro l k
  unfold zA8
  rw [if_neg (by simp)]
theorem zGB (x:zC) (hP:zC.sm 1049600 x) (k:Int) (h0:0≤k) (h1:k+cs cFile x.Files≤9223372036854775807):tN x k=some (k+cs cFile x.Files,pm mFile cFile x.Files (k)):=by
 have n0:=vH zBp x.Files
 have t0:=zIC x.Files (hP.1) (k) (by omega) (by omega)
 unfold tN
 simp only [t0,Option.bind_some,zFI (zE1 _ _ _ _)]
theorem zKR (x:zC) (hP:zC.sm 1049600 x) (k:Int) (h0:0≤k) (h1:k+cs cFile x.Files≤9223372036854775807):zB1 ({Files:=pm mFile cFile x.Files (k),Budget:=x.Budget,Writes:=x.Writes,Stop:=x.Stop,Down:=x.Down}:zC) k=some (k+cs cFile x.Files):=by
 have n0:=vH zBp x.Files
 have t0:=zJ9 x.Files (hP.1) (k) (by omega) (by omega)
 have z0:¬(k+cs cFile x.Files<0):=by omega
 unfold zB1
 simp [t0]
 all_goals (first|rfl|omega)
theorem zGg (x:zH) (hP:zH.sm 1049600 x) (k:Int) (h0:0≤k) (h1:k+cs cFile x.zC.Files≤9223372036854775807):wW x k=some (k+cs cFile x.zC.Files,pm mFile cFile x.zC.Files (k)):=by
 have n0:=vH zBp x.zC.Files
 have t0:=zGB x.zC (hP.2) (k) (by omega) (by omega)
 unfold wW
 simp only [t0,Option.bind_some,zFI (zE1 _ _ _ _)]
theorem zGm (x:zH) (hP:zH.sm 1049600 x) (k:Int) (h0:0≤k) (h1:k+cs cFile x.zC.Files≤9223372036854775807):wP ({Code:=x.Code,zC:=({Files:=pm mFile cFile x.zC.Files (k),Budget:=x.zC.Budget,Writes:=x.zC.Writes,Stop:=x.zC.Stop,Down:=x.zC.Down}:zC)}:zH) k=some (k+cs cFile x.zC.Files):=by
 have n0:=vH zBp x.zC.Files
 have t0:=zKR x.zC (hP.2) (k) (by omega) (by omega)
 have z0:¬(k+cs cFile x.zC.Files<0):=by omega
 unfold wP
 simp [t0]
 all_goals (first|rfl|omega)
noncomputable def zK6 (_:ByteArray) (k:Int):ByteArray:=mT k
theorem zH0 (xs:List ByteArray) (hx:xs.length≤1049600∧∀y0∈xs,y0.size≤1049600) (k:Int) (h0:0≤k) (h1:k+cs c1 xs≤9223372036854775807):uT xs k=some (k+cs c1 xs,pm zK6 c1 xs k):=by
 unfold uT jS
 have key:=zE0 zK6 c1 (fun y0=>y0.size≤1049600) zEl (b:=jF) ?_ ?_ xs [] k hx.2 h0 h1 (by have:=hx.1; simp; omega)
 ·simp only [List.nil_append,List.length_nil,Int.natCast_zero] at key
  rw [key]
  rfl
 ·intro l r x k hP h0 hk hl
  simp only [c1] at hk
  have t0:=zE2 (k:=k) (by omega) (by omega)
  have w0:=wC (x:=k+1) (by omega) (by omega)
  have hi2:w64 ((l.length:Int)+1)=((l.length+1:Nat):Int):=zM (by omega)
  unfold jF
  rw [if_pos (by simp; omega)]
  simp only [zDE,zGs,Option.bind_some,Int.toNat_natCast,hi2,t0,w0]
  rfl
 ·intro l k
  unfold jF
  rw [if_neg (by simp)]
noncomputable def zOl (x:Term) (k:Int):Term:=({Name:=mT (k),Low:=({A:=(k+1),B:=(k+1+1),C:=(k+1+1+1)}:Version),High:=({A:=(k+1+1+1+1),B:=(k+1+1+1+1+1),C:=(k+1+1+1+1+1+1)}:Version)}:Term)
noncomputable def zFi (x:Term):Int:=1+1+1+1+1+1+1
theorem zEj (x:Term):0≤zFi x:=by
 unfold zFi
 omega
theorem zFV (xs:List Term) (hx:xs.length≤1049600∧∀y0∈xs,Term.sm 1049600 y0) (k:Int) (h0:0≤k) (h1:k+cs zFi xs≤9223372036854775807):uD xs k=some (k+cs zFi xs,pm zOl zFi xs k):=by
 unfold uD zA5
 have key:=zE0 zOl zFi (fun y0=>Term.sm 1049600 y0) zEj (b:=kY) ?_ ?_ xs [] k hx.2 h0 h1 (by have:=hx.1; simp; omega)
 ·simp only [List.nil_append,List.length_nil,Int.natCast_zero] at key
  rw [key]
  rfl
 ·intro l r x k hP h0 hk hl
  simp only [zFi] at hk
  have t0:=zE2 (k:=k) (by omega) (by omega)
  have w0:=wC (x:=k+1) (by omega) (by omega)
  have w1:=wC (x:=k+1+1) (by omega) (by omega)
  have w2:=wC (x:=k+1+1+1) (by omega) (by omega)
  have w3:=wC (x:=k+1+1+1+1) (by omega) (by omega)
  have w4:=wC (x:=k+1+1+1+1+1) (by omega) (by omega)
  have w5:=wC (x:=k+1+1+1+1+1+1) (by omega) (by omega)
  have w6:=wC (x:=k+1+1+1+1+1+1+1) (by omega) (by omega)
  have hi2:w64 ((l.length:Int)+1)=((l.length+1:Nat):Int):=zM (by omega)
  unfold kY
  rw [if_pos (by simp; omega)]
  simp only [zDE,zGs,Option.bind_some,Int.toNat_natCast,hi2,t0,w0,w1,w2,w3,w4,w5,w6]
  rw [show k+1+1+1+1+1+1+1=k+zFi x from by simp only [zFi]; omega]
  rfl
 ·intro l k
  unfold kY
  rw [if_neg (by simp)]
noncomputable def zMF (x:(List Term)) (k:Int):(List Term):=pm zOl zFi x k
noncomputable def zEM (x:(List Term)):Int:=cs zFi x
theorem zEV (x:(List Term)):0≤zEM x:=vH zEj x
theorem zIb (xs:List (List Term)) (hx:xs.length≤1049600∧∀y0∈xs,y0.length≤1049600∧∀y1∈y0,Term.sm 1049600 y1) (k:Int) (h0:0≤k) (h1:k+cs zEM xs≤9223372036854775807):jN xs k=some (k+cs zEM xs,pm zMF zEM xs k):=by
 unfold jN zAc
 have key:=zE0 zMF zEM (fun y0=>y0.length≤1049600∧∀y1∈y0,Term.sm 1049600 y1) zEV (b:=jT) ?_ ?_ xs [] k hx.2 h0 h1 (by have:=hx.1; simp; omega)
 ·simp only [List.nil_append,List.length_nil,Int.natCast_zero] at key
  rw [key]
  rfl
 ·intro l r x k hP h0 hk hl
  simp only [zEM] at hk
  have n0:=vH zEj x
  have t0:=zFV x (hP) (k) (by omega) (by omega)
  have hi2:w64 ((l.length:Int)+1)=((l.length+1:Nat):Int):=zM (by omega)
  unfold jT
  rw [if_pos (by simp; omega)]
  simp only [zDE,zGs,Option.bind_some,Int.toNat_natCast,hi2,t0,zFI (zE1 _ _ _ _)]
  rfl
 ·intro l k
  unfold jT
  rw [if_neg (by simp)]
noncomputable def zQ9 (x:Pack) (k:Int):Pack:=({Name:=mT (k),Version:=({A:=(k+1),B:=(k+1+1),C:=(k+1+1+1)}:Version),Size:=(k+1+1+1+1),Provides:=pm zK6 c1 x.Provides (k+1+1+1+1+1),Needs:=pm zMF zEM x.Needs (k+1+1+1+1+1+cs c1 x.Provides),Bars:=pm zOl zFi x.Bars (k+1+1+1+1+1+cs c1 x.Provides+cs zEM x.Needs)}:Pack)
noncomputable def zGe (x:Pack):Int:=1+1+1+1+1+cs c1 x.Provides+cs zEM x.Needs+cs zFi x.Bars
theorem zGH (x:Pack):0≤zGe x:=by
 have n5:=vH zEl x.Provides
 have n6:=vH zEV x.Needs
 have n7:=vH zEj x.Bars
 unfold zGe
 omega
theorem zJp (xs:List Pack) (hx:xs.length≤1049600∧∀y0∈xs,Pack.sm 1049600 y0) (k:Int) (h0:0≤k) (h1:k+cs zGe xs≤9223372036854775807):zAd xs k=some (k+cs zGe xs,pm zQ9 zGe xs k):=by
 unfold zAd zAt
 have key:=zE0 zQ9 zGe (fun y0=>Pack.sm 1049600 y0) zGH (b:=kT) ?_ ?_ xs [] k hx.2 h0 h1 (by have:=hx.1; simp; omega)
 ·simp only [List.nil_append,List.length_nil,Int.natCast_zero] at key
  rw [key]
  rfl
 ·intro l r x k hP h0 hk hl
  simp only [zGe] at hk
  have n5:=vH zEl x.Provides
  have n6:=vH zEV x.Needs
  have n7:=vH zEj x.Bars
  have t0:=zE2 (k:=k) (by omega) (by omega)
  have w0:=wC (x:=k+1) (by omega) (by omega)
  have w1:=wC (x:=k+1+1) (by omega) (by omega)
  have w2:=wC (x:=k+1+1+1) (by omega) (by omega)
  have w3:=wC (x:=k+1+1+1+1) (by omega) (by omega)
  have w4:=wC (x:=k+1+1+1+1+1) (by omega) (by omega)
  have t5:=zH0 x.Provides (hP.2.2.2.1) (k+1+1+1+1+1) (by omega) (by omega)
  have t6:=zIb x.Needs (hP.2.2.2.2.1) (k+1+1+1+1+1+cs c1 x.Provides) (by omega) (by omega)
  have t7:=zFV x.Bars (hP.2.2.2.2.2) (k+1+1+1+1+1+cs c1 x.Provides+cs zEM x.Needs) (by omega) (by omega)
  have hi2:w64 ((l.length:Int)+1)=((l.length+1:Nat):Int):=zM (by omega)
  unfold kT
  rw [if_pos (by simp; omega)]
  simp only [zDE,zGs,Option.bind_some,Int.toNat_natCast,hi2,t0,w0,w1,w2,w3,w4,t5,t6,t7,zFI (zE1 _ _ _ _)]
  rw [show k+1+1+1+1+1+cs c1 x.Provides+cs zEM x.Needs+cs zFi x.Bars=k+zGe x from by simp only [zGe]; omega]
  rfl
 ·intro l k
  unfold kT
  rw [if_neg (by simp)]
theorem Version.zDU {x:Version} (h:Version.sm 1048576 x):Version.sm 1049600 x:=⟨trivial,trivial,trivial⟩
theorem Term.zDU {x:Term} (h:Term.sm 1048576 x):Term.sm 1049600 x:=⟨(Nat.le_trans h.1 (by decide)),(Version.zDU h.2.1),(Version.zDU h.2.2)⟩
theorem Pack.zDU {x:Pack} (h:Pack.sm 1048576 x):Pack.sm 1049600 x:=⟨(Nat.le_trans h.1 (by decide)),(Version.zDU h.2.1),trivial,⟨Nat.le_trans h.2.2.2.1.1 (by decide),fun y0 z0=>(Nat.le_trans (h.2.2.2.1.2 y0 z0) (by decide))⟩,⟨Nat.le_trans h.2.2.2.2.1.1 (by decide),fun y0 z0=>⟨Nat.le_trans (h.2.2.2.2.1.2 y0 z0).1 (by decide),fun y1 z1=>(Term.zDU ((h.2.2.2.2.1.2 y0 z0).2 y1 z1))⟩⟩,⟨Nat.le_trans h.2.2.2.2.2.1 (by decide),fun y0 z0=>(Term.zDU (h.2.2.2.2.2.2 y0 z0))⟩⟩
theorem File.zDU {x:File} (h:File.sm 1048576 x):File.sm 1049600 x:=⟨(Nat.le_trans h.1 (by decide)),⟨Nat.le_trans h.2.1 (by decide),fun y0 z0=>trivial⟩⟩
theorem zC.zDU {x:zC} (h:zC.sm 1048576 x):zC.sm 1049600 x:=⟨⟨Nat.le_trans h.1.1 (by decide),fun y0 z0=>(File.zDU (h.1.2 y0 z0))⟩,trivial,trivial,trivial,trivial⟩
theorem zJ5 (x:(List ByteArray)) (hx:x.length≤1049600∧∀y0∈x,y0.size≤1049600):cs c1 x≤1049600:=by
 have:=zKU (c:=c1) (C:=1) (N:=1049600) (by decide) x (fun a _=>by unfold c1; decide) hx.1
 omega
theorem zIj (x:(List Term)) (hx:x.length≤1049600∧∀y0∈x,Term.sm 1049600 y0):cs zFi x≤7347200:=by
 have:=zKU (c:=zFi) (C:=7) (N:=1049600) (by decide) x (fun a ha=>by have hP:=hx.2 a ha; unfold zFi; omega) hx.1
 omega
theorem zKJ (x:(List (List Term))) (hx:x.length≤1049600∧∀y0∈x,y0.length≤1049600∧∀y1∈y0,Term.sm 1049600 y1):cs zEM x≤7711621120000:=by
 have:=zKU (c:=zEM) (C:=7347200) (N:=1049600) (by decide) x (fun a ha=>zIj a (hx.2 a ha)) hx.1
 omega
theorem zMk (x:(List Pack)) (hx:x.length≤1049600∧∀y0∈x,Pack.sm 1049600 y0):cs zGe x≤8094126340838528000:=by
 have:=zKU (c:=zGe) (C:=7711629516805) (N:=1049600) (by decide) x (fun a ha=>by have hP:=hx.2 a ha; have q5:=zJ5 a.Provides (hP.2.2.2.1); have q6:=zKJ a.Needs (hP.2.2.2.2.1); have q7:=zIj a.Bars (hP.2.2.2.2.2); unfold zGe; omega) hx.1
 omega
theorem zMt (x:(List Int)) (hx:x.length≤1049600∧∀y0∈x,True):cs c1 x≤1049600:=by
 have:=zKU (c:=c1) (C:=1) (N:=1049600) (by decide) x (fun a _=>by unfold c1; decide) hx.1
 omega
theorem zIg (x:(List File)) (hx:x.length≤1049600∧∀y0∈x,File.sm 1049600 y0):cs cFile x≤1101661209600:=by
 have:=zKU (c:=cFile) (C:=1049601) (N:=1049600) (by decide) x (fun a ha=>by have hP:=hx.2 a ha; have q1:=zMt a.Data (hP.2); unfold cFile; omega) hx.1
 omega
theorem zFc (a1:(List Pack)) (a2:zC) (a3:Int) (k0:a1.length≤maxLen∧∀y1∈a1,Pack.ok y1) (k1:zC.ok a2) (k2:IntKind.i64.min≤a3∧a3≤IntKind.i64.max) (both:(a1.length≤1048576∧∀y0∈a1,Pack.sm 1048576 y0)→(zC.sm 1048576 a2)→(True)→∃r,jD a1 a2 a3=some r∧vD a1 a2 a3=some r∧(zH.sm 1049600 r)):wR a1 a2 a3=some true:=by
 unfold wR
 obtain ⟨r1,e1,g1⟩:=zLF a1 k0 1048576 (by omega) (by omega)
 rw [e1]
 simp only [Option.bind_some]
 by_cases d1:r1<0
 ·rw [if_pos (by simpa using d1)]
 rw [if_neg (by simpa using d1)]
 obtain ⟨p1,q1,s_a1⟩:=g1.resolve_left d1
 obtain ⟨r2,e2,g2⟩:=zMD a2 k1 r1 (by omega) (by omega)
 rw [e2]
 simp only [Option.bind_some]
 by_cases d2:r2<0
 ·rw [if_pos (by simpa using d2)]
 rw [if_neg (by simpa using d2)]
 obtain ⟨p2,q2,s_a2⟩:=g2.resolve_left d2
 have s_a3:True:=trivial
 obtain ⟨r,e1,e2,hr⟩:=both s_a1 s_a2 s_a3
 have m_a1:a1.length≤1049600∧∀y0∈a1,Pack.sm 1049600 y0:=⟨Nat.le_trans s_a1.1 (by decide),fun y0 z0=>(Pack.zDU (s_a1.2 y0 z0))⟩
 have m_a2:zC.sm 1049600 a2:=(zC.zDU s_a2)
 have m_a3:True:=trivial
 have n1:=vH zGH a1
 have b1:=zMk a1 (m_a1)
 have n3:=vH zBp a2.Files
 have b3:=zIg a2.Files (m_a2.1)
 have n5:=vH zBp r.zC.Files
 have b5:=zIg r.zC.Files (hr.2.1)
 have t2:=zJp a1 m_a1 (1) (by omega) (by omega)
 have t4:=zGB a2 m_a2 (1+cs zGe a1) (by omega) (by omega)
 have z1:¬(1+cs zGe a1+cs cFile a2.Files<0):=by omega
 have t6:=zGg r hr 1 (by omega) (by omega)
 have u6:=zGm r hr 1 (by omega) (by omega)
 have z2:¬(1+cs cFile r.zC.Files<0):=by omega
 simp [e1,e2,zMe a1 m_a1,zKd a1 m_a1,zNm a2 m_a2,zHG a2 m_a2,zGo r hr,t2,t4,z1,t6,u6,z2,zFI (zE1 _ _ _ _)]
def bl (s:ByteArray):List Int:=s.toList.map (fun b=>(b.toNat:Int))
theorem yP (s:ByteArray):(bl s).length =s.size:=by
 unfold bl
 rw [List.length_map,ByteArray.toList_eq]
 rfl
theorem zEv {s:ByteArray} {i:Nat} (h:i< (bl s).length):bidx s (i:Int)=some (bl s)[i]:=by
 unfold bidx
 rw [if_pos (by omega)]
 have hs:i<s.size:=by rw [yP] at h; exact h
 have e:s[(i:Int).toNat]? =some s[i]:=by simp [hs]
 rw [e]
 simp only [Option.map_some,bl,List.getElem_map]
 congr 2
 simp only [ByteArray.toList_eq]
 rfl
theorem zGO {s:ByteArray}:∀c∈bl s,0≤c∧c≤255:=by
 intro c hc
 unfold bl at hc
 obtain ⟨b,_,rfl⟩:=List.mem_map.1 hc
 have:=b.toNat_lt
 omega
theorem zGW:∀(a:List UInt8),Op.bytesLess a a=false
 |[]=>rfl
 |x::a=>by simp [Op.bytesLess,zGW a]
theorem zI4:∀{a b c:List UInt8},Op.bytesLess a b=true→Op.bytesLess b c=true→Op.bytesLess a c=true
 |_,[],_,h,_=>by simp [Op.bytesLess] at h
 |_,_::_,[],_,h=>by simp [Op.bytesLess] at h
 |[],_::_,_::_,_,_=>by simp [Op.bytesLess]
 |x::a,y::b,z::c,h1,h2=>by
  simp only [Op.bytesLess,Bool.or_eq_true,decide_eq_true_eq,Bool.and_eq_true,beq_iff_eq] at h1 h2 ⊢
  rcases h1 with h1|⟨rfl,h1⟩
  ·rcases h2 with h2|⟨rfl,h2⟩
   ·exact .inl (UInt8.lt_trans h1 h2)
   ·exact .inl h1
  ·rcases h2 with h2|⟨rfl,h2⟩
   ·exact .inl h2
   ·exact .inr ⟨rfl,zI4 h1 h2⟩
theorem zLu:∀(a b:List UInt8),Op.bytesLess a b=false→a≠b→Op.bytesLess b a=true
 |[],[],_,h=>absurd rfl h
 |[],_::_,h,_=>by simp [Op.bytesLess] at h
 |_::_,[],_,_=>by simp [Op.bytesLess]
 |x::a,y::b,h,hne=>by
  simp only [Op.bytesLess,Bool.or_eq_false_iff,decide_eq_false_iff_not,Bool.and_eq_false_iff,beq_eq_false_iff_ne] at h
  simp only [Op.bytesLess,Bool.or_eq_true,decide_eq_true_eq,Bool.and_eq_true,beq_iff_eq]
  by_cases hxy:x=y
  ·subst hxy
   refine .inr ⟨rfl,zLu a b ?_ (fun e=>hne (by rw [e]))⟩
   rcases h.2 with h'|h'
   ·exact absurd rfl h'
   ·exact h'
  ·refine .inl ?_
   have:=h.1
   rw [UInt8.lt_iff_toNat_lt] at this ⊢
   have:x.toNat≠y.toNat:=fun e=>hxy (UInt8.toNat_inj.1 e)
   omega
theorem toList_inj {a b:ByteArray} (h:a.toList=b.toList):a=b:=by
 rw [ByteArray.toList_eq,ByteArray.toList_eq] at h
 cases a; cases b
 simp at h
 rw [h]
theorem zFy (a:ByteArray):slt a a=false:=zGW _
theorem zFU {a b c:ByteArray} (h1:slt a b=true) (h2:slt b c=true):slt a c=true:=zI4 h1 h2
theorem zPr {a b:ByteArray} (h:slt a b=false) (hne:a≠b):slt b a=true:=zLu _ _ h (fun e=>hne (toList_inj e))
theorem zGn {a b:ByteArray}:seq a b=true↔a=b:=by
 unfold seq
 simp only [beq_iff_eq]
 exact ⟨toList_inj,fun e=>by rw [e]⟩
theorem seq_eq (a b:ByteArray):seq a b=decide (a=b):=by
 rw [Bool.eq_iff_iff,zGn]; simp
theorem zQx (a b c:Int):wE a b c=some (decide (a≥b)&&decide (a≤c)):=by
 unfold wE
 cases decide (a≥b)<;>rfl
theorem zEn (a b:ByteArray):bl (a++b)=bl a++bl b:=by
 unfold bl
 rw [ByteArray.toList_eq,ByteArray.toList_eq,ByteArray.toList_eq]
 simp
theorem zDB (s:ByteArray) (i j:Nat):bl (s.extract i j)=((bl s).drop i).take (j-i):=by
 unfold bl
 rw [ByteArray.toList_eq,ByteArray.toList_eq]
 simp [List.map_drop,List.map_take]
theorem zHx {a b:ByteArray}:bl a=bl b↔a=b:=by
 constructor
 ·intro h
  unfold bl at h
  refine toList_inj ?_
  have hinj:∀(x y:List UInt8),x.map (fun b=>(b.toNat:Int))=y.map (fun b=>(b.toNat:Int))→x=y:=by
   intro x
   induction x with
   |nil=>intro y h; cases y<;>simp_all
   |cons u x ih=>
    intro y h
    cases y with
    |nil=>simp at h
    |cons v y=>
     simp only [List.map_cons,List.cons.injEq] at h
     rw [ih y h.2]
     have:u.toNat=v.toNat:=by omega
     rw [UInt8.toNat_inj.1 this]
  exact hinj _ _ h
 ·intro h; rw [h]
theorem zMI (a b:ByteArray):seq a b=decide (bl a=bl b):=by
 rw [seq_eq]
 simp [zHx]
theorem zKH {c:Int} (h0:0≤c) (h1:c≤255):bl (b2s [c])=[c]:=by
 unfold bl b2s
 rw [ByteArray.toList_eq]
 simp only [List.foldl_cons,List.foldl_nil]
 show [((UInt8.ofNat c.toNat).toNat :Int)]=[c]
 simp
 omega
theorem wrap_u8 {c:Int} (h0:0≤c) (h1:c≤255):IntKind.u8.wrap c=c:=by
 simp only [IntKind.wrap,IntKind.signed,IntKind.bits]
 simp
 omega
def zF9 (n:Nat):List Int:=if n<10 then [48+(n:Int)] else zF9 (n / 10)++[48+((n%10:Nat):Int)]
termination_by n
decreasing_by omega
theorem zBe {n:Nat} (h:n<10):zF9 n=[48+(n:Int)]:=by rw [zF9,if_pos h]
theorem zEx {n:Nat} (h:¬n<10):zF9 n=zF9 (n / 10)++[48+((n%10:Nat):Int)]:=by rw [zF9,if_neg h]
theorem zFL:∀(k n:Nat),10^k≤n→n<10^(k+1)→(zF9 n).length =k+1
 |0,n,_,h=>by rw [zBe (by simpa using h)]; rfl
 |k+1,n,h1,h2=>by
  have hp:1≤10^k:=Nat.one_le_pow _ _ (by omega)
  rw [Nat.pow_succ] at h1
  rw [Nat.pow_succ] at h2
  rw [zEx (by omega),List.length_append,zFL k (n / 10) (by omega) (by omega)]
  rfl
theorem zHa:∀(k n:Nat),n<10^(k+1)→(zF9 n).length ≤k+1
 |0,n,h=>by rw [zBe (by simpa using h)]; simp
 |k+1,n,h=>by
  by_cases hn:n<10
  ·rw [zBe hn]; simp
  ·rw [Nat.pow_succ] at h
   rw [zEx hn,List.length_append]
   have:=zHa k (n / 10) (by omega)
   simp only [List.length_singleton]
   omega
theorem zHT (g:Int→Option ByteArray) (a1:Int):uM g a1=if decide (a1<10) then some (b2s [IntKind.u8.wrap (w64 (48+a1))]) else (g (w64 (a1.tdiv 10))).bind fun x3=>(cat x3 (b2s [IntKind.u8.wrap (w64 (48+(a1.tmod 10)))])).bind fun x5=>some x5:=rfl
theorem zFC:∀(k f n:Nat),n<10^(k+1)→k<f→n≤9000000000000000000→k≤100→∃s,zPt uM f (n:Int)=some s∧bl s=zF9 n
 |k,0,n,_,hf,_,_=>by omega
 |k,f+1,n,h,hf,hn,hk=>by
  rw [show zPt uM (f+1) (n:Int)=uM (zPt uM f) (n:Int) from rfl,zHT]
  by_cases h1:n<10
  ·rw [if_pos (by simp; omega),wC (by omega) (by omega),wrap_u8 (by omega) (by omega)]
   exact ⟨_,rfl,by rw [zKH (by omega) (by omega),zBe h1]⟩
  ·rw [if_neg (by simp; omega)]
   cases k with
   |zero=>simp at h; omega
   |succ k=>
    have e1:w64 ((n:Int).tdiv 10)=((n / 10:Nat):Int):=by
     rw [Int.tdiv_eq_ediv_of_nonneg (by omega),wC (by omega) (by omega)]; omega
    have e2:(n:Int).tmod 10=((n%10:Nat):Int):=by
     rw [Int.tmod_eq_emod_of_nonneg (by omega)]; omega
    rw [Nat.pow_succ] at h
    obtain ⟨s,e,hs⟩:=zFC k f (n / 10) (by omega) (by omega) (by omega) (by omega)
    rw [e1,e2,e,wC (by omega) (by omega),wrap_u8 (by omega) (by omega)]
    have hsz:s.size≤k+1:=by
     rw [←yP,hs]
     exact zHa k (n / 10) (by omega)
    simp only [Option.bind_some]
    unfold cat
    rw [if_pos (by have:(b2s [48+((n%10:Nat):Int)]).size =1:=rfl; omega)]
    exact ⟨_,rfl,by rw [zEn,hs,zKH (by omega) (by omega),zEx h1]⟩
theorem zEC (n:Nat) (h:n≤9000000000000000000):∃s,xY (n:Int)=some s∧bl s=zF9 n:=
 zFC 18 64 n (by omega) (by omega) h (by omega)
theorem zLd (l:List UInt8):bl (bs l)=l.map (fun b=>(b.toNat:Int)):=by
 unfold bl bs
 rw [ByteArray.toList_eq]
theorem zEo {a b:ByteArray} (h:a.size+b.size≤1099511627776):cat a b=some (a++b):=if_pos h
theorem zIL (a b c:ByteArray):a++b++c=a++(b++c):=zHx.1 (by simp only [zEn,List.append_assoc])
theorem zEq (a b:ByteArray):(a++b).size =a.size+b.size:=by
 rw [←yP,zEn,List.length_append,yP,yP]
theorem zFB {n:Nat} (h:n<256):(UInt8.ofNat n).toNat =n:=by
 simp [Nat.mod_eq_of_lt h]
theorem decDigits_eq:∀(n:Nat),(Lib.decDigits n).map (fun b=>(b.toNat:Int))=zF9 n:=by
 intro n
 induction n using Nat.strongRecOn with
 |ind n ih=>
  rw [Lib.decDigits]
  by_cases h:n<10
  ·rw [dif_pos h,zBe h]
   simp only [List.map_cons,List.map_nil]
   rw [zFB (by omega)]
   simp
  ·rw [dif_neg h,zEx h,List.map_append,ih (n / 10) (by omega)]
   simp only [List.map_cons,List.map_nil]
   rw [zFB (by omega)]
   simp
def zHK (n:Nat):ByteArray:=⟨(Lib.decDigits n).toArray⟩
theorem zER (n:Nat):bl (zHK n)=zF9 n:=by
 unfold bl zHK
 rw [ByteArray.toList_eq]
 exact decDigits_eq n
theorem zGG (n:Nat) (h:n≤9000000000000000000):xY (n:Int)=some (zHK n):=by
 obtain ⟨s,e,hs⟩:=zEC n h
 rw [e,zHx.1 (hs.trans (zER n).symm)]
theorem zFk (n:Nat) (h:n≤9000000000000000000):uS (n:Int) 10=some (zHK n):=by
 unfold uS
 rw [if_pos (by omega)]
 unfold Lib.itoa zHK
 rw [if_neg (by omega)]
 simp
def inB (a b c:Int):Bool:=decide (b≤a)&&decide (a≤c)
theorem zLk (a b c:Int):wE a b c=some (inB a b c):=by
 unfold wE inB
 by_cases h:a≥b<;>simp [h]
theorem zKh (a b c:Int):xM a b c=some (inB a b c):=by
 unfold xM inB
 by_cases h:b≤a<;>simp [h]
section del
variable {α:Type} (p:α→Bool)
theorem zKI {xs:List α} {l h:Nat} (h1:l≤h) (h2:h≤xs.length):zFw xs (l:Int) (h:Int)=some ((xs.drop l).take (h-l)):=by
 unfold zFw
 rw [if_pos (by omega)]
 rfl
end del
section del
variable {α:Type} (p:α→Bool)
theorem zP9 {xs:List α} {l n:Nat} {a:α} (h:l+n≤xs.length):zNT xs (l:Int) n a=some (xs.take l++List.replicate n a++xs.drop (l+n)):=by
 unfold zNT
 rw [if_pos (by omega)]
 simp [ovr]
end del
section del
variable {α:Type} (p:α→Bool)
theorem zO3 {R:Type} (a1:List α) (out:Int→R) {b:Int→Option (Lp Int (Fl R Unit))} (hl:a1.length<9223372036854775807)
  (hstep:∀(i:Nat) (hi:i<a1.length),b (i:Int)=some (if p a1[i] then .done (.ret (out i)) else .go ((i+1:Nat):Int))) (hend:b (a1.length:Int)=some (.done (.nxt ()))):
  ∃t,loop b 0=some t∧((t= .nxt ()∧∀x∈a1,p x=false)∨∃i:Nat,∃hi:i<a1.length,t= .ret (out i)∧p a1[i]=true∧∀x∈a1.take i,p x=false):=by
 refine kX (b:=b) (fun i s=>s=(i:Int)∧∀x∈a1.take i,p x=false) a1.length _ (by
  rintro i s hi ⟨rfl,hn⟩
  have e:=hstep i hi
  cases hp:p a1[i]
  ·rw [hp] at e
   refine .inl ⟨_,e,rfl,fun x hx=>?_⟩
   rw [List.take_succ_eq_append_getElem hi] at hx
   rcases List.mem_append.1 hx with hx|hx
   ·exact hn x hx
   ·simp at hx; rw [hx]; exact hp
  ·rw [hp] at e
   exact .inr ⟨_,e,.inr ⟨i,hi,rfl,hp,hn⟩⟩) (by
  rintro s ⟨rfl,hn⟩
  rw [List.take_length] at hn
  exact ⟨_,hend,.inl ⟨rfl,hn⟩⟩) a1.length 0 0 (by omega) ⟨rfl,by simp⟩
end del
section del
variable {α:Type} (p:α→Bool)
theorem zO4 {xs:List α} {i:Nat} {x:α} (h:i<xs.length):(xs.set i x).take (i+1)=xs.take i++[x]:=by
 rw [List.take_succ_eq_append_getElem (by simpa using h),List.take_set_of_le (Nat.le_refl _)]
 simp
end del
section del
variable {α:Type} (p:α→Bool)
theorem set_drop {xs:List α} {i j:Nat} {x:α} (h:i<j):(xs.set i x).drop j=xs.drop j:=by
 rw [List.drop_set_of_lt h]
end del
section del
variable {α:Type} (p:α→Bool)
theorem zNG (a:List α) {b:(List α×Int×Int)→Option (Lp (List α×Int×Int) (List α×Int))} (hl:a.length<9223372036854775807)
  (hstep:∀(xs:List α) (i j:Nat) (hj:j<xs.length),i≤j→xs.length=a.length→xs[j]∈a→b (xs,(i:Int),(j:Int))=some (.go (if p xs[j] then (xs,(i:Int),((j+1:Nat):Int)) else (xs.set i xs[j],((i+1:Nat):Int),((j+1:Nat):Int)))))
  (hend:∀(xs:List α) (i:Nat),xs.length=a.length→b (xs,(i:Int),(xs.length:Int))=some (.done (xs,(i:Int)))) (i0 j0:Nat) (hij:i0≤j0) (hj0:j0≤a.length) (h0:a.take i0=(a.take j0).filter (fun x=> !p x)):
  ∃ys:List α,loop b (a,(i0:Int),(j0:Int))=some (ys,((a.filter (fun x=> !p x)).length :Int))∧ys.length=a.length∧ys.take (a.filter (fun x=> !p x)).length =a.filter (fun x=> !p x):=by
 obtain ⟨t,e,h⟩:=kX (b:=b) (fun j s=>s.1.length=a.length∧s.1.drop j=a.drop j∧s.2.2=(j:Int)∧∃i:Nat,s.2.1=(i:Int)∧i≤j∧s.1.take i=(a.take j).filter (fun x=> !p x)) a.length
  (fun t=>t.1.length=a.length∧∃i:Nat,t.2=(i:Int)∧i≤a.length∧t.1.take i=a.filter (fun x=> !p x)) (by
  rintro j ⟨xs,i',j'⟩ hj ⟨hxl,hxd,hjj,i,hi,hle,ht⟩
  simp only at hxl hxd hjj hi ht
  subst hjj hi
  have hjx:j<xs.length:=by omega
  have hx:xs[j]=a[j]:=by
   have:=congrArg (fun l=>l[0]?) hxd
   simp only [List.getElem?_drop,Nat.add_zero] at this
   rw [List.getElem?_eq_getElem hjx,List.getElem?_eq_getElem hj] at this
   exact Option.some.inj this
  have e:=hstep xs i j hjx hle hxl (by rw [hx]; exact List.getElem_mem hj)
  have htk:(a.take (j+1)).filter (fun x=> !p x)=(a.take j).filter (fun x=> !p x)++(if p a[j] then [] else [a[j]]):=by
   rw [List.take_succ_eq_append_getElem hj,List.filter_append]
   cases h:p a[j]<;>simp [h]
  have hd1:a.drop (j+1)=xs.drop (j+1):=by
   have:=congrArg (List.drop 1) hxd
   simpa [List.drop_drop] using this.symm
  rw [hx] at e
  cases hp:p a[j]
  ·rw [hp] at e htk
   refine .inl ⟨_,e,by simpa using hxl,?_,rfl,i+1,rfl,by omega,?_⟩
   ·show (xs.set i a[j]).drop (j+1)=a.drop (j+1)
    rw [set_drop (by omega),hd1]
   ·show (xs.set i a[j]).take (i+1)=_
    rw [zO4 (by omega),htk,ht]
    rfl
  ·rw [hp] at e htk
   refine .inl ⟨_,e,hxl,?_,rfl,i,rfl,by omega,?_⟩
   ·exact hd1.symm
   ·show xs.take i=_
    rw [htk,ht]
    simp) (by
  rintro ⟨xs,i',j'⟩ ⟨hxl,hxd,hjj,i,hi,hle,ht⟩
  simp only at hxl hxd hjj hi ht
  subst hjj hi
  have e:=hend xs i hxl
  rw [hxl] at e
  refine ⟨_,e,hxl,i,rfl,hle,?_⟩
  rw [List.take_length] at ht
  exact ht) (a.length-j0) j0 (a,(i0:Int),(j0:Int)) (by omega) ⟨rfl,rfl,rfl,i0,rfl,hij,h0⟩
 obtain ⟨ys,i'⟩:=t
 obtain ⟨h1,i,h2,h3,h4⟩:=h
 simp only at h1 h2 h4
 subst h2
 have hlen:i=(a.filter (fun x=> !p x)).length :=by rw [←h4]; simp; omega
 subst hlen
 exact ⟨ys,e,h1,h4⟩
end del
section del
variable {α:Type} (p:α→Bool)
theorem zPb {a ys:List α} (zero:α) (h1:ys.length=a.length) (h2:ys.take (a.filter (fun x=> !p x)).length =a.filter (fun x=> !p x)):
  (zFw ys ((a.filter (fun x=> !p x)).length :Int) (ys.length:Int)).bind (fun r=>(zNT ys ((a.filter (fun x=> !p x)).length :Int) r.length zero).bind fun z=>(zFw z 0 ((a.filter (fun x=> !p x)).length :Int)).bind fun q=>some q)=some (a.filter (fun x=> !p x)):=by
 have hle:(a.filter (fun x=> !p x)).length ≤ys.length:=by rw [h1]; exact List.length_filter_le _ _
 rw [zKI hle (Nat.le_refl _)]
 simp only [Option.bind_some]
 rw [zP9 (by simp; omega)]
 simp only [Option.bind_some]
 have:zFw (List.take (List.filter (fun x=> !p x) a).length ys++List.replicate (List.take (ys.length-(List.filter (fun x=> !p x) a).length) (List.drop (List.filter (fun x=> !p x) a).length ys)).length zero++
   List.drop ((List.filter (fun x=> !p x) a).length +(List.take (ys.length-(List.filter (fun x=> !p x) a).length) (List.drop (List.filter (fun x=> !p x) a).length ys)).length) ys) ((0:Nat):Int) ((a.filter (fun x=> !p x)).length :Int)=some (a.filter (fun x=> !p x)):=by
  rw [zKI (by omega) (by simp; omega)]
  rw [h2]
  simp
 exact (congrArg (fun o=>Option.bind o fun q=>some q) this)
end del
section del
variable {α:Type} (p:α→Bool)
theorem zNt (a:List α) (zero:α) (hl:a.length≤1048577) {b1:Int→Option (Lp Int (Fl Int Unit))} {b2:(List α×Int×Int)→Option (Lp (List α×Int×Int) (List α×Int))}
  (h1:∀(i:Nat) (hi:i<a.length),b1 (i:Int)=some (if p a[i] then .done (.ret (i:Int)) else .go ((i+1:Nat):Int))) (h1e:b1 (a.length:Int)=some (.done (.nxt ())))
  (h2:∀(xs:List α) (i j:Nat) (hj:j<xs.length),i≤j→xs.length=a.length→xs[j]∈a→b2 (xs,(i:Int),(j:Int))=some (.go (if p xs[j] then (xs,(i:Int),((j+1:Nat):Int)) else (xs.set i xs[j],((i+1:Nat):Int),((j+1:Nat):Int)))))
  (h2e:∀(xs:List α) (i:Nat),xs.length=a.length→b2 (xs,(i:Int),(xs.length:Int))=some (.done (xs,(i:Int)))):
  ((loop b1 0).bind (Fl.go some fun _=>some (-1))).bind (fun x4=>if x4==(-1) then (some a) else ((loop b2 (a,x4,w64 (x4+1))).bind fun v26=>(zFw v26.1 v26.2 (v26.1.length:Int)).bind fun x27=>(zNT v26.1 v26.2 x27.length zero).bind fun x29=>(zFw x29 0 v26.2).bind fun x31=>some x31))=some (a.filter (fun x=> !p x)):=by
 obtain ⟨t,e,h⟩:=zO3 p a (fun i=>i) (b:=b1) (by omega) h1 h1e
 rw [e]
 rcases h with ⟨rfl,hn⟩|⟨i,hi,rfl,hp,hn⟩
 ·show some a=_
  congr 1
  exact (List.filter_eq_self.2 (fun x hx=>by rw [hn x hx]; rfl)).symm
 ·simp only [Option.bind_some,Fl.go]
  rw [if_neg (by simp),zM (by omega)]
  obtain ⟨ys,e2,h3,h4⟩:=zNG p a (b:=b2) (by omega) h2 h2e i (i+1) (by omega) (by omega) (by
   rw [List.take_succ_eq_append_getElem hi,List.filter_append]
   rw [List.filter_eq_self.2 (fun x hx=>by rw [hn x hx]; rfl)]
   simp [hp])
  rw [e2]
  simp only [Option.bind_some]
  exact zPb p zero h3 h4
end del
def wU {α R:Type} (g:Nat→α→Option R):Nat→List α→Option R
 |_,[]=>none
 |i,x::xs=>match g i x with
  |some r=>some r
  |none=>wU g (i+1) xs
def frs {R:Type}:Option R→Fl R Unit
 |some r=>.ret r
 |none=>.nxt ()
theorem zIn {α R:Type} (xs:List α) (g:Nat→α→Option R) {b:Int→Option (Lp Int (Fl R Unit))}
  (hstep:∀(i:Nat) (hi:i<xs.length),b (i:Int)=some (match g i xs[i] with|some r=>.done (.ret r)|none=>.go ((i+1:Nat):Int))) (hend:b (xs.length:Int)=some (.done (.nxt ()))):
  ∀(k i:Nat),i+k=xs.length→loop b (i:Int)=some (frs (wU g i (xs.drop i)))
 |0,i,h=>by
  have e:i=xs.length:=by omega
  subst e
  rw [jO,hend,List.drop_length]
  rfl
 |k+1,i,h=>by
  have hi:i<xs.length:=by omega
  have ih:=zIn xs g hstep hend k (i+1) (by omega)
  rw [jO,hstep i hi,List.drop_eq_getElem_cons hi]
  simp only [wU]
  cases g i xs[i] with
  |some r=>rfl
  |none=>exact ih
theorem wM {α R:Type} (xs:List α) (g:Nat→α→Option R) {b:Int→Option (Lp Int (Fl R Unit))}
  (hstep:∀(i:Nat) (hi:i<xs.length),b (i:Int)=some (match g i xs[i] with|some r=>.done (.ret r)|none=>.go ((i+1:Nat):Int))) (hend:b (xs.length:Int)=some (.done (.nxt ()))):
  loop b 0=some (frs (wU g 0 xs)):=by
 have:=zIn xs g hstep hend xs.length 0 (by omega)
 simpa using this
theorem zDS {R T:Type} (o:Option R) (f:R→Option T) (h:Unit→Option T):(some (frs o)).bind (Fl.go f h)=match o with|some r=>f r|none=>h ():=by
 cases o<;>rfl
theorem zDD {α:Type} (p:α→Bool):∀(xs:List α) (i:Nat),((wU (fun j x=>if p x then some (j:Int) else none) i xs).getD (-1)≥0)↔xs.any p=true
 |[],i=>by simp [wU]
 |x::xs,i=>by
  simp only [wU]
  cases h:p x
  ·simp only [Bool.false_eq_true,if_false,List.any_cons,h,Bool.false_or]
   exact zDD p xs (i+1)
  ·simp [h]
theorem zGk {α:Type} (p:α→Bool):∀(xs:List α) (i:Nat),(wU (fun _ x=>if p x then some true else none) i xs).getD false=xs.any p
 |[],i=>rfl
 |x::xs,i=>by
  simp only [wU]
  cases h:p x
  ·simp only [Bool.false_eq_true,if_false,List.any_cons,h,Bool.false_or]
   exact zGk p xs (i+1)
  ·simp [h]
def foldI {α A:Type} (f:Nat→A→α→A):Nat→List α→A→A
 |_,[],a=>a
 |i,x::xs,a=>foldI f (i+1) xs (f i a x)
theorem zCL {α A:Type} (xs:List α) (f:Nat→A→α→A) (I:Nat→A→Prop) {b:(A×Int)→Option (Lp (A×Int) A)}
  (hstep:∀(i:Nat) (a:A) (hi:i<xs.length),I i a→b (a,(i:Int))=some (.go (f i a xs[i],((i+1:Nat):Int)))∧I (i+1) (f i a xs[i])) (hend:∀a,b (a,(xs.length:Int))=some (.done a)):
  ∀(k i:Nat) (a:A),i+k=xs.length→I i a→loop b (a,(i:Int))=some (foldI f i (xs.drop i) a)∧I xs.length (foldI f i (xs.drop i) a)
 |0,i,a,h,hI=>by
  have e:i=xs.length:=by omega
  subst e
  rw [jO,hend,List.drop_length]
  exact ⟨rfl,hI⟩
 |k+1,i,a,h,hI=>by
  have hi:i<xs.length:=by omega
  obtain ⟨h1,h2⟩:=hstep i a hi hI
  have ih:=zCL xs f I hstep hend k (i+1) _ (by omega) h2
  rw [jO,h1,List.drop_eq_getElem_cons hi]
  exact ih
theorem zE8 {o:Option Int} {b:Bool} (h:(o.getD (-1)≥0)↔b=true):decide (o.getD (-1)≥0)=b:=by
 rw [Bool.eq_iff_iff,decide_eq_true_eq]; exact h
def zKM (c:Int):Bool:=(decide (c≥97)&&decide (c≤122))||(decide (c≥48)&&decide (c≤57))||c==95
def zKF (c:Int):Bool:=zKM c||c==46||c==45||c==47
theorem zHO (c:Int):vW c=some (zKM c):=by
 unfold vW vI vQ zKM
 cases decide (c≥97)<;>cases decide (c≤122)<;>cases decide (c≥48)<;>cases decide (c≤57)<;>rfl
theorem zFA (c:Int):zD3 c=some (zKF c):=by
 unfold zD3 zKF
 rw [zHO]
 cases zKM c<;>cases (c==46)<;>cases (c==45)<;>cases (c==47)<;>rfl
theorem zGi (c:Int):wF c=some (zKM c):=by
 unfold wF zKM
 cases decide (c≥97)<;>cases decide (c≤122)<;>cases decide (c≥48)<;>cases decide (c≤57)<;>rfl
theorem zGF (s:ByteArray):vS s=vG s:=by
 unfold vS vG
 have:kI s=uU s:=by
  unfold kI uU
  refine zF7 fun i=>?_
  unfold zDM jI
  split
  ·congr 1
   funext c
   rw [zFA,zGi]
   unfold zKF
   simp only [bne]
   cases zKM c<;>cases (c==46)<;>cases (c==45)<;>cases (c==47)<;>rfl
  ·rfl
 rw [this]
def zGb (s:ByteArray):Prop:=1≤s.size∧s.size≤40∧∀c∈bl s,zKF c=true
theorem zHS (s:ByteArray):(zGb s∧vG s=some 0)∨(¬zGb s∧vG s=some 5):=by
 unfold vG
 by_cases h1:s.size<1
 ·refine .inr ⟨fun h=>by have:=h.1; omega,?_⟩
  rw [if_pos (by simp; omega)]; rfl
 ·rw [if_neg (by simp; omega)]
  simp only [Option.bind_some]
  by_cases h2:s.size>40
  ·refine .inr ⟨fun h=>by have:=h.2.1; omega,?_⟩
   rw [if_pos (by simp; omega)]
  ·rw [if_neg (by simp; omega)]
   obtain ⟨t,e,h⟩:=kX (b:=jI s) (fun i j=>j=(i:Int)∧∀k,(hk:k< (bl s).length)→k<i→zKF (bl s)[k]=true) (bl s).length (fun t=>match t with| .ret r=>r=5∧¬zGb s| .nxt _=>∀c∈bl s,zKF c=true) (by
    rintro i j hi ⟨rfl,hp⟩
    have hs:=yP s
    unfold jI
    rw [if_pos (by simp; omega),zEv hi]
    simp only [Option.bind_some,zFA]
    cases hb:zKF (bl s)[i] with
    |false=>exact .inr ⟨_,rfl,rfl,fun h=>by have:=h.2.2 _ (List.getElem_mem hi); rw [hb] at this; cases this⟩
    |true=>
     rw [zM (by omega)]
     refine .inl ⟨_,rfl,rfl,fun k hk hki=>?_⟩
     rcases Nat.lt_or_ge k i with h|h
     ·exact hp k hk h
     ·have:k=i:=by omega
      subst this; exact hb) (by
    rintro j ⟨rfl,hp⟩
    unfold jI
    rw [if_neg (by simp [yP])]
    refine ⟨_,rfl,fun c hc=>?_⟩
    obtain ⟨k,hk,rfl⟩:=List.getElem_of_mem hc
    exact hp k hk hk) (bl s).length 0 0 (by omega) ⟨rfl,fun k _ h=>by omega⟩
   simp only [uU,e,Option.bind_some]
   cases t with
   |ret r=>
    obtain ⟨rfl,h⟩:=h
    exact .inr ⟨h,rfl⟩
   |nxt u=>exact .inl ⟨⟨by omega,by omega,h⟩,rfl⟩
theorem zFD (s:ByteArray):∃r,vG s=some r∧(r=0↔zGb s):=by
 rcases zHS s with ⟨h1,h2⟩|⟨h1,h2⟩
 ·exact ⟨0,h2,by simp [h1]⟩
 ·exact ⟨5,h2,by simp [h1]⟩
def total (fs:List File):Int:=match fs with
 |[]=>0
 |f::fs=>f.Data.length+total fs
theorem zEp:∀(l r:List File),total (l++r)=total l+total r
 |[],r=>by simp [total]
 |f::l,r=>by simp only [List.cons_append,total,zEp l r]; omega
theorem zEk:∀(l:List File),0≤total l
 |[]=>Int.le_refl _
 |f::l=>by have:=zEk l; simp only [total]; omega
theorem zKi:∀{l:List File} {f:File},f∈l→(f.Data.length:Int)≤total l
 |g::l,f,h=>by
  rcases List.mem_cons.1 h with rfl|h
  ·have:=zEk l; simp only [total]; omega
  ·have:=zKi h; simp only [total]; omega
theorem zLB:∀(l:List File) (C:Int),0≤C→(∀f∈l,(f.Data.length:Int)≤C)→total l≤l.length*C
 |[],C,_,_=>by simp [total]
 |f::l,C,hC,h=>by
  have h1:=h f (by simp)
  have h2:=zLB l C hC (fun g hg=>h g (by simp [hg]))
  simp only [total,List.length_cons,Int.natCast_add,Int.add_mul]
  omega
theorem zGu (d:zC) (h:d.Files.length≤1048576) (hf:∀f∈d.Files,f.Data.length≤1048576):uL d=some (total d.Files):=by
 have htot:=zLB d.Files 1048576 (by omega) (fun f hm=>by have:=hf f hm; omega)
 have hb:((d.Files.length:Int))*1048576≤1048576*1048576:=Int.mul_le_mul_of_nonneg_right (by omega) (by omega)
 obtain ⟨t,e,rfl⟩:=kX (b:=zAl d) (fun i s=>s=(total (d.Files.take i),(i:Int))) d.Files.length (fun t=>t=total d.Files) (by
  rintro i s hi rfl
  unfold zAl
  rw [if_pos (by simp; omega)]
  have hsplit:total (d.Files.take (i+1))=total (d.Files.take i)+d.Files[i].Data.length :=by
   rw [List.take_succ_eq_append_getElem hi,zEp]
   simp [total]
  have hle:total d.Files=total (d.Files.take (i+1))+total (d.Files.drop (i+1)):=by rw [←zEp,List.take_append_drop]
  have h1:=zEk (d.Files.take i)
  have h2:=zEk (d.Files.drop (i+1))
  simp only [zK hi,Option.bind_some]
  rw [wC (by omega) (by omega),zM (by omega)]
  exact .inl ⟨_,rfl,by rw [hsplit]⟩) (by
  rintro s rfl
  unfold zAl
  rw [if_neg (by simp)]
  exact ⟨_,rfl,by simp⟩) d.Files.length 0 (0,0) (by omega) (by simp [total])
 simp only [uL,zBi,e,Option.bind_some]
theorem zMc (d:zC):vU d=uL d:=rfl
structure zC.good (d:zC):Prop where
 b0:0≤d.Budget
 b1:d.Budget≤20000
 w0:0≤d.Writes
 w1:d.Writes≤1000000000
 s0: -1≤d.Stop
 s1:d.Stop≤1000000000
 len:d.Files.length≤120
 path:∀f∈d.Files,zGb f.Path
 data:∀f∈d.Files,f.Data.length≤4000
 sorted:d.Files.Pairwise (fun f g=>slt f.Path g.Path=true)
 room:total d.Files≤d.Budget
theorem zHV (d:zC):zAK d=wY d:=by
 unfold zAK wY
 have:kJ d=uX d:=by
  unfold kJ uX
  refine zF7 fun i=>?_
  unfold zDQ jH
  split
  ·cases hx:idx d.Files i with
   |none=>rfl
   |some x=>simp only [Option.bind_some,zGF]
  ·rfl
 rw [this]
 rfl
theorem zMW {xs:List File} (h:∀i,(hi:i+1<xs.length)→slt xs[i].Path xs[i+1].Path =true):xs.Pairwise (fun f g=>slt f.Path g.Path=true):=by
 induction xs with
 |nil=>exact .nil
 |cons x xs ih=>
  have h':∀i,(hi:i+1<xs.length)→slt xs[i].Path xs[i+1].Path =true:=fun i hi=>h (i+1) (by simp; omega)
  have ih':=ih h'
  refine .cons ?_ ih'
  cases xs with
  |nil=>simp
  |cons y ys=>
   have hxy:slt x.Path y.Path=true:=by simpa using h 0 (by simp)
   intro z hz
   rcases List.mem_cons.1 hz with rfl|hz
   ·exact hxy
   ·exact zFU hxy ((List.pairwise_cons.1 ih').1 z hz)
theorem zHQ (d:zC) (h:d.Files.length≤1048576):∃c,wY d=some c∧(c=0→d.good):=by
 unfold wY
 simp only [zQx,Option.bind_some]
 by_cases hB:0≤d.Budget∧d.Budget≤20000
 ·by_cases hW:0≤d.Writes∧d.Writes≤1000000000
  ·by_cases hS: -1≤d.Stop∧d.Stop≤1000000000
   ·simp [hB.1,hB.2,hW.1,hW.2,hS.1,hS.2]
    by_cases hl:120<d.Files.length
    ·rw [if_pos (by omega)]
     exact ⟨2,rfl,by simp⟩
    ·rw [if_neg (by omega)]
     obtain ⟨t,e,ht⟩:=kX (b:=jH d) (fun i s=>s=(i:Int)∧(∀j,(hj:j<d.Files.length)→j<i→zGb d.Files[j].Path ∧d.Files[j].Data.length ≤4000)∧∀j,(hj:j+1<d.Files.length)→j+1<i→slt d.Files[j].Path d.Files[j+1].Path =true) d.Files.length
      (fun t=>match t with| .ret r=>r≠0| .nxt _=>(∀f∈d.Files,zGb f.Path∧f.Data.length≤4000)∧d.Files.Pairwise (fun f g=>slt f.Path g.Path=true)) (by
      rintro i s hi ⟨rfl,h1,h2⟩
      unfold jH
      rw [if_pos (by simp; omega)]
      obtain ⟨r,hr,hr2⟩:=zFD d.Files[i].Path
      simp only [zK hi,Option.bind_some,hr]
      by_cases hr0:r=0
      ·subst hr0
       rw [if_neg (by simp)]
       have key:∃q,(if decide ((i:Int)>0) then (idx d.Files (w64 ((i:Int)-1))).bind fun x39=>some (slt d.Files[i].Path x39.Path||seq d.Files[i].Path x39.Path) else some false)=some q∧(q=false→∀j,(hj:j+1<d.Files.length)→j+1<i+1→slt d.Files[j].Path d.Files[j+1].Path =true):=by
        by_cases hp:i=0
        ·subst hp
         exact ⟨false,by simp,fun _ j hj hji=>by omega⟩
        ·rw [if_pos (by simp; omega),wC (by omega) (by omega),show ((i:Int)-1)=((i-1:Nat):Int) by omega,zK (show i-1<d.Files.length by omega)]
         refine ⟨_,rfl,fun hq j hj hji=>?_⟩
         rcases Nat.lt_or_ge (j+1) i with hlt|hge
         ·exact h2 j hj hlt
         ·have hj1:j+1=i:=by omega
          subst hj1
          simp only [Bool.or_eq_false_iff] at hq
          have hq1:=hq.1
          have hq2:d.Files[j+1].Path ≠d.Files[j].Path :=fun e=>by
           have:=hq.2
           simp only [Nat.add_sub_cancel] at this
           rw [e] at this
           simp at this
          simp only [Nat.add_sub_cancel] at hq1
          exact zPr hq1 hq2
       obtain ⟨q,hq,hq2⟩:=key
       rw [hq]
       simp only [Option.bind_some]
       cases q with
       |true=>exact .inr ⟨_,rfl,by simp⟩
       |false=>
        by_cases hd:(d.Files[i].Data.length :Int)>4000
        ·exact .inr ⟨.ret 2,by rw [if_neg (by simp),if_pos (by simpa using hd)],by simp⟩
        ·refine .inl ⟨((i+1:Nat):Int),?_,rfl,fun j hj hji=>?_,hq2 rfl⟩
         ·rw [if_neg (by simp),if_neg (by simpa using hd),zM (by omega)]
         ·rcases Nat.lt_or_ge j i with h'|h'
          ·exact h1 j hj h'
          ·have:j=i:=by omega
           subst this
           exact ⟨hr2.1 rfl,by omega⟩
      ·rw [if_pos (by simpa using hr0)]
       exact .inr ⟨_,rfl,hr0⟩) (by
      rintro s ⟨rfl,h1,h2⟩
      unfold jH
      rw [if_neg (by simp)]
      refine ⟨_,rfl,fun f hf=>?_,zMW (fun i hi=>h2 i hi hi)⟩
      obtain ⟨j,hj,rfl⟩:=List.getElem_of_mem hf
      exact h1 j hj hj) d.Files.length 0 0 (by omega) ⟨rfl,fun j _ h=>by omega,fun j _ h=>by omega⟩
     simp only [uX,e,Option.bind_some]
     cases t with
     |ret r=>exact ⟨r,rfl,fun h=>absurd h ht⟩
     |nxt u=>
      simp only [Fl.go]
      rw [zGu d h (fun f hf=>by have:=(ht.1 f hf).2; omega)]
      simp only [Option.bind_some]
      by_cases hr:d.Budget<total d.Files
      ·rw [if_pos hr]
       exact ⟨8,rfl,by simp⟩
      ·rw [if_neg hr]
       exact ⟨0,rfl,fun _=>⟨hB.1,hB.2,hW.1,hW.2,hS.1,hS.2,by omega,fun f hf=>(ht.1 f hf).1,fun f hf=>(ht.1 f hf).2,ht.2,by omega⟩⟩
   ·refine ⟨3,?_,by simp⟩
    simp [hB.1,hB.2,hW.1,hW.2]
    intro a b
    exact absurd ⟨a,b⟩ hS
  ·refine ⟨3,?_,by simp⟩
   simp [hB.1,hB.2]
   rw [if_pos (by omega)]
   rfl
 ·refine ⟨3,?_,by simp⟩
  rw [if_pos (by simp; omega)]
  rfl
def zC.fits (d:zC):Prop:=d.Files.length≤1048576∧∀f∈d.Files,f.Data.length≤1048576
theorem zC.zMY {d:zC} (h:zC.sm 1048576 d):d.fits:=⟨h.1.1,fun f hf=>(h.1.2 f hf).2.1⟩
theorem zKg (d:zC) (h:d.fits):zBu d=some d:=by
 obtain ⟨h1,h2⟩:=h
 obtain ⟨t,e,rfl⟩:=kX (b:=zBa d) (fun i s=>s=(d.Files.take i,(i:Int))) d.Files.length (fun t=>t=d.Files) (by
  rintro i s hi rfl
  have hl:(d.Files.take i).length =i:=by simp; omega
  have hd:=h2 _ (List.getElem_mem hi)
  have ha:app 1 ([]:List Int) d.Files[i].Data =some d.Files[i].Data :=zAU (by simp; omega) (by simp; omega)
  have hb:∀f:File,app 40 (d.Files.take i) [f]=some (d.Files.take i++[f]):=fun f=>zAU (by simp; omega) (by simp; omega)
  unfold zBa
  rw [if_pos (by simp; omega)]
  simp only [zK hi,Option.bind_some,ha,hb,zM (show i<9223372036854775807 by omega)]
  exact .inl ⟨_,rfl,by rw [List.take_succ_eq_append_getElem hi]⟩) (by
  rintro s rfl
  unfold zBa
  rw [if_neg (by simp)]
  exact ⟨_,rfl,by simp⟩) d.Files.length 0 ([],0) (by omega) (by simp)
 simp only [zBu,zAR,e,Option.bind_some]
theorem zMm (d:zC):uK d=zBu d:=by
 have:tJ d=zAR d:=by
  unfold tJ zAR
  refine zF7 fun s=>?_
  unfold zCU zBa wL
  split
  ·cases h:idx d.Files s.2 with
   |none=>rfl
   |some x=>
    simp only [Option.bind_some]
    cases h2:app 1 ([]:List Int) x.Data<;>rfl
  ·rfl
 unfold uK zBu
 rw [this]
theorem zMP (d:zC) (h:d.fits):uK d=some d:=by rw [zMm,zKg d h]
def zKL (c:Int):zH:= {Code:=c,zC:= {Files:=[],Budget:=0,Writes:=0,Stop:=0,Down:=false}}
theorem zL9 (c:Int):zH.sm 1049600 (zKL c):=by simp [zH.sm,zC.sm,zKL]
theorem zNJ (s p:ByteArray):strings_HasPrefix s p=jW s p:=by
 unfold strings_HasPrefix xX jW
 split
 ·cases zIs s 0 (p.size:Int)<;>rfl
 ·rfl
def begins (s p:ByteArray):Bool:=decide (p.size≤s.size)&&seq (s.extract 0 p.size) p
theorem zKO (s p:ByteArray):jW s p=some (begins s p):=by
 unfold jW begins
 by_cases h:p.size≤s.size
 ·rw [if_pos (by simp; omega)]
  unfold zIs
  rw [if_pos (by omega)]
  simp [h]
 ·rw [if_neg (by simp; omega)]
  simp [h]
theorem zMf (d:zC) (p:ByteArray):kR d p=zAy d p:=by
 have:jJ d p=zAf d p:=by
  unfold jJ zAf
  refine zF7 fun s=>?_
  unfold zD9 zAo
  split
  ·cases h:idx d.Files s.2 with
   |none=>rfl
   |some x=>simp only [Option.bind_some,zNJ]
  ·rfl
 unfold kR zAy
 rw [this]
def jV (fs:List File) (p:ByteArray):List ByteArray:=(fs.filter (fun f=>begins f.Path p)).map (·.Path)
theorem zHM (l r:List File) (p:ByteArray):jV (l++r) p=jV l p++jV r p:=by
 simp [jV]
theorem zEh (l:List File) (p:ByteArray):(jV l p).length ≤l.length:=by
 simp only [jV,List.length_map]
 exact List.length_filter_le _ _
theorem zIz (d:zC) (p:ByteArray) (h:d.Files.length≤1048576):zAy d p=some (jV d.Files p):=by
 obtain ⟨t,e,rfl⟩:=kX (b:=zAo d p) (fun i s=>s=(jV (d.Files.take i) p,(i:Int))) d.Files.length (fun t=>t=jV d.Files p) (by
  rintro i s hi rfl
  unfold zAo
  rw [if_pos (by simp; omega)]
  have hl:=zEh (d.Files.take i) p
  have hl2:(d.Files.take i).length ≤i:=by simp; omega
  have ha:∀x:ByteArray,app 16 (jV (d.Files.take i) p) [x]=some (jV (d.Files.take i) p++[x]):=fun x=>zAU (by simp; omega) (by simp; omega)
  have hsplit:jV (d.Files.take (i+1)) p=jV (d.Files.take i) p++jV [d.Files[i]] p:=by
   rw [List.take_succ_eq_append_getElem hi,zHM]
  simp only [zK hi,Option.bind_some,zKO,ha,zM (show i<9223372036854775807 by omega)]
  cases hb:begins d.Files[i].Path p with
  |true=>exact .inl ⟨_,rfl,by rw [hsplit]; simp [jV,hb]⟩
  |false=>exact .inl ⟨_,rfl,by rw [hsplit]; simp [jV,hb]⟩) (by
  rintro s rfl
  unfold zAo
  rw [if_neg (by simp)]
  exact ⟨_,rfl,by simp⟩) d.Files.length 0 ([],0) (by omega) (by simp [jV])
 simp only [zAy,zAf,e,Option.bind_some]
theorem zJd:∀(a b:List UInt8),(Lib.compareBytes a b<0↔Op.bytesLess a b=true)∧(Lib.compareBytes a b=0↔a=b)
 |[],[]=>by simp [Lib.compareBytes,Op.bytesLess]
 |[],_::_=>by simp [Lib.compareBytes,Op.bytesLess]
 |_::_,[]=>by simp [Lib.compareBytes,Op.bytesLess]
 |x::a,y::b=>by
  obtain ⟨ih1,ih2⟩:=zJd a b
  simp only [Lib.compareBytes,Op.bytesLess]
  by_cases h1:x<y
  ·simp [h1]
   intro e; subst e; exact absurd h1 (by simp [UInt8.lt_irrefl])
  ·by_cases h2:y<x
   ·simp [h1,h2]
    have hne:x≠y:=fun e=>by subst e; exact absurd h2 (by simp [UInt8.lt_irrefl])
    simp [hne]
   ·have e:x=y:=by
     rw [UInt8.lt_iff_toNat_lt] at h1 h2
     exact UInt8.toNat_inj.1 (by omega)
    subst e
    simp [UInt8.lt_irrefl,ih1,ih2]
theorem zLa (a b:ByteArray):zOp a b<0↔slt a b=true:=by
 unfold zOp slt
 rw [ByteArray.toList_eq,ByteArray.toList_eq]
 exact (zJd _ _).1
theorem zMA (a b:ByteArray):zOp a b=0↔a=b:=by
 unfold zOp
 rw [(zJd _ _).2,←ByteArray.toList_eq,←ByteArray.toList_eq]
 exact ⟨toList_inj,fun e=>by rw [e]⟩
theorem zPp {i j:Int} (h0:0≤i) (h1:i≤j) (h2:j≤4611686018427387903):w64 ((IntKind.u64.wrap (w64 (i+j))).fdiv (2^(min (1:Int).toNat 64)))=(i+j) / 2:=by
 rw [wC (x:=i+j) (by omega) (by omega)]
 have e1:IntKind.u64.wrap (i+j)=i+j:=by
  simp only [IntKind.wrap,IntKind.signed,IntKind.bits]
  simp
  omega
 rw [e1]
 have e2:((2:Int)^(min (1:Int).toNat 64))=2:=by decide
 rw [e2,Int.fdiv_eq_ediv_of_nonneg _ (by omega)]
 exact wC (by omega) (by omega)
theorem zIq (f:File) (p:ByteArray):vM f p=some (zOp f.Path p):=rfl
theorem zLX (fs:List File) (p:ByteArray) (h:fs.length≤1048576):
  ∃(k:Nat) (b:Bool),zJ fs p=some ((k:Int),b)∧k≤fs.length∧(b=true→∃hk:k<fs.length,fs[k].Path =p)∧
   (fs.Pairwise (fun f g=>slt f.Path g.Path=true)→(∀i,(hi:i<fs.length)→i<k→slt fs[i].Path p=true)∧(∀i,(hi:i<fs.length)→k≤i→slt fs[i].Path p=false)∧(b=false→∀f∈fs,f.Path≠p)):=by
 obtain ⟨t,e,k,rfl,hk,hs⟩:=zKj (b:=yN fs p)
  (fun s=>∃i j:Nat,s=((i:Int),(j:Int))∧i≤j∧j≤fs.length∧(fs.Pairwise (fun f g=>slt f.Path g.Path=true)→(∀q,(hq:q<fs.length)→q<i→slt fs[q].Path p=true)∧(∀q,(hq:q<fs.length)→j≤q→slt fs[q].Path p=false)))
  (fun s=>(s.2-s.1).toNat)
  (fun t=>∃k:Nat,t=(k:Int)∧k≤fs.length∧(fs.Pairwise (fun f g=>slt f.Path g.Path=true)→(∀q,(hq:q<fs.length)→q<k→slt fs[q].Path p=true)∧(∀q,(hq:q<fs.length)→k≤q→slt fs[q].Path p=false))) (by
  rintro s ⟨i,j,rfl,hij,hj,hP⟩
  unfold yN
  by_cases hlt:i<j
  ·left
   rw [if_pos (by simp; omega)]
   simp only
   rw [zPp (by omega) (by omega) (by omega)]
   have hm:(((i:Int)+(j:Int)) / 2)=(((i+j) / 2:Nat):Int):=by omega
   rw [hm]
   have hmj:(i+j) / 2<j:=by omega
   have him:i≤(i+j) / 2:=by omega
   generalize (i+j) / 2=m at*
   have hmn:m<fs.length:=by omega
   simp only [zK hmn,Option.bind_some,zIq]
   by_cases hc:zOp fs[m].Path p<0
   ·rw [if_pos (by simpa using hc),zM (by omega)]
    refine ⟨_,rfl,⟨m+1,j,rfl,by omega,hj,fun hso=>?_⟩,by simp; omega⟩
    obtain ⟨g1,g2⟩:=hP hso
    refine ⟨fun q hq hqm=>?_,g2⟩
    have hl:=(zLa _ _).1 hc
    rcases Nat.lt_or_ge q m with h'|h'
    ·exact zFU (List.pairwise_iff_getElem.1 hso q m hq hmn h') hl
    ·have:q=m:=by omega
     subst this; exact hl
   ·rw [if_neg (by simpa using hc)]
    refine ⟨_,rfl,⟨i,m,rfl,by omega,by omega,fun hso=>?_⟩,by simp; omega⟩
    obtain ⟨g1,g2⟩:=hP hso
    refine ⟨g1,fun q hq hmq=>?_⟩
    have hl:slt fs[m].Path p=false:=by
     cases h':slt fs[m].Path p with
     |false=>rfl
     |true=>exact absurd ((zLa _ _).2 h') hc
    rcases Nat.lt_or_ge m q with h'|h'
    ·cases hq2:slt fs[q].Path p with
     |false=>rfl
     |true=>
      have:=zFU (List.pairwise_iff_getElem.1 hso m q hmn hq h') hq2
      rw [hl] at this; cases this
    ·have:q=m:=by omega
     subst this; exact hl
  ·right
   rw [if_neg (by simp; omega)]
   have:i=j:=by omega
   subst this
   exact ⟨_,rfl,i,rfl,by omega,hP⟩) fs.length (0,(fs.length:Int)) (by simp) ⟨0,fs.length,rfl,by omega,by omega,fun _=>⟨fun q _ h=>by omega,fun q hq h=>by omega⟩⟩
 unfold zJ
 rw [show zW fs p (0,(fs.length:Int))=some (k:Int) from e]
 simp only [Option.bind_some]
 by_cases hkn:k<fs.length
 ·rw [if_pos (by simpa using hkn)]
  simp only [zK hkn,Option.bind_some,zIq]
  refine ⟨k,_,rfl,hk,fun hb=>⟨hkn,(zMA _ _).1 (by simpa using hb)⟩,fun hso=>⟨(hs hso).1,(hs hso).2,fun hb f hf hfp=>?_⟩⟩
  have hne:zOp fs[k].Path p≠0:=by simpa using hb
  obtain ⟨q,hq,rfl⟩:=List.getElem_of_mem hf
  rcases Nat.lt_trichotomy q k with h'|h'|h'
  ·have:=(hs hso).1 q hq h'
   rw [hfp,zFy] at this; cases this
  ·subst h'; exact hne ((zMA _ _).2 hfp)
  ·have h1:=List.pairwise_iff_getElem.1 hso k q hkn hq h'
   have h2:=(hs hso).2 k hkn (Nat.le_refl _)
   rw [hfp] at h1
   rw [h1] at h2; cases h2
 ·rw [if_neg (by simpa using hkn)]
  refine ⟨k,false,rfl,hk,(fun hb=>by cases hb),fun hso=>⟨(hs hso).1,(hs hso).2,fun _ f hf hfp=>?_⟩⟩
  obtain ⟨q,hq,rfl⟩:=List.getElem_of_mem hf
  have:=(hs hso).1 q hq (by omega)
  rw [hfp,zFy] at this; cases this
theorem zKK (d:zC) (p:ByteArray) (h:d.Files.length≤1048576):
  (∃k:Nat,∃hk:k<d.Files.length,xP d p=some (k:Int)∧d.Files[k].Path =p)∨(xP d p=some (-1)∧∀f∈d.Files,f.Path≠p):=by
 obtain ⟨t,e,ht⟩:=kX (b:=zAY d p) (fun i s=>s=(i:Int)∧∀q,(hq:q<d.Files.length)→q<i→d.Files[q].Path ≠p) d.Files.length
  (fun t=>match t with| .ret r=>∃k:Nat,∃hk:k<d.Files.length,r=(k:Int)∧d.Files[k].Path =p| .nxt _=>∀f∈d.Files,f.Path≠p) (by
  rintro i s hi ⟨rfl,hq⟩
  unfold zAY
  rw [if_pos (by simp; omega)]
  simp only [zK hi,Option.bind_some]
  by_cases hp:d.Files[i].Path =p
  ·rw [if_pos (zGn.2 hp)]
   exact .inr ⟨_,rfl,i,hi,rfl,hp⟩
  ·rw [if_neg (fun h'=>hp (zGn.1 h')),zM (by omega)]
   refine .inl ⟨_,rfl,rfl,fun q hq' hqi=>?_⟩
   rcases Nat.lt_or_ge q i with h'|h'
   ·exact hq q hq' h'
   ·have:q=i:=by omega
    subst this; exact hp) (by
  rintro s ⟨rfl,hq⟩
  unfold zAY
  rw [if_neg (by simp)]
  refine ⟨_,rfl,fun f hf=>?_⟩
  obtain ⟨q,hq',rfl⟩:=List.getElem_of_mem hf
  exact hq q hq' hq') d.Files.length 0 0 (by omega) ⟨rfl,fun q _ h=>by omega⟩
 unfold xP
 rw [show zBQ d p 0=some t from e]
 cases t with
 |ret r=>
  obtain ⟨k,hk,rfl,hp⟩:=ht
  exact .inl ⟨k,hk,rfl,hp⟩
 |nxt _=>exact .inr ⟨rfl,ht⟩
theorem zI8 {fs:List File} (hs:fs.Pairwise (fun f g=>slt f.Path g.Path=true)) {i j:Nat} (hi:i<fs.length) (hj:j<fs.length) (h:fs[i].Path =fs[j].Path):i=j:=by
 rcases Nat.lt_trichotomy i j with h'|h'|h'
 ·have:=List.pairwise_iff_getElem.1 hs i j hi hj h'
  rw [h,zFy] at this; cases this
 ·exact h'
 ·have:=List.pairwise_iff_getElem.1 hs j i hj hi h'
  rw [h,zFy] at this; cases this
theorem zIr (d:zC) (p:ByteArray) (hl0:d.Files.length≤120) (hso:d.Files.Pairwise (fun f g=>slt f.Path g.Path=true)):
  (∃k:Nat,∃hk:k<d.Files.length,xP d p=some (k:Int)∧zJ d.Files p=some ((k:Int),true)∧d.Files[k].Path =p)∨
   (xP d p=some (-1)∧(∀f∈d.Files,f.Path≠p)∧∃k:Nat,zJ d.Files p=some ((k:Int),false)∧k≤d.Files.length∧(∀i,(hi:i<d.Files.length)→i<k→slt d.Files[i].Path p=true)∧(∀i,(hi:i<d.Files.length)→k≤i→slt d.Files[i].Path p=false)):=by
 have hl:d.Files.length≤1048576:=by omega
 obtain ⟨k,b,e,hk,h1,h2⟩:=zLX d.Files p hl
 obtain ⟨g1,g2,g3⟩:=h2 hso
 rcases zKK d p hl with ⟨q,hq,e2,hp⟩|⟨e2,hp⟩
 ·left
  cases b with
  |false=>exact absurd hp (g3 rfl _ (List.getElem_mem hq))
  |true=>
   obtain ⟨hk',hp'⟩:=h1 rfl
   have:q=k:=zI8 hso hq hk' (by rw [hp,hp'])
   subst this
   exact ⟨q,hq,e2,e,hp⟩
 ·right
  cases b with
  |true=>
   obtain ⟨hk',hp'⟩:=h1 rfl
   exact absurd hp' (hp _ (List.getElem_mem hk'))
  |false=>exact ⟨e2,hp,k,e,hk,g1,g2⟩
theorem zLS (d:zC) (p:ByteArray) (hl0:d.Files.length≤120) (hso:d.Files.Pairwise (fun f g=>slt f.Path g.Path=true)):
  (∃k:Nat,∃hk:k<d.Files.length,xP d p=some (k:Int)∧yT d p=some (d.Files[k].Data,true)∧d.Files[k].Path =p)∨
   (xP d p=some (-1)∧yT d p=some ([],false)∧∀f∈d.Files,f.Path≠p):=by
 rcases zIr d p hl0 hso with ⟨k,hk,e1,e2,hp⟩|⟨e1,hp,k,e2,_⟩
 ·left
  refine ⟨k,hk,e1,?_,hp⟩
  unfold yT wS
  rw [e2]
  simp only [Option.bind_some,Bool.not_true,Bool.false_eq_true,if_false,zK hk]
 ·right
  refine ⟨e1,?_,hp⟩
  unfold yT wS
  rw [e2]
  rfl
theorem zJL (d:zC) (p:ByteArray) (hg:d.good):
 (∃k:Nat,∃hk:k<d.Files.length,xP d p=some (k:Int)∧yT d p=some (d.Files[k].Data,true)∧d.Files[k].Path =p)∨
  (xP d p=some (-1)∧yT d p=some ([],false)∧∀f∈d.Files,f.Path≠p):=zLS d p hg.len hg.sorted
theorem zIN {P:List Int→Prop} (h0:P []) (h1:∀l c,P l→P (l++[c])) (l:List Int):P l:=by
 have key:∀m:List Int,P m.reverse:=by
  intro m
  induction m with
  |nil=>exact h0
  |cons c m ih=>rw [List.reverse_cons]; exact h1 _ c ih
 have:=key l.reverse
 rwa [List.reverse_reverse] at this
def zGR (c:Int):Bool:=decide (c≥48)&&decide (c≤57)
def val (l:List Int):Int:=l.foldl (fun a c=>a*10+(c-48)) 0
theorem zGP (l:List Int) (c:Int):val (l++[c])=val l*10+(c-48):=by simp [val]
theorem zFm {l:List Int} (h:∀c∈l,zGR c=true):0≤val l∧val l<10^l.length:=by
 revert h
 refine zIN (P:=fun l=>(∀c∈l,zGR c=true)→0≤val l∧val l<10^l.length) ?_ ?_ l
 ·intro _; simp [val]
 ·intro l c ih h
  obtain ⟨h1,h2⟩:=ih (fun x hx=>h x (by simp [hx]))
  have hc:=h c (by simp)
  simp only [zGR,Bool.and_eq_true,decide_eq_true_eq] at hc
  rw [zGP,List.length_append,List.length_singleton,Int.pow_succ]
  omega
def zKt (l:List Int) (most:Int):Option Int:=if l.length<1∨(l.length:Int)>most∨¬(∀c∈l,zGR c=true) then none else some (val l)
theorem zL4 {n:Nat} (h:n≤17):(10:Int)^n≤100000000000000000:=by
 have:(10:Nat)^n≤10^17:=Nat.pow_le_pow_right (by omega) h
 have e:((10^n:Nat):Int)=(10:Int)^n:=by simp
 rw [←e]
 omega
theorem zHr (c:Int):vQ c=some (zGR c):=by
 unfold vQ zGR
 cases decide (c≥48)<;>rfl
theorem zHj (s:ByteArray) (most:Int) (hm:most≤17):jY s most=some (match zKt (bl s) most with|some n=>(n,true)|none=>(0,false)):=by
 unfold jY zKt
 have hl:=yP s
 by_cases h1:s.size<1
 ·rw [if_pos (by simp; omega),if_pos (by omega)]
  rfl
 ·rw [if_neg (by simp; omega)]
  simp only [Option.bind_some]
  by_cases h2:(s.size:Int)>most
  ·rw [if_pos (by simpa using h2),if_pos (by omega)]
  ·rw [if_neg (by simpa using h2)]
   obtain ⟨t,e,ht⟩:=kX (b:=zBc s) (fun i q=>q=(val ((bl s).take i),(i:Int))∧∀c∈(bl s).take i,zGR c=true) (bl s).length
    (fun t=>match t with| .ret r=>r=(0,false)∧¬ ∀c∈bl s,zGR c=true| .nxt v=>v=val (bl s)∧∀c∈bl s,zGR c=true) (by
    rintro i q hi ⟨rfl,hd⟩
    have hb:=zFm hd
    have hlen:((bl s).take i).length ≤17:=by simp; omega
    have hp:=zL4 hlen
    have hr:=zGO _ (List.getElem_mem hi)
    unfold zBc
    rw [if_pos (by simp; omega)]
    simp only [zEv hi,Option.bind_some,zHr]
    cases hc:zGR (bl s)[i] with
    |false=>exact .inr ⟨_,rfl,rfl,fun h=>by have:=h _ (List.getElem_mem hi); rw [hc] at this; cases this⟩
    |true=>
     have hc':=hc
     simp only [zGR,Bool.and_eq_true,decide_eq_true_eq] at hc'
     rw [wrap_u8 (by omega) (by omega),wC (x:=(bl s)[i]-48) (by omega) (by omega),wC (x:=val ((bl s).take i)*10) (by omega) (by omega),wC (by omega) (by omega),zM (by omega)]
     refine .inl ⟨_,rfl,by rw [List.take_succ_eq_append_getElem hi,zGP],fun c hcm=>?_⟩
     rw [List.take_succ_eq_append_getElem hi] at hcm
     rcases List.mem_append.1 hcm with h|h
     ·exact hd c h
     ·simp at h; rw [h]; exact hc) (by
    rintro q ⟨rfl,hd⟩
    unfold zBc
    rw [if_neg (by simp; omega)]
    rw [List.take_length] at hd ⊢
    exact ⟨_,rfl,rfl,hd⟩) (bl s).length 0 (0,0) (by omega) ⟨by simp [val],by simp⟩
   unfold zB7
   rw [e]
   cases t with
   |ret r=>
    obtain ⟨rfl,h⟩:=ht
    rw [if_pos (.inr (.inr h))]
    rfl
   |nxt v=>
    obtain ⟨rfl,h⟩:=ht
    rw [if_neg (fun h'=>by rcases h' with h'|h'|h'<;>first|omega|exact h' h)]
    rfl
theorem number_eq (s:ByteArray) (most:Int) (hm:most≤17):zBq s most=some (match zKt (bl s) most with|some n=>n|none=> -1):=by
 unfold zBq zKt
 have hl:=yP s
 have he:seq s (bs [])=decide (s.size<1):=by
  rw [zMI,zLd,List.map_nil]
  rw [Bool.eq_iff_iff]
  simp only [decide_eq_true_eq]
  constructor
  ·intro h; rw [h] at hl; simp at hl; omega
  ·intro h; exact List.eq_nil_of_length_eq_zero (by omega)
 rw [he]
 by_cases h1:s.size<1
 ·rw [if_pos (by simpa using h1),if_pos (by omega)]
  rfl
 ·rw [if_neg (by simpa using h1)]
  simp only [Option.bind_some]
  by_cases h2:(s.size:Int)>most
  ·rw [if_pos (by simpa using h2),if_pos (by omega)]
  ·rw [if_neg (by simpa using h2)]
   obtain ⟨t,e,ht⟩:=kX (b:=zCK s) (fun i q=>q=(val ((bl s).take i),(i:Int))∧∀c∈(bl s).take i,zGR c=true) (bl s).length
    (fun t=>match t with| .ret r=>r= -1∧¬ ∀c∈bl s,zGR c=true| .nxt v=>v=val (bl s)∧∀c∈bl s,zGR c=true) (by
    rintro i q hi ⟨rfl,hd⟩
    have hb:=zFm hd
    have hlen:((bl s).take i).length ≤17:=by simp; omega
    have hp:=zL4 hlen
    have hr:=zGO _ (List.getElem_mem hi)
    unfold zCK
    rw [if_pos (by simp; omega)]
    simp only [zEv hi,Option.bind_some]
    have hq:(if decide ((bl s)[i]<48)=true then some true else some (decide ((bl s)[i]>57)))=some (!zGR (bl s)[i]):=by
     unfold zGR
     by_cases a:(bl s)[i]<48
     ·have b:¬((bl s)[i]≥48):=by omega
      simp [a,b]
     ·have b:(bl s)[i]≥48:=by omega
      by_cases c:(bl s)[i]>57
      ·have d:¬((bl s)[i]≤57):=by omega
       simp [a,b,c,d]
      ·have d:(bl s)[i]≤57:=by omega
       simp [a,b,c,d]
    rw [hq]
    simp only [Option.bind_some]
    cases hc:zGR (bl s)[i] with
    |false=>exact .inr ⟨_,rfl,rfl,fun h=>by have:=h _ (List.getElem_mem hi); rw [hc] at this; cases this⟩
    |true=>
     have hc':=hc
     simp only [zGR,Bool.and_eq_true,decide_eq_true_eq] at hc'
     rw [wrap_u8 (by omega) (by omega),wC (x:=(bl s)[i]-48) (by omega) (by omega),wC (x:=10*val ((bl s).take i)) (by omega) (by omega),wC (by omega) (by omega),zM (by omega)]
     refine .inl ⟨_,rfl,by rw [List.take_succ_eq_append_getElem hi,zGP,Int.mul_comm],fun c hcm=>?_⟩
     rw [List.take_succ_eq_append_getElem hi] at hcm
     rcases List.mem_append.1 hcm with h|h
     ·exact hd c h
     ·simp at h; rw [h]; exact hc) (by
    rintro q ⟨rfl,hd⟩
    unfold zCK
    rw [if_neg (by simp; omega)]
    rw [List.take_length] at hd ⊢
    exact ⟨_,rfl,rfl,hd⟩) (bl s).length 0 (0,0) (by omega) ⟨by simp [val],by simp⟩
   unfold zDd
   rw [e]
   cases t with
   |ret r=>
    obtain ⟨rfl,h⟩:=ht
    rw [if_pos (.inr (.inr h))]
    rfl
   |nxt v=>
    obtain ⟨rfl,h⟩:=ht
    rw [if_neg (fun h'=>by rcases h' with h'|h'|h'<;>first|omega|exact h' h)]
    rfl
theorem zOs {l:List Int} (h:∀c∈l,zGR c=true):zF9 (10^l.length+(val l).toNat)=49::l:=by
 revert h
 refine zIN (P:=fun l=>(∀c∈l,zGR c=true)→zF9 (10^l.length+(val l).toNat)=49::l) ?_ ?_ l
 ·intro _; rw [zBe (by decide)]; rfl
 ·intro l c ih h
  have hl:∀c∈l,zGR c=true:=fun x hx=>h x (by simp [hx])
  have hb:=zFm hl
  have hc:=h c (by simp)
  simp only [zGR,Bool.and_eq_true,decide_eq_true_eq] at hc
  have e1:(val (l++[c])).toNat =(val l).toNat *10+(c-48).toNat :=by rw [zGP]; omega
  have e2:10^(l++[c]).length =10^l.length*10:=by rw [List.length_append,List.length_singleton,Nat.pow_succ]
  have hp:1≤10^l.length:=Nat.one_le_pow _ _ (by omega)
  rw [e1,e2,zEx (by omega)]
  have e3:(10^l.length*10+((val l).toNat *10+(c-48).toNat)) / 10=10^l.length+(val l).toNat :=by omega
  have e4:(10^l.length*10+((val l).toNat *10+(c-48).toNat))%10=(c-48).toNat :=by omega
  rw [e3,e4,ih hl,List.cons_append]
  congr 3
  omega
def zPJ:List Int:=[103,101,110,47]
theorem zNH:bl (bs [103,101,110,47])=zPJ:=zLd _
theorem zMb (n:Int):∃s,jB n=some s∧bl s=(if 1≤n∧n≤999999 then zPJ++(zF9 (1000000+n.toNat)).drop 1 else []):=by
 unfold jB
 rw [zQx]
 simp only [Option.bind_some]
 by_cases h:1≤n∧n≤999999
 ·rw [if_pos h]
  have hb:(decide (n≥1)&&decide (n≤999999))=true:=by simp; omega
  rw [hb]
  rw [wC (by omega) (by omega),show (1000000:Int)+n=((1000000+n.toNat:Nat):Int) by omega]
  obtain ⟨s,e,hs⟩:=zEC (1000000+n.toNat) (by omega)
  have hlen:(zF9 (1000000+n.toNat)).length =7:=zFL 6 _ (by omega) (by omega)
  have hsz:s.size=7:=by rw [←yP,hs,hlen]
  rw [e]
  simp only [Bool.not_true,Bool.false_eq_true,if_false,Option.bind_some]
  unfold zIs
  rw [if_pos (by omega)]
  simp only [Option.bind_some]
  have hx:(s.extract (1:Int).toNat ((s.size:Int)).toNat).size =6:=by
   rw [←yP,zDB,List.length_take,List.length_drop,hs,hlen,hsz]
   rfl
  unfold cat
  rw [if_pos (by have:(bs [103,101,110,47]).size =4:=rfl; omega)]
  refine ⟨_,rfl,?_⟩
  rw [zEn,zNH,zDB,hs]
  congr 1
  rw [List.take_of_length_le (by rw [List.length_drop,hlen,hsz]; decide)]
  rfl
 ·rw [if_neg h]
  have hb:(decide (n≥1)&&decide (n≤999999))=false:=by
   simp only [Bool.and_eq_false_iff,decide_eq_false_iff_not]; omega
  rw [hb]
  exact ⟨_,rfl,zLd _⟩
def zDX (l:List Int):Option Int:=match zKt (l.drop 4) 6 with
 |some n=>if n≥1∧l.length=10 then some n else none
 |none=>none
theorem zN9 {l:List Int} (hp:l.take 4=zPJ) (hl:4≤l.length) {n:Int} (h:zKt (l.drop 4) 6=some n):
  (if 1≤n∧n≤999999 then zPJ++(zF9 (1000000+n.toNat)).drop 1 else [])=l↔(n≥1∧l.length=10):=by
 unfold zKt at h
 split at h
 ·cases h
 ·rename_i hc
  cases h
  have hc1:1≤(l.drop 4).length :=by omega
  have hc2:(l.drop 4).length ≤6:=by omega
  have hd:∀c∈l.drop 4,zGR c=true:=Classical.byContradiction fun h=>hc (.inr (.inr h))
  have hb:=zFm hd
  have hle:val (l.drop 4)≤999999:=by
   have:(10:Nat)^(l.drop 4).length ≤10^6:=Nat.pow_le_pow_right (by omega) hc2
   have e:(((10:Nat)^(l.drop 4).length :Nat):Int)=(10:Int)^(l.drop 4).length :=by simp
   omega
  have hll:l.length=4+(l.drop 4).length :=by simp; omega
  by_cases hn:1≤val (l.drop 4)
  ·rw [if_pos ⟨hn,hle⟩]
   constructor
   ·intro e
    refine ⟨hn,?_⟩
    rw [←e,List.length_append,List.length_drop,zFL 6 _ (by omega) (by omega)]
    rfl
   ·rintro ⟨_,h10⟩
    have h6:(l.drop 4).length =6:=by omega
    have key:=zOs hd
    rw [h6,show (10:Nat)^6=1000000 from rfl] at key
    rw [key,←hp]
    simp
  ·rw [if_neg (by omega)]
   constructor
   ·intro e
    rw [←e] at hll
    simp at hll
   ·rintro ⟨h',_⟩; omega
theorem zJ7 {s p:ByteArray} (h:begins s p=true):(bl s).take (bl p).length =bl p∧(bl p).length ≤(bl s).length :=by
 unfold begins at h
 simp only [Bool.and_eq_true,decide_eq_true_eq] at h
 have:=zGn.1 h.2
 refine ⟨?_,by rw [yP,yP]; exact h.1⟩
 have e:=congrArg bl this
 rw [zDB] at e
 simpa [yP] using e
theorem zFN {fs:List File} {p:ByteArray}:∀s∈jV fs p,begins s p=true:=by
 intro s hs
 unfold jV at hs
 obtain ⟨f,hf,rfl⟩:=List.mem_map.1 hs
 exact (List.mem_filter.1 hf).2
def zGK (fs:List File):List Int:=(jV fs (bs [103,101,110,47])).filterMap (fun p=>zDX (bl p))
theorem zGU {ps:List ByteArray} (h:∀s∈ps,begins s (bs [103,101,110,47])=true) {i:Nat} (hi:i<ps.length):(bl ps[i]).take 4=zPJ∧4≤(bl ps[i]).length :=by
 have:=zJ7 (h _ (List.getElem_mem hi))
 rw [zNH] at this
 exact this
theorem zJz {s:ByteArray} {k:Nat} (h:k≤s.size):∃t,zIs s (k:Int) (s.size:Int)=some t∧bl t=(bl s).drop k:=by
 unfold zIs
 rw [if_pos (by omega)]
 refine ⟨_,rfl,?_⟩
 rw [zDB]
 simp only [Int.toNat_natCast]
 rw [List.take_of_length_le (by rw [List.length_drop,yP]; exact Nat.le_refl _)]
theorem zMN {f:ByteArray→Option Int}:∀(l:List ByteArray),(l.filterMap f).length ≤l.length:=fun l=>List.length_filterMap_le f l
theorem zNF (d:zC) (h:d.Files.length≤1048576):zD5 d=some (zGK d.Files):=by
 unfold zD5 zGK
 rw [zIz d _ h]
 simp only [Option.bind_some]
 have hm:=zFN (fs:=d.Files) (p:=bs [103,101,110,47])
 have hlen:=zEh d.Files (bs [103,101,110,47])
 generalize jV d.Files (bs [103,101,110,47])=ps at*
 obtain ⟨t,e,rfl⟩:=kX (b:=zC5 d ps) (fun i s=>s=((ps.take i).filterMap (fun p=>zDX (bl p)),(i:Int))) ps.length (fun t=>t=ps.filterMap (fun p=>zDX (bl p))) (by
  rintro i s hi rfl
  obtain ⟨hp,h4⟩:=zGU hm hi
  have hsz:4≤ps[i].size :=by rw [←yP]; exact h4
  obtain ⟨u,hu,hub⟩:=zJz (s:=ps[i]) (k:=4) hsz
  have hu':zIs ps[i] 4 (ps[i].size :Int)=some u:=hu
  have hfl:=zMN (f:=fun p=>zDX (bl p)) (ps.take i)
  have hil:(ps.take i).length ≤i:=by simp; omega
  have ha:∀x:Int,app 8 ((ps.take i).filterMap (fun p=>zDX (bl p))) [x]=some ((ps.take i).filterMap (fun p=>zDX (bl p))++[x]):=fun x=>zAU (by simp; omega) (by simp; omega)
  have hsplit:(ps.take (i+1)).filterMap (fun p=>zDX (bl p))=(ps.take i).filterMap (fun p=>zDX (bl p))++[ps[i]].filterMap (fun p=>zDX (bl p)):=by
   rw [List.take_succ_eq_append_getElem hi,List.filterMap_append]
  unfold zC5
  rw [if_pos (by simp; omega)]
  simp only [zK hi,Option.bind_some,hu',zHj u 6 (by omega),hub,zM (show i<9223372036854775807 by omega)]
  left
  cases hn:zKt ((bl ps[i]).drop 4) 6 with
  |none=>
   refine ⟨_,rfl,?_⟩
   rw [hsplit]
   simp [zDX,hn]
  |some n=>
   obtain ⟨g,hg,hgb⟩:=zMb n
   have hiff:=zN9 hp h4 hn
   rw [←hgb] at hiff
   simp only [if_true,hg,Option.bind_some]
   rw [zMI]
   by_cases hc:n≥1∧(bl ps[i]).length =10
   ·rw [decide_eq_true (hiff.2 hc)]
    simp only [Option.bind_some,if_true,ha]
    refine ⟨_,rfl,?_⟩
    rw [hsplit]
    simp [zDX,hn,hc]
   ·rw [decide_eq_false (fun e=>hc (hiff.1 e))]
    refine ⟨_,rfl,?_⟩
    rw [hsplit]
    simp only [List.filterMap_cons,zDX,hn,if_neg hc,List.filterMap_nil,List.append_nil]) (by
  rintro s rfl
  unfold zC5
  rw [if_neg (by simp)]
  exact ⟨_,rfl,by simp⟩) ps.length 0 ([],0) (by omega) (by simp)
 simp only [zDc,e,Option.bind_some]
theorem zP0 (d:zC) (h:d.Files.length≤1048576):zAL d=some (zGK d.Files):=by
 unfold zAL zGK
 rw [zMf,zIz d _ h]
 simp only [Option.bind_some]
 have hm:=zFN (fs:=d.Files) (p:=bs [103,101,110,47])
 have hlen:=zEh d.Files (bs [103,101,110,47])
 generalize jV d.Files (bs [103,101,110,47])=ps at*
 obtain ⟨t,e,rfl⟩:=kX (b:=zAC ps) (fun i s=>s=((ps.take i).filterMap (fun p=>zDX (bl p)),(i:Int))) ps.length (fun t=>t=ps.filterMap (fun p=>zDX (bl p))) (by
  rintro i s hi rfl
  obtain ⟨hp,h4⟩:=zGU hm hi
  have hsz:4≤ps[i].size :=by rw [←yP]; exact h4
  obtain ⟨u,hu,hub⟩:=zJz (s:=ps[i]) (k:=4) hsz
  have hu':zIs ps[i] 4 (ps[i].size :Int)=some u:=hu
  have hfl:=zMN (f:=fun p=>zDX (bl p)) (ps.take i)
  have hil:(ps.take i).length ≤i:=by simp; omega
  have ha:∀x:Int,app 8 ((ps.take i).filterMap (fun p=>zDX (bl p))) [x]=some ((ps.take i).filterMap (fun p=>zDX (bl p))++[x]):=fun x=>zAU (by simp; omega) (by simp; omega)
  have hsplit:(ps.take (i+1)).filterMap (fun p=>zDX (bl p))=(ps.take i).filterMap (fun p=>zDX (bl p))++[ps[i]].filterMap (fun p=>zDX (bl p)):=by
   rw [List.take_succ_eq_append_getElem hi,List.filterMap_append]
  unfold zAC
  rw [if_pos (by simp; omega)]
  simp only [zK hi,Option.bind_some,hu',number_eq u 6 (by omega),hub,zM (show i<9223372036854775807 by omega)]
  left
  cases hn:zKt ((bl ps[i]).drop 4) 6 with
  |none=>
   refine ⟨_,rfl,?_⟩
   rw [hsplit]
   simp [zDX,hn]
  |some n=>
   have hbl:((ps[i].size :Int)==10)=decide ((bl ps[i]).length =10):=by
    rw [yP,Bool.eq_iff_iff]; simp; omega
   simp only [hbl]
   by_cases h1:n≥1
   ·rw [if_pos (by simpa using h1)]
    by_cases h2:(bl ps[i]).length =10
    ·rw [decide_eq_true h2]
     simp only [Option.bind_some,if_true,ha]
     refine ⟨_,rfl,?_⟩
     rw [hsplit]
     simp [zDX,hn,h1,h2]
    ·rw [decide_eq_false h2]
     refine ⟨_,rfl,?_⟩
     rw [hsplit]
     simp [zDX,hn,h2]
   ·rw [if_neg (by simpa using h1)]
    refine ⟨_,rfl,?_⟩
    rw [hsplit]
    simp only [List.filterMap_cons,zDX,hn,if_neg (fun h':n≥1∧(bl ps[i]).length =10=>h1 h'.1),List.filterMap_nil,List.append_nil]) (by
  rintro s rfl
  unfold zAC
  rw [if_neg (by simp)]
  exact ⟨_,rfl,by simp⟩) ps.length 0 ([],0) (by omega) (by simp)
 simp only [zBo,e,Option.bind_some]
theorem zGC (fs:List File):(zGK fs).length ≤fs.length:=by
 unfold zGK
 have h1:=zMN (f:=fun p=>zDX (bl p)) (jV fs (bs [103,101,110,47]))
 have h2:=zEh fs (bs [103,101,110,47])
 omega
theorem zKe {l:List Int} (h:∀c∈l,0≤c∧c≤255):bl (b2s l)=l:=by
 refine (zIN (P:=fun l=>(∀c∈l,0≤c∧c≤255)→bl (b2s l)=l) ?_ ?_ l) h
 ·intro _; exact zLd []
 ·intro l c ih h
  have e:b2s (l++[c])=b2s l++b2s [c]:=by
   unfold b2s
   rw [List.foldl_append]
   generalize List.foldl (fun r n=>ByteArray.push r (UInt8.ofNat n.toNat)) ByteArray.empty l=x
   simp only [List.foldl_cons,List.foldl_nil]
   generalize UInt8.ofNat c.toNat=u
   apply toList_inj
   rw [ByteArray.toList_eq,ByteArray.toList_eq]
   simp
  rw [e,zEn,ih (fun x hx=>h x (by simp [hx])),zKH (h c (by simp)).1 (h c (by simp)).2]
theorem zL0 (l:List Int) (v:Int) (h:l.length≤1048576):zCR l v=some (decide (v∈l)):=by
 obtain ⟨t,e,ht⟩:=kX (b:=zDh l v) (fun i s=>s=(i:Int)∧v∉l.take i) l.length (fun t=>match t with| .ret r=>r=true∧v∈l| .nxt _=>v∉l) (by
  rintro i s hi ⟨rfl,hv⟩
  unfold zDh
  rw [if_pos (by simp; omega)]
  simp only [zK hi,Option.bind_some]
  by_cases hc:l[i]=v
  ·rw [if_pos (by simpa using hc)]
   exact .inr ⟨_,rfl,rfl,hc▸List.getElem_mem hi⟩
  ·rw [if_neg (by simpa using hc),zM (by omega)]
   refine .inl ⟨_,rfl,rfl,?_⟩
   rw [List.take_succ_eq_append_getElem hi]
   simp only [List.mem_append,List.mem_singleton,not_or]
   exact ⟨hv,fun e=>hc e.symm⟩) (by
  rintro s ⟨rfl,hv⟩
  unfold zDh
  rw [if_neg (by simp)]
  rw [List.take_length] at hv
  exact ⟨_,rfl,hv⟩) l.length 0 0 (by omega) ⟨rfl,by simp⟩
 unfold zCR
 rw [show zDP l v 0=some t from e]
 cases t with
 |ret r=>obtain ⟨rfl,hm⟩:=ht; simp [Fl.go,hm]
 |nxt _=>simp only [Fl.go,Option.bind_some]; rw [decide_eq_false ht]
theorem zL2 (l:List Int) (v:Int) (h:l.length≤1048576):xV l v=some (decide (v∈l)):=by
 obtain ⟨t,e,ht⟩:=kX (b:=vZ l v) (fun i s=>s=(i:Int)∧v∉l.take i) l.length (fun t=>match t with| .ret r=>0≤r∧v∈l| .nxt _=>v∉l) (by
  rintro i s hi ⟨rfl,hv⟩
  unfold vZ
  rw [if_pos (by simp; omega)]
  simp only [zK hi,Option.bind_some]
  by_cases hc:v=l[i]
  ·rw [if_pos (by simpa using hc)]
   exact .inr ⟨_,rfl,by omega,hc▸List.getElem_mem hi⟩
  ·rw [if_neg (by simpa using hc),zM (by omega)]
   refine .inl ⟨_,rfl,rfl,?_⟩
   rw [List.take_succ_eq_append_getElem hi]
   simp only [List.mem_append,List.mem_singleton,not_or]
   exact ⟨hv,hc⟩) (by
  rintro s ⟨rfl,hv⟩
  unfold vZ
  rw [if_neg (by simp)]
  rw [List.take_length] at hv
  exact ⟨_,rfl,hv⟩) l.length 0 0 (by omega) ⟨rfl,by simp⟩
 unfold xV uW
 rw [show uP l v 0=some t from e]
 cases t with
 |ret r=>obtain ⟨h0,hm⟩:=ht; simp [Fl.go,hm,h0]
 |nxt _=>simp only [Fl.go,Option.bind_some]; rw [decide_eq_false ht]; rfl
theorem zPv {fs:List File} {p:ByteArray} {k:Nat} (hs:fs.Pairwise (fun f g=>slt f.Path g.Path=true)) (hk:k<fs.length) (hp:fs[k].Path =p):fs.find? (fun f=>decide (f.Path=p))=some fs[k]:=by
 rw [List.find?_eq_some_iff_getElem]
 refine ⟨by simp [hp],k,hk,rfl,fun j hj=>?_⟩
 simp only [Bool.not_eq_eq_eq_not,Bool.not_true,decide_eq_false_iff_not]
 intro e
 have:=zI8 hs (by omega) hk (e.trans hp.symm)
 omega
theorem zMZ {fs:List File} {p:ByteArray} (h:∀f∈fs,f.Path≠p):fs.find? (fun f=>decide (f.Path=p))=none:=by
 rw [List.find?_eq_none]
 intro f hf
 simpa using h f hf
def zNP (c:Int):Bool:=decide (97≤c)&&decide (c≤122)
def zKr (c:Int):Bool:=decide (48≤c)&&decide (c≤57)
def zMO (c:Int):Bool:=zNP c||(zKr c||c==95)
theorem zH3 (c:Int):vI c=some (zNP c):=by
 unfold vI zNP
 by_cases h:c≥97<;>simp [h]
theorem zLQ (c:Int):vQ c=some (zKr c):=by
 unfold vQ zKr
 by_cases h:c≥48<;>simp [h]
theorem zM7 (c:Int):vW c=some (zMO c):=by
 unfold vW zMO
 simp only [zH3,zLQ,Option.bind_some]
 cases zNP c<;>cases zKr c<;>simp
theorem zII (c:Int):wF c=some (zMO c):=by
 unfold wF zMO zNP zKr
 by_cases h1:c≥97<;>by_cases h2:c≤122<;>by_cases h3:c≥48<;>by_cases h4:c≤57<;>simp [h1,h2,h3,h4]
def zJj (s:ByteArray):Int:=(wU (fun _ c=>if zMO c then none else some (5:Int)) 0 (bl s)).getD 0
def NF (s:ByteArray):Int:=if s.size<1 then 5 else if s.size>12 then 5 else if zNP ((bl s).headD 0) then zJj s else 5
theorem zNI {s:ByteArray} (h:1≤s.size):bidx s 0=some ((bl s).headD 0):=by
 have h':0< (bl s).length :=by rw [yP]; exact h
 have e:=zEv (s:=s) (i:=0) h'
 rw [show ((0:Nat):Int)=0 from rfl] at e
 rw [e]
 have:(bl s)[0]? =some ((bl s).headD 0):=by
  cases hb:bl s with
  |nil=>rw [hb] at h'; simp at h'
  |cons c l=>rfl
 rw [List.getElem?_eq_getElem h'] at this
 exact this
theorem zJi (s:ByteArray) (h:s.size≤12):kK s 0=some (frs (wU (fun _ c=>if zMO c then none else some (5:Int)) 0 (bl s))):=by
 unfold kK
 refine wM (bl s) _ (fun i hi=>?_) ?_
 ·have hs:i<s.size:=by rw [←yP]; exact hi
  unfold zBT
  rw [if_pos (by simp; omega),zEv hi]
  simp only [Option.bind_some,zM7]
  rw [zM (by omega)]
  cases zMO (bl s)[i]<;>rfl
 ·unfold zBT
  rw [if_neg (by rw [yP]; simp)]
theorem zIO (s:ByteArray) (h:s.size≤12):kG s 0=some (frs (wU (fun _ c=>if zMO c then none else some (5:Int)) 0 (bl s))):=by
 unfold kG
 refine wM (bl s) _ (fun i hi=>?_) ?_
 ·have hs:i<s.size:=by rw [←yP]; exact hi
  unfold zBW
  rw [if_pos (by simp; omega),zEv hi]
  simp only [Option.bind_some,zII]
  rw [zM (by omega)]
  cases zMO (bl s)[i]<;>rfl
 ·unfold zBW
  rw [if_neg (by rw [yP]; simp)]
theorem zEB (s:ByteArray):vE s=some (NF s):=by
 unfold vE NF
 by_cases h1:s.size<1
 ·rw [if_pos (show decide ((s.size:Int)<1)=true by rw [decide_eq_true_eq]; omega),if_pos h1]; rfl
 rw [if_neg (show ¬decide ((s.size:Int)<1)=true by rw [decide_eq_true_eq]; omega),if_neg h1]
 by_cases h2:s.size>12
 ·rw [if_pos (show decide ((s.size:Int)>12)=true by rw [decide_eq_true_eq]; omega),if_pos h2]; rfl
 rw [if_neg (show ¬decide ((s.size:Int)>12)=true by rw [decide_eq_true_eq]; omega),if_neg h2,zNI (by omega),zJi s (by omega)]
 simp only [Option.bind_some,zH3]
 cases h3:zNP ((bl s).headD 0)
 ·rfl
 ·unfold zJj
  cases wU (fun _ c=>if zMO c then none else some (5:Int)) 0 (bl s)<;>rfl
theorem zOr (c:Int):(if decide (c<97)=true then some true else some (decide (c>122)))=some (!(zNP c)):=by
 unfold zNP
 by_cases h3:c<97
 ·rw [if_pos (by rw [decide_eq_true_eq]; exact h3)]
  have:decide (97≤c)=false:=by rw [decide_eq_false_iff_not]; omega
  rw [this]; rfl
 ·rw [if_neg (by rw [decide_eq_true_eq]; exact h3)]
  have:decide (97≤c)=true:=by rw [decide_eq_true_eq]; omega
  rw [this]
  congr 1
  rw [Bool.true_and,Bool.eq_iff_iff]
  simp
theorem zED (s:ByteArray):vB s=some (NF s):=by
 unfold vB NF
 by_cases h1:s.size<1
 ·rw [if_pos (show decide ((s.size:Int)<1)=true by rw [decide_eq_true_eq]; omega),if_pos h1]; rfl
 rw [if_neg (show ¬decide ((s.size:Int)<1)=true by rw [decide_eq_true_eq]; omega),if_neg h1]
 by_cases h2:s.size>12
 ·rw [if_pos (show decide ((s.size:Int)>12)=true by rw [decide_eq_true_eq]; omega),if_pos h2]; rfl
 rw [if_neg (show ¬decide ((s.size:Int)>12)=true by rw [decide_eq_true_eq]; omega),if_neg h2,zNI (by omega),zIO s (by omega)]
 simp only [Option.bind_some,zOr]
 cases h3:zNP ((bl s).headD 0)
 ·rfl
 ·unfold zJj
  cases wU (fun _ c=>if zMO c then none else some (5:Int)) 0 (bl s)<;>rfl
def VF (v:Version):Int:=if inB v.A 0 999&&inB v.B 0 999&&inB v.C 0 999 then 0 else 3
theorem zEd (v:Version):xQ v=some (VF v):=by
 unfold xQ VF
 simp only [zLk,Option.bind_some]
 cases inB v.A 0 999<;>cases inB v.B 0 999<;>cases inB v.C 0 999<;>rfl
theorem zEK (v:Version):wI v=some (VF v):=by
 unfold wI VF
 simp only [zKh,Option.bind_some]
 cases inB v.A 0 999<;>cases inB v.B 0 999<;>cases inB v.C 0 999<;>rfl
def sgn (a b:Int):Int:=if a<b then-1 else if a>b then 1 else 0
theorem zN5 (a b:Int):zAg a b=some (sgn a b):=by
 unfold zAg sgn
 by_cases h:a<b
 ·simp [h]
 ·by_cases h2:a>b<;>simp [h,h2]
theorem cmp_eq (a b:Int):wJ a b=some (sgn a b):=by
 unfold wJ jE sgn
 simp only [Option.bind_some,bne_self_eq_false,Bool.false_eq_true,if_false]
 by_cases h:a<b
 ·simp [h]
 ·by_cases h2:a>b<;>simp [h,h2]
def zIw (a b:Version):Int:=if sgn a.A b.A≠0 then sgn a.A b.A else if sgn a.B b.B≠0 then sgn a.B b.B else sgn a.C b.C
theorem zCW (a b:Version):yS a b=some (zIw a b):=by
 unfold yS zIw
 simp only [zN5,Option.bind_some]
 by_cases h1:sgn a.A b.A=0
 ·by_cases h2:sgn a.B b.B=0<;>simp [h1,h2]
 ·simp [h1]
theorem zPe (l:List Int) (h:l.length≤10):loop (zDj l) 0=some (frs (wU (fun _ c=>if c !=0 then some c else none) 0 l)):=by
 refine wM l _ (fun i hi=>?_) ?_
 ·unfold zDj
  rw [if_pos (by simp; omega),zK hi]
  simp only [Option.bind_some]
  rw [zM (by omega)]
  cases l[i] !=0<;>rfl
 ·unfold zDj
  rw [if_neg (by simp)]
theorem zG7 (a b:Version):uN a b=some (zIw a b):=by
 unfold uN zIw zEy zDH
 simp only [cmp_eq,Option.bind_some]
 rw [zPe _ (by simp),zDS]
 by_cases h1:sgn a.A b.A=0
 ·by_cases h2:sgn a.B b.B=0
  ·by_cases h3:sgn a.C b.C=0<;>simp [h1,h2,h3,wU]
  ·simp [h1,h2,wU]
 ·simp [h1,wU]
theorem zN2 (a b:Version):zIw b a= -zIw a b:=by
 unfold zIw sgn
 split<;>split<;>omega
def eqV (a b:Version):Bool:=a.A==b.A&&(a.B==b.B&&(a.C==b.C&&true))
theorem zNj (a b:Version):(zIw a b==0)=eqV a b:=by
 unfold zIw eqV sgn
 rw [Bool.eq_iff_iff]
 simp only [beq_iff_eq,Bool.and_eq_true,Bool.and_true]
 constructor
 ·intro h
  split at h<;>omega
 ·intro ⟨h1,h2,h3⟩
  split<;>omega
def zQe:Version:= {A:=1000,B:=0,C:=0}
def TF (t:Term):Int:=if NF t.Name≠0 then NF t.Name else if VF t.Low≠0 then VF t.Low else
 if eqV t.High zQe=false∧VF t.High≠0 then 3 else if zIw t.Low t.High≥0 then 1 else 0
theorem zHR (t:Term):zAQ t=some (TF t):=by
 unfold zAQ TF zEf
 simp only [zEB,zEd,zCW,Option.bind_some]
 show (if (NF t.Name !=0)=true then some (NF t.Name) else if (VF t.Low !=0)=true then some (VF t.Low) else (if (!(eqV t.High zQe))=true then some (VF t.High !=0) else some false).bind fun v=>if v=true then some 3 else if decide (zIw t.Low t.High≥0)=true then some 1 else some 0)=_
 generalize NF t.Name=a
 generalize VF t.Low=b
 generalize eqV t.High zQe=c
 generalize VF t.High=d
 generalize zIw t.Low t.High=e
 by_cases h1:a=0
 ·by_cases h2:b=0
  ·by_cases h4:d=0<;>by_cases h5:e≥0<;>cases c<;>simp [h1,h2,h4,h5]
  ·simp [h1,h2]
 ·simp [h1]
theorem zIc (t:Term):zAO t=some (TF t):=by
 unfold zAO TF zEZ
 simp only [zED,zEK,zG7,Option.bind_some]
 show (if (NF t.Name !=0)=true then some (NF t.Name) else if (VF t.Low !=0)=true then some (VF t.Low) else (if (!(eqV t.High zQe))=true then some (VF t.High !=0) else some false).bind fun v=>if v=true then some 3 else if decide (zIw t.Low t.High≥0)=true then some 1 else some 0)=_
 generalize NF t.Name=a
 generalize VF t.Low=b
 generalize eqV t.High zQe=c
 generalize VF t.High=d
 generalize zIw t.Low t.High=e
 by_cases h1:a=0
 ·by_cases h2:b=0
  ·by_cases h4:d=0<;>by_cases h5:e≥0<;>cases c<;>simp [h1,h2,h4,h5]
  ·simp [h1,h2]
 ·simp [h1]
def tsF (l:List Term):Int:=(wU (fun _ t=>if TF t !=0 then some (TF t) else none) 0 l).getD 0
theorem zG9 (l:List Term) (h:l.length≤1048576):kC l=some (tsF l):=by
 have key:=wM l (fun _ t=>if TF t !=0 then some (TF t) else none) (b:=zBA l) (by
  intro i hi
  unfold zBA
  rw [if_pos (by simp; omega),zK hi]
  simp only [Option.bind_some,zHR]
  rw [zM (by omega)]
  cases TF l[i] !=0<;>rfl) (by
  unfold zBA
  rw [if_neg (by simp)])
 unfold kC zCm tsF
 rw [key,zDS]
 cases wU (fun _ t=>if TF t !=0 then some (TF t) else none) 0 l<;>rfl
theorem zFg (l:List Term) (h:l.length≤1048576):vC l=some (tsF l):=by
 have key:=wM l (fun _ t=>if TF t !=0 then some (TF t) else none) (b:=zAe l) (by
  intro i hi
  unfold zAe
  rw [if_pos (by simp; omega),zK hi]
  simp only [Option.bind_some,zIc]
  rw [zM (by omega)]
  cases TF l[i] !=0<;>rfl) (by
  unfold zAe
  rw [if_neg (by simp)])
 unfold vC zA4 tsF
 rw [key,zDS]
 cases wU (fun _ t=>if TF t !=0 then some (TF t) else none) 0 l<;>rfl
theorem zDG {n:Nat} (h:n<1000):(zHK n).size ≤3:=by
 rw [←yP,zER]
 exact zHa 2 n (by omega)
theorem zEu:(bs [46]).size =1:=rfl
def zP8 (v:Version):ByteArray:=zHK v.A.toNat++bs [46]++zHK v.B.toNat++bs [46]++zHK v.C.toNat
theorem zH6 {v:Version} (h:VF v=0):(0≤v.A∧v.A≤999)∧(0≤v.B∧v.B≤999)∧(0≤v.C∧v.C≤999):=by
 unfold VF inB at h
 split at h
 ·rename_i hh
  simp only [Bool.and_eq_true,decide_eq_true_eq] at hh
  omega
 ·cases h
theorem zJN {v:Version} (h:VF v=0):(zP8 v).size ≤11:=by
 obtain ⟨h1,h2,h3⟩:=zH6 h
 unfold zP8
 simp only [zEq,zEu]
 have a1:=zDG (n:=v.A.toNat) (by omega)
 have a2:=zDG (n:=v.B.toNat) (by omega)
 have a3:=zDG (n:=v.C.toNat) (by omega)
 omega
theorem zJn {x:Int} (h:0≤x∧x≤999):xY x=some (zHK x.toNat):=by
 have:=zGG x.toNat (by omega)
 rwa [Int.toNat_of_nonneg h.1] at this
theorem zIK {x:Int} (h:0≤x∧x≤999):zAj x=some (zHK x.toNat):=by
 have:=zFk x.toNat (by omega)
 rw [Int.toNat_of_nonneg h.1] at this
 unfold zAj
 rw [this]
 rfl
theorem zFZ {v:Version} (h:VF v=0):uH v=some (zP8 v):=by
 obtain ⟨h1,h2,h3⟩:=zH6 h
 have a1:=zDG (n:=v.A.toNat) (by omega)
 have a2:=zDG (n:=v.B.toNat) (by omega)
 have a3:=zDG (n:=v.C.toNat) (by omega)
 unfold uH zP8
 rw [zEd,h]
 simp only [Option.bind_some,zJn h1,zJn h2,zJn h3]
 rw [if_neg (by simp)]
 rw [zEo (by rw [zEu]; omega)]
 simp only [Option.bind_some]
 rw [zEo (by simp only [zEq,zEu]; omega)]
 simp only [Option.bind_some]
 rw [zEo (by simp only [zEq,zEu]; omega)]
 simp only [Option.bind_some]
 rw [zEo (by simp only [zEq,zEu]; omega)]
 rfl
theorem zN4 {v:Version} (h:VF v=0):uY v=some (zP8 v):=by
 obtain ⟨h1,h2,h3⟩:=zH6 h
 have a1:=zDG (n:=v.A.toNat) (by omega)
 have a2:=zDG (n:=v.B.toNat) (by omega)
 have a3:=zDG (n:=v.C.toNat) (by omega)
 unfold uY zP8
 simp only [Option.bind_some,zIK h1,zIK h2,zIK h3]
 rw [zEo (by rw [zEu]; omega)]
 simp only [Option.bind_some]
 rw [zEo (by simp only [zEq,zEu]; omega)]
 simp only [Option.bind_some]
 rw [zEo (by simp only [zEq,zEu]; omega)]
 simp only [Option.bind_some]
 rw [zEo (by simp only [zEq,zEu]; omega)]
 rfl
theorem zIH {s:ByteArray} (h:NF s=0):1≤s.size∧s.size≤12:=by
 unfold NF at h
 split at h
 ·cases h
 ·split at h
  ·cases h
  ·omega
def zeroV:Version:= {A:=0,B:=0,C:=0}
theorem zIX (a b:ByteArray):seq a b=seq b a:=by
 unfold seq
 rw [Bool.eq_iff_iff]
 simp only [beq_iff_eq]
 exact eq_comm
theorem zE4 {α R:Type} (g:Nat→α→Option R):∀(xs:List α) (i:Nat),wU g i xs=none↔∀(j:Nat) (h:j<xs.length),g (i+j) xs[j]=none
 |[],i=>by simp [wU]
 |x::xs,i=>by
  simp only [wU]
  cases h:g i x with
  |some r=>
   simp only [reduceCtorEq,false_iff]
   intro hh
   have:=hh 0 (by simp)
   simp only [Nat.add_zero,List.getElem_cons_zero] at this
   rw [h] at this
   cases this
  |none=>
   show wU g (i+1) xs=none↔_
   rw [zE4 g xs (i+1)]
   constructor
   ·intro hh j hj
    cases j with
    |zero=>simpa using h
    |succ j=>
     have:=hh j (by simpa using hj)
     rw [show i+(j+1)=i+1+j by omega]
     simpa using this
   ·intro hh j hj
    have:=hh (j+1) (by simpa using hj)
    rw [show i+(j+1)=i+1+j by omega] at this
    simpa using this
theorem zF0 {α:Type} {xs:List α} {i:Nat} (h:i≤xs.length):zFw xs 0 (i:Int)=some (xs.take i):=by
 have:=zKI (xs:=xs) (l:=0) (h:=i) (by omega) h
 rw [show ((0:Nat):Int)=0 from rfl] at this
 rw [this]
 simp
theorem zIh (l:List ByteArray) (n:ByteArray) (h:l.length≤1048576):jZ l n=some (l.any fun x=>seq x n):=by
 have key:=wM l (fun _ x=>if seq x n then some true else none) (b:=zB6 l n) (by
  intro i hi
  unfold zB6
  rw [if_pos (by simp; omega),zK hi]
  simp only [Option.bind_some]
  rw [zM (by omega)]
  cases seq l[i] n<;>rfl) (by
  unfold zB6
  rw [if_neg (by simp)])
 unfold jZ zCf
 rw [key,zDS,←zGk (fun x=>seq x n) l 0]
 cases wU (fun _ x=>if seq x n then some true else none) 0 l<;>rfl
theorem zIU (l:List ByteArray) (n:ByteArray) (h:l.length≤1048576):wN l n=some (l.any fun x=>seq x n):=by
 have key:=wM l (fun i x=>if seq x n then some (i:Int) else none) (b:=vO l n) (by
  intro i hi
  unfold vO
  rw [if_pos (by simp; omega),zK hi]
  simp only [Option.bind_some]
  rw [zM (by omega),zIX n]
  cases seq l[i] n<;>rfl) (by
  unfold vO
  rw [if_neg (by simp)])
 unfold wN uI vT
 rw [key,zDS]
 rw [←zE8 (zDD (fun x=>seq x n) l 0)]
 cases wU (fun j x=>if seq x n then some (j:Int) else none) 0 l<;>rfl
def zKz (p:Pack) (i:Nat) (n:ByteArray):Option Int:=if NF n !=0 then some (NF n) else if seq n p.Name||(p.Provides.take i).any (fun x=>seq x n) then some 6 else none
def zLc (_:Nat) (l:List Term):Option Int:=if (l.length:Int)==0 then some 1 else if tsF l !=0 then some (tsF l) else none
def zPs (p:Pack):Bool:=decide ((p.Provides.length:Int)>4)||(decide ((p.Needs.length:Int)>4)||(decide ((p.Bars.length:Int)>4)||p.Needs.any (fun l=>decide ((l.length:Int)>4))))
def zJ3 (p:Pack):Int:=match wU (zKz p) 0 p.Provides with
 |some r=>r
 |none=>match wU zLc 0 p.Needs with
  |some r=>r
  |none=>tsF p.Bars
def PF (p:Pack):Int:=if NF p.Name !=0 then NF p.Name else if VF p.Version !=0 then VF p.Version else if !(inB p.Size 1 200) then 3 else if zPs p then 2 else zJ3 p
theorem zH7 (p:Pack) (hp:Pack.sm 1048576 p):((kL p 0).bind (Fl.go some fun v60=>(kH p 0).bind (Fl.go some fun v80=>(kC p.Bars).bind fun x81=>some x81)))=some (zJ3 p):=by
 obtain ⟨_,_,_,hpr,hne,hba⟩:=hp
 have k2:=wM p.Provides (zKz p) (b:=zAu p) (by
  intro i hi
  unfold zAu zKz
  rw [if_pos (by simp; omega),zK hi]
  simp only [Option.bind_some,zEB]
  rw [zF0 (by omega)]
  simp only [Option.bind_some]
  rw [zIh _ _ (by simp; omega),zM (by omega)]
  simp only [Option.bind_some]
  cases NF p.Provides[i] !=0<;>cases seq p.Provides[i] p.Name<;>cases (p.Provides.take i).any (fun x=>seq x p.Provides[i])<;>rfl) (by
  unfold zAu
  rw [if_neg (by simp)])
 have k3:=wM p.Needs zLc (b:=zA9 p) (by
  intro i hi
  unfold zA9 zLc
  rw [if_pos (by simp; omega),zK hi]
  simp only [Option.bind_some]
  rw [zG9 _ (hne.2 _ (List.getElem_mem hi)).1,zM (by omega)]
  simp only [Option.bind_some]
  cases (p.Needs[i].length :Int)==0<;>cases tsF p.Needs[i] !=0<;>rfl) (by
  unfold zA9
  rw [if_neg (by simp)])
 unfold kL kH zJ3
 rw [k2,k3,zG9 _ hba.1]
 cases wU (zKz p) 0 p.Provides<;>cases wU zLc 0 p.Needs<;>rfl
theorem zGJ (p:Pack) (hp:Pack.sm 1048576 p):((kP p 0).bind (Fl.go some fun v46=>(kN p 0).bind (Fl.go some fun v62=>(vC p.Bars).bind fun x63=>some x63)))=some (zJ3 p):=by
 obtain ⟨_,_,_,hpr,hne,hba⟩:=hp
 have k2:=wM p.Provides (zKz p) (b:=zA3 p) (by
  intro i hi
  unfold zA3 zKz
  rw [if_pos (by simp; omega),zK hi]
  simp only [Option.bind_some,zED]
  rw [zF0 (by omega)]
  simp only [Option.bind_some]
  rw [zIU _ _ (by simp; omega),zM (by omega)]
  simp only [Option.bind_some]
  cases NF p.Provides[i] !=0<;>cases seq p.Provides[i] p.Name<;>cases (p.Provides.take i).any (fun x=>seq x p.Provides[i])<;>rfl) (by
  unfold zA3
  rw [if_neg (by simp)])
 have k3:=wM p.Needs zLc (b:=zAv p) (by
  intro i hi
  unfold zAv zLc
  rw [if_pos (by simp; omega),zK hi]
  simp only [Option.bind_some]
  rw [zFg _ (hne.2 _ (List.getElem_mem hi)).1,zM (by omega)]
  simp only [Option.bind_some]
  cases (p.Needs[i].length :Int)==0<;>cases tsF p.Needs[i] !=0<;>rfl) (by
  unfold zAv
  rw [if_neg (by simp)])
 unfold kP kN zJ3
 rw [k2,k3,zFg _ hba.1]
 cases wU (zKz p) 0 p.Provides<;>cases wU zLc 0 p.Needs<;>rfl
theorem zG2 {α R:Type} (p:α→Bool) (r:R):∀(xs:List α) (i:Nat),wU (fun _ x=>if p x then some r else none) i xs=if xs.any p then some r else none
 |[],i=>rfl
 |x::xs,i=>by
  simp only [wU]
  cases h:p x
  ·simp only [Bool.false_eq_true,if_false,List.any_cons,h,Bool.false_or]
   exact zG2 p r xs (i+1)
  ·simp [h]
theorem zHW (p:Pack) (hp:Pack.sm 1048576 p):zAH p=some (PF p):=by
 have hl:=zH7 p hp
 obtain ⟨_,_,_,hpr,hne,hba⟩:=hp
 have k1:=wM p.Needs (fun _ l=>if decide ((l.length:Int)>4) then some (2:Int) else none) (b:=zA1 p) (by
  intro i hi
  unfold zA1
  rw [if_pos (by simp; omega),zK hi]
  simp only [Option.bind_some]
  rw [zM (by omega)]
  cases decide ((p.Needs[i].length :Int)>4)<;>rfl) (by
  unfold zA1
  rw [if_neg (by simp)])
 rw [zG2] at k1
 unfold zAH PF zPs
 simp only [zEB,zEd,zLk,Option.bind_some]
 rw [hl]
 unfold zAV
 rw [k1]
 cases NF p.Name !=0<;>cases VF p.Version !=0<;>cases inB p.Size 1 200<;>cases decide ((p.Provides.length:Int)>4)<;>cases decide ((p.Needs.length:Int)>4)<;>cases decide ((p.Bars.length:Int)>4)<;>cases p.Needs.any (fun l=>decide ((l.length:Int)>4))<;>rfl
theorem zOy (l:List Int) (h:l.length≤10):loop (zA2 l) 0=some (frs (wU (fun _ c=>if c !=0 then some c else none) 0 l)):=by
 refine wM l _ (fun i hi=>?_) ?_
 ·unfold zA2
  rw [if_pos (by simp; omega),zK hi]
  simp only [Option.bind_some]
  rw [zM (by omega)]
  cases l[i] !=0<;>rfl
 ·unfold zA2
  rw [if_neg (by simp)]
theorem zHU (p:Pack) (hp:Pack.sm 1048576 p):zAI p=some (PF p):=by
 have hl:=zGJ p hp
 obtain ⟨_,_,_,hpr,hne,hba⟩:=hp
 have k1:=wM p.Needs (fun i l=>if decide ((l.length:Int)>4) then some (i:Int) else none) (b:=yF p.Needs) (by
  intro i hi
  unfold yF zAm
  rw [if_pos (by simp; omega),zK hi]
  simp only [Option.bind_some]
  rw [zM (by omega)]
  cases decide ((p.Needs[i].length :Int)>4)<;>rfl) (by
  unfold yF
  rw [if_neg (by simp)])
 have k2:zO p.Needs=some (p.Needs.any (fun l=>decide ((l.length:Int)>4))):=by
  unfold zO yC yM
  rw [k1,zDS,←zE8 (zDD (fun l:List Term=>decide ((l.length:Int)>4)) p.Needs 0)]
  cases wU (fun j (x:List Term)=>if decide ((x.length:Int)>4) then some (j:Int) else none) 0 p.Needs<;>rfl
 have k3:zAE [NF p.Name,VF p.Version]=some (if NF p.Name !=0 then NF p.Name else VF p.Version):=by
  have k:=zOy [NF p.Name,VF p.Version] (by simp)
  unfold zAE zAW
  rw [k,zDS]
  simp only [wU]
  cases hn:NF p.Name !=0
  ·cases hv:VF p.Version !=0
   ·have:VF p.Version=0:=by simpa using hv
    simp [this]
   ·rfl
  ·rfl
 unfold zAI PF zPs
 simp only [zED,zEK,zKh,Option.bind_some]
 rw [hl,k2,k3]
 simp only [Option.bind_some]
 cases hn:NF p.Name !=0
 ·simp only [Bool.false_eq_true,if_false]
  cases VF p.Version !=0<;>cases inB p.Size 1 200<;>cases decide ((p.Provides.length:Int)>4)<;>cases decide ((p.Needs.length:Int)>4)<;>cases decide ((p.Bars.length:Int)>4)<;>cases p.Needs.any (fun l=>decide ((l.length:Int)>4))<;>rfl
 ·simp only [if_true,hn]
def isB (n:ByteArray) (v:Version) (q:Pack):Bool:=seq q.Name n&&eqV q.Version v
def zGM (c:List Pack) (n:ByteArray) (v:Version):Int:=(wU (fun i q=>if isB n v q then some (i:Int) else none) 0 c).getD (-1)
theorem zKc (c:List Pack) (n:ByteArray) (v:Version):decide (zGM c n v≥0)=c.any (isB n v):=zE8 (zDD (isB n v) c 0)
theorem zIt (c:List Pack) (n:ByteArray) (v:Version) (h:c.length≤1048576):kU c n v=some (zGM c n v):=by
 have key:=wM c (fun i q=>if isB n v q then some (i:Int) else none) (b:=zCr c n v) (by
  intro i hi
  unfold zCr isB
  rw [if_pos (by simp; omega),zK hi]
  simp only [Option.bind_some,zCW,zNj]
  rw [zM (by omega)]
  cases seq c[i].Name n<;>cases eqV c[i].Version v<;>rfl) (by
  unfold zCr
  rw [if_neg (by simp)])
 unfold zGM
 unfold kU zCZ
 rw [key,zDS]
 cases wU (fun i q=>if isB n v q then some (i:Int) else none) 0 c<;>rfl
theorem zI2 (c:List Pack) (n:ByteArray) (v:Version) (h:c.length≤1048576):zDe c n v=some (zGM c n v):=by
 have key:=wM c (fun i q=>if isB n v q then some (i:Int) else none) (b:=xD c n v) (by
  intro i hi
  unfold xD isB zDW
  rw [if_pos (by simp; omega),zK hi]
  simp only [Option.bind_some]
  rw [zM (by omega)]
  show (Option.bind (if seq c[i].Name n=true then some (eqV c[i].Version v) else some false) _)=_
  cases seq c[i].Name n<;>cases eqV c[i].Version v<;>rfl) (by
  unfold xD
  rw [if_neg (by simp)])
 unfold zGM
 unfold zDe yX xH
 rw [key,zDS]
 cases wU (fun i q=>if isB n v q then some (i:Int) else none) 0 c<;>rfl
theorem find_spec (c:List Pack) (n:ByteArray) (v:Version) (h:c.length≤1048576):∃k,kU c n v=some k∧decide (k≥0)=c.any (isB n v):=⟨_,zIt c n v h,zKc c n v⟩
theorem zNp (c:List Pack) (n:ByteArray) (v:Version) (h:c.length≤1048576):∃k,zDe c n v=some k∧decide (k≥0)=c.any (isB n v):=⟨_,zI2 c n v h,zKc c n v⟩
theorem zI5 {p:Pack→Bool}:∀(c:List Pack) (i:Nat),(wU (fun i q=>if p q then some (i:Int) else none) i c).getD (-1)= -1∨((i:Int)≤(wU (fun i q=>if p q then some (i:Int) else none) i c).getD (-1)∧(wU (fun i q=>if p q then some (i:Int) else none) i c).getD (-1)< (i:Int)+c.length)
 |[],i=>.inl rfl
 |q::c,i=>by
  simp only [wU]
  cases h:p q
  ·have:=zI5 (p:=p) c (i+1)
   simp only [Bool.false_eq_true,if_false,List.length_cons]
   rcases this with h|h
   ·exact .inl h
   ·exact .inr (by omega)
  ·simp only [if_true,Option.getD_some,List.length_cons]
   exact .inr (by omega)
theorem zLo (c:List Pack) (n:ByteArray) (v:Version):zGM c n v= -1∨(0≤zGM c n v∧zGM c n v<c.length):=by
 have:=zI5 (p:=isB n v) c 0
 unfold zGM
 rcases this with h|h
 ·exact .inl h
 ·exact .inr (by simpa using h)
def zNS (c:List Pack) (i:Nat) (p:Pack):Option Int:=if PF p !=0 then some (PF p) else if (c.take i).any (isB p.Name p.Version) then some 6 else none
def CF (c:List Pack):Int:=if decide ((c.length:Int)>24) then 2 else (wU (zNS c) 0 c).getD 0
theorem zGx (c:List Pack) (hc:c.length≤1048576∧∀y0∈c,Pack.sm 1048576 y0):tF c=some (CF c):=by
 have key:=wM c (zNS c) (b:=tZ c) (by
  intro i hi
  unfold tZ zNS
  rw [if_pos (by simp; omega),zK hi]
  simp only [Option.bind_some]
  rw [zHW _ (hc.2 _ (List.getElem_mem hi)),zF0 (by omega)]
  simp only [Option.bind_some]
  obtain ⟨k,e,hk⟩:=find_spec (c.take i) c[i].Name c[i].Version (by simp; omega)
  rw [e,zM (by omega)]
  simp only [Option.bind_some]
  rw [hk]
  cases PF c[i] !=0<;>cases (c.take i).any (isB c[i].Name c[i].Version)<;>rfl) (by
  unfold tZ
  rw [if_neg (by simp)])
 unfold tF CF jP
 rw [key,zDS]
 cases decide ((c.length:Int)>24)<;>cases wU (zNS c) 0 c<;>rfl
theorem zEO (c:List Pack) (hc:c.length≤1048576∧∀y0∈c,Pack.sm 1048576 y0):wV c=some (CF c):=by
 have key:=wM c (zNS c) (b:=tX c) (by
  intro i hi
  unfold tX zNS
  rw [if_pos (by simp; omega),zK hi]
  simp only [Option.bind_some]
  rw [zHU _ (hc.2 _ (List.getElem_mem hi)),zF0 (by omega)]
  simp only [Option.bind_some]
  obtain ⟨k,e,hk⟩:=zNp (c.take i) c[i].Name c[i].Version (by simp; omega)
  rw [e,zM (by omega)]
  simp only [Option.bind_some]
  rw [hk]
  cases PF c[i] !=0<;>cases (c.take i).any (isB c[i].Name c[i].Version)<;>rfl) (by
  unfold tX
  rw [if_neg (by simp)])
 unfold wV CF jQ
 rw [key,zDS]
 cases decide ((c.length:Int)>24)<;>cases wU (zNS c) 0 c<;>rfl
def noPack:Pack:= {Name:=ByteArray.empty,Version:= {A:=0,B:=0,C:=0},Size:=0,Provides:=[],Needs:=[],Bars:=[]}
def pat (c:List Pack) (k:Int):Pack:=(idx c k).getD noPack
def Places (c:List Pack) (a:List Int):Prop:=∀k∈a,0≤k∧k<c.length
theorem zEc {c:List Pack} {k:Int} (h:0≤k∧k<c.length):idx c k=some (pat c k)∧pat c k∈c:=by
 unfold pat idx
 rw [if_pos h.1]
 have:k.toNat<c.length:=by omega
 rw [List.getElem?_eq_getElem this]
 exact ⟨rfl,List.getElem_mem this⟩
def Cat (c:List Pack):Prop:=c.length≤1048576∧∀y0∈c,Pack.sm 1048576 y0
theorem Cat.zRv {c:List Pack} (hc:Cat c) {k:Int} (h:0≤k∧k<c.length):(pat c k).Provides.length ≤1048576:=(hc.2 _ (zEc h).2).2.2.2.1.1
theorem Cat.needs {c:List Pack} (hc:Cat c) {k:Int} (h:0≤k∧k<c.length):(pat c k).Needs.length ≤1048576:=(hc.2 _ (zEc h).2).2.2.2.2.1.1
theorem Cat.clause {c:List Pack} (hc:Cat c) {k:Int} (h:0≤k∧k<c.length) {l:List Term} (hl:l∈(pat c k).Needs):l.length≤1048576:=((hc.2 _ (zEc h).2).2.2.2.2.1.2 l hl).1
theorem Cat.bars {c:List Pack} (hc:Cat c) {k:Int} (h:0≤k∧k<c.length):(pat c k).Bars.length ≤1048576:=(hc.2 _ (zEc h).2).2.2.2.2.2.1
def zPO (c:List Pack) (a:List Int) (i:Nat) (k:Int):Option Bool:=if !(inB k 0 ((c.length:Int)-1))||(decide (0<i)&&decide (k≤a.getD (i-1) 0)) then some false else none
def zPd (c:List Pack) (a:List Int):Bool:=(wU (zPO c a) 0 a).isNone
theorem getD_lt {a:List Int} {i:Nat} (h:i<a.length):a.getD i 0=a[i]:=by simp [List.getD,h]
def SF (c:List Pack) (a:List Int):Int:=if CF c !=0 then CF c else if zPd c a then 0 else 1
def zR6 (a:List Int) (i:Nat) (k:Int):Option Int:=if decide (k≤a.getD (i-1) 0) then some 1 else none
theorem zOu (c:List Pack) (a:List Int):zPd c a=((wU (zR6 a) 1 (a.drop 1)).isNone &&a.all (fun k=>inB k 0 ((c.length:Int)-1))):=by
 unfold zPd
 rw [Bool.eq_iff_iff,Bool.and_eq_true,Option.isNone_iff_eq_none,Option.isNone_iff_eq_none,zE4,zE4,List.all_eq_true]
 constructor
 ·intro h
  constructor
  ·intro j hj
   have hj':1+j<a.length:=by simp at hj; omega
   have:=h (1+j) hj'
   unfold zPO at this
   unfold zR6
   rw [List.getElem_drop]
   split at this
   ·cases this
   ·rename_i hn
    rw [if_neg]
    intro hx
    apply hn
    rw [Nat.zero_add]
    rw [Bool.or_eq_true,Bool.and_eq_true]
    exact .inr ⟨by rw [decide_eq_true_eq]; omega,hx⟩
  ·intro k hk
   obtain ⟨i,hi,rfl⟩:=List.mem_iff_getElem.1 hk
   have:=h i hi
   unfold zPO at this
   split at this
   ·cases this
   ·rename_i hn
    simp only [Bool.or_eq_true,not_or] at hn
    simpa using hn.1
 ·rintro ⟨h1,h2⟩ j hj
  unfold zPO
  rw [if_neg]
  rw [Nat.zero_add,h2 _ (List.getElem_mem hj)]
  simp only [Bool.not_true,Bool.false_or,Bool.and_eq_true,not_and]
  intro h0 hx
  have h0':0<j:=by simpa using h0
  have hd:j-1< (a.drop 1).length :=by simp; omega
  have:=h1 (j-1) hd
  unfold zR6 at this
  rw [List.getElem_drop] at this
  have ej:1+(j-1)=j:=by omega
  simp only [ej] at this
  rw [if_pos hx] at this
  cases this
theorem zNb {c:List Pack} {a:List Int} (h:(SF c a==0)=true):Places c a:=by
 unfold SF at h
 split at h
 ·rename_i h1
  rw [beq_iff_eq] at h
  rw [h] at h1
  simp at h1
 ·split at h
  ·rename_i h2
   rw [zOu,Bool.and_eq_true,List.all_eq_true] at h2
   intro k hk
   have:=h2.2 k hk
   unfold inB at this
   simp only [Bool.and_eq_true,decide_eq_true_eq] at this
   omega
  ·cases h
def zPD (t:Term) (v:Version):Bool:=decide (zIw v t.Low≥0)&&decide (zIw v t.High<0)
def zNf (t:Term) (n:ByteArray) (v:Version):Bool:=seq t.Name n&&zPD t v
theorem zKS (t:Term) (n:ByteArray) (v:Version):jX t n v=some (zNf t n v):=by
 unfold jX zNf zPD
 simp only [zCW,Option.bind_some]
 cases seq t.Name n<;>cases decide (zIw v t.Low≥0)<;>rfl
theorem zOJ (t:Term) (n:ByteArray) (v:Version):zBs t n v=some (zNf t n v):=by
 unfold zBs zNf zPD
 simp only [zG7,Option.bind_some]
 have e:decide (zIw t.Low v≤0)=decide (zIw v t.Low≥0):=by
  rw [zN2 v t.Low]
  rw [Bool.eq_iff_iff,decide_eq_true_eq,decide_eq_true_eq]
  omega
 rw [e]
 cases seq t.Name n<;>cases decide (zIw v t.Low≥0)<;>rfl
def zBV (p:Pack) (t:Term):Bool:=(seq t.Name p.Name||p.Provides.any (fun x=>seq x t.Name))&&zPD t p.Version
theorem zMr (p:Pack) (t:Term) (h:p.Provides.length≤1048576):zCz p t=some (zBV p t):=by
 unfold zCz zBV
 simp only [zKS,Option.bind_some,zIh _ _ h,zNf,zOG,Bool.true_and]
 cases seq t.Name p.Name<;>cases p.Provides.any (fun x=>seq x t.Name)<;>rfl
theorem zIf (p:Pack) (t:Term) (h:p.Provides.length≤1048576):vV p t=some (zBV p t):=by
 unfold vV zAZ
 rw [zAU (by simp; omega) (by simp; omega)]
 simp only [Option.bind_some]
 have key:=wM ([p.Name]++p.Provides) (fun i n=>if zNf t n p.Version then some (i:Int) else none) (b:=yL ([p.Name]++p.Provides) t p) (by
  intro i hi
  have hi':i<p.Provides.length+1:=by simpa using hi
  unfold yL kF
  rw [if_pos (by rw [decide_eq_true_eq]; exact Int.ofNat_lt.2 hi),zK hi]
  simp only [Option.bind_some,zOJ]
  rw [zM (by omega)]
  cases zNf t ([p.Name]++p.Provides)[i] p.Version<;>rfl) (by
  unfold yL
  rw [if_neg (by simp)])
 unfold zX yD yR
 rw [key,zDS]
 have e:zBV p t=([p.Name]++p.Provides).any (fun n=>zNf t n p.Version):=by
  unfold zBV zNf
  have:(fun n=>seq t.Name n&&zPD t p.Version)=(fun n=>seq n t.Name&&zPD t p.Version):=funext fun n=>by rw [zIX]
  rw [this,zIX t.Name p.Name]
  cases zPD t p.Version<;>simp
 rw [e,←zE8 (zDD (fun n=>zNf t n p.Version) ([p.Name]++p.Provides) 0)]
 cases wU (fun i n=>if zNf t n p.Version then some (i:Int) else none) 0 ([p.Name]++p.Provides)<;>rfl
theorem zJa (p:Pack) (l:List Term) (h:p.Provides.length≤1048576) (hl:l.length≤1048576):uF p l=some (l.any (zBV p)):=by
 have key:=wM l (fun i t=>if zBV p t then some (i:Int) else none) (b:=yQ l p) (by
  intro i hi
  unfold yQ
  rw [if_pos (by simp; omega),zK hi]
  simp only [Option.bind_some,zIf _ _ h]
  rw [zM (by omega)]
  cases zBV p l[i]<;>rfl) (by
  unfold yQ
  rw [if_neg (by simp)])
 unfold uF yB yE yV
 rw [key,zDS,←zE8 (zDD (zBV p) l 0)]
 cases wU (fun i t=>if zBV p t then some (i:Int) else none) 0 l<;>rfl
def zEG (c:List Pack) (a:List Int) (t:Term) (x:Int):Bool:=a.any (fun k=>k !=x&&zBV (pat c k) t)
theorem zIl {c:List Pack} {a:List Int} (hc:Cat c) (hp:Places c a) (ha:a.length≤1048576) (t:Term) (x:Int):zA0 c a t x=some (zEG c a t x):=by
 have key:=wM a (fun _ k=>if k !=x&&zBV (pat c k) t then some true else none) (b:=zBD c a t x) (by
  intro i hi
  have hk:=hp _ (List.getElem_mem hi)
  unfold zBD
  rw [if_pos (by simp; omega),zK hi]
  simp only [Option.bind_some]
  rw [(zEc hk).1]
  simp only [Option.bind_some]
  rw [zMr _ _ (hc.zRv hk),zM (by omega)]
  cases a[i] !=x<;>cases zBV (pat c a[i]) t<;>rfl) (by
  unfold zBD
  rw [if_neg (by simp)])
 unfold zA0 zCj zEG
 rw [key,zDS,←zGk (fun k=>k !=x&&zBV (pat c k) t) a 0]
 cases wU (fun _ k=>if k !=x&&zBV (pat c k) t then some true else none) 0 a<;>rfl
theorem zMv {c:List Pack} {a:List Int} (hc:Cat c) (hp:Places c a) (ha:a.length≤1048576) (t:Term) (x:Int):zZ a x c t=some (zEG c a t x):=by
 have key:=wM a (fun i k=>if k !=x&&zBV (pat c k) t then some (i:Int) else none) (b:=xE a x c t) (by
  intro i hi
  have hk:=hp _ (List.getElem_mem hi)
  unfold xE zCN
  rw [if_pos (by simp; omega),zK hi]
  simp only [Option.bind_some]
  rw [(zEc hk).1]
  simp only [Option.bind_some]
  rw [zIf _ _ (hc.zRv hk),zM (by omega)]
  cases a[i] !=x<;>cases zBV (pat c a[i]) t<;>rfl) (by
  unfold xE
  rw [if_neg (by simp)])
 unfold zZ xB xK zEG
 rw [key,zDS,←zE8 (zDD (fun k=>k !=x&&zBV (pat c k) t) a 0)]
 cases wU (fun i k=>if k !=x&&zBV (pat c k) t then some (i:Int) else none) 0 a<;>rfl
def zOW (c:List Pack) (a:List Int) (l:List Term):Bool:=a.any (fun k=>l.any (zBV (pat c k)))
theorem zOv {c:List Pack} {a:List Int} (hc:Cat c) (hp:Places c a) (ha:a.length≤1048576) (l:List Term) (hl:l.length≤1048576):zDV c a l=some (zOW c a l):=by
 have key:=wM l (fun _ t=>if zEG c a t (-1) then some true else none) (b:=zDg c a l) (by
  intro i hi
  unfold zDg
  rw [if_pos (by simp; omega),zK hi]
  simp only [Option.bind_some,zIl hc hp ha]
  rw [zM (by omega)]
  cases zEG c a l[i] (-1)<;>rfl) (by
  unfold zDg
  rw [if_neg (by simp)])
 unfold zDV zDJ
 rw [key,zDS]
 have e:zOW c a l=l.any (fun t=>zEG c a t (-1)):=by
  unfold zOW zEG
  rw [Bool.eq_iff_iff]
  simp only [List.any_eq_true,Bool.and_eq_true,bne_iff_ne]
  constructor
  ·rintro ⟨k,hk,t,ht,hg⟩
   exact ⟨t,ht,k,hk,by have:=(hp k hk).1; omega,hg⟩
  ·rintro ⟨t,ht,k,hk,_,hg⟩
   exact ⟨k,hk,t,ht,hg⟩
 rw [e,←zGk (fun t=>zEG c a t (-1)) l 0]
 cases wU (fun _ t=>if zEG c a t (-1) then some true else none) 0 l<;>rfl
theorem zNY {c:List Pack} {a:List Int} (hc:Cat c) (hp:Places c a) (ha:a.length≤1048576) (l:List Term) (hl:l.length≤1048576):zY a c l=some (zOW c a l):=by
 have key:=wM a (fun i k=>if l.any (zBV (pat c k)) then some (i:Int) else none) (b:=xG a c l) (by
  intro i hi
  have hk:=hp _ (List.getElem_mem hi)
  unfold xG zCM
  rw [if_pos (by simp; omega),zK hi]
  simp only [Option.bind_some]
  rw [(zEc hk).1]
  simp only [Option.bind_some]
  rw [zJa _ _ (hc.zRv hk) hl,zM (by omega)]
  cases l.any (zBV (pat c a[i]))<;>rfl) (by
  unfold xG
  rw [if_neg (by simp)])
 unfold zY xC xJ zOW
 rw [key,zDS,←zE8 (zDD (fun k=>l.any (zBV (pat c k))) a 0)]
 cases wU (fun i k=>if l.any (zBV (pat c k)) then some (i:Int) else none) 0 a<;>rfl
theorem zI7 {α T:Type} (xs:List α) (g:Nat→α→Option T) (e:T) {b:Int→Option (Lp Int T)}
  (hstep:∀(i:Nat) (hi:i<xs.length),b (i:Int)=some (match g i xs[i] with|some r=>.done r|none=>.go ((i+1:Nat):Int))) (hend:b (xs.length:Int)=some (.done e)):
  ∀(k i:Nat),i+k=xs.length→loop b (i:Int)=some ((wU g i (xs.drop i)).getD e)
 |0,i,h=>by
  have e:i=xs.length:=by omega
  subst e
  rw [jO,hend,List.drop_length]
  rfl
 |k+1,i,h=>by
  have hi:i<xs.length:=by omega
  have ih:=zI7 xs g e hstep hend k (i+1) (by omega)
  rw [jO,hstep i hi,List.drop_eq_getElem_cons hi]
  simp only [wU]
  cases g i xs[i] with
  |some r=>rfl
  |none=>exact ih
def fN (c:List Pack) (a:List Int) (k:Int) (j:Nat) (l:List zR) (x:List Term):List zR:=if !(zOW c a x) then l++[{Kind:=2,Pack:=k,At:=(j:Int)}] else l
def fB (c:List Pack) (a:List Int) (k:Int) (j:Nat) (l:List zR) (t:Term):List zR:=if zEG c a t k then l++[{Kind:=3,Pack:=k,At:=(j:Int)}] else l
def fD (c:List Pack) (a:List Int) (i:Nat) (k:Int) (l:List zR):List zR:=if (a.take i).any (fun o=>seq (pat c o).Name (pat c k).Name) then l++[{Kind:=1,Pack:=k,At:=0}] else l
def fS (c:List Pack) (a:List Int) (i:Nat) (l:List zR) (k:Int):List zR:=foldI (fB c a k) 0 (pat c k).Bars (foldI (fN c a k) 0 (pat c k).Needs (fD c a i k l))
def zEW (c:List Pack) (a:List Int):List zR:=foldI (fS c a) 0 a []
theorem zQq (c:List Pack) (a:List Int) (k:Int) (j:Nat) (l:List zR) (x:List Term):(fN c a k j l x).length ≤l.length+1:=by unfold fN; split<;>simp
theorem zQg (c:List Pack) (a:List Int) (k:Int) (j:Nat) (l:List zR) (t:Term):(fB c a k j l t).length ≤l.length+1:=by unfold fB; split<;>simp
theorem zOP (c:List Pack) (a:List Int) (i:Nat) (k:Int) (l:List zR):(fD c a i k l).length ≤l.length+1:=by unfold fD; split<;>simp
theorem zI0 {c:List Pack} {a:List Int} (k:Int) (ns:List (List Term)) (hn:ns.length≤1048576) (n0:Nat) (h0:n0≤5497560000000) {b:(List zR×Int)→Option (Lp (List zR×Int) (List zR))}
  (hstep:∀(j:Nat) (l:List zR) (hj:j<ns.length),b (l,(j:Int))=(if !(zOW c a ns[j]) then (app 24 l [{Kind:=2,Pack:=k,At:=(j:Int)}]) else some l).bind fun v=>some (Lp.go (v,w64 ((j:Int)+1)))) (hend:∀l,b (l,(ns.length:Int))=some (.done l)) (l:List zR) (hl:l.length≤n0):
  loop b (l,0)=some (foldI (fN c a k) 0 ns l)∧(foldI (fN c a k) 0 ns l).length ≤n0+ns.length:=by
 have key:=zCL ns (fN c a k) (fun j l=>l.length≤n0+j) (b:=b) (by
  intro j l hj hI
  refine ⟨?_,by have:=zQq c a k j l ns[j]; omega⟩
  rw [hstep j l hj,zM (by omega),zAU (by simp; omega) (by simp; omega)]
  unfold fN
  cases zOW c a ns[j]<;>rfl) hend ns.length 0 l (by omega) (by simpa using hl)
 simpa using key
theorem zJE {c:List Pack} {a:List Int} (k:Int) (ts:List Term) (hn:ts.length≤1048576) (n0:Nat) (h0:n0≤5497560000000) {b:(List zR×Int)→Option (Lp (List zR×Int) (List zR))}
  (hstep:∀(j:Nat) (l:List zR) (hj:j<ts.length),b (l,(j:Int))=(if zEG c a ts[j] k then (app 24 l [{Kind:=3,Pack:=k,At:=(j:Int)}]) else some l).bind fun v=>some (Lp.go (v,w64 ((j:Int)+1)))) (hend:∀l,b (l,(ts.length:Int))=some (.done l)) (l:List zR) (hl:l.length≤n0):
  loop b (l,0)=some (foldI (fB c a k) 0 ts l)∧(foldI (fB c a k) 0 ts l).length ≤n0+ts.length:=by
 have key:=zCL ts (fB c a k) (fun j l=>l.length≤n0+j) (b:=b) (by
  intro j l hj hI
  refine ⟨?_,by have:=zQg c a k j l ts[j]; omega⟩
  rw [hstep j l hj,zM (by omega),zAU (by simp; omega) (by simp; omega)]
  unfold fB
  cases zEG c a ts[j] k<;>rfl) hend ts.length 0 l (by omega) (by simpa using hl)
 simpa using key
theorem zJf {α:Type} (o:Option α):o.bind (fun x=>some x)=o:=by cases o<;>rfl
def zEr (i:Nat):Nat:=i*2097153
theorem zK7 {c:List Pack} {a:List Int} (hc:Cat c) (hp:Places c a) (ha:a.length≤1048576):zBr c a=some (zEW c a):=by
 have key:=zCL a (fS c a) (fun i l=>l.length≤zEr i) (b:=zBm c a) (by
  intro i l hi hI
  have hk:=hp _ (List.getElem_mem hi)
  have hb:zEr i≤2199022206976:=by unfold zEr; omega
  have hb1:zEr (i+1)=zEr i+2097153:=by unfold zEr; omega
  have hN:=hc.needs hk
  have hB:=hc.bars hk
  have k1:=zI7 (a.take i) (fun _ o=>if seq (pat c o).Name (pat c a[i]).Name then some (l++[({Kind:=1,Pack:=a[i],At:=0}:zR)]) else none) l (b:=zBg c a (l,(i:Int)) (pat c a[i])) (by
   intro j hj
   have hj':j<i:=by simp at hj; omega
   have hja:j<a.length:=by omega
   have hkj:=hp _ (List.getElem_mem hja)
   unfold zBg
   rw [if_pos (by simp; omega),zK hja]
   simp only [Option.bind_some]
   rw [(zEc hkj).1,zK hi]
   simp only [Option.bind_some]
   rw [zM (by omega),zAU (by simp; omega) (by simp; omega),List.getElem_take]
   cases seq (pat c a[j]).Name (pat c a[i]).Name <;>rfl) (by
   have:(a.take i).length =i:=by simp; omega
   rw [this]
   unfold zBg
   rw [if_neg (by simp)]) (a.take i).length 0 (by omega)
  rw [List.drop_zero,zG2] at k1
  have e1:zAn c a (l,(i:Int)) (pat c a[i]) 0=some (fD c a i a[i] l):=by
   unfold zAn fD
   rw [show ((0:Nat):Int)=0 from rfl] at k1
   rw [k1]
   cases (a.take i).any (fun o=>seq (pat c o).Name (pat c a[i]).Name)<;>rfl
  have hd:=zOP c a i a[i] l
  obtain ⟨e2,l2⟩:=zI0 (c:=c) (a:=a) a[i] (pat c a[i]).Needs hN (zEr i+1) (by omega) (b:=zAX c a (l,(i:Int)) (pat c a[i])) (by
   intro j l hj
   unfold zAX
   rw [if_pos (by simp; omega),zK hj]
   simp only [Option.bind_some]
   rw [zOv hc hp ha _ (hc.clause hk (List.getElem_mem hj)),zK hi]
   simp only [Option.bind_some,zJf]) (by
   intro l
   unfold zAX
   rw [if_neg (by simp)]) (fD c a i a[i] l) (by omega)
  obtain ⟨e3,l3⟩:=zJE (c:=c) (a:=a) a[i] (pat c a[i]).Bars hB (zEr i+1+1048576) (by omega) (b:=zBk c a (l,(i:Int)) (pat c a[i])) (by
   intro j l hj
   unfold zBk
   rw [if_pos (by simp; omega),zK hj,zK hi]
   simp only [Option.bind_some,zIl hc hp ha,zJf]) (by
   intro l
   unfold zBk
   rw [if_neg (by simp)]) _ (Nat.le_trans l2 (by omega))
  refine ⟨?_,by show (fS c a i l a[i]).length ≤_; unfold fS; omega⟩
  unfold zBm
  rw [if_pos (by simp; omega),zK hi]
  simp only [Option.bind_some]
  rw [(zEc hk).1]
  simp only [Option.bind_some]
  rw [e1]
  simp only [Option.bind_some]
  unfold zBF zBM
  rw [e2]
  simp only [Option.bind_some]
  rw [e3,zM (by omega)]
  rfl) (by
  intro l
  unfold zBm
  rw [if_neg (by simp)]) a.length 0 [] (by omega) (by simp)
 unfold zBr zBC zEW
 have k:=key.1
 rw [show ((0:Nat):Int)=0 from rfl,List.drop_zero] at k
 rw [k]
 rfl
theorem zL1 (q:Int→Bool):∀(xs:List Int) (i:Nat),(∀k∈xs,0≤k)→(((wU (fun _ k=>if q k then some k else none) i xs).getD (-1)≥0)↔xs.any q=true)
 |[],i,_=>by simp [wU]
 |x::xs,i,h=>by
  simp only [wU]
  cases hq:q x
  ·simp only [Bool.false_eq_true,if_false,List.any_cons,hq,Bool.false_or]
   exact zL1 q xs (i+1) (fun k hk=>h k (by simp [hk]))
  ·have:=h x (by simp)
   simp [hq]
   omega
theorem zLH {c:List Pack} {a:List Int} (hp:Places c a) (ha:a.length≤1048576) (n:ByteArray):∃k,zEe c a n=some k∧decide (k≥0)=a.any (fun o=>seq (pat c o).Name n):=by
 have key:=wM a (fun _ k=>if seq (pat c k).Name n then some k else none) (b:=zCY c a n) (by
  intro i hi
  have hk:=hp _ (List.getElem_mem hi)
  unfold zCY
  rw [if_pos (by simp; omega),zK hi]
  simp only [Option.bind_some]
  rw [(zEc hk).1]
  simp only [Option.bind_some]
  rw [zM (by omega)]
  cases seq (pat c a[i]).Name n<;>rfl) (by
  unfold zCY
  rw [if_neg (by simp)])
 refine ⟨_,?_,zE8 (zL1 (fun o=>seq (pat c o).Name n) a 0 (fun k hk=>(hp k hk).1))⟩
 unfold zEe zDN
 rw [key,zDS]
 cases wU (fun _ k=>if seq (pat c k).Name n then some k else none) 0 a<;>rfl
theorem zKQ {c:List Pack} {a:List Int} (hc:Cat c) (hp:Places c a) (ha:a.length≤1048576):zD6 c a=some (zEW c a):=by
 have key:=zCL a (fS c a) (fun i l=>l.length≤zEr i) (b:=zCB c a) (by
  intro i l hi hI
  have hk:=hp _ (List.getElem_mem hi)
  have hb:zEr i≤2199022206976:=by unfold zEr; omega
  have hb1:zEr (i+1)=zEr i+2097153:=by unfold zEr; omega
  have hN:=hc.needs hk
  have hB:=hc.bars hk
  obtain ⟨kk,e0,hkk⟩:=zLH (c:=c) (a:=a.take i) (fun k hk=>hp k (List.mem_of_mem_take hk)) (by simp; omega) (pat c a[i]).Name
  have hd:=zOP c a i a[i] l
  obtain ⟨e2,l2⟩:=zI0 (c:=c) (a:=a) a[i] (pat c a[i]).Needs hN (zEr i+1) (by omega) (b:=zCH c a (l,(i:Int)) a[i] (pat c a[i])) (by
   intro j l hj
   unfold zCH
   rw [if_pos (by simp; omega),zK hj]
   simp only [Option.bind_some]
   rw [zNY hc hp ha _ (hc.clause hk (List.getElem_mem hj))]
   simp only [Option.bind_some,zJf]) (by
   intro l
   unfold zCH
   rw [if_neg (by simp)]) (fD c a i a[i] l) (by omega)
  obtain ⟨e3,l3⟩:=zJE (c:=c) (a:=a) a[i] (pat c a[i]).Bars hB (zEr i+1+1048576) (by omega) (b:=zCo c a (l,(i:Int)) a[i] (pat c a[i])) (by
   intro j l hj
   unfold zCo
   rw [if_pos (by simp; omega),zK hj]
   simp only [Option.bind_some,zMv hc hp ha,zJf]) (by
   intro l
   unfold zCo
   rw [if_neg (by simp)]) _ (Nat.le_trans l2 (by omega))
  refine ⟨?_,by show (fS c a i l a[i]).length ≤_; unfold fS; omega⟩
  unfold zCB
  rw [if_pos (by simp; omega),zK hi]
  simp only [Option.bind_some]
  rw [(zEc hk).1,zF0 (by omega)]
  simp only [Option.bind_some]
  rw [e0]
  simp only [Option.bind_some]
  rw [hkk,zAU (by simp; omega) (by simp; omega)]
  simp only [Option.bind_some]
  have ed:(if (a.take i).any (fun o=>seq (pat c o).Name (pat c a[i]).Name)=true then some (l++[({Kind:=1,Pack:=a[i],At:=0}:zR)]) else some l)=some (fD c a i a[i] l):=by
   unfold fD
   cases (a.take i).any (fun o=>seq (pat c o).Name (pat c a[i]).Name)<;>rfl
  rw [ed]
  simp only [Option.bind_some]
  unfold zDa zDk
  rw [e2]
  simp only [Option.bind_some]
  rw [e3,zM (by omega)]
  rfl) (by
  intro l
  unfold zCB
  rw [if_neg (by simp)]) a.length 0 [] (by omega) (by simp)
 unfold zD6 zDi zEW
 have k:=key.1
 rw [show ((0:Nat):Int)=0 from rfl,List.drop_zero] at k
 rw [k]
 rfl
def zRn (c:List Pack) (a:List Int):Bool:=(SF c a==0)&&((zEW c a).length :Int)==0
theorem zHs {c:List Pack} {a:List Int} (hc:Cat c) (ha:a.length≤1048576) (h:(SF c a==0)=true):jA c a=some (zRn c a):=by
 unfold jA zRn
 rw [zKQ hc (zNb h) ha,h]
 simp
theorem zPw {p:Pack} (h:PF p=0):NF p.Name=0∧VF p.Version=0∧inB p.Size 1 200=true:=by
 unfold PF at h
 split at h
 ·rename_i h1; simp [h] at h1
 rename_i h1
 split at h
 ·rename_i h2; simp [h] at h2
 rename_i h2
 split at h
 ·cases h
 rename_i h3
 exact ⟨by simpa using h1,by simpa using h2,by simpa using h3⟩
def zKB (p:Pack):ByteArray:=bs [112,107,103,47]++(p.Name++(bs [45]++zP8 p.Version))
theorem zLn {p:Pack} (h1:NF p.Name=0) (h2:VF p.Version=0):zDz p=some (zKB p):=by
 have a1:=zIH h1
 have a2:=zJN h2
 have b1:(bs [112,107,103,47]).size =4:=rfl
 have b2:(bs [45]).size =1:=rfl
 unfold zDz zKB
 rw [zFZ h2,zEo (by omega)]
 simp only [Option.bind_some]
 rw [zEo (by rw [zEq]; omega)]
 simp only [Option.bind_some]
 rw [zEo (by simp only [zEq]; omega)]
 simp only [Option.bind_some,zIL]
theorem zMU {p:Pack} (h1:NF p.Name=0) (h2:VF p.Version=0):zAT p=some (zKB p):=by
 have a1:=zIH h1
 have a2:=zJN h2
 have b1:(bs [112,107,103,47]).size =4:=rfl
 have b2:(bs [45]).size =1:=rfl
 unfold zAT zKB
 rw [zN4 h2,zEo (by omega)]
 simp only [Option.bind_some]
 rw [zEo (by rw [zEq]; omega)]
 simp only [Option.bind_some]
 rw [zEo (by simp only [zEq]; omega)]
 simp only [Option.bind_some,zIL]
theorem zIJ:∀(k n:Nat),n<10^(k+1)→zF9 (10^(k+1)+n)=49::(List.replicate (k+1-(zF9 n).length) 48++zF9 n)
 |0,n,h=>by
  have h':n<10:=by simpa using h
  rw [zEx (by simp),show (10^(0+1)+n) / 10=1 by simp; omega,show (10^(0+1)+n)%10=n by simp; omega,zBe (n:=1) (by omega),zBe h']
  rfl
 |k+1,n,h=>by
  have hp:1≤10^k:=Nat.one_le_pow _ _ (by omega)
  have e1:10^(k+1+1)=10*10^(k+1):=by rw [Nat.pow_succ]; omega
  rw [e1] at h
  have hq:n / 10<10^(k+1):=by omega
  have ih:=zIJ k (n / 10) hq
  have hl:=zHa k (n / 10) hq
  rw [e1,zEx (by omega),show (10*10^(k+1)+n) / 10=10^(k+1)+n / 10 by omega,show (10*10^(k+1)+n)%10=n%10 by omega,ih]
  by_cases hn:n<10
  ·rw [show n / 10=0 by omega,zBe (n:=0) (by omega),zBe hn,show n%10=n by omega]
   simp only [List.length_singleton,List.cons_append,List.append_assoc,List.nil_append]
   rw [show k+1+1-1=k+1 by omega,show k+1-1=k by omega]
   rw [show List.replicate (k+1) (48:Int)=List.replicate k 48++[48] from List.replicate_succ']
   simp
  ·rw [zEx hn,List.length_append]
   simp only [List.length_singleton,List.cons_append,List.append_assoc]
   rw [show k+1+1-((zF9 (n / 10)).length +1)=k+1-(zF9 (n / 10)).length by omega]
theorem zQQ (l:List UInt8):bl ⟨l.toArray⟩=l.map (fun b=>(b.toNat:Int)):=by
 unfold bl
 rw [ByteArray.toList_eq]
theorem zIi (u:UInt8):∀(n:Nat),Lib.repeatL [u] n=List.replicate n u
 |0=>rfl
 |n+1=>by rw [Lib.repeatL,zIi u n,List.replicate_succ]; rfl
def zRd (n:Int):List Int:=[103,101,110,47]++(List.replicate (6-(zF9 n.toNat).length) 48++zF9 n.toNat)
theorem zNe (l:List UInt8):(bs l).data.toList =l:=rfl
def zPu (n:Int):ByteArray:=bs [103,101,110,47]++(⟨(List.replicate (6-(zF9 n.toNat).length) (48:UInt8)).toArray⟩++zHK n.toNat)
theorem zNd (n:Int):bl (zPu n)=zRd n:=by
 unfold zPu zRd
 rw [zEn,zEn,zLd,zQQ,zER,List.map_replicate]
 rfl
theorem zIR {n:Nat} (h:n≤999999):1≤(zF9 n).length ∧(zF9 n).length ≤6:=by
 refine ⟨?_,zHa 5 n (by omega)⟩
 by_cases hn:n<10
 ·rw [zBe hn]; simp
 ·rw [zEx hn,List.length_append]; simp
theorem zK1 {s:ByteArray} {l h:Nat} (h1:l≤h) (h2:h≤s.size):zIs s (l:Int) (h:Int)=some (s.extract l h):=by
 unfold zIs
 rw [if_pos (by omega)]
 rfl
theorem zJr {n:Int} (h0:0≤n) (h1:n≤999999):zCk n=some (zPu n):=by
 have hd:=zIR (n:=n.toNat) (by omega)
 have hs:(zHK n.toNat).size =(zF9 n.toNat).length :=by rw [←yP,zER]
 have hf:=zFk n.toNat (by omega)
 rw [Int.toNat_of_nonneg h0] at hf
 have h4:(bs [103,101,110,47]).size =4:=rfl
 unfold zCk zAj
 rw [hf]
 simp only [Option.bind_some]
 rw [hs,wC (by omega) (by omega)]
 unfold strings_Repeat
 rw [if_pos ⟨by omega,by omega,by rw [show (bs [48]).size =1 from rfl]; omega⟩,zNe,zIi]
 simp only [Option.bind_some]
 have hr:(⟨(List.replicate (6-((zF9 n.toNat).length :Int)).toNat (48:UInt8)).toArray⟩:ByteArray).size =6-(zF9 n.toNat).length :=by
  rw [←yP,zQQ]
  simp
 rw [zEo (by rw [hr]; omega)]
 simp only [Option.bind_some]
 rw [zEo (by rw [zEq,hr]; omega)]
 unfold zPu
 rw [show (6-((zF9 n.toNat).length :Int)).toNat =6-(zF9 n.toNat).length by omega]
 simp only [Option.bind_some,zIL]
theorem zJt (n:Int):jB n=some (if inB n 1 999999 then zPu n else bs []):=by
 unfold jB
 rw [zLk]
 simp only [Option.bind_some]
 cases h:inB n 1 999999
 ·rfl
 have h':1≤n∧n≤999999:=by simpa [inB] using h
 rw [if_neg (by simp),wC (by omega) (by omega)]
 have e:=zGG (1000000+n.toNat) (by omega)
 rw [show ((1000000+n.toNat:Nat):Int)=1000000+n by omega] at e
 rw [e]
 simp only [Option.bind_some]
 have hp:=zIJ 5 n.toNat (by omega)
 rw [show 10^(5+1)+n.toNat=1000000+n.toNat by omega] at hp
 have hd:=zIR (n:=n.toNat) (by omega)
 have hz:(zHK (1000000+n.toNat)).size =7:=by
  rw [←yP,zER,hp]
  simp
  omega
 have e2:=zK1 (s:=zHK (1000000+n.toNat)) (l:=1) (h:=(zHK (1000000+n.toNat)).size) (by omega) (Nat.le_refl _)
 rw [show ((1:Nat):Int)=1 from rfl] at e2
 rw [e2]
 simp only [Option.bind_some]
 have hx:((zHK (1000000+n.toNat)).extract 1 (zHK (1000000+n.toNat)).size).size =6:=by
  rw [←yP,zDB,zER,hp,hz]
  simp
  omega
 rw [zEo (by rw [hx]; decide)]
 simp only [Option.bind_some,if_true]
 congr 1
 refine zHx.1 ?_
 rw [zEn,zDB,zER,hp,zNd,zLd,hz]
 unfold zRd
 rw [List.take_of_length_le (by simp; omega)]
 rfl
theorem zM6 {α:Type} {g:Nat→α→Option Int} (hg:∀i x,g i x≠some 0):∀(l:List α) (i:Nat),(wU g i l).getD 0=0→wU g i l=none
 |[],_,_=>rfl
 |x::l,i,h=>by
  simp only [wU] at h ⊢
  cases hx:g i x with
  |none=>rw [hx] at h; exact zM6 hg l (i+1) h
  |some r=>
   rw [hx] at h
   simp only [Option.getD_some] at h
   subst h
   exact absurd hx (hg i x)
theorem zPA {c:List Pack} (h:CF c=0):c.length≤24∧(∀p∈c,PF p=0)∧∀(j:Nat) (hj:j<c.length),(c.take j).any (isB c[j].Name c[j].Version)=false:=by
 unfold CF at h
 split at h
 ·cases h
 rename_i h1
 have h2:=zM6 (g:=zNS c) (fun i x=>by
  unfold zNS
  split
  ·rename_i h3
   intro e
   rw [Option.some.inj e] at h3
   simp at h3
  ·split<;>simp) c 0 h
 rw [zE4] at h2
 have h3:∀(j:Nat) (hj:j<c.length),PF c[j]=0∧(c.take j).any (isB c[j].Name c[j].Version)=false:=by
  intro j hj
  have:=h2 j hj
  unfold zNS at this
  rw [Nat.zero_add] at this
  split at this
  ·cases this
  ·rename_i h4
   split at this
   ·cases this
   ·rename_i h5
    exact ⟨by simpa using h4,by simpa using h5⟩
 refine ⟨by simp at h1; omega,fun p hp=>?_,fun j hj=>(h3 j hj).2⟩
 obtain ⟨j,hj,rfl⟩:=List.getElem_of_mem hp
 exact (h3 j hj).1
theorem zNv {a:List Int} (h:∀i,(hi:i+1<a.length)→a[i]<a[i+1]):a.Pairwise (· < ·):=by
 rw [List.pairwise_iff_getElem]
 intro i j hi hj hij
 obtain ⟨d,rfl⟩:∃d,j=i+1+d:=⟨j-i-1,by omega⟩
 clear hij
 induction d with
 |zero=>exact h i (by omega)
 |succ d ih=>
  have h1:=ih (by omega)
  have h2:=h (i+1+d) (by omega)
  show a[i]<a[i+1+d+1]
  omega
theorem zLr:∀{a:List Int} {lo hi:Int},a.Pairwise (· < ·)→(∀k∈a,lo≤k∧k<hi)→(a.length:Int)≤hi-lo∨a=[]
 |[],_,_,_,_=>.inr rfl
 |x::a,lo,hi,hp,hb=>by
  obtain ⟨h1,h2⟩:=List.pairwise_cons.1 hp
  have hx:=hb x (by simp)
  have:=zLr (lo:=x+1) (hi:=hi) h2 (fun k hk=>⟨by have:=h1 k hk; omega,(hb k (by simp [hk])).2⟩)
  refine .inl ?_
  rcases this with h3|h3
  ·simp only [List.length_cons]; omega
  ·subst h3; simp; omega
theorem zKs {c:List Pack} {a:List Int}:zPd c a=true↔a.Pairwise (· < ·)∧Places c a:=by
 unfold zPd
 rw [Option.isNone_iff_eq_none,zE4]
 constructor
 ·intro h
  have h1:∀(j:Nat) (hj:j<a.length),inB a[j] 0 ((c.length:Int)-1)=true∧(0<j→¬a[j]≤a.getD (j-1) 0):=by
   intro j hj
   have:=h j hj
   unfold zPO at this
   rw [Nat.zero_add] at this
   split at this
   ·cases this
   ·rename_i h2
    simp only [Bool.or_eq_true,Bool.not_eq_true',Bool.and_eq_true,decide_eq_true_eq,not_or,not_and,Bool.not_eq_false] at h2
    exact h2
  refine ⟨zNv fun i hi=>?_,fun k hk=>?_⟩
  ·have:=(h1 (i+1) hi).2 (by omega)
   rw [show i+1-1=i by omega,getD_lt (by omega)] at this
   omega
  ·obtain ⟨j,hj,rfl⟩:=List.getElem_of_mem hk
   have:=(h1 j hj).1
   unfold inB at this
   simp only [Bool.and_eq_true,decide_eq_true_eq] at this
   omega
 ·rintro ⟨h1,h2⟩ j hj
  unfold zPO
  rw [Nat.zero_add]
  have hk:=h2 a[j] (List.getElem_mem hj)
  rw [if_neg]
  simp only [Bool.or_eq_true,Bool.not_eq_true',Bool.and_eq_true,decide_eq_true_eq,not_or,not_and,Bool.not_eq_false]
  refine ⟨by unfold inB; simp; omega,fun h0=>?_⟩
  rw [getD_lt (by omega)]
  have:=(List.pairwise_iff_getElem.1 h1) (j-1) j (by omega) hj (by omega)
  omega
theorem zJv (s:ByteArray):s.data.toList.map (fun b=>(b.toNat:Int))=bl s:=by
 unfold bl
 rw [ByteArray.toList_eq]
theorem u8w (x:Int):IntKind.u8.wrap x=x%256:=by
 simp only [IntKind.wrap,IntKind.signed,IntKind.bits]
 simp
def zCV (p:Pack):Int:=p.Version.A+p.Version.B+p.Version.C+(bl p.Name).foldl (· + ·) 0
def zM0 (b0:Int):Nat→Int
 |0=>b0
 |i+1=>(31*zM0 b0 i+7)%256
def zLh (p:Pack):List Int:=(List.range p.Size.toNat).map (zM0 (zCV p%256))
theorem zI3 {b0:Int} (h:0≤b0∧b0<256):∀i,0≤zM0 b0 i∧zM0 b0 i<256
 |0=>h
 |i+1=>by unfold zM0; omega
theorem zF6:∀(l:List Int) (a:Int),l.foldl (· + ·) a=a+l.foldl (· + ·) 0
 |[],a=>by simp
 |x::l,a=>by
  simp only [List.foldl_cons]
  rw [zF6 l (a+x),zF6 l (0+x)]
  omega
theorem zJq:∀(l:List Int) (i:Nat) (a:Int),foldI (fun _ a x=>a+x) i l a=a+l.foldl (· + ·) 0
 |[],_,a=>by simp [foldI]
 |x::l,i,a=>by
  simp only [foldI,List.foldl_cons]
  rw [zJq l (i+1) (a+x),zF6 l (0+x)]
  omega
theorem zJI:∀(l:List Int) (i:Nat) (a b:Int),b=a%256→foldI (fun _ a x=>(a+x)%256) i l b=(a+l.foldl (· + ·) 0)%256
 |[],_,a,b,h=>by simp [foldI,h]
 |x::l,i,a,b,h=>by
  simp only [foldI,List.foldl_cons]
  rw [zJI l (i+1) (a+x) ((b+x)%256) (by rw [h]; omega),zF6 l (0+x)]
  congr 1
  omega
theorem zJy {p:Pack} (h1:NF p.Name=0) (h2:VF p.Version=0) (h3:1≤p.Size∧p.Size≤200):zCw p=some (zLh p):=by
 obtain ⟨v1,v2,v3⟩:=zH6 h2
 have hn:=zIH h1
 have hlen:(bl p.Name).length ≤12:=by rw [yP]; omega
 have k1:=zCL (bl p.Name) (fun _ a x=>a+x) (fun i a=>0≤a∧a≤3000+i*255) (b:=zBH p) (by
  intro i a hi ha
  have hr:=zGO (bl p.Name)[i] (List.getElem_mem hi)
  unfold zBH
  rw [if_pos (by rw [yP] at hi; simp; omega)]
  simp only
  rw [zEv hi]
  simp only [Option.bind_some]
  rw [wC (x:=(bl p.Name)[i]) (by omega) (by omega),wC (by omega) (by omega),zM (by omega)]
  exact ⟨rfl,by omega,by omega⟩) (by
  intro a
  unfold zBH
  rw [if_neg (by rw [yP]; simp)]) (bl p.Name).length 0 (p.Version.A+p.Version.B+p.Version.C) (by omega) ⟨by omega,by omega⟩
 rw [List.drop_zero,zJq] at k1
 obtain ⟨e1,b1,b2⟩:=k1
 have hb:0≤zCV p∧zCV p≤3000+12*255:=by
  unfold zCV
  omega
 obtain ⟨t,e2,rfl⟩:=kX (b:=zBE p) (fun i s=>s.2.2=(i:Int)∧s.2.1=(List.range i).map (zM0 (zCV p%256))∧0≤s.1∧s.1≤10000∧s.1%256=zM0 (zCV p%256) i) p.Size.toNat (fun t=>t=zLh p) (by
  rintro i ⟨n,out,j⟩ hi ⟨hj,ho,h4,h5,h6⟩
  simp only at hj ho h4 h5 h6
  subst hj ho
  unfold zBE
  rw [if_pos (by simp; omega)]
  simp only
  have ht:n.tmod 256=n%256:=Int.tmod_eq_emod_of_nonneg h4
  rw [ht,u8w,zAU (by simp; omega) (by simp; omega)]
  simp only [Option.bind_some]
  rw [wC (x:=31*(n%256)) (by omega) (by omega),wC (by omega) (by omega),zM (by omega)]
  refine .inl ⟨_,rfl,rfl,?_,by omega,by omega,?_⟩
  ·simp only
   rw [List.range_succ,List.map_append,show n%256%256=zM0 (zCV p%256) i by omega]
   rfl
  ·simp only [zM0]
   rw [←h6]) (by
  rintro ⟨n,out,j⟩ ⟨hj,ho,_⟩
  simp only at hj ho
  subst hj ho
  unfold zBE
  rw [if_neg (by simp; omega)]
  exact ⟨_,rfl,rfl⟩) p.Size.toNat 0 (zCV p,([]:List Int),0) (by omega) ⟨rfl,rfl,hb.1,by omega,rfl⟩
 unfold zCw
 rw [wC (x:=p.Version.A+p.Version.B) (by omega) (by omega),wC (x:=p.Version.A+p.Version.B+p.Version.C) (by omega) (by omega)]
 unfold zBZ
 rw [show ((0:Nat):Int)=0 from rfl] at e1
 rw [e1]
 simp only [Option.bind_some]
 unfold zC6
 unfold zCV at e2
 rw [e2]
 rfl
theorem zMa {p:Pack} (h1:NF p.Name=0) (h2:VF p.Version=0) (h3:1≤p.Size∧p.Size≤200):zAi p=some (zLh p):=by
 obtain ⟨v1,v2,v3⟩:=zH6 h2
 have hn:=zIH h1
 have hlen:(bl p.Name).length ≤12:=by rw [yP]; omega
 have k1:=zCL (bl p.Name) (fun _ a x=>(a+x)%256) (fun i a=>True) (b:=kV p) (by
  intro i a hi ha
  unfold kV
  rw [if_pos (by rw [yP] at hi; simp; omega)]
  simp only
  rw [zEv hi]
  simp only [Option.bind_some,u8w]
  rw [zM (by omega)]
  exact ⟨rfl,trivial⟩) (by
  intro a
  unfold kV
  rw [if_neg (by rw [yP]; simp)]) (bl p.Name).length 0 ((p.Version.A+p.Version.B+p.Version.C)%256) (by omega) trivial
 rw [List.drop_zero,zJI _ _ (p.Version.A+p.Version.B+p.Version.C) _ rfl] at k1
 have hb:0≤zCV p%256∧zCV p%256<256:=by omega
 obtain ⟨t,e2,rfl⟩:=kX (b:=kZ p) (fun i s=>s.2.2=(i:Int)∧s.2.1=(List.range i).map (zM0 (zCV p%256))∧s.1=zM0 (zCV p%256) i) p.Size.toNat (fun t=>t=zLh p) (by
  rintro i ⟨n,out,j⟩ hi ⟨hj,ho,h6⟩
  simp only at hj ho h6
  subst hj ho h6
  have hr:=zI3 hb i
  unfold kZ
  rw [if_pos (by simp; omega)]
  simp only
  rw [zAU (by simp; omega) (by simp; omega)]
  simp only [Option.bind_some,u8w]
  rw [zM (by omega)]
  refine .inl ⟨_,rfl,rfl,?_,?_⟩
  ·simp only
   rw [List.range_succ,List.map_append]
   rfl
  ·simp only [zM0]
   omega) (by
  rintro ⟨n,out,j⟩ ⟨hj,ho,_⟩
  simp only at hj ho
  subst hj ho
  unfold kZ
  rw [if_neg (by simp; omega)]
  exact ⟨_,rfl,rfl⟩) p.Size.toNat 0 (zCV p%256,([]:List Int),0) (by omega) ⟨rfl,rfl,rfl⟩
 unfold zAi
 simp only [u8w]
 rw [show ((p.Version.A%256+p.Version.B%256)%256+p.Version.C%256)%256=(p.Version.A+p.Version.B+p.Version.C)%256 by omega]
 unfold zAx
 rw [show ((0:Nat):Int)=0 from rfl] at k1
 rw [k1.1]
 simp only [Option.bind_some]
 unfold zAD
 unfold zCV at e2
 rw [e2]
 rfl
theorem zK3 (p:Pack):∀x∈zLh p,0≤x∧x≤255:=by
 intro x hx
 unfold zLh at hx
 obtain ⟨i,_,rfl⟩:=List.mem_map.1 hx
 have:=zI3 (b0:=zCV p%256) (by omega) i
 omega
def fileOf (d:zC) (p:ByteArray):Option File:=d.Files.find? (fun f=>decide (f.Path=p))
def zFX (c:List Pack) (d:zC) (k:Int):Bool:=match fileOf d (zKB (pat c k)) with
 |none=>true
 |some f=>decide (f.Data≠zLh (pat c k))
def zHX (c:List Pack) (d:zC) (a:List Int):List Int:=a.filter (zFX c d)
def Byt (d:zC):Prop:=∀f∈d.Files,∀c∈f.Data,0≤c∧c≤255
theorem zPg {a b:List Int} (ha:∀c∈a,0≤c∧c≤255) (hb:∀c∈b,0≤c∧c≤255):seq (b2s a) (b2s b)=decide (a=b):=by
 rw [zMI,zKe ha,zKe hb]
theorem zK4 (a b:List Int) (h:a.length≤1048576):uG a b=some (decide (a=b)):=by
 unfold uG
 by_cases hl:a.length=b.length
 ·rw [if_neg (by simp [hl])]
  have key:=wM a (fun i x=>if x !=b.getD i 0 then some false else none) (b:=uO a b) (by
   intro i hi
   unfold uO
   rw [if_pos (by simp; omega),zK hi,zK (show i<b.length by omega)]
   simp only [Option.bind_some,getD_lt (show i<b.length by omega)]
   rw [zM (by omega)]
   cases a[i] !=b[i]<;>rfl) (by
   unfold uO
   rw [if_neg (by simp)])
  unfold jC
  rw [key,zDS]
  by_cases he:a=b
  ·have hn:wU (fun i x=>if x !=b.getD i 0 then some false else none) 0 a=none:=by
    rw [zE4]
    intro j hj
    subst he
    rw [Nat.zero_add,getD_lt hj]
    simp
   rw [hn,decide_eq_true he]
  ·rw [decide_eq_false he]
   cases hs:wU (fun i x=>if x !=b.getD i 0 then some false else none) 0 a with
   |none=>
    rw [zE4] at hs
    refine absurd (List.ext_getElem hl fun j h1 h2=>?_) he
    have:=hs j h1
    rw [Nat.zero_add,getD_lt h2] at this
    split at this
    ·cases this
    ·rename_i h3; simpa using h3
   |some r=>
    have:∀(l:List Int) (i:Nat),wU (fun i x=>if x !=b.getD i 0 then some false else none) i l=some r→r=false:=by
     intro l
     induction l with
     |nil=>intro i h; cases h
     |cons x l ih=>
      intro i h
      simp only [wU] at h
      by_cases hc:(x !=b.getD i 0)=true
      ·rw [if_pos hc] at h; exact (Option.some.inj h).symm
      ·rw [if_neg hc] at h; exact ih _ h
    rw [this a 0 hs]
 ·rw [if_pos (by simp; omega),decide_eq_false (fun e=>hl (by rw [e]))]
theorem zHC (d:zC) (p:ByteArray) (hg:d.good):
  (∃k:Nat,∃hk:k<d.Files.length,xP d p=some (k:Int)∧yT d p=some (d.Files[k].Data,true)∧fileOf d p=some d.Files[k])∨
   (xP d p=some (-1)∧yT d p=some ([],false)∧fileOf d p=none):=by
 rcases zJL d p hg with ⟨k,hk,e1,e2,hp⟩|⟨e1,e2,hp⟩
 ·exact .inl ⟨k,hk,e1,e2,zPv hg.sorted hk hp⟩
 ·exact .inr ⟨e1,e2,zMZ hp⟩
def Pkz (c:List Pack):Prop:=∀p∈c,NF p.Name=0∧VF p.Version=0∧(1≤p.Size∧p.Size≤200)
theorem zOS {c:List Pack} (h:CF c=0):Pkz c:=fun p hp=>by
 obtain ⟨h1,h2,h3⟩:=zPw ((zPA h).2.1 p hp)
 refine ⟨h1,h2,?_⟩
 unfold inB at h3
 simpa using h3
theorem zFp {α:Type} (q:α→Bool):∀(l:List α) (i:Nat) (acc:List α),foldI (fun _ a x=>if q x then a++[x] else a) i l acc=acc++l.filter q
 |[],_,acc=>by simp [foldI]
 |x::l,i,acc=>by
  simp only [foldI]
  rw [zFp q l (i+1)]
  cases h:q x<;>simp [h]
section
variable {c:List Pack} {d:zC} {a:List Int} (hc:Pkz c) (hg:d.good) (hb:Byt d) (hp:Places c a) (ha:a.length≤1048576)
include hc hg hb hp ha in
theorem zIa:zDf c d a=some (zHX c d a):=by
 have key:=zCL a (fun _ l k=>if zFX c d k then l++[k] else l) (fun i l=>l.length≤i) (b:=zAq c d a) (by
  intro i l hi hl
  have hm:=List.getElem_mem hi
  obtain ⟨e1,e2⟩:=zEc (hp _ hm)
  obtain ⟨p1,p2,p3⟩:=hc _ e2
  unfold zAq
  rw [if_pos (by simp; omega)]
  simp only
  rw [zK hi]
  simp only [Option.bind_some,e1,zLn p1 p2,zJy p1 p2 p3]
  rw [zM (by omega),zAU (by simp; omega) (by simp; omega)]
  have hx:(if zFX c d a[i] then l++[a[i]] else l).length ≤i+1:=by
   split
   ·simp; omega
   ·omega
  refine ⟨?_,hx⟩
  have fin:∀v52:Bool,v52=zFX c d a[i]→((if v52=true then (some (l++[a[i]])) else (some l)).bind fun v58=>some (Lp.go (v58,((i+1:Nat):Int))))=(some (Lp.go ((if zFX c d a[i]=true then l++[a[i]] else l),((i+1:Nat):Int))):Option (Lp (List Int×Int) (List Int))):=by
   rintro _ rfl
   cases zFX c d a[i]<;>rfl
  rcases zHC d (zKB (pat c a[i])) hg with ⟨k,hk,f1,_,f3⟩|⟨f1,_,f3⟩
  ·rw [f1]
   simp only [Option.bind_some]
   rw [if_neg (show ¬decide ((k:Int)<0)=true by simp),zK hk]
   unfold zEa
   refine fin _ ?_
   unfold zFX
   rw [f3,zPg (hb _ (List.getElem_mem hk)) (zK3 _)]
   simp
  ·rw [f1]
   refine fin true ?_
   unfold zFX
   rw [f3]) (by
  intro l
  unfold zAq
  rw [if_neg (by simp)]) a.length 0 [] (by omega) (by simp)
 unfold zDf zDY
 rw [show ((0:Nat):Int)=0 from rfl] at key
 rw [key.1,List.drop_zero,zFp]
 rfl
end
section
variable {c:List Pack} {d:zC} {a:List Int} (hc:Pkz c) (hg:d.good) (hb:Byt d) (hp:Places c a) (ha:a.length≤1048576)
include hc hg hp in
theorem zJk:∀k∈a,zAF k d c=some (zFX c d k):=by
 intro k hk
 obtain ⟨e1,e2⟩:=zEc (hp k hk)
 obtain ⟨p1,p2,p3⟩:=hc _ e2
 unfold zAF
 rw [e1]
 simp only [Option.bind_some,zMU p1 p2,zMa p1 p2 p3]
 unfold zFX
 rcases zHC d (zKB (pat c k)) hg with ⟨q,hq,_,f2,f3⟩|⟨_,f2,f3⟩
 ·rw [f2,f3]
  simp only [Option.bind_some]
  rw [if_neg (by simp),zK4 _ _ (by have:=hg.data _ (List.getElem_mem hq); omega)]
  simp
 ·rw [f2,f3]
  rfl
end
section
variable {c:List Pack} {d:zC} {a:List Int} (hc:Pkz c) (hg:d.good) (hb:Byt d) (hp:Places c a) (ha:a.length≤1048576)
include hc hg hp ha in
theorem zJS:zCv c d a=some (zHX c d a):=by
 have h1:=zJk hc hg hp
 have h2:∀k∈a,yY k d c=some (!(zFX c d k)):=by
  intro k hk
  unfold yY
  rw [h1 k hk]
  rfl
 have key:=zNt (fun k=> !(zFX c d k)) a (0:Int) (by omega) (b1:=zV a d c) (b2:=zU d c) (by
  intro i hi
  unfold zV
  rw [if_pos (by simp; omega),zK hi]
  simp only [Option.bind_some,h2 _ (List.getElem_mem hi)]
  rw [zM (by omega)]
  split<;>rfl) (by
  unfold zV
  rw [if_neg (by simp)]) (by
  intro xs i j hj hij hl hm
  unfold zU
  simp only
  rw [if_pos (by simp; omega),zK hj]
  simp only [Option.bind_some,h2 _ hm]
  rw [zK (show i<xs.length by omega),zM (show j<_ by omega),zM (show i<_ by omega)]
  cases zFX c d xs[j]<;>simp) (by
  intro xs i hl
  unfold zU
  rw [if_neg (by simp)])
 have hf:a.filter (fun x=> !!(zFX c d x))=zHX c d a:=by simp [zHX]
 rw [hf] at key
 unfold zCv wQ tC
 rw [zAU (by simp; omega) (by simp; omega)]
 simp only [Option.bind_some,List.nil_append]
 have e:zP a d c=some (zHX c d a):=key
 rw [e]
 rfl
end
theorem zLJ {c:List Pack} {d:zC} (hc:Cat c):∀r,wY d=some r→zC4 c d=some (if CF c !=0 then CF c else r):=by
 intro r hr
 unfold zC4
 rw [zGx c hc,hr]
 simp only [Option.bind_some]
 cases CF c !=0<;>rfl
def zFH (c:Int):List Int→List (List Int)
 |[]=>[[]]
 |x::l=>if x=c then []::zFH c l else match zFH c l with
  |h::t=>(x::h)::t
  |[]=>[[x]]
theorem zJc (c:Int):∀l,zFH c l≠[]
 |[]=>by simp [zFH]
 |x::l=>by
  unfold zFH
  split
  ·simp
  ·split<;>simp
theorem zId {c:Int}:∀{l:List Int},(∀x∈l,0≤x∧x≤255)→∀p∈zFH c l,∀x∈p,0≤x∧x≤255
 |[],_=>by simp [zFH]
 |y::l,h=>by
  have ih:=zId (c:=c) (l:=l) (fun x hx=>h x (by simp [hx]))
  intro p hp
  unfold zFH at hp
  split at hp
  ·rcases List.mem_cons.1 hp with rfl|hp
   ·simp
   ·exact ih p hp
  ·split at hp
   ·rename_i a t e
    rcases List.mem_cons.1 hp with rfl|hp
    ·intro x hx
     rcases List.mem_cons.1 hx with rfl|hx
     ·exact h _ (by simp)
     ·exact ih a (by rw [e]; simp) x hx
    ·exact ih p (by rw [e]; simp [hp])
   ·rename_i e
    exact absurd e (zJc c l)
theorem zFO (c:Int):∀l,(zFH c l).length ≤l.length+1
 |[]=>by simp [zFH]
 |x::l=>by
  have ih:=zFO c l
  unfold zFH
  split
  ·simp; omega
  ·split
   ·rename_i e; rw [e] at ih; simp at ih ⊢; omega
   ·simp
theorem zHk (c:Int):∀l,∀p∈zFH c l,p.length≤l.length
 |[]=>by simp [zFH]
 |x::l=>by
  have ih:=zHk c l
  intro p hp
  unfold zFH at hp
  split at hp
  ·rcases List.mem_cons.1 hp with rfl|hp
   ·simp
   ·have:=ih p hp; simp; omega
  ·split at hp
   ·rename_i a t e
    rcases List.mem_cons.1 hp with rfl|hp
    ·have:=ih a (by rw [e]; simp); simp; omega
    ·have:=ih p (by rw [e]; simp [hp]); simp; omega
   ·simp at hp; rw [hp]; simp
def tK (c:Int) (s:ByteArray):List ByteArray:=(zFH c (bl s)).map b2s
theorem zHp (c:Int) (s:ByteArray):(tK c s).map bl=zFH c (bl s):=by
 unfold tK
 rw [List.map_map]
 have:∀p∈zFH c (bl s),(bl ∘ b2s) p=id p:=fun p hp=>zKe (zId zGO p hp)
 rw [List.map_congr_left this,List.map_id]
theorem zIe:∀{a b:List ByteArray},a.map bl=b.map bl→a=b
 |[],[],_=>rfl
 |[],_::_,h=>by simp at h
 |_::_,[],h=>by simp at h
 |x::a,y::b,h=>by
  simp only [List.map_cons,List.cons.injEq] at h
  rw [zHx.1 h.1,zIe h.2]
theorem zJw {c:Int} {s:ByteArray} {ps:List ByteArray} (h:ps.map bl=zFH c (bl s)):ps=tK c s:=zIe (h.trans (zHp c s).symm)
def zOk (c:UInt8):List UInt8→List (List UInt8)
 |[]=>[[]]
 |x::l=>if x=c then []::zOk c l else match zOk c l with
  |h::t=>(x::h)::t
  |[]=>[[x]]
theorem zJ8 (c:UInt8):∀(l:List UInt8),(zOk c l).map (fun p=>p.map (fun b=>(b.toNat:Int)))=zFH (c.toNat:Int) (l.map (fun b=>(b.toNat:Int)))
 |[]=>rfl
 |x::l=>by
  have ih:=zJ8 c l
  simp only [List.map_cons]
  unfold zOk zFH
  by_cases h:x=c
  ·subst h
   rw [if_pos rfl,if_pos rfl,List.map_cons,ih]
   rfl
  ·have h':¬((x.toNat:Int)=(c.toNat:Int)):=fun e=>h (UInt8.toNat_inj.1 (by omega))
   rw [if_neg h,if_neg h',←ih]
   cases hc:zOk c l with
   |nil=>rfl
   |cons a t=>rfl
theorem zJ6 (c:UInt8):∀(l:List UInt8),c∉l→zOk c l=[l]
 |[],_=>rfl
 |x::l,h=>by
  unfold zOk
  rw [if_neg (fun e=>h (by simp [e])),zJ6 c l (fun e=>h (by simp [e]))]
theorem index_one (c b:UInt8) (l:List UInt8):Lib.index (b::l) [c]=if b=c then 0 else if Lib.index l [c]== -1 then-1 else Lib.index l [c]+1:=by
 rw [Lib.index]
 have:([c].isPrefixOf (b::l))=decide (b=c):=by
  simp only [List.isPrefixOf,Bool.and_true]
  rw [Bool.eq_iff_iff,beq_iff_eq,decide_eq_true_eq]
  exact ⟨fun h=>h.symm,fun h=>h.symm⟩
 rw [this]
 by_cases h:b=c<;>simp [h]
theorem zGq (c:UInt8):∀(l:List UInt8) (k:Nat),l.count c≤k→Lib.splitK [c] 0 k l=zOk c l
 |[],k,_=>by
  cases k with
  |zero=>rfl
  |succ k=>rfl
 |b::l,0,h=>by
  have hn:c∉b::l:=List.count_eq_zero.1 (by omega)
  rw [zJ6 c _ hn]
  rfl
 |b::l,k+1,h=>by
  unfold zOk
  by_cases hb:b=c
  ·subst hb
   rw [if_pos rfl]
   have e:Lib.index (b::l) [b]=0:=by rw [index_one,if_pos rfl]
   rw [Lib.splitK,e]
   simp only [List.count_cons_self] at h
   rw [if_neg (by decide)]
   show []::Lib.splitK [b] 0 k ((b::l).drop 1)=_
   rw [List.drop_one,List.tail_cons,zGq b l k (by omega)]
  ·rw [if_neg hb]
   have hc:l.count c≤k+1:=by rw [List.count_cons_of_ne hb] at h; exact h
   have ih:=zGq c l (k+1) hc
   rw [←ih,Lib.splitK,Lib.splitK,index_one,if_neg hb]
   cases hi:Lib.index l [c]== -1
   ·have hge:=Lib.index_ge l [c]
    have hne:Lib.index l [c]≠ -1:=by simpa using hi
    have hne':(Lib.index l [c]+1== -1)=false:=by
     rw [beq_eq_false_iff_ne]; omega
    simp only [Bool.false_eq_true,if_false,hne']
    rw [show (Lib.index l [c]+1).toNat =(Lib.index l [c]).toNat +1 by omega]
    simp only [Nat.add_zero,List.length_singleton,List.take_succ_cons,List.drop_succ_cons]
   ·simp
theorem zG0 (s:ByteArray) (c:UInt8) (h:s.size≤1048577):strings_Split s ⟨#[c]⟩=some (tK (c.toNat:Int) s):=by
 unfold strings_Split
 rw [if_pos ⟨by omega,by show 1≤1; omega⟩]
 congr 1
 refine zJw ?_
 have e:=Lib.splitB_data ⟨#[c]⟩ 0 (Lib.countB s ⟨#[c]⟩) s
 have e2:Lib.countB s ⟨#[c]⟩=s.data.toList.count c:=Lib.count_one c s.data.toList
 rw [e2] at e ⊢
 rw [show (⟨#[c]⟩:ByteArray).data.toList =[c] from rfl,zGq c _ _ (Nat.le_refl _)] at e
 have e3:∀ps:List ByteArray,ps.map bl=(ps.map (·.data.toList)).map (fun p=>p.map (fun b=>(b.toNat:Int))):=by
  intro ps
  rw [List.map_map]
  exact List.map_congr_left (fun p _=>(zJv p).symm)
 rw [e3,e,zJ8,zJv]
def zMj (c:Int) (l:List Int):List (List Int)×List Int:=l.foldl (fun a x=>if x=c then (a.1++[a.2],[]) else (a.1,a.2++[x])) ([],[])
theorem zLC (c:Int):∀(l:List Int) (a:List (List Int)×List Int),(l.foldl (fun a x=>if x=c then (a.1++[a.2],[]) else (a.1,a.2++[x])) a).1++[(l.foldl (fun a x=>if x=c then (a.1++[a.2],[]) else (a.1,a.2++[x])) a).2]=
  a.1++(match zFH c l with|h::t=>(a.2++h)::t|[]=>[a.2])
 |[],a=>by simp [zFH]
 |x::l,a=>by
  simp only [List.foldl_cons]
  rw [zLC c l]
  have hn:=zJc c l
  by_cases h:x=c
  ·rw [if_pos h]
   conv=>rhs; unfold zFH
   rw [if_pos h]
   cases hc:zFH c l with
   |nil=>exact absurd hc hn
   |cons a t=>simp
  ·rw [if_neg h]
   conv=>rhs; unfold zFH
   rw [if_neg h]
   cases hc:zFH c l with
   |nil=>exact absurd hc hn
   |cons a t=>simp
theorem zNL (c:Int) (l:List Int):(zMj c l).1++[(zMj c l).2]=zFH c l:=by
 unfold zMj
 rw [zLC c l ([],[])]
 cases h:zFH c l with
 |nil=>exact absurd h (zJc c l)
 |cons a t=>simp
theorem zFW (c:Int) (l:List Int) (x:Int):zMj c (l++[x])=if x=c then ((zMj c l).1++[(zMj c l).2],[]) else ((zMj c l).1,(zMj c l).2++[x]):=by
 unfold zMj
 rw [List.foldl_append]
 rfl
theorem zOx (c:Int) (l:List Int):(zMj c l).1.length ≤l.length:=by
 have h1:=zNL c l
 have h2:=zFO c l
 rw [←h1] at h2
 simp at h2
 exact h2
theorem zFs (s:ByteArray) (c:Int) (h:s.size≤1048577):tT s c=some (tK c s):=by
 have hlen:=yP s
 obtain ⟨t,e,ht⟩:=kX (b:=zBO s c) (fun i q=>q.2.2=(i:Int)∧
   ((i≤s.size∧q.1.map bl=(zMj c ((bl s).take i)).1∧∃f:Nat,q.2.1=(f:Int)∧f≤i∧((bl s).drop f).take (i-f)=(zMj c ((bl s).take i)).2)∨(i=s.size+1∧q.1.map bl=zFH c (bl s)))) (s.size+1)
  (fun t=>t.map bl=zFH c (bl s)) (by
  rintro i ⟨out,from_,j⟩ hi ⟨hj,hI⟩
  simp only at hj hI
  subst hj
  rcases hI with ⟨hle,ho,f,hf,hfi,hc⟩|⟨he,_⟩
  case inr=>omega
  subst hf
  have hol:out.length≤i:=by
   have:=congrArg List.length ho
   rw [List.length_map] at this
   rw [this]
   refine Nat.le_trans (zOx _ _) ?_
   simp
   omega
  unfold zBO
  rw [if_pos (by simp; omega)]
  simp only
  by_cases hn:i=s.size
  ·subst hn
   have es:zIs s (f:Int) (s.size:Int)=some (s.extract f s.size):=zK1 hfi (Nat.le_refl _)
   rw [if_pos (by simp)]
   simp only [Option.bind_some,if_true]
   rw [es]
   simp only [Option.bind_some]
   rw [zAU (by simp; omega) (by simp; omega),zM (by omega)]
   refine .inl ⟨_,rfl,rfl,.inr ⟨trivial,?_⟩⟩
   have htk:(bl s).take s.size=bl s:=by rw [←hlen,List.take_length]
   rw [htk] at ho hc
   rw [List.map_append,ho,←zNL]
   simp only [List.map_cons,List.map_nil]
   rw [zDB,hc]
  ·have hlt:i< (bl s).length :=by omega
   have htk:(bl s).take (i+1)=(bl s).take i++[(bl s)[i]]:=List.take_succ_eq_append_getElem hlt
   rw [if_neg (by simp; omega),zEv hlt]
   simp only [Option.bind_some]
   by_cases hb:(bl s)[i]=c
   ·rw [show ((bl s)[i]==c)=true by simpa using hb]
    simp only [if_true]
    have es:zIs s (f:Int) (i:Int)=some (s.extract f i):=zK1 hfi (by omega)
    rw [es]
    simp only [Option.bind_some]
    rw [zAU (by simp; omega) (by simp; omega),zM (by omega)]
    refine .inl ⟨_,rfl,rfl,.inl ⟨by omega,?_,i+1,rfl,Nat.le_refl _,?_⟩⟩
    ·rw [htk,zFW,if_pos hb,List.map_append,ho]
     simp only [List.map_cons,List.map_nil]
     rw [zDB,hc]
    ·rw [htk,zFW,if_pos hb]
     simp
   ·rw [show ((bl s)[i]==c)=false by simpa using hb]
    simp only [Bool.false_eq_true,if_false,Option.bind_some]
    rw [zM (by omega)]
    refine .inl ⟨_,rfl,rfl,.inl ⟨by omega,?_,f,rfl,by omega,?_⟩⟩
    ·rw [htk,zFW,if_neg hb]
     exact ho
    ·rw [htk,zFW,if_neg hb,←hc,show i+1-f=(i-f)+1 by omega]
     have hd:i-f< ((bl s).drop f).length :=by simp; omega
     rw [List.take_succ_eq_append_getElem hd]
     congr 2
     rw [List.getElem_drop]
     congr 1
     omega) (by
  rintro ⟨out,from_,j⟩ ⟨hj,hI⟩
  simp only at hj hI
  subst hj
  rcases hI with ⟨hle,_⟩|⟨_,ho⟩
  ·omega
  unfold zBO
  rw [if_neg (by simp; omega)]
  exact ⟨_,rfl,ho⟩) (s.size+1) 0 (([]:List ByteArray),0,0) (by omega) ⟨rfl,.inl ⟨by omega,rfl,0,rfl,by omega,by simp [zMj]⟩⟩
 unfold tT zCD
 rw [e,zJw ht]
 rfl
def zEs (s:ByteArray):List ByteArray:=if (tK 10 s).getLast? =some (bs []) then (tK 10 s).dropLast else tK 10 s
theorem zI9 (ps:List ByteArray) (h0:ps≠[]) (hl:ps.length≤1048578):((idx ps (w64 ((ps.length:Int)-1))).bind fun x4=>(if seq x4 (bs []) then ((zFw ps 0 (w64 ((ps.length:Int)-1))).bind fun x7=>some x7) else (some ps)).bind fun v9=>some v9)=
  some (if ps.getLast? =some (bs []) then ps.dropLast else ps):=by
 have hp:0<ps.length:=List.length_pos_iff.2 h0
 rw [wC (by omega) (by omega),show (ps.length:Int)-1=((ps.length-1:Nat):Int) by omega,zK (show ps.length-1<ps.length by omega)]
 simp only [Option.bind_some]
 have hg:ps.getLast? =some ps[ps.length-1]:=by
  rw [List.getLast?_eq_getElem?,List.getElem?_eq_getElem]
 rw [hg]
 by_cases h:ps[ps.length-1]=bs []
 ·rw [if_pos (zGn.2 h),if_pos (by rw [h])]
  have e:zFw ps 0 ((ps.length-1:Nat):Int)=some (ps.take (ps.length-1)):=zF0 (by omega)
  rw [e,List.dropLast_eq_take]
  rfl
 ·have hs:seq ps[ps.length-1] (bs [])=false:=by
   cases hq:seq ps[ps.length-1] (bs []) with
   |false=>rfl
   |true=>exact absurd (zGn.1 hq) h
  rw [hs,if_neg (show ¬(some ps[ps.length-1]=some (bs [])) from fun e=>h (Option.some.inj e))]
  rfl
theorem zKa (c:Int) (s:ByteArray):tK c s≠[]:=by
 unfold tK
 intro h
 exact zJc c (bl s) (List.map_eq_nil_iff.1 h)
theorem zEJ (c:Int) (s:ByteArray):(tK c s).length ≤s.size+1:=by
 unfold tK
 rw [List.length_map,←yP]
 exact zFO c (bl s)
theorem zJK (s:ByteArray) (h:s.size≤1048577):zCp s=some (zEs s):=by
 unfold zCp
 rw [zFs s 10 h]
 exact zI9 _ (zKa _ _) (by have:=zEJ 10 s; omega)
theorem zJC (s:ByteArray) (h:s.size≤1048577):zCa s=some (zEs s):=by
 unfold zCa
 have e:=zG0 s 10 h
 rw [show (((10:UInt8).toNat :Nat):Int)=10 from rfl] at e
 rw [show bs [10]=⟨#[10]⟩ from rfl,e]
 exact zI9 _ (zKa _ _) (by have:=zEJ 10 s; omega)
theorem zI6 (s:ByteArray):(zEs s).length ≤s.size+1:=by
 have:=zEJ 10 s
 unfold zEs
 split
 ·simp; omega
 ·exact this
theorem zHB (s:ByteArray):∀p∈zEs s,p.size≤s.size:=by
 intro p hp
 have hm:p∈tK 10 s:=by
  unfold zEs at hp
  split at hp
  ·exact (List.dropLast_sublist _).subset hp
  ·exact hp
 have hb:bl p∈zFH 10 (bl s):=by
  rw [←zHp]
  exact List.mem_map_of_mem hm
 have:=zHk 10 (bl s) _ hb
 rw [yP,yP] at this
 exact this
def zR4:zQ:= {Code:=5,Version:=zeroV}
def zEY (i:Nat) (a:List Int) (x:ByteArray):Lp (List Int) (Fl zQ (List Int)):=match zKt (bl x) 3 with
 |some n=>.go (a.set i n)
 |none=>.done (.ret zR4)
def zQk (t:Fl zQ (List Int)):zQ:=match t with
 | .ret r=>r
 | .nxt l=> {Code:=0,Version:= {A:=l.getD 0 0,B:=l.getD 1 0,C:=l.getD 2 0}}
def PV (s:ByteArray):zQ:=if (tK 46 s).length >3 then zR4 else zQk (goL zEY .nxt 0 (tK 46 s) [0,0,0])
theorem zK2 {l:List Int} {n:Int} (h:zKt l 3=some n):0≤n:=by
 unfold zKt at h
 split at h
 ·cases h
 ·rename_i h1
  cases h
  exact (zFm (l:=l) (by
   intro c hc
   cases hd:zGR c with
   |true=>rfl
   |false=>exact absurd (.inr (.inr (fun h'=>by rw [h' c hc] at hd; cases hd))) h1)).1
theorem zIP:∀(ps:List ByteArray) (i:Nat) (a:List Int),a.length=3→match goL zEY Fl.nxt i ps a with| .ret r=>r=zR4| .nxt l=>l.length=3
 |[],_,a,h=>h
 |p::ps,i,a,h=>by
  simp only [goL]
  unfold zEY
  cases hn:zKt (bl p) 3 with
  |none=>rfl
  |some n=>exact zIP ps (i+1) (a.set i n) (by simpa using h)
theorem zG3 (s:ByteArray) (h:s.size≤1048577):vN s=some (PV s):=by
 unfold vN PV
 rw [zFs s 46 h]
 simp only [Option.bind_some]
 by_cases hl:(tK 46 s).length >3
 ·rw [if_pos (by simp; omega),if_pos hl]; rfl
 rw [if_neg (by simp; omega),if_neg hl]
 have key:=zJs (tK 46 s) zEY Fl.nxt (fun i a=>(a,(i:Int))) (fun _ a=>a.length=3) (b:=tV (tK 46 s)) [0,0,0] (by
  intro i a hi ha
  unfold tV zEY
  rw [if_pos (by simp; omega),zK hi]
  simp only [Option.bind_some,zHj _ 3 (by omega)]
  cases hn:zKt (bl (tK 46 s)[i]) 3 with
  |none=>exact ⟨rfl,fun a' h=>by cases h⟩
  |some n=>
   simp only [Bool.not_true,Bool.false_eq_true,if_false]
   rw [zK (show i<a.length by omega),zM (by omega)]
   exact ⟨rfl,fun a' h=>by cases h; simpa using ha⟩) (by
  intro a ha
  unfold tV
  rw [if_neg (by simp)]) rfl
 unfold jU
 rw [show ((0:Nat):Int)=0 from rfl] at key
 rw [key]
 have h3:=zIP (tK 46 s) 0 [0,0,0] rfl
 cases hg:goL zEY Fl.nxt 0 (tK 46 s) [0,0,0] with
 |ret r=>rfl
 |nxt l=>
  rw [hg] at h3
  match l,h3 with
  |[x,y,z],_=>rfl
theorem zGy (s:ByteArray) (h:s.size≤1048577):uV s=some (PV s):=by
 unfold uV PV
 have e:=zG0 s 46 h
 rw [show (((46:UInt8).toNat :Nat):Int)=46 from rfl] at e
 rw [show bs [46]=⟨#[46]⟩ from rfl,e]
 simp only [Option.bind_some]
 by_cases hl:(tK 46 s).length >3
 ·rw [if_pos (by simp; omega),if_pos hl]; rfl
 rw [if_neg (by simp; omega),if_neg hl]
 have key:=zJs (tK 46 s) zEY Fl.nxt (fun i a=>(a,(i:Int))) (fun _ a=>a.length=3) (b:=tQ (tK 46 s)) [0,0,0] (by
  intro i a hi ha
  have hia:i<a.length:=by omega
  unfold tQ zEY
  rw [if_pos (by simp; omega),zK hi]
  simp only [Option.bind_some,number_eq _ 3 (by omega)]
  have ea:∀(b:List Int),b.length=3→zNR b 3 (i:Int)=idx b (i:Int):=fun b hb=>if_pos hb
  rw [ea a ha,zK hia]
  simp only [Option.bind_some,Int.toNat_natCast]
  rw [ea _ (by simpa using ha),zK (by simpa using hia)]
  simp only [Option.bind_some,List.getElem_set_self]
  cases hn:zKt (bl (tK 46 s)[i]) 3 with
  |none=>exact ⟨rfl,fun a' h=>by cases h⟩
  |some n=>
   have:=zK2 hn
   simp only
   rw [if_neg (by simpa using this),zM (by omega)]
   exact ⟨rfl,fun a' h=>by cases h; simpa using ha⟩) (by
  intro a ha
  unfold tQ
  rw [if_neg (by simp)]) rfl
 unfold jR
 rw [show ((0:Nat):Int)=0 from rfl] at key
 rw [key]
 have h3:=zIP (tK 46 s) 0 [0,0,0] rfl
 cases hg:goL zEY Fl.nxt 0 (tK 46 s) [0,0,0] with
 |ret r=>rfl
 |nxt l=>
  rw [hg] at h3
  match l,h3 with
  |[x,y,z],_=>rfl
theorem zIA:∀{l1 l2:List Int},l1.Pairwise (· < ·)→l2.Pairwise (· < ·)→(∀x,x∈l1↔x∈l2)→l1=l2
 |[],[],_,_,_=>rfl
 |[],y::l2,_,_,h=>by have:=(h y).2 (by simp); simp at this
 |x::l1,[],_,_,h=>by have:=(h x).1 (by simp); simp at this
 |x::l1,y::l2,h1,h2,h=>by
  rw [List.pairwise_cons] at h1 h2
  have hxy:x=y:=by
   have hx:=(h x).1 (by simp)
   have hy:=(h y).2 (by simp)
   rcases List.mem_cons.1 hx with e|hx
   ·exact e
   ·rcases List.mem_cons.1 hy with e|hy
    ·exact e.symm
    ·have:=h1.1 y hy
     have:=h2.1 x hx
     omega
  subst hxy
  congr 1
  refine zIA h1.2 h2.2 fun z=>?_
  constructor
  ·intro hz
   rcases List.mem_cons.1 ((h z).1 (List.mem_cons_of_mem _ hz)) with e|hz'
   ·have:=h1.1 z hz; omega
   ·exact hz'
  ·intro hz
   rcases List.mem_cons.1 ((h z).2 (List.mem_cons_of_mem _ hz)) with e|hz'
   ·have:=h2.1 z hz; omega
   ·exact hz'
theorem zFb {l:List Int} (h:l.Pairwise (· < ·)) {i j:Nat} (hi:i<l.length) (hj:j<l.length) (hij:i<j):l[i]<l[j]:=List.pairwise_iff_getElem.1 h i j hi hj hij
theorem zOn (l:List Int) (v:Int) (hs:l.Pairwise (· < ·)) (hv:v∉l) (hl:l.length≤1048576):
  ∃r,zDC l v=some r∧r.Pairwise (· < ·)∧(∀x,x∈r↔x∈l∨x=v)∧r.length=l.length+1:=by
 obtain ⟨⟨acc,inn⟩,e,h1,h2,h3,h4⟩:=kX (b:=zDb l v)
  (fun i s=>s.2.2=(i:Int)∧s.1.Pairwise (· < ·)∧(∀x,x∈s.1↔x∈l.take i∨(s.2.1=true∧x=v))∧s.1.length=i+(if s.2.1 then 1 else 0)∧(s.2.1=false→∀x∈l.take i,x<v)∧(s.2.1=true→∀x∈l.drop i,v<x)) l.length
  (fun t=>t.1.Pairwise (· < ·)∧(∀x,x∈t.1↔x∈l∨(t.2=true∧x=v))∧t.1.length=l.length+(if t.2 then 1 else 0)∧(t.2=false→∀x∈l,x<v)) (by
  rintro i ⟨acc,inn,j⟩ hi ⟨hj,hp,hm,hlen,hf,ht⟩
  simp only at hj hp hm hlen hf ht
  subst hj
  have hlt:∀x∈l.take i,x<l[i]:=by
   intro x hx
   obtain ⟨k,hk,rfl⟩:=List.mem_iff_getElem.1 hx
   rw [List.getElem_take]
   have:k<i:=by simp at hk; omega
   exact zFb hs (by omega) hi this
  have htk:l.take (i+1)=l.take i++[l[i]]:=List.take_succ_eq_append_getElem hi
  have hdr:l.drop i=l[i]::l.drop (i+1):=List.drop_eq_getElem_cons hi
  have hne:l[i]≠v:=fun e=>hv (e▸List.getElem_mem hi)
  have hal:acc.length≤1048577:=by rw [hlen]; split<;>omega
  unfold zDb
  rw [if_pos (by simp; omega),zK hi]
  simp only [Option.bind_some]
  rw [zM (by omega)]
  refine .inl ?_
  cases inn
  ·by_cases hgt:l[i]>v
   ·rw [if_pos (by simpa using hgt)]
    simp only [Bool.not_false,Option.bind_some,if_true]
    rw [zAU (by simp; omega) (by simp; omega)]
    simp only [Option.bind_some]
    rw [zAU (by simp; omega) (by simp; omega)]
    refine ⟨_,rfl,rfl,?_,?_,?_,by simp,?_⟩
    ·simp only
     have hav:∀x∈acc,x<v:=fun x hx=>hf rfl x (by have:=(hm x).1 hx; simpa using this)
     rw [List.pairwise_append,List.pairwise_append]
     refine ⟨⟨hp,by simp,fun x hx y hy=>by simp at hy; rw [hy]; exact hav x hx⟩,by simp,fun x hx y hy=>?_⟩
     simp at hy
     rw [hy]
     rcases List.mem_append.1 hx with hx|hx
     ·have:=hav x hx; omega
     ·simp at hx; omega
    ·intro x
     have:=hm x
     simp only [List.mem_append,List.mem_singleton,htk]
     simp at this
     rw [this]
     simp
     constructor<;>(intro h; rcases h with (h|h)|h<;>simp [h])
    ·simp; simp at hlen; omega
    ·intro _ x hx
     have:l[i]<x:=by
      obtain ⟨k,hk,rfl⟩:=List.mem_iff_getElem.1 hx
      rw [List.getElem_drop]
      simp at hk
      exact zFb hs hi (by omega) (by omega)
     omega
   ·rw [if_neg (by simpa using hgt)]
    simp only [Option.bind_some,Bool.false_eq_true,if_false]
    rw [zAU (by simp; omega) (by simp; omega)]
    refine ⟨_,rfl,rfl,?_,?_,?_,?_,by simp⟩
    ·simp only
     rw [List.pairwise_append]
     refine ⟨hp,by simp,fun x hx y hy=>?_⟩
     simp at hy
     rw [hy]
     have:=(hm x).1 hx
     exact hlt x (by simpa using this)
    ·intro x
     have:=hm x
     simp only [List.mem_append,List.mem_singleton,htk]
     simp at this
     rw [this]
     simp
    ·simp; simp at hlen; omega
    ·intro _ x hx
     rw [htk] at hx
     rcases List.mem_append.1 hx with hx|hx
     ·exact hf rfl x hx
     ·simp at hx; omega
  ·have hlv:v<l[i]:=ht rfl _ (by rw [hdr]; exact List.mem_cons_self)
   rw [if_pos (by simpa using hlv)]
   simp only [Bool.not_true,Option.bind_some,Bool.false_eq_true,if_false]
   rw [zAU (by simp; omega) (by simp; omega)]
   refine ⟨_,rfl,rfl,?_,?_,?_,by simp,?_⟩
   ·simp only
    rw [List.pairwise_append]
    refine ⟨hp,by simp,fun x hx y hy=>?_⟩
    simp at hy
    rw [hy]
    rcases (hm x).1 hx with hx|⟨_,hx⟩
    ·exact hlt x hx
    ·omega
   ·intro x
    have:=hm x
    simp only [List.mem_append,List.mem_singleton,htk]
    rw [this]
    simp
    constructor<;>(intro h; rcases h with (h|h)|h<;>simp [h])
   ·simp; simp at hlen; omega
   ·intro _ x hx
    exact ht rfl x (by rw [hdr]; exact List.mem_cons_of_mem _ hx)) (by
  rintro ⟨acc,inn,j⟩ ⟨hj,hp,hm,hlen,hf,ht⟩
  simp only at hj hp hm hlen hf ht
  subst hj
  unfold zDb
  rw [if_neg (by simp)]
  rw [List.take_length] at hm hf
  exact ⟨_,rfl,hp,hm,hlen,hf⟩) l.length 0 (([]:List Int),false,0) (by omega) ⟨rfl,by simp,by simp,by simp,by simp,by simp⟩
 simp only at h1 h2 h3 h4
 unfold zDC zDO
 rw [e]
 simp only [Option.bind_some]
 cases inn
 ·simp only [Bool.not_false,if_true]
  simp at h3
  rw [zAU (by simp; omega) (by simp; omega)]
  refine ⟨_,rfl,?_,?_,by simp; omega⟩
  ·rw [List.pairwise_append]
   refine ⟨h1,by simp,fun x hx y hy=>?_⟩
   simp at hy
   rw [hy]
   have:=(h2 x).1 hx
   exact h4 rfl x (by simpa using this)
  ·intro x
   have:=h2 x
   simp at this
   simp [this]
 ·refine ⟨_,rfl,h1,?_,by simpa using h3⟩
  intro x
  have:=h2 x
  simpa using this
def zAk (s:ByteArray):List ByteArray:=(tK 32 s).filter (fun w=> !(seq w (bs [])))
theorem zKG (c:Int) (s:ByteArray):∀p∈tK c s,p.size≤s.size:=by
 intro p hp
 have hb:bl p∈zFH c (bl s):=by
  rw [←zHp]
  exact List.mem_map_of_mem hp
 have:=zHk c (bl s) _ hb
 rw [yP,yP] at this
 exact this
theorem zGZ (s:ByteArray):∀p∈zAk s,p.size≤s.size:=fun p hp=>zKG 32 s p (List.mem_filter.1 hp).1
theorem zJA (s:ByteArray) (h:s.size≤1048577):zCq s=some (zAk s):=by
 have hl:=zEJ 32 s
 have key:=zCL (tK 32 s) (fun _ l w=>if !(seq w (bs [])) then l++[w] else l) (fun i l=>l.length≤i) (b:=zB9 (tK 32 s)) (by
  intro i l hi hI
  unfold zB9
  rw [if_pos (by simp; omega)]
  simp only
  rw [zK hi]
  simp only [Option.bind_some]
  rw [zAU (by simp; omega) (by simp; omega),zM (by omega)]
  cases seq (tK 32 s)[i] (bs [])
  ·exact ⟨rfl,by simp; omega⟩
  ·exact ⟨rfl,by simp; omega⟩) (by
  intro l
  unfold zB9
  rw [if_neg (by simp)]) (tK 32 s).length 0 [] (by omega) (by simp)
 unfold zCq
 rw [zFs s 32 h]
 simp only [Option.bind_some]
 unfold zCI
 rw [show ((0:Nat):Int)=0 from rfl] at key
 rw [key.1,List.drop_zero,zFp (fun w=> !(seq w (bs [])))]
 rfl
theorem zJJ (s:ByteArray) (h:s.size≤1048575):zCd s=some (zAk s):=by
 have hl:=zEJ 32 s
 have e:=zG0 s 32 (by omega)
 rw [show (((32:UInt8).toNat :Nat):Int)=32 from rfl] at e
 have key:=zNt (fun w:ByteArray=>seq w (bs [])) (tK 32 s) ByteArray.empty (by omega) (b1:=yZ (tK 32 s)) (b2:=yU) (by
  intro i hi
  unfold yZ tO
  rw [if_pos (by simp; omega),zK hi]
  simp only [Option.bind_some]
  rw [zM (by omega)]
  split<;>rfl) (by
  unfold yZ
  rw [if_neg (by simp)]) (by
  intro xs i j hj hij hl2 hm
  unfold yU tO
  simp only
  rw [if_pos (by simp; omega),zK hj]
  simp only [Option.bind_some]
  rw [zK (show i<xs.length by omega),zM (show j<_ by omega),zM (show i<_ by omega)]
  cases seq xs[j] (bs [])<;>simp) (by
  intro xs i hl2
  unfold yU
  rw [if_neg (by simp)])
 unfold zCd
 rw [show bs [32]=⟨#[32]⟩ from rfl,e]
 simp only [Option.bind_some]
 have e2:yH (tK 32 s)=some (zAk s):=key
 rw [e2]
 rfl
def kE (c:List Pack) (w:List ByteArray):Int:=if w.length≠2 then-1 else if (PV (w.getD 1 (bs []))).Code !=0 then-1 else zGM c (w.getD 0 (bs [])) (PV (w.getD 1 (bs []))).Version
theorem zGA (c:List Pack) (w:List ByteArray):kE c w= -1∨(0≤kE c w∧kE c w<c.length):=by
 unfold kE
 split
 ·exact .inl rfl
 ·split
  ·exact .inl rfl
  ·exact zLo _ _ _
theorem zIY (c:List Pack) (w:List ByteArray) (hc:c.length≤1048576) (hw:∀p∈w,p.size≤1048577):zBz c w=some (kE c w):=by
 unfold zBz kE
 match w,hw with
 |[],_=>rfl
 |[_],_=>rfl
 |[x,y],hw=>
  have e0:idx [x,y] 0=some x:=rfl
  have e1:idx [x,y] 1=some y:=rfl
  rw [if_neg (by simp),e1,e0]
  simp only [Option.bind_some,zGy y (hw y (by simp))]
  rw [if_neg (show ¬([x,y].length ≠2) by simp)]
  show (if (PV y).Code !=0 then some (-1) else _)=some (if (PV y).Code !=0 then-1 else zGM c x (PV y).Version)
  rw [zI2 c x _ hc]
  cases (PV y).Code !=0<;>rfl
 |_::_::_::r,_=>
  rw [if_pos (by simp; omega),if_pos (by simp)]
theorem zKV (c:List Pack) (w:List ByteArray) (hc:c.length≤1048576) (hw:∀p∈w,p.size≤1048577):(if (w.length:Int)==2 then ((idx w 1).bind fun x36=>(vN x36).bind fun x38=>if x38.Code==0 then ((idx w 0).bind fun x41=>(kU c x41 x38.Version).bind fun x43=>some x43) else (some (-1))) else (some (-1)))=some (kE c w):=by
 unfold kE
 match w,hw with
 |[],_=>rfl
 |[_],_=>rfl
 |[x,y],hw=>
  have e0:idx [x,y] 0=some x:=rfl
  have e1:idx [x,y] 1=some y:=rfl
  rw [if_pos (by simp),e1,e0]
  simp only [Option.bind_some,zG3 y (hw y (by simp))]
  rw [if_neg (show ¬([x,y].length ≠2) by simp)]
  show (if (PV y).Code ==0 then _ else some (-1))=some (if (PV y).Code !=0 then-1 else zGM c x (PV y).Version)
  rw [zIt c x _ hc,bne]
  cases (PV y).Code ==0<;>rfl
 |_::_::_::r,_=>
  rw [if_neg (by simp; omega),if_pos (by simp)]
def zEN (c:List Pack):Nat→List Int→List ByteArray→Fl xI (List Int)
 |_,out,[]=>.nxt out
 |i,out,s::ps=>if kE c (zAk s)<0∨kE c (zAk s)∈out then .ret {Code:=5,At:=i,Set:=[]} else zEN c (i+1) (out++[kE c (zAk s)]) ps
def zRw (t:Fl xI (List Int)):xI:=match t with
 | .ret r=>r
 | .nxt l=> {Code:=0,At:=0,Set:=l.mergeSort (fun x y=>decide (x≤y))}
def PS (c:List Pack) (s:ByteArray):xI:=if s.size>4000 then {Code:=2,At:=0,Set:=[]} else zRw (zEN c 0 [] (zEs s))
theorem zES (c:List Pack):∀(ps:List ByteArray) (i:Nat) (out:List Int),out.Nodup→(∀k∈out,0≤k∧k<c.length)→match zEN c i out ps with
  | .ret r=>r.Code=5∧r.Set=[]
  | .nxt l=>l.Nodup∧(∀k∈l,0≤k∧k<c.length)
 |[],_,out,h1,h2=>⟨h1,h2⟩
 |s::ps,i,out,h1,h2=>by
  simp only [zEN]
  split
  ·rename_i h
   split at h
   ·cases h; exact ⟨rfl,rfl⟩
   ·rename_i hn
    rw [not_or] at hn
    have:=zES c ps (i+1) (out++[kE c (zAk s)]) (by
     rw [List.nodup_append]
     refine ⟨h1,by simp,fun a ha b hb=>?_⟩
     simp only [List.mem_singleton] at hb
     subst hb
     intro e
     subst e
     exact hn.2 ha) (by
     intro k hk
     rcases List.mem_append.1 hk with hk|hk
     ·exact h2 k hk
     ·simp only [List.mem_singleton] at hk
      subst hk
      rcases zGA c (zAk s) with h|h
      ·omega
      ·exact h)
    rw [h] at this
    exact this
  ·rename_i l h
   split at h
   ·cases h
   ·rename_i hn
    rw [not_or] at hn
    have:=zES c ps (i+1) (out++[kE c (zAk s)]) (by
     rw [List.nodup_append]
     refine ⟨h1,by simp,fun a ha b hb=>?_⟩
     simp only [List.mem_singleton] at hb
     subst hb
     intro e
     subst e
     exact hn.2 ha) (by
     intro k hk
     rcases List.mem_append.1 hk with hk|hk
     ·exact h2 k hk
     ·simp only [List.mem_singleton] at hk
      subst hk
      rcases zGA c (zAk s) with h|h
      ·omega
      ·exact h)
    rw [h] at this
    exact this
theorem zNk {l:List Int} (h:l.Nodup):(l.mergeSort (fun x y=>decide (x≤y))).Pairwise (· < ·)∧∀x,x∈l.mergeSort (fun x y=>decide (x≤y))↔x∈l:=by
 have hp:(l.mergeSort (fun x y=>decide (x≤y))).Perm l:=List.mergeSort_perm _ _
 have hs:(l.mergeSort (fun x y=>decide (x≤y))).Pairwise (fun x y=>(decide (x≤y))=true):=List.pairwise_mergeSort (fun a b c h1 h2=>by simp at h1 h2 ⊢; omega) (fun a b=>by simp; omega) l
 have hn:(l.mergeSort (fun x y=>decide (x≤y))).Nodup :=hp.nodup_iff.2 h
 refine ⟨?_,fun x=>hp.mem_iff⟩
 rw [List.pairwise_iff_getElem] at hs ⊢
 intro i j hi hj hij
 have h1:=hs i j hi hj hij
 have h2:=(List.pairwise_iff_getElem.1 hn) i j hi hj hij
 simp only [decide_eq_true_eq] at h1
 omega
theorem zIT (c:List Pack) (s:ByteArray):(((PS c s).Code =2∨(PS c s).Code =5)∧(PS c s).Set =[])∨(PS c s).Code =0∧(PS c s).At =0∧(PS c s).Set.Pairwise (· < ·)∧∀k∈(PS c s).Set,0≤k∧k<c.length:=by
 have key:∀r,r=PS c s→((r.Code=2∨r.Code=5)∧r.Set=[])∨r.Code=0∧r.At=0∧r.Set.Pairwise (· < ·)∧∀k∈r.Set,0≤k∧k<c.length:=by
  intro r hr
  unfold PS at hr
  split at hr
  ·subst hr
   exact .inl ⟨.inl rfl,rfl⟩
  ·have:=zES c (zEs s) 0 [] (by simp) (by simp)
   cases h:zEN c 0 [] (zEs s) with
   |ret q=>
    rw [h] at this hr
    simp only [zRw] at hr
    subst hr
    exact .inl ⟨.inr this.1,this.2⟩
   |nxt l=>
    rw [h] at this hr
    simp only [zRw] at hr
    subst hr
    obtain ⟨h1,h2⟩:=zNk this.1
    exact .inr ⟨rfl,rfl,h1,fun k hk=>this.2 k ((h2 k).1 hk)⟩
 exact key _ rfl
section
variable {c:List Pack} (hc:c.length≤1048576)
include hc
theorem zG8 (ps:List ByteArray) (hps:∀p∈ps,p.size≤100000) (hl:ps.length≤100000):∀(k i:Nat) (S out:List Int),i+k=ps.length→out.length≤i→S.length≤i→S.Pairwise (· < ·)→(∀x,x∈S↔x∈out)→
  ∃t,loop (zAp c ps) (S,(i:Int))=some t∧match zEN c i out (ps.drop i) with
   | .ret r=>t= .ret r
   | .nxt l=>∃S',t= .nxt S'∧S'.Pairwise (· < ·)∧∀x,x∈S'↔x∈l
 |0,i,S,out,hk,ho,hS,h1,h2=>by
  have e:i=ps.length:=by omega
  subst e
  rw [jO]
  unfold zAp
  rw [if_neg (by simp),List.drop_length]
  exact ⟨_,rfl,S,rfl,h1,h2⟩
 |k+1,i,S,out,hk,ho,hS,h1,h2=>by
  have hi:i<ps.length:=by omega
  have hm:=List.getElem_mem hi
  have hw:=zGZ ps[i]
  have hps1:=hps _ hm
  have hb:zAp c ps (S,(i:Int))=if kE c (zAk ps[i])<0∨kE c (zAk ps[i])∈S then some (.done (.ret {Code:=5,At:=i,Set:=[]})) else (zDC S (kE c (zAk ps[i]))).bind fun x51=>some (.go (x51,((i+1:Nat):Int))):=by
   unfold zAp
   rw [if_pos (by simp; omega),zK hi]
   simp only [Option.bind_some,zJA _ (show ps[i].size ≤1048577 by omega)]
   rw [zKV c _ hc (fun p hp=>by have:=hw p hp; omega)]
   simp only [Option.bind_some]
   by_cases hneg:kE c (zAk ps[i])<0
   ·rw [if_pos (by simpa using hneg),if_pos (.inl hneg)]
    rfl
   ·rw [if_neg (by simpa using hneg),zL0 S _ (by omega),zM (by omega)]
    simp only [Option.bind_some]
    by_cases hmem:kE c (zAk ps[i])∈S
    ·rw [if_pos (by simpa using hmem),if_pos (.inr hmem)]
    ·rw [if_neg (by simpa using hmem),if_neg (by rw [not_or]; exact ⟨hneg,hmem⟩)]
  rw [jO,hb,List.drop_eq_getElem_cons hi]
  simp only [zEN]
  by_cases hbad:kE c (zAk ps[i])<0∨kE c (zAk ps[i])∈out
  ·rw [if_pos hbad,if_pos (by rw [h2]; exact hbad)]
   exact ⟨_,rfl,rfl⟩
  ·have hbad2:¬(kE c (zAk ps[i])<0∨kE c (zAk ps[i])∈S):=by rw [h2]; exact hbad
   rw [if_neg hbad,if_neg hbad2]
   obtain ⟨r,er,r1,r2,r3⟩:=zOn S (kE c (zAk ps[i])) h1 (fun h=>hbad2 (.inr h)) (by omega)
   rw [er]
   simp only [Option.bind_some,Lp.elim]
   refine zG8 ps hps hl k (i+1) r (out++[kE c (zAk ps[i])]) (by omega) (by simp; omega) (by omega) r1 (fun x=>?_)
   rw [r2,h2,List.mem_append,List.mem_singleton]
end
section
variable {c:List Pack} (hc:c.length≤1048576)
include hc
theorem zJP (s:ByteArray) (h:s.size≤90000):zCs c s=some (PS c s):=by
 unfold zCs PS
 by_cases h4:s.size>4000
 ·rw [if_pos (by simp; omega),if_pos h4]
 ·rw [if_neg (by simp; omega),if_neg h4,zJK s (by omega)]
  simp only [Option.bind_some]
  have hlen:=zI6 s
  obtain ⟨t,e,ht⟩:=zG8 hc (zEs s) (fun p hp=>by have:=zHB s p hp; omega) (by omega) (zEs s).length 0 [] [] (by omega) (by simp) (by simp) (by simp) (by simp)
  rw [List.drop_zero] at ht
  unfold zCn
  rw [show ((0:Nat):Int)=0 from rfl] at e
  rw [e]
  have hg:=zES c (zEs s) 0 [] (by simp) (by simp)
  cases hr:zEN c 0 [] (zEs s) with
  |ret r=>
   rw [hr] at ht
   simp only at ht
   subst ht
   rfl
  |nxt l=>
   rw [hr] at ht hg
   obtain ⟨S',rfl,h1,h2⟩:=ht
   obtain ⟨g1,g2⟩:=zNk hg.1
   have:S'=l.mergeSort (fun x y=>decide (x≤y)):=zIA h1 g1 (fun x=>by rw [h2,g2])
   subst this
   rfl
end
section
variable {c:List Pack} (hc:c.length≤1048576)
include hc
theorem zGf (ps:List ByteArray) (hps:∀p∈ps,p.size≤100000) (hl:ps.length≤100000):∀(k i:Nat) (out:List Int),i+k=ps.length→out.length≤i→loop (kM c ps) (out,(i:Int))=some (zEN c i out (ps.drop i))
 |0,i,out,hk,ho=>by
  have e:i=ps.length:=by omega
  subst e
  rw [jO]
  unfold kM
  rw [if_neg (by simp),List.drop_length]
  rfl
 |k+1,i,out,hk,ho=>by
  have hi:i<ps.length:=by omega
  have hm:=List.getElem_mem hi
  have hw:=zGZ ps[i]
  have hps1:=hps _ hm
  have hb:kM c ps (out,(i:Int))=if kE c (zAk ps[i])<0∨kE c (zAk ps[i])∈out then some (.done (.ret {Code:=5,At:=i,Set:=[]})) else some (.go (out++[kE c (zAk ps[i])],((i+1:Nat):Int))):=by
   unfold kM
   rw [if_pos (by simp; omega),zK hi]
   simp only [Option.bind_some,zJJ _ (show ps[i].size ≤1048575 by omega)]
   rw [zIY c _ hc (fun p hp=>by have:=hw p hp; omega)]
   simp only [Option.bind_some]
   rw [zAU (by simp; omega) (by simp; omega),zM (by omega)]
   by_cases hneg:kE c (zAk ps[i])<0
   ·rw [if_pos (by simpa using hneg),if_pos (.inl hneg)]
    rfl
   ·rw [if_neg (by simpa using hneg),zL2 out _ (by omega)]
    simp only [Option.bind_some]
    by_cases hmem:kE c (zAk ps[i])∈out
    ·rw [if_pos (by simpa using hmem),if_pos (.inr hmem)]
    ·rw [if_neg (by simpa using hmem),if_neg (by rw [not_or]; exact ⟨hneg,hmem⟩)]
  rw [jO,hb,List.drop_eq_getElem_cons hi]
  simp only [zEN]
  by_cases hbad:kE c (zAk ps[i])<0∨kE c (zAk ps[i])∈out
  ·rw [if_pos hbad,if_pos hbad]
   rfl
  ·rw [if_neg hbad,if_neg hbad]
   simp only [Option.bind_some,Lp.elim]
   exact zGf ps hps hl k (i+1) (out++[kE c (zAk ps[i])]) (by omega) (by simp; omega)
end
theorem zIE {c:List Pack} (hC:Cat c) (s:ByteArray) (h:s.size≤90000):zBt c s=some (if CF c !=0 then {Code:=CF c,At:=0,Set:=[]} else PS c s):=by
 have hc:=hC.1
 unfold zBt PS
 rw [zEO c hC]
 simp only [Option.bind_some]
 cases CF c !=0
 case true=>rfl
 simp only [Bool.false_eq_true,if_false]
 by_cases h4:s.size>4000
 ·rw [if_pos (by simp; omega),if_pos h4]
 ·rw [if_neg (by simp; omega),if_neg h4,zJC s (by omega)]
  simp only [Option.bind_some]
  have hlen:=zI6 s
  have e:=zGf hc (zEs s) (fun p hp=>by have:=zHB s p hp; omega) (by omega) (zEs s).length 0 [] (by omega) (by simp)
  rw [List.drop_zero,show ((0:Nat):Int)=0 from rfl] at e
  unfold zB8
  rw [e]
  have hlp:∀(ps:List ByteArray) (i:Nat) (out l:List Int),zEN c i out ps= .nxt l→l.length≤out.length+ps.length:=by
   intro ps
   induction ps with
   |nil=>intro i out l h; cases h; simp
   |cons s ps ih=>
    intro i out l h
    simp only [zEN] at h
    split at h
    ·cases h
    ·have:=ih _ _ _ h
     simp at this ⊢
     omega
  cases hr:zEN c 0 [] (zEs s) with
  |ret r=>rfl
  |nxt l=>
   have hl:=hlp _ _ _ _ hr
   simp only [Option.bind_some,Fl.go]
   unfold uQ
   rw [if_pos (by simp at hl; omega)]
   simp only [Option.bind_some]
   rw [zFI (by rw [List.length_mergeSort])]
   rfl
theorem zLV {l:List Int} {n:Int} (hp:l.take 4=zPJ) (hl:4≤l.length) (h:zDX l=some n):l=zRd n∧1≤n∧n≤999999:=by
 unfold zDX at h
 cases hn:zKt (l.drop 4) 6 with
 |none=>rw [hn] at h; cases h
 |some m=>
  rw [hn] at h
  simp only at h
  split at h
  ·rename_i hc
   cases h
   have e:=(zN9 hp hl hn).2 hc
   by_cases hr:1≤n∧n≤999999
   ·rw [if_pos hr] at e
    refine ⟨?_,hr⟩
    have hpd:=zIJ 5 n.toNat (by omega)
    rw [show 10^(5+1)+n.toNat=1000000+n.toNat by omega] at hpd
    rw [←e,hpd]
    rfl
   ·rw [if_neg hr] at e
    rw [←e] at hc
    simp at hc
  ·cases h
theorem zHE {fs:List File} {n:Int} (h:n∈zGK fs):(∃f∈fs,f.Path=zPu n)∧1≤n∧n≤999999:=by
 unfold zGK at h
 obtain ⟨p,hp,hg⟩:=List.mem_filterMap.1 h
 have hb:=zJ7 (zFN p hp)
 rw [zNH] at hb
 obtain ⟨e,h1⟩:=zLV hb.1 hb.2 hg
 refine ⟨?_,h1⟩
 unfold jV at hp
 obtain ⟨f,hf,rfl⟩:=List.mem_map.1 hp
 exact ⟨f,(List.mem_filter.1 hf).1,zHx.1 (e.trans (zNd n).symm)⟩
def zIB (c:Int):xI:= {Code:=c,At:=0,Set:=[]}
def zB5 (c:List Pack) (d:zC) (n:Int):xI:=if n∈zGK d.Files then (match fileOf d (zPu n) with
 |some f=>if (PS c (b2s f.Data)).Code !=0 then zIB (PS c (b2s f.Data)).Code else PS c (b2s f.Data)
 |none=>zIB 0) else zIB 4
theorem zKw (c:List Pack) (d:zC) (n:Int):((zB5 c d n).Code ≠0→(zB5 c d n).Set =[])∧(zB5 c d n).At =0∧(zB5 c d n).Set.Pairwise (· < ·)∧(∀k∈(zB5 c d n).Set,0≤k∧k<c.length):=by
 have key:∀r,r=zB5 c d n→(r.Code≠0→r.Set=[])∧r.At=0∧r.Set.Pairwise (· < ·)∧(∀k∈r.Set,0≤k∧k<c.length):=by
  intro r hr
  have hcode:∀x,(zIB x).Set =[]∧(zIB x).At =0:=fun x=>⟨rfl,rfl⟩
  unfold zB5 at hr
  split at hr
  ·split at hr
   ·split at hr
    ·subst hr; exact ⟨fun _=>rfl,rfl,by rw [(hcode _).1]; simp,by rw [(hcode _).1]; simp⟩
    ·rename_i f _ hc
     subst hr
     rcases zIT c (b2s f.Data) with ⟨h,_⟩|⟨h1,h2,h3,h4⟩
     ·rcases h with h|h<;>rw [h] at hc<;>simp at hc
     ·exact ⟨fun h=>absurd h1 h,h2,h3,h4⟩
   ·subst hr; exact ⟨fun _=>rfl,rfl,by rw [(hcode _).1]; simp,by rw [(hcode _).1]; simp⟩
  ·subst hr; exact ⟨fun _=>rfl,rfl,by rw [(hcode _).1]; simp,by rw [(hcode _).1]; simp⟩
 exact key _ rfl
theorem zIx {d:zC} (hg:d.good) {p:ByteArray} (h:∃f∈d.Files,f.Path=p):∃k:Nat,∃hk:k<d.Files.length,xP d p=some (k:Int)∧yT d p=some (d.Files[k].Data,true)∧fileOf d p=some d.Files[k]:=by
 rcases zHC d p hg with h1|⟨_,_,h3⟩
 ·exact h1
 ·obtain ⟨f,hf,hp⟩:=h
  unfold fileOf at h3
  have:=List.find?_eq_none.1 h3 f hf
  simp [hp] at this
section
variable {c:List Pack} {d:zC} (hc:c.length≤1048576) (hg:d.good) (hb:Byt d)
include hc hg hb in
theorem zMn (n:Int):zEg c d n=some (zB5 c d n):=by
 have hfl:d.Files.length≤1048576:=by have:=hg.len; omega
 have hgl:=zGC d.Files
 unfold zEg zB5
 rw [zNF d hfl]
 simp only [Option.bind_some]
 rw [zL0 _ _ (by omega)]
 simp only [Option.bind_some]
 by_cases hm:n∈zGK d.Files
 ·obtain ⟨hf,h1,h2⟩:=zHE hm
  obtain ⟨k,hk,e1,_,e3⟩:=zIx hg hf
  have hmem:=List.getElem_mem hk
  have hdat:=hg.data _ hmem
  rw [if_neg (by simpa using hm),if_pos hm,zJt,show inB n 1 999999=true by unfold inB; simp; omega]
  simp only [Option.bind_some,if_true,e1]
  rw [zK hk]
  simp only [Option.bind_some]
  rw [zJP hc _ (by rw [←yP,zKe (hb _ hmem)]; omega),e3]
  simp only [Option.bind_some]
  cases (PS c (b2s d.Files[k].Data)).Code !=0<;>rfl
 ·rw [if_pos (by simpa using hm),if_neg hm]
  rfl
end
section
variable {c:List Pack} {d:zC} (hc:c.length≤1048576) (hg:d.good) (hb:Byt d)
include hg hb in
theorem zMl (hC:Cat c) (h0:CF c=0) (n:Int):zEb c d n=some ((zB5 c d n).Set,(zB5 c d n).Code):=by
 have hfl:d.Files.length≤1048576:=by have:=hg.len; omega
 have hgl:=zGC d.Files
 unfold zEb zB5
 rw [zP0 d hfl]
 simp only [Option.bind_some]
 rw [zL2 _ _ (by omega)]
 simp only [Option.bind_some]
 by_cases hm:n∈zGK d.Files
 ·obtain ⟨hf,h1,h2⟩:=zHE hm
  obtain ⟨k,hk,_,e2,e3⟩:=zIx hg hf
  have hmem:=List.getElem_mem hk
  have hdat:=hg.data _ hmem
  rw [if_neg (by simpa using hm),if_pos hm,zJr (by omega) h2]
  simp only [Option.bind_some,e2]
  rw [zIE hC _ (by rw [←yP,zKe (hb _ hmem)]; omega),e3,h0]
  simp only [bne_self_eq_false,Bool.false_eq_true,if_false,Option.bind_some]
  rcases zIT c (b2s d.Files[k].Data) with ⟨h,h'⟩|⟨h,_⟩
  ·have hn:((PS c (b2s d.Files[k].Data)).Code !=0)=true:=by rcases h with h|h<;>rw [h]<;>rfl
   rw [hn,h']
   rfl
  ·simp [h]
 ·rw [if_pos (by simpa using hm),if_neg hm]
  rfl
end
theorem zO6 {c:List Pack} {l:List Int} (hc:c.length≤1048576) (h1:l.Pairwise (· < ·)) (h2:∀k∈l,0≤k∧k<c.length):l.length≤1048576:=by
 rcases zLr (lo:=0) (hi:=c.length) h1 h2 with h|h
 ·omega
 ·rw [h]; simp
theorem zKb {c:List Pack} {d:zC} {a:List Int} (hC:Cat c) (h0:CF c=0) (hg:d.good) (hs:zPd c a=true) (ha:a.length≤1048576):
  zCi c d a=some (((zEW c a).length :Int)==0&&((zHX c d a).length :Int)==0):=by
 have hS:SF c a=0:=by unfold SF; simp [h0,hs]
 have hp:=(zKs.1 hs).2
 unfold zCi
 rw [zHs hC ha (by rw [hS]; rfl),zJS (zOS h0) hg hp ha]
 unfold zRn
 rw [hS]
 simp only [Option.bind_some,beq_self_eq_true,Bool.true_and]
 cases ((zEW c a).length :Int)==0<;>rfl
theorem zK5 {c:List Pack} {a:List Int} (hC:Cat c) (hp:Places c a) (ha:a.length≤1048576):zC9 c a=some (((zEW c a).length :Int)==0):=by
 unfold zC9
 rw [zK7 hC hp ha]
 rfl
structure zC.fine (d:zC):Prop where
 b1:d.Budget≤20000
 w0:0≤d.Writes
 w1:d.Writes≤2000000000
 s0: -1≤d.Stop
 len:d.Files.length≤120
 data:∀f∈d.Files,f.Data.length≤4000
 sorted:d.Files.Pairwise (fun f g=>slt f.Path g.Path=true)
 room:total d.Files≤d.Budget
theorem zC.good.fine {d:zC} (h:d.good):d.fine:=⟨h.b1,h.w0,by have:=h.w1; omega,h.s0,h.len,h.data,h.sorted,h.room⟩
theorem zNh {a b:ByteArray} (h:slt a b=false) (hne:a≠b):slt b a=true:=by
 cases h2:slt b a with
 |true=>rfl
 |false=>
  have c1:¬zOp a b<0:=fun hc=>by rw [(zLa a b).1 hc] at h; cases h
  have key:∀(x y:List UInt8),Op.bytesLess x y=false→Op.bytesLess y x=false→x=y:=by
   intro x
   induction x with
   |nil=>intro y; cases y<;>simp [Op.bytesLess]
   |cons u x ih=>
    intro y
    cases y with
    |nil=>simp [Op.bytesLess]
    |cons v y=>
     simp only [Op.bytesLess]
     intro e1 e2
     have e3:¬u<v:=fun hh=>by simp [hh] at e1
     have e4:¬v<u:=fun hh=>by simp [hh] at e2
     rw [UInt8.lt_iff_toNat_lt] at e3 e4
     have e5:u=v:=UInt8.toNat_inj.1 (by omega)
     subst e5
     simp [UInt8.lt_irrefl] at e1 e2
     rw [ih y e1 e2]
  exfalso
  apply hne
  unfold slt at h h2
  exact toList_inj (key _ _ h h2)
theorem zMi {fs:List File} {p:ByteArray} {x:List Int} {k:Nat} (hs:fs.Pairwise (fun f g=>slt f.Path g.Path=true)) (hn:∀f∈fs,f.Path≠p) (h1:∀i,(hi:i<fs.length)→i<k→slt fs[i].Path p=true) (h2:∀i,(hi:i<fs.length)→k≤i→slt fs[i].Path p=false):
  (fs.take k++(({Path:=p,Data:=x}:File)::fs.drop k)).Pairwise (fun f g=>slt f.Path g.Path=true):=by
 have ht:∀f∈fs.take k,slt f.Path p=true:=fun f hf=>by
  obtain ⟨i,hi,rfl⟩:=List.getElem_of_mem hf
  rw [List.getElem_take]
  rw [List.length_take] at hi
  exact h1 i (by omega) (by omega)
 have hd:∀f∈fs.drop k,slt p f.Path=true:=fun f hf=>by
  have hm:=List.mem_of_mem_drop hf
  obtain ⟨i,hi,rfl⟩:=List.getElem_of_mem hf
  rw [List.getElem_drop] at hm ⊢
  rw [List.length_drop] at hi
  exact zNh (h2 (k+i) (by omega) (by omega)) (hn _ hm)
 refine List.pairwise_append.2 ⟨List.Pairwise.sublist (List.take_sublist _ _) hs,List.pairwise_cons.2 ⟨hd,List.Pairwise.sublist (List.drop_sublist _ _) hs⟩,?_⟩
 intro a ha b hb
 rcases List.mem_cons.1 hb with rfl|hb
 ·exact ht a ha
 ·exact zFU (ht a ha) (hd b hb)
theorem zMT {fs:List File} {k:Nat} (hk:k<fs.length) (g:File):total (fs.set k g)=total fs-fs[k].Data.length +g.Data.length:=by
 rw [List.set_eq_take_append_cons_drop,if_pos hk]
 have h:=congrArg total (show fs.take k++fs[k]::fs.drop (k+1)=fs by rw [←List.drop_eq_getElem_cons hk,List.take_append_drop])
 rw [zEp] at h ⊢
 simp only [total] at h ⊢
 omega
theorem zNB (fs:List File) (k:Nat) (g:File):total (fs.take k++(g::fs.drop k))=total fs+g.Data.length:=by
 conv=>rhs; rw [←List.take_append_drop k fs]
 simp only [zEp,total]
 omega
theorem zPm {d:zC} (hf:d.fine) (hd:d.Down=false):zD7 d=some (if decide (d.Stop≥0)&&decide (d.Writes≥d.Stop) then (false,{d with Down:=true}) else (true,{d with Writes:=d.Writes+1})):=by
 unfold zD7
 rw [hd]
 simp only [Bool.false_eq_true,if_false]
 have h0:=hf.s0
 by_cases h1:d.Stop= -1
 ·have h2:¬(d.Stop≥0):=by omega
  simp [h1]
  exact wC (by have:=hf.w0; omega) (by have:=hf.w1; omega)
 ·have h2:d.Stop≥0:=by omega
  have h3:(d.Stop != -1)=true:=by simpa using h1
  simp only [h3,if_true,Option.bind_some,h2,decide_true,Bool.true_and]
  cases decide (d.Writes≥d.Stop)
  ·simp only [Bool.false_eq_true,if_false]
   rw [wC (by have:=hf.w0; omega) (by have:=hf.w1; omega)]
  ·simp only [if_true]
def wrote (d:zC) (p:ByteArray) (x:List Int) (r:Int×zC):Prop:=
 (r.1=0∧r.2.Down=false∧r.2.Writes=d.Writes+1∧r.2.Budget=d.Budget∧r.2.Stop=d.Stop∧r.2.Files.length≤120∧r.2.Files.Pairwise (fun f g=>slt f.Path g.Path=true)∧total r.2.Files≤d.Budget∧x.length≤4000∧
  (∀f∈r.2.Files,f∈d.Files∨f= {Path:=p,Data:=x})∧(∃f∈r.2.Files,f= {Path:=p,Data:=x})∧∀f∈d.Files,f.Path≠p→f∈r.2.Files)∨
 (r.1=9∧r.2= {d with Down:=true})∨((r.1=2∨r.1=8)∧r.2=d)
theorem zLR {d:zC} (hf:d.fine) (hdn:d.Down=false) {p:ByteArray} {x:List Int} (hp:zGb p) (hx:x.length≤1048576):
  ∃r:Int×zC,zA7 d p x=some r∧vP d p x=some r∧wrote d p x r:=by
 obtain ⟨fs,bu,wr,st,dn⟩:=d
 simp only at hdn
 subst hdn
 have hl:=hf.len; have hsz:=hf.data; have hro:=hf.room; have hb1:=hf.b1; have hw0:=hf.w0; have hw1:=hf.w1; have hs0:=hf.s0; have hso:=hf.sorted
 simp only at hl hsz hro hb1 hw0 hw1 hs0 hso
 have hn:=zEk fs
 have hPF:vS p=some 0:=by
  rw [zGF]
  obtain ⟨r,e,hr⟩:=zFD p
  rw [e,hr.2 hp]
 have hT2:vU {Files:=fs,Budget:=bu,Writes:=wr,Stop:=st,Down:=false}=some (total fs):=by
  rw [zMc]
  exact zGu _ (by simp only; omega) (fun f hm=>by have:=hsz f hm; omega)
 have hT1:uL {Files:=fs,Budget:=bu,Writes:=wr,Stop:=st,Down:=false}=some (total fs):=
  zGu _ (by simp only; omega) (fun f hm=>by have:=hsz f hm; omega)
 have hR:=zPm hf rfl
 simp only at hR
 have hcl:wL x=some x:=by
  unfold wL
  rw [zAU (by simp; omega) (by simp; omega)]
  rfl
 have hap:app 1 ([]:List Int) x=some x:=by rw [zAU (by simp; omega) (by simp; omega)]; rfl
 have hw:w64 (wr+1)=wr+1:=wC (by omega) (by omega)
 rcases zIr {Files:=fs,Budget:=bu,Writes:=wr,Stop:=st,Down:=false} p hl hso with ⟨k,hk,e1,e2,hpk⟩|⟨e1,hno,k,e2,hk,g1,g2⟩
 ·simp only at hk e2 hpk
  have hdk:=hsz _ (List.getElem_mem hk)
  have hmk:=zKi (List.getElem_mem hk)
  have ha:w64 (w64 (total fs-(fs[k].Data.length :Int))+(x.length:Int))=total fs-fs[k].Data.length +x.length:=by
   rw [wC (x:=total fs-(fs[k].Data.length :Int)) (by omega) (by omega)]
   exact wC (by omega) (by omega)
  have hk0:decide ((k:Int)≥0)=true:=by simp
  have hk1:decide ((k:Int)<0)=false:=by simp
  unfold zA7 vP yK vK kW yT wS
  simp only [e1,e2,Option.bind_some,hPF,hT1,hT2,hR,hk0,hk1,if_true,zK hk,Int.toNat_natCast,ha,hap,hcl,Bool.not_true,Bool.false_eq_true,if_false,bne_self_eq_false,hw]
  by_cases c1:(x.length:Int)>4000
  ·simp only [c1,decide_true,if_true,Option.bind_some]
   exact ⟨_,rfl,rfl,.inr (.inr ⟨.inl rfl,rfl⟩)⟩
  ·simp only [c1,decide_false,Bool.false_eq_true,if_false,Option.bind_some]
   by_cases c2:total fs-(fs[k].Data.length :Int)+(x.length:Int)>bu
   ·simp only [c2,decide_true,if_true]
    exact ⟨_,rfl,rfl,.inr (.inr ⟨.inr rfl,rfl⟩)⟩
   ·simp only [c2,decide_false,Bool.false_eq_true,if_false]
    cases c3:(decide (st≥0)&&decide (wr≥st))
    ·have c4:(if decide (st≥0) then some (decide (wr≥st)) else some false)=some false:=by
      cases h:decide (st≥0)<;>simp [h] at c3 ⊢
      exact c3
     rw [c4]
     simp only [Option.bind_some,Bool.false_eq_true,if_false,Bool.not_true,zK hk,hpk]
     refine ⟨_,rfl,rfl,.inl ⟨rfl,rfl,rfl,rfl,rfl,by simpa using hl,?_,?_,by omega,?_,?_,?_⟩⟩
     ·simp only
      rw [List.pairwise_iff_getElem] at hso ⊢
      intro i j hi hj hij
      simp only [List.length_set] at hi hj
      rw [List.getElem_set,List.getElem_set]
      have h:=hso i j hi hj hij
      split<;>split
      ·omega
      ·rename_i a b; subst a; simpa [hpk] using h
      ·rename_i a b; subst b; simpa [hpk] using h
      ·exact h
     ·simp only
      rw [zMT hk]
      simp only
      omega
     ·intro f hm
      rcases List.mem_or_eq_of_mem_set hm with h|h
      ·exact .inl h
      ·exact .inr h
     ·exact ⟨_,List.mem_set hk _,rfl⟩
     ·intro f hm hne
      simp only
      obtain ⟨i,hi,rfl⟩:=List.getElem_of_mem hm
      have:k≠i:=fun e=>by subst e; exact hne hpk
      refine List.mem_iff_getElem.2 ⟨i,by simpa using hi,?_⟩
      rw [List.getElem_set_ne this]
    ·have c4:(if decide (st≥0) then some (decide (wr≥st)) else some false)=some true:=by
      cases h:decide (st≥0)<;>simp [h] at c3 ⊢
      exact c3
     rw [c4]
     simp only [Option.bind_some,if_true,Bool.not_false]
     exact ⟨_,rfl,rfl,.inr (.inl ⟨rfl,rfl⟩)⟩
 ·simp only at hk e2 hno g1 g2
  have ha:w64 (w64 (total fs-0)+(x.length:Int))=total fs+x.length:=by
   rw [wC (x:=total fs-0) (by omega) (by omega)]
   rw [wC (by omega) (by omega)]; omega
  have ha':w64 (w64 (total fs-(([]:List Int).length :Int))+(x.length:Int))=total fs+x.length:=ha
  have hk0:decide ((-1:Int)≥0)=false:=by decide
  have hk1:decide ((-1:Int)<0)=true:=by decide
  have hlp:zBB p (true,{Files:=fs,Budget:=bu,Writes:=wr+1,Stop:=st,Down:=false}) x 0=some (k:Int):=by
   obtain ⟨t,e,rfl⟩:=kX (b:=zBl p (true,{Files:=fs,Budget:=bu,Writes:=wr+1,Stop:=st,Down:=false}) x) (fun i s=>s=(i:Int)∧i≤k) k (fun t=>t=(k:Int)) (by
    rintro i s hi ⟨rfl,_⟩
    unfold zBl
    have hif:i<fs.length:=by omega
    rw [if_pos (by simp; omega)]
    simp only [zK hif,Option.bind_some,g1 i hif hi,if_true]
    exact .inl ⟨_,rfl,zM (by omega),by omega⟩) (by
    rintro s ⟨rfl,_⟩
    unfold zBl
    by_cases hkl:k<fs.length
    ·rw [if_pos (by simp; omega)]
     simp only [zK hkl,Option.bind_some,g2 k hkl (Nat.le_refl _),Bool.false_eq_true,if_false]
     exact ⟨_,rfl,rfl⟩
    ·rw [if_neg (by simp; omega)]
     exact ⟨_,rfl,rfl⟩) k 0 0 (by omega) ⟨rfl,by omega⟩
   exact e
  have hs1:zFw fs 0 (k:Int)=some (fs.take k):=by
   unfold zFw
   rw [if_pos ⟨by omega,by omega,by omega⟩]
   simp
  have hs2:zFw fs (k:Int) (fs.length:Int)=some (fs.drop k):=by
   unfold zFw
   rw [if_pos ⟨by omega,by omega,by omega⟩]
   simp
   exact List.take_of_length_le (by simp)
  have hA1:app 40 ([]:List File) (fs.take k)=some (fs.take k):=by rw [zAU (by simp; omega) (by simp; omega)]; rfl
  have hA2:∀g:File,app 40 (fs.take k) [g]=some (fs.take k++[g]):=fun g=>zAU (by simp; omega) (by simp; omega)
  have hA3:∀g:File,app 40 (fs.take k++[g]) (fs.drop k)=some (fs.take k++(g::fs.drop k)):=fun g=>by
   rw [zAU (by simp; omega) (by simp; omega)]; simp
  have hI:∀g:File,vL fs (k:Int) [g]=some (fs.take k++(g::fs.drop k)):=fun g=>by
   unfold vL
   rw [if_pos ⟨by omega,by omega,by simp,by simp; omega⟩]
   simp
  have hget:∀g:File,idx (fs.take k++(g::fs.drop k)) (k:Int)=some g:=fun g=>by
   have hlk:(fs.take k).length =k:=by simp; omega
   rw [zK (show k< (fs.take k++(g::fs.drop k)).length by simp; omega)]
   rw [List.getElem_append_right (by omega)]
   simp [hlk]
  have hset:∀g g':File,(fs.take k++(g::fs.drop k)).set k g'=fs.take k++(g'::fs.drop k):=fun g g'=>by
   have hlk:(fs.take k).length =k:=by simp; omega
   rw [List.set_append_right _ _ (by omega)]
   simp [hlk]
  unfold zA7 vP yK vK kW yT wS
  simp only [e1,e2,Option.bind_some,hPF,hT1,hT2,hR,hk0,hk1,if_true,ha,ha',hap,hcl,Bool.not_false,Bool.false_eq_true,if_false,bne_self_eq_false]
  have h120:decide ((fs.length:Int)≥120)=((fs.length:Int)==120):=by
   by_cases h:(fs.length:Int)=120
   ·simp [h]
   ·have:¬((fs.length:Int)≥120):=by omega
    simp [h,this]
  by_cases c1:(x.length:Int)>4000
  ·simp only [c1,decide_true,if_true,Option.bind_some]
   exact ⟨_,rfl,rfl,.inr (.inr ⟨.inl rfl,rfl⟩)⟩
  ·simp only [c1,decide_false,Bool.false_eq_true,if_false,Option.bind_some,h120]
   cases c0:((fs.length:Int)==120)
   ·have hlt:fs.length<120:=by
     have:(fs.length:Int)≠120:=by simpa using c0
     omega
    simp only [Bool.false_eq_true,if_false]
    by_cases c2:total fs+(x.length:Int)>bu
    ·simp only [c2,decide_true,if_true]
     exact ⟨_,rfl,rfl,.inr (.inr ⟨.inr rfl,rfl⟩)⟩
    ·simp only [c2,decide_false,Bool.false_eq_true,if_false]
     cases c3:(decide (st≥0)&&decide (wr≥st))
     ·have c4:(if decide (st≥0) then some (decide (wr≥st)) else some false)=some false:=by
       cases h:decide (st≥0)<;>simp [h] at c3 ⊢
       exact c3
      rw [c4]
      simp only [Option.bind_some,Bool.false_eq_true,if_false,Bool.not_true,hlp,hs1,hs2,hA1,hA2,hA3,hI,hget,Int.toNat_natCast,hset,hw]
      refine ⟨_,rfl,rfl,.inl ⟨rfl,rfl,rfl,rfl,rfl,by simp; omega,zMi hso hno g1 g2,?_,by omega,?_,?_,?_⟩⟩
      ·simp only
       rw [zNB]
       simp only
       omega
      ·intro f hm
       simp only [List.mem_append,List.mem_cons] at hm
       rcases hm with h|h|h
       ·exact .inl (List.mem_of_mem_take h)
       ·exact .inr h
       ·exact .inl (List.mem_of_mem_drop h)
      ·exact ⟨_,by simp,rfl⟩
      ·intro f hm _
       simp only [List.mem_append,List.mem_cons]
       have:f∈fs.take k++fs.drop k:=by rw [List.take_append_drop]; exact hm
       rcases List.mem_append.1 this with h|h
       ·exact .inl h
       ·exact .inr (.inr h)
     ·have c4:(if decide (st≥0) then some (decide (wr≥st)) else some false)=some true:=by
       cases h:decide (st≥0)<;>simp [h] at c3 ⊢
       exact c3
      rw [c4]
      simp only [Option.bind_some,if_true,Bool.not_false]
      exact ⟨_,rfl,rfl,.inr (.inl ⟨rfl,rfl⟩)⟩
   ·simp only [if_true]
    exact ⟨_,rfl,rfl,.inr (.inr ⟨.inl rfl,rfl⟩)⟩
theorem zQz {c:List Pack} {d:zC} (hC:Cat c) (hd:zC.sm 1048576 d):∃k,wY d=some k∧zCC c d=some (if CF c !=0 then CF c else if k !=0 then k else if d.Down then 9 else 0)∧(k=0→d.good):=by
 obtain ⟨k,ek,hk⟩:=zHQ d hd.1.1
 refine ⟨k,ek,?_,hk⟩
 unfold zCC
 rw [zLJ hC k ek]
 simp only [Option.bind_some]
 by_cases h0:CF c=0
 ·by_cases h1:k=0
  ·simp [h0,h1]
   cases d.Down<;>rfl
  ·simp [h0,h1]
 ·simp [h0]
theorem zOa {d:zC} {p:ByteArray} {x:List Int} {r:Int×zC} (hd:zC.sm 1048576 d) (hp:p.size≤1048576) (h:wrote d p x r):zH.sm 1049600 {Code:=r.1,zC:=r.2}:=by
 have hm:=zC.zDU hd
 rcases h with ⟨_,h2,h3,h4,h5,h6,_,_,h9,h10,_⟩|⟨_,h2⟩|⟨_,h2⟩
 ·refine ⟨trivial,⟨by simp only; omega,fun f hf=>?_⟩,trivial,trivial,trivial,trivial⟩
  rcases h10 f hf with h|rfl
  ·exact hm.1.2 f h
  ·exact ⟨by simp only; omega,by simp only; omega,fun _ _=>trivial⟩
 ·rw [h2]; exact ⟨trivial,hm⟩
 ·rw [h2]; exact ⟨trivial,hm⟩
theorem zPE {r:Int×zC} (h:zH.sm 1049600 {Code:=r.1,zC:=r.2}):zH.sm 1049600 (if r.1 !=0&&r.1 !=9 then zKL r.1 else {Code:=r.1,zC:=r.2}):=by
 split
 ·exact zL9 _
 ·exact h
theorem zKW (d:zC) (c:Int):zCb d c=some (if c !=0&&c !=9 then zKL c else {Code:=c,zC:=d}):=by
 unfold zCb zKL
 cases c !=0
 ·rfl
 ·cases c !=9<;>rfl
theorem zFt (d:zC) (c:Int):zEm d c=some (if c !=0&&c !=9 then zKL c else {Code:=c,zC:=d}):=by
 unfold zEm zKL
 cases c !=0
 ·rfl
 ·cases c !=9<;>rfl
theorem zQE:zGb (bs [99,117,114]):=by
 refine ⟨by decide,by decide,?_⟩
 rw [zLd]
 decide
theorem zQf (s:ByteArray):s2b s=bl s:=by
 unfold s2b bl
 rw [ByteArray.toList_eq]
theorem zOz {n:Int} (h0:1≤n) (h1:n≤999999):zAj n=some (zHK n.toNat)∧xY n=some (zHK n.toNat)∧(s2b (zHK n.toNat)).length ≤6:=by
 have e:n=(n.toNat:Int):=by omega
 have hl:=(zIR (n:=n.toNat) (by omega)).2
 refine ⟨?_,?_,?_⟩
 ·unfold zAj
  have h:=zFk n.toNat (by omega)
  rw [←e] at h
  rw [h]
  rfl
 ·obtain ⟨s,e1,e2⟩:=zEC n.toNat (by omega)
  rw [←e] at e1
  rw [e1]
  congr 1
  exact zHx.1 (by rw [e2,zER])
 ·rw [zQf,zER]
  exact hl
theorem zKp (c:List Pack) (d:zC) (n:Int):(zB5 c d n).Code ≠9:=by
 unfold zB5
 split
 ·split
  ·rename_i f _
   rcases zIT c (b2s f.Data) with ⟨h,_⟩|⟨h,_⟩
   ·rcases h with h|h<;>simp [h,zIB]
   ·simp [h]
  ·simp [zIB]
 ·simp [zIB]
theorem zHl (a1:(List Pack)) (a2:zC) (a3:Int) (k0:a1.length≤maxLen∧∀y1∈a1,Pack.ok y1) (k1:zC.ok a2) (k2:IntKind.i64.min≤a3∧a3≤IntKind.i64.max) (s0:(a1.length≤1048576∧∀y0∈a1,Pack.sm 1048576 y0)) (s1:(zC.sm 1048576 a2)) (s2:(True)):∃r,jD a1 a2 a3=some r∧vD a1 a2 a3=some r∧(zH.sm 1049600 r):=by
 have hb:Byt a2:=fun f hf c hc=>by have:=(k1.1.2 f hf).2.2 c hc; simpa [IntKind.min,IntKind.max,IntKind.signed,IntKind.bits] using this
 obtain ⟨k,ek,ea,hgood⟩:=zQz s0 s1
 have hnone:∀q:Int,zH.sm 1049600 {Code:=q,zC:= {Files:=[],Budget:=0,Writes:=0,Stop:=0,Down:=false}}:=zL9
 unfold jD vD wB xZ
 rw [ea,zEO a1 s0,zHV,ek]
 simp only [Option.bind_some]
 by_cases h0:CF a1=0
 ·simp only [h0,bne_self_eq_false,Bool.false_eq_true,if_false]
  by_cases h1:k=0
  ·subst h1
   have hg:=hgood rfl
   simp only [bne_self_eq_false,Bool.false_eq_true,if_false,beq_self_eq_true,if_true,Option.bind_some]
   cases hdn:a2.Down
   ·simp only [Bool.false_eq_true,if_false,bne_self_eq_false,Option.bind_some]
    rw [zMP a2 (zC.zMY s1),zKg a2 (zC.zMY s1)]
    simp only [Option.bind_some]
    unfold jL uZ
    rw [zMn s0.1 hg hb,zMl hg hb s0 h0]
    rcases zJL a2 (bs [112,108,97,110]) hg with ⟨q,hq,e1,e2,_⟩|⟨e1,e2,_⟩
    ·rw [e1,e2]
     have hq0:decide ((q:Int)≥0)=true:=by simp
     simp only [Option.bind_some,hq0,if_true,zFt]
     exact ⟨_,rfl,rfl,hnone 6⟩
    ·rw [e1,e2]
     have hq0:decide ((-1:Int)≥0)=false:=by decide
     simp only [Option.bind_some,hq0,Bool.false_eq_true,if_false]
     obtain ⟨g1,g2,g3,g4⟩:=zKw a1 a2 a3
     have hs:=zO6 s0.1 g3 g4
     by_cases hc:(zB5 a1 a2 a3).Code =0
     ·simp only [hc,bne_self_eq_false,Bool.false_eq_true,if_false]
      have hp:Places a1 (zB5 a1 a2 a3).Set :=g4
      have hsb:zPd a1 (zB5 a1 a2 a3).Set =true:=zKs.2 ⟨g3,hp⟩
      rw [zK5 s0 hp hs,zKb s0 h0 hg hsb hs,zIa (zOS h0) hg hb hp hs]
      have hl:decide (((zHX a1 a2 (zB5 a1 a2 a3).Set).length :Int)>0)= !(((zHX a1 a2 (zB5 a1 a2 a3).Set).length :Int)==0):=by
       cases zHX a1 a2 (zB5 a1 a2 a3).Set with
       |nil=>rfl
       |cons x l=>simp<;>omega
      have hn:1≤a3∧a3≤999999:=by
       by_cases hm:a3∈zGK a2.Files
       ·exact (zHE hm).2
       ·exfalso
        unfold zB5 at hc
        rw [if_neg hm] at hc
        simp [zIB] at hc
      obtain ⟨d1,d2,d3⟩:=zOz hn.1 hn.2
      simp only [Option.bind_some,hl,d1,d2]
      cases ((zEW a1 (zB5 a1 a2 a3).Set).length :Int)==0
      ·simp only [Bool.not_false,if_true,Option.bind_some,Bool.false_and,zFt]
       exact ⟨_,rfl,rfl,hnone 1⟩
      ·simp only [Bool.not_true,Bool.false_eq_true,if_false,Option.bind_some,Bool.true_and]
       cases ((zHX a1 a2 (zB5 a1 a2 a3).Set).length :Int)==0
       ·simp only [Bool.not_false,if_true,Option.bind_some,zFt]
        exact ⟨_,rfl,rfl,hnone 1⟩
       ·simp only [Bool.not_true,Bool.false_eq_true,if_false]
        obtain ⟨r,w1,w2,w3⟩:=zLR hg.fine hdn zQE (x:=s2b (zHK a3.toNat)) (by omega)
        rw [w1,w2]
        simp only [Option.bind_some,zKW,zFt]
        exact ⟨_,rfl,rfl,zPE (zOa s1 (by decide) w3)⟩
     ·have hc':((zB5 a1 a2 a3).Code !=0)=true:=by simpa using hc
      have hc9:((zB5 a1 a2 a3).Code !=9)=true:=by
       have:=zKp a1 a2 a3
       simpa using this
      simp only [hc',if_true,Option.bind_some,zFt,hc9,Bool.and_self]
      exact ⟨_,rfl,rfl,hnone _⟩
   ·simp only [if_true,Option.bind_some]
    exact ⟨_,rfl,rfl,hnone 9⟩
  ·have hk:(k !=0)=true:=by simpa using h1
   have hk':(k==0)=false:=by simpa using h1
   simp only [hk,hk',if_true,Option.bind_some,Bool.false_eq_true,if_false]
   exact ⟨_,rfl,rfl,hnone k⟩
 ·have hk:(CF a1 !=0)=true:=by simpa using h0
  simp only [hk,if_true]
  exact ⟨_,rfl,rfl,hnone _⟩
theorem zFn (a1:(List Pack)) (a2:zC) (a3:Int) (k0:a1.length≤maxLen∧∀y1∈a1,Pack.ok y1) (k1:zC.ok a2) (k2:IntKind.i64.min≤a3∧a3≤IntKind.i64.max):wR a1 a2 a3=some true:=zFc a1 a2 a3 k0 k1 k2 (zHl a1 a2 a3 k0 k1 k2)
end Go.Told

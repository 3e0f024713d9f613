import Derived.Test.YtlagdfkkokgakaaToldDropFile
set_option linter.unusedVariables false
set_option maxRecDepth 4000
namespace Go.Told
open Go Go.Im
theorem kI {S T:Type} {b b':S→Option (Lp S T)} (h:∀s,b s=b' s):loop b=loop b':=by
 have:b=b':=funext h
 rw [this]
theorem uR {x:Int} (h1: -9223372036854775808≤x) (h2:x≤9223372036854775807):w64 x=x:=by
 unfold w64
 rw [IntKind.wrap_i64]
 omega
theorem vP {i:Nat} (h:i<9223372036854775807):w64 ((i:Int)+1)=((i+1:Nat):Int):=by
 rw [uR (by omega) (by omega)]; omega
theorem tN {T:Type} {S:Type} {b:S→Option (Lp S T)} (I:Nat→S→Prop) (n:Nat) (Q:T→Prop) (hstep:∀i s,i<n→I i s→(∃s',b s=some (.go s')∧I (i+1) s')∨∃t,b s=some (.done t)∧Q t)
  (hend:∀s,I n s→∃t,b s=some (.done t)∧Q t):∀(k i:Nat) (s:S),i+k=n→I i s→∃t,loop b s=some t∧Q t
 |0,i,s,hk,hI=>by
  obtain ⟨t,h1,h2⟩:=hend s (by rw [show n=i by omega]; exact hI)
  exact ⟨t,by rw [uM,h1]; rfl,h2⟩
 |k+1,i,s,hk,hI=>by
  rcases hstep i s (by omega) hI with ⟨s',h1,h2⟩|⟨t,h1,h2⟩
  ·obtain ⟨t,h3,h4⟩:=tN I n Q hstep hend k (i+1) s' (by omega) h2
   exact ⟨t,by rw [uM,h1]; exact h3,h4⟩
  ·exact ⟨t,by rw [uM,h1]; rfl,h2⟩
theorem vV {α:Type} {xs:List α} {i:Nat} (h:i<xs.length):idx xs (i:Int)=some xs[i]:=by
 unfold idx
 rw [if_pos (by omega)]
 simp [h]
theorem jG {α:Type} (l r:List α) (x:α):idx (l++x::r) (l.length:Int)=some x:=by
 rw [vV (by simp)]
 simp
theorem zCY {α:Type} (xs:List α) {b:(List α×Int)→Option (Lp (List α×Int) (List α))} (hstep:∀(ys:List α) (i:Nat) (hi:i<xs.length),ys.length=xs.length→b (ys,(i:Int))=some (.go (ys.set i xs[i],((i+1:Nat):Int))))
  (hend:∀ys:List α,ys.length=xs.length→b (ys,(xs.length:Int))=some (.done ys)) (y0:List α) (h0:y0.length=xs.length):loop b (y0,0)=some xs:=by
 obtain ⟨t,h1,h2⟩:=tN (b:=b) (fun i s=>s.2=(i:Int)∧s.1.length=xs.length∧s.1.take i=xs.take i) xs.length (fun t=>t=xs) (by
  rintro i ⟨ys,j⟩ hi ⟨hj,hl,hp⟩
  simp only at hj hl hp
  subst hj
  refine .inl ⟨_,hstep ys i hi hl,rfl,by simpa using hl,?_⟩
  simp only
  rw [List.take_succ_eq_append_getElem (by simp; omega),List.take_succ_eq_append_getElem hi,←hp,List.take_set_of_le (Nat.le_refl _)]
  simp) (by
  rintro ⟨ys,j⟩ ⟨hj,hl,hp⟩
  simp only at hj hl hp
  subst hj
  refine ⟨ys,hend ys hl,?_⟩
  rw [List.take_of_length_le (by omega),List.take_of_length_le (by omega)] at hp
  exact hp) xs.length 0 (y0,0) (by omega) ⟨rfl,h0,by simp⟩
 rw [h1,h2]
theorem zCT {R:Type} (n:Nat) {b:Int→Option (Lp Int (Fl R Unit))} (hstep:∀i:Nat,i<n→b (i:Int)=some (.go ((i+1:Nat):Int))) (hend:b (n:Int)=some (.done (.nxt ()))):loop b 0=some (.nxt ()):=by
 obtain ⟨t,h1,h2⟩:=tN (b:=b) (fun i s=>s=(i:Int)) n (fun t=>t= .nxt ()) (by
  rintro i s hi rfl
  exact .inl ⟨_,hstep i hi,rfl⟩) (by
  rintro s rfl
  exact ⟨_,hend,rfl⟩) n 0 0 (by omega) rfl
 rw [h1,h2]
theorem zEh {α:Type} (xs:List α) (P:α→Prop) (l:Int) {b:(Int×Int)→Option (Lp (Int×Int) (Fl Int Int))}
  (hstep:∀(q:Int) (i:Nat) (hi:i<xs.length),0≤q→q≤l→(∃q',b (q,(i:Int))=some (.go (q',((i+1:Nat):Int)))∧0≤q'∧q'≤q∧P xs[i])∨∃t,b (q,(i:Int))=some (.done (.ret t))∧t<0)
  (hend:∀q:Int,b (q,(xs.length:Int))=some (.done (.nxt q))) (h0:0≤l):
  ∃t,loop b (l,0)=some t∧match t with| .ret r=>r<0| .nxt r=>0≤r∧r≤l∧∀x∈xs,P x:=by
 refine tN (b:=b) (fun i s=>s.2=(i:Int)∧0≤s.1∧s.1≤l∧∀j,(hj:j<xs.length)→j<i→P xs[j]) xs.length _ (by
  rintro i ⟨q,j⟩ hi ⟨hj,h1,h2,h3⟩
  simp only at hj h1 h2 h3
  subst hj
  rcases hstep q i hi h1 h2 with ⟨q',e,g1,g2,g3⟩|⟨t,e,ht⟩
  ·refine .inl ⟨_,e,rfl,g1,by simp only; omega,fun j hj hji=>?_⟩
   rcases Nat.lt_or_ge j i with h|h
   ·exact h3 j hj h
   ·have:j=i:=by omega
    subst this; exact g3
  ·exact .inr ⟨_,e,ht⟩) (by
  rintro ⟨q,j⟩ ⟨hj,h1,h2,h3⟩
  simp only at hj h1 h2 h3
  subst hj
  refine ⟨_,hend q,h1,h2,fun x hx=>?_⟩
  obtain ⟨j,hj,rfl⟩:=List.getElem_of_mem hx
  exact h3 j hj hj) xs.length 0 (l,0) (by omega) ⟨rfl,h0,Int.le_refl _,fun j _ h=>by omega⟩
def pm {α:Type} (m:α→Int→α) (c:α→Int):List α→Int→List α
 |[],_=>[]
 |x::xs,k=>m x k::pm m c xs (k+c x)
def cs {α:Type} (c:α→Int):List α→Int
 |[]=>0
 |x::xs=>c x+cs c xs
theorem tV {α:Type} (m:α→Int→α) (c:α→Int):∀(xs:List α) (k:Int),(pm m c xs k).length =xs.length
 |[],_=>rfl
 |x::xs,k=>by simp [pm,tV m c xs]
theorem wL {α:Type} {c:α→Int} (hc:∀a,0≤c a):∀(xs:List α),0≤cs c xs
 |[]=>Int.le_refl _
 |x::xs=>by have:=hc x; have:=wL hc xs; simp only [cs]; omega
theorem zEp {α:Type} {c:α→Int} {C:Int} {N:Nat} (hC:0≤C):∀(xs:List α),(∀a∈xs,c a≤C)→xs.length≤N→cs c xs≤N*C
 |[],_,_=>Int.mul_nonneg (by omega) hC
 |x::xs,h,hl=>by
  have h1:=h x (by simp)
  simp only [List.length_cons] at hl
  have h2:=zEp (N:=N-1) hC xs (fun a ha=>h a (by simp [ha])) (by omega)
  simp only [cs]
  have:((N-1:Nat):Int)*C+C=N*C:=by
   have e:((N-1:Nat):Int)=(N:Int)-1:=by omega
   rw [e,Int.sub_mul,Int.one_mul]; omega
  omega
theorem zAw {α:Type} (m:α→Int→α) (c:α→Int) (P:α→Prop) (hc:∀a,0≤c a) {b:(List α×Int×Int)→Option (Lp (List α×Int×Int) (List α×Int))}
  (hstep:∀(l r:List α) (x:α) (k:Int),P x→0≤k→k+c x≤9223372036854775807→l.length<9223372036854775807→b (l++x::r,k,(l.length:Int))=some (.go (l++m x k::r,k+c x,((l.length+1:Nat):Int))))
  (hend:∀(l:List α) (k:Int),b (l,k,(l.length:Int))=some (.done (l,k))):∀(xs l:List α) (k:Int),(∀x∈xs,P x)→0≤k→k+cs c xs≤9223372036854775807→l.length+xs.length<9223372036854775807→
  loop b (l++xs,k,(l.length:Int))=some (l++pm m c xs k,k+cs c xs)
 |[],l,k,_,_,_,_=>by
  rw [uM,List.append_nil,hend]
  simp [pm,cs,Lp.elim]
 |x::xs,l,k,hP,h0,h1,h2=>by
  have hx:=hc x
  have hxs:=wL hc xs
  simp only [cs] at h1
  simp only [List.length_cons] at h2
  rw [uM,hstep l xs x k (hP x (by simp)) h0 (by omega) (by omega)]
  simp only [Option.bind_some,Lp.elim]
  have:=zAw m c P hc hstep hend xs (l++[m x k]) (k+c x) (fun y hy=>hP y (by simp [hy])) (by omega) (by omega) (by simp; omega)
  simp only [List.length_append,List.length_cons,List.length_nil,List.append_assoc,List.cons_append,List.nil_append] at this
  rw [this]
  simp only [pm,cs]
  congr 2
  omega
theorem zAl {α:Type} (m:α→Int→α) (c:α→Int) (P:α→Prop) (hc:∀a,0≤c a) {b:List α→(Int×Int)→Option (Lp (Int×Int) (Fl Int Int))}
  (hstep:∀(l r:List α) (x:α) (k:Int),P x→0≤k→k+c x≤9223372036854775807→l.length<9223372036854775807→b (l++m x k::r) (k,(l.length:Int))=some (.go (k+c x,((l.length+1:Nat):Int))))
  (hend:∀(l:List α) (k:Int),b l (k,(l.length:Int))=some (.done (.nxt k))):∀(xs l:List α) (k:Int),(∀x∈xs,P x)→0≤k→k+cs c xs≤9223372036854775807→l.length+xs.length<9223372036854775807→
  loop (b (l++pm m c xs k)) (k,(l.length:Int))=some (.nxt (k+cs c xs))
 |[],l,k,_,_,_,_=>by
  rw [uM,pm,List.append_nil,hend]
  simp [cs,Lp.elim]
 |x::xs,l,k,hP,h0,h1,h2=>by
  have hx:=hc x
  have hxs:=wL hc xs
  simp only [cs] at h1
  simp only [List.length_cons] at h2
  rw [pm,uM,hstep l _ x k (hP x (by simp)) h0 (by omega) (by omega)]
  simp only [Option.bind_some,Lp.elim]
  have:=zAl m c P hc hstep hend xs (l++[m x k]) (k+c x) (fun y hy=>hP y (by simp [hy])) (by omega) (by omega) (by simp; omega)
  simp only [List.length_append,List.length_cons,List.length_nil,List.append_assoc,List.cons_append,List.nil_append] at this
  rw [this]
  simp only [cs]
  congr 2
  omega
theorem zAW {α β:Type} {xs:List α} {ys:List β} (h:xs.length=ys.length):same xs ys=some ():=if_pos h
theorem zCJ {α:Type} (l r:List α) (x y:α):(l++x::r).set l.length y=l++y::r:=by
 rw [List.set_append_right _ _ (Nat.le_refl _)]
 simp
def c1 {α:Type} (_:α):Int:=1
theorem jB {α:Type} (a:α):0≤c1 a:=by unfold c1; decide
theorem zBV {α:Type} {B:Nat} {xs ys:List α} (h:(xs.length+ys.length)*B≤140737488355328) (h2:xs.length+ys.length≤4611686018427387904):app B xs ys=some (xs++ys):=if_pos ⟨h,h2⟩
theorem zBx {S T:Type} {b:S→Option (Lp S T)} (I:S→Prop) (μ:S→Nat) (Q:T→Prop) (step:∀s,I s→(∃s',b s=some (.go s')∧I s'∧μ s'<μ s)∨∃t,b s=some (.done t)∧Q t):∀(n:Nat) (s:S),μ s≤n→I s→∃t,loop b s=some t∧Q t
 |0,s,hn,hI=>by
  rcases step s hI with ⟨s',_,_,h3⟩|⟨t,h1,h2⟩
  ·omega
  ·exact ⟨t,by rw [uM,h1]; rfl,h2⟩
 |n+1,s,hn,hI=>by
  rcases step s hI with ⟨s',h1,h2,h3⟩|⟨t,h1,h2⟩
  ·obtain ⟨t,h4,h5⟩:=zBx I μ Q step n s' (by omega) h2
   exact ⟨t,by rw [uM,h1]; exact h4,h5⟩
  ·exact ⟨t,by rw [uM,h1]; rfl,h2⟩
def File.ok (x:File):Prop:=(x.Path.size≤maxLen)∧(x.Data.length≤maxLen∧∀y1∈x.Data,IntKind.u8.min≤y1∧y1≤IntKind.u8.max)
def zA.ok (x:zA):Prop:=(x.Files.length≤maxLen∧∀y1∈x.Files,File.ok y1)∧(IntKind.i64.min≤x.Budget∧x.Budget≤IntKind.i64.max)∧(IntKind.i64.min≤x.Writes∧x.Writes≤IntKind.i64.max)∧(IntKind.i64.min≤x.Stop∧x.Stop≤IntKind.i64.max)∧(True)
theorem zCs (x:(List Int)) (hx:x.length≤maxLen∧∀y1∈x,IntKind.u8.min≤y1∧y1≤IntKind.u8.max) (l:Int) (h0:0≤l) (h1:l≤1048576):∃r,wU x l=some r∧(r<0∨(0≤r∧r≤l∧(x.length≤1048576∧∀y0∈x,True))):=by
 obtain ⟨hm,hx⟩:=hx
 unfold maxLen at hm
 unfold wU
 rw [uR (x:=l-x.length) (by omega) (by omega)]
 by_cases c1:l-(x.length:Int)<0
 ·rw [if_pos (by simpa using c1)]
  exact ⟨_,rfl,.inl (by omega)⟩
 ·rw [if_neg (by simpa using c1)]
  exact ⟨_,rfl,.inr ⟨by omega,by omega,by omega,fun _ _=>trivial⟩⟩
def File.sm (B:Nat) (x:File):Prop:=(x.Path.size≤B)∧(x.Data.length≤B∧∀y0∈x.Data,True)
def zA.sm (B:Nat) (x:zA):Prop:=(x.Files.length≤B∧∀y0∈x.Files,File.sm B y0)∧(True)∧(True)∧(True)∧(True)
theorem zCE (x:File) (hx:File.ok x) (l:Int) (h0:0≤l) (h1:l≤1048576):∃r,vW x l=some r∧(r<0∨(0≤r∧r≤l∧(File.sm 1048576 x))):=by
 obtain ⟨k0,k1⟩:=hx
 unfold maxLen at*
 unfold vW
 rw [uR (x:=l-x.Path.size) (by omega) (by omega)]
 by_cases c0:l-(x.Path.size:Int)<0
 ·rw [if_pos (by simpa using c0)]
  exact ⟨_,rfl,.inl (by omega)⟩
 rw [if_neg (by simpa using c0)]
 obtain ⟨r1,e1,g1⟩:=zCs x.Data k1 (l-x.Path.size) (by omega) (by omega)
 rw [e1]
 simp only [Option.bind_some]
 by_cases c1:r1<0
 ·rw [if_pos (by simpa using c1)]
  exact ⟨_,rfl,.inl (by omega)⟩
 rw [if_neg (by simpa using c1)]
 obtain ⟨p1,q1,z1⟩:=g1.resolve_left c1
 exact ⟨_,rfl,.inr ⟨by omega,by omega,by omega,z1⟩⟩
theorem zCu (x:(List File)) (hx:x.length≤maxLen∧∀y1∈x,File.ok y1) (l:Int) (h0:0≤l) (h1:l≤1048576):∃r,wY x l=some r∧(r<0∨(0≤r∧r≤l∧(x.length≤1048576∧∀y0∈x,File.sm 1048576 y0))):=by
 obtain ⟨hm,hx⟩:=hx
 unfold maxLen at hm
 unfold wY
 rw [uR (x:=l-x.length) (by omega) (by omega)]
 by_cases c1:l-(x.length:Int)<0
 ·rw [if_pos (by simpa using c1)]
  exact ⟨_,rfl,.inl (by omega)⟩
 ·rw [if_neg (by simpa using c1)]
  have key:=zEh x (fun y0=>File.sm 1048576 y0) (l-x.length) (b:=wK x) ?_ ?_ (by omega)
  ·obtain ⟨t,h2,h3⟩:=key
   unfold vC
   rw [h2]
   cases t with
   |ret r=>exact ⟨r,rfl,.inl h3⟩
   |nxt r=>exact ⟨r,rfl,.inr ⟨h3.1,by have:=h3.2.1; omega,by omega,h3.2.2⟩⟩
  ·intro q i hi hq0 hq1
   unfold wK
   rw [if_pos (by simp; omega)]
   simp only [vV hi,Option.bind_some]
   have hi2:w64 ((i:Int)+1)=((i+1:Nat):Int):=vP (by omega)
   obtain ⟨r,e,hr⟩:=zCE x[i] (hx _ (List.getElem_mem hi)) q hq0 (by omega)
   rw [e]
   simp only [Option.bind_some]
   by_cases c:r<0
   ·rw [if_pos (by simpa using c)]
    exact .inr ⟨_,rfl,by omega⟩
   ·rw [if_neg (by simpa using c),hi2]
    obtain ⟨g1,g2,g3⟩:=hr.resolve_left c
    exact .inl ⟨_,rfl,g1,g2,g3⟩
  ·intro q
   unfold wK
   rw [if_neg (by simp)]
theorem zDi (x:zA) (hx:zA.ok x) (l:Int) (h0:0≤l) (h1:l≤1048576):∃r,uD x l=some r∧(r<0∨(0≤r∧r≤l∧(zA.sm 1048576 x))):=by
 obtain ⟨k0,k1,k2,k3,k4⟩:=hx
 unfold maxLen at*
 unfold uD
 obtain ⟨r0,e0,g0⟩:=zCu x.Files k0 l (by omega) (by omega)
 rw [e0]
 simp only [Option.bind_some]
 by_cases c0:r0<0
 ·rw [if_pos (by simpa using c0)]
  exact ⟨_,rfl,.inl (by omega)⟩
 rw [if_neg (by simpa using c0)]
 obtain ⟨p0,q0,z0⟩:=g0.resolve_left c0
 exact ⟨_,rfl,.inr ⟨by omega,by omega,z0,trivial,trivial,trivial,trivial⟩⟩
theorem zC5 (x:(List Int)) (hx:x.length≤1049600∧∀y0∈x,True):vG x=some x:=by
 have hl:=hx.1
 unfold vG
 have hm:∀z:Int,mk 1 (x.length:Int) z=some (List.replicate x.length z):=fun z=>by
  unfold mk; rw [if_pos ⟨by omega,by simp; omega,by omega⟩]; simp
 rw [hm]
 simp only [Option.bind_some,wT]
 rw [zCY x ?_ ?_ _ (by simp)]
 ·rfl
 ·intro ys i hi hl2
  unfold vS
  rw [if_pos (by simp; omega)]
  have hi2:w64 ((i:Int)+1)=((i+1:Nat):Int):=vP (by omega)
  simp only [vV hi,vV (show i<ys.length by omega),Option.bind_some,Int.toNat_natCast,hi2]
 ·intro ys _
  unfold vS
  rw [if_neg (by simp)]
theorem zCV (x:File) (hx:File.sm 1049600 x):uE x=some x:=by
 obtain ⟨h0,h1⟩:=hx
 unfold uE
 simp only [zC5 x.Data h1,Option.bind_some]
theorem zC1 (x:(List File)) (hx:x.length≤1049600∧∀y0∈x,File.sm 1049600 y0):wR x=some x:=by
 have hl:=hx.1
 unfold wR
 have hm:∀z:File,mk 40 (x.length:Int) z=some (List.replicate x.length z):=fun z=>by
  unfold mk; rw [if_pos ⟨by omega,by simp; omega,by omega⟩]; simp
 rw [hm]
 simp only [Option.bind_some,vH]
 rw [zCY x ?_ ?_ _ (by simp)]
 ·rfl
 ·intro ys i hi hl2
  unfold vR
  rw [if_pos (by simp; omega)]
  have hi2:w64 ((i:Int)+1)=((i+1:Nat):Int):=vP (by omega)
  simp only [vV hi,vV (show i<ys.length by omega),Option.bind_some,Int.toNat_natCast,hi2,zCV x[i] (hx.2 _ (List.getElem_mem hi))]
 ·intro ys _
  unfold vR
  rw [if_neg (by simp)]
theorem zDa (x:zA) (hx:zA.sm 1049600 x):yL x=some x:=by
 obtain ⟨h0,h1,h2,h3,h4⟩:=hx
 unfold yL
 simp only [zC1 x.Files h0,Option.bind_some]
theorem zBi (x:(List Int)) (hx:x.length≤1049600∧∀y0∈x,True):wQ x x=some true:=by
 have hl:=hx.1
 unfold wQ
 rw [if_neg (by simp)]
 unfold wS
 rw [zCT x.length ?_ ?_]
 ·rfl
 ·intro i hi
  unfold vT
  rw [if_pos (by simp; omega)]
  have hi2:w64 ((i:Int)+1)=((i+1:Nat):Int):=vP (by omega)
  simp [vV hi,hi2]
 ·unfold vT
  rw [if_neg (by simp)]
theorem zBD (x:File) (hx:File.sm 1049600 x):vX x x=some true:=by
 obtain ⟨h0,h1⟩:=hx
 unfold vX
 simp [zBi x.Data h1]
theorem zBe (x:(List File)) (hx:x.length≤1049600∧∀y0∈x,File.sm 1049600 y0):wZ x x=some true:=by
 have hl:=hx.1
 unfold wZ
 rw [if_neg (by simp)]
 unfold wV
 rw [zCT x.length ?_ ?_]
 ·rfl
 ·intro i hi
  unfold vU
  rw [if_pos (by simp; omega)]
  have hi2:w64 ((i:Int)+1)=((i+1:Nat):Int):=vP (by omega)
  simp [vV hi,hi2,zBD x[i] (hx.2 _ (List.getElem_mem hi))]
 ·unfold vU
  rw [if_neg (by simp)]
theorem kV (x:zA) (hx:zA.sm 1049600 x):wG x x=some true:=by
 obtain ⟨h0,h1,h2,h3,h4⟩:=hx
 unfold wG
 simp [zBe x.Files h0]
def zD.sm (B:Nat) (x:zD):Prop:=(True)∧(zA.sm B x.zA)
theorem kG (x:zD) (hx:zD.sm 1049600 x):zQ x x=some true:=by
 obtain ⟨h0,h1⟩:=hx
 unfold zQ
 simp [kV x.zA h1]
theorem zAt (a:Int):(b2s [a]).size =1:=rfl
theorem zAU {k:Int} (h0:0≤k) (h1:k≤9223372036854775807):∃s,yC k=some s:=by
 have key:∀(n:Nat) (k:Int) (s:ByteArray),0≤k→k<10^n→k≤9223372036854775807→s.size+n≤1000→∃t,loop vL (k,s)=some t∧t.size≤s.size+n:=by
  intro n
  induction n with
  |zero=>
   intro k s h0 h1 _ _
   have:k=0:=by simp at h1; omega
   subst this
   exact ⟨s,by rw [uM]; rfl,by omega⟩
  |succ n ih=>
   intro k s h0 h1 h2 h3
   by_cases hk:k>0
   ·rw [uM]
    unfold vL
    simp only
    rw [if_pos (by simpa using hk)]
    have hc:∀a:Int,cat (b2s [a]) s=some (b2s [a]++s):=fun a=>by
     unfold cat; rw [if_pos (by rw [zAt]; omega)]
    rw [hc]
    simp only [Option.bind_some,Lp.elim]
    have hd:k.tdiv 10=k / 10:=Int.tdiv_eq_ediv_of_nonneg h0
    rw [hd,uR (by omega) (by omega)]
    obtain ⟨t,g1,g2⟩:=ih (k / 10) (b2s [IntKind.u8.wrap (w64 (48+k.tmod 10))]++s) (by omega) (by rw [Int.pow_succ] at h1; omega) (by omega) (by rw [ByteArray.size_append,zAt]; omega)
    refine ⟨t,g1,?_⟩
    rw [ByteArray.size_append,zAt] at g2
    omega
   ·have:k=0:=by omega
    subst this
    exact ⟨s,by rw [uM]; rfl,by omega⟩
 unfold yC
 by_cases hk:k≤0
 ·rw [if_pos (by simpa using hk)]
  exact ⟨_,rfl⟩
 ·rw [if_neg (by simpa using hk)]
  obtain ⟨t,g1,g2⟩:=key 19 k (bs []) h0 (by omega) h1 (by decide)
  unfold wM
  rw [g1]
  simp only [Option.bind_some]
  have e0:(bs []).size =0:=rfl
  have e1:(bs [109]).size =1:=rfl
  unfold cat
  rw [if_pos (by omega)]
  exact ⟨_,rfl⟩
noncomputable def mT (k:Int):ByteArray:=(yC k).getD ByteArray.empty
theorem zAb {k:Int} (h0:0≤k) (h1:k≤9223372036854775807):yC k=some (mT k):=by
 obtain ⟨s,hs⟩:=zAU h0 h1
 unfold mT
 rw [hs]
 rfl
def zCz (_:Int) (k:Int):Int:=IntKind.u8.wrap k
theorem zAT (xs:List Int) (hx:xs.length≤1049600∧∀y0∈xs,True) (k:Int) (h0:0≤k) (h1:k+cs c1 xs≤9223372036854775807):xA xs k=some (k+cs c1 xs,pm zCz c1 xs k):=by
 unfold xA xP
 have key:=zAw zCz c1 (fun y0=>True) jB (b:=xE) ?_ ?_ xs [] k hx.2 h0 h1 (by have:=hx.1; simp; omega)
 ·simp only [List.nil_append,List.length_nil,Int.natCast_zero] at key
  rw [key]
  rfl
 ·intro l r x k hP h0 hk hl
  simp only [c1] at hk
  have w0:=uR (x:=k+1) (by omega) (by omega)
  have hi2:w64 ((l.length:Int)+1)=((l.length+1:Nat):Int):=vP (by omega)
  unfold xE
  rw [if_pos (by simp; omega)]
  simp only [jG,zCJ,Option.bind_some,Int.toNat_natCast,hi2,w0]
  rfl
 ·intro l k
  unfold xE
  rw [if_neg (by simp)]
theorem zBm (xs:List Int) (hx:xs.length≤1049600∧∀y0∈xs,True) (k:Int) (h0:0≤k) (h1:k+cs c1 xs≤9223372036854775807):xX (pm zCz c1 xs k) k=some (k+cs c1 xs):=by
 unfold xX xY
 have key:=zAl zCz c1 (fun y0=>True) jB (b:=xJ) ?_ ?_ xs [] k hx.2 h0 h1 (by have:=hx.1; simp; omega)
 ·simp only [List.nil_append,List.length_nil,Int.natCast_zero] at key
  rw [key]
  rfl
 ·intro l r x k hP h0 hk hl
  simp only [c1] at hk
  have w0:=uR (x:=k+1) (by omega) (by omega)
  have hi2:w64 ((l.length:Int)+1)=((l.length+1:Nat):Int):=vP (by omega)
  unfold xJ
  rw [if_pos (by simp; omega)]
  simp [jG,hi2,zCz,w0]
  all_goals (first|rfl|omega|(simp only [c1]; omega))
 ·intro l k
  unfold xJ
  rw [if_neg (by simp)]
noncomputable def mFile (x:File) (k:Int):File:=({Path:=mT (k),Data:=pm zCz c1 x.Data (k+1)}:File)
noncomputable def cFile (x:File):Int:=1+cs c1 x.Data
theorem wC (x:File):0≤cFile x:=by
 have n1:=wL jB x.Data
 unfold cFile
 omega
theorem zAM (xs:List File) (hx:xs.length≤1049600∧∀y0∈xs,File.sm 1049600 y0) (k:Int) (h0:0≤k) (h1:k+cs cFile xs≤9223372036854775807):xC xs k=some (k+cs cFile xs,pm mFile cFile xs k):=by
 unfold xC xQ
 have key:=zAw mFile cFile (fun y0=>File.sm 1049600 y0) wC (b:=xG) ?_ ?_ xs [] k hx.2 h0 h1 (by have:=hx.1; simp; omega)
 ·simp only [List.nil_append,List.length_nil,Int.natCast_zero] at key
  rw [key]
  rfl
 ·intro l r x k hP h0 hk hl
  simp only [cFile] at hk
  have n1:=wL jB x.Data
  have t0:=zAb (k:=k) (by omega) (by omega)
  have w0:=uR (x:=k+1) (by omega) (by omega)
  have t1:=zAT x.Data (hP.2) (k+1) (by omega) (by omega)
  have hi2:w64 ((l.length:Int)+1)=((l.length+1:Nat):Int):=vP (by omega)
  unfold xG
  rw [if_pos (by simp; omega)]
  simp only [jG,zCJ,Option.bind_some,Int.toNat_natCast,hi2,t0,w0,t1,zAW (tV _ _ _ _)]
  rw [show k+1+cs c1 x.Data=k+cFile x from by simp only [cFile]; omega]
  rfl
 ·intro l k
  unfold xG
  rw [if_neg (by simp)]
theorem zBn (xs:List File) (hx:xs.length≤1049600∧∀y0∈xs,File.sm 1049600 y0) (k:Int) (h0:0≤k) (h1:k+cs cFile xs≤9223372036854775807):xU (pm mFile cFile xs k) k=some (k+cs cFile xs):=by
 unfold xU xZ
 have key:=zAl mFile cFile (fun y0=>File.sm 1049600 y0) wC (b:=xO) ?_ ?_ xs [] k hx.2 h0 h1 (by have:=hx.1; simp; omega)
 ·simp only [List.nil_append,List.length_nil,Int.natCast_zero] at key
  rw [key]
  rfl
 ·intro l r x k hP h0 hk hl
  simp only [cFile] at hk
  have n1:=wL jB x.Data
  have t0:=zAb (k:=k) (by omega) (by omega)
  have w0:=uR (x:=k+1) (by omega) (by omega)
  have t1:=zBm x.Data (hP.2) (k+1) (by omega) (by omega)
  have z1:¬(k+1+cs c1 x.Data<0):=by omega
  have hi2:w64 ((l.length:Int)+1)=((l.length+1:Nat):Int):=vP (by omega)
  unfold xO
  rw [if_pos (by simp; omega)]
  simp [jG,hi2,mFile,t0,w0,t1,z1]
  all_goals (first|rfl|omega|(simp only [cFile]; omega))
 ·intro l k
  unfold xO
  rw [if_neg (by simp)]
theorem kJ (x:zA) (hP:zA.sm 1049600 x) (k:Int) (h0:0≤k) (h1:k+cs cFile x.Files≤9223372036854775807):yN x k=some (k+cs cFile x.Files,pm mFile cFile x.Files (k)):=by
 have n0:=wL wC x.Files
 have t0:=zAM x.Files (hP.1) (k) (by omega) (by omega)
 unfold yN
 simp only [t0,Option.bind_some,zAW (tV _ _ _ _)]
theorem zB4 (x:zA) (hP:zA.sm 1049600 x) (k:Int) (h0:0≤k) (h1:k+cs cFile x.Files≤9223372036854775807):wD ({Files:=pm mFile cFile x.Files (k),Budget:=x.Budget,Writes:=x.Writes,Stop:=x.Stop,Down:=x.Down}:zA) k=some (k+cs cFile x.Files):=by
 have n0:=wL wC x.Files
 have t0:=zBn x.Files (hP.1) (k) (by omega) (by omega)
 have z0:¬(k+cs cFile x.Files<0):=by omega
 unfold wD
 simp [t0]
 all_goals (first|rfl|omega)
theorem jX (x:zD) (hP:zD.sm 1049600 x) (k:Int) (h0:0≤k) (h1:k+cs cFile x.zA.Files≤9223372036854775807):zV x k=some (k+cs cFile x.zA.Files,pm mFile cFile x.zA.Files (k)):=by
 have n0:=wL wC x.zA.Files
 have t0:=kJ x.zA (hP.2) (k) (by omega) (by omega)
 unfold zV
 simp only [t0,Option.bind_some,zAW (tV _ _ _ _)]
theorem kD (x:zD) (hP:zD.sm 1049600 x) (k:Int) (h0:0≤k) (h1:k+cs cFile x.zA.Files≤9223372036854775807):zR ({Code:=x.Code,zA:=({Files:=pm mFile cFile x.zA.Files (k),Budget:=x.zA.Budget,Writes:=x.zA.Writes,Stop:=x.zA.Stop,Down:=x.zA.Down}:zA)}:zD) k=some (k+cs cFile x.zA.Files):=by
 have n0:=wL wC x.zA.Files
 have t0:=zB4 x.zA (hP.2) (k) (by omega) (by omega)
 have z0:¬(k+cs cFile x.zA.Files<0):=by omega
 unfold zR
 simp [t0]
 all_goals (first|rfl|omega)
theorem File.zAK {x:File} (h:File.sm 1048576 x):File.sm 1049600 x:=⟨(Nat.le_trans h.1 (by decide)),⟨Nat.le_trans h.2.1 (by decide),fun y0 z0=>trivial⟩⟩
theorem zA.zAK {x:zA} (h:zA.sm 1048576 x):zA.sm 1049600 x:=⟨⟨Nat.le_trans h.1.1 (by decide),fun y0 z0=>(File.zAK (h.1.2 y0 z0))⟩,trivial,trivial,trivial,trivial⟩
theorem zCt (x:(List Int)) (hx:x.length≤1049600∧∀y0∈x,True):cs c1 x≤1049600:=by
 have:=zEp (c:=c1) (C:=1) (N:=1049600) (by decide) x (fun a _=>by unfold c1; decide) hx.1
 omega
theorem zAD (x:(List File)) (hx:x.length≤1049600∧∀y0∈x,File.sm 1049600 y0):cs cFile x≤1101661209600:=by
 have:=zEp (c:=cFile) (C:=1049601) (N:=1049600) (by decide) x (fun a ha=>by have hP:=hx.2 a ha; have q1:=zCt a.Data (hP.2); unfold cFile; omega) hx.1
 omega
theorem jJ (a1:zA) (a2:ByteArray) (k0:zA.ok a1) (k1:a2.size≤maxLen) (both:(zA.sm 1048576 a1)→(a2.size≤1048576)→∃r,xL a1 a2=some r∧yO a1 a2=some r∧(zD.sm 1049600 r)):zU a1 a2=some true:=by
 unfold zU
 by_cases d1:(a2.size:Int)>1048576
 ·rw [if_pos (by simpa using d1)]
 rw [if_neg (by simpa using d1)]
 have s_a2:a2.size≤1048576:=by omega
 obtain ⟨r2,e2,g2⟩:=zDi a1 k0 1048576 (by omega) (by omega)
 rw [e2]
 simp only [Option.bind_some]
 by_cases d2:r2<0
 ·rw [if_pos (by simpa using d2)]
 rw [if_neg (by simpa using d2)]
 obtain ⟨p2,q2,s_a1⟩:=g2.resolve_left d2
 obtain ⟨r,e1,e2,hr⟩:=both s_a1 s_a2
 have m_a1:zA.sm 1049600 a1:=(zA.zAK s_a1)
 have m_a2:a2.size≤1049600:=(Nat.le_trans s_a2 (by decide))
 have n1:=wL wC a1.Files
 have b1:=zAD a1.Files (m_a1.1)
 have n3:=wL wC r.zA.Files
 have b3:=zAD r.zA.Files (hr.2.1)
 have t2:=kJ a1 m_a1 (1) (by omega) (by omega)
 have z1:¬(1+cs cFile a1.Files<0):=by omega
 have t4:=jX r hr 1 (by omega) (by omega)
 have u4:=kD r hr 1 (by omega) (by omega)
 have z2:¬(1+cs cFile r.zA.Files<0):=by omega
 simp [e1,e2,zDa a1 m_a1,kV a1 m_a1,kG r hr,t2,z1,t4,u4,z2,zAW (tV _ _ _ _)]
def bl (s:ByteArray):List Int:=s.toList.map (fun b=>(b.toNat:Int))
theorem zAe (s:ByteArray):(bl s).length =s.size:=by
 unfold bl
 rw [List.length_map,ByteArray.toList_eq]
 rfl
theorem zDA {s:ByteArray} {i:Nat} (h:i< (bl s).length):bidx s (i:Int)=some (bl s)[i]:=by
 unfold bidx
 rw [if_pos (by omega)]
 have hs:i<s.size:=by rw [zAe] at h; exact h
 have e:s[(i:Int).toNat]? =some s[i]:=by simp [hs]
 rw [e]
 simp only [Option.map_some,bl,List.getElem_map]
 congr 2
 simp only [ByteArray.toList_eq]
 rfl
theorem zAc:∀(a:List UInt8),Op.bytesLess a a=false
 |[]=>rfl
 |x::a=>by simp [Op.bytesLess,zAc a]
theorem zAG:∀{a b c:List UInt8},Op.bytesLess a b=true→Op.bytesLess b c=true→Op.bytesLess a c=true
 |_,[],_,h,_=>by simp [Op.bytesLess] at h
 |_,_::_,[],_,h=>by simp [Op.bytesLess] at h
 |[],_::_,_::_,_,_=>by simp [Op.bytesLess]
 |x::a,y::b,z::c,h1,h2=>by
  simp only [Op.bytesLess,Bool.or_eq_true,decide_eq_true_eq,Bool.and_eq_true,beq_iff_eq] at h1 h2 ⊢
  rcases h1 with h1|⟨rfl,h1⟩
  ·rcases h2 with h2|⟨rfl,h2⟩
   ·exact .inl (UInt8.lt_trans h1 h2)
   ·exact .inl h1
  ·rcases h2 with h2|⟨rfl,h2⟩
   ·exact .inl h2
   ·exact .inr ⟨rfl,zAG h1 h2⟩
theorem zCc:∀(a b:List UInt8),Op.bytesLess a b=false→a≠b→Op.bytesLess b a=true
 |[],[],_,h=>absurd rfl h
 |[],_::_,h,_=>by simp [Op.bytesLess] at h
 |_::_,[],_,_=>by simp [Op.bytesLess]
 |x::a,y::b,h,hne=>by
  simp only [Op.bytesLess,Bool.or_eq_false_iff,decide_eq_false_iff_not,Bool.and_eq_false_iff,beq_eq_false_iff_ne] at h
  simp only [Op.bytesLess,Bool.or_eq_true,decide_eq_true_eq,Bool.and_eq_true,beq_iff_eq]
  by_cases hxy:x=y
  ·subst hxy
   refine .inr ⟨rfl,zCc a b ?_ (fun e=>hne (by rw [e]))⟩
   rcases h.2 with h'|h'
   ·exact absurd rfl h'
   ·exact h'
  ·refine .inl ?_
   have:=h.1
   rw [UInt8.lt_iff_toNat_lt] at this ⊢
   have:x.toNat≠y.toNat:=fun e=>hxy (UInt8.toNat_inj.1 e)
   omega
theorem toList_inj {a b:ByteArray} (h:a.toList=b.toList):a=b:=by
 rw [ByteArray.toList_eq,ByteArray.toList_eq] at h
 cases a; cases b
 simp at h
 rw [h]
theorem jH (a:ByteArray):slt a a=false:=zAc _
theorem zAf {a b c:ByteArray} (h1:slt a b=true) (h2:slt b c=true):slt a c=true:=zAG h1 h2
theorem zE0 {a b:ByteArray} (h:slt a b=false) (hne:a≠b):slt b a=true:=zCc _ _ h (fun e=>hne (toList_inj e))
theorem zCG {a b:ByteArray}:seq a b=true↔a=b:=by
 unfold seq
 simp only [beq_iff_eq]
 exact ⟨toList_inj,fun e=>by rw [e]⟩
theorem zFs (a b c:Int):xK a b c=some (decide (a≥b)&&decide (a≤c)):=by
 unfold xK
 cases decide (a≥b)<;>rfl
section del
variable {α:Type} (p:α→Bool)
theorem zEv {xs:List α} {l h:Nat} (h1:l≤h) (h2:h≤xs.length):zCO xs (l:Int) (h:Int)=some ((xs.drop l).take (h-l)):=by
 unfold zCO
 rw [if_pos (by omega)]
 rfl
end del
def zBC (c:Int):Bool:=(decide (c≥97)&&decide (c≤122))||(decide (c≥48)&&decide (c≤57))||c==95
def zB9 (c:Int):Bool:=zBC c||c==46||c==45||c==47
theorem zA1 (c:Int):xV c=some (zBC c):=by
 unfold xV xM wX zBC
 cases decide (c≥97)<;>cases decide (c≤122)<;>cases decide (c≥48)<;>cases decide (c≤57)<;>rfl
theorem jL (c:Int):vY c=some (zB9 c):=by
 unfold vY zB9
 rw [zA1]
 cases zBC c<;>cases (c==46)<;>cases (c==45)<;>cases (c==47)<;>rfl
theorem jW (c:Int):zW c=some (zBC c):=by
 unfold zW zBC
 cases decide (c≥97)<;>cases decide (c≤122)<;>cases decide (c≥48)<;>cases decide (c≤57)<;>rfl
theorem zBo (s:ByteArray):xW s=zY s:=by
 unfold xW zY
 have:yY s=yJ s:=by
  unfold yY yJ
  refine kI fun i=>?_
  unfold uH yR
  split
  ·congr 1
   funext c
   rw [jL,jW]
   unfold zB9
   simp only [bne]
   cases zBC c<;>cases (c==46)<;>cases (c==45)<;>cases (c==47)<;>rfl
  ·rfl
 rw [this]
def zAk (s:ByteArray):Prop:=1≤s.size∧s.size≤40∧∀c∈bl s,zB9 c=true
theorem zA5 (s:ByteArray):(zAk s∧zY s=some 0)∨(¬zAk s∧zY s=some 5):=by
 unfold zY
 by_cases h1:s.size<1
 ·refine .inr ⟨fun h=>by have:=h.1; omega,?_⟩
  rw [if_pos (by simp; omega)]; rfl
 ·rw [if_neg (by simp; omega)]
  simp only [Option.bind_some]
  by_cases h2:s.size>40
  ·refine .inr ⟨fun h=>by have:=h.2.1; omega,?_⟩
   rw [if_pos (by simp; omega)]
  ·rw [if_neg (by simp; omega)]
   obtain ⟨t,e,h⟩:=tN (b:=yR s) (fun i j=>j=(i:Int)∧∀k,(hk:k< (bl s).length)→k<i→zB9 (bl s)[k]=true) (bl s).length (fun t=>match t with| .ret r=>r=5∧¬zAk s| .nxt _=>∀c∈bl s,zB9 c=true) (by
    rintro i j hi ⟨rfl,hp⟩
    have hs:=zAe s
    unfold yR
    rw [if_pos (by simp; omega),zDA hi]
    simp only [Option.bind_some,jL]
    cases hb:zB9 (bl s)[i] with
    |false=>exact .inr ⟨_,rfl,rfl,fun h=>by have:=h.2.2 _ (List.getElem_mem hi); rw [hb] at this; cases this⟩
    |true=>
     rw [vP (by omega)]
     refine .inl ⟨_,rfl,rfl,fun k hk hki=>?_⟩
     rcases Nat.lt_or_ge k i with h|h
     ·exact hp k hk h
     ·have:k=i:=by omega
      subst this; exact hb) (by
    rintro j ⟨rfl,hp⟩
    unfold yR
    rw [if_neg (by simp [zAe])]
    refine ⟨_,rfl,fun c hc=>?_⟩
    obtain ⟨k,hk,rfl⟩:=List.getElem_of_mem hc
    exact hp k hk hk) (bl s).length 0 0 (by omega) ⟨rfl,fun k _ h=>by omega⟩
   simp only [yJ,e,Option.bind_some]
   cases t with
   |ret r=>
    obtain ⟨rfl,h⟩:=h
    exact .inr ⟨h,rfl⟩
   |nxt u=>exact .inl ⟨⟨by omega,by omega,h⟩,rfl⟩
theorem zA4 (s:ByteArray):∃r,zY s=some r∧(r=0↔zAk s):=by
 rcases zA5 s with ⟨h1,h2⟩|⟨h1,h2⟩
 ·exact ⟨0,h2,by simp [h1]⟩
 ·exact ⟨5,h2,by simp [h1]⟩
def total (fs:List File):Int:=match fs with
 |[]=>0
 |f::fs=>f.Data.length+total fs
theorem tY:∀(l r:List File),total (l++r)=total l+total r
 |[],r=>by simp [total]
 |f::l,r=>by simp only [List.cons_append,total,tY l r]; omega
theorem tZ:∀(l:List File),0≤total l
 |[]=>Int.le_refl _
 |f::l=>by have:=tZ l; simp only [total]; omega
theorem zBQ:∀(l:List File) (C:Int),0≤C→(∀f∈l,(f.Data.length:Int)≤C)→total l≤l.length*C
 |[],C,_,_=>by simp [total]
 |f::l,C,hC,h=>by
  have h1:=h f (by simp)
  have h2:=zBQ l C hC (fun g hg=>h g (by simp [hg]))
  simp only [total,List.length_cons,Int.natCast_add,Int.add_mul]
  omega
theorem zC9 (d:zA) (h:d.Files.length≤1048576) (hf:∀f∈d.Files,f.Data.length≤1048576):vE d=some (total d.Files):=by
 have htot:=zBQ d.Files 1048576 (by omega) (fun f hm=>by have:=hf f hm; omega)
 have hb:((d.Files.length:Int))*1048576≤1048576*1048576:=Int.mul_le_mul_of_nonneg_right (by omega) (by omega)
 obtain ⟨t,e,rfl⟩:=tN (b:=wN d) (fun i s=>s=(total (d.Files.take i),(i:Int))) d.Files.length (fun t=>t=total d.Files) (by
  rintro i s hi rfl
  unfold wN
  rw [if_pos (by simp; omega)]
  have hsplit:total (d.Files.take (i+1))=total (d.Files.take i)+d.Files[i].Data.length :=by
   rw [List.take_succ_eq_append_getElem hi,tY]
   simp [total]
  have hle:total d.Files=total (d.Files.take (i+1))+total (d.Files.drop (i+1)):=by rw [←tY,List.take_append_drop]
  have h1:=tZ (d.Files.take i)
  have h2:=tZ (d.Files.drop (i+1))
  simp only [vV hi,Option.bind_some]
  rw [uR (by omega) (by omega),vP (by omega)]
  exact .inl ⟨_,rfl,by rw [hsplit]⟩) (by
  rintro s rfl
  unfold wN
  rw [if_neg (by simp)]
  exact ⟨_,rfl,by simp⟩) d.Files.length 0 (0,0) (by omega) (by simp [total])
 simp only [vE,wW,e,Option.bind_some]
structure zA.good (d:zA):Prop where
 b0:0≤d.Budget
 b1:d.Budget≤20000
 w0:0≤d.Writes
 w1:d.Writes≤1000000000
 s0: -1≤d.Stop
 s1:d.Stop≤1000000000
 len:d.Files.length≤120
 path:∀f∈d.Files,zAk f.Path
 data:∀f∈d.Files,f.Data.length≤4000
 sorted:d.Files.Pairwise (fun f g=>slt f.Path g.Path=true)
 room:total d.Files≤d.Budget
theorem zA2 (d:zA):xR d=yM d:=by
 unfold xR yM
 have:yX d=yI d:=by
  unfold yX yI
  refine kI fun i=>?_
  unfold uI yS
  split
  ·cases hx:idx d.Files i with
   |none=>rfl
   |some x=>simp only [Option.bind_some,zBo]
  ·rfl
 rw [this]
 rfl
theorem zDd {xs:List File} (h:∀i,(hi:i+1<xs.length)→slt xs[i].Path xs[i+1].Path =true):xs.Pairwise (fun f g=>slt f.Path g.Path=true):=by
 induction xs with
 |nil=>exact .nil
 |cons x xs ih=>
  have h':∀i,(hi:i+1<xs.length)→slt xs[i].Path xs[i+1].Path =true:=fun i hi=>h (i+1) (by simp; omega)
  have ih':=ih h'
  refine .cons ?_ ih'
  cases xs with
  |nil=>simp
  |cons y ys=>
   have hxy:slt x.Path y.Path=true:=by simpa using h 0 (by simp)
   intro z hz
   rcases List.mem_cons.1 hz with rfl|hz
   ·exact hxy
   ·exact zAf hxy ((List.pairwise_cons.1 ih').1 z hz)
theorem zAx (d:zA) (h:d.Files.length≤1048576):∃c,yM d=some c∧(c=0→d.good):=by
 unfold yM
 simp only [zFs,Option.bind_some]
 by_cases hB:0≤d.Budget∧d.Budget≤20000
 ·by_cases hW:0≤d.Writes∧d.Writes≤1000000000
  ·by_cases hS: -1≤d.Stop∧d.Stop≤1000000000
   ·simp [hB.1,hB.2,hW.1,hW.2,hS.1,hS.2]
    by_cases hl:120<d.Files.length
    ·rw [if_pos (by omega)]
     exact ⟨2,rfl,by simp⟩
    ·rw [if_neg (by omega)]
     obtain ⟨t,e,ht⟩:=tN (b:=yS d) (fun i s=>s=(i:Int)∧(∀j,(hj:j<d.Files.length)→j<i→zAk d.Files[j].Path ∧d.Files[j].Data.length ≤4000)∧∀j,(hj:j+1<d.Files.length)→j+1<i→slt d.Files[j].Path d.Files[j+1].Path =true) d.Files.length
      (fun t=>match t with| .ret r=>r≠0| .nxt _=>(∀f∈d.Files,zAk f.Path∧f.Data.length≤4000)∧d.Files.Pairwise (fun f g=>slt f.Path g.Path=true)) (by
      rintro i s hi ⟨rfl,h1,h2⟩
      unfold yS
      rw [if_pos (by simp; omega)]
      obtain ⟨r,hr,hr2⟩:=zA4 d.Files[i].Path
      simp only [vV hi,Option.bind_some,hr]
      by_cases hr0:r=0
      ·subst hr0
       rw [if_neg (by simp)]
       have key:∃q,(if decide ((i:Int)>0) then (idx d.Files (w64 ((i:Int)-1))).bind fun x39=>some (slt d.Files[i].Path x39.Path||seq d.Files[i].Path x39.Path) else some false)=some q∧(q=false→∀j,(hj:j+1<d.Files.length)→j+1<i+1→slt d.Files[j].Path d.Files[j+1].Path =true):=by
        by_cases hp:i=0
        ·subst hp
         exact ⟨false,by simp,fun _ j hj hji=>by omega⟩
        ·rw [if_pos (by simp; omega),uR (by omega) (by omega),show ((i:Int)-1)=((i-1:Nat):Int) by omega,vV (show i-1<d.Files.length by omega)]
         refine ⟨_,rfl,fun hq j hj hji=>?_⟩
         rcases Nat.lt_or_ge (j+1) i with hlt|hge
         ·exact h2 j hj hlt
         ·have hj1:j+1=i:=by omega
          subst hj1
          simp only [Bool.or_eq_false_iff] at hq
          have hq1:=hq.1
          have hq2:d.Files[j+1].Path ≠d.Files[j].Path :=fun e=>by
           have:=hq.2
           simp only [Nat.add_sub_cancel] at this
           rw [e] at this
           simp at this
          simp only [Nat.add_sub_cancel] at hq1
          exact zE0 hq1 hq2
       obtain ⟨q,hq,hq2⟩:=key
       rw [hq]
       simp only [Option.bind_some]
       cases q with
       |true=>exact .inr ⟨_,rfl,by simp⟩
       |false=>
        by_cases hd:(d.Files[i].Data.length :Int)>4000
        ·exact .inr ⟨.ret 2,by rw [if_neg (by simp),if_pos (by simpa using hd)],by simp⟩
        ·refine .inl ⟨((i+1:Nat):Int),?_,rfl,fun j hj hji=>?_,hq2 rfl⟩
         ·rw [if_neg (by simp),if_neg (by simpa using hd),vP (by omega)]
         ·rcases Nat.lt_or_ge j i with h'|h'
          ·exact h1 j hj h'
          ·have:j=i:=by omega
           subst this
           exact ⟨hr2.1 rfl,by omega⟩
      ·rw [if_pos (by simpa using hr0)]
       exact .inr ⟨_,rfl,hr0⟩) (by
      rintro s ⟨rfl,h1,h2⟩
      unfold yS
      rw [if_neg (by simp)]
      refine ⟨_,rfl,fun f hf=>?_,zDd (fun i hi=>h2 i hi hi)⟩
      obtain ⟨j,hj,rfl⟩:=List.getElem_of_mem hf
      exact h1 j hj hj) d.Files.length 0 0 (by omega) ⟨rfl,fun j _ h=>by omega,fun j _ h=>by omega⟩
     simp only [yI,e,Option.bind_some]
     cases t with
     |ret r=>exact ⟨r,rfl,fun h=>absurd h ht⟩
     |nxt u=>
      simp only [Fl.go]
      rw [zC9 d h (fun f hf=>by have:=(ht.1 f hf).2; omega)]
      simp only [Option.bind_some]
      by_cases hr:d.Budget<total d.Files
      ·rw [if_pos hr]
       exact ⟨8,rfl,by simp⟩
      ·rw [if_neg hr]
       exact ⟨0,rfl,fun _=>⟨hB.1,hB.2,hW.1,hW.2,hS.1,hS.2,by omega,fun f hf=>(ht.1 f hf).1,fun f hf=>(ht.1 f hf).2,ht.2,by omega⟩⟩
   ·refine ⟨3,?_,by simp⟩
    simp [hB.1,hB.2,hW.1,hW.2]
    intro a b
    exact absurd ⟨a,b⟩ hS
  ·refine ⟨3,?_,by simp⟩
   simp [hB.1,hB.2]
   rw [if_pos (by omega)]
   rfl
 ·refine ⟨3,?_,by simp⟩
  rw [if_pos (by simp; omega)]
  rfl
def zA.fits (d:zA):Prop:=d.Files.length≤1048576∧∀f∈d.Files,f.Data.length≤1048576
theorem zA.zCR {d:zA} (h:zA.sm 1048576 d):d.fits:=⟨h.1.1,fun f hf=>(h.1.2 f hf).2.1⟩
theorem zB0 (d:zA) (h:d.fits):wH d=some d:=by
 obtain ⟨h1,h2⟩:=h
 obtain ⟨t,e,rfl⟩:=tN (b:=wB d) (fun i s=>s=(d.Files.take i,(i:Int))) d.Files.length (fun t=>t=d.Files) (by
  rintro i s hi rfl
  have hl:(d.Files.take i).length =i:=by simp; omega
  have hd:=h2 _ (List.getElem_mem hi)
  have ha:app 1 ([]:List Int) d.Files[i].Data =some d.Files[i].Data :=zBV (by simp; omega) (by simp; omega)
  have hb:∀f:File,app 40 (d.Files.take i) [f]=some (d.Files.take i++[f]):=fun f=>zBV (by simp; omega) (by simp; omega)
  unfold wB
  rw [if_pos (by simp; omega)]
  simp only [vV hi,Option.bind_some,ha,hb,vP (show i<9223372036854775807 by omega)]
  exact .inl ⟨_,rfl,by rw [List.take_succ_eq_append_getElem hi]⟩) (by
  rintro s rfl
  unfold wB
  rw [if_neg (by simp)]
  exact ⟨_,rfl,by simp⟩) d.Files.length 0 ([],0) (by omega) (by simp)
 simp only [wH,xS,e,Option.bind_some]
theorem zCl (d:zA):yG d=wH d:=by
 have:yK d=xS d:=by
  unfold yK xS
  refine kI fun s=>?_
  unfold vN wB yQ
  split
  ·cases h:idx d.Files s.2 with
   |none=>rfl
   |some x=>
    simp only [Option.bind_some]
    cases h2:app 1 ([]:List Int) x.Data<;>rfl
  ·rfl
 unfold yG wH
 rw [this]
theorem zCP (d:zA) (h:d.fits):yG d=some d:=by rw [zCl,zB0 d h]
def zD5 (c:Int):zD:= {Code:=c,zA:= {Files:=[],Budget:=0,Writes:=0,Stop:=0,Down:=false}}
theorem zDE (c:Int):zD.sm 1049600 (zD5 c):=by simp [zD.sm,zA.sm,zD5]
theorem zAS:∀(a b:List UInt8),(Lib.compareBytes a b<0↔Op.bytesLess a b=true)∧(Lib.compareBytes a b=0↔a=b)
 |[],[]=>by simp [Lib.compareBytes,Op.bytesLess]
 |[],_::_=>by simp [Lib.compareBytes,Op.bytesLess]
 |_::_,[]=>by simp [Lib.compareBytes,Op.bytesLess]
 |x::a,y::b=>by
  obtain ⟨ih1,ih2⟩:=zAS a b
  simp only [Lib.compareBytes,Op.bytesLess]
  by_cases h1:x<y
  ·simp [h1]
   intro e; subst e; exact absurd h1 (by simp [UInt8.lt_irrefl])
  ·by_cases h2:y<x
   ·simp [h1,h2]
    have hne:x≠y:=fun e=>by subst e; exact absurd h2 (by simp [UInt8.lt_irrefl])
    simp [hne]
   ·have e:x=y:=by
     rw [UInt8.lt_iff_toNat_lt] at h1 h2
     exact UInt8.toNat_inj.1 (by omega)
    subst e
    simp [UInt8.lt_irrefl,ih1,ih2]
theorem zCQ (a b:ByteArray):zDN a b<0↔slt a b=true:=by
 unfold zDN slt
 rw [ByteArray.toList_eq,ByteArray.toList_eq]
 exact (zAS _ _).1
theorem zDn (a b:ByteArray):zDN a b=0↔a=b:=by
 unfold zDN
 rw [(zAS _ _).2,←ByteArray.toList_eq,←ByteArray.toList_eq]
 exact ⟨toList_inj,fun e=>by rw [e]⟩
theorem zEy {i j:Int} (h0:0≤i) (h1:i≤j) (h2:j≤4611686018427387903):w64 ((IntKind.u64.wrap (w64 (i+j))).fdiv (2^(min (1:Int).toNat 64)))=(i+j) / 2:=by
 rw [uR (x:=i+j) (by omega) (by omega)]
 have e1:IntKind.u64.wrap (i+j)=i+j:=by
  simp only [IntKind.wrap,IntKind.signed,IntKind.bits]
  simp
  omega
 rw [e1]
 have e2:((2:Int)^(min (1:Int).toNat 64))=2:=by decide
 rw [e2,Int.fdiv_eq_ediv_of_nonneg _ (by omega)]
 exact uR (by omega) (by omega)
theorem zAC (f:File) (p:ByteArray):yA f p=some (zDN f.Path p):=rfl
theorem zCj (fs:List File) (p:ByteArray) (h:fs.length≤1048576):
  ∃(k:Nat) (b:Bool),zB fs p=some ((k:Int),b)∧k≤fs.length∧(b=true→∃hk:k<fs.length,fs[k].Path =p)∧
   (fs.Pairwise (fun f g=>slt f.Path g.Path=true)→(∀i,(hi:i<fs.length)→i<k→slt fs[i].Path p=true)∧(∀i,(hi:i<fs.length)→k≤i→slt fs[i].Path p=false)∧(b=false→∀f∈fs,f.Path≠p)):=by
 obtain ⟨t,e,k,rfl,hk,hs⟩:=zBx (b:=zK fs p)
  (fun s=>∃i j:Nat,s=((i:Int),(j:Int))∧i≤j∧j≤fs.length∧(fs.Pairwise (fun f g=>slt f.Path g.Path=true)→(∀q,(hq:q<fs.length)→q<i→slt fs[q].Path p=true)∧(∀q,(hq:q<fs.length)→j≤q→slt fs[q].Path p=false)))
  (fun s=>(s.2-s.1).toNat)
  (fun t=>∃k:Nat,t=(k:Int)∧k≤fs.length∧(fs.Pairwise (fun f g=>slt f.Path g.Path=true)→(∀q,(hq:q<fs.length)→q<k→slt fs[q].Path p=true)∧(∀q,(hq:q<fs.length)→k≤q→slt fs[q].Path p=false))) (by
  rintro s ⟨i,j,rfl,hij,hj,hP⟩
  unfold zK
  by_cases hlt:i<j
  ·left
   rw [if_pos (by simp; omega)]
   simp only
   rw [zEy (by omega) (by omega) (by omega)]
   have hm:(((i:Int)+(j:Int)) / 2)=(((i+j) / 2:Nat):Int):=by omega
   rw [hm]
   have hmj:(i+j) / 2<j:=by omega
   have him:i≤(i+j) / 2:=by omega
   generalize (i+j) / 2=m at*
   have hmn:m<fs.length:=by omega
   simp only [vV hmn,Option.bind_some,zAC]
   by_cases hc:zDN fs[m].Path p<0
   ·rw [if_pos (by simpa using hc),vP (by omega)]
    refine ⟨_,rfl,⟨m+1,j,rfl,by omega,hj,fun hso=>?_⟩,by simp; omega⟩
    obtain ⟨g1,g2⟩:=hP hso
    refine ⟨fun q hq hqm=>?_,g2⟩
    have hl:=(zCQ _ _).1 hc
    rcases Nat.lt_or_ge q m with h'|h'
    ·exact zAf (List.pairwise_iff_getElem.1 hso q m hq hmn h') hl
    ·have:q=m:=by omega
     subst this; exact hl
   ·rw [if_neg (by simpa using hc)]
    refine ⟨_,rfl,⟨i,m,rfl,by omega,by omega,fun hso=>?_⟩,by simp; omega⟩
    obtain ⟨g1,g2⟩:=hP hso
    refine ⟨g1,fun q hq hmq=>?_⟩
    have hl:slt fs[m].Path p=false:=by
     cases h':slt fs[m].Path p with
     |false=>rfl
     |true=>exact absurd ((zCQ _ _).2 h') hc
    rcases Nat.lt_or_ge m q with h'|h'
    ·cases hq2:slt fs[q].Path p with
     |false=>rfl
     |true=>
      have:=zAf (List.pairwise_iff_getElem.1 hso m q hmn hq h') hq2
      rw [hl] at this; cases this
    ·have:q=m:=by omega
     subst this; exact hl
  ·right
   rw [if_neg (by simp; omega)]
   have:i=j:=by omega
   subst this
   exact ⟨_,rfl,i,rfl,by omega,hP⟩) fs.length (0,(fs.length:Int)) (by simp) ⟨0,fs.length,rfl,by omega,by omega,fun _=>⟨fun q _ h=>by omega,fun q hq h=>by omega⟩⟩
 unfold zB
 rw [show zH fs p (0,(fs.length:Int))=some (k:Int) from e]
 simp only [Option.bind_some]
 by_cases hkn:k<fs.length
 ·rw [if_pos (by simpa using hkn)]
  simp only [vV hkn,Option.bind_some,zAC]
  refine ⟨k,_,rfl,hk,fun hb=>⟨hkn,(zDn _ _).1 (by simpa using hb)⟩,fun hso=>⟨(hs hso).1,(hs hso).2,fun hb f hf hfp=>?_⟩⟩
  have hne:zDN fs[k].Path p≠0:=by simpa using hb
  obtain ⟨q,hq,rfl⟩:=List.getElem_of_mem hf
  rcases Nat.lt_trichotomy q k with h'|h'|h'
  ·have:=(hs hso).1 q hq h'
   rw [hfp,jH] at this; cases this
  ·subst h'; exact hne ((zDn _ _).2 hfp)
  ·have h1:=List.pairwise_iff_getElem.1 hso k q hkn hq h'
   have h2:=(hs hso).2 k hkn (Nat.le_refl _)
   rw [hfp] at h1
   rw [h1] at h2; cases h2
 ·rw [if_neg (by simpa using hkn)]
  refine ⟨k,false,rfl,hk,(fun hb=>by cases hb),fun hso=>⟨(hs hso).1,(hs hso).2,fun _ f hf hfp=>?_⟩⟩
  obtain ⟨q,hq,rfl⟩:=List.getElem_of_mem hf
  have:=(hs hso).1 q hq (by omega)
  rw [hfp,jH] at this; cases this
theorem zBF (d:zA) (p:ByteArray) (h:d.Files.length≤1048576):
  (∃k:Nat,∃hk:k<d.Files.length,xB d p=some (k:Int)∧d.Files[k].Path =p)∨(xB d p=some (-1)∧∀f∈d.Files,f.Path≠p):=by
 obtain ⟨t,e,ht⟩:=tN (b:=vD d p) (fun i s=>s=(i:Int)∧∀q,(hq:q<d.Files.length)→q<i→d.Files[q].Path ≠p) d.Files.length
  (fun t=>match t with| .ret r=>∃k:Nat,∃hk:k<d.Files.length,r=(k:Int)∧d.Files[k].Path =p| .nxt _=>∀f∈d.Files,f.Path≠p) (by
  rintro i s hi ⟨rfl,hq⟩
  unfold vD
  rw [if_pos (by simp; omega)]
  simp only [vV hi,Option.bind_some]
  by_cases hp:d.Files[i].Path =p
  ·rw [if_pos (zCG.2 hp)]
   exact .inr ⟨_,rfl,i,hi,rfl,hp⟩
  ·rw [if_neg (fun h'=>hp (zCG.1 h')),vP (by omega)]
   refine .inl ⟨_,rfl,rfl,fun q hq' hqi=>?_⟩
   rcases Nat.lt_or_ge q i with h'|h'
   ·exact hq q hq' h'
   ·have:q=i:=by omega
    subst this; exact hp) (by
  rintro s ⟨rfl,hq⟩
  unfold vD
  rw [if_neg (by simp)]
  refine ⟨_,rfl,fun f hf=>?_⟩
  obtain ⟨q,hq',rfl⟩:=List.getElem_of_mem hf
  exact hq q hq' hq') d.Files.length 0 0 (by omega) ⟨rfl,fun q _ h=>by omega⟩
 unfold xB
 rw [show uZ d p 0=some t from e]
 cases t with
 |ret r=>
  obtain ⟨k,hk,rfl,hp⟩:=ht
  exact .inl ⟨k,hk,rfl,hp⟩
 |nxt _=>exact .inr ⟨rfl,ht⟩
theorem zC4 {fs:List File} (hs:fs.Pairwise (fun f g=>slt f.Path g.Path=true)) {i j:Nat} (hi:i<fs.length) (hj:j<fs.length) (h:fs[i].Path =fs[j].Path):i=j:=by
 rcases Nat.lt_trichotomy i j with h'|h'|h'
 ·have:=List.pairwise_iff_getElem.1 hs i j hi hj h'
  rw [h,jH] at this; cases this
 ·exact h'
 ·have:=List.pairwise_iff_getElem.1 hs j i hj hi h'
  rw [h,jH] at this; cases this
theorem zA9 (d:zA) (p:ByteArray) (hl0:d.Files.length≤120) (hso:d.Files.Pairwise (fun f g=>slt f.Path g.Path=true)):
  (∃k:Nat,∃hk:k<d.Files.length,xB d p=some (k:Int)∧zB d.Files p=some ((k:Int),true)∧d.Files[k].Path =p)∨
   (xB d p=some (-1)∧(∀f∈d.Files,f.Path≠p)∧∃k:Nat,zB d.Files p=some ((k:Int),false)∧k≤d.Files.length∧(∀i,(hi:i<d.Files.length)→i<k→slt d.Files[i].Path p=true)∧(∀i,(hi:i<d.Files.length)→k≤i→slt d.Files[i].Path p=false)):=by
 have hl:d.Files.length≤1048576:=by omega
 obtain ⟨k,b,e,hk,h1,h2⟩:=zCj d.Files p hl
 obtain ⟨g1,g2,g3⟩:=h2 hso
 rcases zBF d p hl with ⟨q,hq,e2,hp⟩|⟨e2,hp⟩
 ·left
  cases b with
  |false=>exact absurd hp (g3 rfl _ (List.getElem_mem hq))
  |true=>
   obtain ⟨hk',hp'⟩:=h1 rfl
   have:q=k:=zC4 hso hq hk' (by rw [hp,hp'])
   subst this
   exact ⟨q,hq,e2,e,hp⟩
 ·right
  cases b with
  |true=>
   obtain ⟨hk',hp'⟩:=h1 rfl
   exact absurd hp' (hp _ (List.getElem_mem hk'))
  |false=>exact ⟨e2,hp,k,e,hk,g1,g2⟩
structure zA.fine (d:zA):Prop where
 b1:d.Budget≤20000
 w0:0≤d.Writes
 w1:d.Writes≤2000000000
 s0: -1≤d.Stop
 len:d.Files.length≤120
 data:∀f∈d.Files,f.Data.length≤4000
 sorted:d.Files.Pairwise (fun f g=>slt f.Path g.Path=true)
 room:total d.Files≤d.Budget
theorem zA.good.fine {d:zA} (h:d.good):d.fine:=⟨h.b1,h.w0,by have:=h.w1; omega,h.s0,h.len,h.data,h.sorted,h.room⟩
theorem zEt {d:zA} (hf:d.fine) (hd:d.Down=false):vZ d=some (if decide (d.Stop≥0)&&decide (d.Writes≥d.Stop) then (false,{d with Down:=true}) else (true,{d with Writes:=d.Writes+1})):=by
 unfold vZ
 rw [hd]
 simp only [Bool.false_eq_true,if_false]
 have h0:=hf.s0
 by_cases h1:d.Stop= -1
 ·have h2:¬(d.Stop≥0):=by omega
  simp [h1]
  exact uR (by have:=hf.w0; omega) (by have:=hf.w1; omega)
 ·have h2:d.Stop≥0:=by omega
  have h3:(d.Stop != -1)=true:=by simpa using h1
  simp only [h3,if_true,Option.bind_some,h2,decide_true,Bool.true_and]
  cases decide (d.Writes≥d.Stop)
  ·simp only [Bool.false_eq_true,if_false]
   rw [uR (by have:=hf.w0; omega) (by have:=hf.w1; omega)]
  ·simp only [if_true]
theorem zBy (d:zA) (c:Int):uO d c=some (if c !=0&&c !=9 then zD5 c else {Code:=c,zA:=d}):=by
 unfold uO zD5
 cases c !=0
 ·rfl
 ·cases c !=9<;>rfl
def dropped (d:zA) (p:ByteArray) (c:Int) (r:zA):Prop:=
 (c=9∧r= {d with Down:=true})∨(c=0∧r.Down=false∧r.Writes=d.Writes+1∧r.Budget=d.Budget∧r.Stop=d.Stop∧r.Files.Sublist d.Files∧∀f∈d.Files,f.Path≠p→f∈r.Files)
theorem zDh {d:zA} (hf:d.fine) (hdn:d.Down=false) {p:ByteArray} (hp:∃f∈d.Files,f.Path=p):
  ∃c r,vI d p=some (c==0,r)∧yD d p=some (c,r)∧dropped d p c r:=by
 obtain ⟨fs,bu,wr,st,dn⟩:=d
 simp only at hdn hp
 subst hdn
 have hl:=hf.len; have hw0:=hf.w0; have hw1:=hf.w1; have hso:=hf.sorted
 simp only at hl hw0 hw1 hso
 have hR:=zEt hf rfl
 simp only at hR
 have hw:w64 (wr+1)=wr+1:=uR (by omega) (by omega)
 rcases zA9 {Files:=fs,Budget:=bu,Writes:=wr,Stop:=st,Down:=false} p hl hso with ⟨k,hk,e1,e2,hpk⟩|⟨e1,hno,_⟩
 ·simp only at hk e2 hpk
  have hk1:w64 ((k:Int)+1)=((k+1:Nat):Int):=vP (by omega)
  have hs1:zCO fs 0 (k:Int)=some (fs.take k):=by
   unfold zCO
   rw [if_pos ⟨by omega,by omega,by omega⟩]
   simp
  have hs2:zCO fs ((k+1:Nat):Int) (fs.length:Int)=some (fs.drop (k+1)):=by
   rw [zEv (by omega) (Nat.le_refl _)]
   rw [List.take_of_length_le (by simp)]
  have hA1:app 40 ([]:List File) (fs.take k)=some (fs.take k):=by rw [zBV (by simp; omega) (by simp; omega)]; rfl
  have hA2:app 40 (fs.take k) (fs.drop (k+1))=some (fs.take k++fs.drop (k+1)):=zBV (by simp; omega) (by simp; omega)
  have hD:zZ fs (k:Int) ((k+1:Nat):Int)=some (fs.take k++fs.drop (k+1)):=by
   unfold zZ
   rw [if_pos ⟨by omega,by omega,by omega,by omega⟩]
   simp
  unfold vI yD zL yT xD
  simp only [e2,hR,Option.bind_some,Bool.not_true,Bool.false_eq_true,if_false,hk1,hD]
  cases c3:(decide (st≥0)&&decide (wr≥st))
  ·have c4:(if decide (st≥0) then some (decide (wr≥st)) else some false)=some false:=by
    cases h:decide (st≥0)<;>simp [h] at c3 ⊢
    exact c3
   rw [c4]
   simp only [Option.bind_some,Bool.false_eq_true,if_false,Bool.not_true]
   refine ⟨0,{Files:=fs.take k++fs.drop (k+1),Budget:=bu,Writes:=wr+1,Stop:=st,Down:=false},?_,?_,.inr ⟨rfl,rfl,rfl,rfl,rfl,?_,?_⟩⟩
   ·rw [show xB {Files:=fs,Budget:=bu,Writes:=wr+1,Stop:=st,Down:=false} p=xB {Files:=fs,Budget:=bu,Writes:=wr,Stop:=st,Down:=false} p from rfl,e1]
    simp only [Option.bind_some,hs1,hA1,hk1,hs2,hA2]
    rfl
   ·rw [hw]
   ·show (fs.take k++fs.drop (k+1)).Sublist fs
    conv=>rhs; rw [←List.take_append_drop k fs]
    refine List.Sublist.append (List.Sublist.refl _) ?_
    rw [List.drop_eq_getElem_cons hk]
    exact List.sublist_cons_self _ _
   ·intro f hm hne
    show f∈fs.take k++fs.drop (k+1)
    have hm':f∈fs.take k++fs[k]::fs.drop (k+1):=by rw [←List.drop_eq_getElem_cons hk,List.take_append_drop]; exact hm
    rcases List.mem_append.1 hm' with h|h
    ·exact List.mem_append_left _ h
    ·rcases List.mem_cons.1 h with h|h
     ·exact absurd (h▸hpk) hne
     ·exact List.mem_append_right _ h
  ·have c4:(if decide (st≥0) then some (decide (wr≥st)) else some false)=some true:=by
    cases h:decide (st≥0)<;>simp [h] at c3 ⊢
    exact c3
   rw [c4]
   simp only [Option.bind_some,if_true,Bool.not_false]
   exact ⟨9,_,rfl,rfl,.inl ⟨rfl,rfl⟩⟩
 ·obtain ⟨f,hm,e⟩:=hp
  exact absurd e (hno f hm)
theorem zCi {d:zA} {p:ByteArray} {c:Int} {r:zA} (hd:zA.sm 1048576 d) (h:dropped d p c r):zD.sm 1049600 {Code:=c,zA:=r}:=by
 have hm:=zA.zAK hd
 rcases h with ⟨_,h2⟩|⟨_,_,_,_,_,h6,_⟩
 ·rw [h2]; exact ⟨trivial,hm⟩
 ·exact ⟨trivial,⟨Nat.le_trans h6.length_le hm.1.1,fun f hf=>hm.1.2 f (h6.subset hf)⟩,trivial,trivial,trivial,trivial⟩
theorem zBa (a1:zA) (a2:ByteArray) (k0:zA.ok a1) (k1:a2.size≤maxLen) (s0:(zA.sm 1048576 a1)) (s1:(a2.size≤1048576)):∃r,xL a1 a2=some r∧yO a1 a2=some r∧(zD.sm 1049600 r):=by
 obtain ⟨k,ek,hk⟩:=zAx a1 s0.1.1
 have hnone:∀q:Int,zD.sm 1049600 {Code:=q,zA:= {Files:=[],Budget:=0,Writes:=0,Stop:=0,Down:=false}}:=zDE
 unfold xL yO zP uF
 rw [zA2,ek]
 simp only [Option.bind_some]
 by_cases h1:k=0
 ·subst h1
  have hg:=hk rfl
  simp only [bne_self_eq_false,Bool.false_eq_true,if_false,beq_self_eq_true,if_true,Option.bind_some]
  cases hdn:a1.Down
  ·simp only [Bool.false_eq_true,if_false,bne_self_eq_false,Option.bind_some]
   rw [zCP a1 (zA.zCR s0),zB0 a1 (zA.zCR s0)]
   simp only [Option.bind_some]
   unfold xI
   rcases zA9 a1 a2 hg.len hg.sorted with ⟨q,hq,e1,_,hp⟩|⟨e1,_,q,e2,_⟩
   ·have hq0:decide ((q:Int)<0)=false:=by simp
    obtain ⟨c,r,w1,w2,w3⟩:=zDh hg.fine hdn (p:=a2) ⟨_,List.getElem_mem hq,hp⟩
    rw [e1,w1,w2]
    simp only [Option.bind_some,hq0,Bool.false_eq_true,if_false,zBy]
    have hs:=zCi s0 w3
    rcases w3 with ⟨rfl,_⟩|⟨rfl,_⟩
    ·exact ⟨_,rfl,rfl,hs⟩
    ·exact ⟨_,rfl,rfl,hs⟩
   ·unfold yD xD
    rw [e1,e2]
    simp only [Option.bind_some,zBy]
    exact ⟨_,rfl,rfl,hnone 4⟩
  ·simp only [if_true,Option.bind_some]
   exact ⟨_,rfl,rfl,hnone 9⟩
 ·have hk:(k !=0)=true:=by simpa using h1
  have hk':(k==0)=false:=by simpa using h1
  simp only [hk,hk',if_true,Option.bind_some,Bool.false_eq_true,if_false]
  exact ⟨_,rfl,rfl,hnone k⟩
theorem jN (a1:zA) (a2:ByteArray) (k0:zA.ok a1) (k1:a2.size≤maxLen):zU a1 a2=some true:=jJ a1 a2 k0 k1 (zBa a1 a2 k0 k1)
end Go.Told

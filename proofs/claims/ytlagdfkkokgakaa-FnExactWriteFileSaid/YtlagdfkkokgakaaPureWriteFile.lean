import Derived.Test.YtlagdfkkokgakaaToldWriteFile
set_option linter.unusedVariables false
set_option maxRecDepth 4000
namespace Go.Told
open Go Go.Im
theorem kT {S T:Type} {b b':S→Option (Lp S T)} (h:∀s,b s=b' s):loop b=loop b':=by
 have:b=b':=funext h
 rw [this]
theorem uO {x:Int} (h1: -9223372036854775808≤x) (h2:x≤9223372036854775807):w64 x=x:=by
 unfold w64
 rw [IntKind.wrap_i64]
 omega
theorem vX {i:Nat} (h:i<9223372036854775807):w64 ((i:Int)+1)=((i+1:Nat):Int):=by
 rw [uO (by omega) (by omega)]; omega
theorem tT {T:Type} {S:Type} {b:S→Option (Lp S T)} (I:Nat→S→Prop) (n:Nat) (Q:T→Prop) (hstep:∀i s,i<n→I i s→(∃s',b s=some (.go s')∧I (i+1) s')∨∃t,b s=some (.done t)∧Q t)
  (hend:∀s,I n s→∃t,b s=some (.done t)∧Q t):∀(k i:Nat) (s:S),i+k=n→I i s→∃t,loop b s=some t∧Q t
 |0,i,s,hk,hI=>by
  obtain ⟨t,h1,h2⟩:=hend s (by rw [show n=i by omega]; exact hI)
  exact ⟨t,by rw [uV,h1]; rfl,h2⟩
 |k+1,i,s,hk,hI=>by
  rcases hstep i s (by omega) hI with ⟨s',h1,h2⟩|⟨t,h1,h2⟩
  ·obtain ⟨t,h3,h4⟩:=tT I n Q hstep hend k (i+1) s' (by omega) h2
   exact ⟨t,by rw [uV,h1]; exact h3,h4⟩
  ·exact ⟨t,by rw [uV,h1]; rfl,h2⟩
theorem wG {α:Type} {xs:List α} {i:Nat} (h:i<xs.length):idx xs (i:Int)=some xs[i]:=by
 unfold idx
 rw [if_pos (by omega)]
 simp [h]
theorem jO {α:Type} (l r:List α) (x:α):idx (l++x::r) (l.length:Int)=some x:=by
 rw [wG (by simp)]
 simp
theorem zDa {α:Type} (xs:List α) {b:(List α×Int)→Option (Lp (List α×Int) (List α))} (hstep:∀(ys:List α) (i:Nat) (hi:i<xs.length),ys.length=xs.length→b (ys,(i:Int))=some (.go (ys.set i xs[i],((i+1:Nat):Int))))
  (hend:∀ys:List α,ys.length=xs.length→b (ys,(xs.length:Int))=some (.done ys)) (y0:List α) (h0:y0.length=xs.length):loop b (y0,0)=some xs:=by
 obtain ⟨t,h1,h2⟩:=tT (b:=b) (fun i s=>s.2=(i:Int)∧s.1.length=xs.length∧s.1.take i=xs.take i) xs.length (fun t=>t=xs) (by
  rintro i ⟨ys,j⟩ hi ⟨hj,hl,hp⟩
  simp only at hj hl hp
  subst hj
  refine .inl ⟨_,hstep ys i hi hl,rfl,by simpa using hl,?_⟩
  simp only
  rw [List.take_succ_eq_append_getElem (by simp; omega),List.take_succ_eq_append_getElem hi,←hp,List.take_set_of_le (Nat.le_refl _)]
  simp) (by
  rintro ⟨ys,j⟩ ⟨hj,hl,hp⟩
  simp only at hj hl hp
  subst hj
  refine ⟨ys,hend ys hl,?_⟩
  rw [List.take_of_length_le (by omega),List.take_of_length_le (by omega)] at hp
  exact hp) xs.length 0 (y0,0) (by omega) ⟨rfl,h0,by simp⟩
 rw [h1,h2]
theorem zD7 {R:Type} (n:Nat) {b:Int→Option (Lp Int (Fl R Unit))} (hstep:∀i:Nat,i<n→b (i:Int)=some (.go ((i+1:Nat):Int))) (hend:b (n:Int)=some (.done (.nxt ()))):loop b 0=some (.nxt ()):=by
 obtain ⟨t,h1,h2⟩:=tT (b:=b) (fun i s=>s=(i:Int)) n (fun t=>t= .nxt ()) (by
  rintro i s hi rfl
  exact .inl ⟨_,hstep i hi,rfl⟩) (by
  rintro s rfl
  exact ⟨_,hend,rfl⟩) n 0 0 (by omega) rfl
 rw [h1,h2]
theorem zEE {α:Type} (xs:List α) (P:α→Prop) (l:Int) {b:(Int×Int)→Option (Lp (Int×Int) (Fl Int Int))}
  (hstep:∀(q:Int) (i:Nat) (hi:i<xs.length),0≤q→q≤l→(∃q',b (q,(i:Int))=some (.go (q',((i+1:Nat):Int)))∧0≤q'∧q'≤q∧P xs[i])∨∃t,b (q,(i:Int))=some (.done (.ret t))∧t<0)
  (hend:∀q:Int,b (q,(xs.length:Int))=some (.done (.nxt q))) (h0:0≤l):
  ∃t,loop b (l,0)=some t∧match t with| .ret r=>r<0| .nxt r=>0≤r∧r≤l∧∀x∈xs,P x:=by
 refine tT (b:=b) (fun i s=>s.2=(i:Int)∧0≤s.1∧s.1≤l∧∀j,(hj:j<xs.length)→j<i→P xs[j]) xs.length _ (by
  rintro i ⟨q,j⟩ hi ⟨hj,h1,h2,h3⟩
  simp only at hj h1 h2 h3
  subst hj
  rcases hstep q i hi h1 h2 with ⟨q',e,g1,g2,g3⟩|⟨t,e,ht⟩
  ·refine .inl ⟨_,e,rfl,g1,by simp only; omega,fun j hj hji=>?_⟩
   rcases Nat.lt_or_ge j i with h|h
   ·exact h3 j hj h
   ·have:j=i:=by omega
    subst this; exact g3
  ·exact .inr ⟨_,e,ht⟩) (by
  rintro ⟨q,j⟩ ⟨hj,h1,h2,h3⟩
  simp only at hj h1 h2 h3
  subst hj
  refine ⟨_,hend q,h1,h2,fun x hx=>?_⟩
  obtain ⟨j,hj,rfl⟩:=List.getElem_of_mem hx
  exact h3 j hj hj) xs.length 0 (l,0) (by omega) ⟨rfl,h0,Int.le_refl _,fun j _ h=>by omega⟩
def pm {α:Type} (m:α→Int→α) (c:α→Int):List α→Int→List α
 |[],_=>[]
 |x::xs,k=>m x k::pm m c xs (k+c x)
def cs {α:Type} (c:α→Int):List α→Int
 |[]=>0
 |x::xs=>c x+cs c xs
theorem jK {α:Type} (m:α→Int→α) (c:α→Int):∀(xs:List α) (k:Int),(pm m c xs k).length =xs.length
 |[],_=>rfl
 |x::xs,k=>by simp [pm,jK m c xs]
theorem wM {α:Type} {c:α→Int} (hc:∀a,0≤c a):∀(xs:List α),0≤cs c xs
 |[]=>Int.le_refl _
 |x::xs=>by have:=hc x; have:=wM hc xs; simp only [cs]; omega
theorem zE7 {α:Type} {c:α→Int} {C:Int} {N:Nat} (hC:0≤C):∀(xs:List α),(∀a∈xs,c a≤C)→xs.length≤N→cs c xs≤N*C
 |[],_,_=>Int.mul_nonneg (by omega) hC
 |x::xs,h,hl=>by
  have h1:=h x (by simp)
  simp only [List.length_cons] at hl
  have h2:=zE7 (N:=N-1) hC xs (fun a ha=>h a (by simp [ha])) (by omega)
  simp only [cs]
  have:((N-1:Nat):Int)*C+C=N*C:=by
   have e:((N-1:Nat):Int)=(N:Int)-1:=by omega
   rw [e,Int.sub_mul,Int.one_mul]; omega
  omega
theorem zAz {α:Type} (m:α→Int→α) (c:α→Int) (P:α→Prop) (hc:∀a,0≤c a) {b:(List α×Int×Int)→Option (Lp (List α×Int×Int) (List α×Int))}
  (hstep:∀(l r:List α) (x:α) (k:Int),P x→0≤k→k+c x≤9223372036854775807→l.length<9223372036854775807→b (l++x::r,k,(l.length:Int))=some (.go (l++m x k::r,k+c x,((l.length+1:Nat):Int))))
  (hend:∀(l:List α) (k:Int),b (l,k,(l.length:Int))=some (.done (l,k))):∀(xs l:List α) (k:Int),(∀x∈xs,P x)→0≤k→k+cs c xs≤9223372036854775807→l.length+xs.length<9223372036854775807→
  loop b (l++xs,k,(l.length:Int))=some (l++pm m c xs k,k+cs c xs)
 |[],l,k,_,_,_,_=>by
  rw [uV,List.append_nil,hend]
  simp [pm,cs,Lp.elim]
 |x::xs,l,k,hP,h0,h1,h2=>by
  have hx:=hc x
  have hxs:=wM hc xs
  simp only [cs] at h1
  simp only [List.length_cons] at h2
  rw [uV,hstep l xs x k (hP x (by simp)) h0 (by omega) (by omega)]
  simp only [Option.bind_some,Lp.elim]
  have:=zAz m c P hc hstep hend xs (l++[m x k]) (k+c x) (fun y hy=>hP y (by simp [hy])) (by omega) (by omega) (by simp; omega)
  simp only [List.length_append,List.length_cons,List.length_nil,List.append_assoc,List.cons_append,List.nil_append] at this
  rw [this]
  simp only [pm,cs]
  congr 2
  omega
theorem zA1 {α:Type} (m:α→Int→α) (c:α→Int) (P:α→Prop) (hc:∀a,0≤c a) {b:List α→(Int×Int)→Option (Lp (Int×Int) (Fl Int Int))}
  (hstep:∀(l r:List α) (x:α) (k:Int),P x→0≤k→k+c x≤9223372036854775807→l.length<9223372036854775807→b (l++m x k::r) (k,(l.length:Int))=some (.go (k+c x,((l.length+1:Nat):Int))))
  (hend:∀(l:List α) (k:Int),b l (k,(l.length:Int))=some (.done (.nxt k))):∀(xs l:List α) (k:Int),(∀x∈xs,P x)→0≤k→k+cs c xs≤9223372036854775807→l.length+xs.length<9223372036854775807→
  loop (b (l++pm m c xs k)) (k,(l.length:Int))=some (.nxt (k+cs c xs))
 |[],l,k,_,_,_,_=>by
  rw [uV,pm,List.append_nil,hend]
  simp [cs,Lp.elim]
 |x::xs,l,k,hP,h0,h1,h2=>by
  have hx:=hc x
  have hxs:=wM hc xs
  simp only [cs] at h1
  simp only [List.length_cons] at h2
  rw [pm,uV,hstep l _ x k (hP x (by simp)) h0 (by omega) (by omega)]
  simp only [Option.bind_some,Lp.elim]
  have:=zA1 m c P hc hstep hend xs (l++[m x k]) (k+c x) (fun y hy=>hP y (by simp [hy])) (by omega) (by omega) (by simp; omega)
  simp only [List.length_append,List.length_cons,List.length_nil,List.append_assoc,List.cons_append,List.nil_append] at this
  rw [this]
  simp only [cs]
  congr 2
  omega
theorem zBq {α β:Type} {xs:List α} {ys:List β} (h:xs.length=ys.length):same xs ys=some ():=if_pos h
theorem zDE {α:Type} (l r:List α) (x y:α):(l++x::r).set l.length y=l++y::r:=by
 rw [List.set_append_right _ _ (Nat.le_refl _)]
 simp
def c1 {α:Type} (_:α):Int:=1
theorem jB {α:Type} (a:α):0≤c1 a:=by unfold c1; decide
theorem zAw {α:Type} {B:Nat} {xs ys:List α} (h:(xs.length+ys.length)*B≤140737488355328) (h2:xs.length+ys.length≤4611686018427387904):app B xs ys=some (xs++ys):=if_pos ⟨h,h2⟩
theorem zBJ {S T:Type} {b:S→Option (Lp S T)} (I:S→Prop) (μ:S→Nat) (Q:T→Prop) (step:∀s,I s→(∃s',b s=some (.go s')∧I s'∧μ s'<μ s)∨∃t,b s=some (.done t)∧Q t):∀(n:Nat) (s:S),μ s≤n→I s→∃t,loop b s=some t∧Q t
 |0,s,hn,hI=>by
  rcases step s hI with ⟨s',_,_,h3⟩|⟨t,h1,h2⟩
  ·omega
  ·exact ⟨t,by rw [uV,h1]; rfl,h2⟩
 |n+1,s,hn,hI=>by
  rcases step s hI with ⟨s',h1,h2,h3⟩|⟨t,h1,h2⟩
  ·obtain ⟨t,h4,h5⟩:=zBJ I μ Q step n s' (by omega) h2
   exact ⟨t,by rw [uV,h1]; exact h4,h5⟩
  ·exact ⟨t,by rw [uV,h1]; rfl,h2⟩
def File.ok (x:File):Prop:=(x.Path.size≤maxLen)∧(x.Data.length≤maxLen∧∀y1∈x.Data,IntKind.u8.min≤y1∧y1≤IntKind.u8.max)
def zA.ok (x:zA):Prop:=(x.Files.length≤maxLen∧∀y1∈x.Files,File.ok y1)∧(IntKind.i64.min≤x.Budget∧x.Budget≤IntKind.i64.max)∧(IntKind.i64.min≤x.Writes∧x.Writes≤IntKind.i64.max)∧(IntKind.i64.min≤x.Stop∧x.Stop≤IntKind.i64.max)∧(True)
theorem zCN (x:(List Int)) (hx:x.length≤maxLen∧∀y1∈x,IntKind.u8.min≤y1∧y1≤IntKind.u8.max) (l:Int) (h0:0≤l) (h1:l≤1048576):∃r,vO x l=some r∧(r<0∨(0≤r∧r≤l∧(x.length≤1048576∧∀y0∈x,True))):=by
 obtain ⟨hm,hx⟩:=hx
 unfold maxLen at hm
 unfold vO
 rw [uO (x:=l-x.length) (by omega) (by omega)]
 by_cases c1:l-(x.length:Int)<0
 ·rw [if_pos (by simpa using c1)]
  exact ⟨_,rfl,.inl (by omega)⟩
 ·rw [if_neg (by simpa using c1)]
  exact ⟨_,rfl,.inr ⟨by omega,by omega,by omega,fun _ _=>trivial⟩⟩
def File.sm (B:Nat) (x:File):Prop:=(x.Path.size≤B)∧(x.Data.length≤B∧∀y0∈x.Data,True)
def zA.sm (B:Nat) (x:zA):Prop:=(x.Files.length≤B∧∀y0∈x.Files,File.sm B y0)∧(True)∧(True)∧(True)∧(True)
theorem zDk (x:File) (hx:File.ok x) (l:Int) (h0:0≤l) (h1:l≤1048576):∃r,uN x l=some r∧(r<0∨(0≤r∧r≤l∧(File.sm 1048576 x))):=by
 obtain ⟨k0,k1⟩:=hx
 unfold maxLen at*
 unfold uN
 rw [uO (x:=l-x.Path.size) (by omega) (by omega)]
 by_cases c0:l-(x.Path.size:Int)<0
 ·rw [if_pos (by simpa using c0)]
  exact ⟨_,rfl,.inl (by omega)⟩
 rw [if_neg (by simpa using c0)]
 obtain ⟨r1,e1,g1⟩:=zCN x.Data k1 (l-x.Path.size) (by omega) (by omega)
 rw [e1]
 simp only [Option.bind_some]
 by_cases c1:r1<0
 ·rw [if_pos (by simpa using c1)]
  exact ⟨_,rfl,.inl (by omega)⟩
 rw [if_neg (by simpa using c1)]
 obtain ⟨p1,q1,z1⟩:=g1.resolve_left c1
 exact ⟨_,rfl,.inr ⟨by omega,by omega,by omega,z1⟩⟩
theorem zCE (x:(List File)) (hx:x.length≤maxLen∧∀y1∈x,File.ok y1) (l:Int) (h0:0≤l) (h1:l≤1048576):∃r,vL x l=some r∧(r<0∨(0≤r∧r≤l∧(x.length≤1048576∧∀y0∈x,File.sm 1048576 y0))):=by
 obtain ⟨hm,hx⟩:=hx
 unfold maxLen at hm
 unfold vL
 rw [uO (x:=l-x.length) (by omega) (by omega)]
 by_cases c1:l-(x.length:Int)<0
 ·rw [if_pos (by simpa using c1)]
  exact ⟨_,rfl,.inl (by omega)⟩
 ·rw [if_neg (by simpa using c1)]
  have key:=zEE x (fun y0=>File.sm 1048576 y0) (l-x.length) (b:=wZ x) ?_ ?_ (by omega)
  ·obtain ⟨t,h2,h3⟩:=key
   unfold vK
   rw [h2]
   cases t with
   |ret r=>exact ⟨r,rfl,.inl h3⟩
   |nxt r=>exact ⟨r,rfl,.inr ⟨h3.1,by have:=h3.2.1; omega,by omega,h3.2.2⟩⟩
  ·intro q i hi hq0 hq1
   unfold wZ
   rw [if_pos (by simp; omega)]
   simp only [wG hi,Option.bind_some]
   have hi2:w64 ((i:Int)+1)=((i+1:Nat):Int):=vX (by omega)
   obtain ⟨r,e,hr⟩:=zDk x[i] (hx _ (List.getElem_mem hi)) q hq0 (by omega)
   rw [e]
   simp only [Option.bind_some]
   by_cases c:r<0
   ·rw [if_pos (by simpa using c)]
    exact .inr ⟨_,rfl,by omega⟩
   ·rw [if_neg (by simpa using c),hi2]
    obtain ⟨g1,g2,g3⟩:=hr.resolve_left c
    exact .inl ⟨_,rfl,g1,g2,g3⟩
  ·intro q
   unfold wZ
   rw [if_neg (by simp)]
theorem zDy (x:zA) (hx:zA.ok x) (l:Int) (h0:0≤l) (h1:l≤1048576):∃r,uM x l=some r∧(r<0∨(0≤r∧r≤l∧(zA.sm 1048576 x))):=by
 obtain ⟨k0,k1,k2,k3,k4⟩:=hx
 unfold maxLen at*
 unfold uM
 obtain ⟨r0,e0,g0⟩:=zCE x.Files k0 l (by omega) (by omega)
 rw [e0]
 simp only [Option.bind_some]
 by_cases c0:r0<0
 ·rw [if_pos (by simpa using c0)]
  exact ⟨_,rfl,.inl (by omega)⟩
 rw [if_neg (by simpa using c0)]
 obtain ⟨p0,q0,z0⟩:=g0.resolve_left c0
 exact ⟨_,rfl,.inr ⟨by omega,by omega,z0,trivial,trivial,trivial,trivial⟩⟩
theorem zAS (x:(List Int)) (hx:x.length≤1049600∧∀y0∈x,True):zW x=some x:=by
 have hl:=hx.1
 unfold zW
 have hm:∀z:Int,mk 1 (x.length:Int) z=some (List.replicate x.length z):=fun z=>by
  unfold mk; rw [if_pos ⟨by omega,by simp; omega,by omega⟩]; simp
 rw [hm]
 simp only [Option.bind_some,vF]
 rw [zDa x ?_ ?_ _ (by simp)]
 ·rfl
 ·intro ys i hi hl2
  unfold uD
  rw [if_pos (by simp; omega)]
  have hi2:w64 ((i:Int)+1)=((i+1:Nat):Int):=vX (by omega)
  simp only [wG hi,wG (show i<ys.length by omega),Option.bind_some,Int.toNat_natCast,hi2]
 ·intro ys _
  unfold uD
  rw [if_neg (by simp)]
theorem zDw (x:File) (hx:File.sm 1049600 x):uI x=some x:=by
 obtain ⟨h0,h1⟩:=hx
 unfold uI
 simp only [zAS x.Data h1,Option.bind_some]
theorem zCR (x:(List File)) (hx:x.length≤1049600∧∀y0∈x,File.sm 1049600 y0):vG x=some x:=by
 have hl:=hx.1
 unfold vG
 have hm:∀z:File,mk 40 (x.length:Int) z=some (List.replicate x.length z):=fun z=>by
  unfold mk; rw [if_pos ⟨by omega,by simp; omega,by omega⟩]; simp
 rw [hm]
 simp only [Option.bind_some,vH]
 rw [zDa x ?_ ?_ _ (by simp)]
 ·rfl
 ·intro ys i hi hl2
  unfold uE
  rw [if_pos (by simp; omega)]
  have hi2:w64 ((i:Int)+1)=((i+1:Nat):Int):=vX (by omega)
  simp only [wG hi,wG (show i<ys.length by omega),Option.bind_some,Int.toNat_natCast,hi2,zDw x[i] (hx.2 _ (List.getElem_mem hi))]
 ·intro ys _
  unfold uE
  rw [if_neg (by simp)]
theorem zDo (x:zA) (hx:zA.sm 1049600 x):yS x=some x:=by
 obtain ⟨h0,h1,h2,h3,h4⟩:=hx
 unfold yS
 simp only [zCR x.Files h0,Option.bind_some]
theorem zAg (x:(List Int)) (hx:x.length≤1049600∧∀y0∈x,True):xY x x=some true:=by
 have hl:=hx.1
 unfold xY
 rw [if_neg (by simp)]
 unfold vI
 rw [zD7 x.length ?_ ?_]
 ·rfl
 ·intro i hi
  unfold uF
  rw [if_pos (by simp; omega)]
  have hi2:w64 ((i:Int)+1)=((i+1:Nat):Int):=vX (by omega)
  simp [wG hi,hi2]
 ·unfold uF
  rw [if_neg (by simp)]
theorem zCb (x:File) (hx:File.sm 1049600 x):uH x x=some true:=by
 obtain ⟨h0,h1⟩:=hx
 unfold uH
 simp [zAg x.Data h1]
theorem zBN (x:(List File)) (hx:x.length≤1049600∧∀y0∈x,File.sm 1049600 y0):vR x x=some true:=by
 have hl:=hx.1
 unfold vR
 rw [if_neg (by simp)]
 unfold vQ
 rw [zD7 x.length ?_ ?_]
 ·rfl
 ·intro i hi
  unfold uG
  rw [if_pos (by simp; omega)]
  have hi2:w64 ((i:Int)+1)=((i+1:Nat):Int):=vX (by omega)
  simp [wG hi,hi2,zCb x[i] (hx.2 _ (List.getElem_mem hi))]
 ·unfold uG
  rw [if_neg (by simp)]
theorem zAn (x:zA) (hx:zA.sm 1049600 x):wW x x=some true:=by
 obtain ⟨h0,h1,h2,h3,h4⟩:=hx
 unfold wW
 simp [zBN x.Files h0]
def zC.sm (B:Nat) (x:zC):Prop:=(True)∧(zA.sm B x.zA)
theorem kS (x:zC) (hx:zC.sm 1049600 x):zQ x x=some true:=by
 obtain ⟨h0,h1⟩:=hx
 unfold zQ
 simp [zAn x.zA h1]
theorem zA6 (a:Int):(b2s [a]).size =1:=rfl
theorem zBs {k:Int} (h0:0≤k) (h1:k≤9223372036854775807):∃s,yP k=some s:=by
 have key:∀(n:Nat) (k:Int) (s:ByteArray),0≤k→k<10^n→k≤9223372036854775807→s.size+n≤1000→∃t,loop vU (k,s)=some t∧t.size≤s.size+n:=by
  intro n
  induction n with
  |zero=>
   intro k s h0 h1 _ _
   have:k=0:=by simp at h1; omega
   subst this
   exact ⟨s,by rw [uV]; rfl,by omega⟩
  |succ n ih=>
   intro k s h0 h1 h2 h3
   by_cases hk:k>0
   ·rw [uV]
    unfold vU
    simp only
    rw [if_pos (by simpa using hk)]
    have hc:∀a:Int,cat (b2s [a]) s=some (b2s [a]++s):=fun a=>by
     unfold cat; rw [if_pos (by rw [zA6]; omega)]
    rw [hc]
    simp only [Option.bind_some,Lp.elim]
    have hd:k.tdiv 10=k / 10:=Int.tdiv_eq_ediv_of_nonneg h0
    rw [hd,uO (by omega) (by omega)]
    obtain ⟨t,g1,g2⟩:=ih (k / 10) (b2s [IntKind.u8.wrap (w64 (48+k.tmod 10))]++s) (by omega) (by rw [Int.pow_succ] at h1; omega) (by omega) (by rw [ByteArray.size_append,zA6]; omega)
    refine ⟨t,g1,?_⟩
    rw [ByteArray.size_append,zA6] at g2
    omega
   ·have:k=0:=by omega
    subst this
    exact ⟨s,by rw [uV]; rfl,by omega⟩
 unfold yP
 by_cases hk:k≤0
 ·rw [if_pos (by simpa using hk)]
  exact ⟨_,rfl⟩
 ·rw [if_neg (by simpa using hk)]
  obtain ⟨t,g1,g2⟩:=key 19 k (bs []) h0 (by omega) h1 (by decide)
  unfold vB
  rw [g1]
  simp only [Option.bind_some]
  have e0:(bs []).size =0:=rfl
  have e1:(bs [109]).size =1:=rfl
  unfold cat
  rw [if_pos (by omega)]
  exact ⟨_,rfl⟩
noncomputable def mT (k:Int):ByteArray:=(yP k).getD ByteArray.empty
theorem zAq {k:Int} (h0:0≤k) (h1:k≤9223372036854775807):yP k=some (mT k):=by
 obtain ⟨s,hs⟩:=zBs h0 h1
 unfold mT
 rw [hs]
 rfl
def zCW (_:Int) (k:Int):Int:=IntKind.u8.wrap k
theorem kG (xs:List Int) (hx:xs.length≤1049600∧∀y0∈xs,True) (k:Int) (h0:0≤k) (h1:k+cs c1 xs≤9223372036854775807):yN xs k=some (k+cs c1 xs,pm zCW c1 xs k):=by
 unfold yN xX
 have key:=zAz zCW c1 (fun y0=>True) jB (b:=xO) ?_ ?_ xs [] k hx.2 h0 h1 (by have:=hx.1; simp; omega)
 ·simp only [List.nil_append,List.length_nil,Int.natCast_zero] at key
  rw [key]
  rfl
 ·intro l r x k hP h0 hk hl
  simp only [c1] at hk
  have w0:=uO (x:=k+1) (by omega) (by omega)
  have hi2:w64 ((l.length:Int)+1)=((l.length+1:Nat):Int):=vX (by omega)
  unfold xO
  rw [if_pos (by simp; omega)]
  simp only [jO,zDE,Option.bind_some,Int.toNat_natCast,hi2,w0]
  rfl
 ·intro l k
  unfold xO
  rw [if_neg (by simp)]
theorem zB5 (xs:List Int) (hx:xs.length≤1049600∧∀y0∈xs,True) (k:Int) (h0:0≤k) (h1:k+cs c1 xs≤9223372036854775807):wF (pm zCW c1 xs k) k=some (k+cs c1 xs):=by
 unfold wF wR
 have key:=zA1 zCW c1 (fun y0=>True) jB (b:=xV) ?_ ?_ xs [] k hx.2 h0 h1 (by have:=hx.1; simp; omega)
 ·simp only [List.nil_append,List.length_nil,Int.natCast_zero] at key
  rw [key]
  rfl
 ·intro l r x k hP h0 hk hl
  simp only [c1] at hk
  have w0:=uO (x:=k+1) (by omega) (by omega)
  have hi2:w64 ((l.length:Int)+1)=((l.length+1:Nat):Int):=vX (by omega)
  unfold xV
  rw [if_pos (by simp; omega)]
  simp [jO,hi2,zCW,w0]
  all_goals (first|rfl|omega|(simp only [c1]; omega))
 ·intro l k
  unfold xV
  rw [if_neg (by simp)]
noncomputable def mFile (x:File) (k:Int):File:=({Path:=mT (k),Data:=pm zCW c1 x.Data (k+1)}:File)
noncomputable def cFile (x:File):Int:=1+cs c1 x.Data
theorem wT (x:File):0≤cFile x:=by
 have n1:=wM jB x.Data
 unfold cFile
 omega
theorem zBg (xs:List File) (hx:xs.length≤1049600∧∀y0∈xs,File.sm 1049600 y0) (k:Int) (h0:0≤k) (h1:k+cs cFile xs≤9223372036854775807):xK xs k=some (k+cs cFile xs,pm mFile cFile xs k):=by
 unfold xK wE
 have key:=zAz mFile cFile (fun y0=>File.sm 1049600 y0) wT (b:=xM) ?_ ?_ xs [] k hx.2 h0 h1 (by have:=hx.1; simp; omega)
 ·simp only [List.nil_append,List.length_nil,Int.natCast_zero] at key
  rw [key]
  rfl
 ·intro l r x k hP h0 hk hl
  simp only [cFile] at hk
  have n1:=wM jB x.Data
  have t0:=zAq (k:=k) (by omega) (by omega)
  have w0:=uO (x:=k+1) (by omega) (by omega)
  have t1:=kG x.Data (hP.2) (k+1) (by omega) (by omega)
  have hi2:w64 ((l.length:Int)+1)=((l.length+1:Nat):Int):=vX (by omega)
  unfold xM
  rw [if_pos (by simp; omega)]
  simp only [jO,zDE,Option.bind_some,Int.toNat_natCast,hi2,t0,w0,t1,zBq (jK _ _ _ _)]
  rw [show k+1+cs c1 x.Data=k+cFile x from by simp only [cFile]; omega]
  rfl
 ·intro l k
  unfold xM
  rw [if_neg (by simp)]
theorem zBL (xs:List File) (hx:xs.length≤1049600∧∀y0∈xs,File.sm 1049600 y0) (k:Int) (h0:0≤k) (h1:k+cs cFile xs≤9223372036854775807):wH (pm mFile cFile xs k) k=some (k+cs cFile xs):=by
 unfold wH wQ
 have key:=zA1 mFile cFile (fun y0=>File.sm 1049600 y0) wT (b:=wB) ?_ ?_ xs [] k hx.2 h0 h1 (by have:=hx.1; simp; omega)
 ·simp only [List.nil_append,List.length_nil,Int.natCast_zero] at key
  rw [key]
  rfl
 ·intro l r x k hP h0 hk hl
  simp only [cFile] at hk
  have n1:=wM jB x.Data
  have t0:=zAq (k:=k) (by omega) (by omega)
  have w0:=uO (x:=k+1) (by omega) (by omega)
  have t1:=zB5 x.Data (hP.2) (k+1) (by omega) (by omega)
  have z1:¬(k+1+cs c1 x.Data<0):=by omega
  have hi2:w64 ((l.length:Int)+1)=((l.length+1:Nat):Int):=vX (by omega)
  unfold wB
  rw [if_pos (by simp; omega)]
  simp [jO,hi2,mFile,t0,w0,t1,z1]
  all_goals (first|rfl|omega|(simp only [cFile]; omega))
 ·intro l k
  unfold wB
  rw [if_neg (by simp)]
theorem zAb (x:zA) (hP:zA.sm 1049600 x) (k:Int) (h0:0≤k) (h1:k+cs cFile x.Files≤9223372036854775807):yZ x k=some (k+cs cFile x.Files,pm mFile cFile x.Files (k)):=by
 have n0:=wM wT x.Files
 have t0:=zBg x.Files (hP.1) (k) (by omega) (by omega)
 unfold yZ
 simp only [t0,Option.bind_some,zBq (jK _ _ _ _)]
theorem zBV (x:zA) (hP:zA.sm 1049600 x) (k:Int) (h0:0≤k) (h1:k+cs cFile x.Files≤9223372036854775807):wY ({Files:=pm mFile cFile x.Files (k),Budget:=x.Budget,Writes:=x.Writes,Stop:=x.Stop,Down:=x.Down}:zA) k=some (k+cs cFile x.Files):=by
 have n0:=wM wT x.Files
 have t0:=zBL x.Files (hP.1) (k) (by omega) (by omega)
 have z0:¬(k+cs cFile x.Files<0):=by omega
 unfold wY
 simp [t0]
 all_goals (first|rfl|omega)
theorem kN (x:zC) (hP:zC.sm 1049600 x) (k:Int) (h0:0≤k) (h1:k+cs cFile x.zA.Files≤9223372036854775807):yB x k=some (k+cs cFile x.zA.Files,pm mFile cFile x.zA.Files (k)):=by
 have n0:=wM wT x.zA.Files
 have t0:=zAb x.zA (hP.2) (k) (by omega) (by omega)
 unfold yB
 simp only [t0,Option.bind_some,zBq (jK _ _ _ _)]
theorem kR (x:zC) (hP:zC.sm 1049600 x) (k:Int) (h0:0≤k) (h1:k+cs cFile x.zA.Files≤9223372036854775807):zS ({Code:=x.Code,zA:=({Files:=pm mFile cFile x.zA.Files (k),Budget:=x.zA.Budget,Writes:=x.zA.Writes,Stop:=x.zA.Stop,Down:=x.zA.Down}:zA)}:zC) k=some (k+cs cFile x.zA.Files):=by
 have n0:=wM wT x.zA.Files
 have t0:=zBV x.zA (hP.2) (k) (by omega) (by omega)
 have z0:¬(k+cs cFile x.zA.Files<0):=by omega
 unfold zS
 simp [t0]
 all_goals (first|rfl|omega)
theorem File.zBj {x:File} (h:File.sm 1048576 x):File.sm 1049600 x:=⟨(Nat.le_trans h.1 (by decide)),⟨Nat.le_trans h.2.1 (by decide),fun y0 z0=>trivial⟩⟩
theorem zA.zBj {x:zA} (h:zA.sm 1048576 x):zA.sm 1049600 x:=⟨⟨Nat.le_trans h.1.1 (by decide),fun y0 z0=>(File.zBj (h.1.2 y0 z0))⟩,trivial,trivial,trivial,trivial⟩
theorem zAR (x:(List Int)) (hx:x.length≤1049600∧∀y0∈x,True):cs c1 x≤1049600:=by
 have:=zE7 (c:=c1) (C:=1) (N:=1049600) (by decide) x (fun a _=>by unfold c1; decide) hx.1
 omega
theorem zAQ (x:(List File)) (hx:x.length≤1049600∧∀y0∈x,File.sm 1049600 y0):cs cFile x≤1101661209600:=by
 have:=zE7 (c:=cFile) (C:=1049601) (N:=1049600) (by decide) x (fun a ha=>by have hP:=hx.2 a ha; have q1:=zAR a.Data (hP.2); unfold cFile; omega) hx.1
 omega
theorem jH (a1:zA) (a2:ByteArray) (a3:(List Int)) (k0:zA.ok a1) (k1:a2.size≤maxLen) (k2:a3.length≤maxLen∧∀y1∈a3,IntKind.u8.min≤y1∧y1≤IntKind.u8.max) (both:(zA.sm 1048576 a1)→(a2.size≤1048576)→(a3.length≤1048576∧∀y0∈a3,True)→∃r,xG a1 a2 a3=some r∧yK a1 a2 a3=some r∧(zC.sm 1049600 r)):zX a1 a2 a3=some true:=by
 unfold zX
 by_cases d1:(a2.size:Int)>1048576
 ·rw [if_pos (by simpa using d1)]
 rw [if_neg (by simpa using d1)]
 have s_a2:a2.size≤1048576:=by omega
 by_cases d2:(a3.length:Int)>1048576
 ·rw [if_pos (by simpa using d2)]
 rw [if_neg (by simpa using d2)]
 have s_a3:a3.length≤1048576∧∀y0∈a3,True:=⟨by omega,fun _ _=>trivial⟩
 obtain ⟨r3,e3,g3⟩:=zDy a1 k0 1048576 (by omega) (by omega)
 rw [e3]
 simp only [Option.bind_some]
 by_cases d3:r3<0
 ·rw [if_pos (by simpa using d3)]
 rw [if_neg (by simpa using d3)]
 obtain ⟨p3,q3,s_a1⟩:=g3.resolve_left d3
 obtain ⟨r,e1,e2,hr⟩:=both s_a1 s_a2 s_a3
 have m_a1:zA.sm 1049600 a1:=(zA.zBj s_a1)
 have m_a2:a2.size≤1049600:=(Nat.le_trans s_a2 (by decide))
 have m_a3:a3.length≤1049600∧∀y0∈a3,True:=⟨Nat.le_trans s_a3.1 (by decide),fun y0 z0=>trivial⟩
 have n1:=wM wT a1.Files
 have b1:=zAQ a1.Files (m_a1.1)
 have n3:=wM jB a3
 have b3:=zAR a3 (m_a3)
 have n5:=wM wT r.zA.Files
 have b5:=zAQ r.zA.Files (hr.2.1)
 have t2:=zAb a1 m_a1 (1) (by omega) (by omega)
 have t4:=kG a3 m_a3 (1+cs cFile a1.Files) (by omega) (by omega)
 have z1:¬(1+cs cFile a1.Files+cs c1 a3<0):=by omega
 have t6:=kN r hr 1 (by omega) (by omega)
 have u6:=kR r hr 1 (by omega) (by omega)
 have z2:¬(1+cs cFile r.zA.Files<0):=by omega
 simp [e1,e2,zDo a1 m_a1,zAn a1 m_a1,zAS a3 m_a3,zAg a3 m_a3,kS r hr,t2,t4,z1,t6,u6,z2,zBq (jK _ _ _ _)]
def bl (s:ByteArray):List Int:=s.toList.map (fun b=>(b.toNat:Int))
theorem zAy (s:ByteArray):(bl s).length =s.size:=by
 unfold bl
 rw [List.length_map,ByteArray.toList_eq]
 rfl
theorem zDW {s:ByteArray} {i:Nat} (h:i< (bl s).length):bidx s (i:Int)=some (bl s)[i]:=by
 unfold bidx
 rw [if_pos (by omega)]
 have hs:i<s.size:=by rw [zAy] at h; exact h
 have e:s[(i:Int).toNat]? =some s[i]:=by simp [hs]
 rw [e]
 simp only [Option.map_some,bl,List.getElem_map]
 congr 2
 simp only [ByteArray.toList_eq]
 rfl
theorem zAu:∀(a:List UInt8),Op.bytesLess a a=false
 |[]=>rfl
 |x::a=>by simp [Op.bytesLess,zAu a]
theorem zAZ:∀{a b c:List UInt8},Op.bytesLess a b=true→Op.bytesLess b c=true→Op.bytesLess a c=true
 |_,[],_,h,_=>by simp [Op.bytesLess] at h
 |_,_::_,[],_,h=>by simp [Op.bytesLess] at h
 |[],_::_,_::_,_,_=>by simp [Op.bytesLess]
 |x::a,y::b,z::c,h1,h2=>by
  simp only [Op.bytesLess,Bool.or_eq_true,decide_eq_true_eq,Bool.and_eq_true,beq_iff_eq] at h1 h2 ⊢
  rcases h1 with h1|⟨rfl,h1⟩
  ·rcases h2 with h2|⟨rfl,h2⟩
   ·exact .inl (UInt8.lt_trans h1 h2)
   ·exact .inl h1
  ·rcases h2 with h2|⟨rfl,h2⟩
   ·exact .inl h2
   ·exact .inr ⟨rfl,zAZ h1 h2⟩
theorem zCv:∀(a b:List UInt8),Op.bytesLess a b=false→a≠b→Op.bytesLess b a=true
 |[],[],_,h=>absurd rfl h
 |[],_::_,h,_=>by simp [Op.bytesLess] at h
 |_::_,[],_,_=>by simp [Op.bytesLess]
 |x::a,y::b,h,hne=>by
  simp only [Op.bytesLess,Bool.or_eq_false_iff,decide_eq_false_iff_not,Bool.and_eq_false_iff,beq_eq_false_iff_ne] at h
  simp only [Op.bytesLess,Bool.or_eq_true,decide_eq_true_eq,Bool.and_eq_true,beq_iff_eq]
  by_cases hxy:x=y
  ·subst hxy
   refine .inr ⟨rfl,zCv a b ?_ (fun e=>hne (by rw [e]))⟩
   rcases h.2 with h'|h'
   ·exact absurd rfl h'
   ·exact h'
  ·refine .inl ?_
   have:=h.1
   rw [UInt8.lt_iff_toNat_lt] at this ⊢
   have:x.toNat≠y.toNat:=fun e=>hxy (UInt8.toNat_inj.1 e)
   omega
theorem toList_inj {a b:ByteArray} (h:a.toList=b.toList):a=b:=by
 rw [ByteArray.toList_eq,ByteArray.toList_eq] at h
 cases a; cases b
 simp at h
 rw [h]
theorem jT (a:ByteArray):slt a a=false:=zAu _
theorem kM {a b c:ByteArray} (h1:slt a b=true) (h2:slt b c=true):slt a c=true:=zAZ h1 h2
theorem zEM {a b:ByteArray} (h:slt a b=false) (hne:a≠b):slt b a=true:=zCv _ _ h (fun e=>hne (toList_inj e))
theorem zDH {a b:ByteArray}:seq a b=true↔a=b:=by
 unfold seq
 simp only [beq_iff_eq]
 exact ⟨toList_inj,fun e=>by rw [e]⟩
theorem zF7 (a b c:Int):xW a b c=some (decide (a≥b)&&decide (a≤c)):=by
 unfold xW
 cases decide (a≥b)<;>rfl
def zCi (c:Int):Bool:=(decide (c≥97)&&decide (c≤122))||(decide (c≥48)&&decide (c≤57))||c==95
def zCh (c:Int):Bool:=zCi c||c==46||c==45||c==47
theorem zAM (c:Int):wJ c=some (zCi c):=by
 unfold wJ wC vJ zCi
 cases decide (c≥97)<;>cases decide (c≤122)<;>cases decide (c≥48)<;>cases decide (c≤57)<;>rfl
theorem jZ (c:Int):uK c=some (zCh c):=by
 unfold uK zCh
 rw [zAM]
 cases zCi c<;>cases (c==46)<;>cases (c==45)<;>cases (c==47)<;>rfl
theorem kP (c:Int):yE c=some (zCi c):=by
 unfold yE zCi
 cases decide (c≥97)<;>cases decide (c≤122)<;>cases decide (c≥48)<;>cases decide (c≤57)<;>rfl
theorem jJ (s:ByteArray):yL s=zV s:=by
 unfold yL zV
 have:xH s=yT s:=by
  unfold xH yT
  refine kT fun i=>?_
  unfold uU xB
  split
  ·congr 1
   funext c
   rw [jZ,kP]
   unfold zCh
   simp only [bne]
   cases zCi c<;>cases (c==46)<;>cases (c==45)<;>cases (c==47)<;>rfl
  ·rfl
 rw [this]
def zAe (s:ByteArray):Prop:=1≤s.size∧s.size≤40∧∀c∈bl s,zCh c=true
theorem kC (s:ByteArray):(zAe s∧zV s=some 0)∨(¬zAe s∧zV s=some 5):=by
 unfold zV
 by_cases h1:s.size<1
 ·refine .inr ⟨fun h=>by have:=h.1; omega,?_⟩
  rw [if_pos (by simp; omega)]; rfl
 ·rw [if_neg (by simp; omega)]
  simp only [Option.bind_some]
  by_cases h2:s.size>40
  ·refine .inr ⟨fun h=>by have:=h.2.1; omega,?_⟩
   rw [if_pos (by simp; omega)]
  ·rw [if_neg (by simp; omega)]
   obtain ⟨t,e,h⟩:=tT (b:=xB s) (fun i j=>j=(i:Int)∧∀k,(hk:k< (bl s).length)→k<i→zCh (bl s)[k]=true) (bl s).length (fun t=>match t with| .ret r=>r=5∧¬zAe s| .nxt _=>∀c∈bl s,zCh c=true) (by
    rintro i j hi ⟨rfl,hp⟩
    have hs:=zAy s
    unfold xB
    rw [if_pos (by simp; omega),zDW hi]
    simp only [Option.bind_some,jZ]
    cases hb:zCh (bl s)[i] with
    |false=>exact .inr ⟨_,rfl,rfl,fun h=>by have:=h.2.2 _ (List.getElem_mem hi); rw [hb] at this; cases this⟩
    |true=>
     rw [vX (by omega)]
     refine .inl ⟨_,rfl,rfl,fun k hk hki=>?_⟩
     rcases Nat.lt_or_ge k i with h|h
     ·exact hp k hk h
     ·have:k=i:=by omega
      subst this; exact hb) (by
    rintro j ⟨rfl,hp⟩
    unfold xB
    rw [if_neg (by simp [zAy])]
    refine ⟨_,rfl,fun c hc=>?_⟩
    obtain ⟨k,hk,rfl⟩:=List.getElem_of_mem hc
    exact hp k hk hk) (bl s).length 0 0 (by omega) ⟨rfl,fun k _ h=>by omega⟩
   simp only [yT,e,Option.bind_some]
   cases t with
   |ret r=>
    obtain ⟨rfl,h⟩:=h
    exact .inr ⟨h,rfl⟩
   |nxt u=>exact .inl ⟨⟨by omega,by omega,h⟩,rfl⟩
theorem jW (s:ByteArray):∃r,zV s=some r∧(r=0↔zAe s):=by
 rcases kC s with ⟨h1,h2⟩|⟨h1,h2⟩
 ·exact ⟨0,h2,by simp [h1]⟩
 ·exact ⟨5,h2,by simp [h1]⟩
def total (fs:List File):Int:=match fs with
 |[]=>0
 |f::fs=>f.Data.length+total fs
theorem uW:∀(l r:List File),total (l++r)=total l+total r
 |[],r=>by simp [total]
 |f::l,r=>by simp only [List.cons_append,total,uW l r]; omega
theorem uY:∀(l:List File),0≤total l
 |[]=>Int.le_refl _
 |f::l=>by have:=uY l; simp only [total]; omega
theorem zBA:∀{l:List File} {f:File},f∈l→(f.Data.length:Int)≤total l
 |g::l,f,h=>by
  rcases List.mem_cons.1 h with rfl|h
  ·have:=uY l; simp only [total]; omega
  ·have:=zBA h; simp only [total]; omega
theorem zCz:∀(l:List File) (C:Int),0≤C→(∀f∈l,(f.Data.length:Int)≤C)→total l≤l.length*C
 |[],C,_,_=>by simp [total]
 |f::l,C,hC,h=>by
  have h1:=h f (by simp)
  have h2:=zCz l C hC (fun g hg=>h g (by simp [hg]))
  simp only [total,List.length_cons,Int.natCast_add,Int.add_mul]
  omega
theorem kY (d:zA) (h:d.Files.length≤1048576) (hf:∀f∈d.Files,f.Data.length≤1048576):yQ d=some (total d.Files):=by
 have htot:=zCz d.Files 1048576 (by omega) (fun f hm=>by have:=hf f hm; omega)
 have hb:((d.Files.length:Int))*1048576≤1048576*1048576:=Int.mul_le_mul_of_nonneg_right (by omega) (by omega)
 obtain ⟨t,e,rfl⟩:=tT (b:=xU d) (fun i s=>s=(total (d.Files.take i),(i:Int))) d.Files.length (fun t=>t=total d.Files) (by
  rintro i s hi rfl
  unfold xU
  rw [if_pos (by simp; omega)]
  have hsplit:total (d.Files.take (i+1))=total (d.Files.take i)+d.Files[i].Data.length :=by
   rw [List.take_succ_eq_append_getElem hi,uW]
   simp [total]
  have hle:total d.Files=total (d.Files.take (i+1))+total (d.Files.drop (i+1)):=by rw [←uW,List.take_append_drop]
  have h1:=uY (d.Files.take i)
  have h2:=uY (d.Files.drop (i+1))
  simp only [wG hi,Option.bind_some]
  rw [uO (by omega) (by omega),vX (by omega)]
  exact .inl ⟨_,rfl,by rw [hsplit]⟩) (by
  rintro s rfl
  unfold xU
  rw [if_neg (by simp)]
  exact ⟨_,rfl,by simp⟩) d.Files.length 0 (0,0) (by omega) (by simp [total])
 simp only [yQ,wP,e,Option.bind_some]
theorem zCC (d:zA):yO d=yQ d:=rfl
structure zA.good (d:zA):Prop where
 b0:0≤d.Budget
 b1:d.Budget≤20000
 w0:0≤d.Writes
 w1:d.Writes≤1000000000
 s0: -1≤d.Stop
 s1:d.Stop≤1000000000
 len:d.Files.length≤120
 path:∀f∈d.Files,zAe f.Path
 data:∀f∈d.Files,f.Data.length≤4000
 sorted:d.Files.Pairwise (fun f g=>slt f.Path g.Path=true)
 room:total d.Files≤d.Budget
theorem zAN (d:zA):wK d=xA d:=by
 unfold wK xA
 have:xJ d=yV d:=by
  unfold xJ yV
  refine kT fun i=>?_
  unfold uS xD
  split
  ·cases hx:idx d.Files i with
   |none=>rfl
   |some x=>simp only [Option.bind_some,jJ]
  ·rfl
 rw [this]
 rfl
theorem zD3 {xs:List File} (h:∀i,(hi:i+1<xs.length)→slt xs[i].Path xs[i+1].Path =true):xs.Pairwise (fun f g=>slt f.Path g.Path=true):=by
 induction xs with
 |nil=>exact .nil
 |cons x xs ih=>
  have h':∀i,(hi:i+1<xs.length)→slt xs[i].Path xs[i+1].Path =true:=fun i hi=>h (i+1) (by simp; omega)
  have ih':=ih h'
  refine .cons ?_ ih'
  cases xs with
  |nil=>simp
  |cons y ys=>
   have hxy:slt x.Path y.Path=true:=by simpa using h 0 (by simp)
   intro z hz
   rcases List.mem_cons.1 hz with rfl|hz
   ·exact hxy
   ·exact kM hxy ((List.pairwise_cons.1 ih').1 z hz)
theorem zAK (d:zA) (h:d.Files.length≤1048576):∃c,xA d=some c∧(c=0→d.good):=by
 unfold xA
 simp only [zF7,Option.bind_some]
 by_cases hB:0≤d.Budget∧d.Budget≤20000
 ·by_cases hW:0≤d.Writes∧d.Writes≤1000000000
  ·by_cases hS: -1≤d.Stop∧d.Stop≤1000000000
   ·simp [hB.1,hB.2,hW.1,hW.2,hS.1,hS.2]
    by_cases hl:120<d.Files.length
    ·rw [if_pos (by omega)]
     exact ⟨2,rfl,by simp⟩
    ·rw [if_neg (by omega)]
     obtain ⟨t,e,ht⟩:=tT (b:=xD d) (fun i s=>s=(i:Int)∧(∀j,(hj:j<d.Files.length)→j<i→zAe d.Files[j].Path ∧d.Files[j].Data.length ≤4000)∧∀j,(hj:j+1<d.Files.length)→j+1<i→slt d.Files[j].Path d.Files[j+1].Path =true) d.Files.length
      (fun t=>match t with| .ret r=>r≠0| .nxt _=>(∀f∈d.Files,zAe f.Path∧f.Data.length≤4000)∧d.Files.Pairwise (fun f g=>slt f.Path g.Path=true)) (by
      rintro i s hi ⟨rfl,h1,h2⟩
      unfold xD
      rw [if_pos (by simp; omega)]
      obtain ⟨r,hr,hr2⟩:=jW d.Files[i].Path
      simp only [wG hi,Option.bind_some,hr]
      by_cases hr0:r=0
      ·subst hr0
       rw [if_neg (by simp)]
       have key:∃q,(if decide ((i:Int)>0) then (idx d.Files (w64 ((i:Int)-1))).bind fun x39=>some (slt d.Files[i].Path x39.Path||seq d.Files[i].Path x39.Path) else some false)=some q∧(q=false→∀j,(hj:j+1<d.Files.length)→j+1<i+1→slt d.Files[j].Path d.Files[j+1].Path =true):=by
        by_cases hp:i=0
        ·subst hp
         exact ⟨false,by simp,fun _ j hj hji=>by omega⟩
        ·rw [if_pos (by simp; omega),uO (by omega) (by omega),show ((i:Int)-1)=((i-1:Nat):Int) by omega,wG (show i-1<d.Files.length by omega)]
         refine ⟨_,rfl,fun hq j hj hji=>?_⟩
         rcases Nat.lt_or_ge (j+1) i with hlt|hge
         ·exact h2 j hj hlt
         ·have hj1:j+1=i:=by omega
          subst hj1
          simp only [Bool.or_eq_false_iff] at hq
          have hq1:=hq.1
          have hq2:d.Files[j+1].Path ≠d.Files[j].Path :=fun e=>by
           have:=hq.2
           simp only [Nat.add_sub_cancel] at this
           rw [e] at this
           simp at this
          simp only [Nat.add_sub_cancel] at hq1
          exact zEM hq1 hq2
       obtain ⟨q,hq,hq2⟩:=key
       rw [hq]
       simp only [Option.bind_some]
       cases q with
       |true=>exact .inr ⟨_,rfl,by simp⟩
       |false=>
        by_cases hd:(d.Files[i].Data.length :Int)>4000
        ·exact .inr ⟨.ret 2,by rw [if_neg (by simp),if_pos (by simpa using hd)],by simp⟩
        ·refine .inl ⟨((i+1:Nat):Int),?_,rfl,fun j hj hji=>?_,hq2 rfl⟩
         ·rw [if_neg (by simp),if_neg (by simpa using hd),vX (by omega)]
         ·rcases Nat.lt_or_ge j i with h'|h'
          ·exact h1 j hj h'
          ·have:j=i:=by omega
           subst this
           exact ⟨hr2.1 rfl,by omega⟩
      ·rw [if_pos (by simpa using hr0)]
       exact .inr ⟨_,rfl,hr0⟩) (by
      rintro s ⟨rfl,h1,h2⟩
      unfold xD
      rw [if_neg (by simp)]
      refine ⟨_,rfl,fun f hf=>?_,zD3 (fun i hi=>h2 i hi hi)⟩
      obtain ⟨j,hj,rfl⟩:=List.getElem_of_mem hf
      exact h1 j hj hj) d.Files.length 0 0 (by omega) ⟨rfl,fun j _ h=>by omega,fun j _ h=>by omega⟩
     simp only [yV,e,Option.bind_some]
     cases t with
     |ret r=>exact ⟨r,rfl,fun h=>absurd h ht⟩
     |nxt u=>
      simp only [Fl.go]
      rw [kY d h (fun f hf=>by have:=(ht.1 f hf).2; omega)]
      simp only [Option.bind_some]
      by_cases hr:d.Budget<total d.Files
      ·rw [if_pos hr]
       exact ⟨8,rfl,by simp⟩
      ·rw [if_neg hr]
       exact ⟨0,rfl,fun _=>⟨hB.1,hB.2,hW.1,hW.2,hS.1,hS.2,by omega,fun f hf=>(ht.1 f hf).1,fun f hf=>(ht.1 f hf).2,ht.2,by omega⟩⟩
   ·refine ⟨3,?_,by simp⟩
    simp [hB.1,hB.2,hW.1,hW.2]
    intro a b
    exact absurd ⟨a,b⟩ hS
  ·refine ⟨3,?_,by simp⟩
   simp [hB.1,hB.2]
   rw [if_pos (by omega)]
   rfl
 ·refine ⟨3,?_,by simp⟩
  rw [if_pos (by simp; omega)]
  rfl
def zA.fits (d:zA):Prop:=d.Files.length≤1048576∧∀f∈d.Files,f.Data.length≤1048576
theorem zA.zDp {d:zA} (h:zA.sm 1048576 d):d.fits:=⟨h.1.1,fun f hf=>(h.1.2 f hf).2.1⟩
theorem zB2 (d:zA) (h:d.fits):wV d=some d:=by
 obtain ⟨h1,h2⟩:=h
 obtain ⟨t,e,rfl⟩:=tT (b:=wO d) (fun i s=>s=(d.Files.take i,(i:Int))) d.Files.length (fun t=>t=d.Files) (by
  rintro i s hi rfl
  have hl:(d.Files.take i).length =i:=by simp; omega
  have hd:=h2 _ (List.getElem_mem hi)
  have ha:app 1 ([]:List Int) d.Files[i].Data =some d.Files[i].Data :=zAw (by simp; omega) (by simp; omega)
  have hb:∀f:File,app 40 (d.Files.take i) [f]=some (d.Files.take i++[f]):=fun f=>zAw (by simp; omega) (by simp; omega)
  unfold wO
  rw [if_pos (by simp; omega)]
  simp only [wG hi,Option.bind_some,ha,hb,vX (show i<9223372036854775807 by omega)]
  exact .inl ⟨_,rfl,by rw [List.take_succ_eq_append_getElem hi]⟩) (by
  rintro s rfl
  unfold wO
  rw [if_neg (by simp)]
  exact ⟨_,rfl,by simp⟩) d.Files.length 0 ([],0) (by omega) (by simp)
 simp only [wV,wI,e,Option.bind_some]
theorem zC3 (d:zA):yR d=wV d:=by
 have:yX d=wI d:=by
  unfold yX wI
  refine kT fun s=>?_
  unfold vW wO zR
  split
  ·cases h:idx d.Files s.2 with
   |none=>rfl
   |some x=>
    simp only [Option.bind_some]
    cases h2:app 1 ([]:List Int) x.Data<;>rfl
  ·rfl
 unfold yR wV
 rw [this]
theorem zDA (d:zA) (h:d.fits):yR d=some d:=by rw [zC3,zB2 d h]
def zBZ (c:Int):zC:= {Code:=c,zA:= {Files:=[],Budget:=0,Writes:=0,Stop:=0,Down:=false}}
theorem zCw (c:Int):zC.sm 1049600 (zBZ c):=by simp [zC.sm,zA.sm,zBZ]
theorem zBo:∀(a b:List UInt8),(Lib.compareBytes a b<0↔Op.bytesLess a b=true)∧(Lib.compareBytes a b=0↔a=b)
 |[],[]=>by simp [Lib.compareBytes,Op.bytesLess]
 |[],_::_=>by simp [Lib.compareBytes,Op.bytesLess]
 |_::_,[]=>by simp [Lib.compareBytes,Op.bytesLess]
 |x::a,y::b=>by
  obtain ⟨ih1,ih2⟩:=zBo a b
  simp only [Lib.compareBytes,Op.bytesLess]
  by_cases h1:x<y
  ·simp [h1]
   intro e; subst e; exact absurd h1 (by simp [UInt8.lt_irrefl])
  ·by_cases h2:y<x
   ·simp [h1,h2]
    have hne:x≠y:=fun e=>by subst e; exact absurd h2 (by simp [UInt8.lt_irrefl])
    simp [hne]
   ·have e:x=y:=by
     rw [UInt8.lt_iff_toNat_lt] at h1 h2
     exact UInt8.toNat_inj.1 (by omega)
    subst e
    simp [UInt8.lt_irrefl,ih1,ih2]
theorem zCa (a b:ByteArray):zDV a b<0↔slt a b=true:=by
 unfold zDV slt
 rw [ByteArray.toList_eq,ByteArray.toList_eq]
 exact (zBo _ _).1
theorem zDJ (a b:ByteArray):zDV a b=0↔a=b:=by
 unfold zDV
 rw [(zBo _ _).2,←ByteArray.toList_eq,←ByteArray.toList_eq]
 exact ⟨toList_inj,fun e=>by rw [e]⟩
theorem zEH {i j:Int} (h0:0≤i) (h1:i≤j) (h2:j≤4611686018427387903):w64 ((IntKind.u64.wrap (w64 (i+j))).fdiv (2^(min (1:Int).toNat 64)))=(i+j) / 2:=by
 rw [uO (x:=i+j) (by omega) (by omega)]
 have e1:IntKind.u64.wrap (i+j)=i+j:=by
  simp only [IntKind.wrap,IntKind.signed,IntKind.bits]
  simp
  omega
 rw [e1]
 have e2:((2:Int)^(min (1:Int).toNat 64))=2:=by decide
 rw [e2,Int.fdiv_eq_ediv_of_nonneg _ (by omega)]
 exact uO (by omega) (by omega)
theorem zBa (f:File) (p:ByteArray):yH f p=some (zDV f.Path p):=rfl
theorem zBb (fs:List File) (p:ByteArray) (h:fs.length≤1048576):
  ∃(k:Nat) (b:Bool),zB fs p=some ((k:Int),b)∧k≤fs.length∧(b=true→∃hk:k<fs.length,fs[k].Path =p)∧
   (fs.Pairwise (fun f g=>slt f.Path g.Path=true)→(∀i,(hi:i<fs.length)→i<k→slt fs[i].Path p=true)∧(∀i,(hi:i<fs.length)→k≤i→slt fs[i].Path p=false)∧(b=false→∀f∈fs,f.Path≠p)):=by
 obtain ⟨t,e,k,rfl,hk,hs⟩:=zBJ (b:=zL fs p)
  (fun s=>∃i j:Nat,s=((i:Int),(j:Int))∧i≤j∧j≤fs.length∧(fs.Pairwise (fun f g=>slt f.Path g.Path=true)→(∀q,(hq:q<fs.length)→q<i→slt fs[q].Path p=true)∧(∀q,(hq:q<fs.length)→j≤q→slt fs[q].Path p=false)))
  (fun s=>(s.2-s.1).toNat)
  (fun t=>∃k:Nat,t=(k:Int)∧k≤fs.length∧(fs.Pairwise (fun f g=>slt f.Path g.Path=true)→(∀q,(hq:q<fs.length)→q<k→slt fs[q].Path p=true)∧(∀q,(hq:q<fs.length)→k≤q→slt fs[q].Path p=false))) (by
  rintro s ⟨i,j,rfl,hij,hj,hP⟩
  unfold zL
  by_cases hlt:i<j
  ·left
   rw [if_pos (by simp; omega)]
   simp only
   rw [zEH (by omega) (by omega) (by omega)]
   have hm:(((i:Int)+(j:Int)) / 2)=(((i+j) / 2:Nat):Int):=by omega
   rw [hm]
   have hmj:(i+j) / 2<j:=by omega
   have him:i≤(i+j) / 2:=by omega
   generalize (i+j) / 2=m at*
   have hmn:m<fs.length:=by omega
   simp only [wG hmn,Option.bind_some,zBa]
   by_cases hc:zDV fs[m].Path p<0
   ·rw [if_pos (by simpa using hc),vX (by omega)]
    refine ⟨_,rfl,⟨m+1,j,rfl,by omega,hj,fun hso=>?_⟩,by simp; omega⟩
    obtain ⟨g1,g2⟩:=hP hso
    refine ⟨fun q hq hqm=>?_,g2⟩
    have hl:=(zCa _ _).1 hc
    rcases Nat.lt_or_ge q m with h'|h'
    ·exact kM (List.pairwise_iff_getElem.1 hso q m hq hmn h') hl
    ·have:q=m:=by omega
     subst this; exact hl
   ·rw [if_neg (by simpa using hc)]
    refine ⟨_,rfl,⟨i,m,rfl,by omega,by omega,fun hso=>?_⟩,by simp; omega⟩
    obtain ⟨g1,g2⟩:=hP hso
    refine ⟨g1,fun q hq hmq=>?_⟩
    have hl:slt fs[m].Path p=false:=by
     cases h':slt fs[m].Path p with
     |false=>rfl
     |true=>exact absurd ((zCa _ _).2 h') hc
    rcases Nat.lt_or_ge m q with h'|h'
    ·cases hq2:slt fs[q].Path p with
     |false=>rfl
     |true=>
      have:=kM (List.pairwise_iff_getElem.1 hso m q hmn hq h') hq2
      rw [hl] at this; cases this
    ·have:q=m:=by omega
     subst this; exact hl
  ·right
   rw [if_neg (by simp; omega)]
   have:i=j:=by omega
   subst this
   exact ⟨_,rfl,i,rfl,by omega,hP⟩) fs.length (0,(fs.length:Int)) (by simp) ⟨0,fs.length,rfl,by omega,by omega,fun _=>⟨fun q _ h=>by omega,fun q hq h=>by omega⟩⟩
 unfold zB
 rw [show zH fs p (0,(fs.length:Int))=some (k:Int) from e]
 simp only [Option.bind_some]
 by_cases hkn:k<fs.length
 ·rw [if_pos (by simpa using hkn)]
  simp only [wG hkn,Option.bind_some,zBa]
  refine ⟨k,_,rfl,hk,fun hb=>⟨hkn,(zDJ _ _).1 (by simpa using hb)⟩,fun hso=>⟨(hs hso).1,(hs hso).2,fun hb f hf hfp=>?_⟩⟩
  have hne:zDV fs[k].Path p≠0:=by simpa using hb
  obtain ⟨q,hq,rfl⟩:=List.getElem_of_mem hf
  rcases Nat.lt_trichotomy q k with h'|h'|h'
  ·have:=(hs hso).1 q hq h'
   rw [hfp,jT] at this; cases this
  ·subst h'; exact hne ((zDJ _ _).2 hfp)
  ·have h1:=List.pairwise_iff_getElem.1 hso k q hkn hq h'
   have h2:=(hs hso).2 k hkn (Nat.le_refl _)
   rw [hfp] at h1
   rw [h1] at h2; cases h2
 ·rw [if_neg (by simpa using hkn)]
  refine ⟨k,false,rfl,hk,(fun hb=>by cases hb),fun hso=>⟨(hs hso).1,(hs hso).2,fun _ f hf hfp=>?_⟩⟩
  obtain ⟨q,hq,rfl⟩:=List.getElem_of_mem hf
  have:=(hs hso).1 q hq (by omega)
  rw [hfp,jT] at this; cases this
theorem zBX (d:zA) (p:ByteArray) (h:d.Files.length≤1048576):
  (∃k:Nat,∃hk:k<d.Files.length,vP d p=some (k:Int)∧d.Files[k].Path =p)∨(vP d p=some (-1)∧∀f∈d.Files,f.Path≠p):=by
 obtain ⟨t,e,ht⟩:=tT (b:=vN d p) (fun i s=>s=(i:Int)∧∀q,(hq:q<d.Files.length)→q<i→d.Files[q].Path ≠p) d.Files.length
  (fun t=>match t with| .ret r=>∃k:Nat,∃hk:k<d.Files.length,r=(k:Int)∧d.Files[k].Path =p| .nxt _=>∀f∈d.Files,f.Path≠p) (by
  rintro i s hi ⟨rfl,hq⟩
  unfold vN
  rw [if_pos (by simp; omega)]
  simp only [wG hi,Option.bind_some]
  by_cases hp:d.Files[i].Path =p
  ·rw [if_pos (zDH.2 hp)]
   exact .inr ⟨_,rfl,i,hi,rfl,hp⟩
  ·rw [if_neg (fun h'=>hp (zDH.1 h')),vX (by omega)]
   refine .inl ⟨_,rfl,rfl,fun q hq' hqi=>?_⟩
   rcases Nat.lt_or_ge q i with h'|h'
   ·exact hq q hq' h'
   ·have:q=i:=by omega
    subst this; exact hp) (by
  rintro s ⟨rfl,hq⟩
  unfold vN
  rw [if_neg (by simp)]
  refine ⟨_,rfl,fun f hf=>?_⟩
  obtain ⟨q,hq',rfl⟩:=List.getElem_of_mem hf
  exact hq q hq' hq') d.Files.length 0 0 (by omega) ⟨rfl,fun q _ h=>by omega⟩
 unfold vP
 rw [show tV d p 0=some t from e]
 cases t with
 |ret r=>
  obtain ⟨k,hk,rfl,hp⟩:=ht
  exact .inl ⟨k,hk,rfl,hp⟩
 |nxt _=>exact .inr ⟨rfl,ht⟩
theorem zCT {fs:List File} (hs:fs.Pairwise (fun f g=>slt f.Path g.Path=true)) {i j:Nat} (hi:i<fs.length) (hj:j<fs.length) (h:fs[i].Path =fs[j].Path):i=j:=by
 rcases Nat.lt_trichotomy i j with h'|h'|h'
 ·have:=List.pairwise_iff_getElem.1 hs i j hi hj h'
  rw [h,jT] at this; cases this
 ·exact h'
 ·have:=List.pairwise_iff_getElem.1 hs j i hj hi h'
  rw [h,jT] at this; cases this
theorem zCO (d:zA) (p:ByteArray) (hl0:d.Files.length≤120) (hso:d.Files.Pairwise (fun f g=>slt f.Path g.Path=true)):
  (∃k:Nat,∃hk:k<d.Files.length,vP d p=some (k:Int)∧zB d.Files p=some ((k:Int),true)∧d.Files[k].Path =p)∨
   (vP d p=some (-1)∧(∀f∈d.Files,f.Path≠p)∧∃k:Nat,zB d.Files p=some ((k:Int),false)∧k≤d.Files.length∧(∀i,(hi:i<d.Files.length)→i<k→slt d.Files[i].Path p=true)∧(∀i,(hi:i<d.Files.length)→k≤i→slt d.Files[i].Path p=false)):=by
 have hl:d.Files.length≤1048576:=by omega
 obtain ⟨k,b,e,hk,h1,h2⟩:=zBb d.Files p hl
 obtain ⟨g1,g2,g3⟩:=h2 hso
 rcases zBX d p hl with ⟨q,hq,e2,hp⟩|⟨e2,hp⟩
 ·left
  cases b with
  |false=>exact absurd hp (g3 rfl _ (List.getElem_mem hq))
  |true=>
   obtain ⟨hk',hp'⟩:=h1 rfl
   have:q=k:=zCT hso hq hk' (by rw [hp,hp'])
   subst this
   exact ⟨q,hq,e2,e,hp⟩
 ·right
  cases b with
  |true=>
   obtain ⟨hk',hp'⟩:=h1 rfl
   exact absurd hp' (hp _ (List.getElem_mem hk'))
  |false=>exact ⟨e2,hp,k,e,hk,g1,g2⟩
theorem zD6 (d:zA) (p:ByteArray) (h:d.Files.length≤1048576):∃r,yY d p=some r:=by
 obtain ⟨k,b,e,hk,h1,_⟩:=zBb d.Files p h
 unfold yY yD
 rw [e]
 cases b with
 |false=>exact ⟨_,rfl⟩
 |true=>
  obtain ⟨hk',_⟩:=h1 rfl
  simp only [Option.bind_some,Bool.not_true,Bool.false_eq_true,if_false,wG hk']
  exact ⟨_,rfl⟩
structure zA.fine (d:zA):Prop where
 b1:d.Budget≤20000
 w0:0≤d.Writes
 w1:d.Writes≤2000000000
 s0: -1≤d.Stop
 len:d.Files.length≤120
 data:∀f∈d.Files,f.Data.length≤4000
 sorted:d.Files.Pairwise (fun f g=>slt f.Path g.Path=true)
 room:total d.Files≤d.Budget
theorem zA.good.fine {d:zA} (h:d.good):d.fine:=⟨h.b1,h.w0,by have:=h.w1; omega,h.s0,h.len,h.data,h.sorted,h.room⟩
theorem zDq {a b:ByteArray} (h:slt a b=false) (hne:a≠b):slt b a=true:=by
 cases h2:slt b a with
 |true=>rfl
 |false=>
  have c1:¬zDV a b<0:=fun hc=>by rw [(zCa a b).1 hc] at h; cases h
  have key:∀(x y:List UInt8),Op.bytesLess x y=false→Op.bytesLess y x=false→x=y:=by
   intro x
   induction x with
   |nil=>intro y; cases y<;>simp [Op.bytesLess]
   |cons u x ih=>
    intro y
    cases y with
    |nil=>simp [Op.bytesLess]
    |cons v y=>
     simp only [Op.bytesLess]
     intro e1 e2
     have e3:¬u<v:=fun hh=>by simp [hh] at e1
     have e4:¬v<u:=fun hh=>by simp [hh] at e2
     rw [UInt8.lt_iff_toNat_lt] at e3 e4
     have e5:u=v:=UInt8.toNat_inj.1 (by omega)
     subst e5
     simp [UInt8.lt_irrefl] at e1 e2
     rw [ih y e1 e2]
  exfalso
  apply hne
  unfold slt at h h2
  exact toList_inj (key _ _ h h2)
theorem zCB {fs:List File} {p:ByteArray} {x:List Int} {k:Nat} (hs:fs.Pairwise (fun f g=>slt f.Path g.Path=true)) (hn:∀f∈fs,f.Path≠p) (h1:∀i,(hi:i<fs.length)→i<k→slt fs[i].Path p=true) (h2:∀i,(hi:i<fs.length)→k≤i→slt fs[i].Path p=false):
  (fs.take k++(({Path:=p,Data:=x}:File)::fs.drop k)).Pairwise (fun f g=>slt f.Path g.Path=true):=by
 have ht:∀f∈fs.take k,slt f.Path p=true:=fun f hf=>by
  obtain ⟨i,hi,rfl⟩:=List.getElem_of_mem hf
  rw [List.getElem_take]
  rw [List.length_take] at hi
  exact h1 i (by omega) (by omega)
 have hd:∀f∈fs.drop k,slt p f.Path=true:=fun f hf=>by
  have hm:=List.mem_of_mem_drop hf
  obtain ⟨i,hi,rfl⟩:=List.getElem_of_mem hf
  rw [List.getElem_drop] at hm ⊢
  rw [List.length_drop] at hi
  exact zDq (h2 (k+i) (by omega) (by omega)) (hn _ hm)
 refine List.pairwise_append.2 ⟨List.Pairwise.sublist (List.take_sublist _ _) hs,List.pairwise_cons.2 ⟨hd,List.Pairwise.sublist (List.drop_sublist _ _) hs⟩,?_⟩
 intro a ha b hb
 rcases List.mem_cons.1 hb with rfl|hb
 ·exact ht a ha
 ·exact kM (ht a ha) (hd b hb)
theorem zDb {fs:List File} {k:Nat} (hk:k<fs.length) (g:File):total (fs.set k g)=total fs-fs[k].Data.length +g.Data.length:=by
 rw [List.set_eq_take_append_cons_drop,if_pos hk]
 have h:=congrArg total (show fs.take k++fs[k]::fs.drop (k+1)=fs by rw [←List.drop_eq_getElem_cons hk,List.take_append_drop])
 rw [uW] at h ⊢
 simp only [total] at h ⊢
 omega
theorem zDc (fs:List File) (k:Nat) (g:File):total (fs.take k++(g::fs.drop k))=total fs+g.Data.length:=by
 conv=>rhs; rw [←List.take_append_drop k fs]
 simp only [uW,total]
 omega
theorem zE6 {d:zA} (hf:d.fine) (hd:d.Down=false):uL d=some (if decide (d.Stop≥0)&&decide (d.Writes≥d.Stop) then (false,{d with Down:=true}) else (true,{d with Writes:=d.Writes+1})):=by
 unfold uL
 rw [hd]
 simp only [Bool.false_eq_true,if_false]
 have h0:=hf.s0
 by_cases h1:d.Stop= -1
 ·have h2:¬(d.Stop≥0):=by omega
  simp [h1]
  exact uO (by have:=hf.w0; omega) (by have:=hf.w1; omega)
 ·have h2:d.Stop≥0:=by omega
  have h3:(d.Stop != -1)=true:=by simpa using h1
  simp only [h3,if_true,Option.bind_some,h2,decide_true,Bool.true_and]
  cases decide (d.Writes≥d.Stop)
  ·simp only [Bool.false_eq_true,if_false]
   rw [uO (by have:=hf.w0; omega) (by have:=hf.w1; omega)]
  ·simp only [if_true]
def wrote (d:zA) (p:ByteArray) (x:List Int) (r:Int×zA):Prop:=
 (r.1=0∧r.2.Down=false∧r.2.Writes=d.Writes+1∧r.2.Budget=d.Budget∧r.2.Stop=d.Stop∧r.2.Files.length≤120∧r.2.Files.Pairwise (fun f g=>slt f.Path g.Path=true)∧total r.2.Files≤d.Budget∧x.length≤4000∧
  (∀f∈r.2.Files,f∈d.Files∨f= {Path:=p,Data:=x})∧(∃f∈r.2.Files,f= {Path:=p,Data:=x})∧∀f∈d.Files,f.Path≠p→f∈r.2.Files)∨
 (r.1=9∧r.2= {d with Down:=true})∨((r.1=2∨r.1=8)∧r.2=d)
theorem zCI {d:zA} (hf:d.fine) (hdn:d.Down=false) {p:ByteArray} {x:List Int} (hp:zAe p) (hx:x.length≤1048576):
  ∃r:Int×zA,xZ d p x=some r∧zZ d p x=some r∧wrote d p x r:=by
 obtain ⟨fs,bu,wr,st,dn⟩:=d
 simp only at hdn
 subst hdn
 have hl:=hf.len; have hsz:=hf.data; have hro:=hf.room; have hb1:=hf.b1; have hw0:=hf.w0; have hw1:=hf.w1; have hs0:=hf.s0; have hso:=hf.sorted
 simp only at hl hsz hro hb1 hw0 hw1 hs0 hso
 have hn:=uY fs
 have hPF:yL p=some 0:=by
  rw [jJ]
  obtain ⟨r,e,hr⟩:=jW p
  rw [e,hr.2 hp]
 have hT2:yO {Files:=fs,Budget:=bu,Writes:=wr,Stop:=st,Down:=false}=some (total fs):=by
  rw [zCC]
  exact kY _ (by simp only; omega) (fun f hm=>by have:=hsz f hm; omega)
 have hT1:yQ {Files:=fs,Budget:=bu,Writes:=wr,Stop:=st,Down:=false}=some (total fs):=
  kY _ (by simp only; omega) (fun f hm=>by have:=hsz f hm; omega)
 have hR:=zE6 hf rfl
 simp only at hR
 have hcl:zR x=some x:=by
  unfold zR
  rw [zAw (by simp; omega) (by simp; omega)]
  rfl
 have hap:app 1 ([]:List Int) x=some x:=by rw [zAw (by simp; omega) (by simp; omega)]; rfl
 have hw:w64 (wr+1)=wr+1:=uO (by omega) (by omega)
 rcases zCO {Files:=fs,Budget:=bu,Writes:=wr,Stop:=st,Down:=false} p hl hso with ⟨k,hk,e1,e2,hpk⟩|⟨e1,hno,k,e2,hk,g1,g2⟩
 ·simp only at hk e2 hpk
  have hdk:=hsz _ (List.getElem_mem hk)
  have hmk:=zBA (List.getElem_mem hk)
  have ha:w64 (w64 (total fs-(fs[k].Data.length :Int))+(x.length:Int))=total fs-fs[k].Data.length +x.length:=by
   rw [uO (x:=total fs-(fs[k].Data.length :Int)) (by omega) (by omega)]
   exact uO (by omega) (by omega)
  have hk0:decide ((k:Int)≥0)=true:=by simp
  have hk1:decide ((k:Int)<0)=false:=by simp
  unfold xZ zZ zK yG xL yY yD
  simp only [e1,e2,Option.bind_some,hPF,hT1,hT2,hR,hk0,hk1,if_true,wG hk,Int.toNat_natCast,ha,hap,hcl,Bool.not_true,Bool.false_eq_true,if_false,bne_self_eq_false,hw]
  by_cases c1:(x.length:Int)>4000
  ·simp only [c1,decide_true,if_true,Option.bind_some]
   exact ⟨_,rfl,rfl,.inr (.inr ⟨.inl rfl,rfl⟩)⟩
  ·simp only [c1,decide_false,Bool.false_eq_true,if_false,Option.bind_some]
   by_cases c2:total fs-(fs[k].Data.length :Int)+(x.length:Int)>bu
   ·simp only [c2,decide_true,if_true]
    exact ⟨_,rfl,rfl,.inr (.inr ⟨.inr rfl,rfl⟩)⟩
   ·simp only [c2,decide_false,Bool.false_eq_true,if_false]
    cases c3:(decide (st≥0)&&decide (wr≥st))
    ·have c4:(if decide (st≥0) then some (decide (wr≥st)) else some false)=some false:=by
      cases h:decide (st≥0)<;>simp [h] at c3 ⊢
      exact c3
     rw [c4]
     simp only [Option.bind_some,Bool.false_eq_true,if_false,Bool.not_true,wG hk,hpk]
     refine ⟨_,rfl,rfl,.inl ⟨rfl,rfl,rfl,rfl,rfl,by simpa using hl,?_,?_,by omega,?_,?_,?_⟩⟩
     ·simp only
      rw [List.pairwise_iff_getElem] at hso ⊢
      intro i j hi hj hij
      simp only [List.length_set] at hi hj
      rw [List.getElem_set,List.getElem_set]
      have h:=hso i j hi hj hij
      split<;>split
      ·omega
      ·rename_i a b; subst a; simpa [hpk] using h
      ·rename_i a b; subst b; simpa [hpk] using h
      ·exact h
     ·simp only
      rw [zDb hk]
      simp only
      omega
     ·intro f hm
      rcases List.mem_or_eq_of_mem_set hm with h|h
      ·exact .inl h
      ·exact .inr h
     ·exact ⟨_,List.mem_set hk _,rfl⟩
     ·intro f hm hne
      simp only
      obtain ⟨i,hi,rfl⟩:=List.getElem_of_mem hm
      have:k≠i:=fun e=>by subst e; exact hne hpk
      refine List.mem_iff_getElem.2 ⟨i,by simpa using hi,?_⟩
      rw [List.getElem_set_ne this]
    ·have c4:(if decide (st≥0) then some (decide (wr≥st)) else some false)=some true:=by
      cases h:decide (st≥0)<;>simp [h] at c3 ⊢
      exact c3
     rw [c4]
     simp only [Option.bind_some,if_true,Bool.not_false]
     exact ⟨_,rfl,rfl,.inr (.inl ⟨rfl,rfl⟩)⟩
 ·simp only at hk e2 hno g1 g2
  have ha:w64 (w64 (total fs-0)+(x.length:Int))=total fs+x.length:=by
   rw [uO (x:=total fs-0) (by omega) (by omega)]
   rw [uO (by omega) (by omega)]; omega
  have ha':w64 (w64 (total fs-(([]:List Int).length :Int))+(x.length:Int))=total fs+x.length:=ha
  have hk0:decide ((-1:Int)≥0)=false:=by decide
  have hk1:decide ((-1:Int)<0)=true:=by decide
  have hlp:vC p (true,{Files:=fs,Budget:=bu,Writes:=wr+1,Stop:=st,Down:=false}) x 0=some (k:Int):=by
   obtain ⟨t,e,rfl⟩:=tT (b:=wN p (true,{Files:=fs,Budget:=bu,Writes:=wr+1,Stop:=st,Down:=false}) x) (fun i s=>s=(i:Int)∧i≤k) k (fun t=>t=(k:Int)) (by
    rintro i s hi ⟨rfl,_⟩
    unfold wN
    have hif:i<fs.length:=by omega
    rw [if_pos (by simp; omega)]
    simp only [wG hif,Option.bind_some,g1 i hif hi,if_true]
    exact .inl ⟨_,rfl,vX (by omega),by omega⟩) (by
    rintro s ⟨rfl,_⟩
    unfold wN
    by_cases hkl:k<fs.length
    ·rw [if_pos (by simp; omega)]
     simp only [wG hkl,Option.bind_some,g2 k hkl (Nat.le_refl _),Bool.false_eq_true,if_false]
     exact ⟨_,rfl,rfl⟩
    ·rw [if_neg (by simp; omega)]
     exact ⟨_,rfl,rfl⟩) k 0 0 (by omega) ⟨rfl,by omega⟩
   exact e
  have hs1:zDK fs 0 (k:Int)=some (fs.take k):=by
   unfold zDK
   rw [if_pos ⟨by omega,by omega,by omega⟩]
   simp
  have hs2:zDK fs (k:Int) (fs.length:Int)=some (fs.drop k):=by
   unfold zDK
   rw [if_pos ⟨by omega,by omega,by omega⟩]
   simp
   exact List.take_of_length_le (by simp)
  have hA1:app 40 ([]:List File) (fs.take k)=some (fs.take k):=by rw [zAw (by simp; omega) (by simp; omega)]; rfl
  have hA2:∀g:File,app 40 (fs.take k) [g]=some (fs.take k++[g]):=fun g=>zAw (by simp; omega) (by simp; omega)
  have hA3:∀g:File,app 40 (fs.take k++[g]) (fs.drop k)=some (fs.take k++(g::fs.drop k)):=fun g=>by
   rw [zAw (by simp; omega) (by simp; omega)]; simp
  have hI:∀g:File,yF fs (k:Int) [g]=some (fs.take k++(g::fs.drop k)):=fun g=>by
   unfold yF
   rw [if_pos ⟨by omega,by omega,by simp,by simp; omega⟩]
   simp
  have hget:∀g:File,idx (fs.take k++(g::fs.drop k)) (k:Int)=some g:=fun g=>by
   have hlk:(fs.take k).length =k:=by simp; omega
   rw [wG (show k< (fs.take k++(g::fs.drop k)).length by simp; omega)]
   rw [List.getElem_append_right (by omega)]
   simp [hlk]
  have hset:∀g g':File,(fs.take k++(g::fs.drop k)).set k g'=fs.take k++(g'::fs.drop k):=fun g g'=>by
   have hlk:(fs.take k).length =k:=by simp; omega
   rw [List.set_append_right _ _ (by omega)]
   simp [hlk]
  unfold xZ zZ zK yG xL yY yD
  simp only [e1,e2,Option.bind_some,hPF,hT1,hT2,hR,hk0,hk1,if_true,ha,ha',hap,hcl,Bool.not_false,Bool.false_eq_true,if_false,bne_self_eq_false]
  have h120:decide ((fs.length:Int)≥120)=((fs.length:Int)==120):=by
   by_cases h:(fs.length:Int)=120
   ·simp [h]
   ·have:¬((fs.length:Int)≥120):=by omega
    simp [h,this]
  by_cases c1:(x.length:Int)>4000
  ·simp only [c1,decide_true,if_true,Option.bind_some]
   exact ⟨_,rfl,rfl,.inr (.inr ⟨.inl rfl,rfl⟩)⟩
  ·simp only [c1,decide_false,Bool.false_eq_true,if_false,Option.bind_some,h120]
   cases c0:((fs.length:Int)==120)
   ·have hlt:fs.length<120:=by
     have:(fs.length:Int)≠120:=by simpa using c0
     omega
    simp only [Bool.false_eq_true,if_false]
    by_cases c2:total fs+(x.length:Int)>bu
    ·simp only [c2,decide_true,if_true]
     exact ⟨_,rfl,rfl,.inr (.inr ⟨.inr rfl,rfl⟩)⟩
    ·simp only [c2,decide_false,Bool.false_eq_true,if_false]
     cases c3:(decide (st≥0)&&decide (wr≥st))
     ·have c4:(if decide (st≥0) then some (decide (wr≥st)) else some false)=some false:=by
       cases h:decide (st≥0)<;>simp [h] at c3 ⊢
       exact c3
      rw [c4]
      simp only [Option.bind_some,Bool.false_eq_true,if_false,Bool.not_true,hlp,hs1,hs2,hA1,hA2,hA3,hI,hget,Int.toNat_natCast,hset,hw]
      refine ⟨_,rfl,rfl,.inl ⟨rfl,rfl,rfl,rfl,rfl,by simp; omega,zCB hso hno g1 g2,?_,by omega,?_,?_,?_⟩⟩
      ·simp only
       rw [zDc]
       simp only
       omega
      ·intro f hm
       simp only [List.mem_append,List.mem_cons] at hm
       rcases hm with h|h|h
       ·exact .inl (List.mem_of_mem_take h)
       ·exact .inr h
       ·exact .inl (List.mem_of_mem_drop h)
      ·exact ⟨_,by simp,rfl⟩
      ·intro f hm _
       simp only [List.mem_append,List.mem_cons]
       have:f∈fs.take k++fs.drop k:=by rw [List.take_append_drop]; exact hm
       rcases List.mem_append.1 this with h|h
       ·exact .inl h
       ·exact .inr (.inr h)
     ·have c4:(if decide (st≥0) then some (decide (wr≥st)) else some false)=some true:=by
       cases h:decide (st≥0)<;>simp [h] at c3 ⊢
       exact c3
      rw [c4]
      simp only [Option.bind_some,if_true,Bool.not_false]
      exact ⟨_,rfl,rfl,.inr (.inl ⟨rfl,rfl⟩)⟩
   ·simp only [if_true]
    exact ⟨_,rfl,rfl,.inr (.inr ⟨.inl rfl,rfl⟩)⟩
theorem zDY {d:zA} {p:ByteArray} {x:List Int} {r:Int×zA} (hd:zA.sm 1048576 d) (hp:p.size≤1048576) (h:wrote d p x r):zC.sm 1049600 {Code:=r.1,zA:=r.2}:=by
 have hm:=zA.zBj hd
 rcases h with ⟨_,h2,h3,h4,h5,h6,_,_,h9,h10,_⟩|⟨_,h2⟩|⟨_,h2⟩
 ·refine ⟨trivial,⟨by simp only; omega,fun f hf=>?_⟩,trivial,trivial,trivial,trivial⟩
  rcases h10 f hf with h|rfl
  ·exact hm.1.2 f h
  ·exact ⟨by simp only; omega,by simp only; omega,fun _ _=>trivial⟩
 ·rw [h2]; exact ⟨trivial,hm⟩
 ·rw [h2]; exact ⟨trivial,hm⟩
theorem zE5 {r:Int×zA} (h:zC.sm 1049600 {Code:=r.1,zA:=r.2}):zC.sm 1049600 (if r.1 !=0&&r.1 !=9 then zBZ r.1 else {Code:=r.1,zA:=r.2}):=by
 split
 ·exact zCw _
 ·exact h
theorem zBP (d:zA) (c:Int):vE d c=some (if c !=0&&c !=9 then zBZ c else {Code:=c,zA:=d}):=by
 unfold vE zBZ
 cases c !=0
 ·rfl
 ·cases c !=9<;>rfl
theorem zBG (d:zA) (c:Int):uX d c=some (if c !=0&&c !=9 then zBZ c else {Code:=c,zA:=d}):=by
 unfold uX zBZ
 cases c !=0
 ·rfl
 ·cases c !=9<;>rfl
theorem zAI (a1:zA) (a2:ByteArray) (a3:(List Int)) (k0:zA.ok a1) (k1:a2.size≤maxLen) (k2:a3.length≤maxLen∧∀y1∈a3,IntKind.u8.min≤y1∧y1≤IntKind.u8.max) (s0:(zA.sm 1048576 a1)) (s1:(a2.size≤1048576)) (s2:(a3.length≤1048576∧∀y0∈a3,True)):∃r,xG a1 a2 a3=some r∧yK a1 a2 a3=some r∧(zC.sm 1049600 r):=by
 obtain ⟨k,ek,hk⟩:=zAK a1 s0.1.1
 have hnone:∀q:Int,zC.sm 1049600 {Code:=q,zA:= {Files:=[],Budget:=0,Writes:=0,Stop:=0,Down:=false}}:=zCw
 unfold xG yK zP uP
 rw [zAN,ek]
 simp only [Option.bind_some]
 by_cases h1:k=0
 ·subst h1
  have hg:=hk rfl
  simp only [bne_self_eq_false,Bool.false_eq_true,if_false,beq_self_eq_true,if_true,Option.bind_some]
  cases hdn:a1.Down
  ·simp only [Bool.false_eq_true,if_false,bne_self_eq_false,Option.bind_some]
   rw [zDA a1 (zA.zDp s0),zB2 a1 (zA.zDp s0)]
   simp only [Option.bind_some]
   unfold xI
   rcases kC a2 with ⟨hp,e⟩|⟨_,e⟩
   ·obtain ⟨r,w1,w2,w3⟩:=zCI hg.fine hdn hp (x:=a3) s2.1
    rw [e,w1,w2]
    simp only [Option.bind_some,bne_self_eq_false,Bool.false_eq_true,if_false,zBP,zBG]
    exact ⟨_,rfl,rfl,zE5 (zDY s0 s1 w3)⟩
   ·obtain ⟨r,er⟩:=zD6 a1 a2 s0.1.1
    unfold zZ
    rw [jJ,e,er]
    simp only [Option.bind_some,zBG]
    exact ⟨_,rfl,rfl,hnone 5⟩
  ·simp only [if_true,Option.bind_some]
   exact ⟨_,rfl,rfl,hnone 9⟩
 ·have hk:(k !=0)=true:=by simpa using h1
  have hk':(k==0)=false:=by simpa using h1
  simp only [hk,hk',if_true,Option.bind_some,Bool.false_eq_true,if_false]
  exact ⟨_,rfl,rfl,hnone k⟩
theorem jV (a1:zA) (a2:ByteArray) (a3:(List Int)) (k0:zA.ok a1) (k1:a2.size≤maxLen) (k2:a3.length≤maxLen∧∀y1∈a3,IntKind.u8.min≤y1∧y1≤IntKind.u8.max):zX a1 a2 a3=some true:=jH a1 a2 a3 k0 k1 k2 (zAI a1 a2 a3 k0 k1 k2)
end Go.Told

import Derived.Test.YtoofajgeacebgaaGreatToldLeastSteps
set_option linter.unusedVariables false
set_option maxRecDepth 4000
namespace Go.Told
open Go Go.Im
theorem zCA {x:Int} (h1: -9223372036854775808≤x) (h2:x≤9223372036854775807):w64 x=x:=by
 unfold w64
 rw [IntKind.wrap_i64]
 omega
theorem zN {i:Nat} (h:i<9223372036854775807):w64 ((i:Int)+1)=((i+1:Nat):Int):=by
 rw [zCA (by omega) (by omega)]; omega
theorem jW {T:Type} {S:Type} {b:S→Option (Lp S T)} (I:Nat→S→Prop) (n:Nat) (Q:T→Prop) (hstep:∀i s,i<n→I i s→(∃s',b s=some (.go s')∧I (i+1) s')∨∃t,b s=some (.done t)∧Q t)
  (hend:∀s,I n s→∃t,b s=some (.done t)∧Q t):∀(k i:Nat) (s:S),i+k=n→I i s→∃t,loop b s=some t∧Q t
 |0,i,s,hk,hI=>by
  obtain ⟨t,h1,h2⟩:=hend s (by rw [show n=i by omega]; exact hI)
  exact ⟨t,by rw [jH,h1]; rfl,h2⟩
 |k+1,i,s,hk,hI=>by
  rcases hstep i s (by omega) hI with ⟨s',h1,h2⟩|⟨t,h1,h2⟩
  ·obtain ⟨t,h3,h4⟩:=jW I n Q hstep hend k (i+1) s' (by omega) h2
   exact ⟨t,by rw [jH,h1]; exact h3,h4⟩
  ·exact ⟨t,by rw [jH,h1]; rfl,h2⟩
theorem zJ {α:Type} {xs:List α} {i:Nat} (h:i<xs.length):idx xs (i:Int)=some xs[i]:=by
 unfold idx
 rw [if_pos (by omega)]
 simp [h]
theorem zHA {α:Type} (xs:List α) {b:(List α×Int)→Option (Lp (List α×Int) (List α))} (hstep:∀(ys:List α) (i:Nat) (hi:i<xs.length),ys.length=xs.length→b (ys,(i:Int))=some (.go (ys.set i xs[i],((i+1:Nat):Int))))
  (hend:∀ys:List α,ys.length=xs.length→b (ys,(xs.length:Int))=some (.done ys)) (y0:List α) (h0:y0.length=xs.length):loop b (y0,0)=some xs:=by
 obtain ⟨t,h1,h2⟩:=jW (b:=b) (fun i s=>s.2=(i:Int)∧s.1.length=xs.length∧s.1.take i=xs.take i) xs.length (fun t=>t=xs) (by
  rintro i ⟨ys,j⟩ hi ⟨hj,hl,hp⟩
  simp only at hj hl hp
  subst hj
  refine .inl ⟨_,hstep ys i hi hl,rfl,by simpa using hl,?_⟩
  simp only
  rw [List.take_succ_eq_append_getElem (by simp; omega),List.take_succ_eq_append_getElem hi,←hp,List.take_set_of_le (Nat.le_refl _)]
  simp) (by
  rintro ⟨ys,j⟩ ⟨hj,hl,hp⟩
  simp only at hj hl hp
  subst hj
  refine ⟨ys,hend ys hl,?_⟩
  rw [List.take_of_length_le (by omega),List.take_of_length_le (by omega)] at hp
  exact hp) xs.length 0 (y0,0) (by omega) ⟨rfl,h0,by simp⟩
 rw [h1,h2]
theorem zH6 {R:Type} (n:Nat) {b:Int→Option (Lp Int (Fl R Unit))} (hstep:∀i:Nat,i<n→b (i:Int)=some (.go ((i+1:Nat):Int))) (hend:b (n:Int)=some (.done (.nxt ()))):loop b 0=some (.nxt ()):=by
 obtain ⟨t,h1,h2⟩:=jW (b:=b) (fun i s=>s=(i:Int)) n (fun t=>t= .nxt ()) (by
  rintro i s hi rfl
  exact .inl ⟨_,hstep i hi,rfl⟩) (by
  rintro s rfl
  exact ⟨_,hend,rfl⟩) n 0 0 (by omega) rfl
 rw [h1,h2]
theorem zIJ {α:Type} (xs:List α) (P:α→Prop) (l:Int) {b:(Int×Int)→Option (Lp (Int×Int) (Fl Int Int))}
  (hstep:∀(q:Int) (i:Nat) (hi:i<xs.length),0≤q→q≤l→(∃q',b (q,(i:Int))=some (.go (q',((i+1:Nat):Int)))∧0≤q'∧q'≤q∧P xs[i])∨∃t,b (q,(i:Int))=some (.done (.ret t))∧t<0)
  (hend:∀q:Int,b (q,(xs.length:Int))=some (.done (.nxt q))) (h0:0≤l):
  ∃t,loop b (l,0)=some t∧match t with| .ret r=>r<0| .nxt r=>0≤r∧r≤l∧∀x∈xs,P x:=by
 refine jW (b:=b) (fun i s=>s.2=(i:Int)∧0≤s.1∧s.1≤l∧∀j,(hj:j<xs.length)→j<i→P xs[j]) xs.length _ (by
  rintro i ⟨q,j⟩ hi ⟨hj,h1,h2,h3⟩
  simp only at hj h1 h2 h3
  subst hj
  rcases hstep q i hi h1 h2 with ⟨q',e,g1,g2,g3⟩|⟨t,e,ht⟩
  ·refine .inl ⟨_,e,rfl,g1,by simp only; omega,fun j hj hji=>?_⟩
   rcases Nat.lt_or_ge j i with h|h
   ·exact h3 j hj h
   ·have:j=i:=by omega
    subst this; exact g3
  ·exact .inr ⟨_,e,ht⟩) (by
  rintro ⟨q,j⟩ ⟨hj,h1,h2,h3⟩
  simp only at hj h1 h2 h3
  subst hj
  refine ⟨_,hend q,h1,h2,fun x hx=>?_⟩
  obtain ⟨j,hj,rfl⟩:=List.getElem_of_mem hx
  exact h3 j hj hj) xs.length 0 (l,0) (by omega) ⟨rfl,h0,Int.le_refl _,fun j _ h=>by omega⟩
theorem zJL {α β:Type} {xs:List α} {ys:List β} (h:xs.length=ys.length):same xs ys=some ():=if_pos h
theorem zIA (a:ByteArray):seq a a=true:=by
 unfold seq
 simp
def c1 {α:Type} (_:α):Int:=1
theorem jU {α:Type} {B:Nat} {xs ys:List α} (h:(xs.length+ys.length)*B≤140737488355328) (h2:xs.length+ys.length≤4611686018427387904):app B xs ys=some (xs++ys):=if_pos ⟨h,h2⟩
theorem zHC {S T:Type} {b:S→Option (Lp S T)} (I:S→Prop) (μ:S→Nat) (Q:T→Prop) (step:∀s,I s→(∃s',b s=some (.go s')∧I s'∧μ s'<μ s)∨∃t,b s=some (.done t)∧Q t):∀(n:Nat) (s:S),μ s≤n→I s→∃t,loop b s=some t∧Q t
 |0,s,hn,hI=>by
  rcases step s hI with ⟨s',_,_,h3⟩|⟨t,h1,h2⟩
  ·omega
  ·exact ⟨t,by rw [jH,h1]; rfl,h2⟩
 |n+1,s,hn,hI=>by
  rcases step s hI with ⟨s',h1,h2,h3⟩|⟨t,h1,h2⟩
  ·obtain ⟨t,h4,h5⟩:=zHC I μ Q step n s' (by omega) h2
   exact ⟨t,by rw [jH,h1]; exact h4,h5⟩
  ·exact ⟨t,by rw [jH,h1]; rfl,h2⟩
def Version.ok (x:Version):Prop:=(IntKind.i64.min≤x.A∧x.A≤IntKind.i64.max)∧(IntKind.i64.min≤x.B∧x.B≤IntKind.i64.max)∧(IntKind.i64.min≤x.C∧x.C≤IntKind.i64.max)
def Term.ok (x:Term):Prop:=(x.Name.size≤maxLen)∧(Version.ok x.Low)∧(Version.ok x.High)
def Pack.ok (x:Pack):Prop:=(x.Name.size≤maxLen)∧(Version.ok x.Version)∧(IntKind.i64.min≤x.Size∧x.Size≤IntKind.i64.max)∧(x.Provides.length≤maxLen∧∀y1∈x.Provides,y1.size≤maxLen)∧(x.Needs.length≤maxLen∧∀y1∈x.Needs,y1.length≤maxLen∧∀y2∈y1,Term.ok y2)∧(x.Bars.length≤maxLen∧∀y1∈x.Bars,Term.ok y1)
def Version.sm (B:Nat) (x:Version):Prop:=(True)∧(True)∧(True)
def Term.sm (B:Nat) (x:Term):Prop:=(x.Name.size≤B)∧(Version.sm B x.Low)∧(Version.sm B x.High)
def Pack.sm (B:Nat) (x:Pack):Prop:=(x.Name.size≤B)∧(Version.sm B x.Version)∧(True)∧(x.Provides.length≤B∧∀y0∈x.Provides,y0.size≤B)∧(x.Needs.length≤B∧∀y0∈x.Needs,y0.length≤B∧∀y1∈y0,Term.sm B y1)∧(x.Bars.length≤B∧∀y0∈x.Bars,Term.sm B y0)
theorem zJ0 (x:(List ByteArray)) (hx:x.length≤maxLen∧∀y1∈x,y1.size≤maxLen) (l:Int) (h0:0≤l) (h1:l≤1048576):∃r,zBg x l=some r∧(r<0∨(0≤r∧r≤l∧(x.length≤1048576∧∀y0∈x,y0.size≤1048576))):=by
 obtain ⟨hm,hx⟩:=hx
 unfold maxLen at hm
 unfold zBg
 rw [zCA (x:=l-x.length) (by omega) (by omega)]
 by_cases c1:l-(x.length:Int)<0
 ·rw [if_pos (by simpa using c1)]
  exact ⟨_,rfl,.inl (by omega)⟩
 ·rw [if_neg (by simpa using c1)]
  have key:=zIJ x (fun y0=>y0.size≤1048576) (l-x.length) (b:=zAH x) ?_ ?_ (by omega)
  ·obtain ⟨t,h2,h3⟩:=key
   unfold zB0
   rw [h2]
   cases t with
   |ret r=>exact ⟨r,rfl,.inl h3⟩
   |nxt r=>exact ⟨r,rfl,.inr ⟨h3.1,by have:=h3.2.1; omega,by omega,h3.2.2⟩⟩
  ·intro q i hi hq0 hq1
   unfold zAH
   rw [if_pos (by simp; omega)]
   simp only [zJ hi,Option.bind_some]
   have hi2:w64 ((i:Int)+1)=((i+1:Nat):Int):=zN (by omega)
   have hs:=hx _ (List.getElem_mem hi)
   unfold maxLen at hs
   rw [zCA (x:=q-(x[i]).size) (by omega) (by omega)]
   by_cases c:q-((x[i]).size :Int)<0
   ·rw [if_pos (by simpa using c)]
    exact .inr ⟨_,rfl,by omega⟩
   ·rw [if_neg (by simpa using c),hi2]
    exact .inl ⟨_,rfl,by omega,by omega,by show (x[i]).size ≤1048576; omega⟩
  ·intro q
   unfold zAH
   rw [if_neg (by simp)]
theorem zM1 (x:Term) (hx:Term.ok x) (l:Int) (h0:0≤l) (h1:l≤1048576):∃r,zDX x l=some r∧(r<0∨(0≤r∧r≤l∧(Term.sm 1048576 x))):=by
 obtain ⟨k0,k1,k2⟩:=hx
 unfold maxLen at*
 unfold zDX
 rw [zCA (x:=l-x.Name.size) (by omega) (by omega)]
 by_cases c0:l-(x.Name.size:Int)<0
 ·rw [if_pos (by simpa using c0)]
  exact ⟨_,rfl,.inl (by omega)⟩
 rw [if_neg (by simpa using c0)]
 exact ⟨_,rfl,.inr ⟨by omega,by omega,by omega,⟨trivial,trivial,trivial⟩,⟨trivial,trivial,trivial⟩⟩⟩
theorem zIn (x:(List Term)) (hx:x.length≤maxLen∧∀y1∈x,Term.ok y1) (l:Int) (h0:0≤l) (h1:l≤1048576):∃r,zAY x l=some r∧(r<0∨(0≤r∧r≤l∧(x.length≤1048576∧∀y0∈x,Term.sm 1048576 y0))):=by
 obtain ⟨hm,hx⟩:=hx
 unfold maxLen at hm
 unfold zAY
 rw [zCA (x:=l-x.length) (by omega) (by omega)]
 by_cases c1:l-(x.length:Int)<0
 ·rw [if_pos (by simpa using c1)]
  exact ⟨_,rfl,.inl (by omega)⟩
 ·rw [if_neg (by simpa using c1)]
  have key:=zIJ x (fun y0=>Term.sm 1048576 y0) (l-x.length) (b:=zCf x) ?_ ?_ (by omega)
  ·obtain ⟨t,h2,h3⟩:=key
   unfold zCJ
   rw [h2]
   cases t with
   |ret r=>exact ⟨r,rfl,.inl h3⟩
   |nxt r=>exact ⟨r,rfl,.inr ⟨h3.1,by have:=h3.2.1; omega,by omega,h3.2.2⟩⟩
  ·intro q i hi hq0 hq1
   unfold zCf
   rw [if_pos (by simp; omega)]
   simp only [zJ hi,Option.bind_some]
   have hi2:w64 ((i:Int)+1)=((i+1:Nat):Int):=zN (by omega)
   obtain ⟨r,e,hr⟩:=zM1 x[i] (hx _ (List.getElem_mem hi)) q hq0 (by omega)
   rw [e]
   simp only [Option.bind_some]
   by_cases c:r<0
   ·rw [if_pos (by simpa using c)]
    exact .inr ⟨_,rfl,by omega⟩
   ·rw [if_neg (by simpa using c),hi2]
    obtain ⟨g1,g2,g3⟩:=hr.resolve_left c
    exact .inl ⟨_,rfl,g1,g2,g3⟩
  ·intro q
   unfold zCf
   rw [if_neg (by simp)]
theorem zJG (x:(List (List Term))) (hx:x.length≤maxLen∧∀y1∈x,y1.length≤maxLen∧∀y2∈y1,Term.ok y2) (l:Int) (h0:0≤l) (h1:l≤1048576):∃r,zBQ x l=some r∧(r<0∨(0≤r∧r≤l∧(x.length≤1048576∧∀y0∈x,y0.length≤1048576∧∀y1∈y0,Term.sm 1048576 y1))):=by
 obtain ⟨hm,hx⟩:=hx
 unfold maxLen at hm
 unfold zBQ
 rw [zCA (x:=l-x.length) (by omega) (by omega)]
 by_cases c1:l-(x.length:Int)<0
 ·rw [if_pos (by simpa using c1)]
  exact ⟨_,rfl,.inl (by omega)⟩
 ·rw [if_neg (by simpa using c1)]
  have key:=zIJ x (fun y0=>y0.length≤1048576∧∀y1∈y0,Term.sm 1048576 y1) (l-x.length) (b:=zBv x) ?_ ?_ (by omega)
  ·obtain ⟨t,h2,h3⟩:=key
   unfold zCc
   rw [h2]
   cases t with
   |ret r=>exact ⟨r,rfl,.inl h3⟩
   |nxt r=>exact ⟨r,rfl,.inr ⟨h3.1,by have:=h3.2.1; omega,by omega,h3.2.2⟩⟩
  ·intro q i hi hq0 hq1
   unfold zBv
   rw [if_pos (by simp; omega)]
   simp only [zJ hi,Option.bind_some]
   have hi2:w64 ((i:Int)+1)=((i+1:Nat):Int):=zN (by omega)
   obtain ⟨r,e,hr⟩:=zIn x[i] (hx _ (List.getElem_mem hi)) q hq0 (by omega)
   rw [e]
   simp only [Option.bind_some]
   by_cases c:r<0
   ·rw [if_pos (by simpa using c)]
    exact .inr ⟨_,rfl,by omega⟩
   ·rw [if_neg (by simpa using c),hi2]
    obtain ⟨g1,g2,g3⟩:=hr.resolve_left c
    exact .inl ⟨_,rfl,g1,g2,g3⟩
  ·intro q
   unfold zBv
   rw [if_neg (by simp)]
theorem zMt (x:Pack) (hx:Pack.ok x) (l:Int) (h0:0≤l) (h1:l≤1048576):∃r,zDS x l=some r∧(r<0∨(0≤r∧r≤l∧(Pack.sm 1048576 x))):=by
 obtain ⟨k0,k1,k2,k3,k4,k5⟩:=hx
 unfold maxLen at*
 unfold zDS
 rw [zCA (x:=l-x.Name.size) (by omega) (by omega)]
 by_cases c0:l-(x.Name.size:Int)<0
 ·rw [if_pos (by simpa using c0)]
  exact ⟨_,rfl,.inl (by omega)⟩
 rw [if_neg (by simpa using c0)]
 obtain ⟨r3,e3,g3⟩:=zJ0 x.Provides k3 (l-x.Name.size) (by omega) (by omega)
 rw [e3]
 simp only [Option.bind_some]
 by_cases c3:r3<0
 ·rw [if_pos (by simpa using c3)]
  exact ⟨_,rfl,.inl (by omega)⟩
 rw [if_neg (by simpa using c3)]
 obtain ⟨p3,q3,z3⟩:=g3.resolve_left c3
 obtain ⟨r4,e4,g4⟩:=zJG x.Needs k4 r3 (by omega) (by omega)
 rw [e4]
 simp only [Option.bind_some]
 by_cases c4:r4<0
 ·rw [if_pos (by simpa using c4)]
  exact ⟨_,rfl,.inl (by omega)⟩
 rw [if_neg (by simpa using c4)]
 obtain ⟨p4,q4,z4⟩:=g4.resolve_left c4
 obtain ⟨r5,e5,g5⟩:=zIn x.Bars k5 r4 (by omega) (by omega)
 rw [e5]
 simp only [Option.bind_some]
 by_cases c5:r5<0
 ·rw [if_pos (by simpa using c5)]
  exact ⟨_,rfl,.inl (by omega)⟩
 rw [if_neg (by simpa using c5)]
 obtain ⟨p5,q5,z5⟩:=g5.resolve_left c5
 exact ⟨_,rfl,.inr ⟨by omega,by omega,by omega,⟨trivial,trivial,trivial⟩,trivial,z3,z4,z5⟩⟩
theorem zKZ (x:(List Pack)) (hx:x.length≤maxLen∧∀y1∈x,Pack.ok y1) (l:Int) (h0:0≤l) (h1:l≤1048576):∃r,kP x l=some r∧(r<0∨(0≤r∧r≤l∧(x.length≤1048576∧∀y0∈x,Pack.sm 1048576 y0))):=by
 obtain ⟨hm,hx⟩:=hx
 unfold maxLen at hm
 unfold kP
 rw [zCA (x:=l-x.length) (by omega) (by omega)]
 by_cases c1:l-(x.length:Int)<0
 ·rw [if_pos (by simpa using c1)]
  exact ⟨_,rfl,.inl (by omega)⟩
 ·rw [if_neg (by simpa using c1)]
  have key:=zIJ x (fun y0=>Pack.sm 1048576 y0) (l-x.length) (b:=zCq x) ?_ ?_ (by omega)
  ·obtain ⟨t,h2,h3⟩:=key
   unfold zDa
   rw [h2]
   cases t with
   |ret r=>exact ⟨r,rfl,.inl h3⟩
   |nxt r=>exact ⟨r,rfl,.inr ⟨h3.1,by have:=h3.2.1; omega,by omega,h3.2.2⟩⟩
  ·intro q i hi hq0 hq1
   unfold zCq
   rw [if_pos (by simp; omega)]
   simp only [zJ hi,Option.bind_some]
   have hi2:w64 ((i:Int)+1)=((i+1:Nat):Int):=zN (by omega)
   obtain ⟨r,e,hr⟩:=zMt x[i] (hx _ (List.getElem_mem hi)) q hq0 (by omega)
   rw [e]
   simp only [Option.bind_some]
   by_cases c:r<0
   ·rw [if_pos (by simpa using c)]
    exact .inr ⟨_,rfl,by omega⟩
   ·rw [if_neg (by simpa using c),hi2]
    obtain ⟨g1,g2,g3⟩:=hr.resolve_left c
    exact .inl ⟨_,rfl,g1,g2,g3⟩
  ·intro q
   unfold zCq
   rw [if_neg (by simp)]
theorem zHv (x:(List Int)) (hx:x.length≤1049600∧∀y0∈x,True):zH x=some x:=by
 have hl:=hx.1
 unfold zH
 have hm:∀z:Int,mk 8 (x.length:Int) z=some (List.replicate x.length z):=fun z=>by
  unfold mk; rw [if_pos ⟨by omega,by simp; omega,by omega⟩]; simp
 rw [hm]
 simp only [Option.bind_some,zCu]
 rw [zHA x ?_ ?_ _ (by simp)]
 ·rfl
 ·intro ys i hi hl2
  unfold zDz
  rw [if_pos (by simp; omega)]
  have hi2:w64 ((i:Int)+1)=((i+1:Nat):Int):=zN (by omega)
  simp only [zJ hi,zJ (show i<ys.length by omega),Option.bind_some,Int.toNat_natCast,hi2]
 ·intro ys _
  unfold zDz
  rw [if_neg (by simp)]
theorem zFJ (x:Version) (hx:Version.sm 1049600 x):uT x=some x:=by
 obtain ⟨h0,h1,h2⟩:=hx
 unfold uT
 rfl
theorem zIZ (x:(List ByteArray)) (hx:x.length≤1049600∧∀y0∈x,y0.size≤1049600):zBn x=some x:=by
 have hl:=hx.1
 unfold zBn
 have hm:∀z:ByteArray,mk 16 (x.length:Int) z=some (List.replicate x.length z):=fun z=>by
  unfold mk; rw [if_pos ⟨by omega,by simp; omega,by omega⟩]; simp
 rw [hm]
 simp only [Option.bind_some,zBx]
 rw [zHA x ?_ ?_ _ (by simp)]
 ·rfl
 ·intro ys i hi hl2
  unfold zC8
  rw [if_pos (by simp; omega)]
  have hi2:w64 ((i:Int)+1)=((i+1:Nat):Int):=zN (by omega)
  simp only [zJ hi,zJ (show i<ys.length by omega),Option.bind_some,Int.toNat_natCast,hi2]
 ·intro ys _
  unfold zC8
  rw [if_neg (by simp)]
theorem zLB (x:Term) (hx:Term.sm 1049600 x):zDV x=some x:=by
 obtain ⟨h0,h1,h2⟩:=hx
 unfold zDV
 simp only [zFJ x.Low h1,zFJ x.High h2,Option.bind_some]
theorem zIo (x:(List Term)) (hx:x.length≤1049600∧∀y0∈x,Term.sm 1049600 y0):zAR x=some x:=by
 have hl:=hx.1
 unfold zAR
 have hm:∀z:Term,mk 64 (x.length:Int) z=some (List.replicate x.length z):=fun z=>by
  unfold mk; rw [if_pos ⟨by omega,by simp; omega,by omega⟩]; simp
 rw [hm]
 simp only [Option.bind_some,zDi]
 rw [zHA x ?_ ?_ _ (by simp)]
 ·rfl
 ·intro ys i hi hl2
  unfold zDL
  rw [if_pos (by simp; omega)]
  have hi2:w64 ((i:Int)+1)=((i+1:Nat):Int):=zN (by omega)
  simp only [zJ hi,zJ (show i<ys.length by omega),Option.bind_some,Int.toNat_natCast,hi2,zLB x[i] (hx.2 _ (List.getElem_mem hi))]
 ·intro ys _
  unfold zDL
  rw [if_neg (by simp)]
theorem zJM (x:(List (List Term))) (hx:x.length≤1049600∧∀y0∈x,y0.length≤1049600∧∀y1∈y0,Term.sm 1049600 y1):zBN x=some x:=by
 have hl:=hx.1
 unfold zBN
 have hm:∀z:(List Term),mk 24 (x.length:Int) z=some (List.replicate x.length z):=fun z=>by
  unfold mk; rw [if_pos ⟨by omega,by simp; omega,by omega⟩]; simp
 rw [hm]
 simp only [Option.bind_some,zCb]
 rw [zHA x ?_ ?_ _ (by simp)]
 ·rfl
 ·intro ys i hi hl2
  unfold zDw
  rw [if_pos (by simp; omega)]
  have hi2:w64 ((i:Int)+1)=((i+1:Nat):Int):=zN (by omega)
  simp only [zJ hi,zJ (show i<ys.length by omega),Option.bind_some,Int.toNat_natCast,hi2,zIo x[i] (hx.2 _ (List.getElem_mem hi))]
 ·intro ys _
  unfold zDw
  rw [if_neg (by simp)]
theorem zLI (x:Pack) (hx:Pack.sm 1049600 x):zDU x=some x:=by
 obtain ⟨h0,h1,h2,h3,h4,h5⟩:=hx
 unfold zDU
 simp only [zFJ x.Version h1,zIZ x.Provides h3,zJM x.Needs h4,zIo x.Bars h5,Option.bind_some]
theorem zLp (x:(List Pack)) (hx:x.length≤1049600∧∀y0∈x,Pack.sm 1049600 y0):xO x=some x:=by
 have hl:=hx.1
 unfold xO
 have hm:∀z:Pack,mk 120 (x.length:Int) z=some (List.replicate x.length z):=fun z=>by
  unfold mk; rw [if_pos ⟨by omega,by simp; omega,by omega⟩]; simp
 rw [hm]
 simp only [Option.bind_some,zCV]
 rw [zHA x ?_ ?_ _ (by simp)]
 ·rfl
 ·intro ys i hi hl2
  unfold zDM
  rw [if_pos (by simp; omega)]
  have hi2:w64 ((i:Int)+1)=((i+1:Nat):Int):=zN (by omega)
  simp only [zJ hi,zJ (show i<ys.length by omega),Option.bind_some,Int.toNat_natCast,hi2,zLI x[i] (hx.2 _ (List.getElem_mem hi))]
 ·intro ys _
  unfold zDM
  rw [if_neg (by simp)]
theorem zG9 (x:(List Int)) (hx:x.length≤1049600∧∀y0∈x,True):wS x x=some true:=by
 have hl:=hx.1
 unfold wS
 rw [if_neg (by simp)]
 unfold zCs
 rw [zH6 x.length ?_ ?_]
 ·rfl
 ·intro i hi
  unfold zDy
  rw [if_pos (by simp; omega)]
  have hi2:w64 ((i:Int)+1)=((i+1:Nat):Int):=zN (by omega)
  simp [zJ hi,hi2]
 ·unfold zDy
  rw [if_neg (by simp)]
def wQ.sm (B:Nat) (x:wQ):Prop:=(True)∧(True)
theorem zHd (x:wQ) (hx:wQ.sm 1049600 x):kU x x=some true:=by
 obtain ⟨h0,h1⟩:=hx
 unfold kU
 simp
theorem zFi (x:Version) (hx:Version.sm 1049600 x):uV x x=some true:=by
 obtain ⟨h0,h1,h2⟩:=hx
 unfold uV
 simp
theorem zIc (x:(List ByteArray)) (hx:x.length≤1049600∧∀y0∈x,y0.size≤1049600):kE x x=some true:=by
 have hl:=hx.1
 unfold kE
 rw [if_neg (by simp)]
 unfold zBz
 rw [zH6 x.length ?_ ?_]
 ·rfl
 ·intro i hi
  unfold zC9
  rw [if_pos (by simp; omega)]
  have hi2:w64 ((i:Int)+1)=((i+1:Nat):Int):=zN (by omega)
  simp [zJ hi,hi2]
 ·unfold zC9
  rw [if_neg (by simp)]
theorem zKf (x:Term) (hx:Term.sm 1049600 x):zDR x x=some true:=by
 obtain ⟨h0,h1,h2⟩:=hx
 unfold zDR
 simp [zFi x.Low h1,zFi x.High h2]
theorem zGW (x:(List Term)) (hx:x.length≤1049600∧∀y0∈x,Term.sm 1049600 y0):zAM x x=some true:=by
 have hl:=hx.1
 unfold zAM
 rw [if_neg (by simp)]
 unfold zCE
 rw [zH6 x.length ?_ ?_]
 ·rfl
 ·intro i hi
  unfold zDI
  rw [if_pos (by simp; omega)]
  have hi2:w64 ((i:Int)+1)=((i+1:Nat):Int):=zN (by omega)
  simp [zJ hi,hi2,zKf x[i] (hx.2 _ (List.getElem_mem hi))]
 ·unfold zDI
  rw [if_neg (by simp)]
theorem zID (x:(List (List Term))) (hx:x.length≤1049600∧∀y0∈x,y0.length≤1049600∧∀y1∈y0,Term.sm 1049600 y1):zBV x x=some true:=by
 have hl:=hx.1
 unfold zBV
 rw [if_neg (by simp)]
 unfold zCi
 rw [zH6 x.length ?_ ?_]
 ·rfl
 ·intro i hi
  unfold zDv
  rw [if_pos (by simp; omega)]
  have hi2:w64 ((i:Int)+1)=((i+1:Nat):Int):=zN (by omega)
  simp [zJ hi,hi2,zGW x[i] (hx.2 _ (List.getElem_mem hi))]
 ·unfold zDv
  rw [if_neg (by simp)]
theorem zKk (x:Pack) (hx:Pack.sm 1049600 x):zDW x x=some true:=by
 obtain ⟨h0,h1,h2,h3,h4,h5⟩:=hx
 unfold zDW
 simp [zFi x.Version h1,zIc x.Provides h3,zID x.Needs h4,zGW x.Bars h5]
theorem zIT (x:(List Pack)) (hx:x.length≤1049600∧∀y0∈x,Pack.sm 1049600 y0):kR x x=some true:=by
 have hl:=hx.1
 unfold kR
 rw [if_neg (by simp)]
 unfold zCT
 rw [zH6 x.length ?_ ?_]
 ·rfl
 ·intro i hi
  unfold zDJ
  rw [if_pos (by simp; omega)]
  have hi2:w64 ((i:Int)+1)=((i+1:Nat):Int):=zN (by omega)
  simp [zJ hi,hi2,zKk x[i] (hx.2 _ (List.getElem_mem hi))]
 ·unfold zDJ
  rw [if_neg (by simp)]
theorem Version.zFO {x:Version} (h:Version.sm 1048576 x):Version.sm 1049600 x:=⟨trivial,trivial,trivial⟩
theorem Term.zFO {x:Term} (h:Term.sm 1048576 x):Term.sm 1049600 x:=⟨(Nat.le_trans h.1 (by decide)),(Version.zFO h.2.1),(Version.zFO h.2.2)⟩
theorem Pack.zFO {x:Pack} (h:Pack.sm 1048576 x):Pack.sm 1049600 x:=⟨(Nat.le_trans h.1 (by decide)),(Version.zFO h.2.1),trivial,⟨Nat.le_trans h.2.2.2.1.1 (by decide),fun y0 z0=>(Nat.le_trans (h.2.2.2.1.2 y0 z0) (by decide))⟩,⟨Nat.le_trans h.2.2.2.2.1.1 (by decide),fun y0 z0=>⟨Nat.le_trans (h.2.2.2.2.1.2 y0 z0).1 (by decide),fun y1 z1=>(Term.zFO ((h.2.2.2.2.1.2 y0 z0).2 y1 z1))⟩⟩,⟨Nat.le_trans h.2.2.2.2.2.1 (by decide),fun y0 z0=>(Term.zFO (h.2.2.2.2.2.2 y0 z0))⟩⟩
theorem zF7 (a1:(List Pack)) (a2:(List Int)) (a3:(List Int)) (k0:a1.length≤maxLen∧∀y1∈a1,Pack.ok y1) (k1:a2.length≤maxLen∧∀y1∈a2,IntKind.i64.min≤y1∧y1≤IntKind.i64.max) (k2:a3.length≤maxLen∧∀y1∈a3,IntKind.i64.min≤y1∧y1≤IntKind.i64.max) (both:(a1.length≤1048576∧∀y0∈a1,Pack.sm 1048576 y0)→(a2.length≤1048576∧∀y0∈a2,True)→(a3.length≤1048576∧∀y0∈a3,True)→∃r,jD a1 a2 a3=some r∧jC a1 a2 a3=some r∧(wQ.sm 1049600 r)):vV a1 a2 a3=some true:=by
 unfold vV
 by_cases d1:(a2.length:Int)>1048576
 ·rw [if_pos (by simpa using d1)]
 rw [if_neg (by simpa using d1)]
 have s_a2:a2.length≤1048576∧∀y0∈a2,True:=⟨by omega,fun _ _=>trivial⟩
 by_cases d2:(a3.length:Int)>1048576
 ·rw [if_pos (by simpa using d2)]
 rw [if_neg (by simpa using d2)]
 have s_a3:a3.length≤1048576∧∀y0∈a3,True:=⟨by omega,fun _ _=>trivial⟩
 obtain ⟨r3,e3,g3⟩:=zKZ a1 k0 1048576 (by omega) (by omega)
 rw [e3]
 simp only [Option.bind_some]
 by_cases d3:r3<0
 ·rw [if_pos (by simpa using d3)]
 rw [if_neg (by simpa using d3)]
 obtain ⟨p3,q3,s_a1⟩:=g3.resolve_left d3
 obtain ⟨r,e1,e2,hr⟩:=both s_a1 s_a2 s_a3
 have m_a1:a1.length≤1049600∧∀y0∈a1,Pack.sm 1049600 y0:=⟨Nat.le_trans s_a1.1 (by decide),fun y0 z0=>(Pack.zFO (s_a1.2 y0 z0))⟩
 have m_a2:a2.length≤1049600∧∀y0∈a2,True:=⟨Nat.le_trans s_a2.1 (by decide),fun y0 z0=>trivial⟩
 have m_a3:a3.length≤1049600∧∀y0∈a3,True:=⟨Nat.le_trans s_a3.1 (by decide),fun y0 z0=>trivial⟩
 simp [e1,e2,zLp a1 m_a1,zIT a1 m_a1,zHv a2 m_a2,zG9 a2 m_a2,zHv a3 m_a3,zG9 a3 m_a3,zHd r hr]
def bl (s:ByteArray):List Int:=s.toList.map (fun b=>(b.toNat:Int))
theorem zFl (s:ByteArray):(bl s).length =s.size:=by
 unfold bl
 rw [List.length_map,ByteArray.toList_eq]
 rfl
theorem zIF {s:ByteArray} {i:Nat} (h:i< (bl s).length):bidx s (i:Int)=some (bl s)[i]:=by
 unfold bidx
 rw [if_pos (by omega)]
 have hs:i<s.size:=by rw [zFl] at h; exact h
 have e:s[(i:Int).toNat]? =some s[i]:=by simp [hs]
 rw [e]
 simp only [Option.map_some,bl,List.getElem_map]
 congr 2
 simp only [ByteArray.toList_eq]
 rfl
theorem zHL:∀(a:List UInt8),Op.bytesLess a a=false
 |[]=>rfl
 |x::a=>by simp [Op.bytesLess,zHL a]
theorem zIs:∀{a b c:List UInt8},Op.bytesLess a b=true→Op.bytesLess b c=true→Op.bytesLess a c=true
 |_,[],_,h,_=>by simp [Op.bytesLess] at h
 |_,_::_,[],_,h=>by simp [Op.bytesLess] at h
 |[],_::_,_::_,_,_=>by simp [Op.bytesLess]
 |x::a,y::b,z::c,h1,h2=>by
  simp only [Op.bytesLess,Bool.or_eq_true,decide_eq_true_eq,Bool.and_eq_true,beq_iff_eq] at h1 h2 ⊢
  rcases h1 with h1|⟨rfl,h1⟩
  ·rcases h2 with h2|⟨rfl,h2⟩
   ·exact .inl (UInt8.lt_trans h1 h2)
   ·exact .inl h1
  ·rcases h2 with h2|⟨rfl,h2⟩
   ·exact .inl h2
   ·exact .inr ⟨rfl,zIs h1 h2⟩
theorem toList_inj {a b:ByteArray} (h:a.toList=b.toList):a=b:=by
 rw [ByteArray.toList_eq,ByteArray.toList_eq] at h
 cases a; cases b
 simp at h
 rw [h]
theorem zDt (a:ByteArray):slt a a=false:=zHL _
theorem zEU {a b c:ByteArray} (h1:slt a b=true) (h2:slt b c=true):slt a c=true:=zIs h1 h2
theorem zJr {a b:ByteArray} (h:slt a b=true):slt b a=false:=by
 cases h2:slt b a with
 |false=>rfl
 |true=>have:=zEU h h2; rw [zDt] at this; cases this
theorem zEj {a b:ByteArray}:seq a b=true↔a=b:=by
 unfold seq
 simp only [beq_iff_eq]
 exact ⟨toList_inj,fun e=>by rw [e]⟩
theorem seq_eq (a b:ByteArray):seq a b=decide (a=b):=by
 rw [Bool.eq_iff_iff,zEj]; simp
def inB (a b c:Int):Bool:=decide (b≤a)&&decide (a≤c)
theorem zKa (a b c:Int):tN a b c=some (inB a b c):=by
 unfold tN inB
 by_cases h:a≥b<;>simp [h]
theorem zHq (a b c:Int):vU a b c=some (inB a b c):=by
 unfold vU inB
 by_cases h:b≤a<;>simp [h]
section del
variable {α:Type} (p:α→Bool)
theorem zFF {xs:List α} {l h:Nat} (h1:l≤h) (h2:h≤xs.length):zF8 xs (l:Int) (h:Int)=some ((xs.drop l).take (h-l)):=by
 unfold zF8
 rw [if_pos (by omega)]
 rfl
end del
section del
variable {α:Type} (p:α→Bool)
theorem zM3 {xs:List α} {l n:Nat} {a:α} (h:l+n≤xs.length):zL8 xs (l:Int) n a=some (xs.take l++List.replicate n a++xs.drop (l+n)):=by
 unfold zL8
 rw [if_pos (by omega)]
 simp [ovr]
end del
section del
variable {α:Type} (p:α→Bool)
theorem zNc {R:Type} (a1:List α) (out:Int→R) {b:Int→Option (Lp Int (Fl R Unit))} (hl:a1.length<9223372036854775807)
  (hstep:∀(i:Nat) (hi:i<a1.length),b (i:Int)=some (if p a1[i] then .done (.ret (out i)) else .go ((i+1:Nat):Int))) (hend:b (a1.length:Int)=some (.done (.nxt ()))):
  ∃t,loop b 0=some t∧((t= .nxt ()∧∀x∈a1,p x=false)∨∃i:Nat,∃hi:i<a1.length,t= .ret (out i)∧p a1[i]=true∧∀x∈a1.take i,p x=false):=by
 refine jW (b:=b) (fun i s=>s=(i:Int)∧∀x∈a1.take i,p x=false) a1.length _ (by
  rintro i s hi ⟨rfl,hn⟩
  have e:=hstep i hi
  cases hp:p a1[i]
  ·rw [hp] at e
   refine .inl ⟨_,e,rfl,fun x hx=>?_⟩
   rw [List.take_succ_eq_append_getElem hi] at hx
   rcases List.mem_append.1 hx with hx|hx
   ·exact hn x hx
   ·simp at hx; rw [hx]; exact hp
  ·rw [hp] at e
   exact .inr ⟨_,e,.inr ⟨i,hi,rfl,hp,hn⟩⟩) (by
  rintro s ⟨rfl,hn⟩
  rw [List.take_length] at hn
  exact ⟨_,hend,.inl ⟨rfl,hn⟩⟩) a1.length 0 0 (by omega) ⟨rfl,by simp⟩
end del
section del
variable {α:Type} (p:α→Bool)
theorem zHm {xs:List α} {i:Nat} {x:α} (h:i<xs.length):(xs.set i x).take (i+1)=xs.take i++[x]:=by
 rw [List.take_succ_eq_append_getElem (by simpa using h),List.take_set_of_le (Nat.le_refl _)]
 simp
end del
section del
variable {α:Type} (p:α→Bool)
theorem set_drop {xs:List α} {i j:Nat} {x:α} (h:i<j):(xs.set i x).drop j=xs.drop j:=by
 rw [List.drop_set_of_lt h]
end del
section del
variable {α:Type} (p:α→Bool)
theorem zMp (a:List α) {b:(List α×Int×Int)→Option (Lp (List α×Int×Int) (List α×Int))} (hl:a.length<9223372036854775807)
  (hstep:∀(xs:List α) (i j:Nat) (hj:j<xs.length),i≤j→xs.length=a.length→xs[j]∈a→b (xs,(i:Int),(j:Int))=some (.go (if p xs[j] then (xs,(i:Int),((j+1:Nat):Int)) else (xs.set i xs[j],((i+1:Nat):Int),((j+1:Nat):Int)))))
  (hend:∀(xs:List α) (i:Nat),xs.length=a.length→b (xs,(i:Int),(xs.length:Int))=some (.done (xs,(i:Int)))) (i0 j0:Nat) (hij:i0≤j0) (hj0:j0≤a.length) (h0:a.take i0=(a.take j0).filter (fun x=> !p x)):
  ∃ys:List α,loop b (a,(i0:Int),(j0:Int))=some (ys,((a.filter (fun x=> !p x)).length :Int))∧ys.length=a.length∧ys.take (a.filter (fun x=> !p x)).length =a.filter (fun x=> !p x):=by
 obtain ⟨t,e,h⟩:=jW (b:=b) (fun j s=>s.1.length=a.length∧s.1.drop j=a.drop j∧s.2.2=(j:Int)∧∃i:Nat,s.2.1=(i:Int)∧i≤j∧s.1.take i=(a.take j).filter (fun x=> !p x)) a.length
  (fun t=>t.1.length=a.length∧∃i:Nat,t.2=(i:Int)∧i≤a.length∧t.1.take i=a.filter (fun x=> !p x)) (by
  rintro j ⟨xs,i',j'⟩ hj ⟨hxl,hxd,hjj,i,hi,hle,ht⟩
  simp only at hxl hxd hjj hi ht
  subst hjj hi
  have hjx:j<xs.length:=by omega
  have hx:xs[j]=a[j]:=by
   have:=congrArg (fun l=>l[0]?) hxd
   simp only [List.getElem?_drop,Nat.add_zero] at this
   rw [List.getElem?_eq_getElem hjx,List.getElem?_eq_getElem hj] at this
   exact Option.some.inj this
  have e:=hstep xs i j hjx hle hxl (by rw [hx]; exact List.getElem_mem hj)
  have htk:(a.take (j+1)).filter (fun x=> !p x)=(a.take j).filter (fun x=> !p x)++(if p a[j] then [] else [a[j]]):=by
   rw [List.take_succ_eq_append_getElem hj,List.filter_append]
   cases h:p a[j]<;>simp [h]
  have hd1:a.drop (j+1)=xs.drop (j+1):=by
   have:=congrArg (List.drop 1) hxd
   simpa [List.drop_drop] using this.symm
  rw [hx] at e
  cases hp:p a[j]
  ·rw [hp] at e htk
   refine .inl ⟨_,e,by simpa using hxl,?_,rfl,i+1,rfl,by omega,?_⟩
   ·show (xs.set i a[j]).drop (j+1)=a.drop (j+1)
    rw [set_drop (by omega),hd1]
   ·show (xs.set i a[j]).take (i+1)=_
    rw [zHm (by omega),htk,ht]
    rfl
  ·rw [hp] at e htk
   refine .inl ⟨_,e,hxl,?_,rfl,i,rfl,by omega,?_⟩
   ·exact hd1.symm
   ·show xs.take i=_
    rw [htk,ht]
    simp) (by
  rintro ⟨xs,i',j'⟩ ⟨hxl,hxd,hjj,i,hi,hle,ht⟩
  simp only at hxl hxd hjj hi ht
  subst hjj hi
  have e:=hend xs i hxl
  rw [hxl] at e
  refine ⟨_,e,hxl,i,rfl,hle,?_⟩
  rw [List.take_length] at ht
  exact ht) (a.length-j0) j0 (a,(i0:Int),(j0:Int)) (by omega) ⟨rfl,rfl,rfl,i0,rfl,hij,h0⟩
 obtain ⟨ys,i'⟩:=t
 obtain ⟨h1,i,h2,h3,h4⟩:=h
 simp only at h1 h2 h4
 subst h2
 have hlen:i=(a.filter (fun x=> !p x)).length :=by rw [←h4]; simp; omega
 subst hlen
 exact ⟨ys,e,h1,h4⟩
end del
section del
variable {α:Type} (p:α→Bool)
theorem zNX {a ys:List α} (zero:α) (h1:ys.length=a.length) (h2:ys.take (a.filter (fun x=> !p x)).length =a.filter (fun x=> !p x)):
  (zF8 ys ((a.filter (fun x=> !p x)).length :Int) (ys.length:Int)).bind (fun r=>(zL8 ys ((a.filter (fun x=> !p x)).length :Int) r.length zero).bind fun z=>(zF8 z 0 ((a.filter (fun x=> !p x)).length :Int)).bind fun q=>some q)=some (a.filter (fun x=> !p x)):=by
 have hle:(a.filter (fun x=> !p x)).length ≤ys.length:=by rw [h1]; exact List.length_filter_le _ _
 rw [zFF hle (Nat.le_refl _)]
 simp only [Option.bind_some]
 rw [zM3 (by simp; omega)]
 simp only [Option.bind_some]
 have:zF8 (List.take (List.filter (fun x=> !p x) a).length ys++List.replicate (List.take (ys.length-(List.filter (fun x=> !p x) a).length) (List.drop (List.filter (fun x=> !p x) a).length ys)).length zero++
   List.drop ((List.filter (fun x=> !p x) a).length +(List.take (ys.length-(List.filter (fun x=> !p x) a).length) (List.drop (List.filter (fun x=> !p x) a).length ys)).length) ys) ((0:Nat):Int) ((a.filter (fun x=> !p x)).length :Int)=some (a.filter (fun x=> !p x)):=by
  rw [zFF (by omega) (by simp; omega)]
  rw [h2]
  simp
 exact (congrArg (fun o=>Option.bind o fun q=>some q) this)
end del
section del
variable {α:Type} (p:α→Bool)
theorem zKe (a:List α) (zero:α) (hl:a.length≤1048577) {b1:Int→Option (Lp Int (Fl Int Unit))} {b2:(List α×Int×Int)→Option (Lp (List α×Int×Int) (List α×Int))}
  (h1:∀(i:Nat) (hi:i<a.length),b1 (i:Int)=some (if p a[i] then .done (.ret (i:Int)) else .go ((i+1:Nat):Int))) (h1e:b1 (a.length:Int)=some (.done (.nxt ())))
  (h2:∀(xs:List α) (i j:Nat) (hj:j<xs.length),i≤j→xs.length=a.length→xs[j]∈a→b2 (xs,(i:Int),(j:Int))=some (.go (if p xs[j] then (xs,(i:Int),((j+1:Nat):Int)) else (xs.set i xs[j],((i+1:Nat):Int),((j+1:Nat):Int)))))
  (h2e:∀(xs:List α) (i:Nat),xs.length=a.length→b2 (xs,(i:Int),(xs.length:Int))=some (.done (xs,(i:Int)))):
  ((loop b1 0).bind (Fl.go some fun _=>some (-1))).bind (fun x4=>if x4==(-1) then (some a) else ((loop b2 (a,x4,w64 (x4+1))).bind fun v26=>(zF8 v26.1 v26.2 (v26.1.length:Int)).bind fun x27=>(zL8 v26.1 v26.2 x27.length zero).bind fun x29=>(zF8 x29 0 v26.2).bind fun x31=>some x31))=some (a.filter (fun x=> !p x)):=by
 obtain ⟨t,e,h⟩:=zNc p a (fun i=>i) (b:=b1) (by omega) h1 h1e
 rw [e]
 rcases h with ⟨rfl,hn⟩|⟨i,hi,rfl,hp,hn⟩
 ·show some a=_
  congr 1
  exact (List.filter_eq_self.2 (fun x hx=>by rw [hn x hx]; rfl)).symm
 ·simp only [Option.bind_some,Fl.go]
  rw [if_neg (by simp),zN (by omega)]
  obtain ⟨ys,e2,h3,h4⟩:=zMp p a (b:=b2) (by omega) h2 h2e i (i+1) (by omega) (by omega) (by
   rw [List.take_succ_eq_append_getElem hi,List.filter_append]
   rw [List.filter_eq_self.2 (fun x hx=>by rw [hn x hx]; rfl)]
   simp [hp])
  rw [e2]
  simp only [Option.bind_some]
  exact zNX p zero h3 h4
end del
def vK {α R:Type} (g:Nat→α→Option R):Nat→List α→Option R
 |_,[]=>none
 |i,x::xs=>match g i x with
  |some r=>some r
  |none=>vK g (i+1) xs
def frs {R:Type}:Option R→Fl R Unit
 |some r=>.ret r
 |none=>.nxt ()
theorem zIm {α R:Type} (xs:List α) (g:Nat→α→Option R) {b:Int→Option (Lp Int (Fl R Unit))}
  (hstep:∀(i:Nat) (hi:i<xs.length),b (i:Int)=some (match g i xs[i] with|some r=>.done (.ret r)|none=>.go ((i+1:Nat):Int))) (hend:b (xs.length:Int)=some (.done (.nxt ()))):
  ∀(k i:Nat),i+k=xs.length→loop b (i:Int)=some (frs (vK g i (xs.drop i)))
 |0,i,h=>by
  have e:i=xs.length:=by omega
  subst e
  rw [jH,hend,List.drop_length]
  rfl
 |k+1,i,h=>by
  have hi:i<xs.length:=by omega
  have ih:=zIm xs g hstep hend k (i+1) (by omega)
  rw [jH,hstep i hi,List.drop_eq_getElem_cons hi]
  simp only [vK]
  cases g i xs[i] with
  |some r=>rfl
  |none=>exact ih
theorem wT {α R:Type} (xs:List α) (g:Nat→α→Option R) {b:Int→Option (Lp Int (Fl R Unit))}
  (hstep:∀(i:Nat) (hi:i<xs.length),b (i:Int)=some (match g i xs[i] with|some r=>.done (.ret r)|none=>.go ((i+1:Nat):Int))) (hend:b (xs.length:Int)=some (.done (.nxt ()))):
  loop b 0=some (frs (vK g 0 xs)):=by
 have:=zIm xs g hstep hend xs.length 0 (by omega)
 simpa using this
theorem zBI {R T:Type} (o:Option R) (f:R→Option T) (h:Unit→Option T):(some (frs o)).bind (Fl.go f h)=match o with|some r=>f r|none=>h ():=by
 cases o<;>rfl
theorem zC0 {α:Type} (p:α→Bool):∀(xs:List α) (i:Nat),((vK (fun j x=>if p x then some (j:Int) else none) i xs).getD (-1)≥0)↔xs.any p=true
 |[],i=>by simp [vK]
 |x::xs,i=>by
  simp only [vK]
  cases h:p x
  ·simp only [Bool.false_eq_true,if_false,List.any_cons,h,Bool.false_or]
   exact zC0 p xs (i+1)
  ·simp [h]
theorem zG1 {α:Type} (p:α→Bool):∀(xs:List α) (i:Nat),(vK (fun _ x=>if p x then some true else none) i xs).getD false=xs.any p
 |[],i=>rfl
 |x::xs,i=>by
  simp only [vK]
  cases h:p x
  ·simp only [Bool.false_eq_true,if_false,List.any_cons,h,Bool.false_or]
   exact zG1 p xs (i+1)
  ·simp [h]
def foldI {α A:Type} (f:Nat→A→α→A):Nat→List α→A→A
 |_,[],a=>a
 |i,x::xs,a=>foldI f (i+1) xs (f i a x)
theorem zFk {α A:Type} (xs:List α) (f:Nat→A→α→A) (I:Nat→A→Prop) {b:(A×Int)→Option (Lp (A×Int) A)}
  (hstep:∀(i:Nat) (a:A) (hi:i<xs.length),I i a→b (a,(i:Int))=some (.go (f i a xs[i],((i+1:Nat):Int)))∧I (i+1) (f i a xs[i])) (hend:∀a,b (a,(xs.length:Int))=some (.done a)):
  ∀(k i:Nat) (a:A),i+k=xs.length→I i a→loop b (a,(i:Int))=some (foldI f i (xs.drop i) a)∧I xs.length (foldI f i (xs.drop i) a)
 |0,i,a,h,hI=>by
  have e:i=xs.length:=by omega
  subst e
  rw [jH,hend,List.drop_length]
  exact ⟨rfl,hI⟩
 |k+1,i,a,h,hI=>by
  have hi:i<xs.length:=by omega
  obtain ⟨h1,h2⟩:=hstep i a hi hI
  have ih:=zFk xs f I hstep hend k (i+1) _ (by omega) h2
  rw [jH,h1,List.drop_eq_getElem_cons hi]
  exact ih
theorem zEy {o:Option Int} {b:Bool} (h:(o.getD (-1)≥0)↔b=true):decide (o.getD (-1)≥0)=b:=by
 rw [Bool.eq_iff_iff,decide_eq_true_eq]; exact h
theorem zKA:∀(a b:List UInt8),(Lib.compareBytes a b<0↔Op.bytesLess a b=true)∧(Lib.compareBytes a b=0↔a=b)
 |[],[]=>by simp [Lib.compareBytes,Op.bytesLess]
 |[],_::_=>by simp [Lib.compareBytes,Op.bytesLess]
 |_::_,[]=>by simp [Lib.compareBytes,Op.bytesLess]
 |x::a,y::b=>by
  obtain ⟨ih1,ih2⟩:=zKA a b
  simp only [Lib.compareBytes,Op.bytesLess]
  by_cases h1:x<y
  ·simp [h1]
   intro e; subst e; exact absurd h1 (by simp [UInt8.lt_irrefl])
  ·by_cases h2:y<x
   ·simp [h1,h2]
    have hne:x≠y:=fun e=>by subst e; exact absurd h2 (by simp [UInt8.lt_irrefl])
    simp [hne]
   ·have e:x=y:=by
     rw [UInt8.lt_iff_toNat_lt] at h1 h2
     exact UInt8.toNat_inj.1 (by omega)
    subst e
    simp [UInt8.lt_irrefl,ih1,ih2]
theorem zNL (a b:ByteArray):zPr a b<0↔slt a b=true:=by
 unfold zPr slt
 rw [ByteArray.toList_eq,ByteArray.toList_eq]
 exact (zKA _ _).1
def zMA (c:Int):Bool:=decide (97≤c)&&decide (c≤122)
def zIV (c:Int):Bool:=decide (48≤c)&&decide (c≤57)
def zLJ (c:Int):Bool:=zMA c||(zIV c||c==95)
theorem zH9 (c:Int):jF c=some (zMA c):=by
 unfold jF zMA
 by_cases h:c≥97<;>simp [h]
theorem zKY (c:Int):zBJ c=some (zIV c):=by
 unfold zBJ zIV
 by_cases h:c≥48<;>simp [h]
theorem zMv (c:Int):zDT c=some (zLJ c):=by
 unfold zDT zLJ
 simp only [zH9,zKY,Option.bind_some]
 cases zMA c<;>cases zIV c<;>simp
theorem zI3 (c:Int):zAv c=some (zLJ c):=by
 unfold zAv zLJ zMA zIV
 by_cases h1:c≥97<;>by_cases h2:c≤122<;>by_cases h3:c≥48<;>by_cases h4:c≤57<;>simp [h1,h2,h3,h4]
def zIO (s:ByteArray):Int:=(vK (fun _ c=>if zLJ c then none else some (5:Int)) 0 (bl s)).getD 0
def NF (s:ByteArray):Int:=if s.size<1 then 5 else if s.size>12 then 5 else if zMA ((bl s).headD 0) then zIO s else 5
theorem zMe {s:ByteArray} (h:1≤s.size):bidx s 0=some ((bl s).headD 0):=by
 have h':0< (bl s).length :=by rw [zFl]; exact h
 have e:=zIF (s:=s) (i:=0) h'
 rw [show ((0:Nat):Int)=0 from rfl] at e
 rw [e]
 have:(bl s)[0]? =some ((bl s).headD 0):=by
  cases hb:bl s with
  |nil=>rw [hb] at h'; simp at h'
  |cons c l=>rfl
 rw [List.getElem?_eq_getElem h'] at this
 exact this
theorem zI9 (s:ByteArray) (h:s.size≤12):zAg s 0=some (frs (vK (fun _ c=>if zLJ c then none else some (5:Int)) 0 (bl s))):=by
 unfold zAg
 refine wT (bl s) _ (fun i hi=>?_) ?_
 ·have hs:i<s.size:=by rw [←zFl]; exact hi
  unfold zC7
  rw [if_pos (by simp; omega),zIF hi]
  simp only [Option.bind_some,zMv]
  rw [zN (by omega)]
  cases zLJ (bl s)[i]<;>rfl
 ·unfold zC7
  rw [if_neg (by rw [zFl]; simp)]
theorem zIK (s:ByteArray) (h:s.size≤12):zAq s 0=some (frs (vK (fun _ c=>if zLJ c then none else some (5:Int)) 0 (bl s))):=by
 unfold zAq
 refine wT (bl s) _ (fun i hi=>?_) ?_
 ·have hs:i<s.size:=by rw [←zFl]; exact hi
  unfold zC3
  rw [if_pos (by simp; omega),zIF hi]
  simp only [Option.bind_some,zI3]
  rw [zN (by omega)]
  cases zLJ (bl s)[i]<;>rfl
 ·unfold zC3
  rw [if_neg (by rw [zFl]; simp)]
theorem zFg (s:ByteArray):uR s=some (NF s):=by
 unfold uR NF
 by_cases h1:s.size<1
 ·rw [if_pos (show decide ((s.size:Int)<1)=true by rw [decide_eq_true_eq]; omega),if_pos h1]; rfl
 rw [if_neg (show ¬decide ((s.size:Int)<1)=true by rw [decide_eq_true_eq]; omega),if_neg h1]
 by_cases h2:s.size>12
 ·rw [if_pos (show decide ((s.size:Int)>12)=true by rw [decide_eq_true_eq]; omega),if_pos h2]; rfl
 rw [if_neg (show ¬decide ((s.size:Int)>12)=true by rw [decide_eq_true_eq]; omega),if_neg h2,zMe (by omega),zI9 s (by omega)]
 simp only [Option.bind_some,zH9]
 cases h3:zMA ((bl s).headD 0)
 ·rfl
 ·unfold zIO
  cases vK (fun _ c=>if zLJ c then none else some (5:Int)) 0 (bl s)<;>rfl
theorem zNa (c:Int):(if decide (c<97)=true then some true else some (decide (c>122)))=some (!(zMA c)):=by
 unfold zMA
 by_cases h3:c<97
 ·rw [if_pos (by rw [decide_eq_true_eq]; exact h3)]
  have:decide (97≤c)=false:=by rw [decide_eq_false_iff_not]; omega
  rw [this]; rfl
 ·rw [if_neg (by rw [decide_eq_true_eq]; exact h3)]
  have:decide (97≤c)=true:=by rw [decide_eq_true_eq]; omega
  rw [this]
  congr 1
  rw [Bool.true_and,Bool.eq_iff_iff]
  simp
theorem zFj (s:ByteArray):uY s=some (NF s):=by
 unfold uY NF
 by_cases h1:s.size<1
 ·rw [if_pos (show decide ((s.size:Int)<1)=true by rw [decide_eq_true_eq]; omega),if_pos h1]; rfl
 rw [if_neg (show ¬decide ((s.size:Int)<1)=true by rw [decide_eq_true_eq]; omega),if_neg h1]
 by_cases h2:s.size>12
 ·rw [if_pos (show decide ((s.size:Int)>12)=true by rw [decide_eq_true_eq]; omega),if_pos h2]; rfl
 rw [if_neg (show ¬decide ((s.size:Int)>12)=true by rw [decide_eq_true_eq]; omega),if_neg h2,zMe (by omega),zIK s (by omega)]
 simp only [Option.bind_some,zNa]
 cases h3:zMA ((bl s).headD 0)
 ·rfl
 ·unfold zIO
  cases vK (fun _ c=>if zLJ c then none else some (5:Int)) 0 (bl s)<;>rfl
def VF (v:Version):Int:=if inB v.A 0 999&&inB v.B 0 999&&inB v.C 0 999 then 0 else 3
theorem zFm (v:Version):vH v=some (VF v):=by
 unfold vH VF
 simp only [zKa,Option.bind_some]
 cases inB v.A 0 999<;>cases inB v.B 0 999<;>cases inB v.C 0 999<;>rfl
theorem zFq (v:Version):vJ v=some (VF v):=by
 unfold vJ VF
 simp only [zHq,Option.bind_some]
 cases inB v.A 0 999<;>cases inB v.B 0 999<;>cases inB v.C 0 999<;>rfl
def sgn (a b:Int):Int:=if a<b then-1 else if a>b then 1 else 0
theorem zMs (a b:Int):zA4 a b=some (sgn a b):=by
 unfold zA4 sgn
 by_cases h:a<b
 ·simp [h]
 ·by_cases h2:a>b<;>simp [h,h2]
theorem cmp_eq (a b:Int):vI a b=some (sgn a b):=by
 unfold vI kJ sgn
 simp only [Option.bind_some,bne_self_eq_false,Bool.false_eq_true,if_false]
 by_cases h:a<b
 ·simp [h]
 ·by_cases h2:a>b<;>simp [h,h2]
def zIj (a b:Version):Int:=if sgn a.A b.A≠0 then sgn a.A b.A else if sgn a.B b.B≠0 then sgn a.B b.B else sgn a.C b.C
theorem zD2 (a b:Version):xJ a b=some (zIj a b):=by
 unfold xJ zIj
 simp only [zMs,Option.bind_some]
 by_cases h1:sgn a.A b.A=0
 ·by_cases h2:sgn a.B b.B=0<;>simp [h1,h2]
 ·simp [h1]
theorem zNJ (l:List Int) (h:l.length≤10):loop (zD9 l) 0=some (frs (vK (fun _ c=>if c !=0 then some c else none) 0 l)):=by
 refine wT l _ (fun i hi=>?_) ?_
 ·unfold zD9
  rw [if_pos (by simp; omega),zJ hi]
  simp only [Option.bind_some]
  rw [zN (by omega)]
  cases l[i] !=0<;>rfl
 ·unfold zD9
  rw [if_neg (by simp)]
theorem zGY (a b:Version):jS a b=some (zIj a b):=by
 unfold jS zIj zEK zEd
 simp only [cmp_eq,Option.bind_some]
 rw [zNJ _ (by simp),zBI]
 by_cases h1:sgn a.A b.A=0
 ·by_cases h2:sgn a.B b.B=0
  ·by_cases h3:sgn a.C b.C=0<;>simp [h1,h2,h3,vK]
  ·simp [h1,h2,vK]
 ·simp [h1,vK]
theorem zM6 (a b:Version):zIj b a= -zIj a b:=by
 unfold zIj sgn
 split<;>split<;>omega
def eqV (a b:Version):Bool:=a.A==b.A&&(a.B==b.B&&(a.C==b.C&&true))
theorem zMj (a b:Version):(zIj a b==0)=eqV a b:=by
 unfold zIj eqV sgn
 rw [Bool.eq_iff_iff]
 simp only [beq_iff_eq,Bool.and_eq_true,Bool.and_true]
 constructor
 ·intro h
  split at h<;>omega
 ·intro ⟨h1,h2,h3⟩
  split<;>omega
def zPc:Version:= {A:=1000,B:=0,C:=0}
def TF (t:Term):Int:=if NF t.Name≠0 then NF t.Name else if VF t.Low≠0 then VF t.Low else
 if eqV t.High zPc=false∧VF t.High≠0 then 3 else if zIj t.Low t.High≥0 then 1 else 0
theorem zId (t:Term):zBj t=some (TF t):=by
 unfold zBj TF zEt
 simp only [zFg,zFm,zD2,Option.bind_some]
 show (if (NF t.Name !=0)=true then some (NF t.Name) else if (VF t.Low !=0)=true then some (VF t.Low) else (if (!(eqV t.High zPc))=true then some (VF t.High !=0) else some false).bind fun v=>if v=true then some 3 else if decide (zIj t.Low t.High≥0)=true then some 1 else some 0)=_
 generalize NF t.Name=a
 generalize VF t.Low=b
 generalize eqV t.High zPc=c
 generalize VF t.High=d
 generalize zIj t.Low t.High=e
 by_cases h1:a=0
 ·by_cases h2:b=0
  ·by_cases h4:d=0<;>by_cases h5:e≥0<;>cases c<;>simp [h1,h2,h4,h5]
  ·simp [h1,h2]
 ·simp [h1]
theorem zIf (t:Term):zBk t=some (TF t):=by
 unfold zBk TF zF6
 simp only [zFj,zFq,zGY,Option.bind_some]
 show (if (NF t.Name !=0)=true then some (NF t.Name) else if (VF t.Low !=0)=true then some (VF t.Low) else (if (!(eqV t.High zPc))=true then some (VF t.High !=0) else some false).bind fun v=>if v=true then some 3 else if decide (zIj t.Low t.High≥0)=true then some 1 else some 0)=_
 generalize NF t.Name=a
 generalize VF t.Low=b
 generalize eqV t.High zPc=c
 generalize VF t.High=d
 generalize zIj t.Low t.High=e
 by_cases h1:a=0
 ·by_cases h2:b=0
  ·by_cases h4:d=0<;>by_cases h5:e≥0<;>cases c<;>simp [h1,h2,h4,h5]
  ·simp [h1,h2]
 ·simp [h1]
def tsF (l:List Term):Int:=(vK (fun _ t=>if TF t !=0 then some (TF t) else none) 0 l).getD 0
theorem zHc (l:List Term) (h:l.length≤1048576):zAd l=some (tsF l):=by
 have key:=wT l (fun _ t=>if TF t !=0 then some (TF t) else none) (b:=zCt l) (by
  intro i hi
  unfold zCt
  rw [if_pos (by simp; omega),zJ hi]
  simp only [Option.bind_some,zId]
  rw [zN (by omega)]
  cases TF l[i] !=0<;>rfl) (by
  unfold zCt
  rw [if_neg (by simp)])
 unfold zAd zCU tsF
 rw [key,zBI]
 cases vK (fun _ t=>if TF t !=0 then some (TF t) else none) 0 l<;>rfl
theorem zFQ (l:List Term) (h:l.length≤1048576):uW l=some (tsF l):=by
 have key:=wT l (fun _ t=>if TF t !=0 then some (TF t) else none) (b:=zAz l) (by
  intro i hi
  unfold zAz
  rw [if_pos (by simp; omega),zJ hi]
  simp only [Option.bind_some,zIf]
  rw [zN (by omega)]
  cases TF l[i] !=0<;>rfl) (by
  unfold zAz
  rw [if_neg (by simp)])
 unfold uW zAU tsF
 rw [key,zBI]
 cases vK (fun _ t=>if TF t !=0 then some (TF t) else none) 0 l<;>rfl
theorem zIC (a b:ByteArray):seq a b=seq b a:=by
 unfold seq
 rw [Bool.eq_iff_iff]
 simp only [beq_iff_eq]
 exact eq_comm
theorem zFC {α R:Type} (g:Nat→α→Option R):∀(xs:List α) (i:Nat),vK g i xs=none↔∀(j:Nat) (h:j<xs.length),g (i+j) xs[j]=none
 |[],i=>by simp [vK]
 |x::xs,i=>by
  simp only [vK]
  cases h:g i x with
  |some r=>
   simp only [reduceCtorEq,false_iff]
   intro hh
   have:=hh 0 (by simp)
   simp only [Nat.add_zero,List.getElem_cons_zero] at this
   rw [h] at this
   cases this
  |none=>
   show vK g (i+1) xs=none↔_
   rw [zFC g xs (i+1)]
   constructor
   ·intro hh j hj
    cases j with
    |zero=>simpa using h
    |succ j=>
     have:=hh j (by simpa using hj)
     rw [show i+(j+1)=i+1+j by omega]
     simpa using this
   ·intro hh j hj
    have:=hh (j+1) (by simpa using hj)
    rw [show i+(j+1)=i+1+j by omega] at this
    simpa using this
theorem zGE {α:Type} {xs:List α} {i:Nat} (h:i≤xs.length):zF8 xs 0 (i:Int)=some (xs.take i):=by
 have:=zFF (xs:=xs) (l:=0) (h:=i) (by omega) h
 rw [show ((0:Nat):Int)=0 from rfl] at this
 rw [this]
 simp
theorem zEs (l:List ByteArray) (n:ByteArray) (h:l.length≤1048576):wP l n=some (l.any fun x=>seq x n):=by
 have key:=wT l (fun _ x=>if seq x n then some true else none) (b:=zCp l n) (by
  intro i hi
  unfold zCp
  rw [if_pos (by simp; omega),zJ hi]
  simp only [Option.bind_some]
  rw [zN (by omega)]
  cases seq l[i] n<;>rfl) (by
  unfold zCp
  rw [if_neg (by simp)])
 unfold wP zDj
 rw [key,zBI,←zG1 (fun x=>seq x n) l 0]
 cases vK (fun _ x=>if seq x n then some true else none) 0 l<;>rfl
theorem zDp (l:List ByteArray) (n:ByteArray) (h:l.length≤1048576):yA l n=some (l.any fun x=>seq x n):=by
 have key:=wT l (fun i x=>if seq x n then some (i:Int) else none) (b:=tL l n) (by
  intro i hi
  unfold tL
  rw [if_pos (by simp; omega),zJ hi]
  simp only [Option.bind_some]
  rw [zN (by omega),zIC n]
  cases seq l[i] n<;>rfl) (by
  unfold tL
  rw [if_neg (by simp)])
 unfold yA jO jJ
 rw [key,zBI]
 rw [←zEy (zC0 (fun x=>seq x n) l 0)]
 cases vK (fun j x=>if seq x n then some (j:Int) else none) 0 l<;>rfl
def zJQ (p:Pack) (i:Nat) (n:ByteArray):Option Int:=if NF n !=0 then some (NF n) else if seq n p.Name||(p.Provides.take i).any (fun x=>seq x n) then some 6 else none
def zJF (_:Nat) (l:List Term):Option Int:=if (l.length:Int)==0 then some 1 else if tsF l !=0 then some (tsF l) else none
def zLs (p:Pack):Bool:=decide ((p.Provides.length:Int)>4)||(decide ((p.Needs.length:Int)>4)||(decide ((p.Bars.length:Int)>4)||p.Needs.any (fun l=>decide ((l.length:Int)>4))))
def zJp (p:Pack):Int:=match vK (zJQ p) 0 p.Provides with
 |some r=>r
 |none=>match vK zJF 0 p.Needs with
  |some r=>r
  |none=>tsF p.Bars
def PF (p:Pack):Int:=if NF p.Name !=0 then NF p.Name else if VF p.Version !=0 then VF p.Version else if !(inB p.Size 1 200) then 3 else if zLs p then 2 else zJp p
theorem zHD (p:Pack) (hp:Pack.sm 1048576 p):((zAn p 0).bind (Fl.go some fun v60=>(zAl p 0).bind (Fl.go some fun v80=>(zAd p.Bars).bind fun x81=>some x81)))=some (zJp p):=by
 obtain ⟨_,_,_,hpr,hne,hba⟩:=hp
 have k2:=wT p.Provides (zJQ p) (b:=zAN p) (by
  intro i hi
  unfold zAN zJQ
  rw [if_pos (by simp; omega),zJ hi]
  simp only [Option.bind_some,zFg]
  rw [zGE (by omega)]
  simp only [Option.bind_some]
  rw [zEs _ _ (by simp; omega),zN (by omega)]
  simp only [Option.bind_some]
  cases NF p.Provides[i] !=0<;>cases seq p.Provides[i] p.Name<;>cases (p.Provides.take i).any (fun x=>seq x p.Provides[i])<;>rfl) (by
  unfold zAN
  rw [if_neg (by simp)])
 have k3:=wT p.Needs zJF (b:=zAG p) (by
  intro i hi
  unfold zAG zJF
  rw [if_pos (by simp; omega),zJ hi]
  simp only [Option.bind_some]
  rw [zHc _ (hne.2 _ (List.getElem_mem hi)).1,zN (by omega)]
  simp only [Option.bind_some]
  cases (p.Needs[i].length :Int)==0<;>cases tsF p.Needs[i] !=0<;>rfl) (by
  unfold zAG
  rw [if_neg (by simp)])
 unfold zAn zAl zJp
 rw [k2,k3,zHc _ hba.1]
 cases vK (zJQ p) 0 p.Provides<;>cases vK zJF 0 p.Needs<;>rfl
theorem zHe (p:Pack) (hp:Pack.sm 1048576 p):((zAj p 0).bind (Fl.go some fun v46=>(zAs p 0).bind (Fl.go some fun v62=>(uW p.Bars).bind fun x63=>some x63)))=some (zJp p):=by
 obtain ⟨_,_,_,hpr,hne,hba⟩:=hp
 have k2:=wT p.Provides (zJQ p) (b:=zBd p) (by
  intro i hi
  unfold zBd zJQ
  rw [if_pos (by simp; omega),zJ hi]
  simp only [Option.bind_some,zFj]
  rw [zGE (by omega)]
  simp only [Option.bind_some]
  rw [zDp _ _ (by simp; omega),zN (by omega)]
  simp only [Option.bind_some]
  cases NF p.Provides[i] !=0<;>cases seq p.Provides[i] p.Name<;>cases (p.Provides.take i).any (fun x=>seq x p.Provides[i])<;>rfl) (by
  unfold zBd
  rw [if_neg (by simp)])
 have k3:=wT p.Needs zJF (b:=zAE p) (by
  intro i hi
  unfold zAE zJF
  rw [if_pos (by simp; omega),zJ hi]
  simp only [Option.bind_some]
  rw [zFQ _ (hne.2 _ (List.getElem_mem hi)).1,zN (by omega)]
  simp only [Option.bind_some]
  cases (p.Needs[i].length :Int)==0<;>cases tsF p.Needs[i] !=0<;>rfl) (by
  unfold zAE
  rw [if_neg (by simp)])
 unfold zAj zAs zJp
 rw [k2,k3,zFQ _ hba.1]
 cases vK (zJQ p) 0 p.Provides<;>cases vK zJF 0 p.Needs<;>rfl
theorem zGc {α R:Type} (p:α→Bool) (r:R):∀(xs:List α) (i:Nat),vK (fun _ x=>if p x then some r else none) i xs=if xs.any p then some r else none
 |[],i=>rfl
 |x::xs,i=>by
  simp only [vK]
  cases h:p x
  ·simp only [Bool.false_eq_true,if_false,List.any_cons,h,Bool.false_or]
   exact zGc p r xs (i+1)
  ·simp [h]
theorem zHZ (p:Pack) (hp:Pack.sm 1048576 p):zBo p=some (PF p):=by
 have hl:=zHD p hp
 obtain ⟨_,_,_,hpr,hne,hba⟩:=hp
 have k1:=wT p.Needs (fun _ l=>if decide ((l.length:Int)>4) then some (2:Int) else none) (b:=zAF p) (by
  intro i hi
  unfold zAF
  rw [if_pos (by simp; omega),zJ hi]
  simp only [Option.bind_some]
  rw [zN (by omega)]
  cases decide ((p.Needs[i].length :Int)>4)<;>rfl) (by
  unfold zAF
  rw [if_neg (by simp)])
 rw [zGc] at k1
 unfold zBo PF zLs
 simp only [zFg,zFm,zKa,Option.bind_some]
 rw [hl]
 unfold zBD
 rw [k1]
 cases NF p.Name !=0<;>cases VF p.Version !=0<;>cases inB p.Size 1 200<;>cases decide ((p.Provides.length:Int)>4)<;>cases decide ((p.Needs.length:Int)>4)<;>cases decide ((p.Bars.length:Int)>4)<;>cases p.Needs.any (fun l=>decide ((l.length:Int)>4))<;>rfl
theorem zKv (l:List Int) (h:l.length≤10):loop (zAW l) 0=some (frs (vK (fun _ c=>if c !=0 then some c else none) 0 l)):=by
 refine wT l _ (fun i hi=>?_) ?_
 ·unfold zAW
  rw [if_pos (by simp; omega),zJ hi]
  simp only [Option.bind_some]
  rw [zN (by omega)]
  cases l[i] !=0<;>rfl
 ·unfold zAW
  rw [if_neg (by simp)]
theorem zIe (p:Pack) (hp:Pack.sm 1048576 p):zBm p=some (PF p):=by
 have hl:=zHe p hp
 obtain ⟨_,_,_,hpr,hne,hba⟩:=hp
 have k1:=wT p.Needs (fun i l=>if decide ((l.length:Int)>4) then some (i:Int) else none) (b:=yU p.Needs) (by
  intro i hi
  unfold yU zA9
  rw [if_pos (by simp; omega),zJ hi]
  simp only [Option.bind_some]
  rw [zN (by omega)]
  cases decide ((p.Needs[i].length :Int)>4)<;>rfl) (by
  unfold yU
  rw [if_neg (by simp)])
 have k2:zS p.Needs=some (p.Needs.any (fun l=>decide ((l.length:Int)>4))):=by
  unfold zS yN xB
  rw [k1,zBI,←zEy (zC0 (fun l:List Term=>decide ((l.length:Int)>4)) p.Needs 0)]
  cases vK (fun j (x:List Term)=>if decide ((x.length:Int)>4) then some (j:Int) else none) 0 p.Needs<;>rfl
 have k3:uU [NF p.Name,VF p.Version]=some (if NF p.Name !=0 then NF p.Name else VF p.Version):=by
  have k:=zKv [NF p.Name,VF p.Version] (by simp)
  unfold uU zAo
  rw [k,zBI]
  simp only [vK]
  cases hn:NF p.Name !=0
  ·cases hv:VF p.Version !=0
   ·have:VF p.Version=0:=by simpa using hv
    simp [this]
   ·rfl
  ·rfl
 unfold zBm PF zLs
 simp only [zFj,zFq,zHq,Option.bind_some]
 rw [hl,k2,k3]
 simp only [Option.bind_some]
 cases hn:NF p.Name !=0
 ·simp only [Bool.false_eq_true,if_false]
  cases VF p.Version !=0<;>cases inB p.Size 1 200<;>cases decide ((p.Provides.length:Int)>4)<;>cases decide ((p.Needs.length:Int)>4)<;>cases decide ((p.Bars.length:Int)>4)<;>cases p.Needs.any (fun l=>decide ((l.length:Int)>4))<;>rfl
 ·simp only [if_true,hn]
def isB (n:ByteArray) (v:Version) (q:Pack):Bool:=seq q.Name n&&eqV q.Version v
def zLD (c:List Pack) (n:ByteArray) (v:Version):Int:=(vK (fun i q=>if isB n v q then some (i:Int) else none) 0 c).getD (-1)
theorem zJk (c:List Pack) (n:ByteArray) (v:Version):decide (zLD c n v≥0)=c.any (isB n v):=zEy (zC0 (isB n v) c 0)
theorem zLk (c:List Pack) (n:ByteArray) (v:Version) (h:c.length≤1048576):zDc c n v=some (zLD c n v):=by
 have key:=wT c (fun i q=>if isB n v q then some (i:Int) else none) (b:=zCY c n v) (by
  intro i hi
  unfold zCY isB
  rw [if_pos (by simp; omega),zJ hi]
  simp only [Option.bind_some,zD2,zMj]
  rw [zN (by omega)]
  cases seq c[i].Name n<;>cases eqV c[i].Version v<;>rfl) (by
  unfold zCY
  rw [if_neg (by simp)])
 unfold zLD
 unfold zDc zD3
 rw [key,zBI]
 cases vK (fun i q=>if isB n v q then some (i:Int) else none) 0 c<;>rfl
theorem zLg (c:List Pack) (n:ByteArray) (v:Version) (h:c.length≤1048576):zE3 c n v=some (zLD c n v):=by
 have key:=wT c (fun i q=>if isB n v q then some (i:Int) else none) (b:=wC c n v) (by
  intro i hi
  unfold wC isB zEo
  rw [if_pos (by simp; omega),zJ hi]
  simp only [Option.bind_some]
  rw [zN (by omega)]
  show (Option.bind (if seq c[i].Name n=true then some (eqV c[i].Version v) else some false) _)=_
  cases seq c[i].Name n<;>cases eqV c[i].Version v<;>rfl) (by
  unfold wC
  rw [if_neg (by simp)])
 unfold zLD
 unfold zE3 xR wE
 rw [key,zBI]
 cases vK (fun i q=>if isB n v q then some (i:Int) else none) 0 c<;>rfl
theorem find_spec (c:List Pack) (n:ByteArray) (v:Version) (h:c.length≤1048576):∃k,zDc c n v=some k∧decide (k≥0)=c.any (isB n v):=⟨_,zLk c n v h,zJk c n v⟩
theorem zM4 (c:List Pack) (n:ByteArray) (v:Version) (h:c.length≤1048576):∃k,zE3 c n v=some k∧decide (k≥0)=c.any (isB n v):=⟨_,zLg c n v h,zJk c n v⟩
def zM7 (c:List Pack) (i:Nat) (p:Pack):Option Int:=if PF p !=0 then some (PF p) else if (c.take i).any (isB p.Name p.Version) then some 6 else none
def CF (c:List Pack):Int:=if decide ((c.length:Int)>24) then 2 else (vK (zM7 c) 0 c).getD 0
theorem zGL (c:List Pack) (hc:c.length≤1048576∧∀y0∈c,Pack.sm 1048576 y0):jY c=some (CF c):=by
 have key:=wT c (zM7 c) (b:=kL c) (by
  intro i hi
  unfold kL zM7
  rw [if_pos (by simp; omega),zJ hi]
  simp only [Option.bind_some]
  rw [zHZ _ (hc.2 _ (List.getElem_mem hi)),zGE (by omega)]
  simp only [Option.bind_some]
  obtain ⟨k,e,hk⟩:=find_spec (c.take i) c[i].Name c[i].Version (by simp; omega)
  rw [e,zN (by omega)]
  simp only [Option.bind_some]
  rw [hk]
  cases PF c[i] !=0<;>cases (c.take i).any (isB c[i].Name c[i].Version)<;>rfl) (by
  unfold kL
  rw [if_neg (by simp)])
 unfold jY CF kZ
 rw [key,zBI]
 cases decide ((c.length:Int)>24)<;>cases vK (zM7 c) 0 c<;>rfl
theorem zGM (c:List Pack) (hc:c.length≤1048576∧∀y0∈c,Pack.sm 1048576 y0):jX c=some (CF c):=by
 have key:=wT c (zM7 c) (b:=kF c) (by
  intro i hi
  unfold kF zM7
  rw [if_pos (by simp; omega),zJ hi]
  simp only [Option.bind_some]
  rw [zIe _ (hc.2 _ (List.getElem_mem hi)),zGE (by omega)]
  simp only [Option.bind_some]
  obtain ⟨k,e,hk⟩:=zM4 (c.take i) c[i].Name c[i].Version (by simp; omega)
  rw [e,zN (by omega)]
  simp only [Option.bind_some]
  rw [hk]
  cases PF c[i] !=0<;>cases (c.take i).any (isB c[i].Name c[i].Version)<;>rfl) (by
  unfold kF
  rw [if_neg (by simp)])
 unfold jX CF kW
 rw [key,zBI]
 cases decide ((c.length:Int)>24)<;>cases vK (zM7 c) 0 c<;>rfl
def noPack:Pack:= {Name:=ByteArray.empty,Version:= {A:=0,B:=0,C:=0},Size:=0,Provides:=[],Needs:=[],Bars:=[]}
def pat (c:List Pack) (k:Int):Pack:=(idx c k).getD noPack
def Places (c:List Pack) (a:List Int):Prop:=∀k∈a,0≤k∧k<c.length
theorem zA0 {c:List Pack} {k:Int} (h:0≤k∧k<c.length):idx c k=some (pat c k)∧pat c k∈c:=by
 unfold pat idx
 rw [if_pos h.1]
 have:k.toNat<c.length:=by omega
 rw [List.getElem?_eq_getElem this]
 exact ⟨rfl,List.getElem_mem this⟩
def Cat (c:List Pack):Prop:=c.length≤1048576∧∀y0∈c,Pack.sm 1048576 y0
theorem Cat.zOA {c:List Pack} (hc:Cat c) {k:Int} (h:0≤k∧k<c.length):(pat c k).Provides.length ≤1048576:=(hc.2 _ (zA0 h).2).2.2.2.1.1
theorem Cat.needs {c:List Pack} (hc:Cat c) {k:Int} (h:0≤k∧k<c.length):(pat c k).Needs.length ≤1048576:=(hc.2 _ (zA0 h).2).2.2.2.2.1.1
theorem Cat.clause {c:List Pack} (hc:Cat c) {k:Int} (h:0≤k∧k<c.length) {l:List Term} (hl:l∈(pat c k).Needs):l.length≤1048576:=((hc.2 _ (zA0 h).2).2.2.2.2.1.2 l hl).1
theorem Cat.bars {c:List Pack} (hc:Cat c) {k:Int} (h:0≤k∧k<c.length):(pat c k).Bars.length ≤1048576:=(hc.2 _ (zA0 h).2).2.2.2.2.2.1
def zL9 (c:List Pack) (a:List Int) (i:Nat) (k:Int):Option Bool:=if !(inB k 0 ((c.length:Int)-1))||(decide (0<i)&&decide (k≤a.getD (i-1) 0)) then some false else none
def zM9 (c:List Pack) (a:List Int):Bool:=(vK (zL9 c a) 0 a).isNone
theorem getD_lt {a:List Int} {i:Nat} (h:i<a.length):a.getD i 0=a[i]:=by simp [List.getD,h]
theorem zLm {c:List Pack} {a:List Int} (hc:c.length≤1048576) (ha:a.length≤1048576):zEr c a=some (zM9 c a):=by
 have key:=wT a (zL9 c a) (b:=zD4 c a) (by
  intro i hi
  unfold zD4 zL9
  rw [if_pos (by simp; omega),zJ hi,zCA (x:=(c.length:Int)-1) (by omega) (by omega)]
  simp only [Option.bind_some,zKa]
  by_cases h0:0<i
  ·rw [zCA (x:=(i:Int)-1) (by omega) (by omega),show (i:Int)-1=((i-1:Nat):Int) by omega,zJ (show i-1<a.length by omega),getD_lt (show i-1<a.length by omega)]
   have e:decide ((i:Int)>0)=true:=by simp; omega
   have e2:decide (0<i)=true:=by simpa using h0
   rw [e,e2,zN (by omega)]
   simp only [Option.bind_some,Bool.true_and]
   cases inB a[i] 0 ((c.length:Int)-1)<;>cases decide (a[i]≤a[i-1])<;>rfl
  ·have e:decide ((i:Int)>0)=false:=by simp; omega
   have e2:decide (0<i)=false:=by simpa using h0
   rw [e,e2,zN (by omega)]
   cases inB a[i] 0 ((c.length:Int)-1)<;>rfl) (by
  unfold zD4
  rw [if_neg (by simp)])
 unfold zEr zEc zM9
 rw [key,zBI]
 have hf:∀(l:List Int) (i:Nat),vK (zL9 c a) i l=none∨vK (zL9 c a) i l=some false:=by
  intro l
  induction l with
  |nil=>intro i; exact .inl rfl
  |cons x l ih=>
   intro i
   simp only [vK]
   cases hg:zL9 c a i x with
   |none=>exact ih (i+1)
   |some r=>
    unfold zL9 at hg
    split at hg
    ·cases hg; exact .inr rfl
    ·cases hg
 rcases hf a 0 with h|h<;>rw [h]<;>rfl
def SF (c:List Pack) (a:List Int):Int:=if CF c !=0 then CF c else if zM9 c a then 0 else 1
theorem zGD {c:List Pack} {a:List Int} (hc:Cat c) (ha:a.length≤1048576):zAa c a=some (SF c a):=by
 unfold zAa SF
 rw [zGL c hc,zLm hc.1 ha]
 simp only [Option.bind_some]
 cases CF c !=0<;>cases zM9 c a<;>rfl
theorem zIh {c:List Pack} {a:List Int} (hc:c.length≤1048576) (ha:a.length≤1048576):zBp c a=some (a.all (fun k=>inB k 0 ((c.length:Int)-1))):=by
 have key:=wT a (fun i k=>if !(inB k 0 ((c.length:Int)-1)) then some (i:Int) else none) (b:=xQ a c) (by
  intro i hi
  unfold xQ zA8
  rw [if_pos (by simp; omega),zJ hi,zCA (x:=(c.length:Int)-1) (by omega) (by omega)]
  simp only [Option.bind_some,zHq]
  rw [zN (by omega)]
  cases inB a[i] 0 ((c.length:Int)-1)<;>rfl) (by
  unfold xQ
  rw [if_neg (by simp)])
 unfold zBp yS xD xW
 rw [key,zBI]
 have e:a.all (fun k=>inB k 0 ((c.length:Int)-1))= !(a.any (fun k=> !(inB k 0 ((c.length:Int)-1)))):=by
  rw [List.all_eq_not_any_not]
 rw [e,←zEy (zC0 (fun k=> !(inB k 0 ((c.length:Int)-1))) a 0)]
 cases vK (fun i k=>if !(inB k 0 ((c.length:Int)-1)) then some (i:Int) else none) 0 a<;>rfl
def zM8 (a:List Int) (i:Nat) (k:Int):Option Int:=if decide (k≤a.getD (i-1) 0) then some 1 else none
theorem zKM (c:List Pack) (a:List Int):zM9 c a=((vK (zM8 a) 1 (a.drop 1)).isNone &&a.all (fun k=>inB k 0 ((c.length:Int)-1))):=by
 unfold zM9
 rw [Bool.eq_iff_iff,Bool.and_eq_true,Option.isNone_iff_eq_none,Option.isNone_iff_eq_none,zFC,zFC,List.all_eq_true]
 constructor
 ·intro h
  constructor
  ·intro j hj
   have hj':1+j<a.length:=by simp at hj; omega
   have:=h (1+j) hj'
   unfold zL9 at this
   unfold zM8
   rw [List.getElem_drop]
   split at this
   ·cases this
   ·rename_i hn
    rw [if_neg]
    intro hx
    apply hn
    rw [Nat.zero_add]
    rw [Bool.or_eq_true,Bool.and_eq_true]
    exact .inr ⟨by rw [decide_eq_true_eq]; omega,hx⟩
  ·intro k hk
   obtain ⟨i,hi,rfl⟩:=List.mem_iff_getElem.1 hk
   have:=h i hi
   unfold zL9 at this
   split at this
   ·cases this
   ·rename_i hn
    simp only [Bool.or_eq_true,not_or] at hn
    simpa using hn.1
 ·rintro ⟨h1,h2⟩ j hj
  unfold zL9
  rw [if_neg]
  rw [Nat.zero_add,h2 _ (List.getElem_mem hj)]
  simp only [Bool.not_true,Bool.false_or,Bool.and_eq_true,not_and]
  intro h0 hx
  have h0':0<j:=by simpa using h0
  have hd:j-1< (a.drop 1).length :=by simp; omega
  have:=h1 (j-1) hd
  unfold zM8 at this
  rw [List.getElem_drop] at this
  have ej:1+(j-1)=j:=by omega
  simp only [ej] at this
  rw [if_pos hx] at this
  cases this
theorem zGC {c:List Pack} {a:List Int} (hc:Cat c) (ha:a.length≤1048576):zAb c a=some (SF c a):=by
 have hend:tO c a (a.length:Int)=some (.done (.nxt ())):=by
  unfold tO
  rw [if_neg (by simp)]
 have key:zAC c a 1=some (frs (vK (zM8 a) 1 (a.drop 1))):=by
  unfold zAC
  rcases Nat.eq_zero_or_pos a.length with h0|h0
  ·have:a=[]:=List.eq_nil_of_length_eq_zero h0
   subst this
   rw [jH]
   unfold tO
   rw [if_neg (by simp)]
   rfl
  ·have hh:∀(k i:Nat),1≤i→i+k=a.length→loop (tO c a) (i:Int)=some (frs (vK (zM8 a) i (a.drop i))):=by
    intro k
    induction k with
    |zero=>
     intro i h1 h
     have e:i=a.length:=by omega
     subst e
     rw [jH,hend,List.drop_length]
     rfl
    |succ k ih=>
     intro i h1 h
     have hi:i<a.length:=by omega
     have ih:=ih (i+1) (by omega) (by omega)
     rw [jH,List.drop_eq_getElem_cons hi]
     simp only [vK]
     have hb:tO c a (i:Int)=some (if decide (a[i]≤a[i-1]) then .done (.ret 1) else .go ((i+1:Nat):Int)):=by
      unfold tO
      rw [if_pos (by simp; omega),zJ hi,zCA (x:=(i:Int)-1) (by omega) (by omega),show (i:Int)-1=((i-1:Nat):Int) by omega,zJ (show i-1<a.length by omega),zN (by omega)]
      simp only [Option.bind_some]
      cases decide (a[i]≤a[i-1])<;>rfl
     rw [hb]
     unfold zM8
     rw [getD_lt (show i-1<a.length by omega)]
     cases decide (a[i]≤a[i-1])
     ·exact ih
     ·rfl
   exact hh (a.length-1) 1 (by omega) (by omega)
 unfold zAb SF
 rw [zGM c hc,key,zBI,zIh hc.1 ha,zKM]
 simp only [Option.bind_some]
 have hf:∀(l:List Int) (i:Nat),vK (zM8 a) i l=none∨vK (zM8 a) i l=some 1:=by
  intro l
  induction l with
  |nil=>intro i; exact .inl rfl
  |cons x l ih=>
   intro i
   simp only [vK]
   cases hg:zM8 a i x with
   |none=>exact ih (i+1)
   |some r=>
    unfold zM8 at hg
    split at hg
    ·cases hg; exact .inr rfl
    ·cases hg
 rcases hf (a.drop 1) 1 with h|h<;>rw [h]<;>cases CF c !=0<;>cases a.all (fun k=>inB k 0 ((c.length:Int)-1))<;>rfl
theorem zHK {c:List Pack} {a:List Int} (h:(SF c a==0)=true):Places c a:=by
 unfold SF at h
 split at h
 ·rename_i h1
  rw [beq_iff_eq] at h
  rw [h] at h1
  simp at h1
 ·split at h
  ·rename_i h2
   rw [zKM,Bool.and_eq_true,List.all_eq_true] at h2
   intro k hk
   have:=h2.2 k hk
   unfold inB at this
   simp only [Bool.and_eq_true,decide_eq_true_eq] at this
   omega
  ·cases h
def zNH (t:Term) (v:Version):Bool:=decide (zIj v t.Low≥0)&&decide (zIj v t.High<0)
def zLE (t:Term) (n:ByteArray) (v:Version):Bool:=seq t.Name n&&zNH t v
theorem zKp (t:Term) (n:ByteArray) (v:Version):zAc t n v=some (zLE t n v):=by
 unfold zAc zLE zNH
 simp only [zD2,Option.bind_some]
 cases seq t.Name n<;>cases decide (zIj v t.Low≥0)<;>rfl
theorem zMH (t:Term) (n:ByteArray) (v:Version):zBU t n v=some (zLE t n v):=by
 unfold zBU zLE zNH
 simp only [zGY,Option.bind_some]
 have e:decide (zIj t.Low v≤0)=decide (zIj v t.Low≥0):=by
  rw [zM6 v t.Low]
  rw [Bool.eq_iff_iff,decide_eq_true_eq,decide_eq_true_eq]
  omega
 rw [e]
 cases seq t.Name n<;>cases decide (zIj v t.Low≥0)<;>rfl
def zBq (p:Pack) (t:Term):Bool:=(seq t.Name p.Name||p.Provides.any (fun x=>seq x t.Name))&&zNH t p.Version
theorem zLh (p:Pack) (t:Term) (h:p.Provides.length≤1048576):zCG p t=some (zBq p t):=by
 unfold zCG zBq
 simp only [zKp,Option.bind_some,zEs _ _ h,zLE,zIA,Bool.true_and]
 cases seq t.Name p.Name<;>cases p.Provides.any (fun x=>seq x t.Name)<;>rfl
theorem zIw (p:Pack) (t:Term) (h:p.Provides.length≤1048576):jI p t=some (zBq p t):=by
 unfold jI zB8
 rw [jU (by simp; omega) (by simp; omega)]
 simp only [Option.bind_some]
 have key:=wT ([p.Name]++p.Provides) (fun i n=>if zLE t n p.Version then some (i:Int) else none) (b:=yY ([p.Name]++p.Provides) t p) (by
  intro i hi
  have hi':i<p.Provides.length+1:=by simpa using hi
  unfold yY zAm
  rw [if_pos (by rw [decide_eq_true_eq]; exact Int.ofNat_lt.2 hi),zJ hi]
  simp only [Option.bind_some,zMH]
  rw [zN (by omega)]
  cases zLE t ([p.Name]++p.Provides)[i] p.Version<;>rfl) (by
  unfold yY
  rw [if_neg (by simp)])
 unfold yF yQ xH
 rw [key,zBI]
 have e:zBq p t=([p.Name]++p.Provides).any (fun n=>zLE t n p.Version):=by
  unfold zBq zLE
  have:(fun n=>seq t.Name n&&zNH t p.Version)=(fun n=>seq n t.Name&&zNH t p.Version):=funext fun n=>by rw [zIC]
  rw [this,zIC t.Name p.Name]
  cases zNH t p.Version<;>simp
 rw [e,←zEy (zC0 (fun n=>zLE t n p.Version) ([p.Name]++p.Provides) 0)]
 cases vK (fun i n=>if zLE t n p.Version then some (i:Int) else none) 0 ([p.Name]++p.Provides)<;>rfl
theorem zI8 (p:Pack) (l:List Term) (h:p.Provides.length≤1048576) (hl:l.length≤1048576):jM p l=some (l.any (zBq p)):=by
 have key:=wT l (fun i t=>if zBq p t then some (i:Int) else none) (b:=xG l p) (by
  intro i hi
  unfold xG
  rw [if_pos (by simp; omega),zJ hi]
  simp only [Option.bind_some,zIw _ _ h]
  rw [zN (by omega)]
  cases zBq p l[i]<;>rfl) (by
  unfold xG
  rw [if_neg (by simp)])
 unfold jM yI yT xM
 rw [key,zBI,←zEy (zC0 (zBq p) l 0)]
 cases vK (fun i t=>if zBq p t then some (i:Int) else none) 0 l<;>rfl
def zD6 (c:List Pack) (a:List Int) (t:Term) (x:Int):Bool:=a.any (fun k=>k !=x&&zBq (pat c k) t)
theorem zIu {c:List Pack} {a:List Int} (hc:Cat c) (hp:Places c a) (ha:a.length≤1048576) (t:Term) (x:Int):zAL c a t x=some (zD6 c a t x):=by
 have key:=wT a (fun _ k=>if k !=x&&zBq (pat c k) t then some true else none) (b:=zCe c a t x) (by
  intro i hi
  have hk:=hp _ (List.getElem_mem hi)
  unfold zCe
  rw [if_pos (by simp; omega),zJ hi]
  simp only [Option.bind_some]
  rw [(zA0 hk).1]
  simp only [Option.bind_some]
  rw [zLh _ _ (hc.zOA hk),zN (by omega)]
  cases a[i] !=x<;>cases zBq (pat c a[i]) t<;>rfl) (by
  unfold zCe
  rw [if_neg (by simp)])
 unfold zAL zCX zD6
 rw [key,zBI,←zG1 (fun k=>k !=x&&zBq (pat c k) t) a 0]
 cases vK (fun _ k=>if k !=x&&zBq (pat c k) t then some true else none) 0 a<;>rfl
theorem zLl {c:List Pack} {a:List Int} (hc:Cat c) (hp:Places c a) (ha:a.length≤1048576) (t:Term) (x:Int):yH a x c t=some (zD6 c a t x):=by
 have key:=wT a (fun i k=>if k !=x&&zBq (pat c k) t then some (i:Int) else none) (b:=wG a x c t) (by
  intro i hi
  have hk:=hp _ (List.getElem_mem hi)
  unfold wG zDq
  rw [if_pos (by simp; omega),zJ hi]
  simp only [Option.bind_some]
  rw [(zA0 hk).1]
  simp only [Option.bind_some]
  rw [zIw _ _ (hc.zOA hk),zN (by omega)]
  cases a[i] !=x<;>cases zBq (pat c a[i]) t<;>rfl) (by
  unfold wG
  rw [if_neg (by simp)])
 unfold yH xX wJ zD6
 rw [key,zBI,←zEy (zC0 (fun k=>k !=x&&zBq (pat c k) t) a 0)]
 cases vK (fun i k=>if k !=x&&zBq (pat c k) t then some (i:Int) else none) 0 a<;>rfl
def zK3 (c:List Pack) (a:List Int) (l:List Term):Bool:=a.any (fun k=>l.any (zBq (pat c k)))
theorem zNq {c:List Pack} {a:List Int} (hc:Cat c) (hp:Places c a) (ha:a.length≤1048576) (l:List Term) (hl:l.length≤1048576):zEn c a l=some (zK3 c a l):=by
 have key:=wT l (fun _ t=>if zD6 c a t (-1) then some true else none) (b:=zDC c a l) (by
  intro i hi
  unfold zDC
  rw [if_pos (by simp; omega),zJ hi]
  simp only [Option.bind_some,zIu hc hp ha]
  rw [zN (by omega)]
  cases zD6 c a l[i] (-1)<;>rfl) (by
  unfold zDC
  rw [if_neg (by simp)])
 unfold zEn zEh
 rw [key,zBI]
 have e:zK3 c a l=l.any (fun t=>zD6 c a t (-1)):=by
  unfold zK3 zD6
  rw [Bool.eq_iff_iff]
  simp only [List.any_eq_true,Bool.and_eq_true,bne_iff_ne]
  constructor
  ·rintro ⟨k,hk,t,ht,hg⟩
   exact ⟨t,ht,k,hk,by have:=(hp k hk).1; omega,hg⟩
  ·rintro ⟨t,ht,k,hk,_,hg⟩
   exact ⟨k,hk,t,ht,hg⟩
 rw [e,←zG1 (fun t=>zD6 c a t (-1)) l 0]
 cases vK (fun _ t=>if zD6 c a t (-1) then some true else none) 0 l<;>rfl
theorem zMF {c:List Pack} {a:List Int} (hc:Cat c) (hp:Places c a) (ha:a.length≤1048576) (l:List Term) (hl:l.length≤1048576):yG a c l=some (zK3 c a l):=by
 have key:=wT a (fun i k=>if l.any (zBq (pat c k)) then some (i:Int) else none) (b:=wF a c l) (by
  intro i hi
  have hk:=hp _ (List.getElem_mem hi)
  unfold wF zDl
  rw [if_pos (by simp; omega),zJ hi]
  simp only [Option.bind_some]
  rw [(zA0 hk).1]
  simp only [Option.bind_some]
  rw [zI8 _ _ (hc.zOA hk) hl,zN (by omega)]
  cases l.any (zBq (pat c a[i]))<;>rfl) (by
  unfold wF
  rw [if_neg (by simp)])
 unfold yG xY wI zK3
 rw [key,zBI,←zEy (zC0 (fun k=>l.any (zBq (pat c k))) a 0)]
 cases vK (fun i k=>if l.any (zBq (pat c k)) then some (i:Int) else none) 0 a<;>rfl
theorem zIy {α T:Type} (xs:List α) (g:Nat→α→Option T) (e:T) {b:Int→Option (Lp Int T)}
  (hstep:∀(i:Nat) (hi:i<xs.length),b (i:Int)=some (match g i xs[i] with|some r=>.done r|none=>.go ((i+1:Nat):Int))) (hend:b (xs.length:Int)=some (.done e)):
  ∀(k i:Nat),i+k=xs.length→loop b (i:Int)=some ((vK g i (xs.drop i)).getD e)
 |0,i,h=>by
  have e:i=xs.length:=by omega
  subst e
  rw [jH,hend,List.drop_length]
  rfl
 |k+1,i,h=>by
  have hi:i<xs.length:=by omega
  have ih:=zIy xs g e hstep hend k (i+1) (by omega)
  rw [jH,hstep i hi,List.drop_eq_getElem_cons hi]
  simp only [vK]
  cases g i xs[i] with
  |some r=>rfl
  |none=>exact ih
def fN (c:List Pack) (a:List Int) (k:Int) (j:Nat) (l:List zR) (x:List Term):List zR:=if !(zK3 c a x) then l++[{Kind:=2,Pack:=k,At:=(j:Int)}] else l
def fB (c:List Pack) (a:List Int) (k:Int) (j:Nat) (l:List zR) (t:Term):List zR:=if zD6 c a t k then l++[{Kind:=3,Pack:=k,At:=(j:Int)}] else l
def fD (c:List Pack) (a:List Int) (i:Nat) (k:Int) (l:List zR):List zR:=if (a.take i).any (fun o=>seq (pat c o).Name (pat c k).Name) then l++[{Kind:=1,Pack:=k,At:=0}] else l
def fS (c:List Pack) (a:List Int) (i:Nat) (l:List zR) (k:Int):List zR:=foldI (fB c a k) 0 (pat c k).Bars (foldI (fN c a k) 0 (pat c k).Needs (fD c a i k l))
def zEq (c:List Pack) (a:List Int):List zR:=foldI (fS c a) 0 a []
theorem zPd (c:List Pack) (a:List Int) (k:Int) (j:Nat) (l:List zR) (x:List Term):(fN c a k j l x).length ≤l.length+1:=by unfold fN; split<;>simp
theorem zOC (c:List Pack) (a:List Int) (k:Int) (j:Nat) (l:List zR) (t:Term):(fB c a k j l t).length ≤l.length+1:=by unfold fB; split<;>simp
theorem zN5 (c:List Pack) (a:List Int) (i:Nat) (k:Int) (l:List zR):(fD c a i k l).length ≤l.length+1:=by unfold fD; split<;>simp
theorem zIv {c:List Pack} {a:List Int} (k:Int) (ns:List (List Term)) (hn:ns.length≤1048576) (n0:Nat) (h0:n0≤5497560000000) {b:(List zR×Int)→Option (Lp (List zR×Int) (List zR))}
  (hstep:∀(j:Nat) (l:List zR) (hj:j<ns.length),b (l,(j:Int))=(if !(zK3 c a ns[j]) then (app 24 l [{Kind:=2,Pack:=k,At:=(j:Int)}]) else some l).bind fun v=>some (Lp.go (v,w64 ((j:Int)+1)))) (hend:∀l,b (l,(ns.length:Int))=some (.done l)) (l:List zR) (hl:l.length≤n0):
  loop b (l,0)=some (foldI (fN c a k) 0 ns l)∧(foldI (fN c a k) 0 ns l).length ≤n0+ns.length:=by
 have key:=zFk ns (fN c a k) (fun j l=>l.length≤n0+j) (b:=b) (by
  intro j l hj hI
  refine ⟨?_,by have:=zPd c a k j l ns[j]; omega⟩
  rw [hstep j l hj,zN (by omega),jU (by simp; omega) (by simp; omega)]
  unfold fN
  cases zK3 c a ns[j]<;>rfl) hend ns.length 0 l (by omega) (by simpa using hl)
 simpa using key
theorem zJo {c:List Pack} {a:List Int} (k:Int) (ts:List Term) (hn:ts.length≤1048576) (n0:Nat) (h0:n0≤5497560000000) {b:(List zR×Int)→Option (Lp (List zR×Int) (List zR))}
  (hstep:∀(j:Nat) (l:List zR) (hj:j<ts.length),b (l,(j:Int))=(if zD6 c a ts[j] k then (app 24 l [{Kind:=3,Pack:=k,At:=(j:Int)}]) else some l).bind fun v=>some (Lp.go (v,w64 ((j:Int)+1)))) (hend:∀l,b (l,(ts.length:Int))=some (.done l)) (l:List zR) (hl:l.length≤n0):
  loop b (l,0)=some (foldI (fB c a k) 0 ts l)∧(foldI (fB c a k) 0 ts l).length ≤n0+ts.length:=by
 have key:=zFk ts (fB c a k) (fun j l=>l.length≤n0+j) (b:=b) (by
  intro j l hj hI
  refine ⟨?_,by have:=zOC c a k j l ts[j]; omega⟩
  rw [hstep j l hj,zN (by omega),jU (by simp; omega) (by simp; omega)]
  unfold fB
  cases zD6 c a ts[j] k<;>rfl) hend ts.length 0 l (by omega) (by simpa using hl)
 simpa using key
theorem zIG {α:Type} (o:Option α):o.bind (fun x=>some x)=o:=by cases o<;>rfl
def zEF (i:Nat):Nat:=i*2097153
theorem zKl {c:List Pack} {a:List Int} (hc:Cat c) (hp:Places c a) (ha:a.length≤1048576):zBO c a=some (zEq c a):=by
 have key:=zFk a (fS c a) (fun i l=>l.length≤zEF i) (b:=zBy c a) (by
  intro i l hi hI
  have hk:=hp _ (List.getElem_mem hi)
  have hb:zEF i≤2199022206976:=by unfold zEF; omega
  have hb1:zEF (i+1)=zEF i+2097153:=by unfold zEF; omega
  have hN:=hc.needs hk
  have hB:=hc.bars hk
  have k1:=zIy (a.take i) (fun _ o=>if seq (pat c o).Name (pat c a[i]).Name then some (l++[({Kind:=1,Pack:=a[i],At:=0}:zR)]) else none) l (b:=zB5 c a (l,(i:Int)) (pat c a[i])) (by
   intro j hj
   have hj':j<i:=by simp at hj; omega
   have hja:j<a.length:=by omega
   have hkj:=hp _ (List.getElem_mem hja)
   unfold zB5
   rw [if_pos (by simp; omega),zJ hja]
   simp only [Option.bind_some]
   rw [(zA0 hkj).1,zJ hi]
   simp only [Option.bind_some]
   rw [zN (by omega),jU (by simp; omega) (by simp; omega),List.getElem_take]
   cases seq (pat c a[j]).Name (pat c a[i]).Name <;>rfl) (by
   have:(a.take i).length =i:=by simp; omega
   rw [this]
   unfold zB5
   rw [if_neg (by simp)]) (a.take i).length 0 (by omega)
  rw [List.drop_zero,zGc] at k1
  have e1:zAD c a (l,(i:Int)) (pat c a[i]) 0=some (fD c a i a[i] l):=by
   unfold zAD fD
   rw [show ((0:Nat):Int)=0 from rfl] at k1
   rw [k1]
   cases (a.take i).any (fun o=>seq (pat c o).Name (pat c a[i]).Name)<;>rfl
  have hd:=zN5 c a i a[i] l
  obtain ⟨e2,l2⟩:=zIv (c:=c) (a:=a) a[i] (pat c a[i]).Needs hN (zEF i+1) (by omega) (b:=zB7 c a (l,(i:Int)) (pat c a[i])) (by
   intro j l hj
   unfold zB7
   rw [if_pos (by simp; omega),zJ hj]
   simp only [Option.bind_some]
   rw [zNq hc hp ha _ (hc.clause hk (List.getElem_mem hj)),zJ hi]
   simp only [Option.bind_some,zIG]) (by
   intro l
   unfold zB7
   rw [if_neg (by simp)]) (fD c a i a[i] l) (by omega)
  obtain ⟨e3,l3⟩:=zJo (c:=c) (a:=a) a[i] (pat c a[i]).Bars hB (zEF i+1+1048576) (by omega) (b:=zBA c a (l,(i:Int)) (pat c a[i])) (by
   intro j l hj
   unfold zBA
   rw [if_pos (by simp; omega),zJ hj,zJ hi]
   simp only [Option.bind_some,zIu hc hp ha,zIG]) (by
   intro l
   unfold zBA
   rw [if_neg (by simp)]) _ (Nat.le_trans l2 (by omega))
  refine ⟨?_,by show (fS c a i l a[i]).length ≤_; unfold fS; omega⟩
  unfold zBy
  rw [if_pos (by simp; omega),zJ hi]
  simp only [Option.bind_some]
  rw [(zA0 hk).1]
  simp only [Option.bind_some]
  rw [e1]
  simp only [Option.bind_some]
  unfold zCj zCd
  rw [e2]
  simp only [Option.bind_some]
  rw [e3,zN (by omega)]
  rfl) (by
  intro l
  unfold zBy
  rw [if_neg (by simp)]) a.length 0 [] (by omega) (by simp)
 unfold zBO zCw zEq
 have k:=key.1
 rw [show ((0:Nat):Int)=0 from rfl,List.drop_zero] at k
 rw [k]
 rfl
theorem zKP (q:Int→Bool):∀(xs:List Int) (i:Nat),(∀k∈xs,0≤k)→(((vK (fun _ k=>if q k then some k else none) i xs).getD (-1)≥0)↔xs.any q=true)
 |[],i,_=>by simp [vK]
 |x::xs,i,h=>by
  simp only [vK]
  cases hq:q x
  ·simp only [Bool.false_eq_true,if_false,List.any_cons,hq,Bool.false_or]
   exact zKP q xs (i+1) (fun k hk=>h k (by simp [hk]))
  ·have:=h x (by simp)
   simp [hq]
   omega
theorem zL2 {c:List Pack} {a:List Int} (hp:Places c a) (ha:a.length≤1048576) (n:ByteArray):∃k,tK c a n=some k∧decide (k≥0)=a.any (fun o=>seq (pat c o).Name n):=by
 have key:=wT a (fun _ k=>if seq (pat c k).Name n then some k else none) (b:=zAe c a n) (by
  intro i hi
  have hk:=hp _ (List.getElem_mem hi)
  unfold zAe
  rw [if_pos (by simp; omega),zJ hi]
  simp only [Option.bind_some]
  rw [(zA0 hk).1]
  simp only [Option.bind_some]
  rw [zN (by omega)]
  cases seq (pat c a[i]).Name n<;>rfl) (by
  unfold zAe
  rw [if_neg (by simp)])
 refine ⟨_,?_,zEy (zKP (fun o=>seq (pat c o).Name n) a 0 (fun k hk=>(hp k hk).1))⟩
 unfold tK zDo
 rw [key,zBI]
 cases vK (fun _ k=>if seq (pat c k).Name n then some k else none) 0 a<;>rfl
theorem zJE {c:List Pack} {a:List Int} (hc:Cat c) (hp:Places c a) (ha:a.length≤1048576):zDO c a=some (zEq c a):=by
 have key:=zFk a (fS c a) (fun i l=>l.length≤zEF i) (b:=zDe c a) (by
  intro i l hi hI
  have hk:=hp _ (List.getElem_mem hi)
  have hb:zEF i≤2199022206976:=by unfold zEF; omega
  have hb1:zEF (i+1)=zEF i+2097153:=by unfold zEF; omega
  have hN:=hc.needs hk
  have hB:=hc.bars hk
  obtain ⟨kk,e0,hkk⟩:=zL2 (c:=c) (a:=a.take i) (fun k hk=>hp k (List.mem_of_mem_take hk)) (by simp; omega) (pat c a[i]).Name
  have hd:=zN5 c a i a[i] l
  obtain ⟨e2,l2⟩:=zIv (c:=c) (a:=a) a[i] (pat c a[i]).Needs hN (zEF i+1) (by omega) (b:=zDh c a (l,(i:Int)) a[i] (pat c a[i])) (by
   intro j l hj
   unfold zDh
   rw [if_pos (by simp; omega),zJ hj]
   simp only [Option.bind_some]
   rw [zMF hc hp ha _ (hc.clause hk (List.getElem_mem hj))]
   simp only [Option.bind_some,zIG]) (by
   intro l
   unfold zDh
   rw [if_neg (by simp)]) (fD c a i a[i] l) (by omega)
  obtain ⟨e3,l3⟩:=zJo (c:=c) (a:=a) a[i] (pat c a[i]).Bars hB (zEF i+1+1048576) (by omega) (b:=zCS c a (l,(i:Int)) a[i] (pat c a[i])) (by
   intro j l hj
   unfold zCS
   rw [if_pos (by simp; omega),zJ hj]
   simp only [Option.bind_some,zLl hc hp ha,zIG]) (by
   intro l
   unfold zCS
   rw [if_neg (by simp)]) _ (Nat.le_trans l2 (by omega))
  refine ⟨?_,by show (fS c a i l a[i]).length ≤_; unfold fS; omega⟩
  unfold zDe
  rw [if_pos (by simp; omega),zJ hi]
  simp only [Option.bind_some]
  rw [(zA0 hk).1,zGE (by omega)]
  simp only [Option.bind_some]
  rw [e0]
  simp only [Option.bind_some]
  rw [hkk,jU (by simp; omega) (by simp; omega)]
  simp only [Option.bind_some]
  have ed:(if (a.take i).any (fun o=>seq (pat c o).Name (pat c a[i]).Name)=true then some (l++[({Kind:=1,Pack:=a[i],At:=0}:zR)]) else some l)=some (fD c a i a[i] l):=by
   unfold fD
   cases (a.take i).any (fun o=>seq (pat c o).Name (pat c a[i]).Name)<;>rfl
  rw [ed]
  simp only [Option.bind_some]
  unfold zD7 zD5
  rw [e2]
  simp only [Option.bind_some]
  rw [e3,zN (by omega)]
  rfl) (by
  intro l
  unfold zDe
  rw [if_neg (by simp)]) a.length 0 [] (by omega) (by simp)
 unfold zDO zDA zEq
 have k:=key.1
 rw [show ((0:Nat):Int)=0 from rfl,List.drop_zero] at k
 rw [k]
 rfl
def zPk (c:List Pack) (a:List Int):Bool:=(SF c a==0)&&((zEq c a).length :Int)==0
theorem zEN {c:List Pack} {a:List Int} (hc:Cat c) (ha:a.length≤1048576) (h:(SF c a==0)=true):wX c a=some (zPk c a):=by
 unfold wX zPk
 rw [zJE hc (zHK h) ha,h]
 simp
theorem zMo {α:Type} {g:Nat→α→Option Int} (hg:∀i x,g i x≠some 0):∀(l:List α) (i:Nat),(vK g i l).getD 0=0→vK g i l=none
 |[],_,_=>rfl
 |x::l,i,h=>by
  simp only [vK] at h ⊢
  cases hx:g i x with
  |none=>rw [hx] at h; exact zMo hg l (i+1) h
  |some r=>
   rw [hx] at h
   simp only [Option.getD_some] at h
   subst h
   exact absurd hx (hg i x)
theorem zNP {c:List Pack} (h:CF c=0):c.length≤24∧(∀p∈c,PF p=0)∧∀(j:Nat) (hj:j<c.length),(c.take j).any (isB c[j].Name c[j].Version)=false:=by
 unfold CF at h
 split at h
 ·cases h
 rename_i h1
 have h2:=zMo (g:=zM7 c) (fun i x=>by
  unfold zM7
  split
  ·rename_i h3
   intro e
   rw [Option.some.inj e] at h3
   simp at h3
  ·split<;>simp) c 0 h
 rw [zFC] at h2
 have h3:∀(j:Nat) (hj:j<c.length),PF c[j]=0∧(c.take j).any (isB c[j].Name c[j].Version)=false:=by
  intro j hj
  have:=h2 j hj
  unfold zM7 at this
  rw [Nat.zero_add] at this
  split at this
  ·cases this
  ·rename_i h4
   split at this
   ·cases this
   ·rename_i h5
    exact ⟨by simpa using h4,by simpa using h5⟩
 refine ⟨by simp at h1; omega,fun p hp=>?_,fun j hj=>(h3 j hj).2⟩
 obtain ⟨j,hj,rfl⟩:=List.getElem_of_mem hp
 exact (h3 j hj).1
theorem zLG {a:List Int} (h:∀i,(hi:i+1<a.length)→a[i]<a[i+1]):a.Pairwise (· < ·):=by
 rw [List.pairwise_iff_getElem]
 intro i j hi hj hij
 obtain ⟨d,rfl⟩:∃d,j=i+1+d:=⟨j-i-1,by omega⟩
 clear hij
 induction d with
 |zero=>exact h i (by omega)
 |succ d ih=>
  have h1:=ih (by omega)
  have h2:=h (i+1+d) (by omega)
  show a[i]<a[i+1+d+1]
  omega
theorem zKq:∀{a:List Int} {lo hi:Int},a.Pairwise (· < ·)→(∀k∈a,lo≤k∧k<hi)→(a.length:Int)≤hi-lo∨a=[]
 |[],_,_,_,_=>.inr rfl
 |x::a,lo,hi,hp,hb=>by
  obtain ⟨h1,h2⟩:=List.pairwise_cons.1 hp
  have hx:=hb x (by simp)
  have:=zKq (lo:=x+1) (hi:=hi) h2 (fun k hk=>⟨by have:=h1 k hk; omega,(hb k (by simp [hk])).2⟩)
  refine .inl ?_
  rcases this with h3|h3
  ·simp only [List.length_cons]; omega
  ·subst h3; simp; omega
theorem zGB {c:List Pack} {a:List Int}:zM9 c a=true↔a.Pairwise (· < ·)∧Places c a:=by
 unfold zM9
 rw [Option.isNone_iff_eq_none,zFC]
 constructor
 ·intro h
  have h1:∀(j:Nat) (hj:j<a.length),inB a[j] 0 ((c.length:Int)-1)=true∧(0<j→¬a[j]≤a.getD (j-1) 0):=by
   intro j hj
   have:=h j hj
   unfold zL9 at this
   rw [Nat.zero_add] at this
   split at this
   ·cases this
   ·rename_i h2
    simp only [Bool.or_eq_true,Bool.not_eq_true',Bool.and_eq_true,decide_eq_true_eq,not_or,not_and,Bool.not_eq_false] at h2
    exact h2
  refine ⟨zLG fun i hi=>?_,fun k hk=>?_⟩
  ·have:=(h1 (i+1) hi).2 (by omega)
   rw [show i+1-1=i by omega,getD_lt (by omega)] at this
   omega
  ·obtain ⟨j,hj,rfl⟩:=List.getElem_of_mem hk
   have:=(h1 j hj).1
   unfold inB at this
   simp only [Bool.and_eq_true,decide_eq_true_eq] at this
   omega
 ·rintro ⟨h1,h2⟩ j hj
  unfold zL9
  rw [Nat.zero_add]
  have hk:=h2 a[j] (List.getElem_mem hj)
  rw [if_neg]
  simp only [Bool.or_eq_true,Bool.not_eq_true',Bool.and_eq_true,decide_eq_true_eq,not_or,not_and,Bool.not_eq_false]
  refine ⟨by unfold inB; simp; omega,fun h0=>?_⟩
  rw [getD_lt (by omega)]
  have:=(List.pairwise_iff_getElem.1 h1) (j-1) j (by omega) hj (by omega)
  omega
theorem zKJ {c:List Pack} {a:List Int} (h:zM9 c a=true):a.length≤c.length:=by
 obtain ⟨h1,h2⟩:=zGB.1 h
 rcases zKq (lo:=0) (hi:=c.length) h1 h2 with h3|h3
 ·omega
 ·rw [h3]; simp
theorem zLo (x y:Int):uU [x,y]=some (if x !=0 then x else y):=by
 unfold uU zAo
 rw [zKv _ (by simp),zBI]
 simp only [vK]
 by_cases h:x=0
 ·by_cases h2:y=0<;>simp [h,h2]
 ·simp [h]
theorem zFv:∀{l1 l2:List Int},l1.Pairwise (· < ·)→l2.Pairwise (· < ·)→(∀x,x∈l1↔x∈l2)→l1=l2
 |[],[],_,_,_=>rfl
 |[],y::l2,_,_,h=>by have:=(h y).2 (by simp); simp at this
 |x::l1,[],_,_,h=>by have:=(h x).1 (by simp); simp at this
 |x::l1,y::l2,h1,h2,h=>by
  rw [List.pairwise_cons] at h1 h2
  have hxy:x=y:=by
   have hx:=(h x).1 (by simp)
   have hy:=(h y).2 (by simp)
   rcases List.mem_cons.1 hx with e|hx
   ·exact e
   ·rcases List.mem_cons.1 hy with e|hy
    ·exact e.symm
    ·have:=h1.1 y hy
     have:=h2.1 x hx
     omega
  subst hxy
  congr 1
  refine zFv h1.2 h2.2 fun z=>?_
  constructor
  ·intro hz
   rcases List.mem_cons.1 ((h z).1 (List.mem_cons_of_mem _ hz)) with e|hz'
   ·have:=h1.1 z hz; omega
   ·exact hz'
  ·intro hz
   rcases List.mem_cons.1 ((h z).2 (List.mem_cons_of_mem _ hz)) with e|hz'
   ·have:=h2.1 z hz; omega
   ·exact hz'
theorem zH2 {c:List Pack} {a:List Int} (hC:Cat c) (hp:Places c a) (ha:a.length≤1048576):kT c a=some (((zEq c a).length :Int)==0):=by
 unfold kT
 rw [zKl hC hp ha]
 rfl
theorem zHV {a b:ByteArray} (h:slt a b=false) (hne:a≠b):slt b a=true:=by
 cases h2:slt b a with
 |true=>rfl
 |false=>
  have c1:¬zPr a b<0:=fun hc=>by rw [(zNL a b).1 hc] at h; cases h
  have key:∀(x y:List UInt8),Op.bytesLess x y=false→Op.bytesLess y x=false→x=y:=by
   intro x
   induction x with
   |nil=>intro y; cases y<;>simp [Op.bytesLess]
   |cons u x ih=>
    intro y
    cases y with
    |nil=>simp [Op.bytesLess]
    |cons v y=>
     simp only [Op.bytesLess]
     intro e1 e2
     have e3:¬u<v:=fun hh=>by simp [hh] at e1
     have e4:¬v<u:=fun hh=>by simp [hh] at e2
     rw [UInt8.lt_iff_toNat_lt] at e3 e4
     have e5:u=v:=UInt8.toNat_inj.1 (by omega)
     subst e5
     simp [UInt8.lt_irrefl] at e1 e2
     rw [ih y e1 e2]
  exfalso
  apply hne
  unfold slt at h h2
  exact toList_inj (key _ _ h h2)
def ltS (a b:ByteArray):Prop:=slt a b=true
def leS (a b:ByteArray):Prop:=slt b a=false
theorem zIP (a:ByteArray):leS a a:=zDt a
theorem zK1 {a b:ByteArray} (h:leS a b) (hne:a≠b):ltS a b:=zHV h (Ne.symm hne)
theorem zLV {a b:ByteArray} (h:ltS a b):leS a b:=by
 unfold leS
 cases h2:slt b a with
 |false=>rfl
 |true=>
  have h3:=zEU h h2
  rw [zDt] at h3
  cases h3
theorem zJT {a b c:ByteArray} (h1:leS a b) (h2:ltS b c):ltS a c:=by
 by_cases h:a=b
 ·rw [h]; exact h2
 ·exact zEU (zK1 h1 h) h2
theorem zHw {a b c:ByteArray} (h1:leS a b) (h2:leS b c):leS a c:=by
 by_cases h:b=c
 ·rw [←h]; exact h1
 ·exact zLV (zJT h1 (zK1 h2 h))
theorem zJf {a b:ByteArray} (h:ltS a b):a≠b:=fun e=>by
 subst e
 unfold ltS at h
 rw [zDt] at h
 cases h
theorem zCQ:∀{l1 l2:List ByteArray},l1.Pairwise ltS→l2.Pairwise ltS→(∀x,x∈l1↔x∈l2)→l1=l2
 |[],[],_,_,_=>rfl
 |[],y::l2,_,_,h=>by have:=(h y).2 (by simp); simp at this
 |x::l1,[],_,_,h=>by have:=(h x).1 (by simp); simp at this
 |x::l1,y::l2,h1,h2,h=>by
  rw [List.pairwise_cons] at h1 h2
  have hxy:x=y:=by
   have hx:=(h x).1 (by simp)
   have hy:=(h y).2 (by simp)
   rcases List.mem_cons.1 hx with e|hx
   ·exact e
   ·rcases List.mem_cons.1 hy with e|hy
    ·exact e.symm
    ·exact absurd rfl (zJf (zEU (h1.1 y hy) (h2.1 x hx)))
  subst hxy
  congr 1
  refine zCQ h1.2 h2.2 fun z=>?_
  constructor
  ·intro hz
   rcases List.mem_cons.1 ((h z).1 (List.mem_cons_of_mem _ hz)) with e|hz'
   ·exact absurd e.symm (zJf (h1.1 z hz))
   ·exact hz'
  ·intro hz
   rcases List.mem_cons.1 ((h z).2 (List.mem_cons_of_mem _ hz)) with e|hz'
   ·exact absurd e.symm (zJf (h2.1 z hz))
   ·exact hz'
theorem zKc:∀(x y:List UInt8),x<y↔Op.bytesLess x y=true
 |[],[]=>by simp [Op.bytesLess]
 |[],y::l=>by simp [Op.bytesLess]
 |x::l,[]=>by simp [Op.bytesLess]
 |x::l,y::r=>by
  rw [List.cons_lt_cons_iff,zKc l r]
  simp only [Op.bytesLess]
  by_cases h:x<y
  ·simp [h]
  ·by_cases h2:y<x
   ·have:x≠y:=fun e=>by subst e; exact UInt8.lt_irrefl _ h2
    simp [h,this]
   ·have:x=y:=by
     rw [UInt8.lt_iff_toNat_lt] at h h2
     exact UInt8.toNat_inj.1 (by omega)
    subst this
    simp [UInt8.lt_irrefl]
theorem zO0 (x y:List UInt8):decide (x≤y)= !(Op.bytesLess y x):=by
 cases hb:Op.bytesLess y x with
 |true=>
  have:¬(x≤y):=fun h=>h ((zKc y x).2 hb)
  simpa using this
 |false=>
  have:x≤y:=fun hc=>by
   rw [(zKc y x).1 hc] at hb
   cases hb
  simpa using this
theorem toList_data (s:ByteArray):s.data.toList=s.toList:=(ByteArray.toList_eq s).symm
theorem zNf (a:List ByteArray) (hl:a.length≤1048577):∃r,uM a=some r∧r.Pairwise leS∧(∀x,x∈r↔x∈a)∧r.length=a.length:=by
 unfold uM
 rw [if_pos (by omega)]
 have hle:∀x y:List UInt8,decide (x≤y)=true↔leS ⟨x.toArray⟩ ⟨y.toArray⟩:=fun x y=>by
  rw [zO0]
  unfold leS slt
  rw [←toList_data,←toList_data]
  cases Op.bytesLess y x<;>simp
 have hpw:=List.pairwise_mergeSort (le:=fun x y:List UInt8=>decide (x≤y)) (by
  intro x y z h1 h2
  exact (hle x z).2 (zHw ((hle x y).1 h1) ((hle y z).1 h2))) (by
  intro x y
  have:leS ⟨x.toArray⟩ ⟨y.toArray⟩∨leS ⟨y.toArray⟩ ⟨x.toArray⟩:=by
   cases h:slt ⟨y.toArray⟩ ⟨x.toArray⟩ with
   |false=>exact .inl h
   |true=>exact .inr (zLV h)
  rcases this with h|h
  ·rw [(hle x y).2 h]; rfl
  ·rw [(hle y x).2 h,Bool.or_true]) (a.map (·.data.toList))
 refine ⟨_,rfl,?_,fun x=>?_,by simp [List.length_mergeSort]⟩
 ·exact List.pairwise_map.2 (hpw.imp fun h=>(hle _ _).1 h)
 ·simp only [List.mem_map,List.mem_mergeSort]
  constructor
  ·rintro ⟨_,⟨y,hy,rfl⟩,rfl⟩
   exact hy
  ·intro hx
   exact ⟨_,⟨x,hx,rfl⟩,rfl⟩
theorem zH0 (l:List ByteArray) (v:ByteArray) (hs:l.Pairwise ltS) (hl:l.length≤1048576):
  ∃r,uL l v=some r∧r.Pairwise ltS∧(∀x,x∈r↔x∈l∨x=v)∧r.length≤l.length+1:=by
 obtain ⟨t,e,ht⟩:=jW (b:=zDk l v)
  (fun i s=>s.2.2=(i:Int)∧s.1.Pairwise ltS∧(∀x,x∈s.1↔x∈l.take i∨(s.2.1=true∧x=v))∧s.1.length=i+(if s.2.1 then 1 else 0)∧(s.2.1=false→∀x∈l.take i,ltS x v)∧(s.2.1=true→∀x∈l.drop i,ltS v x)) l.length
  (fun t=>(t= .ret l∧v∈l)∨∃a b,t= .nxt (a,b)∧a.Pairwise ltS∧(∀x,x∈a↔x∈l∨(b=true∧x=v))∧a.length=l.length+(if b then 1 else 0)∧(b=false→∀x∈l,ltS x v)) (by
  rintro i ⟨acc,inn,j⟩ hi ⟨hj,hp,hm,hlen,hf,ht⟩
  simp only at hj hp hm hlen hf ht
  subst hj
  have hget:∀(i j:Nat) (hi:i<l.length) (hj:j<l.length),i<j→ltS l[i] l[j]:=fun i j hi hj h=>List.pairwise_iff_getElem.1 hs i j hi hj h
  have hlt:∀x∈l.take i,ltS x l[i]:=by
   intro x hx
   obtain ⟨k,hk,rfl⟩:=List.mem_iff_getElem.1 hx
   rw [List.getElem_take]
   have:k<i:=by simp at hk; omega
   exact hget _ _ (by omega) hi this
  have htk:l.take (i+1)=l.take i++[l[i]]:=List.take_succ_eq_append_getElem hi
  have hdr:l.drop i=l[i]::l.drop (i+1):=List.drop_eq_getElem_cons hi
  have hal:acc.length≤1048577:=by rw [hlen]; split<;>omega
  unfold zDk
  rw [if_pos (by simp; omega),zJ hi]
  simp only [Option.bind_some]
  rw [zN (by omega)]
  by_cases heq:l[i]=v
  ·rw [if_pos (by rw [seq_eq]; simpa using heq)]
   exact .inr ⟨_,rfl,.inl ⟨rfl,heq▸List.getElem_mem hi⟩⟩
  ·rw [if_neg (by rw [seq_eq]; simpa using heq)]
   refine .inl ?_
   have hs2:(slt l[i] v||seq l[i] v)=slt l[i] v:=by rw [seq_eq]; simp [heq]
   rw [hs2]
   cases inn
   ·cases hgt:slt l[i] v
    ·have hvl:ltS v l[i]:=zHV hgt heq
     simp only [Bool.not_false,Option.bind_some,if_true]
     rw [jU (by simp; omega) (by simp; omega)]
     simp only [Option.bind_some]
     rw [jU (by simp; omega) (by simp; omega)]
     refine ⟨_,rfl,rfl,?_,?_,?_,by simp,?_⟩
     ·simp only
      have hav:∀x∈acc,ltS x v:=fun x hx=>hf rfl x (by have:=(hm x).1 hx; simpa using this)
      rw [List.pairwise_append,List.pairwise_append]
      refine ⟨⟨hp,by simp,fun x hx y hy=>by simp at hy; rw [hy]; exact hav x hx⟩,by simp,fun x hx y hy=>?_⟩
      simp at hy
      rw [hy]
      rcases List.mem_append.1 hx with hx|hx
      ·exact zEU (hav x hx) hvl
      ·simp at hx; rw [hx]; exact hvl
     ·intro x
      have:=hm x
      simp only [List.mem_append,List.mem_singleton,htk]
      simp at this
      rw [this]
      simp
      constructor<;>(intro h; rcases h with (h|h)|h<;>simp [h])
     ·simp; simp at hlen; omega
     ·intro _ x hx
      have:ltS l[i] x:=by
       obtain ⟨k,hk,rfl⟩:=List.mem_iff_getElem.1 hx
       rw [List.getElem_drop]
       simp at hk
       exact hget _ _ hi (by omega) (by omega)
      exact zEU hvl this
    ·simp only [Bool.not_true,Bool.false_eq_true,if_false,Option.bind_some]
     rw [jU (by simp; omega) (by simp; omega)]
     refine ⟨_,rfl,rfl,?_,?_,?_,?_,by simp⟩
     ·simp only
      rw [List.pairwise_append]
      refine ⟨hp,by simp,fun x hx y hy=>?_⟩
      simp at hy
      rw [hy]
      have:=(hm x).1 hx
      exact hlt x (by simpa using this)
     ·intro x
      have:=hm x
      simp only [List.mem_append,List.mem_singleton,htk]
      simp at this
      rw [this]
      simp
     ·simp; simp at hlen; omega
     ·intro _ x hx
      rw [htk] at hx
      rcases List.mem_append.1 hx with hx|hx
      ·exact hf rfl x hx
      ·simp at hx; rw [hx]; exact hgt
   ·have hlv:ltS v l[i]:=ht rfl _ (by rw [hdr]; exact List.mem_cons_self)
    have hgt:slt l[i] v=false:=zLV hlv
    rw [hgt]
    simp only [Bool.not_false,Bool.not_true,Option.bind_some,Bool.false_eq_true,if_false,if_true]
    rw [jU (by simp; omega) (by simp; omega)]
    refine ⟨_,rfl,rfl,?_,?_,?_,by simp,?_⟩
    ·simp only
     rw [List.pairwise_append]
     refine ⟨hp,by simp,fun x hx y hy=>?_⟩
     simp at hy
     rw [hy]
     rcases (hm x).1 hx with hx|⟨_,hx⟩
     ·exact hlt x hx
     ·rw [hx]; exact hlv
    ·intro x
     have:=hm x
     simp only [List.mem_append,List.mem_singleton,htk]
     rw [this]
     simp
     constructor<;>(intro h; rcases h with (h|h)|h<;>simp [h])
    ·simp; simp at hlen; omega
    ·intro _ x hx
     exact ht rfl x (by rw [hdr]; exact List.mem_cons_of_mem _ hx)) (by
  rintro ⟨acc,inn,j⟩ ⟨hj,hp,hm,hlen,hf,ht⟩
  simp only at hj hp hm hlen hf ht
  subst hj
  unfold zDk
  rw [if_neg (by simp)]
  rw [List.take_length] at hm hf
  exact ⟨_,rfl,.inr ⟨acc,inn,rfl,hp,hm,hlen,hf⟩⟩) l.length 0 (([]:List ByteArray),false,0) (by omega) ⟨rfl,by simp,by simp,by simp,by simp,by simp⟩
 unfold uL zD8
 rw [e]
 rcases ht with ⟨rfl,hv⟩|⟨acc,inn,rfl,h1,h2,h3,h4⟩
 ·refine ⟨l,rfl,hs,fun x=>⟨.inl,fun h=>h.elim id (fun e=>e▸hv)⟩,by omega⟩
 ·simp only [Option.bind_some,Fl.go]
  cases inn
  ·simp only [Bool.not_false,if_true]
   simp at h3
   rw [jU (by simp; omega) (by simp; omega)]
   refine ⟨_,rfl,?_,?_,by simp; omega⟩
   ·rw [List.pairwise_append]
    refine ⟨h1,by simp,fun x hx y hy=>?_⟩
    simp at hy
    rw [hy]
    have:=(h2 x).1 hx
    exact h4 rfl x (by simpa using this)
   ·intro x
    have:=h2 x
    simp at this
    simp [this]
  ·refine ⟨_,rfl,h1,?_,by simp at h3; omega⟩
   intro x
   have:=h2 x
   simpa using this
theorem zIg (a:List ByteArray) (k0:Nat) (h0:1≤k0) (hk:k0<a.length) (hs:a.Pairwise leS) (hl:a.length≤1048577) (hd:a[k0]'hk=a[k0-1]'(by omega)) (hp0:(a.take k0).Pairwise ltS) (x48:List ByteArray) (hx:x48.length=a.length-k0):
  ∃xs k,vO (k0:Int) x48 (a,(k0:Int),1)=some (xs,((k:Nat):Int))∧xs.length=a.length∧k≤a.length∧(xs.take k).Pairwise ltS∧∀x,x∈xs.take k↔x∈a:=by
 have hle:∀(i j:Nat) (hi:i<a.length) (hj:j<a.length),i≤j→leS a[i] a[j]:=by
  intro i j hi hj hij
  rcases Nat.lt_or_ge i j with h|h
  ·exact List.pairwise_iff_getElem.1 hs i j hi hj h
  ·have:i=j:=by omega
   subst this; exact zIP _
 obtain ⟨⟨xs,k'⟩,e,h1,k,h2,h3,h4,h5⟩:=jW (b:=vY (k0:Int) x48)
  (fun i s=>s.2.2=((i+1:Nat):Int)∧s.1.length=a.length∧(∀j,i+k0≤j→s.1[j]? =a[j]?)∧∃k:Nat,s.2.1=(k:Int)∧1≤k∧k≤i+k0∧(s.1.take k).Pairwise ltS∧(∀x,x∈s.1.take k↔x∈a.take (i+k0+1))∧(∀x∈s.1.take k,leS x (a.getD (i+k0) ByteArray.empty))) (a.length-k0-1)
  (fun t=>t.1.length=a.length∧∃k:Nat,t.2=(k:Int)∧k≤a.length∧(t.1.take k).Pairwise ltS∧∀x,x∈t.1.take k↔x∈a) (by
  rintro i ⟨xs,kk,jj⟩ hi ⟨hj,hlen,hsame,k,hkk,hk1,hkle,hpw,hmem,hmax⟩
  simp only at hj hlen hsame hkk hpw hmem hmax
  subst hj hkk
  have hi1:i+k0+1<a.length:=by omega
  have g1:xs[i+k0+1]'(by omega)=a[i+k0+1]:=by
   have:=hsame (i+k0+1) (by omega)
   rw [List.getElem?_eq_getElem (by omega),List.getElem?_eq_getElem hi1] at this
   exact Option.some.inj this
  have g0:xs[i+k0]'(by omega)=a[i+k0]:=by
   have:=hsame (i+k0) (by omega)
   rw [List.getElem?_eq_getElem (by omega),List.getElem?_eq_getElem (by omega)] at this
   exact Option.some.inj this
  have hgd:a.getD (i+k0) ByteArray.empty=a[i+k0]:=by simp [List.getD,show i+k0<a.length by omega]
  rw [hgd] at hmax
  have r1:zKC xs (k0:Int) x48.length ((i+1:Nat):Int)=some a[i+k0+1]:=by
   unfold zKC
   rw [if_pos (by omega),show (k0:Int)+((i+1:Nat):Int)=((i+k0+1:Nat):Int) by omega,zJ (by omega),g1]
  have r0:zKC xs (k0:Int) x48.length (i:Int)=some a[i+k0]:=by
   unfold zKC
   rw [if_pos (by omega),show (k0:Int)+(i:Int)=((i+k0:Nat):Int) by omega,zJ (by omega),g0]
  refine .inl ?_
  unfold vY
  rw [if_pos (by simp; omega)]
  simp only
  rw [r1,zCA (x:=((i+1:Nat):Int)-1) (by omega) (by omega),show ((i+1:Nat):Int)-1=(i:Int) by omega,r0,zJ (show k<xs.length by omega),zN (show k<_ by omega),zN (show i+1<_ by omega)]
  simp only [Option.bind_some]
  have htk:a.take (i+k0+1+1)=a.take (i+k0+1)++[a[i+k0+1]]:=List.take_succ_eq_append_getElem hi1
  have hmono:=hle (i+k0) (i+k0+1) (by omega) hi1 (by omega)
  have hgd1:a.getD (i+1+k0) ByteArray.empty=a[i+k0+1]:=by
   rw [show i+1+k0=i+k0+1 by omega]
   simp [List.getD,hi1]
  by_cases hne:a[i+k0+1]=a[i+k0]
  ·rw [if_neg (by simp [hne])]
   refine ⟨_,rfl,rfl,hlen,fun j hj=>hsame j (by omega),k,rfl,hk1,by omega,hpw,?_,?_⟩
   ·intro x
    rw [show i+1+k0+1=i+k0+1+1 by omega,htk,hmem,List.mem_append,List.mem_singleton]
    constructor
    ·exact fun h=>.inl h
    ·rintro (h|h)
     ·exact h
     ·rw [h,hne]
      refine List.mem_iff_getElem.2 ⟨i+k0,by simp; omega,by simp⟩
   ·intro x hx
    rw [hgd1]
    exact zHw (hmax x hx) hmono
  ·rw [if_pos (by simpa [seq_eq] using hne)]
   refine ⟨_,rfl,rfl,by simpa using hlen,?_,k+1,rfl,by omega,by omega,?_,?_,?_⟩
   ·intro j hj
    show (xs.set (k:Int).toNat a[i+k0+1])[j]? =a[j]?
    rw [Int.toNat_natCast,List.getElem?_set_ne (by omega)]
    exact hsame j (by omega)
   ·show ((xs.set (k:Int).toNat a[i+k0+1]).take (k+1)).Pairwise ltS
    rw [Int.toNat_natCast,zHm (by omega),List.pairwise_append]
    refine ⟨hpw,by simp,fun x hx y hy=>?_⟩
    simp at hy
    rw [hy]
    exact zJT (hmax x hx) (zK1 hmono (Ne.symm hne))
   ·intro x
    show x∈(xs.set (k:Int).toNat a[i+k0+1]).take (k+1)↔_
    rw [Int.toNat_natCast,zHm (by omega),show i+1+k0+1=i+k0+1+1 by omega,htk,List.mem_append,List.mem_append,hmem]
   ·intro x hx
    have hx':x∈(xs.set (k:Int).toNat a[i+k0+1]).take (k+1):=hx
    rw [Int.toNat_natCast,zHm (by omega)] at hx'
    rw [hgd1]
    rcases List.mem_append.1 hx' with h|h
    ·exact zHw (hmax x h) hmono
    ·simp at h; rw [h]; exact zIP _) (by
  rintro ⟨xs,kk,jj⟩ ⟨hj,hlen,hsame,k,hkk,hk1,hkle,hpw,hmem,hmax⟩
  simp only at hj hlen hsame hkk hpw hmem hmax
  subst hj hkk
  unfold vY
  rw [if_neg (by simp; omega)]
  refine ⟨_,rfl,hlen,k,rfl,by omega,hpw,fun x=>?_⟩
  rw [hmem,List.take_of_length_le (by omega)]) (a.length-k0-1) 0 (a,(k0:Int),1) (by omega) ⟨rfl,rfl,fun _ _=>rfl,k0,rfl,h0,by omega,hp0,by
   intro x
   rw [Nat.zero_add,List.take_succ_eq_append_getElem hk,List.mem_append,List.mem_singleton]
   constructor
   ·exact fun h=>.inl h
   ·rintro (h|h)
    ·exact h
    ·rw [h,hd]
     exact List.mem_iff_getElem.2 ⟨k0-1,by simp; omega,by simp⟩,by
   intro x hx
   rw [Nat.zero_add]
   obtain ⟨j,hj,rfl⟩:=List.mem_iff_getElem.1 hx
   rw [List.getElem_take]
   have hgd:a.getD k0 ByteArray.empty=a[k0]:=by simp [List.getD,hk]
   rw [hgd]
   simp at hj
   exact hle j k0 (by omega) hk (by omega)⟩
 simp only at h1 h2
 subst h2
 exact ⟨xs,k,by unfold vO; exact e,h1,h3,h4,h5⟩
theorem zKm (a:List ByteArray) (hs:a.Pairwise leS) (hl:a.length≤1048577):∃r,vR a=some r∧r.Pairwise ltS∧(∀x,x∈r↔x∈a)∧r.length≤a.length:=by
 have step1:∀i (hi:i<a.length) (h1:1≤i),(a.take i).Pairwise ltS→a[i]≠a[i-1]'(by omega)→(a.take (i+1)).Pairwise ltS:=by
  intro i hi h1 hp hne
  rw [List.take_succ_eq_append_getElem hi,List.pairwise_append]
  refine ⟨hp,by simp,fun x hx y hy=>?_⟩
  simp at hy
  rw [hy]
  obtain ⟨j,hj,rfl⟩:=List.mem_iff_getElem.1 hx
  rw [List.getElem_take]
  simp at hj
  have q1:leS (a[i-1]'(by omega)) a[i]:=List.pairwise_iff_getElem.1 hs (i-1) i (by omega) hi (by omega)
  have q2:leS (a[j]'(by omega)) (a[i-1]'(by omega)):=by
   rcases Nat.lt_or_ge j (i-1) with h|h
   ·exact List.pairwise_iff_getElem.1 hs j (i-1) (by omega) (by omega) h
   ·have:j=i-1:=by omega
    subst this; exact zIP _
  exact zJT q2 (zK1 q1 (Ne.symm hne))
 have hb:∀i (hi:i<a.length) (h1:1≤i),(a.take i).Pairwise ltS→(a[i]=a[i-1]'(by omega)∧∃r,wW a (i:Int)=some (.done (.ret r))∧r.Pairwise ltS∧(∀x,x∈r↔x∈a)∧r.length≤a.length)∨(a[i]≠a[i-1]'(by omega)∧wW a (i:Int)=some (.go ((i+1:Nat):Int))):=by
  intro i hi h1 hp
  unfold wW
  rw [if_pos (by simp; omega),zJ hi,zCA (x:=(i:Int)-1) (by omega) (by omega),show (i:Int)-1=((i-1:Nat):Int) by omega,zJ (show i-1<a.length by omega),zN (by omega)]
  simp only [Option.bind_some]
  by_cases he:a[i]=a[i-1]'(by omega)
  ·left
   refine ⟨he,?_⟩
   rw [if_pos (by simpa [seq_eq] using he),zFF (Nat.le_of_lt hi) (Nat.le_refl _)]
   simp only [Option.bind_some]
   obtain ⟨xs,k,e,g1,g2,g3,g4⟩:=zIg a i h1 hi hs hl he hp ((a.drop i).take (a.length-i)) (by simp)
   rw [e]
   simp only [Option.bind_some]
   have hk:k≤xs.length:=by omega
   rw [zFF hk (Nat.le_refl _)]
   simp only [Option.bind_some]
   rw [zM3 (by simp; omega)]
   simp only [Option.bind_some]
   refine ⟨xs.take k,?_,g3,g4,by simp; omega⟩
   have:∀ys:List ByteArray,zF8 (xs.take k++ys) 0 (k:Int)=some (xs.take k):=by
    intro ys
    have hh:=zFF (xs:=xs.take k++ys) (l:=0) (h:=k) (by omega) (by simp; omega)
    rw [show ((0:Nat):Int)=0 from rfl] at hh
    rw [hh]
    simp [Nat.min_eq_left hk]
   rw [List.append_assoc,this]
   rfl
  ·right
   rw [if_neg (by simpa [seq_eq] using he)]
   exact ⟨he,rfl⟩
 unfold vR
 by_cases h2:a.length<2
 ·rw [if_pos (by simp; omega)]
  refine ⟨a,rfl,?_,fun x=>Iff.rfl,Nat.le_refl _⟩
  match a,h2 with
  |[],_=>simp
  |[x],_=>simp
 ·rw [if_neg (by simp; omega)]
  obtain ⟨t,e,h⟩:=jW (b:=wW a) (fun i s=>s=((i+1:Nat):Int)∧(a.take (i+1)).Pairwise ltS) (a.length-1)
   (fun t=>(∃r,t= .ret r∧r.Pairwise ltS∧(∀x,x∈r↔x∈a)∧r.length≤a.length)∨(t= .nxt ()∧a.Pairwise ltS)) (by
   rintro i s hi ⟨rfl,hp⟩
   rcases hb (i+1) (by omega) (by omega) hp with ⟨_,r,e,q⟩|⟨hne,e⟩
   ·exact .inr ⟨_,e,.inl ⟨r,rfl,q⟩⟩
   ·exact .inl ⟨_,e,rfl,step1 (i+1) (by omega) (by omega) hp hne⟩) (by
   rintro s ⟨rfl,hp⟩
   rw [show a.length-1+1=a.length by omega] at hp ⊢
   refine ⟨.nxt (),?_,.inr ⟨rfl,by rw [List.take_length] at hp; exact hp⟩⟩
   unfold wW
   rw [if_neg (by simp)]) (a.length-1) 0 1 (by omega) ⟨rfl,by
    match a,h2 with
    |x::l,_=>simp⟩
  unfold uI
  rw [e]
  rcases h with ⟨r,rfl,q⟩|⟨rfl,q⟩
  ·exact ⟨r,rfl,q⟩
  ·exact ⟨a,rfl,q,fun x=>Iff.rfl,Nat.le_refl _⟩
theorem zGa (a:List ByteArray) (hl:a.length≤1048577):∃r,uO a=some r∧r.Pairwise ltS∧∀x,x∈r↔x∈a:=by
 obtain ⟨m,e1,e2,e3,e4⟩:=zNf a hl
 obtain ⟨r,f1,f2,f3,_⟩:=zKm m e2 (by omega)
 unfold uO
 rw [e1]
 simp only [Option.bind_some]
 rw [zJL e4]
 simp only [Option.bind_some]
 rw [f1]
 exact ⟨r,rfl,f2,fun x=>by rw [f3,e3]⟩
theorem zGy {α β:Type} {f:Nat→List β→α→List β} {p:Nat→α→Prop} (hf:∀i l x,f i l x=[]↔l=[]∧p i x):∀(xs:List α) (i:Nat) (l:List β),foldI f i xs l=[]↔l=[]∧∀j,(h:j<xs.length)→p (i+j) xs[j]
 |[],i,l=>by simp [foldI]
 |x::xs,i,l=>by
  show foldI f (i+1) xs (f i l x)=[]↔_
  rw [zGy hf xs (i+1) (f i l x),hf]
  constructor
  ·rintro ⟨⟨h1,h2⟩,h3⟩
   refine ⟨h1,fun j hj=>?_⟩
   cases j with
   |zero=>simpa using h2
   |succ j=>
    have:=h3 j (by simpa using hj)
    rw [show i+(j+1)=i+1+j by omega]
    simpa using this
  ·rintro ⟨h1,h2⟩
   refine ⟨⟨h1,by have h:=h2 0 (by simp); rw [Nat.add_zero] at h; exact h⟩,fun j hj=>?_⟩
   have:=h2 (j+1) (by simpa using hj)
   rw [show i+(j+1)=i+1+j by omega] at this
   simpa using this
def tQ (c:List Pack) (k:Int):ByteArray:=(pat c k).Name
structure GoodS (c:List Pack) (a:List Int):Prop where
 names:a.Pairwise (fun k o=>tQ c k≠tQ c o)
 needs:∀k∈a,∀l∈(pat c k).Needs,zK3 c a l=true
 bars:∀k∈a,∀t∈(pat c k).Bars,zD6 c a t k=false
theorem zGn (c:List Pack) (a:List Int):zEq c a=[]↔GoodS c a:=by
 have hN:∀(k:Int) (j:Nat) (l:List zR) (x:List Term),fN c a k j l x=[]↔l=[]∧zK3 c a x=true:=by
  intro k j l x
  unfold fN
  cases zK3 c a x<;>simp
 have hB:∀(k:Int) (j:Nat) (l:List zR) (t:Term),fB c a k j l t=[]↔l=[]∧zD6 c a t k=false:=by
  intro k j l t
  unfold fB
  cases zD6 c a t k<;>simp
 have hS:∀(i:Nat) (l:List zR) (k:Int),fS c a i l k=[]↔l=[]∧((a.take i).any (fun o=>seq (pat c o).Name (pat c k).Name)=false∧(∀x∈(pat c k).Needs,zK3 c a x=true)∧∀t∈(pat c k).Bars,zD6 c a t k=false):=by
  intro i l k
  unfold fS
  rw [zGy (p:=fun _ t=>zD6 c a t k=false) (fun i l x=>hB k i l x),zGy (p:=fun _ x=>zK3 c a x=true) (fun i l x=>hN k i l x)]
  have hD:fD c a i k l=[]↔l=[]∧(a.take i).any (fun o=>seq (pat c o).Name (pat c k).Name)=false:=by
   unfold fD
   cases (a.take i).any (fun o=>seq (pat c o).Name (pat c k).Name)<;>simp
  rw [hD]
  constructor
  ·rintro ⟨⟨⟨h1,h2⟩,h3⟩,h4⟩
   refine ⟨h1,h2,fun x hx=>?_,fun t ht=>?_⟩
   ·obtain ⟨j,hj,rfl⟩:=List.getElem_of_mem hx
    exact h3 j hj
   ·obtain ⟨j,hj,rfl⟩:=List.getElem_of_mem ht
    exact h4 j hj
  ·rintro ⟨h1,h2,h3,h4⟩
   exact ⟨⟨⟨h1,h2⟩,fun j hj=>h3 _ (List.getElem_mem hj)⟩,fun j hj=>h4 _ (List.getElem_mem hj)⟩
 unfold zEq
 rw [zGy hS]
 constructor
 ·rintro ⟨_,h⟩
  refine ⟨?_,fun k hk=>?_,fun k hk=>?_⟩
  ·rw [List.pairwise_iff_getElem]
   intro i j hi hj hij e
   have:=(h j hj).1
   rw [Nat.zero_add] at this
   have hm:a[i]∈a.take j:=List.mem_take_iff_getElem.2 ⟨i,by omega,rfl⟩
   have h2:(a.take j).any (fun o=>seq (pat c o).Name (pat c a[j]).Name)=true:=List.any_eq_true.2 ⟨_,hm,zEj.2 e⟩
   rw [this] at h2
   cases h2
  ·obtain ⟨j,hj,rfl⟩:=List.getElem_of_mem hk
   exact (h j hj).2.1
  ·obtain ⟨j,hj,rfl⟩:=List.getElem_of_mem hk
   exact (h j hj).2.2
 ·rintro ⟨h1,h2,h3⟩
  refine ⟨rfl,fun j hj=>⟨?_,h2 _ (List.getElem_mem hj),h3 _ (List.getElem_mem hj)⟩⟩
  rw [Nat.zero_add]
  cases ha:(a.take j).any (fun o=>seq (pat c o).Name (pat c a[j]).Name) with
  |false=>rfl
  |true=>
   obtain ⟨o,ho,he⟩:=List.any_eq_true.1 ha
   obtain ⟨i,hi,rfl⟩:=List.mem_take_iff_getElem.1 ho
   exact absurd (zEj.1 he) (List.pairwise_iff_getElem.1 h1 i j (by omega) hj (by omega))
theorem GoodS.one {c:List Pack} {a:List Int} (h:GoodS c a) {k o:Int} (hk:k∈a) (ho:o∈a) (e:tQ c k=tQ c o):k=o:=by
 obtain ⟨i,hi,rfl⟩:=List.getElem_of_mem hk
 obtain ⟨j,hj,rfl⟩:=List.getElem_of_mem ho
 rcases Nat.lt_trichotomy i j with h1|h1|h1
 ·exact absurd e (List.pairwise_iff_getElem.1 h.names i j hi hj h1)
 ·subst h1; rfl
 ·exact absurd e.symm (List.pairwise_iff_getElem.1 h.names j i hj hi h1)
def Chg (c:List Pack) (a b:List Int) (n:ByteArray):Prop:=∃k,tQ c k=n∧((k∈a∧k∉b)∨(k∈b∧k∉a))
def Nms (c:List Pack) (a b:List Int) (x n:ByteArray):Prop:=n=x∨∃k,(k∈a∨k∈b)∧tQ c k=x∧n∈(pat c k).Provides
def Says (c:List Pack) (k:Int) (n:ByteArray):Prop:=(∃l∈(pat c k).Needs,∃t∈l,t.Name=n)∨∃t∈(pat c k).Bars,t.Name=n
def Tch (c:List Pack) (a b:List Int) (x y:ByteArray):Prop:=∃k,(k∈a∨k∈b)∧tQ c k=x∧∃n,Says c k n∧Nms c a b y n
def Joi (c:List Pack) (a b:List Int) (x y:ByteArray):Prop:=
 Tch c a b x y∨Tch c a b y x∨∃k,(k∈a∨k∈b)∧∃l∈(pat c k).Needs,(∃t∈l,Nms c a b x t.Name)∧∃t∈l,Nms c a b y t.Name
theorem Joi.symm {c:List Pack} {a b:List Int} {x y:ByteArray} (h:Joi c a b x y):Joi c a b y x:=by
 rcases h with h|h|⟨k,h1,l,h2,h3,h4⟩
 ·exact .inr (.inl h)
 ·exact .inl h
 ·exact .inr (.inr ⟨k,h1,l,h2,h4,h3⟩)
theorem zLb {c:List Pack} {k:Int} {t:Term} (h:zBq (pat c k) t=true):t.Name=tQ c k∨t.Name∈(pat c k).Provides :=by
 unfold zBq at h
 simp only [Bool.and_eq_true,Bool.or_eq_true] at h
 rcases h.1 with h|h
 ·exact .inl (zEj.1 h)
 ·obtain ⟨x,hx,e⟩:=List.any_eq_true.1 h
  rw [←zEj.1 e]
  exact .inr hx
theorem zFp {c:List Pack} {a b:List Int} {k:Int} {t:Term} (hk:k∈a∨k∈b) (h:zBq (pat c k) t=true):Nms c a b (tQ c k) t.Name:=by
 rcases zLb h with h|h
 ·exact .inl h
 ·exact .inr ⟨k,hk,rfl,h⟩
def Mvd (c:List Pack) (a b:List Int) (U:ByteArray→Prop) (m:List Int):Prop:=∀k,k∈m↔(U (tQ c k)∧k∈b)∨(¬U (tQ c k)∧k∈a)
theorem apart {c:List Pack} {a b m:List Int} {U:ByteArray→Prop} (ga:GoodS c a) (gb:GoodS c b) (hm:Mvd c a b U m) (hn:m.Nodup)
  (hj:∀x y,Chg c a b x→Chg c a b y→U x→¬U y→¬Joi c a b x y):GoodS c m:=by
 have outA:∀{k},k∈a→k∉m→U (tQ c k)∧Chg c a b (tQ c k):=by
  intro k h1 h2
  have hU:U (tQ c k):=Classical.byContradiction fun h=>h2 ((hm k).2 (.inr ⟨h,h1⟩))
  exact ⟨hU,k,rfl,.inl ⟨h1,fun h3=>h2 ((hm k).2 (.inl ⟨hU,h3⟩))⟩⟩
 have outB:∀{k},k∈b→k∉m→¬U (tQ c k)∧Chg c a b (tQ c k):=by
  intro k h1 h2
  have hU:¬U (tQ c k):=fun h=>h2 ((hm k).2 (.inl ⟨h,h1⟩))
  exact ⟨hU,k,rfl,.inr ⟨h1,fun h3=>h2 ((hm k).2 (.inr ⟨hU,h3⟩))⟩⟩
 refine ⟨?_,fun k hk l hl=>?_,fun k hk t ht=>?_⟩
 ·refine List.Pairwise.imp_of_mem ?_ hn
  intro k o hk ho hne e
  refine hne ?_
  rcases (hm k).1 hk with ⟨h1,h2⟩|⟨h1,h2⟩<;>rcases (hm o).1 ho with ⟨h3,h4⟩|⟨h3,h4⟩
  ·exact gb.one h2 h4 e
  ·exact absurd (e▸h1) h3
  ·exact absurd (e▸h3) h1
  ·exact ga.one h2 h4 e
 ·have use:∀{o:Int},o∈m→l.any (zBq (pat c o))=true→zK3 c m l=true:=fun {o} ho hg=>List.any_eq_true.2 ⟨o,ho,hg⟩
  have says:∀{t:Term},t∈l→Says c k t.Name:=fun {t} ht=>.inl ⟨l,hl,t,ht,rfl⟩
  rcases (hm k).1 hk with ⟨hU,hkb⟩|⟨hU,hka⟩
  ·obtain ⟨o,ho,hg⟩:=List.any_eq_true.1 (gb.needs k hkb l hl)
   by_cases hom:o∈m
   ·exact use hom hg
   obtain ⟨hUo,hco⟩:=outB ho hom
   obtain ⟨t,ht,hgt⟩:=List.any_eq_true.1 hg
   have hnm:=zFp (a:=a) (b:=b) (.inr ho) hgt
   by_cases hka:k∈a
   ·obtain ⟨o',ho',hg'⟩:=List.any_eq_true.1 (ga.needs k hka l hl)
    by_cases hom':o'∈m
    ·exact use hom' hg'
    obtain ⟨hUo',hco'⟩:=outA ho' hom'
    obtain ⟨t',ht',hgt'⟩:=List.any_eq_true.1 hg'
    exact absurd (.inr (.inr ⟨k,.inl hka,l,hl,⟨t',ht',zFp (.inl ho') hgt'⟩,⟨t,ht,hnm⟩⟩)) (hj _ _ hco' hco hUo' hUo)
   ·exact absurd (.inl ⟨k,.inr hkb,rfl,_,says ht,hnm⟩) (hj _ _ ⟨k,rfl,.inr ⟨hkb,hka⟩⟩ hco hU hUo)
  ·obtain ⟨o,ho,hg⟩:=List.any_eq_true.1 (ga.needs k hka l hl)
   by_cases hom:o∈m
   ·exact use hom hg
   obtain ⟨hUo,hco⟩:=outA ho hom
   obtain ⟨t,ht,hgt⟩:=List.any_eq_true.1 hg
   have hnm:=zFp (a:=a) (b:=b) (.inl ho) hgt
   by_cases hkb:k∈b
   ·obtain ⟨o',ho',hg'⟩:=List.any_eq_true.1 (gb.needs k hkb l hl)
    by_cases hom':o'∈m
    ·exact use hom' hg'
    obtain ⟨hUo',hco'⟩:=outB ho' hom'
    obtain ⟨t',ht',hgt'⟩:=List.any_eq_true.1 hg'
    exact absurd (.inr (.inr ⟨k,.inl hka,l,hl,⟨t,ht,hnm⟩,⟨t',ht',zFp (.inr ho') hgt'⟩⟩)) (hj _ _ hco hco' hUo hUo')
   ·exact absurd (.inr (.inl ⟨k,.inl hka,rfl,_,says ht,hnm⟩)) (hj _ _ hco ⟨k,rfl,.inl ⟨hka,hkb⟩⟩ hUo hU)
 ·cases hgv:zD6 c m t k with
  |false=>rfl
  |true=>
   exfalso
   obtain ⟨o,ho,hg⟩:=List.any_eq_true.1 hgv
   simp only [Bool.and_eq_true,bne_iff_ne] at hg
   obtain ⟨hok,hgt⟩:=hg
   have inB:k∈b→o∈b→False:=fun h1 h2=>by
    have:zD6 c b t k=true:=List.any_eq_true.2 ⟨o,h2,by simp [hok,hgt]⟩
    rw [gb.bars k h1 t ht] at this
    cases this
   have inA:k∈a→o∈a→False:=fun h1 h2=>by
    have:zD6 c a t k=true:=List.any_eq_true.2 ⟨o,h2,by simp [hok,hgt]⟩
    rw [ga.bars k h1 t ht] at this
    cases this
   have says:Says c k t.Name:=.inr ⟨t,ht,rfl⟩
   rcases (hm k).1 hk with ⟨h1,h2⟩|⟨h1,h2⟩<;>rcases (hm o).1 ho with ⟨h3,h4⟩|⟨h3,h4⟩
   ·exact inB h2 h4
   ·by_cases h5:o∈b
    ·exact inB h2 h5
    by_cases h6:k∈a
    ·exact inA h6 h4
    exact hj _ _ ⟨k,rfl,.inr ⟨h2,h6⟩⟩ ⟨o,rfl,.inl ⟨h4,h5⟩⟩ h1 h3 (.inl ⟨k,.inr h2,rfl,_,says,zFp (.inl h4) hgt⟩)
   ·by_cases h5:o∈a
    ·exact inA h2 h5
    by_cases h6:k∈b
    ·exact inB h6 h4
    exact hj _ _ ⟨o,rfl,.inr ⟨h4,h5⟩⟩ ⟨k,rfl,.inl ⟨h2,h6⟩⟩ h3 h1 (.inr (.inl ⟨k,.inl h2,rfl,_,says,zFp (.inr h4) hgt⟩))
   ·exact inA h2 h4
def inN (ns:List ByteArray) (n:ByteArray):Bool:=ns.any fun x=>seq x n
theorem zEf {ns:List ByteArray} {n:ByteArray}:inN ns n=true↔n∈ns:=by
 unfold inN
 rw [List.any_eq_true]
 constructor
 ·rintro ⟨x,hx,e⟩; rw [←zEj.1 e]; exact hx
 ·exact fun h=>⟨n,h,zIA n⟩
def mvB (c:List Pack) (a b:List Int) (ns:List ByteArray) (k:Int):Bool:=if inN ns (tQ c k) then decide (k∈b) else decide (k∈a)
def upTo (n:Nat):List Int:=(List.range n).map fun i:Nat=>(i:Int)
def mvL (c:List Pack) (a b:List Int) (ns:List ByteArray):List Int:=(upTo c.length).filter (mvB c a b ns)
theorem zJA (n:Nat):(upTo n).length =n:=by simp [upTo]
theorem zKD {n:Nat} {k:Int}:k∈upTo n↔0≤k∧k<n:=by
 unfold upTo
 rw [List.mem_map]
 constructor
 ·rintro ⟨i,hi,rfl⟩
  have:=List.mem_range.1 hi
  omega
 ·rintro ⟨h1,h2⟩
  exact ⟨k.toNat,List.mem_range.2 (by omega),by omega⟩
theorem zNG (n:Nat):(upTo n).Pairwise (· < ·):=by
 unfold upTo
 refine List.pairwise_map.2 (List.pairwise_lt_range.imp fun h=>by omega)
theorem zGh (c:List Pack) (a b:List Int) (ns:List ByteArray):(mvL c a b ns).Pairwise (· < ·):=(zNG _).filter _
theorem zGO (c:List Pack) (a b:List Int) (ns:List ByteArray):Places c (mvL c a b ns):=fun k hk=>zKD.1 (List.mem_filter.1 hk).1
theorem zGS (c:List Pack) (a b:List Int) (ns:List ByteArray):(mvL c a b ns).length ≤c.length:=by
 have:=List.length_filter_le (mvB c a b ns) (upTo c.length)
 rw [zJA] at this
 exact this
theorem zFw {c:List Pack} {a b:List Int} {ns:List ByteArray} (ha:Places c a) (hb:Places c b) {k:Int}:k∈mvL c a b ns↔(tQ c k∈ns∧k∈b)∨(tQ c k∉ns∧k∈a):=by
 unfold mvL mvB
 rw [List.mem_filter,zKD]
 have hin:=zEf (ns:=ns) (n:=tQ c k)
 cases hq:inN ns (tQ c k)
 ·have hno:tQ c k∉ns:=fun h=>by rw [hin.2 h] at hq; cases hq
  simp only [Bool.false_eq_true,if_false,decide_eq_true_eq]
  constructor
  ·rintro ⟨_,h⟩; exact .inr ⟨hno,h⟩
  ·rintro (⟨h,_⟩|⟨_,h⟩)
   ·exact absurd h hno
   ·exact ⟨ha k h,h⟩
 ·have hyes:=hin.1 hq
  simp only [if_true,decide_eq_true_eq]
  constructor
  ·rintro ⟨_,h⟩; exact .inl ⟨hyes,h⟩
  ·rintro (⟨_,h⟩|⟨h,_⟩)
   ·exact ⟨hb k h,h⟩
   ·exact absurd hyes h
theorem zMW {l r:List Int} (hr:r.Pairwise (· < ·)) (hl:l.Nodup) (hm:∀x,x∈r↔x∈l) (hs:l.length≤4194304):tH l=some r:=by
 unfold tH
 rw [if_pos (by omega)]
 congr 1
 have hp:(l.mergeSort fun x y=>decide (x≤y)).Pairwise (fun x y=>decide (x≤y)=true):=List.pairwise_mergeSort (le:=fun x y:Int=>decide (x≤y)) (by intro x y z h1 h2; simp at*; omega) (by intro x y; simp; omega) l
 have hn:(l.mergeSort fun x y=>decide (x≤y)).Nodup :=(List.mergeSort_perm _ _).nodup_iff.2 hl
 refine zFv ?_ hr (fun x=>(List.mergeSort_perm _ _).mem_iff.trans (hm x).symm)
 exact hp.imp₂ (fun x y h1 h2=>by simp at h1; omega) hn
theorem zHN {c:List Pack} {a:List Int} {ns:List ByteArray} (hp:Places c a) (ha:a.length≤1048576) (hn:ns.length≤1048576):
  vP a ns c=some (a.filter fun k=>inN ns (tQ c k))∧xC a ns c=some (a.filter fun k=> !(inN ns (tQ c k))):=by
 have h1:∀k∈a,wK k ns c=some (!(inN ns (tQ c k))):=by
  intro k hk
  unfold wK zBb
  rw [(zA0 (hp k hk)).1]
  simp only [Option.bind_some]
  rw [zDp _ _ hn]
  rfl
 have h2:∀k∈a,zT k ns c=some (inN ns (tQ c k)):=by
  intro k hk
  unfold zT vS zBb
  rw [(zA0 (hp k hk)).1]
  simp only [Option.bind_some]
  rw [zDp _ _ hn]
  simp only [Option.bind_some,Bool.not_not]
  rfl
 constructor
 ·have key:=zKe (fun k=> !(inN ns (tQ c k))) a (0:Int) (by omega) (b1:=yE a ns c) (b2:=yC ns c) (by
   intro i hi
   unfold yE
   rw [if_pos (by simp; omega),zJ hi]
   simp only [Option.bind_some,h1 _ (List.getElem_mem hi)]
   rw [zN (by omega)]
   split<;>rfl) (by
   unfold yE
   rw [if_neg (by simp)]) (by
   intro xs i j hj hij hl hm
   unfold yC
   simp only
   rw [if_pos (by simp; omega),zJ hj]
   simp only [Option.bind_some,h1 _ hm]
   rw [zJ (show i<xs.length by omega),zN (show j<_ by omega),zN (show i<_ by omega)]
   cases inN ns (tQ c xs[j])<;>simp) (by
   intro xs i hl
   unfold yC
   rw [if_neg (by simp)])
  have e:zV a ns c=some (a.filter fun k=> !!(inN ns (tQ c k))):=key
  unfold vP wH
  rw [jU (by simp; omega) (by simp; omega)]
  simp only [Option.bind_some,List.nil_append]
  rw [e]
  simp
 ·have key:=zKe (fun k=>inN ns (tQ c k)) a (0:Int) (by omega) (b1:=zO a ns c) (b2:=zM ns c) (by
   intro i hi
   unfold zO
   rw [if_pos (by simp; omega),zJ hi]
   simp only [Option.bind_some,h2 _ (List.getElem_mem hi)]
   rw [zN (by omega)]
   split<;>rfl) (by
   unfold zO
   rw [if_neg (by simp)]) (by
   intro xs i j hj hij hl hm
   unfold zM
   simp only
   rw [if_pos (by simp; omega),zJ hj]
   simp only [Option.bind_some,h2 _ hm]
   rw [zJ (show i<xs.length by omega),zN (show j<_ by omega),zN (show i<_ by omega)]
   cases inN ns (tQ c xs[j])<;>simp) (by
   intro xs i hl
   unfold zM
   rw [if_neg (by simp)])
  have e:zK a ns c=some (a.filter fun k=> !(inN ns (tQ c k))):=key
  unfold xC wH
  rw [jU (by simp; omega) (by simp; omega)]
  simp only [Option.bind_some,List.nil_append]
  rw [e]
  rfl
theorem zLt {c:List Pack} {a b:List Int} {ns:List ByteArray} (pa:Places c a) (pb:Places c b) (sa:a.Pairwise (· < ·)) (sb:b.Pairwise (· < ·)) (ha:a.length≤1048576) (hb:b.length≤1048576) (hn:ns.length≤1048576):
  zAp c a b ns=some (mvL c a b ns):=by
 have l1:=List.length_filter_le (fun k=> !(inN ns (tQ c k))) a
 have l2:=List.length_filter_le (fun k=>inN ns (tQ c k)) b
 unfold zAp
 rw [(zHN pa ha hn).2,(zHN pb hb hn).1]
 simp only [Option.bind_some]
 rw [jU (by omega) (by omega)]
 simp only [Option.bind_some]
 have nd:∀{l:List Int},l.Pairwise (· < ·)→l.Nodup:=fun h=>h.imp fun h=>by omega
 rw [zMW (r:=mvL c a b ns) (zGh c a b ns) ?_ ?_ (by simp only [List.length_append]; omega)]
 ·simp only [Option.bind_some]
  rw [zJL]
  ·rfl
  ·refine (List.Perm.length_eq ?_)
   refine (List.perm_ext_iff_of_nodup (nd (zGh c a b ns)) ?_).2 ?_
   ·refine List.nodup_append.2 ⟨(nd sa).filter _,(nd sb).filter _,fun x hx y hy e=>?_⟩
    subst e
    have h1:=(List.mem_filter.1 hx).2
    have h2:=(List.mem_filter.1 hy).2
    rw [h2] at h1
    cases h1
   ·intro k
    rw [zFw pa pb,List.mem_append,List.mem_filter,List.mem_filter]
    have hin:=zEf (ns:=ns) (n:=tQ c k)
    cases hq:inN ns (tQ c k)
    ·have hno:tQ c k∉ns:=fun h=>by rw [hin.2 h] at hq; cases hq
     simp [hno]
    ·simp [hin.1 hq]
 ·refine List.nodup_append.2 ⟨(nd sa).filter _,(nd sb).filter _,fun x hx y hy e=>?_⟩
  subst e
  have h1:=(List.mem_filter.1 hx).2
  have h2:=(List.mem_filter.1 hy).2
  rw [h2] at h1
  cases h1
 ·intro k
  rw [zFw pa pb,List.mem_append,List.mem_filter,List.mem_filter]
  have hin:=zEf (ns:=ns) (n:=tQ c k)
  cases hq:inN ns (tQ c k)
  ·have hno:tQ c k∉ns:=fun h=>by rw [hin.2 h] at hq; cases hq
   simp [hno]
  ·simp [hin.1 hq]
theorem zI7 {c:List Pack} {a b:List Int} {n1 n2:List ByteArray} (pa:Places c a) (pb:Places c b):mvL c (mvL c a b n1) b n2=mvL c a b (n1++n2):=by
 refine zFv (zGh _ _ _ _) (zGh _ _ _ _) fun k=>?_
 rw [zFw (zGO _ _ _ _) pb,zFw pa pb,zFw pa pb,List.mem_append]
 by_cases h1:tQ c k∈n1<;>by_cases h2:tQ c k∈n2<;>simp [h1,h2]
theorem zJR {c:List Pack} {a b:List Int} (pa:Places c a) (pb:Places c b) (sa:a.Pairwise (· < ·)):mvL c a b []=a:=by
 refine zFv (zGh _ _ _ _) sa fun k=>?_
 rw [zFw pa pb]
 simp
def zE8 (c:List Pack) (a:List Int) (n:ByteArray):Int:=(vK (fun _ k=>if seq (pat c k).Name n then some k else none) 0 a).getD (-1)
theorem zK7 {q:Int→Bool}:∀(xs:List Int) (i:Nat),((vK (fun _ k=>if q k then some k else none) i xs)=none∧∀k∈xs,q k=false)∨∃k∈xs,q k=true∧(vK (fun _ k=>if q k then some k else none) i xs)=some k
 |[],i=>.inl ⟨rfl,by simp⟩
 |x::xs,i=>by
  simp only [vK]
  cases hq:q x
  ·simp only [Bool.false_eq_true,if_false]
   rcases zK7 (q:=q) xs (i+1) with ⟨h1,h2⟩|⟨k,h1,h2,h3⟩
   ·refine .inl ⟨h1,fun k hk=>?_⟩
    rcases List.mem_cons.1 hk with rfl|hk
    ·exact hq
    ·exact h2 k hk
   ·exact .inr ⟨k,by simp [h1],h2,h3⟩
  ·simp only [if_true]
   exact .inr ⟨x,by simp,hq,rfl⟩
theorem zAB (c:List Pack) (a:List Int) (n:ByteArray):(zE8 c a n= -1∧∀k∈a,tQ c k≠n)∨(zE8 c a n∈a∧tQ c (zE8 c a n)=n):=by
 unfold zE8
 rcases zK7 (q:=fun k=>seq (pat c k).Name n) a 0 with ⟨h1,h2⟩|⟨k,h1,h2,h3⟩
 ·rw [h1]
  refine .inl ⟨rfl,fun k hk e=>?_⟩
  have:seq (tQ c k) n=false:=h2 k hk
  rw [zEj.2 e] at this
  cases this
 ·rw [h3]
  exact .inr ⟨h1,zEj.1 h2⟩
theorem zFc {c:List Pack} {a:List Int} (hp:Places c a) (ha:a.length≤1048576) (n:ByteArray):zAi c a n=some (zE8 c a n)∧tK c a n=some (zE8 c a n):=by
 have key:=wT a (fun _ k=>if seq (pat c k).Name n then some k else none) (b:=zDG c a n) (by
  intro i hi
  have hk:=hp _ (List.getElem_mem hi)
  unfold zDG
  rw [if_pos (by simp; omega),zJ hi]
  simp only [Option.bind_some]
  rw [(zA0 hk).1]
  simp only [Option.bind_some]
  rw [zN (by omega)]
  cases seq (pat c a[i]).Name n<;>rfl) (by
  unfold zDG
  rw [if_neg (by simp)])
 have key2:=wT a (fun _ k=>if seq (pat c k).Name n then some k else none) (b:=zAe c a n) (by
  intro i hi
  have hk:=hp _ (List.getElem_mem hi)
  unfold zAe
  rw [if_pos (by simp; omega),zJ hi]
  simp only [Option.bind_some]
  rw [(zA0 hk).1]
  simp only [Option.bind_some]
  rw [zN (by omega)]
  cases seq (pat c a[i]).Name n<;>rfl) (by
  unfold zAe
  rw [if_neg (by simp)])
 constructor
 ·unfold zAi zEg zE8
  rw [key,zBI]
  cases vK (fun _ k=>if seq (pat c k).Name n then some k else none) 0 a<;>rfl
 ·unfold tK zDo zE8
  rw [key2,zBI]
  cases vK (fun _ k=>if seq (pat c k).Name n then some k else none) 0 a<;>rfl
theorem zLF {a b:List Int} (ha:a.length≤1048576) (hb:b.length≤1048576):vE [a,b]=some (a++b):=by
 unfold vE tZ tX
 have e1:loop (wM [a,b]) (0,0)=some ((a.length+b.length:Nat):Int):=by
  have i0:idx [a,b] 0=some a:=rfl
  have i1:idx [a,b] 1=some b:=rfl
  rw [jH,show wM [a,b] (0,0)=some (.go ((a.length:Int),1)) by
   unfold wM
   rw [if_pos (by simp)]
   simp only
   rw [i0]
   simp only [Option.bind_some]
   rw [zCA (by omega) (by omega),if_neg (by simp)]
   simp [zCA]]
  simp only [Option.bind_some,Lp.elim]
  rw [jH,show wM [a,b] ((a.length:Int),1)=some (.go ((a.length:Int)+b.length,2)) by
   unfold wM
   rw [if_pos (by simp)]
   simp only
   rw [i1]
   simp only [Option.bind_some]
   rw [zCA (x:=(a.length:Int)+b.length) (by omega) (by omega),if_neg (by simp; omega)]
   simp [zCA]]
  simp only [Option.bind_some,Lp.elim]
  rw [jH,show wM [a,b] ((a.length:Int)+b.length,2)=some (.done ((a.length:Int)+b.length)) by
   unfold wM
   rw [if_neg (by simp)]]
  simp [Lp.elim]
 rw [e1]
 simp only [Option.bind_some]
 have e2:zAx ((a.length+b.length:Nat):Int)=some []:=by
  unfold zAx
  rw [if_pos (by omega)]
 rw [e2]
 simp only [Option.bind_some]
 have i0:idx [a,b] 0=some a:=rfl
 have i1:idx [a,b] 1=some b:=rfl
 rw [jH,show wZ [a,b] (([]:List Int),0)=some (.go (a,1)) by
  unfold wZ
  rw [if_pos (by simp)]
  simp only
  rw [i0]
  simp only [Option.bind_some]
  rw [jU (by simp; omega) (by simp; omega)]
  simp [zCA]]
 simp only [Option.bind_some,Lp.elim]
 rw [jH,show wZ [a,b] (a,1)=some (.go (a++b,2)) by
  unfold wZ
  rw [if_pos (by simp)]
  simp only
  rw [i1]
  simp only [Option.bind_some]
  rw [jU (by omega) (by omega)]
  simp [zCA]]
 simp only [Option.bind_some,Lp.elim]
 rw [jH,show wZ [a,b] (a++b,2)=some (.done (a++b)) by
  unfold wZ
  rw [if_neg (by simp)]]
 simp [Lp.elim]
structure Sml (c:List Pack):Prop where
 len:c.length≤24
 zOA:∀k,(pat c k).Provides.length ≤4
 needs:∀k,(pat c k).Needs.length ≤4
 bars:∀k,(pat c k).Bars.length ≤4
 clause:∀k,∀l∈(pat c k).Needs,l.length≤4
theorem Sml.of {c:List Pack} (h:CF c=0):Sml c:=by
 obtain ⟨h1,h2,_⟩:=zNP h
 have key:∀p,PF p=0→p.Provides.length≤4∧p.Needs.length≤4∧p.Bars.length≤4∧∀l∈p.Needs,l.length≤4:=by
  intro p hp
  have hm:zLs p=false:=by
   cases hm:zLs p with
   |false=>rfl
   |true=>
    unfold PF at hp
    rw [hm] at hp
    split at hp
    ·rename_i h3; simp [hp] at h3
    split at hp
    ·rename_i h3; simp [hp] at h3
    split at hp
    ·cases hp
    ·cases hp
  unfold zLs at hm
  simp only [Bool.or_eq_false_iff,decide_eq_false_iff_not,List.any_eq_false,decide_eq_true_eq] at hm
  obtain ⟨m1,m2,m3,m4⟩:=hm
  exact ⟨by omega,by omega,by omega,fun l hl=>by have:=m4 l hl; omega⟩
 have pk:∀k,(pat c k).Provides.length ≤4∧(pat c k).Needs.length ≤4∧(pat c k).Bars.length ≤4∧∀l∈(pat c k).Needs,l.length≤4:=by
  intro k
  unfold pat
  cases hk:idx c k with
  |none=>simp [noPack]
  |some p=>
   refine key p (h2 p ?_)
   unfold idx at hk
   split at hk
   ·exact List.mem_of_getElem? hk
   ·cases hk
 exact ⟨h1,fun k=>(pk k).1,fun k=>(pk k).2.1,fun k=>(pk k).2.2.1,fun k=>(pk k).2.2.2⟩
structure Two (c:List Pack) (a b:List Int):Prop where
 sml:Sml c
 pa:Places c a
 pb:Places c b
 sa:a.Pairwise (· < ·)
 sb:b.Pairwise (· < ·)
 la:a.length≤24
 lb:b.length≤24
theorem zJi {c:List Pack} {a b:List Int} (h:Two c a b):
  ∃l,zAf c a b=some l∧zAQ c a b=some l∧l.Pairwise ltS∧(∀n,n∈l↔zE8 c a n≠zE8 c b n)∧l.length≤24:=by
 have hc:=h.sml.len
 have la:=h.la
 have lb:=h.lb
 obtain ⟨l,e,h1,h2,h3⟩:=jW (b:=zAV c a b) (fun i s=>s.2=(i:Int)∧s.1.Pairwise ltS∧(∀n,n∈s.1↔(∃k:Nat,k<i∧tQ c (k:Int)=n)∧zE8 c a n≠zE8 c b n)∧s.1.length≤i) c.length
  (fun t=>t.Pairwise ltS∧(∀n,n∈t↔(∃k:Nat,k<c.length∧tQ c (k:Int)=n)∧zE8 c a n≠zE8 c b n)∧t.length≤c.length) (by
  rintro i ⟨l,j⟩ hi ⟨hj,hs,hm,hl⟩
  simp only at hj hs hm hl
  subst hj
  refine .inl ?_
  have hk:=zA0 (c:=c) (k:=(i:Int)) ⟨by omega,by omega⟩
  unfold zAV
  rw [if_pos (by simp; omega)]
  simp only
  rw [hk.1]
  simp only [Option.bind_some]
  rw [(zFc h.pa (by omega) _).1,(zFc h.pb (by omega) _).1,zN (by omega)]
  simp only [Option.bind_some]
  have hex:∀n,(∃k:Nat,k<i+1∧tQ c (k:Int)=n)↔(∃k:Nat,k<i∧tQ c (k:Int)=n)∨n=(pat c i).Name :=by
   intro n
   constructor
   ·rintro ⟨k,h1,h2⟩
    rcases Nat.lt_succ_iff_lt_or_eq.1 h1 with h3|rfl
    ·exact .inl ⟨k,h3,h2⟩
    ·exact .inr h2.symm
   ·rintro (⟨k,h1,h2⟩|h2)
    ·exact ⟨k,by omega,h2⟩
    ·exact ⟨i,by omega,h2.symm⟩
  by_cases hne:zE8 c a (pat c i).Name =zE8 c b (pat c i).Name
  ·rw [if_neg (by simp [hne])]
   refine ⟨_,rfl,rfl,hs,fun n=>?_,by simp only; omega⟩
   rw [hm,hex]
   constructor
   ·rintro ⟨q1,q2⟩; exact ⟨.inl q1,q2⟩
   ·rintro ⟨q1|q1,q2⟩
    ·exact ⟨q1,q2⟩
    ·subst q1; exact absurd hne q2
  ·rw [if_pos (by simp [hne])]
   obtain ⟨r,e1,e2,e3,e4⟩:=zH0 l (pat c i).Name hs (by omega)
   rw [e1]
   refine ⟨_,rfl,rfl,e2,fun n=>?_,by simp only; omega⟩
   rw [e3,hm,hex]
   constructor
   ·rintro (⟨q1,q2⟩|q1)
    ·exact ⟨.inl q1,q2⟩
    ·subst q1; exact ⟨.inr rfl,hne⟩
   ·rintro ⟨q1|q1,q2⟩
    ·exact .inl ⟨q1,q2⟩
    ·exact .inr q1) (by
  rintro ⟨l,j⟩ ⟨hj,hs,hm,hl⟩
  simp only at hj hs hm hl
  subst hj
  unfold zAV
  rw [if_neg (by simp)]
  exact ⟨_,rfl,hs,hm,hl⟩) c.length 0 (([]:List ByteArray),0) (by omega) ⟨rfl,by simp,by simp,by simp⟩
 have hmem:∀n,n∈l↔zE8 c a n≠zE8 c b n:=by
  intro n
  rw [h2]
  constructor
  ·exact fun h=>h.2
  ·intro hne
   refine ⟨?_,hne⟩
   rcases zAB c a n with ⟨q1,_⟩|⟨q1,q2⟩
   ·rcases zAB c b n with ⟨q3,_⟩|⟨q3,q4⟩
    ·exact absurd (q1.trans q3.symm) hne
    ·have:=h.pb _ q3
     exact ⟨(zE8 c b n).toNat,by omega,by rw [show ((zE8 c b n).toNat :Int)=zE8 c b n by omega]; exact q4⟩
   ·have:=h.pa _ q1
    exact ⟨(zE8 c a n).toNat,by omega,by rw [show ((zE8 c a n).toNat :Int)=zE8 c a n by omega]; exact q2⟩
 refine ⟨l,by unfold zAf zB4; rw [e]; rfl,?_,h1,hmem,by omega⟩
 unfold zAQ zCD
 rw [zLF (by omega) (by omega)]
 simp only [Option.bind_some]
 obtain ⟨l2,f,g1,g2⟩:=jW (b:=zCk c a b (a++b)) (fun i s=>s.2=(i:Int)∧(∀n,n∈s.1↔(∃k∈(a++b).take i,tQ c k=n)∧zE8 c a n≠zE8 c b n)∧s.1.length≤i) (a++b).length
  (fun t=>(∀n,n∈t↔(∃k∈a++b,tQ c k=n)∧zE8 c a n≠zE8 c b n)∧t.length≤(a++b).length) (by
  rintro i ⟨l,j⟩ hi ⟨hj,hm,hl⟩
  simp only at hj hm hl
  subst hj
  have hlen:(a++b).length ≤48:=by simp; omega
  have hk:0≤(a++b)[i]∧(a++b)[i]<c.length:=by
   have:(a++b)[i]∈a++b:=List.getElem_mem hi
   rcases List.mem_append.1 this with q|q
   ·exact h.pa _ q
   ·exact h.pb _ q
  refine .inl ?_
  unfold zCk
  rw [if_pos (by simp at hi ⊢; omega),zJ hi]
  simp only [Option.bind_some]
  rw [(zA0 hk).1]
  simp only [Option.bind_some]
  rw [(zFc h.pa (by omega) _).2,(zFc h.pb (by omega) _).2,zN (by omega)]
  simp only [Option.bind_some]
  have hex:∀n,(∃k∈(a++b).take (i+1),tQ c k=n)↔(∃k∈(a++b).take i,tQ c k=n)∨n=(pat c (a++b)[i]).Name :=by
   intro n
   rw [List.take_succ_eq_append_getElem hi]
   constructor
   ·rintro ⟨k,h1,h2⟩
    rcases List.mem_append.1 h1 with h3|h3
    ·exact .inl ⟨k,h3,h2⟩
    ·simp at h3; subst h3; exact .inr h2.symm
   ·rintro (⟨k,h1,h2⟩|h2)
    ·exact ⟨k,List.mem_append_left _ h1,h2⟩
    ·exact ⟨_,List.mem_append_right _ (by simp),h2.symm⟩
  by_cases hne:zE8 c a (pat c (a++b)[i]).Name =zE8 c b (pat c (a++b)[i]).Name
  ·rw [if_neg (by simp [hne])]
   refine ⟨_,rfl,rfl,fun n=>?_,by simp only; omega⟩
   rw [hm,hex]
   constructor
   ·rintro ⟨q1,q2⟩; exact ⟨.inl q1,q2⟩
   ·rintro ⟨q1|q1,q2⟩
    ·exact ⟨q1,q2⟩
    ·subst q1; exact absurd hne q2
  ·rw [if_pos (by simp [hne]),jU (by simp; omega) (by simp; omega)]
   refine ⟨_,rfl,rfl,fun n=>?_,by simp; omega⟩
   rw [hex,List.mem_append,hm,List.mem_singleton]
   constructor
   ·rintro (⟨q1,q2⟩|q1)
    ·exact ⟨.inl q1,q2⟩
    ·subst q1; exact ⟨.inr rfl,hne⟩
   ·rintro ⟨q1|q1,q2⟩
    ·exact .inl ⟨q1,q2⟩
    ·exact .inr q1) (by
  rintro ⟨l,j⟩ ⟨hj,hm,hl⟩
  simp only at hj hm hl
  subst hj
  rw [List.take_length] at hm
  unfold zCk
  rw [if_neg (by simp)]
  exact ⟨_,rfl,hm,hl⟩) (a++b).length 0 (([]:List ByteArray),0) (by omega) ⟨rfl,by simp,by simp⟩
 rw [f]
 simp only [Option.bind_some]
 have hlen:(a++b).length ≤48:=by simp; omega
 obtain ⟨r,s1,s2,s3⟩:=zGa l2 (by omega)
 rw [s1]
 simp only [Option.bind_some]
 congr 1
 refine zCQ s2 h1 fun n=>?_
 rw [s3,g1,hmem]
 constructor
 ·exact fun h=>h.2
 ·intro hne
  refine ⟨?_,hne⟩
  rcases zAB c a n with ⟨q1,_⟩|⟨q1,q2⟩
  ·rcases zAB c b n with ⟨q3,_⟩|⟨q3,q4⟩
   ·exact absurd (q1.trans q3.symm) hne
   ·exact ⟨_,List.mem_append_right _ q3,q4⟩
  ·exact ⟨_,List.mem_append_left _ q1,q2⟩
def zCC (c:List Pack) (a b:List Int) (n:ByteArray):List Pack:=
 (if decide (zE8 c a n≥0) then [pat c (zE8 c a n)] else [])++(if decide (zE8 c b n≥0) then [pat c (zE8 c b n)] else [])
theorem zFn {c:List Pack} {a:List Int} (hp:Places c a) {n:ByteArray} (h:zE8 c a n≥0):0≤zE8 c a n∧zE8 c a n<c.length:=by
 rcases zAB c a n with ⟨q,_⟩|⟨q,_⟩
 ·omega
 ·exact hp _ q
theorem zJ7 (c:List Pack) (a b:List Int) (n:ByteArray):(zCC c a b n).length ≤2:=by
 unfold zCC
 cases decide (zE8 c a n≥0)<;>cases decide (zE8 c b n≥0)<;>simp
theorem zH8 {c:List Pack} {a b:List Int} {n:ByteArray} {p:Pack} (h:p∈zCC c a b n):∃k,(k∈a∨k∈b)∧tQ c k=n∧p=pat c k:=by
 unfold zCC at h
 rcases List.mem_append.1 h with h|h
 ·split at h
  ·rename_i q
   simp at q h
   rcases zAB c a n with ⟨q2,_⟩|⟨q2,q3⟩
   ·omega
   ·exact ⟨_,.inl q2,q3,h⟩
  ·simp at h
 ·split at h
  ·rename_i q
   simp at q h
   rcases zAB c b n with ⟨q2,_⟩|⟨q2,q3⟩
   ·omega
   ·exact ⟨_,.inr q2,q3,h⟩
  ·simp at h
theorem zI4 {c:List Pack} {a b:List Int} (h:Two c a b) (n:ByteArray):zBW c a b n=some (zCC c a b n)∧kD c a b n=some (zCC c a b n):=by
 have la:=h.la
 have lb:=h.lb
 have step:∀(l:List Pack) (x:Int) (i:Nat) (x5 x7:Int),l.length≤5→idx [x5,x7] (i:Int)=some x→i<2→(x≥0→0≤x∧x<c.length)→
   tY c x5 x7 (l,(i:Int))=some (.go (l++(if decide (x≥0) then [pat c x] else []),((i+1:Nat):Int))):=by
  intro l x i x5 x7 hl hx hi hp
  unfold tY
  rw [if_pos (by simp; omega)]
  simp only
  rw [hx]
  simp only [Option.bind_some]
  rw [zN (by omega)]
  by_cases hge:x≥0
  ·rw [if_pos (by simpa using hge),if_pos (by simpa using hge),(zA0 (hp hge)).1]
   simp only [Option.bind_some]
   rw [jU (by simp; omega) (by simp; omega)]
   rfl
  ·rw [if_neg (by simpa using hge),if_neg (by simpa using hge)]
   simp
 constructor
 ·unfold zBW zCC
  rw [(zFc h.pa (by omega) _).1,(zFc h.pb (by omega) _).1]
  simp only [Option.bind_some]
  by_cases h1:zE8 c a n≥0
  ·rw [if_pos (by simpa using h1),if_pos (by simpa using h1),(zA0 (zFn h.pa h1)).1]
   simp only [Option.bind_some]
   rw [jU (by simp) (by simp)]
   simp only [Option.bind_some,List.nil_append]
   by_cases h2:zE8 c b n≥0
   ·rw [if_pos (by simpa using h2),if_pos (by simpa using h2),(zA0 (zFn h.pb h2)).1]
    simp only [Option.bind_some]
    rw [jU (by simp) (by simp)]
    rfl
   ·rw [if_neg (by simpa using h2),if_neg (by simpa using h2)]
    rfl
  ·rw [if_neg (by simpa using h1),if_neg (by simpa using h1)]
   simp only [Option.bind_some,List.nil_append]
   by_cases h2:zE8 c b n≥0
   ·rw [if_pos (by simpa using h2),if_pos (by simpa using h2),(zA0 (zFn h.pb h2)).1]
    simp only [Option.bind_some]
    rw [jU (by simp) (by simp)]
    rfl
   ·rw [if_neg (by simpa using h2),if_neg (by simpa using h2)]
    rfl
 ·unfold kD zBE
  rw [(zFc h.pa (by omega) _).2,(zFc h.pb (by omega) _).2]
  simp only [Option.bind_some]
  rw [jH,show tY c (zE8 c a n) (zE8 c b n) (([]:List Pack),0)=_ from step [] _ 0 _ _ (by simp) rfl (by omega) (zFn h.pa)]
  simp only [Option.bind_some,Lp.elim]
  rw [jH,step _ _ 1 _ _ (by cases decide (zE8 c a n≥0)<;>simp) rfl (by omega) (zFn h.pb)]
  simp only [Option.bind_some,Lp.elim,List.nil_append]
  rw [jH,show ∀l,tY c (zE8 c a n) (zE8 c b n) (l,((1+1:Nat):Int))=some (.done l) from fun l=>by
   unfold tY
   rw [if_neg (by simp)]]
  rfl
theorem zIN {α:Type} (xs:List α) (f:α→ByteArray) {b:(List ByteArray×Int)→Option (Lp (List ByteArray×Int) (List ByteArray))}
  (hstep:∀(i:Nat) (hi:i<xs.length) (l:List ByteArray),b (l,(i:Int))=(uL l (f xs[i])).bind fun x=>some (Lp.go (x,w64 ((i:Int)+1)))) (hend:∀l,b (l,(xs.length:Int))=some (.done l)) (l0:List ByteArray) (hs:l0.Pairwise ltS) (hl:l0.length+xs.length≤1048576):
  ∃r,loop b (l0,0)=some r∧r.Pairwise ltS∧(∀x,x∈r↔x∈l0∨∃y∈xs,f y=x)∧r.length≤l0.length+xs.length:=by
 refine jW (b:=b) (fun i s=>s.2=(i:Int)∧s.1.Pairwise ltS∧(∀x,x∈s.1↔x∈l0∨∃y∈xs.take i,f y=x)∧s.1.length≤l0.length+i) xs.length _ (by
  rintro i ⟨l,j⟩ hi ⟨hj,h1,h2,h3⟩
  simp only at hj h1 h2 h3
  subst hj
  refine .inl ?_
  obtain ⟨r,e1,e2,e3,e4⟩:=zH0 l (f xs[i]) h1 (by omega)
  rw [hstep i hi,e1,zN (by omega)]
  refine ⟨_,rfl,rfl,e2,fun x=>?_,by simp only; omega⟩
  rw [e3,h2,List.take_succ_eq_append_getElem hi]
  constructor
  ·rintro ((q|⟨y,q1,q2⟩)|q)
   ·exact .inl q
   ·exact .inr ⟨y,List.mem_append_left _ q1,q2⟩
   ·exact .inr ⟨_,List.mem_append_right _ (by simp),q.symm⟩
  ·rintro (q|⟨y,q1,q2⟩)
   ·exact .inl (.inl q)
   ·rcases List.mem_append.1 q1 with q1|q1
    ·exact .inl (.inr ⟨y,q1,q2⟩)
    ·simp at q1; subst q1; exact .inr q2.symm) (by
  rintro ⟨l,j⟩ ⟨hj,h1,h2,h3⟩
  simp only at hj h1 h2 h3
  subst hj
  rw [List.take_length] at h2
  exact ⟨_,hend l,h1,h2,h3⟩) xs.length 0 (l0,0) (by omega) ⟨rfl,hs,by simp,by simp⟩
noncomputable def nmL (c:List Pack) (a b:List Int) (n:ByteArray):List ByteArray:=(kK c a b n).getD []
theorem zJI {c:List Pack} {a b:List Int} (h:Two c a b) (n:ByteArray):
  zBe c a b n=some (nmL c a b n)∧kK c a b n=some (nmL c a b n)∧(∀x,x∈nmL c a b n↔x=n∨∃p∈zCC c a b n,x∈p.Provides)∧(nmL c a b n).length ≤1048576:=by
 have hpr:∀p∈zCC c a b n,p.Provides.length≤4:=fun p hp=>by
  obtain ⟨k,_,_,rfl⟩:=zH8 hp
  exact h.sml.zOA k
 have hbl:=zJ7 c a b n
 obtain ⟨r,e,r1,r2,r3⟩:=jW (b:=zBZ (zCC c a b n)) (fun i s=>s.2=(i:Int)∧s.1.Pairwise ltS∧(∀x,x∈s.1↔x=n∨∃p∈(zCC c a b n).take i,x∈p.Provides)∧s.1.length≤1+4*i) (zCC c a b n).length
  (fun t=>t.Pairwise ltS∧(∀x,x∈t↔x=n∨∃p∈zCC c a b n,x∈p.Provides)∧t.length≤1+4*(zCC c a b n).length) (by
  rintro i ⟨l,j⟩ hi ⟨hj,h1,h2,h3⟩
  simp only at hj h1 h2 h3
  subst hj
  refine .inl ?_
  have hp4:=hpr _ (List.getElem_mem hi)
  obtain ⟨r,e1,e2,e3,e4⟩:=zIN (zCC c a b n)[i].Provides (fun x=>x) (b:=zCm (zCC c a b n) (l,(i:Int))) (by
   intro j hj l'
   unfold zCm
   simp only
   rw [zJ hi]
   simp only [Option.bind_some]
   rw [if_pos (by simp; omega),zJ hj]
   rfl) (by
   intro l'
   unfold zCm
   simp only
   rw [zJ hi]
   simp only [Option.bind_some]
   rw [if_neg (by simp)]) l h1 (by omega)
  unfold zBZ zCF
  rw [if_pos (by simp; omega),e1,zN (by omega)]
  refine ⟨_,rfl,rfl,e2,fun x=>?_,by simp only; omega⟩
  rw [e3,h2,List.take_succ_eq_append_getElem hi]
  constructor
  ·rintro ((q|⟨p,q1,q2⟩)|⟨y,q1,q2⟩)
   ·exact .inl q
   ·exact .inr ⟨p,List.mem_append_left _ q1,q2⟩
   ·subst q2; exact .inr ⟨_,List.mem_append_right _ (by simp),q1⟩
  ·rintro (q|⟨p,q1,q2⟩)
   ·exact .inl (.inl q)
   ·rcases List.mem_append.1 q1 with q1|q1
    ·exact .inl (.inr ⟨p,q1,q2⟩)
    ·simp at q1; subst q1; exact .inr ⟨_,q2,rfl⟩) (by
  rintro ⟨l,j⟩ ⟨hj,h1,h2,h3⟩
  simp only at hj h1 h2 h3
  subst hj
  rw [List.take_length] at h2
  unfold zBZ
  rw [if_neg (by simp)]
  exact ⟨_,rfl,h1,h2,h3⟩) (zCC c a b n).length 0 ([n],0) (by omega) ⟨rfl,by simp,by simp,by simp⟩
 obtain ⟨u,f,u1,u2⟩:=jW (b:=zCh (zCC c a b n)) (fun i s=>s.2=(i:Int)∧(∀x,x∈s.1↔x=n∨∃p∈(zCC c a b n).take i,x∈p.Provides)∧s.1.length≤1+4*i) (zCC c a b n).length
  (fun t=>(∀x,x∈t↔x=n∨∃p∈zCC c a b n,x∈p.Provides)∧t.length≤1+4*(zCC c a b n).length) (by
  rintro i ⟨l,j⟩ hi ⟨hj,h2,h3⟩
  simp only at hj h2 h3
  subst hj
  refine .inl ?_
  have hp4:=hpr _ (List.getElem_mem hi)
  unfold zCh
  rw [if_pos (by simp; omega),zJ hi]
  simp only [Option.bind_some]
  rw [jU (by omega) (by omega),zN (by omega)]
  refine ⟨_,rfl,rfl,fun x=>?_,by simp; omega⟩
  rw [List.mem_append,h2,List.take_succ_eq_append_getElem hi]
  constructor
  ·rintro ((q|⟨p,q1,q2⟩)|q)
   ·exact .inl q
   ·exact .inr ⟨p,List.mem_append_left _ q1,q2⟩
   ·exact .inr ⟨_,List.mem_append_right _ (by simp),q⟩
  ·rintro (q|⟨p,q1,q2⟩)
   ·exact .inl (.inl q)
   ·rcases List.mem_append.1 q1 with q1|q1
    ·exact .inl (.inr ⟨p,q1,q2⟩)
    ·simp at q1; subst q1; exact .inr q2) (by
  rintro ⟨l,j⟩ ⟨hj,h2,h3⟩
  simp only at hj h2 h3
  subst hj
  rw [List.take_length] at h2
  unfold zCh
  rw [if_neg (by simp)]
  exact ⟨_,rfl,h2,h3⟩) (zCC c a b n).length 0 ([n],0) (by omega) ⟨rfl,by simp,by simp⟩
 obtain ⟨w,w1,w2,w3⟩:=zGa u (by omega)
 have hw:w=r:=zCQ w2 r1 fun x=>by rw [w3,u1,r2]
 have hi:kK c a b n=some r:=by
  unfold kK zCO
  rw [(zI4 h n).2]
  simp only [Option.bind_some]
  rw [f]
  simp only [Option.bind_some]
  rw [w1,hw]
  rfl
 have hd:nmL c a b n=r:=by unfold nmL; rw [hi]; rfl
 rw [hd]
 refine ⟨?_,hi,r2,by omega⟩
 unfold zBe zCN
 rw [(zI4 h n).1]
 simp only [Option.bind_some]
 rw [e]
 rfl
noncomputable def mnL (p:Pack):List ByteArray:=(vL p).getD []
theorem zND {ls:List (List Term)} (hl:ls.length≤4) (h4:∀l∈ls,l.length≤4):vQ ls=some ls.flatten∧ls.flatten.length≤16:=by
 have hfl:∀i,i≤ls.length→(ls.take i).flatten.length ≤4*i:=by
  intro i
  induction i with
  |zero=>simp
  |succ i ih=>
   intro hi
   have:=ih (by omega)
   rw [List.take_succ_eq_append_getElem (by omega),List.flatten_append,List.length_append]
   have:=h4 _ (List.getElem_mem (show i<ls.length by omega))
   have h0:([ls[i]]:List (List Term)).flatten.length =ls[i].length :=by simp
   rw [h0]
   omega
 have hf:=hfl ls.length (Nat.le_refl _)
 rw [List.take_length] at hf
 refine ⟨?_,by omega⟩
 obtain ⟨t,e,ht⟩:=jW (b:=vZ ls) (fun i s=>s.2=(i:Int)∧s.1=((ls.take i).flatten.length :Int)) ls.length (fun t=>t=(ls.flatten.length:Int)) (by
  rintro i ⟨s,j⟩ hi ⟨hj,hs⟩
  simp only at hj hs
  subst hj hs
  have h1:=hfl i (by omega)
  have h2:=h4 _ (List.getElem_mem hi)
  refine .inl ?_
  unfold vZ
  rw [if_pos (by simp; omega),zJ hi]
  simp only [Option.bind_some]
  rw [zCA (x:=((ls.take i).flatten.length :Int)+(ls[i].length :Int)) (by omega) (by omega),if_neg (by simp; omega),zN (by omega)]
  refine ⟨_,rfl,rfl,?_⟩
  rw [List.take_succ_eq_append_getElem hi,List.flatten_append,List.length_append]
  simp) (by
  rintro ⟨s,j⟩ ⟨hj,hs⟩
  simp only at hj hs
  subst hj hs
  rw [List.take_length]
  unfold vZ
  rw [if_neg (by simp)]
  exact ⟨_,rfl,rfl⟩) ls.length 0 (0,0) (by omega) ⟨rfl,by simp⟩
 obtain ⟨u,f,hu⟩:=jW (b:=uD ls) (fun i s=>s.2=(i:Int)∧s.1=(ls.take i).flatten) ls.length (fun t=>t=ls.flatten) (by
  rintro i ⟨s,j⟩ hi ⟨hj,hs⟩
  simp only at hj hs
  subst hj hs
  have h1:=hfl i (by omega)
  have h2:=h4 _ (List.getElem_mem hi)
  refine .inl ?_
  unfold uD
  rw [if_pos (by simp; omega),zJ hi]
  simp only [Option.bind_some]
  rw [jU (by omega) (by omega),zN (by omega)]
  refine ⟨_,rfl,rfl,?_⟩
  rw [List.take_succ_eq_append_getElem hi,List.flatten_append]
  simp) (by
  rintro ⟨s,j⟩ ⟨hj,hs⟩
  simp only at hj hs
  subst hj hs
  rw [List.take_length]
  unfold uD
  rw [if_neg (by simp)]
  exact ⟨_,rfl,rfl⟩) ls.length 0 (([]:List Term),0) (by omega) ⟨rfl,by simp⟩
 subst ht hu
 unfold vQ uJ uG
 rw [e]
 simp only [Option.bind_some]
 rw [show kV (ls.flatten.length:Int)=some [] by unfold kV; rw [if_pos (by omega)]]
 simp only [Option.bind_some]
 rw [f]
 rfl
theorem zJU {p:Pack} (h1:p.Needs.length≤4) (h2:∀l∈p.Needs,l.length≤4) (h3:p.Bars.length≤4):
  kN p=some (mnL p)∧vL p=some (mnL p)∧(∀x,x∈mnL p↔(∃l∈p.Needs,∃t∈l,t.Name=x)∨∃t∈p.Bars,t.Name=x)∧(mnL p).length ≤1048576:=by
 obtain ⟨r,e,r1,r2,r3⟩:=jW (b:=zA2 p) (fun i s=>s.2=(i:Int)∧s.1.Pairwise ltS∧(∀x,x∈s.1↔∃l∈p.Needs.take i,∃t∈l,t.Name=x)∧s.1.length≤4*i) p.Needs.length
  (fun t=>t.Pairwise ltS∧(∀x,x∈t↔∃l∈p.Needs,∃t∈l,t.Name=x)∧t.length≤4*p.Needs.length) (by
  rintro i ⟨l,j⟩ hi ⟨hj,g1,g2,g3⟩
  simp only at hj g1 g2 g3
  subst hj
  refine .inl ?_
  have hp4:=h2 _ (List.getElem_mem hi)
  obtain ⟨r,e1,e2,e3,e4⟩:=zIN p.Needs[i] (fun x:Term=>x.Name) (b:=zAy p (l,(i:Int))) (by
   intro j hj l'
   unfold zAy
   simp only
   rw [zJ hi]
   simp only [Option.bind_some]
   rw [if_pos (by simp; omega),zJ hj]
   rfl) (by
   intro l'
   unfold zAy
   simp only
   rw [zJ hi]
   simp only [Option.bind_some]
   rw [if_neg (by simp)]) l g1 (by omega)
  unfold zA2 zAI
  rw [if_pos (by simp; omega),e1,zN (by omega)]
  refine ⟨_,rfl,rfl,e2,fun x=>?_,by simp only; omega⟩
  rw [e3,g2,List.take_succ_eq_append_getElem hi]
  constructor
  ·rintro (⟨l,q1,q2⟩|⟨y,q1,q2⟩)
   ·exact ⟨l,List.mem_append_left _ q1,q2⟩
   ·exact ⟨_,List.mem_append_right _ (by simp),y,q1,q2⟩
  ·rintro ⟨l,q1,q2⟩
   rcases List.mem_append.1 q1 with q1|q1
   ·exact .inl ⟨l,q1,q2⟩
   ·simp at q1; subst q1; exact .inr q2) (by
  rintro ⟨l,j⟩ ⟨hj,g1,g2,g3⟩
  simp only at hj g1 g2 g3
  subst hj
  rw [List.take_length] at g2
  unfold zA2
  rw [if_neg (by simp)]
  exact ⟨_,rfl,g1,g2,g3⟩) p.Needs.length 0 (([]:List ByteArray),0) (by omega) ⟨rfl,by simp,by simp,by simp⟩
 obtain ⟨r',e',s1,s2,s3⟩:=zIN p.Bars (fun x:Term=>x.Name) (b:=zA3 p) (by
  intro j hj l'
  unfold zA3
  rw [if_pos (by simp; omega),zJ hj]
  rfl) (by
  intro l'
  unfold zA3
  rw [if_neg (by simp)]) r r1 (by omega)
 obtain ⟨c1,c2⟩:=zND h1 h2
 have hlen:(p.Needs.flatten++p.Bars).length ≤20:=by rw [List.length_append]; omega
 obtain ⟨u,f,u1,u2⟩:=jW (b:=jV (p.Needs.flatten++p.Bars)) (fun i s=>s.2=(i:Int)∧s.1=((p.Needs.flatten++p.Bars).take i).map (·.Name)) (p.Needs.flatten++p.Bars).length
  (fun t=>t=(p.Needs.flatten++p.Bars).map (·.Name)∧t.length≤20) (by
  rintro i ⟨l,j⟩ hi ⟨hj,g⟩
  simp only at hj g
  subst hj g
  refine .inl ?_
  have hil:i<20:=by omega
  unfold jV
  rw [if_pos (by simp at hi ⊢; omega),zJ hi]
  simp only [Option.bind_some]
  have hle:(((p.Needs.flatten++p.Bars).take i).map (·.Name)).length ≤i:=by simp; omega
  rw [jU (by simp at hle ⊢; omega) (by simp at hle ⊢; omega),zN (by omega)]
  refine ⟨_,rfl,rfl,?_⟩
  rw [List.take_succ_eq_append_getElem hi,List.map_append]
  rfl) (by
  rintro ⟨l,j⟩ ⟨hj,g⟩
  simp only at hj g
  subst hj g
  rw [List.take_length]
  unfold jV
  rw [if_neg (by simp)]
  exact ⟨_,rfl,rfl,by rw [List.length_map]; exact hlen⟩) (p.Needs.flatten++p.Bars).length 0 (([]:List ByteArray),0) (by omega) ⟨rfl,by simp⟩
 obtain ⟨w,w1,w2,w3⟩:=zGa u (by omega)
 have hmem:∀x,x∈r'↔(∃l∈p.Needs,∃t∈l,t.Name=x)∨∃t∈p.Bars,t.Name=x:=fun x=>by rw [s2,r2]
 have hw:w=r':=zCQ w2 s1 fun x=>by
  rw [w3,u1,hmem,List.mem_map]
  constructor
  ·rintro ⟨t,q1,q2⟩
   rcases List.mem_append.1 q1 with q1|q1
   ·obtain ⟨l,q3,q4⟩:=List.mem_flatten.1 q1
    exact .inl ⟨l,q3,t,q4,q2⟩
   ·exact .inr ⟨t,q1,q2⟩
  ·rintro (⟨l,q1,t,q2,q3⟩|⟨t,q1,q2⟩)
   ·exact ⟨t,List.mem_append_left _ (List.mem_flatten.2 ⟨l,q1,q2⟩),q3⟩
   ·exact ⟨t,List.mem_append_right _ q1,q2⟩
 have hi:vL p=some r':=by
  unfold vL kQ
  rw [c1]
  simp only [Option.bind_some]
  rw [jU (by omega) (by omega)]
  simp only [Option.bind_some]
  rw [f]
  simp only [Option.bind_some]
  rw [w1,hw]
  rfl
 have hd:mnL p=r':=by unfold mnL; rw [hi]; rfl
 rw [hd]
 refine ⟨?_,hi,hmem,by omega⟩
 unfold kN zBc zAT
 rw [e]
 simp only [Option.bind_some]
 rw [e']
 rfl
theorem zGu {α:Type} (xs:List α) (q:α→Bool) {b:Int→Option (Lp Int (Fl Bool Unit))}
  (hstep:∀(i:Nat) (hi:i<xs.length),b (i:Int)=some (if q xs[i] then .done (.ret true) else .go ((i+1:Nat):Int))) (hend:b (xs.length:Int)=some (.done (.nxt ()))):
  loop b 0=some (if xs.any q then .ret true else .nxt ()):=by
 have:=wT xs (fun _ x=>if q x then some true else none) (b:=b) (by intro i hi; rw [hstep i hi]; cases q xs[i]<;>rfl) hend
 rw [this,zGc]
 cases xs.any q<;>rfl
theorem zIL {α:Type} (xs:List α) (q:α→Bool) {b:Int→Option (Lp Int (Fl Int Unit))}
  (hstep:∀(i:Nat) (hi:i<xs.length),b (i:Int)=some (if q xs[i] then .done (.ret (i:Int)) else .go ((i+1:Nat):Int))) (hend:b (xs.length:Int)=some (.done (.nxt ()))):
  ((loop b 0).bind (Fl.go some fun _=>some (-1))).bind (fun x=>some (decide (x≥0)))=some (xs.any q):=by
 have:=wT xs (fun j x=>if q x then some (j:Int) else none) (b:=b) (by intro i hi; rw [hstep i hi]; cases q xs[i]<;>rfl) hend
 have h:=zEy (zC0 q xs 0)
 rw [this,zBI,←h]
 cases vK (fun j x=>if q x then some (j:Int) else none) 0 xs<;>rfl
theorem zIt {m ns:List ByteArray} (hm:m.length≤1048576) (hn:ns.length≤1048576):
  zCP m ns=some (m.any (inN ns))∧zW m ns=some (m.any (inN ns)):=by
 constructor
 ·have k:=zGu m (inN ns) (b:=zCy m ns) (by
   intro i hi
   unfold zCy
   rw [if_pos (by simp; omega),zJ hi]
   simp only [Option.bind_some]
   rw [zEs _ _ hn,zN (by omega)]
   simp only [Option.bind_some]
   have:(ns.any fun x=>seq x m[i])=inN ns m[i]:=rfl
   rw [this]
   cases inN ns m[i]<;>rfl) (by
   unfold zCy
   rw [if_neg (by simp)])
  unfold zCP zDf
  rw [k]
  cases m.any (inN ns)<;>rfl
 ·exact zIL m (inN ns) (b:=yK m ns) (by
   intro i hi
   unfold yK uQ
   rw [if_pos (by simp; omega),zJ hi]
   simp only [Option.bind_some]
   rw [zDp _ _ hn,zN (by omega)]
   simp only [Option.bind_some]
   have:(ns.any fun x=>seq x m[i])=inN ns m[i]:=rfl
   rw [this]
   cases inN ns m[i]<;>rfl) (by
   unfold yK
   rw [if_neg (by simp)])
noncomputable def zL7 (c:List Pack) (a b:List Int) (n:ByteArray) (ns:List ByteArray):Bool:=(zCC c a b n).any fun p=>(mnL p).any (inN ns)
theorem zG5 {c:List Pack} {a b:List Int} (h:Two c a b) (n:ByteArray) {ns:List ByteArray} (hn:ns.length≤1048576):
  jK c a b n ns=some (zL7 c a b n ns)∧vN n ns c a b=some (zL7 c a b n ns):=by
 have hb:=zJ7 c a b n
 have hp:∀p∈zCC c a b n,kN p=some (mnL p)∧vL p=some (mnL p)∧(mnL p).length ≤1048576:=fun p hp=>by
  obtain ⟨k,_,_,rfl⟩:=zH8 hp
  obtain ⟨q1,q2,_,q3⟩:=zJU (h.sml.needs k) (h.sml.clause k) (h.sml.bars k)
  exact ⟨q1,q2,q3⟩
 constructor
 ·have k:=zGu (zCC c a b n) (fun p=>(mnL p).any (inN ns)) (b:=zDd ns (zCC c a b n)) (by
   intro i hi
   obtain ⟨q1,q2,q3⟩:=hp _ (List.getElem_mem hi)
   unfold zDd
   rw [if_pos (by simp; omega),zJ hi]
   simp only [Option.bind_some]
   rw [q1]
   simp only [Option.bind_some]
   rw [(zIt q3 hn).1,zN (by omega)]
   simp only [Option.bind_some]
   cases (mnL (zCC c a b n)[i]).any (inN ns)<;>rfl) (by
   unfold zDd
   rw [if_neg (by simp)])
  unfold jK zDE
  rw [(zI4 h n).1]
  simp only [Option.bind_some]
  rw [k]
  unfold zL7
  cases (zCC c a b n).any (fun p=>(mnL p).any (inN ns))<;>rfl
 ·have k:=zIL (zCC c a b n) (fun p=>(mnL p).any (inN ns)) (b:=yJ (zCC c a b n) ns) (by
   intro i hi
   obtain ⟨q1,q2,q3⟩:=hp _ (List.getElem_mem hi)
   unfold yJ jQ
   rw [if_pos (by simp; omega),zJ hi]
   simp only [Option.bind_some]
   rw [q2]
   simp only [Option.bind_some]
   rw [(zIt q3 hn).2,zN (by omega)]
   simp only [Option.bind_some]
   cases (mnL (zCC c a b n)[i]).any (inN ns)<;>rfl) (by
   unfold yJ
   rw [if_neg (by simp)])
  unfold vN
  rw [(zI4 h n).2]
  simp only [Option.bind_some]
  have e:zX (zCC c a b n) ns=some (zL7 c a b n ns):=k
  rw [e]
  rfl
def clB (ns:List ByteArray) (l:List Term):Bool:=l.any fun t=>inN ns t.Name
theorem zF3 {ns:List ByteArray} {l:List Term} (hn:ns.length≤1048576) (hl:l.length≤1048576):kC l ns=some (clB ns l)∧vM ns l=some (clB ns l):=by
 constructor
 ·have k:=zGu l (fun t=>inN ns t.Name) (b:=zB1 l ns) (by
   intro i hi
   unfold zB1
   rw [if_pos (by simp; omega),zJ hi]
   simp only [Option.bind_some]
   rw [zEs _ _ hn,zN (by omega)]
   simp only [Option.bind_some]
   have:(ns.any fun x=>seq x l[i].Name)=inN ns l[i].Name :=rfl
   rw [this]
   cases inN ns l[i].Name <;>rfl) (by
   unfold zB1
   rw [if_neg (by simp)])
  unfold kC zCr
  rw [k]
  unfold clB
  cases l.any (fun t=>inN ns t.Name)<;>rfl
 ·have k:=zIL l (fun t=>inN ns t.Name) (b:=yM l ns) (by
   intro i hi
   unfold yM jN
   rw [if_pos (by simp; omega),zJ hi]
   simp only [Option.bind_some]
   rw [zDp _ _ hn,zN (by omega)]
   simp only [Option.bind_some]
   have:(ns.any fun x=>seq x l[i].Name)=inN ns l[i].Name :=rfl
   rw [this]
   cases inN ns l[i].Name <;>rfl) (by
   unfold yM
   rw [if_neg (by simp)])
  unfold vM
  have e:zY l ns=some (clB ns l):=k
  rw [e]
  rfl
def zKS (c:List Pack) (a:List Int) (n1 n2:List ByteArray):Bool:=a.any fun k=>(pat c k).Needs.any fun l=>clB n1 l&&clB n2 l
theorem zK6 {c:List Pack} {a:List Int} (hs:Sml c) (hp:Places c a) (ha:a.length≤1048576) {n1 n2:List ByteArray} (h1:n1.length≤1048576) (h2:n2.length≤1048576):uS c a n1 n2=some (zKS c a n1 n2):=by
 have k:=zGu a (fun k=>(pat c k).Needs.any fun l=>clB n1 l&&clB n2 l) (b:=zA1 c a n1 n2) (by
  intro i hi
  have hk:=hp _ (List.getElem_mem hi)
  have hN:=hs.needs a[i]
  have k2:=zGu (pat c a[i]).Needs (fun l=>clB n1 l&&clB n2 l) (b:=zAw c a n1 n2 (i:Int) (pat c a[i])) (by
   intro j hj
   have hcl:=hs.clause a[i] _ (List.getElem_mem hj)
   unfold zAw
   rw [if_pos (by simp; omega),zJ hj]
   simp only [Option.bind_some]
   rw [(zF3 h1 (by omega)).1,(zF3 h2 (by omega)).1,zN (by omega)]
   simp only [Option.bind_some]
   cases clB n1 (pat c a[i]).Needs[j]<;>cases clB n2 (pat c a[i]).Needs[j]<;>rfl) (by
   unfold zAw
   rw [if_neg (by simp)])
  unfold zA1 zAP
  rw [if_pos (by simp; omega),zJ hi]
  simp only [Option.bind_some]
  rw [(zA0 hk).1]
  simp only [Option.bind_some]
  rw [k2,zN (by omega)]
  cases (pat c a[i]).Needs.any (fun l=>clB n1 l&&clB n2 l)<;>rfl) (by
  unfold zA1
  rw [if_neg (by simp)])
 unfold uS zAK
 rw [k]
 unfold zKS
 cases a.any (fun k=>(pat c k).Needs.any fun l=>clB n1 l&&clB n2 l)<;>rfl
theorem zMU {c:List Pack} {a:List Int} (hs:Sml c) (hp:Places c a) (ha:a.length≤1048576) {n1 n2:List ByteArray} (h1:n1.length≤1048576) (h2:n2.length≤1048576):loop (jP c n1 n2 a) 0=some (if zKS c a n1 n2 then .ret true else .nxt ()):=by
 exact zGu a (fun k=>(pat c k).Needs.any fun l=>clB n1 l&&clB n2 l) (b:=jP c n1 n2 a) (by
  intro i hi
  have hk:=hp _ (List.getElem_mem hi)
  have hN:=hs.needs a[i]
  have k2:=zGu (pat c a[i]).Needs (fun l=>clB n1 l&&clB n2 l) (b:=kY c n1 n2 a (i:Int) (pat c a[i])) (by
   intro j hj
   have hcl:=hs.clause a[i] _ (List.getElem_mem hj)
   unfold kY
   rw [if_pos (by simp; omega),zJ hj]
   simp only [Option.bind_some]
   rw [(zF3 h1 (by omega)).2,(zF3 h2 (by omega)).2,zN (by omega)]
   simp only [Option.bind_some]
   cases clB n1 (pat c a[i]).Needs[j]<;>cases clB n2 (pat c a[i]).Needs[j]<;>rfl) (by
   unfold kY
   rw [if_neg (by simp)])
  unfold jP zAt
  rw [if_pos (by simp; omega),zJ hi]
  simp only [Option.bind_some]
  rw [(zA0 hk).1]
  simp only [Option.bind_some]
  rw [k2,zN (by omega)]
  cases (pat c a[i]).Needs.any (fun l=>clB n1 l&&clB n2 l)<;>rfl) (by
  unfold jP
  rw [if_neg (by simp)])
noncomputable def jB (c:List Pack) (a b:List Int) (x y:ByteArray):Bool:=
 zL7 c a b x (nmL c a b y)||(zL7 c a b y (nmL c a b x)||(zKS c a (nmL c a b x) (nmL c a b y)||zKS c b (nmL c a b x) (nmL c a b y)))
theorem zHT {c:List Pack} {a b:List Int} (h:Two c a b) (x y:ByteArray):uZ c a b x y=some (jB c a b x y)∧wV c a b x y=some (jB c a b x y):=by
 obtain ⟨x1,x2,_,x3⟩:=zJI h x
 obtain ⟨y1,y2,_,y3⟩:=zJI h y
 have la:=h.la
 have lb:=h.lb
 constructor
 ·unfold uZ jB
  rw [x1,y1]
  simp only [Option.bind_some]
  rw [(zG5 h x y3).1,(zG5 h y x3).1,zK6 h.sml h.pa (by omega) x3 y3,zK6 h.sml h.pb (by omega) x3 y3]
  simp only [Option.bind_some]
  cases zL7 c a b x (nmL c a b y)<;>cases zL7 c a b y (nmL c a b x)<;>cases zKS c a (nmL c a b x) (nmL c a b y)<;>rfl
 ·unfold wV jB zAu
  rw [x2,y2]
  simp only [Option.bind_some]
  rw [(zG5 h x y3).2,(zG5 h y x3).2,zLF (by omega) (by omega)]
  simp only [Option.bind_some]
  rw [zMU h.sml (a:=a++b) (fun k hk=>by
   rcases List.mem_append.1 hk with q|q
   ·exact h.pa _ q
   ·exact h.pb _ q) (by simp; omega) x3 y3]
  have e:zKS c (a++b) (nmL c a b x) (nmL c a b y)=(zKS c a (nmL c a b x) (nmL c a b y)||zKS c b (nmL c a b x) (nmL c a b y)):=by
   unfold zKS; rw [List.any_append]
  rw [e]
  cases zL7 c a b x (nmL c a b y)<;>cases zL7 c a b y (nmL c a b x)<;>cases zKS c a (nmL c a b x) (nmL c a b y)<;>cases zKS c b (nmL c a b x) (nmL c a b y)<;>rfl
theorem zHp {c:List Pack} {a:List Int} (ga:GoodS c a) {k:Int} (hk:k∈a):zE8 c a (tQ c k)=k:=by
 rcases zAB c a (tQ c k) with ⟨_,q⟩|⟨q1,q2⟩
 ·exact absurd rfl (q k hk)
 ·exact ga.one q1 hk q2
theorem zGJ {c:List Pack} {a b:List Int} (h:Two c a b) (ga:GoodS c a) (gb:GoodS c b) {n:ByteArray} {p:Pack}:p∈zCC c a b n↔∃k,(k∈a∨k∈b)∧tQ c k=n∧p=pat c k:=by
 constructor
 ·exact zH8
 ·rintro ⟨k,hk|hk,rfl,rfl⟩
  ·have e:=zHp ga hk
   have:=h.pa k hk
   unfold zCC
   rw [e,if_pos (by simp; omega)]
   simp
  ·have e:=zHp gb hk
   have:=h.pb k hk
   unfold zCC
   rw [e]
   refine List.mem_append_right _ ?_
   rw [if_pos (by simp; omega)]
   simp
theorem zKt {c:List Pack} {a b:List Int} (h:Two c a b) (ga:GoodS c a) (gb:GoodS c b) {x n:ByteArray}:n∈nmL c a b x↔Nms c a b x n:=by
 rw [(zJI h x).2.2.1]
 unfold Nms
 constructor
 ·rintro (q|⟨p,hp,q⟩)
  ·exact .inl q
  ·obtain ⟨k,h1,h2,rfl⟩:=(zGJ h ga gb).1 hp
   exact .inr ⟨k,h1,h2,q⟩
 ·rintro (q|⟨k,h1,h2,q⟩)
  ·exact .inl q
  ·exact .inr ⟨_,(zGJ h ga gb).2 ⟨k,h1,h2,rfl⟩,q⟩
theorem zM5 {c:List Pack} {a b:List Int} (h:Two c a b) (ga:GoodS c a) (gb:GoodS c b) {x y:ByteArray}:zL7 c a b x (nmL c a b y)=true↔Tch c a b x y:=by
 unfold zL7 Tch
 rw [List.any_eq_true]
 constructor
 ·rintro ⟨p,hp,q⟩
  obtain ⟨k,h1,h2,rfl⟩:=(zGJ h ga gb).1 hp
  obtain ⟨n,q1,q2⟩:=List.any_eq_true.1 q
  refine ⟨k,h1,h2,n,?_,(zKt h ga gb).1 (zEf.1 q2)⟩
  exact ((zJU (h.sml.needs k) (h.sml.clause k) (h.sml.bars k)).2.2.1 n).1 q1
 ·rintro ⟨k,h1,h2,n,q1,q2⟩
  refine ⟨_,(zGJ h ga gb).2 ⟨k,h1,h2,rfl⟩,List.any_eq_true.2 ⟨n,?_,zEf.2 ((zKt h ga gb).2 q2)⟩⟩
  exact ((zJU (h.sml.needs k) (h.sml.clause k) (h.sml.bars k)).2.2.1 n).2 q1
theorem zKu {c:List Pack} {a b:List Int} (h:Two c a b) (ga:GoodS c a) (gb:GoodS c b) {x:ByteArray} {l:List Term}:clB (nmL c a b x) l=true↔∃t∈l,Nms c a b x t.Name:=by
 unfold clB
 rw [List.any_eq_true]
 constructor
 ·rintro ⟨t,h1,h2⟩; exact ⟨t,h1,(zKt h ga gb).1 (zEf.1 h2)⟩
 ·rintro ⟨t,h1,h2⟩; exact ⟨t,h1,zEf.2 ((zKt h ga gb).2 h2)⟩
theorem zKx {c:List Pack} {a b:List Int} (h:Two c a b) (ga:GoodS c a) (gb:GoodS c b) {x y:ByteArray} {s:List Int}:zKS c s (nmL c a b x) (nmL c a b y)=true↔∃k∈s,∃l∈(pat c k).Needs,(∃t∈l,Nms c a b x t.Name)∧∃t∈l,Nms c a b y t.Name:=by
 unfold zKS
 rw [List.any_eq_true]
 constructor
 ·rintro ⟨k,h1,h2⟩
  obtain ⟨l,h3,h4⟩:=List.any_eq_true.1 h2
  simp only [Bool.and_eq_true] at h4
  exact ⟨k,h1,l,h3,(zKu h ga gb).1 h4.1,(zKu h ga gb).1 h4.2⟩
 ·rintro ⟨k,h1,l,h3,h4,h5⟩
  exact ⟨k,h1,List.any_eq_true.2 ⟨l,h3,by simp only [Bool.and_eq_true]; exact ⟨(zKu h ga gb).2 h4,(zKu h ga gb).2 h5⟩⟩⟩
theorem zOW {c:List Pack} {a b:List Int} (h:Two c a b) (ga:GoodS c a) (gb:GoodS c b) {x y:ByteArray}:jB c a b x y=true↔Joi c a b x y:=by
 unfold jB Joi
 simp only [Bool.or_eq_true]
 rw [zM5 h ga gb,zM5 h ga gb,zKx h ga gb,zKx h ga gb]
 constructor
 ·rintro (q|q|⟨k,h1,q⟩|⟨k,h1,q⟩)
  ·exact .inl q
  ·exact .inr (.inl q)
  ·exact .inr (.inr ⟨k,.inl h1,q⟩)
  ·exact .inr (.inr ⟨k,.inr h1,q⟩)
 ·rintro (q|q|⟨k,h1|h1,q⟩)
  ·exact .inl q
  ·exact .inr (.inl q)
  ·exact .inr (.inr (.inl ⟨k,h1,q⟩))
  ·exact .inr (.inr (.inr ⟨k,h1,q⟩))
theorem zNY {c:List Pack} {a b:List Int} (h:Two c a b) (ga:GoodS c a) (gb:GoodS c b) {n:ByteArray}:zE8 c a n≠zE8 c b n↔Chg c a b n:=by
 constructor
 ·intro hne
  rcases zAB c a n with ⟨q1,q2⟩|⟨q1,q2⟩
  ·rcases zAB c b n with ⟨q3,_⟩|⟨q3,q4⟩
   ·exact absurd (q1.trans q3.symm) hne
   ·exact ⟨_,q4,.inr ⟨q3,fun h=>q2 _ h q4⟩⟩
  ·refine ⟨_,q2,.inl ⟨q1,fun hb=>hne ?_⟩⟩
   have:=zHp gb hb
   rw [q2] at this
   exact this.symm
 ·rintro ⟨k,rfl,⟨h1,h2⟩|⟨h1,h2⟩⟩ e
  ·rw [zHp ga h1] at e
   have:=h.pa k h1
   rcases zAB c b (tQ c k) with ⟨q1,q2⟩|⟨q1,q2⟩
   ·omega
   ·rw [←e] at q1; exact h2 q1
  ·rw [zHp gb h1] at e
   have:=h.pb k h1
   rcases zAB c a (tQ c k) with ⟨q1,q2⟩|⟨q1,q2⟩
   ·omega
   ·rw [e] at q1; exact h2 q1
inductive Rch (K:ByteArray→ByteArray→Bool) (L:List ByteArray) (h:ByteArray):ByteArray→Prop where
 |base:Rch K L h h
 |step {x y:ByteArray}:Rch K L h x→y∈L→K x y=true→Rch K L h y
noncomputable def zEX (K:ByteArray→ByteArray→Bool) (L:List ByteArray):List ByteArray:=L.filter fun y=> @decide (Rch K L (L.headD ByteArray.empty) y) (Classical.propDecidable _)
noncomputable def zF1 (K:ByteArray→ByteArray→Bool) (L:List ByteArray):List ByteArray:=L.filter fun y=> !(@decide (Rch K L (L.headD ByteArray.empty) y) (Classical.propDecidable _))
theorem Rch.mem {K:ByteArray→ByteArray→Bool} {L:List ByteArray} {h x:ByteArray} (hh:h∈L) (r:Rch K L h x):x∈L:=by
 cases r with
 |base=>exact hh
 |step _ h2 _=>exact h2
theorem zFT {K:ByteArray→ByteArray→Bool} {L:List ByteArray} {h:ByteArray} {t:List ByteArray} (e:L=h::t) {x:ByteArray}:x∈zEX K L↔Rch K L h x:=by
 unfold zEX
 rw [List.mem_filter]
 have:L.headD ByteArray.empty=h:=by rw [e]; rfl
 rw [this]
 simp only [decide_eq_true_eq]
 exact ⟨fun h=>h.2,fun r=>⟨r.mem (by rw [e]; simp),r⟩⟩
theorem zGH {K:ByteArray→ByteArray→Bool} {L:List ByteArray} {h:ByteArray} {t:List ByteArray} (e:L=h::t) {x:ByteArray}:x∈zF1 K L↔x∈L∧¬Rch K L h x:=by
 unfold zF1
 rw [List.mem_filter]
 have:L.headD ByteArray.empty=h:=by rw [e]; rfl
 rw [this]
 simp
theorem zKw {K:ByteArray→ByteArray→Bool} {L:List ByteArray} {h:ByteArray} {t:List ByteArray} (e:L=h::t):(zF1 K L).length <L.length:=by
 have hne:zF1 K L≠L:=fun he=>by
  have:h∈zF1 K L:=by rw [he,e]; simp
  exact ((zGH e).1 this).2 .base
 have hs:(zF1 K L).Sublist L:=List.filter_sublist
 rcases Nat.lt_or_ge (zF1 K L).length L.length with q|q
 ·exact q
 ·exact absurd (hs.eq_of_length (Nat.le_antisymm hs.length_le q)) hne
theorem zHM {P L:List ByteArray} (hP:P.Pairwise ltS) (hL:L.Pairwise ltS) (h:∀x∈P,x∈L):P.length≤L.length:=by
 have e:P=L.filter (inN P):=zCQ hP (hL.filter _) fun x=>by
  rw [List.mem_filter,zEf]
  exact ⟨fun hx=>⟨h x hx,hx⟩,fun hx=>hx.2⟩
 rw [e]
 exact List.length_filter_le _ _
theorem zLu {K:ByteArray→ByteArray→Bool} {c:List Pack} {a b:List Int} (hJ:∀x y,uZ c a b x y=some (K x y)) {L P:List ByteArray} {out:List (List ByteArray)} {s3:List ByteArray×Bool×Int} {i:Nat} (hi:i<L.length) (hs3:s3.2.2=(i:Int)) (hP:P.Pairwise ltS) (hl:P.length≤1000) (g:Bool):
  ∃t,loop (zCo c a b (L,out) s3) (P,g,0)=some t∧t.1.Pairwise ltS∧((t=(P,g)∧(L[i]∈P∨∀x∈P,K x L[i]=false))∨(L[i]∉P∧(∃x∈P,K x L[i]=true)∧t.2=true∧(∀z,z∈t.1↔z∈P∨z=L[i])∧t.1.length=P.length+1)):=by
 let Q:List ByteArray×Bool→Prop:=fun t=>t.1.Pairwise ltS∧((t=(P,g)∧(L[i]∈P∨∀x∈P,K x L[i]=false))∨(L[i]∉P∧(∃x∈P,K x L[i]=true)∧t.2=true∧(∀z,z∈t.1↔z∈P∨z=L[i])∧t.1.length=P.length+1))
 refine jW (b:=zCo c a b (L,out) s3)
  (fun k s=>s.2.2=(k:Int)∧k≤P.length+1∧((s.1=P∧s.2.1=g∧k≤P.length∧(∀(j:Nat) (hj:j<P.length),j<k→K P[j] L[i]=false))∨(s.1.Pairwise ltS∧L[i]∉P∧(∃x∈P,K x L[i]=true)∧s.2.1=true∧(∀z,z∈s.1↔z∈P∨z=L[i])∧s.1.length=P.length+1))) (P.length+2) Q (by
  rintro k ⟨p,g',k'⟩ hk ⟨hk',hle,hcase⟩
  simp only at hk' hcase
  subst hk'
  have hix:idx L s3.2.2=some L[i]:=by rw [hs3]; exact zJ hi
  unfold zCo
  simp only
  rcases hcase with ⟨rfl,rfl,hkp,hno⟩|⟨h1,h2,h3,h4,h5,h6⟩
  ·by_cases hkl:k<p.length
   ·rw [if_pos (by simp; omega),hix]
    simp only [Option.bind_some]
    rw [zEs _ _ (by omega)]
    have hq:(p.any fun x=>seq x L[i])=inN p L[i]:=rfl
    rw [hq]
    simp only [Option.bind_some]
    cases hin:inN p L[i]
    ·simp only [Bool.not_false,if_true]
     have hnin:L[i]∉p:=fun h=>by rw [zEf.2 h] at hin; cases hin
     rw [zJ hkl]
     simp only [Option.bind_some]
     rw [hJ]
     simp only [Option.bind_some]
     cases hj:K p[k] L[i]
     ·simp only [Bool.false_eq_true,if_false,Option.bind_some]
      rw [zN (by omega)]
      refine .inl ⟨_,rfl,rfl,by omega,.inl ⟨rfl,rfl,by omega,fun j hj' hjk=>?_⟩⟩
      rcases Nat.lt_succ_iff_lt_or_eq.1 hjk with q|q
      ·exact hno j hj' q
      ·subst q; exact hj
     ·simp only [if_true]
      obtain ⟨r,e1,e2,e3,e4⟩:=zH0 p L[i] hP (by omega)
      rw [e1]
      simp only [Option.bind_some]
      rw [zN (by omega)]
      refine .inl ⟨_,rfl,rfl,by omega,.inr ⟨e2,hnin,⟨_,List.getElem_mem hkl,hj⟩,rfl,e3,?_⟩⟩
      have hnd:∀{l:List ByteArray},l.Pairwise ltS→l.Nodup:=fun h=>h.imp fun h=>zJf h
      have:r.Perm (L[i]::p):=(List.perm_ext_iff_of_nodup (hnd e2) (List.nodup_cons.2 ⟨hnin,hnd hP⟩)).2 fun z=>by
       rw [e3,List.mem_cons]; exact Or.comm
      rw [this.length_eq]
      rfl
    ·simp only [Bool.not_true,Bool.false_eq_true,if_false]
     exact .inr ⟨_,rfl,hP,.inl ⟨rfl,.inl (zEf.1 hin)⟩⟩
   ·rw [if_neg (by simp; omega)]
    simp only [Option.bind_some,Bool.false_eq_true,if_false]
    refine .inr ⟨_,rfl,hP,.inl ⟨rfl,.inr fun x hx=>?_⟩⟩
    obtain ⟨j,hj,rfl⟩:=List.getElem_of_mem hx
    exact hno j hj (by omega)
  ·refine .inr ⟨(p,g'),?_,h1,.inr ⟨h2,h3,h4,h5,h6⟩⟩
   by_cases hkl:k<p.length
   ·rw [if_pos (by simp; omega),hix]
    simp only [Option.bind_some]
    rw [zEs _ _ (by omega)]
    have hq:(p.any fun x=>seq x L[i])=true:=by
     show inN p L[i]=true
     exact zEf.2 ((h5 _).2 (.inr rfl))
    rw [hq]
    simp
   ·rw [if_neg (by simp; omega)]
    simp) (by
  rintro ⟨p,g',k'⟩ ⟨hk',hle,_⟩
  omega) (P.length+2) 0 (P,g,0) (by omega) ⟨rfl,by omega,.inl ⟨rfl,rfl,by omega,fun j hj h=>by omega⟩⟩
theorem zLn {K:ByteArray→ByteArray→Bool} {c:List Pack} {a b:List Int} (hJ:∀x y,uZ c a b x y=some (K x y)) {L P:List ByteArray} {h:ByteArray} {out:List (List ByteArray)} (hL:L.Pairwise ltS) (hl:L.length≤500) (hP:P.Pairwise ltS) (hsub:∀x∈P,Rch K L h x) (hh:h∈L):
  ∃t,loop (zA7 c a b (L,out)) (P,false,0)=some t∧t.1.Pairwise ltS∧(∀x∈P,x∈t.1)∧(∀x∈t.1,Rch K L h x)∧(t.2=true→P.length<t.1.length)∧(t.2=false→t.1=P∧∀y∈L,y∈P∨∀x∈P,K x y=false):=by
 refine jW (b:=zA7 c a b (L,out))
  (fun i s=>s.2.2=(i:Int)∧s.1.Pairwise ltS∧(∀x∈P,x∈s.1)∧(∀x∈s.1,Rch K L h x)∧(s.2.1=true→P.length<s.1.length)∧P.length≤s.1.length∧(s.2.1=false→s.1=P∧∀y∈L.take i,y∈P∨∀x∈P,K x y=false)) L.length _ (by
  rintro i ⟨p,g,k⟩ hi ⟨hk,h1,h2,h3,h4,h5,h6⟩
  simp only at hk h1 h2 h3 h4 h5 h6
  subst hk
  refine .inl ?_
  have hpl:=zHM h1 hL (fun x hx=>(h3 x hx).mem hh)
  obtain ⟨⟨p',g'⟩,e,q1,q2⟩:=zLu hJ (out:=out) (s3:=(p,g,(i:Int))) hi rfl h1 (by omega) g
  unfold zA7 zCL
  rw [if_pos (by simp; omega)]
  simp only
  rw [e,zN (by omega)]
  refine ⟨_,rfl,rfl,q1,?_⟩
  simp only at q1 q2 ⊢
  rcases q2 with ⟨q3,q4⟩|⟨q3,⟨x0,q4,q5⟩,q6,q7,q8⟩
  ·cases q3
   refine ⟨h2,h3,h4,h5,fun hg=>?_⟩
   obtain ⟨rfl,h8⟩:=h6 hg
   refine ⟨rfl,fun y hy=>?_⟩
   rw [List.take_succ_eq_append_getElem hi] at hy
   rcases List.mem_append.1 hy with hy|hy
   ·exact h8 y hy
   ·simp at hy; subst hy; exact q4
  ·refine ⟨fun x hx=>(q7 x).2 (.inl (h2 x hx)),fun x hx=>?_,fun _=>by omega,by omega,fun hg=>?_⟩
   ·rcases (q7 x).1 hx with hx|rfl
    ·exact h3 x hx
    ·exact .step (h3 _ q4) (List.getElem_mem hi) q5
   ·rw [q6] at hg; cases hg) (by
  rintro ⟨p,g,k⟩ ⟨hk,h1,h2,h3,h4,h5,h6⟩
  simp only at hk h1 h2 h3 h4 h5 h6
  subst hk
  rw [List.take_length] at h6
  unfold zA7
  rw [if_neg (by simp)]
  exact ⟨_,rfl,h1,h2,h3,h4,h6⟩) L.length 0 (P,false,0) (by omega) ⟨rfl,hP,fun x hx=>hx,hsub,by simp,Nat.le_refl _,fun _=>⟨rfl,by simp⟩⟩
theorem zLK {K:ByteArray→ByteArray→Bool} {c:List Pack} {a b:List Int} (hJ:∀x y,uZ c a b x y=some (K x y)) {L:List ByteArray} {h:ByteArray} {t:List ByteArray} {out:List (List ByteArray)} (e0:L=h::t) (hL:L.Pairwise ltS) (hl:L.length≤500):zBF c a b (L,out) ([h],true)=some (zEX K L):=by
 have hh:h∈L:=by rw [e0]; simp
 obtain ⟨r,e,h1,h2,h3,h4⟩:=zHC (b:=zDN c a b (L,out)) (fun s=>s.1.Pairwise ltS∧h∈s.1∧(∀x∈s.1,Rch K L h x)∧(s.2=false→∀y∈L,y∈s.1∨∀x∈s.1,K x y=false))
  (fun s=>(L.length-s.1.length)*2+(if s.2 then 1 else 0)) (fun t=>t.Pairwise ltS∧h∈t∧(∀x∈t,Rch K L h x)∧∀y∈L,y∈t∨∀x∈t,K x y=false) (by
  rintro ⟨p,g⟩ ⟨g1,g2,g3,g4⟩
  simp only at g1 g2 g3 g4
  unfold zDN
  simp only
  cases g
  ·rw [if_neg (by simp)]
   exact .inr ⟨_,rfl,g1,g2,g3,g4 rfl⟩
  ·rw [if_pos rfl]
   obtain ⟨⟨p',g'⟩,e,q1,q2,q3,q4,q5⟩:=zLn hJ (out:=out) hL hl g1 g3 hh
   simp only at q1 q2 q3 q4 q5
   unfold zCZ
   rw [e]
   have hpl:=zHM q1 hL (fun x hx=>(q3 x hx).mem hh)
   refine .inl ⟨_,rfl,⟨q1,q2 _ g2,q3,fun hg=>?_⟩,?_⟩
   ·obtain ⟨rfl,q6⟩:=q5 hg
    exact q6
   ·simp only
    cases g'
    ·obtain ⟨rfl,_⟩:=q5 rfl
     simp
    ·have:=q4 rfl
     simp
     omega) _ ([h],true) (Nat.le_refl _) ⟨by simp,by simp,fun x hx=>by simp at hx; subst hx; exact .base,by simp⟩
 unfold zBF
 rw [e]
 congr 1
 refine zCQ h1 (hL.filter _) fun x=>?_
 show x∈r↔x∈zEX K L
 rw [zFT e0]
 refine ⟨h3 x,fun hr=>?_⟩
 induction hr with
 |base=>exact h2
 |step _ hy hj ih=>
  rcases h4 _ hy with q|q
  ·exact q
  ·rw [q _ ih] at hj; cases hj
theorem zMm {K:ByteArray→ByteArray→Bool} {c:List Pack} {a b:List Int} {L:List ByteArray} {h:ByteArray} {t:List ByteArray} {out:List (List ByteArray)} (e0:L=h::t) (hl:L.length≤500):zB2 c a b (L,out) (zEX K L) (([]:List ByteArray),0)=some (zF1 K L):=by
 have hpl:(zEX K L).length ≤L.length:=List.length_filter_le _ _
 obtain ⟨r,e,rfl⟩:=jW (b:=zCa c a b (L,out) (zEX K L)) (fun i s=>s.2=(i:Int)∧s.1=(L.take i).filter (fun y=> !(inN (zEX K L) y))) L.length (fun t=>t=L.filter (fun y=> !(inN (zEX K L) y))) (by
  rintro i ⟨l,k⟩ hi ⟨hk,hl'⟩
  simp only at hk hl'
  subst hk hl'
  refine .inl ?_
  have hlen:((L.take i).filter (fun y=> !(inN (zEX K L) y))).length ≤i:=by
   have:=List.length_filter_le (fun y=> !(inN (zEX K L) y)) (L.take i)
   simp at this ⊢
   omega
  unfold zCa
  simp only
  rw [if_pos (by simp; omega),zJ hi]
  simp only [Option.bind_some]
  rw [zEs _ _ (by omega),zN (by omega),jU (by simp at hlen ⊢; omega) (by simp at hlen ⊢; omega)]
  have hq:((zEX K L).any fun x=>seq x L[i])=inN (zEX K L) L[i]:=rfl
  rw [hq]
  simp only [Option.bind_some]
  refine ⟨((L.take (i+1)).filter (fun y=> !(inN (zEX K L) y)),((i+1:Nat):Int)),?_,rfl,rfl⟩
  rw [List.take_succ_eq_append_getElem hi,List.filter_append,List.filter_cons,List.filter_nil]
  cases inN (zEX K L) L[i]<;>simp) (by
  rintro ⟨l,k⟩ ⟨hk,hl'⟩
  simp only at hk hl'
  subst hk hl'
  rw [List.take_length]
  unfold zCa
  rw [if_neg (by simp)]
  exact ⟨_,rfl,rfl⟩) L.length 0 (([]:List ByteArray),0) (by omega) ⟨rfl,by simp⟩
 unfold zB2
 rw [e]
 congr 1
 unfold zF1
 refine List.filter_congr fun y hy=>?_
 have hd:L.headD ByteArray.empty=h:=by rw [e0]; rfl
 rw [hd]
 congr 1
 rw [Bool.eq_iff_iff,zEf,zFT e0]
 exact (@decide_eq_true_iff _ (Classical.propDecidable _)).symm
theorem zFK {K:ByteArray→ByteArray→Bool} {c:List Pack} {a b:List Int} (hJ:∀x y,uZ c a b x y=some (K x y)) {L:List ByteArray} {out:List (List ByteArray)} (hL:L.Pairwise ltS) (hl:L.length≤500) (ho:out.length≤500):zCl c a b (L,out)=some (if L=[] then .done out else .go (zF1 K L,out++[zEX K L])):=by
 cases L with
 |nil=>
  unfold zCl
  rw [if_neg (by simp),if_pos rfl]
 |cons h t=>
  unfold zCl
  rw [if_pos (by simp),if_neg (by simp)]
  simp only
  rw [show idx (h::t) 0=some h from rfl]
  simp only [Option.bind_some]
  rw [zLK hJ rfl hL hl]
  simp only [Option.bind_some]
  rw [zMm rfl hl]
  simp only [Option.bind_some]
  rw [jU (by simp; omega) (by simp; omega)]
  rfl
noncomputable def zDD (K:ByteArray→ByteArray→Bool):Nat→List ByteArray→List (List ByteArray)
 |0,_=>[]
 |n+1,L=>if L=[] then [] else zEX K L::zDD K n (zF1 K L)
theorem zEY {K:ByteArray→ByteArray→Bool} {L:List ByteArray} (h:L.Pairwise ltS):(zF1 K L).Pairwise ltS:=h.filter _
theorem zGU {K:ByteArray→ByteArray→Bool} {L:List ByteArray} (h:L.Pairwise ltS):(zEX K L).Pairwise ltS:=h.filter _
theorem zFP {K:ByteArray→ByteArray→Bool} {c:List Pack} {a b:List Int} (hJ:∀x y,uZ c a b x y=some (K x y)):∀(n:Nat) (L:List ByteArray) (out:List (List ByteArray)),L.Pairwise ltS→L.length≤n→L.length+out.length≤500→kH c a b (L,out)=some (out++zDD K n L)
 |0,L,out,h1,h2,h3=>by
  have:L=[]:=List.length_eq_zero_iff.1 (by omega)
  subst this
  unfold kH
  rw [jH,zFK hJ h1 (by simp) (by omega)]
  simp [zDD,Lp.elim]
 |n+1,L,out,h1,h2,h3=>by
  unfold kH
  rw [jH,zFK hJ h1 (by omega) (by omega)]
  cases L with
  |nil=>simp [zDD,Lp.elim]
  |cons h t=>
   have hlt:=zKw (K:=K) (L:=h::t) rfl
   have ih:=zFP hJ n (zF1 K (h::t)) (out++[zEX K (h::t)]) (zEY h1) (by omega) (by simp at h3 hlt ⊢; omega)
   rw [if_neg (by simp)]
   simp only [Option.bind_some,Lp.elim]
   unfold kH at ih
   rw [ih]
   simp [zDD]
theorem zG7 {α:Type} (q:α→Bool):∀l:List α,(l.filter q).length +(l.filter fun x=> !(q x)).length =l.length
 |[]=>rfl
 |x::l=>by
  have:=zG7 q l
  cases h:q x<;>simp [h]<;>omega
theorem ranged {K:ByteArray→ByteArray→Bool} {c:List Pack} {a b:List Int} (hK:∀x y,wV c a b x y=some (K x y)) {s1:List (List ByteArray)×List ByteArray} {left part:List ByteArray} {i:Nat} (hi:i<part.length) (hl:left.length+part.length≤500):
  zB9 c a b s1 (left,part,(i:Int)) (part,([]:List ByteArray),0)=some (part++left.filter (K part[i]),left.filter fun y=> !(K part[i] y)):=by
 obtain ⟨t,e,rfl⟩:=jW (b:=zCg c a b s1 (left,part,(i:Int))) (fun k s=>s=(part++(left.take k).filter (K part[i]),(left.take k).filter (fun y=> !(K part[i] y)),(k:Int))) left.length
  (fun t=>t=(part++left.filter (K part[i]),left.filter fun y=> !(K part[i] y))) (by
  rintro k s hk rfl
  have hf:=zG7 (K part[i]) (left.take k)
  have htk:(left.take k).length ≤k:=by simp; omega
  refine .inl ⟨(part++(left.take (k+1)).filter (K part[i]),(left.take (k+1)).filter (fun y=> !(K part[i] y)),((k+1:Nat):Int)),?_,rfl⟩
  unfold zCg
  simp only
  rw [if_pos (by simp; omega),zJ hk]
  simp only [Option.bind_some]
  have hix:idx (part++(left.take k).filter (K part[i])) (i:Int)=some part[i]:=by
   rw [zJ (by simp; omega),List.getElem_append_left hi]
  rw [hix]
  simp only [Option.bind_some]
  rw [hK,zN (by omega),jU (by simp at hf htk ⊢; omega) (by simp at hf htk ⊢; omega),jU (by simp at hf htk ⊢; omega) (by simp at hf htk ⊢; omega)]
  simp only [Option.bind_some]
  rw [List.take_succ_eq_append_getElem hk,List.filter_append,List.filter_append]
  cases hj:K part[i] left[k]<;>simp [hj]) (by
  rintro s rfl
  rw [List.take_length]
  unfold zCg
  rw [if_neg (by simp)]
  exact ⟨_,rfl,rfl⟩) left.length 0 (part,([]:List ByteArray),0) (by omega) (by simp)
 unfold zB9
 exact e
theorem zOc {K:ByteArray→ByteArray→Bool} {c:List Pack} {a b:List Int} (hK:∀x y,wV c a b x y=some (K x y)) {out:List (List ByteArray)} {h:ByteArray} {t:List ByteArray} (hl:t.length≤500):
  zBB c a b (out,h::t) t ([h],([]:List ByteArray),0)=some (h::t.filter (K h),t.filter fun y=> !(K h y)):=by
 obtain ⟨r,e,rfl⟩:=jW (b:=zCx c a b (out,h::t) t) (fun k s=>s=(h::(t.take k).filter (K h),(t.take k).filter (fun y=> !(K h y)),(k:Int))) t.length
  (fun r=>r=(h::t.filter (K h),t.filter fun y=> !(K h y))) (by
  rintro k s hk rfl
  have hf:=zG7 (K h) (t.take k)
  have htk:(t.take k).length ≤k:=by simp; omega
  refine .inl ⟨(h::(t.take (k+1)).filter (K h),(t.take (k+1)).filter (fun y=> !(K h y)),((k+1:Nat):Int)),?_,rfl⟩
  unfold zCx
  simp only
  have ho:zKC (h::t) 1 t.length (k:Int)=some t[k]:=by
   unfold zKC
   rw [if_pos (by omega),show (1:Int)+(k:Int)=((k+1:Nat):Int) by omega,zJ (by simp; omega)]
   simp
  rw [if_pos (by simp; omega),ho]
  simp only [Option.bind_some]
  rw [show idx (h::(t.take k).filter (K h)) 0=some h from rfl]
  simp only [Option.bind_some]
  rw [hK,zN (by omega),jU (by simp at hf htk ⊢; omega) (by simp at hf htk ⊢; omega),jU (by simp at hf htk ⊢; omega) (by simp at hf htk ⊢; omega)]
  simp only [Option.bind_some]
  rw [List.take_succ_eq_append_getElem hk,List.filter_append,List.filter_append]
  cases hj:K h t[k]<;>simp [hj]) (by
  rintro s rfl
  rw [List.take_length]
  unfold zCx
  rw [if_neg (by simp)]
  exact ⟨_,rfl,rfl⟩) t.length 0 ([h],([]:List ByteArray),0) (by omega) (by simp)
 unfold zBB
 exact e
theorem zLW {K:ByteArray→ByteArray→Bool} {c:List Pack} {a b:List Int} (hK:∀x y,wV c a b x y=some (K x y)) {s1:List (List ByteArray)×List ByteArray} {L:List ByteArray} {h:ByteArray} {t:List ByteArray} (e0:L=h::t) (hL:L.Pairwise ltS) (hl:L.length≤250):
  ∃r,zBC c a b s1 (t.filter (fun y=> !(K h y)),h::t.filter (K h),((1:Nat):Int))=some (zF1 K L,r)∧uO r=some (zEX K L):=by
 have nd:∀{l:List ByteArray},l.Pairwise ltS→l.Nodup:=fun h=>h.imp fun h=>zJf h
 have hLn:=nd hL
 have hLn':=hLn
 rw [e0,List.nodup_cons] at hLn'
 obtain ⟨⟨l,r⟩,e,q1,q2,q3⟩:=zHC (b:=zDK c a b s1)
  (fun s=>∃n:Nat,s.2.2=(n:Int)∧n≤s.2.1.length∧s.2.1.Nodup∧(∀x∈s.2.1,Rch K L h x)∧h∈s.2.1∧s.1.Sublist L∧(∀x,x∈L↔x∈s.2.1∨x∈s.1)∧(∀x∈s.2.1,x∉s.1)∧s.2.1.length+s.1.length=L.length∧∀(j:Nat) (hj:j<s.2.1.length),j<n→∀y∈s.1,K s.2.1[j] y=false)
  (fun s=>L.length+1-s.2.2.toNat) (fun t=>t.1=zF1 K L∧(∀x,x∈t.2↔Rch K L h x)∧t.2.length≤L.length) (by
  rintro ⟨left,part,i⟩ ⟨n,hi,h1,h2,h3,h4,h5,h6,h7,h8,h9⟩
  simp only at hi h1 h2 h3 h4 h5 h6 h7 h8 h9
  subst hi
  unfold zDK
  simp only
  by_cases hn:n<part.length
  ·rw [if_pos (by simp; omega),ranged hK hn (by omega),zN (by omega)]
   simp only [Option.bind_some]
   have hf:=zG7 (K part[n]) left
   refine .inl ⟨_,rfl,⟨n+1,rfl,by simp; omega,?_,?_,List.mem_append_left _ h4,(List.filter_sublist).trans h5,?_,?_,by simp at hf ⊢; omega,?_⟩,by simp; omega⟩
   ·refine List.nodup_append.2 ⟨h2,((h5.nodup hLn).filter _),fun x hx y hy e=>?_⟩
    subst e
    exact h7 x hx (List.mem_filter.1 hy).1
   ·intro x hx
    rcases List.mem_append.1 hx with hx|hx
    ·exact h3 x hx
    ·obtain ⟨q1,q2⟩:=List.mem_filter.1 hx
     exact .step (h3 _ (List.getElem_mem hn)) ((h6 x).2 (.inr q1)) q2
   ·intro x
    rw [h6,List.mem_append,List.mem_filter,List.mem_filter]
    cases hq:K part[n] x<;>simp
   ·intro x hx
    simp only [List.mem_filter,not_and]
    rcases List.mem_append.1 hx with hx|hx
    ·exact fun h=>absurd h (h7 x hx)
    ·intro _
     rw [(List.mem_filter.1 hx).2]
     simp
   ·intro j hj hjn y hy
    obtain ⟨q1,q2⟩:=List.mem_filter.1 hy
    rcases Nat.lt_succ_iff_lt_or_eq.1 hjn with q|q
    ·rw [List.getElem_append_left (by omega)]
     exact h9 j (by omega) q y q1
    ·subst q
     rw [List.getElem_append_left hn]
     simpa using q2
  ·rw [if_neg (by simp; omega)]
   refine .inr ⟨_,rfl,?_,?_,by simp only; omega⟩
   ·have hmem:∀x,x∈part↔Rch K L h x:=by
     intro x
     refine ⟨h3 x,fun hr=>?_⟩
     induction hr with
     |base=>exact h4
     |step _ hy hj ih=>
      rcases (h6 _).1 hy with q|q
      ·exact q
      ·obtain ⟨j,hjl,rfl⟩:=List.getElem_of_mem ih
       rw [h9 j hjl (by omega) _ q] at hj
       cases hj
    refine zCQ (hL.sublist h5) (zEY hL) fun x=>?_
    rw [zGH e0,←hmem,h6]
    constructor
    ·exact fun q=>⟨.inr q,fun q2=>h7 x q2 q⟩
    ·rintro ⟨q|q,q2⟩
     ·exact absurd q q2
     ·exact q
   ·intro x
    refine ⟨h3 x,fun hr=>?_⟩
    induction hr with
    |base=>exact h4
    |step _ hy hj ih=>
     rcases (h6 _).1 hy with q|q
     ·exact q
     ·obtain ⟨j,hjl,rfl⟩:=List.getElem_of_mem ih
      have hjl':j<part.length:=hjl
      rw [h9 j hjl' (by omega) _ q] at hj
      cases hj) _ (t.filter (fun y=> !(K h y)),h::t.filter (K h),((1:Nat):Int)) (Nat.le_refl _) (by
  have hf:=zG7 (K h) t
  refine ⟨1,rfl,by simp,?_,?_,by simp,?_,?_,?_,by rw [e0]; simp at hf ⊢; omega,?_⟩
  ·exact List.nodup_cons.2 ⟨fun hx=>hLn'.1 (List.mem_filter.1 hx).1,hLn'.2.filter _⟩
  ·intro x hx
   rcases List.mem_cons.1 hx with rfl|hx
   ·exact .base
   ·obtain ⟨q1,q2⟩:=List.mem_filter.1 hx
    exact .step .base (by rw [e0]; simp [q1]) q2
  ·rw [e0]
   exact (List.filter_sublist).cons _
  ·intro x
   rw [e0,List.mem_cons,List.mem_cons,List.mem_filter,List.mem_filter]
   cases hq:K h x<;>simp
  ·intro x hx
   simp only [List.mem_filter,not_and]
   rcases List.mem_cons.1 hx with rfl|hx
   ·exact fun h=>absurd h hLn'.1
   ·intro _
    rw [(List.mem_filter.1 hx).2]
    simp
  ·intro j hj hj1 y hy
   have:j=0:=by omega
   subst this
   have:=(List.mem_filter.1 hy).2
   simpa using this)
 simp only at q1 q2 q3
 subst q1
 refine ⟨r,by unfold zBC; exact e,?_⟩
 obtain ⟨w,w1,w2,w3⟩:=zGa r (by omega)
 rw [w1]
 congr 1
 exact zCQ w2 (zGU hL) fun x=>by rw [w3,q2,zFT e0]
theorem zFE {K:ByteArray→ByteArray→Bool} {c:List Pack} {a b:List Int} (hK:∀x y,wV c a b x y=some (K x y)) {L:List ByteArray} {out:List (List ByteArray)} (hL:L.Pairwise ltS) (hl:L.length≤250) (ho:out.length≤500):
  zCz c a b (out,L)=some (if L=[] then .done out else .go (out++[zEX K L],zF1 K L)):=by
 cases L with
 |nil=>
  unfold zCz
  rw [if_neg (by simp),if_pos rfl]
 |cons h t=>
  have e1:zF8 (h::t) 0 1=some [h]:=by
   have:=zFF (xs:=h::t) (l:=0) (h:=1) (by omega) (by simp)
   simpa using this
  have e2:zF8 (h::t) 1 ((h::t).length :Int)=some t:=by
   have:=zFF (xs:=h::t) (l:=1) (h:=(h::t).length) (by simp) (Nat.le_refl _)
   simpa using this
  unfold zCz
  rw [if_pos (by simp),if_neg (by simp)]
  simp only
  rw [e1]
  simp only [Option.bind_some]
  rw [e2]
  simp only [Option.bind_some]
  rw [if_pos (by simp),zOc hK (by simp at hl; omega)]
  simp only [Option.bind_some]
  rw [show w64 (0+1)=((1:Nat):Int) by rw [zCA (by omega) (by omega)]; rfl]
  obtain ⟨r,f1,f2⟩:=zLW hK (s1:=(out,h::t)) (L:=h::t) rfl hL hl
  rw [f1]
  simp only [Option.bind_some]
  rw [f2]
  simp only [Option.bind_some]
  rw [jU (by simp; omega) (by simp; omega)]
  rfl
theorem zFN {K:ByteArray→ByteArray→Bool} {c:List Pack} {a b:List Int} (hK:∀x y,wV c a b x y=some (K x y)):∀(n:Nat) (L:List ByteArray) (out:List (List ByteArray)),L.Pairwise ltS→L.length≤n→L.length+out.length≤250→kG c a b (out,L)=some (out++zDD K n L)
 |0,L,out,h1,h2,h3=>by
  have:L=[]:=List.length_eq_zero_iff.1 (by omega)
  subst this
  unfold kG
  rw [jH,zFE hK h1 (by simp) (by omega)]
  simp [zDD,Lp.elim]
 |n+1,L,out,h1,h2,h3=>by
  unfold kG
  rw [jH,zFE hK h1 (by omega) (by omega)]
  cases L with
  |nil=>simp [zDD,Lp.elim]
  |cons h t=>
   have hlt:=zKw (K:=K) (L:=h::t) rfl
   have ih:=zFN hK n (zF1 K (h::t)) (out++[zEX K (h::t)]) (zEY h1) (by omega) (by simp at h3 hlt ⊢; omega)
   rw [if_neg (by simp)]
   simp only [Option.bind_some,Lp.elim]
   unfold kG at ih
   rw [ih]
   simp [zDD]
noncomputable def chL (c:List Pack) (a b:List Int):List ByteArray:=(zAQ c a b).getD []
noncomputable def zGK (c:List Pack) (a b:List Int):List (List ByteArray):=zDD (jB c a b) 24 (chL c a b)
theorem zI2 {c:List Pack} {a b:List Int} (h:Two c a b):zAf c a b=some (chL c a b)∧zAQ c a b=some (chL c a b)∧(chL c a b).Pairwise ltS∧(∀n,n∈chL c a b↔zE8 c a n≠zE8 c b n)∧(chL c a b).length ≤24:=by
 obtain ⟨l,e1,e2,h1,h2,h3⟩:=zJi h
 have:chL c a b=l:=by unfold chL; rw [e2]; rfl
 rw [this]
 exact ⟨e1,e2,h1,h2,h3⟩
theorem zGQ {c:List Pack} {a b:List Int} (h:Two c a b):zAZ c a b=some (zGK c a b)∧zAJ c a b=some (zGK c a b):=by
 obtain ⟨e1,e2,h1,_,h3⟩:=zI2 h
 constructor
 ·unfold zAZ
  rw [e1]
  simp only [Option.bind_some]
  rw [zFP (fun x y=>(zHT h x y).1) 24 _ _ h1 h3 (by simp; omega)]
  rfl
 ·unfold zAJ
  rw [e2]
  simp only [Option.bind_some]
  rw [zFN (fun x y=>(zHT h x y).2) 24 _ _ h1 h3 (by simp; omega)]
  rfl
def cmpL:List ByteArray→List ByteArray→Int
 |[],[]=>0
 |[],_::_=> -1
 |_::_,[]=>1
 |x::xs,y::ys=>if slt x y then-1 else if seq x y then cmpL xs ys else 1
theorem zNU (x y:ByteArray):jA x y=some (if slt x y then-1 else if seq x y then 0 else 1):=by
 unfold jA cmp_isNaN_string
 simp only [zIA,Bool.not_true,Option.bind_some,Bool.false_eq_true,if_false]
 cases slt x y<;>cases seq x y<;>rfl
theorem zLv (a b:List ByteArray) (ha:a.length≤1048576) (hb:b.length≤1048576):vT a b=some (cmpL a b):=by
 obtain ⟨t,e,ht⟩:=jW (b:=uH a b) (fun i s=>s=(i:Int)∧i≤b.length∧cmpL a b=cmpL (a.drop i) (b.drop i)) a.length
  (fun t=>match t with| .ret r=>r=cmpL a b| .nxt _=>cmpL a b=if a.length<b.length then-1 else 0) (by
  rintro i s hi ⟨rfl,hib,hc⟩
  unfold uH
  rw [if_pos (by simp; omega),zJ hi]
  simp only [Option.bind_some]
  rw [List.drop_eq_getElem_cons hi] at hc
  by_cases hlt:i<b.length
  ·rw [if_neg (by simp; omega),zJ hlt]
   simp only [Option.bind_some]
   rw [zNU,zN (by omega)]
   rw [List.drop_eq_getElem_cons hlt] at hc
   simp only [cmpL] at hc
   simp only [Option.bind_some]
   cases h1:slt a[i] b[i]
   ·rw [h1] at hc
    cases h2:seq a[i] b[i]
    ·rw [h2] at hc
     exact .inr ⟨_,rfl,by simpa using hc.symm⟩
    ·rw [h2] at hc
     exact .inl ⟨_,rfl,rfl,by omega,by simpa using hc⟩
   ·rw [h1] at hc
    exact .inr ⟨_,rfl,by simpa using hc.symm⟩
  ·have:i=b.length:=by omega
   subst this
   rw [if_pos (by simp)]
   rw [List.drop_length] at hc
   exact .inr ⟨_,rfl,by simpa [cmpL] using hc.symm⟩) (by
  rintro s ⟨rfl,hib,hc⟩
  unfold uH
  rw [if_neg (by simp)]
  refine ⟨_,rfl,?_⟩
  rw [List.drop_length] at hc
  simp only
  rw [hc]
  by_cases hlt:a.length<b.length
  ·rw [if_pos hlt,List.drop_eq_getElem_cons hlt]
   rfl
  ·have:a.length=b.length:=by omega
   rw [if_neg hlt,this,List.drop_length]
   rfl) a.length 0 0 (by omega) ⟨rfl,by omega,by simp⟩
 unfold vT uX
 rw [e]
 cases t with
 |ret r=>simp only at ht; subst ht; rfl
 |nxt _=>
  simp only at ht
  rw [ht]
  simp only [Fl.go,Option.bind_some]
  by_cases hlt:a.length<b.length
  ·rw [if_pos (by simpa using hlt),if_pos hlt]
  ·rw [if_neg (by simpa using hlt),if_neg hlt]
theorem zJq:∀x:List ByteArray,cmpL x x=0
 |[]=>rfl
 |x::xs=>by simp [cmpL,zDt,zJq xs]
theorem zKK:∀x y:List ByteArray,cmpL y x= -cmpL x y
 |[],[]=>rfl
 |[],_::_=>rfl
 |_::_,[]=>rfl
 |x::xs,y::ys=>by
  simp only [cmpL]
  have ih:=zKK xs ys
  cases h1:slt x y
  ·cases h2:slt y x
   ·have e:x=y:=Classical.byContradiction fun hne=>by
     have:=zHV h2 (Ne.symm hne)
     rw [h1] at this
     cases this
    subst e
    simp [ih]
   ·have h3:seq x y=false:=by
     cases h3:seq x y with
     |false=>rfl
     |true=>rw [zEj.1 h3,zDt] at h2; cases h2
    simp [h3]
  ·rw [zJr h1]
   have h3:seq y x=false:=by
    cases h3:seq y x with
    |false=>rfl
    |true=>rw [zEj.1 h3,zDt] at h1; cases h1
   simp [h3]
theorem cmpL_eq:∀{x y:List ByteArray},cmpL x y=0→x=y
 |[],[],_=>rfl
 |[],_::_,h=>by simp [cmpL] at h
 |_::_,[],h=>by simp [cmpL] at h
 |x::xs,y::ys,h=>by
  simp only [cmpL] at h
  cases h1:slt x y
  ·rw [h1] at h
   cases h2:seq x y
   ·rw [h2] at h; simp at h
   ·rw [h2] at h
    have e:=cmpL_eq (x:=xs) (y:=ys) (by simpa using h)
    rw [zEj.1 h2,e]
  ·rw [h1] at h; simp at h
theorem zIp:∀{x y z:List ByteArray},cmpL x y<0→cmpL y z<0→cmpL x z<0
 |[],[],_,h,_=>by simp [cmpL] at h
 |[],_::_,[],_,h=>by simp [cmpL] at h
 |[],_::_,_::_,_,_=>by simp [cmpL]
 |_::_,[],_,h,_=>by simp [cmpL] at h
 |_::_,_::_,[],_,h=>by simp [cmpL] at h
 |x::xs,y::ys,z::zs,h,h'=>by
  simp only [cmpL] at h h' ⊢
  cases h1:slt x y
  ·rw [h1] at h
   cases h2:seq x y
   ·rw [h2] at h; simp at h
   ·rw [h2] at h
    have e:=zEj.1 h2
    subst e
    cases h3:slt x z
    ·rw [h3] at h'
     cases h4:seq x z
     ·rw [h4] at h'; simp at h'
     ·rw [h4] at h'
      simp at h h' ⊢
      exact zIp h h'
    ·simp
  ·cases h3:slt y z
   ·rw [h3] at h'
    cases h4:seq y z
    ·rw [h4] at h'; simp at h'
    ·rw [←zEj.1 h4,h1]; simp
   ·rw [zEU h1 h3]; simp
def zEW (x y:List ByteArray):Int:=if x.length≠y.length then (x.length:Int)-y.length else cmpL x y
theorem zNy (a b:List ByteArray) (ha:a.length≤1048576) (hb:b.length≤1048576):wO a b=some (zEW a b):=by
 unfold wO zEW
 by_cases h:a.length=b.length
 ·rw [if_neg (by simp [h]),zLv a b ha hb,if_neg (by simp [h])]
  rfl
 ·rw [if_pos (by simp; omega),if_pos h,zCA (by omega) (by omega)]
theorem zIx (x:List ByteArray):zEW x x=0:=by simp [zEW,zJq]
theorem zG8 (x y:List ByteArray):zEW y x= -zEW x y:=by
 unfold zEW
 by_cases h:x.length=y.length
 ·rw [if_neg (by simp [h]),if_neg (by simp [h]),zKK]
 ·rw [if_pos (fun e=>h e.symm),if_pos h]; omega
theorem zHi {x y:List ByteArray} (h:zEW x y=0):x=y:=by
 unfold zEW at h
 split at h
 ·omega
 ·exact cmpL_eq h
theorem zHI {x y z:List ByteArray} (h1:zEW x y<0) (h2:zEW y z<0):zEW x z<0:=by
 unfold zEW at*
 by_cases e1:x.length=y.length
 ·rw [if_neg (by simp [e1])] at h1
  by_cases e2:y.length=z.length
  ·rw [if_neg (by simp [e2])] at h2
   rw [if_neg (by simp [e1,e2])]
   exact zIp h1 h2
  ·rw [if_pos e2] at h2
   rw [if_pos (by omega)]
   omega
 ·rw [if_pos e1] at h1
  by_cases e2:y.length=z.length
  ·rw [if_pos (by omega)]
   omega
  ·rw [if_pos e2] at h2
   rw [if_pos (by omega)]
   omega
theorem zGo {x y:List ByteArray} (hx:x.length≤1048576) (hy:y.length≤1048576):ltC wO x y=decide (zEW x y<0):=by
 unfold ltC
 rw [zNy x y hx hy]
theorem zM0 {xs ys:List (List ByteArray)} (hx:∀x∈xs,x.length≤1048576) (hp:ys.Perm xs) (hs:ys.Pairwise (fun x y=>zEW x y<0)) (hl:xs.length<4611686018427387904):zIY wO xs=some ys:=by
 have hnd:ys.Nodup:=hs.imp fun h e=>by subst e; rw [zIx] at h; omega
 have hC:CmpOn wO xs:=by
  refine ⟨fun x h1 y h2=>by rw [zNy _ _ (hx x h1) (hx y h2)]; rfl,fun x h1=>?_,fun x h1 y h2 z h3 h4 h5=>?_,fun x h1 y h2 h3 h4=>?_,hp.nodup_iff.1 hnd,hl⟩
  ·rw [zGo (hx x h1) (hx x h1),zIx]; rfl
  ·rw [zGo (hx _ h1) (hx _ h2)] at h4
   rw [zGo (hx _ h2) (hx _ h3)] at h5
   rw [zGo (hx _ h1) (hx _ h3)]
   simp only [decide_eq_true_eq] at h4 h5 ⊢
   exact zHI h4 h5
  ·rw [zGo (hx _ h1) (hx _ h2)] at h3
   rw [zGo (hx _ h2) (hx _ h1)] at h4
   simp only [decide_eq_false_iff_not] at h3 h4
   have:=zG8 x y
   exact zHi (by omega)
 unfold zIY
 rw [if_pos hC]
 congr 1
 have hle:∀x∈xs,∀y∈xs,(!(ltC wO y x))=decide (zEW x y≤0):=fun x h1 y h2=>by
  rw [zGo (hx y h2) (hx x h1)]
  have:=zG8 x y
  rw [Bool.eq_iff_iff]
  simp only [Bool.not_eq_true',decide_eq_false_iff_not,decide_eq_true_eq]
  omega
 have hm:(xs.mergeSort fun x y=> !(ltC wO y x))=xs.mergeSort fun x y=>decide (zEW x y≤0):=by
  have:=List.map_mergeSort (f:=fun x:List ByteArray=>x) (r:=fun x y=> !(ltC wO y x)) (s:=fun x y=>decide (zEW x y≤0)) (l:=xs) hle
  simpa using this
 rw [hm]
 have hpw:=List.pairwise_mergeSort (le:=fun x y:List ByteArray=>decide (zEW x y≤0)) (by
  intro x y z h1 h2
  simp only [decide_eq_true_eq] at h1 h2 ⊢
  rcases Int.lt_or_eq_of_le h1 with q1|q1
  ·rcases Int.lt_or_eq_of_le h2 with q2|q2
   ·exact Int.le_of_lt (zHI q1 q2)
   ·rw [←zHi q2]; exact h1
  ·rw [zHi q1]; exact h2) (by
  intro x y
  have:=zG8 x y
  simp
  omega) xs
 refine List.Perm.eq_of_pairwise (le:=fun x y=>zEW x y≤0) ?_ (hpw.imp fun h=>by simpa using h) (hs.imp fun h=>Int.le_of_lt h) ((List.mergeSort_perm _ _).trans hp.symm)
 intro x y _ _ h1 h2
 have:=zG8 x y
 exact zHi (by omega)
def zPf (n m:Nat):List Nat:=(List.range n).filter fun j=>m / 2^(n-1-j)%2==1
def zKN (n m:Nat):List Nat:=(List.range n).filter fun j=>m / 2^j%2==1
def SLi (n:Nat):List (List Nat):=(List.range (n-1)).flatMap fun s=>((List.range (2^n-1)).map fun i=>zPf n (2^n-1-i)).filter fun p=>p.length==s+1
def ILi (n:Nat):List (List Nat):=(List.range (2^n-2)).map fun i=>zKN n (i+1)
def zPo:List Nat→List Nat→Int
 |[],[]=>0
 |[],_::_=> -1
 |_::_,[]=>1
 |x::xs,y::ys=>if x<y then-1 else if x=y then zPo xs ys else 1
def zNA (x y:List Nat):Int:=if x.length≠y.length then (x.length:Int)-y.length else zPo x y
theorem zK9:∀n:Fin 7,((SLi n.1).isPerm (ILi n.1))=true:=by decide+kernel
theorem zKW:∀n:Fin 7,(SLi n.1).Pairwise (fun x y=>zNA x y<0):=by decide+kernel
theorem zNz:∀n:Fin 7,∀p∈SLi n.1,p.Pairwise (· < ·)∧p≠[]∧∀j∈p,j<n.1:=by decide+kernel
def atN (ns:List ByteArray) (p:List Nat):List ByteArray:=p.map fun j=>ns.getD j ByteArray.empty
theorem zGd (ns:List ByteArray) (p:List Nat):(atN ns p).length =p.length:=by simp [atN]
theorem getD_at {ns:List ByteArray} {j:Nat} (h:j<ns.length):ns.getD j ByteArray.empty=ns[j]:=by simp [List.getD,h]
theorem zKO {ns:List ByteArray} (hs:ns.Pairwise ltS):∀{p q:List Nat},(∀j∈p,j<ns.length)→(∀j∈q,j<ns.length)→cmpL (atN ns p) (atN ns q)=zPo p q
 |[],[],_,_=>rfl
 |[],_::_,_,_=>rfl
 |_::_,[],_,_=>rfl
 |x::xs,y::ys,hp,hq=>by
  have hx:=hp x (by simp)
  have hy:=hq y (by simp)
  have ih:=zKO hs (p:=xs) (q:=ys) (fun j hj=>hp j (by simp [hj])) (fun j hj=>hq j (by simp [hj]))
  have hpw:=List.pairwise_iff_getElem.1 hs
  show cmpL (ns.getD x ByteArray.empty::atN ns xs) (ns.getD y ByteArray.empty::atN ns ys)=_
  rw [getD_at hx,getD_at hy]
  simp only [cmpL,zPo]
  rw [ih]
  rcases Nat.lt_trichotomy x y with h|h|h
  ·have h0:slt ns[x] ns[y]=true:=hpw x y hx hy h
   simp [h,h0]
  ·subst h
   simp [zDt]
  ·have h1:slt ns[y] ns[x]=true:=hpw y x hy hx h
   have h2:=zJr h1
   have h3:seq ns[x] ns[y]=false:=by
    cases h3:seq ns[x] ns[y] with
    |false=>rfl
    |true=>rw [zEj.1 h3,zDt] at h1; cases h1
   have n1:¬x<y:=by omega
   have n2:¬x=y:=by omega
   simp [h2,h3,n1,n2]
theorem zMq {ns:List ByteArray} (hs:ns.Pairwise ltS) {p q:List Nat} (hp:∀j∈p,j<ns.length) (hq:∀j∈q,j<ns.length):zEW (atN ns p) (atN ns q)=zNA p q:=by
 unfold zEW zNA
 rw [zGd,zGd,zKO hs hp hq]
theorem zMu {ns:List ByteArray} {p:List Nat} (hp:∀j∈p,j<ns.length):∀x∈atN ns p,x∈ns:=by
 intro x hx
 obtain ⟨j,hj,rfl⟩:=List.mem_map.1 hx
 rw [getD_at (hp j hj)]
 exact List.getElem_mem _
theorem zL4 {ns:List ByteArray} (hs:ns.Pairwise ltS) {p:List Nat} (hp:∀j∈p,j<ns.length) (hl:p.Pairwise (· < ·)):(atN ns p).Pairwise ltS:=by
 refine List.pairwise_map.2 (List.Pairwise.imp_of_mem (fun {x y} hx hy h=>?_) hl)
 rw [getD_at (hp x hx),getD_at (hp y hy)]
 exact List.pairwise_iff_getElem.1 hs x y (hp x hx) (hp y hy) h
theorem and1:∀m:Fin 64,zNW .i64 (m.1:Int) 1=((m.1%2:Nat):Int):=by decide+kernel
theorem zPZ:∀(m:Fin 64) (k:Fin 7),zOt .i64 (m.1:Int) (k.1:Int)=some ((m.1 / 2^k.1:Nat):Int):=by decide+kernel
theorem zQc:∀n:Fin 7,zOq .i64 1 (n.1:Int)=some ((2^n.1:Nat):Int):=by decide+kernel
theorem zO8 {m k:Nat} (hm:m<64) (hk:k<7):∃x,zOt .i64 (m:Int) (k:Int)=some x∧((zNW .i64 x 1)==1)=(m / 2^k%2==1):=by
 refine ⟨_,zPZ ⟨m,hm⟩ ⟨k,hk⟩,?_⟩
 have h64:m / 2^k<64:=Nat.lt_of_le_of_lt (Nat.div_le_self _ _) hm
 rw [and1 ⟨m / 2^k,h64⟩]
 rw [Bool.eq_iff_iff,beq_iff_eq,beq_iff_eq]
 simp only
 omega
theorem zLf {c:List Pack} {a b:List Int} {ns:List ByteArray} (hn:ns.length≤6) {m:Nat} (hm:m<64) (out:List (List ByteArray)):zAr c a b ns (out,(m:Int)) (([]:List ByteArray),0)=some (atN ns (zKN ns.length m)):=by
 obtain ⟨t,e,rfl⟩:=jW (b:=zAX c a b ns (out,(m:Int))) (fun i s=>s=(atN ns ((List.range i).filter fun j=>m / 2^j%2==1),(i:Int))) ns.length (fun t=>t=atN ns (zKN ns.length m)) (by
  rintro i s hi rfl
  refine .inl ⟨_,?_,rfl⟩
  obtain ⟨x,h1,h2⟩:=zO8 hm (k:=i) (by omega)
  have hlen:(atN ns ((List.range i).filter fun j=>m / 2^j%2==1)).length ≤i:=by
   rw [zGd]
   have:=List.length_filter_le (fun j=>m / 2^j%2==1) (List.range i)
   simpa using this
  unfold zAX
  simp only
  rw [if_pos (by simp; omega),zJ hi]
  simp only [Option.bind_some]
  rw [h1]
  simp only [Option.bind_some]
  rw [h2,zN (by omega),jU (by simp at hlen ⊢; omega) (by simp at hlen ⊢; omega)]
  simp only [Option.bind_some]
  rw [List.range_succ,List.filter_append,List.filter_cons,List.filter_nil]
  cases (m / 2^i%2==1)
  ·simp
  ·simp [atN,hi]) (by
  rintro s rfl
  unfold zAX
  rw [if_neg (by simp)]
  exact ⟨_,rfl,rfl⟩) ns.length 0 (([]:List ByteArray),0) (by omega) (by simp [atN])
 unfold zAr
 exact e
noncomputable def zIS (c:List Pack) (a b:List Int) (p:List ByteArray):Bool:=((zEq c (mvL c a b p)).length :Int)==0
def SLn (ns:List ByteArray):List (List ByteArray):=(SLi ns.length).map (atN ns)
noncomputable def nxB (c:List Pack) (a b:List Int) (ns:List ByteArray):List ByteArray:=if ns.length>6 then ns else ((SLn ns).find? (zIS c a b)).getD ns
theorem zIH {c:List Pack} {a b:List Int} (hC:Cat c) (h0:CF c=0) (h:Two c a b) {p:List ByteArray} (hp:p.length≤24):
  zAp c a b p=some (mvL c a b p)∧zAh p c a b=some (zIS c a b p)∧zAA p c a b=some (zIS c a b p):=by
 have hc:=h.sml.len
 have la:=h.la
 have lb:=h.lb
 have hm:=zGS c a b p
 have e:=zLt h.pa h.pb h.sa h.sb (by omega) (by omega) (show p.length≤1048576 by omega)
 have key:∀{o:Option Bool},o=(if decide ((p.length:Int)≤24) then (zAp c a b p).bind fun x6=>(wX c x6).bind fun x8=>some x8 else some false)→o=some (zIS c a b p):=by
  intro o ho
  have hS:(SF c (mvL c a b p)==0)=true:=by
   unfold SF
   rw [h0,zGB.2 ⟨zGh _ _ _ _,zGO _ _ _ _⟩]
   rfl
  rw [ho,if_pos (by simp; omega),e]
  simp only [Option.bind_some]
  rw [zEN hC (by omega) hS]
  unfold zPk zIS
  rw [hS]
  rfl
 exact ⟨e,key rfl,key rfl⟩
theorem zLd {c:List Pack} {a b:List Int} {ns:List ByteArray} (hn:ns.length≤6):zAk c a b ns (([]:List (List ByteArray)),1)=some ((ILi ns.length).map (atN ns)):=by
 have h64:2^ns.length≤64:=Nat.pow_le_pow_right (by omega) hn
 have h1:1≤2^ns.length:=Nat.one_le_two_pow
 have hw:(zOq .i64 1 (ns.length:Int))=some ((2^ns.length:Nat):Int):=zQc ⟨ns.length,by omega⟩
 have hw2:w64 (((2^ns.length:Nat):Int)-1)=((2^ns.length-1:Nat):Int):=by
  rw [zCA (by omega) (by omega)]; omega
 obtain ⟨t,e,rfl⟩:=jW (b:=zBa c a b ns) (fun i x=>x=(((List.range i).map fun i=>zKN ns.length (i+1)).map (atN ns),((i+1:Nat):Int))) (2^ns.length-2)
  (fun t=>t=(ILi ns.length).map (atN ns)) (by
  rintro i x hi rfl
  refine .inl ⟨_,?_,rfl⟩
  unfold zBa
  rw [hw]
  simp only [Option.bind_some]
  rw [hw2,if_pos (by simp; omega),zLf hn (by omega)]
  simp only [Option.bind_some]
  rw [jU (by simp; omega) (by simp; omega),zN (by omega)]
  simp only [Option.bind_some]
  rw [List.range_succ,List.map_append,List.map_append]
  rfl) (by
  rintro x rfl
  unfold zBa
  rw [hw]
  simp only [Option.bind_some]
  rw [hw2,if_neg (by simp; omega)]
  exact ⟨_,rfl,rfl⟩) (2^ns.length-2) 0 (([]:List (List ByteArray)),1) (by omega) (by simp)
 unfold zAk
 exact e
theorem zKj {ns:List ByteArray} (hn:ns.length≤6) (hs:ns.Pairwise ltS) {p:List ByteArray} (hp:p∈SLn ns):p≠[]∧p.Pairwise ltS∧(∀x∈p,x∈ns)∧p.length≤1048576:=by
 obtain ⟨q,hq,rfl⟩:=List.mem_map.1 hp
 obtain ⟨h1,h2,h3⟩:=zNz ⟨ns.length,by omega⟩ q hq
 have hsort:=zL4 hs h3 h1
 refine ⟨fun e=>?_,hsort,zMu h3,?_⟩
 ·have:=zGd ns q
  rw [e] at this
  exact h2 (List.length_eq_zero_iff.1 this.symm)
 ·have:=zHM hsort hs (zMu h3)
  omega
theorem zJ8 {ns:List ByteArray} (hn:ns.length≤6) (hs:ns.Pairwise ltS):zIY wO ((ILi ns.length).map (atN ns))=some (SLn ns):=by
 have hperm:(SLi ns.length).Perm (ILi ns.length):=List.isPerm_iff.1 (zK9 ⟨ns.length,by omega⟩)
 have hlt:=zNz ⟨ns.length,by omega⟩
 have hp:(SLn ns).Perm ((ILi ns.length).map (atN ns)):=hperm.map _
 refine zM0 (fun x hx=>(zKj hn hs (hp.mem_iff.2 hx)).2.2.2) hp ?_ ?_
 ·refine List.pairwise_map.2 (List.Pairwise.imp_of_mem (fun {x y} hx hy h=>?_) (zKW ⟨ns.length,by omega⟩))
  rw [zMq hs (hlt x hx).2.2 (hlt y hy).2.2]
  exact h
 ·unfold ILi
  have h64:2^ns.length≤64:=Nat.pow_le_pow_right (by omega) hn
  simp
  omega
theorem zJh {α:Type} {o:List (Option α)} {i:Nat} {x:α} (h:o[i]? =some (some x)):zOp o (i:Int)=some x:=by
 unfold zOp idx
 rw [if_pos (by omega),Int.toNat_natCast,h]
 rfl
theorem zJl {α:Type} (q:α→Bool):∀(xs:List α) (i:Nat),(vK (fun j x=>if q x then some (j:Int) else none) i xs=none∧xs.find? q=none)∨∃(k:Nat) (h:k<xs.length),vK (fun j x=>if q x then some (j:Int) else none) i xs=some ((i+k:Nat):Int)∧xs.find? q=some xs[k]
 |[],i=>.inl ⟨rfl,rfl⟩
 |x::xs,i=>by
  simp only [vK,List.find?_cons]
  cases hq:q x
  ·simp only [Bool.false_eq_true,if_false]
   rcases zJl q xs (i+1) with ⟨h1,h2⟩|⟨k,hk,h1,h2⟩
   ·exact .inl ⟨h1,h2⟩
   ·refine .inr ⟨k+1,by simp only [List.length_cons]; omega,?_,by simpa using h2⟩
    rw [h1,show i+1+k=i+(k+1) by omega]
  ·exact .inr ⟨0,by simp,by simp,by simp⟩
theorem zLT {c:List Pack} {a b:List Int} (hC:Cat c) (h0:CF c=0) (h:Two c a b) {ns:List ByteArray} (hn:ns.length≤24) (hs:ns.Pairwise ltS):zBl c a b ns=some (if zIS c a b ns then (nxB c a b ns,true) else (([]:List ByteArray),false)):=by
 unfold zBl nxB
 rw [(zIH hC h0 h hn).2.2]
 simp only [Option.bind_some]
 cases hf:zIS c a b ns
 ·simp
 simp only [Bool.not_true,Bool.false_eq_true,if_false,if_true]
 have hcl:vF ns=some ns:=by
  unfold vF
  rw [jU (by simp; omega) (by simp; omega)]
  rfl
 rw [hcl]
 by_cases h6:ns.length>6
 ·rw [if_pos (by simp; omega),if_pos h6]
  rfl
 rw [if_neg (by simp; omega),if_neg h6]
 have hn6:ns.length≤6:=by omega
 rw [zLd hn6]
 simp only [Option.bind_some]
 have hsm:=zJ8 hn6 hs
 unfold wR
 rw [hsm]
 simp only [Option.bind_some]
 have hlen:(SLn ns).length =((ILi ns.length).map (atN ns)).length :=by
  have hperm:(SLi ns.length).Perm (ILi ns.length):=List.isPerm_iff.1 (zK9 ⟨ns.length,by omega⟩)
  unfold SLn
  rw [List.length_map,List.length_map,hperm.length_eq]
 have hsmall:(SLn ns).length ≤64:=by
  rw [hlen]
  unfold ILi
  have h64:2^ns.length≤64:=Nat.pow_le_pow_right (by omega) hn6
  simp
  omega
 rw [zJL hlen]
 simp only [Option.bind_some]
 have key:=wT (SLn ns) (fun j x=>if zIS c a b x then some (j:Int) else none) (b:=yZ (SLn ns) c a b) (by
  intro i hi
  have hp:=(zKj hn6 hs (List.getElem_mem hi))
  have hp24:=zHM hp.2.1 hs hp.2.2.1
  unfold yZ
  rw [if_pos (by simp; omega),zJ hi]
  simp only [Option.bind_some]
  rw [(zIH hC h0 h (by omega)).2.1,zN (by omega)]
  simp only [Option.bind_some]
  cases zIS c a b (SLn ns)[i]<;>rfl) (by
  unfold yZ
  rw [if_neg (by simp)])
 unfold yR xI
 rw [key,zBI]
 rcases zJl (zIS c a b) (SLn ns) 0 with ⟨q1,q2⟩|⟨k,hk,q1,q2⟩
 ·rw [q1,q2]
  rfl
 ·rw [q1,q2]
  simp only [Option.bind_some]
  rw [if_pos (by simp),Nat.zero_add,zJ hk]
  simp only [Option.bind_some]
  rw [zJh (x:=(SLn ns)[k]) (by simp [hk])]
  rfl
theorem zKI {c:List Pack} {a b:List Int} {ns:List ByteArray} (hs:ns.Pairwise ltS) (hne:ns≠[]):nxB c a b ns≠[]∧(nxB c a b ns).Pairwise ltS∧(∀x∈nxB c a b ns,x∈ns)∧(zIS c a b ns=true→zIS c a b (nxB c a b ns)=true):=by
 unfold nxB
 split
 ·exact ⟨hne,hs,fun x hx=>hx,fun h=>h⟩
 ·rename_i h6
  cases hf:(SLn ns).find? (zIS c a b) with
  |none=>exact ⟨hne,hs,fun x hx=>hx,fun h=>h⟩
  |some p=>
   obtain ⟨h1,h2,h3,_⟩:=zKj (by omega) hs (List.mem_of_find?_eq_some hf)
   exact ⟨h1,h2,h3,fun _=>List.find?_some hf⟩
noncomputable def wN (c:List Pack) (b:List Int):Nat→List Int→List ByteArray→List (List ByteArray)×List (List Int)×List Int
 |0,a,_=>([],[],a)
 |n+1,a,l=>if l=[] then ([],[],a) else
  (nxB c a b l::(wN c b n (mvL c a b (nxB c a b l)) (l.filter fun y=> !(inN (nxB c a b l) y))).1,
   mvL c a b (nxB c a b l)::(wN c b n (mvL c a b (nxB c a b l)) (l.filter fun y=> !(inN (nxB c a b l) y))).2.1,
   (wN c b n (mvL c a b (nxB c a b l)) (l.filter fun y=> !(inN (nxB c a b l) y))).2.2)
theorem Two.move {c:List Pack} {a b:List Int} (h:Two c a b) (p:List ByteArray):Two c (mvL c a b p) b:=by
 have:=zGS c a b p
 have:=h.sml.len
 exact ⟨h.sml,zGO _ _ _ _,h.pb,zGh _ _ _ _,h.sb,by omega,h.lb⟩
theorem zLZ {l B:List ByteArray} (h1:B≠[]) (h2:∀x∈B,x∈l):(l.filter fun y=> !(inN B y)).length <l.length:=by
 rcases Nat.lt_or_ge (l.filter fun y=> !(inN B y)).length l.length with q|q
 ·exact q
 ·exfalso
  have e:=(List.filter_sublist (l:=l) (p:=fun y=> !(inN B y))).eq_of_length (Nat.le_antisymm (List.length_filter_le _ _) q)
  obtain ⟨x,hx⟩:=List.exists_mem_of_ne_nil B h1
  have:x∈l.filter fun y=> !(inN B y):=by rw [e]; exact h2 x hx
  have:=(List.mem_filter.1 this).2
  rw [zEf.2 hx] at this
  cases this
theorem zJ4 {c:List Pack} {a b:List Int} (pa:Places c a) (pb:Places c b) {n1 n2:List ByteArray} (h:∀x,x∈n1↔x∈n2):mvL c a b n1=mvL c a b n2:=by
 refine zFv (zGh _ _ _ _) (zGh _ _ _ _) fun k=>?_
 rw [zFw pa pb,zFw pa pb,h]
theorem zK4 {l B:List ByteArray} (h2:∀x∈B,x∈l) (x:ByteArray):x∈B++(l.filter fun y=> !(inN B y))↔x∈l:=by
 rw [List.mem_append,List.mem_filter]
 constructor
 ·rintro (q|q)
  ·exact h2 x q
  ·exact q.1
 ·intro q
  by_cases hx:x∈B
  ·exact .inl hx
  ·refine .inr ⟨q,?_⟩
   cases hi:inN B x with
   |false=>rfl
   |true=>exact absurd (zEf.1 hi) hx
theorem zOy {c:List Pack} {b:List Int}:∀(n:Nat) (a:List Int) (l:List ByteArray),Two c a b→l.Pairwise ltS→l.length≤n→(wN c b n a l).2.2=mvL c a b l∧(wN c b n a l).1.length ≤l.length∧(wN c b n a l).2.1.length ≤l.length
 |0,a,l,h,hs,hn=>by
  have:l=[]:=List.length_eq_zero_iff.1 (by omega)
  subst this
  exact ⟨(zJR h.pa h.pb h.sa).symm,by simp [wN],by simp [wN]⟩
 |n+1,a,l,h,hs,hn=>by
  unfold wN
  by_cases he:l=[]
  ·subst he
   rw [if_pos rfl]
   exact ⟨(zJR h.pa h.pb h.sa).symm,by simp,by simp⟩
  ·rw [if_neg he]
   obtain ⟨g1,g2,g3,_⟩:=zKI (c:=c) (a:=a) (b:=b) hs he
   have hlt:=zLZ g1 g3
   obtain ⟨i1,i2,i3⟩:=zOy (c:=c) (b:=b) n _ _ (h.move (nxB c a b l)) (hs.filter (fun y=> !(inN (nxB c a b l) y))) (by omega)
   refine ⟨?_,by simp only [List.length_cons]; omega,by simp only [List.length_cons]; omega⟩
   simp only
   rw [i1,zI7 h.pa h.pb]
   exact zJ4 h.pa h.pb (zK4 g3)
theorem zMV {l B:List ByteArray} (hl:l.length≤24) (hB:B.length≤24):xL l B=some (l.filter fun y=> !(inN B y)):=by
 have h1:∀x,zEp x B=some (inN B x):=fun x=>by
  unfold zEp
  rw [zDp _ _ (by omega)]
  rfl
 exact zKe (fun x=>inN B x) l ByteArray.empty (by omega) (b1:=wB l B) (b2:=xU B) (by
  intro i hi
  unfold wB
  rw [if_pos (by simp; omega),zJ hi]
  simp only [Option.bind_some,h1]
  rw [zN (by omega)]
  split<;>rfl) (by
  unfold wB
  rw [if_neg (by simp)]) (by
  intro xs i j hj hij hl hm
  unfold xU
  simp only
  rw [if_pos (by simp; omega),zJ hj]
  simp only [Option.bind_some,h1]
  rw [zJ (show i<xs.length by omega),zN (show j<_ by omega),zN (show i<_ by omega)]
  cases inN B xs[j]<;>simp) (by
  intro xs i hl
  unfold xU
  rw [if_neg (by simp)])
theorem zHF {c:List Pack} {b:List Int} (hC:Cat c) (h0:CF c=0) {x7:List (List ByteArray)} {s1:List (List ByteArray)×List (List Int)×List Int×List (Option (List ByteArray))×Int}:∀(n:Nat) (a:List Int) (l:List ByteArray) (bs:List (List ByteArray)) (ss:List (List Int)),Two c a b→l.Pairwise ltS→l.length≤n→l.length≤24→bs.length+l.length≤1000→ss.length+l.length≤1000→zIS c a b l=true→
  zDg c b x7 s1 (bs,ss,a,l)=some (.nxt (bs++(wN c b n a l).1,ss++(wN c b n a l).2.1,(wN c b n a l).2.2))
 |n,a,l,bs,ss,h,hs,hn,h24,hb,hss,hfit=>by
  unfold zDg
  rw [jH]
  by_cases he:l=[]
  ·subst he
   have e:zDn c b x7 s1 (bs,ss,a,([]:List ByteArray))=some (.done (.nxt (bs,ss,a))):=by
    unfold zDn
    rw [if_neg (by simp)]
   rw [e]
   cases n<;>simp [wN,Lp.elim]
  ·cases n with
   |zero=>exact absurd (List.length_eq_zero_iff.1 (by omega)) he
   |succ n=>
    obtain ⟨g1,g2,g3,_⟩:=zKI (c:=c) (a:=a) (b:=b) hs he
    have hlt:=zLZ g1 g3
    have hBl:=zHM g2 hs g3
    have hpos:0<l.length:=List.length_pos_iff.2 he
    have hml:=zGS c a b (nxB c a b l)
    have hc24:=h.sml.len
    have e:zDn c b x7 s1 (bs,ss,a,l)=some (.go (bs++[nxB c a b l],ss++[mvL c a b (nxB c a b l)],mvL c a b (nxB c a b l),l.filter fun y=> !(inN (nxB c a b l) y))):=by
     unfold zDn
     simp only
     rw [if_pos (by simp; omega),zLT hC h0 h h24 hs,hfit]
     simp only [Option.bind_some,if_true,Bool.not_true,Bool.false_eq_true,if_false]
     rw [(zIH hC h0 h (by omega)).1,zMV h24 (by omega)]
     simp only [Option.bind_some]
     rw [jU (by simp; omega) (by simp; omega),show wH (mvL c a b (nxB c a b l))=some (mvL c a b (nxB c a b l)) by
      unfold wH
      rw [jU (by simp; omega) (by simp; omega)]
      rfl]
     simp only [Option.bind_some]
     rw [jU (by simp; omega) (by simp; omega)]
     rfl
    have hfit':zIS c (mvL c a b (nxB c a b l)) b (l.filter fun y=> !(inN (nxB c a b l) y))=true:=by
     rw [←hfit]
     unfold zIS
     rw [zI7 h.pa h.pb,zJ4 h.pa h.pb (zK4 g3)]
    have ih:=zHF hC h0 (x7:=x7) (s1:=s1) n (mvL c a b (nxB c a b l)) (l.filter fun y=> !(inN (nxB c a b l) y)) (bs++[nxB c a b l]) (ss++[mvL c a b (nxB c a b l)]) (h.move _) (hs.filter _) (by omega) (by omega) (by simp only [List.length_append,List.length_singleton]; omega) (by simp only [List.length_append,List.length_singleton]; omega) hfit'
    unfold zDg at ih
    rw [e]
    simp only [Option.bind_some,Lp.elim]
    rw [ih]
    conv=>rhs; unfold wN
    rw [if_neg he]
    simp
 termination_by n=>n
theorem zJ5 (K:ByteArray→ByteArray→Bool):∀(n:Nat) (L:List ByteArray),(zDD K n L).length ≤n∧∀P∈zDD K n L,P.length≤L.length
 |0,L=>by simp [zDD]
 |n+1,L=>by
  unfold zDD
  split
  ·simp
  ·obtain ⟨h1,h2⟩:=zJ5 K n (zF1 K L)
   refine ⟨by simp; omega,fun P hP=>?_⟩
   rcases List.mem_cons.1 hP with rfl|hP
   ·exact List.length_filter_le _ _
   ·exact Nat.le_trans (h2 P hP) (List.length_filter_le _ _)
theorem zHa {K:ByteArray→ByteArray→Bool}:∀(n:Nat) {L:List ByteArray},L.Pairwise ltS→∀P∈zDD K n L,P.Pairwise ltS
 |0,L,_=>by simp [zDD]
 |n+1,L,h=>by
  unfold zDD
  split
  ·simp
  ·intro P hP
   rcases List.mem_cons.1 hP with rfl|hP
   ·exact zGU h
   ·exact zHa n (zEY h) P hP
theorem zHB {K:ByteArray→ByteArray→Bool}:∀(n p:Nat) {L:List ByteArray},∀x∈((zDD K n L).take p).flatten,∀y∈L,y∉((zDD K n L).take p).flatten →K x y=false
 |0,p,L,x,hx,_,_,_=>by simp [zDD] at hx
 |n+1,0,L,x,hx,_,_,_=>by simp at hx
 |n+1,p+1,L,x,hx,y,hy,hn=>by
  unfold zDD at hx hn
  split at hx
  ·simp at hx
  ·rename_i he
   rw [if_neg he] at hn
   cases L with
   |nil=>exact absurd rfl he
   |cons h t=>
    simp only [List.take_succ_cons,List.flatten_cons,List.mem_append,not_or] at hx hn
    have hyr:y∈zF1 K (h::t):=(zGH rfl).2 ⟨hy,fun q=>hn.1 ((zFT rfl).2 q)⟩
    rcases hx with hx|hx
    ·cases hk:K x y with
     |false=>rfl
     |true=>exact absurd (.step ((zFT rfl).1 hx) hy hk) ((zGH rfl).1 hyr).2
    ·exact zHB n p x hx y hyr hn.2
noncomputable def stp (c:List Pack) (b:List Int) (ps:List (List ByteArray)) (a:List Int):List (List ByteArray)×List (List Int)×List Int:=
 ps.foldl (fun s P=>(s.1++(wN c b P.length s.2.2 P).1,s.2.1++(wN c b P.length s.2.2 P).2.1,(wN c b P.length s.2.2 P).2.2)) ([],[],a)
theorem zKR (c:List Pack) (b:List Int) (ps:List (List ByteArray)) (P:List ByteArray) (a:List Int):
  stp c b (ps++[P]) a=((stp c b ps a).1++(wN c b P.length (stp c b ps a).2.2 P).1,(stp c b ps a).2.1++(wN c b P.length (stp c b ps a).2.2 P).2.1,(wN c b P.length (stp c b ps a).2.2 P).2.2):=by
 unfold stp
 rw [List.foldl_append]
 rfl
theorem zN0 {c:List Pack} {a b:List Int} (h:Two c a b) {ps:List (List ByteArray)} (hs:∀P∈ps,P.Pairwise ltS) (hl:∀P∈ps,P.length≤24):∀i,i≤ps.length→(stp c b (ps.take i) a).2.2=mvL c a b (ps.take i).flatten ∧(stp c b (ps.take i) a).1.length ≤24*i∧(stp c b (ps.take i) a).2.1.length ≤24*i
 |0,_=>⟨by simp only [List.take_zero,List.flatten_nil]; exact (zJR h.pa h.pb h.sa).symm,by simp [stp],by simp [stp]⟩
 |i+1,hi=>by
  obtain ⟨h1,h2,h3⟩:=zN0 h hs hl i (by omega)
  have hP:=List.getElem_mem (show i<ps.length by omega)
  have h24:=hl _ hP
  rw [List.take_succ_eq_append_getElem (by omega),zKR,h1]
  obtain ⟨w1,w2,w3⟩:=zOy (c:=c) (b:=b) ps[i].length (mvL c a b (ps.take i).flatten) ps[i] (h.move _) (hs _ hP) (Nat.le_refl _)
  refine ⟨?_,by simp only [List.length_append]; omega,by simp only [List.length_append]; omega⟩
  simp only
  rw [w1,zI7 h.pa h.pb]
  congr 1
  rw [List.flatten_append]
  simp only [List.flatten_cons,List.flatten_nil,List.append_nil]
theorem zOa {c:List Pack} {a b:List Int} (h:Two c a b) (ga:GoodS c a) (gb:GoodS c b) {n:ByteArray}:n∈chL c a b↔Chg c a b n:=by
 rw [(zI2 h).2.2.2.1,zNY h ga gb]
theorem zOb {c:List Pack} {a b:List Int} (h:Two c a b) (ga:GoodS c a) (gb:GoodS c b) (p:Nat):GoodS c (mvL c a b ((zGK c a b).take p).flatten):=by
 refine apart (U:=fun n=>n∈((zGK c a b).take p).flatten) ga gb (fun k=>zFw h.pa h.pb) ((zGh _ _ _ _).imp fun h=>by omega) ?_
 intro x y _ hy hx hny hj
 have:=zHB (K:=jB c a b) 24 p x hx y ((zOa h ga gb).2 hy) hny
 rw [(zOW h ga gb).2 hj] at this
 cases this
theorem zMi {c:List Pack} {a b:List Int} (h:Two c a b):(zGK c a b).length ≤24∧(∀P∈zGK c a b,P.length≤24)∧∀P∈zGK c a b,P.Pairwise ltS:=by
 obtain ⟨_,_,h1,_,h2⟩:=zI2 h
 obtain ⟨q1,q2⟩:=zJ5 (jB c a b) 24 (chL c a b)
 exact ⟨q1,fun P hP=>Nat.le_trans (q2 P hP) h2,zHa 24 h1⟩
noncomputable def zNn (c:List Pack) (a b:List Int):List (List ByteArray)×List (List Int):=((stp c b (zGK c a b) a).1,(stp c b (zGK c a b) a).2.1)
theorem zLR {c:List Pack} {a b:List Int} (hC:Cat c) (h0:CF c=0) (h:Two c a b) (ga:GoodS c a) (gb:GoodS c b):
  zDZ c b (zGK c a b) (([]:List (List ByteArray)),([]:List (List Int)),a,(zGK c a b).map some,0)=some (.nxt (zNn c a b)):=by
 obtain ⟨s1,s2,s3⟩:=zMi h
 obtain ⟨t,e,rfl⟩:=jW (b:=zEi c b (zGK c a b)) (fun i s=>s.1=(stp c b ((zGK c a b).take i) a).1∧s.2.1=(stp c b ((zGK c a b).take i) a).2.1∧s.2.2.1=(stp c b ((zGK c a b).take i) a).2.2∧s.2.2.2.2=(i:Int)∧∀(j:Nat) (hj:j< (zGK c a b).length),i≤j→s.2.2.2.1[j]? =some (some (zGK c a b)[j])) (zGK c a b).length (fun t=>t= .nxt (zNn c a b)) (by
  rintro i ⟨bs,ss,at_,o,k⟩ hi ⟨e1,e2,e3,e4,e5⟩
  simp only at e1 e2 e3 e4 e5
  subst e1 e2 e3 e4
  obtain ⟨q1,q2,q3⟩:=zN0 h s3 s2 i (by omega)
  have hP:=List.getElem_mem hi
  have h24:=s2 _ hP
  have hfit:zIS c (stp c b ((zGK c a b).take i) a).2.2 b (zGK c a b)[i]=true:=by
   have hg:=zOb h ga gb (i+1)
   rw [q1]
   unfold zIS
   rw [zI7 h.pa h.pb]
   have:((zGK c a b).take i).flatten ++(zGK c a b)[i]=((zGK c a b).take (i+1)).flatten :=by
    rw [List.take_succ_eq_append_getElem hi,List.flatten_append]
    simp only [List.flatten_cons,List.flatten_nil,List.append_nil]
   rw [this,(zGn _ _).2 hg]
   rfl
  let S:=stp c b ((zGK c a b).take i) a
  let W:=wN c b (zGK c a b)[i].length S.2.2 (zGK c a b)[i]
  refine .inl ⟨(S.1++W.1,S.2.1++W.2.1,W.2.2,o.set (i:Int).toNat none,((i+1:Nat):Int)),?_,?_⟩
  ·unfold zEi
   simp only
   rw [if_pos (by simp; omega),zJh (e5 i hi (Nat.le_refl _))]
   simp only [Option.bind_some]
   rw [zHF hC h0 _ _ _ _ _ (by rw [q1]; exact h.move _) (s3 _ hP) (Nat.le_refl _) h24 (by omega) (by omega) hfit,zN (by omega)]
   rfl
  ·rw [List.take_succ_eq_append_getElem hi,zKR]
   refine ⟨rfl,rfl,rfl,rfl,fun j hj hij=>?_⟩
   simp only
   rw [List.getElem?_set_ne (by simp; omega)]
   exact e5 j hj (by omega)) (by
  rintro ⟨bs,ss,at_,o,k⟩ ⟨e1,e2,e3,e4,e5⟩
  simp only at e1 e2 e3 e4 e5
  subst e1 e2 e3 e4
  rw [List.take_length]
  unfold zEi
  rw [if_neg (by simp)]
  exact ⟨_,rfl,rfl⟩) (zGK c a b).length 0 (([]:List (List ByteArray)),([]:List (List Int)),a,(zGK c a b).map some,0) (by omega) ⟨by simp [stp],by simp [stp],by simp [stp],rfl,fun j hj _=>by simp [hj]⟩
 unfold zDZ
 exact e
def zNe (c:List Pack) (a b:List Int):Int:=if SF c a !=0 then SF c a else if SF c b !=0 then SF c b else if ((zEq c a).length :Int)==0&&((zEq c b).length :Int)==0 then 0 else 1
theorem zKB {c:List Pack} {a b:List Int} (hC:Cat c) (ha:a.length≤1048576) (hb:b.length≤1048576):kM c a b=some (zNe c a b)∧zBS c a b=some (zNe c a b):=by
 unfold kM zBS zNe
 rw [zGD hC ha,zGD hC hb,zGC hC ha,zGC hC hb]
 simp only [Option.bind_some]
 rw [zLo]
 simp only [Option.bind_some]
 by_cases h1:SF c a=0
 ·by_cases h2:SF c b=0
  ·have ea:(SF c a==0)=true:=by simp [h1]
   have eb:(SF c b==0)=true:=by simp [h2]
   rw [zH2 hC (zHK ea) ha,zH2 hC (zHK eb) hb,zEN hC ha ea,zEN hC hb eb]
   unfold zPk
   rw [ea,eb,h1,h2]
   simp only [Option.bind_some]
   cases ((zEq c a).length :Int)==0<;>cases ((zEq c b).length :Int)==0<;>simp
  ·simp [h1,h2]
 ·simp [h1]
theorem zKH {c:List Pack} {a b:List Int} (hC:Cat c) (h:zNe c a b=0):CF c=0∧Two c a b∧GoodS c a∧GoodS c b:=by
 unfold zNe at h
 split at h
 ·rename_i q; simp [h] at q
 rename_i h1
 split at h
 ·rename_i q; simp [h] at q
 rename_i h2
 split at h
 ·rename_i h3
  have e1:SF c a=0:=by simpa using h1
  have e2:SF c b=0:=by simpa using h2
  simp only [Bool.and_eq_true,beq_iff_eq] at h3
  have key:∀s,SF c s=0→CF c=0∧zM9 c s=true:=by
   intro s hs
   unfold SF at hs
   split at hs
   ·rename_i q; rw [hs] at q; cases q
   ·rename_i q
    refine ⟨by simpa using q,?_⟩
    split at hs
    ·assumption
    ·cases hs
  obtain ⟨k1,k2⟩:=key a e1
  obtain ⟨_,k3⟩:=key b e2
  have hs:=Sml.of k1
  obtain ⟨a1,a2⟩:=zGB.1 k2
  obtain ⟨b1,b2⟩:=zGB.1 k3
  have la:=zKJ k2
  have lb:=zKJ k3
  have:=hs.len
  refine ⟨k1,⟨hs,a2,b2,a1,b1,by omega,by omega⟩,(zGn _ _).1 (List.length_eq_zero_iff.1 (by omega)),(zGn _ _).1 (List.length_eq_zero_iff.1 (by omega))⟩
 ·cases h
theorem zLU {c:List Pack} {a b:List Int} (hC:Cat c) (ha:a.length≤1048576) (hb:b.length≤1048576):
  zDb c a b=some (if zNe c a b=0 then ((zNn c a b).1,(zNn c a b).2,0) else (([]:List (List ByteArray)),([]:List (List Int)),zNe c a b)):=by
 unfold zDb
 rw [(zKB hC ha hb).2]
 simp only [Option.bind_some]
 by_cases h:zNe c a b=0
 ·obtain ⟨h0,hT,ga,gb⟩:=zKH hC h
  rw [if_neg (by simp [h]),if_pos h,(zGQ hT).2]
  simp only [Option.bind_some]
  rw [zLR hC h0 hT ga gb]
  rfl
 ·rw [if_pos (by simpa using h),if_neg h]
theorem zHR {c:List Pack} {a b:List Int} (hC:Cat c) (ha:a.length≤1048576) (hb:b.length≤1048576):∃r,jD c a b=some r∧jC c a b=some r:=by
 unfold jD jC
 rw [(zKB hC ha hb).1,zLU hC ha hb]
 simp only [Option.bind_some]
 by_cases h:zNe c a b=0
 ·obtain ⟨h0,hT,ga,gb⟩:=zKH hC h
  rw [if_neg (by simp [h]),if_pos h,(zGQ hT).1,(zGQ hT).2]
  exact ⟨_,rfl,rfl⟩
 ·rw [if_pos (by simpa using h),if_neg h]
  simp only
  rw [if_pos (by simpa using h)]
  exact ⟨_,rfl,rfl⟩
theorem zHo (a1:(List Pack)) (a2:(List Int)) (a3:(List Int)) (k0:a1.length≤maxLen∧∀y1∈a1,Pack.ok y1) (k1:a2.length≤maxLen∧∀y1∈a2,IntKind.i64.min≤y1∧y1≤IntKind.i64.max) (k2:a3.length≤maxLen∧∀y1∈a3,IntKind.i64.min≤y1∧y1≤IntKind.i64.max) (s0:(a1.length≤1048576∧∀y0∈a1,Pack.sm 1048576 y0)) (s1:(a2.length≤1048576∧∀y0∈a2,True)) (s2:(a3.length≤1048576∧∀y0∈a3,True)):∃r,jD a1 a2 a3=some r∧jC a1 a2 a3=some r∧(wQ.sm 1049600 r):=by
 have hz:∀q v:Int,wQ.sm 1049600 {Code:=q,Value:=v}:=fun q v=>by simp [wQ.sm]
 obtain ⟨r,e1,e2⟩:=zHR s0 s1.1 s2.1
 exact ⟨r,e1,e2,hz _ _⟩
theorem zF9 (a1:(List Pack)) (a2:(List Int)) (a3:(List Int)) (k0:a1.length≤maxLen∧∀y1∈a1,Pack.ok y1) (k1:a2.length≤maxLen∧∀y1∈a2,IntKind.i64.min≤y1∧y1≤IntKind.i64.max) (k2:a3.length≤maxLen∧∀y1∈a3,IntKind.i64.min≤y1∧y1≤IntKind.i64.max):vV a1 a2 a3=some true:=zF7 a1 a2 a3 k0 k1 k2 (zHo a1 a2 a3 k0 k1 k2)
end Go.Told

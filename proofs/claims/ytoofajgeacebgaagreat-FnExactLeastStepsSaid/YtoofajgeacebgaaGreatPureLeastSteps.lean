import Derived.Test.YtoofajgeacebgaaGreatToldLeastSteps
set_option linter.unusedVariables false
set_option maxRecDepth 4000
namespace Go.Told
open Go Go.Im
theorem zCr {x:Int} (h1: -9223372036854775808≤x) (h2:x≤9223372036854775807):w64 x=x:=by
 unfold w64
 rw [IntKind.wrap_i64]
 omega
theorem zM {i:Nat} (h:i<9223372036854775807):w64 ((i:Int)+1)=((i+1:Nat):Int):=by
 rw [zCr (by omega) (by omega)]; omega
theorem jV {T:Type} {S:Type} {b:S→Option (Lp S T)} (I:Nat→S→Prop) (n:Nat) (Q:T→Prop) (hstep:∀i s,i<n→I i s→(∃s',b s=some (.go s')∧I (i+1) s')∨∃t,b s=some (.done t)∧Q t)
  (hend:∀s,I n s→∃t,b s=some (.done t)∧Q t):∀(k i:Nat) (s:S),i+k=n→I i s→∃t,loop b s=some t∧Q t
 |0,i,s,hk,hI=>by
  obtain ⟨t,h1,h2⟩:=hend s (by rw [show n=i by omega]; exact hI)
  exact ⟨t,by rw [tX,h1]; rfl,h2⟩
 |k+1,i,s,hk,hI=>by
  rcases hstep i s (by omega) hI with ⟨s',h1,h2⟩|⟨t,h1,h2⟩
  ·obtain ⟨t,h3,h4⟩:=jV I n Q hstep hend k (i+1) s' (by omega) h2
   exact ⟨t,by rw [tX,h1]; exact h3,h4⟩
  ·exact ⟨t,by rw [tX,h1]; rfl,h2⟩
theorem zI {α:Type} {xs:List α} {i:Nat} (h:i<xs.length):idx xs (i:Int)=some xs[i]:=by
 unfold idx
 rw [if_pos (by omega)]
 simp [h]
theorem zGV {α:Type} (xs:List α) {b:(List α×Int)→Option (Lp (List α×Int) (List α))} (hstep:∀(ys:List α) (i:Nat) (hi:i<xs.length),ys.length=xs.length→b (ys,(i:Int))=some (.go (ys.set i xs[i],((i+1:Nat):Int))))
  (hend:∀ys:List α,ys.length=xs.length→b (ys,(xs.length:Int))=some (.done ys)) (y0:List α) (h0:y0.length=xs.length):loop b (y0,0)=some xs:=by
 obtain ⟨t,h1,h2⟩:=jV (b:=b) (fun i s=>s.2=(i:Int)∧s.1.length=xs.length∧s.1.take i=xs.take i) xs.length (fun t=>t=xs) (by
  rintro i ⟨ys,j⟩ hi ⟨hj,hl,hp⟩
  simp only at hj hl hp
  subst hj
  refine .inl ⟨_,hstep ys i hi hl,rfl,by simpa using hl,?_⟩
  simp only
  rw [List.take_succ_eq_append_getElem (by simp; omega),List.take_succ_eq_append_getElem hi,←hp,List.take_set_of_le (Nat.le_refl _)]
  simp) (by
  rintro ⟨ys,j⟩ ⟨hj,hl,hp⟩
  simp only at hj hl hp
  subst hj
  refine ⟨ys,hend ys hl,?_⟩
  rw [List.take_of_length_le (by omega),List.take_of_length_le (by omega)] at hp
  exact hp) xs.length 0 (y0,0) (by omega) ⟨rfl,h0,by simp⟩
 rw [h1,h2]
theorem zGR {R:Type} (n:Nat) {b:Int→Option (Lp Int (Fl R Unit))} (hstep:∀i:Nat,i<n→b (i:Int)=some (.go ((i+1:Nat):Int))) (hend:b (n:Int)=some (.done (.nxt ()))):loop b 0=some (.nxt ()):=by
 obtain ⟨t,h1,h2⟩:=jV (b:=b) (fun i s=>s=(i:Int)) n (fun t=>t= .nxt ()) (by
  rintro i s hi rfl
  exact .inl ⟨_,hstep i hi,rfl⟩) (by
  rintro s rfl
  exact ⟨_,hend,rfl⟩) n 0 0 (by omega) rfl
 rw [h1,h2]
theorem zIw {α:Type} (xs:List α) (P:α→Prop) (l:Int) {b:(Int×Int)→Option (Lp (Int×Int) (Fl Int Int))}
  (hstep:∀(q:Int) (i:Nat) (hi:i<xs.length),0≤q→q≤l→(∃q',b (q,(i:Int))=some (.go (q',((i+1:Nat):Int)))∧0≤q'∧q'≤q∧P xs[i])∨∃t,b (q,(i:Int))=some (.done (.ret t))∧t<0)
  (hend:∀q:Int,b (q,(xs.length:Int))=some (.done (.nxt q))) (h0:0≤l):
  ∃t,loop b (l,0)=some t∧match t with| .ret r=>r<0| .nxt r=>0≤r∧r≤l∧∀x∈xs,P x:=by
 refine jV (b:=b) (fun i s=>s.2=(i:Int)∧0≤s.1∧s.1≤l∧∀j,(hj:j<xs.length)→j<i→P xs[j]) xs.length _ (by
  rintro i ⟨q,j⟩ hi ⟨hj,h1,h2,h3⟩
  simp only at hj h1 h2 h3
  subst hj
  rcases hstep q i hi h1 h2 with ⟨q',e,g1,g2,g3⟩|⟨t,e,ht⟩
  ·refine .inl ⟨_,e,rfl,g1,by simp only; omega,fun j hj hji=>?_⟩
   rcases Nat.lt_or_ge j i with h|h
   ·exact h3 j hj h
   ·have:j=i:=by omega
    subst this; exact g3
  ·exact .inr ⟨_,e,ht⟩) (by
  rintro ⟨q,j⟩ ⟨hj,h1,h2,h3⟩
  simp only at hj h1 h2 h3
  subst hj
  refine ⟨_,hend q,h1,h2,fun x hx=>?_⟩
  obtain ⟨j,hj,rfl⟩:=List.getElem_of_mem hx
  exact h3 j hj hj) xs.length 0 (l,0) (by omega) ⟨rfl,h0,Int.le_refl _,fun j _ h=>by omega⟩
theorem zJQ {α β:Type} {xs:List α} {ys:List β} (h:xs.length=ys.length):same xs ys=some ():=if_pos h
theorem zFG (a:ByteArray):seq a a=true:=by
 unfold seq
 simp
def c1 {α:Type} (_:α):Int:=1
theorem jS {α:Type} {B:Nat} {xs ys:List α} (h:(xs.length+ys.length)*B≤140737488355328) (h2:xs.length+ys.length≤4611686018427387904):app B xs ys=some (xs++ys):=if_pos ⟨h,h2⟩
theorem zHi {S T:Type} {b:S→Option (Lp S T)} (I:S→Prop) (μ:S→Nat) (Q:T→Prop) (step:∀s,I s→(∃s',b s=some (.go s')∧I s'∧μ s'<μ s)∨∃t,b s=some (.done t)∧Q t):∀(n:Nat) (s:S),μ s≤n→I s→∃t,loop b s=some t∧Q t
 |0,s,hn,hI=>by
  rcases step s hI with ⟨s',_,_,h3⟩|⟨t,h1,h2⟩
  ·omega
  ·exact ⟨t,by rw [tX,h1]; rfl,h2⟩
 |n+1,s,hn,hI=>by
  rcases step s hI with ⟨s',h1,h2,h3⟩|⟨t,h1,h2⟩
  ·obtain ⟨t,h4,h5⟩:=zHi I μ Q step n s' (by omega) h2
   exact ⟨t,by rw [tX,h1]; exact h4,h5⟩
  ·exact ⟨t,by rw [tX,h1]; rfl,h2⟩
def Version.ok (x:Version):Prop:=(IntKind.i64.min≤x.A∧x.A≤IntKind.i64.max)∧(IntKind.i64.min≤x.B∧x.B≤IntKind.i64.max)∧(IntKind.i64.min≤x.C∧x.C≤IntKind.i64.max)
def Term.ok (x:Term):Prop:=(x.Name.size≤maxLen)∧(Version.ok x.Low)∧(Version.ok x.High)
def Pack.ok (x:Pack):Prop:=(x.Name.size≤maxLen)∧(Version.ok x.Version)∧(IntKind.i64.min≤x.Size∧x.Size≤IntKind.i64.max)∧(x.Provides.length≤maxLen∧∀y1∈x.Provides,y1.size≤maxLen)∧(x.Needs.length≤maxLen∧∀y1∈x.Needs,y1.length≤maxLen∧∀y2∈y1,Term.ok y2)∧(x.Bars.length≤maxLen∧∀y1∈x.Bars,Term.ok y1)
def Version.sm (B:Nat) (x:Version):Prop:=(True)∧(True)∧(True)
def Term.sm (B:Nat) (x:Term):Prop:=(x.Name.size≤B)∧(Version.sm B x.Low)∧(Version.sm B x.High)
def Pack.sm (B:Nat) (x:Pack):Prop:=(x.Name.size≤B)∧(Version.sm B x.Version)∧(True)∧(x.Provides.length≤B∧∀y0∈x.Provides,y0.size≤B)∧(x.Needs.length≤B∧∀y0∈x.Needs,y0.length≤B∧∀y1∈y0,Term.sm B y1)∧(x.Bars.length≤B∧∀y0∈x.Bars,Term.sm B y0)
theorem zJe (x:(List ByteArray)) (hx:x.length≤maxLen∧∀y1∈x,y1.size≤maxLen) (l:Int) (h0:0≤l) (h1:l≤1048576):∃r,zAW x l=some r∧(r<0∨(0≤r∧r≤l∧(x.length≤1048576∧∀y0∈x,y0.size≤1048576))):=by
 obtain ⟨hm,hx⟩:=hx
 unfold maxLen at hm
 unfold zAW
 rw [zCr (x:=l-x.length) (by omega) (by omega)]
 by_cases c1:l-(x.length:Int)<0
 ·rw [if_pos (by simpa using c1)]
  exact ⟨_,rfl,.inl (by omega)⟩
 ·rw [if_neg (by simpa using c1)]
  have key:=zIw x (fun y0=>y0.size≤1048576) (l-x.length) (b:=zA6 x) ?_ ?_ (by omega)
  ·obtain ⟨t,h2,h3⟩:=key
   unfold zBl
   rw [h2]
   cases t with
   |ret r=>exact ⟨r,rfl,.inl h3⟩
   |nxt r=>exact ⟨r,rfl,.inr ⟨h3.1,by have:=h3.2.1; omega,by omega,h3.2.2⟩⟩
  ·intro q i hi hq0 hq1
   unfold zA6
   rw [if_pos (by simp; omega)]
   simp only [zI hi,Option.bind_some]
   have hi2:w64 ((i:Int)+1)=((i+1:Nat):Int):=zM (by omega)
   have hs:=hx _ (List.getElem_mem hi)
   unfold maxLen at hs
   rw [zCr (x:=q-(x[i]).size) (by omega) (by omega)]
   by_cases c:q-((x[i]).size :Int)<0
   ·rw [if_pos (by simpa using c)]
    exact .inr ⟨_,rfl,by omega⟩
   ·rw [if_neg (by simpa using c),hi2]
    exact .inl ⟨_,rfl,by omega,by omega,by show (x[i]).size ≤1048576; omega⟩
  ·intro q
   unfold zA6
   rw [if_neg (by simp)]
theorem zLR (x:Term) (hx:Term.ok x) (l:Int) (h0:0≤l) (h1:l≤1048576):∃r,zD7 x l=some r∧(r<0∨(0≤r∧r≤l∧(Term.sm 1048576 x))):=by
 obtain ⟨k0,k1,k2⟩:=hx
 unfold maxLen at*
 unfold zD7
 rw [zCr (x:=l-x.Name.size) (by omega) (by omega)]
 by_cases c0:l-(x.Name.size:Int)<0
 ·rw [if_pos (by simpa using c0)]
  exact ⟨_,rfl,.inl (by omega)⟩
 rw [if_neg (by simpa using c0)]
 exact ⟨_,rfl,.inr ⟨by omega,by omega,by omega,⟨trivial,trivial,trivial⟩,⟨trivial,trivial,trivial⟩⟩⟩
theorem zHZ (x:(List Term)) (hx:x.length≤maxLen∧∀y1∈x,Term.ok y1) (l:Int) (h0:0≤l) (h1:l≤1048576):∃r,zAM x l=some r∧(r<0∨(0≤r∧r≤l∧(x.length≤1048576∧∀y0∈x,Term.sm 1048576 y0))):=by
 obtain ⟨hm,hx⟩:=hx
 unfold maxLen at hm
 unfold zAM
 rw [zCr (x:=l-x.length) (by omega) (by omega)]
 by_cases c1:l-(x.length:Int)<0
 ·rw [if_pos (by simpa using c1)]
  exact ⟨_,rfl,.inl (by omega)⟩
 ·rw [if_neg (by simpa using c1)]
  have key:=zIw x (fun y0=>Term.sm 1048576 y0) (l-x.length) (b:=zBL x) ?_ ?_ (by omega)
  ·obtain ⟨t,h2,h3⟩:=key
   unfold zC4
   rw [h2]
   cases t with
   |ret r=>exact ⟨r,rfl,.inl h3⟩
   |nxt r=>exact ⟨r,rfl,.inr ⟨h3.1,by have:=h3.2.1; omega,by omega,h3.2.2⟩⟩
  ·intro q i hi hq0 hq1
   unfold zBL
   rw [if_pos (by simp; omega)]
   simp only [zI hi,Option.bind_some]
   have hi2:w64 ((i:Int)+1)=((i+1:Nat):Int):=zM (by omega)
   obtain ⟨r,e,hr⟩:=zLR x[i] (hx _ (List.getElem_mem hi)) q hq0 (by omega)
   rw [e]
   simp only [Option.bind_some]
   by_cases c:r<0
   ·rw [if_pos (by simpa using c)]
    exact .inr ⟨_,rfl,by omega⟩
   ·rw [if_neg (by simpa using c),hi2]
    obtain ⟨g1,g2,g3⟩:=hr.resolve_left c
    exact .inl ⟨_,rfl,g1,g2,g3⟩
  ·intro q
   unfold zBL
   rw [if_neg (by simp)]
theorem zJH (x:(List (List Term))) (hx:x.length≤maxLen∧∀y1∈x,y1.length≤maxLen∧∀y2∈y1,Term.ok y2) (l:Int) (h0:0≤l) (h1:l≤1048576):∃r,zB4 x l=some r∧(r<0∨(0≤r∧r≤l∧(x.length≤1048576∧∀y0∈x,y0.length≤1048576∧∀y1∈y0,Term.sm 1048576 y1))):=by
 obtain ⟨hm,hx⟩:=hx
 unfold maxLen at hm
 unfold zB4
 rw [zCr (x:=l-x.length) (by omega) (by omega)]
 by_cases c1:l-(x.length:Int)<0
 ·rw [if_pos (by simpa using c1)]
  exact ⟨_,rfl,.inl (by omega)⟩
 ·rw [if_neg (by simpa using c1)]
  have key:=zIw x (fun y0=>y0.length≤1048576∧∀y1∈y0,Term.sm 1048576 y1) (l-x.length) (b:=zBp x) ?_ ?_ (by omega)
  ·obtain ⟨t,h2,h3⟩:=key
   unfold zBZ
   rw [h2]
   cases t with
   |ret r=>exact ⟨r,rfl,.inl h3⟩
   |nxt r=>exact ⟨r,rfl,.inr ⟨h3.1,by have:=h3.2.1; omega,by omega,h3.2.2⟩⟩
  ·intro q i hi hq0 hq1
   unfold zBp
   rw [if_pos (by simp; omega)]
   simp only [zI hi,Option.bind_some]
   have hi2:w64 ((i:Int)+1)=((i+1:Nat):Int):=zM (by omega)
   obtain ⟨r,e,hr⟩:=zHZ x[i] (hx _ (List.getElem_mem hi)) q hq0 (by omega)
   rw [e]
   simp only [Option.bind_some]
   by_cases c:r<0
   ·rw [if_pos (by simpa using c)]
    exact .inr ⟨_,rfl,by omega⟩
   ·rw [if_neg (by simpa using c),hi2]
    obtain ⟨g1,g2,g3⟩:=hr.resolve_left c
    exact .inl ⟨_,rfl,g1,g2,g3⟩
  ·intro q
   unfold zBp
   rw [if_neg (by simp)]
theorem zLt (x:Pack) (hx:Pack.ok x) (l:Int) (h0:0≤l) (h1:l≤1048576):∃r,zDB x l=some r∧(r<0∨(0≤r∧r≤l∧(Pack.sm 1048576 x))):=by
 obtain ⟨k0,k1,k2,k3,k4,k5⟩:=hx
 unfold maxLen at*
 unfold zDB
 rw [zCr (x:=l-x.Name.size) (by omega) (by omega)]
 by_cases c0:l-(x.Name.size:Int)<0
 ·rw [if_pos (by simpa using c0)]
  exact ⟨_,rfl,.inl (by omega)⟩
 rw [if_neg (by simpa using c0)]
 obtain ⟨r3,e3,g3⟩:=zJe x.Provides k3 (l-x.Name.size) (by omega) (by omega)
 rw [e3]
 simp only [Option.bind_some]
 by_cases c3:r3<0
 ·rw [if_pos (by simpa using c3)]
  exact ⟨_,rfl,.inl (by omega)⟩
 rw [if_neg (by simpa using c3)]
 obtain ⟨p3,q3,z3⟩:=g3.resolve_left c3
 obtain ⟨r4,e4,g4⟩:=zJH x.Needs k4 r3 (by omega) (by omega)
 rw [e4]
 simp only [Option.bind_some]
 by_cases c4:r4<0
 ·rw [if_pos (by simpa using c4)]
  exact ⟨_,rfl,.inl (by omega)⟩
 rw [if_neg (by simpa using c4)]
 obtain ⟨p4,q4,z4⟩:=g4.resolve_left c4
 obtain ⟨r5,e5,g5⟩:=zHZ x.Bars k5 r4 (by omega) (by omega)
 rw [e5]
 simp only [Option.bind_some]
 by_cases c5:r5<0
 ·rw [if_pos (by simpa using c5)]
  exact ⟨_,rfl,.inl (by omega)⟩
 rw [if_neg (by simpa using c5)]
 obtain ⟨p5,q5,z5⟩:=g5.resolve_left c5
 exact ⟨_,rfl,.inr ⟨by omega,by omega,by omega,⟨trivial,trivial,trivial⟩,trivial,z3,z4,z5⟩⟩
theorem zLg (x:(List Pack)) (hx:x.length≤maxLen∧∀y1∈x,Pack.ok y1) (l:Int) (h0:0≤l) (h1:l≤1048576):∃r,zAH x l=some r∧(r<0∨(0≤r∧r≤l∧(x.length≤1048576∧∀y0∈x,Pack.sm 1048576 y0))):=by
 obtain ⟨hm,hx⟩:=hx
 unfold maxLen at hm
 unfold zAH
 rw [zCr (x:=l-x.length) (by omega) (by omega)]
 by_cases c1:l-(x.length:Int)<0
 ·rw [if_pos (by simpa using c1)]
  exact ⟨_,rfl,.inl (by omega)⟩
 ·rw [if_neg (by simpa using c1)]
  have key:=zIw x (fun y0=>Pack.sm 1048576 y0) (l-x.length) (b:=zCd x) ?_ ?_ (by omega)
  ·obtain ⟨t,h2,h3⟩:=key
   unfold zC7
   rw [h2]
   cases t with
   |ret r=>exact ⟨r,rfl,.inl h3⟩
   |nxt r=>exact ⟨r,rfl,.inr ⟨h3.1,by have:=h3.2.1; omega,by omega,h3.2.2⟩⟩
  ·intro q i hi hq0 hq1
   unfold zCd
   rw [if_pos (by simp; omega)]
   simp only [zI hi,Option.bind_some]
   have hi2:w64 ((i:Int)+1)=((i+1:Nat):Int):=zM (by omega)
   obtain ⟨r,e,hr⟩:=zLt x[i] (hx _ (List.getElem_mem hi)) q hq0 (by omega)
   rw [e]
   simp only [Option.bind_some]
   by_cases c:r<0
   ·rw [if_pos (by simpa using c)]
    exact .inr ⟨_,rfl,by omega⟩
   ·rw [if_neg (by simpa using c),hi2]
    obtain ⟨g1,g2,g3⟩:=hr.resolve_left c
    exact .inl ⟨_,rfl,g1,g2,g3⟩
  ·intro q
   unfold zCd
   rw [if_neg (by simp)]
theorem zHt (x:(List Int)) (hx:x.length≤1049600∧∀y0∈x,True):zS x=some x:=by
 have hl:=hx.1
 unfold zS
 have hm:∀z:Int,mk 8 (x.length:Int) z=some (List.replicate x.length z):=fun z=>by
  unfold mk; rw [if_pos ⟨by omega,by simp; omega,by omega⟩]; simp
 rw [hm]
 simp only [Option.bind_some,zBX]
 rw [zGV x ?_ ?_ _ (by simp)]
 ·rfl
 ·intro ys i hi hl2
  unfold zCX
  rw [if_pos (by simp; omega)]
  have hi2:w64 ((i:Int)+1)=((i+1:Nat):Int):=zM (by omega)
  simp only [zI hi,zI (show i<ys.length by omega),Option.bind_some,Int.toNat_natCast,hi2]
 ·intro ys _
  unfold zCX
  rw [if_neg (by simp)]
theorem zFz (x:Version) (hx:Version.sm 1049600 x):uT x=some x:=by
 obtain ⟨h0,h1,h2⟩:=hx
 unfold uT
 rfl
theorem zII (x:(List ByteArray)) (hx:x.length≤1049600∧∀y0∈x,y0.size≤1049600):zAZ x=some x:=by
 have hl:=hx.1
 unfold zAZ
 have hm:∀z:ByteArray,mk 16 (x.length:Int) z=some (List.replicate x.length z):=fun z=>by
  unfold mk; rw [if_pos ⟨by omega,by simp; omega,by omega⟩]; simp
 rw [hm]
 simp only [Option.bind_some,zBr]
 rw [zGV x ?_ ?_ _ (by simp)]
 ·rfl
 ·intro ys i hi hl2
  unfold zCo
  rw [if_pos (by simp; omega)]
  have hi2:w64 ((i:Int)+1)=((i+1:Nat):Int):=zM (by omega)
  simp only [zI hi,zI (show i<ys.length by omega),Option.bind_some,Int.toNat_natCast,hi2]
 ·intro ys _
  unfold zCo
  rw [if_neg (by simp)]
theorem zMe (x:Term) (hx:Term.sm 1049600 x):zDA x=some x:=by
 obtain ⟨h0,h1,h2⟩:=hx
 unfold zDA
 simp only [zFz x.Low h1,zFz x.High h2,Option.bind_some]
theorem zIe (x:(List Term)) (hx:x.length≤1049600∧∀y0∈x,Term.sm 1049600 y0):zAA x=some x:=by
 have hl:=hx.1
 unfold zAA
 have hm:∀z:Term,mk 64 (x.length:Int) z=some (List.replicate x.length z):=fun z=>by
  unfold mk; rw [if_pos ⟨by omega,by simp; omega,by omega⟩]; simp
 rw [hm]
 simp only [Option.bind_some,zC6]
 rw [zGV x ?_ ?_ _ (by simp)]
 ·rfl
 ·intro ys i hi hl2
  unfold zD1
  rw [if_pos (by simp; omega)]
  have hi2:w64 ((i:Int)+1)=((i+1:Nat):Int):=zM (by omega)
  simp only [zI hi,zI (show i<ys.length by omega),Option.bind_some,Int.toNat_natCast,hi2,zMe x[i] (hx.2 _ (List.getElem_mem hi))]
 ·intro ys _
  unfold zD1
  rw [if_neg (by simp)]
theorem zJm (x:(List (List Term))) (hx:x.length≤1049600∧∀y0∈x,y0.length≤1049600∧∀y1∈y0,Term.sm 1049600 y1):zBF x=some x:=by
 have hl:=hx.1
 unfold zBF
 have hm:∀z:(List Term),mk 24 (x.length:Int) z=some (List.replicate x.length z):=fun z=>by
  unfold mk; rw [if_pos ⟨by omega,by simp; omega,by omega⟩]; simp
 rw [hm]
 simp only [Option.bind_some,zCf]
 rw [zGV x ?_ ?_ _ (by simp)]
 ·rfl
 ·intro ys i hi hl2
  unfold zDc
  rw [if_pos (by simp; omega)]
  have hi2:w64 ((i:Int)+1)=((i+1:Nat):Int):=zM (by omega)
  simp only [zI hi,zI (show i<ys.length by omega),Option.bind_some,Int.toNat_natCast,hi2,zIe x[i] (hx.2 _ (List.getElem_mem hi))]
 ·intro ys _
  unfold zDc
  rw [if_neg (by simp)]
theorem zL2 (x:Pack) (hx:Pack.sm 1049600 x):zD6 x=some x:=by
 obtain ⟨h0,h1,h2,h3,h4,h5⟩:=hx
 unfold zD6
 simp only [zFz x.Version h1,zII x.Provides h3,zJm x.Needs h4,zIe x.Bars h5,Option.bind_some]
theorem zKN (x:(List Pack)) (hx:x.length≤1049600∧∀y0∈x,Pack.sm 1049600 y0):wX x=some x:=by
 have hl:=hx.1
 unfold wX
 have hm:∀z:Pack,mk 120 (x.length:Int) z=some (List.replicate x.length z):=fun z=>by
  unfold mk; rw [if_pos ⟨by omega,by simp; omega,by omega⟩]; simp
 rw [hm]
 simp only [Option.bind_some,zCC]
 rw [zGV x ?_ ?_ _ (by simp)]
 ·rfl
 ·intro ys i hi hl2
  unfold zD3
  rw [if_pos (by simp; omega)]
  have hi2:w64 ((i:Int)+1)=((i+1:Nat):Int):=zM (by omega)
  simp only [zI hi,zI (show i<ys.length by omega),Option.bind_some,Int.toNat_natCast,hi2,zL2 x[i] (hx.2 _ (List.getElem_mem hi))]
 ·intro ys _
  unfold zD3
  rw [if_neg (by simp)]
theorem zGi (x:(List Int)) (hx:x.length≤1049600∧∀y0∈x,True):vN x x=some true:=by
 have hl:=hx.1
 unfold vN
 rw [if_neg (by simp)]
 unfold zBU
 rw [zGR x.length ?_ ?_]
 ·rfl
 ·intro i hi
  unfold zCY
  rw [if_pos (by simp; omega)]
  have hi2:w64 ((i:Int)+1)=((i+1:Nat):Int):=zM (by omega)
  simp [zI hi,hi2]
 ·unfold zCY
  rw [if_neg (by simp)]
def wM.sm (B:Nat) (x:wM):Prop:=(True)∧(True)
theorem zGH (x:wM) (hx:wM.sm 1049600 x):kL x x=some true:=by
 obtain ⟨h0,h1⟩:=hx
 unfold kL
 simp
theorem zEM (x:Version) (hx:Version.sm 1049600 x):uN x x=some true:=by
 obtain ⟨h0,h1,h2⟩:=hx
 unfold uN
 simp
theorem zHB (x:(List ByteArray)) (hx:x.length≤1049600∧∀y0∈x,y0.size≤1049600):zBc x x=some true:=by
 have hl:=hx.1
 unfold zBc
 rw [if_neg (by simp)]
 unfold zBy
 rw [zGR x.length ?_ ?_]
 ·rfl
 ·intro i hi
  unfold zCs
  rw [if_pos (by simp; omega)]
  have hi2:w64 ((i:Int)+1)=((i+1:Nat):Int):=zM (by omega)
  simp [zI hi,hi2]
 ·unfold zCs
  rw [if_neg (by simp)]
theorem zJ3 (x:Term) (hx:Term.sm 1049600 x):zDC x x=some true:=by
 obtain ⟨h0,h1,h2⟩:=hx
 unfold zDC
 simp [zEM x.Low h1,zEM x.High h2]
theorem zGD (x:(List Term)) (hx:x.length≤1049600∧∀y0∈x,Term.sm 1049600 y0):zA7 x x=some true:=by
 have hl:=hx.1
 unfold zA7
 rw [if_neg (by simp)]
 unfold zCP
 rw [zGR x.length ?_ ?_]
 ·rfl
 ·intro i hi
  unfold zD0
  rw [if_pos (by simp; omega)]
  have hi2:w64 ((i:Int)+1)=((i+1:Nat):Int):=zM (by omega)
  simp [zI hi,hi2,zJ3 x[i] (hx.2 _ (List.getElem_mem hi))]
 ·unfold zD0
  rw [if_neg (by simp)]
theorem zIs (x:(List (List Term))) (hx:x.length≤1049600∧∀y0∈x,y0.length≤1049600∧∀y1∈y0,Term.sm 1049600 y1):zB6 x x=some true:=by
 have hl:=hx.1
 unfold zB6
 rw [if_neg (by simp)]
 unfold zBS
 rw [zGR x.length ?_ ?_]
 ·rfl
 ·intro i hi
  unfold zCT
  rw [if_pos (by simp; omega)]
  have hi2:w64 ((i:Int)+1)=((i+1:Nat):Int):=zM (by omega)
  simp [zI hi,hi2,zGD x[i] (hx.2 _ (List.getElem_mem hi))]
 ·unfold zCT
  rw [if_neg (by simp)]
theorem zJJ (x:Pack) (hx:Pack.sm 1049600 x):zDD x x=some true:=by
 obtain ⟨h0,h1,h2,h3,h4,h5⟩:=hx
 unfold zDD
 simp [zEM x.Version h1,zHB x.Provides h3,zIs x.Needs h4,zGD x.Bars h5]
theorem zIJ (x:(List Pack)) (hx:x.length≤1049600∧∀y0∈x,Pack.sm 1049600 y0):zAD x x=some true:=by
 have hl:=hx.1
 unfold zAD
 rw [if_neg (by simp)]
 unfold zCR
 rw [zGR x.length ?_ ?_]
 ·rfl
 ·intro i hi
  unfold zDz
  rw [if_pos (by simp; omega)]
  have hi2:w64 ((i:Int)+1)=((i+1:Nat):Int):=zM (by omega)
  simp [zI hi,hi2,zJJ x[i] (hx.2 _ (List.getElem_mem hi))]
 ·unfold zDz
  rw [if_neg (by simp)]
theorem Version.zFn {x:Version} (h:Version.sm 1048576 x):Version.sm 1049600 x:=⟨trivial,trivial,trivial⟩
theorem Term.zFn {x:Term} (h:Term.sm 1048576 x):Term.sm 1049600 x:=⟨(Nat.le_trans h.1 (by decide)),(Version.zFn h.2.1),(Version.zFn h.2.2)⟩
theorem Pack.zFn {x:Pack} (h:Pack.sm 1048576 x):Pack.sm 1049600 x:=⟨(Nat.le_trans h.1 (by decide)),(Version.zFn h.2.1),trivial,⟨Nat.le_trans h.2.2.2.1.1 (by decide),fun y0 z0=>(Nat.le_trans (h.2.2.2.1.2 y0 z0) (by decide))⟩,⟨Nat.le_trans h.2.2.2.2.1.1 (by decide),fun y0 z0=>⟨Nat.le_trans (h.2.2.2.2.1.2 y0 z0).1 (by decide),fun y1 z1=>(Term.zFn ((h.2.2.2.2.1.2 y0 z0).2 y1 z1))⟩⟩,⟨Nat.le_trans h.2.2.2.2.2.1 (by decide),fun y0 z0=>(Term.zFn (h.2.2.2.2.2.2 y0 z0))⟩⟩
theorem zFi (a1:(List Pack)) (a2:(List Int)) (a3:(List Int)) (k0:a1.length≤maxLen∧∀y1∈a1,Pack.ok y1) (k1:a2.length≤maxLen∧∀y1∈a2,IntKind.i64.min≤y1∧y1≤IntKind.i64.max) (k2:a3.length≤maxLen∧∀y1∈a3,IntKind.i64.min≤y1∧y1≤IntKind.i64.max) (both:(a1.length≤1048576∧∀y0∈a1,Pack.sm 1048576 y0)→(a2.length≤1048576∧∀y0∈a2,True)→(a3.length≤1048576∧∀y0∈a3,True)→∃r,jD a1 a2 a3=some r∧jA a1 a2 a3=some r∧(wM.sm 1049600 r)):vS a1 a2 a3=some true:=by
 unfold vS
 by_cases d1:(a2.length:Int)>1048576
 ·rw [if_pos (by simpa using d1)]
 rw [if_neg (by simpa using d1)]
 have s_a2:a2.length≤1048576∧∀y0∈a2,True:=⟨by omega,fun _ _=>trivial⟩
 by_cases d2:(a3.length:Int)>1048576
 ·rw [if_pos (by simpa using d2)]
 rw [if_neg (by simpa using d2)]
 have s_a3:a3.length≤1048576∧∀y0∈a3,True:=⟨by omega,fun _ _=>trivial⟩
 obtain ⟨r3,e3,g3⟩:=zLg a1 k0 1048576 (by omega) (by omega)
 rw [e3]
 simp only [Option.bind_some]
 by_cases d3:r3<0
 ·rw [if_pos (by simpa using d3)]
 rw [if_neg (by simpa using d3)]
 obtain ⟨p3,q3,s_a1⟩:=g3.resolve_left d3
 obtain ⟨r,e1,e2,hr⟩:=both s_a1 s_a2 s_a3
 have m_a1:a1.length≤1049600∧∀y0∈a1,Pack.sm 1049600 y0:=⟨Nat.le_trans s_a1.1 (by decide),fun y0 z0=>(Pack.zFn (s_a1.2 y0 z0))⟩
 have m_a2:a2.length≤1049600∧∀y0∈a2,True:=⟨Nat.le_trans s_a2.1 (by decide),fun y0 z0=>trivial⟩
 have m_a3:a3.length≤1049600∧∀y0∈a3,True:=⟨Nat.le_trans s_a3.1 (by decide),fun y0 z0=>trivial⟩
 simp [e1,e2,zKN a1 m_a1,zIJ a1 m_a1,zHt a2 m_a2,zGi a2 m_a2,zHt a3 m_a3,zGi a3 m_a3,zGH r hr]
def bl (s:ByteArray):List Int:=s.toList.map (fun b=>(b.toNat:Int))
theorem zEW (s:ByteArray):(bl s).length =s.size:=by
 unfold bl
 rw [List.length_map,ByteArray.toList_eq]
 rfl
theorem zIz {s:ByteArray} {i:Nat} (h:i< (bl s).length):bidx s (i:Int)=some (bl s)[i]:=by
 unfold bidx
 rw [if_pos (by omega)]
 have hs:i<s.size:=by rw [zEW] at h; exact h
 have e:s[(i:Int).toNat]? =some s[i]:=by simp [hs]
 rw [e]
 simp only [Option.map_some,bl,List.getElem_map]
 congr 2
 simp only [ByteArray.toList_eq]
 rfl
theorem zHx:∀(a:List UInt8),Op.bytesLess a a=false
 |[]=>rfl
 |x::a=>by simp [Op.bytesLess,zHx a]
theorem zHO:∀{a b c:List UInt8},Op.bytesLess a b=true→Op.bytesLess b c=true→Op.bytesLess a c=true
 |_,[],_,h,_=>by simp [Op.bytesLess] at h
 |_,_::_,[],_,h=>by simp [Op.bytesLess] at h
 |[],_::_,_::_,_,_=>by simp [Op.bytesLess]
 |x::a,y::b,z::c,h1,h2=>by
  simp only [Op.bytesLess,Bool.or_eq_true,decide_eq_true_eq,Bool.and_eq_true,beq_iff_eq] at h1 h2 ⊢
  rcases h1 with h1|⟨rfl,h1⟩
  ·rcases h2 with h2|⟨rfl,h2⟩
   ·exact .inl (UInt8.lt_trans h1 h2)
   ·exact .inl h1
  ·rcases h2 with h2|⟨rfl,h2⟩
   ·exact .inl h2
   ·exact .inr ⟨rfl,zHO h1 h2⟩
theorem toList_inj {a b:ByteArray} (h:a.toList=b.toList):a=b:=by
 rw [ByteArray.toList_eq,ByteArray.toList_eq] at h
 cases a; cases b
 simp at h
 rw [h]
theorem zDh (a:ByteArray):slt a a=false:=zHx _
theorem zE6 {a b c:ByteArray} (h1:slt a b=true) (h2:slt b c=true):slt a c=true:=zHO h1 h2
theorem zJc {a b:ByteArray} (h:slt a b=true):slt b a=false:=by
 cases h2:slt b a with
 |false=>rfl
 |true=>have:=zE6 h h2; rw [zDh] at this; cases this
theorem zDU {a b:ByteArray}:seq a b=true↔a=b:=by
 unfold seq
 simp only [beq_iff_eq]
 exact ⟨toList_inj,fun e=>by rw [e]⟩
theorem seq_eq (a b:ByteArray):seq a b=decide (a=b):=by
 rw [Bool.eq_iff_iff,zDU]; simp
def inB (a b c:Int):Bool:=decide (b≤a)&&decide (a≤c)
theorem zJp (a b c:Int):tJ a b c=some (inB a b c):=by
 unfold tJ inB
 by_cases h:a≥b<;>simp [h]
theorem zHp (a b c:Int):vQ a b c=some (inB a b c):=by
 unfold vQ inB
 by_cases h:b≤a<;>simp [h]
section del
variable {α:Type} (p:α→Bool)
theorem zF4 {xs:List α} {l h:Nat} (h1:l≤h) (h2:h≤xs.length):zFk xs (l:Int) (h:Int)=some ((xs.drop l).take (h-l)):=by
 unfold zFk
 rw [if_pos (by omega)]
 rfl
end del
section del
variable {α:Type} (p:α→Bool)
theorem zLL {xs:List α} {l n:Nat} {a:α} (h:l+n≤xs.length):zLj xs (l:Int) n a=some (xs.take l++List.replicate n a++xs.drop (l+n)):=by
 unfold zLj
 rw [if_pos (by omega)]
 simp [ovr]
end del
section del
variable {α:Type} (p:α→Bool)
theorem zM2 {R:Type} (a1:List α) (out:Int→R) {b:Int→Option (Lp Int (Fl R Unit))} (hl:a1.length<9223372036854775807)
  (hstep:∀(i:Nat) (hi:i<a1.length),b (i:Int)=some (if p a1[i] then .done (.ret (out i)) else .go ((i+1:Nat):Int))) (hend:b (a1.length:Int)=some (.done (.nxt ()))):
  ∃t,loop b 0=some t∧((t= .nxt ()∧∀x∈a1,p x=false)∨∃i:Nat,∃hi:i<a1.length,t= .ret (out i)∧p a1[i]=true∧∀x∈a1.take i,p x=false):=by
 refine jV (b:=b) (fun i s=>s=(i:Int)∧∀x∈a1.take i,p x=false) a1.length _ (by
  rintro i s hi ⟨rfl,hn⟩
  have e:=hstep i hi
  cases hp:p a1[i]
  ·rw [hp] at e
   refine .inl ⟨_,e,rfl,fun x hx=>?_⟩
   rw [List.take_succ_eq_append_getElem hi] at hx
   rcases List.mem_append.1 hx with hx|hx
   ·exact hn x hx
   ·simp at hx; rw [hx]; exact hp
  ·rw [hp] at e
   exact .inr ⟨_,e,.inr ⟨i,hi,rfl,hp,hn⟩⟩) (by
  rintro s ⟨rfl,hn⟩
  rw [List.take_length] at hn
  exact ⟨_,hend,.inl ⟨rfl,hn⟩⟩) a1.length 0 0 (by omega) ⟨rfl,by simp⟩
end del
section del
variable {α:Type} (p:α→Bool)
theorem zGM {xs:List α} {i:Nat} {x:α} (h:i<xs.length):(xs.set i x).take (i+1)=xs.take i++[x]:=by
 rw [List.take_succ_eq_append_getElem (by simpa using h),List.take_set_of_le (Nat.le_refl _)]
 simp
end del
section del
variable {α:Type} (p:α→Bool)
theorem set_drop {xs:List α} {i j:Nat} {x:α} (h:i<j):(xs.set i x).drop j=xs.drop j:=by
 rw [List.drop_set_of_lt h]
end del
section del
variable {α:Type} (p:α→Bool)
theorem zLp (a:List α) {b:(List α×Int×Int)→Option (Lp (List α×Int×Int) (List α×Int))} (hl:a.length<9223372036854775807)
  (hstep:∀(xs:List α) (i j:Nat) (hj:j<xs.length),i≤j→xs.length=a.length→xs[j]∈a→b (xs,(i:Int),(j:Int))=some (.go (if p xs[j] then (xs,(i:Int),((j+1:Nat):Int)) else (xs.set i xs[j],((i+1:Nat):Int),((j+1:Nat):Int)))))
  (hend:∀(xs:List α) (i:Nat),xs.length=a.length→b (xs,(i:Int),(xs.length:Int))=some (.done (xs,(i:Int)))) (i0 j0:Nat) (hij:i0≤j0) (hj0:j0≤a.length) (h0:a.take i0=(a.take j0).filter (fun x=> !p x)):
  ∃ys:List α,loop b (a,(i0:Int),(j0:Int))=some (ys,((a.filter (fun x=> !p x)).length :Int))∧ys.length=a.length∧ys.take (a.filter (fun x=> !p x)).length =a.filter (fun x=> !p x):=by
 obtain ⟨t,e,h⟩:=jV (b:=b) (fun j s=>s.1.length=a.length∧s.1.drop j=a.drop j∧s.2.2=(j:Int)∧∃i:Nat,s.2.1=(i:Int)∧i≤j∧s.1.take i=(a.take j).filter (fun x=> !p x)) a.length
  (fun t=>t.1.length=a.length∧∃i:Nat,t.2=(i:Int)∧i≤a.length∧t.1.take i=a.filter (fun x=> !p x)) (by
  rintro j ⟨xs,i',j'⟩ hj ⟨hxl,hxd,hjj,i,hi,hle,ht⟩
  simp only at hxl hxd hjj hi ht
  subst hjj hi
  have hjx:j<xs.length:=by omega
  have hx:xs[j]=a[j]:=by
   have:=congrArg (fun l=>l[0]?) hxd
   simp only [List.getElem?_drop,Nat.add_zero] at this
   rw [List.getElem?_eq_getElem hjx,List.getElem?_eq_getElem hj] at this
   exact Option.some.inj this
  have e:=hstep xs i j hjx hle hxl (by rw [hx]; exact List.getElem_mem hj)
  have htk:(a.take (j+1)).filter (fun x=> !p x)=(a.take j).filter (fun x=> !p x)++(if p a[j] then [] else [a[j]]):=by
   rw [List.take_succ_eq_append_getElem hj,List.filter_append]
   cases h:p a[j]<;>simp [h]
  have hd1:a.drop (j+1)=xs.drop (j+1):=by
   have:=congrArg (List.drop 1) hxd
   simpa [List.drop_drop] using this.symm
  rw [hx] at e
  cases hp:p a[j]
  ·rw [hp] at e htk
   refine .inl ⟨_,e,by simpa using hxl,?_,rfl,i+1,rfl,by omega,?_⟩
   ·show (xs.set i a[j]).drop (j+1)=a.drop (j+1)
    rw [set_drop (by omega),hd1]
   ·show (xs.set i a[j]).take (i+1)=_
    rw [zGM (by omega),htk,ht]
    rfl
  ·rw [hp] at e htk
   refine .inl ⟨_,e,hxl,?_,rfl,i,rfl,by omega,?_⟩
   ·exact hd1.symm
   ·show xs.take i=_
    rw [htk,ht]
    simp) (by
  rintro ⟨xs,i',j'⟩ ⟨hxl,hxd,hjj,i,hi,hle,ht⟩
  simp only at hxl hxd hjj hi ht
  subst hjj hi
  have e:=hend xs i hxl
  rw [hxl] at e
  refine ⟨_,e,hxl,i,rfl,hle,?_⟩
  rw [List.take_length] at ht
  exact ht) (a.length-j0) j0 (a,(i0:Int),(j0:Int)) (by omega) ⟨rfl,rfl,rfl,i0,rfl,hij,h0⟩
 obtain ⟨ys,i'⟩:=t
 obtain ⟨h1,i,h2,h3,h4⟩:=h
 simp only at h1 h2 h4
 subst h2
 have hlen:i=(a.filter (fun x=> !p x)).length :=by rw [←h4]; simp; omega
 subst hlen
 exact ⟨ys,e,h1,h4⟩
end del
section del
variable {α:Type} (p:α→Bool)
theorem zNs {a ys:List α} (zero:α) (h1:ys.length=a.length) (h2:ys.take (a.filter (fun x=> !p x)).length =a.filter (fun x=> !p x)):
  (zFk ys ((a.filter (fun x=> !p x)).length :Int) (ys.length:Int)).bind (fun r=>(zLj ys ((a.filter (fun x=> !p x)).length :Int) r.length zero).bind fun z=>(zFk z 0 ((a.filter (fun x=> !p x)).length :Int)).bind fun q=>some q)=some (a.filter (fun x=> !p x)):=by
 have hle:(a.filter (fun x=> !p x)).length ≤ys.length:=by rw [h1]; exact List.length_filter_le _ _
 rw [zF4 hle (Nat.le_refl _)]
 simp only [Option.bind_some]
 rw [zLL (by simp; omega)]
 simp only [Option.bind_some]
 have:zFk (List.take (List.filter (fun x=> !p x) a).length ys++List.replicate (List.take (ys.length-(List.filter (fun x=> !p x) a).length) (List.drop (List.filter (fun x=> !p x) a).length ys)).length zero++
   List.drop ((List.filter (fun x=> !p x) a).length +(List.take (ys.length-(List.filter (fun x=> !p x) a).length) (List.drop (List.filter (fun x=> !p x) a).length ys)).length) ys) ((0:Nat):Int) ((a.filter (fun x=> !p x)).length :Int)=some (a.filter (fun x=> !p x)):=by
  rw [zF4 (by omega) (by simp; omega)]
  rw [h2]
  simp
 exact (congrArg (fun o=>Option.bind o fun q=>some q) this)
end del
section del
variable {α:Type} (p:α→Bool)
theorem zJ2 (a:List α) (zero:α) (hl:a.length≤1048577) {b1:Int→Option (Lp Int (Fl Int Unit))} {b2:(List α×Int×Int)→Option (Lp (List α×Int×Int) (List α×Int))}
  (h1:∀(i:Nat) (hi:i<a.length),b1 (i:Int)=some (if p a[i] then .done (.ret (i:Int)) else .go ((i+1:Nat):Int))) (h1e:b1 (a.length:Int)=some (.done (.nxt ())))
  (h2:∀(xs:List α) (i j:Nat) (hj:j<xs.length),i≤j→xs.length=a.length→xs[j]∈a→b2 (xs,(i:Int),(j:Int))=some (.go (if p xs[j] then (xs,(i:Int),((j+1:Nat):Int)) else (xs.set i xs[j],((i+1:Nat):Int),((j+1:Nat):Int)))))
  (h2e:∀(xs:List α) (i:Nat),xs.length=a.length→b2 (xs,(i:Int),(xs.length:Int))=some (.done (xs,(i:Int)))):
  ((loop b1 0).bind (Fl.go some fun _=>some (-1))).bind (fun x4=>if x4==(-1) then (some a) else ((loop b2 (a,x4,w64 (x4+1))).bind fun v26=>(zFk v26.1 v26.2 (v26.1.length:Int)).bind fun x27=>(zLj v26.1 v26.2 x27.length zero).bind fun x29=>(zFk x29 0 v26.2).bind fun x31=>some x31))=some (a.filter (fun x=> !p x)):=by
 obtain ⟨t,e,h⟩:=zM2 p a (fun i=>i) (b:=b1) (by omega) h1 h1e
 rw [e]
 rcases h with ⟨rfl,hn⟩|⟨i,hi,rfl,hp,hn⟩
 ·show some a=_
  congr 1
  exact (List.filter_eq_self.2 (fun x hx=>by rw [hn x hx]; rfl)).symm
 ·simp only [Option.bind_some,Fl.go]
  rw [if_neg (by simp),zM (by omega)]
  obtain ⟨ys,e2,h3,h4⟩:=zLp p a (b:=b2) (by omega) h2 h2e i (i+1) (by omega) (by omega) (by
   rw [List.take_succ_eq_append_getElem hi,List.filter_append]
   rw [List.filter_eq_self.2 (fun x hx=>by rw [hn x hx]; rfl)]
   simp [hp])
  rw [e2]
  simp only [Option.bind_some]
  exact zNs p zero h3 h4
end del
def vE {α R:Type} (g:Nat→α→Option R):Nat→List α→Option R
 |_,[]=>none
 |i,x::xs=>match g i x with
  |some r=>some r
  |none=>vE g (i+1) xs
def frs {R:Type}:Option R→Fl R Unit
 |some r=>.ret r
 |none=>.nxt ()
theorem zHM {α R:Type} (xs:List α) (g:Nat→α→Option R) {b:Int→Option (Lp Int (Fl R Unit))}
  (hstep:∀(i:Nat) (hi:i<xs.length),b (i:Int)=some (match g i xs[i] with|some r=>.done (.ret r)|none=>.go ((i+1:Nat):Int))) (hend:b (xs.length:Int)=some (.done (.nxt ()))):
  ∀(k i:Nat),i+k=xs.length→loop b (i:Int)=some (frs (vE g i (xs.drop i)))
 |0,i,h=>by
  have e:i=xs.length:=by omega
  subst e
  rw [tX,hend,List.drop_length]
  rfl
 |k+1,i,h=>by
  have hi:i<xs.length:=by omega
  have ih:=zHM xs g hstep hend k (i+1) (by omega)
  rw [tX,hstep i hi,List.drop_eq_getElem_cons hi]
  simp only [vE]
  cases g i xs[i] with
  |some r=>rfl
  |none=>exact ih
theorem wQ {α R:Type} (xs:List α) (g:Nat→α→Option R) {b:Int→Option (Lp Int (Fl R Unit))}
  (hstep:∀(i:Nat) (hi:i<xs.length),b (i:Int)=some (match g i xs[i] with|some r=>.done (.ret r)|none=>.go ((i+1:Nat):Int))) (hend:b (xs.length:Int)=some (.done (.nxt ()))):
  loop b 0=some (frs (vE g 0 xs)):=by
 have:=zHM xs g hstep hend xs.length 0 (by omega)
 simpa using this
theorem zB2 {R T:Type} (o:Option R) (f:R→Option T) (h:Unit→Option T):(some (frs o)).bind (Fl.go f h)=match o with|some r=>f r|none=>h ():=by
 cases o<;>rfl
theorem zCk {α:Type} (p:α→Bool):∀(xs:List α) (i:Nat),((vE (fun j x=>if p x then some (j:Int) else none) i xs).getD (-1)≥0)↔xs.any p=true
 |[],i=>by simp [vE]
 |x::xs,i=>by
  simp only [vE]
  cases h:p x
  ·simp only [Bool.false_eq_true,if_false,List.any_cons,h,Bool.false_or]
   exact zCk p xs (i+1)
  ·simp [h]
theorem zFZ {α:Type} (p:α→Bool):∀(xs:List α) (i:Nat),(vE (fun _ x=>if p x then some true else none) i xs).getD false=xs.any p
 |[],i=>rfl
 |x::xs,i=>by
  simp only [vE]
  cases h:p x
  ·simp only [Bool.false_eq_true,if_false,List.any_cons,h,Bool.false_or]
   exact zFZ p xs (i+1)
  ·simp [h]
def foldI {α A:Type} (f:Nat→A→α→A):Nat→List α→A→A
 |_,[],a=>a
 |i,x::xs,a=>foldI f (i+1) xs (f i a x)
theorem zEU {α A:Type} (xs:List α) (f:Nat→A→α→A) (I:Nat→A→Prop) {b:(A×Int)→Option (Lp (A×Int) A)}
  (hstep:∀(i:Nat) (a:A) (hi:i<xs.length),I i a→b (a,(i:Int))=some (.go (f i a xs[i],((i+1:Nat):Int)))∧I (i+1) (f i a xs[i])) (hend:∀a,b (a,(xs.length:Int))=some (.done a)):
  ∀(k i:Nat) (a:A),i+k=xs.length→I i a→loop b (a,(i:Int))=some (foldI f i (xs.drop i) a)∧I xs.length (foldI f i (xs.drop i) a)
 |0,i,a,h,hI=>by
  have e:i=xs.length:=by omega
  subst e
  rw [tX,hend,List.drop_length]
  exact ⟨rfl,hI⟩
 |k+1,i,a,h,hI=>by
  have hi:i<xs.length:=by omega
  obtain ⟨h1,h2⟩:=hstep i a hi hI
  have ih:=zEU xs f I hstep hend k (i+1) _ (by omega) h2
  rw [tX,h1,List.drop_eq_getElem_cons hi]
  exact ih
theorem zEb {o:Option Int} {b:Bool} (h:(o.getD (-1)≥0)↔b=true):decide (o.getD (-1)≥0)=b:=by
 rw [Bool.eq_iff_iff,decide_eq_true_eq]; exact h
theorem zJS:∀(a b:List UInt8),(Lib.compareBytes a b<0↔Op.bytesLess a b=true)∧(Lib.compareBytes a b=0↔a=b)
 |[],[]=>by simp [Lib.compareBytes,Op.bytesLess]
 |[],_::_=>by simp [Lib.compareBytes,Op.bytesLess]
 |_::_,[]=>by simp [Lib.compareBytes,Op.bytesLess]
 |x::a,y::b=>by
  obtain ⟨ih1,ih2⟩:=zJS a b
  simp only [Lib.compareBytes,Op.bytesLess]
  by_cases h1:x<y
  ·simp [h1]
   intro e; subst e; exact absurd h1 (by simp [UInt8.lt_irrefl])
  ·by_cases h2:y<x
   ·simp [h1,h2]
    have hne:x≠y:=fun e=>by subst e; exact absurd h2 (by simp [UInt8.lt_irrefl])
    simp [hne]
   ·have e:x=y:=by
     rw [UInt8.lt_iff_toNat_lt] at h1 h2
     exact UInt8.toNat_inj.1 (by omega)
    subst e
    simp [UInt8.lt_irrefl,ih1,ih2]
theorem zNB (a b:ByteArray):zOU a b<0↔slt a b=true:=by
 unfold zOU slt
 rw [ByteArray.toList_eq,ByteArray.toList_eq]
 exact (zJS _ _).1
def zMn (c:Int):Bool:=decide (97≤c)&&decide (c≤122)
def zIH (c:Int):Bool:=decide (48≤c)&&decide (c≤57)
def zLn (c:Int):Bool:=zMn c||(zIH c||c==95)
theorem zHj (c:Int):tT c=some (zMn c):=by
 unfold tT zMn
 by_cases h:c≥97<;>simp [h]
theorem zLc (c:Int):zB1 c=some (zIH c):=by
 unfold zB1 zIH
 by_cases h:c≥48<;>simp [h]
theorem zLM (c:Int):zD8 c=some (zLn c):=by
 unfold zD8 zLn
 simp only [zHj,zLc,Option.bind_some]
 cases zMn c<;>cases zIH c<;>simp
theorem zIg (c:Int):zAx c=some (zLn c):=by
 unfold zAx zLn zMn zIH
 by_cases h1:c≥97<;>by_cases h2:c≤122<;>by_cases h3:c≥48<;>by_cases h4:c≤57<;>simp [h1,h2,h3,h4]
def zIx (s:ByteArray):Int:=(vE (fun _ c=>if zLn c then none else some (5:Int)) 0 (bl s)).getD 0
def NF (s:ByteArray):Int:=if s.size<1 then 5 else if s.size>12 then 5 else if zMn ((bl s).headD 0) then zIx s else 5
theorem zMi {s:ByteArray} (h:1≤s.size):bidx s 0=some ((bl s).headD 0):=by
 have h':0< (bl s).length :=by rw [zEW]; exact h
 have e:=zIz (s:=s) (i:=0) h'
 rw [show ((0:Nat):Int)=0 from rfl] at e
 rw [e]
 have:(bl s)[0]? =some ((bl s).headD 0):=by
  cases hb:bl s with
  |nil=>rw [hb] at h'; simp at h'
  |cons c l=>rfl
 rw [List.getElem?_eq_getElem h'] at this
 exact this
theorem zI0 (s:ByteArray) (h:s.size≤12):zAf s 0=some (frs (vE (fun _ c=>if zLn c then none else some (5:Int)) 0 (bl s))):=by
 unfold zAf
 refine wQ (bl s) _ (fun i hi=>?_) ?_
 ·have hs:i<s.size:=by rw [←zEW]; exact hi
  unfold zCn
  rw [if_pos (by simp; omega),zIz hi]
  simp only [Option.bind_some,zLM]
  rw [zM (by omega)]
  cases zLn (bl s)[i]<;>rfl
 ·unfold zCn
  rw [if_neg (by rw [zEW]; simp)]
theorem zIp (s:ByteArray) (h:s.size≤12):zAa s 0=some (frs (vE (fun _ c=>if zLn c then none else some (5:Int)) 0 (bl s))):=by
 unfold zAa
 refine wQ (bl s) _ (fun i hi=>?_) ?_
 ·have hs:i<s.size:=by rw [←zEW]; exact hi
  unfold zCq
  rw [if_pos (by simp; omega),zIz hi]
  simp only [Option.bind_some,zIg]
  rw [zM (by omega)]
  cases zLn (bl s)[i]<;>rfl
 ·unfold zCq
  rw [if_neg (by rw [zEW]; simp)]
theorem zEL (s:ByteArray):uQ s=some (NF s):=by
 unfold uQ NF
 by_cases h1:s.size<1
 ·rw [if_pos (show decide ((s.size:Int)<1)=true by rw [decide_eq_true_eq]; omega),if_pos h1]; rfl
 rw [if_neg (show ¬decide ((s.size:Int)<1)=true by rw [decide_eq_true_eq]; omega),if_neg h1]
 by_cases h2:s.size>12
 ·rw [if_pos (show decide ((s.size:Int)>12)=true by rw [decide_eq_true_eq]; omega),if_pos h2]; rfl
 rw [if_neg (show ¬decide ((s.size:Int)>12)=true by rw [decide_eq_true_eq]; omega),if_neg h2,zMi (by omega),zI0 s (by omega)]
 simp only [Option.bind_some,zHj]
 cases h3:zMn ((bl s).headD 0)
 ·rfl
 ·unfold zIx
  cases vE (fun _ c=>if zLn c then none else some (5:Int)) 0 (bl s)<;>rfl
theorem zMF (c:Int):(if decide (c<97)=true then some true else some (decide (c>122)))=some (!(zMn c)):=by
 unfold zMn
 by_cases h3:c<97
 ·rw [if_pos (by rw [decide_eq_true_eq]; exact h3)]
  have:decide (97≤c)=false:=by rw [decide_eq_false_iff_not]; omega
  rw [this]; rfl
 ·rw [if_neg (by rw [decide_eq_true_eq]; exact h3)]
  have:decide (97≤c)=true:=by rw [decide_eq_true_eq]; omega
  rw [this]
  congr 1
  rw [Bool.true_and,Bool.eq_iff_iff]
  simp
theorem zEK (s:ByteArray):uP s=some (NF s):=by
 unfold uP NF
 by_cases h1:s.size<1
 ·rw [if_pos (show decide ((s.size:Int)<1)=true by rw [decide_eq_true_eq]; omega),if_pos h1]; rfl
 rw [if_neg (show ¬decide ((s.size:Int)<1)=true by rw [decide_eq_true_eq]; omega),if_neg h1]
 by_cases h2:s.size>12
 ·rw [if_pos (show decide ((s.size:Int)>12)=true by rw [decide_eq_true_eq]; omega),if_pos h2]; rfl
 rw [if_neg (show ¬decide ((s.size:Int)>12)=true by rw [decide_eq_true_eq]; omega),if_neg h2,zMi (by omega),zIp s (by omega)]
 simp only [Option.bind_some,zMF]
 cases h3:zMn ((bl s).headD 0)
 ·rfl
 ·unfold zIx
  cases vE (fun _ c=>if zLn c then none else some (5:Int)) 0 (bl s)<;>rfl
def VF (v:Version):Int:=if inB v.A 0 999&&inB v.B 0 999&&inB v.C 0 999 then 0 else 3
theorem zEY (v:Version):vD v=some (VF v):=by
 unfold vD VF
 simp only [zJp,Option.bind_some]
 cases inB v.A 0 999<;>cases inB v.B 0 999<;>cases inB v.C 0 999<;>rfl
theorem zER (v:Version):vC v=some (VF v):=by
 unfold vC VF
 simp only [zHp,Option.bind_some]
 cases inB v.A 0 999<;>cases inB v.B 0 999<;>cases inB v.C 0 999<;>rfl
def sgn (a b:Int):Int:=if a<b then-1 else if a>b then 1 else 0
theorem zLX (a b:Int):zAs a b=some (sgn a b):=by
 unfold zAs sgn
 by_cases h:a<b
 ·simp [h]
 ·by_cases h2:a>b<;>simp [h,h2]
theorem cmp_eq (a b:Int):vB a b=some (sgn a b):=by
 unfold vB kD sgn
 simp only [Option.bind_some,bne_self_eq_false,Bool.false_eq_true,if_false]
 by_cases h:a<b
 ·simp [h]
 ·by_cases h2:a>b<;>simp [h,h2]
def zHL (a b:Version):Int:=if sgn a.A b.A≠0 then sgn a.A b.A else if sgn a.B b.B≠0 then sgn a.B b.B else sgn a.C b.C
theorem zDk (a b:Version):xI a b=some (zHL a b):=by
 unfold xI zHL
 simp only [zLX,Option.bind_some]
 by_cases h1:sgn a.A b.A=0
 ·by_cases h2:sgn a.B b.B=0<;>simp [h1,h2]
 ·simp [h1]
theorem zN4 (l:List Int) (h:l.length≤10):loop (zDl l) 0=some (frs (vE (fun _ c=>if c !=0 then some c else none) 0 l)):=by
 refine wQ l _ (fun i hi=>?_) ?_
 ·unfold zDl
  rw [if_pos (by simp; omega),zI hi]
  simp only [Option.bind_some]
  rw [zM (by omega)]
  cases l[i] !=0<;>rfl
 ·unfold zDl
  rw [if_neg (by simp)]
theorem zGC (a b:Version):jO a b=some (zHL a b):=by
 unfold jO zHL zEy zDO
 simp only [cmp_eq,Option.bind_some]
 rw [zN4 _ (by simp),zB2]
 by_cases h1:sgn a.A b.A=0
 ·by_cases h2:sgn a.B b.B=0
  ·by_cases h3:sgn a.C b.C=0<;>simp [h1,h2,h3,vE]
  ·simp [h1,h2,vE]
 ·simp [h1,vE]
theorem zLQ (a b:Version):zHL b a= -zHL a b:=by
 unfold zHL sgn
 split<;>split<;>omega
def eqV (a b:Version):Bool:=a.A==b.A&&(a.B==b.B&&(a.C==b.C&&true))
theorem zLF (a b:Version):(zHL a b==0)=eqV a b:=by
 unfold zHL eqV sgn
 rw [Bool.eq_iff_iff]
 simp only [beq_iff_eq,Bool.and_eq_true,Bool.and_true]
 constructor
 ·intro h
  split at h<;>omega
 ·intro ⟨h1,h2,h3⟩
  split<;>omega
def zOI:Version:= {A:=1000,B:=0,C:=0}
def TF (t:Term):Int:=if NF t.Name≠0 then NF t.Name else if VF t.Low≠0 then VF t.Low else
 if eqV t.High zOI=false∧VF t.High≠0 then 3 else if zHL t.Low t.High≥0 then 1 else 0
theorem zHC (t:Term):zAX t=some (TF t):=by
 unfold zAX TF zDW
 simp only [zEL,zEY,zDk,Option.bind_some]
 show (if (NF t.Name !=0)=true then some (NF t.Name) else if (VF t.Low !=0)=true then some (VF t.Low) else (if (!(eqV t.High zOI))=true then some (VF t.High !=0) else some false).bind fun v=>if v=true then some 3 else if decide (zHL t.Low t.High≥0)=true then some 1 else some 0)=_
 generalize NF t.Name=a
 generalize VF t.Low=b
 generalize eqV t.High zOI=c
 generalize VF t.High=d
 generalize zHL t.Low t.High=e
 by_cases h1:a=0
 ·by_cases h2:b=0
  ·by_cases h4:d=0<;>by_cases h5:e≥0<;>cases c<;>simp [h1,h2,h4,h5]
  ·simp [h1,h2]
 ·simp [h1]
theorem zHF (t:Term):zAV t=some (TF t):=by
 unfold zAV TF zFf
 simp only [zEK,zER,zGC,Option.bind_some]
 show (if (NF t.Name !=0)=true then some (NF t.Name) else if (VF t.Low !=0)=true then some (VF t.Low) else (if (!(eqV t.High zOI))=true then some (VF t.High !=0) else some false).bind fun v=>if v=true then some 3 else if decide (zHL t.Low t.High≥0)=true then some 1 else some 0)=_
 generalize NF t.Name=a
 generalize VF t.Low=b
 generalize eqV t.High zOI=c
 generalize VF t.High=d
 generalize zHL t.Low t.High=e
 by_cases h1:a=0
 ·by_cases h2:b=0
  ·by_cases h4:d=0<;>by_cases h5:e≥0<;>cases c<;>simp [h1,h2,h4,h5]
  ·simp [h1,h2]
 ·simp [h1]
def tsF (l:List Term):Int:=(vE (fun _ t=>if TF t !=0 then some (TF t) else none) 0 l).getD 0
theorem zG9 (l:List Term) (h:l.length≤1048576):kX l=some (tsF l):=by
 have key:=wQ l (fun _ t=>if TF t !=0 then some (TF t) else none) (b:=zBV l) (by
  intro i hi
  unfold zBV
  rw [if_pos (by simp; omega),zI hi]
  simp only [Option.bind_some,zHC]
  rw [zM (by omega)]
  cases TF l[i] !=0<;>rfl) (by
  unfold zBV
  rw [if_neg (by simp)])
 unfold kX zCM tsF
 rw [key,zB2]
 cases vE (fun _ t=>if TF t !=0 then some (TF t) else none) 0 l<;>rfl
theorem zFt (l:List Term) (h:l.length≤1048576):uM l=some (tsF l):=by
 have key:=wQ l (fun _ t=>if TF t !=0 then some (TF t) else none) (b:=zAt l) (by
  intro i hi
  unfold zAt
  rw [if_pos (by simp; omega),zI hi]
  simp only [Option.bind_some,zHF]
  rw [zM (by omega)]
  cases TF l[i] !=0<;>rfl) (by
  unfold zAt
  rw [if_neg (by simp)])
 unfold uM zAL tsF
 rw [key,zB2]
 cases vE (fun _ t=>if TF t !=0 then some (TF t) else none) 0 l<;>rfl
theorem zI1 (a b:ByteArray):seq a b=seq b a:=by
 unfold seq
 rw [Bool.eq_iff_iff]
 simp only [beq_iff_eq]
 exact eq_comm
theorem zFr {α R:Type} (g:Nat→α→Option R):∀(xs:List α) (i:Nat),vE g i xs=none↔∀(j:Nat) (h:j<xs.length),g (i+j) xs[j]=none
 |[],i=>by simp [vE]
 |x::xs,i=>by
  simp only [vE]
  cases h:g i x with
  |some r=>
   simp only [reduceCtorEq,false_iff]
   intro hh
   have:=hh 0 (by simp)
   simp only [Nat.add_zero,List.getElem_cons_zero] at this
   rw [h] at this
   cases this
  |none=>
   show vE g (i+1) xs=none↔_
   rw [zFr g xs (i+1)]
   constructor
   ·intro hh j hj
    cases j with
    |zero=>simpa using h
    |succ j=>
     have:=hh j (by simpa using hj)
     rw [show i+(j+1)=i+1+j by omega]
     simpa using this
   ·intro hh j hj
    have:=hh (j+1) (by simpa using hj)
    rw [show i+(j+1)=i+1+j by omega] at this
    simpa using this
theorem zGn {α:Type} {xs:List α} {i:Nat} (h:i≤xs.length):zFk xs 0 (i:Int)=some (xs.take i):=by
 have:=zF4 (xs:=xs) (l:=0) (h:=i) (by omega) h
 rw [show ((0:Nat):Int)=0 from rfl] at this
 rw [this]
 simp
theorem zDX (l:List ByteArray) (n:ByteArray) (h:l.length≤1048576):wL l n=some (l.any fun x=>seq x n):=by
 have key:=wQ l (fun _ x=>if seq x n then some true else none) (b:=zBY l n) (by
  intro i hi
  unfold zBY
  rw [if_pos (by simp; omega),zI hi]
  simp only [Option.bind_some]
  rw [zM (by omega)]
  cases seq l[i] n<;>rfl) (by
  unfold zBY
  rw [if_neg (by simp)])
 unfold wL zC0
 rw [key,zB2,←zFZ (fun x=>seq x n) l 0]
 cases vE (fun _ x=>if seq x n then some true else none) 0 l<;>rfl
theorem zDd (l:List ByteArray) (n:ByteArray) (h:l.length≤1048576):zZ l n=some (l.any fun x=>seq x n):=by
 have key:=wQ l (fun i x=>if seq x n then some (i:Int) else none) (b:=tH l n) (by
  intro i hi
  unfold tH
  rw [if_pos (by simp; omega),zI hi]
  simp only [Option.bind_some]
  rw [zM (by omega),zI1 n]
  cases seq l[i] n<;>rfl) (by
  unfold tH
  rw [if_neg (by simp)])
 unfold zZ jL tV
 rw [key,zB2]
 rw [←zEb (zCk (fun x=>seq x n) l 0)]
 cases vE (fun j x=>if seq x n then some (j:Int) else none) 0 l<;>rfl
def zJN (p:Pack) (i:Nat) (n:ByteArray):Option Int:=if NF n !=0 then some (NF n) else if seq n p.Name||(p.Provides.take i).any (fun x=>seq x n) then some 6 else none
def zJw (_:Nat) (l:List Term):Option Int:=if (l.length:Int)==0 then some 1 else if tsF l !=0 then some (tsF l) else none
def zKU (p:Pack):Bool:=decide ((p.Provides.length:Int)>4)||(decide ((p.Needs.length:Int)>4)||(decide ((p.Bars.length:Int)>4)||p.Needs.any (fun l=>decide ((l.length:Int)>4))))
def zIG (p:Pack):Int:=match vE (zJN p) 0 p.Provides with
 |some r=>r
 |none=>match vE zJw 0 p.Needs with
  |some r=>r
  |none=>tsF p.Bars
def PF (p:Pack):Int:=if NF p.Name !=0 then NF p.Name else if VF p.Version !=0 then VF p.Version else if !(inB p.Size 1 200) then 3 else if zKU p then 2 else zIG p
theorem zHo (p:Pack) (hp:Pack.sm 1048576 p):((zAb p 0).bind (Fl.go some fun v60=>(zAh p 0).bind (Fl.go some fun v80=>(kX p.Bars).bind fun x81=>some x81)))=some (zIG p):=by
 obtain ⟨_,_,_,hpr,hne,hba⟩:=hp
 have k2:=wQ p.Provides (zJN p) (b:=zAF p) (by
  intro i hi
  unfold zAF zJN
  rw [if_pos (by simp; omega),zI hi]
  simp only [Option.bind_some,zEL]
  rw [zGn (by omega)]
  simp only [Option.bind_some]
  rw [zDX _ _ (by simp; omega),zM (by omega)]
  simp only [Option.bind_some]
  cases NF p.Provides[i] !=0<;>cases seq p.Provides[i] p.Name<;>cases (p.Provides.take i).any (fun x=>seq x p.Provides[i])<;>rfl) (by
  unfold zAF
  rw [if_neg (by simp)])
 have k3:=wQ p.Needs zJw (b:=zAU p) (by
  intro i hi
  unfold zAU zJw
  rw [if_pos (by simp; omega),zI hi]
  simp only [Option.bind_some]
  rw [zG9 _ (hne.2 _ (List.getElem_mem hi)).1,zM (by omega)]
  simp only [Option.bind_some]
  cases (p.Needs[i].length :Int)==0<;>cases tsF p.Needs[i] !=0<;>rfl) (by
  unfold zAU
  rw [if_neg (by simp)])
 unfold zAb zAh zIG
 rw [k2,k3,zG9 _ hba.1]
 cases vE (zJN p) 0 p.Provides<;>cases vE zJw 0 p.Needs<;>rfl
theorem zGE (p:Pack) (hp:Pack.sm 1048576 p):((zAi p 0).bind (Fl.go some fun v46=>(zAg p 0).bind (Fl.go some fun v62=>(uM p.Bars).bind fun x63=>some x63)))=some (zIG p):=by
 obtain ⟨_,_,_,hpr,hne,hba⟩:=hp
 have k2:=wQ p.Provides (zJN p) (b:=zA5 p) (by
  intro i hi
  unfold zA5 zJN
  rw [if_pos (by simp; omega),zI hi]
  simp only [Option.bind_some,zEK]
  rw [zGn (by omega)]
  simp only [Option.bind_some]
  rw [zDd _ _ (by simp; omega),zM (by omega)]
  simp only [Option.bind_some]
  cases NF p.Provides[i] !=0<;>cases seq p.Provides[i] p.Name<;>cases (p.Provides.take i).any (fun x=>seq x p.Provides[i])<;>rfl) (by
  unfold zA5
  rw [if_neg (by simp)])
 have k3:=wQ p.Needs zJw (b:=zAQ p) (by
  intro i hi
  unfold zAQ zJw
  rw [if_pos (by simp; omega),zI hi]
  simp only [Option.bind_some]
  rw [zFt _ (hne.2 _ (List.getElem_mem hi)).1,zM (by omega)]
  simp only [Option.bind_some]
  cases (p.Needs[i].length :Int)==0<;>cases tsF p.Needs[i] !=0<;>rfl) (by
  unfold zAQ
  rw [if_neg (by simp)])
 unfold zAi zAg zIG
 rw [k2,k3,zFt _ hba.1]
 cases vE (zJN p) 0 p.Provides<;>cases vE zJw 0 p.Needs<;>rfl
theorem zF8 {α R:Type} (p:α→Bool) (r:R):∀(xs:List α) (i:Nat),vE (fun _ x=>if p x then some r else none) i xs=if xs.any p then some r else none
 |[],i=>rfl
 |x::xs,i=>by
  simp only [vE]
  cases h:p x
  ·simp only [Bool.false_eq_true,if_false,List.any_cons,h,Bool.false_or]
   exact zF8 p r xs (i+1)
  ·simp [h]
theorem zHJ (p:Pack) (hp:Pack.sm 1048576 p):zAY p=some (PF p):=by
 have hl:=zHo p hp
 obtain ⟨_,_,_,hpr,hne,hba⟩:=hp
 have k1:=wQ p.Needs (fun _ l=>if decide ((l.length:Int)>4) then some (2:Int) else none) (b:=zAJ p) (by
  intro i hi
  unfold zAJ
  rw [if_pos (by simp; omega),zI hi]
  simp only [Option.bind_some]
  rw [zM (by omega)]
  cases decide ((p.Needs[i].length :Int)>4)<;>rfl) (by
  unfold zAJ
  rw [if_neg (by simp)])
 rw [zF8] at k1
 unfold zAY PF zKU
 simp only [zEL,zEY,zJp,Option.bind_some]
 rw [hl]
 unfold zBq
 rw [k1]
 cases NF p.Name !=0<;>cases VF p.Version !=0<;>cases inB p.Size 1 200<;>cases decide ((p.Provides.length:Int)>4)<;>cases decide ((p.Needs.length:Int)>4)<;>cases decide ((p.Bars.length:Int)>4)<;>cases p.Needs.any (fun l=>decide ((l.length:Int)>4))<;>rfl
theorem zJZ (l:List Int) (h:l.length≤10):loop (zAK l) 0=some (frs (vE (fun _ c=>if c !=0 then some c else none) 0 l)):=by
 refine wQ l _ (fun i hi=>?_) ?_
 ·unfold zAK
  rw [if_pos (by simp; omega),zI hi]
  simp only [Option.bind_some]
  rw [zM (by omega)]
  cases l[i] !=0<;>rfl
 ·unfold zAK
  rw [if_neg (by simp)]
theorem zHH (p:Pack) (hp:Pack.sm 1048576 p):zBa p=some (PF p):=by
 have hl:=zGE p hp
 obtain ⟨_,_,_,hpr,hne,hba⟩:=hp
 have k1:=wQ p.Needs (fun i l=>if decide ((l.length:Int)>4) then some (i:Int) else none) (b:=yT p.Needs) (by
  intro i hi
  unfold yT zA1
  rw [if_pos (by simp; omega),zI hi]
  simp only [Option.bind_some]
  rw [zM (by omega)]
  cases decide ((p.Needs[i].length :Int)>4)<;>rfl) (by
  unfold yT
  rw [if_neg (by simp)])
 have k2:zQ p.Needs=some (p.Needs.any (fun l=>decide ((l.length:Int)>4))):=by
  unfold zQ yL xA
  rw [k1,zB2,←zEb (zCk (fun l:List Term=>decide ((l.length:Int)>4)) p.Needs 0)]
  cases vE (fun j (x:List Term)=>if decide ((x.length:Int)>4) then some (j:Int) else none) 0 p.Needs<;>rfl
 have k3:uS [NF p.Name,VF p.Version]=some (if NF p.Name !=0 then NF p.Name else VF p.Version):=by
  have k:=zJZ [NF p.Name,VF p.Version] (by simp)
  unfold uS zAe
  rw [k,zB2]
  simp only [vE]
  cases hn:NF p.Name !=0
  ·cases hv:VF p.Version !=0
   ·have:VF p.Version=0:=by simpa using hv
    simp [this]
   ·rfl
  ·rfl
 unfold zBa PF zKU
 simp only [zEK,zER,zHp,Option.bind_some]
 rw [hl,k2,k3]
 simp only [Option.bind_some]
 cases hn:NF p.Name !=0
 ·simp only [Bool.false_eq_true,if_false]
  cases VF p.Version !=0<;>cases inB p.Size 1 200<;>cases decide ((p.Provides.length:Int)>4)<;>cases decide ((p.Needs.length:Int)>4)<;>cases decide ((p.Bars.length:Int)>4)<;>cases p.Needs.any (fun l=>decide ((l.length:Int)>4))<;>rfl
 ·simp only [if_true,hn]
def isB (n:ByteArray) (v:Version) (q:Pack):Bool:=seq q.Name n&&eqV q.Version v
def zL1 (c:List Pack) (n:ByteArray) (v:Version):Int:=(vE (fun i q=>if isB n v q then some (i:Int) else none) 0 c).getD (-1)
theorem zID (c:List Pack) (n:ByteArray) (v:Version):decide (zL1 c n v≥0)=c.any (isB n v):=zEb (zCk (isB n v) c 0)
theorem zKC (c:List Pack) (n:ByteArray) (v:Version) (h:c.length≤1048576):zC5 c n v=some (zL1 c n v):=by
 have key:=wQ c (fun i q=>if isB n v q then some (i:Int) else none) (b:=zC3 c n v) (by
  intro i hi
  unfold zC3 isB
  rw [if_pos (by simp; omega),zI hi]
  simp only [Option.bind_some,zDk,zLF]
  rw [zM (by omega)]
  cases seq c[i].Name n<;>cases eqV c[i].Version v<;>rfl) (by
  unfold zC3
  rw [if_neg (by simp)])
 unfold zL1
 unfold zC5 zDm
 rw [key,zB2]
 cases vE (fun i q=>if isB n v q then some (i:Int) else none) 0 c<;>rfl
theorem zKS (c:List Pack) (n:ByteArray) (v:Version) (h:c.length≤1048576):zEk c n v=some (zL1 c n v):=by
 have key:=wQ c (fun i q=>if isB n v q then some (i:Int) else none) (b:=xX c n v) (by
  intro i hi
  unfold xX isB zDY
  rw [if_pos (by simp; omega),zI hi]
  simp only [Option.bind_some]
  rw [zM (by omega)]
  show (Option.bind (if seq c[i].Name n=true then some (eqV c[i].Version v) else some false) _)=_
  cases seq c[i].Name n<;>cases eqV c[i].Version v<;>rfl) (by
  unfold xX
  rw [if_neg (by simp)])
 unfold zL1
 unfold zEk xO wC
 rw [key,zB2]
 cases vE (fun i q=>if isB n v q then some (i:Int) else none) 0 c<;>rfl
theorem find_spec (c:List Pack) (n:ByteArray) (v:Version) (h:c.length≤1048576):∃k,zC5 c n v=some k∧decide (k≥0)=c.any (isB n v):=⟨_,zKC c n v h,zID c n v⟩
theorem zL9 (c:List Pack) (n:ByteArray) (v:Version) (h:c.length≤1048576):∃k,zEk c n v=some k∧decide (k≥0)=c.any (isB n v):=⟨_,zKS c n v h,zID c n v⟩
def zMl (c:List Pack) (i:Nat) (p:Pack):Option Int:=if PF p !=0 then some (PF p) else if (c.take i).any (isB p.Name p.Version) then some 6 else none
def CF (c:List Pack):Int:=if decide ((c.length:Int)>24) then 2 else (vE (zMl c) 0 c).getD 0
theorem zG2 (c:List Pack) (hc:c.length≤1048576∧∀y0∈c,Pack.sm 1048576 y0):jT c=some (CF c):=by
 have key:=wQ c (zMl c) (b:=kF c) (by
  intro i hi
  unfold kF zMl
  rw [if_pos (by simp; omega),zI hi]
  simp only [Option.bind_some]
  rw [zHJ _ (hc.2 _ (List.getElem_mem hi)),zGn (by omega)]
  simp only [Option.bind_some]
  obtain ⟨k,e,hk⟩:=find_spec (c.take i) c[i].Name c[i].Version (by simp; omega)
  rw [e,zM (by omega)]
  simp only [Option.bind_some]
  rw [hk]
  cases PF c[i] !=0<;>cases (c.take i).any (isB c[i].Name c[i].Version)<;>rfl) (by
  unfold kF
  rw [if_neg (by simp)])
 unfold jT CF kQ
 rw [key,zB2]
 cases decide ((c.length:Int)>24)<;>cases vE (zMl c) 0 c<;>rfl
theorem zGz (c:List Pack) (hc:c.length≤1048576∧∀y0∈c,Pack.sm 1048576 y0):jU c=some (CF c):=by
 have key:=wQ c (zMl c) (b:=kH c) (by
  intro i hi
  unfold kH zMl
  rw [if_pos (by simp; omega),zI hi]
  simp only [Option.bind_some]
  rw [zHH _ (hc.2 _ (List.getElem_mem hi)),zGn (by omega)]
  simp only [Option.bind_some]
  obtain ⟨k,e,hk⟩:=zL9 (c.take i) c[i].Name c[i].Version (by simp; omega)
  rw [e,zM (by omega)]
  simp only [Option.bind_some]
  rw [hk]
  cases PF c[i] !=0<;>cases (c.take i).any (isB c[i].Name c[i].Version)<;>rfl) (by
  unfold kH
  rw [if_neg (by simp)])
 unfold jU CF kS
 rw [key,zB2]
 cases decide ((c.length:Int)>24)<;>cases vE (zMl c) 0 c<;>rfl
def noPack:Pack:= {Name:=ByteArray.empty,Version:= {A:=0,B:=0,C:=0},Size:=0,Provides:=[],Needs:=[],Bars:=[]}
def pat (c:List Pack) (k:Int):Pack:=(idx c k).getD noPack
def Places (c:List Pack) (a:List Int):Prop:=∀k∈a,0≤k∧k<c.length
theorem zAr {c:List Pack} {k:Int} (h:0≤k∧k<c.length):idx c k=some (pat c k)∧pat c k∈c:=by
 unfold pat idx
 rw [if_pos h.1]
 have:k.toNat<c.length:=by omega
 rw [List.getElem?_eq_getElem this]
 exact ⟨rfl,List.getElem_mem this⟩
def Cat (c:List Pack):Prop:=c.length≤1048576∧∀y0∈c,Pack.sm 1048576 y0
theorem Cat.zOG {c:List Pack} (hc:Cat c) {k:Int} (h:0≤k∧k<c.length):(pat c k).Provides.length ≤1048576:=(hc.2 _ (zAr h).2).2.2.2.1.1
theorem Cat.needs {c:List Pack} (hc:Cat c) {k:Int} (h:0≤k∧k<c.length):(pat c k).Needs.length ≤1048576:=(hc.2 _ (zAr h).2).2.2.2.2.1.1
theorem Cat.clause {c:List Pack} (hc:Cat c) {k:Int} (h:0≤k∧k<c.length) {l:List Term} (hl:l∈(pat c k).Needs):l.length≤1048576:=((hc.2 _ (zAr h).2).2.2.2.2.1.2 l hl).1
theorem Cat.bars {c:List Pack} (hc:Cat c) {k:Int} (h:0≤k∧k<c.length):(pat c k).Bars.length ≤1048576:=(hc.2 _ (zAr h).2).2.2.2.2.2.1
def zLm (c:List Pack) (a:List Int) (i:Nat) (k:Int):Option Bool:=if !(inB k 0 ((c.length:Int)-1))||(decide (0<i)&&decide (k≤a.getD (i-1) 0)) then some false else none
def zMk (c:List Pack) (a:List Int):Bool:=(vE (zLm c a) 0 a).isNone
theorem getD_lt {a:List Int} {i:Nat} (h:i<a.length):a.getD i 0=a[i]:=by simp [List.getD,h]
theorem zLe {c:List Pack} {a:List Int} (hc:c.length≤1048576) (ha:a.length≤1048576):zDV c a=some (zMk c a):=by
 have key:=wQ a (zLm c a) (b:=zDp c a) (by
  intro i hi
  unfold zDp zLm
  rw [if_pos (by simp; omega),zI hi,zCr (x:=(c.length:Int)-1) (by omega) (by omega)]
  simp only [Option.bind_some,zJp]
  by_cases h0:0<i
  ·rw [zCr (x:=(i:Int)-1) (by omega) (by omega),show (i:Int)-1=((i-1:Nat):Int) by omega,zI (show i-1<a.length by omega),getD_lt (show i-1<a.length by omega)]
   have e:decide ((i:Int)>0)=true:=by simp; omega
   have e2:decide (0<i)=true:=by simpa using h0
   rw [e,e2,zM (by omega)]
   simp only [Option.bind_some,Bool.true_and]
   cases inB a[i] 0 ((c.length:Int)-1)<;>cases decide (a[i]≤a[i-1])<;>rfl
  ·have e:decide ((i:Int)>0)=false:=by simp; omega
   have e2:decide (0<i)=false:=by simpa using h0
   rw [e,e2,zM (by omega)]
   cases inB a[i] 0 ((c.length:Int)-1)<;>rfl) (by
  unfold zDp
  rw [if_neg (by simp)])
 unfold zDV zDR zMk
 rw [key,zB2]
 have hf:∀(l:List Int) (i:Nat),vE (zLm c a) i l=none∨vE (zLm c a) i l=some false:=by
  intro l
  induction l with
  |nil=>intro i; exact .inl rfl
  |cons x l ih=>
   intro i
   simp only [vE]
   cases hg:zLm c a i x with
   |none=>exact ih (i+1)
   |some r=>
    unfold zLm at hg
    split at hg
    ·cases hg; exact .inr rfl
    ·cases hg
 rcases hf a 0 with h|h<;>rw [h]<;>rfl
def SF (c:List Pack) (a:List Int):Int:=if CF c !=0 then CF c else if zMk c a then 0 else 1
theorem zGr {c:List Pack} {a:List Int} (hc:Cat c) (ha:a.length≤1048576):kT c a=some (SF c a):=by
 unfold kT SF
 rw [zG2 c hc,zLe hc.1 ha]
 simp only [Option.bind_some]
 cases CF c !=0<;>cases zMk c a<;>rfl
theorem zHG {c:List Pack} {a:List Int} (hc:c.length≤1048576) (ha:a.length≤1048576):zBb c a=some (a.all (fun k=>inB k 0 ((c.length:Int)-1))):=by
 have key:=wQ a (fun i k=>if !(inB k 0 ((c.length:Int)-1)) then some (i:Int) else none) (b:=xL a c) (by
  intro i hi
  unfold xL zAz
  rw [if_pos (by simp; omega),zI hi,zCr (x:=(c.length:Int)-1) (by omega) (by omega)]
  simp only [Option.bind_some,zHp]
  rw [zM (by omega)]
  cases inB a[i] 0 ((c.length:Int)-1)<;>rfl) (by
  unfold xL
  rw [if_neg (by simp)])
 unfold zBb yQ xB xP
 rw [key,zB2]
 have e:a.all (fun k=>inB k 0 ((c.length:Int)-1))= !(a.any (fun k=> !(inB k 0 ((c.length:Int)-1)))):=by
  rw [List.all_eq_not_any_not]
 rw [e,←zEb (zCk (fun k=> !(inB k 0 ((c.length:Int)-1))) a 0)]
 cases vE (fun i k=>if !(inB k 0 ((c.length:Int)-1)) then some (i:Int) else none) 0 a<;>rfl
def zMj (a:List Int) (i:Nat) (k:Int):Option Int:=if decide (k≤a.getD (i-1) 0) then some 1 else none
theorem zK2 (c:List Pack) (a:List Int):zMk c a=((vE (zMj a) 1 (a.drop 1)).isNone &&a.all (fun k=>inB k 0 ((c.length:Int)-1))):=by
 unfold zMk
 rw [Bool.eq_iff_iff,Bool.and_eq_true,Option.isNone_iff_eq_none,Option.isNone_iff_eq_none,zFr,zFr,List.all_eq_true]
 constructor
 ·intro h
  constructor
  ·intro j hj
   have hj':1+j<a.length:=by simp at hj; omega
   have:=h (1+j) hj'
   unfold zLm at this
   unfold zMj
   rw [List.getElem_drop]
   split at this
   ·cases this
   ·rename_i hn
    rw [if_neg]
    intro hx
    apply hn
    rw [Nat.zero_add]
    rw [Bool.or_eq_true,Bool.and_eq_true]
    exact .inr ⟨by rw [decide_eq_true_eq]; omega,hx⟩
  ·intro k hk
   obtain ⟨i,hi,rfl⟩:=List.mem_iff_getElem.1 hk
   have:=h i hi
   unfold zLm at this
   split at this
   ·cases this
   ·rename_i hn
    simp only [Bool.or_eq_true,not_or] at hn
    simpa using hn.1
 ·rintro ⟨h1,h2⟩ j hj
  unfold zLm
  rw [if_neg]
  rw [Nat.zero_add,h2 _ (List.getElem_mem hj)]
  simp only [Bool.not_true,Bool.false_or,Bool.and_eq_true,not_and]
  intro h0 hx
  have h0':0<j:=by simpa using h0
  have hd:j-1< (a.drop 1).length :=by simp; omega
  have:=h1 (j-1) hd
  unfold zMj at this
  rw [List.getElem_drop] at this
  have ej:1+(j-1)=j:=by omega
  simp only [ej] at this
  rw [if_pos hx] at this
  cases this
theorem zGu {c:List Pack} {a:List Int} (hc:Cat c) (ha:a.length≤1048576):kV c a=some (SF c a):=by
 have hend:tF c a (a.length:Int)=some (.done (.nxt ())):=by
  unfold tF
  rw [if_neg (by simp)]
 have key:zA2 c a 1=some (frs (vE (zMj a) 1 (a.drop 1))):=by
  unfold zA2
  rcases Nat.eq_zero_or_pos a.length with h0|h0
  ·have:a=[]:=List.eq_nil_of_length_eq_zero h0
   subst this
   rw [tX]
   unfold tF
   rw [if_neg (by simp)]
   rfl
  ·have hh:∀(k i:Nat),1≤i→i+k=a.length→loop (tF c a) (i:Int)=some (frs (vE (zMj a) i (a.drop i))):=by
    intro k
    induction k with
    |zero=>
     intro i h1 h
     have e:i=a.length:=by omega
     subst e
     rw [tX,hend,List.drop_length]
     rfl
    |succ k ih=>
     intro i h1 h
     have hi:i<a.length:=by omega
     have ih:=ih (i+1) (by omega) (by omega)
     rw [tX,List.drop_eq_getElem_cons hi]
     simp only [vE]
     have hb:tF c a (i:Int)=some (if decide (a[i]≤a[i-1]) then .done (.ret 1) else .go ((i+1:Nat):Int)):=by
      unfold tF
      rw [if_pos (by simp; omega),zI hi,zCr (x:=(i:Int)-1) (by omega) (by omega),show (i:Int)-1=((i-1:Nat):Int) by omega,zI (show i-1<a.length by omega),zM (by omega)]
      simp only [Option.bind_some]
      cases decide (a[i]≤a[i-1])<;>rfl
     rw [hb]
     unfold zMj
     rw [getD_lt (show i-1<a.length by omega)]
     cases decide (a[i]≤a[i-1])
     ·exact ih
     ·rfl
   exact hh (a.length-1) 1 (by omega) (by omega)
 unfold kV SF
 rw [zGz c hc,key,zB2,zHG hc.1 ha,zK2]
 simp only [Option.bind_some]
 have hf:∀(l:List Int) (i:Nat),vE (zMj a) i l=none∨vE (zMj a) i l=some 1:=by
  intro l
  induction l with
  |nil=>intro i; exact .inl rfl
  |cons x l ih=>
   intro i
   simp only [vE]
   cases hg:zMj a i x with
   |none=>exact ih (i+1)
   |some r=>
    unfold zMj at hg
    split at hg
    ·cases hg; exact .inr rfl
    ·cases hg
 rcases hf (a.drop 1) 1 with h|h<;>rw [h]<;>cases CF c !=0<;>cases a.all (fun k=>inB k 0 ((c.length:Int)-1))<;>rfl
theorem zHl {c:List Pack} {a:List Int} (h:(SF c a==0)=true):Places c a:=by
 unfold SF at h
 split at h
 ·rename_i h1
  rw [beq_iff_eq] at h
  rw [h] at h1
  simp at h1
 ·split at h
  ·rename_i h2
   rw [zK2,Bool.and_eq_true,List.all_eq_true] at h2
   intro k hk
   have:=h2.2 k hk
   unfold inB at this
   simp only [Bool.and_eq_true,decide_eq_true_eq] at this
   omega
  ·cases h
def zNE (t:Term) (v:Version):Bool:=decide (zHL v t.Low≥0)&&decide (zHL v t.High<0)
def zMh (t:Term) (n:ByteArray) (v:Version):Bool:=seq t.Name n&&zNE t v
theorem zJL (t:Term) (n:ByteArray) (v:Version):kW t n v=some (zMh t n v):=by
 unfold kW zMh zNE
 simp only [zDk,Option.bind_some]
 cases seq t.Name n<;>cases decide (zHL v t.Low≥0)<;>rfl
theorem zMy (t:Term) (n:ByteArray) (v:Version):zBC t n v=some (zMh t n v):=by
 unfold zBC zMh zNE
 simp only [zGC,Option.bind_some]
 have e:decide (zHL t.Low v≤0)=decide (zHL v t.Low≥0):=by
  rw [zLQ v t.Low]
  rw [Bool.eq_iff_iff,decide_eq_true_eq,decide_eq_true_eq]
  omega
 rw [e]
 cases seq t.Name n<;>cases decide (zHL v t.Low≥0)<;>rfl
def zBd (p:Pack) (t:Term):Bool:=(seq t.Name p.Name||p.Provides.any (fun x=>seq x t.Name))&&zNE t p.Version
theorem zKH (p:Pack) (t:Term) (h:p.Provides.length≤1048576):zC1 p t=some (zBd p t):=by
 unfold zC1 zBd
 simp only [zJL,Option.bind_some,zDX _ _ h,zMh,zFG,Bool.true_and]
 cases seq t.Name p.Name<;>cases p.Provides.any (fun x=>seq x t.Name)<;>rfl
theorem zHS (p:Pack) (t:Term) (h:p.Provides.length≤1048576):tY p t=some (zBd p t):=by
 unfold tY zBw
 rw [jS (by simp; omega) (by simp; omega)]
 simp only [Option.bind_some]
 have key:=wQ ([p.Name]++p.Provides) (fun i n=>if zMh t n p.Version then some (i:Int) else none) (b:=yY ([p.Name]++p.Provides) t p) (by
  intro i hi
  have hi':i<p.Provides.length+1:=by simpa using hi
  unfold yY zAc
  rw [if_pos (by rw [decide_eq_true_eq]; exact Int.ofNat_lt.2 hi),zI hi]
  simp only [Option.bind_some,zMy]
  rw [zM (by omega)]
  cases zMh t ([p.Name]++p.Provides)[i] p.Version<;>rfl) (by
  unfold yY
  rw [if_neg (by simp)])
 unfold yE yP xD
 rw [key,zB2]
 have e:zBd p t=([p.Name]++p.Provides).any (fun n=>zMh t n p.Version):=by
  unfold zBd zMh
  have:(fun n=>seq t.Name n&&zNE t p.Version)=(fun n=>seq n t.Name&&zNE t p.Version):=funext fun n=>by rw [zI1]
  rw [this,zI1 t.Name p.Name]
  cases zNE t p.Version<;>simp
 rw [e,←zEb (zCk (fun n=>zMh t n p.Version) ([p.Name]++p.Provides) 0)]
 cases vE (fun i n=>if zMh t n p.Version then some (i:Int) else none) 0 ([p.Name]++p.Provides)<;>rfl
theorem zIr (p:Pack) (l:List Term) (h:p.Provides.length≤1048576) (hl:l.length≤1048576):jF p l=some (l.any (zBd p)):=by
 have key:=wQ l (fun i t=>if zBd p t then some (i:Int) else none) (b:=xG l p) (by
  intro i hi
  unfold xG
  rw [if_pos (by simp; omega),zI hi]
  simp only [Option.bind_some,zHS _ _ h]
  rw [zM (by omega)]
  cases zBd p l[i]<;>rfl) (by
  unfold xG
  rw [if_neg (by simp)])
 unfold jF yH yR xJ
 rw [key,zB2,←zEb (zCk (zBd p) l 0)]
 cases vE (fun i t=>if zBd p t then some (i:Int) else none) 0 l<;>rfl
def zDv (c:List Pack) (a:List Int) (t:Term) (x:Int):Bool:=a.any (fun k=>k !=x&&zBd (pat c k) t)
theorem zHX {c:List Pack} {a:List Int} (hc:Cat c) (hp:Places c a) (ha:a.length≤1048576) (t:Term) (x:Int):zAS c a t x=some (zDv c a t x):=by
 have key:=wQ a (fun _ k=>if k !=x&&zBd (pat c k) t then some true else none) (b:=zCh c a t x) (by
  intro i hi
  have hk:=hp _ (List.getElem_mem hi)
  unfold zCh
  rw [if_pos (by simp; omega),zI hi]
  simp only [Option.bind_some]
  rw [(zAr hk).1]
  simp only [Option.bind_some]
  rw [zKH _ _ (hc.zOG hk),zM (by omega)]
  cases a[i] !=x<;>cases zBd (pat c a[i]) t<;>rfl) (by
  unfold zCh
  rw [if_neg (by simp)])
 unfold zAS zCG zDv
 rw [key,zB2,←zFZ (fun k=>k !=x&&zBd (pat c k) t) a 0]
 cases vE (fun _ k=>if k !=x&&zBd (pat c k) t then some true else none) 0 a<;>rfl
theorem zKM {c:List Pack} {a:List Int} (hc:Cat c) (hp:Places c a) (ha:a.length≤1048576) (t:Term) (x:Int):yF a x c t=some (zDv c a t x):=by
 have key:=wQ a (fun i k=>if k !=x&&zBd (pat c k) t then some (i:Int) else none) (b:=xZ a x c t) (by
  intro i hi
  have hk:=hp _ (List.getElem_mem hi)
  unfold xZ zCU
  rw [if_pos (by simp; omega),zI hi]
  simp only [Option.bind_some]
  rw [(zAr hk).1]
  simp only [Option.bind_some]
  rw [zHS _ _ (hc.zOG hk),zM (by omega)]
  cases a[i] !=x<;>cases zBd (pat c a[i]) t<;>rfl) (by
  unfold xZ
  rw [if_neg (by simp)])
 unfold yF xV wH zDv
 rw [key,zB2,←zEb (zCk (fun k=>k !=x&&zBd (pat c k) t) a 0)]
 cases vE (fun i k=>if k !=x&&zBd (pat c k) t then some (i:Int) else none) 0 a<;>rfl
def zKh (c:List Pack) (a:List Int) (l:List Term):Bool:=a.any (fun k=>l.any (zBd (pat c k)))
theorem zML {c:List Pack} {a:List Int} (hc:Cat c) (hp:Places c a) (ha:a.length≤1048576) (l:List Term) (hl:l.length≤1048576):zEa c a l=some (zKh c a l):=by
 have key:=wQ l (fun _ t=>if zDv c a t (-1) then some true else none) (b:=zDn c a l) (by
  intro i hi
  unfold zDn
  rw [if_pos (by simp; omega),zI hi]
  simp only [Option.bind_some,zHX hc hp ha]
  rw [zM (by omega)]
  cases zDv c a l[i] (-1)<;>rfl) (by
  unfold zDn
  rw [if_neg (by simp)])
 unfold zEa zDM
 rw [key,zB2]
 have e:zKh c a l=l.any (fun t=>zDv c a t (-1)):=by
  unfold zKh zDv
  rw [Bool.eq_iff_iff]
  simp only [List.any_eq_true,Bool.and_eq_true,bne_iff_ne]
  constructor
  ·rintro ⟨k,hk,t,ht,hg⟩
   exact ⟨t,ht,k,hk,by have:=(hp k hk).1; omega,hg⟩
  ·rintro ⟨t,ht,k,hk,_,hg⟩
   exact ⟨k,hk,t,ht,hg⟩
 rw [e,←zFZ (fun t=>zDv c a t (-1)) l 0]
 cases vE (fun _ t=>if zDv c a t (-1) then some true else none) 0 l<;>rfl
theorem zMD {c:List Pack} {a:List Int} (hc:Cat c) (hp:Places c a) (ha:a.length≤1048576) (l:List Term) (hl:l.length≤1048576):yG a c l=some (zKh c a l):=by
 have key:=wQ a (fun i k=>if l.any (zBd (pat c k)) then some (i:Int) else none) (b:=wB a c l) (by
  intro i hi
  have hk:=hp _ (List.getElem_mem hi)
  unfold wB zCZ
  rw [if_pos (by simp; omega),zI hi]
  simp only [Option.bind_some]
  rw [(zAr hk).1]
  simp only [Option.bind_some]
  rw [zIr _ _ (hc.zOG hk) hl,zM (by omega)]
  cases l.any (zBd (pat c a[i]))<;>rfl) (by
  unfold wB
  rw [if_neg (by simp)])
 unfold yG xU wG zKh
 rw [key,zB2,←zEb (zCk (fun k=>l.any (zBd (pat c k))) a 0)]
 cases vE (fun i k=>if l.any (zBd (pat c k)) then some (i:Int) else none) 0 a<;>rfl
theorem zHY {α T:Type} (xs:List α) (g:Nat→α→Option T) (e:T) {b:Int→Option (Lp Int T)}
  (hstep:∀(i:Nat) (hi:i<xs.length),b (i:Int)=some (match g i xs[i] with|some r=>.done r|none=>.go ((i+1:Nat):Int))) (hend:b (xs.length:Int)=some (.done e)):
  ∀(k i:Nat),i+k=xs.length→loop b (i:Int)=some ((vE g i (xs.drop i)).getD e)
 |0,i,h=>by
  have e:i=xs.length:=by omega
  subst e
  rw [tX,hend,List.drop_length]
  rfl
 |k+1,i,h=>by
  have hi:i<xs.length:=by omega
  have ih:=zHY xs g e hstep hend k (i+1) (by omega)
  rw [tX,hstep i hi,List.drop_eq_getElem_cons hi]
  simp only [vE]
  cases g i xs[i] with
  |some r=>rfl
  |none=>exact ih
def fN (c:List Pack) (a:List Int) (k:Int) (j:Nat) (l:List zP) (x:List Term):List zP:=if !(zKh c a x) then l++[{Kind:=2,Pack:=k,At:=(j:Int)}] else l
def fB (c:List Pack) (a:List Int) (k:Int) (j:Nat) (l:List zP) (t:Term):List zP:=if zDv c a t k then l++[{Kind:=3,Pack:=k,At:=(j:Int)}] else l
def fD (c:List Pack) (a:List Int) (i:Nat) (k:Int) (l:List zP):List zP:=if (a.take i).any (fun o=>seq (pat c o).Name (pat c k).Name) then l++[{Kind:=1,Pack:=k,At:=0}] else l
def fS (c:List Pack) (a:List Int) (i:Nat) (l:List zP) (k:Int):List zP:=foldI (fB c a k) 0 (pat c k).Bars (foldI (fN c a k) 0 (pat c k).Needs (fD c a i k l))
def zDZ (c:List Pack) (a:List Int):List zP:=foldI (fS c a) 0 a []
theorem zOw (c:List Pack) (a:List Int) (k:Int) (j:Nat) (l:List zP) (x:List Term):(fN c a k j l x).length ≤l.length+1:=by unfold fN; split<;>simp
theorem zO3 (c:List Pack) (a:List Int) (k:Int) (j:Nat) (l:List zP) (t:Term):(fB c a k j l t).length ≤l.length+1:=by unfold fB; split<;>simp
theorem zNf (c:List Pack) (a:List Int) (i:Nat) (k:Int) (l:List zP):(fD c a i k l).length ≤l.length+1:=by unfold fD; split<;>simp
theorem zIb {c:List Pack} {a:List Int} (k:Int) (ns:List (List Term)) (hn:ns.length≤1048576) (n0:Nat) (h0:n0≤5497560000000) {b:(List zP×Int)→Option (Lp (List zP×Int) (List zP))}
  (hstep:∀(j:Nat) (l:List zP) (hj:j<ns.length),b (l,(j:Int))=(if !(zKh c a ns[j]) then (app 24 l [{Kind:=2,Pack:=k,At:=(j:Int)}]) else some l).bind fun v=>some (Lp.go (v,w64 ((j:Int)+1)))) (hend:∀l,b (l,(ns.length:Int))=some (.done l)) (l:List zP) (hl:l.length≤n0):
  loop b (l,0)=some (foldI (fN c a k) 0 ns l)∧(foldI (fN c a k) 0 ns l).length ≤n0+ns.length:=by
 have key:=zEU ns (fN c a k) (fun j l=>l.length≤n0+j) (b:=b) (by
  intro j l hj hI
  refine ⟨?_,by have:=zOw c a k j l ns[j]; omega⟩
  rw [hstep j l hj,zM (by omega),jS (by simp; omega) (by simp; omega)]
  unfold fN
  cases zKh c a ns[j]<;>rfl) hend ns.length 0 l (by omega) (by simpa using hl)
 simpa using key
theorem zIU {c:List Pack} {a:List Int} (k:Int) (ts:List Term) (hn:ts.length≤1048576) (n0:Nat) (h0:n0≤5497560000000) {b:(List zP×Int)→Option (Lp (List zP×Int) (List zP))}
  (hstep:∀(j:Nat) (l:List zP) (hj:j<ts.length),b (l,(j:Int))=(if zDv c a ts[j] k then (app 24 l [{Kind:=3,Pack:=k,At:=(j:Int)}]) else some l).bind fun v=>some (Lp.go (v,w64 ((j:Int)+1)))) (hend:∀l,b (l,(ts.length:Int))=some (.done l)) (l:List zP) (hl:l.length≤n0):
  loop b (l,0)=some (foldI (fB c a k) 0 ts l)∧(foldI (fB c a k) 0 ts l).length ≤n0+ts.length:=by
 have key:=zEU ts (fB c a k) (fun j l=>l.length≤n0+j) (b:=b) (by
  intro j l hj hI
  refine ⟨?_,by have:=zO3 c a k j l ts[j]; omega⟩
  rw [hstep j l hj,zM (by omega),jS (by simp; omega) (by simp; omega)]
  unfold fB
  cases zDv c a ts[j] k<;>rfl) hend ts.length 0 l (by omega) (by simpa using hl)
 simpa using key
theorem zIt {α:Type} (o:Option α):o.bind (fun x=>some x)=o:=by cases o<;>rfl
def zEv (i:Nat):Nat:=i*2097153
theorem zJK {c:List Pack} {a:List Int} (hc:Cat c) (hp:Places c a) (ha:a.length≤1048576):zB7 c a=some (zDZ c a):=by
 have key:=zEU a (fS c a) (fun i l=>l.length≤zEv i) (b:=zBt c a) (by
  intro i l hi hI
  have hk:=hp _ (List.getElem_mem hi)
  have hb:zEv i≤2199022206976:=by unfold zEv; omega
  have hb1:zEv (i+1)=zEv i+2097153:=by unfold zEv; omega
  have hN:=hc.needs hk
  have hB:=hc.bars hk
  have k1:=zHY (a.take i) (fun _ o=>if seq (pat c o).Name (pat c a[i]).Name then some (l++[({Kind:=1,Pack:=a[i],At:=0}:zP)]) else none) l (b:=zBs c a (l,(i:Int)) (pat c a[i])) (by
   intro j hj
   have hj':j<i:=by simp at hj; omega
   have hja:j<a.length:=by omega
   have hkj:=hp _ (List.getElem_mem hja)
   unfold zBs
   rw [if_pos (by simp; omega),zI hja]
   simp only [Option.bind_some]
   rw [(zAr hkj).1,zI hi]
   simp only [Option.bind_some]
   rw [zM (by omega),jS (by simp; omega) (by simp; omega),List.getElem_take]
   cases seq (pat c a[j]).Name (pat c a[i]).Name <;>rfl) (by
   have:(a.take i).length =i:=by simp; omega
   rw [this]
   unfold zBs
   rw [if_neg (by simp)]) (a.take i).length 0 (by omega)
  rw [List.drop_zero,zF8] at k1
  have e1:zA3 c a (l,(i:Int)) (pat c a[i]) 0=some (fD c a i a[i] l):=by
   unfold zA3 fD
   rw [show ((0:Nat):Int)=0 from rfl] at k1
   rw [k1]
   cases (a.take i).any (fun o=>seq (pat c o).Name (pat c a[i]).Name)<;>rfl
  have hd:=zNf c a i a[i] l
  obtain ⟨e2,l2⟩:=zIb (c:=c) (a:=a) a[i] (pat c a[i]).Needs hN (zEv i+1) (by omega) (b:=zBu c a (l,(i:Int)) (pat c a[i])) (by
   intro j l hj
   unfold zBu
   rw [if_pos (by simp; omega),zI hj]
   simp only [Option.bind_some]
   rw [zML hc hp ha _ (hc.clause hk (List.getElem_mem hj)),zI hi]
   simp only [Option.bind_some,zIt]) (by
   intro l
   unfold zBu
   rw [if_neg (by simp)]) (fD c a i a[i] l) (by omega)
  obtain ⟨e3,l3⟩:=zIU (c:=c) (a:=a) a[i] (pat c a[i]).Bars hB (zEv i+1+1048576) (by omega) (b:=zBo c a (l,(i:Int)) (pat c a[i])) (by
   intro j l hj
   unfold zBo
   rw [if_pos (by simp; omega),zI hj,zI hi]
   simp only [Option.bind_some,zHX hc hp ha,zIt]) (by
   intro l
   unfold zBo
   rw [if_neg (by simp)]) _ (Nat.le_trans l2 (by omega))
  refine ⟨?_,by show (fS c a i l a[i]).length ≤_; unfold fS; omega⟩
  unfold zBt
  rw [if_pos (by simp; omega),zI hi]
  simp only [Option.bind_some]
  rw [(zAr hk).1]
  simp only [Option.bind_some]
  rw [e1]
  simp only [Option.bind_some]
  unfold zBH zCc
  rw [e2]
  simp only [Option.bind_some]
  rw [e3,zM (by omega)]
  rfl) (by
  intro l
  unfold zBt
  rw [if_neg (by simp)]) a.length 0 [] (by omega) (by simp)
 unfold zB7 zBJ zDZ
 have k:=key.1
 rw [show ((0:Nat):Int)=0 from rfl,List.drop_zero] at k
 rw [k]
 rfl
theorem zKv (q:Int→Bool):∀(xs:List Int) (i:Nat),(∀k∈xs,0≤k)→(((vE (fun _ k=>if q k then some k else none) i xs).getD (-1)≥0)↔xs.any q=true)
 |[],i,_=>by simp [vE]
 |x::xs,i,h=>by
  simp only [vE]
  cases hq:q x
  ·simp only [Bool.false_eq_true,if_false,List.any_cons,hq,Bool.false_or]
   exact zKv q xs (i+1) (fun k hk=>h k (by simp [hk]))
  ·have:=h x (by simp)
   simp [hq]
   omega
theorem zKR {c:List Pack} {a:List Int} (hp:Places c a) (ha:a.length≤1048576) (n:ByteArray):∃k,tK c a n=some k∧decide (k≥0)=a.any (fun o=>seq (pat c o).Name n):=by
 have key:=wQ a (fun _ k=>if seq (pat c k).Name n then some k else none) (b:=kZ c a n) (by
  intro i hi
  have hk:=hp _ (List.getElem_mem hi)
  unfold kZ
  rw [if_pos (by simp; omega),zI hi]
  simp only [Option.bind_some]
  rw [(zAr hk).1]
  simp only [Option.bind_some]
  rw [zM (by omega)]
  cases seq (pat c a[i]).Name n<;>rfl) (by
  unfold kZ
  rw [if_neg (by simp)])
 refine ⟨_,?_,zEb (zKv (fun o=>seq (pat c o).Name n) a 0 (fun k hk=>(hp k hk).1))⟩
 unfold tK zDa
 rw [key,zB2]
 cases vE (fun _ k=>if seq (pat c k).Name n then some k else none) 0 a<;>rfl
theorem zJz {c:List Pack} {a:List Int} (hc:Cat c) (hp:Places c a) (ha:a.length≤1048576):zDG c a=some (zDZ c a):=by
 have key:=zEU a (fS c a) (fun i l=>l.length≤zEv i) (b:=zC8 c a) (by
  intro i l hi hI
  have hk:=hp _ (List.getElem_mem hi)
  have hb:zEv i≤2199022206976:=by unfold zEv; omega
  have hb1:zEv (i+1)=zEv i+2097153:=by unfold zEv; omega
  have hN:=hc.needs hk
  have hB:=hc.bars hk
  obtain ⟨kk,e0,hkk⟩:=zKR (c:=c) (a:=a.take i) (fun k hk=>hp k (List.mem_of_mem_take hk)) (by simp; omega) (pat c a[i]).Name
  have hd:=zNf c a i a[i] l
  obtain ⟨e2,l2⟩:=zIb (c:=c) (a:=a) a[i] (pat c a[i]).Needs hN (zEv i+1) (by omega) (b:=zCB c a (l,(i:Int)) a[i] (pat c a[i])) (by
   intro j l hj
   unfold zCB
   rw [if_pos (by simp; omega),zI hj]
   simp only [Option.bind_some]
   rw [zMD hc hp ha _ (hc.clause hk (List.getElem_mem hj))]
   simp only [Option.bind_some,zIt]) (by
   intro l
   unfold zCB
   rw [if_neg (by simp)]) (fD c a i a[i] l) (by omega)
  obtain ⟨e3,l3⟩:=zIU (c:=c) (a:=a) a[i] (pat c a[i]).Bars hB (zEv i+1+1048576) (by omega) (b:=zCF c a (l,(i:Int)) a[i] (pat c a[i])) (by
   intro j l hj
   unfold zCF
   rw [if_pos (by simp; omega),zI hj]
   simp only [Option.bind_some,zKM hc hp ha,zIt]) (by
   intro l
   unfold zCF
   rw [if_neg (by simp)]) _ (Nat.le_trans l2 (by omega))
  refine ⟨?_,by show (fS c a i l a[i]).length ≤_; unfold fS; omega⟩
  unfold zC8
  rw [if_pos (by simp; omega),zI hi]
  simp only [Option.bind_some]
  rw [(zAr hk).1,zGn (by omega)]
  simp only [Option.bind_some]
  rw [e0]
  simp only [Option.bind_some]
  rw [hkk,jS (by simp; omega) (by simp; omega)]
  simp only [Option.bind_some]
  have ed:(if (a.take i).any (fun o=>seq (pat c o).Name (pat c a[i]).Name)=true then some (l++[({Kind:=1,Pack:=a[i],At:=0}:zP)]) else some l)=some (fD c a i a[i] l):=by
   unfold fD
   cases (a.take i).any (fun o=>seq (pat c o).Name (pat c a[i]).Name)<;>rfl
  rw [ed]
  simp only [Option.bind_some]
  unfold zDr zDo
  rw [e2]
  simp only [Option.bind_some]
  rw [e3,zM (by omega)]
  rfl) (by
  intro l
  unfold zC8
  rw [if_neg (by simp)]) a.length 0 [] (by omega) (by simp)
 unfold zDG zDu zDZ
 have k:=key.1
 rw [show ((0:Nat):Int)=0 from rfl,List.drop_zero] at k
 rw [k]
 rfl
def zOR (c:List Pack) (a:List Int):Bool:=(SF c a==0)&&((zDZ c a).length :Int)==0
theorem zE2 {c:List Pack} {a:List Int} (hc:Cat c) (ha:a.length≤1048576) (h:(SF c a==0)=true):vO c a=some (zOR c a):=by
 unfold vO zOR
 rw [zJz hc (zHl h) ha,h]
 simp
theorem zLS {α:Type} {g:Nat→α→Option Int} (hg:∀i x,g i x≠some 0):∀(l:List α) (i:Nat),(vE g i l).getD 0=0→vE g i l=none
 |[],_,_=>rfl
 |x::l,i,h=>by
  simp only [vE] at h ⊢
  cases hx:g i x with
  |none=>rw [hx] at h; exact zLS hg l (i+1) h
  |some r=>
   rw [hx] at h
   simp only [Option.getD_some] at h
   subst h
   exact absurd hx (hg i x)
theorem zN5 {c:List Pack} (h:CF c=0):c.length≤24∧(∀p∈c,PF p=0)∧∀(j:Nat) (hj:j<c.length),(c.take j).any (isB c[j].Name c[j].Version)=false:=by
 unfold CF at h
 split at h
 ·cases h
 rename_i h1
 have h2:=zLS (g:=zMl c) (fun i x=>by
  unfold zMl
  split
  ·rename_i h3
   intro e
   rw [Option.some.inj e] at h3
   simp at h3
  ·split<;>simp) c 0 h
 rw [zFr] at h2
 have h3:∀(j:Nat) (hj:j<c.length),PF c[j]=0∧(c.take j).any (isB c[j].Name c[j].Version)=false:=by
  intro j hj
  have:=h2 j hj
  unfold zMl at this
  rw [Nat.zero_add] at this
  split at this
  ·cases this
  ·rename_i h4
   split at this
   ·cases this
   ·rename_i h5
    exact ⟨by simpa using h4,by simpa using h5⟩
 refine ⟨by simp at h1; omega,fun p hp=>?_,fun j hj=>(h3 j hj).2⟩
 obtain ⟨j,hj,rfl⟩:=List.getElem_of_mem hp
 exact (h3 j hj).1
theorem zL6 {a:List Int} (h:∀i,(hi:i+1<a.length)→a[i]<a[i+1]):a.Pairwise (· < ·):=by
 rw [List.pairwise_iff_getElem]
 intro i j hi hj hij
 obtain ⟨d,rfl⟩:∃d,j=i+1+d:=⟨j-i-1,by omega⟩
 clear hij
 induction d with
 |zero=>exact h i (by omega)
 |succ d ih=>
  have h1:=ih (by omega)
  have h2:=h (i+1+d) (by omega)
  show a[i]<a[i+1+d+1]
  omega
theorem zJV:∀{a:List Int} {lo hi:Int},a.Pairwise (· < ·)→(∀k∈a,lo≤k∧k<hi)→(a.length:Int)≤hi-lo∨a=[]
 |[],_,_,_,_=>.inr rfl
 |x::a,lo,hi,hp,hb=>by
  obtain ⟨h1,h2⟩:=List.pairwise_cons.1 hp
  have hx:=hb x (by simp)
  have:=zJV (lo:=x+1) (hi:=hi) h2 (fun k hk=>⟨by have:=h1 k hk; omega,(hb k (by simp [hk])).2⟩)
  refine .inl ?_
  rcases this with h3|h3
  ·simp only [List.length_cons]; omega
  ·subst h3; simp; omega
theorem zGe {c:List Pack} {a:List Int}:zMk c a=true↔a.Pairwise (· < ·)∧Places c a:=by
 unfold zMk
 rw [Option.isNone_iff_eq_none,zFr]
 constructor
 ·intro h
  have h1:∀(j:Nat) (hj:j<a.length),inB a[j] 0 ((c.length:Int)-1)=true∧(0<j→¬a[j]≤a.getD (j-1) 0):=by
   intro j hj
   have:=h j hj
   unfold zLm at this
   rw [Nat.zero_add] at this
   split at this
   ·cases this
   ·rename_i h2
    simp only [Bool.or_eq_true,Bool.not_eq_true',Bool.and_eq_true,decide_eq_true_eq,not_or,not_and,Bool.not_eq_false] at h2
    exact h2
  refine ⟨zL6 fun i hi=>?_,fun k hk=>?_⟩
  ·have:=(h1 (i+1) hi).2 (by omega)
   rw [show i+1-1=i by omega,getD_lt (by omega)] at this
   omega
  ·obtain ⟨j,hj,rfl⟩:=List.getElem_of_mem hk
   have:=(h1 j hj).1
   unfold inB at this
   simp only [Bool.and_eq_true,decide_eq_true_eq] at this
   omega
 ·rintro ⟨h1,h2⟩ j hj
  unfold zLm
  rw [Nat.zero_add]
  have hk:=h2 a[j] (List.getElem_mem hj)
  rw [if_neg]
  simp only [Bool.or_eq_true,Bool.not_eq_true',Bool.and_eq_true,decide_eq_true_eq,not_or,not_and,Bool.not_eq_false]
  refine ⟨by unfold inB; simp; omega,fun h0=>?_⟩
  rw [getD_lt (by omega)]
  have:=(List.pairwise_iff_getElem.1 h1) (j-1) j (by omega) hj (by omega)
  omega
theorem zKc {c:List Pack} {a:List Int} (h:zMk c a=true):a.length≤c.length:=by
 obtain ⟨h1,h2⟩:=zGe.1 h
 rcases zJV (lo:=0) (hi:=c.length) h1 h2 with h3|h3
 ·omega
 ·rw [h3]; simp
theorem zKT (x y:Int):uS [x,y]=some (if x !=0 then x else y):=by
 unfold uS zAe
 rw [zJZ _ (by simp),zB2]
 simp only [vE]
 by_cases h:x=0
 ·by_cases h2:y=0<;>simp [h,h2]
 ·simp [h]
theorem zEX:∀{l1 l2:List Int},l1.Pairwise (· < ·)→l2.Pairwise (· < ·)→(∀x,x∈l1↔x∈l2)→l1=l2
 |[],[],_,_,_=>rfl
 |[],y::l2,_,_,h=>by have:=(h y).2 (by simp); simp at this
 |x::l1,[],_,_,h=>by have:=(h x).1 (by simp); simp at this
 |x::l1,y::l2,h1,h2,h=>by
  rw [List.pairwise_cons] at h1 h2
  have hxy:x=y:=by
   have hx:=(h x).1 (by simp)
   have hy:=(h y).2 (by simp)
   rcases List.mem_cons.1 hx with e|hx
   ·exact e
   ·rcases List.mem_cons.1 hy with e|hy
    ·exact e.symm
    ·have:=h1.1 y hy
     have:=h2.1 x hx
     omega
  subst hxy
  congr 1
  refine zEX h1.2 h2.2 fun z=>?_
  constructor
  ·intro hz
   rcases List.mem_cons.1 ((h z).1 (List.mem_cons_of_mem _ hz)) with e|hz'
   ·have:=h1.1 z hz; omega
   ·exact hz'
  ·intro hz
   rcases List.mem_cons.1 ((h z).2 (List.mem_cons_of_mem _ hz)) with e|hz'
   ·have:=h2.1 z hz; omega
   ·exact hz'
theorem zGX {c:List Pack} {a:List Int} (hC:Cat c) (hp:Places c a) (ha:a.length≤1048576):kM c a=some (((zDZ c a).length :Int)==0):=by
 unfold kM
 rw [zJK hC hp ha]
 rfl
theorem zH8 {a b:ByteArray} (h:slt a b=false) (hne:a≠b):slt b a=true:=by
 cases h2:slt b a with
 |true=>rfl
 |false=>
  have c1:¬zOU a b<0:=fun hc=>by rw [(zNB a b).1 hc] at h; cases h
  have key:∀(x y:List UInt8),Op.bytesLess x y=false→Op.bytesLess y x=false→x=y:=by
   intro x
   induction x with
   |nil=>intro y; cases y<;>simp [Op.bytesLess]
   |cons u x ih=>
    intro y
    cases y with
    |nil=>simp [Op.bytesLess]
    |cons v y=>
     simp only [Op.bytesLess]
     intro e1 e2
     have e3:¬u<v:=fun hh=>by simp [hh] at e1
     have e4:¬v<u:=fun hh=>by simp [hh] at e2
     rw [UInt8.lt_iff_toNat_lt] at e3 e4
     have e5:u=v:=UInt8.toNat_inj.1 (by omega)
     subst e5
     simp [UInt8.lt_irrefl] at e1 e2
     rw [ih y e1 e2]
  exfalso
  apply hne
  unfold slt at h h2
  exact toList_inj (key _ _ h h2)
def ltS (a b:ByteArray):Prop:=slt a b=true
def leS (a b:ByteArray):Prop:=slt b a=false
theorem zIj (a:ByteArray):leS a a:=zDh a
theorem zKg {a b:ByteArray} (h:leS a b) (hne:a≠b):ltS a b:=zH8 h (Ne.symm hne)
theorem zLA {a b:ByteArray} (h:ltS a b):leS a b:=by
 unfold leS
 cases h2:slt b a with
 |false=>rfl
 |true=>
  have h3:=zE6 h h2
  rw [zDh] at h3
  cases h3
theorem zJB {a b c:ByteArray} (h1:leS a b) (h2:ltS b c):ltS a c:=by
 by_cases h:a=b
 ·rw [h]; exact h2
 ·exact zE6 (zKg h1 h) h2
theorem zHy {a b c:ByteArray} (h1:leS a b) (h2:leS b c):leS a c:=by
 by_cases h:b=c
 ·rw [←h]; exact h1
 ·exact zLA (zJB h1 (zKg h2 h))
theorem zI7 {a b:ByteArray} (h:ltS a b):a≠b:=fun e=>by
 subst e
 unfold ltS at h
 rw [zDh] at h
 cases h
theorem zCA:∀{l1 l2:List ByteArray},l1.Pairwise ltS→l2.Pairwise ltS→(∀x,x∈l1↔x∈l2)→l1=l2
 |[],[],_,_,_=>rfl
 |[],y::l2,_,_,h=>by have:=(h y).2 (by simp); simp at this
 |x::l1,[],_,_,h=>by have:=(h x).1 (by simp); simp at this
 |x::l1,y::l2,h1,h2,h=>by
  rw [List.pairwise_cons] at h1 h2
  have hxy:x=y:=by
   have hx:=(h x).1 (by simp)
   have hy:=(h y).2 (by simp)
   rcases List.mem_cons.1 hx with e|hx
   ·exact e
   ·rcases List.mem_cons.1 hy with e|hy
    ·exact e.symm
    ·exact absurd rfl (zI7 (zE6 (h1.1 y hy) (h2.1 x hx)))
  subst hxy
  congr 1
  refine zCA h1.2 h2.2 fun z=>?_
  constructor
  ·intro hz
   rcases List.mem_cons.1 ((h z).1 (List.mem_cons_of_mem _ hz)) with e|hz'
   ·exact absurd e.symm (zI7 (h1.1 z hz))
   ·exact hz'
  ·intro hz
   rcases List.mem_cons.1 ((h z).2 (List.mem_cons_of_mem _ hz)) with e|hz'
   ·exact absurd e.symm (zI7 (h2.1 z hz))
   ·exact hz'
theorem zJ9:∀(x y:List UInt8),x<y↔Op.bytesLess x y=true
 |[],[]=>by simp [Op.bytesLess]
 |[],y::l=>by simp [Op.bytesLess]
 |x::l,[]=>by simp [Op.bytesLess]
 |x::l,y::r=>by
  rw [List.cons_lt_cons_iff,zJ9 l r]
  simp only [Op.bytesLess]
  by_cases h:x<y
  ·simp [h]
  ·by_cases h2:y<x
   ·have:x≠y:=fun e=>by subst e; exact UInt8.lt_irrefl _ h2
    simp [h,this]
   ·have:x=y:=by
     rw [UInt8.lt_iff_toNat_lt] at h h2
     exact UInt8.toNat_inj.1 (by omega)
    subst this
    simp [UInt8.lt_irrefl]
theorem zO2 (x y:List UInt8):decide (x≤y)= !(Op.bytesLess y x):=by
 cases hb:Op.bytesLess y x with
 |true=>
  have:¬(x≤y):=fun h=>h ((zJ9 y x).2 hb)
  simpa using this
 |false=>
  have:x≤y:=fun hc=>by
   rw [(zJ9 y x).1 hc] at hb
   cases hb
  simpa using this
theorem toList_data (s:ByteArray):s.data.toList=s.toList:=(ByteArray.toList_eq s).symm
theorem zMJ (a:List ByteArray) (hl:a.length≤1048577):∃r,uJ a=some r∧r.Pairwise leS∧(∀x,x∈r↔x∈a)∧r.length=a.length:=by
 unfold uJ
 rw [if_pos (by omega)]
 have hle:∀x y:List UInt8,decide (x≤y)=true↔leS ⟨x.toArray⟩ ⟨y.toArray⟩:=fun x y=>by
  rw [zO2]
  unfold leS slt
  rw [←toList_data,←toList_data]
  cases Op.bytesLess y x<;>simp
 have hpw:=List.pairwise_mergeSort (le:=fun x y:List UInt8=>decide (x≤y)) (by
  intro x y z h1 h2
  exact (hle x z).2 (zHy ((hle x y).1 h1) ((hle y z).1 h2))) (by
  intro x y
  have:leS ⟨x.toArray⟩ ⟨y.toArray⟩∨leS ⟨y.toArray⟩ ⟨x.toArray⟩:=by
   cases h:slt ⟨y.toArray⟩ ⟨x.toArray⟩ with
   |false=>exact .inl h
   |true=>exact .inr (zLA h)
  rcases this with h|h
  ·rw [(hle x y).2 h]; rfl
  ·rw [(hle y x).2 h,Bool.or_true]) (a.map (·.data.toList))
 refine ⟨_,rfl,?_,fun x=>?_,by simp [List.length_mergeSort]⟩
 ·exact List.pairwise_map.2 (hpw.imp fun h=>(hle _ _).1 h)
 ·simp only [List.mem_map,List.mem_mergeSort]
  constructor
  ·rintro ⟨_,⟨y,hy,rfl⟩,rfl⟩
   exact hy
  ·intro hx
   exact ⟨_,⟨x,hx,rfl⟩,rfl⟩
theorem zGW (l:List ByteArray) (v:ByteArray) (hs:l.Pairwise ltS) (hl:l.length≤1048576):
  ∃r,uI l v=some r∧r.Pairwise ltS∧(∀x,x∈r↔x∈l∨x=v)∧r.length≤l.length+1:=by
 obtain ⟨t,e,ht⟩:=jV (b:=zCK l v)
  (fun i s=>s.2.2=(i:Int)∧s.1.Pairwise ltS∧(∀x,x∈s.1↔x∈l.take i∨(s.2.1=true∧x=v))∧s.1.length=i+(if s.2.1 then 1 else 0)∧(s.2.1=false→∀x∈l.take i,ltS x v)∧(s.2.1=true→∀x∈l.drop i,ltS v x)) l.length
  (fun t=>(t= .ret l∧v∈l)∨∃a b,t= .nxt (a,b)∧a.Pairwise ltS∧(∀x,x∈a↔x∈l∨(b=true∧x=v))∧a.length=l.length+(if b then 1 else 0)∧(b=false→∀x∈l,ltS x v)) (by
  rintro i ⟨acc,inn,j⟩ hi ⟨hj,hp,hm,hlen,hf,ht⟩
  simp only at hj hp hm hlen hf ht
  subst hj
  have hget:∀(i j:Nat) (hi:i<l.length) (hj:j<l.length),i<j→ltS l[i] l[j]:=fun i j hi hj h=>List.pairwise_iff_getElem.1 hs i j hi hj h
  have hlt:∀x∈l.take i,ltS x l[i]:=by
   intro x hx
   obtain ⟨k,hk,rfl⟩:=List.mem_iff_getElem.1 hx
   rw [List.getElem_take]
   have:k<i:=by simp at hk; omega
   exact hget _ _ (by omega) hi this
  have htk:l.take (i+1)=l.take i++[l[i]]:=List.take_succ_eq_append_getElem hi
  have hdr:l.drop i=l[i]::l.drop (i+1):=List.drop_eq_getElem_cons hi
  have hal:acc.length≤1048577:=by rw [hlen]; split<;>omega
  unfold zCK
  rw [if_pos (by simp; omega),zI hi]
  simp only [Option.bind_some]
  rw [zM (by omega)]
  by_cases heq:l[i]=v
  ·rw [if_pos (by rw [seq_eq]; simpa using heq)]
   exact .inr ⟨_,rfl,.inl ⟨rfl,heq▸List.getElem_mem hi⟩⟩
  ·rw [if_neg (by rw [seq_eq]; simpa using heq)]
   refine .inl ?_
   have hs2:(slt l[i] v||seq l[i] v)=slt l[i] v:=by rw [seq_eq]; simp [heq]
   rw [hs2]
   cases inn
   ·cases hgt:slt l[i] v
    ·have hvl:ltS v l[i]:=zH8 hgt heq
     simp only [Bool.not_false,Option.bind_some,if_true]
     rw [jS (by simp; omega) (by simp; omega)]
     simp only [Option.bind_some]
     rw [jS (by simp; omega) (by simp; omega)]
     refine ⟨_,rfl,rfl,?_,?_,?_,by simp,?_⟩
     ·simp only
      have hav:∀x∈acc,ltS x v:=fun x hx=>hf rfl x (by have:=(hm x).1 hx; simpa using this)
      rw [List.pairwise_append,List.pairwise_append]
      refine ⟨⟨hp,by simp,fun x hx y hy=>by simp at hy; rw [hy]; exact hav x hx⟩,by simp,fun x hx y hy=>?_⟩
      simp at hy
      rw [hy]
      rcases List.mem_append.1 hx with hx|hx
      ·exact zE6 (hav x hx) hvl
      ·simp at hx; rw [hx]; exact hvl
     ·intro x
      have:=hm x
      simp only [List.mem_append,List.mem_singleton,htk]
      simp at this
      rw [this]
      simp
      constructor<;>(intro h; rcases h with (h|h)|h<;>simp [h])
     ·simp; simp at hlen; omega
     ·intro _ x hx
      have:ltS l[i] x:=by
       obtain ⟨k,hk,rfl⟩:=List.mem_iff_getElem.1 hx
       rw [List.getElem_drop]
       simp at hk
       exact hget _ _ hi (by omega) (by omega)
      exact zE6 hvl this
    ·simp only [Bool.not_true,Bool.false_eq_true,if_false,Option.bind_some]
     rw [jS (by simp; omega) (by simp; omega)]
     refine ⟨_,rfl,rfl,?_,?_,?_,?_,by simp⟩
     ·simp only
      rw [List.pairwise_append]
      refine ⟨hp,by simp,fun x hx y hy=>?_⟩
      simp at hy
      rw [hy]
      have:=(hm x).1 hx
      exact hlt x (by simpa using this)
     ·intro x
      have:=hm x
      simp only [List.mem_append,List.mem_singleton,htk]
      simp at this
      rw [this]
      simp
     ·simp; simp at hlen; omega
     ·intro _ x hx
      rw [htk] at hx
      rcases List.mem_append.1 hx with hx|hx
      ·exact hf rfl x hx
      ·simp at hx; rw [hx]; exact hgt
   ·have hlv:ltS v l[i]:=ht rfl _ (by rw [hdr]; exact List.mem_cons_self)
    have hgt:slt l[i] v=false:=zLA hlv
    rw [hgt]
    simp only [Bool.not_false,Bool.not_true,Option.bind_some,Bool.false_eq_true,if_false,if_true]
    rw [jS (by simp; omega) (by simp; omega)]
    refine ⟨_,rfl,rfl,?_,?_,?_,by simp,?_⟩
    ·simp only
     rw [List.pairwise_append]
     refine ⟨hp,by simp,fun x hx y hy=>?_⟩
     simp at hy
     rw [hy]
     rcases (hm x).1 hx with hx|⟨_,hx⟩
     ·exact hlt x hx
     ·rw [hx]; exact hlv
    ·intro x
     have:=hm x
     simp only [List.mem_append,List.mem_singleton,htk]
     rw [this]
     simp
     constructor<;>(intro h; rcases h with (h|h)|h<;>simp [h])
    ·simp; simp at hlen; omega
    ·intro _ x hx
     exact ht rfl x (by rw [hdr]; exact List.mem_cons_of_mem _ hx)) (by
  rintro ⟨acc,inn,j⟩ ⟨hj,hp,hm,hlen,hf,ht⟩
  simp only at hj hp hm hlen hf ht
  subst hj
  unfold zCK
  rw [if_neg (by simp)]
  rw [List.take_length] at hm hf
  exact ⟨_,rfl,.inr ⟨acc,inn,rfl,hp,hm,hlen,hf⟩⟩) l.length 0 (([]:List ByteArray),false,0) (by omega) ⟨rfl,by simp,by simp,by simp,by simp,by simp⟩
 unfold uI zDw
 rw [e]
 rcases ht with ⟨rfl,hv⟩|⟨acc,inn,rfl,h1,h2,h3,h4⟩
 ·refine ⟨l,rfl,hs,fun x=>⟨.inl,fun h=>h.elim id (fun e=>e▸hv)⟩,by omega⟩
 ·simp only [Option.bind_some,Fl.go]
  cases inn
  ·simp only [Bool.not_false,if_true]
   simp at h3
   rw [jS (by simp; omega) (by simp; omega)]
   refine ⟨_,rfl,?_,?_,by simp; omega⟩
   ·rw [List.pairwise_append]
    refine ⟨h1,by simp,fun x hx y hy=>?_⟩
    simp at hy
    rw [hy]
    have:=(h2 x).1 hx
    exact h4 rfl x (by simpa using this)
   ·intro x
    have:=h2 x
    simp at this
    simp [this]
  ·refine ⟨_,rfl,h1,?_,by simp at h3; omega⟩
   intro x
   have:=h2 x
   simpa using this
theorem zHI (a:List ByteArray) (k0:Nat) (h0:1≤k0) (hk:k0<a.length) (hs:a.Pairwise leS) (hl:a.length≤1048577) (hd:a[k0]'hk=a[k0-1]'(by omega)) (hp0:(a.take k0).Pairwise ltS) (x48:List ByteArray) (hx:x48.length=a.length-k0):
  ∃xs k,vJ (k0:Int) x48 (a,(k0:Int),1)=some (xs,((k:Nat):Int))∧xs.length=a.length∧k≤a.length∧(xs.take k).Pairwise ltS∧∀x,x∈xs.take k↔x∈a:=by
 have hle:∀(i j:Nat) (hi:i<a.length) (hj:j<a.length),i≤j→leS a[i] a[j]:=by
  intro i j hi hj hij
  rcases Nat.lt_or_ge i j with h|h
  ·exact List.pairwise_iff_getElem.1 hs i j hi hj h
  ·have:i=j:=by omega
   subst this; exact zIj _
 obtain ⟨⟨xs,k'⟩,e,h1,k,h2,h3,h4,h5⟩:=jV (b:=vX (k0:Int) x48)
  (fun i s=>s.2.2=((i+1:Nat):Int)∧s.1.length=a.length∧(∀j,i+k0≤j→s.1[j]? =a[j]?)∧∃k:Nat,s.2.1=(k:Int)∧1≤k∧k≤i+k0∧(s.1.take k).Pairwise ltS∧(∀x,x∈s.1.take k↔x∈a.take (i+k0+1))∧(∀x∈s.1.take k,leS x (a.getD (i+k0) ByteArray.empty))) (a.length-k0-1)
  (fun t=>t.1.length=a.length∧∃k:Nat,t.2=(k:Int)∧k≤a.length∧(t.1.take k).Pairwise ltS∧∀x,x∈t.1.take k↔x∈a) (by
  rintro i ⟨xs,kk,jj⟩ hi ⟨hj,hlen,hsame,k,hkk,hk1,hkle,hpw,hmem,hmax⟩
  simp only at hj hlen hsame hkk hpw hmem hmax
  subst hj hkk
  have hi1:i+k0+1<a.length:=by omega
  have g1:xs[i+k0+1]'(by omega)=a[i+k0+1]:=by
   have:=hsame (i+k0+1) (by omega)
   rw [List.getElem?_eq_getElem (by omega),List.getElem?_eq_getElem hi1] at this
   exact Option.some.inj this
  have g0:xs[i+k0]'(by omega)=a[i+k0]:=by
   have:=hsame (i+k0) (by omega)
   rw [List.getElem?_eq_getElem (by omega),List.getElem?_eq_getElem (by omega)] at this
   exact Option.some.inj this
  have hgd:a.getD (i+k0) ByteArray.empty=a[i+k0]:=by simp [List.getD,show i+k0<a.length by omega]
  rw [hgd] at hmax
  have r1:zKj xs (k0:Int) x48.length ((i+1:Nat):Int)=some a[i+k0+1]:=by
   unfold zKj
   rw [if_pos (by omega),show (k0:Int)+((i+1:Nat):Int)=((i+k0+1:Nat):Int) by omega,zI (by omega),g1]
  have r0:zKj xs (k0:Int) x48.length (i:Int)=some a[i+k0]:=by
   unfold zKj
   rw [if_pos (by omega),show (k0:Int)+(i:Int)=((i+k0:Nat):Int) by omega,zI (by omega),g0]
  refine .inl ?_
  unfold vX
  rw [if_pos (by simp; omega)]
  simp only
  rw [r1,zCr (x:=((i+1:Nat):Int)-1) (by omega) (by omega),show ((i+1:Nat):Int)-1=(i:Int) by omega,r0,zI (show k<xs.length by omega),zM (show k<_ by omega),zM (show i+1<_ by omega)]
  simp only [Option.bind_some]
  have htk:a.take (i+k0+1+1)=a.take (i+k0+1)++[a[i+k0+1]]:=List.take_succ_eq_append_getElem hi1
  have hmono:=hle (i+k0) (i+k0+1) (by omega) hi1 (by omega)
  have hgd1:a.getD (i+1+k0) ByteArray.empty=a[i+k0+1]:=by
   rw [show i+1+k0=i+k0+1 by omega]
   simp [List.getD,hi1]
  by_cases hne:a[i+k0+1]=a[i+k0]
  ·rw [if_neg (by simp [hne])]
   refine ⟨_,rfl,rfl,hlen,fun j hj=>hsame j (by omega),k,rfl,hk1,by omega,hpw,?_,?_⟩
   ·intro x
    rw [show i+1+k0+1=i+k0+1+1 by omega,htk,hmem,List.mem_append,List.mem_singleton]
    constructor
    ·exact fun h=>.inl h
    ·rintro (h|h)
     ·exact h
     ·rw [h,hne]
      refine List.mem_iff_getElem.2 ⟨i+k0,by simp; omega,by simp⟩
   ·intro x hx
    rw [hgd1]
    exact zHy (hmax x hx) hmono
  ·rw [if_pos (by simpa [seq_eq] using hne)]
   refine ⟨_,rfl,rfl,by simpa using hlen,?_,k+1,rfl,by omega,by omega,?_,?_,?_⟩
   ·intro j hj
    show (xs.set (k:Int).toNat a[i+k0+1])[j]? =a[j]?
    rw [Int.toNat_natCast,List.getElem?_set_ne (by omega)]
    exact hsame j (by omega)
   ·show ((xs.set (k:Int).toNat a[i+k0+1]).take (k+1)).Pairwise ltS
    rw [Int.toNat_natCast,zGM (by omega),List.pairwise_append]
    refine ⟨hpw,by simp,fun x hx y hy=>?_⟩
    simp at hy
    rw [hy]
    exact zJB (hmax x hx) (zKg hmono (Ne.symm hne))
   ·intro x
    show x∈(xs.set (k:Int).toNat a[i+k0+1]).take (k+1)↔_
    rw [Int.toNat_natCast,zGM (by omega),show i+1+k0+1=i+k0+1+1 by omega,htk,List.mem_append,List.mem_append,hmem]
   ·intro x hx
    have hx':x∈(xs.set (k:Int).toNat a[i+k0+1]).take (k+1):=hx
    rw [Int.toNat_natCast,zGM (by omega)] at hx'
    rw [hgd1]
    rcases List.mem_append.1 hx' with h|h
    ·exact zHy (hmax x h) hmono
    ·simp at h; rw [h]; exact zIj _) (by
  rintro ⟨xs,kk,jj⟩ ⟨hj,hlen,hsame,k,hkk,hk1,hkle,hpw,hmem,hmax⟩
  simp only at hj hlen hsame hkk hpw hmem hmax
  subst hj hkk
  unfold vX
  rw [if_neg (by simp; omega)]
  refine ⟨_,rfl,hlen,k,rfl,by omega,hpw,fun x=>?_⟩
  rw [hmem,List.take_of_length_le (by omega)]) (a.length-k0-1) 0 (a,(k0:Int),1) (by omega) ⟨rfl,rfl,fun _ _=>rfl,k0,rfl,h0,by omega,hp0,by
   intro x
   rw [Nat.zero_add,List.take_succ_eq_append_getElem hk,List.mem_append,List.mem_singleton]
   constructor
   ·exact fun h=>.inl h
   ·rintro (h|h)
    ·exact h
    ·rw [h,hd]
     exact List.mem_iff_getElem.2 ⟨k0-1,by simp; omega,by simp⟩,by
   intro x hx
   rw [Nat.zero_add]
   obtain ⟨j,hj,rfl⟩:=List.mem_iff_getElem.1 hx
   rw [List.getElem_take]
   have hgd:a.getD k0 ByteArray.empty=a[k0]:=by simp [List.getD,hk]
   rw [hgd]
   simp at hj
   exact hle j k0 (by omega) hk (by omega)⟩
 simp only at h1 h2
 subst h2
 exact ⟨xs,k,by unfold vJ; exact e,h1,h3,h4,h5⟩
theorem zJ5 (a:List ByteArray) (hs:a.Pairwise leS) (hl:a.length≤1048577):∃r,vK a=some r∧r.Pairwise ltS∧(∀x,x∈r↔x∈a)∧r.length≤a.length:=by
 have step1:∀i (hi:i<a.length) (h1:1≤i),(a.take i).Pairwise ltS→a[i]≠a[i-1]'(by omega)→(a.take (i+1)).Pairwise ltS:=by
  intro i hi h1 hp hne
  rw [List.take_succ_eq_append_getElem hi,List.pairwise_append]
  refine ⟨hp,by simp,fun x hx y hy=>?_⟩
  simp at hy
  rw [hy]
  obtain ⟨j,hj,rfl⟩:=List.mem_iff_getElem.1 hx
  rw [List.getElem_take]
  simp at hj
  have q1:leS (a[i-1]'(by omega)) a[i]:=List.pairwise_iff_getElem.1 hs (i-1) i (by omega) hi (by omega)
  have q2:leS (a[j]'(by omega)) (a[i-1]'(by omega)):=by
   rcases Nat.lt_or_ge j (i-1) with h|h
   ·exact List.pairwise_iff_getElem.1 hs j (i-1) (by omega) (by omega) h
   ·have:j=i-1:=by omega
    subst this; exact zIj _
  exact zJB q2 (zKg q1 (Ne.symm hne))
 have hb:∀i (hi:i<a.length) (h1:1≤i),(a.take i).Pairwise ltS→(a[i]=a[i-1]'(by omega)∧∃r,wS a (i:Int)=some (.done (.ret r))∧r.Pairwise ltS∧(∀x,x∈r↔x∈a)∧r.length≤a.length)∨(a[i]≠a[i-1]'(by omega)∧wS a (i:Int)=some (.go ((i+1:Nat):Int))):=by
  intro i hi h1 hp
  unfold wS
  rw [if_pos (by simp; omega),zI hi,zCr (x:=(i:Int)-1) (by omega) (by omega),show (i:Int)-1=((i-1:Nat):Int) by omega,zI (show i-1<a.length by omega),zM (by omega)]
  simp only [Option.bind_some]
  by_cases he:a[i]=a[i-1]'(by omega)
  ·left
   refine ⟨he,?_⟩
   rw [if_pos (by simpa [seq_eq] using he),zF4 (Nat.le_of_lt hi) (Nat.le_refl _)]
   simp only [Option.bind_some]
   obtain ⟨xs,k,e,g1,g2,g3,g4⟩:=zHI a i h1 hi hs hl he hp ((a.drop i).take (a.length-i)) (by simp)
   rw [e]
   simp only [Option.bind_some]
   have hk:k≤xs.length:=by omega
   rw [zF4 hk (Nat.le_refl _)]
   simp only [Option.bind_some]
   rw [zLL (by simp; omega)]
   simp only [Option.bind_some]
   refine ⟨xs.take k,?_,g3,g4,by simp; omega⟩
   have:∀ys:List ByteArray,zFk (xs.take k++ys) 0 (k:Int)=some (xs.take k):=by
    intro ys
    have hh:=zF4 (xs:=xs.take k++ys) (l:=0) (h:=k) (by omega) (by simp; omega)
    rw [show ((0:Nat):Int)=0 from rfl] at hh
    rw [hh]
    simp [Nat.min_eq_left hk]
   rw [List.append_assoc,this]
   rfl
  ·right
   rw [if_neg (by simpa [seq_eq] using he)]
   exact ⟨he,rfl⟩
 unfold vK
 by_cases h2:a.length<2
 ·rw [if_pos (by simp; omega)]
  refine ⟨a,rfl,?_,fun x=>Iff.rfl,Nat.le_refl _⟩
  match a,h2 with
  |[],_=>simp
  |[x],_=>simp
 ·rw [if_neg (by simp; omega)]
  obtain ⟨t,e,h⟩:=jV (b:=wS a) (fun i s=>s=((i+1:Nat):Int)∧(a.take (i+1)).Pairwise ltS) (a.length-1)
   (fun t=>(∃r,t= .ret r∧r.Pairwise ltS∧(∀x,x∈r↔x∈a)∧r.length≤a.length)∨(t= .nxt ()∧a.Pairwise ltS)) (by
   rintro i s hi ⟨rfl,hp⟩
   rcases hb (i+1) (by omega) (by omega) hp with ⟨_,r,e,q⟩|⟨hne,e⟩
   ·exact .inr ⟨_,e,.inl ⟨r,rfl,q⟩⟩
   ·exact .inl ⟨_,e,rfl,step1 (i+1) (by omega) (by omega) hp hne⟩) (by
   rintro s ⟨rfl,hp⟩
   rw [show a.length-1+1=a.length by omega] at hp ⊢
   refine ⟨.nxt (),?_,.inr ⟨rfl,by rw [List.take_length] at hp; exact hp⟩⟩
   unfold wS
   rw [if_neg (by simp)]) (a.length-1) 0 1 (by omega) ⟨rfl,by
    match a,h2 with
    |x::l,_=>simp⟩
  unfold uH
  rw [e]
  rcases h with ⟨r,rfl,q⟩|⟨rfl,q⟩
  ·exact ⟨r,rfl,q⟩
  ·exact ⟨a,rfl,q,fun x=>Iff.rfl,Nat.le_refl _⟩
theorem zFF (a:List ByteArray) (hl:a.length≤1048577):∃r,uK a=some r∧r.Pairwise ltS∧∀x,x∈r↔x∈a:=by
 obtain ⟨m,e1,e2,e3,e4⟩:=zMJ a hl
 obtain ⟨r,f1,f2,f3,_⟩:=zJ5 m e2 (by omega)
 unfold uK
 rw [e1]
 simp only [Option.bind_some]
 rw [zJQ e4]
 simp only [Option.bind_some]
 rw [f1]
 exact ⟨r,rfl,f2,fun x=>by rw [f3,e3]⟩
theorem zGo {α β:Type} {f:Nat→List β→α→List β} {p:Nat→α→Prop} (hf:∀i l x,f i l x=[]↔l=[]∧p i x):∀(xs:List α) (i:Nat) (l:List β),foldI f i xs l=[]↔l=[]∧∀j,(h:j<xs.length)→p (i+j) xs[j]
 |[],i,l=>by simp [foldI]
 |x::xs,i,l=>by
  show foldI f (i+1) xs (f i l x)=[]↔_
  rw [zGo hf xs (i+1) (f i l x),hf]
  constructor
  ·rintro ⟨⟨h1,h2⟩,h3⟩
   refine ⟨h1,fun j hj=>?_⟩
   cases j with
   |zero=>simpa using h2
   |succ j=>
    have:=h3 j (by simpa using hj)
    rw [show i+(j+1)=i+1+j by omega]
    simpa using this
  ·rintro ⟨h1,h2⟩
   refine ⟨⟨h1,by have h:=h2 0 (by simp); rw [Nat.add_zero] at h; exact h⟩,fun j hj=>?_⟩
   have:=h2 (j+1) (by simpa using hj)
   rw [show i+(j+1)=i+1+j by omega] at this
   simpa using this
def tN (c:List Pack) (k:Int):ByteArray:=(pat c k).Name
structure GoodS (c:List Pack) (a:List Int):Prop where
 names:a.Pairwise (fun k o=>tN c k≠tN c o)
 needs:∀k∈a,∀l∈(pat c k).Needs,zKh c a l=true
 bars:∀k∈a,∀t∈(pat c k).Bars,zDv c a t k=false
theorem zFQ (c:List Pack) (a:List Int):zDZ c a=[]↔GoodS c a:=by
 have hN:∀(k:Int) (j:Nat) (l:List zP) (x:List Term),fN c a k j l x=[]↔l=[]∧zKh c a x=true:=by
  intro k j l x
  unfold fN
  cases zKh c a x<;>simp
 have hB:∀(k:Int) (j:Nat) (l:List zP) (t:Term),fB c a k j l t=[]↔l=[]∧zDv c a t k=false:=by
  intro k j l t
  unfold fB
  cases zDv c a t k<;>simp
 have hS:∀(i:Nat) (l:List zP) (k:Int),fS c a i l k=[]↔l=[]∧((a.take i).any (fun o=>seq (pat c o).Name (pat c k).Name)=false∧(∀x∈(pat c k).Needs,zKh c a x=true)∧∀t∈(pat c k).Bars,zDv c a t k=false):=by
  intro i l k
  unfold fS
  rw [zGo (p:=fun _ t=>zDv c a t k=false) (fun i l x=>hB k i l x),zGo (p:=fun _ x=>zKh c a x=true) (fun i l x=>hN k i l x)]
  have hD:fD c a i k l=[]↔l=[]∧(a.take i).any (fun o=>seq (pat c o).Name (pat c k).Name)=false:=by
   unfold fD
   cases (a.take i).any (fun o=>seq (pat c o).Name (pat c k).Name)<;>simp
  rw [hD]
  constructor
  ·rintro ⟨⟨⟨h1,h2⟩,h3⟩,h4⟩
   refine ⟨h1,h2,fun x hx=>?_,fun t ht=>?_⟩
   ·obtain ⟨j,hj,rfl⟩:=List.getElem_of_mem hx
    exact h3 j hj
   ·obtain ⟨j,hj,rfl⟩:=List.getElem_of_mem ht
    exact h4 j hj
  ·rintro ⟨h1,h2,h3,h4⟩
   exact ⟨⟨⟨h1,h2⟩,fun j hj=>h3 _ (List.getElem_mem hj)⟩,fun j hj=>h4 _ (List.getElem_mem hj)⟩
 unfold zDZ
 rw [zGo hS]
 constructor
 ·rintro ⟨_,h⟩
  refine ⟨?_,fun k hk=>?_,fun k hk=>?_⟩
  ·rw [List.pairwise_iff_getElem]
   intro i j hi hj hij e
   have:=(h j hj).1
   rw [Nat.zero_add] at this
   have hm:a[i]∈a.take j:=List.mem_take_iff_getElem.2 ⟨i,by omega,rfl⟩
   have h2:(a.take j).any (fun o=>seq (pat c o).Name (pat c a[j]).Name)=true:=List.any_eq_true.2 ⟨_,hm,zDU.2 e⟩
   rw [this] at h2
   cases h2
  ·obtain ⟨j,hj,rfl⟩:=List.getElem_of_mem hk
   exact (h j hj).2.1
  ·obtain ⟨j,hj,rfl⟩:=List.getElem_of_mem hk
   exact (h j hj).2.2
 ·rintro ⟨h1,h2,h3⟩
  refine ⟨rfl,fun j hj=>⟨?_,h2 _ (List.getElem_mem hj),h3 _ (List.getElem_mem hj)⟩⟩
  rw [Nat.zero_add]
  cases ha:(a.take j).any (fun o=>seq (pat c o).Name (pat c a[j]).Name) with
  |false=>rfl
  |true=>
   obtain ⟨o,ho,he⟩:=List.any_eq_true.1 ha
   obtain ⟨i,hi,rfl⟩:=List.mem_take_iff_getElem.1 ho
   exact absurd (zDU.1 he) (List.pairwise_iff_getElem.1 h1 i j (by omega) hj (by omega))
theorem GoodS.one {c:List Pack} {a:List Int} (h:GoodS c a) {k o:Int} (hk:k∈a) (ho:o∈a) (e:tN c k=tN c o):k=o:=by
 obtain ⟨i,hi,rfl⟩:=List.getElem_of_mem hk
 obtain ⟨j,hj,rfl⟩:=List.getElem_of_mem ho
 rcases Nat.lt_trichotomy i j with h1|h1|h1
 ·exact absurd e (List.pairwise_iff_getElem.1 h.names i j hi hj h1)
 ·subst h1; rfl
 ·exact absurd e.symm (List.pairwise_iff_getElem.1 h.names j i hj hi h1)
def Chg (c:List Pack) (a b:List Int) (n:ByteArray):Prop:=∃k,tN c k=n∧((k∈a∧k∉b)∨(k∈b∧k∉a))
def Nms (c:List Pack) (a b:List Int) (x n:ByteArray):Prop:=n=x∨∃k,(k∈a∨k∈b)∧tN c k=x∧n∈(pat c k).Provides
def Says (c:List Pack) (k:Int) (n:ByteArray):Prop:=(∃l∈(pat c k).Needs,∃t∈l,t.Name=n)∨∃t∈(pat c k).Bars,t.Name=n
def Tch (c:List Pack) (a b:List Int) (x y:ByteArray):Prop:=∃k,(k∈a∨k∈b)∧tN c k=x∧∃n,Says c k n∧Nms c a b y n
def Joi (c:List Pack) (a b:List Int) (x y:ByteArray):Prop:=
 Tch c a b x y∨Tch c a b y x∨∃k,(k∈a∨k∈b)∧∃l∈(pat c k).Needs,(∃t∈l,Nms c a b x t.Name)∧∃t∈l,Nms c a b y t.Name
theorem Joi.symm {c:List Pack} {a b:List Int} {x y:ByteArray} (h:Joi c a b x y):Joi c a b y x:=by
 rcases h with h|h|⟨k,h1,l,h2,h3,h4⟩
 ·exact .inr (.inl h)
 ·exact .inl h
 ·exact .inr (.inr ⟨k,h1,l,h2,h4,h3⟩)
theorem zKD {c:List Pack} {k:Int} {t:Term} (h:zBd (pat c k) t=true):t.Name=tN c k∨t.Name∈(pat c k).Provides :=by
 unfold zBd at h
 simp only [Bool.and_eq_true,Bool.or_eq_true] at h
 rcases h.1 with h|h
 ·exact .inl (zDU.1 h)
 ·obtain ⟨x,hx,e⟩:=List.any_eq_true.1 h
  rw [←zDU.1 e]
  exact .inr hx
theorem zEV {c:List Pack} {a b:List Int} {k:Int} {t:Term} (hk:k∈a∨k∈b) (h:zBd (pat c k) t=true):Nms c a b (tN c k) t.Name:=by
 rcases zKD h with h|h
 ·exact .inl h
 ·exact .inr ⟨k,hk,rfl,h⟩
def Mvd (c:List Pack) (a b:List Int) (U:ByteArray→Prop) (m:List Int):Prop:=∀k,k∈m↔(U (tN c k)∧k∈b)∨(¬U (tN c k)∧k∈a)
theorem apart {c:List Pack} {a b m:List Int} {U:ByteArray→Prop} (ga:GoodS c a) (gb:GoodS c b) (hm:Mvd c a b U m) (hn:m.Nodup)
  (hj:∀x y,Chg c a b x→Chg c a b y→U x→¬U y→¬Joi c a b x y):GoodS c m:=by
 have outA:∀{k},k∈a→k∉m→U (tN c k)∧Chg c a b (tN c k):=by
  intro k h1 h2
  have hU:U (tN c k):=Classical.byContradiction fun h=>h2 ((hm k).2 (.inr ⟨h,h1⟩))
  exact ⟨hU,k,rfl,.inl ⟨h1,fun h3=>h2 ((hm k).2 (.inl ⟨hU,h3⟩))⟩⟩
 have outB:∀{k},k∈b→k∉m→¬U (tN c k)∧Chg c a b (tN c k):=by
  intro k h1 h2
  have hU:¬U (tN c k):=fun h=>h2 ((hm k).2 (.inl ⟨h,h1⟩))
  exact ⟨hU,k,rfl,.inr ⟨h1,fun h3=>h2 ((hm k).2 (.inr ⟨hU,h3⟩))⟩⟩
 refine ⟨?_,fun k hk l hl=>?_,fun k hk t ht=>?_⟩
 ·refine List.Pairwise.imp_of_mem ?_ hn
  intro k o hk ho hne e
  refine hne ?_
  rcases (hm k).1 hk with ⟨h1,h2⟩|⟨h1,h2⟩<;>rcases (hm o).1 ho with ⟨h3,h4⟩|⟨h3,h4⟩
  ·exact gb.one h2 h4 e
  ·exact absurd (e▸h1) h3
  ·exact absurd (e▸h3) h1
  ·exact ga.one h2 h4 e
 ·have use:∀{o:Int},o∈m→l.any (zBd (pat c o))=true→zKh c m l=true:=fun {o} ho hg=>List.any_eq_true.2 ⟨o,ho,hg⟩
  have says:∀{t:Term},t∈l→Says c k t.Name:=fun {t} ht=>.inl ⟨l,hl,t,ht,rfl⟩
  rcases (hm k).1 hk with ⟨hU,hkb⟩|⟨hU,hka⟩
  ·obtain ⟨o,ho,hg⟩:=List.any_eq_true.1 (gb.needs k hkb l hl)
   by_cases hom:o∈m
   ·exact use hom hg
   obtain ⟨hUo,hco⟩:=outB ho hom
   obtain ⟨t,ht,hgt⟩:=List.any_eq_true.1 hg
   have hnm:=zEV (a:=a) (b:=b) (.inr ho) hgt
   by_cases hka:k∈a
   ·obtain ⟨o',ho',hg'⟩:=List.any_eq_true.1 (ga.needs k hka l hl)
    by_cases hom':o'∈m
    ·exact use hom' hg'
    obtain ⟨hUo',hco'⟩:=outA ho' hom'
    obtain ⟨t',ht',hgt'⟩:=List.any_eq_true.1 hg'
    exact absurd (.inr (.inr ⟨k,.inl hka,l,hl,⟨t',ht',zEV (.inl ho') hgt'⟩,⟨t,ht,hnm⟩⟩)) (hj _ _ hco' hco hUo' hUo)
   ·exact absurd (.inl ⟨k,.inr hkb,rfl,_,says ht,hnm⟩) (hj _ _ ⟨k,rfl,.inr ⟨hkb,hka⟩⟩ hco hU hUo)
  ·obtain ⟨o,ho,hg⟩:=List.any_eq_true.1 (ga.needs k hka l hl)
   by_cases hom:o∈m
   ·exact use hom hg
   obtain ⟨hUo,hco⟩:=outA ho hom
   obtain ⟨t,ht,hgt⟩:=List.any_eq_true.1 hg
   have hnm:=zEV (a:=a) (b:=b) (.inl ho) hgt
   by_cases hkb:k∈b
   ·obtain ⟨o',ho',hg'⟩:=List.any_eq_true.1 (gb.needs k hkb l hl)
    by_cases hom':o'∈m
    ·exact use hom' hg'
    obtain ⟨hUo',hco'⟩:=outB ho' hom'
    obtain ⟨t',ht',hgt'⟩:=List.any_eq_true.1 hg'
    exact absurd (.inr (.inr ⟨k,.inl hka,l,hl,⟨t,ht,hnm⟩,⟨t',ht',zEV (.inr ho') hgt'⟩⟩)) (hj _ _ hco hco' hUo hUo')
   ·exact absurd (.inr (.inl ⟨k,.inl hka,rfl,_,says ht,hnm⟩)) (hj _ _ hco ⟨k,rfl,.inl ⟨hka,hkb⟩⟩ hUo hU)
 ·cases hgv:zDv c m t k with
  |false=>rfl
  |true=>
   exfalso
   obtain ⟨o,ho,hg⟩:=List.any_eq_true.1 hgv
   simp only [Bool.and_eq_true,bne_iff_ne] at hg
   obtain ⟨hok,hgt⟩:=hg
   have inB:k∈b→o∈b→False:=fun h1 h2=>by
    have:zDv c b t k=true:=List.any_eq_true.2 ⟨o,h2,by simp [hok,hgt]⟩
    rw [gb.bars k h1 t ht] at this
    cases this
   have inA:k∈a→o∈a→False:=fun h1 h2=>by
    have:zDv c a t k=true:=List.any_eq_true.2 ⟨o,h2,by simp [hok,hgt]⟩
    rw [ga.bars k h1 t ht] at this
    cases this
   have says:Says c k t.Name:=.inr ⟨t,ht,rfl⟩
   rcases (hm k).1 hk with ⟨h1,h2⟩|⟨h1,h2⟩<;>rcases (hm o).1 ho with ⟨h3,h4⟩|⟨h3,h4⟩
   ·exact inB h2 h4
   ·by_cases h5:o∈b
    ·exact inB h2 h5
    by_cases h6:k∈a
    ·exact inA h6 h4
    exact hj _ _ ⟨k,rfl,.inr ⟨h2,h6⟩⟩ ⟨o,rfl,.inl ⟨h4,h5⟩⟩ h1 h3 (.inl ⟨k,.inr h2,rfl,_,says,zEV (.inl h4) hgt⟩)
   ·by_cases h5:o∈a
    ·exact inA h2 h5
    by_cases h6:k∈b
    ·exact inB h6 h4
    exact hj _ _ ⟨o,rfl,.inr ⟨h4,h5⟩⟩ ⟨k,rfl,.inl ⟨h2,h6⟩⟩ h3 h1 (.inr (.inl ⟨k,.inl h2,rfl,_,says,zEV (.inr h4) hgt⟩))
   ·exact inA h2 h4
def inN (ns:List ByteArray) (n:ByteArray):Bool:=ns.any fun x=>seq x n
theorem zDK {ns:List ByteArray} {n:ByteArray}:inN ns n=true↔n∈ns:=by
 unfold inN
 rw [List.any_eq_true]
 constructor
 ·rintro ⟨x,hx,e⟩; rw [←zDU.1 e]; exact hx
 ·exact fun h=>⟨n,h,zFG n⟩
def mvB (c:List Pack) (a b:List Int) (ns:List ByteArray) (k:Int):Bool:=if inN ns (tN c k) then decide (k∈b) else decide (k∈a)
def upTo (n:Nat):List Int:=(List.range n).map fun i:Nat=>(i:Int)
def mvL (c:List Pack) (a b:List Int) (ns:List ByteArray):List Int:=(upTo c.length).filter (mvB c a b ns)
theorem zJu (n:Nat):(upTo n).length =n:=by simp [upTo]
theorem zKz {n:Nat} {k:Int}:k∈upTo n↔0≤k∧k<n:=by
 unfold upTo
 rw [List.mem_map]
 constructor
 ·rintro ⟨i,hi,rfl⟩
  have:=List.mem_range.1 hi
  omega
 ·rintro ⟨h1,h2⟩
  exact ⟨k.toNat,List.mem_range.2 (by omega),by omega⟩
theorem zN9 (n:Nat):(upTo n).Pairwise (· < ·):=by
 unfold upTo
 refine List.pairwise_map.2 (List.pairwise_lt_range.imp fun h=>by omega)
theorem zFM (c:List Pack) (a b:List Int) (ns:List ByteArray):(mvL c a b ns).Pairwise (· < ·):=(zN9 _).filter _
theorem zG5 (c:List Pack) (a b:List Int) (ns:List ByteArray):Places c (mvL c a b ns):=fun k hk=>zKz.1 (List.mem_filter.1 hk).1
theorem zG0 (c:List Pack) (a b:List Int) (ns:List ByteArray):(mvL c a b ns).length ≤c.length:=by
 have:=List.length_filter_le (mvB c a b ns) (upTo c.length)
 rw [zJu] at this
 exact this
theorem zFg {c:List Pack} {a b:List Int} {ns:List ByteArray} (ha:Places c a) (hb:Places c b) {k:Int}:k∈mvL c a b ns↔(tN c k∈ns∧k∈b)∨(tN c k∉ns∧k∈a):=by
 unfold mvL mvB
 rw [List.mem_filter,zKz]
 have hin:=zDK (ns:=ns) (n:=tN c k)
 cases hq:inN ns (tN c k)
 ·have hno:tN c k∉ns:=fun h=>by rw [hin.2 h] at hq; cases hq
  simp only [Bool.false_eq_true,if_false,decide_eq_true_eq]
  constructor
  ·rintro ⟨_,h⟩; exact .inr ⟨hno,h⟩
  ·rintro (⟨h,_⟩|⟨_,h⟩)
   ·exact absurd h hno
   ·exact ⟨ha k h,h⟩
 ·have hyes:=hin.1 hq
  simp only [if_true,decide_eq_true_eq]
  constructor
  ·rintro ⟨_,h⟩; exact .inl ⟨hyes,h⟩
  ·rintro (⟨_,h⟩|⟨h,_⟩)
   ·exact ⟨hb k h,h⟩
   ·exact absurd hyes h
theorem zM9 {l r:List Int} (hr:r.Pairwise (· < ·)) (hl:l.Nodup) (hm:∀x,x∈r↔x∈l) (hs:l.length≤4194304):uY l=some r:=by
 unfold uY
 rw [if_pos (by omega)]
 congr 1
 have hp:(l.mergeSort fun x y=>decide (x≤y)).Pairwise (fun x y=>decide (x≤y)=true):=List.pairwise_mergeSort (le:=fun x y:Int=>decide (x≤y)) (by intro x y z h1 h2; simp at*; omega) (by intro x y; simp; omega) l
 have hn:(l.mergeSort fun x y=>decide (x≤y)).Nodup :=(List.mergeSort_perm _ _).nodup_iff.2 hl
 refine zEX ?_ hr (fun x=>(List.mergeSort_perm _ _).mem_iff.trans (hm x).symm)
 exact hp.imp₂ (fun x y h1 h2=>by simp at h1; omega) hn
theorem zHv {c:List Pack} {a:List Int} {ns:List ByteArray} (hp:Places c a) (ha:a.length≤1048576) (hn:ns.length≤1048576):
  vL a ns c=some (a.filter fun k=>inN ns (tN c k))∧yV a ns c=some (a.filter fun k=> !(inN ns (tN c k))):=by
 have h1:∀k∈a,wI k ns c=some (!(inN ns (tN c k))):=by
  intro k hk
  unfold wI zAT
  rw [(zAr (hp k hk)).1]
  simp only [Option.bind_some]
  rw [zDd _ _ hn]
  rfl
 have h2:∀k∈a,zR k ns c=some (inN ns (tN c k)):=by
  intro k hk
  unfold zR vP zAT
  rw [(zAr (hp k hk)).1]
  simp only [Option.bind_some]
  rw [zDd _ _ hn]
  simp only [Option.bind_some,Bool.not_not]
  rfl
 constructor
 ·have key:=zJ2 (fun k=> !(inN ns (tN c k))) a (0:Int) (by omega) (b1:=yD a ns c) (b2:=yC ns c) (by
   intro i hi
   unfold yD
   rw [if_pos (by simp; omega),zI hi]
   simp only [Option.bind_some,h1 _ (List.getElem_mem hi)]
   rw [zM (by omega)]
   split<;>rfl) (by
   unfold yD
   rw [if_neg (by simp)]) (by
   intro xs i j hj hij hl hm
   unfold yC
   simp only
   rw [if_pos (by simp; omega),zI hj]
   simp only [Option.bind_some,h1 _ hm]
   rw [zI (show i<xs.length by omega),zM (show j<_ by omega),zM (show i<_ by omega)]
   cases inN ns (tN c xs[j])<;>simp) (by
   intro xs i hl
   unfold yC
   rw [if_neg (by simp)])
  have e:zW a ns c=some (a.filter fun k=> !!(inN ns (tN c k))):=key
  unfold vL wF
  rw [jS (by simp; omega) (by simp; omega)]
  simp only [Option.bind_some,List.nil_append]
  rw [e]
  simp
 ·have key:=zJ2 (fun k=>inN ns (tN c k)) a (0:Int) (by omega) (b1:=zN a ns c) (b2:=zL ns c) (by
   intro i hi
   unfold zN
   rw [if_pos (by simp; omega),zI hi]
   simp only [Option.bind_some,h2 _ (List.getElem_mem hi)]
   rw [zM (by omega)]
   split<;>rfl) (by
   unfold zN
   rw [if_neg (by simp)]) (by
   intro xs i j hj hij hl hm
   unfold zL
   simp only
   rw [if_pos (by simp; omega),zI hj]
   simp only [Option.bind_some,h2 _ hm]
   rw [zI (show i<xs.length by omega),zM (show j<_ by omega),zM (show i<_ by omega)]
   cases inN ns (tN c xs[j])<;>simp) (by
   intro xs i hl
   unfold zL
   rw [if_neg (by simp)])
  have e:zJ a ns c=some (a.filter fun k=> !(inN ns (tN c k))):=key
  unfold yV wF
  rw [jS (by simp; omega) (by simp; omega)]
  simp only [Option.bind_some,List.nil_append]
  rw [e]
  rfl
theorem zK9 {c:List Pack} {a b:List Int} {ns:List ByteArray} (pa:Places c a) (pb:Places c b) (sa:a.Pairwise (· < ·)) (sb:b.Pairwise (· < ·)) (ha:a.length≤1048576) (hb:b.length≤1048576) (hn:ns.length≤1048576):
  zCj c a b ns=some (mvL c a b ns):=by
 have l1:=List.length_filter_le (fun k=> !(inN ns (tN c k))) a
 have l2:=List.length_filter_le (fun k=>inN ns (tN c k)) b
 unfold zCj
 rw [(zHv pa ha hn).2,(zHv pb hb hn).1]
 simp only [Option.bind_some]
 rw [jS (by omega) (by omega)]
 simp only [Option.bind_some]
 have nd:∀{l:List Int},l.Pairwise (· < ·)→l.Nodup:=fun h=>h.imp fun h=>by omega
 rw [zM9 (r:=mvL c a b ns) (zFM c a b ns) ?_ ?_ (by simp only [List.length_append]; omega)]
 ·simp only [Option.bind_some]
  rw [zJQ]
  ·rfl
  ·refine (List.Perm.length_eq ?_)
   refine (List.perm_ext_iff_of_nodup (nd (zFM c a b ns)) ?_).2 ?_
   ·refine List.nodup_append.2 ⟨(nd sa).filter _,(nd sb).filter _,fun x hx y hy e=>?_⟩
    subst e
    have h1:=(List.mem_filter.1 hx).2
    have h2:=(List.mem_filter.1 hy).2
    rw [h2] at h1
    cases h1
   ·intro k
    rw [zFg pa pb,List.mem_append,List.mem_filter,List.mem_filter]
    have hin:=zDK (ns:=ns) (n:=tN c k)
    cases hq:inN ns (tN c k)
    ·have hno:tN c k∉ns:=fun h=>by rw [hin.2 h] at hq; cases hq
     simp [hno]
    ·simp [hin.1 hq]
 ·refine List.nodup_append.2 ⟨(nd sa).filter _,(nd sb).filter _,fun x hx y hy e=>?_⟩
  subst e
  have h1:=(List.mem_filter.1 hx).2
  have h2:=(List.mem_filter.1 hy).2
  rw [h2] at h1
  cases h1
 ·intro k
  rw [zFg pa pb,List.mem_append,List.mem_filter,List.mem_filter]
  have hin:=zDK (ns:=ns) (n:=tN c k)
  cases hq:inN ns (tN c k)
  ·have hno:tN c k∉ns:=fun h=>by rw [hin.2 h] at hq; cases hq
   simp [hno]
  ·simp [hin.1 hq]
theorem zIn {c:List Pack} {a b:List Int} {n1 n2:List ByteArray} (pa:Places c a) (pb:Places c b):mvL c (mvL c a b n1) b n2=mvL c a b (n1++n2):=by
 refine zEX (zFM _ _ _ _) (zFM _ _ _ _) fun k=>?_
 rw [zFg (zG5 _ _ _ _) pb,zFg pa pb,zFg pa pb,List.mem_append]
 by_cases h1:tN c k∈n1<;>by_cases h2:tN c k∈n2<;>simp [h1,h2]
theorem zJO {c:List Pack} {a b:List Int} (pa:Places c a) (pb:Places c b) (sa:a.Pairwise (· < ·)):mvL c a b []=a:=by
 refine zEX (zFM _ _ _ _) sa fun k=>?_
 rw [zFg pa pb]
 simp
def zEp (c:List Pack) (a:List Int) (n:ByteArray):Int:=(vE (fun _ k=>if seq (pat c k).Name n then some k else none) 0 a).getD (-1)
theorem zKx {q:Int→Bool}:∀(xs:List Int) (i:Nat),((vE (fun _ k=>if q k then some k else none) i xs)=none∧∀k∈xs,q k=false)∨∃k∈xs,q k=true∧(vE (fun _ k=>if q k then some k else none) i xs)=some k
 |[],i=>.inl ⟨rfl,by simp⟩
 |x::xs,i=>by
  simp only [vE]
  cases hq:q x
  ·simp only [Bool.false_eq_true,if_false]
   rcases zKx (q:=q) xs (i+1) with ⟨h1,h2⟩|⟨k,h1,h2,h3⟩
   ·refine .inl ⟨h1,fun k hk=>?_⟩
    rcases List.mem_cons.1 hk with rfl|hk
    ·exact hq
    ·exact h2 k hk
   ·exact .inr ⟨k,by simp [h1],h2,h3⟩
  ·simp only [if_true]
   exact .inr ⟨x,by simp,hq,rfl⟩
theorem zA4 (c:List Pack) (a:List Int) (n:ByteArray):(zEp c a n= -1∧∀k∈a,tN c k≠n)∨(zEp c a n∈a∧tN c (zEp c a n)=n):=by
 unfold zEp
 rcases zKx (q:=fun k=>seq (pat c k).Name n) a 0 with ⟨h1,h2⟩|⟨k,h1,h2,h3⟩
 ·rw [h1]
  refine .inl ⟨rfl,fun k hk e=>?_⟩
  have:seq (tN c k) n=false:=h2 k hk
  rw [zDU.2 e] at this
  cases this
 ·rw [h3]
  exact .inr ⟨h1,zDU.1 h2⟩
theorem zEJ {c:List Pack} {a:List Int} (hp:Places c a) (ha:a.length≤1048576) (n:ByteArray):zAd c a n=some (zEp c a n)∧tK c a n=some (zEp c a n):=by
 have key:=wQ a (fun _ k=>if seq (pat c k).Name n then some k else none) (b:=zDt c a n) (by
  intro i hi
  have hk:=hp _ (List.getElem_mem hi)
  unfold zDt
  rw [if_pos (by simp; omega),zI hi]
  simp only [Option.bind_some]
  rw [(zAr hk).1]
  simp only [Option.bind_some]
  rw [zM (by omega)]
  cases seq (pat c a[i]).Name n<;>rfl) (by
  unfold zDt
  rw [if_neg (by simp)])
 have key2:=wQ a (fun _ k=>if seq (pat c k).Name n then some k else none) (b:=kZ c a n) (by
  intro i hi
  have hk:=hp _ (List.getElem_mem hi)
  unfold kZ
  rw [if_pos (by simp; omega),zI hi]
  simp only [Option.bind_some]
  rw [(zAr hk).1]
  simp only [Option.bind_some]
  rw [zM (by omega)]
  cases seq (pat c a[i]).Name n<;>rfl) (by
  unfold kZ
  rw [if_neg (by simp)])
 constructor
 ·unfold zAd zDT zEp
  rw [key,zB2]
  cases vE (fun _ k=>if seq (pat c k).Name n then some k else none) 0 a<;>rfl
 ·unfold tK zDa zEp
  rw [key2,zB2]
  cases vE (fun _ k=>if seq (pat c k).Name n then some k else none) 0 a<;>rfl
theorem zLw {a b:List Int} (ha:a.length≤1048576) (hb:b.length≤1048576):wZ [a,b]=some (a++b):=by
 unfold wZ jG jH
 have e1:loop (wJ [a,b]) (0,0)=some ((a.length+b.length:Nat):Int):=by
  have i0:idx [a,b] 0=some a:=rfl
  have i1:idx [a,b] 1=some b:=rfl
  rw [tX,show wJ [a,b] (0,0)=some (.go ((a.length:Int),1)) by
   unfold wJ
   rw [if_pos (by simp)]
   simp only
   rw [i0]
   simp only [Option.bind_some]
   rw [zCr (by omega) (by omega),if_neg (by simp)]
   simp [zCr]]
  simp only [Option.bind_some,Lp.elim]
  rw [tX,show wJ [a,b] ((a.length:Int),1)=some (.go ((a.length:Int)+b.length,2)) by
   unfold wJ
   rw [if_pos (by simp)]
   simp only
   rw [i1]
   simp only [Option.bind_some]
   rw [zCr (x:=(a.length:Int)+b.length) (by omega) (by omega),if_neg (by simp; omega)]
   simp [zCr]]
  simp only [Option.bind_some,Lp.elim]
  rw [tX,show wJ [a,b] ((a.length:Int)+b.length,2)=some (.done ((a.length:Int)+b.length)) by
   unfold wJ
   rw [if_neg (by simp)]]
  simp [Lp.elim]
 rw [e1]
 simp only [Option.bind_some]
 have e2:zAn ((a.length+b.length:Nat):Int)=some []:=by
  unfold zAn
  rw [if_pos (by omega)]
 rw [e2]
 simp only [Option.bind_some]
 have i0:idx [a,b] 0=some a:=rfl
 have i1:idx [a,b] 1=some b:=rfl
 rw [tX,show wU [a,b] (([]:List Int),0)=some (.go (a,1)) by
  unfold wU
  rw [if_pos (by simp)]
  simp only
  rw [i0]
  simp only [Option.bind_some]
  rw [jS (by simp; omega) (by simp; omega)]
  simp [zCr]]
 simp only [Option.bind_some,Lp.elim]
 rw [tX,show wU [a,b] (a,1)=some (.go (a++b,2)) by
  unfold wU
  rw [if_pos (by simp)]
  simp only
  rw [i1]
  simp only [Option.bind_some]
  rw [jS (by omega) (by omega)]
  simp [zCr]]
 simp only [Option.bind_some,Lp.elim]
 rw [tX,show wU [a,b] (a++b,2)=some (.done (a++b)) by
  unfold wU
  rw [if_neg (by simp)]]
 simp [Lp.elim]
structure Sml (c:List Pack):Prop where
 len:c.length≤24
 zOG:∀k,(pat c k).Provides.length ≤4
 needs:∀k,(pat c k).Needs.length ≤4
 bars:∀k,(pat c k).Bars.length ≤4
 clause:∀k,∀l∈(pat c k).Needs,l.length≤4
theorem Sml.of {c:List Pack} (h:CF c=0):Sml c:=by
 obtain ⟨h1,h2,_⟩:=zN5 h
 have key:∀p,PF p=0→p.Provides.length≤4∧p.Needs.length≤4∧p.Bars.length≤4∧∀l∈p.Needs,l.length≤4:=by
  intro p hp
  have hm:zKU p=false:=by
   cases hm:zKU p with
   |false=>rfl
   |true=>
    unfold PF at hp
    rw [hm] at hp
    split at hp
    ·rename_i h3; simp [hp] at h3
    split at hp
    ·rename_i h3; simp [hp] at h3
    split at hp
    ·cases hp
    ·cases hp
  unfold zKU at hm
  simp only [Bool.or_eq_false_iff,decide_eq_false_iff_not,List.any_eq_false,decide_eq_true_eq] at hm
  obtain ⟨m1,m2,m3,m4⟩:=hm
  exact ⟨by omega,by omega,by omega,fun l hl=>by have:=m4 l hl; omega⟩
 have pk:∀k,(pat c k).Provides.length ≤4∧(pat c k).Needs.length ≤4∧(pat c k).Bars.length ≤4∧∀l∈(pat c k).Needs,l.length≤4:=by
  intro k
  unfold pat
  cases hk:idx c k with
  |none=>simp [noPack]
  |some p=>
   refine key p (h2 p ?_)
   unfold idx at hk
   split at hk
   ·exact List.mem_of_getElem? hk
   ·cases hk
 exact ⟨h1,fun k=>(pk k).1,fun k=>(pk k).2.1,fun k=>(pk k).2.2.1,fun k=>(pk k).2.2.2⟩
structure Two (c:List Pack) (a b:List Int):Prop where
 sml:Sml c
 pa:Places c a
 pb:Places c b
 sa:a.Pairwise (· < ·)
 sb:b.Pairwise (· < ·)
 la:a.length≤24
 lb:b.length≤24
theorem zIX {c:List Pack} {a b:List Int} (h:Two c a b):
  ∃l,kY c a b=some l∧zAC c a b=some l∧l.Pairwise ltS∧(∀n,n∈l↔zEp c a n≠zEp c b n)∧l.length≤24:=by
 have hc:=h.sml.len
 have la:=h.la
 have lb:=h.lb
 obtain ⟨l,e,h1,h2,h3⟩:=jV (b:=zAO c a b) (fun i s=>s.2=(i:Int)∧s.1.Pairwise ltS∧(∀n,n∈s.1↔(∃k:Nat,k<i∧tN c (k:Int)=n)∧zEp c a n≠zEp c b n)∧s.1.length≤i) c.length
  (fun t=>t.Pairwise ltS∧(∀n,n∈t↔(∃k:Nat,k<c.length∧tN c (k:Int)=n)∧zEp c a n≠zEp c b n)∧t.length≤c.length) (by
  rintro i ⟨l,j⟩ hi ⟨hj,hs,hm,hl⟩
  simp only at hj hs hm hl
  subst hj
  refine .inl ?_
  have hk:=zAr (c:=c) (k:=(i:Int)) ⟨by omega,by omega⟩
  unfold zAO
  rw [if_pos (by simp; omega)]
  simp only
  rw [hk.1]
  simp only [Option.bind_some]
  rw [(zEJ h.pa (by omega) _).1,(zEJ h.pb (by omega) _).1,zM (by omega)]
  simp only [Option.bind_some]
  have hex:∀n,(∃k:Nat,k<i+1∧tN c (k:Int)=n)↔(∃k:Nat,k<i∧tN c (k:Int)=n)∨n=(pat c i).Name :=by
   intro n
   constructor
   ·rintro ⟨k,h1,h2⟩
    rcases Nat.lt_succ_iff_lt_or_eq.1 h1 with h3|rfl
    ·exact .inl ⟨k,h3,h2⟩
    ·exact .inr h2.symm
   ·rintro (⟨k,h1,h2⟩|h2)
    ·exact ⟨k,by omega,h2⟩
    ·exact ⟨i,by omega,h2.symm⟩
  by_cases hne:zEp c a (pat c i).Name =zEp c b (pat c i).Name
  ·rw [if_neg (by simp [hne])]
   refine ⟨_,rfl,rfl,hs,fun n=>?_,by simp only; omega⟩
   rw [hm,hex]
   constructor
   ·rintro ⟨q1,q2⟩; exact ⟨.inl q1,q2⟩
   ·rintro ⟨q1|q1,q2⟩
    ·exact ⟨q1,q2⟩
    ·subst q1; exact absurd hne q2
  ·rw [if_pos (by simp [hne])]
   obtain ⟨r,e1,e2,e3,e4⟩:=zGW l (pat c i).Name hs (by omega)
   rw [e1]
   refine ⟨_,rfl,rfl,e2,fun n=>?_,by simp only; omega⟩
   rw [e3,hm,hex]
   constructor
   ·rintro (⟨q1,q2⟩|q1)
    ·exact ⟨.inl q1,q2⟩
    ·subst q1; exact ⟨.inr rfl,hne⟩
   ·rintro ⟨q1|q1,q2⟩
    ·exact .inl ⟨q1,q2⟩
    ·exact .inr q1) (by
  rintro ⟨l,j⟩ ⟨hj,hs,hm,hl⟩
  simp only at hj hs hm hl
  subst hj
  unfold zAO
  rw [if_neg (by simp)]
  exact ⟨_,rfl,hs,hm,hl⟩) c.length 0 (([]:List ByteArray),0) (by omega) ⟨rfl,by simp,by simp,by simp⟩
 have hmem:∀n,n∈l↔zEp c a n≠zEp c b n:=by
  intro n
  rw [h2]
  constructor
  ·exact fun h=>h.2
  ·intro hne
   refine ⟨?_,hne⟩
   rcases zA4 c a n with ⟨q1,_⟩|⟨q1,q2⟩
   ·rcases zA4 c b n with ⟨q3,_⟩|⟨q3,q4⟩
    ·exact absurd (q1.trans q3.symm) hne
    ·have:=h.pb _ q3
     exact ⟨(zEp c b n).toNat,by omega,by rw [show ((zEp c b n).toNat :Int)=zEp c b n by omega]; exact q4⟩
   ·have:=h.pa _ q1
    exact ⟨(zEp c a n).toNat,by omega,by rw [show ((zEp c a n).toNat :Int)=zEp c a n by omega]; exact q2⟩
 refine ⟨l,by unfold kY zBn; rw [e]; rfl,?_,h1,hmem,by omega⟩
 unfold zAC zCE
 rw [zLw (by omega) (by omega)]
 simp only [Option.bind_some]
 obtain ⟨l2,f,g1,g2⟩:=jV (b:=zBN c a b (a++b)) (fun i s=>s.2=(i:Int)∧(∀n,n∈s.1↔(∃k∈(a++b).take i,tN c k=n)∧zEp c a n≠zEp c b n)∧s.1.length≤i) (a++b).length
  (fun t=>(∀n,n∈t↔(∃k∈a++b,tN c k=n)∧zEp c a n≠zEp c b n)∧t.length≤(a++b).length) (by
  rintro i ⟨l,j⟩ hi ⟨hj,hm,hl⟩
  simp only at hj hm hl
  subst hj
  have hlen:(a++b).length ≤48:=by simp; omega
  have hk:0≤(a++b)[i]∧(a++b)[i]<c.length:=by
   have:(a++b)[i]∈a++b:=List.getElem_mem hi
   rcases List.mem_append.1 this with q|q
   ·exact h.pa _ q
   ·exact h.pb _ q
  refine .inl ?_
  unfold zBN
  rw [if_pos (by simp at hi ⊢; omega),zI hi]
  simp only [Option.bind_some]
  rw [(zAr hk).1]
  simp only [Option.bind_some]
  rw [(zEJ h.pa (by omega) _).2,(zEJ h.pb (by omega) _).2,zM (by omega)]
  simp only [Option.bind_some]
  have hex:∀n,(∃k∈(a++b).take (i+1),tN c k=n)↔(∃k∈(a++b).take i,tN c k=n)∨n=(pat c (a++b)[i]).Name :=by
   intro n
   rw [List.take_succ_eq_append_getElem hi]
   constructor
   ·rintro ⟨k,h1,h2⟩
    rcases List.mem_append.1 h1 with h3|h3
    ·exact .inl ⟨k,h3,h2⟩
    ·simp at h3; subst h3; exact .inr h2.symm
   ·rintro (⟨k,h1,h2⟩|h2)
    ·exact ⟨k,List.mem_append_left _ h1,h2⟩
    ·exact ⟨_,List.mem_append_right _ (by simp),h2.symm⟩
  by_cases hne:zEp c a (pat c (a++b)[i]).Name =zEp c b (pat c (a++b)[i]).Name
  ·rw [if_neg (by simp [hne])]
   refine ⟨_,rfl,rfl,fun n=>?_,by simp only; omega⟩
   rw [hm,hex]
   constructor
   ·rintro ⟨q1,q2⟩; exact ⟨.inl q1,q2⟩
   ·rintro ⟨q1|q1,q2⟩
    ·exact ⟨q1,q2⟩
    ·subst q1; exact absurd hne q2
  ·rw [if_pos (by simp [hne]),jS (by simp; omega) (by simp; omega)]
   refine ⟨_,rfl,rfl,fun n=>?_,by simp; omega⟩
   rw [hex,List.mem_append,hm,List.mem_singleton]
   constructor
   ·rintro (⟨q1,q2⟩|q1)
    ·exact ⟨.inl q1,q2⟩
    ·subst q1; exact ⟨.inr rfl,hne⟩
   ·rintro ⟨q1|q1,q2⟩
    ·exact .inl ⟨q1,q2⟩
    ·exact .inr q1) (by
  rintro ⟨l,j⟩ ⟨hj,hm,hl⟩
  simp only at hj hm hl
  subst hj
  rw [List.take_length] at hm
  unfold zBN
  rw [if_neg (by simp)]
  exact ⟨_,rfl,hm,hl⟩) (a++b).length 0 (([]:List ByteArray),0) (by omega) ⟨rfl,by simp,by simp⟩
 rw [f]
 simp only [Option.bind_some]
 have hlen:(a++b).length ≤48:=by simp; omega
 obtain ⟨r,s1,s2,s3⟩:=zFF l2 (by omega)
 rw [s1]
 simp only [Option.bind_some]
 congr 1
 refine zCA s2 h1 fun n=>?_
 rw [s3,g1,hmem]
 constructor
 ·exact fun h=>h.2
 ·intro hne
  refine ⟨?_,hne⟩
  rcases zA4 c a n with ⟨q1,_⟩|⟨q1,q2⟩
  ·rcases zA4 c b n with ⟨q3,_⟩|⟨q3,q4⟩
   ·exact absurd (q1.trans q3.symm) hne
   ·exact ⟨_,List.mem_append_right _ q3,q4⟩
  ·exact ⟨_,List.mem_append_left _ q1,q2⟩
def zCv (c:List Pack) (a b:List Int) (n:ByteArray):List Pack:=
 (if decide (zEp c a n≥0) then [pat c (zEp c a n)] else [])++(if decide (zEp c b n≥0) then [pat c (zEp c b n)] else [])
theorem zEP {c:List Pack} {a:List Int} (hp:Places c a) {n:ByteArray} (h:zEp c a n≥0):0≤zEp c a n∧zEp c a n<c.length:=by
 rcases zA4 c a n with ⟨q,_⟩|⟨q,_⟩
 ·omega
 ·exact hp _ q
theorem zIW (c:List Pack) (a b:List Int) (n:ByteArray):(zCv c a b n).length ≤2:=by
 unfold zCv
 cases decide (zEp c a n≥0)<;>cases decide (zEp c b n≥0)<;>simp
theorem zHf {c:List Pack} {a b:List Int} {n:ByteArray} {p:Pack} (h:p∈zCv c a b n):∃k,(k∈a∨k∈b)∧tN c k=n∧p=pat c k:=by
 unfold zCv at h
 rcases List.mem_append.1 h with h|h
 ·split at h
  ·rename_i q
   simp at q h
   rcases zA4 c a n with ⟨q2,_⟩|⟨q2,q3⟩
   ·omega
   ·exact ⟨_,.inl q2,q3,h⟩
  ·simp at h
 ·split at h
  ·rename_i q
   simp at q h
   rcases zA4 c b n with ⟨q2,_⟩|⟨q2,q3⟩
   ·omega
   ·exact ⟨_,.inr q2,q3,h⟩
  ·simp at h
theorem zIy {c:List Pack} {a b:List Int} (h:Two c a b) (n:ByteArray):zB8 c a b n=some (zCv c a b n)∧jW c a b n=some (zCv c a b n):=by
 have la:=h.la
 have lb:=h.lb
 have step:∀(l:List Pack) (x:Int) (i:Nat) (x5 x7:Int),l.length≤5→idx [x5,x7] (i:Int)=some x→i<2→(x≥0→0≤x∧x<c.length)→
   tO c x5 x7 (l,(i:Int))=some (.go (l++(if decide (x≥0) then [pat c x] else []),((i+1:Nat):Int))):=by
  intro l x i x5 x7 hl hx hi hp
  unfold tO
  rw [if_pos (by simp; omega)]
  simp only
  rw [hx]
  simp only [Option.bind_some]
  rw [zM (by omega)]
  by_cases hge:x≥0
  ·rw [if_pos (by simpa using hge),if_pos (by simpa using hge),(zAr (hp hge)).1]
   simp only [Option.bind_some]
   rw [jS (by simp; omega) (by simp; omega)]
   rfl
  ·rw [if_neg (by simpa using hge),if_neg (by simpa using hge)]
   simp
 constructor
 ·unfold zB8 zCv
  rw [(zEJ h.pa (by omega) _).1,(zEJ h.pb (by omega) _).1]
  simp only [Option.bind_some]
  by_cases h1:zEp c a n≥0
  ·rw [if_pos (by simpa using h1),if_pos (by simpa using h1),(zAr (zEP h.pa h1)).1]
   simp only [Option.bind_some]
   rw [jS (by simp) (by simp)]
   simp only [Option.bind_some,List.nil_append]
   by_cases h2:zEp c b n≥0
   ·rw [if_pos (by simpa using h2),if_pos (by simpa using h2),(zAr (zEP h.pb h2)).1]
    simp only [Option.bind_some]
    rw [jS (by simp) (by simp)]
    rfl
   ·rw [if_neg (by simpa using h2),if_neg (by simpa using h2)]
    rfl
  ·rw [if_neg (by simpa using h1),if_neg (by simpa using h1)]
   simp only [Option.bind_some,List.nil_append]
   by_cases h2:zEp c b n≥0
   ·rw [if_pos (by simpa using h2),if_pos (by simpa using h2),(zAr (zEP h.pb h2)).1]
    simp only [Option.bind_some]
    rw [jS (by simp) (by simp)]
    rfl
   ·rw [if_neg (by simpa using h2),if_neg (by simpa using h2)]
    rfl
 ·unfold jW zBj
  rw [(zEJ h.pa (by omega) _).2,(zEJ h.pb (by omega) _).2]
  simp only [Option.bind_some]
  rw [tX,show tO c (zEp c a n) (zEp c b n) (([]:List Pack),0)=_ from step [] _ 0 _ _ (by simp) rfl (by omega) (zEP h.pa)]
  simp only [Option.bind_some,Lp.elim]
  rw [tX,step _ _ 1 _ _ (by cases decide (zEp c a n≥0)<;>simp) rfl (by omega) (zEP h.pb)]
  simp only [Option.bind_some,Lp.elim,List.nil_append]
  rw [tX,show ∀l,tO c (zEp c a n) (zEp c b n) (l,((1+1:Nat):Int))=some (.done l) from fun l=>by
   unfold tO
   rw [if_neg (by simp)]]
  rfl
theorem zIf {α:Type} (xs:List α) (f:α→ByteArray) {b:(List ByteArray×Int)→Option (Lp (List ByteArray×Int) (List ByteArray))}
  (hstep:∀(i:Nat) (hi:i<xs.length) (l:List ByteArray),b (l,(i:Int))=(uI l (f xs[i])).bind fun x=>some (Lp.go (x,w64 ((i:Int)+1)))) (hend:∀l,b (l,(xs.length:Int))=some (.done l)) (l0:List ByteArray) (hs:l0.Pairwise ltS) (hl:l0.length+xs.length≤1048576):
  ∃r,loop b (l0,0)=some r∧r.Pairwise ltS∧(∀x,x∈r↔x∈l0∨∃y∈xs,f y=x)∧r.length≤l0.length+xs.length:=by
 refine jV (b:=b) (fun i s=>s.2=(i:Int)∧s.1.Pairwise ltS∧(∀x,x∈s.1↔x∈l0∨∃y∈xs.take i,f y=x)∧s.1.length≤l0.length+i) xs.length _ (by
  rintro i ⟨l,j⟩ hi ⟨hj,h1,h2,h3⟩
  simp only at hj h1 h2 h3
  subst hj
  refine .inl ?_
  obtain ⟨r,e1,e2,e3,e4⟩:=zGW l (f xs[i]) h1 (by omega)
  rw [hstep i hi,e1,zM (by omega)]
  refine ⟨_,rfl,rfl,e2,fun x=>?_,by simp only; omega⟩
  rw [e3,h2,List.take_succ_eq_append_getElem hi]
  constructor
  ·rintro ((q|⟨y,q1,q2⟩)|q)
   ·exact .inl q
   ·exact .inr ⟨y,List.mem_append_left _ q1,q2⟩
   ·exact .inr ⟨_,List.mem_append_right _ (by simp),q.symm⟩
  ·rintro (q|⟨y,q1,q2⟩)
   ·exact .inl (.inl q)
   ·rcases List.mem_append.1 q1 with q1|q1
    ·exact .inl (.inr ⟨y,q1,q2⟩)
    ·simp at q1; subst q1; exact .inr q2.symm) (by
  rintro ⟨l,j⟩ ⟨hj,h1,h2,h3⟩
  simp only at hj h1 h2 h3
  subst hj
  rw [List.take_length] at h2
  exact ⟨_,hend l,h1,h2,h3⟩) xs.length 0 (l0,0) (by omega) ⟨rfl,hs,by simp,by simp⟩
noncomputable def nmL (c:List Pack) (a b:List Int) (n:ByteArray):List ByteArray:=(kG c a b n).getD []
theorem zJy {c:List Pack} {a b:List Int} (h:Two c a b) (n:ByteArray):
  zAE c a b n=some (nmL c a b n)∧kG c a b n=some (nmL c a b n)∧(∀x,x∈nmL c a b n↔x=n∨∃p∈zCv c a b n,x∈p.Provides)∧(nmL c a b n).length ≤1048576:=by
 have hpr:∀p∈zCv c a b n,p.Provides.length≤4:=fun p hp=>by
  obtain ⟨k,_,_,rfl⟩:=zHf hp
  exact h.sml.zOG k
 have hbl:=zIW c a b n
 obtain ⟨r,e,r1,r2,r3⟩:=jV (b:=zBK (zCv c a b n)) (fun i s=>s.2=(i:Int)∧s.1.Pairwise ltS∧(∀x,x∈s.1↔x=n∨∃p∈(zCv c a b n).take i,x∈p.Provides)∧s.1.length≤1+4*i) (zCv c a b n).length
  (fun t=>t.Pairwise ltS∧(∀x,x∈t↔x=n∨∃p∈zCv c a b n,x∈p.Provides)∧t.length≤1+4*(zCv c a b n).length) (by
  rintro i ⟨l,j⟩ hi ⟨hj,h1,h2,h3⟩
  simp only at hj h1 h2 h3
  subst hj
  refine .inl ?_
  have hp4:=hpr _ (List.getElem_mem hi)
  obtain ⟨r,e1,e2,e3,e4⟩:=zIf (zCv c a b n)[i].Provides (fun x=>x) (b:=zCi (zCv c a b n) (l,(i:Int))) (by
   intro j hj l'
   unfold zCi
   simp only
   rw [zI hi]
   simp only [Option.bind_some]
   rw [if_pos (by simp; omega),zI hj]
   rfl) (by
   intro l'
   unfold zCi
   simp only
   rw [zI hi]
   simp only [Option.bind_some]
   rw [if_neg (by simp)]) l h1 (by omega)
  unfold zBK zCy
  rw [if_pos (by simp; omega),e1,zM (by omega)]
  refine ⟨_,rfl,rfl,e2,fun x=>?_,by simp only; omega⟩
  rw [e3,h2,List.take_succ_eq_append_getElem hi]
  constructor
  ·rintro ((q|⟨p,q1,q2⟩)|⟨y,q1,q2⟩)
   ·exact .inl q
   ·exact .inr ⟨p,List.mem_append_left _ q1,q2⟩
   ·subst q2; exact .inr ⟨_,List.mem_append_right _ (by simp),q1⟩
  ·rintro (q|⟨p,q1,q2⟩)
   ·exact .inl (.inl q)
   ·rcases List.mem_append.1 q1 with q1|q1
    ·exact .inl (.inr ⟨p,q1,q2⟩)
    ·simp at q1; subst q1; exact .inr ⟨_,q2,rfl⟩) (by
  rintro ⟨l,j⟩ ⟨hj,h1,h2,h3⟩
  simp only at hj h1 h2 h3
  subst hj
  rw [List.take_length] at h2
  unfold zBK
  rw [if_neg (by simp)]
  exact ⟨_,rfl,h1,h2,h3⟩) (zCv c a b n).length 0 ([n],0) (by omega) ⟨rfl,by simp,by simp,by simp⟩
 obtain ⟨u,f,u1,u2⟩:=jV (b:=zCe (zCv c a b n)) (fun i s=>s.2=(i:Int)∧(∀x,x∈s.1↔x=n∨∃p∈(zCv c a b n).take i,x∈p.Provides)∧s.1.length≤1+4*i) (zCv c a b n).length
  (fun t=>(∀x,x∈t↔x=n∨∃p∈zCv c a b n,x∈p.Provides)∧t.length≤1+4*(zCv c a b n).length) (by
  rintro i ⟨l,j⟩ hi ⟨hj,h2,h3⟩
  simp only at hj h2 h3
  subst hj
  refine .inl ?_
  have hp4:=hpr _ (List.getElem_mem hi)
  unfold zCe
  rw [if_pos (by simp; omega),zI hi]
  simp only [Option.bind_some]
  rw [jS (by omega) (by omega),zM (by omega)]
  refine ⟨_,rfl,rfl,fun x=>?_,by simp; omega⟩
  rw [List.mem_append,h2,List.take_succ_eq_append_getElem hi]
  constructor
  ·rintro ((q|⟨p,q1,q2⟩)|q)
   ·exact .inl q
   ·exact .inr ⟨p,List.mem_append_left _ q1,q2⟩
   ·exact .inr ⟨_,List.mem_append_right _ (by simp),q⟩
  ·rintro (q|⟨p,q1,q2⟩)
   ·exact .inl (.inl q)
   ·rcases List.mem_append.1 q1 with q1|q1
    ·exact .inl (.inr ⟨p,q1,q2⟩)
    ·simp at q1; subst q1; exact .inr q2) (by
  rintro ⟨l,j⟩ ⟨hj,h2,h3⟩
  simp only at hj h2 h3
  subst hj
  rw [List.take_length] at h2
  unfold zCe
  rw [if_neg (by simp)]
  exact ⟨_,rfl,h2,h3⟩) (zCv c a b n).length 0 ([n],0) (by omega) ⟨rfl,by simp,by simp⟩
 obtain ⟨w,w1,w2,w3⟩:=zFF u (by omega)
 have hw:w=r:=zCA w2 r1 fun x=>by rw [w3,u1,r2]
 have hi:kG c a b n=some r:=by
  unfold kG zCH
  rw [(zIy h n).2]
  simp only [Option.bind_some]
  rw [f]
  simp only [Option.bind_some]
  rw [w1,hw]
  rfl
 have hd:nmL c a b n=r:=by unfold nmL; rw [hi]; rfl
 rw [hd]
 refine ⟨?_,hi,r2,by omega⟩
 unfold zAE zCI
 rw [(zIy h n).1]
 simp only [Option.bind_some]
 rw [e]
 rfl
noncomputable def mnL (p:Pack):List ByteArray:=(vG p).getD []
theorem zN6 {ls:List (List Term)} (hl:ls.length≤4) (h4:∀l∈ls,l.length≤4):vM ls=some ls.flatten∧ls.flatten.length≤16:=by
 have hfl:∀i,i≤ls.length→(ls.take i).flatten.length ≤4*i:=by
  intro i
  induction i with
  |zero=>simp
  |succ i ih=>
   intro hi
   have:=ih (by omega)
   rw [List.take_succ_eq_append_getElem (by omega),List.flatten_append,List.length_append]
   have:=h4 _ (List.getElem_mem (show i<ls.length by omega))
   have h0:([ls[i]]:List (List Term)).flatten.length =ls[i].length :=by simp
   rw [h0]
   omega
 have hf:=hfl ls.length (Nat.le_refl _)
 rw [List.take_length] at hf
 refine ⟨?_,by omega⟩
 obtain ⟨t,e,ht⟩:=jV (b:=vW ls) (fun i s=>s.2=(i:Int)∧s.1=((ls.take i).flatten.length :Int)) ls.length (fun t=>t=(ls.flatten.length:Int)) (by
  rintro i ⟨s,j⟩ hi ⟨hj,hs⟩
  simp only at hj hs
  subst hj hs
  have h1:=hfl i (by omega)
  have h2:=h4 _ (List.getElem_mem hi)
  refine .inl ?_
  unfold vW
  rw [if_pos (by simp; omega),zI hi]
  simp only [Option.bind_some]
  rw [zCr (x:=((ls.take i).flatten.length :Int)+(ls[i].length :Int)) (by omega) (by omega),if_neg (by simp; omega),zM (by omega)]
  refine ⟨_,rfl,rfl,?_⟩
  rw [List.take_succ_eq_append_getElem hi,List.flatten_append,List.length_append]
  simp) (by
  rintro ⟨s,j⟩ ⟨hj,hs⟩
  simp only at hj hs
  subst hj hs
  rw [List.take_length]
  unfold vW
  rw [if_neg (by simp)]
  exact ⟨_,rfl,rfl⟩) ls.length 0 (0,0) (by omega) ⟨rfl,by simp⟩
 obtain ⟨u,f,hu⟩:=jV (b:=vV ls) (fun i s=>s.2=(i:Int)∧s.1=(ls.take i).flatten) ls.length (fun t=>t=ls.flatten) (by
  rintro i ⟨s,j⟩ hi ⟨hj,hs⟩
  simp only at hj hs
  subst hj hs
  have h1:=hfl i (by omega)
  have h2:=h4 _ (List.getElem_mem hi)
  refine .inl ?_
  unfold vV
  rw [if_pos (by simp; omega),zI hi]
  simp only [Option.bind_some]
  rw [jS (by omega) (by omega),zM (by omega)]
  refine ⟨_,rfl,rfl,?_⟩
  rw [List.take_succ_eq_append_getElem hi,List.flatten_append]
  simp) (by
  rintro ⟨s,j⟩ ⟨hj,hs⟩
  simp only at hj hs
  subst hj hs
  rw [List.take_length]
  unfold vV
  rw [if_neg (by simp)]
  exact ⟨_,rfl,rfl⟩) ls.length 0 (([]:List Term),0) (by omega) ⟨rfl,by simp⟩
 subst ht hu
 unfold vM uE uF
 rw [e]
 simp only [Option.bind_some]
 rw [show kN (ls.flatten.length:Int)=some [] by unfold kN; rw [if_pos (by omega)]]
 simp only [Option.bind_some]
 rw [f]
 rfl
theorem zJ1 {p:Pack} (h1:p.Needs.length≤4) (h2:∀l∈p.Needs,l.length≤4) (h3:p.Bars.length≤4):
  kC p=some (mnL p)∧vG p=some (mnL p)∧(∀x,x∈mnL p↔(∃l∈p.Needs,∃t∈l,t.Name=x)∨∃t∈p.Bars,t.Name=x)∧(mnL p).length ≤1048576:=by
 obtain ⟨r,e,r1,r2,r3⟩:=jV (b:=zAy p) (fun i s=>s.2=(i:Int)∧s.1.Pairwise ltS∧(∀x,x∈s.1↔∃l∈p.Needs.take i,∃t∈l,t.Name=x)∧s.1.length≤4*i) p.Needs.length
  (fun t=>t.Pairwise ltS∧(∀x,x∈t↔∃l∈p.Needs,∃t∈l,t.Name=x)∧t.length≤4*p.Needs.length) (by
  rintro i ⟨l,j⟩ hi ⟨hj,g1,g2,g3⟩
  simp only at hj g1 g2 g3
  subst hj
  refine .inl ?_
  have hp4:=h2 _ (List.getElem_mem hi)
  obtain ⟨r,e1,e2,e3,e4⟩:=zIf p.Needs[i] (fun x:Term=>x.Name) (b:=zAo p (l,(i:Int))) (by
   intro j hj l'
   unfold zAo
   simp only
   rw [zI hi]
   simp only [Option.bind_some]
   rw [if_pos (by simp; omega),zI hj]
   rfl) (by
   intro l'
   unfold zAo
   simp only
   rw [zI hi]
   simp only [Option.bind_some]
   rw [if_neg (by simp)]) l g1 (by omega)
  unfold zAy zAI
  rw [if_pos (by simp; omega),e1,zM (by omega)]
  refine ⟨_,rfl,rfl,e2,fun x=>?_,by simp only; omega⟩
  rw [e3,g2,List.take_succ_eq_append_getElem hi]
  constructor
  ·rintro (⟨l,q1,q2⟩|⟨y,q1,q2⟩)
   ·exact ⟨l,List.mem_append_left _ q1,q2⟩
   ·exact ⟨_,List.mem_append_right _ (by simp),y,q1,q2⟩
  ·rintro ⟨l,q1,q2⟩
   rcases List.mem_append.1 q1 with q1|q1
   ·exact .inl ⟨l,q1,q2⟩
   ·simp at q1; subst q1; exact .inr q2) (by
  rintro ⟨l,j⟩ ⟨hj,g1,g2,g3⟩
  simp only at hj g1 g2 g3
  subst hj
  rw [List.take_length] at g2
  unfold zAy
  rw [if_neg (by simp)]
  exact ⟨_,rfl,g1,g2,g3⟩) p.Needs.length 0 (([]:List ByteArray),0) (by omega) ⟨rfl,by simp,by simp,by simp⟩
 obtain ⟨r',e',s1,s2,s3⟩:=zIf p.Bars (fun x:Term=>x.Name) (b:=zAk p) (by
  intro j hj l'
  unfold zAk
  rw [if_pos (by simp; omega),zI hj]
  rfl) (by
  intro l'
  unfold zAk
  rw [if_neg (by simp)]) r r1 (by omega)
 obtain ⟨c1,c2⟩:=zN6 h1 h2
 have hlen:(p.Needs.flatten++p.Bars).length ≤20:=by rw [List.length_append]; omega
 obtain ⟨u,f,u1,u2⟩:=jV (b:=jR (p.Needs.flatten++p.Bars)) (fun i s=>s.2=(i:Int)∧s.1=((p.Needs.flatten++p.Bars).take i).map (·.Name)) (p.Needs.flatten++p.Bars).length
  (fun t=>t=(p.Needs.flatten++p.Bars).map (·.Name)∧t.length≤20) (by
  rintro i ⟨l,j⟩ hi ⟨hj,g⟩
  simp only at hj g
  subst hj g
  refine .inl ?_
  have hil:i<20:=by omega
  unfold jR
  rw [if_pos (by simp at hi ⊢; omega),zI hi]
  simp only [Option.bind_some]
  have hle:(((p.Needs.flatten++p.Bars).take i).map (·.Name)).length ≤i:=by simp; omega
  rw [jS (by simp at hle ⊢; omega) (by simp at hle ⊢; omega),zM (by omega)]
  refine ⟨_,rfl,rfl,?_⟩
  rw [List.take_succ_eq_append_getElem hi,List.map_append]
  rfl) (by
  rintro ⟨l,j⟩ ⟨hj,g⟩
  simp only at hj g
  subst hj g
  rw [List.take_length]
  unfold jR
  rw [if_neg (by simp)]
  exact ⟨_,rfl,rfl,by rw [List.length_map]; exact hlen⟩) (p.Needs.flatten++p.Bars).length 0 (([]:List ByteArray),0) (by omega) ⟨rfl,by simp⟩
 obtain ⟨w,w1,w2,w3⟩:=zFF u (by omega)
 have hmem:∀x,x∈r'↔(∃l∈p.Needs,∃t∈l,t.Name=x)∨∃t∈p.Bars,t.Name=x:=fun x=>by rw [s2,r2]
 have hw:w=r':=zCA w2 s1 fun x=>by
  rw [w3,u1,hmem,List.mem_map]
  constructor
  ·rintro ⟨t,q1,q2⟩
   rcases List.mem_append.1 q1 with q1|q1
   ·obtain ⟨l,q3,q4⟩:=List.mem_flatten.1 q1
    exact .inl ⟨l,q3,t,q4,q2⟩
   ·exact .inr ⟨t,q1,q2⟩
  ·rintro (⟨l,q1,t,q2,q3⟩|⟨t,q1,q2⟩)
   ·exact ⟨t,List.mem_append_left _ (List.mem_flatten.2 ⟨l,q1,q2⟩),q3⟩
   ·exact ⟨t,List.mem_append_right _ q1,q2⟩
 have hi:vG p=some r':=by
  unfold vG kE
  rw [c1]
  simp only [Option.bind_some]
  rw [jS (by omega) (by omega)]
  simp only [Option.bind_some]
  rw [f]
  simp only [Option.bind_some]
  rw [w1,hw]
  rfl
 have hd:mnL p=r':=by unfold mnL; rw [hi]; rfl
 rw [hd]
 refine ⟨?_,hi,hmem,by omega⟩
 unfold kC zAR zAB
 rw [e]
 simp only [Option.bind_some]
 rw [e']
 rfl
theorem zFU {α:Type} (xs:List α) (q:α→Bool) {b:Int→Option (Lp Int (Fl Bool Unit))}
  (hstep:∀(i:Nat) (hi:i<xs.length),b (i:Int)=some (if q xs[i] then .done (.ret true) else .go ((i+1:Nat):Int))) (hend:b (xs.length:Int)=some (.done (.nxt ()))):
  loop b 0=some (if xs.any q then .ret true else .nxt ()):=by
 have:=wQ xs (fun _ x=>if q x then some true else none) (b:=b) (by intro i hi; rw [hstep i hi]; cases q xs[i]<;>rfl) hend
 rw [this,zF8]
 cases xs.any q<;>rfl
theorem zIm {α:Type} (xs:List α) (q:α→Bool) {b:Int→Option (Lp Int (Fl Int Unit))}
  (hstep:∀(i:Nat) (hi:i<xs.length),b (i:Int)=some (if q xs[i] then .done (.ret (i:Int)) else .go ((i+1:Nat):Int))) (hend:b (xs.length:Int)=some (.done (.nxt ()))):
  ((loop b 0).bind (Fl.go some fun _=>some (-1))).bind (fun x=>some (decide (x≥0)))=some (xs.any q):=by
 have:=wQ xs (fun j x=>if q x then some (j:Int) else none) (b:=b) (by intro i hi; rw [hstep i hi]; cases q xs[i]<;>rfl) hend
 have h:=zEb (zCk q xs 0)
 rw [this,zB2,←h]
 cases vE (fun j x=>if q x then some (j:Int) else none) 0 xs<;>rfl
theorem zIa {m ns:List ByteArray} (hm:m.length≤1048576) (hn:ns.length≤1048576):
  zCN m ns=some (m.any (inN ns))∧zV m ns=some (m.any (inN ns)):=by
 constructor
 ·have k:=zFU m (inN ns) (b:=zCg m ns) (by
   intro i hi
   unfold zCg
   rw [if_pos (by simp; omega),zI hi]
   simp only [Option.bind_some]
   rw [zDX _ _ hn,zM (by omega)]
   simp only [Option.bind_some]
   have:(ns.any fun x=>seq x m[i])=inN ns m[i]:=rfl
   rw [this]
   cases inN ns m[i]<;>rfl) (by
   unfold zCg
   rw [if_neg (by simp)])
  unfold zCN zCO
  rw [k]
  cases m.any (inN ns)<;>rfl
 ·exact zIm m (inN ns) (b:=yJ m ns) (by
   intro i hi
   unfold yJ uL
   rw [if_pos (by simp; omega),zI hi]
   simp only [Option.bind_some]
   rw [zDd _ _ hn,zM (by omega)]
   simp only [Option.bind_some]
   have:(ns.any fun x=>seq x m[i])=inN ns m[i]:=rfl
   rw [this]
   cases inN ns m[i]<;>rfl) (by
   unfold yJ
   rw [if_neg (by simp)])
noncomputable def zLl (c:List Pack) (a b:List Int) (n:ByteArray) (ns:List ByteArray):Bool:=(zCv c a b n).any fun p=>(mnL p).any (inN ns)
theorem zGb {c:List Pack} {a b:List Int} (h:Two c a b) (n:ByteArray) {ns:List ByteArray} (hn:ns.length≤1048576):
  jC c a b n ns=some (zLl c a b n ns)∧vH n ns c a b=some (zLl c a b n ns):=by
 have hb:=zIW c a b n
 have hp:∀p∈zCv c a b n,kC p=some (mnL p)∧vG p=some (mnL p)∧(mnL p).length ≤1048576:=fun p hp=>by
  obtain ⟨k,_,_,rfl⟩:=zHf hp
  obtain ⟨q1,q2,_,q3⟩:=zJ1 (h.sml.needs k) (h.sml.clause k) (h.sml.bars k)
  exact ⟨q1,q2,q3⟩
 constructor
 ·have k:=zFU (zCv c a b n) (fun p=>(mnL p).any (inN ns)) (b:=zCQ ns (zCv c a b n)) (by
   intro i hi
   obtain ⟨q1,q2,q3⟩:=hp _ (List.getElem_mem hi)
   unfold zCQ
   rw [if_pos (by simp; omega),zI hi]
   simp only [Option.bind_some]
   rw [q1]
   simp only [Option.bind_some]
   rw [(zIa q3 hn).1,zM (by omega)]
   simp only [Option.bind_some]
   cases (mnL (zCv c a b n)[i]).any (inN ns)<;>rfl) (by
   unfold zCQ
   rw [if_neg (by simp)])
  unfold jC zDs
  rw [(zIy h n).1]
  simp only [Option.bind_some]
  rw [k]
  unfold zLl
  cases (zCv c a b n).any (fun p=>(mnL p).any (inN ns))<;>rfl
 ·have k:=zIm (zCv c a b n) (fun p=>(mnL p).any (inN ns)) (b:=yI (zCv c a b n) ns) (by
   intro i hi
   obtain ⟨q1,q2,q3⟩:=hp _ (List.getElem_mem hi)
   unfold yI jJ
   rw [if_pos (by simp; omega),zI hi]
   simp only [Option.bind_some]
   rw [q2]
   simp only [Option.bind_some]
   rw [(zIa q3 hn).2,zM (by omega)]
   simp only [Option.bind_some]
   cases (mnL (zCv c a b n)[i]).any (inN ns)<;>rfl) (by
   unfold yI
   rw [if_neg (by simp)])
  unfold vH
  rw [(zIy h n).2]
  simp only [Option.bind_some]
  have e:zU (zCv c a b n) ns=some (zLl c a b n ns):=k
  rw [e]
  rfl
def clB (ns:List ByteArray) (l:List Term):Bool:=l.any fun t=>inN ns t.Name
theorem zFc {ns:List ByteArray} {l:List Term} (hn:ns.length≤1048576) (hl:l.length≤1048576):jX l ns=some (clB ns l)∧vF ns l=some (clB ns l):=by
 constructor
 ·have k:=zFU l (fun t=>inN ns t.Name) (b:=zBz l ns) (by
   intro i hi
   unfold zBz
   rw [if_pos (by simp; omega),zI hi]
   simp only [Option.bind_some]
   rw [zDX _ _ hn,zM (by omega)]
   simp only [Option.bind_some]
   have:(ns.any fun x=>seq x l[i].Name)=inN ns l[i].Name :=rfl
   rw [this]
   cases inN ns l[i].Name <;>rfl) (by
   unfold zBz
   rw [if_neg (by simp)])
  unfold jX zBO
  rw [k]
  unfold clB
  cases l.any (fun t=>inN ns t.Name)<;>rfl
 ·have k:=zIm l (fun t=>inN ns t.Name) (b:=yK l ns) (by
   intro i hi
   unfold yK jI
   rw [if_pos (by simp; omega),zI hi]
   simp only [Option.bind_some]
   rw [zDd _ _ hn,zM (by omega)]
   simp only [Option.bind_some]
   have:(ns.any fun x=>seq x l[i].Name)=inN ns l[i].Name :=rfl
   rw [this]
   cases inN ns l[i].Name <;>rfl) (by
   unfold yK
   rw [if_neg (by simp)])
  unfold vF
  have e:zX l ns=some (clB ns l):=k
  rw [e]
  rfl
def zK7 (c:List Pack) (a:List Int) (n1 n2:List ByteArray):Bool:=a.any fun k=>(pat c k).Needs.any fun l=>clB n1 l&&clB n2 l
theorem zJR {c:List Pack} {a:List Int} (hs:Sml c) (hp:Places c a) (ha:a.length≤1048576) {n1 n2:List ByteArray} (h1:n1.length≤1048576) (h2:n2.length≤1048576):uR c a n1 n2=some (zK7 c a n1 n2):=by
 have k:=zFU a (fun k=>(pat c k).Needs.any fun l=>clB n1 l&&clB n2 l) (b:=zAv c a n1 n2) (by
  intro i hi
  have hk:=hp _ (List.getElem_mem hi)
  have hN:=hs.needs a[i]
  have k2:=zFU (pat c a[i]).Needs (fun l=>clB n1 l&&clB n2 l) (b:=zAm c a n1 n2 (i:Int) (pat c a[i])) (by
   intro j hj
   have hcl:=hs.clause a[i] _ (List.getElem_mem hj)
   unfold zAm
   rw [if_pos (by simp; omega),zI hj]
   simp only [Option.bind_some]
   rw [(zFc h1 (by omega)).1,(zFc h2 (by omega)).1,zM (by omega)]
   simp only [Option.bind_some]
   cases clB n1 (pat c a[i]).Needs[j]<;>cases clB n2 (pat c a[i]).Needs[j]<;>rfl) (by
   unfold zAm
   rw [if_neg (by simp)])
  unfold zAv zAP
  rw [if_pos (by simp; omega),zI hi]
  simp only [Option.bind_some]
  rw [(zAr hk).1]
  simp only [Option.bind_some]
  rw [k2,zM (by omega)]
  cases (pat c a[i]).Needs.any (fun l=>clB n1 l&&clB n2 l)<;>rfl) (by
  unfold zAv
  rw [if_neg (by simp)])
 unfold uR zAN
 rw [k]
 unfold zK7
 cases a.any (fun k=>(pat c k).Needs.any fun l=>clB n1 l&&clB n2 l)<;>rfl
theorem zMz {c:List Pack} {a:List Int} (hs:Sml c) (hp:Places c a) (ha:a.length≤1048576) {n1 n2:List ByteArray} (h1:n1.length≤1048576) (h2:n2.length≤1048576):loop (jK c n1 n2 a) 0=some (if zK7 c a n1 n2 then .ret true else .nxt ()):=by
 exact zFU a (fun k=>(pat c k).Needs.any fun l=>clB n1 l&&clB n2 l) (b:=jK c n1 n2 a) (by
  intro i hi
  have hk:=hp _ (List.getElem_mem hi)
  have hN:=hs.needs a[i]
  have k2:=zFU (pat c a[i]).Needs (fun l=>clB n1 l&&clB n2 l) (b:=kP c n1 n2 a (i:Int) (pat c a[i])) (by
   intro j hj
   have hcl:=hs.clause a[i] _ (List.getElem_mem hj)
   unfold kP
   rw [if_pos (by simp; omega),zI hj]
   simp only [Option.bind_some]
   rw [(zFc h1 (by omega)).2,(zFc h2 (by omega)).2,zM (by omega)]
   simp only [Option.bind_some]
   cases clB n1 (pat c a[i]).Needs[j]<;>cases clB n2 (pat c a[i]).Needs[j]<;>rfl) (by
   unfold kP
   rw [if_neg (by simp)])
  unfold jK zAj
  rw [if_pos (by simp; omega),zI hi]
  simp only [Option.bind_some]
  rw [(zAr hk).1]
  simp only [Option.bind_some]
  rw [k2,zM (by omega)]
  cases (pat c a[i]).Needs.any (fun l=>clB n1 l&&clB n2 l)<;>rfl) (by
  unfold jK
  rw [if_neg (by simp)])
noncomputable def jB (c:List Pack) (a b:List Int) (x y:ByteArray):Bool:=
 zLl c a b x (nmL c a b y)||(zLl c a b y (nmL c a b x)||(zK7 c a (nmL c a b x) (nmL c a b y)||zK7 c b (nmL c a b x) (nmL c a b y)))
theorem zH6 {c:List Pack} {a b:List Int} (h:Two c a b) (x y:ByteArray):uV c a b x y=some (jB c a b x y)∧wR c a b x y=some (jB c a b x y):=by
 obtain ⟨x1,x2,_,x3⟩:=zJy h x
 obtain ⟨y1,y2,_,y3⟩:=zJy h y
 have la:=h.la
 have lb:=h.lb
 constructor
 ·unfold uV jB
  rw [x1,y1]
  simp only [Option.bind_some]
  rw [(zGb h x y3).1,(zGb h y x3).1,zJR h.sml h.pa (by omega) x3 y3,zJR h.sml h.pb (by omega) x3 y3]
  simp only [Option.bind_some]
  cases zLl c a b x (nmL c a b y)<;>cases zLl c a b y (nmL c a b x)<;>cases zK7 c a (nmL c a b x) (nmL c a b y)<;>rfl
 ·unfold wR jB zAw
  rw [x2,y2]
  simp only [Option.bind_some]
  rw [(zGb h x y3).2,(zGb h y x3).2,zLw (by omega) (by omega)]
  simp only [Option.bind_some]
  rw [zMz h.sml (a:=a++b) (fun k hk=>by
   rcases List.mem_append.1 hk with q|q
   ·exact h.pa _ q
   ·exact h.pb _ q) (by simp; omega) x3 y3]
  have e:zK7 c (a++b) (nmL c a b x) (nmL c a b y)=(zK7 c a (nmL c a b x) (nmL c a b y)||zK7 c b (nmL c a b x) (nmL c a b y)):=by
   unfold zK7; rw [List.any_append]
  rw [e]
  cases zLl c a b x (nmL c a b y)<;>cases zLl c a b y (nmL c a b x)<;>cases zK7 c a (nmL c a b x) (nmL c a b y)<;>cases zK7 c b (nmL c a b x) (nmL c a b y)<;>rfl
theorem zGT {c:List Pack} {a:List Int} (ga:GoodS c a) {k:Int} (hk:k∈a):zEp c a (tN c k)=k:=by
 rcases zA4 c a (tN c k) with ⟨_,q⟩|⟨q1,q2⟩
 ·exact absurd rfl (q k hk)
 ·exact ga.one q1 hk q2
theorem zGm {c:List Pack} {a b:List Int} (h:Two c a b) (ga:GoodS c a) (gb:GoodS c b) {n:ByteArray} {p:Pack}:p∈zCv c a b n↔∃k,(k∈a∨k∈b)∧tN c k=n∧p=pat c k:=by
 constructor
 ·exact zHf
 ·rintro ⟨k,hk|hk,rfl,rfl⟩
  ·have e:=zGT ga hk
   have:=h.pa k hk
   unfold zCv
   rw [e,if_pos (by simp; omega)]
   simp
  ·have e:=zGT gb hk
   have:=h.pb k hk
   unfold zCv
   rw [e]
   refine List.mem_append_right _ ?_
   rw [if_pos (by simp; omega)]
   simp
theorem zK1 {c:List Pack} {a b:List Int} (h:Two c a b) (ga:GoodS c a) (gb:GoodS c b) {x n:ByteArray}:n∈nmL c a b x↔Nms c a b x n:=by
 rw [(zJy h x).2.2.1]
 unfold Nms
 constructor
 ·rintro (q|⟨p,hp,q⟩)
  ·exact .inl q
  ·obtain ⟨k,h1,h2,rfl⟩:=(zGm h ga gb).1 hp
   exact .inr ⟨k,h1,h2,q⟩
 ·rintro (q|⟨k,h1,h2,q⟩)
  ·exact .inl q
  ·exact .inr ⟨_,(zGm h ga gb).2 ⟨k,h1,h2,rfl⟩,q⟩
theorem zL5 {c:List Pack} {a b:List Int} (h:Two c a b) (ga:GoodS c a) (gb:GoodS c b) {x y:ByteArray}:zLl c a b x (nmL c a b y)=true↔Tch c a b x y:=by
 unfold zLl Tch
 rw [List.any_eq_true]
 constructor
 ·rintro ⟨p,hp,q⟩
  obtain ⟨k,h1,h2,rfl⟩:=(zGm h ga gb).1 hp
  obtain ⟨n,q1,q2⟩:=List.any_eq_true.1 q
  refine ⟨k,h1,h2,n,?_,(zK1 h ga gb).1 (zDK.1 q2)⟩
  exact ((zJ1 (h.sml.needs k) (h.sml.clause k) (h.sml.bars k)).2.2.1 n).1 q1
 ·rintro ⟨k,h1,h2,n,q1,q2⟩
  refine ⟨_,(zGm h ga gb).2 ⟨k,h1,h2,rfl⟩,List.any_eq_true.2 ⟨n,?_,zDK.2 ((zK1 h ga gb).2 q2)⟩⟩
  exact ((zJ1 (h.sml.needs k) (h.sml.clause k) (h.sml.bars k)).2.2.1 n).2 q1
theorem zKq {c:List Pack} {a b:List Int} (h:Two c a b) (ga:GoodS c a) (gb:GoodS c b) {x:ByteArray} {l:List Term}:clB (nmL c a b x) l=true↔∃t∈l,Nms c a b x t.Name:=by
 unfold clB
 rw [List.any_eq_true]
 constructor
 ·rintro ⟨t,h1,h2⟩; exact ⟨t,h1,(zK1 h ga gb).1 (zDK.1 h2)⟩
 ·rintro ⟨t,h1,h2⟩; exact ⟨t,h1,zDK.2 ((zK1 h ga gb).2 h2)⟩
theorem zKl {c:List Pack} {a b:List Int} (h:Two c a b) (ga:GoodS c a) (gb:GoodS c b) {x y:ByteArray} {s:List Int}:zK7 c s (nmL c a b x) (nmL c a b y)=true↔∃k∈s,∃l∈(pat c k).Needs,(∃t∈l,Nms c a b x t.Name)∧∃t∈l,Nms c a b y t.Name:=by
 unfold zK7
 rw [List.any_eq_true]
 constructor
 ·rintro ⟨k,h1,h2⟩
  obtain ⟨l,h3,h4⟩:=List.any_eq_true.1 h2
  simp only [Bool.and_eq_true] at h4
  exact ⟨k,h1,l,h3,(zKq h ga gb).1 h4.1,(zKq h ga gb).1 h4.2⟩
 ·rintro ⟨k,h1,l,h3,h4,h5⟩
  exact ⟨k,h1,List.any_eq_true.2 ⟨l,h3,by simp only [Bool.and_eq_true]; exact ⟨(zKq h ga gb).2 h4,(zKq h ga gb).2 h5⟩⟩⟩
theorem zOb {c:List Pack} {a b:List Int} (h:Two c a b) (ga:GoodS c a) (gb:GoodS c b) {x y:ByteArray}:jB c a b x y=true↔Joi c a b x y:=by
 unfold jB Joi
 simp only [Bool.or_eq_true]
 rw [zL5 h ga gb,zL5 h ga gb,zKl h ga gb,zKl h ga gb]
 constructor
 ·rintro (q|q|⟨k,h1,q⟩|⟨k,h1,q⟩)
  ·exact .inl q
  ·exact .inr (.inl q)
  ·exact .inr (.inr ⟨k,.inl h1,q⟩)
  ·exact .inr (.inr ⟨k,.inr h1,q⟩)
 ·rintro (q|q|⟨k,h1|h1,q⟩)
  ·exact .inl q
  ·exact .inr (.inl q)
  ·exact .inr (.inr (.inl ⟨k,h1,q⟩))
  ·exact .inr (.inr (.inr ⟨k,h1,q⟩))
theorem zND {c:List Pack} {a b:List Int} (h:Two c a b) (ga:GoodS c a) (gb:GoodS c b) {n:ByteArray}:zEp c a n≠zEp c b n↔Chg c a b n:=by
 constructor
 ·intro hne
  rcases zA4 c a n with ⟨q1,q2⟩|⟨q1,q2⟩
  ·rcases zA4 c b n with ⟨q3,_⟩|⟨q3,q4⟩
   ·exact absurd (q1.trans q3.symm) hne
   ·exact ⟨_,q4,.inr ⟨q3,fun h=>q2 _ h q4⟩⟩
  ·refine ⟨_,q2,.inl ⟨q1,fun hb=>hne ?_⟩⟩
   have:=zGT gb hb
   rw [q2] at this
   exact this.symm
 ·rintro ⟨k,rfl,⟨h1,h2⟩|⟨h1,h2⟩⟩ e
  ·rw [zGT ga h1] at e
   have:=h.pa k h1
   rcases zA4 c b (tN c k) with ⟨q1,q2⟩|⟨q1,q2⟩
   ·omega
   ·rw [←e] at q1; exact h2 q1
  ·rw [zGT gb h1] at e
   have:=h.pb k h1
   rcases zA4 c a (tN c k) with ⟨q1,q2⟩|⟨q1,q2⟩
   ·omega
   ·rw [e] at q1; exact h2 q1
inductive Rch (K:ByteArray→ByteArray→Bool) (L:List ByteArray) (h:ByteArray):ByteArray→Prop where
 |base:Rch K L h h
 |step {x y:ByteArray}:Rch K L h x→y∈L→K x y=true→Rch K L h y
noncomputable def zEA (K:ByteArray→ByteArray→Bool) (L:List ByteArray):List ByteArray:=L.filter fun y=> @decide (Rch K L (L.headD ByteArray.empty) y) (Classical.propDecidable _)
noncomputable def zFe (K:ByteArray→ByteArray→Bool) (L:List ByteArray):List ByteArray:=L.filter fun y=> !(@decide (Rch K L (L.headD ByteArray.empty) y) (Classical.propDecidable _))
theorem Rch.mem {K:ByteArray→ByteArray→Bool} {L:List ByteArray} {h x:ByteArray} (hh:h∈L) (r:Rch K L h x):x∈L:=by
 cases r with
 |base=>exact hh
 |step _ h2 _=>exact h2
theorem zFw {K:ByteArray→ByteArray→Bool} {L:List ByteArray} {h:ByteArray} {t:List ByteArray} (e:L=h::t) {x:ByteArray}:x∈zEA K L↔Rch K L h x:=by
 unfold zEA
 rw [List.mem_filter]
 have:L.headD ByteArray.empty=h:=by rw [e]; rfl
 rw [this]
 simp only [decide_eq_true_eq]
 exact ⟨fun h=>h.2,fun r=>⟨r.mem (by rw [e]; simp),r⟩⟩
theorem zGp {K:ByteArray→ByteArray→Bool} {L:List ByteArray} {h:ByteArray} {t:List ByteArray} (e:L=h::t) {x:ByteArray}:x∈zFe K L↔x∈L∧¬Rch K L h x:=by
 unfold zFe
 rw [List.mem_filter]
 have:L.headD ByteArray.empty=h:=by rw [e]; rfl
 rw [this]
 simp
theorem zK4 {K:ByteArray→ByteArray→Bool} {L:List ByteArray} {h:ByteArray} {t:List ByteArray} (e:L=h::t):(zFe K L).length <L.length:=by
 have hne:zFe K L≠L:=fun he=>by
  have:h∈zFe K L:=by rw [he,e]; simp
  exact ((zGp e).1 this).2 .base
 have hs:(zFe K L).Sublist L:=List.filter_sublist
 rcases Nat.lt_or_ge (zFe K L).length L.length with q|q
 ·exact q
 ·exact absurd (hs.eq_of_length (Nat.le_antisymm hs.length_le q)) hne
theorem zGS {P L:List ByteArray} (hP:P.Pairwise ltS) (hL:L.Pairwise ltS) (h:∀x∈P,x∈L):P.length≤L.length:=by
 have e:P=L.filter (inN P):=zCA hP (hL.filter _) fun x=>by
  rw [List.mem_filter,zDK]
  exact ⟨fun hx=>⟨h x hx,hx⟩,fun hx=>hx.2⟩
 rw [e]
 exact List.length_filter_le _ _
theorem zKQ {K:ByteArray→ByteArray→Bool} {c:List Pack} {a b:List Int} (hJ:∀x y,uV c a b x y=some (K x y)) {L P:List ByteArray} {out:List (List ByteArray)} {s3:List ByteArray×Bool×Int} {i:Nat} (hi:i<L.length) (hs3:s3.2.2=(i:Int)) (hP:P.Pairwise ltS) (hl:P.length≤1000) (g:Bool):
  ∃t,loop (zCb c a b (L,out) s3) (P,g,0)=some t∧t.1.Pairwise ltS∧((t=(P,g)∧(L[i]∈P∨∀x∈P,K x L[i]=false))∨(L[i]∉P∧(∃x∈P,K x L[i]=true)∧t.2=true∧(∀z,z∈t.1↔z∈P∨z=L[i])∧t.1.length=P.length+1)):=by
 let Q:List ByteArray×Bool→Prop:=fun t=>t.1.Pairwise ltS∧((t=(P,g)∧(L[i]∈P∨∀x∈P,K x L[i]=false))∨(L[i]∉P∧(∃x∈P,K x L[i]=true)∧t.2=true∧(∀z,z∈t.1↔z∈P∨z=L[i])∧t.1.length=P.length+1))
 refine jV (b:=zCb c a b (L,out) s3)
  (fun k s=>s.2.2=(k:Int)∧k≤P.length+1∧((s.1=P∧s.2.1=g∧k≤P.length∧(∀(j:Nat) (hj:j<P.length),j<k→K P[j] L[i]=false))∨(s.1.Pairwise ltS∧L[i]∉P∧(∃x∈P,K x L[i]=true)∧s.2.1=true∧(∀z,z∈s.1↔z∈P∨z=L[i])∧s.1.length=P.length+1))) (P.length+2) Q (by
  rintro k ⟨p,g',k'⟩ hk ⟨hk',hle,hcase⟩
  simp only at hk' hcase
  subst hk'
  have hix:idx L s3.2.2=some L[i]:=by rw [hs3]; exact zI hi
  unfold zCb
  simp only
  rcases hcase with ⟨rfl,rfl,hkp,hno⟩|⟨h1,h2,h3,h4,h5,h6⟩
  ·by_cases hkl:k<p.length
   ·rw [if_pos (by simp; omega),hix]
    simp only [Option.bind_some]
    rw [zDX _ _ (by omega)]
    have hq:(p.any fun x=>seq x L[i])=inN p L[i]:=rfl
    rw [hq]
    simp only [Option.bind_some]
    cases hin:inN p L[i]
    ·simp only [Bool.not_false,if_true]
     have hnin:L[i]∉p:=fun h=>by rw [zDK.2 h] at hin; cases hin
     rw [zI hkl]
     simp only [Option.bind_some]
     rw [hJ]
     simp only [Option.bind_some]
     cases hj:K p[k] L[i]
     ·simp only [Bool.false_eq_true,if_false,Option.bind_some]
      rw [zM (by omega)]
      refine .inl ⟨_,rfl,rfl,by omega,.inl ⟨rfl,rfl,by omega,fun j hj' hjk=>?_⟩⟩
      rcases Nat.lt_succ_iff_lt_or_eq.1 hjk with q|q
      ·exact hno j hj' q
      ·subst q; exact hj
     ·simp only [if_true]
      obtain ⟨r,e1,e2,e3,e4⟩:=zGW p L[i] hP (by omega)
      rw [e1]
      simp only [Option.bind_some]
      rw [zM (by omega)]
      refine .inl ⟨_,rfl,rfl,by omega,.inr ⟨e2,hnin,⟨_,List.getElem_mem hkl,hj⟩,rfl,e3,?_⟩⟩
      have hnd:∀{l:List ByteArray},l.Pairwise ltS→l.Nodup:=fun h=>h.imp fun h=>zI7 h
      have:r.Perm (L[i]::p):=(List.perm_ext_iff_of_nodup (hnd e2) (List.nodup_cons.2 ⟨hnin,hnd hP⟩)).2 fun z=>by
       rw [e3,List.mem_cons]; exact Or.comm
      rw [this.length_eq]
      rfl
    ·simp only [Bool.not_true,Bool.false_eq_true,if_false]
     exact .inr ⟨_,rfl,hP,.inl ⟨rfl,.inl (zDK.1 hin)⟩⟩
   ·rw [if_neg (by simp; omega)]
    simp only [Option.bind_some,Bool.false_eq_true,if_false]
    refine .inr ⟨_,rfl,hP,.inl ⟨rfl,.inr fun x hx=>?_⟩⟩
    obtain ⟨j,hj,rfl⟩:=List.getElem_of_mem hx
    exact hno j hj (by omega)
  ·refine .inr ⟨(p,g'),?_,h1,.inr ⟨h2,h3,h4,h5,h6⟩⟩
   by_cases hkl:k<p.length
   ·rw [if_pos (by simp; omega),hix]
    simp only [Option.bind_some]
    rw [zDX _ _ (by omega)]
    have hq:(p.any fun x=>seq x L[i])=true:=by
     show inN p L[i]=true
     exact zDK.2 ((h5 _).2 (.inr rfl))
    rw [hq]
    simp
   ·rw [if_neg (by simp; omega)]
    simp) (by
  rintro ⟨p,g',k'⟩ ⟨hk',hle,_⟩
  omega) (P.length+2) 0 (P,g,0) (by omega) ⟨rfl,by omega,.inl ⟨rfl,rfl,by omega,fun j hj h=>by omega⟩⟩
theorem zLd {K:ByteArray→ByteArray→Bool} {c:List Pack} {a b:List Int} (hJ:∀x y,uV c a b x y=some (K x y)) {L P:List ByteArray} {h:ByteArray} {out:List (List ByteArray)} (hL:L.Pairwise ltS) (hl:L.length≤500) (hP:P.Pairwise ltS) (hsub:∀x∈P,Rch K L h x) (hh:h∈L):
  ∃t,loop (zA0 c a b (L,out)) (P,false,0)=some t∧t.1.Pairwise ltS∧(∀x∈P,x∈t.1)∧(∀x∈t.1,Rch K L h x)∧(t.2=true→P.length<t.1.length)∧(t.2=false→t.1=P∧∀y∈L,y∈P∨∀x∈P,K x y=false):=by
 refine jV (b:=zA0 c a b (L,out))
  (fun i s=>s.2.2=(i:Int)∧s.1.Pairwise ltS∧(∀x∈P,x∈s.1)∧(∀x∈s.1,Rch K L h x)∧(s.2.1=true→P.length<s.1.length)∧P.length≤s.1.length∧(s.2.1=false→s.1=P∧∀y∈L.take i,y∈P∨∀x∈P,K x y=false)) L.length _ (by
  rintro i ⟨p,g,k⟩ hi ⟨hk,h1,h2,h3,h4,h5,h6⟩
  simp only at hk h1 h2 h3 h4 h5 h6
  subst hk
  refine .inl ?_
  have hpl:=zGS h1 hL (fun x hx=>(h3 x hx).mem hh)
  obtain ⟨⟨p',g'⟩,e,q1,q2⟩:=zKQ hJ (out:=out) (s3:=(p,g,(i:Int))) hi rfl h1 (by omega) g
  unfold zA0 zCx
  rw [if_pos (by simp; omega)]
  simp only
  rw [e,zM (by omega)]
  refine ⟨_,rfl,rfl,q1,?_⟩
  simp only at q1 q2 ⊢
  rcases q2 with ⟨q3,q4⟩|⟨q3,⟨x0,q4,q5⟩,q6,q7,q8⟩
  ·cases q3
   refine ⟨h2,h3,h4,h5,fun hg=>?_⟩
   obtain ⟨rfl,h8⟩:=h6 hg
   refine ⟨rfl,fun y hy=>?_⟩
   rw [List.take_succ_eq_append_getElem hi] at hy
   rcases List.mem_append.1 hy with hy|hy
   ·exact h8 y hy
   ·simp at hy; subst hy; exact q4
  ·refine ⟨fun x hx=>(q7 x).2 (.inl (h2 x hx)),fun x hx=>?_,fun _=>by omega,by omega,fun hg=>?_⟩
   ·rcases (q7 x).1 hx with hx|rfl
    ·exact h3 x hx
    ·exact .step (h3 _ q4) (List.getElem_mem hi) q5
   ·rw [q6] at hg; cases hg) (by
  rintro ⟨p,g,k⟩ ⟨hk,h1,h2,h3,h4,h5,h6⟩
  simp only at hk h1 h2 h3 h4 h5 h6
  subst hk
  rw [List.take_length] at h6
  unfold zA0
  rw [if_neg (by simp)]
  exact ⟨_,rfl,h1,h2,h3,h4,h6⟩) L.length 0 (P,false,0) (by omega) ⟨rfl,hP,fun x hx=>hx,hsub,by simp,Nat.le_refl _,fun _=>⟨rfl,by simp⟩⟩
theorem zLq {K:ByteArray→ByteArray→Bool} {c:List Pack} {a b:List Int} (hJ:∀x y,uV c a b x y=some (K x y)) {L:List ByteArray} {h:ByteArray} {t:List ByteArray} {out:List (List ByteArray)} (e0:L=h::t) (hL:L.Pairwise ltS) (hl:L.length≤500):zBk c a b (L,out) ([h],true)=some (zEA K L):=by
 have hh:h∈L:=by rw [e0]; simp
 obtain ⟨r,e,h1,h2,h3,h4⟩:=zHi (b:=zD2 c a b (L,out)) (fun s=>s.1.Pairwise ltS∧h∈s.1∧(∀x∈s.1,Rch K L h x)∧(s.2=false→∀y∈L,y∈s.1∨∀x∈s.1,K x y=false))
  (fun s=>(L.length-s.1.length)*2+(if s.2 then 1 else 0)) (fun t=>t.Pairwise ltS∧h∈t∧(∀x∈t,Rch K L h x)∧∀y∈L,y∈t∨∀x∈t,K x y=false) (by
  rintro ⟨p,g⟩ ⟨g1,g2,g3,g4⟩
  simp only at g1 g2 g3 g4
  unfold zD2
  simp only
  cases g
  ·rw [if_neg (by simp)]
   exact .inr ⟨_,rfl,g1,g2,g3,g4 rfl⟩
  ·rw [if_pos rfl]
   obtain ⟨⟨p',g'⟩,e,q1,q2,q3,q4,q5⟩:=zLd hJ (out:=out) hL hl g1 g3 hh
   simp only at q1 q2 q3 q4 q5
   unfold zCw
   rw [e]
   have hpl:=zGS q1 hL (fun x hx=>(q3 x hx).mem hh)
   refine .inl ⟨_,rfl,⟨q1,q2 _ g2,q3,fun hg=>?_⟩,?_⟩
   ·obtain ⟨rfl,q6⟩:=q5 hg
    exact q6
   ·simp only
    cases g'
    ·obtain ⟨rfl,_⟩:=q5 rfl
     simp
    ·have:=q4 rfl
     simp
     omega) _ ([h],true) (Nat.le_refl _) ⟨by simp,by simp,fun x hx=>by simp at hx; subst hx; exact .base,by simp⟩
 unfold zBk
 rw [e]
 congr 1
 refine zCA h1 (hL.filter _) fun x=>?_
 show x∈r↔x∈zEA K L
 rw [zFw e0]
 refine ⟨h3 x,fun hr=>?_⟩
 induction hr with
 |base=>exact h2
 |step _ hy hj ih=>
  rcases h4 _ hy with q|q
  ·exact q
  ·rw [q _ ih] at hj; cases hj
theorem zLr {K:ByteArray→ByteArray→Bool} {c:List Pack} {a b:List Int} {L:List ByteArray} {h:ByteArray} {t:List ByteArray} {out:List (List ByteArray)} (e0:L=h::t) (hl:L.length≤500):zBi c a b (L,out) (zEA K L) (([]:List ByteArray),0)=some (zFe K L):=by
 have hpl:(zEA K L).length ≤L.length:=List.length_filter_le _ _
 obtain ⟨r,e,rfl⟩:=jV (b:=zBQ c a b (L,out) (zEA K L)) (fun i s=>s.2=(i:Int)∧s.1=(L.take i).filter (fun y=> !(inN (zEA K L) y))) L.length (fun t=>t=L.filter (fun y=> !(inN (zEA K L) y))) (by
  rintro i ⟨l,k⟩ hi ⟨hk,hl'⟩
  simp only at hk hl'
  subst hk hl'
  refine .inl ?_
  have hlen:((L.take i).filter (fun y=> !(inN (zEA K L) y))).length ≤i:=by
   have:=List.length_filter_le (fun y=> !(inN (zEA K L) y)) (L.take i)
   simp at this ⊢
   omega
  unfold zBQ
  simp only
  rw [if_pos (by simp; omega),zI hi]
  simp only [Option.bind_some]
  rw [zDX _ _ (by omega),zM (by omega),jS (by simp at hlen ⊢; omega) (by simp at hlen ⊢; omega)]
  have hq:((zEA K L).any fun x=>seq x L[i])=inN (zEA K L) L[i]:=rfl
  rw [hq]
  simp only [Option.bind_some]
  refine ⟨((L.take (i+1)).filter (fun y=> !(inN (zEA K L) y)),((i+1:Nat):Int)),?_,rfl,rfl⟩
  rw [List.take_succ_eq_append_getElem hi,List.filter_append,List.filter_cons,List.filter_nil]
  cases inN (zEA K L) L[i]<;>simp) (by
  rintro ⟨l,k⟩ ⟨hk,hl'⟩
  simp only at hk hl'
  subst hk hl'
  rw [List.take_length]
  unfold zBQ
  rw [if_neg (by simp)]
  exact ⟨_,rfl,rfl⟩) L.length 0 (([]:List ByteArray),0) (by omega) ⟨rfl,by simp⟩
 unfold zBi
 rw [e]
 congr 1
 unfold zFe
 refine List.filter_congr fun y hy=>?_
 have hd:L.headD ByteArray.empty=h:=by rw [e0]; rfl
 rw [hd]
 congr 1
 rw [Bool.eq_iff_iff,zDK,zFw e0]
 exact (@decide_eq_true_iff _ (Classical.propDecidable _)).symm
theorem zFv {K:ByteArray→ByteArray→Bool} {c:List Pack} {a b:List Int} (hJ:∀x y,uV c a b x y=some (K x y)) {L:List ByteArray} {out:List (List ByteArray)} (hL:L.Pairwise ltS) (hl:L.length≤500) (ho:out.length≤500):zCa c a b (L,out)=some (if L=[] then .done out else .go (zFe K L,out++[zEA K L])):=by
 cases L with
 |nil=>
  unfold zCa
  rw [if_neg (by simp),if_pos rfl]
 |cons h t=>
  unfold zCa
  rw [if_pos (by simp),if_neg (by simp)]
  simp only
  rw [show idx (h::t) 0=some h from rfl]
  simp only [Option.bind_some]
  rw [zLq hJ rfl hL hl]
  simp only [Option.bind_some]
  rw [zLr rfl hl]
  simp only [Option.bind_some]
  rw [jS (by simp; omega) (by simp; omega)]
  rfl
noncomputable def zDx (K:ByteArray→ByteArray→Bool):Nat→List ByteArray→List (List ByteArray)
 |0,_=>[]
 |n+1,L=>if L=[] then [] else zEA K L::zDx K n (zFe K L)
theorem zEF {K:ByteArray→ByteArray→Bool} {L:List ByteArray} (h:L.Pairwise ltS):(zFe K L).Pairwise ltS:=h.filter _
theorem zG8 {K:ByteArray→ByteArray→Bool} {L:List ByteArray} (h:L.Pairwise ltS):(zEA K L).Pairwise ltS:=h.filter _
theorem zFl {K:ByteArray→ByteArray→Bool} {c:List Pack} {a b:List Int} (hJ:∀x y,uV c a b x y=some (K x y)):∀(n:Nat) (L:List ByteArray) (out:List (List ByteArray)),L.Pairwise ltS→L.length≤n→L.length+out.length≤500→jZ c a b (L,out)=some (out++zDx K n L)
 |0,L,out,h1,h2,h3=>by
  have:L=[]:=List.length_eq_zero_iff.1 (by omega)
  subst this
  unfold jZ
  rw [tX,zFv hJ h1 (by simp) (by omega)]
  simp [zDx,Lp.elim]
 |n+1,L,out,h1,h2,h3=>by
  unfold jZ
  rw [tX,zFv hJ h1 (by omega) (by omega)]
  cases L with
  |nil=>simp [zDx,Lp.elim]
  |cons h t=>
   have hlt:=zK4 (K:=K) (L:=h::t) rfl
   have ih:=zFl hJ n (zFe K (h::t)) (out++[zEA K (h::t)]) (zEF h1) (by omega) (by simp at h3 hlt ⊢; omega)
   rw [if_neg (by simp)]
   simp only [Option.bind_some,Lp.elim]
   unfold jZ at ih
   rw [ih]
   simp [zDx]
theorem zFY {α:Type} (q:α→Bool):∀l:List α,(l.filter q).length +(l.filter fun x=> !(q x)).length =l.length
 |[]=>rfl
 |x::l=>by
  have:=zFY q l
  cases h:q x<;>simp [List.filter_cons,h]<;>omega
theorem ranged {K:ByteArray→ByteArray→Bool} {c:List Pack} {a b:List Int} (hK:∀x y,wR c a b x y=some (K x y)) {s1:List (List ByteArray)×List ByteArray} {left part:List ByteArray} {i:Nat} (hi:i<part.length) (hl:left.length+part.length≤500):
  zBx c a b s1 (left,part,(i:Int)) (part,([]:List ByteArray),0)=some (part++left.filter (K part[i]),left.filter fun y=> !(K part[i] y)):=by
 obtain ⟨t,e,rfl⟩:=jV (b:=zBM c a b s1 (left,part,(i:Int))) (fun k s=>s=(part++(left.take k).filter (K part[i]),(left.take k).filter (fun y=> !(K part[i] y)),(k:Int))) left.length
  (fun t=>t=(part++left.filter (K part[i]),left.filter fun y=> !(K part[i] y))) (by
  rintro k s hk rfl
  have hf:=zFY (K part[i]) (left.take k)
  have htk:(left.take k).length ≤k:=by simp; omega
  refine .inl ⟨(part++(left.take (k+1)).filter (K part[i]),(left.take (k+1)).filter (fun y=> !(K part[i] y)),((k+1:Nat):Int)),?_,rfl⟩
  unfold zBM
  simp only
  rw [if_pos (by simp; omega),zI hk]
  simp only [Option.bind_some]
  have hix:idx (part++(left.take k).filter (K part[i])) (i:Int)=some part[i]:=by
   rw [zI (by simp; omega),List.getElem_append_left hi]
  rw [hix]
  simp only [Option.bind_some]
  rw [hK,zM (by omega),jS (by simp at hf htk ⊢; omega) (by simp at hf htk ⊢; omega),jS (by simp at hf htk ⊢; omega) (by simp at hf htk ⊢; omega)]
  simp only [Option.bind_some]
  rw [List.take_succ_eq_append_getElem hk,List.filter_append,List.filter_append]
  cases hj:K part[i] left[k]<;>simp [hj]) (by
  rintro s rfl
  rw [List.take_length]
  unfold zBM
  rw [if_neg (by simp)]
  exact ⟨_,rfl,rfl⟩) left.length 0 (part,([]:List ByteArray),0) (by omega) (by simp)
 unfold zBx
 exact e
theorem zNo {K:ByteArray→ByteArray→Bool} {c:List Pack} {a b:List Int} (hK:∀x y,wR c a b x y=some (K x y)) {out:List (List ByteArray)} {h:ByteArray} {t:List ByteArray} (hl:t.length≤500):
  zBv c a b (out,h::t) t ([h],([]:List ByteArray),0)=some (h::t.filter (K h),t.filter fun y=> !(K h y)):=by
 obtain ⟨r,e,rfl⟩:=jV (b:=zBP c a b (out,h::t) t) (fun k s=>s=(h::(t.take k).filter (K h),(t.take k).filter (fun y=> !(K h y)),(k:Int))) t.length
  (fun r=>r=(h::t.filter (K h),t.filter fun y=> !(K h y))) (by
  rintro k s hk rfl
  have hf:=zFY (K h) (t.take k)
  have htk:(t.take k).length ≤k:=by simp; omega
  refine .inl ⟨(h::(t.take (k+1)).filter (K h),(t.take (k+1)).filter (fun y=> !(K h y)),((k+1:Nat):Int)),?_,rfl⟩
  unfold zBP
  simp only
  have ho:zKj (h::t) 1 t.length (k:Int)=some t[k]:=by
   unfold zKj
   rw [if_pos (by omega),show (1:Int)+(k:Int)=((k+1:Nat):Int) by omega,zI (by simp; omega)]
   simp
  rw [if_pos (by simp; omega),ho]
  simp only [Option.bind_some]
  rw [show idx (h::(t.take k).filter (K h)) 0=some h from rfl]
  simp only [Option.bind_some]
  rw [hK,zM (by omega),jS (by simp at hf htk ⊢; omega) (by simp at hf htk ⊢; omega),jS (by simp at hf htk ⊢; omega) (by simp at hf htk ⊢; omega)]
  simp only [Option.bind_some]
  rw [List.take_succ_eq_append_getElem hk,List.filter_append,List.filter_append]
  cases hj:K h t[k]<;>simp [hj]) (by
  rintro s rfl
  rw [List.take_length]
  unfold zBP
  rw [if_neg (by simp)]
  exact ⟨_,rfl,rfl⟩) t.length 0 ([h],([]:List ByteArray),0) (by omega) (by simp)
 unfold zBv
 exact e
theorem zLJ {K:ByteArray→ByteArray→Bool} {c:List Pack} {a b:List Int} (hK:∀x y,wR c a b x y=some (K x y)) {s1:List (List ByteArray)×List ByteArray} {L:List ByteArray} {h:ByteArray} {t:List ByteArray} (e0:L=h::t) (hL:L.Pairwise ltS) (hl:L.length≤250):
  ∃r,zB0 c a b s1 (t.filter (fun y=> !(K h y)),h::t.filter (K h),((1:Nat):Int))=some (zFe K L,r)∧uK r=some (zEA K L):=by
 have nd:∀{l:List ByteArray},l.Pairwise ltS→l.Nodup:=fun h=>h.imp fun h=>zI7 h
 have hLn:=nd hL
 have hLn':=hLn
 rw [e0,List.nodup_cons] at hLn'
 obtain ⟨⟨l,r⟩,e,q1,q2,q3⟩:=zHi (b:=zD4 c a b s1)
  (fun s=>∃n:Nat,s.2.2=(n:Int)∧n≤s.2.1.length∧s.2.1.Nodup∧(∀x∈s.2.1,Rch K L h x)∧h∈s.2.1∧s.1.Sublist L∧(∀x,x∈L↔x∈s.2.1∨x∈s.1)∧(∀x∈s.2.1,x∉s.1)∧s.2.1.length+s.1.length=L.length∧∀(j:Nat) (hj:j<s.2.1.length),j<n→∀y∈s.1,K s.2.1[j] y=false)
  (fun s=>L.length+1-s.2.2.toNat) (fun t=>t.1=zFe K L∧(∀x,x∈t.2↔Rch K L h x)∧t.2.length≤L.length) (by
  rintro ⟨left,part,i⟩ ⟨n,hi,h1,h2,h3,h4,h5,h6,h7,h8,h9⟩
  simp only at hi h1 h2 h3 h4 h5 h6 h7 h8 h9
  subst hi
  unfold zD4
  simp only
  by_cases hn:n<part.length
  ·rw [if_pos (by simp; omega),ranged hK hn (by omega),zM (by omega)]
   simp only [Option.bind_some]
   have hf:=zFY (K part[n]) left
   refine .inl ⟨_,rfl,⟨n+1,rfl,by simp; omega,?_,?_,List.mem_append_left _ h4,(List.filter_sublist).trans h5,?_,?_,by simp at hf ⊢; omega,?_⟩,by simp; omega⟩
   ·refine List.nodup_append.2 ⟨h2,((h5.nodup hLn).filter _),fun x hx y hy e=>?_⟩
    subst e
    exact h7 x hx (List.mem_filter.1 hy).1
   ·intro x hx
    rcases List.mem_append.1 hx with hx|hx
    ·exact h3 x hx
    ·obtain ⟨q1,q2⟩:=List.mem_filter.1 hx
     exact .step (h3 _ (List.getElem_mem hn)) ((h6 x).2 (.inr q1)) q2
   ·intro x
    rw [h6,List.mem_append,List.mem_filter,List.mem_filter]
    cases hq:K part[n] x<;>simp
   ·intro x hx
    simp only [List.mem_filter,not_and]
    rcases List.mem_append.1 hx with hx|hx
    ·exact fun h=>absurd h (h7 x hx)
    ·intro _
     rw [(List.mem_filter.1 hx).2]
     simp
   ·intro j hj hjn y hy
    obtain ⟨q1,q2⟩:=List.mem_filter.1 hy
    rcases Nat.lt_succ_iff_lt_or_eq.1 hjn with q|q
    ·rw [List.getElem_append_left (by omega)]
     exact h9 j (by omega) q y q1
    ·subst q
     rw [List.getElem_append_left hn]
     simpa using q2
  ·rw [if_neg (by simp; omega)]
   refine .inr ⟨_,rfl,?_,?_,by simp only; omega⟩
   ·have hmem:∀x,x∈part↔Rch K L h x:=by
     intro x
     refine ⟨h3 x,fun hr=>?_⟩
     induction hr with
     |base=>exact h4
     |step _ hy hj ih=>
      rcases (h6 _).1 hy with q|q
      ·exact q
      ·obtain ⟨j,hjl,rfl⟩:=List.getElem_of_mem ih
       rw [h9 j hjl (by omega) _ q] at hj
       cases hj
    refine zCA (hL.sublist h5) (zEF hL) fun x=>?_
    rw [zGp e0,←hmem,h6]
    constructor
    ·exact fun q=>⟨.inr q,fun q2=>h7 x q2 q⟩
    ·rintro ⟨q|q,q2⟩
     ·exact absurd q q2
     ·exact q
   ·intro x
    refine ⟨h3 x,fun hr=>?_⟩
    induction hr with
    |base=>exact h4
    |step _ hy hj ih=>
     rcases (h6 _).1 hy with q|q
     ·exact q
     ·obtain ⟨j,hjl,rfl⟩:=List.getElem_of_mem ih
      have hjl':j<part.length:=hjl
      rw [h9 j hjl' (by omega) _ q] at hj
      cases hj) _ (t.filter (fun y=> !(K h y)),h::t.filter (K h),((1:Nat):Int)) (Nat.le_refl _) (by
  have hf:=zFY (K h) t
  refine ⟨1,rfl,by simp,?_,?_,by simp,?_,?_,?_,by rw [e0]; simp at hf ⊢; omega,?_⟩
  ·exact List.nodup_cons.2 ⟨fun hx=>hLn'.1 (List.mem_filter.1 hx).1,hLn'.2.filter _⟩
  ·intro x hx
   rcases List.mem_cons.1 hx with rfl|hx
   ·exact .base
   ·obtain ⟨q1,q2⟩:=List.mem_filter.1 hx
    exact .step .base (by rw [e0]; simp [q1]) q2
  ·rw [e0]
   exact (List.filter_sublist).cons _
  ·intro x
   rw [e0,List.mem_cons,List.mem_cons,List.mem_filter,List.mem_filter]
   cases hq:K h x<;>simp
  ·intro x hx
   simp only [List.mem_filter,not_and]
   rcases List.mem_cons.1 hx with rfl|hx
   ·exact fun h=>absurd h hLn'.1
   ·intro _
    rw [(List.mem_filter.1 hx).2]
    simp
  ·intro j hj hj1 y hy
   have:j=0:=by omega
   subst this
   have:=(List.mem_filter.1 hy).2
   simpa using this)
 simp only at q1 q2 q3
 subst q1
 refine ⟨r,by unfold zB0; exact e,?_⟩
 obtain ⟨w,w1,w2,w3⟩:=zFF r (by omega)
 rw [w1]
 congr 1
 exact zCA w2 (zG8 hL) fun x=>by rw [w3,q2,zFw e0]
theorem zFu {K:ByteArray→ByteArray→Bool} {c:List Pack} {a b:List Int} (hK:∀x y,wR c a b x y=some (K x y)) {L:List ByteArray} {out:List (List ByteArray)} (hL:L.Pairwise ltS) (hl:L.length≤250) (ho:out.length≤500):
  zBT c a b (out,L)=some (if L=[] then .done out else .go (out++[zEA K L],zFe K L)):=by
 cases L with
 |nil=>
  unfold zBT
  rw [if_neg (by simp),if_pos rfl]
 |cons h t=>
  have e1:zFk (h::t) 0 1=some [h]:=by
   have:=zF4 (xs:=h::t) (l:=0) (h:=1) (by omega) (by simp)
   simpa using this
  have e2:zFk (h::t) 1 ((h::t).length :Int)=some t:=by
   have:=zF4 (xs:=h::t) (l:=1) (h:=(h::t).length) (by simp) (Nat.le_refl _)
   simpa using this
  unfold zBT
  rw [if_pos (by simp),if_neg (by simp)]
  simp only
  rw [e1]
  simp only [Option.bind_some]
  rw [e2]
  simp only [Option.bind_some]
  rw [if_pos (by simp),zNo hK (by simp at hl; omega)]
  simp only [Option.bind_some]
  rw [show w64 (0+1)=((1:Nat):Int) by rw [zCr (by omega) (by omega)]; rfl]
  obtain ⟨r,f1,f2⟩:=zLJ hK (s1:=(out,h::t)) (L:=h::t) rfl hL hl
  rw [f1]
  simp only [Option.bind_some]
  rw [f2]
  simp only [Option.bind_some]
  rw [jS (by simp; omega) (by simp; omega)]
  rfl
theorem zFp {K:ByteArray→ByteArray→Bool} {c:List Pack} {a b:List Int} (hK:∀x y,wR c a b x y=some (K x y)):∀(n:Nat) (L:List ByteArray) (out:List (List ByteArray)),L.Pairwise ltS→L.length≤n→L.length+out.length≤250→jY c a b (out,L)=some (out++zDx K n L)
 |0,L,out,h1,h2,h3=>by
  have:L=[]:=List.length_eq_zero_iff.1 (by omega)
  subst this
  unfold jY
  rw [tX,zFu hK h1 (by simp) (by omega)]
  simp [zDx,Lp.elim]
 |n+1,L,out,h1,h2,h3=>by
  unfold jY
  rw [tX,zFu hK h1 (by omega) (by omega)]
  cases L with
  |nil=>simp [zDx,Lp.elim]
  |cons h t=>
   have hlt:=zK4 (K:=K) (L:=h::t) rfl
   have ih:=zFp hK n (zFe K (h::t)) (out++[zEA K (h::t)]) (zEF h1) (by omega) (by simp at h3 hlt ⊢; omega)
   rw [if_neg (by simp)]
   simp only [Option.bind_some,Lp.elim]
   unfold jY at ih
   rw [ih]
   simp [zDx]
noncomputable def chL (c:List Pack) (a b:List Int):List ByteArray:=(zAC c a b).getD []
noncomputable def zGv (c:List Pack) (a b:List Int):List (List ByteArray):=zDx (jB c a b) 24 (chL c a b)
theorem zIo {c:List Pack} {a b:List Int} (h:Two c a b):kY c a b=some (chL c a b)∧zAC c a b=some (chL c a b)∧(chL c a b).Pairwise ltS∧(∀n,n∈chL c a b↔zEp c a n≠zEp c b n)∧(chL c a b).length ≤24:=by
 obtain ⟨l,e1,e2,h1,h2,h3⟩:=zIX h
 have:chL c a b=l:=by unfold chL; rw [e2]; rfl
 rw [this]
 exact ⟨e1,e2,h1,h2,h3⟩
theorem zGx {c:List Pack} {a b:List Int} (h:Two c a b):zA9 c a b=some (zGv c a b)∧zAG c a b=some (zGv c a b):=by
 obtain ⟨e1,e2,h1,_,h3⟩:=zIo h
 constructor
 ·unfold zA9
  rw [e1]
  simp only [Option.bind_some]
  rw [zFl (fun x y=>(zH6 h x y).1) 24 _ _ h1 h3 (by simp; omega)]
  rfl
 ·unfold zAG
  rw [e2]
  simp only [Option.bind_some]
  rw [zFp (fun x y=>(zH6 h x y).2) 24 _ _ h1 h3 (by simp; omega)]
  rfl
def cmpL:List ByteArray→List ByteArray→Int
 |[],[]=>0
 |[],_::_=> -1
 |_::_,[]=>1
 |x::xs,y::ys=>if slt x y then-1 else if seq x y then cmpL xs ys else 1
theorem zNj (x y:ByteArray):tZ x y=some (if slt x y then-1 else if seq x y then 0 else 1):=by
 unfold tZ cmp_isNaN_string
 simp only [zFG,Bool.not_true,Option.bind_some,Bool.false_eq_true,if_false]
 cases slt x y<;>cases seq x y<;>rfl
theorem zKL (a b:List ByteArray) (ha:a.length≤1048576) (hb:b.length≤1048576):vR a b=some (cmpL a b):=by
 obtain ⟨t,e,ht⟩:=jV (b:=uG a b) (fun i s=>s=(i:Int)∧i≤b.length∧cmpL a b=cmpL (a.drop i) (b.drop i)) a.length
  (fun t=>match t with| .ret r=>r=cmpL a b| .nxt _=>cmpL a b=if a.length<b.length then-1 else 0) (by
  rintro i s hi ⟨rfl,hib,hc⟩
  unfold uG
  rw [if_pos (by simp; omega),zI hi]
  simp only [Option.bind_some]
  rw [List.drop_eq_getElem_cons hi] at hc
  by_cases hlt:i<b.length
  ·rw [if_neg (by simp; omega),zI hlt]
   simp only [Option.bind_some]
   rw [zNj,zM (by omega)]
   rw [List.drop_eq_getElem_cons hlt] at hc
   simp only [cmpL] at hc
   simp only [Option.bind_some]
   cases h1:slt a[i] b[i]
   ·rw [h1] at hc
    cases h2:seq a[i] b[i]
    ·rw [h2] at hc
     exact .inr ⟨_,rfl,by simpa using hc.symm⟩
    ·rw [h2] at hc
     exact .inl ⟨_,rfl,rfl,by omega,by simpa using hc⟩
   ·rw [h1] at hc
    exact .inr ⟨_,rfl,by simpa using hc.symm⟩
  ·have:i=b.length:=by omega
   subst this
   rw [if_pos (by simp)]
   rw [List.drop_length] at hc
   exact .inr ⟨_,rfl,by simpa [cmpL] using hc.symm⟩) (by
  rintro s ⟨rfl,hib,hc⟩
  unfold uG
  rw [if_neg (by simp)]
  refine ⟨_,rfl,?_⟩
  rw [List.drop_length] at hc
  simp only
  rw [hc]
  by_cases hlt:a.length<b.length
  ·rw [if_pos hlt,List.drop_eq_getElem_cons hlt]
   rfl
  ·have:a.length=b.length:=by omega
   rw [if_neg hlt,this,List.drop_length]
   rfl) a.length 0 0 (by omega) ⟨rfl,by omega,by simp⟩
 unfold vR uO
 rw [e]
 cases t with
 |ret r=>simp only at ht; subst ht; rfl
 |nxt _=>
  simp only at ht
  rw [ht]
  simp only [Fl.go,Option.bind_some]
  by_cases hlt:a.length<b.length
  ·rw [if_pos (by simpa using hlt),if_pos hlt]
  ·rw [if_neg (by simpa using hlt),if_neg hlt]
theorem zI9:∀x:List ByteArray,cmpL x x=0
 |[]=>rfl
 |x::xs=>by simp [cmpL,zDh,zFG,zI9 xs]
theorem zKy:∀x y:List ByteArray,cmpL y x= -cmpL x y
 |[],[]=>rfl
 |[],_::_=>rfl
 |_::_,[]=>rfl
 |x::xs,y::ys=>by
  simp only [cmpL]
  have ih:=zKy xs ys
  cases h1:slt x y
  ·cases h2:slt y x
   ·have e:x=y:=Classical.byContradiction fun hne=>by
     have:=zH8 h2 (Ne.symm hne)
     rw [h1] at this
     cases this
    subst e
    simp [zFG,ih]
   ·have h3:seq x y=false:=by
     cases h3:seq x y with
     |false=>rfl
     |true=>rw [zDU.1 h3,zDh] at h2; cases h2
    simp [h3]
  ·rw [zJc h1]
   have h3:seq y x=false:=by
    cases h3:seq y x with
    |false=>rfl
    |true=>rw [zDU.1 h3,zDh] at h1; cases h1
   simp [h3]
theorem cmpL_eq:∀{x y:List ByteArray},cmpL x y=0→x=y
 |[],[],_=>rfl
 |[],_::_,h=>by simp [cmpL] at h
 |_::_,[],h=>by simp [cmpL] at h
 |x::xs,y::ys,h=>by
  simp only [cmpL] at h
  cases h1:slt x y
  ·rw [h1] at h
   cases h2:seq x y
   ·rw [h2] at h; simp at h
   ·rw [h2] at h
    have e:=cmpL_eq (x:=xs) (y:=ys) (by simpa using h)
    rw [zDU.1 h2,e]
  ·rw [h1] at h; simp at h
theorem zIc:∀{x y z:List ByteArray},cmpL x y<0→cmpL y z<0→cmpL x z<0
 |[],[],_,h,_=>by simp [cmpL] at h
 |[],_::_,[],_,h=>by simp [cmpL] at h
 |[],_::_,_::_,_,_=>by simp [cmpL]
 |_::_,[],_,h,_=>by simp [cmpL] at h
 |_::_,_::_,[],_,h=>by simp [cmpL] at h
 |x::xs,y::ys,z::zs,h,h'=>by
  simp only [cmpL] at h h' ⊢
  cases h1:slt x y
  ·rw [h1] at h
   cases h2:seq x y
   ·rw [h2] at h; simp at h
   ·rw [h2] at h
    have e:=zDU.1 h2
    subst e
    cases h3:slt x z
    ·rw [h3] at h'
     cases h4:seq x z
     ·rw [h4] at h'; simp at h'
     ·rw [h4] at h'
      simp at h h' ⊢
      exact zIc h h'
    ·simp
  ·cases h3:slt y z
   ·rw [h3] at h'
    cases h4:seq y z
    ·rw [h4] at h'; simp at h'
    ·rw [←zDU.1 h4,h1]; simp
   ·rw [zE6 h1 h3]; simp
def zE9 (x y:List ByteArray):Int:=if x.length≠y.length then (x.length:Int)-y.length else cmpL x y
theorem zNd (a b:List ByteArray) (ha:a.length≤1048576) (hb:b.length≤1048576):wK a b=some (zE9 a b):=by
 unfold wK zE9
 by_cases h:a.length=b.length
 ·rw [if_neg (by simp [h]),zKL a b ha hb,if_neg (by simp [h])]
  rfl
 ·rw [if_pos (by simp; omega),if_pos h,zCr (by omega) (by omega)]
theorem zHN (x:List ByteArray):zE9 x x=0:=by simp [zE9,zI9]
theorem zGq (x y:List ByteArray):zE9 y x= -zE9 x y:=by
 unfold zE9
 by_cases h:x.length=y.length
 ·rw [if_neg (by simp [h]),if_neg (by simp [h]),zKy]
 ·rw [if_pos (fun e=>h e.symm),if_pos h]; omega
theorem zGO {x y:List ByteArray} (h:zE9 x y=0):x=y:=by
 unfold zE9 at h
 split at h
 ·omega
 ·exact cmpL_eq h
theorem zHe {x y z:List ByteArray} (h1:zE9 x y<0) (h2:zE9 y z<0):zE9 x z<0:=by
 unfold zE9 at*
 by_cases e1:x.length=y.length
 ·rw [if_neg (by simp [e1])] at h1
  by_cases e2:y.length=z.length
  ·rw [if_neg (by simp [e2])] at h2
   rw [if_neg (by simp [e1,e2])]
   exact zIc h1 h2
  ·rw [if_pos e2] at h2
   rw [if_pos (by omega)]
   omega
 ·rw [if_pos e1] at h1
  by_cases e2:y.length=z.length
  ·rw [if_pos (by omega)]
   omega
  ·rw [if_pos e2] at h2
   rw [if_pos (by omega)]
   omega
theorem zFS {x y:List ByteArray} (hx:x.length≤1048576) (hy:y.length≤1048576):ltC wK x y=decide (zE9 x y<0):=by
 unfold ltC
 rw [zNd x y hx hy]
theorem zLI {xs ys:List (List ByteArray)} (hx:∀x∈xs,x.length≤1048576) (hp:ys.Perm xs) (hs:ys.Pairwise (fun x y=>zE9 x y<0)) (hl:xs.length<4611686018427387904):zJa wK xs=some ys:=by
 have hnd:ys.Nodup:=hs.imp fun h e=>by subst e; rw [zHN] at h; omega
 have hC:CmpOn wK xs:=by
  refine ⟨fun x h1 y h2=>by rw [zNd _ _ (hx x h1) (hx y h2)]; rfl,fun x h1=>?_,fun x h1 y h2 z h3 h4 h5=>?_,fun x h1 y h2 h3 h4=>?_,hp.nodup_iff.1 hnd,hl⟩
  ·rw [zFS (hx x h1) (hx x h1),zHN]; rfl
  ·rw [zFS (hx _ h1) (hx _ h2)] at h4
   rw [zFS (hx _ h2) (hx _ h3)] at h5
   rw [zFS (hx _ h1) (hx _ h3)]
   simp only [decide_eq_true_eq] at h4 h5 ⊢
   exact zHe h4 h5
  ·rw [zFS (hx _ h1) (hx _ h2)] at h3
   rw [zFS (hx _ h2) (hx _ h1)] at h4
   simp only [decide_eq_false_iff_not] at h3 h4
   have:=zGq x y
   exact zGO (by omega)
 unfold zJa
 rw [if_pos hC]
 congr 1
 have hle:∀x∈xs,∀y∈xs,(!(ltC wK y x))=decide (zE9 x y≤0):=fun x h1 y h2=>by
  rw [zFS (hx y h2) (hx x h1)]
  have:=zGq x y
  rw [Bool.eq_iff_iff]
  simp only [Bool.not_eq_true',decide_eq_false_iff_not,decide_eq_true_eq]
  omega
 have hm:(xs.mergeSort fun x y=> !(ltC wK y x))=xs.mergeSort fun x y=>decide (zE9 x y≤0):=by
  have:=List.map_mergeSort (f:=fun x:List ByteArray=>x) (r:=fun x y=> !(ltC wK y x)) (s:=fun x y=>decide (zE9 x y≤0)) (l:=xs) hle
  simpa using this
 rw [hm]
 have hpw:=List.pairwise_mergeSort (le:=fun x y:List ByteArray=>decide (zE9 x y≤0)) (by
  intro x y z h1 h2
  simp only [decide_eq_true_eq] at h1 h2 ⊢
  rcases Int.lt_or_eq_of_le h1 with q1|q1
  ·rcases Int.lt_or_eq_of_le h2 with q2|q2
   ·exact Int.le_of_lt (zHe q1 q2)
   ·rw [←zGO q2]; exact h1
  ·rw [zGO q1]; exact h2) (by
  intro x y
  have:=zGq x y
  simp
  omega) xs
 refine List.Perm.eq_of_pairwise (le:=fun x y=>zE9 x y≤0) ?_ (hpw.imp fun h=>by simpa using h) (hs.imp fun h=>Int.le_of_lt h) ((List.mergeSort_perm _ _).trans hp.symm)
 intro x y _ _ h1 h2
 have:=zGq x y
 exact zGO (by omega)
def zOh (n m:Nat):List Nat:=(List.range n).filter fun j=>m / 2^(n-1-j)%2==1
def zK3 (n m:Nat):List Nat:=(List.range n).filter fun j=>m / 2^j%2==1
def SLi (n:Nat):List (List Nat):=(List.range (n-1)).flatMap fun s=>((List.range (2^n-1)).map fun i=>zOh n (2^n-1-i)).filter fun p=>p.length==s+1
def ILi (n:Nat):List (List Nat):=(List.range (2^n-2)).map fun i=>zK3 n (i+1)
def zOP:List Nat→List Nat→Int
 |[],[]=>0
 |[],_::_=> -1
 |_::_,[]=>1
 |x::xs,y::ys=>if x<y then-1 else if x=y then zOP xs ys else 1
def zN7 (x y:List Nat):Int:=if x.length≠y.length then (x.length:Int)-y.length else zOP x y
theorem zK5:∀n:Fin 7,((SLi n.1).isPerm (ILi n.1))=true:=by decide+kernel
theorem zKA:∀n:Fin 7,(SLi n.1).Pairwise (fun x y=>zN7 x y<0):=by decide+kernel
theorem zNc:∀n:Fin 7,∀p∈SLi n.1,p.Pairwise (· < ·)∧p≠[]∧∀j∈p,j<n.1:=by decide+kernel
def atN (ns:List ByteArray) (p:List Nat):List ByteArray:=p.map fun j=>ns.getD j ByteArray.empty
theorem zF6 (ns:List ByteArray) (p:List Nat):(atN ns p).length =p.length:=by simp [atN]
theorem getD_at {ns:List ByteArray} {j:Nat} (h:j<ns.length):ns.getD j ByteArray.empty=ns[j]:=by simp [List.getD,h]
theorem zJW {ns:List ByteArray} (hs:ns.Pairwise ltS):∀{p q:List Nat},(∀j∈p,j<ns.length)→(∀j∈q,j<ns.length)→cmpL (atN ns p) (atN ns q)=zOP p q
 |[],[],_,_=>rfl
 |[],_::_,_,_=>rfl
 |_::_,[],_,_=>rfl
 |x::xs,y::ys,hp,hq=>by
  have hx:=hp x (by simp)
  have hy:=hq y (by simp)
  have ih:=zJW hs (p:=xs) (q:=ys) (fun j hj=>hp j (by simp [hj])) (fun j hj=>hq j (by simp [hj]))
  have hpw:=List.pairwise_iff_getElem.1 hs
  show cmpL (ns.getD x ByteArray.empty::atN ns xs) (ns.getD y ByteArray.empty::atN ns ys)=_
  rw [getD_at hx,getD_at hy]
  simp only [cmpL,zOP]
  rw [ih]
  rcases Nat.lt_trichotomy x y with h|h|h
  ·have h0:slt ns[x] ns[y]=true:=hpw x y hx hy h
   simp [h,h0]
  ·subst h
   simp [zDh,zFG]
  ·have h1:slt ns[y] ns[x]=true:=hpw y x hy hx h
   have h2:=zJc h1
   have h3:seq ns[x] ns[y]=false:=by
    cases h3:seq ns[x] ns[y] with
    |false=>rfl
    |true=>rw [zDU.1 h3,zDh] at h1; cases h1
   have n1:¬x<y:=by omega
   have n2:¬x=y:=by omega
   simp [h2,h3,n1,n2]
theorem zLE {ns:List ByteArray} (hs:ns.Pairwise ltS) {p q:List Nat} (hp:∀j∈p,j<ns.length) (hq:∀j∈q,j<ns.length):zE9 (atN ns p) (atN ns q)=zN7 p q:=by
 unfold zE9 zN7
 rw [zF6,zF6,zJW hs hp hq]
theorem zL7 {ns:List ByteArray} {p:List Nat} (hp:∀j∈p,j<ns.length):∀x∈atN ns p,x∈ns:=by
 intro x hx
 obtain ⟨j,hj,rfl⟩:=List.mem_map.1 hx
 rw [getD_at (hp j hj)]
 exact List.getElem_mem _
theorem zLh {ns:List ByteArray} (hs:ns.Pairwise ltS) {p:List Nat} (hp:∀j∈p,j<ns.length) (hl:p.Pairwise (· < ·)):(atN ns p).Pairwise ltS:=by
 refine List.pairwise_map.2 (List.Pairwise.imp_of_mem (fun {x y} hx hy h=>?_) hl)
 rw [getD_at (hp x hx),getD_at (hp y hy)]
 exact List.pairwise_iff_getElem.1 hs x y (hp x hx) (hp y hy) h
theorem and1:∀m:Fin 64,zNp .i64 (m.1:Int) 1=((m.1%2:Nat):Int):=by decide+kernel
theorem zP9:∀(m:Fin 64) (k:Fin 7),zNM .i64 (m.1:Int) (k.1:Int)=some ((m.1 / 2^k.1:Nat):Int):=by decide+kernel
theorem zPC:∀n:Fin 7,zNO .i64 1 (n.1:Int)=some ((2^n.1:Nat):Int):=by decide+kernel
theorem zO9 {m k:Nat} (hm:m<64) (hk:k<7):∃x,zNM .i64 (m:Int) (k:Int)=some x∧((zNp .i64 x 1)==1)=(m / 2^k%2==1):=by
 refine ⟨_,zP9 ⟨m,hm⟩ ⟨k,hk⟩,?_⟩
 have h64:m / 2^k<64:=Nat.lt_of_le_of_lt (Nat.div_le_self _ _) hm
 rw [and1 ⟨m / 2^k,h64⟩]
 rw [Bool.eq_iff_iff,beq_iff_eq,beq_iff_eq]
 simp only
 omega
theorem zKJ {c:List Pack} {a b:List Int} {ns:List ByteArray} (hn:ns.length≤6) {m:Nat} (hm:m<64) (out:List (List ByteArray)):kJ c a b ns (out,(m:Int)) (([]:List ByteArray),0)=some (atN ns (zK3 ns.length m)):=by
 obtain ⟨t,e,rfl⟩:=jV (b:=zAl c a b ns (out,(m:Int))) (fun i s=>s=(atN ns ((List.range i).filter fun j=>m / 2^j%2==1),(i:Int))) ns.length (fun t=>t=atN ns (zK3 ns.length m)) (by
  rintro i s hi rfl
  refine .inl ⟨_,?_,rfl⟩
  obtain ⟨x,h1,h2⟩:=zO9 hm (k:=i) (by omega)
  have hlen:(atN ns ((List.range i).filter fun j=>m / 2^j%2==1)).length ≤i:=by
   rw [zF6]
   have:=List.length_filter_le (fun j=>m / 2^j%2==1) (List.range i)
   simpa using this
  unfold zAl
  simp only
  rw [if_pos (by simp; omega),zI hi]
  simp only [Option.bind_some]
  rw [h1]
  simp only [Option.bind_some]
  rw [h2,zM (by omega),jS (by simp at hlen ⊢; omega) (by simp at hlen ⊢; omega)]
  simp only [Option.bind_some]
  rw [List.range_succ,List.filter_append,List.filter_cons,List.filter_nil]
  cases (m / 2^i%2==1)
  ·simp
  ·simp [atN,hi]) (by
  rintro s rfl
  unfold zAl
  rw [if_neg (by simp)]
  exact ⟨_,rfl,rfl⟩) ns.length 0 (([]:List ByteArray),0) (by omega) (by simp [atN])
 unfold kJ
 exact e
noncomputable def zJi (c:List Pack) (a b:List Int) (p:List ByteArray):Bool:=((zDZ c (mvL c a b p)).length :Int)==0
def SLn (ns:List ByteArray):List (List ByteArray):=(SLi ns.length).map (atN ns)
noncomputable def nxB (c:List Pack) (a b:List Int) (ns:List ByteArray):List ByteArray:=if ns.length>6 then ns else ((SLn ns).find? (zJi c a b)).getD ns
theorem zIu {c:List Pack} {a b:List Int} (hC:Cat c) (h0:CF c=0) (h:Two c a b) {p:List ByteArray} (hp:p.length≤24):
  zCj c a b p=some (mvL c a b p)∧vY p c a b=some (zJi c a b p):=by
 have hc:=h.sml.len
 have la:=h.la
 have lb:=h.lb
 have hm:=zG0 c a b p
 have e:=zK9 h.pa h.pb h.sa h.sb (by omega) (by omega) (show p.length≤1048576 by omega)
 refine ⟨e,?_⟩
 have hS:(SF c (mvL c a b p)==0)=true:=by
  unfold SF
  rw [h0,zGe.2 ⟨zFM _ _ _ _,zG5 _ _ _ _⟩]
  rfl
 unfold vY
 rw [if_pos (by simp; omega),e]
 simp only [Option.bind_some]
 rw [zE2 hC (by omega) hS]
 unfold zOR zJi
 rw [hS]
 rfl
theorem zKF {c:List Pack} {a b:List Int} {ns:List ByteArray} (hn:ns.length≤6):kI c a b ns (([]:List (List ByteArray)),1)=some ((ILi ns.length).map (atN ns)):=by
 have h64:2^ns.length≤64:=Nat.pow_le_pow_right (by omega) hn
 have h1:1≤2^ns.length:=Nat.one_le_two_pow
 have hw:(zNO .i64 1 (ns.length:Int))=some ((2^ns.length:Nat):Int):=zPC ⟨ns.length,by omega⟩
 have hw2:w64 (((2^ns.length:Nat):Int)-1)=((2^ns.length-1:Nat):Int):=by
  rw [zCr (by omega) (by omega)]; omega
 obtain ⟨t,e,rfl⟩:=jV (b:=zAp c a b ns) (fun i x=>x=(((List.range i).map fun i=>zK3 ns.length (i+1)).map (atN ns),((i+1:Nat):Int))) (2^ns.length-2)
  (fun t=>t=(ILi ns.length).map (atN ns)) (by
  rintro i x hi rfl
  refine .inl ⟨_,?_,rfl⟩
  unfold zAp
  rw [hw]
  simp only [Option.bind_some]
  rw [hw2,if_pos (by simp; omega),zKJ hn (by omega)]
  simp only [Option.bind_some]
  rw [jS (by simp; omega) (by simp; omega),zM (by omega)]
  simp only [Option.bind_some]
  rw [List.range_succ,List.map_append,List.map_append]
  rfl) (by
  rintro x rfl
  unfold zAp
  rw [hw]
  simp only [Option.bind_some]
  rw [hw2,if_neg (by simp; omega)]
  exact ⟨_,rfl,rfl⟩) (2^ns.length-2) 0 (([]:List (List ByteArray)),1) (by omega) (by simp)
 unfold kI
 exact e
theorem zJ4 {ns:List ByteArray} (hn:ns.length≤6) (hs:ns.Pairwise ltS) {p:List ByteArray} (hp:p∈SLn ns):p≠[]∧p.Pairwise ltS∧(∀x∈p,x∈ns)∧p.length≤1048576:=by
 obtain ⟨q,hq,rfl⟩:=List.mem_map.1 hp
 obtain ⟨h1,h2,h3⟩:=zNc ⟨ns.length,by omega⟩ q hq
 have hsort:=zLh hs h3 h1
 refine ⟨fun e=>?_,hsort,zL7 h3,?_⟩
 ·have:=zF6 ns q
  rw [e] at this
  exact h2 (List.length_eq_zero_iff.1 this.symm)
 ·have:=zGS hsort hs (zL7 h3)
  omega
theorem zIK {ns:List ByteArray} (hn:ns.length≤6) (hs:ns.Pairwise ltS):zJa wK ((ILi ns.length).map (atN ns))=some (SLn ns):=by
 have hperm:(SLi ns.length).Perm (ILi ns.length):=List.isPerm_iff.1 (zK5 ⟨ns.length,by omega⟩)
 have hlt:=zNc ⟨ns.length,by omega⟩
 have hp:(SLn ns).Perm ((ILi ns.length).map (atN ns)):=hperm.map _
 refine zLI (fun x hx=>(zJ4 hn hs (hp.mem_iff.2 hx)).2.2.2) hp ?_ ?_
 ·refine List.pairwise_map.2 (List.Pairwise.imp_of_mem (fun {x y} hx hy h=>?_) (zKA ⟨ns.length,by omega⟩))
  rw [zLE hs (hlt x hx).2.2 (hlt y hy).2.2]
  exact h
 ·unfold ILi
  have h64:2^ns.length≤64:=Nat.pow_le_pow_right (by omega) hn
  simp
  omega
theorem zJd {α:Type} (q:α→Bool):∀(xs:List α) (i:Nat),(vE (fun j x=>if q x then some (j:Int) else none) i xs=none∧xs.find? q=none)∨∃(k:Nat) (h:k<xs.length),vE (fun j x=>if q x then some (j:Int) else none) i xs=some ((i+k:Nat):Int)∧xs.find? q=some xs[k]
 |[],i=>.inl ⟨rfl,rfl⟩
 |x::xs,i=>by
  simp only [vE,List.find?_cons]
  cases hq:q x
  ·simp only [Bool.false_eq_true,if_false]
   rcases zJd q xs (i+1) with ⟨h1,h2⟩|⟨k,hk,h1,h2⟩
   ·exact .inl ⟨h1,h2⟩
   ·refine .inr ⟨k+1,by simp only [List.length_cons]; omega,?_,by simpa using h2⟩
    rw [h1,show i+1+k=i+(k+1) by omega]
  ·exact .inr ⟨0,by simp,by simp,by simp⟩
theorem zLN {c:List Pack} {a b:List Int} (hC:Cat c) (h0:CF c=0) (h:Two c a b) {ns:List ByteArray} (hn:ns.length≤24) (hs:ns.Pairwise ltS):zAq c a b ns=some (if zJi c a b ns then (nxB c a b ns,true) else (([]:List ByteArray),false)):=by
 unfold zAq nxB
 rw [(zIu hC h0 h hn).2]
 simp only [Option.bind_some]
 cases hf:zJi c a b ns
 ·simp
 simp only [Bool.not_true,Bool.false_eq_true,if_false,if_true]
 have hcl:wY ns=some ns:=by
  unfold wY
  rw [jS (by simp; omega) (by simp; omega)]
  rfl
 rw [hcl]
 by_cases h6:ns.length>6
 ·rw [if_pos (by simp; omega),if_pos h6]
  rfl
 rw [if_neg (by simp; omega),if_neg h6]
 have hn6:ns.length≤6:=by omega
 rw [zKF hn6]
 simp only [Option.bind_some]
 have hsm:=zIK hn6 hs
 unfold wP
 rw [hsm]
 simp only [Option.bind_some]
 have hlen:(SLn ns).length =((ILi ns.length).map (atN ns)).length :=by
  have hperm:(SLi ns.length).Perm (ILi ns.length):=List.isPerm_iff.1 (zK5 ⟨ns.length,by omega⟩)
  unfold SLn
  rw [List.length_map,List.length_map,hperm.length_eq]
 have hsmall:(SLn ns).length ≤64:=by
  rw [hlen]
  unfold ILi
  have h64:2^ns.length≤64:=Nat.pow_le_pow_right (by omega) hn6
  simp
  omega
 rw [zJQ hlen]
 simp only [Option.bind_some]
 have key:=wQ (SLn ns) (fun j x=>if zJi c a b x then some (j:Int) else none) (b:=yZ (SLn ns) c a b) (by
  intro i hi
  have hp:=(zJ4 hn6 hs (List.getElem_mem hi))
  have hp24:=zGS hp.2.1 hs hp.2.2.1
  unfold yZ
  rw [if_pos (by simp; omega),zI hi]
  simp only [Option.bind_some]
  rw [(zIu hC h0 h (by omega)).2,zM (by omega)]
  simp only [Option.bind_some]
  cases zJi c a b (SLn ns)[i]<;>rfl) (by
  unfold yZ
  rw [if_neg (by simp)])
 unfold yO xE
 rw [key,zB2]
 rcases zJd (zJi c a b) (SLn ns) 0 with ⟨q1,q2⟩|⟨k,hk,q1,q2⟩
 ·rw [q1,q2]
  rfl
 ·rw [q1,q2]
  simp only [Option.bind_some]
  rw [if_pos (by simp),Nat.zero_add,zI hk]
  rfl
theorem zKf {c:List Pack} {a b:List Int} {ns:List ByteArray} (hs:ns.Pairwise ltS) (hne:ns≠[]):nxB c a b ns≠[]∧(nxB c a b ns).Pairwise ltS∧(∀x∈nxB c a b ns,x∈ns)∧(zJi c a b ns=true→zJi c a b (nxB c a b ns)=true):=by
 unfold nxB
 split
 ·exact ⟨hne,hs,fun x hx=>hx,fun h=>h⟩
 ·rename_i h6
  cases hf:(SLn ns).find? (zJi c a b) with
  |none=>exact ⟨hne,hs,fun x hx=>hx,fun h=>h⟩
  |some p=>
   obtain ⟨h1,h2,h3,_⟩:=zJ4 (by omega) hs (List.mem_of_find?_eq_some hf)
   exact ⟨h1,h2,h3,fun _=>List.find?_some hf⟩
noncomputable def wN (c:List Pack) (b:List Int):Nat→List Int→List ByteArray→List (List ByteArray)×List (List Int)×List Int
 |0,a,_=>([],[],a)
 |n+1,a,l=>if l=[] then ([],[],a) else
  (nxB c a b l::(wN c b n (mvL c a b (nxB c a b l)) (l.filter fun y=> !(inN (nxB c a b l) y))).1,
   mvL c a b (nxB c a b l)::(wN c b n (mvL c a b (nxB c a b l)) (l.filter fun y=> !(inN (nxB c a b l) y))).2.1,
   (wN c b n (mvL c a b (nxB c a b l)) (l.filter fun y=> !(inN (nxB c a b l) y))).2.2)
theorem Two.move {c:List Pack} {a b:List Int} (h:Two c a b) (p:List ByteArray):Two c (mvL c a b p) b:=by
 have:=zG0 c a b p
 have:=h.sml.len
 exact ⟨h.sml,zG5 _ _ _ _,h.pb,zFM _ _ _ _,h.sb,by omega,h.lb⟩
theorem zLC {l B:List ByteArray} (h1:B≠[]) (h2:∀x∈B,x∈l):(l.filter fun y=> !(inN B y)).length <l.length:=by
 rcases Nat.lt_or_ge (l.filter fun y=> !(inN B y)).length l.length with q|q
 ·exact q
 ·exfalso
  have e:=(List.filter_sublist (l:=l) (p:=fun y=> !(inN B y))).eq_of_length (Nat.le_antisymm (List.length_filter_le _ _) q)
  obtain ⟨x,hx⟩:=List.exists_mem_of_ne_nil B h1
  have:x∈l.filter fun y=> !(inN B y):=by rw [e]; exact h2 x hx
  have:=(List.mem_filter.1 this).2
  rw [zDK.2 hx] at this
  cases this
theorem zIN {c:List Pack} {a b:List Int} (pa:Places c a) (pb:Places c b) {n1 n2:List ByteArray} (h:∀x,x∈n1↔x∈n2):mvL c a b n1=mvL c a b n2:=by
 refine zEX (zFM _ _ _ _) (zFM _ _ _ _) fun k=>?_
 rw [zFg pa pb,zFg pa pb,h]
theorem zJU {l B:List ByteArray} (h2:∀x∈B,x∈l) (x:ByteArray):x∈B++(l.filter fun y=> !(inN B y))↔x∈l:=by
 rw [List.mem_append,List.mem_filter]
 constructor
 ·rintro (q|q)
  ·exact h2 x q
  ·exact q.1
 ·intro q
  by_cases hx:x∈B
  ·exact .inl hx
  ·refine .inr ⟨q,?_⟩
   cases hi:inN B x with
   |false=>rfl
   |true=>exact absurd (zDK.1 hi) hx
theorem zO8 {c:List Pack} {b:List Int}:∀(n:Nat) (a:List Int) (l:List ByteArray),Two c a b→l.Pairwise ltS→l.length≤n→(wN c b n a l).2.2=mvL c a b l∧(wN c b n a l).1.length ≤l.length∧(wN c b n a l).2.1.length ≤l.length
 |0,a,l,h,hs,hn=>by
  have:l=[]:=List.length_eq_zero_iff.1 (by omega)
  subst this
  exact ⟨(zJO h.pa h.pb h.sa).symm,by simp [wN],by simp [wN]⟩
 |n+1,a,l,h,hs,hn=>by
  unfold wN
  by_cases he:l=[]
  ·subst he
   rw [if_pos rfl]
   exact ⟨(zJO h.pa h.pb h.sa).symm,by simp,by simp⟩
  ·rw [if_neg he]
   obtain ⟨g1,g2,g3,_⟩:=zKf (c:=c) (a:=a) (b:=b) hs he
   have hlt:=zLC g1 g3
   obtain ⟨i1,i2,i3⟩:=zO8 (c:=c) (b:=b) n _ _ (h.move (nxB c a b l)) (hs.filter (fun y=> !(inN (nxB c a b l) y))) (by omega)
   refine ⟨?_,by simp only [List.length_cons]; omega,by simp only [List.length_cons]; omega⟩
   simp only
   rw [i1,zIn h.pa h.pb]
   exact zIN h.pa h.pb (zJU g3)
theorem zM0 {l B:List ByteArray} (hl:l.length≤24) (hB:B.length≤24):xM l B=some (l.filter fun y=> !(inN B y)):=by
 have h1:∀x,zBA x B=some (inN B x):=fun x=>by
  unfold zBA
  rw [zDd _ _ (by omega)]
  rfl
 exact zJ2 (fun x=>inN B x) l ByteArray.empty (by omega) (b1:=wD l B) (b2:=xY B) (by
  intro i hi
  unfold wD
  rw [if_pos (by simp; omega),zI hi]
  simp only [Option.bind_some,h1]
  rw [zM (by omega)]
  split<;>rfl) (by
  unfold wD
  rw [if_neg (by simp)]) (by
  intro xs i j hj hij hl hm
  unfold xY
  simp only
  rw [if_pos (by simp; omega),zI hj]
  simp only [Option.bind_some,h1]
  rw [zI (show i<xs.length by omega),zM (show j<_ by omega),zM (show i<_ by omega)]
  cases inN B xs[j]<;>simp) (by
  intro xs i hl
  unfold xY
  rw [if_neg (by simp)])
theorem zH9 {c:List Pack} {b:List Int} (hC:Cat c) (h0:CF c=0) {x7:List (List ByteArray)} {s1:List (List ByteArray)×List (List Int)×List Int×List (Option (List ByteArray))×Int}:∀(n:Nat) (a:List Int) (l:List ByteArray) (bs:List (List ByteArray)) (ss:List (List Int)),Two c a b→l.Pairwise ltS→l.length≤n→l.length≤24→bs.length+l.length≤1000→ss.length+l.length≤1000→zJi c a b l=true→
  zC2 c b x7 s1 (bs,ss,a,l)=some (.nxt (bs++(wN c b n a l).1,ss++(wN c b n a l).2.1,(wN c b n a l).2.2))
 |n,a,l,bs,ss,h,hs,hn,h24,hb,hss,hfit=>by
  unfold zC2
  rw [tX]
  by_cases he:l=[]
  ·subst he
   have e:zDg c b x7 s1 (bs,ss,a,([]:List ByteArray))=some (.done (.nxt (bs,ss,a))):=by
    unfold zDg
    rw [if_neg (by simp)]
   rw [e]
   cases n<;>simp [wN,Lp.elim]
  ·cases n with
   |zero=>exact absurd (List.length_eq_zero_iff.1 (by omega)) he
   |succ n=>
    obtain ⟨g1,g2,g3,_⟩:=zKf (c:=c) (a:=a) (b:=b) hs he
    have hlt:=zLC g1 g3
    have hBl:=zGS g2 hs g3
    have hpos:0<l.length:=List.length_pos_iff.2 he
    have hml:=zG0 c a b (nxB c a b l)
    have hc24:=h.sml.len
    have e:zDg c b x7 s1 (bs,ss,a,l)=some (.go (bs++[nxB c a b l],ss++[mvL c a b (nxB c a b l)],mvL c a b (nxB c a b l),l.filter fun y=> !(inN (nxB c a b l) y))):=by
     unfold zDg
     simp only
     rw [if_pos (by simp; omega),zLN hC h0 h h24 hs,hfit]
     simp only [Option.bind_some,if_true,Bool.not_true,Bool.false_eq_true,if_false]
     rw [(zIu hC h0 h (by omega)).1,zM0 h24 (by omega)]
     simp only [Option.bind_some]
     rw [jS (by simp; omega) (by simp; omega),show wF (mvL c a b (nxB c a b l))=some (mvL c a b (nxB c a b l)) by
      unfold wF
      rw [jS (by simp; omega) (by simp; omega)]
      rfl]
     simp only [Option.bind_some]
     rw [jS (by simp; omega) (by simp; omega)]
     rfl
    have hfit':zJi c (mvL c a b (nxB c a b l)) b (l.filter fun y=> !(inN (nxB c a b l) y))=true:=by
     rw [←hfit]
     unfold zJi
     rw [zIn h.pa h.pb,zIN h.pa h.pb (zJU g3)]
    have ih:=zH9 hC h0 (x7:=x7) (s1:=s1) n (mvL c a b (nxB c a b l)) (l.filter fun y=> !(inN (nxB c a b l) y)) (bs++[nxB c a b l]) (ss++[mvL c a b (nxB c a b l)]) (h.move _) (hs.filter _) (by omega) (by omega) (by simp only [List.length_append,List.length_singleton]; omega) (by simp only [List.length_append,List.length_singleton]; omega) hfit'
    unfold zC2 at ih
    rw [e]
    simp only [Option.bind_some,Lp.elim]
    rw [ih]
    conv=>rhs; unfold wN
    rw [if_neg he]
    simp
 termination_by n=>n
theorem zI5 (K:ByteArray→ByteArray→Bool):∀(n:Nat) (L:List ByteArray),(zDx K n L).length ≤n∧∀P∈zDx K n L,P.length≤L.length
 |0,L=>by simp [zDx]
 |n+1,L=>by
  unfold zDx
  split
  ·simp
  ·obtain ⟨h1,h2⟩:=zI5 K n (zFe K L)
   refine ⟨by simp; omega,fun P hP=>?_⟩
   rcases List.mem_cons.1 hP with rfl|hP
   ·exact List.length_filter_le _ _
   ·exact Nat.le_trans (h2 P hP) (List.length_filter_le _ _)
theorem zGB {K:ByteArray→ByteArray→Bool}:∀(n:Nat) {L:List ByteArray},L.Pairwise ltS→∀P∈zDx K n L,P.Pairwise ltS
 |0,L,_=>by simp [zDx]
 |n+1,L,h=>by
  unfold zDx
  split
  ·simp
  ·intro P hP
   rcases List.mem_cons.1 hP with rfl|hP
   ·exact zG8 h
   ·exact zGB n (zEF h) P hP
theorem zHq {K:ByteArray→ByteArray→Bool}:∀(n p:Nat) {L:List ByteArray},∀x∈((zDx K n L).take p).flatten,∀y∈L,y∉((zDx K n L).take p).flatten →K x y=false
 |0,p,L,x,hx,_,_,_=>by simp [zDx] at hx
 |n+1,0,L,x,hx,_,_,_=>by simp at hx
 |n+1,p+1,L,x,hx,y,hy,hn=>by
  unfold zDx at hx hn
  split at hx
  ·simp at hx
  ·rename_i he
   rw [if_neg he] at hn
   cases L with
   |nil=>exact absurd rfl he
   |cons h t=>
    simp only [List.take_succ_cons,List.flatten_cons,List.mem_append,not_or] at hx hn
    have hyr:y∈zFe K (h::t):=(zGp rfl).2 ⟨hy,fun q=>hn.1 ((zFw rfl).2 q)⟩
    rcases hx with hx|hx
    ·cases hk:K x y with
     |false=>rfl
     |true=>exact absurd (.step ((zFw rfl).1 hx) hy hk) ((zGp rfl).1 hyr).2
    ·exact zHq n p x hx y hyr hn.2
noncomputable def stp (c:List Pack) (b:List Int) (ps:List (List ByteArray)) (a:List Int):List (List ByteArray)×List (List Int)×List Int:=
 ps.foldl (fun s P=>(s.1++(wN c b P.length s.2.2 P).1,s.2.1++(wN c b P.length s.2.2 P).2.1,(wN c b P.length s.2.2 P).2.2)) ([],[],a)
theorem zK0 (c:List Pack) (b:List Int) (ps:List (List ByteArray)) (P:List ByteArray) (a:List Int):
  stp c b (ps++[P]) a=((stp c b ps a).1++(wN c b P.length (stp c b ps a).2.2 P).1,(stp c b ps a).2.1++(wN c b P.length (stp c b ps a).2.2 P).2.1,(wN c b P.length (stp c b ps a).2.2 P).2.2):=by
 unfold stp
 rw [List.foldl_append]
 rfl
theorem zNa {c:List Pack} {a b:List Int} (h:Two c a b) {ps:List (List ByteArray)} (hs:∀P∈ps,P.Pairwise ltS) (hl:∀P∈ps,P.length≤24):∀i,i≤ps.length→(stp c b (ps.take i) a).2.2=mvL c a b (ps.take i).flatten ∧(stp c b (ps.take i) a).1.length ≤24*i∧(stp c b (ps.take i) a).2.1.length ≤24*i
 |0,_=>⟨by simp only [List.take_zero,List.flatten_nil]; exact (zJO h.pa h.pb h.sa).symm,by simp [stp],by simp [stp]⟩
 |i+1,hi=>by
  obtain ⟨h1,h2,h3⟩:=zNa h hs hl i (by omega)
  have hP:=List.getElem_mem (show i<ps.length by omega)
  have h24:=hl _ hP
  rw [List.take_succ_eq_append_getElem (by omega),zK0,h1]
  obtain ⟨w1,w2,w3⟩:=zO8 (c:=c) (b:=b) ps[i].length (mvL c a b (ps.take i).flatten) ps[i] (h.move _) (hs _ hP) (Nat.le_refl _)
  refine ⟨?_,by simp only [List.length_append]; omega,by simp only [List.length_append]; omega⟩
  simp only
  rw [w1,zIn h.pa h.pb]
  congr 1
  rw [List.flatten_append]
  simp only [List.flatten_cons,List.flatten_nil,List.append_nil]
theorem zNy {c:List Pack} {a b:List Int} (h:Two c a b) (ga:GoodS c a) (gb:GoodS c b) {n:ByteArray}:n∈chL c a b↔Chg c a b n:=by
 rw [(zIo h).2.2.2.1,zND h ga gb]
theorem zNu {c:List Pack} {a b:List Int} (h:Two c a b) (ga:GoodS c a) (gb:GoodS c b) (p:Nat):GoodS c (mvL c a b ((zGv c a b).take p).flatten):=by
 refine apart (U:=fun n=>n∈((zGv c a b).take p).flatten) ga gb (fun k=>zFg h.pa h.pb) ((zFM _ _ _ _).imp fun h=>by omega) ?_
 intro x y _ hy hx hny hj
 have:=zHq (K:=jB c a b) 24 p x hx y ((zNy h ga gb).2 hy) hny
 rw [(zOb h ga gb).2 hj] at this
 cases this
theorem zMb {c:List Pack} {a b:List Int} (h:Two c a b):(zGv c a b).length ≤24∧(∀P∈zGv c a b,P.length≤24)∧∀P∈zGv c a b,P.Pairwise ltS:=by
 obtain ⟨_,_,h1,_,h2⟩:=zIo h
 obtain ⟨q1,q2⟩:=zI5 (jB c a b) 24 (chL c a b)
 exact ⟨q1,fun P hP=>Nat.le_trans (q2 P hP) h2,zGB 24 h1⟩
noncomputable def zMI (c:List Pack) (a b:List Int):List (List ByteArray)×List (List Int):=((stp c b (zGv c a b) a).1,(stp c b (zGv c a b) a).2.1)
theorem zLW {α:Type} {o:List (Option α)} {i:Nat} {x:α} (h:o[i]? =some (some x)):zOE o (i:Int)=some x:=by
 unfold zOE idx
 rw [if_pos (by omega),Int.toNat_natCast,h]
 rfl
theorem zLy {c:List Pack} {a b:List Int} (hC:Cat c) (h0:CF c=0) (h:Two c a b) (ga:GoodS c a) (gb:GoodS c b):
  zDH c b (zGv c a b) (([]:List (List ByteArray)),([]:List (List Int)),a,(zGv c a b).map some,0)=some (.nxt (zMI c a b)):=by
 obtain ⟨s1,s2,s3⟩:=zMb h
 obtain ⟨t,e,rfl⟩:=jV (b:=zDL c b (zGv c a b)) (fun i s=>s.1=(stp c b ((zGv c a b).take i) a).1∧s.2.1=(stp c b ((zGv c a b).take i) a).2.1∧s.2.2.1=(stp c b ((zGv c a b).take i) a).2.2∧s.2.2.2.2=(i:Int)∧∀(j:Nat) (hj:j< (zGv c a b).length),i≤j→s.2.2.2.1[j]? =some (some (zGv c a b)[j])) (zGv c a b).length (fun t=>t= .nxt (zMI c a b)) (by
  rintro i ⟨bs,ss,at_,o,k⟩ hi ⟨e1,e2,e3,e4,e5⟩
  simp only at e1 e2 e3 e4 e5
  subst e1 e2 e3 e4
  obtain ⟨q1,q2,q3⟩:=zNa h s3 s2 i (by omega)
  have hP:=List.getElem_mem hi
  have h24:=s2 _ hP
  have hfit:zJi c (stp c b ((zGv c a b).take i) a).2.2 b (zGv c a b)[i]=true:=by
   have hg:=zNu h ga gb (i+1)
   rw [q1]
   unfold zJi
   rw [zIn h.pa h.pb]
   have:((zGv c a b).take i).flatten ++(zGv c a b)[i]=((zGv c a b).take (i+1)).flatten :=by
    rw [List.take_succ_eq_append_getElem hi,List.flatten_append]
    simp only [List.flatten_cons,List.flatten_nil,List.append_nil]
   rw [this,(zFQ _ _).2 hg]
   rfl
  let S:=stp c b ((zGv c a b).take i) a
  let W:=wN c b (zGv c a b)[i].length S.2.2 (zGv c a b)[i]
  refine .inl ⟨(S.1++W.1,S.2.1++W.2.1,W.2.2,o.set (i:Int).toNat none,((i+1:Nat):Int)),?_,?_⟩
  ·unfold zDL
   simp only
   rw [if_pos (by simp; omega),zLW (e5 i hi (Nat.le_refl _))]
   simp only [Option.bind_some]
   rw [zH9 hC h0 _ _ _ _ _ (by rw [q1]; exact h.move _) (s3 _ hP) (Nat.le_refl _) h24 (by omega) (by omega) hfit,zM (by omega)]
   rfl
  ·rw [List.take_succ_eq_append_getElem hi,zK0]
   refine ⟨rfl,rfl,rfl,rfl,fun j hj hij=>?_⟩
   simp only
   rw [List.getElem?_set_ne (by simp; omega)]
   exact e5 j hj (by omega)) (by
  rintro ⟨bs,ss,at_,o,k⟩ ⟨e1,e2,e3,e4,e5⟩
  simp only at e1 e2 e3 e4 e5
  subst e1 e2 e3 e4
  rw [List.take_length]
  unfold zDL
  rw [if_neg (by simp)]
  exact ⟨_,rfl,rfl⟩) (zGv c a b).length 0 (([]:List (List ByteArray)),([]:List (List Int)),a,(zGv c a b).map some,0) (by omega) ⟨by simp [stp],by simp [stp],by simp [stp],rfl,fun j hj _=>by simp [hj]⟩
 unfold zDH
 exact e
def zMx (c:List Pack) (a b:List Int):Int:=if SF c a !=0 then SF c a else if SF c b !=0 then SF c b else if ((zDZ c a).length :Int)==0&&((zDZ c b).length :Int)==0 then 0 else 1
theorem zJY {c:List Pack} {a b:List Int} (hC:Cat c) (ha:a.length≤1048576) (hb:b.length≤1048576):zA8 c a b=some (zMx c a b)∧zBE c a b=some (zMx c a b):=by
 unfold zA8 zBE zMx
 rw [zGr hC ha,zGr hC hb,zGu hC ha,zGu hC hb]
 simp only [Option.bind_some]
 rw [zKT]
 simp only [Option.bind_some]
 by_cases h1:SF c a=0
 ·by_cases h2:SF c b=0
  ·have ea:(SF c a==0)=true:=by simp [h1]
   have eb:(SF c b==0)=true:=by simp [h2]
   rw [zGX hC (zHl ea) ha,zGX hC (zHl eb) hb,zE2 hC ha ea,zE2 hC hb eb]
   unfold zOR
   rw [ea,eb,h1,h2]
   simp only [Option.bind_some]
   cases ((zDZ c a).length :Int)==0<;>cases ((zDZ c b).length :Int)==0<;>simp
  ·simp [h1,h2]
 ·simp [h1]
theorem zKm {c:List Pack} {a b:List Int} (hC:Cat c) (h:zMx c a b=0):CF c=0∧Two c a b∧GoodS c a∧GoodS c b:=by
 unfold zMx at h
 split at h
 ·rename_i q; simp [h] at q
 rename_i h1
 split at h
 ·rename_i q; simp [h] at q
 rename_i h2
 split at h
 ·rename_i h3
  have e1:SF c a=0:=by simpa using h1
  have e2:SF c b=0:=by simpa using h2
  simp only [Bool.and_eq_true,beq_iff_eq] at h3
  have key:∀s,SF c s=0→CF c=0∧zMk c s=true:=by
   intro s hs
   unfold SF at hs
   split at hs
   ·rename_i q; rw [hs] at q; cases q
   ·rename_i q
    refine ⟨by simpa using q,?_⟩
    split at hs
    ·assumption
    ·cases hs
  obtain ⟨k1,k2⟩:=key a e1
  obtain ⟨_,k3⟩:=key b e2
  have hs:=Sml.of k1
  obtain ⟨a1,a2⟩:=zGe.1 k2
  obtain ⟨b1,b2⟩:=zGe.1 k3
  have la:=zKc k2
  have lb:=zKc k3
  have:=hs.len
  refine ⟨k1,⟨hs,a2,b2,a1,b1,by omega,by omega⟩,(zFQ _ _).1 (List.length_eq_zero_iff.1 (by omega)),(zFQ _ _).1 (List.length_eq_zero_iff.1 (by omega))⟩
 ·cases h
theorem zMg {c:List Pack} {a b:List Int} (hC:Cat c) (ha:a.length≤1048576) (hb:b.length≤1048576):
  zDS c a b=some (if zMx c a b=0 then ((zMI c a b).1,(zMI c a b).2,0) else (([]:List (List ByteArray)),([]:List (List Int)),zMx c a b)):=by
 unfold zDS
 rw [(zJY hC ha hb).2]
 simp only [Option.bind_some]
 by_cases h:zMx c a b=0
 ·obtain ⟨h0,hT,ga,gb⟩:=zKm hC h
  rw [if_neg (by simp [h]),if_pos h,(zGx hT).2]
  simp only [Option.bind_some]
  rw [zLy hC h0 hT ga gb]
  rfl
 ·rw [if_pos (by simpa using h),if_neg h]
theorem zH5 {c:List Pack} {a b:List Int} (hC:Cat c) (ha:a.length≤1048576) (hb:b.length≤1048576):∃r,jD c a b=some r∧jA c a b=some r:=by
 unfold jD jA
 rw [(zJY hC ha hb).1,zMg hC ha hb]
 simp only [Option.bind_some]
 by_cases h:zMx c a b=0
 ·obtain ⟨h0,hT,ga,gb⟩:=zKm hC h
  rw [if_neg (by simp [h]),if_pos h,(zGx hT).1,(zGx hT).2]
  exact ⟨_,rfl,rfl⟩
 ·rw [if_pos (by simpa using h),if_neg h]
  simp only
  rw [if_pos (by simpa using h)]
  exact ⟨_,rfl,rfl⟩
theorem zHm (a1:(List Pack)) (a2:(List Int)) (a3:(List Int)) (k0:a1.length≤maxLen∧∀y1∈a1,Pack.ok y1) (k1:a2.length≤maxLen∧∀y1∈a2,IntKind.i64.min≤y1∧y1≤IntKind.i64.max) (k2:a3.length≤maxLen∧∀y1∈a3,IntKind.i64.min≤y1∧y1≤IntKind.i64.max) (s0:(a1.length≤1048576∧∀y0∈a1,Pack.sm 1048576 y0)) (s1:(a2.length≤1048576∧∀y0∈a2,True)) (s2:(a3.length≤1048576∧∀y0∈a3,True)):∃r,jD a1 a2 a3=some r∧jA a1 a2 a3=some r∧(wM.sm 1049600 r):=by
 have hz:∀q v:Int,wM.sm 1049600 {Code:=q,Value:=v}:=fun q v=>by simp [wM.sm]
 obtain ⟨r,e1,e2⟩:=zH5 s0 s1.1 s2.1
 exact ⟨r,e1,e2,hz _ _⟩
theorem zFq (a1:(List Pack)) (a2:(List Int)) (a3:(List Int)) (k0:a1.length≤maxLen∧∀y1∈a1,Pack.ok y1) (k1:a2.length≤maxLen∧∀y1∈a2,IntKind.i64.min≤y1∧y1≤IntKind.i64.max) (k2:a3.length≤maxLen∧∀y1∈a3,IntKind.i64.min≤y1∧y1≤IntKind.i64.max):vS a1 a2 a3=some true:=zFi a1 a2 a3 k0 k1 k2 (zHm a1 a2 a3 k0 k1 k2)
end Go.Told

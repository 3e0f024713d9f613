import Derived.Test.YtlagdfkkokgakaaGreatDoorToldBatchCost
set_option linter.unusedVariables false
set_option maxRecDepth 4000
namespace Go.Told
open Go Go.Im
theorem zD9 {S T:Type} {b b':S→Option (Lp S T)} (h:∀s,b s=b' s):loop b=loop b':=by
 have:b=b':=funext h
 rw [this]
theorem xE {x:Int} (h1: -9223372036854775808≤x) (h2:x≤9223372036854775807):w64 x=x:=by
 unfold w64
 rw [IntKind.wrap_i64]
 omega
theorem zV {i:Nat} (h:i<9223372036854775807):w64 ((i:Int)+1)=((i+1:Nat):Int):=by
 rw [xE (by omega) (by omega)]; omega
theorem jP {T:Type} {S:Type} {b:S→Option (Lp S T)} (I:Nat→S→Prop) (n:Nat) (Q:T→Prop) (hstep:∀i s,i<n→I i s→(∃s',b s=some (.go s')∧I (i+1) s')∨∃t,b s=some (.done t)∧Q t)
  (hend:∀s,I n s→∃t,b s=some (.done t)∧Q t):∀(k i:Nat) (s:S),i+k=n→I i s→∃t,loop b s=some t∧Q t
 |0,i,s,hk,hI=>by
  obtain ⟨t,h1,h2⟩:=hend s (by rw [show n=i by omega]; exact hI)
  exact ⟨t,by rw [zBN,h1]; rfl,h2⟩
 |k+1,i,s,hk,hI=>by
  rcases hstep i s (by omega) hI with ⟨s',h1,h2⟩|⟨t,h1,h2⟩
  ·obtain ⟨t,h3,h4⟩:=jP I n Q hstep hend k (i+1) s' (by omega) h2
   exact ⟨t,by rw [zBN,h1]; exact h3,h4⟩
  ·exact ⟨t,by rw [zBN,h1]; rfl,h2⟩
theorem zP {α:Type} {xs:List α} {i:Nat} (h:i<xs.length):idx xs (i:Int)=some xs[i]:=by
 unfold idx
 rw [if_pos (by omega)]
 simp [h]
theorem zDr {α:Type} (xs:List α) {b:(List α×Int)→Option (Lp (List α×Int) (List α))} (hstep:∀(ys:List α) (i:Nat) (hi:i<xs.length),ys.length=xs.length→b (ys,(i:Int))=some (.go (ys.set i xs[i],((i+1:Nat):Int))))
  (hend:∀ys:List α,ys.length=xs.length→b (ys,(xs.length:Int))=some (.done ys)) (y0:List α) (h0:y0.length=xs.length):loop b (y0,0)=some xs:=by
 obtain ⟨t,h1,h2⟩:=jP (b:=b) (fun i s=>s.2=(i:Int)∧s.1.length=xs.length∧s.1.take i=xs.take i) xs.length (fun t=>t=xs) (by
  rintro i ⟨ys,j⟩ hi ⟨hj,hl,hp⟩
  simp only at hj hl hp
  subst hj
  refine .inl ⟨_,hstep ys i hi hl,rfl,by simpa using hl,?_⟩
  simp only
  rw [List.take_succ_eq_append_getElem (by simp; omega),List.take_succ_eq_append_getElem hi,←hp,List.take_set_of_le (Nat.le_refl _)]
  simp) (by
  rintro ⟨ys,j⟩ ⟨hj,hl,hp⟩
  simp only at hj hl hp
  subst hj
  refine ⟨ys,hend ys hl,?_⟩
  rw [List.take_of_length_le (by omega),List.take_of_length_le (by omega)] at hp
  exact hp) xs.length 0 (y0,0) (by omega) ⟨rfl,h0,by simp⟩
 rw [h1,h2]
theorem zDi {R:Type} (n:Nat) {b:Int→Option (Lp Int (Fl R Unit))} (hstep:∀i:Nat,i<n→b (i:Int)=some (.go ((i+1:Nat):Int))) (hend:b (n:Int)=some (.done (.nxt ()))):loop b 0=some (.nxt ()):=by
 obtain ⟨t,h1,h2⟩:=jP (b:=b) (fun i s=>s=(i:Int)) n (fun t=>t= .nxt ()) (by
  rintro i s hi rfl
  exact .inl ⟨_,hstep i hi,rfl⟩) (by
  rintro s rfl
  exact ⟨_,hend,rfl⟩) n 0 0 (by omega) rfl
 rw [h1,h2]
theorem zEA {α:Type} (xs:List α) (P:α→Prop) (l:Int) {b:(Int×Int)→Option (Lp (Int×Int) (Fl Int Int))}
  (hstep:∀(q:Int) (i:Nat) (hi:i<xs.length),0≤q→q≤l→(∃q',b (q,(i:Int))=some (.go (q',((i+1:Nat):Int)))∧0≤q'∧q'≤q∧P xs[i])∨∃t,b (q,(i:Int))=some (.done (.ret t))∧t<0)
  (hend:∀q:Int,b (q,(xs.length:Int))=some (.done (.nxt q))) (h0:0≤l):
  ∃t,loop b (l,0)=some t∧match t with| .ret r=>r<0| .nxt r=>0≤r∧r≤l∧∀x∈xs,P x:=by
 refine jP (b:=b) (fun i s=>s.2=(i:Int)∧0≤s.1∧s.1≤l∧∀j,(hj:j<xs.length)→j<i→P xs[j]) xs.length _ (by
  rintro i ⟨q,j⟩ hi ⟨hj,h1,h2,h3⟩
  simp only at hj h1 h2 h3
  subst hj
  rcases hstep q i hi h1 h2 with ⟨q',e,g1,g2,g3⟩|⟨t,e,ht⟩
  ·refine .inl ⟨_,e,rfl,g1,by simp only; omega,fun j hj hji=>?_⟩
   rcases Nat.lt_or_ge j i with h|h
   ·exact h3 j hj h
   ·have:j=i:=by omega
    subst this; exact g3
  ·exact .inr ⟨_,e,ht⟩) (by
  rintro ⟨q,j⟩ ⟨hj,h1,h2,h3⟩
  simp only at hj h1 h2 h3
  subst hj
  refine ⟨_,hend q,h1,h2,fun x hx=>?_⟩
  obtain ⟨j,hj,rfl⟩:=List.getElem_of_mem hx
  exact h3 j hj hj) xs.length 0 (l,0) (by omega) ⟨rfl,h0,Int.le_refl _,fun j _ h=>by omega⟩
def c1 {α:Type} (_:α):Int:=1
theorem zDx {α:Type} {B:Nat} {xs ys:List α} (h:(xs.length+ys.length)*B≤140737488355328) (h2:xs.length+ys.length≤4611686018427387904):app B xs ys=some (xs++ys):=if_pos ⟨h,h2⟩
theorem zGB {S T:Type} {b:S→Option (Lp S T)} (I:S→Prop) (μ:S→Nat) (Q:T→Prop) (step:∀s,I s→(∃s',b s=some (.go s')∧I s'∧μ s'<μ s)∨∃t,b s=some (.done t)∧Q t):∀(n:Nat) (s:S),μ s≤n→I s→∃t,loop b s=some t∧Q t
 |0,s,hn,hI=>by
  rcases step s hI with ⟨s',_,_,h3⟩|⟨t,h1,h2⟩
  ·omega
  ·exact ⟨t,by rw [zBN,h1]; rfl,h2⟩
 |n+1,s,hn,hI=>by
  rcases step s hI with ⟨s',h1,h2,h3⟩|⟨t,h1,h2⟩
  ·obtain ⟨t,h4,h5⟩:=zGB I μ Q step n s' (by omega) h2
   exact ⟨t,by rw [zBN,h1]; exact h4,h5⟩
  ·exact ⟨t,by rw [zBN,h1]; rfl,h2⟩
def Version.ok (x:Version):Prop:=(IntKind.i64.min≤x.A∧x.A≤IntKind.i64.max)∧(IntKind.i64.min≤x.B∧x.B≤IntKind.i64.max)∧(IntKind.i64.min≤x.C∧x.C≤IntKind.i64.max)
def Term.ok (x:Term):Prop:=(x.Name.size≤maxLen)∧(Version.ok x.Low)∧(Version.ok x.High)
def Pack.ok (x:Pack):Prop:=(x.Name.size≤maxLen)∧(Version.ok x.Version)∧(IntKind.i64.min≤x.Size∧x.Size≤IntKind.i64.max)∧(x.Provides.length≤maxLen∧∀y1∈x.Provides,y1.size≤maxLen)∧(x.Needs.length≤maxLen∧∀y1∈x.Needs,y1.length≤maxLen∧∀y2∈y1,Term.ok y2)∧(x.Bars.length≤maxLen∧∀y1∈x.Bars,Term.ok y1)
def File.ok (x:File):Prop:=(x.Path.size≤maxLen)∧(x.Data.length≤maxLen∧∀y1∈x.Data,IntKind.u8.min≤y1∧y1≤IntKind.u8.max)
def zI.ok (x:zI):Prop:=(x.Files.length≤maxLen∧∀y1∈x.Files,File.ok y1)∧(IntKind.i64.min≤x.Budget∧x.Budget≤IntKind.i64.max)∧(IntKind.i64.min≤x.Writes∧x.Writes≤IntKind.i64.max)∧(IntKind.i64.min≤x.Stop∧x.Stop≤IntKind.i64.max)∧(True)
theorem zIi (x:(List Int)) (hx:x.length≤maxLen∧∀y1∈x,IntKind.u8.min≤y1∧y1≤IntKind.u8.max) (l:Int) (h0:0≤l) (h1:l≤1048576):∃r,zAH x l=some r∧(r<0∨(0≤r∧r≤l∧(x.length≤1048576∧∀y0∈x,True))):=by
 obtain ⟨hm,hx⟩:=hx
 unfold maxLen at hm
 unfold zAH
 rw [xE (x:=l-x.length) (by omega) (by omega)]
 by_cases c1:l-(x.length:Int)<0
 ·rw [if_pos (by simpa using c1)]
  exact ⟨_,rfl,.inl (by omega)⟩
 ·rw [if_neg (by simpa using c1)]
  exact ⟨_,rfl,.inr ⟨by omega,by omega,by omega,fun _ _=>trivial⟩⟩
def File.sm (B:Nat) (x:File):Prop:=(x.Path.size≤B)∧(x.Data.length≤B∧∀y0∈x.Data,True)
def zI.sm (B:Nat) (x:zI):Prop:=(x.Files.length≤B∧∀y0∈x.Files,File.sm B y0)∧(True)∧(True)∧(True)∧(True)
theorem zJ3 (x:File) (hx:File.ok x) (l:Int) (h0:0≤l) (h1:l≤1048576):∃r,zB4 x l=some r∧(r<0∨(0≤r∧r≤l∧(File.sm 1048576 x))):=by
 obtain ⟨k0,k1⟩:=hx
 unfold maxLen at*
 unfold zB4
 rw [xE (x:=l-x.Path.size) (by omega) (by omega)]
 by_cases c0:l-(x.Path.size:Int)<0
 ·rw [if_pos (by simpa using c0)]
  exact ⟨_,rfl,.inl (by omega)⟩
 rw [if_neg (by simpa using c0)]
 obtain ⟨r1,e1,g1⟩:=zIi x.Data k1 (l-x.Path.size) (by omega) (by omega)
 rw [e1]
 simp only [Option.bind_some]
 by_cases c1:r1<0
 ·rw [if_pos (by simpa using c1)]
  exact ⟨_,rfl,.inl (by omega)⟩
 rw [if_neg (by simpa using c1)]
 obtain ⟨p1,q1,z1⟩:=g1.resolve_left c1
 exact ⟨_,rfl,.inr ⟨by omega,by omega,by omega,z1⟩⟩
theorem zHU (x:(List File)) (hx:x.length≤maxLen∧∀y1∈x,File.ok y1) (l:Int) (h0:0≤l) (h1:l≤1048576):∃r,zAn x l=some r∧(r<0∨(0≤r∧r≤l∧(x.length≤1048576∧∀y0∈x,File.sm 1048576 y0))):=by
 obtain ⟨hm,hx⟩:=hx
 unfold maxLen at hm
 unfold zAn
 rw [xE (x:=l-x.length) (by omega) (by omega)]
 by_cases c1:l-(x.length:Int)<0
 ·rw [if_pos (by simpa using c1)]
  exact ⟨_,rfl,.inl (by omega)⟩
 ·rw [if_neg (by simpa using c1)]
  have key:=zEA x (fun y0=>File.sm 1048576 y0) (l-x.length) (b:=kJ x) ?_ ?_ (by omega)
  ·obtain ⟨t,h2,h3⟩:=key
   unfold zAJ
   rw [h2]
   cases t with
   |ret r=>exact ⟨r,rfl,.inl h3⟩
   |nxt r=>exact ⟨r,rfl,.inr ⟨h3.1,by have:=h3.2.1; omega,by omega,h3.2.2⟩⟩
  ·intro q i hi hq0 hq1
   unfold kJ
   rw [if_pos (by simp; omega)]
   simp only [zP hi,Option.bind_some]
   have hi2:w64 ((i:Int)+1)=((i+1:Nat):Int):=zV (by omega)
   obtain ⟨r,e,hr⟩:=zJ3 x[i] (hx _ (List.getElem_mem hi)) q hq0 (by omega)
   rw [e]
   simp only [Option.bind_some]
   by_cases c:r<0
   ·rw [if_pos (by simpa using c)]
    exact .inr ⟨_,rfl,by omega⟩
   ·rw [if_neg (by simpa using c),hi2]
    obtain ⟨g1,g2,g3⟩:=hr.resolve_left c
    exact .inl ⟨_,rfl,g1,g2,g3⟩
  ·intro q
   unfold kJ
   rw [if_neg (by simp)]
theorem zJ1 (x:zI) (hx:zI.ok x) (l:Int) (h0:0≤l) (h1:l≤1048576):∃r,zBn x l=some r∧(r<0∨(0≤r∧r≤l∧(zI.sm 1048576 x))):=by
 obtain ⟨k0,k1,k2,k3,k4⟩:=hx
 unfold maxLen at*
 unfold zBn
 obtain ⟨r0,e0,g0⟩:=zHU x.Files k0 l (by omega) (by omega)
 rw [e0]
 simp only [Option.bind_some]
 by_cases c0:r0<0
 ·rw [if_pos (by simpa using c0)]
  exact ⟨_,rfl,.inl (by omega)⟩
 rw [if_neg (by simpa using c0)]
 obtain ⟨p0,q0,z0⟩:=g0.resolve_left c0
 exact ⟨_,rfl,.inr ⟨by omega,by omega,z0,trivial,trivial,trivial,trivial⟩⟩
def Version.sm (B:Nat) (x:Version):Prop:=(True)∧(True)∧(True)
def Term.sm (B:Nat) (x:Term):Prop:=(x.Name.size≤B)∧(Version.sm B x.Low)∧(Version.sm B x.High)
def Pack.sm (B:Nat) (x:Pack):Prop:=(x.Name.size≤B)∧(Version.sm B x.Version)∧(True)∧(x.Provides.length≤B∧∀y0∈x.Provides,y0.size≤B)∧(x.Needs.length≤B∧∀y0∈x.Needs,y0.length≤B∧∀y1∈y0,Term.sm B y1)∧(x.Bars.length≤B∧∀y0∈x.Bars,Term.sm B y0)
theorem zGt (x:(List ByteArray)) (hx:x.length≤maxLen∧∀y1∈x,y1.size≤maxLen) (l:Int) (h0:0≤l) (h1:l≤1048576):∃r,jE x l=some r∧(r<0∨(0≤r∧r≤l∧(x.length≤1048576∧∀y0∈x,y0.size≤1048576))):=by
 obtain ⟨hm,hx⟩:=hx
 unfold maxLen at hm
 unfold jE
 rw [xE (x:=l-x.length) (by omega) (by omega)]
 by_cases c1:l-(x.length:Int)<0
 ·rw [if_pos (by simpa using c1)]
  exact ⟨_,rfl,.inl (by omega)⟩
 ·rw [if_neg (by simpa using c1)]
  have key:=zEA x (fun y0=>y0.size≤1048576) (l-x.length) (b:=uY x) ?_ ?_ (by omega)
  ·obtain ⟨t,h2,h3⟩:=key
   unfold jQ
   rw [h2]
   cases t with
   |ret r=>exact ⟨r,rfl,.inl h3⟩
   |nxt r=>exact ⟨r,rfl,.inr ⟨h3.1,by have:=h3.2.1; omega,by omega,h3.2.2⟩⟩
  ·intro q i hi hq0 hq1
   unfold uY
   rw [if_pos (by simp; omega)]
   simp only [zP hi,Option.bind_some]
   have hi2:w64 ((i:Int)+1)=((i+1:Nat):Int):=zV (by omega)
   have hs:=hx _ (List.getElem_mem hi)
   unfold maxLen at hs
   rw [xE (x:=q-(x[i]).size) (by omega) (by omega)]
   by_cases c:q-((x[i]).size :Int)<0
   ·rw [if_pos (by simpa using c)]
    exact .inr ⟨_,rfl,by omega⟩
   ·rw [if_neg (by simpa using c),hi2]
    exact .inl ⟨_,rfl,by omega,by omega,by show (x[i]).size ≤1048576; omega⟩
  ·intro q
   unfold uY
   rw [if_neg (by simp)]
theorem zJg (x:Term) (hx:Term.ok x) (l:Int) (h0:0≤l) (h1:l≤1048576):∃r,zBx x l=some r∧(r<0∨(0≤r∧r≤l∧(Term.sm 1048576 x))):=by
 obtain ⟨k0,k1,k2⟩:=hx
 unfold maxLen at*
 unfold zBx
 rw [xE (x:=l-x.Name.size) (by omega) (by omega)]
 by_cases c0:l-(x.Name.size:Int)<0
 ·rw [if_pos (by simpa using c0)]
  exact ⟨_,rfl,.inl (by omega)⟩
 rw [if_neg (by simpa using c0)]
 exact ⟨_,rfl,.inr ⟨by omega,by omega,by omega,⟨trivial,trivial,trivial⟩,⟨trivial,trivial,trivial⟩⟩⟩
theorem zFs (x:(List Term)) (hx:x.length≤maxLen∧∀y1∈x,Term.ok y1) (l:Int) (h0:0≤l) (h1:l≤1048576):∃r,uZ x l=some r∧(r<0∨(0≤r∧r≤l∧(x.length≤1048576∧∀y0∈x,Term.sm 1048576 y0))):=by
 obtain ⟨hm,hx⟩:=hx
 unfold maxLen at hm
 unfold uZ
 rw [xE (x:=l-x.length) (by omega) (by omega)]
 by_cases c1:l-(x.length:Int)<0
 ·rw [if_pos (by simpa using c1)]
  exact ⟨_,rfl,.inl (by omega)⟩
 ·rw [if_neg (by simpa using c1)]
  have key:=zEA x (fun y0=>Term.sm 1048576 y0) (l-x.length) (b:=kR x) ?_ ?_ (by omega)
  ·obtain ⟨t,h2,h3⟩:=key
   unfold zAg
   rw [h2]
   cases t with
   |ret r=>exact ⟨r,rfl,.inl h3⟩
   |nxt r=>exact ⟨r,rfl,.inr ⟨h3.1,by have:=h3.2.1; omega,by omega,h3.2.2⟩⟩
  ·intro q i hi hq0 hq1
   unfold kR
   rw [if_pos (by simp; omega)]
   simp only [zP hi,Option.bind_some]
   have hi2:w64 ((i:Int)+1)=((i+1:Nat):Int):=zV (by omega)
   obtain ⟨r,e,hr⟩:=zJg x[i] (hx _ (List.getElem_mem hi)) q hq0 (by omega)
   rw [e]
   simp only [Option.bind_some]
   by_cases c:r<0
   ·rw [if_pos (by simpa using c)]
    exact .inr ⟨_,rfl,by omega⟩
   ·rw [if_neg (by simpa using c),hi2]
    obtain ⟨g1,g2,g3⟩:=hr.resolve_left c
    exact .inl ⟨_,rfl,g1,g2,g3⟩
  ·intro q
   unfold kR
   rw [if_neg (by simp)]
theorem zHb (x:(List (List Term))) (hx:x.length≤maxLen∧∀y1∈x,y1.length≤maxLen∧∀y2∈y1,Term.ok y2) (l:Int) (h0:0≤l) (h1:l≤1048576):∃r,kD x l=some r∧(r<0∨(0≤r∧r≤l∧(x.length≤1048576∧∀y0∈x,y0.length≤1048576∧∀y1∈y0,Term.sm 1048576 y1))):=by
 obtain ⟨hm,hx⟩:=hx
 unfold maxLen at hm
 unfold kD
 rw [xE (x:=l-x.length) (by omega) (by omega)]
 by_cases c1:l-(x.length:Int)<0
 ·rw [if_pos (by simpa using c1)]
  exact ⟨_,rfl,.inl (by omega)⟩
 ·rw [if_neg (by simpa using c1)]
  have key:=zEA x (fun y0=>y0.length≤1048576∧∀y1∈y0,Term.sm 1048576 y1) (l-x.length) (b:=jR x) ?_ ?_ (by omega)
  ·obtain ⟨t,h2,h3⟩:=key
   unfold kP
   rw [h2]
   cases t with
   |ret r=>exact ⟨r,rfl,.inl h3⟩
   |nxt r=>exact ⟨r,rfl,.inr ⟨h3.1,by have:=h3.2.1; omega,by omega,h3.2.2⟩⟩
  ·intro q i hi hq0 hq1
   unfold jR
   rw [if_pos (by simp; omega)]
   simp only [zP hi,Option.bind_some]
   have hi2:w64 ((i:Int)+1)=((i+1:Nat):Int):=zV (by omega)
   obtain ⟨r,e,hr⟩:=zFs x[i] (hx _ (List.getElem_mem hi)) q hq0 (by omega)
   rw [e]
   simp only [Option.bind_some]
   by_cases c:r<0
   ·rw [if_pos (by simpa using c)]
    exact .inr ⟨_,rfl,by omega⟩
   ·rw [if_neg (by simpa using c),hi2]
    obtain ⟨g1,g2,g3⟩:=hr.resolve_left c
    exact .inl ⟨_,rfl,g1,g2,g3⟩
  ·intro q
   unfold jR
   rw [if_neg (by simp)]
theorem zJu (x:Pack) (hx:Pack.ok x) (l:Int) (h0:0≤l) (h1:l≤1048576):∃r,zB5 x l=some r∧(r<0∨(0≤r∧r≤l∧(Pack.sm 1048576 x))):=by
 obtain ⟨k0,k1,k2,k3,k4,k5⟩:=hx
 unfold maxLen at*
 unfold zB5
 rw [xE (x:=l-x.Name.size) (by omega) (by omega)]
 by_cases c0:l-(x.Name.size:Int)<0
 ·rw [if_pos (by simpa using c0)]
  exact ⟨_,rfl,.inl (by omega)⟩
 rw [if_neg (by simpa using c0)]
 obtain ⟨r3,e3,g3⟩:=zGt x.Provides k3 (l-x.Name.size) (by omega) (by omega)
 rw [e3]
 simp only [Option.bind_some]
 by_cases c3:r3<0
 ·rw [if_pos (by simpa using c3)]
  exact ⟨_,rfl,.inl (by omega)⟩
 rw [if_neg (by simpa using c3)]
 obtain ⟨p3,q3,z3⟩:=g3.resolve_left c3
 obtain ⟨r4,e4,g4⟩:=zHb x.Needs k4 r3 (by omega) (by omega)
 rw [e4]
 simp only [Option.bind_some]
 by_cases c4:r4<0
 ·rw [if_pos (by simpa using c4)]
  exact ⟨_,rfl,.inl (by omega)⟩
 rw [if_neg (by simpa using c4)]
 obtain ⟨p4,q4,z4⟩:=g4.resolve_left c4
 obtain ⟨r5,e5,g5⟩:=zFs x.Bars k5 r4 (by omega) (by omega)
 rw [e5]
 simp only [Option.bind_some]
 by_cases c5:r5<0
 ·rw [if_pos (by simpa using c5)]
  exact ⟨_,rfl,.inl (by omega)⟩
 rw [if_neg (by simpa using c5)]
 obtain ⟨p5,q5,z5⟩:=g5.resolve_left c5
 exact ⟨_,rfl,.inr ⟨by omega,by omega,by omega,⟨trivial,trivial,trivial⟩,trivial,z3,z4,z5⟩⟩
theorem zIw (x:(List Pack)) (hx:x.length≤maxLen∧∀y1∈x,Pack.ok y1) (l:Int) (h0:0≤l) (h1:l≤1048576):∃r,zAC x l=some r∧(r<0∨(0≤r∧r≤l∧(x.length≤1048576∧∀y0∈x,Pack.sm 1048576 y0))):=by
 obtain ⟨hm,hx⟩:=hx
 unfold maxLen at hm
 unfold zAC
 rw [xE (x:=l-x.length) (by omega) (by omega)]
 by_cases c1:l-(x.length:Int)<0
 ·rw [if_pos (by simpa using c1)]
  exact ⟨_,rfl,.inl (by omega)⟩
 ·rw [if_neg (by simpa using c1)]
  have key:=zEA x (fun y0=>Pack.sm 1048576 y0) (l-x.length) (b:=kM x) ?_ ?_ (by omega)
  ·obtain ⟨t,h2,h3⟩:=key
   unfold zA3
   rw [h2]
   cases t with
   |ret r=>exact ⟨r,rfl,.inl h3⟩
   |nxt r=>exact ⟨r,rfl,.inr ⟨h3.1,by have:=h3.2.1; omega,by omega,h3.2.2⟩⟩
  ·intro q i hi hq0 hq1
   unfold kM
   rw [if_pos (by simp; omega)]
   simp only [zP hi,Option.bind_some]
   have hi2:w64 ((i:Int)+1)=((i+1:Nat):Int):=zV (by omega)
   obtain ⟨r,e,hr⟩:=zJu x[i] (hx _ (List.getElem_mem hi)) q hq0 (by omega)
   rw [e]
   simp only [Option.bind_some]
   by_cases c:r<0
   ·rw [if_pos (by simpa using c)]
    exact .inr ⟨_,rfl,by omega⟩
   ·rw [if_neg (by simpa using c),hi2]
    obtain ⟨g1,g2,g3⟩:=hr.resolve_left c
    exact .inl ⟨_,rfl,g1,g2,g3⟩
  ·intro q
   unfold kM
   rw [if_neg (by simp)]
theorem zIx (x:(List Int)) (hx:x.length≤1049600∧∀y0∈x,True):zAB x=some x:=by
 have hl:=hx.1
 unfold zAB
 have hm:∀z:Int,mk 1 (x.length:Int) z=some (List.replicate x.length z):=fun z=>by
  unfold mk; rw [if_pos ⟨by omega,by simp; omega,by omega⟩]; simp
 rw [hm]
 simp only [Option.bind_some,zAx]
 rw [zDr x ?_ ?_ _ (by simp)]
 ·rfl
 ·intro ys i hi hl2
  unfold zBl
  rw [if_pos (by simp; omega)]
  have hi2:w64 ((i:Int)+1)=((i+1:Nat):Int):=zV (by omega)
  simp only [zP hi,zP (show i<ys.length by omega),Option.bind_some,Int.toNat_natCast,hi2]
 ·intro ys _
  unfold zBl
  rw [if_neg (by simp)]
theorem zJp (x:File) (hx:File.sm 1049600 x):zBw x=some x:=by
 obtain ⟨h0,h1⟩:=hx
 unfold zBw
 simp only [zIx x.Data h1,Option.bind_some]
theorem zIy (x:(List File)) (hx:x.length≤1049600∧∀y0∈x,File.sm 1049600 y0):zAr x=some x:=by
 have hl:=hx.1
 unfold zAr
 have hm:∀z:File,mk 40 (x.length:Int) z=some (List.replicate x.length z):=fun z=>by
  unfold mk; rw [if_pos ⟨by omega,by simp; omega,by omega⟩]; simp
 rw [hm]
 simp only [Option.bind_some,zA4]
 rw [zDr x ?_ ?_ _ (by simp)]
 ·rfl
 ·intro ys i hi hl2
  unfold zBi
  rw [if_pos (by simp; omega)]
  have hi2:w64 ((i:Int)+1)=((i+1:Nat):Int):=zV (by omega)
  simp only [zP hi,zP (show i<ys.length by omega),Option.bind_some,Int.toNat_natCast,hi2,zJp x[i] (hx.2 _ (List.getElem_mem hi))]
 ·intro ys _
  unfold zBi
  rw [if_neg (by simp)]
theorem zIF (x:zI) (hx:zI.sm 1049600 x):uI x=some x:=by
 obtain ⟨h0,h1,h2,h3,h4⟩:=hx
 unfold uI
 simp only [zIy x.Files h0,Option.bind_some]
theorem zHr (x:(List Int)) (hx:x.length≤1049600∧∀y0∈x,True):wI x=some x:=by
 have hl:=hx.1
 unfold wI
 have hm:∀z:Int,mk 8 (x.length:Int) z=some (List.replicate x.length z):=fun z=>by
  unfold mk; rw [if_pos ⟨by omega,by simp; omega,by omega⟩]; simp
 rw [hm]
 simp only [Option.bind_some,kS]
 rw [zDr x ?_ ?_ _ (by simp)]
 ·rfl
 ·intro ys i hi hl2
  unfold zAS
  rw [if_pos (by simp; omega)]
  have hi2:w64 ((i:Int)+1)=((i+1:Nat):Int):=zV (by omega)
  simp only [zP hi,zP (show i<ys.length by omega),Option.bind_some,Int.toNat_natCast,hi2]
 ·intro ys _
  unfold zAS
  rw [if_neg (by simp)]
theorem zCG (x:Version) (hx:Version.sm 1049600 x):xP x=some x:=by
 obtain ⟨h0,h1,h2⟩:=hx
 unfold xP
 rfl
theorem zFU (x:(List ByteArray)) (hx:x.length≤1049600∧∀y0∈x,y0.size≤1049600):tY x=some x:=by
 have hl:=hx.1
 unfold tY
 have hm:∀z:ByteArray,mk 16 (x.length:Int) z=some (List.replicate x.length z):=fun z=>by
  unfold mk; rw [if_pos ⟨by omega,by simp; omega,by omega⟩]; simp
 rw [hm]
 simp only [Option.bind_some,jV]
 rw [zDr x ?_ ?_ _ (by simp)]
 ·rfl
 ·intro ys i hi hl2
  unfold zAd
  rw [if_pos (by simp; omega)]
  have hi2:w64 ((i:Int)+1)=((i+1:Nat):Int):=zV (by omega)
  simp only [zP hi,zP (show i<ys.length by omega),Option.bind_some,Int.toNat_natCast,hi2]
 ·intro ys _
  unfold zAd
  rw [if_neg (by simp)]
theorem zJm (x:Term) (hx:Term.sm 1049600 x):zBz x=some x:=by
 obtain ⟨h0,h1,h2⟩:=hx
 unfold zBz
 simp only [zCG x.Low h1,zCG x.High h2,Option.bind_some]
theorem zFn (x:(List Term)) (hx:x.length≤1049600∧∀y0∈x,Term.sm 1049600 y0):tK x=some x:=by
 have hl:=hx.1
 unfold tK
 have hm:∀z:Term,mk 64 (x.length:Int) z=some (List.replicate x.length z):=fun z=>by
  unfold mk; rw [if_pos ⟨by omega,by simp; omega,by omega⟩]; simp
 rw [hm]
 simp only [Option.bind_some,zA8]
 rw [zDr x ?_ ?_ _ (by simp)]
 ·rfl
 ·intro ys i hi hl2
  unfold zBk
  rw [if_pos (by simp; omega)]
  have hi2:w64 ((i:Int)+1)=((i+1:Nat):Int):=zV (by omega)
  simp only [zP hi,zP (show i<ys.length by omega),Option.bind_some,Int.toNat_natCast,hi2,zJm x[i] (hx.2 _ (List.getElem_mem hi))]
 ·intro ys _
  unfold zBk
  rw [if_neg (by simp)]
theorem zHm (x:(List (List Term))) (hx:x.length≤1049600∧∀y0∈x,y0.length≤1049600∧∀y1∈y0,Term.sm 1049600 y1):kF x=some x:=by
 have hl:=hx.1
 unfold kF
 have hm:∀z:(List Term),mk 24 (x.length:Int) z=some (List.replicate x.length z):=fun z=>by
  unfold mk; rw [if_pos ⟨by omega,by simp; omega,by omega⟩]; simp
 rw [hm]
 simp only [Option.bind_some,kN]
 rw [zDr x ?_ ?_ _ (by simp)]
 ·rfl
 ·intro ys i hi hl2
  unfold zAP
  rw [if_pos (by simp; omega)]
  have hi2:w64 ((i:Int)+1)=((i+1:Nat):Int):=zV (by omega)
  simp only [zP hi,zP (show i<ys.length by omega),Option.bind_some,Int.toNat_natCast,hi2,zFn x[i] (hx.2 _ (List.getElem_mem hi))]
 ·intro ys _
  unfold zAP
  rw [if_neg (by simp)]
theorem zI9 (x:Pack) (hx:Pack.sm 1049600 x):zBy x=some x:=by
 obtain ⟨h0,h1,h2,h3,h4,h5⟩:=hx
 unfold zBy
 simp only [zCG x.Version h1,zFU x.Provides h3,zHm x.Needs h4,zFn x.Bars h5,Option.bind_some]
theorem zHQ (x:(List Pack)) (hx:x.length≤1049600∧∀y0∈x,Pack.sm 1049600 y0):vB x=some x:=by
 have hl:=hx.1
 unfold vB
 have hm:∀z:Pack,mk 120 (x.length:Int) z=some (List.replicate x.length z):=fun z=>by
  unfold mk; rw [if_pos ⟨by omega,by simp; omega,by omega⟩]; simp
 rw [hm]
 simp only [Option.bind_some,zAv]
 rw [zDr x ?_ ?_ _ (by simp)]
 ·rfl
 ·intro ys i hi hl2
  unfold zBh
  rw [if_pos (by simp; omega)]
  have hi2:w64 ((i:Int)+1)=((i+1:Nat):Int):=zV (by omega)
  simp only [zP hi,zP (show i<ys.length by omega),Option.bind_some,Int.toNat_natCast,hi2,zI9 x[i] (hx.2 _ (List.getElem_mem hi))]
 ·intro ys _
  unfold zBh
  rw [if_neg (by simp)]
theorem zGi (x:(List Int)) (hx:x.length≤1049600∧∀y0∈x,True):zA1 x x=some true:=by
 have hl:=hx.1
 unfold zA1
 rw [if_neg (by simp)]
 unfold zAw
 rw [zDi x.length ?_ ?_]
 ·rfl
 ·intro i hi
  unfold zBj
  rw [if_pos (by simp; omega)]
  have hi2:w64 ((i:Int)+1)=((i+1:Nat):Int):=zV (by omega)
  simp [zP hi,hi2]
 ·unfold zBj
  rw [if_neg (by simp)]
theorem zGR (x:File) (hx:File.sm 1049600 x):zB1 x x=some true:=by
 obtain ⟨h0,h1⟩:=hx
 unfold zB1
 simp [zGi x.Data h1]
theorem zGD (x:(List File)) (hx:x.length≤1049600∧∀y0∈x,File.sm 1049600 y0):zA2 x x=some true:=by
 have hl:=hx.1
 unfold zA2
 rw [if_neg (by simp)]
 unfold zA9
 rw [zDi x.length ?_ ?_]
 ·rfl
 ·intro i hi
  unfold zBm
  rw [if_pos (by simp; omega)]
  have hi2:w64 ((i:Int)+1)=((i+1:Nat):Int):=zV (by omega)
  simp [zP hi,hi2,zGR x[i] (hx.2 _ (List.getElem_mem hi))]
 ·unfold zBm
  rw [if_neg (by simp)]
theorem zHs (x:zI) (hx:zI.sm 1049600 x):zBo x x=some true:=by
 obtain ⟨h0,h1,h2,h3,h4⟩:=hx
 unfold zBo
 simp [zGD x.Files h0]
theorem zFx (x:(List Int)) (hx:x.length≤1049600∧∀y0∈x,True):kE x x=some true:=by
 have hl:=hx.1
 unfold kE
 rw [if_neg (by simp)]
 unfold kL
 rw [zDi x.length ?_ ?_]
 ·rfl
 ·intro i hi
  unfold zAQ
  rw [if_pos (by simp; omega)]
  have hi2:w64 ((i:Int)+1)=((i+1:Nat):Int):=zV (by omega)
  simp [zP hi,hi2]
 ·unfold zAQ
  rw [if_neg (by simp)]
def yL.sm (B:Nat) (x:yL):Prop:=(True)∧(True)
theorem zDV (x:yL) (hx:yL.sm 1049600 x):vJ x x=some true:=by
 obtain ⟨h0,h1⟩:=hx
 unfold vJ
 simp
theorem zCv (x:Version) (hx:Version.sm 1049600 x):xL x x=some true:=by
 obtain ⟨h0,h1,h2⟩:=hx
 unfold xL
 simp
theorem zEI (x:(List ByteArray)) (hx:x.length≤1049600∧∀y0∈x,y0.size≤1049600):jF x x=some true:=by
 have hl:=hx.1
 unfold jF
 rw [if_neg (by simp)]
 unfold jN
 rw [zDi x.length ?_ ?_]
 ·rfl
 ·intro i hi
  unfold zAa
  rw [if_pos (by simp; omega)]
  have hi2:w64 ((i:Int)+1)=((i+1:Nat):Int):=zV (by omega)
  simp [zP hi,hi2]
 ·unfold zAa
  rw [if_neg (by simp)]
theorem zHt (x:Term) (hx:Term.sm 1049600 x):zBr x x=some true:=by
 obtain ⟨h0,h1,h2⟩:=hx
 unfold zBr
 simp [zCv x.Low h1,zCv x.High h2]
theorem zDS (x:(List Term)) (hx:x.length≤1049600∧∀y0∈x,Term.sm 1049600 y0):tQ x x=some true:=by
 have hl:=hx.1
 unfold tQ
 rw [if_neg (by simp)]
 unfold zAL
 rw [zDi x.length ?_ ?_]
 ·rfl
 ·intro i hi
  unfold zBg
  rw [if_pos (by simp; omega)]
  have hi2:w64 ((i:Int)+1)=((i+1:Nat):Int):=zV (by omega)
  simp [zP hi,hi2,zHt x[i] (hx.2 _ (List.getElem_mem hi))]
 ·unfold zBg
  rw [if_neg (by simp)]
theorem zFK (x:(List (List Term))) (hx:x.length≤1049600∧∀y0∈x,y0.length≤1049600∧∀y1∈y0,Term.sm 1049600 y1):jX x x=some true:=by
 have hl:=hx.1
 unfold jX
 rw [if_neg (by simp)]
 unfold kK
 rw [zDi x.length ?_ ?_]
 ·rfl
 ·intro i hi
  unfold zAR
  rw [if_pos (by simp; omega)]
  have hi2:w64 ((i:Int)+1)=((i+1:Nat):Int):=zV (by omega)
  simp [zP hi,hi2,zDS x[i] (hx.2 _ (List.getElem_mem hi))]
 ·unfold zAR
  rw [if_neg (by simp)]
theorem zGU (x:Pack) (hx:Pack.sm 1049600 x):zBu x x=some true:=by
 obtain ⟨h0,h1,h2,h3,h4,h5⟩:=hx
 unfold zBu
 simp [zCv x.Version h1,zEI x.Provides h3,zFK x.Needs h4,zDS x.Bars h5]
theorem zFT (x:(List Pack)) (hx:x.length≤1049600∧∀y0∈x,Pack.sm 1049600 y0):zAq x x=some true:=by
 have hl:=hx.1
 unfold zAq
 rw [if_neg (by simp)]
 unfold zAI
 rw [zDi x.length ?_ ?_]
 ·rfl
 ·intro i hi
  unfold zBf
  rw [if_pos (by simp; omega)]
  have hi2:w64 ((i:Int)+1)=((i+1:Nat):Int):=zV (by omega)
  simp [zP hi,hi2,zGU x[i] (hx.2 _ (List.getElem_mem hi))]
 ·unfold zBf
  rw [if_neg (by simp)]
theorem Version.zBV {x:Version} (h:Version.sm 1048576 x):Version.sm 1049600 x:=⟨trivial,trivial,trivial⟩
theorem Term.zBV {x:Term} (h:Term.sm 1048576 x):Term.sm 1049600 x:=⟨(Nat.le_trans h.1 (by decide)),(Version.zBV h.2.1),(Version.zBV h.2.2)⟩
theorem Pack.zBV {x:Pack} (h:Pack.sm 1048576 x):Pack.sm 1049600 x:=⟨(Nat.le_trans h.1 (by decide)),(Version.zBV h.2.1),trivial,⟨Nat.le_trans h.2.2.2.1.1 (by decide),fun y0 z0=>(Nat.le_trans (h.2.2.2.1.2 y0 z0) (by decide))⟩,⟨Nat.le_trans h.2.2.2.2.1.1 (by decide),fun y0 z0=>⟨Nat.le_trans (h.2.2.2.2.1.2 y0 z0).1 (by decide),fun y1 z1=>(Term.zBV ((h.2.2.2.2.1.2 y0 z0).2 y1 z1))⟩⟩,⟨Nat.le_trans h.2.2.2.2.2.1 (by decide),fun y0 z0=>(Term.zBV (h.2.2.2.2.2.2 y0 z0))⟩⟩
theorem File.zBV {x:File} (h:File.sm 1048576 x):File.sm 1049600 x:=⟨(Nat.le_trans h.1 (by decide)),⟨Nat.le_trans h.2.1 (by decide),fun y0 z0=>trivial⟩⟩
theorem zI.zBV {x:zI} (h:zI.sm 1048576 x):zI.sm 1049600 x:=⟨⟨Nat.le_trans h.1.1 (by decide),fun y0 z0=>(File.zBV (h.1.2 y0 z0))⟩,trivial,trivial,trivial,trivial⟩
theorem zCH (a1:(List Pack)) (a2:zI) (a3:(List Int)) (k0:a1.length≤maxLen∧∀y1∈a1,Pack.ok y1) (k1:zI.ok a2) (k2:a3.length≤maxLen∧∀y1∈a3,IntKind.i64.min≤y1∧y1≤IntKind.i64.max) (both:(a1.length≤1048576∧∀y0∈a1,Pack.sm 1048576 y0)→(zI.sm 1048576 a2)→(a3.length≤1048576∧∀y0∈a3,True)→∃r,vO a1 a2 a3=some r∧vQ a1 a2 a3=some r∧(yL.sm 1049600 r)):xG a1 a2 a3=some true:=by
 unfold xG
 by_cases d1:(a3.length:Int)>1048576
 ·rw [if_pos (by simpa using d1)]
 rw [if_neg (by simpa using d1)]
 have s_a3:a3.length≤1048576∧∀y0∈a3,True:=⟨by omega,fun _ _=>trivial⟩
 obtain ⟨r2,e2,g2⟩:=zIw a1 k0 1048576 (by omega) (by omega)
 rw [e2]
 simp only [Option.bind_some]
 by_cases d2:r2<0
 ·rw [if_pos (by simpa using d2)]
 rw [if_neg (by simpa using d2)]
 obtain ⟨p2,q2,s_a1⟩:=g2.resolve_left d2
 obtain ⟨r3,e3,g3⟩:=zJ1 a2 k1 r2 (by omega) (by omega)
 rw [e3]
 simp only [Option.bind_some]
 by_cases d3:r3<0
 ·rw [if_pos (by simpa using d3)]
 rw [if_neg (by simpa using d3)]
 obtain ⟨p3,q3,s_a2⟩:=g3.resolve_left d3
 obtain ⟨r,e1,e2,hr⟩:=both s_a1 s_a2 s_a3
 have m_a1:a1.length≤1049600∧∀y0∈a1,Pack.sm 1049600 y0:=⟨Nat.le_trans s_a1.1 (by decide),fun y0 z0=>(Pack.zBV (s_a1.2 y0 z0))⟩
 have m_a2:zI.sm 1049600 a2:=(zI.zBV s_a2)
 have m_a3:a3.length≤1049600∧∀y0∈a3,True:=⟨Nat.le_trans s_a3.1 (by decide),fun y0 z0=>trivial⟩
 simp [e1,e2,zHQ a1 m_a1,zFT a1 m_a1,zIF a2 m_a2,zHs a2 m_a2,zHr a3 m_a3,zFx a3 m_a3,zDV r hr]
def bl (s:ByteArray):List Int:=s.toList.map (fun b=>(b.toNat:Int))
theorem yM (s:ByteArray):(bl s).length =s.size:=by
 unfold bl
 rw [List.length_map,ByteArray.toList_eq]
 rfl
theorem zCo {s:ByteArray} {i:Nat} (h:i< (bl s).length):bidx s (i:Int)=some (bl s)[i]:=by
 unfold bidx
 rw [if_pos (by omega)]
 have hs:i<s.size:=by rw [yM] at h; exact h
 have e:s[(i:Int).toNat]? =some s[i]:=by simp [hs]
 rw [e]
 simp only [Option.map_some,bl,List.getElem_map]
 congr 2
 simp only [ByteArray.toList_eq]
 rfl
theorem zF8 {s:ByteArray}:∀c∈bl s,0≤c∧c≤255:=by
 intro c hc
 unfold bl at hc
 obtain ⟨b,_,rfl⟩:=List.mem_map.1 hc
 have:=b.toNat_lt
 omega
theorem zEw:∀(a:List UInt8),Op.bytesLess a a=false
 |[]=>rfl
 |x::a=>by simp [Op.bytesLess,zEw a]
theorem zFe:∀{a b c:List UInt8},Op.bytesLess a b=true→Op.bytesLess b c=true→Op.bytesLess a c=true
 |_,[],_,h,_=>by simp [Op.bytesLess] at h
 |_,_::_,[],_,h=>by simp [Op.bytesLess] at h
 |[],_::_,_::_,_,_=>by simp [Op.bytesLess]
 |x::a,y::b,z::c,h1,h2=>by
  simp only [Op.bytesLess,Bool.or_eq_true,decide_eq_true_eq,Bool.and_eq_true,beq_iff_eq] at h1 h2 ⊢
  rcases h1 with h1|⟨rfl,h1⟩
  ·rcases h2 with h2|⟨rfl,h2⟩
   ·exact .inl (UInt8.lt_trans h1 h2)
   ·exact .inl h1
  ·rcases h2 with h2|⟨rfl,h2⟩
   ·exact .inl h2
   ·exact .inr ⟨rfl,zFe h1 h2⟩
theorem zHN:∀(a b:List UInt8),Op.bytesLess a b=false→a≠b→Op.bytesLess b a=true
 |[],[],_,h=>absurd rfl h
 |[],_::_,h,_=>by simp [Op.bytesLess] at h
 |_::_,[],_,_=>by simp [Op.bytesLess]
 |x::a,y::b,h,hne=>by
  simp only [Op.bytesLess,Bool.or_eq_false_iff,decide_eq_false_iff_not,Bool.and_eq_false_iff,beq_eq_false_iff_ne] at h
  simp only [Op.bytesLess,Bool.or_eq_true,decide_eq_true_eq,Bool.and_eq_true,beq_iff_eq]
  by_cases hxy:x=y
  ·subst hxy
   refine .inr ⟨rfl,zHN a b ?_ (fun e=>hne (by rw [e]))⟩
   rcases h.2 with h'|h'
   ·exact absurd rfl h'
   ·exact h'
  ·refine .inl ?_
   have:=h.1
   rw [UInt8.lt_iff_toNat_lt] at this ⊢
   have:x.toNat≠y.toNat:=fun e=>hxy (UInt8.toNat_inj.1 e)
   omega
theorem toList_inj {a b:ByteArray} (h:a.toList=b.toList):a=b:=by
 rw [ByteArray.toList_eq,ByteArray.toList_eq] at h
 cases a; cases b
 simp at h
 rw [h]
theorem zCW (a:ByteArray):slt a a=false:=zEw _
theorem zE0 {a b c:ByteArray} (h1:slt a b=true) (h2:slt b c=true):slt a c=true:=zFe h1 h2
theorem zLm {a b:ByteArray} (h:slt a b=false) (hne:a≠b):slt b a=true:=zHN _ _ h (fun e=>hne (toList_inj e))
theorem zFF {a b:ByteArray}:seq a b=true↔a=b:=by
 unfold seq
 simp only [beq_iff_eq]
 exact ⟨toList_inj,fun e=>by rw [e]⟩
theorem seq_eq (a b:ByteArray):seq a b=decide (a=b):=by
 rw [Bool.eq_iff_iff,zFF]; simp
theorem zLI (a b c:Int):yN a b c=some (decide (a≥b)&&decide (a≤c)):=by
 unfold yN
 cases decide (a≥b)<;>rfl
theorem zCi (a b:ByteArray):bl (a++b)=bl a++bl b:=by
 unfold bl
 rw [ByteArray.toList_eq,ByteArray.toList_eq,ByteArray.toList_eq]
 simp
theorem zCy (s:ByteArray) (i j:Nat):bl (s.extract i j)=((bl s).drop i).take (j-i):=by
 unfold bl
 rw [ByteArray.toList_eq,ByteArray.toList_eq]
 simp [List.map_drop,List.map_take]
theorem zHC {a b:ByteArray}:bl a=bl b↔a=b:=by
 constructor
 ·intro h
  unfold bl at h
  refine toList_inj ?_
  have hinj:∀(x y:List UInt8),x.map (fun b=>(b.toNat:Int))=y.map (fun b=>(b.toNat:Int))→x=y:=by
   intro x
   induction x with
   |nil=>intro y h; cases y<;>simp_all
   |cons u x ih=>
    intro y h
    cases y with
    |nil=>simp at h
    |cons v y=>
     simp only [List.map_cons,List.cons.injEq] at h
     rw [ih y h.2]
     have:u.toNat=v.toNat:=by omega
     rw [UInt8.toNat_inj.1 this]
  exact hinj _ _ h
 ·intro h; rw [h]
theorem zH3 (a b:ByteArray):seq a b=decide (bl a=bl b):=by
 rw [seq_eq]
 simp [zHC]
theorem zGX {c:Int} (h0:0≤c) (h1:c≤255):bl (b2s [c])=[c]:=by
 unfold bl b2s
 rw [ByteArray.toList_eq]
 simp only [List.foldl_cons,List.foldl_nil]
 show [((UInt8.ofNat c.toNat).toNat :Int)]=[c]
 simp
 omega
theorem wrap_u8 {c:Int} (h0:0≤c) (h1:c≤255):IntKind.u8.wrap c=c:=by
 simp only [IntKind.wrap,IntKind.signed,IntKind.bits]
 simp
 omega
def zDm (n:Nat):List Int:=if n<10 then [48+(n:Int)] else zDm (n / 10)++[48+((n%10:Nat):Int)]
termination_by n
decreasing_by omega
theorem zB8 {n:Nat} (h:n<10):zDm n=[48+(n:Int)]:=by rw [zDm,if_pos h]
theorem zC8 {n:Nat} (h:¬n<10):zDm n=zDm (n / 10)++[48+((n%10:Nat):Int)]:=by rw [zDm,if_neg h]
theorem zDs:∀(k n:Nat),10^k≤n→n<10^(k+1)→(zDm n).length =k+1
 |0,n,_,h=>by rw [zB8 (by simpa using h)]; rfl
 |k+1,n,h1,h2=>by
  have hp:1≤10^k:=Nat.one_le_pow _ _ (by omega)
  rw [Nat.pow_succ] at h1
  rw [Nat.pow_succ] at h2
  rw [zC8 (by omega),List.length_append,zDs k (n / 10) (by omega) (by omega)]
  rfl
theorem zFB:∀(k n:Nat),n<10^(k+1)→(zDm n).length ≤k+1
 |0,n,h=>by rw [zB8 (by simpa using h)]; simp
 |k+1,n,h=>by
  by_cases hn:n<10
  ·rw [zB8 hn]; simp
  ·rw [Nat.pow_succ] at h
   rw [zC8 hn,List.length_append]
   have:=zFB k (n / 10) (by omega)
   simp only [List.length_singleton]
   omega
theorem zEV (g:Int→Option ByteArray) (a1:Int):wM g a1=if decide (a1<10) then some (b2s [IntKind.u8.wrap (w64 (48+a1))]) else (g (w64 (a1.tdiv 10))).bind fun x3=>(cat x3 (b2s [IntKind.u8.wrap (w64 (48+(a1.tmod 10)))])).bind fun x5=>some x5:=rfl
theorem zDg:∀(k f n:Nat),n<10^(k+1)→k<f→n≤9000000000000000000→k≤100→∃s,zLc wM f (n:Int)=some s∧bl s=zDm n
 |k,0,n,_,hf,_,_=>by omega
 |k,f+1,n,h,hf,hn,hk=>by
  rw [show zLc wM (f+1) (n:Int)=wM (zLc wM f) (n:Int) from rfl,zEV]
  by_cases h1:n<10
  ·rw [if_pos (by simp; omega),xE (by omega) (by omega),wrap_u8 (by omega) (by omega)]
   exact ⟨_,rfl,by rw [zGX (by omega) (by omega),zB8 h1]⟩
  ·rw [if_neg (by simp; omega)]
   cases k with
   |zero=>simp at h; omega
   |succ k=>
    have e1:w64 ((n:Int).tdiv 10)=((n / 10:Nat):Int):=by
     rw [Int.tdiv_eq_ediv_of_nonneg (by omega),xE (by omega) (by omega)]; omega
    have e2:(n:Int).tmod 10=((n%10:Nat):Int):=by
     rw [Int.tmod_eq_emod_of_nonneg (by omega)]; omega
    rw [Nat.pow_succ] at h
    obtain ⟨s,e,hs⟩:=zDg k f (n / 10) (by omega) (by omega) (by omega) (by omega)
    rw [e1,e2,e,xE (by omega) (by omega),wrap_u8 (by omega) (by omega)]
    have hsz:s.size≤k+1:=by
     rw [←yM,hs]
     exact zFB k (n / 10) (by omega)
    simp only [Option.bind_some]
    unfold cat
    rw [if_pos (by have:(b2s [48+((n%10:Nat):Int)]).size =1:=rfl; omega)]
    exact ⟨_,rfl,by rw [zCi,hs,zGX (by omega) (by omega),zC8 h1]⟩
theorem zCt (n:Nat) (h:n≤9000000000000000000):∃s,yQ (n:Int)=some s∧bl s=zDm n:=
 zDg 18 64 n (by omega) (by omega) h (by omega)
theorem zJ2 (l:List UInt8):bl (bs l)=l.map (fun b=>(b.toNat:Int)):=by
 unfold bl bs
 rw [ByteArray.toList_eq]
theorem zAT {a b:ByteArray} (h:a.size+b.size≤1099511627776):cat a b=some (a++b):=if_pos h
theorem zD5 (a b c:ByteArray):a++b++c=a++(b++c):=zHC.1 (by simp only [zCi,List.append_assoc])
theorem kH (a b:ByteArray):(a++b).size =a.size+b.size:=by
 rw [←yM,zCi,List.length_append,yM,yM]
theorem zDf {n:Nat} (h:n<256):(UInt8.ofNat n).toNat =n:=by
 simp [Nat.mod_eq_of_lt h]
theorem decDigits_eq:∀(n:Nat),(Lib.decDigits n).map (fun b=>(b.toNat:Int))=zDm n:=by
 intro n
 induction n using Nat.strongRecOn with
 |ind n ih=>
  rw [Lib.decDigits]
  by_cases h:n<10
  ·rw [dif_pos h,zB8 h]
   simp only [List.map_cons,List.map_nil]
   rw [zDf (by omega)]
   simp
  ·rw [dif_neg h,zC8 h,List.map_append,ih (n / 10) (by omega)]
   simp only [List.map_cons,List.map_nil]
   rw [zDf (by omega)]
   simp
def zEG (n:Nat):ByteArray:=⟨(Lib.decDigits n).toArray⟩
theorem zDn (n:Nat):bl (zEG n)=zDm n:=by
 unfold bl zEG
 rw [ByteArray.toList_eq]
 exact decDigits_eq n
theorem zGp (n:Nat) (h:n≤9000000000000000000):yQ (n:Int)=some (zEG n):=by
 obtain ⟨s,e,hs⟩:=zCt n h
 rw [e,zHC.1 (hs.trans (zDn n).symm)]
theorem zCM (n:Nat) (h:n≤9000000000000000000):wU (n:Int) 10=some (zEG n):=by
 unfold wU
 rw [if_pos (by omega)]
 unfold Lib.itoa zEG
 rw [if_neg (by omega)]
 simp
def inB (a b c:Int):Bool:=decide (b≤a)&&decide (a≤c)
theorem zHn (a b c:Int):yN a b c=some (inB a b c):=by
 unfold yN inB
 by_cases h:a≥b<;>simp [h]
theorem zEt (a b c:Int):yK a b c=some (inB a b c):=by
 unfold yK inB
 by_cases h:b≤a<;>simp [h]
section del
variable {α:Type} (p:α→Bool)
theorem zHq {xs:List α} {l h:Nat} (h1:l≤h) (h2:h≤xs.length):zEW xs (l:Int) (h:Int)=some ((xs.drop l).take (h-l)):=by
 unfold zEW
 rw [if_pos (by omega)]
 rfl
end del
section del
variable {α:Type} (p:α→Bool)
theorem zKA {xs:List α} {l n:Nat} {a:α} (h:l+n≤xs.length):zKn xs (l:Int) n a=some (xs.take l++List.replicate n a++xs.drop (l+n)):=by
 unfold zKn
 rw [if_pos (by omega)]
 simp [ovr]
end del
section del
variable {α:Type} (p:α→Bool)
theorem zKb {R:Type} (a1:List α) (out:Int→R) {b:Int→Option (Lp Int (Fl R Unit))} (hl:a1.length<9223372036854775807)
  (hstep:∀(i:Nat) (hi:i<a1.length),b (i:Int)=some (if p a1[i] then .done (.ret (out i)) else .go ((i+1:Nat):Int))) (hend:b (a1.length:Int)=some (.done (.nxt ()))):
  ∃t,loop b 0=some t∧((t= .nxt ()∧∀x∈a1,p x=false)∨∃i:Nat,∃hi:i<a1.length,t= .ret (out i)∧p a1[i]=true∧∀x∈a1.take i,p x=false):=by
 refine jP (b:=b) (fun i s=>s=(i:Int)∧∀x∈a1.take i,p x=false) a1.length _ (by
  rintro i s hi ⟨rfl,hn⟩
  have e:=hstep i hi
  cases hp:p a1[i]
  ·rw [hp] at e
   refine .inl ⟨_,e,rfl,fun x hx=>?_⟩
   rw [List.take_succ_eq_append_getElem hi] at hx
   rcases List.mem_append.1 hx with hx|hx
   ·exact hn x hx
   ·simp at hx; rw [hx]; exact hp
  ·rw [hp] at e
   exact .inr ⟨_,e,.inr ⟨i,hi,rfl,hp,hn⟩⟩) (by
  rintro s ⟨rfl,hn⟩
  rw [List.take_length] at hn
  exact ⟨_,hend,.inl ⟨rfl,hn⟩⟩) a1.length 0 0 (by omega) ⟨rfl,by simp⟩
end del
section del
variable {α:Type} (p:α→Bool)
theorem zKc {xs:List α} {i:Nat} {x:α} (h:i<xs.length):(xs.set i x).take (i+1)=xs.take i++[x]:=by
 rw [List.take_succ_eq_append_getElem (by simpa using h),List.take_set_of_le (Nat.le_refl _)]
 simp
end del
section del
variable {α:Type} (p:α→Bool)
theorem set_drop {xs:List α} {i j:Nat} {x:α} (h:i<j):(xs.set i x).drop j=xs.drop j:=by
 rw [List.drop_set_of_lt h]
end del
section del
variable {α:Type} (p:α→Bool)
theorem zIJ (a:List α) {b:(List α×Int×Int)→Option (Lp (List α×Int×Int) (List α×Int))} (hl:a.length<9223372036854775807)
  (hstep:∀(xs:List α) (i j:Nat) (hj:j<xs.length),i≤j→xs.length=a.length→xs[j]∈a→b (xs,(i:Int),(j:Int))=some (.go (if p xs[j] then (xs,(i:Int),((j+1:Nat):Int)) else (xs.set i xs[j],((i+1:Nat):Int),((j+1:Nat):Int)))))
  (hend:∀(xs:List α) (i:Nat),xs.length=a.length→b (xs,(i:Int),(xs.length:Int))=some (.done (xs,(i:Int)))) (i0 j0:Nat) (hij:i0≤j0) (hj0:j0≤a.length) (h0:a.take i0=(a.take j0).filter (fun x=> !p x)):
  ∃ys:List α,loop b (a,(i0:Int),(j0:Int))=some (ys,((a.filter (fun x=> !p x)).length :Int))∧ys.length=a.length∧ys.take (a.filter (fun x=> !p x)).length =a.filter (fun x=> !p x):=by
 obtain ⟨t,e,h⟩:=jP (b:=b) (fun j s=>s.1.length=a.length∧s.1.drop j=a.drop j∧s.2.2=(j:Int)∧∃i:Nat,s.2.1=(i:Int)∧i≤j∧s.1.take i=(a.take j).filter (fun x=> !p x)) a.length
  (fun t=>t.1.length=a.length∧∃i:Nat,t.2=(i:Int)∧i≤a.length∧t.1.take i=a.filter (fun x=> !p x)) (by
  rintro j ⟨xs,i',j'⟩ hj ⟨hxl,hxd,hjj,i,hi,hle,ht⟩
  simp only at hxl hxd hjj hi ht
  subst hjj hi
  have hjx:j<xs.length:=by omega
  have hx:xs[j]=a[j]:=by
   have:=congrArg (fun l=>l[0]?) hxd
   simp only [List.getElem?_drop,Nat.add_zero] at this
   rw [List.getElem?_eq_getElem hjx,List.getElem?_eq_getElem hj] at this
   exact Option.some.inj this
  have e:=hstep xs i j hjx hle hxl (by rw [hx]; exact List.getElem_mem hj)
  have htk:(a.take (j+1)).filter (fun x=> !p x)=(a.take j).filter (fun x=> !p x)++(if p a[j] then [] else [a[j]]):=by
   rw [List.take_succ_eq_append_getElem hj,List.filter_append]
   cases h:p a[j]<;>simp [h]
  have hd1:a.drop (j+1)=xs.drop (j+1):=by
   have:=congrArg (List.drop 1) hxd
   simpa [List.drop_drop] using this.symm
  rw [hx] at e
  cases hp:p a[j]
  ·rw [hp] at e htk
   refine .inl ⟨_,e,by simpa using hxl,?_,rfl,i+1,rfl,by omega,?_⟩
   ·show (xs.set i a[j]).drop (j+1)=a.drop (j+1)
    rw [set_drop (by omega),hd1]
   ·show (xs.set i a[j]).take (i+1)=_
    rw [zKc (by omega),htk,ht]
    rfl
  ·rw [hp] at e htk
   refine .inl ⟨_,e,hxl,?_,rfl,i,rfl,by omega,?_⟩
   ·exact hd1.symm
   ·show xs.take i=_
    rw [htk,ht]
    simp) (by
  rintro ⟨xs,i',j'⟩ ⟨hxl,hxd,hjj,i,hi,hle,ht⟩
  simp only at hxl hxd hjj hi ht
  subst hjj hi
  have e:=hend xs i hxl
  rw [hxl] at e
  refine ⟨_,e,hxl,i,rfl,hle,?_⟩
  rw [List.take_length] at ht
  exact ht) (a.length-j0) j0 (a,(i0:Int),(j0:Int)) (by omega) ⟨rfl,rfl,rfl,i0,rfl,hij,h0⟩
 obtain ⟨ys,i'⟩:=t
 obtain ⟨h1,i,h2,h3,h4⟩:=h
 simp only at h1 h2 h4
 subst h2
 have hlen:i=(a.filter (fun x=> !p x)).length :=by rw [←h4]; simp; omega
 subst hlen
 exact ⟨ys,e,h1,h4⟩
end del
section del
variable {α:Type} (p:α→Bool)
theorem zKC {a ys:List α} (zero:α) (h1:ys.length=a.length) (h2:ys.take (a.filter (fun x=> !p x)).length =a.filter (fun x=> !p x)):
  (zEW ys ((a.filter (fun x=> !p x)).length :Int) (ys.length:Int)).bind (fun r=>(zKn ys ((a.filter (fun x=> !p x)).length :Int) r.length zero).bind fun z=>(zEW z 0 ((a.filter (fun x=> !p x)).length :Int)).bind fun q=>some q)=some (a.filter (fun x=> !p x)):=by
 have hle:(a.filter (fun x=> !p x)).length ≤ys.length:=by rw [h1]; exact List.length_filter_le _ _
 rw [zHq hle (Nat.le_refl _)]
 simp only [Option.bind_some]
 rw [zKA (by simp; omega)]
 simp only [Option.bind_some]
 have:zEW (List.take (List.filter (fun x=> !p x) a).length ys++List.replicate (List.take (ys.length-(List.filter (fun x=> !p x) a).length) (List.drop (List.filter (fun x=> !p x) a).length ys)).length zero++
   List.drop ((List.filter (fun x=> !p x) a).length +(List.take (ys.length-(List.filter (fun x=> !p x) a).length) (List.drop (List.filter (fun x=> !p x) a).length ys)).length) ys) ((0:Nat):Int) ((a.filter (fun x=> !p x)).length :Int)=some (a.filter (fun x=> !p x)):=by
  rw [zHq (by omega) (by simp; omega)]
  rw [h2]
  simp
 exact (congrArg (fun o=>Option.bind o fun q=>some q) this)
end del
section del
variable {α:Type} (p:α→Bool)
theorem zLj (a:List α) (zero:α) (hl:a.length≤1048577) {b1:Int→Option (Lp Int (Fl Int Unit))} {b2:(List α×Int×Int)→Option (Lp (List α×Int×Int) (List α×Int))}
  (h1:∀(i:Nat) (hi:i<a.length),b1 (i:Int)=some (if p a[i] then .done (.ret (i:Int)) else .go ((i+1:Nat):Int))) (h1e:b1 (a.length:Int)=some (.done (.nxt ())))
  (h2:∀(xs:List α) (i j:Nat) (hj:j<xs.length),i≤j→xs.length=a.length→xs[j]∈a→b2 (xs,(i:Int),(j:Int))=some (.go (if p xs[j] then (xs,(i:Int),((j+1:Nat):Int)) else (xs.set i xs[j],((i+1:Nat):Int),((j+1:Nat):Int)))))
  (h2e:∀(xs:List α) (i:Nat),xs.length=a.length→b2 (xs,(i:Int),(xs.length:Int))=some (.done (xs,(i:Int)))):
  ((loop b1 0).bind (Fl.go some fun _=>some (-1))).bind (fun x4=>if x4==(-1) then (some a) else ((loop b2 (a,x4,w64 (x4+1))).bind fun v26=>(zEW v26.1 v26.2 (v26.1.length:Int)).bind fun x27=>(zKn v26.1 v26.2 x27.length zero).bind fun x29=>(zEW x29 0 v26.2).bind fun x31=>some x31))=some (a.filter (fun x=> !p x)):=by
 obtain ⟨t,e,h⟩:=zKb p a (fun i=>i) (b:=b1) (by omega) h1 h1e
 rw [e]
 rcases h with ⟨rfl,hn⟩|⟨i,hi,rfl,hp,hn⟩
 ·show some a=_
  congr 1
  exact (List.filter_eq_self.2 (fun x hx=>by rw [hn x hx]; rfl)).symm
 ·simp only [Option.bind_some,Fl.go]
  rw [if_neg (by simp),zV (by omega)]
  obtain ⟨ys,e2,h3,h4⟩:=zIJ p a (b:=b2) (by omega) h2 h2e i (i+1) (by omega) (by omega) (by
   rw [List.take_succ_eq_append_getElem hi,List.filter_append]
   rw [List.filter_eq_self.2 (fun x hx=>by rw [hn x hx]; rfl)]
   simp [hp])
  rw [e2]
  simp only [Option.bind_some]
  exact zKC p zero h3 h4
end del
def xW {α R:Type} (g:Nat→α→Option R):Nat→List α→Option R
 |_,[]=>none
 |i,x::xs=>match g i x with
  |some r=>some r
  |none=>xW g (i+1) xs
def frs {R:Type}:Option R→Fl R Unit
 |some r=>.ret r
 |none=>.nxt ()
theorem zFp {α R:Type} (xs:List α) (g:Nat→α→Option R) {b:Int→Option (Lp Int (Fl R Unit))}
  (hstep:∀(i:Nat) (hi:i<xs.length),b (i:Int)=some (match g i xs[i] with|some r=>.done (.ret r)|none=>.go ((i+1:Nat):Int))) (hend:b (xs.length:Int)=some (.done (.nxt ()))):
  ∀(k i:Nat),i+k=xs.length→loop b (i:Int)=some (frs (xW g i (xs.drop i)))
 |0,i,h=>by
  have e:i=xs.length:=by omega
  subst e
  rw [zBN,hend,List.drop_length]
  rfl
 |k+1,i,h=>by
  have hi:i<xs.length:=by omega
  have ih:=zFp xs g hstep hend k (i+1) (by omega)
  rw [zBN,hstep i hi,List.drop_eq_getElem_cons hi]
  simp only [xW]
  cases g i xs[i] with
  |some r=>rfl
  |none=>exact ih
theorem xV {α R:Type} (xs:List α) (g:Nat→α→Option R) {b:Int→Option (Lp Int (Fl R Unit))}
  (hstep:∀(i:Nat) (hi:i<xs.length),b (i:Int)=some (match g i xs[i] with|some r=>.done (.ret r)|none=>.go ((i+1:Nat):Int))) (hend:b (xs.length:Int)=some (.done (.nxt ()))):
  loop b 0=some (frs (xW g 0 xs)):=by
 have:=zFp xs g hstep hend xs.length 0 (by omega)
 simpa using this
theorem zBY {R T:Type} (o:Option R) (f:R→Option T) (h:Unit→Option T):(some (frs o)).bind (Fl.go f h)=match o with|some r=>f r|none=>h ():=by
 cases o<;>rfl
theorem zC4 {α:Type} (p:α→Bool):∀(xs:List α) (i:Nat),((xW (fun j x=>if p x then some (j:Int) else none) i xs).getD (-1)≥0)↔xs.any p=true
 |[],i=>by simp [xW]
 |x::xs,i=>by
  simp only [xW]
  cases h:p x
  ·simp only [Bool.false_eq_true,if_false,List.any_cons,h,Bool.false_or]
   exact zC4 p xs (i+1)
  ·simp [h]
theorem zGk {α:Type} (p:α→Bool):∀(xs:List α) (i:Nat),(xW (fun _ x=>if p x then some true else none) i xs).getD false=xs.any p
 |[],i=>rfl
 |x::xs,i=>by
  simp only [xW]
  cases h:p x
  ·simp only [Bool.false_eq_true,if_false,List.any_cons,h,Bool.false_or]
   exact zGk p xs (i+1)
  ·simp [h]
def foldI {α A:Type} (f:Nat→A→α→A):Nat→List α→A→A
 |_,[],a=>a
 |i,x::xs,a=>foldI f (i+1) xs (f i a x)
theorem zCd {α A:Type} (xs:List α) (f:Nat→A→α→A) (I:Nat→A→Prop) {b:(A×Int)→Option (Lp (A×Int) A)}
  (hstep:∀(i:Nat) (a:A) (hi:i<xs.length),I i a→b (a,(i:Int))=some (.go (f i a xs[i],((i+1:Nat):Int)))∧I (i+1) (f i a xs[i])) (hend:∀a,b (a,(xs.length:Int))=some (.done a)):
  ∀(k i:Nat) (a:A),i+k=xs.length→I i a→loop b (a,(i:Int))=some (foldI f i (xs.drop i) a)∧I xs.length (foldI f i (xs.drop i) a)
 |0,i,a,h,hI=>by
  have e:i=xs.length:=by omega
  subst e
  rw [zBN,hend,List.drop_length]
  exact ⟨rfl,hI⟩
 |k+1,i,a,h,hI=>by
  have hi:i<xs.length:=by omega
  obtain ⟨h1,h2⟩:=hstep i a hi hI
  have ih:=zCd xs f I hstep hend k (i+1) _ (by omega) h2
  rw [zBN,h1,List.drop_eq_getElem_cons hi]
  exact ih
theorem zEb {o:Option Int} {b:Bool} (h:(o.getD (-1)≥0)↔b=true):decide (o.getD (-1)≥0)=b:=by
 rw [Bool.eq_iff_iff,decide_eq_true_eq]; exact h
def zGP (c:Int):Bool:=(decide (c≥97)&&decide (c≤122))||(decide (c≥48)&&decide (c≤57))||c==95
def zGM (c:Int):Bool:=zGP c||c==46||c==45||c==47
theorem zEO (c:Int):wJ c=some (zGP c):=by
 unfold wJ xX xY zGP
 cases decide (c≥97)<;>cases decide (c≤122)<;>cases decide (c≥48)<;>cases decide (c≤57)<;>rfl
theorem zDe (c:Int):zBt c=some (zGM c):=by
 unfold zBt zGM
 rw [zEO]
 cases zGP c<;>cases (c==46)<;>cases (c==45)<;>cases (c==47)<;>rfl
theorem zD0 (c:Int):yR c=some (zGP c):=by
 unfold yR zGP
 cases decide (c≥97)<;>cases decide (c≤122)<;>cases decide (c≥48)<;>cases decide (c≤57)<;>rfl
theorem zFW (s:ByteArray):jI s=xR s:=by
 unfold jI xR
 have:vR s=wT s:=by
  unfold vR wT
  refine zD9 fun i=>?_
  unfold zBC vF
  split
  ·congr 1
   funext c
   rw [zDe,zD0]
   unfold zGM
   simp only [bne]
   cases zGP c<;>cases (c==46)<;>cases (c==45)<;>cases (c==47)<;>rfl
  ·rfl
 rw [this]
def zEm (s:ByteArray):Prop:=1≤s.size∧s.size≤40∧∀c∈bl s,zGM c=true
theorem zER (s:ByteArray):(zEm s∧xR s=some 0)∨(¬zEm s∧xR s=some 5):=by
 unfold xR
 by_cases h1:s.size<1
 ·refine .inr ⟨fun h=>by have:=h.1; omega,?_⟩
  rw [if_pos (by simp; omega)]; rfl
 ·rw [if_neg (by simp; omega)]
  simp only [Option.bind_some]
  by_cases h2:s.size>40
  ·refine .inr ⟨fun h=>by have:=h.2.1; omega,?_⟩
   rw [if_pos (by simp; omega)]
  ·rw [if_neg (by simp; omega)]
   obtain ⟨t,e,h⟩:=jP (b:=vF s) (fun i j=>j=(i:Int)∧∀k,(hk:k< (bl s).length)→k<i→zGM (bl s)[k]=true) (bl s).length (fun t=>match t with| .ret r=>r=5∧¬zEm s| .nxt _=>∀c∈bl s,zGM c=true) (by
    rintro i j hi ⟨rfl,hp⟩
    have hs:=yM s
    unfold vF
    rw [if_pos (by simp; omega),zCo hi]
    simp only [Option.bind_some,zDe]
    cases hb:zGM (bl s)[i] with
    |false=>exact .inr ⟨_,rfl,rfl,fun h=>by have:=h.2.2 _ (List.getElem_mem hi); rw [hb] at this; cases this⟩
    |true=>
     rw [zV (by omega)]
     refine .inl ⟨_,rfl,rfl,fun k hk hki=>?_⟩
     rcases Nat.lt_or_ge k i with h|h
     ·exact hp k hk h
     ·have:k=i:=by omega
      subst this; exact hb) (by
    rintro j ⟨rfl,hp⟩
    unfold vF
    rw [if_neg (by simp [yM])]
    refine ⟨_,rfl,fun c hc=>?_⟩
    obtain ⟨k,hk,rfl⟩:=List.getElem_of_mem hc
    exact hp k hk hk) (bl s).length 0 0 (by omega) ⟨rfl,fun k _ h=>by omega⟩
   simp only [wT,e,Option.bind_some]
   cases t with
   |ret r=>
    obtain ⟨rfl,h⟩:=h
    exact .inr ⟨h,rfl⟩
   |nxt u=>exact .inl ⟨⟨by omega,by omega,h⟩,rfl⟩
theorem zFa (s:ByteArray):∃r,xR s=some r∧(r=0↔zEm s):=by
 rcases zER s with ⟨h1,h2⟩|⟨h1,h2⟩
 ·exact ⟨0,h2,by simp [h1]⟩
 ·exact ⟨5,h2,by simp [h1]⟩
def total (fs:List File):Int:=match fs with
 |[]=>0
 |f::fs=>f.Data.length+total fs
theorem zCI:∀(l r:List File),total (l++r)=total l+total r
 |[],r=>by simp [total]
 |f::l,r=>by simp only [List.cons_append,total,zCI l r]; omega
theorem zCL:∀(l:List File),0≤total l
 |[]=>Int.le_refl _
 |f::l=>by have:=zCL l; simp only [total]; omega
theorem zHP:∀(l:List File) (C:Int),0≤C→(∀f∈l,(f.Data.length:Int)≤C)→total l≤l.length*C
 |[],C,_,_=>by simp [total]
 |f::l,C,hC,h=>by
  have h1:=h f (by simp)
  have h2:=zHP l C hC (fun g hg=>h g (by simp [hg]))
  simp only [total,List.length_cons,Int.natCast_add,Int.add_mul]
  omega
theorem zHX (d:zI) (h:d.Files.length≤1048576) (hf:∀f∈d.Files,f.Data.length≤1048576):zAy d=some (total d.Files):=by
 have htot:=zHP d.Files 1048576 (by omega) (fun f hm=>by have:=hf f hm; omega)
 have hb:((d.Files.length:Int))*1048576≤1048576*1048576:=Int.mul_le_mul_of_nonneg_right (by omega) (by omega)
 obtain ⟨t,e,rfl⟩:=jP (b:=kW d) (fun i s=>s=(total (d.Files.take i),(i:Int))) d.Files.length (fun t=>t=total d.Files) (by
  rintro i s hi rfl
  unfold kW
  rw [if_pos (by simp; omega)]
  have hsplit:total (d.Files.take (i+1))=total (d.Files.take i)+d.Files[i].Data.length :=by
   rw [List.take_succ_eq_append_getElem hi,zCI]
   simp [total]
  have hle:total d.Files=total (d.Files.take (i+1))+total (d.Files.drop (i+1)):=by rw [←zCI,List.take_append_drop]
  have h1:=zCL (d.Files.take i)
  have h2:=zCL (d.Files.drop (i+1))
  simp only [zP hi,Option.bind_some]
  rw [xE (by omega) (by omega),zV (by omega)]
  exact .inl ⟨_,rfl,by rw [hsplit]⟩) (by
  rintro s rfl
  unfold kW
  rw [if_neg (by simp)]
  exact ⟨_,rfl,by simp⟩) d.Files.length 0 (0,0) (by omega) (by simp [total])
 simp only [zAy,zAk,e,Option.bind_some]
structure zI.good (d:zI):Prop where
 b0:0≤d.Budget
 b1:d.Budget≤20000
 w0:0≤d.Writes
 w1:d.Writes≤1000000000
 s0: -1≤d.Stop
 s1:d.Stop≤1000000000
 len:d.Files.length≤120
 path:∀f∈d.Files,zEm f.Path
 data:∀f∈d.Files,f.Data.length≤4000
 sorted:d.Files.Pairwise (fun f g=>slt f.Path g.Path=true)
 room:total d.Files≤d.Budget
theorem zEU (d:zI):jK d=xU d:=by
 unfold jK xU
 have:uD d=wQ d:=by
  unfold uD wQ
  refine zD9 fun i=>?_
  unfold zBD vG
  split
  ·cases hx:idx d.Files i with
   |none=>rfl
   |some x=>simp only [Option.bind_some,zFW]
  ·rfl
 rw [this]
 rfl
theorem zI5 {xs:List File} (h:∀i,(hi:i+1<xs.length)→slt xs[i].Path xs[i+1].Path =true):xs.Pairwise (fun f g=>slt f.Path g.Path=true):=by
 induction xs with
 |nil=>exact .nil
 |cons x xs ih=>
  have h':∀i,(hi:i+1<xs.length)→slt xs[i].Path xs[i+1].Path =true:=fun i hi=>h (i+1) (by simp; omega)
  have ih':=ih h'
  refine .cons ?_ ih'
  cases xs with
  |nil=>simp
  |cons y ys=>
   have hxy:slt x.Path y.Path=true:=by simpa using h 0 (by simp)
   intro z hz
   rcases List.mem_cons.1 hz with rfl|hz
   ·exact hxy
   ·exact zE0 hxy ((List.pairwise_cons.1 ih').1 z hz)
theorem zEY (d:zI) (h:d.Files.length≤1048576):∃c,xU d=some c∧(c=0→d.good):=by
 unfold xU
 simp only [zLI,Option.bind_some]
 by_cases hB:0≤d.Budget∧d.Budget≤20000
 ·by_cases hW:0≤d.Writes∧d.Writes≤1000000000
  ·by_cases hS: -1≤d.Stop∧d.Stop≤1000000000
   ·simp [hB.1,hB.2,hW.1,hW.2,hS.1,hS.2]
    by_cases hl:120<d.Files.length
    ·rw [if_pos (by omega)]
     exact ⟨2,rfl,by simp⟩
    ·rw [if_neg (by omega)]
     obtain ⟨t,e,ht⟩:=jP (b:=vG d) (fun i s=>s=(i:Int)∧(∀j,(hj:j<d.Files.length)→j<i→zEm d.Files[j].Path ∧d.Files[j].Data.length ≤4000)∧∀j,(hj:j+1<d.Files.length)→j+1<i→slt d.Files[j].Path d.Files[j+1].Path =true) d.Files.length
      (fun t=>match t with| .ret r=>r≠0| .nxt _=>(∀f∈d.Files,zEm f.Path∧f.Data.length≤4000)∧d.Files.Pairwise (fun f g=>slt f.Path g.Path=true)) (by
      rintro i s hi ⟨rfl,h1,h2⟩
      unfold vG
      rw [if_pos (by simp; omega)]
      obtain ⟨r,hr,hr2⟩:=zFa d.Files[i].Path
      simp only [zP hi,Option.bind_some,hr]
      by_cases hr0:r=0
      ·subst hr0
       rw [if_neg (by simp)]
       have key:∃q,(if decide ((i:Int)>0) then (idx d.Files (w64 ((i:Int)-1))).bind fun x39=>some (slt d.Files[i].Path x39.Path||seq d.Files[i].Path x39.Path) else some false)=some q∧(q=false→∀j,(hj:j+1<d.Files.length)→j+1<i+1→slt d.Files[j].Path d.Files[j+1].Path =true):=by
        by_cases hp:i=0
        ·subst hp
         exact ⟨false,by simp,fun _ j hj hji=>by omega⟩
        ·rw [if_pos (by simp; omega),xE (by omega) (by omega),show ((i:Int)-1)=((i-1:Nat):Int) by omega,zP (show i-1<d.Files.length by omega)]
         refine ⟨_,rfl,fun hq j hj hji=>?_⟩
         rcases Nat.lt_or_ge (j+1) i with hlt|hge
         ·exact h2 j hj hlt
         ·have hj1:j+1=i:=by omega
          subst hj1
          simp only [Bool.or_eq_false_iff] at hq
          have hq1:=hq.1
          have hq2:d.Files[j+1].Path ≠d.Files[j].Path :=fun e=>by
           have:=hq.2
           simp only [Nat.add_sub_cancel] at this
           rw [e] at this
           simp at this
          simp only [Nat.add_sub_cancel] at hq1
          exact zLm hq1 hq2
       obtain ⟨q,hq,hq2⟩:=key
       rw [hq]
       simp only [Option.bind_some]
       cases q with
       |true=>exact .inr ⟨_,rfl,by simp⟩
       |false=>
        by_cases hd:(d.Files[i].Data.length :Int)>4000
        ·exact .inr ⟨.ret 2,by rw [if_neg (by simp),if_pos (by simpa using hd)],by simp⟩
        ·refine .inl ⟨((i+1:Nat):Int),?_,rfl,fun j hj hji=>?_,hq2 rfl⟩
         ·rw [if_neg (by simp),if_neg (by simpa using hd),zV (by omega)]
         ·rcases Nat.lt_or_ge j i with h'|h'
          ·exact h1 j hj h'
          ·have:j=i:=by omega
           subst this
           exact ⟨hr2.1 rfl,by omega⟩
      ·rw [if_pos (by simpa using hr0)]
       exact .inr ⟨_,rfl,hr0⟩) (by
      rintro s ⟨rfl,h1,h2⟩
      unfold vG
      rw [if_neg (by simp)]
      refine ⟨_,rfl,fun f hf=>?_,zI5 (fun i hi=>h2 i hi hi)⟩
      obtain ⟨j,hj,rfl⟩:=List.getElem_of_mem hf
      exact h1 j hj hj) d.Files.length 0 0 (by omega) ⟨rfl,fun j _ h=>by omega,fun j _ h=>by omega⟩
     simp only [wQ,e,Option.bind_some]
     cases t with
     |ret r=>exact ⟨r,rfl,fun h=>absurd h ht⟩
     |nxt u=>
      simp only [Fl.go]
      rw [zHX d h (fun f hf=>by have:=(ht.1 f hf).2; omega)]
      simp only [Option.bind_some]
      by_cases hr:d.Budget<total d.Files
      ·rw [if_pos hr]
       exact ⟨8,rfl,by simp⟩
      ·rw [if_neg hr]
       exact ⟨0,rfl,fun _=>⟨hB.1,hB.2,hW.1,hW.2,hS.1,hS.2,by omega,fun f hf=>(ht.1 f hf).1,fun f hf=>(ht.1 f hf).2,ht.2,by omega⟩⟩
   ·refine ⟨3,?_,by simp⟩
    simp [hB.1,hB.2,hW.1,hW.2]
    intro a b
    exact absurd ⟨a,b⟩ hS
  ·refine ⟨3,?_,by simp⟩
   simp [hB.1,hB.2]
   rw [if_pos (by omega)]
   rfl
 ·refine ⟨3,?_,by simp⟩
  rw [if_pos (by simp; omega)]
  rfl
theorem zIH (s p:ByteArray):strings_HasPrefix s p=vN s p:=by
 unfold strings_HasPrefix yP vN
 split
 ·cases zHd s 0 (p.size:Int)<;>rfl
 ·rfl
def begins (s p:ByteArray):Bool:=decide (p.size≤s.size)&&seq (s.extract 0 p.size) p
theorem zGW (s p:ByteArray):vN s p=some (begins s p):=by
 unfold vN begins
 by_cases h:p.size≤s.size
 ·rw [if_pos (by simp; omega)]
  unfold zHd
  rw [if_pos (by omega)]
  simp [h]
 ·rw [if_neg (by simp; omega)]
  simp [h]
theorem zHT (d:zI) (p:ByteArray):uM d p=tN d p:=by
 have:vI d p=uF d p:=by
  unfold vI uF
  refine zD9 fun s=>?_
  unfold zBs uR
  split
  ·cases h:idx d.Files s.2 with
   |none=>rfl
   |some x=>simp only [Option.bind_some,zIH]
  ·rfl
 unfold uM tN
 rw [this]
def wR (fs:List File) (p:ByteArray):List ByteArray:=(fs.filter (fun f=>begins f.Path p)).map (·.Path)
theorem zEZ (l r:List File) (p:ByteArray):wR (l++r) p=wR l p++wR r p:=by
 simp [wR]
theorem zBQ (l:List File) (p:ByteArray):(wR l p).length ≤l.length:=by
 simp only [wR,List.length_map]
 exact List.length_filter_le _ _
theorem zFu (d:zI) (p:ByteArray) (h:d.Files.length≤1048576):tN d p=some (wR d.Files p):=by
 obtain ⟨t,e,rfl⟩:=jP (b:=uR d p) (fun i s=>s=(wR (d.Files.take i) p,(i:Int))) d.Files.length (fun t=>t=wR d.Files p) (by
  rintro i s hi rfl
  unfold uR
  rw [if_pos (by simp; omega)]
  have hl:=zBQ (d.Files.take i) p
  have hl2:(d.Files.take i).length ≤i:=by simp; omega
  have ha:∀x:ByteArray,app 16 (wR (d.Files.take i) p) [x]=some (wR (d.Files.take i) p++[x]):=fun x=>zDx (by simp; omega) (by simp; omega)
  have hsplit:wR (d.Files.take (i+1)) p=wR (d.Files.take i) p++wR [d.Files[i]] p:=by
   rw [List.take_succ_eq_append_getElem hi,zEZ]
  simp only [zP hi,Option.bind_some,zGW,ha,zV (show i<9223372036854775807 by omega)]
  cases hb:begins d.Files[i].Path p with
  |true=>exact .inl ⟨_,rfl,by rw [hsplit]; simp [wR,hb]⟩
  |false=>exact .inl ⟨_,rfl,by rw [hsplit]; simp [wR,hb]⟩) (by
  rintro s rfl
  unfold uR
  rw [if_neg (by simp)]
  exact ⟨_,rfl,by simp⟩) d.Files.length 0 ([],0) (by omega) (by simp [wR])
 simp only [tN,uF,e,Option.bind_some]
theorem zF0:∀(a b:List UInt8),(Lib.compareBytes a b<0↔Op.bytesLess a b=true)∧(Lib.compareBytes a b=0↔a=b)
 |[],[]=>by simp [Lib.compareBytes,Op.bytesLess]
 |[],_::_=>by simp [Lib.compareBytes,Op.bytesLess]
 |_::_,[]=>by simp [Lib.compareBytes,Op.bytesLess]
 |x::a,y::b=>by
  obtain ⟨ih1,ih2⟩:=zF0 a b
  simp only [Lib.compareBytes,Op.bytesLess]
  by_cases h1:x<y
  ·simp [h1]
   intro e; subst e; exact absurd h1 (by simp [UInt8.lt_irrefl])
  ·by_cases h2:y<x
   ·simp [h1,h2]
    have hne:x≠y:=fun e=>by subst e; exact absurd h2 (by simp [UInt8.lt_irrefl])
    simp [hne]
   ·have e:x=y:=by
     rw [UInt8.lt_iff_toNat_lt] at h1 h2
     exact UInt8.toNat_inj.1 (by omega)
    subst e
    simp [UInt8.lt_irrefl,ih1,ih2]
theorem zJi (a b:ByteArray):zK4 a b<0↔slt a b=true:=by
 unfold zK4 slt
 rw [ByteArray.toList_eq,ByteArray.toList_eq]
 exact (zF0 _ _).1
theorem zJb (a b:ByteArray):zK4 a b=0↔a=b:=by
 unfold zK4
 rw [(zF0 _ _).2,←ByteArray.toList_eq,←ByteArray.toList_eq]
 exact ⟨toList_inj,fun e=>by rw [e]⟩
theorem zLn {i j:Int} (h0:0≤i) (h1:i≤j) (h2:j≤4611686018427387903):w64 ((IntKind.u64.wrap (w64 (i+j))).fdiv (2^(min (1:Int).toNat 64)))=(i+j) / 2:=by
 rw [xE (x:=i+j) (by omega) (by omega)]
 have e1:IntKind.u64.wrap (i+j)=i+j:=by
  simp only [IntKind.wrap,IntKind.signed,IntKind.bits]
  simp
  omega
 rw [e1]
 have e2:((2:Int)^(min (1:Int).toNat 64))=2:=by decide
 rw [e2,Int.fdiv_eq_ediv_of_nonneg _ (by omega)]
 exact xE (by omega) (by omega)
theorem zFo (f:File) (p:ByteArray):xZ f p=some (zK4 f.Path p):=rfl
theorem zIm (fs:List File) (p:ByteArray) (h:fs.length≤1048576):
  ∃(k:Nat) (b:Bool),zC fs p=some ((k:Int),b)∧k≤fs.length∧(b=true→∃hk:k<fs.length,fs[k].Path =p)∧
   (fs.Pairwise (fun f g=>slt f.Path g.Path=true)→(∀i,(hi:i<fs.length)→i<k→slt fs[i].Path p=true)∧(∀i,(hi:i<fs.length)→k≤i→slt fs[i].Path p=false)∧(b=false→∀f∈fs,f.Path≠p)):=by
 obtain ⟨t,e,k,rfl,hk,hs⟩:=zGB (b:=yA fs p)
  (fun s=>∃i j:Nat,s=((i:Int),(j:Int))∧i≤j∧j≤fs.length∧(fs.Pairwise (fun f g=>slt f.Path g.Path=true)→(∀q,(hq:q<fs.length)→q<i→slt fs[q].Path p=true)∧(∀q,(hq:q<fs.length)→j≤q→slt fs[q].Path p=false)))
  (fun s=>(s.2-s.1).toNat)
  (fun t=>∃k:Nat,t=(k:Int)∧k≤fs.length∧(fs.Pairwise (fun f g=>slt f.Path g.Path=true)→(∀q,(hq:q<fs.length)→q<k→slt fs[q].Path p=true)∧(∀q,(hq:q<fs.length)→k≤q→slt fs[q].Path p=false))) (by
  rintro s ⟨i,j,rfl,hij,hj,hP⟩
  unfold yA
  by_cases hlt:i<j
  ·left
   rw [if_pos (by simp; omega)]
   simp only
   rw [zLn (by omega) (by omega) (by omega)]
   have hm:(((i:Int)+(j:Int)) / 2)=(((i+j) / 2:Nat):Int):=by omega
   rw [hm]
   have hmj:(i+j) / 2<j:=by omega
   have him:i≤(i+j) / 2:=by omega
   generalize (i+j) / 2=m at*
   have hmn:m<fs.length:=by omega
   simp only [zP hmn,Option.bind_some,zFo]
   by_cases hc:zK4 fs[m].Path p<0
   ·rw [if_pos (by simpa using hc),zV (by omega)]
    refine ⟨_,rfl,⟨m+1,j,rfl,by omega,hj,fun hso=>?_⟩,by simp; omega⟩
    obtain ⟨g1,g2⟩:=hP hso
    refine ⟨fun q hq hqm=>?_,g2⟩
    have hl:=(zJi _ _).1 hc
    rcases Nat.lt_or_ge q m with h'|h'
    ·exact zE0 (List.pairwise_iff_getElem.1 hso q m hq hmn h') hl
    ·have:q=m:=by omega
     subst this; exact hl
   ·rw [if_neg (by simpa using hc)]
    refine ⟨_,rfl,⟨i,m,rfl,by omega,by omega,fun hso=>?_⟩,by simp; omega⟩
    obtain ⟨g1,g2⟩:=hP hso
    refine ⟨g1,fun q hq hmq=>?_⟩
    have hl:slt fs[m].Path p=false:=by
     cases h':slt fs[m].Path p with
     |false=>rfl
     |true=>exact absurd ((zJi _ _).2 h') hc
    rcases Nat.lt_or_ge m q with h'|h'
    ·cases hq2:slt fs[q].Path p with
     |false=>rfl
     |true=>
      have:=zE0 (List.pairwise_iff_getElem.1 hso m q hmn hq h') hq2
      rw [hl] at this; cases this
    ·have:q=m:=by omega
     subst this; exact hl
  ·right
   rw [if_neg (by simp; omega)]
   have:i=j:=by omega
   subst this
   exact ⟨_,rfl,i,rfl,by omega,hP⟩) fs.length (0,(fs.length:Int)) (by simp) ⟨0,fs.length,rfl,by omega,by omega,fun _=>⟨fun q _ h=>by omega,fun q hq h=>by omega⟩⟩
 unfold zC
 rw [show zO fs p (0,(fs.length:Int))=some (k:Int) from e]
 simp only [Option.bind_some]
 by_cases hkn:k<fs.length
 ·rw [if_pos (by simpa using hkn)]
  simp only [zP hkn,Option.bind_some,zFo]
  refine ⟨k,_,rfl,hk,fun hb=>⟨hkn,(zJb _ _).1 (by simpa using hb)⟩,fun hso=>⟨(hs hso).1,(hs hso).2,fun hb f hf hfp=>?_⟩⟩
  have hne:zK4 fs[k].Path p≠0:=by simpa using hb
  obtain ⟨q,hq,rfl⟩:=List.getElem_of_mem hf
  rcases Nat.lt_trichotomy q k with h'|h'|h'
  ·have:=(hs hso).1 q hq h'
   rw [hfp,zCW] at this; cases this
  ·subst h'; exact hne ((zJb _ _).2 hfp)
  ·have h1:=List.pairwise_iff_getElem.1 hso k q hkn hq h'
   have h2:=(hs hso).2 k hkn (Nat.le_refl _)
   rw [hfp] at h1
   rw [h1] at h2; cases h2
 ·rw [if_neg (by simpa using hkn)]
  refine ⟨k,false,rfl,hk,(fun hb=>by cases hb),fun hso=>⟨(hs hso).1,(hs hso).2,fun _ f hf hfp=>?_⟩⟩
  obtain ⟨q,hq,rfl⟩:=List.getElem_of_mem hf
  have:=(hs hso).1 q hq (by omega)
  rw [hfp,zCW] at this; cases this
theorem zHa (d:zI) (p:ByteArray) (h:d.Files.length≤1048576):
  (∃k:Nat,∃hk:k<d.Files.length,yX d p=some (k:Int)∧d.Files[k].Path =p)∨(yX d p=some (-1)∧∀f∈d.Files,f.Path≠p):=by
 obtain ⟨t,e,ht⟩:=jP (b:=zAu d p) (fun i s=>s=(i:Int)∧∀q,(hq:q<d.Files.length)→q<i→d.Files[q].Path ≠p) d.Files.length
  (fun t=>match t with| .ret r=>∃k:Nat,∃hk:k<d.Files.length,r=(k:Int)∧d.Files[k].Path =p| .nxt _=>∀f∈d.Files,f.Path≠p) (by
  rintro i s hi ⟨rfl,hq⟩
  unfold zAu
  rw [if_pos (by simp; omega)]
  simp only [zP hi,Option.bind_some]
  by_cases hp:d.Files[i].Path =p
  ·rw [if_pos (zFF.2 hp)]
   exact .inr ⟨_,rfl,i,hi,rfl,hp⟩
  ·rw [if_neg (fun h'=>hp (zFF.1 h')),zV (by omega)]
   refine .inl ⟨_,rfl,rfl,fun q hq' hqi=>?_⟩
   rcases Nat.lt_or_ge q i with h'|h'
   ·exact hq q hq' h'
   ·have:q=i:=by omega
    subst this; exact hp) (by
  rintro s ⟨rfl,hq⟩
  unfold zAu
  rw [if_neg (by simp)]
  refine ⟨_,rfl,fun f hf=>?_⟩
  obtain ⟨q,hq',rfl⟩:=List.getElem_of_mem hf
  exact hq q hq' hq') d.Files.length 0 0 (by omega) ⟨rfl,fun q _ h=>by omega⟩
 unfold yX
 rw [show zBb d p 0=some t from e]
 cases t with
 |ret r=>
  obtain ⟨k,hk,rfl,hp⟩:=ht
  exact .inl ⟨k,hk,rfl,hp⟩
 |nxt _=>exact .inr ⟨rfl,ht⟩
theorem zFt {fs:List File} (hs:fs.Pairwise (fun f g=>slt f.Path g.Path=true)) {i j:Nat} (hi:i<fs.length) (hj:j<fs.length) (h:fs[i].Path =fs[j].Path):i=j:=by
 rcases Nat.lt_trichotomy i j with h'|h'|h'
 ·have:=List.pairwise_iff_getElem.1 hs i j hi hj h'
  rw [h,zCW] at this; cases this
 ·exact h'
 ·have:=List.pairwise_iff_getElem.1 hs j i hj hi h'
  rw [h,zCW] at this; cases this
theorem zIg (d:zI) (p:ByteArray) (hl0:d.Files.length≤120) (hso:d.Files.Pairwise (fun f g=>slt f.Path g.Path=true)):
  (∃k:Nat,∃hk:k<d.Files.length,yX d p=some (k:Int)∧zC d.Files p=some ((k:Int),true)∧d.Files[k].Path =p)∨
   (yX d p=some (-1)∧(∀f∈d.Files,f.Path≠p)∧∃k:Nat,zC d.Files p=some ((k:Int),false)∧k≤d.Files.length∧(∀i,(hi:i<d.Files.length)→i<k→slt d.Files[i].Path p=true)∧(∀i,(hi:i<d.Files.length)→k≤i→slt d.Files[i].Path p=false)):=by
 have hl:d.Files.length≤1048576:=by omega
 obtain ⟨k,b,e,hk,h1,h2⟩:=zIm d.Files p hl
 obtain ⟨g1,g2,g3⟩:=h2 hso
 rcases zHa d p hl with ⟨q,hq,e2,hp⟩|⟨e2,hp⟩
 ·left
  cases b with
  |false=>exact absurd hp (g3 rfl _ (List.getElem_mem hq))
  |true=>
   obtain ⟨hk',hp'⟩:=h1 rfl
   have:q=k:=zFt hso hq hk' (by rw [hp,hp'])
   subst this
   exact ⟨q,hq,e2,e,hp⟩
 ·right
  cases b with
  |true=>
   obtain ⟨hk',hp'⟩:=h1 rfl
   exact absurd hp' (hp _ (List.getElem_mem hk'))
  |false=>exact ⟨e2,hp,k,e,hk,g1,g2⟩
theorem zIv (d:zI) (p:ByteArray) (hl0:d.Files.length≤120) (hso:d.Files.Pairwise (fun f g=>slt f.Path g.Path=true)):
  (∃k:Nat,∃hk:k<d.Files.length,yX d p=some (k:Int)∧yS d p=some (d.Files[k].Data,true)∧d.Files[k].Path =p)∨
   (yX d p=some (-1)∧yS d p=some ([],false)∧∀f∈d.Files,f.Path≠p):=by
 rcases zIg d p hl0 hso with ⟨k,hk,e1,e2,hp⟩|⟨e1,hp,k,e2,_⟩
 ·left
  refine ⟨k,hk,e1,?_,hp⟩
  unfold yS uH
  rw [e2]
  simp only [Option.bind_some,Bool.not_true,Bool.false_eq_true,if_false,zP hk]
 ·right
  refine ⟨e1,?_,hp⟩
  unfold yS uH
  rw [e2]
  rfl
theorem zIT (d:zI) (p:ByteArray) (hg:d.good):
 (∃k:Nat,∃hk:k<d.Files.length,yX d p=some (k:Int)∧yS d p=some (d.Files[k].Data,true)∧d.Files[k].Path =p)∨
  (yX d p=some (-1)∧yS d p=some ([],false)∧∀f∈d.Files,f.Path≠p):=zIv d p hg.len hg.sorted
theorem zDX {P:List Int→Prop} (h0:P []) (h1:∀l c,P l→P (l++[c])) (l:List Int):P l:=by
 have key:∀m:List Int,P m.reverse:=by
  intro m
  induction m with
  |nil=>exact h0
  |cons c m ih=>rw [List.reverse_cons]; exact h1 _ c ih
 have:=key l.reverse
 rwa [List.reverse_reverse] at this
def zDp (c:Int):Bool:=decide (c≥48)&&decide (c≤57)
def val (l:List Int):Int:=l.foldl (fun a c=>a*10+(c-48)) 0
theorem zCA (l:List Int) (c:Int):val (l++[c])=val l*10+(c-48):=by simp [val]
theorem zCm {l:List Int} (h:∀c∈l,zDp c=true):0≤val l∧val l<10^l.length:=by
 revert h
 refine zDX (P:=fun l=>(∀c∈l,zDp c=true)→0≤val l∧val l<10^l.length) ?_ ?_ l
 ·intro _; simp [val]
 ·intro l c ih h
  obtain ⟨h1,h2⟩:=ih (fun x hx=>h x (by simp [hx]))
  have hc:=h c (by simp)
  simp only [zDp,Bool.and_eq_true,decide_eq_true_eq] at hc
  rw [zCA,List.length_append,List.length_singleton,Int.pow_succ]
  omega
def zI1 (l:List Int) (most:Int):Option Int:=if l.length<1∨(l.length:Int)>most∨¬(∀c∈l,zDp c=true) then none else some (val l)
theorem zH2 {n:Nat} (h:n≤17):(10:Int)^n≤100000000000000000:=by
 have:(10:Nat)^n≤10^17:=Nat.pow_le_pow_right (by omega) h
 have e:((10^n:Nat):Int)=(10:Int)^n:=by simp
 rw [←e]
 omega
theorem zEp (c:Int):xY c=some (zDp c):=by
 unfold xY zDp
 cases decide (c≥48)<;>rfl
theorem zHc (s:ByteArray) (most:Int) (hm:most≤17):jY s most=some (match zI1 (bl s) most with|some n=>(n,true)|none=>(0,false)):=by
 unfold jY zI1
 have hl:=yM s
 by_cases h1:s.size<1
 ·rw [if_pos (by simp; omega),if_pos (by omega)]
  rfl
 ·rw [if_neg (by simp; omega)]
  simp only [Option.bind_some]
  by_cases h2:(s.size:Int)>most
  ·rw [if_pos (by simpa using h2),if_pos (by omega)]
  ·rw [if_neg (by simpa using h2)]
   obtain ⟨t,e,ht⟩:=jP (b:=jU s) (fun i q=>q=(val ((bl s).take i),(i:Int))∧∀c∈(bl s).take i,zDp c=true) (bl s).length
    (fun t=>match t with| .ret r=>r=(0,false)∧¬ ∀c∈bl s,zDp c=true| .nxt v=>v=val (bl s)∧∀c∈bl s,zDp c=true) (by
    rintro i q hi ⟨rfl,hd⟩
    have hb:=zCm hd
    have hlen:((bl s).take i).length ≤17:=by simp; omega
    have hp:=zH2 hlen
    have hr:=zF8 _ (List.getElem_mem hi)
    unfold jU
    rw [if_pos (by simp; omega)]
    simp only [zCo hi,Option.bind_some,zEp]
    cases hc:zDp (bl s)[i] with
    |false=>exact .inr ⟨_,rfl,rfl,fun h=>by have:=h _ (List.getElem_mem hi); rw [hc] at this; cases this⟩
    |true=>
     have hc':=hc
     simp only [zDp,Bool.and_eq_true,decide_eq_true_eq] at hc'
     rw [wrap_u8 (by omega) (by omega),xE (x:=(bl s)[i]-48) (by omega) (by omega),xE (x:=val ((bl s).take i)*10) (by omega) (by omega),xE (by omega) (by omega),zV (by omega)]
     refine .inl ⟨_,rfl,by rw [List.take_succ_eq_append_getElem hi,zCA],fun c hcm=>?_⟩
     rw [List.take_succ_eq_append_getElem hi] at hcm
     rcases List.mem_append.1 hcm with h|h
     ·exact hd c h
     ·simp at h; rw [h]; exact hc) (by
    rintro q ⟨rfl,hd⟩
    unfold jU
    rw [if_neg (by simp; omega)]
    rw [List.take_length] at hd ⊢
    exact ⟨_,rfl,rfl,hd⟩) (bl s).length 0 (0,0) (by omega) ⟨by simp [val],by simp⟩
   unfold kY
   rw [e]
   cases t with
   |ret r=>
    obtain ⟨rfl,h⟩:=ht
    rw [if_pos (.inr (.inr h))]
    rfl
   |nxt v=>
    obtain ⟨rfl,h⟩:=ht
    rw [if_neg (fun h'=>by rcases h' with h'|h'|h'<;>first|omega|exact h' h)]
    rfl
theorem number_eq (s:ByteArray) (most:Int) (hm:most≤17):zB0 s most=some (match zI1 (bl s) most with|some n=>n|none=> -1):=by
 unfold zB0 zI1
 have hl:=yM s
 have he:seq s (bs [])=decide (s.size<1):=by
  rw [zH3,zJ2,List.map_nil]
  rw [Bool.eq_iff_iff]
  simp only [decide_eq_true_eq]
  constructor
  ·intro h; rw [h] at hl; simp at hl; omega
  ·intro h; exact List.eq_nil_of_length_eq_zero (by omega)
 rw [he]
 by_cases h1:s.size<1
 ·rw [if_pos (by simpa using h1),if_pos (by omega)]
  rfl
 ·rw [if_neg (by simpa using h1)]
  simp only [Option.bind_some]
  by_cases h2:(s.size:Int)>most
  ·rw [if_pos (by simpa using h2),if_pos (by omega)]
  ·rw [if_neg (by simpa using h2)]
   obtain ⟨t,e,ht⟩:=jP (b:=zAj s) (fun i q=>q=(val ((bl s).take i),(i:Int))∧∀c∈(bl s).take i,zDp c=true) (bl s).length
    (fun t=>match t with| .ret r=>r= -1∧¬ ∀c∈bl s,zDp c=true| .nxt v=>v=val (bl s)∧∀c∈bl s,zDp c=true) (by
    rintro i q hi ⟨rfl,hd⟩
    have hb:=zCm hd
    have hlen:((bl s).take i).length ≤17:=by simp; omega
    have hp:=zH2 hlen
    have hr:=zF8 _ (List.getElem_mem hi)
    unfold zAj
    rw [if_pos (by simp; omega)]
    simp only [zCo hi,Option.bind_some]
    have hq:(if decide ((bl s)[i]<48)=true then some true else some (decide ((bl s)[i]>57)))=some (!zDp (bl s)[i]):=by
     unfold zDp
     by_cases a:(bl s)[i]<48
     ·have b:¬((bl s)[i]≥48):=by omega
      simp [a,b]
     ·have b:(bl s)[i]≥48:=by omega
      by_cases c:(bl s)[i]>57
      ·have d:¬((bl s)[i]≤57):=by omega
       simp [a,b,c,d]
      ·have d:(bl s)[i]≤57:=by omega
       simp [a,b,c,d]
    rw [hq]
    simp only [Option.bind_some]
    cases hc:zDp (bl s)[i] with
    |false=>exact .inr ⟨_,rfl,rfl,fun h=>by have:=h _ (List.getElem_mem hi); rw [hc] at this; cases this⟩
    |true=>
     have hc':=hc
     simp only [zDp,Bool.and_eq_true,decide_eq_true_eq] at hc'
     rw [wrap_u8 (by omega) (by omega),xE (x:=(bl s)[i]-48) (by omega) (by omega),xE (x:=10*val ((bl s).take i)) (by omega) (by omega),xE (by omega) (by omega),zV (by omega)]
     refine .inl ⟨_,rfl,by rw [List.take_succ_eq_append_getElem hi,zCA,Int.mul_comm],fun c hcm=>?_⟩
     rw [List.take_succ_eq_append_getElem hi] at hcm
     rcases List.mem_append.1 hcm with h|h
     ·exact hd c h
     ·simp at h; rw [h]; exact hc) (by
    rintro q ⟨rfl,hd⟩
    unfold zAj
    rw [if_neg (by simp; omega)]
    rw [List.take_length] at hd ⊢
    exact ⟨_,rfl,rfl,hd⟩) (bl s).length 0 (0,0) (by omega) ⟨by simp [val],by simp⟩
   unfold zBd
   rw [e]
   cases t with
   |ret r=>
    obtain ⟨rfl,h⟩:=ht
    rw [if_pos (.inr (.inr h))]
    rfl
   |nxt v=>
    obtain ⟨rfl,h⟩:=ht
    rw [if_neg (fun h'=>by rcases h' with h'|h'|h'<;>first|omega|exact h' h)]
    rfl
theorem zKl {l:List Int} (h:∀c∈l,zDp c=true):zDm (10^l.length+(val l).toNat)=49::l:=by
 revert h
 refine zDX (P:=fun l=>(∀c∈l,zDp c=true)→zDm (10^l.length+(val l).toNat)=49::l) ?_ ?_ l
 ·intro _; rw [zB8 (by decide)]; rfl
 ·intro l c ih h
  have hl:∀c∈l,zDp c=true:=fun x hx=>h x (by simp [hx])
  have hb:=zCm hl
  have hc:=h c (by simp)
  simp only [zDp,Bool.and_eq_true,decide_eq_true_eq] at hc
  have e1:(val (l++[c])).toNat =(val l).toNat *10+(c-48).toNat :=by rw [zCA]; omega
  have e2:10^(l++[c]).length =10^l.length*10:=by rw [List.length_append,List.length_singleton,Nat.pow_succ]
  have hp:1≤10^l.length:=Nat.one_le_pow _ _ (by omega)
  rw [e1,e2,zC8 (by omega)]
  have e3:(10^l.length*10+((val l).toNat *10+(c-48).toNat)) / 10=10^l.length+(val l).toNat :=by omega
  have e4:(10^l.length*10+((val l).toNat *10+(c-48).toNat))%10=(c-48).toNat :=by omega
  rw [e3,e4,ih hl,List.cons_append]
  congr 3
  omega
def zKU:List Int:=[103,101,110,47]
theorem zHI:bl (bs [103,101,110,47])=zKU:=zJ2 _
theorem zIn (n:Int):∃s,zAF n=some s∧bl s=(if 1≤n∧n≤999999 then zKU++(zDm (1000000+n.toNat)).drop 1 else []):=by
 unfold zAF
 rw [zLI]
 simp only [Option.bind_some]
 by_cases h:1≤n∧n≤999999
 ·rw [if_pos h]
  have hb:(decide (n≥1)&&decide (n≤999999))=true:=by simp; omega
  rw [hb]
  rw [xE (by omega) (by omega),show (1000000:Int)+n=((1000000+n.toNat:Nat):Int) by omega]
  obtain ⟨s,e,hs⟩:=zCt (1000000+n.toNat) (by omega)
  have hlen:(zDm (1000000+n.toNat)).length =7:=zDs 6 _ (by omega) (by omega)
  have hsz:s.size=7:=by rw [←yM,hs,hlen]
  rw [e]
  simp only [Bool.not_true,Bool.false_eq_true,if_false,Option.bind_some]
  unfold zHd
  rw [if_pos (by omega)]
  simp only [Option.bind_some]
  have hx:(s.extract (1:Int).toNat ((s.size:Int)).toNat).size =6:=by
   rw [←yM,zCy,List.length_take,List.length_drop,hs,hlen,hsz]
   rfl
  unfold cat
  rw [if_pos (by have:(bs [103,101,110,47]).size =4:=rfl; omega)]
  refine ⟨_,rfl,?_⟩
  rw [zCi,zHI,zCy,hs]
  congr 1
  rw [List.take_of_length_le (by rw [List.length_drop,hlen,hsz]; decide)]
  rfl
 ·rw [if_neg h]
  have hb:(decide (n≥1)&&decide (n≤999999))=false:=by
   simp only [Bool.and_eq_false_iff,decide_eq_false_iff_not]; omega
  rw [hb]
  exact ⟨_,rfl,zJ2 _⟩
def zBA (l:List Int):Option Int:=match zI1 (l.drop 4) 6 with
 |some n=>if n≥1∧l.length=10 then some n else none
 |none=>none
theorem zKV {l:List Int} (hp:l.take 4=zKU) (hl:4≤l.length) {n:Int} (h:zI1 (l.drop 4) 6=some n):
  (if 1≤n∧n≤999999 then zKU++(zDm (1000000+n.toNat)).drop 1 else [])=l↔(n≥1∧l.length=10):=by
 unfold zI1 at h
 split at h
 ·cases h
 ·rename_i hc
  cases h
  have hc1:1≤(l.drop 4).length :=by omega
  have hc2:(l.drop 4).length ≤6:=by omega
  have hd:∀c∈l.drop 4,zDp c=true:=Classical.byContradiction fun h=>hc (.inr (.inr h))
  have hb:=zCm hd
  have hle:val (l.drop 4)≤999999:=by
   have:(10:Nat)^(l.drop 4).length ≤10^6:=Nat.pow_le_pow_right (by omega) hc2
   have e:(((10:Nat)^(l.drop 4).length :Nat):Int)=(10:Int)^(l.drop 4).length :=by simp
   omega
  have hll:l.length=4+(l.drop 4).length :=by simp; omega
  by_cases hn:1≤val (l.drop 4)
  ·rw [if_pos ⟨hn,hle⟩]
   constructor
   ·intro e
    refine ⟨hn,?_⟩
    rw [←e,List.length_append,List.length_drop,zDs 6 _ (by omega) (by omega)]
    rfl
   ·rintro ⟨_,h10⟩
    have h6:(l.drop 4).length =6:=by omega
    have key:=zKl hd
    rw [h6,show (10:Nat)^6=1000000 from rfl] at key
    rw [key,←hp]
    simp
  ·rw [if_neg (by omega)]
   constructor
   ·intro e
    rw [←e] at hll
    simp at hll
   ·rintro ⟨h',_⟩; omega
theorem zEg {s p:ByteArray} (h:begins s p=true):(bl s).take (bl p).length =bl p∧(bl p).length ≤(bl s).length :=by
 unfold begins at h
 simp only [Bool.and_eq_true,decide_eq_true_eq] at h
 have:=zFF.1 h.2
 refine ⟨?_,by rw [yM,yM]; exact h.1⟩
 have e:=congrArg bl this
 rw [zCy] at e
 simpa [yM] using e
theorem zDo {fs:List File} {p:ByteArray}:∀s∈wR fs p,begins s p=true:=by
 intro s hs
 unfold wR at hs
 obtain ⟨f,hf,rfl⟩:=List.mem_map.1 hs
 exact (List.mem_filter.1 hf).2
def zCE (fs:List File):List Int:=(wR fs (bs [103,101,110,47])).filterMap (fun p=>zBA (bl p))
theorem zE4 {ps:List ByteArray} (h:∀s∈ps,begins s (bs [103,101,110,47])=true) {i:Nat} (hi:i<ps.length):(bl ps[i]).take 4=zKU∧4≤(bl ps[i]).length :=by
 have:=zEg (h _ (List.getElem_mem hi))
 rw [zHI] at this
 exact this
theorem zGf {s:ByteArray} {k:Nat} (h:k≤s.size):∃t,zHd s (k:Int) (s.size:Int)=some t∧bl t=(bl s).drop k:=by
 unfold zHd
 rw [if_pos (by omega)]
 refine ⟨_,rfl,?_⟩
 rw [zCy]
 simp only [Int.toNat_natCast]
 rw [List.take_of_length_le (by rw [List.length_drop,yM]; exact Nat.le_refl _)]
theorem zJk {f:ByteArray→Option Int}:∀(l:List ByteArray),(l.filterMap f).length ≤l.length:=fun l=>List.length_filterMap_le f l
theorem zI3 (d:zI) (h:d.Files.length≤1048576):zBv d=some (zCE d.Files):=by
 unfold zBv zCE
 rw [zFu d _ h]
 simp only [Option.bind_some]
 have hm:=zDo (fs:=d.Files) (p:=bs [103,101,110,47])
 have hlen:=zBQ d.Files (bs [103,101,110,47])
 generalize wR d.Files (bs [103,101,110,47])=ps at*
 obtain ⟨t,e,rfl⟩:=jP (b:=zAf d ps) (fun i s=>s=((ps.take i).filterMap (fun p=>zBA (bl p)),(i:Int))) ps.length (fun t=>t=ps.filterMap (fun p=>zBA (bl p))) (by
  rintro i s hi rfl
  obtain ⟨hp,h4⟩:=zE4 hm hi
  have hsz:4≤ps[i].size :=by rw [←yM]; exact h4
  obtain ⟨u,hu,hub⟩:=zGf (s:=ps[i]) (k:=4) hsz
  have hu':zHd ps[i] 4 (ps[i].size :Int)=some u:=hu
  have hfl:=zJk (f:=fun p=>zBA (bl p)) (ps.take i)
  have hil:(ps.take i).length ≤i:=by simp; omega
  have ha:∀x:Int,app 8 ((ps.take i).filterMap (fun p=>zBA (bl p))) [x]=some ((ps.take i).filterMap (fun p=>zBA (bl p))++[x]):=fun x=>zDx (by simp; omega) (by simp; omega)
  have hsplit:(ps.take (i+1)).filterMap (fun p=>zBA (bl p))=(ps.take i).filterMap (fun p=>zBA (bl p))++[ps[i]].filterMap (fun p=>zBA (bl p)):=by
   rw [List.take_succ_eq_append_getElem hi,List.filterMap_append]
  unfold zAf
  rw [if_pos (by simp; omega)]
  simp only [zP hi,Option.bind_some,hu',zHc u 6 (by omega),hub,zV (show i<9223372036854775807 by omega)]
  left
  cases hn:zI1 ((bl ps[i]).drop 4) 6 with
  |none=>
   refine ⟨_,rfl,?_⟩
   rw [hsplit]
   simp [zBA,hn]
  |some n=>
   obtain ⟨g,hg,hgb⟩:=zIn n
   have hiff:=zKV hp h4 hn
   rw [←hgb] at hiff
   simp only [if_true,hg,Option.bind_some]
   rw [zH3]
   by_cases hc:n≥1∧(bl ps[i]).length =10
   ·rw [decide_eq_true (hiff.2 hc)]
    simp only [Option.bind_some,if_true,ha]
    refine ⟨_,rfl,?_⟩
    rw [hsplit]
    simp [zBA,hn,hc]
   ·rw [decide_eq_false (fun e=>hc (hiff.1 e))]
    refine ⟨_,rfl,?_⟩
    rw [hsplit]
    simp only [List.filterMap_cons,zBA,hn,if_neg hc,List.filterMap_nil,List.append_nil]) (by
  rintro s rfl
  unfold zAf
  rw [if_neg (by simp)]
  exact ⟨_,rfl,by simp⟩) ps.length 0 ([],0) (by omega) (by simp)
 simp only [zAW,e,Option.bind_some]
theorem zKW (d:zI) (h:d.Files.length≤1048576):jA d=some (zCE d.Files):=by
 unfold jA zCE
 rw [zHT,zFu d _ h]
 simp only [Option.bind_some]
 have hm:=zDo (fs:=d.Files) (p:=bs [103,101,110,47])
 have hlen:=zBQ d.Files (bs [103,101,110,47])
 generalize wR d.Files (bs [103,101,110,47])=ps at*
 obtain ⟨t,e,rfl⟩:=jP (b:=tV ps) (fun i s=>s=((ps.take i).filterMap (fun p=>zBA (bl p)),(i:Int))) ps.length (fun t=>t=ps.filterMap (fun p=>zBA (bl p))) (by
  rintro i s hi rfl
  obtain ⟨hp,h4⟩:=zE4 hm hi
  have hsz:4≤ps[i].size :=by rw [←yM]; exact h4
  obtain ⟨u,hu,hub⟩:=zGf (s:=ps[i]) (k:=4) hsz
  have hu':zHd ps[i] 4 (ps[i].size :Int)=some u:=hu
  have hfl:=zJk (f:=fun p=>zBA (bl p)) (ps.take i)
  have hil:(ps.take i).length ≤i:=by simp; omega
  have ha:∀x:Int,app 8 ((ps.take i).filterMap (fun p=>zBA (bl p))) [x]=some ((ps.take i).filterMap (fun p=>zBA (bl p))++[x]):=fun x=>zDx (by simp; omega) (by simp; omega)
  have hsplit:(ps.take (i+1)).filterMap (fun p=>zBA (bl p))=(ps.take i).filterMap (fun p=>zBA (bl p))++[ps[i]].filterMap (fun p=>zBA (bl p)):=by
   rw [List.take_succ_eq_append_getElem hi,List.filterMap_append]
  unfold tV
  rw [if_pos (by simp; omega)]
  simp only [zP hi,Option.bind_some,hu',number_eq u 6 (by omega),hub,zV (show i<9223372036854775807 by omega)]
  left
  cases hn:zI1 ((bl ps[i]).drop 4) 6 with
  |none=>
   refine ⟨_,rfl,?_⟩
   rw [hsplit]
   simp [zBA,hn]
  |some n=>
   have hbl:((ps[i].size :Int)==10)=decide ((bl ps[i]).length =10):=by
    rw [yM,Bool.eq_iff_iff]; simp; omega
   simp only [hbl]
   by_cases h1:n≥1
   ·rw [if_pos (by simpa using h1)]
    by_cases h2:(bl ps[i]).length =10
    ·rw [decide_eq_true h2]
     simp only [Option.bind_some,if_true,ha]
     refine ⟨_,rfl,?_⟩
     rw [hsplit]
     simp [zBA,hn,h1,h2]
    ·rw [decide_eq_false h2]
     refine ⟨_,rfl,?_⟩
     rw [hsplit]
     simp [zBA,hn,h2]
   ·rw [if_neg (by simpa using h1)]
    refine ⟨_,rfl,?_⟩
    rw [hsplit]
    simp only [List.filterMap_cons,zBA,hn,if_neg (fun h':n≥1∧(bl ps[i]).length =10=>h1 h'.1),List.filterMap_nil,List.append_nil]) (by
  rintro s rfl
  unfold tV
  rw [if_neg (by simp)]
  exact ⟨_,rfl,by simp⟩) ps.length 0 ([],0) (by omega) (by simp)
 simp only [jT,e,Option.bind_some]
theorem zGg (fs:List File):(zCE fs).length ≤fs.length:=by
 unfold zCE
 have h1:=zJk (f:=fun p=>zBA (bl p)) (wR fs (bs [103,101,110,47]))
 have h2:=zBQ fs (bs [103,101,110,47])
 omega
def zF5:List Int→List Int→Bool
 |_,[]=>false
 |[],_::_=>true
 |a::x,b::y=>decide (a<b)||(a==b&&zF5 x y)
theorem zJr (a b:ByteArray):slt a b=zF5 (bl a) (bl b):=by
 unfold slt bl
 generalize a.toList=x
 generalize b.toList=y
 induction x generalizing y with
 |nil=>cases y<;>rfl
 |cons u x ih=>
  cases y with
  |nil=>rfl
  |cons v y=>
   simp only [Op.bytesLess,List.map_cons,zF5,ih y]
   congr 1
   ·rw [Bool.eq_iff_iff]; simp [UInt8.lt_iff_toNat_lt]
   ·congr 1
    rw [Bool.eq_iff_iff]
    simp only [beq_iff_eq]
    constructor
    ·intro h; rw [h]
    ·intro h; exact UInt8.toNat_inj.1 (by omega)
theorem zHz (x:Int) (l:List Int):val (x::l)=(x-48)*10^l.length+val l:=by
 refine zDX (P:=fun l=>val (x::l)=(x-48)*10^l.length+val l) ?_ ?_ l
 ·simp [val]
 ·intro l c ih
  rw [←List.cons_append,zCA,zCA,ih,List.length_append,List.length_singleton,Int.pow_succ]
  rw [Int.add_mul,Int.mul_assoc]
  omega
theorem zH4:∀{a b:List Int},a.length=b.length→(∀c∈a,zDp c=true)→(∀c∈b,zDp c=true)→zF5 a b=true→val a<val b
 |[],[],_,_,_,h=>by simp [zF5] at h
 |x::a,y::b,hl,ha,hb,h=>by
  have hl':a.length=b.length:=by simpa using hl
  have ba:=zCm (l:=a) (fun c hc=>ha c (by simp [hc]))
  have bb:=zCm (l:=b) (fun c hc=>hb c (by simp [hc]))
  rw [zHz,zHz,hl']
  rw [hl'] at ba
  simp only [zF5,Bool.or_eq_true,decide_eq_true_eq,Bool.and_eq_true,beq_iff_eq] at h
  rcases h with h|⟨rfl,h⟩
  ·have e:(y-48)*10^b.length=(x-48)*10^b.length+(y-x)*10^b.length:=by rw [←Int.add_mul]; congr 1; omega
   have:1*(10:Int)^b.length≤(y-x)*10^b.length:=Int.mul_le_mul_of_nonneg_right (by omega) (by omega)
   omega
  ·have:=zH4 hl' (fun c hc=>ha c (by simp [hc])) (fun c hc=>hb c (by simp [hc])) h
   omega
 |[],_::_,hl,_,_,_=>by simp at hl
 |_::_,[],hl,_,_,_=>by simp at hl
theorem zDM:∀(p a b:List Int),zF5 (p++a) (p++b)=zF5 a b
 |[],_,_=>rfl
 |x::p,a,b=>by simp [zF5,zDM p a b]
theorem zDG {l:List Int} {n:Int} (h:zBA l=some n):l.length=10∧(∀c∈l.drop 4,zDp c=true)∧n=val (l.drop 4)∧1≤n∧n≤999999:=by
 unfold zBA at h
 cases hn:zI1 (l.drop 4) 6 with
 |none=>rw [hn] at h; cases h
 |some m=>
  rw [hn] at h
  simp only at h
  split at h
  ·rename_i hc
   cases h
   unfold zI1 at hn
   split at hn
   ·cases hn
   ·rename_i hc2
    cases hn
    have hd:∀c∈l.drop 4,zDp c=true:=Classical.byContradiction fun h=>hc2 (.inr (.inr h))
    have hb:=zCm hd
    have h6:(l.drop 4).length =6:=by rw [List.length_drop,hc.2]
    rw [h6] at hb
    exact ⟨hc.2,hd,rfl,hc.1,by omega⟩
  ·cases h
theorem zGe {fs:List File} {n:Int} (h:n∈zCE fs):1≤n∧n≤999999:=by
 unfold zCE at h
 obtain ⟨p,_,hp⟩:=List.mem_filterMap.1 h
 exact (zDG hp).2.2.2
theorem zDN {fs:List File} (hs:fs.Pairwise (fun f g=>slt f.Path g.Path=true)):(zCE fs).Pairwise (· < ·):=by
 unfold zCE
 have h1:(wR fs (bs [103,101,110,47])).Pairwise (fun a b=>slt a b=true):=by
  unfold wR
  rw [List.pairwise_map]
  exact List.Pairwise.filter _ hs
 have h2:=zDo (fs:=fs) (p:=bs [103,101,110,47])
 generalize wR fs (bs [103,101,110,47])=ps at*
 rw [List.pairwise_filterMap]
 refine List.Pairwise.imp_of_mem ?_ h1
 intro a b ha hb hab x hx y hy
 obtain ⟨a1,a2,rfl,_,_⟩:=zDG hx
 obtain ⟨b1,b2,rfl,_,_⟩:=zDG hy
 have pa:=zEg (h2 a ha)
 have pb:=zEg (h2 b hb)
 rw [zHI] at pa pb
 refine zH4 (by rw [List.length_drop,List.length_drop,a1,b1]) a2 b2 ?_
 rw [zJr,←List.take_append_drop 4 (bl a),←List.take_append_drop 4 (bl b)] at hab
 rw [show (bl a).take 4=zKU from pa.1,show (bl b).take 4=zKU from pb.1,zDM] at hab
 exact hab
theorem zKz {l:List Int} (h:∀c∈l,0≤c∧c≤255):bl (b2s l)=l:=by
 refine (zDX (P:=fun l=>(∀c∈l,0≤c∧c≤255)→bl (b2s l)=l) ?_ ?_ l) h
 ·intro _; exact zJ2 []
 ·intro l c ih h
  have e:b2s (l++[c])=b2s l++b2s [c]:=by
   unfold b2s
   rw [List.foldl_append]
   generalize List.foldl (fun r n=>ByteArray.push r (UInt8.ofNat n.toNat)) ByteArray.empty l=x
   simp only [List.foldl_cons,List.foldl_nil]
   generalize UInt8.ofNat c.toNat=u
   apply toList_inj
   rw [ByteArray.toList_eq,ByteArray.toList_eq]
   simp
  rw [e,zCi,ih (fun x hx=>h x (by simp [hx])),zGX (h c (by simp)).1 (h c (by simp)).2]
theorem zK7 {fs:List File} {p:ByteArray} {k:Nat} (hs:fs.Pairwise (fun f g=>slt f.Path g.Path=true)) (hk:k<fs.length) (hp:fs[k].Path =p):fs.find? (fun f=>decide (f.Path=p))=some fs[k]:=by
 rw [List.find?_eq_some_iff_getElem]
 refine ⟨by simp [hp],k,hk,rfl,fun j hj=>?_⟩
 simp only [Bool.not_eq_eq_eq_not,Bool.not_true,decide_eq_false_iff_not]
 intro e
 have:=zFt hs (by omega) hk (e.trans hp.symm)
 omega
theorem zG4 {fs:List File} {p:ByteArray} (h:∀f∈fs,f.Path≠p):fs.find? (fun f=>decide (f.Path=p))=none:=by
 rw [List.find?_eq_none]
 intro f hf
 simpa using h f hf
def zJ9 (c:Int):Bool:=decide (97≤c)&&decide (c≤122)
def zFX (c:Int):Bool:=decide (48≤c)&&decide (c≤57)
def zIK (c:Int):Bool:=zJ9 c||(zFX c||c==95)
theorem zED (c:Int):xX c=some (zJ9 c):=by
 unfold xX zJ9
 by_cases h:c≥97<;>simp [h]
theorem zHW (c:Int):xY c=some (zFX c):=by
 unfold xY zFX
 by_cases h:c≥48<;>simp [h]
theorem zJa (c:Int):wJ c=some (zIK c):=by
 unfold wJ zIK
 simp only [zED,zHW,Option.bind_some]
 cases zJ9 c<;>cases zFX c<;>simp
theorem zF2 (c:Int):yR c=some (zIK c):=by
 unfold yR zIK zJ9 zFX
 by_cases h1:c≥97<;>by_cases h2:c≤122<;>by_cases h3:c≥48<;>by_cases h4:c≤57<;>simp [h1,h2,h3,h4]
def zFz (s:ByteArray):Int:=(xW (fun _ c=>if zIK c then none else some (5:Int)) 0 (bl s)).getD 0
def NF (s:ByteArray):Int:=if s.size<1 then 5 else if s.size>12 then 5 else if zJ9 ((bl s).headD 0) then zFz s else 5
theorem zIW {s:ByteArray} (h:1≤s.size):bidx s 0=some ((bl s).headD 0):=by
 have h':0< (bl s).length :=by rw [yM]; exact h
 have e:=zCo (s:=s) (i:=0) h'
 rw [show ((0:Nat):Int)=0 from rfl] at e
 rw [e]
 have:(bl s)[0]? =some ((bl s).headD 0):=by
  cases hb:bl s with
  |nil=>rw [hb] at h'; simp at h'
  |cons c l=>rfl
 rw [List.getElem?_eq_getElem h'] at this
 exact this
theorem zFE (s:ByteArray) (h:s.size≤12):vV s 0=some (frs (xW (fun _ c=>if zIK c then none else some (5:Int)) 0 (bl s))):=by
 unfold vV
 refine xV (bl s) _ (fun i hi=>?_) ?_
 ·have hs:i<s.size:=by rw [←yM]; exact hi
  unfold zAc
  rw [if_pos (by simp; omega),zCo hi]
  simp only [Option.bind_some,zJa]
  rw [zV (by omega)]
  cases zIK (bl s)[i]<;>rfl
 ·unfold zAc
  rw [if_neg (by rw [yM]; simp)]
theorem zFQ (s:ByteArray) (h:s.size≤12):vT s 0=some (frs (xW (fun _ c=>if zIK c then none else some (5:Int)) 0 (bl s))):=by
 unfold vT
 refine xV (bl s) _ (fun i hi=>?_) ?_
 ·have hs:i<s.size:=by rw [←yM]; exact hi
  unfold kZ
  rw [if_pos (by simp; omega),zCo hi]
  simp only [Option.bind_some,zF2]
  rw [zV (by omega)]
  cases zIK (bl s)[i]<;>rfl
 ·unfold kZ
  rw [if_neg (by rw [yM]; simp)]
theorem zCx (s:ByteArray):xM s=some (NF s):=by
 unfold xM NF
 by_cases h1:s.size<1
 ·rw [if_pos (show decide ((s.size:Int)<1)=true by rw [decide_eq_true_eq]; omega),if_pos h1]; rfl
 rw [if_neg (show ¬decide ((s.size:Int)<1)=true by rw [decide_eq_true_eq]; omega),if_neg h1]
 by_cases h2:s.size>12
 ·rw [if_pos (show decide ((s.size:Int)>12)=true by rw [decide_eq_true_eq]; omega),if_pos h2]; rfl
 rw [if_neg (show ¬decide ((s.size:Int)>12)=true by rw [decide_eq_true_eq]; omega),if_neg h2,zIW (by omega),zFE s (by omega)]
 simp only [Option.bind_some,zED]
 cases h3:zJ9 ((bl s).headD 0)
 ·rfl
 ·unfold zFz
  cases xW (fun _ c=>if zIK c then none else some (5:Int)) 0 (bl s)<;>rfl
theorem zJE (c:Int):(if decide (c<97)=true then some true else some (decide (c>122)))=some (!(zJ9 c)):=by
 unfold zJ9
 by_cases h3:c<97
 ·rw [if_pos (by rw [decide_eq_true_eq]; exact h3)]
  have:decide (97≤c)=false:=by rw [decide_eq_false_iff_not]; omega
  rw [this]; rfl
 ·rw [if_neg (by rw [decide_eq_true_eq]; exact h3)]
  have:decide (97≤c)=true:=by rw [decide_eq_true_eq]; omega
  rw [this]
  congr 1
  rw [Bool.true_and,Bool.eq_iff_iff]
  simp
theorem zCu (s:ByteArray):xQ s=some (NF s):=by
 unfold xQ NF
 by_cases h1:s.size<1
 ·rw [if_pos (show decide ((s.size:Int)<1)=true by rw [decide_eq_true_eq]; omega),if_pos h1]; rfl
 rw [if_neg (show ¬decide ((s.size:Int)<1)=true by rw [decide_eq_true_eq]; omega),if_neg h1]
 by_cases h2:s.size>12
 ·rw [if_pos (show decide ((s.size:Int)>12)=true by rw [decide_eq_true_eq]; omega),if_pos h2]; rfl
 rw [if_neg (show ¬decide ((s.size:Int)>12)=true by rw [decide_eq_true_eq]; omega),if_neg h2,zIW (by omega),zFQ s (by omega)]
 simp only [Option.bind_some,zJE]
 cases h3:zJ9 ((bl s).headD 0)
 ·rfl
 ·unfold zFz
  cases xW (fun _ c=>if zIK c then none else some (5:Int)) 0 (bl s)<;>rfl
def VF (v:Version):Int:=if inB v.A 0 999&&inB v.B 0 999&&inB v.C 0 999 then 0 else 3
theorem zBO (v:Version):yO v=some (VF v):=by
 unfold yO VF
 simp only [zHn,Option.bind_some]
 cases inB v.A 0 999<;>cases inB v.B 0 999<;>cases inB v.C 0 999<;>rfl
theorem zC0 (v:Version):yY v=some (VF v):=by
 unfold yY VF
 simp only [zEt,Option.bind_some]
 cases inB v.A 0 999<;>cases inB v.B 0 999<;>cases inB v.C 0 999<;>rfl
def sgn (a b:Int):Int:=if a<b then-1 else if a>b then 1 else 0
theorem zIM (a b:Int):uJ a b=some (sgn a b):=by
 unfold uJ sgn
 by_cases h:a<b
 ·simp [h]
 ·by_cases h2:a>b<;>simp [h,h2]
theorem cmp_eq (a b:Int):yV a b=some (sgn a b):=by
 unfold yV vE sgn
 simp only [Option.bind_some,bne_self_eq_false,Bool.false_eq_true,if_false]
 by_cases h:a<b
 ·simp [h]
 ·by_cases h2:a>b<;>simp [h,h2]
def zJn (a b:Version):Int:=if sgn a.A b.A≠0 then sgn a.A b.A else if sgn a.B b.B≠0 then sgn a.B b.B else sgn a.C b.C
theorem zBX (a b:Version):yU a b=some (zJn a b):=by
 unfold yU zJn
 simp only [zIM,Option.bind_some]
 by_cases h1:sgn a.A b.A=0
 ·by_cases h2:sgn a.B b.B=0<;>simp [h1,h2]
 ·simp [h1]
theorem zKS (l:List Int) (h:l.length≤10):loop (zBe l) 0=some (frs (xW (fun _ c=>if c !=0 then some c else none) 0 l)):=by
 refine xV l _ (fun i hi=>?_) ?_
 ·unfold zBe
  rw [if_pos (by simp; omega),zP hi]
  simp only [Option.bind_some]
  rw [zV (by omega)]
  cases l[i] !=0<;>rfl
 ·unfold zBe
  rw [if_neg (by simp)]
theorem zGb (a b:Version):zA6 a b=some (zJn a b):=by
 unfold zA6 zJn zCe zBG
 simp only [cmp_eq,Option.bind_some]
 rw [zKS _ (by simp),zBY]
 by_cases h1:sgn a.A b.A=0
 ·by_cases h2:sgn a.B b.B=0
  ·by_cases h3:sgn a.C b.C=0<;>simp [h1,h2,h3,xW]
  ·simp [h1,h2,xW]
 ·simp [h1,xW]
def eqV (a b:Version):Bool:=a.A==b.A&&(a.B==b.B&&(a.C==b.C&&true))
theorem zJy (a b:Version):(zJn a b==0)=eqV a b:=by
 unfold zJn eqV sgn
 rw [Bool.eq_iff_iff]
 simp only [beq_iff_eq,Bool.and_eq_true,Bool.and_true]
 constructor
 ·intro h
  split at h<;>omega
 ·intro ⟨h1,h2,h3⟩
  split<;>omega
def zLz:Version:= {A:=1000,B:=0,C:=0}
def TF (t:Term):Int:=if NF t.Name≠0 then NF t.Name else if VF t.Low≠0 then VF t.Low else
 if eqV t.High zLz=false∧VF t.High≠0 then 3 else if zJn t.Low t.High≥0 then 1 else 0
theorem zEJ (t:Term):jJ t=some (TF t):=by
 unfold jJ TF zBM
 simp only [zCx,zBO,zBX,Option.bind_some]
 show (if (NF t.Name !=0)=true then some (NF t.Name) else if (VF t.Low !=0)=true then some (VF t.Low) else (if (!(eqV t.High zLz))=true then some (VF t.High !=0) else some false).bind fun v=>if v=true then some 3 else if decide (zJn t.Low t.High≥0)=true then some 1 else some 0)=_
 generalize NF t.Name=a
 generalize VF t.Low=b
 generalize eqV t.High zLz=c
 generalize VF t.High=d
 generalize zJn t.Low t.High=e
 by_cases h1:a=0
 ·by_cases h2:b=0
  ·by_cases h4:d=0<;>by_cases h5:e≥0<;>cases c<;>simp [h1,h2,h4,h5]
  ·simp [h1,h2]
 ·simp [h1]
theorem zEK (t:Term):jB t=some (TF t):=by
 unfold jB TF zC6
 simp only [zCu,zC0,zGb,Option.bind_some]
 show (if (NF t.Name !=0)=true then some (NF t.Name) else if (VF t.Low !=0)=true then some (VF t.Low) else (if (!(eqV t.High zLz))=true then some (VF t.High !=0) else some false).bind fun v=>if v=true then some 3 else if decide (zJn t.Low t.High≥0)=true then some 1 else some 0)=_
 generalize NF t.Name=a
 generalize VF t.Low=b
 generalize eqV t.High zLz=c
 generalize VF t.High=d
 generalize zJn t.Low t.High=e
 by_cases h1:a=0
 ·by_cases h2:b=0
  ·by_cases h4:d=0<;>by_cases h5:e≥0<;>cases c<;>simp [h1,h2,h4,h5]
  ·simp [h1,h2]
 ·simp [h1]
def tsF (l:List Term):Int:=(xW (fun _ t=>if TF t !=0 then some (TF t) else none) 0 l).getD 0
theorem zDL (l:List Term) (h:l.length≤1048576):vP l=some (tsF l):=by
 have key:=xV l (fun _ t=>if TF t !=0 then some (TF t) else none) (b:=kU l) (by
  intro i hi
  unfold kU
  rw [if_pos (by simp; omega),zP hi]
  simp only [Option.bind_some,zEJ]
  rw [zV (by omega)]
  cases TF l[i] !=0<;>rfl) (by
  unfold kU
  rw [if_neg (by simp)])
 unfold vP zAe tsF
 rw [key,zBY]
 cases xW (fun _ t=>if TF t !=0 then some (TF t) else none) 0 l<;>rfl
theorem zCN (l:List Term) (h:l.length≤1048576):xS l=some (tsF l):=by
 have key:=xV l (fun _ t=>if TF t !=0 then some (TF t) else none) (b:=uG l) (by
  intro i hi
  unfold uG
  rw [if_pos (by simp; omega),zP hi]
  simp only [Option.bind_some,zEK]
  rw [zV (by omega)]
  cases TF l[i] !=0<;>rfl) (by
  unfold uG
  rw [if_neg (by simp)])
 unfold xS tF tsF
 rw [key,zBY]
 cases xW (fun _ t=>if TF t !=0 then some (TF t) else none) 0 l<;>rfl
theorem zB9 {n:Nat} (h:n<1000):(zEG n).size ≤3:=by
 rw [←yM,zDn]
 exact zFB 2 n (by omega)
theorem zCa:(bs [46]).size =1:=rfl
def zKp (v:Version):ByteArray:=zEG v.A.toNat++bs [46]++zEG v.B.toNat++bs [46]++zEG v.C.toNat
theorem zE7 {v:Version} (h:VF v=0):(0≤v.A∧v.A≤999)∧(0≤v.B∧v.B≤999)∧(0≤v.C∧v.C≤999):=by
 unfold VF inB at h
 split at h
 ·rename_i hh
  simp only [Bool.and_eq_true,decide_eq_true_eq] at hh
  omega
 ·cases h
theorem zCJ {v:Version} (h:VF v=0):(zKp v).size ≤11:=by
 obtain ⟨h1,h2,h3⟩:=zE7 h
 unfold zKp
 simp only [kH,zCa]
 have a1:=zB9 (n:=v.A.toNat) (by omega)
 have a2:=zB9 (n:=v.B.toNat) (by omega)
 have a3:=zB9 (n:=v.C.toNat) (by omega)
 omega
theorem zFy {x:Int} (h:0≤x∧x≤999):yQ x=some (zEG x.toNat):=by
 have:=zGp x.toNat (by omega)
 rwa [Int.toNat_of_nonneg h.1] at this
theorem zFL {x:Int} (h:0≤x∧x≤999):uN x=some (zEG x.toNat):=by
 have:=zCM x.toNat (by omega)
 rw [Int.toNat_of_nonneg h.1] at this
 unfold uN
 rw [this]
 rfl
theorem zCn {v:Version} (h:VF v=0):xD v=some (zKp v):=by
 obtain ⟨h1,h2,h3⟩:=zE7 h
 have a1:=zB9 (n:=v.A.toNat) (by omega)
 have a2:=zB9 (n:=v.B.toNat) (by omega)
 have a3:=zB9 (n:=v.C.toNat) (by omega)
 unfold xD zKp
 rw [zBO,h]
 simp only [Option.bind_some,zFy h1,zFy h2,zFy h3]
 rw [if_neg (by simp)]
 rw [zAT (by rw [zCa]; omega)]
 simp only [Option.bind_some]
 rw [zAT (by simp only [kH,zCa]; omega)]
 simp only [Option.bind_some]
 rw [zAT (by simp only [kH,zCa]; omega)]
 simp only [Option.bind_some]
 rw [zAT (by simp only [kH,zCa]; omega)]
 rfl
theorem zGa {v:Version} (h:VF v=0):xH v=some (zKp v):=by
 obtain ⟨h1,h2,h3⟩:=zE7 h
 have a1:=zB9 (n:=v.A.toNat) (by omega)
 have a2:=zB9 (n:=v.B.toNat) (by omega)
 have a3:=zB9 (n:=v.C.toNat) (by omega)
 unfold xH zKp
 simp only [Option.bind_some,zFL h1,zFL h2,zFL h3]
 rw [zAT (by rw [zCa]; omega)]
 simp only [Option.bind_some]
 rw [zAT (by simp only [kH,zCa]; omega)]
 simp only [Option.bind_some]
 rw [zAT (by simp only [kH,zCa]; omega)]
 simp only [Option.bind_some]
 rw [zAT (by simp only [kH,zCa]; omega)]
 rfl
theorem zDj {s:ByteArray} (h:NF s=0):1≤s.size∧s.size≤12:=by
 unfold NF at h
 split at h
 ·cases h
 ·split at h
  ·cases h
  ·omega
def zJx {α:Type} (f:α→ByteArray) (a:ByteArray) (l:List α):ByteArray:=l.foldl (fun a t=>a++f t) a
theorem zH1 {α:Type} (f:α→ByteArray):∀(l:List α) (a:ByteArray),foldI (fun _ a t=>a++f t) 0 l a=zJx f a l∧∀i,foldI (fun _ a t=>a++f t) i l a=zJx f a l
 |[],a=>⟨rfl,fun _=>rfl⟩
 |x::l,a=>by
  have:=zH1 f l (a++f x)
  exact ⟨this.2 1,fun i=>this.2 (i+1)⟩
theorem zFS {α:Type} (xs:List α) (f:α→ByteArray) (C:Nat) (hC:∀x∈xs,(f x).size ≤C) {b:(ByteArray×Int)→Option (Lp (ByteArray×Int) ByteArray)} (a0:ByteArray)
  (hstep:∀(i:Nat) (a:ByteArray) (hi:i<xs.length),a.size≤a0.size+i*C→b (a,(i:Int))=some (.go (a++f xs[i],((i+1:Nat):Int)))) (hend:∀a,b (a,(xs.length:Int))=some (.done a)):
  loop b (a0,0)=some (zJx f a0 xs)∧(zJx f a0 xs).size ≤a0.size+xs.length*C:=by
 have h:=zCd xs (fun _ a t=>a++f t) (fun i a=>a.size≤a0.size+i*C) (b:=b) (fun i a hi hI=>⟨hstep i a hi hI,by
  have h:=hC _ (List.getElem_mem hi)
  simp only [kH]
  rw [Nat.add_mul]
  omega⟩) hend xs.length 0 a0 (by omega) (by omega)
 rw [List.drop_zero,(zH1 f xs a0).1] at h
 exact h
theorem zJV (a b:ByteArray):seq a b=seq b a:=by
 unfold seq
 rw [Bool.eq_iff_iff]
 simp only [beq_iff_eq]
 exact eq_comm
theorem zCk {α R:Type} (g:Nat→α→Option R):∀(xs:List α) (i:Nat),xW g i xs=none↔∀(j:Nat) (h:j<xs.length),g (i+j) xs[j]=none
 |[],i=>by simp [xW]
 |x::xs,i=>by
  simp only [xW]
  cases h:g i x with
  |some r=>
   simp only [reduceCtorEq,false_iff]
   intro hh
   have:=hh 0 (by simp)
   simp only [Nat.add_zero,List.getElem_cons_zero] at this
   rw [h] at this
   cases this
  |none=>
   show xW g (i+1) xs=none↔_
   rw [zCk g xs (i+1)]
   constructor
   ·intro hh j hj
    cases j with
    |zero=>simpa using h
    |succ j=>
     have:=hh j (by simpa using hj)
     rw [show i+(j+1)=i+1+j by omega]
     simpa using this
   ·intro hh j hj
    have:=hh (j+1) (by simpa using hj)
    rw [show i+(j+1)=i+1+j by omega] at this
    simpa using this
theorem zEd {α:Type} {xs:List α} {i:Nat} (h:i≤xs.length):zEW xs 0 (i:Int)=some (xs.take i):=by
 have:=zHq (xs:=xs) (l:=0) (h:=i) (by omega) h
 rw [show ((0:Nat):Int)=0 from rfl] at this
 rw [this]
 simp
theorem zHS (l:List ByteArray) (n:ByteArray) (h:l.length≤1048576):zAE l n=some (l.any fun x=>seq x n):=by
 have key:=xV l (fun _ x=>if seq x n then some true else none) (b:=kV l n) (by
  intro i hi
  unfold kV
  rw [if_pos (by simp; omega),zP hi]
  simp only [Option.bind_some]
  rw [zV (by omega)]
  cases seq l[i] n<;>rfl) (by
  unfold kV
  rw [if_neg (by simp)])
 unfold zAE zAA
 rw [key,zBY,←zGk (fun x=>seq x n) l 0]
 cases xW (fun _ x=>if seq x n then some true else none) 0 l<;>rfl
theorem zFJ (l:List ByteArray) (n:ByteArray) (h:l.length≤1048576):yZ l n=some (l.any fun x=>seq x n):=by
 have key:=xV l (fun i x=>if seq x n then some (i:Int) else none) (b:=wC l n) (by
  intro i hi
  unfold wC
  rw [if_pos (by simp; omega),zP hi]
  simp only [Option.bind_some]
  rw [zV (by omega),zJV n]
  cases seq l[i] n<;>rfl) (by
  unfold wC
  rw [if_neg (by simp)])
 unfold yZ wL wK
 rw [key,zBY]
 rw [←zEb (zC4 (fun x=>seq x n) l 0)]
 cases xW (fun j x=>if seq x n then some (j:Int) else none) 0 l<;>rfl
def zGJ (p:Pack) (i:Nat) (n:ByteArray):Option Int:=if NF n !=0 then some (NF n) else if seq n p.Name||(p.Provides.take i).any (fun x=>seq x n) then some 6 else none
def zHo (_:Nat) (l:List Term):Option Int:=if (l.length:Int)==0 then some 1 else if tsF l !=0 then some (tsF l) else none
def zKD (p:Pack):Bool:=decide ((p.Provides.length:Int)>4)||(decide ((p.Needs.length:Int)>4)||(decide ((p.Bars.length:Int)>4)||p.Needs.any (fun l=>decide ((l.length:Int)>4))))
def zGd (p:Pack):Int:=match xW (zGJ p) 0 p.Provides with
 |some r=>r
 |none=>match xW zHo 0 p.Needs with
  |some r=>r
  |none=>tsF p.Bars
def PF (p:Pack):Int:=if NF p.Name !=0 then NF p.Name else if VF p.Version !=0 then VF p.Version else if !(inB p.Size 1 200) then 3 else if zKD p then 2 else zGd p
theorem zE5 (p:Pack) (hp:Pack.sm 1048576 p):((vU p 0).bind (Fl.go some fun v60=>(vW p 0).bind (Fl.go some fun v80=>(vP p.Bars).bind fun x81=>some x81)))=some (zGd p):=by
 obtain ⟨_,_,_,hpr,hne,hba⟩:=hp
 have k2:=xV p.Provides (zGJ p) (b:=uU p) (by
  intro i hi
  unfold uU zGJ
  rw [if_pos (by simp; omega),zP hi]
  simp only [Option.bind_some,zCx]
  rw [zEd (by omega)]
  simp only [Option.bind_some]
  rw [zHS _ _ (by simp; omega),zV (by omega)]
  simp only [Option.bind_some]
  cases NF p.Provides[i] !=0<;>cases seq p.Provides[i] p.Name<;>cases (p.Provides.take i).any (fun x=>seq x p.Provides[i])<;>rfl) (by
  unfold uU
  rw [if_neg (by simp)])
 have k3:=xV p.Needs zHo (b:=tJ p) (by
  intro i hi
  unfold tJ zHo
  rw [if_pos (by simp; omega),zP hi]
  simp only [Option.bind_some]
  rw [zDL _ (hne.2 _ (List.getElem_mem hi)).1,zV (by omega)]
  simp only [Option.bind_some]
  cases (p.Needs[i].length :Int)==0<;>cases tsF p.Needs[i] !=0<;>rfl) (by
  unfold tJ
  rw [if_neg (by simp)])
 unfold vU vW zGd
 rw [k2,k3,zDL _ hba.1]
 cases xW (zGJ p) 0 p.Provides<;>cases xW zHo 0 p.Needs<;>rfl
theorem zDW (p:Pack) (hp:Pack.sm 1048576 p):((vX p 0).bind (Fl.go some fun v46=>(vS p 0).bind (Fl.go some fun v62=>(xS p.Bars).bind fun x63=>some x63)))=some (zGd p):=by
 obtain ⟨_,_,_,hpr,hne,hba⟩:=hp
 have k2:=xV p.Provides (zGJ p) (b:=tC p) (by
  intro i hi
  unfold tC zGJ
  rw [if_pos (by simp; omega),zP hi]
  simp only [Option.bind_some,zCu]
  rw [zEd (by omega)]
  simp only [Option.bind_some]
  rw [zFJ _ _ (by simp; omega),zV (by omega)]
  simp only [Option.bind_some]
  cases NF p.Provides[i] !=0<;>cases seq p.Provides[i] p.Name<;>cases (p.Provides.take i).any (fun x=>seq x p.Provides[i])<;>rfl) (by
  unfold tC
  rw [if_neg (by simp)])
 have k3:=xV p.Needs zHo (b:=tO p) (by
  intro i hi
  unfold tO zHo
  rw [if_pos (by simp; omega),zP hi]
  simp only [Option.bind_some]
  rw [zCN _ (hne.2 _ (List.getElem_mem hi)).1,zV (by omega)]
  simp only [Option.bind_some]
  cases (p.Needs[i].length :Int)==0<;>cases tsF p.Needs[i] !=0<;>rfl) (by
  unfold tO
  rw [if_neg (by simp)])
 unfold vX vS zGd
 rw [k2,k3,zCN _ hba.1]
 cases xW (zGJ p) 0 p.Provides<;>cases xW zHo 0 p.Needs<;>rfl
theorem zFg {α R:Type} (p:α→Bool) (r:R):∀(xs:List α) (i:Nat),xW (fun _ x=>if p x then some r else none) i xs=if xs.any p then some r else none
 |[],i=>rfl
 |x::xs,i=>by
  simp only [xW]
  cases h:p x
  ·simp only [Bool.false_eq_true,if_false,List.any_cons,h,Bool.false_or]
   exact zFg p r xs (i+1)
  ·simp [h]
theorem zES (p:Pack) (hp:Pack.sm 1048576 p):jH p=some (PF p):=by
 have hl:=zE5 p hp
 obtain ⟨_,_,_,hpr,hne,hba⟩:=hp
 have k1:=xV p.Needs (fun _ l=>if decide ((l.length:Int)>4) then some (2:Int) else none) (b:=uT p) (by
  intro i hi
  unfold uT
  rw [if_pos (by simp; omega),zP hi]
  simp only [Option.bind_some]
  rw [zV (by omega)]
  cases decide ((p.Needs[i].length :Int)>4)<;>rfl) (by
  unfold uT
  rw [if_neg (by simp)])
 rw [zFg] at k1
 unfold jH PF zKD
 simp only [zCx,zBO,zHn,Option.bind_some]
 rw [hl]
 unfold jO
 rw [k1]
 cases NF p.Name !=0<;>cases VF p.Version !=0<;>cases inB p.Size 1 200<;>cases decide ((p.Provides.length:Int)>4)<;>cases decide ((p.Needs.length:Int)>4)<;>cases decide ((p.Bars.length:Int)>4)<;>cases p.Needs.any (fun l=>decide ((l.length:Int)>4))<;>rfl
theorem zHF (l:List Int) (h:l.length≤10):loop (uW l) 0=some (frs (xW (fun _ c=>if c !=0 then some c else none) 0 l)):=by
 refine xV l _ (fun i hi=>?_) ?_
 ·unfold uW
  rw [if_pos (by simp; omega),zP hi]
  simp only [Option.bind_some]
  rw [zV (by omega)]
  cases l[i] !=0<;>rfl
 ·unfold uW
  rw [if_neg (by simp)]
theorem zEQ (p:Pack) (hp:Pack.sm 1048576 p):tZ p=some (PF p):=by
 have hl:=zDW p hp
 obtain ⟨_,_,_,hpr,hne,hba⟩:=hp
 have k1:=xV p.Needs (fun i l=>if decide ((l.length:Int)>4) then some (i:Int) else none) (b:=zW p.Needs) (by
  intro i hi
  unfold zW uO
  rw [if_pos (by simp; omega),zP hi]
  simp only [Option.bind_some]
  rw [zV (by omega)]
  cases decide ((p.Needs[i].length :Int)>4)<;>rfl) (by
  unfold zW
  rw [if_neg (by simp)])
 have k2:zJ p.Needs=some (p.Needs.any (fun l=>decide ((l.length:Int)>4))):=by
  unfold zJ zR zY
  rw [k1,zBY,←zEb (zC4 (fun l:List Term=>decide ((l.length:Int)>4)) p.Needs 0)]
  cases xW (fun j (x:List Term)=>if decide ((x.length:Int)>4) then some (j:Int) else none) 0 p.Needs<;>rfl
 have k3:xA [NF p.Name,VF p.Version]=some (if NF p.Name !=0 then NF p.Name else VF p.Version):=by
  have k:=zHF [NF p.Name,VF p.Version] (by simp)
  unfold xA vZ
  rw [k,zBY]
  simp only [xW]
  cases hn:NF p.Name !=0
  ·cases hv:VF p.Version !=0
   ·have:VF p.Version=0:=by simpa using hv
    simp [this]
   ·rfl
  ·rfl
 unfold tZ PF zKD
 simp only [zCu,zC0,zEt,Option.bind_some]
 rw [hl,k2,k3]
 simp only [Option.bind_some]
 cases hn:NF p.Name !=0
 ·simp only [Bool.false_eq_true,if_false]
  cases VF p.Version !=0<;>cases inB p.Size 1 200<;>cases decide ((p.Provides.length:Int)>4)<;>cases decide ((p.Needs.length:Int)>4)<;>cases decide ((p.Bars.length:Int)>4)<;>cases p.Needs.any (fun l=>decide ((l.length:Int)>4))<;>rfl
 ·simp only [if_true,hn]
def isB (n:ByteArray) (v:Version) (q:Pack):Bool:=seq q.Name n&&eqV q.Version v
def zJc (c:List Pack) (n:ByteArray) (v:Version):Int:=(xW (fun i q=>if isB n v q then some (i:Int) else none) 0 c).getD (-1)
theorem zGr (c:List Pack) (n:ByteArray) (v:Version):decide (zJc c n v≥0)=c.any (isB n v):=zEb (zC4 (isB n v) c 0)
theorem zIc (c:List Pack) (n:ByteArray) (v:Version) (h:c.length≤1048576):zAm c n v=some (zJc c n v):=by
 have key:=xV c (fun i q=>if isB n v q then some (i:Int) else none) (b:=zAs c n v) (by
  intro i hi
  unfold zAs isB
  rw [if_pos (by simp; omega),zP hi]
  simp only [Option.bind_some,zBX,zJy]
  rw [zV (by omega)]
  cases seq c[i].Name n<;>cases eqV c[i].Version v<;>rfl) (by
  unfold zAs
  rw [if_neg (by simp)])
 unfold zJc
 unfold zAm zBc
 rw [key,zBY]
 cases xW (fun i q=>if isB n v q then some (i:Int) else none) 0 c<;>rfl
theorem zIq (c:List Pack) (n:ByteArray) (v:Version) (h:c.length≤1048576):zBT c n v=some (zJc c n v):=by
 have key:=xV c (fun i q=>if isB n v q then some (i:Int) else none) (b:=yI c n v) (by
  intro i hi
  unfold yI isB zBJ
  rw [if_pos (by simp; omega),zP hi]
  simp only [Option.bind_some]
  rw [zV (by omega)]
  show (Option.bind (if seq c[i].Name n=true then some (eqV c[i].Version v) else some false) _)=_
  cases seq c[i].Name n<;>cases eqV c[i].Version v<;>rfl) (by
  unfold yI
  rw [if_neg (by simp)])
 unfold zJc
 unfold zBT yD yJ
 rw [key,zBY]
 cases xW (fun i q=>if isB n v q then some (i:Int) else none) 0 c<;>rfl
theorem find_spec (c:List Pack) (n:ByteArray) (v:Version) (h:c.length≤1048576):∃k,zAm c n v=some k∧decide (k≥0)=c.any (isB n v):=⟨_,zIc c n v h,zGr c n v⟩
theorem zII (c:List Pack) (n:ByteArray) (v:Version) (h:c.length≤1048576):∃k,zBT c n v=some k∧decide (k≥0)=c.any (isB n v):=⟨_,zIq c n v h,zGr c n v⟩
def zJ4 (c:List Pack) (i:Nat) (p:Pack):Option Int:=if PF p !=0 then some (PF p) else if (c.take i).any (isB p.Name p.Version) then some 6 else none
def CF (c:List Pack):Int:=if decide ((c.length:Int)>24) then 2 else (xW (zJ4 c) 0 c).getD 0
theorem zDI (c:List Pack) (hc:c.length≤1048576∧∀y0∈c,Pack.sm 1048576 y0):wS c=some (CF c):=by
 have key:=xV c (zJ4 c) (b:=vD c) (by
  intro i hi
  unfold vD zJ4
  rw [if_pos (by simp; omega),zP hi]
  simp only [Option.bind_some]
  rw [zES _ (hc.2 _ (List.getElem_mem hi)),zEd (by omega)]
  simp only [Option.bind_some]
  obtain ⟨k,e,hk⟩:=find_spec (c.take i) c[i].Name c[i].Version (by simp; omega)
  rw [e,zV (by omega)]
  simp only [Option.bind_some]
  rw [hk]
  cases PF c[i] !=0<;>cases (c.take i).any (isB c[i].Name c[i].Version)<;>rfl) (by
  unfold vD
  rw [if_neg (by simp)])
 unfold wS CF vK
 rw [key,zBY]
 cases decide ((c.length:Int)>24)<;>cases xW (zJ4 c) 0 c<;>rfl
theorem zC2 (c:List Pack) (hc:c.length≤1048576∧∀y0∈c,Pack.sm 1048576 y0):xI c=some (CF c):=by
 have key:=xV c (zJ4 c) (b:=wZ c) (by
  intro i hi
  unfold wZ zJ4
  rw [if_pos (by simp; omega),zP hi]
  simp only [Option.bind_some]
  rw [zEQ _ (hc.2 _ (List.getElem_mem hi)),zEd (by omega)]
  simp only [Option.bind_some]
  obtain ⟨k,e,hk⟩:=zII (c.take i) c[i].Name c[i].Version (by simp; omega)
  rw [e,zV (by omega)]
  simp only [Option.bind_some]
  rw [hk]
  cases PF c[i] !=0<;>cases (c.take i).any (isB c[i].Name c[i].Version)<;>rfl) (by
  unfold wZ
  rw [if_neg (by simp)])
 unfold xI CF vL
 rw [key,zBY]
 cases decide ((c.length:Int)>24)<;>cases xW (zJ4 c) 0 c<;>rfl
def noPack:Pack:= {Name:=ByteArray.empty,Version:= {A:=0,B:=0,C:=0},Size:=0,Provides:=[],Needs:=[],Bars:=[]}
def pat (c:List Pack) (k:Int):Pack:=(idx c k).getD noPack
def Places (c:List Pack) (a:List Int):Prop:=∀k∈a,0≤k∧k<c.length
theorem zCw {c:List Pack} {k:Int} (h:0≤k∧k<c.length):idx c k=some (pat c k)∧pat c k∈c:=by
 unfold pat idx
 rw [if_pos h.1]
 have:k.toNat<c.length:=by omega
 rw [List.getElem?_eq_getElem this]
 exact ⟨rfl,List.getElem_mem this⟩
def Cat (c:List Pack):Prop:=c.length≤1048576∧∀y0∈c,Pack.sm 1048576 y0
def zI2 (c:List Pack) (a:List Int) (i:Nat) (k:Int):Option Bool:=if !(inB k 0 ((c.length:Int)-1))||(decide (0<i)&&decide (k≤a.getD (i-1) 0)) then some false else none
def zIY (c:List Pack) (a:List Int):Bool:=(xW (zI2 c a) 0 a).isNone
theorem getD_lt {a:List Int} {i:Nat} (h:i<a.length):a.getD i 0=a[i]:=by simp [List.getD,h]
theorem zIl {c:List Pack} {a:List Int} (hc:c.length≤1048576) (ha:a.length≤1048576):zBL c a=some (zIY c a):=by
 have key:=xV a (zI2 c a) (b:=zBa c a) (by
  intro i hi
  unfold zBa zI2
  rw [if_pos (by simp; omega),zP hi,xE (x:=(c.length:Int)-1) (by omega) (by omega)]
  simp only [Option.bind_some,zHn]
  by_cases h0:0<i
  ·rw [xE (x:=(i:Int)-1) (by omega) (by omega),show (i:Int)-1=((i-1:Nat):Int) by omega,zP (show i-1<a.length by omega),getD_lt (show i-1<a.length by omega)]
   have e:decide ((i:Int)>0)=true:=by simp; omega
   have e2:decide (0<i)=true:=by simpa using h0
   rw [e,e2,zV (by omega)]
   simp only [Option.bind_some,Bool.true_and]
   cases inB a[i] 0 ((c.length:Int)-1)<;>cases decide (a[i]≤a[i-1])<;>rfl
  ·have e:decide ((i:Int)>0)=false:=by simp; omega
   have e2:decide (0<i)=false:=by simpa using h0
   rw [e,e2,zV (by omega)]
   cases inB a[i] 0 ((c.length:Int)-1)<;>rfl) (by
  unfold zBa
  rw [if_neg (by simp)])
 unfold zBL zBF zIY
 rw [key,zBY]
 have hf:∀(l:List Int) (i:Nat),xW (zI2 c a) i l=none∨xW (zI2 c a) i l=some false:=by
  intro l
  induction l with
  |nil=>intro i; exact .inl rfl
  |cons x l ih=>
   intro i
   simp only [xW]
   cases hg:zI2 c a i x with
   |none=>exact ih (i+1)
   |some r=>
    unfold zI2 at hg
    split at hg
    ·cases hg; exact .inr rfl
    ·cases hg
 rcases hf a 0 with h|h<;>rw [h]<;>rfl
def SF (c:List Pack) (a:List Int):Int:=if CF c !=0 then CF c else if zIY c a then 0 else 1
theorem zEL {c:List Pack} {a:List Int} (hc:c.length≤1048576) (ha:a.length≤1048576):jC c a=some (a.all (fun k=>inB k 0 ((c.length:Int)-1))):=by
 have key:=xV a (fun i k=>if !(inB k 0 ((c.length:Int)-1)) then some (i:Int) else none) (b:=yC a c) (by
  intro i hi
  unfold yC uP
  rw [if_pos (by simp; omega),zP hi,xE (x:=(c.length:Int)-1) (by omega) (by omega)]
  simp only [Option.bind_some,zEt]
  rw [zV (by omega)]
  cases inB a[i] 0 ((c.length:Int)-1)<;>rfl) (by
  unfold yC
  rw [if_neg (by simp)])
 unfold jC zS yB yG
 rw [key,zBY]
 have e:a.all (fun k=>inB k 0 ((c.length:Int)-1))= !(a.any (fun k=> !(inB k 0 ((c.length:Int)-1)))):=by
  rw [List.all_eq_not_any_not]
 rw [e,←zEb (zC4 (fun k=> !(inB k 0 ((c.length:Int)-1))) a 0)]
 cases xW (fun i k=>if !(inB k 0 ((c.length:Int)-1)) then some (i:Int) else none) 0 a<;>rfl
def zJ6 (a:List Int) (i:Nat) (k:Int):Option Int:=if decide (k≤a.getD (i-1) 0) then some 1 else none
theorem zKk (c:List Pack) (a:List Int):zIY c a=((xW (zJ6 a) 1 (a.drop 1)).isNone &&a.all (fun k=>inB k 0 ((c.length:Int)-1))):=by
 unfold zIY
 rw [Bool.eq_iff_iff,Bool.and_eq_true,Option.isNone_iff_eq_none,Option.isNone_iff_eq_none,zCk,zCk,List.all_eq_true]
 constructor
 ·intro h
  constructor
  ·intro j hj
   have hj':1+j<a.length:=by simp at hj; omega
   have:=h (1+j) hj'
   unfold zI2 at this
   unfold zJ6
   rw [List.getElem_drop]
   split at this
   ·cases this
   ·rename_i hn
    rw [if_neg]
    intro hx
    apply hn
    rw [Nat.zero_add]
    rw [Bool.or_eq_true,Bool.and_eq_true]
    exact .inr ⟨by rw [decide_eq_true_eq]; omega,hx⟩
  ·intro k hk
   obtain ⟨i,hi,rfl⟩:=List.mem_iff_getElem.1 hk
   have:=h i hi
   unfold zI2 at this
   split at this
   ·cases this
   ·rename_i hn
    simp only [Bool.or_eq_true,not_or] at hn
    simpa using hn.1
 ·rintro ⟨h1,h2⟩ j hj
  unfold zI2
  rw [if_neg]
  rw [Nat.zero_add,h2 _ (List.getElem_mem hj)]
  simp only [Bool.not_true,Bool.false_or,Bool.and_eq_true,not_and]
  intro h0 hx
  have h0':0<j:=by simpa using h0
  have hd:j-1< (a.drop 1).length :=by simp; omega
  have:=h1 (j-1) hd
  unfold zJ6 at this
  rw [List.getElem_drop] at this
  have ej:1+(j-1)=j:=by omega
  simp only [ej] at this
  rw [if_pos hx] at this
  cases this
theorem zFD {c:List Pack} {a:List Int} (hc:Cat c) (ha:a.length≤1048576):kG c a=some (SF c a):=by
 have hend:wB c a (a.length:Int)=some (.done (.nxt ())):=by
  unfold wB
  rw [if_neg (by simp)]
 have key:uQ c a 1=some (frs (xW (zJ6 a) 1 (a.drop 1))):=by
  unfold uQ
  rcases Nat.eq_zero_or_pos a.length with h0|h0
  ·have:a=[]:=List.eq_nil_of_length_eq_zero h0
   subst this
   rw [zBN]
   unfold wB
   rw [if_neg (by simp)]
   rfl
  ·have hh:∀(k i:Nat),1≤i→i+k=a.length→loop (wB c a) (i:Int)=some (frs (xW (zJ6 a) i (a.drop i))):=by
    intro k
    induction k with
    |zero=>
     intro i h1 h
     have e:i=a.length:=by omega
     subst e
     rw [zBN,hend,List.drop_length]
     rfl
    |succ k ih=>
     intro i h1 h
     have hi:i<a.length:=by omega
     have ih:=ih (i+1) (by omega) (by omega)
     rw [zBN,List.drop_eq_getElem_cons hi]
     simp only [xW]
     have hb:wB c a (i:Int)=some (if decide (a[i]≤a[i-1]) then .done (.ret 1) else .go ((i+1:Nat):Int)):=by
      unfold wB
      rw [if_pos (by simp; omega),zP hi,xE (x:=(i:Int)-1) (by omega) (by omega),show (i:Int)-1=((i-1:Nat):Int) by omega,zP (show i-1<a.length by omega),zV (by omega)]
      simp only [Option.bind_some]
      cases decide (a[i]≤a[i-1])<;>rfl
     rw [hb]
     unfold zJ6
     rw [getD_lt (show i-1<a.length by omega)]
     cases decide (a[i]≤a[i-1])
     ·exact ih
     ·rfl
   exact hh (a.length-1) 1 (by omega) (by omega)
 unfold kG SF
 rw [zC2 c hc,key,zBY,zEL hc.1 ha,zKk]
 simp only [Option.bind_some]
 have hf:∀(l:List Int) (i:Nat),xW (zJ6 a) i l=none∨xW (zJ6 a) i l=some 1:=by
  intro l
  induction l with
  |nil=>intro i; exact .inl rfl
  |cons x l ih=>
   intro i
   simp only [xW]
   cases hg:zJ6 a i x with
   |none=>exact ih (i+1)
   |some r=>
    unfold zJ6 at hg
    split at hg
    ·cases hg; exact .inr rfl
    ·cases hg
 rcases hf (a.drop 1) 1 with h|h<;>rw [h]<;>cases CF c !=0<;>cases a.all (fun k=>inB k 0 ((c.length:Int)-1))<;>rfl
theorem zIL {p:Pack} (h:PF p=0):NF p.Name=0∧VF p.Version=0∧inB p.Size 1 200=true:=by
 unfold PF at h
 split at h
 ·rename_i h1; simp [h] at h1
 rename_i h1
 split at h
 ·rename_i h2; simp [h] at h2
 rename_i h2
 split at h
 ·cases h
 rename_i h3
 exact ⟨by simpa using h1,by simpa using h2,by simpa using h3⟩
def zCZ (p:Pack):ByteArray:=bs [112,107,103,47]++(p.Name++(bs [45]++zKp p.Version))
theorem zE3 {p:Pack} (h1:NF p.Name=0) (h2:VF p.Version=0):kI p=some (zCZ p):=by
 have a1:=zDj h1
 have a2:=zCJ h2
 have b1:(bs [112,107,103,47]).size =4:=rfl
 have b2:(bs [45]).size =1:=rfl
 unfold kI zCZ
 rw [zCn h2,zAT (by omega)]
 simp only [Option.bind_some]
 rw [zAT (by rw [kH]; omega)]
 simp only [Option.bind_some]
 rw [zAT (by simp only [kH]; omega)]
 simp only [Option.bind_some,zD5]
theorem zGx {p:Pack} (h1:NF p.Name=0) (h2:VF p.Version=0):wV p=some (zCZ p):=by
 have a1:=zDj h1
 have a2:=zCJ h2
 have b1:(bs [112,107,103,47]).size =4:=rfl
 have b2:(bs [45]).size =1:=rfl
 unfold wV zCZ
 rw [zGa h2,zAT (by omega)]
 simp only [Option.bind_some]
 rw [zAT (by rw [kH]; omega)]
 simp only [Option.bind_some]
 rw [zAT (by simp only [kH]; omega)]
 simp only [Option.bind_some,zD5]
theorem zMa (l:List UInt8):bl ⟨l.toArray⟩=l.map (fun b=>(b.toNat:Int)):=by
 unfold bl
 rw [ByteArray.toList_eq]
theorem zFj (u:UInt8):∀(n:Nat),Lib.repeatL [u] n=List.replicate n u
 |0=>rfl
 |n+1=>by rw [Lib.repeatL,zFj u n,List.replicate_succ]; rfl
def zJ5 (n:Int):List Int:=[103,101,110,47]++(List.replicate (6-(zDm n.toNat).length) 48++zDm n.toNat)
theorem zGv (l:List UInt8):(bs l).data.toList =l:=rfl
def zJP (n:Int):ByteArray:=bs [103,101,110,47]++(⟨(List.replicate (6-(zDm n.toNat).length) (48:UInt8)).toArray⟩++zEG n.toNat)
theorem zHk (n:Int):bl (zJP n)=zJ5 n:=by
 unfold zJP zJ5
 rw [zCi,zCi,zJ2,zMa,zDn,List.map_replicate]
 rfl
theorem zD4 {n:Nat} (h:n≤999999):1≤(zDm n).length ∧(zDm n).length ≤6:=by
 refine ⟨?_,zFB 5 n (by omega)⟩
 by_cases hn:n<10
 ·rw [zB8 hn]; simp
 ·rw [zC8 hn,List.length_append]; simp
theorem zIA {n:Int} (h:n≤999999):(zJP n).size =10:=by
 rw [←yM,zHk]
 unfold zJ5
 have:=zD4 (n:=n.toNat) (by omega)
 simp
 omega
theorem zFY {n:Int} (h0:0≤n) (h1:n≤999999):zAz n=some (zJP n):=by
 have hd:=zD4 (n:=n.toNat) (by omega)
 have hs:(zEG n.toNat).size =(zDm n.toNat).length :=by rw [←yM,zDn]
 have hf:=zCM n.toNat (by omega)
 rw [Int.toNat_of_nonneg h0] at hf
 have h4:(bs [103,101,110,47]).size =4:=rfl
 unfold zAz uN
 rw [hf]
 simp only [Option.bind_some]
 rw [hs,xE (by omega) (by omega)]
 unfold strings_Repeat
 rw [if_pos ⟨by omega,by omega,by rw [show (bs [48]).size =1 from rfl]; omega⟩,zGv,zFj]
 simp only [Option.bind_some]
 have hr:(⟨(List.replicate (6-((zDm n.toNat).length :Int)).toNat (48:UInt8)).toArray⟩:ByteArray).size =6-(zDm n.toNat).length :=by
  rw [←yM,zMa]
  simp
 rw [zAT (by rw [hr]; omega)]
 simp only [Option.bind_some]
 rw [zAT (by rw [kH,hr]; omega)]
 unfold zJP
 rw [show (6-((zDm n.toNat).length :Int)).toNat =6-(zDm n.toNat).length by omega]
 simp only [Option.bind_some,zD5]
theorem zIG {α:Type} {g:Nat→α→Option Int} (hg:∀i x,g i x≠some 0):∀(l:List α) (i:Nat),(xW g i l).getD 0=0→xW g i l=none
 |[],_,_=>rfl
 |x::l,i,h=>by
  simp only [xW] at h ⊢
  cases hx:g i x with
  |none=>rw [hx] at h; exact zIG hg l (i+1) h
  |some r=>
   rw [hx] at h
   simp only [Option.getD_some] at h
   subst h
   exact absurd hx (hg i x)
theorem zFI {c:List Pack} (h:CF c=0):c.length≤24∧(∀p∈c,PF p=0)∧∀(j:Nat) (hj:j<c.length),(c.take j).any (isB c[j].Name c[j].Version)=false:=by
 unfold CF at h
 split at h
 ·cases h
 rename_i h1
 have h2:=zIG (g:=zJ4 c) (fun i x=>by
  unfold zJ4
  split
  ·rename_i h3
   intro e
   rw [Option.some.inj e] at h3
   simp at h3
  ·split<;>simp) c 0 h
 rw [zCk] at h2
 have h3:∀(j:Nat) (hj:j<c.length),PF c[j]=0∧(c.take j).any (isB c[j].Name c[j].Version)=false:=by
  intro j hj
  have:=h2 j hj
  unfold zJ4 at this
  rw [Nat.zero_add] at this
  split at this
  ·cases this
  ·rename_i h4
   split at this
   ·cases this
   ·rename_i h5
    exact ⟨by simpa using h4,by simpa using h5⟩
 refine ⟨by simp at h1; omega,fun p hp=>?_,fun j hj=>(h3 j hj).2⟩
 obtain ⟨j,hj,rfl⟩:=List.getElem_of_mem hp
 exact (h3 j hj).1
theorem zIU {a:List Int} (h:∀i,(hi:i+1<a.length)→a[i]<a[i+1]):a.Pairwise (· < ·):=by
 rw [List.pairwise_iff_getElem]
 intro i j hi hj hij
 obtain ⟨d,rfl⟩:∃d,j=i+1+d:=⟨j-i-1,by omega⟩
 clear hij
 induction d with
 |zero=>exact h i (by omega)
 |succ d ih=>
  have h1:=ih (by omega)
  have h2:=h (i+1+d) (by omega)
  show a[i]<a[i+1+d+1]
  omega
theorem zFP:∀{a:List Int} {lo hi:Int},a.Pairwise (· < ·)→(∀k∈a,lo≤k∧k<hi)→(a.length:Int)≤hi-lo∨a=[]
 |[],_,_,_,_=>.inr rfl
 |x::a,lo,hi,hp,hb=>by
  obtain ⟨h1,h2⟩:=List.pairwise_cons.1 hp
  have hx:=hb x (by simp)
  have:=zFP (lo:=x+1) (hi:=hi) h2 (fun k hk=>⟨by have:=h1 k hk; omega,(hb k (by simp [hk])).2⟩)
  refine .inl ?_
  rcases this with h3|h3
  ·simp only [List.length_cons]; omega
  ·subst h3; simp; omega
theorem zFR {c:List Pack} {a:List Int}:zIY c a=true↔a.Pairwise (· < ·)∧Places c a:=by
 unfold zIY
 rw [Option.isNone_iff_eq_none,zCk]
 constructor
 ·intro h
  have h1:∀(j:Nat) (hj:j<a.length),inB a[j] 0 ((c.length:Int)-1)=true∧(0<j→¬a[j]≤a.getD (j-1) 0):=by
   intro j hj
   have:=h j hj
   unfold zI2 at this
   rw [Nat.zero_add] at this
   split at this
   ·cases this
   ·rename_i h2
    simp only [Bool.or_eq_true,Bool.not_eq_true',Bool.and_eq_true,decide_eq_true_eq,not_or,not_and,Bool.not_eq_false] at h2
    exact h2
  refine ⟨zIU fun i hi=>?_,fun k hk=>?_⟩
  ·have:=(h1 (i+1) hi).2 (by omega)
   rw [show i+1-1=i by omega,getD_lt (by omega)] at this
   omega
  ·obtain ⟨j,hj,rfl⟩:=List.getElem_of_mem hk
   have:=(h1 j hj).1
   unfold inB at this
   simp only [Bool.and_eq_true,decide_eq_true_eq] at this
   omega
 ·rintro ⟨h1,h2⟩ j hj
  unfold zI2
  rw [Nat.zero_add]
  have hk:=h2 a[j] (List.getElem_mem hj)
  rw [if_neg]
  simp only [Bool.or_eq_true,Bool.not_eq_true',Bool.and_eq_true,decide_eq_true_eq,not_or,not_and,Bool.not_eq_false]
  refine ⟨by unfold inB; simp; omega,fun h0=>?_⟩
  rw [getD_lt (by omega)]
  have:=(List.pairwise_iff_getElem.1 h1) (j-1) j (by omega) hj (by omega)
  omega
def zFM (p:Pack):ByteArray:=p.Name++(bs [32]++(zKp p.Version++bs [10]))
def zGH (c:List Pack) (k:Int):ByteArray:=zFM (pat c k)
def zKy (c:List Pack) (a:List Int):ByteArray:=zJx (zGH c) (bs []) a
theorem zDy {p:Pack} (h1:NF p.Name=0) (h2:VF p.Version=0):(zFM p).size ≤25:=by
 have a1:=zDj h1
 have a2:=zCJ h2
 have b1:(bs [32]).size =1:=rfl
 have b2:(bs [10]).size =1:=rfl
 unfold zFM
 simp only [kH]
 omega
def Pks (c:List Pack):Prop:=∀p∈c,NF p.Name=0∧VF p.Version=0
theorem zI4 {c:List Pack} (h:CF c=0):Pks c:=fun p hp=>by
 obtain ⟨h1,h2,_⟩:=zIL ((zFI h).2.1 p hp)
 exact ⟨h1,h2⟩
theorem zEl {c:List Pack} {a:List Int} (hc:Pks c) (hp:Places c a) (ha:a.length≤1048576):zB7 c a=some (zKy c a)∧(zKy c a).size ≤a.length*25:=by
 have hk:∀k∈a,NF (pat c k).Name =0∧VF (pat c k).Version =0:=fun k hk=>hc _ (zCw (hp k hk)).2
 have hz:(bs []).size =0:=rfl
 have key:=zFS a (zGH c) 25 (fun k hk2=>zDy (hk k hk2).1 (hk k hk2).2) (b:=zAt c a) (bs []) (fun i x hi hx=>by
  have hm:=List.getElem_mem hi
  obtain ⟨e1,_⟩:=zCw (hp _ hm)
  obtain ⟨h1,h2⟩:=hk _ hm
  have a1:=zDj h1
  have a2:=zCJ h2
  have b1:(bs [32]).size =1:=rfl
  have b2:(bs [10]).size =1:=rfl
  unfold zAt
  rw [if_pos (by simp; omega),zP hi]
  simp only [Option.bind_some,e1]
  rw [zAT (by omega)]
  simp only [Option.bind_some]
  rw [zAT (by simp only [kH]; omega)]
  simp only [Option.bind_some,zCn h2]
  rw [zAT (by simp only [kH]; omega)]
  simp only [Option.bind_some]
  rw [zAT (by simp only [kH]; omega),zV (by omega)]
  simp only [Option.bind_some,zD5]
  rfl) (fun x=>by
  unfold zAt
  rw [if_neg (by simp)])
 unfold zB7 zAX
 rw [key.1]
 refine ⟨rfl,?_⟩
 have:=key.2
 unfold zKy
 omega
theorem zGs {a b:ByteArray} (h:a.size+b.size≤1000000):zB3 [a,b]=some (a++(bs [32]++b)):=by
 unfold zB3 strings_Join
 have e:Lib.join ([a,b].map (·.data.toList)) (bs [32]).data.toList =a.data.toList++([32]++b.data.toList):=by
  simp only [List.map_cons,List.map_nil,Lib.join_cons,Lib.joinTail,zGv]
  simp
 rw [e,if_pos ⟨by simp,by
  have h1:a.data.toList.length=a.size:=rfl
  have h2:b.data.toList.length=b.size:=rfl
  simp only [List.length_append,h1,h2]
  simp only [List.length_cons,List.length_nil]
  omega⟩]
 simp only [Option.bind_some]
 congr 1
theorem zGl {c:List Pack} {a:List Int} (hc:Pks c) (hp:Places c a) (ha:a.length≤1048576):zA0 c a=some (zKy c a):=by
 have hk:∀k∈a,NF (pat c k).Name =0∧VF (pat c k).Version =0:=fun k hk=>hc _ (zCw (hp k hk)).2
 have hz:(bs []).size =0:=rfl
 have key:=zFS a (zGH c) 25 (fun k hk2=>zDy (hk k hk2).1 (hk k hk2).2) (b:=kT c a) (bs []) (fun i x hi hx=>by
  have hm:=List.getElem_mem hi
  obtain ⟨e1,_⟩:=zCw (hp _ hm)
  obtain ⟨h1,h2⟩:=hk _ hm
  have a1:=zDj h1
  have a2:=zCJ h2
  have b1:(bs [32]).size =1:=rfl
  have b2:(bs [10]).size =1:=rfl
  unfold kT
  rw [if_pos (by simp; omega),zP hi]
  simp only [Option.bind_some,e1,zGa h2]
  rw [zGs (by omega)]
  simp only [Option.bind_some]
  rw [zAT (by simp only [kH]; omega)]
  simp only [Option.bind_some]
  rw [zAT (by simp only [kH]; omega),zV (by omega)]
  simp only [Option.bind_some,zD5]
  rfl) (fun x=>by
  unfold kT
  rw [if_neg (by simp)])
 unfold zA0 zAo
 rw [key.1]
 rfl
theorem u8w (x:Int):IntKind.u8.wrap x=x%256:=by
 simp only [IntKind.wrap,IntKind.signed,IntKind.bits]
 simp
def zAV (p:Pack):Int:=p.Version.A+p.Version.B+p.Version.C+(bl p.Name).foldl (· + ·) 0
def zI0 (b0:Int):Nat→Int
 |0=>b0
 |i+1=>(31*zI0 b0 i+7)%256
def zEP (p:Pack):List Int:=(List.range p.Size.toNat).map (zI0 (zAV p%256))
theorem zFr {b0:Int} (h:0≤b0∧b0<256):∀i,0≤zI0 b0 i∧zI0 b0 i<256
 |0=>h
 |i+1=>by unfold zI0; omega
theorem zCR:∀(l:List Int) (a:Int),l.foldl (· + ·) a=a+l.foldl (· + ·) 0
 |[],a=>by simp
 |x::l,a=>by
  simp only [List.foldl_cons]
  rw [zCR l (a+x),zCR l (0+x)]
  omega
theorem zGz:∀(l:List Int) (i:Nat) (a:Int),foldI (fun _ a x=>a+x) i l a=a+l.foldl (· + ·) 0
 |[],_,a=>by simp [foldI]
 |x::l,i,a=>by
  simp only [foldI,List.foldl_cons]
  rw [zGz l (i+1) (a+x),zCR l (0+x)]
  omega
theorem zG9:∀(l:List Int) (i:Nat) (a b:Int),b=a%256→foldI (fun _ a x=>(a+x)%256) i l b=(a+l.foldl (· + ·) 0)%256
 |[],_,a,b,h=>by simp [foldI,h]
 |x::l,i,a,b,h=>by
  simp only [foldI,List.foldl_cons]
  rw [zG9 l (i+1) (a+x) ((b+x)%256) (by rw [h]; omega),zCR l (0+x)]
  congr 1
  omega
theorem zGw {p:Pack} (h1:NF p.Name=0) (h2:VF p.Version=0) (h3:1≤p.Size∧p.Size≤200):zAG p=some (zEP p):=by
 obtain ⟨v1,v2,v3⟩:=zE7 h2
 have hn:=zDj h1
 have hlen:(bl p.Name).length ≤12:=by rw [yM]; omega
 have k1:=zCd (bl p.Name) (fun _ a x=>a+x) (fun i a=>0≤a∧a≤3000+i*255) (b:=kQ p) (by
  intro i a hi ha
  have hr:=zF8 (bl p.Name)[i] (List.getElem_mem hi)
  unfold kQ
  rw [if_pos (by rw [yM] at hi; simp; omega)]
  simp only
  rw [zCo hi]
  simp only [Option.bind_some]
  rw [xE (x:=(bl p.Name)[i]) (by omega) (by omega),xE (by omega) (by omega),zV (by omega)]
  exact ⟨rfl,by omega,by omega⟩) (by
  intro a
  unfold kQ
  rw [if_neg (by rw [yM]; simp)]) (bl p.Name).length 0 (p.Version.A+p.Version.B+p.Version.C) (by omega) ⟨by omega,by omega⟩
 rw [List.drop_zero,zGz] at k1
 obtain ⟨e1,b1,b2⟩:=k1
 have hb:0≤zAV p∧zAV p≤3000+12*255:=by
  unfold zAV
  omega
 obtain ⟨t,e2,rfl⟩:=jP (b:=kX p) (fun i s=>s.2.2=(i:Int)∧s.2.1=(List.range i).map (zI0 (zAV p%256))∧0≤s.1∧s.1≤10000∧s.1%256=zI0 (zAV p%256) i) p.Size.toNat (fun t=>t=zEP p) (by
  rintro i ⟨n,out,j⟩ hi ⟨hj,ho,h4,h5,h6⟩
  simp only at hj ho h4 h5 h6
  subst hj ho
  unfold kX
  rw [if_pos (by simp; omega)]
  simp only
  have ht:n.tmod 256=n%256:=Int.tmod_eq_emod_of_nonneg h4
  rw [ht,u8w,zDx (by simp; omega) (by simp; omega)]
  simp only [Option.bind_some]
  rw [xE (x:=31*(n%256)) (by omega) (by omega),xE (by omega) (by omega),zV (by omega)]
  refine .inl ⟨_,rfl,rfl,?_,by omega,by omega,?_⟩
  ·simp only
   rw [List.range_succ,List.map_append,show n%256%256=zI0 (zAV p%256) i by omega]
   rfl
  ·simp only [zI0]
   rw [←h6]) (by
  rintro ⟨n,out,j⟩ ⟨hj,ho,_⟩
  simp only at hj ho
  subst hj ho
  unfold kX
  rw [if_neg (by simp; omega)]
  exact ⟨_,rfl,rfl⟩) p.Size.toNat 0 (zAV p,([]:List Int),0) (by omega) ⟨rfl,rfl,hb.1,by omega,rfl⟩
 unfold zAG
 rw [xE (x:=p.Version.A+p.Version.B) (by omega) (by omega),xE (x:=p.Version.A+p.Version.B+p.Version.C) (by omega) (by omega)]
 unfold zAM
 rw [show ((0:Nat):Int)=0 from rfl] at e1
 rw [e1]
 simp only [Option.bind_some]
 unfold zAp
 unfold zAV at e2
 rw [e2]
 rfl
theorem zFh {p:Pack} (h1:NF p.Name=0) (h2:VF p.Version=0) (h3:1≤p.Size∧p.Size≤200):wF p=some (zEP p):=by
 obtain ⟨v1,v2,v3⟩:=zE7 h2
 have hn:=zDj h1
 have hlen:(bl p.Name).length ≤12:=by rw [yM]; omega
 have k1:=zCd (bl p.Name) (fun _ a x=>(a+x)%256) (fun i a=>True) (b:=uK p) (by
  intro i a hi ha
  unfold uK
  rw [if_pos (by rw [yM] at hi; simp; omega)]
  simp only
  rw [zCo hi]
  simp only [Option.bind_some,u8w]
  rw [zV (by omega)]
  exact ⟨rfl,trivial⟩) (by
  intro a
  unfold uK
  rw [if_neg (by rw [yM]; simp)]) (bl p.Name).length 0 ((p.Version.A+p.Version.B+p.Version.C)%256) (by omega) trivial
 rw [List.drop_zero,zG9 _ _ (p.Version.A+p.Version.B+p.Version.C) _ rfl] at k1
 have hb:0≤zAV p%256∧zAV p%256<256:=by omega
 obtain ⟨t,e2,rfl⟩:=jP (b:=uL p) (fun i s=>s.2.2=(i:Int)∧s.2.1=(List.range i).map (zI0 (zAV p%256))∧s.1=zI0 (zAV p%256) i) p.Size.toNat (fun t=>t=zEP p) (by
  rintro i ⟨n,out,j⟩ hi ⟨hj,ho,h6⟩
  simp only at hj ho h6
  subst hj ho h6
  have hr:=zFr hb i
  unfold uL
  rw [if_pos (by simp; omega)]
  simp only
  rw [zDx (by simp; omega) (by simp; omega)]
  simp only [Option.bind_some,u8w]
  rw [zV (by omega)]
  refine .inl ⟨_,rfl,rfl,?_,?_⟩
  ·simp only
   rw [List.range_succ,List.map_append]
   rfl
  ·simp only [zI0]
   omega) (by
  rintro ⟨n,out,j⟩ ⟨hj,ho,_⟩
  simp only at hj ho
  subst hj ho
  unfold uL
  rw [if_neg (by simp; omega)]
  exact ⟨_,rfl,rfl⟩) p.Size.toNat 0 (zAV p%256,([]:List Int),0) (by omega) ⟨rfl,rfl,rfl⟩
 unfold wF
 simp only [u8w]
 rw [show ((p.Version.A%256+p.Version.B%256)%256+p.Version.C%256)%256=(p.Version.A+p.Version.B+p.Version.C)%256 by omega]
 unfold tT
 rw [show ((0:Nat):Int)=0 from rfl] at k1
 rw [k1.1]
 simp only [Option.bind_some]
 unfold tH
 unfold zAV at e2
 rw [e2]
 rfl
theorem zGN (p:Pack):∀x∈zEP p,0≤x∧x≤255:=by
 intro x hx
 unfold zEP at hx
 obtain ⟨i,_,rfl⟩:=List.mem_map.1 hx
 have:=zFr (b0:=zAV p%256) (by omega) i
 omega
theorem zCF (p:Pack):(zEP p).length =p.Size.toNat:=by simp [zEP]
def fileOf (d:zI) (p:ByteArray):Option File:=d.Files.find? (fun f=>decide (f.Path=p))
def zD2 (c:List Pack) (d:zI) (k:Int):Bool:=match fileOf d (zCZ (pat c k)) with
 |none=>true
 |some f=>decide (f.Data≠zEP (pat c k))
def zCO (c:List Pack) (d:zI) (a:List Int):List Int:=a.filter (zD2 c d)
def Byt (d:zI):Prop:=∀f∈d.Files,∀c∈f.Data,0≤c∧c≤255
theorem zK5 {a b:List Int} (ha:∀c∈a,0≤c∧c≤255) (hb:∀c∈b,0≤c∧c≤255):seq (b2s a) (b2s b)=decide (a=b):=by
 rw [zH3,zKz ha,zKz hb]
theorem zHg (a b:List Int) (h:a.length≤1048576):wE a b=some (decide (a=b)):=by
 unfold wE
 by_cases hl:a.length=b.length
 ·rw [if_neg (by simp [hl])]
  have key:=xV a (fun i x=>if x !=b.getD i 0 then some false else none) (b:=wO a b) (by
   intro i hi
   unfold wO
   rw [if_pos (by simp; omega),zP hi,zP (show i<b.length by omega)]
   simp only [Option.bind_some,getD_lt (show i<b.length by omega)]
   rw [zV (by omega)]
   cases a[i] !=b[i]<;>rfl) (by
   unfold wO
   rw [if_neg (by simp)])
  unfold wY
  rw [key,zBY]
  by_cases he:a=b
  ·have hn:xW (fun i x=>if x !=b.getD i 0 then some false else none) 0 a=none:=by
    rw [zCk]
    intro j hj
    subst he
    rw [Nat.zero_add,getD_lt hj]
    simp
   rw [hn,decide_eq_true he]
  ·rw [decide_eq_false he]
   cases hs:xW (fun i x=>if x !=b.getD i 0 then some false else none) 0 a with
   |none=>
    rw [zCk] at hs
    refine absurd (List.ext_getElem hl fun j h1 h2=>?_) he
    have:=hs j h1
    rw [Nat.zero_add,getD_lt h2] at this
    split at this
    ·cases this
    ·rename_i h3; simpa using h3
   |some r=>
    have:∀(l:List Int) (i:Nat),xW (fun i x=>if x !=b.getD i 0 then some false else none) i l=some r→r=false:=by
     intro l
     induction l with
     |nil=>intro i h; cases h
     |cons x l ih=>
      intro i h
      simp only [xW] at h
      by_cases hc:(x !=b.getD i 0)=true
      ·rw [if_pos hc] at h; exact (Option.some.inj h).symm
      ·rw [if_neg hc] at h; exact ih _ h
    rw [this a 0 hs]
 ·rw [if_pos (by simp; omega),decide_eq_false (fun e=>hl (by rw [e]))]
theorem zC3 (d:zI) (p:ByteArray) (hg:d.good):
  (∃k:Nat,∃hk:k<d.Files.length,yX d p=some (k:Int)∧yS d p=some (d.Files[k].Data,true)∧fileOf d p=some d.Files[k])∨
   (yX d p=some (-1)∧yS d p=some ([],false)∧fileOf d p=none):=by
 rcases zIT d p hg with ⟨k,hk,e1,e2,hp⟩|⟨e1,e2,hp⟩
 ·exact .inl ⟨k,hk,e1,e2,zK7 hg.sorted hk hp⟩
 ·exact .inr ⟨e1,e2,zG4 hp⟩
def Pkz (c:List Pack):Prop:=∀p∈c,NF p.Name=0∧VF p.Version=0∧(1≤p.Size∧p.Size≤200)
theorem zFc {c:List Pack} (h:CF c=0):Pkz c:=fun p hp=>by
 obtain ⟨h1,h2,h3⟩:=zIL ((zFI h).2.1 p hp)
 refine ⟨h1,h2,?_⟩
 unfold inB at h3
 simpa using h3
theorem zDO {α:Type} (q:α→Bool):∀(l:List α) (i:Nat) (acc:List α),foldI (fun _ a x=>if q x then a++[x] else a) i l acc=acc++l.filter q
 |[],_,acc=>by simp [foldI]
 |x::l,i,acc=>by
  simp only [foldI]
  rw [zDO q l (i+1)]
  cases h:q x<;>simp [h]
section
variable {c:List Pack} {d:zI} {a:List Int} (hc:Pkz c) (hg:d.good) (hb:Byt d) (hp:Places c a) (ha:a.length≤1048576)
include hc hg hb hp ha in
theorem zEM:jD c d a=some (zCO c d a):=by
 have key:=zCd a (fun _ l k=>if zD2 c d k then l++[k] else l) (fun i l=>l.length≤i) (b:=uX c d a) (by
  intro i l hi hl
  have hm:=List.getElem_mem hi
  obtain ⟨e1,e2⟩:=zCw (hp _ hm)
  obtain ⟨p1,p2,p3⟩:=hc _ e2
  unfold uX
  rw [if_pos (by simp; omega)]
  simp only
  rw [zP hi]
  simp only [Option.bind_some,e1,zE3 p1 p2,zGw p1 p2 p3]
  rw [zV (by omega),zDx (by simp; omega) (by simp; omega)]
  have hx:(if zD2 c d a[i] then l++[a[i]] else l).length ≤i+1:=by
   split
   ·simp; omega
   ·omega
  refine ⟨?_,hx⟩
  have fin:∀v52:Bool,v52=zD2 c d a[i]→((if v52=true then (some (l++[a[i]])) else (some l)).bind fun v58=>some (Lp.go (v58,((i+1:Nat):Int))))=(some (Lp.go ((if zD2 c d a[i]=true then l++[a[i]] else l),((i+1:Nat):Int))):Option (Lp (List Int×Int) (List Int))):=by
   rintro _ rfl
   cases zD2 c d a[i]<;>rfl
  rcases zC3 d (zCZ (pat c a[i])) hg with ⟨k,hk,f1,_,f3⟩|⟨f1,_,f3⟩
  ·rw [f1]
   simp only [Option.bind_some]
   rw [if_neg (show ¬decide ((k:Int)<0)=true by simp),zP hk]
   unfold zBK
   refine fin _ ?_
   unfold zD2
   rw [f3,zK5 (hb _ (List.getElem_mem hk)) (zGN _)]
   simp
  ·rw [f1]
   refine fin true ?_
   unfold zD2
   rw [f3]) (by
  intro l
  unfold uX
  rw [if_neg (by simp)]) a.length 0 [] (by omega) (by simp)
 unfold jD jW
 rw [show ((0:Nat):Int)=0 from rfl] at key
 rw [key.1,List.drop_zero,zDO]
 rfl
end
section
variable {c:List Pack} {d:zI} {a:List Int} (hc:Pkz c) (hg:d.good) (hb:Byt d) (hp:Places c a) (ha:a.length≤1048576)
include hc hg hp in
theorem zF6:∀k∈a,tX k d c=some (zD2 c d k):=by
 intro k hk
 obtain ⟨e1,e2⟩:=zCw (hp k hk)
 obtain ⟨p1,p2,p3⟩:=hc _ e2
 unfold tX
 rw [e1]
 simp only [Option.bind_some,zGx p1 p2,zFh p1 p2 p3]
 unfold zD2
 rcases zC3 d (zCZ (pat c k)) hg with ⟨q,hq,_,f2,f3⟩|⟨_,f2,f3⟩
 ·rw [f2,f3]
  simp only [Option.bind_some]
  rw [if_neg (by simp),zHg _ _ (by have:=hg.data _ (List.getElem_mem hq); omega)]
  simp
 ·rw [f2,f3]
  rfl
end
section
variable {c:List Pack} {d:zI} {a:List Int} (hc:Pkz c) (hg:d.good) (hb:Byt d) (hp:Places c a) (ha:a.length≤1048576)
include hc hg hp ha in
theorem zG3:zAh c d a=some (zCO c d a):=by
 have h1:=zF6 hc hg hp
 have h2:∀k∈a,yF k d c=some (!(zD2 c d k)):=by
  intro k hk
  unfold yF
  rw [h1 k hk]
  rfl
 have key:=zLj (fun k=> !(zD2 c d k)) a (0:Int) (by omega) (b1:=zM a d c) (b2:=zL d c) (by
  intro i hi
  unfold zM
  rw [if_pos (by simp; omega),zP hi]
  simp only [Option.bind_some,h2 _ (List.getElem_mem hi)]
  rw [zV (by omega)]
  split<;>rfl) (by
  unfold zM
  rw [if_neg (by simp)]) (by
  intro xs i j hj hij hl hm
  unfold zL
  simp only
  rw [if_pos (by simp; omega),zP hj]
  simp only [Option.bind_some,h2 _ hm]
  rw [zP (show i<xs.length by omega),zV (show j<_ by omega),zV (show i<_ by omega)]
  cases zD2 c d xs[j]<;>simp) (by
  intro xs i hl
  unfold zL
  rw [if_neg (by simp)])
 have hf:a.filter (fun x=> !!(zD2 c d x))=zCO c d a:=by simp [zCO]
 rw [hf] at key
 unfold zAh xB wP
 rw [zDx (by simp; omega) (by simp; omega)]
 simp only [Option.bind_some,List.nil_append]
 have e:zK a d c=some (zCO c d a):=key
 rw [e]
 rfl
end
theorem zDE (x y:Int):xA [x,y]=some (if x !=0 then x else y):=by
 unfold xA vZ
 rw [zHF _ (by simp),zBY]
 simp only [xW]
 by_cases h:x=0
 ·by_cases h2:y=0<;>simp [h,h2]
 ·simp [h]
theorem zIo {c:List Pack} {d:zI} (hc:Cat c):∀r,xU d=some r→tL c d=some (if CF c !=0 then CF c else r):=by
 intro r hr
 unfold tL
 rw [zDI c hc,hr]
 simp only [Option.bind_some]
 cases CF c !=0<;>rfl
theorem zIQ {c:List Pack} {d:zI} (hc:Cat c):∀r,xU d=some r→vM c d=some (if CF c !=0 then CF c else r):=by
 intro r hr
 unfold vM
 rw [zC2 c hc,zEU,hr]
 simp only [Option.bind_some,zDE]
theorem zHf {c:List Pack} {d:zI} (hC:Cat c) (hd:zI.sm 1048576 d):(∃q,q≠0∧tL c d=some q∧vM c d=some q)∨(tL c d=some 0∧vM c d=some 0∧CF c=0∧d.good):=by
 obtain ⟨k,ek,hk⟩:=zEY d hd.1.1
 rw [zIo hC k ek,zIQ hC k ek]
 by_cases h0:CF c=0
 ·by_cases h1:k=0
  ·exact .inr ⟨by simp [h0,h1],by simp [h0,h1],h0,hk h1⟩
  ·exact .inl ⟨k,h1,by simp [h0],by simp [h0]⟩
 ·exact .inl ⟨CF c,h0,by simp [h0],by simp [h0]⟩
theorem zLQ (s:ByteArray):s2b s=bl s:=by
 unfold s2b bl
 rw [ByteArray.toList_eq]
theorem zH0 {n:Int} (h0:1≤n) (h1:n≤999999):uN n=some (zEG n.toNat)∧yQ n=some (zEG n.toNat)∧(s2b (zEG n.toNat)).length ≤6:=by
 have e:n=(n.toNat:Int):=by omega
 have hl:=(zD4 (n:=n.toNat) (by omega)).2
 refine ⟨?_,?_,?_⟩
 ·unfold uN
  have h:=zCM n.toNat (by omega)
  rw [←e] at h
  rw [h]
  rfl
 ·obtain ⟨s,e1,e2⟩:=zCt n.toNat (by omega)
  rw [←e] at e1
  rw [e1]
  congr 1
  exact zHC.1 (by rw [e2,zDn])
 ·rw [zLQ,zDn]
  exact hl
def zBH (fs:List File):Int:=match (zCE fs).getLast? with
 |none=>1
 |some n=>n+1
theorem zEf (d:zI) (hl:d.Files.length≤1048576) (hs:d.Files.Pairwise (fun f g=>slt f.Path g.Path=true)):kC d=some (zBH d.Files)∧wW d=some (zBH d.Files):=by
 have hgl:=zGg d.Files
 have hm:=fun n=>zGe (fs:=d.Files) (n:=n)
 have hso:=zDN hs
 unfold kC wW zBH
 rw [zI3 d hl,zKW d hl]
 simp only [Option.bind_some]
 generalize zCE d.Files=g at*
 constructor
 ·by_cases h0:g=[]
  ·subst h0; rfl
  ·have hpos:0<g.length:=List.length_pos_iff.2 h0
   have hne:((g.length:Int)==0)=false:=by simp; omega
   rw [hne]
   simp only [Bool.false_eq_true,if_false]
   rw [xE (by omega) (by omega),show ((g.length:Int)-1)=((g.length-1:Nat):Int) by omega,zP (by omega)]
   simp only [Option.bind_some]
   rw [List.getLast?_eq_getElem?,List.getElem?_eq_getElem (by omega)]
   have:=hm _ (List.getElem_mem (show g.length-1<g.length by omega))
   rw [xE (by omega) (by omega)]
 ·obtain ⟨t,e,rfl⟩:=jP (b:=uV g) (fun i s=>s=((match (g.take i).getLast? with|none=>1|some n=>n+1),(i:Int))) g.length (fun t=>t=match g.getLast? with|none=>1|some n=>n+1) (by
   rintro i s hi rfl
   have hgi:=hm _ (List.getElem_mem hi)
   unfold uV
   rw [if_pos (by simp; omega)]
   simp only [zP hi,Option.bind_some]
   rw [xE (x:=g[i]+1) (by omega) (by omega),zV (by omega)]
   refine .inl ⟨_,rfl,?_⟩
   have e2:(g.take (i+1)).getLast? =some g[i]:=by
    rw [List.take_succ_eq_append_getElem hi,List.getLast?_append]
    simp
   rw [e2]
   simp only
   congr 1
   cases h3:(g.take i).getLast? with
   |none=>simp only; rw [if_pos (by omega)]
   |some m=>
    simp only
    have hmem:m∈g.take i:=List.mem_of_getLast? h3
    obtain ⟨j,hj,rfl⟩:=List.getElem_of_mem hmem
    have hj':j<i:=by simp at hj; omega
    have:=List.pairwise_iff_getElem.1 hso j i (by omega) hi hj'
    simp only [List.getElem_take] at*
    rw [if_pos (by omega)]) (by
   rintro s rfl
   unfold uV
   rw [if_neg (by simp)]
   exact ⟨_,rfl,by simp⟩) g.length 0 (1,0) (by omega) (by simp)
  simp only [jM,e,Option.bind_some]
theorem zJs:∀(n:Nat),(∀c∈zDm n,zDp c=true)∧val (zDm n)=(n:Int):=by
 intro n
 induction n using Nat.strongRecOn with
 |_ n ih=>
  by_cases h:n<10
  ·rw [zB8 h]
   refine ⟨fun c hc=>?_,by simp [val]; omega⟩
   simp only [List.mem_singleton] at hc
   subst hc
   unfold zDp
   simp; omega
  ·rw [zC8 h]
   obtain ⟨h1,h2⟩:=ih (n / 10) (by omega)
   refine ⟨fun c hc=>?_,?_⟩
   ·rcases List.mem_append.1 hc with hc|hc
    ·exact h1 c hc
    ·simp only [List.mem_singleton] at hc
     subst hc
     unfold zDp
     simp; omega
   ·rw [zCA,h2]
    omega
theorem zGh (l:List Int):∀(k:Nat),val (List.replicate k 48++l)=val l
 |0=>rfl
 |k+1=>by
  have:=zGh l k
  unfold val at this ⊢
  rw [List.replicate_succ,List.cons_append,List.foldl_cons]
  exact this
theorem zIr {n:Int} (h0:1≤n) (h1:n≤999999):zBA (zJ5 n)=some n:=by
 have hl:=zD4 (n:=n.toNat) (by omega)
 obtain ⟨d1,d2⟩:=zJs n.toNat
 have hd:(zJ5 n).drop 4=List.replicate (6-(zDm n.toNat).length) 48++zDm n.toNat:=rfl
 have hlen:((zJ5 n).drop 4).length =6:=by rw [hd]; simp; omega
 have hlen':(zJ5 n).length =10:=by
  have:=List.length_drop (i:=4) (l:=zJ5 n)
  omega
 have hdig:∀c∈(zJ5 n).drop 4,zDp c=true:=by
  rw [hd]
  intro c hc
  rcases List.mem_append.1 hc with hc|hc
  ·rw [List.eq_of_mem_replicate hc]; rfl
  ·exact d1 c hc
 have hv:val ((zJ5 n).drop 4)=n:=by rw [hd,zGh,d2]; omega
 unfold zBA zI1
 rw [if_neg (by rw [hlen]; rintro (h|h|h); omega; omega; exact h hdig),hv]
 simp only
 rw [if_pos ⟨h0,hlen'⟩]
theorem zJZ {fs:List File} {n:Int} (h0:1≤n) (h1:n≤999999) {f:File} (hf:f∈fs) (hp:f.Path=zJP n):n∈zCE fs:=by
 unfold zCE
 refine List.mem_filterMap.2 ⟨zJP n,?_,by rw [zHk]; exact zIr h0 h1⟩
 unfold wR
 refine List.mem_map.2 ⟨f,List.mem_filter.2 ⟨hf,?_⟩,hp⟩
 rw [hp]
 have hs:=zIA h1
 have h4:(bs [103,101,110,47]).size =4:=rfl
 unfold begins
 rw [zH3,zCy,zHk,zHI,hs,h4]
 rfl
theorem zF9 {fs:List File} (hs:fs.Pairwise (fun f g=>slt f.Path g.Path=true)):zBH fs∉zCE fs∧1≤zBH fs:=by
 have hso:=zDN hs
 have hm:=fun n=>zGe (fs:=fs) (n:=n)
 unfold zBH
 cases hc:(zCE fs).getLast? with
 |none=>
  have:zCE fs=[]:=List.getLast?_eq_none_iff.1 hc
  rw [this]
  simp
 |some m=>
  obtain ⟨l,hl⟩:=List.getLast?_eq_some_iff.1 hc
  have hmm:=hm m (List.mem_of_getLast? hc)
  rw [hl] at hso ⊢
  refine ⟨fun h=>?_,by simp only; omega⟩
  simp only at h
  rcases List.mem_append.1 h with h|h
  ·have:=(List.pairwise_append.1 hso).2.2 _ h m (by simp)
   omega
  ·simp at h
   omega
def oldLen (d:zI) (p:ByteArray):Int:=match fileOf d p with
 |some f=>f.Data.length
 |none=>0
theorem zCr {d:zI} (hg:d.good) (p:ByteArray):0≤oldLen d p∧oldLen d p≤4000:=by
 unfold oldLen
 rcases zC3 d p hg with ⟨q,hq,_,_,f3⟩|⟨_,_,f3⟩
 ·rw [f3]
  have:=hg.data _ (List.getElem_mem hq)
  simp only; omega
 ·rw [f3]; simp
theorem zJw {d:zI} (hg:d.good) {f:File} (hf:f.Data.length≤10000):jG d f=some ((f.Data.length:Int)-oldLen d f.Path):=by
 have hb:=zCr hg f.Path
 unfold jG oldLen at*
 rcases zC3 d f.Path hg with ⟨q,hq,_,f2,f3⟩|⟨_,f2,f3⟩
 ·rw [f2]
  rw [f3] at hb ⊢
  simp only [Option.bind_some] at hb ⊢
  rw [xE (by omega) (by omega)]
 ·rw [f2]
  rw [f3]
  simp only [Option.bind_some,List.length_nil]
  rw [xE (by omega) (by omega)]
  rfl
def zB2 (d:zI):List File→Int
 |[]=>0
 |f::l=>((f.Data.length:Int)-oldLen d f.Path)+zB2 d l
theorem zCs (d:zI):∀(l r:List File),zB2 d (l++r)=zB2 d l+zB2 d r
 |[],r=>by simp [zB2]
 |x::l,r=>by simp only [List.cons_append,zB2,zCs d l r]; omega
theorem zDt {d:zI} (hg:d.good):∀(l:List File),(∀f∈l,f.Data.length≤10000)→ -4000*(l.length:Int)≤zB2 d l∧zB2 d l≤10000*(l.length:Int)
 |[],_=>by simp [zB2]
 |x::l,h=>by
  have:=zDt hg l (fun f hf=>h f (List.mem_cons_of_mem _ hf))
  have h1:=h x (by simp)
  have h2:=zCr hg x.Path
  simp only [zB2,List.length_cons]
  omega
def zH9 (d:zI) (p:ByteArray):Int:=match fileOf d p with
 |some _=>0
 |none=>1
theorem zIk (d:zI) (p:ByteArray):0≤zH9 d p∧zH9 d p≤1:=by
 unfold zH9
 cases fileOf d p<;>simp
def zFZ (d:zI):List File→Int
 |[]=>0
 |f::l=>zH9 d f.Path+zFZ d l
theorem zEn (d:zI):∀(l r:List File),zFZ d (l++r)=zFZ d l+zFZ d r
 |[],r=>by simp [zFZ]
 |x::l,r=>by simp only [List.cons_append,zFZ,zEn d l r]; omega
theorem zDF (d:zI):∀(l:List File),0≤zFZ d l∧zFZ d l≤(l.length:Int)
 |[]=>by simp [zFZ]
 |x::l=>by
  have:=zDF d l
  have:=zIk d x.Path
  simp only [zFZ,List.length_cons]
  omega
def wN (c:List Pack) (k:Int):File:= {Path:=zCZ (pat c k),Data:=zEP (pat c k)}
theorem zIS {c:List Pack} {d:zI} (h0:CF c=0) (hg:d.good) (hb:Byt d) {a:List Int} (hs:zIY c a=true) (hn:zBH d.Files≤999999):
  zB6 c d a=some (((zKy c a).size :Int)+((zEG (zBH d.Files).toNat).size :Int)+zB2 d ((zCO c d a).map (wN c))-oldLen d (bs [99,117,114]),1+zFZ d ((zCO c d a).map (wN c))+zH9 d (bs [99,117,114])):=by
 obtain ⟨g3,g4⟩:=zFR.1 hs
 have hcl:=(zFI h0).1
 have hal:a.length≤24:=by
  rcases zFP (lo:=0) (hi:=c.length) g3 g4 with h|h
  ·omega
  ·rw [h]; simp
 have hP:Places c a:=g4
 obtain ⟨t1,t2⟩:=zEl (zI4 h0) hP (by omega)
 have hl:d.Files.length≤1048576:=by have:=hg.len; omega
 have hn1:=(zF9 hg.sorted).2
 obtain ⟨_,d2,_⟩:=zH0 hn1 hn
 have hds:(zEG (zBH d.Files).toNat).size ≤6:=by
  rw [←yM,zDn]
  exact (zD4 (by omega)).2
 have hLl:(zCO c d a).length ≤24:=Nat.le_trans (List.length_filter_le _ _) hal
 have hLP:∀k∈zCO c d a,0≤k∧k<c.length:=fun k hk=>hP k (List.mem_filter.1 hk).1
 unfold zB6
 rw [zEM (zFc h0) hg hb hP (by omega),t1,(zEf d hl hg.sorted).1]
 simp only [Option.bind_some,d2]
 rw [xE (by omega) (by omega)]
 generalize hL:zCO c d a=L at*
 generalize hS:((zKy c a).size :Int)+((zEG (zBH d.Files).toNat).size :Int)=S0
 have hS0:0≤S0∧S0≤1000:=by omega
 have hbnd:∀i,-100000≤zB2 d ((L.take i).map (wN c))∧zB2 d ((L.take i).map (wN c))≤240000:=fun i=>by
  have:=zDt hg ((L.take i).map (wN c)) (fun f hf=>by
   obtain ⟨k,hk,rfl⟩:=List.mem_map.1 hf
   obtain ⟨_,e2⟩:=zCw (hLP k (List.mem_of_mem_take hk))
   obtain ⟨_,_,p3⟩:=zFc h0 _ e2
   unfold wN
   simp only [zCF]
   omega)
  rw [List.length_map,List.length_take] at this
  omega
 obtain ⟨⟨v,q⟩,e,ht⟩:=jP (b:=zAK c d L) (fun i s=>s.1=S0+zB2 d ((L.take i).map (wN c))∧s.2.2=(i:Int)∧s.2.1=1+zFZ d ((L.take i).map (wN c))) L.length (fun t=>t.1=S0+zB2 d (L.map (wN c))∧t.2=1+zFZ d (L.map (wN c))) (by
  rintro i ⟨v,q,j⟩ hi ⟨hv,hj,hq⟩
  simp only at hv hj hq
  subst hj
  obtain ⟨e1,e2⟩:=zCw (hLP _ (List.getElem_mem hi))
  obtain ⟨p1,p2,p3⟩:=zFc h0 _ e2
  have b1:=hbnd i
  have b2:=hbnd (i+1)
  have htk:L.take (i+1)=L.take i++[L[i]]:=List.take_succ_eq_append_getElem hi
  have hnext:zB2 d ((L.take (i+1)).map (wN c))=zB2 d ((L.take i).map (wN c))+((pat c L[i]).Size -oldLen d (zCZ (pat c L[i]))):=by
   rw [htk,List.map_append,zCs]
   simp only [List.map_cons,List.map_nil,zB2,wN,zCF]
   omega
  have hab:zFZ d ((L.take (i+1)).map (wN c))=zFZ d ((L.take i).map (wN c))+zH9 d (zCZ (pat c L[i])):=by
   rw [htk,List.map_append,zEn]
   simp only [List.map_cons,List.map_nil,zFZ,wN]
   omega
  have habb:=zDF d ((L.take i).map (wN c))
  rw [List.length_map,List.length_take] at habb
  have hob:=zCr hg (zCZ (pat c L[i]))
  unfold zAK
  rw [if_pos (by simp; omega)]
  simp only
  rw [zP hi]
  simp only [Option.bind_some,e1,zE3 p1 p2,zV (show i<9223372036854775807 by omega)]
  rw [xE (x:=v+(pat c L[i]).Size) (by omega) (by omega)]
  rcases zC3 d (zCZ (pat c L[i])) hg with ⟨k,hk,f1,_,f3⟩|⟨f1,_,f3⟩
  ·have ho:oldLen d (zCZ (pat c L[i]))=(d.Files[k].Data.length :Int):=by unfold oldLen; rw [f3]
   have ha:zH9 d (zCZ (pat c L[i]))=0:=by unfold zH9; rw [f3]
   rw [f1]
   simp only [Option.bind_some]
   rw [if_neg (by simp),zP hk]
   simp only [Option.bind_some]
   rw [xE (by omega) (by omega)]
   exact .inl ⟨_,rfl,by simp only; omega,rfl,by simp only; omega⟩
  ·have ho:oldLen d (zCZ (pat c L[i]))=0:=by unfold oldLen; rw [f3]
   have ha:zH9 d (zCZ (pat c L[i]))=1:=by unfold zH9; rw [f3]
   rw [f1]
   simp only [Option.bind_some]
   rw [if_pos (by decide),xE (x:=q+1) (by omega) (by omega)]
   exact .inl ⟨_,rfl,by simp only; omega,rfl,by simp only; omega⟩) (by
  rintro ⟨v,q,j⟩ ⟨hv,hj,hq⟩
  simp only at hv hj hq
  subst hj
  unfold zAK
  rw [if_neg (by simp)]
  rw [List.take_length] at hv hq
  exact ⟨_,rfl,hv,hq⟩) L.length 0 (S0,1,0) (by omega) ⟨by simp [zB2],rfl,by simp [zFZ]⟩
 simp only at ht
 unfold zAZ
 rw [e]
 have b1:=hbnd L.length
 rw [List.take_length] at b1
 have hob:=zCr hg (bs [99,117,114])
 rcases zC3 d (bs [99,117,114]) hg with ⟨k,hk,f1,_,f3⟩|⟨f1,_,f3⟩
 ·have ho:oldLen d (bs [99,117,114])=(d.Files[k].Data.length :Int):=by unfold oldLen; rw [f3]
  have ha:zH9 d (bs [99,117,114])=0:=by unfold zH9; rw [f3]
  rw [f1]
  simp only [Option.bind_some]
  rw [if_pos (by simp),zP hk]
  simp only [Option.bind_some]
  rw [xE (by omega) (by omega),ho,ht.1,ht.2,ha,Int.add_zero]
 ·have ho:oldLen d (bs [99,117,114])=0:=by unfold oldLen; rw [f3]
  have ha:zH9 d (bs [99,117,114])=1:=by unfold zH9; rw [f3]
  have habb:=zDF d (L.map (wN c))
  rw [List.length_map] at habb
  rw [f1]
  simp only [Option.bind_some]
  rw [if_neg (by decide),xE (by omega) (by omega),ho,ht.1,ht.2,ha]
  simp only [Option.bind_some,Int.sub_zero]
def zCK (c:List Pack) (d:zI) (a:List Int):List File:=(zCO c d a).map (wN c)++[{Path:=zJP (zBH d.Files),Data:=s2b (zKy c a)},{Path:=bs [99,117,114],Data:=s2b (zEG (zBH d.Files).toNat)}]
theorem zG1 {α β:Type} (g:α→β):∀(l:List α) (i:Nat) (acc:List β),foldI (fun _ a x=>a++[g x]) i l acc=acc++l.map g
 |[],i,acc=>by simp [foldI]
 |x::l,i,acc=>by
  simp only [foldI]
  rw [zG1 g l]
  simp
theorem zGL {c:List Pack} {d:zI} (h0:CF c=0) (hg:d.good) (hb:Byt d) {a:List Int} (hs:zIY c a=true) (hn:zBH d.Files≤999999):
  zBp c d a=some (zCK c d a)∧(∀f∈zCK c d a,f.Data.length≤1000)∧(zCK c d a).length ≤26:=by
 obtain ⟨g3,g4⟩:=zFR.1 hs
 have hcl:=(zFI h0).1
 have hal:a.length≤24:=by
  rcases zFP (lo:=0) (hi:=c.length) g3 g4 with h|h
  ·omega
  ·rw [h]; simp
 have hP:Places c a:=g4
 obtain ⟨t1,t2⟩:=zEl (zI4 h0) hP (by omega)
 have hl:d.Files.length≤1048576:=by have:=hg.len; omega
 have hn1:=(zF9 hg.sorted).2
 obtain ⟨d1,_,d3⟩:=zH0 hn1 hn
 have hLl:(zCO c d a).length ≤24:=Nat.le_trans (List.length_filter_le _ _) hal
 have hLP:∀k∈zCO c d a,0≤k∧k<c.length:=fun k hk=>hP k (List.mem_filter.1 hk).1
 refine ⟨?_,fun f hf=>?_,?_⟩
 ·have key:=zCd (zCO c d a) (fun _ l k=>l++[wN c k]) (fun i l=>l.length≤i) (b:=zAl c d a (zCO c d a)) (by
   intro i l hi hl
   obtain ⟨e1,e2⟩:=zCw (hLP _ (List.getElem_mem hi))
   obtain ⟨p1,p2,p3⟩:=zFc h0 _ e2
   refine ⟨?_,by simp; omega⟩
   unfold zAl
   rw [if_pos (by simp; omega)]
   simp only
   rw [zP hi]
   simp only [Option.bind_some,e1,zGx p1 p2,zFh p1 p2 p3,zV (show i<9223372036854775807 by omega)]
   rw [zDx (by simp; omega) (by simp; omega)]
   rfl) (by
   intro l
   unfold zAl
   rw [if_neg (by simp)]) (zCO c d a).length 0 ([]:List File) (by omega) (by simp)
  rw [List.drop_zero,zG1] at key
  unfold zBp zAY zCK
  rw [zG3 (zFc h0) hg hP (by omega),(zEf d hl hg.sorted).2,zGl (zI4 h0) hP (by omega)]
  simp only [Option.bind_some,List.nil_append] at key ⊢
  rw [show ((0:Int))=((0:Nat):Int) from rfl,key.1]
  simp only [Option.bind_some,zFY (show 0≤zBH d.Files by omega) hn,d1]
  rw [zDx (by simp; omega) (by simp; omega)]
  rfl
 ·unfold zCK at hf
  rcases List.mem_append.1 hf with h|h
  ·obtain ⟨k,hk,rfl⟩:=List.mem_map.1 h
   obtain ⟨_,e2⟩:=zCw (hLP k hk)
   obtain ⟨_,_,p3⟩:=zFc h0 _ e2
   unfold wN
   simp only [zCF]
   omega
  ·simp only [List.mem_cons,List.not_mem_nil,or_false] at h
   rcases h with rfl|rfl
   ·simp only [zCX]; omega
   ·simp only; omega
 ·unfold zCK
  simp; omega
theorem zIC {d:zI} (hg:d.good) {W:List File} (hd:∀f∈W,f.Data.length≤1000) (hl:W.length≤1000):vY d W (0,0)=some (zB2 d W):=by
 have hbnd:∀i,-4000000≤zB2 d (W.take i)∧zB2 d (W.take i)≤10000000:=fun i=>by
  have:=zDt hg (W.take i) (fun f hf=>by have:=hd f (List.mem_of_mem_take hf); omega)
  rw [List.length_take] at this
  omega
 unfold vY
 obtain ⟨t,e,rfl⟩:=jP (b:=uS d W) (fun i s=>s=(zB2 d (W.take i),(i:Int))) W.length (fun t=>t=zB2 d W) (by
  rintro i _ hi rfl
  have b1:=hbnd i
  have b2:=hbnd (i+1)
  have htk:W.take (i+1)=W.take i++[W[i]]:=List.take_succ_eq_append_getElem hi
  have hnext:zB2 d (W.take (i+1))=zB2 d (W.take i)+((W[i].Data.length :Int)-oldLen d W[i].Path):=by
   rw [htk,zCs]
   simp only [zB2]
   omega
  unfold uS
  rw [if_pos (by simp; omega)]
  simp only
  rw [zP hi]
  simp only [Option.bind_some]
  rw [zJw hg (by have:=hd _ (List.getElem_mem hi); omega)]
  simp only [Option.bind_some]
  rw [xE (by omega) (by omega),zV (show i<9223372036854775807 by omega),←hnext]
  exact .inl ⟨_,rfl,rfl⟩) (by
  rintro _ rfl
  unfold uS
  rw [if_neg (by simp),List.take_length]
  exact ⟨_,rfl,rfl⟩) W.length 0 (0,0) (by omega) (by simp [zB2])
 exact e
theorem zGK {c:List Pack} {d:zI} (hg:d.good) {a:List Int} (hn:zBH d.Files≤999999):
  zB2 d (zCK c d a)=((zKy c a).size :Int)+((zEG (zBH d.Files).toNat).size :Int)+zB2 d ((zCO c d a).map (wN c))-oldLen d (bs [99,117,114]):=by
 obtain ⟨h1,h2⟩:=zF9 hg.sorted
 have ho:oldLen d (zJP (zBH d.Files))=0:=by
  unfold oldLen fileOf
  rw [zG4 fun f hf he=>h1 (zJZ h2 hn hf he)]
 unfold zCK
 rw [zCs]
 simp only [zB2,zCX,ho]
 omega
theorem zEX (a1:(List Pack)) (a2:zI) (a3:(List Int)) (k0:a1.length≤maxLen∧∀y1∈a1,Pack.ok y1) (k1:zI.ok a2) (k2:a3.length≤maxLen∧∀y1∈a3,IntKind.i64.min≤y1∧y1≤IntKind.i64.max) (s0:(a1.length≤1048576∧∀y0∈a1,Pack.sm 1048576 y0)) (s1:(zI.sm 1048576 a2)) (s2:(a3.length≤1048576∧∀y0∈a3,True)):∃r,vO a1 a2 a3=some r∧vQ a1 a2 a3=some r∧(yL.sm 1049600 r):=by
 have hb:Byt a2:=fun f hf c hc=>by have:=(k1.1.2 f hf).2.2 c hc; simpa [IntKind.min,IntKind.max,IntKind.signed,IntKind.bits] using this
 have hz:∀q v:Int,yL.sm 1049600 {Code:=q,Value:=v}:=fun q v=>by simp [yL.sm]
 unfold vO vQ
 rw [zFD s0 s2.1]
 rcases zHf s0 s1 with ⟨q,hq,e1,e2⟩|⟨e1,e2,h0,hg⟩
 ·have hq':(q !=0)=true:=by simpa using hq
  have hq'':(q==0)=false:=by simpa using hq
  rw [e1,e2]
  simp only [Option.bind_some,zDE,hq',if_true,hq'',Bool.false_eq_true,if_false]
  exact ⟨_,rfl,rfl,hz q 0⟩
 ·rw [e1,e2,zIl s0.1 s2.1]
  have hl:a2.Files.length≤1048576:=by have:=hg.len; omega
  obtain ⟨n1,n2⟩:=zEf a2 hl hg.sorted
  simp only [Option.bind_some,zDE,bne_self_eq_false,Bool.false_eq_true,if_false]
  have hSF:SF a1 a3=if zIY a1 a3 then 0 else 1:=by unfold SF; simp [h0]
  rw [hSF]
  cases hs:zIY a1 a3
  ·simp only [Bool.not_false,if_true,Bool.false_eq_true,if_false]
   exact ⟨_,rfl,rfl,hz 1 0⟩
  ·simp only [Bool.not_true,Bool.false_eq_true,if_false,if_true,beq_self_eq_true,n1,n2,Option.bind_some]
   by_cases hn:zBH a2.Files>999999
   ·simp only [hn,decide_true,if_true,Option.bind_some]
    exact ⟨_,rfl,rfl,hz 2 0⟩
   ·have c1:=zIS h0 hg hb hs (by omega)
    obtain ⟨w1,w2,w3⟩:=zGL h0 hg hb hs (by omega)
    simp only [hn,decide_false,Bool.false_eq_true,if_false,Option.bind_some,bne_self_eq_false]
    rw [c1,w1]
    simp only [Option.bind_some]
    rw [zIC hg w2 (by omega),zGK hg (by omega)]
    exact ⟨_,rfl,rfl,hz 0 _⟩
theorem zDb (a1:(List Pack)) (a2:zI) (a3:(List Int)) (k0:a1.length≤maxLen∧∀y1∈a1,Pack.ok y1) (k1:zI.ok a2) (k2:a3.length≤maxLen∧∀y1∈a3,IntKind.i64.min≤y1∧y1≤IntKind.i64.max):xG a1 a2 a3=some true:=zCH a1 a2 a3 k0 k1 k2 (zEX a1 a2 a3 k0 k1 k2)
end Go.Told

import Derived.Test.YtlagdfkkokgakaaGreatDoorToldWasteOf
set_option linter.unusedVariables false
set_option maxRecDepth 4000
namespace Go.Told
open Go Go.Im
theorem zE5 {S T:Type} {b b':S→Option (Lp S T)} (h:∀s,b s=b' s):loop b=loop b':=by
 have:b=b':=funext h
 rw [this]
theorem tH {x:Int} (h1: -9223372036854775808≤x) (h2:x≤9223372036854775807):w64 x=x:=by
 unfold w64
 rw [IntKind.wrap_i64]
 omega
theorem zP {i:Nat} (h:i<9223372036854775807):w64 ((i:Int)+1)=((i+1:Nat):Int):=by
 rw [tH (by omega) (by omega)]; omega
theorem uR {T:Type} {S:Type} {b:S→Option (Lp S T)} (I:Nat→S→Prop) (n:Nat) (Q:T→Prop) (hstep:∀i s,i<n→I i s→(∃s',b s=some (.go s')∧I (i+1) s')∨∃t,b s=some (.done t)∧Q t)
  (hend:∀s,I n s→∃t,b s=some (.done t)∧Q t):∀(k i:Nat) (s:S),i+k=n→I i s→∃t,loop b s=some t∧Q t
 |0,i,s,hk,hI=>by
  obtain ⟨t,h1,h2⟩:=hend s (by rw [show n=i by omega]; exact hI)
  exact ⟨t,by rw [jS,h1]; rfl,h2⟩
 |k+1,i,s,hk,hI=>by
  rcases hstep i s (by omega) hI with ⟨s',h1,h2⟩|⟨t,h1,h2⟩
  ·obtain ⟨t,h3,h4⟩:=uR I n Q hstep hend k (i+1) s' (by omega) h2
   exact ⟨t,by rw [jS,h1]; exact h3,h4⟩
  ·exact ⟨t,by rw [jS,h1]; rfl,h2⟩
theorem zL {α:Type} {xs:List α} {i:Nat} (h:i<xs.length):idx xs (i:Int)=some xs[i]:=by
 unfold idx
 rw [if_pos (by omega)]
 simp [h]
def goL {α A T:Type} (g:Nat→A→α→Lp A T) (fin:A→T):Nat→List α→A→T
 |_,[],a=>fin a
 |i,x::xs,a=>match g i a x with
  | .go a'=>goL g fin (i+1) xs a'
  | .done t=>t
theorem zIZ {α A S T:Type} (xs:List α) (g:Nat→A→α→Lp A T) (fin:A→T) (e:Nat→A→S) (I:Nat→A→Prop) {b:S→Option (Lp S T)}
  (hstep:∀(i:Nat) (a:A) (hi:i<xs.length),I i a→b (e i a)=some (match g i a xs[i] with| .go a'=>.go (e (i+1) a')| .done t=>.done t)∧∀a',g i a xs[i]= .go a'→I (i+1) a')
  (hend:∀a,I xs.length a→b (e xs.length a)=some (.done (fin a))):∀(k i:Nat) (a:A),i+k=xs.length→I i a→loop b (e i a)=some (goL g fin i (xs.drop i) a)
 |0,i,a,hk,hI=>by
  have:i=xs.length:=by omega
  subst this
  rw [jS,hend a hI,List.drop_length]; rfl
 |k+1,i,a,hk,hI=>by
  have hi:i<xs.length:=by omega
  obtain ⟨h1,h2⟩:=hstep i a hi hI
  rw [jS,h1,List.drop_eq_getElem_cons hi]
  simp only [goL]
  cases hg:g i a xs[i] with
  |go a'=>
   simp only [Option.bind_some,Lp.elim]
   exact zIZ xs g fin e I hstep hend k (i+1) a' (by omega) (h2 a' hg)
  |done t=>rfl
theorem zHQ {α A S T:Type} (xs:List α) (g:Nat→A→α→Lp A T) (fin:A→T) (e:Nat→A→S) (I:Nat→A→Prop) {b:S→Option (Lp S T)} (a0:A)
  (hstep:∀(i:Nat) (a:A) (hi:i<xs.length),I i a→b (e i a)=some (match g i a xs[i] with| .go a'=>.go (e (i+1) a')| .done t=>.done t)∧∀a',g i a xs[i]= .go a'→I (i+1) a')
  (hend:∀a,I xs.length a→b (e xs.length a)=some (.done (fin a))) (h0:I 0 a0):loop b (e 0 a0)=some (goL g fin 0 xs a0):=by
 have:=zIZ xs g fin e I hstep hend xs.length 0 a0 (by omega) h0
 simpa using this
theorem zEG {α:Type} (xs:List α) {b:(List α×Int)→Option (Lp (List α×Int) (List α))} (hstep:∀(ys:List α) (i:Nat) (hi:i<xs.length),ys.length=xs.length→b (ys,(i:Int))=some (.go (ys.set i xs[i],((i+1:Nat):Int))))
  (hend:∀ys:List α,ys.length=xs.length→b (ys,(xs.length:Int))=some (.done ys)) (y0:List α) (h0:y0.length=xs.length):loop b (y0,0)=some xs:=by
 obtain ⟨t,h1,h2⟩:=uR (b:=b) (fun i s=>s.2=(i:Int)∧s.1.length=xs.length∧s.1.take i=xs.take i) xs.length (fun t=>t=xs) (by
  rintro i ⟨ys,j⟩ hi ⟨hj,hl,hp⟩
  simp only at hj hl hp
  subst hj
  refine .inl ⟨_,hstep ys i hi hl,rfl,by simpa using hl,?_⟩
  simp only
  rw [List.take_succ_eq_append_getElem (by simp; omega),List.take_succ_eq_append_getElem hi,←hp,List.take_set_of_le (Nat.le_refl _)]
  simp) (by
  rintro ⟨ys,j⟩ ⟨hj,hl,hp⟩
  simp only at hj hl hp
  subst hj
  refine ⟨ys,hend ys hl,?_⟩
  rw [List.take_of_length_le (by omega),List.take_of_length_le (by omega)] at hp
  exact hp) xs.length 0 (y0,0) (by omega) ⟨rfl,h0,by simp⟩
 rw [h1,h2]
theorem zE3 {R:Type} (n:Nat) {b:Int→Option (Lp Int (Fl R Unit))} (hstep:∀i:Nat,i<n→b (i:Int)=some (.go ((i+1:Nat):Int))) (hend:b (n:Int)=some (.done (.nxt ()))):loop b 0=some (.nxt ()):=by
 obtain ⟨t,h1,h2⟩:=uR (b:=b) (fun i s=>s=(i:Int)) n (fun t=>t= .nxt ()) (by
  rintro i s hi rfl
  exact .inl ⟨_,hstep i hi,rfl⟩) (by
  rintro s rfl
  exact ⟨_,hend,rfl⟩) n 0 0 (by omega) rfl
 rw [h1,h2]
theorem zFD {α:Type} (xs:List α) (P:α→Prop) (l:Int) {b:(Int×Int)→Option (Lp (Int×Int) (Fl Int Int))}
  (hstep:∀(q:Int) (i:Nat) (hi:i<xs.length),0≤q→q≤l→(∃q',b (q,(i:Int))=some (.go (q',((i+1:Nat):Int)))∧0≤q'∧q'≤q∧P xs[i])∨∃t,b (q,(i:Int))=some (.done (.ret t))∧t<0)
  (hend:∀q:Int,b (q,(xs.length:Int))=some (.done (.nxt q))) (h0:0≤l):
  ∃t,loop b (l,0)=some t∧match t with| .ret r=>r<0| .nxt r=>0≤r∧r≤l∧∀x∈xs,P x:=by
 refine uR (b:=b) (fun i s=>s.2=(i:Int)∧0≤s.1∧s.1≤l∧∀j,(hj:j<xs.length)→j<i→P xs[j]) xs.length _ (by
  rintro i ⟨q,j⟩ hi ⟨hj,h1,h2,h3⟩
  simp only at hj h1 h2 h3
  subst hj
  rcases hstep q i hi h1 h2 with ⟨q',e,g1,g2,g3⟩|⟨t,e,ht⟩
  ·refine .inl ⟨_,e,rfl,g1,by simp only; omega,fun j hj hji=>?_⟩
   rcases Nat.lt_or_ge j i with h|h
   ·exact h3 j hj h
   ·have:j=i:=by omega
    subst this; exact g3
  ·exact .inr ⟨_,e,ht⟩) (by
  rintro ⟨q,j⟩ ⟨hj,h1,h2,h3⟩
  simp only at hj h1 h2 h3
  subst hj
  refine ⟨_,hend q,h1,h2,fun x hx=>?_⟩
  obtain ⟨j,hj,rfl⟩:=List.getElem_of_mem hx
  exact h3 j hj hj) xs.length 0 (l,0) (by omega) ⟨rfl,h0,Int.le_refl _,fun j _ h=>by omega⟩
theorem zI2 {α β:Type} {xs:List α} {ys:List β} (h:xs.length=ys.length):same xs ys=some ():=if_pos h
def c1 {α:Type} (_:α):Int:=1
theorem zAG {α:Type} {B:Nat} {xs ys:List α} (h:(xs.length+ys.length)*B≤140737488355328) (h2:xs.length+ys.length≤4611686018427387904):app B xs ys=some (xs++ys):=if_pos ⟨h,h2⟩
theorem zH4 {S T:Type} {b:S→Option (Lp S T)} (I:S→Prop) (μ:S→Nat) (Q:T→Prop) (step:∀s,I s→(∃s',b s=some (.go s')∧I s'∧μ s'<μ s)∨∃t,b s=some (.done t)∧Q t):∀(n:Nat) (s:S),μ s≤n→I s→∃t,loop b s=some t∧Q t
 |0,s,hn,hI=>by
  rcases step s hI with ⟨s',_,_,h3⟩|⟨t,h1,h2⟩
  ·omega
  ·exact ⟨t,by rw [jS,h1]; rfl,h2⟩
 |n+1,s,hn,hI=>by
  rcases step s hI with ⟨s',h1,h2,h3⟩|⟨t,h1,h2⟩
  ·obtain ⟨t,h4,h5⟩:=zH4 I μ Q step n s' (by omega) h2
   exact ⟨t,by rw [jS,h1]; exact h4,h5⟩
  ·exact ⟨t,by rw [jS,h1]; rfl,h2⟩
def Version.ok (x:Version):Prop:=(IntKind.i64.min≤x.A∧x.A≤IntKind.i64.max)∧(IntKind.i64.min≤x.B∧x.B≤IntKind.i64.max)∧(IntKind.i64.min≤x.C∧x.C≤IntKind.i64.max)
def Term.ok (x:Term):Prop:=(x.Name.size≤maxLen)∧(Version.ok x.Low)∧(Version.ok x.High)
def Pack.ok (x:Pack):Prop:=(x.Name.size≤maxLen)∧(Version.ok x.Version)∧(IntKind.i64.min≤x.Size∧x.Size≤IntKind.i64.max)∧(x.Provides.length≤maxLen∧∀y1∈x.Provides,y1.size≤maxLen)∧(x.Needs.length≤maxLen∧∀y1∈x.Needs,y1.length≤maxLen∧∀y2∈y1,Term.ok y2)∧(x.Bars.length≤maxLen∧∀y1∈x.Bars,Term.ok y1)
def File.ok (x:File):Prop:=(x.Path.size≤maxLen)∧(x.Data.length≤maxLen∧∀y1∈x.Data,IntKind.u8.min≤y1∧y1≤IntKind.u8.max)
def zI.ok (x:zI):Prop:=(x.Files.length≤maxLen∧∀y1∈x.Files,File.ok y1)∧(IntKind.i64.min≤x.Budget∧x.Budget≤IntKind.i64.max)∧(IntKind.i64.min≤x.Writes∧x.Writes≤IntKind.i64.max)∧(IntKind.i64.min≤x.Stop∧x.Stop≤IntKind.i64.max)∧(True)
theorem zJI (x:(List Int)) (hx:x.length≤maxLen∧∀y1∈x,IntKind.u8.min≤y1∧y1≤IntKind.u8.max) (l:Int) (h0:0≤l) (h1:l≤1048576):∃r,zBv x l=some r∧(r<0∨(0≤r∧r≤l∧(x.length≤1048576∧∀y0∈x,True))):=by
 obtain ⟨hm,hx⟩:=hx
 unfold maxLen at hm
 unfold zBv
 rw [tH (x:=l-x.length) (by omega) (by omega)]
 by_cases c1:l-(x.length:Int)<0
 ·rw [if_pos (by simpa using c1)]
  exact ⟨_,rfl,.inl (by omega)⟩
 ·rw [if_neg (by simpa using c1)]
  exact ⟨_,rfl,.inr ⟨by omega,by omega,by omega,fun _ _=>trivial⟩⟩
def File.sm (B:Nat) (x:File):Prop:=(x.Path.size≤B)∧(x.Data.length≤B∧∀y0∈x.Data,True)
def zI.sm (B:Nat) (x:zI):Prop:=(x.Files.length≤B∧∀y0∈x.Files,File.sm B y0)∧(True)∧(True)∧(True)∧(True)
theorem zKk (x:File) (hx:File.ok x) (l:Int) (h0:0≤l) (h1:l≤1048576):∃r,zCb x l=some r∧(r<0∨(0≤r∧r≤l∧(File.sm 1048576 x))):=by
 obtain ⟨k0,k1⟩:=hx
 unfold maxLen at*
 unfold zCb
 rw [tH (x:=l-x.Path.size) (by omega) (by omega)]
 by_cases c0:l-(x.Path.size:Int)<0
 ·rw [if_pos (by simpa using c0)]
  exact ⟨_,rfl,.inl (by omega)⟩
 rw [if_neg (by simpa using c0)]
 obtain ⟨r1,e1,g1⟩:=zJI x.Data k1 (l-x.Path.size) (by omega) (by omega)
 rw [e1]
 simp only [Option.bind_some]
 by_cases c1:r1<0
 ·rw [if_pos (by simpa using c1)]
  exact ⟨_,rfl,.inl (by omega)⟩
 rw [if_neg (by simpa using c1)]
 obtain ⟨p1,q1,z1⟩:=g1.resolve_left c1
 exact ⟨_,rfl,.inr ⟨by omega,by omega,by omega,z1⟩⟩
theorem zJT (x:(List File)) (hx:x.length≤maxLen∧∀y1∈x,File.ok y1) (l:Int) (h0:0≤l) (h1:l≤1048576):∃r,zBy x l=some r∧(r<0∨(0≤r∧r≤l∧(x.length≤1048576∧∀y0∈x,File.sm 1048576 y0))):=by
 obtain ⟨hm,hx⟩:=hx
 unfold maxLen at hm
 unfold zBy
 rw [tH (x:=l-x.length) (by omega) (by omega)]
 by_cases c1:l-(x.length:Int)<0
 ·rw [if_pos (by simpa using c1)]
  exact ⟨_,rfl,.inl (by omega)⟩
 ·rw [if_neg (by simpa using c1)]
  have key:=zFD x (fun y0=>File.sm 1048576 y0) (l-x.length) (b:=zA5 x) ?_ ?_ (by omega)
  ·obtain ⟨t,h2,h3⟩:=key
   unfold zBu
   rw [h2]
   cases t with
   |ret r=>exact ⟨r,rfl,.inl h3⟩
   |nxt r=>exact ⟨r,rfl,.inr ⟨h3.1,by have:=h3.2.1; omega,by omega,h3.2.2⟩⟩
  ·intro q i hi hq0 hq1
   unfold zA5
   rw [if_pos (by simp; omega)]
   simp only [zL hi,Option.bind_some]
   have hi2:w64 ((i:Int)+1)=((i+1:Nat):Int):=zP (by omega)
   obtain ⟨r,e,hr⟩:=zKk x[i] (hx _ (List.getElem_mem hi)) q hq0 (by omega)
   rw [e]
   simp only [Option.bind_some]
   by_cases c:r<0
   ·rw [if_pos (by simpa using c)]
    exact .inr ⟨_,rfl,by omega⟩
   ·rw [if_neg (by simpa using c),hi2]
    obtain ⟨g1,g2,g3⟩:=hr.resolve_left c
    exact .inl ⟨_,rfl,g1,g2,g3⟩
  ·intro q
   unfold zA5
   rw [if_neg (by simp)]
theorem zKc (x:zI) (hx:zI.ok x) (l:Int) (h0:0≤l) (h1:l≤1048576):∃r,zBY x l=some r∧(r<0∨(0≤r∧r≤l∧(zI.sm 1048576 x))):=by
 obtain ⟨k0,k1,k2,k3,k4⟩:=hx
 unfold maxLen at*
 unfold zBY
 obtain ⟨r0,e0,g0⟩:=zJT x.Files k0 l (by omega) (by omega)
 rw [e0]
 simp only [Option.bind_some]
 by_cases c0:r0<0
 ·rw [if_pos (by simpa using c0)]
  exact ⟨_,rfl,.inl (by omega)⟩
 rw [if_neg (by simpa using c0)]
 obtain ⟨p0,q0,z0⟩:=g0.resolve_left c0
 exact ⟨_,rfl,.inr ⟨by omega,by omega,z0,trivial,trivial,trivial,trivial⟩⟩
def Version.sm (B:Nat) (x:Version):Prop:=(True)∧(True)∧(True)
def Term.sm (B:Nat) (x:Term):Prop:=(x.Name.size≤B)∧(Version.sm B x.Low)∧(Version.sm B x.High)
def Pack.sm (B:Nat) (x:Pack):Prop:=(x.Name.size≤B)∧(Version.sm B x.Version)∧(True)∧(x.Provides.length≤B∧∀y0∈x.Provides,y0.size≤B)∧(x.Needs.length≤B∧∀y0∈x.Needs,y0.length≤B∧∀y1∈y0,Term.sm B y1)∧(x.Bars.length≤B∧∀y0∈x.Bars,Term.sm B y0)
theorem zHe (x:(List ByteArray)) (hx:x.length≤maxLen∧∀y1∈x,y1.size≤maxLen) (l:Int) (h0:0≤l) (h1:l≤1048576):∃r,kY x l=some r∧(r<0∨(0≤r∧r≤l∧(x.length≤1048576∧∀y0∈x,y0.size≤1048576))):=by
 obtain ⟨hm,hx⟩:=hx
 unfold maxLen at hm
 unfold kY
 rw [tH (x:=l-x.length) (by omega) (by omega)]
 by_cases c1:l-(x.length:Int)<0
 ·rw [if_pos (by simpa using c1)]
  exact ⟨_,rfl,.inl (by omega)⟩
 ·rw [if_neg (by simpa using c1)]
  have key:=zFD x (fun y0=>y0.size≤1048576) (l-x.length) (b:=kH x) ?_ ?_ (by omega)
  ·obtain ⟨t,h2,h3⟩:=key
   unfold zAj
   rw [h2]
   cases t with
   |ret r=>exact ⟨r,rfl,.inl h3⟩
   |nxt r=>exact ⟨r,rfl,.inr ⟨h3.1,by have:=h3.2.1; omega,by omega,h3.2.2⟩⟩
  ·intro q i hi hq0 hq1
   unfold kH
   rw [if_pos (by simp; omega)]
   simp only [zL hi,Option.bind_some]
   have hi2:w64 ((i:Int)+1)=((i+1:Nat):Int):=zP (by omega)
   have hs:=hx _ (List.getElem_mem hi)
   unfold maxLen at hs
   rw [tH (x:=q-(x[i]).size) (by omega) (by omega)]
   by_cases c:q-((x[i]).size :Int)<0
   ·rw [if_pos (by simpa using c)]
    exact .inr ⟨_,rfl,by omega⟩
   ·rw [if_neg (by simpa using c),hi2]
    exact .inl ⟨_,rfl,by omega,by omega,by show (x[i]).size ≤1048576; omega⟩
  ·intro q
   unfold kH
   rw [if_neg (by simp)]
theorem zKU (x:Term) (hx:Term.ok x) (l:Int) (h0:0≤l) (h1:l≤1048576):∃r,zCa x l=some r∧(r<0∨(0≤r∧r≤l∧(Term.sm 1048576 x))):=by
 obtain ⟨k0,k1,k2⟩:=hx
 unfold maxLen at*
 unfold zCa
 rw [tH (x:=l-x.Name.size) (by omega) (by omega)]
 by_cases c0:l-(x.Name.size:Int)<0
 ·rw [if_pos (by simpa using c0)]
  exact ⟨_,rfl,.inl (by omega)⟩
 rw [if_neg (by simpa using c0)]
 exact ⟨_,rfl,.inr ⟨by omega,by omega,by omega,⟨trivial,trivial,trivial⟩,⟨trivial,trivial,trivial⟩⟩⟩
theorem zGf (x:(List Term)) (hx:x.length≤maxLen∧∀y1∈x,Term.ok y1) (l:Int) (h0:0≤l) (h1:l≤1048576):∃r,jY x l=some r∧(r<0∨(0≤r∧r≤l∧(x.length≤1048576∧∀y0∈x,Term.sm 1048576 y0))):=by
 obtain ⟨hm,hx⟩:=hx
 unfold maxLen at hm
 unfold jY
 rw [tH (x:=l-x.length) (by omega) (by omega)]
 by_cases c1:l-(x.length:Int)<0
 ·rw [if_pos (by simpa using c1)]
  exact ⟨_,rfl,.inl (by omega)⟩
 ·rw [if_neg (by simpa using c1)]
  have key:=zFD x (fun y0=>Term.sm 1048576 y0) (l-x.length) (b:=zAA x) ?_ ?_ (by omega)
  ·obtain ⟨t,h2,h3⟩:=key
   unfold zAU
   rw [h2]
   cases t with
   |ret r=>exact ⟨r,rfl,.inl h3⟩
   |nxt r=>exact ⟨r,rfl,.inr ⟨h3.1,by have:=h3.2.1; omega,by omega,h3.2.2⟩⟩
  ·intro q i hi hq0 hq1
   unfold zAA
   rw [if_pos (by simp; omega)]
   simp only [zL hi,Option.bind_some]
   have hi2:w64 ((i:Int)+1)=((i+1:Nat):Int):=zP (by omega)
   obtain ⟨r,e,hr⟩:=zKU x[i] (hx _ (List.getElem_mem hi)) q hq0 (by omega)
   rw [e]
   simp only [Option.bind_some]
   by_cases c:r<0
   ·rw [if_pos (by simpa using c)]
    exact .inr ⟨_,rfl,by omega⟩
   ·rw [if_neg (by simpa using c),hi2]
    obtain ⟨g1,g2,g3⟩:=hr.resolve_left c
    exact .inl ⟨_,rfl,g1,g2,g3⟩
  ·intro q
   unfold zAA
   rw [if_neg (by simp)]
theorem zIk (x:(List (List Term))) (hx:x.length≤maxLen∧∀y1∈x,y1.length≤maxLen∧∀y2∈y1,Term.ok y2) (l:Int) (h0:0≤l) (h1:l≤1048576):∃r,zAr x l=some r∧(r<0∨(0≤r∧r≤l∧(x.length≤1048576∧∀y0∈x,y0.length≤1048576∧∀y1∈y0,Term.sm 1048576 y1))):=by
 obtain ⟨hm,hx⟩:=hx
 unfold maxLen at hm
 unfold zAr
 rw [tH (x:=l-x.length) (by omega) (by omega)]
 by_cases c1:l-(x.length:Int)<0
 ·rw [if_pos (by simpa using c1)]
  exact ⟨_,rfl,.inl (by omega)⟩
 ·rw [if_neg (by simpa using c1)]
  have key:=zFD x (fun y0=>y0.length≤1048576∧∀y1∈y0,Term.sm 1048576 y1) (l-x.length) (b:=zAe x) ?_ ?_ (by omega)
  ·obtain ⟨t,h2,h3⟩:=key
   unfold zAB
   rw [h2]
   cases t with
   |ret r=>exact ⟨r,rfl,.inl h3⟩
   |nxt r=>exact ⟨r,rfl,.inr ⟨h3.1,by have:=h3.2.1; omega,by omega,h3.2.2⟩⟩
  ·intro q i hi hq0 hq1
   unfold zAe
   rw [if_pos (by simp; omega)]
   simp only [zL hi,Option.bind_some]
   have hi2:w64 ((i:Int)+1)=((i+1:Nat):Int):=zP (by omega)
   obtain ⟨r,e,hr⟩:=zGf x[i] (hx _ (List.getElem_mem hi)) q hq0 (by omega)
   rw [e]
   simp only [Option.bind_some]
   by_cases c:r<0
   ·rw [if_pos (by simpa using c)]
    exact .inr ⟨_,rfl,by omega⟩
   ·rw [if_neg (by simpa using c),hi2]
    obtain ⟨g1,g2,g3⟩:=hr.resolve_left c
    exact .inl ⟨_,rfl,g1,g2,g3⟩
  ·intro q
   unfold zAe
   rw [if_neg (by simp)]
theorem zKi (x:Pack) (hx:Pack.ok x) (l:Int) (h0:0≤l) (h1:l≤1048576):∃r,zBT x l=some r∧(r<0∨(0≤r∧r≤l∧(Pack.sm 1048576 x))):=by
 obtain ⟨k0,k1,k2,k3,k4,k5⟩:=hx
 unfold maxLen at*
 unfold zBT
 rw [tH (x:=l-x.Name.size) (by omega) (by omega)]
 by_cases c0:l-(x.Name.size:Int)<0
 ·rw [if_pos (by simpa using c0)]
  exact ⟨_,rfl,.inl (by omega)⟩
 rw [if_neg (by simpa using c0)]
 obtain ⟨r3,e3,g3⟩:=zHe x.Provides k3 (l-x.Name.size) (by omega) (by omega)
 rw [e3]
 simp only [Option.bind_some]
 by_cases c3:r3<0
 ·rw [if_pos (by simpa using c3)]
  exact ⟨_,rfl,.inl (by omega)⟩
 rw [if_neg (by simpa using c3)]
 obtain ⟨p3,q3,z3⟩:=g3.resolve_left c3
 obtain ⟨r4,e4,g4⟩:=zIk x.Needs k4 r3 (by omega) (by omega)
 rw [e4]
 simp only [Option.bind_some]
 by_cases c4:r4<0
 ·rw [if_pos (by simpa using c4)]
  exact ⟨_,rfl,.inl (by omega)⟩
 rw [if_neg (by simpa using c4)]
 obtain ⟨p4,q4,z4⟩:=g4.resolve_left c4
 obtain ⟨r5,e5,g5⟩:=zGf x.Bars k5 r4 (by omega) (by omega)
 rw [e5]
 simp only [Option.bind_some]
 by_cases c5:r5<0
 ·rw [if_pos (by simpa using c5)]
  exact ⟨_,rfl,.inl (by omega)⟩
 rw [if_neg (by simpa using c5)]
 obtain ⟨p5,q5,z5⟩:=g5.resolve_left c5
 exact ⟨_,rfl,.inr ⟨by omega,by omega,by omega,⟨trivial,trivial,trivial⟩,trivial,z3,z4,z5⟩⟩
theorem zJy (x:(List Pack)) (hx:x.length≤maxLen∧∀y1∈x,Pack.ok y1) (l:Int) (h0:0≤l) (h1:l≤1048576):∃r,zAN x l=some r∧(r<0∨(0≤r∧r≤l∧(x.length≤1048576∧∀y0∈x,Pack.sm 1048576 y0))):=by
 obtain ⟨hm,hx⟩:=hx
 unfold maxLen at hm
 unfold zAN
 rw [tH (x:=l-x.length) (by omega) (by omega)]
 by_cases c1:l-(x.length:Int)<0
 ·rw [if_pos (by simpa using c1)]
  exact ⟨_,rfl,.inl (by omega)⟩
 ·rw [if_neg (by simpa using c1)]
  have key:=zFD x (fun y0=>Pack.sm 1048576 y0) (l-x.length) (b:=zA7 x) ?_ ?_ (by omega)
  ·obtain ⟨t,h2,h3⟩:=key
   unfold zAS
   rw [h2]
   cases t with
   |ret r=>exact ⟨r,rfl,.inl h3⟩
   |nxt r=>exact ⟨r,rfl,.inr ⟨h3.1,by have:=h3.2.1; omega,by omega,h3.2.2⟩⟩
  ·intro q i hi hq0 hq1
   unfold zA7
   rw [if_pos (by simp; omega)]
   simp only [zL hi,Option.bind_some]
   have hi2:w64 ((i:Int)+1)=((i+1:Nat):Int):=zP (by omega)
   obtain ⟨r,e,hr⟩:=zKi x[i] (hx _ (List.getElem_mem hi)) q hq0 (by omega)
   rw [e]
   simp only [Option.bind_some]
   by_cases c:r<0
   ·rw [if_pos (by simpa using c)]
    exact .inr ⟨_,rfl,by omega⟩
   ·rw [if_neg (by simpa using c),hi2]
    obtain ⟨g1,g2,g3⟩:=hr.resolve_left c
    exact .inl ⟨_,rfl,g1,g2,g3⟩
  ·intro q
   unfold zA7
   rw [if_neg (by simp)]
theorem zJx (x:(List Int)) (hx:x.length≤1049600∧∀y0∈x,True):zBl x=some x:=by
 have hl:=hx.1
 unfold zBl
 have hm:∀z:Int,mk 1 (x.length:Int) z=some (List.replicate x.length z):=fun z=>by
  unfold mk; rw [if_pos ⟨by omega,by simp; omega,by omega⟩]; simp
 rw [hm]
 simp only [Option.bind_some,zBc]
 rw [zEG x ?_ ?_ _ (by simp)]
 ·rfl
 ·intro ys i hi hl2
  unfold zBQ
  rw [if_pos (by simp; omega)]
  have hi2:w64 ((i:Int)+1)=((i+1:Nat):Int):=zP (by omega)
  simp only [zL hi,zL (show i<ys.length by omega),Option.bind_some,Int.toNat_natCast,hi2]
 ·intro ys _
  unfold zBQ
  rw [if_neg (by simp)]
theorem zKq (x:File) (hx:File.sm 1049600 x):zBR x=some x:=by
 obtain ⟨h0,h1⟩:=hx
 unfold zBR
 simp only [zJx x.Data h1,Option.bind_some]
theorem zJz (x:(List File)) (hx:x.length≤1049600∧∀y0∈x,File.sm 1049600 y0):zBq x=some x:=by
 have hl:=hx.1
 unfold zBq
 have hm:∀z:File,mk 40 (x.length:Int) z=some (List.replicate x.length z):=fun z=>by
  unfold mk; rw [if_pos ⟨by omega,by simp; omega,by omega⟩]; simp
 rw [hm]
 simp only [Option.bind_some,zB3]
 rw [zEG x ?_ ?_ _ (by simp)]
 ·rfl
 ·intro ys i hi hl2
  unfold zBK
  rw [if_pos (by simp; omega)]
  have hi2:w64 ((i:Int)+1)=((i+1:Nat):Int):=zP (by omega)
  simp only [zL hi,zL (show i<ys.length by omega),Option.bind_some,Int.toNat_natCast,hi2,zKq x[i] (hx.2 _ (List.getElem_mem hi))]
 ·intro ys _
  unfold zBK
  rw [if_neg (by simp)]
theorem zKX (x:zI) (hx:zI.sm 1049600 x):jI x=some x:=by
 obtain ⟨h0,h1,h2,h3,h4⟩:=hx
 unfold jI
 simp only [zJz x.Files h0,Option.bind_some]
theorem zD4 (x:Version) (hx:Version.sm 1049600 x):wE x=some x:=by
 obtain ⟨h0,h1,h2⟩:=hx
 unfold wE
 rfl
theorem zHK (x:(List ByteArray)) (hx:x.length≤1049600∧∀y0∈x,y0.size≤1049600):kV x=some x:=by
 have hl:=hx.1
 unfold kV
 have hm:∀z:ByteArray,mk 16 (x.length:Int) z=some (List.replicate x.length z):=fun z=>by
  unfold mk; rw [if_pos ⟨by omega,by simp; omega,by omega⟩]; simp
 rw [hm]
 simp only [Option.bind_some,zAg]
 rw [zEG x ?_ ?_ _ (by simp)]
 ·rfl
 ·intro ys i hi hl2
  unfold zAH
  rw [if_pos (by simp; omega)]
  have hi2:w64 ((i:Int)+1)=((i+1:Nat):Int):=zP (by omega)
  simp only [zL hi,zL (show i<ys.length by omega),Option.bind_some,Int.toNat_natCast,hi2]
 ·intro ys _
  unfold zAH
  rw [if_neg (by simp)]
theorem zK4 (x:Term) (hx:Term.sm 1049600 x):zCe x=some x:=by
 obtain ⟨h0,h1,h2⟩:=hx
 unfold zCe
 simp only [zD4 x.Low h1,zD4 x.High h2,Option.bind_some]
theorem zGk (x:(List Term)) (hx:x.length≤1049600∧∀y0∈x,Term.sm 1049600 y0):kF x=some x:=by
 have hl:=hx.1
 unfold kF
 have hm:∀z:Term,mk 64 (x.length:Int) z=some (List.replicate x.length z):=fun z=>by
  unfold mk; rw [if_pos ⟨by omega,by simp; omega,by omega⟩]; simp
 rw [hm]
 simp only [Option.bind_some,zAY]
 rw [zEG x ?_ ?_ _ (by simp)]
 ·rfl
 ·intro ys i hi hl2
  unfold zBO
  rw [if_pos (by simp; omega)]
  have hi2:w64 ((i:Int)+1)=((i+1:Nat):Int):=zP (by omega)
  simp only [zL hi,zL (show i<ys.length by omega),Option.bind_some,Int.toNat_natCast,hi2,zK4 x[i] (hx.2 _ (List.getElem_mem hi))]
 ·intro ys _
  unfold zBO
  rw [if_neg (by simp)]
theorem zID (x:(List (List Term))) (hx:x.length≤1049600∧∀y0∈x,y0.length≤1049600∧∀y1∈y0,Term.sm 1049600 y1):zAv x=some x:=by
 have hl:=hx.1
 unfold zAv
 have hm:∀z:(List Term),mk 24 (x.length:Int) z=some (List.replicate x.length z):=fun z=>by
  unfold mk; rw [if_pos ⟨by omega,by simp; omega,by omega⟩]; simp
 rw [hm]
 simp only [Option.bind_some,zA6]
 rw [zEG x ?_ ?_ _ (by simp)]
 ·rfl
 ·intro ys i hi hl2
  unfold zB5
  rw [if_pos (by simp; omega)]
  have hi2:w64 ((i:Int)+1)=((i+1:Nat):Int):=zP (by omega)
  simp only [zL hi,zL (show i<ys.length by omega),Option.bind_some,Int.toNat_natCast,hi2,zGk x[i] (hx.2 _ (List.getElem_mem hi))]
 ·intro ys _
  unfold zB5
  rw [if_neg (by simp)]
theorem zKG (x:Pack) (hx:Pack.sm 1049600 x):zBS x=some x:=by
 obtain ⟨h0,h1,h2,h3,h4,h5⟩:=hx
 unfold zBS
 simp only [zD4 x.Version h1,zHK x.Provides h3,zID x.Needs h4,zGk x.Bars h5,Option.bind_some]
theorem zJE (x:(List Pack)) (hx:x.length≤1049600∧∀y0∈x,Pack.sm 1049600 y0):uD x=some x:=by
 have hl:=hx.1
 unfold uD
 have hm:∀z:Pack,mk 120 (x.length:Int) z=some (List.replicate x.length z):=fun z=>by
  unfold mk; rw [if_pos ⟨by omega,by simp; omega,by omega⟩]; simp
 rw [hm]
 simp only [Option.bind_some,zB0]
 rw [zEG x ?_ ?_ _ (by simp)]
 ·rfl
 ·intro ys i hi hl2
  unfold zBN
  rw [if_pos (by simp; omega)]
  have hi2:w64 ((i:Int)+1)=((i+1:Nat):Int):=zP (by omega)
  simp only [zL hi,zL (show i<ys.length by omega),Option.bind_some,Int.toNat_natCast,hi2,zKG x[i] (hx.2 _ (List.getElem_mem hi))]
 ·intro ys _
  unfold zBN
  rw [if_neg (by simp)]
theorem zHS (x:(List Int)) (hx:x.length≤1049600∧∀y0∈x,True):zBd x x=some true:=by
 have hl:=hx.1
 unfold zBd
 rw [if_neg (by simp)]
 unfold zBx
 rw [zE3 x.length ?_ ?_]
 ·rfl
 ·intro i hi
  unfold zBM
  rw [if_pos (by simp; omega)]
  have hi2:w64 ((i:Int)+1)=((i+1:Nat):Int):=zP (by omega)
  simp [zL hi,hi2]
 ·unfold zBM
  rw [if_neg (by simp)]
theorem zIC (x:File) (hx:File.sm 1049600 x):zCf x x=some true:=by
 obtain ⟨h0,h1⟩:=hx
 unfold zCf
 simp [zHS x.Data h1]
theorem zHL (x:(List File)) (hx:x.length≤1049600∧∀y0∈x,File.sm 1049600 y0):zBh x x=some true:=by
 have hl:=hx.1
 unfold zBh
 rw [if_neg (by simp)]
 unfold zBo
 rw [zE3 x.length ?_ ?_]
 ·rfl
 ·intro i hi
  unfold zBP
  rw [if_pos (by simp; omega)]
  have hi2:w64 ((i:Int)+1)=((i+1:Nat):Int):=zP (by omega)
  simp [zL hi,hi2,zIC x[i] (hx.2 _ (List.getElem_mem hi))]
 ·unfold zBP
  rw [if_neg (by simp)]
theorem zHW (x:zI) (hx:zI.sm 1049600 x):zCc x x=some true:=by
 obtain ⟨h0,h1,h2,h3,h4⟩:=hx
 unfold zCc
 simp [zHL x.Files h0]
def yM.sm (B:Nat) (x:yM):Prop:=(True)∧(True)
theorem zEV (x:yM) (hx:yM.sm 1049600 x):uS x x=some true:=by
 obtain ⟨h0,h1⟩:=hx
 unfold uS
 simp
theorem zCX (x:Version) (hx:Version.sm 1049600 x):wH x x=some true:=by
 obtain ⟨h0,h1,h2⟩:=hx
 unfold wH
 simp
theorem zFO (x:(List ByteArray)) (hx:x.length≤1049600∧∀y0∈x,y0.size≤1049600):kZ x x=some true:=by
 have hl:=hx.1
 unfold kZ
 rw [if_neg (by simp)]
 unfold zAn
 rw [zE3 x.length ?_ ?_]
 ·rfl
 ·intro i hi
  unfold zAI
  rw [if_pos (by simp; omega)]
  have hi2:w64 ((i:Int)+1)=((i+1:Nat):Int):=zP (by omega)
  simp [zL hi,hi2]
 ·unfold zAI
  rw [if_neg (by simp)]
theorem zIM (x:Term) (hx:Term.sm 1049600 x):zBW x x=some true:=by
 obtain ⟨h0,h1,h2⟩:=hx
 unfold zBW
 simp [zCX x.Low h1,zCX x.High h2]
theorem zEH (x:(List Term)) (hx:x.length≤1049600∧∀y0∈x,Term.sm 1049600 y0):kJ x x=some true:=by
 have hl:=hx.1
 unfold kJ
 rw [if_neg (by simp)]
 unfold zAW
 rw [zE3 x.length ?_ ?_]
 ·rfl
 ·intro i hi
  unfold zBJ
  rw [if_pos (by simp; omega)]
  have hi2:w64 ((i:Int)+1)=((i+1:Nat):Int):=zP (by omega)
  simp [zL hi,hi2,zIM x[i] (hx.2 _ (List.getElem_mem hi))]
 ·unfold zBJ
  rw [if_neg (by simp)]
theorem zGV (x:(List (List Term))) (hx:x.length≤1049600∧∀y0∈x,y0.length≤1049600∧∀y1∈y0,Term.sm 1049600 y1):zAu x x=some true:=by
 have hl:=hx.1
 unfold zAu
 rw [if_neg (by simp)]
 unfold zA8
 rw [zE3 x.length ?_ ?_]
 ·rfl
 ·intro i hi
  unfold zB4
  rw [if_pos (by simp; omega)]
  have hi2:w64 ((i:Int)+1)=((i+1:Nat):Int):=zP (by omega)
  simp [zL hi,hi2,zEH x[i] (hx.2 _ (List.getElem_mem hi))]
 ·unfold zB4
  rw [if_neg (by simp)]
theorem zHX (x:Pack) (hx:Pack.sm 1049600 x):zBX x x=some true:=by
 obtain ⟨h0,h1,h2,h3,h4,h5⟩:=hx
 unfold zBX
 simp [zCX x.Version h1,zFO x.Provides h3,zGV x.Needs h4,zEH x.Bars h5]
theorem zHE (x:(List Pack)) (hx:x.length≤1049600∧∀y0∈x,Pack.sm 1049600 y0):zAV x x=some true:=by
 have hl:=hx.1
 unfold zAV
 rw [if_neg (by simp)]
 unfold zAQ
 rw [zE3 x.length ?_ ?_]
 ·rfl
 ·intro i hi
  unfold zBL
  rw [if_pos (by simp; omega)]
  have hi2:w64 ((i:Int)+1)=((i+1:Nat):Int):=zP (by omega)
  simp [zL hi,hi2,zHX x[i] (hx.2 _ (List.getElem_mem hi))]
 ·unfold zBL
  rw [if_neg (by simp)]
theorem Version.zCD {x:Version} (h:Version.sm 1048576 x):Version.sm 1049600 x:=⟨trivial,trivial,trivial⟩
theorem Term.zCD {x:Term} (h:Term.sm 1048576 x):Term.sm 1049600 x:=⟨(Nat.le_trans h.1 (by decide)),(Version.zCD h.2.1),(Version.zCD h.2.2)⟩
theorem Pack.zCD {x:Pack} (h:Pack.sm 1048576 x):Pack.sm 1049600 x:=⟨(Nat.le_trans h.1 (by decide)),(Version.zCD h.2.1),trivial,⟨Nat.le_trans h.2.2.2.1.1 (by decide),fun y0 z0=>(Nat.le_trans (h.2.2.2.1.2 y0 z0) (by decide))⟩,⟨Nat.le_trans h.2.2.2.2.1.1 (by decide),fun y0 z0=>⟨Nat.le_trans (h.2.2.2.2.1.2 y0 z0).1 (by decide),fun y1 z1=>(Term.zCD ((h.2.2.2.2.1.2 y0 z0).2 y1 z1))⟩⟩,⟨Nat.le_trans h.2.2.2.2.2.1 (by decide),fun y0 z0=>(Term.zCD (h.2.2.2.2.2.2 y0 z0))⟩⟩
theorem File.zCD {x:File} (h:File.sm 1048576 x):File.sm 1049600 x:=⟨(Nat.le_trans h.1 (by decide)),⟨Nat.le_trans h.2.1 (by decide),fun y0 z0=>trivial⟩⟩
theorem zI.zCD {x:zI} (h:zI.sm 1048576 x):zI.sm 1049600 x:=⟨⟨Nat.le_trans h.1.1 (by decide),fun y0 z0=>(File.zCD (h.1.2 y0 z0))⟩,trivial,trivial,trivial,trivial⟩
theorem zEb (a1:(List Pack)) (a2:zI) (k0:a1.length≤maxLen∧∀y1∈a1,Pack.ok y1) (k1:zI.ok a2) (both:(a1.length≤1048576∧∀y0∈a1,Pack.sm 1048576 y0)→(zI.sm 1048576 a2)→∃r,zAp a1 a2=some r∧zAq a1 a2=some r∧(yM.sm 1049600 r)):wL a1 a2=some true:=by
 unfold wL
 obtain ⟨r1,e1,g1⟩:=zJy a1 k0 1048576 (by omega) (by omega)
 rw [e1]
 simp only [Option.bind_some]
 by_cases d1:r1<0
 ·rw [if_pos (by simpa using d1)]
 rw [if_neg (by simpa using d1)]
 obtain ⟨p1,q1,s_a1⟩:=g1.resolve_left d1
 obtain ⟨r2,e2,g2⟩:=zKc a2 k1 r1 (by omega) (by omega)
 rw [e2]
 simp only [Option.bind_some]
 by_cases d2:r2<0
 ·rw [if_pos (by simpa using d2)]
 rw [if_neg (by simpa using d2)]
 obtain ⟨p2,q2,s_a2⟩:=g2.resolve_left d2
 obtain ⟨r,e1,e2,hr⟩:=both s_a1 s_a2
 have m_a1:a1.length≤1049600∧∀y0∈a1,Pack.sm 1049600 y0:=⟨Nat.le_trans s_a1.1 (by decide),fun y0 z0=>(Pack.zCD (s_a1.2 y0 z0))⟩
 have m_a2:zI.sm 1049600 a2:=(zI.zCD s_a2)
 simp [e1,e2,zJE a1 m_a1,zHE a1 m_a1,zKX a2 m_a2,zHW a2 m_a2,zEV r hr]
def bl (s:ByteArray):List Int:=s.toList.map (fun b=>(b.toNat:Int))
theorem yK (s:ByteArray):(bl s).length =s.size:=by
 unfold bl
 rw [List.length_map,ByteArray.toList_eq]
 rfl
theorem zDr {s:ByteArray} {i:Nat} (h:i< (bl s).length):bidx s (i:Int)=some (bl s)[i]:=by
 unfold bidx
 rw [if_pos (by omega)]
 have hs:i<s.size:=by rw [yK] at h; exact h
 have e:s[(i:Int).toNat]? =some s[i]:=by simp [hs]
 rw [e]
 simp only [Option.map_some,bl,List.getElem_map]
 congr 2
 simp only [ByteArray.toList_eq]
 rfl
theorem zGS {s:ByteArray}:∀c∈bl s,0≤c∧c≤255:=by
 intro c hc
 unfold bl at hc
 obtain ⟨b,_,rfl⟩:=List.mem_map.1 hc
 have:=b.toNat_lt
 omega
theorem zFt:∀(a:List UInt8),Op.bytesLess a a=false
 |[]=>rfl
 |x::a=>by simp [Op.bytesLess,zFt a]
theorem zGd:∀{a b c:List UInt8},Op.bytesLess a b=true→Op.bytesLess b c=true→Op.bytesLess a c=true
 |_,[],_,h,_=>by simp [Op.bytesLess] at h
 |_,_::_,[],_,h=>by simp [Op.bytesLess] at h
 |[],_::_,_::_,_,_=>by simp [Op.bytesLess]
 |x::a,y::b,z::c,h1,h2=>by
  simp only [Op.bytesLess,Bool.or_eq_true,decide_eq_true_eq,Bool.and_eq_true,beq_iff_eq] at h1 h2 ⊢
  rcases h1 with h1|⟨rfl,h1⟩
  ·rcases h2 with h2|⟨rfl,h2⟩
   ·exact .inl (UInt8.lt_trans h1 h2)
   ·exact .inl h1
  ·rcases h2 with h2|⟨rfl,h2⟩
   ·exact .inl h2
   ·exact .inr ⟨rfl,zGd h1 h2⟩
theorem zIS:∀(a b:List UInt8),Op.bytesLess a b=false→a≠b→Op.bytesLess b a=true
 |[],[],_,h=>absurd rfl h
 |[],_::_,h,_=>by simp [Op.bytesLess] at h
 |_::_,[],_,_=>by simp [Op.bytesLess]
 |x::a,y::b,h,hne=>by
  simp only [Op.bytesLess,Bool.or_eq_false_iff,decide_eq_false_iff_not,Bool.and_eq_false_iff,beq_eq_false_iff_ne] at h
  simp only [Op.bytesLess,Bool.or_eq_true,decide_eq_true_eq,Bool.and_eq_true,beq_iff_eq]
  by_cases hxy:x=y
  ·subst hxy
   refine .inr ⟨rfl,zIS a b ?_ (fun e=>hne (by rw [e]))⟩
   rcases h.2 with h'|h'
   ·exact absurd rfl h'
   ·exact h'
  ·refine .inl ?_
   have:=h.1
   rw [UInt8.lt_iff_toNat_lt] at this ⊢
   have:x.toNat≠y.toNat:=fun e=>hxy (UInt8.toNat_inj.1 e)
   omega
theorem toList_inj {a b:ByteArray} (h:a.toList=b.toList):a=b:=by
 rw [ByteArray.toList_eq,ByteArray.toList_eq] at h
 cases a; cases b
 simp at h
 rw [h]
theorem zC6 (a:ByteArray):slt a a=false:=zFt _
theorem zC9 {a b c:ByteArray} (h1:slt a b=true) (h2:slt b c=true):slt a c=true:=zGd h1 h2
theorem zMt {a b:ByteArray} (h:slt a b=false) (hne:a≠b):slt b a=true:=zIS _ _ h (fun e=>hne (toList_inj e))
theorem zE7 {a b:ByteArray}:seq a b=true↔a=b:=by
 unfold seq
 simp only [beq_iff_eq]
 exact ⟨toList_inj,fun e=>by rw [e]⟩
theorem seq_eq (a b:ByteArray):seq a b=decide (a=b):=by
 rw [Bool.eq_iff_iff,zE7]; simp
theorem zNo (a b c:Int):yY a b c=some (decide (a≥b)&&decide (a≤c)):=by
 unfold yY
 cases decide (a≥b)<;>rfl
theorem zC8 (a b:ByteArray):bl (a++b)=bl a++bl b:=by
 unfold bl
 rw [ByteArray.toList_eq,ByteArray.toList_eq,ByteArray.toList_eq]
 simp
theorem zCh (s:ByteArray) (i j:Nat):bl (s.extract i j)=((bl s).drop i).take (j-i):=by
 unfold bl
 rw [ByteArray.toList_eq,ByteArray.toList_eq]
 simp [List.map_drop,List.map_take]
theorem zGq {a b:ByteArray}:bl a=bl b↔a=b:=by
 constructor
 ·intro h
  unfold bl at h
  refine toList_inj ?_
  have hinj:∀(x y:List UInt8),x.map (fun b=>(b.toNat:Int))=y.map (fun b=>(b.toNat:Int))→x=y:=by
   intro x
   induction x with
   |nil=>intro y h; cases y<;>simp_all
   |cons u x ih=>
    intro y h
    cases y with
    |nil=>simp at h
    |cons v y=>
     simp only [List.map_cons,List.cons.injEq] at h
     rw [ih y h.2]
     have:u.toNat=v.toNat:=by omega
     rw [UInt8.toNat_inj.1 this]
  exact hinj _ _ h
 ·intro h; rw [h]
theorem zLZ (a b:ByteArray):seq a b=decide (bl a=bl b):=by
 rw [seq_eq]
 simp [zGq]
theorem zI8 {c:Int} (h0:0≤c) (h1:c≤255):bl (b2s [c])=[c]:=by
 unfold bl b2s
 rw [ByteArray.toList_eq]
 simp only [List.foldl_cons,List.foldl_nil]
 show [((UInt8.ofNat c.toNat).toNat :Int)]=[c]
 simp
 omega
theorem wrap_u8 {c:Int} (h0:0≤c) (h1:c≤255):IntKind.u8.wrap c=c:=by
 simp only [IntKind.wrap,IntKind.signed,IntKind.bits]
 simp
 omega
def zDK (n:Nat):List Int:=if n<10 then [48+(n:Int)] else zDK (n / 10)++[48+((n%10:Nat):Int)]
termination_by n
decreasing_by omega
theorem zAl {n:Nat} (h:n<10):zDK n=[48+(n:Int)]:=by rw [zDK,if_pos h]
theorem zCJ {n:Nat} (h:¬n<10):zDK n=zDK (n / 10)++[48+((n%10:Nat):Int)]:=by rw [zDK,if_neg h]
theorem zDW:∀(k n:Nat),10^k≤n→n<10^(k+1)→(zDK n).length =k+1
 |0,n,_,h=>by rw [zAl (by simpa using h)]; rfl
 |k+1,n,h1,h2=>by
  have hp:1≤10^k:=Nat.one_le_pow _ _ (by omega)
  rw [Nat.pow_succ] at h1
  rw [Nat.pow_succ] at h2
  rw [zCJ (by omega),List.length_append,zDW k (n / 10) (by omega) (by omega)]
  rfl
theorem zFy:∀(k n:Nat),n<10^(k+1)→(zDK n).length ≤k+1
 |0,n,h=>by rw [zAl (by simpa using h)]; simp
 |k+1,n,h=>by
  by_cases hn:n<10
  ·rw [zAl hn]; simp
  ·rw [Nat.pow_succ] at h
   rw [zCJ hn,List.length_append]
   have:=zFy k (n / 10) (by omega)
   simp only [List.length_singleton]
   omega
theorem zFR (g:Int→Option ByteArray) (a1:Int):vH g a1=if decide (a1<10) then some (b2s [IntKind.u8.wrap (w64 (48+a1))]) else (g (w64 (a1.tdiv 10))).bind fun x3=>(cat x3 (b2s [IntKind.u8.wrap (w64 (48+(a1.tmod 10)))])).bind fun x5=>some x5:=rfl
theorem zDM:∀(k f n:Nat),n<10^(k+1)→k<f→n≤9000000000000000000→k≤100→∃s,zMD vH f (n:Int)=some s∧bl s=zDK n
 |k,0,n,_,hf,_,_=>by omega
 |k,f+1,n,h,hf,hn,hk=>by
  rw [show zMD vH (f+1) (n:Int)=vH (zMD vH f) (n:Int) from rfl,zFR]
  by_cases h1:n<10
  ·rw [if_pos (by simp; omega),tH (by omega) (by omega),wrap_u8 (by omega) (by omega)]
   exact ⟨_,rfl,by rw [zI8 (by omega) (by omega),zAl h1]⟩
  ·rw [if_neg (by simp; omega)]
   cases k with
   |zero=>simp at h; omega
   |succ k=>
    have e1:w64 ((n:Int).tdiv 10)=((n / 10:Nat):Int):=by
     rw [Int.tdiv_eq_ediv_of_nonneg (by omega),tH (by omega) (by omega)]; omega
    have e2:(n:Int).tmod 10=((n%10:Nat):Int):=by
     rw [Int.tmod_eq_emod_of_nonneg (by omega)]; omega
    rw [Nat.pow_succ] at h
    obtain ⟨s,e,hs⟩:=zDM k f (n / 10) (by omega) (by omega) (by omega) (by omega)
    rw [e1,e2,e,tH (by omega) (by omega),wrap_u8 (by omega) (by omega)]
    have hsz:s.size≤k+1:=by
     rw [←yK,hs]
     exact zFy k (n / 10) (by omega)
    simp only [Option.bind_some]
    unfold cat
    rw [if_pos (by have:(b2s [48+((n%10:Nat):Int)]).size =1:=rfl; omega)]
    exact ⟨_,rfl,by rw [zC8,hs,zI8 (by omega) (by omega),zCJ h1]⟩
theorem zDI (n:Nat) (h:n≤9000000000000000000):∃s,xO (n:Int)=some s∧bl s=zDK n:=
 zDM 18 64 n (by omega) (by omega) h (by omega)
theorem zIa (l:List UInt8):bl (bs l)=l.map (fun b=>(b.toNat:Int)):=by
 unfold bl bs
 rw [ByteArray.toList_eq]
theorem zCA {a b:ByteArray} (h:a.size+b.size≤1099511627776):cat a b=some (a++b):=if_pos h
theorem zGE (a b c:ByteArray):a++b++c=a++(b++c):=zGq.1 (by simp only [zC8,List.append_assoc])
theorem zC2 (a b:ByteArray):(a++b).size =a.size+b.size:=by
 rw [←yK,zC8,List.length_append,yK,yK]
theorem zDL {n:Nat} (h:n<256):(UInt8.ofNat n).toNat =n:=by
 simp [Nat.mod_eq_of_lt h]
theorem decDigits_eq:∀(n:Nat),(Lib.decDigits n).map (fun b=>(b.toNat:Int))=zDK n:=by
 intro n
 induction n using Nat.strongRecOn with
 |ind n ih=>
  rw [Lib.decDigits]
  by_cases h:n<10
  ·rw [dif_pos h,zAl h]
   simp only [List.map_cons,List.map_nil]
   rw [zDL (by omega)]
   simp
  ·rw [dif_neg h,zCJ h,List.map_append,ih (n / 10) (by omega)]
   simp only [List.map_cons,List.map_nil]
   rw [zDL (by omega)]
   simp
def zGZ (n:Nat):ByteArray:=⟨(Lib.decDigits n).toArray⟩
theorem zEa (n:Nat):bl (zGZ n)=zDK n:=by
 unfold bl zGZ
 rw [ByteArray.toList_eq]
 exact decDigits_eq n
theorem zES (n:Nat) (h:n≤9000000000000000000):xO (n:Int)=some (zGZ n):=by
 obtain ⟨s,e,hs⟩:=zDI n h
 rw [e,zGq.1 (hs.trans (zEa n).symm)]
theorem zEQ (n:Nat) (h:n≤9000000000000000000):vU (n:Int) 10=some (zGZ n):=by
 unfold vU
 rw [if_pos (by omega)]
 unfold Lib.itoa zGZ
 rw [if_neg (by omega)]
 simp
def inB (a b c:Int):Bool:=decide (b≤a)&&decide (a≤c)
theorem zIi (a b c:Int):yY a b c=some (inB a b c):=by
 unfold yY inB
 by_cases h:a≥b<;>simp [h]
theorem zHp (a b c:Int):yO a b c=some (inB a b c):=by
 unfold yO inB
 by_cases h:b≤a<;>simp [h]
section del
variable {α:Type} (p:α→Bool)
theorem zDl {xs:List α} {l h:Nat} (h1:l≤h) (h2:h≤xs.length):zDG xs (l:Int) (h:Int)=some ((xs.drop l).take (h-l)):=by
 unfold zDG
 rw [if_pos (by omega)]
 rfl
end del
section del
variable {α:Type} (p:α→Bool)
theorem zIL {xs:List α} {l n:Nat} {a:α} (h:l+n≤xs.length):zK3 xs (l:Int) n a=some (xs.take l++List.replicate n a++xs.drop (l+n)):=by
 unfold zK3
 rw [if_pos (by omega)]
 simp [ovr]
end del
section del
variable {α:Type} (p:α→Bool)
theorem zLl {R:Type} (a1:List α) (out:Int→R) {b:Int→Option (Lp Int (Fl R Unit))} (hl:a1.length<9223372036854775807)
  (hstep:∀(i:Nat) (hi:i<a1.length),b (i:Int)=some (if p a1[i] then .done (.ret (out i)) else .go ((i+1:Nat):Int))) (hend:b (a1.length:Int)=some (.done (.nxt ()))):
  ∃t,loop b 0=some t∧((t= .nxt ()∧∀x∈a1,p x=false)∨∃i:Nat,∃hi:i<a1.length,t= .ret (out i)∧p a1[i]=true∧∀x∈a1.take i,p x=false):=by
 refine uR (b:=b) (fun i s=>s=(i:Int)∧∀x∈a1.take i,p x=false) a1.length _ (by
  rintro i s hi ⟨rfl,hn⟩
  have e:=hstep i hi
  cases hp:p a1[i]
  ·rw [hp] at e
   refine .inl ⟨_,e,rfl,fun x hx=>?_⟩
   rw [List.take_succ_eq_append_getElem hi] at hx
   rcases List.mem_append.1 hx with hx|hx
   ·exact hn x hx
   ·simp at hx; rw [hx]; exact hp
  ·rw [hp] at e
   exact .inr ⟨_,e,.inr ⟨i,hi,rfl,hp,hn⟩⟩) (by
  rintro s ⟨rfl,hn⟩
  rw [List.take_length] at hn
  exact ⟨_,hend,.inl ⟨rfl,hn⟩⟩) a1.length 0 0 (by omega) ⟨rfl,by simp⟩
end del
section del
variable {α:Type} (p:α→Bool)
theorem zDj {xs:List α} {i:Nat} {x:α} (h:i<xs.length):(xs.set i x).take (i+1)=xs.take i++[x]:=by
 rw [List.take_succ_eq_append_getElem (by simpa using h),List.take_set_of_le (Nat.le_refl _)]
 simp
end del
section del
variable {α:Type} (p:α→Bool)
theorem set_drop {xs:List α} {i j:Nat} {x:α} (h:i<j):(xs.set i x).drop j=xs.drop j:=by
 rw [List.drop_set_of_lt h]
end del
section del
variable {α:Type} (p:α→Bool)
theorem zKp (a:List α) {b:(List α×Int×Int)→Option (Lp (List α×Int×Int) (List α×Int))} (hl:a.length<9223372036854775807)
  (hstep:∀(xs:List α) (i j:Nat) (hj:j<xs.length),i≤j→xs.length=a.length→xs[j]∈a→b (xs,(i:Int),(j:Int))=some (.go (if p xs[j] then (xs,(i:Int),((j+1:Nat):Int)) else (xs.set i xs[j],((i+1:Nat):Int),((j+1:Nat):Int)))))
  (hend:∀(xs:List α) (i:Nat),xs.length=a.length→b (xs,(i:Int),(xs.length:Int))=some (.done (xs,(i:Int)))) (i0 j0:Nat) (hij:i0≤j0) (hj0:j0≤a.length) (h0:a.take i0=(a.take j0).filter (fun x=> !p x)):
  ∃ys:List α,loop b (a,(i0:Int),(j0:Int))=some (ys,((a.filter (fun x=> !p x)).length :Int))∧ys.length=a.length∧ys.take (a.filter (fun x=> !p x)).length =a.filter (fun x=> !p x):=by
 obtain ⟨t,e,h⟩:=uR (b:=b) (fun j s=>s.1.length=a.length∧s.1.drop j=a.drop j∧s.2.2=(j:Int)∧∃i:Nat,s.2.1=(i:Int)∧i≤j∧s.1.take i=(a.take j).filter (fun x=> !p x)) a.length
  (fun t=>t.1.length=a.length∧∃i:Nat,t.2=(i:Int)∧i≤a.length∧t.1.take i=a.filter (fun x=> !p x)) (by
  rintro j ⟨xs,i',j'⟩ hj ⟨hxl,hxd,hjj,i,hi,hle,ht⟩
  simp only at hxl hxd hjj hi ht
  subst hjj hi
  have hjx:j<xs.length:=by omega
  have hx:xs[j]=a[j]:=by
   have:=congrArg (fun l=>l[0]?) hxd
   simp only [List.getElem?_drop,Nat.add_zero] at this
   rw [List.getElem?_eq_getElem hjx,List.getElem?_eq_getElem hj] at this
   exact Option.some.inj this
  have e:=hstep xs i j hjx hle hxl (by rw [hx]; exact List.getElem_mem hj)
  have htk:(a.take (j+1)).filter (fun x=> !p x)=(a.take j).filter (fun x=> !p x)++(if p a[j] then [] else [a[j]]):=by
   rw [List.take_succ_eq_append_getElem hj,List.filter_append]
   cases h:p a[j]<;>simp [h]
  have hd1:a.drop (j+1)=xs.drop (j+1):=by
   have:=congrArg (List.drop 1) hxd
   simpa [List.drop_drop] using this.symm
  rw [hx] at e
  cases hp:p a[j]
  ·rw [hp] at e htk
   refine .inl ⟨_,e,by simpa using hxl,?_,rfl,i+1,rfl,by omega,?_⟩
   ·show (xs.set i a[j]).drop (j+1)=a.drop (j+1)
    rw [set_drop (by omega),hd1]
   ·show (xs.set i a[j]).take (i+1)=_
    rw [zDj (by omega),htk,ht]
    rfl
  ·rw [hp] at e htk
   refine .inl ⟨_,e,hxl,?_,rfl,i,rfl,by omega,?_⟩
   ·exact hd1.symm
   ·show xs.take i=_
    rw [htk,ht]
    simp) (by
  rintro ⟨xs,i',j'⟩ ⟨hxl,hxd,hjj,i,hi,hle,ht⟩
  simp only at hxl hxd hjj hi ht
  subst hjj hi
  have e:=hend xs i hxl
  rw [hxl] at e
  refine ⟨_,e,hxl,i,rfl,hle,?_⟩
  rw [List.take_length] at ht
  exact ht) (a.length-j0) j0 (a,(i0:Int),(j0:Int)) (by omega) ⟨rfl,rfl,rfl,i0,rfl,hij,h0⟩
 obtain ⟨ys,i'⟩:=t
 obtain ⟨h1,i,h2,h3,h4⟩:=h
 simp only at h1 h2 h4
 subst h2
 have hlen:i=(a.filter (fun x=> !p x)).length :=by rw [←h4]; simp; omega
 subst hlen
 exact ⟨ys,e,h1,h4⟩
end del
section del
variable {α:Type} (p:α→Bool)
theorem zMG {a ys:List α} (zero:α) (h1:ys.length=a.length) (h2:ys.take (a.filter (fun x=> !p x)).length =a.filter (fun x=> !p x)):
  (zDG ys ((a.filter (fun x=> !p x)).length :Int) (ys.length:Int)).bind (fun r=>(zK3 ys ((a.filter (fun x=> !p x)).length :Int) r.length zero).bind fun z=>(zDG z 0 ((a.filter (fun x=> !p x)).length :Int)).bind fun q=>some q)=some (a.filter (fun x=> !p x)):=by
 have hle:(a.filter (fun x=> !p x)).length ≤ys.length:=by rw [h1]; exact List.length_filter_le _ _
 rw [zDl hle (Nat.le_refl _)]
 simp only [Option.bind_some]
 rw [zIL (by simp; omega)]
 simp only [Option.bind_some]
 have:zDG (List.take (List.filter (fun x=> !p x) a).length ys++List.replicate (List.take (ys.length-(List.filter (fun x=> !p x) a).length) (List.drop (List.filter (fun x=> !p x) a).length ys)).length zero++
   List.drop ((List.filter (fun x=> !p x) a).length +(List.take (ys.length-(List.filter (fun x=> !p x) a).length) (List.drop (List.filter (fun x=> !p x) a).length ys)).length) ys) ((0:Nat):Int) ((a.filter (fun x=> !p x)).length :Int)=some (a.filter (fun x=> !p x)):=by
  rw [zDl (by omega) (by simp; omega)]
  rw [h2]
  simp
 exact (congrArg (fun o=>Option.bind o fun q=>some q) this)
end del
section del
variable {α:Type} (p:α→Bool)
theorem zMI (a:List α) (zero:α) (hl:a.length≤1048577) {b1:Int→Option (Lp Int (Fl Int Unit))} {b2:(List α×Int×Int)→Option (Lp (List α×Int×Int) (List α×Int))}
  (h1:∀(i:Nat) (hi:i<a.length),b1 (i:Int)=some (if p a[i] then .done (.ret (i:Int)) else .go ((i+1:Nat):Int))) (h1e:b1 (a.length:Int)=some (.done (.nxt ())))
  (h2:∀(xs:List α) (i j:Nat) (hj:j<xs.length),i≤j→xs.length=a.length→xs[j]∈a→b2 (xs,(i:Int),(j:Int))=some (.go (if p xs[j] then (xs,(i:Int),((j+1:Nat):Int)) else (xs.set i xs[j],((i+1:Nat):Int),((j+1:Nat):Int)))))
  (h2e:∀(xs:List α) (i:Nat),xs.length=a.length→b2 (xs,(i:Int),(xs.length:Int))=some (.done (xs,(i:Int)))):
  ((loop b1 0).bind (Fl.go some fun _=>some (-1))).bind (fun x4=>if x4==(-1) then (some a) else ((loop b2 (a,x4,w64 (x4+1))).bind fun v26=>(zDG v26.1 v26.2 (v26.1.length:Int)).bind fun x27=>(zK3 v26.1 v26.2 x27.length zero).bind fun x29=>(zDG x29 0 v26.2).bind fun x31=>some x31))=some (a.filter (fun x=> !p x)):=by
 obtain ⟨t,e,h⟩:=zLl p a (fun i=>i) (b:=b1) (by omega) h1 h1e
 rw [e]
 rcases h with ⟨rfl,hn⟩|⟨i,hi,rfl,hp,hn⟩
 ·show some a=_
  congr 1
  exact (List.filter_eq_self.2 (fun x hx=>by rw [hn x hx]; rfl)).symm
 ·simp only [Option.bind_some,Fl.go]
  rw [if_neg (by simp),zP (by omega)]
  obtain ⟨ys,e2,h3,h4⟩:=zKp p a (b:=b2) (by omega) h2 h2e i (i+1) (by omega) (by omega) (by
   rw [List.take_succ_eq_append_getElem hi,List.filter_append]
   rw [List.filter_eq_self.2 (fun x hx=>by rw [hn x hx]; rfl)]
   simp [hp])
  rw [e2]
  simp only [Option.bind_some]
  exact zMG p zero h3 h4
end del
def vZ {α R:Type} (g:Nat→α→Option R):Nat→List α→Option R
 |_,[]=>none
 |i,x::xs=>match g i x with
  |some r=>some r
  |none=>vZ g (i+1) xs
def frs {R:Type}:Option R→Fl R Unit
 |some r=>.ret r
 |none=>.nxt ()
theorem zGr {α R:Type} (xs:List α) (g:Nat→α→Option R) {b:Int→Option (Lp Int (Fl R Unit))}
  (hstep:∀(i:Nat) (hi:i<xs.length),b (i:Int)=some (match g i xs[i] with|some r=>.done (.ret r)|none=>.go ((i+1:Nat):Int))) (hend:b (xs.length:Int)=some (.done (.nxt ()))):
  ∀(k i:Nat),i+k=xs.length→loop b (i:Int)=some (frs (vZ g i (xs.drop i)))
 |0,i,h=>by
  have e:i=xs.length:=by omega
  subst e
  rw [jS,hend,List.drop_length]
  rfl
 |k+1,i,h=>by
  have hi:i<xs.length:=by omega
  have ih:=zGr xs g hstep hend k (i+1) (by omega)
  rw [jS,hstep i hi,List.drop_eq_getElem_cons hi]
  simp only [vZ]
  cases g i xs[i] with
  |some r=>rfl
  |none=>exact ih
theorem wU {α R:Type} (xs:List α) (g:Nat→α→Option R) {b:Int→Option (Lp Int (Fl R Unit))}
  (hstep:∀(i:Nat) (hi:i<xs.length),b (i:Int)=some (match g i xs[i] with|some r=>.done (.ret r)|none=>.go ((i+1:Nat):Int))) (hend:b (xs.length:Int)=some (.done (.nxt ()))):
  loop b 0=some (frs (vZ g 0 xs)):=by
 have:=zGr xs g hstep hend xs.length 0 (by omega)
 simpa using this
theorem zDf {R T:Type} (o:Option R) (f:R→Option T) (h:Unit→Option T):(some (frs o)).bind (Fl.go f h)=match o with|some r=>f r|none=>h ():=by
 cases o<;>rfl
theorem zDh {α:Type} (p:α→Bool):∀(xs:List α) (i:Nat),((vZ (fun j x=>if p x then some (j:Int) else none) i xs).getD (-1)≥0)↔xs.any p=true
 |[],i=>by simp [vZ]
 |x::xs,i=>by
  simp only [vZ]
  cases h:p x
  ·simp only [Bool.false_eq_true,if_false,List.any_cons,h,Bool.false_or]
   exact zDh p xs (i+1)
  ·simp [h]
theorem zHB {α:Type} (p:α→Bool):∀(xs:List α) (i:Nat),(vZ (fun _ x=>if p x then some true else none) i xs).getD false=xs.any p
 |[],i=>rfl
 |x::xs,i=>by
  simp only [vZ]
  cases h:p x
  ·simp only [Bool.false_eq_true,if_false,List.any_cons,h,Bool.false_or]
   exact zHB p xs (i+1)
  ·simp [h]
def foldI {α A:Type} (f:Nat→A→α→A):Nat→List α→A→A
 |_,[],a=>a
 |i,x::xs,a=>foldI f (i+1) xs (f i a x)
theorem zCO {α A:Type} (xs:List α) (f:Nat→A→α→A) (I:Nat→A→Prop) {b:(A×Int)→Option (Lp (A×Int) A)}
  (hstep:∀(i:Nat) (a:A) (hi:i<xs.length),I i a→b (a,(i:Int))=some (.go (f i a xs[i],((i+1:Nat):Int)))∧I (i+1) (f i a xs[i])) (hend:∀a,b (a,(xs.length:Int))=some (.done a)):
  ∀(k i:Nat) (a:A),i+k=xs.length→I i a→loop b (a,(i:Int))=some (foldI f i (xs.drop i) a)∧I xs.length (foldI f i (xs.drop i) a)
 |0,i,a,h,hI=>by
  have e:i=xs.length:=by omega
  subst e
  rw [jS,hend,List.drop_length]
  exact ⟨rfl,hI⟩
 |k+1,i,a,h,hI=>by
  have hi:i<xs.length:=by omega
  obtain ⟨h1,h2⟩:=hstep i a hi hI
  have ih:=zCO xs f I hstep hend k (i+1) _ (by omega) h2
  rw [jS,h1,List.drop_eq_getElem_cons hi]
  exact ih
theorem zFc {o:Option Int} {b:Bool} (h:(o.getD (-1)≥0)↔b=true):decide (o.getD (-1)≥0)=b:=by
 rw [Bool.eq_iff_iff,decide_eq_true_eq]; exact h
def zIr (c:Int):Bool:=(decide (c≥97)&&decide (c≤122))||(decide (c≥48)&&decide (c≤57))||c==95
def zIj (c:Int):Bool:=zIr c||c==46||c==45||c==47
theorem zFL (c:Int):wT c=some (zIr c):=by
 unfold wT wK wQ zIr
 cases decide (c≥97)<;>cases decide (c≤122)<;>cases decide (c≥48)<;>cases decide (c≤57)<;>rfl
theorem zDO (c:Int):zCg c=some (zIj c):=by
 unfold zCg zIj
 rw [zFL]
 cases zIr c<;>cases (c==46)<;>cases (c==45)<;>cases (c==47)<;>rfl
theorem zEg (c:Int):yZ c=some (zIr c):=by
 unfold yZ zIr
 cases decide (c≥97)<;>cases decide (c≤122)<;>cases decide (c≥48)<;>cases decide (c≤57)<;>rfl
theorem zHo (s:ByteArray):kW s=wD s:=by
 unfold kW wD
 have:jB s=vW s:=by
  unfold jB vW
  refine zE5 fun i=>?_
  unfold zCl uM
  split
  ·congr 1
   funext c
   rw [zDO,zEg]
   unfold zIj
   simp only [bne]
   cases zIr c<;>cases (c==46)<;>cases (c==45)<;>cases (c==47)<;>rfl
  ·rfl
 rw [this]
def zFs (s:ByteArray):Prop:=1≤s.size∧s.size≤40∧∀c∈bl s,zIj c=true
theorem zFI (s:ByteArray):(zFs s∧wD s=some 0)∨(¬zFs s∧wD s=some 5):=by
 unfold wD
 by_cases h1:s.size<1
 ·refine .inr ⟨fun h=>by have:=h.1; omega,?_⟩
  rw [if_pos (by simp; omega)]; rfl
 ·rw [if_neg (by simp; omega)]
  simp only [Option.bind_some]
  by_cases h2:s.size>40
  ·refine .inr ⟨fun h=>by have:=h.2.1; omega,?_⟩
   rw [if_pos (by simp; omega)]
  ·rw [if_neg (by simp; omega)]
   obtain ⟨t,e,h⟩:=uR (b:=uM s) (fun i j=>j=(i:Int)∧∀k,(hk:k< (bl s).length)→k<i→zIj (bl s)[k]=true) (bl s).length (fun t=>match t with| .ret r=>r=5∧¬zFs s| .nxt _=>∀c∈bl s,zIj c=true) (by
    rintro i j hi ⟨rfl,hp⟩
    have hs:=yK s
    unfold uM
    rw [if_pos (by simp; omega),zDr hi]
    simp only [Option.bind_some,zDO]
    cases hb:zIj (bl s)[i] with
    |false=>exact .inr ⟨_,rfl,rfl,fun h=>by have:=h.2.2 _ (List.getElem_mem hi); rw [hb] at this; cases this⟩
    |true=>
     rw [zP (by omega)]
     refine .inl ⟨_,rfl,rfl,fun k hk hki=>?_⟩
     rcases Nat.lt_or_ge k i with h|h
     ·exact hp k hk h
     ·have:k=i:=by omega
      subst this; exact hb) (by
    rintro j ⟨rfl,hp⟩
    unfold uM
    rw [if_neg (by simp [yK])]
    refine ⟨_,rfl,fun c hc=>?_⟩
    obtain ⟨k,hk,rfl⟩:=List.getElem_of_mem hc
    exact hp k hk hk) (bl s).length 0 0 (by omega) ⟨rfl,fun k _ h=>by omega⟩
   simp only [vW,e,Option.bind_some]
   cases t with
   |ret r=>
    obtain ⟨rfl,h⟩:=h
    exact .inr ⟨h,rfl⟩
   |nxt u=>exact .inl ⟨⟨by omega,by omega,h⟩,rfl⟩
theorem zFJ (s:ByteArray):∃r,wD s=some r∧(r=0↔zFs s):=by
 rcases zFI s with ⟨h1,h2⟩|⟨h1,h2⟩
 ·exact ⟨0,h2,by simp [h1]⟩
 ·exact ⟨5,h2,by simp [h1]⟩
def total (fs:List File):Int:=match fs with
 |[]=>0
 |f::fs=>f.Data.length+total fs
theorem zD0:∀(l r:List File),total (l++r)=total l+total r
 |[],r=>by simp [total]
 |f::l,r=>by simp only [List.cons_append,total,zD0 l r]; omega
theorem zD2:∀(l:List File),0≤total l
 |[]=>Int.le_refl _
 |f::l=>by have:=zD2 l; simp only [total]; omega
theorem zIQ:∀(l:List File) (C:Int),0≤C→(∀f∈l,(f.Data.length:Int)≤C)→total l≤l.length*C
 |[],C,_,_=>by simp [total]
 |f::l,C,hC,h=>by
  have h1:=h f (by simp)
  have h2:=zIQ l C hC (fun g hg=>h g (by simp [hg]))
  simp only [total,List.length_cons,Int.natCast_add,Int.add_mul]
  omega
theorem zJS (d:zI) (h:d.Files.length≤1048576) (hf:∀f∈d.Files,f.Data.length≤1048576):zBi d=some (total d.Files):=by
 have htot:=zIQ d.Files 1048576 (by omega) (fun f hm=>by have:=hf f hm; omega)
 have hb:((d.Files.length:Int))*1048576≤1048576*1048576:=Int.mul_le_mul_of_nonneg_right (by omega) (by omega)
 obtain ⟨t,e,rfl⟩:=uR (b:=zAD d) (fun i s=>s=(total (d.Files.take i),(i:Int))) d.Files.length (fun t=>t=total d.Files) (by
  rintro i s hi rfl
  unfold zAD
  rw [if_pos (by simp; omega)]
  have hsplit:total (d.Files.take (i+1))=total (d.Files.take i)+d.Files[i].Data.length :=by
   rw [List.take_succ_eq_append_getElem hi,zD0]
   simp [total]
  have hle:total d.Files=total (d.Files.take (i+1))+total (d.Files.drop (i+1)):=by rw [←zD0,List.take_append_drop]
  have h1:=zD2 (d.Files.take i)
  have h2:=zD2 (d.Files.drop (i+1))
  simp only [zL hi,Option.bind_some]
  rw [tH (by omega) (by omega),zP (by omega)]
  exact .inl ⟨_,rfl,by rw [hsplit]⟩) (by
  rintro s rfl
  unfold zAD
  rw [if_neg (by simp)]
  exact ⟨_,rfl,by simp⟩) d.Files.length 0 (0,0) (by omega) (by simp [total])
 simp only [zBi,zBk,e,Option.bind_some]
structure zI.good (d:zI):Prop where
 b0:0≤d.Budget
 b1:d.Budget≤20000
 w0:0≤d.Writes
 w1:d.Writes≤1000000000
 s0: -1≤d.Stop
 s1:d.Stop≤1000000000
 len:d.Files.length≤120
 path:∀f∈d.Files,zFs f.Path
 data:∀f∈d.Files,f.Data.length≤4000
 sorted:d.Files.Pairwise (fun f g=>slt f.Path g.Path=true)
 room:total d.Files≤d.Budget
theorem zFW (d:zI):zAa d=wC d:=by
 unfold zAa wC
 have:tX d=vT d:=by
  unfold tX vT
  refine zE5 fun i=>?_
  unfold zCn uN
  split
  ·cases hx:idx d.Files i with
   |none=>rfl
   |some x=>simp only [Option.bind_some,zHo]
  ·rfl
 rw [this]
 rfl
theorem zKF {xs:List File} (h:∀i,(hi:i+1<xs.length)→slt xs[i].Path xs[i+1].Path =true):xs.Pairwise (fun f g=>slt f.Path g.Path=true):=by
 induction xs with
 |nil=>exact .nil
 |cons x xs ih=>
  have h':∀i,(hi:i+1<xs.length)→slt xs[i].Path xs[i+1].Path =true:=fun i hi=>h (i+1) (by simp; omega)
  have ih':=ih h'
  refine .cons ?_ ih'
  cases xs with
  |nil=>simp
  |cons y ys=>
   have hxy:slt x.Path y.Path=true:=by simpa using h 0 (by simp)
   intro z hz
   rcases List.mem_cons.1 hz with rfl|hz
   ·exact hxy
   ·exact zC9 hxy ((List.pairwise_cons.1 ih').1 z hz)
theorem zFP (d:zI) (h:d.Files.length≤1048576):∃c,wC d=some c∧(c=0→d.good):=by
 unfold wC
 simp only [zNo,Option.bind_some]
 by_cases hB:0≤d.Budget∧d.Budget≤20000
 ·by_cases hW:0≤d.Writes∧d.Writes≤1000000000
  ·by_cases hS: -1≤d.Stop∧d.Stop≤1000000000
   ·simp [hB.1,hB.2,hW.1,hW.2,hS.1,hS.2]
    by_cases hl:120<d.Files.length
    ·rw [if_pos (by omega)]
     exact ⟨2,rfl,by simp⟩
    ·rw [if_neg (by omega)]
     obtain ⟨t,e,ht⟩:=uR (b:=uN d) (fun i s=>s=(i:Int)∧(∀j,(hj:j<d.Files.length)→j<i→zFs d.Files[j].Path ∧d.Files[j].Data.length ≤4000)∧∀j,(hj:j+1<d.Files.length)→j+1<i→slt d.Files[j].Path d.Files[j+1].Path =true) d.Files.length
      (fun t=>match t with| .ret r=>r≠0| .nxt _=>(∀f∈d.Files,zFs f.Path∧f.Data.length≤4000)∧d.Files.Pairwise (fun f g=>slt f.Path g.Path=true)) (by
      rintro i s hi ⟨rfl,h1,h2⟩
      unfold uN
      rw [if_pos (by simp; omega)]
      obtain ⟨r,hr,hr2⟩:=zFJ d.Files[i].Path
      simp only [zL hi,Option.bind_some,hr]
      by_cases hr0:r=0
      ·subst hr0
       rw [if_neg (by simp)]
       have key:∃q,(if decide ((i:Int)>0) then (idx d.Files (w64 ((i:Int)-1))).bind fun x39=>some (slt d.Files[i].Path x39.Path||seq d.Files[i].Path x39.Path) else some false)=some q∧(q=false→∀j,(hj:j+1<d.Files.length)→j+1<i+1→slt d.Files[j].Path d.Files[j+1].Path =true):=by
        by_cases hp:i=0
        ·subst hp
         exact ⟨false,by simp,fun _ j hj hji=>by omega⟩
        ·rw [if_pos (by simp; omega),tH (by omega) (by omega),show ((i:Int)-1)=((i-1:Nat):Int) by omega,zL (show i-1<d.Files.length by omega)]
         refine ⟨_,rfl,fun hq j hj hji=>?_⟩
         rcases Nat.lt_or_ge (j+1) i with hlt|hge
         ·exact h2 j hj hlt
         ·have hj1:j+1=i:=by omega
          subst hj1
          simp only [Bool.or_eq_false_iff] at hq
          have hq1:=hq.1
          have hq2:d.Files[j+1].Path ≠d.Files[j].Path :=fun e=>by
           have:=hq.2
           simp only [Nat.add_sub_cancel] at this
           rw [e] at this
           simp at this
          simp only [Nat.add_sub_cancel] at hq1
          exact zMt hq1 hq2
       obtain ⟨q,hq,hq2⟩:=key
       rw [hq]
       simp only [Option.bind_some]
       cases q with
       |true=>exact .inr ⟨_,rfl,by simp⟩
       |false=>
        by_cases hd:(d.Files[i].Data.length :Int)>4000
        ·exact .inr ⟨.ret 2,by rw [if_neg (by simp),if_pos (by simpa using hd)],by simp⟩
        ·refine .inl ⟨((i+1:Nat):Int),?_,rfl,fun j hj hji=>?_,hq2 rfl⟩
         ·rw [if_neg (by simp),if_neg (by simpa using hd),zP (by omega)]
         ·rcases Nat.lt_or_ge j i with h'|h'
          ·exact h1 j hj h'
          ·have:j=i:=by omega
           subst this
           exact ⟨hr2.1 rfl,by omega⟩
      ·rw [if_pos (by simpa using hr0)]
       exact .inr ⟨_,rfl,hr0⟩) (by
      rintro s ⟨rfl,h1,h2⟩
      unfold uN
      rw [if_neg (by simp)]
      refine ⟨_,rfl,fun f hf=>?_,zKF (fun i hi=>h2 i hi hi)⟩
      obtain ⟨j,hj,rfl⟩:=List.getElem_of_mem hf
      exact h1 j hj hj) d.Files.length 0 0 (by omega) ⟨rfl,fun j _ h=>by omega,fun j _ h=>by omega⟩
     simp only [vT,e,Option.bind_some]
     cases t with
     |ret r=>exact ⟨r,rfl,fun h=>absurd h ht⟩
     |nxt u=>
      simp only [Fl.go]
      rw [zJS d h (fun f hf=>by have:=(ht.1 f hf).2; omega)]
      simp only [Option.bind_some]
      by_cases hr:d.Budget<total d.Files
      ·rw [if_pos hr]
       exact ⟨8,rfl,by simp⟩
      ·rw [if_neg hr]
       exact ⟨0,rfl,fun _=>⟨hB.1,hB.2,hW.1,hW.2,hS.1,hS.2,by omega,fun f hf=>(ht.1 f hf).1,fun f hf=>(ht.1 f hf).2,ht.2,by omega⟩⟩
   ·refine ⟨3,?_,by simp⟩
    simp [hB.1,hB.2,hW.1,hW.2]
    intro a b
    exact absurd ⟨a,b⟩ hS
  ·refine ⟨3,?_,by simp⟩
   simp [hB.1,hB.2]
   rw [if_pos (by omega)]
   rfl
 ·refine ⟨3,?_,by simp⟩
  rw [if_pos (by simp; omega)]
  rfl
theorem zLc (s p:ByteArray):strings_HasPrefix s p=uZ s p:=by
 unfold strings_HasPrefix yV uZ
 split
 ·cases zFY s 0 (p.size:Int)<;>rfl
 ·rfl
def begins (s p:ByteArray):Bool:=decide (p.size≤s.size)&&seq (s.extract 0 p.size) p
theorem zIb (s p:ByteArray):uZ s p=some (begins s p):=by
 unfold uZ begins
 by_cases h:p.size≤s.size
 ·rw [if_pos (by simp; omega)]
  unfold zFY
  rw [if_pos (by omega)]
  simp [h]
 ·rw [if_neg (by simp; omega)]
  simp [h]
theorem zGl (d:zI) (p:ByteArray):wW d p=uE d p:=by
 have:uO d p=jN d p:=by
  unfold uO jN
  refine zE5 fun s=>?_
  unfold zCd jV
  split
  ·cases h:idx d.Files s.2 with
   |none=>rfl
   |some x=>simp only [Option.bind_some,zLc]
  ·rfl
 unfold wW uE
 rw [this]
def xK (fs:List File) (p:ByteArray):List ByteArray:=(fs.filter (fun f=>begins f.Path p)).map (·.Path)
theorem zFV (l r:List File) (p:ByteArray):xK (l++r) p=xK l p++xK r p:=by
 simp [xK]
theorem zAF (l:List File) (p:ByteArray):(xK l p).length ≤l.length:=by
 simp only [xK,List.length_map]
 exact List.length_filter_le _ _
theorem zE9 (d:zI) (p:ByteArray) (h:d.Files.length≤1048576):uE d p=some (xK d.Files p):=by
 obtain ⟨t,e,rfl⟩:=uR (b:=jV d p) (fun i s=>s=(xK (d.Files.take i) p,(i:Int))) d.Files.length (fun t=>t=xK d.Files p) (by
  rintro i s hi rfl
  unfold jV
  rw [if_pos (by simp; omega)]
  have hl:=zAF (d.Files.take i) p
  have hl2:(d.Files.take i).length ≤i:=by simp; omega
  have ha:∀x:ByteArray,app 16 (xK (d.Files.take i) p) [x]=some (xK (d.Files.take i) p++[x]):=fun x=>zAG (by simp; omega) (by simp; omega)
  have hsplit:xK (d.Files.take (i+1)) p=xK (d.Files.take i) p++xK [d.Files[i]] p:=by
   rw [List.take_succ_eq_append_getElem hi,zFV]
  simp only [zL hi,Option.bind_some,zIb,ha,zP (show i<9223372036854775807 by omega)]
  cases hb:begins d.Files[i].Path p with
  |true=>exact .inl ⟨_,rfl,by rw [hsplit]; simp [xK,hb]⟩
  |false=>exact .inl ⟨_,rfl,by rw [hsplit]; simp [xK,hb]⟩) (by
  rintro s rfl
  unfold jV
  rw [if_neg (by simp)]
  exact ⟨_,rfl,by simp⟩) d.Files.length 0 ([],0) (by omega) (by simp [xK])
 simp only [uE,jN,e,Option.bind_some]
theorem zGK:∀(a b:List UInt8),(Lib.compareBytes a b<0↔Op.bytesLess a b=true)∧(Lib.compareBytes a b=0↔a=b)
 |[],[]=>by simp [Lib.compareBytes,Op.bytesLess]
 |[],_::_=>by simp [Lib.compareBytes,Op.bytesLess]
 |_::_,[]=>by simp [Lib.compareBytes,Op.bytesLess]
 |x::a,y::b=>by
  obtain ⟨ih1,ih2⟩:=zGK a b
  simp only [Lib.compareBytes,Op.bytesLess]
  by_cases h1:x<y
  ·simp [h1]
   intro e; subst e; exact absurd h1 (by simp [UInt8.lt_irrefl])
  ·by_cases h2:y<x
   ·simp [h1,h2]
    have hne:x≠y:=fun e=>by subst e; exact absurd h2 (by simp [UInt8.lt_irrefl])
    simp [hne]
   ·have e:x=y:=by
     rw [UInt8.lt_iff_toNat_lt] at h1 h2
     exact UInt8.toNat_inj.1 (by omega)
    subst e
    simp [UInt8.lt_irrefl,ih1,ih2]
theorem zIw (a b:ByteArray):zLH a b<0↔slt a b=true:=by
 unfold zLH slt
 rw [ByteArray.toList_eq,ByteArray.toList_eq]
 exact (zGK _ _).1
theorem zK7 (a b:ByteArray):zLH a b=0↔a=b:=by
 unfold zLH
 rw [(zGK _ _).2,←ByteArray.toList_eq,←ByteArray.toList_eq]
 exact ⟨toList_inj,fun e=>by rw [e]⟩
theorem zMA {i j:Int} (h0:0≤i) (h1:i≤j) (h2:j≤4611686018427387903):w64 ((IntKind.u64.wrap (w64 (i+j))).fdiv (2^(min (1:Int).toNat 64)))=(i+j) / 2:=by
 rw [tH (x:=i+j) (by omega) (by omega)]
 have e1:IntKind.u64.wrap (i+j)=i+j:=by
  simp only [IntKind.wrap,IntKind.signed,IntKind.bits]
  simp
  omega
 rw [e1]
 have e2:((2:Int)^(min (1:Int).toNat 64))=2:=by decide
 rw [e2,Int.fdiv_eq_ediv_of_nonneg _ (by omega)]
 exact tH (by omega) (by omega)
theorem zGi (f:File) (p:ByteArray):wO f p=some (zLH f.Path p):=rfl
theorem zJW (fs:List File) (p:ByteArray) (h:fs.length≤1048576):
  ∃(k:Nat) (b:Bool),zF fs p=some ((k:Int),b)∧k≤fs.length∧(b=true→∃hk:k<fs.length,fs[k].Path =p)∧
   (fs.Pairwise (fun f g=>slt f.Path g.Path=true)→(∀i,(hi:i<fs.length)→i<k→slt fs[i].Path p=true)∧(∀i,(hi:i<fs.length)→k≤i→slt fs[i].Path p=false)∧(b=false→∀f∈fs,f.Path≠p)):=by
 obtain ⟨t,e,k,rfl,hk,hs⟩:=zH4 (b:=yA fs p)
  (fun s=>∃i j:Nat,s=((i:Int),(j:Int))∧i≤j∧j≤fs.length∧(fs.Pairwise (fun f g=>slt f.Path g.Path=true)→(∀q,(hq:q<fs.length)→q<i→slt fs[q].Path p=true)∧(∀q,(hq:q<fs.length)→j≤q→slt fs[q].Path p=false)))
  (fun s=>(s.2-s.1).toNat)
  (fun t=>∃k:Nat,t=(k:Int)∧k≤fs.length∧(fs.Pairwise (fun f g=>slt f.Path g.Path=true)→(∀q,(hq:q<fs.length)→q<k→slt fs[q].Path p=true)∧(∀q,(hq:q<fs.length)→k≤q→slt fs[q].Path p=false))) (by
  rintro s ⟨i,j,rfl,hij,hj,hP⟩
  unfold yA
  by_cases hlt:i<j
  ·left
   rw [if_pos (by simp; omega)]
   simp only
   rw [zMA (by omega) (by omega) (by omega)]
   have hm:(((i:Int)+(j:Int)) / 2)=(((i+j) / 2:Nat):Int):=by omega
   rw [hm]
   have hmj:(i+j) / 2<j:=by omega
   have him:i≤(i+j) / 2:=by omega
   generalize (i+j) / 2=m at*
   have hmn:m<fs.length:=by omega
   simp only [zL hmn,Option.bind_some,zGi]
   by_cases hc:zLH fs[m].Path p<0
   ·rw [if_pos (by simpa using hc),zP (by omega)]
    refine ⟨_,rfl,⟨m+1,j,rfl,by omega,hj,fun hso=>?_⟩,by simp; omega⟩
    obtain ⟨g1,g2⟩:=hP hso
    refine ⟨fun q hq hqm=>?_,g2⟩
    have hl:=(zIw _ _).1 hc
    rcases Nat.lt_or_ge q m with h'|h'
    ·exact zC9 (List.pairwise_iff_getElem.1 hso q m hq hmn h') hl
    ·have:q=m:=by omega
     subst this; exact hl
   ·rw [if_neg (by simpa using hc)]
    refine ⟨_,rfl,⟨i,m,rfl,by omega,by omega,fun hso=>?_⟩,by simp; omega⟩
    obtain ⟨g1,g2⟩:=hP hso
    refine ⟨g1,fun q hq hmq=>?_⟩
    have hl:slt fs[m].Path p=false:=by
     cases h':slt fs[m].Path p with
     |false=>rfl
     |true=>exact absurd ((zIw _ _).2 h') hc
    rcases Nat.lt_or_ge m q with h'|h'
    ·cases hq2:slt fs[q].Path p with
     |false=>rfl
     |true=>
      have:=zC9 (List.pairwise_iff_getElem.1 hso m q hmn hq h') hq2
      rw [hl] at this; cases this
    ·have:q=m:=by omega
     subst this; exact hl
  ·right
   rw [if_neg (by simp; omega)]
   have:i=j:=by omega
   subst this
   exact ⟨_,rfl,i,rfl,by omega,hP⟩) fs.length (0,(fs.length:Int)) (by simp) ⟨0,fs.length,rfl,by omega,by omega,fun _=>⟨fun q _ h=>by omega,fun q hq h=>by omega⟩⟩
 unfold zF
 rw [show zQ fs p (0,(fs.length:Int))=some (k:Int) from e]
 simp only [Option.bind_some]
 by_cases hkn:k<fs.length
 ·rw [if_pos (by simpa using hkn)]
  simp only [zL hkn,Option.bind_some,zGi]
  refine ⟨k,_,rfl,hk,fun hb=>⟨hkn,(zK7 _ _).1 (by simpa using hb)⟩,fun hso=>⟨(hs hso).1,(hs hso).2,fun hb f hf hfp=>?_⟩⟩
  have hne:zLH fs[k].Path p≠0:=by simpa using hb
  obtain ⟨q,hq,rfl⟩:=List.getElem_of_mem hf
  rcases Nat.lt_trichotomy q k with h'|h'|h'
  ·have:=(hs hso).1 q hq h'
   rw [hfp,zC6] at this; cases this
  ·subst h'; exact hne ((zK7 _ _).2 hfp)
  ·have h1:=List.pairwise_iff_getElem.1 hso k q hkn hq h'
   have h2:=(hs hso).2 k hkn (Nat.le_refl _)
   rw [hfp] at h1
   rw [h1] at h2; cases h2
 ·rw [if_neg (by simpa using hkn)]
  refine ⟨k,false,rfl,hk,(fun hb=>by cases hb),fun hso=>⟨(hs hso).1,(hs hso).2,fun _ f hf hfp=>?_⟩⟩
  obtain ⟨q,hq,rfl⟩:=List.getElem_of_mem hf
  have:=(hs hso).1 q hq (by omega)
  rw [hfp,zC6] at this; cases this
theorem zIq (d:zI) (p:ByteArray) (h:d.Files.length≤1048576):
  (∃k:Nat,∃hk:k<d.Files.length,xA d p=some (k:Int)∧d.Files[k].Path =p)∨(xA d p=some (-1)∧∀f∈d.Files,f.Path≠p):=by
 obtain ⟨t,e,ht⟩:=uR (b:=zAX d p) (fun i s=>s=(i:Int)∧∀q,(hq:q<d.Files.length)→q<i→d.Files[q].Path ≠p) d.Files.length
  (fun t=>match t with| .ret r=>∃k:Nat,∃hk:k<d.Files.length,r=(k:Int)∧d.Files[k].Path =p| .nxt _=>∀f∈d.Files,f.Path≠p) (by
  rintro i s hi ⟨rfl,hq⟩
  unfold zAX
  rw [if_pos (by simp; omega)]
  simp only [zL hi,Option.bind_some]
  by_cases hp:d.Files[i].Path =p
  ·rw [if_pos (zE7.2 hp)]
   exact .inr ⟨_,rfl,i,hi,rfl,hp⟩
  ·rw [if_neg (fun h'=>hp (zE7.1 h')),zP (by omega)]
   refine .inl ⟨_,rfl,rfl,fun q hq' hqi=>?_⟩
   rcases Nat.lt_or_ge q i with h'|h'
   ·exact hq q hq' h'
   ·have:q=i:=by omega
    subst this; exact hp) (by
  rintro s ⟨rfl,hq⟩
  unfold zAX
  rw [if_neg (by simp)]
  refine ⟨_,rfl,fun f hf=>?_⟩
  obtain ⟨q,hq',rfl⟩:=List.getElem_of_mem hf
  exact hq q hq' hq') d.Files.length 0 0 (by omega) ⟨rfl,fun q _ h=>by omega⟩
 unfold xA
 rw [show zBF d p 0=some t from e]
 cases t with
 |ret r=>
  obtain ⟨k,hk,rfl,hp⟩:=ht
  exact .inl ⟨k,hk,rfl,hp⟩
 |nxt _=>exact .inr ⟨rfl,ht⟩
theorem zGj {fs:List File} (hs:fs.Pairwise (fun f g=>slt f.Path g.Path=true)) {i j:Nat} (hi:i<fs.length) (hj:j<fs.length) (h:fs[i].Path =fs[j].Path):i=j:=by
 rcases Nat.lt_trichotomy i j with h'|h'|h'
 ·have:=List.pairwise_iff_getElem.1 hs i j hi hj h'
  rw [h,zC6] at this; cases this
 ·exact h'
 ·have:=List.pairwise_iff_getElem.1 hs j i hj hi h'
  rw [h,zC6] at this; cases this
theorem zJK (d:zI) (p:ByteArray) (hl0:d.Files.length≤120) (hso:d.Files.Pairwise (fun f g=>slt f.Path g.Path=true)):
  (∃k:Nat,∃hk:k<d.Files.length,xA d p=some (k:Int)∧zF d.Files p=some ((k:Int),true)∧d.Files[k].Path =p)∨
   (xA d p=some (-1)∧(∀f∈d.Files,f.Path≠p)∧∃k:Nat,zF d.Files p=some ((k:Int),false)∧k≤d.Files.length∧(∀i,(hi:i<d.Files.length)→i<k→slt d.Files[i].Path p=true)∧(∀i,(hi:i<d.Files.length)→k≤i→slt d.Files[i].Path p=false)):=by
 have hl:d.Files.length≤1048576:=by omega
 obtain ⟨k,b,e,hk,h1,h2⟩:=zJW d.Files p hl
 obtain ⟨g1,g2,g3⟩:=h2 hso
 rcases zIq d p hl with ⟨q,hq,e2,hp⟩|⟨e2,hp⟩
 ·left
  cases b with
  |false=>exact absurd hp (g3 rfl _ (List.getElem_mem hq))
  |true=>
   obtain ⟨hk',hp'⟩:=h1 rfl
   have:q=k:=zGj hso hq hk' (by rw [hp,hp'])
   subst this
   exact ⟨q,hq,e2,e,hp⟩
 ·right
  cases b with
  |true=>
   obtain ⟨hk',hp'⟩:=h1 rfl
   exact absurd hp' (hp _ (List.getElem_mem hk'))
  |false=>exact ⟨e2,hp,k,e,hk,g1,g2⟩
theorem zJt (d:zI) (p:ByteArray) (hl0:d.Files.length≤120) (hso:d.Files.Pairwise (fun f g=>slt f.Path g.Path=true)):
  (∃k:Nat,∃hk:k<d.Files.length,xA d p=some (k:Int)∧yN d p=some (d.Files[k].Data,true)∧d.Files[k].Path =p)∨
   (xA d p=some (-1)∧yN d p=some ([],false)∧∀f∈d.Files,f.Path≠p):=by
 rcases zJK d p hl0 hso with ⟨k,hk,e1,e2,hp⟩|⟨e1,hp,k,e2,_⟩
 ·left
  refine ⟨k,hk,e1,?_,hp⟩
  unfold yN jK
  rw [e2]
  simp only [Option.bind_some,Bool.not_true,Bool.false_eq_true,if_false,zL hk]
 ·right
  refine ⟨e1,?_,hp⟩
  unfold yN jK
  rw [e2]
  rfl
theorem zFg (d:zI) (p:ByteArray) (hg:d.good):
 (∃k:Nat,∃hk:k<d.Files.length,xA d p=some (k:Int)∧yN d p=some (d.Files[k].Data,true)∧d.Files[k].Path =p)∨
  (xA d p=some (-1)∧yN d p=some ([],false)∧∀f∈d.Files,f.Path≠p):=zJt d p hg.len hg.sorted
theorem zEZ {P:List Int→Prop} (h0:P []) (h1:∀l c,P l→P (l++[c])) (l:List Int):P l:=by
 have key:∀m:List Int,P m.reverse:=by
  intro m
  induction m with
  |nil=>exact h0
  |cons c m ih=>rw [List.reverse_cons]; exact h1 _ c ih
 have:=key l.reverse
 rwa [List.reverse_reverse] at this
def zEw (c:Int):Bool:=decide (c≥48)&&decide (c≤57)
def val (l:List Int):Int:=l.foldl (fun a c=>a*10+(c-48)) 0
theorem zD9 (l:List Int) (c:Int):val (l++[c])=val l*10+(c-48):=by simp [val]
theorem zCB {l:List Int} (h:∀c∈l,zEw c=true):0≤val l∧val l<10^l.length:=by
 revert h
 refine zEZ (P:=fun l=>(∀c∈l,zEw c=true)→0≤val l∧val l<10^l.length) ?_ ?_ l
 ·intro _; simp [val]
 ·intro l c ih h
  obtain ⟨h1,h2⟩:=ih (fun x hx=>h x (by simp [hx]))
  have hc:=h c (by simp)
  simp only [zEw,Bool.and_eq_true,decide_eq_true_eq] at hc
  rw [zD9,List.length_append,List.length_singleton,Int.pow_succ]
  omega
def zGa (l:List Int) (most:Int):Option Int:=if l.length<1∨(l.length:Int)>most∨¬(∀c∈l,zEw c=true) then none else some (val l)
theorem zIT {n:Nat} (h:n≤17):(10:Int)^n≤100000000000000000:=by
 have:(10:Nat)^n≤10^17:=Nat.pow_le_pow_right (by omega) h
 have e:((10^n:Nat):Int)=(10:Int)^n:=by simp
 rw [←e]
 omega
theorem zFj (c:Int):wQ c=some (zEw c):=by
 unfold wQ zEw
 cases decide (c≥48)<;>rfl
theorem zDU (s:ByteArray) (most:Int) (hm:most≤17):wY s most=some (match zGa (bl s) most with|some n=>(n,true)|none=>(0,false)):=by
 unfold wY zGa
 have hl:=yK s
 by_cases h1:s.size<1
 ·rw [if_pos (by simp; omega),if_pos (by omega)]
  rfl
 ·rw [if_neg (by simp; omega)]
  simp only [Option.bind_some]
  by_cases h2:(s.size:Int)>most
  ·rw [if_pos (by simpa using h2),if_pos (by omega)]
  ·rw [if_neg (by simpa using h2)]
   obtain ⟨t,e,ht⟩:=uR (b:=zAk s) (fun i q=>q=(val ((bl s).take i),(i:Int))∧∀c∈(bl s).take i,zEw c=true) (bl s).length
    (fun t=>match t with| .ret r=>r=(0,false)∧¬ ∀c∈bl s,zEw c=true| .nxt v=>v=val (bl s)∧∀c∈bl s,zEw c=true) (by
    rintro i q hi ⟨rfl,hd⟩
    have hb:=zCB hd
    have hlen:((bl s).take i).length ≤17:=by simp; omega
    have hp:=zIT hlen
    have hr:=zGS _ (List.getElem_mem hi)
    unfold zAk
    rw [if_pos (by simp; omega)]
    simp only [zDr hi,Option.bind_some,zFj]
    cases hc:zEw (bl s)[i] with
    |false=>exact .inr ⟨_,rfl,rfl,fun h=>by have:=h _ (List.getElem_mem hi); rw [hc] at this; cases this⟩
    |true=>
     have hc':=hc
     simp only [zEw,Bool.and_eq_true,decide_eq_true_eq] at hc'
     rw [wrap_u8 (by omega) (by omega),tH (x:=(bl s)[i]-48) (by omega) (by omega),tH (x:=val ((bl s).take i)*10) (by omega) (by omega),tH (by omega) (by omega),zP (by omega)]
     refine .inl ⟨_,rfl,by rw [List.take_succ_eq_append_getElem hi,zD9],fun c hcm=>?_⟩
     rw [List.take_succ_eq_append_getElem hi] at hcm
     rcases List.mem_append.1 hcm with h|h
     ·exact hd c h
     ·simp at h; rw [h]; exact hc) (by
    rintro q ⟨rfl,hd⟩
    unfold zAk
    rw [if_neg (by simp; omega)]
    rw [List.take_length] at hd ⊢
    exact ⟨_,rfl,rfl,hd⟩) (bl s).length 0 (0,0) (by omega) ⟨by simp [val],by simp⟩
   unfold zA1
   rw [e]
   cases t with
   |ret r=>
    obtain ⟨rfl,h⟩:=ht
    rw [if_pos (.inr (.inr h))]
    rfl
   |nxt v=>
    obtain ⟨rfl,h⟩:=ht
    rw [if_neg (fun h'=>by rcases h' with h'|h'|h'<;>first|omega|exact h' h)]
    rfl
theorem number_eq (s:ByteArray) (most:Int) (hm:most≤17):jG s most=some (match zGa (bl s) most with|some n=>n|none=> -1):=by
 unfold jG zGa
 have hl:=yK s
 have he:seq s (bs [])=decide (s.size<1):=by
  rw [zLZ,zIa,List.map_nil]
  rw [Bool.eq_iff_iff]
  simp only [decide_eq_true_eq]
  constructor
  ·intro h; rw [h] at hl; simp at hl; omega
  ·intro h; exact List.eq_nil_of_length_eq_zero (by omega)
 rw [he]
 by_cases h1:s.size<1
 ·rw [if_pos (by simpa using h1),if_pos (by omega)]
  rfl
 ·rw [if_neg (by simpa using h1)]
  simp only [Option.bind_some]
  by_cases h2:(s.size:Int)>most
  ·rw [if_pos (by simpa using h2),if_pos (by omega)]
  ·rw [if_neg (by simpa using h2)]
   obtain ⟨t,e,ht⟩:=uR (b:=zAO s) (fun i q=>q=(val ((bl s).take i),(i:Int))∧∀c∈(bl s).take i,zEw c=true) (bl s).length
    (fun t=>match t with| .ret r=>r= -1∧¬ ∀c∈bl s,zEw c=true| .nxt v=>v=val (bl s)∧∀c∈bl s,zEw c=true) (by
    rintro i q hi ⟨rfl,hd⟩
    have hb:=zCB hd
    have hlen:((bl s).take i).length ≤17:=by simp; omega
    have hp:=zIT hlen
    have hr:=zGS _ (List.getElem_mem hi)
    unfold zAO
    rw [if_pos (by simp; omega)]
    simp only [zDr hi,Option.bind_some]
    have hq:(if decide ((bl s)[i]<48)=true then some true else some (decide ((bl s)[i]>57)))=some (!zEw (bl s)[i]):=by
     unfold zEw
     by_cases a:(bl s)[i]<48
     ·have b:¬((bl s)[i]≥48):=by omega
      simp [a,b]
     ·have b:(bl s)[i]≥48:=by omega
      by_cases c:(bl s)[i]>57
      ·have d:¬((bl s)[i]≤57):=by omega
       simp [a,b,c,d]
      ·have d:(bl s)[i]≤57:=by omega
       simp [a,b,c,d]
    rw [hq]
    simp only [Option.bind_some]
    cases hc:zEw (bl s)[i] with
    |false=>exact .inr ⟨_,rfl,rfl,fun h=>by have:=h _ (List.getElem_mem hi); rw [hc] at this; cases this⟩
    |true=>
     have hc':=hc
     simp only [zEw,Bool.and_eq_true,decide_eq_true_eq] at hc'
     rw [wrap_u8 (by omega) (by omega),tH (x:=(bl s)[i]-48) (by omega) (by omega),tH (x:=10*val ((bl s).take i)) (by omega) (by omega),tH (by omega) (by omega),zP (by omega)]
     refine .inl ⟨_,rfl,by rw [List.take_succ_eq_append_getElem hi,zD9,Int.mul_comm],fun c hcm=>?_⟩
     rw [List.take_succ_eq_append_getElem hi] at hcm
     rcases List.mem_append.1 hcm with h|h
     ·exact hd c h
     ·simp at h; rw [h]; exact hc) (by
    rintro q ⟨rfl,hd⟩
    unfold zAO
    rw [if_neg (by simp; omega)]
    rw [List.take_length] at hd ⊢
    exact ⟨_,rfl,rfl,hd⟩) (bl s).length 0 (0,0) (by omega) ⟨by simp [val],by simp⟩
   unfold zBG
   rw [e]
   cases t with
   |ret r=>
    obtain ⟨rfl,h⟩:=ht
    rw [if_pos (.inr (.inr h))]
    rfl
   |nxt v=>
    obtain ⟨rfl,h⟩:=ht
    rw [if_neg (fun h'=>by rcases h' with h'|h'|h'<;>first|omega|exact h' h)]
    rfl
theorem zLp {l:List Int} (h:∀c∈l,zEw c=true):zDK (10^l.length+(val l).toNat)=49::l:=by
 revert h
 refine zEZ (P:=fun l=>(∀c∈l,zEw c=true)→zDK (10^l.length+(val l).toNat)=49::l) ?_ ?_ l
 ·intro _; rw [zAl (by decide)]; rfl
 ·intro l c ih h
  have hl:∀c∈l,zEw c=true:=fun x hx=>h x (by simp [hx])
  have hb:=zCB hl
  have hc:=h c (by simp)
  simp only [zEw,Bool.and_eq_true,decide_eq_true_eq] at hc
  have e1:(val (l++[c])).toNat =(val l).toNat *10+(c-48).toNat :=by rw [zD9]; omega
  have e2:10^(l++[c]).length =10^l.length*10:=by rw [List.length_append,List.length_singleton,Nat.pow_succ]
  have hp:1≤10^l.length:=Nat.one_le_pow _ _ (by omega)
  rw [e1,e2,zCJ (by omega)]
  have e3:(10^l.length*10+((val l).toNat *10+(c-48).toNat)) / 10=10^l.length+(val l).toNat :=by omega
  have e4:(10^l.length*10+((val l).toNat *10+(c-48).toNat))%10=(c-48).toNat :=by omega
  rw [e3,e4,ih hl,List.cons_append]
  congr 3
  omega
def zMd:List Int:=[103,101,110,47]
theorem zHA:bl (bs [103,101,110,47])=zMd:=zIa _
theorem zJ7 (n:Int):∃s,xZ n=some s∧bl s=(if 1≤n∧n≤999999 then zMd++(zDK (1000000+n.toNat)).drop 1 else []):=by
 unfold xZ
 rw [zNo]
 simp only [Option.bind_some]
 by_cases h:1≤n∧n≤999999
 ·rw [if_pos h]
  have hb:(decide (n≥1)&&decide (n≤999999))=true:=by simp; omega
  rw [hb]
  rw [tH (by omega) (by omega),show (1000000:Int)+n=((1000000+n.toNat:Nat):Int) by omega]
  obtain ⟨s,e,hs⟩:=zDI (1000000+n.toNat) (by omega)
  have hlen:(zDK (1000000+n.toNat)).length =7:=zDW 6 _ (by omega) (by omega)
  have hsz:s.size=7:=by rw [←yK,hs,hlen]
  rw [e]
  simp only [Bool.not_true,Bool.false_eq_true,if_false,Option.bind_some]
  unfold zFY
  rw [if_pos (by omega)]
  simp only [Option.bind_some]
  have hx:(s.extract (1:Int).toNat ((s.size:Int)).toNat).size =6:=by
   rw [←yK,zCh,List.length_take,List.length_drop,hs,hlen,hsz]
   rfl
  unfold cat
  rw [if_pos (by have:(bs [103,101,110,47]).size =4:=rfl; omega)]
  refine ⟨_,rfl,?_⟩
  rw [zC8,zHA,zCh,hs]
  congr 1
  rw [List.take_of_length_le (by rw [List.length_drop,hlen,hsz]; decide)]
  rfl
 ·rw [if_neg h]
  have hb:(decide (n≥1)&&decide (n≤999999))=false:=by
   simp only [Bool.and_eq_false_iff,decide_eq_false_iff_not]; omega
  rw [hb]
  exact ⟨_,rfl,zIa _⟩
def zCk (l:List Int):Option Int:=match zGa (l.drop 4) 6 with
 |some n=>if n≥1∧l.length=10 then some n else none
 |none=>none
theorem zKV {l:List Int} (hp:l.take 4=zMd) (hl:4≤l.length) {n:Int} (h:zGa (l.drop 4) 6=some n):
  (if 1≤n∧n≤999999 then zMd++(zDK (1000000+n.toNat)).drop 1 else [])=l↔(n≥1∧l.length=10):=by
 unfold zGa at h
 split at h
 ·cases h
 ·rename_i hc
  cases h
  have hc1:1≤(l.drop 4).length :=by omega
  have hc2:(l.drop 4).length ≤6:=by omega
  have hd:∀c∈l.drop 4,zEw c=true:=Classical.byContradiction fun h=>hc (.inr (.inr h))
  have hb:=zCB hd
  have hle:val (l.drop 4)≤999999:=by
   have:(10:Nat)^(l.drop 4).length ≤10^6:=Nat.pow_le_pow_right (by omega) hc2
   have e:(((10:Nat)^(l.drop 4).length :Nat):Int)=(10:Int)^(l.drop 4).length :=by simp
   omega
  have hll:l.length=4+(l.drop 4).length :=by simp; omega
  by_cases hn:1≤val (l.drop 4)
  ·rw [if_pos ⟨hn,hle⟩]
   constructor
   ·intro e
    refine ⟨hn,?_⟩
    rw [←e,List.length_append,List.length_drop,zDW 6 _ (by omega) (by omega)]
    rfl
   ·rintro ⟨_,h10⟩
    have h6:(l.drop 4).length =6:=by omega
    have key:=zLp hd
    rw [h6,show (10:Nat)^6=1000000 from rfl] at key
    rw [key,←hp]
    simp
  ·rw [if_neg (by omega)]
   constructor
   ·intro e
    rw [←e] at hll
    simp at hll
   ·rintro ⟨h',_⟩; omega
theorem zCY {s p:ByteArray} (h:begins s p=true):(bl s).take (bl p).length =bl p∧(bl p).length ≤(bl s).length :=by
 unfold begins at h
 simp only [Bool.and_eq_true,decide_eq_true_eq] at h
 have:=zE7.1 h.2
 refine ⟨?_,by rw [yK,yK]; exact h.1⟩
 have e:=congrArg bl this
 rw [zCh] at e
 simpa [yK] using e
theorem zC1 {fs:List File} {p:ByteArray}:∀s∈xK fs p,begins s p=true:=by
 intro s hs
 unfold xK at hs
 obtain ⟨f,hf,rfl⟩:=List.mem_map.1 hs
 exact (List.mem_filter.1 hf).2
def jP (fs:List File):List Int:=(xK fs (bs [103,101,110,47])).filterMap (fun p=>zCk (bl p))
theorem zFv {ps:List ByteArray} (h:∀s∈ps,begins s (bs [103,101,110,47])=true) {i:Nat} (hi:i<ps.length):(bl ps[i]).take 4=zMd∧4≤(bl ps[i]).length :=by
 have:=zCY (h _ (List.getElem_mem hi))
 rw [zHA] at this
 exact this
theorem zHI {s:ByteArray} {k:Nat} (h:k≤s.size):∃t,zFY s (k:Int) (s.size:Int)=some t∧bl t=(bl s).drop k:=by
 unfold zFY
 rw [if_pos (by omega)]
 refine ⟨_,rfl,?_⟩
 rw [zCh]
 simp only [Int.toNat_natCast]
 rw [List.take_of_length_le (by rw [List.length_drop,yK]; exact Nat.le_refl _)]
theorem zJZ {f:ByteArray→Option Int}:∀(l:List ByteArray),(l.filterMap f).length ≤l.length:=fun l=>List.length_filterMap_le f l
theorem zDz (d:zI) (h:d.Files.length≤1048576):vN d=some (jP d.Files):=by
 unfold vN jP
 rw [zE9 d _ h]
 simp only [Option.bind_some]
 have hm:=zC1 (fs:=d.Files) (p:=bs [103,101,110,47])
 have hlen:=zAF d.Files (bs [103,101,110,47])
 generalize xK d.Files (bs [103,101,110,47])=ps at*
 obtain ⟨t,e,rfl⟩:=uR (b:=zBt d ps) (fun i s=>s=((ps.take i).filterMap (fun p=>zCk (bl p)),(i:Int))) ps.length (fun t=>t=ps.filterMap (fun p=>zCk (bl p))) (by
  rintro i s hi rfl
  obtain ⟨hp,h4⟩:=zFv hm hi
  have hsz:4≤ps[i].size :=by rw [←yK]; exact h4
  obtain ⟨u,hu,hub⟩:=zHI (s:=ps[i]) (k:=4) hsz
  have hu':zFY ps[i] 4 (ps[i].size :Int)=some u:=hu
  have hfl:=zJZ (f:=fun p=>zCk (bl p)) (ps.take i)
  have hil:(ps.take i).length ≤i:=by simp; omega
  have ha:∀x:Int,app 8 ((ps.take i).filterMap (fun p=>zCk (bl p))) [x]=some ((ps.take i).filterMap (fun p=>zCk (bl p))++[x]):=fun x=>zAG (by simp; omega) (by simp; omega)
  have hsplit:(ps.take (i+1)).filterMap (fun p=>zCk (bl p))=(ps.take i).filterMap (fun p=>zCk (bl p))++[ps[i]].filterMap (fun p=>zCk (bl p)):=by
   rw [List.take_succ_eq_append_getElem hi,List.filterMap_append]
  unfold zBt
  rw [if_pos (by simp; omega)]
  simp only [zL hi,Option.bind_some,hu',zDU u 6 (by omega),hub,zP (show i<9223372036854775807 by omega)]
  left
  cases hn:zGa ((bl ps[i]).drop 4) 6 with
  |none=>
   refine ⟨_,rfl,?_⟩
   rw [hsplit]
   simp [zCk,hn]
  |some n=>
   obtain ⟨g,hg,hgb⟩:=zJ7 n
   have hiff:=zKV hp h4 hn
   rw [←hgb] at hiff
   simp only [if_true,hg,Option.bind_some]
   rw [zLZ]
   by_cases hc:n≥1∧(bl ps[i]).length =10
   ·rw [decide_eq_true (hiff.2 hc)]
    simp only [Option.bind_some,if_true,ha]
    refine ⟨_,rfl,?_⟩
    rw [hsplit]
    simp [zCk,hn,hc]
   ·rw [decide_eq_false (fun e=>hc (hiff.1 e))]
    refine ⟨_,rfl,?_⟩
    rw [hsplit]
    simp only [List.filterMap_cons,zCk,hn,if_neg hc,List.filterMap_nil,List.append_nil]) (by
  rintro s rfl
  unfold zBt
  rw [if_neg (by simp)]
  exact ⟨_,rfl,by simp⟩) ps.length 0 ([],0) (by omega) (by simp)
 simp only [zB8,e,Option.bind_some]
theorem zGY (d:zI) (h:d.Files.length≤1048576):xP d=some (jP d.Files):=by
 unfold xP jP
 rw [zGl,zE9 d _ h]
 simp only [Option.bind_some]
 have hm:=zC1 (fs:=d.Files) (p:=bs [103,101,110,47])
 have hlen:=zAF d.Files (bs [103,101,110,47])
 generalize xK d.Files (bs [103,101,110,47])=ps at*
 obtain ⟨t,e,rfl⟩:=uR (b:=kG ps) (fun i s=>s=((ps.take i).filterMap (fun p=>zCk (bl p)),(i:Int))) ps.length (fun t=>t=ps.filterMap (fun p=>zCk (bl p))) (by
  rintro i s hi rfl
  obtain ⟨hp,h4⟩:=zFv hm hi
  have hsz:4≤ps[i].size :=by rw [←yK]; exact h4
  obtain ⟨u,hu,hub⟩:=zHI (s:=ps[i]) (k:=4) hsz
  have hu':zFY ps[i] 4 (ps[i].size :Int)=some u:=hu
  have hfl:=zJZ (f:=fun p=>zCk (bl p)) (ps.take i)
  have hil:(ps.take i).length ≤i:=by simp; omega
  have ha:∀x:Int,app 8 ((ps.take i).filterMap (fun p=>zCk (bl p))) [x]=some ((ps.take i).filterMap (fun p=>zCk (bl p))++[x]):=fun x=>zAG (by simp; omega) (by simp; omega)
  have hsplit:(ps.take (i+1)).filterMap (fun p=>zCk (bl p))=(ps.take i).filterMap (fun p=>zCk (bl p))++[ps[i]].filterMap (fun p=>zCk (bl p)):=by
   rw [List.take_succ_eq_append_getElem hi,List.filterMap_append]
  unfold kG
  rw [if_pos (by simp; omega)]
  simp only [zL hi,Option.bind_some,hu',number_eq u 6 (by omega),hub,zP (show i<9223372036854775807 by omega)]
  left
  cases hn:zGa ((bl ps[i]).drop 4) 6 with
  |none=>
   refine ⟨_,rfl,?_⟩
   rw [hsplit]
   simp [zCk,hn]
  |some n=>
   have hbl:((ps[i].size :Int)==10)=decide ((bl ps[i]).length =10):=by
    rw [yK,Bool.eq_iff_iff]; simp; omega
   simp only [hbl]
   by_cases h1:n≥1
   ·rw [if_pos (by simpa using h1)]
    by_cases h2:(bl ps[i]).length =10
    ·rw [decide_eq_true h2]
     simp only [Option.bind_some,if_true,ha]
     refine ⟨_,rfl,?_⟩
     rw [hsplit]
     simp [zCk,hn,h1,h2]
    ·rw [decide_eq_false h2]
     refine ⟨_,rfl,?_⟩
     rw [hsplit]
     simp [zCk,hn,h2]
   ·rw [if_neg (by simpa using h1)]
    refine ⟨_,rfl,?_⟩
    rw [hsplit]
    simp only [List.filterMap_cons,zCk,hn,if_neg (fun h':n≥1∧(bl ps[i]).length =10=>h1 h'.1),List.filterMap_nil,List.append_nil]) (by
  rintro s rfl
  unfold kG
  rw [if_neg (by simp)]
  exact ⟨_,rfl,by simp⟩) ps.length 0 ([],0) (by omega) (by simp)
 simp only [zAo,e,Option.bind_some]
theorem zB1 (fs:List File):(jP fs).length ≤fs.length:=by
 unfold jP
 have h1:=zJZ (f:=fun p=>zCk (bl p)) (xK fs (bs [103,101,110,47]))
 have h2:=zAF fs (bs [103,101,110,47])
 omega
def zGN:List Int→List Int→Bool
 |_,[]=>false
 |[],_::_=>true
 |a::x,b::y=>decide (a<b)||(a==b&&zGN x y)
theorem zKt (a b:ByteArray):slt a b=zGN (bl a) (bl b):=by
 unfold slt bl
 generalize a.toList=x
 generalize b.toList=y
 induction x generalizing y with
 |nil=>cases y<;>rfl
 |cons u x ih=>
  cases y with
  |nil=>rfl
  |cons v y=>
   simp only [Op.bytesLess,List.map_cons,zGN,ih y]
   congr 1
   ·rw [Bool.eq_iff_iff]; simp [UInt8.lt_iff_toNat_lt]
   ·congr 1
    rw [Bool.eq_iff_iff]
    simp only [beq_iff_eq]
    constructor
    ·intro h; rw [h]
    ·intro h; exact UInt8.toNat_inj.1 (by omega)
theorem zJk (x:Int) (l:List Int):val (x::l)=(x-48)*10^l.length+val l:=by
 refine zEZ (P:=fun l=>val (x::l)=(x-48)*10^l.length+val l) ?_ ?_ l
 ·simp [val]
 ·intro l c ih
  rw [←List.cons_append,zD9,zD9,ih,List.length_append,List.length_singleton,Int.pow_succ]
  rw [Int.add_mul,Int.mul_assoc]
  omega
theorem zJp:∀{a b:List Int},a.length=b.length→(∀c∈a,zEw c=true)→(∀c∈b,zEw c=true)→zGN a b=true→val a<val b
 |[],[],_,_,_,h=>by simp [zGN] at h
 |x::a,y::b,hl,ha,hb,h=>by
  have hl':a.length=b.length:=by simpa using hl
  have ba:=zCB (l:=a) (fun c hc=>ha c (by simp [hc]))
  have bb:=zCB (l:=b) (fun c hc=>hb c (by simp [hc]))
  rw [zJk,zJk,hl']
  rw [hl'] at ba
  simp only [zGN,Bool.or_eq_true,decide_eq_true_eq,Bool.and_eq_true,beq_iff_eq] at h
  rcases h with h|⟨rfl,h⟩
  ·have e:(y-48)*10^b.length=(x-48)*10^b.length+(y-x)*10^b.length:=by rw [←Int.add_mul]; congr 1; omega
   have:1*(10:Int)^b.length≤(y-x)*10^b.length:=Int.mul_le_mul_of_nonneg_right (by omega) (by omega)
   omega
  ·have:=zJp hl' (fun c hc=>ha c (by simp [hc])) (fun c hc=>hb c (by simp [hc])) h
   omega
 |[],_::_,hl,_,_,_=>by simp at hl
 |_::_,[],hl,_,_,_=>by simp at hl
theorem zEO:∀(p a b:List Int),zGN (p++a) (p++b)=zGN a b
 |[],_,_=>rfl
 |x::p,a,b=>by simp [zGN,zEO p a b]
theorem zEy {l:List Int} {n:Int} (h:zCk l=some n):l.length=10∧(∀c∈l.drop 4,zEw c=true)∧n=val (l.drop 4)∧1≤n∧n≤999999:=by
 unfold zCk at h
 cases hn:zGa (l.drop 4) 6 with
 |none=>rw [hn] at h; cases h
 |some m=>
  rw [hn] at h
  simp only at h
  split at h
  ·rename_i hc
   cases h
   unfold zGa at hn
   split at hn
   ·cases hn
   ·rename_i hc2
    cases hn
    have hd:∀c∈l.drop 4,zEw c=true:=Classical.byContradiction fun h=>hc2 (.inr (.inr h))
    have hb:=zCB hd
    have h6:(l.drop 4).length =6:=by rw [List.length_drop,hc.2]
    rw [h6] at hb
    exact ⟨hc.2,hd,rfl,hc.1,by omega⟩
  ·cases h
theorem zF1 {fs:List File} {n:Int} (h:n∈jP fs):1≤n∧n≤999999:=by
 unfold jP at h
 obtain ⟨p,_,hp⟩:=List.mem_filterMap.1 h
 exact (zEy hp).2.2.2
theorem zHg {fs:List File} (hs:fs.Pairwise (fun f g=>slt f.Path g.Path=true)):(jP fs).Pairwise (· < ·):=by
 unfold jP
 have h1:(xK fs (bs [103,101,110,47])).Pairwise (fun a b=>slt a b=true):=by
  unfold xK
  rw [List.pairwise_map]
  exact List.Pairwise.filter _ hs
 have h2:=zC1 (fs:=fs) (p:=bs [103,101,110,47])
 generalize xK fs (bs [103,101,110,47])=ps at*
 rw [List.pairwise_filterMap]
 refine List.Pairwise.imp_of_mem ?_ h1
 intro a b ha hb hab x hx y hy
 obtain ⟨a1,a2,rfl,_,_⟩:=zEy hx
 obtain ⟨b1,b2,rfl,_,_⟩:=zEy hy
 have pa:=zCY (h2 a ha)
 have pb:=zCY (h2 b hb)
 rw [zHA] at pa pb
 refine zJp (by rw [List.length_drop,List.length_drop,a1,b1]) a2 b2 ?_
 rw [zKt,←List.take_append_drop 4 (bl a),←List.take_append_drop 4 (bl b)] at hab
 rw [show (bl a).take 4=zMd from pa.1,show (bl b).take 4=zMd from pb.1,zEO] at hab
 exact hab
theorem zJj {l:List Int} (h:∀c∈l,0≤c∧c≤255):bl (b2s l)=l:=by
 refine (zEZ (P:=fun l=>(∀c∈l,0≤c∧c≤255)→bl (b2s l)=l) ?_ ?_ l) h
 ·intro _; exact zIa []
 ·intro l c ih h
  have e:b2s (l++[c])=b2s l++b2s [c]:=by
   unfold b2s
   rw [List.foldl_append]
   generalize List.foldl (fun r n=>ByteArray.push r (UInt8.ofNat n.toNat)) ByteArray.empty l=x
   simp only [List.foldl_cons,List.foldl_nil]
   generalize UInt8.ofNat c.toNat=u
   apply toList_inj
   rw [ByteArray.toList_eq,ByteArray.toList_eq]
   simp
  rw [e,zC8,ih (fun x hx=>h x (by simp [hx])),zI8 (h c (by simp)).1 (h c (by simp)).2]
theorem zDi (l:List Int) (v:Int) (h:l.length≤1048576):xU l v=some (decide (v∈l)):=by
 obtain ⟨t,e,ht⟩:=uR (b:=zBH l v) (fun i s=>s=(i:Int)∧v∉l.take i) l.length (fun t=>match t with| .ret r=>r=true∧v∈l| .nxt _=>v∉l) (by
  rintro i s hi ⟨rfl,hv⟩
  unfold zBH
  rw [if_pos (by simp; omega)]
  simp only [zL hi,Option.bind_some]
  by_cases hc:l[i]=v
  ·rw [if_pos (by simpa using hc)]
   exact .inr ⟨_,rfl,rfl,hc▸List.getElem_mem hi⟩
  ·rw [if_neg (by simpa using hc),zP (by omega)]
   refine .inl ⟨_,rfl,rfl,?_⟩
   rw [List.take_succ_eq_append_getElem hi]
   simp only [List.mem_append,List.mem_singleton,not_or]
   exact ⟨hv,fun e=>hc e.symm⟩) (by
  rintro s ⟨rfl,hv⟩
  unfold zBH
  rw [if_neg (by simp)]
  rw [List.take_length] at hv
  exact ⟨_,rfl,hv⟩) l.length 0 0 (by omega) ⟨rfl,by simp⟩
 unfold xU
 rw [show zCo l v 0=some t from e]
 cases t with
 |ret r=>obtain ⟨rfl,hm⟩:=ht; simp [Fl.go,hm]
 |nxt _=>simp only [Fl.go,Option.bind_some]; rw [decide_eq_false ht]
theorem zDC (l:List Int) (v:Int) (h:l.length≤1048576):zR l v=some (decide (v∈l)):=by
 obtain ⟨t,e,ht⟩:=uR (b:=wV l v) (fun i s=>s=(i:Int)∧v∉l.take i) l.length (fun t=>match t with| .ret r=>0≤r∧v∈l| .nxt _=>v∉l) (by
  rintro i s hi ⟨rfl,hv⟩
  unfold wV
  rw [if_pos (by simp; omega)]
  simp only [zL hi,Option.bind_some]
  by_cases hc:v=l[i]
  ·rw [if_pos (by simpa using hc)]
   exact .inr ⟨_,rfl,by omega,hc▸List.getElem_mem hi⟩
  ·rw [if_neg (by simpa using hc),zP (by omega)]
   refine .inl ⟨_,rfl,rfl,?_⟩
   rw [List.take_succ_eq_append_getElem hi]
   simp only [List.mem_append,List.mem_singleton,not_or]
   exact ⟨hv,hc⟩) (by
  rintro s ⟨rfl,hv⟩
  unfold wV
  rw [if_neg (by simp)]
  rw [List.take_length] at hv
  exact ⟨_,rfl,hv⟩) l.length 0 0 (by omega) ⟨rfl,by simp⟩
 unfold zR vQ
 rw [show vK l v 0=some t from e]
 cases t with
 |ret r=>obtain ⟨h0,hm⟩:=ht; simp [Fl.go,hm,h0]
 |nxt _=>simp only [Fl.go,Option.bind_some]; rw [decide_eq_false ht]; rfl
def zGX (d:zI):Option Int:=match d.Files.find? (fun f=>decide (f.Path=bs [99,117,114])) with
 |none=>none
 |some f=>match zGa f.Data 6 with
  |none=>none
  |some n=>if n∈jP d.Files then some n else none
theorem zKJ {fs:List File} {p:ByteArray} {k:Nat} (hs:fs.Pairwise (fun f g=>slt f.Path g.Path=true)) (hk:k<fs.length) (hp:fs[k].Path =p):fs.find? (fun f=>decide (f.Path=p))=some fs[k]:=by
 rw [List.find?_eq_some_iff_getElem]
 refine ⟨by simp [hp],k,hk,rfl,fun j hj=>?_⟩
 simp only [Bool.not_eq_eq_eq_not,Bool.not_true,decide_eq_false_iff_not]
 intro e
 have:=zGj hs (by omega) hk (e.trans hp.symm)
 omega
theorem zHD {fs:List File} {p:ByteArray} (h:∀f∈fs,f.Path≠p):fs.find? (fun f=>decide (f.Path=p))=none:=by
 rw [List.find?_eq_none]
 intro f hf
 simpa using h f hf
theorem zET (d:zI) (hg:d.good) (hb:∀f∈d.Files,∀c∈f.Data,0≤c∧c≤255):
  kX d=some ((zGX d).getD 0)∧vL d=some ((zGX d).getD 0,match zGX d with|some _=>0|none=>4):=by
 have hl:d.Files.length≤1048576:=by have:=hg.len; omega
 have hgl:=zB1 d.Files
 unfold kX vL
 rcases zFg d (bs [99,117,114]) hg with ⟨k,hk,e1,e2,hp⟩|⟨e1,e2,hp⟩
 ·have hf:=zKJ hg.sorted hk hp
  have hbk:=zJj (hb _ (List.getElem_mem hk))
  have hn:¬((k:Int)<0):=by omega
  rw [e1,e2,zDz d hl,zGY d hl]
  simp only [Option.bind_some,zL hk,zDU _ 6 (by omega),number_eq _ 6 (by omega),hbk,decide_eq_false hn,Bool.false_eq_true,if_false]
  unfold zGX
  rw [hf]
  simp only
  cases hnum:zGa d.Files[k].Data 6 with
  |none=>
   have hneg:¬((-1:Int)∈jP d.Files):=fun h=>by have:=zF1 h; omega
   simp [zDC _ _ (show (jP d.Files).length ≤1048576 by omega),hneg]
  |some n=>
   simp only [zDC _ _ (show (jP d.Files).length ≤1048576 by omega),zDi _ _ (show (jP d.Files).length ≤1048576 by omega)]
   by_cases hm:n∈jP d.Files
   ·simp [hm]
   ·simp [hm]
 ·have hf:=zHD hp
  rw [e1,e2]
  simp only [Option.bind_some,number_eq _ 6 (by omega)]
  unfold zGX
  rw [hf]
  simp
theorem zKa {d:zI} {n:Int} (h:zGX d=some n):1≤n:=by
 unfold zGX at h
 split at h
 ·cases h
 ·split at h
  ·cases h
  ·split at h
   ·rename_i hm; cases h; exact (zF1 hm).1
   ·cases h
def zLj (c:Int):Bool:=decide (97≤c)&&decide (c≤122)
def zHv (c:Int):Bool:=decide (48≤c)&&decide (c≤57)
def zKr (c:Int):Bool:=zLj c||(zHv c||c==95)
theorem zFk (c:Int):wK c=some (zLj c):=by
 unfold wK zLj
 by_cases h:c≥97<;>simp [h]
theorem zJ2 (c:Int):wQ c=some (zHv c):=by
 unfold wQ zHv
 by_cases h:c≥48<;>simp [h]
theorem zLa (c:Int):wT c=some (zKr c):=by
 unfold wT zKr
 simp only [zFk,zJ2,Option.bind_some]
 cases zLj c<;>cases zHv c<;>simp
theorem zGO (c:Int):yZ c=some (zKr c):=by
 unfold yZ zKr zLj zHv
 by_cases h1:c≥97<;>by_cases h2:c≤122<;>by_cases h3:c≥48<;>by_cases h4:c≤57<;>simp [h1,h2,h3,h4]
def zG9 (s:ByteArray):Int:=(vZ (fun _ c=>if zKr c then none else some (5:Int)) 0 (bl s)).getD 0
def NF (s:ByteArray):Int:=if s.size<1 then 5 else if s.size>12 then 5 else if zLj ((bl s).headD 0) then zG9 s else 5
theorem zKf {s:ByteArray} (h:1≤s.size):bidx s 0=some ((bl s).headD 0):=by
 have h':0< (bl s).length :=by rw [yK]; exact h
 have e:=zDr (s:=s) (i:=0) h'
 rw [show ((0:Nat):Int)=0 from rfl] at e
 rw [e]
 have:(bl s)[0]? =some ((bl s).headD 0):=by
  cases hb:bl s with
  |nil=>rw [hb] at h'; simp at h'
  |cons c l=>rfl
 rw [List.getElem?_eq_getElem h'] at this
 exact this
theorem zGL (s:ByteArray) (h:s.size≤12):tQ s 0=some (frs (vZ (fun _ c=>if zKr c then none else some (5:Int)) 0 (bl s))):=by
 unfold tQ
 refine wU (bl s) _ (fun i hi=>?_) ?_
 ·have hs:i<s.size:=by rw [←yK]; exact hi
  unfold zAM
  rw [if_pos (by simp; omega),zDr hi]
  simp only [Option.bind_some,zLa]
  rw [zP (by omega)]
  cases zKr (bl s)[i]<;>rfl
 ·unfold zAM
  rw [if_neg (by rw [yK]; simp)]
theorem zG3 (s:ByteArray) (h:s.size≤12):tT s 0=some (frs (vZ (fun _ c=>if zKr c then none else some (5:Int)) 0 (bl s))):=by
 unfold tT
 refine wU (bl s) _ (fun i hi=>?_) ?_
 ·have hs:i<s.size:=by rw [←yK]; exact hi
  unfold zAJ
  rw [if_pos (by simp; omega),zDr hi]
  simp only [Option.bind_some,zGO]
  rw [zP (by omega)]
  cases zKr (bl s)[i]<;>rfl
 ·unfold zAJ
  rw [if_neg (by rw [yK]; simp)]
theorem zCW (s:ByteArray):wB s=some (NF s):=by
 unfold wB NF
 by_cases h1:s.size<1
 ·rw [if_pos (show decide ((s.size:Int)<1)=true by rw [decide_eq_true_eq]; omega),if_pos h1]; rfl
 rw [if_neg (show ¬decide ((s.size:Int)<1)=true by rw [decide_eq_true_eq]; omega),if_neg h1]
 by_cases h2:s.size>12
 ·rw [if_pos (show decide ((s.size:Int)>12)=true by rw [decide_eq_true_eq]; omega),if_pos h2]; rfl
 rw [if_neg (show ¬decide ((s.size:Int)>12)=true by rw [decide_eq_true_eq]; omega),if_neg h2,zKf (by omega),zGL s (by omega)]
 simp only [Option.bind_some,zFk]
 cases h3:zLj ((bl s).headD 0)
 ·rfl
 ·unfold zG9
  cases vZ (fun _ c=>if zKr c then none else some (5:Int)) 0 (bl s)<;>rfl
theorem zLF (c:Int):(if decide (c<97)=true then some true else some (decide (c>122)))=some (!(zLj c)):=by
 unfold zLj
 by_cases h3:c<97
 ·rw [if_pos (by rw [decide_eq_true_eq]; exact h3)]
  have:decide (97≤c)=false:=by rw [decide_eq_false_iff_not]; omega
  rw [this]; rfl
 ·rw [if_neg (by rw [decide_eq_true_eq]; exact h3)]
  have:decide (97≤c)=true:=by rw [decide_eq_true_eq]; omega
  rw [this]
  congr 1
  rw [Bool.true_and,Bool.eq_iff_iff]
  simp
theorem zCV (s:ByteArray):wF s=some (NF s):=by
 unfold wF NF
 by_cases h1:s.size<1
 ·rw [if_pos (show decide ((s.size:Int)<1)=true by rw [decide_eq_true_eq]; omega),if_pos h1]; rfl
 rw [if_neg (show ¬decide ((s.size:Int)<1)=true by rw [decide_eq_true_eq]; omega),if_neg h1]
 by_cases h2:s.size>12
 ·rw [if_pos (show decide ((s.size:Int)>12)=true by rw [decide_eq_true_eq]; omega),if_pos h2]; rfl
 rw [if_neg (show ¬decide ((s.size:Int)>12)=true by rw [decide_eq_true_eq]; omega),if_neg h2,zKf (by omega),zG3 s (by omega)]
 simp only [Option.bind_some,zLF]
 cases h3:zLj ((bl s).headD 0)
 ·rfl
 ·unfold zG9
  cases vZ (fun _ c=>if zKr c then none else some (5:Int)) 0 (bl s)<;>rfl
def VF (v:Version):Int:=if inB v.A 0 999&&inB v.B 0 999&&inB v.C 0 999 then 0 else 3
theorem zC3 (v:Version):yS v=some (VF v):=by
 unfold yS VF
 simp only [zIi,Option.bind_some]
 cases inB v.A 0 999<;>cases inB v.B 0 999<;>cases inB v.C 0 999<;>rfl
theorem zDd (v:Version):xE v=some (VF v):=by
 unfold xE VF
 simp only [zHp,Option.bind_some]
 cases inB v.A 0 999<;>cases inB v.B 0 999<;>cases inB v.C 0 999<;>rfl
def sgn (a b:Int):Int:=if a<b then-1 else if a>b then 1 else 0
theorem zLb (a b:Int):jJ a b=some (sgn a b):=by
 unfold jJ sgn
 by_cases h:a<b
 ·simp [h]
 ·by_cases h2:a>b<;>simp [h,h2]
theorem cmp_eq (a b:Int):xG a b=some (sgn a b):=by
 unfold xG uF sgn
 simp only [Option.bind_some,bne_self_eq_false,Bool.false_eq_true,if_false]
 by_cases h:a<b
 ·simp [h]
 ·by_cases h2:a>b<;>simp [h,h2]
def zKm (a b:Version):Int:=if sgn a.A b.A≠0 then sgn a.A b.A else if sgn a.B b.B≠0 then sgn a.B b.B else sgn a.C b.C
theorem zCH (a b:Version):xD a b=some (zKm a b):=by
 unfold xD zKm
 simp only [zLb,Option.bind_some]
 by_cases h1:sgn a.A b.A=0
 ·by_cases h2:sgn a.B b.B=0<;>simp [h1,h2]
 ·simp [h1]
theorem zMf (l:List Int) (h:l.length≤10):loop (zBA l) 0=some (frs (vZ (fun _ c=>if c !=0 then some c else none) 0 l)):=by
 refine wU l _ (fun i hi=>?_) ?_
 ·unfold zBA
  rw [if_pos (by simp; omega),zL hi]
  simp only [Option.bind_some]
  rw [zP (by omega)]
  cases l[i] !=0<;>rfl
 ·unfold zBA
  rw [if_neg (by simp)]
theorem zHF (a b:Version):zBs a b=some (zKm a b):=by
 unfold zBs zKm zCP zCr
 simp only [cmp_eq,Option.bind_some]
 rw [zMf _ (by simp),zDf]
 by_cases h1:sgn a.A b.A=0
 ·by_cases h2:sgn a.B b.B=0
  ·by_cases h3:sgn a.C b.C=0<;>simp [h1,h2,h3,vZ]
  ·simp [h1,h2,vZ]
 ·simp [h1,vZ]
def eqV (a b:Version):Bool:=a.A==b.A&&(a.B==b.B&&(a.C==b.C&&true))
theorem zK5 (a b:Version):(zKm a b==0)=eqV a b:=by
 unfold zKm eqV sgn
 rw [Bool.eq_iff_iff]
 simp only [beq_iff_eq,Bool.and_eq_true,Bool.and_true]
 constructor
 ·intro h
  split at h<;>omega
 ·intro ⟨h1,h2,h3⟩
  split<;>omega
def zNx:Version:= {A:=1000,B:=0,C:=0}
def TF (t:Term):Int:=if NF t.Name≠0 then NF t.Name else if VF t.Low≠0 then VF t.Low else
 if eqV t.High zNx=false∧VF t.High≠0 then 3 else if zKm t.Low t.High≥0 then 1 else 0
theorem zFQ (t:Term):kU t=some (TF t):=by
 unfold kU TF zCz
 simp only [zCW,zC3,zCH,Option.bind_some]
 show (if (NF t.Name !=0)=true then some (NF t.Name) else if (VF t.Low !=0)=true then some (VF t.Low) else (if (!(eqV t.High zNx))=true then some (VF t.High !=0) else some false).bind fun v=>if v=true then some 3 else if decide (zKm t.Low t.High≥0)=true then some 1 else some 0)=_
 generalize NF t.Name=a
 generalize VF t.Low=b
 generalize eqV t.High zNx=c
 generalize VF t.High=d
 generalize zKm t.Low t.High=e
 by_cases h1:a=0
 ·by_cases h2:b=0
  ·by_cases h4:d=0<;>by_cases h5:e≥0<;>cases c<;>simp [h1,h2,h4,h5]
  ·simp [h1,h2]
 ·simp [h1]
theorem zFT (t:Term):kR t=some (TF t):=by
 unfold kR TF zDk
 simp only [zCV,zDd,zHF,Option.bind_some]
 show (if (NF t.Name !=0)=true then some (NF t.Name) else if (VF t.Low !=0)=true then some (VF t.Low) else (if (!(eqV t.High zNx))=true then some (VF t.High !=0) else some false).bind fun v=>if v=true then some 3 else if decide (zKm t.Low t.High≥0)=true then some 1 else some 0)=_
 generalize NF t.Name=a
 generalize VF t.Low=b
 generalize eqV t.High zNx=c
 generalize VF t.High=d
 generalize zKm t.Low t.High=e
 by_cases h1:a=0
 ·by_cases h2:b=0
  ·by_cases h4:d=0<;>by_cases h5:e≥0<;>cases c<;>simp [h1,h2,h4,h5]
  ·simp [h1,h2]
 ·simp [h1]
def tsF (l:List Term):Int:=(vZ (fun _ t=>if TF t !=0 then some (TF t) else none) 0 l).getD 0
theorem zEU (l:List Term) (h:l.length≤1048576):tJ l=some (tsF l):=by
 have key:=wU l (fun _ t=>if TF t !=0 then some (TF t) else none) (b:=zA2 l) (by
  intro i hi
  unfold zA2
  rw [if_pos (by simp; omega),zL hi]
  simp only [Option.bind_some,zFQ]
  rw [zP (by omega)]
  cases TF l[i] !=0<;>rfl) (by
  unfold zA2
  rw [if_neg (by simp)])
 unfold tJ zBf tsF
 rw [key,zDf]
 cases vZ (fun _ t=>if TF t !=0 then some (TF t) else none) 0 l<;>rfl
theorem zD5 (l:List Term) (h:l.length≤1048576):wJ l=some (tsF l):=by
 have key:=wU l (fun _ t=>if TF t !=0 then some (TF t) else none) (b:=jF l) (by
  intro i hi
  unfold jF
  rw [if_pos (by simp; omega),zL hi]
  simp only [Option.bind_some,zFT]
  rw [zP (by omega)]
  cases TF l[i] !=0<;>rfl) (by
  unfold jF
  rw [if_neg (by simp)])
 unfold wJ kI tsF
 rw [key,zDf]
 cases vZ (fun _ t=>if TF t !=0 then some (TF t) else none) 0 l<;>rfl
theorem zCq {n:Nat} (h:n<1000):(zGZ n).size ≤3:=by
 rw [←yK,zEa]
 exact zFy 2 n (by omega)
theorem zCK:(bs [46]).size =1:=rfl
def zMu (v:Version):ByteArray:=zGZ v.A.toNat++bs [46]++zGZ v.B.toNat++bs [46]++zGZ v.C.toNat
theorem zIx {v:Version} (h:VF v=0):(0≤v.A∧v.A≤999)∧(0≤v.B∧v.B≤999)∧(0≤v.C∧v.C≤999):=by
 unfold VF inB at h
 split at h
 ·rename_i hh
  simp only [Bool.and_eq_true,decide_eq_true_eq] at hh
  omega
 ·cases h
theorem zF3 {v:Version} (h:VF v=0):(zMu v).size ≤11:=by
 obtain ⟨h1,h2,h3⟩:=zIx h
 unfold zMu
 simp only [zC2,zCK]
 have a1:=zCq (n:=v.A.toNat) (by omega)
 have a2:=zCq (n:=v.B.toNat) (by omega)
 have a3:=zCq (n:=v.C.toNat) (by omega)
 omega
theorem zGH {x:Int} (h:0≤x∧x≤999):xO x=some (zGZ x.toNat):=by
 have:=zES x.toNat (by omega)
 rwa [Int.toNat_of_nonneg h.1] at this
theorem zG8 {x:Int} (h:0≤x∧x≤999):zAL x=some (zGZ x.toNat):=by
 have:=zEQ x.toNat (by omega)
 rw [Int.toNat_of_nonneg h.1] at this
 unfold zAL
 rw [this]
 rfl
theorem zEm {v:Version} (h:VF v=0):vC v=some (zMu v):=by
 obtain ⟨h1,h2,h3⟩:=zIx h
 have a1:=zCq (n:=v.A.toNat) (by omega)
 have a2:=zCq (n:=v.B.toNat) (by omega)
 have a3:=zCq (n:=v.C.toNat) (by omega)
 unfold vC zMu
 rw [zC3,h]
 simp only [Option.bind_some,zGH h1,zGH h2,zGH h3]
 rw [if_neg (by simp)]
 rw [zCA (by rw [zCK]; omega)]
 simp only [Option.bind_some]
 rw [zCA (by simp only [zC2,zCK]; omega)]
 simp only [Option.bind_some]
 rw [zCA (by simp only [zC2,zCK]; omega)]
 simp only [Option.bind_some]
 rw [zCA (by simp only [zC2,zCK]; omega)]
 rfl
theorem zKn {v:Version} (h:VF v=0):vP v=some (zMu v):=by
 obtain ⟨h1,h2,h3⟩:=zIx h
 have a1:=zCq (n:=v.A.toNat) (by omega)
 have a2:=zCq (n:=v.B.toNat) (by omega)
 have a3:=zCq (n:=v.C.toNat) (by omega)
 unfold vP zMu
 simp only [Option.bind_some,zG8 h1,zG8 h2,zG8 h3]
 rw [zCA (by rw [zCK]; omega)]
 simp only [Option.bind_some]
 rw [zCA (by simp only [zC2,zCK]; omega)]
 simp only [Option.bind_some]
 rw [zCA (by simp only [zC2,zCK]; omega)]
 simp only [Option.bind_some]
 rw [zCA (by simp only [zC2,zCK]; omega)]
 rfl
theorem zI6 {s:ByteArray} (h:NF s=0):1≤s.size∧s.size≤12:=by
 unfold NF at h
 split at h
 ·cases h
 ·split at h
  ·cases h
  ·omega
def zeroV:Version:= {A:=0,B:=0,C:=0}
theorem zLu (a b:ByteArray):seq a b=seq b a:=by
 unfold seq
 rw [Bool.eq_iff_iff]
 simp only [beq_iff_eq]
 exact eq_comm
theorem zHr {α R:Type} (g:Nat→α→Option R):∀(xs:List α) (i:Nat),vZ g i xs=none↔∀(j:Nat) (h:j<xs.length),g (i+j) xs[j]=none
 |[],i=>by simp [vZ]
 |x::xs,i=>by
  simp only [vZ]
  cases h:g i x with
  |some r=>
   simp only [reduceCtorEq,false_iff]
   intro hh
   have:=hh 0 (by simp)
   simp only [Nat.add_zero,List.getElem_cons_zero] at this
   rw [h] at this
   cases this
  |none=>
   show vZ g (i+1) xs=none↔_
   rw [zHr g xs (i+1)]
   constructor
   ·intro hh j hj
    cases j with
    |zero=>simpa using h
    |succ j=>
     have:=hh j (by simpa using hj)
     rw [show i+(j+1)=i+1+j by omega]
     simpa using this
   ·intro hh j hj
    have:=hh (j+1) (by simpa using hj)
    rw [show i+(j+1)=i+1+j by omega] at this
    simpa using this
theorem zEf {α:Type} {xs:List α} {i:Nat} (h:i≤xs.length):zDG xs 0 (i:Int)=some (xs.take i):=by
 have:=zDl (xs:=xs) (l:=0) (h:=i) (by omega) h
 rw [show ((0:Nat):Int)=0 from rfl] at this
 rw [this]
 simp
theorem zGo (l:List ByteArray) (n:ByteArray) (h:l.length≤1048576):jZ l n=some (l.any fun x=>seq x n):=by
 have key:=wU l (fun _ x=>if seq x n then some true else none) (b:=zAE l n) (by
  intro i hi
  unfold zAE
  rw [if_pos (by simp; omega),zL hi]
  simp only [Option.bind_some]
  rw [zP (by omega)]
  cases seq l[i] n<;>rfl) (by
  unfold zAE
  rw [if_neg (by simp)])
 unfold jZ zBj
 rw [key,zDf,←zHB (fun x=>seq x n) l 0]
 cases vZ (fun _ x=>if seq x n then some true else none) 0 l<;>rfl
theorem zEl (l:List ByteArray) (n:ByteArray) (h:l.length≤1048576):yR l n=some (l.any fun x=>seq x n):=by
 have key:=wU l (fun i x=>if seq x n then some (i:Int) else none) (b:=wP l n) (by
  intro i hi
  unfold wP
  rw [if_pos (by simp; omega),zL hi]
  simp only [Option.bind_some]
  rw [zP (by omega),zLu n]
  cases seq l[i] n<;>rfl) (by
  unfold wP
  rw [if_neg (by simp)])
 unfold yR vG wX
 rw [key,zDf]
 rw [←zFc (zDh (fun x=>seq x n) l 0)]
 cases vZ (fun j x=>if seq x n then some (j:Int) else none) 0 l<;>rfl
def zIG (p:Pack) (i:Nat) (n:ByteArray):Option Int:=if NF n !=0 then some (NF n) else if seq n p.Name||(p.Provides.take i).any (fun x=>seq x n) then some 6 else none
def zI0 (_:Nat) (l:List Term):Option Int:=if (l.length:Int)==0 then some 1 else if tsF l !=0 then some (tsF l) else none
def zMk (p:Pack):Bool:=decide ((p.Provides.length:Int)>4)||(decide ((p.Needs.length:Int)>4)||(decide ((p.Bars.length:Int)>4)||p.Needs.any (fun l=>decide ((l.length:Int)>4))))
def zHt (p:Pack):Int:=match vZ (zIG p) 0 p.Provides with
 |some r=>r
 |none=>match vZ zI0 0 p.Needs with
  |some r=>r
  |none=>tsF p.Bars
def PF (p:Pack):Int:=if NF p.Name !=0 then NF p.Name else if VF p.Version !=0 then VF p.Version else if !(inB p.Size 1 200) then 3 else if zMk p then 2 else zHt p
theorem zFC (p:Pack) (hp:Pack.sm 1048576 p):((jD p 0).bind (Fl.go some fun v60=>(tZ p 0).bind (Fl.go some fun v80=>(tJ p.Bars).bind fun x81=>some x81)))=some (zHt p):=by
 obtain ⟨_,_,_,hpr,hne,hba⟩:=hp
 have k2:=wU p.Provides (zIG p) (b:=kM p) (by
  intro i hi
  unfold kM zIG
  rw [if_pos (by simp; omega),zL hi]
  simp only [Option.bind_some,zCW]
  rw [zEf (by omega)]
  simp only [Option.bind_some]
  rw [zGo _ _ (by simp; omega),zP (by omega)]
  simp only [Option.bind_some]
  cases NF p.Provides[i] !=0<;>cases seq p.Provides[i] p.Name<;>cases (p.Provides.take i).any (fun x=>seq x p.Provides[i])<;>rfl) (by
  unfold kM
  rw [if_neg (by simp)])
 have k3:=wU p.Needs zI0 (b:=kP p) (by
  intro i hi
  unfold kP zI0
  rw [if_pos (by simp; omega),zL hi]
  simp only [Option.bind_some]
  rw [zEU _ (hne.2 _ (List.getElem_mem hi)).1,zP (by omega)]
  simp only [Option.bind_some]
  cases (p.Needs[i].length :Int)==0<;>cases tsF p.Needs[i] !=0<;>rfl) (by
  unfold kP
  rw [if_neg (by simp)])
 unfold jD tZ zHt
 rw [k2,k3,zEU _ hba.1]
 cases vZ (zIG p) 0 p.Provides<;>cases vZ zI0 0 p.Needs<;>rfl
theorem zEW (p:Pack) (hp:Pack.sm 1048576 p):((jA p 0).bind (Fl.go some fun v46=>(tY p 0).bind (Fl.go some fun v62=>(wJ p.Bars).bind fun x63=>some x63)))=some (zHt p):=by
 obtain ⟨_,_,_,hpr,hne,hba⟩:=hp
 have k2:=wU p.Provides (zIG p) (b:=kD p) (by
  intro i hi
  unfold kD zIG
  rw [if_pos (by simp; omega),zL hi]
  simp only [Option.bind_some,zCV]
  rw [zEf (by omega)]
  simp only [Option.bind_some]
  rw [zEl _ _ (by simp; omega),zP (by omega)]
  simp only [Option.bind_some]
  cases NF p.Provides[i] !=0<;>cases seq p.Provides[i] p.Name<;>cases (p.Provides.take i).any (fun x=>seq x p.Provides[i])<;>rfl) (by
  unfold kD
  rw [if_neg (by simp)])
 have k3:=wU p.Needs zI0 (b:=kL p) (by
  intro i hi
  unfold kL zI0
  rw [if_pos (by simp; omega),zL hi]
  simp only [Option.bind_some]
  rw [zD5 _ (hne.2 _ (List.getElem_mem hi)).1,zP (by omega)]
  simp only [Option.bind_some]
  cases (p.Needs[i].length :Int)==0<;>cases tsF p.Needs[i] !=0<;>rfl) (by
  unfold kL
  rw [if_neg (by simp)])
 unfold jA tY zHt
 rw [k2,k3,zD5 _ hba.1]
 cases vZ (zIG p) 0 p.Provides<;>cases vZ zI0 0 p.Needs<;>rfl
theorem zGx {α R:Type} (p:α→Bool) (r:R):∀(xs:List α) (i:Nat),vZ (fun _ x=>if p x then some r else none) i xs=if xs.any p then some r else none
 |[],i=>rfl
 |x::xs,i=>by
  simp only [vZ]
  cases h:p x
  ·simp only [Bool.false_eq_true,if_false,List.any_cons,h,Bool.false_or]
   exact zGx p r xs (i+1)
  ·simp [h]
theorem zFH (p:Pack) (hp:Pack.sm 1048576 p):kT p=some (PF p):=by
 have hl:=zFC p hp
 obtain ⟨_,_,_,hpr,hne,hba⟩:=hp
 have k1:=wU p.Needs (fun _ l=>if decide ((l.length:Int)>4) then some (2:Int) else none) (b:=kN p) (by
  intro i hi
  unfold kN
  rw [if_pos (by simp; omega),zL hi]
  simp only [Option.bind_some]
  rw [zP (by omega)]
  cases decide ((p.Needs[i].length :Int)>4)<;>rfl) (by
  unfold kN
  rw [if_neg (by simp)])
 rw [zGx] at k1
 unfold kT PF zMk
 simp only [zCW,zC3,zIi,Option.bind_some]
 rw [hl]
 unfold zAm
 rw [k1]
 cases NF p.Name !=0<;>cases VF p.Version !=0<;>cases inB p.Size 1 200<;>cases decide ((p.Provides.length:Int)>4)<;>cases decide ((p.Needs.length:Int)>4)<;>cases decide ((p.Bars.length:Int)>4)<;>cases p.Needs.any (fun l=>decide ((l.length:Int)>4))<;>rfl
theorem zJd (l:List Int) (h:l.length≤10):loop (kK l) 0=some (frs (vZ (fun _ c=>if c !=0 then some c else none) 0 l)):=by
 refine wU l _ (fun i hi=>?_) ?_
 ·unfold kK
  rw [if_pos (by simp; omega),zL hi]
  simp only [Option.bind_some]
  rw [zP (by omega)]
  cases l[i] !=0<;>rfl
 ·unfold kK
  rw [if_neg (by simp)]
theorem zFX (p:Pack) (hp:Pack.sm 1048576 p):kQ p=some (PF p):=by
 have hl:=zEW p hp
 obtain ⟨_,_,_,hpr,hne,hba⟩:=hp
 have k1:=wU p.Needs (fun i l=>if decide ((l.length:Int)>4) then some (i:Int) else none) (b:=zV p.Needs) (by
  intro i hi
  unfold zV jW
  rw [if_pos (by simp; omega),zL hi]
  simp only [Option.bind_some]
  rw [zP (by omega)]
  cases decide ((p.Needs[i].length :Int)>4)<;>rfl) (by
  unfold zV
  rw [if_neg (by simp)])
 have k2:zM p.Needs=some (p.Needs.any (fun l=>decide ((l.length:Int)>4))):=by
  unfold zM zS zZ
  rw [k1,zDf,←zFc (zDh (fun l:List Term=>decide ((l.length:Int)>4)) p.Needs 0)]
  cases vZ (fun j (x:List Term)=>if decide ((x.length:Int)>4) then some (j:Int) else none) 0 p.Needs<;>rfl
 have k3:wG [NF p.Name,VF p.Version]=some (if NF p.Name !=0 then NF p.Name else VF p.Version):=by
  have k:=zJd [NF p.Name,VF p.Version] (by simp)
  unfold wG jC
  rw [k,zDf]
  simp only [vZ]
  cases hn:NF p.Name !=0
  ·cases hv:VF p.Version !=0
   ·have:VF p.Version=0:=by simpa using hv
    simp [this]
   ·rfl
  ·rfl
 unfold kQ PF zMk
 simp only [zCV,zDd,zHp,Option.bind_some]
 rw [hl,k2,k3]
 simp only [Option.bind_some]
 cases hn:NF p.Name !=0
 ·simp only [Bool.false_eq_true,if_false]
  cases VF p.Version !=0<;>cases inB p.Size 1 200<;>cases decide ((p.Provides.length:Int)>4)<;>cases decide ((p.Needs.length:Int)>4)<;>cases decide ((p.Bars.length:Int)>4)<;>cases p.Needs.any (fun l=>decide ((l.length:Int)>4))<;>rfl
 ·simp only [if_true,hn]
def isB (n:ByteArray) (v:Version) (q:Pack):Bool:=seq q.Name n&&eqV q.Version v
def zEX (c:List Pack) (n:ByteArray) (v:Version):Int:=(vZ (fun i q=>if isB n v q then some (i:Int) else none) 0 c).getD (-1)
theorem zH3 (c:List Pack) (n:ByteArray) (v:Version):decide (zEX c n v≥0)=c.any (isB n v):=zFc (zDh (isB n v) c 0)
theorem zGs (c:List Pack) (n:ByteArray) (v:Version) (h:c.length≤1048576):jM c n v=some (zEX c n v):=by
 have key:=wU c (fun i q=>if isB n v q then some (i:Int) else none) (b:=zBg c n v) (by
  intro i hi
  unfold zBg isB
  rw [if_pos (by simp; omega),zL hi]
  simp only [Option.bind_some,zCH,zK5]
  rw [zP (by omega)]
  cases seq c[i].Name n<;>cases eqV c[i].Version v<;>rfl) (by
  unfold zBg
  rw [if_neg (by simp)])
 unfold zEX
 unfold jM zB9
 rw [key,zDf]
 cases vZ (fun i q=>if isB n v q then some (i:Int) else none) 0 c<;>rfl
theorem zGw (c:List Pack) (n:ByteArray) (v:Version) (h:c.length≤1048576):zB7 c n v=some (zEX c n v):=by
 have key:=wU c (fun i q=>if isB n v q then some (i:Int) else none) (b:=yH c n v) (by
  intro i hi
  unfold yH isB zC4
  rw [if_pos (by simp; omega),zL hi]
  simp only [Option.bind_some]
  rw [zP (by omega)]
  show (Option.bind (if seq c[i].Name n=true then some (eqV c[i].Version v) else some false) _)=_
  cases seq c[i].Name n<;>cases eqV c[i].Version v<;>rfl) (by
  unfold yH
  rw [if_neg (by simp)])
 unfold zEX
 unfold zB7 yF yJ
 rw [key,zDf]
 cases vZ (fun i q=>if isB n v q then some (i:Int) else none) 0 c<;>rfl
theorem find_spec (c:List Pack) (n:ByteArray) (v:Version) (h:c.length≤1048576):∃k,jM c n v=some k∧decide (k≥0)=c.any (isB n v):=⟨_,zGs c n v h,zH3 c n v⟩
theorem zKK (c:List Pack) (n:ByteArray) (v:Version) (h:c.length≤1048576):∃k,zB7 c n v=some k∧decide (k≥0)=c.any (isB n v):=⟨_,zGw c n v h,zH3 c n v⟩
theorem zGe {p:Pack→Bool}:∀(c:List Pack) (i:Nat),(vZ (fun i q=>if p q then some (i:Int) else none) i c).getD (-1)= -1∨((i:Int)≤(vZ (fun i q=>if p q then some (i:Int) else none) i c).getD (-1)∧(vZ (fun i q=>if p q then some (i:Int) else none) i c).getD (-1)< (i:Int)+c.length)
 |[],i=>.inl rfl
 |q::c,i=>by
  simp only [vZ]
  cases h:p q
  ·have:=zGe (p:=p) c (i+1)
   simp only [Bool.false_eq_true,if_false,List.length_cons]
   rcases this with h|h
   ·exact .inl h
   ·exact .inr (by omega)
  ·simp only [if_true,Option.getD_some,List.length_cons]
   exact .inr (by omega)
theorem zIn (c:List Pack) (n:ByteArray) (v:Version):zEX c n v= -1∨(0≤zEX c n v∧zEX c n v<c.length):=by
 have:=zGe (p:=isB n v) c 0
 unfold zEX
 rcases this with h|h
 ·exact .inl h
 ·exact .inr (by simpa using h)
def zLg (c:List Pack) (i:Nat) (p:Pack):Option Int:=if PF p !=0 then some (PF p) else if (c.take i).any (isB p.Name p.Version) then some 6 else none
def CF (c:List Pack):Int:=if decide ((c.length:Int)>24) then 2 else (vZ (zLg c) 0 c).getD 0
theorem zEz (c:List Pack) (hc:c.length≤1048576∧∀y0∈c,Pack.sm 1048576 y0):vS c=some (CF c):=by
 have key:=wU c (zLg c) (b:=uJ c) (by
  intro i hi
  unfold uJ zLg
  rw [if_pos (by simp; omega),zL hi]
  simp only [Option.bind_some]
  rw [zFH _ (hc.2 _ (List.getElem_mem hi)),zEf (by omega)]
  simp only [Option.bind_some]
  obtain ⟨k,e,hk⟩:=find_spec (c.take i) c[i].Name c[i].Version (by simp; omega)
  rw [e,zP (by omega)]
  simp only [Option.bind_some]
  rw [hk]
  cases PF c[i] !=0<;>cases (c.take i).any (isB c[i].Name c[i].Version)<;>rfl) (by
  unfold uJ
  rw [if_neg (by simp)])
 unfold vS CF uU
 rw [key,zDf]
 cases decide ((c.length:Int)>24)<;>cases vZ (zLg c) 0 c<;>rfl
theorem zCZ (c:List Pack) (hc:c.length≤1048576∧∀y0∈c,Pack.sm 1048576 y0):xV c=some (CF c):=by
 have key:=wU c (zLg c) (b:=uK c) (by
  intro i hi
  unfold uK zLg
  rw [if_pos (by simp; omega),zL hi]
  simp only [Option.bind_some]
  rw [zFX _ (hc.2 _ (List.getElem_mem hi)),zEf (by omega)]
  simp only [Option.bind_some]
  obtain ⟨k,e,hk⟩:=zKK (c.take i) c[i].Name c[i].Version (by simp; omega)
  rw [e,zP (by omega)]
  simp only [Option.bind_some]
  rw [hk]
  cases PF c[i] !=0<;>cases (c.take i).any (isB c[i].Name c[i].Version)<;>rfl) (by
  unfold uK
  rw [if_neg (by simp)])
 unfold xV CF uX
 rw [key,zDf]
 cases decide ((c.length:Int)>24)<;>cases vZ (zLg c) 0 c<;>rfl
def noPack:Pack:= {Name:=ByteArray.empty,Version:= {A:=0,B:=0,C:=0},Size:=0,Provides:=[],Needs:=[],Bars:=[]}
def pat (c:List Pack) (k:Int):Pack:=(idx c k).getD noPack
def Places (c:List Pack) (a:List Int):Prop:=∀k∈a,0≤k∧k<c.length
theorem zM2 {c:List Pack} {k:Int} (h:0≤k∧k<c.length):idx c k=some (pat c k)∧pat c k∈c:=by
 unfold pat idx
 rw [if_pos h.1]
 have:k.toNat<c.length:=by omega
 rw [List.getElem?_eq_getElem this]
 exact ⟨rfl,List.getElem_mem this⟩
def Cat (c:List Pack):Prop:=c.length≤1048576∧∀y0∈c,Pack.sm 1048576 y0
theorem zMm {p:Pack} (h:PF p=0):NF p.Name=0∧VF p.Version=0∧inB p.Size 1 200=true:=by
 unfold PF at h
 split at h
 ·rename_i h1; simp [h] at h1
 rename_i h1
 split at h
 ·rename_i h2; simp [h] at h2
 rename_i h2
 split at h
 ·cases h
 rename_i h3
 exact ⟨by simpa using h1,by simpa using h2,by simpa using h3⟩
def zHw (p:Pack):ByteArray:=bs [112,107,103,47]++(p.Name++(bs [45]++zMu p.Version))
theorem zJ6 {p:Pack} (h1:NF p.Name=0) (h2:VF p.Version=0):(zHw p).size ≤28:=by
 have a1:=zI6 h1
 have a2:=zF3 h2
 have b1:(bs [112,107,103,47]).size =4:=rfl
 have b2:(bs [45]).size =1:=rfl
 unfold zHw
 simp only [zC2]
 omega
theorem zIA {p:Pack} (h1:NF p.Name=0) (h2:VF p.Version=0):zBV p=some (zHw p):=by
 have a1:=zI6 h1
 have a2:=zF3 h2
 have b1:(bs [112,107,103,47]).size =4:=rfl
 have b2:(bs [45]).size =1:=rfl
 unfold zBV zHw
 rw [zEm h2,zCA (by omega)]
 simp only [Option.bind_some]
 rw [zCA (by rw [zC2]; omega)]
 simp only [Option.bind_some]
 rw [zCA (by simp only [zC2]; omega)]
 simp only [Option.bind_some,zGE]
theorem zKo {p:Pack} (h1:NF p.Name=0) (h2:VF p.Version=0):kS p=some (zHw p):=by
 have a1:=zI6 h1
 have a2:=zF3 h2
 have b1:(bs [112,107,103,47]).size =4:=rfl
 have b2:(bs [45]).size =1:=rfl
 unfold kS zHw
 rw [zKn h2,zCA (by omega)]
 simp only [Option.bind_some]
 rw [zCA (by rw [zC2]; omega)]
 simp only [Option.bind_some]
 rw [zCA (by simp only [zC2]; omega)]
 simp only [Option.bind_some,zGE]
theorem zGI:∀(k n:Nat),n<10^(k+1)→zDK (10^(k+1)+n)=49::(List.replicate (k+1-(zDK n).length) 48++zDK n)
 |0,n,h=>by
  have h':n<10:=by simpa using h
  rw [zCJ (by simp),show (10^(0+1)+n) / 10=1 by simp; omega,show (10^(0+1)+n)%10=n by simp; omega,zAl (n:=1) (by omega),zAl h']
  rfl
 |k+1,n,h=>by
  have hp:1≤10^k:=Nat.one_le_pow _ _ (by omega)
  have e1:10^(k+1+1)=10*10^(k+1):=by rw [Nat.pow_succ]; omega
  rw [e1] at h
  have hq:n / 10<10^(k+1):=by omega
  have ih:=zGI k (n / 10) hq
  have hl:=zFy k (n / 10) hq
  rw [e1,zCJ (by omega),show (10*10^(k+1)+n) / 10=10^(k+1)+n / 10 by omega,show (10*10^(k+1)+n)%10=n%10 by omega,ih]
  by_cases hn:n<10
  ·rw [show n / 10=0 by omega,zAl (n:=0) (by omega),zAl hn,show n%10=n by omega]
   simp only [List.length_singleton,List.cons_append,List.append_assoc,List.nil_append]
   rw [show k+1+1-1=k+1 by omega,show k+1-1=k by omega]
   rw [show List.replicate (k+1) (48:Int)=List.replicate k 48++[48] from List.replicate_succ']
   simp
  ·rw [zCJ hn,List.length_append]
   simp only [List.length_singleton,List.cons_append,List.append_assoc]
   rw [show k+1+1-((zDK (n / 10)).length +1)=k+1-(zDK (n / 10)).length by omega]
theorem zN9 (l:List UInt8):bl ⟨l.toArray⟩=l.map (fun b=>(b.toNat:Int)):=by
 unfold bl
 rw [ByteArray.toList_eq]
theorem zGm (u:UInt8):∀(n:Nat),Lib.repeatL [u] n=List.replicate n u
 |0=>rfl
 |n+1=>by rw [Lib.repeatL,zGm u n,List.replicate_succ]; rfl
def zNB (n:Int):List Int:=[103,101,110,47]++(List.replicate (6-(zDK n.toNat).length) 48++zDK n.toNat)
theorem zK6 (l:List UInt8):(bs l).data.toList =l:=rfl
def zJm (n:Int):ByteArray:=bs [103,101,110,47]++(⟨(List.replicate (6-(zDK n.toNat).length) (48:UInt8)).toArray⟩++zGZ n.toNat)
theorem zG7 (n:Int):bl (zJm n)=zNB n:=by
 unfold zJm zNB
 rw [zC8,zC8,zIa,zN9,zEa,List.map_replicate]
 rfl
theorem zIN {n:Nat} (h:n≤999999):1≤(zDK n).length ∧(zDK n).length ≤6:=by
 refine ⟨?_,zFy 5 n (by omega)⟩
 by_cases hn:n<10
 ·rw [zAl hn]; simp
 ·rw [zCJ hn,List.length_append]; simp
theorem zIv {s:ByteArray} {l h:Nat} (h1:l≤h) (h2:h≤s.size):zFY s (l:Int) (h:Int)=some (s.extract l h):=by
 unfold zFY
 rw [if_pos (by omega)]
 rfl
theorem zEN {n:Int} (h0:0≤n) (h1:n≤999999):tK n=some (zJm n):=by
 have hd:=zIN (n:=n.toNat) (by omega)
 have hs:(zGZ n.toNat).size =(zDK n.toNat).length :=by rw [←yK,zEa]
 have hf:=zEQ n.toNat (by omega)
 rw [Int.toNat_of_nonneg h0] at hf
 have h4:(bs [103,101,110,47]).size =4:=rfl
 unfold tK zAL
 rw [hf]
 simp only [Option.bind_some]
 rw [hs,tH (by omega) (by omega)]
 unfold strings_Repeat
 rw [if_pos ⟨by omega,by omega,by rw [show (bs [48]).size =1 from rfl]; omega⟩,zK6,zGm]
 simp only [Option.bind_some]
 have hr:(⟨(List.replicate (6-((zDK n.toNat).length :Int)).toNat (48:UInt8)).toArray⟩:ByteArray).size =6-(zDK n.toNat).length :=by
  rw [←yK,zN9]
  simp
 rw [zCA (by rw [hr]; omega)]
 simp only [Option.bind_some]
 rw [zCA (by rw [zC2,hr]; omega)]
 unfold zJm
 rw [show (6-((zDK n.toNat).length :Int)).toNat =6-(zDK n.toNat).length by omega]
 simp only [Option.bind_some,zGE]
theorem zEI (n:Int):xZ n=some (if inB n 1 999999 then zJm n else bs []):=by
 unfold xZ
 rw [zIi]
 simp only [Option.bind_some]
 cases h:inB n 1 999999
 ·rfl
 have h':1≤n∧n≤999999:=by simpa [inB] using h
 rw [if_neg (by simp),tH (by omega) (by omega)]
 have e:=zES (1000000+n.toNat) (by omega)
 rw [show ((1000000+n.toNat:Nat):Int)=1000000+n by omega] at e
 rw [e]
 simp only [Option.bind_some]
 have hp:=zGI 5 n.toNat (by omega)
 rw [show 10^(5+1)+n.toNat=1000000+n.toNat by omega] at hp
 have hd:=zIN (n:=n.toNat) (by omega)
 have hz:(zGZ (1000000+n.toNat)).size =7:=by
  rw [←yK,zEa,hp]
  simp
  omega
 have e2:=zIv (s:=zGZ (1000000+n.toNat)) (l:=1) (h:=(zGZ (1000000+n.toNat)).size) (by omega) (Nat.le_refl _)
 rw [show ((1:Nat):Int)=1 from rfl] at e2
 rw [e2]
 simp only [Option.bind_some]
 have hx:((zGZ (1000000+n.toNat)).extract 1 (zGZ (1000000+n.toNat)).size).size =6:=by
  rw [←yK,zCh,zEa,hp,hz]
  simp
  omega
 rw [zCA (by rw [hx]; decide)]
 simp only [Option.bind_some,if_true]
 congr 1
 refine zGq.1 ?_
 rw [zC8,zCh,zEa,hp,zG7,zIa,hz]
 unfold zNB
 rw [List.take_of_length_le (by simp; omega)]
 rfl
theorem zKh {α:Type} {g:Nat→α→Option Int} (hg:∀i x,g i x≠some 0):∀(l:List α) (i:Nat),(vZ g i l).getD 0=0→vZ g i l=none
 |[],_,_=>rfl
 |x::l,i,h=>by
  simp only [vZ] at h ⊢
  cases hx:g i x with
  |none=>rw [hx] at h; exact zKh hg l (i+1) h
  |some r=>
   rw [hx] at h
   simp only [Option.getD_some] at h
   subst h
   exact absurd hx (hg i x)
theorem zKs {c:List Pack} (h:CF c=0):c.length≤24∧(∀p∈c,PF p=0)∧∀(j:Nat) (hj:j<c.length),(c.take j).any (isB c[j].Name c[j].Version)=false:=by
 unfold CF at h
 split at h
 ·cases h
 rename_i h1
 have h2:=zKh (g:=zLg c) (fun i x=>by
  unfold zLg
  split
  ·rename_i h3
   intro e
   rw [Option.some.inj e] at h3
   simp at h3
  ·split<;>simp) c 0 h
 rw [zHr] at h2
 have h3:∀(j:Nat) (hj:j<c.length),PF c[j]=0∧(c.take j).any (isB c[j].Name c[j].Version)=false:=by
  intro j hj
  have:=h2 j hj
  unfold zLg at this
  rw [Nat.zero_add] at this
  split at this
  ·cases this
  ·rename_i h4
   split at this
   ·cases this
   ·rename_i h5
    exact ⟨by simpa using h4,by simpa using h5⟩
 refine ⟨by simp at h1; omega,fun p hp=>?_,fun j hj=>(h3 j hj).2⟩
 obtain ⟨j,hj,rfl⟩:=List.getElem_of_mem hp
 exact (h3 j hj).1
theorem zJl:∀{a:List Int} {lo hi:Int},a.Pairwise (· < ·)→(∀k∈a,lo≤k∧k<hi)→(a.length:Int)≤hi-lo∨a=[]
 |[],_,_,_,_=>.inr rfl
 |x::a,lo,hi,hp,hb=>by
  obtain ⟨h1,h2⟩:=List.pairwise_cons.1 hp
  have hx:=hb x (by simp)
  have:=zJl (lo:=x+1) (hi:=hi) h2 (fun k hk=>⟨by have:=h1 k hk; omega,(hb k (by simp [hk])).2⟩)
  refine .inl ?_
  rcases this with h3|h3
  ·simp only [List.length_cons]; omega
  ·subst h3; simp; omega
theorem zH6 (s:ByteArray):s.data.toList.map (fun b=>(b.toNat:Int))=bl s:=by
 unfold bl
 rw [ByteArray.toList_eq]
def fileOf (d:zI) (p:ByteArray):Option File:=d.Files.find? (fun f=>decide (f.Path=p))
def Byt (d:zI):Prop:=∀f∈d.Files,∀c∈f.Data,0≤c∧c≤255
theorem zK0 (d:zI) (p:ByteArray) (hg:d.good):
  (∃k:Nat,∃hk:k<d.Files.length,xA d p=some (k:Int)∧yN d p=some (d.Files[k].Data,true)∧fileOf d p=some d.Files[k])∨
   (xA d p=some (-1)∧yN d p=some ([],false)∧fileOf d p=none):=by
 rcases zFg d p hg with ⟨k,hk,e1,e2,hp⟩|⟨e1,e2,hp⟩
 ·exact .inl ⟨k,hk,e1,e2,zKJ hg.sorted hk hp⟩
 ·exact .inr ⟨e1,e2,zHD hp⟩
def Pkz (c:List Pack):Prop:=∀p∈c,NF p.Name=0∧VF p.Version=0∧(1≤p.Size∧p.Size≤200)
theorem zNt {c:List Pack} (h:CF c=0):Pkz c:=fun p hp=>by
 obtain ⟨h1,h2,h3⟩:=zMm ((zKs h).2.1 p hp)
 refine ⟨h1,h2,?_⟩
 unfold inB at h3
 simpa using h3
theorem zD3 {α:Type} (q:α→Bool):∀(l:List α) (i:Nat) (acc:List α),foldI (fun _ a x=>if q x then a++[x] else a) i l acc=acc++l.filter q
 |[],_,acc=>by simp [foldI]
 |x::l,i,acc=>by
  simp only [foldI]
  rw [zD3 q l (i+1)]
  cases h:q x<;>simp [h]
theorem zJR (x y:Int):wG [x,y]=some (if x !=0 then x else y):=by
 unfold wG jC
 rw [zJd _ (by simp),zDf]
 simp only [vZ]
 by_cases h:x=0
 ·by_cases h2:y=0<;>simp [h,h2]
 ·simp [h]
theorem zJU {c:List Pack} {d:zI} (hc:Cat c):∀r,wC d=some r→kE c d=some (if CF c !=0 then CF c else r):=by
 intro r hr
 unfold kE
 rw [zEz c hc,hr]
 simp only [Option.bind_some]
 cases CF c !=0<;>rfl
theorem zK8 {c:List Pack} {d:zI} (hc:Cat c):∀r,wC d=some r→tC c d=some (if CF c !=0 then CF c else r):=by
 intro r hr
 unfold tC
 rw [zCZ c hc,zFW,hr]
 simp only [Option.bind_some,zJR]
def zDN (c:Int):List Int→List (List Int)
 |[]=>[[]]
 |x::l=>if x=c then []::zDN c l else match zDN c l with
  |h::t=>(x::h)::t
  |[]=>[[x]]
theorem zGR (c:Int):∀l,zDN c l≠[]
 |[]=>by simp [zDN]
 |x::l=>by
  unfold zDN
  split
  ·simp
  ·split<;>simp
theorem zGp {c:Int}:∀{l:List Int},(∀x∈l,0≤x∧x≤255)→∀p∈zDN c l,∀x∈p,0≤x∧x≤255
 |[],_=>by simp [zDN]
 |y::l,h=>by
  have ih:=zGp (c:=c) (l:=l) (fun x hx=>h x (by simp [hx]))
  intro p hp
  unfold zDN at hp
  split at hp
  ·rcases List.mem_cons.1 hp with rfl|hp
   ·simp
   ·exact ih p hp
  ·split at hp
   ·rename_i a t e
    rcases List.mem_cons.1 hp with rfl|hp
    ·intro x hx
     rcases List.mem_cons.1 hx with rfl|hx
     ·exact h _ (by simp)
     ·exact ih a (by rw [e]; simp) x hx
    ·exact ih p (by rw [e]; simp [hp])
   ·rename_i e
    exact absurd e (zGR c l)
theorem zDV (c:Int):∀l,(zDN c l).length ≤l.length+1
 |[]=>by simp [zDN]
 |x::l=>by
  have ih:=zDV c l
  unfold zDN
  split
  ·simp; omega
  ·split
   ·rename_i e; rw [e] at ih; simp at ih ⊢; omega
   ·simp
theorem zFm (c:Int):∀l,∀p∈zDN c l,p.length≤l.length
 |[]=>by simp [zDN]
 |x::l=>by
  have ih:=zFm c l
  intro p hp
  unfold zDN at hp
  split at hp
  ·rcases List.mem_cons.1 hp with rfl|hp
   ·simp
   ·have:=ih p hp; simp; omega
  ·split at hp
   ·rename_i a t e
    rcases List.mem_cons.1 hp with rfl|hp
    ·have:=ih a (by rw [e]; simp); simp; omega
    ·have:=ih p (by rw [e]; simp [hp]); simp; omega
   ·simp at hp; rw [hp]; simp
def vX (c:Int) (s:ByteArray):List ByteArray:=(zDN c (bl s)).map b2s
theorem zF9 (c:Int) (s:ByteArray):(vX c s).map bl=zDN c (bl s):=by
 unfold vX
 rw [List.map_map]
 have:∀p∈zDN c (bl s),(bl ∘ b2s) p=id p:=fun p hp=>zJj (zGp zGS p hp)
 rw [List.map_congr_left this,List.map_id]
theorem zGy:∀{a b:List ByteArray},a.map bl=b.map bl→a=b
 |[],[],_=>rfl
 |[],_::_,h=>by simp at h
 |_::_,[],h=>by simp at h
 |x::a,y::b,h=>by
  simp only [List.map_cons,List.cons.injEq] at h
  rw [zGq.1 h.1,zGy h.2]
theorem zHN {c:Int} {s:ByteArray} {ps:List ByteArray} (h:ps.map bl=zDN c (bl s)):ps=vX c s:=zGy (h.trans (zF9 c s).symm)
def zLI (c:UInt8):List UInt8→List (List UInt8)
 |[]=>[[]]
 |x::l=>if x=c then []::zLI c l else match zLI c l with
  |h::t=>(x::h)::t
  |[]=>[[x]]
theorem zH0 (c:UInt8):∀(l:List UInt8),(zLI c l).map (fun p=>p.map (fun b=>(b.toNat:Int)))=zDN (c.toNat:Int) (l.map (fun b=>(b.toNat:Int)))
 |[]=>rfl
 |x::l=>by
  have ih:=zH0 c l
  simp only [List.map_cons]
  unfold zLI zDN
  by_cases h:x=c
  ·subst h
   rw [if_pos rfl,if_pos rfl,List.map_cons,ih]
   rfl
  ·have h':¬((x.toNat:Int)=(c.toNat:Int)):=fun e=>h (UInt8.toNat_inj.1 (by omega))
   rw [if_neg h,if_neg h',←ih]
   cases hc:zLI c l with
   |nil=>rfl
   |cons a t=>rfl
theorem zH7 (c:UInt8):∀(l:List UInt8),c∉l→zLI c l=[l]
 |[],_=>rfl
 |x::l,h=>by
  unfold zLI
  rw [if_neg (fun e=>h (by simp [e])),zH7 c l (fun e=>h (by simp [e]))]
theorem index_one (c b:UInt8) (l:List UInt8):Lib.index (b::l) [c]=if b=c then 0 else if Lib.index l [c]== -1 then-1 else Lib.index l [c]+1:=by
 rw [Lib.index]
 have:([c].isPrefixOf (b::l))=decide (b=c):=by
  simp only [List.isPrefixOf,Bool.and_true]
  rw [Bool.eq_iff_iff,beq_iff_eq,decide_eq_true_eq]
  exact ⟨fun h=>h.symm,fun h=>h.symm⟩
 rw [this]
 by_cases h:b=c<;>simp [h]
theorem zEC (c:UInt8):∀(l:List UInt8) (k:Nat),l.count c≤k→Lib.splitK [c] 0 k l=zLI c l
 |[],k,_=>by
  cases k with
  |zero=>rfl
  |succ k=>rfl
 |b::l,0,h=>by
  have hn:c∉b::l:=List.count_eq_zero.1 (by omega)
  rw [zH7 c _ hn]
  rfl
 |b::l,k+1,h=>by
  unfold zLI
  by_cases hb:b=c
  ·subst hb
   rw [if_pos rfl]
   have e:Lib.index (b::l) [b]=0:=by rw [index_one,if_pos rfl]
   rw [Lib.splitK,e]
   simp only [List.count_cons_self] at h
   rw [if_neg (by decide)]
   show []::Lib.splitK [b] 0 k ((b::l).drop 1)=_
   rw [List.drop_one,List.tail_cons,zEC b l k (by omega)]
  ·rw [if_neg hb]
   have hc:l.count c≤k+1:=by rw [List.count_cons_of_ne hb] at h; exact h
   have ih:=zEC c l (k+1) hc
   rw [←ih,Lib.splitK,Lib.splitK,index_one,if_neg hb]
   cases hi:Lib.index l [c]== -1
   ·have hge:=Lib.index_ge l [c]
    have hne:Lib.index l [c]≠ -1:=by simpa using hi
    have hne':(Lib.index l [c]+1== -1)=false:=by
     rw [beq_eq_false_iff_ne]; omega
    simp only [Bool.false_eq_true,if_false,hne']
    rw [show (Lib.index l [c]+1).toNat =(Lib.index l [c]).toNat +1 by omega]
    simp only [Nat.add_zero,List.length_singleton,List.take_succ_cons,List.drop_succ_cons]
   ·simp
theorem zE2 (s:ByteArray) (c:UInt8) (h:s.size≤1048577):strings_Split s ⟨#[c]⟩=some (vX (c.toNat:Int) s):=by
 unfold strings_Split
 rw [if_pos ⟨by omega,by show 1≤1; omega⟩]
 congr 1
 refine zHN ?_
 have e:=Lib.splitB_data ⟨#[c]⟩ 0 (Lib.countB s ⟨#[c]⟩) s
 have e2:Lib.countB s ⟨#[c]⟩=s.data.toList.count c:=Lib.count_one c s.data.toList
 rw [e2] at e ⊢
 rw [show (⟨#[c]⟩:ByteArray).data.toList =[c] from rfl,zEC c _ _ (Nat.le_refl _)] at e
 have e3:∀ps:List ByteArray,ps.map bl=(ps.map (·.data.toList)).map (fun p=>p.map (fun b=>(b.toNat:Int))):=by
  intro ps
  rw [List.map_map]
  exact List.map_congr_left (fun p _=>(zH6 p).symm)
 rw [e3,e,zH0,zH6]
def zJV (c:Int) (l:List Int):List (List Int)×List Int:=l.foldl (fun a x=>if x=c then (a.1++[a.2],[]) else (a.1,a.2++[x])) ([],[])
theorem zJn (c:Int):∀(l:List Int) (a:List (List Int)×List Int),(l.foldl (fun a x=>if x=c then (a.1++[a.2],[]) else (a.1,a.2++[x])) a).1++[(l.foldl (fun a x=>if x=c then (a.1++[a.2],[]) else (a.1,a.2++[x])) a).2]=
  a.1++(match zDN c l with|h::t=>(a.2++h)::t|[]=>[a.2])
 |[],a=>by simp [zDN]
 |x::l,a=>by
  simp only [List.foldl_cons]
  rw [zJn c l]
  have hn:=zGR c l
  by_cases h:x=c
  ·rw [if_pos h]
   conv=>rhs; unfold zDN
   rw [if_pos h]
   cases hc:zDN c l with
   |nil=>exact absurd hc hn
   |cons a t=>simp
  ·rw [if_neg h]
   conv=>rhs; unfold zDN
   rw [if_neg h]
   cases hc:zDN c l with
   |nil=>exact absurd hc hn
   |cons a t=>simp
theorem zKO (c:Int) (l:List Int):(zJV c l).1++[(zJV c l).2]=zDN c l:=by
 unfold zJV
 rw [zJn c l ([],[])]
 cases h:zDN c l with
 |nil=>exact absurd h (zGR c l)
 |cons a t=>simp
theorem zEk (c:Int) (l:List Int) (x:Int):zJV c (l++[x])=if x=c then ((zJV c l).1++[(zJV c l).2],[]) else ((zJV c l).1,(zJV c l).2++[x]):=by
 unfold zJV
 rw [List.foldl_append]
 rfl
theorem zLK (c:Int) (l:List Int):(zJV c l).1.length ≤l.length:=by
 have h1:=zKO c l
 have h2:=zDV c l
 rw [←h1] at h2
 simp at h2
 exact h2
theorem zD7 (s:ByteArray) (c:Int) (h:s.size≤1048577):uH s c=some (vX c s):=by
 have hlen:=yK s
 obtain ⟨t,e,ht⟩:=uR (b:=zA0 s c) (fun i q=>q.2.2=(i:Int)∧
   ((i≤s.size∧q.1.map bl=(zJV c ((bl s).take i)).1∧∃f:Nat,q.2.1=(f:Int)∧f≤i∧((bl s).drop f).take (i-f)=(zJV c ((bl s).take i)).2)∨(i=s.size+1∧q.1.map bl=zDN c (bl s)))) (s.size+1)
  (fun t=>t.map bl=zDN c (bl s)) (by
  rintro i ⟨out,from_,j⟩ hi ⟨hj,hI⟩
  simp only at hj hI
  subst hj
  rcases hI with ⟨hle,ho,f,hf,hfi,hc⟩|⟨he,_⟩
  case inr=>omega
  subst hf
  have hol:out.length≤i:=by
   have:=congrArg List.length ho
   rw [List.length_map] at this
   rw [this]
   refine Nat.le_trans (zLK _ _) ?_
   simp
   omega
  unfold zA0
  rw [if_pos (by simp; omega)]
  simp only
  by_cases hn:i=s.size
  ·subst hn
   have es:zFY s (f:Int) (s.size:Int)=some (s.extract f s.size):=zIv hfi (Nat.le_refl _)
   rw [if_pos (by simp)]
   simp only [Option.bind_some,if_true]
   rw [es]
   simp only [Option.bind_some]
   rw [zAG (by simp; omega) (by simp; omega),zP (by omega)]
   refine .inl ⟨_,rfl,rfl,.inr ⟨trivial,?_⟩⟩
   have htk:(bl s).take s.size=bl s:=by rw [←hlen,List.take_length]
   rw [htk] at ho hc
   rw [List.map_append,ho,←zKO]
   simp only [List.map_cons,List.map_nil]
   rw [zCh,hc]
  ·have hlt:i< (bl s).length :=by omega
   have htk:(bl s).take (i+1)=(bl s).take i++[(bl s)[i]]:=List.take_succ_eq_append_getElem hlt
   rw [if_neg (by simp; omega),zDr hlt]
   simp only [Option.bind_some]
   by_cases hb:(bl s)[i]=c
   ·rw [show ((bl s)[i]==c)=true by simpa using hb]
    simp only [if_true]
    have es:zFY s (f:Int) (i:Int)=some (s.extract f i):=zIv hfi (by omega)
    rw [es]
    simp only [Option.bind_some]
    rw [zAG (by simp; omega) (by simp; omega),zP (by omega)]
    refine .inl ⟨_,rfl,rfl,.inl ⟨by omega,?_,i+1,rfl,Nat.le_refl _,?_⟩⟩
    ·rw [htk,zEk,if_pos hb,List.map_append,ho]
     simp only [List.map_cons,List.map_nil]
     rw [zCh,hc]
    ·rw [htk,zEk,if_pos hb]
     simp
   ·rw [show ((bl s)[i]==c)=false by simpa using hb]
    simp only [Bool.false_eq_true,if_false,Option.bind_some]
    rw [zP (by omega)]
    refine .inl ⟨_,rfl,rfl,.inl ⟨by omega,?_,f,rfl,by omega,?_⟩⟩
    ·rw [htk,zEk,if_neg hb]
     exact ho
    ·rw [htk,zEk,if_neg hb,←hc,show i+1-f=(i-f)+1 by omega]
     have hd:i-f< ((bl s).drop f).length :=by simp; omega
     rw [List.take_succ_eq_append_getElem hd]
     congr 2
     rw [List.getElem_drop]
     congr 1
     omega) (by
  rintro ⟨out,from_,j⟩ ⟨hj,hI⟩
  simp only at hj hI
  subst hj
  rcases hI with ⟨hle,_⟩|⟨_,ho⟩
  ·omega
  unfold zA0
  rw [if_neg (by simp; omega)]
  exact ⟨_,rfl,ho⟩) (s.size+1) 0 (([]:List ByteArray),0,0) (by omega) ⟨rfl,.inl ⟨by omega,rfl,0,rfl,by omega,by simp [zJV]⟩⟩
 unfold uH zAR
 rw [e,zHN ht]
 rfl
def zCI (s:ByteArray):List ByteArray:=if (vX 10 s).getLast? =some (bs []) then (vX 10 s).dropLast else vX 10 s
theorem zGz (ps:List ByteArray) (h0:ps≠[]) (hl:ps.length≤1048578):((idx ps (w64 ((ps.length:Int)-1))).bind fun x4=>(if seq x4 (bs []) then ((zDG ps 0 (w64 ((ps.length:Int)-1))).bind fun x7=>some x7) else (some ps)).bind fun v9=>some v9)=
  some (if ps.getLast? =some (bs []) then ps.dropLast else ps):=by
 have hp:0<ps.length:=List.length_pos_iff.2 h0
 rw [tH (by omega) (by omega),show (ps.length:Int)-1=((ps.length-1:Nat):Int) by omega,zL (show ps.length-1<ps.length by omega)]
 simp only [Option.bind_some]
 have hg:ps.getLast? =some ps[ps.length-1]:=by
  rw [List.getLast?_eq_getElem?,List.getElem?_eq_getElem]
 rw [hg]
 by_cases h:ps[ps.length-1]=bs []
 ·rw [if_pos (zE7.2 h),if_pos (by rw [h])]
  have e:zDG ps 0 ((ps.length-1:Nat):Int)=some (ps.take (ps.length-1)):=zEf (by omega)
  rw [e,List.dropLast_eq_take]
  rfl
 ·have hs:seq ps[ps.length-1] (bs [])=false:=by
   cases hq:seq ps[ps.length-1] (bs []) with
   |false=>rfl
   |true=>exact absurd (zE7.1 hq) h
  rw [hs,if_neg (show ¬(some ps[ps.length-1]=some (bs [])) from fun e=>h (Option.some.inj e))]
  rfl
theorem zHJ (c:Int) (s:ByteArray):vX c s≠[]:=by
 unfold vX
 intro h
 exact zGR c (bl s) (List.map_eq_nil_iff.1 h)
theorem zDa (c:Int) (s:ByteArray):(vX c s).length ≤s.size+1:=by
 unfold vX
 rw [List.length_map,←yK]
 exact zDV c (bl s)
theorem zH9 (s:ByteArray) (h:s.size≤1048577):zB2 s=some (zCI s):=by
 unfold zB2
 rw [zD7 s 10 h]
 exact zGz _ (zHJ _ _) (by have:=zDa 10 s; omega)
theorem zHH (s:ByteArray) (h:s.size≤1048577):zAZ s=some (zCI s):=by
 unfold zAZ
 have e:=zE2 s 10 h
 rw [show (((10:UInt8).toNat :Nat):Int)=10 from rfl] at e
 rw [show bs [10]=⟨#[10]⟩ from rfl,e]
 exact zGz _ (zHJ _ _) (by have:=zDa 10 s; omega)
theorem zG0 (s:ByteArray):(zCI s).length ≤s.size+1:=by
 have:=zDa 10 s
 unfold zCI
 split
 ·simp; omega
 ·exact this
theorem zF7 (s:ByteArray):∀p∈zCI s,p.size≤s.size:=by
 intro p hp
 have hm:p∈vX 10 s:=by
  unfold zCI at hp
  split at hp
  ·exact (List.dropLast_sublist _).subset hp
  ·exact hp
 have hb:bl p∈zDN 10 (bl s):=by
  rw [←zF9]
  exact List.mem_map_of_mem hm
 have:=zFm 10 (bl s) _ hb
 rw [yK,yK] at this
 exact this
def zNY:zN:= {Code:=5,Version:=zeroV}
def zDm (i:Nat) (a:List Int) (x:ByteArray):Lp (List Int) (Fl zN (List Int)):=match zGa (bl x) 3 with
 |some n=>.go (a.set i n)
 |none=>.done (.ret zNY)
def zN5 (t:Fl zN (List Int)):zN:=match t with
 | .ret r=>r
 | .nxt l=> {Code:=0,Version:= {A:=l.getD 0 0,B:=l.getD 1 0,C:=l.getD 2 0}}
def PV (s:ByteArray):zN:=if (vX 46 s).length >3 then zNY else zN5 (goL zDm .nxt 0 (vX 46 s) [0,0,0])
theorem zIh {l:List Int} {n:Int} (h:zGa l 3=some n):0≤n:=by
 unfold zGa at h
 split at h
 ·cases h
 ·rename_i h1
  cases h
  exact (zCB (l:=l) (by
   intro c hc
   cases hd:zEw c with
   |true=>rfl
   |false=>exact absurd (.inr (.inr (fun h'=>by rw [h' c hc] at hd; cases hd))) h1)).1
theorem zG4:∀(ps:List ByteArray) (i:Nat) (a:List Int),a.length=3→match goL zDm Fl.nxt i ps a with| .ret r=>r=zNY| .nxt l=>l.length=3
 |[],_,a,h=>h
 |p::ps,i,a,h=>by
  simp only [goL]
  unfold zDm
  cases hn:zGa (bl p) 3 with
  |none=>rfl
  |some n=>exact zG4 ps (i+1) (a.set i n) (by simpa using h)
theorem zE4 (s:ByteArray) (h:s.size≤1048577):wN s=some (PV s):=by
 unfold wN PV
 rw [zD7 s 46 h]
 simp only [Option.bind_some]
 by_cases hl:(vX 46 s).length >3
 ·rw [if_pos (by simp; omega),if_pos hl]; rfl
 rw [if_neg (by simp; omega),if_neg hl]
 have key:=zHQ (vX 46 s) zDm Fl.nxt (fun i a=>(a,(i:Int))) (fun _ a=>a.length=3) (b:=uI (vX 46 s)) [0,0,0] (by
  intro i a hi ha
  unfold uI zDm
  rw [if_pos (by simp; omega),zL hi]
  simp only [Option.bind_some,zDU _ 3 (by omega)]
  cases hn:zGa (bl (vX 46 s)[i]) 3 with
  |none=>exact ⟨rfl,fun a' h=>by cases h⟩
  |some n=>
   simp only [Bool.not_true,Bool.false_eq_true,if_false]
   rw [zL (show i<a.length by omega),zP (by omega)]
   exact ⟨rfl,fun a' h=>by cases h; simpa using ha⟩) (by
  intro a ha
  unfold uI
  rw [if_neg (by simp)]) rfl
 unfold uW
 rw [show ((0:Nat):Int)=0 from rfl] at key
 rw [key]
 have h3:=zG4 (vX 46 s) 0 [0,0,0] rfl
 cases hg:goL zDm Fl.nxt 0 (vX 46 s) [0,0,0] with
 |ret r=>rfl
 |nxt l=>
  rw [hg] at h3
  match l,h3 with
  |[x,y,z],_=>rfl
theorem zE6 (s:ByteArray) (h:s.size≤1048577):vM s=some (PV s):=by
 unfold vM PV
 have e:=zE2 s 46 h
 rw [show (((46:UInt8).toNat :Nat):Int)=46 from rfl] at e
 rw [show bs [46]=⟨#[46]⟩ from rfl,e]
 simp only [Option.bind_some]
 by_cases hl:(vX 46 s).length >3
 ·rw [if_pos (by simp; omega),if_pos hl]; rfl
 rw [if_neg (by simp; omega),if_neg hl]
 have key:=zHQ (vX 46 s) zDm Fl.nxt (fun i a=>(a,(i:Int))) (fun _ a=>a.length=3) (b:=uG (vX 46 s)) [0,0,0] (by
  intro i a hi ha
  have hia:i<a.length:=by omega
  unfold uG zDm
  rw [if_pos (by simp; omega),zL hi]
  simp only [Option.bind_some,number_eq _ 3 (by omega)]
  have ea:∀(b:List Int),b.length=3→zLe b 3 (i:Int)=idx b (i:Int):=fun b hb=>if_pos hb
  rw [ea a ha,zL hia]
  simp only [Option.bind_some,Int.toNat_natCast]
  rw [ea _ (by simpa using ha),zL (by simpa using hia)]
  simp only [Option.bind_some,List.getElem_set_self]
  cases hn:zGa (bl (vX 46 s)[i]) 3 with
  |none=>exact ⟨rfl,fun a' h=>by cases h⟩
  |some n=>
   have:=zIh hn
   simp only
   rw [if_neg (by simpa using this),zP (by omega)]
   exact ⟨rfl,fun a' h=>by cases h; simpa using ha⟩) (by
  intro a ha
  unfold uG
  rw [if_neg (by simp)]) rfl
 unfold uV
 rw [show ((0:Nat):Int)=0 from rfl] at key
 rw [key]
 have h3:=zG4 (vX 46 s) 0 [0,0,0] rfl
 cases hg:goL zDm Fl.nxt 0 (vX 46 s) [0,0,0] with
 |ret r=>rfl
 |nxt l=>
  rw [hg] at h3
  match l,h3 with
  |[x,y,z],_=>rfl
theorem zEx:∀{l1 l2:List Int},l1.Pairwise (· < ·)→l2.Pairwise (· < ·)→(∀x,x∈l1↔x∈l2)→l1=l2
 |[],[],_,_,_=>rfl
 |[],y::l2,_,_,h=>by have:=(h y).2 (by simp); simp at this
 |x::l1,[],_,_,h=>by have:=(h x).1 (by simp); simp at this
 |x::l1,y::l2,h1,h2,h=>by
  rw [List.pairwise_cons] at h1 h2
  have hxy:x=y:=by
   have hx:=(h x).1 (by simp)
   have hy:=(h y).2 (by simp)
   rcases List.mem_cons.1 hx with e|hx
   ·exact e
   ·rcases List.mem_cons.1 hy with e|hy
    ·exact e.symm
    ·have:=h1.1 y hy
     have:=h2.1 x hx
     omega
  subst hxy
  congr 1
  refine zEx h1.2 h2.2 fun z=>?_
  constructor
  ·intro hz
   rcases List.mem_cons.1 ((h z).1 (List.mem_cons_of_mem _ hz)) with e|hz'
   ·have:=h1.1 z hz; omega
   ·exact hz'
  ·intro hz
   rcases List.mem_cons.1 ((h z).2 (List.mem_cons_of_mem _ hz)) with e|hz'
   ·have:=h2.1 z hz; omega
   ·exact hz'
theorem zDu {l:List Int} (h:l.Pairwise (· < ·)) {i j:Nat} (hi:i<l.length) (hj:j<l.length) (hij:i<j):l[i]<l[j]:=List.pairwise_iff_getElem.1 h i j hi hj hij
theorem zG6 (l:List Int) (v:Int) (hs:l.Pairwise (· < ·)) (hv:v∉l) (hl:l.length≤1048576):
  ∃r,tV l v=some r∧r.Pairwise (· < ·)∧(∀x,x∈r↔x∈l∨x=v)∧r.length=l.length+1:=by
 obtain ⟨⟨acc,inn⟩,e,h1,h2,h3,h4⟩:=uR (b:=zBC l v)
  (fun i s=>s.2.2=(i:Int)∧s.1.Pairwise (· < ·)∧(∀x,x∈s.1↔x∈l.take i∨(s.2.1=true∧x=v))∧s.1.length=i+(if s.2.1 then 1 else 0)∧(s.2.1=false→∀x∈l.take i,x<v)∧(s.2.1=true→∀x∈l.drop i,v<x)) l.length
  (fun t=>t.1.Pairwise (· < ·)∧(∀x,x∈t.1↔x∈l∨(t.2=true∧x=v))∧t.1.length=l.length+(if t.2 then 1 else 0)∧(t.2=false→∀x∈l,x<v)) (by
  rintro i ⟨acc,inn,j⟩ hi ⟨hj,hp,hm,hlen,hf,ht⟩
  simp only at hj hp hm hlen hf ht
  subst hj
  have hlt:∀x∈l.take i,x<l[i]:=by
   intro x hx
   obtain ⟨k,hk,rfl⟩:=List.mem_iff_getElem.1 hx
   rw [List.getElem_take]
   have:k<i:=by simp at hk; omega
   exact zDu hs (by omega) hi this
  have htk:l.take (i+1)=l.take i++[l[i]]:=List.take_succ_eq_append_getElem hi
  have hdr:l.drop i=l[i]::l.drop (i+1):=List.drop_eq_getElem_cons hi
  have hne:l[i]≠v:=fun e=>hv (e▸List.getElem_mem hi)
  have hal:acc.length≤1048577:=by rw [hlen]; split<;>omega
  unfold zBC
  rw [if_pos (by simp; omega),zL hi]
  simp only [Option.bind_some]
  rw [zP (by omega)]
  refine .inl ?_
  cases inn
  ·by_cases hgt:l[i]>v
   ·rw [if_pos (by simpa using hgt)]
    simp only [Bool.not_false,Option.bind_some,if_true]
    rw [zAG (by simp; omega) (by simp; omega)]
    simp only [Option.bind_some]
    rw [zAG (by simp; omega) (by simp; omega)]
    refine ⟨_,rfl,rfl,?_,?_,?_,by simp,?_⟩
    ·simp only
     have hav:∀x∈acc,x<v:=fun x hx=>hf rfl x (by have:=(hm x).1 hx; simpa using this)
     rw [List.pairwise_append,List.pairwise_append]
     refine ⟨⟨hp,by simp,fun x hx y hy=>by simp at hy; rw [hy]; exact hav x hx⟩,by simp,fun x hx y hy=>?_⟩
     simp at hy
     rw [hy]
     rcases List.mem_append.1 hx with hx|hx
     ·have:=hav x hx; omega
     ·simp at hx; omega
    ·intro x
     have:=hm x
     simp only [List.mem_append,List.mem_singleton,htk]
     simp at this
     rw [this]
     simp
     constructor<;>(intro h; rcases h with (h|h)|h<;>simp [h])
    ·simp; simp at hlen; omega
    ·intro _ x hx
     have:l[i]<x:=by
      obtain ⟨k,hk,rfl⟩:=List.mem_iff_getElem.1 hx
      rw [List.getElem_drop]
      simp at hk
      exact zDu hs hi (by omega) (by omega)
     omega
   ·rw [if_neg (by simpa using hgt)]
    simp only [Option.bind_some,Bool.false_eq_true,if_false]
    rw [zAG (by simp; omega) (by simp; omega)]
    refine ⟨_,rfl,rfl,?_,?_,?_,?_,by simp⟩
    ·simp only
     rw [List.pairwise_append]
     refine ⟨hp,by simp,fun x hx y hy=>?_⟩
     simp at hy
     rw [hy]
     have:=(hm x).1 hx
     exact hlt x (by simpa using this)
    ·intro x
     have:=hm x
     simp only [List.mem_append,List.mem_singleton,htk]
     simp at this
     rw [this]
     simp
    ·simp; simp at hlen; omega
    ·intro _ x hx
     rw [htk] at hx
     rcases List.mem_append.1 hx with hx|hx
     ·exact hf rfl x hx
     ·simp at hx; omega
  ·have hlv:v<l[i]:=ht rfl _ (by rw [hdr]; exact List.mem_cons_self)
   rw [if_pos (by simpa using hlv)]
   simp only [Bool.not_true,Option.bind_some,Bool.false_eq_true,if_false]
   rw [zAG (by simp; omega) (by simp; omega)]
   refine ⟨_,rfl,rfl,?_,?_,?_,by simp,?_⟩
   ·simp only
    rw [List.pairwise_append]
    refine ⟨hp,by simp,fun x hx y hy=>?_⟩
    simp at hy
    rw [hy]
    rcases (hm x).1 hx with hx|⟨_,hx⟩
    ·exact hlt x hx
    ·omega
   ·intro x
    have:=hm x
    simp only [List.mem_append,List.mem_singleton,htk]
    rw [this]
    simp
    constructor<;>(intro h; rcases h with (h|h)|h<;>simp [h])
   ·simp; simp at hlen; omega
   ·intro _ x hx
    exact ht rfl x (by rw [hdr]; exact List.mem_cons_of_mem _ hx)) (by
  rintro ⟨acc,inn,j⟩ ⟨hj,hp,hm,hlen,hf,ht⟩
  simp only at hj hp hm hlen hf ht
  subst hj
  unfold zBC
  rw [if_neg (by simp)]
  rw [List.take_length] at hm hf
  exact ⟨_,rfl,hp,hm,hlen,hf⟩) l.length 0 (([]:List Int),false,0) (by omega) ⟨rfl,by simp,by simp,by simp,by simp,by simp⟩
 simp only at h1 h2 h3 h4
 unfold tV zCs
 rw [e]
 simp only [Option.bind_some]
 cases inn
 ·simp only [Bool.not_false,if_true]
  simp at h3
  rw [zAG (by simp; omega) (by simp; omega)]
  refine ⟨_,rfl,?_,?_,by simp; omega⟩
  ·rw [List.pairwise_append]
   refine ⟨h1,by simp,fun x hx y hy=>?_⟩
   simp at hy
   rw [hy]
   have:=(h2 x).1 hx
   exact h4 rfl x (by simpa using this)
  ·intro x
   have:=h2 x
   simp at this
   simp [this]
 ·refine ⟨_,rfl,h1,?_,by simpa using h3⟩
  intro x
  have:=h2 x
  simpa using this
theorem zGA (a:List Int) (k0:Nat) (h0:1≤k0) (hk:k0<a.length) (hs:a.Pairwise (· ≤ ·)) (hl:a.length≤1048577) (hd:a[k0]'hk=a[k0-1]'(by omega)) (hp0:(a.take k0).Pairwise (· < ·)) (x48:List Int) (hx:x48.length=a.length-k0):
  ∃xs k,xM (k0:Int) x48 (a,(k0:Int),1)=some (xs,((k:Nat):Int))∧xs.length=a.length∧k≤a.length∧(xs.take k).Pairwise (· < ·)∧∀x,x∈xs.take k↔x∈a:=by
 have hle:∀(i j:Nat) (hi:i<a.length) (hj:j<a.length),i≤j→a[i]≤a[j]:=by
  intro i j hi hj hij
  rcases Nat.lt_or_ge i j with h|h
  ·exact List.pairwise_iff_getElem.1 hs i j hi hj h
  ·have:i=j:=by omega
   subst this; exact Int.le_refl _
 obtain ⟨⟨xs,k'⟩,e,h1,k,h2,h3,h4,h5⟩:=uR (b:=xX (k0:Int) x48)
  (fun i s=>s.2.2=((i+1:Nat):Int)∧s.1.length=a.length∧(∀j,i+k0≤j→s.1[j]? =a[j]?)∧∃k:Nat,s.2.1=(k:Int)∧1≤k∧k≤i+k0∧(s.1.take k).Pairwise (· < ·)∧(∀x,x∈s.1.take k↔x∈a.take (i+k0+1))∧(∀x∈s.1.take k,x≤a.getD (i+k0) 0)) (a.length-k0-1)
  (fun t=>t.1.length=a.length∧∃k:Nat,t.2=(k:Int)∧k≤a.length∧(t.1.take k).Pairwise (· < ·)∧∀x,x∈t.1.take k↔x∈a) (by
  rintro i ⟨xs,kk,jj⟩ hi ⟨hj,hlen,hsame,k,hkk,hk1,hkle,hpw,hmem,hmax⟩
  simp only at hj hlen hsame hkk hpw hmem hmax
  subst hj hkk
  have hi1:i+k0+1<a.length:=by omega
  have g1:xs[i+k0+1]'(by omega)=a[i+k0+1]:=by
   have:=hsame (i+k0+1) (by omega)
   rw [List.getElem?_eq_getElem (by omega),List.getElem?_eq_getElem hi1] at this
   exact Option.some.inj this
  have g0:xs[i+k0]'(by omega)=a[i+k0]:=by
   have:=hsame (i+k0) (by omega)
   rw [List.getElem?_eq_getElem (by omega),List.getElem?_eq_getElem (by omega)] at this
   exact Option.some.inj this
  have hgd:a.getD (i+k0) 0=a[i+k0]:=by simp [List.getD,show i+k0<a.length by omega]
  rw [hgd] at hmax
  have r1:zHa xs (k0:Int) x48.length ((i+1:Nat):Int)=some a[i+k0+1]:=by
   unfold zHa
   rw [if_pos (by omega),show (k0:Int)+((i+1:Nat):Int)=((i+k0+1:Nat):Int) by omega,zL (by omega),g1]
  have r0:zHa xs (k0:Int) x48.length (i:Int)=some a[i+k0]:=by
   unfold zHa
   rw [if_pos (by omega),show (k0:Int)+(i:Int)=((i+k0:Nat):Int) by omega,zL (by omega),g0]
  refine .inl ?_
  unfold xX
  rw [if_pos (by simp; omega)]
  simp only
  rw [r1,tH (x:=((i+1:Nat):Int)-1) (by omega) (by omega),show ((i+1:Nat):Int)-1=(i:Int) by omega,r0,zL (show k<xs.length by omega),zP (show k<_ by omega),zP (show i+1<_ by omega)]
  simp only [Option.bind_some]
  have htk:a.take (i+k0+1+1)=a.take (i+k0+1)++[a[i+k0+1]]:=List.take_succ_eq_append_getElem hi1
  have hmono:=hle (i+k0) (i+k0+1) (by omega) hi1 (by omega)
  have hgd1:a.getD (i+1+k0) 0=a[i+k0+1]:=by
   rw [show i+1+k0=i+k0+1 by omega]
   simp [List.getD,hi1]
  by_cases hne:a[i+k0+1]=a[i+k0]
  ·rw [if_neg (by simp [hne])]
   refine ⟨_,rfl,rfl,hlen,fun j hj=>hsame j (by omega),k,rfl,hk1,by omega,hpw,?_,?_⟩
   ·intro x
    rw [show i+1+k0+1=i+k0+1+1 by omega,htk,hmem,List.mem_append,List.mem_singleton]
    constructor
    ·exact fun h=>.inl h
    ·rintro (h|h)
     ·exact h
     ·rw [h,hne]
      refine List.mem_iff_getElem.2 ⟨i+k0,by simp; omega,by simp⟩
   ·intro x hx
    rw [hgd1]
    exact Int.le_trans (hmax x hx) hmono
  ·rw [if_pos (by simpa using hne)]
   refine ⟨_,rfl,rfl,by simpa using hlen,?_,k+1,rfl,by omega,by omega,?_,?_,?_⟩
   ·intro j hj
    show (xs.set (k:Int).toNat a[i+k0+1])[j]? =a[j]?
    rw [Int.toNat_natCast,List.getElem?_set_ne (by omega)]
    exact hsame j (by omega)
   ·show ((xs.set (k:Int).toNat a[i+k0+1]).take (k+1)).Pairwise (· < ·)
    rw [Int.toNat_natCast,zDj (by omega),List.pairwise_append]
    refine ⟨hpw,by simp,fun x hx y hy=>?_⟩
    simp at hy
    rw [hy]
    have:=hmax x hx
    omega
   ·intro x
    show x∈(xs.set (k:Int).toNat a[i+k0+1]).take (k+1)↔_
    rw [Int.toNat_natCast,zDj (by omega),show i+1+k0+1=i+k0+1+1 by omega,htk,List.mem_append,List.mem_append,hmem]
   ·intro x hx
    have hx':x∈(xs.set (k:Int).toNat a[i+k0+1]).take (k+1):=hx
    rw [Int.toNat_natCast,zDj (by omega)] at hx'
    rw [hgd1]
    rcases List.mem_append.1 hx' with h|h
    ·exact Int.le_trans (hmax x h) hmono
    ·simp at h; omega) (by
  rintro ⟨xs,kk,jj⟩ ⟨hj,hlen,hsame,k,hkk,hk1,hkle,hpw,hmem,hmax⟩
  simp only at hj hlen hsame hkk hpw hmem hmax
  subst hj hkk
  unfold xX
  rw [if_neg (by simp; omega)]
  refine ⟨_,rfl,hlen,k,rfl,by omega,hpw,fun x=>?_⟩
  rw [hmem,List.take_of_length_le (by omega)]) (a.length-k0-1) 0 (a,(k0:Int),1) (by omega) ⟨rfl,rfl,fun _ _=>rfl,k0,rfl,h0,by omega,hp0,by
   intro x
   rw [Nat.zero_add,List.take_succ_eq_append_getElem hk,List.mem_append,List.mem_singleton]
   constructor
   ·exact fun h=>.inl h
   ·rintro (h|h)
    ·exact h
    ·rw [h,hd]
     exact List.mem_iff_getElem.2 ⟨k0-1,by simp; omega,by simp⟩,by
   intro x hx
   rw [Nat.zero_add]
   obtain ⟨j,hj,rfl⟩:=List.mem_iff_getElem.1 hx
   rw [List.getElem_take]
   have hgd:a.getD k0 0=a[k0]:=by simp [List.getD,hk]
   rw [hgd]
   simp at hj
   exact hle j k0 (by omega) hk (by omega)⟩
 simp only at h1 h2
 subst h2
 exact ⟨xs,k,by unfold xM; exact e,h1,h3,h4,h5⟩
theorem zJP (a:List Int) (hs:a.Pairwise (· ≤ ·)) (hl:a.length≤1048577):∃r,xQ a=some r∧r.Pairwise (· < ·)∧(∀x,x∈r↔x∈a)∧r.length≤a.length:=by
 have step1:∀i (hi:i<a.length) (h1:1≤i),(a.take i).Pairwise (· < ·)→a[i]≠a[i-1]'(by omega)→(a.take (i+1)).Pairwise (· < ·):=by
  intro i hi h1 hp hne
  rw [List.take_succ_eq_append_getElem hi,List.pairwise_append]
  refine ⟨hp,by simp,fun x hx y hy=>?_⟩
  simp at hy
  rw [hy]
  obtain ⟨j,hj,rfl⟩:=List.mem_iff_getElem.1 hx
  rw [List.getElem_take]
  simp at hj
  have q1:a[i-1]'(by omega)≤a[i]:=List.pairwise_iff_getElem.1 hs (i-1) i (by omega) hi (by omega)
  have q2:a[j]'(by omega)≤a[i-1]'(by omega):=by
   rcases Nat.lt_or_ge j (i-1) with h|h
   ·exact List.pairwise_iff_getElem.1 hs j (i-1) (by omega) (by omega) h
   ·have:j=i-1:=by omega
    subst this; exact Int.le_refl _
  omega
 have hb:∀i (hi:i<a.length) (h1:1≤i),(a.take i).Pairwise (· < ·)→(a[i]=a[i-1]'(by omega)∧∃r,yX a (i:Int)=some (.done (.ret r))∧r.Pairwise (· < ·)∧(∀x,x∈r↔x∈a)∧r.length≤a.length)∨(a[i]≠a[i-1]'(by omega)∧yX a (i:Int)=some (.go ((i+1:Nat):Int))):=by
  intro i hi h1 hp
  unfold yX
  rw [if_pos (by simp; omega),zL hi,tH (x:=(i:Int)-1) (by omega) (by omega),show (i:Int)-1=((i-1:Nat):Int) by omega,zL (show i-1<a.length by omega),zP (by omega)]
  simp only [Option.bind_some]
  by_cases he:a[i]=a[i-1]'(by omega)
  ·left
   refine ⟨he,?_⟩
   rw [if_pos (by simpa using he),zDl (Nat.le_of_lt hi) (Nat.le_refl _)]
   simp only [Option.bind_some]
   obtain ⟨xs,k,e,g1,g2,g3,g4⟩:=zGA a i h1 hi hs hl he hp ((a.drop i).take (a.length-i)) (by simp)
   rw [e]
   simp only [Option.bind_some]
   have hk:k≤xs.length:=by omega
   rw [zDl hk (Nat.le_refl _)]
   simp only [Option.bind_some]
   rw [zIL (by simp; omega)]
   simp only [Option.bind_some]
   refine ⟨xs.take k,?_,g3,g4,by simp; omega⟩
   have:∀ys:List Int,zDG (xs.take k++ys) 0 (k:Int)=some (xs.take k):=by
    intro ys
    have hh:=zDl (xs:=xs.take k++ys) (l:=0) (h:=k) (by omega) (by simp; omega)
    rw [show ((0:Nat):Int)=0 from rfl] at hh
    rw [hh]
    simp [Nat.min_eq_left hk]
   rw [List.append_assoc,this]
   rfl
  ·right
   rw [if_neg (by simpa using he)]
   exact ⟨he,rfl⟩
 unfold xQ
 by_cases h2:a.length<2
 ·rw [if_pos (by simp; omega)]
  refine ⟨a,rfl,?_,fun x=>Iff.rfl,Nat.le_refl _⟩
  match a,h2 with
  |[],_=>simp
  |[x],_=>simp
 ·rw [if_neg (by simp; omega)]
  obtain ⟨t,e,h⟩:=uR (b:=yX a) (fun i s=>s=((i+1:Nat):Int)∧(a.take (i+1)).Pairwise (· < ·)) (a.length-1)
   (fun t=>(∃r,t= .ret r∧r.Pairwise (· < ·)∧(∀x,x∈r↔x∈a)∧r.length≤a.length)∨(t= .nxt ()∧a.Pairwise (· < ·))) (by
   rintro i s hi ⟨rfl,hp⟩
   rcases hb (i+1) (by omega) (by omega) hp with ⟨_,r,e,q⟩|⟨hne,e⟩
   ·exact .inr ⟨_,e,.inl ⟨r,rfl,q⟩⟩
   ·exact .inl ⟨_,e,rfl,step1 (i+1) (by omega) (by omega) hp hne⟩) (by
   rintro s ⟨rfl,hp⟩
   rw [show a.length-1+1=a.length by omega] at hp ⊢
   refine ⟨.nxt (),?_,.inr ⟨rfl,by rw [List.take_length] at hp; exact hp⟩⟩
   unfold yX
   rw [if_neg (by simp)]) (a.length-1) 0 1 (by omega) ⟨rfl,by
    match a,h2 with
    |x::l,_=>simp⟩
  unfold wI
  rw [e]
  rcases h with ⟨r,rfl,q⟩|⟨rfl,q⟩
  ·exact ⟨r,rfl,q⟩
  ·exact ⟨a,rfl,q,fun x=>Iff.rfl,Nat.le_refl _⟩
def jQ (s:ByteArray):List ByteArray:=(vX 32 s).filter (fun w=> !(seq w (bs [])))
theorem zIH (c:Int) (s:ByteArray):∀p∈vX c s,p.size≤s.size:=by
 intro p hp
 have hb:bl p∈zDN c (bl s):=by
  rw [←zF9]
  exact List.mem_map_of_mem hp
 have:=zFm c (bl s) _ hb
 rw [yK,yK] at this
 exact this
theorem zF5 (s:ByteArray):∀p∈jQ s,p.size≤s.size:=fun p hp=>zIH 32 s p (List.mem_filter.1 hp).1
theorem zHy (s:ByteArray) (h:s.size≤1048577):zBr s=some (jQ s):=by
 have hl:=zDa 32 s
 have key:=zCO (vX 32 s) (fun _ l w=>if !(seq w (bs [])) then l++[w] else l) (fun i l=>l.length≤i) (b:=zA4 (vX 32 s)) (by
  intro i l hi hI
  unfold zA4
  rw [if_pos (by simp; omega)]
  simp only
  rw [zL hi]
  simp only [Option.bind_some]
  rw [zAG (by simp; omega) (by simp; omega),zP (by omega)]
  cases seq (vX 32 s)[i] (bs [])
  ·exact ⟨rfl,by simp; omega⟩
  ·exact ⟨rfl,by simp; omega⟩) (by
  intro l
  unfold zA4
  rw [if_neg (by simp)]) (vX 32 s).length 0 [] (by omega) (by simp)
 unfold zBr
 rw [zD7 s 32 h]
 simp only [Option.bind_some]
 unfold zBz
 rw [show ((0:Nat):Int)=0 from rfl] at key
 rw [key.1,List.drop_zero,zD3 (fun w=> !(seq w (bs [])))]
 rfl
theorem zHR (s:ByteArray) (h:s.size≤1048575):zBb s=some (jQ s):=by
 have hl:=zDa 32 s
 have e:=zE2 s 32 (by omega)
 rw [show (((32:UInt8).toNat :Nat):Int)=32 from rfl] at e
 have key:=zMI (fun w:ByteArray=>seq w (bs [])) (vX 32 s) ByteArray.empty (by omega) (b1:=yG (vX 32 s)) (b2:=yB) (by
  intro i hi
  unfold yG vY
  rw [if_pos (by simp; omega),zL hi]
  simp only [Option.bind_some]
  rw [zP (by omega)]
  split<;>rfl) (by
  unfold yG
  rw [if_neg (by simp)]) (by
  intro xs i j hj hij hl2 hm
  unfold yB vY
  simp only
  rw [if_pos (by simp; omega),zL hj]
  simp only [Option.bind_some]
  rw [zL (show i<xs.length by omega),zP (show j<_ by omega),zP (show i<_ by omega)]
  cases seq xs[j] (bs [])<;>simp) (by
  intro xs i hl2
  unfold yB
  rw [if_neg (by simp)])
 unfold zBb
 rw [show bs [32]=⟨#[32]⟩ from rfl,e]
 simp only [Option.bind_some]
 have e2:zX (vX 32 s)=some (jQ s):=key
 rw [e2]
 rfl
def tF (c:List Pack) (w:List ByteArray):Int:=if w.length≠2 then-1 else if (PV (w.getD 1 (bs []))).Code !=0 then-1 else zEX c (w.getD 0 (bs [])) (PV (w.getD 1 (bs []))).Version
theorem zEK (c:List Pack) (w:List ByteArray):tF c w= -1∨(0≤tF c w∧tF c w<c.length):=by
 unfold tF
 split
 ·exact .inl rfl
 ·split
  ·exact .inl rfl
  ·exact zIn _ _ _
theorem zGW (c:List Pack) (w:List ByteArray) (hc:c.length≤1048576) (hw:∀p∈w,p.size≤1048577):zAx c w=some (tF c w):=by
 unfold zAx tF
 match w,hw with
 |[],_=>rfl
 |[_],_=>rfl
 |[x,y],hw=>
  have e0:idx [x,y] 0=some x:=rfl
  have e1:idx [x,y] 1=some y:=rfl
  rw [if_neg (by simp),e1,e0]
  simp only [Option.bind_some,zE6 y (hw y (by simp))]
  rw [if_neg (show ¬([x,y].length ≠2) by simp)]
  show (if (PV y).Code !=0 then some (-1) else _)=some (if (PV y).Code !=0 then-1 else zEX c x (PV y).Version)
  rw [zGw c x _ hc]
  cases (PV y).Code !=0<;>rfl
 |_::_::_::r,_=>
  rw [if_pos (by simp; omega),if_pos (by simp)]
theorem zIJ (c:List Pack) (w:List ByteArray) (hc:c.length≤1048576) (hw:∀p∈w,p.size≤1048577):(if (w.length:Int)==2 then ((idx w 1).bind fun x36=>(wN x36).bind fun x38=>if x38.Code==0 then ((idx w 0).bind fun x41=>(jM c x41 x38.Version).bind fun x43=>some x43) else (some (-1))) else (some (-1)))=some (tF c w):=by
 unfold tF
 match w,hw with
 |[],_=>rfl
 |[_],_=>rfl
 |[x,y],hw=>
  have e0:idx [x,y] 0=some x:=rfl
  have e1:idx [x,y] 1=some y:=rfl
  rw [if_pos (by simp),e1,e0]
  simp only [Option.bind_some,zE4 y (hw y (by simp))]
  rw [if_neg (show ¬([x,y].length ≠2) by simp)]
  show (if (PV y).Code ==0 then _ else some (-1))=some (if (PV y).Code !=0 then-1 else zEX c x (PV y).Version)
  rw [zGs c x _ hc,bne]
  cases (PV y).Code ==0<;>rfl
 |_::_::_::r,_=>
  rw [if_neg (by simp; omega),if_pos (by simp)]
def zDe (c:List Pack):Nat→List Int→List ByteArray→Fl yE (List Int)
 |_,out,[]=>.nxt out
 |i,out,s::ps=>if tF c (jQ s)<0∨tF c (jQ s)∈out then .ret {Code:=5,At:=i,Set:=[]} else zDe c (i+1) (out++[tF c (jQ s)]) ps
def zOk (t:Fl yE (List Int)):yE:=match t with
 | .ret r=>r
 | .nxt l=> {Code:=0,At:=0,Set:=l.mergeSort (fun x y=>decide (x≤y))}
def PS (c:List Pack) (s:ByteArray):yE:=if s.size>4000 then {Code:=2,At:=0,Set:=[]} else zOk (zDe c 0 [] (zCI s))
theorem zDn (c:List Pack):∀(ps:List ByteArray) (i:Nat) (out:List Int),out.Nodup→(∀k∈out,0≤k∧k<c.length)→match zDe c i out ps with
  | .ret r=>r.Code=5∧r.Set=[]
  | .nxt l=>l.Nodup∧(∀k∈l,0≤k∧k<c.length)
 |[],_,out,h1,h2=>⟨h1,h2⟩
 |s::ps,i,out,h1,h2=>by
  simp only [zDe]
  split
  ·rename_i h
   split at h
   ·cases h; exact ⟨rfl,rfl⟩
   ·rename_i hn
    rw [not_or] at hn
    have:=zDn c ps (i+1) (out++[tF c (jQ s)]) (by
     rw [List.nodup_append]
     refine ⟨h1,by simp,fun a ha b hb=>?_⟩
     simp only [List.mem_singleton] at hb
     subst hb
     intro e
     subst e
     exact hn.2 ha) (by
     intro k hk
     rcases List.mem_append.1 hk with hk|hk
     ·exact h2 k hk
     ·simp only [List.mem_singleton] at hk
      subst hk
      rcases zEK c (jQ s) with h|h
      ·omega
      ·exact h)
    rw [h] at this
    exact this
  ·rename_i l h
   split at h
   ·cases h
   ·rename_i hn
    rw [not_or] at hn
    have:=zDn c ps (i+1) (out++[tF c (jQ s)]) (by
     rw [List.nodup_append]
     refine ⟨h1,by simp,fun a ha b hb=>?_⟩
     simp only [List.mem_singleton] at hb
     subst hb
     intro e
     subst e
     exact hn.2 ha) (by
     intro k hk
     rcases List.mem_append.1 hk with hk|hk
     ·exact h2 k hk
     ·simp only [List.mem_singleton] at hk
      subst hk
      rcases zEK c (jQ s) with h|h
      ·omega
      ·exact h)
    rw [h] at this
    exact this
theorem zKe {l:List Int} (h:l.Nodup):(l.mergeSort (fun x y=>decide (x≤y))).Pairwise (· < ·)∧∀x,x∈l.mergeSort (fun x y=>decide (x≤y))↔x∈l:=by
 have hp:(l.mergeSort (fun x y=>decide (x≤y))).Perm l:=List.mergeSort_perm _ _
 have hs:(l.mergeSort (fun x y=>decide (x≤y))).Pairwise (fun x y=>(decide (x≤y))=true):=List.pairwise_mergeSort (fun a b c h1 h2=>by simp at h1 h2 ⊢; omega) (fun a b=>by simp; omega) l
 have hn:(l.mergeSort (fun x y=>decide (x≤y))).Nodup :=hp.nodup_iff.2 h
 refine ⟨?_,fun x=>hp.mem_iff⟩
 rw [List.pairwise_iff_getElem] at hs ⊢
 intro i j hi hj hij
 have h1:=hs i j hi hj hij
 have h2:=(List.pairwise_iff_getElem.1 hn) i j hi hj hij
 simp only [decide_eq_true_eq] at h1
 omega
theorem zGP (c:List Pack) (s:ByteArray):(((PS c s).Code =2∨(PS c s).Code =5)∧(PS c s).Set =[])∨(PS c s).Code =0∧(PS c s).At =0∧(PS c s).Set.Pairwise (· < ·)∧∀k∈(PS c s).Set,0≤k∧k<c.length:=by
 have key:∀r,r=PS c s→((r.Code=2∨r.Code=5)∧r.Set=[])∨r.Code=0∧r.At=0∧r.Set.Pairwise (· < ·)∧∀k∈r.Set,0≤k∧k<c.length:=by
  intro r hr
  unfold PS at hr
  split at hr
  ·subst hr
   exact .inl ⟨.inl rfl,rfl⟩
  ·have:=zDn c (zCI s) 0 [] (by simp) (by simp)
   cases h:zDe c 0 [] (zCI s) with
   |ret q=>
    rw [h] at this hr
    simp only [zOk] at hr
    subst hr
    exact .inl ⟨.inr this.1,this.2⟩
   |nxt l=>
    rw [h] at this hr
    simp only [zOk] at hr
    subst hr
    obtain ⟨h1,h2⟩:=zKe this.1
    exact .inr ⟨rfl,rfl,h1,fun k hk=>this.2 k ((h2 k).1 hk)⟩
 exact key _ rfl
section
variable {c:List Pack} (hc:c.length≤1048576)
include hc
theorem zEM (ps:List ByteArray) (hps:∀p∈ps,p.size≤100000) (hl:ps.length≤100000):∀(k i:Nat) (S out:List Int),i+k=ps.length→out.length≤i→S.length≤i→S.Pairwise (· < ·)→(∀x,x∈S↔x∈out)→
  ∃t,loop (jX c ps) (S,(i:Int))=some t∧match zDe c i out (ps.drop i) with
   | .ret r=>t= .ret r
   | .nxt l=>∃S',t= .nxt S'∧S'.Pairwise (· < ·)∧∀x,x∈S'↔x∈l
 |0,i,S,out,hk,ho,hS,h1,h2=>by
  have e:i=ps.length:=by omega
  subst e
  rw [jS]
  unfold jX
  rw [if_neg (by simp),List.drop_length]
  exact ⟨_,rfl,S,rfl,h1,h2⟩
 |k+1,i,S,out,hk,ho,hS,h1,h2=>by
  have hi:i<ps.length:=by omega
  have hm:=List.getElem_mem hi
  have hw:=zF5 ps[i]
  have hps1:=hps _ hm
  have hb:jX c ps (S,(i:Int))=if tF c (jQ ps[i])<0∨tF c (jQ ps[i])∈S then some (.done (.ret {Code:=5,At:=i,Set:=[]})) else (tV S (tF c (jQ ps[i]))).bind fun x51=>some (.go (x51,((i+1:Nat):Int))):=by
   unfold jX
   rw [if_pos (by simp; omega),zL hi]
   simp only [Option.bind_some,zHy _ (show ps[i].size ≤1048577 by omega)]
   rw [zIJ c _ hc (fun p hp=>by have:=hw p hp; omega)]
   simp only [Option.bind_some]
   by_cases hneg:tF c (jQ ps[i])<0
   ·rw [if_pos (by simpa using hneg),if_pos (.inl hneg)]
    rfl
   ·rw [if_neg (by simpa using hneg),zDi S _ (by omega),zP (by omega)]
    simp only [Option.bind_some]
    by_cases hmem:tF c (jQ ps[i])∈S
    ·rw [if_pos (by simpa using hmem),if_pos (.inr hmem)]
    ·rw [if_neg (by simpa using hmem),if_neg (by rw [not_or]; exact ⟨hneg,hmem⟩)]
  rw [jS,hb,List.drop_eq_getElem_cons hi]
  simp only [zDe]
  by_cases hbad:tF c (jQ ps[i])<0∨tF c (jQ ps[i])∈out
  ·rw [if_pos hbad,if_pos (by rw [h2]; exact hbad)]
   exact ⟨_,rfl,rfl⟩
  ·have hbad2:¬(tF c (jQ ps[i])<0∨tF c (jQ ps[i])∈S):=by rw [h2]; exact hbad
   rw [if_neg hbad,if_neg hbad2]
   obtain ⟨r,er,r1,r2,r3⟩:=zG6 S (tF c (jQ ps[i])) h1 (fun h=>hbad2 (.inr h)) (by omega)
   rw [er]
   simp only [Option.bind_some,Lp.elim]
   refine zEM ps hps hl k (i+1) r (out++[tF c (jQ ps[i])]) (by omega) (by simp; omega) (by omega) r1 (fun x=>?_)
   rw [r2,h2,List.mem_append,List.mem_singleton]
end
section
variable {c:List Pack} (hc:c.length≤1048576)
include hc
theorem zHs (s:ByteArray) (h:s.size≤90000):zAT c s=some (PS c s):=by
 unfold zAT PS
 by_cases h4:s.size>4000
 ·rw [if_pos (by simp; omega),if_pos h4]
 ·rw [if_neg (by simp; omega),if_neg h4,zH9 s (by omega)]
  simp only [Option.bind_some]
  have hlen:=zG0 s
  obtain ⟨t,e,ht⟩:=zEM hc (zCI s) (fun p hp=>by have:=zF7 s p hp; omega) (by omega) (zCI s).length 0 [] [] (by omega) (by simp) (by simp) (by simp) (by simp)
  rw [List.drop_zero] at ht
  unfold zBm
  rw [show ((0:Nat):Int)=0 from rfl] at e
  rw [e]
  have hg:=zDn c (zCI s) 0 [] (by simp) (by simp)
  cases hr:zDe c 0 [] (zCI s) with
  |ret r=>
   rw [hr] at ht
   simp only at ht
   subst ht
   rfl
  |nxt l=>
   rw [hr] at ht hg
   obtain ⟨S',rfl,h1,h2⟩:=ht
   obtain ⟨g1,g2⟩:=zKe hg.1
   have:S'=l.mergeSort (fun x y=>decide (x≤y)):=zEx h1 g1 (fun x=>by rw [h2,g2])
   subst this
   rfl
end
section
variable {c:List Pack} (hc:c.length≤1048576)
include hc
theorem zEs (ps:List ByteArray) (hps:∀p∈ps,p.size≤100000) (hl:ps.length≤100000):∀(k i:Nat) (out:List Int),i+k=ps.length→out.length≤i→loop (tO c ps) (out,(i:Int))=some (zDe c i out (ps.drop i))
 |0,i,out,hk,ho=>by
  have e:i=ps.length:=by omega
  subst e
  rw [jS]
  unfold tO
  rw [if_neg (by simp),List.drop_length]
  rfl
 |k+1,i,out,hk,ho=>by
  have hi:i<ps.length:=by omega
  have hm:=List.getElem_mem hi
  have hw:=zF5 ps[i]
  have hps1:=hps _ hm
  have hb:tO c ps (out,(i:Int))=if tF c (jQ ps[i])<0∨tF c (jQ ps[i])∈out then some (.done (.ret {Code:=5,At:=i,Set:=[]})) else some (.go (out++[tF c (jQ ps[i])],((i+1:Nat):Int))):=by
   unfold tO
   rw [if_pos (by simp; omega),zL hi]
   simp only [Option.bind_some,zHR _ (show ps[i].size ≤1048575 by omega)]
   rw [zGW c _ hc (fun p hp=>by have:=hw p hp; omega)]
   simp only [Option.bind_some]
   rw [zAG (by simp; omega) (by simp; omega),zP (by omega)]
   by_cases hneg:tF c (jQ ps[i])<0
   ·rw [if_pos (by simpa using hneg),if_pos (.inl hneg)]
    rfl
   ·rw [if_neg (by simpa using hneg),zDC out _ (by omega)]
    simp only [Option.bind_some]
    by_cases hmem:tF c (jQ ps[i])∈out
    ·rw [if_pos (by simpa using hmem),if_pos (.inr hmem)]
    ·rw [if_neg (by simpa using hmem),if_neg (by rw [not_or]; exact ⟨hneg,hmem⟩)]
  rw [jS,hb,List.drop_eq_getElem_cons hi]
  simp only [zDe]
  by_cases hbad:tF c (jQ ps[i])<0∨tF c (jQ ps[i])∈out
  ·rw [if_pos hbad,if_pos hbad]
   rfl
  ·rw [if_neg hbad,if_neg hbad]
   simp only [Option.bind_some,Lp.elim]
   exact zEs ps hps hl k (i+1) (out++[tF c (jQ ps[i])]) (by omega) (by simp; omega)
end
theorem zGD {c:List Pack} (hC:Cat c) (s:ByteArray) (h:s.size≤90000):zAt c s=some (if CF c !=0 then {Code:=CF c,At:=0,Set:=[]} else PS c s):=by
 have hc:=hC.1
 unfold zAt PS
 rw [zCZ c hC]
 simp only [Option.bind_some]
 cases CF c !=0
 case true=>rfl
 simp only [Bool.false_eq_true,if_false]
 by_cases h4:s.size>4000
 ·rw [if_pos (by simp; omega),if_pos h4]
 ·rw [if_neg (by simp; omega),if_neg h4,zHH s (by omega)]
  simp only [Option.bind_some]
  have hlen:=zG0 s
  have e:=zEs hc (zCI s) (fun p hp=>by have:=zF7 s p hp; omega) (by omega) (zCI s).length 0 [] (by omega) (by simp)
  rw [List.drop_zero,show ((0:Nat):Int)=0 from rfl] at e
  unfold zA3
  rw [e]
  have hlp:∀(ps:List ByteArray) (i:Nat) (out l:List Int),zDe c i out ps= .nxt l→l.length≤out.length+ps.length:=by
   intro ps
   induction ps with
   |nil=>intro i out l h; cases h; simp
   |cons s ps ih=>
    intro i out l h
    simp only [zDe] at h
    split at h
    ·cases h
    ·have:=ih _ _ _ h
     simp at this ⊢
     omega
  cases hr:zDe c 0 [] (zCI s) with
  |ret r=>rfl
  |nxt l=>
   have hl:=hlp _ _ _ _ hr
   simp only [Option.bind_some,Fl.go]
   unfold xB
   rw [if_pos (by simp at hl; omega)]
   simp only [Option.bind_some]
   rw [zI2 (by rw [List.length_mergeSort])]
   rfl
theorem zGn {l:List Int} {n:Int} (hp:l.take 4=zMd) (hl:4≤l.length) (h:zCk l=some n):l=zNB n∧1≤n∧n≤999999:=by
 unfold zCk at h
 cases hn:zGa (l.drop 4) 6 with
 |none=>rw [hn] at h; cases h
 |some m=>
  rw [hn] at h
  simp only at h
  split at h
  ·rename_i hc
   cases h
   have e:=(zKV hp hl hn).2 hc
   by_cases hr:1≤n∧n≤999999
   ·rw [if_pos hr] at e
    refine ⟨?_,hr⟩
    have hpd:=zGI 5 n.toNat (by omega)
    rw [show 10^(5+1)+n.toNat=1000000+n.toNat by omega] at hpd
    rw [←e,hpd]
    rfl
   ·rw [if_neg hr] at e
    rw [←e] at hc
    simp at hc
  ·cases h
theorem zF4 {fs:List File} {n:Int} (h:n∈jP fs):(∃f∈fs,f.Path=zJm n)∧1≤n∧n≤999999:=by
 unfold jP at h
 obtain ⟨p,hp,hg⟩:=List.mem_filterMap.1 h
 have hb:=zCY (zC1 p hp)
 rw [zHA] at hb
 obtain ⟨e,h1⟩:=zGn hb.1 hb.2 hg
 refine ⟨?_,h1⟩
 unfold xK at hp
 obtain ⟨f,hf,rfl⟩:=List.mem_map.1 hp
 exact ⟨f,(List.mem_filter.1 hf).1,zGq.1 (e.trans (zG7 n).symm)⟩
def zHn (c:Int):yE:= {Code:=c,At:=0,Set:=[]}
def zAb (c:List Pack) (d:zI) (n:Int):yE:=if n∈jP d.Files then (match fileOf d (zJm n) with
 |some f=>if (PS c (b2s f.Data)).Code !=0 then zHn (PS c (b2s f.Data)).Code else PS c (b2s f.Data)
 |none=>zHn 0) else zHn 4
theorem zI7 (c:List Pack) (d:zI) (n:Int):((zAb c d n).Code ≠0→(zAb c d n).Set =[])∧(zAb c d n).At =0∧(zAb c d n).Set.Pairwise (· < ·)∧(∀k∈(zAb c d n).Set,0≤k∧k<c.length):=by
 have key:∀r,r=zAb c d n→(r.Code≠0→r.Set=[])∧r.At=0∧r.Set.Pairwise (· < ·)∧(∀k∈r.Set,0≤k∧k<c.length):=by
  intro r hr
  have hcode:∀x,(zHn x).Set =[]∧(zHn x).At =0:=fun x=>⟨rfl,rfl⟩
  unfold zAb at hr
  split at hr
  ·split at hr
   ·split at hr
    ·subst hr; exact ⟨fun _=>rfl,rfl,by rw [(hcode _).1]; simp,by rw [(hcode _).1]; simp⟩
    ·rename_i f _ hc
     subst hr
     rcases zGP c (b2s f.Data) with ⟨h,_⟩|⟨h1,h2,h3,h4⟩
     ·rcases h with h|h<;>rw [h] at hc<;>simp at hc
     ·exact ⟨fun h=>absurd h1 h,h2,h3,h4⟩
   ·subst hr; exact ⟨fun _=>rfl,rfl,by rw [(hcode _).1]; simp,by rw [(hcode _).1]; simp⟩
  ·subst hr; exact ⟨fun _=>rfl,rfl,by rw [(hcode _).1]; simp,by rw [(hcode _).1]; simp⟩
 exact key _ rfl
theorem zGh {d:zI} (hg:d.good) {p:ByteArray} (h:∃f∈d.Files,f.Path=p):∃k:Nat,∃hk:k<d.Files.length,xA d p=some (k:Int)∧yN d p=some (d.Files[k].Data,true)∧fileOf d p=some d.Files[k]:=by
 rcases zK0 d p hg with h1|⟨_,_,h3⟩
 ·exact h1
 ·obtain ⟨f,hf,hp⟩:=h
  unfold fileOf at h3
  have:=List.find?_eq_none.1 h3 f hf
  simp [hp] at this
section
variable {c:List Pack} {d:zI} (hc:c.length≤1048576) (hg:d.good) (hb:Byt d)
include hc hg hb in
theorem zJO (n:Int):zC0 c d n=some (zAb c d n):=by
 have hfl:d.Files.length≤1048576:=by have:=hg.len; omega
 have hgl:=zB1 d.Files
 unfold zC0 zAb
 rw [zDz d hfl]
 simp only [Option.bind_some]
 rw [zDi _ _ (by omega)]
 simp only [Option.bind_some]
 by_cases hm:n∈jP d.Files
 ·obtain ⟨hf,h1,h2⟩:=zF4 hm
  obtain ⟨k,hk,e1,_,e3⟩:=zGh hg hf
  have hmem:=List.getElem_mem hk
  have hdat:=hg.data _ hmem
  rw [if_neg (by simpa using hm),if_pos hm,zEI,show inB n 1 999999=true by unfold inB; simp; omega]
  simp only [Option.bind_some,if_true,e1]
  rw [zL hk]
  simp only [Option.bind_some]
  rw [zHs hc _ (by rw [←yK,zJj (hb _ hmem)]; omega),e3]
  simp only [Option.bind_some]
  cases (PS c (b2s d.Files[k].Data)).Code !=0<;>rfl
 ·rw [if_pos (by simpa using hm),if_neg hm]
  rfl
end
section
variable {c:List Pack} {d:zI} (hc:c.length≤1048576) (hg:d.good) (hb:Byt d)
include hg hb in
theorem zJY (hC:Cat c) (h0:CF c=0) (n:Int):zCx c d n=some ((zAb c d n).Set,(zAb c d n).Code):=by
 have hfl:d.Files.length≤1048576:=by have:=hg.len; omega
 have hgl:=zB1 d.Files
 unfold zCx zAb
 rw [zGY d hfl]
 simp only [Option.bind_some]
 rw [zDC _ _ (by omega)]
 simp only [Option.bind_some]
 by_cases hm:n∈jP d.Files
 ·obtain ⟨hf,h1,h2⟩:=zF4 hm
  obtain ⟨k,hk,_,e2,e3⟩:=zGh hg hf
  have hmem:=List.getElem_mem hk
  have hdat:=hg.data _ hmem
  rw [if_neg (by simpa using hm),if_pos hm,zEN (by omega) h2]
  simp only [Option.bind_some,e2]
  rw [zGD hC _ (by rw [←yK,zJj (hb _ hmem)]; omega),e3,h0]
  simp only [bne_self_eq_false,Bool.false_eq_true,if_false,Option.bind_some]
  rcases zGP c (b2s d.Files[k].Data) with ⟨h,h'⟩|⟨h,_⟩
  ·have hn:((PS c (b2s d.Files[k].Data)).Code !=0)=true:=by rcases h with h|h<;>rw [h]<;>rfl
   rw [hn,h']
   rfl
  ·simp [h]
 ·rw [if_pos (by simpa using hm),if_neg hm]
  rfl
end
theorem zHY {c:List Pack} {d:zI} (hC:Cat c) (hd:zI.sm 1048576 d):(∃q,q≠0∧kE c d=some q∧tC c d=some q)∨(kE c d=some 0∧tC c d=some 0∧CF c=0∧d.good):=by
 obtain ⟨k,ek,hk⟩:=zFP d hd.1.1
 rw [zJU hC k ek,zK8 hC k ek]
 by_cases h0:CF c=0
 ·by_cases h1:k=0
  ·exact .inr ⟨by simp [h0,h1],by simp [h0,h1],h0,hk h1⟩
  ·exact .inl ⟨k,h1,by simp [h0],by simp [h0]⟩
 ·exact .inl ⟨CF c,h0,by simp [h0],by simp [h0]⟩
theorem zH8 {a b:ByteArray} (h:slt a b=false) (hne:a≠b):slt b a=true:=by
 cases h2:slt b a with
 |true=>rfl
 |false=>
  have c1:¬zLH a b<0:=fun hc=>by rw [(zIw a b).1 hc] at h; cases h
  have key:∀(x y:List UInt8),Op.bytesLess x y=false→Op.bytesLess y x=false→x=y:=by
   intro x
   induction x with
   |nil=>intro y; cases y<;>simp [Op.bytesLess]
   |cons u x ih=>
    intro y
    cases y with
    |nil=>simp [Op.bytesLess]
    |cons v y=>
     simp only [Op.bytesLess]
     intro e1 e2
     have e3:¬u<v:=fun hh=>by simp [hh] at e1
     have e4:¬v<u:=fun hh=>by simp [hh] at e2
     rw [UInt8.lt_iff_toNat_lt] at e3 e4
     have e5:u=v:=UInt8.toNat_inj.1 (by omega)
     subst e5
     simp [UInt8.lt_irrefl] at e1 e2
     rw [ih y e1 e2]
  exfalso
  apply hne
  unfold slt at h h2
  exact toList_inj (key _ _ h h2)
theorem zHd (c:List Pack) (d:zI) (n:Int):(zAb c d n).Code ≠9:=by
 unfold zAb
 split
 ·split
  ·rename_i f _
   rcases zGP c (b2s f.Data) with ⟨h,_⟩|⟨h,_⟩
   ·rcases h with h|h<;>simp [h,zHn]
   ·simp [h]
  ·simp [zHn]
 ·simp [zHn]
theorem zFa {S1 S2 T1 T2:Type} {b1:S1→Option (Lp S1 T1)} {b2:S2→Option (Lp S2 T2)} (I:Nat→S1→S2→Prop) (n:Nat) (Q:T1→T2→Prop)
  (hstep:∀i s1 s2,i<n→I i s1 s2→(∃s1' s2',b1 s1=some (.go s1')∧b2 s2=some (.go s2')∧I (i+1) s1' s2')∨∃t1 t2,b1 s1=some (.done t1)∧b2 s2=some (.done t2)∧Q t1 t2)
  (hend:∀s1 s2,I n s1 s2→∃t1 t2,b1 s1=some (.done t1)∧b2 s2=some (.done t2)∧Q t1 t2):∀(k i:Nat) (s1:S1) (s2:S2),i+k=n→I i s1 s2→∃t1 t2,loop b1 s1=some t1∧loop b2 s2=some t2∧Q t1 t2
 |0,i,s1,s2,hk,hI=>by
  obtain ⟨t1,t2,h1,h2,h3⟩:=hend s1 s2 (by rw [show n=i by omega]; exact hI)
  exact ⟨t1,t2,by rw [jS,h1]; rfl,by rw [jS,h2]; rfl,h3⟩
 |k+1,i,s1,s2,hk,hI=>by
  rcases hstep i s1 s2 (by omega) hI with ⟨s1',s2',h1,h2,h3⟩|⟨t1,t2,h1,h2,h3⟩
  ·obtain ⟨t1,t2,h4,h5,h6⟩:=zFa I n Q hstep hend k (i+1) s1' s2' (by omega) h3
   exact ⟨t1,t2,by rw [jS,h1]; exact h4,by rw [jS,h2]; exact h5,h6⟩
  ·exact ⟨t1,t2,by rw [jS,h1]; rfl,by rw [jS,h2]; rfl,h3⟩
def ltS (a b:ByteArray):Prop:=slt a b=true
def leS (a b:ByteArray):Prop:=slt b a=false
theorem zG1 (a:ByteArray):leS a a:=zC6 a
theorem zJq {a b:ByteArray} (h:leS a b) (hne:a≠b):ltS a b:=zH8 h (Ne.symm hne)
theorem zKS {a b:ByteArray} (h:ltS a b):leS a b:=by
 unfold leS
 cases h2:slt b a with
 |false=>rfl
 |true=>
  have h3:=zC9 h h2
  rw [zC6] at h3
  cases h3
theorem zIf {a b c:ByteArray} (h1:leS a b) (h2:ltS b c):ltS a c:=by
 by_cases h:a=b
 ·rw [h]; exact h2
 ·exact zC9 (zJq h1 h) h2
theorem zFu {a b c:ByteArray} (h1:leS a b) (h2:leS b c):leS a c:=by
 by_cases h:b=c
 ·rw [←h]; exact h1
 ·exact zKS (zIf h1 (zJq h2 h))
theorem zIO {a b:ByteArray} (h:ltS a b):a≠b:=fun e=>by
 subst e
 unfold ltS at h
 rw [zC6] at h
 cases h
theorem zFl:∀{l1 l2:List ByteArray},l1.Pairwise ltS→l2.Pairwise ltS→(∀x,x∈l1↔x∈l2)→l1=l2
 |[],[],_,_,_=>rfl
 |[],y::l2,_,_,h=>by have:=(h y).2 (by simp); simp at this
 |x::l1,[],_,_,h=>by have:=(h x).1 (by simp); simp at this
 |x::l1,y::l2,h1,h2,h=>by
  rw [List.pairwise_cons] at h1 h2
  have hxy:x=y:=by
   have hx:=(h x).1 (by simp)
   have hy:=(h y).2 (by simp)
   rcases List.mem_cons.1 hx with e|hx
   ·exact e
   ·rcases List.mem_cons.1 hy with e|hy
    ·exact e.symm
    ·exact absurd rfl (zIO (zC9 (h1.1 y hy) (h2.1 x hx)))
  subst hxy
  congr 1
  refine zFl h1.2 h2.2 fun z=>?_
  constructor
  ·intro hz
   rcases List.mem_cons.1 ((h z).1 (List.mem_cons_of_mem _ hz)) with e|hz'
   ·exact absurd e.symm (zIO (h1.1 z hz))
   ·exact hz'
  ·intro hz
   rcases List.mem_cons.1 ((h z).2 (List.mem_cons_of_mem _ hz)) with e|hz'
   ·exact absurd e.symm (zIO (h2.1 z hz))
   ·exact hz'
theorem zIm:∀(x y:List UInt8),x<y↔Op.bytesLess x y=true
 |[],[]=>by simp [Op.bytesLess]
 |[],y::l=>by simp [Op.bytesLess]
 |x::l,[]=>by simp [Op.bytesLess]
 |x::l,y::r=>by
  rw [List.cons_lt_cons_iff,zIm l r]
  simp only [Op.bytesLess]
  by_cases h:x<y
  ·simp [h]
  ·by_cases h2:y<x
   ·have:x≠y:=fun e=>by subst e; exact UInt8.lt_irrefl _ h2
    simp [h,this]
   ·have:x=y:=by
     rw [UInt8.lt_iff_toNat_lt] at h h2
     exact UInt8.toNat_inj.1 (by omega)
    subst this
    simp [UInt8.lt_irrefl]
theorem zNl (x y:List UInt8):decide (x≤y)= !(Op.bytesLess y x):=by
 cases hb:Op.bytesLess y x with
 |true=>
  have:¬(x≤y):=fun h=>h ((zIm y x).2 hb)
  simpa using this
 |false=>
  have:x≤y:=fun hc=>by
   rw [(zIm y x).1 hc] at hb
   cases hb
  simpa using this
theorem toList_data (s:ByteArray):s.data.toList=s.toList:=(ByteArray.toList_eq s).symm
theorem zLr (a:List ByteArray) (hl:a.length≤1048577):∃r,xY a=some r∧r.Pairwise leS∧(∀x,x∈r↔x∈a)∧r.length=a.length:=by
 unfold xY
 rw [if_pos (by omega)]
 have hle:∀x y:List UInt8,decide (x≤y)=true↔leS ⟨x.toArray⟩ ⟨y.toArray⟩:=fun x y=>by
  rw [zNl]
  unfold leS slt
  rw [←toList_data,←toList_data]
  cases Op.bytesLess y x<;>simp
 have hpw:=List.pairwise_mergeSort (le:=fun x y:List UInt8=>decide (x≤y)) (by
  intro x y z h1 h2
  exact (hle x z).2 (zFu ((hle x y).1 h1) ((hle y z).1 h2))) (by
  intro x y
  have:leS ⟨x.toArray⟩ ⟨y.toArray⟩∨leS ⟨y.toArray⟩ ⟨x.toArray⟩:=by
   cases h:slt ⟨y.toArray⟩ ⟨x.toArray⟩ with
   |false=>exact .inl h
   |true=>exact .inr (zKS h)
  rcases this with h|h
  ·rw [(hle x y).2 h]; rfl
  ·rw [(hle y x).2 h,Bool.or_true]) (a.map (·.data.toList))
 refine ⟨_,rfl,?_,fun x=>?_,by simp [List.length_mergeSort]⟩
 ·exact List.pairwise_map.2 (hpw.imp fun h=>(hle _ _).1 h)
 ·simp only [List.mem_map,List.mem_mergeSort]
  constructor
  ·rintro ⟨_,⟨y,hy,rfl⟩,rfl⟩
   exact hy
  ·intro hx
   exact ⟨_,⟨x,hx,rfl⟩,rfl⟩
theorem zK9 (l:List ByteArray) (v:ByteArray) (hs:l.Pairwise ltS) (hl:l.length≤1048576):
  ∃r,zBZ l v=some r∧r.Pairwise ltS∧(∀x,x∈r↔x∈l∨x=v)∧r.length≤l.length+1:=by
 obtain ⟨t,e,ht⟩:=uR (b:=zBe l v)
  (fun i s=>s.2.2=(i:Int)∧s.1.Pairwise ltS∧(∀x,x∈s.1↔x∈l.take i∨(s.2.1=true∧x=v))∧s.1.length=i+(if s.2.1 then 1 else 0)∧(s.2.1=false→∀x∈l.take i,ltS x v)∧(s.2.1=true→∀x∈l.drop i,ltS v x)) l.length
  (fun t=>(t= .ret l∧v∈l)∨∃a b,t= .nxt (a,b)∧a.Pairwise ltS∧(∀x,x∈a↔x∈l∨(b=true∧x=v))∧a.length=l.length+(if b then 1 else 0)∧(b=false→∀x∈l,ltS x v)) (by
  rintro i ⟨acc,inn,j⟩ hi ⟨hj,hp,hm,hlen,hf,ht⟩
  simp only at hj hp hm hlen hf ht
  subst hj
  have hget:∀(i j:Nat) (hi:i<l.length) (hj:j<l.length),i<j→ltS l[i] l[j]:=fun i j hi hj h=>List.pairwise_iff_getElem.1 hs i j hi hj h
  have hlt:∀x∈l.take i,ltS x l[i]:=by
   intro x hx
   obtain ⟨k,hk,rfl⟩:=List.mem_iff_getElem.1 hx
   rw [List.getElem_take]
   have:k<i:=by simp at hk; omega
   exact hget _ _ (by omega) hi this
  have htk:l.take (i+1)=l.take i++[l[i]]:=List.take_succ_eq_append_getElem hi
  have hdr:l.drop i=l[i]::l.drop (i+1):=List.drop_eq_getElem_cons hi
  have hal:acc.length≤1048577:=by rw [hlen]; split<;>omega
  unfold zBe
  rw [if_pos (by simp; omega),zL hi]
  simp only [Option.bind_some]
  rw [zP (by omega)]
  by_cases heq:l[i]=v
  ·rw [if_pos (by rw [seq_eq]; simpa using heq)]
   exact .inr ⟨_,rfl,.inl ⟨rfl,heq▸List.getElem_mem hi⟩⟩
  ·rw [if_neg (by rw [seq_eq]; simpa using heq)]
   refine .inl ?_
   have hs2:(slt l[i] v||seq l[i] v)=slt l[i] v:=by rw [seq_eq]; simp [heq]
   rw [hs2]
   cases inn
   ·cases hgt:slt l[i] v
    ·have hvl:ltS v l[i]:=zH8 hgt heq
     simp only [Bool.not_false,Option.bind_some,if_true]
     rw [zAG (by simp; omega) (by simp; omega)]
     simp only [Option.bind_some]
     rw [zAG (by simp; omega) (by simp; omega)]
     refine ⟨_,rfl,rfl,?_,?_,?_,by simp,?_⟩
     ·simp only
      have hav:∀x∈acc,ltS x v:=fun x hx=>hf rfl x (by have:=(hm x).1 hx; simpa using this)
      rw [List.pairwise_append,List.pairwise_append]
      refine ⟨⟨hp,by simp,fun x hx y hy=>by simp at hy; rw [hy]; exact hav x hx⟩,by simp,fun x hx y hy=>?_⟩
      simp at hy
      rw [hy]
      rcases List.mem_append.1 hx with hx|hx
      ·exact zC9 (hav x hx) hvl
      ·simp at hx; rw [hx]; exact hvl
     ·intro x
      have:=hm x
      simp only [List.mem_append,List.mem_singleton,htk]
      simp at this
      rw [this]
      simp
      constructor<;>(intro h; rcases h with (h|h)|h<;>simp [h])
     ·simp; simp at hlen; omega
     ·intro _ x hx
      have:ltS l[i] x:=by
       obtain ⟨k,hk,rfl⟩:=List.mem_iff_getElem.1 hx
       rw [List.getElem_drop]
       simp at hk
       exact hget _ _ hi (by omega) (by omega)
      exact zC9 hvl this
    ·simp only [Bool.not_true,Bool.false_eq_true,if_false,Option.bind_some]
     rw [zAG (by simp; omega) (by simp; omega)]
     refine ⟨_,rfl,rfl,?_,?_,?_,?_,by simp⟩
     ·simp only
      rw [List.pairwise_append]
      refine ⟨hp,by simp,fun x hx y hy=>?_⟩
      simp at hy
      rw [hy]
      have:=(hm x).1 hx
      exact hlt x (by simpa using this)
     ·intro x
      have:=hm x
      simp only [List.mem_append,List.mem_singleton,htk]
      simp at this
      rw [this]
      simp
     ·simp; simp at hlen; omega
     ·intro _ x hx
      rw [htk] at hx
      rcases List.mem_append.1 hx with hx|hx
      ·exact hf rfl x hx
      ·simp at hx; rw [hx]; exact hgt
   ·have hlv:ltS v l[i]:=ht rfl _ (by rw [hdr]; exact List.mem_cons_self)
    have hgt:slt l[i] v=false:=zKS hlv
    rw [hgt]
    simp only [Bool.not_false,Bool.not_true,Option.bind_some,Bool.false_eq_true,if_false,if_true]
    rw [zAG (by simp; omega) (by simp; omega)]
    refine ⟨_,rfl,rfl,?_,?_,?_,by simp,?_⟩
    ·simp only
     rw [List.pairwise_append]
     refine ⟨hp,by simp,fun x hx y hy=>?_⟩
     simp at hy
     rw [hy]
     rcases (hm x).1 hx with hx|⟨_,hx⟩
     ·exact hlt x hx
     ·rw [hx]; exact hlv
    ·intro x
     have:=hm x
     simp only [List.mem_append,List.mem_singleton,htk]
     rw [this]
     simp
     constructor<;>(intro h; rcases h with (h|h)|h<;>simp [h])
    ·simp; simp at hlen; omega
    ·intro _ x hx
     exact ht rfl x (by rw [hdr]; exact List.mem_cons_of_mem _ hx)) (by
  rintro ⟨acc,inn,j⟩ ⟨hj,hp,hm,hlen,hf,ht⟩
  simp only at hj hp hm hlen hf ht
  subst hj
  unfold zBe
  rw [if_neg (by simp)]
  rw [List.take_length] at hm hf
  exact ⟨_,rfl,.inr ⟨acc,inn,rfl,hp,hm,hlen,hf⟩⟩) l.length 0 (([]:List ByteArray),false,0) (by omega) ⟨rfl,by simp,by simp,by simp,by simp,by simp⟩
 unfold zBZ zBE
 rw [e]
 rcases ht with ⟨rfl,hv⟩|⟨acc,inn,rfl,h1,h2,h3,h4⟩
 ·refine ⟨l,rfl,hs,fun x=>⟨.inl,fun h=>h.elim id (fun e=>e▸hv)⟩,by omega⟩
 ·simp only [Option.bind_some,Fl.go]
  cases inn
  ·simp only [Bool.not_false,if_true]
   simp at h3
   rw [zAG (by simp; omega) (by simp; omega)]
   refine ⟨_,rfl,?_,?_,by simp; omega⟩
   ·rw [List.pairwise_append]
    refine ⟨h1,by simp,fun x hx y hy=>?_⟩
    simp at hy
    rw [hy]
    have:=(h2 x).1 hx
    exact h4 rfl x (by simpa using this)
   ·intro x
    have:=h2 x
    simp at this
    simp [this]
  ·refine ⟨_,rfl,h1,?_,by simp at h3; omega⟩
   intro x
   have:=h2 x
   simpa using this
theorem zFK (a:List ByteArray) (k0:Nat) (h0:1≤k0) (hk:k0<a.length) (hs:a.Pairwise leS) (hl:a.length≤1048577) (hd:a[k0]'hk=a[k0-1]'(by omega)) (hp0:(a.take k0).Pairwise ltS) (x48:List ByteArray) (hx:x48.length=a.length-k0):
  ∃xs k,xJ (k0:Int) x48 (a,(k0:Int),1)=some (xs,((k:Nat):Int))∧xs.length=a.length∧k≤a.length∧(xs.take k).Pairwise ltS∧∀x,x∈xs.take k↔x∈a:=by
 have hle:∀(i j:Nat) (hi:i<a.length) (hj:j<a.length),i≤j→leS a[i] a[j]:=by
  intro i j hi hj hij
  rcases Nat.lt_or_ge i j with h|h
  ·exact List.pairwise_iff_getElem.1 hs i j hi hj h
  ·have:i=j:=by omega
   subst this; exact zG1 _
 obtain ⟨⟨xs,k'⟩,e,h1,k,h2,h3,h4,h5⟩:=uR (b:=xS (k0:Int) x48)
  (fun i s=>s.2.2=((i+1:Nat):Int)∧s.1.length=a.length∧(∀j,i+k0≤j→s.1[j]? =a[j]?)∧∃k:Nat,s.2.1=(k:Int)∧1≤k∧k≤i+k0∧(s.1.take k).Pairwise ltS∧(∀x,x∈s.1.take k↔x∈a.take (i+k0+1))∧(∀x∈s.1.take k,leS x (a.getD (i+k0) ByteArray.empty))) (a.length-k0-1)
  (fun t=>t.1.length=a.length∧∃k:Nat,t.2=(k:Int)∧k≤a.length∧(t.1.take k).Pairwise ltS∧∀x,x∈t.1.take k↔x∈a) (by
  rintro i ⟨xs,kk,jj⟩ hi ⟨hj,hlen,hsame,k,hkk,hk1,hkle,hpw,hmem,hmax⟩
  simp only at hj hlen hsame hkk hpw hmem hmax
  subst hj hkk
  have hi1:i+k0+1<a.length:=by omega
  have g1:xs[i+k0+1]'(by omega)=a[i+k0+1]:=by
   have:=hsame (i+k0+1) (by omega)
   rw [List.getElem?_eq_getElem (by omega),List.getElem?_eq_getElem hi1] at this
   exact Option.some.inj this
  have g0:xs[i+k0]'(by omega)=a[i+k0]:=by
   have:=hsame (i+k0) (by omega)
   rw [List.getElem?_eq_getElem (by omega),List.getElem?_eq_getElem (by omega)] at this
   exact Option.some.inj this
  have hgd:a.getD (i+k0) ByteArray.empty=a[i+k0]:=by simp [List.getD,show i+k0<a.length by omega]
  rw [hgd] at hmax
  have r1:zHa xs (k0:Int) x48.length ((i+1:Nat):Int)=some a[i+k0+1]:=by
   unfold zHa
   rw [if_pos (by omega),show (k0:Int)+((i+1:Nat):Int)=((i+k0+1:Nat):Int) by omega,zL (by omega),g1]
  have r0:zHa xs (k0:Int) x48.length (i:Int)=some a[i+k0]:=by
   unfold zHa
   rw [if_pos (by omega),show (k0:Int)+(i:Int)=((i+k0:Nat):Int) by omega,zL (by omega),g0]
  refine .inl ?_
  unfold xS
  rw [if_pos (by simp; omega)]
  simp only
  rw [r1,tH (x:=((i+1:Nat):Int)-1) (by omega) (by omega),show ((i+1:Nat):Int)-1=(i:Int) by omega,r0,zL (show k<xs.length by omega),zP (show k<_ by omega),zP (show i+1<_ by omega)]
  simp only [Option.bind_some]
  have htk:a.take (i+k0+1+1)=a.take (i+k0+1)++[a[i+k0+1]]:=List.take_succ_eq_append_getElem hi1
  have hmono:=hle (i+k0) (i+k0+1) (by omega) hi1 (by omega)
  have hgd1:a.getD (i+1+k0) ByteArray.empty=a[i+k0+1]:=by
   rw [show i+1+k0=i+k0+1 by omega]
   simp [List.getD,hi1]
  by_cases hne:a[i+k0+1]=a[i+k0]
  ·rw [if_neg (by simp [hne])]
   refine ⟨_,rfl,rfl,hlen,fun j hj=>hsame j (by omega),k,rfl,hk1,by omega,hpw,?_,?_⟩
   ·intro x
    rw [show i+1+k0+1=i+k0+1+1 by omega,htk,hmem,List.mem_append,List.mem_singleton]
    constructor
    ·exact fun h=>.inl h
    ·rintro (h|h)
     ·exact h
     ·rw [h,hne]
      refine List.mem_iff_getElem.2 ⟨i+k0,by simp; omega,by simp⟩
   ·intro x hx
    rw [hgd1]
    exact zFu (hmax x hx) hmono
  ·rw [if_pos (by simpa [seq_eq] using hne)]
   refine ⟨_,rfl,rfl,by simpa using hlen,?_,k+1,rfl,by omega,by omega,?_,?_,?_⟩
   ·intro j hj
    show (xs.set (k:Int).toNat a[i+k0+1])[j]? =a[j]?
    rw [Int.toNat_natCast,List.getElem?_set_ne (by omega)]
    exact hsame j (by omega)
   ·show ((xs.set (k:Int).toNat a[i+k0+1]).take (k+1)).Pairwise ltS
    rw [Int.toNat_natCast,zDj (by omega),List.pairwise_append]
    refine ⟨hpw,by simp,fun x hx y hy=>?_⟩
    simp at hy
    rw [hy]
    exact zIf (hmax x hx) (zJq hmono (Ne.symm hne))
   ·intro x
    show x∈(xs.set (k:Int).toNat a[i+k0+1]).take (k+1)↔_
    rw [Int.toNat_natCast,zDj (by omega),show i+1+k0+1=i+k0+1+1 by omega,htk,List.mem_append,List.mem_append,hmem]
   ·intro x hx
    have hx':x∈(xs.set (k:Int).toNat a[i+k0+1]).take (k+1):=hx
    rw [Int.toNat_natCast,zDj (by omega)] at hx'
    rw [hgd1]
    rcases List.mem_append.1 hx' with h|h
    ·exact zFu (hmax x h) hmono
    ·simp at h; rw [h]; exact zG1 _) (by
  rintro ⟨xs,kk,jj⟩ ⟨hj,hlen,hsame,k,hkk,hk1,hkle,hpw,hmem,hmax⟩
  simp only at hj hlen hsame hkk hpw hmem hmax
  subst hj hkk
  unfold xS
  rw [if_neg (by simp; omega)]
  refine ⟨_,rfl,hlen,k,rfl,by omega,hpw,fun x=>?_⟩
  rw [hmem,List.take_of_length_le (by omega)]) (a.length-k0-1) 0 (a,(k0:Int),1) (by omega) ⟨rfl,rfl,fun _ _=>rfl,k0,rfl,h0,by omega,hp0,by
   intro x
   rw [Nat.zero_add,List.take_succ_eq_append_getElem hk,List.mem_append,List.mem_singleton]
   constructor
   ·exact fun h=>.inl h
   ·rintro (h|h)
    ·exact h
    ·rw [h,hd]
     exact List.mem_iff_getElem.2 ⟨k0-1,by simp; omega,by simp⟩,by
   intro x hx
   rw [Nat.zero_add]
   obtain ⟨j,hj,rfl⟩:=List.mem_iff_getElem.1 hx
   rw [List.getElem_take]
   have hgd:a.getD k0 ByteArray.empty=a[k0]:=by simp [List.getD,hk]
   rw [hgd]
   simp at hj
   exact hle j k0 (by omega) hk (by omega)⟩
 simp only at h1 h2
 subst h2
 exact ⟨xs,k,by unfold xJ; exact e,h1,h3,h4,h5⟩
theorem zIu (a:List ByteArray) (hs:a.Pairwise leS) (hl:a.length≤1048577):∃r,xL a=some r∧r.Pairwise ltS∧(∀x,x∈r↔x∈a)∧r.length≤a.length:=by
 have step1:∀i (hi:i<a.length) (h1:1≤i),(a.take i).Pairwise ltS→a[i]≠a[i-1]'(by omega)→(a.take (i+1)).Pairwise ltS:=by
  intro i hi h1 hp hne
  rw [List.take_succ_eq_append_getElem hi,List.pairwise_append]
  refine ⟨hp,by simp,fun x hx y hy=>?_⟩
  simp at hy
  rw [hy]
  obtain ⟨j,hj,rfl⟩:=List.mem_iff_getElem.1 hx
  rw [List.getElem_take]
  simp at hj
  have q1:leS (a[i-1]'(by omega)) a[i]:=List.pairwise_iff_getElem.1 hs (i-1) i (by omega) hi (by omega)
  have q2:leS (a[j]'(by omega)) (a[i-1]'(by omega)):=by
   rcases Nat.lt_or_ge j (i-1) with h|h
   ·exact List.pairwise_iff_getElem.1 hs j (i-1) (by omega) (by omega) h
   ·have:j=i-1:=by omega
    subst this; exact zG1 _
  exact zIf q2 (zJq q1 (Ne.symm hne))
 have hb:∀i (hi:i<a.length) (h1:1≤i),(a.take i).Pairwise ltS→(a[i]=a[i-1]'(by omega)∧∃r,yU a (i:Int)=some (.done (.ret r))∧r.Pairwise ltS∧(∀x,x∈r↔x∈a)∧r.length≤a.length)∨(a[i]≠a[i-1]'(by omega)∧yU a (i:Int)=some (.go ((i+1:Nat):Int))):=by
  intro i hi h1 hp
  unfold yU
  rw [if_pos (by simp; omega),zL hi,tH (x:=(i:Int)-1) (by omega) (by omega),show (i:Int)-1=((i-1:Nat):Int) by omega,zL (show i-1<a.length by omega),zP (by omega)]
  simp only [Option.bind_some]
  by_cases he:a[i]=a[i-1]'(by omega)
  ·left
   refine ⟨he,?_⟩
   rw [if_pos (by simpa [seq_eq] using he),zDl (Nat.le_of_lt hi) (Nat.le_refl _)]
   simp only [Option.bind_some]
   obtain ⟨xs,k,e,g1,g2,g3,g4⟩:=zFK a i h1 hi hs hl he hp ((a.drop i).take (a.length-i)) (by simp)
   rw [e]
   simp only [Option.bind_some]
   have hk:k≤xs.length:=by omega
   rw [zDl hk (Nat.le_refl _)]
   simp only [Option.bind_some]
   rw [zIL (by simp; omega)]
   simp only [Option.bind_some]
   refine ⟨xs.take k,?_,g3,g4,by simp; omega⟩
   have:∀ys:List ByteArray,zDG (xs.take k++ys) 0 (k:Int)=some (xs.take k):=by
    intro ys
    have hh:=zDl (xs:=xs.take k++ys) (l:=0) (h:=k) (by omega) (by simp; omega)
    rw [show ((0:Nat):Int)=0 from rfl] at hh
    rw [hh]
    simp [Nat.min_eq_left hk]
   rw [List.append_assoc,this]
   rfl
  ·right
   rw [if_neg (by simpa [seq_eq] using he)]
   exact ⟨he,rfl⟩
 unfold xL
 by_cases h2:a.length<2
 ·rw [if_pos (by simp; omega)]
  refine ⟨a,rfl,?_,fun x=>Iff.rfl,Nat.le_refl _⟩
  match a,h2 with
  |[],_=>simp
  |[x],_=>simp
 ·rw [if_neg (by simp; omega)]
  obtain ⟨t,e,h⟩:=uR (b:=yU a) (fun i s=>s=((i+1:Nat):Int)∧(a.take (i+1)).Pairwise ltS) (a.length-1)
   (fun t=>(∃r,t= .ret r∧r.Pairwise ltS∧(∀x,x∈r↔x∈a)∧r.length≤a.length)∨(t= .nxt ()∧a.Pairwise ltS)) (by
   rintro i s hi ⟨rfl,hp⟩
   rcases hb (i+1) (by omega) (by omega) hp with ⟨_,r,e,q⟩|⟨hne,e⟩
   ·exact .inr ⟨_,e,.inl ⟨r,rfl,q⟩⟩
   ·exact .inl ⟨_,e,rfl,step1 (i+1) (by omega) (by omega) hp hne⟩) (by
   rintro s ⟨rfl,hp⟩
   rw [show a.length-1+1=a.length by omega] at hp ⊢
   refine ⟨.nxt (),?_,.inr ⟨rfl,by rw [List.take_length] at hp; exact hp⟩⟩
   unfold yU
   rw [if_neg (by simp)]) (a.length-1) 0 1 (by omega) ⟨rfl,by
    match a,h2 with
    |x::l,_=>simp⟩
  unfold xW
  rw [e]
  rcases h with ⟨r,rfl,q⟩|⟨rfl,q⟩
  ·exact ⟨r,rfl,q⟩
  ·exact ⟨a,rfl,q,fun x=>Iff.rfl,Nat.le_refl _⟩
theorem zJB (a:List ByteArray) (hl:a.length≤1048577):∃r,zAP a=some r∧r.Pairwise ltS∧∀x,x∈r↔x∈a:=by
 obtain ⟨m,e1,e2,e3,e4⟩:=zLr a hl
 obtain ⟨r,f1,f2,f3,_⟩:=zIu m e2 (by omega)
 unfold zAP
 rw [e1]
 simp only [Option.bind_some]
 rw [zI2 e4]
 simp only [Option.bind_some]
 rw [f1]
 exact ⟨r,rfl,f2,fun x=>by rw [f3,e3]⟩
theorem zHO (d:zI) (a2 gs:List Int) (h2:a2.length≤40) (hg:gs.length≤1048576):
  ∃t,zAi d a2 gs (([]:List Int),0)=some t∧((t= .ret (([]:List Int),4)∧∃x∈a2,x∉gs)∨∃l,t= .nxt l∧(∀x∈a2,x∈gs)∧l.Pairwise (· < ·)∧(∀x,x∈l↔x∈a2)∧l.length≤a2.length):=by
 unfold zAi
 refine uR (b:=zAC d a2 gs) (fun i s=>s.2=(i:Int)∧(∀x∈a2.take i,x∈gs)∧s.1.Pairwise (· < ·)∧(∀x,x∈s.1↔x∈a2.take i)∧s.1.length≤i) a2.length _ (by
  rintro i ⟨l,j⟩ hi ⟨hj,ha,hp,hm,hl⟩
  simp only at hj hp hm hl
  subst hj
  unfold zAC
  rw [if_pos (by simp; omega),zL hi]
  simp only [Option.bind_some]
  rw [zDi _ _ hg,zDi _ _ (show l.length≤1048576 by omega),zP (by omega)]
  simp only [Option.bind_some]
  have htk:a2.take (i+1)=a2.take i++[a2[i]]:=List.take_succ_eq_append_getElem hi
  by_cases hc:a2[i]∈gs
  ·rw [if_neg (by simpa using hc)]
   have ha':∀x∈a2.take (i+1),x∈gs:=by
    intro x hx
    rw [htk] at hx
    rcases List.mem_append.1 hx with hx|hx
    ·exact ha x hx
    ·simp at hx; rw [hx]; exact hc
   by_cases hin:a2[i]∈l
   ·rw [if_neg (by simpa using hin)]
    refine .inl ⟨_,rfl,rfl,ha',hp,fun x=>?_,by simp only; omega⟩
    rw [htk,List.mem_append,List.mem_singleton,←hm]
    exact ⟨.inl,fun h=>h.elim id (fun e=>e▸hin)⟩
   ·rw [if_pos (by simpa using hin)]
    obtain ⟨r,e,r1,r2,r3⟩:=zG6 l a2[i] hp hin (by omega)
    rw [e]
    refine .inl ⟨_,rfl,rfl,ha',r1,fun x=>?_,by simp only; omega⟩
    rw [htk,List.mem_append,List.mem_singleton,←hm]
    exact r2 x
  ·rw [if_pos (by simpa using hc)]
   exact .inr ⟨_,rfl,.inl ⟨rfl,_,List.getElem_mem hi,hc⟩⟩) (by
  rintro ⟨l,j⟩ ⟨hj,ha,hp,hm,hl⟩
  simp only at hj hp hm hl
  subst hj
  unfold zAC
  rw [if_neg (by simp)]
  rw [List.take_length] at ha hm
  exact ⟨_,rfl,.inr ⟨l,rfl,ha,hp,hm,hl⟩⟩) a2.length 0 (([]:List Int),0) (by omega) ⟨rfl,by simp,by simp,by simp,by simp⟩
theorem zIl (a2 gs:List Int) (h2:a2.length≤1048576) (hg:gs.length≤1048576):zO a2 gs=some (a2.any fun x=> !(decide (x∈gs))):=by
 have key:=wU a2 (fun i x=>if !(decide (x∈gs)) then some (i:Int) else none) (b:=yC a2 gs) (by
  intro i hi
  unfold yC tL
  rw [if_pos (by simp; omega),zL hi]
  simp only [Option.bind_some]
  rw [zDC _ _ hg,zP (by omega)]
  cases decide (a2[i]∈gs)<;>rfl) (by
  unfold yC
  rw [if_neg (by simp)])
 unfold zO zW yD
 rw [key,zDf,←zFc (zDh (fun x=> !(decide (x∈gs))) a2 0)]
 cases vZ (fun i x=>if !(decide (x∈gs)) then some (i:Int) else none) 0 a2<;>rfl
theorem zK2 (d:zI) (a2:List Int) (hg:d.good) (hb:∀f∈d.Files,∀c∈f.Data,0≤c∧c≤255):
  ∃r,vI d a2=some r∧wS d a2=some r∧r.1.length≤41:=by
 have hl:d.Files.length≤1048576:=by have:=hg.len; omega
 have hgl:=zB1 d.Files
 have hgs:(jP d.Files).length ≤1048576:=by omega
 unfold vI wS
 rw [zDz d hl,zGY d hl]
 simp only [Option.bind_some]
 by_cases h40:(a2.length:Int)>40
 ·rw [if_pos (by simpa using h40),if_pos (by simpa using h40)]
  exact ⟨_,rfl,rfl,by simp⟩
 rw [if_neg (by simpa using h40),if_neg (by simpa using h40)]
 obtain ⟨e1,e2⟩:=zET d hg hb
 obtain ⟨t,et,ht⟩:=zHO d a2 (jP d.Files) (by omega) hgs
 rw [et,zIl _ _ (by omega) hgs]
 simp only [Option.bind_some]
 rcases ht with ⟨rfl,x,hx,hxn⟩|⟨l,rfl,hall,hp,hm,hll⟩
 ·have:(a2.any fun x=> !(decide (x∈jP d.Files)))=true:=List.any_eq_true.2 ⟨x,hx,by simpa using hxn⟩
  rw [if_pos this]
  exact ⟨_,rfl,rfl,by simp⟩
 ·have:(a2.any fun x=> !(decide (x∈jP d.Files)))=false:=by
   rw [List.any_eq_false]
   intro x hx
   simpa using hall x hx
  rw [if_neg (by rw [this]; simp)]
  simp only [Fl.go]
  rw [e1,e2]
  cases hcur:zGX d with
  |none=>exact ⟨_,rfl,rfl,by simp⟩
  |some n=>
   have hpos:=zKa hcur
   have hn:n≠0:=by omega
   simp only [Option.bind_some,Option.getD_some]
   rw [if_neg (by simpa using hn),if_neg (by simp)]
   rw [zDi _ _ (show l.length≤1048576 by omega)]
   simp only [Option.bind_some]
   have hs:∃r,(if (!(decide (n∈l)))=true then (tV l n).bind fun x46=>some x46 else some l)=some r∧r.Pairwise (· < ·)∧(∀x,x∈r↔x∈a2∨x=n)∧r.length≤41:=by
    by_cases hin:n∈l
    ·rw [if_neg (by simpa using hin)]
     refine ⟨l,rfl,hp,fun x=>?_,by omega⟩
     rw [hm]
     exact ⟨.inl,fun h=>h.elim id (fun e=>e▸(hm n).1 hin)⟩
    ·rw [if_pos (by simpa using hin)]
     obtain ⟨r,e,r1,r2,r3⟩:=zG6 l n hp hin (by omega)
     rw [e]
     exact ⟨r,rfl,r1,fun x=>by rw [r2,hm],by omega⟩
   obtain ⟨r,er,r1,r2,r3⟩:=hs
   rw [er]
   simp only [Option.bind_some]
   unfold vR
   rw [zAG (by simp; omega) (by simp; omega)]
   simp only [Option.bind_some,List.nil_append]
   rw [zAG (by simp; omega) (by simp; omega)]
   simp only [Option.bind_some]
   have hsort:xB (a2++[n])=some ((a2++[n]).mergeSort fun x y=>decide (x≤y)):=by
    unfold xB
    rw [if_pos (by simp; omega)]
   rw [hsort]
   simp only [Option.bind_some]
   rw [zI2 (List.length_mergeSort _)]
   simp only [Option.bind_some]
   have hpw:((a2++[n]).mergeSort fun x y=>decide (x≤y)).Pairwise (· ≤ ·):=by
    have:=List.pairwise_mergeSort (le:=fun x y:Int=>decide (x≤y)) (by intro a b c h1 h2; simp at h1 h2 ⊢; omega) (by intro a b; simp; omega) (a2++[n])
    exact this.imp (by intro a b h; simpa using h)
   obtain ⟨q,eq,q1,q2,q3⟩:=zJP _ hpw (by rw [List.length_mergeSort]; simp; omega)
   rw [eq]
   have hqr:q=r:=zEx q1 r1 (fun x=>by rw [q2,r2,List.mem_mergeSort,List.mem_append,List.mem_singleton])
   subst hqr
   exact ⟨_,rfl,rfl,r3⟩
theorem zKx {d:zI} {a2:List Int} (hg:d.good) (hb:Byt d) {r:List Int×Int} (h:vI d a2=some r):r.2≠9:=by
 have hl:d.Files.length≤1048576:=by have:=hg.len; omega
 have hgl:=zB1 d.Files
 have hgs:(jP d.Files).length ≤1048576:=by omega
 unfold vI at h
 rw [zDz d hl] at h
 simp only [Option.bind_some] at h
 by_cases h40:(a2.length:Int)>40
 ·rw [if_pos (by simpa using h40)] at h
  rw [←Option.some.inj h]; simp
 rw [if_neg (by simpa using h40)] at h
 obtain ⟨e1,_⟩:=zET d hg hb
 obtain ⟨t,et,ht⟩:=zHO d a2 (jP d.Files) (by omega) hgs
 rw [et] at h
 rcases ht with ⟨rfl,_⟩|⟨l,rfl,_⟩
 ·simp only [Option.bind_some,Fl.go] at h
  rw [←Option.some.inj h]; simp
 ·simp only [Option.bind_some,Fl.go,e1] at h
  cases hz:((zGX d).getD 0==0)
  ·simp only [hz,Bool.false_eq_true,if_false] at h
   obtain ⟨x,_,h⟩:=Option.bind_eq_some_iff.1 h
   obtain ⟨v,_,h⟩:=Option.bind_eq_some_iff.1 h
   rw [←Option.some.inj h]; simp
  ·simp only [hz,if_true] at h
   rw [←Option.some.inj h]; simp
def RI (n:Nat) (x y:List ByteArray):Prop:=x.Pairwise ltS∧(∀z,z∈x↔z∈y)∧x.length≤n∧y.length≤n∧∀z∈x,z.size≤28
theorem zLD {c:List Pack} (h0:CF c=0) {d:zI} {x4:List Int×Int} {s33 s30:List ByteArray×Int} {x37:yE} {a3:List Int} {x34:List Int×Int} (hS:x37.Set=x34.1) (hp:Places c x34.1) {n:Nat} {x y:List ByteArray} (hl:n+x34.1.length≤100000) (h:RI n x y):
  ∃x' y',vB c d x4 s33 x37 (x,0)=some x'∧wM c d a3 s30 x34 (y,0)=some y'∧RI (n+x34.1.length) x' y':=by
 unfold vB wM
 refine zFa (b1:=jH c d x4 s33 x37) (b2:=uT c d a3 s30 x34) (fun i s1 s2=>s1.2=(i:Int)∧s2.2=(i:Int)∧RI (n+i) s1.1 s2.1) x34.1.length (RI (n+x34.1.length)) (by
  rintro i ⟨u,j⟩ ⟨v,j'⟩ hi ⟨rfl,rfl,r1,r2,r3,r4,r5⟩
  simp only at r1 r2 r3 r4 r5
  obtain ⟨e1,e2⟩:=zM2 (hp _ (List.getElem_mem hi))
  obtain ⟨p1,p2,p3⟩:=zNt h0 _ e2
  have hsz:=zJ6 p1 p2
  obtain ⟨r,er,q1,q2,q3⟩:=zK9 u (zHw (pat c x34.1[i])) r1 (by omega)
  refine .inl ⟨(r,((i+1:Nat):Int)),(v++[zHw (pat c x34.1[i])],((i+1:Nat):Int)),?_,?_,?_⟩
  ·unfold jH
   simp only [hS]
   rw [if_pos (by simp; omega),zL hi]
   simp only [Option.bind_some,e1,zIA p1 p2,er,zP (show i<9223372036854775807 by omega)]
  ·unfold uT
   rw [if_pos (by simp; omega)]
   simp only
   rw [zL hi]
   simp only [Option.bind_some,e1,zKo p1 p2,zP (show i<9223372036854775807 by omega)]
   rw [zAG (by simp; omega) (by simp; omega)]
   rfl
  ·refine ⟨rfl,rfl,q1,fun z=>?_,?_,?_,fun z hz=>?_⟩
   ·simp only [List.mem_append,List.mem_singleton]
    rw [q2,r2]
   ·simp only; omega
   ·simp only [List.length_append,List.length_singleton]; omega
   ·rcases (q2 z).1 hz with h|h
    ·exact r5 z h
    ·rw [h]; exact hsz) (by
  rintro ⟨u,j⟩ ⟨v,j'⟩ ⟨rfl,rfl,hr⟩
  refine ⟨u,v,?_,?_,hr⟩
  ·unfold jH
   simp only [hS]
   rw [if_neg (by simp)]
  ·unfold uT
   rw [if_neg (by simp)]) x34.1.length 0 (x,0) (y,0) (by omega) ⟨rfl,rfl,h⟩
theorem zJv {c:List Pack} {d:zI} (hC:Cat c) (h0:CF c=0) (hg:d.good) (hb:Byt d) (a2:List Int):
  ∃r,jE c d a2=some r∧vV c d a2=some r∧r.1.length≤1000∧(∀z∈r.1,z.size≤28)∧r.2≠9∧(r.2=0→∃K,vI d a2=some (K,0)∧wS d a2=some (K,0)∧K.length≤41):=by
 obtain ⟨⟨K,q⟩,e1,e2,e3⟩:=zK2 d a2 hg hb
 simp only at e3
 have hcl:=(zKs h0).1
 unfold jE vV
 rw [e1,e2]
 simp only [Option.bind_some]
 by_cases hq:q=0
 ·subst hq
  simp only [bne_self_eq_false,Bool.false_eq_true,if_false]
  unfold jU
  obtain ⟨t1,t2,l1,l2,h⟩:=zFa (b1:=vO c d (K,0)) (b2:=vF c d K) (fun i s1 s2=>s1.2=(i:Int)∧s2.2=(i:Int)∧RI (24*i) s1.1 s2.1) K.length
   (fun t1 t2=>(∃q:Int,q≠0∧q≠9∧t1= .ret (([]:List ByteArray),q)∧t2= .ret (([]:List ByteArray),q))∨∃x y,t1= .nxt x∧t2= .nxt y∧RI (24*K.length) x y) (by
   rintro i ⟨u,j⟩ ⟨v,j'⟩ hi ⟨rfl,rfl,hr⟩
   obtain ⟨g1,g2,g3,g4⟩:=zI7 c d K[i]
   have hset:=zJY hg hb hC h0 K[i]
   have hspec:=zJO hC.1 hg hb K[i]
   have hb1:vO c d (K,0) (u,(i:Int))=(if ((zAb c d K[i]).Code !=0)=true then (some (Lp.done (Fl.ret (([]:List ByteArray),(zAb c d K[i]).Code)))) else ((vB c d (K,0) (u,(i:Int)) (zAb c d K[i]) (u,0)).bind fun v59=>some (Lp.go (v59,((i+1:Nat):Int))))):=by
    unfold vO
    rw [if_pos (by simp; omega)]
    simp only
    rw [zL hi]
    simp only [Option.bind_some,hspec,zP (show i<9223372036854775807 by omega)]
   have hb2:vF c d K (v,(i:Int))=(if ((zAb c d K[i]).Code !=0)=true then (some (Lp.done (Fl.ret (([]:List ByteArray),(zAb c d K[i]).Code)))) else ((wM c d K (v,(i:Int)) ((zAb c d K[i]).Set,(zAb c d K[i]).Code) (v,0)).bind fun v56=>some (Lp.go (v56,((i+1:Nat):Int))))):=by
    unfold vF
    rw [if_pos (by simp; omega)]
    simp only
    rw [zL hi]
    simp only [Option.bind_some,hset,zP (show i<9223372036854775807 by omega)]
   rw [hb1,hb2]
   by_cases hc:(zAb c d K[i]).Code =0
   ·have hsl:(zAb c d K[i]).Set.length ≤24:=by
     rcases zJl (lo:=0) (hi:=c.length) g3 g4 with h|h
     ·omega
     ·rw [h]; simp
    obtain ⟨x',y',f1,f2,f3,f4,f5,f6,f7⟩:=zLD h0 (d:=d) (x4:=(K,0)) (s33:=(u,(i:Int))) (s30:=(v,(i:Int))) (x37:=zAb c d K[i]) (a3:=K) (x34:=((zAb c d K[i]).Set,(zAb c d K[i]).Code)) rfl g4 (by simp only; omega) hr
    rw [f1,f2]
    have hc':((zAb c d K[i]).Code !=0)=false:=by simpa using hc
    simp only [hc',Bool.false_eq_true,if_false,Option.bind_some]
    refine .inl ⟨_,_,rfl,rfl,rfl,rfl,f3,f4,?_,?_,f7⟩
    ·simp only at f5 ⊢; omega
    ·simp only at f6 ⊢; omega
   ·have hc':((zAb c d K[i]).Code !=0)=true:=by simpa using hc
    simp only [hc',if_true]
    exact .inr ⟨_,_,rfl,rfl,.inl ⟨_,hc,zHd c d K[i],rfl,rfl⟩⟩) (by
   rintro ⟨u,j⟩ ⟨v,j'⟩ ⟨rfl,rfl,hr⟩
   refine ⟨.nxt u,.nxt v,?_,?_,.inr ⟨u,v,rfl,rfl,hr⟩⟩
   ·unfold vO
    rw [if_neg (by simp)]
   ·unfold vF
    rw [if_neg (by simp)]) K.length 0 (([]:List ByteArray),0) (([]:List ByteArray),0) (by omega) ⟨rfl,rfl,by simp [RI]⟩
  unfold kC jL
  rw [l1,l2]
  rcases h with ⟨q,hq,hq9,rfl,rfl⟩|⟨x,y,rfl,rfl,h1,h2,h3,h4,h5⟩
  ·exact ⟨_,rfl,rfl,by simp,by simp,hq9,fun h=>absurd h hq⟩
  ·obtain ⟨r,er,r1,r2⟩:=zJB y (by omega)
   have:r=x:=zFl r1 h1 (fun z=>by rw [r2,h2])
   subst this
   simp only [Option.bind_some,Fl.go,er]
   exact ⟨_,rfl,rfl,by simp only; omega,h5,by simp only; decide,fun _=>⟨K,rfl,rfl,e3⟩⟩
 ·have hq':(q !=0)=true:=by simpa using hq
  have hq9:=zKx hg hb e1
  simp only [hq',if_true]
  exact ⟨_,rfl,rfl,by simp,by simp,hq9,fun h=>absurd h hq⟩
theorem zJr {α β:Type} (q:α→Bool) (g:α→β):∀(l:List α) (i:Nat) (acc:List β),foldI (fun _ a x=>if q x then a++[g x] else a) i l acc=acc++(l.filter q).map g
 |[],i,acc=>by simp [foldI]
 |x::l,i,acc=>by
  simp only [foldI]
  rw [zJr q g l]
  cases h:q x<;>simp [h]
def zDs (d:zI) (K:List Int) (R:List ByteArray):List ByteArray:=((jP d.Files).filter (fun n=> !(decide (n∈K)))).map zJm++(xK d.Files (bs [112,107,103,47])).filter (fun p=> !(R.any (fun x=>seq x p)))
theorem zJJ {d:zI} (hg:d.good) {K:List Int} {R:List ByteArray} (hK:K.length≤1048576) (hR:R.length≤1048576):zCw d K R=some (zDs d K R)∧zCy d K R=some (zDs d K R):=by
 have hl:d.Files.length≤1048576:=by have:=hg.len; omega
 have hfl:=hg.len
 have hgl:=zB1 d.Files
 have hpl:=zAF d.Files (bs [112,107,103,47])
 have h1:∀(i:Nat) (hi:i< (jP d.Files).length),xZ (jP d.Files)[i]=some (zJm (jP d.Files)[i])∧tK (jP d.Files)[i]=some (zJm (jP d.Files)[i]):=fun i hi=>by
  have:=zF1 (List.getElem_mem hi)
  refine ⟨?_,zEN (by omega) this.2⟩
  rw [zEI]
  have:inB (jP d.Files)[i] 1 999999=true:=by unfold inB; simp; omega
  rw [this]; rfl
 have hlen:∀{α β:Type} (q:Bool) (a:List β) (x:β) (i:Nat),a.length≤i→(if q=true then a++[x] else a).length ≤i+1:=fun q a x i h=>by
  split
  ·simp; omega
  ·omega
 have s1:=zCO (jP d.Files) (fun _ a n=>if !(decide (n∈K)) then a++[zJm n] else a) (fun i a=>a.length≤i) (b:=zAf d K R (jP d.Files)) (by
  intro i a hi ha
  refine ⟨?_,hlen (α:=Int) _ _ _ _ ha⟩
  unfold zAf
  rw [if_pos (by simp; omega)]
  simp only
  rw [zL hi]
  simp only [Option.bind_some,zDi _ _ hK,(h1 i hi).1,zP (show i<9223372036854775807 by omega)]
  rw [zAG (by simp; omega) (by simp; omega)]
  cases decide ((jP d.Files)[i]∈K)<;>rfl) (by
  intro a
  unfold zAf
  rw [if_neg (by simp)]) (jP d.Files).length 0 ([]:List ByteArray) (by omega) (by simp)
 have i1:=zCO (jP d.Files) (fun _ a n=>if !(decide (n∈K)) then a++[zJm n] else a) (fun i a=>a.length≤i) (b:=zBD d K R (jP d.Files)) (by
  intro i a hi ha
  refine ⟨?_,hlen (α:=Int) _ _ _ _ ha⟩
  unfold zBD
  rw [if_pos (by simp; omega)]
  simp only
  rw [zL hi]
  simp only [Option.bind_some,zDC _ _ hK,(h1 i hi).2,zP (show i<9223372036854775807 by omega)]
  rw [zAG (by simp; omega) (by simp; omega)]
  cases decide ((jP d.Files)[i]∈K)<;>rfl) (by
  intro a
  unfold zBD
  rw [if_neg (by simp)]) (jP d.Files).length 0 ([]:List ByteArray) (by omega) (by simp)
 rw [List.drop_zero,zJr] at s1 i1
 simp only [List.nil_append] at s1 i1
 generalize hG:((jP d.Files).filter (fun n=> !(decide (n∈K)))).map zJm=G at s1 i1
 have hGl:G.length≤120:=by have:=s1.2; omega
 have s2:=zCO (xK d.Files (bs [112,107,103,47])) (fun _ a p=>if !(R.any (fun x=>seq x p)) then a++[p] else a) (fun i a=>a.length≤120+i) (b:=zAd d K R (xK d.Files (bs [112,107,103,47]))) (by
  intro i a hi ha
  refine ⟨?_,hlen (α:=Int) _ _ _ _ ha⟩
  unfold zAd
  rw [if_pos (by simp; omega)]
  simp only
  rw [zL hi]
  simp only [Option.bind_some,zGo _ _ hR,zP (show i<9223372036854775807 by omega)]
  rw [zAG (by simp; omega) (by simp; omega)]
  cases (R.any fun x=>seq x (xK d.Files (bs [112,107,103,47]))[i])<;>rfl) (by
  intro a
  unfold zAd
  rw [if_neg (by simp)]) (xK d.Files (bs [112,107,103,47])).length 0 G (by omega) (by omega)
 have i2:=zCO (xK d.Files (bs [112,107,103,47])) (fun _ a p=>if !(R.any (fun x=>seq x p)) then a++[p] else a) (fun i a=>a.length≤120+i) (b:=zBB R (xK d.Files (bs [112,107,103,47]))) (by
  intro i a hi ha
  refine ⟨?_,hlen (α:=Int) _ _ _ _ ha⟩
  unfold zBB
  rw [if_pos (by simp; omega)]
  simp only
  rw [zL hi]
  simp only [Option.bind_some,zEl _ _ hR,zP (show i<9223372036854775807 by omega)]
  rw [zAG (by simp; omega) (by simp; omega)]
  cases (R.any fun x=>seq x (xK d.Files (bs [112,107,103,47]))[i])<;>rfl) (by
  intro a
  unfold zBB
  rw [if_neg (by simp)]) (xK d.Files (bs [112,107,103,47])).length 0 G (by omega) (by omega)
 rw [List.drop_zero,zD3] at s2 i2
 unfold zCw zCy zCF zCC zCm zCp zDs
 rw [zDz d hl,zGY d hl,zGl,zE9 d _ hl,hG]
 simp only [Option.bind_some]
 rw [show ((0:Int))=((0:Nat):Int) from rfl,s1.1,i1.1]
 simp only [Option.bind_some]
 rw [s2.1,i2.1]
 exact ⟨rfl,rfl⟩
theorem zHj {fs:List File} {n:Int} (h:n∈jP fs):zCk (bl (zJm n))=some n:=by
 unfold jP at h
 obtain ⟨p,hp,hg⟩:=List.mem_filterMap.1 h
 have hb:=zCY (zC1 p hp)
 rw [zHA] at hb
 obtain ⟨e,_⟩:=zGn hb.1 hb.2 hg
 rw [zG7,←e]
 exact hg
theorem zJ5 {d:zI} (hg:d.good) (K:List Int) (R:List ByteArray):(zDs d K R).Nodup ∧(∀p∈zDs d K R,∃f∈d.Files,f.Path=p)∧(zDs d K R).length ≤240:=by
 have hfl:=hg.len
 refine ⟨?_,?_,?_⟩
 ·unfold zDs
  refine List.nodup_append.2 ⟨?_,?_,?_⟩
  ·have h:=(zHg hg.sorted).filter (fun n=> !(decide (n∈K)))
   refine List.pairwise_map.2 (List.Pairwise.imp_of_mem ?_ h)
   intro a b ha hb hab he
   have h1:=zHj (List.mem_filter.1 ha).1
   have h2:=zHj (List.mem_filter.1 hb).1
   rw [he,h2] at h1
   have:=Option.some.inj h1
   omega
  ·refine List.Pairwise.filter _ ?_
   unfold xK
   refine List.pairwise_map.2 (List.Pairwise.imp ?_ (List.Pairwise.filter _ hg.sorted))
   intro a b hab
   exact zIO hab
  ·intro a ha b hb he
   obtain ⟨n,hn,rfl⟩:=List.mem_map.1 ha
   have h1:=zCY (zC1 b (List.mem_filter.1 hb).1)
   rw [←he,zG7,zIa] at h1
   have h2:=h1.1
   unfold zNB at h2
   simp at h2
 ·intro p hp
  unfold zDs at hp
  rcases List.mem_append.1 hp with h|h
  ·obtain ⟨n,hn,rfl⟩:=List.mem_map.1 h
   exact (zF4 (List.mem_filter.1 hn).1).1
  ·have:=(List.mem_filter.1 h).1
   unfold xK at this
   obtain ⟨f,hf,e⟩:=List.mem_map.1 this
   exact ⟨f,(List.mem_filter.1 hf).1,e⟩
 ·unfold zDs
  rw [List.length_append,List.length_map]
  have h1:=List.length_filter_le (fun n=> !(decide (n∈K))) (jP d.Files)
  have h2:=List.length_filter_le (fun p=> !(R.any (fun x=>seq x p))) (xK d.Files (bs [112,107,103,47]))
  have h3:=zB1 d.Files
  have h4:=zAF d.Files (bs [112,107,103,47])
  omega
theorem zI1 {d:zI} (hg:d.good) {K:List Int} {R:List ByteArray}:∃v,zAh d (zDs d K R) (0,0)=some v∧vE d (zDs d K R) (0,0)=some v:=by
 obtain ⟨_,n2,n3⟩:=zJ5 hg K R
 generalize zDs d K R=W at*
 unfold zAh vE
 obtain ⟨t1,t2,l1,l2,h⟩:=zFa (b1:=zA9 d W) (b2:=uL d W) (fun i s1 s2=>s1=s2∧s1.2=(i:Int)) W.length (fun t1 t2=>t1=t2) (by
  rintro i ⟨v,j⟩ _ hi ⟨rfl,rfl⟩
  unfold zA9 uL
  rw [if_pos (by simp; omega),if_pos (by simp; omega)]
  simp only
  rw [zL hi,zP (show i<9223372036854775807 by omega)]
  simp only [Option.bind_some]
  rcases zFg d W[i] hg with ⟨k,hk,e1,e2,_⟩|⟨_,_,hp⟩
  ·rw [e1,e2]
   simp only [Option.bind_some,zL hk]
   exact .inl ⟨_,_,rfl,rfl,rfl,rfl⟩
  ·obtain ⟨f,hf,he⟩:=n2 _ (List.getElem_mem hi)
   exact absurd he (hp f hf)) (by
  rintro ⟨v,j⟩ _ ⟨rfl,rfl⟩
  unfold zA9 uL
  rw [if_neg (by simp),if_neg (by simp)]
  exact ⟨_,_,rfl,rfl,rfl⟩) W.length 0 (0,0) (0,0) (by omega) ⟨rfl,rfl⟩
 subst h
 exact ⟨t1,l1,l2⟩
theorem zH2 (a1:(List Pack)) (a2:zI) (k0:a1.length≤maxLen∧∀y1∈a1,Pack.ok y1) (k1:zI.ok a2) (s0:(a1.length≤1048576∧∀y0∈a1,Pack.sm 1048576 y0)) (s1:(zI.sm 1048576 a2)):∃r,zAp a1 a2=some r∧zAq a1 a2=some r∧(yM.sm 1049600 r):=by
 have hb:Byt a2:=fun f hf c hc=>by have:=(k1.1.2 f hf).2.2 c hc; simpa [IntKind.min,IntKind.max,IntKind.signed,IntKind.bits] using this
 have hz:∀q v:Int,yM.sm 1049600 {Code:=q,Value:=v}:=fun q v=>by simp [yM.sm]
 unfold zAp zAq
 rcases zHY s0 s1 with ⟨q,hq,e1,e2⟩|⟨e1,e2,h0,hg⟩
 ·have hq':(q !=0)=true:=by simpa using hq
  have hq'':(q==0)=false:=by simpa using hq
  rw [e1,e2]
  simp only [Option.bind_some,hq',hq'',Bool.false_eq_true,if_true,if_false]
  exact ⟨_,rfl,rfl,hz q 0⟩
 ·obtain ⟨⟨R,q⟩,r1,r2,r3,_,_,r5⟩:=zJv s0 h0 hg hb []
  rw [e1,e2,r1,r2]
  simp only at r3 r5
  simp only [Option.bind_some,bne_self_eq_false,beq_self_eq_true,Bool.false_eq_true,if_false,if_true]
  by_cases hq:q=0
  ·subst hq
   obtain ⟨K,f1,f2,f3⟩:=r5 rfl
   obtain ⟨w1,w2⟩:=zJJ hg (K:=K) (R:=R) (by omega) (by omega)
   obtain ⟨v,v1,v2⟩:=zI1 hg (K:=K) (R:=R)
   rw [f1,f2]
   simp only [bne_self_eq_false,Bool.false_eq_true,if_false,Option.bind_some,w1,w2]
   unfold tN
   rw [v1,v2]
   exact ⟨_,rfl,rfl,hz 0 v⟩
  ·have hq':(q !=0)=true:=by simpa using hq
   simp only [hq',if_true]
   exact ⟨_,rfl,rfl,hz q 0⟩
theorem zEv (a1:(List Pack)) (a2:zI) (k0:a1.length≤maxLen∧∀y1∈a1,Pack.ok y1) (k1:zI.ok a2):wL a1 a2=some true:=zEb a1 a2 k0 k1 (zH2 a1 a2 k0 k1)
end Go.Told

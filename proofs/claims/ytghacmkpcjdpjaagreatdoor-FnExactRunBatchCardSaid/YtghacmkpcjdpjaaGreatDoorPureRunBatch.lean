import Derived.Test.YtghacmkpcjdpjaaGreatDoorToldRunBatch
set_option linter.unusedVariables false
set_option maxRecDepth 4000
namespace Go.Told
open Go Go.Im
theorem zFM {S T:Type} {b b':S→Option (Lp S T)} (h:∀s,b s=b' s):loop b=loop b':=by
 have:b=b':=funext h
 rw [this]
theorem yU {x:Int} (h1: -9223372036854775808≤x) (h2:x≤9223372036854775807):w64 x=x:=by
 unfold w64
 rw [IntKind.wrap_i64]
 omega
theorem zM {i:Nat} (h:i<9223372036854775807):w64 ((i:Int)+1)=((i+1:Nat):Int):=by
 rw [yU (by omega) (by omega)]; omega
theorem kS {T:Type} {S:Type} {b:S→Option (Lp S T)} (I:Nat→S→Prop) (n:Nat) (Q:T→Prop) (hstep:∀i s,i<n→I i s→(∃s',b s=some (.go s')∧I (i+1) s')∨∃t,b s=some (.done t)∧Q t)
  (hend:∀s,I n s→∃t,b s=some (.done t)∧Q t):∀(k i:Nat) (s:S),i+k=n→I i s→∃t,loop b s=some t∧Q t
 |0,i,s,hk,hI=>by
  obtain ⟨t,h1,h2⟩:=hend s (by rw [show n=i by omega]; exact hI)
  exact ⟨t,by rw [jR,h1]; rfl,h2⟩
 |k+1,i,s,hk,hI=>by
  rcases hstep i s (by omega) hI with ⟨s',h1,h2⟩|⟨t,h1,h2⟩
  ·obtain ⟨t,h3,h4⟩:=kS I n Q hstep hend k (i+1) s' (by omega) h2
   exact ⟨t,by rw [jR,h1]; exact h3,h4⟩
  ·exact ⟨t,by rw [jR,h1]; rfl,h2⟩
theorem zL {α:Type} {xs:List α} {i:Nat} (h:i<xs.length):idx xs (i:Int)=some xs[i]:=by
 unfold idx
 rw [if_pos (by omega)]
 simp [h]
theorem zCT {α:Type} (l r:List α) (x:α):idx (l++x::r) (l.length:Int)=some x:=by
 rw [zL (by simp)]
 simp
theorem zGg {α:Type} (xs:List α) {b:(List α×Int)→Option (Lp (List α×Int) (List α))} (hstep:∀(ys:List α) (i:Nat) (hi:i<xs.length),ys.length=xs.length→b (ys,(i:Int))=some (.go (ys.set i xs[i],((i+1:Nat):Int))))
  (hend:∀ys:List α,ys.length=xs.length→b (ys,(xs.length:Int))=some (.done ys)) (y0:List α) (h0:y0.length=xs.length):loop b (y0,0)=some xs:=by
 obtain ⟨t,h1,h2⟩:=kS (b:=b) (fun i s=>s.2=(i:Int)∧s.1.length=xs.length∧s.1.take i=xs.take i) xs.length (fun t=>t=xs) (by
  rintro i ⟨ys,j⟩ hi ⟨hj,hl,hp⟩
  simp only at hj hl hp
  subst hj
  refine .inl ⟨_,hstep ys i hi hl,rfl,by simpa using hl,?_⟩
  simp only
  rw [List.take_succ_eq_append_getElem (by simp; omega),List.take_succ_eq_append_getElem hi,←hp,List.take_set_of_le (Nat.le_refl _)]
  simp) (by
  rintro ⟨ys,j⟩ ⟨hj,hl,hp⟩
  simp only at hj hl hp
  subst hj
  refine ⟨ys,hend ys hl,?_⟩
  rw [List.take_of_length_le (by omega),List.take_of_length_le (by omega)] at hp
  exact hp) xs.length 0 (y0,0) (by omega) ⟨rfl,h0,by simp⟩
 rw [h1,h2]
theorem zGk {R:Type} (n:Nat) {b:Int→Option (Lp Int (Fl R Unit))} (hstep:∀i:Nat,i<n→b (i:Int)=some (.go ((i+1:Nat):Int))) (hend:b (n:Int)=some (.done (.nxt ()))):loop b 0=some (.nxt ()):=by
 obtain ⟨t,h1,h2⟩:=kS (b:=b) (fun i s=>s=(i:Int)) n (fun t=>t= .nxt ()) (by
  rintro i s hi rfl
  exact .inl ⟨_,hstep i hi,rfl⟩) (by
  rintro s rfl
  exact ⟨_,hend,rfl⟩) n 0 0 (by omega) rfl
 rw [h1,h2]
theorem zIe {α:Type} (xs:List α) (P:α→Prop) (l:Int) {b:(Int×Int)→Option (Lp (Int×Int) (Fl Int Int))}
  (hstep:∀(q:Int) (i:Nat) (hi:i<xs.length),0≤q→q≤l→(∃q',b (q,(i:Int))=some (.go (q',((i+1:Nat):Int)))∧0≤q'∧q'≤q∧P xs[i])∨∃t,b (q,(i:Int))=some (.done (.ret t))∧t<0)
  (hend:∀q:Int,b (q,(xs.length:Int))=some (.done (.nxt q))) (h0:0≤l):
  ∃t,loop b (l,0)=some t∧match t with| .ret r=>r<0| .nxt r=>0≤r∧r≤l∧∀x∈xs,P x:=by
 refine kS (b:=b) (fun i s=>s.2=(i:Int)∧0≤s.1∧s.1≤l∧∀j,(hj:j<xs.length)→j<i→P xs[j]) xs.length _ (by
  rintro i ⟨q,j⟩ hi ⟨hj,h1,h2,h3⟩
  simp only at hj h1 h2 h3
  subst hj
  rcases hstep q i hi h1 h2 with ⟨q',e,g1,g2,g3⟩|⟨t,e,ht⟩
  ·refine .inl ⟨_,e,rfl,g1,by simp only; omega,fun j hj hji=>?_⟩
   rcases Nat.lt_or_ge j i with h|h
   ·exact h3 j hj h
   ·have:j=i:=by omega
    subst this; exact g3
  ·exact .inr ⟨_,e,ht⟩) (by
  rintro ⟨q,j⟩ ⟨hj,h1,h2,h3⟩
  simp only at hj h1 h2 h3
  subst hj
  refine ⟨_,hend q,h1,h2,fun x hx=>?_⟩
  obtain ⟨j,hj,rfl⟩:=List.getElem_of_mem hx
  exact h3 j hj hj) xs.length 0 (l,0) (by omega) ⟨rfl,h0,Int.le_refl _,fun j _ h=>by omega⟩
def pm {α:Type} (m:α→Int→α) (c:α→Int):List α→Int→List α
 |[],_=>[]
 |x::xs,k=>m x k::pm m c xs (k+c x)
def cs {α:Type} (c:α→Int):List α→Int
 |[]=>0
 |x::xs=>c x+cs c xs
theorem zE7 {α:Type} (m:α→Int→α) (c:α→Int):∀(xs:List α) (k:Int),(pm m c xs k).length =xs.length
 |[],_=>rfl
 |x::xs,k=>by simp [pm,zE7 m c xs]
theorem vC {α:Type} {c:α→Int} (hc:∀a,0≤c a):∀(xs:List α),0≤cs c xs
 |[]=>Int.le_refl _
 |x::xs=>by have:=hc x; have:=vC hc xs; simp only [cs]; omega
theorem zKl {α:Type} {c:α→Int} {C:Int} {N:Nat} (hC:0≤C):∀(xs:List α),(∀a∈xs,c a≤C)→xs.length≤N→cs c xs≤N*C
 |[],_,_=>Int.mul_nonneg (by omega) hC
 |x::xs,h,hl=>by
  have h1:=h x (by simp)
  simp only [List.length_cons] at hl
  have h2:=zKl (N:=N-1) hC xs (fun a ha=>h a (by simp [ha])) (by omega)
  simp only [cs]
  have:((N-1:Nat):Int)*C+C=N*C:=by
   have e:((N-1:Nat):Int)=(N:Int)-1:=by omega
   rw [e,Int.sub_mul,Int.one_mul]; omega
  omega
theorem zEp {α:Type} (m:α→Int→α) (c:α→Int) (P:α→Prop) (hc:∀a,0≤c a) {b:(List α×Int×Int)→Option (Lp (List α×Int×Int) (List α×Int))}
  (hstep:∀(l r:List α) (x:α) (k:Int),P x→0≤k→k+c x≤9223372036854775807→l.length<9223372036854775807→b (l++x::r,k,(l.length:Int))=some (.go (l++m x k::r,k+c x,((l.length+1:Nat):Int))))
  (hend:∀(l:List α) (k:Int),b (l,k,(l.length:Int))=some (.done (l,k))):∀(xs l:List α) (k:Int),(∀x∈xs,P x)→0≤k→k+cs c xs≤9223372036854775807→l.length+xs.length<9223372036854775807→
  loop b (l++xs,k,(l.length:Int))=some (l++pm m c xs k,k+cs c xs)
 |[],l,k,_,_,_,_=>by
  rw [jR,List.append_nil,hend]
  simp [pm,cs,Lp.elim]
 |x::xs,l,k,hP,h0,h1,h2=>by
  have hx:=hc x
  have hxs:=vC hc xs
  simp only [cs] at h1
  simp only [List.length_cons] at h2
  rw [jR,hstep l xs x k (hP x (by simp)) h0 (by omega) (by omega)]
  simp only [Option.bind_some,Lp.elim]
  have:=zEp m c P hc hstep hend xs (l++[m x k]) (k+c x) (fun y hy=>hP y (by simp [hy])) (by omega) (by omega) (by simp; omega)
  simp only [List.length_append,List.length_cons,List.length_nil,List.append_assoc,List.cons_append,List.nil_append] at this
  rw [this]
  simp only [pm,cs]
  congr 2
  omega
theorem zId {α:Type} (m:α→Int→α) (c:α→Int) (P:α→Prop) (hc:∀a,0≤c a) {b:List α→(Int×Int)→Option (Lp (Int×Int) (Fl Int Int))}
  (hstep:∀(l r:List α) (x:α) (k:Int),P x→0≤k→k+c x≤9223372036854775807→l.length<9223372036854775807→b (l++m x k::r) (k,(l.length:Int))=some (.go (k+c x,((l.length+1:Nat):Int))))
  (hend:∀(l:List α) (k:Int),b l (k,(l.length:Int))=some (.done (.nxt k))):∀(xs l:List α) (k:Int),(∀x∈xs,P x)→0≤k→k+cs c xs≤9223372036854775807→l.length+xs.length<9223372036854775807→
  loop (b (l++pm m c xs k)) (k,(l.length:Int))=some (.nxt (k+cs c xs))
 |[],l,k,_,_,_,_=>by
  rw [jR,pm,List.append_nil,hend]
  simp [cs,Lp.elim]
 |x::xs,l,k,hP,h0,h1,h2=>by
  have hx:=hc x
  have hxs:=vC hc xs
  simp only [cs] at h1
  simp only [List.length_cons] at h2
  rw [pm,jR,hstep l _ x k (hP x (by simp)) h0 (by omega) (by omega)]
  simp only [Option.bind_some,Lp.elim]
  have:=zId m c P hc hstep hend xs (l++[m x k]) (k+c x) (fun y hy=>hP y (by simp [hy])) (by omega) (by omega) (by simp; omega)
  simp only [List.length_append,List.length_cons,List.length_nil,List.append_assoc,List.cons_append,List.nil_append] at this
  rw [this]
  simp only [cs]
  congr 2
  omega
theorem zHh {α β:Type} {xs:List α} {ys:List β} (h:xs.length=ys.length):same xs ys=some ():=if_pos h
theorem zGl {α:Type} (l r:List α) (x y:α):(l++x::r).set l.length y=l++y::r:=by
 rw [List.set_append_right _ _ (Nat.le_refl _)]
 simp
theorem zO2 (a:ByteArray):seq a a=true:=by
 unfold seq
 simp
def c1 {α:Type} (_:α):Int:=1
theorem zDj {α:Type} (a:α):0≤c1 a:=by unfold c1; decide
theorem zDm {α:Type} {B:Nat} {xs ys:List α} (h:(xs.length+ys.length)*B≤140737488355328) (h2:xs.length+ys.length≤4611686018427387904):app B xs ys=some (xs++ys):=if_pos ⟨h,h2⟩
theorem zKs {S T:Type} {b:S→Option (Lp S T)} (I:S→Prop) (μ:S→Nat) (Q:T→Prop) (step:∀s,I s→(∃s',b s=some (.go s')∧I s'∧μ s'<μ s)∨∃t,b s=some (.done t)∧Q t):∀(n:Nat) (s:S),μ s≤n→I s→∃t,loop b s=some t∧Q t
 |0,s,hn,hI=>by
  rcases step s hI with ⟨s',_,_,h3⟩|⟨t,h1,h2⟩
  ·omega
  ·exact ⟨t,by rw [jR,h1]; rfl,h2⟩
 |n+1,s,hn,hI=>by
  rcases step s hI with ⟨s',h1,h2,h3⟩|⟨t,h1,h2⟩
  ·obtain ⟨t,h4,h5⟩:=zKs I μ Q step n s' (by omega) h2
   exact ⟨t,by rw [jR,h1]; exact h4,h5⟩
  ·exact ⟨t,by rw [jR,h1]; rfl,h2⟩
def Version.ok (x:Version):Prop:=(IntKind.i64.min≤x.A∧x.A≤IntKind.i64.max)∧(IntKind.i64.min≤x.B∧x.B≤IntKind.i64.max)∧(IntKind.i64.min≤x.C∧x.C≤IntKind.i64.max)
def Term.ok (x:Term):Prop:=(x.Name.size≤maxLen)∧(Version.ok x.Low)∧(Version.ok x.High)
def Pack.ok (x:Pack):Prop:=(x.Name.size≤maxLen)∧(Version.ok x.Version)∧(IntKind.i64.min≤x.Size∧x.Size≤IntKind.i64.max)∧(x.Provides.length≤maxLen∧∀y1∈x.Provides,y1.size≤maxLen)∧(x.Needs.length≤maxLen∧∀y1∈x.Needs,y1.length≤maxLen∧∀y2∈y1,Term.ok y2)∧(x.Bars.length≤maxLen∧∀y1∈x.Bars,Term.ok y1)
def File.ok (x:File):Prop:=(x.Path.size≤maxLen)∧(x.Data.length≤maxLen∧∀y1∈x.Data,IntKind.u8.min≤y1∧y1≤IntKind.u8.max)
def zC.ok (x:zC):Prop:=(x.Files.length≤maxLen∧∀y1∈x.Files,File.ok y1)∧(IntKind.i64.min≤x.Budget∧x.Budget≤IntKind.i64.max)∧(IntKind.i64.min≤x.Writes∧x.Writes≤IntKind.i64.max)∧(IntKind.i64.min≤x.Stop∧x.Stop≤IntKind.i64.max)∧(True)
theorem zM7 (x:(List Int)) (hx:x.length≤maxLen∧∀y1∈x,IntKind.u8.min≤y1∧y1≤IntKind.u8.max) (l:Int) (h0:0≤l) (h1:l≤1048576):∃r,zCg x l=some r∧(r<0∨(0≤r∧r≤l∧(x.length≤1048576∧∀y0∈x,True))):=by
 obtain ⟨hm,hx⟩:=hx
 unfold maxLen at hm
 unfold zCg
 rw [yU (x:=l-x.length) (by omega) (by omega)]
 by_cases c1:l-(x.length:Int)<0
 ·rw [if_pos (by simpa using c1)]
  exact ⟨_,rfl,.inl (by omega)⟩
 ·rw [if_neg (by simpa using c1)]
  exact ⟨_,rfl,.inr ⟨by omega,by omega,by omega,fun _ _=>trivial⟩⟩
def File.sm (B:Nat) (x:File):Prop:=(x.Path.size≤B)∧(x.Data.length≤B∧∀y0∈x.Data,True)
def zC.sm (B:Nat) (x:zC):Prop:=(x.Files.length≤B∧∀y0∈x.Files,File.sm B y0)∧(True)∧(True)∧(True)∧(True)
theorem zN7 (x:File) (hx:File.ok x) (l:Int) (h0:0≤l) (h1:l≤1048576):∃r,zDv x l=some r∧(r<0∨(0≤r∧r≤l∧(File.sm 1048576 x))):=by
 obtain ⟨k0,k1⟩:=hx
 unfold maxLen at*
 unfold zDv
 rw [yU (x:=l-x.Path.size) (by omega) (by omega)]
 by_cases c0:l-(x.Path.size:Int)<0
 ·rw [if_pos (by simpa using c0)]
  exact ⟨_,rfl,.inl (by omega)⟩
 rw [if_neg (by simpa using c0)]
 obtain ⟨r1,e1,g1⟩:=zM7 x.Data k1 (l-x.Path.size) (by omega) (by omega)
 rw [e1]
 simp only [Option.bind_some]
 by_cases c1:r1<0
 ·rw [if_pos (by simpa using c1)]
  exact ⟨_,rfl,.inl (by omega)⟩
 rw [if_neg (by simpa using c1)]
 obtain ⟨p1,q1,z1⟩:=g1.resolve_left c1
 exact ⟨_,rfl,.inr ⟨by omega,by omega,by omega,z1⟩⟩
theorem zMB (x:(List File)) (hx:x.length≤maxLen∧∀y1∈x,File.ok y1) (l:Int) (h0:0≤l) (h1:l≤1048576):∃r,zCt x l=some r∧(r<0∨(0≤r∧r≤l∧(x.length≤1048576∧∀y0∈x,File.sm 1048576 y0))):=by
 obtain ⟨hm,hx⟩:=hx
 unfold maxLen at hm
 unfold zCt
 rw [yU (x:=l-x.length) (by omega) (by omega)]
 by_cases c1:l-(x.length:Int)<0
 ·rw [if_pos (by simpa using c1)]
  exact ⟨_,rfl,.inl (by omega)⟩
 ·rw [if_neg (by simpa using c1)]
  have key:=zIe x (fun y0=>File.sm 1048576 y0) (l-x.length) (b:=zBQ x) ?_ ?_ (by omega)
  ·obtain ⟨t,h2,h3⟩:=key
   unfold zCo
   rw [h2]
   cases t with
   |ret r=>exact ⟨r,rfl,.inl h3⟩
   |nxt r=>exact ⟨r,rfl,.inr ⟨h3.1,by have:=h3.2.1; omega,by omega,h3.2.2⟩⟩
  ·intro q i hi hq0 hq1
   unfold zBQ
   rw [if_pos (by simp; omega)]
   simp only [zL hi,Option.bind_some]
   have hi2:w64 ((i:Int)+1)=((i+1:Nat):Int):=zM (by omega)
   obtain ⟨r,e,hr⟩:=zN7 x[i] (hx _ (List.getElem_mem hi)) q hq0 (by omega)
   rw [e]
   simp only [Option.bind_some]
   by_cases c:r<0
   ·rw [if_pos (by simpa using c)]
    exact .inr ⟨_,rfl,by omega⟩
   ·rw [if_neg (by simpa using c),hi2]
    obtain ⟨g1,g2,g3⟩:=hr.resolve_left c
    exact .inl ⟨_,rfl,g1,g2,g3⟩
  ·intro q
   unfold zBQ
   rw [if_neg (by simp)]
theorem zNN (x:zC) (hx:zC.ok x) (l:Int) (h0:0≤l) (h1:l≤1048576):∃r,zDC x l=some r∧(r<0∨(0≤r∧r≤l∧(zC.sm 1048576 x))):=by
 obtain ⟨k0,k1,k2,k3,k4⟩:=hx
 unfold maxLen at*
 unfold zDC
 obtain ⟨r0,e0,g0⟩:=zMB x.Files k0 l (by omega) (by omega)
 rw [e0]
 simp only [Option.bind_some]
 by_cases c0:r0<0
 ·rw [if_pos (by simpa using c0)]
  exact ⟨_,rfl,.inl (by omega)⟩
 rw [if_neg (by simpa using c0)]
 obtain ⟨p0,q0,z0⟩:=g0.resolve_left c0
 exact ⟨_,rfl,.inr ⟨by omega,by omega,z0,trivial,trivial,trivial,trivial⟩⟩
def Version.sm (B:Nat) (x:Version):Prop:=(True)∧(True)∧(True)
def Term.sm (B:Nat) (x:Term):Prop:=(x.Name.size≤B)∧(Version.sm B x.Low)∧(Version.sm B x.High)
def Pack.sm (B:Nat) (x:Pack):Prop:=(x.Name.size≤B)∧(Version.sm B x.Version)∧(True)∧(x.Provides.length≤B∧∀y0∈x.Provides,y0.size≤B)∧(x.Needs.length≤B∧∀y0∈x.Needs,y0.length≤B∧∀y1∈y0,Term.sm B y1)∧(x.Bars.length≤B∧∀y0∈x.Bars,Term.sm B y0)
theorem zKw (x:(List ByteArray)) (hx:x.length≤maxLen∧∀y1∈x,y1.size≤maxLen) (l:Int) (h0:0≤l) (h1:l≤1048576):∃r,zAJ x l=some r∧(r<0∨(0≤r∧r≤l∧(x.length≤1048576∧∀y0∈x,y0.size≤1048576))):=by
 obtain ⟨hm,hx⟩:=hx
 unfold maxLen at hm
 unfold zAJ
 rw [yU (x:=l-x.length) (by omega) (by omega)]
 by_cases c1:l-(x.length:Int)<0
 ·rw [if_pos (by simpa using c1)]
  exact ⟨_,rfl,.inl (by omega)⟩
 ·rw [if_neg (by simpa using c1)]
  have key:=zIe x (fun y0=>y0.size≤1048576) (l-x.length) (b:=zAB x) ?_ ?_ (by omega)
  ·obtain ⟨t,h2,h3⟩:=key
   unfold zBh
   rw [h2]
   cases t with
   |ret r=>exact ⟨r,rfl,.inl h3⟩
   |nxt r=>exact ⟨r,rfl,.inr ⟨h3.1,by have:=h3.2.1; omega,by omega,h3.2.2⟩⟩
  ·intro q i hi hq0 hq1
   unfold zAB
   rw [if_pos (by simp; omega)]
   simp only [zL hi,Option.bind_some]
   have hi2:w64 ((i:Int)+1)=((i+1:Nat):Int):=zM (by omega)
   have hs:=hx _ (List.getElem_mem hi)
   unfold maxLen at hs
   rw [yU (x:=q-(x[i]).size) (by omega) (by omega)]
   by_cases c:q-((x[i]).size :Int)<0
   ·rw [if_pos (by simpa using c)]
    exact .inr ⟨_,rfl,by omega⟩
   ·rw [if_neg (by simpa using c),hi2]
    exact .inl ⟨_,rfl,by omega,by omega,by show (x[i]).size ≤1048576; omega⟩
  ·intro q
   unfold zAB
   rw [if_neg (by simp)]
theorem zNZ (x:Term) (hx:Term.ok x) (l:Int) (h0:0≤l) (h1:l≤1048576):∃r,zDz x l=some r∧(r<0∨(0≤r∧r≤l∧(Term.sm 1048576 x))):=by
 obtain ⟨k0,k1,k2⟩:=hx
 unfold maxLen at*
 unfold zDz
 rw [yU (x:=l-x.Name.size) (by omega) (by omega)]
 by_cases c0:l-(x.Name.size:Int)<0
 ·rw [if_pos (by simpa using c0)]
  exact ⟨_,rfl,.inl (by omega)⟩
 rw [if_neg (by simpa using c0)]
 exact ⟨_,rfl,.inr ⟨by omega,by omega,by omega,⟨trivial,trivial,trivial⟩,⟨trivial,trivial,trivial⟩⟩⟩
theorem zJe (x:(List Term)) (hx:x.length≤maxLen∧∀y1∈x,Term.ok y1) (l:Int) (h0:0≤l) (h1:l≤1048576):∃r,zA7 x l=some r∧(r<0∨(0≤r∧r≤l∧(x.length≤1048576∧∀y0∈x,Term.sm 1048576 y0))):=by
 obtain ⟨hm,hx⟩:=hx
 unfold maxLen at hm
 unfold zA7
 rw [yU (x:=l-x.length) (by omega) (by omega)]
 by_cases c1:l-(x.length:Int)<0
 ·rw [if_pos (by simpa using c1)]
  exact ⟨_,rfl,.inl (by omega)⟩
 ·rw [if_neg (by simpa using c1)]
  have key:=zIe x (fun y0=>Term.sm 1048576 y0) (l-x.length) (b:=zBG x) ?_ ?_ (by omega)
  ·obtain ⟨t,h2,h3⟩:=key
   unfold zCE
   rw [h2]
   cases t with
   |ret r=>exact ⟨r,rfl,.inl h3⟩
   |nxt r=>exact ⟨r,rfl,.inr ⟨h3.1,by have:=h3.2.1; omega,by omega,h3.2.2⟩⟩
  ·intro q i hi hq0 hq1
   unfold zBG
   rw [if_pos (by simp; omega)]
   simp only [zL hi,Option.bind_some]
   have hi2:w64 ((i:Int)+1)=((i+1:Nat):Int):=zM (by omega)
   obtain ⟨r,e,hr⟩:=zNZ x[i] (hx _ (List.getElem_mem hi)) q hq0 (by omega)
   rw [e]
   simp only [Option.bind_some]
   by_cases c:r<0
   ·rw [if_pos (by simpa using c)]
    exact .inr ⟨_,rfl,by omega⟩
   ·rw [if_neg (by simpa using c),hi2]
    obtain ⟨g1,g2,g3⟩:=hr.resolve_left c
    exact .inl ⟨_,rfl,g1,g2,g3⟩
  ·intro q
   unfold zBG
   rw [if_neg (by simp)]
theorem zKZ (x:(List (List Term))) (hx:x.length≤maxLen∧∀y1∈x,y1.length≤maxLen∧∀y2∈y1,Term.ok y2) (l:Int) (h0:0≤l) (h1:l≤1048576):∃r,zB6 x l=some r∧(r<0∨(0≤r∧r≤l∧(x.length≤1048576∧∀y0∈x,y0.length≤1048576∧∀y1∈y0,Term.sm 1048576 y1))):=by
 obtain ⟨hm,hx⟩:=hx
 unfold maxLen at hm
 unfold zB6
 rw [yU (x:=l-x.length) (by omega) (by omega)]
 by_cases c1:l-(x.length:Int)<0
 ·rw [if_pos (by simpa using c1)]
  exact ⟨_,rfl,.inl (by omega)⟩
 ·rw [if_neg (by simpa using c1)]
  have key:=zIe x (fun y0=>y0.length≤1048576∧∀y1∈y0,Term.sm 1048576 y1) (l-x.length) (b:=zBf x) ?_ ?_ (by omega)
  ·obtain ⟨t,h2,h3⟩:=key
   unfold zBC
   rw [h2]
   cases t with
   |ret r=>exact ⟨r,rfl,.inl h3⟩
   |nxt r=>exact ⟨r,rfl,.inr ⟨h3.1,by have:=h3.2.1; omega,by omega,h3.2.2⟩⟩
  ·intro q i hi hq0 hq1
   unfold zBf
   rw [if_pos (by simp; omega)]
   simp only [zL hi,Option.bind_some]
   have hi2:w64 ((i:Int)+1)=((i+1:Nat):Int):=zM (by omega)
   obtain ⟨r,e,hr⟩:=zJe x[i] (hx _ (List.getElem_mem hi)) q hq0 (by omega)
   rw [e]
   simp only [Option.bind_some]
   by_cases c:r<0
   ·rw [if_pos (by simpa using c)]
    exact .inr ⟨_,rfl,by omega⟩
   ·rw [if_neg (by simpa using c),hi2]
    obtain ⟨g1,g2,g3⟩:=hr.resolve_left c
    exact .inl ⟨_,rfl,g1,g2,g3⟩
  ·intro q
   unfold zBf
   rw [if_neg (by simp)]
theorem zNQ (x:Pack) (hx:Pack.ok x) (l:Int) (h0:0≤l) (h1:l≤1048576):∃r,zD7 x l=some r∧(r<0∨(0≤r∧r≤l∧(Pack.sm 1048576 x))):=by
 obtain ⟨k0,k1,k2,k3,k4,k5⟩:=hx
 unfold maxLen at*
 unfold zD7
 rw [yU (x:=l-x.Name.size) (by omega) (by omega)]
 by_cases c0:l-(x.Name.size:Int)<0
 ·rw [if_pos (by simpa using c0)]
  exact ⟨_,rfl,.inl (by omega)⟩
 rw [if_neg (by simpa using c0)]
 obtain ⟨r3,e3,g3⟩:=zKw x.Provides k3 (l-x.Name.size) (by omega) (by omega)
 rw [e3]
 simp only [Option.bind_some]
 by_cases c3:r3<0
 ·rw [if_pos (by simpa using c3)]
  exact ⟨_,rfl,.inl (by omega)⟩
 rw [if_neg (by simpa using c3)]
 obtain ⟨p3,q3,z3⟩:=g3.resolve_left c3
 obtain ⟨r4,e4,g4⟩:=zKZ x.Needs k4 r3 (by omega) (by omega)
 rw [e4]
 simp only [Option.bind_some]
 by_cases c4:r4<0
 ·rw [if_pos (by simpa using c4)]
  exact ⟨_,rfl,.inl (by omega)⟩
 rw [if_neg (by simpa using c4)]
 obtain ⟨p4,q4,z4⟩:=g4.resolve_left c4
 obtain ⟨r5,e5,g5⟩:=zJe x.Bars k5 r4 (by omega) (by omega)
 rw [e5]
 simp only [Option.bind_some]
 by_cases c5:r5<0
 ·rw [if_pos (by simpa using c5)]
  exact ⟨_,rfl,.inl (by omega)⟩
 rw [if_neg (by simpa using c5)]
 obtain ⟨p5,q5,z5⟩:=g5.resolve_left c5
 exact ⟨_,rfl,.inr ⟨by omega,by omega,by omega,⟨trivial,trivial,trivial⟩,trivial,z3,z4,z5⟩⟩
theorem zMm (x:(List Pack)) (hx:x.length≤maxLen∧∀y1∈x,Pack.ok y1) (l:Int) (h0:0≤l) (h1:l≤1048576):∃r,zCi x l=some r∧(r<0∨(0≤r∧r≤l∧(x.length≤1048576∧∀y0∈x,Pack.sm 1048576 y0))):=by
 obtain ⟨hm,hx⟩:=hx
 unfold maxLen at hm
 unfold zCi
 rw [yU (x:=l-x.length) (by omega) (by omega)]
 by_cases c1:l-(x.length:Int)<0
 ·rw [if_pos (by simpa using c1)]
  exact ⟨_,rfl,.inl (by omega)⟩
 ·rw [if_neg (by simpa using c1)]
  have key:=zIe x (fun y0=>Pack.sm 1048576 y0) (l-x.length) (b:=zBB x) ?_ ?_ (by omega)
  ·obtain ⟨t,h2,h3⟩:=key
   unfold zCc
   rw [h2]
   cases t with
   |ret r=>exact ⟨r,rfl,.inl h3⟩
   |nxt r=>exact ⟨r,rfl,.inr ⟨h3.1,by have:=h3.2.1; omega,by omega,h3.2.2⟩⟩
  ·intro q i hi hq0 hq1
   unfold zBB
   rw [if_pos (by simp; omega)]
   simp only [zL hi,Option.bind_some]
   have hi2:w64 ((i:Int)+1)=((i+1:Nat):Int):=zM (by omega)
   obtain ⟨r,e,hr⟩:=zNQ x[i] (hx _ (List.getElem_mem hi)) q hq0 (by omega)
   rw [e]
   simp only [Option.bind_some]
   by_cases c:r<0
   ·rw [if_pos (by simpa using c)]
    exact .inr ⟨_,rfl,by omega⟩
   ·rw [if_neg (by simpa using c),hi2]
    obtain ⟨g1,g2,g3⟩:=hr.resolve_left c
    exact .inl ⟨_,rfl,g1,g2,g3⟩
  ·intro q
   unfold zBB
   rw [if_neg (by simp)]
theorem zMu (x:(List Int)) (hx:x.length≤1049600∧∀y0∈x,True):zCy x=some x:=by
 have hl:=hx.1
 unfold zCy
 have hm:∀z:Int,mk 1 (x.length:Int) z=some (List.replicate x.length z):=fun z=>by
  unfold mk; rw [if_pos ⟨by omega,by simp; omega,by omega⟩]; simp
 rw [hm]
 simp only [Option.bind_some,zCK]
 rw [zGg x ?_ ?_ _ (by simp)]
 ·rfl
 ·intro ys i hi hl2
  unfold zDt
  rw [if_pos (by simp; omega)]
  have hi2:w64 ((i:Int)+1)=((i+1:Nat):Int):=zM (by omega)
  simp only [zL hi,zL (show i<ys.length by omega),Option.bind_some,Int.toNat_natCast,hi2]
 ·intro ys _
  unfold zDt
  rw [if_neg (by simp)]
theorem zNn (x:File) (hx:File.sm 1049600 x):zD6 x=some x:=by
 obtain ⟨h0,h1⟩:=hx
 unfold zD6
 simp only [zMu x.Data h1,Option.bind_some]
theorem zMG (x:(List File)) (hx:x.length≤1049600∧∀y0∈x,File.sm 1049600 y0):zCf x=some x:=by
 have hl:=hx.1
 unfold zCf
 have hm:∀z:File,mk 40 (x.length:Int) z=some (List.replicate x.length z):=fun z=>by
  unfold mk; rw [if_pos ⟨by omega,by simp; omega,by omega⟩]; simp
 rw [hm]
 simp only [Option.bind_some,zC7]
 rw [zGg x ?_ ?_ _ (by simp)]
 ·rfl
 ·intro ys i hi hl2
  unfold zDs
  rw [if_pos (by simp; omega)]
  have hi2:w64 ((i:Int)+1)=((i+1:Nat):Int):=zM (by omega)
  simp only [zL hi,zL (show i<ys.length by omega),Option.bind_some,Int.toNat_natCast,hi2,zNn x[i] (hx.2 _ (List.getElem_mem hi))]
 ·intro ys _
  unfold zDs
  rw [if_neg (by simp)]
theorem zN3 (x:zC) (hx:zC.sm 1049600 x):uS x=some x:=by
 obtain ⟨h0,h1,h2,h3,h4⟩:=hx
 unfold uS
 simp only [zMG x.Files h0,Option.bind_some]
theorem zLz (x:(List Int)) (hx:x.length≤1049600∧∀y0∈x,True):wY x=some x:=by
 have hl:=hx.1
 unfold wY
 have hm:∀z:Int,mk 8 (x.length:Int) z=some (List.replicate x.length z):=fun z=>by
  unfold mk; rw [if_pos ⟨by omega,by simp; omega,by omega⟩]; simp
 rw [hm]
 simp only [Option.bind_some,zBA]
 rw [zGg x ?_ ?_ _ (by simp)]
 ·rfl
 ·intro ys i hi hl2
  unfold zCS
  rw [if_pos (by simp; omega)]
  have hi2:w64 ((i:Int)+1)=((i+1:Nat):Int):=zM (by omega)
  simp only [zL hi,zL (show i<ys.length by omega),Option.bind_some,Int.toNat_natCast,hi2]
 ·intro ys _
  unfold zCS
  rw [if_neg (by simp)]
theorem zFI (x:Version) (hx:Version.sm 1049600 x):vH x=some x:=by
 obtain ⟨h0,h1,h2⟩:=hx
 unfold vH
 rfl
theorem zKJ (x:(List ByteArray)) (hx:x.length≤1049600∧∀y0∈x,y0.size≤1049600):zAO x=some x:=by
 have hl:=hx.1
 unfold zAO
 have hm:∀z:ByteArray,mk 16 (x.length:Int) z=some (List.replicate x.length z):=fun z=>by
  unfold mk; rw [if_pos ⟨by omega,by simp; omega,by omega⟩]; simp
 rw [hm]
 simp only [Option.bind_some,zBd]
 rw [zGg x ?_ ?_ _ (by simp)]
 ·rfl
 ·intro ys i hi hl2
  unfold zBZ
  rw [if_pos (by simp; omega)]
  have hi2:w64 ((i:Int)+1)=((i+1:Nat):Int):=zM (by omega)
  simp only [zL hi,zL (show i<ys.length by omega),Option.bind_some,Int.toNat_natCast,hi2]
 ·intro ys _
  unfold zBZ
  rw [if_neg (by simp)]
theorem zNT (x:Term) (hx:Term.sm 1049600 x):zDD x=some x:=by
 obtain ⟨h0,h1,h2⟩:=hx
 unfold zDD
 simp only [zFI x.Low h1,zFI x.High h2,Option.bind_some]
theorem zJd (x:(List Term)) (hx:x.length≤1049600∧∀y0∈x,Term.sm 1049600 y0):zAv x=some x:=by
 have hl:=hx.1
 unfold zAv
 have hm:∀z:Term,mk 64 (x.length:Int) z=some (List.replicate x.length z):=fun z=>by
  unfold mk; rw [if_pos ⟨by omega,by simp; omega,by omega⟩]; simp
 rw [hm]
 simp only [Option.bind_some,zCJ]
 rw [zGg x ?_ ?_ _ (by simp)]
 ·rfl
 ·intro ys i hi hl2
  unfold zDu
  rw [if_pos (by simp; omega)]
  have hi2:w64 ((i:Int)+1)=((i+1:Nat):Int):=zM (by omega)
  simp only [zL hi,zL (show i<ys.length by omega),Option.bind_some,Int.toNat_natCast,hi2,zNT x[i] (hx.2 _ (List.getElem_mem hi))]
 ·intro ys _
  unfold zDu
  rw [if_neg (by simp)]
theorem zLp (x:(List (List Term))) (hx:x.length≤1049600∧∀y0∈x,y0.length≤1049600∧∀y1∈y0,Term.sm 1049600 y1):zBy x=some x:=by
 have hl:=hx.1
 unfold zBy
 have hm:∀z:(List Term),mk 24 (x.length:Int) z=some (List.replicate x.length z):=fun z=>by
  unfold mk; rw [if_pos ⟨by omega,by simp; omega,by omega⟩]; simp
 rw [hm]
 simp only [Option.bind_some,zBM]
 rw [zGg x ?_ ?_ _ (by simp)]
 ·rfl
 ·intro ys i hi hl2
  unfold zCN
  rw [if_pos (by simp; omega)]
  have hi2:w64 ((i:Int)+1)=((i+1:Nat):Int):=zM (by omega)
  simp only [zL hi,zL (show i<ys.length by omega),Option.bind_some,Int.toNat_natCast,hi2,zJd x[i] (hx.2 _ (List.getElem_mem hi))]
 ·intro ys _
  unfold zCN
  rw [if_neg (by simp)]
theorem zOi (x:Pack) (hx:Pack.sm 1049600 x):zDB x=some x:=by
 obtain ⟨h0,h1,h2,h3,h4,h5⟩:=hx
 unfold zDB
 simp only [zFI x.Version h1,zKJ x.Provides h3,zLp x.Needs h4,zJd x.Bars h5,Option.bind_some]
theorem zME (x:(List Pack)) (hx:x.length≤1049600∧∀y0∈x,Pack.sm 1049600 y0):vW x=some x:=by
 have hl:=hx.1
 unfold vW
 have hm:∀z:Pack,mk 120 (x.length:Int) z=some (List.replicate x.length z):=fun z=>by
  unfold mk; rw [if_pos ⟨by omega,by simp; omega,by omega⟩]; simp
 rw [hm]
 simp only [Option.bind_some,zCl]
 rw [zGg x ?_ ?_ _ (by simp)]
 ·rfl
 ·intro ys i hi hl2
  unfold zDp
  rw [if_pos (by simp; omega)]
  have hi2:w64 ((i:Int)+1)=((i+1:Nat):Int):=zM (by omega)
  simp only [zL hi,zL (show i<ys.length by omega),Option.bind_some,Int.toNat_natCast,hi2,zOi x[i] (hx.2 _ (List.getElem_mem hi))]
 ·intro ys _
  unfold zDp
  rw [if_neg (by simp)]
theorem zKE (x:(List Int)) (hx:x.length≤1049600∧∀y0∈x,True):zCb x x=some true:=by
 have hl:=hx.1
 unfold zCb
 rw [if_neg (by simp)]
 unfold zCI
 rw [zGk x.length ?_ ?_]
 ·rfl
 ·intro i hi
  unfold zDq
  rw [if_pos (by simp; omega)]
  have hi2:w64 ((i:Int)+1)=((i+1:Nat):Int):=zM (by omega)
  simp [zL hi,hi2]
 ·unfold zDq
  rw [if_neg (by simp)]
theorem zLq (x:File) (hx:File.sm 1049600 x):zDA x x=some true:=by
 obtain ⟨h0,h1⟩:=hx
 unfold zDA
 simp [zKE x.Data h1]
theorem zKb (x:(List File)) (hx:x.length≤1049600∧∀y0∈x,File.sm 1049600 y0):zC8 x x=some true:=by
 have hl:=hx.1
 unfold zC8
 rw [if_neg (by simp)]
 unfold zCx
 rw [zGk x.length ?_ ?_]
 ·rfl
 ·intro i hi
  unfold zDr
  rw [if_pos (by simp; omega)]
  have hi2:w64 ((i:Int)+1)=((i+1:Nat):Int):=zM (by omega)
  simp [zL hi,hi2,zLq x[i] (hx.2 _ (List.getElem_mem hi))]
 ·unfold zDr
  rw [if_neg (by simp)]
theorem zIo (x:zC) (hx:zC.sm 1049600 x):zB1 x x=some true:=by
 obtain ⟨h0,h1,h2,h3,h4⟩:=hx
 unfold zB1
 simp [zKb x.Files h0]
def zI.sm (B:Nat) (x:zI):Prop:=(True)∧(zC.sm B x.zC)
theorem zGZ (x:zI) (hx:zI.sm 1049600 x):wG x x=some true:=by
 obtain ⟨h0,h1⟩:=hx
 unfold wG
 simp [zIo x.zC h1]
theorem zJL (x:(List Int)) (hx:x.length≤1049600∧∀y0∈x,True):zB0 x x=some true:=by
 have hl:=hx.1
 unfold zB0
 rw [if_neg (by simp)]
 unfold zBF
 rw [zGk x.length ?_ ?_]
 ·rfl
 ·intro i hi
  unfold zCM
  rw [if_pos (by simp; omega)]
  have hi2:w64 ((i:Int)+1)=((i+1:Nat):Int):=zM (by omega)
  simp [zL hi,hi2]
 ·unfold zCM
  rw [if_neg (by simp)]
theorem zEW (x:Version) (hx:Version.sm 1049600 x):vK x x=some true:=by
 obtain ⟨h0,h1,h2⟩:=hx
 unfold vK
 simp
theorem zI0 (x:(List ByteArray)) (hx:x.length≤1049600∧∀y0∈x,y0.size≤1049600):zAQ x x=some true:=by
 have hl:=hx.1
 unfold zAQ
 rw [if_neg (by simp)]
 unfold zBn
 rw [zGk x.length ?_ ?_]
 ·rfl
 ·intro i hi
  unfold zBT
  rw [if_pos (by simp; omega)]
  have hi2:w64 ((i:Int)+1)=((i+1:Nat):Int):=zM (by omega)
  simp [zL hi,hi2]
 ·unfold zBT
  rw [if_neg (by simp)]
theorem zLj (x:Term) (hx:Term.sm 1049600 x):zD4 x x=some true:=by
 obtain ⟨h0,h1,h2⟩:=hx
 unfold zD4
 simp [zEW x.Low h1,zEW x.High h2]
theorem zHm (x:(List Term)) (hx:x.length≤1049600∧∀y0∈x,Term.sm 1049600 y0):zA8 x x=some true:=by
 have hl:=hx.1
 unfold zA8
 rw [if_neg (by simp)]
 unfold zCd
 rw [zGk x.length ?_ ?_]
 ·rfl
 ·intro i hi
  unfold zDo
  rw [if_pos (by simp; omega)]
  have hi2:w64 ((i:Int)+1)=((i+1:Nat):Int):=zM (by omega)
  simp [zL hi,hi2,zLj x[i] (hx.2 _ (List.getElem_mem hi))]
 ·unfold zDo
  rw [if_neg (by simp)]
theorem zJ4 (x:(List (List Term))) (hx:x.length≤1049600∧∀y0∈x,y0.length≤1049600∧∀y1∈y0,Term.sm 1049600 y1):zB4 x x=some true:=by
 have hl:=hx.1
 unfold zB4
 rw [if_neg (by simp)]
 unfold zBK
 rw [zGk x.length ?_ ?_]
 ·rfl
 ·intro i hi
  unfold zCR
  rw [if_pos (by simp; omega)]
  have hi2:w64 ((i:Int)+1)=((i+1:Nat):Int):=zM (by omega)
  simp [zL hi,hi2,zHm x[i] (hx.2 _ (List.getElem_mem hi))]
 ·unfold zCR
  rw [if_neg (by simp)]
theorem zLm (x:Pack) (hx:Pack.sm 1049600 x):zD3 x x=some true:=by
 obtain ⟨h0,h1,h2,h3,h4,h5⟩:=hx
 unfold zD3
 simp [zEW x.Version h1,zI0 x.Provides h3,zJ4 x.Needs h4,zHm x.Bars h5]
theorem zK1 (x:(List Pack)) (hx:x.length≤1049600∧∀y0∈x,Pack.sm 1049600 y0):zC6 x x=some true:=by
 have hl:=hx.1
 unfold zC6
 rw [if_neg (by simp)]
 unfold zCC
 rw [zGk x.length ?_ ?_]
 ·rfl
 ·intro i hi
  unfold zDn
  rw [if_pos (by simp; omega)]
  have hi2:w64 ((i:Int)+1)=((i+1:Nat):Int):=zM (by omega)
  simp [zL hi,hi2,zLm x[i] (hx.2 _ (List.getElem_mem hi))]
 ·unfold zDn
  rw [if_neg (by simp)]
theorem zIl (a:Int):(b2s [a]).size =1:=rfl
theorem zJv {k:Int} (h0:0≤k) (h1:k≤9223372036854775807):∃s,xY k=some s:=by
 have key:∀(n:Nat) (k:Int) (s:ByteArray),0≤k→k<10^n→k≤9223372036854775807→s.size+n≤1000→∃t,loop zCQ (k,s)=some t∧t.size≤s.size+n:=by
  intro n
  induction n with
  |zero=>
   intro k s h0 h1 _ _
   have:k=0:=by simp at h1; omega
   subst this
   exact ⟨s,by rw [jR]; rfl,by omega⟩
  |succ n ih=>
   intro k s h0 h1 h2 h3
   by_cases hk:k>0
   ·rw [jR]
    unfold zCQ
    simp only
    rw [if_pos (by simpa using hk)]
    have hc:∀a:Int,cat (b2s [a]) s=some (b2s [a]++s):=fun a=>by
     unfold cat; rw [if_pos (by rw [zIl]; omega)]
    rw [hc]
    simp only [Option.bind_some,Lp.elim]
    have hd:k.tdiv 10=k / 10:=Int.tdiv_eq_ediv_of_nonneg h0
    rw [hd,yU (by omega) (by omega)]
    obtain ⟨t,g1,g2⟩:=ih (k / 10) (b2s [IntKind.u8.wrap (w64 (48+k.tmod 10))]++s) (by omega) (by rw [Int.pow_succ] at h1; omega) (by omega) (by rw [ByteArray.size_append,zIl]; omega)
    refine ⟨t,g1,?_⟩
    rw [ByteArray.size_append,zIl] at g2
    omega
   ·have:k=0:=by omega
    subst this
    exact ⟨s,by rw [jR]; rfl,by omega⟩
 unfold xY
 by_cases hk:k≤0
 ·rw [if_pos (by simpa using hk)]
  exact ⟨_,rfl⟩
 ·rw [if_neg (by simpa using hk)]
  obtain ⟨t,g1,g2⟩:=key 19 k (bs []) h0 (by omega) h1 (by decide)
  unfold zB8
  rw [g1]
  simp only [Option.bind_some]
  have e0:(bs []).size =0:=rfl
  have e1:(bs [109]).size =1:=rfl
  unfold cat
  rw [if_pos (by omega)]
  exact ⟨_,rfl⟩
noncomputable def mT (k:Int):ByteArray:=(xY k).getD ByteArray.empty
theorem zE2 {k:Int} (h0:0≤k) (h1:k≤9223372036854775807):xY k=some (mT k):=by
 obtain ⟨s,hs⟩:=zJv h0 h1
 unfold mT
 rw [hs]
 rfl
def zM5 (_:Int) (k:Int):Int:=IntKind.u8.wrap k
theorem zJx (xs:List Int) (hx:xs.length≤1049600∧∀y0∈xs,True) (k:Int) (h0:0≤k) (h1:k+cs c1 xs≤9223372036854775807):zAd xs k=some (k+cs c1 xs,pm zM5 c1 xs k):=by
 unfold zAd zAz
 have key:=zEp zM5 c1 (fun y0=>True) zDj (b:=kL) ?_ ?_ xs [] k hx.2 h0 h1 (by have:=hx.1; simp; omega)
 ·simp only [List.nil_append,List.length_nil,Int.natCast_zero] at key
  rw [key]
  rfl
 ·intro l r x k hP h0 hk hl
  simp only [c1] at hk
  have w0:=yU (x:=k+1) (by omega) (by omega)
  have hi2:w64 ((l.length:Int)+1)=((l.length+1:Nat):Int):=zM (by omega)
  unfold kL
  rw [if_pos (by simp; omega)]
  simp only [zCT,zGl,Option.bind_some,Int.toNat_natCast,hi2,w0]
  rfl
 ·intro l k
  unfold kL
  rw [if_neg (by simp)]
theorem zKd (xs:List Int) (hx:xs.length≤1049600∧∀y0∈xs,True) (k:Int) (h0:0≤k) (h1:k+cs c1 xs≤9223372036854775807):zAH (pm zM5 c1 xs k) k=some (k+cs c1 xs):=by
 unfold zAH zBj
 have key:=zId zM5 c1 (fun y0=>True) zDj (b:=zAF) ?_ ?_ xs [] k hx.2 h0 h1 (by have:=hx.1; simp; omega)
 ·simp only [List.nil_append,List.length_nil,Int.natCast_zero] at key
  rw [key]
  rfl
 ·intro l r x k hP h0 hk hl
  simp only [c1] at hk
  have w0:=yU (x:=k+1) (by omega) (by omega)
  have hi2:w64 ((l.length:Int)+1)=((l.length+1:Nat):Int):=zM (by omega)
  unfold zAF
  rw [if_pos (by simp; omega)]
  simp [zCT,hi2,zM5,w0]
  all_goals (first|rfl|omega|(simp only [c1]; omega))
 ·intro l k
  unfold zAF
  rw [if_neg (by simp)]
noncomputable def mFile (x:File) (k:Int):File:=({Path:=mT (k),Data:=pm zM5 c1 x.Data (k+1)}:File)
noncomputable def cFile (x:File):Int:=1+cs c1 x.Data
theorem zBr (x:File):0≤cFile x:=by
 have n1:=vC zDj x.Data
 unfold cFile
 omega
theorem zJl (xs:List File) (hx:xs.length≤1049600∧∀y0∈xs,File.sm 1049600 y0) (k:Int) (h0:0≤k) (h1:k+cs cFile xs≤9223372036854775807):kW xs k=some (k+cs cFile xs,pm mFile cFile xs k):=by
 unfold kW zA4
 have key:=zEp mFile cFile (fun y0=>File.sm 1049600 y0) zBr (b:=zAb) ?_ ?_ xs [] k hx.2 h0 h1 (by have:=hx.1; simp; omega)
 ·simp only [List.nil_append,List.length_nil,Int.natCast_zero] at key
  rw [key]
  rfl
 ·intro l r x k hP h0 hk hl
  simp only [cFile] at hk
  have n1:=vC zDj x.Data
  have t0:=zE2 (k:=k) (by omega) (by omega)
  have w0:=yU (x:=k+1) (by omega) (by omega)
  have t1:=zJx x.Data (hP.2) (k+1) (by omega) (by omega)
  have hi2:w64 ((l.length:Int)+1)=((l.length+1:Nat):Int):=zM (by omega)
  unfold zAb
  rw [if_pos (by simp; omega)]
  simp only [zCT,zGl,Option.bind_some,Int.toNat_natCast,hi2,t0,w0,t1,zHh (zE7 _ _ _ _)]
  rw [show k+1+cs c1 x.Data=k+cFile x from by simp only [cFile]; omega]
  rfl
 ·intro l k
  unfold zAb
  rw [if_neg (by simp)]
theorem zK4 (xs:List File) (hx:xs.length≤1049600∧∀y0∈xs,File.sm 1049600 y0) (k:Int) (h0:0≤k) (h1:k+cs cFile xs≤9223372036854775807):zAS (pm mFile cFile xs k) k=some (k+cs cFile xs):=by
 unfold zAS zBc
 have key:=zId mFile cFile (fun y0=>File.sm 1049600 y0) zBr (b:=zA1) ?_ ?_ xs [] k hx.2 h0 h1 (by have:=hx.1; simp; omega)
 ·simp only [List.nil_append,List.length_nil,Int.natCast_zero] at key
  rw [key]
  rfl
 ·intro l r x k hP h0 hk hl
  simp only [cFile] at hk
  have n1:=vC zDj x.Data
  have t0:=zE2 (k:=k) (by omega) (by omega)
  have w0:=yU (x:=k+1) (by omega) (by omega)
  have t1:=zKd x.Data (hP.2) (k+1) (by omega) (by omega)
  have z1:¬(k+1+cs c1 x.Data<0):=by omega
  have hi2:w64 ((l.length:Int)+1)=((l.length+1:Nat):Int):=zM (by omega)
  unfold zA1
  rw [if_pos (by simp; omega)]
  simp [zCT,hi2,mFile,t0,w0,t1,z1]
  all_goals (first|rfl|omega|(simp only [cFile]; omega))
 ·intro l k
  unfold zA1
  rw [if_neg (by simp)]
theorem zHj (x:zC) (hP:zC.sm 1049600 x) (k:Int) (h0:0≤k) (h1:k+cs cFile x.Files≤9223372036854775807):tJ x k=some (k+cs cFile x.Files,pm mFile cFile x.Files (k)):=by
 have n0:=vC zBr x.Files
 have t0:=zJl x.Files (hP.1) (k) (by omega) (by omega)
 unfold tJ
 simp only [t0,Option.bind_some,zHh (zE7 _ _ _ _)]
theorem zLw (x:zC) (hP:zC.sm 1049600 x) (k:Int) (h0:0≤k) (h1:k+cs cFile x.Files≤9223372036854775807):zBv ({Files:=pm mFile cFile x.Files (k),Budget:=x.Budget,Writes:=x.Writes,Stop:=x.Stop,Down:=x.Down}:zC) k=some (k+cs cFile x.Files):=by
 have n0:=vC zBr x.Files
 have t0:=zK4 x.Files (hP.1) (k) (by omega) (by omega)
 have z0:¬(k+cs cFile x.Files<0):=by omega
 unfold zBv
 simp [t0]
 all_goals (first|rfl|omega)
theorem zGE (x:zI) (hP:zI.sm 1049600 x) (k:Int) (h0:0≤k) (h1:k+cs cFile x.zC.Files≤9223372036854775807):vE x k=some (k+cs cFile x.zC.Files,pm mFile cFile x.zC.Files (k)):=by
 have n0:=vC zBr x.zC.Files
 have t0:=zHj x.zC (hP.2) (k) (by omega) (by omega)
 unfold vE
 simp only [t0,Option.bind_some,zHh (zE7 _ _ _ _)]
theorem zHb (x:zI) (hP:zI.sm 1049600 x) (k:Int) (h0:0≤k) (h1:k+cs cFile x.zC.Files≤9223372036854775807):wO ({Code:=x.Code,zC:=({Files:=pm mFile cFile x.zC.Files (k),Budget:=x.zC.Budget,Writes:=x.zC.Writes,Stop:=x.zC.Stop,Down:=x.zC.Down}:zC)}:zI) k=some (k+cs cFile x.zC.Files):=by
 have n0:=vC zBr x.zC.Files
 have t0:=zLw x.zC (hP.2) (k) (by omega) (by omega)
 have z0:¬(k+cs cFile x.zC.Files<0):=by omega
 unfold wO
 simp [t0]
 all_goals (first|rfl|omega)
def zPm (_:Int) (k:Int):Int:=k
theorem zIz (xs:List Int) (hx:xs.length≤1049600∧∀y0∈xs,True) (k:Int) (h0:0≤k) (h1:k+cs c1 xs≤9223372036854775807):jJ xs k=some (k+cs c1 xs,pm zPm c1 xs k):=by
 unfold jJ kZ
 have key:=zEp zPm c1 (fun y0=>True) zDj (b:=jP) ?_ ?_ xs [] k hx.2 h0 h1 (by have:=hx.1; simp; omega)
 ·simp only [List.nil_append,List.length_nil,Int.natCast_zero] at key
  rw [key]
  rfl
 ·intro l r x k hP h0 hk hl
  simp only [c1] at hk
  have w0:=yU (x:=k+1) (by omega) (by omega)
  have hi2:w64 ((l.length:Int)+1)=((l.length+1:Nat):Int):=zM (by omega)
  unfold jP
  rw [if_pos (by simp; omega)]
  simp only [zCT,zGl,Option.bind_some,Int.toNat_natCast,hi2,w0]
  rfl
 ·intro l k
  unfold jP
  rw [if_neg (by simp)]
noncomputable def zKT (_:ByteArray) (k:Int):ByteArray:=mT k
theorem zHO (xs:List ByteArray) (hx:xs.length≤1049600∧∀y0∈xs,y0.size≤1049600) (k:Int) (h0:0≤k) (h1:k+cs c1 xs≤9223372036854775807):uW xs k=some (k+cs c1 xs,pm zKT c1 xs k):=by
 unfold uW jQ
 have key:=zEp zKT c1 (fun y0=>y0.size≤1049600) zDj (b:=jA) ?_ ?_ xs [] k hx.2 h0 h1 (by have:=hx.1; simp; omega)
 ·simp only [List.nil_append,List.length_nil,Int.natCast_zero] at key
  rw [key]
  rfl
 ·intro l r x k hP h0 hk hl
  simp only [c1] at hk
  have t0:=zE2 (k:=k) (by omega) (by omega)
  have w0:=yU (x:=k+1) (by omega) (by omega)
  have hi2:w64 ((l.length:Int)+1)=((l.length+1:Nat):Int):=zM (by omega)
  unfold jA
  rw [if_pos (by simp; omega)]
  simp only [zCT,zGl,Option.bind_some,Int.toNat_natCast,hi2,t0,w0]
  rfl
 ·intro l k
  unfold jA
  rw [if_neg (by simp)]
noncomputable def zO5 (x:Term) (k:Int):Term:=({Name:=mT (k),Low:=({A:=(k+1),B:=(k+1+1),C:=(k+1+1+1)}:Version),High:=({A:=(k+1+1+1+1),B:=(k+1+1+1+1+1),C:=(k+1+1+1+1+1+1)}:Version)}:Term)
noncomputable def zFE (x:Term):Int:=1+1+1+1+1+1+1
theorem zEr (x:Term):0≤zFE x:=by
 unfold zFE
 omega
theorem zGI (xs:List Term) (hx:xs.length≤1049600∧∀y0∈xs,Term.sm 1049600 y0) (k:Int) (h0:0≤k) (h1:k+cs zFE xs≤9223372036854775807):uK xs k=some (k+cs zFE xs,pm zO5 zFE xs k):=by
 unfold uK zAC
 have key:=zEp zO5 zFE (fun y0=>Term.sm 1049600 y0) zEr (b:=kH) ?_ ?_ xs [] k hx.2 h0 h1 (by have:=hx.1; simp; omega)
 ·simp only [List.nil_append,List.length_nil,Int.natCast_zero] at key
  rw [key]
  rfl
 ·intro l r x k hP h0 hk hl
  simp only [zFE] at hk
  have t0:=zE2 (k:=k) (by omega) (by omega)
  have w0:=yU (x:=k+1) (by omega) (by omega)
  have w1:=yU (x:=k+1+1) (by omega) (by omega)
  have w2:=yU (x:=k+1+1+1) (by omega) (by omega)
  have w3:=yU (x:=k+1+1+1+1) (by omega) (by omega)
  have w4:=yU (x:=k+1+1+1+1+1) (by omega) (by omega)
  have w5:=yU (x:=k+1+1+1+1+1+1) (by omega) (by omega)
  have w6:=yU (x:=k+1+1+1+1+1+1+1) (by omega) (by omega)
  have hi2:w64 ((l.length:Int)+1)=((l.length+1:Nat):Int):=zM (by omega)
  unfold kH
  rw [if_pos (by simp; omega)]
  simp only [zCT,zGl,Option.bind_some,Int.toNat_natCast,hi2,t0,w0,w1,w2,w3,w4,w5,w6]
  rw [show k+1+1+1+1+1+1+1=k+zFE x from by simp only [zFE]; omega]
  rfl
 ·intro l k
  unfold kH
  rw [if_neg (by simp)]
noncomputable def zNW (x:(List Term)) (k:Int):(List Term):=pm zO5 zFE x k
noncomputable def zFa (x:(List Term)):Int:=cs zFE x
theorem zFv (x:(List Term)):0≤zFa x:=vC zEr x
theorem zIC (xs:List (List Term)) (hx:xs.length≤1049600∧∀y0∈xs,y0.length≤1049600∧∀y1∈y0,Term.sm 1049600 y1) (k:Int) (h0:0≤k) (h1:k+cs zFa xs≤9223372036854775807):jK xs k=some (k+cs zFa xs,pm zNW zFa xs k):=by
 unfold jK kY
 have key:=zEp zNW zFa (fun y0=>y0.length≤1049600∧∀y1∈y0,Term.sm 1049600 y1) zFv (b:=jM) ?_ ?_ xs [] k hx.2 h0 h1 (by have:=hx.1; simp; omega)
 ·simp only [List.nil_append,List.length_nil,Int.natCast_zero] at key
  rw [key]
  rfl
 ·intro l r x k hP h0 hk hl
  simp only [zFa] at hk
  have n0:=vC zEr x
  have t0:=zGI x (hP) (k) (by omega) (by omega)
  have hi2:w64 ((l.length:Int)+1)=((l.length+1:Nat):Int):=zM (by omega)
  unfold jM
  rw [if_pos (by simp; omega)]
  simp only [zCT,zGl,Option.bind_some,Int.toNat_natCast,hi2,t0,zHh (zE7 _ _ _ _)]
  rfl
 ·intro l k
  unfold jM
  rw [if_neg (by simp)]
noncomputable def zQB (x:Pack) (k:Int):Pack:=({Name:=mT (k),Version:=({A:=(k+1),B:=(k+1+1),C:=(k+1+1+1)}:Version),Size:=(k+1+1+1+1),Provides:=pm zKT c1 x.Provides (k+1+1+1+1+1),Needs:=pm zNW zFa x.Needs (k+1+1+1+1+1+cs c1 x.Provides),Bars:=pm zO5 zFE x.Bars (k+1+1+1+1+1+cs c1 x.Provides+cs zFa x.Needs)}:Pack)
noncomputable def zGh (x:Pack):Int:=1+1+1+1+1+cs c1 x.Provides+cs zFa x.Needs+cs zFE x.Bars
theorem zHv (x:Pack):0≤zGh x:=by
 have n5:=vC zDj x.Provides
 have n6:=vC zFv x.Needs
 have n7:=vC zEr x.Bars
 unfold zGh
 omega
theorem zJr (xs:List Pack) (hx:xs.length≤1049600∧∀y0∈xs,Pack.sm 1049600 y0) (k:Int) (h0:0≤k) (h1:k+cs zGh xs≤9223372036854775807):kX xs k=some (k+cs zGh xs,pm zQB zGh xs k):=by
 unfold kX zA3
 have key:=zEp zQB zGh (fun y0=>Pack.sm 1049600 y0) zHv (b:=zAc) ?_ ?_ xs [] k hx.2 h0 h1 (by have:=hx.1; simp; omega)
 ·simp only [List.nil_append,List.length_nil,Int.natCast_zero] at key
  rw [key]
  rfl
 ·intro l r x k hP h0 hk hl
  simp only [zGh] at hk
  have n5:=vC zDj x.Provides
  have n6:=vC zFv x.Needs
  have n7:=vC zEr x.Bars
  have t0:=zE2 (k:=k) (by omega) (by omega)
  have w0:=yU (x:=k+1) (by omega) (by omega)
  have w1:=yU (x:=k+1+1) (by omega) (by omega)
  have w2:=yU (x:=k+1+1+1) (by omega) (by omega)
  have w3:=yU (x:=k+1+1+1+1) (by omega) (by omega)
  have w4:=yU (x:=k+1+1+1+1+1) (by omega) (by omega)
  have t5:=zHO x.Provides (hP.2.2.2.1) (k+1+1+1+1+1) (by omega) (by omega)
  have t6:=zIC x.Needs (hP.2.2.2.2.1) (k+1+1+1+1+1+cs c1 x.Provides) (by omega) (by omega)
  have t7:=zGI x.Bars (hP.2.2.2.2.2) (k+1+1+1+1+1+cs c1 x.Provides+cs zFa x.Needs) (by omega) (by omega)
  have hi2:w64 ((l.length:Int)+1)=((l.length+1:Nat):Int):=zM (by omega)
  unfold zAc
  rw [if_pos (by simp; omega)]
  simp only [zCT,zGl,Option.bind_some,Int.toNat_natCast,hi2,t0,w0,w1,w2,w3,w4,t5,t6,t7,zHh (zE7 _ _ _ _)]
  rw [show k+1+1+1+1+1+cs c1 x.Provides+cs zFa x.Needs+cs zFE x.Bars=k+zGh x from by simp only [zGh]; omega]
  rfl
 ·intro l k
  unfold zAc
  rw [if_neg (by simp)]
theorem Version.zEv {x:Version} (h:Version.sm 1048576 x):Version.sm 1049600 x:=⟨trivial,trivial,trivial⟩
theorem Term.zEv {x:Term} (h:Term.sm 1048576 x):Term.sm 1049600 x:=⟨(Nat.le_trans h.1 (by decide)),(Version.zEv h.2.1),(Version.zEv h.2.2)⟩
theorem Pack.zEv {x:Pack} (h:Pack.sm 1048576 x):Pack.sm 1049600 x:=⟨(Nat.le_trans h.1 (by decide)),(Version.zEv h.2.1),trivial,⟨Nat.le_trans h.2.2.2.1.1 (by decide),fun y0 z0=>(Nat.le_trans (h.2.2.2.1.2 y0 z0) (by decide))⟩,⟨Nat.le_trans h.2.2.2.2.1.1 (by decide),fun y0 z0=>⟨Nat.le_trans (h.2.2.2.2.1.2 y0 z0).1 (by decide),fun y1 z1=>(Term.zEv ((h.2.2.2.2.1.2 y0 z0).2 y1 z1))⟩⟩,⟨Nat.le_trans h.2.2.2.2.2.1 (by decide),fun y0 z0=>(Term.zEv (h.2.2.2.2.2.2 y0 z0))⟩⟩
theorem File.zEv {x:File} (h:File.sm 1048576 x):File.sm 1049600 x:=⟨(Nat.le_trans h.1 (by decide)),⟨Nat.le_trans h.2.1 (by decide),fun y0 z0=>trivial⟩⟩
theorem zC.zEv {x:zC} (h:zC.sm 1048576 x):zC.sm 1049600 x:=⟨⟨Nat.le_trans h.1.1 (by decide),fun y0 z0=>(File.zEv (h.1.2 y0 z0))⟩,trivial,trivial,trivial,trivial⟩
theorem zKc (x:(List ByteArray)) (hx:x.length≤1049600∧∀y0∈x,y0.size≤1049600):cs c1 x≤1049600:=by
 have:=zKl (c:=c1) (C:=1) (N:=1049600) (by decide) x (fun a _=>by unfold c1; decide) hx.1
 omega
theorem zIT (x:(List Term)) (hx:x.length≤1049600∧∀y0∈x,Term.sm 1049600 y0):cs zFE x≤7347200:=by
 have:=zKl (c:=zFE) (C:=7) (N:=1049600) (by decide) x (fun a ha=>by have hP:=hx.2 a ha; unfold zFE; omega) hx.1
 omega
theorem zKV (x:(List (List Term))) (hx:x.length≤1049600∧∀y0∈x,y0.length≤1049600∧∀y1∈y0,Term.sm 1049600 y1):cs zFa x≤7711621120000:=by
 have:=zKl (c:=zFa) (C:=7347200) (N:=1049600) (by decide) x (fun a ha=>zIT a (hx.2 a ha)) hx.1
 omega
theorem zMx (x:(List Pack)) (hx:x.length≤1049600∧∀y0∈x,Pack.sm 1049600 y0):cs zGh x≤8094126340838528000:=by
 have:=zKl (c:=zGh) (C:=7711629516805) (N:=1049600) (by decide) x (fun a ha=>by have hP:=hx.2 a ha; have q5:=zKc a.Provides (hP.2.2.2.1); have q6:=zKV a.Needs (hP.2.2.2.2.1); have q7:=zIT a.Bars (hP.2.2.2.2.2); unfold zGh; omega) hx.1
 omega
theorem zMK (x:(List Int)) (hx:x.length≤1049600∧∀y0∈x,True):cs c1 x≤1049600:=by
 have:=zKl (c:=c1) (C:=1) (N:=1049600) (by decide) x (fun a _=>by unfold c1; decide) hx.1
 omega
theorem zIX (x:(List File)) (hx:x.length≤1049600∧∀y0∈x,File.sm 1049600 y0):cs cFile x≤1101661209600:=by
 have:=zKl (c:=cFile) (C:=1049601) (N:=1049600) (by decide) x (fun a ha=>by have hP:=hx.2 a ha; have q1:=zMK a.Data (hP.2); unfold cFile; omega) hx.1
 omega
theorem zLl (x:(List Int)) (hx:x.length≤1049600∧∀y0∈x,True):cs c1 x≤1049600:=by
 have:=zKl (c:=c1) (C:=1) (N:=1049600) (by decide) x (fun a _=>by unfold c1; decide) hx.1
 omega
theorem zFU (a1:(List Pack)) (a2:zC) (a3:(List Int)) (k0:a1.length≤maxLen∧∀y1∈a1,Pack.ok y1) (k1:zC.ok a2) (k2:a3.length≤maxLen∧∀y1∈a3,IntKind.i64.min≤y1∧y1≤IntKind.i64.max) (both:(a1.length≤1048576∧∀y0∈a1,Pack.sm 1048576 y0)→(zC.sm 1048576 a2)→(a3.length≤1048576∧∀y0∈a3,True)→∃r,zAE a1 a2 a3=some r∧tN a1 a2 a3=some r∧(zI.sm 1049600 r)):vD a1 a2 a3=some true:=by
 unfold vD
 by_cases d1:(a3.length:Int)>1048576
 ·rw [if_pos (by simpa using d1)]
 rw [if_neg (by simpa using d1)]
 have s_a3:a3.length≤1048576∧∀y0∈a3,True:=⟨by omega,fun _ _=>trivial⟩
 obtain ⟨r2,e2,g2⟩:=zMm a1 k0 1048576 (by omega) (by omega)
 rw [e2]
 simp only [Option.bind_some]
 by_cases d2:r2<0
 ·rw [if_pos (by simpa using d2)]
 rw [if_neg (by simpa using d2)]
 obtain ⟨p2,q2,s_a1⟩:=g2.resolve_left d2
 obtain ⟨r3,e3,g3⟩:=zNN a2 k1 r2 (by omega) (by omega)
 rw [e3]
 simp only [Option.bind_some]
 by_cases d3:r3<0
 ·rw [if_pos (by simpa using d3)]
 rw [if_neg (by simpa using d3)]
 obtain ⟨p3,q3,s_a2⟩:=g3.resolve_left d3
 obtain ⟨r,e1,e2,hr⟩:=both s_a1 s_a2 s_a3
 have m_a1:a1.length≤1049600∧∀y0∈a1,Pack.sm 1049600 y0:=⟨Nat.le_trans s_a1.1 (by decide),fun y0 z0=>(Pack.zEv (s_a1.2 y0 z0))⟩
 have m_a2:zC.sm 1049600 a2:=(zC.zEv s_a2)
 have m_a3:a3.length≤1049600∧∀y0∈a3,True:=⟨Nat.le_trans s_a3.1 (by decide),fun y0 z0=>trivial⟩
 have n1:=vC zHv a1
 have b1:=zMx a1 (m_a1)
 have n3:=vC zBr a2.Files
 have b3:=zIX a2.Files (m_a2.1)
 have n5:=vC zDj a3
 have b5:=zLl a3 (m_a3)
 have n7:=vC zBr r.zC.Files
 have b7:=zIX r.zC.Files (hr.2.1)
 have t2:=zJr a1 m_a1 (1) (by omega) (by omega)
 have t4:=zHj a2 m_a2 (1+cs zGh a1) (by omega) (by omega)
 have t6:=zIz a3 m_a3 (1+cs zGh a1+cs cFile a2.Files) (by omega) (by omega)
 have z1:¬(1+cs zGh a1+cs cFile a2.Files+cs c1 a3<0):=by omega
 have t8:=zGE r hr 1 (by omega) (by omega)
 have u8:=zHb r hr 1 (by omega) (by omega)
 have z2:¬(1+cs cFile r.zC.Files<0):=by omega
 simp [e1,e2,zME a1 m_a1,zK1 a1 m_a1,zN3 a2 m_a2,zIo a2 m_a2,zLz a3 m_a3,zJL a3 m_a3,zGZ r hr,t2,t4,t6,z1,t8,u8,z2,zHh (zE7 _ _ _ _)]
def bl (s:ByteArray):List Int:=s.toList.map (fun b=>(b.toNat:Int))
theorem xI (s:ByteArray):(bl s).length =s.size:=by
 unfold bl
 rw [List.length_map,ByteArray.toList_eq]
 rfl
theorem zEK {s:ByteArray} {i:Nat} (h:i< (bl s).length):bidx s (i:Int)=some (bl s)[i]:=by
 unfold bidx
 rw [if_pos (by omega)]
 have hs:i<s.size:=by rw [xI] at h; exact h
 have e:s[(i:Int).toNat]? =some s[i]:=by simp [hs]
 rw [e]
 simp only [Option.map_some,bl,List.getElem_map]
 congr 2
 simp only [ByteArray.toList_eq]
 rfl
theorem zJp {s:ByteArray}:∀c∈bl s,0≤c∧c≤255:=by
 intro c hc
 unfold bl at hc
 obtain ⟨b,_,rfl⟩:=List.mem_map.1 hc
 have:=b.toNat_lt
 omega
theorem zIf:∀(a:List UInt8),Op.bytesLess a a=false
 |[]=>rfl
 |x::a=>by simp [Op.bytesLess,zIf a]
theorem zIS:∀{a b c:List UInt8},Op.bytesLess a b=true→Op.bytesLess b c=true→Op.bytesLess a c=true
 |_,[],_,h,_=>by simp [Op.bytesLess] at h
 |_,_::_,[],_,h=>by simp [Op.bytesLess] at h
 |[],_::_,_::_,_,_=>by simp [Op.bytesLess]
 |x::a,y::b,z::c,h1,h2=>by
  simp only [Op.bytesLess,Bool.or_eq_true,decide_eq_true_eq,Bool.and_eq_true,beq_iff_eq] at h1 h2 ⊢
  rcases h1 with h1|⟨rfl,h1⟩
  ·rcases h2 with h2|⟨rfl,h2⟩
   ·exact .inl (UInt8.lt_trans h1 h2)
   ·exact .inl h1
  ·rcases h2 with h2|⟨rfl,h2⟩
   ·exact .inl h2
   ·exact .inr ⟨rfl,zIS h1 h2⟩
theorem zLX:∀(a b:List UInt8),Op.bytesLess a b=false→a≠b→Op.bytesLess b a=true
 |[],[],_,h=>absurd rfl h
 |[],_::_,h,_=>by simp [Op.bytesLess] at h
 |_::_,[],_,_=>by simp [Op.bytesLess]
 |x::a,y::b,h,hne=>by
  simp only [Op.bytesLess,Bool.or_eq_false_iff,decide_eq_false_iff_not,Bool.and_eq_false_iff,beq_eq_false_iff_ne] at h
  simp only [Op.bytesLess,Bool.or_eq_true,decide_eq_true_eq,Bool.and_eq_true,beq_iff_eq]
  by_cases hxy:x=y
  ·subst hxy
   refine .inr ⟨rfl,zLX a b ?_ (fun e=>hne (by rw [e]))⟩
   rcases h.2 with h'|h'
   ·exact absurd rfl h'
   ·exact h'
  ·refine .inl ?_
   have:=h.1
   rw [UInt8.lt_iff_toNat_lt] at this ⊢
   have:x.toNat≠y.toNat:=fun e=>hxy (UInt8.toNat_inj.1 e)
   omega
theorem toList_inj {a b:ByteArray} (h:a.toList=b.toList):a=b:=by
 rw [ByteArray.toList_eq,ByteArray.toList_eq] at h
 cases a; cases b
 simp at h
 rw [h]
theorem zFT (a:ByteArray):slt a a=false:=zIf _
theorem zG0 {a b c:ByteArray} (h1:slt a b=true) (h2:slt b c=true):slt a c=true:=zIS h1 h2
theorem zQe {a b:ByteArray} (h:slt a b=false) (hne:a≠b):slt b a=true:=zLX _ _ h (fun e=>hne (toList_inj e))
theorem zJP {a b:ByteArray}:seq a b=true↔a=b:=by
 unfold seq
 simp only [beq_iff_eq]
 exact ⟨toList_inj,fun e=>by rw [e]⟩
theorem seq_eq (a b:ByteArray):seq a b=decide (a=b):=by
 rw [Bool.eq_iff_iff,zJP]; simp
theorem zQI (a b c:Int):xS a b c=some (decide (a≥b)&&decide (a≤c)):=by
 unfold xS
 cases decide (a≥b)<;>rfl
theorem zDK (a b:ByteArray):bl (a++b)=bl a++bl b:=by
 unfold bl
 rw [ByteArray.toList_eq,ByteArray.toList_eq,ByteArray.toList_eq]
 simp
theorem zEb (s:ByteArray) (i j:Nat):bl (s.extract i j)=((bl s).drop i).take (j-i):=by
 unfold bl
 rw [ByteArray.toList_eq,ByteArray.toList_eq]
 simp [List.map_drop,List.map_take]
theorem zJY {a b:ByteArray}:bl a=bl b↔a=b:=by
 constructor
 ·intro h
  unfold bl at h
  refine toList_inj ?_
  have hinj:∀(x y:List UInt8),x.map (fun b=>(b.toNat:Int))=y.map (fun b=>(b.toNat:Int))→x=y:=by
   intro x
   induction x with
   |nil=>intro y h; cases y<;>simp_all
   |cons u x ih=>
    intro y h
    cases y with
    |nil=>simp at h
    |cons v y=>
     simp only [List.map_cons,List.cons.injEq] at h
     rw [ih y h.2]
     have:u.toNat=v.toNat:=by omega
     rw [UInt8.toNat_inj.1 this]
  exact hinj _ _ h
 ·intro h; rw [h]
theorem zLS (a b:ByteArray):seq a b=decide (bl a=bl b):=by
 rw [seq_eq]
 simp [zJY]
theorem zLA {c:Int} (h0:0≤c) (h1:c≤255):bl (b2s [c])=[c]:=by
 unfold bl b2s
 rw [ByteArray.toList_eq]
 simp only [List.foldl_cons,List.foldl_nil]
 show [((UInt8.ofNat c.toNat).toNat :Int)]=[c]
 simp
 omega
theorem wrap_u8 {c:Int} (h0:0≤c) (h1:c≤255):IntKind.u8.wrap c=c:=by
 simp only [IntKind.wrap,IntKind.signed,IntKind.bits]
 simp
 omega
def zF2 (n:Nat):List Int:=if n<10 then [48+(n:Int)] else zF2 (n / 10)++[48+((n%10:Nat):Int)]
termination_by n
decreasing_by omega
theorem zAi {n:Nat} (h:n<10):zF2 n=[48+(n:Int)]:=by rw [zF2,if_pos h]
theorem zEi {n:Nat} (h:¬n<10):zF2 n=zF2 (n / 10)++[48+((n%10:Nat):Int)]:=by rw [zF2,if_neg h]
theorem zGr:∀(k n:Nat),10^k≤n→n<10^(k+1)→(zF2 n).length =k+1
 |0,n,_,h=>by rw [zAi (by simpa using h)]; rfl
 |k+1,n,h1,h2=>by
  have hp:1≤10^k:=Nat.one_le_pow _ _ (by omega)
  rw [Nat.pow_succ] at h1
  rw [Nat.pow_succ] at h2
  rw [zEi (by omega),List.length_append,zGr k (n / 10) (by omega) (by omega)]
  rfl
theorem zIk:∀(k n:Nat),n<10^(k+1)→(zF2 n).length ≤k+1
 |0,n,h=>by rw [zAi (by simpa using h)]; simp
 |k+1,n,h=>by
  by_cases hn:n<10
  ·rw [zAi hn]; simp
  ·rw [Nat.pow_succ] at h
   rw [zEi hn,List.length_append]
   have:=zIk k (n / 10) (by omega)
   simp only [List.length_singleton]
   omega
theorem zIy (g:Int→Option ByteArray) (a1:Int):uO g a1=if decide (a1<10) then some (b2s [IntKind.u8.wrap (w64 (48+a1))]) else (g (w64 (a1.tdiv 10))).bind fun x3=>(cat x3 (b2s [IntKind.u8.wrap (w64 (48+(a1.tmod 10)))])).bind fun x5=>some x5:=rfl
theorem zGd:∀(k f n:Nat),n<10^(k+1)→k<f→n≤9000000000000000000→k≤100→∃s,zPS uO f (n:Int)=some s∧bl s=zF2 n
 |k,0,n,_,hf,_,_=>by omega
 |k,f+1,n,h,hf,hn,hk=>by
  rw [show zPS uO (f+1) (n:Int)=uO (zPS uO f) (n:Int) from rfl,zIy]
  by_cases h1:n<10
  ·rw [if_pos (by simp; omega),yU (by omega) (by omega),wrap_u8 (by omega) (by omega)]
   exact ⟨_,rfl,by rw [zLA (by omega) (by omega),zAi h1]⟩
  ·rw [if_neg (by simp; omega)]
   cases k with
   |zero=>simp at h; omega
   |succ k=>
    have e1:w64 ((n:Int).tdiv 10)=((n / 10:Nat):Int):=by
     rw [Int.tdiv_eq_ediv_of_nonneg (by omega),yU (by omega) (by omega)]; omega
    have e2:(n:Int).tmod 10=((n%10:Nat):Int):=by
     rw [Int.tmod_eq_emod_of_nonneg (by omega)]; omega
    rw [Nat.pow_succ] at h
    obtain ⟨s,e,hs⟩:=zGd k f (n / 10) (by omega) (by omega) (by omega) (by omega)
    rw [e1,e2,e,yU (by omega) (by omega),wrap_u8 (by omega) (by omega)]
    have hsz:s.size≤k+1:=by
     rw [←xI,hs]
     exact zIk k (n / 10) (by omega)
    simp only [Option.bind_some]
    unfold cat
    rw [if_pos (by have:(b2s [48+((n%10:Nat):Int)]).size =1:=rfl; omega)]
    exact ⟨_,rfl,by rw [zDK,hs,zLA (by omega) (by omega),zEi h1]⟩
theorem zET (n:Nat) (h:n≤9000000000000000000):∃s,xG (n:Int)=some s∧bl s=zF2 n:=
 zGd 18 64 n (by omega) (by omega) h (by omega)
theorem zK8 (l:List UInt8):bl (bs l)=l.map (fun b=>(b.toNat:Int)):=by
 unfold bl bs
 rw [ByteArray.toList_eq]
theorem zCj {a b:ByteArray} (h:a.size+b.size≤1099511627776):cat a b=some (a++b):=if_pos h
theorem zG6 (a b c:ByteArray):a++b++c=a++(b++c):=zJY.1 (by simp only [zDK,List.append_assoc])
theorem zAX (a b:ByteArray):(a++b).size =a.size+b.size:=by
 rw [←xI,zDK,List.length_append,xI,xI]
theorem zGe {n:Nat} (h:n<256):(UInt8.ofNat n).toNat =n:=by
 simp [Nat.mod_eq_of_lt h]
theorem decDigits_eq:∀(n:Nat),(Lib.decDigits n).map (fun b=>(b.toNat:Int))=zF2 n:=by
 intro n
 induction n using Nat.strongRecOn with
 |ind n ih=>
  rw [Lib.decDigits]
  by_cases h:n<10
  ·rw [dif_pos h,zAi h]
   simp only [List.map_cons,List.map_nil]
   rw [zGe (by omega)]
   simp
  ·rw [dif_neg h,zEi h,List.map_append,ih (n / 10) (by omega)]
   simp only [List.map_cons,List.map_nil]
   rw [zGe (by omega)]
   simp
def zF3 (n:Nat):ByteArray:=⟨(Lib.decDigits n).toArray⟩
theorem zEw (n:Nat):bl (zF3 n)=zF2 n:=by
 unfold bl zF3
 rw [ByteArray.toList_eq]
 exact decDigits_eq n
theorem zHo (n:Nat) (h:n≤9000000000000000000):xG (n:Int)=some (zF3 n):=by
 obtain ⟨s,e,hs⟩:=zET n h
 rw [e,zJY.1 (hs.trans (zEw n).symm)]
theorem zFB (n:Nat) (h:n≤9000000000000000000):uU (n:Int) 10=some (zF3 n):=by
 unfold uU
 rw [if_pos (by omega)]
 unfold Lib.itoa zF3
 rw [if_neg (by omega)]
 simp
def inB (a b c:Int):Bool:=decide (b≤a)&&decide (a≤c)
theorem zJ6 (a b c:Int):xS a b c=some (inB a b c):=by
 unfold xS inB
 by_cases h:a≥b<;>simp [h]
theorem zHU (a b c:Int):xL a b c=some (inB a b c):=by
 unfold xL inB
 by_cases h:b≤a<;>simp [h]
section del
variable {α:Type} (p:α→Bool)
theorem zL4 {xs:List α} {l h:Nat} (h1:l≤h) (h2:h≤xs.length):zGM xs (l:Int) (h:Int)=some ((xs.drop l).take (h-l)):=by
 unfold zGM
 rw [if_pos (by omega)]
 rfl
end del
section del
variable {α:Type} (p:α→Bool)
theorem zPD {xs:List α} {l n:Nat} {a:α} (h:l+n≤xs.length):zO4 xs (l:Int) n a=some (xs.take l++List.replicate n a++xs.drop (l+n)):=by
 unfold zO4
 rw [if_pos (by omega)]
 simp [ovr]
end del
section del
variable {α:Type} (p:α→Bool)
theorem zOU {R:Type} (a1:List α) (out:Int→R) {b:Int→Option (Lp Int (Fl R Unit))} (hl:a1.length<9223372036854775807)
  (hstep:∀(i:Nat) (hi:i<a1.length),b (i:Int)=some (if p a1[i] then .done (.ret (out i)) else .go ((i+1:Nat):Int))) (hend:b (a1.length:Int)=some (.done (.nxt ()))):
  ∃t,loop b 0=some t∧((t= .nxt ()∧∀x∈a1,p x=false)∨∃i:Nat,∃hi:i<a1.length,t= .ret (out i)∧p a1[i]=true∧∀x∈a1.take i,p x=false):=by
 refine kS (b:=b) (fun i s=>s=(i:Int)∧∀x∈a1.take i,p x=false) a1.length _ (by
  rintro i s hi ⟨rfl,hn⟩
  have e:=hstep i hi
  cases hp:p a1[i]
  ·rw [hp] at e
   refine .inl ⟨_,e,rfl,fun x hx=>?_⟩
   rw [List.take_succ_eq_append_getElem hi] at hx
   rcases List.mem_append.1 hx with hx|hx
   ·exact hn x hx
   ·simp at hx; rw [hx]; exact hp
  ·rw [hp] at e
   exact .inr ⟨_,e,.inr ⟨i,hi,rfl,hp,hn⟩⟩) (by
  rintro s ⟨rfl,hn⟩
  rw [List.take_length] at hn
  exact ⟨_,hend,.inl ⟨rfl,hn⟩⟩) a1.length 0 0 (by omega) ⟨rfl,by simp⟩
end del
section del
variable {α:Type} (p:α→Bool)
theorem zOK {xs:List α} {i:Nat} {x:α} (h:i<xs.length):(xs.set i x).take (i+1)=xs.take i++[x]:=by
 rw [List.take_succ_eq_append_getElem (by simpa using h),List.take_set_of_le (Nat.le_refl _)]
 simp
end del
section del
variable {α:Type} (p:α→Bool)
theorem set_drop {xs:List α} {i j:Nat} {x:α} (h:i<j):(xs.set i x).drop j=xs.drop j:=by
 rw [List.drop_set_of_lt h]
end del
section del
variable {α:Type} (p:α→Bool)
theorem zN8 (a:List α) {b:(List α×Int×Int)→Option (Lp (List α×Int×Int) (List α×Int))} (hl:a.length<9223372036854775807)
  (hstep:∀(xs:List α) (i j:Nat) (hj:j<xs.length),i≤j→xs.length=a.length→xs[j]∈a→b (xs,(i:Int),(j:Int))=some (.go (if p xs[j] then (xs,(i:Int),((j+1:Nat):Int)) else (xs.set i xs[j],((i+1:Nat):Int),((j+1:Nat):Int)))))
  (hend:∀(xs:List α) (i:Nat),xs.length=a.length→b (xs,(i:Int),(xs.length:Int))=some (.done (xs,(i:Int)))) (i0 j0:Nat) (hij:i0≤j0) (hj0:j0≤a.length) (h0:a.take i0=(a.take j0).filter (fun x=> !p x)):
  ∃ys:List α,loop b (a,(i0:Int),(j0:Int))=some (ys,((a.filter (fun x=> !p x)).length :Int))∧ys.length=a.length∧ys.take (a.filter (fun x=> !p x)).length =a.filter (fun x=> !p x):=by
 obtain ⟨t,e,h⟩:=kS (b:=b) (fun j s=>s.1.length=a.length∧s.1.drop j=a.drop j∧s.2.2=(j:Int)∧∃i:Nat,s.2.1=(i:Int)∧i≤j∧s.1.take i=(a.take j).filter (fun x=> !p x)) a.length
  (fun t=>t.1.length=a.length∧∃i:Nat,t.2=(i:Int)∧i≤a.length∧t.1.take i=a.filter (fun x=> !p x)) (by
  rintro j ⟨xs,i',j'⟩ hj ⟨hxl,hxd,hjj,i,hi,hle,ht⟩
  simp only at hxl hxd hjj hi ht
  subst hjj hi
  have hjx:j<xs.length:=by omega
  have hx:xs[j]=a[j]:=by
   have:=congrArg (fun l=>l[0]?) hxd
   simp only [List.getElem?_drop,Nat.add_zero] at this
   rw [List.getElem?_eq_getElem hjx,List.getElem?_eq_getElem hj] at this
   exact Option.some.inj this
  have e:=hstep xs i j hjx hle hxl (by rw [hx]; exact List.getElem_mem hj)
  have htk:(a.take (j+1)).filter (fun x=> !p x)=(a.take j).filter (fun x=> !p x)++(if p a[j] then [] else [a[j]]):=by
   rw [List.take_succ_eq_append_getElem hj,List.filter_append]
   cases h:p a[j]<;>simp [h]
  have hd1:a.drop (j+1)=xs.drop (j+1):=by
   have:=congrArg (List.drop 1) hxd
   simpa [List.drop_drop] using this.symm
  rw [hx] at e
  cases hp:p a[j]
  ·rw [hp] at e htk
   refine .inl ⟨_,e,by simpa using hxl,?_,rfl,i+1,rfl,by omega,?_⟩
   ·show (xs.set i a[j]).drop (j+1)=a.drop (j+1)
    rw [set_drop (by omega),hd1]
   ·show (xs.set i a[j]).take (i+1)=_
    rw [zOK (by omega),htk,ht]
    rfl
  ·rw [hp] at e htk
   refine .inl ⟨_,e,hxl,?_,rfl,i,rfl,by omega,?_⟩
   ·exact hd1.symm
   ·show xs.take i=_
    rw [htk,ht]
    simp) (by
  rintro ⟨xs,i',j'⟩ ⟨hxl,hxd,hjj,i,hi,hle,ht⟩
  simp only at hxl hxd hjj hi ht
  subst hjj hi
  have e:=hend xs i hxl
  rw [hxl] at e
  refine ⟨_,e,hxl,i,rfl,hle,?_⟩
  rw [List.take_length] at ht
  exact ht) (a.length-j0) j0 (a,(i0:Int),(j0:Int)) (by omega) ⟨rfl,rfl,rfl,i0,rfl,hij,h0⟩
 obtain ⟨ys,i'⟩:=t
 obtain ⟨h1,i,h2,h3,h4⟩:=h
 simp only at h1 h2 h4
 subst h2
 have hlen:i=(a.filter (fun x=> !p x)).length :=by rw [←h4]; simp; omega
 subst hlen
 exact ⟨ys,e,h1,h4⟩
end del
section del
variable {α:Type} (p:α→Bool)
theorem zQf {a ys:List α} (zero:α) (h1:ys.length=a.length) (h2:ys.take (a.filter (fun x=> !p x)).length =a.filter (fun x=> !p x)):
  (zGM ys ((a.filter (fun x=> !p x)).length :Int) (ys.length:Int)).bind (fun r=>(zO4 ys ((a.filter (fun x=> !p x)).length :Int) r.length zero).bind fun z=>(zGM z 0 ((a.filter (fun x=> !p x)).length :Int)).bind fun q=>some q)=some (a.filter (fun x=> !p x)):=by
 have hle:(a.filter (fun x=> !p x)).length ≤ys.length:=by rw [h1]; exact List.length_filter_le _ _
 rw [zL4 hle (Nat.le_refl _)]
 simp only [Option.bind_some]
 rw [zPD (by simp; omega)]
 simp only [Option.bind_some]
 have:zGM (List.take (List.filter (fun x=> !p x) a).length ys++List.replicate (List.take (ys.length-(List.filter (fun x=> !p x) a).length) (List.drop (List.filter (fun x=> !p x) a).length ys)).length zero++
   List.drop ((List.filter (fun x=> !p x) a).length +(List.take (ys.length-(List.filter (fun x=> !p x) a).length) (List.drop (List.filter (fun x=> !p x) a).length ys)).length) ys) ((0:Nat):Int) ((a.filter (fun x=> !p x)).length :Int)=some (a.filter (fun x=> !p x)):=by
  rw [zL4 (by omega) (by simp; omega)]
  rw [h2]
  simp
 exact (congrArg (fun o=>Option.bind o fun q=>some q) this)
end del
section del
variable {α:Type} (p:α→Bool)
theorem zP3 (a:List α) (zero:α) (hl:a.length≤1048577) {b1:Int→Option (Lp Int (Fl Int Unit))} {b2:(List α×Int×Int)→Option (Lp (List α×Int×Int) (List α×Int))}
  (h1:∀(i:Nat) (hi:i<a.length),b1 (i:Int)=some (if p a[i] then .done (.ret (i:Int)) else .go ((i+1:Nat):Int))) (h1e:b1 (a.length:Int)=some (.done (.nxt ())))
  (h2:∀(xs:List α) (i j:Nat) (hj:j<xs.length),i≤j→xs.length=a.length→xs[j]∈a→b2 (xs,(i:Int),(j:Int))=some (.go (if p xs[j] then (xs,(i:Int),((j+1:Nat):Int)) else (xs.set i xs[j],((i+1:Nat):Int),((j+1:Nat):Int)))))
  (h2e:∀(xs:List α) (i:Nat),xs.length=a.length→b2 (xs,(i:Int),(xs.length:Int))=some (.done (xs,(i:Int)))):
  ((loop b1 0).bind (Fl.go some fun _=>some (-1))).bind (fun x4=>if x4==(-1) then (some a) else ((loop b2 (a,x4,w64 (x4+1))).bind fun v26=>(zGM v26.1 v26.2 (v26.1.length:Int)).bind fun x27=>(zO4 v26.1 v26.2 x27.length zero).bind fun x29=>(zGM x29 0 v26.2).bind fun x31=>some x31))=some (a.filter (fun x=> !p x)):=by
 obtain ⟨t,e,h⟩:=zOU p a (fun i=>i) (b:=b1) (by omega) h1 h1e
 rw [e]
 rcases h with ⟨rfl,hn⟩|⟨i,hi,rfl,hp,hn⟩
 ·show some a=_
  congr 1
  exact (List.filter_eq_self.2 (fun x hx=>by rw [hn x hx]; rfl)).symm
 ·simp only [Option.bind_some,Fl.go]
  rw [if_neg (by simp),zM (by omega)]
  obtain ⟨ys,e2,h3,h4⟩:=zN8 p a (b:=b2) (by omega) h2 h2e i (i+1) (by omega) (by omega) (by
   rw [List.take_succ_eq_append_getElem hi,List.filter_append]
   rw [List.filter_eq_self.2 (fun x hx=>by rw [hn x hx]; rfl)]
   simp [hp])
  rw [e2]
  simp only [Option.bind_some]
  exact zQf p zero h3 h4
end del
def wN {α R:Type} (g:Nat→α→Option R):Nat→List α→Option R
 |_,[]=>none
 |i,x::xs=>match g i x with
  |some r=>some r
  |none=>wN g (i+1) xs
def frs {R:Type}:Option R→Fl R Unit
 |some r=>.ret r
 |none=>.nxt ()
theorem zIM {α R:Type} (xs:List α) (g:Nat→α→Option R) {b:Int→Option (Lp Int (Fl R Unit))}
  (hstep:∀(i:Nat) (hi:i<xs.length),b (i:Int)=some (match g i xs[i] with|some r=>.done (.ret r)|none=>.go ((i+1:Nat):Int))) (hend:b (xs.length:Int)=some (.done (.nxt ()))):
  ∀(k i:Nat),i+k=xs.length→loop b (i:Int)=some (frs (wN g i (xs.drop i)))
 |0,i,h=>by
  have e:i=xs.length:=by omega
  subst e
  rw [jR,hend,List.drop_length]
  rfl
 |k+1,i,h=>by
  have hi:i<xs.length:=by omega
  have ih:=zIM xs g hstep hend k (i+1) (by omega)
  rw [jR,hstep i hi,List.drop_eq_getElem_cons hi]
  simp only [wN]
  cases g i xs[i] with
  |some r=>rfl
  |none=>exact ih
theorem wD {α R:Type} (xs:List α) (g:Nat→α→Option R) {b:Int→Option (Lp Int (Fl R Unit))}
  (hstep:∀(i:Nat) (hi:i<xs.length),b (i:Int)=some (match g i xs[i] with|some r=>.done (.ret r)|none=>.go ((i+1:Nat):Int))) (hend:b (xs.length:Int)=some (.done (.nxt ()))):
  loop b 0=some (frs (wN g 0 xs)):=by
 have:=zIM xs g hstep hend xs.length 0 (by omega)
 simpa using this
theorem zCV {R T:Type} (o:Option R) (f:R→Option T) (h:Unit→Option T):(some (frs o)).bind (Fl.go f h)=match o with|some r=>f r|none=>h ():=by
 cases o<;>rfl
theorem zCL {α:Type} (p:α→Bool):∀(xs:List α) (i:Nat),((wN (fun j x=>if p x then some (j:Int) else none) i xs).getD (-1)≥0)↔xs.any p=true
 |[],i=>by simp [wN]
 |x::xs,i=>by
  simp only [wN]
  cases h:p x
  ·simp only [Bool.false_eq_true,if_false,List.any_cons,h,Bool.false_or]
   exact zCL p xs (i+1)
  ·simp [h]
theorem zG2 {α:Type} (p:α→Bool):∀(xs:List α) (i:Nat),(wN (fun _ x=>if p x then some true else none) i xs).getD false=xs.any p
 |[],i=>rfl
 |x::xs,i=>by
  simp only [wN]
  cases h:p x
  ·simp only [Bool.false_eq_true,if_false,List.any_cons,h,Bool.false_or]
   exact zG2 p xs (i+1)
  ·simp [h]
def foldI {α A:Type} (f:Nat→A→α→A):Nat→List α→A→A
 |_,[],a=>a
 |i,x::xs,a=>foldI f (i+1) xs (f i a x)
theorem zBR {α A:Type} (xs:List α) (f:Nat→A→α→A) (I:Nat→A→Prop) {b:(A×Int)→Option (Lp (A×Int) A)}
  (hstep:∀(i:Nat) (a:A) (hi:i<xs.length),I i a→b (a,(i:Int))=some (.go (f i a xs[i],((i+1:Nat):Int)))∧I (i+1) (f i a xs[i])) (hend:∀a,b (a,(xs.length:Int))=some (.done a)):
  ∀(k i:Nat) (a:A),i+k=xs.length→I i a→loop b (a,(i:Int))=some (foldI f i (xs.drop i) a)∧I xs.length (foldI f i (xs.drop i) a)
 |0,i,a,h,hI=>by
  have e:i=xs.length:=by omega
  subst e
  rw [jR,hend,List.drop_length]
  exact ⟨rfl,hI⟩
 |k+1,i,a,h,hI=>by
  have hi:i<xs.length:=by omega
  obtain ⟨h1,h2⟩:=hstep i a hi hI
  have ih:=zBR xs f I hstep hend k (i+1) _ (by omega) h2
  rw [jR,h1,List.drop_eq_getElem_cons hi]
  exact ih
theorem zE0 {o:Option Int} {b:Bool} (h:(o.getD (-1)≥0)↔b=true):decide (o.getD (-1)≥0)=b:=by
 rw [Bool.eq_iff_iff,decide_eq_true_eq]; exact h
def zJH (c:Int):Bool:=(decide (c≥97)&&decide (c≤122))||(decide (c≥48)&&decide (c≤57))||c==95
def zGn (c:Int):Bool:=zJH c||c==46||c==45||c==47
theorem zIA (c:Int):uG c=some (zJH c):=by
 unfold uG vN vT zJH
 cases decide (c≥97)<;>cases decide (c≤122)<;>cases decide (c≥48)<;>cases decide (c≤57)<;>rfl
theorem zGf (c:Int):zDw c=some (zGn c):=by
 unfold zDw zGn
 rw [zIA]
 cases zJH c<;>cases (c==46)<;>cases (c==45)<;>cases (c==47)<;>rfl
theorem zGD (c:Int):xZ c=some (zJH c):=by
 unfold xZ zJH
 cases decide (c≥97)<;>cases decide (c≤122)<;>cases decide (c≥48)<;>cases decide (c≤57)<;>rfl
theorem zHp (s:ByteArray):vY s=vI s:=by
 unfold vY vI
 have:jW s=tH s:=by
  unfold jW tH
  refine zFM fun i=>?_
  unfold zDL jG
  split
  ·congr 1
   funext c
   rw [zGf,zGD]
   unfold zGn
   simp only [bne]
   cases zJH c<;>cases (c==46)<;>cases (c==45)<;>cases (c==47)<;>rfl
  ·rfl
 rw [this]
def zFd (s:ByteArray):Prop:=1≤s.size∧s.size≤40∧∀c∈bl s,zGn c=true
theorem zI5 (s:ByteArray):(zFd s∧vI s=some 0)∨(¬zFd s∧vI s=some 5):=by
 unfold vI
 by_cases h1:s.size<1
 ·refine .inr ⟨fun h=>by have:=h.1; omega,?_⟩
  rw [if_pos (by simp; omega)]; rfl
 ·rw [if_neg (by simp; omega)]
  simp only [Option.bind_some]
  by_cases h2:s.size>40
  ·refine .inr ⟨fun h=>by have:=h.2.1; omega,?_⟩
   rw [if_pos (by simp; omega)]
  ·rw [if_neg (by simp; omega)]
   obtain ⟨t,e,h⟩:=kS (b:=jG s) (fun i j=>j=(i:Int)∧∀k,(hk:k< (bl s).length)→k<i→zGn (bl s)[k]=true) (bl s).length (fun t=>match t with| .ret r=>r=5∧¬zFd s| .nxt _=>∀c∈bl s,zGn c=true) (by
    rintro i j hi ⟨rfl,hp⟩
    have hs:=xI s
    unfold jG
    rw [if_pos (by simp; omega),zEK hi]
    simp only [Option.bind_some,zGf]
    cases hb:zGn (bl s)[i] with
    |false=>exact .inr ⟨_,rfl,rfl,fun h=>by have:=h.2.2 _ (List.getElem_mem hi); rw [hb] at this; cases this⟩
    |true=>
     rw [zM (by omega)]
     refine .inl ⟨_,rfl,rfl,fun k hk hki=>?_⟩
     rcases Nat.lt_or_ge k i with h|h
     ·exact hp k hk h
     ·have:k=i:=by omega
      subst this; exact hb) (by
    rintro j ⟨rfl,hp⟩
    unfold jG
    rw [if_neg (by simp [xI])]
    refine ⟨_,rfl,fun c hc=>?_⟩
    obtain ⟨k,hk,rfl⟩:=List.getElem_of_mem hc
    exact hp k hk hk) (bl s).length 0 0 (by omega) ⟨rfl,fun k _ h=>by omega⟩
   simp only [tH,e,Option.bind_some]
   cases t with
   |ret r=>
    obtain ⟨rfl,h⟩:=h
    exact .inr ⟨h,rfl⟩
   |nxt u=>exact .inl ⟨⟨by omega,by omega,h⟩,rfl⟩
theorem zGc (s:ByteArray):∃r,vI s=some r∧(r=0↔zFd s):=by
 rcases zI5 s with ⟨h1,h2⟩|⟨h1,h2⟩
 ·exact ⟨0,h2,by simp [h1]⟩
 ·exact ⟨5,h2,by simp [h1]⟩
def total (fs:List File):Int:=match fs with
 |[]=>0
 |f::fs=>f.Data.length+total fs
theorem zEs:∀(l r:List File),total (l++r)=total l+total r
 |[],r=>by simp [total]
 |f::l,r=>by simp only [List.cons_append,total,zEs l r]; omega
theorem zC3:∀(l:List File),0≤total l
 |[]=>Int.le_refl _
 |f::l=>by have:=zC3 l; simp only [total]; omega
theorem zKD:∀{l:List File} {f:File},f∈l→(f.Data.length:Int)≤total l
 |g::l,f,h=>by
  rcases List.mem_cons.1 h with rfl|h
  ·have:=zC3 l; simp only [total]; omega
  ·have:=zKD h; simp only [total]; omega
theorem zLN:∀(l:List File) (C:Int),0≤C→(∀f∈l,(f.Data.length:Int)≤C)→total l≤l.length*C
 |[],C,_,_=>by simp [total]
 |f::l,C,hC,h=>by
  have h1:=h f (by simp)
  have h2:=zLN l C hC (fun g hg=>h g (by simp [hg]))
  simp only [total,List.length_cons,Int.natCast_add,Int.add_mul]
  omega
theorem zFl (d:zC) (h:d.Files.length≤1048576) (hf:∀f∈d.Files,f.Data.length≤1048576):wV d=some (total d.Files):=by
 have htot:=zLN d.Files 1048576 (by omega) (fun f hm=>by have:=hf f hm; omega)
 have hb:((d.Files.length:Int))*1048576≤1048576*1048576:=Int.mul_le_mul_of_nonneg_right (by omega) (by omega)
 obtain ⟨t,e,rfl⟩:=kS (b:=jI d) (fun i s=>s=(total (d.Files.take i),(i:Int))) d.Files.length (fun t=>t=total d.Files) (by
  rintro i s hi rfl
  unfold jI
  rw [if_pos (by simp; omega)]
  have hsplit:total (d.Files.take (i+1))=total (d.Files.take i)+d.Files[i].Data.length :=by
   rw [List.take_succ_eq_append_getElem hi,zEs]
   simp [total]
  have hle:total d.Files=total (d.Files.take (i+1))+total (d.Files.drop (i+1)):=by rw [←zEs,List.take_append_drop]
  have h1:=zC3 (d.Files.take i)
  have h2:=zC3 (d.Files.drop (i+1))
  simp only [zL hi,Option.bind_some]
  rw [yU (by omega) (by omega),zM (by omega)]
  exact .inl ⟨_,rfl,by rw [hsplit]⟩) (by
  rintro s rfl
  unfold jI
  rw [if_neg (by simp)]
  exact ⟨_,rfl,by simp⟩) d.Files.length 0 (0,0) (by omega) (by simp [total])
 simp only [wV,kU,e,Option.bind_some]
theorem zIL (d:zC):wS d=wV d:=rfl
structure zC.good (d:zC):Prop where
 b0:0≤d.Budget
 b1:d.Budget≤20000
 w0:0≤d.Writes
 w1:d.Writes≤1000000000
 s0: -1≤d.Stop
 s1:d.Stop≤1000000000
 len:d.Files.length≤120
 path:∀f∈d.Files,zFd f.Path
 data:∀f∈d.Files,f.Data.length≤4000
 sorted:d.Files.Pairwise (fun f g=>slt f.Path g.Path=true)
 room:total d.Files≤d.Budget
theorem zI9 (d:zC):zAW d=vJ d:=by
 unfold zAW vJ
 have:kG d=uT d:=by
  unfold kG uT
  refine zFM fun i=>?_
  unfold zDW jF
  split
  ·cases hx:idx d.Files i with
   |none=>rfl
   |some x=>simp only [Option.bind_some,zHp]
  ·rfl
 rw [this]
 rfl
theorem zNs {xs:List File} (h:∀i,(hi:i+1<xs.length)→slt xs[i].Path xs[i+1].Path =true):xs.Pairwise (fun f g=>slt f.Path g.Path=true):=by
 induction xs with
 |nil=>exact .nil
 |cons x xs ih=>
  have h':∀i,(hi:i+1<xs.length)→slt xs[i].Path xs[i+1].Path =true:=fun i hi=>h (i+1) (by simp; omega)
  have ih':=ih h'
  refine .cons ?_ ih'
  cases xs with
  |nil=>simp
  |cons y ys=>
   have hxy:slt x.Path y.Path=true:=by simpa using h 0 (by simp)
   intro z hz
   rcases List.mem_cons.1 hz with rfl|hz
   ·exact hxy
   ·exact zG0 hxy ((List.pairwise_cons.1 ih').1 z hz)
theorem zI2 (d:zC) (h:d.Files.length≤1048576):∃c,vJ d=some c∧(c=0→d.good):=by
 unfold vJ
 simp only [zQI,Option.bind_some]
 by_cases hB:0≤d.Budget∧d.Budget≤20000
 ·by_cases hW:0≤d.Writes∧d.Writes≤1000000000
  ·by_cases hS: -1≤d.Stop∧d.Stop≤1000000000
   ·simp [hB.1,hB.2,hW.1,hW.2,hS.1,hS.2]
    by_cases hl:120<d.Files.length
    ·rw [if_pos (by omega)]
     exact ⟨2,rfl,by simp⟩
    ·rw [if_neg (by omega)]
     obtain ⟨t,e,ht⟩:=kS (b:=jF d) (fun i s=>s=(i:Int)∧(∀j,(hj:j<d.Files.length)→j<i→zFd d.Files[j].Path ∧d.Files[j].Data.length ≤4000)∧∀j,(hj:j+1<d.Files.length)→j+1<i→slt d.Files[j].Path d.Files[j+1].Path =true) d.Files.length
      (fun t=>match t with| .ret r=>r≠0| .nxt _=>(∀f∈d.Files,zFd f.Path∧f.Data.length≤4000)∧d.Files.Pairwise (fun f g=>slt f.Path g.Path=true)) (by
      rintro i s hi ⟨rfl,h1,h2⟩
      unfold jF
      rw [if_pos (by simp; omega)]
      obtain ⟨r,hr,hr2⟩:=zGc d.Files[i].Path
      simp only [zL hi,Option.bind_some,hr]
      by_cases hr0:r=0
      ·subst hr0
       rw [if_neg (by simp)]
       have key:∃q,(if decide ((i:Int)>0) then (idx d.Files (w64 ((i:Int)-1))).bind fun x39=>some (slt d.Files[i].Path x39.Path||seq d.Files[i].Path x39.Path) else some false)=some q∧(q=false→∀j,(hj:j+1<d.Files.length)→j+1<i+1→slt d.Files[j].Path d.Files[j+1].Path =true):=by
        by_cases hp:i=0
        ·subst hp
         exact ⟨false,by simp,fun _ j hj hji=>by omega⟩
        ·rw [if_pos (by simp; omega),yU (by omega) (by omega),show ((i:Int)-1)=((i-1:Nat):Int) by omega,zL (show i-1<d.Files.length by omega)]
         refine ⟨_,rfl,fun hq j hj hji=>?_⟩
         rcases Nat.lt_or_ge (j+1) i with hlt|hge
         ·exact h2 j hj hlt
         ·have hj1:j+1=i:=by omega
          subst hj1
          simp only [Bool.or_eq_false_iff] at hq
          have hq1:=hq.1
          have hq2:d.Files[j+1].Path ≠d.Files[j].Path :=fun e=>by
           have:=hq.2
           simp only [Nat.add_sub_cancel] at this
           rw [e] at this
           simp at this
          simp only [Nat.add_sub_cancel] at hq1
          exact zQe hq1 hq2
       obtain ⟨q,hq,hq2⟩:=key
       rw [hq]
       simp only [Option.bind_some]
       cases q with
       |true=>exact .inr ⟨_,rfl,by simp⟩
       |false=>
        by_cases hd:(d.Files[i].Data.length :Int)>4000
        ·exact .inr ⟨.ret 2,by rw [if_neg (by simp),if_pos (by simpa using hd)],by simp⟩
        ·refine .inl ⟨((i+1:Nat):Int),?_,rfl,fun j hj hji=>?_,hq2 rfl⟩
         ·rw [if_neg (by simp),if_neg (by simpa using hd),zM (by omega)]
         ·rcases Nat.lt_or_ge j i with h'|h'
          ·exact h1 j hj h'
          ·have:j=i:=by omega
           subst this
           exact ⟨hr2.1 rfl,by omega⟩
      ·rw [if_pos (by simpa using hr0)]
       exact .inr ⟨_,rfl,hr0⟩) (by
      rintro s ⟨rfl,h1,h2⟩
      unfold jF
      rw [if_neg (by simp)]
      refine ⟨_,rfl,fun f hf=>?_,zNs (fun i hi=>h2 i hi hi)⟩
      obtain ⟨j,hj,rfl⟩:=List.getElem_of_mem hf
      exact h1 j hj hj) d.Files.length 0 0 (by omega) ⟨rfl,fun j _ h=>by omega,fun j _ h=>by omega⟩
     simp only [uT,e,Option.bind_some]
     cases t with
     |ret r=>exact ⟨r,rfl,fun h=>absurd h ht⟩
     |nxt u=>
      simp only [Fl.go]
      rw [zFl d h (fun f hf=>by have:=(ht.1 f hf).2; omega)]
      simp only [Option.bind_some]
      by_cases hr:d.Budget<total d.Files
      ·rw [if_pos hr]
       exact ⟨8,rfl,by simp⟩
      ·rw [if_neg hr]
       exact ⟨0,rfl,fun _=>⟨hB.1,hB.2,hW.1,hW.2,hS.1,hS.2,by omega,fun f hf=>(ht.1 f hf).1,fun f hf=>(ht.1 f hf).2,ht.2,by omega⟩⟩
   ·refine ⟨3,?_,by simp⟩
    simp [hB.1,hB.2,hW.1,hW.2]
    intro a b
    exact absurd ⟨a,b⟩ hS
  ·refine ⟨3,?_,by simp⟩
   simp [hB.1,hB.2]
   rw [if_pos (by omega)]
   rfl
 ·refine ⟨3,?_,by simp⟩
  rw [if_pos (by simp; omega)]
  rfl
def zC.fits (d:zC):Prop:=d.Files.length≤1048576∧∀f∈d.Files,f.Data.length≤1048576
theorem zC.zNt {d:zC} (h:zC.sm 1048576 d):d.fits:=⟨h.1.1,fun f hf=>(h.1.2 f hf).2.1⟩
theorem zJV (d:zC) (h:d.fits):zB2 d=some d:=by
 obtain ⟨h1,h2⟩:=h
 obtain ⟨t,e,rfl⟩:=kS (b:=zBq d) (fun i s=>s=(d.Files.take i,(i:Int))) d.Files.length (fun t=>t=d.Files) (by
  rintro i s hi rfl
  have hl:(d.Files.take i).length =i:=by simp; omega
  have hd:=h2 _ (List.getElem_mem hi)
  have ha:app 1 ([]:List Int) d.Files[i].Data =some d.Files[i].Data :=zDm (by simp; omega) (by simp; omega)
  have hb:∀f:File,app 40 (d.Files.take i) [f]=some (d.Files.take i++[f]):=fun f=>zDm (by simp; omega) (by simp; omega)
  unfold zBq
  rw [if_pos (by simp; omega)]
  simp only [zL hi,Option.bind_some,ha,hb,zM (show i<9223372036854775807 by omega)]
  exact .inl ⟨_,rfl,by rw [List.take_succ_eq_append_getElem hi]⟩) (by
  rintro s rfl
  unfold zBq
  rw [if_neg (by simp)]
  exact ⟨_,rfl,by simp⟩) d.Files.length 0 ([],0) (by omega) (by simp)
 simp only [zB2,zAU,e,Option.bind_some]
theorem zMJ (d:zC):uP d=zB2 d:=by
 have:uV d=zAU d:=by
  unfold uV zAU
  refine zFM fun s=>?_
  unfold zCW zBq wK
  split
  ·cases h:idx d.Files s.2 with
   |none=>rfl
   |some x=>
    simp only [Option.bind_some]
    cases h2:app 1 ([]:List Int) x.Data<;>rfl
  ·rfl
 unfold uP zB2
 rw [this]
theorem zNJ (d:zC) (h:d.fits):uP d=some d:=by rw [zMJ,zJV d h]
def zLk (c:Int):zI:= {Code:=c,zC:= {Files:=[],Budget:=0,Writes:=0,Stop:=0,Down:=false}}
theorem zLR (c:Int):zI.sm 1049600 (zLk c):=by simp [zI.sm,zC.sm,zLk]
theorem zOg (s p:ByteArray):strings_HasPrefix s p=jT s p:=by
 unfold strings_HasPrefix xW jT
 split
 ·cases zJR s 0 (p.size:Int)<;>rfl
 ·rfl
def begins (s p:ByteArray):Bool:=decide (p.size≤s.size)&&seq (s.extract 0 p.size) p
theorem zKY (s p:ByteArray):jT s p=some (begins s p):=by
 unfold jT begins
 by_cases h:p.size≤s.size
 ·rw [if_pos (by simp; omega)]
  unfold zJR
  rw [if_pos (by omega)]
  simp [h]
 ·rw [if_neg (by simp; omega)]
  simp [h]
theorem zMn (d:zC) (p:ByteArray):zAa d p=zC0 d p:=by
 have:jH d p=zCv d p:=by
  unfold jH zCv
  refine zFM fun s=>?_
  unfold zD1 zAl
  split
  ·cases h:idx d.Files s.2 with
   |none=>rfl
   |some x=>simp only [Option.bind_some,zOg]
  ·rfl
 unfold zAa zC0
 rw [this]
def tF (fs:List File) (p:ByteArray):List ByteArray:=(fs.filter (fun f=>begins f.Path p)).map (·.Path)
theorem zIB (l r:List File) (p:ByteArray):tF (l++r) p=tF l p++tF r p:=by
 simp [tF]
theorem zEl (l:List File) (p:ByteArray):(tF l p).length ≤l.length:=by
 simp only [tF,List.length_map]
 exact List.length_filter_le _ _
theorem zJg (d:zC) (p:ByteArray) (h:d.Files.length≤1048576):zC0 d p=some (tF d.Files p):=by
 obtain ⟨t,e,rfl⟩:=kS (b:=zAl d p) (fun i s=>s=(tF (d.Files.take i) p,(i:Int))) d.Files.length (fun t=>t=tF d.Files p) (by
  rintro i s hi rfl
  unfold zAl
  rw [if_pos (by simp; omega)]
  have hl:=zEl (d.Files.take i) p
  have hl2:(d.Files.take i).length ≤i:=by simp; omega
  have ha:∀x:ByteArray,app 16 (tF (d.Files.take i) p) [x]=some (tF (d.Files.take i) p++[x]):=fun x=>zDm (by simp; omega) (by simp; omega)
  have hsplit:tF (d.Files.take (i+1)) p=tF (d.Files.take i) p++tF [d.Files[i]] p:=by
   rw [List.take_succ_eq_append_getElem hi,zIB]
  simp only [zL hi,Option.bind_some,zKY,ha,zM (show i<9223372036854775807 by omega)]
  cases hb:begins d.Files[i].Path p with
  |true=>exact .inl ⟨_,rfl,by rw [hsplit]; simp [tF,hb]⟩
  |false=>exact .inl ⟨_,rfl,by rw [hsplit]; simp [tF,hb]⟩) (by
  rintro s rfl
  unfold zAl
  rw [if_neg (by simp)]
  exact ⟨_,rfl,by simp⟩) d.Files.length 0 ([],0) (by omega) (by simp [tF])
 simp only [zC0,zCv,e,Option.bind_some]
theorem zJq:∀(a b:List UInt8),(Lib.compareBytes a b<0↔Op.bytesLess a b=true)∧(Lib.compareBytes a b=0↔a=b)
 |[],[]=>by simp [Lib.compareBytes,Op.bytesLess]
 |[],_::_=>by simp [Lib.compareBytes,Op.bytesLess]
 |_::_,[]=>by simp [Lib.compareBytes,Op.bytesLess]
 |x::a,y::b=>by
  obtain ⟨ih1,ih2⟩:=zJq a b
  simp only [Lib.compareBytes,Op.bytesLess]
  by_cases h1:x<y
  ·simp [h1]
   intro e; subst e; exact absurd h1 (by simp [UInt8.lt_irrefl])
  ·by_cases h2:y<x
   ·simp [h1,h2]
    have hne:x≠y:=fun e=>by subst e; exact absurd h2 (by simp [UInt8.lt_irrefl])
    simp [hne]
   ·have e:x=y:=by
     rw [UInt8.lt_iff_toNat_lt] at h1 h2
     exact UInt8.toNat_inj.1 (by omega)
    subst e
    simp [UInt8.lt_irrefl,ih1,ih2]
theorem zLC (a b:ByteArray):zOP a b<0↔slt a b=true:=by
 unfold zOP slt
 rw [ByteArray.toList_eq,ByteArray.toList_eq]
 exact (zJq _ _).1
theorem zNh (a b:ByteArray):zOP a b=0↔a=b:=by
 unfold zOP
 rw [(zJq _ _).2,←ByteArray.toList_eq,←ByteArray.toList_eq]
 exact ⟨toList_inj,fun e=>by rw [e]⟩
theorem zPJ {i j:Int} (h0:0≤i) (h1:i≤j) (h2:j≤4611686018427387903):w64 ((IntKind.u64.wrap (w64 (i+j))).fdiv (2^(min (1:Int).toNat 64)))=(i+j) / 2:=by
 rw [yU (x:=i+j) (by omega) (by omega)]
 have e1:IntKind.u64.wrap (i+j)=i+j:=by
  simp only [IntKind.wrap,IntKind.signed,IntKind.bits]
  simp
  omega
 rw [e1]
 have e2:((2:Int)^(min (1:Int).toNat 64))=2:=by decide
 rw [e2,Int.fdiv_eq_ediv_of_nonneg _ (by omega)]
 exact yU (by omega) (by omega)
theorem zJh (f:File) (p:ByteArray):vS f p=some (zOP f.Path p):=rfl
theorem zMN (fs:List File) (p:ByteArray) (h:fs.length≤1048576):
  ∃(k:Nat) (b:Bool),zJ fs p=some ((k:Int),b)∧k≤fs.length∧(b=true→∃hk:k<fs.length,fs[k].Path =p)∧
   (fs.Pairwise (fun f g=>slt f.Path g.Path=true)→(∀i,(hi:i<fs.length)→i<k→slt fs[i].Path p=true)∧(∀i,(hi:i<fs.length)→k≤i→slt fs[i].Path p=false)∧(b=false→∀f∈fs,f.Path≠p)):=by
 obtain ⟨t,e,k,rfl,hk,hs⟩:=zKs (b:=yN fs p)
  (fun s=>∃i j:Nat,s=((i:Int),(j:Int))∧i≤j∧j≤fs.length∧(fs.Pairwise (fun f g=>slt f.Path g.Path=true)→(∀q,(hq:q<fs.length)→q<i→slt fs[q].Path p=true)∧(∀q,(hq:q<fs.length)→j≤q→slt fs[q].Path p=false)))
  (fun s=>(s.2-s.1).toNat)
  (fun t=>∃k:Nat,t=(k:Int)∧k≤fs.length∧(fs.Pairwise (fun f g=>slt f.Path g.Path=true)→(∀q,(hq:q<fs.length)→q<k→slt fs[q].Path p=true)∧(∀q,(hq:q<fs.length)→k≤q→slt fs[q].Path p=false))) (by
  rintro s ⟨i,j,rfl,hij,hj,hP⟩
  unfold yN
  by_cases hlt:i<j
  ·left
   rw [if_pos (by simp; omega)]
   simp only
   rw [zPJ (by omega) (by omega) (by omega)]
   have hm:(((i:Int)+(j:Int)) / 2)=(((i+j) / 2:Nat):Int):=by omega
   rw [hm]
   have hmj:(i+j) / 2<j:=by omega
   have him:i≤(i+j) / 2:=by omega
   generalize (i+j) / 2=m at*
   have hmn:m<fs.length:=by omega
   simp only [zL hmn,Option.bind_some,zJh]
   by_cases hc:zOP fs[m].Path p<0
   ·rw [if_pos (by simpa using hc),zM (by omega)]
    refine ⟨_,rfl,⟨m+1,j,rfl,by omega,hj,fun hso=>?_⟩,by simp; omega⟩
    obtain ⟨g1,g2⟩:=hP hso
    refine ⟨fun q hq hqm=>?_,g2⟩
    have hl:=(zLC _ _).1 hc
    rcases Nat.lt_or_ge q m with h'|h'
    ·exact zG0 (List.pairwise_iff_getElem.1 hso q m hq hmn h') hl
    ·have:q=m:=by omega
     subst this; exact hl
   ·rw [if_neg (by simpa using hc)]
    refine ⟨_,rfl,⟨i,m,rfl,by omega,by omega,fun hso=>?_⟩,by simp; omega⟩
    obtain ⟨g1,g2⟩:=hP hso
    refine ⟨g1,fun q hq hmq=>?_⟩
    have hl:slt fs[m].Path p=false:=by
     cases h':slt fs[m].Path p with
     |false=>rfl
     |true=>exact absurd ((zLC _ _).2 h') hc
    rcases Nat.lt_or_ge m q with h'|h'
    ·cases hq2:slt fs[q].Path p with
     |false=>rfl
     |true=>
      have:=zG0 (List.pairwise_iff_getElem.1 hso m q hmn hq h') hq2
      rw [hl] at this; cases this
    ·have:q=m:=by omega
     subst this; exact hl
  ·right
   rw [if_neg (by simp; omega)]
   have:i=j:=by omega
   subst this
   exact ⟨_,rfl,i,rfl,by omega,hP⟩) fs.length (0,(fs.length:Int)) (by simp) ⟨0,fs.length,rfl,by omega,by omega,fun _=>⟨fun q _ h=>by omega,fun q hq h=>by omega⟩⟩
 unfold zJ
 rw [show zV fs p (0,(fs.length:Int))=some (k:Int) from e]
 simp only [Option.bind_some]
 by_cases hkn:k<fs.length
 ·rw [if_pos (by simpa using hkn)]
  simp only [zL hkn,Option.bind_some,zJh]
  refine ⟨k,_,rfl,hk,fun hb=>⟨hkn,(zNh _ _).1 (by simpa using hb)⟩,fun hso=>⟨(hs hso).1,(hs hso).2,fun hb f hf hfp=>?_⟩⟩
  have hne:zOP fs[k].Path p≠0:=by simpa using hb
  obtain ⟨q,hq,rfl⟩:=List.getElem_of_mem hf
  rcases Nat.lt_trichotomy q k with h'|h'|h'
  ·have:=(hs hso).1 q hq h'
   rw [hfp,zFT] at this; cases this
  ·subst h'; exact hne ((zNh _ _).2 hfp)
  ·have h1:=List.pairwise_iff_getElem.1 hso k q hkn hq h'
   have h2:=(hs hso).2 k hkn (Nat.le_refl _)
   rw [hfp] at h1
   rw [h1] at h2; cases h2
 ·rw [if_neg (by simpa using hkn)]
  refine ⟨k,false,rfl,hk,(fun hb=>by cases hb),fun hso=>⟨(hs hso).1,(hs hso).2,fun _ f hf hfp=>?_⟩⟩
  obtain ⟨q,hq,rfl⟩:=List.getElem_of_mem hf
  have:=(hs hso).1 q hq (by omega)
  rw [hfp,zFT] at this; cases this
theorem zLh (d:zC) (p:ByteArray) (h:d.Files.length≤1048576):
  (∃k:Nat,∃hk:k<d.Files.length,wC d p=some (k:Int)∧d.Files[k].Path =p)∨(wC d p=some (-1)∧∀f∈d.Files,f.Path≠p):=by
 obtain ⟨t,e,ht⟩:=kS (b:=zBo d p) (fun i s=>s=(i:Int)∧∀q,(hq:q<d.Files.length)→q<i→d.Files[q].Path ≠p) d.Files.length
  (fun t=>match t with| .ret r=>∃k:Nat,∃hk:k<d.Files.length,r=(k:Int)∧d.Files[k].Path =p| .nxt _=>∀f∈d.Files,f.Path≠p) (by
  rintro i s hi ⟨rfl,hq⟩
  unfold zBo
  rw [if_pos (by simp; omega)]
  simp only [zL hi,Option.bind_some]
  by_cases hp:d.Files[i].Path =p
  ·rw [if_pos (zJP.2 hp)]
   exact .inr ⟨_,rfl,i,hi,rfl,hp⟩
  ·rw [if_neg (fun h'=>hp (zJP.1 h')),zM (by omega)]
   refine .inl ⟨_,rfl,rfl,fun q hq' hqi=>?_⟩
   rcases Nat.lt_or_ge q i with h'|h'
   ·exact hq q hq' h'
   ·have:q=i:=by omega
    subst this; exact hp) (by
  rintro s ⟨rfl,hq⟩
  unfold zBo
  rw [if_neg (by simp)]
  refine ⟨_,rfl,fun f hf=>?_⟩
  obtain ⟨q,hq',rfl⟩:=List.getElem_of_mem hf
  exact hq q hq' hq') d.Files.length 0 0 (by omega) ⟨rfl,fun q _ h=>by omega⟩
 unfold wC
 rw [show zEk d p 0=some t from e]
 cases t with
 |ret r=>
  obtain ⟨k,hk,rfl,hp⟩:=ht
  exact .inl ⟨k,hk,rfl,hp⟩
 |nxt _=>exact .inr ⟨rfl,ht⟩
theorem zIP {fs:List File} (hs:fs.Pairwise (fun f g=>slt f.Path g.Path=true)) {i j:Nat} (hi:i<fs.length) (hj:j<fs.length) (h:fs[i].Path =fs[j].Path):i=j:=by
 rcases Nat.lt_trichotomy i j with h'|h'|h'
 ·have:=List.pairwise_iff_getElem.1 hs i j hi hj h'
  rw [h,zFT] at this; cases this
 ·exact h'
 ·have:=List.pairwise_iff_getElem.1 hs j i hj hi h'
  rw [h,zFT] at this; cases this
theorem zGU (d:zC) (p:ByteArray) (hl0:d.Files.length≤120) (hso:d.Files.Pairwise (fun f g=>slt f.Path g.Path=true)):
  (∃k:Nat,∃hk:k<d.Files.length,wC d p=some (k:Int)∧zJ d.Files p=some ((k:Int),true)∧d.Files[k].Path =p)∨
   (wC d p=some (-1)∧(∀f∈d.Files,f.Path≠p)∧∃k:Nat,zJ d.Files p=some ((k:Int),false)∧k≤d.Files.length∧(∀i,(hi:i<d.Files.length)→i<k→slt d.Files[i].Path p=true)∧(∀i,(hi:i<d.Files.length)→k≤i→slt d.Files[i].Path p=false)):=by
 have hl:d.Files.length≤1048576:=by omega
 obtain ⟨k,b,e,hk,h1,h2⟩:=zMN d.Files p hl
 obtain ⟨g1,g2,g3⟩:=h2 hso
 rcases zLh d p hl with ⟨q,hq,e2,hp⟩|⟨e2,hp⟩
 ·left
  cases b with
  |false=>exact absurd hp (g3 rfl _ (List.getElem_mem hq))
  |true=>
   obtain ⟨hk',hp'⟩:=h1 rfl
   have:q=k:=zIP hso hq hk' (by rw [hp,hp'])
   subst this
   exact ⟨q,hq,e2,e,hp⟩
 ·right
  cases b with
  |true=>
   obtain ⟨hk',hp'⟩:=h1 rfl
   exact absurd hp' (hp _ (List.getElem_mem hk'))
  |false=>exact ⟨e2,hp,k,e,hk,g1,g2⟩
theorem zM1 (d:zC) (p:ByteArray) (hl0:d.Files.length≤120) (hso:d.Files.Pairwise (fun f g=>slt f.Path g.Path=true)):
  (∃k:Nat,∃hk:k<d.Files.length,wC d p=some (k:Int)∧xP d p=some (d.Files[k].Data,true)∧d.Files[k].Path =p)∨
   (wC d p=some (-1)∧xP d p=some ([],false)∧∀f∈d.Files,f.Path≠p):=by
 rcases zGU d p hl0 hso with ⟨k,hk,e1,e2,hp⟩|⟨e1,hp,k,e2,_⟩
 ·left
  refine ⟨k,hk,e1,?_,hp⟩
  unfold xP xV
  rw [e2]
  simp only [Option.bind_some,Bool.not_true,Bool.false_eq_true,if_false,zL hk]
 ·right
  refine ⟨e1,?_,hp⟩
  unfold xP xV
  rw [e2]
  rfl
theorem zN2 (d:zC) (p:ByteArray) (hg:d.good):
 (∃k:Nat,∃hk:k<d.Files.length,wC d p=some (k:Int)∧xP d p=some (d.Files[k].Data,true)∧d.Files[k].Path =p)∨
  (wC d p=some (-1)∧xP d p=some ([],false)∧∀f∈d.Files,f.Path≠p):=zM1 d p hg.len hg.sorted
theorem zH8 {P:List Int→Prop} (h0:P []) (h1:∀l c,P l→P (l++[c])) (l:List Int):P l:=by
 have key:∀m:List Int,P m.reverse:=by
  intro m
  induction m with
  |nil=>exact h0
  |cons c m ih=>rw [List.reverse_cons]; exact h1 _ c ih
 have:=key l.reverse
 rwa [List.reverse_reverse] at this
def zFX (c:Int):Bool:=decide (c≥48)&&decide (c≤57)
def val (l:List Int):Int:=l.foldl (fun a c=>a*10+(c-48)) 0
theorem zFt (l:List Int) (c:Int):val (l++[c])=val l*10+(c-48):=by simp [val]
theorem zE9 {l:List Int} (h:∀c∈l,zFX c=true):0≤val l∧val l<10^l.length:=by
 revert h
 refine zH8 (P:=fun l=>(∀c∈l,zFX c=true)→0≤val l∧val l<10^l.length) ?_ ?_ l
 ·intro _; simp [val]
 ·intro l c ih h
  obtain ⟨h1,h2⟩:=ih (fun x hx=>h x (by simp [hx]))
  have hc:=h c (by simp)
  simp only [zFX,Bool.and_eq_true,decide_eq_true_eq] at hc
  rw [zFt,List.length_append,List.length_singleton,Int.pow_succ]
  omega
def zMU (l:List Int) (most:Int):Option Int:=if l.length<1∨(l.length:Int)>most∨¬(∀c∈l,zFX c=true) then none else some (val l)
theorem zLK {n:Nat} (h:n≤17):(10:Int)^n≤100000000000000000:=by
 have:(10:Nat)^n≤10^17:=Nat.pow_le_pow_right (by omega) h
 have e:((10^n:Nat):Int)=(10:Int)^n:=by simp
 rw [←e]
 omega
theorem zHW (c:Int):vT c=some (zFX c):=by
 unfold vT zFX
 cases decide (c≥48)<;>rfl
theorem zKX (s:ByteArray) (most:Int) (hm:most≤17):zBx s most=some (match zMU (bl s) most with|some n=>(n,true)|none=>(0,false)):=by
 unfold zBx zMU
 have hl:=xI s
 by_cases h1:s.size<1
 ·rw [if_pos (by simp; omega),if_pos (by omega)]
  rfl
 ·rw [if_neg (by simp; omega)]
  simp only [Option.bind_some]
  by_cases h2:(s.size:Int)>most
  ·rw [if_pos (by simpa using h2),if_pos (by omega)]
  ·rw [if_neg (by simpa using h2)]
   obtain ⟨t,e,ht⟩:=kS (b:=zBi s) (fun i q=>q=(val ((bl s).take i),(i:Int))∧∀c∈(bl s).take i,zFX c=true) (bl s).length
    (fun t=>match t with| .ret r=>r=(0,false)∧¬ ∀c∈bl s,zFX c=true| .nxt v=>v=val (bl s)∧∀c∈bl s,zFX c=true) (by
    rintro i q hi ⟨rfl,hd⟩
    have hb:=zE9 hd
    have hlen:((bl s).take i).length ≤17:=by simp; omega
    have hp:=zLK hlen
    have hr:=zJp _ (List.getElem_mem hi)
    unfold zBi
    rw [if_pos (by simp; omega)]
    simp only [zEK hi,Option.bind_some,zHW]
    cases hc:zFX (bl s)[i] with
    |false=>exact .inr ⟨_,rfl,rfl,fun h=>by have:=h _ (List.getElem_mem hi); rw [hc] at this; cases this⟩
    |true=>
     have hc':=hc
     simp only [zFX,Bool.and_eq_true,decide_eq_true_eq] at hc'
     rw [wrap_u8 (by omega) (by omega),yU (x:=(bl s)[i]-48) (by omega) (by omega),yU (x:=val ((bl s).take i)*10) (by omega) (by omega),yU (by omega) (by omega),zM (by omega)]
     refine .inl ⟨_,rfl,by rw [List.take_succ_eq_append_getElem hi,zFt],fun c hcm=>?_⟩
     rw [List.take_succ_eq_append_getElem hi] at hcm
     rcases List.mem_append.1 hcm with h|h
     ·exact hd c h
     ·simp at h; rw [h]; exact hc) (by
    rintro q ⟨rfl,hd⟩
    unfold zBi
    rw [if_neg (by simp; omega)]
    rw [List.take_length] at hd ⊢
    exact ⟨_,rfl,rfl,hd⟩) (bl s).length 0 (0,0) (by omega) ⟨by simp [val],by simp⟩
   unfold zBH
   rw [e]
   cases t with
   |ret r=>
    obtain ⟨rfl,h⟩:=ht
    rw [if_pos (.inr (.inr h))]
    rfl
   |nxt v=>
    obtain ⟨rfl,h⟩:=ht
    rw [if_neg (fun h'=>by rcases h' with h'|h'|h'<;>first|omega|exact h' h)]
    rfl
theorem number_eq (s:ByteArray) (most:Int) (hm:most≤17):zD5 s most=some (match zMU (bl s) most with|some n=>n|none=> -1):=by
 unfold zD5 zMU
 have hl:=xI s
 have he:seq s (bs [])=decide (s.size<1):=by
  rw [zLS,zK8,List.map_nil]
  rw [Bool.eq_iff_iff]
  simp only [decide_eq_true_eq]
  constructor
  ·intro h; rw [h] at hl; simp at hl; omega
  ·intro h; exact List.eq_nil_of_length_eq_zero (by omega)
 rw [he]
 by_cases h1:s.size<1
 ·rw [if_pos (by simpa using h1),if_pos (by omega)]
  rfl
 ·rw [if_neg (by simpa using h1)]
  simp only [Option.bind_some]
  by_cases h2:(s.size:Int)>most
  ·rw [if_pos (by simpa using h2),if_pos (by omega)]
  ·rw [if_neg (by simpa using h2)]
   obtain ⟨t,e,ht⟩:=kS (b:=zCG s) (fun i q=>q=(val ((bl s).take i),(i:Int))∧∀c∈(bl s).take i,zFX c=true) (bl s).length
    (fun t=>match t with| .ret r=>r= -1∧¬ ∀c∈bl s,zFX c=true| .nxt v=>v=val (bl s)∧∀c∈bl s,zFX c=true) (by
    rintro i q hi ⟨rfl,hd⟩
    have hb:=zE9 hd
    have hlen:((bl s).take i).length ≤17:=by simp; omega
    have hp:=zLK hlen
    have hr:=zJp _ (List.getElem_mem hi)
    unfold zCG
    rw [if_pos (by simp; omega)]
    simp only [zEK hi,Option.bind_some]
    have hq:(if decide ((bl s)[i]<48)=true then some true else some (decide ((bl s)[i]>57)))=some (!zFX (bl s)[i]):=by
     unfold zFX
     by_cases a:(bl s)[i]<48
     ·have b:¬((bl s)[i]≥48):=by omega
      simp [a,b]
     ·have b:(bl s)[i]≥48:=by omega
      by_cases c:(bl s)[i]>57
      ·have d:¬((bl s)[i]≤57):=by omega
       simp [a,b,c,d]
      ·have d:(bl s)[i]≤57:=by omega
       simp [a,b,c,d]
    rw [hq]
    simp only [Option.bind_some]
    cases hc:zFX (bl s)[i] with
    |false=>exact .inr ⟨_,rfl,rfl,fun h=>by have:=h _ (List.getElem_mem hi); rw [hc] at this; cases this⟩
    |true=>
     have hc':=hc
     simp only [zFX,Bool.and_eq_true,decide_eq_true_eq] at hc'
     rw [wrap_u8 (by omega) (by omega),yU (x:=(bl s)[i]-48) (by omega) (by omega),yU (x:=10*val ((bl s).take i)) (by omega) (by omega),yU (by omega) (by omega),zM (by omega)]
     refine .inl ⟨_,rfl,by rw [List.take_succ_eq_append_getElem hi,zFt,Int.mul_comm],fun c hcm=>?_⟩
     rw [List.take_succ_eq_append_getElem hi] at hcm
     rcases List.mem_append.1 hcm with h|h
     ·exact hd c h
     ·simp at h; rw [h]; exact hc) (by
    rintro q ⟨rfl,hd⟩
    unfold zCG
    rw [if_neg (by simp; omega)]
    rw [List.take_length] at hd ⊢
    exact ⟨_,rfl,rfl,hd⟩) (bl s).length 0 (0,0) (by omega) ⟨by simp [val],by simp⟩
   unfold zDd
   rw [e]
   cases t with
   |ret r=>
    obtain ⟨rfl,h⟩:=ht
    rw [if_pos (.inr (.inr h))]
    rfl
   |nxt v=>
    obtain ⟨rfl,h⟩:=ht
    rw [if_neg (fun h'=>by rcases h' with h'|h'|h'<;>first|omega|exact h' h)]
    rfl
theorem zOF {l:List Int} (h:∀c∈l,zFX c=true):zF2 (10^l.length+(val l).toNat)=49::l:=by
 revert h
 refine zH8 (P:=fun l=>(∀c∈l,zFX c=true)→zF2 (10^l.length+(val l).toNat)=49::l) ?_ ?_ l
 ·intro _; rw [zAi (by decide)]; rfl
 ·intro l c ih h
  have hl:∀c∈l,zFX c=true:=fun x hx=>h x (by simp [hx])
  have hb:=zE9 hl
  have hc:=h c (by simp)
  simp only [zFX,Bool.and_eq_true,decide_eq_true_eq] at hc
  have e1:(val (l++[c])).toNat =(val l).toNat *10+(c-48).toNat :=by rw [zFt]; omega
  have e2:10^(l++[c]).length =10^l.length*10:=by rw [List.length_append,List.length_singleton,Nat.pow_succ]
  have hp:1≤10^l.length:=Nat.one_le_pow _ _ (by omega)
  rw [e1,e2,zEi (by omega)]
  have e3:(10^l.length*10+((val l).toNat *10+(c-48).toNat)) / 10=10^l.length+(val l).toNat :=by omega
  have e4:(10^l.length*10+((val l).toNat *10+(c-48).toNat))%10=(c-48).toNat :=by omega
  rw [e3,e4,ih hl,List.cons_append]
  congr 3
  omega
def zPx:List Int:=[103,101,110,47]
theorem zLD:bl (bs [103,101,110,47])=zPx:=zK8 _
theorem zMw (n:Int):∃s,tY n=some s∧bl s=(if 1≤n∧n≤999999 then zPx++(zF2 (1000000+n.toNat)).drop 1 else []):=by
 unfold tY
 rw [zQI]
 simp only [Option.bind_some]
 by_cases h:1≤n∧n≤999999
 ·rw [if_pos h]
  have hb:(decide (n≥1)&&decide (n≤999999))=true:=by simp; omega
  rw [hb]
  rw [yU (by omega) (by omega),show (1000000:Int)+n=((1000000+n.toNat:Nat):Int) by omega]
  obtain ⟨s,e,hs⟩:=zET (1000000+n.toNat) (by omega)
  have hlen:(zF2 (1000000+n.toNat)).length =7:=zGr 6 _ (by omega) (by omega)
  have hsz:s.size=7:=by rw [←xI,hs,hlen]
  rw [e]
  simp only [Bool.not_true,Bool.false_eq_true,if_false,Option.bind_some]
  unfold zJR
  rw [if_pos (by omega)]
  simp only [Option.bind_some]
  have hx:(s.extract (1:Int).toNat ((s.size:Int)).toNat).size =6:=by
   rw [←xI,zEb,List.length_take,List.length_drop,hs,hlen,hsz]
   rfl
  unfold cat
  rw [if_pos (by have:(bs [103,101,110,47]).size =4:=rfl; omega)]
  refine ⟨_,rfl,?_⟩
  rw [zDK,zLD,zEb,hs]
  congr 1
  rw [List.take_of_length_le (by rw [List.length_drop,hlen,hsz]; decide)]
  rfl
 ·rw [if_neg h]
  have hb:(decide (n≥1)&&decide (n≤999999))=false:=by
   simp only [Bool.and_eq_false_iff,decide_eq_false_iff_not]; omega
  rw [hb]
  exact ⟨_,rfl,zK8 _⟩
def zDH (l:List Int):Option Int:=match zMU (l.drop 4) 6 with
 |some n=>if n≥1∧l.length=10 then some n else none
 |none=>none
theorem zPM {l:List Int} (hp:l.take 4=zPx) (hl:4≤l.length) {n:Int} (h:zMU (l.drop 4) 6=some n):
  (if 1≤n∧n≤999999 then zPx++(zF2 (1000000+n.toNat)).drop 1 else [])=l↔(n≥1∧l.length=10):=by
 unfold zMU at h
 split at h
 ·cases h
 ·rename_i hc
  cases h
  have hc1:1≤(l.drop 4).length :=by omega
  have hc2:(l.drop 4).length ≤6:=by omega
  have hd:∀c∈l.drop 4,zFX c=true:=Classical.byContradiction fun h=>hc (.inr (.inr h))
  have hb:=zE9 hd
  have hle:val (l.drop 4)≤999999:=by
   have:(10:Nat)^(l.drop 4).length ≤10^6:=Nat.pow_le_pow_right (by omega) hc2
   have e:(((10:Nat)^(l.drop 4).length :Nat):Int)=(10:Int)^(l.drop 4).length :=by simp
   omega
  have hll:l.length=4+(l.drop 4).length :=by simp; omega
  by_cases hn:1≤val (l.drop 4)
  ·rw [if_pos ⟨hn,hle⟩]
   constructor
   ·intro e
    refine ⟨hn,?_⟩
    rw [←e,List.length_append,List.length_drop,zGr 6 _ (by omega) (by omega)]
    rfl
   ·rintro ⟨_,h10⟩
    have h6:(l.drop 4).length =6:=by omega
    have key:=zOF hd
    rw [h6,show (10:Nat)^6=1000000 from rfl] at key
    rw [key,←hp]
    simp
  ·rw [if_neg (by omega)]
   constructor
   ·intro e
    rw [←e] at hll
    simp at hll
   ·rintro ⟨h',_⟩; omega
theorem zIp {s p:ByteArray} (h:begins s p=true):(bl s).take (bl p).length =bl p∧(bl p).length ≤(bl s).length :=by
 unfold begins at h
 simp only [Bool.and_eq_true,decide_eq_true_eq] at h
 have:=zJP.1 h.2
 refine ⟨?_,by rw [xI,xI]; exact h.1⟩
 have e:=congrArg bl this
 rw [zEb] at e
 simpa [xI] using e
theorem zGj {fs:List File} {p:ByteArray}:∀s∈tF fs p,begins s p=true:=by
 intro s hs
 unfold tF at hs
 obtain ⟨f,hf,rfl⟩:=List.mem_map.1 hs
 exact (List.mem_filter.1 hf).2
def zF5 (fs:List File):List Int:=(tF fs (bs [103,101,110,47])).filterMap (fun p=>zDH (bl p))
theorem zIj {ps:List ByteArray} (h:∀s∈ps,begins s (bs [103,101,110,47])=true) {i:Nat} (hi:i<ps.length):(bl ps[i]).take 4=zPx∧4≤(bl ps[i]).length :=by
 have:=zIp (h _ (List.getElem_mem hi))
 rw [zLD] at this
 exact this
theorem zJZ {s:ByteArray} {k:Nat} (h:k≤s.size):∃t,zJR s (k:Int) (s.size:Int)=some t∧bl t=(bl s).drop k:=by
 unfold zJR
 rw [if_pos (by omega)]
 refine ⟨_,rfl,?_⟩
 rw [zEb]
 simp only [Int.toNat_natCast]
 rw [List.take_of_length_le (by rw [List.length_drop,xI]; exact Nat.le_refl _)]
theorem zN9 {f:ByteArray→Option Int}:∀(l:List ByteArray),(l.filterMap f).length ≤l.length:=fun l=>List.length_filterMap_le f l
theorem zOf (d:zC) (h:d.Files.length≤1048576):zE5 d=some (zF5 d.Files):=by
 unfold zE5 zF5
 rw [zJg d _ h]
 simp only [Option.bind_some]
 have hm:=zGj (fs:=d.Files) (p:=bs [103,101,110,47])
 have hlen:=zEl d.Files (bs [103,101,110,47])
 generalize tF d.Files (bs [103,101,110,47])=ps at*
 obtain ⟨t,e,rfl⟩:=kS (b:=zCq d ps) (fun i s=>s=((ps.take i).filterMap (fun p=>zDH (bl p)),(i:Int))) ps.length (fun t=>t=ps.filterMap (fun p=>zDH (bl p))) (by
  rintro i s hi rfl
  obtain ⟨hp,h4⟩:=zIj hm hi
  have hsz:4≤ps[i].size :=by rw [←xI]; exact h4
  obtain ⟨u,hu,hub⟩:=zJZ (s:=ps[i]) (k:=4) hsz
  have hu':zJR ps[i] 4 (ps[i].size :Int)=some u:=hu
  have hfl:=zN9 (f:=fun p=>zDH (bl p)) (ps.take i)
  have hil:(ps.take i).length ≤i:=by simp; omega
  have ha:∀x:Int,app 8 ((ps.take i).filterMap (fun p=>zDH (bl p))) [x]=some ((ps.take i).filterMap (fun p=>zDH (bl p))++[x]):=fun x=>zDm (by simp; omega) (by simp; omega)
  have hsplit:(ps.take (i+1)).filterMap (fun p=>zDH (bl p))=(ps.take i).filterMap (fun p=>zDH (bl p))++[ps[i]].filterMap (fun p=>zDH (bl p)):=by
   rw [List.take_succ_eq_append_getElem hi,List.filterMap_append]
  unfold zCq
  rw [if_pos (by simp; omega)]
  simp only [zL hi,Option.bind_some,hu',zKX u 6 (by omega),hub,zM (show i<9223372036854775807 by omega)]
  left
  cases hn:zMU ((bl ps[i]).drop 4) 6 with
  |none=>
   refine ⟨_,rfl,?_⟩
   rw [hsplit]
   simp [zDH,hn]
  |some n=>
   obtain ⟨g,hg,hgb⟩:=zMw n
   have hiff:=zPM hp h4 hn
   rw [←hgb] at hiff
   simp only [if_true,hg,Option.bind_some]
   rw [zLS]
   by_cases hc:n≥1∧(bl ps[i]).length =10
   ·rw [decide_eq_true (hiff.2 hc)]
    simp only [Option.bind_some,if_true,ha]
    refine ⟨_,rfl,?_⟩
    rw [hsplit]
    simp [zDH,hn,hc]
   ·rw [decide_eq_false (fun e=>hc (hiff.1 e))]
    refine ⟨_,rfl,?_⟩
    rw [hsplit]
    simp only [List.filterMap_cons,zDH,hn,if_neg hc,List.filterMap_nil,List.append_nil]) (by
  rintro s rfl
  unfold zCq
  rw [if_neg (by simp)]
  exact ⟨_,rfl,by simp⟩) ps.length 0 ([],0) (by omega) (by simp)
 simp only [zEO,e,Option.bind_some]
theorem zPL (d:zC) (h:d.Files.length≤1048576):zAL d=some (zF5 d.Files):=by
 unfold zAL zF5
 rw [zMn,zJg d _ h]
 simp only [Option.bind_some]
 have hm:=zGj (fs:=d.Files) (p:=bs [103,101,110,47])
 have hlen:=zEl d.Files (bs [103,101,110,47])
 generalize tF d.Files (bs [103,101,110,47])=ps at*
 obtain ⟨t,e,rfl⟩:=kS (b:=zAG ps) (fun i s=>s=((ps.take i).filterMap (fun p=>zDH (bl p)),(i:Int))) ps.length (fun t=>t=ps.filterMap (fun p=>zDH (bl p))) (by
  rintro i s hi rfl
  obtain ⟨hp,h4⟩:=zIj hm hi
  have hsz:4≤ps[i].size :=by rw [←xI]; exact h4
  obtain ⟨u,hu,hub⟩:=zJZ (s:=ps[i]) (k:=4) hsz
  have hu':zJR ps[i] 4 (ps[i].size :Int)=some u:=hu
  have hfl:=zN9 (f:=fun p=>zDH (bl p)) (ps.take i)
  have hil:(ps.take i).length ≤i:=by simp; omega
  have ha:∀x:Int,app 8 ((ps.take i).filterMap (fun p=>zDH (bl p))) [x]=some ((ps.take i).filterMap (fun p=>zDH (bl p))++[x]):=fun x=>zDm (by simp; omega) (by simp; omega)
  have hsplit:(ps.take (i+1)).filterMap (fun p=>zDH (bl p))=(ps.take i).filterMap (fun p=>zDH (bl p))++[ps[i]].filterMap (fun p=>zDH (bl p)):=by
   rw [List.take_succ_eq_append_getElem hi,List.filterMap_append]
  unfold zAG
  rw [if_pos (by simp; omega)]
  simp only [zL hi,Option.bind_some,hu',number_eq u 6 (by omega),hub,zM (show i<9223372036854775807 by omega)]
  left
  cases hn:zMU ((bl ps[i]).drop 4) 6 with
  |none=>
   refine ⟨_,rfl,?_⟩
   rw [hsplit]
   simp [zDH,hn]
  |some n=>
   have hbl:((ps[i].size :Int)==10)=decide ((bl ps[i]).length =10):=by
    rw [xI,Bool.eq_iff_iff]; simp; omega
   simp only [hbl]
   by_cases h1:n≥1
   ·rw [if_pos (by simpa using h1)]
    by_cases h2:(bl ps[i]).length =10
    ·rw [decide_eq_true h2]
     simp only [Option.bind_some,if_true,ha]
     refine ⟨_,rfl,?_⟩
     rw [hsplit]
     simp [zDH,hn,h1,h2]
    ·rw [decide_eq_false h2]
     refine ⟨_,rfl,?_⟩
     rw [hsplit]
     simp [zDH,hn,h2]
   ·rw [if_neg (by simpa using h1)]
    refine ⟨_,rfl,?_⟩
    rw [hsplit]
    simp only [List.filterMap_cons,zDH,hn,if_neg (fun h':n≥1∧(bl ps[i]).length =10=>h1 h'.1),List.filterMap_nil,List.append_nil]) (by
  rintro s rfl
  unfold zAG
  rw [if_neg (by simp)]
  exact ⟨_,rfl,by simp⟩) ps.length 0 ([],0) (by omega) (by simp)
 simp only [zBk,e,Option.bind_some]
theorem zKp (fs:List File):(zF5 fs).length ≤fs.length:=by
 unfold zF5
 have h1:=zN9 (f:=fun p=>zDH (bl p)) (tF fs (bs [103,101,110,47]))
 have h2:=zEl fs (bs [103,101,110,47])
 omega
def zJN:List Int→List Int→Bool
 |_,[]=>false
 |[],_::_=>true
 |a::x,b::y=>decide (a<b)||(a==b&&zJN x y)
theorem zNz (a b:ByteArray):slt a b=zJN (bl a) (bl b):=by
 unfold slt bl
 generalize a.toList=x
 generalize b.toList=y
 induction x generalizing y with
 |nil=>cases y<;>rfl
 |cons u x ih=>
  cases y with
  |nil=>rfl
  |cons v y=>
   simp only [Op.bytesLess,List.map_cons,zJN,ih y]
   congr 1
   ·rw [Bool.eq_iff_iff]; simp [UInt8.lt_iff_toNat_lt]
   ·congr 1
    rw [Bool.eq_iff_iff]
    simp only [beq_iff_eq]
    constructor
    ·intro h; rw [h]
    ·intro h; exact UInt8.toNat_inj.1 (by omega)
theorem zMc (x:Int) (l:List Int):val (x::l)=(x-48)*10^l.length+val l:=by
 refine zH8 (P:=fun l=>val (x::l)=(x-48)*10^l.length+val l) ?_ ?_ l
 ·simp [val]
 ·intro l c ih
  rw [←List.cons_append,zFt,zFt,ih,List.length_append,List.length_singleton,Int.pow_succ]
  rw [Int.add_mul,Int.mul_assoc]
  omega
theorem zLM:∀{a b:List Int},a.length=b.length→(∀c∈a,zFX c=true)→(∀c∈b,zFX c=true)→zJN a b=true→val a<val b
 |[],[],_,_,_,h=>by simp [zJN] at h
 |x::a,y::b,hl,ha,hb,h=>by
  have hl':a.length=b.length:=by simpa using hl
  have ba:=zE9 (l:=a) (fun c hc=>ha c (by simp [hc]))
  have bb:=zE9 (l:=b) (fun c hc=>hb c (by simp [hc]))
  rw [zMc,zMc,hl']
  rw [hl'] at ba
  simp only [zJN,Bool.or_eq_true,decide_eq_true_eq,Bool.and_eq_true,beq_iff_eq] at h
  rcases h with h|⟨rfl,h⟩
  ·have e:(y-48)*10^b.length=(x-48)*10^b.length+(y-x)*10^b.length:=by rw [←Int.add_mul]; congr 1; omega
   have:1*(10:Int)^b.length≤(y-x)*10^b.length:=Int.mul_le_mul_of_nonneg_right (by omega) (by omega)
   omega
  ·have:=zLM hl' (fun c hc=>ha c (by simp [hc])) (fun c hc=>hb c (by simp [hc])) h
   omega
 |[],_::_,hl,_,_,_=>by simp at hl
 |_::_,[],hl,_,_,_=>by simp at hl
theorem zHk:∀(p a b:List Int),zJN (p++a) (p++b)=zJN a b
 |[],_,_=>rfl
 |x::p,a,b=>by simp [zJN,zHk p a b]
theorem zGS {l:List Int} {n:Int} (h:zDH l=some n):l.length=10∧(∀c∈l.drop 4,zFX c=true)∧n=val (l.drop 4)∧1≤n∧n≤999999:=by
 unfold zDH at h
 cases hn:zMU (l.drop 4) 6 with
 |none=>rw [hn] at h; cases h
 |some m=>
  rw [hn] at h
  simp only at h
  split at h
  ·rename_i hc
   cases h
   unfold zMU at hn
   split at hn
   ·cases hn
   ·rename_i hc2
    cases hn
    have hd:∀c∈l.drop 4,zFX c=true:=Classical.byContradiction fun h=>hc2 (.inr (.inr h))
    have hb:=zE9 hd
    have h6:(l.drop 4).length =6:=by rw [List.length_drop,hc.2]
    rw [h6] at hb
    exact ⟨hc.2,hd,rfl,hc.1,by omega⟩
  ·cases h
theorem zK7 {fs:List File} {n:Int} (h:n∈zF5 fs):1≤n∧n≤999999:=by
 unfold zF5 at h
 obtain ⟨p,_,hp⟩:=List.mem_filterMap.1 h
 exact (zGS hp).2.2.2
theorem zHs {fs:List File} (hs:fs.Pairwise (fun f g=>slt f.Path g.Path=true)):(zF5 fs).Pairwise (· < ·):=by
 unfold zF5
 have h1:(tF fs (bs [103,101,110,47])).Pairwise (fun a b=>slt a b=true):=by
  unfold tF
  rw [List.pairwise_map]
  exact List.Pairwise.filter _ hs
 have h2:=zGj (fs:=fs) (p:=bs [103,101,110,47])
 generalize tF fs (bs [103,101,110,47])=ps at*
 rw [List.pairwise_filterMap]
 refine List.Pairwise.imp_of_mem ?_ h1
 intro a b ha hb hab x hx y hy
 obtain ⟨a1,a2,rfl,_,_⟩:=zGS hx
 obtain ⟨b1,b2,rfl,_,_⟩:=zGS hy
 have pa:=zIp (h2 a ha)
 have pb:=zIp (h2 b hb)
 rw [zLD] at pa pb
 refine zLM (by rw [List.length_drop,List.length_drop,a1,b1]) a2 b2 ?_
 rw [zNz,←List.take_append_drop 4 (bl a),←List.take_append_drop 4 (bl b)] at hab
 rw [show (bl a).take 4=zPx from pa.1,show (bl b).take 4=zPx from pb.1,zHk] at hab
 exact hab
theorem zPv {l:List Int} (h:∀c∈l,0≤c∧c≤255):bl (b2s l)=l:=by
 refine (zH8 (P:=fun l=>(∀c∈l,0≤c∧c≤255)→bl (b2s l)=l) ?_ ?_ l) h
 ·intro _; exact zK8 []
 ·intro l c ih h
  have e:b2s (l++[c])=b2s l++b2s [c]:=by
   unfold b2s
   rw [List.foldl_append]
   generalize List.foldl (fun r n=>ByteArray.push r (UInt8.ofNat n.toNat)) ByteArray.empty l=x
   simp only [List.foldl_cons,List.foldl_nil]
   generalize UInt8.ofNat c.toNat=u
   apply toList_inj
   rw [ByteArray.toList_eq,ByteArray.toList_eq]
   simp
  rw [e,zDK,ih (fun x hx=>h x (by simp [hx])),zLA (h c (by simp)).1 (h c (by simp)).2]
theorem zNu {fs:List File} {p:ByteArray} {k:Nat} (hs:fs.Pairwise (fun f g=>slt f.Path g.Path=true)) (hk:k<fs.length) (hp:fs[k].Path =p):fs.find? (fun f=>decide (f.Path=p))=some fs[k]:=by
 rw [List.find?_eq_some_iff_getElem]
 refine ⟨by simp [hp],k,hk,rfl,fun j hj=>?_⟩
 simp only [Bool.not_eq_eq_eq_not,Bool.not_true,decide_eq_false_iff_not]
 intro e
 have:=zIP hs (by omega) hk (e.trans hp.symm)
 omega
theorem zGC {fs:List File} {p:ByteArray} (h:∀f∈fs,f.Path≠p):fs.find? (fun f=>decide (f.Path=p))=none:=by
 rw [List.find?_eq_none]
 intro f hf
 simpa using h f hf
def zN4 (c:Int):Bool:=decide (97≤c)&&decide (c≤122)
def zIK (c:Int):Bool:=decide (48≤c)&&decide (c≤57)
def zKO (c:Int):Bool:=zN4 c||(zIK c||c==95)
theorem zHX (c:Int):vN c=some (zN4 c):=by
 unfold vN zN4
 by_cases h:c≥97<;>simp [h]
theorem zM8 (c:Int):vT c=some (zIK c):=by
 unfold vT zIK
 by_cases h:c≥48<;>simp [h]
theorem zND (c:Int):uG c=some (zKO c):=by
 unfold uG zKO
 simp only [zHX,zM8,Option.bind_some]
 cases zN4 c<;>cases zIK c<;>simp
theorem zJJ (c:Int):xZ c=some (zKO c):=by
 unfold xZ zKO zN4 zIK
 by_cases h1:c≥97<;>by_cases h2:c≤122<;>by_cases h3:c≥48<;>by_cases h4:c≤57<;>simp [h1,h2,h3,h4]
def zH4 (s:ByteArray):Int:=(wN (fun _ c=>if zKO c then none else some (5:Int)) 0 (bl s)).getD 0
def NF (s:ByteArray):Int:=if s.size<1 then 5 else if s.size>12 then 5 else if zN4 ((bl s).headD 0) then zH4 s else 5
theorem zOd {s:ByteArray} (h:1≤s.size):bidx s 0=some ((bl s).headD 0):=by
 have h':0< (bl s).length :=by rw [xI]; exact h
 have e:=zEK (s:=s) (i:=0) h'
 rw [show ((0:Nat):Int)=0 from rfl] at e
 rw [e]
 have:(bl s)[0]? =some ((bl s).headD 0):=by
  cases hb:bl s with
  |nil=>rw [hb] at h'; simp at h'
  |cons c l=>rfl
 rw [List.getElem?_eq_getElem h'] at this
 exact this
theorem zJI (s:ByteArray) (h:s.size≤12):kC s 0=some (frs (wN (fun _ c=>if zKO c then none else some (5:Int)) 0 (bl s))):=by
 unfold kC
 refine wD (bl s) _ (fun i hi=>?_) ?_
 ·have hs:i<s.size:=by rw [←xI]; exact hi
  unfold zBX
  rw [if_pos (by simp; omega),zEK hi]
  simp only [Option.bind_some,zND]
  rw [zM (by omega)]
  cases zKO (bl s)[i]<;>rfl
 ·unfold zBX
  rw [if_neg (by rw [xI]; simp)]
theorem zJ7 (s:ByteArray) (h:s.size≤12):kF s 0=some (frs (wN (fun _ c=>if zKO c then none else some (5:Int)) 0 (bl s))):=by
 unfold kF
 refine wD (bl s) _ (fun i hi=>?_) ?_
 ·have hs:i<s.size:=by rw [←xI]; exact hi
  unfold zBU
  rw [if_pos (by simp; omega),zEK hi]
  simp only [Option.bind_some,zJJ]
  rw [zM (by omega)]
  cases zKO (bl s)[i]<;>rfl
 ·unfold zBU
  rw [if_neg (by rw [xI]; simp)]
theorem zEN (s:ByteArray):vM s=some (NF s):=by
 unfold vM NF
 by_cases h1:s.size<1
 ·rw [if_pos (show decide ((s.size:Int)<1)=true by rw [decide_eq_true_eq]; omega),if_pos h1]; rfl
 rw [if_neg (show ¬decide ((s.size:Int)<1)=true by rw [decide_eq_true_eq]; omega),if_neg h1]
 by_cases h2:s.size>12
 ·rw [if_pos (show decide ((s.size:Int)>12)=true by rw [decide_eq_true_eq]; omega),if_pos h2]; rfl
 rw [if_neg (show ¬decide ((s.size:Int)>12)=true by rw [decide_eq_true_eq]; omega),if_neg h2,zOd (by omega),zJI s (by omega)]
 simp only [Option.bind_some,zHX]
 cases h3:zN4 ((bl s).headD 0)
 ·rfl
 ·unfold zH4
  cases wN (fun _ c=>if zKO c then none else some (5:Int)) 0 (bl s)<;>rfl
theorem zO6 (c:Int):(if decide (c<97)=true then some true else some (decide (c>122)))=some (!(zN4 c)):=by
 unfold zN4
 by_cases h3:c<97
 ·rw [if_pos (by rw [decide_eq_true_eq]; exact h3)]
  have:decide (97≤c)=false:=by rw [decide_eq_false_iff_not]; omega
  rw [this]; rfl
 ·rw [if_neg (by rw [decide_eq_true_eq]; exact h3)]
  have:decide (97≤c)=true:=by rw [decide_eq_true_eq]; omega
  rw [this]
  congr 1
  rw [Bool.true_and,Bool.eq_iff_iff]
  simp
theorem zES (s:ByteArray):vG s=some (NF s):=by
 unfold vG NF
 by_cases h1:s.size<1
 ·rw [if_pos (show decide ((s.size:Int)<1)=true by rw [decide_eq_true_eq]; omega),if_pos h1]; rfl
 rw [if_neg (show ¬decide ((s.size:Int)<1)=true by rw [decide_eq_true_eq]; omega),if_neg h1]
 by_cases h2:s.size>12
 ·rw [if_pos (show decide ((s.size:Int)>12)=true by rw [decide_eq_true_eq]; omega),if_pos h2]; rfl
 rw [if_neg (show ¬decide ((s.size:Int)>12)=true by rw [decide_eq_true_eq]; omega),if_neg h2,zOd (by omega),zJ7 s (by omega)]
 simp only [Option.bind_some,zO6]
 cases h3:zN4 ((bl s).headD 0)
 ·rfl
 ·unfold zH4
  cases wN (fun _ c=>if zKO c then none else some (5:Int)) 0 (bl s)<;>rfl
def VF (v:Version):Int:=if inB v.A 0 999&&inB v.B 0 999&&inB v.C 0 999 then 0 else 3
theorem zEa (v:Version):xU v=some (VF v):=by
 unfold xU VF
 simp only [zJ6,Option.bind_some]
 cases inB v.A 0 999<;>cases inB v.B 0 999<;>cases inB v.C 0 999<;>rfl
theorem zFh (v:Version):wF v=some (VF v):=by
 unfold wF VF
 simp only [zHU,Option.bind_some]
 cases inB v.A 0 999<;>cases inB v.B 0 999<;>cases inB v.C 0 999<;>rfl
def sgn (a b:Int):Int:=if a<b then-1 else if a>b then 1 else 0
theorem zOj (a b:Int):kN a b=some (sgn a b):=by
 unfold kN sgn
 by_cases h:a<b
 ·simp [h]
 ·by_cases h2:a>b<;>simp [h,h2]
theorem cmp_eq (a b:Int):wJ a b=some (sgn a b):=by
 unfold wJ jB sgn
 simp only [Option.bind_some,bne_self_eq_false,Bool.false_eq_true,if_false]
 by_cases h:a<b
 ·simp [h]
 ·by_cases h2:a>b<;>simp [h,h2]
def zIW (a b:Version):Int:=if sgn a.A b.A≠0 then sgn a.A b.A else if sgn a.B b.B≠0 then sgn a.B b.B else sgn a.C b.C
theorem zCY (a b:Version):yS a b=some (zIW a b):=by
 unfold yS zIW
 simp only [zOj,Option.bind_some]
 by_cases h1:sgn a.A b.A=0
 ·by_cases h2:sgn a.B b.B=0<;>simp [h1,h2]
 ·simp [h1]
theorem zP2 (l:List Int) (h:l.length≤10):loop (zDf l) 0=some (frs (wN (fun _ c=>if c !=0 then some c else none) 0 l)):=by
 refine wD l _ (fun i hi=>?_) ?_
 ·unfold zDf
  rw [if_pos (by simp; omega),zL hi]
  simp only [Option.bind_some]
  rw [zM (by omega)]
  cases l[i] !=0<;>rfl
 ·unfold zDf
  rw [if_neg (by simp)]
theorem zHt (a b:Version):uQ a b=some (zIW a b):=by
 unfold uQ zIW zE1 zDM
 simp only [cmp_eq,Option.bind_some]
 rw [zP2 _ (by simp),zCV]
 by_cases h1:sgn a.A b.A=0
 ·by_cases h2:sgn a.B b.B=0
  ·by_cases h3:sgn a.C b.C=0<;>simp [h1,h2,h3,wN]
  ·simp [h1,h2,wN]
 ·simp [h1,wN]
theorem zNL (a b:Version):zIW b a= -zIW a b:=by
 unfold zIW sgn
 split<;>split<;>omega
def eqV (a b:Version):Bool:=a.A==b.A&&(a.B==b.B&&(a.C==b.C&&true))
theorem zNf (a b:Version):(zIW a b==0)=eqV a b:=by
 unfold zIW eqV sgn
 rw [Bool.eq_iff_iff]
 simp only [beq_iff_eq,Bool.and_eq_true,Bool.and_true]
 constructor
 ·intro h
  split at h<;>omega
 ·intro ⟨h1,h2,h3⟩
  split<;>omega
def zQ0:Version:= {A:=1000,B:=0,C:=0}
def TF (t:Term):Int:=if NF t.Name≠0 then NF t.Name else if VF t.Low≠0 then VF t.Low else
 if eqV t.High zQ0=false∧VF t.High≠0 then 3 else if zIW t.Low t.High≥0 then 1 else 0
theorem zIE (t:Term):zAP t=some (TF t):=by
 unfold zAP TF zEd
 simp only [zEN,zEa,zCY,Option.bind_some]
 show (if (NF t.Name !=0)=true then some (NF t.Name) else if (VF t.Low !=0)=true then some (VF t.Low) else (if (!(eqV t.High zQ0))=true then some (VF t.High !=0) else some false).bind fun v=>if v=true then some 3 else if decide (zIW t.Low t.High≥0)=true then some 1 else some 0)=_
 generalize NF t.Name=a
 generalize VF t.Low=b
 generalize eqV t.High zQ0=c
 generalize VF t.High=d
 generalize zIW t.Low t.High=e
 by_cases h1:a=0
 ·by_cases h2:b=0
  ·by_cases h4:d=0<;>by_cases h5:e≥0<;>cases c<;>simp [h1,h2,h4,h5]
  ·simp [h1,h2]
 ·simp [h1]
theorem zID (t:Term):zAV t=some (TF t):=by
 unfold zAV TF zFx
 simp only [zES,zFh,zHt,Option.bind_some]
 show (if (NF t.Name !=0)=true then some (NF t.Name) else if (VF t.Low !=0)=true then some (VF t.Low) else (if (!(eqV t.High zQ0))=true then some (VF t.High !=0) else some false).bind fun v=>if v=true then some 3 else if decide (zIW t.Low t.High≥0)=true then some 1 else some 0)=_
 generalize NF t.Name=a
 generalize VF t.Low=b
 generalize eqV t.High zQ0=c
 generalize VF t.High=d
 generalize zIW t.Low t.High=e
 by_cases h1:a=0
 ·by_cases h2:b=0
  ·by_cases h4:d=0<;>by_cases h5:e≥0<;>cases c<;>simp [h1,h2,h4,h5]
  ·simp [h1,h2]
 ·simp [h1]
def tsF (l:List Term):Int:=(wN (fun _ t=>if TF t !=0 then some (TF t) else none) 0 l).getD 0
theorem zHi (l:List Term) (h:l.length≤1048576):jU l=some (tsF l):=by
 have key:=wD l (fun _ t=>if TF t !=0 then some (TF t) else none) (b:=zBP l) (by
  intro i hi
  unfold zBP
  rw [if_pos (by simp; omega),zL hi]
  simp only [Option.bind_some,zIE]
  rw [zM (by omega)]
  cases TF l[i] !=0<;>rfl) (by
  unfold zBP
  rw [if_neg (by simp)])
 unfold jU zCp tsF
 rw [key,zCV]
 cases wN (fun _ t=>if TF t !=0 then some (TF t) else none) 0 l<;>rfl
theorem zF4 (l:List Term) (h:l.length≤1048576):vL l=some (tsF l):=by
 have key:=wD l (fun _ t=>if TF t !=0 then some (TF t) else none) (b:=kK l) (by
  intro i hi
  unfold kK
  rw [if_pos (by simp; omega),zL hi]
  simp only [Option.bind_some,zID]
  rw [zM (by omega)]
  cases TF l[i] !=0<;>rfl) (by
  unfold kK
  rw [if_neg (by simp)])
 unfold vL zA9 tsF
 rw [key,zCV]
 cases wN (fun _ t=>if TF t !=0 then some (TF t) else none) 0 l<;>rfl
theorem zDP {n:Nat} (h:n<1000):(zF3 n).size ≤3:=by
 rw [←xI,zEw]
 exact zIk 2 n (by omega)
theorem zEz:(bs [46]).size =1:=rfl
def zO9 (v:Version):ByteArray:=zF3 v.A.toNat++bs [46]++zF3 v.B.toNat++bs [46]++zF3 v.C.toNat
theorem zHM {v:Version} (h:VF v=0):(0≤v.A∧v.A≤999)∧(0≤v.B∧v.B≤999)∧(0≤v.C∧v.C≤999):=by
 unfold VF inB at h
 split at h
 ·rename_i hh
  simp only [Bool.and_eq_true,decide_eq_true_eq] at hh
  omega
 ·cases h
theorem zFk {v:Version} (h:VF v=0):(zO9 v).size ≤11:=by
 obtain ⟨h1,h2,h3⟩:=zHM h
 unfold zO9
 simp only [zAX,zEz]
 have a1:=zDP (n:=v.A.toNat) (by omega)
 have a2:=zDP (n:=v.B.toNat) (by omega)
 have a3:=zDP (n:=v.C.toNat) (by omega)
 omega
theorem zJ2 {x:Int} (h:0≤x∧x≤999):xG x=some (zF3 x.toNat):=by
 have:=zHo x.toNat (by omega)
 rwa [Int.toNat_of_nonneg h.1] at this
theorem zJG {x:Int} (h:0≤x∧x≤999):zAf x=some (zF3 x.toNat):=by
 have:=zFB x.toNat (by omega)
 rw [Int.toNat_of_nonneg h.1] at this
 unfold zAf
 rw [this]
 rfl
theorem zEJ {v:Version} (h:VF v=0):wW v=some (zO9 v):=by
 obtain ⟨h1,h2,h3⟩:=zHM h
 have a1:=zDP (n:=v.A.toNat) (by omega)
 have a2:=zDP (n:=v.B.toNat) (by omega)
 have a3:=zDP (n:=v.C.toNat) (by omega)
 unfold wW zO9
 rw [zEa,h]
 simp only [Option.bind_some,zJ2 h1,zJ2 h2,zJ2 h3]
 rw [if_neg (by simp)]
 rw [zCj (by rw [zEz]; omega)]
 simp only [Option.bind_some]
 rw [zCj (by simp only [zAX,zEz]; omega)]
 simp only [Option.bind_some]
 rw [zCj (by simp only [zAX,zEz]; omega)]
 simp only [Option.bind_some]
 rw [zCj (by simp only [zAX,zEz]; omega)]
 rfl
theorem zJS {v:Version} (h:VF v=0):wZ v=some (zO9 v):=by
 obtain ⟨h1,h2,h3⟩:=zHM h
 have a1:=zDP (n:=v.A.toNat) (by omega)
 have a2:=zDP (n:=v.B.toNat) (by omega)
 have a3:=zDP (n:=v.C.toNat) (by omega)
 unfold wZ zO9
 simp only [Option.bind_some,zJG h1,zJG h2,zJG h3]
 rw [zCj (by rw [zEz]; omega)]
 simp only [Option.bind_some]
 rw [zCj (by simp only [zAX,zEz]; omega)]
 simp only [Option.bind_some]
 rw [zCj (by simp only [zAX,zEz]; omega)]
 simp only [Option.bind_some]
 rw [zCj (by simp only [zAX,zEz]; omega)]
 rfl
theorem zFr {s:ByteArray} (h:NF s=0):1≤s.size∧s.size≤12:=by
 unfold NF at h
 split at h
 ·cases h
 ·split at h
  ·cases h
  ·omega
def zN1 {α:Type} (f:α→ByteArray) (a:ByteArray) (l:List α):ByteArray:=l.foldl (fun a t=>a++f t) a
theorem zLZ {α:Type} (f:α→ByteArray):∀(l:List α) (a:ByteArray),foldI (fun _ a t=>a++f t) 0 l a=zN1 f a l∧∀i,foldI (fun _ a t=>a++f t) i l a=zN1 f a l
 |[],a=>⟨rfl,fun _=>rfl⟩
 |x::l,a=>by
  have:=zLZ f l (a++f x)
  exact ⟨this.2 1,fun i=>this.2 (i+1)⟩
theorem zK3 {α:Type} (xs:List α) (f:α→ByteArray) (C:Nat) (hC:∀x∈xs,(f x).size ≤C) {b:(ByteArray×Int)→Option (Lp (ByteArray×Int) ByteArray)} (a0:ByteArray)
  (hstep:∀(i:Nat) (a:ByteArray) (hi:i<xs.length),a.size≤a0.size+i*C→b (a,(i:Int))=some (.go (a++f xs[i],((i+1:Nat):Int)))) (hend:∀a,b (a,(xs.length:Int))=some (.done a)):
  loop b (a0,0)=some (zN1 f a0 xs)∧(zN1 f a0 xs).size ≤a0.size+xs.length*C:=by
 have h:=zBR xs (fun _ a t=>a++f t) (fun i a=>a.size≤a0.size+i*C) (b:=b) (fun i a hi hI=>⟨hstep i a hi hI,by
  have h:=hC _ (List.getElem_mem hi)
  simp only [zAX]
  rw [Nat.add_mul]
  omega⟩) hend xs.length 0 a0 (by omega) (by omega)
 rw [List.drop_zero,(zLZ f xs a0).1] at h
 exact h
theorem zJy (a b:ByteArray):seq a b=seq b a:=by
 unfold seq
 rw [Bool.eq_iff_iff]
 simp only [beq_iff_eq]
 exact eq_comm
theorem zE8 {α R:Type} (g:Nat→α→Option R):∀(xs:List α) (i:Nat),wN g i xs=none↔∀(j:Nat) (h:j<xs.length),g (i+j) xs[j]=none
 |[],i=>by simp [wN]
 |x::xs,i=>by
  simp only [wN]
  cases h:g i x with
  |some r=>
   simp only [reduceCtorEq,false_iff]
   intro hh
   have:=hh 0 (by simp)
   simp only [Nat.add_zero,List.getElem_cons_zero] at this
   rw [h] at this
   cases this
  |none=>
   show wN g (i+1) xs=none↔_
   rw [zE8 g xs (i+1)]
   constructor
   ·intro hh j hj
    cases j with
    |zero=>simpa using h
    |succ j=>
     have:=hh j (by simpa using hj)
     rw [show i+(j+1)=i+1+j by omega]
     simpa using this
   ·intro hh j hj
    have:=hh (j+1) (by simpa using hj)
    rw [show i+(j+1)=i+1+j by omega] at this
    simpa using this
theorem zG1 {α:Type} {xs:List α} {i:Nat} (h:i≤xs.length):zGM xs 0 (i:Int)=some (xs.take i):=by
 have:=zL4 (xs:=xs) (l:=0) (h:=i) (by omega) h
 rw [show ((0:Nat):Int)=0 from rfl] at this
 rw [this]
 simp
theorem zJf (l:List ByteArray) (n:ByteArray) (h:l.length≤1048576):jV l n=some (l.any fun x=>seq x n):=by
 have key:=wD l (fun _ x=>if seq x n then some true else none) (b:=zBN l n) (by
  intro i hi
  unfold zBN
  rw [if_pos (by simp; omega),zL hi]
  simp only [Option.bind_some]
  rw [zM (by omega)]
  cases seq l[i] n<;>rfl) (by
  unfold zBN
  rw [if_neg (by simp)])
 unfold jV zCr
 rw [key,zCV,←zG2 (fun x=>seq x n) l 0]
 cases wN (fun _ x=>if seq x n then some true else none) 0 l<;>rfl
theorem zJ9 (l:List ByteArray) (n:ByteArray) (h:l.length≤1048576):wP l n=some (l.any fun x=>seq x n):=by
 have key:=wD l (fun i x=>if seq x n then some (i:Int) else none) (b:=vV l n) (by
  intro i hi
  unfold vV
  rw [if_pos (by simp; omega),zL hi]
  simp only [Option.bind_some]
  rw [zM (by omega),zJy n]
  cases seq l[i] n<;>rfl) (by
  unfold vV
  rw [if_neg (by simp)])
 unfold wP uM uD
 rw [key,zCV]
 rw [←zE0 (zCL (fun x=>seq x n) l 0)]
 cases wN (fun j x=>if seq x n then some (j:Int) else none) 0 l<;>rfl
def zKS (p:Pack) (i:Nat) (n:ByteArray):Option Int:=if NF n !=0 then some (NF n) else if seq n p.Name||(p.Provides.take i).any (fun x=>seq x n) then some 6 else none
def zLx (_:Nat) (l:List Term):Option Int:=if (l.length:Int)==0 then some 1 else if tsF l !=0 then some (tsF l) else none
def zPw (p:Pack):Bool:=decide ((p.Provides.length:Int)>4)||(decide ((p.Needs.length:Int)>4)||(decide ((p.Bars.length:Int)>4)||p.Needs.any (fun l=>decide ((l.length:Int)>4))))
def zKv (p:Pack):Int:=match wN (zKS p) 0 p.Provides with
 |some r=>r
 |none=>match wN zLx 0 p.Needs with
  |some r=>r
  |none=>tsF p.Bars
def PF (p:Pack):Int:=if NF p.Name !=0 then NF p.Name else if VF p.Version !=0 then VF p.Version else if !(inB p.Size 1 200) then 3 else if zPw p then 2 else zKv p
theorem zHK (p:Pack) (hp:Pack.sm 1048576 p):((kD p 0).bind (Fl.go some fun v60=>(kE p 0).bind (Fl.go some fun v80=>(jU p.Bars).bind fun x81=>some x81)))=some (zKv p):=by
 obtain ⟨_,_,_,hpr,hne,hba⟩:=hp
 have k2:=wD p.Provides (zKS p) (b:=zA0 p) (by
  intro i hi
  unfold zA0 zKS
  rw [if_pos (by simp; omega),zL hi]
  simp only [Option.bind_some,zEN]
  rw [zG1 (by omega)]
  simp only [Option.bind_some]
  rw [zJf _ _ (by simp; omega),zM (by omega)]
  simp only [Option.bind_some]
  cases NF p.Provides[i] !=0<;>cases seq p.Provides[i] p.Name<;>cases (p.Provides.take i).any (fun x=>seq x p.Provides[i])<;>rfl) (by
  unfold zA0
  rw [if_neg (by simp)])
 have k3:=wD p.Needs zLx (b:=zAA p) (by
  intro i hi
  unfold zAA zLx
  rw [if_pos (by simp; omega),zL hi]
  simp only [Option.bind_some]
  rw [zHi _ (hne.2 _ (List.getElem_mem hi)).1,zM (by omega)]
  simp only [Option.bind_some]
  cases (p.Needs[i].length :Int)==0<;>cases tsF p.Needs[i] !=0<;>rfl) (by
  unfold zAA
  rw [if_neg (by simp)])
 unfold kD kE zKv
 rw [k2,k3,zHi _ hba.1]
 cases wN (zKS p) 0 p.Provides<;>cases wN zLx 0 p.Needs<;>rfl
theorem zHy (p:Pack) (hp:Pack.sm 1048576 p):((jX p 0).bind (Fl.go some fun v46=>(jY p 0).bind (Fl.go some fun v62=>(vL p.Bars).bind fun x63=>some x63)))=some (zKv p):=by
 obtain ⟨_,_,_,hpr,hne,hba⟩:=hp
 have k2:=wD p.Provides (zKS p) (b:=zAD p) (by
  intro i hi
  unfold zAD zKS
  rw [if_pos (by simp; omega),zL hi]
  simp only [Option.bind_some,zES]
  rw [zG1 (by omega)]
  simp only [Option.bind_some]
  rw [zJ9 _ _ (by simp; omega),zM (by omega)]
  simp only [Option.bind_some]
  cases NF p.Provides[i] !=0<;>cases seq p.Provides[i] p.Name<;>cases (p.Provides.take i).any (fun x=>seq x p.Provides[i])<;>rfl) (by
  unfold zAD
  rw [if_neg (by simp)])
 have k3:=wD p.Needs zLx (b:=zA6 p) (by
  intro i hi
  unfold zA6 zLx
  rw [if_pos (by simp; omega),zL hi]
  simp only [Option.bind_some]
  rw [zF4 _ (hne.2 _ (List.getElem_mem hi)).1,zM (by omega)]
  simp only [Option.bind_some]
  cases (p.Needs[i].length :Int)==0<;>cases tsF p.Needs[i] !=0<;>rfl) (by
  unfold zA6
  rw [if_neg (by simp)])
 unfold jX jY zKv
 rw [k2,k3,zF4 _ hba.1]
 cases wN (zKS p) 0 p.Provides<;>cases wN zLx 0 p.Needs<;>rfl
theorem zHd {α R:Type} (p:α→Bool) (r:R):∀(xs:List α) (i:Nat),wN (fun _ x=>if p x then some r else none) i xs=if xs.any p then some r else none
 |[],i=>rfl
 |x::xs,i=>by
  simp only [wN]
  cases h:p x
  ·simp only [Bool.false_eq_true,if_false,List.any_cons,h,Bool.false_or]
   exact zHd p r xs (i+1)
  ·simp [h]
theorem zIx (p:Pack) (hp:Pack.sm 1048576 p):zAR p=some (PF p):=by
 have hl:=zHK p hp
 obtain ⟨_,_,_,hpr,hne,hba⟩:=hp
 have k1:=wD p.Needs (fun _ l=>if decide ((l.length:Int)>4) then some (2:Int) else none) (b:=zAt p) (by
  intro i hi
  unfold zAt
  rw [if_pos (by simp; omega),zL hi]
  simp only [Option.bind_some]
  rw [zM (by omega)]
  cases decide ((p.Needs[i].length :Int)>4)<;>rfl) (by
  unfold zAt
  rw [if_neg (by simp)])
 rw [zHd] at k1
 unfold zAR PF zPw
 simp only [zEN,zEa,zJ6,Option.bind_some]
 rw [hl]
 unfold zBe
 rw [k1]
 cases NF p.Name !=0<;>cases VF p.Version !=0<;>cases inB p.Size 1 200<;>cases decide ((p.Provides.length:Int)>4)<;>cases decide ((p.Needs.length:Int)>4)<;>cases decide ((p.Bars.length:Int)>4)<;>cases p.Needs.any (fun l=>decide ((l.length:Int)>4))<;>rfl
theorem zOO (l:List Int) (h:l.length≤10):loop (zAr l) 0=some (frs (wN (fun _ c=>if c !=0 then some c else none) 0 l)):=by
 refine wD l _ (fun i hi=>?_) ?_
 ·unfold zAr
  rw [if_pos (by simp; omega),zL hi]
  simp only [Option.bind_some]
  rw [zM (by omega)]
  cases l[i] !=0<;>rfl
 ·unfold zAr
  rw [if_neg (by simp)]
theorem zI3 (p:Pack) (hp:Pack.sm 1048576 p):zAT p=some (PF p):=by
 have hl:=zHy p hp
 obtain ⟨_,_,_,hpr,hne,hba⟩:=hp
 have k1:=wD p.Needs (fun i l=>if decide ((l.length:Int)>4) then some (i:Int) else none) (b:=yG p.Needs) (by
  intro i hi
  unfold yG zAm
  rw [if_pos (by simp; omega),zL hi]
  simp only [Option.bind_some]
  rw [zM (by omega)]
  cases decide ((p.Needs[i].length :Int)>4)<;>rfl) (by
  unfold yG
  rw [if_neg (by simp)])
 have k2:zO p.Needs=some (p.Needs.any (fun l=>decide ((l.length:Int)>4))):=by
  unfold zO yB yK
  rw [k1,zCV,←zE0 (zCL (fun l:List Term=>decide ((l.length:Int)>4)) p.Needs 0)]
  cases wN (fun j (x:List Term)=>if decide ((x.length:Int)>4) then some (j:Int) else none) 0 p.Needs<;>rfl
 have k3:zAY [NF p.Name,VF p.Version]=some (if NF p.Name !=0 then NF p.Name else VF p.Version):=by
  have k:=zOO [NF p.Name,VF p.Version] (by simp)
  unfold zAY zBm
  rw [k,zCV]
  simp only [wN]
  cases hn:NF p.Name !=0
  ·cases hv:VF p.Version !=0
   ·have:VF p.Version=0:=by simpa using hv
    simp [this]
   ·rfl
  ·rfl
 unfold zAT PF zPw
 simp only [zES,zFh,zHU,Option.bind_some]
 rw [hl,k2,k3]
 simp only [Option.bind_some]
 cases hn:NF p.Name !=0
 ·simp only [Bool.false_eq_true,if_false]
  cases VF p.Version !=0<;>cases inB p.Size 1 200<;>cases decide ((p.Provides.length:Int)>4)<;>cases decide ((p.Needs.length:Int)>4)<;>cases decide ((p.Bars.length:Int)>4)<;>cases p.Needs.any (fun l=>decide ((l.length:Int)>4))<;>rfl
 ·simp only [if_true,hn]
def isB (n:ByteArray) (v:Version) (q:Pack):Bool:=seq q.Name n&&eqV q.Version v
def zMZ (c:List Pack) (n:ByteArray) (v:Version):Int:=(wN (fun i q=>if isB n v q then some (i:Int) else none) 0 c).getD (-1)
theorem zKh (c:List Pack) (n:ByteArray) (v:Version):decide (zMZ c n v≥0)=c.any (isB n v):=zE0 (zCL (isB n v) c 0)
theorem zMH (c:List Pack) (n:ByteArray) (v:Version) (h:c.length≤1048576):zCu c n v=some (zMZ c n v):=by
 have key:=wD c (fun i q=>if isB n v q then some (i:Int) else none) (b:=zCk c n v) (by
  intro i hi
  unfold zCk isB
  rw [if_pos (by simp; omega),zL hi]
  simp only [Option.bind_some,zCY,zNf]
  rw [zM (by omega)]
  cases seq c[i].Name n<;>cases eqV c[i].Version v<;>rfl) (by
  unfold zCk
  rw [if_neg (by simp)])
 unfold zMZ
 unfold zCu zDg
 rw [key,zCV]
 cases wN (fun i q=>if isB n v q then some (i:Int) else none) 0 c<;>rfl
theorem zMD (c:List Pack) (n:ByteArray) (v:Version) (h:c.length≤1048576):zEm c n v=some (zMZ c n v):=by
 have key:=wD c (fun i q=>if isB n v q then some (i:Int) else none) (b:=xE c n v) (by
  intro i hi
  unfold xE isB zEc
  rw [if_pos (by simp; omega),zL hi]
  simp only [Option.bind_some]
  rw [zM (by omega)]
  show (Option.bind (if seq c[i].Name n=true then some (eqV c[i].Version v) else some false) _)=_
  cases seq c[i].Name n<;>cases eqV c[i].Version v<;>rfl) (by
  unfold xE
  rw [if_neg (by simp)])
 unfold zMZ
 unfold zEm yY xK
 rw [key,zCV]
 cases wN (fun i q=>if isB n v q then some (i:Int) else none) 0 c<;>rfl
theorem find_spec (c:List Pack) (n:ByteArray) (v:Version) (h:c.length≤1048576):∃k,zCu c n v=some k∧decide (k≥0)=c.any (isB n v):=⟨_,zMH c n v h,zKh c n v⟩
theorem zMY (c:List Pack) (n:ByteArray) (v:Version) (h:c.length≤1048576):∃k,zEm c n v=some k∧decide (k≥0)=c.any (isB n v):=⟨_,zMD c n v h,zKh c n v⟩
def zOw (c:List Pack) (i:Nat) (p:Pack):Option Int:=if PF p !=0 then some (PF p) else if (c.take i).any (isB p.Name p.Version) then some 6 else none
def CF (c:List Pack):Int:=if decide ((c.length:Int)>24) then 2 else (wN (zOw c) 0 c).getD 0
theorem zGY (c:List Pack) (hc:c.length≤1048576∧∀y0∈c,Pack.sm 1048576 y0):tC c=some (CF c):=by
 have key:=wD c (zOw c) (b:=tO c) (by
  intro i hi
  unfold tO zOw
  rw [if_pos (by simp; omega),zL hi]
  simp only [Option.bind_some]
  rw [zIx _ (hc.2 _ (List.getElem_mem hi)),zG1 (by omega)]
  simp only [Option.bind_some]
  obtain ⟨k,e,hk⟩:=find_spec (c.take i) c[i].Name c[i].Version (by simp; omega)
  rw [e,zM (by omega)]
  simp only [Option.bind_some]
  rw [hk]
  cases PF c[i] !=0<;>cases (c.take i).any (isB c[i].Name c[i].Version)<;>rfl) (by
  unfold tO
  rw [if_neg (by simp)])
 unfold tC CF jN
 rw [key,zCV]
 cases decide ((c.length:Int)>24)<;>cases wN (zOw c) 0 c<;>rfl
theorem zFe (c:List Pack) (hc:c.length≤1048576∧∀y0∈c,Pack.sm 1048576 y0):vB c=some (CF c):=by
 have key:=wD c (zOw c) (b:=tQ c) (by
  intro i hi
  unfold tQ zOw
  rw [if_pos (by simp; omega),zL hi]
  simp only [Option.bind_some]
  rw [zI3 _ (hc.2 _ (List.getElem_mem hi)),zG1 (by omega)]
  simp only [Option.bind_some]
  obtain ⟨k,e,hk⟩:=zMY (c.take i) c[i].Name c[i].Version (by simp; omega)
  rw [e,zM (by omega)]
  simp only [Option.bind_some]
  rw [hk]
  cases PF c[i] !=0<;>cases (c.take i).any (isB c[i].Name c[i].Version)<;>rfl) (by
  unfold tQ
  rw [if_neg (by simp)])
 unfold vB CF jO
 rw [key,zCV]
 cases decide ((c.length:Int)>24)<;>cases wN (zOw c) 0 c<;>rfl
def noPack:Pack:= {Name:=ByteArray.empty,Version:= {A:=0,B:=0,C:=0},Size:=0,Provides:=[],Needs:=[],Bars:=[]}
def pat (c:List Pack) (k:Int):Pack:=(idx c k).getD noPack
def Places (c:List Pack) (a:List Int):Prop:=∀k∈a,0≤k∧k<c.length
theorem tZ {c:List Pack} {k:Int} (h:0≤k∧k<c.length):idx c k=some (pat c k)∧pat c k∈c:=by
 unfold pat idx
 rw [if_pos h.1]
 have:k.toNat<c.length:=by omega
 rw [List.getElem?_eq_getElem this]
 exact ⟨rfl,List.getElem_mem this⟩
def Cat (c:List Pack):Prop:=c.length≤1048576∧∀y0∈c,Pack.sm 1048576 y0
theorem Cat.zRD {c:List Pack} (hc:Cat c) {k:Int} (h:0≤k∧k<c.length):(pat c k).Provides.length ≤1048576:=(hc.2 _ (tZ h).2).2.2.2.1.1
theorem Cat.needs {c:List Pack} (hc:Cat c) {k:Int} (h:0≤k∧k<c.length):(pat c k).Needs.length ≤1048576:=(hc.2 _ (tZ h).2).2.2.2.2.1.1
theorem Cat.clause {c:List Pack} (hc:Cat c) {k:Int} (h:0≤k∧k<c.length) {l:List Term} (hl:l∈(pat c k).Needs):l.length≤1048576:=((hc.2 _ (tZ h).2).2.2.2.2.1.2 l hl).1
theorem Cat.bars {c:List Pack} (hc:Cat c) {k:Int} (h:0≤k∧k<c.length):(pat c k).Bars.length ≤1048576:=(hc.2 _ (tZ h).2).2.2.2.2.2.1
def zMR (c:List Pack) (a:List Int) (i:Nat) (k:Int):Option Bool:=if !(inB k 0 ((c.length:Int)-1))||(decide (0<i)&&decide (k≤a.getD (i-1) 0)) then some false else none
def zMT (c:List Pack) (a:List Int):Bool:=(wN (zMR c a) 0 a).isNone
theorem getD_lt {a:List Int} {i:Nat} (h:i<a.length):a.getD i 0=a[i]:=by simp [List.getD,h]
theorem zMy {c:List Pack} {a:List Int} (hc:c.length≤1048576) (ha:a.length≤1048576):zDG c a=some (zMT c a):=by
 have key:=wD a (zMR c a) (b:=zDl c a) (by
  intro i hi
  unfold zDl zMR
  rw [if_pos (by simp; omega),zL hi,yU (x:=(c.length:Int)-1) (by omega) (by omega)]
  simp only [Option.bind_some,zJ6]
  by_cases h0:0<i
  ·rw [yU (x:=(i:Int)-1) (by omega) (by omega),show (i:Int)-1=((i-1:Nat):Int) by omega,zL (show i-1<a.length by omega),getD_lt (show i-1<a.length by omega)]
   have e:decide ((i:Int)>0)=true:=by simp; omega
   have e2:decide (0<i)=true:=by simpa using h0
   rw [e,e2,zM (by omega)]
   simp only [Option.bind_some,Bool.true_and]
   cases inB a[i] 0 ((c.length:Int)-1)<;>cases decide (a[i]≤a[i-1])<;>rfl
  ·have e:decide ((i:Int)>0)=false:=by simp; omega
   have e2:decide (0<i)=false:=by simpa using h0
   rw [e,e2,zM (by omega)]
   cases inB a[i] 0 ((c.length:Int)-1)<;>rfl) (by
  unfold zDl
  rw [if_neg (by simp)])
 unfold zDG zDS zMT
 rw [key,zCV]
 have hf:∀(l:List Int) (i:Nat),wN (zMR c a) i l=none∨wN (zMR c a) i l=some false:=by
  intro l
  induction l with
  |nil=>intro i; exact .inl rfl
  |cons x l ih=>
   intro i
   simp only [wN]
   cases hg:zMR c a i x with
   |none=>exact ih (i+1)
   |some r=>
    unfold zMR at hg
    split at hg
    ·cases hg; exact .inr rfl
    ·cases hg
 rcases hf a 0 with h|h<;>rw [h]<;>rfl
def SF (c:List Pack) (a:List Int):Int:=if CF c !=0 then CF c else if zMT c a then 0 else 1
theorem zI4 {c:List Pack} {a:List Int} (hc:c.length≤1048576) (ha:a.length≤1048576):zAK c a=some (a.all (fun k=>inB k 0 ((c.length:Int)-1))):=by
 have key:=wD a (fun i k=>if !(inB k 0 ((c.length:Int)-1)) then some (i:Int) else none) (b:=yV a c) (by
  intro i hi
  unfold yV zAq
  rw [if_pos (by simp; omega),zL hi,yU (x:=(c.length:Int)-1) (by omega) (by omega)]
  simp only [Option.bind_some,zHU]
  rw [zM (by omega)]
  cases inB a[i] 0 ((c.length:Int)-1)<;>rfl) (by
  unfold yV
  rw [if_neg (by simp)])
 unfold zAK yD yO yZ
 rw [key,zCV]
 have e:a.all (fun k=>inB k 0 ((c.length:Int)-1))= !(a.any (fun k=> !(inB k 0 ((c.length:Int)-1)))):=by
  rw [List.all_eq_not_any_not]
 rw [e,←zE0 (zCL (fun k=> !(inB k 0 ((c.length:Int)-1))) a 0)]
 cases wN (fun i k=>if !(inB k 0 ((c.length:Int)-1)) then some (i:Int) else none) 0 a<;>rfl
def zOt (a:List Int) (i:Nat) (k:Int):Option Int:=if decide (k≤a.getD (i-1) 0) then some 1 else none
theorem zLE (c:List Pack) (a:List Int):zMT c a=((wN (zOt a) 1 (a.drop 1)).isNone &&a.all (fun k=>inB k 0 ((c.length:Int)-1))):=by
 unfold zMT
 rw [Bool.eq_iff_iff,Bool.and_eq_true,Option.isNone_iff_eq_none,Option.isNone_iff_eq_none,zE8,zE8,List.all_eq_true]
 constructor
 ·intro h
  constructor
  ·intro j hj
   have hj':1+j<a.length:=by simp at hj; omega
   have:=h (1+j) hj'
   unfold zMR at this
   unfold zOt
   rw [List.getElem_drop]
   split at this
   ·cases this
   ·rename_i hn
    rw [if_neg]
    intro hx
    apply hn
    rw [Nat.zero_add]
    rw [Bool.or_eq_true,Bool.and_eq_true]
    exact .inr ⟨by rw [decide_eq_true_eq]; omega,hx⟩
  ·intro k hk
   obtain ⟨i,hi,rfl⟩:=List.mem_iff_getElem.1 hk
   have:=h i hi
   unfold zMR at this
   split at this
   ·cases this
   ·rename_i hn
    simp only [Bool.or_eq_true,not_or] at hn
    simpa using hn.1
 ·rintro ⟨h1,h2⟩ j hj
  unfold zMR
  rw [if_neg]
  rw [Nat.zero_add,h2 _ (List.getElem_mem hj)]
  simp only [Bool.not_true,Bool.false_or,Bool.and_eq_true,not_and]
  intro h0 hx
  have h0':0<j:=by simpa using h0
  have hd:j-1< (a.drop 1).length :=by simp; omega
  have:=h1 (j-1) hd
  unfold zOt at this
  rw [List.getElem_drop] at this
  have ej:1+(j-1)=j:=by omega
  simp only [ej] at this
  rw [if_pos hx] at this
  cases this
theorem zJo {c:List Pack} {a:List Int} (hc:Cat c) (ha:a.length≤1048576):zB3 c a=some (SF c a):=by
 have hend:vU c a (a.length:Int)=some (.done (.nxt ())):=by
  unfold vU
  rw [if_neg (by simp)]
 have key:zAo c a 1=some (frs (wN (zOt a) 1 (a.drop 1))):=by
  unfold zAo
  rcases Nat.eq_zero_or_pos a.length with h0|h0
  ·have:a=[]:=List.eq_nil_of_length_eq_zero h0
   subst this
   rw [jR]
   unfold vU
   rw [if_neg (by simp)]
   rfl
  ·have hh:∀(k i:Nat),1≤i→i+k=a.length→loop (vU c a) (i:Int)=some (frs (wN (zOt a) i (a.drop i))):=by
    intro k
    induction k with
    |zero=>
     intro i h1 h
     have e:i=a.length:=by omega
     subst e
     rw [jR,hend,List.drop_length]
     rfl
    |succ k ih=>
     intro i h1 h
     have hi:i<a.length:=by omega
     have ih:=ih (i+1) (by omega) (by omega)
     rw [jR,List.drop_eq_getElem_cons hi]
     simp only [wN]
     have hb:vU c a (i:Int)=some (if decide (a[i]≤a[i-1]) then .done (.ret 1) else .go ((i+1:Nat):Int)):=by
      unfold vU
      rw [if_pos (by simp; omega),zL hi,yU (x:=(i:Int)-1) (by omega) (by omega),show (i:Int)-1=((i-1:Nat):Int) by omega,zL (show i-1<a.length by omega),zM (by omega)]
      simp only [Option.bind_some]
      cases decide (a[i]≤a[i-1])<;>rfl
     rw [hb]
     unfold zOt
     rw [getD_lt (show i-1<a.length by omega)]
     cases decide (a[i]≤a[i-1])
     ·exact ih
     ·rfl
   exact hh (a.length-1) 1 (by omega) (by omega)
 unfold zB3 SF
 rw [zFe c hc,key,zCV,zI4 hc.1 ha,zLE]
 simp only [Option.bind_some]
 have hf:∀(l:List Int) (i:Nat),wN (zOt a) i l=none∨wN (zOt a) i l=some 1:=by
  intro l
  induction l with
  |nil=>intro i; exact .inl rfl
  |cons x l ih=>
   intro i
   simp only [wN]
   cases hg:zOt a i x with
   |none=>exact ih (i+1)
   |some r=>
    unfold zOt at hg
    split at hg
    ·cases hg; exact .inr rfl
    ·cases hg
 rcases hf (a.drop 1) 1 with h|h<;>rw [h]<;>cases CF c !=0<;>cases a.all (fun k=>inB k 0 ((c.length:Int)-1))<;>rfl
theorem zNH {c:List Pack} {a:List Int} (h:(SF c a==0)=true):Places c a:=by
 unfold SF at h
 split at h
 ·rename_i h1
  rw [beq_iff_eq] at h
  rw [h] at h1
  simp at h1
 ·split at h
  ·rename_i h2
   rw [zLE,Bool.and_eq_true,List.all_eq_true] at h2
   intro k hk
   have:=h2.2 k hk
   unfold inB at this
   simp only [Bool.and_eq_true,decide_eq_true_eq] at this
   omega
  ·cases h
def zPI (t:Term) (v:Version):Bool:=decide (zIW v t.Low≥0)&&decide (zIW v t.High<0)
def zOb (t:Term) (n:ByteArray) (v:Version):Bool:=seq t.Name n&&zPI t v
theorem zLs (t:Term) (n:ByteArray) (v:Version):jS t n v=some (zOb t n v):=by
 unfold jS zOb zPI
 simp only [zCY,Option.bind_some]
 cases seq t.Name n<;>cases decide (zIW v t.Low≥0)<;>rfl
theorem zPf (t:Term) (n:ByteArray) (v:Version):zBz t n v=some (zOb t n v):=by
 unfold zBz zOb zPI
 simp only [zHt,Option.bind_some]
 have e:decide (zIW t.Low v≤0)=decide (zIW v t.Low≥0):=by
  rw [zNL v t.Low]
  rw [Bool.eq_iff_iff,decide_eq_true_eq,decide_eq_true_eq]
  omega
 rw [e]
 cases seq t.Name n<;>cases decide (zIW v t.Low≥0)<;>rfl
def zBW (p:Pack) (t:Term):Bool:=(seq t.Name p.Name||p.Provides.any (fun x=>seq x t.Name))&&zPI t p.Version
theorem zM3 (p:Pack) (t:Term) (h:p.Provides.length≤1048576):zC4 p t=some (zBW p t):=by
 unfold zC4 zBW
 simp only [zLs,Option.bind_some,zJf _ _ h,zOb,zO2,Bool.true_and]
 cases seq t.Name p.Name<;>cases p.Provides.any (fun x=>seq x t.Name)<;>rfl
theorem zJb (p:Pack) (t:Term) (h:p.Provides.length≤1048576):uL p t=some (zBW p t):=by
 unfold uL zBl
 rw [zDm (by simp; omega) (by simp; omega)]
 simp only [Option.bind_some]
 have key:=wD ([p.Name]++p.Provides) (fun i n=>if zOb t n p.Version then some (i:Int) else none) (b:=yJ ([p.Name]++p.Provides) t p) (by
  intro i hi
  have hi':i<p.Provides.length+1:=by simpa using hi
  unfold yJ jZ
  rw [if_pos (by rw [decide_eq_true_eq]; exact Int.ofNat_lt.2 hi),zL hi]
  simp only [Option.bind_some,zPf]
  rw [zM (by omega)]
  cases zOb t ([p.Name]++p.Provides)[i] p.Version<;>rfl) (by
  unfold yJ
  rw [if_neg (by simp)])
 unfold zW yC yQ
 rw [key,zCV]
 have e:zBW p t=([p.Name]++p.Provides).any (fun n=>zOb t n p.Version):=by
  unfold zBW zOb
  have:(fun n=>seq t.Name n&&zPI t p.Version)=(fun n=>seq n t.Name&&zPI t p.Version):=funext fun n=>by rw [zJy]
  rw [this,zJy t.Name p.Name]
  cases zPI t p.Version<;>simp
 rw [e,←zE0 (zCL (fun n=>zOb t n p.Version) ([p.Name]++p.Provides) 0)]
 cases wN (fun i n=>if zOb t n p.Version then some (i:Int) else none) 0 ([p.Name]++p.Provides)<;>rfl
theorem zJk (p:Pack) (l:List Term) (h:p.Provides.length≤1048576) (hl:l.length≤1048576):uH p l=some (l.any (zBW p)):=by
 have key:=wD l (fun i t=>if zBW p t then some (i:Int) else none) (b:=yP l p) (by
  intro i hi
  unfold yP
  rw [if_pos (by simp; omega),zL hi]
  simp only [Option.bind_some,zJb _ _ h]
  rw [zM (by omega)]
  cases zBW p l[i]<;>rfl) (by
  unfold yP
  rw [if_neg (by simp)])
 unfold uH yA yE yT
 rw [key,zCV,←zE0 (zCL (zBW p) l 0)]
 cases wN (fun i t=>if zBW p t then some (i:Int) else none) 0 l<;>rfl
def zFf (c:List Pack) (a:List Int) (t:Term) (x:Int):Bool:=a.any (fun k=>k !=x&&zBW (pat c k) t)
theorem zIN {c:List Pack} {a:List Int} (hc:Cat c) (hp:Places c a) (ha:a.length≤1048576) (t:Term) (x:Int):zAs c a t x=some (zFf c a t x):=by
 have key:=wD a (fun _ k=>if k !=x&&zBW (pat c k) t then some true else none) (b:=zBO c a t x) (by
  intro i hi
  have hk:=hp _ (List.getElem_mem hi)
  unfold zBO
  rw [if_pos (by simp; omega),zL hi]
  simp only [Option.bind_some]
  rw [(tZ hk).1]
  simp only [Option.bind_some]
  rw [zM3 _ _ (hc.zRD hk),zM (by omega)]
  cases a[i] !=x<;>cases zBW (pat c a[i]) t<;>rfl) (by
  unfold zBO
  rw [if_neg (by simp)])
 unfold zAs zCm zFf
 rw [key,zCV,←zG2 (fun k=>k !=x&&zBW (pat c k) t) a 0]
 cases wN (fun _ k=>if k !=x&&zBW (pat c k) t then some true else none) 0 a<;>rfl
theorem zMz {c:List Pack} {a:List Int} (hc:Cat c) (hp:Places c a) (ha:a.length≤1048576) (t:Term) (x:Int):zY a x c t=some (zFf c a t x):=by
 have key:=wD a (fun i k=>if k !=x&&zBW (pat c k) t then some (i:Int) else none) (b:=xJ a x c t) (by
  intro i hi
  have hk:=hp _ (List.getElem_mem hi)
  unfold xJ zCP
  rw [if_pos (by simp; omega),zL hi]
  simp only [Option.bind_some]
  rw [(tZ hk).1]
  simp only [Option.bind_some]
  rw [zJb _ _ (hc.zRD hk),zM (by omega)]
  cases a[i] !=x<;>cases zBW (pat c a[i]) t<;>rfl) (by
  unfold xJ
  rw [if_neg (by simp)])
 unfold zY xC xO zFf
 rw [key,zCV,←zE0 (zCL (fun k=>k !=x&&zBW (pat c k) t) a 0)]
 cases wN (fun i k=>if k !=x&&zBW (pat c k) t then some (i:Int) else none) 0 a<;>rfl
def zPr (c:List Pack) (a:List Int) (l:List Term):Bool:=a.any (fun k=>l.any (zBW (pat c k)))
theorem zON {c:List Pack} {a:List Int} (hc:Cat c) (hp:Places c a) (ha:a.length≤1048576) (l:List Term) (hl:l.length≤1048576):zDZ c a l=some (zPr c a l):=by
 have key:=wD l (fun _ t=>if zFf c a t (-1) then some true else none) (b:=zDe c a l) (by
  intro i hi
  unfold zDe
  rw [if_pos (by simp; omega),zL hi]
  simp only [Option.bind_some,zIN hc hp ha]
  rw [zM (by omega)]
  cases zFf c a l[i] (-1)<;>rfl) (by
  unfold zDe
  rw [if_neg (by simp)])
 unfold zDZ zDN
 rw [key,zCV]
 have e:zPr c a l=l.any (fun t=>zFf c a t (-1)):=by
  unfold zPr zFf
  rw [Bool.eq_iff_iff]
  simp only [List.any_eq_true,Bool.and_eq_true,bne_iff_ne]
  constructor
  ·rintro ⟨k,hk,t,ht,hg⟩
   exact ⟨t,ht,k,hk,by have:=(hp k hk).1; omega,hg⟩
  ·rintro ⟨t,ht,k,hk,_,hg⟩
   exact ⟨k,hk,t,ht,hg⟩
 rw [e,←zG2 (fun t=>zFf c a t (-1)) l 0]
 cases wN (fun _ t=>if zFf c a t (-1) then some true else none) 0 l<;>rfl
theorem zOW {c:List Pack} {a:List Int} (hc:Cat c) (hp:Places c a) (ha:a.length≤1048576) (l:List Term) (hl:l.length≤1048576):zX a c l=some (zPr c a l):=by
 have key:=wD a (fun i k=>if l.any (zBW (pat c k)) then some (i:Int) else none) (b:=xH a c l) (by
  intro i hi
  have hk:=hp _ (List.getElem_mem hi)
  unfold xH zCO
  rw [if_pos (by simp; omega),zL hi]
  simp only [Option.bind_some]
  rw [(tZ hk).1]
  simp only [Option.bind_some]
  rw [zJk _ _ (hc.zRD hk) hl,zM (by omega)]
  cases l.any (zBW (pat c a[i]))<;>rfl) (by
  unfold xH
  rw [if_neg (by simp)])
 unfold zX xB xM zPr
 rw [key,zCV,←zE0 (zCL (fun k=>l.any (zBW (pat c k))) a 0)]
 cases wN (fun i k=>if l.any (zBW (pat c k)) then some (i:Int) else none) 0 a<;>rfl
theorem zIJ {α T:Type} (xs:List α) (g:Nat→α→Option T) (e:T) {b:Int→Option (Lp Int T)}
  (hstep:∀(i:Nat) (hi:i<xs.length),b (i:Int)=some (match g i xs[i] with|some r=>.done r|none=>.go ((i+1:Nat):Int))) (hend:b (xs.length:Int)=some (.done e)):
  ∀(k i:Nat),i+k=xs.length→loop b (i:Int)=some ((wN g i (xs.drop i)).getD e)
 |0,i,h=>by
  have e:i=xs.length:=by omega
  subst e
  rw [jR,hend,List.drop_length]
  rfl
 |k+1,i,h=>by
  have hi:i<xs.length:=by omega
  have ih:=zIJ xs g e hstep hend k (i+1) (by omega)
  rw [jR,hstep i hi,List.drop_eq_getElem_cons hi]
  simp only [wN]
  cases g i xs[i] with
  |some r=>rfl
  |none=>exact ih
def fN (c:List Pack) (a:List Int) (k:Int) (j:Nat) (l:List zQ) (x:List Term):List zQ:=if !(zPr c a x) then l++[{Kind:=2,Pack:=k,At:=(j:Int)}] else l
def fB (c:List Pack) (a:List Int) (k:Int) (j:Nat) (l:List zQ) (t:Term):List zQ:=if zFf c a t k then l++[{Kind:=3,Pack:=k,At:=(j:Int)}] else l
def fD (c:List Pack) (a:List Int) (i:Nat) (k:Int) (l:List zQ):List zQ:=if (a.take i).any (fun o=>seq (pat c o).Name (pat c k).Name) then l++[{Kind:=1,Pack:=k,At:=0}] else l
def fS (c:List Pack) (a:List Int) (i:Nat) (l:List zQ) (k:Int):List zQ:=foldI (fB c a k) 0 (pat c k).Bars (foldI (fN c a k) 0 (pat c k).Needs (fD c a i k l))
def zGp (c:List Pack) (a:List Int):List zQ:=foldI (fS c a) 0 a []
theorem zQE (c:List Pack) (a:List Int) (k:Int) (j:Nat) (l:List zQ) (x:List Term):(fN c a k j l x).length ≤l.length+1:=by unfold fN; split<;>simp
theorem zQ8 (c:List Pack) (a:List Int) (k:Int) (j:Nat) (l:List zQ) (t:Term):(fB c a k j l t).length ≤l.length+1:=by unfold fB; split<;>simp
theorem zPj (c:List Pack) (a:List Int) (i:Nat) (k:Int) (l:List zQ):(fD c a i k l).length ≤l.length+1:=by unfold fD; split<;>simp
theorem zJa {c:List Pack} {a:List Int} (k:Int) (ns:List (List Term)) (hn:ns.length≤1048576) (n0:Nat) (h0:n0≤5497560000000) {b:(List zQ×Int)→Option (Lp (List zQ×Int) (List zQ))}
  (hstep:∀(j:Nat) (l:List zQ) (hj:j<ns.length),b (l,(j:Int))=(if !(zPr c a ns[j]) then (app 24 l [{Kind:=2,Pack:=k,At:=(j:Int)}]) else some l).bind fun v=>some (Lp.go (v,w64 ((j:Int)+1)))) (hend:∀l,b (l,(ns.length:Int))=some (.done l)) (l:List zQ) (hl:l.length≤n0):
  loop b (l,0)=some (foldI (fN c a k) 0 ns l)∧(foldI (fN c a k) 0 ns l).length ≤n0+ns.length:=by
 have key:=zBR ns (fN c a k) (fun j l=>l.length≤n0+j) (b:=b) (by
  intro j l hj hI
  refine ⟨?_,by have:=zQE c a k j l ns[j]; omega⟩
  rw [hstep j l hj,zM (by omega),zDm (by simp; omega) (by simp; omega)]
  unfold fN
  cases zPr c a ns[j]<;>rfl) hend ns.length 0 l (by omega) (by simpa using hl)
 simpa using key
theorem zKA {c:List Pack} {a:List Int} (k:Int) (ts:List Term) (hn:ts.length≤1048576) (n0:Nat) (h0:n0≤5497560000000) {b:(List zQ×Int)→Option (Lp (List zQ×Int) (List zQ))}
  (hstep:∀(j:Nat) (l:List zQ) (hj:j<ts.length),b (l,(j:Int))=(if zFf c a ts[j] k then (app 24 l [{Kind:=3,Pack:=k,At:=(j:Int)}]) else some l).bind fun v=>some (Lp.go (v,w64 ((j:Int)+1)))) (hend:∀l,b (l,(ts.length:Int))=some (.done l)) (l:List zQ) (hl:l.length≤n0):
  loop b (l,0)=some (foldI (fB c a k) 0 ts l)∧(foldI (fB c a k) 0 ts l).length ≤n0+ts.length:=by
 have key:=zBR ts (fB c a k) (fun j l=>l.length≤n0+j) (b:=b) (by
  intro j l hj hI
  refine ⟨?_,by have:=zQ8 c a k j l ts[j]; omega⟩
  rw [hstep j l hj,zM (by omega),zDm (by simp; omega) (by simp; omega)]
  unfold fB
  cases zFf c a ts[j] k<;>rfl) hend ts.length 0 l (by omega) (by simpa using hl)
 simpa using key
theorem zJM {α:Type} (o:Option α):o.bind (fun x=>some x)=o:=by cases o<;>rfl
def zEx (i:Nat):Nat:=i*2097153
theorem zL6 {c:List Pack} {a:List Int} (hc:Cat c) (hp:Places c a) (ha:a.length≤1048576):zB5 c a=some (zGp c a):=by
 have key:=zBR a (fS c a) (fun i l=>l.length≤zEx i) (b:=zBg c a) (by
  intro i l hi hI
  have hk:=hp _ (List.getElem_mem hi)
  have hb:zEx i≤2199022206976:=by unfold zEx; omega
  have hb1:zEx (i+1)=zEx i+2097153:=by unfold zEx; omega
  have hN:=hc.needs hk
  have hB:=hc.bars hk
  have k1:=zIJ (a.take i) (fun _ o=>if seq (pat c o).Name (pat c a[i]).Name then some (l++[({Kind:=1,Pack:=a[i],At:=0}:zQ)]) else none) l (b:=zBb c a (l,(i:Int)) (pat c a[i])) (by
   intro j hj
   have hj':j<i:=by simp at hj; omega
   have hja:j<a.length:=by omega
   have hkj:=hp _ (List.getElem_mem hja)
   unfold zBb
   rw [if_pos (by simp; omega),zL hja]
   simp only [Option.bind_some]
   rw [(tZ hkj).1,zL hi]
   simp only [Option.bind_some]
   rw [zM (by omega),zDm (by simp; omega) (by simp; omega),List.getElem_take]
   cases seq (pat c a[j]).Name (pat c a[i]).Name <;>rfl) (by
   have:(a.take i).length =i:=by simp; omega
   rw [this]
   unfold zBb
   rw [if_neg (by simp)]) (a.take i).length 0 (by omega)
  rw [List.drop_zero,zHd] at k1
  have e1:zAj c a (l,(i:Int)) (pat c a[i]) 0=some (fD c a i a[i] l):=by
   unfold zAj fD
   rw [show ((0:Nat):Int)=0 from rfl] at k1
   rw [k1]
   cases (a.take i).any (fun o=>seq (pat c o).Name (pat c a[i]).Name)<;>rfl
  have hd:=zPj c a i a[i] l
  obtain ⟨e2,l2⟩:=zJa (c:=c) (a:=a) a[i] (pat c a[i]).Needs hN (zEx i+1) (by omega) (b:=zBa c a (l,(i:Int)) (pat c a[i])) (by
   intro j l hj
   unfold zBa
   rw [if_pos (by simp; omega),zL hj]
   simp only [Option.bind_some]
   rw [zON hc hp ha _ (hc.clause hk (List.getElem_mem hj)),zL hi]
   simp only [Option.bind_some,zJM]) (by
   intro l
   unfold zBa
   rw [if_neg (by simp)]) (fD c a i a[i] l) (by omega)
  obtain ⟨e3,l3⟩:=zKA (c:=c) (a:=a) a[i] (pat c a[i]).Bars hB (zEx i+1+1048576) (by omega) (b:=zAZ c a (l,(i:Int)) (pat c a[i])) (by
   intro j l hj
   unfold zAZ
   rw [if_pos (by simp; omega),zL hj,zL hi]
   simp only [Option.bind_some,zIN hc hp ha,zJM]) (by
   intro l
   unfold zAZ
   rw [if_neg (by simp)]) _ (Nat.le_trans l2 (by omega))
  refine ⟨?_,by show (fS c a i l a[i]).length ≤_; unfold fS; omega⟩
  unfold zBg
  rw [if_pos (by simp; omega),zL hi]
  simp only [Option.bind_some]
  rw [(tZ hk).1]
  simp only [Option.bind_some]
  rw [e1]
  simp only [Option.bind_some]
  unfold zB7 zBD
  rw [e2]
  simp only [Option.bind_some]
  rw [e3,zM (by omega)]
  rfl) (by
  intro l
  unfold zBg
  rw [if_neg (by simp)]) a.length 0 [] (by omega) (by simp)
 unfold zB5 zBL zGp
 have k:=key.1
 rw [show ((0:Nat):Int)=0 from rfl,List.drop_zero] at k
 rw [k]
 rfl
theorem zLY (q:Int→Bool):∀(xs:List Int) (i:Nat),(∀k∈xs,0≤k)→(((wN (fun _ k=>if q k then some k else none) i xs).getD (-1)≥0)↔xs.any q=true)
 |[],i,_=>by simp [wN]
 |x::xs,i,h=>by
  simp only [wN]
  cases hq:q x
  ·simp only [Bool.false_eq_true,if_false,List.any_cons,hq,Bool.false_or]
   exact zLY q xs (i+1) (fun k hk=>h k (by simp [hk]))
  ·have:=h x (by simp)
   simp [hq]
   omega
theorem zM9 {c:List Pack} {a:List Int} (hp:Places c a) (ha:a.length≤1048576) (n:ByteArray):∃k,zEh c a n=some k∧decide (k≥0)=a.any (fun o=>seq (pat c o).Name n):=by
 have key:=wD a (fun _ k=>if seq (pat c k).Name n then some k else none) (b:=zCZ c a n) (by
  intro i hi
  have hk:=hp _ (List.getElem_mem hi)
  unfold zCZ
  rw [if_pos (by simp; omega),zL hi]
  simp only [Option.bind_some]
  rw [(tZ hk).1]
  simp only [Option.bind_some]
  rw [zM (by omega)]
  cases seq (pat c a[i]).Name n<;>rfl) (by
  unfold zCZ
  rw [if_neg (by simp)])
 refine ⟨_,?_,zE0 (zLY (fun o=>seq (pat c o).Name n) a 0 (fun k hk=>(hp k hk).1))⟩
 unfold zEh zDO
 rw [key,zCV]
 cases wN (fun _ k=>if seq (pat c k).Name n then some k else none) 0 a<;>rfl
theorem zLb {c:List Pack} {a:List Int} (hc:Cat c) (hp:Places c a) (ha:a.length≤1048576):zD9 c a=some (zGp c a):=by
 have key:=zBR a (fS c a) (fun i l=>l.length≤zEx i) (b:=zC5 c a) (by
  intro i l hi hI
  have hk:=hp _ (List.getElem_mem hi)
  have hb:zEx i≤2199022206976:=by unfold zEx; omega
  have hb1:zEx (i+1)=zEx i+2097153:=by unfold zEx; omega
  have hN:=hc.needs hk
  have hB:=hc.bars hk
  obtain ⟨kk,e0,hkk⟩:=zM9 (c:=c) (a:=a.take i) (fun k hk=>hp k (List.mem_of_mem_take hk)) (by simp; omega) (pat c a[i]).Name
  have hd:=zPj c a i a[i] l
  obtain ⟨e2,l2⟩:=zJa (c:=c) (a:=a) a[i] (pat c a[i]).Needs hN (zEx i+1) (by omega) (b:=zC9 c a (l,(i:Int)) a[i] (pat c a[i])) (by
   intro j l hj
   unfold zC9
   rw [if_pos (by simp; omega),zL hj]
   simp only [Option.bind_some]
   rw [zOW hc hp ha _ (hc.clause hk (List.getElem_mem hj))]
   simp only [Option.bind_some,zJM]) (by
   intro l
   unfold zC9
   rw [if_neg (by simp)]) (fD c a i a[i] l) (by omega)
  obtain ⟨e3,l3⟩:=zKA (c:=c) (a:=a) a[i] (pat c a[i]).Bars hB (zEx i+1+1048576) (by omega) (b:=zCF c a (l,(i:Int)) a[i] (pat c a[i])) (by
   intro j l hj
   unfold zCF
   rw [if_pos (by simp; omega),zL hj]
   simp only [Option.bind_some,zMz hc hp ha,zJM]) (by
   intro l
   unfold zCF
   rw [if_neg (by simp)]) _ (Nat.le_trans l2 (by omega))
  refine ⟨?_,by show (fS c a i l a[i]).length ≤_; unfold fS; omega⟩
  unfold zC5
  rw [if_pos (by simp; omega),zL hi]
  simp only [Option.bind_some]
  rw [(tZ hk).1,zG1 (by omega)]
  simp only [Option.bind_some]
  rw [e0]
  simp only [Option.bind_some]
  rw [hkk,zDm (by simp; omega) (by simp; omega)]
  simp only [Option.bind_some]
  have ed:(if (a.take i).any (fun o=>seq (pat c o).Name (pat c a[i]).Name)=true then some (l++[({Kind:=1,Pack:=a[i],At:=0}:zQ)]) else some l)=some (fD c a i a[i] l):=by
   unfold fD
   cases (a.take i).any (fun o=>seq (pat c o).Name (pat c a[i]).Name)<;>rfl
  rw [ed]
  simp only [Option.bind_some]
  unfold zDc zDb
  rw [e2]
  simp only [Option.bind_some]
  rw [e3,zM (by omega)]
  rfl) (by
  intro l
  unfold zC5
  rw [if_neg (by simp)]) a.length 0 [] (by omega) (by simp)
 unfold zD9 zDa zGp
 have k:=key.1
 rw [show ((0:Nat):Int)=0 from rfl,List.drop_zero] at k
 rw [k]
 rfl
def zRA (c:List Pack) (a:List Int):Bool:=(SF c a==0)&&((zGp c a).length :Int)==0
theorem zIg {c:List Pack} {a:List Int} (hc:Cat c) (ha:a.length≤1048576) (h:(SF c a==0)=true):kI c a=some (zRA c a):=by
 unfold kI zRA
 rw [zLb hc (zNH h) ha,h]
 simp
theorem zNp {p:Pack} (h:PF p=0):NF p.Name=0∧VF p.Version=0∧inB p.Size 1 200=true:=by
 unfold PF at h
 split at h
 ·rename_i h1; simp [h] at h1
 rename_i h1
 split at h
 ·rename_i h2; simp [h] at h2
 rename_i h2
 split at h
 ·cases h
 rename_i h3
 exact ⟨by simpa using h1,by simpa using h2,by simpa using h3⟩
def zD2 (p:Pack):ByteArray:=bs [112,107,103,47]++(p.Name++(bs [45]++zO9 p.Version))
theorem zMh {p:Pack} (h1:NF p.Name=0) (h2:VF p.Version=0):(zD2 p).size ≤28:=by
 have a1:=zFr h1
 have a2:=zFk h2
 have b1:(bs [112,107,103,47]).size =4:=rfl
 have b2:(bs [45]).size =1:=rfl
 unfold zD2
 simp only [zAX]
 omega
theorem zFz {p:Pack} (h1:NF p.Name=0) (h2:VF p.Version=0):uX p=some (zD2 p):=by
 have a1:=zFr h1
 have a2:=zFk h2
 have b1:(bs [112,107,103,47]).size =4:=rfl
 have b2:(bs [45]).size =1:=rfl
 unfold uX zD2
 rw [zEJ h2,zCj (by omega)]
 simp only [Option.bind_some]
 rw [zCj (by rw [zAX]; omega)]
 simp only [Option.bind_some]
 rw [zCj (by simp only [zAX]; omega)]
 simp only [Option.bind_some,zG6]
theorem zK0 {p:Pack} (h1:NF p.Name=0) (h2:VF p.Version=0):tK p=some (zD2 p):=by
 have a1:=zFr h1
 have a2:=zFk h2
 have b1:(bs [112,107,103,47]).size =4:=rfl
 have b2:(bs [45]).size =1:=rfl
 unfold tK zD2
 rw [zJS h2,zCj (by omega)]
 simp only [Option.bind_some]
 rw [zCj (by rw [zAX]; omega)]
 simp only [Option.bind_some]
 rw [zCj (by simp only [zAX]; omega)]
 simp only [Option.bind_some,zG6]
theorem zLW:∀(k n:Nat),n<10^(k+1)→zF2 (10^(k+1)+n)=49::(List.replicate (k+1-(zF2 n).length) 48++zF2 n)
 |0,n,h=>by
  have h':n<10:=by simpa using h
  rw [zEi (by simp),show (10^(0+1)+n) / 10=1 by simp; omega,show (10^(0+1)+n)%10=n by simp; omega,zAi (n:=1) (by omega),zAi h']
  rfl
 |k+1,n,h=>by
  have hp:1≤10^k:=Nat.one_le_pow _ _ (by omega)
  have e1:10^(k+1+1)=10*10^(k+1):=by rw [Nat.pow_succ]; omega
  rw [e1] at h
  have hq:n / 10<10^(k+1):=by omega
  have ih:=zLW k (n / 10) hq
  have hl:=zIk k (n / 10) hq
  rw [e1,zEi (by omega),show (10*10^(k+1)+n) / 10=10^(k+1)+n / 10 by omega,show (10*10^(k+1)+n)%10=n%10 by omega,ih]
  by_cases hn:n<10
  ·rw [show n / 10=0 by omega,zAi (n:=0) (by omega),zAi hn,show n%10=n by omega]
   simp only [List.length_singleton,List.cons_append,List.append_assoc,List.nil_append]
   rw [show k+1+1-1=k+1 by omega,show k+1-1=k by omega]
   rw [show List.replicate (k+1) (48:Int)=List.replicate k 48++[48] from List.replicate_succ']
   simp
  ·rw [zEi hn,List.length_append]
   simp only [List.length_singleton,List.cons_append,List.append_assoc]
   rw [show k+1+1-((zF2 (n / 10)).length +1)=k+1-(zF2 (n / 10)).length by omega]
theorem zQT (l:List UInt8):bl ⟨l.toArray⟩=l.map (fun b=>(b.toNat:Int)):=by
 unfold bl
 rw [ByteArray.toList_eq]
theorem zIY (u:UInt8):∀(n:Nat),Lib.repeatL [u] n=List.replicate n u
 |0=>rfl
 |n+1=>by rw [Lib.repeatL,zIY u n,List.replicate_succ]; rfl
def zMV (n:Int):List Int:=[103,101,110,47]++(List.replicate (6-(zF2 n.toNat).length) 48++zF2 n.toNat)
theorem zJW (l:List UInt8):(bs l).data.toList =l:=rfl
def zJQ (n:Int):ByteArray:=bs [103,101,110,47]++(⟨(List.replicate (6-(zF2 n.toNat).length) (48:UInt8)).toArray⟩++zF3 n.toNat)
theorem zIn (n:Int):bl (zJQ n)=zMV n:=by
 unfold zJQ zMV
 rw [zDK,zDK,zK8,zQT,zEw,List.map_replicate]
 rfl
theorem zFn {n:Nat} (h:n≤999999):1≤(zF2 n).length ∧(zF2 n).length ≤6:=by
 refine ⟨?_,zIk 5 n (by omega)⟩
 by_cases hn:n<10
 ·rw [zAi hn]; simp
 ·rw [zEi hn,List.length_append]; simp
theorem zKq {n:Int} (h:n≤999999):(zJQ n).size =10:=by
 rw [←xI,zIn]
 unfold zMV
 have:=zFn (n:=n.toNat) (by omega)
 simp
 omega
theorem zPF {s:ByteArray} {l h:Nat} (h1:l≤h) (h2:h≤s.size):zJR s (l:Int) (h:Int)=some (s.extract l h):=by
 unfold zJR
 rw [if_pos (by omega)]
 rfl
theorem zKi {n:Int} (h0:0≤n) (h1:n≤999999):zCz n=some (zJQ n):=by
 have hd:=zFn (n:=n.toNat) (by omega)
 have hs:(zF3 n.toNat).size =(zF2 n.toNat).length :=by rw [←xI,zEw]
 have hf:=zFB n.toNat (by omega)
 rw [Int.toNat_of_nonneg h0] at hf
 have h4:(bs [103,101,110,47]).size =4:=rfl
 unfold zCz zAf
 rw [hf]
 simp only [Option.bind_some]
 rw [hs,yU (by omega) (by omega)]
 unfold strings_Repeat
 rw [if_pos ⟨by omega,by omega,by rw [show (bs [48]).size =1 from rfl]; omega⟩,zJW,zIY]
 simp only [Option.bind_some]
 have hr:(⟨(List.replicate (6-((zF2 n.toNat).length :Int)).toNat (48:UInt8)).toArray⟩:ByteArray).size =6-(zF2 n.toNat).length :=by
  rw [←xI,zQT]
  simp
 rw [zCj (by rw [hr]; omega)]
 simp only [Option.bind_some]
 rw [zCj (by rw [zAX,hr]; omega)]
 unfold zJQ
 rw [show (6-((zF2 n.toNat).length :Int)).toNat =6-(zF2 n.toNat).length by omega]
 simp only [Option.bind_some,zG6]
theorem zKz (n:Int):tY n=some (if inB n 1 999999 then zJQ n else bs []):=by
 unfold tY
 rw [zJ6]
 simp only [Option.bind_some]
 cases h:inB n 1 999999
 ·rfl
 have h':1≤n∧n≤999999:=by simpa [inB] using h
 rw [if_neg (by simp),yU (by omega) (by omega)]
 have e:=zHo (1000000+n.toNat) (by omega)
 rw [show ((1000000+n.toNat:Nat):Int)=1000000+n by omega] at e
 rw [e]
 simp only [Option.bind_some]
 have hp:=zLW 5 n.toNat (by omega)
 rw [show 10^(5+1)+n.toNat=1000000+n.toNat by omega] at hp
 have hd:=zFn (n:=n.toNat) (by omega)
 have hz:(zF3 (1000000+n.toNat)).size =7:=by
  rw [←xI,zEw,hp]
  simp
  omega
 have e2:=zPF (s:=zF3 (1000000+n.toNat)) (l:=1) (h:=(zF3 (1000000+n.toNat)).size) (by omega) (Nat.le_refl _)
 rw [show ((1:Nat):Int)=1 from rfl] at e2
 rw [e2]
 simp only [Option.bind_some]
 have hx:((zF3 (1000000+n.toNat)).extract 1 (zF3 (1000000+n.toNat)).size).size =6:=by
  rw [←xI,zEb,zEw,hp,hz]
  simp
  omega
 rw [zCj (by rw [hx]; decide)]
 simp only [Option.bind_some,if_true]
 congr 1
 refine zJY.1 ?_
 rw [zDK,zEb,zEw,hp,zIn,zK8,hz]
 unfold zMV
 rw [List.take_of_length_le (by simp; omega)]
 rfl
theorem zNq {α:Type} {g:Nat→α→Option Int} (hg:∀i x,g i x≠some 0):∀(l:List α) (i:Nat),(wN g i l).getD 0=0→wN g i l=none
 |[],_,_=>rfl
 |x::l,i,h=>by
  simp only [wN] at h ⊢
  cases hx:g i x with
  |none=>rw [hx] at h; exact zNq hg l (i+1) h
  |some r=>
   rw [hx] at h
   simp only [Option.getD_some] at h
   subst h
   exact absurd hx (hg i x)
theorem zHf {c:List Pack} (h:CF c=0):c.length≤24∧(∀p∈c,PF p=0)∧∀(j:Nat) (hj:j<c.length),(c.take j).any (isB c[j].Name c[j].Version)=false:=by
 unfold CF at h
 split at h
 ·cases h
 rename_i h1
 have h2:=zNq (g:=zOw c) (fun i x=>by
  unfold zOw
  split
  ·rename_i h3
   intro e
   rw [Option.some.inj e] at h3
   simp at h3
  ·split<;>simp) c 0 h
 rw [zE8] at h2
 have h3:∀(j:Nat) (hj:j<c.length),PF c[j]=0∧(c.take j).any (isB c[j].Name c[j].Version)=false:=by
  intro j hj
  have:=h2 j hj
  unfold zOw at this
  rw [Nat.zero_add] at this
  split at this
  ·cases this
  ·rename_i h4
   split at this
   ·cases this
   ·rename_i h5
    exact ⟨by simpa using h4,by simpa using h5⟩
 refine ⟨by simp at h1; omega,fun p hp=>?_,fun j hj=>(h3 j hj).2⟩
 obtain ⟨j,hj,rfl⟩:=List.getElem_of_mem hp
 exact (h3 j hj).1
theorem zNm {a:List Int} (h:∀i,(hi:i+1<a.length)→a[i]<a[i+1]):a.Pairwise (· < ·):=by
 rw [List.pairwise_iff_getElem]
 intro i j hi hj hij
 obtain ⟨d,rfl⟩:∃d,j=i+1+d:=⟨j-i-1,by omega⟩
 clear hij
 induction d with
 |zero=>exact h i (by omega)
 |succ d ih=>
  have h1:=ih (by omega)
  have h2:=h (i+1+d) (by omega)
  show a[i]<a[i+1+d+1]
  omega
theorem zGw:∀{a:List Int} {lo hi:Int},a.Pairwise (· < ·)→(∀k∈a,lo≤k∧k<hi)→(a.length:Int)≤hi-lo∨a=[]
 |[],_,_,_,_=>.inr rfl
 |x::a,lo,hi,hp,hb=>by
  obtain ⟨h1,h2⟩:=List.pairwise_cons.1 hp
  have hx:=hb x (by simp)
  have:=zGw (lo:=x+1) (hi:=hi) h2 (fun k hk=>⟨by have:=h1 k hk; omega,(hb k (by simp [hk])).2⟩)
  refine .inl ?_
  rcases this with h3|h3
  ·simp only [List.length_cons]; omega
  ·subst h3; simp; omega
theorem zEX {c:List Pack} {a:List Int}:zMT c a=true↔a.Pairwise (· < ·)∧Places c a:=by
 unfold zMT
 rw [Option.isNone_iff_eq_none,zE8]
 constructor
 ·intro h
  have h1:∀(j:Nat) (hj:j<a.length),inB a[j] 0 ((c.length:Int)-1)=true∧(0<j→¬a[j]≤a.getD (j-1) 0):=by
   intro j hj
   have:=h j hj
   unfold zMR at this
   rw [Nat.zero_add] at this
   split at this
   ·cases this
   ·rename_i h2
    simp only [Bool.or_eq_true,Bool.not_eq_true',Bool.and_eq_true,decide_eq_true_eq,not_or,not_and,Bool.not_eq_false] at h2
    exact h2
  refine ⟨zNm fun i hi=>?_,fun k hk=>?_⟩
  ·have:=(h1 (i+1) hi).2 (by omega)
   rw [show i+1-1=i by omega,getD_lt (by omega)] at this
   omega
  ·obtain ⟨j,hj,rfl⟩:=List.getElem_of_mem hk
   have:=(h1 j hj).1
   unfold inB at this
   simp only [Bool.and_eq_true,decide_eq_true_eq] at this
   omega
 ·rintro ⟨h1,h2⟩ j hj
  unfold zMR
  rw [Nat.zero_add]
  have hk:=h2 a[j] (List.getElem_mem hj)
  rw [if_neg]
  simp only [Bool.or_eq_true,Bool.not_eq_true',Bool.and_eq_true,decide_eq_true_eq,not_or,not_and,Bool.not_eq_false]
  refine ⟨by unfold inB; simp; omega,fun h0=>?_⟩
  rw [getD_lt (by omega)]
  have:=(List.pairwise_iff_getElem.1 h1) (j-1) j (by omega) hj (by omega)
  omega
def zJn (p:Pack):ByteArray:=p.Name++(bs [32]++(zO9 p.Version++bs [10]))
def zLt (c:List Pack) (k:Int):ByteArray:=zJn (pat c k)
def zIZ (c:List Pack) (a:List Int):ByteArray:=zN1 (zLt c) (bs []) a
theorem zG8 {p:Pack} (h1:NF p.Name=0) (h2:VF p.Version=0):(zJn p).size ≤25:=by
 have a1:=zFr h1
 have a2:=zFk h2
 have b1:(bs [32]).size =1:=rfl
 have b2:(bs [10]).size =1:=rfl
 unfold zJn
 simp only [zAX]
 omega
def Pks (c:List Pack):Prop:=∀p∈c,NF p.Name=0∧VF p.Version=0
theorem zKo {c:List Pack} (h:CF c=0):Pks c:=fun p hp=>by
 obtain ⟨h1,h2,_⟩:=zNp ((zHf h).2.1 p hp)
 exact ⟨h1,h2⟩
theorem zFo {c:List Pack} {a:List Int} (hc:Pks c) (hp:Places c a) (ha:a.length≤1048576):kR c a=some (zIZ c a)∧(zIZ c a).size ≤a.length*25:=by
 have hk:∀k∈a,NF (pat c k).Name =0∧VF (pat c k).Version =0:=fun k hk=>hc _ (tZ (hp k hk)).2
 have hz:(bs []).size =0:=rfl
 have key:=zK3 a (zLt c) 25 (fun k hk2=>zG8 (hk k hk2).1 (hk k hk2).2) (b:=zC1 c a) (bs []) (fun i x hi hx=>by
  have hm:=List.getElem_mem hi
  obtain ⟨e1,_⟩:=tZ (hp _ hm)
  obtain ⟨h1,h2⟩:=hk _ hm
  have a1:=zFr h1
  have a2:=zFk h2
  have b1:(bs [32]).size =1:=rfl
  have b2:(bs [10]).size =1:=rfl
  unfold zC1
  rw [if_pos (by simp; omega),zL hi]
  simp only [Option.bind_some,e1]
  rw [zCj (by omega)]
  simp only [Option.bind_some]
  rw [zCj (by simp only [zAX]; omega)]
  simp only [Option.bind_some,zEJ h2]
  rw [zCj (by simp only [zAX]; omega)]
  simp only [Option.bind_some]
  rw [zCj (by simp only [zAX]; omega),zM (by omega)]
  simp only [Option.bind_some,zG6]
  rfl) (fun x=>by
  unfold zC1
  rw [if_neg (by simp)])
 unfold kR zDi
 rw [key.1]
 refine ⟨rfl,?_⟩
 have:=key.2
 unfold zIZ
 omega
theorem zKt {a b:ByteArray} (h:a.size+b.size≤1000000):zD8 [a,b]=some (a++(bs [32]++b)):=by
 unfold zD8 strings_Join
 have e:Lib.join ([a,b].map (·.data.toList)) (bs [32]).data.toList =a.data.toList++([32]++b.data.toList):=by
  simp only [List.map_cons,List.map_nil,Lib.join_cons,Lib.joinTail,zJW]
  simp
 rw [e,if_pos ⟨by simp,by
  have h1:a.data.toList.length=a.size:=rfl
  have h2:b.data.toList.length=b.size:=rfl
  simp only [List.length_append,h1,h2]
  simp only [List.length_cons,List.length_nil]
  omega⟩]
 simp only [Option.bind_some]
 congr 1
theorem zKI {c:List Pack} {a:List Int} (hc:Pks c) (hp:Places c a) (ha:a.length≤1048576):zCD c a=some (zIZ c a):=by
 have hk:∀k∈a,NF (pat c k).Name =0∧VF (pat c k).Version =0:=fun k hk=>hc _ (tZ (hp k hk)).2
 have hz:(bs []).size =0:=rfl
 have key:=zK3 a (zLt c) 25 (fun k hk2=>zG8 (hk k hk2).1 (hk k hk2).2) (b:=zBJ c a) (bs []) (fun i x hi hx=>by
  have hm:=List.getElem_mem hi
  obtain ⟨e1,_⟩:=tZ (hp _ hm)
  obtain ⟨h1,h2⟩:=hk _ hm
  have a1:=zFr h1
  have a2:=zFk h2
  have b1:(bs [32]).size =1:=rfl
  have b2:(bs [10]).size =1:=rfl
  unfold zBJ
  rw [if_pos (by simp; omega),zL hi]
  simp only [Option.bind_some,e1,zJS h2]
  rw [zKt (by omega)]
  simp only [Option.bind_some]
  rw [zCj (by simp only [zAX]; omega)]
  simp only [Option.bind_some]
  rw [zCj (by simp only [zAX]; omega),zM (by omega)]
  simp only [Option.bind_some,zG6]
  rfl) (fun x=>by
  unfold zBJ
  rw [if_neg (by simp)])
 unfold zCD zCa
 rw [key.1]
 rfl
theorem u8w (x:Int):IntKind.u8.wrap x=x%256:=by
 simp only [IntKind.wrap,IntKind.signed,IntKind.bits]
 simp
def zCX (p:Pack):Int:=p.Version.A+p.Version.B+p.Version.C+(bl p.Name).foldl (· + ·) 0
def zMW (b0:Int):Nat→Int
 |0=>b0
 |i+1=>(31*zMW b0 i+7)%256
def zG9 (p:Pack):List Int:=(List.range p.Size.toNat).map (zMW (zCX p%256))
theorem zIR {b0:Int} (h:0≤b0∧b0<256):∀i,0≤zMW b0 i∧zMW b0 i<256
 |0=>h
 |i+1=>by unfold zMW; omega
theorem zFN:∀(l:List Int) (a:Int),l.foldl (· + ·) a=a+l.foldl (· + ·) 0
 |[],a=>by simp
 |x::l,a=>by
  simp only [List.foldl_cons]
  rw [zFN l (a+x),zFN l (0+x)]
  omega
theorem zK2:∀(l:List Int) (i:Nat) (a:Int),foldI (fun _ a x=>a+x) i l a=a+l.foldl (· + ·) 0
 |[],_,a=>by simp [foldI]
 |x::l,i,a=>by
  simp only [foldI,List.foldl_cons]
  rw [zK2 l (i+1) (a+x),zFN l (0+x)]
  omega
theorem zKj:∀(l:List Int) (i:Nat) (a b:Int),b=a%256→foldI (fun _ a x=>(a+x)%256) i l b=(a+l.foldl (· + ·) 0)%256
 |[],_,a,b,h=>by simp [foldI,h]
 |x::l,i,a,b,h=>by
  simp only [foldI,List.foldl_cons]
  rw [zKj l (i+1) (a+x) ((b+x)%256) (by rw [h]; omega),zFN l (0+x)]
  congr 1
  omega
theorem zHr {p:Pack} (h1:NF p.Name=0) (h2:VF p.Version=0) (h3:1≤p.Size∧p.Size≤200):zAx p=some (zG9 p):=by
 obtain ⟨v1,v2,v3⟩:=zHM h2
 have hn:=zFr h1
 have hlen:(bl p.Name).length ≤12:=by rw [xI]; omega
 have k1:=zBR (bl p.Name) (fun _ a x=>a+x) (fun i a=>0≤a∧a≤3000+i*255) (b:=zB9 p) (by
  intro i a hi ha
  have hr:=zJp (bl p.Name)[i] (List.getElem_mem hi)
  unfold zB9
  rw [if_pos (by rw [xI] at hi; simp; omega)]
  simp only
  rw [zEK hi]
  simp only [Option.bind_some]
  rw [yU (x:=(bl p.Name)[i]) (by omega) (by omega),yU (by omega) (by omega),zM (by omega)]
  exact ⟨rfl,by omega,by omega⟩) (by
  intro a
  unfold zB9
  rw [if_neg (by rw [xI]; simp)]) (bl p.Name).length 0 (p.Version.A+p.Version.B+p.Version.C) (by omega) ⟨by omega,by omega⟩
 rw [List.drop_zero,zK2] at k1
 obtain ⟨e1,b1,b2⟩:=k1
 have hb:0≤zCX p∧zCX p≤3000+12*255:=by
  unfold zCX
  omega
 obtain ⟨t,e2,rfl⟩:=kS (b:=zBE p) (fun i s=>s.2.2=(i:Int)∧s.2.1=(List.range i).map (zMW (zCX p%256))∧0≤s.1∧s.1≤10000∧s.1%256=zMW (zCX p%256) i) p.Size.toNat (fun t=>t=zG9 p) (by
  rintro i ⟨n,out,j⟩ hi ⟨hj,ho,h4,h5,h6⟩
  simp only at hj ho h4 h5 h6
  subst hj ho
  unfold zBE
  rw [if_pos (by simp; omega)]
  simp only
  have ht:n.tmod 256=n%256:=Int.tmod_eq_emod_of_nonneg h4
  rw [ht,u8w,zDm (by simp; omega) (by simp; omega)]
  simp only [Option.bind_some]
  rw [yU (x:=31*(n%256)) (by omega) (by omega),yU (by omega) (by omega),zM (by omega)]
  refine .inl ⟨_,rfl,rfl,?_,by omega,by omega,?_⟩
  ·simp only
   rw [List.range_succ,List.map_append,show n%256%256=zMW (zCX p%256) i by omega]
   rfl
  ·simp only [zMW]
   rw [←h6]) (by
  rintro ⟨n,out,j⟩ ⟨hj,ho,_⟩
  simp only at hj ho
  subst hj ho
  unfold zBE
  rw [if_neg (by simp; omega)]
  exact ⟨_,rfl,rfl⟩) p.Size.toNat 0 (zCX p,([]:List Int),0) (by omega) ⟨rfl,rfl,hb.1,by omega,rfl⟩
 unfold zAx
 rw [yU (x:=p.Version.A+p.Version.B) (by omega) (by omega),yU (x:=p.Version.A+p.Version.B+p.Version.C) (by omega) (by omega)]
 unfold zCH
 rw [show ((0:Nat):Int)=0 from rfl] at e1
 rw [e1]
 simp only [Option.bind_some]
 unfold zCe
 unfold zCX at e2
 rw [e2]
 rfl
theorem zIH {p:Pack} (h1:NF p.Name=0) (h2:VF p.Version=0) (h3:1≤p.Size∧p.Size≤200):uI p=some (zG9 p):=by
 obtain ⟨v1,v2,v3⟩:=zHM h2
 have hn:=zFr h1
 have hlen:(bl p.Name).length ≤12:=by rw [xI]; omega
 have k1:=zBR (bl p.Name) (fun _ a x=>(a+x)%256) (fun i a=>True) (b:=kM p) (by
  intro i a hi ha
  unfold kM
  rw [if_pos (by rw [xI] at hi; simp; omega)]
  simp only
  rw [zEK hi]
  simp only [Option.bind_some,u8w]
  rw [zM (by omega)]
  exact ⟨rfl,trivial⟩) (by
  intro a
  unfold kM
  rw [if_neg (by rw [xI]; simp)]) (bl p.Name).length 0 ((p.Version.A+p.Version.B+p.Version.C)%256) (by omega) trivial
 rw [List.drop_zero,zKj _ _ (p.Version.A+p.Version.B+p.Version.C) _ rfl] at k1
 have hb:0≤zCX p%256∧zCX p%256<256:=by omega
 obtain ⟨t,e2,rfl⟩:=kS (b:=kP p) (fun i s=>s.2.2=(i:Int)∧s.2.1=(List.range i).map (zMW (zCX p%256))∧s.1=zMW (zCX p%256) i) p.Size.toNat (fun t=>t=zG9 p) (by
  rintro i ⟨n,out,j⟩ hi ⟨hj,ho,h6⟩
  simp only at hj ho h6
  subst hj ho h6
  have hr:=zIR hb i
  unfold kP
  rw [if_pos (by simp; omega)]
  simp only
  rw [zDm (by simp; omega) (by simp; omega)]
  simp only [Option.bind_some,u8w]
  rw [zM (by omega)]
  refine .inl ⟨_,rfl,rfl,?_,?_⟩
  ·simp only
   rw [List.range_succ,List.map_append]
   rfl
  ·simp only [zMW]
   omega) (by
  rintro ⟨n,out,j⟩ ⟨hj,ho,_⟩
  simp only at hj ho
  subst hj ho
  unfold kP
  rw [if_neg (by simp; omega)]
  exact ⟨_,rfl,rfl⟩) p.Size.toNat 0 (zCX p%256,([]:List Int),0) (by omega) ⟨rfl,rfl,rfl⟩
 unfold uI
 simp only [u8w]
 rw [show ((p.Version.A%256+p.Version.B%256)%256+p.Version.C%256)%256=(p.Version.A+p.Version.B+p.Version.C)%256 by omega]
 unfold zA5
 rw [show ((0:Nat):Int)=0 from rfl] at k1
 rw [k1.1]
 simp only [Option.bind_some]
 unfold zAy
 unfold zCX at e2
 rw [e2]
 rfl
theorem zLr (p:Pack):∀x∈zG9 p,0≤x∧x≤255:=by
 intro x hx
 unfold zG9 at hx
 obtain ⟨i,_,rfl⟩:=List.mem_map.1 hx
 have:=zIR (b0:=zCX p%256) (by omega) i
 omega
theorem zAw (p:Pack):(zG9 p).length =p.Size.toNat:=by simp [zG9]
def fileOf (d:zC) (p:ByteArray):Option File:=d.Files.find? (fun f=>decide (f.Path=p))
def zGF (c:List Pack) (d:zC) (k:Int):Bool:=match fileOf d (zD2 (pat c k)) with
 |none=>true
 |some f=>decide (f.Data≠zG9 (pat c k))
def zEg (c:List Pack) (d:zC) (a:List Int):List Int:=a.filter (zGF c d)
def Byt (d:zC):Prop:=∀f∈d.Files,∀c∈f.Data,0≤c∧c≤255
theorem zP5 {a b:List Int} (ha:∀c∈a,0≤c∧c≤255) (hb:∀c∈b,0≤c∧c≤255):seq (b2s a) (b2s b)=decide (a=b):=by
 rw [zLS,zPv ha,zPv hb]
theorem zLc (a b:List Int) (h:a.length≤1048576):uJ a b=some (decide (a=b)):=by
 unfold uJ
 by_cases hl:a.length=b.length
 ·rw [if_neg (by simp [hl])]
  have key:=wD a (fun i x=>if x !=b.getD i 0 then some false else none) (b:=uR a b) (by
   intro i hi
   unfold uR
   rw [if_pos (by simp; omega),zL hi,zL (show i<b.length by omega)]
   simp only [Option.bind_some,getD_lt (show i<b.length by omega)]
   rw [zM (by omega)]
   cases a[i] !=b[i]<;>rfl) (by
   unfold uR
   rw [if_neg (by simp)])
  unfold tX
  rw [key,zCV]
  by_cases he:a=b
  ·have hn:wN (fun i x=>if x !=b.getD i 0 then some false else none) 0 a=none:=by
    rw [zE8]
    intro j hj
    subst he
    rw [Nat.zero_add,getD_lt hj]
    simp
   rw [hn,decide_eq_true he]
  ·rw [decide_eq_false he]
   cases hs:wN (fun i x=>if x !=b.getD i 0 then some false else none) 0 a with
   |none=>
    rw [zE8] at hs
    refine absurd (List.ext_getElem hl fun j h1 h2=>?_) he
    have:=hs j h1
    rw [Nat.zero_add,getD_lt h2] at this
    split at this
    ·cases this
    ·rename_i h3; simpa using h3
   |some r=>
    have:∀(l:List Int) (i:Nat),wN (fun i x=>if x !=b.getD i 0 then some false else none) i l=some r→r=false:=by
     intro l
     induction l with
     |nil=>intro i h; cases h
     |cons x l ih=>
      intro i h
      simp only [wN] at h
      by_cases hc:(x !=b.getD i 0)=true
      ·rw [if_pos hc] at h; exact (Option.some.inj h).symm
      ·rw [if_neg hc] at h; exact ih _ h
    rw [this a 0 hs]
 ·rw [if_pos (by simp; omega),decide_eq_false (fun e=>hl (by rw [e]))]
theorem zEq (d:zC) (p:ByteArray) (hg:d.good):
  (∃k:Nat,∃hk:k<d.Files.length,wC d p=some (k:Int)∧xP d p=some (d.Files[k].Data,true)∧fileOf d p=some d.Files[k])∨
   (wC d p=some (-1)∧xP d p=some ([],false)∧fileOf d p=none):=by
 rcases zN2 d p hg with ⟨k,hk,e1,e2,hp⟩|⟨e1,e2,hp⟩
 ·exact .inl ⟨k,hk,e1,e2,zNu hg.sorted hk hp⟩
 ·exact .inr ⟨e1,e2,zGC hp⟩
def Pkz (c:List Pack):Prop:=∀p∈c,NF p.Name=0∧VF p.Version=0∧(1≤p.Size∧p.Size≤200)
theorem zF0 {c:List Pack} (h:CF c=0):Pkz c:=fun p hp=>by
 obtain ⟨h1,h2,h3⟩:=zNp ((zHf h).2.1 p hp)
 refine ⟨h1,h2,?_⟩
 unfold inB at h3
 simpa using h3
theorem zHn {α:Type} (q:α→Bool):∀(l:List α) (i:Nat) (acc:List α),foldI (fun _ a x=>if q x then a++[x] else a) i l acc=acc++l.filter q
 |[],_,acc=>by simp [foldI]
 |x::l,i,acc=>by
  simp only [foldI]
  rw [zHn q l (i+1)]
  cases h:q x<;>simp [h]
section
variable {c:List Pack} {d:zC} {a:List Int} (hc:Pkz c) (hg:d.good) (hb:Byt d) (hp:Places c a) (ha:a.length≤1048576)
include hc hg hb hp ha in
theorem zER:zAI c d a=some (zEg c d a):=by
 have key:=zBR a (fun _ l k=>if zGF c d k then l++[k] else l) (fun i l=>l.length≤i) (b:=zA2 c d a) (by
  intro i l hi hl
  have hm:=List.getElem_mem hi
  obtain ⟨e1,e2⟩:=tZ (hp _ hm)
  obtain ⟨p1,p2,p3⟩:=hc _ e2
  unfold zA2
  rw [if_pos (by simp; omega)]
  simp only
  rw [zL hi]
  simp only [Option.bind_some,e1,zFz p1 p2,zHr p1 p2 p3]
  rw [zM (by omega),zDm (by simp; omega) (by simp; omega)]
  have hx:(if zGF c d a[i] then l++[a[i]] else l).length ≤i+1:=by
   split
   ·simp; omega
   ·omega
  refine ⟨?_,hx⟩
  have fin:∀v52:Bool,v52=zGF c d a[i]→((if v52=true then (some (l++[a[i]])) else (some l)).bind fun v58=>some (Lp.go (v58,((i+1:Nat):Int))))=(some (Lp.go ((if zGF c d a[i]=true then l++[a[i]] else l),((i+1:Nat):Int))):Option (Lp (List Int×Int) (List Int))):=by
   rintro _ rfl
   cases zGF c d a[i]<;>rfl
  rcases zEq d (zD2 (pat c a[i])) hg with ⟨k,hk,f1,_,f3⟩|⟨f1,_,f3⟩
  ·rw [f1]
   simp only [Option.bind_some]
   rw [if_neg (show ¬decide ((k:Int)<0)=true by simp),zL hk]
   unfold zDY
   refine fin _ ?_
   unfold zGF
   rw [f3,zP5 (hb _ (List.getElem_mem hk)) (zLr _)]
   simp
  ·rw [f1]
   refine fin true ?_
   unfold zGF
   rw [f3]) (by
  intro l
  unfold zA2
  rw [if_neg (by simp)]) a.length 0 [] (by omega) (by simp)
 unfold zAI zEe
 rw [show ((0:Nat):Int)=0 from rfl] at key
 rw [key.1,List.drop_zero,zHn]
 rfl
end
section
variable {c:List Pack} {d:zC} {a:List Int} (hc:Pkz c) (hg:d.good) (hb:Byt d) (hp:Places c a) (ha:a.length≤1048576)
include hc hg hp in
theorem zJm:∀k∈a,zAN k d c=some (zGF c d k):=by
 intro k hk
 obtain ⟨e1,e2⟩:=tZ (hp k hk)
 obtain ⟨p1,p2,p3⟩:=hc _ e2
 unfold zAN
 rw [e1]
 simp only [Option.bind_some,zK0 p1 p2,zIH p1 p2 p3]
 unfold zGF
 rcases zEq d (zD2 (pat c k)) hg with ⟨q,hq,_,f2,f3⟩|⟨_,f2,f3⟩
 ·rw [f2,f3]
  simp only [Option.bind_some]
  rw [if_neg (by simp),zLc _ _ (by have:=hg.data _ (List.getElem_mem hq); omega)]
  simp
 ·rw [f2,f3]
  rfl
end
section
variable {c:List Pack} {d:zC} {a:List Int} (hc:Pkz c) (hg:d.good) (hb:Byt d) (hp:Places c a) (ha:a.length≤1048576)
include hc hg hp ha in
theorem zKB:zCn c d a=some (zEg c d a):=by
 have h1:=zJm hc hg hp
 have h2:∀k∈a,xA k d c=some (!(zGF c d k)):=by
  intro k hk
  unfold xA
  rw [h1 k hk]
  rfl
 have key:=zP3 (fun k=> !(zGF c d k)) a (0:Int) (by omega) (b1:=zT a d c) (b2:=zS d c) (by
  intro i hi
  unfold zT
  rw [if_pos (by simp; omega),zL hi]
  simp only [Option.bind_some,h2 _ (List.getElem_mem hi)]
  rw [zM (by omega)]
  split<;>rfl) (by
  unfold zT
  rw [if_neg (by simp)]) (by
  intro xs i j hj hij hl hm
  unfold zS
  simp only
  rw [if_pos (by simp; omega),zL hj]
  simp only [Option.bind_some,h2 _ hm]
  rw [zL (show i<xs.length by omega),zM (show j<_ by omega),zM (show i<_ by omega)]
  cases zGF c d xs[j]<;>simp) (by
  intro xs i hl
  unfold zS
  rw [if_neg (by simp)])
 have hf:a.filter (fun x=> !!(zGF c d x))=zEg c d a:=by simp [zEg]
 rw [hf] at key
 unfold zCn wU uY
 rw [zDm (by simp; omega) (by simp; omega)]
 simp only [Option.bind_some,List.nil_append]
 have e:zP a d c=some (zEg c d a):=key
 rw [e]
 rfl
end
theorem zMr {c:List Pack} {d:zC} (hc:Cat c):∀r,vJ d=some r→zCs c d=some (if CF c !=0 then CF c else r):=by
 intro r hr
 unfold zCs
 rw [zGY c hc,hr]
 simp only [Option.bind_some]
 cases CF c !=0<;>rfl
theorem zL3 {c:List Pack} {a:List Int} (hC:Cat c) (hp:Places c a) (ha:a.length≤1048576):zDy c a=some (((zGp c a).length :Int)==0):=by
 unfold zDy
 rw [zL6 hC hp ha]
 rfl
structure zC.fine (d:zC):Prop where
 b1:d.Budget≤20000
 w0:0≤d.Writes
 w1:d.Writes≤2000000000
 s0: -1≤d.Stop
 len:d.Files.length≤120
 data:∀f∈d.Files,f.Data.length≤4000
 sorted:d.Files.Pairwise (fun f g=>slt f.Path g.Path=true)
 room:total d.Files≤d.Budget
theorem zC.good.fine {d:zC} (h:d.good):d.fine:=⟨h.b1,h.w0,by have:=h.w1; omega,h.s0,h.len,h.data,h.sorted,h.room⟩
theorem zNC {a b:ByteArray} (h:slt a b=false) (hne:a≠b):slt b a=true:=by
 cases h2:slt b a with
 |true=>rfl
 |false=>
  have c1:¬zOP a b<0:=fun hc=>by rw [(zLC a b).1 hc] at h; cases h
  have key:∀(x y:List UInt8),Op.bytesLess x y=false→Op.bytesLess y x=false→x=y:=by
   intro x
   induction x with
   |nil=>intro y; cases y<;>simp [Op.bytesLess]
   |cons u x ih=>
    intro y
    cases y with
    |nil=>simp [Op.bytesLess]
    |cons v y=>
     simp only [Op.bytesLess]
     intro e1 e2
     have e3:¬u<v:=fun hh=>by simp [hh] at e1
     have e4:¬v<u:=fun hh=>by simp [hh] at e2
     rw [UInt8.lt_iff_toNat_lt] at e3 e4
     have e5:u=v:=UInt8.toNat_inj.1 (by omega)
     subst e5
     simp [UInt8.lt_irrefl] at e1 e2
     rw [ih y e1 e2]
  exfalso
  apply hne
  unfold slt at h h2
  exact toList_inj (key _ _ h h2)
theorem zMv {fs:List File} {p:ByteArray} {x:List Int} {k:Nat} (hs:fs.Pairwise (fun f g=>slt f.Path g.Path=true)) (hn:∀f∈fs,f.Path≠p) (h1:∀i,(hi:i<fs.length)→i<k→slt fs[i].Path p=true) (h2:∀i,(hi:i<fs.length)→k≤i→slt fs[i].Path p=false):
  (fs.take k++(({Path:=p,Data:=x}:File)::fs.drop k)).Pairwise (fun f g=>slt f.Path g.Path=true):=by
 have ht:∀f∈fs.take k,slt f.Path p=true:=fun f hf=>by
  obtain ⟨i,hi,rfl⟩:=List.getElem_of_mem hf
  rw [List.getElem_take]
  rw [List.length_take] at hi
  exact h1 i (by omega) (by omega)
 have hd:∀f∈fs.drop k,slt p f.Path=true:=fun f hf=>by
  have hm:=List.mem_of_mem_drop hf
  obtain ⟨i,hi,rfl⟩:=List.getElem_of_mem hf
  rw [List.getElem_drop] at hm ⊢
  rw [List.length_drop] at hi
  exact zNC (h2 (k+i) (by omega) (by omega)) (hn _ hm)
 refine List.pairwise_append.2 ⟨List.Pairwise.sublist (List.take_sublist _ _) hs,List.pairwise_cons.2 ⟨hd,List.Pairwise.sublist (List.drop_sublist _ _) hs⟩,?_⟩
 intro a ha b hb
 rcases List.mem_cons.1 hb with rfl|hb
 ·exact ht a ha
 ·exact zG0 (ht a ha) (hd b hb)
theorem zNM {fs:List File} {k:Nat} (hk:k<fs.length) (g:File):total (fs.set k g)=total fs-fs[k].Data.length +g.Data.length:=by
 rw [List.set_eq_take_append_cons_drop,if_pos hk]
 have h:=congrArg total (show fs.take k++fs[k]::fs.drop (k+1)=fs by rw [←List.drop_eq_getElem_cons hk,List.take_append_drop])
 rw [zEs] at h ⊢
 simp only [total] at h ⊢
 omega
theorem zNe (fs:List File) (k:Nat) (g:File):total (fs.take k++(g::fs.drop k))=total fs+g.Data.length:=by
 conv=>rhs; rw [←List.take_append_drop k fs]
 simp only [zEs,total]
 omega
theorem zPV {d:zC} (hf:d.fine) (hd:d.Down=false):zED d=some (if decide (d.Stop≥0)&&decide (d.Writes≥d.Stop) then (false,{d with Down:=true}) else (true,{d with Writes:=d.Writes+1})):=by
 unfold zED
 rw [hd]
 simp only [Bool.false_eq_true,if_false]
 have h0:=hf.s0
 by_cases h1:d.Stop= -1
 ·have h2:¬(d.Stop≥0):=by omega
  simp [h1]
  exact yU (by have:=hf.w0; omega) (by have:=hf.w1; omega)
 ·have h2:d.Stop≥0:=by omega
  have h3:(d.Stop != -1)=true:=by simpa using h1
  simp only [h3,if_true,Option.bind_some,h2,decide_true,Bool.true_and]
  cases decide (d.Writes≥d.Stop)
  ·simp only [Bool.false_eq_true,if_false]
   rw [yU (by have:=hf.w0; omega) (by have:=hf.w1; omega)]
  ·simp only [if_true]
def wrote (d:zC) (p:ByteArray) (x:List Int) (r:Int×zC):Prop:=
 (r.1=0∧r.2.Down=false∧r.2.Writes=d.Writes+1∧r.2.Budget=d.Budget∧r.2.Stop=d.Stop∧r.2.Files.length≤120∧r.2.Files.Pairwise (fun f g=>slt f.Path g.Path=true)∧total r.2.Files≤d.Budget∧x.length≤4000∧
  (∀f∈r.2.Files,f∈d.Files∨f= {Path:=p,Data:=x})∧(∃f∈r.2.Files,f= {Path:=p,Data:=x})∧∀f∈d.Files,f.Path≠p→f∈r.2.Files)∨
 (r.1=9∧r.2= {d with Down:=true})∨((r.1=2∨r.1=8)∧r.2=d)
theorem zMo {d:zC} (hf:d.fine) (hdn:d.Down=false) {p:ByteArray} {x:List Int} (hp:zFd p) (hx:x.length≤1048576):
  ∃r:Int×zC,tV d p x=some r∧wT d p x=some r∧wrote d p x r:=by
 obtain ⟨fs,bu,wr,st,dn⟩:=d
 simp only at hdn
 subst hdn
 have hl:=hf.len; have hsz:=hf.data; have hro:=hf.room; have hb1:=hf.b1; have hw0:=hf.w0; have hw1:=hf.w1; have hs0:=hf.s0; have hso:=hf.sorted
 simp only at hl hsz hro hb1 hw0 hw1 hs0 hso
 have hn:=zC3 fs
 have hPF:vY p=some 0:=by
  rw [zHp]
  obtain ⟨r,e,hr⟩:=zGc p
  rw [e,hr.2 hp]
 have hT2:wS {Files:=fs,Budget:=bu,Writes:=wr,Stop:=st,Down:=false}=some (total fs):=by
  rw [zIL]
  exact zFl _ (by simp only; omega) (fun f hm=>by have:=hsz f hm; omega)
 have hT1:wV {Files:=fs,Budget:=bu,Writes:=wr,Stop:=st,Down:=false}=some (total fs):=
  zFl _ (by simp only; omega) (fun f hm=>by have:=hsz f hm; omega)
 have hR:=zPV hf rfl
 simp only at hR
 have hcl:wK x=some x:=by
  unfold wK
  rw [zDm (by simp; omega) (by simp; omega)]
  rfl
 have hap:app 1 ([]:List Int) x=some x:=by rw [zDm (by simp; omega) (by simp; omega)]; rfl
 have hw:w64 (wr+1)=wr+1:=yU (by omega) (by omega)
 rcases zGU {Files:=fs,Budget:=bu,Writes:=wr,Stop:=st,Down:=false} p hl hso with ⟨k,hk,e1,e2,hpk⟩|⟨e1,hno,k,e2,hk,g1,g2⟩
 ·simp only at hk e2 hpk
  have hdk:=hsz _ (List.getElem_mem hk)
  have hmk:=zKD (List.getElem_mem hk)
  have ha:w64 (w64 (total fs-(fs[k].Data.length :Int))+(x.length:Int))=total fs-fs[k].Data.length +x.length:=by
   rw [yU (x:=total fs-(fs[k].Data.length :Int)) (by omega) (by omega)]
   exact yU (by omega) (by omega)
  have hk0:decide ((k:Int)≥0)=true:=by simp
  have hk1:decide ((k:Int)<0)=false:=by simp
  unfold tV wT yL vP kJ xP xV
  simp only [e1,e2,Option.bind_some,hPF,hT1,hT2,hR,hk0,hk1,if_true,zL hk,Int.toNat_natCast,ha,hap,hcl,Bool.not_true,Bool.false_eq_true,if_false,bne_self_eq_false,hw]
  by_cases c1:(x.length:Int)>4000
  ·simp only [c1,decide_true,if_true,Option.bind_some]
   exact ⟨_,rfl,rfl,.inr (.inr ⟨.inl rfl,rfl⟩)⟩
  ·simp only [c1,decide_false,Bool.false_eq_true,if_false,Option.bind_some]
   by_cases c2:total fs-(fs[k].Data.length :Int)+(x.length:Int)>bu
   ·simp only [c2,decide_true,if_true]
    exact ⟨_,rfl,rfl,.inr (.inr ⟨.inr rfl,rfl⟩)⟩
   ·simp only [c2,decide_false,Bool.false_eq_true,if_false]
    cases c3:(decide (st≥0)&&decide (wr≥st))
    ·have c4:(if decide (st≥0) then some (decide (wr≥st)) else some false)=some false:=by
      cases h:decide (st≥0)<;>simp [h] at c3 ⊢
      exact c3
     rw [c4]
     simp only [Option.bind_some,Bool.false_eq_true,if_false,Bool.not_true,zL hk,hpk]
     refine ⟨_,rfl,rfl,.inl ⟨rfl,rfl,rfl,rfl,rfl,by simpa using hl,?_,?_,by omega,?_,?_,?_⟩⟩
     ·simp only
      rw [List.pairwise_iff_getElem] at hso ⊢
      intro i j hi hj hij
      simp only [List.length_set] at hi hj
      rw [List.getElem_set,List.getElem_set]
      have h:=hso i j hi hj hij
      split<;>split
      ·omega
      ·rename_i a b; subst a; simpa [hpk] using h
      ·rename_i a b; subst b; simpa [hpk] using h
      ·exact h
     ·simp only
      rw [zNM hk]
      simp only
      omega
     ·intro f hm
      rcases List.mem_or_eq_of_mem_set hm with h|h
      ·exact .inl h
      ·exact .inr h
     ·exact ⟨_,List.mem_set hk _,rfl⟩
     ·intro f hm hne
      simp only
      obtain ⟨i,hi,rfl⟩:=List.getElem_of_mem hm
      have:k≠i:=fun e=>by subst e; exact hne hpk
      refine List.mem_iff_getElem.2 ⟨i,by simpa using hi,?_⟩
      rw [List.getElem_set_ne this]
    ·have c4:(if decide (st≥0) then some (decide (wr≥st)) else some false)=some true:=by
      cases h:decide (st≥0)<;>simp [h] at c3 ⊢
      exact c3
     rw [c4]
     simp only [Option.bind_some,if_true,Bool.not_false]
     exact ⟨_,rfl,rfl,.inr (.inl ⟨rfl,rfl⟩)⟩
 ·simp only at hk e2 hno g1 g2
  have ha:w64 (w64 (total fs-0)+(x.length:Int))=total fs+x.length:=by
   rw [yU (x:=total fs-0) (by omega) (by omega)]
   rw [yU (by omega) (by omega)]; omega
  have ha':w64 (w64 (total fs-(([]:List Int).length :Int))+(x.length:Int))=total fs+x.length:=ha
  have hk0:decide ((-1:Int)≥0)=false:=by decide
  have hk1:decide ((-1:Int)<0)=true:=by decide
  have hlp:zDJ p (true,{Files:=fs,Budget:=bu,Writes:=wr+1,Stop:=st,Down:=false}) x 0=some (k:Int):=by
   obtain ⟨t,e,rfl⟩:=kS (b:=zAk p (true,{Files:=fs,Budget:=bu,Writes:=wr+1,Stop:=st,Down:=false}) x) (fun i s=>s=(i:Int)∧i≤k) k (fun t=>t=(k:Int)) (by
    rintro i s hi ⟨rfl,_⟩
    unfold zAk
    have hif:i<fs.length:=by omega
    rw [if_pos (by simp; omega)]
    simp only [zL hif,Option.bind_some,g1 i hif hi,if_true]
    exact .inl ⟨_,rfl,zM (by omega),by omega⟩) (by
    rintro s ⟨rfl,_⟩
    unfold zAk
    by_cases hkl:k<fs.length
    ·rw [if_pos (by simp; omega)]
     simp only [zL hkl,Option.bind_some,g2 k hkl (Nat.le_refl _),Bool.false_eq_true,if_false]
     exact ⟨_,rfl,rfl⟩
    ·rw [if_neg (by simp; omega)]
     exact ⟨_,rfl,rfl⟩) k 0 0 (by omega) ⟨rfl,by omega⟩
   exact e
  have hs1:zGM fs 0 (k:Int)=some (fs.take k):=by
   unfold zGM
   rw [if_pos ⟨by omega,by omega,by omega⟩]
   simp
  have hs2:zGM fs (k:Int) (fs.length:Int)=some (fs.drop k):=by
   unfold zGM
   rw [if_pos ⟨by omega,by omega,by omega⟩]
   simp
   exact List.take_of_length_le (by simp)
  have hA1:app 40 ([]:List File) (fs.take k)=some (fs.take k):=by rw [zDm (by simp; omega) (by simp; omega)]; rfl
  have hA2:∀g:File,app 40 (fs.take k) [g]=some (fs.take k++[g]):=fun g=>zDm (by simp; omega) (by simp; omega)
  have hA3:∀g:File,app 40 (fs.take k++[g]) (fs.drop k)=some (fs.take k++(g::fs.drop k)):=fun g=>by
   rw [zDm (by simp; omega) (by simp; omega)]; simp
  have hI:∀g:File,vQ fs (k:Int) [g]=some (fs.take k++(g::fs.drop k)):=fun g=>by
   unfold vQ
   rw [if_pos ⟨by omega,by omega,by simp,by simp; omega⟩]
   simp
  have hget:∀g:File,idx (fs.take k++(g::fs.drop k)) (k:Int)=some g:=fun g=>by
   have hlk:(fs.take k).length =k:=by simp; omega
   rw [zL (show k< (fs.take k++(g::fs.drop k)).length by simp; omega)]
   rw [List.getElem_append_right (by omega)]
   simp [hlk]
  have hset:∀g g':File,(fs.take k++(g::fs.drop k)).set k g'=fs.take k++(g'::fs.drop k):=fun g g'=>by
   have hlk:(fs.take k).length =k:=by simp; omega
   rw [List.set_append_right _ _ (by omega)]
   simp [hlk]
  unfold tV wT yL vP kJ xP xV
  simp only [e1,e2,Option.bind_some,hPF,hT1,hT2,hR,hk0,hk1,if_true,ha,ha',hap,hcl,Bool.not_false,Bool.false_eq_true,if_false,bne_self_eq_false]
  have h120:decide ((fs.length:Int)≥120)=((fs.length:Int)==120):=by
   by_cases h:(fs.length:Int)=120
   ·simp [h]
   ·have:¬((fs.length:Int)≥120):=by omega
    simp [h,this]
  by_cases c1:(x.length:Int)>4000
  ·simp only [c1,decide_true,if_true,Option.bind_some]
   exact ⟨_,rfl,rfl,.inr (.inr ⟨.inl rfl,rfl⟩)⟩
  ·simp only [c1,decide_false,Bool.false_eq_true,if_false,Option.bind_some,h120]
   cases c0:((fs.length:Int)==120)
   ·have hlt:fs.length<120:=by
     have:(fs.length:Int)≠120:=by simpa using c0
     omega
    simp only [Bool.false_eq_true,if_false]
    by_cases c2:total fs+(x.length:Int)>bu
    ·simp only [c2,decide_true,if_true]
     exact ⟨_,rfl,rfl,.inr (.inr ⟨.inr rfl,rfl⟩)⟩
    ·simp only [c2,decide_false,Bool.false_eq_true,if_false]
     cases c3:(decide (st≥0)&&decide (wr≥st))
     ·have c4:(if decide (st≥0) then some (decide (wr≥st)) else some false)=some false:=by
       cases h:decide (st≥0)<;>simp [h] at c3 ⊢
       exact c3
      rw [c4]
      simp only [Option.bind_some,Bool.false_eq_true,if_false,Bool.not_true,hlp,hs1,hs2,hA1,hA2,hA3,hI,hget,Int.toNat_natCast,hset,hw]
      refine ⟨_,rfl,rfl,.inl ⟨rfl,rfl,rfl,rfl,rfl,by simp; omega,zMv hso hno g1 g2,?_,by omega,?_,?_,?_⟩⟩
      ·simp only
       rw [zNe]
       simp only
       omega
      ·intro f hm
       simp only [List.mem_append,List.mem_cons] at hm
       rcases hm with h|h|h
       ·exact .inl (List.mem_of_mem_take h)
       ·exact .inr h
       ·exact .inl (List.mem_of_mem_drop h)
      ·exact ⟨_,by simp,rfl⟩
      ·intro f hm _
       simp only [List.mem_append,List.mem_cons]
       have:f∈fs.take k++fs.drop k:=by rw [List.take_append_drop]; exact hm
       rcases List.mem_append.1 this with h|h
       ·exact .inl h
       ·exact .inr (.inr h)
     ·have c4:(if decide (st≥0) then some (decide (wr≥st)) else some false)=some true:=by
       cases h:decide (st≥0)<;>simp [h] at c3 ⊢
       exact c3
      rw [c4]
      simp only [Option.bind_some,if_true,Bool.not_false]
      exact ⟨_,rfl,rfl,.inr (.inl ⟨rfl,rfl⟩)⟩
   ·simp only [if_true]
    exact ⟨_,rfl,rfl,.inr (.inr ⟨.inl rfl,rfl⟩)⟩
theorem zRc {c:List Pack} {d:zC} (hC:Cat c) (hd:zC.sm 1048576 d):∃k,vJ d=some k∧zCh c d=some (if CF c !=0 then CF c else if k !=0 then k else if d.Down then 9 else 0)∧(k=0→d.good):=by
 obtain ⟨k,ek,hk⟩:=zI2 d hd.1.1
 refine ⟨k,ek,?_,hk⟩
 unfold zCh
 rw [zMr hC k ek]
 simp only [Option.bind_some]
 by_cases h0:CF c=0
 ·by_cases h1:k=0
  ·simp [h0,h1]
   cases d.Down<;>rfl
  ·simp [h0,h1]
 ·simp [h0]
theorem zP6 {r:Int×zC} (h:zI.sm 1049600 {Code:=r.1,zC:=r.2}):zI.sm 1049600 (if r.1 !=0&&r.1 !=9 then zLk r.1 else {Code:=r.1,zC:=r.2}):=by
 split
 ·exact zLR _
 ·exact h
theorem zL8 (d:zC) (c:Int):zEF d c=some (if c !=0&&c !=9 then zLk c else {Code:=c,zC:=d}):=by
 unfold zEF zLk
 cases c !=0
 ·rfl
 ·cases c !=9<;>rfl
theorem zOc (d:zC) (c:Int):zFH d c=some (if c !=0&&c !=9 then zLk c else {Code:=c,zC:=d}):=by
 unfold zFH zLk
 cases c !=0
 ·rfl
 ·cases c !=9<;>rfl
theorem zRf:zFd (bs [99,117,114]):=by
 refine ⟨by decide,by decide,?_⟩
 rw [zK8]
 decide
theorem zQ6 (s:ByteArray):s2b s=bl s:=by
 unfold s2b bl
 rw [ByteArray.toList_eq]
theorem zH6 {n:Int} (h0:1≤n) (h1:n≤999999):zAf n=some (zF3 n.toNat)∧xG n=some (zF3 n.toNat)∧(s2b (zF3 n.toNat)).length ≤6:=by
 have e:n=(n.toNat:Int):=by omega
 have hl:=(zFn (n:=n.toNat) (by omega)).2
 refine ⟨?_,?_,?_⟩
 ·unfold zAf
  have h:=zFB n.toNat (by omega)
  rw [←e] at h
  rw [h]
  rfl
 ·obtain ⟨s,e1,e2⟩:=zET n.toNat (by omega)
  rw [←e] at e1
  rw [e1]
  congr 1
  exact zJY.1 (by rw [e2,zEw])
 ·rw [zQ6,zEw]
  exact hl
def uF (fs:List File):Int:=match (zF5 fs).getLast? with
 |none=>1
 |some n=>n+1
theorem zGv (d:zC) (hl:d.Files.length≤1048576) (hs:d.Files.Pairwise (fun f g=>slt f.Path g.Path=true)):zD0 d=some (uF d.Files)∧tL d=some (uF d.Files):=by
 have hgl:=zKp d.Files
 have hm:=fun n=>zK7 (fs:=d.Files) (n:=n)
 have hso:=zHs hs
 unfold zD0 tL uF
 rw [zOf d hl,zPL d hl]
 simp only [Option.bind_some]
 generalize zF5 d.Files=g at*
 constructor
 ·by_cases h0:g=[]
  ·subst h0; rfl
  ·have hpos:0<g.length:=List.length_pos_iff.2 h0
   have hne:((g.length:Int)==0)=false:=by simp; omega
   rw [hne]
   simp only [Bool.false_eq_true,if_false]
   rw [yU (by omega) (by omega),show ((g.length:Int)-1)=((g.length-1:Nat):Int) by omega,zL (by omega)]
   simp only [Option.bind_some]
   rw [List.getLast?_eq_getElem?,List.getElem?_eq_getElem (by omega)]
   have:=hm _ (List.getElem_mem (show g.length-1<g.length by omega))
   rw [yU (by omega) (by omega)]
 ·obtain ⟨t,e,rfl⟩:=kS (b:=zAu g) (fun i s=>s=((match (g.take i).getLast? with|none=>1|some n=>n+1),(i:Int))) g.length (fun t=>t=match g.getLast? with|none=>1|some n=>n+1) (by
   rintro i s hi rfl
   have hgi:=hm _ (List.getElem_mem hi)
   unfold zAu
   rw [if_pos (by simp; omega)]
   simp only [zL hi,Option.bind_some]
   rw [yU (x:=g[i]+1) (by omega) (by omega),zM (by omega)]
   refine .inl ⟨_,rfl,?_⟩
   have e2:(g.take (i+1)).getLast? =some g[i]:=by
    rw [List.take_succ_eq_append_getElem hi,List.getLast?_append]
    simp
   rw [e2]
   simp only
   congr 1
   cases h3:(g.take i).getLast? with
   |none=>simp only; rw [if_pos (by omega)]
   |some m=>
    simp only
    have hmem:m∈g.take i:=List.mem_of_getLast? h3
    obtain ⟨j,hj,rfl⟩:=List.getElem_of_mem hmem
    have hj':j<i:=by simp at hj; omega
    have:=List.pairwise_iff_getElem.1 hso j i (by omega) hi hj'
    simp only [List.getElem_take] at*
    rw [if_pos (by omega)]) (by
   rintro s rfl
   unfold zAu
   rw [if_neg (by simp)]
   exact ⟨_,rfl,by simp⟩) g.length 0 (1,0) (by omega) (by simp)
  simp only [zBp,e,Option.bind_some]
theorem zHG:∀(n:Nat),(∀c∈zF2 n,zFX c=true)∧val (zF2 n)=(n:Int):=by
 intro n
 induction n using Nat.strongRecOn with
 |_ n ih=>
  by_cases h:n<10
  ·rw [zAi h]
   refine ⟨fun c hc=>?_,by simp [val]; omega⟩
   simp only [List.mem_singleton] at hc
   subst hc
   unfold zFX
   simp; omega
  ·rw [zEi h]
   obtain ⟨h1,h2⟩:=ih (n / 10) (by omega)
   refine ⟨fun c hc=>?_,?_⟩
   ·rcases List.mem_append.1 hc with hc|hc
    ·exact h1 c hc
    ·simp only [List.mem_singleton] at hc
     subst hc
     unfold zFX
     simp; omega
   ·rw [zFt,h2]
    omega
theorem zJX (l:List Int):∀(k:Nat),val (List.replicate k 48++l)=val l
 |0=>rfl
 |k+1=>by
  have:=zJX l k
  unfold val at this ⊢
  rw [List.replicate_succ,List.cons_append,List.foldl_cons]
  exact this
theorem zMF {n:Int} (h0:1≤n) (h1:n≤999999):zDH (zMV n)=some n:=by
 have hl:=zFn (n:=n.toNat) (by omega)
 obtain ⟨d1,d2⟩:=zHG n.toNat
 have hd:(zMV n).drop 4=List.replicate (6-(zF2 n.toNat).length) 48++zF2 n.toNat:=rfl
 have hlen:((zMV n).drop 4).length =6:=by rw [hd]; simp; omega
 have hlen':(zMV n).length =10:=by
  have:=List.length_drop (i:=4) (l:=zMV n)
  omega
 have hdig:∀c∈(zMV n).drop 4,zFX c=true:=by
  rw [hd]
  intro c hc
  rcases List.mem_append.1 hc with hc|hc
  ·rw [List.eq_of_mem_replicate hc]; rfl
  ·exact d1 c hc
 have hv:val ((zMV n).drop 4)=n:=by rw [hd,zJX,d2]; omega
 unfold zDH zMU
 rw [if_neg (by rw [hlen]; rintro (h|h|h); omega; omega; exact h hdig),hv]
 simp only
 rw [if_pos ⟨h0,hlen'⟩]
theorem zLJ {fs:List File} {n:Int} (h0:1≤n) (h1:n≤999999) {f:File} (hf:f∈fs) (hp:f.Path=zJQ n):n∈zF5 fs:=by
 unfold zF5
 refine List.mem_filterMap.2 ⟨zJQ n,?_,by rw [zIn]; exact zMF h0 h1⟩
 unfold tF
 refine List.mem_map.2 ⟨f,List.mem_filter.2 ⟨hf,?_⟩,hp⟩
 rw [hp]
 have hs:=zKq h1
 have h4:(bs [103,101,110,47]).size =4:=rfl
 unfold begins
 rw [zLS,zEb,zIn,zLD,hs,h4]
 rfl
theorem zGx {fs:List File} (hs:fs.Pairwise (fun f g=>slt f.Path g.Path=true)):uF fs∉zF5 fs∧1≤uF fs:=by
 have hso:=zHs hs
 have hm:=fun n=>zK7 (fs:=fs) (n:=n)
 unfold uF
 cases hc:(zF5 fs).getLast? with
 |none=>
  have:zF5 fs=[]:=List.getLast?_eq_none_iff.1 hc
  rw [this]
  simp
 |some m=>
  obtain ⟨l,hl⟩:=List.getLast?_eq_some_iff.1 hc
  have hmm:=hm m (List.mem_of_getLast? hc)
  rw [hl] at hso ⊢
  refine ⟨fun h=>?_,by simp only; omega⟩
  simp only at h
  rcases List.mem_append.1 h with h|h
  ·have:=(List.pairwise_append.1 hso).2.2 _ h m (by simp)
   omega
  ·simp at h
   omega
def oldLen (d:zC) (p:ByteArray):Int:=match fileOf d p with
 |some f=>f.Data.length
 |none=>0
theorem zDF {d:zC} (hg:d.good) (p:ByteArray):0≤oldLen d p∧oldLen d p≤4000:=by
 unfold oldLen
 rcases zEq d p hg with ⟨q,hq,_,_,f3⟩|⟨_,_,f3⟩
 ·rw [f3]
  have:=hg.data _ (List.getElem_mem hq)
  simp only; omega
 ·rw [f3]; simp
theorem zNa {d:zC} (hg:d.good) {f:File} (hf:f.Data.length≤10000):zAM d f=some ((f.Data.length:Int)-oldLen d f.Path):=by
 have hb:=zDF hg f.Path
 unfold zAM oldLen at*
 rcases zEq d f.Path hg with ⟨q,hq,_,f2,f3⟩|⟨_,f2,f3⟩
 ·rw [f2]
  rw [f3] at hb ⊢
  simp only [Option.bind_some] at hb ⊢
  rw [yU (by omega) (by omega)]
 ·rw [f2]
  rw [f3]
  simp only [Option.bind_some,List.length_nil]
  rw [yU (by omega) (by omega)]
  rfl
def zAg (d:zC):List File→Int
 |[]=>0
 |f::l=>((f.Data.length:Int)-oldLen d f.Path)+zAg d l
theorem zEI (d:zC):∀(l r:List File),zAg d (l++r)=zAg d l+zAg d r
 |[],r=>by simp [zAg]
 |x::l,r=>by simp only [List.cons_append,zAg,zEI d l r]; omega
theorem zFy {d:zC} (hg:d.good):∀(l:List File),(∀f∈l,f.Data.length≤10000)→ -4000*(l.length:Int)≤zAg d l∧zAg d l≤10000*(l.length:Int)
 |[],_=>by simp [zAg]
 |x::l,h=>by
  have:=zFy hg l (fun f hf=>h f (List.mem_cons_of_mem _ hf))
  have h1:=h x (by simp)
  have h2:=zDF hg x.Path
  simp only [zAg,List.length_cons]
  omega
def zIF (d:zC) (p:ByteArray):Int:=match fileOf d p with
 |some _=>0
 |none=>1
theorem zML (d:zC) (p:ByteArray):0≤zIF d p∧zIF d p≤1:=by
 unfold zIF
 cases fileOf d p<;>simp
def zGK (d:zC):List File→Int
 |[]=>0
 |f::l=>zIF d f.Path+zGK d l
theorem zFw (d:zC):∀(l r:List File),zGK d (l++r)=zGK d l+zGK d r
 |[],r=>by simp [zGK]
 |x::l,r=>by simp only [List.cons_append,zGK,zFw d l r]; omega
theorem zFc (d:zC):∀(l:List File),0≤zGK d l∧zGK d l≤(l.length:Int)
 |[]=>by simp [zGK]
 |x::l=>by
  have:=zFc d l
  have:=zML d x.Path
  simp only [zGK,List.length_cons]
  omega
def yF (c:List Pack) (k:Int):File:= {Path:=zD2 (pat c k),Data:=zG9 (pat c k)}
theorem zOp {c:List Pack} {d:zC} (h0:CF c=0) (hg:d.good) (hb:Byt d) {a:List Int} (hs:zMT c a=true) (hn:uF d.Files≤999999):
  zEA c d a=some (((zIZ c a).size :Int)+((zF3 (uF d.Files).toNat).size :Int)+zAg d ((zEg c d a).map (yF c))-oldLen d (bs [99,117,114]),1+zGK d ((zEg c d a).map (yF c))+zIF d (bs [99,117,114])):=by
 obtain ⟨g3,g4⟩:=zEX.1 hs
 have hcl:=(zHf h0).1
 have hal:a.length≤24:=by
  rcases zGw (lo:=0) (hi:=c.length) g3 g4 with h|h
  ·omega
  ·rw [h]; simp
 have hP:Places c a:=g4
 obtain ⟨t1,t2⟩:=zFo (zKo h0) hP (by omega)
 have hl:d.Files.length≤1048576:=by have:=hg.len; omega
 have hn1:=(zGx hg.sorted).2
 obtain ⟨_,d2,_⟩:=zH6 hn1 hn
 have hds:(zF3 (uF d.Files).toNat).size ≤6:=by
  rw [←xI,zEw]
  exact (zFn (by omega)).2
 have hLl:(zEg c d a).length ≤24:=Nat.le_trans (List.length_filter_le _ _) hal
 have hLP:∀k∈zEg c d a,0≤k∧k<c.length:=fun k hk=>hP k (List.mem_filter.1 hk).1
 unfold zEA
 rw [zER (zF0 h0) hg hb hP (by omega),t1,(zGv d hl hg.sorted).1]
 simp only [Option.bind_some,d2]
 rw [yU (by omega) (by omega)]
 generalize hL:zEg c d a=L at*
 generalize hS:((zIZ c a).size :Int)+((zF3 (uF d.Files).toNat).size :Int)=S0
 have hS0:0≤S0∧S0≤1000:=by omega
 have hbnd:∀i,-100000≤zAg d ((L.take i).map (yF c))∧zAg d ((L.take i).map (yF c))≤240000:=fun i=>by
  have:=zFy hg ((L.take i).map (yF c)) (fun f hf=>by
   obtain ⟨k,hk,rfl⟩:=List.mem_map.1 hf
   obtain ⟨_,e2⟩:=tZ (hLP k (List.mem_of_mem_take hk))
   obtain ⟨_,_,p3⟩:=zF0 h0 _ e2
   unfold yF
   simp only [zAw]
   omega)
  rw [List.length_map,List.length_take] at this
  omega
 obtain ⟨⟨v,q⟩,e,ht⟩:=kS (b:=zC2 c d L) (fun i s=>s.1=S0+zAg d ((L.take i).map (yF c))∧s.2.2=(i:Int)∧s.2.1=1+zGK d ((L.take i).map (yF c))) L.length (fun t=>t.1=S0+zAg d (L.map (yF c))∧t.2=1+zGK d (L.map (yF c))) (by
  rintro i ⟨v,q,j⟩ hi ⟨hv,hj,hq⟩
  simp only at hv hj hq
  subst hj
  obtain ⟨e1,e2⟩:=tZ (hLP _ (List.getElem_mem hi))
  obtain ⟨p1,p2,p3⟩:=zF0 h0 _ e2
  have b1:=hbnd i
  have b2:=hbnd (i+1)
  have htk:L.take (i+1)=L.take i++[L[i]]:=List.take_succ_eq_append_getElem hi
  have hnext:zAg d ((L.take (i+1)).map (yF c))=zAg d ((L.take i).map (yF c))+((pat c L[i]).Size -oldLen d (zD2 (pat c L[i]))):=by
   rw [htk,List.map_append,zEI]
   simp only [List.map_cons,List.map_nil,zAg,yF,zAw]
   omega
  have hab:zGK d ((L.take (i+1)).map (yF c))=zGK d ((L.take i).map (yF c))+zIF d (zD2 (pat c L[i])):=by
   rw [htk,List.map_append,zFw]
   simp only [List.map_cons,List.map_nil,zGK,yF]
   omega
  have habb:=zFc d ((L.take i).map (yF c))
  rw [List.length_map,List.length_take] at habb
  have hob:=zDF hg (zD2 (pat c L[i]))
  unfold zC2
  rw [if_pos (by simp; omega)]
  simp only
  rw [zL hi]
  simp only [Option.bind_some,e1,zFz p1 p2,zM (show i<9223372036854775807 by omega)]
  rw [yU (x:=v+(pat c L[i]).Size) (by omega) (by omega)]
  rcases zEq d (zD2 (pat c L[i])) hg with ⟨k,hk,f1,_,f3⟩|⟨f1,_,f3⟩
  ·have ho:oldLen d (zD2 (pat c L[i]))=(d.Files[k].Data.length :Int):=by unfold oldLen; rw [f3]
   have ha:zIF d (zD2 (pat c L[i]))=0:=by unfold zIF; rw [f3]
   rw [f1]
   simp only [Option.bind_some]
   rw [if_neg (by simp),zL hk]
   simp only [Option.bind_some]
   rw [yU (by omega) (by omega)]
   exact .inl ⟨_,rfl,by simp only; omega,rfl,by simp only; omega⟩
  ·have ho:oldLen d (zD2 (pat c L[i]))=0:=by unfold oldLen; rw [f3]
   have ha:zIF d (zD2 (pat c L[i]))=1:=by unfold zIF; rw [f3]
   rw [f1]
   simp only [Option.bind_some]
   rw [if_pos (by decide),yU (x:=q+1) (by omega) (by omega)]
   exact .inl ⟨_,rfl,by simp only; omega,rfl,by simp only; omega⟩) (by
  rintro ⟨v,q,j⟩ ⟨hv,hj,hq⟩
  simp only at hv hj hq
  subst hj
  unfold zC2
  rw [if_neg (by simp)]
  rw [List.take_length] at hv hq
  exact ⟨_,rfl,hv,hq⟩) L.length 0 (S0,1,0) (by omega) ⟨by simp [zAg],rfl,by simp [zGK]⟩
 simp only at ht
 unfold zEP
 rw [e]
 have b1:=hbnd L.length
 rw [List.take_length] at b1
 have hob:=zDF hg (bs [99,117,114])
 rcases zEq d (bs [99,117,114]) hg with ⟨k,hk,f1,_,f3⟩|⟨f1,_,f3⟩
 ·have ho:oldLen d (bs [99,117,114])=(d.Files[k].Data.length :Int):=by unfold oldLen; rw [f3]
  have ha:zIF d (bs [99,117,114])=0:=by unfold zIF; rw [f3]
  rw [f1]
  simp only [Option.bind_some]
  rw [if_pos (by simp),zL hk]
  simp only [Option.bind_some]
  rw [yU (by omega) (by omega),ho,ht.1,ht.2,ha,Int.add_zero]
 ·have ho:oldLen d (bs [99,117,114])=0:=by unfold oldLen; rw [f3]
  have ha:zIF d (bs [99,117,114])=1:=by unfold zIF; rw [f3]
  have habb:=zFc d (L.map (yF c))
  rw [List.length_map] at habb
  rw [f1]
  simp only [Option.bind_some]
  rw [if_neg (by decide),yU (by omega) (by omega),ho,ht.1,ht.2,ha]
  simp only [Option.bind_some,Int.sub_zero]
def zBw (c:List Pack) (d:zC) (a:List Int):List File:=(zEg c d a).map (yF c)++[{Path:=zJQ (uF d.Files),Data:=s2b (zIZ c a)},{Path:=bs [99,117,114],Data:=s2b (zF3 (uF d.Files).toNat)}]
theorem zKL {α β:Type} (g:α→β):∀(l:List α) (i:Nat) (acc:List β),foldI (fun _ a x=>a++[g x]) i l acc=acc++l.map g
 |[],i,acc=>by simp [foldI]
 |x::l,i,acc=>by
  simp only [foldI]
  rw [zKL g l]
  simp
theorem zLd {c:List Pack} {d:zC} (h0:CF c=0) (hg:d.good) (hb:Byt d) {a:List Int} (hs:zMT c a=true) (hn:uF d.Files≤999999):
  zEC c d a=some (zBw c d a)∧(∀f∈zBw c d a,f.Data.length≤1000)∧(zBw c d a).length ≤26:=by
 obtain ⟨g3,g4⟩:=zEX.1 hs
 have hcl:=(zHf h0).1
 have hal:a.length≤24:=by
  rcases zGw (lo:=0) (hi:=c.length) g3 g4 with h|h
  ·omega
  ·rw [h]; simp
 have hP:Places c a:=g4
 obtain ⟨t1,t2⟩:=zFo (zKo h0) hP (by omega)
 have hl:d.Files.length≤1048576:=by have:=hg.len; omega
 have hn1:=(zGx hg.sorted).2
 obtain ⟨d1,_,d3⟩:=zH6 hn1 hn
 have hLl:(zEg c d a).length ≤24:=Nat.le_trans (List.length_filter_le _ _) hal
 have hLP:∀k∈zEg c d a,0≤k∧k<c.length:=fun k hk=>hP k (List.mem_filter.1 hk).1
 refine ⟨?_,fun f hf=>?_,?_⟩
 ·have key:=zBR (zEg c d a) (fun _ l k=>l++[yF c k]) (fun i l=>l.length≤i) (b:=zCB c d a (zEg c d a)) (by
   intro i l hi hl
   obtain ⟨e1,e2⟩:=tZ (hLP _ (List.getElem_mem hi))
   obtain ⟨p1,p2,p3⟩:=zF0 h0 _ e2
   refine ⟨?_,by simp; omega⟩
   unfold zCB
   rw [if_pos (by simp; omega)]
   simp only
   rw [zL hi]
   simp only [Option.bind_some,e1,zK0 p1 p2,zIH p1 p2 p3,zM (show i<9223372036854775807 by omega)]
   rw [zDm (by simp; omega) (by simp; omega)]
   rfl) (by
   intro l
   unfold zCB
   rw [if_neg (by simp)]) (zEg c d a).length 0 ([]:List File) (by omega) (by simp)
  rw [List.drop_zero,zKL] at key
  unfold zEC zEV zBw
  rw [zKB (zF0 h0) hg hP (by omega),(zGv d hl hg.sorted).2,zKI (zKo h0) hP (by omega)]
  simp only [Option.bind_some,List.nil_append] at key ⊢
  rw [show ((0:Int))=((0:Nat):Int) from rfl,key.1]
  simp only [Option.bind_some,zKi (show 0≤uF d.Files by omega) hn,d1]
  rw [zDm (by simp; omega) (by simp; omega)]
  rfl
 ·unfold zBw at hf
  rcases List.mem_append.1 hf with h|h
  ·obtain ⟨k,hk,rfl⟩:=List.mem_map.1 h
   obtain ⟨_,e2⟩:=tZ (hLP k hk)
   obtain ⟨_,_,p3⟩:=zF0 h0 _ e2
   unfold yF
   simp only [zAw]
   omega
  ·simp only [List.mem_cons,List.not_mem_nil,or_false] at h
   rcases h with rfl|rfl
   ·simp only [zFi]; omega
   ·simp only; omega
 ·unfold zBw
  simp; omega
theorem zM2 {c:List Pack} {d:zC} (hg:d.good) {a:List Int} (hn:uF d.Files≤999999):
  zGK d (zBw c d a)=1+zGK d ((zEg c d a).map (yF c))+zIF d (bs [99,117,114]):=by
 obtain ⟨h1,h2⟩:=zGx hg.sorted
 have ho:zIF d (zJQ (uF d.Files))=1:=by
  unfold zIF fileOf
  rw [zGC fun f hf he=>h1 (zLJ h2 hn hf he)]
 unfold zBw
 rw [zFw]
 simp only [zGK,ho]
 omega
theorem zGy {α R:Type} {g:Nat→α→Option R}:∀{xs:List α} {i:Nat},wN g i xs=none→∀x∈xs,∃j,g j x=none
 |[],_,_,x,h=>by simp at h
 |y::ys,i,h,x,hx=>by
  simp only [wN] at h
  cases hg:g i y with
  |some r=>rw [hg] at h; cases h
  |none=>
   rw [hg] at h
   rcases List.mem_cons.1 hx with rfl|hx
   ·exact ⟨i,hg⟩
   ·exact zGy h x hx
theorem zNw {c:Int} (h:zKO c=true):zGn c=true:=by
 unfold zKO zN4 zIK at h
 unfold zGn zJH
 simp only [Bool.or_eq_true,Bool.and_eq_true,decide_eq_true_eq,beq_iff_eq] at h ⊢
 omega
theorem zKM {c:Int} (h:zFX c=true):zGn c=true:=by
 unfold zFX at h
 unfold zGn zJH
 simp only [Bool.or_eq_true,Bool.and_eq_true,decide_eq_true_eq,beq_iff_eq] at h ⊢
 omega
theorem zOT {s:ByteArray} (h:NF s=0):∀c∈bl s,zGn c=true:=by
 intro c hc
 unfold NF at h
 split at h
 ·cases h
 split at h
 ·cases h
 split at h
 ·unfold zH4 at h
  cases hs:wN (fun _ c=>if zKO c then none else some (5:Int)) 0 (bl s) with
  |some r=>
   exfalso
   have key:∀(xs:List Int) (i:Nat) (r:Int),wN (fun _ c=>if zKO c then none else some (5:Int)) i xs=some r→r=5:=by
    intro xs
    induction xs with
    |nil=>intro i r h; cases h
    |cons y ys ih=>
     intro i r h
     simp only [wN] at h
     cases hn:zKO y
     ·rw [hn] at h; simp at h; omega
     ·rw [hn] at h; simp at h; exact ih _ _ h
   rw [hs] at h
   have:=key _ _ _ hs
   simp only [Option.getD_some] at h
   omega
  |none=>
   obtain ⟨j,hj⟩:=zGy hs c hc
   cases hn:zKO c
   ·rw [hn] at hj; cases hj
   ·exact zNw hn
 ·cases h
theorem zIu (n:Nat):∀c∈bl (zF3 n),zGn c=true:=by
 intro c hc
 rw [zEw] at hc
 exact zKM ((zHG n).1 c hc)
theorem zJE {p:Pack} (h1:NF p.Name=0) (h2:VF p.Version=0):zFd (zD2 p):=by
 have hs:=zMh h1 h2
 have hn:=zFr h1
 refine ⟨?_,by omega,fun c hc=>?_⟩
 ·unfold zD2
  simp only [zAX]
  omega
 ·unfold zD2 zO9 at hc
  simp only [zDK,List.mem_append] at hc
  have hb:∀l:List UInt8,(∀c∈l.map (fun b=>(b.toNat:Int)),zGn c=true)→∀c∈bl (bs l),zGn c=true:=fun l h c hc=>h c (by rw [zK8] at hc; exact hc)
  rcases hc with h|h|h|(((h|h)|h)|h)|h
  ·exact hb _ (by decide) c h
  ·exact zOT h1 c h
  ·exact hb _ (by decide) c h
  ·exact zIu _ c h
  ·exact hb _ (by decide) c h
  ·exact zIu _ c h
  ·exact hb _ (by decide) c h
  ·exact zIu _ c h
theorem zPY {n:Int} (h1:n≤999999):zFd (zJQ n):=by
 have hs:=zKq h1
 refine ⟨by omega,by omega,fun c hc=>?_⟩
 rw [zIn] at hc
 unfold zMV at hc
 simp only [List.mem_append] at hc
 rcases hc with h|h|h
 ·revert c
  decide
 ·rw [List.eq_of_mem_replicate h]; decide
 ·exact zKM ((zHG _).1 c h)
noncomputable def wR (d:zC) (f:File):Int×zC:=(wT d f.Path f.Data).getD (0,d)
theorem zGP {d:zC} (hf:d.fine) (hdn:d.Down=false) {f:File} (hp:zFd f.Path) (hx:f.Data.length≤1048576):
  tV d f.Path f.Data=some (wR d f)∧wT d f.Path f.Data=some (wR d f)∧wrote d f.Path f.Data (wR d f):=by
 obtain ⟨r,e1,e2,e3⟩:=zMo hf hdn hp hx
 have:wR d f=r:=by unfold wR; rw [e2]; rfl
 rw [this]
 exact ⟨e1,e2,e3⟩
theorem zGR {d:zC} {p:ByteArray} {x:List Int} {r:Int×zC} (hf:d.fine) (hw:d.Writes+1≤2000000000) (h:wrote d p x r) (h0:r.1=0):r.2.fine∧r.2.Down=false∧r.2.Writes=d.Writes+1:=by
 rcases h with ⟨_,h2,h3,h4,h5,h6,h7,h8,h9,h10,_⟩|⟨h1,_⟩|⟨h1,_⟩
 ·refine ⟨⟨by rw [h4]; exact hf.b1,by have:=hf.w0; omega,by omega,by rw [h5]; exact hf.s0,h6,fun f hm=>?_,h7,by rw [h4]; exact h8⟩,h2,h3⟩
  rcases h10 f hm with h|rfl
  ·exact hf.data f h
  ·exact h9
 ·omega
 ·omega
def okD (d:zC):Prop:=d.Files.length≤120∧∀f∈d.Files,f.Data.length≤4000∧f.Path.size≤1048576
theorem zQ5 {q:Int} {d:zC} (h:okD d):zI.sm 1049600 {Code:=q,zC:=d}:=by
 refine ⟨trivial,⟨Nat.le_trans h.1 (by decide),fun f hf=>?_⟩,trivial,trivial,trivial,trivial⟩
 have:=h.2 f hf
 exact ⟨by omega,by omega,fun _ _=>trivial⟩
theorem zNi {d:zC} {p:ByteArray} {x:List Int} {r:Int×zC} (hd:okD d) (hp:p.size≤1048576) (h:wrote d p x r):okD r.2:=by
 rcases h with ⟨_,_,_,_,_,h6,_,_,h9,h10,_⟩|⟨_,h2⟩|⟨_,h2⟩
 ·refine ⟨h6,fun f hf=>?_⟩
  rcases h10 f hf with h|rfl
  ·exact hd.2 f h
  ·exact ⟨h9,hp⟩
 ·rw [h2]; exact hd
 ·rw [h2]; exact hd
noncomputable def goW:List File→zC→Int×zC
 |[],d=>(0,d)
 |f::l,d=>if (wR d f).1 !=0 then wR d f else goW l (wR d f).2
theorem zIG:∀(l r:List File) (d:zC),goW (l++r) d=if (goW l d).1 !=0 then goW l d else goW r (goW l d).2
 |[],r,d=>by simp [goW]
 |f::l,r,d=>by
  simp only [List.cons_append,goW]
  by_cases h:(wR d f).1=0
  ·have hb:((wR d f).1 !=0)=false:=by simpa using h
   simp only [hb,Bool.false_eq_true,if_false]
   exact zIG l r _
  ·have hb:((wR d f).1 !=0)=true:=by simpa using h
   simp only [hb,if_true]
def okF (f:File):Prop:=zFd f.Path∧f.Data.length≤1048576
theorem zJu:∀(l:List File) (d:zC),(∀f∈l,okF f)→d.fine→d.Down=false→d.Writes+l.length≤2000000000→okD d→okD (goW l d).2∧((goW l d).1=0→(goW l d).2.fine ∧(goW l d).2.Down =false∧(goW l d).2.Writes =d.Writes+l.length)
 |[],d,_,hf,hdn,_,ho=>by simp [goW]; exact ⟨ho,hf,hdn⟩
 |f::l,d,hl,hf,hdn,hw,ho=>by
  obtain ⟨k1,k2⟩:=hl f (by simp)
  obtain ⟨_,_,w⟩:=zGP hf hdn k1 k2
  have ho':=zNi ho (by have:=k1.2.1; omega) w
  simp only [List.length_cons] at hw
  simp only [goW]
  cases h:(wR d f).1 !=0
  ·have h0:(wR d f).1=0:=by simpa using h
   obtain ⟨g1,g2,g3⟩:=zGR hf (by omega) w h0
   simp only [Bool.false_eq_true,if_false]
   obtain ⟨i1,i2⟩:=zJu l (wR d f).2 (fun f hf=>hl f (List.mem_cons_of_mem _ hf)) g1 g2 (by omega) ho'
   refine ⟨i1,fun hz=>?_⟩
   obtain ⟨j1,j2,j3⟩:=i2 hz
   refine ⟨j1,j2,?_⟩
   simp only [List.length_cons]
   omega
  ·have h0:(wR d f).1≠0:=by simpa using h
   simp only [if_true]
   exact ⟨ho',fun h=>absurd h h0⟩
def st5 (d:zC):List File×Int×Int×Int×Bool:=(d.Files,d.Budget,d.Writes,d.Stop,d.Down)
def st6 (d:zC) (i:Nat):List File×Int×Int×Int×Bool×Int:=(d.Files,d.Budget,d.Writes,d.Stop,d.Down,(i:Int))
def zQj (r:Int×zC):Fl (Int×zC) (List File×Int×Int×Int×Bool):=if r.1 !=0 then .ret r else .nxt (st5 r.2)
theorem zP7 {W:List File} {b:(List File×Int×Int×Int×Bool×Int)→Option (Lp (List File×Int×Int×Int×Bool×Int) (Fl (Int×zC) (List File×Int×Int×Int×Bool)))}
  (hW:∀f∈W,okF f)
  (hstep:∀(i:Nat) (d:zC) (hi:i<W.length),d.fine→d.Down=false→b (st6 d i)=some (if (wR d W[i]).1 !=0 then .done (.ret (wR d W[i])) else .go (st6 (wR d W[i]).2 (i+1))))
  (hend:∀d,b (st6 d W.length)=some (.done (.nxt (st5 d)))):∀(k i:Nat) (d:zC),i+k=W.length→d.fine→d.Down=false→d.Writes+k≤2000000000→loop b (st6 d i)=some (zQj (goW (W.drop i) d))
 |0,i,d,hk,_,_,_=>by
  have:i=W.length:=by omega
  subst this
  rw [jR,hend,List.drop_length]
  rfl
 |k+1,i,d,hk,hf,hdn,hw=>by
  have hi:i<W.length:=by omega
  obtain ⟨k1,k2⟩:=hW _ (List.getElem_mem hi)
  obtain ⟨_,_,w⟩:=zGP hf hdn k1 k2
  rw [jR,hstep i d hi hf hdn,List.drop_eq_getElem_cons hi]
  simp only [goW]
  cases h:(wR d W[i]).1 !=0
  ·have h0:(wR d W[i]).1=0:=by simpa using h
   obtain ⟨g1,g2,g3⟩:=zGR hf (by omega) w h0
   simp only [Bool.false_eq_true,if_false,Option.bind_some,Lp.elim]
   exact zP7 hW hstep hend k (i+1) _ (by omega) g1 g2 (by omega)
  ·simp only [if_true,Option.bind_some,Lp.elim,zQj,h]
theorem zOo {W:List File} (hW:∀f∈W,okF f) (hl:W.length≤1000) {d:zC} (hf:d.fine) (hdn:d.Down=false) (hw:d.Writes+1000≤2000000000):jD W (d.Files,d.Budget,d.Writes,d.Stop,d.Down,0)=some (zQj (goW W d)):=by
 unfold jD
 refine zP7 (b:=kQ W) hW (fun i d hi hf hdn=>?_) (fun d=>?_) W.length 0 d (by omega) hf hdn (by omega)
 ·obtain ⟨fs,bu,wr,st,dn⟩:=d
  obtain ⟨k1,k2⟩:=hW _ (List.getElem_mem hi)
  obtain ⟨_,w,_⟩:=zGP hf hdn k1 k2
  unfold kQ st6
  rw [if_pos (by simp; omega)]
  simp only
  rw [zL hi]
  simp only [Option.bind_some,w,zM (show i<9223372036854775807 by omega)]
  cases (wR {Files:=fs,Budget:=bu,Writes:=wr,Stop:=st,Down:=dn} W[i]).1 !=0<;>rfl
 ·unfold kQ st6
  rw [if_neg (by simp)]
  rfl
theorem zMi {c:List Pack} {L:List Int} (h0:CF c=0) (hp:Places c L) (hl:L.length≤1000) (a:List Int) (n:Int) {d:zC} (hf:d.fine) (hdn:d.Down=false) (hw:d.Writes+1000≤2000000000):
  zDT c a n L (d.Files,d.Budget,d.Writes,d.Stop,d.Down,0)=some (zQj (goW (L.map (yF c)) d)):=by
 have hk:∀k∈L,NF (pat c k).Name =0∧VF (pat c k).Version =0∧(1≤(pat c k).Size ∧(pat c k).Size ≤200):=fun k hk=>zF0 h0 _ (tZ (hp k hk)).2
 unfold zDT
 refine zP7 (W:=L.map (yF c)) (b:=zBI c a n L) (fun f hf=>?_) (fun i d hi hf hdn=>?_) (fun d=>?_) L.length 0 d (by simp) hf hdn (by omega)
 ·obtain ⟨k,hkm,rfl⟩:=List.mem_map.1 hf
  obtain ⟨p1,p2,p3⟩:=hk k hkm
  refine ⟨zJE p1 p2,?_⟩
  unfold yF
  simp only [zAw]
  omega
 ·obtain ⟨fs,bu,wr,st,dn⟩:=d
  have hi':i<L.length:=by simpa using hi
  obtain ⟨p1,p2,p3⟩:=hk _ (List.getElem_mem hi')
  obtain ⟨e1,_⟩:=tZ (hp _ (List.getElem_mem hi'))
  have hx:(zG9 (pat c L[i])).length ≤1048576:=by rw [zAw]; omega
  obtain ⟨w,_,_⟩:=zGP hf hdn (f:=yF c L[i]) (zJE p1 p2) hx
  simp only [yF] at w
  unfold zBI st6
  rw [if_pos (by simp; omega)]
  simp only
  rw [zL hi']
  simp only [Option.bind_some,e1,zFz p1 p2,zHr p1 p2 p3,w,zM (show i<9223372036854775807 by omega),List.getElem_map]
  simp only [yF]
  by_cases h:(wR {Files:=fs,Budget:=bu,Writes:=wr,Stop:=st,Down:=dn} {Path:=zD2 (pat c L[i]),Data:=zG9 (pat c L[i])}).1=0
  ·have hb:((wR {Files:=fs,Budget:=bu,Writes:=wr,Stop:=st,Down:=dn} {Path:=zD2 (pat c L[i]),Data:=zG9 (pat c L[i])}).1 !=0)=false:=by simpa using h
   simp only [hb,Bool.false_eq_true,if_false]
  ·have hb:((wR {Files:=fs,Budget:=bu,Writes:=wr,Stop:=st,Down:=dn} {Path:=zD2 (pat c L[i]),Data:=zG9 (pat c L[i])}).1 !=0)=true:=by simpa using h
   simp only [hb,if_true]
 ·unfold zBI st6
  rw [if_neg (by simp)]
  rfl
def zAh (d:zC) (b:Int):Int→List File→Bool
 |_,[]=>false
 |s,f::l=>decide (s+((f.Data.length:Int)-oldLen d f.Path)>b)||zAh d b (s+((f.Data.length:Int)-oldLen d f.Path)) l
theorem zDh (d:zC) (b:Int):∀(l r:List File) (s:Int),zAh d b s (l++r)=(zAh d b s l||zAh d b (s+zAg d l) r)
 |[],r,s=>by simp [zAh,zAg]
 |f::l,r,s=>by
  simp only [List.cons_append,zAh,zAg,zDh d b l r,Bool.or_assoc]
  rw [show s+((f.Data.length:Int)-oldLen d f.Path)+zAg d l=s+((f.Data.length:Int)-oldLen d f.Path+zAg d l) by omega]
theorem zNG {d:zC} (hg:d.good) (p:ByteArray):∃k:Int,∃q:Bool,xV d p=some (k,q)∧zIF d p=if q then 0 else 1:=by
 unfold xV
 rcases zGU d p hg.len hg.sorted with ⟨k,hk,_,e2,hp⟩|⟨_,hno,k,e2,_⟩
 ·rw [e2]
  refine ⟨_,_,rfl,?_⟩
  unfold zIF fileOf
  rw [zNu hg.sorted hk hp]
  rfl
 ·rw [e2]
  refine ⟨_,_,rfl,?_⟩
  unfold zIF fileOf
  rw [zGC hno]
  rfl
theorem zNj {d:zC} (hg:d.good) {W:List File} (hd:∀f∈W,f.Data.length≤1000) (hl:W.length≤1000):
  jC d W (total d.Files,(d.Files.length:Int),0)=some (if zAh d d.Budget (total d.Files) W then .ret (8,d) else .nxt ((d.Files.length:Int)+zGK d W)):=by
 have ht:=hg.room
 have hb1:=hg.b1
 have ht0:=zC3 d.Files
 have hfl:=hg.len
 have hbnd:∀i,-4000000≤zAg d (W.take i)∧zAg d (W.take i)≤10000000:=fun i=>by
  have:=zFy hg (W.take i) (fun f hf=>by have:=hd f (List.mem_of_mem_take hf); omega)
  rw [List.length_take] at this
  omega
 unfold jC
 obtain ⟨t,e,ht⟩:=kS (b:=zAe d W) (fun i s=>s=(total d.Files+zAg d (W.take i),(d.Files.length:Int)+zGK d (W.take i),(i:Int))∧zAh d d.Budget (total d.Files) (W.take i)=false) W.length
   (fun t=>t=(if zAh d d.Budget (total d.Files) W then .ret (8,d) else .nxt ((d.Files.length:Int)+zGK d W))) (by
  rintro i _ hi ⟨rfl,ho⟩
  have b1:=hbnd i
  have b2:=hbnd (i+1)
  have htk:W.take (i+1)=W.take i++[W[i]]:=List.take_succ_eq_append_getElem hi
  have hnext:zAg d (W.take (i+1))=zAg d (W.take i)+((W[i].Data.length :Int)-oldLen d W[i].Path):=by
   rw [htk,zEI]
   simp only [zAg]
   omega
  have hab:zGK d (W.take (i+1))=zGK d (W.take i)+zIF d W[i].Path :=by
   rw [htk,zFw]
   simp only [zGK]
   omega
  have habb:=zFc d (W.take i)
  rw [List.length_take] at habb
  have hov:zAh d d.Budget (total d.Files) (W.take (i+1))=decide (total d.Files+zAg d (W.take (i+1))>d.Budget):=by
   rw [htk,zDh,ho,←htk,hnext]
   simp only [zAh,Bool.or_false,Bool.false_or]
   rw [Int.add_assoc]
  unfold zAe
  rw [if_pos (by simp; omega)]
  simp only
  rw [zL hi]
  simp only [Option.bind_some]
  rw [zNa hg (by have:=hd _ (List.getElem_mem hi); omega)]
  simp only [Option.bind_some]
  rw [yU (by omega) (by omega),zM (show i<9223372036854775807 by omega),Int.add_assoc,←hnext]
  by_cases hc:total d.Files+zAg d (W.take (i+1))>d.Budget
  ·rw [if_pos (by simpa using hc)]
   refine .inr ⟨_,rfl,?_⟩
   have:zAh d d.Budget (total d.Files) W=true:=by
    rw [←List.take_append_drop (i+1) W,zDh,hov,decide_eq_true hc]
    rfl
   rw [this]
   rfl
  ·rw [if_neg (by simpa using hc)]
   obtain ⟨k,q,e2,e3⟩:=zNG hg W[i].Path
   rw [e2]
   simp only [Option.bind_some]
   rw [yU (x:=(d.Files.length:Int)+zGK d (W.take i)+1) (by omega) (by omega)]
   refine .inl ⟨_,?_,rfl,by rw [hov]; simpa using hc⟩
   rw [hab,e3]
   cases q
   ·simp only [Bool.not_false,if_true,Option.bind_some,Bool.false_eq_true,if_false,Int.add_assoc]
   ·simp only [Bool.not_true,Bool.false_eq_true,if_false,Option.bind_some,if_true,Int.add_zero]) (by
  rintro _ ⟨rfl,ho⟩
  unfold zAe
  rw [if_neg (by simp)]
  rw [List.take_length] at ho ⊢
  rw [ho]
  exact ⟨_,rfl,rfl⟩) W.length 0 (total d.Files,(d.Files.length:Int),0) (by omega) ⟨by simp [zAg,zGK],by simp [zAh]⟩
 rw [e,ht]
theorem zJt (x y b:Int):∃m,zAn x y=some m∧decide (m>b)=(decide (x>b)||decide (y>b)):=by
 unfold zAn
 by_cases h:x>y
 ·rw [if_pos (by simpa using h)]
  refine ⟨_,rfl,?_⟩
  by_cases h1:x>b
  ·simp [h1]
  ·have:¬y>b:=by omega
   simp [h1,this]
 ·rw [if_neg (by simpa using h)]
  refine ⟨_,rfl,?_⟩
  by_cases h1:x>b
  ·have:y>b:=by omega
   simp [this]
  ·simp [h1]
theorem zNP {c:List Pack} {d:zC} (h0:CF c=0) (hg:d.good) (hb:Byt d) {a:List Int} (hs:zMT c a=true) (hn:uF d.Files≤999999):
  ∃pk,zEE c d a=some pk∧decide (pk>d.Budget)=zAh d d.Budget (total d.Files) (zBw c d a):=by
 obtain ⟨g3,g4⟩:=zEX.1 hs
 have hcl:=(zHf h0).1
 have hal:a.length≤24:=by
  rcases zGw (lo:=0) (hi:=c.length) g3 g4 with h|h
  ·omega
  ·rw [h]; simp
 have hP:Places c a:=g4
 obtain ⟨t1,t2⟩:=zFo (zKo h0) hP (by omega)
 have hfl:=hg.len
 have hl:d.Files.length≤1048576:=by omega
 obtain ⟨hnn,hn1⟩:=zGx hg.sorted
 obtain ⟨_,d2,_⟩:=zH6 hn1 hn
 have hds:(zF3 (uF d.Files).toNat).size ≤6:=by
  rw [←xI,zEw]
  exact (zFn (by omega)).2
 have hLl:(zEg c d a).length ≤24:=Nat.le_trans (List.length_filter_le _ _) hal
 have hLP:∀k∈zEg c d a,0≤k∧k<c.length:=fun k hk=>hP k (List.mem_filter.1 hk).1
 have hroom:=hg.room
 have hb1:=hg.b1
 have ht0:=zC3 d.Files
 have hT:wV d=some (total d.Files):=zFl _ hl (fun f hm=>by have:=hg.data f hm; omega)
 have hgen:oldLen d (zJQ (uF d.Files))=0:=by
  unfold oldLen fileOf
  rw [zGC fun f hf he=>hnn (zLJ hn1 hn hf he)]
 unfold zEE
 rw [zER (zF0 h0) hg hb hP (by omega),t1,(zGv d hl hg.sorted).1,hT]
 simp only [Option.bind_some,d2]
 have hWL:zBw c d a=(zEg c d a).map (yF c)++[{Path:=zJQ (uF d.Files),Data:=s2b (zIZ c a)},{Path:=bs [99,117,114],Data:=s2b (zF3 (uF d.Files).toNat)}]:=rfl
 rw [hWL]
 generalize zEg c d a=L at*
 generalize total d.Files=T at*
 have hbnd:∀i,-100000≤zAg d ((L.take i).map (yF c))∧zAg d ((L.take i).map (yF c))≤240000:=fun i=>by
  have:=zFy hg ((L.take i).map (yF c)) (fun f hf=>by
   obtain ⟨k,hk,rfl⟩:=List.mem_map.1 hf
   obtain ⟨_,e2⟩:=tZ (hLP k (List.mem_of_mem_take hk))
   obtain ⟨_,_,p3⟩:=zF0 h0 _ e2
   unfold yF
   simp only [zAw]
   omega)
  rw [List.length_map,List.length_take] at this
  omega
 obtain ⟨⟨v,pk⟩,e,hv,hpk⟩:=kS (b:=zCw c d a L) (fun i s=>s.1=T+zAg d ((L.take i).map (yF c))∧s.2.2=(i:Int)∧decide (s.2.1>d.Budget)=zAh d d.Budget T ((L.take i).map (yF c))) L.length
   (fun t=>t.1=T+zAg d (L.map (yF c))∧decide (t.2>d.Budget)=zAh d d.Budget T (L.map (yF c))) (by
  rintro i ⟨v,pk,j⟩ hi ⟨hv,hj,hpk⟩
  simp only at hv hj hpk
  subst hj
  obtain ⟨e1,e2⟩:=tZ (hLP _ (List.getElem_mem hi))
  obtain ⟨p1,p2,p3⟩:=zF0 h0 _ e2
  have b1:=hbnd i
  have b2:=hbnd (i+1)
  have htk:L.take (i+1)=L.take i++[L[i]]:=List.take_succ_eq_append_getElem hi
  have hnext:zAg d ((L.take (i+1)).map (yF c))=zAg d ((L.take i).map (yF c))+((pat c L[i]).Size -oldLen d (zD2 (pat c L[i]))):=by
   rw [htk,List.map_append,zEI]
   simp only [List.map_cons,List.map_nil,zAg,yF,zAw]
   omega
  have hob:=zDF hg (zD2 (pat c L[i]))
  have hv2:T+zAg d ((L.take (i+1)).map (yF c))=v+(pat c L[i]).Size -oldLen d (zD2 (pat c L[i])):=by omega
  obtain ⟨m,em,hm⟩:=zJt pk (T+zAg d ((L.take (i+1)).map (yF c))) d.Budget
  have hov:decide (m>d.Budget)=zAh d d.Budget T ((L.take (i+1)).map (yF c)):=by
   rw [hm,hpk,htk,List.map_append,zDh,←List.map_append,←htk]
   simp only [List.map_cons,List.map_nil,zAh,Bool.or_false,yF,zAw]
   rw [show T+zAg d ((L.take i).map (yF c))+((((pat c L[i]).Size.toNat :Nat):Int)-oldLen d (zD2 (pat c L[i])))=T+zAg d ((L.take (i+1)).map (yF c)) by omega]
  unfold zCw
  rw [if_pos (by simp; omega)]
  simp only
  rw [zL hi]
  simp only [Option.bind_some,e1,zFz p1 p2,zM (show i<9223372036854775807 by omega)]
  rw [yU (x:=v+(pat c L[i]).Size) (by omega) (by omega)]
  rcases zEq d (zD2 (pat c L[i])) hg with ⟨k,hk,f1,_,f3⟩|⟨f1,_,f3⟩
  ·have ho:oldLen d (zD2 (pat c L[i]))=(d.Files[k].Data.length :Int):=by unfold oldLen; rw [f3]
   rw [f1]
   simp only [Option.bind_some]
   rw [if_pos (by simp),zL hk]
   simp only [Option.bind_some]
   rw [yU (by omega) (by omega),←ho,←hv2,em]
   exact .inl ⟨_,rfl,rfl,rfl,hov⟩
  ·have ho:oldLen d (zD2 (pat c L[i]))=0:=by unfold oldLen; rw [f3]
   rw [f1]
   simp only [Option.bind_some]
   rw [if_neg (by decide),show v+(pat c L[i]).Size =T+zAg d ((L.take (i+1)).map (yF c)) by omega]
   simp only [Option.bind_some]
   rw [em]
   exact .inl ⟨_,rfl,rfl,rfl,hov⟩) (by
  rintro ⟨v,pk,j⟩ ⟨hv,hj,hpk⟩
  simp only at hv hj hpk
  subst hj
  unfold zCw
  rw [if_neg (by simp)]
  rw [List.take_length] at hv hpk
  exact ⟨_,rfl,hv,hpk⟩) L.length 0 (T,T,0) (by omega) ⟨by simp [zAg],rfl,by simp [zAh]; omega⟩
 simp only at hv hpk
 unfold zEQ
 rw [e]
 simp only [Option.bind_some]
 have b1:=hbnd L.length
 rw [List.take_length] at b1
 have hob:=zDF hg (bs [99,117,114])
 rw [yU (x:=v+((zIZ c a).size :Int)) (by omega) (by omega)]
 obtain ⟨m1,em1,hm1⟩:=zJt pk (v+((zIZ c a).size :Int)) d.Budget
 rw [em1]
 simp only [Option.bind_some]
 rw [yU (x:=v+((zIZ c a).size :Int)+((zF3 (uF d.Files).toNat).size :Int)) (by omega) (by omega)]
 have hfin:∀x,x=v+((zIZ c a).size :Int)+((zF3 (uF d.Files).toNat).size :Int)-oldLen d (bs [99,117,114])→∃p,((zAn m1 x).bind fun x62=>some x62)=some p∧decide (p>d.Budget)=zAh d d.Budget T (L.map (yF c)++[{Path:=zJQ (uF d.Files),Data:=s2b (zIZ c a)},{Path:=bs [99,117,114],Data:=s2b (zF3 (uF d.Files).toNat)}]):=by
  rintro x rfl
  obtain ⟨m2,em2,hm2⟩:=zJt m1 (v+((zIZ c a).size :Int)+((zF3 (uF d.Files).toNat).size :Int)-oldLen d (bs [99,117,114])) d.Budget
  rw [em2]
  refine ⟨m2,rfl,?_⟩
  rw [hm2,hm1,hpk,zDh]
  simp only [zAh,zFi,hgen,Bool.or_false,Int.sub_zero]
  rw [←hv,Bool.or_assoc]
  rw [show v+((zIZ c a).size :Int)+(((zF3 (uF d.Files).toNat).size :Int)-oldLen d (bs [99,117,114]))=v+((zIZ c a).size :Int)+((zF3 (uF d.Files).toNat).size :Int)-oldLen d (bs [99,117,114]) by omega]
 rcases zEq d (bs [99,117,114]) hg with ⟨k,hk,f1,_,f3⟩|⟨f1,_,f3⟩
 ·have ho:oldLen d (bs [99,117,114])=(d.Files[k].Data.length :Int):=by unfold oldLen; rw [f3]
  rw [f1]
  simp only [Option.bind_some]
  rw [if_pos (by simp),zL hk]
  simp only [Option.bind_some]
  rw [yU (by omega) (by omega)]
  exact hfin _ (by rw [ho])
 ·have ho:oldLen d (bs [99,117,114])=0:=by unfold oldLen; rw [f3]
  rw [f1]
  simp only [Option.bind_some]
  rw [if_neg (by decide)]
  simp only [Option.bind_some]
  exact hfin _ (by rw [ho]; omega)
theorem zJ1 (a1:(List Pack)) (a2:zC) (a3:(List Int)) (k0:a1.length≤maxLen∧∀y1∈a1,Pack.ok y1) (k1:zC.ok a2) (k2:a3.length≤maxLen∧∀y1∈a3,IntKind.i64.min≤y1∧y1≤IntKind.i64.max) (s0:(a1.length≤1048576∧∀y0∈a1,Pack.sm 1048576 y0)) (s1:(zC.sm 1048576 a2)) (s2:(a3.length≤1048576∧∀y0∈a3,True)):∃r,zAE a1 a2 a3=some r∧tN a1 a2 a3=some r∧(zI.sm 1049600 r):=by
 have hb:Byt a2:=fun f hf c hc=>by have:=(k1.1.2 f hf).2.2 c hc; simpa [IntKind.min,IntKind.max,IntKind.signed,IntKind.bits] using this
 obtain ⟨k,ek,ea,hgood⟩:=zRc s0 s1
 have hnone:∀q:Int,zI.sm 1049600 {Code:=q,zC:= {Files:=[],Budget:=0,Writes:=0,Stop:=0,Down:=false}}:=zLR
 unfold zAE tN wH wE
 rw [ea,zFe a1 s0,zI9,ek]
 simp only [Option.bind_some]
 by_cases h0:CF a1=0
 ·simp only [h0,bne_self_eq_false,Bool.false_eq_true,if_false]
  by_cases h1:k=0
  ·subst h1
   have hg:=hgood rfl
   simp only [bne_self_eq_false,Bool.false_eq_true,if_false,beq_self_eq_true,if_true,Option.bind_some]
   cases hdn:a2.Down
   ·simp only [Bool.false_eq_true,if_false,bne_self_eq_false,Option.bind_some]
    rw [zNJ a2 (zC.zNt s1),zJV a2 (zC.zNt s1)]
    simp only [Option.bind_some]
    have hok:okD a2:=⟨hg.len,fun f hf=>⟨hg.data f hf,(s1.1.2 f hf).1⟩⟩
    have hrun:∃r:Int×zC,zEn a1 a2 a3=some r∧kT a2 a1 a3=some r∧okD r.2:=by
     unfold zEn kT
     have hSF:SF a1 a3=if zMT a1 a3 then 0 else 1:=by unfold SF; simp [h0]
     rw [zMy s0.1 s2.1,zJo s0 s2.1,hSF]
     simp only [Option.bind_some]
     cases hs:zMT a1 a3
     ·simp only [Bool.not_false,if_true,Bool.false_eq_true,if_false,Option.bind_some]
      exact ⟨_,rfl,rfl,hok⟩
     ·have hP:Places a1 a3:=(zEX.1 hs).2
      have hSF0:(SF a1 a3==0)=true:=by rw [hSF,hs]; rfl
      rw [zL3 s0 hP s2.1,zIg s0 s2.1 hSF0]
      unfold zRA
      rw [hSF0]
      simp only [Bool.not_true,Bool.false_eq_true,if_false,if_true,Option.bind_some,bne_self_eq_false,Bool.true_and]
      cases hgd:((zGp a1 a3).length :Int)==0
      ·simp only [Bool.not_false,if_true]
       exact ⟨_,rfl,rfl,hok⟩
      ·have hl:a2.Files.length≤1048576:=by have:=hg.len; omega
       obtain ⟨n1,n2⟩:=zGv a2 hl hg.sorted
       simp only [Bool.not_true,Bool.false_eq_true,if_false,n1,n2,Option.bind_some]
       by_cases hn:uF a2.Files>999999
       ·simp only [hn,decide_true,if_true]
        exact ⟨_,rfl,rfl,hok⟩
       ·have hn':uF a2.Files≤999999:=by omega
        have hn1:=(zGx hg.sorted).2
        obtain ⟨d1,d2,d3⟩:=zH6 hn1 hn'
        have c1:=zOp h0 hg hb hs hn'
        obtain ⟨w1,w2,w3⟩:=zLd h0 hg hb hs hn'
        obtain ⟨pk,p1,p2⟩:=zNP h0 hg hb hs hn'
        have hT:wS a2=some (total a2.Files):=by
         rw [zIL]
         exact zFl _ hl (fun f hm=>by have:=hg.data f hm; omega)
        have hab:=zFc a2 (zBw a1 a2 a3)
        have hwa:=zM2 (c:=a1) hg (a:=a3) hn'
        have hlen:=hg.len
        have hw1:=hg.w1
        simp only [hn,decide_false,Bool.false_eq_true,if_false]
        rw [c1,p1,w1,hT]
        simp only [Option.bind_some]
        rw [zNj hg w2 (by omega),p2,←hwa]
        simp only [Option.bind_some]
        cases hov:zAh a2 a2.Budget (total a2.Files) (zBw a1 a2 a3)
        ·simp only [Bool.false_eq_true,if_false,Fl.go]
         rw [yU (by omega) (by omega)]
         by_cases hc:(a2.Files.length:Int)+zGK a2 (zBw a1 a2 a3)>120
         ·simp only [hc,decide_true,if_true]
          exact ⟨_,rfl,rfl,hok⟩
         ·simp only [hc,decide_false,Bool.false_eq_true,if_false]
          have hcl:=(zHf h0).1
          have hal:a3.length≤24:=by
           rcases zGw (lo:=0) (hi:=a1.length) (zEX.1 hs).1 (zEX.1 hs).2 with h|h
           ·omega
           ·rw [h]; simp
          obtain ⟨t1,t2⟩:=zFo (zKo h0) hP (by omega)
          have hLl:(zEg a1 a2 a3).length ≤24:=Nat.le_trans (List.length_filter_le _ _) hal
          have hLP:Places a1 (zEg a1 a2 a3):=fun k hk=>hP k (List.mem_filter.1 hk).1
          have hA:∀f∈(zEg a1 a2 a3).map (yF a1),okF f:=fun f hf=>by
           obtain ⟨k,hk,rfl⟩:=List.mem_map.1 hf
           obtain ⟨_,e2⟩:=tZ (hLP k hk)
           obtain ⟨q1,q2,q3⟩:=zF0 h0 _ e2
           refine ⟨zJE q1 q2,?_⟩
           unfold yF
           simp only [zAw]
           omega
          have hB:okF {Path:=zJQ (uF a2.Files),Data:=s2b (zIZ a1 a3)}:=⟨zPY hn',by simp only [zFi]; omega⟩
          have hC:okF {Path:=bs [99,117,114],Data:=s2b (zF3 (uF a2.Files).toNat)}:=⟨zRf,by simp only; omega⟩
          have hW:∀f∈zBw a1 a2 a3,okF f:=fun f hf=>by
           unfold zBw at hf
           rcases List.mem_append.1 hf with h|h
           ·exact hA f h
           ·simp only [List.mem_cons,List.not_mem_nil,or_false] at h
            rcases h with rfl|rfl
            ·exact hB
            ·exact hC
          have hgl:=zKz (uF a2.Files)
          have hin:inB (uF a2.Files) 1 999999=true:=by unfold inB; simp; omega
          rw [hin] at hgl
          obtain ⟨hfin,_⟩:=zJu (zBw a1 a2 a3) a2 hW hg.fine hdn (by omega) hok
          obtain ⟨m1,m2⟩:=zJu _ a2 hA hg.fine hdn (by rw [List.length_map]; omega) hok
          have r2:=zOo hW (by omega) hg.fine hdn (by omega)
          have r1:=zMi h0 hLP (by omega) a3 (uF a2.Files) hg.fine hdn (by omega)
          rw [zER (zF0 h0) hg hb hP (by omega)]
          rw [hdn] at r1 r2
          simp only [Option.bind_some,hdn,r1,r2]
          refine ⟨goW (zBw a1 a2 a3) a2,?_,?_,hfin⟩
          ·unfold zBw
           rw [zIG]
           unfold zQj
           cases hz:(goW ((zEg a1 a2 a3).map (yF a1)) a2).1 !=0
           ·have hz0:(goW ((zEg a1 a2 a3).map (yF a1)) a2).1=0:=by simpa using hz
            obtain ⟨x1,x2,x3⟩:=m2 hz0
            rw [List.length_map] at x3
            generalize (goW ((zEg a1 a2 a3).map (yF a1)) a2).2=d' at*
            simp only [Bool.false_eq_true,if_false,Option.bind_some,Fl.go,hgl,if_true,t1,st5]
            obtain ⟨y1,_,y3⟩:=zGP x1 x2 hB.1 hB.2
            simp only at y1
            rw [show ({Files:=d'.Files,Budget:=d'.Budget,Writes:=d'.Writes,Stop:=d'.Stop,Down:=d'.Down}:zC)=d' from rfl,y1]
            simp only [Option.bind_some,goW]
            cases hy:(wR d' {Path:=zJQ (uF a2.Files),Data:=s2b (zIZ a1 a3)}).1 !=0
            ·have hy0:(wR d' {Path:=zJQ (uF a2.Files),Data:=s2b (zIZ a1 a3)}).1=0:=by simpa using hy
             obtain ⟨z1,z2,z3⟩:=zGR x1 (by omega) y3 hy0
             obtain ⟨u1,_,_⟩:=zGP z1 z2 hC.1 hC.2
             simp only at u1
             simp only [Bool.false_eq_true,if_false,d2,Option.bind_some,u1]
             generalize wR (wR d' {Path:=zJQ (uF a2.Files),Data:=s2b (zIZ a1 a3)}).2 {Path:=bs [99,117,114],Data:=s2b (zF3 (uF a2.Files).toNat)}=u
             cases hu:u.1 !=0
             ·have hu0:u.1=0:=by simpa using hu
              simp only [Bool.false_eq_true,if_false,hu0]
             ·simp only [if_true]
            ·simp only [if_true]
           ·simp only [if_true,Fl.go]
          ·unfold zQj
           generalize goW (zBw a1 a2 a3) a2=u
           cases hu:u.1 !=0
           ·have hu0:u.1=0:=by simpa using hu
            simp only [Bool.false_eq_true,if_false,Fl.go,st5]
            rw [←hu0]
           ·simp only [if_true,Fl.go]
        ·simp only [if_true,Fl.go]
         exact ⟨_,rfl,rfl,hok⟩
    obtain ⟨r,r1,r2,r3⟩:=hrun
    unfold zAp
    rw [r1,r2]
    simp only [Option.bind_some,zL8,zOc]
    exact ⟨_,rfl,rfl,zP6 (zQ5 r3)⟩
   ·simp only [if_true,Option.bind_some]
    exact ⟨_,rfl,rfl,hnone 9⟩
  ·have hk:(k !=0)=true:=by simpa using h1
   have hk':(k==0)=false:=by simpa using h1
   simp only [hk,hk',if_true,Option.bind_some,Bool.false_eq_true,if_false]
   exact ⟨_,rfl,rfl,hnone k⟩
 ·have hk:(CF a1 !=0)=true:=by simpa using h0
  simp only [hk,if_true]
  exact ⟨_,rfl,rfl,hnone _⟩
theorem zGq (a1:(List Pack)) (a2:zC) (a3:(List Int)) (k0:a1.length≤maxLen∧∀y1∈a1,Pack.ok y1) (k1:zC.ok a2) (k2:a3.length≤maxLen∧∀y1∈a3,IntKind.i64.min≤y1∧y1≤IntKind.i64.max):vD a1 a2 a3=some true:=zFU a1 a2 a3 k0 k1 k2 (zJ1 a1 a2 a3 k0 k1 k2)
end Go.Told

import Derived.Test.YtlagdfkkokgakaaDoorToldNewStore
set_option linter.unusedVariables false
set_option maxRecDepth 4000
namespace Go.Told
open Go Go.Im
theorem wQ {x:Int} (h1: -9223372036854775808≤x) (h2:x≤9223372036854775807):w64 x=x:=by
 unfold w64
 rw [IntKind.wrap_i64]
 omega
theorem vO {i:Nat} (h:i<9223372036854775807):w64 ((i:Int)+1)=((i+1:Nat):Int):=by
 rw [wQ (by omega) (by omega)]; omega
theorem zBK {T:Type} {S:Type} {b:S→Option (Lp S T)} (I:Nat→S→Prop) (n:Nat) (Q:T→Prop) (hstep:∀i s,i<n→I i s→(∃s',b s=some (.go s')∧I (i+1) s')∨∃t,b s=some (.done t)∧Q t)
  (hend:∀s,I n s→∃t,b s=some (.done t)∧Q t):∀(k i:Nat) (s:S),i+k=n→I i s→∃t,loop b s=some t∧Q t
 |0,i,s,hk,hI=>by
  obtain ⟨t,h1,h2⟩:=hend s (by rw [show n=i by omega]; exact hI)
  exact ⟨t,by rw [wF,h1]; rfl,h2⟩
 |k+1,i,s,hk,hI=>by
  rcases hstep i s (by omega) hI with ⟨s',h1,h2⟩|⟨t,h1,h2⟩
  ·obtain ⟨t,h3,h4⟩:=zBK I n Q hstep hend k (i+1) s' (by omega) h2
   exact ⟨t,by rw [wF,h1]; exact h3,h4⟩
  ·exact ⟨t,by rw [wF,h1]; rfl,h2⟩
theorem tN {α:Type} {xs:List α} {i:Nat} (h:i<xs.length):idx xs (i:Int)=some xs[i]:=by
 unfold idx
 rw [if_pos (by omega)]
 simp [h]
theorem wR {α:Type} (l r:List α) (x:α):idx (l++x::r) (l.length:Int)=some x:=by
 rw [tN (by simp)]
 simp
theorem zB5 {R:Type} (n:Nat) {b:Int→Option (Lp Int (Fl R Unit))} (hstep:∀i:Nat,i<n→b (i:Int)=some (.go ((i+1:Nat):Int))) (hend:b (n:Int)=some (.done (.nxt ()))):loop b 0=some (.nxt ()):=by
 obtain ⟨t,h1,h2⟩:=zBK (b:=b) (fun i s=>s=(i:Int)) n (fun t=>t= .nxt ()) (by
  rintro i s hi rfl
  exact .inl ⟨_,hstep i hi,rfl⟩) (by
  rintro s rfl
  exact ⟨_,hend,rfl⟩) n 0 0 (by omega) rfl
 rw [h1,h2]
def pm {α:Type} (m:α→Int→α) (c:α→Int):List α→Int→List α
 |[],_=>[]
 |x::xs,k=>m x k::pm m c xs (k+c x)
def cs {α:Type} (c:α→Int):List α→Int
 |[]=>0
 |x::xs=>c x+cs c xs
theorem wZ {α:Type} (m:α→Int→α) (c:α→Int):∀(xs:List α) (k:Int),(pm m c xs k).length =xs.length
 |[],_=>rfl
 |x::xs,k=>by simp [pm,wZ m c xs]
theorem xL {α:Type} {c:α→Int} (hc:∀a,0≤c a):∀(xs:List α),0≤cs c xs
 |[]=>Int.le_refl _
 |x::xs=>by have:=hc x; have:=xL hc xs; simp only [cs]; omega
theorem zDa {α:Type} {c:α→Int} {C:Int} {N:Nat} (hC:0≤C):∀(xs:List α),(∀a∈xs,c a≤C)→xs.length≤N→cs c xs≤N*C
 |[],_,_=>Int.mul_nonneg (by omega) hC
 |x::xs,h,hl=>by
  have h1:=h x (by simp)
  simp only [List.length_cons] at hl
  have h2:=zDa (N:=N-1) hC xs (fun a ha=>h a (by simp [ha])) (by omega)
  simp only [cs]
  have:((N-1:Nat):Int)*C+C=N*C:=by
   have e:((N-1:Nat):Int)=(N:Int)-1:=by omega
   rw [e,Int.sub_mul,Int.one_mul]; omega
  omega
theorem jA {α:Type} (m:α→Int→α) (c:α→Int) (P:α→Prop) (hc:∀a,0≤c a) {b:(List α×Int×Int)→Option (Lp (List α×Int×Int) (List α×Int))}
  (hstep:∀(l r:List α) (x:α) (k:Int),P x→0≤k→k+c x≤9223372036854775807→l.length<9223372036854775807→b (l++x::r,k,(l.length:Int))=some (.go (l++m x k::r,k+c x,((l.length+1:Nat):Int))))
  (hend:∀(l:List α) (k:Int),b (l,k,(l.length:Int))=some (.done (l,k))):∀(xs l:List α) (k:Int),(∀x∈xs,P x)→0≤k→k+cs c xs≤9223372036854775807→l.length+xs.length<9223372036854775807→
  loop b (l++xs,k,(l.length:Int))=some (l++pm m c xs k,k+cs c xs)
 |[],l,k,_,_,_,_=>by
  rw [wF,List.append_nil,hend]
  simp [pm,cs,Lp.elim]
 |x::xs,l,k,hP,h0,h1,h2=>by
  have hx:=hc x
  have hxs:=xL hc xs
  simp only [cs] at h1
  simp only [List.length_cons] at h2
  rw [wF,hstep l xs x k (hP x (by simp)) h0 (by omega) (by omega)]
  simp only [Option.bind_some,Lp.elim]
  have:=jA m c P hc hstep hend xs (l++[m x k]) (k+c x) (fun y hy=>hP y (by simp [hy])) (by omega) (by omega) (by simp; omega)
  simp only [List.length_append,List.length_cons,List.length_nil,List.append_assoc,List.cons_append,List.nil_append] at this
  rw [this]
  simp only [pm,cs]
  congr 2
  omega
theorem tC {α:Type} (m:α→Int→α) (c:α→Int) (P:α→Prop) (hc:∀a,0≤c a) {b:List α→(Int×Int)→Option (Lp (Int×Int) (Fl Int Int))}
  (hstep:∀(l r:List α) (x:α) (k:Int),P x→0≤k→k+c x≤9223372036854775807→l.length<9223372036854775807→b (l++m x k::r) (k,(l.length:Int))=some (.go (k+c x,((l.length+1:Nat):Int))))
  (hend:∀(l:List α) (k:Int),b l (k,(l.length:Int))=some (.done (.nxt k))):∀(xs l:List α) (k:Int),(∀x∈xs,P x)→0≤k→k+cs c xs≤9223372036854775807→l.length+xs.length<9223372036854775807→
  loop (b (l++pm m c xs k)) (k,(l.length:Int))=some (.nxt (k+cs c xs))
 |[],l,k,_,_,_,_=>by
  rw [wF,pm,List.append_nil,hend]
  simp [cs,Lp.elim]
 |x::xs,l,k,hP,h0,h1,h2=>by
  have hx:=hc x
  have hxs:=xL hc xs
  simp only [cs] at h1
  simp only [List.length_cons] at h2
  rw [pm,wF,hstep l _ x k (hP x (by simp)) h0 (by omega) (by omega)]
  simp only [Option.bind_some,Lp.elim]
  have:=tC m c P hc hstep hend xs (l++[m x k]) (k+c x) (fun y hy=>hP y (by simp [hy])) (by omega) (by omega) (by simp; omega)
  simp only [List.length_append,List.length_cons,List.length_nil,List.append_assoc,List.cons_append,List.nil_append] at this
  rw [this]
  simp only [cs]
  congr 2
  omega
theorem kP {α β:Type} {xs:List α} {ys:List β} (h:xs.length=ys.length):same xs ys=some ():=if_pos h
theorem zBC {α:Type} (l r:List α) (x y:α):(l++x::r).set l.length y=l++y::r:=by
 rw [List.set_append_right _ _ (Nat.le_refl _)]
 simp
def c1 {α:Type} (_:α):Int:=1
theorem vB {α:Type} (a:α):0≤c1 a:=by unfold c1; decide
theorem zDv {α:Type} {B:Nat} {xs ys:List α} (h:(xs.length+ys.length)*B≤140737488355328) (h2:xs.length+ys.length≤4611686018427387904):app B xs ys=some (xs++ys):=if_pos ⟨h,h2⟩
theorem kY {S T:Type} {b:S→Option (Lp S T)} (I:S→Prop) (μ:S→Nat) (Q:T→Prop) (step:∀s,I s→(∃s',b s=some (.go s')∧I s'∧μ s'<μ s)∨∃t,b s=some (.done t)∧Q t):∀(n:Nat) (s:S),μ s≤n→I s→∃t,loop b s=some t∧Q t
 |0,s,hn,hI=>by
  rcases step s hI with ⟨s',_,_,h3⟩|⟨t,h1,h2⟩
  ·omega
  ·exact ⟨t,by rw [wF,h1]; rfl,h2⟩
 |n+1,s,hn,hI=>by
  rcases step s hI with ⟨s',h1,h2,h3⟩|⟨t,h1,h2⟩
  ·obtain ⟨t,h4,h5⟩:=kY I μ Q step n s' (by omega) h2
   exact ⟨t,by rw [wF,h1]; exact h4,h5⟩
  ·exact ⟨t,by rw [wF,h1]; rfl,h2⟩
theorem zAn (x:(List Int)) (hx:x.length≤1049600∧∀y0∈x,True):xI x x=some true:=by
 have hl:=hx.1
 unfold xI
 rw [if_neg (by simp)]
 unfold xE
 rw [zB5 x.length ?_ ?_]
 ·rfl
 ·intro i hi
  unfold xW
  rw [if_pos (by simp; omega)]
  have hi2:w64 ((i:Int)+1)=((i+1:Nat):Int):=vO (by omega)
  simp [tN hi,hi2]
 ·unfold xW
  rw [if_neg (by simp)]
def File.sm (B:Nat) (x:File):Prop:=(x.Path.size≤B)∧(x.Data.length≤B∧∀y0∈x.Data,True)
def zF.sm (B:Nat) (x:zF):Prop:=(x.Files.length≤B∧∀y0∈x.Files,File.sm B y0)∧(True)∧(True)∧(True)∧(True)
theorem zA1 (x:File) (hx:File.sm 1049600 x):xZ x x=some true:=by
 obtain ⟨h0,h1⟩:=hx
 unfold xZ
 simp [zAn x.Data h1]
theorem zAc (x:(List File)) (hx:x.length≤1049600∧∀y0∈x,File.sm 1049600 y0):xH x x=some true:=by
 have hl:=hx.1
 unfold xH
 rw [if_neg (by simp)]
 unfold xK
 rw [zB5 x.length ?_ ?_]
 ·rfl
 ·intro i hi
  unfold xV
  rw [if_pos (by simp; omega)]
  have hi2:w64 ((i:Int)+1)=((i+1:Nat):Int):=vO (by omega)
  simp [tN hi,hi2,zA1 x[i] (hx.2 _ (List.getElem_mem hi))]
 ·unfold xV
  rw [if_neg (by simp)]
theorem zA0 (x:zF) (hx:zF.sm 1049600 x):xX x x=some true:=by
 obtain ⟨h0,h1,h2,h3,h4⟩:=hx
 unfold xX
 simp [zAc x.Files h0]
def zB.sm (B:Nat) (x:zB):Prop:=(True)∧(zF.sm B x.zF)
theorem uI (x:zB) (hx:zB.sm 1049600 x):zQ x x=some true:=by
 obtain ⟨h0,h1⟩:=hx
 unfold zQ
 simp [zA0 x.zF h1]
theorem tT (a:Int):(b2s [a]).size =1:=rfl
theorem kC {k:Int} (h0:0≤k) (h1:k≤9223372036854775807):∃s,zX k=some s:=by
 have key:∀(n:Nat) (k:Int) (s:ByteArray),0≤k→k<10^n→k≤9223372036854775807→s.size+n≤1000→∃t,loop xQ (k,s)=some t∧t.size≤s.size+n:=by
  intro n
  induction n with
  |zero=>
   intro k s h0 h1 _ _
   have:k=0:=by simp at h1; omega
   subst this
   exact ⟨s,by rw [wF]; rfl,by omega⟩
  |succ n ih=>
   intro k s h0 h1 h2 h3
   by_cases hk:k>0
   ·rw [wF]
    unfold xQ
    simp only
    rw [if_pos (by simpa using hk)]
    have hc:∀a:Int,cat (b2s [a]) s=some (b2s [a]++s):=fun a=>by
     unfold cat; rw [if_pos (by rw [tT]; omega)]
    rw [hc]
    simp only [Option.bind_some,Lp.elim]
    have hd:k.tdiv 10=k / 10:=Int.tdiv_eq_ediv_of_nonneg h0
    rw [hd,wQ (by omega) (by omega)]
    obtain ⟨t,g1,g2⟩:=ih (k / 10) (b2s [IntKind.u8.wrap (w64 (48+k.tmod 10))]++s) (by omega) (by rw [Int.pow_succ] at h1; omega) (by omega) (by rw [ByteArray.size_append,tT]; omega)
    refine ⟨t,g1,?_⟩
    rw [ByteArray.size_append,tT] at g2
    omega
   ·have:k=0:=by omega
    subst this
    exact ⟨s,by rw [wF]; rfl,by omega⟩
 unfold zX
 by_cases hk:k≤0
 ·rw [if_pos (by simpa using hk)]
  exact ⟨_,rfl⟩
 ·rw [if_neg (by simpa using hk)]
  obtain ⟨t,g1,g2⟩:=key 19 k (bs []) h0 (by omega) h1 (by decide)
  unfold xA
  rw [g1]
  simp only [Option.bind_some]
  have e0:(bs []).size =0:=rfl
  have e1:(bs [109]).size =1:=rfl
  unfold cat
  rw [if_pos (by omega)]
  exact ⟨_,rfl⟩
noncomputable def mT (k:Int):ByteArray:=(zX k).getD ByteArray.empty
theorem uX {k:Int} (h0:0≤k) (h1:k≤9223372036854775807):zX k=some (mT k):=by
 obtain ⟨s,hs⟩:=kC h0 h1
 unfold mT
 rw [hs]
 rfl
def zBk (_:Int) (k:Int):Int:=IntKind.u8.wrap k
theorem kG (xs:List Int) (hx:xs.length≤1049600∧∀y0∈xs,True) (k:Int) (h0:0≤k) (h1:k+cs c1 xs≤9223372036854775807):yH xs k=some (k+cs c1 xs,pm zBk c1 xs k):=by
 unfold yH yM
 have key:=jA zBk c1 (fun y0=>True) vB (b:=yK) ?_ ?_ xs [] k hx.2 h0 h1 (by have:=hx.1; simp; omega)
 ·simp only [List.nil_append,List.length_nil,Int.natCast_zero] at key
  rw [key]
  rfl
 ·intro l r x k hP h0 hk hl
  simp only [c1] at hk
  have w0:=wQ (x:=k+1) (by omega) (by omega)
  have hi2:w64 ((l.length:Int)+1)=((l.length+1:Nat):Int):=vO (by omega)
  unfold yK
  rw [if_pos (by simp; omega)]
  simp only [wR,zBC,Option.bind_some,Int.toNat_natCast,hi2,w0]
  rfl
 ·intro l k
  unfold yK
  rw [if_neg (by simp)]
theorem zAl (xs:List Int) (hx:xs.length≤1049600∧∀y0∈xs,True) (k:Int) (h0:0≤k) (h1:k+cs c1 xs≤9223372036854775807):yQ (pm zBk c1 xs k) k=some (k+cs c1 xs):=by
 unfold yQ yX
 have key:=tC zBk c1 (fun y0=>True) vB (b:=yO) ?_ ?_ xs [] k hx.2 h0 h1 (by have:=hx.1; simp; omega)
 ·simp only [List.nil_append,List.length_nil,Int.natCast_zero] at key
  rw [key]
  rfl
 ·intro l r x k hP h0 hk hl
  simp only [c1] at hk
  have w0:=wQ (x:=k+1) (by omega) (by omega)
  have hi2:w64 ((l.length:Int)+1)=((l.length+1:Nat):Int):=vO (by omega)
  unfold yO
  rw [if_pos (by simp; omega)]
  simp [wR,hi2,zBk,w0]
  all_goals (first|rfl|omega|(simp only [c1]; omega))
 ·intro l k
  unfold yO
  rw [if_neg (by simp)]
noncomputable def mFile (x:File) (k:Int):File:=({Path:=mT (k),Data:=pm zBk c1 x.Data (k+1)}:File)
noncomputable def cFile (x:File):Int:=1+cs c1 x.Data
theorem xO (x:File):0≤cFile x:=by
 have n1:=xL vB x.Data
 unfold cFile
 omega
theorem kT (xs:List File) (hx:xs.length≤1049600∧∀y0∈xs,File.sm 1049600 y0) (k:Int) (h0:0≤k) (h1:k+cs cFile xs≤9223372036854775807):yI xs k=some (k+cs cFile xs,pm mFile cFile xs k):=by
 unfold yI yN
 have key:=jA mFile cFile (fun y0=>File.sm 1049600 y0) xO (b:=yJ) ?_ ?_ xs [] k hx.2 h0 h1 (by have:=hx.1; simp; omega)
 ·simp only [List.nil_append,List.length_nil,Int.natCast_zero] at key
  rw [key]
  rfl
 ·intro l r x k hP h0 hk hl
  simp only [cFile] at hk
  have n1:=xL vB x.Data
  have t0:=uX (k:=k) (by omega) (by omega)
  have w0:=wQ (x:=k+1) (by omega) (by omega)
  have t1:=kG x.Data (hP.2) (k+1) (by omega) (by omega)
  have hi2:w64 ((l.length:Int)+1)=((l.length+1:Nat):Int):=vO (by omega)
  unfold yJ
  rw [if_pos (by simp; omega)]
  simp only [wR,zBC,Option.bind_some,Int.toNat_natCast,hi2,t0,w0,t1,kP (wZ _ _ _ _)]
  rw [show k+1+cs c1 x.Data=k+cFile x from by simp only [cFile]; omega]
  rfl
 ·intro l k
  unfold yJ
  rw [if_neg (by simp)]
theorem kX (xs:List File) (hx:xs.length≤1049600∧∀y0∈xs,File.sm 1049600 y0) (k:Int) (h0:0≤k) (h1:k+cs cFile xs≤9223372036854775807):yS (pm mFile cFile xs k) k=some (k+cs cFile xs):=by
 unfold yS yU
 have key:=tC mFile cFile (fun y0=>File.sm 1049600 y0) xO (b:=yP) ?_ ?_ xs [] k hx.2 h0 h1 (by have:=hx.1; simp; omega)
 ·simp only [List.nil_append,List.length_nil,Int.natCast_zero] at key
  rw [key]
  rfl
 ·intro l r x k hP h0 hk hl
  simp only [cFile] at hk
  have n1:=xL vB x.Data
  have t0:=uX (k:=k) (by omega) (by omega)
  have w0:=wQ (x:=k+1) (by omega) (by omega)
  have t1:=zAl x.Data (hP.2) (k+1) (by omega) (by omega)
  have z1:¬(k+1+cs c1 x.Data<0):=by omega
  have hi2:w64 ((l.length:Int)+1)=((l.length+1:Nat):Int):=vO (by omega)
  unfold yP
  rw [if_pos (by simp; omega)]
  simp [wR,hi2,mFile,t0,w0,t1,z1]
  all_goals (first|rfl|omega|(simp only [cFile]; omega))
 ·intro l k
  unfold yP
  rw [if_neg (by simp)]
theorem zAb (x:zF) (hP:zF.sm 1049600 x) (k:Int) (h0:0≤k) (h1:k+cs cFile x.Files≤9223372036854775807):yR x k=some (k+cs cFile x.Files,pm mFile cFile x.Files (k)):=by
 have n0:=xL xO x.Files
 have t0:=kT x.Files (hP.1) (k) (by omega) (by omega)
 unfold yR
 simp only [t0,Option.bind_some,kP (wZ _ _ _ _)]
theorem zA9 (x:zF) (hP:zF.sm 1049600 x) (k:Int) (h0:0≤k) (h1:k+cs cFile x.Files≤9223372036854775807):yZ ({Files:=pm mFile cFile x.Files (k),Budget:=x.Budget,Writes:=x.Writes,Stop:=x.Stop,Down:=x.Down}:zF) k=some (k+cs cFile x.Files):=by
 have n0:=xL xO x.Files
 have t0:=kX x.Files (hP.1) (k) (by omega) (by omega)
 have z0:¬(k+cs cFile x.Files<0):=by omega
 unfold yZ
 simp [t0]
 all_goals (first|rfl|omega)
theorem vS (x:zB) (hP:zB.sm 1049600 x) (k:Int) (h0:0≤k) (h1:k+cs cFile x.zF.Files≤9223372036854775807):zS x k=some (k+cs cFile x.zF.Files,pm mFile cFile x.zF.Files (k)):=by
 have n0:=xL xO x.zF.Files
 have t0:=zAb x.zF (hP.2) (k) (by omega) (by omega)
 unfold zS
 simp only [t0,Option.bind_some,kP (wZ _ _ _ _)]
theorem uJ (x:zB) (hP:zB.sm 1049600 x) (k:Int) (h0:0≤k) (h1:k+cs cFile x.zF.Files≤9223372036854775807):zN ({Code:=x.Code,zF:=({Files:=pm mFile cFile x.zF.Files (k),Budget:=x.zF.Budget,Writes:=x.zF.Writes,Stop:=x.zF.Stop,Down:=x.zF.Down}:zF)}:zB) k=some (k+cs cFile x.zF.Files):=by
 have n0:=xL xO x.zF.Files
 have t0:=zA9 x.zF (hP.2) (k) (by omega) (by omega)
 have z0:¬(k+cs cFile x.zF.Files<0):=by omega
 unfold zN
 simp [t0]
 all_goals (first|rfl|omega)
theorem zBl (x:(List Int)) (hx:x.length≤1049600∧∀y0∈x,True):cs c1 x≤1049600:=by
 have:=zDa (c:=c1) (C:=1) (N:=1049600) (by decide) x (fun a _=>by unfold c1; decide) hx.1
 omega
theorem zBc (x:(List File)) (hx:x.length≤1049600∧∀y0∈x,File.sm 1049600 y0):cs cFile x≤1101661209600:=by
 have:=zDa (c:=cFile) (C:=1049601) (N:=1049600) (by decide) x (fun a ha=>by have hP:=hx.2 a ha; have q1:=zBl a.Data (hP.2); unfold cFile; omega) hx.1
 omega
theorem vI (a1:Int) (k0:IntKind.i64.min≤a1∧a1≤IntKind.i64.max) (both:(True)→∃r,yG a1=some r∧zV a1=some r∧(zB.sm 1049600 r)):zR a1=some true:=by
 unfold zR
 have s_a1:True:=trivial
 obtain ⟨r,e1,e2,hr⟩:=both s_a1
 have m_a1:True:=trivial
 have n1:=xL xO r.zF.Files
 have b1:=zBc r.zF.Files (hr.2.1)
 have t2:=vS r hr 1 (by omega) (by omega)
 have u2:=uJ r hr 1 (by omega) (by omega)
 have z2:¬(1+cs cFile r.zF.Files<0):=by omega
 simp [e1,e2,uI r hr,t2,u2,z2,kP (wZ _ _ _ _)]
def bl (s:ByteArray):List Int:=s.toList.map (fun b=>(b.toNat:Int))
theorem wC (s:ByteArray):(bl s).length =s.size:=by
 unfold bl
 rw [List.length_map,ByteArray.toList_eq]
 rfl
theorem jC:∀(a:List UInt8),Op.bytesLess a a=false
 |[]=>rfl
 |x::a=>by simp [Op.bytesLess,jC a]
theorem jT:∀{a b c:List UInt8},Op.bytesLess a b=true→Op.bytesLess b c=true→Op.bytesLess a c=true
 |_,[],_,h,_=>by simp [Op.bytesLess] at h
 |_,_::_,[],_,h=>by simp [Op.bytesLess] at h
 |[],_::_,_::_,_,_=>by simp [Op.bytesLess]
 |x::a,y::b,z::c,h1,h2=>by
  simp only [Op.bytesLess,Bool.or_eq_true,decide_eq_true_eq,Bool.and_eq_true,beq_iff_eq] at h1 h2 ⊢
  rcases h1 with h1|⟨rfl,h1⟩
  ·rcases h2 with h2|⟨rfl,h2⟩
   ·exact .inl (UInt8.lt_trans h1 h2)
   ·exact .inl h1
  ·rcases h2 with h2|⟨rfl,h2⟩
   ·exact .inl h2
   ·exact .inr ⟨rfl,jT h1 h2⟩
theorem toList_inj {a b:ByteArray} (h:a.toList=b.toList):a=b:=by
 rw [ByteArray.toList_eq,ByteArray.toList_eq] at h
 cases a; cases b
 simp at h
 rw [h]
theorem uF (a:ByteArray):slt a a=false:=jC _
theorem tZ {a b c:ByteArray} (h1:slt a b=true) (h2:slt b c=true):slt a c=true:=jT h1 h2
theorem wN (a b:ByteArray):bl (a++b)=bl a++bl b:=by
 unfold bl
 rw [ByteArray.toList_eq,ByteArray.toList_eq,ByteArray.toList_eq]
 simp
theorem jQ (s:ByteArray) (i j:Nat):bl (s.extract i j)=((bl s).drop i).take (j-i):=by
 unfold bl
 rw [ByteArray.toList_eq,ByteArray.toList_eq]
 simp [List.map_drop,List.map_take]
theorem zBw {a b:ByteArray}:bl a=bl b↔a=b:=by
 constructor
 ·intro h
  unfold bl at h
  refine toList_inj ?_
  have hinj:∀(x y:List UInt8),x.map (fun b=>(b.toNat:Int))=y.map (fun b=>(b.toNat:Int))→x=y:=by
   intro x
   induction x with
   |nil=>intro y h; cases y<;>simp_all
   |cons u x ih=>
    intro y h
    cases y with
    |nil=>simp at h
    |cons v y=>
     simp only [List.map_cons,List.cons.injEq] at h
     rw [ih y h.2]
     have:u.toNat=v.toNat:=by omega
     rw [UInt8.toNat_inj.1 this]
  exact hinj _ _ h
 ·intro h; rw [h]
theorem zBG {c:Int} (h0:0≤c) (h1:c≤255):bl (b2s [c])=[c]:=by
 unfold bl b2s
 rw [ByteArray.toList_eq]
 simp only [List.foldl_cons,List.foldl_nil]
 show [((UInt8.ofNat c.toNat).toNat :Int)]=[c]
 simp
 omega
theorem wrap_u8 {c:Int} (h0:0≤c) (h1:c≤255):IntKind.u8.wrap c=c:=by
 simp only [IntKind.wrap,IntKind.signed,IntKind.bits]
 simp
 omega
def uM (n:Nat):List Int:=if n<10 then [48+(n:Int)] else uM (n / 10)++[48+((n%10:Nat):Int)]
termination_by n
decreasing_by omega
theorem xR {n:Nat} (h:n<10):uM n=[48+(n:Int)]:=by rw [uM,if_pos h]
theorem wT {n:Nat} (h:¬n<10):uM n=uM (n / 10)++[48+((n%10:Nat):Int)]:=by rw [uM,if_neg h]
theorem kH:∀(k n:Nat),n<10^(k+1)→(uM n).length ≤k+1
 |0,n,h=>by rw [xR (by simpa using h)]; simp
 |k+1,n,h=>by
  by_cases hn:n<10
  ·rw [xR hn]; simp
  ·rw [Nat.pow_succ] at h
   rw [wT hn,List.length_append]
   have:=kH k (n / 10) (by omega)
   simp only [List.length_singleton]
   omega
theorem jL (g:Int→Option ByteArray) (a1:Int):yA g a1=if decide (a1<10) then some (b2s [IntKind.u8.wrap (w64 (48+a1))]) else (g (w64 (a1.tdiv 10))).bind fun x3=>(cat x3 (b2s [IntKind.u8.wrap (w64 (48+(a1.tmod 10)))])).bind fun x5=>some x5:=rfl
theorem vK:∀(k f n:Nat),n<10^(k+1)→k<f→n≤9000000000000000000→k≤100→∃s,zDi yA f (n:Int)=some s∧bl s=uM n
 |k,0,n,_,hf,_,_=>by omega
 |k,f+1,n,h,hf,hn,hk=>by
  rw [show zDi yA (f+1) (n:Int)=yA (zDi yA f) (n:Int) from rfl,jL]
  by_cases h1:n<10
  ·rw [if_pos (by simp; omega),wQ (by omega) (by omega),wrap_u8 (by omega) (by omega)]
   exact ⟨_,rfl,by rw [zBG (by omega) (by omega),xR h1]⟩
  ·rw [if_neg (by simp; omega)]
   cases k with
   |zero=>simp at h; omega
   |succ k=>
    have e1:w64 ((n:Int).tdiv 10)=((n / 10:Nat):Int):=by
     rw [Int.tdiv_eq_ediv_of_nonneg (by omega),wQ (by omega) (by omega)]; omega
    have e2:(n:Int).tmod 10=((n%10:Nat):Int):=by
     rw [Int.tmod_eq_emod_of_nonneg (by omega)]; omega
    rw [Nat.pow_succ] at h
    obtain ⟨s,e,hs⟩:=vK k f (n / 10) (by omega) (by omega) (by omega) (by omega)
    rw [e1,e2,e,wQ (by omega) (by omega),wrap_u8 (by omega) (by omega)]
    have hsz:s.size≤k+1:=by
     rw [←wC,hs]
     exact kH k (n / 10) (by omega)
    simp only [Option.bind_some]
    unfold cat
    rw [if_pos (by have:(b2s [48+((n%10:Nat):Int)]).size =1:=rfl; omega)]
    exact ⟨_,rfl,by rw [wN,hs,zBG (by omega) (by omega),wT h1]⟩
theorem jK (n:Nat) (h:n≤9000000000000000000):∃s,xC (n:Int)=some s∧bl s=uM n:=
 vK 18 64 n (by omega) (by omega) h (by omega)
theorem zCv (l:List UInt8):bl (bs l)=l.map (fun b=>(b.toNat:Int)):=by
 unfold bl bs
 rw [ByteArray.toList_eq]
theorem zBz {a b:ByteArray} (h:a.size+b.size≤1099511627776):cat a b=some (a++b):=if_pos h
theorem zCc (a b c:ByteArray):a++b++c=a++(b++c):=zBw.1 (by simp only [wN,List.append_assoc])
theorem zCK (a b:ByteArray):(a++b).size =a.size+b.size:=by
 rw [←wC,wN,List.length_append,wC,wC]
theorem vJ {n:Nat} (h:n<256):(UInt8.ofNat n).toNat =n:=by
 simp [Nat.mod_eq_of_lt h]
theorem decDigits_eq:∀(n:Nat),(Lib.decDigits n).map (fun b=>(b.toNat:Int))=uM n:=by
 intro n
 induction n using Nat.strongRecOn with
 |ind n ih=>
  rw [Lib.decDigits]
  by_cases h:n<10
  ·rw [dif_pos h,xR h]
   simp only [List.map_cons,List.map_nil]
   rw [vJ (by omega)]
   simp
  ·rw [dif_neg h,wT h,List.map_append,ih (n / 10) (by omega)]
   simp only [List.map_cons,List.map_nil]
   rw [vJ (by omega)]
   simp
def zBp (n:Nat):ByteArray:=⟨(Lib.decDigits n).toArray⟩
theorem uK (n:Nat):bl (zBp n)=uM n:=by
 unfold bl zBp
 rw [ByteArray.toList_eq]
 exact decDigits_eq n
theorem zAj (n:Nat) (h:n≤9000000000000000000):xC (n:Int)=some (zBp n):=by
 obtain ⟨s,e,hs⟩:=jK n h
 rw [e,zBw.1 (hs.trans (uK n).symm)]
theorem kZ (n:Nat) (h:n≤9000000000000000000):yD (n:Int) 10=some (zBp n):=by
 unfold yD
 rw [if_pos (by omega)]
 unfold Lib.itoa zBp
 rw [if_neg (by omega)]
 simp
def inB (a b c:Int):Bool:=decide (b≤a)&&decide (a≤c)
theorem zBR (a b c:Int):wD a b c=some (inB a b c):=by
 unfold wD inB
 by_cases h:a≥b<;>simp [h]
theorem zBx (a b c:Int):xY a b c=some (inB a b c):=by
 unfold xY inB
 by_cases h:b≤a<;>simp [h]
def zCy (c:Int):zB:= {Code:=c,zF:= {Files:=[],Budget:=0,Writes:=0,Stop:=0,Down:=false}}
theorem zAO (c:Int):zB.sm 1049600 (zCy c):=by simp [zB.sm,zF.sm,zCy]
theorem kQ:∀(a b:List UInt8),(Lib.compareBytes a b<0↔Op.bytesLess a b=true)∧(Lib.compareBytes a b=0↔a=b)
 |[],[]=>by simp [Lib.compareBytes,Op.bytesLess]
 |[],_::_=>by simp [Lib.compareBytes,Op.bytesLess]
 |_::_,[]=>by simp [Lib.compareBytes,Op.bytesLess]
 |x::a,y::b=>by
  obtain ⟨ih1,ih2⟩:=kQ a b
  simp only [Lib.compareBytes,Op.bytesLess]
  by_cases h1:x<y
  ·simp [h1]
   intro e; subst e; exact absurd h1 (by simp [UInt8.lt_irrefl])
  ·by_cases h2:y<x
   ·simp [h1,h2]
    have hne:x≠y:=fun e=>by subst e; exact absurd h2 (by simp [UInt8.lt_irrefl])
    simp [hne]
   ·have e:x=y:=by
     rw [UInt8.lt_iff_toNat_lt] at h1 h2
     exact UInt8.toNat_inj.1 (by omega)
    subst e
    simp [UInt8.lt_irrefl,ih1,ih2]
theorem zB6 (a b:ByteArray):zC1 a b<0↔slt a b=true:=by
 unfold zC1 slt
 rw [ByteArray.toList_eq,ByteArray.toList_eq]
 exact (kQ _ _).1
theorem zB2 (a b:ByteArray):zC1 a b=0↔a=b:=by
 unfold zC1
 rw [(kQ _ _).2,←ByteArray.toList_eq,←ByteArray.toList_eq]
 exact ⟨toList_inj,fun e=>by rw [e]⟩
theorem zCU {i j:Int} (h0:0≤i) (h1:i≤j) (h2:j≤4611686018427387903):w64 ((IntKind.u64.wrap (w64 (i+j))).fdiv (2^(min (1:Int).toNat 64)))=(i+j) / 2:=by
 rw [wQ (x:=i+j) (by omega) (by omega)]
 have e1:IntKind.u64.wrap (i+j)=i+j:=by
  simp only [IntKind.wrap,IntKind.signed,IntKind.bits]
  simp
  omega
 rw [e1]
 have e2:((2:Int)^(min (1:Int).toNat 64))=2:=by decide
 rw [e2,Int.fdiv_eq_ediv_of_nonneg _ (by omega)]
 exact wQ (by omega) (by omega)
theorem jP (f:File) (p:ByteArray):zU f p=some (zC1 f.Path p):=rfl
theorem zAZ (fs:List File) (p:ByteArray) (h:fs.length≤1048576):
  ∃(k:Nat) (b:Bool),zC fs p=some ((k:Int),b)∧k≤fs.length∧(b=true→∃hk:k<fs.length,fs[k].Path =p)∧
   (fs.Pairwise (fun f g=>slt f.Path g.Path=true)→(∀i,(hi:i<fs.length)→i<k→slt fs[i].Path p=true)∧(∀i,(hi:i<fs.length)→k≤i→slt fs[i].Path p=false)∧(b=false→∀f∈fs,f.Path≠p)):=by
 obtain ⟨t,e,k,rfl,hk,hs⟩:=kY (b:=zI fs p)
  (fun s=>∃i j:Nat,s=((i:Int),(j:Int))∧i≤j∧j≤fs.length∧(fs.Pairwise (fun f g=>slt f.Path g.Path=true)→(∀q,(hq:q<fs.length)→q<i→slt fs[q].Path p=true)∧(∀q,(hq:q<fs.length)→j≤q→slt fs[q].Path p=false)))
  (fun s=>(s.2-s.1).toNat)
  (fun t=>∃k:Nat,t=(k:Int)∧k≤fs.length∧(fs.Pairwise (fun f g=>slt f.Path g.Path=true)→(∀q,(hq:q<fs.length)→q<k→slt fs[q].Path p=true)∧(∀q,(hq:q<fs.length)→k≤q→slt fs[q].Path p=false))) (by
  rintro s ⟨i,j,rfl,hij,hj,hP⟩
  unfold zI
  by_cases hlt:i<j
  ·left
   rw [if_pos (by simp; omega)]
   simp only
   rw [zCU (by omega) (by omega) (by omega)]
   have hm:(((i:Int)+(j:Int)) / 2)=(((i+j) / 2:Nat):Int):=by omega
   rw [hm]
   have hmj:(i+j) / 2<j:=by omega
   have him:i≤(i+j) / 2:=by omega
   generalize (i+j) / 2=m at*
   have hmn:m<fs.length:=by omega
   simp only [tN hmn,Option.bind_some,jP]
   by_cases hc:zC1 fs[m].Path p<0
   ·rw [if_pos (by simpa using hc),vO (by omega)]
    refine ⟨_,rfl,⟨m+1,j,rfl,by omega,hj,fun hso=>?_⟩,by simp; omega⟩
    obtain ⟨g1,g2⟩:=hP hso
    refine ⟨fun q hq hqm=>?_,g2⟩
    have hl:=(zB6 _ _).1 hc
    rcases Nat.lt_or_ge q m with h'|h'
    ·exact tZ (List.pairwise_iff_getElem.1 hso q m hq hmn h') hl
    ·have:q=m:=by omega
     subst this; exact hl
   ·rw [if_neg (by simpa using hc)]
    refine ⟨_,rfl,⟨i,m,rfl,by omega,by omega,fun hso=>?_⟩,by simp; omega⟩
    obtain ⟨g1,g2⟩:=hP hso
    refine ⟨g1,fun q hq hmq=>?_⟩
    have hl:slt fs[m].Path p=false:=by
     cases h':slt fs[m].Path p with
     |false=>rfl
     |true=>exact absurd ((zB6 _ _).2 h') hc
    rcases Nat.lt_or_ge m q with h'|h'
    ·cases hq2:slt fs[q].Path p with
     |false=>rfl
     |true=>
      have:=tZ (List.pairwise_iff_getElem.1 hso m q hmn hq h') hq2
      rw [hl] at this; cases this
    ·have:q=m:=by omega
     subst this; exact hl
  ·right
   rw [if_neg (by simp; omega)]
   have:i=j:=by omega
   subst this
   exact ⟨_,rfl,i,rfl,by omega,hP⟩) fs.length (0,(fs.length:Int)) (by simp) ⟨0,fs.length,rfl,by omega,by omega,fun _=>⟨fun q _ h=>by omega,fun q hq h=>by omega⟩⟩
 unfold zC
 rw [show zD fs p (0,(fs.length:Int))=some (k:Int) from e]
 simp only [Option.bind_some]
 by_cases hkn:k<fs.length
 ·rw [if_pos (by simpa using hkn)]
  simp only [tN hkn,Option.bind_some,jP]
  refine ⟨k,_,rfl,hk,fun hb=>⟨hkn,(zB2 _ _).1 (by simpa using hb)⟩,fun hso=>⟨(hs hso).1,(hs hso).2,fun hb f hf hfp=>?_⟩⟩
  have hne:zC1 fs[k].Path p≠0:=by simpa using hb
  obtain ⟨q,hq,rfl⟩:=List.getElem_of_mem hf
  rcases Nat.lt_trichotomy q k with h'|h'|h'
  ·have:=(hs hso).1 q hq h'
   rw [hfp,uF] at this; cases this
  ·subst h'; exact hne ((zB2 _ _).2 hfp)
  ·have h1:=List.pairwise_iff_getElem.1 hso k q hkn hq h'
   have h2:=(hs hso).2 k hkn (Nat.le_refl _)
   rw [hfp] at h1
   rw [h1] at h2; cases h2
 ·rw [if_neg (by simpa using hkn)]
  refine ⟨k,false,rfl,hk,(fun hb=>by cases hb),fun hso=>⟨(hs hso).1,(hs hso).2,fun _ f hf hfp=>?_⟩⟩
  obtain ⟨q,hq,rfl⟩:=List.getElem_of_mem hf
  have:=(hs hso).1 q hq (by omega)
  rw [hfp,uF] at this; cases this
def zCO:List Int→List Int→Bool
 |_,[]=>false
 |[],_::_=>true
 |a::x,b::y=>decide (a<b)||(a==b&&zCO x y)
theorem zAx (a b:ByteArray):slt a b=zCO (bl a) (bl b):=by
 unfold slt bl
 generalize a.toList=x
 generalize b.toList=y
 induction x generalizing y with
 |nil=>cases y<;>rfl
 |cons u x ih=>
  cases y with
  |nil=>rfl
  |cons v y=>
   simp only [Op.bytesLess,List.map_cons,zCO,ih y]
   congr 1
   ·rw [Bool.eq_iff_iff]; simp [UInt8.lt_iff_toNat_lt]
   ·congr 1
    rw [Bool.eq_iff_iff]
    simp only [beq_iff_eq]
    constructor
    ·intro h; rw [h]
    ·intro h; exact UInt8.toNat_inj.1 (by omega)
theorem zAL:∀(k n:Nat),n<10^(k+1)→uM (10^(k+1)+n)=49::(List.replicate (k+1-(uM n).length) 48++uM n)
 |0,n,h=>by
  have h':n<10:=by simpa using h
  rw [wT (by simp),show (10^(0+1)+n) / 10=1 by simp; omega,show (10^(0+1)+n)%10=n by simp; omega,xR (n:=1) (by omega),xR h']
  rfl
 |k+1,n,h=>by
  have hp:1≤10^k:=Nat.one_le_pow _ _ (by omega)
  have e1:10^(k+1+1)=10*10^(k+1):=by rw [Nat.pow_succ]; omega
  rw [e1] at h
  have hq:n / 10<10^(k+1):=by omega
  have ih:=zAL k (n / 10) hq
  have hl:=kH k (n / 10) hq
  rw [e1,wT (by omega),show (10*10^(k+1)+n) / 10=10^(k+1)+n / 10 by omega,show (10*10^(k+1)+n)%10=n%10 by omega,ih]
  by_cases hn:n<10
  ·rw [show n / 10=0 by omega,xR (n:=0) (by omega),xR hn,show n%10=n by omega]
   simp only [List.length_singleton,List.cons_append,List.append_assoc,List.nil_append]
   rw [show k+1+1-1=k+1 by omega,show k+1-1=k by omega]
   rw [show List.replicate (k+1) (48:Int)=List.replicate k 48++[48] from List.replicate_succ']
   simp
  ·rw [wT hn,List.length_append]
   simp only [List.length_singleton,List.cons_append,List.append_assoc]
   rw [show k+1+1-((uM (n / 10)).length +1)=k+1-(uM (n / 10)).length by omega]
theorem zD5 (l:List UInt8):bl ⟨l.toArray⟩=l.map (fun b=>(b.toNat:Int)):=by
 unfold bl
 rw [ByteArray.toList_eq]
theorem jV (u:UInt8):∀(n:Nat),Lib.repeatL [u] n=List.replicate n u
 |0=>rfl
 |n+1=>by rw [Lib.repeatL,jV u n,List.replicate_succ]; rfl
def zDJ (n:Int):List Int:=[103,101,110,47]++(List.replicate (6-(uM n.toNat).length) 48++uM n.toNat)
theorem zBu (l:List UInt8):(bs l).data.toList =l:=rfl
def zCb (n:Int):ByteArray:=bs [103,101,110,47]++(⟨(List.replicate (6-(uM n.toNat).length) (48:UInt8)).toArray⟩++zBp n.toNat)
theorem kM (n:Int):bl (zCb n)=zDJ n:=by
 unfold zCb zDJ
 rw [wN,wN,zCv,zD5,uK,List.map_replicate]
 rfl
theorem kL {n:Nat} (h:n≤999999):1≤(uM n).length ∧(uM n).length ≤6:=by
 refine ⟨?_,kH 5 n (by omega)⟩
 by_cases hn:n<10
 ·rw [xR hn]; simp
 ·rw [wT hn,List.length_append]; simp
theorem zBA {n:Int} (h:n≤999999):(zCb n).size =10:=by
 rw [←wC,kM]
 unfold zDJ
 have:=kL (n:=n.toNat) (by omega)
 simp
 omega
theorem zCP {s:ByteArray} {l h:Nat} (h1:l≤h) (h2:h≤s.size):zDn s (l:Int) (h:Int)=some (s.extract l h):=by
 unfold zDn
 rw [if_pos (by omega)]
 rfl
theorem zAi {n:Int} (h0:0≤n) (h1:n≤999999):xM n=some (zCb n):=by
 have hd:=kL (n:=n.toNat) (by omega)
 have hs:(zBp n.toNat).size =(uM n.toNat).length :=by rw [←wC,uK]
 have hf:=kZ n.toNat (by omega)
 rw [Int.toNat_of_nonneg h0] at hf
 have h4:(bs [103,101,110,47]).size =4:=rfl
 unfold xM vE
 rw [hf]
 simp only [Option.bind_some]
 rw [hs,wQ (by omega) (by omega)]
 unfold strings_Repeat
 rw [if_pos ⟨by omega,by omega,by rw [show (bs [48]).size =1 from rfl]; omega⟩,zBu,jV]
 simp only [Option.bind_some]
 have hr:(⟨(List.replicate (6-((uM n.toNat).length :Int)).toNat (48:UInt8)).toArray⟩:ByteArray).size =6-(uM n.toNat).length :=by
  rw [←wC,zD5]
  simp
 rw [zBz (by rw [hr]; omega)]
 simp only [Option.bind_some]
 rw [zBz (by rw [zCK,hr]; omega)]
 unfold zCb
 rw [show (6-((uM n.toNat).length :Int)).toNat =6-(uM n.toNat).length by omega]
 simp only [Option.bind_some,zCc]
theorem zAa (n:Int):xJ n=some (if inB n 1 999999 then zCb n else bs []):=by
 unfold xJ
 rw [zBR]
 simp only [Option.bind_some]
 cases h:inB n 1 999999
 ·rfl
 have h':1≤n∧n≤999999:=by simpa [inB] using h
 rw [if_neg (by simp),wQ (by omega) (by omega)]
 have e:=zAj (1000000+n.toNat) (by omega)
 rw [show ((1000000+n.toNat:Nat):Int)=1000000+n by omega] at e
 rw [e]
 simp only [Option.bind_some]
 have hp:=zAL 5 n.toNat (by omega)
 rw [show 10^(5+1)+n.toNat=1000000+n.toNat by omega] at hp
 have hd:=kL (n:=n.toNat) (by omega)
 have hz:(zBp (1000000+n.toNat)).size =7:=by
  rw [←wC,uK,hp]
  simp
  omega
 have e2:=zCP (s:=zBp (1000000+n.toNat)) (l:=1) (h:=(zBp (1000000+n.toNat)).size) (by omega) (Nat.le_refl _)
 rw [show ((1:Nat):Int)=1 from rfl] at e2
 rw [e2]
 simp only [Option.bind_some]
 have hx:((zBp (1000000+n.toNat)).extract 1 (zBp (1000000+n.toNat)).size).size =6:=by
  rw [←wC,jQ,uK,hp,hz]
  simp
  omega
 rw [zBz (by rw [hx]; decide)]
 simp only [Option.bind_some,if_true]
 congr 1
 refine zBw.1 ?_
 rw [wN,jQ,uK,hp,kM,zCv,hz]
 unfold zDJ
 rw [List.take_of_length_le (by simp; omega)]
 rfl
theorem jZ {fs:List File} {bu wr st:Int} {dn:Bool} {p:ByteArray} {x:List Int} (hl:fs.length≤100) (hs:fs.Pairwise (fun f g=>slt f.Path g.Path=true)) (h:∀f∈fs,slt f.Path p=true) (hx:x.length≤100):
  zO {Files:=fs,Budget:=bu,Writes:=wr,Stop:=st,Down:=dn} p x=some {Files:=fs++[{Path:=p,Data:=x}],Budget:=bu,Writes:=wr,Stop:=st,Down:=dn}:=by
 obtain ⟨k,b,e,hk,h1,h2⟩:=zAZ fs p (by omega)
 obtain ⟨g1,g2,g3⟩:=h2 hs
 have hb:b=false:=by
  cases b with
  |false=>rfl
  |true=>
   obtain ⟨hk',hp⟩:=h1 rfl
   have:=h _ (List.getElem_mem hk')
   rw [hp,uF] at this
   cases this
 subst hb
 have hke:k=fs.length:=by
  rcases Nat.lt_or_ge k fs.length with hlt|hge
  ·have a:=h _ (List.getElem_mem hlt)
   have b:=g2 k hlt (Nat.le_refl _)
   rw [a] at b
   cases b
  ·omega
 subst hke
 have hcl:zZ x=some x:=by
  unfold zZ
  rw [zDv (by simp; omega) (by simp; omega)]
  rfl
 unfold zO yV
 simp only [e,Option.bind_some,Bool.not_false,if_true]
 unfold yC
 rw [if_pos ⟨by omega,by omega,by simp,by simp; omega⟩]
 simp only [Option.bind_some,hcl,Int.toNat_natCast,List.take_length,List.drop_length,List.append_nil]
 rw [wR]
 simp only [Option.bind_some]
 rw [List.set_append_right _ _ (by omega)]
 simp
theorem zA2:slt (bs [99,117,114]) (zCb 1)=true:=by
 rw [zAx,kM,zCv]
 rfl
theorem zAd:slt (zCb 1) (bs [114,111,111,116,115])=true:=by
 rw [zAx,kM,zCv]
 rfl
def zDP (n:Int):zF:= {Files:=[{Path:=bs [99,117,114],Data:=[49]},{Path:=zCb 1,Data:=[]},{Path:=bs [114,111,111,116,115],Data:=[]}],Budget:=n,Writes:=0,Stop:= -1,Down:=false}
def kV (n:Int):zB:=if inB n 0 20000 then (if n=0 then zCy 8 else {Code:=0,zF:=zDP n}) else zCy 3
theorem uZ (n:Int):yG n=some (kV n)∧zV n=some (kV n):=by
 unfold yG zV xB kV
 rw [zBR,zBx]
 simp only [Option.bind_some]
 cases hb:inB n 0 20000
 ·exact ⟨rfl,rfl⟩
 ·simp only [Bool.not_true,Bool.false_eq_true,if_false,if_true,Option.bind_some,bne_self_eq_false]
  by_cases h0:n=0
  ·subst h0
   exact ⟨rfl,rfl⟩
  ·have h0':(n==0)=false:=by simpa using h0
   have hg:inB 1 1 999999=true:=by decide
   rw [h0',if_neg h0,zAa,zAi (by omega) (by omega),hg]
   simp only [Bool.false_eq_true,if_false,if_true,Option.bind_some]
   refine ⟨rfl,?_⟩
   have hs:=tZ zA2 zAd
   rw [jZ (by simp) (by simp) (by simp) (by simp)]
   simp only [Option.bind_some,List.nil_append]
   rw [jZ (by simp) (by simp) (by simpa using zA2) (by simp)]
   simp only [Option.bind_some,List.cons_append,List.nil_append]
   rw [jZ (by simp) (by simpa using zA2) (by simpa using ⟨hs,zAd⟩) (by simp)]
   rfl
theorem zBB (n:Int):zB.sm 1049600 (kV n):=by
 unfold kV
 split
 ·split
  ·exact zAO 8
  ·refine ⟨trivial,⟨by simp [zDP],fun f hf=>?_⟩,trivial,trivial,trivial,trivial⟩
   have hg:=zBA (n:=1) (by omega)
   simp only [zDP,List.mem_cons,List.not_mem_nil,or_false] at hf
   rcases hf with rfl|rfl|rfl
   ·exact ⟨by decide,by simp,fun _ _=>trivial⟩
   ·exact ⟨by simp only; omega,by simp,fun _ _=>trivial⟩
   ·exact ⟨by decide,by simp,fun _ _=>trivial⟩
 ·exact zAO 3
theorem kF (a1:Int) (k0:IntKind.i64.min≤a1∧a1≤IntKind.i64.max) (s0:(True)):∃r,yG a1=some r∧zV a1=some r∧(zB.sm 1049600 r):=by
 exact ⟨_,(uZ a1).1,(uZ a1).2,zBB a1⟩
theorem vR (a1:Int) (k0:IntKind.i64.min≤a1∧a1≤IntKind.i64.max):zR a1=some true:=vI a1 k0 (kF a1 k0)
end Go.Told

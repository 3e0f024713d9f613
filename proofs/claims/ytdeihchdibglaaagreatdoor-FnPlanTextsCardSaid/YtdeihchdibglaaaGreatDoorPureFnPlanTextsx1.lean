import Derived.Test.YtdeihchdibglaaaGreatDoorToldFnPlanTexts
set_option linter.unusedVariables false
set_option maxRecDepth 4000
namespace Go.Told
open Go Go.Im
theorem wC {x:Int} (h1: -9223372036854775808≤x) (h2:x≤9223372036854775807):w64 x=x:=by
 unfold w64
 rw [IntKind.wrap_i64]
 omega
theorem zM {i:Nat} (h:i<9223372036854775807):w64 ((i:Int)+1)=((i+1:Nat):Int):=by
 rw [wC (by omega) (by omega)]; omega
theorem xO {T:Type} {S:Type} {b:S→Option (Lp S T)} (I:Nat→S→Prop) (n:Nat) (Q:T→Prop) (hstep:∀i s,i<n→I i s→(∃s',b s=some (.go s')∧I (i+1) s')∨∃t,b s=some (.done t)∧Q t)
  (hend:∀s,I n s→∃t,b s=some (.done t)∧Q t):∀(k i:Nat) (s:S),i+k=n→I i s→∃t,loop b s=some t∧Q t
 |0,i,s,hk,hI=>by
  obtain ⟨t,h1,h2⟩:=hend s (by rw [show n=i by omega]; exact hI)
  exact ⟨t,by rw [wO,h1]; rfl,h2⟩
 |k+1,i,s,hk,hI=>by
  rcases hstep i s (by omega) hI with ⟨s',h1,h2⟩|⟨t,h1,h2⟩
  ·obtain ⟨t,h3,h4⟩:=xO I n Q hstep hend k (i+1) s' (by omega) h2
   exact ⟨t,by rw [wO,h1]; exact h3,h4⟩
  ·exact ⟨t,by rw [wO,h1]; rfl,h2⟩
theorem zL {α:Type} {xs:List α} {i:Nat} (h:i<xs.length):idx xs (i:Int)=some xs[i]:=by
 unfold idx
 rw [if_pos (by omega)]
 simp [h]
def goL {α A T:Type} (g:Nat→A→α→Lp A T) (fin:A→T):Nat→List α→A→T
 |_,[],a=>fin a
 |i,x::xs,a=>match g i a x with
  | .go a'=>goL g fin (i+1) xs a'
  | .done t=>t
theorem zMW {α A S T:Type} (xs:List α) (g:Nat→A→α→Lp A T) (fin:A→T) (e:Nat→A→S) (I:Nat→A→Prop) {b:S→Option (Lp S T)}
  (hstep:∀(i:Nat) (a:A) (hi:i<xs.length),I i a→b (e i a)=some (match g i a xs[i] with| .go a'=>.go (e (i+1) a')| .done t=>.done t)∧∀a',g i a xs[i]= .go a'→I (i+1) a')
  (hend:∀a,I xs.length a→b (e xs.length a)=some (.done (fin a))):∀(k i:Nat) (a:A),i+k=xs.length→I i a→loop b (e i a)=some (goL g fin i (xs.drop i) a)
 |0,i,a,hk,hI=>by
  have:i=xs.length:=by omega
  subst this
  rw [wO,hend a hI,List.drop_length]; rfl
 |k+1,i,a,hk,hI=>by
  have hi:i<xs.length:=by omega
  obtain ⟨h1,h2⟩:=hstep i a hi hI
  rw [wO,h1,List.drop_eq_getElem_cons hi]
  simp only [goL]
  cases hg:g i a xs[i] with
  |go a'=>
   simp only [qA,Lp.elim]
   exact zMW xs g fin e I hstep hend k (i+1) a' (by omega) (h2 a' hg)
  |done t=>rfl
theorem zIV {α A S T:Type} (xs:List α) (g:Nat→A→α→Lp A T) (fin:A→T) (e:Nat→A→S) (I:Nat→A→Prop) {b:S→Option (Lp S T)} (a0:A)
  (hstep:∀(i:Nat) (a:A) (hi:i<xs.length),I i a→b (e i a)=some (match g i a xs[i] with| .go a'=>.go (e (i+1) a')| .done t=>.done t)∧∀a',g i a xs[i]= .go a'→I (i+1) a')
  (hend:∀a,I xs.length a→b (e xs.length a)=some (.done (fin a))) (h0:I 0 a0):loop b (e 0 a0)=some (goL g fin 0 xs a0):=by
 have:=zMW xs g fin e I hstep hend xs.length 0 a0 (by omega) h0
 simpa using this
theorem zPb {R:Type} (n:Nat) {b:Int→Option (Lp Int (Fl R Unit))} (hstep:∀i:Nat,i<n→b (i:Int)=some (.go ((i+1:Nat):Int))) (hend:b (n:Int)=some (.done (.nxt ()))):loop b 0=some (.nxt ()):=by
 obtain ⟨t,h1,h2⟩:=xO (b:=b) (fun i s=>s=(i:Int)) n (fun t=>t= .nxt ()) (by
  rintro i s hi rfl
  exact .inl ⟨_,hstep i hi,rfl⟩) (by
  rintro s rfl
  exact ⟨_,hend,rfl⟩) n 0 0 (by omega) rfl
 rw [h1,h2]
theorem zDM (a:ByteArray):seq a a=true:=by
 unfold seq
 simp
def c1 {α:Type} (_:α):Int:=1
theorem wY {α:Type} {B:Nat} {xs ys:List α} (h:(xs.length+ys.length)*B≤140737488355328) (h2:xs.length+ys.length≤4611686018427387904):app B xs ys=some (xs++ys):=if_pos ⟨h,h2⟩
theorem zLu {S T:Type} {b:S→Option (Lp S T)} (I:S→Prop) (μ:S→Nat) (Q:T→Prop) (step:∀s,I s→(∃s',b s=some (.go s')∧I s'∧μ s'<μ s)∨∃t,b s=some (.done t)∧Q t):∀(n:Nat) (s:S),μ s≤n→I s→∃t,loop b s=some t∧Q t
 |0,s,hn,hI=>by
  rcases step s hI with ⟨s',_,_,h3⟩|⟨t,h1,h2⟩
  ·omega
  ·exact ⟨t,by rw [wO,h1]; rfl,h2⟩
 |n+1,s,hn,hI=>by
  rcases step s hI with ⟨s',h1,h2,h3⟩|⟨t,h1,h2⟩
  ·obtain ⟨t,h4,h5⟩:=zLu I μ Q step n s' (by omega) h2
   exact ⟨t,by rw [wO,h1]; exact h4,h5⟩
  ·exact ⟨t,by rw [wO,h1]; rfl,h2⟩
def Version.sm (B:Nat) (x:Version):Prop:=(True)∧(True)∧(True)
def Term.sm (B:Nat) (x:Term):Prop:=(x.Name.size≤B)∧(Version.sm B x.Low)∧(Version.sm B x.High)
def Pack.sm (B:Nat) (x:Pack):Prop:=(x.Name.size≤B)∧(Version.sm B x.Version)∧(True)∧(x.Provides.length≤B∧∀y0∈x.Provides,y0.size≤B)∧(x.Needs.length≤B∧∀y0∈x.Needs,y0.length≤B∧∀y1∈y0,Term.sm B y1)∧(x.Bars.length≤B∧∀y0∈x.Bars,Term.sm B y0)
def bl (s:ByteArray):List Int:=s.toList.map (fun b=>(b.toNat:Int))
theorem zO (s:ByteArray):(bl s).length =s.size:=by
 unfold bl
 rw [qC,ByteArray.toList_eq]
 rfl
theorem zEt {s:ByteArray} {i:Nat} (h:i< (bl s).length):bidx s (i:Int)=some (bl s)[i]:=by
 unfold bidx
 rw [if_pos (by omega)]
 have hs:i<s.size:=by rw [zO] at h; exact h
 have e:s[(i:Int).toNat]? =some s[i]:=by simp [hs]
 rw [e]
 simp only [Option.map_some,bl,List.getElem_map]
 congr 2
 simp only [ByteArray.toList_eq]
 rfl
theorem zI1 {s:ByteArray}:∀c∈bl s,0≤c∧c≤255:=by
 intro c hc
 unfold bl at hc
 obtain ⟨b,_,rfl⟩:=List.mem_map.1 hc
 have:=b.toNat_lt
 omega
theorem zIG:∀(a:List UInt8),Op.bytesLess a a=false
 |[]=>rfl
 |x::a=>by simp [Op.bytesLess,zIG a]
theorem zKj:∀{a b c:List UInt8},Op.bytesLess a b=true→Op.bytesLess b c=true→Op.bytesLess a c=true
 |_,[],_,h,_=>by simp [Op.bytesLess] at h
 |_,_::_,[],_,h=>by simp [Op.bytesLess] at h
 |[],_::_,_::_,_,_=>by simp [Op.bytesLess]
 |x::a,y::b,z::c,h1,h2=>by
  simp only [Op.bytesLess,Bool.or_eq_true,qM,Bool.and_eq_true,beq_iff_eq] at h1 h2 ⊢
  rcases h1 with h1|⟨rfl,h1⟩
  ·rcases h2 with h2|⟨rfl,h2⟩
   ·exact .inl (UInt8.lt_trans h1 h2)
   ·exact .inl h1
  ·rcases h2 with h2|⟨rfl,h2⟩
   ·exact .inl h2
   ·exact .inr ⟨rfl,zKj h1 h2⟩
theorem zMI:∀(a b:List UInt8),Op.bytesLess a b=false→a≠b→Op.bytesLess b a=true
 |[],[],_,h=>absurd rfl h
 |[],_::_,h,_=>by simp [Op.bytesLess] at h
 |_::_,[],_,_=>by simp [Op.bytesLess]
 |x::a,y::b,h,hne=>by
  simp only [Op.bytesLess,Bool.or_eq_false_iff,decide_eq_false_iff_not,Bool.and_eq_false_iff,beq_eq_false_iff_ne] at h
  simp only [Op.bytesLess,Bool.or_eq_true,qM,Bool.and_eq_true,beq_iff_eq]
  by_cases hxy:x=y
  ·subst hxy
   refine .inr ⟨rfl,zMI a b ?_ (fun e=>hne (by rw [e]))⟩
   rcases h.2 with h'|h'
   ·exact absurd rfl h'
   ·exact h'
  ·refine .inl ?_
   have:=h.1
   rw [UInt8.lt_iff_toNat_lt] at this ⊢
   have:x.toNat≠y.toNat:=fun e=>hxy (UInt8.toNat_inj.1 e)
   omega
theorem toList_inj {a b:ByteArray} (h:a.toList=b.toList):a=b:=by
 rw [ByteArray.toList_eq,ByteArray.toList_eq] at h
 cases a; cases b
 simp at h
 rw [h]
theorem zKv (a:ByteArray):slt a a=false:=zIG _
theorem zGj {a b c:ByteArray} (h1:slt a b=true) (h2:slt b c=true):slt a c=true:=zKj h1 h2
theorem zQP {a b:ByteArray} (h:slt a b=false) (hne:a≠b):slt b a=true:=zMI _ _ h (fun e=>hne (toList_inj e))
theorem zET {a b:ByteArray}:seq a b=true↔a=b:=by
 unfold seq
 simp only [beq_iff_eq]
 exact ⟨toList_inj,fun e=>by rw [e]⟩
theorem seq_eq (a b:ByteArray):seq a b=decide (a=b):=by
 rw [Bool.eq_iff_iff,zET]; simp
theorem zRD (a b c:Int):yZ a b c=some (decide (a≥b)&&decide (a≤c)):=by
 unfold yZ
 cases decide (a≥b)<;>rfl
theorem xE (a b:ByteArray):bl (a++b)=bl a++bl b:=by
 unfold bl
 rw [ByteArray.toList_eq,ByteArray.toList_eq,ByteArray.toList_eq]
 simp
theorem xM (s:ByteArray) (i j:Nat):bl (s.extract i j)=((bl s).drop i).take (j-i):=by
 unfold bl
 rw [ByteArray.toList_eq,ByteArray.toList_eq]
 simp [List.map_drop,List.map_take]
theorem zEX {a b:ByteArray}:bl a=bl b↔a=b:=by
 constructor
 ·intro h
  unfold bl at h
  refine toList_inj ?_
  have hinj:∀(x y:List UInt8),x.map (fun b=>(b.toNat:Int))=y.map (fun b=>(b.toNat:Int))→x=y:=by
   intro x
   induction x with
   |nil=>intro y h; cases y<;>simp_all
   |cons u x ih=>
    intro y h
    cases y with
    |nil=>simp at h
    |cons v y=>
     simp only [List.map_cons,List.cons.injEq] at h
     rw [ih y h.2]
     have:u.toNat=v.toNat:=by omega
     rw [UInt8.toNat_inj.1 this]
  exact hinj _ _ h
 ·intro h; rw [h]
theorem zF9 (a b:ByteArray):seq a b=decide (bl a=bl b):=by
 rw [seq_eq]
 simp [zEX]
theorem zMv {c:Int} (h0:0≤c) (h1:c≤255):bl (b2s [c])=[c]:=by
 unfold bl b2s
 rw [ByteArray.toList_eq]
 simp only [List.foldl_cons,List.foldl_nil]
 show [((UInt8.ofNat c.toNat).toNat :Int)]=[c]
 simp
 omega
theorem wrap_u8 {c:Int} (h0:0≤c) (h1:c≤255):IntKind.u8.wrap c=c:=by
 simp only [IntKind.wrap,IntKind.signed,IntKind.bits]
 simp
 omega
def zGd (n:Nat):List Int:=if n<10 then [48+(n:Int)] else zGd (n / 10)++[48+((n%10:Nat):Int)]
termination_by n
decreasing_by omega
theorem zAg {n:Nat} (h:n<10):zGd n=[48+(n:Int)]:=by rw [zGd,if_pos h]
theorem zEJ {n:Nat} (h:¬n<10):zGd n=zGd (n / 10)++[48+((n%10:Nat):Int)]:=by rw [zGd,if_neg h]
theorem zGP:∀(k n:Nat),10^k≤n→n<10^(k+1)→(zGd n).length =k+1
 |0,n,_,h=>by rw [zAg (by simpa using h)]; rfl
 |k+1,n,h1,h2=>by
  have hp:1≤10^k:=Nat.one_le_pow _ _ (by omega)
  rw [Nat.pow_succ] at h1
  rw [Nat.pow_succ] at h2
  rw [zEJ (by omega),List.length_append,zGP k (n / 10) (by omega) (by omega)]
  rfl
theorem zGM:∀(k n:Nat),n<10^(k+1)→(zGd n).length ≤k+1
 |0,n,h=>by rw [zAg (by simpa using h)]; simp
 |k+1,n,h=>by
  by_cases hn:n<10
  ·rw [zAg hn]; simp
  ·rw [Nat.pow_succ] at h
   rw [zEJ hn,List.length_append]
   have:=zGM k (n / 10) (by omega)
   simp only [List.length_singleton]
   omega
theorem zJV (g:Int→Option ByteArray) (a1:Int):uN g a1=if decide (a1<10) then some (b2s [IntKind.u8.wrap (w64 (48+a1))]) else (g (w64 (a1.tdiv 10))).bind fun x3=>(cat x3 (b2s [IntKind.u8.wrap (w64 (48+(a1.tmod 10)))])).bind fun x5=>some x5:=rfl
theorem zGH:∀(k f n:Nat),n<10^(k+1)→k<f→n≤9000000000000000000→k≤100→∃s,zQ6 uN f (n:Int)=some s∧bl s=zGd n
 |k,0,n,_,hf,_,_=>by omega
 |k,f+1,n,h,hf,hn,hk=>by
  rw [show zQ6 uN (f+1) (n:Int)=uN (zQ6 uN f) (n:Int) from rfl,zJV]
  by_cases h1:n<10
  ·rw [if_pos (by simp; omega),wC (by omega) (by omega),wrap_u8 (by omega) (by omega)]
   exact ⟨_,rfl,by rw [zMv (by omega) (by omega),zAg h1]⟩
  ·rw [if_neg (by simp; omega)]
   cases k with
   |zero=>simp at h; omega
   |succ k=>
    have e1:w64 ((n:Int).tdiv 10)=((n / 10:Nat):Int):=by
     rw [Int.tdiv_eq_ediv_of_nonneg (by omega),wC (by omega) (by omega)]; omega
    have e2:(n:Int).tmod 10=((n%10:Nat):Int):=by
     rw [Int.tmod_eq_emod_of_nonneg (by omega)]; omega
    rw [Nat.pow_succ] at h
    obtain ⟨s,e,hs⟩:=zGH k f (n / 10) (by omega) (by omega) (by omega) (by omega)
    rw [e1,e2,e,wC (by omega) (by omega),wrap_u8 (by omega) (by omega)]
    have hsz:s.size≤k+1:=by
     rw [←zO,hs]
     exact zGM k (n / 10) (by omega)
    simp only [qA]
    unfold cat
    rw [if_pos (by have:(b2s [48+((n%10:Nat):Int)]).size =1:=rfl; omega)]
    exact ⟨_,rfl,by rw [xE,hs,zMv (by omega) (by omega),zEJ h1]⟩
theorem zFy (n:Nat) (h:n≤9000000000000000000):∃s,xX (n:Int)=some s∧bl s=zGd n:=
 zGH 18 64 n (by omega) (by omega) h (by omega)
theorem zFs (l:List UInt8):bl (bs l)=l.map (fun b=>(b.toNat:Int)):=by
 unfold bl bs
 rw [ByteArray.toList_eq]
theorem vV {a b:ByteArray} (h:a.size+b.size≤1099511627776):cat a b=some (a++b):=if_pos h
theorem zEw (a b c:ByteArray):a++b++c=a++(b++c):=zEX.1 (by simp only [xE,List.append_assoc])
theorem xS (a b:ByteArray):(a++b).size =a.size+b.size:=by
 rw [←zO,xE,List.length_append,zO,zO]
theorem zGG {n:Nat} (h:n<256):(UInt8.ofNat n).toNat =n:=by
 simp [Nat.mod_eq_of_lt h]
theorem decDigits_eq:∀(n:Nat),(Lib.decDigits n).map (fun b=>(b.toNat:Int))=zGd n:=by
 intro n
 induction n using Nat.strongRecOn with
 |ind n ih=>
  rw [Lib.decDigits]
  by_cases h:n<10
  ·rw [dif_pos h,zAg h]
   simp only [List.map_cons,List.map_nil]
   rw [zGG (by omega)]
   simp
  ·rw [dif_neg h,zEJ h,List.map_append,ih (n / 10) (by omega)]
   simp only [List.map_cons,List.map_nil]
   rw [zGG (by omega)]
   simp
def zKc (n:Nat):ByteArray:=⟨(Lib.decDigits n).toArray⟩
theorem zFP (n:Nat):bl (zKc n)=zGd n:=by
 unfold bl zKc
 rw [ByteArray.toList_eq]
 exact decDigits_eq n
theorem zIh (n:Nat) (h:n≤9000000000000000000):xX (n:Int)=some (zKc n):=by
 obtain ⟨s,e,hs⟩:=zFy n h
 rw [e,zEX.1 (hs.trans (zFP n).symm)]
theorem zLs (n:Nat) (h:n≤9000000000000000000):uS (n:Int) 10=some (zKc n):=by
 unfold uS
 rw [if_pos (by omega)]
 unfold Lib.itoa zKc
 rw [if_neg (by omega)]
 simp
def inB (a b c:Int):Bool:=decide (b≤a)&&decide (a≤c)
theorem zH9 (a b c:Int):yZ a b c=some (inB a b c):=by
 unfold yZ inB
 by_cases h:a≥b<;>simp [h]
theorem zIB (a b c:Int):wU a b c=some (inB a b c):=by
 unfold wU inB
 by_cases h:b≤a<;>simp [h]
section del
variable {α:Type} (p:α→Bool)
theorem zFQ {xs:List α} {l h:Nat} (h1:l≤h) (h2:h≤xs.length):zGp xs (l:Int) (h:Int)=some ((xs.drop l).take (h-l)):=by
 unfold zGp
 rw [if_pos (by omega)]
 rfl
end del
def xU {α R:Type} (g:Nat→α→Option R):Nat→List α→Option R
 |_,[]=>none
 |i,x::xs=>match g i x with
  |some r=>some r
  |none=>xU g (i+1) xs
def frs {R:Type}:Option R→Fl R Unit
 |some r=>.ret r
 |none=>.nxt ()
theorem zJZ {α R:Type} (xs:List α) (g:Nat→α→Option R) {b:Int→Option (Lp Int (Fl R Unit))}
  (hstep:∀(i:Nat) (hi:i<xs.length),b (i:Int)=some (match g i xs[i] with|some r=>.done (.ret r)|none=>.go ((i+1:Nat):Int))) (hend:b (xs.length:Int)=some (.done (.nxt ()))):
  ∀(k i:Nat),i+k=xs.length→loop b (i:Int)=some (frs (xU g i (xs.drop i)))
 |0,i,h=>by
  have e:i=xs.length:=by omega
  subst e
  rw [wO,hend,List.drop_length]
  rfl
 |k+1,i,h=>by
  have hi:i<xs.length:=by omega
  have ih:=zJZ xs g hstep hend k (i+1) (by omega)
  rw [wO,hstep i hi,List.drop_eq_getElem_cons hi]
  simp only [xU]
  cases g i xs[i] with
  |some r=>rfl
  |none=>exact ih
theorem xZ {α R:Type} (xs:List α) (g:Nat→α→Option R) {b:Int→Option (Lp Int (Fl R Unit))}
  (hstep:∀(i:Nat) (hi:i<xs.length),b (i:Int)=some (match g i xs[i] with|some r=>.done (.ret r)|none=>.go ((i+1:Nat):Int))) (hend:b (xs.length:Int)=some (.done (.nxt ()))):
  loop b 0=some (frs (xU g 0 xs)):=by
 have:=zJZ xs g hstep hend xs.length 0 (by omega)
 simpa using this
theorem zDx {R T:Type} (o:Option R) (f:R→Option T) (h:Unit→Option T):(some (frs o)).bind (Fl.go f h)=match o with|some r=>f r|none=>h ():=by
 cases o<;>rfl
theorem zEl {α:Type} (p:α→Bool):∀(xs:List α) (i:Nat),((xU (fun j x=>if p x then some (j:Int) else none) i xs).getD (-1)≥0)↔xs.any p=true
 |[],i=>by simp [xU]
 |x::xs,i=>by
  simp only [xU]
  cases h:p x
  ·simp only [qD,if_false,List.any_cons,h,Bool.false_or]
   exact zEl p xs (i+1)
  ·simp [h]
theorem zH2 {α:Type} (p:α→Bool):∀(xs:List α) (i:Nat),(xU (fun _ x=>if p x then some true else none) i xs).getD false=xs.any p
 |[],i=>rfl
 |x::xs,i=>by
  simp only [xU]
  cases h:p x
  ·simp only [qD,if_false,List.any_cons,h,Bool.false_or]
   exact zH2 p xs (i+1)
  ·simp [h]
def foldI {α A:Type} (f:Nat→A→α→A):Nat→List α→A→A
 |_,[],a=>a
 |i,x::xs,a=>foldI f (i+1) xs (f i a x)
theorem zEB {α A:Type} (xs:List α) (f:Nat→A→α→A) (I:Nat→A→Prop) {b:(A×Int)→Option (Lp (A×Int) A)}
  (hstep:∀(i:Nat) (a:A) (hi:i<xs.length),I i a→b (a,(i:Int))=some (.go (f i a xs[i],((i+1:Nat):Int)))∧I (i+1) (f i a xs[i])) (hend:∀a,b (a,(xs.length:Int))=some (.done a)):
  ∀(k i:Nat) (a:A),i+k=xs.length→I i a→loop b (a,(i:Int))=some (foldI f i (xs.drop i) a)∧I xs.length (foldI f i (xs.drop i) a)
 |0,i,a,h,hI=>by
  have e:i=xs.length:=by omega
  subst e
  rw [wO,hend,List.drop_length]
  exact ⟨rfl,hI⟩
 |k+1,i,a,h,hI=>by
  have hi:i<xs.length:=by omega
  obtain ⟨h1,h2⟩:=hstep i a hi hI
  have ih:=zEB xs f I hstep hend k (i+1) _ (by omega) h2
  rw [wO,h1,List.drop_eq_getElem_cons hi]
  exact ih
theorem zG7 {o:Option Int} {b:Bool} (h:(o.getD (-1)≥0)↔b=true):decide (o.getD (-1)≥0)=b:=by
 rw [Bool.eq_iff_iff,qM]; exact h
def zQc (c:Int):Bool:=(decide (c≥97)&&decide (c≤122))||(decide (c≥48)&&decide (c≤57))||c==95
def zM3 (c:Int):Bool:=zQc c||c==46||c==45||c==47
theorem zJU (c:Int):vE c=some (zQc c):=by
 unfold vE vL vO zQc
 cases decide (c≥97)<;>cases decide (c≤122)<;>cases decide (c≥48)<;>cases decide (c≤57)<;>rfl
theorem zJF (c:Int):zEg c=some (zM3 c):=by
 unfold zEg zM3
 rw [zJU]
 cases zQc c<;>cases (c==46)<;>cases (c==45)<;>cases (c==47)<;>rfl
def zHq (s:ByteArray):Prop:=1≤s.size∧s.size≤40∧∀c∈bl s,zM3 c=true
theorem zJG (s:ByteArray):(zHq s∧uX s=some 0)∨(¬zHq s∧uX s=some 5):=by
 unfold uX
 by_cases h1:s.size<1
 ·refine .inr ⟨fun h=>by have:=h.1; omega,?_⟩
  rw [if_pos (by simp; omega)]; rfl
 ·rw [if_neg (by simp; omega)]
  simp only [qA]
  by_cases h2:s.size>40
  ·refine .inr ⟨fun h=>by have:=h.2.1; omega,?_⟩
   rw [if_pos (by simp; omega)]
  ·rw [if_neg (by simp; omega)]
   obtain ⟨t,e,h⟩:=xO (b:=zA6 s) (fun i j=>j=(i:Int)∧∀k,(hk:k< (bl s).length)→k<i→zM3 (bl s)[k]=true) (bl s).length (fun t=>match t with| .ret r=>r=5∧¬zHq s| .nxt _=>∀c∈bl s,zM3 c=true) (by
    rintro i j hi ⟨rfl,hp⟩
    have hs:=zO s
    unfold zA6
    rw [if_pos (by simp; omega),zEt hi]
    simp only [qA,zJF]
    cases hb:zM3 (bl s)[i] with
    |false=>exact .inr ⟨_,rfl,rfl,fun h=>by have:=h.2.2 _ (qE hi); rw [hb] at this; cases this⟩
    |true=>
     rw [zM (by omega)]
     refine .inl ⟨_,rfl,rfl,fun k hk hki=>?_⟩
     rcases Nat.lt_or_ge k i with h|h
     ·exact hp k hk h
     ·have:k=i:=by omega
      subst this; exact hb) (by
    rintro j ⟨rfl,hp⟩
    unfold zA6
    rw [if_neg (by simp [zO])]
    refine ⟨_,rfl,fun c hc=>?_⟩
    obtain ⟨k,hk,rfl⟩:=List.getElem_of_mem hc
    exact hp k hk hk) (bl s).length 0 0 (by omega) ⟨rfl,fun k _ h=>by omega⟩
   simp only [zBh,e,qA]
   cases t with
   |ret r=>
    obtain ⟨rfl,h⟩:=h
    exact .inr ⟨h,rfl⟩
   |nxt u=>exact .inl ⟨⟨by omega,by omega,h⟩,rfl⟩
theorem zJK (s:ByteArray):∃r,uX s=some r∧(r=0↔zHq s):=by
 rcases zJG s with ⟨h1,h2⟩|⟨h1,h2⟩
 ·exact ⟨0,h2,by simp [h1]⟩
 ·exact ⟨5,h2,by simp [h1]⟩
def total (fs:List File):Int:=match fs with
 |[]=>0
 |f::fs=>f.Data.length+total fs
theorem zGx:∀(l r:List File),total (l++r)=total l+total r
 |[],r=>by simp [total]
 |f::l,r=>by simp only [List.cons_append,total,zGx l r]; omega
theorem zGf:∀(l:List File),0≤total l
 |[]=>Int.le_refl _
 |f::l=>by have:=zGf l; simp only [total]; omega
theorem zNh:∀(l:List File) (C:Int),0≤C→(∀f∈l,(f.Data.length:Int)≤C)→total l≤l.length*C
 |[],C,_,_=>by simp [total]
 |f::l,C,hC,h=>by
  have h1:=h f (by simp)
  have h2:=zNh l C hC (fun g hg=>h g (by simp [hg]))
  simp only [total,List.length_cons,Int.natCast_add,Int.add_mul]
  omega
theorem zJY (d:zP) (h:d.Files.length≤1048576) (hf:∀f∈d.Files,f.Data.length≤1048576):jW d=some (total d.Files):=by
 have htot:=zNh d.Files 1048576 (by omega) (fun f hm=>by have:=hf f hm; omega)
 have hb:((d.Files.length:Int))*1048576≤1048576*1048576:=Int.mul_le_mul_of_nonneg_right (by omega) (by omega)
 obtain ⟨t,e,rfl⟩:=xO (b:=zAl d) (fun i s=>s=(total (d.Files.take i),(i:Int))) d.Files.length (fun t=>t=total d.Files) (by
  rintro i s hi rfl
  unfold zAl
  rw [if_pos (by simp; omega)]
  have hsplit:total (d.Files.take (i+1))=total (d.Files.take i)+d.Files[i].Data.length :=by
   rw [qF hi,zGx]
   simp [total]
  have hle:total d.Files=total (d.Files.take (i+1))+total (d.Files.drop (i+1)):=by rw [←zGx,List.take_append_drop]
  have h1:=zGf (d.Files.take i)
  have h2:=zGf (d.Files.drop (i+1))
  simp only [zL hi,qA]
  rw [wC (by omega) (by omega),zM (by omega)]
  exact .inl ⟨_,rfl,by rw [hsplit]⟩) (by
  rintro s rfl
  unfold zAl
  rw [if_neg (by simp)]
  exact ⟨_,rfl,by simp⟩) d.Files.length 0 (0,0) (by omega) (by simp [total])
 simp only [jW,zBw,e,qA]
structure zP.good (d:zP):Prop where
 b0:0≤d.Budget
 b1:d.Budget≤20000
 w0:0≤d.Writes
 w1:d.Writes≤1000000000
 s0: -1≤d.Stop
 s1:d.Stop≤1000000000
 len:d.Files.length≤120
 path:∀f∈d.Files,zHq f.Path
 data:∀f∈d.Files,f.Data.length≤4000
 sorted:d.Files.Pairwise (fun f g=>slt f.Path g.Path=true)
 room:total d.Files≤d.Budget
theorem zOS {xs:List File} (h:∀i,(hi:i+1<xs.length)→slt xs[i].Path xs[i+1].Path =true):xs.Pairwise (fun f g=>slt f.Path g.Path=true):=by
 induction xs with
 |nil=>exact .nil
 |cons x xs ih=>
  have h':∀i,(hi:i+1<xs.length)→slt xs[i].Path xs[i+1].Path =true:=fun i hi=>h (i+1) (by simp; omega)
  have ih':=ih h'
  refine .cons ?_ ih'
  cases xs with
  |nil=>simp
  |cons y ys=>
   have hxy:slt x.Path y.Path=true:=by simpa using h 0 (by simp)
   intro z hz
   rcases List.mem_cons.1 hz with rfl|hz
   ·exact hxy
   ·exact zGj hxy ((List.pairwise_cons.1 ih').1 z hz)
theorem zJP (d:zP) (h:d.Files.length≤1048576):∃c,jU d=some c∧(c=0→d.good):=by
 unfold jU
 simp only [zRD,qA]
 by_cases hB:0≤d.Budget∧d.Budget≤20000
 ·by_cases hW:0≤d.Writes∧d.Writes≤1000000000
  ·by_cases hS: -1≤d.Stop∧d.Stop≤1000000000
   ·simp [hB.1,hB.2,hW.1,hW.2,hS.1,hS.2]
    by_cases hl:120<d.Files.length
    ·rw [if_pos (by omega)]
     exact ⟨2,rfl,by simp⟩
    ·rw [if_neg (by omega)]
     obtain ⟨t,e,ht⟩:=xO (b:=zA3 d) (fun i s=>s=(i:Int)∧(∀j,(hj:j<d.Files.length)→j<i→zHq d.Files[j].Path ∧d.Files[j].Data.length ≤4000)∧∀j,(hj:j+1<d.Files.length)→j+1<i→slt d.Files[j].Path d.Files[j+1].Path =true) d.Files.length
      (fun t=>match t with| .ret r=>r≠0| .nxt _=>(∀f∈d.Files,zHq f.Path∧f.Data.length≤4000)∧d.Files.Pairwise (fun f g=>slt f.Path g.Path=true)) (by
      rintro i s hi ⟨rfl,h1,h2⟩
      unfold zA3
      rw [if_pos (by simp; omega)]
      obtain ⟨r,hr,hr2⟩:=zJK d.Files[i].Path
      simp only [zL hi,qA,hr]
      by_cases hr0:r=0
      ·subst hr0
       rw [if_neg (by simp)]
       have key:∃q,(if decide ((i:Int)>0) then (idx d.Files (w64 ((i:Int)-1))).bind fun x39=>some (slt d.Files[i].Path x39.Path||seq d.Files[i].Path x39.Path) else some false)=some q∧(q=false→∀j,(hj:j+1<d.Files.length)→j+1<i+1→slt d.Files[j].Path d.Files[j+1].Path =true):=by
        by_cases hp:i=0
        ·subst hp
         exact ⟨false,by simp,fun _ j hj hji=>by omega⟩
        ·rw [if_pos (by simp; omega),wC (by omega) (by omega),show ((i:Int)-1)=((i-1:Nat):Int) by omega,zL (show i-1<d.Files.length by omega)]
         refine ⟨_,rfl,fun hq j hj hji=>?_⟩
         rcases Nat.lt_or_ge (j+1) i with hlt|hge
         ·exact h2 j hj hlt
         ·have hj1:j+1=i:=by omega
          subst hj1
          simp only [Bool.or_eq_false_iff] at hq
          have hq1:=hq.1
          have hq2:d.Files[j+1].Path ≠d.Files[j].Path :=fun e=>by
           have:=hq.2
           simp only [Nat.add_sub_cancel] at this
           rw [e] at this
           simp at this
          simp only [Nat.add_sub_cancel] at hq1
          exact zQP hq1 hq2
       obtain ⟨q,hq,hq2⟩:=key
       rw [hq]
       simp only [qA]
       cases q with
       |true=>exact .inr ⟨_,rfl,by simp⟩
       |false=>
        by_cases hd:(d.Files[i].Data.length :Int)>4000
        ·exact .inr ⟨.ret 2,by rw [if_neg (by simp),if_pos (by simpa using hd)],by simp⟩
        ·refine .inl ⟨((i+1:Nat):Int),?_,rfl,fun j hj hji=>?_,hq2 rfl⟩
         ·rw [if_neg (by simp),if_neg (by simpa using hd),zM (by omega)]
         ·rcases Nat.lt_or_ge j i with h'|h'
          ·exact h1 j hj h'
          ·have:j=i:=by omega
           subst this
           exact ⟨hr2.1 rfl,by omega⟩
      ·rw [if_pos (by simpa using hr0)]
       exact .inr ⟨_,rfl,hr0⟩) (by
      rintro s ⟨rfl,h1,h2⟩
      unfold zA3
      rw [if_neg (by simp)]
      refine ⟨_,rfl,fun f hf=>?_,zOS (fun i hi=>h2 i hi hi)⟩
      obtain ⟨j,hj,rfl⟩:=List.getElem_of_mem hf
      exact h1 j hj hj) d.Files.length 0 0 (by omega) ⟨rfl,fun j _ h=>by omega,fun j _ h=>by omega⟩
     simp only [zBv,e,qA]
     cases t with
     |ret r=>exact ⟨r,rfl,fun h=>absurd h ht⟩
     |nxt u=>
      simp only [Fl.go]
      rw [zJY d h (fun f hf=>by have:=(ht.1 f hf).2; omega)]
      simp only [qA]
      by_cases hr:d.Budget<total d.Files
      ·rw [if_pos hr]
       exact ⟨8,rfl,by simp⟩
      ·rw [if_neg hr]
       exact ⟨0,rfl,fun _=>⟨hB.1,hB.2,hW.1,hW.2,hS.1,hS.2,by omega,fun f hf=>(ht.1 f hf).1,fun f hf=>(ht.1 f hf).2,ht.2,by omega⟩⟩
   ·refine ⟨3,?_,by simp⟩
    simp [hB.1,hB.2,hW.1,hW.2]
    intro a b
    exact absurd ⟨a,b⟩ hS
  ·refine ⟨3,?_,by simp⟩
   simp [hB.1,hB.2]
   rw [if_pos (by omega)]
   rfl
 ·refine ⟨3,?_,by simp⟩
  rw [if_pos (by simp; omega)]
  rfl
def begins (s p:ByteArray):Bool:=decide (p.size≤s.size)&&seq (s.extract 0 p.size) p
theorem zHa (s p:ByteArray):tC s p=some (begins s p):=by
 unfold tC begins
 by_cases h:p.size≤s.size
 ·rw [if_pos (by simp; omega)]
  unfold zFt
  rw [if_pos (by omega)]
  simp [h]
 ·rw [if_neg (by simp; omega)]
  simp [h]
def kZ (fs:List File) (p:ByteArray):List ByteArray:=(fs.filter (fun f=>begins f.Path p)).map (·.Path)
theorem zJT (l r:List File) (p:ByteArray):kZ (l++r) p=kZ l p++kZ r p:=by
 simp [kZ]
theorem zF3 (l:List File) (p:ByteArray):(kZ l p).length ≤l.length:=by
 simp only [kZ,qC]
 exact List.length_filter_le _ _
theorem zND (d:zP) (p:ByteArray) (h:d.Files.length≤1048576):zAt d p=some (kZ d.Files p):=by
 obtain ⟨t,e,rfl⟩:=xO (b:=zAi d p) (fun i s=>s=(kZ (d.Files.take i) p,(i:Int))) d.Files.length (fun t=>t=kZ d.Files p) (by
  rintro i s hi rfl
  unfold zAi
  rw [if_pos (by simp; omega)]
  have hl:=zF3 (d.Files.take i) p
  have hl2:(d.Files.take i).length ≤i:=by simp; omega
  have ha:∀x:ByteArray,app 16 (kZ (d.Files.take i) p) [x]=some (kZ (d.Files.take i) p++[x]):=fun x=>wY (by simp; omega) (by simp; omega)
  have hsplit:kZ (d.Files.take (i+1)) p=kZ (d.Files.take i) p++kZ [d.Files[i]] p:=by
   rw [qF hi,zJT]
  simp only [zL hi,qA,zHa,ha,zM (show i<9223372036854775807 by omega)]
  cases hb:begins d.Files[i].Path p with
  |true=>exact .inl ⟨_,rfl,by rw [hsplit]; simp [kZ,hb]⟩
  |false=>exact .inl ⟨_,rfl,by rw [hsplit]; simp [kZ,hb]⟩) (by
  rintro s rfl
  unfold zAi
  rw [if_neg (by simp)]
  exact ⟨_,rfl,by simp⟩) d.Files.length 0 ([],0) (by omega) (by simp [kZ])
 simp only [zAt,zBu,e,qA]
theorem zMB:∀(a b:List UInt8),(Lib.compareBytes a b<0↔Op.bytesLess a b=true)∧(Lib.compareBytes a b=0↔a=b)
 |[],[]=>by simp [Lib.compareBytes,Op.bytesLess]
 |[],_::_=>by simp [Lib.compareBytes,Op.bytesLess]
 |_::_,[]=>by simp [Lib.compareBytes,Op.bytesLess]
 |x::a,y::b=>by
  obtain ⟨ih1,ih2⟩:=zMB a b
  simp only [Lib.compareBytes,Op.bytesLess]
  by_cases h1:x<y
  ·simp [h1]
   intro e; subst e; exact absurd h1 (by simp [UInt8.lt_irrefl])
  ·by_cases h2:y<x
   ·simp [h1,h2]
    have hne:x≠y:=fun e=>by subst e; exact absurd h2 (by simp [UInt8.lt_irrefl])
    simp [hne]
   ·have e:x=y:=by
     rw [UInt8.lt_iff_toNat_lt] at h1 h2
     exact UInt8.toNat_inj.1 (by omega)
    subst e
    simp [UInt8.lt_irrefl,ih1,ih2]
theorem zQX (a b:ByteArray):zS6 a b<0↔slt a b=true:=by
 unfold zS6 slt
 rw [ByteArray.toList_eq,ByteArray.toList_eq]
 exact (zMB _ _).1
theorem zGT (d:zP) (p:ByteArray) (h:d.Files.length≤1048576):
  (∃k:Nat,∃hk:k<d.Files.length,uE d p=some (k:Int)∧d.Files[k].Path =p)∨(uE d p=some (-1)∧∀f∈d.Files,f.Path≠p):=by
 obtain ⟨t,e,ht⟩:=xO (b:=zB0 d p) (fun i s=>s=(i:Int)∧∀q,(hq:q<d.Files.length)→q<i→d.Files[q].Path ≠p) d.Files.length
  (fun t=>match t with| .ret r=>∃k:Nat,∃hk:k<d.Files.length,r=(k:Int)∧d.Files[k].Path =p| .nxt _=>∀f∈d.Files,f.Path≠p) (by
  rintro i s hi ⟨rfl,hq⟩
  unfold zB0
  rw [if_pos (by simp; omega)]
  simp only [zL hi,qA]
  by_cases hp:d.Files[i].Path =p
  ·rw [if_pos (zET.2 hp)]
   exact .inr ⟨_,rfl,i,hi,rfl,hp⟩
  ·rw [if_neg (fun h'=>hp (zET.1 h')),zM (by omega)]
   refine .inl ⟨_,rfl,rfl,fun q hq' hqi=>?_⟩
   rcases Nat.lt_or_ge q i with h'|h'
   ·exact hq q hq' h'
   ·have:q=i:=by omega
    subst this; exact hp) (by
  rintro s ⟨rfl,hq⟩
  unfold zB0
  rw [if_neg (by simp)]
  refine ⟨_,rfl,fun f hf=>?_⟩
  obtain ⟨q,hq',rfl⟩:=List.getElem_of_mem hf
  exact hq q hq' hq') d.Files.length 0 0 (by omega) ⟨rfl,fun q _ h=>by omega⟩
 unfold uE
 rw [show zCq d p 0=some t from e]
 cases t with
 |ret r=>
  obtain ⟨k,hk,rfl,hp⟩:=ht
  exact .inl ⟨k,hk,rfl,hp⟩
 |nxt _=>exact .inr ⟨rfl,ht⟩
theorem zK8 {P:List Int→Prop} (h0:P []) (h1:∀l c,P l→P (l++[c])) (l:List Int):P l:=by
 have key:∀m:List Int,P m.reverse:=by
  intro m
  induction m with
  |nil=>exact h0
  |cons c m ih=>rw [List.reverse_cons]; exact h1 _ c ih
 have:=key l.reverse
 rwa [List.reverse_reverse] at this
def zGI (c:Int):Bool:=decide (c≥48)&&decide (c≤57)
def val (l:List Int):Int:=l.foldl (fun a c=>a*10+(c-48)) 0
theorem zH5 (l:List Int) (c:Int):val (l++[c])=val l*10+(c-48):=by simp [val]
theorem zFF {l:List Int} (h:∀c∈l,zGI c=true):0≤val l∧val l<10^l.length:=by
 revert h
 refine zK8 (P:=fun l=>(∀c∈l,zGI c=true)→0≤val l∧val l<10^l.length) ?_ ?_ l
 ·intro _; simp [val]
 ·intro l c ih h
  obtain ⟨h1,h2⟩:=ih (fun x hx=>h x (by simp [hx]))
  have hc:=h c (by simp)
  simp only [zGI,Bool.and_eq_true,qM] at hc
  rw [zH5,List.length_append,List.length_singleton,Int.pow_succ]
  omega
def zKp (l:List Int) (most:Int):Option Int:=if l.length<1∨(l.length:Int)>most∨¬(∀c∈l,zGI c=true) then none else some (val l)
theorem zMM {n:Nat} (h:n≤17):(10:Int)^n≤100000000000000000:=by
 have:(10:Nat)^n≤10^17:=Nat.pow_le_pow_right (by omega) h
 have e:((10^n:Nat):Int)=(10:Int)^n:=by simp
 rw [←e]
 omega
theorem zJ0 (c:Int):vO c=some (zGI c):=by
 unfold vO zGI
 cases decide (c≥48)<;>rfl
theorem zGU (s:ByteArray) (most:Int) (hm:most≤17):vK s most=some (match zKp (bl s) most with|some n=>(n,true)|none=>(0,false)):=by
 unfold vK zKp
 have hl:=zO s
 by_cases h1:s.size<1
 ·rw [if_pos (by simp; omega),if_pos (by omega)]
  rfl
 ·rw [if_neg (by simp; omega)]
  simp only [qA]
  by_cases h2:(s.size:Int)>most
  ·rw [if_pos (by simpa using h2),if_pos (by omega)]
  ·rw [if_neg (by simpa using h2)]
   obtain ⟨t,e,ht⟩:=xO (b:=zAX s) (fun i q=>q=(val ((bl s).take i),(i:Int))∧∀c∈(bl s).take i,zGI c=true) (bl s).length
    (fun t=>match t with| .ret r=>r=(0,false)∧¬ ∀c∈bl s,zGI c=true| .nxt v=>v=val (bl s)∧∀c∈bl s,zGI c=true) (by
    rintro i q hi ⟨rfl,hd⟩
    have hb:=zFF hd
    have hlen:((bl s).take i).length ≤17:=by simp; omega
    have hp:=zMM hlen
    have hr:=zI1 _ (qE hi)
    unfold zAX
    rw [if_pos (by simp; omega)]
    simp only [zEt hi,qA,zJ0]
    cases hc:zGI (bl s)[i] with
    |false=>exact .inr ⟨_,rfl,rfl,fun h=>by have:=h _ (qE hi); rw [hc] at this; cases this⟩
    |true=>
     have hc':=hc
     simp only [zGI,Bool.and_eq_true,qM] at hc'
     rw [wrap_u8 (by omega) (by omega),wC (x:=(bl s)[i]-48) (by omega) (by omega),wC (x:=val ((bl s).take i)*10) (by omega) (by omega),wC (by omega) (by omega),zM (by omega)]
     refine .inl ⟨_,rfl,by rw [qF hi,zH5],fun c hcm=>?_⟩
     rw [qF hi] at hcm
     rcases List.mem_append.1 hcm with h|h
     ·exact hd c h
     ·simp at h; rw [h]; exact hc) (by
    rintro q ⟨rfl,hd⟩
    unfold zAX
    rw [if_neg (by simp; omega)]
    rw [List.take_length] at hd ⊢
    exact ⟨_,rfl,rfl,hd⟩) (bl s).length 0 (0,0) (by omega) ⟨by simp [val],by simp⟩
   unfold zCj
   rw [e]
   cases t with
   |ret r=>
    obtain ⟨rfl,h⟩:=ht
    rw [if_pos (.inr (.inr h))]
    rfl
   |nxt v=>
    obtain ⟨rfl,h⟩:=ht
    rw [if_neg (fun h'=>by rcases h' with h'|h'|h'<;>first|omega|exact h' h)]
    rfl
theorem number_eq (s:ByteArray) (most:Int) (hm:most≤17):zEf s most=some (match zKp (bl s) most with|some n=>n|none=> -1):=by
 unfold zEf zKp
 have hl:=zO s
 have he:seq s (bs [])=decide (s.size<1):=by
  rw [zF9,zFs,List.map_nil]
  rw [Bool.eq_iff_iff]
  simp only [qM]
  constructor
  ·intro h; rw [h] at hl; simp at hl; omega
  ·intro h; exact List.eq_nil_of_length_eq_zero (by omega)
 rw [he]
 by_cases h1:s.size<1
 ·rw [if_pos (by simpa using h1),if_pos (by omega)]
  rfl
 ·rw [if_neg (by simpa using h1)]
  simp only [qA]
  by_cases h2:(s.size:Int)>most
  ·rw [if_pos (by simpa using h2),if_pos (by omega)]
  ·rw [if_neg (by simpa using h2)]
   obtain ⟨t,e,ht⟩:=xO (b:=zC7 s) (fun i q=>q=(val ((bl s).take i),(i:Int))∧∀c∈(bl s).take i,zGI c=true) (bl s).length
    (fun t=>match t with| .ret r=>r= -1∧¬ ∀c∈bl s,zGI c=true| .nxt v=>v=val (bl s)∧∀c∈bl s,zGI c=true) (by
    rintro i q hi ⟨rfl,hd⟩
    have hb:=zFF hd
    have hlen:((bl s).take i).length ≤17:=by simp; omega
    have hp:=zMM hlen
    have hr:=zI1 _ (qE hi)
    unfold zC7
    rw [if_pos (by simp; omega)]
    simp only [zEt hi,qA]
    have hq:(if decide ((bl s)[i]<48)=true then some true else some (decide ((bl s)[i]>57)))=some (!zGI (bl s)[i]):=by
     unfold zGI
     by_cases a:(bl s)[i]<48
     ·have b:¬((bl s)[i]≥48):=by omega
      simp [a,b]
     ·have b:(bl s)[i]≥48:=by omega
      by_cases c:(bl s)[i]>57
      ·have d:¬((bl s)[i]≤57):=by omega
       simp [a,b,c,d]
      ·have d:(bl s)[i]≤57:=by omega
       simp [a,b,c,d]
    rw [hq]
    simp only [qA]
    cases hc:zGI (bl s)[i] with
    |false=>exact .inr ⟨_,rfl,rfl,fun h=>by have:=h _ (qE hi); rw [hc] at this; cases this⟩
    |true=>
     have hc':=hc
     simp only [zGI,Bool.and_eq_true,qM] at hc'
     rw [wrap_u8 (by omega) (by omega),wC (x:=(bl s)[i]-48) (by omega) (by omega),wC (x:=10*val ((bl s).take i)) (by omega) (by omega),wC (by omega) (by omega),zM (by omega)]
     refine .inl ⟨_,rfl,by rw [qF hi,zH5,Int.mul_comm],fun c hcm=>?_⟩
     rw [qF hi] at hcm
     rcases List.mem_append.1 hcm with h|h
     ·exact hd c h
     ·simp at h; rw [h]; exact hc) (by
    rintro q ⟨rfl,hd⟩
    unfold zC7
    rw [if_neg (by simp; omega)]
    rw [List.take_length] at hd ⊢
    exact ⟨_,rfl,rfl,hd⟩) (bl s).length 0 (0,0) (by omega) ⟨by simp [val],by simp⟩
   unfold zDI
   rw [e]
   cases t with
   |ret r=>
    obtain ⟨rfl,h⟩:=ht
    rw [if_pos (.inr (.inr h))]
    rfl
   |nxt v=>
    obtain ⟨rfl,h⟩:=ht
    rw [if_neg (fun h'=>by rcases h' with h'|h'|h'<;>first|omega|exact h' h)]
    rfl
theorem zP2 {l:List Int} (h:∀c∈l,zGI c=true):zGd (10^l.length+(val l).toNat)=49::l:=by
 revert h
 refine zK8 (P:=fun l=>(∀c∈l,zGI c=true)→zGd (10^l.length+(val l).toNat)=49::l) ?_ ?_ l
 ·intro _; rw [zAg (by decide)]; rfl
 ·intro l c ih h
  have hl:∀c∈l,zGI c=true:=fun x hx=>h x (by simp [hx])
  have hb:=zFF hl
  have hc:=h c (by simp)
  simp only [zGI,Bool.and_eq_true,qM] at hc
  have e1:(val (l++[c])).toNat =(val l).toNat *10+(c-48).toNat :=by rw [zH5]; omega
  have e2:10^(l++[c]).length =10^l.length*10:=by rw [List.length_append,List.length_singleton,Nat.pow_succ]
  have hp:1≤10^l.length:=Nat.one_le_pow _ _ (by omega)
  rw [e1,e2,zEJ (by omega)]
  have e3:(10^l.length*10+((val l).toNat *10+(c-48).toNat)) / 10=10^l.length+(val l).toNat :=by omega
  have e4:(10^l.length*10+((val l).toNat *10+(c-48).toNat))%10=(c-48).toNat :=by omega
  rw [e3,e4,ih hl,List.cons_append]
  congr 3
  omega
def zRp:List Int:=[103,101,110,47]
theorem zO8:bl (bs [103,101,110,47])=zRp:=zFs _
theorem zN9 (n:Int):∃s,wL n=some s∧bl s=(if 1≤n∧n≤999999 then zRp++(zGd (1000000+n.toNat)).drop 1 else []):=by
 unfold wL
 rw [zRD]
 simp only [qA]
 by_cases h:1≤n∧n≤999999
 ·rw [if_pos h]
  have hb:(decide (n≥1)&&decide (n≤999999))=true:=by simp; omega
  rw [hb]
  rw [wC (by omega) (by omega),show (1000000:Int)+n=((1000000+n.toNat:Nat):Int) by omega]
  obtain ⟨s,e,hs⟩:=zFy (1000000+n.toNat) (by omega)
  have hlen:(zGd (1000000+n.toNat)).length =7:=zGP 6 _ (by omega) (by omega)
  have hsz:s.size=7:=by rw [←zO,hs,hlen]
  rw [e]
  simp only [Bool.not_true,qD,if_false,qA]
  unfold zFt
  rw [if_pos (by omega)]
  simp only [qA]
  have hx:(s.extract (1:Int).toNat ((s.size:Int)).toNat).size =6:=by
   rw [←zO,xM,List.length_take,List.length_drop,hs,hlen,hsz]
   rfl
  unfold cat
  rw [if_pos (by have:(bs [103,101,110,47]).size =4:=rfl; omega)]
  refine ⟨_,rfl,?_⟩
  rw [xE,zO8,xM,hs]
  congr 1
  rw [List.take_of_length_le (by rw [List.length_drop,hlen,hsz]; decide)]
  rfl
 ·rw [if_neg h]
  have hb:(decide (n≥1)&&decide (n≤999999))=false:=by
   simp only [Bool.and_eq_false_iff,decide_eq_false_iff_not]; omega
  rw [hb]
  exact ⟨_,rfl,zFs _⟩
def zGy (l:List Int):Option Int:=match zKp (l.drop 4) 6 with
 |some n=>if n≥1∧l.length=10 then some n else none
 |none=>none
theorem zOH {l:List Int} (hp:l.take 4=zRp) (hl:4≤l.length) {n:Int} (h:zKp (l.drop 4) 6=some n):
  (if 1≤n∧n≤999999 then zRp++(zGd (1000000+n.toNat)).drop 1 else [])=l↔(n≥1∧l.length=10):=by
 unfold zKp at h
 split at h
 ·cases h
 ·rename_i hc
  cases h
  have hc1:1≤(l.drop 4).length :=by omega
  have hc2:(l.drop 4).length ≤6:=by omega
  have hd:∀c∈l.drop 4,zGI c=true:=Classical.byContradiction fun h=>hc (.inr (.inr h))
  have hb:=zFF hd
  have hle:val (l.drop 4)≤999999:=by
   have:(10:Nat)^(l.drop 4).length ≤10^6:=Nat.pow_le_pow_right (by omega) hc2
   have e:(((10:Nat)^(l.drop 4).length :Nat):Int)=(10:Int)^(l.drop 4).length :=by simp
   omega
  have hll:l.length=4+(l.drop 4).length :=by simp; omega
  by_cases hn:1≤val (l.drop 4)
  ·rw [if_pos ⟨hn,hle⟩]
   constructor
   ·intro e
    refine ⟨hn,?_⟩
    rw [←e,List.length_append,List.length_drop,zGP 6 _ (by omega) (by omega)]
    rfl
   ·rintro ⟨_,h10⟩
    have h6:(l.drop 4).length =6:=by omega
    have key:=zP2 hd
    rw [h6,show (10:Nat)^6=1000000 from rfl] at key
    rw [key,←hp]
    simp
  ·rw [if_neg (by omega)]
   constructor
   ·intro e
    rw [←e] at hll
    simp at hll
   ·rintro ⟨h',_⟩; omega
theorem zJk {s p:ByteArray} (h:begins s p=true):(bl s).take (bl p).length =bl p∧(bl p).length ≤(bl s).length :=by
 unfold begins at h
 simp only [Bool.and_eq_true,qM] at h
 have:=zET.1 h.2
 refine ⟨?_,by rw [zO,zO]; exact h.1⟩
 have e:=congrArg bl this
 rw [xM] at e
 simpa [zO] using e
theorem zJy {fs:List File} {p:ByteArray}:∀s∈kZ fs p,begins s p=true:=by
 intro s hs
 unfold kZ at hs
 obtain ⟨f,hf,rfl⟩:=List.mem_map.1 hs
 exact (List.mem_filter.1 hf).2
def zGN (fs:List File):List Int:=(kZ fs (bs [103,101,110,47])).filterMap (fun p=>zGy (bl p))
theorem zLX {ps:List ByteArray} (h:∀s∈ps,begins s (bs [103,101,110,47])=true) {i:Nat} (hi:i<ps.length):(bl ps[i]).take 4=zRp∧4≤(bl ps[i]).length :=by
 have:=zJk (h _ (qE hi))
 rw [zO8] at this
 exact this
theorem zOQ {s:ByteArray} {k:Nat} (h:k≤s.size):∃t,zFt s (k:Int) (s.size:Int)=some t∧bl t=(bl s).drop k:=by
 unfold zFt
 rw [if_pos (by omega)]
 refine ⟨_,rfl,?_⟩
 rw [xM]
 simp only [Int.toNat_natCast]
 rw [List.take_of_length_le (by rw [List.length_drop,zO]; exact Nat.le_refl _)]
theorem zQk {f:ByteArray→Option Int}:∀(l:List ByteArray),(l.filterMap f).length ≤l.length:=fun l=>List.length_filterMap_le f l
theorem zJi (d:zP) (h:d.Files.length≤1048576):jF d=some (zGN d.Files):=by
 unfold jF zGN
 rw [zND d _ h]
 simp only [qA]
 have hm:=zJy (fs:=d.Files) (p:=bs [103,101,110,47])
 have hlen:=zF3 d.Files (bs [103,101,110,47])
 generalize kZ d.Files (bs [103,101,110,47])=ps at*
 obtain ⟨t,e,rfl⟩:=xO (b:=zBx d ps) (fun i s=>s=((ps.take i).filterMap (fun p=>zGy (bl p)),(i:Int))) ps.length (fun t=>t=ps.filterMap (fun p=>zGy (bl p))) (by
  rintro i s hi rfl
  obtain ⟨hp,h4⟩:=zLX hm hi
  have hsz:4≤ps[i].size :=by rw [←zO]; exact h4
  obtain ⟨u,hu,hub⟩:=zOQ (s:=ps[i]) (k:=4) hsz
  have hu':zFt ps[i] 4 (ps[i].size :Int)=some u:=hu
  have hfl:=zQk (f:=fun p=>zGy (bl p)) (ps.take i)
  have hil:(ps.take i).length ≤i:=by simp; omega
  have ha:∀x:Int,app 8 ((ps.take i).filterMap (fun p=>zGy (bl p))) [x]=some ((ps.take i).filterMap (fun p=>zGy (bl p))++[x]):=fun x=>wY (by simp; omega) (by simp; omega)
  have hsplit:(ps.take (i+1)).filterMap (fun p=>zGy (bl p))=(ps.take i).filterMap (fun p=>zGy (bl p))++[ps[i]].filterMap (fun p=>zGy (bl p)):=by
   rw [qF hi,List.filterMap_append]
  unfold zBx
  rw [if_pos (by simp; omega)]
  simp only [zL hi,qA,hu',zGU u 6 (by omega),hub,zM (show i<9223372036854775807 by omega)]
  left
  cases hn:zKp ((bl ps[i]).drop 4) 6 with
  |none=>
   refine ⟨_,rfl,?_⟩
   rw [hsplit]
   simp [zGy,hn]
  |some n=>
   obtain ⟨g,hg,hgb⟩:=zN9 n
   have hiff:=zOH hp h4 hn
   rw [←hgb] at hiff
   simp only [if_true,hg,qA]
   rw [zF9]
   by_cases hc:n≥1∧(bl ps[i]).length =10
   ·rw [decide_eq_true (hiff.2 hc)]
    simp only [qA,if_true,ha]
    refine ⟨_,rfl,?_⟩
    rw [hsplit]
    simp [zGy,hn,hc]
   ·rw [decide_eq_false (fun e=>hc (hiff.1 e))]
    refine ⟨_,rfl,?_⟩
    rw [hsplit]
    simp only [List.filterMap_cons,zGy,hn,if_neg hc,List.filterMap_nil,List.append_nil]) (by
  rintro s rfl
  unfold zBx
  rw [if_neg (by simp)]
  exact ⟨_,rfl,by simp⟩) ps.length 0 ([],0) (by omega) (by simp)
 simp only [zCr,e,qA]
theorem zGn (fs:List File):(zGN fs).length ≤fs.length:=by
 unfold zGN
 have h1:=zQk (f:=fun p=>zGy (bl p)) (kZ fs (bs [103,101,110,47]))
 have h2:=zF3 fs (bs [103,101,110,47])
 omega
theorem zNX {l:List Int} {n:Int} (h:zGy l=some n):l.length=10∧(∀c∈l.drop 4,zGI c=true)∧n=val (l.drop 4)∧1≤n∧n≤999999:=by
 unfold zGy at h
 cases hn:zKp (l.drop 4) 6 with
 |none=>rw [hn] at h; cases h
 |some m=>
  rw [hn] at h
  simp only at h
  split at h
  ·rename_i hc
   cases h
   unfold zKp at hn
   split at hn
   ·cases hn
   ·rename_i hc2
    cases hn
    have hd:∀c∈l.drop 4,zGI c=true:=Classical.byContradiction fun h=>hc2 (.inr (.inr h))
    have hb:=zFF hd
    have h6:(l.drop 4).length =6:=by rw [List.length_drop,hc.2]
    rw [h6] at hb
    exact ⟨hc.2,hd,rfl,hc.1,by omega⟩
  ·cases h
theorem zLB {fs:List File} {n:Int} (h:n∈zGN fs):1≤n∧n≤999999:=by
 unfold zGN at h
 obtain ⟨p,_,hp⟩:=List.mem_filterMap.1 h
 exact (zNX hp).2.2.2
theorem zQz {l:List Int} (h:∀c∈l,0≤c∧c≤255):bl (b2s l)=l:=by
 refine (zK8 (P:=fun l=>(∀c∈l,0≤c∧c≤255)→bl (b2s l)=l) ?_ ?_ l) h
 ·intro _; exact zFs []
 ·intro l c ih h
  have e:b2s (l++[c])=b2s l++b2s [c]:=by
   unfold b2s
   rw [List.foldl_append]
   generalize List.foldl (fun r n=>ByteArray.push r (UInt8.ofNat n.toNat)) ByteArray.empty l=x
   simp only [List.foldl_cons,List.foldl_nil]
   generalize UInt8.ofNat c.toNat=u
   apply toList_inj
   rw [ByteArray.toList_eq,ByteArray.toList_eq]
   simp
  rw [e,xE,ih (fun x hx=>h x (by simp [hx])),zMv (h c (by simp)).1 (h c (by simp)).2]
theorem zFa (l:List Int) (v:Int) (h:l.length≤1048576):yX l v=some (decide (v∈l)):=by
 obtain ⟨t,e,ht⟩:=xO (b:=zD5 l v) (fun i s=>s=(i:Int)∧v∉l.take i) l.length (fun t=>match t with| .ret r=>r=true∧v∈l| .nxt _=>v∉l) (by
  rintro i s hi ⟨rfl,hv⟩
  unfold zD5
  rw [if_pos (by simp; omega)]
  simp only [zL hi,qA]
  by_cases hc:l[i]=v
  ·rw [if_pos (by simpa using hc)]
   exact .inr ⟨_,rfl,rfl,hc▸qE hi⟩
  ·rw [if_neg (by simpa using hc),zM (by omega)]
   refine .inl ⟨_,rfl,rfl,?_⟩
   rw [qF hi]
   simp only [qJ,qI,not_or]
   exact ⟨hv,fun e=>hc e.symm⟩) (by
  rintro s ⟨rfl,hv⟩
  unfold zD5
  rw [if_neg (by simp)]
  rw [List.take_length] at hv
  exact ⟨_,rfl,hv⟩) l.length 0 0 (by omega) ⟨rfl,by simp⟩
 unfold yX
 rw [show zEy l v 0=some t from e]
 cases t with
 |ret r=>obtain ⟨rfl,hm⟩:=ht; simp [Fl.go,hm]
 |nxt _=>simp only [Fl.go,qA]; rw [decide_eq_false ht]
def zOv (c:Int):Bool:=decide (97≤c)&&decide (c≤122)
def zKq (c:Int):Bool:=decide (48≤c)&&decide (c≤57)
def zIn (c:Int):Bool:=zOv c||(zKq c||c==95)
theorem zJl (c:Int):vL c=some (zOv c):=by
 unfold vL zOv
 by_cases h:c≥97<;>simp [h]
theorem zOa (c:Int):vO c=some (zKq c):=by
 unfold vO zKq
 by_cases h:c≥48<;>simp [h]
theorem zLo (c:Int):vE c=some (zIn c):=by
 unfold vE zIn
 simp only [zJl,zOa,qA]
 cases zOv c<;>cases zKq c<;>simp
theorem zHe (c:Int):uF c=some (zIn c):=by
 unfold uF zIn zOv zKq
 by_cases h1:c≥97<;>by_cases h2:c≤122<;>by_cases h3:c≥48<;>by_cases h4:c≤57<;>simp [h1,h2,h3,h4]
def zI6 (s:ByteArray):Int:=(xU (fun _ c=>if zIn c then none else some (5:Int)) 0 (bl s)).getD 0
def NF (s:ByteArray):Int:=if s.size<1 then 5 else if s.size>12 then 5 else if zOv ((bl s).headD 0) then zI6 s else 5
theorem zOy {s:ByteArray} (h:1≤s.size):bidx s 0=some ((bl s).headD 0):=by
 have h':0< (bl s).length :=by rw [zO]; exact h
 have e:=zEt (s:=s) (i:=0) h'
 rw [show ((0:Nat):Int)=0 from rfl] at e
 rw [e]
 have:(bl s)[0]? =some ((bl s).headD 0):=by
  cases hb:bl s with
  |nil=>rw [hb] at h'; simp at h'
  |cons c l=>rfl
 rw [List.getElem?_eq_getElem h'] at this
 exact this
theorem zKN (s:ByteArray) (h:s.size≤12):kG s 0=some (frs (xU (fun _ c=>if zIn c then none else some (5:Int)) 0 (bl s))):=by
 unfold kG
 refine xZ (bl s) _ (fun i hi=>?_) ?_
 ·have hs:i<s.size:=by rw [←zO]; exact hi
  unfold zCu
  rw [if_pos (by simp; omega),zEt hi]
  simp only [qA,zLo]
  rw [zM (by omega)]
  cases zIn (bl s)[i]<;>rfl
 ·unfold zCu
  rw [if_neg (by rw [zO]; simp)]
theorem zK5 (s:ByteArray) (h:s.size≤12):kL s 0=some (frs (xU (fun _ c=>if zIn c then none else some (5:Int)) 0 (bl s))):=by
 unfold kL
 refine xZ (bl s) _ (fun i hi=>?_) ?_
 ·have hs:i<s.size:=by rw [←zO]; exact hi
  unfold zC0
  rw [if_pos (by simp; omega),zEt hi]
  simp only [qA,zHe]
  rw [zM (by omega)]
  cases zIn (bl s)[i]<;>rfl
 ·unfold zC0
  rw [if_neg (by rw [zO]; simp)]
theorem zEL (s:ByteArray):wS s=some (NF s):=by
 unfold wS NF
 by_cases h1:s.size<1
 ·rw [if_pos (show decide ((s.size:Int)<1)=true by rw [qM]; omega),if_pos h1]; rfl
 rw [if_neg (show ¬decide ((s.size:Int)<1)=true by rw [qM]; omega),if_neg h1]
 by_cases h2:s.size>12
 ·rw [if_pos (show decide ((s.size:Int)>12)=true by rw [qM]; omega),if_pos h2]; rfl
 rw [if_neg (show ¬decide ((s.size:Int)>12)=true by rw [qM]; omega),if_neg h2,zOy (by omega),zKN s (by omega)]
 simp only [qA,zJl]
 cases h3:zOv ((bl s).headD 0)
 ·rfl
 ·unfold zI6
  cases xU (fun _ c=>if zIn c then none else some (5:Int)) 0 (bl s)<;>rfl
theorem zP0 (c:Int):(if decide (c<97)=true then some true else some (decide (c>122)))=some (!(zOv c)):=by
 unfold zOv
 by_cases h3:c<97
 ·rw [if_pos (by rw [qM]; exact h3)]
  have:decide (97≤c)=false:=by rw [decide_eq_false_iff_not]; omega
  rw [this]; rfl
 ·rw [if_neg (by rw [qM]; exact h3)]
  have:decide (97≤c)=true:=by rw [qM]; omega
  rw [this]
  congr 1
  rw [Bool.true_and,Bool.eq_iff_iff]
  simp
theorem zEK (s:ByteArray):wR s=some (NF s):=by
 unfold wR NF
 by_cases h1:s.size<1
 ·rw [if_pos (show decide ((s.size:Int)<1)=true by rw [qM]; omega),if_pos h1]; rfl
 rw [if_neg (show ¬decide ((s.size:Int)<1)=true by rw [qM]; omega),if_neg h1]
 by_cases h2:s.size>12
 ·rw [if_pos (show decide ((s.size:Int)>12)=true by rw [qM]; omega),if_pos h2]; rfl
 rw [if_neg (show ¬decide ((s.size:Int)>12)=true by rw [qM]; omega),if_neg h2,zOy (by omega),zK5 s (by omega)]
 simp only [qA,zP0]
 cases h3:zOv ((bl s).headD 0)
 ·rfl
 ·unfold zI6
  cases xU (fun _ c=>if zIn c then none else some (5:Int)) 0 (bl s)<;>rfl
def VF (v:Version):Int:=if inB v.A 0 999&&inB v.B 0 999&&inB v.C 0 999 then 0 else 3
theorem zEA (v:Version):xJ v=some (VF v):=by
 unfold xJ VF
 simp only [zH9,qA]
 cases inB v.A 0 999<;>cases inB v.B 0 999<;>cases inB v.C 0 999<;>rfl
theorem zFD (v:Version):wE v=some (VF v):=by
 unfold wE VF
 simp only [zIB,qA]
 cases inB v.A 0 999<;>cases inB v.B 0 999<;>cases inB v.C 0 999<;>rfl
def sgn (a b:Int):Int:=if a<b then-1 else if a>b then 1 else 0
theorem zOY (a b:Int):kY a b=some (sgn a b):=by
 unfold kY sgn
 by_cases h:a<b
 ·simp [h]
 ·by_cases h2:a>b<;>simp [h,h2]
theorem cmp_eq (a b:Int):wF a b=some (sgn a b):=by
 unfold wF tH sgn
 simp only [qA,bne_self_eq_false,qD,if_false]
 by_cases h:a<b
 ·simp [h]
 ·by_cases h2:a>b<;>simp [h,h2]
def zLP (a b:Version):Int:=if sgn a.A b.A≠0 then sgn a.A b.A else if sgn a.B b.B≠0 then sgn a.B b.B else sgn a.C b.C
theorem jH (a b:Version):zW a b=some (zLP a b):=by
 unfold zW zLP
 simp only [zOY,qA]
 by_cases h1:sgn a.A b.A=0
 ·by_cases h2:sgn a.B b.B=0<;>simp [h1,h2]
 ·simp [h1]
theorem zQV (l:List Int) (h:l.length≤10):loop (zD3 l) 0=some (frs (xU (fun _ c=>if c !=0 then some c else none) 0 l)):=by
 refine xZ l _ (fun i hi=>?_) ?_
 ·unfold zD3
  rw [if_pos (by simp; omega),zL hi]
  simp only [qA]
  rw [zM (by omega)]
  cases l[i] !=0<;>rfl
 ·unfold zD3
  rw [if_neg (by simp)]
theorem zLI (a b:Version):zDf a b=some (zLP a b):=by
 unfold zDf zLP zFe zEo
 simp only [cmp_eq,qA]
 rw [zQV _ (by simp),zDx]
 by_cases h1:sgn a.A b.A=0
 ·by_cases h2:sgn a.B b.B=0
  ·by_cases h3:sgn a.C b.C=0<;>simp [h1,h2,h3,xU]
  ·simp [h1,h2,xU]
 ·simp [h1,xU]
def eqV (a b:Version):Bool:=a.A==b.A&&(a.B==b.B&&(a.C==b.C&&true))
theorem zMo (a b:Version):eqV a b=true↔a=b:=by
 unfold eqV
 cases a; cases b
 simp [Version.mk.injEq]
theorem zLD (a b:Version):(zLP a b==0)=eqV a b:=by
 unfold zLP eqV sgn
 rw [Bool.eq_iff_iff]
 simp only [beq_iff_eq,Bool.and_eq_true,Bool.and_true]
 constructor
 ·intro h
  split at h<;>omega
 ·intro ⟨h1,h2,h3⟩
  split<;>omega
def zJQ:Version:= {A:=1000,B:=0,C:=0}
def TF (t:Term):Int:=if NF t.Name≠0 then NF t.Name else if VF t.Low≠0 then VF t.Low else
 if eqV t.High zJQ=false∧VF t.High≠0 then 3 else if zLP t.Low t.High≥0 then 1 else 0
theorem zF4 (t:Term):vG t=some (TF t):=by
 unfold vG TF uK
 simp only [zEL,zEA,jH,qA]
 show (if (NF t.Name !=0)=true then some (NF t.Name) else if (VF t.Low !=0)=true then some (VF t.Low) else (if (!(eqV t.High zJQ))=true then some (VF t.High !=0) else some false).bind fun v=>if v=true then some 3 else if decide (zLP t.Low t.High≥0)=true then some 1 else some 0)=_
 generalize NF t.Name=a
 generalize VF t.Low=b
 generalize eqV t.High zJQ=c
 generalize VF t.High=d
 generalize zLP t.Low t.High=e
 by_cases h1:a=0
 ·by_cases h2:b=0
  ·by_cases h4:d=0<;>by_cases h5:e≥0<;>cases c<;>simp [h1,h2,h4,h5]
  ·simp [h1,h2]
 ·simp [h1]
theorem zF5 (t:Term):wW t=some (TF t):=by
 unfold wW TF zDr
 simp only [zEK,zFD,zLI,qA]
 show (if (NF t.Name !=0)=true then some (NF t.Name) else if (VF t.Low !=0)=true then some (VF t.Low) else (if (!(eqV t.High zJQ))=true then some (VF t.High !=0) else some false).bind fun v=>if v=true then some 3 else if decide (zLP t.Low t.High≥0)=true then some 1 else some 0)=_
 generalize NF t.Name=a
 generalize VF t.Low=b
 generalize eqV t.High zJQ=c
 generalize VF t.High=d
 generalize zLP t.Low t.High=e
 by_cases h1:a=0
 ·by_cases h2:b=0
  ·by_cases h4:d=0<;>by_cases h5:e≥0<;>cases c<;>simp [h1,h2,h4,h5]
  ·simp [h1,h2]
 ·simp [h1]
def tsF (l:List Term):Int:=(xU (fun _ t=>if TF t !=0 then some (TF t) else none) 0 l).getD 0
theorem zGs (l:List Term) (h:l.length≤1048576):uP l=some (tsF l):=by
 have key:=xZ l (fun _ t=>if TF t !=0 then some (TF t) else none) (b:=zBY l) (by
  intro i hi
  unfold zBY
  rw [if_pos (by simp; omega),zL hi]
  simp only [qA,zF4]
  rw [zM (by omega)]
  cases TF l[i] !=0<;>rfl) (by
  unfold zBY
  rw [if_neg (by simp)])
 unfold uP zCC tsF
 rw [key,zDx]
 cases xU (fun _ t=>if TF t !=0 then some (TF t) else none) 0 l<;>rfl
theorem zFp (l:List Term) (h:l.length≤1048576):wG l=some (tsF l):=by
 have key:=xZ l (fun _ t=>if TF t !=0 then some (TF t) else none) (b:=kP l) (by
  intro i hi
  unfold kP
  rw [if_pos (by simp; omega),zL hi]
  simp only [qA,zF5]
  rw [zM (by omega)]
  cases TF l[i] !=0<;>rfl) (by
  unfold kP
  rw [if_neg (by simp)])
 unfold wG zAm tsF
 rw [key,zDx]
 cases xU (fun _ t=>if TF t !=0 then some (TF t) else none) 0 l<;>rfl
theorem zE0 {n:Nat} (h:n<1000):(zKc n).size ≤3:=by
 rw [←zO,zFP]
 exact zGM 2 n (by omega)
theorem zEZ:(bs [46]).size =1:=rfl
def zGQ (v:Version):ByteArray:=zKc v.A.toNat++bs [46]++zKc v.B.toNat++bs [46]++zKc v.C.toNat
theorem zID {v:Version} (h:VF v=0):(0≤v.A∧v.A≤999)∧(0≤v.B∧v.B≤999)∧(0≤v.C∧v.C≤999):=by
 unfold VF inB at h
 split at h
 ·rename_i hh
  simp only [Bool.and_eq_true,qM] at hh
  omega
 ·cases h
theorem zCS {v:Version} (h:VF v=0):(zGQ v).size ≤11:=by
 obtain ⟨h1,h2,h3⟩:=zID h
 unfold zGQ
 simp only [xS,zEZ]
 have a1:=zE0 (n:=v.A.toNat) (by omega)
 have a2:=zE0 (n:=v.B.toNat) (by omega)
 have a3:=zE0 (n:=v.C.toNat) (by omega)
 omega
theorem zK0 {x:Int} (h:0≤x∧x≤999):xX x=some (zKc x.toNat):=by
 have:=zIh x.toNat (by omega)
 rwa [Int.toNat_of_nonneg h.1] at this
theorem zKX {x:Int} (h:0≤x∧x≤999):zEz x=some (zKc x.toNat):=by
 have:=zLs x.toNat (by omega)
 rw [Int.toNat_of_nonneg h.1] at this
 unfold zEz
 rw [this]
 rfl
theorem zCv {v:Version} (h:VF v=0):yP v=some (zGQ v):=by
 obtain ⟨h1,h2,h3⟩:=zID h
 have a1:=zE0 (n:=v.A.toNat) (by omega)
 have a2:=zE0 (n:=v.B.toNat) (by omega)
 have a3:=zE0 (n:=v.C.toNat) (by omega)
 unfold yP zGQ
 rw [zEA,h]
 simp only [qA,zK0 h1,zK0 h2,zK0 h3]
 rw [if_neg (by simp)]
 rw [vV (by rw [zEZ]; omega)]
 simp only [qA]
 rw [vV (by simp only [xS,zEZ]; omega)]
 simp only [qA]
 rw [vV (by simp only [xS,zEZ]; omega)]
 simp only [qA]
 rw [vV (by simp only [xS,zEZ]; omega)]
 rfl
theorem zJA {v:Version} (h:VF v=0):xK v=some (zGQ v):=by
 obtain ⟨h1,h2,h3⟩:=zID h
 have a1:=zE0 (n:=v.A.toNat) (by omega)
 have a2:=zE0 (n:=v.B.toNat) (by omega)
 have a3:=zE0 (n:=v.C.toNat) (by omega)
 unfold xK zGQ
 simp only [qA,zKX h1,zKX h2,zKX h3]
 rw [vV (by rw [zEZ]; omega)]
 simp only [qA]
 rw [vV (by simp only [xS,zEZ]; omega)]
 simp only [qA]
 rw [vV (by simp only [xS,zEZ]; omega)]
 simp only [qA]
 rw [vV (by simp only [xS,zEZ]; omega)]
 rfl
theorem zFU {s:ByteArray} (h:NF s=0):1≤s.size∧s.size≤12:=by
 unfold NF at h
 split at h
 ·cases h
 ·split at h
  ·cases h
  ·omega
def zeroV:Version:= {A:=0,B:=0,C:=0}
def zG8 (t:Term):ByteArray:=if eqV t.Low zeroV then bs [] else bs [62,61]++zGQ t.Low
def zFI (t:Term):ByteArray:=if eqV t.High zJQ then bs [] else bs [60]++zGQ t.High
def zFb (t:Term):ByteArray:=t.Name++(zG8 t++zFI t)
theorem zFl:bl (bs [])=[]:=by unfold bl; rw [ByteArray.toList_eq]; rfl
theorem zMG (a:ByteArray):a++bs []=a:=zEX.1 (by rw [xE,zFl,List.append_nil])
theorem zJz {t:Term} (h:TF t=0):NF t.Name=0∧VF t.Low=0∧(eqV t.High zJQ=true∨VF t.High=0)∧zLP t.Low t.High<0:=by
 unfold TF at h
 split at h
 ·rename_i h1; exact absurd h h1
 rename_i h1
 split at h
 ·rename_i h2; exact absurd h h2
 rename_i h2
 split at h
 ·cases h
 rename_i h3
 split at h
 ·cases h
 rename_i h4
 refine ⟨by simpa using h1,by simpa using h2,?_,by omega⟩
 cases he:eqV t.High zJQ
 ·refine .inr ?_
  by_cases hv:VF t.High=0
  ·exact hv
  ·exact absurd ⟨he,hv⟩ h3
 ·exact .inl rfl
theorem zIP {t:Term} (h:VF t.Low=0):(zG8 t).size ≤13:=by
 unfold zG8
 have hv:=zCS h
 split
 ·decide
 ·rw [xS]; have:(bs [62,61]).size =2:=rfl; omega
theorem zHJ {t:Term} (h:eqV t.High zJQ=true∨VF t.High=0):(zFI t).size ≤12:=by
 unfold zFI
 split
 ·decide
 ·rename_i he
  rcases h with h|h
  ·exact absurd h he
  ·have hv:=zCS h
   rw [xS]; have:(bs [60]).size =1:=rfl; omega
theorem zED {t:Term} (h:TF t=0):(zFb t).size ≤37:=by
 obtain ⟨h1,h2,h3,_⟩:=zJz h
 have a1:=zFU h1
 have a2:=zIP h2
 have a3:=zHJ h3
 unfold zFb
 simp only [xS]
 omega
theorem zRf (a b:Version):(zLP a b !=0)= !(eqV a b):=by
 rw [←zLD]; rfl
theorem zGw (t:Term):vY t=some (if TF t !=0 then bs [] else zFb t):=by
 unfold vY
 rw [zF4]
 simp only [qA]
 cases h:TF t !=0
 case true=>rfl
 have h0:TF t=0:=by simpa using h
 obtain ⟨h1,h2,h3,_⟩:=zJz h0
 have a1:=zFU h1
 have a2:=zIP h2
 have a3:=zHJ h3
 rw [if_neg (by simp),if_neg (by simp),jH]
 simp only [qA,uK]
 rw [show (zLP t.Low ({A:=0,B:=0,C:=0}:Version) !=0)= !(eqV t.Low zeroV) from zRf _ _]
 have step1:(if (!(eqV t.Low zeroV))=true then (cat t.Name (bs [62,61])).bind fun x8=>(yP t.Low).bind fun x10=>(cat x8 x10).bind fun x12=>some x12 else some t.Name)=some (t.Name++zG8 t):=by
  unfold zG8 at a2 ⊢
  cases hq:eqV t.Low zeroV
  ·rw [if_pos (by rfl),zCv h2]
   have hv:=zCS h2
   have h62:(bs [62,61]).size =2:=rfl
   rw [vV (by omega)]
   simp only [qA]
   rw [vV (by rw [xS]; omega)]
   simp only [qA,zEw]
   rfl
  ·rw [if_neg (by simp)]
   rw [if_pos rfl,zMG]
 rw [step1]
 simp only [qA]
 have step2:(if (!(eqV t.High zJQ))=true then (cat (t.Name++zG8 t) (bs [60])).bind fun x8=>(yP t.High).bind fun x10=>(cat x8 x10).bind fun x12=>some x12 else some (t.Name++zG8 t))=some (zFb t):=by
  unfold zFb
  unfold zFI at a3 ⊢
  cases hq:eqV t.High zJQ
  ·have hV:VF t.High=0:=h3.resolve_left (by rw [hq]; simp)
   have hv:=zCS hV
   have h62:(bs [60]).size =1:=rfl
   rw [if_pos (by rfl),zCv hV]
   rw [vV (by rw [xS]; omega)]
   simp only [qA]
   rw [vV (by simp only [xS]; omega)]
   simp only [qA,zEw]
   rfl
  ·rw [if_neg (by simp)]
   rw [if_pos rfl,zMG]
 exact (congrArg (fun o=>Option.bind o fun v=>some v) step2)
theorem zIH (t:Term):kX t=some (if TF t !=0 then bs [] else zFb t):=by
 unfold kX
 rw [zF5]
 simp only [qA]
 cases h:TF t !=0
 case true=>rfl
 have h0:TF t=0:=by simpa using h
 obtain ⟨h1,h2,h3,_⟩:=zJz h0
 have a1:=zFU h1
 have a2:=zIP h2
 have a3:=zHJ h3
 simp only [qD,if_false,qA,zDr]
 rw [show (!(t.Low.A==0&&(t.Low.B==0&&(t.Low.C==0&&true))))= !(eqV t.Low zeroV) from rfl]
 have step1:(if (!(eqV t.Low zeroV))=true then (xK t.Low).bind fun x6=>(cat (bs [62,61]) x6).bind fun x8=>(cat t.Name x8).bind fun x10=>some x10 else some t.Name)=some (t.Name++zG8 t):=by
  unfold zG8 at a2 ⊢
  cases hq:eqV t.Low zeroV
  ·rw [if_pos (by rfl),zJA h2]
   have hv:=zCS h2
   have h62:(bs [62,61]).size =2:=rfl
   simp only [qA]
   rw [vV (by omega)]
   simp only [qA]
   rw [vV (by rw [xS]; omega)]
   rfl
  ·rw [if_neg (by simp)]
   rw [if_pos rfl,zMG]
 rw [step1]
 simp only [qA]
 have step2:(if (!(eqV t.High zJQ))=true then (xK t.High).bind fun x6=>(cat (bs [60]) x6).bind fun x8=>(cat (t.Name++zG8 t) x8).bind fun x10=>some x10 else some (t.Name++zG8 t))=some (zFb t):=by
  unfold zFb
  unfold zFI at a3 ⊢
  cases hq:eqV t.High zJQ
  ·have hV:VF t.High=0:=h3.resolve_left (by rw [hq]; simp)
   have hv:=zCS hV
   have h62:(bs [60]).size =1:=rfl
   rw [if_pos (by rfl),zJA hV]
   simp only [qA]
   rw [vV (by omega)]
   simp only [qA]
   rw [vV (by simp only [xS]; omega)]
   simp only [qA,zEw]
   rfl
  ·rw [if_neg (by simp)]
   rw [if_pos rfl,zMG]
 exact (congrArg (fun o=>Option.bind o fun v=>some v) step2)
theorem zMC:∀(l:List Term) (i:Nat),(xU (fun _ t=>if TF t !=0 then some (TF t) else none) i l).getD 0=0→∀t∈l,TF t=0
 |[],_,_=>by simp
 |t::l,i,h=>by
  simp only [xU] at h
  cases ht:TF t !=0
  ·rw [ht] at h
   have:=zMC l (i+1) (by simpa using h)
   intro x hx
   rcases List.mem_cons.1 hx with rfl|hx
   ·simpa using ht
   ·exact this x hx
  ·rw [ht] at h
   simp only [if_true,Option.getD_some] at h
   rw [h] at ht
   simp at ht
theorem zKx {l:List Term} (h:tsF l=0):∀t∈l,TF t=0:=zMC l 0 h
def zEn {α:Type} (f:α→ByteArray) (a:ByteArray) (l:List α):ByteArray:=l.foldl (fun a t=>a++f t) a
theorem zNb {α:Type} (f:α→ByteArray):∀(l:List α) (a:ByteArray),foldI (fun _ a t=>a++f t) 0 l a=zEn f a l∧∀i,foldI (fun _ a t=>a++f t) i l a=zEn f a l
 |[],a=>⟨rfl,fun _=>rfl⟩
 |x::l,a=>by
  have:=zNb f l (a++f x)
  exact ⟨this.2 1,fun i=>this.2 (i+1)⟩
theorem zFg {α:Type} (xs:List α) (f:α→ByteArray) (C:Nat) (hC:∀x∈xs,(f x).size ≤C) {b:(ByteArray×Int)→Option (Lp (ByteArray×Int) ByteArray)} (a0:ByteArray)
  (hstep:∀(i:Nat) (a:ByteArray) (hi:i<xs.length),a.size≤a0.size+i*C→b (a,(i:Int))=some (.go (a++f xs[i],((i+1:Nat):Int)))) (hend:∀a,b (a,(xs.length:Int))=some (.done a)):
  loop b (a0,0)=some (zEn f a0 xs)∧(zEn f a0 xs).size ≤a0.size+xs.length*C:=by
 have h:=zEB xs (fun _ a t=>a++f t) (fun i a=>a.size≤a0.size+i*C) (b:=b) (fun i a hi hI=>⟨hstep i a hi hI,by
  have h:=hC _ (qE hi)
  simp only [xS]
  rw [Nat.add_mul]
  omega⟩) hend xs.length 0 a0 (by omega) (by omega)
 rw [List.drop_zero,(zNb f xs a0).1] at h
 exact h
theorem zEF {α:Type} (f:α→ByteArray) (C:Nat):∀(l:List α),(∀x∈l,(f x).size ≤C)→∀a,(zEn f a l).size ≤a.size+l.length*C
 |[],_,a=>by simp [zEn]
 |x::l,h,a=>by
  have h1:=zEF f C l (fun y hy=>h y (by simp [hy])) (a++f x)
  have h2:=h x (by simp)
  rw [xS] at h1
  show (zEn f (a++f x) l).size ≤_
  rw [List.length_cons,Nat.add_mul]
  omega
def zJJ (t:Term):ByteArray:=zFb t++bs [10]
def zFE (l:List Term):ByteArray:=zEn zJJ (bs []) l
theorem zG2 {t:Term} (h:TF t=0):(zJJ t).size ≤38:=by
 unfold zJJ
 have:=zED h
 rw [xS]; have:(bs [10]).size =1:=rfl; omega
theorem zJ9 (l:List Term) (hl:l.length≤1048576) (h:∀t∈l,TF t=0):zAH l=some (zFE l):=by
 have key:=zFg l zJJ 38 (fun t ht=>zG2 (h t ht)) (b:=zC9 l) (bs []) (fun i a hi ha=>by
  have hz:(bs []).size =0:=rfl
  have ht:=h _ (qE hi)
  have hts:=zED ht
  have h10:(bs [10]).size =1:=rfl
  unfold zC9
  rw [if_pos (by simp; omega),zL hi]
  simp only [qA,zGw]
  rw [if_neg (by simp [ht]),vV (by omega)]
  simp only [qA]
  rw [vV (by rw [xS]; omega)]
  simp only [qA,zEw]
  rw [zM (by omega)]
  rfl) (fun a=>by
  unfold zC9
  rw [if_neg (by simp)])
 unfold zAH zD0
 rw [key.1]
 rfl
theorem zPu (a b:ByteArray):seq a b=seq b a:=by
 unfold seq
 rw [Bool.eq_iff_iff]
 simp only [beq_iff_eq]
 exact eq_comm
theorem zF7 {α R:Type} (g:Nat→α→Option R):∀(xs:List α) (i:Nat),xU g i xs=none↔∀(j:Nat) (h:j<xs.length),g (i+j) xs[j]=none
 |[],i=>by simp [xU]
 |x::xs,i=>by
  simp only [xU]
  cases h:g i x with
  |some r=>
   simp only [reduceCtorEq,false_iff]
   intro hh
   have:=hh 0 (by simp)
   simp only [Nat.add_zero,List.getElem_cons_zero] at this
   rw [h] at this
   cases this
  |none=>
   show xU g (i+1) xs=none↔_
   rw [zF7 g xs (i+1)]
   constructor
   ·intro hh j hj
    cases j with
    |zero=>simpa using h
    |succ j=>
     have:=hh j (by simpa using hj)
     rw [show i+(j+1)=i+1+j by omega]
     simpa using this
   ·intro hh j hj
    have:=hh (j+1) (by simpa using hj)
    rw [show i+(j+1)=i+1+j by omega] at this
    simpa using this
theorem zH1 {α:Type} {xs:List α} {i:Nat} (h:i≤xs.length):zGp xs 0 (i:Int)=some (xs.take i):=by
 have:=zFQ (xs:=xs) (l:=0) (h:=i) (by omega) h
 rw [show ((0:Nat):Int)=0 from rfl] at this
 rw [this]
 simp
theorem zDw (l:List ByteArray) (n:ByteArray) (h:l.length≤1048576):xG l n=some (l.any fun x=>seq x n):=by
 have key:=xZ l (fun _ x=>if seq x n then some true else none) (b:=zCe l n) (by
  intro i hi
  unfold zCe
  rw [if_pos (by simp; omega),zL hi]
  simp only [qA]
  rw [zM (by omega)]
  cases seq l[i] n<;>rfl) (by
  unfold zCe
  rw [if_neg (by simp)])
 unfold xG zCA
 rw [key,zDx,←zH2 (fun x=>seq x n) l 0]
 cases xU (fun _ x=>if seq x n then some true else none) 0 l<;>rfl
theorem zKV (l:List ByteArray) (n:ByteArray) (h:l.length≤1048576):wQ l n=some (l.any fun x=>seq x n):=by
 have key:=xZ l (fun i x=>if seq x n then some (i:Int) else none) (b:=vR l n) (by
  intro i hi
  unfold vR
  rw [if_pos (by simp; omega),zL hi]
  simp only [qA]
  rw [zM (by omega),zPu n]
  cases seq l[i] n<;>rfl) (by
  unfold vR
  rw [if_neg (by simp)])
 unfold wQ uJ vZ
 rw [key,zDx]
 rw [←zG7 (zEl (fun x=>seq x n) l 0)]
 cases xU (fun j x=>if seq x n then some (j:Int) else none) 0 l<;>rfl
def zMt (p:Pack) (i:Nat) (n:ByteArray):Option Int:=if NF n !=0 then some (NF n) else if seq n p.Name||(p.Provides.take i).any (fun x=>seq x n) then some 6 else none
def zM0 (_:Nat) (l:List Term):Option Int:=if (l.length:Int)==0 then some 1 else if tsF l !=0 then some (tsF l) else none
def zNM (p:Pack):Bool:=decide ((p.Provides.length:Int)>4)||(decide ((p.Needs.length:Int)>4)||(decide ((p.Bars.length:Int)>4)||p.Needs.any (fun l=>decide ((l.length:Int)>4))))
def zLQ (p:Pack):Int:=match xU (zMt p) 0 p.Provides with
 |some r=>r
 |none=>match xU zM0 0 p.Needs with
  |some r=>r
  |none=>tsF p.Bars
def PF (p:Pack):Int:=if NF p.Name !=0 then NF p.Name else if VF p.Version !=0 then VF p.Version else if !(inB p.Size 1 200) then 3 else if zNM p then 2 else zLQ p
theorem zIC (p:Pack) (hp:Pack.sm 1048576 p):((kI p 0).bind (Fl.go some fun v60=>(kK p 0).bind (Fl.go some fun v80=>(uP p.Bars).bind fun x81=>some x81)))=some (zLQ p):=by
 obtain ⟨_,_,_,hpr,hne,hba⟩:=hp
 have k2:=xZ p.Provides (zMt p) (b:=zA5 p) (by
  intro i hi
  unfold zA5 zMt
  rw [if_pos (by simp; omega),zL hi]
  simp only [qA,zEL]
  rw [zH1 (by omega)]
  simp only [qA]
  rw [zDw _ _ (by simp; omega),zM (by omega)]
  simp only [qA]
  cases NF p.Provides[i] !=0<;>cases seq p.Provides[i] p.Name<;>cases (p.Provides.take i).any (fun x=>seq x p.Provides[i])<;>rfl) (by
  unfold zA5
  rw [if_neg (by simp)])
 have k3:=xZ p.Needs zM0 (b:=zAB p) (by
  intro i hi
  unfold zAB zM0
  rw [if_pos (by simp; omega),zL hi]
  simp only [qA]
  rw [zGs _ (hne.2 _ (qE hi)).1,zM (by omega)]
  simp only [qA]
  cases (p.Needs[i].length :Int)==0<;>cases tsF p.Needs[i] !=0<;>rfl) (by
  unfold zAB
  rw [if_neg (by simp)])
 unfold kI kK zLQ
 rw [k2,k3,zGs _ hba.1]
 cases xU (zMt p) 0 p.Provides<;>cases xU zM0 0 p.Needs<;>rfl
theorem zIu (p:Pack) (hp:Pack.sm 1048576 p):((kH p 0).bind (Fl.go some fun v46=>(jZ p 0).bind (Fl.go some fun v62=>(wG p.Bars).bind fun x63=>some x63)))=some (zLQ p):=by
 obtain ⟨_,_,_,hpr,hne,hba⟩:=hp
 have k2:=xZ p.Provides (zMt p) (b:=zA1 p) (by
  intro i hi
  unfold zA1 zMt
  rw [if_pos (by simp; omega),zL hi]
  simp only [qA,zEK]
  rw [zH1 (by omega)]
  simp only [qA]
  rw [zKV _ _ (by simp; omega),zM (by omega)]
  simp only [qA]
  cases NF p.Provides[i] !=0<;>cases seq p.Provides[i] p.Name<;>cases (p.Provides.take i).any (fun x=>seq x p.Provides[i])<;>rfl) (by
  unfold zA1
  rw [if_neg (by simp)])
 have k3:=xZ p.Needs zM0 (b:=zAn p) (by
  intro i hi
  unfold zAn zM0
  rw [if_pos (by simp; omega),zL hi]
  simp only [qA]
  rw [zFp _ (hne.2 _ (qE hi)).1,zM (by omega)]
  simp only [qA]
  cases (p.Needs[i].length :Int)==0<;>cases tsF p.Needs[i] !=0<;>rfl) (by
  unfold zAn
  rw [if_neg (by simp)])
 unfold kH jZ zLQ
 rw [k2,k3,zFp _ hba.1]
 cases xU (zMt p) 0 p.Provides<;>cases xU zM0 0 p.Needs<;>rfl
theorem zF8 {α R:Type} (p:α→Bool) (r:R):∀(xs:List α) (i:Nat),xU (fun _ x=>if p x then some r else none) i xs=if xs.any p then some r else none
 |[],i=>rfl
 |x::xs,i=>by
  simp only [xU]
  cases h:p x
  ·simp only [qD,if_false,List.any_cons,h,Bool.false_or]
   exact zF8 p r xs (i+1)
  ·simp [h]
theorem zJW (p:Pack) (hp:Pack.sm 1048576 p):zAK p=some (PF p):=by
 have hl:=zIC p hp
 obtain ⟨_,_,_,hpr,hne,hba⟩:=hp
 have k1:=xZ p.Needs (fun _ l=>if decide ((l.length:Int)>4) then some (2:Int) else none) (b:=zA8 p) (by
  intro i hi
  unfold zA8
  rw [if_pos (by simp; omega),zL hi]
  simp only [qA]
  rw [zM (by omega)]
  cases decide ((p.Needs[i].length :Int)>4)<;>rfl) (by
  unfold zA8
  rw [if_neg (by simp)])
 rw [zF8] at k1
 unfold zAK PF zNM
 simp only [zEL,zEA,zH9,qA]
 rw [hl]
 unfold zBi
 rw [k1]
 cases NF p.Name !=0<;>cases VF p.Version !=0<;>cases inB p.Size 1 200<;>cases decide ((p.Provides.length:Int)>4)<;>cases decide ((p.Needs.length:Int)>4)<;>cases decide ((p.Bars.length:Int)>4)<;>cases p.Needs.any (fun l=>decide ((l.length:Int)>4))<;>rfl
theorem zPA (l:List Int) (h:l.length≤10):loop (zAr l) 0=some (frs (xU (fun _ c=>if c !=0 then some c else none) 0 l)):=by
 refine xZ l _ (fun i hi=>?_) ?_
 ·unfold zAr
  rw [if_pos (by simp; omega),zL hi]
  simp only [qA]
  rw [zM (by omega)]
  cases l[i] !=0<;>rfl
 ·unfold zAr
  rw [if_neg (by simp)]
theorem zJS (p:Pack) (hp:Pack.sm 1048576 p):zAD p=some (PF p):=by
 have hl:=zIu p hp
 obtain ⟨_,_,_,hpr,hne,hba⟩:=hp
 have k1:=xZ p.Needs (fun i l=>if decide ((l.length:Int)>4) then some (i:Int) else none) (b:=yE p.Needs) (by
  intro i hi
  unfold yE zAd
  rw [if_pos (by simp; omega),zL hi]
  simp only [qA]
  rw [zM (by omega)]
  cases decide ((p.Needs[i].length :Int)>4)<;>rfl) (by
  unfold yE
  rw [if_neg (by simp)])
 have k2:zR p.Needs=some (p.Needs.any (fun l=>decide ((l.length:Int)>4))):=by
  unfold zR yB yF
  rw [k1,zDx,←zG7 (zEl (fun l:List Term=>decide ((l.length:Int)>4)) p.Needs 0)]
  cases xU (fun j (x:List Term)=>if decide ((x.length:Int)>4) then some (j:Int) else none) 0 p.Needs<;>rfl
 have k3:zAQ [NF p.Name,VF p.Version]=some (if NF p.Name !=0 then NF p.Name else VF p.Version):=by
  have k:=zPA [NF p.Name,VF p.Version] (by simp)
  unfold zAQ zBf
  rw [k,zDx]
  simp only [xU]
  cases hn:NF p.Name !=0
  ·cases hv:VF p.Version !=0
   ·have:VF p.Version=0:=by simpa using hv
    simp [this]
   ·rfl
  ·rfl
 unfold zAD PF zNM
 simp only [zEK,zFD,zIB,qA]
 rw [hl,k2,k3]
 simp only [qA]
 cases hn:NF p.Name !=0
 ·simp only [qD,if_false]
  cases VF p.Version !=0<;>cases inB p.Size 1 200<;>cases decide ((p.Provides.length:Int)>4)<;>cases decide ((p.Needs.length:Int)>4)<;>cases decide ((p.Bars.length:Int)>4)<;>cases p.Needs.any (fun l=>decide ((l.length:Int)>4))<;>rfl
 ·simp only [if_true,hn]
def isB (n:ByteArray) (v:Version) (q:Pack):Bool:=seq q.Name n&&eqV q.Version v
def zGR (c:List Pack) (n:ByteArray) (v:Version):Int:=(xU (fun i q=>if isB n v q then some (i:Int) else none) 0 c).getD (-1)
theorem zL5 (c:List Pack) (n:ByteArray) (v:Version):decide (zGR c n v≥0)=c.any (isB n v):=zG7 (zEl (isB n v) c 0)
theorem zHC (c:List Pack) (n:ByteArray) (v:Version) (h:c.length≤1048576):uV c n v=some (zGR c n v):=by
 have key:=xZ c (fun i q=>if isB n v q then some (i:Int) else none) (b:=zCU c n v) (by
  intro i hi
  unfold zCU isB
  rw [if_pos (by simp; omega),zL hi]
  simp only [qA,jH,zLD]
  rw [zM (by omega)]
  cases seq c[i].Name n<;>cases eqV c[i].Version v<;>rfl) (by
  unfold zCU
  rw [if_neg (by simp)])
 unfold zGR
 unfold uV zDC
 rw [key,zDx]
 cases xU (fun i q=>if isB n v q then some (i:Int) else none) 0 c<;>rfl
theorem zKo (c:List Pack) (n:ByteArray) (v:Version) (h:c.length≤1048576):zDE c n v=some (zGR c n v):=by
 have key:=xZ c (fun i q=>if isB n v q then some (i:Int) else none) (b:=yV c n v) (by
  intro i hi
  unfold yV isB zE8
  rw [if_pos (by simp; omega),zL hi]
  simp only [qA]
  rw [zM (by omega)]
  show (Option.bind (if seq c[i].Name n=true then some (eqV c[i].Version v) else some false) _)=_
  cases seq c[i].Name n<;>cases eqV c[i].Version v<;>rfl) (by
  unfold yV
  rw [if_neg (by simp)])
 unfold zGR
 unfold zDE yN yY
 rw [key,zDx]
 cases xU (fun i q=>if isB n v q then some (i:Int) else none) 0 c<;>rfl
theorem find_spec (c:List Pack) (n:ByteArray) (v:Version) (h:c.length≤1048576):∃k,uV c n v=some k∧decide (k≥0)=c.any (isB n v):=⟨_,zHC c n v h,zL5 c n v⟩
theorem zOP (c:List Pack) (n:ByteArray) (v:Version) (h:c.length≤1048576):∃k,zDE c n v=some k∧decide (k≥0)=c.any (isB n v):=⟨_,zKo c n v h,zL5 c n v⟩
theorem zHM {p:Pack→Bool}:∀(c:List Pack) (i:Nat),(xU (fun i q=>if p q then some (i:Int) else none) i c).getD (-1)= -1∨((i:Int)≤(xU (fun i q=>if p q then some (i:Int) else none) i c).getD (-1)∧(xU (fun i q=>if p q then some (i:Int) else none) i c).getD (-1)< (i:Int)+c.length)
 |[],i=>.inl rfl
 |q::c,i=>by
  simp only [xU]
  cases h:p q
  ·have:=zHM (p:=p) c (i+1)
   simp only [qD,if_false,List.length_cons]
   rcases this with h|h
   ·exact .inl h
   ·exact .inr (by omega)
  ·simp only [if_true,Option.getD_some,List.length_cons]
   exact .inr (by omega)
theorem zMn (c:List Pack) (n:ByteArray) (v:Version):zGR c n v= -1∨(0≤zGR c n v∧zGR c n v<c.length):=by
 have:=zHM (p:=isB n v) c 0
 unfold zGR
 rcases this with h|h
 ·exact .inl h
 ·exact .inr (by simpa using h)
def zPr (c:List Pack) (i:Nat) (p:Pack):Option Int:=if PF p !=0 then some (PF p) else if (c.take i).any (isB p.Name p.Version) then some 6 else none
def CF (c:List Pack):Int:=if decide ((c.length:Int)>24) then 2 else (xU (zPr c) 0 c).getD 0
theorem uQ (c:List Pack) (hc:c.length≤1048576∧∀y0∈c,Pack.sm 1048576 y0):zY c=some (CF c):=by
 have key:=xZ c (zPr c) (b:=tL c) (by
  intro i hi
  unfold tL zPr
  rw [if_pos (by simp; omega),zL hi]
  simp only [qA]
  rw [zJW _ (hc.2 _ (qE hi)),zH1 (by omega)]
  simp only [qA]
  obtain ⟨k,e,hk⟩:=find_spec (c.take i) c[i].Name c[i].Version (by simp; omega)
  rw [e,zM (by omega)]
  simp only [qA]
  rw [hk]
  cases PF c[i] !=0<;>cases (c.take i).any (isB c[i].Name c[i].Version)<;>rfl) (by
  unfold tL
  rw [if_neg (by simp)])
 unfold zY CF jK
 rw [key,zDx]
 cases decide ((c.length:Int)>24)<;>cases xU (zPr c) 0 c<;>rfl
theorem zDv (c:List Pack) (hc:c.length≤1048576∧∀y0∈c,Pack.sm 1048576 y0):xL c=some (CF c):=by
 have key:=xZ c (zPr c) (b:=tX c) (by
  intro i hi
  unfold tX zPr
  rw [if_pos (by simp; omega),zL hi]
  simp only [qA]
  rw [zJS _ (hc.2 _ (qE hi)),zH1 (by omega)]
  simp only [qA]
  obtain ⟨k,e,hk⟩:=zOP (c.take i) c[i].Name c[i].Version (by simp; omega)
  rw [e,zM (by omega)]
  simp only [qA]
  rw [hk]
  cases PF c[i] !=0<;>cases (c.take i).any (isB c[i].Name c[i].Version)<;>rfl) (by
  unfold tX
  rw [if_neg (by simp)])
 unfold xL CF jL
 rw [key,zDx]
 cases decide ((c.length:Int)>24)<;>cases xU (zPr c) 0 c<;>rfl
def noPack:Pack:= {Name:=ByteArray.empty,Version:= {A:=0,B:=0,C:=0},Size:=0,Provides:=[],Needs:=[],Bars:=[]}
def pat (c:List Pack) (k:Int):Pack:=(idx c k).getD noPack
def Places (c:List Pack) (a:List Int):Prop:=∀k∈a,0≤k∧k<c.length
theorem vU {c:List Pack} {k:Int} (h:0≤k∧k<c.length):idx c k=some (pat c k)∧pat c k∈c:=by
 unfold pat idx
 rw [if_pos h.1]
 have:k.toNat<c.length:=by omega
 rw [List.getElem?_eq_getElem this]
 exact ⟨rfl,qE this⟩
def Cat (c:List Pack):Prop:=c.length≤1048576∧∀y0∈c,Pack.sm 1048576 y0
theorem Cat.zRh {c:List Pack} (hc:Cat c) {k:Int} (h:0≤k∧k<c.length):(pat c k).Provides.length ≤1048576:=(hc.2 _ (vU h).2).2.2.2.1.1
theorem Cat.needs {c:List Pack} (hc:Cat c) {k:Int} (h:0≤k∧k<c.length):(pat c k).Needs.length ≤1048576:=(hc.2 _ (vU h).2).2.2.2.2.1.1
theorem Cat.clause {c:List Pack} (hc:Cat c) {k:Int} (h:0≤k∧k<c.length) {l:List Term} (hl:l∈(pat c k).Needs):l.length≤1048576:=((hc.2 _ (vU h).2).2.2.2.2.1.2 l hl).1
theorem Cat.bars {c:List Pack} (hc:Cat c) {k:Int} (h:0≤k∧k<c.length):(pat c k).Bars.length ≤1048576:=(hc.2 _ (vU h).2).2.2.2.2.2.1
def zOf (c:List Pack) (a:List Int) (i:Nat) (k:Int):Option Bool:=if !(inB k 0 ((c.length:Int)-1))||(decide (0<i)&&decide (k≤a.getD (i-1) 0)) then some false else none
def zG6 (c:List Pack) (a:List Int):Bool:=(xU (zOf c a) 0 a).isNone
theorem getD_lt {a:List Int} {i:Nat} (h:i<a.length):a.getD i 0=a[i]:=by simp [List.getD,h]
theorem zHG {c:List Pack} {a:List Int} (hc:c.length≤1048576) (ha:a.length≤1048576):jD c a=some (zG6 c a):=by
 have key:=xZ a (zOf c a) (b:=zDz c a) (by
  intro i hi
  unfold zDz zOf
  rw [if_pos (by simp; omega),zL hi,wC (x:=(c.length:Int)-1) (by omega) (by omega)]
  simp only [qA,zH9]
  by_cases h0:0<i
  ·rw [wC (x:=(i:Int)-1) (by omega) (by omega),show (i:Int)-1=((i-1:Nat):Int) by omega,zL (show i-1<a.length by omega),getD_lt (show i-1<a.length by omega)]
   have e:decide ((i:Int)>0)=true:=by simp; omega
   have e2:decide (0<i)=true:=by simpa using h0
   rw [e,e2,zM (by omega)]
   simp only [qA,Bool.true_and]
   cases inB a[i] 0 ((c.length:Int)-1)<;>cases decide (a[i]≤a[i-1])<;>rfl
  ·have e:decide ((i:Int)>0)=false:=by simp; omega
   have e2:decide (0<i)=false:=by simpa using h0
   rw [e,e2,zM (by omega)]
   cases inB a[i] 0 ((c.length:Int)-1)<;>rfl) (by
  unfold zDz
  rw [if_neg (by simp)])
 unfold jD zEu zG6
 rw [key,zDx]
 have hf:∀(l:List Int) (i:Nat),xU (zOf c a) i l=none∨xU (zOf c a) i l=some false:=by
  intro l
  induction l with
  |nil=>intro i; exact .inl rfl
  |cons x l ih=>
   intro i
   simp only [xU]
   cases hg:zOf c a i x with
   |none=>exact ih (i+1)
   |some r=>
    unfold zOf at hg
    split at hg
    ·cases hg; exact .inr rfl
    ·cases hg
 rcases hf a 0 with h|h<;>rw [h]<;>rfl
def SF (c:List Pack) (a:List Int):Int:=if CF c !=0 then CF c else if zG6 c a then 0 else 1
theorem zJE {c:List Pack} {a:List Int} (hc:c.length≤1048576) (ha:a.length≤1048576):zAM c a=some (a.all (fun k=>inB k 0 ((c.length:Int)-1))):=by
 have key:=xZ a (fun i k=>if !(inB k 0 ((c.length:Int)-1)) then some (i:Int) else none) (b:=yM a c) (by
  intro i hi
  unfold yM zAe
  rw [if_pos (by simp; omega),zL hi,wC (x:=(c.length:Int)-1) (by omega) (by omega)]
  simp only [qA,zIB]
  rw [zM (by omega)]
  cases inB a[i] 0 ((c.length:Int)-1)<;>rfl) (by
  unfold yM
  rw [if_neg (by simp)])
 unfold zAM yC yH yR
 rw [key,zDx]
 have e:a.all (fun k=>inB k 0 ((c.length:Int)-1))= !(a.any (fun k=> !(inB k 0 ((c.length:Int)-1)))):=by
  rw [List.all_eq_not_any_not]
 rw [e,←zG7 (zEl (fun k=> !(inB k 0 ((c.length:Int)-1))) a 0)]
 cases xU (fun i k=>if !(inB k 0 ((c.length:Int)-1)) then some (i:Int) else none) 0 a<;>rfl
def zPs (a:List Int) (i:Nat) (k:Int):Option Int:=if decide (k≤a.getD (i-1) 0) then some 1 else none
theorem zPK (c:List Pack) (a:List Int):zG6 c a=((xU (zPs a) 1 (a.drop 1)).isNone &&a.all (fun k=>inB k 0 ((c.length:Int)-1))):=by
 unfold zG6
 rw [Bool.eq_iff_iff,Bool.and_eq_true,Option.isNone_iff_eq_none,Option.isNone_iff_eq_none,zF7,zF7,List.all_eq_true]
 constructor
 ·intro h
  constructor
  ·intro j hj
   have hj':1+j<a.length:=by simp at hj; omega
   have:=h (1+j) hj'
   unfold zOf at this
   unfold zPs
   rw [List.getElem_drop]
   split at this
   ·cases this
   ·rename_i hn
    rw [if_neg]
    intro hx
    apply hn
    rw [Nat.zero_add]
    rw [Bool.or_eq_true,Bool.and_eq_true]
    exact .inr ⟨by rw [qM]; omega,hx⟩
  ·intro k hk
   obtain ⟨i,hi,rfl⟩:=List.mem_iff_getElem.1 hk
   have:=h i hi
   unfold zOf at this
   split at this
   ·cases this
   ·rename_i hn
    simp only [Bool.or_eq_true,not_or] at hn
    simpa using hn.1
 ·rintro ⟨h1,h2⟩ j hj
  unfold zOf
  rw [if_neg]
  rw [Nat.zero_add,h2 _ (qE hj)]
  simp only [Bool.not_true,Bool.false_or,Bool.and_eq_true,not_and]
  intro h0 hx
  have h0':0<j:=by simpa using h0
  have hd:j-1< (a.drop 1).length :=by simp; omega
  have:=h1 (j-1) hd
  unfold zPs at this
  rw [List.getElem_drop] at this
  have ej:1+(j-1)=j:=by omega
  simp only [ej] at this
  rw [if_pos hx] at this
  cases this
theorem zK4 {c:List Pack} {a:List Int} (hc:Cat c) (ha:a.length≤1048576):zBD c a=some (SF c a):=by
 have hend:vQ c a (a.length:Int)=some (.done (.nxt ())):=by
  unfold vQ
  rw [if_neg (by simp)]
 have key:zAk c a 1=some (frs (xU (zPs a) 1 (a.drop 1))):=by
  unfold zAk
  rcases Nat.eq_zero_or_pos a.length with h0|h0
  ·have:a=[]:=List.eq_nil_of_length_eq_zero h0
   subst this
   rw [wO]
   unfold vQ
   rw [if_neg (by simp)]
   rfl
  ·have hh:∀(k i:Nat),1≤i→i+k=a.length→loop (vQ c a) (i:Int)=some (frs (xU (zPs a) i (a.drop i))):=by
    intro k
    induction k with
    |zero=>
     intro i h1 h
     have e:i=a.length:=by omega
     subst e
     rw [wO,hend,List.drop_length]
     rfl
    |succ k ih=>
     intro i h1 h
     have hi:i<a.length:=by omega
     have ih:=ih (i+1) (by omega) (by omega)
     rw [wO,List.drop_eq_getElem_cons hi]
     simp only [xU]
     have hb:vQ c a (i:Int)=some (if decide (a[i]≤a[i-1]) then .done (.ret 1) else .go ((i+1:Nat):Int)):=by
      unfold vQ
      rw [if_pos (by simp; omega),zL hi,wC (x:=(i:Int)-1) (by omega) (by omega),show (i:Int)-1=((i-1:Nat):Int) by omega,zL (show i-1<a.length by omega),zM (by omega)]
      simp only [qA]
      cases decide (a[i]≤a[i-1])<;>rfl
     rw [hb]
     unfold zPs
     rw [getD_lt (show i-1<a.length by omega)]
     cases decide (a[i]≤a[i-1])
     ·exact ih
     ·rfl
   exact hh (a.length-1) 1 (by omega) (by omega)
 unfold zBD SF
 rw [zDv c hc,key,zDx,zJE hc.1 ha,zPK]
 simp only [qA]
 have hf:∀(l:List Int) (i:Nat),xU (zPs a) i l=none∨xU (zPs a) i l=some 1:=by
  intro l
  induction l with
  |nil=>intro i; exact .inl rfl
  |cons x l ih=>
   intro i
   simp only [xU]
   cases hg:zPs a i x with
   |none=>exact ih (i+1)
   |some r=>
    unfold zPs at hg
    split at hg
    ·cases hg; exact .inr rfl
    ·cases hg
 rcases hf (a.drop 1) 1 with h|h<;>rw [h]<;>cases CF c !=0<;>cases a.all (fun k=>inB k 0 ((c.length:Int)-1))<;>rfl
def zSw (t:Term) (v:Version):Bool:=decide (zLP v t.Low≥0)&&decide (zLP v t.High<0)
def zS8 (t:Term) (n:ByteArray) (v:Version):Bool:=seq t.Name n&&zSw t v
theorem zMq (t:Term) (n:ByteArray) (v:Version):jQ t n v=some (zS8 t n v):=by
 unfold jQ zS8 zSw
 simp only [jH,qA]
 cases seq t.Name n<;>cases decide (zLP v t.Low≥0)<;>rfl
def zGF (p:Pack) (t:Term):Bool:=(seq t.Name p.Name||p.Provides.any (fun x=>seq x t.Name))&&zSw t p.Version
theorem zHB (p:Pack) (t:Term) (h:p.Provides.length≤1048576):tJ p t=some (zGF p t):=by
 unfold tJ zGF
 simp only [zMq,qA,zDw _ _ h,zS8,zDM,Bool.true_and]
 cases seq t.Name p.Name<;>cases p.Provides.any (fun x=>seq x t.Name)<;>rfl
def zGv (c:List Pack) (a:List Int) (t:Term) (x:Int):Bool:=a.any (fun k=>k !=x&&zGF (pat c k) t)
theorem zKi {c:List Pack} {a:List Int} (hc:Cat c) (hp:Places c a) (ha:a.length≤1048576) (t:Term) (x:Int):zAC c a t x=some (zGv c a t x):=by
 have key:=xZ a (fun _ k=>if k !=x&&zGF (pat c k) t then some true else none) (b:=zCb c a t x) (by
  intro i hi
  have hk:=hp _ (qE hi)
  unfold zCb
  rw [if_pos (by simp; omega),zL hi]
  simp only [qA]
  rw [(vU hk).1]
  simp only [qA]
  rw [zHB _ _ (hc.zRh hk),zM (by omega)]
  cases a[i] !=x<;>cases zGF (pat c a[i]) t<;>rfl) (by
  unfold zCb
  rw [if_neg (by simp)])
 unfold zAC zCD zGv
 rw [key,zDx,←zH2 (fun k=>k !=x&&zGF (pat c k) t) a 0]
 cases xU (fun _ k=>if k !=x&&zGF (pat c k) t then some true else none) 0 a<;>rfl
def zQv (c:List Pack) (a:List Int) (l:List Term):Bool:=a.any (fun k=>l.any (zGF (pat c k)))
theorem zKA {c:List Pack} {a:List Int} (hc:Cat c) (hp:Places c a) (ha:a.length≤1048576) (l:List Term) (hl:l.length≤1048576):zBt c a l=some (zQv c a l):=by
 have key:=xZ l (fun _ t=>if zGv c a t (-1) then some true else none) (b:=zD1 c a l) (by
  intro i hi
  unfold zD1
  rw [if_pos (by simp; omega),zL hi]
  simp only [qA,zKi hc hp ha]
  rw [zM (by omega)]
  cases zGv c a l[i] (-1)<;>rfl) (by
  unfold zD1
  rw [if_neg (by simp)])
 unfold zBt zE6
 rw [key,zDx]
 have e:zQv c a l=l.any (fun t=>zGv c a t (-1)):=by
  unfold zQv zGv
  rw [Bool.eq_iff_iff]
  simp only [List.any_eq_true,Bool.and_eq_true,bne_iff_ne]
  constructor
  ·rintro ⟨k,hk,t,ht,hg⟩
   exact ⟨t,ht,k,hk,by have:=(hp k hk).1; omega,hg⟩
  ·rintro ⟨t,ht,k,hk,_,hg⟩
   exact ⟨k,hk,t,ht,hg⟩
 rw [e,←zH2 (fun t=>zGv c a t (-1)) l 0]
 cases xU (fun _ t=>if zGv c a t (-1) then some true else none) 0 l<;>rfl
theorem zKk {α T:Type} (xs:List α) (g:Nat→α→Option T) (e:T) {b:Int→Option (Lp Int T)}
  (hstep:∀(i:Nat) (hi:i<xs.length),b (i:Int)=some (match g i xs[i] with|some r=>.done r|none=>.go ((i+1:Nat):Int))) (hend:b (xs.length:Int)=some (.done e)):
  ∀(k i:Nat),i+k=xs.length→loop b (i:Int)=some ((xU g i (xs.drop i)).getD e)
 |0,i,h=>by
  have e:i=xs.length:=by omega
  subst e
  rw [wO,hend,List.drop_length]
  rfl
 |k+1,i,h=>by
  have hi:i<xs.length:=by omega
  have ih:=zKk xs g e hstep hend k (i+1) (by omega)
  rw [wO,hstep i hi,List.drop_eq_getElem_cons hi]
  simp only [xU]
  cases g i xs[i] with
  |some r=>rfl
  |none=>exact ih
def fN (c:List Pack) (a:List Int) (k:Int) (j:Nat) (l:List yU) (x:List Term):List yU:=if !(zQv c a x) then l++[{Kind:=2,Pack:=k,At:=(j:Int)}] else l
def fB (c:List Pack) (a:List Int) (k:Int) (j:Nat) (l:List yU) (t:Term):List yU:=if zGv c a t k then l++[{Kind:=3,Pack:=k,At:=(j:Int)}] else l
def fD (c:List Pack) (a:List Int) (i:Nat) (k:Int) (l:List yU):List yU:=if (a.take i).any (fun o=>seq (pat c o).Name (pat c k).Name) then l++[{Kind:=1,Pack:=k,At:=0}] else l
def fS (c:List Pack) (a:List Int) (i:Nat) (l:List yU) (k:Int):List yU:=foldI (fB c a k) 0 (pat c k).Bars (foldI (fN c a k) 0 (pat c k).Needs (fD c a i k l))
def zGe (c:List Pack) (a:List Int):List yU:=foldI (fS c a) 0 a []
theorem zSf (c:List Pack) (a:List Int) (k:Int) (j:Nat) (l:List yU) (x:List Term):(fN c a k j l x).length ≤l.length+1:=by unfold fN; split<;>simp
theorem zRv (c:List Pack) (a:List Int) (k:Int) (j:Nat) (l:List yU) (t:Term):(fB c a k j l t).length ≤l.length+1:=by unfold fB; split<;>simp
theorem zR0 (c:List Pack) (a:List Int) (i:Nat) (k:Int) (l:List yU):(fD c a i k l).length ≤l.length+1:=by unfold fD; split<;>simp
theorem zOc {c:List Pack} {a:List Int} (k:Int) (ns:List (List Term)) (hn:ns.length≤1048576) (n0:Nat) (h0:n0≤5497560000000) {b:(List yU×Int)→Option (Lp (List yU×Int) (List yU))}
  (hstep:∀(j:Nat) (l:List yU) (hj:j<ns.length),b (l,(j:Int))=(if !(zQv c a ns[j]) then (app 24 l [{Kind:=2,Pack:=k,At:=(j:Int)}]) else some l).bind fun v=>some (Lp.go (v,w64 ((j:Int)+1)))) (hend:∀l,b (l,(ns.length:Int))=some (.done l)) (l:List yU) (hl:l.length≤n0):
  loop b (l,0)=some (foldI (fN c a k) 0 ns l)∧(foldI (fN c a k) 0 ns l).length ≤n0+ns.length:=by
 have key:=zEB ns (fN c a k) (fun j l=>l.length≤n0+j) (b:=b) (by
  intro j l hj hI
  refine ⟨?_,by have:=zSf c a k j l ns[j]; omega⟩
  rw [hstep j l hj,zM (by omega),wY (by simp; omega) (by simp; omega)]
  unfold fN
  cases zQv c a ns[j]<;>rfl) hend ns.length 0 l (by omega) (by simpa using hl)
 simpa using key
theorem zPh {c:List Pack} {a:List Int} (k:Int) (ts:List Term) (hn:ts.length≤1048576) (n0:Nat) (h0:n0≤5497560000000) {b:(List yU×Int)→Option (Lp (List yU×Int) (List yU))}
  (hstep:∀(j:Nat) (l:List yU) (hj:j<ts.length),b (l,(j:Int))=(if zGv c a ts[j] k then (app 24 l [{Kind:=3,Pack:=k,At:=(j:Int)}]) else some l).bind fun v=>some (Lp.go (v,w64 ((j:Int)+1)))) (hend:∀l,b (l,(ts.length:Int))=some (.done l)) (l:List yU) (hl:l.length≤n0):
  loop b (l,0)=some (foldI (fB c a k) 0 ts l)∧(foldI (fB c a k) 0 ts l).length ≤n0+ts.length:=by
 have key:=zEB ts (fB c a k) (fun j l=>l.length≤n0+j) (b:=b) (by
  intro j l hj hI
  refine ⟨?_,by have:=zRv c a k j l ts[j]; omega⟩
  rw [hstep j l hj,zM (by omega),wY (by simp; omega) (by simp; omega)]
  unfold fB
  cases zGv c a ts[j] k<;>rfl) hend ts.length 0 l (by omega) (by simpa using hl)
 simpa using key
theorem zOZ {α:Type} (o:Option α):o.bind (fun x=>some x)=o:=by cases o<;>rfl
def zHW (i:Nat):Nat:=i*2097153
theorem zIE {c:List Pack} {a:List Int} (hc:Cat c) (hp:Places c a) (ha:a.length≤1048576):uI c a=some (zGe c a):=by
 have key:=zEB a (fS c a) (fun i l=>l.length≤zHW i) (b:=zB1 c a) (by
  intro i l hi hI
  have hk:=hp _ (qE hi)
  have hb:zHW i≤2199022206976:=by unfold zHW; omega
  have hb1:zHW (i+1)=zHW i+2097153:=by unfold zHW; omega
  have hN:=hc.needs hk
  have hB:=hc.bars hk
  have k1:=zKk (a.take i) (fun _ o=>if seq (pat c o).Name (pat c a[i]).Name then some (l++[({Kind:=1,Pack:=a[i],At:=0}:yU)]) else none) l (b:=zBl c a (l,(i:Int)) (pat c a[i])) (by
   intro j hj
   have hj':j<i:=by simp at hj; omega
   have hja:j<a.length:=by omega
   have hkj:=hp _ (qE hja)
   unfold zBl
   rw [if_pos (by simp; omega),zL hja]
   simp only [qA]
   rw [(vU hkj).1,zL hi]
   simp only [qA]
   rw [zM (by omega),wY (by simp; omega) (by simp; omega),List.getElem_take]
   cases seq (pat c a[j]).Name (pat c a[i]).Name <;>rfl) (by
   have:(a.take i).length =i:=by simp; omega
   rw [this]
   unfold zBl
   rw [if_neg (by simp)]) (a.take i).length 0 (by omega)
  rw [List.drop_zero,zF8] at k1
  have e1:zAh c a (l,(i:Int)) (pat c a[i]) 0=some (fD c a i a[i] l):=by
   unfold zAh fD
   rw [show ((0:Nat):Int)=0 from rfl] at k1
   rw [k1]
   cases (a.take i).any (fun o=>seq (pat c o).Name (pat c a[i]).Name)<;>rfl
  have hd:=zR0 c a i a[i] l
  obtain ⟨e2,l2⟩:=zOc (c:=c) (a:=a) a[i] (pat c a[i]).Needs hN (zHW i+1) (by omega) (b:=zBm c a (l,(i:Int)) (pat c a[i])) (by
   intro j l hj
   unfold zBm
   rw [if_pos (by simp; omega),zL hj]
   simp only [qA]
   rw [zKA hc hp ha _ (hc.clause hk (qE hj)),zL hi]
   simp only [qA,zOZ]) (by
   intro l
   unfold zBm
   rw [if_neg (by simp)]) (fD c a i a[i] l) (by omega)
  obtain ⟨e3,l3⟩:=zPh (c:=c) (a:=a) a[i] (pat c a[i]).Bars hB (zHW i+1+1048576) (by omega) (b:=zBa c a (l,(i:Int)) (pat c a[i])) (by
   intro j l hj
   unfold zBa
   rw [if_pos (by simp; omega),zL hj,zL hi]
   simp only [qA,zKi hc hp ha,zOZ]) (by
   intro l
   unfold zBa
   rw [if_neg (by simp)]) _ (Nat.le_trans l2 (by omega))
  refine ⟨?_,by show (fS c a i l a[i]).length ≤_; unfold fS; omega⟩
  unfold zB1
  rw [if_pos (by simp; omega),zL hi]
  simp only [qA]
  rw [(vU hk).1]
  simp only [qA]
  rw [e1]
  simp only [qA]
  unfold zCl zBV
  rw [e2]
  simp only [qA]
  rw [e3,zM (by omega)]
  rfl) (by
  intro l
  unfold zB1
  rw [if_neg (by simp)]) a.length 0 [] (by omega) (by simp)
 unfold uI zBS zGe
 have k:=key.1
 rw [show ((0:Nat):Int)=0 from rfl,List.drop_zero] at k
 rw [k]
 rfl
theorem zOo {p:Pack} (h:PF p=0):NF p.Name=0∧VF p.Version=0∧inB p.Size 1 200=true:=by
 unfold PF at h
 split at h
 ·rename_i h1; simp [h] at h1
 rename_i h1
 split at h
 ·rename_i h2; simp [h] at h2
 rename_i h2
 split at h
 ·cases h
 rename_i h3
 exact ⟨by simpa using h1,by simpa using h2,by simpa using h3⟩
def zNn (p:Pack):ByteArray:=bs [112,107,103,47]++(p.Name++(bs [45]++zGQ p.Version))
theorem zNE {p:Pack} (h1:NF p.Name=0) (h2:VF p.Version=0):(zNn p).size ≤28:=by
 have a1:=zFU h1
 have a2:=zCS h2
 have b1:(bs [112,107,103,47]).size =4:=rfl
 have b2:(bs [45]).size =1:=rfl
 unfold zNn
 simp only [xS]
 omega
theorem zMw {p:Pack} (h1:NF p.Name=0) (h2:VF p.Version=0):zDW p=some (zNn p):=by
 have a1:=zFU h1
 have a2:=zCS h2
 have b1:(bs [112,107,103,47]).size =4:=rfl
 have b2:(bs [45]).size =1:=rfl
 unfold zDW zNn
 rw [zCv h2,vV (by omega)]
 simp only [qA]
 rw [vV (by rw [xS]; omega)]
 simp only [qA]
 rw [vV (by simp only [xS]; omega)]
 simp only [qA,zEw]
theorem zKO:∀(k n:Nat),n<10^(k+1)→zGd (10^(k+1)+n)=49::(List.replicate (k+1-(zGd n).length) 48++zGd n)
 |0,n,h=>by
  have h':n<10:=by simpa using h
  rw [zEJ (by simp),show (10^(0+1)+n) / 10=1 by simp; omega,show (10^(0+1)+n)%10=n by simp; omega,zAg (n:=1) (by omega),zAg h']
  rfl
 |k+1,n,h=>by
  have hp:1≤10^k:=Nat.one_le_pow _ _ (by omega)
  have e1:10^(k+1+1)=10*10^(k+1):=by rw [Nat.pow_succ]; omega
  rw [e1] at h
  have hq:n / 10<10^(k+1):=by omega
  have ih:=zKO k (n / 10) hq
  have hl:=zGM k (n / 10) hq
  rw [e1,zEJ (by omega),show (10*10^(k+1)+n) / 10=10^(k+1)+n / 10 by omega,show (10*10^(k+1)+n)%10=n%10 by omega,ih]
  by_cases hn:n<10
  ·rw [show n / 10=0 by omega,zAg (n:=0) (by omega),zAg hn,show n%10=n by omega]
   simp only [List.length_singleton,List.cons_append,List.append_assoc,List.nil_append]
   rw [show k+1+1-1=k+1 by omega,show k+1-1=k by omega]
   rw [show List.replicate (k+1) (48:Int)=List.replicate k 48++[48] from List.replicate_succ']
   simp
  ·rw [zEJ hn,List.length_append]
   simp only [List.length_singleton,List.cons_append,List.append_assoc]
   rw [show k+1+1-((zGd (n / 10)).length +1)=k+1-(zGd (n / 10)).length by omega]
theorem zS9 (l:List UInt8):bl ⟨l.toArray⟩=l.map (fun b=>(b.toNat:Int)):=by
 unfold bl
 rw [ByteArray.toList_eq]
def zRN (n:Int):List Int:=[103,101,110,47]++(List.replicate (6-(zGd n.toNat).length) 48++zGd n.toNat)
theorem zOA (l:List UInt8):(bs l).data.toList =l:=rfl
def zQO (n:Int):ByteArray:=bs [103,101,110,47]++(⟨(List.replicate (6-(zGd n.toNat).length) (48:UInt8)).toArray⟩++zKc n.toNat)
theorem zLV (n:Int):bl (zQO n)=zRN n:=by
 unfold zQO zRN
 rw [xE,xE,zFs,zS9,zFP,List.map_replicate]
 rfl
theorem zMQ {n:Nat} (h:n≤999999):1≤(zGd n).length ∧(zGd n).length ≤6:=by
 refine ⟨?_,zGM 5 n (by omega)⟩
 by_cases hn:n<10
 ·rw [zAg hn]; simp
 ·rw [zEJ hn,List.length_append]; simp
theorem zLv {n:Int} (h:n≤999999):(zQO n).size =10:=by
 rw [←zO,zLV]
 unfold zRN
 have:=zMQ (n:=n.toNat) (by omega)
 simp
 omega
theorem zDy {s:ByteArray} {l h:Nat} (h1:l≤h) (h2:h≤s.size):zFt s (l:Int) (h:Int)=some (s.extract l h):=by
 unfold zFt
 rw [if_pos (by omega)]
 rfl
theorem zGz (n:Int):wL n=some (if inB n 1 999999 then zQO n else bs []):=by
 unfold wL
 rw [zH9]
 simp only [qA]
 cases h:inB n 1 999999
 ·rfl
 have h':1≤n∧n≤999999:=by simpa [inB] using h
 rw [if_neg (by simp),wC (by omega) (by omega)]
 have e:=zIh (1000000+n.toNat) (by omega)
 rw [show ((1000000+n.toNat:Nat):Int)=1000000+n by omega] at e
 rw [e]
 simp only [qA]
 have hp:=zKO 5 n.toNat (by omega)
 rw [show 10^(5+1)+n.toNat=1000000+n.toNat by omega] at hp
 have hd:=zMQ (n:=n.toNat) (by omega)
 have hz:(zKc (1000000+n.toNat)).size =7:=by
  rw [←zO,zFP,hp]
  simp
  omega
 have e2:=zDy (s:=zKc (1000000+n.toNat)) (l:=1) (h:=(zKc (1000000+n.toNat)).size) (by omega) (Nat.le_refl _)
 rw [show ((1:Nat):Int)=1 from rfl] at e2
 rw [e2]
 simp only [qA]
 have hx:((zKc (1000000+n.toNat)).extract 1 (zKc (1000000+n.toNat)).size).size =6:=by
  rw [←zO,xM,zFP,hp,hz]
  simp
  omega
 rw [vV (by rw [hx]; decide)]
 simp only [qA,if_true]
 congr 1
 refine zEX.1 ?_
 rw [xE,xM,zFP,hp,zLV,zFs,hz]
 unfold zRN
 rw [List.take_of_length_le (by simp; omega)]
 rfl
theorem zOg {α:Type} {g:Nat→α→Option Int} (hg:∀i x,g i x≠some 0):∀(l:List α) (i:Nat),(xU g i l).getD 0=0→xU g i l=none
 |[],_,_=>rfl
 |x::l,i,h=>by
  simp only [xU] at h ⊢
  cases hx:g i x with
  |none=>rw [hx] at h; exact zOg hg l (i+1) h
  |some r=>
   rw [hx] at h
   simp only [Option.getD_some] at h
   subst h
   exact absurd hx (hg i x)
theorem zGS {c:List Pack} (h:CF c=0):c.length≤24∧(∀p∈c,PF p=0)∧∀(j:Nat) (hj:j<c.length),(c.take j).any (isB c[j].Name c[j].Version)=false:=by
 unfold CF at h
 split at h
 ·cases h
 rename_i h1
 have h2:=zOg (g:=zPr c) (fun i x=>by
  unfold zPr
  split
  ·rename_i h3
   intro e
   rw [Option.some.inj e] at h3
   simp at h3
  ·split<;>simp) c 0 h
 rw [zF7] at h2
 have h3:∀(j:Nat) (hj:j<c.length),PF c[j]=0∧(c.take j).any (isB c[j].Name c[j].Version)=false:=by
  intro j hj
  have:=h2 j hj
  unfold zPr at this
  rw [Nat.zero_add] at this
  split at this
  ·cases this
  ·rename_i h4
   split at this
   ·cases this
   ·rename_i h5
    exact ⟨by simpa using h4,by simpa using h5⟩
 refine ⟨by simp at h1; omega,fun p hp=>?_,fun j hj=>(h3 j hj).2⟩
 obtain ⟨j,hj,rfl⟩:=List.getElem_of_mem hp
 exact (h3 j hj).1
theorem zOj {a:List Int} (h:∀i,(hi:i+1<a.length)→a[i]<a[i+1]):a.Pairwise (· < ·):=by
 rw [List.pairwise_iff_getElem]
 intro i j hi hj hij
 obtain ⟨d,rfl⟩:∃d,j=i+1+d:=⟨j-i-1,by omega⟩
 clear hij
 induction d with
 |zero=>exact h i (by omega)
 |succ d ih=>
  have h1:=ih (by omega)
  have h2:=h (i+1+d) (by omega)
  show a[i]<a[i+1+d+1]
  omega
theorem zME:∀{a:List Int} {lo hi:Int},a.Pairwise (· < ·)→(∀k∈a,lo≤k∧k<hi)→(a.length:Int)≤hi-lo∨a=[]
 |[],_,_,_,_=>.inr rfl
 |x::a,lo,hi,hp,hb=>by
  obtain ⟨h1,h2⟩:=List.pairwise_cons.1 hp
  have hx:=hb x (by simp)
  have:=zME (lo:=x+1) (hi:=hi) h2 (fun k hk=>⟨by have:=h1 k hk; omega,(hb k (by simp [hk])).2⟩)
  refine .inl ?_
  rcases this with h3|h3
  ·simp only [List.length_cons]; omega
  ·subst h3; simp; omega
theorem zFm {c:List Pack} {a:List Int}:zG6 c a=true↔a.Pairwise (· < ·)∧Places c a:=by
 unfold zG6
 rw [Option.isNone_iff_eq_none,zF7]
 constructor
 ·intro h
  have h1:∀(j:Nat) (hj:j<a.length),inB a[j] 0 ((c.length:Int)-1)=true∧(0<j→¬a[j]≤a.getD (j-1) 0):=by
   intro j hj
   have:=h j hj
   unfold zOf at this
   rw [Nat.zero_add] at this
   split at this
   ·cases this
   ·rename_i h2
    simp only [Bool.or_eq_true,Bool.not_eq_true',Bool.and_eq_true,qM,not_or,not_and,Bool.not_eq_false] at h2
    exact h2
  refine ⟨zOj fun i hi=>?_,fun k hk=>?_⟩
  ·have:=(h1 (i+1) hi).2 (by omega)
   rw [show i+1-1=i by omega,getD_lt (by omega)] at this
   omega
  ·obtain ⟨j,hj,rfl⟩:=List.getElem_of_mem hk
   have:=(h1 j hj).1
   unfold inB at this
   simp only [Bool.and_eq_true,qM] at this
   omega
 ·rintro ⟨h1,h2⟩ j hj
  unfold zOf
  rw [Nat.zero_add]
  have hk:=h2 a[j] (qE hj)
  rw [if_neg]
  simp only [Bool.or_eq_true,Bool.not_eq_true',Bool.and_eq_true,qM,not_or,not_and,Bool.not_eq_false]
  refine ⟨by unfold inB; simp; omega,fun h0=>?_⟩
  rw [getD_lt (by omega)]
  have:=(List.pairwise_iff_getElem.1 h1) (j-1) j (by omega) hj (by omega)
  omega
theorem zG9 {c:List Pack} {a:List Int} (h:zG6 c a=true):a.length≤c.length:=by
 obtain ⟨h1,h2⟩:=zFm.1 h
 rcases zME (lo:=0) (hi:=c.length) h1 h2 with h3|h3
 ·omega
 ·rw [h3]; simp
def zHu (p:Pack):ByteArray:=p.Name++(bs [32]++(zGQ p.Version++bs [10]))
def zGZ (c:List Pack) (k:Int):ByteArray:=zHu (pat c k)
def zQ0 (c:List Pack) (a:List Int):ByteArray:=zEn (zGZ c) (bs []) a
theorem zFc {p:Pack} (h1:NF p.Name=0) (h2:VF p.Version=0):(zHu p).size ≤25:=by
 have a1:=zFU h1
 have a2:=zCS h2
 have b1:(bs [32]).size =1:=rfl
 have b2:(bs [10]).size =1:=rfl
 unfold zHu
 simp only [xS]
 omega
def Pks (c:List Pack):Prop:=∀p∈c,NF p.Name=0∧VF p.Version=0
theorem zHy {c:List Pack} (h:CF c=0):Pks c:=fun p hp=>by
 obtain ⟨h1,h2,_⟩:=zOo ((zGS h).2.1 p hp)
 exact ⟨h1,h2⟩
theorem zIN {c:List Pack} {a:List Int} (hc:Pks c) (hp:Places c a) (ha:a.length≤1048576):zBG c a=some (zQ0 c a)∧(zQ0 c a).size ≤a.length*25:=by
 have hk:∀k∈a,NF (pat c k).Name =0∧VF (pat c k).Version =0:=fun k hk=>hc _ (vU (hp k hk)).2
 have hz:(bs []).size =0:=rfl
 have key:=zFg a (zGZ c) 25 (fun k hk2=>zFc (hk k hk2).1 (hk k hk2).2) (b:=zDn c a) (bs []) (fun i x hi hx=>by
  have hm:=qE hi
  obtain ⟨e1,_⟩:=vU (hp _ hm)
  obtain ⟨h1,h2⟩:=hk _ hm
  have a1:=zFU h1
  have a2:=zCS h2
  have b1:(bs [32]).size =1:=rfl
  have b2:(bs [10]).size =1:=rfl
  unfold zDn
  rw [if_pos (by simp; omega),zL hi]
  simp only [qA,e1]
  rw [vV (by omega)]
  simp only [qA]
  rw [vV (by simp only [xS]; omega)]
  simp only [qA,zCv h2]
  rw [vV (by simp only [xS]; omega)]
  simp only [qA]
  rw [vV (by simp only [xS]; omega),zM (by omega)]
  simp only [qA,zEw]
  rfl) (fun x=>by
  unfold zDn
  rw [if_neg (by simp)])
 unfold zBG zDL
 rw [key.1]
 refine ⟨rfl,?_⟩
 have:=key.2
 unfold zQ0
 omega
theorem zJw (s:ByteArray):s.data.toList.map (fun b=>(b.toNat:Int))=bl s:=by
 unfold bl
 rw [ByteArray.toList_eq]
theorem zLa {a b:ByteArray} (h:a.size+b.size≤1000000):zEe [a,b]=some (a++(bs [32]++b)):=by
 unfold zEe strings_Join
 have e:Lib.join ([a,b].map (·.data.toList)) (bs [32]).data.toList =a.data.toList++([32]++b.data.toList):=by
  simp only [List.map_cons,List.map_nil,Lib.join_cons,Lib.joinTail,zOA]
  simp
 rw [e,if_pos ⟨by simp,by
  have h1:a.data.toList.length=a.size:=rfl
  have h2:b.data.toList.length=b.size:=rfl
  simp only [List.length_append,h1,h2]
  simp only [List.length_cons,List.length_nil]
  omega⟩]
 simp only [qA]
 congr 1
theorem zL7 {c:List Pack} {a:List Int} (hc:Pks c) (hp:Places c a) (ha:a.length≤1048576):zDi c a=some (zQ0 c a):=by
 have hk:∀k∈a,NF (pat c k).Name =0∧VF (pat c k).Version =0:=fun k hk=>hc _ (vU (hp k hk)).2
 have hz:(bs []).size =0:=rfl
 have key:=zFg a (zGZ c) 25 (fun k hk2=>zFc (hk k hk2).1 (hk k hk2).2) (b:=zCk c a) (bs []) (fun i x hi hx=>by
  have hm:=qE hi
  obtain ⟨e1,_⟩:=vU (hp _ hm)
  obtain ⟨h1,h2⟩:=hk _ hm
  have a1:=zFU h1
  have a2:=zCS h2
  have b1:(bs [32]).size =1:=rfl
  have b2:(bs [10]).size =1:=rfl
  unfold zCk
  rw [if_pos (by simp; omega),zL hi]
  simp only [qA,e1,zJA h2]
  rw [zLa (by omega)]
  simp only [qA]
  rw [vV (by simp only [xS]; omega)]
  simp only [qA]
  rw [vV (by simp only [xS]; omega),zM (by omega)]
  simp only [qA,zEw]
  rfl) (fun x=>by
  unfold zCk
  rw [if_neg (by simp)])
 unfold zDi zCB
 rw [key.1]
 rfl
def zE2 (t:Term):ByteArray:=bs [114,111,111,116,32]++(zFb t++bs [10])
def zEM (c:List Pack) (a:List Int):ByteArray:=bs [115,116,101,112,10]++zQ0 c a
def zGa (c:List Pack) (l:List Term) (ss:List (List Int)):ByteArray:=zEn (zEM c) (zEn zE2 (bs []) l) ss
theorem zFX {t:Term} (h:TF t=0):(zE2 t).size ≤43:=by
 have:=zED h
 have b1:(bs [114,111,111,116,32]).size =5:=rfl
 have b2:(bs [10]).size =1:=rfl
 unfold zE2
 simp only [xS]
 omega
section
variable {c:List Pack} {l:List Term} {ss:List (List Int)} (hc:CF c=0) (hl:l.length≤1048576) (ht:∀t∈l,TF t=0) (hs:ss.length≤1048576) (hss:∀a∈ss,zG6 c a=true)
include hc hss in
theorem zE4:∀a∈ss,(zEM c a).size ≤605∧Places c a∧a.length≤1048576:=by
 intro a ha
 have h1:=zG9 (hss a ha)
 have h2:=(zGS hc).1
 have h3:=(zFm.1 (hss a ha)).2
 have b1:(bs [115,116,101,112,10]).size =5:=rfl
 refine ⟨?_,h3,by omega⟩
 have hk:∀k∈a,(zGZ c k).size ≤25:=fun k hk=>zFc (zHy hc _ (vU (h3 k hk)).2).1 (zHy hc _ (vU (h3 k hk)).2).2
 have key:=zEF (zGZ c) 25 a hk (bs [])
 have hz:(bs []).size =0:=rfl
 unfold zEM zQ0
 rw [xS]
 omega
end
section
variable {c:List Pack} {l:List Term} {ss:List (List Int)} (hc:CF c=0) (hl:l.length≤1048576) (ht:∀t∈l,TF t=0) (hs:ss.length≤1048576) (hss:∀a∈ss,zG6 c a=true)
include hc hl ht hs hss in
theorem zMs:zB8 c l ss=some (zGa c l ss):=by
 have hz:(bs []).size =0:=rfl
 have key1:=zFg l zE2 43 (fun t hm=>zFX (ht t hm)) (b:=zCG c l ss) (bs []) (fun i x hi hx=>by
  have h0:=ht _ (qE hi)
  have a1:=zED h0
  have b1:(bs [114,111,111,116,32]).size =5:=rfl
  have b2:(bs [10]).size =1:=rfl
  unfold zCG
  rw [if_pos (by simp; omega),vV (by show x.size+_≤_; omega),zL hi]
  simp only [qA,zGw]
  rw [if_neg (by simp [h0]),vV (by simp only [xS]; omega)]
  simp only [qA]
  rw [vV (by simp only [xS]; omega),zM (by omega)]
  simp only [qA,zEw]
  rfl) (fun x=>by
  unfold zCG
  rw [if_neg (by simp)])
 have key2:=zFg ss (zEM c) 605 (fun a ha=>(zE4 hc hss a ha).1) (b:=zCV c ss) (zEn zE2 (bs []) l) (fun i x hi hx=>by
  have hm:=qE hi
  obtain ⟨h1,h2,h3⟩:=zE4 hc hss _ hm
  have h4:=key1.2
  have b1:(bs [115,116,101,112,10]).size =5:=rfl
  unfold zEM at h1
  rw [xS] at h1
  unfold zCV
  rw [if_pos (by simp; omega),vV (by show x.size+_≤_; omega),zL hi]
  simp only [qA,(zIN (zHy hc) h2 h3).1]
  rw [vV (by simp only [xS]; omega),zM (by omega)]
  simp only [qA,zEw]
  rfl) (fun x=>by
  unfold zCV
  rw [if_neg (by simp)])
 unfold zB8 zDJ
 rw [key1.1]
 simp only [qA]
 unfold zDH
 rw [key2.1]
 rfl
end
section
variable {c:List Pack} {l:List Term} {ss:List (List Int)} (hc:CF c=0) (hl:l.length≤1048576) (ht:∀t∈l,TF t=0) (hs:ss.length≤1048576) (hss:∀a∈ss,zG6 c a=true)
include hc hl ht hs hss in
theorem zKG:zBB c l ss=some (zGa c l ss):=by
 have hz:(bs []).size =0:=rfl
 have key1:=zFg l zE2 43 (fun t hm=>zFX (ht t hm)) (b:=zBr c l ss) (bs []) (fun i x hi hx=>by
  have h0:=ht _ (qE hi)
  have a1:=zED h0
  have b1:(bs [114,111,111,116,32]).size =5:=rfl
  have b2:(bs [10]).size =1:=rfl
  unfold zBr
  rw [if_pos (by simp; omega),zL hi]
  simp only [qA,zIH]
  rw [if_neg (by simp [h0]),vV (by omega)]
  simp only [qA]
  rw [vV (by simp only [xS]; omega)]
  simp only [qA]
  rw [vV (by simp only [xS]; omega),zM (by omega)]
  simp only [qA,zEw]
  rfl) (fun x=>by
  unfold zBr
  rw [if_neg (by simp)])
 have key2:=zFg ss (zEM c) 605 (fun a ha=>(zE4 hc hss a ha).1) (b:=zBs c ss) (zEn zE2 (bs []) l) (fun i x hi hx=>by
  have hm:=qE hi
  obtain ⟨h1,h2,h3⟩:=zE4 hc hss _ hm
  have h4:=key1.2
  have b1:(bs [115,116,101,112,10]).size =5:=rfl
  unfold zEM at h1
  rw [xS] at h1
  unfold zBs
  rw [if_pos (by simp; omega),zL hi]
  simp only [qA,zL7 (zHy hc) h2 h3]
  rw [vV (by omega)]
  simp only [qA]
  rw [vV (by simp only [xS]; omega),zM (by omega)]
  rfl) (fun x=>by
  unfold zBs
  rw [if_neg (by simp)])
 unfold zBB zBK
 rw [key1.1]
 simp only [qA]
 unfold zCm
 rw [key2.1]
 rfl
end
def PT (c:List Pack) (l:List Term) (ss:List (List Int)):ByteArray:=if CF c !=0||(tsF l !=0||ss.any (fun a=> !(zG6 c a))) then bs [] else zGa c l ss
theorem zKW {c:List Pack} {l:List Term} {ss:List (List Int)} (hc:Cat c) (hl:l.length≤1048576) (hs:ss.length≤1048576∧∀a∈ss,a.length≤1048576):zAA c l ss=some (PT c l ss):=by
 unfold zAA PT
 rw [uQ c hc,zGs l hl]
 simp only [qA]
 cases h1:CF c !=0
 case true=>rfl
 cases h2:tsF l !=0
 case true=>rfl
 have key:=xZ ss (fun _ a=>if !(zG6 c a) then some (bs []) else none) (b:=zBk c l ss) (by
  intro i hi
  unfold zBk
  rw [if_pos (by simp; omega),zL hi]
  simp only [qA,zHG hc.1 (hs.2 _ (qE hi))]
  rw [zM (by omega)]
  cases zG6 c ss[i]<;>rfl) (by
  unfold zBk
  rw [if_neg (by simp)])
 simp only [qD,if_false,qA,Bool.false_or]
 unfold zCg
 rw [key,zDx,zF8]
 cases h3:ss.any (fun a=> !(zG6 c a))
 ·simp only [qD,if_false]
  rw [zMs (by simpa using h1) hl (zKx (by simpa using h2)) hs.1 (by simpa using h3)]
  rfl
 ·rfl
theorem zHo {c:List Pack} {l:List Term} {ss:List (List Int)} (hc:Cat c) (hl:l.length≤1048576) (hs:ss.length≤1048576∧∀a∈ss,a.length≤1048576):uH c l ss=some (PT c l ss):=by
 unfold uH PT
 rw [zDv c hc,zFp l hl]
 simp only [qA]
 cases h1:CF c !=0
 case true=>rfl
 cases h2:tsF l !=0
 case true=>rfl
 have hS:∀a,(SF c a !=0)= !(zG6 c a):=by
  intro a
  unfold SF
  rw [h1]
  cases zG6 c a<;>rfl
 have key:=xZ ss (fun i a=>if !(zG6 c a) then some (i:Int) else none) (b:=yL ss c) (by
  intro i hi
  unfold yL zBp
  rw [if_pos (by simp; omega),zL hi]
  simp only [qA,zK4 hc (hs.2 _ (qE hi)),hS]
  rw [zM (by omega)]
  cases zG6 c ss[i]<;>rfl) (by
  unfold yL
  rw [if_neg (by simp)])
 simp only [qD,if_false,Bool.false_or]
 have e:zX ss c=some (ss.any (fun a=> !(zG6 c a))):=by
  unfold zX yI yQ
  rw [key,zDx,←zG7 (zEl (fun a=> !(zG6 c a)) ss 0)]
  cases xU (fun i a=>if !(zG6 c a) then some (i:Int) else none) 0 ss<;>rfl
 rw [e]
 simp only [qA]
 cases h3:ss.any (fun a=> !(zG6 c a))
 ·simp only [qD,if_false]
  rw [zKG (by simpa using h1) hl (zKx (by simpa using h2)) hs.1 (by simpa using h3)]
  rfl
 ·rfl
theorem u8w (x:Int):IntKind.u8.wrap x=x%256:=by
 simp only [IntKind.wrap,IntKind.signed,IntKind.bits]
 simp
def zFL (p:Pack):Int:=p.Version.A+p.Version.B+p.Version.C+(bl p.Name).foldl (· + ·) 0
def zRo (b0:Int):Nat→Int
 |0=>b0
 |i+1=>(31*zRo b0 i+7)%256
def zNH (p:Pack):List Int:=(List.range p.Size.toNat).map (zRo (zFL p%256))
theorem zHS:∀(l:List Int) (a:Int),l.foldl (· + ·) a=a+l.foldl (· + ·) 0
 |[],a=>by simp
 |x::l,a=>by
  simp only [List.foldl_cons]
  rw [zHS l (a+x),zHS l (0+x)]
  omega
theorem zLm:∀(l:List Int) (i:Nat) (a:Int),foldI (fun _ a x=>a+x) i l a=a+l.foldl (· + ·) 0
 |[],_,a=>by simp [foldI]
 |x::l,i,a=>by
  simp only [foldI,List.foldl_cons]
  rw [zLm l (i+1) (a+x),zHS l (0+x)]
  omega
theorem zL1 {p:Pack} (h1:NF p.Name=0) (h2:VF p.Version=0) (h3:1≤p.Size∧p.Size≤200):zC2 p=some (zNH p):=by
 obtain ⟨v1,v2,v3⟩:=zID h2
 have hn:=zFU h1
 have hlen:(bl p.Name).length ≤12:=by rw [zO]; omega
 have k1:=zEB (bl p.Name) (fun _ a x=>a+x) (fun i a=>0≤a∧a≤3000+i*255) (b:=zBQ p) (by
  intro i a hi ha
  have hr:=zI1 (bl p.Name)[i] (qE hi)
  unfold zBQ
  rw [if_pos (by rw [zO] at hi; simp; omega)]
  simp only
  rw [zEt hi]
  simp only [qA]
  rw [wC (x:=(bl p.Name)[i]) (by omega) (by omega),wC (by omega) (by omega),zM (by omega)]
  exact ⟨rfl,by omega,by omega⟩) (by
  intro a
  unfold zBQ
  rw [if_neg (by rw [zO]; simp)]) (bl p.Name).length 0 (p.Version.A+p.Version.B+p.Version.C) (by omega) ⟨by omega,by omega⟩
 rw [List.drop_zero,zLm] at k1
 obtain ⟨e1,b1,b2⟩:=k1
 have hb:0≤zFL p∧zFL p≤3000+12*255:=by
  unfold zFL
  omega
 obtain ⟨t,e2,rfl⟩:=xO (b:=zBH p) (fun i s=>s.2.2=(i:Int)∧s.2.1=(List.range i).map (zRo (zFL p%256))∧0≤s.1∧s.1≤10000∧s.1%256=zRo (zFL p%256) i) p.Size.toNat (fun t=>t=zNH p) (by
  rintro i ⟨n,out,j⟩ hi ⟨hj,ho,h4,h5,h6⟩
  simp only at hj ho h4 h5 h6
  subst hj ho
  unfold zBH
  rw [if_pos (by simp; omega)]
  simp only
  have ht:n.tmod 256=n%256:=Int.tmod_eq_emod_of_nonneg h4
  rw [ht,u8w,wY (by simp; omega) (by simp; omega)]
  simp only [qA]
  rw [wC (x:=31*(n%256)) (by omega) (by omega),wC (by omega) (by omega),zM (by omega)]
  refine .inl ⟨_,rfl,rfl,?_,by omega,by omega,?_⟩
  ·simp only
   rw [List.range_succ,List.map_append,show n%256%256=zRo (zFL p%256) i by omega]
   rfl
  ·simp only [zRo]
   rw [←h6]) (by
  rintro ⟨n,out,j⟩ ⟨hj,ho,_⟩
  simp only at hj ho
  subst hj ho
  unfold zBH
  rw [if_neg (by simp; omega)]
  exact ⟨_,rfl,rfl⟩) p.Size.toNat 0 (zFL p,([]:List Int),0) (by omega) ⟨rfl,rfl,hb.1,by omega,rfl⟩
 unfold zC2
 rw [wC (x:=p.Version.A+p.Version.B) (by omega) (by omega),wC (x:=p.Version.A+p.Version.B+p.Version.C) (by omega) (by omega)]
 unfold zCR
 rw [show ((0:Nat):Int)=0 from rfl] at e1
 rw [e1]
 simp only [qA]
 unfold zDj
 unfold zFL at e2
 rw [e2]
 rfl
theorem zLx (p:Pack):(zNH p).length =p.Size.toNat:=by simp [zNH]
theorem zHV {α:Type} (q:α→Bool):∀(l:List α) (i:Nat) (acc:List α),foldI (fun _ a x=>if q x then a++[x] else a) i l acc=acc++l.filter q
 |[],_,acc=>by simp [foldI]
 |x::l,i,acc=>by
  simp only [foldI]
  rw [zHV q l (i+1)]
  cases h:q x<;>simp [h]
theorem zNY {c:List Pack} {d:zP} (hc:Cat c):∀r,jU d=some r→zDa c d=some (if CF c !=0 then CF c else r):=by
 intro r hr
 unfold zDa
 rw [uQ c hc,hr]
 simp only [qA]
 cases CF c !=0<;>rfl
def zF0 (c:Int):List Int→List (List Int)
 |[]=>[[]]
 |x::l=>if x=c then []::zF0 c l else match zF0 c l with
  |h::t=>(x::h)::t
  |[]=>[[x]]
theorem zKE (c:Int):∀l,zF0 c l≠[]
 |[]=>by simp [zF0]
 |x::l=>by
  unfold zF0
  split
  ·simp
  ·split<;>simp
theorem zKr {c:Int}:∀{l:List Int},(∀x∈l,0≤x∧x≤255)→∀p∈zF0 c l,∀x∈p,0≤x∧x≤255
 |[],_=>by simp [zF0]
 |y::l,h=>by
  have ih:=zKr (c:=c) (l:=l) (fun x hx=>h x (by simp [hx]))
  intro p hp
  unfold zF0 at hp
  split at hp
  ·rcases List.mem_cons.1 hp with rfl|hp
   ·simp
   ·exact ih p hp
  ·split at hp
   ·rename_i a t e
    rcases List.mem_cons.1 hp with rfl|hp
    ·intro x hx
     rcases List.mem_cons.1 hx with rfl|hx
     ·exact h _ (by simp)
     ·exact ih a (by rw [e]; simp) x hx
    ·exact ih p (by rw [e]; simp [hp])
   ·rename_i e
    exact absurd e (zKE c l)
theorem zHb (c:Int):∀l,(zF0 c l).length ≤l.length+1
 |[]=>by simp [zF0]
 |x::l=>by
  have ih:=zHb c l
  unfold zF0
  split
  ·simp; omega
  ·split
   ·rename_i e; rw [e] at ih; simp at ih ⊢; omega
   ·simp
theorem zIQ (c:Int):∀l,∀p∈zF0 c l,p.length≤l.length
 |[]=>by simp [zF0]
 |x::l=>by
  have ih:=zIQ c l
  intro p hp
  unfold zF0 at hp
  split at hp
  ·rcases List.mem_cons.1 hp with rfl|hp
   ·simp
   ·have:=ih p hp; simp; omega
  ·split at hp
   ·rename_i a t e
    rcases List.mem_cons.1 hp with rfl|hp
    ·have:=ih a (by rw [e]; simp); simp; omega
    ·have:=ih p (by rw [e]; simp [hp]); simp; omega
   ·simp at hp; rw [hp]; simp
def vH (c:Int) (s:ByteArray):List ByteArray:=(zF0 c (bl s)).map b2s
theorem zIA (c:Int) (s:ByteArray):(vH c s).map bl=zF0 c (bl s):=by
 unfold vH
 rw [List.map_map]
 have:∀p∈zF0 c (bl s),(bl ∘ b2s) p=id p:=fun p hp=>zQz (zKr zI1 p hp)
 rw [List.map_congr_left this,List.map_id]
theorem zKg:∀{a b:List ByteArray},a.map bl=b.map bl→a=b
 |[],[],_=>rfl
 |[],_::_,h=>by simp at h
 |_::_,[],h=>by simp at h
 |x::a,y::b,h=>by
  simp only [List.map_cons,List.cons.injEq] at h
  rw [zEX.1 h.1,zKg h.2]
theorem zGm {c:Int} {s:ByteArray} {ps:List ByteArray} (h:ps.map bl=zF0 c (bl s)):ps=vH c s:=zKg (h.trans (zIA c s).symm)
def zQh (c:UInt8):List UInt8→List (List UInt8)
 |[]=>[[]]
 |x::l=>if x=c then []::zQh c l else match zQh c l with
  |h::t=>(x::h)::t
  |[]=>[[x]]
theorem zLr (c:UInt8):∀(l:List UInt8),(zQh c l).map (fun p=>p.map (fun b=>(b.toNat:Int)))=zF0 (c.toNat:Int) (l.map (fun b=>(b.toNat:Int)))
 |[]=>rfl
 |x::l=>by
  have ih:=zLr c l
  simp only [List.map_cons]
  unfold zQh zF0
  by_cases h:x=c
  ·subst h
   rw [if_pos rfl,if_pos rfl,List.map_cons,ih]
   rfl
  ·have h':¬((x.toNat:Int)=(c.toNat:Int)):=fun e=>h (UInt8.toNat_inj.1 (by omega))
   rw [if_neg h,if_neg h',←ih]
   cases hc:zQh c l with
   |nil=>rfl
   |cons a t=>rfl
theorem zLj (c:UInt8):∀(l:List UInt8),c∉l→zQh c l=[l]
 |[],_=>rfl
 |x::l,h=>by
  unfold zQh
  rw [if_neg (fun e=>h (by simp [e])),zLj c l (fun e=>h (by simp [e]))]
theorem index_one (c b:UInt8) (l:List UInt8):Lib.index (b::l) [c]=if b=c then 0 else if Lib.index l [c]== -1 then-1 else Lib.index l [c]+1:=by
 rw [Lib.index]
 have:([c].isPrefixOf (b::l))=decide (b=c):=by
  simp only [List.isPrefixOf,Bool.and_true]
  rw [Bool.eq_iff_iff,beq_iff_eq,qM]
  exact ⟨fun h=>h.symm,fun h=>h.symm⟩
 rw [this]
 by_cases h:b=c<;>simp [h]
theorem zHQ (c:UInt8):∀(l:List UInt8) (k:Nat),l.count c≤k→Lib.splitK [c] 0 k l=zQh c l
 |[],k,_=>by
  cases k with
  |zero=>rfl
  |succ k=>rfl
 |b::l,0,h=>by
  have hn:c∉b::l:=List.count_eq_zero.1 (by omega)
  rw [zLj c _ hn]
  rfl
 |b::l,k+1,h=>by
  unfold zQh
  by_cases hb:b=c
  ·subst hb
   rw [if_pos rfl]
   have e:Lib.index (b::l) [b]=0:=by rw [index_one,if_pos rfl]
   rw [Lib.splitK,e]
   simp only [List.count_cons_self] at h
   rw [if_neg (by decide)]
   show []::Lib.splitK [b] 0 k ((b::l).drop 1)=_
   rw [List.drop_one,List.tail_cons,zHQ b l k (by omega)]
  ·rw [if_neg hb]
   have hc:l.count c≤k+1:=by rw [List.count_cons_of_ne hb] at h; exact h
   have ih:=zHQ c l (k+1) hc
   rw [←ih,Lib.splitK,Lib.splitK,index_one,if_neg hb]
   cases hi:Lib.index l [c]== -1
   ·have hge:=Lib.index_ge l [c]
    have hne:Lib.index l [c]≠ -1:=by simpa using hi
    have hne':(Lib.index l [c]+1== -1)=false:=by
     rw [beq_eq_false_iff_ne]; omega
    simp only [qD,if_false,hne']
    rw [show (Lib.index l [c]+1).toNat =(Lib.index l [c]).toNat +1 by omega]
    simp only [Nat.add_zero,List.length_singleton,List.take_succ_cons,List.drop_succ_cons]
   ·simp
theorem zHP (s:ByteArray) (c:UInt8) (h:s.size≤1048577):strings_Split s ⟨#[c]⟩=some (vH (c.toNat:Int) s):=by
 unfold strings_Split
 rw [if_pos ⟨by omega,by show 1≤1; omega⟩]
 congr 1
 refine zGm ?_
 have e:=Lib.splitB_data ⟨#[c]⟩ 0 (Lib.countB s ⟨#[c]⟩) s
 have e2:Lib.countB s ⟨#[c]⟩=s.data.toList.count c:=Lib.count_one c s.data.toList
 rw [e2] at e ⊢
 rw [show (⟨#[c]⟩:ByteArray).data.toList =[c] from rfl,zHQ c _ _ (Nat.le_refl _)] at e
 have e3:∀ps:List ByteArray,ps.map bl=(ps.map (·.data.toList)).map (fun p=>p.map (fun b=>(b.toNat:Int))):=by
  intro ps
  rw [List.map_map]
  exact List.map_congr_left (fun p _=>(zJw p).symm)
 rw [e3,e,zLr,zJw]
def zNr (c:Int) (l:List Int):List (List Int)×List Int:=l.foldl (fun a x=>if x=c then (a.1++[a.2],[]) else (a.1,a.2++[x])) ([],[])
theorem zNc (c:Int):∀(l:List Int) (a:List (List Int)×List Int),(l.foldl (fun a x=>if x=c then (a.1++[a.2],[]) else (a.1,a.2++[x])) a).1++[(l.foldl (fun a x=>if x=c then (a.1++[a.2],[]) else (a.1,a.2++[x])) a).2]=
  a.1++(match zF0 c l with|h::t=>(a.2++h)::t|[]=>[a.2])
 |[],a=>by simp [zF0]
 |x::l,a=>by
  simp only [List.foldl_cons]
  rw [zNc c l]
  have hn:=zKE c l
  by_cases h:x=c
  ·rw [if_pos h]
   conv=>rhs; unfold zF0
   rw [if_pos h]
   cases hc:zF0 c l with
   |nil=>exact absurd hc hn
   |cons a t=>simp
  ·rw [if_neg h]
   conv=>rhs; unfold zF0
   rw [if_neg h]
   cases hc:zF0 c l with
   |nil=>exact absurd hc hn
   |cons a t=>simp
theorem zPf (c:Int) (l:List Int):(zNr c l).1++[(zNr c l).2]=zF0 c l:=by
 unfold zNr
 rw [zNc c l ([],[])]
 cases h:zF0 c l with
 |nil=>exact absurd h (zKE c l)
 |cons a t=>simp
theorem zHx (c:Int) (l:List Int) (x:Int):zNr c (l++[x])=if x=c then ((zNr c l).1++[(zNr c l).2],[]) else ((zNr c l).1,(zNr c l).2++[x]):=by
 unfold zNr
 rw [List.foldl_append]
 rfl
theorem zPG (c:Int) (l:List Int):(zNr c l).1.length ≤l.length:=by
 have h1:=zPf c l
 have h2:=zHb c l
 rw [←h1] at h2
 simp at h2
 exact h2
theorem zGg (s:ByteArray) (c:Int) (h:s.size≤1048577):tF s c=some (vH c s):=by
 have hlen:=zO s
 obtain ⟨t,e,ht⟩:=xO (b:=zBW s c) (fun i q=>q.2.2=(i:Int)∧
   ((i≤s.size∧q.1.map bl=(zNr c ((bl s).take i)).1∧∃f:Nat,q.2.1=(f:Int)∧f≤i∧((bl s).drop f).take (i-f)=(zNr c ((bl s).take i)).2)∨(i=s.size+1∧q.1.map bl=zF0 c (bl s)))) (s.size+1)
  (fun t=>t.map bl=zF0 c (bl s)) (by
  rintro i ⟨out,from_,j⟩ hi ⟨hj,hI⟩
  simp only at hj hI
  subst hj
  rcases hI with ⟨hle,ho,f,hf,hfi,hc⟩|⟨he,_⟩
  case inr=>omega
  subst hf
  have hol:out.length≤i:=by
   have:=congrArg List.length ho
   rw [qC] at this
   rw [this]
   refine Nat.le_trans (zPG _ _) ?_
   simp
   omega
  unfold zBW
  rw [if_pos (by simp; omega)]
  simp only
  by_cases hn:i=s.size
  ·subst hn
   have es:zFt s (f:Int) (s.size:Int)=some (s.extract f s.size):=zDy hfi (Nat.le_refl _)
   rw [if_pos (by simp)]
   simp only [qA,if_true]
   rw [es]
   simp only [qA]
   rw [wY (by simp; omega) (by simp; omega),zM (by omega)]
   refine .inl ⟨_,rfl,rfl,.inr ⟨trivial,?_⟩⟩
   have htk:(bl s).take s.size=bl s:=by rw [←hlen,List.take_length]
   rw [htk] at ho hc
   rw [List.map_append,ho,←zPf]
   simp only [List.map_cons,List.map_nil]
   rw [xM,hc]
  ·have hlt:i< (bl s).length :=by omega
   have htk:(bl s).take (i+1)=(bl s).take i++[(bl s)[i]]:=qF hlt
   rw [if_neg (by simp; omega),zEt hlt]
   simp only [qA]
   by_cases hb:(bl s)[i]=c
   ·rw [show ((bl s)[i]==c)=true by simpa using hb]
    simp only [if_true]
    have es:zFt s (f:Int) (i:Int)=some (s.extract f i):=zDy hfi (by omega)
    rw [es]
    simp only [qA]
    rw [wY (by simp; omega) (by simp; omega),zM (by omega)]
    refine .inl ⟨_,rfl,rfl,.inl ⟨by omega,?_,i+1,rfl,Nat.le_refl _,?_⟩⟩
    ·rw [htk,zHx,if_pos hb,List.map_append,ho]
     simp only [List.map_cons,List.map_nil]
     rw [xM,hc]
    ·rw [htk,zHx,if_pos hb]
     simp
   ·rw [show ((bl s)[i]==c)=false by simpa using hb]
    simp only [qD,if_false,qA]
    rw [zM (by omega)]
    refine .inl ⟨_,rfl,rfl,.inl ⟨by omega,?_,f,rfl,by omega,?_⟩⟩
    ·rw [htk,zHx,if_neg hb]
     exact ho
    ·rw [htk,zHx,if_neg hb,←hc,show i+1-f=(i-f)+1 by omega]
     have hd:i-f< ((bl s).drop f).length :=by simp; omega
     rw [qF hd]
     congr 2
     rw [List.getElem_drop]
     congr 1
     omega) (by
  rintro ⟨out,from_,j⟩ ⟨hj,hI⟩
  simp only at hj hI
  subst hj
  rcases hI with ⟨hle,_⟩|⟨_,ho⟩
  ·omega
  unfold zBW
  rw [if_neg (by simp; omega)]
  exact ⟨_,rfl,ho⟩) (s.size+1) 0 (([]:List ByteArray),0,0) (by omega) ⟨rfl,.inl ⟨by omega,rfl,0,rfl,by omega,by simp [zNr]⟩⟩
 unfold tF zCW
 rw [e,zGm ht]
 rfl
def zAW (s:ByteArray):List ByteArray:=if (vH 10 s).getLast? =some (bs []) then (vH 10 s).dropLast else vH 10 s
theorem zKe (ps:List ByteArray) (h0:ps≠[]) (hl:ps.length≤1048578):((idx ps (w64 ((ps.length:Int)-1))).bind fun x4=>(if seq x4 (bs []) then ((zGp ps 0 (w64 ((ps.length:Int)-1))).bind fun x7=>some x7) else (some ps)).bind fun v9=>some v9)=
  some (if ps.getLast? =some (bs []) then ps.dropLast else ps):=by
 have hp:0<ps.length:=List.length_pos_iff.2 h0
 rw [wC (by omega) (by omega),show (ps.length:Int)-1=((ps.length-1:Nat):Int) by omega,zL (show ps.length-1<ps.length by omega)]
 simp only [qA]
 have hg:ps.getLast? =some ps[ps.length-1]:=by
  rw [List.getLast?_eq_getElem?,List.getElem?_eq_getElem]
 rw [hg]
 by_cases h:ps[ps.length-1]=bs []
 ·rw [if_pos (zET.2 h),if_pos (by rw [h])]
  have e:zGp ps 0 ((ps.length-1:Nat):Int)=some (ps.take (ps.length-1)):=zH1 (by omega)
  rw [e,List.dropLast_eq_take]
  rfl
 ·have hs:seq ps[ps.length-1] (bs [])=false:=by
   cases hq:seq ps[ps.length-1] (bs []) with
   |false=>rfl
   |true=>exact absurd (zET.1 hq) h
  rw [hs,if_neg (show ¬(some ps[ps.length-1]=some (bs [])) from fun e=>h (Option.some.inj e))]
  rfl
theorem zLE (c:Int) (s:ByteArray):vH c s≠[]:=by
 unfold vH
 intro h
 exact zKE c (bl s) (List.map_eq_nil_iff.1 h)
theorem zG3 (c:Int) (s:ByteArray):(vH c s).length ≤s.size+1:=by
 unfold vH
 rw [qC,←zO]
 exact zHb c (bl s)
theorem zFw (s:ByteArray) (h:s.size≤1048577):tO s=some (zAW s):=by
 unfold tO
 rw [zGg s 10 h]
 exact zKe _ (zLE _ _) (by have:=zG3 10 s; omega)
theorem zIl (s:ByteArray) (h:s.size≤1048577):zDl s=some (zAW s):=by
 unfold zDl
 have e:=zHP s 10 h
 rw [show (((10:UInt8).toNat :Nat):Int)=10 from rfl] at e
 rw [show bs [10]=⟨#[10]⟩ from rfl,e]
 exact zKe _ (zLE _ _) (by have:=zG3 10 s; omega)
theorem zKn (s:ByteArray):(zAW s).length ≤s.size+1:=by
 have:=zG3 10 s
 unfold zAW
 split
 ·simp; omega
 ·exact this
theorem zJm (s:ByteArray):∀p∈zAW s,p.size≤s.size:=by
 intro p hp
 have hm:p∈vH 10 s:=by
  unfold zAW at hp
  split at hp
  ·exact (List.dropLast_sublist _).subset hp
  ·exact hp
 have hb:bl p∈zF0 10 (bl s):=by
  rw [←zIA]
  exact List.mem_map_of_mem hm
 have:=zIQ 10 (bl s) _ hb
 rw [zO,zO] at this
 exact this
def zSv:zQ:= {Code:=5,Version:=zeroV}
def zF1 (i:Nat) (a:List Int) (x:ByteArray):Lp (List Int) (Fl zQ (List Int)):=match zKp (bl x) 3 with
 |some n=>.go (a.set i n)
 |none=>.done (.ret zSv)
def zQu (t:Fl zQ (List Int)):zQ:=match t with
 | .ret r=>r
 | .nxt l=> {Code:=0,Version:= {A:=l.getD 0 0,B:=l.getD 1 0,C:=l.getD 2 0}}
def PV (s:ByteArray):zQ:=if (vH 46 s).length >3 then zSv else zQu (goL zF1 .nxt 0 (vH 46 s) [0,0,0])
theorem zMh {l:List Int} {n:Int} (h:zKp l 3=some n):0≤n:=by
 unfold zKp at h
 split at h
 ·cases h
 ·rename_i h1
  cases h
  exact (zFF (l:=l) (by
   intro c hc
   cases hd:zGI c with
   |true=>rfl
   |false=>exact absurd (.inr (.inr (fun h'=>by rw [h' c hc] at hd; cases hd))) h1)).1
theorem zKQ:∀(ps:List ByteArray) (i:Nat) (a:List Int),a.length=3→match goL zF1 Fl.nxt i ps a with| .ret r=>r=zSv| .nxt l=>l.length=3
 |[],_,a,h=>h
 |p::ps,i,a,h=>by
  simp only [goL]
  unfold zF1
  cases hn:zKp (bl p) 3 with
  |none=>rfl
  |some n=>exact zKQ ps (i+1) (a.set i n) (by simpa using h)
theorem zE9 (s:ByteArray) (h:s.size≤1048577):xD s=some (PV s):=by
 unfold xD PV
 rw [zGg s 46 h]
 simp only [qA]
 by_cases hl:(vH 46 s).length >3
 ·rw [if_pos (by simp; omega),if_pos hl]; rfl
 rw [if_neg (by simp; omega),if_neg hl]
 have key:=zIV (vH 46 s) zF1 Fl.nxt (fun i a=>(a,(i:Int))) (fun _ a=>a.length=3) (b:=tN (vH 46 s)) [0,0,0] (by
  intro i a hi ha
  unfold tN zF1
  rw [if_pos (by simp; omega),zL hi]
  simp only [qA,zGU _ 3 (by omega)]
  cases hn:zKp (bl (vH 46 s)[i]) 3 with
  |none=>exact ⟨rfl,fun a' h=>by cases h⟩
  |some n=>
   simp only [Bool.not_true,qD,if_false]
   rw [zL (show i<a.length by omega),zM (by omega)]
   exact ⟨rfl,fun a' h=>by cases h; simpa using ha⟩) (by
  intro a ha
  unfold tN
  rw [if_neg (by simp)]) rfl
 unfold jJ
 rw [show ((0:Nat):Int)=0 from rfl] at key
 rw [key]
 have h3:=zKQ (vH 46 s) 0 [0,0,0] rfl
 cases hg:goL zF1 Fl.nxt 0 (vH 46 s) [0,0,0] with
 |ret r=>rfl
 |nxt l=>
  rw [hg] at h3
  match l,h3 with
  |[x,y,z],_=>rfl
theorem zDs (s:ByteArray) (h:s.size≤1048577):wH s=some (PV s):=by
 unfold wH PV
 have e:=zHP s 46 h
 rw [show (((46:UInt8).toNat :Nat):Int)=46 from rfl] at e
 rw [show bs [46]=⟨#[46]⟩ from rfl,e]
 simp only [qA]
 by_cases hl:(vH 46 s).length >3
 ·rw [if_pos (by simp; omega),if_pos hl]; rfl
 rw [if_neg (by simp; omega),if_neg hl]
 have key:=zIV (vH 46 s) zF1 Fl.nxt (fun i a=>(a,(i:Int))) (fun _ a=>a.length=3) (b:=jA (vH 46 s)) [0,0,0] (by
  intro i a hi ha
  have hia:i<a.length:=by omega
  unfold jA zF1
  rw [if_pos (by simp; omega),zL hi]
  simp only [qA,number_eq _ 3 (by omega)]
  have ea:∀(b:List Int),b.length=3→zPp b 3 (i:Int)=idx b (i:Int):=fun b hb=>if_pos hb
  rw [ea a ha,zL hia]
  simp only [qA,Int.toNat_natCast]
  rw [ea _ (by simpa using ha),zL (by simpa using hia)]
  simp only [qA,List.getElem_set_self]
  cases hn:zKp (bl (vH 46 s)[i]) 3 with
  |none=>exact ⟨rfl,fun a' h=>by cases h⟩
  |some n=>
   have:=zMh hn
   simp only
   rw [if_neg (by simpa using this),zM (by omega)]
   exact ⟨rfl,fun a' h=>by cases h; simpa using ha⟩) (by
  intro a ha
  unfold jA
  rw [if_neg (by simp)]) rfl
 unfold jI
 rw [show ((0:Nat):Int)=0 from rfl] at key
 rw [key]
 have h3:=zKQ (vH 46 s) 0 [0,0,0] rfl
 cases hg:goL zF1 Fl.nxt 0 (vH 46 s) [0,0,0] with
 |ret r=>rfl
 |nxt l=>
  rw [hg] at h3
  match l,h3 with
  |[x,y,z],_=>rfl
def tw (p:Int→Bool) (l:List Int):Nat:=(l.takeWhile p).length
theorem zP8 (p:Int→Bool):∀(l:List Int),tw p l≤l.length
 |[]=>by simp [tw]
 |x::l=>by
  have:=zP8 p l
  unfold tw at this ⊢
  rw [List.takeWhile_cons]
  split
  ·simp; omega
  ·simp
theorem zFO (p:Int→Bool) (x:Int) (l:List Int):tw p (x::l)=if p x then tw p l+1 else 0:=by
 unfold tw
 rw [List.takeWhile_cons]
 split<;>simp
theorem zJf (l:List Int) (p:Int→Bool) {b:Int→Option (Lp Int Int)} (hs:∀(i:Nat) (hi:i<l.length),b (i:Int)=some (if p l[i] then .go ((i+1:Nat):Int) else .done (i:Int))) (he:b (l.length:Int)=some (.done (l.length:Int))):
  ∀(k i:Nat),i+k=l.length→loop b (i:Int)=some ((i+tw p (l.drop i):Nat):Int)
 |0,i,h=>by
  have e:i=l.length:=by omega
  subst e
  rw [wO,he,List.drop_length]
  rfl
 |k+1,i,h=>by
  have hi:i<l.length:=by omega
  rw [wO,hs i hi,List.drop_eq_getElem_cons hi,zFO]
  cases p l[i]
  ·rfl
  ·have:=zJf l p hs he k (i+1) (by omega)
   simp only [if_true,qA,Lp.elim]
   rw [this]
   congr 2
   omega
theorem zHI (l:List Int) (p:Int→Bool) {b:Int→Option (Lp Int Int)} (hs:∀(i:Nat) (hi:i<l.length),b (i:Int)=some (if p l[i] then .go ((i+1:Nat):Int) else .done (i:Int))) (he:b (l.length:Int)=some (.done (l.length:Int))):
  loop b 0=some ((tw p l:Nat):Int):=by
 have:=zJf l p hs he l.length 0 (by omega)
 simpa using this
def zH4 (c:Int):Bool:=c !=60
def zHD (s:ByteArray):Nat:=tw zIn (bl s)
def nameP (s:ByteArray):ByteArray:=s.extract 0 (zHD s)
def zJI (s:ByteArray):ByteArray:=s.extract (zHD s) s.size
def zDN (r:ByteArray):Nat:=tw zH4 (bl r)
def zHE (r:ByteArray):Option Version:=if zDN r<r.size then (if (PV (r.extract (zDN r+1) r.size)).Code !=0 then none else some (PV (r.extract (zDN r+1) r.size)).Version) else some zJQ
def zFr (r:ByteArray):ByteArray:=r.extract 0 (zDN r)
def zMR (r:ByteArray):Option Version:=if seq (zFr r) (bs []) then some zeroV else if decide ((zFr r).size <2)|| !(seq ((zFr r).extract 0 2) (bs [62,61])) then none else
 (if (PV ((zFr r).extract 2 (zFr r).size)).Code !=0 then none else some (PV ((zFr r).extract 2 (zFr r).size)).Version)
def zNa:Term:= {Name:=ByteArray.empty,Low:=zeroV,High:=zeroV}
def zMz (c:Int):xC:= {Code:=c,Term:=zNa}
def zRk (t:Term):xC:=if TF t !=0 then zMz (TF t) else {Code:=0,Term:=t}
def PTm (s:ByteArray):xC:=if NF (nameP s) !=0 then zMz 5 else match zHE (zJI s),zMR (zJI s) with
 |some h,some l=>zRk {Name:=nameP s,Low:=l,High:=h}
 |_,_=>zMz 5
theorem extract_size {s:ByteArray} {i j:Nat} (h:i≤j) (hj:j≤s.size):(s.extract i j).size =j-i:=by
 rw [←zO,xM]
 simp
 rw [zO]
 omega
theorem zMF (s:ByteArray):zHD s≤s.size:=by
 rw [←zO]; exact zP8 _ _
theorem zMr (s:ByteArray):zDN s≤s.size:=by
 rw [←zO]; exact zP8 _ _
theorem zJN (s:ByteArray) (h:s.size≤1048577):zAF s=some (PTm s):=by
 have k1:kJ s 0=some ((zHD s:Nat):Int):=by
  unfold kJ zHD
  refine zHI (bl s) zIn (fun i hi=>?_) ?_
  ·have hs:i<s.size:=by rw [←zO]; exact hi
   unfold zCz
   rw [if_pos (by simp; omega),zEt hi]
   simp only [qA,zLo]
   rw [zM (by omega)]
   cases zIn (bl s)[i]<;>rfl
  ·unfold zCz
   rw [if_neg (by rw [zO]; simp)]
   rfl
 have hn:=zMF s
 have e1:zFt s 0 ((zHD s:Nat):Int)=some (nameP s):=zDy (Nat.zero_le _) hn
 have e2:zFt s ((zHD s:Nat):Int) (s.size:Int)=some (zJI s):=zDy hn (Nat.le_refl _)
 unfold zAF wT uK
 rw [k1]
 simp only [qA]
 rw [e1]
 simp only [qA,zEL]
 unfold PTm
 cases hN:NF (nameP s) !=0
 case true=>rfl
 simp only [qD,if_false]
 rw [e2]
 simp only [qA]
 generalize hT:({Name:=nameP s,Low:= {A:=0,B:=0,C:=0},High:= {A:=1000,B:=0,C:=0}}:Term)=T0
 generalize hr:zJI s=r
 have hrs:r.size≤1048577:=by
  rw [←hr]
  unfold zJI
  rw [extract_size hn (Nat.le_refl _)]
  omega
 have k2:jY T0 r 0=some ((zDN r:Nat):Int):=by
  unfold jY zDN
  refine zHI (bl r) zH4 (fun i hi=>?_) ?_
  ·have hs:i<r.size:=by rw [←zO]; exact hi
   unfold zCy zH4
   rw [if_pos (by simp; omega),zEt hi]
   simp only [qA]
   rw [zM (by omega)]
   cases (bl r)[i] !=60<;>rfl
  ·unfold zCy
   rw [if_neg (by rw [zO]; simp)]
   rfl
 rw [k2]
 have hc:=zMr r
 have elow:zFt r 0 ((zDN r:Nat):Int)=some (zFr r):=zDy (Nat.zero_le _) hc
 have hlow:(zFr r).size =zDN r:=by
  unfold zFr
  rw [extract_size (Nat.zero_le _) hc]
  omega
 simp only [qA]
 have eh:(if decide (((zDN r:Nat):Int)< (r.size:Int)) then ((zFt r (w64 (((zDN r:Nat):Int)+1)) (r.size:Int)).bind fun x40=>(xD x40).bind fun x42=>if x42.Code !=0 then (some (Fl.ret (zMz 5))) else (some (Fl.nxt (x42.Version.A,x42.Version.B,x42.Version.C))))
   else (some (Fl.nxt ((1000:Int),(0:Int),(0:Int)))))=some (match zHE r with|some v=>Fl.nxt (v.A,v.B,v.C)|none=>Fl.ret (zMz 5)):=by
  unfold zHE
  by_cases hlt:zDN r<r.size
  ·rw [if_pos (by simp; omega),if_pos hlt,zM (by omega)]
   have e3:zFt r ((zDN r+1:Nat):Int) (r.size:Int)=some (r.extract (zDN r+1) r.size):=zDy (by omega) (Nat.le_refl _)
   rw [e3]
   simp only [qA]
   rw [zE9 _ (by rw [extract_size (by omega) (Nat.le_refl _)]; omega)]
   simp only [qA]
   cases (PV (r.extract (zDN r+1) r.size)).Code !=0<;>rfl
  ·rw [if_neg (by simp; omega),if_neg hlt]
   rfl
 have eh':=eh
 unfold zMz zNa zeroV at eh'
 rw [eh']
 cases hH:zHE r with
 |none=>rfl
 |some v=>
  simp only [qA,Fl.go]
  rw [elow]
  simp only [qA]
  have el:(if !(seq (zFr r) (bs [])) then ((if decide (((zFr r).size :Int)<2) then (some true) else ((zFt (zFr r) 0 2).bind fun x50=>some (!(seq x50 (bs [62,61]))))).bind fun v52=>if v52 then (some (Fl.ret (zMz 5))) else
     ((zFt (zFr r) 2 ((zFr r).size :Int)).bind fun x54=>(xD x54).bind fun x56=>if x56.Code !=0 then (some (Fl.ret (zMz 5))) else (some (Fl.nxt (x56.Version.A,x56.Version.B,x56.Version.C)))))
    else (some (Fl.nxt ((0:Int),(0:Int),(0:Int)))))=some (match zMR r with|some v=>Fl.nxt (v.A,v.B,v.C)|none=>Fl.ret (zMz 5)):=by
   unfold zMR
   cases hq:seq (zFr r) (bs [])
   ·simp only [Bool.not_false,if_true,qD,if_false]
    by_cases h2:(zFr r).size <2
    ·rw [if_pos (by simp; omega)]
     simp [h2]
    ·have e5:zFt (zFr r) ((0:Nat):Int) ((2:Nat):Int)=some ((zFr r).extract 0 2):=zDy (by omega) (by omega)
     rw [show ((0:Nat):Int)=0 from rfl,show ((2:Nat):Int)=2 from rfl] at e5
     rw [if_neg (by simp; omega),e5]
     simp only [qA,h2,decide_false,Bool.false_or]
     cases seq ((zFr r).extract 0 2) (bs [62,61])
     ·rfl
     ·have e6:zFt (zFr r) ((2:Nat):Int) ((zFr r).size :Int)=some ((zFr r).extract 2 (zFr r).size):=zDy (by omega) (Nat.le_refl _)
      rw [show ((2:Nat):Int)=2 from rfl] at e6
      simp only [Bool.not_true,qD,if_false]
      rw [e6]
      simp only [qA]
      rw [zE9 _ (by rw [extract_size (by omega) (Nat.le_refl _)]; omega)]
      simp only [qA]
      cases (PV ((zFr r).extract 2 (zFr r).size)).Code !=0<;>rfl
   ·rfl
  have el':=el
  unfold zMz zNa zeroV at el'
  rw [el']
  cases hL:zMR r with
  |none=>rfl
  |some u=>
   simp only [qA,Fl.go]
   rw [zF4]
   simp only [qA]
   unfold zRk
   have:({Name:=nameP s,Low:= {A:=u.A,B:=u.B,C:=u.C},High:= {A:=v.A,B:=v.B,C:=v.C}}:Term)= {Name:=nameP s,Low:=u,High:=v}:=rfl
   rw [this]
   cases TF {Name:=nameP s,Low:=u,High:=v} !=0<;>rfl
theorem zGK (s p:ByteArray):strings_CutPrefix s p=some (if begins s p then (s.extract p.size s.size,true) else (s,false)):=by
 unfold strings_CutPrefix xR xQ begins
 by_cases h:p.size≤s.size
 ·have e1:zFt s ((0:Nat):Int) (p.size:Int)=some (s.extract 0 p.size):=zDy (Nat.zero_le _) h
  have e2:zFt s (p.size:Int) (s.size:Int)=some (s.extract p.size s.size):=zDy h (Nat.le_refl _)
  rw [show ((0:Nat):Int)=0 from rfl] at e1
  rw [if_pos (by simp; omega),e1]
  simp only [qA,h,decide_true,Bool.true_and]
  cases seq (s.extract 0 p.size) p
  ·rfl
  ·simp only [Bool.not_true,qD,if_false]
   rw [e2]
   rfl
 ·rw [if_neg (by simp; omega)]
  simp [h]
theorem zIk (c:UInt8):∀(l:List UInt8),Lib.indexByte l c=if tw (fun x=>x !=(c.toNat:Int)) (l.map (fun b=>(b.toNat:Int)))=l.length then-1 else (tw (fun x=>x !=(c.toNat:Int)) (l.map (fun b=>(b.toNat:Int))):Int)
 |[]=>rfl
 |b::l=>by
  have ih:=zIk c l
  have hle:=zP8 (fun x=>x !=(c.toNat:Int)) (l.map (fun b=>(b.toNat:Int)))
  rw [qC] at hle
  rw [Lib.indexByte,List.map_cons,zFO]
  by_cases h:b=c
  ·subst h
   simp
  ·have h':((b.toNat:Int) !=(c.toNat:Int))=true:=by
    simp only [bne_iff_ne,ne_eq]
    intro e
    exact h (UInt8.toNat_inj.1 (by omega))
   rw [if_neg (by simpa using h)]
   simp only [h',if_true,List.length_cons]
   rw [ih]
   by_cases he:tw (fun x=>x !=(c.toNat:Int)) (l.map (fun b=>(b.toNat:Int)))=l.length
   ·rw [he]
    simp
   ·rw [if_neg he,if_neg (by simp),if_neg (by omega)]
    omega
theorem zFd (s p:ByteArray):begins s p=decide ((bl s).take (bl p).length =bl p):=by
 unfold begins
 rw [zF9,xM,List.drop_zero,Nat.sub_zero,←zO p,←zO s]
 by_cases h:(bl p).length ≤(bl s).length
 ·simp [h]
 ·have:¬((bl s).take (bl p).length =bl p):=by
   intro e
   have:=congrArg List.length e
   simp at this
   omega
  simp [h,this]
theorem zJM (s:ByteArray) (h:s.size≤1048577):zAP s=some (PTm s):=by
 have k1:kF s 0=some ((zHD s:Nat):Int):=by
  unfold kF zHD
  refine zHI (bl s) zIn (fun i hi=>?_) ?_
  ·have hs:i<s.size:=by rw [←zO]; exact hi
   unfold zCx
   rw [if_pos (by simp; omega),zEt hi]
   simp only [qA,zHe]
   rw [zM (by omega)]
   cases zIn (bl s)[i]<;>rfl
  ·unfold zCx
   rw [if_neg (by rw [zO]; simp)]
   rfl
 have hn:=zMF s
 have e1:zFt s 0 ((zHD s:Nat):Int)=some (nameP s):=zDy (Nat.zero_le _) hn
 have e2:zFt s ((zHD s:Nat):Int) (s.size:Int)=some (zJI s):=zDy hn (Nat.le_refl _)
 unfold zAP zEm zDr
 rw [k1]
 simp only [qA]
 rw [e1]
 simp only [qA]
 rw [e2]
 simp only [qA,zEK]
 unfold PTm
 cases hN:NF (nameP s) !=0
 case true=>rfl
 simp only [qD,if_false,zGK,qA]
 generalize hr:zJI s=r
 have hrs:r.size≤1048577:=by
  rw [←hr]
  unfold zJI
  rw [extract_size hn (Nat.le_refl _)]
  omega
 have hlr:=zO r
 have b2:bl (bs [62,61])=[62,61]:=zFs _
 have b1:bl (bs [60])=[60]:=zFs _
 have s2:(bs [62,61]).size =2:=rfl
 have s1:(bs [60]).size =1:=rfl
 have fin:∀(l u:Version),((wW ({Name:=nameP s,Low:=({A:=l.A,B:=l.B,C:=l.C}:Version),High:=({A:=u.A,B:=u.B,C:=u.C}:Version)}:Term)).bind fun x50=>if x50 !=0 then (some (zMz x50)) else (some ({Code:=0,Term:=({Name:=nameP s,Low:=({A:=l.A,B:=l.B,C:=l.C}:Version),High:=({A:=u.A,B:=u.B,C:=u.C}:Version)}:Term)}:xC)))=
   some (zRk {Name:=nameP s,Low:=l,High:=u}):=by
  intro l u
  rw [zF5]
  simp only [qA]
  unfold zRk
  cases TF {Name:=nameP s,Low:=l,High:=u} !=0<;>rfl
 have fin':=fin
 unfold zMz zNa zeroV at fin'
 cases hb:begins r (bs [62,61])
 ·
  simp only [qD,if_false,qA,Fl.go]
  cases hb1:begins r (bs [60])
  ·simp only [qD,if_false,qA,Fl.go]
   cases hq:seq r (bs [])
   ·
    have hne:bl r≠[]:=by
     intro e
     rw [zF9,e,zFl] at hq
     simp at hq
    have hcut:1≤zDN r:=by
     unfold zDN
     cases hx:bl r with
     |nil=>exact absurd hx hne
     |cons x l=>
      rw [zFO]
      rw [zFd,b1,hx] at hb1
      have:zH4 x=true:=by
       unfold zH4
       simpa using hb1
      rw [this]
      simp
    have hlow:zMR r=none:=by
     have hls:(zFr r).size =zDN r:=by
      unfold zFr
      rw [extract_size (Nat.zero_le _) (zMr r)]
      omega
     unfold zMR
     have hs0:seq (zFr r) (bs [])=false:=by
      cases hs:seq (zFr r) (bs []) with
      |false=>rfl
      |true=>
       have:=congrArg ByteArray.size (zET.1 hs)
       rw [hls] at this
       have hz:(bs []).size =0:=rfl
       omega
     rw [hs0,if_neg (by simp),if_pos]
     by_cases h2:(zFr r).size <2
     ·simp [h2]
     ·simp only [h2,decide_false,Bool.false_or]
      rw [zFd,b2] at hb
      rw [zF9,b2,xM,zFr,xM]
      simp only [List.drop_zero,Nat.sub_zero,List.take_take]
      rw [Nat.min_eq_left (by omega)]
      simpa using hb
    rw [hlow]
    cases zHE r<;>rfl
   ·
    have he:bl r=[]:=by
     rw [zF9,zFl] at hq
     simpa using hq
    have hz:r.size=0:=by rw [←hlr,he]; rfl
    have hc0:zDN r=0:=by unfold zDN; rw [he]; rfl
    have h1:zHE r=some zJQ:=by
     unfold zHE
     rw [if_neg (by omega)]
    have h2:zMR r=some zeroV:=by
     unfold zMR
     have:seq (zFr r) (bs [])=true:=by
      rw [zF9,zFl,zFr,xM,he]
      simp
     rw [this]
     rfl
    rw [h1,h2]
    exact fin' zeroV zJQ
  ·
   have hx:=hb1
   rw [zFd,b1] at hx
   simp only [qM] at hx
   have hc0:zDN r=0:=by
    unfold zDN
    cases hy:bl r with
    |nil=>rfl
    |cons x l=>
     rw [hy] at hx
     simp at hx
     rw [zFO,hx]
     rfl
   have hpos:0<r.size:=by
    rw [←hlr]
    cases hy:bl r with
    |nil=>rw [hy] at hx; simp at hx
    |cons x l=>simp
   have h2:zMR r=some zeroV:=by
    unfold zMR
    have:seq (zFr r) (bs [])=true:=by
     rw [zF9,zFl,zFr,xM,hc0]
     simp
    rw [this]
    rfl
   rw [h2]
   simp only [if_true]
   rw [s1,zDs _ (by rw [extract_size (by omega) (Nat.le_refl _)]; omega)]
   simp only [qA]
   have hH:zHE r=(if (PV (r.extract 1 r.size)).Code !=0 then none else some (PV (r.extract 1 r.size)).Version):=by
    unfold zHE
    rw [if_pos (by omega),hc0]
   rw [hH]
   cases (PV (r.extract 1 r.size)).Code !=0
   ·simp only [qD,if_false,qA,Fl.go,zDM,Bool.not_true]
    exact fin' zeroV (PV (r.extract 1 r.size)).Version
   ·rfl
 ·
  have hx:=hb
  rw [zFd,b2] at hx
  simp only [qM] at hx
  have hr2:2≤r.size:=by
   have:=congrArg List.length hx
   simp at this
   omega
  simp only [if_true]
  rw [s2]
  generalize hq:r.extract 2 r.size=q
  have hbq:bl q=(bl r).drop 2:=by
   rw [←hq,xM]
   rw [List.take_of_length_le (by simp; omega)]
  have hqs:q.size=r.size-2:=by rw [←hq,extract_size hr2 (Nat.le_refl _)]
  have hbr:bl r=62::61::bl q:=by
   rw [hbq]
   have:=List.take_append_drop 2 (bl r)
   rw [show (bl r).take 2=[62,61] from hx] at this
   exact this.symm
  have hcut:zDN r=zDN q+2:=by
   unfold zDN
   rw [hbr,zFO,zFO]
   simp [zH4]
  have hcq:=zMr q
  have hix:strings_IndexByte q 60=some (if zDN q=q.size then-1 else (zDN q:Int)):=by
   unfold strings_IndexByte
   have:=zIk 60 q.data.toList
   rw [zJw] at this
   have e60:(60:Int).toNat.toUInt8 =60:=rfl
   rw [e60,this]
   rfl
  rw [hix]
  simp only [qA]
  have hv33:(if decide ((if zDN q=q.size then (-1:Int) else (zDN q:Int))<0) then (some (q.size:Int)) else some (if zDN q=q.size then (-1:Int) else (zDN q:Int)))=some (zDN q:Int):=by
   by_cases e:zDN q=q.size
   ·rw [if_pos e,if_pos (by decide),e]
   ·rw [if_neg e,if_neg (by simp)]
  rw [hv33]
  simp only [qA]
  have e3:zFt q 0 (zDN q:Int)=some (q.extract 0 (zDN q)):=zDy (Nat.zero_le _) hcq
  have e4:zFt q (zDN q:Int) (q.size:Int)=some (q.extract (zDN q) q.size):=zDy hcq (Nat.le_refl _)
  rw [e3]
  simp only [qA]
  rw [zDs _ (by rw [extract_size (Nat.zero_le _) hcq]; omega)]
  simp only [qA]
  rw [e4]
  simp only [qA]
  have hlt:zFr r=bs [62,61]++q.extract 0 (zDN q):=by
   refine zEX.1 ?_
   rw [zFr,xM,xE,xM,hbr,hcut,b2]
   rfl
  have hls:(zFr r).size =zDN q+2:=by
   rw [hlt,xS,s2,extract_size (Nat.zero_le _) hcq]
   omega
  have hlow:zMR r=(if (PV (q.extract 0 (zDN q))).Code !=0 then none else some (PV (q.extract 0 (zDN q))).Version):=by
   have hs0:seq (zFr r) (bs [])=false:=by
    cases hs:seq (zFr r) (bs []) with
    |false=>rfl
    |true=>
     have:=congrArg ByteArray.size (zET.1 hs)
     have hz:(bs []).size =0:=rfl
     omega
   have ha:seq ((zFr r).extract 0 2) (bs [62,61])=true:=by
    rw [zF9,xM,hlt,xE,b2]
    simp
   have hc:(zFr r).extract 2 (zFr r).size =q.extract 0 (zDN q):=by
    refine zEX.1 ?_
    rw [xM,hls,hlt,xE,b2]
    simp only [List.cons_append,List.nil_append,List.drop_succ_cons,List.drop_zero,Nat.add_sub_cancel]
    rw [List.take_of_length_le]
    rw [zO,extract_size (Nat.zero_le _) hcq]
    omega
   unfold zMR
   rw [hs0,ha,hc,if_neg (by simp),if_neg (by simp; omega)]
  have hhigh:zHE r=(if zDN q<q.size then (if (PV (q.extract (zDN q+1) q.size)).Code !=0 then none else some (PV (q.extract (zDN q+1) q.size)).Version) else some zJQ):=by
   have hc:r.extract (zDN r+1) r.size=q.extract (zDN q+1) q.size:=by
    refine zEX.1 ?_
    rw [xM,xM,hbr,hcut,hqs]
    rw [show zDN q+2+1=(zDN q+1)+1+1 by omega]
    simp only [List.drop_succ_cons]
    congr 1
    omega
   unfold zHE
   rw [hc]
   by_cases e:zDN q<q.size
   ·rw [if_pos (by omega),if_pos e]
   ·rw [if_neg (by omega),if_neg e]
  rw [hlow,hhigh]
  cases hv:(PV (q.extract 0 (zDN q))).Code !=0
  case true=>
   simp only [if_true]
   split<;>rename_i hh1 hh2
   ·cases hh2
   ·rfl
  simp only [qD,if_false,qA,Fl.go]
  generalize hw:q.extract (zDN q) q.size=w
  have hbw:bl w=(bl q).drop (zDN q):=by
   rw [←hw,xM,List.take_of_length_le]
   rw [List.length_drop,zO]
   exact Nat.le_refl _
  have hws:w.size=q.size-zDN q:=by rw [←hw,extract_size hcq (Nat.le_refl _)]
  by_cases hlt2:zDN q<q.size
  ·have hhead:(bl q)[zDN q]? =some 60:=by
    have key:∀(l:List Int),tw zH4 l<l.length→l[tw zH4 l]? =some 60:=by
     intro l
     induction l with
     |nil=>intro h; simp [tw] at h
     |cons x l ih=>
      intro h
      rw [zFO] at h ⊢
      cases hx:zH4 x
      ·unfold zH4 at hx
       simp at hx
       rw [hx]
       simp
      ·rw [hx] at h
       simp only [if_true,List.length_cons] at h ⊢
       rw [List.getElem?_cons_succ]
       exact ih (by omega)
    exact key (bl q) (by rw [zO]; exact hlt2)
   have hbeg:begins w (bs [60])=true:=by
    rw [zFd,b1,hbw]
    have:((bl q).drop (zDN q)).take 1=[60]:=by
     obtain ⟨hi,hv⟩:=List.getElem?_eq_some_iff.1 hhead
     rw [List.drop_eq_getElem_cons hi,hv]
     rfl
    simpa using this
   rw [hbeg,if_pos hlt2]
   simp only [if_true]
   have he:w.extract (bs [60]).size w.size=q.extract (zDN q+1) q.size:=by
    refine zEX.1 ?_
    rw [xM,xM,hbw,s1,List.drop_drop,hws]
    congr 1
   rw [he,zDs _ (by rw [extract_size (by omega) (Nat.le_refl _)]; omega)]
   simp only [qA]
   cases hv2:(PV (q.extract (zDN q+1) q.size)).Code !=0
   ·simp only [qD,if_false,qA,Fl.go,zDM,Bool.not_true]
    exact fin' (PV (q.extract 0 (zDN q))).Version (PV (q.extract (zDN q+1) q.size)).Version
   ·rfl
  ·have hbw0:bl w=[]:=by
    rw [hbw,List.drop_eq_nil_of_le]
    rw [zO]
    omega
   have hbeg:begins w (bs [60])=false:=by
    rw [zFd,b1,hbw0]
    rfl
   have hsw:seq w (bs [])=true:=by
    rw [zF9,zFl,hbw0]
    rfl
   rw [hbeg,if_neg hlt2]
   simp only [qD,if_false,qA,Fl.go]
   rw [hsw]
   exact fin' (PV (q.extract 0 (zDN q))).Version zJQ
theorem zPd {s:ByteArray} (h:(PTm s).Code =0):TF (PTm s).Term =0:=by
 unfold PTm at h ⊢
 split at h
 ·simp [zMz] at h
 ·rename_i h1
  rw [if_neg h1]
  split at h
  ·unfold zRk at h ⊢
   split at h
   ·rename_i h2
    simp only [zMz] at h
    rw [h] at h2
    simp at h2
   ·rename_i h2
    rw [if_neg h2]
    simpa using h2
  ·simp [zMz] at h
def zF6 (out:List Term) (t:Term):Bool:=out.any (fun o=>seq o.Name t.Name)
def jE:List Term→List Term→Bool
 |_,[]=>false
 |out,t::l=>zF6 out t||jE (out++[t]) l
def zIm:List ByteArray→Option (List Term)
 |[]=>some []
 |s::l=>if (PTm s).Code !=0 then none else (zIm l).map ((PTm s).Term :: ·)
def zJB (s:ByteArray):Option (List Term):=match zIm (zAW s) with
 |none=>none
 |some l=>if l.length≤8∧jE [] l=false∧zFE l=s then some l else none
theorem zJd:∀{ps:List ByteArray} {l:List Term},zIm ps=some l→(∀t∈l,TF t=0)∧l.length=ps.length
 |[],l,h=>by cases h; simp
 |p::ps,l,h=>by
  simp only [zIm] at h
  split at h
  ·cases h
  ·rename_i h1
   obtain ⟨l',e,rfl⟩:=Option.map_eq_some_iff.1 h
   obtain ⟨h2,h3⟩:=zJd e
   refine ⟨fun t ht=>?_,by simp [h3]⟩
   rcases List.mem_cons.1 ht with rfl|ht
   ·exact zPd (by simpa using h1)
   ·exact h2 t ht
def goR:List Term→List ByteArray→Fl (List Term×Bool) (List Term)
 |out,[]=>.nxt out
 |out,s::ps=>if (PTm s).Code !=0 then .ret (out,false) else if zF6 out (PTm s).Term then .ret (out,false) else goR (out++[(PTm s).Term]) ps
theorem zQo:∀(ps:List ByteArray) (out:List Term),match zIm ps with
  |none=>∃o,goR out ps= .ret (o,false)
  |some l=>(jE out l=true→∃o,goR out ps= .ret (o,false))∧(jE out l=false→goR out ps= .nxt (out++l))
 |[],out=>by simp [zIm,jE,goR]
 |s::ps,out=>by
  have ih:=zQo ps (out++[(PTm s).Term])
  simp only [zIm,goR]
  cases h:(PTm s).Code !=0
  ·simp only [qD,if_false]
   cases hr:zIm ps with
   |none=>
    rw [hr] at ih
    simp only [Option.map_none]
    cases zF6 out (PTm s).Term
    ·exact ih
    ·exact ⟨out,rfl⟩
   |some l=>
    rw [hr] at ih
    simp only [Option.map_some,jE]
    cases zF6 out (PTm s).Term
    ·simp only [Bool.false_or,qD,if_false]
     refine ⟨ih.1,fun h2=>?_⟩
     rw [ih.2 h2,List.append_assoc]
     rfl
    ·exact ⟨fun _=>⟨out,rfl⟩,fun h2=>by simp at h2⟩
  ·exact ⟨out,rfl⟩
theorem zOe {R:Type} (out:List Term) (n:ByteArray) (r:R) (h:out.length≤1048576) {b:Int→Option (Lp Int (Fl R Unit))}
  (hs:∀(i:Nat) (hi:i<out.length),b (i:Int)=some (if seq out[i].Name n then .done (.ret r) else .go ((i+1:Nat):Int))) (he:b (out.length:Int)=some (.done (.nxt ()))):
  loop b 0=some (if out.any (fun o=>seq o.Name n) then .ret r else .nxt ()):=by
 have key:=xZ out (fun _ o=>if seq o.Name n then some r else none) (b:=b) (fun i hi=>by
  rw [hs i hi]
  cases seq out[i].Name n<;>rfl) he
 rw [key,zF8]
 cases out.any (fun o=>seq o.Name n)<;>rfl
theorem zId (s:ByteArray) (ps:List ByteArray) (hps:∀p∈ps,p.size≤1048577) (hl:ps.length≤100000):∀(k i:Nat) (out:List Term),i+k=ps.length→out.length≤i→loop (zBL s ps) (out,(i:Int))=some (goR out (ps.drop i))
 |0,i,out,hk,ho=>by
  have e:i=ps.length:=by omega
  subst e
  rw [wO]
  unfold zBL
  rw [if_neg (by simp),List.drop_length]
  rfl
 |k+1,i,out,hk,ho=>by
  have hi:i<ps.length:=by omega
  have ih:=zId s ps hps hl k (i+1) (out++[(PTm ps[i]).Term]) (by omega) (by simp; omega)
  rw [wO,List.drop_eq_getElem_cons hi]
  conv=>lhs; unfold zBL
  rw [if_pos (by simp; omega),zL hi]
  simp only [qA,zJN _ (hps _ (qE hi)),goR]
  cases h:(PTm ps[i]).Code !=0
  ·simp only [qD,if_false]
   have key:=zOe out (PTm ps[i]).Term.Name (out,false) (by omega) (b:=zBN s ps (out,(i:Int)) (PTm ps[i])) (by
    intro j hj
    unfold zBN
    rw [if_pos (by simp; omega)]
    simp only
    rw [zL hj]
    simp only [qA]
    rw [zM (by omega)]
    cases seq out[j].Name (PTm ps[i]).Term.Name <;>rfl) (by
    unfold zBN
    rw [if_neg (by simp)])
   unfold zC5
   rw [key]
   have:out.any (fun o=>seq o.Name (PTm ps[i]).Term.Name)=zF6 out (PTm ps[i]).Term :=rfl
   rw [this]
   cases zF6 out (PTm ps[i]).Term
   ·simp only [qD,if_false,qA,Fl.go]
    rw [wY (by simp; omega) (by simp; omega),zM (by omega)]
    simp only [qA,Lp.elim]
    exact ih
   ·rfl
  ·rfl
theorem zIb (s:ByteArray) (h:s.size≤90000):∃o,zDe s=some (match zJB s with|some l=>(l,true)|none=>(o,false)):=by
 have hlen:=zKn s
 have hsz:∀p∈zAW s,p.size≤1048577:=fun p hp=>by have:=zJm s p hp; omega
 have key:=zId s (zAW s) hsz (by omega) (zAW s).length 0 [] (by omega) (by simp)
 rw [List.drop_zero,show ((0:Nat):Int)=0 from rfl] at key
 unfold zDe
 rw [zFw s (by omega)]
 simp only [qA]
 unfold zC6
 rw [key]
 have hg:=zQo (zAW s) []
 unfold zJB
 cases hr:zIm (zAW s) with
 |none=>
  rw [hr] at hg
  obtain ⟨o,e⟩:=hg
  rw [e]
  exact ⟨o,rfl⟩
 |some l=>
  rw [hr] at hg
  simp only at hg ⊢
  cases ha:jE [] l
  ·have hg:=hg.2 ha
   simp only [List.nil_append] at hg
   rw [hg]
   simp only [qA,Fl.go,true_and]
   obtain ⟨h1,h2⟩:=zJd hr
   by_cases h8:l.length≤8
   ·rw [if_pos (by simp; omega),zJ9 l (by omega) h1]
    simp only [qA,h8,true_and]
    by_cases he:zFE l=s
    ·rw [if_pos he,he,zDM]
     exact ⟨[],rfl⟩
    ·rw [if_neg he]
     have:seq (zFE l) s=false:=by
      rw [seq_eq]; simpa using he
     rw [this]
     exact ⟨l,rfl⟩
   ·rw [if_neg (by simp; omega),if_neg (fun e=>h8 e.1)]
    exact ⟨l,rfl⟩
  ·obtain ⟨o,e⟩:=hg.1 ha
   rw [e,if_neg (by simp)]
   exact ⟨o,rfl⟩
theorem zH0 (l:List Term) (h:l.length≤100000):∀(k i:Nat),i+k=l.length→loop (kC l) (i:Int)=some (if jE (l.take i) (l.drop i) then .ret true else .nxt ())
 |0,i,hk=>by
  have e:i=l.length:=by omega
  subst e
  rw [wO]
  unfold kC
  rw [if_neg (by simp),List.drop_length]
  rfl
 |k+1,i,hk=>by
  have hi:i<l.length:=by omega
  have ih:=zH0 l h k (i+1) (by omega)
  have hb:kC l (i:Int)=some (if zF6 (l.take i) l[i] then .done (.ret true) else .go ((i+1:Nat):Int)):=by
   unfold kC
   rw [if_pos (by simp; omega),zL hi]
   simp only [qA]
   have e0:zGp l ((0:Nat):Int) (i:Int)=some ((l.drop 0).take (i-0)):=zFQ (Nat.zero_le _) (by omega)
   rw [show ((0:Nat):Int)=0 from rfl,List.drop_zero,Nat.sub_zero] at e0
   rw [e0]
   simp only [qA]
   have ec:zV (l.take i) l[i]=some (zF6 (l.take i) l[i]):=by
    have key:=xZ (l.take i) (fun j o=>if seq o.Name l[i].Name then some (j:Int) else none) (b:=yJ (l.take i) l[i]) (by
     intro j hj
     have hj':j<i:=by simp at hj; omega
     unfold yJ zBz
     rw [if_pos (show decide ((j:Int)< ((l.take i).length :Int))=true by rw [qM]; omega),zL hj]
     simp only [qA]
     rw [zM (by omega)]
     cases seq (l.take i)[j].Name l[i].Name <;>rfl) (by
     unfold yJ
     rw [if_neg (by simp)])
    unfold zV yD yK
    rw [key,zDx]
    unfold zF6
    rw [←zG7 (zEl (fun o=>seq o.Name l[i].Name) (l.take i) 0)]
    cases xU (fun j o=>if seq o.Name l[i].Name then some (j:Int) else none) 0 (l.take i)<;>rfl
   rw [ec]
   simp only [qA]
   rw [zM (by omega)]
   cases zF6 (l.take i) l[i]<;>rfl
  rw [wO,hb,List.drop_eq_getElem_cons hi]
  have ea:jE (l.take i) (l[i]::l.drop (i+1))=(zF6 (l.take i) l[i]||jE (l.take i++[l[i]]) (l.drop (i+1))):=rfl
  rw [ea]
  simp only [qA]
  rw [qF hi] at ih
  by_cases ht:zF6 (l.take i) l[i]=true
  ·rw [if_pos ht,ht]
   rfl
  ·have ht':zF6 (l.take i) l[i]=false:=by simpa using ht
   rw [if_neg ht,ht',Bool.false_or]
   exact ih
theorem zKR (l:List Term) (h:l.length≤100000):zA0 l=some (jE [] l):=by
 have:=zH0 l h l.length 0 (by omega)
 unfold zA0 zBT
 rw [show ((0:Nat):Int)=0 from rfl] at this
 rw [this]
 simp only [List.take_zero,List.drop_zero]
 cases jE [] l<;>rfl
theorem zQW:∀{l:List Term},(∀t∈l,TF t=0)→tsF l=0:=by
 intro l h
 unfold tsF
 have:xU (fun _ t=>if TF t !=0 then some (TF t) else none) 0 l=none:=by
  rw [zF7]
  intro j hj
  rw [h _ (qE hj)]
  rfl
 rw [this]
 rfl
theorem zNN:zJB (b2s [])=some []:=by
 have hl:zAW (b2s [])=[]:=by
  unfold zAW
  have hp:vH 10 (b2s [])=[b2s []]:=by
   unfold vH
   rw [show bl (b2s [])=[] from zQz (by simp)]
   rfl
  rw [hp,if_pos (by rfl)]
  rfl
 unfold zJB
 rw [hl]
 simp [zIm,jE,zFE,zEn]
 rfl
theorem zFH:∀{l1 l2:List Int},l1.Pairwise (· < ·)→l2.Pairwise (· < ·)→(∀x,x∈l1↔x∈l2)→l1=l2
 |[],[],_,_,_=>rfl
 |[],y::l2,_,_,h=>by have:=(h y).2 (by simp); simp at this
 |x::l1,[],_,_,h=>by have:=(h x).1 (by simp); simp at this
 |x::l1,y::l2,h1,h2,h=>by
  rw [List.pairwise_cons] at h1 h2
  have hxy:x=y:=by
   have hx:=(h x).1 (by simp)
   have hy:=(h y).2 (by simp)
   rcases List.mem_cons.1 hx with e|hx
   ·exact e
   ·rcases List.mem_cons.1 hy with e|hy
    ·exact e.symm
    ·have:=h1.1 y hy
     have:=h2.1 x hx
     omega
  subst hxy
  congr 1
  refine zFH h1.2 h2.2 fun z=>?_
  constructor
  ·intro hz
   rcases List.mem_cons.1 ((h z).1 (List.mem_cons_of_mem _ hz)) with e|hz'
   ·have:=h1.1 z hz; omega
   ·exact hz'
  ·intro hz
   rcases List.mem_cons.1 ((h z).2 (List.mem_cons_of_mem _ hz)) with e|hz'
   ·have:=h2.1 z hz; omega
   ·exact hz'
theorem zFZ {l:List Int} (h:l.Pairwise (· < ·)) {i j:Nat} (hi:i<l.length) (hj:j<l.length) (hij:i<j):l[i]<l[j]:=List.pairwise_iff_getElem.1 h i j hi hj hij
theorem zMP (l:List Int) (v:Int) (hs:l.Pairwise (· < ·)) (hv:v∉l) (hl:l.length≤1048576):
  ∃r,zCo l v=some r∧r.Pairwise (· < ·)∧(∀x,x∈r↔x∈l∨x=v)∧r.length=l.length+1:=by
 obtain ⟨⟨acc,inn⟩,e,h1,h2,h3,h4⟩:=xO (b:=zD7 l v)
  (fun i s=>s.2.2=(i:Int)∧s.1.Pairwise (· < ·)∧(∀x,x∈s.1↔x∈l.take i∨(s.2.1=true∧x=v))∧s.1.length=i+(if s.2.1 then 1 else 0)∧(s.2.1=false→∀x∈l.take i,x<v)∧(s.2.1=true→∀x∈l.drop i,v<x)) l.length
  (fun t=>t.1.Pairwise (· < ·)∧(∀x,x∈t.1↔x∈l∨(t.2=true∧x=v))∧t.1.length=l.length+(if t.2 then 1 else 0)∧(t.2=false→∀x∈l,x<v)) (by
  rintro i ⟨acc,inn,j⟩ hi ⟨hj,hp,hm,hlen,hf,ht⟩
  simp only at hj hp hm hlen hf ht
  subst hj
  have hlt:∀x∈l.take i,x<l[i]:=by
   intro x hx
   obtain ⟨k,hk,rfl⟩:=List.mem_iff_getElem.1 hx
   rw [List.getElem_take]
   have:k<i:=by simp at hk; omega
   exact zFZ hs (by omega) hi this
  have htk:l.take (i+1)=l.take i++[l[i]]:=qF hi
  have hdr:l.drop i=l[i]::l.drop (i+1):=List.drop_eq_getElem_cons hi
  have hne:l[i]≠v:=fun e=>hv (e▸qE hi)
  have hal:acc.length≤1048577:=by rw [hlen]; split<;>omega
  unfold zD7
  rw [if_pos (by simp; omega),zL hi]
  simp only [qA]
  rw [zM (by omega)]
  refine .inl ?_
  cases inn
  ·by_cases hgt:l[i]>v
   ·rw [if_pos (by simpa using hgt)]
    simp only [Bool.not_false,qA,if_true]
    rw [wY (by simp; omega) (by simp; omega)]
    simp only [qA]
    rw [wY (by simp; omega) (by simp; omega)]
    refine ⟨_,rfl,rfl,?_,?_,?_,by simp,?_⟩
    ·simp only
     have hav:∀x∈acc,x<v:=fun x hx=>hf rfl x (by have:=(hm x).1 hx; simpa using this)
     rw [List.pairwise_append,List.pairwise_append]
     refine ⟨⟨hp,by simp,fun x hx y hy=>by simp at hy; rw [hy]; exact hav x hx⟩,by simp,fun x hx y hy=>?_⟩
     simp at hy
     rw [hy]
     rcases List.mem_append.1 hx with hx|hx
     ·have:=hav x hx; omega
     ·simp at hx; omega
    ·intro x
     have:=hm x
     simp only [qJ,qI,htk]
     simp at this
     rw [this]
     simp
     constructor<;>(intro h; rcases h with (h|h)|h<;>simp [h])
    ·simp; simp at hlen; omega
    ·intro _ x hx
     have:l[i]<x:=by
      obtain ⟨k,hk,rfl⟩:=List.mem_iff_getElem.1 hx
      rw [List.getElem_drop]
      simp at hk
      exact zFZ hs hi (by omega) (by omega)
     omega
   ·rw [if_neg (by simpa using hgt)]
    simp only [qA,qD,if_false]
    rw [wY (by simp; omega) (by simp; omega)]
    refine ⟨_,rfl,rfl,?_,?_,?_,?_,by simp⟩
    ·simp only
     rw [List.pairwise_append]
     refine ⟨hp,by simp,fun x hx y hy=>?_⟩
     simp at hy
     rw [hy]
     have:=(hm x).1 hx
     exact hlt x (by simpa using this)
    ·intro x
     have:=hm x
     simp only [qJ,qI,htk]
     simp at this
     rw [this]
     simp
    ·simp; simp at hlen; omega
    ·intro _ x hx
     rw [htk] at hx
     rcases List.mem_append.1 hx with hx|hx
     ·exact hf rfl x hx
     ·simp at hx; omega
  ·have hlv:v<l[i]:=ht rfl _ (by rw [hdr]; exact List.mem_cons_self)
   rw [if_pos (by simpa using hlv)]
   simp only [Bool.not_true,qA,qD,if_false]
   rw [wY (by simp; omega) (by simp; omega)]
   refine ⟨_,rfl,rfl,?_,?_,?_,by simp,?_⟩
   ·simp only
    rw [List.pairwise_append]
    refine ⟨hp,by simp,fun x hx y hy=>?_⟩
    simp at hy
    rw [hy]
    rcases (hm x).1 hx with hx|⟨_,hx⟩
    ·exact hlt x hx
    ·omega
   ·intro x
    have:=hm x
    simp only [qJ,qI,htk]
    rw [this]
    simp
    constructor<;>(intro h; rcases h with (h|h)|h<;>simp [h])
   ·simp; simp at hlen; omega
   ·intro _ x hx
    exact ht rfl x (by rw [hdr]; exact List.mem_cons_of_mem _ hx)) (by
  rintro ⟨acc,inn,j⟩ ⟨hj,hp,hm,hlen,hf,ht⟩
  simp only at hj hp hm hlen hf ht
  subst hj
  unfold zD7
  rw [if_neg (by simp)]
  rw [List.take_length] at hm hf
  exact ⟨_,rfl,hp,hm,hlen,hf⟩) l.length 0 (([]:List Int),false,0) (by omega) ⟨rfl,by simp,by simp,by simp,by simp,by simp⟩
 simp only at h1 h2 h3 h4
 unfold zCo zEr
 rw [e]
 simp only [qA]
 cases inn
 ·simp only [Bool.not_false,if_true]
  simp at h3
  rw [wY (by simp; omega) (by simp; omega)]
  refine ⟨_,rfl,?_,?_,by simp; omega⟩
  ·rw [List.pairwise_append]
   refine ⟨h1,by simp,fun x hx y hy=>?_⟩
   simp at hy
   rw [hy]
   have:=(h2 x).1 hx
   exact h4 rfl x (by simpa using this)
  ·intro x
   have:=h2 x
   simp at this
   simp [this]
 ·refine ⟨_,rfl,h1,?_,by simpa using h3⟩
  intro x
  have:=h2 x
  simpa using this
def zEj (s:ByteArray):List ByteArray:=(vH 32 s).filter (fun w=> !(seq w (bs [])))
theorem zIJ (c:Int) (s:ByteArray):∀p∈vH c s,p.size≤s.size:=by
 intro p hp
 have hb:bl p∈zF0 c (bl s):=by
  rw [←zIA]
  exact List.mem_map_of_mem hp
 have:=zIQ c (bl s) _ hb
 rw [zO,zO] at this
 exact this
theorem zM4 (s:ByteArray):∀p∈zEj s,p.size≤s.size:=fun p hp=>zIJ 32 s p (List.mem_filter.1 hp).1
theorem zL9 (s:ByteArray) (h:s.size≤1048577):zCZ s=some (zEj s):=by
 have hl:=zG3 32 s
 have key:=zEB (vH 32 s) (fun _ l w=>if !(seq w (bs [])) then l++[w] else l) (fun i l=>l.length≤i) (b:=zBO (vH 32 s)) (by
  intro i l hi hI
  unfold zBO
  rw [if_pos (by simp; omega)]
  simp only
  rw [zL hi]
  simp only [qA]
  rw [wY (by simp; omega) (by simp; omega),zM (by omega)]
  cases seq (vH 32 s)[i] (bs [])
  ·exact ⟨rfl,by simp; omega⟩
  ·exact ⟨rfl,by simp; omega⟩) (by
  intro l
  unfold zBO
  rw [if_neg (by simp)]) (vH 32 s).length 0 [] (by omega) (by simp)
 unfold zCZ
 rw [zGg s 32 h]
 simp only [qA]
 unfold zDm
 rw [show ((0:Nat):Int)=0 from rfl] at key
 rw [key.1,List.drop_zero,zHV (fun w=> !(seq w (bs [])))]
 rfl
def zAw (c:List Pack) (w:List ByteArray):Int:=if w.length≠2 then-1 else if (PV (w.getD 1 (bs []))).Code !=0 then-1 else zGR c (w.getD 0 (bs [])) (PV (w.getD 1 (bs []))).Version
theorem zIa (c:List Pack) (w:List ByteArray):zAw c w= -1∨(0≤zAw c w∧zAw c w<c.length):=by
 unfold zAw
 split
 ·exact .inl rfl
 ·split
  ·exact .inl rfl
  ·exact zMn _ _ _
theorem zKK (c:List Pack) (w:List ByteArray) (hc:c.length≤1048576) (hw:∀p∈w,p.size≤1048577):zB3 c w=some (zAw c w):=by
 unfold zB3 zAw
 match w,hw with
 |[],_=>rfl
 |[_],_=>rfl
 |[x,y],hw=>
  have e0:idx [x,y] 0=some x:=rfl
  have e1:idx [x,y] 1=some y:=rfl
  rw [if_neg (by simp),e1,e0]
  simp only [qA,zDs y (hw y (by simp))]
  rw [if_neg (show ¬([x,y].length ≠2) by simp)]
  show (if (PV y).Code !=0 then some (-1) else _)=some (if (PV y).Code !=0 then-1 else zGR c x (PV y).Version)
  rw [zKo c x _ hc]
  cases (PV y).Code !=0<;>rfl
 |_::_::_::r,_=>
  rw [if_pos (by simp; omega),if_pos (by simp)]
theorem zMa (c:List Pack) (w:List ByteArray) (hc:c.length≤1048576) (hw:∀p∈w,p.size≤1048577):(if (w.length:Int)==2 then ((idx w 1).bind fun x36=>(xD x36).bind fun x38=>if x38.Code==0 then ((idx w 0).bind fun x41=>(uV c x41 x38.Version).bind fun x43=>some x43) else (some (-1))) else (some (-1)))=some (zAw c w):=by
 unfold zAw
 match w,hw with
 |[],_=>rfl
 |[_],_=>rfl
 |[x,y],hw=>
  have e0:idx [x,y] 0=some x:=rfl
  have e1:idx [x,y] 1=some y:=rfl
  rw [if_pos (by simp),e1,e0]
  simp only [qA,zE9 y (hw y (by simp))]
  rw [if_neg (show ¬([x,y].length ≠2) by simp)]
  show (if (PV y).Code ==0 then _ else some (-1))=some (if (PV y).Code !=0 then-1 else zGR c x (PV y).Version)
  rw [zHC c x _ hc,bne]
  cases (PV y).Code ==0<;>rfl
 |_::_::_::r,_=>
  rw [if_neg (by simp; omega),if_pos (by simp)]
def zHU (c:List Pack):Nat→List Int→List ByteArray→Fl wB (List Int)
 |_,out,[]=>.nxt out
 |i,out,s::ps=>if zAw c (zEj s)<0∨zAw c (zEj s)∈out then .ret {Code:=5,At:=i,Set:=[]} else zHU c (i+1) (out++[zAw c (zEj s)]) ps
def zSQ (t:Fl wB (List Int)):wB:=match t with
 | .ret r=>r
 | .nxt l=> {Code:=0,At:=0,Set:=l.mergeSort (fun x y=>decide (x≤y))}
def PS (c:List Pack) (s:ByteArray):wB:=if s.size>4000 then {Code:=2,At:=0,Set:=[]} else zSQ (zHU c 0 [] (zAW s))
theorem zFM (c:List Pack):∀(ps:List ByteArray) (i:Nat) (out:List Int),out.Nodup→(∀k∈out,0≤k∧k<c.length)→match zHU c i out ps with
  | .ret r=>r.Code=5∧r.Set=[]
  | .nxt l=>l.Nodup∧(∀k∈l,0≤k∧k<c.length)
 |[],_,out,h1,h2=>⟨h1,h2⟩
 |s::ps,i,out,h1,h2=>by
  simp only [zHU]
  split
  ·rename_i h
   split at h
   ·cases h; exact ⟨rfl,rfl⟩
   ·rename_i hn
    rw [not_or] at hn
    have:=zFM c ps (i+1) (out++[zAw c (zEj s)]) (by
     rw [List.nodup_append]
     refine ⟨h1,by simp,fun a ha b hb=>?_⟩
     simp only [qI] at hb
     subst hb
     intro e
     subst e
     exact hn.2 ha) (by
     intro k hk
     rcases List.mem_append.1 hk with hk|hk
     ·exact h2 k hk
     ·simp only [qI] at hk
      subst hk
      rcases zIa c (zEj s) with h|h
      ·omega
      ·exact h)
    rw [h] at this
    exact this
  ·rename_i l h
   split at h
   ·cases h
   ·rename_i hn
    rw [not_or] at hn
    have:=zFM c ps (i+1) (out++[zAw c (zEj s)]) (by
     rw [List.nodup_append]
     refine ⟨h1,by simp,fun a ha b hb=>?_⟩
     simp only [qI] at hb
     subst hb
     intro e
     subst e
     exact hn.2 ha) (by
     intro k hk
     rcases List.mem_append.1 hk with hk|hk
     ·exact h2 k hk
     ·simp only [qI] at hk
      subst hk
      rcases zIa c (zEj s) with h|h
      ·omega
      ·exact h)
    rw [h] at this
    exact this
theorem zOK {l:List Int} (h:l.Nodup):(l.mergeSort (fun x y=>decide (x≤y))).Pairwise (· < ·)∧∀x,x∈l.mergeSort (fun x y=>decide (x≤y))↔x∈l:=by
 have hp:(l.mergeSort (fun x y=>decide (x≤y))).Perm l:=List.mergeSort_perm _ _
 have hs:(l.mergeSort (fun x y=>decide (x≤y))).Pairwise (fun x y=>(decide (x≤y))=true):=List.pairwise_mergeSort (fun a b c h1 h2=>by simp at h1 h2 ⊢; omega) (fun a b=>by simp; omega) l
 have hn:(l.mergeSort (fun x y=>decide (x≤y))).Nodup :=hp.nodup_iff.2 h
 refine ⟨?_,fun x=>hp.mem_iff⟩
 rw [List.pairwise_iff_getElem] at hs ⊢
 intro i j hi hj hij
 have h1:=hs i j hi hj hij
 have h2:=(List.pairwise_iff_getElem.1 hn) i j hi hj hij
 simp only [qM] at h1
 omega
theorem zQb (c:List Pack) (s:ByteArray):(((PS c s).Code =2∨(PS c s).Code =5)∧(PS c s).Set =[])∨(PS c s).Code =0∧(PS c s).At =0∧(PS c s).Set.Pairwise (· < ·)∧∀k∈(PS c s).Set,0≤k∧k<c.length:=by
 have key:∀r,r=PS c s→((r.Code=2∨r.Code=5)∧r.Set=[])∨r.Code=0∧r.At=0∧r.Set.Pairwise (· < ·)∧∀k∈r.Set,0≤k∧k<c.length:=by
  intro r hr
  unfold PS at hr
  split at hr
  ·subst hr
   exact .inl ⟨.inl rfl,rfl⟩
  ·have:=zFM c (zAW s) 0 [] (by simp) (by simp)
   cases h:zHU c 0 [] (zAW s) with
   |ret q=>
    rw [h] at this hr
    simp only [zSQ] at hr
    subst hr
    exact .inl ⟨.inr this.1,this.2⟩
   |nxt l=>
    rw [h] at this hr
    simp only [zSQ] at hr
    subst hr
    obtain ⟨h1,h2⟩:=zOK this.1
    exact .inr ⟨rfl,rfl,h1,fun k hk=>this.2 k ((h2 k).1 hk)⟩
 exact key _ rfl
section
variable {c:List Pack} (hc:c.length≤1048576)
include hc
theorem zIc (ps:List ByteArray) (hps:∀p∈ps,p.size≤100000) (hl:ps.length≤100000):∀(k i:Nat) (S out:List Int),i+k=ps.length→out.length≤i→S.length≤i→S.Pairwise (· < ·)→(∀x,x∈S↔x∈out)→
  ∃t,loop (zAj c ps) (S,(i:Int))=some t∧match zHU c i out (ps.drop i) with
   | .ret r=>t= .ret r
   | .nxt l=>∃S',t= .nxt S'∧S'.Pairwise (· < ·)∧∀x,x∈S'↔x∈l
 |0,i,S,out,hk,ho,hS,h1,h2=>by
  have e:i=ps.length:=by omega
  subst e
  rw [wO]
  unfold zAj
  rw [if_neg (by simp),List.drop_length]
  exact ⟨_,rfl,S,rfl,h1,h2⟩
 |k+1,i,S,out,hk,ho,hS,h1,h2=>by
  have hi:i<ps.length:=by omega
  have hm:=qE hi
  have hw:=zM4 ps[i]
  have hps1:=hps _ hm
  have hb:zAj c ps (S,(i:Int))=if zAw c (zEj ps[i])<0∨zAw c (zEj ps[i])∈S then some (.done (.ret {Code:=5,At:=i,Set:=[]})) else (zCo S (zAw c (zEj ps[i]))).bind fun x51=>some (.go (x51,((i+1:Nat):Int))):=by
   unfold zAj
   rw [if_pos (by simp; omega),zL hi]
   simp only [qA,zL9 _ (show ps[i].size ≤1048577 by omega)]
   rw [zMa c _ hc (fun p hp=>by have:=hw p hp; omega)]
   simp only [qA]
   by_cases hneg:zAw c (zEj ps[i])<0
   ·rw [if_pos (by simpa using hneg),if_pos (.inl hneg)]
    rfl
   ·rw [if_neg (by simpa using hneg),zFa S _ (by omega),zM (by omega)]
    simp only [qA]
    by_cases hmem:zAw c (zEj ps[i])∈S
    ·rw [if_pos (by simpa using hmem),if_pos (.inr hmem)]
    ·rw [if_neg (by simpa using hmem),if_neg (by rw [not_or]; exact ⟨hneg,hmem⟩)]
  rw [wO,hb,List.drop_eq_getElem_cons hi]
  simp only [zHU]
  by_cases hbad:zAw c (zEj ps[i])<0∨zAw c (zEj ps[i])∈out
  ·rw [if_pos hbad,if_pos (by rw [h2]; exact hbad)]
   exact ⟨_,rfl,rfl⟩
  ·have hbad2:¬(zAw c (zEj ps[i])<0∨zAw c (zEj ps[i])∈S):=by rw [h2]; exact hbad
   rw [if_neg hbad,if_neg hbad2]
   obtain ⟨r,er,r1,r2,r3⟩:=zMP S (zAw c (zEj ps[i])) h1 (fun h=>hbad2 (.inr h)) (by omega)
   rw [er]
   simp only [qA,Lp.elim]
   refine zIc ps hps hl k (i+1) r (out++[zAw c (zEj ps[i])]) (by omega) (by simp; omega) (by omega) r1 (fun x=>?_)
   rw [r2,h2,qJ,qI]
end
section
variable {c:List Pack} (hc:c.length≤1048576)
include hc
theorem zLG (s:ByteArray) (h:s.size≤90000):zC4 c s=some (PS c s):=by
 unfold zC4 PS
 by_cases h4:s.size>4000
 ·rw [if_pos (by simp; omega),if_pos h4]
 ·rw [if_neg (by simp; omega),if_neg h4,zFw s (by omega)]
  simp only [qA]
  have hlen:=zKn s
  obtain ⟨t,e,ht⟩:=zIc hc (zAW s) (fun p hp=>by have:=zJm s p hp; omega) (by omega) (zAW s).length 0 [] [] (by omega) (by simp) (by simp) (by simp) (by simp)
  rw [List.drop_zero] at ht
  unfold zC3
  rw [show ((0:Nat):Int)=0 from rfl] at e
  rw [e]
  have hg:=zFM c (zAW s) 0 [] (by simp) (by simp)
  cases hr:zHU c 0 [] (zAW s) with
  |ret r=>
   rw [hr] at ht
   simp only at ht
   subst ht
   rfl
  |nxt l=>
   rw [hr] at ht hg
   obtain ⟨S',rfl,h1,h2⟩:=ht
   obtain ⟨g1,g2⟩:=zOK hg.1
   have:S'=l.mergeSort (fun x y=>decide (x≤y)):=zFH h1 g1 (fun x=>by rw [h2,g2])
   subst this
   rfl
end
theorem zNL {l:List Int} {n:Int} (hp:l.take 4=zRp) (hl:4≤l.length) (h:zGy l=some n):l=zRN n∧1≤n∧n≤999999:=by
 unfold zGy at h
 cases hn:zKp (l.drop 4) 6 with
 |none=>rw [hn] at h; cases h
 |some m=>
  rw [hn] at h
  simp only at h
  split at h
  ·rename_i hc
   cases h
   have e:=(zOH hp hl hn).2 hc
   by_cases hr:1≤n∧n≤999999
   ·rw [if_pos hr] at e
    refine ⟨?_,hr⟩
    have hpd:=zKO 5 n.toNat (by omega)
    rw [show 10^(5+1)+n.toNat=1000000+n.toNat by omega] at hpd
    rw [←e,hpd]
    rfl
   ·rw [if_neg hr] at e
    rw [←e] at hc
    simp at hc
  ·cases h
theorem zOq {fs:List File} {n:Int} (h:n∈zGN fs):(∃f∈fs,f.Path=zQO n)∧1≤n∧n≤999999:=by
 unfold zGN at h
 obtain ⟨p,hp,hg⟩:=List.mem_filterMap.1 h
 have hb:=zJk (zJy p hp)
 rw [zO8] at hb
 obtain ⟨e,h1⟩:=zNL hb.1 hb.2 hg
 refine ⟨?_,h1⟩
 unfold kZ at hp
 obtain ⟨f,hf,rfl⟩:=List.mem_map.1 hp
 exact ⟨f,(List.mem_filter.1 hf).1,zEX.1 (e.trans (zLV n).symm)⟩
theorem zIS {c:List Pack} {a:List Int} (hC:Cat c) (hp:Places c a) (ha:a.length≤1048576):kQ c a=some (((zGe c a).length :Int)==0):=by
 unfold kQ
 rw [zIE hC hp ha]
 rfl
theorem zOC {a b:ByteArray} (h:slt a b=false) (hne:a≠b):slt b a=true:=by
 cases h2:slt b a with
 |true=>rfl
 |false=>
  have c1:¬zS6 a b<0:=fun hc=>by rw [(zQX a b).1 hc] at h; cases h
  have key:∀(x y:List UInt8),Op.bytesLess x y=false→Op.bytesLess y x=false→x=y:=by
   intro x
   induction x with
   |nil=>intro y; cases y<;>simp [Op.bytesLess]
   |cons u x ih=>
    intro y
    cases y with
    |nil=>simp [Op.bytesLess]
    |cons v y=>
     simp only [Op.bytesLess]
     intro e1 e2
     have e3:¬u<v:=fun hh=>by simp [hh] at e1
     have e4:¬v<u:=fun hh=>by simp [hh] at e2
     rw [UInt8.lt_iff_toNat_lt] at e3 e4
     have e5:u=v:=UInt8.toNat_inj.1 (by omega)
     subst e5
     simp [UInt8.lt_irrefl] at e1 e2
     rw [ih y e1 e2]
  exfalso
  apply hne
  unfold slt at h h2
  exact toList_inj (key _ _ h h2)
def ltS (a b:ByteArray):Prop:=slt a b=true
def leS (a b:ByteArray):Prop:=slt b a=false
theorem zR2 {a b:ByteArray} (h:ltS a b):leS a b:=by
 unfold leS
 cases h2:slt b a with
 |false=>rfl
 |true=>
  have h3:=zGj h h2
  rw [zKv] at h3
  cases h3
theorem zMY {a b:ByteArray} (h:ltS a b):a≠b:=fun e=>by
 subst e
 unfold ltS at h
 rw [zKv] at h
 cases h
theorem zGV:∀{l1 l2:List ByteArray},l1.Pairwise ltS→l2.Pairwise ltS→(∀x,x∈l1↔x∈l2)→l1=l2
 |[],[],_,_,_=>rfl
 |[],y::l2,_,_,h=>by have:=(h y).2 (by simp); simp at this
 |x::l1,[],_,_,h=>by have:=(h x).1 (by simp); simp at this
 |x::l1,y::l2,h1,h2,h=>by
  rw [List.pairwise_cons] at h1 h2
  have hxy:x=y:=by
   have hx:=(h x).1 (by simp)
   have hy:=(h y).2 (by simp)
   rcases List.mem_cons.1 hx with e|hx
   ·exact e
   ·rcases List.mem_cons.1 hy with e|hy
    ·exact e.symm
    ·exact absurd rfl (zMY (zGj (h1.1 y hy) (h2.1 x hx)))
  subst hxy
  congr 1
  refine zGV h1.2 h2.2 fun z=>?_
  constructor
  ·intro hz
   rcases List.mem_cons.1 ((h z).1 (List.mem_cons_of_mem _ hz)) with e|hz'
   ·exact absurd e.symm (zMY (h1.1 z hz))
   ·exact hz'
  ·intro hz
   rcases List.mem_cons.1 ((h z).2 (List.mem_cons_of_mem _ hz)) with e|hz'
   ·exact absurd e.symm (zMY (h2.1 z hz))
   ·exact hz'
theorem zJ6 (l:List ByteArray) (v:ByteArray) (hs:l.Pairwise ltS) (hl:l.length≤1048576):
  ∃r,vC l v=some r∧r.Pairwise ltS∧(∀x,x∈r↔x∈l∨x=v)∧r.length≤l.length+1:=by
 obtain ⟨t,e,ht⟩:=xO (b:=zDo l v)
  (fun i s=>s.2.2=(i:Int)∧s.1.Pairwise ltS∧(∀x,x∈s.1↔x∈l.take i∨(s.2.1=true∧x=v))∧s.1.length=i+(if s.2.1 then 1 else 0)∧(s.2.1=false→∀x∈l.take i,ltS x v)∧(s.2.1=true→∀x∈l.drop i,ltS v x)) l.length
  (fun t=>(t= .ret l∧v∈l)∨∃a b,t= .nxt (a,b)∧a.Pairwise ltS∧(∀x,x∈a↔x∈l∨(b=true∧x=v))∧a.length=l.length+(if b then 1 else 0)∧(b=false→∀x∈l,ltS x v)) (by
  rintro i ⟨acc,inn,j⟩ hi ⟨hj,hp,hm,hlen,hf,ht⟩
  simp only at hj hp hm hlen hf ht
  subst hj
  have hget:∀(i j:Nat) (hi:i<l.length) (hj:j<l.length),i<j→ltS l[i] l[j]:=fun i j hi hj h=>List.pairwise_iff_getElem.1 hs i j hi hj h
  have hlt:∀x∈l.take i,ltS x l[i]:=by
   intro x hx
   obtain ⟨k,hk,rfl⟩:=List.mem_iff_getElem.1 hx
   rw [List.getElem_take]
   have:k<i:=by simp at hk; omega
   exact hget _ _ (by omega) hi this
  have htk:l.take (i+1)=l.take i++[l[i]]:=qF hi
  have hdr:l.drop i=l[i]::l.drop (i+1):=List.drop_eq_getElem_cons hi
  have hal:acc.length≤1048577:=by rw [hlen]; split<;>omega
  unfold zDo
  rw [if_pos (by simp; omega),zL hi]
  simp only [qA]
  rw [zM (by omega)]
  by_cases heq:l[i]=v
  ·rw [if_pos (by rw [seq_eq]; simpa using heq)]
   exact .inr ⟨_,rfl,.inl ⟨rfl,heq▸qE hi⟩⟩
  ·rw [if_neg (by rw [seq_eq]; simpa using heq)]
   refine .inl ?_
   have hs2:(slt l[i] v||seq l[i] v)=slt l[i] v:=by rw [seq_eq]; simp [heq]
   rw [hs2]
   cases inn
   ·cases hgt:slt l[i] v
    ·have hvl:ltS v l[i]:=zOC hgt heq
     simp only [Bool.not_false,qA,if_true]
     rw [wY (by simp; omega) (by simp; omega)]
     simp only [qA]
     rw [wY (by simp; omega) (by simp; omega)]
     refine ⟨_,rfl,rfl,?_,?_,?_,by simp,?_⟩
     ·simp only
      have hav:∀x∈acc,ltS x v:=fun x hx=>hf rfl x (by have:=(hm x).1 hx; simpa using this)
      rw [List.pairwise_append,List.pairwise_append]
      refine ⟨⟨hp,by simp,fun x hx y hy=>by simp at hy; rw [hy]; exact hav x hx⟩,by simp,fun x hx y hy=>?_⟩
      simp at hy
      rw [hy]
      rcases List.mem_append.1 hx with hx|hx
      ·exact zGj (hav x hx) hvl
      ·simp at hx; rw [hx]; exact hvl
     ·intro x
      have:=hm x
      simp only [qJ,qI,htk]
      simp at this
      rw [this]
      simp
      constructor<;>(intro h; rcases h with (h|h)|h<;>simp [h])
     ·simp; simp at hlen; omega
     ·intro _ x hx
      have:ltS l[i] x:=by
       obtain ⟨k,hk,rfl⟩:=List.mem_iff_getElem.1 hx
       rw [List.getElem_drop]
       simp at hk
       exact hget _ _ hi (by omega) (by omega)
      exact zGj hvl this
    ·simp only [Bool.not_true,qD,if_false,qA]
     rw [wY (by simp; omega) (by simp; omega)]
     refine ⟨_,rfl,rfl,?_,?_,?_,?_,by simp⟩
     ·simp only
      rw [List.pairwise_append]
      refine ⟨hp,by simp,fun x hx y hy=>?_⟩
      simp at hy
      rw [hy]
      have:=(hm x).1 hx
      exact hlt x (by simpa using this)
     ·intro x
      have:=hm x
      simp only [qJ,qI,htk]
      simp at this
      rw [this]
      simp
     ·simp; simp at hlen; omega
     ·intro _ x hx
      rw [htk] at hx
      rcases List.mem_append.1 hx with hx|hx
      ·exact hf rfl x hx
      ·simp at hx; rw [hx]; exact hgt
   ·have hlv:ltS v l[i]:=ht rfl _ (by rw [hdr]; exact List.mem_cons_self)
    have hgt:slt l[i] v=false:=zR2 hlv
    rw [hgt]
    simp only [Bool.not_false,Bool.not_true,qA,qD,if_false,if_true]
    rw [wY (by simp; omega) (by simp; omega)]
    refine ⟨_,rfl,rfl,?_,?_,?_,by simp,?_⟩
    ·simp only
     rw [List.pairwise_append]
     refine ⟨hp,by simp,fun x hx y hy=>?_⟩
     simp at hy
     rw [hy]
     rcases (hm x).1 hx with hx|⟨_,hx⟩
     ·exact hlt x hx
     ·rw [hx]; exact hlv
    ·intro x
     have:=hm x
     simp only [qJ,qI,htk]
     rw [this]
     simp
     constructor<;>(intro h; rcases h with (h|h)|h<;>simp [h])
    ·simp; simp at hlen; omega
    ·intro _ x hx
     exact ht rfl x (by rw [hdr]; exact List.mem_cons_of_mem _ hx)) (by
  rintro ⟨acc,inn,j⟩ ⟨hj,hp,hm,hlen,hf,ht⟩
  simp only at hj hp hm hlen hf ht
  subst hj
  unfold zDo
  rw [if_neg (by simp)]
  rw [List.take_length] at hm hf
  exact ⟨_,rfl,.inr ⟨acc,inn,rfl,hp,hm,hlen,hf⟩⟩) l.length 0 (([]:List ByteArray),false,0) (by omega) ⟨rfl,by simp,by simp,by simp,by simp,by simp⟩
 unfold vC zDF
 rw [e]
 rcases ht with ⟨rfl,hv⟩|⟨acc,inn,rfl,h1,h2,h3,h4⟩
 ·refine ⟨l,rfl,hs,fun x=>⟨.inl,fun h=>h.elim id (fun e=>e▸hv)⟩,by omega⟩
 ·simp only [qA,Fl.go]
  cases inn
  ·simp only [Bool.not_false,if_true]
   simp at h3
   rw [wY (by simp; omega) (by simp; omega)]
   refine ⟨_,rfl,?_,?_,by simp; omega⟩
   ·rw [List.pairwise_append]
    refine ⟨h1,by simp,fun x hx y hy=>?_⟩
    simp at hy
    rw [hy]
    have:=(h2 x).1 hx
    exact h4 rfl x (by simpa using this)
   ·intro x
    have:=h2 x
    simp at this
    simp [this]
  ·refine ⟨_,rfl,h1,?_,by simp at h3; omega⟩
   intro x
   have:=h2 x
   simpa using this
end Go.Told

import Derived.Test.YtghacmkpcjdpjaaGreatDoorToldFnRoots
set_option linter.unusedVariables false
set_option maxRecDepth 4000
namespace Go.Told
open Go Go.Im
theorem zBn {S T:Type} {b b':S→Option (Lp S T)} (h:∀s,b s=b' s):loop b=loop b':=by
 have:b=b':=funext h
 rw [this]
theorem xZ {x:Int} (h1: -9223372036854775808≤x) (h2:x≤9223372036854775807):w64 x=x:=by
 unfold w64
 rw [IntKind.wrap_i64]
 omega
theorem wK {i:Nat} (h:i<9223372036854775807):w64 ((i:Int)+1)=((i+1:Nat):Int):=by
 rw [xZ (by omega) (by omega)]; omega
theorem kD {T:Type} {S:Type} {b:S→Option (Lp S T)} (I:Nat→S→Prop) (n:Nat) (Q:T→Prop) (hstep:∀i s,i<n→I i s→(∃s',b s=some (.go s')∧I (i+1) s')∨∃t,b s=some (.done t)∧Q t)
  (hend:∀s,I n s→∃t,b s=some (.done t)∧Q t):∀(k i:Nat) (s:S),i+k=n→I i s→∃t,loop b s=some t∧Q t
 |0,i,s,hk,hI=>by
  obtain ⟨t,h1,h2⟩:=hend s (by rw [show n=i by omega]; exact hI)
  exact ⟨t,by rw [tK,h1]; rfl,h2⟩
 |k+1,i,s,hk,hI=>by
  rcases hstep i s (by omega) hI with ⟨s',h1,h2⟩|⟨t,h1,h2⟩
  ·obtain ⟨t,h3,h4⟩:=kD I n Q hstep hend k (i+1) s' (by omega) h2
   exact ⟨t,by rw [tK,h1]; exact h3,h4⟩
  ·exact ⟨t,by rw [tK,h1]; rfl,h2⟩
theorem xD {α:Type} {xs:List α} {i:Nat} (h:i<xs.length):idx xs (i:Int)=some xs[i]:=by
 unfold idx
 rw [if_pos (by omega)]
 simp [h]
theorem zGp {α:Type} (l r:List α) (x:α):idx (l++x::r) (l.length:Int)=some x:=by
 rw [xD (by simp)]
 simp
def goL {α A T:Type} (g:Nat→A→α→Lp A T) (fin:A→T):Nat→List α→A→T
 |_,[],a=>fin a
 |i,x::xs,a=>match g i a x with
  | .go a'=>goL g fin (i+1) xs a'
  | .done t=>t
theorem zFW {α A S T:Type} (xs:List α) (g:Nat→A→α→Lp A T) (fin:A→T) (e:Nat→A→S) (I:Nat→A→Prop) {b:S→Option (Lp S T)}
  (hstep:∀(i:Nat) (a:A) (hi:i<xs.length),I i a→b (e i a)=some (match g i a xs[i] with| .go a'=>.go (e (i+1) a')| .done t=>.done t)∧∀a',g i a xs[i]= .go a'→I (i+1) a')
  (hend:∀a,I xs.length a→b (e xs.length a)=some (.done (fin a))):∀(k i:Nat) (a:A),i+k=xs.length→I i a→loop b (e i a)=some (goL g fin i (xs.drop i) a)
 |0,i,a,hk,hI=>by
  have:i=xs.length:=by omega
  subst this
  rw [tK,hend a hI,List.drop_length]; rfl
 |k+1,i,a,hk,hI=>by
  have hi:i<xs.length:=by omega
  obtain ⟨h1,h2⟩:=hstep i a hi hI
  rw [tK,h1,List.drop_eq_getElem_cons hi]
  simp only [goL]
  cases hg:g i a xs[i] with
  |go a'=>
   simp only [Option.bind_some,Lp.elim]
   exact zFW xs g fin e I hstep hend k (i+1) a' (by omega) (h2 a' hg)
  |done t=>rfl
theorem zHz {α A S T:Type} (xs:List α) (g:Nat→A→α→Lp A T) (fin:A→T) (e:Nat→A→S) (I:Nat→A→Prop) {b:S→Option (Lp S T)} (a0:A)
  (hstep:∀(i:Nat) (a:A) (hi:i<xs.length),I i a→b (e i a)=some (match g i a xs[i] with| .go a'=>.go (e (i+1) a')| .done t=>.done t)∧∀a',g i a xs[i]= .go a'→I (i+1) a')
  (hend:∀a,I xs.length a→b (e xs.length a)=some (.done (fin a))) (h0:I 0 a0):loop b (e 0 a0)=some (goL g fin 0 xs a0):=by
 have:=zFW xs g fin e I hstep hend xs.length 0 a0 (by omega) h0
 simpa using this
theorem zJg {R:Type} (n:Nat) {b:Int→Option (Lp Int (Fl R Unit))} (hstep:∀i:Nat,i<n→b (i:Int)=some (.go ((i+1:Nat):Int))) (hend:b (n:Int)=some (.done (.nxt ()))):loop b 0=some (.nxt ()):=by
 obtain ⟨t,h1,h2⟩:=kD (b:=b) (fun i s=>s=(i:Int)) n (fun t=>t= .nxt ()) (by
  rintro i s hi rfl
  exact .inl ⟨_,hstep i hi,rfl⟩) (by
  rintro s rfl
  exact ⟨_,hend,rfl⟩) n 0 0 (by omega) rfl
 rw [h1,h2]
theorem zBj (a:ByteArray):seq a a=true:=by
 unfold seq
 simp
def c1 {α:Type} (_:α):Int:=1
theorem zBu {α:Type} {B:Nat} {xs ys:List α} (h:(xs.length+ys.length)*B≤140737488355328) (h2:xs.length+ys.length≤4611686018427387904):app B xs ys=some (xs++ys):=if_pos ⟨h,h2⟩
theorem zFj {S T:Type} {b:S→Option (Lp S T)} (I:S→Prop) (μ:S→Nat) (Q:T→Prop) (step:∀s,I s→(∃s',b s=some (.go s')∧I s'∧μ s'<μ s)∨∃t,b s=some (.done t)∧Q t):∀(n:Nat) (s:S),μ s≤n→I s→∃t,loop b s=some t∧Q t
 |0,s,hn,hI=>by
  rcases step s hI with ⟨s',_,_,h3⟩|⟨t,h1,h2⟩
  ·omega
  ·exact ⟨t,by rw [tK,h1]; rfl,h2⟩
 |n+1,s,hn,hI=>by
  rcases step s hI with ⟨s',h1,h2,h3⟩|⟨t,h1,h2⟩
  ·obtain ⟨t,h4,h5⟩:=zFj I μ Q step n s' (by omega) h2
   exact ⟨t,by rw [tK,h1]; exact h4,h5⟩
  ·exact ⟨t,by rw [tK,h1]; rfl,h2⟩
def bl (s:ByteArray):List Int:=s.toList.map (fun b=>(b.toNat:Int))
theorem zG (s:ByteArray):(bl s).length =s.size:=by
 unfold bl
 rw [List.length_map,ByteArray.toList_eq]
 rfl
theorem zAB {s:ByteArray} {i:Nat} (h:i< (bl s).length):bidx s (i:Int)=some (bl s)[i]:=by
 unfold bidx
 rw [if_pos (by omega)]
 have hs:i<s.size:=by rw [zG] at h; exact h
 have e:s[(i:Int).toNat]? =some s[i]:=by simp [hs]
 rw [e]
 simp only [Option.map_some,bl,List.getElem_map]
 congr 2
 simp only [ByteArray.toList_eq]
 rfl
theorem zCf {s:ByteArray}:∀c∈bl s,0≤c∧c≤255:=by
 intro c hc
 unfold bl at hc
 obtain ⟨b,_,rfl⟩:=List.mem_map.1 hc
 have:=b.toNat_lt
 omega
theorem zDb:∀(a:List UInt8),Op.bytesLess a a=false
 |[]=>rfl
 |x::a=>by simp [Op.bytesLess,zDb a]
theorem zDJ:∀{a b c:List UInt8},Op.bytesLess a b=true→Op.bytesLess b c=true→Op.bytesLess a c=true
 |_,[],_,h,_=>by simp [Op.bytesLess] at h
 |_,_::_,[],_,h=>by simp [Op.bytesLess] at h
 |[],_::_,_::_,_,_=>by simp [Op.bytesLess]
 |x::a,y::b,z::c,h1,h2=>by
  simp only [Op.bytesLess,Bool.or_eq_true,decide_eq_true_eq,Bool.and_eq_true,beq_iff_eq] at h1 h2 ⊢
  rcases h1 with h1|⟨rfl,h1⟩
  ·rcases h2 with h2|⟨rfl,h2⟩
   ·exact .inl (UInt8.lt_trans h1 h2)
   ·exact .inl h1
  ·rcases h2 with h2|⟨rfl,h2⟩
   ·exact .inl h2
   ·exact .inr ⟨rfl,zDJ h1 h2⟩
theorem toList_inj {a b:ByteArray} (h:a.toList=b.toList):a=b:=by
 rw [ByteArray.toList_eq,ByteArray.toList_eq] at h
 cases a; cases b
 simp at h
 rw [h]
theorem kV (a:ByteArray):slt a a=false:=zDb _
theorem zBa {a b c:ByteArray} (h1:slt a b=true) (h2:slt b c=true):slt a c=true:=zDJ h1 h2
theorem zJG {a b:ByteArray} (h:slt a b=true):a≠b:=fun e=>by subst e; rw [kV] at h; cases h
theorem zHU {a b:ByteArray} (h:slt a b=true):slt b a=false:=by
 cases h2:slt b a with
 |false=>rfl
 |true=>have:=zBa h h2; rw [kV] at this; cases this
theorem zAR {a b:ByteArray}:seq a b=true↔a=b:=by
 unfold seq
 simp only [beq_iff_eq]
 exact ⟨toList_inj,fun e=>by rw [e]⟩
theorem seq_eq (a b:ByteArray):seq a b=decide (a=b):=by
 rw [Bool.eq_iff_iff,zAR]; simp
theorem zJZ (a b c:Int):xJ a b c=some (decide (a≥b)&&decide (a≤c)):=by
 unfold xJ
 cases decide (a≥b)<;>rfl
theorem yQ (a b:ByteArray):bl (a++b)=bl a++bl b:=by
 unfold bl
 rw [ByteArray.toList_eq,ByteArray.toList_eq,ByteArray.toList_eq]
 simp
theorem yI (s:ByteArray) (i j:Nat):bl (s.extract i j)=((bl s).drop i).take (j-i):=by
 unfold bl
 rw [ByteArray.toList_eq,ByteArray.toList_eq]
 simp [List.map_drop,List.map_take]
theorem zAK {a b:ByteArray}:bl a=bl b↔a=b:=by
 constructor
 ·intro h
  unfold bl at h
  refine toList_inj ?_
  have hinj:∀(x y:List UInt8),x.map (fun b=>(b.toNat:Int))=y.map (fun b=>(b.toNat:Int))→x=y:=by
   intro x
   induction x with
   |nil=>intro y h; cases y<;>simp_all
   |cons u x ih=>
    intro y h
    cases y with
    |nil=>simp at h
    |cons v y=>
     simp only [List.map_cons,List.cons.injEq] at h
     rw [ih y h.2]
     have:u.toNat=v.toNat:=by omega
     rw [UInt8.toNat_inj.1 this]
  exact hinj _ _ h
 ·intro h; rw [h]
theorem zA3 (a b:ByteArray):seq a b=decide (bl a=bl b):=by
 rw [seq_eq]
 simp [zAK]
theorem zFC {c:Int} (h0:0≤c) (h1:c≤255):bl (b2s [c])=[c]:=by
 unfold bl b2s
 rw [ByteArray.toList_eq]
 simp only [List.foldl_cons,List.foldl_nil]
 show [((UInt8.ofNat c.toNat).toNat :Int)]=[c]
 simp
 omega
theorem wrap_u8 {c:Int} (h0:0≤c) (h1:c≤255):IntKind.u8.wrap c=c:=by
 simp only [IntKind.wrap,IntKind.signed,IntKind.bits]
 simp
 omega
def zBb (n:Nat):List Int:=if n<10 then [48+(n:Int)] else zBb (n / 10)++[48+((n%10:Nat):Int)]
termination_by n
decreasing_by omega
theorem jL {n:Nat} (h:n<10):zBb n=[48+(n:Int)]:=by rw [zBb,if_pos h]
theorem zAI {n:Nat} (h:¬n<10):zBb n=zBb (n / 10)++[48+((n%10:Nat):Int)]:=by rw [zBb,if_neg h]
theorem zB7:∀(k n:Nat),10^k≤n→n<10^(k+1)→(zBb n).length =k+1
 |0,n,_,h=>by rw [jL (by simpa using h)]; rfl
 |k+1,n,h1,h2=>by
  have hp:1≤10^k:=Nat.one_le_pow _ _ (by omega)
  rw [Nat.pow_succ] at h1
  rw [Nat.pow_succ] at h2
  rw [zAI (by omega),List.length_append,zB7 k (n / 10) (by omega) (by omega)]
  rfl
theorem zCU:∀(k n:Nat),n<10^(k+1)→(zBb n).length ≤k+1
 |0,n,h=>by rw [jL (by simpa using h)]; simp
 |k+1,n,h=>by
  by_cases hn:n<10
  ·rw [jL hn]; simp
  ·rw [Nat.pow_succ] at h
   rw [zAI hn,List.length_append]
   have:=zCU k (n / 10) (by omega)
   simp only [List.length_singleton]
   omega
theorem zD4 (g:Int→Option ByteArray) (a1:Int):vU g a1=if decide (a1<10) then some (b2s [IntKind.u8.wrap (w64 (48+a1))]) else (g (w64 (a1.tdiv 10))).bind fun x3=>(cat x3 (b2s [IntKind.u8.wrap (w64 (48+(a1.tmod 10)))])).bind fun x5=>some x5:=rfl
theorem zB5:∀(k f n:Nat),n<10^(k+1)→k<f→n≤9000000000000000000→k≤100→∃s,zJP vU f (n:Int)=some s∧bl s=zBb n
 |k,0,n,_,hf,_,_=>by omega
 |k,f+1,n,h,hf,hn,hk=>by
  rw [show zJP vU (f+1) (n:Int)=vU (zJP vU f) (n:Int) from rfl,zD4]
  by_cases h1:n<10
  ·rw [if_pos (by simp; omega),xZ (by omega) (by omega),wrap_u8 (by omega) (by omega)]
   exact ⟨_,rfl,by rw [zFC (by omega) (by omega),jL h1]⟩
  ·rw [if_neg (by simp; omega)]
   cases k with
   |zero=>simp at h; omega
   |succ k=>
    have e1:w64 ((n:Int).tdiv 10)=((n / 10:Nat):Int):=by
     rw [Int.tdiv_eq_ediv_of_nonneg (by omega),xZ (by omega) (by omega)]; omega
    have e2:(n:Int).tmod 10=((n%10:Nat):Int):=by
     rw [Int.tmod_eq_emod_of_nonneg (by omega)]; omega
    rw [Nat.pow_succ] at h
    obtain ⟨s,e,hs⟩:=zB5 k f (n / 10) (by omega) (by omega) (by omega) (by omega)
    rw [e1,e2,e,xZ (by omega) (by omega),wrap_u8 (by omega) (by omega)]
    have hsz:s.size≤k+1:=by
     rw [←zG,hs]
     exact zCU k (n / 10) (by omega)
    simp only [Option.bind_some]
    unfold cat
    rw [if_pos (by have:(b2s [48+((n%10:Nat):Int)]).size =1:=rfl; omega)]
    exact ⟨_,rfl,by rw [yQ,hs,zFC (by omega) (by omega),zAI h1]⟩
theorem zDC (n:Nat) (h:n≤9000000000000000000):∃s,zBv (n:Int)=some s∧bl s=zBb n:=
 zB5 18 64 n (by omega) (by omega) h (by omega)
theorem zA2 (l:List UInt8):bl (bs l)=l.map (fun b=>(b.toNat:Int)):=by
 unfold bl bs
 rw [ByteArray.toList_eq]
theorem zAM {a b:ByteArray} (h:a.size+b.size≤1099511627776):cat a b=some (a++b):=if_pos h
theorem zFU (a b c:ByteArray):a++b++c=a++(b++c):=zAK.1 (by simp only [yQ,List.append_assoc])
theorem jD (a b:ByteArray):(a++b).size =a.size+b.size:=by
 rw [←zG,yQ,List.length_append,zG,zG]
theorem zBz {n:Nat} (h:n<256):(UInt8.ofNat n).toNat =n:=by
 simp [Nat.mod_eq_of_lt h]
theorem decDigits_eq:∀(n:Nat),(Lib.decDigits n).map (fun b=>(b.toNat:Int))=zBb n:=by
 intro n
 induction n using Nat.strongRecOn with
 |ind n ih=>
  rw [Lib.decDigits]
  by_cases h:n<10
  ·rw [dif_pos h,jL h]
   simp only [List.map_cons,List.map_nil]
   rw [zBz (by omega)]
   simp
  ·rw [dif_neg h,zAI h,List.map_append,ih (n / 10) (by omega)]
   simp only [List.map_cons,List.map_nil]
   rw [zBz (by omega)]
   simp
def zFT (n:Nat):ByteArray:=⟨(Lib.decDigits n).toArray⟩
theorem zCt (n:Nat):bl (zFT n)=zBb n:=by
 unfold bl zFT
 rw [ByteArray.toList_eq]
 exact decDigits_eq n
theorem zC2 (n:Nat) (h:n≤9000000000000000000):wG (n:Int) 10=some (zFT n):=by
 unfold wG
 rw [if_pos (by omega)]
 unfold Lib.itoa zFT
 rw [if_neg (by omega)]
 simp
def inB (a b c:Int):Bool:=decide (b≤a)&&decide (a≤c)
theorem zJt (a b c:Int):xJ a b c=some (inB a b c):=by
 unfold xJ inB
 by_cases h:a≥b<;>simp [h]
theorem zFm (a b c:Int):yB a b c=some (inB a b c):=by
 unfold yB inB
 by_cases h:b≤a<;>simp [h]
section del
variable {α:Type} (p:α→Bool)
theorem zH6 {xs:List α} {l h:Nat} (h1:l≤h) (h2:h≤xs.length):zFp xs (l:Int) (h:Int)=some ((xs.drop l).take (h-l)):=by
 unfold zFp
 rw [if_pos (by omega)]
 rfl
end del
def jE {α R:Type} (g:Nat→α→Option R):Nat→List α→Option R
 |_,[]=>none
 |i,x::xs=>match g i x with
  |some r=>some r
  |none=>jE g (i+1) xs
def frs {R:Type}:Option R→Fl R Unit
 |some r=>.ret r
 |none=>.nxt ()
theorem zDQ {α R:Type} (xs:List α) (g:Nat→α→Option R) {b:Int→Option (Lp Int (Fl R Unit))}
  (hstep:∀(i:Nat) (hi:i<xs.length),b (i:Int)=some (match g i xs[i] with|some r=>.done (.ret r)|none=>.go ((i+1:Nat):Int))) (hend:b (xs.length:Int)=some (.done (.nxt ()))):
  ∀(k i:Nat),i+k=xs.length→loop b (i:Int)=some (frs (jE g i (xs.drop i)))
 |0,i,h=>by
  have e:i=xs.length:=by omega
  subst e
  rw [tK,hend,List.drop_length]
  rfl
 |k+1,i,h=>by
  have hi:i<xs.length:=by omega
  have ih:=zDQ xs g hstep hend k (i+1) (by omega)
  rw [tK,hstep i hi,List.drop_eq_getElem_cons hi]
  simp only [jE]
  cases g i xs[i] with
  |some r=>rfl
  |none=>exact ih
theorem zAi {α R:Type} (xs:List α) (g:Nat→α→Option R) {b:Int→Option (Lp Int (Fl R Unit))}
  (hstep:∀(i:Nat) (hi:i<xs.length),b (i:Int)=some (match g i xs[i] with|some r=>.done (.ret r)|none=>.go ((i+1:Nat):Int))) (hend:b (xs.length:Int)=some (.done (.nxt ()))):
  loop b 0=some (frs (jE g 0 xs)):=by
 have:=zDQ xs g hstep hend xs.length 0 (by omega)
 simpa using this
theorem zEW {R T:Type} (o:Option R) (f:R→Option T) (h:Unit→Option T):(some (frs o)).bind (Fl.go f h)=match o with|some r=>f r|none=>h ():=by
 cases o<;>rfl
theorem zEa {α:Type} (p:α→Bool):∀(xs:List α) (i:Nat),((jE (fun j x=>if p x then some (j:Int) else none) i xs).getD (-1)≥0)↔xs.any p=true
 |[],i=>by simp [jE]
 |x::xs,i=>by
  simp only [jE]
  cases h:p x
  ·simp only [Bool.false_eq_true,if_false,List.any_cons,h,Bool.false_or]
   exact zEa p xs (i+1)
  ·simp [h]
def foldI {α A:Type} (f:Nat→A→α→A):Nat→List α→A→A
 |_,[],a=>a
 |i,x::xs,a=>foldI f (i+1) xs (f i a x)
theorem zDZ {α A:Type} (xs:List α) (f:Nat→A→α→A) (I:Nat→A→Prop) {b:(A×Int)→Option (Lp (A×Int) A)}
  (hstep:∀(i:Nat) (a:A) (hi:i<xs.length),I i a→b (a,(i:Int))=some (.go (f i a xs[i],((i+1:Nat):Int)))∧I (i+1) (f i a xs[i])) (hend:∀a,b (a,(xs.length:Int))=some (.done a)):
  ∀(k i:Nat) (a:A),i+k=xs.length→I i a→loop b (a,(i:Int))=some (foldI f i (xs.drop i) a)∧I xs.length (foldI f i (xs.drop i) a)
 |0,i,a,h,hI=>by
  have e:i=xs.length:=by omega
  subst e
  rw [tK,hend,List.drop_length]
  exact ⟨rfl,hI⟩
 |k+1,i,a,h,hI=>by
  have hi:i<xs.length:=by omega
  obtain ⟨h1,h2⟩:=hstep i a hi hI
  have ih:=zDZ xs f I hstep hend k (i+1) _ (by omega) h2
  rw [tK,h1,List.drop_eq_getElem_cons hi]
  exact ih
theorem zI5 {o:Option Int} {b:Bool} (h:(o.getD (-1)≥0)↔b=true):decide (o.getD (-1)≥0)=b:=by
 rw [Bool.eq_iff_iff,decide_eq_true_eq]; exact h
def zFA (c:Int):Bool:=(decide (c≥97)&&decide (c≤122))||(decide (c≥48)&&decide (c≤57))||c==95
def zFK (c:Int):Bool:=zFA c||c==46||c==45||c==47
theorem zDA (c:Int):uF c=some (zFA c):=by
 unfold uF xH xW zFA
 cases decide (c≥97)<;>cases decide (c≤122)<;>cases decide (c≥48)<;>cases decide (c≤57)<;>rfl
theorem zB0 (c:Int):zBB c=some (zFK c):=by
 unfold zBB zFK
 rw [zDA]
 cases zFA c<;>cases (c==46)<;>cases (c==45)<;>cases (c==47)<;>rfl
theorem zBT (c:Int):yC c=some (zFA c):=by
 unfold yC zFA
 cases decide (c≥97)<;>cases decide (c≤122)<;>cases decide (c≥48)<;>cases decide (c≤57)<;>rfl
theorem zCx (s:ByteArray):xK s=uG s:=by
 unfold xK uG
 have:vB s=jQ s:=by
  unfold vB jQ
  refine zBn fun i=>?_
  unfold kJ uE
  split
  ·congr 1
   funext c
   rw [zB0,zBT]
   unfold zFK
   simp only [bne]
   cases zFA c<;>cases (c==46)<;>cases (c==45)<;>cases (c==47)<;>rfl
  ·rfl
 rw [this]
def zBQ (s:ByteArray):Prop:=1≤s.size∧s.size≤40∧∀c∈bl s,zFK c=true
theorem zB2 (s:ByteArray):(zBQ s∧uG s=some 0)∨(¬zBQ s∧uG s=some 5):=by
 unfold uG
 by_cases h1:s.size<1
 ·refine .inr ⟨fun h=>by have:=h.1; omega,?_⟩
  rw [if_pos (by simp; omega)]; rfl
 ·rw [if_neg (by simp; omega)]
  simp only [Option.bind_some]
  by_cases h2:s.size>40
  ·refine .inr ⟨fun h=>by have:=h.2.1; omega,?_⟩
   rw [if_pos (by simp; omega)]
  ·rw [if_neg (by simp; omega)]
   obtain ⟨t,e,h⟩:=kD (b:=uE s) (fun i j=>j=(i:Int)∧∀k,(hk:k< (bl s).length)→k<i→zFK (bl s)[k]=true) (bl s).length (fun t=>match t with| .ret r=>r=5∧¬zBQ s| .nxt _=>∀c∈bl s,zFK c=true) (by
    rintro i j hi ⟨rfl,hp⟩
    have hs:=zG s
    unfold uE
    rw [if_pos (by simp; omega),zAB hi]
    simp only [Option.bind_some,zB0]
    cases hb:zFK (bl s)[i] with
    |false=>exact .inr ⟨_,rfl,rfl,fun h=>by have:=h.2.2 _ (List.getElem_mem hi); rw [hb] at this; cases this⟩
    |true=>
     rw [wK (by omega)]
     refine .inl ⟨_,rfl,rfl,fun k hk hki=>?_⟩
     rcases Nat.lt_or_ge k i with h|h
     ·exact hp k hk h
     ·have:k=i:=by omega
      subst this; exact hb) (by
    rintro j ⟨rfl,hp⟩
    unfold uE
    rw [if_neg (by simp [zG])]
    refine ⟨_,rfl,fun c hc=>?_⟩
    obtain ⟨k,hk,rfl⟩:=List.getElem_of_mem hc
    exact hp k hk hk) (bl s).length 0 0 (by omega) ⟨rfl,fun k _ h=>by omega⟩
   simp only [jQ,e,Option.bind_some]
   cases t with
   |ret r=>
    obtain ⟨rfl,h⟩:=h
    exact .inr ⟨h,rfl⟩
   |nxt u=>exact .inl ⟨⟨by omega,by omega,h⟩,rfl⟩
theorem zDy (s:ByteArray):∃r,uG s=some r∧(r=0↔zBQ s):=by
 rcases zB2 s with ⟨h1,h2⟩|⟨h1,h2⟩
 ·exact ⟨0,h2,by simp [h1]⟩
 ·exact ⟨5,h2,by simp [h1]⟩
def total (fs:List File):Int:=match fs with
 |[]=>0
 |f::fs=>f.Data.length+total fs
theorem zBc:∀(l r:List File),total (l++r)=total l+total r
 |[],r=>by simp [total]
 |f::l,r=>by simp only [List.cons_append,total,zBc l r]; omega
theorem zAh:∀(l:List File),0≤total l
 |[]=>Int.le_refl _
 |f::l=>by have:=zAh l; simp only [total]; omega
theorem zEA:∀{l:List File} {f:File},f∈l→(f.Data.length:Int)≤total l
 |g::l,f,h=>by
  rcases List.mem_cons.1 h with rfl|h
  ·have:=zAh l; simp only [total]; omega
  ·have:=zEA h; simp only [total]; omega
theorem zGi:∀(l:List File) (C:Int),0≤C→(∀f∈l,(f.Data.length:Int)≤C)→total l≤l.length*C
 |[],C,_,_=>by simp [total]
 |f::l,C,hC,h=>by
  have h1:=h f (by simp)
  have h2:=zGi l C hC (fun g hg=>h g (by simp [hg]))
  simp only [total,List.length_cons,Int.natCast_add,Int.add_mul]
  omega
theorem zDD (d:zF) (h:d.Files.length≤1048576) (hf:∀f∈d.Files,f.Data.length≤1048576):zAe d=some (total d.Files):=by
 have htot:=zGi d.Files 1048576 (by omega) (fun f hm=>by have:=hf f hm; omega)
 have hb:((d.Files.length:Int))*1048576≤1048576*1048576:=Int.mul_le_mul_of_nonneg_right (by omega) (by omega)
 obtain ⟨t,e,rfl⟩:=kD (b:=jW d) (fun i s=>s=(total (d.Files.take i),(i:Int))) d.Files.length (fun t=>t=total d.Files) (by
  rintro i s hi rfl
  unfold jW
  rw [if_pos (by simp; omega)]
  have hsplit:total (d.Files.take (i+1))=total (d.Files.take i)+d.Files[i].Data.length :=by
   rw [List.take_succ_eq_append_getElem hi,zBc]
   simp [total]
  have hle:total d.Files=total (d.Files.take (i+1))+total (d.Files.drop (i+1)):=by rw [←zBc,List.take_append_drop]
  have h1:=zAh (d.Files.take i)
  have h2:=zAh (d.Files.drop (i+1))
  simp only [xD hi,Option.bind_some]
  rw [xZ (by omega) (by omega),wK (by omega)]
  exact .inl ⟨_,rfl,by rw [hsplit]⟩) (by
  rintro s rfl
  unfold jW
  rw [if_neg (by simp)]
  exact ⟨_,rfl,by simp⟩) d.Files.length 0 (0,0) (by omega) (by simp [total])
 simp only [zAe,zAV,e,Option.bind_some]
theorem zGs (d:zF):xM d=zAe d:=rfl
structure zF.good (d:zF):Prop where
 b0:0≤d.Budget
 b1:d.Budget≤20000
 w0:0≤d.Writes
 w1:d.Writes≤1000000000
 s0: -1≤d.Stop
 s1:d.Stop≤1000000000
 len:d.Files.length≤120
 path:∀f∈d.Files,zBQ f.Path
 data:∀f∈d.Files,f.Data.length≤4000
 sorted:d.Files.Pairwise (fun f g=>slt f.Path g.Path=true)
 room:total d.Files≤d.Budget
theorem kX (d:zF):yO d=kZ d:=by
 unfold yO kZ
 have:vF d=jN d:=by
  unfold vF jN
  refine zBn fun i=>?_
  unfold kR vY
  split
  ·cases hx:idx d.Files i with
   |none=>rfl
   |some x=>simp only [Option.bind_some,zCx]
  ·rfl
 rw [this]
 rfl
def zF.fits (d:zF):Prop:=d.Files.length≤1048576∧∀f∈d.Files,f.Data.length≤1048576
theorem zF.zHr {d:zF} (h:d.good):d.fits:=⟨by have:=h.len; omega,fun f hf=>by have:=h.data f hf; omega⟩
theorem zHS (d:zF) (h:d.fits):zAG d=some d:=by
 obtain ⟨h1,h2⟩:=h
 obtain ⟨t,e,rfl⟩:=kD (b:=tZ d) (fun i s=>s=(d.Files.take i,(i:Int))) d.Files.length (fun t=>t=d.Files) (by
  rintro i s hi rfl
  have hl:(d.Files.take i).length =i:=by simp; omega
  have hd:=h2 _ (List.getElem_mem hi)
  have ha:app 1 ([]:List Int) d.Files[i].Data =some d.Files[i].Data :=zBu (by simp; omega) (by simp; omega)
  have hb:∀f:File,app 40 (d.Files.take i) [f]=some (d.Files.take i++[f]):=fun f=>zBu (by simp; omega) (by simp; omega)
  unfold tZ
  rw [if_pos (by simp; omega)]
  simp only [xD hi,Option.bind_some,ha,hb,wK (show i<9223372036854775807 by omega)]
  exact .inl ⟨_,rfl,by rw [List.take_succ_eq_append_getElem hi]⟩) (by
  rintro s rfl
  unfold tZ
  rw [if_neg (by simp)]
  exact ⟨_,rfl,by simp⟩) d.Files.length 0 ([],0) (by omega) (by simp)
 simp only [zAG,kW,e,Option.bind_some]
theorem zGM (d:zF):xU d=zAG d:=by
 have:wF d=kW d:=by
  unfold wF kW
  refine zBn fun s=>?_
  unfold jR tZ yF
  split
  ·cases h:idx d.Files s.2 with
   |none=>rfl
   |some x=>
    simp only [Option.bind_some]
    cases h2:app 1 ([]:List Int) x.Data<;>rfl
  ·rfl
 unfold xU zAG
 rw [this]
theorem zHb (d:zF) (h:d.fits):xU d=some d:=by rw [zGM,zHS d h]
def zIA (c:Int):zL:= {Code:=c,zF:= {Files:=[],Budget:=0,Writes:=0,Stop:=0,Down:=false}}
theorem zH1 (s p:ByteArray):strings_HasPrefix s p=kL s p:=by
 unfold strings_HasPrefix zP kL
 split
 ·cases zCg s 0 (p.size:Int)<;>rfl
 ·rfl
def begins (s p:ByteArray):Bool:=decide (p.size≤s.size)&&seq (s.extract 0 p.size) p
theorem zF3 (s p:ByteArray):kL s p=some (begins s p):=by
 unfold kL begins
 by_cases h:p.size≤s.size
 ·rw [if_pos (by simp; omega)]
  unfold zCg
  rw [if_pos (by omega)]
  simp [h]
 ·rw [if_neg (by simp; omega)]
  simp [h]
theorem zGx (d:zF) (p:ByteArray):vJ d p=zAf d p:=by
 have:wR d p=kI d p:=by
  unfold wR kI
  refine zBn fun s=>?_
  unfold kC uZ
  split
  ·cases h:idx d.Files s.2 with
   |none=>rfl
   |some x=>simp only [Option.bind_some,zH1]
  ·rfl
 unfold vJ zAf
 rw [this]
def wC (fs:List File) (p:ByteArray):List ByteArray:=(fs.filter (fun f=>begins f.Path p)).map (·.Path)
theorem zD0 (l r:List File) (p:ByteArray):wC (l++r) p=wC l p++wC r p:=by
 simp [wC]
theorem zAb (l:List File) (p:ByteArray):(wC l p).length ≤l.length:=by
 simp only [wC,List.length_map]
 exact List.length_filter_le _ _
theorem zDI (d:zF) (p:ByteArray) (h:d.Files.length≤1048576):zAf d p=some (wC d.Files p):=by
 obtain ⟨t,e,rfl⟩:=kD (b:=uZ d p) (fun i s=>s=(wC (d.Files.take i) p,(i:Int))) d.Files.length (fun t=>t=wC d.Files p) (by
  rintro i s hi rfl
  unfold uZ
  rw [if_pos (by simp; omega)]
  have hl:=zAb (d.Files.take i) p
  have hl2:(d.Files.take i).length ≤i:=by simp; omega
  have ha:∀x:ByteArray,app 16 (wC (d.Files.take i) p) [x]=some (wC (d.Files.take i) p++[x]):=fun x=>zBu (by simp; omega) (by simp; omega)
  have hsplit:wC (d.Files.take (i+1)) p=wC (d.Files.take i) p++wC [d.Files[i]] p:=by
   rw [List.take_succ_eq_append_getElem hi,zD0]
  simp only [xD hi,Option.bind_some,zF3,ha,wK (show i<9223372036854775807 by omega)]
  cases hb:begins d.Files[i].Path p with
  |true=>exact .inl ⟨_,rfl,by rw [hsplit]; simp [wC,hb]⟩
  |false=>exact .inl ⟨_,rfl,by rw [hsplit]; simp [wC,hb]⟩) (by
  rintro s rfl
  unfold uZ
  rw [if_neg (by simp)]
  exact ⟨_,rfl,by simp⟩) d.Files.length 0 ([],0) (by omega) (by simp [wC])
 simp only [zAf,kI,e,Option.bind_some]
theorem zEz:∀(a b:List UInt8),(Lib.compareBytes a b<0↔Op.bytesLess a b=true)∧(Lib.compareBytes a b=0↔a=b)
 |[],[]=>by simp [Lib.compareBytes,Op.bytesLess]
 |[],_::_=>by simp [Lib.compareBytes,Op.bytesLess]
 |_::_,[]=>by simp [Lib.compareBytes,Op.bytesLess]
 |x::a,y::b=>by
  obtain ⟨ih1,ih2⟩:=zEz a b
  simp only [Lib.compareBytes,Op.bytesLess]
  by_cases h1:x<y
  ·simp [h1]
   intro e; subst e; exact absurd h1 (by simp [UInt8.lt_irrefl])
  ·by_cases h2:y<x
   ·simp [h1,h2]
    have hne:x≠y:=fun e=>by subst e; exact absurd h2 (by simp [UInt8.lt_irrefl])
    simp [hne]
   ·have e:x=y:=by
     rw [UInt8.lt_iff_toNat_lt] at h1 h2
     exact UInt8.toNat_inj.1 (by omega)
    subst e
    simp [UInt8.lt_irrefl,ih1,ih2]
theorem zH4 (a b:ByteArray):zIZ a b<0↔slt a b=true:=by
 unfold zIZ slt
 rw [ByteArray.toList_eq,ByteArray.toList_eq]
 exact (zEz _ _).1
theorem zGU (a b:ByteArray):zIZ a b=0↔a=b:=by
 unfold zIZ
 rw [(zEz _ _).2,←ByteArray.toList_eq,←ByteArray.toList_eq]
 exact ⟨toList_inj,fun e=>by rw [e]⟩
theorem zJr {i j:Int} (h0:0≤i) (h1:i≤j) (h2:j≤4611686018427387903):w64 ((IntKind.u64.wrap (w64 (i+j))).fdiv (2^(min (1:Int).toNat 64)))=(i+j) / 2:=by
 rw [xZ (x:=i+j) (by omega) (by omega)]
 have e1:IntKind.u64.wrap (i+j)=i+j:=by
  simp only [IntKind.wrap,IntKind.signed,IntKind.bits]
  simp
  omega
 rw [e1]
 have e2:((2:Int)^(min (1:Int).toNat 64))=2:=by decide
 rw [e2,Int.fdiv_eq_ediv_of_nonneg _ (by omega)]
 exact xZ (by omega) (by omega)
theorem zDY (f:File) (p:ByteArray):xI f p=some (zIZ f.Path p):=rfl
theorem zDK (fs:List File) (p:ByteArray) (h:fs.length≤1048576):
  ∃(k:Nat) (b:Bool),zC fs p=some ((k:Int),b)∧k≤fs.length∧(b=true→∃hk:k<fs.length,fs[k].Path =p)∧
   (fs.Pairwise (fun f g=>slt f.Path g.Path=true)→(∀i,(hi:i<fs.length)→i<k→slt fs[i].Path p=true)∧(∀i,(hi:i<fs.length)→k≤i→slt fs[i].Path p=false)∧(b=false→∀f∈fs,f.Path≠p)):=by
 obtain ⟨t,e,k,rfl,hk,hs⟩:=zFj (b:=zQ fs p)
  (fun s=>∃i j:Nat,s=((i:Int),(j:Int))∧i≤j∧j≤fs.length∧(fs.Pairwise (fun f g=>slt f.Path g.Path=true)→(∀q,(hq:q<fs.length)→q<i→slt fs[q].Path p=true)∧(∀q,(hq:q<fs.length)→j≤q→slt fs[q].Path p=false)))
  (fun s=>(s.2-s.1).toNat)
  (fun t=>∃k:Nat,t=(k:Int)∧k≤fs.length∧(fs.Pairwise (fun f g=>slt f.Path g.Path=true)→(∀q,(hq:q<fs.length)→q<k→slt fs[q].Path p=true)∧(∀q,(hq:q<fs.length)→k≤q→slt fs[q].Path p=false))) (by
  rintro s ⟨i,j,rfl,hij,hj,hP⟩
  unfold zQ
  by_cases hlt:i<j
  ·left
   rw [if_pos (by simp; omega)]
   simp only
   rw [zJr (by omega) (by omega) (by omega)]
   have hm:(((i:Int)+(j:Int)) / 2)=(((i+j) / 2:Nat):Int):=by omega
   rw [hm]
   have hmj:(i+j) / 2<j:=by omega
   have him:i≤(i+j) / 2:=by omega
   generalize (i+j) / 2=m at*
   have hmn:m<fs.length:=by omega
   simp only [xD hmn,Option.bind_some,zDY]
   by_cases hc:zIZ fs[m].Path p<0
   ·rw [if_pos (by simpa using hc),wK (by omega)]
    refine ⟨_,rfl,⟨m+1,j,rfl,by omega,hj,fun hso=>?_⟩,by simp; omega⟩
    obtain ⟨g1,g2⟩:=hP hso
    refine ⟨fun q hq hqm=>?_,g2⟩
    have hl:=(zH4 _ _).1 hc
    rcases Nat.lt_or_ge q m with h'|h'
    ·exact zBa (List.pairwise_iff_getElem.1 hso q m hq hmn h') hl
    ·have:q=m:=by omega
     subst this; exact hl
   ·rw [if_neg (by simpa using hc)]
    refine ⟨_,rfl,⟨i,m,rfl,by omega,by omega,fun hso=>?_⟩,by simp; omega⟩
    obtain ⟨g1,g2⟩:=hP hso
    refine ⟨g1,fun q hq hmq=>?_⟩
    have hl:slt fs[m].Path p=false:=by
     cases h':slt fs[m].Path p with
     |false=>rfl
     |true=>exact absurd ((zH4 _ _).2 h') hc
    rcases Nat.lt_or_ge m q with h'|h'
    ·cases hq2:slt fs[q].Path p with
     |false=>rfl
     |true=>
      have:=zBa (List.pairwise_iff_getElem.1 hso m q hmn hq h') hq2
      rw [hl] at this; cases this
    ·have:q=m:=by omega
     subst this; exact hl
  ·right
   rw [if_neg (by simp; omega)]
   have:i=j:=by omega
   subst this
   exact ⟨_,rfl,i,rfl,by omega,hP⟩) fs.length (0,(fs.length:Int)) (by simp) ⟨0,fs.length,rfl,by omega,by omega,fun _=>⟨fun q _ h=>by omega,fun q hq h=>by omega⟩⟩
 unfold zC
 rw [show zJ fs p (0,(fs.length:Int))=some (k:Int) from e]
 simp only [Option.bind_some]
 by_cases hkn:k<fs.length
 ·rw [if_pos (by simpa using hkn)]
  simp only [xD hkn,Option.bind_some,zDY]
  refine ⟨k,_,rfl,hk,fun hb=>⟨hkn,(zGU _ _).1 (by simpa using hb)⟩,fun hso=>⟨(hs hso).1,(hs hso).2,fun hb f hf hfp=>?_⟩⟩
  have hne:zIZ fs[k].Path p≠0:=by simpa using hb
  obtain ⟨q,hq,rfl⟩:=List.getElem_of_mem hf
  rcases Nat.lt_trichotomy q k with h'|h'|h'
  ·have:=(hs hso).1 q hq h'
   rw [hfp,kV] at this; cases this
  ·subst h'; exact hne ((zGU _ _).2 hfp)
  ·have h1:=List.pairwise_iff_getElem.1 hso k q hkn hq h'
   have h2:=(hs hso).2 k hkn (Nat.le_refl _)
   rw [hfp] at h1
   rw [h1] at h2; cases h2
 ·rw [if_neg (by simpa using hkn)]
  refine ⟨k,false,rfl,hk,(fun hb=>by cases hb),fun hso=>⟨(hs hso).1,(hs hso).2,fun _ f hf hfp=>?_⟩⟩
  obtain ⟨q,hq,rfl⟩:=List.getElem_of_mem hf
  have:=(hs hso).1 q hq (by omega)
  rw [hfp,kV] at this; cases this
theorem zFu (d:zF) (p:ByteArray) (h:d.Files.length≤1048576):
  (∃k:Nat,∃hk:k<d.Files.length,wW d p=some (k:Int)∧d.Files[k].Path =p)∨(wW d p=some (-1)∧∀f∈d.Files,f.Path≠p):=by
 obtain ⟨t,e,ht⟩:=kD (b:=kT d p) (fun i s=>s=(i:Int)∧∀q,(hq:q<d.Files.length)→q<i→d.Files[q].Path ≠p) d.Files.length
  (fun t=>match t with| .ret r=>∃k:Nat,∃hk:k<d.Files.length,r=(k:Int)∧d.Files[k].Path =p| .nxt _=>∀f∈d.Files,f.Path≠p) (by
  rintro i s hi ⟨rfl,hq⟩
  unfold kT
  rw [if_pos (by simp; omega)]
  simp only [xD hi,Option.bind_some]
  by_cases hp:d.Files[i].Path =p
  ·rw [if_pos (zAR.2 hp)]
   exact .inr ⟨_,rfl,i,hi,rfl,hp⟩
  ·rw [if_neg (fun h'=>hp (zAR.1 h')),wK (by omega)]
   refine .inl ⟨_,rfl,rfl,fun q hq' hqi=>?_⟩
   rcases Nat.lt_or_ge q i with h'|h'
   ·exact hq q hq' h'
   ·have:q=i:=by omega
    subst this; exact hp) (by
  rintro s ⟨rfl,hq⟩
  unfold kT
  rw [if_neg (by simp)]
  refine ⟨_,rfl,fun f hf=>?_⟩
  obtain ⟨q,hq',rfl⟩:=List.getElem_of_mem hf
  exact hq q hq' hq') d.Files.length 0 0 (by omega) ⟨rfl,fun q _ h=>by omega⟩
 unfold wW
 rw [show zB1 d p 0=some t from e]
 cases t with
 |ret r=>
  obtain ⟨k,hk,rfl,hp⟩:=ht
  exact .inl ⟨k,hk,rfl,hp⟩
 |nxt _=>exact .inr ⟨rfl,ht⟩
theorem zBk {fs:List File} (hs:fs.Pairwise (fun f g=>slt f.Path g.Path=true)) {i j:Nat} (hi:i<fs.length) (hj:j<fs.length) (h:fs[i].Path =fs[j].Path):i=j:=by
 rcases Nat.lt_trichotomy i j with h'|h'|h'
 ·have:=List.pairwise_iff_getElem.1 hs i j hi hj h'
  rw [h,kV] at this; cases this
 ·exact h'
 ·have:=List.pairwise_iff_getElem.1 hs j i hj hi h'
  rw [h,kV] at this; cases this
theorem zDO (d:zF) (p:ByteArray) (hl0:d.Files.length≤120) (hso:d.Files.Pairwise (fun f g=>slt f.Path g.Path=true)):
  (∃k:Nat,∃hk:k<d.Files.length,wW d p=some (k:Int)∧zC d.Files p=some ((k:Int),true)∧d.Files[k].Path =p)∨
   (wW d p=some (-1)∧(∀f∈d.Files,f.Path≠p)∧∃k:Nat,zC d.Files p=some ((k:Int),false)∧k≤d.Files.length∧(∀i,(hi:i<d.Files.length)→i<k→slt d.Files[i].Path p=true)∧(∀i,(hi:i<d.Files.length)→k≤i→slt d.Files[i].Path p=false)):=by
 have hl:d.Files.length≤1048576:=by omega
 obtain ⟨k,b,e,hk,h1,h2⟩:=zDK d.Files p hl
 obtain ⟨g1,g2,g3⟩:=h2 hso
 rcases zFu d p hl with ⟨q,hq,e2,hp⟩|⟨e2,hp⟩
 ·left
  cases b with
  |false=>exact absurd hp (g3 rfl _ (List.getElem_mem hq))
  |true=>
   obtain ⟨hk',hp'⟩:=h1 rfl
   have:q=k:=zBk hso hq hk' (by rw [hp,hp'])
   subst this
   exact ⟨q,hq,e2,e,hp⟩
 ·right
  cases b with
  |true=>
   obtain ⟨hk',hp'⟩:=h1 rfl
   exact absurd hp' (hp _ (List.getElem_mem hk'))
  |false=>exact ⟨e2,hp,k,e,hk,g1,g2⟩
theorem zGE (d:zF) (p:ByteArray) (hl0:d.Files.length≤120) (hso:d.Files.Pairwise (fun f g=>slt f.Path g.Path=true)):
  (∃k:Nat,∃hk:k<d.Files.length,wW d p=some (k:Int)∧yA d p=some (d.Files[k].Data,true)∧d.Files[k].Path =p)∨
   (wW d p=some (-1)∧yA d p=some ([],false)∧∀f∈d.Files,f.Path≠p):=by
 rcases zDO d p hl0 hso with ⟨k,hk,e1,e2,hp⟩|⟨e1,hp,k,e2,_⟩
 ·left
  refine ⟨k,hk,e1,?_,hp⟩
  unfold yA yS
  rw [e2]
  simp only [Option.bind_some,Bool.not_true,Bool.false_eq_true,if_false,xD hk]
 ·right
  refine ⟨e1,?_,hp⟩
  unfold yA yS
  rw [e2]
  rfl
theorem zEC (d:zF) (p:ByteArray) (hg:d.good):
 (∃k:Nat,∃hk:k<d.Files.length,wW d p=some (k:Int)∧yA d p=some (d.Files[k].Data,true)∧d.Files[k].Path =p)∨
  (wW d p=some (-1)∧yA d p=some ([],false)∧∀f∈d.Files,f.Path≠p):=zGE d p hg.len hg.sorted
theorem zCB {P:List Int→Prop} (h0:P []) (h1:∀l c,P l→P (l++[c])) (l:List Int):P l:=by
 have key:∀m:List Int,P m.reverse:=by
  intro m
  induction m with
  |nil=>exact h0
  |cons c m ih=>rw [List.reverse_cons]; exact h1 _ c ih
 have:=key l.reverse
 rwa [List.reverse_reverse] at this
def zBl (c:Int):Bool:=decide (c≥48)&&decide (c≤57)
def val (l:List Int):Int:=l.foldl (fun a c=>a*10+(c-48)) 0
theorem zA8 (l:List Int) (c:Int):val (l++[c])=val l*10+(c-48):=by simp [val]
theorem zAj {l:List Int} (h:∀c∈l,zBl c=true):0≤val l∧val l<10^l.length:=by
 revert h
 refine zCB (P:=fun l=>(∀c∈l,zBl c=true)→0≤val l∧val l<10^l.length) ?_ ?_ l
 ·intro _; simp [val]
 ·intro l c ih h
  obtain ⟨h1,h2⟩:=ih (fun x hx=>h x (by simp [hx]))
  have hc:=h c (by simp)
  simp only [zBl,Bool.and_eq_true,decide_eq_true_eq] at hc
  rw [zA8,List.length_append,List.length_singleton,Int.pow_succ]
  omega
def zEj (l:List Int) (most:Int):Option Int:=if l.length<1∨(l.length:Int)>most∨¬(∀c∈l,zBl c=true) then none else some (val l)
theorem zFR {n:Nat} (h:n≤17):(10:Int)^n≤100000000000000000:=by
 have:(10:Nat)^n≤10^17:=Nat.pow_le_pow_right (by omega) h
 have e:((10^n:Nat):Int)=(10:Int)^n:=by simp
 rw [←e]
 omega
theorem zDv (c:Int):xW c=some (zBl c):=by
 unfold xW zBl
 cases decide (c≥48)<;>rfl
theorem zFJ (s:ByteArray) (most:Int) (hm:most≤17):zAC s most=some (match zEj (bl s) most with|some n=>(n,true)|none=>(0,false)):=by
 unfold zAC zEj
 have hl:=zG s
 by_cases h1:s.size<1
 ·rw [if_pos (by simp; omega),if_pos (by omega)]
  rfl
 ·rw [if_neg (by simp; omega)]
  simp only [Option.bind_some]
  by_cases h2:(s.size:Int)>most
  ·rw [if_pos (by simpa using h2),if_pos (by omega)]
  ·rw [if_neg (by simpa using h2)]
   obtain ⟨t,e,ht⟩:=kD (b:=jK s) (fun i q=>q=(val ((bl s).take i),(i:Int))∧∀c∈(bl s).take i,zBl c=true) (bl s).length
    (fun t=>match t with| .ret r=>r=(0,false)∧¬ ∀c∈bl s,zBl c=true| .nxt v=>v=val (bl s)∧∀c∈bl s,zBl c=true) (by
    rintro i q hi ⟨rfl,hd⟩
    have hb:=zAj hd
    have hlen:((bl s).take i).length ≤17:=by simp; omega
    have hp:=zFR hlen
    have hr:=zCf _ (List.getElem_mem hi)
    unfold jK
    rw [if_pos (by simp; omega)]
    simp only [zAB hi,Option.bind_some,zDv]
    cases hc:zBl (bl s)[i] with
    |false=>exact .inr ⟨_,rfl,rfl,fun h=>by have:=h _ (List.getElem_mem hi); rw [hc] at this; cases this⟩
    |true=>
     have hc':=hc
     simp only [zBl,Bool.and_eq_true,decide_eq_true_eq] at hc'
     rw [wrap_u8 (by omega) (by omega),xZ (x:=(bl s)[i]-48) (by omega) (by omega),xZ (x:=val ((bl s).take i)*10) (by omega) (by omega),xZ (by omega) (by omega),wK (by omega)]
     refine .inl ⟨_,rfl,by rw [List.take_succ_eq_append_getElem hi,zA8],fun c hcm=>?_⟩
     rw [List.take_succ_eq_append_getElem hi] at hcm
     rcases List.mem_append.1 hcm with h|h
     ·exact hd c h
     ·simp at h; rw [h]; exact hc) (by
    rintro q ⟨rfl,hd⟩
    unfold jK
    rw [if_neg (by simp; omega)]
    rw [List.take_length] at hd ⊢
    exact ⟨_,rfl,rfl,hd⟩) (bl s).length 0 (0,0) (by omega) ⟨by simp [val],by simp⟩
   unfold zAL
   rw [e]
   cases t with
   |ret r=>
    obtain ⟨rfl,h⟩:=ht
    rw [if_pos (.inr (.inr h))]
    rfl
   |nxt v=>
    obtain ⟨rfl,h⟩:=ht
    rw [if_neg (fun h'=>by rcases h' with h'|h'|h'<;>first|omega|exact h' h)]
    rfl
theorem number_eq (s:ByteArray) (most:Int) (hm:most≤17):wV s most=some (match zEj (bl s) most with|some n=>n|none=> -1):=by
 unfold wV zEj
 have hl:=zG s
 have he:seq s (bs [])=decide (s.size<1):=by
  rw [zA3,zA2,List.map_nil]
  rw [Bool.eq_iff_iff]
  simp only [decide_eq_true_eq]
  constructor
  ·intro h; rw [h] at hl; simp at hl; omega
  ·intro h; exact List.eq_nil_of_length_eq_zero (by omega)
 rw [he]
 by_cases h1:s.size<1
 ·rw [if_pos (by simpa using h1),if_pos (by omega)]
  rfl
 ·rw [if_neg (by simpa using h1)]
  simp only [Option.bind_some]
  by_cases h2:(s.size:Int)>most
  ·rw [if_pos (by simpa using h2),if_pos (by omega)]
  ·rw [if_neg (by simpa using h2)]
   obtain ⟨t,e,ht⟩:=kD (b:=jG s) (fun i q=>q=(val ((bl s).take i),(i:Int))∧∀c∈(bl s).take i,zBl c=true) (bl s).length
    (fun t=>match t with| .ret r=>r= -1∧¬ ∀c∈bl s,zBl c=true| .nxt v=>v=val (bl s)∧∀c∈bl s,zBl c=true) (by
    rintro i q hi ⟨rfl,hd⟩
    have hb:=zAj hd
    have hlen:((bl s).take i).length ≤17:=by simp; omega
    have hp:=zFR hlen
    have hr:=zCf _ (List.getElem_mem hi)
    unfold jG
    rw [if_pos (by simp; omega)]
    simp only [zAB hi,Option.bind_some]
    have hq:(if decide ((bl s)[i]<48)=true then some true else some (decide ((bl s)[i]>57)))=some (!zBl (bl s)[i]):=by
     unfold zBl
     by_cases a:(bl s)[i]<48
     ·have b:¬((bl s)[i]≥48):=by omega
      simp [a,b]
     ·have b:(bl s)[i]≥48:=by omega
      by_cases c:(bl s)[i]>57
      ·have d:¬((bl s)[i]≤57):=by omega
       simp [a,b,c,d]
      ·have d:(bl s)[i]≤57:=by omega
       simp [a,b,c,d]
    rw [hq]
    simp only [Option.bind_some]
    cases hc:zBl (bl s)[i] with
    |false=>exact .inr ⟨_,rfl,rfl,fun h=>by have:=h _ (List.getElem_mem hi); rw [hc] at this; cases this⟩
    |true=>
     have hc':=hc
     simp only [zBl,Bool.and_eq_true,decide_eq_true_eq] at hc'
     rw [wrap_u8 (by omega) (by omega),xZ (x:=(bl s)[i]-48) (by omega) (by omega),xZ (x:=10*val ((bl s).take i)) (by omega) (by omega),xZ (by omega) (by omega),wK (by omega)]
     refine .inl ⟨_,rfl,by rw [List.take_succ_eq_append_getElem hi,zA8,Int.mul_comm],fun c hcm=>?_⟩
     rw [List.take_succ_eq_append_getElem hi] at hcm
     rcases List.mem_append.1 hcm with h|h
     ·exact hd c h
     ·simp at h; rw [h]; exact hc) (by
    rintro q ⟨rfl,hd⟩
    unfold jG
    rw [if_neg (by simp; omega)]
    rw [List.take_length] at hd ⊢
    exact ⟨_,rfl,rfl,hd⟩) (bl s).length 0 (0,0) (by omega) ⟨by simp [val],by simp⟩
   unfold jS
   rw [e]
   cases t with
   |ret r=>
    obtain ⟨rfl,h⟩:=ht
    rw [if_pos (.inr (.inr h))]
    rfl
   |nxt v=>
    obtain ⟨rfl,h⟩:=ht
    rw [if_neg (fun h'=>by rcases h' with h'|h'|h'<;>first|omega|exact h' h)]
    rfl
theorem zIB {l:List Int} (h:∀c∈l,zBl c=true):zBb (10^l.length+(val l).toNat)=49::l:=by
 revert h
 refine zCB (P:=fun l=>(∀c∈l,zBl c=true)→zBb (10^l.length+(val l).toNat)=49::l) ?_ ?_ l
 ·intro _; rw [jL (by decide)]; rfl
 ·intro l c ih h
  have hl:∀c∈l,zBl c=true:=fun x hx=>h x (by simp [hx])
  have hb:=zAj hl
  have hc:=h c (by simp)
  simp only [zBl,Bool.and_eq_true,decide_eq_true_eq] at hc
  have e1:(val (l++[c])).toNat =(val l).toNat *10+(c-48).toNat :=by rw [zA8]; omega
  have e2:10^(l++[c]).length =10^l.length*10:=by rw [List.length_append,List.length_singleton,Nat.pow_succ]
  have hp:1≤10^l.length:=Nat.one_le_pow _ _ (by omega)
  rw [e1,e2,zAI (by omega)]
  have e3:(10^l.length*10+((val l).toNat *10+(c-48).toNat)) / 10=10^l.length+(val l).toNat :=by omega
  have e4:(10^l.length*10+((val l).toNat *10+(c-48).toNat))%10=(c-48).toNat :=by omega
  rw [e3,e4,ih hl,List.cons_append]
  congr 3
  omega
def zJz:List Int:=[103,101,110,47]
theorem zHT:bl (bs [103,101,110,47])=zJz:=zA2 _
theorem zG2 (n:Int):∃s,zAY n=some s∧bl s=(if 1≤n∧n≤999999 then zJz++(zBb (1000000+n.toNat)).drop 1 else []):=by
 unfold zAY
 rw [zJZ]
 simp only [Option.bind_some]
 by_cases h:1≤n∧n≤999999
 ·rw [if_pos h]
  have hb:(decide (n≥1)&&decide (n≤999999))=true:=by simp; omega
  rw [hb]
  rw [xZ (by omega) (by omega),show (1000000:Int)+n=((1000000+n.toNat:Nat):Int) by omega]
  obtain ⟨s,e,hs⟩:=zDC (1000000+n.toNat) (by omega)
  have hlen:(zBb (1000000+n.toNat)).length =7:=zB7 6 _ (by omega) (by omega)
  have hsz:s.size=7:=by rw [←zG,hs,hlen]
  rw [e]
  simp only [Bool.not_true,Bool.false_eq_true,if_false,Option.bind_some]
  unfold zCg
  rw [if_pos (by omega)]
  simp only [Option.bind_some]
  have hx:(s.extract (1:Int).toNat ((s.size:Int)).toNat).size =6:=by
   rw [←zG,yI,List.length_take,List.length_drop,hs,hlen,hsz]
   rfl
  unfold cat
  rw [if_pos (by have:(bs [103,101,110,47]).size =4:=rfl; omega)]
  refine ⟨_,rfl,?_⟩
  rw [yQ,zHT,yI,hs]
  congr 1
  rw [List.take_of_length_le (by rw [List.length_drop,hlen,hsz]; decide)]
  rfl
 ·rw [if_neg h]
  have hb:(decide (n≥1)&&decide (n≤999999))=false:=by
   simp only [Bool.and_eq_false_iff,decide_eq_false_iff_not]; omega
  rw [hb]
  exact ⟨_,rfl,zA2 _⟩
def kP (l:List Int):Option Int:=match zEj (l.drop 4) 6 with
 |some n=>if n≥1∧l.length=10 then some n else none
 |none=>none
theorem zJ1 {l:List Int} (hp:l.take 4=zJz) (hl:4≤l.length) {n:Int} (h:zEj (l.drop 4) 6=some n):
  (if 1≤n∧n≤999999 then zJz++(zBb (1000000+n.toNat)).drop 1 else [])=l↔(n≥1∧l.length=10):=by
 unfold zEj at h
 split at h
 ·cases h
 ·rename_i hc
  cases h
  have hc1:1≤(l.drop 4).length :=by omega
  have hc2:(l.drop 4).length ≤6:=by omega
  have hd:∀c∈l.drop 4,zBl c=true:=Classical.byContradiction fun h=>hc (.inr (.inr h))
  have hb:=zAj hd
  have hle:val (l.drop 4)≤999999:=by
   have:(10:Nat)^(l.drop 4).length ≤10^6:=Nat.pow_le_pow_right (by omega) hc2
   have e:(((10:Nat)^(l.drop 4).length :Nat):Int)=(10:Int)^(l.drop 4).length :=by simp
   omega
  have hll:l.length=4+(l.drop 4).length :=by simp; omega
  by_cases hn:1≤val (l.drop 4)
  ·rw [if_pos ⟨hn,hle⟩]
   constructor
   ·intro e
    refine ⟨hn,?_⟩
    rw [←e,List.length_append,List.length_drop,zB7 6 _ (by omega) (by omega)]
    rfl
   ·rintro ⟨_,h10⟩
    have h6:(l.drop 4).length =6:=by omega
    have key:=zIB hd
    rw [h6,show (10:Nat)^6=1000000 from rfl] at key
    rw [key,←hp]
    simp
  ·rw [if_neg (by omega)]
   constructor
   ·intro e
    rw [←e] at hll
    simp at hll
   ·rintro ⟨h',_⟩; omega
theorem zAT {s p:ByteArray} (h:begins s p=true):(bl s).take (bl p).length =bl p∧(bl p).length ≤(bl s).length :=by
 unfold begins at h
 simp only [Bool.and_eq_true,decide_eq_true_eq] at h
 have:=zAR.1 h.2
 refine ⟨?_,by rw [zG,zG]; exact h.1⟩
 have e:=congrArg bl this
 rw [yI] at e
 simpa [zG] using e
theorem zBF {fs:List File} {p:ByteArray}:∀s∈wC fs p,begins s p=true:=by
 intro s hs
 unfold wC at hs
 obtain ⟨f,hf,rfl⟩:=List.mem_map.1 hs
 exact (List.mem_filter.1 hf).2
def zBX (fs:List File):List Int:=(wC fs (bs [103,101,110,47])).filterMap (fun p=>kP (bl p))
theorem zCO {ps:List ByteArray} (h:∀s∈ps,begins s (bs [103,101,110,47])=true) {i:Nat} (hi:i<ps.length):(bl ps[i]).take 4=zJz∧4≤(bl ps[i]).length :=by
 have:=zAT (h _ (List.getElem_mem hi))
 rw [zHT] at this
 exact this
theorem zEV {s:ByteArray} {k:Nat} (h:k≤s.size):∃t,zCg s (k:Int) (s.size:Int)=some t∧bl t=(bl s).drop k:=by
 unfold zCg
 rw [if_pos (by omega)]
 refine ⟨_,rfl,?_⟩
 rw [yI]
 simp only [Int.toNat_natCast]
 rw [List.take_of_length_le (by rw [List.length_drop,zG]; exact Nat.le_refl _)]
theorem zHo {f:ByteArray→Option Int}:∀(l:List ByteArray),(l.filterMap f).length ≤l.length:=fun l=>List.length_filterMap_le f l
theorem zHD (d:zF) (h:d.Files.length≤1048576):zBE d=some (zBX d.Files):=by
 unfold zBE zBX
 rw [zDI d _ h]
 simp only [Option.bind_some]
 have hm:=zBF (fs:=d.Files) (p:=bs [103,101,110,47])
 have hlen:=zAb d.Files (bs [103,101,110,47])
 generalize wC d.Files (bs [103,101,110,47])=ps at*
 obtain ⟨t,e,rfl⟩:=kD (b:=kN d ps) (fun i s=>s=((ps.take i).filterMap (fun p=>kP (bl p)),(i:Int))) ps.length (fun t=>t=ps.filterMap (fun p=>kP (bl p))) (by
  rintro i s hi rfl
  obtain ⟨hp,h4⟩:=zCO hm hi
  have hsz:4≤ps[i].size :=by rw [←zG]; exact h4
  obtain ⟨u,hu,hub⟩:=zEV (s:=ps[i]) (k:=4) hsz
  have hu':zCg ps[i] 4 (ps[i].size :Int)=some u:=hu
  have hfl:=zHo (f:=fun p=>kP (bl p)) (ps.take i)
  have hil:(ps.take i).length ≤i:=by simp; omega
  have ha:∀x:Int,app 8 ((ps.take i).filterMap (fun p=>kP (bl p))) [x]=some ((ps.take i).filterMap (fun p=>kP (bl p))++[x]):=fun x=>zBu (by simp; omega) (by simp; omega)
  have hsplit:(ps.take (i+1)).filterMap (fun p=>kP (bl p))=(ps.take i).filterMap (fun p=>kP (bl p))++[ps[i]].filterMap (fun p=>kP (bl p)):=by
   rw [List.take_succ_eq_append_getElem hi,List.filterMap_append]
  unfold kN
  rw [if_pos (by simp; omega)]
  simp only [xD hi,Option.bind_some,hu',zFJ u 6 (by omega),hub,wK (show i<9223372036854775807 by omega)]
  left
  cases hn:zEj ((bl ps[i]).drop 4) 6 with
  |none=>
   refine ⟨_,rfl,?_⟩
   rw [hsplit]
   simp [kP,hn]
  |some n=>
   obtain ⟨g,hg,hgb⟩:=zG2 n
   have hiff:=zJ1 hp h4 hn
   rw [←hgb] at hiff
   simp only [if_true,hg,Option.bind_some]
   rw [zA3]
   by_cases hc:n≥1∧(bl ps[i]).length =10
   ·rw [decide_eq_true (hiff.2 hc)]
    simp only [Option.bind_some,if_true,ha]
    refine ⟨_,rfl,?_⟩
    rw [hsplit]
    simp [kP,hn,hc]
   ·rw [decide_eq_false (fun e=>hc (hiff.1 e))]
    refine ⟨_,rfl,?_⟩
    rw [hsplit]
    simp only [List.filterMap_cons,kP,hn,if_neg hc,List.filterMap_nil,List.append_nil]) (by
  rintro s rfl
  unfold kN
  rw [if_neg (by simp)]
  exact ⟨_,rfl,by simp⟩) ps.length 0 ([],0) (by omega) (by simp)
 simp only [zB4,e,Option.bind_some]
theorem zH2 (d:zF) (h:d.Files.length≤1048576):wN d=some (zBX d.Files):=by
 unfold wN zBX
 rw [zGx,zDI d _ h]
 simp only [Option.bind_some]
 have hm:=zBF (fs:=d.Files) (p:=bs [103,101,110,47])
 have hlen:=zAb d.Files (bs [103,101,110,47])
 generalize wC d.Files (bs [103,101,110,47])=ps at*
 obtain ⟨t,e,rfl⟩:=kD (b:=vW ps) (fun i s=>s=((ps.take i).filterMap (fun p=>kP (bl p)),(i:Int))) ps.length (fun t=>t=ps.filterMap (fun p=>kP (bl p))) (by
  rintro i s hi rfl
  obtain ⟨hp,h4⟩:=zCO hm hi
  have hsz:4≤ps[i].size :=by rw [←zG]; exact h4
  obtain ⟨u,hu,hub⟩:=zEV (s:=ps[i]) (k:=4) hsz
  have hu':zCg ps[i] 4 (ps[i].size :Int)=some u:=hu
  have hfl:=zHo (f:=fun p=>kP (bl p)) (ps.take i)
  have hil:(ps.take i).length ≤i:=by simp; omega
  have ha:∀x:Int,app 8 ((ps.take i).filterMap (fun p=>kP (bl p))) [x]=some ((ps.take i).filterMap (fun p=>kP (bl p))++[x]):=fun x=>zBu (by simp; omega) (by simp; omega)
  have hsplit:(ps.take (i+1)).filterMap (fun p=>kP (bl p))=(ps.take i).filterMap (fun p=>kP (bl p))++[ps[i]].filterMap (fun p=>kP (bl p)):=by
   rw [List.take_succ_eq_append_getElem hi,List.filterMap_append]
  unfold vW
  rw [if_pos (by simp; omega)]
  simp only [xD hi,Option.bind_some,hu',number_eq u 6 (by omega),hub,wK (show i<9223372036854775807 by omega)]
  left
  cases hn:zEj ((bl ps[i]).drop 4) 6 with
  |none=>
   refine ⟨_,rfl,?_⟩
   rw [hsplit]
   simp [kP,hn]
  |some n=>
   have hbl:((ps[i].size :Int)==10)=decide ((bl ps[i]).length =10):=by
    rw [zG,Bool.eq_iff_iff]; simp; omega
   simp only [hbl]
   by_cases h1:n≥1
   ·rw [if_pos (by simpa using h1)]
    by_cases h2:(bl ps[i]).length =10
    ·rw [decide_eq_true h2]
     simp only [Option.bind_some,if_true,ha]
     refine ⟨_,rfl,?_⟩
     rw [hsplit]
     simp [kP,hn,h1,h2]
    ·rw [decide_eq_false h2]
     refine ⟨_,rfl,?_⟩
     rw [hsplit]
     simp [kP,hn,h2]
   ·rw [if_neg (by simpa using h1)]
    refine ⟨_,rfl,?_⟩
    rw [hsplit]
    simp only [List.filterMap_cons,kP,hn,if_neg (fun h':n≥1∧(bl ps[i]).length =10=>h1 h'.1),List.filterMap_nil,List.append_nil]) (by
  rintro s rfl
  unfold vW
  rw [if_neg (by simp)]
  exact ⟨_,rfl,by simp⟩) ps.length 0 ([],0) (by omega) (by simp)
 simp only [uS,e,Option.bind_some]
theorem zEF (fs:List File):(zBX fs).length ≤fs.length:=by
 unfold zBX
 have h1:=zHo (f:=fun p=>kP (bl p)) (wC fs (bs [103,101,110,47]))
 have h2:=zAb fs (bs [103,101,110,47])
 omega
def zE4:List Int→List Int→Bool
 |_,[]=>false
 |[],_::_=>true
 |a::x,b::y=>decide (a<b)||(a==b&&zE4 x y)
theorem zCS (a b:ByteArray):slt a b=zE4 (bl a) (bl b):=by
 unfold slt bl
 generalize a.toList=x
 generalize b.toList=y
 induction x generalizing y with
 |nil=>cases y<;>rfl
 |cons u x ih=>
  cases y with
  |nil=>rfl
  |cons v y=>
   simp only [Op.bytesLess,List.map_cons,zE4,ih y]
   congr 1
   ·rw [Bool.eq_iff_iff]; simp [UInt8.lt_iff_toNat_lt]
   ·congr 1
    rw [Bool.eq_iff_iff]
    simp only [beq_iff_eq]
    constructor
    ·intro h; rw [h]
    ·intro h; exact UInt8.toNat_inj.1 (by omega)
theorem zFY (x:Int) (l:List Int):val (x::l)=(x-48)*10^l.length+val l:=by
 refine zCB (P:=fun l=>val (x::l)=(x-48)*10^l.length+val l) ?_ ?_ l
 ·simp [val]
 ·intro l c ih
  rw [←List.cons_append,zA8,zA8,ih,List.length_append,List.length_singleton,Int.pow_succ]
  rw [Int.add_mul,Int.mul_assoc]
  omega
theorem zFX:∀{a b:List Int},a.length=b.length→(∀c∈a,zBl c=true)→(∀c∈b,zBl c=true)→zE4 a b=true→val a<val b
 |[],[],_,_,_,h=>by simp [zE4] at h
 |x::a,y::b,hl,ha,hb,h=>by
  have hl':a.length=b.length:=by simpa using hl
  have ba:=zAj (l:=a) (fun c hc=>ha c (by simp [hc]))
  have bb:=zAj (l:=b) (fun c hc=>hb c (by simp [hc]))
  rw [zFY,zFY,hl']
  rw [hl'] at ba
  simp only [zE4,Bool.or_eq_true,decide_eq_true_eq,Bool.and_eq_true,beq_iff_eq] at h
  rcases h with h|⟨rfl,h⟩
  ·have e:(y-48)*10^b.length=(x-48)*10^b.length+(y-x)*10^b.length:=by rw [←Int.add_mul]; congr 1; omega
   have:1*(10:Int)^b.length≤(y-x)*10^b.length:=Int.mul_le_mul_of_nonneg_right (by omega) (by omega)
   omega
  ·have:=zFX hl' (fun c hc=>ha c (by simp [hc])) (fun c hc=>hb c (by simp [hc])) h
   omega
 |[],_::_,hl,_,_,_=>by simp at hl
 |_::_,[],hl,_,_,_=>by simp at hl
theorem zC0:∀(p a b:List Int),zE4 (p++a) (p++b)=zE4 a b
 |[],_,_=>rfl
 |x::p,a,b=>by simp [zE4,zC0 p a b]
theorem zCu {l:List Int} {n:Int} (h:kP l=some n):l.length=10∧(∀c∈l.drop 4,zBl c=true)∧n=val (l.drop 4)∧1≤n∧n≤999999:=by
 unfold kP at h
 cases hn:zEj (l.drop 4) 6 with
 |none=>rw [hn] at h; cases h
 |some m=>
  rw [hn] at h
  simp only at h
  split at h
  ·rename_i hc
   cases h
   unfold zEj at hn
   split at hn
   ·cases hn
   ·rename_i hc2
    cases hn
    have hd:∀c∈l.drop 4,zBl c=true:=Classical.byContradiction fun h=>hc2 (.inr (.inr h))
    have hb:=zAj hd
    have h6:(l.drop 4).length =6:=by rw [List.length_drop,hc.2]
    rw [h6] at hb
    exact ⟨hc.2,hd,rfl,hc.1,by omega⟩
  ·cases h
theorem zH3 {fs:List File} {n:Int} (h:n∈zBX fs):1≤n∧n≤999999:=by
 unfold zBX at h
 obtain ⟨p,_,hp⟩:=List.mem_filterMap.1 h
 exact (zCu hp).2.2.2
theorem zEJ {fs:List File} (hs:fs.Pairwise (fun f g=>slt f.Path g.Path=true)):(zBX fs).Pairwise (· < ·):=by
 unfold zBX
 have h1:(wC fs (bs [103,101,110,47])).Pairwise (fun a b=>slt a b=true):=by
  unfold wC
  rw [List.pairwise_map]
  exact List.Pairwise.filter _ hs
 have h2:=zBF (fs:=fs) (p:=bs [103,101,110,47])
 generalize wC fs (bs [103,101,110,47])=ps at*
 rw [List.pairwise_filterMap]
 refine List.Pairwise.imp_of_mem ?_ h1
 intro a b ha hb hab x hx y hy
 obtain ⟨a1,a2,rfl,_,_⟩:=zCu hx
 obtain ⟨b1,b2,rfl,_,_⟩:=zCu hy
 have pa:=zAT (h2 a ha)
 have pb:=zAT (h2 b hb)
 rw [zHT] at pa pb
 refine zFX (by rw [List.length_drop,List.length_drop,a1,b1]) a2 b2 ?_
 rw [zCS,←List.take_append_drop 4 (bl a),←List.take_append_drop 4 (bl b)] at hab
 rw [show (bl a).take 4=zJz from pa.1,show (bl b).take 4=zJz from pb.1,zC0] at hab
 exact hab
theorem zFa {l:List Int} (h:∀c∈l,0≤c∧c≤255):bl (b2s l)=l:=by
 refine (zCB (P:=fun l=>(∀c∈l,0≤c∧c≤255)→bl (b2s l)=l) ?_ ?_ l) h
 ·intro _; exact zA2 []
 ·intro l c ih h
  have e:b2s (l++[c])=b2s l++b2s [c]:=by
   unfold b2s
   rw [List.foldl_append]
   generalize List.foldl (fun r n=>ByteArray.push r (UInt8.ofNat n.toNat)) ByteArray.empty l=x
   simp only [List.foldl_cons,List.foldl_nil]
   generalize UInt8.ofNat c.toNat=u
   apply toList_inj
   rw [ByteArray.toList_eq,ByteArray.toList_eq]
   simp
  rw [e,yQ,ih (fun x hx=>h x (by simp [hx])),zFC (h c (by simp)).1 (h c (by simp)).2]
theorem zIs (l:List Int) (v:Int) (h:l.length≤1048576):yP l v=some (decide (v∈l)):=by
 obtain ⟨t,e,ht⟩:=kD (b:=xR l v) (fun i s=>s=(i:Int)∧v∉l.take i) l.length (fun t=>match t with| .ret r=>0≤r∧v∈l| .nxt _=>v∉l) (by
  rintro i s hi ⟨rfl,hv⟩
  unfold xR
  rw [if_pos (by simp; omega)]
  simp only [xD hi,Option.bind_some]
  by_cases hc:v=l[i]
  ·rw [if_pos (by simpa using hc)]
   exact .inr ⟨_,rfl,by omega,hc▸List.getElem_mem hi⟩
  ·rw [if_neg (by simpa using hc),wK (by omega)]
   refine .inl ⟨_,rfl,rfl,?_⟩
   rw [List.take_succ_eq_append_getElem hi]
   simp only [List.mem_append,List.mem_singleton,not_or]
   exact ⟨hv,hc⟩) (by
  rintro s ⟨rfl,hv⟩
  unfold xR
  rw [if_neg (by simp)]
  rw [List.take_length] at hv
  exact ⟨_,rfl,hv⟩) l.length 0 0 (by omega) ⟨rfl,by simp⟩
 unfold yP wJ
 rw [show wB l v 0=some t from e]
 cases t with
 |ret r=>obtain ⟨h0,hm⟩:=ht; simp [Fl.go,hm,h0]
 |nxt _=>simp only [Fl.go,Option.bind_some]; rw [decide_eq_false ht]; rfl
theorem zHJ {fs:List File} {p:ByteArray} {k:Nat} (hs:fs.Pairwise (fun f g=>slt f.Path g.Path=true)) (hk:k<fs.length) (hp:fs[k].Path =p):fs.find? (fun f=>decide (f.Path=p))=some fs[k]:=by
 rw [List.find?_eq_some_iff_getElem]
 refine ⟨by simp [hp],k,hk,rfl,fun j hj=>?_⟩
 simp only [Bool.not_eq_eq_eq_not,Bool.not_true,decide_eq_false_iff_not]
 intro e
 have:=zBk hs (by omega) hk (e.trans hp.symm)
 omega
theorem zHs {fs:List File} {p:ByteArray} (h:∀f∈fs,f.Path≠p):fs.find? (fun f=>decide (f.Path=p))=none:=by
 rw [List.find?_eq_none]
 intro f hf
 simpa using h f hf
def zHd (c:Int):Bool:=decide (97≤c)&&decide (c≤122)
def zDV (c:Int):Bool:=decide (48≤c)&&decide (c≤57)
def zCN (c:Int):Bool:=zHd c||(zDV c||c==95)
theorem zDk (c:Int):xH c=some (zHd c):=by
 unfold xH zHd
 by_cases h:c≥97<;>simp [h]
theorem zG9 (c:Int):xW c=some (zDV c):=by
 unfold xW zDV
 by_cases h:c≥48<;>simp [h]
theorem zGQ (c:Int):uF c=some (zCN c):=by
 unfold uF zCN
 simp only [zDk,zG9,Option.bind_some]
 cases zHd c<;>cases zDV c<;>simp
theorem zBJ (c:Int):yC c=some (zCN c):=by
 unfold yC zCN zHd zDV
 by_cases h1:c≥97<;>by_cases h2:c≤122<;>by_cases h3:c≥48<;>by_cases h4:c≤57<;>simp [h1,h2,h3,h4]
def zCF (s:ByteArray):Int:=(jE (fun _ c=>if zCN c then none else some (5:Int)) 0 (bl s)).getD 0
def NF (s:ByteArray):Int:=if s.size<1 then 5 else if s.size>12 then 5 else if zHd ((bl s).headD 0) then zCF s else 5
theorem zHV {s:ByteArray} (h:1≤s.size):bidx s 0=some ((bl s).headD 0):=by
 have h':0< (bl s).length :=by rw [zG]; exact h
 have e:=zAB (s:=s) (i:=0) h'
 rw [show ((0:Nat):Int)=0 from rfl] at e
 rw [e]
 have:(bl s)[0]? =some ((bl s).headD 0):=by
  cases hb:bl s with
  |nil=>rw [hb] at h'; simp at h'
  |cons c l=>rfl
 rw [List.getElem?_eq_getElem h'] at this
 exact this
theorem zEi (s:ByteArray) (h:s.size≤12):vE s 0=some (frs (jE (fun _ c=>if zCN c then none else some (5:Int)) 0 (bl s))):=by
 unfold vE
 refine zAi (bl s) _ (fun i hi=>?_) ?_
 ·have hs:i<s.size:=by rw [←zG]; exact hi
  unfold tQ
  rw [if_pos (by simp; omega),zAB hi]
  simp only [Option.bind_some,zGQ]
  rw [wK (by omega)]
  cases zCN (bl s)[i]<;>rfl
 ·unfold tQ
  rw [if_neg (by rw [zG]; simp)]
theorem zE6 (s:ByteArray) (h:s.size≤12):vD s 0=some (frs (jE (fun _ c=>if zCN c then none else some (5:Int)) 0 (bl s))):=by
 unfold vD
 refine zAi (bl s) _ (fun i hi=>?_) ?_
 ·have hs:i<s.size:=by rw [←zG]; exact hi
  unfold tV
  rw [if_pos (by simp; omega),zAB hi]
  simp only [Option.bind_some,zBJ]
  rw [wK (by omega)]
  cases zCN (bl s)[i]<;>rfl
 ·unfold tV
  rw [if_neg (by rw [zG]; simp)]
theorem zD1 (s:ByteArray):uL s=some (NF s):=by
 unfold uL NF
 by_cases h1:s.size<1
 ·rw [if_pos (show decide ((s.size:Int)<1)=true by rw [decide_eq_true_eq]; omega),if_pos h1]; rfl
 rw [if_neg (show ¬decide ((s.size:Int)<1)=true by rw [decide_eq_true_eq]; omega),if_neg h1]
 by_cases h2:s.size>12
 ·rw [if_pos (show decide ((s.size:Int)>12)=true by rw [decide_eq_true_eq]; omega),if_pos h2]; rfl
 rw [if_neg (show ¬decide ((s.size:Int)>12)=true by rw [decide_eq_true_eq]; omega),if_neg h2,zHV (by omega),zEi s (by omega)]
 simp only [Option.bind_some,zDk]
 cases h3:zHd ((bl s).headD 0)
 ·rfl
 ·unfold zCF
  cases jE (fun _ c=>if zCN c then none else some (5:Int)) 0 (bl s)<;>rfl
theorem zIx (c:Int):(if decide (c<97)=true then some true else some (decide (c>122)))=some (!(zHd c)):=by
 unfold zHd
 by_cases h3:c<97
 ·rw [if_pos (by rw [decide_eq_true_eq]; exact h3)]
  have:decide (97≤c)=false:=by rw [decide_eq_false_iff_not]; omega
  rw [this]; rfl
 ·rw [if_neg (by rw [decide_eq_true_eq]; exact h3)]
  have:decide (97≤c)=true:=by rw [decide_eq_true_eq]; omega
  rw [this]
  congr 1
  rw [Bool.true_and,Bool.eq_iff_iff]
  simp
theorem zBw (s:ByteArray):wM s=some (NF s):=by
 unfold wM NF
 by_cases h1:s.size<1
 ·rw [if_pos (show decide ((s.size:Int)<1)=true by rw [decide_eq_true_eq]; omega),if_pos h1]; rfl
 rw [if_neg (show ¬decide ((s.size:Int)<1)=true by rw [decide_eq_true_eq]; omega),if_neg h1]
 by_cases h2:s.size>12
 ·rw [if_pos (show decide ((s.size:Int)>12)=true by rw [decide_eq_true_eq]; omega),if_pos h2]; rfl
 rw [if_neg (show ¬decide ((s.size:Int)>12)=true by rw [decide_eq_true_eq]; omega),if_neg h2,zHV (by omega),zE6 s (by omega)]
 simp only [Option.bind_some,zIx]
 cases h3:zHd ((bl s).headD 0)
 ·rfl
 ·unfold zCF
  cases jE (fun _ c=>if zCN c then none else some (5:Int)) 0 (bl s)<;>rfl
def VF (v:Version):Int:=if inB v.A 0 999&&inB v.B 0 999&&inB v.C 0 999 then 0 else 3
theorem zCk (v:Version):yX v=some (VF v):=by
 unfold yX VF
 simp only [zJt,Option.bind_some]
 cases inB v.A 0 999<;>cases inB v.B 0 999<;>cases inB v.C 0 999<;>rfl
theorem zCl (v:Version):xB v=some (VF v):=by
 unfold xB VF
 simp only [zFm,Option.bind_some]
 cases inB v.A 0 999<;>cases inB v.B 0 999<;>cases inB v.C 0 999<;>rfl
def sgn (a b:Int):Int:=if a<b then-1 else if a>b then 1 else 0
theorem zHq (a b:Int):vR a b=some (sgn a b):=by
 unfold vR sgn
 by_cases h:a<b
 ·simp [h]
 ·by_cases h2:a>b<;>simp [h,h2]
theorem cmp_eq (a b:Int):yL a b=some (sgn a b):=by
 unfold yL wO sgn
 simp only [Option.bind_some,bne_self_eq_false,Bool.false_eq_true,if_false]
 by_cases h:a<b
 ·simp [h]
 ·by_cases h2:a>b<;>simp [h,h2]
def zIe (a b:Version):Int:=if sgn a.A b.A≠0 then sgn a.A b.A else if sgn a.B b.B≠0 then sgn a.B b.B else sgn a.C b.C
theorem zBp (a b:Version):xC a b=some (zIe a b):=by
 unfold xC zIe
 simp only [zHq,Option.bind_some]
 by_cases h1:sgn a.A b.A=0
 ·by_cases h2:sgn a.B b.B=0<;>simp [h1,h2]
 ·simp [h1]
theorem zJy (l:List Int) (h:l.length≤10):loop (jU l) 0=some (frs (jE (fun _ c=>if c !=0 then some c else none) 0 l)):=by
 refine zAi l _ (fun i hi=>?_) ?_
 ·unfold jU
  rw [if_pos (by simp; omega),xD hi]
  simp only [Option.bind_some]
  rw [wK (by omega)]
  cases l[i] !=0<;>rfl
 ·unfold jU
  rw [if_neg (by simp)]
theorem zFe (a b:Version):tX a b=some (zIe a b):=by
 unfold tX zIe zAn kS
 simp only [cmp_eq,Option.bind_some]
 rw [zJy _ (by simp),zEW]
 by_cases h1:sgn a.A b.A=0
 ·by_cases h2:sgn a.B b.B=0
  ·by_cases h3:sgn a.C b.C=0<;>simp [h1,h2,h3,jE]
  ·simp [h1,h2,jE]
 ·simp [h1,jE]
def eqV (a b:Version):Bool:=a.A==b.A&&(a.B==b.B&&(a.C==b.C&&true))
theorem zHL (a b:Version):eqV a b=true↔a=b:=by
 unfold eqV
 cases a; cases b
 simp [Version.mk.injEq]
def zEw:Version:= {A:=1000,B:=0,C:=0}
def TF (t:Term):Int:=if NF t.Name≠0 then NF t.Name else if VF t.Low≠0 then VF t.Low else
 if eqV t.High zEw=false∧VF t.High≠0 then 3 else if zIe t.Low t.High≥0 then 1 else 0
theorem zD7 (t:Term):uJ t=some (TF t):=by
 unfold uJ TF tJ
 simp only [zD1,zCk,zBp,Option.bind_some]
 show (if (NF t.Name !=0)=true then some (NF t.Name) else if (VF t.Low !=0)=true then some (VF t.Low) else (if (!(eqV t.High zEw))=true then some (VF t.High !=0) else some false).bind fun v=>if v=true then some 3 else if decide (zIe t.Low t.High≥0)=true then some 1 else some 0)=_
 generalize NF t.Name=a
 generalize VF t.Low=b
 generalize eqV t.High zEw=c
 generalize VF t.High=d
 generalize zIe t.Low t.High=e
 by_cases h1:a=0
 ·by_cases h2:b=0
  ·by_cases h4:d=0<;>by_cases h5:e≥0<;>cases c<;>simp [h1,h2,h4,h5]
  ·simp [h1,h2]
 ·simp [h1]
theorem zAz (t:Term):yV t=some (TF t):=by
 unfold yV TF jP
 simp only [zBw,zCl,zFe,Option.bind_some]
 show (if (NF t.Name !=0)=true then some (NF t.Name) else if (VF t.Low !=0)=true then some (VF t.Low) else (if (!(eqV t.High zEw))=true then some (VF t.High !=0) else some false).bind fun v=>if v=true then some 3 else if decide (zIe t.Low t.High≥0)=true then some 1 else some 0)=_
 generalize NF t.Name=a
 generalize VF t.Low=b
 generalize eqV t.High zEw=c
 generalize VF t.High=d
 generalize zIe t.Low t.High=e
 by_cases h1:a=0
 ·by_cases h2:b=0
  ·by_cases h4:d=0<;>by_cases h5:e≥0<;>cases c<;>simp [h1,h2,h4,h5]
  ·simp [h1,h2]
 ·simp [h1]
def tsF (l:List Term):Int:=(jE (fun _ t=>if TF t !=0 then some (TF t) else none) 0 l).getD 0
theorem zDl (l:List Term) (h:l.length≤1048576):vS l=some (tsF l):=by
 have key:=zAi l (fun _ t=>if TF t !=0 then some (TF t) else none) (b:=vQ l) (by
  intro i hi
  unfold vQ
  rw [if_pos (by simp; omega),xD hi]
  simp only [Option.bind_some,zAz]
  rw [wK (by omega)]
  cases TF l[i] !=0<;>rfl) (by
  unfold vQ
  rw [if_neg (by simp)])
 unfold vS uD tsF
 rw [key,zEW]
 cases jE (fun _ t=>if TF t !=0 then some (TF t) else none) 0 l<;>rfl
theorem zA4 {n:Nat} (h:n<1000):(zFT n).size ≤3:=by
 rw [←zG,zCt]
 exact zCU 2 n (by omega)
theorem zBI:(bs [46]).size =1:=rfl
def zD8 (v:Version):ByteArray:=zFT v.A.toNat++bs [46]++zFT v.B.toNat++bs [46]++zFT v.C.toNat
theorem zFr {v:Version} (h:VF v=0):(0≤v.A∧v.A≤999)∧(0≤v.B∧v.B≤999)∧(0≤v.C∧v.C≤999):=by
 unfold VF inB at h
 split at h
 ·rename_i hh
  simp only [Bool.and_eq_true,decide_eq_true_eq] at hh
  omega
 ·cases h
theorem zBN {v:Version} (h:VF v=0):(zD8 v).size ≤11:=by
 obtain ⟨h1,h2,h3⟩:=zFr h
 unfold zD8
 simp only [jD,zBI]
 have a1:=zA4 (n:=v.A.toNat) (by omega)
 have a2:=zA4 (n:=v.B.toNat) (by omega)
 have a3:=zA4 (n:=v.C.toNat) (by omega)
 omega
theorem zEm {x:Int} (h:0≤x∧x≤999):tO x=some (zFT x.toNat):=by
 have:=zC2 x.toNat (by omega)
 rw [Int.toNat_of_nonneg h.1] at this
 unfold tO
 rw [this]
 rfl
theorem zEU {v:Version} (h:VF v=0):yK v=some (zD8 v):=by
 obtain ⟨h1,h2,h3⟩:=zFr h
 have a1:=zA4 (n:=v.A.toNat) (by omega)
 have a2:=zA4 (n:=v.B.toNat) (by omega)
 have a3:=zA4 (n:=v.C.toNat) (by omega)
 unfold yK zD8
 simp only [Option.bind_some,zEm h1,zEm h2,zEm h3]
 rw [zAM (by rw [zBI]; omega)]
 simp only [Option.bind_some]
 rw [zAM (by simp only [jD,zBI]; omega)]
 simp only [Option.bind_some]
 rw [zAM (by simp only [jD,zBI]; omega)]
 simp only [Option.bind_some]
 rw [zAM (by simp only [jD,zBI]; omega)]
 rfl
theorem zHM {s:ByteArray} (h:NF s=0):1≤s.size∧s.size≤12:=by
 unfold NF at h
 split at h
 ·cases h
 ·split at h
  ·cases h
  ·omega
def zeroV:Version:= {A:=0,B:=0,C:=0}
def zBH (t:Term):ByteArray:=if eqV t.Low zeroV then bs [] else bs [62,61]++zD8 t.Low
def zAE (t:Term):ByteArray:=if eqV t.High zEw then bs [] else bs [60]++zD8 t.High
def zBr (t:Term):ByteArray:=t.Name++(zBH t++zAE t)
theorem zAO:bl (bs [])=[]:=by unfold bl; rw [ByteArray.toList_eq]; rfl
theorem zIY (a:ByteArray):a++bs []=a:=zAK.1 (by rw [yQ,zAO,List.append_nil])
theorem zEs {t:Term} (h:TF t=0):NF t.Name=0∧VF t.Low=0∧(eqV t.High zEw=true∨VF t.High=0)∧zIe t.Low t.High<0:=by
 unfold TF at h
 split at h
 ·rename_i h1; exact absurd h h1
 rename_i h1
 split at h
 ·rename_i h2; exact absurd h h2
 rename_i h2
 split at h
 ·cases h
 rename_i h3
 split at h
 ·cases h
 rename_i h4
 refine ⟨by simpa using h1,by simpa using h2,?_,by omega⟩
 cases he:eqV t.High zEw
 ·refine .inr ?_
  by_cases hv:VF t.High=0
  ·exact hv
  ·exact absurd ⟨he,hv⟩ h3
 ·exact .inl rfl
theorem zEQ {t:Term} (h:VF t.Low=0):(zBH t).size ≤13:=by
 unfold zBH
 have hv:=zBN h
 split
 ·decide
 ·rw [jD]; have:(bs [62,61]).size =2:=rfl; omega
theorem zDE {t:Term} (h:eqV t.High zEw=true∨VF t.High=0):(zAE t).size ≤12:=by
 unfold zAE
 split
 ·decide
 ·rename_i he
  rcases h with h|h
  ·exact absurd h he
  ·have hv:=zBN h
   rw [jD]; have:(bs [60]).size =1:=rfl; omega
theorem zEf {t:Term} (h:TF t=0):(zBr t).size ≤37:=by
 obtain ⟨h1,h2,h3,_⟩:=zEs h
 have a1:=zHM h1
 have a2:=zEQ h2
 have a3:=zDE h3
 unfold zBr
 simp only [jD]
 omega
theorem zCY (t:Term):vP t=some (if TF t !=0 then bs [] else zBr t):=by
 unfold vP
 rw [zAz]
 simp only [Option.bind_some]
 cases h:TF t !=0
 case true=>rfl
 have h0:TF t=0:=by simpa using h
 obtain ⟨h1,h2,h3,_⟩:=zEs h0
 have a1:=zHM h1
 have a2:=zEQ h2
 have a3:=zDE h3
 simp only [Bool.false_eq_true,if_false,Option.bind_some,jP]
 rw [show (!(t.Low.A==0&&(t.Low.B==0&&(t.Low.C==0&&true))))= !(eqV t.Low zeroV) from rfl]
 have step1:(if (!(eqV t.Low zeroV))=true then (yK t.Low).bind fun x6=>(cat (bs [62,61]) x6).bind fun x8=>(cat t.Name x8).bind fun x10=>some x10 else some t.Name)=some (t.Name++zBH t):=by
  unfold zBH at a2 ⊢
  cases hq:eqV t.Low zeroV
  ·rw [if_pos (by rfl),zEU h2]
   have hv:=zBN h2
   have h62:(bs [62,61]).size =2:=rfl
   simp only [Option.bind_some]
   rw [zAM (by omega)]
   simp only [Option.bind_some]
   rw [zAM (by rw [jD]; omega)]
   rfl
  ·rw [if_neg (by simp)]
   rw [if_pos rfl,zIY]
 rw [step1]
 simp only [Option.bind_some]
 have step2:(if (!(eqV t.High zEw))=true then (yK t.High).bind fun x6=>(cat (bs [60]) x6).bind fun x8=>(cat (t.Name++zBH t) x8).bind fun x10=>some x10 else some (t.Name++zBH t))=some (zBr t):=by
  unfold zBr
  unfold zAE at a3 ⊢
  cases hq:eqV t.High zEw
  ·have hV:VF t.High=0:=h3.resolve_left (by rw [hq]; simp)
   have hv:=zBN hV
   have h62:(bs [60]).size =1:=rfl
   rw [if_pos (by rfl),zEU hV]
   simp only [Option.bind_some]
   rw [zAM (by omega)]
   simp only [Option.bind_some]
   rw [zAM (by simp only [jD]; omega)]
   simp only [Option.bind_some,zFU]
   rfl
  ·rw [if_neg (by simp)]
   rw [if_pos rfl,zIY]
 exact (congrArg (fun o=>Option.bind o fun v=>some v) step2)
theorem zFP:∀(l:List Term) (i:Nat),(jE (fun _ t=>if TF t !=0 then some (TF t) else none) i l).getD 0=0→∀t∈l,TF t=0
 |[],_,_=>by simp
 |t::l,i,h=>by
  simp only [jE] at h
  cases ht:TF t !=0
  ·rw [ht] at h
   have:=zFP l (i+1) (by simpa using h)
   intro x hx
   rcases List.mem_cons.1 hx with rfl|hx
   ·simpa using ht
   ·exact this x hx
  ·rw [ht] at h
   simp only [if_true,Option.getD_some] at h
   rw [h] at ht
   simp at ht
theorem zEl {l:List Term} (h:tsF l=0):∀t∈l,TF t=0:=zFP l 0 h
def zBA {α:Type} (f:α→ByteArray) (a:ByteArray) (l:List α):ByteArray:=l.foldl (fun a t=>a++f t) a
theorem zGg {α:Type} (f:α→ByteArray):∀(l:List α) (a:ByteArray),foldI (fun _ a t=>a++f t) 0 l a=zBA f a l∧∀i,foldI (fun _ a t=>a++f t) i l a=zBA f a l
 |[],a=>⟨rfl,fun _=>rfl⟩
 |x::l,a=>by
  have:=zGg f l (a++f x)
  exact ⟨this.2 1,fun i=>this.2 (i+1)⟩
theorem zHE {α:Type} (xs:List α) (f:α→ByteArray) (C:Nat) (hC:∀x∈xs,(f x).size ≤C) {b:(ByteArray×Int)→Option (Lp (ByteArray×Int) ByteArray)} (a0:ByteArray)
  (hstep:∀(i:Nat) (a:ByteArray) (hi:i<xs.length),a.size≤a0.size+i*C→b (a,(i:Int))=some (.go (a++f xs[i],((i+1:Nat):Int)))) (hend:∀a,b (a,(xs.length:Int))=some (.done a)):
  loop b (a0,0)=some (zBA f a0 xs)∧(zBA f a0 xs).size ≤a0.size+xs.length*C:=by
 have h:=zDZ xs (fun _ a t=>a++f t) (fun i a=>a.size≤a0.size+i*C) (b:=b) (fun i a hi hI=>⟨hstep i a hi hI,by
  have h:=hC _ (List.getElem_mem hi)
  simp only [jD]
  rw [Nat.add_mul]
  omega⟩) hend xs.length 0 a0 (by omega) (by omega)
 rw [List.drop_zero,(zGg f xs a0).1] at h
 exact h
theorem zEe {α:Type} (f:α→ByteArray) (C:Nat):∀(l:List α),(∀x∈l,(f x).size ≤C)→∀a,(zBA f a l).size ≤a.size+l.length*C
 |[],_,a=>by simp [zBA]
 |x::l,h,a=>by
  have h1:=zEe f C l (fun y hy=>h y (by simp [hy])) (a++f x)
  have h2:=h x (by simp)
  rw [jD] at h1
  show (zBA f (a++f x) l).size ≤_
  rw [List.length_cons,Nat.add_mul]
  omega
def zGq (t:Term):ByteArray:=zBr t++bs [10]
def zA1 (l:List Term):ByteArray:=zBA zGq (bs []) l
theorem zDS {t:Term} (h:TF t=0):(zGq t).size ≤38:=by
 unfold zGq
 have:=zEf h
 rw [jD]; have:(bs [10]).size =1:=rfl; omega
theorem zBy (l:List Term) (hl:l.length≤1048576):yU l=some (if tsF l !=0 then bs [] else zA1 l):=by
 unfold yU
 rw [zDl l hl]
 simp only [Option.bind_some]
 cases h0:tsF l !=0
 case true=>rfl
 have h:=zEl (l:=l) (by simpa using h0)
 have key:=zHE l zGq 38 (fun t ht=>zDS (h t ht)) (b:=vX l) (bs []) (fun i a hi ha=>by
  have hz:(bs []).size =0:=rfl
  have ht:=h _ (List.getElem_mem hi)
  have hts:=zEf ht
  have h10:(bs [10]).size =1:=rfl
  unfold vX
  rw [if_pos (by simp; omega),xD hi]
  simp only [Option.bind_some,zCY]
  rw [if_neg (by simp [ht]),zAM (by omega)]
  simp only [Option.bind_some]
  rw [zAM (by rw [jD]; omega)]
  simp only [Option.bind_some]
  rw [wK (by omega)]
  rfl) (fun a=>by
  unfold vX
  rw [if_neg (by simp)])
 unfold uP
 rw [key.1]
 rfl
theorem zER {α R:Type} (g:Nat→α→Option R):∀(xs:List α) (i:Nat),jE g i xs=none↔∀(j:Nat) (h:j<xs.length),g (i+j) xs[j]=none
 |[],i=>by simp [jE]
 |x::xs,i=>by
  simp only [jE]
  cases h:g i x with
  |some r=>
   simp only [reduceCtorEq,false_iff]
   intro hh
   have:=hh 0 (by simp)
   simp only [Nat.add_zero,List.getElem_cons_zero] at this
   rw [h] at this
   cases this
  |none=>
   show jE g (i+1) xs=none↔_
   rw [zER g xs (i+1)]
   constructor
   ·intro hh j hj
    cases j with
    |zero=>simpa using h
    |succ j=>
     have:=hh j (by simpa using hj)
     rw [show i+(j+1)=i+1+j by omega]
     simpa using this
   ·intro hh j hj
    have:=hh (j+1) (by simpa using hj)
    rw [show i+(j+1)=i+1+j by omega] at this
    simpa using this
theorem zIi {α:Type} {xs:List α} {i:Nat} (h:i≤xs.length):zFp xs 0 (i:Int)=some (xs.take i):=by
 have:=zH6 (xs:=xs) (l:=0) (h:=i) (by omega) h
 rw [show ((0:Nat):Int)=0 from rfl] at this
 rw [this]
 simp
theorem zCr {α R:Type} (p:α→Bool) (r:R):∀(xs:List α) (i:Nat),jE (fun _ x=>if p x then some r else none) i xs=if xs.any p then some r else none
 |[],i=>rfl
 |x::xs,i=>by
  simp only [jE]
  cases h:p x
  ·simp only [Bool.false_eq_true,if_false,List.any_cons,h,Bool.false_or]
   exact zCr p r xs (i+1)
  ·simp [h]
theorem zKj (l:List UInt8):bl ⟨l.toArray⟩=l.map (fun b=>(b.toNat:Int)):=by
 unfold bl
 rw [ByteArray.toList_eq]
theorem zEb (u:UInt8):∀(n:Nat),Lib.repeatL [u] n=List.replicate n u
 |0=>rfl
 |n+1=>by rw [Lib.repeatL,zEb u n,List.replicate_succ]; rfl
def zKr (n:Int):List Int:=[103,101,110,47]++(List.replicate (6-(zBb n.toNat).length) 48++zBb n.toNat)
theorem zHm (l:List UInt8):(bs l).data.toList =l:=rfl
def zGP (n:Int):ByteArray:=bs [103,101,110,47]++(⟨(List.replicate (6-(zBb n.toNat).length) (48:UInt8)).toArray⟩++zFT n.toNat)
theorem zEk (n:Int):bl (zGP n)=zKr n:=by
 unfold zGP zKr
 rw [yQ,yQ,zA2,zKj,zCt,List.map_replicate]
 rfl
theorem zFQ {n:Nat} (h:n≤999999):1≤(zBb n).length ∧(zBb n).length ≤6:=by
 refine ⟨?_,zCU 5 n (by omega)⟩
 by_cases hn:n<10
 ·rw [jL hn]; simp
 ·rw [zAI hn,List.length_append]; simp
theorem zDg {n:Int} (h:n≤999999):(zGP n).size =10:=by
 rw [←zG,zEk]
 unfold zKr
 have:=zFQ (n:=n.toNat) (by omega)
 simp
 omega
theorem zCj {s:ByteArray} {l h:Nat} (h1:l≤h) (h2:h≤s.size):zCg s (l:Int) (h:Int)=some (s.extract l h):=by
 unfold zCg
 rw [if_pos (by omega)]
 rfl
theorem zEY {n:Int} (h0:0≤n) (h1:n≤999999):jF n=some (zGP n):=by
 have hd:=zFQ (n:=n.toNat) (by omega)
 have hs:(zFT n.toNat).size =(zBb n.toNat).length :=by rw [←zG,zCt]
 have hf:=zC2 n.toNat (by omega)
 rw [Int.toNat_of_nonneg h0] at hf
 have h4:(bs [103,101,110,47]).size =4:=rfl
 unfold jF tO
 rw [hf]
 simp only [Option.bind_some]
 rw [hs,xZ (by omega) (by omega)]
 unfold strings_Repeat
 rw [if_pos ⟨by omega,by omega,by rw [show (bs [48]).size =1 from rfl]; omega⟩,zHm,zEb]
 simp only [Option.bind_some]
 have hr:(⟨(List.replicate (6-((zBb n.toNat).length :Int)).toNat (48:UInt8)).toArray⟩:ByteArray).size =6-(zBb n.toNat).length :=by
  rw [←zG,zKj]
  simp
 rw [zAM (by rw [hr]; omega)]
 simp only [Option.bind_some]
 rw [zAM (by rw [jD,hr]; omega)]
 unfold zGP
 rw [show (6-((zBb n.toNat).length :Int)).toNat =6-(zBb n.toNat).length by omega]
 simp only [Option.bind_some,zFU]
theorem zDs (s:ByteArray):s.data.toList.map (fun b=>(b.toNat:Int))=bl s:=by
 unfold bl
 rw [ByteArray.toList_eq]
def fileOf (d:zF) (p:ByteArray):Option File:=d.Files.find? (fun f=>decide (f.Path=p))
def Byt (d:zF):Prop:=∀f∈d.Files,∀c∈f.Data,0≤c∧c≤255
theorem zH9 (d:zF) (p:ByteArray) (hg:d.good):
  (∃k:Nat,∃hk:k<d.Files.length,wW d p=some (k:Int)∧yA d p=some (d.Files[k].Data,true)∧fileOf d p=some d.Files[k])∨
   (wW d p=some (-1)∧yA d p=some ([],false)∧fileOf d p=none):=by
 rcases zEC d p hg with ⟨k,hk,e1,e2,hp⟩|⟨e1,e2,hp⟩
 ·exact .inl ⟨k,hk,e1,e2,zHJ hg.sorted hk hp⟩
 ·exact .inr ⟨e1,e2,zHs hp⟩
def zBx (c:Int):List Int→List (List Int)
 |[]=>[[]]
 |x::l=>if x=c then []::zBx c l else match zBx c l with
  |h::t=>(x::h)::t
  |[]=>[[x]]
theorem zHK (c:Int):∀l,zBx c l≠[]
 |[]=>by simp [zBx]
 |x::l=>by
  unfold zBx
  split
  ·simp
  ·split<;>simp
theorem zDT {c:Int}:∀{l:List Int},(∀x∈l,0≤x∧x≤255)→∀p∈zBx c l,∀x∈p,0≤x∧x≤255
 |[],_=>by simp [zBx]
 |y::l,h=>by
  have ih:=zDT (c:=c) (l:=l) (fun x hx=>h x (by simp [hx]))
  intro p hp
  unfold zBx at hp
  split at hp
  ·rcases List.mem_cons.1 hp with rfl|hp
   ·simp
   ·exact ih p hp
  ·split at hp
   ·rename_i a t e
    rcases List.mem_cons.1 hp with rfl|hp
    ·intro x hx
     rcases List.mem_cons.1 hx with rfl|hx
     ·exact h _ (by simp)
     ·exact ih a (by rw [e]; simp) x hx
    ·exact ih p (by rw [e]; simp [hp])
   ·rename_i e
    exact absurd e (zHK c l)
theorem zDm (c:Int):∀l,(zBx c l).length ≤l.length+1
 |[]=>by simp [zBx]
 |x::l=>by
  have ih:=zDm c l
  unfold zBx
  split
  ·simp; omega
  ·split
   ·rename_i e; rw [e] at ih; simp at ih ⊢; omega
   ·simp
theorem zFg (c:Int):∀l,∀p∈zBx c l,p.length≤l.length
 |[]=>by simp [zBx]
 |x::l=>by
  have ih:=zFg c l
  intro p hp
  unfold zBx at hp
  split at hp
  ·rcases List.mem_cons.1 hp with rfl|hp
   ·simp
   ·have:=ih p hp; simp; omega
  ·split at hp
   ·rename_i a t e
    rcases List.mem_cons.1 hp with rfl|hp
    ·have:=ih a (by rw [e]; simp); simp; omega
    ·have:=ih p (by rw [e]; simp [hp]); simp; omega
   ·simp at hp; rw [hp]; simp
def tL (c:Int) (s:ByteArray):List ByteArray:=(zBx c (bl s)).map b2s
theorem zEG (c:Int) (s:ByteArray):(tL c s).map bl=zBx c (bl s):=by
 unfold tL
 rw [List.map_map]
 have:∀p∈zBx c (bl s),(bl ∘ b2s) p=id p:=fun p hp=>zFa (zDT zCf p hp)
 rw [List.map_congr_left this,List.map_id]
theorem zEd:∀{a b:List ByteArray},a.map bl=b.map bl→a=b
 |[],[],_=>rfl
 |[],_::_,h=>by simp at h
 |_::_,[],h=>by simp at h
 |x::a,y::b,h=>by
  simp only [List.map_cons,List.cons.injEq] at h
  rw [zAK.1 h.1,zEd h.2]
theorem zCK {c:Int} {s:ByteArray} {ps:List ByteArray} (h:ps.map bl=zBx c (bl s)):ps=tL c s:=zEd (h.trans (zEG c s).symm)
def zIp (c:UInt8):List UInt8→List (List UInt8)
 |[]=>[[]]
 |x::l=>if x=c then []::zIp c l else match zIp c l with
  |h::t=>(x::h)::t
  |[]=>[[x]]
theorem zFf (c:UInt8):∀(l:List UInt8),(zIp c l).map (fun p=>p.map (fun b=>(b.toNat:Int)))=zBx (c.toNat:Int) (l.map (fun b=>(b.toNat:Int)))
 |[]=>rfl
 |x::l=>by
  have ih:=zFf c l
  simp only [List.map_cons]
  unfold zIp zBx
  by_cases h:x=c
  ·subst h
   rw [if_pos rfl,if_pos rfl,List.map_cons,ih]
   rfl
  ·have h':¬((x.toNat:Int)=(c.toNat:Int)):=fun e=>h (UInt8.toNat_inj.1 (by omega))
   rw [if_neg h,if_neg h',←ih]
   cases hc:zIp c l with
   |nil=>rfl
   |cons a t=>rfl
theorem zEH (c:UInt8):∀(l:List UInt8),c∉l→zIp c l=[l]
 |[],_=>rfl
 |x::l,h=>by
  unfold zIp
  rw [if_neg (fun e=>h (by simp [e])),zEH c l (fun e=>h (by simp [e]))]
theorem index_one (c b:UInt8) (l:List UInt8):Lib.index (b::l) [c]=if b=c then 0 else if Lib.index l [c]== -1 then-1 else Lib.index l [c]+1:=by
 rw [Lib.index]
 have:([c].isPrefixOf (b::l))=decide (b=c):=by
  simp only [List.isPrefixOf,Bool.and_true]
  rw [Bool.eq_iff_iff,beq_iff_eq,decide_eq_true_eq]
  exact ⟨fun h=>h.symm,fun h=>h.symm⟩
 rw [this]
 by_cases h:b=c<;>simp [h]
theorem zCi (c:UInt8):∀(l:List UInt8) (k:Nat),l.count c≤k→Lib.splitK [c] 0 k l=zIp c l
 |[],k,_=>by
  cases k with
  |zero=>rfl
  |succ k=>rfl
 |b::l,0,h=>by
  have hn:c∉b::l:=List.count_eq_zero.1 (by omega)
  rw [zEH c _ hn]
  rfl
 |b::l,k+1,h=>by
  unfold zIp
  by_cases hb:b=c
  ·subst hb
   rw [if_pos rfl]
   have e:Lib.index (b::l) [b]=0:=by rw [index_one,if_pos rfl]
   rw [Lib.splitK,e]
   simp only [List.count_cons_self] at h
   rw [if_neg (by decide)]
   show []::Lib.splitK [b] 0 k ((b::l).drop 1)=_
   rw [List.drop_one,List.tail_cons,zCi b l k (by omega)]
  ·rw [if_neg hb]
   have hc:l.count c≤k+1:=by rw [List.count_cons_of_ne hb] at h; exact h
   have ih:=zCi c l (k+1) hc
   rw [←ih,Lib.splitK,Lib.splitK,index_one,if_neg hb]
   cases hi:Lib.index l [c]== -1
   ·have hge:=Lib.index_ge l [c]
    have hne:Lib.index l [c]≠ -1:=by simpa using hi
    have hne':(Lib.index l [c]+1== -1)=false:=by
     rw [beq_eq_false_iff_ne]; omega
    simp only [Bool.false_eq_true,if_false,hne']
    rw [show (Lib.index l [c]+1).toNat =(Lib.index l [c]).toNat +1 by omega]
    simp only [Nat.add_zero,List.length_singleton,List.take_succ_cons,List.drop_succ_cons]
   ·simp
theorem zEg (s:ByteArray) (c:UInt8) (h:s.size≤1048577):strings_Split s ⟨#[c]⟩=some (tL (c.toNat:Int) s):=by
 unfold strings_Split
 rw [if_pos ⟨by omega,by show 1≤1; omega⟩]
 congr 1
 refine zCK ?_
 have e:=Lib.splitB_data ⟨#[c]⟩ 0 (Lib.countB s ⟨#[c]⟩) s
 have e2:Lib.countB s ⟨#[c]⟩=s.data.toList.count c:=Lib.count_one c s.data.toList
 rw [e2] at e ⊢
 rw [show (⟨#[c]⟩:ByteArray).data.toList =[c] from rfl,zCi c _ _ (Nat.le_refl _)] at e
 have e3:∀ps:List ByteArray,ps.map bl=(ps.map (·.data.toList)).map (fun p=>p.map (fun b=>(b.toNat:Int))):=by
  intro ps
  rw [List.map_map]
  exact List.map_congr_left (fun p _=>(zDs p).symm)
 rw [e3,e,zFf,zDs]
def zAv (s:ByteArray):List ByteArray:=if (tL 10 s).getLast? =some (bs []) then (tL 10 s).dropLast else tL 10 s
theorem zG4 (ps:List ByteArray) (h0:ps≠[]) (hl:ps.length≤1048578):((idx ps (w64 ((ps.length:Int)-1))).bind fun x4=>(if seq x4 (bs []) then ((zFp ps 0 (w64 ((ps.length:Int)-1))).bind fun x7=>some x7) else (some ps)).bind fun v9=>some v9)=
  some (if ps.getLast? =some (bs []) then ps.dropLast else ps):=by
 have hp:0<ps.length:=List.length_pos_iff.2 h0
 rw [xZ (by omega) (by omega),show (ps.length:Int)-1=((ps.length-1:Nat):Int) by omega,xD (show ps.length-1<ps.length by omega)]
 simp only [Option.bind_some]
 have hg:ps.getLast? =some ps[ps.length-1]:=by
  rw [List.getLast?_eq_getElem?,List.getElem?_eq_getElem]
 rw [hg]
 by_cases h:ps[ps.length-1]=bs []
 ·rw [if_pos (zAR.2 h),if_pos (by rw [h])]
  have e:zFp ps 0 ((ps.length-1:Nat):Int)=some (ps.take (ps.length-1)):=zIi (by omega)
  rw [e,List.dropLast_eq_take]
  rfl
 ·have hs:seq ps[ps.length-1] (bs [])=false:=by
   cases hq:seq ps[ps.length-1] (bs []) with
   |false=>rfl
   |true=>exact absurd (zAR.1 hq) h
  rw [hs,if_neg (show ¬(some ps[ps.length-1]=some (bs [])) from fun e=>h (Option.some.inj e))]
  rfl
theorem zHu (c:Int) (s:ByteArray):tL c s≠[]:=by
 unfold tL
 intro h
 exact zHK c (bl s) (List.map_eq_nil_iff.1 h)
theorem zDW (c:Int) (s:ByteArray):(tL c s).length ≤s.size+1:=by
 unfold tL
 rw [List.length_map,←zG]
 exact zDm c (bl s)
theorem zEX (s:ByteArray) (h:s.size≤1048577):uT s=some (zAv s):=by
 unfold uT
 have e:=zEg s 10 h
 rw [show (((10:UInt8).toNat :Nat):Int)=10 from rfl] at e
 rw [show bs [10]=⟨#[10]⟩ from rfl,e]
 exact zG4 _ (zHu _ _) (by have:=zDW 10 s; omega)
theorem zGo (s:ByteArray):(zAv s).length ≤s.size+1:=by
 have:=zDW 10 s
 unfold zAv
 split
 ·simp; omega
 ·exact this
theorem zF5 (s:ByteArray):∀p∈zAv s,p.size≤s.size:=by
 intro p hp
 have hm:p∈tL 10 s:=by
  unfold zAv at hp
  split at hp
  ·exact (List.dropLast_sublist _).subset hp
  ·exact hp
 have hb:bl p∈zBx 10 (bl s):=by
  rw [←zEG]
  exact List.mem_map_of_mem hm
 have:=zFg 10 (bl s) _ hb
 rw [zG,zG] at this
 exact this
def zK1:zV:= {Code:=5,Version:=zeroV}
def zBC (i:Nat) (a:List Int) (x:ByteArray):Lp (List Int) (Fl zV (List Int)):=match zEj (bl x) 3 with
 |some n=>.go (a.set i n)
 |none=>.done (.ret zK1)
def zJa (t:Fl zV (List Int)):zV:=match t with
 | .ret r=>r
 | .nxt l=> {Code:=0,Version:= {A:=l.getD 0 0,B:=l.getD 1 0,C:=l.getD 2 0}}
def PV (s:ByteArray):zV:=if (tL 46 s).length >3 then zK1 else zJa (goL zBC .nxt 0 (tL 46 s) [0,0,0])
theorem zFz {l:List Int} {n:Int} (h:zEj l 3=some n):0≤n:=by
 unfold zEj at h
 split at h
 ·cases h
 ·rename_i h1
  cases h
  exact (zAj (l:=l) (by
   intro c hc
   cases hd:zBl c with
   |true=>rfl
   |false=>exact absurd (.inr (.inr (fun h'=>by rw [h' c hc] at hd; cases hd))) h1)).1
theorem zGf:∀(ps:List ByteArray) (i:Nat) (a:List Int),a.length=3→match goL zBC Fl.nxt i ps a with| .ret r=>r=zK1| .nxt l=>l.length=3
 |[],_,a,h=>h
 |p::ps,i,a,h=>by
  simp only [goL]
  unfold zBC
  cases hn:zEj (bl p) 3 with
  |none=>rfl
  |some n=>exact zGf ps (i+1) (a.set i n) (by simpa using h)
theorem kU (s:ByteArray) (h:s.size≤1048577):yY s=some (PV s):=by
 unfold yY PV
 have e:=zEg s 46 h
 rw [show (((46:UInt8).toNat :Nat):Int)=46 from rfl] at e
 rw [show bs [46]=⟨#[46]⟩ from rfl,e]
 simp only [Option.bind_some]
 by_cases hl:(tL 46 s).length >3
 ·rw [if_pos (by simp; omega),if_pos hl]; rfl
 rw [if_neg (by simp; omega),if_neg hl]
 have key:=zHz (tL 46 s) zBC Fl.nxt (fun i a=>(a,(i:Int))) (fun _ a=>a.length=3) (b:=wP (tL 46 s)) [0,0,0] (by
  intro i a hi ha
  have hia:i<a.length:=by omega
  unfold wP zBC
  rw [if_pos (by simp; omega),xD hi]
  simp only [Option.bind_some,number_eq _ 3 (by omega)]
  have ea:∀(b:List Int),b.length=3→zIf b 3 (i:Int)=idx b (i:Int):=fun b hb=>if_pos hb
  rw [ea a ha,xD hia]
  simp only [Option.bind_some,Int.toNat_natCast]
  rw [ea _ (by simpa using ha),xD (by simpa using hia)]
  simp only [Option.bind_some,List.getElem_set_self]
  cases hn:zEj (bl (tL 46 s)[i]) 3 with
  |none=>exact ⟨rfl,fun a' h=>by cases h⟩
  |some n=>
   have:=zFz hn
   simp only
   rw [if_neg (by simpa using this),wK (by omega)]
   exact ⟨rfl,fun a' h=>by cases h; simpa using ha⟩) (by
  intro a ha
  unfold wP
  rw [if_neg (by simp)]) rfl
 unfold wY
 rw [show ((0:Nat):Int)=0 from rfl] at key
 rw [key]
 have h3:=zGf (tL 46 s) 0 [0,0,0] rfl
 cases hg:goL zBC Fl.nxt 0 (tL 46 s) [0,0,0] with
 |ret r=>rfl
 |nxt l=>
  rw [hg] at h3
  match l,h3 with
  |[x,y,z],_=>rfl
def tw (p:Int→Bool) (l:List Int):Nat:=(l.takeWhile p).length
theorem zIE (p:Int→Bool):∀(l:List Int),tw p l≤l.length
 |[]=>by simp [tw]
 |x::l=>by
  have:=zIE p l
  unfold tw at this ⊢
  rw [List.takeWhile_cons]
  split
  ·simp; omega
  ·simp
theorem zA7 (p:Int→Bool) (x:Int) (l:List Int):tw p (x::l)=if p x then tw p l+1 else 0:=by
 unfold tw
 rw [List.takeWhile_cons]
 split<;>simp
theorem zDi (l:List Int) (p:Int→Bool) {b:Int→Option (Lp Int Int)} (hs:∀(i:Nat) (hi:i<l.length),b (i:Int)=some (if p l[i] then .go ((i+1:Nat):Int) else .done (i:Int))) (he:b (l.length:Int)=some (.done (l.length:Int))):
  ∀(k i:Nat),i+k=l.length→loop b (i:Int)=some ((i+tw p (l.drop i):Nat):Int)
 |0,i,h=>by
  have e:i=l.length:=by omega
  subst e
  rw [tK,he,List.drop_length]
  rfl
 |k+1,i,h=>by
  have hi:i<l.length:=by omega
  rw [tK,hs i hi,List.drop_eq_getElem_cons hi,zA7]
  cases p l[i]
  ·rfl
  ·have:=zDi l p hs he k (i+1) (by omega)
   simp only [if_true,Option.bind_some,Lp.elim]
   rw [this]
   congr 2
   omega
theorem zGG (l:List Int) (p:Int→Bool) {b:Int→Option (Lp Int Int)} (hs:∀(i:Nat) (hi:i<l.length),b (i:Int)=some (if p l[i] then .go ((i+1:Nat):Int) else .done (i:Int))) (he:b (l.length:Int)=some (.done (l.length:Int))):
  loop b 0=some ((tw p l:Nat):Int):=by
 have:=zDi l p hs he l.length 0 (by omega)
 simpa using this
def zC4 (c:Int):Bool:=c !=60
def zEy (s:ByteArray):Nat:=tw zCN (bl s)
def nameP (s:ByteArray):ByteArray:=s.extract 0 (zEy s)
def zFL (s:ByteArray):ByteArray:=s.extract (zEy s) s.size
def zAa (r:ByteArray):Nat:=tw zC4 (bl r)
def zDx (r:ByteArray):Option Version:=if zAa r<r.size then (if (PV (r.extract (zAa r+1) r.size)).Code !=0 then none else some (PV (r.extract (zAa r+1) r.size)).Version) else some zEw
def zCo (r:ByteArray):ByteArray:=r.extract 0 (zAa r)
def zHx (r:ByteArray):Option Version:=if seq (zCo r) (bs []) then some zeroV else if decide ((zCo r).size <2)|| !(seq ((zCo r).extract 0 2) (bs [62,61])) then none else
 (if (PV ((zCo r).extract 2 (zCo r).size)).Code !=0 then none else some (PV ((zCo r).extract 2 (zCo r).size)).Version)
def zIP:Term:= {Name:=ByteArray.empty,Low:=zeroV,High:=zeroV}
def zIN (c:Int):xG:= {Code:=c,Term:=zIP}
def zJQ (t:Term):xG:=if TF t !=0 then zIN (TF t) else {Code:=0,Term:=t}
def PTm (s:ByteArray):xG:=if NF (nameP s) !=0 then zIN 5 else match zDx (zFL s),zHx (zFL s) with
 |some h,some l=>zJQ {Name:=nameP s,Low:=l,High:=h}
 |_,_=>zIN 5
theorem extract_size {s:ByteArray} {i j:Nat} (h:i≤j) (hj:j≤s.size):(s.extract i j).size =j-i:=by
 rw [←zG,yI]
 simp
 rw [zG]
 omega
theorem zIo (s:ByteArray):zEy s≤s.size:=by
 rw [←zG]; exact zIE _ _
theorem zHl (s:ByteArray):zAa s≤s.size:=by
 rw [←zG]; exact zIE _ _
theorem zD3 (s p:ByteArray):strings_CutPrefix s p=some (if begins s p then (s.extract p.size s.size,true) else (s,false)):=by
 unfold strings_CutPrefix yG zP begins
 by_cases h:p.size≤s.size
 ·have e1:zCg s ((0:Nat):Int) (p.size:Int)=some (s.extract 0 p.size):=zCj (Nat.zero_le _) h
  have e2:zCg s (p.size:Int) (s.size:Int)=some (s.extract p.size s.size):=zCj h (Nat.le_refl _)
  rw [show ((0:Nat):Int)=0 from rfl] at e1
  rw [if_pos (by simp; omega),e1]
  simp only [Option.bind_some,h,decide_true,Bool.true_and]
  cases seq (s.extract 0 p.size) p
  ·rfl
  ·simp only [Bool.not_true,Bool.false_eq_true,if_false]
   rw [e2]
   rfl
 ·rw [if_neg (by simp; omega)]
  simp [h]
theorem zCz (c:UInt8):∀(l:List UInt8),Lib.indexByte l c=if tw (fun x=>x !=(c.toNat:Int)) (l.map (fun b=>(b.toNat:Int)))=l.length then-1 else (tw (fun x=>x !=(c.toNat:Int)) (l.map (fun b=>(b.toNat:Int))):Int)
 |[]=>rfl
 |b::l=>by
  have ih:=zCz c l
  have hle:=zIE (fun x=>x !=(c.toNat:Int)) (l.map (fun b=>(b.toNat:Int)))
  rw [List.length_map] at hle
  rw [Lib.indexByte,List.map_cons,zA7]
  by_cases h:b=c
  ·subst h
   simp
  ·have h':((b.toNat:Int) !=(c.toNat:Int))=true:=by
    simp only [bne_iff_ne,ne_eq]
    intro e
    exact h (UInt8.toNat_inj.1 (by omega))
   rw [if_neg (by simpa using h)]
   simp only [h',if_true,List.length_cons]
   rw [ih]
   by_cases he:tw (fun x=>x !=(c.toNat:Int)) (l.map (fun b=>(b.toNat:Int)))=l.length
   ·rw [he]
    simp
   ·rw [if_neg he,if_neg (by simp),if_neg (by omega)]
    omega
theorem zAo (s p:ByteArray):begins s p=decide ((bl s).take (bl p).length =bl p):=by
 unfold begins
 rw [zA3,yI,List.drop_zero,Nat.sub_zero,←zG p,←zG s]
 by_cases h:(bl p).length ≤(bl s).length
 ·simp [h]
 ·have:¬((bl s).take (bl p).length =bl p):=by
   intro e
   have:=congrArg List.length e
   simp at this
   omega
  simp [h,this]
theorem zD9 (s:ByteArray) (h:s.size≤1048577):uI s=some (PTm s):=by
 have k1:vI s 0=some ((zEy s:Nat):Int):=by
  unfold vI zEy
  refine zGG (bl s) zCN (fun i hi=>?_) ?_
  ·have hs:i<s.size:=by rw [←zG]; exact hi
   unfold tN
   rw [if_pos (by simp; omega),zAB hi]
   simp only [Option.bind_some,zBJ]
   rw [wK (by omega)]
   cases zCN (bl s)[i]<;>rfl
  ·unfold tN
   rw [if_neg (by rw [zG]; simp)]
   rfl
 have hn:=zIo s
 have e1:zCg s 0 ((zEy s:Nat):Int)=some (nameP s):=zCj (Nat.zero_le _) hn
 have e2:zCg s ((zEy s:Nat):Int) (s.size:Int)=some (zFL s):=zCj hn (Nat.le_refl _)
 unfold uI kF jP
 rw [k1]
 simp only [Option.bind_some]
 rw [e1]
 simp only [Option.bind_some]
 rw [e2]
 simp only [Option.bind_some,zBw]
 unfold PTm
 cases hN:NF (nameP s) !=0
 case true=>rfl
 simp only [Bool.false_eq_true,if_false,zD3,Option.bind_some]
 generalize hr:zFL s=r
 have hrs:r.size≤1048577:=by
  rw [←hr]
  unfold zFL
  rw [extract_size hn (Nat.le_refl _)]
  omega
 have hlr:=zG r
 have b2:bl (bs [62,61])=[62,61]:=zA2 _
 have b1:bl (bs [60])=[60]:=zA2 _
 have s2:(bs [62,61]).size =2:=rfl
 have s1:(bs [60]).size =1:=rfl
 have fin:∀(l u:Version),((yV ({Name:=nameP s,Low:=({A:=l.A,B:=l.B,C:=l.C}:Version),High:=({A:=u.A,B:=u.B,C:=u.C}:Version)}:Term)).bind fun x50=>if x50 !=0 then (some (zIN x50)) else (some ({Code:=0,Term:=({Name:=nameP s,Low:=({A:=l.A,B:=l.B,C:=l.C}:Version),High:=({A:=u.A,B:=u.B,C:=u.C}:Version)}:Term)}:xG)))=
   some (zJQ {Name:=nameP s,Low:=l,High:=u}):=by
  intro l u
  rw [zAz]
  simp only [Option.bind_some]
  unfold zJQ
  cases TF {Name:=nameP s,Low:=l,High:=u} !=0<;>rfl
 have fin':=fin
 unfold zIN zIP zeroV at fin'
 cases hb:begins r (bs [62,61])
 ·
  simp only [Bool.false_eq_true,if_false,Option.bind_some,Fl.go]
  cases hb1:begins r (bs [60])
  ·simp only [Bool.false_eq_true,if_false,Option.bind_some,Fl.go]
   cases hq:seq r (bs [])
   ·
    have hne:bl r≠[]:=by
     intro e
     rw [zA3,e,zAO] at hq
     simp at hq
    have hcut:1≤zAa r:=by
     unfold zAa
     cases hx:bl r with
     |nil=>exact absurd hx hne
     |cons x l=>
      rw [zA7]
      rw [zAo,b1,hx] at hb1
      have:zC4 x=true:=by
       unfold zC4
       simpa using hb1
      rw [this]
      simp
    have hlow:zHx r=none:=by
     have hls:(zCo r).size =zAa r:=by
      unfold zCo
      rw [extract_size (Nat.zero_le _) (zHl r)]
      omega
     unfold zHx
     have hs0:seq (zCo r) (bs [])=false:=by
      cases hs:seq (zCo r) (bs []) with
      |false=>rfl
      |true=>
       have:=congrArg ByteArray.size (zAR.1 hs)
       rw [hls] at this
       have hz:(bs []).size =0:=rfl
       omega
     rw [hs0,if_neg (by simp),if_pos]
     by_cases h2:(zCo r).size <2
     ·simp [h2]
     ·simp only [h2,decide_false,Bool.false_or]
      rw [zAo,b2] at hb
      rw [zA3,b2,yI,zCo,yI]
      simp only [List.drop_zero,Nat.sub_zero,List.take_take]
      rw [Nat.min_eq_left (by omega)]
      simpa using hb
    rw [hlow]
    cases zDx r<;>rfl
   ·
    have he:bl r=[]:=by
     rw [zA3,zAO] at hq
     simpa using hq
    have hz:r.size=0:=by rw [←hlr,he]; rfl
    have hc0:zAa r=0:=by unfold zAa; rw [he]; rfl
    have h1:zDx r=some zEw:=by
     unfold zDx
     rw [if_neg (by omega)]
    have h2:zHx r=some zeroV:=by
     unfold zHx
     have:seq (zCo r) (bs [])=true:=by
      rw [zA3,zAO,zCo,yI,he]
      simp
     rw [this]
     rfl
    rw [h1,h2]
    exact fin' zeroV zEw
  ·
   have hx:=hb1
   rw [zAo,b1] at hx
   simp only [decide_eq_true_eq] at hx
   have hc0:zAa r=0:=by
    unfold zAa
    cases hy:bl r with
    |nil=>rfl
    |cons x l=>
     rw [hy] at hx
     simp at hx
     rw [zA7,hx]
     rfl
   have hpos:0<r.size:=by
    rw [←hlr]
    cases hy:bl r with
    |nil=>rw [hy] at hx; simp at hx
    |cons x l=>simp
   have h2:zHx r=some zeroV:=by
    unfold zHx
    have:seq (zCo r) (bs [])=true:=by
     rw [zA3,zAO,zCo,yI,hc0]
     simp
    rw [this]
    rfl
   rw [h2]
   simp only [if_true]
   rw [s1,kU _ (by rw [extract_size (by omega) (Nat.le_refl _)]; omega)]
   simp only [Option.bind_some]
   have hH:zDx r=(if (PV (r.extract 1 r.size)).Code !=0 then none else some (PV (r.extract 1 r.size)).Version):=by
    unfold zDx
    rw [if_pos (by omega),hc0]
   rw [hH]
   cases (PV (r.extract 1 r.size)).Code !=0
   ·simp only [Bool.false_eq_true,if_false,Option.bind_some,Fl.go,zBj,Bool.not_true]
    exact fin' zeroV (PV (r.extract 1 r.size)).Version
   ·rfl
 ·
  have hx:=hb
  rw [zAo,b2] at hx
  simp only [decide_eq_true_eq] at hx
  have hr2:2≤r.size:=by
   have:=congrArg List.length hx
   simp at this
   omega
  simp only [if_true]
  rw [s2]
  generalize hq:r.extract 2 r.size=q
  have hbq:bl q=(bl r).drop 2:=by
   rw [←hq,yI]
   rw [List.take_of_length_le (by simp; omega)]
  have hqs:q.size=r.size-2:=by rw [←hq,extract_size hr2 (Nat.le_refl _)]
  have hbr:bl r=62::61::bl q:=by
   rw [hbq]
   have:=List.take_append_drop 2 (bl r)
   rw [show (bl r).take 2=[62,61] from hx] at this
   exact this.symm
  have hcut:zAa r=zAa q+2:=by
   unfold zAa
   rw [hbr,zA7,zA7]
   simp [zC4]
  have hcq:=zHl q
  have hix:strings_IndexByte q 60=some (if zAa q=q.size then-1 else (zAa q:Int)):=by
   unfold strings_IndexByte
   have:=zCz 60 q.data.toList
   rw [zDs] at this
   have e60:(60:Int).toNat.toUInt8 =60:=rfl
   rw [e60,this]
   rfl
  rw [hix]
  simp only [Option.bind_some]
  have hv33:(if decide ((if zAa q=q.size then (-1:Int) else (zAa q:Int))<0) then (some (q.size:Int)) else some (if zAa q=q.size then (-1:Int) else (zAa q:Int)))=some (zAa q:Int):=by
   by_cases e:zAa q=q.size
   ·rw [if_pos e,if_pos (by decide),e]
   ·rw [if_neg e,if_neg (by simp)]
  rw [hv33]
  simp only [Option.bind_some]
  have e3:zCg q 0 (zAa q:Int)=some (q.extract 0 (zAa q)):=zCj (Nat.zero_le _) hcq
  have e4:zCg q (zAa q:Int) (q.size:Int)=some (q.extract (zAa q) q.size):=zCj hcq (Nat.le_refl _)
  rw [e3]
  simp only [Option.bind_some]
  rw [kU _ (by rw [extract_size (Nat.zero_le _) hcq]; omega)]
  simp only [Option.bind_some]
  rw [e4]
  simp only [Option.bind_some]
  have hlt:zCo r=bs [62,61]++q.extract 0 (zAa q):=by
   refine zAK.1 ?_
   rw [zCo,yI,yQ,yI,hbr,hcut,b2]
   rfl
  have hls:(zCo r).size =zAa q+2:=by
   rw [hlt,jD,s2,extract_size (Nat.zero_le _) hcq]
   omega
  have hlow:zHx r=(if (PV (q.extract 0 (zAa q))).Code !=0 then none else some (PV (q.extract 0 (zAa q))).Version):=by
   have hs0:seq (zCo r) (bs [])=false:=by
    cases hs:seq (zCo r) (bs []) with
    |false=>rfl
    |true=>
     have:=congrArg ByteArray.size (zAR.1 hs)
     have hz:(bs []).size =0:=rfl
     omega
   have ha:seq ((zCo r).extract 0 2) (bs [62,61])=true:=by
    rw [zA3,yI,hlt,yQ,b2]
    simp
   have hc:(zCo r).extract 2 (zCo r).size =q.extract 0 (zAa q):=by
    refine zAK.1 ?_
    rw [yI,hls,hlt,yQ,b2]
    simp only [List.cons_append,List.nil_append,List.drop_succ_cons,List.drop_zero,Nat.add_sub_cancel]
    rw [List.take_of_length_le]
    rw [zG,extract_size (Nat.zero_le _) hcq]
    omega
   unfold zHx
   rw [hs0,ha,hc,if_neg (by simp),if_neg (by simp; omega)]
  have hhigh:zDx r=(if zAa q<q.size then (if (PV (q.extract (zAa q+1) q.size)).Code !=0 then none else some (PV (q.extract (zAa q+1) q.size)).Version) else some zEw):=by
   have hc:r.extract (zAa r+1) r.size=q.extract (zAa q+1) q.size:=by
    refine zAK.1 ?_
    rw [yI,yI,hbr,hcut,hqs]
    rw [show zAa q+2+1=(zAa q+1)+1+1 by omega]
    simp only [List.drop_succ_cons]
    congr 1
    omega
   unfold zDx
   rw [hc]
   by_cases e:zAa q<q.size
   ·rw [if_pos (by omega),if_pos e]
   ·rw [if_neg (by omega),if_neg e]
  rw [hlow,hhigh]
  cases hv:(PV (q.extract 0 (zAa q))).Code !=0
  case true=>
   simp only [if_true]
   split<;>rename_i hh1 hh2
   ·cases hh2
   ·rfl
  simp only [Bool.false_eq_true,if_false,Option.bind_some,Fl.go]
  generalize hw:q.extract (zAa q) q.size=w
  have hbw:bl w=(bl q).drop (zAa q):=by
   rw [←hw,yI,List.take_of_length_le]
   rw [List.length_drop,zG]
   exact Nat.le_refl _
  have hws:w.size=q.size-zAa q:=by rw [←hw,extract_size hcq (Nat.le_refl _)]
  by_cases hlt2:zAa q<q.size
  ·have hhead:(bl q)[zAa q]? =some 60:=by
    have key:∀(l:List Int),tw zC4 l<l.length→l[tw zC4 l]? =some 60:=by
     intro l
     induction l with
     |nil=>intro h; simp [tw] at h
     |cons x l ih=>
      intro h
      rw [zA7] at h ⊢
      cases hx:zC4 x
      ·unfold zC4 at hx
       simp at hx
       rw [hx]
       simp
      ·rw [hx] at h
       simp only [if_true,List.length_cons] at h ⊢
       rw [List.getElem?_cons_succ]
       exact ih (by omega)
    exact key (bl q) (by rw [zG]; exact hlt2)
   have hbeg:begins w (bs [60])=true:=by
    rw [zAo,b1,hbw]
    have:((bl q).drop (zAa q)).take 1=[60]:=by
     obtain ⟨hi,hv⟩:=List.getElem?_eq_some_iff.1 hhead
     rw [List.drop_eq_getElem_cons hi,hv]
     rfl
    simpa using this
   rw [hbeg,if_pos hlt2]
   simp only [if_true]
   have he:w.extract (bs [60]).size w.size=q.extract (zAa q+1) q.size:=by
    refine zAK.1 ?_
    rw [yI,yI,hbw,s1,List.drop_drop,hws]
    congr 1
   rw [he,kU _ (by rw [extract_size (by omega) (Nat.le_refl _)]; omega)]
   simp only [Option.bind_some]
   cases hv2:(PV (q.extract (zAa q+1) q.size)).Code !=0
   ·simp only [Bool.false_eq_true,if_false,Option.bind_some,Fl.go,zBj,Bool.not_true]
    exact fin' (PV (q.extract 0 (zAa q))).Version (PV (q.extract (zAa q+1) q.size)).Version
   ·rfl
  ·have hbw0:bl w=[]:=by
    rw [hbw,List.drop_eq_nil_of_le]
    rw [zG]
    omega
   have hbeg:begins w (bs [60])=false:=by
    rw [zAo,b1,hbw0]
    rfl
   have hsw:seq w (bs [])=true:=by
    rw [zA3,zAO,hbw0]
    rfl
   rw [hbeg,if_neg hlt2]
   simp only [Bool.false_eq_true,if_false,Option.bind_some,Fl.go]
   rw [hsw]
   exact fin' (PV (q.extract 0 (zAa q))).Version zEw
theorem zHj {s:ByteArray} (h:(PTm s).Code =0):TF (PTm s).Term =0:=by
 unfold PTm at h ⊢
 split at h
 ·simp [zIN] at h
 ·rename_i h1
  rw [if_neg h1]
  split at h
  ·unfold zJQ at h ⊢
   split at h
   ·rename_i h2
    simp only [zIN] at h
    rw [h] at h2
    simp at h2
   ·rename_i h2
    rw [if_neg h2]
    simpa using h2
  ·simp [zIN] at h
def zAs (out:List Term) (t:Term):Bool:=out.any (fun o=>seq o.Name t.Name)
def uW:List Term→List Term→Bool
 |_,[]=>false
 |out,t::l=>zAs out t||uW (out++[t]) l
def zC8:List ByteArray→Option (List Term)
 |[]=>some []
 |s::l=>if (PTm s).Code !=0 then none else (zC8 l).map ((PTm s).Term :: ·)
def zAw (s:ByteArray):Option (List Term):=match zC8 (zAv s) with
 |none=>none
 |some l=>if l.length≤8∧uW [] l=false∧zA1 l=s then some l else none
theorem zDa:∀{ps:List ByteArray} {l:List Term},zC8 ps=some l→(∀t∈l,TF t=0)∧l.length=ps.length
 |[],l,h=>by cases h; simp
 |p::ps,l,h=>by
  simp only [zC8] at h
  split at h
  ·cases h
  ·rename_i h1
   obtain ⟨l',e,rfl⟩:=Option.map_eq_some_iff.1 h
   obtain ⟨h2,h3⟩:=zDa e
   refine ⟨fun t ht=>?_,by simp [h3]⟩
   rcases List.mem_cons.1 ht with rfl|ht
   ·exact zHj (by simpa using h1)
   ·exact h2 t ht
theorem zDH (x2:List Int×Bool) (ps:List ByteArray) (hps:∀p∈ps,p.size≤1048577) (hl:ps.length≤100000):∀(k i:Nat) (out:List Term),i+k=ps.length→out.length≤i→
  loop (vK x2 ps) (out,(i:Int))=some (match zC8 (ps.drop i) with|none=>.ret ([],5)|some l=>.nxt (out++l))
 |0,i,out,hk,ho=>by
  have e:i=ps.length:=by omega
  subst e
  rw [tK]
  unfold vK
  rw [if_neg (by simp),List.drop_length]
  simp [zC8,Lp.elim]
 |k+1,i,out,hk,ho=>by
  have hi:i<ps.length:=by omega
  have ih:=zDH x2 ps hps hl k (i+1) (out++[(PTm ps[i]).Term]) (by omega) (by simp; omega)
  rw [tK,List.drop_eq_getElem_cons hi]
  conv=>lhs; unfold vK
  rw [if_pos (by simp; omega),xD hi]
  simp only [Option.bind_some,zD9 _ (hps _ (List.getElem_mem hi)),zC8]
  cases h:(PTm ps[i]).Code !=0
  ·simp only [Bool.false_eq_true,if_false]
   rw [zBu (by simp; omega) (by simp; omega),wK (by omega)]
   simp only [Option.bind_some,Lp.elim]
   refine Eq.trans ih ?_
   cases zC8 (ps.drop (i+1)) with
   |none=>rfl
   |some l=>simp
  ·rfl
theorem zCe (l:List Term) (h:l.length≤100000):∀(k i:Nat),i+k=l.length→loop (vG l) (i:Int)=some (if uW (l.take i) (l.drop i) then .ret true else .nxt ())
 |0,i,hk=>by
  have e:i=l.length:=by omega
  subst e
  rw [tK]
  unfold vG
  rw [if_neg (by simp),List.drop_length]
  rfl
 |k+1,i,hk=>by
  have hi:i<l.length:=by omega
  have ih:=zCe l h k (i+1) (by omega)
  have hb:vG l (i:Int)=some (if zAs (l.take i) l[i] then .done (.ret true) else .go ((i+1:Nat):Int)):=by
   unfold vG
   rw [if_pos (by simp; omega),xD hi]
   simp only [Option.bind_some]
   have e0:zFp l ((0:Nat):Int) (i:Int)=some ((l.drop 0).take (i-0)):=zH6 (Nat.zero_le _) (by omega)
   rw [show ((0:Nat):Int)=0 from rfl,List.drop_zero,Nat.sub_zero] at e0
   rw [e0]
   simp only [Option.bind_some]
   have ec:zH (l.take i) l[i]=some (zAs (l.take i) l[i]):=by
    have key:=zAi (l.take i) (fun j o=>if seq o.Name l[i].Name then some (j:Int) else none) (b:=zR (l.take i) l[i]) (by
     intro j hj
     have hj':j<i:=by simp at hj; omega
     unfold zR uN
     rw [if_pos (show decide ((j:Int)< ((l.take i).length :Int))=true by rw [decide_eq_true_eq]; omega),xD hj]
     simp only [Option.bind_some]
     rw [wK (by omega)]
     cases seq (l.take i)[j].Name l[i].Name <;>rfl) (by
     unfold zR
     rw [if_neg (by simp)])
    unfold zH zO zT
    rw [key,zEW]
    unfold zAs
    rw [←zI5 (zEa (fun o=>seq o.Name l[i].Name) (l.take i) 0)]
    cases jE (fun j o=>if seq o.Name l[i].Name then some (j:Int) else none) 0 (l.take i)<;>rfl
   rw [ec]
   simp only [Option.bind_some]
   rw [wK (by omega)]
   cases zAs (l.take i) l[i]<;>rfl
  rw [tK,hb,List.drop_eq_getElem_cons hi]
  have ea:uW (l.take i) (l[i]::l.drop (i+1))=(zAs (l.take i) l[i]||uW (l.take i++[l[i]]) (l.drop (i+1))):=rfl
  rw [ea]
  simp only [Option.bind_some]
  rw [List.take_succ_eq_append_getElem hi] at ih
  by_cases ht:zAs (l.take i) l[i]=true
  ·rw [if_pos ht,ht]
   rfl
  ·have ht':zAs (l.take i) l[i]=false:=by simpa using ht
   rw [if_neg ht,ht',Bool.false_or]
   exact ih
theorem zEx (l:List Term) (h:l.length≤100000):vZ l=some (uW [] l):=by
 have:=zCe l h l.length 0 (by omega)
 unfold vZ tF
 rw [show ((0:Nat):Int)=0 from rfl] at this
 rw [this]
 simp only [List.take_zero,List.drop_zero]
 cases uW [] l<;>rfl
theorem zGR:∀{l:List Term},(∀t∈l,TF t=0)→tsF l=0:=by
 intro l h
 unfold tsF
 have:jE (fun _ t=>if TF t !=0 then some (TF t) else none) 0 l=none:=by
  rw [zER]
  intro j hj
  rw [h _ (List.getElem_mem hj)]
  rfl
 rw [this]
 rfl
def zCC (d:zF):Option (List Term):=match fileOf d (bs [114,111,111,116,115]) with
 |none=>some []
 |some f=>zAw (b2s f.Data)
theorem zDU:zAw (b2s [])=some []:=by
 have hl:zAv (b2s [])=[]:=by
  unfold zAv
  have hp:tL 10 (b2s [])=[b2s []]:=by
   unfold tL
   rw [show bl (b2s [])=[] from zFa (by simp)]
   rfl
  rw [hp,if_pos (by rfl)]
  rfl
 unfold zAw
 rw [hl]
 simp [zC8,uW,zA1,zBA]
 rfl
theorem zGw {d:zF} (hg:d.good) (hb:Byt d):vL d=some (match zCC d with|some l=>(l,0)|none=>([],5)):=by
 unfold vL
 have key:∀(x2:List Int×Bool),(b2s x2.1).size ≤90000→((uT (b2s x2.1)).bind fun x4=>(wT x2 x4 (([]:List Term),0)).bind (Fl.go some fun v23=>(yU v23).bind fun x24=>
   (if !(seq x24 (b2s x2.1)) then (some true) else (if decide ((v23.length:Int)>8) then (some true) else ((vZ v23).bind fun x28=>some x28))).bind fun v30=>if v30 then (some (([]:List Term),5)) else (some (v23,0))))=
   some (match zAw (b2s x2.1) with|some l=>(l,(0:Int))|none=>([],5)):=by
  intro x2 hx
  generalize hs:b2s x2.1=s
  rw [hs] at hx
  have hlen:=zGo s
  have hsz:∀p∈zAv s,p.size≤1048577:=fun p hp=>by have:=zF5 s p hp; omega
  have k1:=zDH x2 (zAv s) hsz (by omega) (zAv s).length 0 [] (by omega) (by simp)
  rw [List.drop_zero,show ((0:Nat):Int)=0 from rfl] at k1
  rw [zEX s (by omega)]
  simp only [Option.bind_some]
  unfold wT zAw
  rw [k1]
  cases hr:zC8 (zAv s) with
  |none=>rfl
  |some l=>
   obtain ⟨h1,h2⟩:=zDa hr
   simp only [List.nil_append,Option.bind_some,Fl.go]
   rw [zBy l (by omega),zGR h1]
   simp only [Option.bind_some,bne_self_eq_false,Bool.false_eq_true,if_false]
   by_cases he:zA1 l=s
   ·rw [he,zBj]
    simp only [Bool.not_true,Bool.false_eq_true,if_false]
    by_cases h8:l.length≤8
    ·rw [if_neg (by simp; omega),zEx l (by omega)]
     simp only [Option.bind_some,h8,true_and,and_true]
     cases uW [] l<;>rfl
    ·rw [if_pos (by simp; omega),if_neg (fun e=>h8 e.1)]
     rfl
   ·have:seq (zA1 l) s=false:=by rw [seq_eq]; simpa using he
    rw [this]
    simp only [Bool.not_false,if_true,Option.bind_some]
    rw [if_neg (fun e=>he e.2.2)]
 have hsize:∀l:List Int,(∀c∈l,0≤c∧c≤255)→(b2s l).size =l.length:=fun l h=>by rw [←zG,zFa h]
 unfold zCC
 rcases zH9 d (bs [114,111,111,116,115]) hg with ⟨k,hk,_,e2,e3⟩|⟨_,e2,e3⟩
 ·rw [e2,e3]
  have hm:=List.getElem_mem hk
  have hd:=hg.data _ hm
  simp only [Option.bind_some]
  exact key (d.Files[k].Data,true) (by show (b2s d.Files[k].Data).size ≤90000; rw [hsize _ (hb _ hm)]; omega)
 ·rw [e2,e3]
  simp only [Option.bind_some]
  have:=key ([],false) (by show (b2s []).size ≤90000; rw [hsize _ (by simp)]; simp)
  rw [zDU] at this
  exact this
structure zF.fine (d:zF):Prop where
 b1:d.Budget≤20000
 w0:0≤d.Writes
 w1:d.Writes≤2000000000
 s0: -1≤d.Stop
 len:d.Files.length≤120
 data:∀f∈d.Files,f.Data.length≤4000
 sorted:d.Files.Pairwise (fun f g=>slt f.Path g.Path=true)
 room:total d.Files≤d.Budget
theorem zF.good.fine {d:zF} (h:d.good):d.fine:=⟨h.b1,h.w0,by have:=h.w1; omega,h.s0,h.len,h.data,h.sorted,h.room⟩
theorem zHN (d:zF) (c:Int):zBf d c=some (if c !=0&&c !=9 then zIA c else {Code:=c,zF:=d}):=by
 unfold zBf zIA
 cases c !=0
 ·rfl
 ·cases c !=9<;>rfl
theorem zGj (s:ByteArray):s2b s=bl s:=by
 unfold s2b bl
 rw [ByteArray.toList_eq]
theorem zE1 {fs:List File} {bu wr st:Int} {dn:Bool} {p:ByteArray} {x:List Int} (hl:fs.length≤100) (hs:fs.Pairwise (fun f g=>slt f.Path g.Path=true)) (h:∀f∈fs,slt f.Path p=true) (hx:x.length≤100):
  yH {Files:=fs,Budget:=bu,Writes:=wr,Stop:=st,Down:=dn} p x=some {Files:=fs++[{Path:=p,Data:=x}],Budget:=bu,Writes:=wr,Stop:=st,Down:=dn}:=by
 obtain ⟨k,b,e,hk,h1,h2⟩:=zDK fs p (by omega)
 obtain ⟨g1,g2,g3⟩:=h2 hs
 have hb:b=false:=by
  cases b with
  |false=>rfl
  |true=>
   obtain ⟨hk',hp⟩:=h1 rfl
   have:=h _ (List.getElem_mem hk')
   rw [hp,kV] at this
   cases this
 subst hb
 have hke:k=fs.length:=by
  rcases Nat.lt_or_ge k fs.length with hlt|hge
  ·have a:=h _ (List.getElem_mem hlt)
   have b:=g2 k hlt (Nat.le_refl _)
   rw [a] at b
   cases b
  ·omega
 subst hke
 have hcl:yF x=some x:=by
  unfold yF
  rw [zBu (by simp; omega) (by simp; omega)]
  rfl
 unfold yH yS
 simp only [e,Option.bind_some,Bool.not_false,if_true]
 unfold wH
 rw [if_pos ⟨by omega,by omega,by simp,by simp; omega⟩]
 simp only [Option.bind_some,hcl,Int.toNat_natCast,List.take_length,List.drop_length,List.append_nil]
 rw [zGp]
 simp only [Option.bind_some]
 rw [List.set_append_right _ _ (by omega)]
 simp
theorem zDc:slt (bs [99,117,114]) (zGP 1)=true:=by
 rw [zCS,zEk,zA2]
 rfl
theorem zBV:slt (zGP 1) (bs [114,111,111,116,115])=true:=by
 rw [zCS,zEk,zA2]
 rfl
def zJb (n:Int):zF:= {Files:=[{Path:=bs [99,117,114],Data:=[49]},{Path:=zGP 1,Data:=[]},{Path:=bs [114,111,111,116,115],Data:=[]}],Budget:=n,Writes:=0,Stop:= -1,Down:=false}
def zHR (n:Int):zL:=if inB n 0 20000 then (if n=0 then zIA 8 else {Code:=0,zF:=zJb n}) else zIA 3
def zEO (fs:List File):Int:=match (zBX fs).getLast? with
 |none=>1
 |some n=>n+1
theorem zH5 (d:zF) (hl:d.Files.length≤1048576) (hs:d.Files.Pairwise (fun f g=>slt f.Path g.Path=true)):zDr d=some (zEO d.Files)∧wL d=some (zEO d.Files):=by
 have hgl:=zEF d.Files
 have hm:=fun n=>zH3 (fs:=d.Files) (n:=n)
 have hso:=zEJ hs
 unfold zDr wL zEO
 rw [zHD d hl,zH2 d hl]
 simp only [Option.bind_some]
 generalize zBX d.Files=g at*
 constructor
 ·by_cases h0:g=[]
  ·subst h0; rfl
  ·have hpos:0<g.length:=List.length_pos_iff.2 h0
   have hne:((g.length:Int)==0)=false:=by simp; omega
   rw [hne]
   simp only [Bool.false_eq_true,if_false]
   rw [xZ (by omega) (by omega),show ((g.length:Int)-1)=((g.length-1:Nat):Int) by omega,xD (by omega)]
   simp only [Option.bind_some]
   rw [List.getLast?_eq_getElem?,List.getElem?_eq_getElem (by omega)]
   have:=hm _ (List.getElem_mem (show g.length-1<g.length by omega))
   rw [xZ (by omega) (by omega)]
 ·obtain ⟨t,e,rfl⟩:=kD (b:=vV g) (fun i s=>s=((match (g.take i).getLast? with|none=>1|some n=>n+1),(i:Int))) g.length (fun t=>t=match g.getLast? with|none=>1|some n=>n+1) (by
   rintro i s hi rfl
   have hgi:=hm _ (List.getElem_mem hi)
   unfold vV
   rw [if_pos (by simp; omega)]
   simp only [xD hi,Option.bind_some]
   rw [xZ (x:=g[i]+1) (by omega) (by omega),wK (by omega)]
   refine .inl ⟨_,rfl,?_⟩
   have e2:(g.take (i+1)).getLast? =some g[i]:=by
    rw [List.take_succ_eq_append_getElem hi,List.getLast?_append]
    simp
   rw [e2]
   simp only
   congr 1
   cases h3:(g.take i).getLast? with
   |none=>simp only; rw [if_pos (by omega)]
   |some m=>
    simp only
    have hmem:m∈g.take i:=List.mem_of_getLast? h3
    obtain ⟨j,hj,rfl⟩:=List.getElem_of_mem hmem
    have hj':j<i:=by simp at hj; omega
    have:=List.pairwise_iff_getElem.1 hso j i (by omega) hi hj'
    simp only [List.getElem_take] at*
    rw [if_pos (by omega)]) (by
   rintro s rfl
   unfold vV
   rw [if_neg (by simp)]
   exact ⟨_,rfl,by simp⟩) g.length 0 (1,0) (by omega) (by simp)
  simp only [uR,e,Option.bind_some]
theorem zBK {α R:Type} {g:Nat→α→Option R}:∀{xs:List α} {i:Nat},jE g i xs=none→∀x∈xs,∃j,g j x=none
 |[],_,_,x,h=>by simp at h
 |y::ys,i,h,x,hx=>by
  simp only [jE] at h
  cases hg:g i y with
  |some r=>rw [hg] at h; cases h
  |none=>
   rw [hg] at h
   rcases List.mem_cons.1 hx with rfl|hx
   ·exact ⟨i,hg⟩
   ·exact zBK h x hx
structure Sr (b:Nat) (s:zK):Prop where
 len:s.Code.length≤1048576
 byt:∀c∈s.Code,0≤c∧c≤255
 a0:0≤s.At
 a1:s.At≤(b:Int)
theorem Sr.mono {b b':Nat} {s:zK} (h:Sr b s) (hb:b≤b'):Sr b' s:=⟨h.len,h.byt,h.a0,by have:=h.a1; omega⟩
theorem zF0 {a:List Int} (h:a.length≤1048576) (hb:∀c∈a,0≤c∧c≤255):∃s,jM a=some s∧Sr 0 s:=
 ⟨_,rfl,h,hb,Int.le_refl _,Int.le_refl _⟩
theorem zAg {b:Nat} {s:zK} (h:Sr b s) (hb:b≤1000000000) (n:Int):∃r s',zZ s n=some (r,s')∧0≤r∧(1≤n→r<n)∧Sr (b+1) s':=by
 obtain ⟨hl,hbt,h0,h1⟩:=h
 have e1:w64 (s.At+1)=s.At+1:=xZ (by omega) (by omega)
 have e2:w64 (s.At+1-1)=s.At:=by rw [xZ (by omega) (by omega)]; omega
 have hS:Sr (b+1) {Code:=s.Code,At:=s.At+1}:=⟨hl,hbt,by show 0≤s.At+1; omega,by show s.At+1≤_; omega⟩
 unfold zZ
 rw [e1,e2]
 by_cases hn:n<1
 ·rw [if_pos (by simpa using hn)]
  exact ⟨0,_,rfl,Int.le_refl _,fun h=>by omega,hS⟩
 rw [if_neg (by simpa using hn)]
 have hr:∀v:Int,0≤v→∃r,zId v n=some r∧0≤r∧r<n:=fun v hv=>⟨v.tmod n,by unfold zId; rw [if_neg (by omega)],Int.tmod_nonneg _ hv,Int.tmod_lt_of_pos _ (by omega)⟩
 by_cases hk:((s.Code.length:Int)==0)=true
 ·rw [if_pos hk,xZ (x:=s.At*7) (by omega) (by omega)]
  obtain ⟨r,e,g1,g2⟩:=hr (s.At*7) (by omega)
  rw [e]
  exact ⟨r,_,rfl,g1,fun _=>g2,hS⟩
 ·rw [if_neg hk]
  have hkp:0<s.Code.length:=by
   have:¬((s.Code.length:Int)=0):=fun h=>hk (by simp [h])
   omega
  have hrk:∀v:Int,0≤v→∃(q:Nat) (hq:q<s.Code.length),zId v (s.Code.length:Int)=some (q:Int):=fun v hv=>by
   have g1:=Int.tmod_nonneg (s.Code.length:Int) hv
   have g2:=Int.tmod_lt_of_pos v (b:=(s.Code.length:Int)) (by omega)
   refine ⟨(v.tmod (s.Code.length:Int)).toNat,by omega,?_⟩
   unfold zId
   rw [if_neg (by omega)]
   congr 1
   omega
  obtain ⟨q,hq,eq⟩:=hrk s.At h0
  obtain ⟨q2,hq2,eq2⟩:=hrk (s.At+1) (by omega)
  have hc:=hbt _ (List.getElem_mem hq)
  have hc2:=hbt _ (List.getElem_mem hq2)
  obtain ⟨d,ed,d0,d1⟩:∃d,zKa .i64 s.At (s.Code.length:Int)=some d∧0≤d∧d≤s.At:=by
   have g1:=Int.tdiv_nonneg h0 (show 0≤(s.Code.length:Int) by omega)
   have g2:s.At.tdiv (s.Code.length:Int)≤s.At:=by
    rw [Int.tdiv_eq_ediv_of_nonneg h0]
    exact Int.ediv_le_self _ h0
   refine ⟨s.At.tdiv (s.Code.length:Int),?_,g1,g2⟩
   unfold zKa
   rw [if_neg (by omega)]
   congr 1
   exact xZ (by omega) (by omega)
  rw [eq]
  simp only [Option.bind_some,xD hq,ed]
  rw [xZ (x:=s.At+1) (by omega) (by omega),eq2]
  simp only [Option.bind_some,xD hq2]
  rw [xZ (x:=s.Code[q]) (by omega) (by omega),xZ (x:=d*37) (by omega) (by omega),xZ (x:=s.Code[q]+d*37) (by omega) (by omega),xZ (x:=(s.Code[q]+d*37)*251) (by omega) (by omega),
   xZ (x:=s.Code[q2]) (by omega) (by omega),xZ (x:=s.Code[q2]*13) (by omega) (by omega),xZ (x:=(s.Code[q]+d*37)*251+s.Code[q2]*13) (by omega) (by omega),xZ (x:=(s.Code[q]+d*37)*251+s.Code[q2]*13+s.At) (by omega) (by omega)]
  by_cases h200:n>200
  ·rw [if_pos (by simpa using h200)]
   obtain ⟨r,e,g1,g2⟩:=hr ((s.Code[q]+d*37)*251+s.Code[q2]*13+s.At) (by omega)
   simp only [Option.bind_some,e]
   exact ⟨r,_,rfl,g1,fun _=>g2,hS⟩
  ·rw [if_neg (by simpa using h200)]
   obtain ⟨r,e,g1,g2⟩:=hr (s.Code[q]+d*37) (by omega)
   simp only [Option.bind_some,e]
   exact ⟨r,_,rfl,g1,fun _=>g2,hS⟩
theorem zAH {b:Nat} {s:zK} (h:Sr b s) (hb:b≤1000000000) (n:Int):∃r s',yZ s n=some (r,s')∧Sr (b+1) s':=by
 obtain ⟨r,s',e,_,_,h'⟩:=zAg h hb n
 unfold yZ
 rw [e]
 exact ⟨_,_,rfl,h'⟩
theorem at_next {α:Type} {b:Nat} {s:zK} (h:Sr b s) (hb:b≤1000000000) {l:List α} {n:Int} (hn:n=(l.length:Int)) (hl:l≠[]):
  ∃r s' x,zZ s n=some (r,s')∧idx l r=some x∧x∈l∧Sr (b+1) s':=by
 obtain ⟨r,s',e,g1,g2,h'⟩:=zAg h hb n
 have hlp:0<l.length:=List.length_pos_iff.2 hl
 have g3:=g2 (by omega)
 obtain ⟨q,rfl⟩:=Int.eq_ofNat_of_zero_le g1
 have hq:q<l.length:=by omega
 exact ⟨_,s',l[q],e,xD hq,List.getElem_mem hq,h'⟩
theorem zA5 {b:Nat} {s:zK} (h:Sr b s) (hb:b≤1000000000) (l:List Int) (hl:l≠[]):∃x s',yM s l=some (x,s')∧x∈l∧Sr (b+1) s':=by
 obtain ⟨r,s',x,e1,e2,hx,h'⟩:=at_next h hb (l:=l) rfl hl
 unfold yM
 rw [e1]
 simp only [Option.bind_some,e2]
 exact ⟨x,s',rfl,hx,h'⟩
theorem kY (d:zF) (hg:d.good):kZ d=some 0:=by
 have hl:=hg.len
 unfold kZ
 simp only [zJZ,Option.bind_some]
 simp [hg.b0,hg.b1,hg.w0,hg.w1,hg.s0,hg.s1]
 rw [if_neg (by omega)]
 obtain ⟨t,e,rfl⟩:=kD (b:=vY d) (fun i s=>s=(i:Int)) d.Files.length (fun t=>t= .nxt ()) (by
  rintro i s hi rfl
  unfold vY
  rw [if_pos (by simp; omega)]
  have hp:=hg.path _ (List.getElem_mem hi)
  have hd:=hg.data _ (List.getElem_mem hi)
  rcases zB2 d.Files[i].Path with ⟨_,e⟩|⟨h,_⟩
  ·simp only [xD hi,Option.bind_some,e]
   have key:(if decide ((i:Int)>0) then (idx d.Files (w64 ((i:Int)-1))).bind fun x39=>some (slt d.Files[i].Path x39.Path||seq d.Files[i].Path x39.Path) else some false)=some false:=by
    by_cases h0:i=0
    ·subst h0; simp
    ·rw [if_pos (by simp; omega),xZ (by omega) (by omega),show ((i:Int)-1)=((i-1:Nat):Int) by omega,xD (show i-1<d.Files.length by omega)]
     have hs:=List.pairwise_iff_getElem.1 hg.sorted (i-1) i (by omega) hi (by omega)
     simp only [Option.bind_some]
     rw [zHU hs,seq_eq]
     have:=zJG hs
     simp
     exact fun e=>this e.symm
   rw [if_neg (by simp),key]
   simp only [Option.bind_some]
   rw [if_neg (by simp),if_neg (by simp; omega),wK (by omega)]
   exact .inl ⟨_,rfl,rfl⟩
  ·exact absurd hp h) (by
  rintro s rfl
  unfold vY
  rw [if_neg (by simp)]
  exact ⟨_,rfl,rfl⟩) d.Files.length 0 0 (by omega) rfl
 simp only [jN,e,Option.bind_some,Fl.go]
 rw [zDD d (by omega) (fun f hf=>by have:=hg.data f hf; omega)]
 simp only [Option.bind_some]
 rw [if_neg (by have:=hg.room; omega)]
theorem zFi {c:Int}:∀{l:List Int},c∉l→zBx c l=[l]
 |[],_=>rfl
 |x::l,h=>by
  have hx:¬x=c:=fun e=>h (by simp [e])
  have ih:=zFi (c:=c) (l:=l) (fun e=>h (by simp [e]))
  have e:zBx c (x::l)=if x=c then []::zBx c l else match zBx c l with|a::t=>(x::a)::t|[]=>[[x]]:=rfl
  rw [e,if_neg hx,ih]
theorem zA9 {c:Int}:∀{l:List Int} (r:List Int),c∉l→zBx c (l++c::r)=l::zBx c r
 |[],r,_=>by simp [zBx]
 |x::l,r,h=>by
  have hx:¬x=c:=fun e=>h (by simp [e])
  have ih:=zA9 (c:=c) (l:=l) r (fun e=>h (by simp [e]))
  have e:zBx c (x::(l++c::r))=if x=c then []::zBx c (l++c::r) else match zBx c (l++c::r) with|a::t=>(x::a)::t|[]=>[[x]]:=rfl
  rw [List.cons_append,e,if_neg hx,ih]
theorem zCa:∀(n:Nat),(∀c∈zBb n,zBl c=true)∧1≤(zBb n).length ∧val (zBb n)=n:=by
 intro n
 induction n using Nat.strongRecOn with
 |ind n ih=>
  by_cases h:n<10
  ·rw [jL h]
   refine ⟨fun c hc=>?_,by simp,by simp [val]; omega⟩
   rw [List.mem_singleton.1 hc]
   unfold zBl
   simp
   omega
  ·obtain ⟨h1,h2,h3⟩:=ih (n / 10) (by omega)
   rw [zAI h]
   refine ⟨fun c hc=>?_,by simp,?_⟩
   ·rcases List.mem_append.1 hc with hc|hc
    ·exact h1 c hc
    ·rw [List.mem_singleton.1 hc]
     unfold zBl
     simp
     omega
   ·rw [zA8,h3]
    omega
theorem zCV {n:Nat} (h:n<1000):zEj (zBb n) 3=some (n:Int):=by
 obtain ⟨h1,h2,h3⟩:=zCa n
 have h4:=zCU 2 n (by omega)
 unfold zEj
 rw [if_neg,h3]
 rintro (h|h|h)
 ·omega
 ·omega
 ·exact h h1
theorem zHp {c d:Int} (h:zBl c=true) (hd:d<48∨d>57):c≠d:=by
 unfold zBl at h
 simp only [Bool.and_eq_true,decide_eq_true_eq] at h
 omega
theorem zGS (v:Version):bl (zD8 v)=zBb v.A.toNat++46::(zBb v.B.toNat++46::zBb v.C.toNat):=by
 unfold zD8
 have h46:bl (bs [46])=[46]:=zA2 _
 simp only [yQ,zCt,h46,List.append_assoc,List.cons_append,List.nil_append]
theorem zHG {v:Version} (h:VF v=0):PV (zD8 v)= {Code:=0,Version:=v}:=by
 obtain ⟨h1,h2,h3⟩:=zFr h
 have hn:∀n:Nat,(46:Int)∉zBb n:=fun n hm=>zHp ((zCa n).1 _ hm) (.inl (by omega)) rfl
 have hp:tL 46 (zD8 v)=[zFT v.A.toNat,zFT v.B.toNat,zFT v.C.toNat]:=by
  refine (zCK ?_).symm
  rw [zGS,zA9 _ (hn _),zA9 _ (hn _),zFi (hn _)]
  simp [zCt]
 unfold PV
 rw [hp,if_neg (by simp)]
 have e1:=zCV (n:=v.A.toNat) (by omega)
 have e2:=zCV (n:=v.B.toNat) (by omega)
 have e3:=zCV (n:=v.C.toNat) (by omega)
 simp only [goL,zBC,zCt,e1,e2,e3,zJa]
 obtain ⟨a,b,c⟩:=v
 simp only at h1 h2 h3 ⊢
 simp
 refine ⟨?_,?_,?_⟩<;>omega
theorem zGn {s:ByteArray} (h:NF s=0):∀c∈bl s,zCN c=true:=by
 intro c hc
 unfold NF at h
 split at h
 ·cases h
 split at h
 ·cases h
 split at h
 ·unfold zCF at h
  cases hs:jE (fun _ c=>if zCN c then none else some (5:Int)) 0 (bl s) with
  |some r=>
   exfalso
   have key:∀(xs:List Int) (i:Nat) (r:Int),jE (fun _ c=>if zCN c then none else some (5:Int)) i xs=some r→r=5:=by
    intro xs
    induction xs with
    |nil=>intro i r h; cases h
    |cons y ys ih=>
     intro i r h
     simp only [jE] at h
     cases hn:zCN y
     ·rw [hn] at h; simp at h; omega
     ·rw [hn] at h; simp at h; exact ih _ _ h
   rw [hs] at h
   have:=key _ _ _ hs
   simp only [Option.getD_some] at h
   omega
  |none=>
   obtain ⟨j,hj⟩:=zBK hs c hc
   cases hn:zCN c
   ·rw [hn] at hj; cases hj
   ·rfl
 ·cases h
theorem zDw (p:Int→Bool):∀{l r:List Int},(∀x∈l,p x=true)→(∀y∈r.head?,p y=false)→tw p (l++r)=l.length
 |[],[],_,_=>rfl
 |[],y::r,_,h=>by
  rw [List.nil_append,zA7,h y (by simp)]
  rfl
 |x::l,r,h,h2=>by
  rw [List.cons_append,zA7,h x (by simp),if_pos rfl,zDw p (fun y hy=>h y (by simp [hy])) h2]
  rfl
theorem zAp {a b:ByteArray}:(a++b).extract 0 a.size=a∧(a++b).extract a.size (a++b).size =b:=by
 constructor
 ·refine zAK.1 ?_
  rw [yI,yQ,←zG]
  simp
 ·refine zAK.1 ?_
  rw [yI,yQ,←zG a,←zG (a++b),yQ]
  simp
theorem zE0 (t:Term):(bl (zBH t)=[]∧t.Low=zeroV)∨(bl (zBH t)=62::61::bl (zD8 t.Low)∧zBH t=bs [62,61]++zD8 t.Low):=by
 unfold zBH
 cases h:eqV t.Low zeroV
 ·right
  rw [if_neg (by simp)]
  refine ⟨?_,rfl⟩
  rw [yQ,show bl (bs [62,61])=[62,61] from zA2 _]
  rfl
 ·left
  rw [if_pos rfl]
  exact ⟨zAO,(zHL _ _).1 h⟩
theorem zCE (t:Term):(bl (zAE t)=[]∧t.High=zEw)∨(bl (zAE t)=60::bl (zD8 t.High)∧zAE t=bs [60]++zD8 t.High∧eqV t.High zEw=false):=by
 unfold zAE
 cases h:eqV t.High zEw
 ·right
  rw [if_neg (by simp)]
  refine ⟨?_,rfl,rfl⟩
  rw [yQ,show bl (bs [60])=[60] from zA2 _]
  rfl
 ·left
  rw [if_pos rfl]
  exact ⟨zAO,(zHL _ _).1 h⟩
theorem zE9 (v:Version):∀c∈bl (zD8 v),zBl c=true∨c=46:=by
 intro c hc
 rw [zGS] at hc
 simp only [List.mem_append,List.mem_cons] at hc
 rcases hc with h|h|h|h|h
 ·exact .inl ((zCa _).1 c h)
 ·exact .inr h
 ·exact .inl ((zCa _).1 c h)
 ·exact .inr h
 ·exact .inl ((zCa _).1 c h)
theorem zHP {t:Term} (h:TF t=0):PTm (zBr t)= {Code:=0,Term:=t}:=by
 obtain ⟨hN,hL,hH,_⟩:=zEs h
 have hrest:∀y∈(bl (zBH t++zAE t)).head?,zCN y=false:=by
  intro y hy
  rw [yQ] at hy
  rcases zE0 t with ⟨e,_⟩|⟨e,_⟩
  ·rcases zCE t with ⟨e2,_⟩|⟨e2,_⟩
   ·rw [e,e2] at hy; simp at hy
   ·rw [e,e2] at hy
    simp at hy
    subst hy
    decide
  ·rw [e] at hy
   simp at hy
   subst hy
   decide
 have hn:zEy (zBr t)=t.Name.size:=by
  unfold zEy zBr
  rw [yQ,zDw zCN (zGn hN) hrest,zG]
 have e1:nameP (zBr t)=t.Name:=by
  unfold nameP
  rw [hn]
  exact zAp.1
 have e2:zFL (zBr t)=zBH t++zAE t:=by
  unfold zFL
  rw [hn]
  exact zAp.2
 have hver60:∀v:Version,∀c∈bl (zD8 v),zC4 c=true:=fun v c hc=>by
  unfold zC4
  rcases zE9 v c hc with h|h
  ·simpa using zHp h (.inr (by omega))
  ·subst h; decide
 have hlow60:∀c∈bl (zBH t),zC4 c=true:=by
  intro c hc
  rcases zE0 t with ⟨e,_⟩|⟨e,_⟩
  ·rw [e] at hc; cases hc
  ·rw [e] at hc
   simp only [List.mem_cons] at hc
   rcases hc with rfl|rfl|hc
   ·decide
   ·decide
   ·exact hver60 _ c hc
 have hcut:zAa (zBH t++zAE t)=(zBH t).size :=by
  unfold zAa
  rw [yQ,zDw zC4 hlow60,zG]
  intro y hy
  rcases zCE t with ⟨e,_⟩|⟨e,_⟩
  ·rw [e] at hy; simp at hy
  ·rw [e] at hy
   simp at hy
   subst hy
   decide
 have elow:zCo (zBH t++zAE t)=zBH t:=by
  unfold zCo
  rw [hcut]
  exact zAp.1
 have eh:zDx (zBH t++zAE t)=some t.High:=by
  unfold zDx
  rw [hcut]
  rcases zCE t with ⟨e,e'⟩|⟨e,e',e3⟩
  ·have hz:(zAE t).size =0:=by rw [←zG,e]; rfl
   rw [if_neg (by rw [jD]; omega),e']
  ·have hz:(zAE t).size =(zD8 t.High).size +1:=by rw [←zG,e,←zG]; rfl
   rw [if_pos (by rw [jD]; omega)]
   have hV:VF t.High=0:=hH.resolve_left (by rw [e3]; simp)
   have:(zBH t++zAE t).extract ((zBH t).size +1) (zBH t++zAE t).size =zD8 t.High:=by
    refine zAK.1 ?_
    rw [yI,yQ,e,←zG (zBH t++zAE t),yQ,e,←zG (zBH t)]
    have:∀(a b:List Int) (x:Int),List.take ((a++x::b).length -(a.length+1)) (List.drop (a.length+1) (a++x::b))=b:=fun a b x=>by
     rw [←List.drop_drop,List.drop_left,List.drop_succ_cons,List.drop_zero]
     exact List.take_of_length_le (by simp; omega)
    exact this _ _ _
   rw [this,zHG hV]
   rfl
 have el:zHx (zBH t++zAE t)=some t.Low:=by
  unfold zHx
  rw [elow]
  rcases zE0 t with ⟨e,e'⟩|⟨e,e'⟩
  ·rw [if_pos,e']
   rw [zA3,e,zAO]
   rfl
  ·rw [if_neg]
   ·have hz:(zBH t).size =(zD8 t.Low).size +2:=by rw [←zG,e,←zG]; rfl
    rw [if_neg]
    ·have:(zBH t).extract 2 (zBH t).size =zD8 t.Low:=by
      rw [e']
      exact zAp.2
     rw [this,zHG hL]
     rfl
    ·have h2:¬((zBH t).size <2):=by omega
     have:(zBH t).extract 0 2=bs [62,61]:=by
      rw [e']
      exact zAp.1
     rw [this,zBj]
     simp [h2]
   ·rw [zA3,e,zAO]
    simp
 unfold PTm
 rw [e1,e2,hN,eh,el]
 simp only [bne_self_eq_false,Bool.false_eq_true,if_false]
 unfold zJQ
 have:({Name:=t.Name,Low:=t.Low,High:=t.High}:Term)=t:=rfl
 rw [this,h]
 rfl
theorem zJW {c d:Int} (h:zCN c=true) (hd:d<48):c≠d:=by
 unfold zCN zHd zDV at h
 simp only [Bool.or_eq_true,Bool.and_eq_true,decide_eq_true_eq,beq_iff_eq] at h
 omega
theorem zHk {t:Term} (h:TF t=0):(10:Int)∉bl (zBr t):=by
 obtain ⟨hN,_⟩:=zEs h
 have hv:∀v:Version,(10:Int)∉bl (zD8 v):=fun v hm=>by
  rcases zE9 v _ hm with h|h
  ·exact zHp h (.inl (by omega)) rfl
  ·omega
 intro hm
 unfold zBr at hm
 simp only [yQ,List.mem_append] at hm
 rcases hm with hm|hm|hm
 ·exact zJW (zGn hN _ hm) (by omega) rfl
 ·rcases zE0 t with ⟨e,_⟩|⟨e,_⟩
  ·rw [e] at hm; cases hm
  ·rw [e] at hm
   simp only [List.mem_cons] at hm
   rcases hm with hm|hm|hm
   ·omega
   ·omega
   ·exact hv _ hm
 ·rcases zCE t with ⟨e,_⟩|⟨e,_⟩
  ·rw [e] at hm; cases hm
  ·rw [e] at hm
   simp only [List.mem_cons] at hm
   rcases hm with hm|hm
   ·omega
   ·exact hv _ hm
theorem zFN {α:Type} (f:α→ByteArray):∀(l:List α) (a:ByteArray),bl (zBA (fun t=>f t++bs [10]) a l)=bl a++l.flatMap (fun t=>bl (f t)++[10])
 |[],a=>by simp [zBA]
 |x::l,a=>by
  have ih:=zFN f l (a++(f x++bs [10]))
  show bl (zBA (fun t=>f t++bs [10]) (a++(f x++bs [10])) l)=_
  rw [ih]
  have h10:bl (bs [10])=[10]:=zA2 _
  simp [yQ,h10]
theorem zFn {α:Type} (f:α→ByteArray):∀(l:List α),(∀t∈l,(10:Int)∉bl (f t))→zBx 10 (l.flatMap (fun t=>bl (f t)++[10]))=l.map (fun t=>bl (f t))++[[]]
 |[],_=>rfl
 |x::l,h=>by
  have ih:=zFn f l (fun t ht=>h t (by simp [ht]))
  rw [List.flatMap_cons,List.append_assoc]
  rw [show bl (f x)++([10]++l.flatMap (fun t=>bl (f t)++[10]))=bl (f x)++10::l.flatMap (fun t=>bl (f t)++[10]) from rfl]
  rw [zA9 _ (h x (by simp)),ih]
  rfl
theorem zGu {α:Type} (f:α→ByteArray) (l:List α) (h:∀t∈l,(10:Int)∉bl (f t)):zAv (zBA (fun t=>f t++bs [10]) (bs []) l)=l.map f:=by
 have hp:tL 10 (zBA (fun t=>f t++bs [10]) (bs []) l)=l.map f++[bs []]:=by
  refine (zCK ?_).symm
  rw [zFN,zAO,List.nil_append,zFn f l h]
  simp [zAO]
 unfold zAv
 rw [hp]
 simp
theorem zDj:∀(l:List Term),(∀t∈l,TF t=0)→zC8 (l.map zBr)=some l
 |[],_=>rfl
 |t::l,h=>by
  have ih:=zDj l (fun x hx=>h x (by simp [hx]))
  simp only [List.map_cons,zC8]
  rw [zHP (h t (by simp)),ih]
  rfl
theorem zEr (l:List Term) (h:∀t∈l,TF t=0) (h8:l.length≤8):zAw (zA1 l)=if uW [] l then none else some l:=by
 have e:zAv (zA1 l)=l.map zBr:=zGu zBr l (fun t ht=>zHk (h t ht))
 unfold zAw
 rw [e,zDj l h]
 simp only
 cases ha:uW [] l
 ·rw [if_pos ⟨h8,rfl,trivial⟩]; rfl
 ·rw [if_neg (fun h=>by cases h.2.1)]; rfl
theorem zE7 (n:Int):uV n=some (zHR n):=by
 unfold uV zHR
 rw [zFm]
 simp only [Option.bind_some]
 cases hb:inB n 0 20000
 ·rfl
 ·simp only [Bool.not_true,Bool.false_eq_true,if_false,if_true]
  by_cases h0:n=0
  ·subst h0
   rfl
  ·have h0':(n==0)=false:=by simpa using h0
   rw [h0',if_neg h0,zEY (by omega) (by omega)]
   simp only [Bool.false_eq_true,if_false,Option.bind_some]
   have hs:=zBa zDc zBV
   rw [zE1 (by simp) (by simp) (by simp) (by simp)]
   simp only [Option.bind_some,List.nil_append]
   rw [zE1 (by simp) (by simp) (by simpa using zDc) (by simp)]
   simp only [Option.bind_some,List.cons_append,List.nil_append]
   rw [zE1 (by simp) (by simpa using zDc) (by simpa using ⟨hs,zBV⟩) (by simp)]
   rfl
theorem zFB {d:zF} (hf:d.fine) (hd:d.Down=false) (hst:d.Stop= -1) {p:ByteArray} {x:List Int} (hp:zBQ p) {k:Nat} (hk:k<d.Files.length) (hpk:d.Files[k].Path =p) (hx:x.length≤4000)
  (hroom:total d.Files-d.Files[k].Data.length +x.length≤d.Budget):wI d p x=some (0,{d with Files:=d.Files.set k {Path:=p,Data:=x},Writes:=d.Writes+1}):=by
 obtain ⟨fs,bu,wr,st,dn⟩:=d
 simp only at hd hst hk hpk hroom
 subst hd hst
 have hl:=hf.len; have hsz:=hf.data; have hro:=hf.room; have hb1:=hf.b1; have hw0:=hf.w0; have hw1:=hf.w1; have hso:=hf.sorted
 simp only at hl hsz hro hb1 hw0 hw1 hso
 have hn:=zAh fs
 have hPF:xK p=some 0:=by
  rw [zCx]
  obtain ⟨r,e,hr⟩:=zDy p
  rw [e,hr.2 hp]
 have hT2:xM {Files:=fs,Budget:=bu,Writes:=wr,Stop:= -1,Down:=false}=some (total fs):=by
  rw [zGs]
  exact zDD _ (by simp only; omega) (fun f hm=>by have:=hsz f hm; omega)
 have hcl:yF x=some x:=by
  unfold yF
  rw [zBu (by simp; omega) (by simp; omega)]
  rfl
 have hw:w64 (wr+1)=wr+1:=xZ (by omega) (by omega)
 rcases zDO {Files:=fs,Budget:=bu,Writes:=wr,Stop:= -1,Down:=false} p hl hso with ⟨k',hk',_,e2,hpk'⟩|⟨_,hno,_⟩
 ·simp only at hk' e2 hpk'
  have:k'=k:=zBk hso hk' hk (hpk'.trans hpk.symm)
  subst this
  have hdk:=hsz _ (List.getElem_mem hk)
  have hmk:=zEA (List.getElem_mem hk)
  have ha:w64 (w64 (total fs-(fs[k'].Data.length :Int))+(x.length:Int))=total fs-fs[k'].Data.length +x.length:=by
   rw [xZ (x:=total fs-(fs[k'].Data.length :Int)) (by omega) (by omega)]
   exact xZ (by omega) (by omega)
  unfold wI zY wE yH yA yS
  have c1:¬((x.length:Int)>4000):=by omega
  have c2:¬(total fs-(fs[k'].Data.length :Int)+(x.length:Int)>bu):=by omega
  have c3:decide ((-1:Int)≥0)=false:=by decide
  simp only [e2,Option.bind_some,hPF,hT2,xD hk,Int.toNat_natCast,ha,hcl,Bool.not_true,Bool.false_eq_true,if_false,bne_self_eq_false,hw,c1,c2,c3,decide_false,hpk]
 ·exact absurd hpk (hno _ (List.getElem_mem hk))
def kM (x:List Int):zF:= {Files:=[{Path:=bs [99,117,114],Data:=[49]},{Path:=zGP 1,Data:=[]},{Path:=bs [114,111,111,116,115],Data:=x}],Budget:=20000,Writes:=1,Stop:= -1,Down:=false}
theorem zGV:bl (zGP 1)=[103,101,110,47,48,48,48,48,48,49]:=by
 rw [zEk]
 unfold zKr
 rw [show (1:Int).toNat =1 from rfl,jL (by omega)]
 rfl
theorem zJd:zBQ (zGP 1):=by
 refine ⟨by rw [zDg (by omega)]; decide,by rw [zDg (by omega)]; decide,?_⟩
 rw [zGV]
 decide
theorem zJi:zBQ (bs [99,117,114]):=by
 refine ⟨by decide,by decide,?_⟩
 rw [zA2]
 decide
theorem zFl:zBQ (bs [114,111,111,116,115]):=by
 refine ⟨by decide,by decide,?_⟩
 rw [zA2]
 decide
theorem zAD (x:List Int):(kM x).Files.Pairwise (fun f g=>slt f.Path g.Path=true):=by
 have hs:=zBa zDc zBV
 unfold kM
 simp [zDc,zBV,hs]
theorem zBi {x:List Int} (hx:x.length≤4000):(kM x).good :=by
 refine ⟨by show (0:Int)≤20000; decide,Int.le_refl _,by show (0:Int)≤1; decide,by show (1:Int)≤_; decide,Int.le_refl _,by show (-1:Int)≤_; decide,by simp [kM],?_,?_,zAD x,?_⟩
 ·intro f hf
  simp only [kM,List.mem_cons,List.not_mem_nil,or_false] at hf
  rcases hf with rfl|rfl|rfl
  ·exact zJi
  ·exact zJd
  ·exact zFl
 ·intro f hf
  simp only [kM,List.mem_cons,List.not_mem_nil,or_false] at hf
  rcases hf with rfl|rfl|rfl
  ·simp
  ·simp
  ·exact hx
 ·simp [kM,total]
  omega
theorem zCZ:(zJb 20000).good :=by
 have h:=zBi (x:=[]) (by simp)
 exact ⟨h.b0,h.b1,by decide,by decide,h.s0,h.s1,h.len,h.path,h.data,h.sorted,h.room⟩
theorem zGL {x:List Int} (hx:x.length≤4000):uK (zJb 20000) (bs [114,111,111,116,115]) x=some {Code:=0,zF:=kM x}:=by
 unfold uK yJ
 rw [kX,kY _ zCZ,zHb _ (zF.zHr zCZ)]
 have hw:=zFB (d:=zJb 20000) zCZ.fine rfl rfl zFl (k:=2) (by simp [zJb]) rfl hx (by simp [zJb,total]; omega)
 have hdn:(zJb 20000).Down =false:=rfl
 simp only [Option.bind_some,beq_self_eq_true,if_true,hdn,Bool.false_eq_true,if_false,bne_self_eq_false,zHN,vH,hw]
 rfl
theorem zE8 (x:List Int):zBX (kM x).Files =[1]:=by
 have h1:begins (bs [99,117,114]) (bs [103,101,110,47])=false:=by
  cases h:begins (bs [99,117,114]) (bs [103,101,110,47]) with
  |false=>rfl
  |true=>
   have:=(zAT h).2
   rw [zA2,zA2] at this
   simp at this
 have h2:begins (bs [114,111,111,116,115]) (bs [103,101,110,47])=false:=by
  cases h:begins (bs [114,111,111,116,115]) (bs [103,101,110,47]) with
  |false=>rfl
  |true=>
   have:=(zAT h).1
   rw [zA2,zA2] at this
   simp at this
 have hg:=zGV
 have h3:begins (zGP 1) (bs [103,101,110,47])=true:=by
  unfold begins
  have h4:(bs [103,101,110,47]).size =4:=rfl
  rw [h4,zDg (by omega),zA3,yI,hg,zA2]
  decide
 unfold zBX wC kM
 simp only [List.filter_cons,h1,h2,h3,Bool.false_eq_true,if_false,if_true,List.filter_nil,List.map_cons,List.map_nil,List.filterMap_cons,List.filterMap_nil,hg]
 have:kP [103,101,110,47,48,48,48,48,48,49]=some 1:=by
  unfold kP zEj
  rw [if_neg (by simp; decide)]
  rfl
 rw [this]
theorem zIF {x:List Int} (hx:x.length≤4000):wQ (kM x)=some {Code:=0,Value:=1}:=by
 have hg:=zBi hx
 have ed:yA (kM x) (bs [99,117,114])=some ([49],true):=by
  rcases zEC (kM x) (bs [99,117,114]) hg with ⟨k,hk,_,e2,hp⟩|⟨_,_,hp⟩
  ·have:k=0:=zBk (zAD x) hk (by simp [kM]) hp
   subst this
   exact e2
  ·exact absurd rfl (hp {Path:=bs [99,117,114],Data:=[49]} (by simp [kM]))
 have en:wV (b2s [49]) 6=some 1:=by
  rw [number_eq _ 6 (by omega),zFa (by simp)]
  rfl
 unfold wQ vC
 rw [kX,kY _ hg,ed]
 simp only [Option.bind_some,bne_self_eq_false,Bool.false_eq_true,if_false,en,Bool.not_true]
 rw [zH2 _ (by have:=hg.len; omega),zE8]
 simp only [Option.bind_some]
 rw [zIs _ _ (by simp)]
 simp
theorem zHe {x:List Int} (hx:x.length≤4000):jH (kM x)=some {Code:=0,Value:=2}:=by
 have hg:=zBi hx
 have e:=(zH5 (kM x) (by have:=hg.len; omega) (zAD x)).2
 have en:zEO (kM x).Files =2:=by
  unfold zEO
  rw [zE8]
  rfl
 rw [en] at e
 unfold jH
 rw [kX,kY _ hg,e]
 rfl
theorem zJ6 (s:ByteArray):b2s (s2b s)=s:=by
 refine zAK.1 ?_
 rw [zGj,zFa zCf]
theorem zEI {s:ByteArray} (hs:s.size≤4000):tY (kM (s2b s))=some (match zAw s with|some l=> {Code:=0,Asks:=l}|none=> {Code:=5,Asks:=[]}):=by
 have hl:(s2b s).length ≤4000:=by rw [zGj,zG]; exact hs
 have hg:=zBi hl
 have hb:Byt (kM (s2b s)):=by
  intro f hf c hc
  simp only [kM,List.mem_cons,List.not_mem_nil,or_false] at hf
  rcases hf with rfl|rfl|rfl
  ·simp at hc; omega
  ·simp at hc
  ·simp only at hc
   rw [zGj] at hc
   exact zCf c hc
 unfold tY
 rw [kX,kY _ hg,zGw hg hb]
 have e:zCC (kM (s2b s))=zAw s:=by
  unfold zCC fileOf
  have:=zHJ (fs:=(kM (s2b s)).Files) (p:=bs [114,111,111,116,115]) (k:=2) (zAD _) (by simp [kM]) rfl
  rw [this]
  show zAw (b2s (s2b s))=zAw s
  rw [zJ6]
 rw [e]
 cases zAw s<;>rfl
theorem zDG {R:Type} (r:R) (l:List Term):∀(k i:Nat),i+k=l.length→jE (fun i t=>if zAs (l.take i) t then some r else none) i (l.drop i)=if uW (l.take i) (l.drop i) then some r else none
 |0,i,hk=>by
  have e:i=l.length:=by omega
  subst e
  rw [List.drop_length]
  rfl
 |k+1,i,hk=>by
  have hi:i<l.length:=by omega
  have ih:=zDG r l k (i+1) (by omega)
  rw [List.drop_eq_getElem_cons hi]
  have ea:uW (l.take i) (l[i]::l.drop (i+1))=(zAs (l.take i) l[i]||uW (l.take i++[l[i]]) (l.drop (i+1))):=rfl
  rw [ea]
  simp only [jE]
  rw [List.take_succ_eq_append_getElem hi] at ih
  cases h:zAs (l.take i) l[i]
  ·simp only [Bool.false_eq_true,if_false,Bool.false_or]
   exact ih
  ·rfl
theorem zGY (l:List Term) (hl:l.length≤8) (a:List Int) (ha:a.length≤1048576) (hD:xP a=some l):uU a=some true:=by
 have hbig:kE a=some false:=by
  unfold kE
  congr 1
  simp; omega
 have hst:zHR 20000= {Code:=0,zF:=zJb 20000}:=rfl
 have hts:(if tsF l !=0 then bs [] else zA1 l).size ≤4000:=by
  cases h:tsF l !=0
  ·have h0:=zEl (l:=l) (by simpa using h)
   have:=zEe zGq 38 l (fun t ht=>zDS (h0 t ht)) (bs [])
   have hz:(bs []).size =0:=rfl
   show (zBA zGq (bs []) l).size ≤4000
   omega
  ·show (bs []).size ≤4000
   decide
 unfold uU
 rw [hbig,hD]
 simp only [Option.bind_some,Bool.false_eq_true,if_false]
 rw [zBy l (by omega),zE7,hst]
 simp only [Option.bind_some,bne_self_eq_false,Bool.false_eq_true,if_false]
 generalize hs:(if tsF l !=0 then bs [] else zA1 l)=s at*
 have hl2:(s2b s).length ≤4000:=by rw [zGj,zG]; exact hts
 rw [zGL hl2]
 simp only [Option.bind_some]
 rw [zEI hts]
 simp only [Option.bind_some]
 generalize hx:(match zAw s with|some l=>({Code:=0,Asks:=l}:yE)|none=> {Code:=5,Asks:=[]})=x
 have k1:=zAi l (fun _ t=>if TF t !=0 then some (seq s (bs [])&&(x.Code==0&&(x.Asks.length:Int)==0)) else none) (b:=tC l s {Code:=0,zF:=kM (s2b s)} x) (by
  intro i hi
  unfold tC
  rw [if_pos (by simp; omega),xD hi]
  simp only [Option.bind_some,zD7]
  rw [wK (by omega)]
  cases TF l[i] !=0
  ·rfl
  ·cases seq s (bs [])<;>cases x.Code==0<;>rfl) (by
  unfold tC
  rw [if_neg (by simp)])
 rw [zCr] at k1
 unfold jJ
 rw [k1,zEW]
 by_cases hany:l.any (fun t=>TF t !=0)=true
 ·rw [if_pos hany]
  simp only
  have h0:(tsF l !=0)=true:=by
   cases h:tsF l !=0
   ·have h0:=zEl (l:=l) (by simpa using h)
    obtain ⟨t,ht,h2⟩:=List.any_eq_true.1 hany
    rw [h0 t ht] at h2
    simp at h2
   ·rfl
  rw [h0,if_pos rfl] at hs
  subst hs
  have hr:zAw (bs [])=some []:=by
   have:=zDU
   rwa [show b2s []=bs [] from rfl] at this
  rw [hr] at hx
  subst hx
  rw [zBj]
  rfl
 ·rw [if_neg hany]
  simp only
  have h0:∀t∈l,TF t=0:=fun t ht=>by
   by_cases h:TF t=0
   ·exact h
   ·exact absurd (List.any_eq_true.2 ⟨t,ht,by simpa using h⟩) hany
  rw [zGR h0] at hs
  simp only [bne_self_eq_false,Bool.false_eq_true,if_false] at hs
  subst hs
  rw [zEr l h0 hl] at hx
  have k2:∀i,(hi:i<l.length)→uO l {Code:=0,zF:=kM (s2b (zA1 l))} x (i:Int) 0=some (if zAs (l.take i) l[i] then .ret (x.Code==5) else .nxt ()):=by
   intro i hi
   have k2:=zAi (l.take i) (fun _ t=>if seq t.Name l[i].Name then some (x.Code==5) else none) (b:=tH l {Code:=0,zF:=kM (s2b (zA1 l))} x (i:Int)) (by
    intro j hj
    have hj':j<i:=by simp at hj; omega
    have hjl:j<l.length:=by omega
    unfold tH
    rw [if_pos (by simp; omega),xD hjl,xD hi]
    simp only [Option.bind_some]
    rw [wK (by omega),List.getElem_take]
    cases seq l[j].Name l[i].Name <;>rfl) (by
    have:(l.take i).length =i:=by simp; omega
    rw [this]
    unfold tH
    rw [if_neg (by simp)])
   rw [zCr] at k2
   unfold uO
   rw [k2]
   unfold zAs
   cases (l.take i).any (fun o=>seq o.Name l[i].Name)<;>rfl
  have k3:=zAi l (fun i t=>if zAs (l.take i) t then some (x.Code==5) else none) (b:=uY l {Code:=0,zF:=kM (s2b (zA1 l))} x) (by
   intro i hi
   unfold uY
   rw [if_pos (by simp; omega),k2 i hi]
   simp only [Option.bind_some]
   rw [wK (by omega)]
   cases zAs (l.take i) l[i]<;>rfl) (by
   unfold uY
   rw [if_neg (by simp)])
  have ht:=zDG (x.Code==5) l l.length 0 (by omega)
  simp only [List.drop_zero,List.take_zero] at ht
  rw [ht] at k3
  unfold jA
  rw [k3,zEW]
  cases hd:uW [] l
  ·rw [hd] at hx
   simp only [Bool.false_eq_true,if_false] at hx
   subst hx
   have k4:uQ l {Code:=0,zF:=kM (s2b (zA1 l))} {Code:=0,Asks:=l} 0=some (.nxt ()):=by
    unfold uQ
    refine zJg l.length (fun i hi=>?_) ?_
    ·unfold jX
     rw [if_pos (by simp; omega)]
     simp only [xD hi,Option.bind_some,zBj]
     rw [wK (by omega)]
     simp
    ·unfold jX
     rw [if_neg (by simp)]
   simp only [Bool.false_eq_true,if_false,bne_self_eq_false,Option.bind_some,k4,Fl.go,zIF hl2,zHe hl2]
   rfl
  ·rw [hd] at hx
   simp only [if_true] at hx
   subst hx
   rfl
theorem zBY {b:Nat} {s:zK} (h:Sr b s) (hb:b≤1000000000):∃p s',xQ s=some (p,s')∧p.size≤20∧Sr (b+1) s':=by
 obtain ⟨r,s',x,e1,e2,hx,h'⟩:=at_next h hb (l:=[bs [97],bs [98],bs [99],bs [100],bs [108,105,98],bs [119,101,98]]) (n:=6) rfl (by simp)
 refine ⟨x,s',?_,?_,h'⟩
 ·unfold xQ
  rw [e1]
  simp only [Option.bind_some,e2]
 ·simp only [List.mem_cons,List.not_mem_nil,or_false] at hx
  rcases hx with rfl|rfl|rfl|rfl|rfl|rfl<;>decide
theorem zCw {b:Nat} {s:zK} (h:Sr b s) (hb:b+10≤1000000000):∃v s',xL s=some (v,s')∧(0≤v.A∧v.A≤3)∧Sr (b+5) s':=by
 obtain ⟨a,s1,e1,a0,a1,h1⟩:=zAg h (by omega) 4
 obtain ⟨c,s2,e2,_,_,h2⟩:=zAg h1 (by omega) 3
 obtain ⟨d,s3,e3,_,h3⟩:=zA5 h2 (by omega) [0,0,c] (by simp)
 obtain ⟨f,s4,e4,_,_,h4⟩:=zAg h3 (by omega) 3
 obtain ⟨g,s5,e5,_,h5⟩:=zA5 h4 (by omega) [0,0,0,f] (by simp)
 refine ⟨{A:=a,B:=d,C:=g},s5,?_,⟨a0,by have:=a1 (by omega); simp only; omega⟩,h5⟩
 unfold xL
 rw [e1]
 simp only [Option.bind_some,e2,e3,e4,e5]
theorem zEM {b:Nat} {s:zK} (h:Sr b s) (hb:b+20≤1000000000):∃t s',uH s=some (t,s')∧t.Name.size≤20∧Sr (b+9) s':=by
 obtain ⟨p,s1,e1,hp,h1⟩:=zBY h (by omega)
 obtain ⟨q,s2,e2,h2⟩:=zAH h1 (by omega) 2
 obtain ⟨v,s3,e3,h3⟩:∃(v:Version) (s3:zK),(if q=true then (xL s2).bind fun x9=>some (x9.2.Code,x9.2.At,x9.1.A,x9.1.B,x9.1.C) else some (s2.Code,s2.At,0,0,0))=some (s3.Code,s3.At,v.A,v.B,v.C)∧Sr (b+7) s3:=by
  cases q
  ·exact ⟨{A:=0,B:=0,C:=0},s2,rfl,h2.mono (by omega)⟩
  ·obtain ⟨v,s3,e,_,h3⟩:=zCw h2 (by omega)
   rw [e]
   exact ⟨v,s3,rfl,h3.mono (by omega)⟩
 obtain ⟨q2,s4,e4,h4⟩:=zAH (s:= {Code:=s3.Code,At:=s3.At}) h3 (by omega) 3
 obtain ⟨u,s5,e5,h5⟩:∃(u:Version) (s5:zK),(if q2=true then (zZ s4 2).bind fun x15=>some (x15.2.Code,x15.2.At,w64 (w64 (v.A+1)+x15.1),(0:Int),(0:Int)) else some (s4.Code,s4.At,1000,0,0))=some (s5.Code,s5.At,u.A,u.B,u.C)∧Sr (b+9) s5:=by
  cases q2
  ·exact ⟨{A:=1000,B:=0,C:=0},s4,rfl,h4.mono (by omega)⟩
  ·obtain ⟨r,s5,e,_,_,h5⟩:=zAg h4 (by omega) 2
   rw [e]
   exact ⟨{A:=w64 (w64 (v.A+1)+r),B:=0,C:=0},s5,rfl,h5.mono (by omega)⟩
 refine ⟨{Name:=p,Low:=v,High:=u},s5,?_,hp,h5⟩
 unfold uH kG tJ
 rw [e1]
 simp only [Option.bind_some,e2,e3,e4,e5]
theorem zEh {b:Nat} {s:zK} (h:Sr b s) (hb:b+10≤1000000000):∃p s',vM s=some (p,s')∧p.size≤20∧Sr (b+2) s':=by
 obtain ⟨q,s1,e,h1⟩:=zAH h (by omega) 14
 unfold vM
 rw [e]
 simp only [Option.bind_some]
 cases q
 ·obtain ⟨p,s2,e2,h2,h3⟩:=zBY h1 (by omega)
  rw [e2]
  exact ⟨p,s2,rfl,h2,h3⟩
 ·obtain ⟨r,s',x,e1,e2,hx,h'⟩:=at_next h1 (by omega) (l:=[bs [],bs [49,97],bs [65],bs [97,98,99,100,101,102,103,104,105,106,107,108,109],bs [97,98,99,100,101,102,103,104,105,106,107,108],bs [97,32,98],bs [97,45],bs [95,97],bs [97,95,49]]) (n:=9) rfl (by simp)
  rw [e1]
  simp only [Option.bind_some,e2,if_true]
  refine ⟨x,s',rfl,?_,h'⟩
  simp only [List.mem_cons,List.not_mem_nil,or_false] at hx
  rcases hx with rfl|rfl|rfl|rfl|rfl|rfl|rfl|rfl|rfl<;>decide
theorem zAN {b:Nat} {s:zK} (h:Sr b s) (hb:b+20≤1000000000):∃v s',yR s=some (v,s')∧Sr (b+7) s':=by
 obtain ⟨v,s1,e1,_,h1⟩:=zCw h (by omega)
 obtain ⟨n,s2,e2,_,_,h2⟩:=zAg h1 (by omega) 14
 unfold yR
 rw [e1]
 simp only [Option.bind_some,e2]
 by_cases c0:(n==0)=true
 ·obtain ⟨y,s3,e3,_,h3⟩:=zA5 h2 (by omega) [-1,999,1000] (by simp)
  rw [if_pos c0,e3]
  exact ⟨_,_,rfl,h3⟩
 rw [if_neg c0]
 by_cases c1:(n==1)=true
 ·obtain ⟨y,s3,e3,_,h3⟩:=zA5 h2 (by omega) [-1,999,1000] (by simp)
  rw [if_pos c1,e3]
  exact ⟨_,_,rfl,h3⟩
 rw [if_neg c1]
 by_cases c2:(n==2)=true
 ·obtain ⟨y,s3,e3,_,h3⟩:=zA5 h2 (by omega) [-1,999,1000,4611686018427387904] (by simp)
  rw [if_pos c2,e3]
  exact ⟨_,_,rfl,h3⟩
 rw [if_neg c2]
 exact ⟨_,_,rfl,h2.mono (by omega)⟩
theorem zEu {b:Nat} {s:zK} (h:Sr b s) (hb:b+40≤1000000000):∃t s',vN s=some (t,s')∧t.Name.size≤20∧Sr (b+20) s':=by
 obtain ⟨t,s1,e1,ht,h1⟩:=zEM h (by omega)
 obtain ⟨n,s2,e2,_,_,h2⟩:=zAg h1 (by omega) 14
 unfold vN
 rw [e1]
 simp only [Option.bind_some,e2]
 by_cases c0:(n==0)=true
 ·obtain ⟨p,s3,e3,hp,h3⟩:=zEh h2 (by omega)
  rw [if_pos c0,e3]
  exact ⟨_,_,rfl,hp,h3.mono (by omega)⟩
 rw [if_neg c0]
 by_cases c1:(n==1)=true
 ·obtain ⟨v,s3,e3,h3⟩:=zAN h2 (by omega)
  rw [if_pos c1,e3]
  exact ⟨_,_,rfl,ht,h3.mono (by omega)⟩
 rw [if_neg c1]
 by_cases c2:(n==2)=true
 ·obtain ⟨v,s3,e3,h3⟩:=zAN h2 (by omega)
  rw [if_pos c2,e3]
  exact ⟨_,_,rfl,ht,h3.mono (by omega)⟩
 rw [if_neg c2]
 by_cases c3:(n==3)=true
 ·rw [if_pos c3]
  exact ⟨_,_,rfl,ht,h2.mono (by omega)⟩
 rw [if_neg c3]
 exact ⟨_,_,rfl,ht,h2.mono (by omega)⟩
theorem zHB {b:Nat} {s:zK} (h:Sr b s) (hb:b+200≤1000000000):∃l s',jZ s=some (l,s')∧l.length≤4∧(∀t∈l,t.Name.size≤20)∧Sr (b+100) s':=by
 obtain ⟨n,s1,e1,hn,h1⟩:=zA5 h (by omega) [0,1,1,2,3] (by simp)
 have hn3:0≤n∧n≤3:=by
  simp only [List.mem_cons,List.not_mem_nil,or_false] at hn
  omega
 obtain ⟨t,e2,l,s2,rfl,hl,hz,h2⟩:=kD (b:=jI) (fun i q=>∃(l:List Term) (s':zK),q=(s'.Code,s'.At,l,n-(i:Int))∧l.length=i∧(∀t∈l,t.Name.size≤20)∧Sr (b+1+9*i) s') n.toNat
  (fun t=>∃(l:List Term) (s':zK),t=(s'.Code,s'.At,l)∧l.length=n.toNat∧(∀t∈l,t.Name.size≤20)∧Sr (b+1+9*n.toNat) s') (by
  rintro i q hi ⟨l,s',rfl,hl,hz,hs⟩
  unfold jI
  simp only
  rw [if_pos (by simp; omega)]
  obtain ⟨t,u,f1,ht,g1⟩:=zEM hs (by omega)
  have f1':uH {Code:=s'.Code,At:=s'.At}=some (t,u):=f1
  rw [f1']
  simp only [Option.bind_some]
  rw [zBu (by simp; omega) (by simp; omega),xZ (x:=n-(i:Int)-1) (by omega) (by omega)]
  refine .inl ⟨_,rfl,_,u,by rw [show n-(i:Int)-1=n-((i+1:Nat):Int) by omega],by simp [hl],fun x hx=>?_,g1.mono (by omega)⟩
  rcases List.mem_append.1 hx with hx|hx
  ·exact hz x hx
  ·rw [List.mem_singleton.1 hx]; exact ht) (by
  rintro q ⟨l,s',rfl,hl,hz,hs⟩
  unfold jI
  simp only
  rw [if_neg (by simp; omega)]
  exact ⟨_,rfl,l,s',rfl,hl,hz,hs⟩) n.toNat 0 (s1.Code,s1.At,[],n) (by omega) ⟨[],s1,by simp,rfl,by simp,h1⟩
 have h2:=h2.mono (b':=b+30) (by omega)
 obtain ⟨q,s3,e3,h3⟩:=zAH (s:= {Code:=s2.Code,At:=s2.At}) h2 (by omega) 24
 unfold jZ
 have e2':jT (s1.Code,s1.At,[],n)=some (s2.Code,s2.At,l):=e2
 rw [e1]
 simp only [Option.bind_some,e2',e3]
 cases q
 ·exact ⟨l,s3,rfl,by omega,hz,h3.mono (by omega)⟩
 ·obtain ⟨t,s4,e4,ht,h4⟩:=zEu h3 (by omega)
  rw [if_pos rfl,e4]
  simp only [Option.bind_some]
  rw [zBu (by simp; omega) (by simp; omega)]
  refine ⟨_,s4,rfl,by simp; omega,fun x hx=>?_,h4.mono (by omega)⟩
  rcases List.mem_append.1 hx with hx|hx
  ·exact hz x hx
  ·rw [List.mem_singleton.1 hx]; exact ht
theorem zFw (a1:List Int) (k1:a1.length≤maxLen∧∀y1∈a1,IntKind.u8.min≤y1∧y1≤IntKind.u8.max):uU a1=some true:=by
 by_cases h:a1.length≤1048576
 ·obtain ⟨s,e0,h0⟩:=zF0 h (fun c hc=>by have:=k1.2 c hc; simpa [IntKind.min,IntKind.max,IntKind.signed,IntKind.bits] using this)
  obtain ⟨l,s',e,hl,_,_⟩:=zHB h0 (by omega)
  refine zGY l (by omega) a1 h ?_
  unfold xP
  rw [e0]
  simp only [Option.bind_some,e]
 ·unfold uU kE
  have:decide ((a1.length:Int)>1048576)=true:=by simp; omega
  rw [this]
  rfl
end Go.Told

import Derived.Test.YtdeihchdibglaaaGreatToldFnParts
set_option linter.unusedVariables false
set_option maxRecDepth 4000
namespace Go.Told
open Go Go.Im
theorem uM {x:Int} (h1: -9223372036854775808≤x) (h2:x≤9223372036854775807):w64 x=x:=by
 unfold w64
 rw [IntKind.wrap_i64]
 omega
theorem zP {i:Nat} (h:i<9223372036854775807):w64 ((i:Int)+1)=((i+1:Nat):Int):=by
 rw [uM (by omega) (by omega)]; omega
theorem wD {T:Type} {S:Type} {b:S→Option (Lp S T)} (I:Nat→S→Prop) (n:Nat) (Q:T→Prop) (hstep:∀i s,i<n→I i s→(∃s',b s=some (.go s')∧I (i+1) s')∨∃t,b s=some (.done t)∧Q t)
  (hend:∀s,I n s→∃t,b s=some (.done t)∧Q t):∀(k i:Nat) (s:S),i+k=n→I i s→∃t,loop b s=some t∧Q t
 |0,i,s,hk,hI=>by
  obtain ⟨t,h1,h2⟩:=hend s (by rw [show n=i by omega]; exact hI)
  exact ⟨t,by rw [xY,h1]; rfl,h2⟩
 |k+1,i,s,hk,hI=>by
  rcases hstep i s (by omega) hI with ⟨s',h1,h2⟩|⟨t,h1,h2⟩
  ·obtain ⟨t,h3,h4⟩:=wD I n Q hstep hend k (i+1) s' (by omega) h2
   exact ⟨t,by rw [xY,h1]; exact h3,h4⟩
  ·exact ⟨t,by rw [xY,h1]; rfl,h2⟩
theorem zI {α:Type} {xs:List α} {i:Nat} (h:i<xs.length):idx xs (i:Int)=some xs[i]:=by
 unfold idx
 rw [if_pos (by omega)]
 simp [h]
theorem zHy {R:Type} (n:Nat) {b:Int→Option (Lp Int (Fl R Unit))} (hstep:∀i:Nat,i<n→b (i:Int)=some (.go ((i+1:Nat):Int))) (hend:b (n:Int)=some (.done (.nxt ()))):loop b 0=some (.nxt ()):=by
 obtain ⟨t,h1,h2⟩:=wD (b:=b) (fun i s=>s=(i:Int)) n (fun t=>t= .nxt ()) (by
  rintro i s hi rfl
  exact .inl ⟨_,hstep i hi,rfl⟩) (by
  rintro s rfl
  exact ⟨_,hend,rfl⟩) n 0 0 (by omega) rfl
 rw [h1,h2]
theorem zKc {α β:Type} {xs:List α} {ys:List β} (h:xs.length=ys.length):same xs ys=some ():=if_pos h
theorem zFU (a:ByteArray):seq a a=true:=by
 unfold seq
 simp
def c1 {α:Type} (_:α):Int:=1
theorem vT {α:Type} {B:Nat} {xs ys:List α} (h:(xs.length+ys.length)*B≤140737488355328) (h2:xs.length+ys.length≤4611686018427387904):app B xs ys=some (xs++ys):=if_pos ⟨h,h2⟩
theorem zEZ {S T:Type} {b:S→Option (Lp S T)} (I:S→Prop) (μ:S→Nat) (Q:T→Prop) (step:∀s,I s→(∃s',b s=some (.go s')∧I s'∧μ s'<μ s)∨∃t,b s=some (.done t)∧Q t):∀(n:Nat) (s:S),μ s≤n→I s→∃t,loop b s=some t∧Q t
 |0,s,hn,hI=>by
  rcases step s hI with ⟨s',_,_,h3⟩|⟨t,h1,h2⟩
  ·omega
  ·exact ⟨t,by rw [xY,h1]; rfl,h2⟩
 |n+1,s,hn,hI=>by
  rcases step s hI with ⟨s',h1,h2,h3⟩|⟨t,h1,h2⟩
  ·obtain ⟨t,h4,h5⟩:=zEZ I μ Q step n s' (by omega) h2
   exact ⟨t,by rw [xY,h1]; exact h4,h5⟩
  ·exact ⟨t,by rw [xY,h1]; rfl,h2⟩
def yA.sm (B:Nat) (x:yA):Prop:=(True)∧(x.Parts.length≤B∧∀y0∈x.Parts,y0.length≤B∧∀y1∈y0,y1.size≤B)
def yE.sm (B:Nat) (x:yE):Prop:=(True)∧(x.Names.length≤B∧∀y0∈x.Names,y0.size≤B)
def SolveResult.sm (B:Nat) (x:SolveResult):Prop:=(True)∧(True)∧(x.Set.length≤B∧∀y0∈x.Set,True)
def zC.sm (B:Nat) (x:zC):Prop:=(x.Code.length≤B∧∀y0∈x.Code,True)∧(True)
def Version.sm (B:Nat) (x:Version):Prop:=(True)∧(True)∧(True)
def Term.sm (B:Nat) (x:Term):Prop:=(x.Name.size≤B)∧(Version.sm B x.Low)∧(Version.sm B x.High)
def Pack.sm (B:Nat) (x:Pack):Prop:=(x.Name.size≤B)∧(Version.sm B x.Version)∧(True)∧(x.Provides.length≤B∧∀y0∈x.Provides,y0.size≤B)∧(x.Needs.length≤B∧∀y0∈x.Needs,y0.length≤B∧∀y1∈y0,Term.sm B y1)∧(x.Bars.length≤B∧∀y0∈x.Bars,Term.sm B y0)
def yM.sm (B:Nat) (x:yM):Prop:=(True)∧(True)∧(True)
def yH.sm (B:Nat) (x:yH):Prop:=(True)∧(x.Denied.length≤B∧∀y0∈x.Denied,True)
def bl (s:ByteArray):List Int:=s.toList.map (fun b=>(b.toNat:Int))
theorem zDc (s:ByteArray):(bl s).length =s.size:=by
 unfold bl
 rw [List.length_map,ByteArray.toList_eq]
 rfl
theorem zGi {s:ByteArray} {i:Nat} (h:i< (bl s).length):bidx s (i:Int)=some (bl s)[i]:=by
 unfold bidx
 rw [if_pos (by omega)]
 have hs:i<s.size:=by rw [zDc] at h; exact h
 have e:s[(i:Int).toNat]? =some s[i]:=by simp [hs]
 rw [e]
 simp only [Option.map_some,bl,List.getElem_map]
 congr 2
 simp only [ByteArray.toList_eq]
 rfl
theorem zFt:∀(a:List UInt8),Op.bytesLess a a=false
 |[]=>rfl
 |x::a=>by simp [Op.bytesLess,zFt a]
theorem zFP:∀{a b c:List UInt8},Op.bytesLess a b=true→Op.bytesLess b c=true→Op.bytesLess a c=true
 |_,[],_,h,_=>by simp [Op.bytesLess] at h
 |_,_::_,[],_,h=>by simp [Op.bytesLess] at h
 |[],_::_,_::_,_,_=>by simp [Op.bytesLess]
 |x::a,y::b,z::c,h1,h2=>by
  simp only [Op.bytesLess,Bool.or_eq_true,decide_eq_true_eq,Bool.and_eq_true,beq_iff_eq] at h1 h2 ⊢
  rcases h1 with h1|⟨rfl,h1⟩
  ·rcases h2 with h2|⟨rfl,h2⟩
   ·exact .inl (UInt8.lt_trans h1 h2)
   ·exact .inl h1
  ·rcases h2 with h2|⟨rfl,h2⟩
   ·exact .inl h2
   ·exact .inr ⟨rfl,zFP h1 h2⟩
theorem toList_inj {a b:ByteArray} (h:a.toList=b.toList):a=b:=by
 rw [ByteArray.toList_eq,ByteArray.toList_eq] at h
 cases a; cases b
 simp at h
 rw [h]
theorem zE5 (a:ByteArray):slt a a=false:=zFt _
theorem zD8 {a b c:ByteArray} (h1:slt a b=true) (h2:slt b c=true):slt a c=true:=zFP h1 h2
theorem zGl {a b:ByteArray}:seq a b=true↔a=b:=by
 unfold seq
 simp only [beq_iff_eq]
 exact ⟨toList_inj,fun e=>by rw [e]⟩
theorem seq_eq (a b:ByteArray):seq a b=decide (a=b):=by
 rw [Bool.eq_iff_iff,zGl]; simp
def inB (a b c:Int):Bool:=decide (b≤a)&&decide (a≤c)
theorem zHn (a b c:Int):wY a b c=some (inB a b c):=by
 unfold wY inB
 by_cases h:a≥b<;>simp [h]
theorem zEX (a b c:Int):xX a b c=some (inB a b c):=by
 unfold xX inB
 by_cases h:b≤a<;>simp [h]
section del
variable {α:Type} (p:α→Bool)
theorem zCZ {xs:List α} {l h:Nat} (h1:l≤h) (h2:h≤xs.length):zDJ xs (l:Int) (h:Int)=some ((xs.drop l).take (h-l)):=by
 unfold zDJ
 rw [if_pos (by omega)]
 rfl
end del
section del
variable {α:Type} (p:α→Bool)
theorem zKy {xs:List α} {l n:Nat} {a:α} (h:l+n≤xs.length):zKp xs (l:Int) n a=some (xs.take l++List.replicate n a++xs.drop (l+n)):=by
 unfold zKp
 rw [if_pos (by omega)]
 simp [ovr]
end del
section del
variable {α:Type} (p:α→Bool)
theorem zGt {xs:List α} {i:Nat} {x:α} (h:i<xs.length):(xs.set i x).take (i+1)=xs.take i++[x]:=by
 rw [List.take_succ_eq_append_getElem (by simpa using h),List.take_set_of_le (Nat.le_refl _)]
 simp
end del
def xS {α R:Type} (g:Nat→α→Option R):Nat→List α→Option R
 |_,[]=>none
 |i,x::xs=>match g i x with
  |some r=>some r
  |none=>xS g (i+1) xs
def frs {R:Type}:Option R→Fl R Unit
 |some r=>.ret r
 |none=>.nxt ()
theorem zFL {α R:Type} (xs:List α) (g:Nat→α→Option R) {b:Int→Option (Lp Int (Fl R Unit))}
  (hstep:∀(i:Nat) (hi:i<xs.length),b (i:Int)=some (match g i xs[i] with|some r=>.done (.ret r)|none=>.go ((i+1:Nat):Int))) (hend:b (xs.length:Int)=some (.done (.nxt ()))):
  ∀(k i:Nat),i+k=xs.length→loop b (i:Int)=some (frs (xS g i (xs.drop i)))
 |0,i,h=>by
  have e:i=xs.length:=by omega
  subst e
  rw [xY,hend,List.drop_length]
  rfl
 |k+1,i,h=>by
  have hi:i<xs.length:=by omega
  have ih:=zFL xs g hstep hend k (i+1) (by omega)
  rw [xY,hstep i hi,List.drop_eq_getElem_cons hi]
  simp only [xS]
  cases g i xs[i] with
  |some r=>rfl
  |none=>exact ih
theorem xE {α R:Type} (xs:List α) (g:Nat→α→Option R) {b:Int→Option (Lp Int (Fl R Unit))}
  (hstep:∀(i:Nat) (hi:i<xs.length),b (i:Int)=some (match g i xs[i] with|some r=>.done (.ret r)|none=>.go ((i+1:Nat):Int))) (hend:b (xs.length:Int)=some (.done (.nxt ()))):
  loop b 0=some (frs (xS g 0 xs)):=by
 have:=zFL xs g hstep hend xs.length 0 (by omega)
 simpa using this
theorem zBe {R T:Type} (o:Option R) (f:R→Option T) (h:Unit→Option T):(some (frs o)).bind (Fl.go f h)=match o with|some r=>f r|none=>h ():=by
 cases o<;>rfl
theorem zCF {α:Type} (p:α→Bool):∀(xs:List α) (i:Nat),((xS (fun j x=>if p x then some (j:Int) else none) i xs).getD (-1)≥0)↔xs.any p=true
 |[],i=>by simp [xS]
 |x::xs,i=>by
  simp only [xS]
  cases h:p x
  ·simp only [Bool.false_eq_true,if_false,List.any_cons,h,Bool.false_or]
   exact zCF p xs (i+1)
  ·simp [h]
theorem zD3 {α:Type} (p:α→Bool):∀(xs:List α) (i:Nat),(xS (fun _ x=>if p x then some true else none) i xs).getD false=xs.any p
 |[],i=>rfl
 |x::xs,i=>by
  simp only [xS]
  cases h:p x
  ·simp only [Bool.false_eq_true,if_false,List.any_cons,h,Bool.false_or]
   exact zD3 p xs (i+1)
  ·simp [h]
def foldI {α A:Type} (f:Nat→A→α→A):Nat→List α→A→A
 |_,[],a=>a
 |i,x::xs,a=>foldI f (i+1) xs (f i a x)
theorem zDP {α A:Type} (xs:List α) (f:Nat→A→α→A) (I:Nat→A→Prop) {b:(A×Int)→Option (Lp (A×Int) A)}
  (hstep:∀(i:Nat) (a:A) (hi:i<xs.length),I i a→b (a,(i:Int))=some (.go (f i a xs[i],((i+1:Nat):Int)))∧I (i+1) (f i a xs[i])) (hend:∀a,b (a,(xs.length:Int))=some (.done a)):
  ∀(k i:Nat) (a:A),i+k=xs.length→I i a→loop b (a,(i:Int))=some (foldI f i (xs.drop i) a)∧I xs.length (foldI f i (xs.drop i) a)
 |0,i,a,h,hI=>by
  have e:i=xs.length:=by omega
  subst e
  rw [xY,hend,List.drop_length]
  exact ⟨rfl,hI⟩
 |k+1,i,a,h,hI=>by
  have hi:i<xs.length:=by omega
  obtain ⟨h1,h2⟩:=hstep i a hi hI
  have ih:=zDP xs f I hstep hend k (i+1) _ (by omega) h2
  rw [xY,h1,List.drop_eq_getElem_cons hi]
  exact ih
theorem zEt {o:Option Int} {b:Bool} (h:(o.getD (-1)≥0)↔b=true):decide (o.getD (-1)≥0)=b:=by
 rw [Bool.eq_iff_iff,decide_eq_true_eq]; exact h
theorem zHE:∀(a b:List UInt8),(Lib.compareBytes a b<0↔Op.bytesLess a b=true)∧(Lib.compareBytes a b=0↔a=b)
 |[],[]=>by simp [Lib.compareBytes,Op.bytesLess]
 |[],_::_=>by simp [Lib.compareBytes,Op.bytesLess]
 |_::_,[]=>by simp [Lib.compareBytes,Op.bytesLess]
 |x::a,y::b=>by
  obtain ⟨ih1,ih2⟩:=zHE a b
  simp only [Lib.compareBytes,Op.bytesLess]
  by_cases h1:x<y
  ·simp [h1]
   intro e; subst e; exact absurd h1 (by simp [UInt8.lt_irrefl])
  ·by_cases h2:y<x
   ·simp [h1,h2]
    have hne:x≠y:=fun e=>by subst e; exact absurd h2 (by simp [UInt8.lt_irrefl])
    simp [hne]
   ·have e:x=y:=by
     rw [UInt8.lt_iff_toNat_lt] at h1 h2
     exact UInt8.toNat_inj.1 (by omega)
    subst e
    simp [UInt8.lt_irrefl,ih1,ih2]
theorem zKn (a b:ByteArray):zL8 a b<0↔slt a b=true:=by
 unfold zL8 slt
 rw [ByteArray.toList_eq,ByteArray.toList_eq]
 exact (zHE _ _).1
theorem zER (l:List Int) (v:Int) (h:l.length≤1048576):wP l v=some (decide (v∈l)):=by
 obtain ⟨t,e,ht⟩:=wD (b:=zBM l v) (fun i s=>s=(i:Int)∧v∉l.take i) l.length (fun t=>match t with| .ret r=>r=true∧v∈l| .nxt _=>v∉l) (by
  rintro i s hi ⟨rfl,hv⟩
  unfold zBM
  rw [if_pos (by simp; omega)]
  simp only [zI hi,Option.bind_some]
  by_cases hc:l[i]=v
  ·rw [if_pos (by simpa using hc)]
   exact .inr ⟨_,rfl,rfl,hc▸List.getElem_mem hi⟩
  ·rw [if_neg (by simpa using hc),zP (by omega)]
   refine .inl ⟨_,rfl,rfl,?_⟩
   rw [List.take_succ_eq_append_getElem hi]
   simp only [List.mem_append,List.mem_singleton,not_or]
   exact ⟨hv,fun e=>hc e.symm⟩) (by
  rintro s ⟨rfl,hv⟩
  unfold zBM
  rw [if_neg (by simp)]
  rw [List.take_length] at hv
  exact ⟨_,rfl,hv⟩) l.length 0 0 (by omega) ⟨rfl,by simp⟩
 unfold wP
 rw [show zCq l v 0=some t from e]
 cases t with
 |ret r=>obtain ⟨rfl,hm⟩:=ht; simp [Fl.go,hm]
 |nxt _=>simp only [Fl.go,Option.bind_some]; rw [decide_eq_false ht]
def zJm (c:Int):Bool:=decide (97≤c)&&decide (c≤122)
def zGM (c:Int):Bool:=decide (48≤c)&&decide (c≤57)
def zIJ (c:Int):Bool:=zJm c||(zGM c||c==95)
theorem zET (c:Int):vI c=some (zJm c):=by
 unfold vI zJm
 by_cases h:c≥97<;>simp [h]
theorem zHS (c:Int):zAy c=some (zGM c):=by
 unfold zAy zGM
 by_cases h:c≥48<;>simp [h]
theorem zJd (c:Int):zCb c=some (zIJ c):=by
 unfold zCb zIJ
 simp only [zET,zHS,Option.bind_some]
 cases zJm c<;>cases zGM c<;>simp
theorem zGc (c:Int):jN c=some (zIJ c):=by
 unfold jN zIJ zJm zGM
 by_cases h1:c≥97<;>by_cases h2:c≤122<;>by_cases h3:c≥48<;>by_cases h4:c≤57<;>simp [h1,h2,h3,h4]
def zGq (s:ByteArray):Int:=(xS (fun _ c=>if zIJ c then none else some (5:Int)) 0 (bl s)).getD 0
def NF (s:ByteArray):Int:=if s.size<1 then 5 else if s.size>12 then 5 else if zJm ((bl s).headD 0) then zGq s else 5
theorem zJa {s:ByteArray} (h:1≤s.size):bidx s 0=some ((bl s).headD 0):=by
 have h':0< (bl s).length :=by rw [zDc]; exact h
 have e:=zGi (s:=s) (i:=0) h'
 rw [show ((0:Nat):Int)=0 from rfl] at e
 rw [e]
 have:(bl s)[0]? =some ((bl s).headD 0):=by
  cases hb:bl s with
  |nil=>rw [hb] at h'; simp at h'
  |cons c l=>rfl
 rw [List.getElem?_eq_getElem h'] at this
 exact this
theorem zGb (s:ByteArray) (h:s.size≤12):jK s 0=some (frs (xS (fun _ c=>if zIJ c then none else some (5:Int)) 0 (bl s))):=by
 unfold jK
 refine xE (bl s) _ (fun i hi=>?_) ?_
 ·have hs:i<s.size:=by rw [←zDc]; exact hi
  unfold zBd
  rw [if_pos (by simp; omega),zGi hi]
  simp only [Option.bind_some,zJd]
  rw [zP (by omega)]
  cases zIJ (bl s)[i]<;>rfl
 ·unfold zBd
  rw [if_neg (by rw [zDc]; simp)]
theorem zGe (s:ByteArray) (h:s.size≤12):jH s 0=some (frs (xS (fun _ c=>if zIJ c then none else some (5:Int)) 0 (bl s))):=by
 unfold jH
 refine xE (bl s) _ (fun i hi=>?_) ?_
 ·have hs:i<s.size:=by rw [←zDc]; exact hi
  unfold zBc
  rw [if_pos (by simp; omega),zGi hi]
  simp only [Option.bind_some,zGc]
  rw [zP (by omega)]
  cases zIJ (bl s)[i]<;>rfl
 ·unfold zBc
  rw [if_neg (by rw [zDc]; simp)]
theorem zCY (s:ByteArray):wV s=some (NF s):=by
 unfold wV NF
 by_cases h1:s.size<1
 ·rw [if_pos (show decide ((s.size:Int)<1)=true by rw [decide_eq_true_eq]; omega),if_pos h1]; rfl
 rw [if_neg (show ¬decide ((s.size:Int)<1)=true by rw [decide_eq_true_eq]; omega),if_neg h1]
 by_cases h2:s.size>12
 ·rw [if_pos (show decide ((s.size:Int)>12)=true by rw [decide_eq_true_eq]; omega),if_pos h2]; rfl
 rw [if_neg (show ¬decide ((s.size:Int)>12)=true by rw [decide_eq_true_eq]; omega),if_neg h2,zJa (by omega),zGb s (by omega)]
 simp only [Option.bind_some,zET]
 cases h3:zJm ((bl s).headD 0)
 ·rfl
 ·unfold zGq
  cases xS (fun _ c=>if zIJ c then none else some (5:Int)) 0 (bl s)<;>rfl
theorem zJr (c:Int):(if decide (c<97)=true then some true else some (decide (c>122)))=some (!(zJm c)):=by
 unfold zJm
 by_cases h3:c<97
 ·rw [if_pos (by rw [decide_eq_true_eq]; exact h3)]
  have:decide (97≤c)=false:=by rw [decide_eq_false_iff_not]; omega
  rw [this]; rfl
 ·rw [if_neg (by rw [decide_eq_true_eq]; exact h3)]
  have:decide (97≤c)=true:=by rw [decide_eq_true_eq]; omega
  rw [this]
  congr 1
  rw [Bool.true_and,Bool.eq_iff_iff]
  simp
theorem zDa (s:ByteArray):wR s=some (NF s):=by
 unfold wR NF
 by_cases h1:s.size<1
 ·rw [if_pos (show decide ((s.size:Int)<1)=true by rw [decide_eq_true_eq]; omega),if_pos h1]; rfl
 rw [if_neg (show ¬decide ((s.size:Int)<1)=true by rw [decide_eq_true_eq]; omega),if_neg h1]
 by_cases h2:s.size>12
 ·rw [if_pos (show decide ((s.size:Int)>12)=true by rw [decide_eq_true_eq]; omega),if_pos h2]; rfl
 rw [if_neg (show ¬decide ((s.size:Int)>12)=true by rw [decide_eq_true_eq]; omega),if_neg h2,zJa (by omega),zGe s (by omega)]
 simp only [Option.bind_some,zJr]
 cases h3:zJm ((bl s).headD 0)
 ·rfl
 ·unfold zGq
  cases xS (fun _ c=>if zIJ c then none else some (5:Int)) 0 (bl s)<;>rfl
def VF (v:Version):Int:=if inB v.A 0 999&&inB v.B 0 999&&inB v.C 0 999 then 0 else 3
theorem zDi (v:Version):xJ v=some (VF v):=by
 unfold xJ VF
 simp only [zHn,Option.bind_some]
 cases inB v.A 0 999<;>cases inB v.B 0 999<;>cases inB v.C 0 999<;>rfl
theorem zDg (v:Version):xO v=some (VF v):=by
 unfold xO VF
 simp only [zEX,Option.bind_some]
 cases inB v.A 0 999<;>cases inB v.B 0 999<;>cases inB v.C 0 999<;>rfl
def sgn (a b:Int):Int:=if a<b then-1 else if a>b then 1 else 0
theorem zI9 (a b:Int):jQ a b=some (sgn a b):=by
 unfold jQ sgn
 by_cases h:a<b
 ·simp [h]
 ·by_cases h2:a>b<;>simp [h,h2]
theorem cmp_eq (a b:Int):xK a b=some (sgn a b):=by
 unfold xK uK sgn
 simp only [Option.bind_some,bne_self_eq_false,Bool.false_eq_true,if_false]
 by_cases h:a<b
 ·simp [h]
 ·by_cases h2:a>b<;>simp [h,h2]
def zHL (a b:Version):Int:=if sgn a.A b.A≠0 then sgn a.A b.A else if sgn a.B b.B≠0 then sgn a.B b.B else sgn a.C b.C
theorem zAb (a b:Version):zW a b=some (zHL a b):=by
 unfold zW zHL
 simp only [zI9,Option.bind_some]
 by_cases h1:sgn a.A b.A=0
 ·by_cases h2:sgn a.B b.B=0<;>simp [h1,h2]
 ·simp [h1]
theorem zKj (l:List Int) (h:l.length≤10):loop (zBP l) 0=some (frs (xS (fun _ c=>if c !=0 then some c else none) 0 l)):=by
 refine xE l _ (fun i hi=>?_) ?_
 ·unfold zBP
  rw [if_pos (by simp; omega),zI hi]
  simp only [Option.bind_some]
  rw [zP (by omega)]
  cases l[i] !=0<;>rfl
 ·unfold zBP
  rw [if_neg (by simp)]
theorem zG9 (a b:Version):zB2 a b=some (zHL a b):=by
 unfold zB2 zHL zCG zCs
 simp only [cmp_eq,Option.bind_some]
 rw [zKj _ (by simp),zBe]
 by_cases h1:sgn a.A b.A=0
 ·by_cases h2:sgn a.B b.B=0
  ·by_cases h3:sgn a.C b.C=0<;>simp [h1,h2,h3,xS]
  ·simp [h1,h2,xS]
 ·simp [h1,xS]
def eqV (a b:Version):Bool:=a.A==b.A&&(a.B==b.B&&(a.C==b.C&&true))
theorem zIE (a b:Version):(zHL a b==0)=eqV a b:=by
 unfold zHL eqV sgn
 rw [Bool.eq_iff_iff]
 simp only [beq_iff_eq,Bool.and_eq_true,Bool.and_true]
 constructor
 ·intro h
  split at h<;>omega
 ·intro ⟨h1,h2,h3⟩
  split<;>omega
def zLi:Version:= {A:=1000,B:=0,C:=0}
def TF (t:Term):Int:=if NF t.Name≠0 then NF t.Name else if VF t.Low≠0 then VF t.Low else
 if eqV t.High zLi=false∧VF t.High≠0 then 3 else if zHL t.Low t.High≥0 then 1 else 0
theorem zF4 (t:Term):kW t=some (TF t):=by
 unfold kW TF jW
 simp only [zCY,zDi,zAb,Option.bind_some]
 show (if (NF t.Name !=0)=true then some (NF t.Name) else if (VF t.Low !=0)=true then some (VF t.Low) else (if (!(eqV t.High zLi))=true then some (VF t.High !=0) else some false).bind fun v=>if v=true then some 3 else if decide (zHL t.Low t.High≥0)=true then some 1 else some 0)=_
 generalize NF t.Name=a
 generalize VF t.Low=b
 generalize eqV t.High zLi=c
 generalize VF t.High=d
 generalize zHL t.Low t.High=e
 by_cases h1:a=0
 ·by_cases h2:b=0
  ·by_cases h4:d=0<;>by_cases h5:e≥0<;>cases c<;>simp [h1,h2,h4,h5]
  ·simp [h1,h2]
 ·simp [h1]
theorem zF1 (t:Term):kX t=some (TF t):=by
 unfold kX TF zDk
 simp only [zDa,zDg,zG9,Option.bind_some]
 show (if (NF t.Name !=0)=true then some (NF t.Name) else if (VF t.Low !=0)=true then some (VF t.Low) else (if (!(eqV t.High zLi))=true then some (VF t.High !=0) else some false).bind fun v=>if v=true then some 3 else if decide (zHL t.Low t.High≥0)=true then some 1 else some 0)=_
 generalize NF t.Name=a
 generalize VF t.Low=b
 generalize eqV t.High zLi=c
 generalize VF t.High=d
 generalize zHL t.Low t.High=e
 by_cases h1:a=0
 ·by_cases h2:b=0
  ·by_cases h4:d=0<;>by_cases h5:e≥0<;>cases c<;>simp [h1,h2,h4,h5]
  ·simp [h1,h2]
 ·simp [h1]
def tsF (l:List Term):Int:=(xS (fun _ t=>if TF t !=0 then some (TF t) else none) 0 l).getD 0
theorem zEB (l:List Term) (h:l.length≤1048576):tZ l=some (tsF l):=by
 have key:=xE l (fun _ t=>if TF t !=0 then some (TF t) else none) (b:=zAE l) (by
  intro i hi
  unfold zAE
  rw [if_pos (by simp; omega),zI hi]
  simp only [Option.bind_some,zF4]
  rw [zP (by omega)]
  cases TF l[i] !=0<;>rfl) (by
  unfold zAE
  rw [if_neg (by simp)])
 unfold tZ zBv tsF
 rw [key,zBe]
 cases xS (fun _ t=>if TF t !=0 then some (TF t) else none) 0 l<;>rfl
theorem zDD (l:List Term) (h:l.length≤1048576):wU l=some (tsF l):=by
 have key:=xE l (fun _ t=>if TF t !=0 then some (TF t) else none) (b:=jP l) (by
  intro i hi
  unfold jP
  rw [if_pos (by simp; omega),zI hi]
  simp only [Option.bind_some,zF1]
  rw [zP (by omega)]
  cases TF l[i] !=0<;>rfl) (by
  unfold jP
  rw [if_neg (by simp)])
 unfold wU kL tsF
 rw [key,zBe]
 cases xS (fun _ t=>if TF t !=0 then some (TF t) else none) 0 l<;>rfl
theorem zJO (a b:ByteArray):seq a b=seq b a:=by
 unfold seq
 rw [Bool.eq_iff_iff]
 simp only [beq_iff_eq]
 exact eq_comm
theorem zDz {α R:Type} (g:Nat→α→Option R):∀(xs:List α) (i:Nat),xS g i xs=none↔∀(j:Nat) (h:j<xs.length),g (i+j) xs[j]=none
 |[],i=>by simp [xS]
 |x::xs,i=>by
  simp only [xS]
  cases h:g i x with
  |some r=>
   simp only [reduceCtorEq,false_iff]
   intro hh
   have:=hh 0 (by simp)
   simp only [Nat.add_zero,List.getElem_cons_zero] at this
   rw [h] at this
   cases this
  |none=>
   show xS g (i+1) xs=none↔_
   rw [zDz g xs (i+1)]
   constructor
   ·intro hh j hj
    cases j with
    |zero=>simpa using h
    |succ j=>
     have:=hh j (by simpa using hj)
     rw [show i+(j+1)=i+1+j by omega]
     simpa using this
   ·intro hh j hj
    have:=hh (j+1) (by simpa using hj)
    rw [show i+(j+1)=i+1+j by omega] at this
    simpa using this
theorem zEm {α:Type} {xs:List α} {i:Nat} (h:i≤xs.length):zDJ xs 0 (i:Int)=some (xs.take i):=by
 have:=zCZ (xs:=xs) (l:=0) (h:=i) (by omega) h
 rw [show ((0:Nat):Int)=0 from rfl] at this
 rw [this]
 simp
theorem zC3 (l:List ByteArray) (n:ByteArray) (h:l.length≤1048576):wN l n=some (l.any fun x=>seq x n):=by
 have key:=xE l (fun _ x=>if seq x n then some true else none) (b:=zAG l n) (by
  intro i hi
  unfold zAG
  rw [if_pos (by simp; omega),zI hi]
  simp only [Option.bind_some]
  rw [zP (by omega)]
  cases seq l[i] n<;>rfl) (by
  unfold zAG
  rw [if_neg (by simp)])
 unfold wN zB6
 rw [key,zBe,←zD3 (fun x=>seq x n) l 0]
 cases xS (fun _ x=>if seq x n then some true else none) 0 l<;>rfl
theorem zCr (l:List ByteArray) (n:ByteArray) (h:l.length≤1048576):zJ l n=some (l.any fun x=>seq x n):=by
 have key:=xE l (fun i x=>if seq x n then some (i:Int) else none) (b:=vB l n) (by
  intro i hi
  unfold vB
  rw [if_pos (by simp; omega),zI hi]
  simp only [Option.bind_some]
  rw [zP (by omega),zJO n]
  cases seq l[i] n<;>rfl) (by
  unfold vB
  rw [if_neg (by simp)])
 unfold zJ vS vL
 rw [key,zBe]
 rw [←zEt (zCF (fun x=>seq x n) l 0)]
 cases xS (fun j x=>if seq x n then some (j:Int) else none) 0 l<;>rfl
def zGX (p:Pack) (i:Nat) (n:ByteArray):Option Int:=if NF n !=0 then some (NF n) else if seq n p.Name||(p.Provides.take i).any (fun x=>seq x n) then some 6 else none
def zHj (_:Nat) (l:List Term):Option Int:=if (l.length:Int)==0 then some 1 else if tsF l !=0 then some (tsF l) else none
def zHR (p:Pack):Bool:=decide ((p.Provides.length:Int)>4)||(decide ((p.Needs.length:Int)>4)||(decide ((p.Bars.length:Int)>4)||p.Needs.any (fun l=>decide ((l.length:Int)>4))))
def zGI (p:Pack):Int:=match xS (zGX p) 0 p.Provides with
 |some r=>r
 |none=>match xS zHj 0 p.Needs with
  |some r=>r
  |none=>tsF p.Bars
def PF (p:Pack):Int:=if NF p.Name !=0 then NF p.Name else if VF p.Version !=0 then VF p.Version else if !(inB p.Size 1 200) then 3 else if zHR p then 2 else zGI p
theorem zEU (p:Pack) (hp:Pack.sm 1048576 p):((jD p 0).bind (Fl.go some fun v60=>(jG p 0).bind (Fl.go some fun v80=>(tZ p.Bars).bind fun x81=>some x81)))=some (zGI p):=by
 obtain ⟨_,_,_,hpr,hne,hba⟩:=hp
 have k2:=xE p.Provides (zGX p) (b:=kH p) (by
  intro i hi
  unfold kH zGX
  rw [if_pos (by simp; omega),zI hi]
  simp only [Option.bind_some,zCY]
  rw [zEm (by omega)]
  simp only [Option.bind_some]
  rw [zC3 _ _ (by simp; omega),zP (by omega)]
  simp only [Option.bind_some]
  cases NF p.Provides[i] !=0<;>cases seq p.Provides[i] p.Name<;>cases (p.Provides.take i).any (fun x=>seq x p.Provides[i])<;>rfl) (by
  unfold kH
  rw [if_neg (by simp)])
 have k3:=xE p.Needs zHj (b:=kI p) (by
  intro i hi
  unfold kI zHj
  rw [if_pos (by simp; omega),zI hi]
  simp only [Option.bind_some]
  rw [zEB _ (hne.2 _ (List.getElem_mem hi)).1,zP (by omega)]
  simp only [Option.bind_some]
  cases (p.Needs[i].length :Int)==0<;>cases tsF p.Needs[i] !=0<;>rfl) (by
  unfold kI
  rw [if_neg (by simp)])
 unfold jD jG zGI
 rw [k2,k3,zEB _ hba.1]
 cases xS (zGX p) 0 p.Provides<;>cases xS zHj 0 p.Needs<;>rfl
theorem zEL (p:Pack) (hp:Pack.sm 1048576 p):((jE p 0).bind (Fl.go some fun v46=>(jF p 0).bind (Fl.go some fun v62=>(wU p.Bars).bind fun x63=>some x63)))=some (zGI p):=by
 obtain ⟨_,_,_,hpr,hne,hba⟩:=hp
 have k2:=xE p.Provides (zGX p) (b:=kM p) (by
  intro i hi
  unfold kM zGX
  rw [if_pos (by simp; omega),zI hi]
  simp only [Option.bind_some,zDa]
  rw [zEm (by omega)]
  simp only [Option.bind_some]
  rw [zCr _ _ (by simp; omega),zP (by omega)]
  simp only [Option.bind_some]
  cases NF p.Provides[i] !=0<;>cases seq p.Provides[i] p.Name<;>cases (p.Provides.take i).any (fun x=>seq x p.Provides[i])<;>rfl) (by
  unfold kM
  rw [if_neg (by simp)])
 have k3:=xE p.Needs zHj (b:=kE p) (by
  intro i hi
  unfold kE zHj
  rw [if_pos (by simp; omega),zI hi]
  simp only [Option.bind_some]
  rw [zDD _ (hne.2 _ (List.getElem_mem hi)).1,zP (by omega)]
  simp only [Option.bind_some]
  cases (p.Needs[i].length :Int)==0<;>cases tsF p.Needs[i] !=0<;>rfl) (by
  unfold kE
  rw [if_neg (by simp)])
 unfold jE jF zGI
 rw [k2,k3,zDD _ hba.1]
 cases xS (zGX p) 0 p.Provides<;>cases xS zHj 0 p.Needs<;>rfl
theorem zDH {α R:Type} (p:α→Bool) (r:R):∀(xs:List α) (i:Nat),xS (fun _ x=>if p x then some r else none) i xs=if xs.any p then some r else none
 |[],i=>rfl
 |x::xs,i=>by
  simp only [xS]
  cases h:p x
  ·simp only [Bool.false_eq_true,if_false,List.any_cons,h,Bool.false_or]
   exact zDH p r xs (i+1)
  ·simp [h]
theorem zF5 (p:Pack) (hp:Pack.sm 1048576 p):zAa p=some (PF p):=by
 have hl:=zEU p hp
 obtain ⟨_,_,_,hpr,hne,hba⟩:=hp
 have k1:=xE p.Needs (fun _ l=>if decide ((l.length:Int)>4) then some (2:Int) else none) (b:=kG p) (by
  intro i hi
  unfold kG
  rw [if_pos (by simp; omega),zI hi]
  simp only [Option.bind_some]
  rw [zP (by omega)]
  cases decide ((p.Needs[i].length :Int)>4)<;>rfl) (by
  unfold kG
  rw [if_neg (by simp)])
 rw [zDH] at k1
 unfold zAa PF zHR
 simp only [zCY,zDi,zHn,Option.bind_some]
 rw [hl]
 unfold zAw
 rw [k1]
 cases NF p.Name !=0<;>cases VF p.Version !=0<;>cases inB p.Size 1 200<;>cases decide ((p.Provides.length:Int)>4)<;>cases decide ((p.Needs.length:Int)>4)<;>cases decide ((p.Bars.length:Int)>4)<;>cases p.Needs.any (fun l=>decide ((l.length:Int)>4))<;>rfl
theorem zHK (l:List Int) (h:l.length≤10):loop (kD l) 0=some (frs (xS (fun _ c=>if c !=0 then some c else none) 0 l)):=by
 refine xE l _ (fun i hi=>?_) ?_
 ·unfold kD
  rw [if_pos (by simp; omega),zI hi]
  simp only [Option.bind_some]
  rw [zP (by omega)]
  cases l[i] !=0<;>rfl
 ·unfold kD
  rw [if_neg (by simp)]
theorem zFB (p:Pack) (hp:Pack.sm 1048576 p):kZ p=some (PF p):=by
 have hl:=zEL p hp
 obtain ⟨_,_,_,hpr,hne,hba⟩:=hp
 have k1:=xE p.Needs (fun i l=>if decide ((l.length:Int)>4) then some (i:Int) else none) (b:=yD p.Needs) (by
  intro i hi
  unfold yD jZ
  rw [if_pos (by simp; omega),zI hi]
  simp only [Option.bind_some]
  rw [zP (by omega)]
  cases decide ((p.Needs[i].length :Int)>4)<;>rfl) (by
  unfold yD
  rw [if_neg (by simp)])
 have k2:zM p.Needs=some (p.Needs.any (fun l=>decide ((l.length:Int)>4))):=by
  unfold zM zY yF
  rw [k1,zBe,←zEt (zCF (fun l:List Term=>decide ((l.length:Int)>4)) p.Needs 0)]
  cases xS (fun j (x:List Term)=>if decide ((x.length:Int)>4) then some (j:Int) else none) 0 p.Needs<;>rfl
 have k3:wS [NF p.Name,VF p.Version]=some (if NF p.Name !=0 then NF p.Name else VF p.Version):=by
  have k:=zHK [NF p.Name,VF p.Version] (by simp)
  unfold wS jI
  rw [k,zBe]
  simp only [xS]
  cases hn:NF p.Name !=0
  ·cases hv:VF p.Version !=0
   ·have:VF p.Version=0:=by simpa using hv
    simp [this]
   ·rfl
  ·rfl
 unfold kZ PF zHR
 simp only [zDa,zDg,zEX,Option.bind_some]
 rw [hl,k2,k3]
 simp only [Option.bind_some]
 cases hn:NF p.Name !=0
 ·simp only [Bool.false_eq_true,if_false]
  cases VF p.Version !=0<;>cases inB p.Size 1 200<;>cases decide ((p.Provides.length:Int)>4)<;>cases decide ((p.Needs.length:Int)>4)<;>cases decide ((p.Bars.length:Int)>4)<;>cases p.Needs.any (fun l=>decide ((l.length:Int)>4))<;>rfl
 ·simp only [if_true,hn]
def isB (n:ByteArray) (v:Version) (q:Pack):Bool:=seq q.Name n&&eqV q.Version v
def zId (c:List Pack) (n:ByteArray) (v:Version):Int:=(xS (fun i q=>if isB n v q then some (i:Int) else none) 0 c).getD (-1)
theorem zGx (c:List Pack) (n:ByteArray) (v:Version):decide (zId c n v≥0)=c.any (isB n v):=zEt (zCF (isB n v) c 0)
theorem zFR (c:List Pack) (n:ByteArray) (v:Version) (h:c.length≤1048576):kY c n v=some (zId c n v):=by
 have key:=xE c (fun i q=>if isB n v q then some (i:Int) else none) (b:=zBr c n v) (by
  intro i hi
  unfold zBr isB
  rw [if_pos (by simp; omega),zI hi]
  simp only [Option.bind_some,zAb,zIE]
  rw [zP (by omega)]
  cases seq c[i].Name n<;>cases eqV c[i].Version v<;>rfl) (by
  unfold zBr
  rw [if_neg (by simp)])
 unfold zId
 unfold kY zBO
 rw [key,zBe]
 cases xS (fun i q=>if isB n v q then some (i:Int) else none) 0 c<;>rfl
theorem zIb (c:List Pack) (n:ByteArray) (v:Version) (h:c.length≤1048576):zC6 c n v=some (zId c n v):=by
 have key:=xE c (fun i q=>if isB n v q then some (i:Int) else none) (b:=yR c n v) (by
  intro i hi
  unfold yR isB zC2
  rw [if_pos (by simp; omega),zI hi]
  simp only [Option.bind_some]
  rw [zP (by omega)]
  show (Option.bind (if seq c[i].Name n=true then some (eqV c[i].Version v) else some false) _)=_
  cases seq c[i].Name n<;>cases eqV c[i].Version v<;>rfl) (by
  unfold yR
  rw [if_neg (by simp)])
 unfold zId
 unfold zC6 yL yS
 rw [key,zBe]
 cases xS (fun i q=>if isB n v q then some (i:Int) else none) 0 c<;>rfl
theorem find_spec (c:List Pack) (n:ByteArray) (v:Version) (h:c.length≤1048576):∃k,kY c n v=some k∧decide (k≥0)=c.any (isB n v):=⟨_,zFR c n v h,zGx c n v⟩
theorem zIy (c:List Pack) (n:ByteArray) (v:Version) (h:c.length≤1048576):∃k,zC6 c n v=some k∧decide (k≥0)=c.any (isB n v):=⟨_,zIb c n v h,zGx c n v⟩
def zJl (c:List Pack) (i:Nat) (p:Pack):Option Int:=if PF p !=0 then some (PF p) else if (c.take i).any (isB p.Name p.Version) then some 6 else none
def CF (c:List Pack):Int:=if decide ((c.length:Int)>24) then 2 else (xS (zJl c) 0 c).getD 0
theorem zC1 (c:List Pack) (hc:c.length≤1048576∧∀y0∈c,Pack.sm 1048576 y0):yY c=some (CF c):=by
 have key:=xE c (zJl c) (b:=uP c) (by
  intro i hi
  unfold uP zJl
  rw [if_pos (by simp; omega),zI hi]
  simp only [Option.bind_some]
  rw [zF5 _ (hc.2 _ (List.getElem_mem hi)),zEm (by omega)]
  simp only [Option.bind_some]
  obtain ⟨k,e,hk⟩:=find_spec (c.take i) c[i].Name c[i].Version (by simp; omega)
  rw [e,zP (by omega)]
  simp only [Option.bind_some]
  rw [hk]
  cases PF c[i] !=0<;>cases (c.take i).any (isB c[i].Name c[i].Version)<;>rfl) (by
  unfold uP
  rw [if_neg (by simp)])
 unfold yY CF tN
 rw [key,zBe]
 cases decide ((c.length:Int)>24)<;>cases xS (zJl c) 0 c<;>rfl
theorem zE1 (c:List Pack) (hc:c.length≤1048576∧∀y0∈c,Pack.sm 1048576 y0):vW c=some (CF c):=by
 have key:=xE c (zJl c) (b:=uL c) (by
  intro i hi
  unfold uL zJl
  rw [if_pos (by simp; omega),zI hi]
  simp only [Option.bind_some]
  rw [zFB _ (hc.2 _ (List.getElem_mem hi)),zEm (by omega)]
  simp only [Option.bind_some]
  obtain ⟨k,e,hk⟩:=zIy (c.take i) c[i].Name c[i].Version (by simp; omega)
  rw [e,zP (by omega)]
  simp only [Option.bind_some]
  rw [hk]
  cases PF c[i] !=0<;>cases (c.take i).any (isB c[i].Name c[i].Version)<;>rfl) (by
  unfold uL
  rw [if_neg (by simp)])
 unfold vW CF tK
 rw [key,zBe]
 cases decide ((c.length:Int)>24)<;>cases xS (zJl c) 0 c<;>rfl
def noPack:Pack:= {Name:=ByteArray.empty,Version:= {A:=0,B:=0,C:=0},Size:=0,Provides:=[],Needs:=[],Bars:=[]}
def pat (c:List Pack) (k:Int):Pack:=(idx c k).getD noPack
def Places (c:List Pack) (a:List Int):Prop:=∀k∈a,0≤k∧k<c.length
theorem uQ {c:List Pack} {k:Int} (h:0≤k∧k<c.length):idx c k=some (pat c k)∧pat c k∈c:=by
 unfold pat idx
 rw [if_pos h.1]
 have:k.toNat<c.length:=by omega
 rw [List.getElem?_eq_getElem this]
 exact ⟨rfl,List.getElem_mem this⟩
def Cat (c:List Pack):Prop:=c.length≤1048576∧∀y0∈c,Pack.sm 1048576 y0
theorem Cat.zK9 {c:List Pack} (hc:Cat c) {k:Int} (h:0≤k∧k<c.length):(pat c k).Provides.length ≤1048576:=(hc.2 _ (uQ h).2).2.2.2.1.1
theorem Cat.needs {c:List Pack} (hc:Cat c) {k:Int} (h:0≤k∧k<c.length):(pat c k).Needs.length ≤1048576:=(hc.2 _ (uQ h).2).2.2.2.2.1.1
theorem Cat.clause {c:List Pack} (hc:Cat c) {k:Int} (h:0≤k∧k<c.length) {l:List Term} (hl:l∈(pat c k).Needs):l.length≤1048576:=((hc.2 _ (uQ h).2).2.2.2.2.1.2 l hl).1
theorem Cat.bars {c:List Pack} (hc:Cat c) {k:Int} (h:0≤k∧k<c.length):(pat c k).Bars.length ≤1048576:=(hc.2 _ (uQ h).2).2.2.2.2.2.1
def zIu (c:List Pack) (a:List Int) (i:Nat) (k:Int):Option Bool:=if !(inB k 0 ((c.length:Int)-1))||(decide (0<i)&&decide (k≤a.getD (i-1) 0)) then some false else none
def zJj (c:List Pack) (a:List Int):Bool:=(xS (zIu c a) 0 a).isNone
theorem getD_lt {a:List Int} {i:Nat} (h:i<a.length):a.getD i 0=a[i]:=by simp [List.getD,h]
theorem zFE {c:List Pack} {a:List Int} (hc:c.length≤1048576) (ha:a.length≤1048576):zBa c a=some (zJj c a):=by
 have key:=xE a (zIu c a) (b:=zBC c a) (by
  intro i hi
  unfold zBC zIu
  rw [if_pos (by simp; omega),zI hi,uM (x:=(c.length:Int)-1) (by omega) (by omega)]
  simp only [Option.bind_some,zHn]
  by_cases h0:0<i
  ·rw [uM (x:=(i:Int)-1) (by omega) (by omega),show (i:Int)-1=((i-1:Nat):Int) by omega,zI (show i-1<a.length by omega),getD_lt (show i-1<a.length by omega)]
   have e:decide ((i:Int)>0)=true:=by simp; omega
   have e2:decide (0<i)=true:=by simpa using h0
   rw [e,e2,zP (by omega)]
   simp only [Option.bind_some,Bool.true_and]
   cases inB a[i] 0 ((c.length:Int)-1)<;>cases decide (a[i]≤a[i-1])<;>rfl
  ·have e:decide ((i:Int)>0)=false:=by simp; omega
   have e2:decide (0<i)=false:=by simpa using h0
   rw [e,e2,zP (by omega)]
   cases inB a[i] 0 ((c.length:Int)-1)<;>rfl) (by
  unfold zBC
  rw [if_neg (by simp)])
 unfold zBa zCk zJj
 rw [key,zBe]
 have hf:∀(l:List Int) (i:Nat),xS (zIu c a) i l=none∨xS (zIu c a) i l=some false:=by
  intro l
  induction l with
  |nil=>intro i; exact .inl rfl
  |cons x l ih=>
   intro i
   simp only [xS]
   cases hg:zIu c a i x with
   |none=>exact ih (i+1)
   |some r=>
    unfold zIu at hg
    split at hg
    ·cases hg; exact .inr rfl
    ·cases hg
 rcases hf a 0 with h|h<;>rw [h]<;>rfl
def SF (c:List Pack) (a:List Int):Int:=if CF c !=0 then CF c else if zJj c a then 0 else 1
theorem zEu {c:List Pack} {a:List Int} (hc:Cat c) (ha:a.length≤1048576):tQ c a=some (SF c a):=by
 unfold tQ SF
 rw [zC1 c hc,zFE hc.1 ha]
 simp only [Option.bind_some]
 cases CF c !=0<;>cases zJj c a<;>rfl
theorem zF9 {c:List Pack} {a:List Int} (hc:c.length≤1048576) (ha:a.length≤1048576):kV c a=some (a.all (fun k=>inB k 0 ((c.length:Int)-1))):=by
 have key:=xE a (fun i k=>if !(inB k 0 ((c.length:Int)-1)) then some (i:Int) else none) (b:=yK a c) (by
  intro i hi
  unfold yK jY
  rw [if_pos (by simp; omega),zI hi,uM (x:=(c.length:Int)-1) (by omega) (by omega)]
  simp only [Option.bind_some,zEX]
  rw [zP (by omega)]
  cases inB a[i] 0 ((c.length:Int)-1)<;>rfl) (by
  unfold yK
  rw [if_neg (by simp)])
 unfold kV zZ yI yP
 rw [key,zBe]
 have e:a.all (fun k=>inB k 0 ((c.length:Int)-1))= !(a.any (fun k=> !(inB k 0 ((c.length:Int)-1)))):=by
  rw [List.all_eq_not_any_not]
 rw [e,←zEt (zCF (fun k=> !(inB k 0 ((c.length:Int)-1))) a 0)]
 cases xS (fun i k=>if !(inB k 0 ((c.length:Int)-1)) then some (i:Int) else none) 0 a<;>rfl
def zJo (a:List Int) (i:Nat) (k:Int):Option Int:=if decide (k≤a.getD (i-1) 0) then some 1 else none
theorem zJA (c:List Pack) (a:List Int):zJj c a=((xS (zJo a) 1 (a.drop 1)).isNone &&a.all (fun k=>inB k 0 ((c.length:Int)-1))):=by
 unfold zJj
 rw [Bool.eq_iff_iff,Bool.and_eq_true,Option.isNone_iff_eq_none,Option.isNone_iff_eq_none,zDz,zDz,List.all_eq_true]
 constructor
 ·intro h
  constructor
  ·intro j hj
   have hj':1+j<a.length:=by simp at hj; omega
   have:=h (1+j) hj'
   unfold zIu at this
   unfold zJo
   rw [List.getElem_drop]
   split at this
   ·cases this
   ·rename_i hn
    rw [if_neg]
    intro hx
    apply hn
    rw [Nat.zero_add]
    rw [Bool.or_eq_true,Bool.and_eq_true]
    exact .inr ⟨by rw [decide_eq_true_eq]; omega,hx⟩
  ·intro k hk
   obtain ⟨i,hi,rfl⟩:=List.mem_iff_getElem.1 hk
   have:=h i hi
   unfold zIu at this
   split at this
   ·cases this
   ·rename_i hn
    simp only [Bool.or_eq_true,not_or] at hn
    simpa using hn.1
 ·rintro ⟨h1,h2⟩ j hj
  unfold zIu
  rw [if_neg]
  rw [Nat.zero_add,h2 _ (List.getElem_mem hj)]
  simp only [Bool.not_true,Bool.false_or,Bool.and_eq_true,not_and]
  intro h0 hx
  have h0':0<j:=by simpa using h0
  have hd:j-1< (a.drop 1).length :=by simp; omega
  have:=h1 (j-1) hd
  unfold zJo at this
  rw [List.getElem_drop] at this
  have ej:1+(j-1)=j:=by omega
  simp only [ej] at this
  rw [if_pos hx] at this
  cases this
theorem zEn {c:List Pack} {a:List Int} (hc:Cat c) (ha:a.length≤1048576):tO c a=some (SF c a):=by
 have hend:vC c a (a.length:Int)=some (.done (.nxt ())):=by
  unfold vC
  rw [if_neg (by simp)]
 have key:jV c a 1=some (frs (xS (zJo a) 1 (a.drop 1))):=by
  unfold jV
  rcases Nat.eq_zero_or_pos a.length with h0|h0
  ·have:a=[]:=List.eq_nil_of_length_eq_zero h0
   subst this
   rw [xY]
   unfold vC
   rw [if_neg (by simp)]
   rfl
  ·have hh:∀(k i:Nat),1≤i→i+k=a.length→loop (vC c a) (i:Int)=some (frs (xS (zJo a) i (a.drop i))):=by
    intro k
    induction k with
    |zero=>
     intro i h1 h
     have e:i=a.length:=by omega
     subst e
     rw [xY,hend,List.drop_length]
     rfl
    |succ k ih=>
     intro i h1 h
     have hi:i<a.length:=by omega
     have ih:=ih (i+1) (by omega) (by omega)
     rw [xY,List.drop_eq_getElem_cons hi]
     simp only [xS]
     have hb:vC c a (i:Int)=some (if decide (a[i]≤a[i-1]) then .done (.ret 1) else .go ((i+1:Nat):Int)):=by
      unfold vC
      rw [if_pos (by simp; omega),zI hi,uM (x:=(i:Int)-1) (by omega) (by omega),show (i:Int)-1=((i-1:Nat):Int) by omega,zI (show i-1<a.length by omega),zP (by omega)]
      simp only [Option.bind_some]
      cases decide (a[i]≤a[i-1])<;>rfl
     rw [hb]
     unfold zJo
     rw [getD_lt (show i-1<a.length by omega)]
     cases decide (a[i]≤a[i-1])
     ·exact ih
     ·rfl
   exact hh (a.length-1) 1 (by omega) (by omega)
 unfold tO SF
 rw [zE1 c hc,key,zBe,zF9 hc.1 ha,zJA]
 simp only [Option.bind_some]
 have hf:∀(l:List Int) (i:Nat),xS (zJo a) i l=none∨xS (zJo a) i l=some 1:=by
  intro l
  induction l with
  |nil=>intro i; exact .inl rfl
  |cons x l ih=>
   intro i
   simp only [xS]
   cases hg:zJo a i x with
   |none=>exact ih (i+1)
   |some r=>
    unfold zJo at hg
    split at hg
    ·cases hg; exact .inr rfl
    ·cases hg
 rcases hf (a.drop 1) 1 with h|h<;>rw [h]<;>cases CF c !=0<;>cases a.all (fun k=>inB k 0 ((c.length:Int)-1))<;>rfl
def zLD (t:Term) (v:Version):Bool:=decide (zHL v t.Low≥0)&&decide (zHL v t.High<0)
def zL6 (t:Term) (n:ByteArray) (v:Version):Bool:=seq t.Name n&&zLD t v
theorem zHk (t:Term) (n:ByteArray) (v:Version):tV t n v=some (zL6 t n v):=by
 unfold tV zL6 zLD
 simp only [zAb,Option.bind_some]
 cases seq t.Name n<;>cases decide (zHL v t.Low≥0)<;>rfl
def zDU (p:Pack) (t:Term):Bool:=(seq t.Name p.Name||p.Provides.any (fun x=>seq x t.Name))&&zLD t p.Version
theorem zEy (p:Pack) (t:Term) (h:p.Provides.length≤1048576):uH p t=some (zDU p t):=by
 unfold uH zDU
 simp only [zHk,Option.bind_some,zC3 _ _ h,zL6,zFU,Bool.true_and]
 cases seq t.Name p.Name<;>cases p.Provides.any (fun x=>seq x t.Name)<;>rfl
def zD4 (c:List Pack) (a:List Int) (t:Term) (x:Int):Bool:=a.any (fun k=>k !=x&&zDU (pat c k) t)
theorem zFO {c:List Pack} {a:List Int} (hc:Cat c) (hp:Places c a) (ha:a.length≤1048576) (t:Term) (x:Int):kQ c a t x=some (zD4 c a t x):=by
 have key:=xE a (fun _ k=>if k !=x&&zDU (pat c k) t then some true else none) (b:=zAK c a t x) (by
  intro i hi
  have hk:=hp _ (List.getElem_mem hi)
  unfold zAK
  rw [if_pos (by simp; omega),zI hi]
  simp only [Option.bind_some]
  rw [(uQ hk).1]
  simp only [Option.bind_some]
  rw [zEy _ _ (hc.zK9 hk),zP (by omega)]
  cases a[i] !=x<;>cases zDU (pat c a[i]) t<;>rfl) (by
  unfold zAK
  rw [if_neg (by simp)])
 unfold kQ zB4 zD4
 rw [key,zBe,←zD3 (fun k=>k !=x&&zDU (pat c k) t) a 0]
 cases xS (fun _ k=>if k !=x&&zDU (pat c k) t then some true else none) 0 a<;>rfl
def zJZ (c:List Pack) (a:List Int) (l:List Term):Bool:=a.any (fun k=>l.any (zDU (pat c k)))
theorem zGs {c:List Pack} {a:List Int} (hc:Cat c) (hp:Places c a) (ha:a.length≤1048576) (l:List Term) (hl:l.length≤1048576):zAm c a l=some (zJZ c a l):=by
 have key:=xE l (fun _ t=>if zD4 c a t (-1) then some true else none) (b:=zBK c a l) (by
  intro i hi
  unfold zBK
  rw [if_pos (by simp; omega),zI hi]
  simp only [Option.bind_some,zFO hc hp ha]
  rw [zP (by omega)]
  cases zD4 c a l[i] (-1)<;>rfl) (by
  unfold zBK
  rw [if_neg (by simp)])
 unfold zAm zCn
 rw [key,zBe]
 have e:zJZ c a l=l.any (fun t=>zD4 c a t (-1)):=by
  unfold zJZ zD4
  rw [Bool.eq_iff_iff]
  simp only [List.any_eq_true,Bool.and_eq_true,bne_iff_ne]
  constructor
  ·rintro ⟨k,hk,t,ht,hg⟩
   exact ⟨t,ht,k,hk,by have:=(hp k hk).1; omega,hg⟩
  ·rintro ⟨t,ht,k,hk,_,hg⟩
   exact ⟨k,hk,t,ht,hg⟩
 rw [e,←zD3 (fun t=>zD4 c a t (-1)) l 0]
 cases xS (fun _ t=>if zD4 c a t (-1) then some true else none) 0 l<;>rfl
theorem zFN {α T:Type} (xs:List α) (g:Nat→α→Option T) (e:T) {b:Int→Option (Lp Int T)}
  (hstep:∀(i:Nat) (hi:i<xs.length),b (i:Int)=some (match g i xs[i] with|some r=>.done r|none=>.go ((i+1:Nat):Int))) (hend:b (xs.length:Int)=some (.done e)):
  ∀(k i:Nat),i+k=xs.length→loop b (i:Int)=some ((xS g i (xs.drop i)).getD e)
 |0,i,h=>by
  have e:i=xs.length:=by omega
  subst e
  rw [xY,hend,List.drop_length]
  rfl
 |k+1,i,h=>by
  have hi:i<xs.length:=by omega
  have ih:=zFN xs g e hstep hend k (i+1) (by omega)
  rw [xY,hstep i hi,List.drop_eq_getElem_cons hi]
  simp only [xS]
  cases g i xs[i] with
  |some r=>rfl
  |none=>exact ih
def fN (c:List Pack) (a:List Int) (k:Int) (j:Nat) (l:List yM) (x:List Term):List yM:=if !(zJZ c a x) then l++[{Kind:=2,Pack:=k,At:=(j:Int)}] else l
def fB (c:List Pack) (a:List Int) (k:Int) (j:Nat) (l:List yM) (t:Term):List yM:=if zD4 c a t k then l++[{Kind:=3,Pack:=k,At:=(j:Int)}] else l
def fD (c:List Pack) (a:List Int) (i:Nat) (k:Int) (l:List yM):List yM:=if (a.take i).any (fun o=>seq (pat c o).Name (pat c k).Name) then l++[{Kind:=1,Pack:=k,At:=0}] else l
def fS (c:List Pack) (a:List Int) (i:Nat) (l:List yM) (k:Int):List yM:=foldI (fB c a k) 0 (pat c k).Bars (foldI (fN c a k) 0 (pat c k).Needs (fD c a i k l))
def zE7 (c:List Pack) (a:List Int):List yM:=foldI (fS c a) 0 a []
theorem zKI (c:List Pack) (a:List Int) (k:Int) (j:Nat) (l:List yM) (x:List Term):(fN c a k j l x).length ≤l.length+1:=by unfold fN; split<;>simp
theorem zLk (c:List Pack) (a:List Int) (k:Int) (j:Nat) (l:List yM) (t:Term):(fB c a k j l t).length ≤l.length+1:=by unfold fB; split<;>simp
theorem zLn (c:List Pack) (a:List Int) (i:Nat) (k:Int) (l:List yM):(fD c a i k l).length ≤l.length+1:=by unfold fD; split<;>simp
theorem zHX {c:List Pack} {a:List Int} (k:Int) (ns:List (List Term)) (hn:ns.length≤1048576) (n0:Nat) (h0:n0≤5497560000000) {b:(List yM×Int)→Option (Lp (List yM×Int) (List yM))}
  (hstep:∀(j:Nat) (l:List yM) (hj:j<ns.length),b (l,(j:Int))=(if !(zJZ c a ns[j]) then (app 24 l [{Kind:=2,Pack:=k,At:=(j:Int)}]) else some l).bind fun v=>some (Lp.go (v,w64 ((j:Int)+1)))) (hend:∀l,b (l,(ns.length:Int))=some (.done l)) (l:List yM) (hl:l.length≤n0):
  loop b (l,0)=some (foldI (fN c a k) 0 ns l)∧(foldI (fN c a k) 0 ns l).length ≤n0+ns.length:=by
 have key:=zDP ns (fN c a k) (fun j l=>l.length≤n0+j) (b:=b) (by
  intro j l hj hI
  refine ⟨?_,by have:=zKI c a k j l ns[j]; omega⟩
  rw [hstep j l hj,zP (by omega),vT (by simp; omega) (by simp; omega)]
  unfold fN
  cases zJZ c a ns[j]<;>rfl) hend ns.length 0 l (by omega) (by simpa using hl)
 simpa using key
theorem zIH {c:List Pack} {a:List Int} (k:Int) (ts:List Term) (hn:ts.length≤1048576) (n0:Nat) (h0:n0≤5497560000000) {b:(List yM×Int)→Option (Lp (List yM×Int) (List yM))}
  (hstep:∀(j:Nat) (l:List yM) (hj:j<ts.length),b (l,(j:Int))=(if zD4 c a ts[j] k then (app 24 l [{Kind:=3,Pack:=k,At:=(j:Int)}]) else some l).bind fun v=>some (Lp.go (v,w64 ((j:Int)+1)))) (hend:∀l,b (l,(ts.length:Int))=some (.done l)) (l:List yM) (hl:l.length≤n0):
  loop b (l,0)=some (foldI (fB c a k) 0 ts l)∧(foldI (fB c a k) 0 ts l).length ≤n0+ts.length:=by
 have key:=zDP ts (fB c a k) (fun j l=>l.length≤n0+j) (b:=b) (by
  intro j l hj hI
  refine ⟨?_,by have:=zLk c a k j l ts[j]; omega⟩
  rw [hstep j l hj,zP (by omega),vT (by simp; omega) (by simp; omega)]
  unfold fB
  cases zD4 c a ts[j] k<;>rfl) hend ts.length 0 l (by omega) (by simpa using hl)
 simpa using key
theorem zIU {α:Type} (o:Option α):o.bind (fun x=>some x)=o:=by cases o<;>rfl
def zEA (i:Nat):Nat:=i*2097153
theorem zGZ {c:List Pack} {a:List Int} (hc:Cat c) (hp:Places c a) (ha:a.length≤1048576):tX c a=some (zE7 c a):=by
 have key:=zDP a (fS c a) (fun i l=>l.length≤zEA i) (b:=zAt c a) (by
  intro i l hi hI
  have hk:=hp _ (List.getElem_mem hi)
  have hb:zEA i≤2199022206976:=by unfold zEA; omega
  have hb1:zEA (i+1)=zEA i+2097153:=by unfold zEA; omega
  have hN:=hc.needs hk
  have hB:=hc.bars hk
  have k1:=zFN (a.take i) (fun _ o=>if seq (pat c o).Name (pat c a[i]).Name then some (l++[({Kind:=1,Pack:=a[i],At:=0}:yM)]) else none) l (b:=zAp c a (l,(i:Int)) (pat c a[i])) (by
   intro j hj
   have hj':j<i:=by simp at hj; omega
   have hja:j<a.length:=by omega
   have hkj:=hp _ (List.getElem_mem hja)
   unfold zAp
   rw [if_pos (by simp; omega),zI hja]
   simp only [Option.bind_some]
   rw [(uQ hkj).1,zI hi]
   simp only [Option.bind_some]
   rw [zP (by omega),vT (by simp; omega) (by simp; omega),List.getElem_take]
   cases seq (pat c a[j]).Name (pat c a[i]).Name <;>rfl) (by
   have:(a.take i).length =i:=by simp; omega
   rw [this]
   unfold zAp
   rw [if_neg (by simp)]) (a.take i).length 0 (by omega)
  rw [List.drop_zero,zDH] at k1
  have e1:jX c a (l,(i:Int)) (pat c a[i]) 0=some (fD c a i a[i] l):=by
   unfold jX fD
   rw [show ((0:Nat):Int)=0 from rfl] at k1
   rw [k1]
   cases (a.take i).any (fun o=>seq (pat c o).Name (pat c a[i]).Name)<;>rfl
  have hd:=zLn c a i a[i] l
  obtain ⟨e2,l2⟩:=zHX (c:=c) (a:=a) a[i] (pat c a[i]).Needs hN (zEA i+1) (by omega) (b:=zAl c a (l,(i:Int)) (pat c a[i])) (by
   intro j l hj
   unfold zAl
   rw [if_pos (by simp; omega),zI hj]
   simp only [Option.bind_some]
   rw [zGs hc hp ha _ (hc.clause hk (List.getElem_mem hj)),zI hi]
   simp only [Option.bind_some,zIU]) (by
   intro l
   unfold zAl
   rw [if_neg (by simp)]) (fD c a i a[i] l) (by omega)
  obtain ⟨e3,l3⟩:=zIH (c:=c) (a:=a) a[i] (pat c a[i]).Bars hB (zEA i+1+1048576) (by omega) (b:=zAq c a (l,(i:Int)) (pat c a[i])) (by
   intro j l hj
   unfold zAq
   rw [if_pos (by simp; omega),zI hj,zI hi]
   simp only [Option.bind_some,zFO hc hp ha,zIU]) (by
   intro l
   unfold zAq
   rw [if_neg (by simp)]) _ (Nat.le_trans l2 (by omega))
  refine ⟨?_,by show (fS c a i l a[i]).length ≤_; unfold fS; omega⟩
  unfold zAt
  rw [if_pos (by simp; omega),zI hi]
  simp only [Option.bind_some]
  rw [(uQ hk).1]
  simp only [Option.bind_some]
  rw [e1]
  simp only [Option.bind_some]
  unfold zAH zAM
  rw [e2]
  simp only [Option.bind_some]
  rw [e3,zP (by omega)]
  rfl) (by
  intro l
  unfold zAt
  rw [if_neg (by simp)]) a.length 0 [] (by omega) (by simp)
 unfold tX zAR zE7
 have k:=key.1
 rw [show ((0:Nat):Int)=0 from rfl,List.drop_zero] at k
 rw [k]
 rfl
theorem zI4 {α:Type} {g:Nat→α→Option Int} (hg:∀i x,g i x≠some 0):∀(l:List α) (i:Nat),(xS g i l).getD 0=0→xS g i l=none
 |[],_,_=>rfl
 |x::l,i,h=>by
  simp only [xS] at h ⊢
  cases hx:g i x with
  |none=>rw [hx] at h; exact zI4 hg l (i+1) h
  |some r=>
   rw [hx] at h
   simp only [Option.getD_some] at h
   subst h
   exact absurd hx (hg i x)
theorem zKf {c:List Pack} (h:CF c=0):c.length≤24∧(∀p∈c,PF p=0)∧∀(j:Nat) (hj:j<c.length),(c.take j).any (isB c[j].Name c[j].Version)=false:=by
 unfold CF at h
 split at h
 ·cases h
 rename_i h1
 have h2:=zI4 (g:=zJl c) (fun i x=>by
  unfold zJl
  split
  ·rename_i h3
   intro e
   rw [Option.some.inj e] at h3
   simp at h3
  ·split<;>simp) c 0 h
 rw [zDz] at h2
 have h3:∀(j:Nat) (hj:j<c.length),PF c[j]=0∧(c.take j).any (isB c[j].Name c[j].Version)=false:=by
  intro j hj
  have:=h2 j hj
  unfold zJl at this
  rw [Nat.zero_add] at this
  split at this
  ·cases this
  ·rename_i h4
   split at this
   ·cases this
   ·rename_i h5
    exact ⟨by simpa using h4,by simpa using h5⟩
 refine ⟨by simp at h1; omega,fun p hp=>?_,fun j hj=>(h3 j hj).2⟩
 obtain ⟨j,hj,rfl⟩:=List.getElem_of_mem hp
 exact (h3 j hj).1
theorem zJg {a:List Int} (h:∀i,(hi:i+1<a.length)→a[i]<a[i+1]):a.Pairwise (· < ·):=by
 rw [List.pairwise_iff_getElem]
 intro i j hi hj hij
 obtain ⟨d,rfl⟩:∃d,j=i+1+d:=⟨j-i-1,by omega⟩
 clear hij
 induction d with
 |zero=>exact h i (by omega)
 |succ d ih=>
  have h1:=ih (by omega)
  have h2:=h (i+1+d) (by omega)
  show a[i]<a[i+1+d+1]
  omega
theorem zH8:∀{a:List Int} {lo hi:Int},a.Pairwise (· < ·)→(∀k∈a,lo≤k∧k<hi)→(a.length:Int)≤hi-lo∨a=[]
 |[],_,_,_,_=>.inr rfl
 |x::a,lo,hi,hp,hb=>by
  obtain ⟨h1,h2⟩:=List.pairwise_cons.1 hp
  have hx:=hb x (by simp)
  have:=zH8 (lo:=x+1) (hi:=hi) h2 (fun k hk=>⟨by have:=h1 k hk; omega,(hb k (by simp [hk])).2⟩)
  refine .inl ?_
  rcases this with h3|h3
  ·simp only [List.length_cons]; omega
  ·subst h3; simp; omega
theorem zFb {c:List Pack} {a:List Int}:zJj c a=true↔a.Pairwise (· < ·)∧Places c a:=by
 unfold zJj
 rw [Option.isNone_iff_eq_none,zDz]
 constructor
 ·intro h
  have h1:∀(j:Nat) (hj:j<a.length),inB a[j] 0 ((c.length:Int)-1)=true∧(0<j→¬a[j]≤a.getD (j-1) 0):=by
   intro j hj
   have:=h j hj
   unfold zIu at this
   rw [Nat.zero_add] at this
   split at this
   ·cases this
   ·rename_i h2
    simp only [Bool.or_eq_true,Bool.not_eq_true',Bool.and_eq_true,decide_eq_true_eq,not_or,not_and,Bool.not_eq_false] at h2
    exact h2
  refine ⟨zJg fun i hi=>?_,fun k hk=>?_⟩
  ·have:=(h1 (i+1) hi).2 (by omega)
   rw [show i+1-1=i by omega,getD_lt (by omega)] at this
   omega
  ·obtain ⟨j,hj,rfl⟩:=List.getElem_of_mem hk
   have:=(h1 j hj).1
   unfold inB at this
   simp only [Bool.and_eq_true,decide_eq_true_eq] at this
   omega
 ·rintro ⟨h1,h2⟩ j hj
  unfold zIu
  rw [Nat.zero_add]
  have hk:=h2 a[j] (List.getElem_mem hj)
  rw [if_neg]
  simp only [Bool.or_eq_true,Bool.not_eq_true',Bool.and_eq_true,decide_eq_true_eq,not_or,not_and,Bool.not_eq_false]
  refine ⟨by unfold inB; simp; omega,fun h0=>?_⟩
  rw [getD_lt (by omega)]
  have:=(List.pairwise_iff_getElem.1 h1) (j-1) j (by omega) hj (by omega)
  omega
theorem zJL {c:List Pack} {a:List Int} (h:zJj c a=true):a.length≤c.length:=by
 obtain ⟨h1,h2⟩:=zFb.1 h
 rcases zH8 (lo:=0) (hi:=c.length) h1 h2 with h3|h3
 ·omega
 ·rw [h3]; simp
theorem zIi (x y:Int):wS [x,y]=some (if x !=0 then x else y):=by
 unfold wS jI
 rw [zHK _ (by simp),zBe]
 simp only [xS]
 by_cases h:x=0
 ·by_cases h2:y=0<;>simp [h,h2]
 ·simp [h]
theorem zDt {l:List Int} (h:l.Pairwise (· < ·)) {i j:Nat} (hi:i<l.length) (hj:j<l.length) (hij:i<j):l[i]<l[j]:=List.pairwise_iff_getElem.1 h i j hi hj hij
theorem zJx (l:List Int) (v:Int) (hs:l.Pairwise (· < ·)) (hv:v∉l) (hl:l.length≤1048576):
  ∃r,zCz l v=some r∧r.Pairwise (· < ·)∧(∀x,x∈r↔x∈l∨x=v)∧r.length=l.length+1:=by
 obtain ⟨⟨acc,inn⟩,e,h1,h2,h3,h4⟩:=wD (b:=zBF l v)
  (fun i s=>s.2.2=(i:Int)∧s.1.Pairwise (· < ·)∧(∀x,x∈s.1↔x∈l.take i∨(s.2.1=true∧x=v))∧s.1.length=i+(if s.2.1 then 1 else 0)∧(s.2.1=false→∀x∈l.take i,x<v)∧(s.2.1=true→∀x∈l.drop i,v<x)) l.length
  (fun t=>t.1.Pairwise (· < ·)∧(∀x,x∈t.1↔x∈l∨(t.2=true∧x=v))∧t.1.length=l.length+(if t.2 then 1 else 0)∧(t.2=false→∀x∈l,x<v)) (by
  rintro i ⟨acc,inn,j⟩ hi ⟨hj,hp,hm,hlen,hf,ht⟩
  simp only at hj hp hm hlen hf ht
  subst hj
  have hlt:∀x∈l.take i,x<l[i]:=by
   intro x hx
   obtain ⟨k,hk,rfl⟩:=List.mem_iff_getElem.1 hx
   rw [List.getElem_take]
   have:k<i:=by simp at hk; omega
   exact zDt hs (by omega) hi this
  have htk:l.take (i+1)=l.take i++[l[i]]:=List.take_succ_eq_append_getElem hi
  have hdr:l.drop i=l[i]::l.drop (i+1):=List.drop_eq_getElem_cons hi
  have hne:l[i]≠v:=fun e=>hv (e▸List.getElem_mem hi)
  have hal:acc.length≤1048577:=by rw [hlen]; split<;>omega
  unfold zBF
  rw [if_pos (by simp; omega),zI hi]
  simp only [Option.bind_some]
  rw [zP (by omega)]
  refine .inl ?_
  cases inn
  ·by_cases hgt:l[i]>v
   ·rw [if_pos (by simpa using hgt)]
    simp only [Bool.not_false,Option.bind_some,if_true]
    rw [vT (by simp; omega) (by simp; omega)]
    simp only [Option.bind_some]
    rw [vT (by simp; omega) (by simp; omega)]
    refine ⟨_,rfl,rfl,?_,?_,?_,by simp,?_⟩
    ·simp only
     have hav:∀x∈acc,x<v:=fun x hx=>hf rfl x (by have:=(hm x).1 hx; simpa using this)
     rw [List.pairwise_append,List.pairwise_append]
     refine ⟨⟨hp,by simp,fun x hx y hy=>by simp at hy; rw [hy]; exact hav x hx⟩,by simp,fun x hx y hy=>?_⟩
     simp at hy
     rw [hy]
     rcases List.mem_append.1 hx with hx|hx
     ·have:=hav x hx; omega
     ·simp at hx; omega
    ·intro x
     have:=hm x
     simp only [List.mem_append,List.mem_singleton,htk]
     simp at this
     rw [this]
     simp
     constructor<;>(intro h; rcases h with (h|h)|h<;>simp [h])
    ·simp; simp at hlen; omega
    ·intro _ x hx
     have:l[i]<x:=by
      obtain ⟨k,hk,rfl⟩:=List.mem_iff_getElem.1 hx
      rw [List.getElem_drop]
      simp at hk
      exact zDt hs hi (by omega) (by omega)
     omega
   ·rw [if_neg (by simpa using hgt)]
    simp only [Option.bind_some,Bool.false_eq_true,if_false]
    rw [vT (by simp; omega) (by simp; omega)]
    refine ⟨_,rfl,rfl,?_,?_,?_,?_,by simp⟩
    ·simp only
     rw [List.pairwise_append]
     refine ⟨hp,by simp,fun x hx y hy=>?_⟩
     simp at hy
     rw [hy]
     have:=(hm x).1 hx
     exact hlt x (by simpa using this)
    ·intro x
     have:=hm x
     simp only [List.mem_append,List.mem_singleton,htk]
     simp at this
     rw [this]
     simp
    ·simp; simp at hlen; omega
    ·intro _ x hx
     rw [htk] at hx
     rcases List.mem_append.1 hx with hx|hx
     ·exact hf rfl x hx
     ·simp at hx; omega
  ·have hlv:v<l[i]:=ht rfl _ (by rw [hdr]; exact List.mem_cons_self)
   rw [if_pos (by simpa using hlv)]
   simp only [Bool.not_true,Option.bind_some,Bool.false_eq_true,if_false]
   rw [vT (by simp; omega) (by simp; omega)]
   refine ⟨_,rfl,rfl,?_,?_,?_,by simp,?_⟩
   ·simp only
    rw [List.pairwise_append]
    refine ⟨hp,by simp,fun x hx y hy=>?_⟩
    simp at hy
    rw [hy]
    rcases (hm x).1 hx with hx|⟨_,hx⟩
    ·exact hlt x hx
    ·omega
   ·intro x
    have:=hm x
    simp only [List.mem_append,List.mem_singleton,htk]
    rw [this]
    simp
    constructor<;>(intro h; rcases h with (h|h)|h<;>simp [h])
   ·simp; simp at hlen; omega
   ·intro _ x hx
    exact ht rfl x (by rw [hdr]; exact List.mem_cons_of_mem _ hx)) (by
  rintro ⟨acc,inn,j⟩ ⟨hj,hp,hm,hlen,hf,ht⟩
  simp only at hj hp hm hlen hf ht
  subst hj
  unfold zBF
  rw [if_neg (by simp)]
  rw [List.take_length] at hm hf
  exact ⟨_,rfl,hp,hm,hlen,hf⟩) l.length 0 (([]:List Int),false,0) (by omega) ⟨rfl,by simp,by simp,by simp,by simp,by simp⟩
 simp only at h1 h2 h3 h4
 unfold zCz zCv
 rw [e]
 simp only [Option.bind_some]
 cases inn
 ·simp only [Bool.not_false,if_true]
  simp at h3
  rw [vT (by simp; omega) (by simp; omega)]
  refine ⟨_,rfl,?_,?_,by simp; omega⟩
  ·rw [List.pairwise_append]
   refine ⟨h1,by simp,fun x hx y hy=>?_⟩
   simp at hy
   rw [hy]
   have:=(h2 x).1 hx
   exact h4 rfl x (by simpa using this)
  ·intro x
   have:=h2 x
   simp at this
   simp [this]
 ·refine ⟨_,rfl,h1,?_,by simpa using h3⟩
  intro x
  have:=h2 x
  simpa using this
theorem zGJ {a b:ByteArray} (h:slt a b=false) (hne:a≠b):slt b a=true:=by
 cases h2:slt b a with
 |true=>rfl
 |false=>
  have c1:¬zL8 a b<0:=fun hc=>by rw [(zKn a b).1 hc] at h; cases h
  have key:∀(x y:List UInt8),Op.bytesLess x y=false→Op.bytesLess y x=false→x=y:=by
   intro x
   induction x with
   |nil=>intro y; cases y<;>simp [Op.bytesLess]
   |cons u x ih=>
    intro y
    cases y with
    |nil=>simp [Op.bytesLess]
    |cons v y=>
     simp only [Op.bytesLess]
     intro e1 e2
     have e3:¬u<v:=fun hh=>by simp [hh] at e1
     have e4:¬v<u:=fun hh=>by simp [hh] at e2
     rw [UInt8.lt_iff_toNat_lt] at e3 e4
     have e5:u=v:=UInt8.toNat_inj.1 (by omega)
     subst e5
     simp [UInt8.lt_irrefl] at e1 e2
     rw [ih y e1 e2]
  exfalso
  apply hne
  unfold slt at h h2
  exact toList_inj (key _ _ h h2)
def ltS (a b:ByteArray):Prop:=slt a b=true
def leS (a b:ByteArray):Prop:=slt b a=false
theorem zFX (a:ByteArray):leS a a:=zE5 a
theorem zHI {a b:ByteArray} (h:leS a b) (hne:a≠b):ltS a b:=zGJ h (Ne.symm hne)
theorem zJe {a b:ByteArray} (h:ltS a b):leS a b:=by
 unfold leS
 cases h2:slt b a with
 |false=>rfl
 |true=>
  have h3:=zD8 h h2
  rw [zE5] at h3
  cases h3
theorem zHs {a b c:ByteArray} (h1:leS a b) (h2:ltS b c):ltS a c:=by
 by_cases h:a=b
 ·rw [h]; exact h2
 ·exact zD8 (zHI h1 h) h2
theorem zFi {a b c:ByteArray} (h1:leS a b) (h2:leS b c):leS a c:=by
 by_cases h:b=c
 ·rw [←h]; exact h1
 ·exact zJe (zHs h1 (zHI h2 h))
theorem zGF {a b:ByteArray} (h:ltS a b):a≠b:=fun e=>by
 subst e
 unfold ltS at h
 rw [zE5] at h
 cases h
theorem zBq:∀{l1 l2:List ByteArray},l1.Pairwise ltS→l2.Pairwise ltS→(∀x,x∈l1↔x∈l2)→l1=l2
 |[],[],_,_,_=>rfl
 |[],y::l2,_,_,h=>by have:=(h y).2 (by simp); simp at this
 |x::l1,[],_,_,h=>by have:=(h x).1 (by simp); simp at this
 |x::l1,y::l2,h1,h2,h=>by
  rw [List.pairwise_cons] at h1 h2
  have hxy:x=y:=by
   have hx:=(h x).1 (by simp)
   have hy:=(h y).2 (by simp)
   rcases List.mem_cons.1 hx with e|hx
   ·exact e
   ·rcases List.mem_cons.1 hy with e|hy
    ·exact e.symm
    ·exact absurd rfl (zGF (zD8 (h1.1 y hy) (h2.1 x hx)))
  subst hxy
  congr 1
  refine zBq h1.2 h2.2 fun z=>?_
  constructor
  ·intro hz
   rcases List.mem_cons.1 ((h z).1 (List.mem_cons_of_mem _ hz)) with e|hz'
   ·exact absurd e.symm (zGF (h1.1 z hz))
   ·exact hz'
  ·intro hz
   rcases List.mem_cons.1 ((h z).2 (List.mem_cons_of_mem _ hz)) with e|hz'
   ·exact absurd e.symm (zGF (h2.1 z hz))
   ·exact hz'
theorem zH1:∀(x y:List UInt8),x<y↔Op.bytesLess x y=true
 |[],[]=>by simp [Op.bytesLess]
 |[],y::l=>by simp [Op.bytesLess]
 |x::l,[]=>by simp [Op.bytesLess]
 |x::l,y::r=>by
  rw [List.cons_lt_cons_iff,zH1 l r]
  simp only [Op.bytesLess]
  by_cases h:x<y
  ·simp [h]
  ·by_cases h2:y<x
   ·have:x≠y:=fun e=>by subst e; exact UInt8.lt_irrefl _ h2
    simp [h,this]
   ·have:x=y:=by
     rw [UInt8.lt_iff_toNat_lt] at h h2
     exact UInt8.toNat_inj.1 (by omega)
    subst this
    simp [UInt8.lt_irrefl]
theorem zLp (x y:List UInt8):decide (x≤y)= !(Op.bytesLess y x):=by
 cases hb:Op.bytesLess y x with
 |true=>
  have:¬(x≤y):=fun h=>h ((zH1 y x).2 hb)
  simpa using this
 |false=>
  have:x≤y:=fun hc=>by
   rw [(zH1 y x).1 hc] at hb
   cases hb
  simpa using this
theorem toList_data (s:ByteArray):s.data.toList=s.toList:=(ByteArray.toList_eq s).symm
theorem zJM (a:List ByteArray) (hl:a.length≤1048577):∃r,wM a=some r∧r.Pairwise leS∧(∀x,x∈r↔x∈a)∧r.length=a.length:=by
 unfold wM
 rw [if_pos (by omega)]
 have hle:∀x y:List UInt8,decide (x≤y)=true↔leS ⟨x.toArray⟩ ⟨y.toArray⟩:=fun x y=>by
  rw [zLp]
  unfold leS slt
  rw [←toList_data,←toList_data]
  cases Op.bytesLess y x<;>simp
 have hpw:=List.pairwise_mergeSort (le:=fun x y:List UInt8=>decide (x≤y)) (by
  intro x y z h1 h2
  exact (hle x z).2 (zFi ((hle x y).1 h1) ((hle y z).1 h2))) (by
  intro x y
  have:leS ⟨x.toArray⟩ ⟨y.toArray⟩∨leS ⟨y.toArray⟩ ⟨x.toArray⟩:=by
   cases h:slt ⟨y.toArray⟩ ⟨x.toArray⟩ with
   |false=>exact .inl h
   |true=>exact .inr (zJe h)
  rcases this with h|h
  ·rw [(hle x y).2 h]; rfl
  ·rw [(hle y x).2 h,Bool.or_true]) (a.map (·.data.toList))
 refine ⟨_,rfl,?_,fun x=>?_,by simp [List.length_mergeSort]⟩
 ·exact List.pairwise_map.2 (hpw.imp fun h=>(hle _ _).1 h)
 ·simp only [List.mem_map,List.mem_mergeSort]
  constructor
  ·rintro ⟨_,⟨y,hy,rfl⟩,rfl⟩
   exact hy
  ·intro hx
   exact ⟨_,⟨x,hx,rfl⟩,rfl⟩
theorem zFd (l:List ByteArray) (v:ByteArray) (hs:l.Pairwise ltS) (hl:l.length≤1048576):
  ∃r,tC l v=some r∧r.Pairwise ltS∧(∀x,x∈r↔x∈l∨x=v)∧r.length≤l.length+1:=by
 obtain ⟨t,e,ht⟩:=wD (b:=zB5 l v)
  (fun i s=>s.2.2=(i:Int)∧s.1.Pairwise ltS∧(∀x,x∈s.1↔x∈l.take i∨(s.2.1=true∧x=v))∧s.1.length=i+(if s.2.1 then 1 else 0)∧(s.2.1=false→∀x∈l.take i,ltS x v)∧(s.2.1=true→∀x∈l.drop i,ltS v x)) l.length
  (fun t=>(t= .ret l∧v∈l)∨∃a b,t= .nxt (a,b)∧a.Pairwise ltS∧(∀x,x∈a↔x∈l∨(b=true∧x=v))∧a.length=l.length+(if b then 1 else 0)∧(b=false→∀x∈l,ltS x v)) (by
  rintro i ⟨acc,inn,j⟩ hi ⟨hj,hp,hm,hlen,hf,ht⟩
  simp only at hj hp hm hlen hf ht
  subst hj
  have hget:∀(i j:Nat) (hi:i<l.length) (hj:j<l.length),i<j→ltS l[i] l[j]:=fun i j hi hj h=>List.pairwise_iff_getElem.1 hs i j hi hj h
  have hlt:∀x∈l.take i,ltS x l[i]:=by
   intro x hx
   obtain ⟨k,hk,rfl⟩:=List.mem_iff_getElem.1 hx
   rw [List.getElem_take]
   have:k<i:=by simp at hk; omega
   exact hget _ _ (by omega) hi this
  have htk:l.take (i+1)=l.take i++[l[i]]:=List.take_succ_eq_append_getElem hi
  have hdr:l.drop i=l[i]::l.drop (i+1):=List.drop_eq_getElem_cons hi
  have hal:acc.length≤1048577:=by rw [hlen]; split<;>omega
  unfold zB5
  rw [if_pos (by simp; omega),zI hi]
  simp only [Option.bind_some]
  rw [zP (by omega)]
  by_cases heq:l[i]=v
  ·rw [if_pos (by rw [seq_eq]; simpa using heq)]
   exact .inr ⟨_,rfl,.inl ⟨rfl,heq▸List.getElem_mem hi⟩⟩
  ·rw [if_neg (by rw [seq_eq]; simpa using heq)]
   refine .inl ?_
   have hs2:(slt l[i] v||seq l[i] v)=slt l[i] v:=by rw [seq_eq]; simp [heq]
   rw [hs2]
   cases inn
   ·cases hgt:slt l[i] v
    ·have hvl:ltS v l[i]:=zGJ hgt heq
     simp only [Bool.not_false,Option.bind_some,if_true]
     rw [vT (by simp; omega) (by simp; omega)]
     simp only [Option.bind_some]
     rw [vT (by simp; omega) (by simp; omega)]
     refine ⟨_,rfl,rfl,?_,?_,?_,by simp,?_⟩
     ·simp only
      have hav:∀x∈acc,ltS x v:=fun x hx=>hf rfl x (by have:=(hm x).1 hx; simpa using this)
      rw [List.pairwise_append,List.pairwise_append]
      refine ⟨⟨hp,by simp,fun x hx y hy=>by simp at hy; rw [hy]; exact hav x hx⟩,by simp,fun x hx y hy=>?_⟩
      simp at hy
      rw [hy]
      rcases List.mem_append.1 hx with hx|hx
      ·exact zD8 (hav x hx) hvl
      ·simp at hx; rw [hx]; exact hvl
     ·intro x
      have:=hm x
      simp only [List.mem_append,List.mem_singleton,htk]
      simp at this
      rw [this]
      simp
      constructor<;>(intro h; rcases h with (h|h)|h<;>simp [h])
     ·simp; simp at hlen; omega
     ·intro _ x hx
      have:ltS l[i] x:=by
       obtain ⟨k,hk,rfl⟩:=List.mem_iff_getElem.1 hx
       rw [List.getElem_drop]
       simp at hk
       exact hget _ _ hi (by omega) (by omega)
      exact zD8 hvl this
    ·simp only [Bool.not_true,Bool.false_eq_true,if_false,Option.bind_some]
     rw [vT (by simp; omega) (by simp; omega)]
     refine ⟨_,rfl,rfl,?_,?_,?_,?_,by simp⟩
     ·simp only
      rw [List.pairwise_append]
      refine ⟨hp,by simp,fun x hx y hy=>?_⟩
      simp at hy
      rw [hy]
      have:=(hm x).1 hx
      exact hlt x (by simpa using this)
     ·intro x
      have:=hm x
      simp only [List.mem_append,List.mem_singleton,htk]
      simp at this
      rw [this]
      simp
     ·simp; simp at hlen; omega
     ·intro _ x hx
      rw [htk] at hx
      rcases List.mem_append.1 hx with hx|hx
      ·exact hf rfl x hx
      ·simp at hx; rw [hx]; exact hgt
   ·have hlv:ltS v l[i]:=ht rfl _ (by rw [hdr]; exact List.mem_cons_self)
    have hgt:slt l[i] v=false:=zJe hlv
    rw [hgt]
    simp only [Bool.not_false,Bool.not_true,Option.bind_some,Bool.false_eq_true,if_false,if_true]
    rw [vT (by simp; omega) (by simp; omega)]
    refine ⟨_,rfl,rfl,?_,?_,?_,by simp,?_⟩
    ·simp only
     rw [List.pairwise_append]
     refine ⟨hp,by simp,fun x hx y hy=>?_⟩
     simp at hy
     rw [hy]
     rcases (hm x).1 hx with hx|⟨_,hx⟩
     ·exact hlt x hx
     ·rw [hx]; exact hlv
    ·intro x
     have:=hm x
     simp only [List.mem_append,List.mem_singleton,htk]
     rw [this]
     simp
     constructor<;>(intro h; rcases h with (h|h)|h<;>simp [h])
    ·simp; simp at hlen; omega
    ·intro _ x hx
     exact ht rfl x (by rw [hdr]; exact List.mem_cons_of_mem _ hx)) (by
  rintro ⟨acc,inn,j⟩ ⟨hj,hp,hm,hlen,hf,ht⟩
  simp only at hj hp hm hlen hf ht
  subst hj
  unfold zB5
  rw [if_neg (by simp)]
  rw [List.take_length] at hm hf
  exact ⟨_,rfl,.inr ⟨acc,inn,rfl,hp,hm,hlen,hf⟩⟩) l.length 0 (([]:List ByteArray),false,0) (by omega) ⟨rfl,by simp,by simp,by simp,by simp,by simp⟩
 unfold tC zBH
 rw [e]
 rcases ht with ⟨rfl,hv⟩|⟨acc,inn,rfl,h1,h2,h3,h4⟩
 ·refine ⟨l,rfl,hs,fun x=>⟨.inl,fun h=>h.elim id (fun e=>e▸hv)⟩,by omega⟩
 ·simp only [Option.bind_some,Fl.go]
  cases inn
  ·simp only [Bool.not_false,if_true]
   simp at h3
   rw [vT (by simp; omega) (by simp; omega)]
   refine ⟨_,rfl,?_,?_,by simp; omega⟩
   ·rw [List.pairwise_append]
    refine ⟨h1,by simp,fun x hx y hy=>?_⟩
    simp at hy
    rw [hy]
    have:=(h2 x).1 hx
    exact h4 rfl x (by simpa using this)
   ·intro x
    have:=h2 x
    simp at this
    simp [this]
  ·refine ⟨_,rfl,h1,?_,by simp at h3; omega⟩
   intro x
   have:=h2 x
   simpa using this
theorem zF6 (a:List ByteArray) (k0:Nat) (h0:1≤k0) (hk:k0<a.length) (hs:a.Pairwise leS) (hl:a.length≤1048577) (hd:a[k0]'hk=a[k0-1]'(by omega)) (hp0:(a.take k0).Pairwise ltS) (x48:List ByteArray) (hx:x48.length=a.length-k0):
  ∃xs k,xU (k0:Int) x48 (a,(k0:Int),1)=some (xs,((k:Nat):Int))∧xs.length=a.length∧k≤a.length∧(xs.take k).Pairwise ltS∧∀x,x∈xs.take k↔x∈a:=by
 have hle:∀(i j:Nat) (hi:i<a.length) (hj:j<a.length),i≤j→leS a[i] a[j]:=by
  intro i j hi hj hij
  rcases Nat.lt_or_ge i j with h|h
  ·exact List.pairwise_iff_getElem.1 hs i j hi hj h
  ·have:i=j:=by omega
   subst this; exact zFX _
 obtain ⟨⟨xs,k'⟩,e,h1,k,h2,h3,h4,h5⟩:=wD (b:=wB (k0:Int) x48)
  (fun i s=>s.2.2=((i+1:Nat):Int)∧s.1.length=a.length∧(∀j,i+k0≤j→s.1[j]? =a[j]?)∧∃k:Nat,s.2.1=(k:Int)∧1≤k∧k≤i+k0∧(s.1.take k).Pairwise ltS∧(∀x,x∈s.1.take k↔x∈a.take (i+k0+1))∧(∀x∈s.1.take k,leS x (a.getD (i+k0) ByteArray.empty))) (a.length-k0-1)
  (fun t=>t.1.length=a.length∧∃k:Nat,t.2=(k:Int)∧k≤a.length∧(t.1.take k).Pairwise ltS∧∀x,x∈t.1.take k↔x∈a) (by
  rintro i ⟨xs,kk,jj⟩ hi ⟨hj,hlen,hsame,k,hkk,hk1,hkle,hpw,hmem,hmax⟩
  simp only at hj hlen hsame hkk hpw hmem hmax
  subst hj hkk
  have hi1:i+k0+1<a.length:=by omega
  have g1:xs[i+k0+1]'(by omega)=a[i+k0+1]:=by
   have:=hsame (i+k0+1) (by omega)
   rw [List.getElem?_eq_getElem (by omega),List.getElem?_eq_getElem hi1] at this
   exact Option.some.inj this
  have g0:xs[i+k0]'(by omega)=a[i+k0]:=by
   have:=hsame (i+k0) (by omega)
   rw [List.getElem?_eq_getElem (by omega),List.getElem?_eq_getElem (by omega)] at this
   exact Option.some.inj this
  have hgd:a.getD (i+k0) ByteArray.empty=a[i+k0]:=by simp [List.getD,show i+k0<a.length by omega]
  rw [hgd] at hmax
  have r1:zH4 xs (k0:Int) x48.length ((i+1:Nat):Int)=some a[i+k0+1]:=by
   unfold zH4
   rw [if_pos (by omega),show (k0:Int)+((i+1:Nat):Int)=((i+k0+1:Nat):Int) by omega,zI (by omega),g1]
  have r0:zH4 xs (k0:Int) x48.length (i:Int)=some a[i+k0]:=by
   unfold zH4
   rw [if_pos (by omega),show (k0:Int)+(i:Int)=((i+k0:Nat):Int) by omega,zI (by omega),g0]
  refine .inl ?_
  unfold wB
  rw [if_pos (by simp; omega)]
  simp only
  rw [r1,uM (x:=((i+1:Nat):Int)-1) (by omega) (by omega),show ((i+1:Nat):Int)-1=(i:Int) by omega,r0,zI (show k<xs.length by omega),zP (show k<_ by omega),zP (show i+1<_ by omega)]
  simp only [Option.bind_some]
  have htk:a.take (i+k0+1+1)=a.take (i+k0+1)++[a[i+k0+1]]:=List.take_succ_eq_append_getElem hi1
  have hmono:=hle (i+k0) (i+k0+1) (by omega) hi1 (by omega)
  have hgd1:a.getD (i+1+k0) ByteArray.empty=a[i+k0+1]:=by
   rw [show i+1+k0=i+k0+1 by omega]
   simp [List.getD,hi1]
  by_cases hne:a[i+k0+1]=a[i+k0]
  ·rw [if_neg (by simp [hne])]
   refine ⟨_,rfl,rfl,hlen,fun j hj=>hsame j (by omega),k,rfl,hk1,by omega,hpw,?_,?_⟩
   ·intro x
    rw [show i+1+k0+1=i+k0+1+1 by omega,htk,hmem,List.mem_append,List.mem_singleton]
    constructor
    ·exact fun h=>.inl h
    ·rintro (h|h)
     ·exact h
     ·rw [h,hne]
      refine List.mem_iff_getElem.2 ⟨i+k0,by simp; omega,by simp⟩
   ·intro x hx
    rw [hgd1]
    exact zFi (hmax x hx) hmono
  ·rw [if_pos (by simpa [seq_eq] using hne)]
   refine ⟨_,rfl,rfl,by simpa using hlen,?_,k+1,rfl,by omega,by omega,?_,?_,?_⟩
   ·intro j hj
    show (xs.set (k:Int).toNat a[i+k0+1])[j]? =a[j]?
    rw [Int.toNat_natCast,List.getElem?_set_ne (by omega)]
    exact hsame j (by omega)
   ·show ((xs.set (k:Int).toNat a[i+k0+1]).take (k+1)).Pairwise ltS
    rw [Int.toNat_natCast,zGt (by omega),List.pairwise_append]
    refine ⟨hpw,by simp,fun x hx y hy=>?_⟩
    simp at hy
    rw [hy]
    exact zHs (hmax x hx) (zHI hmono (Ne.symm hne))
   ·intro x
    show x∈(xs.set (k:Int).toNat a[i+k0+1]).take (k+1)↔_
    rw [Int.toNat_natCast,zGt (by omega),show i+1+k0+1=i+k0+1+1 by omega,htk,List.mem_append,List.mem_append,hmem]
   ·intro x hx
    have hx':x∈(xs.set (k:Int).toNat a[i+k0+1]).take (k+1):=hx
    rw [Int.toNat_natCast,zGt (by omega)] at hx'
    rw [hgd1]
    rcases List.mem_append.1 hx' with h|h
    ·exact zFi (hmax x h) hmono
    ·simp at h; rw [h]; exact zFX _) (by
  rintro ⟨xs,kk,jj⟩ ⟨hj,hlen,hsame,k,hkk,hk1,hkle,hpw,hmem,hmax⟩
  simp only at hj hlen hsame hkk hpw hmem hmax
  subst hj hkk
  unfold wB
  rw [if_neg (by simp; omega)]
  refine ⟨_,rfl,hlen,k,rfl,by omega,hpw,fun x=>?_⟩
  rw [hmem,List.take_of_length_le (by omega)]) (a.length-k0-1) 0 (a,(k0:Int),1) (by omega) ⟨rfl,rfl,fun _ _=>rfl,k0,rfl,h0,by omega,hp0,by
   intro x
   rw [Nat.zero_add,List.take_succ_eq_append_getElem hk,List.mem_append,List.mem_singleton]
   constructor
   ·exact fun h=>.inl h
   ·rintro (h|h)
    ·exact h
    ·rw [h,hd]
     exact List.mem_iff_getElem.2 ⟨k0-1,by simp; omega,by simp⟩,by
   intro x hx
   rw [Nat.zero_add]
   obtain ⟨j,hj,rfl⟩:=List.mem_iff_getElem.1 hx
   rw [List.getElem_take]
   have hgd:a.getD k0 ByteArray.empty=a[k0]:=by simp [List.getD,hk]
   rw [hgd]
   simp at hj
   exact hle j k0 (by omega) hk (by omega)⟩
 simp only at h1 h2
 subst h2
 exact ⟨xs,k,by unfold xU; exact e,h1,h3,h4,h5⟩
theorem zHe (a:List ByteArray) (hs:a.Pairwise leS) (hl:a.length≤1048577):∃r,xV a=some r∧r.Pairwise ltS∧(∀x,x∈r↔x∈a)∧r.length≤a.length:=by
 have step1:∀i (hi:i<a.length) (h1:1≤i),(a.take i).Pairwise ltS→a[i]≠a[i-1]'(by omega)→(a.take (i+1)).Pairwise ltS:=by
  intro i hi h1 hp hne
  rw [List.take_succ_eq_append_getElem hi,List.pairwise_append]
  refine ⟨hp,by simp,fun x hx y hy=>?_⟩
  simp at hy
  rw [hy]
  obtain ⟨j,hj,rfl⟩:=List.mem_iff_getElem.1 hx
  rw [List.getElem_take]
  simp at hj
  have q1:leS (a[i-1]'(by omega)) a[i]:=List.pairwise_iff_getElem.1 hs (i-1) i (by omega) hi (by omega)
  have q2:leS (a[j]'(by omega)) (a[i-1]'(by omega)):=by
   rcases Nat.lt_or_ge j (i-1) with h|h
   ·exact List.pairwise_iff_getElem.1 hs j (i-1) (by omega) (by omega) h
   ·have:j=i-1:=by omega
    subst this; exact zFX _
  exact zHs q2 (zHI q1 (Ne.symm hne))
 have hb:∀i (hi:i<a.length) (h1:1≤i),(a.take i).Pairwise ltS→(a[i]=a[i-1]'(by omega)∧∃r,xC a (i:Int)=some (.done (.ret r))∧r.Pairwise ltS∧(∀x,x∈r↔x∈a)∧r.length≤a.length)∨(a[i]≠a[i-1]'(by omega)∧xC a (i:Int)=some (.go ((i+1:Nat):Int))):=by
  intro i hi h1 hp
  unfold xC
  rw [if_pos (by simp; omega),zI hi,uM (x:=(i:Int)-1) (by omega) (by omega),show (i:Int)-1=((i-1:Nat):Int) by omega,zI (show i-1<a.length by omega),zP (by omega)]
  simp only [Option.bind_some]
  by_cases he:a[i]=a[i-1]'(by omega)
  ·left
   refine ⟨he,?_⟩
   rw [if_pos (by simpa [seq_eq] using he),zCZ (Nat.le_of_lt hi) (Nat.le_refl _)]
   simp only [Option.bind_some]
   obtain ⟨xs,k,e,g1,g2,g3,g4⟩:=zF6 a i h1 hi hs hl he hp ((a.drop i).take (a.length-i)) (by simp)
   rw [e]
   simp only [Option.bind_some]
   have hk:k≤xs.length:=by omega
   rw [zCZ hk (Nat.le_refl _)]
   simp only [Option.bind_some]
   rw [zKy (by simp; omega)]
   simp only [Option.bind_some]
   refine ⟨xs.take k,?_,g3,g4,by simp; omega⟩
   have:∀ys:List ByteArray,zDJ (xs.take k++ys) 0 (k:Int)=some (xs.take k):=by
    intro ys
    have hh:=zCZ (xs:=xs.take k++ys) (l:=0) (h:=k) (by omega) (by simp; omega)
    rw [show ((0:Nat):Int)=0 from rfl] at hh
    rw [hh]
    simp [Nat.min_eq_left hk]
   rw [List.append_assoc,this]
   rfl
  ·right
   rw [if_neg (by simpa [seq_eq] using he)]
   exact ⟨he,rfl⟩
 unfold xV
 by_cases h2:a.length<2
 ·rw [if_pos (by simp; omega)]
  refine ⟨a,rfl,?_,fun x=>Iff.rfl,Nat.le_refl _⟩
  match a,h2 with
  |[],_=>simp
  |[x],_=>simp
 ·rw [if_neg (by simp; omega)]
  obtain ⟨t,e,h⟩:=wD (b:=xC a) (fun i s=>s=((i+1:Nat):Int)∧(a.take (i+1)).Pairwise ltS) (a.length-1)
   (fun t=>(∃r,t= .ret r∧r.Pairwise ltS∧(∀x,x∈r↔x∈a)∧r.length≤a.length)∨(t= .nxt ()∧a.Pairwise ltS)) (by
   rintro i s hi ⟨rfl,hp⟩
   rcases hb (i+1) (by omega) (by omega) hp with ⟨_,r,e,q⟩|⟨hne,e⟩
   ·exact .inr ⟨_,e,.inl ⟨r,rfl,q⟩⟩
   ·exact .inl ⟨_,e,rfl,step1 (i+1) (by omega) (by omega) hp hne⟩) (by
   rintro s ⟨rfl,hp⟩
   rw [show a.length-1+1=a.length by omega] at hp ⊢
   refine ⟨.nxt (),?_,.inr ⟨rfl,by rw [List.take_length] at hp; exact hp⟩⟩
   unfold xC
   rw [if_neg (by simp)]) (a.length-1) 0 1 (by omega) ⟨rfl,by
    match a,h2 with
    |x::l,_=>simp⟩
  unfold wH
  rw [e]
  rcases h with ⟨r,rfl,q⟩|⟨rfl,q⟩
  ·exact ⟨r,rfl,q⟩
  ·exact ⟨a,rfl,q,fun x=>Iff.rfl,Nat.le_refl _⟩
theorem zDF (a:List ByteArray) (hl:a.length≤1048577):∃r,wO a=some r∧r.Pairwise ltS∧∀x,x∈r↔x∈a:=by
 obtain ⟨m,e1,e2,e3,e4⟩:=zJM a hl
 obtain ⟨r,f1,f2,f3,_⟩:=zHe m e2 (by omega)
 unfold wO
 rw [e1]
 simp only [Option.bind_some]
 rw [zKc e4]
 simp only [Option.bind_some]
 rw [f1]
 exact ⟨r,rfl,f2,fun x=>by rw [f3,e3]⟩
structure Sr (b:Nat) (s:zC):Prop where
 len:s.Code.length≤1048576
 byt:∀c∈s.Code,0≤c∧c≤255
 a0:0≤s.At
 a1:s.At≤(b:Int)
theorem Sr.mono {b b':Nat} {s:zC} (h:Sr b s) (hb:b≤b'):Sr b' s:=⟨h.len,h.byt,h.a0,by have:=h.a1; omega⟩
theorem zH2 {a:List Int} (h:a.length≤1048576) (hb:∀c∈a,0≤c∧c≤255):∃s,zB9 a=some s∧Sr 0 s:=
 ⟨_,rfl,h,hb,Int.le_refl _,Int.le_refl _⟩
theorem jL {b:Nat} {s:zC} (h:Sr b s) (hb:b≤1000000000) (n:Int):∃r s',zL s n=some (r,s')∧0≤r∧(1≤n→r<n)∧Sr (b+1) s':=by
 obtain ⟨hl,hbt,h0,h1⟩:=h
 have e1:w64 (s.At+1)=s.At+1:=uM (by omega) (by omega)
 have e2:w64 (s.At+1-1)=s.At:=by rw [uM (by omega) (by omega)]; omega
 have hS:Sr (b+1) {Code:=s.Code,At:=s.At+1}:=⟨hl,hbt,by show 0≤s.At+1; omega,by show s.At+1≤_; omega⟩
 unfold zL
 rw [e1,e2]
 by_cases hn:n<1
 ·rw [if_pos (by simpa using hn)]
  exact ⟨0,_,rfl,Int.le_refl _,fun h=>by omega,hS⟩
 rw [if_neg (by simpa using hn)]
 have hr:∀v:Int,0≤v→∃r,zJk v n=some r∧0≤r∧r<n:=fun v hv=>⟨v.tmod n,by unfold zJk; rw [if_neg (by omega)],Int.tmod_nonneg _ hv,Int.tmod_lt_of_pos _ (by omega)⟩
 by_cases hk:((s.Code.length:Int)==0)=true
 ·rw [if_pos hk,uM (x:=s.At*7) (by omega) (by omega)]
  obtain ⟨r,e,g1,g2⟩:=hr (s.At*7) (by omega)
  rw [e]
  exact ⟨r,_,rfl,g1,fun _=>g2,hS⟩
 ·rw [if_neg hk]
  have hkp:0<s.Code.length:=by
   have:¬((s.Code.length:Int)=0):=fun h=>hk (by simp [h])
   omega
  have hrk:∀v:Int,0≤v→∃(q:Nat) (hq:q<s.Code.length),zJk v (s.Code.length:Int)=some (q:Int):=fun v hv=>by
   have g1:=Int.tmod_nonneg (s.Code.length:Int) hv
   have g2:=Int.tmod_lt_of_pos v (b:=(s.Code.length:Int)) (by omega)
   refine ⟨(v.tmod (s.Code.length:Int)).toNat,by omega,?_⟩
   unfold zJk
   rw [if_neg (by omega)]
   congr 1
   omega
  obtain ⟨q,hq,eq⟩:=hrk s.At h0
  obtain ⟨q2,hq2,eq2⟩:=hrk (s.At+1) (by omega)
  have hc:=hbt _ (List.getElem_mem hq)
  have hc2:=hbt _ (List.getElem_mem hq2)
  obtain ⟨d,ed,d0,d1⟩:∃d,zLb .i64 s.At (s.Code.length:Int)=some d∧0≤d∧d≤s.At:=by
   have g1:=Int.tdiv_nonneg h0 (show 0≤(s.Code.length:Int) by omega)
   have g2:s.At.tdiv (s.Code.length:Int)≤s.At:=by
    rw [Int.tdiv_eq_ediv_of_nonneg h0]
    exact Int.ediv_le_self _ h0
   refine ⟨s.At.tdiv (s.Code.length:Int),?_,g1,g2⟩
   unfold zLb
   rw [if_neg (by omega)]
   congr 1
   exact uM (by omega) (by omega)
  rw [eq]
  simp only [Option.bind_some,zI hq,ed]
  rw [uM (x:=s.At+1) (by omega) (by omega),eq2]
  simp only [Option.bind_some,zI hq2]
  rw [uM (x:=s.Code[q]) (by omega) (by omega),uM (x:=d*37) (by omega) (by omega),uM (x:=s.Code[q]+d*37) (by omega) (by omega),uM (x:=(s.Code[q]+d*37)*251) (by omega) (by omega),
   uM (x:=s.Code[q2]) (by omega) (by omega),uM (x:=s.Code[q2]*13) (by omega) (by omega),uM (x:=(s.Code[q]+d*37)*251+s.Code[q2]*13) (by omega) (by omega),uM (x:=(s.Code[q]+d*37)*251+s.Code[q2]*13+s.At) (by omega) (by omega)]
  by_cases h200:n>200
  ·rw [if_pos (by simpa using h200)]
   obtain ⟨r,e,g1,g2⟩:=hr ((s.Code[q]+d*37)*251+s.Code[q2]*13+s.At) (by omega)
   simp only [Option.bind_some,e]
   exact ⟨r,_,rfl,g1,fun _=>g2,hS⟩
  ·rw [if_neg (by simpa using h200)]
   obtain ⟨r,e,g1,g2⟩:=hr (s.Code[q]+d*37) (by omega)
   simp only [Option.bind_some,e]
   exact ⟨r,_,rfl,g1,fun _=>g2,hS⟩
theorem tF {b:Nat} {s:zC} (h:Sr b s) (hb:b≤1000000000) (n:Int):∃r s',zV s n=some (r,s')∧Sr (b+1) s':=by
 obtain ⟨r,s',e,_,_,h'⟩:=jL h hb n
 unfold zV
 rw [e]
 exact ⟨_,_,rfl,h'⟩
theorem at_next {α:Type} {b:Nat} {s:zC} (h:Sr b s) (hb:b≤1000000000) {l:List α} {n:Int} (hn:n=(l.length:Int)) (hl:l≠[]):
  ∃r s' x,zL s n=some (r,s')∧idx l r=some x∧x∈l∧Sr (b+1) s':=by
 obtain ⟨r,s',e,g1,g2,h'⟩:=jL h hb n
 have hlp:0<l.length:=List.length_pos_iff.2 hl
 have g3:=g2 (by omega)
 obtain ⟨q,rfl⟩:=Int.eq_ofNat_of_zero_le g1
 have hq:q<l.length:=by omega
 exact ⟨_,s',l[q],e,zI hq,List.getElem_mem hq,h'⟩
theorem zCo {b:Nat} {s:zC} (h:Sr b s) (hb:b≤1000000000) (l:List Int) (hl:l≠[]):∃x s',yX s l=some (x,s')∧x∈l∧Sr (b+1) s':=by
 obtain ⟨r,s',x,e1,e2,hx,h'⟩:=at_next h hb (l:=l) rfl hl
 unfold yX
 rw [e1]
 simp only [Option.bind_some,e2]
 exact ⟨x,s',rfl,hx,h'⟩
theorem zEj {b:Nat} {s:zC} (h:Sr b s) (hb:b≤1000000000):∃p s',xM s=some (p,s')∧p.size≤20∧Sr (b+1) s':=by
 obtain ⟨r,s',x,e1,e2,hx,h'⟩:=at_next h hb (l:=[bs [97],bs [98],bs [99],bs [100],bs [108,105,98],bs [119,101,98]]) (n:=6) rfl (by simp)
 refine ⟨x,s',?_,?_,h'⟩
 ·unfold xM
  rw [e1]
  simp only [Option.bind_some,e2]
 ·simp only [List.mem_cons,List.not_mem_nil,or_false] at hx
  rcases hx with rfl|rfl|rfl|rfl|rfl|rfl<;>decide
theorem zEK {b:Nat} {s:zC} (h:Sr b s) (hb:b+10≤1000000000):∃v s',vH s=some (v,s')∧(0≤v.A∧v.A≤3)∧Sr (b+5) s':=by
 obtain ⟨a,s1,e1,a0,a1,h1⟩:=jL h (by omega) 4
 obtain ⟨c,s2,e2,_,_,h2⟩:=jL h1 (by omega) 3
 obtain ⟨d,s3,e3,_,h3⟩:=zCo h2 (by omega) [0,0,c] (by simp)
 obtain ⟨f,s4,e4,_,_,h4⟩:=jL h3 (by omega) 3
 obtain ⟨g,s5,e5,_,h5⟩:=zCo h4 (by omega) [0,0,0,f] (by simp)
 refine ⟨{A:=a,B:=d,C:=g},s5,?_,⟨a0,by have:=a1 (by omega); simp only; omega⟩,h5⟩
 unfold vH
 rw [e1]
 simp only [Option.bind_some,e2,e3,e4,e5]
theorem zEg {b:Nat} {s:zC} (h:Sr b s) (hb:b+20≤1000000000):∃t s',wK s=some (t,s')∧t.Name.size≤20∧Sr (b+9) s':=by
 obtain ⟨p,s1,e1,hp,h1⟩:=zEj h (by omega)
 obtain ⟨q,s2,e2,h2⟩:=tF h1 (by omega) 2
 obtain ⟨v,s3,e3,h3⟩:∃(v:Version) (s3:zC),(if q=true then (vH s2).bind fun x9=>some (x9.2.Code,x9.2.At,x9.1.A,x9.1.B,x9.1.C) else some (s2.Code,s2.At,0,0,0))=some (s3.Code,s3.At,v.A,v.B,v.C)∧Sr (b+7) s3:=by
  cases q
  ·exact ⟨{A:=0,B:=0,C:=0},s2,rfl,h2.mono (by omega)⟩
  ·obtain ⟨v,s3,e,_,h3⟩:=zEK h2 (by omega)
   rw [e]
   exact ⟨v,s3,rfl,h3.mono (by omega)⟩
 obtain ⟨q2,s4,e4,h4⟩:=tF (s:= {Code:=s3.Code,At:=s3.At}) h3 (by omega) 3
 obtain ⟨u,s5,e5,h5⟩:∃(u:Version) (s5:zC),(if q2=true then (zL s4 2).bind fun x15=>some (x15.2.Code,x15.2.At,w64 (w64 (v.A+1)+x15.1),(0:Int),(0:Int)) else some (s4.Code,s4.At,1000,0,0))=some (s5.Code,s5.At,u.A,u.B,u.C)∧Sr (b+9) s5:=by
  cases q2
  ·exact ⟨{A:=1000,B:=0,C:=0},s4,rfl,h4.mono (by omega)⟩
  ·obtain ⟨r,s5,e,_,_,h5⟩:=jL h4 (by omega) 2
   rw [e]
   exact ⟨{A:=w64 (w64 (v.A+1)+r),B:=0,C:=0},s5,rfl,h5.mono (by omega)⟩
 refine ⟨{Name:=p,Low:=v,High:=u},s5,?_,hp,h5⟩
 unfold wK vD jW
 rw [e1]
 simp only [Option.bind_some,e2,e3,e4,e5]
theorem zFY {b:Nat} {s:zC} (h:Sr b s) (hb:b+10≤1000000000):∃p s',xL s=some (p,s')∧p.size≤20∧Sr (b+2) s':=by
 obtain ⟨q,s1,e,h1⟩:=tF h (by omega) 14
 unfold xL
 rw [e]
 simp only [Option.bind_some]
 cases q
 ·obtain ⟨p,s2,e2,h2,h3⟩:=zEj h1 (by omega)
  rw [e2]
  exact ⟨p,s2,rfl,h2,h3⟩
 ·obtain ⟨r,s',x,e1,e2,hx,h'⟩:=at_next h1 (by omega) (l:=[bs [],bs [49,97],bs [65],bs [97,98,99,100,101,102,103,104,105,106,107,108,109],bs [97,98,99,100,101,102,103,104,105,106,107,108],bs [97,32,98],bs [97,45],bs [95,97],bs [97,95,49]]) (n:=9) rfl (by simp)
  rw [e1]
  simp only [Option.bind_some,e2,if_true]
  refine ⟨x,s',rfl,?_,h'⟩
  simp only [List.mem_cons,List.not_mem_nil,or_false] at hx
  rcases hx with rfl|rfl|rfl|rfl|rfl|rfl|rfl|rfl|rfl<;>decide
theorem zC8 {b:Nat} {s:zC} (h:Sr b s) (hb:b+20≤1000000000):∃v s',xG s=some (v,s')∧Sr (b+7) s':=by
 obtain ⟨v,s1,e1,_,h1⟩:=zEK h (by omega)
 obtain ⟨n,s2,e2,_,_,h2⟩:=jL h1 (by omega) 14
 unfold xG
 rw [e1]
 simp only [Option.bind_some,e2]
 by_cases c0:(n==0)=true
 ·obtain ⟨y,s3,e3,_,h3⟩:=zCo h2 (by omega) [-1,999,1000] (by simp)
  rw [if_pos c0,e3]
  exact ⟨_,_,rfl,h3⟩
 rw [if_neg c0]
 by_cases c1:(n==1)=true
 ·obtain ⟨y,s3,e3,_,h3⟩:=zCo h2 (by omega) [-1,999,1000] (by simp)
  rw [if_pos c1,e3]
  exact ⟨_,_,rfl,h3⟩
 rw [if_neg c1]
 by_cases c2:(n==2)=true
 ·obtain ⟨y,s3,e3,_,h3⟩:=zCo h2 (by omega) [-1,999,1000,4611686018427387904] (by simp)
  rw [if_pos c2,e3]
  exact ⟨_,_,rfl,h3⟩
 rw [if_neg c2]
 exact ⟨_,_,rfl,h2.mono (by omega)⟩
theorem zDo {b:Nat} {s:zC} (h:Sr b s) (hb:b+40≤1000000000):∃t s',wE s=some (t,s')∧t.Name.size≤20∧Sr (b+20) s':=by
 obtain ⟨t,s1,e1,ht,h1⟩:=zEg h (by omega)
 obtain ⟨n,s2,e2,_,_,h2⟩:=jL h1 (by omega) 14
 unfold wE
 rw [e1]
 simp only [Option.bind_some,e2]
 by_cases c0:(n==0)=true
 ·obtain ⟨p,s3,e3,hp,h3⟩:=zFY h2 (by omega)
  rw [if_pos c0,e3]
  exact ⟨_,_,rfl,hp,h3.mono (by omega)⟩
 rw [if_neg c0]
 by_cases c1:(n==1)=true
 ·obtain ⟨v,s3,e3,h3⟩:=zC8 h2 (by omega)
  rw [if_pos c1,e3]
  exact ⟨_,_,rfl,ht,h3.mono (by omega)⟩
 rw [if_neg c1]
 by_cases c2:(n==2)=true
 ·obtain ⟨v,s3,e3,h3⟩:=zC8 h2 (by omega)
  rw [if_pos c2,e3]
  exact ⟨_,_,rfl,ht,h3.mono (by omega)⟩
 rw [if_neg c2]
 by_cases c3:(n==3)=true
 ·rw [if_pos c3]
  exact ⟨_,_,rfl,ht,h2.mono (by omega)⟩
 rw [if_neg c3]
 exact ⟨_,_,rfl,ht,h2.mono (by omega)⟩
def zCj (c:List Pack) (k:Int):ByteArray:=(pat c k).Name
def Nms (c:List Pack) (a b:List Int) (x n:ByteArray):Prop:=n=x∨∃k,(k∈a∨k∈b)∧zCj c k=x∧n∈(pat c k).Provides
def Says (c:List Pack) (k:Int) (n:ByteArray):Prop:=(∃l∈(pat c k).Needs,∃t∈l,t.Name=n)∨∃t∈(pat c k).Bars,t.Name=n
def Tch (c:List Pack) (a b:List Int) (x y:ByteArray):Prop:=∃k,(k∈a∨k∈b)∧zCj c k=x∧∃n,Says c k n∧Nms c a b y n
def Joi (c:List Pack) (a b:List Int) (x y:ByteArray):Prop:=
 Tch c a b x y∨Tch c a b y x∨∃k,(k∈a∨k∈b)∧∃l∈(pat c k).Needs,(∃t∈l,Nms c a b x t.Name)∧∃t∈l,Nms c a b y t.Name
theorem Joi.symm {c:List Pack} {a b:List Int} {x y:ByteArray} (h:Joi c a b x y):Joi c a b y x:=by
 rcases h with h|h|⟨k,h1,l,h2,h3,h4⟩
 ·exact .inr (.inl h)
 ·exact .inl h
 ·exact .inr (.inr ⟨k,h1,l,h2,h4,h3⟩)
def inN (ns:List ByteArray) (n:ByteArray):Bool:=ns.any fun x=>seq x n
theorem zE2 {ns:List ByteArray} {n:ByteArray}:inN ns n=true↔n∈ns:=by
 unfold inN
 rw [List.any_eq_true]
 constructor
 ·rintro ⟨x,hx,e⟩; rw [←zGl.1 e]; exact hx
 ·exact fun h=>⟨n,h,zFU n⟩
def mvB (c:List Pack) (a b:List Int) (ns:List ByteArray) (k:Int):Bool:=if inN ns (zCj c k) then decide (k∈b) else decide (k∈a)
def upTo (n:Nat):List Int:=(List.range n).map fun i:Nat=>(i:Int)
def mvL (c:List Pack) (a b:List Int) (ns:List ByteArray):List Int:=(upTo c.length).filter (mvB c a b ns)
def zBL (c:List Pack) (a:List Int) (n:ByteArray):Int:=(xS (fun _ k=>if seq (pat c k).Name n then some k else none) 0 a).getD (-1)
theorem zGp {q:Int→Bool}:∀(xs:List Int) (i:Nat),((xS (fun _ k=>if q k then some k else none) i xs)=none∧∀k∈xs,q k=false)∨∃k∈xs,q k=true∧(xS (fun _ k=>if q k then some k else none) i xs)=some k
 |[],i=>.inl ⟨rfl,by simp⟩
 |x::xs,i=>by
  simp only [xS]
  cases hq:q x
  ·simp only [Bool.false_eq_true,if_false]
   rcases zGp (q:=q) xs (i+1) with ⟨h1,h2⟩|⟨k,h1,h2,h3⟩
   ·refine .inl ⟨h1,fun k hk=>?_⟩
    rcases List.mem_cons.1 hk with rfl|hk
    ·exact hq
    ·exact h2 k hk
   ·exact .inr ⟨k,by simp [h1],h2,h3⟩
  ·simp only [if_true]
   exact .inr ⟨x,by simp,hq,rfl⟩
theorem zC0 (c:List Pack) (a:List Int) (n:ByteArray):(zBL c a n= -1∧∀k∈a,zCj c k≠n)∨(zBL c a n∈a∧zCj c (zBL c a n)=n):=by
 unfold zBL
 rcases zGp (q:=fun k=>seq (pat c k).Name n) a 0 with ⟨h1,h2⟩|⟨k,h1,h2,h3⟩
 ·rw [h1]
  refine .inl ⟨rfl,fun k hk e=>?_⟩
  have:seq (zCj c k) n=false:=h2 k hk
  rw [zGl.2 e] at this
  cases this
 ·rw [h3]
  exact .inr ⟨h1,zGl.1 h2⟩
theorem zC5 {c:List Pack} {a:List Int} (hp:Places c a) (ha:a.length≤1048576) (n:ByteArray):jJ c a n=some (zBL c a n)∧vY c a n=some (zBL c a n):=by
 have key:=xE a (fun _ k=>if seq (pat c k).Name n then some k else none) (b:=zBG c a n) (by
  intro i hi
  have hk:=hp _ (List.getElem_mem hi)
  unfold zBG
  rw [if_pos (by simp; omega),zI hi]
  simp only [Option.bind_some]
  rw [(uQ hk).1]
  simp only [Option.bind_some]
  rw [zP (by omega)]
  cases seq (pat c a[i]).Name n<;>rfl) (by
  unfold zBG
  rw [if_neg (by simp)])
 have key2:=xE a (fun _ k=>if seq (pat c k).Name n then some k else none) (b:=zBE c a n) (by
  intro i hi
  have hk:=hp _ (List.getElem_mem hi)
  unfold zBE
  rw [if_pos (by simp; omega),zI hi]
  simp only [Option.bind_some]
  rw [(uQ hk).1]
  simp only [Option.bind_some]
  rw [zP (by omega)]
  cases seq (pat c a[i]).Name n<;>rfl) (by
  unfold zBE
  rw [if_neg (by simp)])
 constructor
 ·unfold jJ zCt zBL
  rw [key,zBe]
  cases xS (fun _ k=>if seq (pat c k).Name n then some k else none) 0 a<;>rfl
 ·unfold vY zCx zBL
  rw [key2,zBe]
  cases xS (fun _ k=>if seq (pat c k).Name n then some k else none) 0 a<;>rfl
theorem zIA {a b:List Int} (ha:a.length≤1048576) (hb:b.length≤1048576):xI [a,b]=some (a++b):=by
 unfold xI vJ vN
 have e1:loop (yZ [a,b]) (0,0)=some ((a.length+b.length:Nat):Int):=by
  have i0:idx [a,b] 0=some a:=rfl
  have i1:idx [a,b] 1=some b:=rfl
  rw [xY,show yZ [a,b] (0,0)=some (.go ((a.length:Int),1)) by
   unfold yZ
   rw [if_pos (by simp)]
   simp only
   rw [i0]
   simp only [Option.bind_some]
   rw [uM (by omega) (by omega),if_neg (by simp)]
   simp [uM]]
  simp only [Option.bind_some,Lp.elim]
  rw [xY,show yZ [a,b] ((a.length:Int),1)=some (.go ((a.length:Int)+b.length,2)) by
   unfold yZ
   rw [if_pos (by simp)]
   simp only
   rw [i1]
   simp only [Option.bind_some]
   rw [uM (x:=(a.length:Int)+b.length) (by omega) (by omega),if_neg (by simp; omega)]
   simp [uM]]
  simp only [Option.bind_some,Lp.elim]
  rw [xY,show yZ [a,b] ((a.length:Int)+b.length,2)=some (.done ((a.length:Int)+b.length)) by
   unfold yZ
   rw [if_neg (by simp)]]
  simp [Lp.elim]
 rw [e1]
 simp only [Option.bind_some]
 have e2:jM ((a.length+b.length:Nat):Int)=some []:=by
  unfold jM
  rw [if_pos (by omega)]
 rw [e2]
 simp only [Option.bind_some]
 have i0:idx [a,b] 0=some a:=rfl
 have i1:idx [a,b] 1=some b:=rfl
 rw [xY,show xD [a,b] (([]:List Int),0)=some (.go (a,1)) by
  unfold xD
  rw [if_pos (by simp)]
  simp only
  rw [i0]
  simp only [Option.bind_some]
  rw [vT (by simp; omega) (by simp; omega)]
  simp [uM]]
 simp only [Option.bind_some,Lp.elim]
 rw [xY,show xD [a,b] (a,1)=some (.go (a++b,2)) by
  unfold xD
  rw [if_pos (by simp)]
  simp only
  rw [i1]
  simp only [Option.bind_some]
  rw [vT (by omega) (by omega)]
  simp [uM]]
 simp only [Option.bind_some,Lp.elim]
 rw [xY,show xD [a,b] (a++b,2)=some (.done (a++b)) by
  unfold xD
  rw [if_neg (by simp)]]
 simp [Lp.elim]
structure Sml (c:List Pack):Prop where
 len:c.length≤24
 zK9:∀k,(pat c k).Provides.length ≤4
 needs:∀k,(pat c k).Needs.length ≤4
 bars:∀k,(pat c k).Bars.length ≤4
 clause:∀k,∀l∈(pat c k).Needs,l.length≤4
theorem Sml.of {c:List Pack} (h:CF c=0):Sml c:=by
 obtain ⟨h1,h2,_⟩:=zKf h
 have key:∀p,PF p=0→p.Provides.length≤4∧p.Needs.length≤4∧p.Bars.length≤4∧∀l∈p.Needs,l.length≤4:=by
  intro p hp
  have hm:zHR p=false:=by
   cases hm:zHR p with
   |false=>rfl
   |true=>
    unfold PF at hp
    rw [hm] at hp
    split at hp
    ·rename_i h3; simp [hp] at h3
    split at hp
    ·rename_i h3; simp [hp] at h3
    split at hp
    ·cases hp
    ·cases hp
  unfold zHR at hm
  simp only [Bool.or_eq_false_iff,decide_eq_false_iff_not,List.any_eq_false,decide_eq_true_eq] at hm
  obtain ⟨m1,m2,m3,m4⟩:=hm
  exact ⟨by omega,by omega,by omega,fun l hl=>by have:=m4 l hl; omega⟩
 have pk:∀k,(pat c k).Provides.length ≤4∧(pat c k).Needs.length ≤4∧(pat c k).Bars.length ≤4∧∀l∈(pat c k).Needs,l.length≤4:=by
  intro k
  unfold pat
  cases hk:idx c k with
  |none=>simp [noPack]
  |some p=>
   refine key p (h2 p ?_)
   unfold idx at hk
   split at hk
   ·exact List.mem_of_getElem? hk
   ·cases hk
 exact ⟨h1,fun k=>(pk k).1,fun k=>(pk k).2.1,fun k=>(pk k).2.2.1,fun k=>(pk k).2.2.2⟩
structure Two (c:List Pack) (a b:List Int):Prop where
 sml:Sml c
 pa:Places c a
 pb:Places c b
 sa:a.Pairwise (· < ·)
 sb:b.Pairwise (· < ·)
 la:a.length≤24
 lb:b.length≤24
theorem zGA {c:List Pack} {a b:List Int} (h:Two c a b):
  ∃l,uE c a b=some l∧wX c a b=some l∧l.Pairwise ltS∧(∀n,n∈l↔zBL c a n≠zBL c b n)∧l.length≤24:=by
 have hc:=h.sml.len
 have la:=h.la
 have lb:=h.lb
 obtain ⟨l,e,h1,h2,h3⟩:=wD (b:=kP c a b) (fun i s=>s.2=(i:Int)∧s.1.Pairwise ltS∧(∀n,n∈s.1↔(∃k:Nat,k<i∧zCj c (k:Int)=n)∧zBL c a n≠zBL c b n)∧s.1.length≤i) c.length
  (fun t=>t.Pairwise ltS∧(∀n,n∈t↔(∃k:Nat,k<c.length∧zCj c (k:Int)=n)∧zBL c a n≠zBL c b n)∧t.length≤c.length) (by
  rintro i ⟨l,j⟩ hi ⟨hj,hs,hm,hl⟩
  simp only at hj hs hm hl
  subst hj
  refine .inl ?_
  have hk:=uQ (c:=c) (k:=(i:Int)) ⟨by omega,by omega⟩
  unfold kP
  rw [if_pos (by simp; omega)]
  simp only
  rw [hk.1]
  simp only [Option.bind_some]
  rw [(zC5 h.pa (by omega) _).1,(zC5 h.pb (by omega) _).1,zP (by omega)]
  simp only [Option.bind_some]
  have hex:∀n,(∃k:Nat,k<i+1∧zCj c (k:Int)=n)↔(∃k:Nat,k<i∧zCj c (k:Int)=n)∨n=(pat c i).Name :=by
   intro n
   constructor
   ·rintro ⟨k,h1,h2⟩
    rcases Nat.lt_succ_iff_lt_or_eq.1 h1 with h3|rfl
    ·exact .inl ⟨k,h3,h2⟩
    ·exact .inr h2.symm
   ·rintro (⟨k,h1,h2⟩|h2)
    ·exact ⟨k,by omega,h2⟩
    ·exact ⟨i,by omega,h2.symm⟩
  by_cases hne:zBL c a (pat c i).Name =zBL c b (pat c i).Name
  ·rw [if_neg (by simp [hne])]
   refine ⟨_,rfl,rfl,hs,fun n=>?_,by simp only; omega⟩
   rw [hm,hex]
   constructor
   ·rintro ⟨q1,q2⟩; exact ⟨.inl q1,q2⟩
   ·rintro ⟨q1|q1,q2⟩
    ·exact ⟨q1,q2⟩
    ·subst q1; exact absurd hne q2
  ·rw [if_pos (by simp [hne])]
   obtain ⟨r,e1,e2,e3,e4⟩:=zFd l (pat c i).Name hs (by omega)
   rw [e1]
   refine ⟨_,rfl,rfl,e2,fun n=>?_,by simp only; omega⟩
   rw [e3,hm,hex]
   constructor
   ·rintro (⟨q1,q2⟩|q1)
    ·exact ⟨.inl q1,q2⟩
    ·subst q1; exact ⟨.inr rfl,hne⟩
   ·rintro ⟨q1|q1,q2⟩
    ·exact .inl ⟨q1,q2⟩
    ·exact .inr q1) (by
  rintro ⟨l,j⟩ ⟨hj,hs,hm,hl⟩
  simp only at hj hs hm hl
  subst hj
  unfold kP
  rw [if_neg (by simp)]
  exact ⟨_,rfl,hs,hm,hl⟩) c.length 0 (([]:List ByteArray),0) (by omega) ⟨rfl,by simp,by simp,by simp⟩
 have hmem:∀n,n∈l↔zBL c a n≠zBL c b n:=by
  intro n
  rw [h2]
  constructor
  ·exact fun h=>h.2
  ·intro hne
   refine ⟨?_,hne⟩
   rcases zC0 c a n with ⟨q1,_⟩|⟨q1,q2⟩
   ·rcases zC0 c b n with ⟨q3,_⟩|⟨q3,q4⟩
    ·exact absurd (q1.trans q3.symm) hne
    ·have:=h.pb _ q3
     exact ⟨(zBL c b n).toNat,by omega,by rw [show ((zBL c b n).toNat :Int)=zBL c b n by omega]; exact q4⟩
   ·have:=h.pa _ q1
    exact ⟨(zBL c a n).toNat,by omega,by rw [show ((zBL c a n).toNat :Int)=zBL c a n by omega]; exact q2⟩
 refine ⟨l,by unfold uE zAv; rw [e]; rfl,?_,h1,hmem,by omega⟩
 unfold wX zBl
 rw [zIA (by omega) (by omega)]
 simp only [Option.bind_some]
 obtain ⟨l2,f,g1,g2⟩:=wD (b:=zAL c a b (a++b)) (fun i s=>s.2=(i:Int)∧(∀n,n∈s.1↔(∃k∈(a++b).take i,zCj c k=n)∧zBL c a n≠zBL c b n)∧s.1.length≤i) (a++b).length
  (fun t=>(∀n,n∈t↔(∃k∈a++b,zCj c k=n)∧zBL c a n≠zBL c b n)∧t.length≤(a++b).length) (by
  rintro i ⟨l,j⟩ hi ⟨hj,hm,hl⟩
  simp only at hj hm hl
  subst hj
  have hlen:(a++b).length ≤48:=by simp; omega
  have hk:0≤(a++b)[i]∧(a++b)[i]<c.length:=by
   have:(a++b)[i]∈a++b:=List.getElem_mem hi
   rcases List.mem_append.1 this with q|q
   ·exact h.pa _ q
   ·exact h.pb _ q
  refine .inl ?_
  unfold zAL
  rw [if_pos (by simp at hi ⊢; omega),zI hi]
  simp only [Option.bind_some]
  rw [(uQ hk).1]
  simp only [Option.bind_some]
  rw [(zC5 h.pa (by omega) _).2,(zC5 h.pb (by omega) _).2,zP (by omega)]
  simp only [Option.bind_some]
  have hex:∀n,(∃k∈(a++b).take (i+1),zCj c k=n)↔(∃k∈(a++b).take i,zCj c k=n)∨n=(pat c (a++b)[i]).Name :=by
   intro n
   rw [List.take_succ_eq_append_getElem hi]
   constructor
   ·rintro ⟨k,h1,h2⟩
    rcases List.mem_append.1 h1 with h3|h3
    ·exact .inl ⟨k,h3,h2⟩
    ·simp at h3; subst h3; exact .inr h2.symm
   ·rintro (⟨k,h1,h2⟩|h2)
    ·exact ⟨k,List.mem_append_left _ h1,h2⟩
    ·exact ⟨_,List.mem_append_right _ (by simp),h2.symm⟩
  by_cases hne:zBL c a (pat c (a++b)[i]).Name =zBL c b (pat c (a++b)[i]).Name
  ·rw [if_neg (by simp [hne])]
   refine ⟨_,rfl,rfl,fun n=>?_,by simp only; omega⟩
   rw [hm,hex]
   constructor
   ·rintro ⟨q1,q2⟩; exact ⟨.inl q1,q2⟩
   ·rintro ⟨q1|q1,q2⟩
    ·exact ⟨q1,q2⟩
    ·subst q1; exact absurd hne q2
  ·rw [if_pos (by simp [hne]),vT (by simp; omega) (by simp; omega)]
   refine ⟨_,rfl,rfl,fun n=>?_,by simp; omega⟩
   rw [hex,List.mem_append,hm,List.mem_singleton]
   constructor
   ·rintro (⟨q1,q2⟩|q1)
    ·exact ⟨.inl q1,q2⟩
    ·subst q1; exact ⟨.inr rfl,hne⟩
   ·rintro ⟨q1|q1,q2⟩
    ·exact .inl ⟨q1,q2⟩
    ·exact .inr q1) (by
  rintro ⟨l,j⟩ ⟨hj,hm,hl⟩
  simp only at hj hm hl
  subst hj
  rw [List.take_length] at hm
  unfold zAL
  rw [if_neg (by simp)]
  exact ⟨_,rfl,hm,hl⟩) (a++b).length 0 (([]:List ByteArray),0) (by omega) ⟨rfl,by simp,by simp⟩
 rw [f]
 simp only [Option.bind_some]
 have hlen:(a++b).length ≤48:=by simp; omega
 obtain ⟨r,s1,s2,s3⟩:=zDF l2 (by omega)
 rw [s1]
 simp only [Option.bind_some]
 congr 1
 refine zBq s2 h1 fun n=>?_
 rw [s3,g1,hmem]
 constructor
 ·exact fun h=>h.2
 ·intro hne
  refine ⟨?_,hne⟩
  rcases zC0 c a n with ⟨q1,_⟩|⟨q1,q2⟩
  ·rcases zC0 c b n with ⟨q3,_⟩|⟨q3,q4⟩
   ·exact absurd (q1.trans q3.symm) hne
   ·exact ⟨_,List.mem_append_right _ q3,q4⟩
  ·exact ⟨_,List.mem_append_left _ q1,q2⟩
def zBB (c:List Pack) (a b:List Int) (n:ByteArray):List Pack:=
 (if decide (zBL c a n≥0) then [pat c (zBL c a n)] else [])++(if decide (zBL c b n≥0) then [pat c (zBL c b n)] else [])
theorem zDh {c:List Pack} {a:List Int} (hp:Places c a) {n:ByteArray} (h:zBL c a n≥0):0≤zBL c a n∧zBL c a n<c.length:=by
 rcases zC0 c a n with ⟨q,_⟩|⟨q,_⟩
 ·omega
 ·exact hp _ q
theorem zGz (c:List Pack) (a b:List Int) (n:ByteArray):(zBB c a b n).length ≤2:=by
 unfold zBB
 cases decide (zBL c a n≥0)<;>cases decide (zBL c b n≥0)<;>simp
theorem zGN {c:List Pack} {a b:List Int} {n:ByteArray} {p:Pack} (h:p∈zBB c a b n):∃k,(k∈a∨k∈b)∧zCj c k=n∧p=pat c k:=by
 unfold zBB at h
 rcases List.mem_append.1 h with h|h
 ·split at h
  ·rename_i q
   simp at q h
   rcases zC0 c a n with ⟨q2,_⟩|⟨q2,q3⟩
   ·omega
   ·exact ⟨_,.inl q2,q3,h⟩
  ·simp at h
 ·split at h
  ·rename_i q
   simp at q h
   rcases zC0 c b n with ⟨q2,_⟩|⟨q2,q3⟩
   ·omega
   ·exact ⟨_,.inr q2,q3,h⟩
  ·simp at h
theorem zGg {c:List Pack} {a b:List Int} (h:Two c a b) (n:ByteArray):zDm c a b n=some (zBB c a b n)∧uF c a b n=some (zBB c a b n):=by
 have la:=h.la
 have lb:=h.lb
 have step:∀(l:List Pack) (x:Int) (i:Nat) (x5 x7:Int),l.length≤5→idx [x5,x7] (i:Int)=some x→i<2→(x≥0→0≤x∧x<c.length)→
   vK c x5 x7 (l,(i:Int))=some (.go (l++(if decide (x≥0) then [pat c x] else []),((i+1:Nat):Int))):=by
  intro l x i x5 x7 hl hx hi hp
  unfold vK
  rw [if_pos (by simp; omega)]
  simp only
  rw [hx]
  simp only [Option.bind_some]
  rw [zP (by omega)]
  by_cases hge:x≥0
  ·rw [if_pos (by simpa using hge),if_pos (by simpa using hge),(uQ (hp hge)).1]
   simp only [Option.bind_some]
   rw [vT (by simp; omega) (by simp; omega)]
   rfl
  ·rw [if_neg (by simpa using hge),if_neg (by simpa using hge)]
   simp
 constructor
 ·unfold zDm zBB
  rw [(zC5 h.pa (by omega) _).1,(zC5 h.pb (by omega) _).1]
  simp only [Option.bind_some]
  by_cases h1:zBL c a n≥0
  ·rw [if_pos (by simpa using h1),if_pos (by simpa using h1),(uQ (zDh h.pa h1)).1]
   simp only [Option.bind_some]
   rw [vT (by simp) (by simp)]
   simp only [Option.bind_some,List.nil_append]
   by_cases h2:zBL c b n≥0
   ·rw [if_pos (by simpa using h2),if_pos (by simpa using h2),(uQ (zDh h.pb h2)).1]
    simp only [Option.bind_some]
    rw [vT (by simp) (by simp)]
    rfl
   ·rw [if_neg (by simpa using h2),if_neg (by simpa using h2)]
    rfl
  ·rw [if_neg (by simpa using h1),if_neg (by simpa using h1)]
   simp only [Option.bind_some,List.nil_append]
   by_cases h2:zBL c b n≥0
   ·rw [if_pos (by simpa using h2),if_pos (by simpa using h2),(uQ (zDh h.pb h2)).1]
    simp only [Option.bind_some]
    rw [vT (by simp) (by simp)]
    rfl
   ·rw [if_neg (by simpa using h2),if_neg (by simpa using h2)]
    rfl
 ·unfold uF zAx
  rw [(zC5 h.pa (by omega) _).2,(zC5 h.pb (by omega) _).2]
  simp only [Option.bind_some]
  rw [xY,show vK c (zBL c a n) (zBL c b n) (([]:List Pack),0)=_ from step [] _ 0 _ _ (by simp) rfl (by omega) (zDh h.pa)]
  simp only [Option.bind_some,Lp.elim]
  rw [xY,step _ _ 1 _ _ (by cases decide (zBL c a n≥0)<;>simp) rfl (by omega) (zDh h.pb)]
  simp only [Option.bind_some,Lp.elim,List.nil_append]
  rw [xY,show ∀l,vK c (zBL c a n) (zBL c b n) (l,((1+1:Nat):Int))=some (.done l) from fun l=>by
   unfold vK
   rw [if_neg (by simp)]]
  rfl
theorem zFV {α:Type} (xs:List α) (f:α→ByteArray) {b:(List ByteArray×Int)→Option (Lp (List ByteArray×Int) (List ByteArray))}
  (hstep:∀(i:Nat) (hi:i<xs.length) (l:List ByteArray),b (l,(i:Int))=(tC l (f xs[i])).bind fun x=>some (Lp.go (x,w64 ((i:Int)+1)))) (hend:∀l,b (l,(xs.length:Int))=some (.done l)) (l0:List ByteArray) (hs:l0.Pairwise ltS) (hl:l0.length+xs.length≤1048576):
  ∃r,loop b (l0,0)=some r∧r.Pairwise ltS∧(∀x,x∈r↔x∈l0∨∃y∈xs,f y=x)∧r.length≤l0.length+xs.length:=by
 refine wD (b:=b) (fun i s=>s.2=(i:Int)∧s.1.Pairwise ltS∧(∀x,x∈s.1↔x∈l0∨∃y∈xs.take i,f y=x)∧s.1.length≤l0.length+i) xs.length _ (by
  rintro i ⟨l,j⟩ hi ⟨hj,h1,h2,h3⟩
  simp only at hj h1 h2 h3
  subst hj
  refine .inl ?_
  obtain ⟨r,e1,e2,e3,e4⟩:=zFd l (f xs[i]) h1 (by omega)
  rw [hstep i hi,e1,zP (by omega)]
  refine ⟨_,rfl,rfl,e2,fun x=>?_,by simp only; omega⟩
  rw [e3,h2,List.take_succ_eq_append_getElem hi]
  constructor
  ·rintro ((q|⟨y,q1,q2⟩)|q)
   ·exact .inl q
   ·exact .inr ⟨y,List.mem_append_left _ q1,q2⟩
   ·exact .inr ⟨_,List.mem_append_right _ (by simp),q.symm⟩
  ·rintro (q|⟨y,q1,q2⟩)
   ·exact .inl (.inl q)
   ·rcases List.mem_append.1 q1 with q1|q1
    ·exact .inl (.inr ⟨y,q1,q2⟩)
    ·simp at q1; subst q1; exact .inr q2.symm) (by
  rintro ⟨l,j⟩ ⟨hj,h1,h2,h3⟩
  simp only at hj h1 h2 h3
  subst hj
  rw [List.take_length] at h2
  exact ⟨_,hend l,h1,h2,h3⟩) xs.length 0 (l0,0) (by omega) ⟨rfl,hs,by simp,by simp⟩
noncomputable def nmL (c:List Pack) (a b:List Int) (n:ByteArray):List ByteArray:=(uO c a b n).getD []
theorem zIF {c:List Pack} {a b:List Int} (h:Two c a b) (n:ByteArray):
  zCQ c a b n=some (nmL c a b n)∧uO c a b n=some (nmL c a b n)∧(∀x,x∈nmL c a b n↔x=n∨∃p∈zBB c a b n,x∈p.Provides)∧(nmL c a b n).length ≤1048576:=by
 have hpr:∀p∈zBB c a b n,p.Provides.length≤4:=fun p hp=>by
  obtain ⟨k,_,_,rfl⟩:=zGN hp
  exact h.sml.zK9 k
 have hbl:=zGz c a b n
 obtain ⟨r,e,r1,r2,r3⟩:=wD (b:=zBS (zBB c a b n)) (fun i s=>s.2=(i:Int)∧s.1.Pairwise ltS∧(∀x,x∈s.1↔x=n∨∃p∈(zBB c a b n).take i,x∈p.Provides)∧s.1.length≤1+4*i) (zBB c a b n).length
  (fun t=>t.Pairwise ltS∧(∀x,x∈t↔x=n∨∃p∈zBB c a b n,x∈p.Provides)∧t.length≤1+4*(zBB c a b n).length) (by
  rintro i ⟨l,j⟩ hi ⟨hj,h1,h2,h3⟩
  simp only at hj h1 h2 h3
  subst hj
  refine .inl ?_
  have hp4:=hpr _ (List.getElem_mem hi)
  obtain ⟨r,e1,e2,e3,e4⟩:=zFV (zBB c a b n)[i].Provides (fun x=>x) (b:=zBX (zBB c a b n) (l,(i:Int))) (by
   intro j hj l'
   unfold zBX
   simp only
   rw [zI hi]
   simp only [Option.bind_some]
   rw [if_pos (by simp; omega),zI hj]
   rfl) (by
   intro l'
   unfold zBX
   simp only
   rw [zI hi]
   simp only [Option.bind_some]
   rw [if_neg (by simp)]) l h1 (by omega)
  unfold zBS zD9
  rw [if_pos (by simp; omega),e1,zP (by omega)]
  refine ⟨_,rfl,rfl,e2,fun x=>?_,by simp only; omega⟩
  rw [e3,h2,List.take_succ_eq_append_getElem hi]
  constructor
  ·rintro ((q|⟨p,q1,q2⟩)|⟨y,q1,q2⟩)
   ·exact .inl q
   ·exact .inr ⟨p,List.mem_append_left _ q1,q2⟩
   ·subst q2; exact .inr ⟨_,List.mem_append_right _ (by simp),q1⟩
  ·rintro (q|⟨p,q1,q2⟩)
   ·exact .inl (.inl q)
   ·rcases List.mem_append.1 q1 with q1|q1
    ·exact .inl (.inr ⟨p,q1,q2⟩)
    ·simp at q1; subst q1; exact .inr ⟨_,q2,rfl⟩) (by
  rintro ⟨l,j⟩ ⟨hj,h1,h2,h3⟩
  simp only at hj h1 h2 h3
  subst hj
  rw [List.take_length] at h2
  unfold zBS
  rw [if_neg (by simp)]
  exact ⟨_,rfl,h1,h2,h3⟩) (zBB c a b n).length 0 ([n],0) (by omega) ⟨rfl,by simp,by simp,by simp⟩
 obtain ⟨u,f,u1,u2⟩:=wD (b:=zAB (zBB c a b n)) (fun i s=>s.2=(i:Int)∧(∀x,x∈s.1↔x=n∨∃p∈(zBB c a b n).take i,x∈p.Provides)∧s.1.length≤1+4*i) (zBB c a b n).length
  (fun t=>(∀x,x∈t↔x=n∨∃p∈zBB c a b n,x∈p.Provides)∧t.length≤1+4*(zBB c a b n).length) (by
  rintro i ⟨l,j⟩ hi ⟨hj,h2,h3⟩
  simp only at hj h2 h3
  subst hj
  refine .inl ?_
  have hp4:=hpr _ (List.getElem_mem hi)
  unfold zAB
  rw [if_pos (by simp; omega),zI hi]
  simp only [Option.bind_some]
  rw [vT (by omega) (by omega),zP (by omega)]
  refine ⟨_,rfl,rfl,fun x=>?_,by simp; omega⟩
  rw [List.mem_append,h2,List.take_succ_eq_append_getElem hi]
  constructor
  ·rintro ((q|⟨p,q1,q2⟩)|q)
   ·exact .inl q
   ·exact .inr ⟨p,List.mem_append_left _ q1,q2⟩
   ·exact .inr ⟨_,List.mem_append_right _ (by simp),q⟩
  ·rintro (q|⟨p,q1,q2⟩)
   ·exact .inl (.inl q)
   ·rcases List.mem_append.1 q1 with q1|q1
    ·exact .inl (.inr ⟨p,q1,q2⟩)
    ·simp at q1; subst q1; exact .inr q2) (by
  rintro ⟨l,j⟩ ⟨hj,h2,h3⟩
  simp only at hj h2 h3
  subst hj
  rw [List.take_length] at h2
  unfold zAB
  rw [if_neg (by simp)]
  exact ⟨_,rfl,h2,h3⟩) (zBB c a b n).length 0 ([n],0) (by omega) ⟨rfl,by simp,by simp⟩
 obtain ⟨w,w1,w2,w3⟩:=zDF u (by omega)
 have hw:w=r:=zBq w2 r1 fun x=>by rw [w3,u1,r2]
 have hi:uO c a b n=some r:=by
  unfold uO zBt
  rw [(zGg h n).2]
  simp only [Option.bind_some]
  rw [f]
  simp only [Option.bind_some]
  rw [w1,hw]
  rfl
 have hd:nmL c a b n=r:=by unfold nmL; rw [hi]; rfl
 rw [hd]
 refine ⟨?_,hi,r2,by omega⟩
 unfold zCQ zD1
 rw [(zGg h n).1]
 simp only [Option.bind_some]
 rw [e]
 rfl
noncomputable def mnL (p:Pack):List ByteArray:=(xP p).getD []
theorem zKb {ls:List (List Term)} (hl:ls.length≤4) (h4:∀l∈ls,l.length≤4):xW ls=some ls.flatten∧ls.flatten.length≤16:=by
 have hfl:∀i,i≤ls.length→(ls.take i).flatten.length ≤4*i:=by
  intro i
  induction i with
  |zero=>simp
  |succ i ih=>
   intro hi
   have:=ih (by omega)
   rw [List.take_succ_eq_append_getElem (by omega),List.flatten_append,List.length_append]
   have:=h4 _ (List.getElem_mem (show i<ls.length by omega))
   have h0:([ls[i]]:List (List Term)).flatten.length =ls[i].length :=by simp
   rw [h0]
   omega
 have hf:=hfl ls.length (Nat.le_refl _)
 rw [List.take_length] at hf
 refine ⟨?_,by omega⟩
 obtain ⟨t,e,ht⟩:=wD (b:=wC ls) (fun i s=>s.2=(i:Int)∧s.1=((ls.take i).flatten.length :Int)) ls.length (fun t=>t=(ls.flatten.length:Int)) (by
  rintro i ⟨s,j⟩ hi ⟨hj,hs⟩
  simp only at hj hs
  subst hj hs
  have h1:=hfl i (by omega)
  have h2:=h4 _ (List.getElem_mem hi)
  refine .inl ?_
  unfold wC
  rw [if_pos (by simp; omega),zI hi]
  simp only [Option.bind_some]
  rw [uM (x:=((ls.take i).flatten.length :Int)+(ls[i].length :Int)) (by omega) (by omega),if_neg (by simp; omega),zP (by omega)]
  refine ⟨_,rfl,rfl,?_⟩
  rw [List.take_succ_eq_append_getElem hi,List.flatten_append,List.length_append]
  simp) (by
  rintro ⟨s,j⟩ ⟨hj,hs⟩
  simp only at hj hs
  subst hj hs
  rw [List.take_length]
  unfold wC
  rw [if_neg (by simp)]
  exact ⟨_,rfl,rfl⟩) ls.length 0 (0,0) (by omega) ⟨rfl,by simp⟩
 obtain ⟨u,f,hu⟩:=wD (b:=wF ls) (fun i s=>s.2=(i:Int)∧s.1=(ls.take i).flatten) ls.length (fun t=>t=ls.flatten) (by
  rintro i ⟨s,j⟩ hi ⟨hj,hs⟩
  simp only at hj hs
  subst hj hs
  have h1:=hfl i (by omega)
  have h2:=h4 _ (List.getElem_mem hi)
  refine .inl ?_
  unfold wF
  rw [if_pos (by simp; omega),zI hi]
  simp only [Option.bind_some]
  rw [vT (by omega) (by omega),zP (by omega)]
  refine ⟨_,rfl,rfl,?_⟩
  rw [List.take_succ_eq_append_getElem hi,List.flatten_append]
  simp) (by
  rintro ⟨s,j⟩ ⟨hj,hs⟩
  simp only at hj hs
  subst hj hs
  rw [List.take_length]
  unfold wF
  rw [if_neg (by simp)]
  exact ⟨_,rfl,rfl⟩) ls.length 0 (([]:List Term),0) (by omega) ⟨rfl,by simp⟩
 subst ht hu
 unfold xW wJ wI
 rw [e]
 simp only [Option.bind_some]
 rw [show uW (ls.flatten.length:Int)=some [] by unfold uW; rw [if_pos (by omega)]]
 simp only [Option.bind_some]
 rw [f]
 rfl
theorem zKt {p:Pack} (h1:p.Needs.length≤4) (h2:∀l∈p.Needs,l.length≤4) (h3:p.Bars.length≤4):
  zCu p=some (mnL p)∧xP p=some (mnL p)∧(∀x,x∈mnL p↔(∃l∈p.Needs,∃t∈l,t.Name=x)∨∃t∈p.Bars,t.Name=x)∧(mnL p).length ≤1048576:=by
 obtain ⟨r,e,r1,r2,r3⟩:=wD (b:=zA5 p) (fun i s=>s.2=(i:Int)∧s.1.Pairwise ltS∧(∀x,x∈s.1↔∃l∈p.Needs.take i,∃t∈l,t.Name=x)∧s.1.length≤4*i) p.Needs.length
  (fun t=>t.Pairwise ltS∧(∀x,x∈t↔∃l∈p.Needs,∃t∈l,t.Name=x)∧t.length≤4*p.Needs.length) (by
  rintro i ⟨l,j⟩ hi ⟨hj,g1,g2,g3⟩
  simp only at hj g1 g2 g3
  subst hj
  refine .inl ?_
  have hp4:=h2 _ (List.getElem_mem hi)
  obtain ⟨r,e1,e2,e3,e4⟩:=zFV p.Needs[i] (fun x:Term=>x.Name) (b:=zA1 p (l,(i:Int))) (by
   intro j hj l'
   unfold zA1
   simp only
   rw [zI hi]
   simp only [Option.bind_some]
   rw [if_pos (by simp; omega),zI hj]
   rfl) (by
   intro l'
   unfold zA1
   simp only
   rw [zI hi]
   simp only [Option.bind_some]
   rw [if_neg (by simp)]) l g1 (by omega)
  unfold zA5 zCU
  rw [if_pos (by simp; omega),e1,zP (by omega)]
  refine ⟨_,rfl,rfl,e2,fun x=>?_,by simp only; omega⟩
  rw [e3,g2,List.take_succ_eq_append_getElem hi]
  constructor
  ·rintro (⟨l,q1,q2⟩|⟨y,q1,q2⟩)
   ·exact ⟨l,List.mem_append_left _ q1,q2⟩
   ·exact ⟨_,List.mem_append_right _ (by simp),y,q1,q2⟩
  ·rintro ⟨l,q1,q2⟩
   rcases List.mem_append.1 q1 with q1|q1
   ·exact .inl ⟨l,q1,q2⟩
   ·simp at q1; subst q1; exact .inr q2) (by
  rintro ⟨l,j⟩ ⟨hj,g1,g2,g3⟩
  simp only at hj g1 g2 g3
  subst hj
  rw [List.take_length] at g2
  unfold zA5
  rw [if_neg (by simp)]
  exact ⟨_,rfl,g1,g2,g3⟩) p.Needs.length 0 (([]:List ByteArray),0) (by omega) ⟨rfl,by simp,by simp,by simp⟩
 obtain ⟨r',e',s1,s2,s3⟩:=zFV p.Bars (fun x:Term=>x.Name) (b:=zA6 p) (by
  intro j hj l'
  unfold zA6
  rw [if_pos (by simp; omega),zI hj]
  rfl) (by
  intro l'
  unfold zA6
  rw [if_neg (by simp)]) r r1 (by omega)
 obtain ⟨c1,c2⟩:=zKb h1 h2
 have hlen:(p.Needs.flatten++p.Bars).length ≤20:=by rw [List.length_append]; omega
 obtain ⟨u,f,u1,u2⟩:=wD (b:=vU (p.Needs.flatten++p.Bars)) (fun i s=>s.2=(i:Int)∧s.1=((p.Needs.flatten++p.Bars).take i).map (·.Name)) (p.Needs.flatten++p.Bars).length
  (fun t=>t=(p.Needs.flatten++p.Bars).map (·.Name)∧t.length≤20) (by
  rintro i ⟨l,j⟩ hi ⟨hj,g⟩
  simp only at hj g
  subst hj g
  refine .inl ?_
  have hil:i<20:=by omega
  unfold vU
  rw [if_pos (by simp at hi ⊢; omega),zI hi]
  simp only [Option.bind_some]
  have hle:(((p.Needs.flatten++p.Bars).take i).map (·.Name)).length ≤i:=by simp; omega
  rw [vT (by simp at hle ⊢; omega) (by simp at hle ⊢; omega),zP (by omega)]
  refine ⟨_,rfl,rfl,?_⟩
  rw [List.take_succ_eq_append_getElem hi,List.map_append]
  rfl) (by
  rintro ⟨l,j⟩ ⟨hj,g⟩
  simp only at hj g
  subst hj g
  rw [List.take_length]
  unfold vU
  rw [if_neg (by simp)]
  exact ⟨_,rfl,rfl,by rw [List.length_map]; exact hlen⟩) (p.Needs.flatten++p.Bars).length 0 (([]:List ByteArray),0) (by omega) ⟨rfl,by simp⟩
 obtain ⟨w,w1,w2,w3⟩:=zDF u (by omega)
 have hmem:∀x,x∈r'↔(∃l∈p.Needs,∃t∈l,t.Name=x)∨∃t∈p.Bars,t.Name=x:=fun x=>by rw [s2,r2]
 have hw:w=r':=zBq w2 s1 fun x=>by
  rw [w3,u1,hmem,List.mem_map]
  constructor
  ·rintro ⟨t,q1,q2⟩
   rcases List.mem_append.1 q1 with q1|q1
   ·obtain ⟨l,q3,q4⟩:=List.mem_flatten.1 q1
    exact .inl ⟨l,q3,t,q4,q2⟩
   ·exact .inr ⟨t,q1,q2⟩
  ·rintro (⟨l,q1,t,q2,q3⟩|⟨t,q1,q2⟩)
   ·exact ⟨t,List.mem_append_left _ (List.mem_flatten.2 ⟨l,q1,q2⟩),q3⟩
   ·exact ⟨t,List.mem_append_right _ q1,q2⟩
 have hi:xP p=some r':=by
  unfold xP uJ
  rw [c1]
  simp only [Option.bind_some]
  rw [vT (by omega) (by omega)]
  simp only [Option.bind_some]
  rw [f]
  simp only [Option.bind_some]
  rw [w1,hw]
  rfl
 have hd:mnL p=r':=by unfold mnL; rw [hi]; rfl
 rw [hd]
 refine ⟨?_,hi,hmem,by omega⟩
 unfold zCu zCW zCR
 rw [e]
 simp only [Option.bind_some]
 rw [e']
 rfl
theorem zDZ {α:Type} (xs:List α) (q:α→Bool) {b:Int→Option (Lp Int (Fl Bool Unit))}
  (hstep:∀(i:Nat) (hi:i<xs.length),b (i:Int)=some (if q xs[i] then .done (.ret true) else .go ((i+1:Nat):Int))) (hend:b (xs.length:Int)=some (.done (.nxt ()))):
  loop b 0=some (if xs.any q then .ret true else .nxt ()):=by
 have:=xE xs (fun _ x=>if q x then some true else none) (b:=b) (by intro i hi; rw [hstep i hi]; cases q xs[i]<;>rfl) hend
 rw [this,zDH]
 cases xs.any q<;>rfl
theorem zGo {α:Type} (xs:List α) (q:α→Bool) {b:Int→Option (Lp Int (Fl Int Unit))}
  (hstep:∀(i:Nat) (hi:i<xs.length),b (i:Int)=some (if q xs[i] then .done (.ret (i:Int)) else .go ((i+1:Nat):Int))) (hend:b (xs.length:Int)=some (.done (.nxt ()))):
  ((loop b 0).bind (Fl.go some fun _=>some (-1))).bind (fun x=>some (decide (x≥0)))=some (xs.any q):=by
 have:=xE xs (fun j x=>if q x then some (j:Int) else none) (b:=b) (by intro i hi; rw [hstep i hi]; cases q xs[i]<;>rfl) hend
 have h:=zEt (zCF q xs 0)
 rw [this,zBe,←h]
 cases xS (fun j x=>if q x then some (j:Int) else none) 0 xs<;>rfl
theorem zFM {m ns:List ByteArray} (hm:m.length≤1048576) (hn:ns.length≤1048576):
  zD5 m ns=some (m.any (inN ns))∧zQ m ns=some (m.any (inN ns)):=by
 constructor
 ·have k:=zDZ m (inN ns) (b:=zBY m ns) (by
   intro i hi
   unfold zBY
   rw [if_pos (by simp; omega),zI hi]
   simp only [Option.bind_some]
   rw [zC3 _ _ hn,zP (by omega)]
   simp only [Option.bind_some]
   have:(ns.any fun x=>seq x m[i])=inN ns m[i]:=rfl
   rw [this]
   cases inN ns m[i]<;>rfl) (by
   unfold zBY
   rw [if_neg (by simp)])
  unfold zD5 zD0
  rw [k]
  cases m.any (inN ns)<;>rfl
 ·exact zGo m (inN ns) (b:=zU m ns) (by
   intro i hi
   unfold zU wQ
   rw [if_pos (by simp; omega),zI hi]
   simp only [Option.bind_some]
   rw [zCr _ _ hn,zP (by omega)]
   simp only [Option.bind_some]
   have:(ns.any fun x=>seq x m[i])=inN ns m[i]:=rfl
   rw [this]
   cases inN ns m[i]<;>rfl) (by
   unfold zU
   rw [if_neg (by simp)])
noncomputable def zIv (c:List Pack) (a b:List Int) (n:ByteArray) (ns:List ByteArray):Bool:=(zBB c a b n).any fun p=>(mnL p).any (inN ns)
theorem zEf {c:List Pack} {a b:List Int} (h:Two c a b) (n:ByteArray) {ns:List ByteArray} (hn:ns.length≤1048576):
  zDj c a b n ns=some (zIv c a b n ns)∧xR n ns c a b=some (zIv c a b n ns):=by
 have hb:=zGz c a b n
 have hp:∀p∈zBB c a b n,zCu p=some (mnL p)∧xP p=some (mnL p)∧(mnL p).length ≤1048576:=fun p hp=>by
  obtain ⟨k,_,_,rfl⟩:=zGN hp
  obtain ⟨q1,q2,_,q3⟩:=zKt (h.sml.needs k) (h.sml.clause k) (h.sml.bars k)
  exact ⟨q1,q2,q3⟩
 constructor
 ·have k:=zDZ (zBB c a b n) (fun p=>(mnL p).any (inN ns)) (b:=zCp ns (zBB c a b n)) (by
   intro i hi
   obtain ⟨q1,q2,q3⟩:=hp _ (List.getElem_mem hi)
   unfold zCp
   rw [if_pos (by simp; omega),zI hi]
   simp only [Option.bind_some]
   rw [q1]
   simp only [Option.bind_some]
   rw [(zFM q3 hn).1,zP (by omega)]
   simp only [Option.bind_some]
   cases (mnL (zBB c a b n)[i]).any (inN ns)<;>rfl) (by
   unfold zCp
   rw [if_neg (by simp)])
  unfold zDj zDW
  rw [(zGg h n).1]
  simp only [Option.bind_some]
  rw [k]
  unfold zIv
  cases (zBB c a b n).any (fun p=>(mnL p).any (inN ns))<;>rfl
 ·have k:=zGo (zBB c a b n) (fun p=>(mnL p).any (inN ns)) (b:=zT (zBB c a b n) ns) (by
   intro i hi
   obtain ⟨q1,q2,q3⟩:=hp _ (List.getElem_mem hi)
   unfold zT vR
   rw [if_pos (by simp; omega),zI hi]
   simp only [Option.bind_some]
   rw [q2]
   simp only [Option.bind_some]
   rw [(zFM q3 hn).2,zP (by omega)]
   simp only [Option.bind_some]
   cases (mnL (zBB c a b n)[i]).any (inN ns)<;>rfl) (by
   unfold zT
   rw [if_neg (by simp)])
  unfold xR
  rw [(zGg h n).2]
  simp only [Option.bind_some]
  have e:zO (zBB c a b n) ns=some (zIv c a b n ns):=k
  rw [e]
  rfl
def clB (ns:List ByteArray) (l:List Term):Bool:=l.any fun t=>inN ns t.Name
theorem zDr {ns:List ByteArray} {l:List Term} (hn:ns.length≤1048576) (hl:l.length≤1048576):zCC l ns=some (clB ns l)∧xQ ns l=some (clB ns l):=by
 constructor
 ·have k:=zDZ l (fun t=>inN ns t.Name) (b:=zBA l ns) (by
   intro i hi
   unfold zBA
   rw [if_pos (by simp; omega),zI hi]
   simp only [Option.bind_some]
   rw [zC3 _ _ hn,zP (by omega)]
   simp only [Option.bind_some]
   have:(ns.any fun x=>seq x l[i].Name)=inN ns l[i].Name :=rfl
   rw [this]
   cases inN ns l[i].Name <;>rfl) (by
   unfold zBA
   rw [if_neg (by simp)])
  unfold zCC zDv
  rw [k]
  unfold clB
  cases l.any (fun t=>inN ns t.Name)<;>rfl
 ·have k:=zGo l (fun t=>inN ns t.Name) (b:=zX l ns) (by
   intro i hi
   unfold zX vP
   rw [if_pos (by simp; omega),zI hi]
   simp only [Option.bind_some]
   rw [zCr _ _ hn,zP (by omega)]
   simp only [Option.bind_some]
   have:(ns.any fun x=>seq x l[i].Name)=inN ns l[i].Name :=rfl
   rw [this]
   cases inN ns l[i].Name <;>rfl) (by
   unfold zX
   rw [if_neg (by simp)])
  unfold xQ
  have e:zR l ns=some (clB ns l):=k
  rw [e]
  rfl
def zHp (c:List Pack) (a:List Int) (n1 n2:List ByteArray):Bool:=a.any fun k=>(pat c k).Needs.any fun l=>clB n1 l&&clB n2 l
theorem zHF {c:List Pack} {a:List Int} (hs:Sml c) (hp:Places c a) (ha:a.length≤1048576) {n1 n2:List ByteArray} (h1:n1.length≤1048576) (h2:n2.length≤1048576):zCw c a n1 n2=some (zHp c a n1 n2):=by
 have k:=zDZ a (fun k=>(pat c k).Needs.any fun l=>clB n1 l&&clB n2 l) (b:=zA7 c a n1 n2) (by
  intro i hi
  have hk:=hp _ (List.getElem_mem hi)
  have hN:=hs.needs a[i]
  have k2:=zDZ (pat c a[i]).Needs (fun l=>clB n1 l&&clB n2 l) (b:=zA0 c a n1 n2 (i:Int) (pat c a[i])) (by
   intro j hj
   have hcl:=hs.clause a[i] _ (List.getElem_mem hj)
   unfold zA0
   rw [if_pos (by simp; omega),zI hj]
   simp only [Option.bind_some]
   rw [(zDr h1 (by omega)).1,(zDr h2 (by omega)).1,zP (by omega)]
   simp only [Option.bind_some]
   cases clB n1 (pat c a[i]).Needs[j]<;>cases clB n2 (pat c a[i]).Needs[j]<;>rfl) (by
   unfold zA0
   rw [if_neg (by simp)])
  unfold zA7 zCX
  rw [if_pos (by simp; omega),zI hi]
  simp only [Option.bind_some]
  rw [(uQ hk).1]
  simp only [Option.bind_some]
  rw [k2,zP (by omega)]
  cases (pat c a[i]).Needs.any (fun l=>clB n1 l&&clB n2 l)<;>rfl) (by
  unfold zA7
  rw [if_neg (by simp)])
 unfold zCw zCS
 rw [k]
 unfold zHp
 cases a.any (fun k=>(pat c k).Needs.any fun l=>clB n1 l&&clB n2 l)<;>rfl
theorem zJK {c:List Pack} {a:List Int} (hs:Sml c) (hp:Places c a) (ha:a.length≤1048576) {n1 n2:List ByteArray} (h1:n1.length≤1048576) (h2:n2.length≤1048576):loop (vQ c n1 n2 a) 0=some (if zHp c a n1 n2 then .ret true else .nxt ()):=by
 exact zDZ a (fun k=>(pat c k).Needs.any fun l=>clB n1 l&&clB n2 l) (b:=vQ c n1 n2 a) (by
  intro i hi
  have hk:=hp _ (List.getElem_mem hi)
  have hN:=hs.needs a[i]
  have k2:=zDZ (pat c a[i]).Needs (fun l=>clB n1 l&&clB n2 l) (b:=tJ c n1 n2 a (i:Int) (pat c a[i])) (by
   intro j hj
   have hcl:=hs.clause a[i] _ (List.getElem_mem hj)
   unfold tJ
   rw [if_pos (by simp; omega),zI hj]
   simp only [Option.bind_some]
   rw [(zDr h1 (by omega)).2,(zDr h2 (by omega)).2,zP (by omega)]
   simp only [Option.bind_some]
   cases clB n1 (pat c a[i]).Needs[j]<;>cases clB n2 (pat c a[i]).Needs[j]<;>rfl) (by
   unfold tJ
   rw [if_neg (by simp)])
  unfold vQ jS
  rw [if_pos (by simp; omega),zI hi]
  simp only [Option.bind_some]
  rw [(uQ hk).1]
  simp only [Option.bind_some]
  rw [k2,zP (by omega)]
  cases (pat c a[i]).Needs.any (fun l=>clB n1 l&&clB n2 l)<;>rfl) (by
  unfold vQ
  rw [if_neg (by simp)])
noncomputable def jB (c:List Pack) (a b:List Int) (x y:ByteArray):Bool:=
 zIv c a b x (nmL c a b y)||(zIv c a b y (nmL c a b x)||(zHp c a (nmL c a b x) (nmL c a b y)||zHp c b (nmL c a b x) (nmL c a b y)))
theorem zEa {c:List Pack} {a b:List Int} (h:Two c a b) (x y:ByteArray):kF c a b x y=some (jB c a b x y)∧yV c a b x y=some (jB c a b x y):=by
 obtain ⟨x1,x2,_,x3⟩:=zIF h x
 obtain ⟨y1,y2,_,y3⟩:=zIF h y
 have la:=h.la
 have lb:=h.lb
 constructor
 ·unfold kF jB
  rw [x1,y1]
  simp only [Option.bind_some]
  rw [(zEf h x y3).1,(zEf h y x3).1,zHF h.sml h.pa (by omega) x3 y3,zHF h.sml h.pb (by omega) x3 y3]
  simp only [Option.bind_some]
  cases zIv c a b x (nmL c a b y)<;>cases zIv c a b y (nmL c a b x)<;>cases zHp c a (nmL c a b x) (nmL c a b y)<;>rfl
 ·unfold yV jB jO
  rw [x2,y2]
  simp only [Option.bind_some]
  rw [(zEf h x y3).2,(zEf h y x3).2,zIA (by omega) (by omega)]
  simp only [Option.bind_some]
  rw [zJK h.sml (a:=a++b) (fun k hk=>by
   rcases List.mem_append.1 hk with q|q
   ·exact h.pa _ q
   ·exact h.pb _ q) (by simp; omega) x3 y3]
  have e:zHp c (a++b) (nmL c a b x) (nmL c a b y)=(zHp c a (nmL c a b x) (nmL c a b y)||zHp c b (nmL c a b x) (nmL c a b y)):=by
   unfold zHp; rw [List.any_append]
  rw [e]
  cases zIv c a b x (nmL c a b y)<;>cases zIv c a b y (nmL c a b x)<;>cases zHp c a (nmL c a b x) (nmL c a b y)<;>cases zHp c b (nmL c a b x) (nmL c a b y)<;>rfl
inductive Rch (K:ByteArray→ByteArray→Bool) (L:List ByteArray) (h:ByteArray):ByteArray→Prop where
 |base:Rch K L h h
 |step {x y:ByteArray}:Rch K L h x→y∈L→K x y=true→Rch K L h y
noncomputable def zCM (K:ByteArray→ByteArray→Bool) (L:List ByteArray):List ByteArray:=L.filter fun y=> @decide (Rch K L (L.headD ByteArray.empty) y) (Classical.propDecidable _)
noncomputable def zDf (K:ByteArray→ByteArray→Bool) (L:List ByteArray):List ByteArray:=L.filter fun y=> !(@decide (Rch K L (L.headD ByteArray.empty) y) (Classical.propDecidable _))
theorem Rch.mem {K:ByteArray→ByteArray→Bool} {L:List ByteArray} {h x:ByteArray} (hh:h∈L) (r:Rch K L h x):x∈L:=by
 cases r with
 |base=>exact hh
 |step _ h2 _=>exact h2
theorem zEk {K:ByteArray→ByteArray→Bool} {L:List ByteArray} {h:ByteArray} {t:List ByteArray} (e:L=h::t) {x:ByteArray}:x∈zCM K L↔Rch K L h x:=by
 unfold zCM
 rw [List.mem_filter]
 have:L.headD ByteArray.empty=h:=by rw [e]; rfl
 rw [this]
 simp only [decide_eq_true_eq]
 exact ⟨fun h=>h.2,fun r=>⟨r.mem (by rw [e]; simp),r⟩⟩
theorem zFz {K:ByteArray→ByteArray→Bool} {L:List ByteArray} {h:ByteArray} {t:List ByteArray} (e:L=h::t) {x:ByteArray}:x∈zDf K L↔x∈L∧¬Rch K L h x:=by
 unfold zDf
 rw [List.mem_filter]
 have:L.headD ByteArray.empty=h:=by rw [e]; rfl
 rw [this]
 simp
theorem zGf {K:ByteArray→ByteArray→Bool} {L:List ByteArray} {h:ByteArray} {t:List ByteArray} (e:L=h::t):(zDf K L).length <L.length:=by
 have hne:zDf K L≠L:=fun he=>by
  have:h∈zDf K L:=by rw [he,e]; simp
  exact ((zFz e).1 this).2 .base
 have hs:(zDf K L).Sublist L:=List.filter_sublist
 rcases Nat.lt_or_ge (zDf K L).length L.length with q|q
 ·exact q
 ·exact absurd (hs.eq_of_length (Nat.le_antisymm hs.length_le q)) hne
theorem zIR {P L:List ByteArray} (hP:P.Pairwise ltS) (hL:L.Pairwise ltS) (h:∀x∈P,x∈L):P.length≤L.length:=by
 have e:P=L.filter (inN P):=zBq hP (hL.filter _) fun x=>by
  rw [List.mem_filter,zE2]
  exact ⟨fun hx=>⟨h x hx,hx⟩,fun hx=>hx.2⟩
 rw [e]
 exact List.length_filter_le _ _
theorem zHN {K:ByteArray→ByteArray→Bool} {c:List Pack} {a b:List Int} (hJ:∀x y,kF c a b x y=some (K x y)) {L P:List ByteArray} {out:List (List ByteArray)} {s3:List ByteArray×Bool×Int} {i:Nat} (hi:i<L.length) (hs3:s3.2.2=(i:Int)) (hP:P.Pairwise ltS) (hl:P.length≤1000) (g:Bool):
  ∃t,loop (zBZ c a b (L,out) s3) (P,g,0)=some t∧t.1.Pairwise ltS∧((t=(P,g)∧(L[i]∈P∨∀x∈P,K x L[i]=false))∨(L[i]∉P∧(∃x∈P,K x L[i]=true)∧t.2=true∧(∀z,z∈t.1↔z∈P∨z=L[i])∧t.1.length=P.length+1)):=by
 let Q:List ByteArray×Bool→Prop:=fun t=>t.1.Pairwise ltS∧((t=(P,g)∧(L[i]∈P∨∀x∈P,K x L[i]=false))∨(L[i]∉P∧(∃x∈P,K x L[i]=true)∧t.2=true∧(∀z,z∈t.1↔z∈P∨z=L[i])∧t.1.length=P.length+1))
 refine wD (b:=zBZ c a b (L,out) s3)
  (fun k s=>s.2.2=(k:Int)∧k≤P.length+1∧((s.1=P∧s.2.1=g∧k≤P.length∧(∀(j:Nat) (hj:j<P.length),j<k→K P[j] L[i]=false))∨(s.1.Pairwise ltS∧L[i]∉P∧(∃x∈P,K x L[i]=true)∧s.2.1=true∧(∀z,z∈s.1↔z∈P∨z=L[i])∧s.1.length=P.length+1))) (P.length+2) Q (by
  rintro k ⟨p,g',k'⟩ hk ⟨hk',hle,hcase⟩
  simp only at hk' hcase
  subst hk'
  have hix:idx L s3.2.2=some L[i]:=by rw [hs3]; exact zI hi
  unfold zBZ
  simp only
  rcases hcase with ⟨rfl,rfl,hkp,hno⟩|⟨h1,h2,h3,h4,h5,h6⟩
  ·by_cases hkl:k<p.length
   ·rw [if_pos (by simp; omega),hix]
    simp only [Option.bind_some]
    rw [zC3 _ _ (by omega)]
    have hq:(p.any fun x=>seq x L[i])=inN p L[i]:=rfl
    rw [hq]
    simp only [Option.bind_some]
    cases hin:inN p L[i]
    ·simp only [Bool.not_false,if_true]
     have hnin:L[i]∉p:=fun h=>by rw [zE2.2 h] at hin; cases hin
     rw [zI hkl]
     simp only [Option.bind_some]
     rw [hJ]
     simp only [Option.bind_some]
     cases hj:K p[k] L[i]
     ·simp only [Bool.false_eq_true,if_false,Option.bind_some]
      rw [zP (by omega)]
      refine .inl ⟨_,rfl,rfl,by omega,.inl ⟨rfl,rfl,by omega,fun j hj' hjk=>?_⟩⟩
      rcases Nat.lt_succ_iff_lt_or_eq.1 hjk with q|q
      ·exact hno j hj' q
      ·subst q; exact hj
     ·simp only [if_true]
      obtain ⟨r,e1,e2,e3,e4⟩:=zFd p L[i] hP (by omega)
      rw [e1]
      simp only [Option.bind_some]
      rw [zP (by omega)]
      refine .inl ⟨_,rfl,rfl,by omega,.inr ⟨e2,hnin,⟨_,List.getElem_mem hkl,hj⟩,rfl,e3,?_⟩⟩
      have hnd:∀{l:List ByteArray},l.Pairwise ltS→l.Nodup:=fun h=>h.imp fun h=>zGF h
      have:r.Perm (L[i]::p):=(List.perm_ext_iff_of_nodup (hnd e2) (List.nodup_cons.2 ⟨hnin,hnd hP⟩)).2 fun z=>by
       rw [e3,List.mem_cons]; exact Or.comm
      rw [this.length_eq]
      rfl
    ·simp only [Bool.not_true,Bool.false_eq_true,if_false]
     exact .inr ⟨_,rfl,hP,.inl ⟨rfl,.inl (zE2.1 hin)⟩⟩
   ·rw [if_neg (by simp; omega)]
    simp only [Option.bind_some,Bool.false_eq_true,if_false]
    refine .inr ⟨_,rfl,hP,.inl ⟨rfl,.inr fun x hx=>?_⟩⟩
    obtain ⟨j,hj,rfl⟩:=List.getElem_of_mem hx
    exact hno j hj (by omega)
  ·refine .inr ⟨(p,g'),?_,h1,.inr ⟨h2,h3,h4,h5,h6⟩⟩
   by_cases hkl:k<p.length
   ·rw [if_pos (by simp; omega),hix]
    simp only [Option.bind_some]
    rw [zC3 _ _ (by omega)]
    have hq:(p.any fun x=>seq x L[i])=true:=by
     show inN p L[i]=true
     exact zE2.2 ((h5 _).2 (.inr rfl))
    rw [hq]
    simp
   ·rw [if_neg (by simp; omega)]
    simp) (by
  rintro ⟨p,g',k'⟩ ⟨hk',hle,_⟩
  omega) (P.length+2) 0 (P,g,0) (by omega) ⟨rfl,by omega,.inl ⟨rfl,rfl,by omega,fun j hj h=>by omega⟩⟩
theorem zIo {K:ByteArray→ByteArray→Bool} {c:List Pack} {a b:List Int} (hJ:∀x y,kF c a b x y=some (K x y)) {L P:List ByteArray} {h:ByteArray} {out:List (List ByteArray)} (hL:L.Pairwise ltS) (hl:L.length≤500) (hP:P.Pairwise ltS) (hsub:∀x∈P,Rch K L h x) (hh:h∈L):
  ∃t,loop (zAP c a b (L,out)) (P,false,0)=some t∧t.1.Pairwise ltS∧(∀x∈P,x∈t.1)∧(∀x∈t.1,Rch K L h x)∧(t.2=true→P.length<t.1.length)∧(t.2=false→t.1=P∧∀y∈L,y∈P∨∀x∈P,K x y=false):=by
 refine wD (b:=zAP c a b (L,out))
  (fun i s=>s.2.2=(i:Int)∧s.1.Pairwise ltS∧(∀x∈P,x∈s.1)∧(∀x∈s.1,Rch K L h x)∧(s.2.1=true→P.length<s.1.length)∧P.length≤s.1.length∧(s.2.1=false→s.1=P∧∀y∈L.take i,y∈P∨∀x∈P,K x y=false)) L.length _ (by
  rintro i ⟨p,g,k⟩ hi ⟨hk,h1,h2,h3,h4,h5,h6⟩
  simp only at hk h1 h2 h3 h4 h5 h6
  subst hk
  refine .inl ?_
  have hpl:=zIR h1 hL (fun x hx=>(h3 x hx).mem hh)
  obtain ⟨⟨p',g'⟩,e,q1,q2⟩:=zHN hJ (out:=out) (s3:=(p,g,(i:Int))) hi rfl h1 (by omega) g
  unfold zAP zDB
  rw [if_pos (by simp; omega)]
  simp only
  rw [e,zP (by omega)]
  refine ⟨_,rfl,rfl,q1,?_⟩
  simp only at q1 q2 ⊢
  rcases q2 with ⟨q3,q4⟩|⟨q3,⟨x0,q4,q5⟩,q6,q7,q8⟩
  ·cases q3
   refine ⟨h2,h3,h4,h5,fun hg=>?_⟩
   obtain ⟨rfl,h8⟩:=h6 hg
   refine ⟨rfl,fun y hy=>?_⟩
   rw [List.take_succ_eq_append_getElem hi] at hy
   rcases List.mem_append.1 hy with hy|hy
   ·exact h8 y hy
   ·simp at hy; subst hy; exact q4
  ·refine ⟨fun x hx=>(q7 x).2 (.inl (h2 x hx)),fun x hx=>?_,fun _=>by omega,by omega,fun hg=>?_⟩
   ·rcases (q7 x).1 hx with hx|rfl
    ·exact h3 x hx
    ·exact .step (h3 _ q4) (List.getElem_mem hi) q5
   ·rw [q6] at hg; cases hg) (by
  rintro ⟨p,g,k⟩ ⟨hk,h1,h2,h3,h4,h5,h6⟩
  simp only at hk h1 h2 h3 h4 h5 h6
  subst hk
  rw [List.take_length] at h6
  unfold zAP
  rw [if_neg (by simp)]
  exact ⟨_,rfl,h1,h2,h3,h4,h6⟩) L.length 0 (P,false,0) (by omega) ⟨rfl,hP,fun x hx=>hx,hsub,by simp,Nat.le_refl _,fun _=>⟨rfl,by simp⟩⟩
theorem zJh {K:ByteArray→ByteArray→Bool} {c:List Pack} {a b:List Int} (hJ:∀x y,kF c a b x y=some (K x y)) {L:List ByteArray} {h:ByteArray} {t:List ByteArray} {out:List (List ByteArray)} (e0:L=h::t) (hL:L.Pairwise ltS) (hl:L.length≤500):zCO c a b (L,out) ([h],true)=some (zCM K L):=by
 have hh:h∈L:=by rw [e0]; simp
 obtain ⟨r,e,h1,h2,h3,h4⟩:=zEZ (b:=zCA c a b (L,out)) (fun s=>s.1.Pairwise ltS∧h∈s.1∧(∀x∈s.1,Rch K L h x)∧(s.2=false→∀y∈L,y∈s.1∨∀x∈s.1,K x y=false))
  (fun s=>(L.length-s.1.length)*2+(if s.2 then 1 else 0)) (fun t=>t.Pairwise ltS∧h∈t∧(∀x∈t,Rch K L h x)∧∀y∈L,y∈t∨∀x∈t,K x y=false) (by
  rintro ⟨p,g⟩ ⟨g1,g2,g3,g4⟩
  simp only at g1 g2 g3 g4
  unfold zCA
  simp only
  cases g
  ·rw [if_neg (by simp)]
   exact .inr ⟨_,rfl,g1,g2,g3,g4 rfl⟩
  ·rw [if_pos rfl]
   obtain ⟨⟨p',g'⟩,e,q1,q2,q3,q4,q5⟩:=zIo hJ (out:=out) hL hl g1 g3 hh
   simp only at q1 q2 q3 q4 q5
   unfold zD6
   rw [e]
   have hpl:=zIR q1 hL (fun x hx=>(q3 x hx).mem hh)
   refine .inl ⟨_,rfl,⟨q1,q2 _ g2,q3,fun hg=>?_⟩,?_⟩
   ·obtain ⟨rfl,q6⟩:=q5 hg
    exact q6
   ·simp only
    cases g'
    ·obtain ⟨rfl,_⟩:=q5 rfl
     simp
    ·have:=q4 rfl
     simp
     omega) _ ([h],true) (Nat.le_refl _) ⟨by simp,by simp,fun x hx=>by simp at hx; subst hx; exact .base,by simp⟩
 unfold zCO
 rw [e]
 congr 1
 refine zBq h1 (hL.filter _) fun x=>?_
 show x∈r↔x∈zCM K L
 rw [zEk e0]
 refine ⟨h3 x,fun hr=>?_⟩
 induction hr with
 |base=>exact h2
 |step _ hy hj ih=>
  rcases h4 _ hy with q|q
  ·exact q
  ·rw [q _ ih] at hj; cases hj
theorem zI0 {K:ByteArray→ByteArray→Bool} {c:List Pack} {a b:List Int} {L:List ByteArray} {h:ByteArray} {t:List ByteArray} {out:List (List ByteArray)} (e0:L=h::t) (hl:L.length≤500):zCN c a b (L,out) (zCM K L) (([]:List ByteArray),0)=some (zDf K L):=by
 have hpl:(zCM K L).length ≤L.length:=List.length_filter_le _ _
 obtain ⟨r,e,rfl⟩:=wD (b:=zBV c a b (L,out) (zCM K L)) (fun i s=>s.2=(i:Int)∧s.1=(L.take i).filter (fun y=> !(inN (zCM K L) y))) L.length (fun t=>t=L.filter (fun y=> !(inN (zCM K L) y))) (by
  rintro i ⟨l,k⟩ hi ⟨hk,hl'⟩
  simp only at hk hl'
  subst hk hl'
  refine .inl ?_
  have hlen:((L.take i).filter (fun y=> !(inN (zCM K L) y))).length ≤i:=by
   have:=List.length_filter_le (fun y=> !(inN (zCM K L) y)) (L.take i)
   simp at this ⊢
   omega
  unfold zBV
  simp only
  rw [if_pos (by simp; omega),zI hi]
  simp only [Option.bind_some]
  rw [zC3 _ _ (by omega),zP (by omega),vT (by simp at hlen ⊢; omega) (by simp at hlen ⊢; omega)]
  have hq:((zCM K L).any fun x=>seq x L[i])=inN (zCM K L) L[i]:=rfl
  rw [hq]
  simp only [Option.bind_some]
  refine ⟨((L.take (i+1)).filter (fun y=> !(inN (zCM K L) y)),((i+1:Nat):Int)),?_,rfl,rfl⟩
  rw [List.take_succ_eq_append_getElem hi,List.filter_append,List.filter_cons,List.filter_nil]
  cases inN (zCM K L) L[i]<;>simp) (by
  rintro ⟨l,k⟩ ⟨hk,hl'⟩
  simp only at hk hl'
  subst hk hl'
  rw [List.take_length]
  unfold zBV
  rw [if_neg (by simp)]
  exact ⟨_,rfl,rfl⟩) L.length 0 (([]:List ByteArray),0) (by omega) ⟨rfl,by simp⟩
 unfold zCN
 rw [e]
 congr 1
 unfold zDf
 refine List.filter_congr fun y hy=>?_
 have hd:L.headD ByteArray.empty=h:=by rw [e0]; rfl
 rw [hd]
 congr 1
 rw [Bool.eq_iff_iff,zE2,zEk e0]
 exact (@decide_eq_true_iff _ (Classical.propDecidable _)).symm
theorem zDC {K:ByteArray→ByteArray→Bool} {c:List Pack} {a b:List Int} (hJ:∀x y,kF c a b x y=some (K x y)) {L:List ByteArray} {out:List (List ByteArray)} (hL:L.Pairwise ltS) (hl:L.length≤500) (ho:out.length≤500):zBW c a b (L,out)=some (if L=[] then .done out else .go (zDf K L,out++[zCM K L])):=by
 cases L with
 |nil=>
  unfold zBW
  rw [if_neg (by simp),if_pos rfl]
 |cons h t=>
  unfold zBW
  rw [if_pos (by simp),if_neg (by simp)]
  simp only
  rw [show idx (h::t) 0=some h from rfl]
  simp only [Option.bind_some]
  rw [zJh hJ rfl hL hl]
  simp only [Option.bind_some]
  rw [zI0 rfl hl]
  simp only [Option.bind_some]
  rw [vT (by simp; omega) (by simp; omega)]
  rfl
noncomputable def zAN (K:ByteArray→ByteArray→Bool):Nat→List ByteArray→List (List ByteArray)
 |0,_=>[]
 |n+1,L=>if L=[] then [] else zCM K L::zAN K n (zDf K L)
theorem zCV {K:ByteArray→ByteArray→Bool} {L:List ByteArray} (h:L.Pairwise ltS):(zDf K L).Pairwise ltS:=h.filter _
theorem zED {K:ByteArray→ByteArray→Bool} {L:List ByteArray} (h:L.Pairwise ltS):(zCM K L).Pairwise ltS:=h.filter _
theorem zD7 {K:ByteArray→ByteArray→Bool} {c:List Pack} {a b:List Int} (hJ:∀x y,kF c a b x y=some (K x y)):∀(n:Nat) (L:List ByteArray) (out:List (List ByteArray)),L.Pairwise ltS→L.length≤n→L.length+out.length≤500→zBj c a b (L,out)=some (out++zAN K n L)
 |0,L,out,h1,h2,h3=>by
  have:L=[]:=List.length_eq_zero_iff.1 (by omega)
  subst this
  unfold zBj
  rw [xY,zDC hJ h1 (by simp) (by omega)]
  simp [zAN,Lp.elim]
 |n+1,L,out,h1,h2,h3=>by
  unfold zBj
  rw [xY,zDC hJ h1 (by omega) (by omega)]
  cases L with
  |nil=>simp [zAN,Lp.elim]
  |cons h t=>
   have hlt:=zGf (K:=K) (L:=h::t) rfl
   have ih:=zD7 hJ n (zDf K (h::t)) (out++[zCM K (h::t)]) (zCV h1) (by omega) (by simp at h3 hlt ⊢; omega)
   rw [if_neg (by simp)]
   simp only [Option.bind_some,Lp.elim]
   unfold zBj at ih
   rw [ih]
   simp [zAN]
theorem zDK {α:Type} (q:α→Bool):∀l:List α,(l.filter q).length +(l.filter fun x=> !(q x)).length =l.length
 |[]=>rfl
 |x::l=>by
  have:=zDK q l
  cases h:q x<;>simp [h]<;>omega
theorem ranged {K:ByteArray→ByteArray→Bool} {c:List Pack} {a b:List Int} (hK:∀x y,yV c a b x y=some (K x y)) {s1:List (List ByteArray)×List ByteArray} {left part:List ByteArray} {i:Nat} (hi:i<part.length) (hl:left.length+part.length≤500):
  zAd c a b s1 (left,part,(i:Int)) (part,([]:List ByteArray),0)=some (part++left.filter (K part[i]),left.filter fun y=> !(K part[i] y)):=by
 obtain ⟨t,e,rfl⟩:=wD (b:=zAO c a b s1 (left,part,(i:Int))) (fun k s=>s=(part++(left.take k).filter (K part[i]),(left.take k).filter (fun y=> !(K part[i] y)),(k:Int))) left.length
  (fun t=>t=(part++left.filter (K part[i]),left.filter fun y=> !(K part[i] y))) (by
  rintro k s hk rfl
  have hf:=zDK (K part[i]) (left.take k)
  have htk:(left.take k).length ≤k:=by simp; omega
  refine .inl ⟨(part++(left.take (k+1)).filter (K part[i]),(left.take (k+1)).filter (fun y=> !(K part[i] y)),((k+1:Nat):Int)),?_,rfl⟩
  unfold zAO
  simp only
  rw [if_pos (by simp; omega),zI hk]
  simp only [Option.bind_some]
  have hix:idx (part++(left.take k).filter (K part[i])) (i:Int)=some part[i]:=by
   rw [zI (by simp; omega),List.getElem_append_left hi]
  rw [hix]
  simp only [Option.bind_some]
  rw [hK,zP (by omega),vT (by simp at hf htk ⊢; omega) (by simp at hf htk ⊢; omega),vT (by simp at hf htk ⊢; omega) (by simp at hf htk ⊢; omega)]
  simp only [Option.bind_some]
  rw [List.take_succ_eq_append_getElem hk,List.filter_append,List.filter_append]
  cases hj:K part[i] left[k]<;>simp [hj]) (by
  rintro s rfl
  rw [List.take_length]
  unfold zAO
  rw [if_neg (by simp)]
  exact ⟨_,rfl,rfl⟩) left.length 0 (part,([]:List ByteArray),0) (by omega) (by simp)
 unfold zAd
 exact e
theorem zKz {K:ByteArray→ByteArray→Bool} {c:List Pack} {a b:List Int} (hK:∀x y,yV c a b x y=some (K x y)) {out:List (List ByteArray)} {h:ByteArray} {t:List ByteArray} (hl:t.length≤500):
  zAe c a b (out,h::t) t ([h],([]:List ByteArray),0)=some (h::t.filter (K h),t.filter fun y=> !(K h y)):=by
 obtain ⟨r,e,rfl⟩:=wD (b:=zAI c a b (out,h::t) t) (fun k s=>s=(h::(t.take k).filter (K h),(t.take k).filter (fun y=> !(K h y)),(k:Int))) t.length
  (fun r=>r=(h::t.filter (K h),t.filter fun y=> !(K h y))) (by
  rintro k s hk rfl
  have hf:=zDK (K h) (t.take k)
  have htk:(t.take k).length ≤k:=by simp; omega
  refine .inl ⟨(h::(t.take (k+1)).filter (K h),(t.take (k+1)).filter (fun y=> !(K h y)),((k+1:Nat):Int)),?_,rfl⟩
  unfold zAI
  simp only
  have ho:zH4 (h::t) 1 t.length (k:Int)=some t[k]:=by
   unfold zH4
   rw [if_pos (by omega),show (1:Int)+(k:Int)=((k+1:Nat):Int) by omega,zI (by simp; omega)]
   simp
  rw [if_pos (by simp; omega),ho]
  simp only [Option.bind_some]
  rw [show idx (h::(t.take k).filter (K h)) 0=some h from rfl]
  simp only [Option.bind_some]
  rw [hK,zP (by omega),vT (by simp at hf htk ⊢; omega) (by simp at hf htk ⊢; omega),vT (by simp at hf htk ⊢; omega) (by simp at hf htk ⊢; omega)]
  simp only [Option.bind_some]
  rw [List.take_succ_eq_append_getElem hk,List.filter_append,List.filter_append]
  cases hj:K h t[k]<;>simp [hj]) (by
  rintro s rfl
  rw [List.take_length]
  unfold zAI
  rw [if_neg (by simp)]
  exact ⟨_,rfl,rfl⟩) t.length 0 ([h],([]:List ByteArray),0) (by omega) (by simp)
 unfold zAe
 exact e
theorem zIX {K:ByteArray→ByteArray→Bool} {c:List Pack} {a b:List Int} (hK:∀x y,yV c a b x y=some (K x y)) {s1:List (List ByteArray)×List ByteArray} {L:List ByteArray} {h:ByteArray} {t:List ByteArray} (e0:L=h::t) (hL:L.Pairwise ltS) (hl:L.length≤250):
  ∃r,zAn c a b s1 (t.filter (fun y=> !(K h y)),h::t.filter (K h),((1:Nat):Int))=some (zDf K L,r)∧wO r=some (zCM K L):=by
 have nd:∀{l:List ByteArray},l.Pairwise ltS→l.Nodup:=fun h=>h.imp fun h=>zGF h
 have hLn:=nd hL
 have hLn':=hLn
 rw [e0,List.nodup_cons] at hLn'
 obtain ⟨⟨l,r⟩,e,q1,q2,q3⟩:=zEZ (b:=zBU c a b s1)
  (fun s=>∃n:Nat,s.2.2=(n:Int)∧n≤s.2.1.length∧s.2.1.Nodup∧(∀x∈s.2.1,Rch K L h x)∧h∈s.2.1∧s.1.Sublist L∧(∀x,x∈L↔x∈s.2.1∨x∈s.1)∧(∀x∈s.2.1,x∉s.1)∧s.2.1.length+s.1.length=L.length∧∀(j:Nat) (hj:j<s.2.1.length),j<n→∀y∈s.1,K s.2.1[j] y=false)
  (fun s=>L.length+1-s.2.2.toNat) (fun t=>t.1=zDf K L∧(∀x,x∈t.2↔Rch K L h x)∧t.2.length≤L.length) (by
  rintro ⟨left,part,i⟩ ⟨n,hi,h1,h2,h3,h4,h5,h6,h7,h8,h9⟩
  simp only at hi h1 h2 h3 h4 h5 h6 h7 h8 h9
  subst hi
  unfold zBU
  simp only
  by_cases hn:n<part.length
  ·rw [if_pos (by simp; omega),ranged hK hn (by omega),zP (by omega)]
   simp only [Option.bind_some]
   have hf:=zDK (K part[n]) left
   refine .inl ⟨_,rfl,⟨n+1,rfl,by simp; omega,?_,?_,List.mem_append_left _ h4,(List.filter_sublist).trans h5,?_,?_,by simp at hf ⊢; omega,?_⟩,by simp; omega⟩
   ·refine List.nodup_append.2 ⟨h2,((h5.nodup hLn).filter _),fun x hx y hy e=>?_⟩
    subst e
    exact h7 x hx (List.mem_filter.1 hy).1
   ·intro x hx
    rcases List.mem_append.1 hx with hx|hx
    ·exact h3 x hx
    ·obtain ⟨q1,q2⟩:=List.mem_filter.1 hx
     exact .step (h3 _ (List.getElem_mem hn)) ((h6 x).2 (.inr q1)) q2
   ·intro x
    rw [h6,List.mem_append,List.mem_filter,List.mem_filter]
    cases hq:K part[n] x<;>simp
   ·intro x hx
    simp only [List.mem_filter,not_and]
    rcases List.mem_append.1 hx with hx|hx
    ·exact fun h=>absurd h (h7 x hx)
    ·intro _
     rw [(List.mem_filter.1 hx).2]
     simp
   ·intro j hj hjn y hy
    obtain ⟨q1,q2⟩:=List.mem_filter.1 hy
    rcases Nat.lt_succ_iff_lt_or_eq.1 hjn with q|q
    ·rw [List.getElem_append_left (by omega)]
     exact h9 j (by omega) q y q1
    ·subst q
     rw [List.getElem_append_left hn]
     simpa using q2
  ·rw [if_neg (by simp; omega)]
   refine .inr ⟨_,rfl,?_,?_,by simp only; omega⟩
   ·have hmem:∀x,x∈part↔Rch K L h x:=by
     intro x
     refine ⟨h3 x,fun hr=>?_⟩
     induction hr with
     |base=>exact h4
     |step _ hy hj ih=>
      rcases (h6 _).1 hy with q|q
      ·exact q
      ·obtain ⟨j,hjl,rfl⟩:=List.getElem_of_mem ih
       rw [h9 j hjl (by omega) _ q] at hj
       cases hj
    refine zBq (hL.sublist h5) (zCV hL) fun x=>?_
    rw [zFz e0,←hmem,h6]
    constructor
    ·exact fun q=>⟨.inr q,fun q2=>h7 x q2 q⟩
    ·rintro ⟨q|q,q2⟩
     ·exact absurd q q2
     ·exact q
   ·intro x
    refine ⟨h3 x,fun hr=>?_⟩
    induction hr with
    |base=>exact h4
    |step _ hy hj ih=>
     rcases (h6 _).1 hy with q|q
     ·exact q
     ·obtain ⟨j,hjl,rfl⟩:=List.getElem_of_mem ih
      have hjl':j<part.length:=hjl
      rw [h9 j hjl' (by omega) _ q] at hj
      cases hj) _ (t.filter (fun y=> !(K h y)),h::t.filter (K h),((1:Nat):Int)) (Nat.le_refl _) (by
  have hf:=zDK (K h) t
  refine ⟨1,rfl,by simp,?_,?_,by simp,?_,?_,?_,by rw [e0]; simp at hf ⊢; omega,?_⟩
  ·exact List.nodup_cons.2 ⟨fun hx=>hLn'.1 (List.mem_filter.1 hx).1,hLn'.2.filter _⟩
  ·intro x hx
   rcases List.mem_cons.1 hx with rfl|hx
   ·exact .base
   ·obtain ⟨q1,q2⟩:=List.mem_filter.1 hx
    exact .step .base (by rw [e0]; simp [q1]) q2
  ·rw [e0]
   exact (List.filter_sublist).cons _
  ·intro x
   rw [e0,List.mem_cons,List.mem_cons,List.mem_filter,List.mem_filter]
   cases hq:K h x<;>simp
  ·intro x hx
   simp only [List.mem_filter,not_and]
   rcases List.mem_cons.1 hx with rfl|hx
   ·exact fun h=>absurd h hLn'.1
   ·intro _
    rw [(List.mem_filter.1 hx).2]
    simp
  ·intro j hj hj1 y hy
   have:j=0:=by omega
   subst this
   have:=(List.mem_filter.1 hy).2
   simpa using this)
 simp only at q1 q2 q3
 subst q1
 refine ⟨r,by unfold zAn; exact e,?_⟩
 obtain ⟨w,w1,w2,w3⟩:=zDF r (by omega)
 rw [w1]
 congr 1
 exact zBq w2 (zED hL) fun x=>by rw [w3,q2,zEk e0]
theorem zD2 {K:ByteArray→ByteArray→Bool} {c:List Pack} {a b:List Int} (hK:∀x y,yV c a b x y=some (K x y)) {L:List ByteArray} {out:List (List ByteArray)} (hL:L.Pairwise ltS) (hl:L.length≤250) (ho:out.length≤500):
  zAC c a b (out,L)=some (if L=[] then .done out else .go (out++[zCM K L],zDf K L)):=by
 cases L with
 |nil=>
  unfold zAC
  rw [if_neg (by simp),if_pos rfl]
 |cons h t=>
  have e1:zDJ (h::t) 0 1=some [h]:=by
   have:=zCZ (xs:=h::t) (l:=0) (h:=1) (by omega) (by simp)
   simpa using this
  have e2:zDJ (h::t) 1 ((h::t).length :Int)=some t:=by
   have:=zCZ (xs:=h::t) (l:=1) (h:=(h::t).length) (by simp) (Nat.le_refl _)
   simpa using this
  unfold zAC
  rw [if_pos (by simp),if_neg (by simp)]
  simp only
  rw [e1]
  simp only [Option.bind_some]
  rw [e2]
  simp only [Option.bind_some]
  rw [if_pos (by simp),zKz hK (by simp at hl; omega)]
  simp only [Option.bind_some]
  rw [show w64 (0+1)=((1:Nat):Int) by rw [uM (by omega) (by omega)]; rfl]
  obtain ⟨r,f1,f2⟩:=zIX hK (s1:=(out,h::t)) (L:=h::t) rfl hL hl
  rw [f1]
  simp only [Option.bind_some]
  rw [f2]
  simp only [Option.bind_some]
  rw [vT (by simp; omega) (by simp; omega)]
  rfl
theorem zDy {K:ByteArray→ByteArray→Bool} {c:List Pack} {a b:List Int} (hK:∀x y,yV c a b x y=some (K x y)):∀(n:Nat) (L:List ByteArray) (out:List (List ByteArray)),L.Pairwise ltS→L.length≤n→L.length+out.length≤250→uG c a b (out,L)=some (out++zAN K n L)
 |0,L,out,h1,h2,h3=>by
  have:L=[]:=List.length_eq_zero_iff.1 (by omega)
  subst this
  unfold uG
  rw [xY,zD2 hK h1 (by simp) (by omega)]
  simp [zAN,Lp.elim]
 |n+1,L,out,h1,h2,h3=>by
  unfold uG
  rw [xY,zD2 hK h1 (by omega) (by omega)]
  cases L with
  |nil=>simp [zAN,Lp.elim]
  |cons h t=>
   have hlt:=zGf (K:=K) (L:=h::t) rfl
   have ih:=zDy hK n (zDf K (h::t)) (out++[zCM K (h::t)]) (zCV h1) (by omega) (by simp at h3 hlt ⊢; omega)
   rw [if_neg (by simp)]
   simp only [Option.bind_some,Lp.elim]
   unfold uG at ih
   rw [ih]
   simp [zAN]
noncomputable def chL (c:List Pack) (a b:List Int):List ByteArray:=(wX c a b).getD []
noncomputable def zEw (c:List Pack) (a b:List Int):List (List ByteArray):=zAN (jB c a b) 24 (chL c a b)
theorem zES {c:List Pack} {a b:List Int} (h:Two c a b):uE c a b=some (chL c a b)∧wX c a b=some (chL c a b)∧(chL c a b).Pairwise ltS∧(∀n,n∈chL c a b↔zBL c a n≠zBL c b n)∧(chL c a b).length ≤24:=by
 obtain ⟨l,e1,e2,h1,h2,h3⟩:=zGA h
 have:chL c a b=l:=by unfold chL; rw [e2]; rfl
 rw [this]
 exact ⟨e1,e2,h1,h2,h3⟩
theorem zHT {c:List Pack} {a b:List Int} (h:Two c a b):zEC c a b=some (zEw c a b)∧zBz c a b=some (zEw c a b):=by
 obtain ⟨e1,e2,h1,_,h3⟩:=zES h
 constructor
 ·unfold zEC
  rw [e1]
  simp only [Option.bind_some]
  rw [zD7 (fun x y=>(zEa h x y).1) 24 _ _ h1 h3 (by simp; omega)]
  rfl
 ·unfold zBz
  rw [e2]
  simp only [Option.bind_some]
  rw [zDy (fun x y=>(zEa h x y).2) 24 _ _ h1 h3 (by simp; omega)]
  rfl
theorem zG6 (K:ByteArray→ByteArray→Bool):∀(n:Nat) (L:List ByteArray),(zAN K n L).length ≤n∧∀P∈zAN K n L,P.length≤L.length
 |0,L=>by simp [zAN]
 |n+1,L=>by
  unfold zAN
  split
  ·simp
  ·obtain ⟨h1,h2⟩:=zG6 K n (zDf K L)
   refine ⟨by simp; omega,fun P hP=>?_⟩
   rcases List.mem_cons.1 hP with rfl|hP
   ·exact List.length_filter_le _ _
   ·exact Nat.le_trans (h2 P hP) (List.length_filter_le _ _)
theorem zEG {K:ByteArray→ByteArray→Bool}:∀(n:Nat) {L:List ByteArray},L.Pairwise ltS→∀P∈zAN K n L,P.Pairwise ltS
 |0,L,_=>by simp [zAN]
 |n+1,L,h=>by
  unfold zAN
  split
  ·simp
  ·intro P hP
   rcases List.mem_cons.1 hP with rfl|hP
   ·exact zED h
   ·exact zEG n (zCV h) P hP
theorem zIO {c:List Pack} {a b:List Int} (h:Two c a b):(zEw c a b).length ≤24∧(∀P∈zEw c a b,P.length≤24)∧∀P∈zEw c a b,P.Pairwise ltS:=by
 obtain ⟨_,_,h1,_,h2⟩:=zES h
 obtain ⟨q1,q2⟩:=zG6 (jB c a b) 24 (chL c a b)
 exact ⟨q1,fun P hP=>Nat.le_trans (q2 P hP) h2,zEG 24 h1⟩
theorem zFn {K:ByteArray→ByteArray→Bool}:∀(n:Nat) {L:List ByteArray},∀P∈zAN K n L,∀x∈P,x∈L
 |0,L=>by simp [zAN]
 |n+1,L=>by
  unfold zAN
  split
  ·simp
  ·intro P hP x hx
   rcases List.mem_cons.1 hP with rfl|hP
   ·exact (List.mem_filter.1 hx).1
   ·exact (List.mem_filter.1 (zFn n P hP x hx)).1
theorem zGO (c:List Pack) (s:List Int) (n1 n2:List ByteArray):zHp c s n1 n2=zHp c s n2 n1:=by
 unfold zHp
 congr 1
 funext k
 congr 1
 funext l
 exact Bool.and_comm _ _
theorem zKr (c:List Pack) (a b:List Int) (x y:ByteArray):jB c a b x y=jB c a b y x:=by
 unfold jB
 rw [zGO c a,zGO c b]
 cases zIv c a b x (nmL c a b y)<;>cases zIv c a b y (nmL c a b x)<;>rfl
theorem zFD {K:ByteArray→ByteArray→Bool}:∀(n:Nat) {L:List ByteArray},(zAN K n L).Pairwise (fun P Q=>∀x∈P,∀y∈Q,K x y=false∧x≠y)
 |0,L=>by simp [zAN]
 |n+1,L=>by
  unfold zAN
  split
  ·simp
  ·rename_i he
   refine List.pairwise_cons.2 ⟨fun Q hQ x hx y hy=>?_,zFD n⟩
   cases L with
   |nil=>exact absurd rfl he
   |cons h t=>
    have hyr:=zFn n Q hQ y hy
    obtain ⟨q1,q2⟩:=(zFz rfl).1 hyr
    have hr:=(zEk rfl).1 hx
    refine ⟨?_,fun e=>q2 (e▸hr)⟩
    cases hk:K x y with
    |false=>rfl
    |true=>exact absurd (.step hr q1 hk) q2
theorem zFZ {K:ByteArray→ByteArray→Bool} (L:List ByteArray):(zCM K L).length +(zDf K L).length =L.length:=zDK _ L
theorem zGw {K:ByteArray→ByteArray→Bool}:∀(n:Nat) {L:List ByteArray},L.length≤n→((zAN K n L).map List.length).sum =L.length
 |0,L,h=>by
  have:L=[]:=List.length_eq_zero_iff.1 (by omega)
  subst this
  rfl
 |n+1,L,h=>by
  unfold zAN
  split
  ·rename_i he; subst he; rfl
  ·rename_i he
   cases L with
   |nil=>exact absurd rfl he
   |cons x t=>
    have hlt:=zGf (K:=K) (L:=x::t) rfl
    have ih:=zGw (K:=K) n (L:=zDf K (x::t)) (by omega)
    have:=zFZ (K:=K) (x::t)
    simp only [List.map_cons,List.sum_cons,ih]
    exact this
inductive Chn (c:List Pack) (b:List Int) (Q:List Int→List ByteArray→Prop):List Int→List (List ByteArray)→List (List Int)→List Int→Prop where
 |nil {a:List Int}:Chn c b Q a [] [] a
 |cons {a e:List Int} {B:List ByteArray} {bs:List (List ByteArray)} {ss:List (List Int)}:Q a B→Chn c b Q (mvL c a b B) bs ss e→Chn c b Q a (B::bs) (mvL c a b B::ss) e
theorem Chn.length {c:List Pack} {b:List Int} {Q:List Int→List ByteArray→Prop} {a e:List Int} {bs:List (List ByteArray)} {ss:List (List Int)} (h:Chn c b Q a bs ss e):bs.length=ss.length:=by
 induction h with
 |nil=>rfl
 |cons _ _ ih=>simp [ih]
def zIq:ByteArray:=bs [114,111,111,116]
structure DPk (k:Nat) (p:Pack):Prop where
 name:p.Name.size≤20
 noRoot:p.Name≠zIq
 zK9:p.Provides.length≤k∧∀n∈p.Provides,n.size≤20
 needs:p.Needs.length≤k∧∀l∈p.Needs,l.length≤8∧∀t∈l,t.Name.size≤20
 bars:p.Bars.length≤k∧∀t∈p.Bars,t.Name.size≤20
theorem DPk.mono {p:Pack} (h:DPk 4 p):DPk 8 p:=by
 obtain ⟨h1,h0,h2,h3,h4⟩:=h
 exact ⟨h1,h0,⟨by omega,h2.2⟩,⟨by omega,h3.2⟩,⟨by omega,h4.2⟩⟩
theorem DPk.sm {p:Pack} (h:DPk 8 p):Pack.sm 1048576 p:=by
 obtain ⟨h1,_,h2,h3,h4⟩:=h
 refine ⟨by omega,⟨trivial,trivial,trivial⟩,trivial,⟨by omega,fun n hn=>?_⟩,⟨by omega,fun l hl=>⟨?_,fun t ht=>⟨?_,⟨trivial,trivial,trivial⟩,⟨trivial,trivial,trivial⟩⟩⟩⟩,⟨by omega,fun t ht=>⟨?_,⟨trivial,trivial,trivial⟩,⟨trivial,trivial,trivial⟩⟩⟩⟩
 ·have:=h2.2 n hn; omega
 ·have:=(h3.2 l hl).1; omega
 ·have:=(h3.2 l hl).2 t ht; omega
 ·have:=h4.2 t ht; omega
theorem zFf {b:Nat} {s:zC} (h:Sr b s) (hb:b≤1000000000):∃p s',xM s=some (p,s')∧p.size≤20∧p≠zIq∧Sr (b+1) s':=by
 obtain ⟨r,s',x,e1,e2,hx,h'⟩:=at_next h hb (l:=[bs [97],bs [98],bs [99],bs [100],bs [108,105,98],bs [119,101,98]]) (n:=6) rfl (by simp)
 have key:x.size≤20∧x≠zIq:=by
  simp only [List.mem_cons,List.not_mem_nil,or_false] at hx
  rcases hx with rfl|rfl|rfl|rfl|rfl|rfl<;>exact ⟨by decide,by decide⟩
 refine ⟨x,s',?_,key.1,key.2,h'⟩
 unfold xM
 rw [e1]
 simp only [Option.bind_some,e2]
theorem zFm {b:Nat} {s:zC} (h:Sr b s) (hb:b+10≤1000000000):∃p s',xL s=some (p,s')∧p.size≤20∧p≠zIq∧Sr (b+2) s':=by
 obtain ⟨q,s1,e,h1⟩:=tF h (by omega) 14
 unfold xL
 rw [e]
 simp only [Option.bind_some]
 cases q
 ·obtain ⟨p,s2,e2,h2,h3,h4⟩:=zFf h1 (by omega)
  rw [e2]
  exact ⟨p,s2,rfl,h2,h3,h4⟩
 ·obtain ⟨r,s',x,e1,e2,hx,h'⟩:=at_next h1 (by omega) (l:=[bs [],bs [49,97],bs [65],bs [97,98,99,100,101,102,103,104,105,106,107,108,109],bs [97,98,99,100,101,102,103,104,105,106,107,108],bs [97,32,98],bs [97,45],bs [95,97],bs [97,95,49]]) (n:=9) rfl (by simp)
  rw [e1]
  simp only [Option.bind_some,e2,if_true]
  have key:x.size≤20∧x≠zIq:=by
   simp only [List.mem_cons,List.not_mem_nil,or_false] at hx
   rcases hx with rfl|rfl|rfl|rfl|rfl|rfl|rfl|rfl|rfl<;>exact ⟨by decide,by decide⟩
  exact ⟨x,s',rfl,key.1,key.2,h'⟩
theorem zG1 {b:Nat} (x2:ByteArray×zC) (x4 x6:Int×zC) (v15:List Int×Int×List ByteArray) {s:zC} (h:Sr b s) (hb:b+200≤1000000000) (n:Int) (hn:0≤n∧n≤4):
  ∃l s',zBN x2 x4 x6 v15 (s.Code,s.At,([]:List (List Term)),n)=some (s'.Code,s'.At,l)∧l.length≤4∧(∀c∈l,c.length≤8∧∀t∈c,t.Name.size≤20)∧Sr (b+20*n.toNat) s':=by
 obtain ⟨t,e2,l,s2,rfl,hl,hz,h2⟩:=wD (b:=zB7 x2 x4 x6 v15) (fun i q=>∃(l:List (List Term)) (s':zC),q=(s'.Code,s'.At,l,n-(i:Int))∧l.length=i∧(∀c∈l,c.length≤8∧∀t∈c,t.Name.size≤20)∧Sr (b+20*i) s') n.toNat
  (fun t=>∃(l:List (List Term)) (s':zC),t=(s'.Code,s'.At,l)∧l.length=n.toNat∧(∀c∈l,c.length≤8∧∀t∈c,t.Name.size≤20)∧Sr (b+20*n.toNat) s') (by
  rintro i q hi ⟨l,s',rfl,hl,hz,hs⟩
  unfold zB7
  simp only
  rw [if_pos (by simp; omega)]
  obtain ⟨t,u,f1,ht,g1⟩:=zEg hs (by omega)
  have f1':wK {Code:=s'.Code,At:=s'.At}=some (t,u):=f1
  obtain ⟨q,u2,f2,g2⟩:=tF g1 (by omega) 3
  rw [f1']
  simp only [Option.bind_some,f2]
  obtain ⟨c,u3,f3,hc,hne,g3⟩:∃(c:List Term) (u3:zC),(if q=true then (wK u2).bind fun x67=>(app 64 [t] [x67.1]).bind fun x69=>some (x67.2.Code,x67.2.At,x69) else some (u2.Code,u2.At,[t]))=some (u3.Code,u3.At,c)∧(c.length≤8∧∀t∈c,t.Name.size≤20)∧0<c.length∧Sr (b+20*i+19) u3:=by
   cases q
   ·exact ⟨[t],u2,rfl,⟨by simp,by simpa using ht⟩,by simp,g2.mono (by omega)⟩
   ·obtain ⟨t2,u3,f3,ht2,g3⟩:=zEg g2 (by omega)
    rw [if_pos rfl,f3]
    simp only [Option.bind_some]
    rw [vT (by simp) (by simp)]
    exact ⟨[t,t2],u3,rfl,⟨by simp,by simp [ht,ht2]⟩,by simp,g3.mono (by omega)⟩
  rw [f3]
  simp only [Option.bind_some]
  obtain ⟨q2,u4,f4,g4⟩:=tF (s:= {Code:=u3.Code,At:=u3.At}) g3 (by omega) 8
  rw [f4]
  simp only [Option.bind_some]
  obtain ⟨c2,f5,hc2⟩:∃c2:List Term,(if q2=true then (vD (bs [109,97,105,108])).bind fun x75=>(idx c 0).bind fun x77=>some (c.set ((0:Int).toNat) x75) else some c)=some c2∧(c2.length≤8∧∀t∈c2,t.Name.size≤20):=by
   cases q2
   ·exact ⟨c,rfl,hc⟩
   ·rw [if_pos rfl,show (0:Int)=((0:Nat):Int) from rfl,zI hne]
    unfold vD jW
    refine ⟨_,rfl,by simpa using hc.1,fun t ht=>?_⟩
    rcases List.mem_or_eq_of_mem_set ht with ht|ht
    ·exact hc.2 t ht
    ·subst ht
     show (bs [109,97,105,108]).size ≤20
     decide
  rw [f5]
  simp only [Option.bind_some]
  rw [vT (by simp; omega) (by simp; omega),uM (x:=n-(i:Int)-1) (by omega) (by omega)]
  refine .inl ⟨_,rfl,_,u4,by rw [show n-(i:Int)-1=n-((i+1:Nat):Int) by omega],by simp [hl],fun x hx=>?_,g4.mono (by omega)⟩
  rcases List.mem_append.1 hx with hx|hx
  ·exact hz x hx
  ·rw [List.mem_singleton.1 hx]; exact hc2) (by
  rintro q ⟨l,s',rfl,hl,hz,hs⟩
  unfold zB7
  simp only
  rw [if_neg (by simp; omega)]
  exact ⟨_,rfl,l,s',rfl,hl,hz,hs⟩) n.toNat 0 (s.Code,s.At,[],n) (by omega) ⟨[],s,by simp,rfl,by simp,h⟩
 exact ⟨l,s2,e2,by omega,hz,h2⟩
theorem zG0 {b:Nat} {s:zC} (h:Sr b s) (hb:b+300≤1000000000):∃p s',kT s=some (p,s')∧DPk 4 p∧Sr (b+100) s':=by
 obtain ⟨nm,s1,e1,hs1,hr1,h1⟩:=zFf h (by omega)
 obtain ⟨va,s2,e2,_,_,h2⟩:=jL h1 (by omega) 3
 obtain ⟨si,s3,e3,_,_,h3⟩:=jL h2 (by omega) 9
 obtain ⟨q,s4,e4,h4⟩:=tF h3 (by omega) 5
 obtain ⟨pr,s5,e5,hp,h5⟩:∃(pr:List ByteArray) (s5:zC),(if q=true then (zL s4 2).bind fun x11=>(idx [bs [109,97,105,108],bs [100,98]] x11.1).bind fun x13=>some (x11.2.Code,x11.2.At,[x13]) else some (s4.Code,s4.At,([]:List ByteArray)))=some (s5.Code,s5.At,pr)∧(pr.length≤1∧∀n∈pr,n.size≤20)∧Sr (b+5) s5:=by
  cases q
  ·exact ⟨[],s4,rfl,by simp,h4.mono (by omega)⟩
  ·obtain ⟨r,s',x,f1,f2,hx,h'⟩:=at_next h4 (by omega) (l:=[bs [109,97,105,108],bs [100,98]]) (n:=2) rfl (by simp)
   rw [if_pos rfl,f1]
   simp only [Option.bind_some,f2]
   refine ⟨[x],s',rfl,⟨by simp,fun n hn=>?_⟩,h'⟩
   rw [List.mem_singleton.1 hn]
   simp only [List.mem_cons,List.not_mem_nil,or_false] at hx
   rcases hx with rfl|rfl<;>decide
 obtain ⟨n,s6,e6,hn,h6⟩:=zCo (s:= {Code:=s5.Code,At:=s5.At}) h5 (by omega) [0,0,1,1,2] (by simp)
 have hn2:0≤n∧n≤4:=by
  simp only [List.mem_cons,List.not_mem_nil,or_false] at hn
  omega
 obtain ⟨l,s7,e7,hl,hz,h7⟩:=zG1 (nm,s1) (va,s2) (si,s3) (s5.Code,s5.At,pr) h6 (by omega) n hn2
 have h7:=h7.mono (b':=b+86) (by omega)
 obtain ⟨q2,s8,e8,h8⟩:=tF (s:= {Code:=s7.Code,At:=s7.At}) h7 (by omega) 6
 obtain ⟨br,s9,e9,hb9,h9⟩:∃(br:List Term) (s9:zC),(if q2=true then (wK s8).bind fun x86=>(app 64 ([]:List Term) [x86.1]).bind fun x88=>some (x86.2.Code,x86.2.At,x88) else some (s8.Code,s8.At,([]:List Term)))=some (s9.Code,s9.At,br)∧(br.length≤1∧∀t∈br,t.Name.size≤20)∧Sr (b+100) s9:=by
  cases q2
  ·exact ⟨[],s8,rfl,by simp,h8.mono (by omega)⟩
  ·obtain ⟨t,s',f1,ht,h'⟩:=zEg h8 (by omega)
   rw [if_pos rfl,f1]
   simp only [Option.bind_some]
   rw [vT (by simp) (by simp)]
   exact ⟨[t],s',rfl,⟨by simp,by simpa using ht⟩,h'.mono (by omega)⟩
 unfold kT
 rw [e1]
 simp only [Option.bind_some,e2,e3,e4,e5,e6,e7,e8,e9]
 exact ⟨_,s9,rfl,⟨hs1,hr1,⟨by simp only; omega,hp.2⟩,⟨by simp only; omega,hz⟩,⟨by simp only; omega,hb9.2⟩⟩,h9⟩
theorem zAc {α:Type} {z:Nat} {l m:List α} (hl:l.length≤100) (hm:m.length≤100) (hz:z≤1000):app z l m=some (l++m):=by
 refine vT ?_ (by omega)
 exact Nat.le_trans (Nat.mul_le_mul (show l.length+m.length≤200 by omega) hz) (by decide)
theorem zLe {α:Type} {z n:Nat} {x:α} (hz:z≤1000) (hn:n≤1000):mk z (n:Int) x=some (List.replicate n x):=by
 unfold mk
 have h:z*(n:Int).toNat ≤281474976710656:=by
  rw [Int.toNat_natCast]
  exact Nat.le_trans (Nat.mul_le_mul hz hn) (by decide)
 rw [if_pos ⟨by omega,h,by omega⟩]
 rfl
theorem zGn {b:Nat} {s:zC} (h:Sr b s) (hb:b+500≤1000000000):∃p s',jT s=some (p,s')∧DPk 8 p∧Sr (b+200) s':=by
 obtain ⟨p,s1,e1,hp,h1⟩:=zG0 h (by omega)
 obtain ⟨n,s2,e2,_,_,h2⟩:=jL h1 (by omega) 24
 have hp8:=hp.mono
 obtain ⟨hp1,hp2,hp3,hp4,hp5⟩:=hp
 obtain ⟨_,_,q3,q4,q5⟩:=hp8
 unfold jT
 rw [e1]
 simp only [Option.bind_some,e2]
 by_cases c0:(n==0)=true
 ·obtain ⟨y,s3,e3,hy,hy2,h3⟩:=zFm h2 (by omega)
  rw [if_pos c0,e3]
  exact ⟨_,_,rfl,⟨hy,hy2,q3,q4,q5⟩,h3.mono (by omega)⟩
 rw [if_neg c0]
 by_cases c1:(n==1)=true
 ·obtain ⟨y,s3,e3,h3⟩:=zC8 h2 (by omega)
  rw [if_pos c1,e3]
  exact ⟨_,_,rfl,⟨hp1,hp2,q3,q4,q5⟩,h3.mono (by omega)⟩
 rw [if_neg c1]
 by_cases c2:(n==2)=true
 ·obtain ⟨y,s3,e3,_,h3⟩:=zCo h2 (by omega) [0,200,201] (by simp)
  rw [if_pos c2,e3]
  exact ⟨_,_,rfl,⟨hp1,hp2,q3,q4,q5⟩,h3.mono (by omega)⟩
 rw [if_neg c2]
 by_cases c3:(n==3)=true
 ·obtain ⟨y,s3,e3,hy,hy2,h3⟩:=zFm h2 (by omega)
  rw [if_pos c3,e3]
  simp only [Option.bind_some]
  rw [zAc (by omega) (by simp) (by decide)]
  refine ⟨_,_,rfl,⟨hp1,hp2,⟨by simp; omega,fun x hx=>?_⟩,q4,q5⟩,h3.mono (by omega)⟩
  rcases List.mem_append.1 hx with hx|hx
  ·exact hp3.2 x hx
  ·simp only [List.mem_cons,List.not_mem_nil,or_false] at hx
   rcases hx with rfl|rfl
   ·exact hy
   ·exact hp1
 rw [if_neg c3]
 by_cases c4:(n==4)=true
 ·rw [if_pos c4,zAc (by omega) (by simp) (by decide)]
  refine ⟨_,_,rfl,⟨hp1,hp2,q3,⟨by simp; omega,fun x hx=>?_⟩,q5⟩,h2.mono (by omega)⟩
  rcases List.mem_append.1 hx with hx|hx
  ·exact hp4.2 x hx
  ·rw [List.mem_singleton.1 hx]
   simp
 rw [if_neg c4]
 by_cases c5:(n==5)=true
 ·obtain ⟨y,s3,e3,hy,h3⟩:=zDo h2 (by omega)
  obtain ⟨z,s4,e4,hz,h4⟩:=zDo h3 (by omega)
  rw [if_pos c5,e3]
  simp only [Option.bind_some,e4]
  rw [zAc (by omega) (by simp) (by decide)]
  refine ⟨_,_,rfl,⟨hp1,hp2,q3,⟨by simp; omega,fun x hx=>?_⟩,q5⟩,h4.mono (by omega)⟩
  rcases List.mem_append.1 hx with hx|hx
  ·exact hp4.2 x hx
  ·rw [List.mem_singleton.1 hx]
   simp [hy,hz]
 rw [if_neg c5]
 by_cases c6:(n==6)=true
 ·obtain ⟨y,s3,e3,hy,h3⟩:=zDo h2 (by omega)
  rw [if_pos c6,e3]
  simp only [Option.bind_some]
  rw [zAc (by omega) (by simp) (by decide)]
  refine ⟨_,_,rfl,⟨hp1,hp2,q3,q4,⟨by simp; omega,fun x hx=>?_⟩⟩,h3.mono (by omega)⟩
  rcases List.mem_append.1 hx with hx|hx
  ·exact hp5.2 x hx
  ·rw [List.mem_singleton.1 hx]
   exact hy
 rw [if_neg c6]
 have hmk:=zLe (z:=64) (n:=5) (x:=({Name:=ByteArray.empty,Low:= {A:=0,B:=0,C:=0},High:= {A:=0,B:=0,C:=0}}:Term)) (by decide) (by decide)
 have hmk:mk 64 5 ({Name:=ByteArray.empty,Low:= {A:=0,B:=0,C:=0},High:= {A:=0,B:=0,C:=0}}:Term)=_:=hmk
 have hem:(ByteArray.empty).size ≤20:=by decide
 by_cases c7:(n==7)=true
 ·rw [if_pos c7,hmk]
  refine ⟨_,_,rfl,⟨hp1,hp2,q3,q4,⟨by simp,fun x hx=>?_⟩⟩,h2.mono (by omega)⟩
  rw [(List.mem_replicate.1 hx).2]
  exact hem
 rw [if_neg c7]
 by_cases c8:(n==8)=true
 ·rw [if_pos c8,hmk]
  simp only [Option.bind_some]
  rw [zAc (by omega) (by simp) (by decide)]
  refine ⟨_,_,rfl,⟨hp1,hp2,q3,⟨by simp; omega,fun x hx=>?_⟩,q5⟩,h2.mono (by omega)⟩
  rcases List.mem_append.1 hx with hx|hx
  ·exact hp4.2 x hx
  ·rw [List.mem_singleton.1 hx]
   refine ⟨by simp,fun t ht=>?_⟩
   rw [(List.mem_replicate.1 ht).2]
   exact hem
 rw [if_neg c8]
 exact ⟨_,_,rfl,⟨hp1,hp2,q3,q4,q5⟩,h2.mono (by omega)⟩
def DCt (c:List Pack):Prop:=c.length≤25∧∀p∈c,DPk 8 p
theorem DCt.cat {c:List Pack} (h:DCt c):Cat c:=⟨by have:=h.1; omega,fun p hp=>(h.2 p hp).sm⟩
theorem zGa {b:Nat} {s:zC} (h:Sr b s) (hb:b+3000≤1000000000) (n:Int) (hn:0≤n∧n≤12):
  ∃l s',zAi (s.Code,s.At,([]:List Pack),n)=some (s'.Code,s'.At,l)∧l.length≤12∧(∀p∈l,DPk 8 p)∧Sr (b+1200) s':=by
 obtain ⟨t,e2,l,s2,rfl,hl,hz,h2⟩:=wD (b:=kN) (fun i q=>∃(l:List Pack) (s':zC),q=(s'.Code,s'.At,l,n-(i:Int))∧l.length≤i∧(∀p∈l,DPk 8 p)∧Sr (b+100*i) s') n.toNat
  (fun t=>∃(l:List Pack) (s':zC),t=(s'.Code,s'.At,l)∧l.length≤n.toNat∧(∀p∈l,DPk 8 p)∧Sr (b+100*n.toNat) s') (by
  rintro i q hi ⟨l,s',rfl,hl,hz,hs⟩
  unfold kN
  simp only
  rw [if_pos (by simp; omega)]
  obtain ⟨p,u,f1,hp,g1⟩:=zG0 hs (by omega)
  have f1':kT {Code:=s'.Code,At:=s'.At}=some (p,u):=f1
  rw [f1']
  simp only [Option.bind_some]
  rw [zFR l _ _ (by omega)]
  simp only [Option.bind_some]
  rw [uM (x:=n-(i:Int)-1) (by omega) (by omega)]
  by_cases hf:zId l p.Name p.Version<0
  ·rw [if_pos (by simpa using hf),zAc (by omega) (by simp) (by decide)]
   refine .inl ⟨_,rfl,l++[p],u,by rw [show n-(i:Int)-1=n-((i+1:Nat):Int) by omega],by simp; omega,fun x hx=>?_,g1.mono (by omega)⟩
   rcases List.mem_append.1 hx with hx|hx
   ·exact hz x hx
   ·rw [List.mem_singleton.1 hx]; exact hp.mono
  ·rw [if_neg (by simpa using hf)]
   exact .inl ⟨_,rfl,l,u,by rw [show n-(i:Int)-1=n-((i+1:Nat):Int) by omega],by omega,hz,g1.mono (by omega)⟩) (by
  rintro q ⟨l,s',rfl,hl,hz,hs⟩
  unfold kN
  simp only
  rw [if_neg (by simp; omega)]
  exact ⟨_,rfl,l,s',rfl,hl,hz,hs⟩) n.toNat 0 (s.Code,s.At,[],n) (by omega) ⟨[],s,by simp,by simp,by simp,h⟩
 exact ⟨l,s2,e2,by omega,hz,h2.mono (by omega)⟩
theorem zGR {b:Nat} {s:zC} (h:Sr b s) (hb:b+5000≤1000000000):∃c s',kU s=some (c,s')∧DCt c∧Sr (b+2000) s':=by
 obtain ⟨x,s1,e1,x0,x1,h1⟩:=jL h (by omega) 12
 obtain ⟨n,s2,e2,hn,h2⟩:=zCo h1 (by omega) [3,4,5,6,7,8,x] (by simp)
 have hn2:0≤n∧n≤12:=by
  have:=x1 (by omega)
  simp only [List.mem_cons,List.not_mem_nil,or_false] at hn
  omega
 obtain ⟨l,s3,e3,hl,hz,h3⟩:=zGa h2 (by omega) n hn2
 obtain ⟨k,s4,e4,_,_,h4⟩:=jL (s:= {Code:=s3.Code,At:=s3.At}) h3 (by omega) 40
 unfold kU
 rw [e1]
 simp only [Option.bind_some,e2,e3,e4]
 by_cases c0:(k==0)=true
 ·obtain ⟨p,s5,e5,hp,h5⟩:=zGn h4 (by omega)
  rw [if_pos c0,e5]
  simp only [Option.bind_some]
  rw [zAc (by omega) (by simp) (by decide)]
  refine ⟨l++[p],s5,rfl,⟨by simp; omega,fun y hy=>?_⟩,h5.mono (by omega)⟩
  rcases List.mem_append.1 hy with hy|hy
  ·exact hz y hy
  ·rw [List.mem_singleton.1 hy]; exact hp
 rw [if_neg c0]
 by_cases c1:(k==1)=true
 ·rw [if_pos c1]
  by_cases hp:((l.length:Int)>0)
  ·rw [if_pos (by simpa using hp),show (0:Int)=((0:Nat):Int) from rfl,zI (by omega)]
   simp only [Option.bind_some]
   rw [zAc (by omega) (by simp) (by decide)]
   refine ⟨l++[l[0]],s4,rfl,⟨by simp; omega,fun y hy=>?_⟩,h4.mono (by omega)⟩
   rcases List.mem_append.1 hy with hy|hy
   ·exact hz y hy
   ·rw [List.mem_singleton.1 hy]; exact hz _ (List.getElem_mem _)
  ·rw [if_neg (by simpa using hp)]
   exact ⟨l,s4,rfl,⟨by omega,hz⟩,h4.mono (by omega)⟩
 rw [if_neg c1]
 by_cases c2:(k==2)=true
 ·have hmk:=zLe (z:=120) (n:=25) (x:=({Name:=ByteArray.empty,Version:= {A:=0,B:=0,C:=0},Size:=0,Provides:=[],Needs:=[],Bars:=[]}:Pack)) (by decide) (by decide)
  have hmk:mk 120 25 ({Name:=ByteArray.empty,Version:= {A:=0,B:=0,C:=0},Size:=0,Provides:=[],Needs:=[],Bars:=[]}:Pack)=_:=hmk
  rw [if_pos c2,hmk]
  refine ⟨_,s4,rfl,⟨by simp,fun y hy=>?_⟩,h4.mono (by omega)⟩
  rw [(List.mem_replicate.1 hy).2]
  exact ⟨show (ByteArray.empty).size ≤20 by decide,show ByteArray.empty≠zIq by decide,by simp,by simp,by simp⟩
 rw [if_neg c2]
 exact ⟨l,s4,rfl,⟨by omega,hz⟩,h4.mono (by omega)⟩
theorem zIM (xs:List Int) (p:Int→Bool) {b:(List Int×Int)→Option (Lp (List Int×Int) (List Int))} (hstep:∀(i:Nat) (hi:i<xs.length) (acc:List Int),acc.length≤i→b (acc,(i:Int))=some (.go (if p xs[i] then acc++[xs[i]] else acc,((i+1:Nat):Int))))
  (hend:∀acc:List Int,b (acc,(xs.length:Int))=some (.done acc)):loop b (([]:List Int),0)=some (xs.filter p):=by
 obtain ⟨t,e,rfl⟩:=wD (b:=b) (fun i s=>s=((xs.take i).filter p,(i:Int))) xs.length (fun t=>t=xs.filter p) (by
  rintro i s hi rfl
  refine .inl ⟨_,hstep i hi _ (Nat.le_trans (List.length_filter_le _ _) (by simp; omega)),?_⟩
  rw [List.take_succ_eq_append_getElem hi,List.filter_append]
  cases h:p xs[i]<;>simp [h]) (by
  rintro s rfl
  rw [List.take_length]
  exact ⟨_,hend _,rfl⟩) xs.length 0 ([],0) (by omega) (by simp)
 exact e
theorem zEo {α β:Type} {f:Nat→List β→α→List β} {P:β→Prop}:∀(xs:List α) (i:Nat) (l:List β),(∀i l x,x∈xs→(∀y∈l,P y)→∀y∈f i l x,P y)→(∀y∈l,P y)→∀y∈foldI f i xs l,P y
 |[],_,_,_,h=>h
 |x::xs,i,l,hf,h=>zEo xs (i+1) (f i l x) (fun i l y hy=>hf i l y (by simp [hy])) (hf i l x (by simp) h)
theorem zGY (c:List Pack) (a:List Int):∀y∈zE7 c a,y.Pack∈a:=by
 unfold zE7
 refine zEo a 0 [] (fun i l k hk hl=>?_) (by simp)
 have key:∀(q:Bool) (l:List yM) (y:yM),y.Pack=k→(∀z∈l,z.Pack∈a)→∀z∈(if q then l++[y] else l),z.Pack∈a:=by
  intro q l y hy hl z hz
  cases q
  ·exact hl z hz
  ·rcases List.mem_append.1 hz with h|h
   ·exact hl z h
   ·rw [List.mem_singleton.1 h,hy]; exact hk
 unfold fS
 refine zEo _ 0 _ (fun i l x _ hl=>?_) (zEo _ 0 _ (fun i l x _ hl=>?_) ?_)
 ·unfold fB; exact key _ _ _ rfl hl
 ·unfold fN; exact key _ _ _ rfl hl
 ·unfold fD; exact key _ _ _ rfl hl
theorem zHD {c:List Pack} (hc:Cat c) (x19:Bool×zC):∀(n:Nat) (a:List Int),a.length≤n→n≤1000→Places c a→∃r,loop (zA8 c x19) a=some r∧r.Sublist a
 |n,a,hn,h1,hp=>by
  have e0:=zGZ hc hp (by omega)
  rw [xY]
  unfold zA8
  rw [e0]
  simp only [Option.bind_some]
  by_cases hl:0< (zE7 c a).length
  ·rw [if_pos (by simpa using hl),show (0:Int)=((0:Nat):Int) from rfl,zI hl]
   simp only [Option.bind_some]
   have hm:=zGY c a _ (List.getElem_mem hl)
   generalize (zE7 c a)[0]=f at hm
   have ef:uU c x19 a f (([]:List Int),((0:Nat):Int))=some (a.filter fun k=>k !=f.Pack):=by
    unfold uU
    refine zIM a (fun k=>k !=f.Pack) (fun i hi acc hacc=>?_) (fun acc=>?_)
    ·unfold zA2
     simp only
     rw [if_pos (by simp; omega),zI hi]
     simp only [Option.bind_some]
     rw [zP (by omega)]
     cases a[i] !=f.Pack
     ·rfl
     ·rw [if_pos rfl,vT (by simp; omega) (by simp; omega)]
      rfl
    ·unfold zA2
     simp only
     rw [if_neg (by simp)]
   rw [ef]
   simp only [Option.bind_some,Lp.elim]
   have hlt:(a.filter fun k=>k !=f.Pack).length <a.length:=by
    refine Nat.lt_of_le_of_ne (List.length_filter_le _ _) fun e=>?_
    have:=List.length_filter_eq_length_iff.1 e _ hm
    simp at this
   have hs:(a.filter fun k=>k !=f.Pack).Sublist a:=List.filter_sublist
   cases n with
   |zero=>omega
   |succ n=>
    obtain ⟨r,h2,h3⟩:=zHD hc x19 n (a.filter fun k=>k !=f.Pack) (by omega) (by omega) (fun k hk=>hp k (hs.subset hk))
    exact ⟨r,h2,h3.trans hs⟩
  ·rw [if_neg (by simpa using hl)]
   exact ⟨a,rfl,List.Sublist.refl _⟩
theorem zEF {b:Nat} {s:zC} (h:Sr b s) (hb:b+1000≤1000000000) {c:List Pack} (hc:Cat c) (hl:c.length≤25):∃a s',vM s c=some (a,s')∧a.length≤26∧Sr (b+100) s':=by
 obtain ⟨t,e1,l,s1,rfl,hl1,hp1,h1⟩:=wD (b:=jR c) (fun i q=>∃(l:List Int) (s':zC),q=(s'.Code,s'.At,l,(i:Int))∧l.length≤i∧Places c l∧Sr (b+i) s') c.length
  (fun t=>∃(l:List Int) (s':zC),t=(s'.Code,s'.At,l)∧l.length≤c.length∧Places c l∧Sr (b+c.length) s') (by
  rintro i q hi ⟨l,s',rfl,hl,hz,hs⟩
  unfold jR
  simp only
  rw [if_pos (by simp; omega)]
  obtain ⟨q,u,f1,g1⟩:=tF (s:= {Code:=s'.Code,At:=s'.At}) hs (by omega) 3
  rw [f1]
  simp only [Option.bind_some]
  rw [zP (by omega)]
  cases q
  ·exact .inl ⟨_,rfl,l,u,rfl,by omega,hz,g1⟩
  ·rw [if_pos rfl,zAc (by omega) (by simp) (by decide)]
   refine .inl ⟨_,rfl,l++[(i:Int)],u,rfl,by simp; omega,fun k hk=>?_,g1⟩
   rcases List.mem_append.1 hk with hk|hk
   ·exact hz k hk
   ·rw [List.mem_singleton.1 hk]; omega) (by
  rintro q ⟨l,s',rfl,hl,hz,hs⟩
  unfold jR
  simp only
  rw [if_neg (by simp)]
  exact ⟨_,rfl,l,s',rfl,hl,hz,hs⟩) c.length 0 (s.Code,s.At,[],0) (by omega) ⟨[],s,rfl,by simp,by intro k hk; simp at hk,h⟩
 have e1':kS c (s.Code,s.At,([]:List Int),0)=some (s1.Code,s1.At,l):=e1
 obtain ⟨q,s2,e2,h2⟩:=tF (s:= {Code:=s1.Code,At:=s1.At}) h1 (by omega) 2
 obtain ⟨a,e3,ha⟩:∃a:List Int,((if q=true then (yY c).bind fun x22=>some (x22==0) else some false).bind fun v24=>if v24=true then (uT c (q,s2) l).bind fun v81=>some v81 else some l)=some a∧a.length≤25:=by
  cases q
  ·exact ⟨l,rfl,by omega⟩
  ·rw [if_pos rfl,zC1 c hc]
   simp only [Option.bind_some]
   cases CF c==0
   ·exact ⟨l,rfl,by omega⟩
   ·rw [if_pos rfl]
    obtain ⟨r,e,hs⟩:=zHD hc (true,s2) 25 l (by omega) (by omega) hp1
    have e:uT c (true,s2) l=some r:=e
    rw [e]
    exact ⟨r,rfl,by have:=hs.length_le; omega⟩
 obtain ⟨q3,s3,e4,h3⟩:=tF h2 (by omega) 24
 unfold vM
 rw [e1']
 simp only [Option.bind_some,e2]
 rw [←Option.bind_assoc,e3]
 simp only [Option.bind_some,e4]
 cases q3
 ·exact ⟨a,s3,rfl,by omega,h3.mono (by omega)⟩
 ·obtain ⟨x,s4,e5,_,h4⟩:=zCo h3 (by omega) [(c.length:Int),(-1),0] (by simp)
  rw [if_pos rfl,e5]
  simp only [Option.bind_some]
  rw [zAc (by omega) (by simp) (by decide)]
  exact ⟨a++[x],s4,rfl,by simp; omega,h4.mono (by omega)⟩
theorem zJC {b:Nat} {s:zC} (h:Sr b s) (hb:b+1000≤1000000000) {c:List Pack} (hl:c.length≤25):∃l s',zCf s c=some (l,s')∧l.length≤3∧Sr (b+10) s':=by
 obtain ⟨n,s1,e1,n0,n1,h1⟩:=jL h (by omega) 3
 have hn:=n1 (by omega)
 have key:∀(k:Nat) (l:List Term) (s':zC) (i:Nat),i+k=(1+n).toNat →l.length≤i→Sr (b+1+i) s'→∃l2 s2,loop (uI c) (s'.Code,s'.At,l,(k:Int))=some (s2.Code,s2.At,l2)∧l2.length≤3∧Sr (b+10) s2:=by
  intro k
  induction k with
  |zero=>
   intro l s' i hi hl1 hs
   refine ⟨l,s',?_,by omega,hs.mono (by omega)⟩
   rw [xY]
   unfold uI
   rfl
  |succ k ih=>
   intro l s' i hi hl1 hs
   by_cases h0:c.length=0
   ·have hb:uI c (s'.Code,s'.At,l,((k+1:Nat):Int))=some (.done (s'.Code,s'.At,l)):=by
     have hd:decide ((c.length:Int)>0)=false:=decide_eq_false (by omega)
     unfold uI
     rw [hd]
     simp
    rw [xY,hb]
    exact ⟨l,s',rfl,by omega,hs.mono (by omega)⟩
   ·obtain ⟨r,u,f1,r0,r1,g1⟩:=jL (s:= {Code:=s'.Code,At:=s'.At}) hs (by omega) (c.length:Int)
    have hr:=r1 (by omega)
    obtain ⟨j,rfl⟩:=Int.eq_ofNat_of_zero_le r0
    have hj:j<c.length:=by omega
    have hb:uI c (s'.Code,s'.At,l,((k+1:Nat):Int))=some (.go (u.Code,u.At,l++[({Name:=c[j].Name,Low:= {A:=0,B:=0,C:=0},High:= {A:=1000,B:=0,C:=0}}:Term)],(k:Int))):=by
     unfold uI
     simp only
     have hd:decide ((c.length:Int)>0)=true:=by simp; omega
     rw [if_pos (decide_eq_true (by omega)),hd]
     simp only [Option.bind_some,if_true]
     rw [f1]
     simp only [Option.bind_some]
     rw [zI hj]
     unfold vD jW
     simp only [Option.bind_some]
     rw [zAc (by omega) (by simp) (by decide),uM (x:=((k+1:Nat):Int)-1) (by omega) (by omega),show ((k+1:Nat):Int)-1=(k:Int) by omega]
     rfl
    rw [xY,hb]
    exact ih (l++[({Name:=c[j].Name,Low:= {A:=0,B:=0,C:=0},High:= {A:=1000,B:=0,C:=0}}:Term)]) u (i+1) (by omega) (by simp; omega) g1
 obtain ⟨l2,s2,e2,hl2,h2⟩:=key (1+n).toNat [] s1 0 (by omega) (by simp) h1
 unfold zCf
 rw [e1]
 simp only [Option.bind_some]
 rw [uM (x:=1+n) (by omega) (by omega)]
 have e2':zBD c (s1.Code,s1.At,([]:List Term),1+n)=some (s2.Code,s2.At,l2):=by
  rw [show 1+n=((1+n).toNat :Int) by omega]
  exact e2
 rw [e2']
 exact ⟨l2,s2,rfl,hl2,h2⟩
theorem zEI {c:List Pack} (hc:Cat c) {l:List Term} (hl:l.length≤1048576) {k:Int} (hk:0≤k∧k<c.length):∃r,vG c l k=some r:=by
 have key:=xE l (fun _ t=>if zDU (pat c k) t then some true else none) (b:=kJ c l k) (by
  intro i hi
  unfold kJ
  rw [if_pos (by simp; omega),zI hi,(uQ hk).1]
  simp only [Option.bind_some,zEy _ _ (hc.zK9 hk)]
  rw [zP (by omega)]
  cases zDU (pat c k) l[i]<;>rfl) (by
  unfold kJ
  rw [if_neg (by simp)])
 unfold vG zAk
 rw [key,zBe]
 split<;>exact ⟨_,rfl⟩
theorem zI7 {c:List Pack} (hc:Cat c) {a:List Int} (hp:Places c a) (ha:a.length≤1048576) {k:Int} (hk:0≤k∧k<c.length):∃r,zCe c a k=some r:=by
 obtain ⟨t,e,_⟩:=wD (b:=zBs c a k) (fun i s=>s=(i:Int)) a.length (fun _=>True) (by
  rintro i s hi rfl
  have hq:=hp _ (List.getElem_mem hi)
  obtain ⟨r1,f1⟩:=zEI hc (hc.bars hq) hk
  obtain ⟨r2,f2⟩:=zEI hc (hc.bars hk) hq
  unfold zBs
  rw [if_pos (by simp; omega),zI hi]
  simp only [Option.bind_some,(uQ hq).1,(uQ hk).1,f1,f2]
  rw [zP (by omega)]
  cases seq (pat c a[i]).Name (pat c k).Name
  ·cases r1
   ·cases r2
    ·exact .inl ⟨_,rfl,rfl⟩
    ·exact .inr ⟨_,rfl,trivial⟩
   ·exact .inr ⟨_,rfl,trivial⟩
  ·exact .inr ⟨_,rfl,trivial⟩) (by
  rintro s rfl
  unfold zBs
  rw [if_neg (by simp)]
  exact ⟨_,rfl,trivial⟩) a.length 0 0 (by omega) rfl
 have e:zBI c a k 0=some t:=e
 unfold zCe
 rw [e]
 cases t<;>exact ⟨_,rfl⟩
theorem zHZ {c:List Pack} {l:List Int} (hl:l.length≤1048576) {x y:Int} (hx:0≤x∧x<c.length) (hy:0≤y∧y<c.length):∃r,zB1 c l x y=some r:=by
 unfold zB1
 rw [zER _ _ hl,zER _ _ hl]
 simp only [Option.bind_some,(uQ hx).1,(uQ hy).1,zAb]
 split
 ·exact ⟨_,rfl⟩
 ·split<;>exact ⟨_,rfl⟩
theorem zFH {c:List Pack} (hc:Cat c) {asks:List Term} (hk:asks.length≤1000) {a:List Int} (hp:Places c a) (ha:a.length≤1000):∃l,zA9 c asks a=some l∧l.length≤1048576:=by
 obtain ⟨t,e1,h1⟩:=wD (b:=zAh c asks a) (fun i s=>s=(i:Int)) asks.length (fun t=>∀l,t= .ret l→l.length≤1048576) (by
  rintro i s hi rfl
  unfold zAh
  rw [if_pos (by simp; omega),zP (by omega),zCZ (Nat.le_succ i) (by omega)]
  simp only [Option.bind_some]
  rw [zGs hc hp (by omega) _ (by simp; omega)]
  simp only [Option.bind_some]
  generalize zJZ c a _=m
  cases m
  ·refine .inr ⟨_,rfl,?_⟩
   rintro l ⟨⟩
   simp; omega
  ·exact .inl ⟨_,rfl,rfl⟩) (by
  rintro s rfl
  unfold zAh
  rw [if_neg (by simp)]
  exact ⟨_,rfl,by rintro l ⟨⟩⟩) asks.length 0 0 (by omega) rfl
 have e1:zAZ c asks a 0=some t:=e1
 obtain ⟨u,e2,h2⟩:=wD (b:=zAr c a) (fun i s=>s=(i:Int)) a.length (fun t=>∀l,t= .ret l→l.length≤1048576) (by
  rintro i s hi rfl
  have hq:=hp _ (List.getElem_mem hi)
  have hN:=hc.needs hq
  obtain ⟨v,e3,h3⟩:=wD (b:=zAj c a (i:Int) (pat c a[i])) (fun j s=>s=(j:Int)) (pat c a[i]).Needs.length (fun t=>∀l,t= .ret l→l.length≤1048576) (by
   rintro j s hj rfl
   have hcl:=hc.clause hq (List.getElem_mem hj)
   unfold zAj
   rw [if_pos (by simp; omega),zP (by omega),zI hj]
   simp only [Option.bind_some]
   rw [zGs hc hp (by omega) _ hcl]
   simp only [Option.bind_some]
   generalize zJZ c a _=m
   cases m
   ·refine .inr ⟨_,rfl,?_⟩
    rintro l ⟨⟩
    exact hcl
   ·exact .inl ⟨_,rfl,rfl⟩) (by
   rintro s rfl
   unfold zAj
   rw [if_neg (by simp)]
   exact ⟨_,rfl,by rintro l ⟨⟩⟩) (pat c a[i]).Needs.length 0 0 (by omega) rfl
  have e3:zAY c a (i:Int) (pat c a[i]) 0=some v:=e3
  unfold zAr
  rw [if_pos (by simp; omega),zP (by omega),zI hi]
  simp only [Option.bind_some,(uQ hq).1,e3]
  cases v with
  |ret l=>exact .inr ⟨_,rfl,by rintro l' ⟨⟩; exact h3 l rfl⟩
  |nxt _=>exact .inl ⟨_,rfl,rfl⟩) (by
  rintro s rfl
  unfold zAr
  rw [if_neg (by simp)]
  exact ⟨_,rfl,by rintro l ⟨⟩⟩) a.length 0 0 (by omega) rfl
 have e2:zAU c a 0=some u:=e2
 unfold zA9
 rw [e1,e2]
 cases t with
 |ret l=>exact ⟨l,rfl,h1 l rfl⟩
 |nxt _=>
  cases u with
  |ret l=>exact ⟨l,rfl,h2 l rfl⟩
  |nxt _=>exact ⟨[],rfl,by simp⟩
theorem zGH {c:List Pack} (hc:Cat c) (hcl:c.length≤25) {cl:List Term} (h1:cl.length≤1048576) {a d lk:List Int} (hp:Places c a) (ha:a.length≤1048576) (hd:d.length≤1048576) (hlk:lk.length≤1048576):
  ∃l,vZ c cl a d lk=some l∧∀k∈l,(0≤k∧k<c.length)∧k∉a:=by
 obtain ⟨t,e,ht⟩:=wD (b:=uN c cl a d lk) (fun i s=>s.2=(i:Int)∧s.1.length≤i∧∀k∈s.1,(0≤k∧k<c.length)∧k∉a) c.length (fun t=>∀k∈t,(0≤k∧k<c.length)∧k∉a) (by
  rintro i ⟨out,j⟩ hi ⟨hj,hol,ho⟩
  simp only at hj hol ho
  subst hj
  have hki:0≤(i:Int)∧(i:Int)<c.length:=by omega
  obtain ⟨g,eg,_⟩:=wD (b:=uR c cl a d lk (out,(i:Int))) (fun j s=>s.2=(j:Int)) cl.length (fun _=>True) (by
   rintro j ⟨q,j'⟩ hj hj'
   simp only at hj'
   subst hj'
   unfold uR
   simp only
   rw [if_pos (by simp; omega),(uQ hki).1,zI hj]
   simp only [Option.bind_some,zEy _ _ (hc.zK9 hki)]
   rw [zP (by omega)]
   cases q
   ·exact .inl ⟨_,rfl,rfl⟩
   ·exact .inl ⟨_,rfl,rfl⟩) (by
   rintro ⟨q,j'⟩ hj'
   simp only at hj'
   subst hj'
   unfold uR
   simp only
   rw [if_neg (by simp)]
   exact ⟨_,rfl,trivial⟩) cl.length 0 (false,0) (by omega) rfl
  have eg:tH c cl a d lk (out,(i:Int)) (false,0)=some g:=eg
  obtain ⟨ft,ef⟩:=zI7 hc hp ha hki
  have ins:∀n:Nat,n≤out.length→∃v:Nat,v≤n∧wL c cl a d lk (out,(i:Int)) (n:Int)=some (v:Int):=by
   intro n
   induction n with
   |zero=>
    intro _
    refine ⟨0,Nat.le_refl _,?_⟩
    unfold wL
    rw [xY]
    unfold kR
    rfl
   |succ n ih=>
    intro hn
    have hq:=(ho _ (List.getElem_mem (show n<out.length by omega))).1
    obtain ⟨r,er⟩:=zHZ (l:=lk) hlk hki hq
    obtain ⟨v,hv,ev⟩:=ih (by omega)
    unfold wL at ev ⊢
    rw [xY]
    unfold kR
    simp only
    rw [if_pos (decide_eq_true (by omega)),uM (x:=((n+1:Nat):Int)-1) (by omega) (by omega),show ((n+1:Nat):Int)-1=(n:Int) by omega,zI (show n<out.length by omega)]
    simp only [Option.bind_some,er]
    cases r
    ·exact ⟨n+1,Nat.le_refl _,rfl⟩
    ·exact ⟨v,by omega,ev⟩
  unfold uN
  simp only
  rw [if_pos (by simp; omega),eg,zER _ _ ha,zER _ _ hd,ef,zP (by omega)]
  simp only [Option.bind_some]
  by_cases hg:g=true
  ·subst hg
   by_cases hia:(i:Int)∈a
   ·have:decide ((i:Int)∈a)=true:=by simpa using hia
    rw [this]
    exact .inl ⟨_,rfl,rfl,by simp only; omega,ho⟩
   ·have:decide ((i:Int)∈a)=false:=by simpa using hia
    rw [this]
    cases decide ((i:Int)∈d)
    ·cases ft
     ·exact .inl ⟨_,rfl,rfl,by simp only; omega,ho⟩
     ·obtain ⟨v,hv,ev⟩:=ins out.length (Nat.le_refl _)
      have l1:zDJ out 0 (v:Int)=some (out.take v):=by
       have:=zCZ (xs:=out) (l:=0) (h:=v) (by omega) hv
       simpa using this
      have l2:zDJ out (v:Int) (out.length:Int)=some (out.drop v):=by
       have:=zCZ (xs:=out) (l:=v) (h:=out.length) hv (Nat.le_refl _)
       rw [this,List.take_of_length_le (by simp)]
      simp only [Bool.not_true,Bool.false_eq_true,if_false,Option.bind_some,ev,l1,l2]
      rw [zAc (by simp) (by simp; omega) (by decide)]
      simp only [Option.bind_some]
      rw [zAc (by simp; omega) (by simp) (by decide)]
      simp only [Option.bind_some]
      rw [zAc (by simp; omega) (by simp; omega) (by decide)]
      refine .inl ⟨_,rfl,rfl,by simp; omega,fun k hk=>?_⟩
      simp only [List.nil_append,List.mem_append,List.mem_singleton] at hk
      rcases hk with (hk|hk)|hk
      ·exact ho k (List.mem_of_mem_take hk)
      ·subst hk; exact ⟨hki,hia⟩
      ·exact ho k (List.mem_of_mem_drop hk)
    ·exact .inl ⟨_,rfl,rfl,by simp only; omega,ho⟩
  ·have:g=false:=by simpa using hg
   subst this
   exact .inl ⟨_,rfl,rfl,by simp only; omega,ho⟩) (by
  rintro ⟨out,j⟩ ⟨hj,hol,ho⟩
  simp only at hj hol ho
  subst hj
  unfold uN
  simp only
  rw [if_neg (by simp)]
  exact ⟨_,rfl,ho⟩) c.length 0 (([]:List Int),0) (by omega) ⟨rfl,by simp,by simp⟩
 have e:tL c cl a d lk (([]:List Int),0)=some t:=e
 unfold vZ
 rw [e]
 exact ⟨t,rfl,ht⟩
theorem zFx (fs:List yH) (h:fs.length≤100):zA3 fs=some (fs.map (·.Pack)):=by
 obtain ⟨t,e,rfl⟩:=wD (b:=zAu fs) (fun i s=>s=((fs.take i).map (·.Pack),(i:Int))) fs.length (fun t=>t=fs.map (·.Pack)) (by
  rintro i s hi rfl
  unfold zAu
  simp only
  rw [if_pos (by simp; omega),zI hi]
  simp only [Option.bind_some]
  rw [zAc (by simp; omega) (by simp) (by decide),zP (by omega)]
  refine .inl ⟨_,rfl,?_⟩
  rw [List.take_succ_eq_append_getElem hi,List.map_append]
  rfl) (by
  rintro s rfl
  rw [List.take_length]
  unfold zAu
  simp only
  rw [if_neg (by simp)]
  exact ⟨_,rfl,rfl⟩) fs.length 0 (([]:List Int),0) (by omega) (by simp)
 have e:zAJ fs (([]:List Int),0)=some _:=e
 unfold zA3
 rw [e]
 rfl
theorem zFg (a:List Int) (hn:a.Nodup) (hl:a.length≤100):∃r,zA4 a=some r∧r.Pairwise (· < ·)∧(∀x,x∈r↔x∈a)∧r.length=a.length:=by
 obtain ⟨t,e,h1,h2,h3⟩:=wD (b:=zAs a) (fun i s=>s.2=(i:Int)∧s.1.Pairwise (· < ·)∧(∀x,x∈s.1↔x∈a.take i)∧s.1.length=i) a.length (fun t=>t.Pairwise (· < ·)∧(∀x,x∈t↔x∈a)∧t.length=a.length) (by
  rintro i ⟨o,j⟩ hi ⟨hj,h1,h2,h3⟩
  simp only at hj h1 h2 h3
  subst hj
  have hni:a[i]∉o:=by
   rw [h2]
   intro hm
   obtain ⟨k,hk,e⟩:=List.mem_take_iff_getElem.1 hm
   have hne:=List.pairwise_iff_getElem.1 hn k i (by omega) hi (by omega)
   exact hne e
  obtain ⟨r,er,g1,g2,g3⟩:=zJx o a[i] h1 hni (by omega)
  unfold zAs
  simp only
  rw [if_pos (by simp; omega),zI hi]
  simp only [Option.bind_some,er]
  rw [zP (by omega)]
  refine .inl ⟨_,rfl,rfl,g1,fun x=>?_,by simp only; omega⟩
  simp only
  rw [g2,h2,List.take_succ_eq_append_getElem hi]
  simp only [List.mem_append,List.mem_singleton]) (by
  rintro ⟨o,j⟩ ⟨hj,h1,h2,h3⟩
  simp only at hj h1 h2 h3
  subst hj
  rw [List.take_length] at h2
  unfold zAs
  simp only
  rw [if_neg (by simp)]
  exact ⟨_,rfl,h1,h2,h3⟩) a.length 0 (([]:List Int),0) (by omega) ⟨rfl,by simp,by simp,rfl⟩
 have e:zAD a (([]:List Int),0)=some t:=e
 unfold zA4
 rw [e]
 exact ⟨t,rfl,h1,h2,h3⟩
def zKF (c:List Pack) (r:SolveResult):Prop:=r.Set.Pairwise (· < ·)∧Places c r.Set∧r.Set.length≤60
theorem zHO {c:List Pack} (hc:Cat c) (hcl:c.length≤25) {asks:List Term} (hk:asks.length≤1000) {lk:List Int} (hlk:lk.length≤1048576):∀(m n:Nat) (fs:List yH) (d:List Int),2*(60-n)+fs.length=m→n≤60→m≤120→(fs.map (·.Pack)).Nodup →Places c (fs.map (·.Pack))→fs.length≤n→
  (∀f∈fs,f.Denied.length+m≤120)→d.length+m≤120→∃r:SolveResult,loop (zAA c asks lk 60) (fs,d,(n:Int))=some (.ret r)∧zKF c r:=by
 intro m
 induction m with
 |zero=>
  intro n fs d hm hn _ hnd hpl hfn hfd hdd
  have hf0:fs=[]:=List.length_eq_zero_iff.1 (by omega)
  subst hf0
  have hn60:n=60:=by omega
  subst hn60
  obtain ⟨cl,e1,hcl1⟩:=zFH hc hk hpl (by simp)
  obtain ⟨l,e2,hl⟩:=zGH hc hcl hcl1 hpl (by simp) (show d.length≤1048576 by omega) hlk
  rw [xY]
  unfold zAA
  simp only
  rw [zFx [] (by simp)]
  simp only [Option.bind_some,e1]
  by_cases h0:((cl.length:Int)==0)=true
  ·obtain ⟨r,e3,g1,g2,g3⟩:=zFg _ hnd (by simp)
   rw [if_pos h0,e3]
   exact ⟨_,rfl,g1,fun k hk=>hpl k ((g2 k).1 hk),by simp only; rw [g3]; simp⟩
  ·rw [if_neg h0,e2]
   simp only [Option.bind_some]
   by_cases h1:(l.length:Int)>0
   ·rw [if_pos (by simpa using h1)]
    exact ⟨_,rfl,by simp [zKF,Places]⟩
   ·rw [if_neg (by simpa using h1)]
    exact ⟨_,rfl,by simp [zKF,Places]⟩
 |succ m ih=>
  intro n fs d hm hn hm2 hnd hpl hfn hfd hdd
  obtain ⟨cl,e1,hcl1⟩:=zFH hc hk hpl (by simp; omega)
  obtain ⟨l,e2,hl⟩:=zGH hc hcl hcl1 hpl (by simp; omega) (show d.length≤1048576 by omega) hlk
  rw [xY]
  unfold zAA
  simp only
  rw [zFx fs (by omega)]
  simp only [Option.bind_some,e1]
  by_cases h0:((cl.length:Int)==0)=true
  ·obtain ⟨r,e3,g1,g2,g3⟩:=zFg _ hnd (by simp; omega)
   rw [if_pos h0,e3]
   exact ⟨_,rfl,g1,fun k hk=>hpl k ((g2 k).1 hk),by simp only; rw [g3]; simp; omega⟩
  ·rw [if_neg h0,e2]
   simp only [Option.bind_some]
   by_cases h1:(l.length:Int)>0
   ·rw [if_pos (by simpa using h1)]
    by_cases h60:((n:Int)==60)=true
    ·rw [if_pos h60]
     exact ⟨_,rfl,by simp [zKF,Places]⟩
    ·have hn60:n≠60:=fun e=>h60 (by rw [e]; rfl)
     obtain ⟨hx1,hx2⟩:=hl _ (List.getElem_mem (show 0<l.length by omega))
     rw [if_neg h60,show (0:Int)=((0:Nat):Int) from rfl,zI (show 0<l.length by omega)]
     simp only [Option.bind_some]
     rw [zAc (by omega) (by simp) (by decide),zP (by omega)]
     simp only [Option.bind_some,Lp.elim]
     refine ih (n+1) (fs++[{Pack:=l[0],Denied:=d}]) d (by simp; omega) (by omega) (by omega) ?_ ?_ (by simp; omega) ?_ (by omega)
     ·rw [List.map_append,List.nodup_append]
      refine ⟨hnd,by simp,fun x hx y hy=>?_⟩
      simp only [List.map_cons,List.map_nil,List.mem_singleton] at hy
      subst hy
      intro e
      subst e
      exact hx2 hx
     ·intro k hk
      rw [List.map_append,List.mem_append] at hk
      rcases hk with hk|hk
      ·exact hpl k hk
      ·simp only [List.map_cons,List.map_nil,List.mem_singleton] at hk
       subst hk
       exact hx1
     ·intro f hf
      rcases List.mem_append.1 hf with hf|hf
      ·have:=hfd f hf; omega
      ·rw [List.mem_singleton.1 hf]; simp only; omega
   ·rw [if_neg (by simpa using h1)]
    by_cases hf0:((fs.length:Int)==0)=true
    ·rw [if_pos hf0]
     exact ⟨_,rfl,by simp [zKF,Places]⟩
    ·have hfl:fs.length≠0:=by simpa using hf0
     have hlast:fs.length-1<fs.length:=by omega
     have l1:zDJ fs 0 ((fs.length-1:Nat):Int)=some (fs.take (fs.length-1)):=by
      have:=zCZ (xs:=fs) (l:=0) (h:=fs.length-1) (by omega) (by omega)
      simpa using this
     have hD:=hfd _ (List.getElem_mem hlast)
     rw [if_neg hf0,uM (x:=(fs.length:Int)-1) (by omega) (by omega),show (fs.length:Int)-1=((fs.length-1:Nat):Int) by omega,zI hlast,l1]
     simp only [Option.bind_some]
     rw [vT (by simp; omega) (by simp; omega)]
     simp only [Option.bind_some]
     rw [vT (by simp; omega) (by simp; omega)]
     simp only [Option.bind_some,Lp.elim]
     have hsub:(fs.take (fs.length-1)).Sublist fs:=List.take_sublist _ _
     refine ih n (fs.take (fs.length-1)) _ (by simp; omega) hn (by omega) (hnd.sublist (hsub.map _)) (fun k hk=>hpl k ((hsub.map _).subset hk)) (by simp; omega) (fun f hf=>?_) (by simp; omega)
     have:=hfd f (hsub.subset hf)
     omega
theorem zIj {c:List Pack} (hc:Cat c) (hcl:c.length≤25) {asks:List Term} (hk:asks.length≤1000) {lk:List Int} (hlk:lk.length≤1048576):∃r,zBu c asks lk 60=some r∧zKF c r:=by
 obtain ⟨r,e,h⟩:=zHO hc hcl hk hlk 120 0 [] [] (by simp) (by omega) (by omega) (by simp) (by intro k hk; simp at hk) (by simp) (by simp) (by simp)
 have e:zBy c asks lk 60 (([]:List yH),([]:List Int),0)=some (.ret r):=e
 unfold zBu
 rw [e]
 exact ⟨r,rfl,h⟩
theorem zIc {b:Nat} {s:zC} (h:Sr b s) (hb:b+10000≤1000000000):∃c x y s',zCd s=some (c,x,y,s')∧DCt c∧x.length≤60∧y.length≤60∧Sr (b+5000) s':=by
 obtain ⟨c,s1,e1,hD,h1⟩:=zGR h (by omega)
 have hC:=hD.cat
 have hl:=hD.1
 obtain ⟨x,s2,e2,hx,h2⟩:=zEF h1 (by omega) hC hl
 obtain ⟨y,s3,e3,hy,h3⟩:=zEF h2 (by omega) hC hl
 obtain ⟨t,e4,x2,y2,s4,rfl,hx2,hy2,h4⟩:=wD (b:=zBh (c,s1)) (fun i q=>∃(x y:List Int) (s':zC),q=(s'.Code,s'.At,x,y,(i:Int))∧x.length≤60∧y.length≤60∧Sr (b+2200+100*i) s') 4
  (fun t=>∃(x y:List Int) (s':zC),t=(s'.Code,s'.At,x,y)∧x.length≤60∧y.length≤60∧Sr (b+5000) s') (by
  rintro i q hi ⟨x,y,s',rfl,hx,hy,hs⟩
  unfold zBh
  simp only
  rw [if_pos (by simp; omega),zC1 c hC,zFE hC.1 (by omega)]
  simp only [Option.bind_some]
  cases CF c==0
  ·exact .inr ⟨_,rfl,x,y,s',rfl,hx,hy,hs.mono (by omega)⟩
  cases zJj c x
  ·exact .inr ⟨_,rfl,x,y,s',rfl,hx,hy,hs.mono (by omega)⟩
  obtain ⟨q,u,f1,g1⟩:=tF (s:= {Code:=s'.Code,At:=s'.At}) hs (by omega) 2
  rw [f1]
  simp only [Option.bind_some,if_true]
  cases q
  ·exact .inr ⟨_,rfl,x,y,u,rfl,hx,hy,g1.mono (by omega)⟩
  obtain ⟨l,u2,f2,hl2,g2⟩:=zJC (s:= {Code:=u.Code,At:=u.At}) g1 (by omega) hl
  obtain ⟨r,f3,hr⟩:=zIj hC hl (asks:=l) (by omega) (lk:=x) (by omega)
  rw [f2]
  simp only [Option.bind_some,if_true,f3]
  rw [zP (by omega)]
  cases r.Code==0
  ·exact .inl ⟨_,rfl,x,y,u2,rfl,hx,hy,g2.mono (by omega)⟩
  ·exact .inl ⟨_,rfl,y,r.Set,u2,rfl,hy,hr.2.2,g2.mono (by omega)⟩) (by
  rintro q ⟨x,y,s',rfl,hx,hy,hs⟩
  unfold zBh
  simp only
  exact ⟨_,rfl,x,y,s',rfl,hx,hy,hs.mono (by omega)⟩) 4 0 (s3.Code,s3.At,x,y,0) (by omega) ⟨x,y,s3,rfl,by omega,by omega,h3.mono (by omega)⟩
 have e4:zBJ (c,s1) (s3.Code,s3.At,x,y,0)=some _:=e4
 unfold zCd
 rw [e1]
 simp only [Option.bind_some,e2,e3,e4]
 exact ⟨c,x2,y2,s4,rfl,hD,hx2,hy2,h4⟩
theorem zH7 {α R:Type} (f:Nat→α→Option R):∀(xs ys:List α) (i:Nat),xS f i (xs++ys)=(xS f i xs).or (xS f (i+xs.length) ys)
 |[],ys,i=>by simp [xS]
 |x::xs,ys,i=>by
  simp only [List.cons_append,xS,List.length_cons]
  cases f i x with
  |some r=>rfl
  |none=>simp only; rw [zH7 f xs ys (i+1),show i+1+xs.length=i+(xs.length+1) by omega]
theorem zIT {c:List Pack} {a:List Int} (hp:Places c a) (hn:a.Pairwise (· < ·)) {i:Nat} (hi:i<a.length):decide (zBL c (a.take i) (zCj c a[i])≥0)=(zBL c a (zCj c a[i]) !=a[i]):=by
 have hd:a.drop i=a[i]::a.drop (i+1):=List.drop_eq_getElem_cons hi
 have he:∀n,n=zCj c a[i]→zBL c a n=((xS (fun _ k=>if seq (pat c k).Name n then some k else none) 0 (a.take i)).or (some a[i])).getD (-1):=by
  intro n hn
  have key:=zH7 (fun (_:Nat) k=>if seq (pat c k).Name n then some k else none) (a.take i) (a.drop i) 0
  rw [List.take_append_drop,hd] at key
  have:seq (pat c a[i]).Name n=true:=by rw [hn]; exact zFU _
  simp only [xS,this,if_true] at key
  unfold zBL
  rw [key]
 rw [he _ rfl]
 unfold zBL
 rcases zGp (q:=fun k=>seq (pat c k).Name (zCj c a[i])) (a.take i) 0 with ⟨h1,_⟩|⟨k,hk,_,h1⟩
 ·rw [h1]
  simp
 ·rw [h1]
  have hka:k∈a:=List.mem_of_mem_take hk
  have hge:=(hp k hka).1
  obtain ⟨j,hj,e⟩:=List.mem_take_iff_getElem.1 hk
  have hlt:=List.pairwise_iff_getElem.1 hn j i (by omega) hi (by omega)
  have hne:k≠a[i]:=by omega
  have:decide ((some k).getD (-1)≥0)=true:=by simpa using hge
  rw [this]
  simpa using hne
def apB (c:List Pack) (a:List Int):Bool:=a.all fun k=>zBL c a (zCj c k)==k
theorem zGj {α R:Type} (p:α→Bool) (r:R):∀(xs:List α) (i:Nat),xS (fun _ x=>if p x then some r else none) i xs=if xs.all (fun x=> !(p x)) then none else some r
 |[],i=>rfl
 |x::xs,i=>by
  have ih:=zGj p r xs (i+1)
  simp only [xS,List.all_cons]
  by_cases h:p x=true
  ·simp [h]
  ·simp [h,ih]
theorem zEE {c:List Pack} {a:List Int} (hp:Places c a) (hn:a.Pairwise (· < ·)) (ha:a.length≤1048576):jC c a=some (!(apB c a)):=by
 have key:=xE a (fun _ k=>if zBL c a (zCj c k) !=k then some true else none) (b:=zAW c a) (by
  intro i hi
  have hk:=hp _ (List.getElem_mem hi)
  unfold zAW
  rw [if_pos (by simp; omega),zI hi,zEm (by omega)]
  simp only [Option.bind_some,(uQ hk).1]
  rw [(zC5 (a:=a.take i) (fun k hk=>hp k (List.mem_of_mem_take hk)) (by simp; omega) _).2]
  simp only [Option.bind_some]
  have:=zIT hp hn hi
  unfold zCj at this ⊢
  rw [this,zP (by omega)]
  cases zBL c a (pat c a[i]).Name !=a[i]<;>rfl) (by
  unfold zAW
  rw [if_neg (by simp)])
 rw [zGj] at key
 unfold jC zBo apB
 rw [key,zBe]
 have:(fun k=> !(zBL c a (zCj c k) !=k))=fun k=>zBL c a (zCj c k)==k:=by
  funext k
  simp [bne]
 rw [this]
 cases a.all fun k=>zBL c a (zCj c k)==k<;>rfl
theorem apart_spec {c:List Pack} {a:List Int} (hp:Places c a) (ha:a.length≤1048576):jA c a=some (apB c a):=by
 have key:=xE a (fun _ k=>if zBL c a (zCj c k) !=k then some false else none) (b:=zAT c a) (by
  intro i hi
  have hk:=hp _ (List.getElem_mem hi)
  unfold zAT zCj
  rw [if_pos (by simp; omega),zI hi]
  simp only [Option.bind_some,(uQ hk).1]
  rw [(zC5 hp ha _).1,zP (by omega)]
  simp only [Option.bind_some]
  cases zBL c a (pat c a[i]).Name !=a[i]<;>rfl) (by
  unfold zAT
  rw [if_neg (by simp)])
 rw [zGj] at key
 unfold jA zBk apB
 rw [key,zBe]
 have:(fun k=> !(zBL c a (zCj c k) !=k))=fun k=>zBL c a (zCj c k)==k:=by
  funext k
  simp [bne]
 rw [this]
 cases a.all fun k=>zBL c a (zCj c k)==k<;>rfl
def zDw (c:List Pack) (a b:List Int):Int:=if SF c a !=0 then SF c a else if SF c b !=0 then SF c b else if apB c a&&apB c b then 0 else 6
theorem zEb {c:List Pack} {s:List Int} (hs:SF c s=0):CF c=0∧s.Pairwise (· < ·)∧Places c s∧s.length≤c.length:=by
 unfold SF at hs
 split at hs
 ·rename_i q; rw [hs] at q; cases q
 ·rename_i q
  refine ⟨by simpa using q,?_⟩
  split at hs
  ·rename_i h
   exact ⟨(zFb.1 h).1,(zFb.1 h).2,zJL h⟩
  ·cases hs
theorem zLo {c:List Pack} {a b:List Int} (h1:SF c a=0) (h2:SF c b=0):Two c a b:=by
 obtain ⟨q0,q1,q2,q3⟩:=zEb h1
 obtain ⟨_,r1,r2,r3⟩:=zEb h2
 have hs:=Sml.of q0
 have:=hs.len
 exact ⟨hs,q2,r2,q1,r1,by omega,by omega⟩
theorem zFJ {c:List Pack} {a b:List Int} (hC:Cat c) (ha:a.length≤1048576) (hb:b.length≤1048576):kC c a b=some (zDw c a b):=by
 unfold kC zDw
 rw [zEu hC ha,zEu hC hb]
 simp only [Option.bind_some]
 by_cases h1:SF c a=0
 ·by_cases h2:SF c b=0
  ·obtain ⟨_,q1,q2,_⟩:=zEb h1
   obtain ⟨_,r1,r2,_⟩:=zEb h2
   rw [apart_spec q2 ha,apart_spec r2 hb,h1,h2]
   cases apB c a<;>cases apB c b<;>rfl
  ·have e1:(SF c a !=0)=false:=by simpa using h1
   have e2:(SF c b !=0)=true:=by simpa using h2
   rw [e1,e2]
   rfl
 ·have e1:(SF c a !=0)=true:=by simpa using h1
  rw [e1]
  rfl
theorem zEz {c:List Pack} {a b:List Int} (hC:Cat c) (ha:a.length≤1048576) (hb:b.length≤1048576):wG c a b=some (zDw c a b):=by
 unfold wG zDw
 rw [zEn hC ha,zEn hC hb]
 simp only [Option.bind_some]
 rw [zIi]
 simp only [Option.bind_some]
 by_cases h1:SF c a=0
 ·by_cases h2:SF c b=0
  ·obtain ⟨_,q1,q2,_⟩:=zEb h1
   obtain ⟨_,r1,r2,_⟩:=zEb h2
   rw [zEE q2 q1 ha,zEE r2 r1 hb,h1,h2]
   cases apB c a<;>cases apB c b<;>rfl
  ·have e1:(SF c a !=0)=false:=by simpa using h1
   have e2:(SF c b !=0)=true:=by simpa using h2
   have e3:(SF c b==0)=false:=by simpa using h2
   rw [e1,e2]
   simp only [Bool.false_eq_true,if_false,if_true,e3,Option.bind_some]
 ·have e1:(SF c a !=0)=true:=by simpa using h1
  have e3:(SF c a==0)=false:=by simpa using h1
  rw [e1]
  simp only [if_true,e3,Bool.false_eq_true,if_false,Option.bind_some]
theorem zE0 {c:List Pack} {a b:List Int} (h:zDw c a b=0):CF c=0∧Two c a b:=by
 unfold zDw at h
 split at h
 ·rename_i q; simp [h] at q
 rename_i h1
 split at h
 ·rename_i q; simp [h] at q
 rename_i h2
 have e1:SF c a=0:=by simpa using h1
 have e2:SF c b=0:=by simpa using h2
 exact ⟨(zEb e1).1,zLo e1 e2⟩
theorem zGE {c:List Pack} {a b:List Int} (hC:Cat c) (ha:a.length≤1048576) (hb:b.length≤1048576):zB0 c a b=some (if zDw c a b=0 then {Code:=0,Parts:=zEw c a b} else {Code:=zDw c a b,Parts:=[]}):=by
 unfold zB0
 rw [zEz hC ha hb]
 simp only [Option.bind_some]
 by_cases h:zDw c a b=0
 ·rw [if_neg (by simpa using h),if_pos h,(zHT (zE0 h).2).2]
  rfl
 ·rw [if_pos (by simpa using h),if_neg h]
theorem zJf (l:List ByteArray) (n:ByteArray) (h:l.length≤1048576):zBi l n=some (inN l n):=by
 have key:=xE l (fun _ x=>if seq x n then some true else none) (b:=zAF l n) (by
  intro i hi
  unfold zAF
  rw [if_pos (by simp; omega),zI hi]
  simp only [Option.bind_some]
  rw [zP (by omega)]
  cases seq l[i] n<;>rfl) (by
  unfold zAF
  rw [if_neg (by simp)])
 unfold zBi zBn inN
 rw [key,zBe,←zD3 (fun x=>seq x n) l 0]
 cases h2:xS (fun _ x=>if seq x n then some true else none) 0 l with
 |none=>rfl
 |some r=>rfl
theorem zKa {a:List Int} (h:a.length≤1048576):zCg a=some false:=by
 unfold zCg
 congr 1
 simp; omega
theorem zIN {c:List Pack} {a b:List Int} (hC:Cat c) (h0:zDw c a b=0) {x y:ByteArray} (hj:jB c a b x y=false):uV c a b x y=some false:=by
 have h:=(zE0 h0).2
 have ha:=h.la
 have hb:=h.lb
 obtain ⟨_,e1,_,_,hl⟩:=zES h
 unfold uV
 rw [zEz hC (by omega) (by omega),h0,e1]
 simp only [Option.bind_some]
 rw [zCr _ _ (by omega),zCr _ _ (by omega),(zEa h x y).2,hj]
 simp only [Option.bind_some,bne_self_eq_false,Bool.false_eq_true,if_false]
 cases seq x y
 ·cases (chL c a b).any fun z=>seq z x
  ·rfl
  ·cases (chL c a b).any fun z=>seq z y<;>rfl
 ·rfl
theorem zIW {c:List Pack} {a b:List Int} (hC:Cat c) (ha:a.length≤1048576) (hb:b.length≤1048576) (code:List Int) (hl:code.length≤1048576) (hD:uX code=some (c,a,b)):zAz code=some true:=by
 unfold zAz
 rw [zKa hl,hD]
 simp only [Option.bind_some,Bool.false_eq_true,if_false]
 rw [zGE hC ha hb]
 simp only [Option.bind_some]
 by_cases h0:zDw c a b=0
 ·have h:=(zE0 h0).2
  obtain ⟨q1,q2,q3,q4,q5⟩:=zES h
  obtain ⟨s1,s2,s3⟩:=zIO h
  have hpair:(zEw c a b).Pairwise (fun P Q=>∀x∈P,∀y∈Q,jB c a b x y=false∧x≠y):=zFD (K:=jB c a b) 24 (L:=chL c a b)
  have hsum:((zEw c a b).map List.length).sum =(chL c a b).length :=zGw (K:=jB c a b) 24 q5
  have eC:uD c a b=some {Code:=0,Names:=chL c a b}:=by
   unfold uD
   rw [zEz hC ha hb,h0,q2]
   rfl
  have eS:vV c a b=some {Code:=0,Names:=chL c a b}:=by
   unfold vV
   rw [zFJ hC ha hb,h0,q1]
   rfl
  rw [if_pos h0]
  simp only [bne_self_eq_false,Bool.false_eq_true,if_false,eC,eS,Option.bind_some]
  have l1:∀(n:Int) (i:Nat) (P0:List ByteArray) (k j:Nat) (hi:i< (zEw c a b).length) (hk:k< ((zEw c a b)[i]).length) (hj:j<i),zAg (c,a,b) {Code:=0,Parts:=zEw c a b} {Code:=0,Names:=chL c a b} (n,(i:Int)) P0 (k:Int) (j:Int) 0=some (.nxt ()):=by
   intro n i P0 k j hi hk hj
   have hjl:j< (zEw c a b).length :=by omega
   have hm24:=s2 _ (List.getElem_mem hjl)
   unfold zAg
   refine zHy ((zEw c a b)[j]).length (fun m hm=>?_) ?_
   ·unfold zCa
    simp only
    rw [zI hjl,zI hi]
    simp only [Option.bind_some]
    rw [if_pos (by simp; omega),zI hk,zI hm]
    simp only [Option.bind_some]
    have:=(List.pairwise_iff_getElem.1 hpair j i hjl hi hj _ (List.getElem_mem hm) _ (List.getElem_mem hk)).1
    rw [zIN hC h0 (by rw [zKr]; exact this),zP (by omega)]
    rfl
   ·unfold zCa
    simp only
    rw [zI hjl]
    simp only [Option.bind_some]
    rw [if_neg (by simp)]
  have l2:∀(n:Int) (i:Nat) (P0:List ByteArray) (k:Nat) (hi:i< (zEw c a b).length) (hk:k< ((zEw c a b)[i]).length),zAo (c,a,b) {Code:=0,Parts:=zEw c a b} {Code:=0,Names:=chL c a b} (n,(i:Int)) P0 (k:Int) 0=some (.nxt ()):=by
   intro n i P0 k hi hk
   unfold zAo
   refine zHy i (fun j hj=>?_) ?_
   ·unfold zBT
    simp only
    rw [if_pos (by simp; omega),l1 n i P0 k j hi hk hj,zP (by omega)]
    rfl
   ·unfold zBT
    simp only
    rw [if_neg (by simp)]
  have l3:∀(n:Int) (i:Nat) (P0:List ByteArray) (hi:i< (zEw c a b).length),zAf (c,a,b) {Code:=0,Parts:=zEw c a b} {Code:=0,Names:=chL c a b} (n,(i:Int)) P0 0=some (.nxt ()):=by
   intro n i P0 hi
   have h24:=s2 _ (List.getElem_mem hi)
   unfold zAf
   refine zHy ((zEw c a b)[i]).length (fun k hk=>?_) ?_
   ·unfold zBQ
    simp only
    rw [zI hi]
    simp only [Option.bind_some]
    have hin:inN (chL c a b) ((zEw c a b)[i])[k]=true:=zE2.2 (zFn 24 _ (List.getElem_mem hi) _ (List.getElem_mem hk))
    rw [if_pos (by simp; omega),zI hk]
    simp only [Option.bind_some]
    rw [zJf _ _ (by omega),hin,l2 n i P0 k hi hk,zP (by omega)]
    rfl
   ·unfold zBQ
    simp only
    rw [zI hi]
    simp only [Option.bind_some]
    rw [if_neg (by simp)]
  have hle:∀i,(((zEw c a b).take i).map List.length).sum ≤(chL c a b).length :=by
   intro i
   rw [←hsum]
   conv=>rhs; rw [←List.take_append_drop i (zEw c a b)]
   rw [List.map_append,List.sum_append]
   omega
  obtain ⟨t,e,rfl⟩:=wD (b:=zAX (c,a,b) {Code:=0,Parts:=zEw c a b} {Code:=0,Names:=chL c a b}) (fun i s=>s=((((((zEw c a b).take i).map List.length).sum :Nat):Int),(i:Int))) (zEw c a b).length (fun t=>t= .nxt (((chL c a b).length :Nat):Int)) (by
   rintro i s hi rfl
   have h24:=s2 _ (List.getElem_mem hi)
   have:=hle i
   refine .inl ⟨_,?_,rfl⟩
   unfold zAX
   simp only
   rw [if_pos (by simp; omega),zI hi]
   simp only [Option.bind_some]
   rw [l3 _ i _ hi,zP (by omega),uM (by omega) (by omega),List.take_succ_eq_append_getElem hi,List.map_append,List.sum_append]
   simp [Fl.go]) (by
   rintro s rfl
   rw [List.take_length,hsum]
   unfold zAX
   simp only
   rw [if_neg (by simp)]
   exact ⟨_,rfl,rfl⟩) (zEw c a b).length 0 (0,0) (by omega) (by simp)
  have e:zBx (c,a,b) {Code:=0,Parts:=zEw c a b} {Code:=0,Names:=chL c a b} (0,0)=some _:=e
  rw [e]
  simp [Fl.go]
 ·rw [if_neg h0]
  have:(zDw c a b !=0)=true:=by simpa using h0
  unfold zCi
  rw [zFJ hC ha hb]
  simp only [Option.bind_some,this,if_true,beq_self_eq_true]
theorem zHo (a1:List Int) (k1:a1.length≤maxLen∧∀y1∈a1,IntKind.u8.min≤y1∧y1≤IntKind.u8.max):zAz a1=some true:=by
 by_cases h:a1.length≤1048576
 ·obtain ⟨s,e0,h0⟩:=zH2 h (fun c hc=>by have:=k1.2 c hc; simpa [IntKind.min,IntKind.max,IntKind.signed,IntKind.bits] using this)
  obtain ⟨c,x,y,s',e,hD,hx,hy,_⟩:=zIc h0 (by omega)
  refine zIW hD.cat (a:=x) (b:=y) (by omega) (by omega) a1 h ?_
  unfold uX
  rw [e0]
  simp only [Option.bind_some,e]
 ·unfold zAz zCg
  have:decide ((a1.length:Int)>1048576)=true:=by simp; omega
  rw [this]
  rfl
end Go.Told

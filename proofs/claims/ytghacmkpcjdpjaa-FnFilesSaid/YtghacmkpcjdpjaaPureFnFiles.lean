import Derived.Test.YtghacmkpcjdpjaaToldFnFiles
set_option linter.unusedVariables false
set_option maxRecDepth 4000
namespace Go.Told
open Go Go.Im
theorem zAh {S T:Type} {b b':S→Option (Lp S T)} (h:∀s,b s=b' s):loop b=loop b':=by
 have:b=b':=funext h
 rw [this]
theorem wS {x:Int} (h1: -9223372036854775808≤x) (h2:x≤9223372036854775807):w64 x=x:=by
 unfold w64
 rw [IntKind.wrap_i64]
 omega
theorem tY {i:Nat} (h:i<9223372036854775807):w64 ((i:Int)+1)=((i+1:Nat):Int):=by
 rw [wS (by omega) (by omega)]; omega
theorem tK {T:Type} {S:Type} {b:S→Option (Lp S T)} (I:Nat→S→Prop) (n:Nat) (Q:T→Prop) (hstep:∀i s,i<n→I i s→(∃s',b s=some (.go s')∧I (i+1) s')∨∃t,b s=some (.done t)∧Q t)
  (hend:∀s,I n s→∃t,b s=some (.done t)∧Q t):∀(k i:Nat) (s:S),i+k=n→I i s→∃t,loop b s=some t∧Q t
 |0,i,s,hk,hI=>by
  obtain ⟨t,h1,h2⟩:=hend s (by rw [show n=i by omega]; exact hI)
  exact ⟨t,by rw [zAl,h1]; rfl,h2⟩
 |k+1,i,s,hk,hI=>by
  rcases hstep i s (by omega) hI with ⟨s',h1,h2⟩|⟨t,h1,h2⟩
  ·obtain ⟨t,h3,h4⟩:=tK I n Q hstep hend k (i+1) s' (by omega) h2
   exact ⟨t,by rw [zAl,h1]; exact h3,h4⟩
  ·exact ⟨t,by rw [zAl,h1]; rfl,h2⟩
theorem wV {α:Type} {xs:List α} {i:Nat} (h:i<xs.length):idx xs (i:Int)=some xs[i]:=by
 unfold idx
 rw [if_pos (by omega)]
 simp [h]
theorem zC4 (a:ByteArray):seq a a=true:=by
 unfold seq
 simp
def c1 {α:Type} (_:α):Int:=1
theorem jG {α:Type} {B:Nat} {xs ys:List α} (h:(xs.length+ys.length)*B≤140737488355328) (h2:xs.length+ys.length≤4611686018427387904):app B xs ys=some (xs++ys):=if_pos ⟨h,h2⟩
theorem zBI {S T:Type} {b:S→Option (Lp S T)} (I:S→Prop) (μ:S→Nat) (Q:T→Prop) (step:∀s,I s→(∃s',b s=some (.go s')∧I s'∧μ s'<μ s)∨∃t,b s=some (.done t)∧Q t):∀(n:Nat) (s:S),μ s≤n→I s→∃t,loop b s=some t∧Q t
 |0,s,hn,hI=>by
  rcases step s hI with ⟨s',_,_,h3⟩|⟨t,h1,h2⟩
  ·omega
  ·exact ⟨t,by rw [zAl,h1]; rfl,h2⟩
 |n+1,s,hn,hI=>by
  rcases step s hI with ⟨s',h1,h2,h3⟩|⟨t,h1,h2⟩
  ·obtain ⟨t,h4,h5⟩:=zBI I μ Q step n s' (by omega) h2
   exact ⟨t,by rw [zAl,h1]; exact h4,h5⟩
  ·exact ⟨t,by rw [zAl,h1]; rfl,h2⟩
def File.sm (B:Nat) (x:File):Prop:=(x.Path.size≤B)∧(x.Data.length≤B∧∀y0∈x.Data,True)
def zA.sm (B:Nat) (x:zA):Prop:=(x.Files.length≤B∧∀y0∈x.Files,File.sm B y0)∧(True)∧(True)∧(True)∧(True)
def zG.sm (B:Nat) (x:zG):Prop:=(True)∧(zA.sm B x.zA)
def yE.sm (B:Nat) (x:yE):Prop:=(True)∧(File.sm B x.File)
def xQ.sm (B:Nat) (x:xQ):Prop:=(True)∧(True)
def yN.sm (B:Nat) (x:yN):Prop:=(True)∧(x.Names.length≤B∧∀y0∈x.Names,y0.size≤B)
def zL.sm (B:Nat) (x:zL):Prop:=(x.Code.length≤B∧∀y0∈x.Code,True)∧(True)
def bl (s:ByteArray):List Int:=s.toList.map (fun b=>(b.toNat:Int))
theorem zAC (s:ByteArray):(bl s).length =s.size:=by
 unfold bl
 rw [List.length_map,ByteArray.toList_eq]
 rfl
theorem zEn {s:ByteArray} {i:Nat} (h:i< (bl s).length):bidx s (i:Int)=some (bl s)[i]:=by
 unfold bidx
 rw [if_pos (by omega)]
 have hs:i<s.size:=by rw [zAC] at h; exact h
 have e:s[(i:Int).toNat]? =some s[i]:=by simp [hs]
 rw [e]
 simp only [Option.map_some,bl,List.getElem_map]
 congr 2
 simp only [ByteArray.toList_eq]
 rfl
theorem zA0:∀(a:List UInt8),Op.bytesLess a a=false
 |[]=>rfl
 |x::a=>by simp [Op.bytesLess,zA0 a]
theorem zBd:∀{a b c:List UInt8},Op.bytesLess a b=true→Op.bytesLess b c=true→Op.bytesLess a c=true
 |_,[],_,h,_=>by simp [Op.bytesLess] at h
 |_,_::_,[],_,h=>by simp [Op.bytesLess] at h
 |[],_::_,_::_,_,_=>by simp [Op.bytesLess]
 |x::a,y::b,z::c,h1,h2=>by
  simp only [Op.bytesLess,Bool.or_eq_true,decide_eq_true_eq,Bool.and_eq_true,beq_iff_eq] at h1 h2 ⊢
  rcases h1 with h1|⟨rfl,h1⟩
  ·rcases h2 with h2|⟨rfl,h2⟩
   ·exact .inl (UInt8.lt_trans h1 h2)
   ·exact .inl h1
  ·rcases h2 with h2|⟨rfl,h2⟩
   ·exact .inl h2
   ·exact .inr ⟨rfl,zBd h1 h2⟩
theorem zCG:∀(a b:List UInt8),Op.bytesLess a b=false→a≠b→Op.bytesLess b a=true
 |[],[],_,h=>absurd rfl h
 |[],_::_,h,_=>by simp [Op.bytesLess] at h
 |_::_,[],_,_=>by simp [Op.bytesLess]
 |x::a,y::b,h,hne=>by
  simp only [Op.bytesLess,Bool.or_eq_false_iff,decide_eq_false_iff_not,Bool.and_eq_false_iff,beq_eq_false_iff_ne] at h
  simp only [Op.bytesLess,Bool.or_eq_true,decide_eq_true_eq,Bool.and_eq_true,beq_iff_eq]
  by_cases hxy:x=y
  ·subst hxy
   refine .inr ⟨rfl,zCG a b ?_ (fun e=>hne (by rw [e]))⟩
   rcases h.2 with h'|h'
   ·exact absurd rfl h'
   ·exact h'
  ·refine .inl ?_
   have:=h.1
   rw [UInt8.lt_iff_toNat_lt] at this ⊢
   have:x.toNat≠y.toNat:=fun e=>hxy (UInt8.toNat_inj.1 e)
   omega
theorem toList_inj {a b:ByteArray} (h:a.toList=b.toList):a=b:=by
 rw [ByteArray.toList_eq,ByteArray.toList_eq] at h
 cases a; cases b
 simp at h
 rw [h]
theorem tO (a:ByteArray):slt a a=false:=zA0 _
theorem jY {a b c:ByteArray} (h1:slt a b=true) (h2:slt b c=true):slt a c=true:=zBd h1 h2
theorem zEP {a b:ByteArray} (h:slt a b=false) (hne:a≠b):slt b a=true:=zCG _ _ h (fun e=>hne (toList_inj e))
theorem zDF {a b:ByteArray} (h:slt a b=true):a≠b:=fun e=>by subst e; rw [tO] at h; cases h
theorem zD4 {a b:ByteArray} (h:slt a b=true):slt b a=false:=by
 cases h2:slt b a with
 |false=>rfl
 |true=>have:=jY h h2; rw [tO] at this; cases this
theorem zA6 {a b:ByteArray}:seq a b=true↔a=b:=by
 unfold seq
 simp only [beq_iff_eq]
 exact ⟨toList_inj,fun e=>by rw [e]⟩
theorem seq_eq (a b:ByteArray):seq a b=decide (a=b):=by
 rw [Bool.eq_iff_iff,zA6]; simp
theorem zFh (a b c:Int):xP a b c=some (decide (a≥b)&&decide (a≤c)):=by
 unfold xP
 cases decide (a≥b)<;>rfl
def inB (a b c:Int):Bool:=decide (b≤a)&&decide (a≤c)
theorem zED (a b c:Int):xP a b c=some (inB a b c):=by
 unfold xP inB
 by_cases h:a≥b<;>simp [h]
theorem zD8 (a b c:Int):yX a b c=some (inB a b c):=by
 unfold yX inB
 by_cases h:b≤a<;>simp [h]
section del
variable {α:Type} (p:α→Bool)
theorem zEN {xs:List α} {l h:Nat} (h1:l≤h) (h2:h≤xs.length):zBY xs (l:Int) (h:Int)=some ((xs.drop l).take (h-l)):=by
 unfold zBY
 rw [if_pos (by omega)]
 rfl
end del
def zCm (c:Int):Bool:=(decide (c≥97)&&decide (c≤122))||(decide (c≥48)&&decide (c≤57))||c==95
def zBE (c:Int):Bool:=zCm c||c==46||c==45||c==47
theorem zAU (c:Int):vD c=some (zCm c):=by
 unfold vD wY vW zCm
 cases decide (c≥97)<;>cases decide (c≤122)<;>cases decide (c≥48)<;>cases decide (c≤57)<;>rfl
theorem kK (c:Int):uN c=some (zBE c):=by
 unfold uN zBE
 rw [zAU]
 cases zCm c<;>cases (c==46)<;>cases (c==45)<;>cases (c==47)<;>rfl
theorem kW (c:Int):xB c=some (zCm c):=by
 unfold xB zCm
 cases decide (c≥97)<;>cases decide (c≤122)<;>cases decide (c≥48)<;>cases decide (c≤57)<;>rfl
theorem jV (s:ByteArray):xJ s=yJ s:=by
 unfold xJ yJ
 have:wL s=xR s:=by
  unfold wL xR
  refine zAh fun i=>?_
  unfold uR wE
  split
  ·congr 1
   funext c
   rw [kK,kW]
   unfold zBE
   simp only [bne]
   cases zCm c<;>cases (c==46)<;>cases (c==45)<;>cases (c==47)<;>rfl
  ·rfl
 rw [this]
def jR (s:ByteArray):Prop:=1≤s.size∧s.size≤40∧∀c∈bl s,zBE c=true
theorem jC (s:ByteArray):(jR s∧yJ s=some 0)∨(¬jR s∧yJ s=some 5):=by
 unfold yJ
 by_cases h1:s.size<1
 ·refine .inr ⟨fun h=>by have:=h.1; omega,?_⟩
  rw [if_pos (by simp; omega)]; rfl
 ·rw [if_neg (by simp; omega)]
  simp only [Option.bind_some]
  by_cases h2:s.size>40
  ·refine .inr ⟨fun h=>by have:=h.2.1; omega,?_⟩
   rw [if_pos (by simp; omega)]
  ·rw [if_neg (by simp; omega)]
   obtain ⟨t,e,h⟩:=tK (b:=wE s) (fun i j=>j=(i:Int)∧∀k,(hk:k< (bl s).length)→k<i→zBE (bl s)[k]=true) (bl s).length (fun t=>match t with| .ret r=>r=5∧¬jR s| .nxt _=>∀c∈bl s,zBE c=true) (by
    rintro i j hi ⟨rfl,hp⟩
    have hs:=zAC s
    unfold wE
    rw [if_pos (by simp; omega),zEn hi]
    simp only [Option.bind_some,kK]
    cases hb:zBE (bl s)[i] with
    |false=>exact .inr ⟨_,rfl,rfl,fun h=>by have:=h.2.2 _ (List.getElem_mem hi); rw [hb] at this; cases this⟩
    |true=>
     rw [tY (by omega)]
     refine .inl ⟨_,rfl,rfl,fun k hk hki=>?_⟩
     rcases Nat.lt_or_ge k i with h|h
     ·exact hp k hk h
     ·have:k=i:=by omega
      subst this; exact hb) (by
    rintro j ⟨rfl,hp⟩
    unfold wE
    rw [if_neg (by simp [zAC])]
    refine ⟨_,rfl,fun c hc=>?_⟩
    obtain ⟨k,hk,rfl⟩:=List.getElem_of_mem hc
    exact hp k hk hk) (bl s).length 0 0 (by omega) ⟨rfl,fun k _ h=>by omega⟩
   simp only [xR,e,Option.bind_some]
   cases t with
   |ret r=>
    obtain ⟨rfl,h⟩:=h
    exact .inr ⟨h,rfl⟩
   |nxt u=>exact .inl ⟨⟨by omega,by omega,h⟩,rfl⟩
theorem kL (s:ByteArray):∃r,yJ s=some r∧(r=0↔jR s):=by
 rcases jC s with ⟨h1,h2⟩|⟨h1,h2⟩
 ·exact ⟨0,h2,by simp [h1]⟩
 ·exact ⟨5,h2,by simp [h1]⟩
def total (fs:List File):Int:=match fs with
 |[]=>0
 |f::fs=>f.Data.length+total fs
theorem tF:∀(l r:List File),total (l++r)=total l+total r
 |[],r=>by simp [total]
 |f::l,r=>by simp only [List.cons_append,total,tF l r]; omega
theorem uP:∀(l:List File),0≤total l
 |[]=>Int.le_refl _
 |f::l=>by have:=uP l; simp only [total]; omega
theorem zBV:∀{l:List File} {f:File},f∈l→(f.Data.length:Int)≤total l
 |g::l,f,h=>by
  rcases List.mem_cons.1 h with rfl|h
  ·have:=uP l; simp only [total]; omega
  ·have:=zBV h; simp only [total]; omega
theorem zB0:∀(l:List File) (C:Int),0≤C→(∀f∈l,(f.Data.length:Int)≤C)→total l≤l.length*C
 |[],C,_,_=>by simp [total]
 |f::l,C,hC,h=>by
  have h1:=h f (by simp)
  have h2:=zB0 l C hC (fun g hg=>h g (by simp [hg]))
  simp only [total,List.length_cons,Int.natCast_add,Int.add_mul]
  omega
theorem tQ (d:zA) (h:d.Files.length≤1048576) (hf:∀f∈d.Files,f.Data.length≤1048576):yP d=some (total d.Files):=by
 have htot:=zB0 d.Files 1048576 (by omega) (fun f hm=>by have:=hf f hm; omega)
 have hb:((d.Files.length:Int))*1048576≤1048576*1048576:=Int.mul_le_mul_of_nonneg_right (by omega) (by omega)
 obtain ⟨t,e,rfl⟩:=tK (b:=wF d) (fun i s=>s=(total (d.Files.take i),(i:Int))) d.Files.length (fun t=>t=total d.Files) (by
  rintro i s hi rfl
  unfold wF
  rw [if_pos (by simp; omega)]
  have hsplit:total (d.Files.take (i+1))=total (d.Files.take i)+d.Files[i].Data.length :=by
   rw [List.take_succ_eq_append_getElem hi,tF]
   simp [total]
  have hle:total d.Files=total (d.Files.take (i+1))+total (d.Files.drop (i+1)):=by rw [←tF,List.take_append_drop]
  have h1:=uP (d.Files.take i)
  have h2:=uP (d.Files.drop (i+1))
  simp only [wV hi,Option.bind_some]
  rw [wS (by omega) (by omega),tY (by omega)]
  exact .inl ⟨_,rfl,by rw [hsplit]⟩) (by
  rintro s rfl
  unfold wF
  rw [if_neg (by simp)]
  exact ⟨_,rfl,by simp⟩) d.Files.length 0 (0,0) (by omega) (by simp [total])
 simp only [yP,wP,e,Option.bind_some]
theorem zBe (d:zA):yT d=yP d:=rfl
structure zA.good (d:zA):Prop where
 b0:0≤d.Budget
 b1:d.Budget≤20000
 w0:0≤d.Writes
 w1:d.Writes≤1000000000
 s0: -1≤d.Stop
 s1:d.Stop≤1000000000
 len:d.Files.length≤120
 path:∀f∈d.Files,jR f.Path
 data:∀f∈d.Files,f.Data.length≤4000
 sorted:d.Files.Pairwise (fun f g=>slt f.Path g.Path=true)
 room:total d.Files≤d.Budget
theorem xY (d:zA):zI d=yD d:=by
 unfold zI yD
 have:wK d=xH d:=by
  unfold wK xH
  refine zAh fun i=>?_
  unfold uT yR
  split
  ·cases hx:idx d.Files i with
   |none=>rfl
   |some x=>simp only [Option.bind_some,jV]
  ·rfl
 rw [this]
 rfl
theorem zDm {xs:List File} (h:∀i,(hi:i+1<xs.length)→slt xs[i].Path xs[i+1].Path =true):xs.Pairwise (fun f g=>slt f.Path g.Path=true):=by
 induction xs with
 |nil=>exact .nil
 |cons x xs ih=>
  have h':∀i,(hi:i+1<xs.length)→slt xs[i].Path xs[i+1].Path =true:=fun i hi=>h (i+1) (by simp; omega)
  have ih':=ih h'
  refine .cons ?_ ih'
  cases xs with
  |nil=>simp
  |cons y ys=>
   have hxy:slt x.Path y.Path=true:=by simpa using h 0 (by simp)
   intro z hz
   rcases List.mem_cons.1 hz with rfl|hz
   ·exact hxy
   ·exact jY hxy ((List.pairwise_cons.1 ih').1 z hz)
theorem zAW (d:zA) (h:d.Files.length≤1048576):∃c,yD d=some c∧(c=0→d.good):=by
 unfold yD
 simp only [zFh,Option.bind_some]
 by_cases hB:0≤d.Budget∧d.Budget≤20000
 ·by_cases hW:0≤d.Writes∧d.Writes≤1000000000
  ·by_cases hS: -1≤d.Stop∧d.Stop≤1000000000
   ·simp [hB.1,hB.2,hW.1,hW.2,hS.1,hS.2]
    by_cases hl:120<d.Files.length
    ·rw [if_pos (by omega)]
     exact ⟨2,rfl,by simp⟩
    ·rw [if_neg (by omega)]
     obtain ⟨t,e,ht⟩:=tK (b:=yR d) (fun i s=>s=(i:Int)∧(∀j,(hj:j<d.Files.length)→j<i→jR d.Files[j].Path ∧d.Files[j].Data.length ≤4000)∧∀j,(hj:j+1<d.Files.length)→j+1<i→slt d.Files[j].Path d.Files[j+1].Path =true) d.Files.length
      (fun t=>match t with| .ret r=>r≠0| .nxt _=>(∀f∈d.Files,jR f.Path∧f.Data.length≤4000)∧d.Files.Pairwise (fun f g=>slt f.Path g.Path=true)) (by
      rintro i s hi ⟨rfl,h1,h2⟩
      unfold yR
      rw [if_pos (by simp; omega)]
      obtain ⟨r,hr,hr2⟩:=kL d.Files[i].Path
      simp only [wV hi,Option.bind_some,hr]
      by_cases hr0:r=0
      ·subst hr0
       rw [if_neg (by simp)]
       have key:∃q,(if decide ((i:Int)>0) then (idx d.Files (w64 ((i:Int)-1))).bind fun x39=>some (slt d.Files[i].Path x39.Path||seq d.Files[i].Path x39.Path) else some false)=some q∧(q=false→∀j,(hj:j+1<d.Files.length)→j+1<i+1→slt d.Files[j].Path d.Files[j+1].Path =true):=by
        by_cases hp:i=0
        ·subst hp
         exact ⟨false,by simp,fun _ j hj hji=>by omega⟩
        ·rw [if_pos (by simp; omega),wS (by omega) (by omega),show ((i:Int)-1)=((i-1:Nat):Int) by omega,wV (show i-1<d.Files.length by omega)]
         refine ⟨_,rfl,fun hq j hj hji=>?_⟩
         rcases Nat.lt_or_ge (j+1) i with hlt|hge
         ·exact h2 j hj hlt
         ·have hj1:j+1=i:=by omega
          subst hj1
          simp only [Bool.or_eq_false_iff] at hq
          have hq1:=hq.1
          have hq2:d.Files[j+1].Path ≠d.Files[j].Path :=fun e=>by
           have:=hq.2
           simp only [Nat.add_sub_cancel] at this
           rw [e] at this
           simp at this
          simp only [Nat.add_sub_cancel] at hq1
          exact zEP hq1 hq2
       obtain ⟨q,hq,hq2⟩:=key
       rw [hq]
       simp only [Option.bind_some]
       cases q with
       |true=>exact .inr ⟨_,rfl,by simp⟩
       |false=>
        by_cases hd:(d.Files[i].Data.length :Int)>4000
        ·exact .inr ⟨.ret 2,by rw [if_neg (by simp),if_pos (by simpa using hd)],by simp⟩
        ·refine .inl ⟨((i+1:Nat):Int),?_,rfl,fun j hj hji=>?_,hq2 rfl⟩
         ·rw [if_neg (by simp),if_neg (by simpa using hd),tY (by omega)]
         ·rcases Nat.lt_or_ge j i with h'|h'
          ·exact h1 j hj h'
          ·have:j=i:=by omega
           subst this
           exact ⟨hr2.1 rfl,by omega⟩
      ·rw [if_pos (by simpa using hr0)]
       exact .inr ⟨_,rfl,hr0⟩) (by
      rintro s ⟨rfl,h1,h2⟩
      unfold yR
      rw [if_neg (by simp)]
      refine ⟨_,rfl,fun f hf=>?_,zDm (fun i hi=>h2 i hi hi)⟩
      obtain ⟨j,hj,rfl⟩:=List.getElem_of_mem hf
      exact h1 j hj hj) d.Files.length 0 0 (by omega) ⟨rfl,fun j _ h=>by omega,fun j _ h=>by omega⟩
     simp only [xH,e,Option.bind_some]
     cases t with
     |ret r=>exact ⟨r,rfl,fun h=>absurd h ht⟩
     |nxt u=>
      simp only [Fl.go]
      rw [tQ d h (fun f hf=>by have:=(ht.1 f hf).2; omega)]
      simp only [Option.bind_some]
      by_cases hr:d.Budget<total d.Files
      ·rw [if_pos hr]
       exact ⟨8,rfl,by simp⟩
      ·rw [if_neg hr]
       exact ⟨0,rfl,fun _=>⟨hB.1,hB.2,hW.1,hW.2,hS.1,hS.2,by omega,fun f hf=>(ht.1 f hf).1,fun f hf=>(ht.1 f hf).2,ht.2,by omega⟩⟩
   ·refine ⟨3,?_,by simp⟩
    simp [hB.1,hB.2,hW.1,hW.2]
    intro a b
    exact absurd ⟨a,b⟩ hS
  ·refine ⟨3,?_,by simp⟩
   simp [hB.1,hB.2]
   rw [if_pos (by omega)]
   rfl
 ·refine ⟨3,?_,by simp⟩
  rw [if_pos (by simp; omega)]
  rfl
def zA.fits (d:zA):Prop:=d.Files.length≤1048576∧∀f∈d.Files,f.Data.length≤1048576
theorem zA.zD9 {d:zA} (h:zA.sm 1048576 d):d.fits:=⟨h.1.1,fun f hf=>(h.1.2 f hf).2.1⟩
theorem zA.zBK {d:zA} (h:d.good):d.fits:=⟨by have:=h.len; omega,fun f hf=>by have:=h.data f hf; omega⟩
theorem zBX (d:zA) (h:d.fits):vO d=some d:=by
 obtain ⟨h1,h2⟩:=h
 obtain ⟨t,e,rfl⟩:=tK (b:=vI d) (fun i s=>s=(d.Files.take i,(i:Int))) d.Files.length (fun t=>t=d.Files) (by
  rintro i s hi rfl
  have hl:(d.Files.take i).length =i:=by simp; omega
  have hd:=h2 _ (List.getElem_mem hi)
  have ha:app 1 ([]:List Int) d.Files[i].Data =some d.Files[i].Data :=jG (by simp; omega) (by simp; omega)
  have hb:∀f:File,app 40 (d.Files.take i) [f]=some (d.Files.take i++[f]):=fun f=>jG (by simp; omega) (by simp; omega)
  unfold vI
  rw [if_pos (by simp; omega)]
  simp only [wV hi,Option.bind_some,ha,hb,tY (show i<9223372036854775807 by omega)]
  exact .inl ⟨_,rfl,by rw [List.take_succ_eq_append_getElem hi]⟩) (by
  rintro s rfl
  unfold vI
  rw [if_neg (by simp)]
  exact ⟨_,rfl,by simp⟩) d.Files.length 0 ([],0) (by omega) (by simp)
 simp only [vO,vH,e,Option.bind_some]
theorem zDe (d:zA):yG d=vO d:=by
 have:xU d=vH d:=by
  unfold xU vH
  refine zAh fun s=>?_
  unfold uH vI zV
  split
  ·cases h:idx d.Files s.2 with
   |none=>rfl
   |some x=>
    simp only [Option.bind_some]
    cases h2:app 1 ([]:List Int) x.Data<;>rfl
  ·rfl
 unfold yG vO
 rw [this]
theorem zAE (d:zA) (h:d.fits):yG d=some d:=by rw [zDe,zBX d h]
def zC1 (c:Int):zG:= {Code:=c,zA:= {Files:=[],Budget:=0,Writes:=0,Stop:=0,Down:=false}}
def begins (s p:ByteArray):Bool:=decide (p.size≤s.size)&&seq (s.extract 0 p.size) p
def vJ (fs:List File) (p:ByteArray):List ByteArray:=(fs.filter (fun f=>begins f.Path p)).map (·.Path)
theorem zAX (l r:List File) (p:ByteArray):vJ (l++r) p=vJ l p++vJ r p:=by
 simp [vJ]
theorem kI (l:List File) (p:ByteArray):(vJ l p).length ≤l.length:=by
 simp only [vJ,List.length_map]
 exact List.length_filter_le _ _
theorem zBz:∀(a b:List UInt8),(Lib.compareBytes a b<0↔Op.bytesLess a b=true)∧(Lib.compareBytes a b=0↔a=b)
 |[],[]=>by simp [Lib.compareBytes,Op.bytesLess]
 |[],_::_=>by simp [Lib.compareBytes,Op.bytesLess]
 |_::_,[]=>by simp [Lib.compareBytes,Op.bytesLess]
 |x::a,y::b=>by
  obtain ⟨ih1,ih2⟩:=zBz a b
  simp only [Lib.compareBytes,Op.bytesLess]
  by_cases h1:x<y
  ·simp [h1]
   intro e; subst e; exact absurd h1 (by simp [UInt8.lt_irrefl])
  ·by_cases h2:y<x
   ·simp [h1,h2]
    have hne:x≠y:=fun e=>by subst e; exact absurd h2 (by simp [UInt8.lt_irrefl])
    simp [hne]
   ·have e:x=y:=by
     rw [UInt8.lt_iff_toNat_lt] at h1 h2
     exact UInt8.toNat_inj.1 (by omega)
    subst e
    simp [UInt8.lt_irrefl,ih1,ih2]
theorem zCs (a b:ByteArray):zEk a b<0↔slt a b=true:=by
 unfold zEk slt
 rw [ByteArray.toList_eq,ByteArray.toList_eq]
 exact (zBz _ _).1
theorem zD2 (a b:ByteArray):zEk a b=0↔a=b:=by
 unfold zEk
 rw [(zBz _ _).2,←ByteArray.toList_eq,←ByteArray.toList_eq]
 exact ⟨toList_inj,fun e=>by rw [e]⟩
theorem zEU {i j:Int} (h0:0≤i) (h1:i≤j) (h2:j≤4611686018427387903):w64 ((IntKind.u64.wrap (w64 (i+j))).fdiv (2^(min (1:Int).toNat 64)))=(i+j) / 2:=by
 rw [wS (x:=i+j) (by omega) (by omega)]
 have e1:IntKind.u64.wrap (i+j)=i+j:=by
  simp only [IntKind.wrap,IntKind.signed,IntKind.bits]
  simp
  omega
 rw [e1]
 have e2:((2:Int)^(min (1:Int).toNat 64))=2:=by decide
 rw [e2,Int.fdiv_eq_ediv_of_nonneg _ (by omega)]
 exact wS (by omega) (by omega)
theorem zBk (f:File) (p:ByteArray):xG f p=some (zEk f.Path p):=rfl
theorem zBn (fs:List File) (p:ByteArray) (h:fs.length≤1048576):
  ∃(k:Nat) (b:Bool),zD fs p=some ((k:Int),b)∧k≤fs.length∧(b=true→∃hk:k<fs.length,fs[k].Path =p)∧
   (fs.Pairwise (fun f g=>slt f.Path g.Path=true)→(∀i,(hi:i<fs.length)→i<k→slt fs[i].Path p=true)∧(∀i,(hi:i<fs.length)→k≤i→slt fs[i].Path p=false)∧(b=false→∀f∈fs,f.Path≠p)):=by
 obtain ⟨t,e,k,rfl,hk,hs⟩:=zBI (b:=zO fs p)
  (fun s=>∃i j:Nat,s=((i:Int),(j:Int))∧i≤j∧j≤fs.length∧(fs.Pairwise (fun f g=>slt f.Path g.Path=true)→(∀q,(hq:q<fs.length)→q<i→slt fs[q].Path p=true)∧(∀q,(hq:q<fs.length)→j≤q→slt fs[q].Path p=false)))
  (fun s=>(s.2-s.1).toNat)
  (fun t=>∃k:Nat,t=(k:Int)∧k≤fs.length∧(fs.Pairwise (fun f g=>slt f.Path g.Path=true)→(∀q,(hq:q<fs.length)→q<k→slt fs[q].Path p=true)∧(∀q,(hq:q<fs.length)→k≤q→slt fs[q].Path p=false))) (by
  rintro s ⟨i,j,rfl,hij,hj,hP⟩
  unfold zO
  by_cases hlt:i<j
  ·left
   rw [if_pos (by simp; omega)]
   simp only
   rw [zEU (by omega) (by omega) (by omega)]
   have hm:(((i:Int)+(j:Int)) / 2)=(((i+j) / 2:Nat):Int):=by omega
   rw [hm]
   have hmj:(i+j) / 2<j:=by omega
   have him:i≤(i+j) / 2:=by omega
   generalize (i+j) / 2=m at*
   have hmn:m<fs.length:=by omega
   simp only [wV hmn,Option.bind_some,zBk]
   by_cases hc:zEk fs[m].Path p<0
   ·rw [if_pos (by simpa using hc),tY (by omega)]
    refine ⟨_,rfl,⟨m+1,j,rfl,by omega,hj,fun hso=>?_⟩,by simp; omega⟩
    obtain ⟨g1,g2⟩:=hP hso
    refine ⟨fun q hq hqm=>?_,g2⟩
    have hl:=(zCs _ _).1 hc
    rcases Nat.lt_or_ge q m with h'|h'
    ·exact jY (List.pairwise_iff_getElem.1 hso q m hq hmn h') hl
    ·have:q=m:=by omega
     subst this; exact hl
   ·rw [if_neg (by simpa using hc)]
    refine ⟨_,rfl,⟨i,m,rfl,by omega,by omega,fun hso=>?_⟩,by simp; omega⟩
    obtain ⟨g1,g2⟩:=hP hso
    refine ⟨g1,fun q hq hmq=>?_⟩
    have hl:slt fs[m].Path p=false:=by
     cases h':slt fs[m].Path p with
     |false=>rfl
     |true=>exact absurd ((zCs _ _).2 h') hc
    rcases Nat.lt_or_ge m q with h'|h'
    ·cases hq2:slt fs[q].Path p with
     |false=>rfl
     |true=>
      have:=jY (List.pairwise_iff_getElem.1 hso m q hmn hq h') hq2
      rw [hl] at this; cases this
    ·have:q=m:=by omega
     subst this; exact hl
  ·right
   rw [if_neg (by simp; omega)]
   have:i=j:=by omega
   subst this
   exact ⟨_,rfl,i,rfl,by omega,hP⟩) fs.length (0,(fs.length:Int)) (by simp) ⟨0,fs.length,rfl,by omega,by omega,fun _=>⟨fun q _ h=>by omega,fun q hq h=>by omega⟩⟩
 unfold zD
 rw [show zH fs p (0,(fs.length:Int))=some (k:Int) from e]
 simp only [Option.bind_some]
 by_cases hkn:k<fs.length
 ·rw [if_pos (by simpa using hkn)]
  simp only [wV hkn,Option.bind_some,zBk]
  refine ⟨k,_,rfl,hk,fun hb=>⟨hkn,(zD2 _ _).1 (by simpa using hb)⟩,fun hso=>⟨(hs hso).1,(hs hso).2,fun hb f hf hfp=>?_⟩⟩
  have hne:zEk fs[k].Path p≠0:=by simpa using hb
  obtain ⟨q,hq,rfl⟩:=List.getElem_of_mem hf
  rcases Nat.lt_trichotomy q k with h'|h'|h'
  ·have:=(hs hso).1 q hq h'
   rw [hfp,tO] at this; cases this
  ·subst h'; exact hne ((zD2 _ _).2 hfp)
  ·have h1:=List.pairwise_iff_getElem.1 hso k q hkn hq h'
   have h2:=(hs hso).2 k hkn (Nat.le_refl _)
   rw [hfp] at h1
   rw [h1] at h2; cases h2
 ·rw [if_neg (by simpa using hkn)]
  refine ⟨k,false,rfl,hk,(fun hb=>by cases hb),fun hso=>⟨(hs hso).1,(hs hso).2,fun _ f hf hfp=>?_⟩⟩
  obtain ⟨q,hq,rfl⟩:=List.getElem_of_mem hf
  have:=(hs hso).1 q hq (by omega)
  rw [hfp,tO] at this; cases this
theorem zCh (d:zA) (p:ByteArray) (h:d.Files.length≤1048576):
  (∃k:Nat,∃hk:k<d.Files.length,yM d p=some (k:Int)∧d.Files[k].Path =p)∨(yM d p=some (-1)∧∀f∈d.Files,f.Path≠p):=by
 obtain ⟨t,e,ht⟩:=tK (b:=wO d p) (fun i s=>s=(i:Int)∧∀q,(hq:q<d.Files.length)→q<i→d.Files[q].Path ≠p) d.Files.length
  (fun t=>match t with| .ret r=>∃k:Nat,∃hk:k<d.Files.length,r=(k:Int)∧d.Files[k].Path =p| .nxt _=>∀f∈d.Files,f.Path≠p) (by
  rintro i s hi ⟨rfl,hq⟩
  unfold wO
  rw [if_pos (by simp; omega)]
  simp only [wV hi,Option.bind_some]
  by_cases hp:d.Files[i].Path =p
  ·rw [if_pos (zA6.2 hp)]
   exact .inr ⟨_,rfl,i,hi,rfl,hp⟩
  ·rw [if_neg (fun h'=>hp (zA6.1 h')),tY (by omega)]
   refine .inl ⟨_,rfl,rfl,fun q hq' hqi=>?_⟩
   rcases Nat.lt_or_ge q i with h'|h'
   ·exact hq q hq' h'
   ·have:q=i:=by omega
    subst this; exact hp) (by
  rintro s ⟨rfl,hq⟩
  unfold wO
  rw [if_neg (by simp)]
  refine ⟨_,rfl,fun f hf=>?_⟩
  obtain ⟨q,hq',rfl⟩:=List.getElem_of_mem hf
  exact hq q hq' hq') d.Files.length 0 0 (by omega) ⟨rfl,fun q _ h=>by omega⟩
 unfold yM
 rw [show vG d p 0=some t from e]
 cases t with
 |ret r=>
  obtain ⟨k,hk,rfl,hp⟩:=ht
  exact .inl ⟨k,hk,rfl,hp⟩
 |nxt _=>exact .inr ⟨rfl,ht⟩
theorem zBj {fs:List File} (hs:fs.Pairwise (fun f g=>slt f.Path g.Path=true)) {i j:Nat} (hi:i<fs.length) (hj:j<fs.length) (h:fs[i].Path =fs[j].Path):i=j:=by
 rcases Nat.lt_trichotomy i j with h'|h'|h'
 ·have:=List.pairwise_iff_getElem.1 hs i j hi hj h'
  rw [h,tO] at this; cases this
 ·exact h'
 ·have:=List.pairwise_iff_getElem.1 hs j i hj hi h'
  rw [h,tO] at this; cases this
theorem zAk (d:zA) (p:ByteArray) (hl0:d.Files.length≤120) (hso:d.Files.Pairwise (fun f g=>slt f.Path g.Path=true)):
  (∃k:Nat,∃hk:k<d.Files.length,yM d p=some (k:Int)∧zD d.Files p=some ((k:Int),true)∧d.Files[k].Path =p)∨
   (yM d p=some (-1)∧(∀f∈d.Files,f.Path≠p)∧∃k:Nat,zD d.Files p=some ((k:Int),false)∧k≤d.Files.length∧(∀i,(hi:i<d.Files.length)→i<k→slt d.Files[i].Path p=true)∧(∀i,(hi:i<d.Files.length)→k≤i→slt d.Files[i].Path p=false)):=by
 have hl:d.Files.length≤1048576:=by omega
 obtain ⟨k,b,e,hk,h1,h2⟩:=zBn d.Files p hl
 obtain ⟨g1,g2,g3⟩:=h2 hso
 rcases zCh d p hl with ⟨q,hq,e2,hp⟩|⟨e2,hp⟩
 ·left
  cases b with
  |false=>exact absurd hp (g3 rfl _ (List.getElem_mem hq))
  |true=>
   obtain ⟨hk',hp'⟩:=h1 rfl
   have:q=k:=zBj hso hq hk' (by rw [hp,hp'])
   subst this
   exact ⟨q,hq,e2,e,hp⟩
 ·right
  cases b with
  |true=>
   obtain ⟨hk',hp'⟩:=h1 rfl
   exact absurd hp' (hp _ (List.getElem_mem hk'))
  |false=>exact ⟨e2,hp,k,e,hk,g1,g2⟩
theorem zDw (d:zA) (p:ByteArray) (h:d.Files.length≤1048576):∃r,zW d p=some r:=by
 obtain ⟨k,b,e,hk,h1,_⟩:=zBn d.Files p h
 unfold zW zX
 rw [e]
 cases b with
 |false=>exact ⟨_,rfl⟩
 |true=>
  obtain ⟨hk',_⟩:=h1 rfl
  simp only [Option.bind_some,Bool.not_true,Bool.false_eq_true,if_false,wV hk']
  exact ⟨_,rfl⟩
theorem zCH (d:zA) (p:ByteArray) (hl0:d.Files.length≤120) (hso:d.Files.Pairwise (fun f g=>slt f.Path g.Path=true)):
  (∃k:Nat,∃hk:k<d.Files.length,yM d p=some (k:Int)∧zW d p=some (d.Files[k].Data,true)∧d.Files[k].Path =p)∨
   (yM d p=some (-1)∧zW d p=some ([],false)∧∀f∈d.Files,f.Path≠p):=by
 rcases zAk d p hl0 hso with ⟨k,hk,e1,e2,hp⟩|⟨e1,hp,k,e2,_⟩
 ·left
  refine ⟨k,hk,e1,?_,hp⟩
  unfold zW zX
  rw [e2]
  simp only [Option.bind_some,Bool.not_true,Bool.false_eq_true,if_false,wV hk]
 ·right
  refine ⟨e1,?_,hp⟩
  unfold zW zX
  rw [e2]
  rfl
theorem zD1 (d:zA) (p:ByteArray) (hg:d.good):
 (∃k:Nat,∃hk:k<d.Files.length,yM d p=some (k:Int)∧zW d p=some (d.Files[k].Data,true)∧d.Files[k].Path =p)∨
  (yM d p=some (-1)∧zW d p=some ([],false)∧∀f∈d.Files,f.Path≠p):=zCH d p hg.len hg.sorted
structure zA.fine (d:zA):Prop where
 b1:d.Budget≤20000
 w0:0≤d.Writes
 w1:d.Writes≤2000000000
 s0: -1≤d.Stop
 len:d.Files.length≤120
 data:∀f∈d.Files,f.Data.length≤4000
 sorted:d.Files.Pairwise (fun f g=>slt f.Path g.Path=true)
 room:total d.Files≤d.Budget
theorem zA.good.fine {d:zA} (h:d.good):d.fine:=⟨h.b1,h.w0,by have:=h.w1; omega,h.s0,h.len,h.data,h.sorted,h.room⟩
theorem zDJ {a b:ByteArray} (h:slt a b=false) (hne:a≠b):slt b a=true:=by
 cases h2:slt b a with
 |true=>rfl
 |false=>
  have c1:¬zEk a b<0:=fun hc=>by rw [(zCs a b).1 hc] at h; cases h
  have key:∀(x y:List UInt8),Op.bytesLess x y=false→Op.bytesLess y x=false→x=y:=by
   intro x
   induction x with
   |nil=>intro y; cases y<;>simp [Op.bytesLess]
   |cons u x ih=>
    intro y
    cases y with
    |nil=>simp [Op.bytesLess]
    |cons v y=>
     simp only [Op.bytesLess]
     intro e1 e2
     have e3:¬u<v:=fun hh=>by simp [hh] at e1
     have e4:¬v<u:=fun hh=>by simp [hh] at e2
     rw [UInt8.lt_iff_toNat_lt] at e3 e4
     have e5:u=v:=UInt8.toNat_inj.1 (by omega)
     subst e5
     simp [UInt8.lt_irrefl] at e1 e2
     rw [ih y e1 e2]
  exfalso
  apply hne
  unfold slt at h h2
  exact toList_inj (key _ _ h h2)
theorem zCP {fs:List File} {p:ByteArray} {x:List Int} {k:Nat} (hs:fs.Pairwise (fun f g=>slt f.Path g.Path=true)) (hn:∀f∈fs,f.Path≠p) (h1:∀i,(hi:i<fs.length)→i<k→slt fs[i].Path p=true) (h2:∀i,(hi:i<fs.length)→k≤i→slt fs[i].Path p=false):
  (fs.take k++(({Path:=p,Data:=x}:File)::fs.drop k)).Pairwise (fun f g=>slt f.Path g.Path=true):=by
 have ht:∀f∈fs.take k,slt f.Path p=true:=fun f hf=>by
  obtain ⟨i,hi,rfl⟩:=List.getElem_of_mem hf
  rw [List.getElem_take]
  rw [List.length_take] at hi
  exact h1 i (by omega) (by omega)
 have hd:∀f∈fs.drop k,slt p f.Path=true:=fun f hf=>by
  have hm:=List.mem_of_mem_drop hf
  obtain ⟨i,hi,rfl⟩:=List.getElem_of_mem hf
  rw [List.getElem_drop] at hm ⊢
  rw [List.length_drop] at hi
  exact zDJ (h2 (k+i) (by omega) (by omega)) (hn _ hm)
 refine List.pairwise_append.2 ⟨List.Pairwise.sublist (List.take_sublist _ _) hs,List.pairwise_cons.2 ⟨hd,List.Pairwise.sublist (List.drop_sublist _ _) hs⟩,?_⟩
 intro a ha b hb
 rcases List.mem_cons.1 hb with rfl|hb
 ·exact ht a ha
 ·exact jY (ht a ha) (hd b hb)
theorem zDs {fs:List File} {k:Nat} (hk:k<fs.length) (g:File):total (fs.set k g)=total fs-fs[k].Data.length +g.Data.length:=by
 rw [List.set_eq_take_append_cons_drop,if_pos hk]
 have h:=congrArg total (show fs.take k++fs[k]::fs.drop (k+1)=fs by rw [←List.drop_eq_getElem_cons hk,List.take_append_drop])
 rw [tF] at h ⊢
 simp only [total] at h ⊢
 omega
theorem zDC (fs:List File) (k:Nat) (g:File):total (fs.take k++(g::fs.drop k))=total fs+g.Data.length:=by
 conv=>rhs; rw [←List.take_append_drop k fs]
 simp only [tF,total]
 omega
theorem zCn {d:zA} (hf:d.fine) (hd:d.Down=false):vP d=some (if decide (d.Stop≥0)&&decide (d.Writes≥d.Stop) then (false,{d with Down:=true}) else (true,{d with Writes:=d.Writes+1})):=by
 unfold vP
 rw [hd]
 simp only [Bool.false_eq_true,if_false]
 have h0:=hf.s0
 by_cases h1:d.Stop= -1
 ·have h2:¬(d.Stop≥0):=by omega
  simp [h1]
  exact wS (by have:=hf.w0; omega) (by have:=hf.w1; omega)
 ·have h2:d.Stop≥0:=by omega
  have h3:(d.Stop != -1)=true:=by simpa using h1
  simp only [h3,if_true,Option.bind_some,h2,decide_true,Bool.true_and]
  cases decide (d.Writes≥d.Stop)
  ·simp only [Bool.false_eq_true,if_false]
   rw [wS (by have:=hf.w0; omega) (by have:=hf.w1; omega)]
  ·simp only [if_true]
def wrote (d:zA) (p:ByteArray) (x:List Int) (r:Int×zA):Prop:=
 (r.1=0∧r.2.Down=false∧r.2.Writes=d.Writes+1∧r.2.Budget=d.Budget∧r.2.Stop=d.Stop∧r.2.Files.length≤120∧r.2.Files.Pairwise (fun f g=>slt f.Path g.Path=true)∧total r.2.Files≤d.Budget∧x.length≤4000∧
  (∀f∈r.2.Files,f∈d.Files∨f= {Path:=p,Data:=x})∧(∃f∈r.2.Files,f= {Path:=p,Data:=x})∧∀f∈d.Files,f.Path≠p→f∈r.2.Files)∨
 (r.1=9∧r.2= {d with Down:=true})∨((r.1=2∨r.1=8)∧r.2=d)
theorem zAg {d:zA} (hf:d.fine) (hdn:d.Down=false) {p:ByteArray} {x:List Int} (hp:jR p) (hx:x.length≤1048576):
  ∃r:Int×zA,yY d p x=some r∧yA d p x=some r∧wrote d p x r:=by
 obtain ⟨fs,bu,wr,st,dn⟩:=d
 simp only at hdn
 subst hdn
 have hl:=hf.len; have hsz:=hf.data; have hro:=hf.room; have hb1:=hf.b1; have hw0:=hf.w0; have hw1:=hf.w1; have hs0:=hf.s0; have hso:=hf.sorted
 simp only at hl hsz hro hb1 hw0 hw1 hs0 hso
 have hn:=uP fs
 have hPF:xJ p=some 0:=by
  rw [jV]
  obtain ⟨r,e,hr⟩:=kL p
  rw [e,hr.2 hp]
 have hT2:yT {Files:=fs,Budget:=bu,Writes:=wr,Stop:=st,Down:=false}=some (total fs):=by
  rw [zBe]
  exact tQ _ (by simp only; omega) (fun f hm=>by have:=hsz f hm; omega)
 have hT1:yP {Files:=fs,Budget:=bu,Writes:=wr,Stop:=st,Down:=false}=some (total fs):=
  tQ _ (by simp only; omega) (fun f hm=>by have:=hsz f hm; omega)
 have hR:=zCn hf rfl
 simp only at hR
 have hcl:zV x=some x:=by
  unfold zV
  rw [jG (by simp; omega) (by simp; omega)]
  rfl
 have hap:app 1 ([]:List Int) x=some x:=by rw [jG (by simp; omega) (by simp; omega)]; rfl
 have hw:w64 (wr+1)=wr+1:=wS (by omega) (by omega)
 rcases zAk {Files:=fs,Budget:=bu,Writes:=wr,Stop:=st,Down:=false} p hl hso with ⟨k,hk,e1,e2,hpk⟩|⟨e1,hno,k,e2,hk,g1,g2⟩
 ·simp only at hk e2 hpk
  have hdk:=hsz _ (List.getElem_mem hk)
  have hmk:=zBV (List.getElem_mem hk)
  have ha:w64 (w64 (total fs-(fs[k].Data.length :Int))+(x.length:Int))=total fs-fs[k].Data.length +x.length:=by
   rw [wS (x:=total fs-(fs[k].Data.length :Int)) (by omega) (by omega)]
   exact wS (by omega) (by omega)
  have hk0:decide ((k:Int)≥0)=true:=by simp
  have hk1:decide ((k:Int)<0)=false:=by simp
  unfold yY yA zN xE wN zW zX
  simp only [e1,e2,Option.bind_some,hPF,hT1,hT2,hR,hk0,hk1,if_true,wV hk,Int.toNat_natCast,ha,hap,hcl,Bool.not_true,Bool.false_eq_true,if_false,bne_self_eq_false,hw]
  by_cases c1:(x.length:Int)>4000
  ·simp only [c1,decide_true,if_true,Option.bind_some]
   exact ⟨_,rfl,rfl,.inr (.inr ⟨.inl rfl,rfl⟩)⟩
  ·simp only [c1,decide_false,Bool.false_eq_true,if_false,Option.bind_some]
   by_cases c2:total fs-(fs[k].Data.length :Int)+(x.length:Int)>bu
   ·simp only [c2,decide_true,if_true]
    exact ⟨_,rfl,rfl,.inr (.inr ⟨.inr rfl,rfl⟩)⟩
   ·simp only [c2,decide_false,Bool.false_eq_true,if_false]
    cases c3:(decide (st≥0)&&decide (wr≥st))
    ·have c4:(if decide (st≥0) then some (decide (wr≥st)) else some false)=some false:=by
      cases h:decide (st≥0)<;>simp [h] at c3 ⊢
      exact c3
     rw [c4]
     simp only [Option.bind_some,Bool.false_eq_true,if_false,Bool.not_true,wV hk,hpk]
     refine ⟨_,rfl,rfl,.inl ⟨rfl,rfl,rfl,rfl,rfl,by simpa using hl,?_,?_,by omega,?_,?_,?_⟩⟩
     ·simp only
      rw [List.pairwise_iff_getElem] at hso ⊢
      intro i j hi hj hij
      simp only [List.length_set] at hi hj
      rw [List.getElem_set,List.getElem_set]
      have h:=hso i j hi hj hij
      split<;>split
      ·omega
      ·rename_i a b; subst a; simpa [hpk] using h
      ·rename_i a b; subst b; simpa [hpk] using h
      ·exact h
     ·simp only
      rw [zDs hk]
      simp only
      omega
     ·intro f hm
      rcases List.mem_or_eq_of_mem_set hm with h|h
      ·exact .inl h
      ·exact .inr h
     ·exact ⟨_,List.mem_set hk _,rfl⟩
     ·intro f hm hne
      simp only
      obtain ⟨i,hi,rfl⟩:=List.getElem_of_mem hm
      have:k≠i:=fun e=>by subst e; exact hne hpk
      refine List.mem_iff_getElem.2 ⟨i,by simpa using hi,?_⟩
      rw [List.getElem_set_ne this]
    ·have c4:(if decide (st≥0) then some (decide (wr≥st)) else some false)=some true:=by
      cases h:decide (st≥0)<;>simp [h] at c3 ⊢
      exact c3
     rw [c4]
     simp only [Option.bind_some,if_true,Bool.not_false]
     exact ⟨_,rfl,rfl,.inr (.inl ⟨rfl,rfl⟩)⟩
 ·simp only at hk e2 hno g1 g2
  have ha:w64 (w64 (total fs-0)+(x.length:Int))=total fs+x.length:=by
   rw [wS (x:=total fs-0) (by omega) (by omega)]
   rw [wS (by omega) (by omega)]; omega
  have ha':w64 (w64 (total fs-(([]:List Int).length :Int))+(x.length:Int))=total fs+x.length:=ha
  have hk0:decide ((-1:Int)≥0)=false:=by decide
  have hk1:decide ((-1:Int)<0)=true:=by decide
  have hlp:uS p (true,{Files:=fs,Budget:=bu,Writes:=wr+1,Stop:=st,Down:=false}) x 0=some (k:Int):=by
   obtain ⟨t,e,rfl⟩:=tK (b:=wW p (true,{Files:=fs,Budget:=bu,Writes:=wr+1,Stop:=st,Down:=false}) x) (fun i s=>s=(i:Int)∧i≤k) k (fun t=>t=(k:Int)) (by
    rintro i s hi ⟨rfl,_⟩
    unfold wW
    have hif:i<fs.length:=by omega
    rw [if_pos (by simp; omega)]
    simp only [wV hif,Option.bind_some,g1 i hif hi,if_true]
    exact .inl ⟨_,rfl,tY (by omega),by omega⟩) (by
    rintro s ⟨rfl,_⟩
    unfold wW
    by_cases hkl:k<fs.length
    ·rw [if_pos (by simp; omega)]
     simp only [wV hkl,Option.bind_some,g2 k hkl (Nat.le_refl _),Bool.false_eq_true,if_false]
     exact ⟨_,rfl,rfl⟩
    ·rw [if_neg (by simp; omega)]
     exact ⟨_,rfl,rfl⟩) k 0 0 (by omega) ⟨rfl,by omega⟩
   exact e
  have hs1:zBY fs 0 (k:Int)=some (fs.take k):=by
   unfold zBY
   rw [if_pos ⟨by omega,by omega,by omega⟩]
   simp
  have hs2:zBY fs (k:Int) (fs.length:Int)=some (fs.drop k):=by
   unfold zBY
   rw [if_pos ⟨by omega,by omega,by omega⟩]
   simp
   exact List.take_of_length_le (by simp)
  have hA1:app 40 ([]:List File) (fs.take k)=some (fs.take k):=by rw [jG (by simp; omega) (by simp; omega)]; rfl
  have hA2:∀g:File,app 40 (fs.take k) [g]=some (fs.take k++[g]):=fun g=>jG (by simp; omega) (by simp; omega)
  have hA3:∀g:File,app 40 (fs.take k++[g]) (fs.drop k)=some (fs.take k++(g::fs.drop k)):=fun g=>by
   rw [jG (by simp; omega) (by simp; omega)]; simp
  have hI:∀g:File,xD fs (k:Int) [g]=some (fs.take k++(g::fs.drop k)):=fun g=>by
   unfold xD
   rw [if_pos ⟨by omega,by omega,by simp,by simp; omega⟩]
   simp
  have hget:∀g:File,idx (fs.take k++(g::fs.drop k)) (k:Int)=some g:=fun g=>by
   have hlk:(fs.take k).length =k:=by simp; omega
   rw [wV (show k< (fs.take k++(g::fs.drop k)).length by simp; omega)]
   rw [List.getElem_append_right (by omega)]
   simp [hlk]
  have hset:∀g g':File,(fs.take k++(g::fs.drop k)).set k g'=fs.take k++(g'::fs.drop k):=fun g g'=>by
   have hlk:(fs.take k).length =k:=by simp; omega
   rw [List.set_append_right _ _ (by omega)]
   simp [hlk]
  unfold yY yA zN xE wN zW zX
  simp only [e1,e2,Option.bind_some,hPF,hT1,hT2,hR,hk0,hk1,if_true,ha,ha',hap,hcl,Bool.not_false,Bool.false_eq_true,if_false,bne_self_eq_false]
  have h120:decide ((fs.length:Int)≥120)=((fs.length:Int)==120):=by
   by_cases h:(fs.length:Int)=120
   ·simp [h]
   ·have:¬((fs.length:Int)≥120):=by omega
    simp [h,this]
  by_cases c1:(x.length:Int)>4000
  ·simp only [c1,decide_true,if_true,Option.bind_some]
   exact ⟨_,rfl,rfl,.inr (.inr ⟨.inl rfl,rfl⟩)⟩
  ·simp only [c1,decide_false,Bool.false_eq_true,if_false,Option.bind_some,h120]
   cases c0:((fs.length:Int)==120)
   ·have hlt:fs.length<120:=by
     have:(fs.length:Int)≠120:=by simpa using c0
     omega
    simp only [Bool.false_eq_true,if_false]
    by_cases c2:total fs+(x.length:Int)>bu
    ·simp only [c2,decide_true,if_true]
     exact ⟨_,rfl,rfl,.inr (.inr ⟨.inr rfl,rfl⟩)⟩
    ·simp only [c2,decide_false,Bool.false_eq_true,if_false]
     cases c3:(decide (st≥0)&&decide (wr≥st))
     ·have c4:(if decide (st≥0) then some (decide (wr≥st)) else some false)=some false:=by
       cases h:decide (st≥0)<;>simp [h] at c3 ⊢
       exact c3
      rw [c4]
      simp only [Option.bind_some,Bool.false_eq_true,if_false,Bool.not_true,hlp,hs1,hs2,hA1,hA2,hA3,hI,hget,Int.toNat_natCast,hset,hw]
      refine ⟨_,rfl,rfl,.inl ⟨rfl,rfl,rfl,rfl,rfl,by simp; omega,zCP hso hno g1 g2,?_,by omega,?_,?_,?_⟩⟩
      ·simp only
       rw [zDC]
       simp only
       omega
      ·intro f hm
       simp only [List.mem_append,List.mem_cons] at hm
       rcases hm with h|h|h
       ·exact .inl (List.mem_of_mem_take h)
       ·exact .inr h
       ·exact .inl (List.mem_of_mem_drop h)
      ·exact ⟨_,by simp,rfl⟩
      ·intro f hm _
       simp only [List.mem_append,List.mem_cons]
       have:f∈fs.take k++fs.drop k:=by rw [List.take_append_drop]; exact hm
       rcases List.mem_append.1 this with h|h
       ·exact .inl h
       ·exact .inr (.inr h)
     ·have c4:(if decide (st≥0) then some (decide (wr≥st)) else some false)=some true:=by
       cases h:decide (st≥0)<;>simp [h] at c3 ⊢
       exact c3
      rw [c4]
      simp only [Option.bind_some,if_true,Bool.not_false]
      exact ⟨_,rfl,rfl,.inr (.inl ⟨rfl,rfl⟩)⟩
   ·simp only [if_true]
    exact ⟨_,rfl,rfl,.inr (.inr ⟨.inl rfl,rfl⟩)⟩
theorem zC0 (d:zA) (c:Int):tV d c=some (if c !=0&&c !=9 then zC1 c else {Code:=c,zA:=d}):=by
 unfold tV zC1
 cases c !=0
 ·rfl
 ·cases c !=9<;>rfl
theorem zBA (d:zA) (c:Int):jI d c=some (if c !=0&&c !=9 then zC1 c else {Code:=c,zA:=d}):=by
 unfold jI zC1
 cases c !=0
 ·rfl
 ·cases c !=9<;>rfl
theorem zAJ:∀{l r:List File},l.Sublist r→total l≤total r
 |_,_,.slnil =>Int.le_refl _
 |_,_,.cons x h=>by have:=zAJ h; simp only [total]; omega
 |_,_,.cons_cons x h=>by have:=zAJ h; simp only [total]; omega
def dropped (d:zA) (p:ByteArray) (c:Int) (r:zA):Prop:=
 (c=9∧r= {d with Down:=true})∨(c=0∧r.Down=false∧r.Writes=d.Writes+1∧r.Budget=d.Budget∧r.Stop=d.Stop∧r.Files.Sublist d.Files∧∀f∈d.Files,f.Path≠p→f∈r.Files)
theorem zDg {d:zA} {p:ByteArray} {x:List Int} {r:Int×zA} (hf:d.fine) (hw:d.Writes+1≤2000000000) (h:wrote d p x r) (h0:r.1=0):r.2.fine∧r.2.Down=false∧r.2.Writes=d.Writes+1:=by
 rcases h with ⟨_,h2,h3,h4,h5,h6,h7,h8,h9,h10,_⟩|⟨h1,_⟩|⟨h1,_⟩
 ·refine ⟨⟨by rw [h4]; exact hf.b1,by have:=hf.w0; omega,by omega,by rw [h5]; exact hf.s0,h6,fun f hm=>?_,h7,by rw [h4]; exact h8⟩,h2,h3⟩
  rcases h10 f hm with h|rfl
  ·exact hf.data f h
  ·exact h9
 ·omega
 ·omega
structure Sr (b:Nat) (s:zL):Prop where
 len:s.Code.length≤1048576
 byt:∀c∈s.Code,0≤c∧c≤255
 a0:0≤s.At
 a1:s.At≤(b:Int)
theorem Sr.mono {b b':Nat} {s:zL} (h:Sr b s) (hb:b≤b'):Sr b' s:=⟨h.len,h.byt,h.a0,by have:=h.a1; omega⟩
theorem zCd {a:List Int} (h:a.length≤1048576) (hb:∀c∈a,0≤c∧c≤255):∃s,uE a=some s∧Sr 0 s:=
 ⟨_,rfl,h,hb,Int.le_refl _,Int.le_refl _⟩
theorem uK {b:Nat} {s:zL} (h:Sr b s) (hb:b≤1000000000) (n:Int):∃r s',zM s n=some (r,s')∧0≤r∧(1≤n→r<n)∧Sr (b+1) s':=by
 obtain ⟨hl,hbt,h0,h1⟩:=h
 have e1:w64 (s.At+1)=s.At+1:=wS (by omega) (by omega)
 have e2:w64 (s.At+1-1)=s.At:=by rw [wS (by omega) (by omega)]; omega
 have hS:Sr (b+1) {Code:=s.Code,At:=s.At+1}:=⟨hl,hbt,by show 0≤s.At+1; omega,by show s.At+1≤_; omega⟩
 unfold zM
 rw [e1,e2]
 by_cases hn:n<1
 ·rw [if_pos (by simpa using hn)]
  exact ⟨0,_,rfl,Int.le_refl _,fun h=>by omega,hS⟩
 rw [if_neg (by simpa using hn)]
 have hr:∀v:Int,0≤v→∃r,zDO v n=some r∧0≤r∧r<n:=fun v hv=>⟨v.tmod n,by unfold zDO; rw [if_neg (by omega)],Int.tmod_nonneg _ hv,Int.tmod_lt_of_pos _ (by omega)⟩
 by_cases hk:((s.Code.length:Int)==0)=true
 ·rw [if_pos hk,wS (x:=s.At*7) (by omega) (by omega)]
  obtain ⟨r,e,g1,g2⟩:=hr (s.At*7) (by omega)
  rw [e]
  exact ⟨r,_,rfl,g1,fun _=>g2,hS⟩
 ·rw [if_neg hk]
  have hkp:0<s.Code.length:=by
   have:¬((s.Code.length:Int)=0):=fun h=>hk (by simp [h])
   omega
  have hrk:∀v:Int,0≤v→∃(q:Nat) (hq:q<s.Code.length),zDO v (s.Code.length:Int)=some (q:Int):=fun v hv=>by
   have g1:=Int.tmod_nonneg (s.Code.length:Int) hv
   have g2:=Int.tmod_lt_of_pos v (b:=(s.Code.length:Int)) (by omega)
   refine ⟨(v.tmod (s.Code.length:Int)).toNat,by omega,?_⟩
   unfold zDO
   rw [if_neg (by omega)]
   congr 1
   omega
  obtain ⟨q,hq,eq⟩:=hrk s.At h0
  obtain ⟨q2,hq2,eq2⟩:=hrk (s.At+1) (by omega)
  have hc:=hbt _ (List.getElem_mem hq)
  have hc2:=hbt _ (List.getElem_mem hq2)
  obtain ⟨d,ed,d0,d1⟩:∃d,zFv .i64 s.At (s.Code.length:Int)=some d∧0≤d∧d≤s.At:=by
   have g1:=Int.tdiv_nonneg h0 (show 0≤(s.Code.length:Int) by omega)
   have g2:s.At.tdiv (s.Code.length:Int)≤s.At:=by
    rw [Int.tdiv_eq_ediv_of_nonneg h0]
    exact Int.ediv_le_self _ h0
   refine ⟨s.At.tdiv (s.Code.length:Int),?_,g1,g2⟩
   unfold zFv
   rw [if_neg (by omega)]
   congr 1
   exact wS (by omega) (by omega)
  rw [eq]
  simp only [Option.bind_some,wV hq,ed]
  rw [wS (x:=s.At+1) (by omega) (by omega),eq2]
  simp only [Option.bind_some,wV hq2]
  rw [wS (x:=s.Code[q]) (by omega) (by omega),wS (x:=d*37) (by omega) (by omega),wS (x:=s.Code[q]+d*37) (by omega) (by omega),wS (x:=(s.Code[q]+d*37)*251) (by omega) (by omega),
   wS (x:=s.Code[q2]) (by omega) (by omega),wS (x:=s.Code[q2]*13) (by omega) (by omega),wS (x:=(s.Code[q]+d*37)*251+s.Code[q2]*13) (by omega) (by omega),wS (x:=(s.Code[q]+d*37)*251+s.Code[q2]*13+s.At) (by omega) (by omega)]
  by_cases h200:n>200
  ·rw [if_pos (by simpa using h200)]
   obtain ⟨r,e,g1,g2⟩:=hr ((s.Code[q]+d*37)*251+s.Code[q2]*13+s.At) (by omega)
   simp only [Option.bind_some,e]
   exact ⟨r,_,rfl,g1,fun _=>g2,hS⟩
  ·rw [if_neg (by simpa using h200)]
   obtain ⟨r,e,g1,g2⟩:=hr (s.Code[q]+d*37) (by omega)
   simp only [Option.bind_some,e]
   exact ⟨r,_,rfl,g1,fun _=>g2,hS⟩
theorem kS {b:Nat} {s:zL} (h:Sr b s) (hb:b≤1000000000) (n:Int):∃r s',xM s n=some (r,s')∧Sr (b+1) s':=by
 obtain ⟨r,s',e,_,_,h'⟩:=uK h hb n
 unfold xM
 rw [e]
 exact ⟨_,_,rfl,h'⟩
theorem at_next {α:Type} {b:Nat} {s:zL} (h:Sr b s) (hb:b≤1000000000) {l:List α} {n:Int} (hn:n=(l.length:Int)) (hl:l≠[]):
  ∃r s' x,zM s n=some (r,s')∧idx l r=some x∧x∈l∧Sr (b+1) s':=by
 obtain ⟨r,s',e,g1,g2,h'⟩:=uK h hb n
 have hlp:0<l.length:=List.length_pos_iff.2 hl
 have g3:=g2 (by omega)
 obtain ⟨q,rfl⟩:=Int.eq_ofNat_of_zero_le g1
 have hq:q<l.length:=by omega
 exact ⟨_,s',l[q],e,wV hq,List.getElem_mem hq,h'⟩
theorem jH {b:Nat} {s:zL} (h:Sr b s) (hb:b≤1000000000) (l:List Int) (hl:l≠[]):∃x s',yL s l=some (x,s')∧x∈l∧Sr (b+1) s':=by
 obtain ⟨r,s',x,e1,e2,hx,h'⟩:=at_next h hb (l:=l) rfl hl
 unfold yL
 rw [e1]
 simp only [Option.bind_some,e2]
 exact ⟨x,s',rfl,hx,h'⟩
theorem vT (d:zA) (hg:d.good):yD d=some 0:=by
 have hl:=hg.len
 unfold yD
 simp only [zFh,Option.bind_some]
 simp [hg.b0,hg.b1,hg.w0,hg.w1,hg.s0,hg.s1]
 rw [if_neg (by omega)]
 obtain ⟨t,e,rfl⟩:=tK (b:=yR d) (fun i s=>s=(i:Int)) d.Files.length (fun t=>t= .nxt ()) (by
  rintro i s hi rfl
  unfold yR
  rw [if_pos (by simp; omega)]
  have hp:=hg.path _ (List.getElem_mem hi)
  have hd:=hg.data _ (List.getElem_mem hi)
  rcases jC d.Files[i].Path with ⟨_,e⟩|⟨h,_⟩
  ·simp only [wV hi,Option.bind_some,e]
   have key:(if decide ((i:Int)>0) then (idx d.Files (w64 ((i:Int)-1))).bind fun x39=>some (slt d.Files[i].Path x39.Path||seq d.Files[i].Path x39.Path) else some false)=some false:=by
    by_cases h0:i=0
    ·subst h0; simp
    ·rw [if_pos (by simp; omega),wS (by omega) (by omega),show ((i:Int)-1)=((i-1:Nat):Int) by omega,wV (show i-1<d.Files.length by omega)]
     have hs:=List.pairwise_iff_getElem.1 hg.sorted (i-1) i (by omega) hi (by omega)
     simp only [Option.bind_some]
     rw [zD4 hs,seq_eq]
     have:=zDF hs
     simp
     exact fun e=>this e.symm
   rw [if_neg (by simp),key]
   simp only [Option.bind_some]
   rw [if_neg (by simp),if_neg (by simp; omega),tY (by omega)]
   exact .inl ⟨_,rfl,rfl⟩
  ·exact absurd hp h) (by
  rintro s rfl
  unfold yR
  rw [if_neg (by simp)]
  exact ⟨_,rfl,rfl⟩) d.Files.length 0 0 (by omega) rfl
 simp only [xH,e,Option.bind_some,Fl.go]
 rw [tQ d (by omega) (fun f hf=>by have:=hg.data f hf; omega)]
 simp only [Option.bind_some]
 rw [if_neg (by have:=hg.room; omega)]
theorem zAd {d:zA} (hg:d.good) (hdn:d.Down=false) (p:ByteArray):
  (∃k:Nat,∃hk:k<d.Files.length,d.Files[k].Path =p∧vB d p=some {Code:=0,File:= {Path:=p,Data:=d.Files[k].Data}}∧yV d p=some {Code:=0,File:= {Path:=p,Data:=d.Files[k].Data}})∨
  ((∀f∈d.Files,f.Path≠p)∧vB d p=some {Code:=4,File:= {Path:=ByteArray.empty,Data:=[]}}∧yV d p=some {Code:=4,File:= {Path:=ByteArray.empty,Data:=[]}}):=by
 unfold vB yV
 rw [xY,vT d hg,hdn]
 rcases zD1 d p hg with ⟨k,hk,e1,e2,hp⟩|⟨e1,e2,hp⟩
 ·left
  refine ⟨k,hk,hp,?_,?_⟩<;>
  ·first|rw [e1]|rw [e2]
   have hdl:=hg.data _ (List.getElem_mem hk)
   have ha:app 1 ([]:List Int) d.Files[k].Data =some d.Files[k].Data :=jG (by simp; omega) (by simp; omega)
   have hn:¬((k:Int)<0):=by omega
   simp [wV hk,ha,zV,hn]
 ·right
  exact ⟨hp,by rw [e1]; rfl,by rw [e2]; rfl⟩
theorem zAZ {d:zA} {p:ByteArray} {x:List Int} {r:Int×zA} (hf:d.fine) (hd:d.Down=false) (h:yY d p x=some r) (h9:r.1=9):d.Stop≥0:=by
 by_cases hs:d.Stop≥0
 ·exact hs
 exfalso
 have hR:=zCn hf hd
 have e:decide (d.Stop≥0)=false:=by simpa using hs
 rw [e] at hR
 simp only [Bool.false_and,Bool.false_eq_true,if_false] at hR
 unfold yY at h
 rw [hR] at h
 simp only [Option.bind_some,Bool.not_true,Bool.false_eq_true,if_false] at h
 obtain ⟨x4,_,h⟩:=Option.bind_eq_some_iff.1 h
 obtain ⟨v9,_,h⟩:=Option.bind_eq_some_iff.1 h
 obtain ⟨v12,_,h⟩:=Option.bind_eq_some_iff.1 h
 split at h
 ·cases h; cases h9
 ·obtain ⟨x14,_,h⟩:=Option.bind_eq_some_iff.1 h
  split at h
  ·cases h; cases h9
  ·obtain ⟨x20,_,h⟩:=Option.bind_eq_some_iff.1 h
   split at h
   ·obtain ⟨x23,_,h⟩:=Option.bind_eq_some_iff.1 h
    cases h; cases h9
   ·obtain ⟨v36,_,h⟩:=Option.bind_eq_some_iff.1 h
    obtain ⟨x37,_,h⟩:=Option.bind_eq_some_iff.1 h
    obtain ⟨x39,_,h⟩:=Option.bind_eq_some_iff.1 h
    obtain ⟨x41,_,h⟩:=Option.bind_eq_some_iff.1 h
    obtain ⟨x43,_,h⟩:=Option.bind_eq_some_iff.1 h
    obtain ⟨x45,_,h⟩:=Option.bind_eq_some_iff.1 h
    cases h; cases h9
theorem zCL {d:zA} {p:ByteArray} {x:List Int} {r:zA} (hg:d.good) (hw:d.Writes<1000000000) (hp:jR p) (h:wrote d p x (0,r)):r.good∧r.Down=false∧r.Writes=d.Writes+1∧ {Path:=p,Data:=x}∈r.Files∧r.Budget=d.Budget∧x.length≤4000:=by
 rcases h with ⟨_,h2,h3,h4,h5,h6,h7,h8,h9,h10,⟨f,hf,rfl⟩,_⟩|⟨h1,_⟩|⟨h1,_⟩
 ·simp only at h2 h3 h4 h5 h6 h7 h8 h10 hf
  refine ⟨⟨by rw [h4]; exact hg.b0,by rw [h4]; exact hg.b1,by have:=hg.w0; omega,by omega,by rw [h5]; exact hg.s0,by rw [h5]; exact hg.s1,h6,fun f hm=>?_,fun f hm=>?_,h7,by rw [h4]; exact h8⟩,h2,h3,hf,h4,h9⟩
  ·rcases h10 f hm with h|rfl
   ·exact hg.path f h
   ·exact hp
  ·rcases h10 f hm with h|rfl
   ·exact hg.data f h
   ·exact h9
 ·simp at h1
 ·simp at h1
theorem zD6 {fs:List File} (hs:fs.Pairwise (fun f g=>slt f.Path g.Path=true)) {f g:File} (hf:f∈fs) (hg:g∈fs) (h:f.Path=g.Path):f=g:=by
 obtain ⟨i,hi,rfl⟩:=List.getElem_of_mem hf
 obtain ⟨j,hj,rfl⟩:=List.getElem_of_mem hg
 have:=zBj hs hi hj h
 subst this
 rfl
theorem zDa (l:List ByteArray) (p:ByteArray) (hl:l.length≤1048576) (h:p∈l):wB l p=some true:=by
 obtain ⟨t,e,rfl⟩:=tK (b:=uM l p) (fun i s=>s=(i:Int)∧p∉l.take i) l.length (fun t=>t= .ret true) (by
  rintro i s hi ⟨rfl,hn⟩
  unfold uM
  rw [if_pos (by simp; omega),wV hi]
  simp only [Option.bind_some]
  by_cases hp:l[i]=p
  ·rw [if_pos (zA6.2 hp)]
   exact .inr ⟨_,rfl,rfl⟩
  ·rw [if_neg (fun h'=>hp (zA6.1 h')),tY (by omega)]
   refine .inl ⟨_,rfl,rfl,fun hm=>?_⟩
   rw [List.take_succ_eq_append_getElem hi] at hm
   rcases List.mem_append.1 hm with hm|hm
   ·exact hn hm
   ·exact hp (List.mem_singleton.1 hm).symm) (by
  rintro s ⟨rfl,hn⟩
  rw [List.take_length] at hn
  exact absurd h hn) l.length 0 0 (by omega) ⟨rfl,by simp⟩
 unfold wB vX
 rw [e]
 rfl
theorem zCk (p:ByteArray):begins p p=true:=by
 unfold begins
 simp
theorem kP {d:zA} (hg:d.good):yS d=some {Code:=0,Value:=total d.Files}:=by
 unfold yS
 rw [xY,vT d hg,zBe,tQ d (by have:=hg.len; omega) (fun f hf=>by have:=hg.data f hf; omega)]
 rfl
theorem zCQ {d:zA} (hf:d.fine) (hdn:d.Down=false) {p:ByteArray} (hp:∃f∈d.Files,f.Path=p):
  ∃c r,wG d p=some (c,r)∧dropped d p c r∧(c=0→∀f∈r.Files,f.Path≠p):=by
 obtain ⟨fs,bu,wr,st,dn⟩:=d
 simp only at hdn hp
 subst hdn
 have hl:=hf.len; have hw0:=hf.w0; have hw1:=hf.w1; have hso:=hf.sorted
 simp only at hl hw0 hw1 hso
 have hR:=zCn hf rfl
 simp only at hR
 have hw:w64 (wr+1)=wr+1:=wS (by omega) (by omega)
 rcases zAk {Files:=fs,Budget:=bu,Writes:=wr,Stop:=st,Down:=false} p hl hso with ⟨k,hk,e1,e2,hpk⟩|⟨e1,hno,_⟩
 ·simp only at hk e2 hpk
  have hk1:w64 ((k:Int)+1)=((k+1:Nat):Int):=tY (by omega)
  have hs1:zBY fs 0 (k:Int)=some (fs.take k):=by
   unfold zBY
   rw [if_pos ⟨by omega,by omega,by omega⟩]
   simp
  have hs2:zBY fs ((k+1:Nat):Int) (fs.length:Int)=some (fs.drop (k+1)):=by
   rw [zEN (by omega) (Nat.le_refl _)]
   rw [List.take_of_length_le (by simp)]
  have hA1:app 40 ([]:List File) (fs.take k)=some (fs.take k):=by rw [jG (by simp; omega) (by simp; omega)]; rfl
  have hA2:app 40 (fs.take k) (fs.drop (k+1))=some (fs.take k++fs.drop (k+1)):=jG (by simp; omega) (by simp; omega)
  have hD:xC fs (k:Int) ((k+1:Nat):Int)=some (fs.take k++fs.drop (k+1)):=by
   unfold xC
   rw [if_pos ⟨by omega,by omega,by omega,by omega⟩]
   simp
  unfold wG zR wC zX
  simp only [e2,Option.bind_some,Bool.not_true,Bool.false_eq_true,if_false,hk1,hD]
  cases c3:(decide (st≥0)&&decide (wr≥st))
  ·have c4:(if decide (st≥0) then some (decide (wr≥st)) else some false)=some false:=by
    cases h:decide (st≥0)<;>simp [h] at c3 ⊢
    exact c3
   rw [c4]
   simp only [Option.bind_some,Bool.false_eq_true,if_false]
   refine ⟨0,{Files:=fs.take k++fs.drop (k+1),Budget:=bu,Writes:=wr+1,Stop:=st,Down:=false},?_,.inr ⟨rfl,rfl,rfl,rfl,rfl,?_,?_⟩,?_⟩
   ·rw [hw]
   ·show (fs.take k++fs.drop (k+1)).Sublist fs
    conv=>rhs; rw [←List.take_append_drop k fs]
    refine List.Sublist.append (List.Sublist.refl _) ?_
    rw [List.drop_eq_getElem_cons hk]
    exact List.sublist_cons_self _ _
   ·intro f hm hne
    show f∈fs.take k++fs.drop (k+1)
    have hm':f∈fs.take k++fs[k]::fs.drop (k+1):=by rw [←List.drop_eq_getElem_cons hk,List.take_append_drop]; exact hm
    rcases List.mem_append.1 hm' with h|h
    ·exact List.mem_append_left _ h
    ·rcases List.mem_cons.1 h with h|h
     ·exact absurd (h▸hpk) hne
     ·exact List.mem_append_right _ h
   ·intro _ f hm
    have hm':f∈fs.take k++fs.drop (k+1):=hm
    rcases List.mem_append.1 hm' with h|h
    ·obtain ⟨i,hi,rfl⟩:=List.getElem_of_mem h
     rw [List.getElem_take]
     rw [List.length_take] at hi
     have:=List.pairwise_iff_getElem.1 hso i k (by omega) hk (by omega)
     rw [hpk] at this
     exact zDF this
    ·obtain ⟨i,hi,rfl⟩:=List.getElem_of_mem h
     rw [List.getElem_drop]
     rw [List.length_drop] at hi
     have:=List.pairwise_iff_getElem.1 hso k (k+1+i) hk (by omega) (by omega)
     rw [hpk] at this
     exact (zDF this).symm
  ·have c4:(if decide (st≥0) then some (decide (wr≥st)) else some false)=some true:=by
    cases h:decide (st≥0)<;>simp [h] at c3 ⊢
    exact c3
   rw [c4]
   simp only [Option.bind_some,if_true]
   exact ⟨9,_,rfl,.inl ⟨rfl,rfl⟩,fun h=>by cases h⟩
 ·obtain ⟨f,hm,e⟩:=hp
  exact absurd e (hno f hm)
theorem zB4 (s p:ByteArray):strings_HasPrefix s p=some (begins s p):=by
 unfold strings_HasPrefix zY begins
 by_cases h:p.size≤s.size
 ·rw [if_pos (by simp; omega)]
  unfold zFa
  rw [if_pos (by omega)]
  simp [h]
 ·rw [if_neg (by simp; omega)]
  simp [h]
theorem zDb (d:zA) (p:ByteArray) (h:d.Files.length≤1048576):wQ d p=some (vJ d.Files p):=by
 obtain ⟨t,e,rfl⟩:=tK (b:=wM d p) (fun i s=>s=(vJ (d.Files.take i) p,(i:Int))) d.Files.length (fun t=>t=vJ d.Files p) (by
  rintro i s hi rfl
  unfold wM
  rw [if_pos (by simp; omega)]
  have hl:=kI (d.Files.take i) p
  have hl2:(d.Files.take i).length ≤i:=by simp; omega
  have ha:∀x:ByteArray,app 16 (vJ (d.Files.take i) p) [x]=some (vJ (d.Files.take i) p++[x]):=fun x=>jG (by simp; omega) (by simp; omega)
  have hsplit:vJ (d.Files.take (i+1)) p=vJ (d.Files.take i) p++vJ [d.Files[i]] p:=by
   rw [List.take_succ_eq_append_getElem hi,zAX]
  simp only [wV hi,Option.bind_some,zB4,ha,tY (show i<9223372036854775807 by omega)]
  cases hb:begins d.Files[i].Path p with
  |true=>exact .inl ⟨_,rfl,by rw [hsplit]; simp [vJ,hb]⟩
  |false=>exact .inl ⟨_,rfl,by rw [hsplit]; simp [vJ,hb]⟩) (by
  rintro s rfl
  unfold wM
  rw [if_neg (by simp)]
  exact ⟨_,rfl,by simp⟩) d.Files.length 0 ([],0) (by omega) (by simp [vJ])
 simp only [wQ,wZ,e,Option.bind_some]
theorem zDG (d:zA) (p:ByteArray) (x:List Int) (s0:zA.sm 1048576 d) (s1:p.size≤1048576) (s2:x.length≤1048576) (hw:d.good→d.Writes≤1000) (a:List Int) (ha:a.length≤1048576) (hD:yZ a=some (d,p,x)):vL a=some true:=by
 obtain ⟨k,ek,hk⟩:=zAW d s0.1.1
 have hbig:uQ a=some false:=by
  unfold uQ
  congr 1
  simp; omega
 unfold vL
 rw [hbig,hD]
 simp only [Option.bind_some,Bool.false_eq_true,if_false,ek]
 by_cases h1:k=0
 rotate_left
 ·have hk1:(k !=0)=true:=by simpa using h1
  have hk2:(k==0)=false:=by simpa using h1
  have e1:xX d p x=some {Code:=k,zA:= {Files:=[],Budget:=0,Writes:=0,Stop:=0,Down:=false}}:=by
   unfold xX vK
   rw [ek]
   simp only [Option.bind_some,hk1,if_true]
  have e2:xA d p x=some {Code:=k,zA:= {Files:=[],Budget:=0,Writes:=0,Stop:=0,Down:=false}}:=by
   unfold xA zQ
   rw [xY,ek]
   simp only [Option.bind_some,hk1,hk2,if_true,Bool.false_eq_true,if_false]
  rw [e2,e1]
  simp only [Option.bind_some,hk2,hk1,if_true]
  cases k==9<;>cases d.Down<;>simp
 subst h1
 have hg:=hk rfl
 cases hdn:d.Down
 rotate_left
 ·have e1:xX d p x=some {Code:=9,zA:= {Files:=[],Budget:=0,Writes:=0,Stop:=0,Down:=false}}:=by
   unfold xX vK
   rw [ek,hdn]
   rfl
  have e2:xA d p x=some {Code:=9,zA:= {Files:=[],Budget:=0,Writes:=0,Stop:=0,Down:=false}}:=by
   unfold xA zQ
   rw [xY,ek,hdn]
   rfl
  rw [e2,e1]
  rfl
 have ews:xX d p x=(yJ p).bind fun c=>if c !=0 then some {Code:=c,zA:= {Files:=[],Budget:=0,Writes:=0,Stop:=0,Down:=false}} else (yY d p x).bind fun r=>some (if r.1 !=0&&r.1 !=9 then zC1 r.1 else {Code:=r.1,zA:=r.2}):=by
  unfold xX vK
  rw [ek,hdn,zBX d (zA.zD9 s0)]
  simp only [Option.bind_some,Bool.false_eq_true,if_false,bne_self_eq_false,zC0]
 have ewi:xA d p x=(yA d p x).bind fun r=>some (if r.1 !=0&&r.1 !=9 then zC1 r.1 else {Code:=r.1,zA:=r.2}):=by
  unfold xA zQ
  rw [xY,ek,hdn,zAE d (zA.zD9 s0)]
  simp only [Option.bind_some,Bool.false_eq_true,if_false,bne_self_eq_false,beq_self_eq_true,if_true,zBA,wJ]
  cases yA d p x<;>rfl
 rcases jC p with ⟨hp,ep⟩|⟨_,ep⟩
 rotate_left
 ·obtain ⟨r,er⟩:=zDw d p s0.1.1
  have:yA d p x=some (5,d):=by
   unfold yA
   rw [jV,ep,er]
   rfl
  rw [ews,ewi,ep,this]
  rfl
 obtain ⟨⟨c,d'⟩,w1,w2,w3⟩:=zAg hg.fine hdn hp (x:=x) s2
 rw [ews,ewi,ep,w1,w2]
 simp only [Option.bind_some,bne_self_eq_false,Bool.false_eq_true,if_false]
 have w3':=w3
 rcases w3 with ⟨h1,h2⟩|⟨h1,h2⟩|⟨h1,h2⟩
 ·
  simp only at h1
  subst h1
  obtain ⟨g1,g2,g3,g4,g5,g6⟩:=zCL hg (by have:=hw hg; omega) hp w3'
  have hr:=zAd g1 g2 p
  obtain ⟨k,hk,hkp,_,er⟩:∃k:Nat,∃hk:k<d'.Files.length,d'.Files[k].Path =p∧True∧yV d' p=some {Code:=0,File:= {Path:=p,Data:=d'.Files[k].Data}}:=by
   rcases hr with ⟨k,hk,h1,_,h3⟩|⟨h1,_⟩
   ·exact ⟨k,hk,h1,trivial,h3⟩
   ·exact absurd rfl (h1 _ g4)
  have hkx:d'.Files[k]= {Path:=p,Data:=x}:=zD6 g1.sorted (List.getElem_mem hk) g4 hkp
  rw [hkx] at er
  have ep2:wI d' p=some {Code:=0,Names:=vJ d'.Files p}:=by
   unfold wI
   rw [xY,vT d' g1,zDb d' p (by have:=g1.len; omega)]
   rfl
  have eh:wB (vJ d'.Files p) p=some true:=by
   refine zDa _ _ (by have:=kI d'.Files p; have:=g1.len; omega) ?_
   unfold vJ
   exact List.mem_map.2 ⟨_,List.mem_filter.2 ⟨g4,zCk p⟩,rfl⟩
  obtain ⟨cd,dd,y2,y3⟩:=zCQ g1.fine g2 (p:=p) ⟨_,g4,rfl⟩
  have edr:vM d' p=some {Code:=cd,zA:=dd}:=by
   unfold vM yH
   rw [xY,vT d' g1,g2,zAE d' (zA.zBK g1)]
   simp only [Option.bind_some,Bool.false_eq_true,if_false,bne_self_eq_false,beq_self_eq_true,if_true,zBA,wX,y2]
   rcases y3.1 with ⟨rfl,_⟩|⟨rfl,_⟩<;>rfl
  have htot:total d'.Files≤d.Budget:=by rw [←g5]; exact g1.room
  have hseq:seq (b2s x) (b2s x)=true:=zC4 _
  have e9:((0:Int)==9)=false:=by decide
  simp only [edr,er,ep2,eh,xY,vT d' g1,kP g1,Option.bind_some,htot,hseq,e9,beq_self_eq_true,decide_true,if_true,Bool.false_eq_true,if_false,bne_self_eq_false,Bool.false_and]
  rcases y3.1 with ⟨rfl,_⟩|⟨rfl,z2,z3,z4,z5,z6,z7⟩
  ·rfl
  ·have hgd:dd.good:=⟨by rw [z4]; exact g1.b0,by rw [z4]; exact g1.b1,by have:=g1.w0; omega,by have:=hw hg; omega,by rw [z5]; exact g1.s0,by rw [z5]; exact g1.s1,Nat.le_trans z6.length_le g1.len,fun f hm=>g1.path f (z6.subset hm),fun f hm=>g1.data f (z6.subset hm),g1.sorted.sublist z6,by rw [z4]; exact Int.le_trans (zAJ z6) g1.room⟩
   rcases zAd hgd z2 p with ⟨q,hq,hqp,_⟩|⟨_,_,e⟩
   ·exact absurd hqp (y3.2 rfl _ (List.getElem_mem hq))
   ·rw [e]
    simp
 ·
  simp only at h1 h2
  subst h1 h2
  have hs:=zAZ hg.fine hdn w1 rfl
  have hg':zA.good {d with Down:=true}:=⟨hg.b0,hg.b1,hg.w0,hg.w1,hg.s0,hg.s1,hg.len,hg.path,hg.data,hg.sorted,hg.room⟩
  have hup:zA.good {d with Down:=false,Writes:=0,Stop:= -1}:=⟨hg.b0,hg.b1,Int.le_refl _,by show (0:Int)≤_; decide,Int.le_refl _,by show (-1:Int)≤_; decide,hg.len,hg.path,hg.data,hg.sorted,hg.room⟩
  have eR:vE {d with Down:=true} (-1)=some {Code:=0,zA:= {d with Down:=false,Writes:=0,Stop:= -1}}:=by
   unfold vE
   rw [xY,vT _ hg',zAE _ (zA.zBK hg')]
   simp only [Option.bind_some,zD8]
   rfl
  have e9:((9:Int) !=0&&(9:Int) !=9)=false:=by decide
  simp only [e9,Bool.false_eq_true,if_false,beq_self_eq_true,if_true,Bool.not_false,Option.bind_some,eR,hs,decide_true,kP hg',kP hg]
  rcases zAd hup rfl p with ⟨k,hk,q1,_,q3⟩|⟨q1,_,q3⟩
  ·rcases zAd hg hdn p with ⟨k',hk',r1,r2,_⟩|⟨r1,_,_⟩
   ·have:d.Files[k]=d.Files[k']:=zD6 hg.sorted (List.getElem_mem hk) (List.getElem_mem hk') (q1.trans r1.symm)
    rw [q3,r2]
    simp only [Option.bind_some,beq_self_eq_true,if_true]
    rw [this,zC4]
    simp
   ·exact absurd q1 (r1 _ (List.getElem_mem hk))
  ·rcases zAd hg hdn p with ⟨k',hk',r1,_,_⟩|⟨_,r2,_⟩
   ·exact absurd r1 (q1 _ (List.getElem_mem hk'))
   ·rw [q3,r2]
    simp
 ·
  simp only at h1 h2
  subst h2
  rcases h1 with rfl|rfl<;>simp [zC1]
theorem some_spec {b:Nat} {s:zL} (h:Sr b s) (n:Int) (hn:n≤100000) (hb:b+100000≤1000000000):
  ∃x s',wR s n=some (x,s')∧x.length=n.toNat∧Sr (b+n.toNat) s':=by
 obtain ⟨t,e,x,s',rfl,hx,hs⟩:=tK (b:=uD) (fun i q=>∃x s',q=(s'.Code,s'.At,n-(i:Int),x)∧x.length=i∧Sr (b+i) s') n.toNat (fun t=>∃x s',t=(s'.Code,s'.At,x)∧x.length=n.toNat∧Sr (b+n.toNat) s') (by
  rintro i q hi ⟨x,s',rfl,hx,hs⟩
  unfold uD
  simp only
  rw [if_pos (by simp; omega)]
  obtain ⟨r,s2,e,_,_,h2⟩:=uK hs (by omega) 256
  have e':zM {Code:=s'.Code,At:=s'.At} 256=some (r,s2):=e
  rw [e']
  simp only [Option.bind_some]
  rw [jG (by simp; omega) (by simp; omega),wS (x:=n-(i:Int)-1) (by omega) (by omega)]
  refine .inl ⟨_,rfl,_,s2,by rw [show n-(i:Int)-1=n-((i+1:Nat):Int) by omega],by simp [hx],?_⟩
  exact h2.mono (by omega)) (by
  rintro q ⟨x,s',rfl,hx,hs⟩
  unfold uD
  simp only
  rw [if_neg (by simp; omega)]
  exact ⟨_,rfl,x,s',rfl,hx,hs⟩) n.toNat 0 (s.Code,s.At,n,[]) (by omega) ⟨[],s,by simp,rfl,h⟩
 refine ⟨x,s',?_,hx,hs⟩
 unfold wR
 rw [show uJ (s.Code,s.At,n,([]:List Int))=some (s'.Code,s'.At,x) from e]
 rfl
theorem zDI {l:List UInt8} (h1:1≤l.length) (h2:l.length≤40) (h3:∀c∈l,zBE (c.toNat:Int)=true):jR (bs l):=by
 have e:(bs l).toList =l:=by rw [ByteArray.toList_eq]; rfl
 refine ⟨h1,h2,fun c hc=>?_⟩
 unfold bl at hc
 rw [e] at hc
 obtain ⟨b,hb,rfl⟩:=List.mem_map.1 hc
 exact h3 b hb
theorem zBB {b:Nat} {s:zL} (h:Sr b s) (hb:b≤1000000000):∃p s',vC s=some (p,s')∧jR p∧Sr (b+1) s':=by
 obtain ⟨r,s',x,e1,e2,hx,h'⟩:=at_next h hb (l:=[bs [97],bs [98,47,99],bs [99,117,114],bs [103,101,110,47,48,48,48,48,48,49],bs [112,107,103,47,97,45,49,46,48,46,48],bs [112,108,97,110],bs [120,95,49]]) (n:=7) rfl (by simp)
 refine ⟨x,s',?_,?_,h'⟩
 ·unfold vC
  rw [e1]
  simp only [Option.bind_some,e2]
 ·simp only [List.mem_cons,List.not_mem_nil,or_false] at hx
  rcases hx with rfl|rfl|rfl|rfl|rfl|rfl|rfl<;>exact zDI (by decide) (by decide) (by decide)
theorem kZ {b:Nat} {s:zL} (h:Sr b s) (hb:b+1≤1000000000):∃p s',xL s=some (p,s')∧p.size≤100∧Sr (b+2) s':=by
 obtain ⟨q,s1,e,h1⟩:=kS h (by omega) 14
 unfold xL
 rw [e]
 simp only [Option.bind_some]
 cases q
 ·obtain ⟨p,s2,e2,h2,h3⟩:=zBB h1 (by omega)
  rw [e2]
  exact ⟨p,s2,rfl,by have:=h2.2.1; omega,h3⟩
 ·obtain ⟨r,s',x,e1,e2,hx,h'⟩:=at_next h1 (by omega) (l:=[bs [],bs [65],bs [97,32,98],bs [97,98,99,100,101,102,103,104,105,106,97,98,99,100,101,102,103,104,105,106,97,98,99,100,101,102,103,104,105,106,97,98,99,100,101,102,103,104,105,106],bs [97,98,99,100,101,102,103,104,105,106,97,98,99,100,101,102,103,104,105,106,97,98,99,100,101,102,103,104,105,106,97,98,99,100,101,102,103,104,105,106,107],bs [97,10]]) (n:=6) rfl (by simp)
  rw [e1]
  simp only [Option.bind_some,e2,if_true]
  refine ⟨x,s',rfl,?_,h'⟩
  simp only [List.mem_cons,List.not_mem_nil,or_false] at hx
  rcases hx with rfl|rfl|rfl|rfl|rfl|rfl<;>decide
structure zA.drawn (d:zA) (k:Nat):Prop where
 fine:d.fine
 up:d.Down=false
 stop:d.Stop= -1
 wr:d.Writes≤(k:Int)
 path:∀f∈d.Files,f.Path.size≤40
theorem zCv {d:zA} {k:Nat} (h:d.drawn k) (hk:k≤1000) {p:ByteArray} (hp:jR p) {x:List Int} (hx:x.length≤1048576):∃r,yY d p x=some r∧r.2.drawn (k+1):=by
 obtain ⟨⟨c,d'⟩,w1,_,w3⟩:=zAg h.fine h.up hp (x:=x) hx
 refine ⟨_,w1,?_⟩
 have w3':=w3
 rcases w3 with ⟨h1,h2,h3,h4,h5,h6,h7,h8,h9,h10,_⟩|⟨h1,h2⟩|⟨h1,h2⟩
 ·obtain ⟨g1,g2,g3⟩:=zDg h.fine (by have:=h.wr; omega) w3' h1
  refine ⟨g1,g2,by rw [h5]; exact h.stop,by have:=h.wr; have e:d'.Writes=d.Writes+1:=g3; show d'.Writes≤_; omega,fun f hf=>?_⟩
  rcases h10 f hf with hh|rfl
  ·exact h.path f hh
  ·exact hp.2.1
 ·have:=zAZ h.fine h.up w1 h1
  have:=h.stop
  omega
 ·simp only at h2
  show d'.drawn _
  rw [h2]
  exact ⟨h.fine,h.up,h.stop,by have:=h.wr; omega,h.path⟩
theorem zDD {b:Nat} {s:zL} (h:Sr b s) (hb:b≤100000):∃d s',uO s=some (d,s')∧zA.sm 1048576 d∧d.Files.length≤200∧(d.good→d.Writes≤1000)∧ -1≤d.Budget∧d.Budget≤30000∧(∀f∈d.Files,f.Data.length≤5000)∧Sr (b+2000) s':=by
 obtain ⟨bu,s1,e1,hbu,h1⟩:=jH h (by omega) [100,40,1000,20000] (by simp)
 have hB:0≤bu∧bu≤20000:=by
  simp only [List.mem_cons,List.not_mem_nil,or_false] at hbu
  rcases hbu with rfl|rfl|rfl|rfl<;>decide
 have eE:vF bu=some {Code:=0,zA:= {Files:=[],Budget:=bu,Writes:=0,Stop:= -1,Down:=false}}:=by
  unfold vF
  rw [zED]
  have:inB bu 0 20000=true:=by unfold inB; simp [hB.1,hB.2]
  rw [this]
  rfl
 obtain ⟨n,s2,e2,hn0,hn1,h2⟩:=uK h1 (by omega) 6
 have hn6:=hn1 (by omega)
 have d0:zA.drawn {Files:=[],Budget:=bu,Writes:=0,Stop:= -1,Down:=false} 0:=⟨⟨hB.2,Int.le_refl _,by show (0:Int)≤_; decide,Int.le_refl _,by simp,by simp,.nil,by simp [total]; exact hB.1⟩,rfl,rfl,Int.le_refl _,by simp⟩
 obtain ⟨t,e3,d,s3,rfl,hd,h3⟩:=tK (b:=vZ) (fun i q=>∃(d:zA) (s':zL),q=(s'.Code,s'.At,d.Files,d.Budget,d.Writes,d.Stop,d.Down,n-(i:Int))∧(d.drawn i∧d.Budget=bu)∧Sr (b+2+25*i) s') n.toNat
  (fun t=>∃(d:zA) (s':zL),t=(s'.Code,s'.At,d.Files,d.Budget,d.Writes,d.Stop,d.Down)∧(d.drawn n.toNat∧d.Budget=bu)∧Sr (b+2+25*n.toNat) s') (by
  rintro i q hi ⟨d,s',rfl,⟨hd,hdb⟩,hs⟩
  unfold vZ
  simp only
  rw [if_pos (by simp; omega)]
  obtain ⟨p,u1,f1,hp,g1⟩:=zBB hs (by omega)
  obtain ⟨m,u2,f2,hm0,hm1,g2⟩:=uK g1 (by omega) 20
  obtain ⟨x,u3,f3,hx,g3⟩:=some_spec g2 m (by have:=hm1 (by omega); omega) (by omega)
  have hm:=hm1 (by omega)
  obtain ⟨r,f4,hr⟩:=zCv hd (by omega) hp (x:=x) (by omega)
  have f1':vC {Code:=s'.Code,At:=s'.At}=some (p,u1):=f1
  have f4':yY {Files:=d.Files,Budget:=d.Budget,Writes:=d.Writes,Stop:=d.Stop,Down:=d.Down} p x=some r:=f4
  rw [f1']
  simp only [Option.bind_some,f2,f3,f4']
  rw [wS (x:=n-(i:Int)-1) (by omega) (by omega)]
  have hrb:r.2.Budget=bu:=by
   obtain ⟨r',w1,_,w3⟩:=zAg hd.fine hd.up hp (x:=x) (by omega)
   rw [f4] at w1
   cases w1
   rcases w3 with ⟨_,_,_,h4,_⟩|⟨_,h4⟩|⟨_,h4⟩<;>rw [h4]
   ·exact hdb
   ·exact hdb
   ·exact hdb
  refine .inl ⟨_,rfl,r.2,u3,by rw [show n-(i:Int)-1=n-((i+1:Nat):Int) by omega],⟨hr,hrb⟩,?_⟩
  exact g3.mono (by omega)) (by
  rintro q ⟨d,s',rfl,hd,hs⟩
  unfold vZ
  simp only
  rw [if_neg (by simp; omega)]
  exact ⟨_,rfl,d,s',rfl,hd,hs⟩) n.toNat 0 (s2.Code,s2.At,[],bu,0,-1,false,n) (by omega) ⟨_,s2,by simp,⟨d0,rfl⟩,by simpa using h2⟩
 obtain ⟨hd,hdb⟩:=hd
 have h3:=h3.mono (b':=b+200) (by omega)
 have hwr:0≤d.Writes:=hd.fine.w0
 have hwr1:d.Writes≤6:=by have:=hd.wr; omega
 obtain ⟨st,s4,e4,hst,h4⟩:=jH (s:= {Code:=s3.Code,At:=s3.At}) h3 (by omega) [-1,-1,-1,d.Writes,w64 (d.Writes+1),0] (by simp)
 obtain ⟨q,s5,e5,h5⟩:=kS h4 (by omega) 10
 obtain ⟨v,s6,e6,_,_,h6⟩:=uK h5 (by omega) 30
 unfold uO
 have e3':uL (s2.Code,s2.At,[],bu,0,-1,false,n)=some (s3.Code,s3.At,d.Files,d.Budget,d.Writes,d.Stop,d.Down):=e3
 rw [e1]
 simp only [Option.bind_some,eE,e2,e3',e4,e5,e6]
 have hfin:∀(dn:Bool) (fs:List File) (bu' wr' st':Int) (s':zL),fs.length≤200→(∀f∈fs,f.Path.size≤100∧f.Data.length≤5000)→(wr'≤1000∨wr'=1000000001)→ -1≤bu'→bu'≤30000→Sr (b+2000) s'→
   ∃(d:zA) (s'':zL),(some (({Files:=fs,Budget:=bu',Writes:=wr',Stop:=st',Down:=dn}:zA),({Code:=s'.Code,At:=s'.At}:zL)):Option (zA×zL))=some (d,s'')∧zA.sm 1048576 d∧d.Files.length≤200∧(d.good→d.Writes≤1000)∧ -1≤d.Budget∧d.Budget≤30000∧(∀f∈d.Files,f.Data.length≤5000)∧Sr (b+2000) s'':=by
  intro dn fs bu' wr' st' s' hl hf hw hb0 hb1 hs
  refine ⟨_,_,rfl,⟨⟨by show fs.length≤_; omega,fun f hm=>⟨by have:=(hf f hm).1; omega,by have:=(hf f hm).2; omega,fun _ _=>trivial⟩⟩,trivial,trivial,trivial,trivial⟩,hl,fun hg=>?_,hb0,hb1,fun f hm=>(hf f hm).2,hs⟩
  rcases hw with hw|hw
  ·exact hw
  ·have:=hg.w1
   simp only at this
   omega
 have hdl:d.Files.length≤120:=hd.fine.len
 have hdf:∀f∈d.Files,f.Path.size≤100∧f.Data.length≤5000:=fun f hf=>⟨by have:=hd.path f hf; omega,by have:=hd.fine.data f hf; omega⟩
 have hq:∃dn:Bool,(if q=true then some true else some d.Down)=some dn:=by cases q<;>exact ⟨_,rfl⟩
 obtain ⟨dn,eq⟩:=hq
 rw [eq]
 simp only [Option.bind_some]
 by_cases v0:(v==0)=true
 ·obtain ⟨y,s7,e7,hy,h7⟩:=jH h6 (by omega) [-1,0,5,20001] (by simp)
  rw [if_pos v0,e7]
  simp only [List.mem_cons,List.not_mem_nil,or_false] at hy
  exact hfin dn d.Files y d.Writes st s7 (by omega) hdf (.inl (by omega)) (by rcases hy with rfl|rfl|rfl|rfl<;>decide) (by rcases hy with rfl|rfl|rfl|rfl<;>decide) (h7.mono (by omega))
 rw [if_neg v0]
 by_cases v1:(v==1)=true
 ·obtain ⟨y,s7,e7,hy,h7⟩:=jH h6 (by omega) [-1,1000000001] (by simp)
  rw [if_pos v1,e7]
  simp only [List.mem_cons,List.not_mem_nil,or_false] at hy
  exact hfin dn d.Files d.Budget y st s7 (by omega) hdf (by rcases hy with rfl|rfl; exact .inl (by decide); exact .inr rfl) (by omega) (by omega) (h7.mono (by omega))
 rw [if_neg v1]
 by_cases v2:(v==2)=true
 ·obtain ⟨y,s7,e7,hy,h7⟩:=jH h6 (by omega) [-2,1000000001] (by simp)
  rw [if_pos v2,e7]
  exact hfin dn d.Files d.Budget d.Writes y s7 (by omega) hdf (.inl (by omega)) (by omega) (by omega) (h7.mono (by omega))
 rw [if_neg v2]
 by_cases v3:(v==3)=true
 ·obtain ⟨p,s7,e7,hp,h7⟩:=kZ h6 (by omega)
  obtain ⟨x,s8,e8,hx,h8⟩:=some_spec h7 3 (by omega) (by omega)
  rw [if_pos v3,e7]
  simp only [Option.bind_some,e8]
  rw [jG (by simp; omega) (by simp; omega)]
  refine hfin dn _ d.Budget d.Writes st s8 (by simp; omega) (fun f hf=>?_) (.inl (by omega)) (by omega) (by omega) (h8.mono (by have:(3:Int).toNat =3:=rfl; omega))
  rcases List.mem_append.1 hf with hf|hf
  ·exact hdf f hf
  ·rw [List.mem_singleton.1 hf]
   have:(3:Int).toNat =3:=rfl
   exact ⟨hp,by simp only; omega⟩
 rw [if_neg v3]
 by_cases v4:(v==4)=true
 ·rw [if_pos v4]
  have em:mk 40 121 ({Path:=ByteArray.empty,Data:=([]:List Int)}:File)=some (List.replicate 121 ({Path:=ByteArray.empty,Data:=([]:List Int)}:File)):=by
   unfold mk
   rw [if_pos ⟨by decide,by decide,by decide⟩]
   rfl
  rw [em]
  refine hfin dn _ d.Budget d.Writes st s6 (by simp) (fun f hf=>?_) (.inl (by omega)) (by omega) (by omega) (h6.mono (by omega))
  rw [List.eq_of_mem_replicate hf]
  exact ⟨by decide,by decide⟩
 rw [if_neg v4]
 by_cases v5:(v==5)=true
 ·obtain ⟨m,s7,e7,hm0,hm1,h7⟩:=uK h6 (by omega) 2
  have hm:=hm1 (by omega)
  rw [if_pos v5,e7]
  simp only [Option.bind_some]
  rw [wS (x:=4000+m) (by omega) (by omega)]
  have em:mk 1 (4000+m) (0:Int)=some (List.replicate (4000+m).toNat 0):=by
   unfold mk
   rw [if_pos ⟨by omega,by omega,by omega⟩]
  rw [em]
  refine hfin dn _ 20000 d.Writes st s7 (by simp) (fun f hf=>?_) (.inl (by omega)) (by omega) (by omega) (h7.mono (by omega))
  rw [List.mem_singleton.1 hf]
  exact ⟨by show (bs [97]).size ≤_; decide,by simp only [List.length_replicate]; omega⟩
 rw [if_neg v5]
 exact hfin dn d.Files d.Budget d.Writes st s6 (by omega) hdf (.inl (by omega)) (by omega) (by omega) (h6.mono (by omega))
theorem zAY {a:List Int} (h:a.length≤1048576) (hb:∀c∈a,0≤c∧c≤255):∃d p x,yZ a=some (d,p,x)∧zA.sm 1048576 d∧p.size≤1048576∧x.length≤1048576∧(d.good→d.Writes≤1000):=by
 obtain ⟨s,e0,h0⟩:=zCd h hb
 obtain ⟨d,s1,e1,hd1,hd2,hd3,hd4,hd5,hd6,h1⟩:=zDD h0 (by omega)
 obtain ⟨p,s2,e2,hp,h2⟩:=kZ h1 (by omega)
 obtain ⟨n1,s3,e3,n10,n11,h3⟩:=uK h2 (by omega) 20
 obtain ⟨n2,s4,e4,n20,n21,h4⟩:=uK h3 (by omega) 60
 have et:=tQ d (by omega) (fun f hf=>by have:=hd6 f hf; omega)
 have ht0:=uP d.Files
 have ht1:=zB0 d.Files 5000 (by omega) (fun f hf=>by have:=hd6 f hf; omega)
 have n1l:=n11 (by omega)
 have n2l:=n21 (by omega)
 obtain ⟨n,s5,e5,hn,h5⟩:=jH h4 (by omega) [n1,n2,0,w64 (d.Budget-total d.Files),w64 (w64 (d.Budget-total d.Files)+1)] (by simp)
 obtain ⟨q,s6,e6,h6⟩:=kS h5 (by omega) 40
 obtain ⟨m,s7,e7,h7⟩:∃m s7,(if q=true then (zM s6 2).bind fun x21=>some (x21.2.Code,x21.2.At,w64 (4000+x21.1)) else some (s6.Code,s6.At,n))=some (s7.Code,s7.At,m)∧Sr (0+2000+7) s7:=by
  cases q
  ·exact ⟨n,s6,rfl,h6.mono (by omega)⟩
  ·obtain ⟨r,s7,e7,_,_,h7⟩:=uK h6 (by omega) 2
   rw [e7]
   exact ⟨_,s7,rfl,h7.mono (by omega)⟩
 have em:∃k,uY m 4001=some k∧k≤4001:=by
  unfold uY
  by_cases hk:m<4001
  ·rw [if_pos (by simpa using hk)]; exact ⟨_,rfl,by omega⟩
  ·rw [if_neg (by simpa using hk)]; exact ⟨_,rfl,by omega⟩
 obtain ⟨k,ek,hk⟩:=em
 have eM:∃j,uZ 0 k=some j∧j≤4001:=by
  unfold uZ
  by_cases hk:(0:Int)>k
  ·rw [if_pos (by simpa using hk)]; exact ⟨_,rfl,by omega⟩
  ·rw [if_neg (by simpa using hk)]; exact ⟨_,rfl,by omega⟩
 obtain ⟨j,ej,hj⟩:=eM
 obtain ⟨x,s8,e8,hx,h8⟩:=some_spec (s:= {Code:=s7.Code,At:=s7.At}) h7 j (by omega) (by omega)
 refine ⟨d,p,x,?_,hd1,by omega,by omega,hd3⟩
 unfold yZ
 rw [e0]
 simp only [Option.bind_some,e1,e2,e3,e4,et,e5,e6,e7,ek,ej,e8]
theorem zCx (a1:List Int) (k1:a1.length≤maxLen∧∀y1∈a1,IntKind.u8.min≤y1∧y1≤IntKind.u8.max):vL a1=some true:=by
 by_cases h:a1.length≤1048576
 ·obtain ⟨d,p,x,e,hd,hp,hx,hw⟩:=zAY h (fun c hc=>by have:=k1.2 c hc; simpa [IntKind.min,IntKind.max,IntKind.signed,IntKind.bits] using this)
  exact zDG d p x hd hp hx hw a1 h e
 ·unfold vL uQ
  have:decide ((a1.length:Int)>1048576)=true:=by simp; omega
  rw [this]
  rfl
end Go.Told

import Derived.Test.YtdeihchdibglaaaGreatToldFnApart
set_option linter.unusedVariables false
set_option maxRecDepth 4000
namespace Go.Told
open Go Go.Im
theorem kE {x:Int} (h1: -9223372036854775808≤x) (h2:x≤9223372036854775807):w64 x=x:=by
 unfold w64
 rw [IntKind.wrap_i64]
 omega
theorem zQ {i:Nat} (h:i<9223372036854775807):w64 ((i:Int)+1)=((i+1:Nat):Int):=by
 rw [kE (by omega) (by omega)]; omega
theorem vQ {T:Type} {S:Type} {b:S→Option (Lp S T)} (I:Nat→S→Prop) (n:Nat) (Q:T→Prop) (hstep:∀i s,i<n→I i s→(∃s',b s=some (.go s')∧I (i+1) s')∨∃t,b s=some (.done t)∧Q t)
  (hend:∀s,I n s→∃t,b s=some (.done t)∧Q t):∀(k i:Nat) (s:S),i+k=n→I i s→∃t,loop b s=some t∧Q t
 |0,i,s,hk,hI=>by
  obtain ⟨t,h1,h2⟩:=hend s (by rw [show n=i by omega]; exact hI)
  exact ⟨t,by rw [vP,h1]; rfl,h2⟩
 |k+1,i,s,hk,hI=>by
  rcases hstep i s (by omega) hI with ⟨s',h1,h2⟩|⟨t,h1,h2⟩
  ·obtain ⟨t,h3,h4⟩:=vQ I n Q hstep hend k (i+1) s' (by omega) h2
   exact ⟨t,by rw [vP,h1]; exact h3,h4⟩
  ·exact ⟨t,by rw [vP,h1]; rfl,h2⟩
theorem zK {α:Type} {xs:List α} {i:Nat} (h:i<xs.length):idx xs (i:Int)=some xs[i]:=by
 unfold idx
 rw [if_pos (by omega)]
 simp [h]
theorem zMc {R:Type} (n:Nat) {b:Int→Option (Lp Int (Fl R Unit))} (hstep:∀i:Nat,i<n→b (i:Int)=some (.go ((i+1:Nat):Int))) (hend:b (n:Int)=some (.done (.nxt ()))):loop b 0=some (.nxt ()):=by
 obtain ⟨t,h1,h2⟩:=vQ (b:=b) (fun i s=>s=(i:Int)) n (fun t=>t= .nxt ()) (by
  rintro i s hi rfl
  exact .inl ⟨_,hstep i hi,rfl⟩) (by
  rintro s rfl
  exact ⟨_,hend,rfl⟩) n 0 0 (by omega) rfl
 rw [h1,h2]
theorem zKl {α β:Type} {xs:List α} {ys:List β} (h:xs.length=ys.length):same xs ys=some ():=if_pos h
theorem zHa (a:ByteArray):seq a a=true:=by
 unfold seq
 simp
def c1 {α:Type} (_:α):Int:=1
theorem uR {α:Type} {B:Nat} {xs ys:List α} (h:(xs.length+ys.length)*B≤140737488355328) (h2:xs.length+ys.length≤4611686018427387904):app B xs ys=some (xs++ys):=if_pos ⟨h,h2⟩
theorem zFS {S T:Type} {b:S→Option (Lp S T)} (I:S→Prop) (μ:S→Nat) (Q:T→Prop) (step:∀s,I s→(∃s',b s=some (.go s')∧I s'∧μ s'<μ s)∨∃t,b s=some (.done t)∧Q t):∀(n:Nat) (s:S),μ s≤n→I s→∃t,loop b s=some t∧Q t
 |0,s,hn,hI=>by
  rcases step s hI with ⟨s',_,_,h3⟩|⟨t,h1,h2⟩
  ·omega
  ·exact ⟨t,by rw [vP,h1]; rfl,h2⟩
 |n+1,s,hn,hI=>by
  rcases step s hI with ⟨s',h1,h2,h3⟩|⟨t,h1,h2⟩
  ·obtain ⟨t,h4,h5⟩:=zFS I μ Q step n s' (by omega) h2
   exact ⟨t,by rw [vP,h1]; exact h4,h5⟩
  ·exact ⟨t,by rw [vP,h1]; rfl,h2⟩
def xX.sm (B:Nat) (x:xX):Prop:=(True)∧(x.Parts.length≤B∧∀y0∈x.Parts,y0.length≤B∧∀y1∈y0,y1.size≤B)
def kL.sm (B:Nat) (x:kL):Prop:=(True)∧(True)∧(x.Set.length≤B∧∀y0∈x.Set,True)
def SolveResult.sm (B:Nat) (x:SolveResult):Prop:=(True)∧(True)∧(x.Set.length≤B∧∀y0∈x.Set,True)
def zD.sm (B:Nat) (x:zD):Prop:=(x.Code.length≤B∧∀y0∈x.Code,True)∧(True)
def Version.sm (B:Nat) (x:Version):Prop:=(True)∧(True)∧(True)
def Term.sm (B:Nat) (x:Term):Prop:=(x.Name.size≤B)∧(Version.sm B x.Low)∧(Version.sm B x.High)
def Pack.sm (B:Nat) (x:Pack):Prop:=(x.Name.size≤B)∧(Version.sm B x.Version)∧(True)∧(x.Provides.length≤B∧∀y0∈x.Provides,y0.size≤B)∧(x.Needs.length≤B∧∀y0∈x.Needs,y0.length≤B∧∀y1∈y0,Term.sm B y1)∧(x.Bars.length≤B∧∀y0∈x.Bars,Term.sm B y0)
def zN.sm (B:Nat) (x:zN):Prop:=(True)∧(True)∧(True)
def xC.sm (B:Nat) (x:xC):Prop:=(True)∧(x.Denied.length≤B∧∀y0∈x.Denied,True)
def bl (s:ByteArray):List Int:=s.toList.map (fun b=>(b.toNat:Int))
theorem zEn (s:ByteArray):(bl s).length =s.size:=by
 unfold bl
 rw [List.length_map,ByteArray.toList_eq]
 rfl
theorem zHe {s:ByteArray} {i:Nat} (h:i< (bl s).length):bidx s (i:Int)=some (bl s)[i]:=by
 unfold bidx
 rw [if_pos (by omega)]
 have hs:i<s.size:=by rw [zEn] at h; exact h
 have e:s[(i:Int).toNat]? =some s[i]:=by simp [hs]
 rw [e]
 simp only [Option.map_some,bl,List.getElem_map]
 congr 2
 simp only [ByteArray.toList_eq]
 rfl
theorem zGd:∀(a:List UInt8),Op.bytesLess a a=false
 |[]=>rfl
 |x::a=>by simp [Op.bytesLess,zGd a]
theorem zGH:∀{a b c:List UInt8},Op.bytesLess a b=true→Op.bytesLess b c=true→Op.bytesLess a c=true
 |_,[],_,h,_=>by simp [Op.bytesLess] at h
 |_,_::_,[],_,h=>by simp [Op.bytesLess] at h
 |[],_::_,_::_,_,_=>by simp [Op.bytesLess]
 |x::a,y::b,z::c,h1,h2=>by
  simp only [Op.bytesLess,Bool.or_eq_true,decide_eq_true_eq,Bool.and_eq_true,beq_iff_eq] at h1 h2 ⊢
  rcases h1 with h1|⟨rfl,h1⟩
  ·rcases h2 with h2|⟨rfl,h2⟩
   ·exact .inl (UInt8.lt_trans h1 h2)
   ·exact .inl h1
  ·rcases h2 with h2|⟨rfl,h2⟩
   ·exact .inl h2
   ·exact .inr ⟨rfl,zGH h1 h2⟩
theorem toList_inj {a b:ByteArray} (h:a.toList=b.toList):a=b:=by
 rw [ByteArray.toList_eq,ByteArray.toList_eq] at h
 cases a; cases b
 simp at h
 rw [h]
theorem zF3 (a:ByteArray):slt a a=false:=zGd _
theorem zE7 {a b c:ByteArray} (h1:slt a b=true) (h2:slt b c=true):slt a c=true:=zGH h1 h2
theorem zEG {a b:ByteArray}:seq a b=true↔a=b:=by
 unfold seq
 simp only [beq_iff_eq]
 exact ⟨toList_inj,fun e=>by rw [e]⟩
theorem seq_eq (a b:ByteArray):seq a b=decide (a=b):=by
 rw [Bool.eq_iff_iff,zEG]; simp
def inB (a b c:Int):Bool:=decide (b≤a)&&decide (a≤c)
theorem zIz (a b c:Int):uX a b c=some (inB a b c):=by
 unfold uX inB
 by_cases h:a≥b<;>simp [h]
theorem zFV (a b c:Int):vN a b c=some (inB a b c):=by
 unfold vN inB
 by_cases h:b≤a<;>simp [h]
section del
variable {α:Type} (p:α→Bool)
theorem zDM {xs:List α} {l h:Nat} (h1:l≤h) (h2:h≤xs.length):zEe xs (l:Int) (h:Int)=some ((xs.drop l).take (h-l)):=by
 unfold zEe
 rw [if_pos (by omega)]
 rfl
end del
section del
variable {α:Type} (p:α→Bool)
theorem zK8 {xs:List α} {l n:Nat} {a:α} (h:l+n≤xs.length):zKj xs (l:Int) n a=some (xs.take l++List.replicate n a++xs.drop (l+n)):=by
 unfold zKj
 rw [if_pos (by omega)]
 simp [ovr]
end del
section del
variable {α:Type} (p:α→Bool)
theorem zLc {R:Type} (a1:List α) (out:Int→R) {b:Int→Option (Lp Int (Fl R Unit))} (hl:a1.length<9223372036854775807)
  (hstep:∀(i:Nat) (hi:i<a1.length),b (i:Int)=some (if p a1[i] then .done (.ret (out i)) else .go ((i+1:Nat):Int))) (hend:b (a1.length:Int)=some (.done (.nxt ()))):
  ∃t,loop b 0=some t∧((t= .nxt ()∧∀x∈a1,p x=false)∨∃i:Nat,∃hi:i<a1.length,t= .ret (out i)∧p a1[i]=true∧∀x∈a1.take i,p x=false):=by
 refine vQ (b:=b) (fun i s=>s=(i:Int)∧∀x∈a1.take i,p x=false) a1.length _ (by
  rintro i s hi ⟨rfl,hn⟩
  have e:=hstep i hi
  cases hp:p a1[i]
  ·rw [hp] at e
   refine .inl ⟨_,e,rfl,fun x hx=>?_⟩
   rw [List.take_succ_eq_append_getElem hi] at hx
   rcases List.mem_append.1 hx with hx|hx
   ·exact hn x hx
   ·simp at hx; rw [hx]; exact hp
  ·rw [hp] at e
   exact .inr ⟨_,e,.inr ⟨i,hi,rfl,hp,hn⟩⟩) (by
  rintro s ⟨rfl,hn⟩
  rw [List.take_length] at hn
  exact ⟨_,hend,.inl ⟨rfl,hn⟩⟩) a1.length 0 0 (by omega) ⟨rfl,by simp⟩
end del
section del
variable {α:Type} (p:α→Bool)
theorem zFH {xs:List α} {i:Nat} {x:α} (h:i<xs.length):(xs.set i x).take (i+1)=xs.take i++[x]:=by
 rw [List.take_succ_eq_append_getElem (by simpa using h),List.take_set_of_le (Nat.le_refl _)]
 simp
end del
section del
variable {α:Type} (p:α→Bool)
theorem set_drop {xs:List α} {i j:Nat} {x:α} (h:i<j):(xs.set i x).drop j=xs.drop j:=by
 rw [List.drop_set_of_lt h]
end del
section del
variable {α:Type} (p:α→Bool)
theorem zKn (a:List α) {b:(List α×Int×Int)→Option (Lp (List α×Int×Int) (List α×Int))} (hl:a.length<9223372036854775807)
  (hstep:∀(xs:List α) (i j:Nat) (hj:j<xs.length),i≤j→xs.length=a.length→xs[j]∈a→b (xs,(i:Int),(j:Int))=some (.go (if p xs[j] then (xs,(i:Int),((j+1:Nat):Int)) else (xs.set i xs[j],((i+1:Nat):Int),((j+1:Nat):Int)))))
  (hend:∀(xs:List α) (i:Nat),xs.length=a.length→b (xs,(i:Int),(xs.length:Int))=some (.done (xs,(i:Int)))) (i0 j0:Nat) (hij:i0≤j0) (hj0:j0≤a.length) (h0:a.take i0=(a.take j0).filter (fun x=> !p x)):
  ∃ys:List α,loop b (a,(i0:Int),(j0:Int))=some (ys,((a.filter (fun x=> !p x)).length :Int))∧ys.length=a.length∧ys.take (a.filter (fun x=> !p x)).length =a.filter (fun x=> !p x):=by
 obtain ⟨t,e,h⟩:=vQ (b:=b) (fun j s=>s.1.length=a.length∧s.1.drop j=a.drop j∧s.2.2=(j:Int)∧∃i:Nat,s.2.1=(i:Int)∧i≤j∧s.1.take i=(a.take j).filter (fun x=> !p x)) a.length
  (fun t=>t.1.length=a.length∧∃i:Nat,t.2=(i:Int)∧i≤a.length∧t.1.take i=a.filter (fun x=> !p x)) (by
  rintro j ⟨xs,i',j'⟩ hj ⟨hxl,hxd,hjj,i,hi,hle,ht⟩
  simp only at hxl hxd hjj hi ht
  subst hjj hi
  have hjx:j<xs.length:=by omega
  have hx:xs[j]=a[j]:=by
   have:=congrArg (fun l=>l[0]?) hxd
   simp only [List.getElem?_drop,Nat.add_zero] at this
   rw [List.getElem?_eq_getElem hjx,List.getElem?_eq_getElem hj] at this
   exact Option.some.inj this
  have e:=hstep xs i j hjx hle hxl (by rw [hx]; exact List.getElem_mem hj)
  have htk:(a.take (j+1)).filter (fun x=> !p x)=(a.take j).filter (fun x=> !p x)++(if p a[j] then [] else [a[j]]):=by
   rw [List.take_succ_eq_append_getElem hj,List.filter_append]
   cases h:p a[j]<;>simp [h]
  have hd1:a.drop (j+1)=xs.drop (j+1):=by
   have:=congrArg (List.drop 1) hxd
   simpa [List.drop_drop] using this.symm
  rw [hx] at e
  cases hp:p a[j]
  ·rw [hp] at e htk
   refine .inl ⟨_,e,by simpa using hxl,?_,rfl,i+1,rfl,by omega,?_⟩
   ·show (xs.set i a[j]).drop (j+1)=a.drop (j+1)
    rw [set_drop (by omega),hd1]
   ·show (xs.set i a[j]).take (i+1)=_
    rw [zFH (by omega),htk,ht]
    rfl
  ·rw [hp] at e htk
   refine .inl ⟨_,e,hxl,?_,rfl,i,rfl,by omega,?_⟩
   ·exact hd1.symm
   ·show xs.take i=_
    rw [htk,ht]
    simp) (by
  rintro ⟨xs,i',j'⟩ ⟨hxl,hxd,hjj,i,hi,hle,ht⟩
  simp only at hxl hxd hjj hi ht
  subst hjj hi
  have e:=hend xs i hxl
  rw [hxl] at e
  refine ⟨_,e,hxl,i,rfl,hle,?_⟩
  rw [List.take_length] at ht
  exact ht) (a.length-j0) j0 (a,(i0:Int),(j0:Int)) (by omega) ⟨rfl,rfl,rfl,i0,rfl,hij,h0⟩
 obtain ⟨ys,i'⟩:=t
 obtain ⟨h1,i,h2,h3,h4⟩:=h
 simp only at h1 h2 h4
 subst h2
 have hlen:i=(a.filter (fun x=> !p x)).length :=by rw [←h4]; simp; omega
 subst hlen
 exact ⟨ys,e,h1,h4⟩
end del
section del
variable {α:Type} (p:α→Bool)
theorem zLN {a ys:List α} (zero:α) (h1:ys.length=a.length) (h2:ys.take (a.filter (fun x=> !p x)).length =a.filter (fun x=> !p x)):
  (zEe ys ((a.filter (fun x=> !p x)).length :Int) (ys.length:Int)).bind (fun r=>(zKj ys ((a.filter (fun x=> !p x)).length :Int) r.length zero).bind fun z=>(zEe z 0 ((a.filter (fun x=> !p x)).length :Int)).bind fun q=>some q)=some (a.filter (fun x=> !p x)):=by
 have hle:(a.filter (fun x=> !p x)).length ≤ys.length:=by rw [h1]; exact List.length_filter_le _ _
 rw [zDM hle (Nat.le_refl _)]
 simp only [Option.bind_some]
 rw [zK8 (by simp; omega)]
 simp only [Option.bind_some]
 have:zEe (List.take (List.filter (fun x=> !p x) a).length ys++List.replicate (List.take (ys.length-(List.filter (fun x=> !p x) a).length) (List.drop (List.filter (fun x=> !p x) a).length ys)).length zero++
   List.drop ((List.filter (fun x=> !p x) a).length +(List.take (ys.length-(List.filter (fun x=> !p x) a).length) (List.drop (List.filter (fun x=> !p x) a).length ys)).length) ys) ((0:Nat):Int) ((a.filter (fun x=> !p x)).length :Int)=some (a.filter (fun x=> !p x)):=by
  rw [zDM (by omega) (by simp; omega)]
  rw [h2]
  simp
 exact (congrArg (fun o=>Option.bind o fun q=>some q) this)
end del
section del
variable {α:Type} (p:α→Bool)
theorem zJZ (a:List α) (zero:α) (hl:a.length≤1048577) {b1:Int→Option (Lp Int (Fl Int Unit))} {b2:(List α×Int×Int)→Option (Lp (List α×Int×Int) (List α×Int))}
  (h1:∀(i:Nat) (hi:i<a.length),b1 (i:Int)=some (if p a[i] then .done (.ret (i:Int)) else .go ((i+1:Nat):Int))) (h1e:b1 (a.length:Int)=some (.done (.nxt ())))
  (h2:∀(xs:List α) (i j:Nat) (hj:j<xs.length),i≤j→xs.length=a.length→xs[j]∈a→b2 (xs,(i:Int),(j:Int))=some (.go (if p xs[j] then (xs,(i:Int),((j+1:Nat):Int)) else (xs.set i xs[j],((i+1:Nat):Int),((j+1:Nat):Int)))))
  (h2e:∀(xs:List α) (i:Nat),xs.length=a.length→b2 (xs,(i:Int),(xs.length:Int))=some (.done (xs,(i:Int)))):
  ((loop b1 0).bind (Fl.go some fun _=>some (-1))).bind (fun x4=>if x4==(-1) then (some a) else ((loop b2 (a,x4,w64 (x4+1))).bind fun v26=>(zEe v26.1 v26.2 (v26.1.length:Int)).bind fun x27=>(zKj v26.1 v26.2 x27.length zero).bind fun x29=>(zEe x29 0 v26.2).bind fun x31=>some x31))=some (a.filter (fun x=> !p x)):=by
 obtain ⟨t,e,h⟩:=zLc p a (fun i=>i) (b:=b1) (by omega) h1 h1e
 rw [e]
 rcases h with ⟨rfl,hn⟩|⟨i,hi,rfl,hp,hn⟩
 ·show some a=_
  congr 1
  exact (List.filter_eq_self.2 (fun x hx=>by rw [hn x hx]; rfl)).symm
 ·simp only [Option.bind_some,Fl.go]
  rw [if_neg (by simp),zQ (by omega)]
  obtain ⟨ys,e2,h3,h4⟩:=zKn p a (b:=b2) (by omega) h2 h2e i (i+1) (by omega) (by omega) (by
   rw [List.take_succ_eq_append_getElem hi,List.filter_append]
   rw [List.filter_eq_self.2 (fun x hx=>by rw [hn x hx]; rfl)]
   simp [hp])
  rw [e2]
  simp only [Option.bind_some]
  exact zLN p zero h3 h4
end del
def wP {α R:Type} (g:Nat→α→Option R):Nat→List α→Option R
 |_,[]=>none
 |i,x::xs=>match g i x with
  |some r=>some r
  |none=>wP g (i+1) xs
def frs {R:Type}:Option R→Fl R Unit
 |some r=>.ret r
 |none=>.nxt ()
theorem zGF {α R:Type} (xs:List α) (g:Nat→α→Option R) {b:Int→Option (Lp Int (Fl R Unit))}
  (hstep:∀(i:Nat) (hi:i<xs.length),b (i:Int)=some (match g i xs[i] with|some r=>.done (.ret r)|none=>.go ((i+1:Nat):Int))) (hend:b (xs.length:Int)=some (.done (.nxt ()))):
  ∀(k i:Nat),i+k=xs.length→loop b (i:Int)=some (frs (wP g i (xs.drop i)))
 |0,i,h=>by
  have e:i=xs.length:=by omega
  subst e
  rw [vP,hend,List.drop_length]
  rfl
 |k+1,i,h=>by
  have hi:i<xs.length:=by omega
  have ih:=zGF xs g hstep hend k (i+1) (by omega)
  rw [vP,hstep i hi,List.drop_eq_getElem_cons hi]
  simp only [wP]
  cases g i xs[i] with
  |some r=>rfl
  |none=>exact ih
theorem wI {α R:Type} (xs:List α) (g:Nat→α→Option R) {b:Int→Option (Lp Int (Fl R Unit))}
  (hstep:∀(i:Nat) (hi:i<xs.length),b (i:Int)=some (match g i xs[i] with|some r=>.done (.ret r)|none=>.go ((i+1:Nat):Int))) (hend:b (xs.length:Int)=some (.done (.nxt ()))):
  loop b 0=some (frs (wP g 0 xs)):=by
 have:=zGF xs g hstep hend xs.length 0 (by omega)
 simpa using this
theorem zBh {R T:Type} (o:Option R) (f:R→Option T) (h:Unit→Option T):(some (frs o)).bind (Fl.go f h)=match o with|some r=>f r|none=>h ():=by
 cases o<;>rfl
theorem zCj {α:Type} (p:α→Bool):∀(xs:List α) (i:Nat),((wP (fun j x=>if p x then some (j:Int) else none) i xs).getD (-1)≥0)↔xs.any p=true
 |[],i=>by simp [wP]
 |x::xs,i=>by
  simp only [wP]
  cases h:p x
  ·simp only [Bool.false_eq_true,if_false,List.any_cons,h,Bool.false_or]
   exact zCj p xs (i+1)
  ·simp [h]
theorem zFp {α:Type} (p:α→Bool):∀(xs:List α) (i:Nat),(wP (fun _ x=>if p x then some true else none) i xs).getD false=xs.any p
 |[],i=>rfl
 |x::xs,i=>by
  simp only [wP]
  cases h:p x
  ·simp only [Bool.false_eq_true,if_false,List.any_cons,h,Bool.false_or]
   exact zFp p xs (i+1)
  ·simp [h]
def foldI {α A:Type} (f:Nat→A→α→A):Nat→List α→A→A
 |_,[],a=>a
 |i,x::xs,a=>foldI f (i+1) xs (f i a x)
theorem zEu {α A:Type} (xs:List α) (f:Nat→A→α→A) (I:Nat→A→Prop) {b:(A×Int)→Option (Lp (A×Int) A)}
  (hstep:∀(i:Nat) (a:A) (hi:i<xs.length),I i a→b (a,(i:Int))=some (.go (f i a xs[i],((i+1:Nat):Int)))∧I (i+1) (f i a xs[i])) (hend:∀a,b (a,(xs.length:Int))=some (.done a)):
  ∀(k i:Nat) (a:A),i+k=xs.length→I i a→loop b (a,(i:Int))=some (foldI f i (xs.drop i) a)∧I xs.length (foldI f i (xs.drop i) a)
 |0,i,a,h,hI=>by
  have e:i=xs.length:=by omega
  subst e
  rw [vP,hend,List.drop_length]
  exact ⟨rfl,hI⟩
 |k+1,i,a,h,hI=>by
  have hi:i<xs.length:=by omega
  obtain ⟨h1,h2⟩:=hstep i a hi hI
  have ih:=zEu xs f I hstep hend k (i+1) _ (by omega) h2
  rw [vP,h1,List.drop_eq_getElem_cons hi]
  exact ih
theorem zDE {o:Option Int} {b:Bool} (h:(o.getD (-1)≥0)↔b=true):decide (o.getD (-1)≥0)=b:=by
 rw [Bool.eq_iff_iff,decide_eq_true_eq]; exact h
theorem zIV:∀(a b:List UInt8),(Lib.compareBytes a b<0↔Op.bytesLess a b=true)∧(Lib.compareBytes a b=0↔a=b)
 |[],[]=>by simp [Lib.compareBytes,Op.bytesLess]
 |[],_::_=>by simp [Lib.compareBytes,Op.bytesLess]
 |_::_,[]=>by simp [Lib.compareBytes,Op.bytesLess]
 |x::a,y::b=>by
  obtain ⟨ih1,ih2⟩:=zIV a b
  simp only [Lib.compareBytes,Op.bytesLess]
  by_cases h1:x<y
  ·simp [h1]
   intro e; subst e; exact absurd h1 (by simp [UInt8.lt_irrefl])
  ·by_cases h2:y<x
   ·simp [h1,h2]
    have hne:x≠y:=fun e=>by subst e; exact absurd h2 (by simp [UInt8.lt_irrefl])
    simp [hne]
   ·have e:x=y:=by
     rw [UInt8.lt_iff_toNat_lt] at h1 h2
     exact UInt8.toNat_inj.1 (by omega)
    subst e
    simp [UInt8.lt_irrefl,ih1,ih2]
theorem zMt (a b:ByteArray):zND a b<0↔slt a b=true:=by
 unfold zND slt
 rw [ByteArray.toList_eq,ByteArray.toList_eq]
 exact (zIV _ _).1
theorem zFM (l:List Int) (v:Int) (h:l.length≤1048576):uI l v=some (decide (v∈l)):=by
 obtain ⟨t,e,ht⟩:=vQ (b:=zDa l v) (fun i s=>s=(i:Int)∧v∉l.take i) l.length (fun t=>match t with| .ret r=>r=true∧v∈l| .nxt _=>v∉l) (by
  rintro i s hi ⟨rfl,hv⟩
  unfold zDa
  rw [if_pos (by simp; omega)]
  simp only [zK hi,Option.bind_some]
  by_cases hc:l[i]=v
  ·rw [if_pos (by simpa using hc)]
   exact .inr ⟨_,rfl,rfl,hc▸List.getElem_mem hi⟩
  ·rw [if_neg (by simpa using hc),zQ (by omega)]
   refine .inl ⟨_,rfl,rfl,?_⟩
   rw [List.take_succ_eq_append_getElem hi]
   simp only [List.mem_append,List.mem_singleton,not_or]
   exact ⟨hv,fun e=>hc e.symm⟩) (by
  rintro s ⟨rfl,hv⟩
  unfold zDa
  rw [if_neg (by simp)]
  rw [List.take_length] at hv
  exact ⟨_,rfl,hv⟩) l.length 0 0 (by omega) ⟨rfl,by simp⟩
 unfold uI
 rw [show zDw l v 0=some t from e]
 cases t with
 |ret r=>obtain ⟨rfl,hm⟩:=ht; simp [Fl.go,hm]
 |nxt _=>simp only [Fl.go,Option.bind_some]; rw [decide_eq_false ht]
def zKO (c:Int):Bool:=decide (97≤c)&&decide (c≤122)
def zH4 (c:Int):Bool:=decide (48≤c)&&decide (c≤57)
def zKu (c:Int):Bool:=zKO c||(zH4 c||c==95)
theorem zFX (c:Int):tQ c=some (zKO c):=by
 unfold tQ zKO
 by_cases h:c≥97<;>simp [h]
theorem zJq (c:Int):zB8 c=some (zH4 c):=by
 unfold zB8 zH4
 by_cases h:c≥48<;>simp [h]
theorem zK7 (c:Int):zDo c=some (zKu c):=by
 unfold zDo zKu
 simp only [zFX,zJq,Option.bind_some]
 cases zKO c<;>cases zH4 c<;>simp
theorem zHo (c:Int):zA1 c=some (zKu c):=by
 unfold zA1 zKu zKO zH4
 by_cases h1:c≥97<;>by_cases h2:c≤122<;>by_cases h3:c≥48<;>by_cases h4:c≤57<;>simp [h1,h2,h3,h4]
def zHk (s:ByteArray):Int:=(wP (fun _ c=>if zKu c then none else some (5:Int)) 0 (bl s)).getD 0
def NF (s:ByteArray):Int:=if s.size<1 then 5 else if s.size>12 then 5 else if zKO ((bl s).headD 0) then zHk s else 5
theorem zKv {s:ByteArray} (h:1≤s.size):bidx s 0=some ((bl s).headD 0):=by
 have h':0< (bl s).length :=by rw [zEn]; exact h
 have e:=zHe (s:=s) (i:=0) h'
 rw [show ((0:Nat):Int)=0 from rfl] at e
 rw [e]
 have:(bl s)[0]? =some ((bl s).headD 0):=by
  cases hb:bl s with
  |nil=>rw [hb] at h'; simp at h'
  |cons c l=>rfl
 rw [List.getElem?_eq_getElem h'] at this
 exact this
theorem zHt (s:ByteArray) (h:s.size≤12):zAe s 0=some (frs (wP (fun _ c=>if zKu c then none else some (5:Int)) 0 (bl s))):=by
 unfold zAe
 refine wI (bl s) _ (fun i hi=>?_) ?_
 ·have hs:i<s.size:=by rw [←zEn]; exact hi
  unfold zCl
  rw [if_pos (by simp; omega),zHe hi]
  simp only [Option.bind_some,zK7]
  rw [zQ (by omega)]
  cases zKu (bl s)[i]<;>rfl
 ·unfold zCl
  rw [if_neg (by rw [zEn]; simp)]
theorem zHv (s:ByteArray) (h:s.size≤12):zAh s 0=some (frs (wP (fun _ c=>if zKu c then none else some (5:Int)) 0 (bl s))):=by
 unfold zAh
 refine wI (bl s) _ (fun i hi=>?_) ?_
 ·have hs:i<s.size:=by rw [←zEn]; exact hi
  unfold zCk
  rw [if_pos (by simp; omega),zHe hi]
  simp only [Option.bind_some,zHo]
  rw [zQ (by omega)]
  cases zKu (bl s)[i]<;>rfl
 ·unfold zCk
  rw [if_neg (by rw [zEn]; simp)]
theorem zEj (s:ByteArray):uO s=some (NF s):=by
 unfold uO NF
 by_cases h1:s.size<1
 ·rw [if_pos (show decide ((s.size:Int)<1)=true by rw [decide_eq_true_eq]; omega),if_pos h1]; rfl
 rw [if_neg (show ¬decide ((s.size:Int)<1)=true by rw [decide_eq_true_eq]; omega),if_neg h1]
 by_cases h2:s.size>12
 ·rw [if_pos (show decide ((s.size:Int)>12)=true by rw [decide_eq_true_eq]; omega),if_pos h2]; rfl
 rw [if_neg (show ¬decide ((s.size:Int)>12)=true by rw [decide_eq_true_eq]; omega),if_neg h2,zKv (by omega),zHt s (by omega)]
 simp only [Option.bind_some,zFX]
 cases h3:zKO ((bl s).headD 0)
 ·rfl
 ·unfold zHk
  cases wP (fun _ c=>if zKu c then none else some (5:Int)) 0 (bl s)<;>rfl
theorem zLl (c:Int):(if decide (c<97)=true then some true else some (decide (c>122)))=some (!(zKO c)):=by
 unfold zKO
 by_cases h3:c<97
 ·rw [if_pos (by rw [decide_eq_true_eq]; exact h3)]
  have:decide (97≤c)=false:=by rw [decide_eq_false_iff_not]; omega
  rw [this]; rfl
 ·rw [if_neg (by rw [decide_eq_true_eq]; exact h3)]
  have:decide (97≤c)=true:=by rw [decide_eq_true_eq]; omega
  rw [this]
  congr 1
  rw [Bool.true_and,Bool.eq_iff_iff]
  simp
theorem zEi (s:ByteArray):uP s=some (NF s):=by
 unfold uP NF
 by_cases h1:s.size<1
 ·rw [if_pos (show decide ((s.size:Int)<1)=true by rw [decide_eq_true_eq]; omega),if_pos h1]; rfl
 rw [if_neg (show ¬decide ((s.size:Int)<1)=true by rw [decide_eq_true_eq]; omega),if_neg h1]
 by_cases h2:s.size>12
 ·rw [if_pos (show decide ((s.size:Int)>12)=true by rw [decide_eq_true_eq]; omega),if_pos h2]; rfl
 rw [if_neg (show ¬decide ((s.size:Int)>12)=true by rw [decide_eq_true_eq]; omega),if_neg h2,zKv (by omega),zHv s (by omega)]
 simp only [Option.bind_some,zLl]
 cases h3:zKO ((bl s).headD 0)
 ·rfl
 ·unfold zHk
  cases wP (fun _ c=>if zKu c then none else some (5:Int)) 0 (bl s)<;>rfl
def VF (v:Version):Int:=if inB v.A 0 999&&inB v.B 0 999&&inB v.C 0 999 then 0 else 3
theorem zEr (v:Version):wW v=some (VF v):=by
 unfold wW VF
 simp only [zIz,Option.bind_some]
 cases inB v.A 0 999<;>cases inB v.B 0 999<;>cases inB v.C 0 999<;>rfl
theorem zEl (v:Version):wY v=some (VF v):=by
 unfold wY VF
 simp only [zFV,Option.bind_some]
 cases inB v.A 0 999<;>cases inB v.B 0 999<;>cases inB v.C 0 999<;>rfl
def sgn (a b:Int):Int:=if a<b then-1 else if a>b then 1 else 0
theorem zKf (a b:Int):zAl a b=some (sgn a b):=by
 unfold zAl sgn
 by_cases h:a<b
 ·simp [h]
 ·by_cases h2:a>b<;>simp [h,h2]
theorem cmp_eq (a b:Int):wV a b=some (sgn a b):=by
 unfold wV jQ sgn
 simp only [Option.bind_some,bne_self_eq_false,Bool.false_eq_true,if_false]
 by_cases h:a<b
 ·simp [h]
 ·by_cases h2:a>b<;>simp [h,h2]
def zGI (a b:Version):Int:=if sgn a.A b.A≠0 then sgn a.A b.A else if sgn a.B b.B≠0 then sgn a.B b.B else sgn a.C b.C
theorem zBj (a b:Version):yK a b=some (zGI a b):=by
 unfold yK zGI
 simp only [zKf,Option.bind_some]
 by_cases h1:sgn a.A b.A=0
 ·by_cases h2:sgn a.B b.B=0<;>simp [h1,h2]
 ·simp [h1]
theorem zMq (l:List Int) (h:l.length≤10):loop (zCV l) 0=some (frs (wP (fun _ c=>if c !=0 then some c else none) 0 l)):=by
 refine wI l _ (fun i hi=>?_) ?_
 ·unfold zCV
  rw [if_pos (by simp; omega),zK hi]
  simp only [Option.bind_some]
  rw [zQ (by omega)]
  cases l[i] !=0<;>rfl
 ·unfold zCV
  rw [if_neg (by simp)]
theorem zFA (a b:Version):jF a b=some (zGI a b):=by
 unfold jF zGI zDT zD1
 simp only [cmp_eq,Option.bind_some]
 rw [zMq _ (by simp),zBh]
 by_cases h1:sgn a.A b.A=0
 ·by_cases h2:sgn a.B b.B=0
  ·by_cases h3:sgn a.C b.C=0<;>simp [h1,h2,h3,wP]
  ·simp [h1,h2,wP]
 ·simp [h1,wP]
theorem zK0 (a b:Version):zGI b a= -zGI a b:=by
 unfold zGI sgn
 split<;>split<;>omega
def eqV (a b:Version):Bool:=a.A==b.A&&(a.B==b.B&&(a.C==b.C&&true))
theorem zK3 (a b:Version):(zGI a b==0)=eqV a b:=by
 unfold zGI eqV sgn
 rw [Bool.eq_iff_iff]
 simp only [beq_iff_eq,Bool.and_eq_true,Bool.and_true]
 constructor
 ·intro h
  split at h<;>omega
 ·intro ⟨h1,h2,h3⟩
  split<;>omega
def zM7:Version:= {A:=1000,B:=0,C:=0}
def TF (t:Term):Int:=if NF t.Name≠0 then NF t.Name else if VF t.Low≠0 then VF t.Low else
 if eqV t.High zM7=false∧VF t.High≠0 then 3 else if zGI t.Low t.High≥0 then 1 else 0
theorem zGD (t:Term):zBc t=some (TF t):=by
 unfold zBc TF zA4
 simp only [zEj,zEr,zBj,Option.bind_some]
 show (if (NF t.Name !=0)=true then some (NF t.Name) else if (VF t.Low !=0)=true then some (VF t.Low) else (if (!(eqV t.High zM7))=true then some (VF t.High !=0) else some false).bind fun v=>if v=true then some 3 else if decide (zGI t.Low t.High≥0)=true then some 1 else some 0)=_
 generalize NF t.Name=a
 generalize VF t.Low=b
 generalize eqV t.High zM7=c
 generalize VF t.High=d
 generalize zGI t.Low t.High=e
 by_cases h1:a=0
 ·by_cases h2:b=0
  ·by_cases h4:d=0<;>by_cases h5:e≥0<;>cases c<;>simp [h1,h2,h4,h5]
  ·simp [h1,h2]
 ·simp [h1]
theorem zG9 (t:Term):zAX t=some (TF t):=by
 unfold zAX TF zE0
 simp only [zEi,zEl,zFA,Option.bind_some]
 show (if (NF t.Name !=0)=true then some (NF t.Name) else if (VF t.Low !=0)=true then some (VF t.Low) else (if (!(eqV t.High zM7))=true then some (VF t.High !=0) else some false).bind fun v=>if v=true then some 3 else if decide (zGI t.Low t.High≥0)=true then some 1 else some 0)=_
 generalize NF t.Name=a
 generalize VF t.Low=b
 generalize eqV t.High zM7=c
 generalize VF t.High=d
 generalize zGI t.Low t.High=e
 by_cases h1:a=0
 ·by_cases h2:b=0
  ·by_cases h4:d=0<;>by_cases h5:e≥0<;>cases c<;>simp [h1,h2,h4,h5]
  ·simp [h1,h2]
 ·simp [h1]
def tsF (l:List Term):Int:=(wP (fun _ t=>if TF t !=0 then some (TF t) else none) 0 l).getD 0
theorem zFB (l:List Term) (h:l.length≤1048576):kZ l=some (tsF l):=by
 have key:=wI l (fun _ t=>if TF t !=0 then some (TF t) else none) (b:=zBU l) (by
  intro i hi
  unfold zBU
  rw [if_pos (by simp; omega),zK hi]
  simp only [Option.bind_some,zGD]
  rw [zQ (by omega)]
  cases TF l[i] !=0<;>rfl) (by
  unfold zBU
  rw [if_neg (by simp)])
 unfold kZ zCH tsF
 rw [key,zBh]
 cases wP (fun _ t=>if TF t !=0 then some (TF t) else none) 0 l<;>rfl
theorem zEF (l:List Term) (h:l.length≤1048576):uL l=some (tsF l):=by
 have key:=wI l (fun _ t=>if TF t !=0 then some (TF t) else none) (b:=zAz l) (by
  intro i hi
  unfold zAz
  rw [if_pos (by simp; omega),zK hi]
  simp only [Option.bind_some,zG9]
  rw [zQ (by omega)]
  cases TF l[i] !=0<;>rfl) (by
  unfold zAz
  rw [if_neg (by simp)])
 unfold uL zAI tsF
 rw [key,zBh]
 cases wP (fun _ t=>if TF t !=0 then some (TF t) else none) 0 l<;>rfl
theorem zHb (a b:ByteArray):seq a b=seq b a:=by
 unfold seq
 rw [Bool.eq_iff_iff]
 simp only [beq_iff_eq]
 exact eq_comm
theorem zEE {α R:Type} (g:Nat→α→Option R):∀(xs:List α) (i:Nat),wP g i xs=none↔∀(j:Nat) (h:j<xs.length),g (i+j) xs[j]=none
 |[],i=>by simp [wP]
 |x::xs,i=>by
  simp only [wP]
  cases h:g i x with
  |some r=>
   simp only [reduceCtorEq,false_iff]
   intro hh
   have:=hh 0 (by simp)
   simp only [Nat.add_zero,List.getElem_cons_zero] at this
   rw [h] at this
   cases this
  |none=>
   show wP g (i+1) xs=none↔_
   rw [zEE g xs (i+1)]
   constructor
   ·intro hh j hj
    cases j with
    |zero=>simpa using h
    |succ j=>
     have:=hh j (by simpa using hj)
     rw [show i+(j+1)=i+1+j by omega]
     simpa using this
   ·intro hh j hj
    have:=hh (j+1) (by simpa using hj)
    rw [show i+(j+1)=i+1+j by omega] at this
    simpa using this
theorem zEP {α:Type} {xs:List α} {i:Nat} (h:i≤xs.length):zEe xs 0 (i:Int)=some (xs.take i):=by
 have:=zDM (xs:=xs) (l:=0) (h:=i) (by omega) h
 rw [show ((0:Nat):Int)=0 from rfl] at this
 rw [this]
 simp
theorem zDB (l:List ByteArray) (n:ByteArray) (h:l.length≤1048576):wR l n=some (l.any fun x=>seq x n):=by
 have key:=wI l (fun _ x=>if seq x n then some true else none) (b:=zCa l n) (by
  intro i hi
  unfold zCa
  rw [if_pos (by simp; omega),zK hi]
  simp only [Option.bind_some]
  rw [zQ (by omega)]
  cases seq l[i] n<;>rfl) (by
  unfold zCa
  rw [if_neg (by simp)])
 unfold wR zC8
 rw [key,zBh,←zFp (fun x=>seq x n) l 0]
 cases wP (fun _ x=>if seq x n then some true else none) 0 l<;>rfl
theorem zD3 (l:List ByteArray) (n:ByteArray) (h:l.length≤1048576):yP l n=some (l.any fun x=>seq x n):=by
 have key:=wI l (fun i x=>if seq x n then some (i:Int) else none) (b:=uV l n) (by
  intro i hi
  unfold uV
  rw [if_pos (by simp; omega),zK hi]
  simp only [Option.bind_some]
  rw [zQ (by omega),zHb n]
  cases seq l[i] n<;>rfl) (by
  unfold uV
  rw [if_neg (by simp)])
 unfold yP jE tJ
 rw [key,zBh]
 rw [←zDE (zCj (fun x=>seq x n) l 0)]
 cases wP (fun j x=>if seq x n then some (j:Int) else none) 0 l<;>rfl
def zIj (p:Pack) (i:Nat) (n:ByteArray):Option Int:=if NF n !=0 then some (NF n) else if seq n p.Name||(p.Provides.take i).any (fun x=>seq x n) then some 6 else none
def zIg (_:Nat) (l:List Term):Option Int:=if (l.length:Int)==0 then some 1 else if tsF l !=0 then some (tsF l) else none
def zJO (p:Pack):Bool:=decide ((p.Provides.length:Int)>4)||(decide ((p.Needs.length:Int)>4)||(decide ((p.Bars.length:Int)>4)||p.Needs.any (fun l=>decide ((l.length:Int)>4))))
def zHV (p:Pack):Int:=match wP (zIj p) 0 p.Provides with
 |some r=>r
 |none=>match wP zIg 0 p.Needs with
  |some r=>r
  |none=>tsF p.Bars
def PF (p:Pack):Int:=if NF p.Name !=0 then NF p.Name else if VF p.Version !=0 then VF p.Version else if !(inB p.Size 1 200) then 3 else if zJO p then 2 else zHV p
theorem zFT (p:Pack) (hp:Pack.sm 1048576 p):((zAk p 0).bind (Fl.go some fun v60=>(zAg p 0).bind (Fl.go some fun v80=>(kZ p.Bars).bind fun x81=>some x81)))=some (zHV p):=by
 obtain ⟨_,_,_,hpr,hne,hba⟩:=hp
 have k2:=wI p.Provides (zIj p) (b:=zAF p) (by
  intro i hi
  unfold zAF zIj
  rw [if_pos (by simp; omega),zK hi]
  simp only [Option.bind_some,zEj]
  rw [zEP (by omega)]
  simp only [Option.bind_some]
  rw [zDB _ _ (by simp; omega),zQ (by omega)]
  simp only [Option.bind_some]
  cases NF p.Provides[i] !=0<;>cases seq p.Provides[i] p.Name<;>cases (p.Provides.take i).any (fun x=>seq x p.Provides[i])<;>rfl) (by
  unfold zAF
  rw [if_neg (by simp)])
 have k3:=wI p.Needs zIg (b:=zAN p) (by
  intro i hi
  unfold zAN zIg
  rw [if_pos (by simp; omega),zK hi]
  simp only [Option.bind_some]
  rw [zFB _ (hne.2 _ (List.getElem_mem hi)).1,zQ (by omega)]
  simp only [Option.bind_some]
  cases (p.Needs[i].length :Int)==0<;>cases tsF p.Needs[i] !=0<;>rfl) (by
  unfold zAN
  rw [if_neg (by simp)])
 unfold zAk zAg zHV
 rw [k2,k3,zFB _ hba.1]
 cases wP (zIj p) 0 p.Provides<;>cases wP zIg 0 p.Needs<;>rfl
theorem zFG (p:Pack) (hp:Pack.sm 1048576 p):((zAd p 0).bind (Fl.go some fun v46=>(zAb p 0).bind (Fl.go some fun v62=>(uL p.Bars).bind fun x63=>some x63)))=some (zHV p):=by
 obtain ⟨_,_,_,hpr,hne,hba⟩:=hp
 have k2:=wI p.Provides (zIj p) (b:=zAR p) (by
  intro i hi
  unfold zAR zIj
  rw [if_pos (by simp; omega),zK hi]
  simp only [Option.bind_some,zEi]
  rw [zEP (by omega)]
  simp only [Option.bind_some]
  rw [zD3 _ _ (by simp; omega),zQ (by omega)]
  simp only [Option.bind_some]
  cases NF p.Provides[i] !=0<;>cases seq p.Provides[i] p.Name<;>cases (p.Provides.take i).any (fun x=>seq x p.Provides[i])<;>rfl) (by
  unfold zAR
  rw [if_neg (by simp)])
 have k3:=wI p.Needs zIg (b:=zAS p) (by
  intro i hi
  unfold zAS zIg
  rw [if_pos (by simp; omega),zK hi]
  simp only [Option.bind_some]
  rw [zEF _ (hne.2 _ (List.getElem_mem hi)).1,zQ (by omega)]
  simp only [Option.bind_some]
  cases (p.Needs[i].length :Int)==0<;>cases tsF p.Needs[i] !=0<;>rfl) (by
  unfold zAS
  rw [if_neg (by simp)])
 unfold zAd zAb zHV
 rw [k2,k3,zEF _ hba.1]
 cases wP (zIj p) 0 p.Provides<;>cases wP zIg 0 p.Needs<;>rfl
theorem zER {α R:Type} (p:α→Bool) (r:R):∀(xs:List α) (i:Nat),wP (fun _ x=>if p x then some r else none) i xs=if xs.any p then some r else none
 |[],i=>rfl
 |x::xs,i=>by
  simp only [wP]
  cases h:p x
  ·simp only [Bool.false_eq_true,if_false,List.any_cons,h,Bool.false_or]
   exact zER p r xs (i+1)
  ·simp [h]
theorem zGB (p:Pack) (hp:Pack.sm 1048576 p):zBd p=some (PF p):=by
 have hl:=zFT p hp
 obtain ⟨_,_,_,hpr,hne,hba⟩:=hp
 have k1:=wI p.Needs (fun _ l=>if decide ((l.length:Int)>4) then some (2:Int) else none) (b:=zAG p) (by
  intro i hi
  unfold zAG
  rw [if_pos (by simp; omega),zK hi]
  simp only [Option.bind_some]
  rw [zQ (by omega)]
  cases decide ((p.Needs[i].length :Int)>4)<;>rfl) (by
  unfold zAG
  rw [if_neg (by simp)])
 rw [zER] at k1
 unfold zBd PF zJO
 simp only [zEj,zEr,zIz,Option.bind_some]
 rw [hl]
 unfold zBs
 rw [k1]
 cases NF p.Name !=0<;>cases VF p.Version !=0<;>cases inB p.Size 1 200<;>cases decide ((p.Provides.length:Int)>4)<;>cases decide ((p.Needs.length:Int)>4)<;>cases decide ((p.Bars.length:Int)>4)<;>cases p.Needs.any (fun l=>decide ((l.length:Int)>4))<;>rfl
theorem zJj (l:List Int) (h:l.length≤10):loop (zAB l) 0=some (frs (wP (fun _ c=>if c !=0 then some c else none) 0 l)):=by
 refine wI l _ (fun i hi=>?_) ?_
 ·unfold zAB
  rw [if_pos (by simp; omega),zK hi]
  simp only [Option.bind_some]
  rw [zQ (by omega)]
  cases l[i] !=0<;>rfl
 ·unfold zAB
  rw [if_neg (by simp)]
theorem zGC (p:Pack) (hp:Pack.sm 1048576 p):zBf p=some (PF p):=by
 have hl:=zFG p hp
 obtain ⟨_,_,_,hpr,hne,hba⟩:=hp
 have k1:=wI p.Needs (fun i l=>if decide ((l.length:Int)>4) then some (i:Int) else none) (b:=yV p.Needs) (by
  intro i hi
  unfold yV zA9
  rw [if_pos (by simp; omega),zK hi]
  simp only [Option.bind_some]
  rw [zQ (by omega)]
  cases decide ((p.Needs[i].length :Int)>4)<;>rfl) (by
  unfold yV
  rw [if_neg (by simp)])
 have k2:zS p.Needs=some (p.Needs.any (fun l=>decide ((l.length:Int)>4))):=by
  unfold zS yM xB
  rw [k1,zBh,←zDE (zCj (fun l:List Term=>decide ((l.length:Int)>4)) p.Needs 0)]
  cases wP (fun j (x:List Term)=>if decide ((x.length:Int)>4) then some (j:Int) else none) 0 p.Needs<;>rfl
 have k3:vK [NF p.Name,VF p.Version]=some (if NF p.Name !=0 then NF p.Name else VF p.Version):=by
  have k:=zJj [NF p.Name,VF p.Version] (by simp)
  unfold vK zAc
  rw [k,zBh]
  simp only [wP]
  cases hn:NF p.Name !=0
  ·cases hv:VF p.Version !=0
   ·have:VF p.Version=0:=by simpa using hv
    simp [this]
   ·rfl
  ·rfl
 unfold zBf PF zJO
 simp only [zEi,zEl,zFV,Option.bind_some]
 rw [hl,k2,k3]
 simp only [Option.bind_some]
 cases hn:NF p.Name !=0
 ·simp only [Bool.false_eq_true,if_false]
  cases VF p.Version !=0<;>cases inB p.Size 1 200<;>cases decide ((p.Provides.length:Int)>4)<;>cases decide ((p.Needs.length:Int)>4)<;>cases decide ((p.Bars.length:Int)>4)<;>cases p.Needs.any (fun l=>decide ((l.length:Int)>4))<;>rfl
 ·simp only [if_true,hn]
def isB (n:ByteArray) (v:Version) (q:Pack):Bool:=seq q.Name n&&eqV q.Version v
def zJn (c:List Pack) (n:ByteArray) (v:Version):Int:=(wP (fun i q=>if isB n v q then some (i:Int) else none) 0 c).getD (-1)
theorem zHZ (c:List Pack) (n:ByteArray) (v:Version):decide (zJn c n v≥0)=c.any (isB n v):=zDE (zCj (isB n v) c 0)
theorem zGO (c:List Pack) (n:ByteArray) (v:Version) (h:c.length≤1048576):zAY c n v=some (zJn c n v):=by
 have key:=wI c (fun i q=>if isB n v q then some (i:Int) else none) (b:=zCr c n v) (by
  intro i hi
  unfold zCr isB
  rw [if_pos (by simp; omega),zK hi]
  simp only [Option.bind_some,zBj,zK3]
  rw [zQ (by omega)]
  cases seq c[i].Name n<;>cases eqV c[i].Version v<;>rfl) (by
  unfold zCr
  rw [if_neg (by simp)])
 unfold zJn
 unfold zAY zCT
 rw [key,zBh]
 cases wP (fun i q=>if isB n v q then some (i:Int) else none) 0 c<;>rfl
theorem zJv (c:List Pack) (n:ByteArray) (v:Version) (h:c.length≤1048576):zDI c n v=some (zJn c n v):=by
 have key:=wI c (fun i q=>if isB n v q then some (i:Int) else none) (b:=xW c n v) (by
  intro i hi
  unfold xW isB zD6
  rw [if_pos (by simp; omega),zK hi]
  simp only [Option.bind_some]
  rw [zQ (by omega)]
  show (Option.bind (if seq c[i].Name n=true then some (eqV c[i].Version v) else some false) _)=_
  cases seq c[i].Name n<;>cases eqV c[i].Version v<;>rfl) (by
  unfold xW
  rw [if_neg (by simp)])
 unfold zJn
 unfold zDI xM wB
 rw [key,zBh]
 cases wP (fun i q=>if isB n v q then some (i:Int) else none) 0 c<;>rfl
theorem find_spec (c:List Pack) (n:ByteArray) (v:Version) (h:c.length≤1048576):∃k,zAY c n v=some k∧decide (k≥0)=c.any (isB n v):=⟨_,zGO c n v h,zHZ c n v⟩
theorem zK2 (c:List Pack) (n:ByteArray) (v:Version) (h:c.length≤1048576):∃k,zDI c n v=some k∧decide (k≥0)=c.any (isB n v):=⟨_,zJv c n v h,zHZ c n v⟩
def zKT (c:List Pack) (i:Nat) (p:Pack):Option Int:=if PF p !=0 then some (PF p) else if (c.take i).any (isB p.Name p.Version) then some 6 else none
def CF (c:List Pack):Int:=if decide ((c.length:Int)>24) then 2 else (wP (zKT c) 0 c).getD 0
theorem zD8 (c:List Pack) (hc:c.length≤1048576∧∀y0∈c,Pack.sm 1048576 y0):wN c=some (CF c):=by
 have key:=wI c (zKT c) (b:=kC c) (by
  intro i hi
  unfold kC zKT
  rw [if_pos (by simp; omega),zK hi]
  simp only [Option.bind_some]
  rw [zGB _ (hc.2 _ (List.getElem_mem hi)),zEP (by omega)]
  simp only [Option.bind_some]
  obtain ⟨k,e,hk⟩:=find_spec (c.take i) c[i].Name c[i].Version (by simp; omega)
  rw [e,zQ (by omega)]
  simp only [Option.bind_some]
  rw [hk]
  cases PF c[i] !=0<;>cases (c.take i).any (isB c[i].Name c[i].Version)<;>rfl) (by
  unfold kC
  rw [if_neg (by simp)])
 unfold wN CF kK
 rw [key,zBh]
 cases decide ((c.length:Int)>24)<;>cases wP (zKT c) 0 c<;>rfl
theorem zFz (c:List Pack) (hc:c.length≤1048576∧∀y0∈c,Pack.sm 1048576 y0):jK c=some (CF c):=by
 have key:=wI c (zKT c) (b:=jZ c) (by
  intro i hi
  unfold jZ zKT
  rw [if_pos (by simp; omega),zK hi]
  simp only [Option.bind_some]
  rw [zGC _ (hc.2 _ (List.getElem_mem hi)),zEP (by omega)]
  simp only [Option.bind_some]
  obtain ⟨k,e,hk⟩:=zK2 (c.take i) c[i].Name c[i].Version (by simp; omega)
  rw [e,zQ (by omega)]
  simp only [Option.bind_some]
  rw [hk]
  cases PF c[i] !=0<;>cases (c.take i).any (isB c[i].Name c[i].Version)<;>rfl) (by
  unfold jZ
  rw [if_neg (by simp)])
 unfold jK CF kM
 rw [key,zBh]
 cases decide ((c.length:Int)>24)<;>cases wP (zKT c) 0 c<;>rfl
def noPack:Pack:= {Name:=ByteArray.empty,Version:= {A:=0,B:=0,C:=0},Size:=0,Provides:=[],Needs:=[],Bars:=[]}
def pat (c:List Pack) (k:Int):Pack:=(idx c k).getD noPack
def Places (c:List Pack) (a:List Int):Prop:=∀k∈a,0≤k∧k<c.length
theorem uN {c:List Pack} {k:Int} (h:0≤k∧k<c.length):idx c k=some (pat c k)∧pat c k∈c:=by
 unfold pat idx
 rw [if_pos h.1]
 have:k.toNat<c.length:=by omega
 rw [List.getElem?_eq_getElem this]
 exact ⟨rfl,List.getElem_mem this⟩
def Cat (c:List Pack):Prop:=c.length≤1048576∧∀y0∈c,Pack.sm 1048576 y0
theorem Cat.zLA {c:List Pack} (hc:Cat c) {k:Int} (h:0≤k∧k<c.length):(pat c k).Provides.length ≤1048576:=(hc.2 _ (uN h).2).2.2.2.1.1
theorem Cat.needs {c:List Pack} (hc:Cat c) {k:Int} (h:0≤k∧k<c.length):(pat c k).Needs.length ≤1048576:=(hc.2 _ (uN h).2).2.2.2.2.1.1
theorem Cat.clause {c:List Pack} (hc:Cat c) {k:Int} (h:0≤k∧k<c.length) {l:List Term} (hl:l∈(pat c k).Needs):l.length≤1048576:=((hc.2 _ (uN h).2).2.2.2.2.1.2 l hl).1
theorem Cat.bars {c:List Pack} (hc:Cat c) {k:Int} (h:0≤k∧k<c.length):(pat c k).Bars.length ≤1048576:=(hc.2 _ (uN h).2).2.2.2.2.2.1
def zJR (c:List Pack) (a:List Int) (i:Nat) (k:Int):Option Bool:=if !(inB k 0 ((c.length:Int)-1))||(decide (0<i)&&decide (k≤a.getD (i-1) 0)) then some false else none
def zLs (c:List Pack) (a:List Int):Bool:=(wP (zJR c a) 0 a).isNone
theorem getD_lt {a:List Int} {i:Nat} (h:i<a.length):a.getD i 0=a[i]:=by simp [List.getD,h]
theorem zJK {c:List Pack} {a:List Int} (hc:c.length≤1048576) (ha:a.length≤1048576):zD9 c a=some (zLs c a):=by
 have key:=wI a (zJR c a) (b:=zDh c a) (by
  intro i hi
  unfold zDh zJR
  rw [if_pos (by simp; omega),zK hi,kE (x:=(c.length:Int)-1) (by omega) (by omega)]
  simp only [Option.bind_some,zIz]
  by_cases h0:0<i
  ·rw [kE (x:=(i:Int)-1) (by omega) (by omega),show (i:Int)-1=((i-1:Nat):Int) by omega,zK (show i-1<a.length by omega),getD_lt (show i-1<a.length by omega)]
   have e:decide ((i:Int)>0)=true:=by simp; omega
   have e2:decide (0<i)=true:=by simpa using h0
   rw [e,e2,zQ (by omega)]
   simp only [Option.bind_some,Bool.true_and]
   cases inB a[i] 0 ((c.length:Int)-1)<;>cases decide (a[i]≤a[i-1])<;>rfl
  ·have e:decide ((i:Int)>0)=false:=by simp; omega
   have e2:decide (0<i)=false:=by simpa using h0
   rw [e,e2,zQ (by omega)]
   cases inB a[i] 0 ((c.length:Int)-1)<;>rfl) (by
  unfold zDh
  rw [if_neg (by simp)])
 unfold zD9 zD2 zLs
 rw [key,zBh]
 have hf:∀(l:List Int) (i:Nat),wP (zJR c a) i l=none∨wP (zJR c a) i l=some false:=by
  intro l
  induction l with
  |nil=>intro i; exact .inl rfl
  |cons x l ih=>
   intro i
   simp only [wP]
   cases hg:zJR c a i x with
   |none=>exact ih (i+1)
   |some r=>
    unfold zJR at hg
    split at hg
    ·cases hg; exact .inr rfl
    ·cases hg
 rcases hf a 0 with h|h<;>rw [h]<;>rfl
def SF (c:List Pack) (a:List Int):Int:=if CF c !=0 then CF c else if zLs c a then 0 else 1
theorem zE1 {c:List Pack} {a:List Int} (hc:Cat c) (ha:a.length≤1048576):uT c a=some (SF c a):=by
 unfold uT SF
 rw [zD8 c hc,zJK hc.1 ha]
 simp only [Option.bind_some]
 cases CF c !=0<;>cases zLs c a<;>rfl
theorem zG7 {c:List Pack} {a:List Int} (hc:c.length≤1048576) (ha:a.length≤1048576):zBa c a=some (a.all (fun k=>inB k 0 ((c.length:Int)-1))):=by
 have key:=wI a (fun i k=>if !(inB k 0 ((c.length:Int)-1)) then some (i:Int) else none) (b:=xL a c) (by
  intro i hi
  unfold xL zA8
  rw [if_pos (by simp; omega),zK hi,kE (x:=(c.length:Int)-1) (by omega) (by omega)]
  simp only [Option.bind_some,zFV]
  rw [zQ (by omega)]
  cases inB a[i] 0 ((c.length:Int)-1)<;>rfl) (by
  unfold xL
  rw [if_neg (by simp)])
 unfold zBa yR xD xP
 rw [key,zBh]
 have e:a.all (fun k=>inB k 0 ((c.length:Int)-1))= !(a.any (fun k=> !(inB k 0 ((c.length:Int)-1)))):=by
  rw [List.all_eq_not_any_not]
 rw [e,←zDE (zCj (fun k=> !(inB k 0 ((c.length:Int)-1))) a 0)]
 cases wP (fun i k=>if !(inB k 0 ((c.length:Int)-1)) then some (i:Int) else none) 0 a<;>rfl
def zKR (a:List Int) (i:Nat) (k:Int):Option Int:=if decide (k≤a.getD (i-1) 0) then some 1 else none
theorem zIX (c:List Pack) (a:List Int):zLs c a=((wP (zKR a) 1 (a.drop 1)).isNone &&a.all (fun k=>inB k 0 ((c.length:Int)-1))):=by
 unfold zLs
 rw [Bool.eq_iff_iff,Bool.and_eq_true,Option.isNone_iff_eq_none,Option.isNone_iff_eq_none,zEE,zEE,List.all_eq_true]
 constructor
 ·intro h
  constructor
  ·intro j hj
   have hj':1+j<a.length:=by simp at hj; omega
   have:=h (1+j) hj'
   unfold zJR at this
   unfold zKR
   rw [List.getElem_drop]
   split at this
   ·cases this
   ·rename_i hn
    rw [if_neg]
    intro hx
    apply hn
    rw [Nat.zero_add]
    rw [Bool.or_eq_true,Bool.and_eq_true]
    exact .inr ⟨by rw [decide_eq_true_eq]; omega,hx⟩
  ·intro k hk
   obtain ⟨i,hi,rfl⟩:=List.mem_iff_getElem.1 hk
   have:=h i hi
   unfold zJR at this
   split at this
   ·cases this
   ·rename_i hn
    simp only [Bool.or_eq_true,not_or] at hn
    simpa using hn.1
 ·rintro ⟨h1,h2⟩ j hj
  unfold zJR
  rw [if_neg]
  rw [Nat.zero_add,h2 _ (List.getElem_mem hj)]
  simp only [Bool.not_true,Bool.false_or,Bool.and_eq_true,not_and]
  intro h0 hx
  have h0':0<j:=by simpa using h0
  have hd:j-1< (a.drop 1).length :=by simp; omega
  have:=h1 (j-1) hd
  unfold zKR at this
  rw [List.getElem_drop] at this
  have ej:1+(j-1)=j:=by omega
  simp only [ej] at this
  rw [if_pos hx] at this
  cases this
theorem zDz {c:List Pack} {a:List Int} (hc:Cat c) (ha:a.length≤1048576):wS c a=some (SF c a):=by
 have hend:uW c a (a.length:Int)=some (.done (.nxt ())):=by
  unfold uW
  rw [if_neg (by simp)]
 have key:zAA c a 1=some (frs (wP (zKR a) 1 (a.drop 1))):=by
  unfold zAA
  rcases Nat.eq_zero_or_pos a.length with h0|h0
  ·have:a=[]:=List.eq_nil_of_length_eq_zero h0
   subst this
   rw [vP]
   unfold uW
   rw [if_neg (by simp)]
   rfl
  ·have hh:∀(k i:Nat),1≤i→i+k=a.length→loop (uW c a) (i:Int)=some (frs (wP (zKR a) i (a.drop i))):=by
    intro k
    induction k with
    |zero=>
     intro i h1 h
     have e:i=a.length:=by omega
     subst e
     rw [vP,hend,List.drop_length]
     rfl
    |succ k ih=>
     intro i h1 h
     have hi:i<a.length:=by omega
     have ih:=ih (i+1) (by omega) (by omega)
     rw [vP,List.drop_eq_getElem_cons hi]
     simp only [wP]
     have hb:uW c a (i:Int)=some (if decide (a[i]≤a[i-1]) then .done (.ret 1) else .go ((i+1:Nat):Int)):=by
      unfold uW
      rw [if_pos (by simp; omega),zK hi,kE (x:=(i:Int)-1) (by omega) (by omega),show (i:Int)-1=((i-1:Nat):Int) by omega,zK (show i-1<a.length by omega),zQ (by omega)]
      simp only [Option.bind_some]
      cases decide (a[i]≤a[i-1])<;>rfl
     rw [hb]
     unfold zKR
     rw [getD_lt (show i-1<a.length by omega)]
     cases decide (a[i]≤a[i-1])
     ·exact ih
     ·rfl
   exact hh (a.length-1) 1 (by omega) (by omega)
 unfold wS SF
 rw [zFz c hc,key,zBh,zG7 hc.1 ha,zIX]
 simp only [Option.bind_some]
 have hf:∀(l:List Int) (i:Nat),wP (zKR a) i l=none∨wP (zKR a) i l=some 1:=by
  intro l
  induction l with
  |nil=>intro i; exact .inl rfl
  |cons x l ih=>
   intro i
   simp only [wP]
   cases hg:zKR a i x with
   |none=>exact ih (i+1)
   |some r=>
    unfold zKR at hg
    split at hg
    ·cases hg; exact .inr rfl
    ·cases hg
 rcases hf (a.drop 1) 1 with h|h<;>rw [h]<;>cases CF c !=0<;>cases a.all (fun k=>inB k 0 ((c.length:Int)-1))<;>rfl
theorem zH6 {c:List Pack} {a:List Int} (h:(SF c a==0)=true):Places c a:=by
 unfold SF at h
 split at h
 ·rename_i h1
  rw [beq_iff_eq] at h
  rw [h] at h1
  simp at h1
 ·split at h
  ·rename_i h2
   rw [zIX,Bool.and_eq_true,List.all_eq_true] at h2
   intro k hk
   have:=h2.2 k hk
   unfold inB at this
   simp only [Bool.and_eq_true,decide_eq_true_eq] at this
   omega
  ·cases h
def zLX (t:Term) (v:Version):Bool:=decide (zGI v t.Low≥0)&&decide (zGI v t.High<0)
def zK4 (t:Term) (n:ByteArray) (v:Version):Bool:=seq t.Name n&&zLX t v
theorem zIu (t:Term) (n:ByteArray) (v:Version):kU t n v=some (zK4 t n v):=by
 unfold kU zK4 zLX
 simp only [zBj,Option.bind_some]
 cases seq t.Name n<;>cases decide (zGI v t.Low≥0)<;>rfl
theorem zKV (t:Term) (n:ByteArray) (v:Version):zBB t n v=some (zK4 t n v):=by
 unfold zBB zK4 zLX
 simp only [zFA,Option.bind_some]
 have e:decide (zGI t.Low v≤0)=decide (zGI v t.Low≥0):=by
  rw [zK0 v t.Low]
  rw [Bool.eq_iff_iff,decide_eq_true_eq,decide_eq_true_eq]
  omega
 rw [e]
 cases seq t.Name n<;>cases decide (zGI v t.Low≥0)<;>rfl
def zA3 (p:Pack) (t:Term):Bool:=(seq t.Name p.Name||p.Provides.any (fun x=>seq x t.Name))&&zLX t p.Version
theorem zF2 (p:Pack) (t:Term) (h:p.Provides.length≤1048576):jT p t=some (zA3 p t):=by
 unfold jT zA3
 simp only [zIu,Option.bind_some,zDB _ _ h,zK4,zHa,Bool.true_and]
 cases seq t.Name p.Name<;>cases p.Provides.any (fun x=>seq x t.Name)<;>rfl
theorem zGY (p:Pack) (t:Term) (h:p.Provides.length≤1048576):tX p t=some (zA3 p t):=by
 unfold tX zBr
 rw [uR (by simp; omega) (by simp; omega)]
 simp only [Option.bind_some]
 have key:=wI ([p.Name]++p.Provides) (fun i n=>if zK4 t n p.Version then some (i:Int) else none) (b:=yZ ([p.Name]++p.Provides) t p) (by
  intro i hi
  have hi':i<p.Provides.length+1:=by simpa using hi
  unfold yZ zAj
  rw [if_pos (by rw [decide_eq_true_eq]; exact Int.ofNat_lt.2 hi),zK hi]
  simp only [Option.bind_some,zKV]
  rw [zQ (by omega)]
  cases zK4 t ([p.Name]++p.Provides)[i] p.Version<;>rfl) (by
  unfold yZ
  rw [if_neg (by simp)])
 unfold yE yQ xE
 rw [key,zBh]
 have e:zA3 p t=([p.Name]++p.Provides).any (fun n=>zK4 t n p.Version):=by
  unfold zA3 zK4
  have:(fun n=>seq t.Name n&&zLX t p.Version)=(fun n=>seq n t.Name&&zLX t p.Version):=funext fun n=>by rw [zHb]
  rw [this,zHb t.Name p.Name]
  cases zLX t p.Version<;>simp
 rw [e,←zDE (zCj (fun n=>zK4 t n p.Version) ([p.Name]++p.Provides) 0)]
 cases wP (fun i n=>if zK4 t n p.Version then some (i:Int) else none) 0 ([p.Name]++p.Provides)<;>rfl
theorem zHl (p:Pack) (l:List Term) (h:p.Provides.length≤1048576) (hl:l.length≤1048576):tO p l=some (l.any (zA3 p)):=by
 have key:=wI l (fun i t=>if zA3 p t then some (i:Int) else none) (b:=xG l p) (by
  intro i hi
  unfold xG
  rw [if_pos (by simp; omega),zK hi]
  simp only [Option.bind_some,zGY _ _ h]
  rw [zQ (by omega)]
  cases zA3 p l[i]<;>rfl) (by
  unfold xG
  rw [if_neg (by simp)])
 unfold tO yH yS xJ
 rw [key,zBh,←zDE (zCj (zA3 p) l 0)]
 cases wP (fun i t=>if zA3 p t then some (i:Int) else none) 0 l<;>rfl
def zCY (c:List Pack) (a:List Int) (t:Term) (x:Int):Bool:=a.any (fun k=>k !=x&&zA3 (pat c k) t)
theorem zGL {c:List Pack} {a:List Int} (hc:Cat c) (hp:Places c a) (ha:a.length≤1048576) (t:Term) (x:Int):zAT c a t x=some (zCY c a t x):=by
 have key:=wI a (fun _ k=>if k !=x&&zA3 (pat c k) t then some true else none) (b:=zCg c a t x) (by
  intro i hi
  have hk:=hp _ (List.getElem_mem hi)
  unfold zCg
  rw [if_pos (by simp; omega),zK hi]
  simp only [Option.bind_some]
  rw [(uN hk).1]
  simp only [Option.bind_some]
  rw [zF2 _ _ (hc.zLA hk),zQ (by omega)]
  cases a[i] !=x<;>cases zA3 (pat c a[i]) t<;>rfl) (by
  unfold zCg
  rw [if_neg (by simp)])
 unfold zAT zCz zCY
 rw [key,zBh,←zFp (fun k=>k !=x&&zA3 (pat c k) t) a 0]
 cases wP (fun _ k=>if k !=x&&zA3 (pat c k) t then some true else none) 0 a<;>rfl
theorem zJ1 {c:List Pack} {a:List Int} (hc:Cat c) (hp:Places c a) (ha:a.length≤1048576) (t:Term) (x:Int):yF a x c t=some (zCY c a t x):=by
 have key:=wI a (fun i k=>if k !=x&&zA3 (pat c k) t then some (i:Int) else none) (b:=xY a x c t) (by
  intro i hi
  have hk:=hp _ (List.getElem_mem hi)
  unfold xY zCQ
  rw [if_pos (by simp; omega),zK hi]
  simp only [Option.bind_some]
  rw [(uN hk).1]
  simp only [Option.bind_some]
  rw [zGY _ _ (hc.zLA hk),zQ (by omega)]
  cases a[i] !=x<;>cases zA3 (pat c a[i]) t<;>rfl) (by
  unfold xY
  rw [if_neg (by simp)])
 unfold yF xU wE zCY
 rw [key,zBh,←zDE (zCj (fun k=>k !=x&&zA3 (pat c k) t) a 0)]
 cases wP (fun i k=>if k !=x&&zA3 (pat c k) t then some (i:Int) else none) 0 a<;>rfl
def zId (c:List Pack) (a:List Int) (l:List Term):Bool:=a.any (fun k=>l.any (zA3 (pat c k)))
theorem zHf {c:List Pack} {a:List Int} (hc:Cat c) (hp:Places c a) (ha:a.length≤1048576) (l:List Term) (hl:l.length≤1048576):zBu c a l=some (zId c a l):=by
 have key:=wI l (fun _ t=>if zCY c a t (-1) then some true else none) (b:=zDb c a l) (by
  intro i hi
  unfold zDb
  rw [if_pos (by simp; omega),zK hi]
  simp only [Option.bind_some,zGL hc hp ha]
  rw [zQ (by omega)]
  cases zCY c a l[i] (-1)<;>rfl) (by
  unfold zDb
  rw [if_neg (by simp)])
 unfold zBu zDx
 rw [key,zBh]
 have e:zId c a l=l.any (fun t=>zCY c a t (-1)):=by
  unfold zId zCY
  rw [Bool.eq_iff_iff]
  simp only [List.any_eq_true,Bool.and_eq_true,bne_iff_ne]
  constructor
  ·rintro ⟨k,hk,t,ht,hg⟩
   exact ⟨t,ht,k,hk,by have:=(hp k hk).1; omega,hg⟩
  ·rintro ⟨t,ht,k,hk,_,hg⟩
   exact ⟨k,hk,t,ht,hg⟩
 rw [e,←zFp (fun t=>zCY c a t (-1)) l 0]
 cases wP (fun _ t=>if zCY c a t (-1) then some true else none) 0 l<;>rfl
theorem zLp {c:List Pack} {a:List Int} (hc:Cat c) (hp:Places c a) (ha:a.length≤1048576) (l:List Term) (hl:l.length≤1048576):yG a c l=some (zId c a l):=by
 have key:=wI a (fun i k=>if l.any (zA3 (pat c k)) then some (i:Int) else none) (b:=xZ a c l) (by
  intro i hi
  have hk:=hp _ (List.getElem_mem hi)
  unfold xZ zCM
  rw [if_pos (by simp; omega),zK hi]
  simp only [Option.bind_some]
  rw [(uN hk).1]
  simp only [Option.bind_some]
  rw [zHl _ _ (hc.zLA hk) hl,zQ (by omega)]
  cases l.any (zA3 (pat c a[i]))<;>rfl) (by
  unfold xZ
  rw [if_neg (by simp)])
 unfold yG xS wD zId
 rw [key,zBh,←zDE (zCj (fun k=>l.any (zA3 (pat c k))) a 0)]
 cases wP (fun i k=>if l.any (zA3 (pat c k)) then some (i:Int) else none) 0 a<;>rfl
theorem zGP {α T:Type} (xs:List α) (g:Nat→α→Option T) (e:T) {b:Int→Option (Lp Int T)}
  (hstep:∀(i:Nat) (hi:i<xs.length),b (i:Int)=some (match g i xs[i] with|some r=>.done r|none=>.go ((i+1:Nat):Int))) (hend:b (xs.length:Int)=some (.done e)):
  ∀(k i:Nat),i+k=xs.length→loop b (i:Int)=some ((wP g i (xs.drop i)).getD e)
 |0,i,h=>by
  have e:i=xs.length:=by omega
  subst e
  rw [vP,hend,List.drop_length]
  rfl
 |k+1,i,h=>by
  have hi:i<xs.length:=by omega
  have ih:=zGP xs g e hstep hend k (i+1) (by omega)
  rw [vP,hstep i hi,List.drop_eq_getElem_cons hi]
  simp only [wP]
  cases g i xs[i] with
  |some r=>rfl
  |none=>exact ih
def fN (c:List Pack) (a:List Int) (k:Int) (j:Nat) (l:List zN) (x:List Term):List zN:=if !(zId c a x) then l++[{Kind:=2,Pack:=k,At:=(j:Int)}] else l
def fB (c:List Pack) (a:List Int) (k:Int) (j:Nat) (l:List zN) (t:Term):List zN:=if zCY c a t k then l++[{Kind:=3,Pack:=k,At:=(j:Int)}] else l
def fD (c:List Pack) (a:List Int) (i:Nat) (k:Int) (l:List zN):List zN:=if (a.take i).any (fun o=>seq (pat c o).Name (pat c k).Name) then l++[{Kind:=1,Pack:=k,At:=0}] else l
def fS (c:List Pack) (a:List Int) (i:Nat) (l:List zN) (k:Int):List zN:=foldI (fB c a k) 0 (pat c k).Bars (foldI (fN c a k) 0 (pat c k).Needs (fD c a i k l))
def zDP (c:List Pack) (a:List Int):List zN:=foldI (fS c a) 0 a []
theorem zMA (c:List Pack) (a:List Int) (k:Int) (j:Nat) (l:List zN) (x:List Term):(fN c a k j l x).length ≤l.length+1:=by unfold fN; split<;>simp
theorem zMN (c:List Pack) (a:List Int) (k:Int) (j:Nat) (l:List zN) (t:Term):(fB c a k j l t).length ≤l.length+1:=by unfold fB; split<;>simp
theorem zLB (c:List Pack) (a:List Int) (i:Nat) (k:Int) (l:List zN):(fD c a i k l).length ≤l.length+1:=by unfold fD; split<;>simp
theorem zGW {c:List Pack} {a:List Int} (k:Int) (ns:List (List Term)) (hn:ns.length≤1048576) (n0:Nat) (h0:n0≤5497560000000) {b:(List zN×Int)→Option (Lp (List zN×Int) (List zN))}
  (hstep:∀(j:Nat) (l:List zN) (hj:j<ns.length),b (l,(j:Int))=(if !(zId c a ns[j]) then (app 24 l [{Kind:=2,Pack:=k,At:=(j:Int)}]) else some l).bind fun v=>some (Lp.go (v,w64 ((j:Int)+1)))) (hend:∀l,b (l,(ns.length:Int))=some (.done l)) (l:List zN) (hl:l.length≤n0):
  loop b (l,0)=some (foldI (fN c a k) 0 ns l)∧(foldI (fN c a k) 0 ns l).length ≤n0+ns.length:=by
 have key:=zEu ns (fN c a k) (fun j l=>l.length≤n0+j) (b:=b) (by
  intro j l hj hI
  refine ⟨?_,by have:=zMA c a k j l ns[j]; omega⟩
  rw [hstep j l hj,zQ (by omega),uR (by simp; omega) (by simp; omega)]
  unfold fN
  cases zId c a ns[j]<;>rfl) hend ns.length 0 l (by omega) (by simpa using hl)
 simpa using key
theorem zHJ {c:List Pack} {a:List Int} (k:Int) (ts:List Term) (hn:ts.length≤1048576) (n0:Nat) (h0:n0≤5497560000000) {b:(List zN×Int)→Option (Lp (List zN×Int) (List zN))}
  (hstep:∀(j:Nat) (l:List zN) (hj:j<ts.length),b (l,(j:Int))=(if zCY c a ts[j] k then (app 24 l [{Kind:=3,Pack:=k,At:=(j:Int)}]) else some l).bind fun v=>some (Lp.go (v,w64 ((j:Int)+1)))) (hend:∀l,b (l,(ts.length:Int))=some (.done l)) (l:List zN) (hl:l.length≤n0):
  loop b (l,0)=some (foldI (fB c a k) 0 ts l)∧(foldI (fB c a k) 0 ts l).length ≤n0+ts.length:=by
 have key:=zEu ts (fB c a k) (fun j l=>l.length≤n0+j) (b:=b) (by
  intro j l hj hI
  refine ⟨?_,by have:=zMN c a k j l ts[j]; omega⟩
  rw [hstep j l hj,zQ (by omega),uR (by simp; omega) (by simp; omega)]
  unfold fB
  cases zCY c a ts[j] k<;>rfl) hend ts.length 0 l (by omega) (by simpa using hl)
 simpa using key
theorem zHm {α:Type} (o:Option α):o.bind (fun x=>some x)=o:=by cases o<;>rfl
def zDQ (i:Nat):Nat:=i*2097153
theorem zG0 {c:List Pack} {a:List Int} (hc:Cat c) (hp:Places c a) (ha:a.length≤1048576):tN c a=some (zDP c a):=by
 have key:=zEu a (fS c a) (fun i l=>l.length≤zDQ i) (b:=zBq c a) (by
  intro i l hi hI
  have hk:=hp _ (List.getElem_mem hi)
  have hb:zDQ i≤2199022206976:=by unfold zDQ; omega
  have hb1:zDQ (i+1)=zDQ i+2097153:=by unfold zDQ; omega
  have hN:=hc.needs hk
  have hB:=hc.bars hk
  have k1:=zGP (a.take i) (fun _ o=>if seq (pat c o).Name (pat c a[i]).Name then some (l++[({Kind:=1,Pack:=a[i],At:=0}:zN)]) else none) l (b:=zB7 c a (l,(i:Int)) (pat c a[i])) (by
   intro j hj
   have hj':j<i:=by simp at hj; omega
   have hja:j<a.length:=by omega
   have hkj:=hp _ (List.getElem_mem hja)
   unfold zB7
   rw [if_pos (by simp; omega),zK hja]
   simp only [Option.bind_some]
   rw [(uN hkj).1,zK hi]
   simp only [Option.bind_some]
   rw [zQ (by omega),uR (by simp; omega) (by simp; omega),List.getElem_take]
   cases seq (pat c a[j]).Name (pat c a[i]).Name <;>rfl) (by
   have:(a.take i).length =i:=by simp; omega
   rw [this]
   unfold zB7
   rw [if_neg (by simp)]) (a.take i).length 0 (by omega)
  rw [List.drop_zero,zER] at k1
  have e1:zA7 c a (l,(i:Int)) (pat c a[i]) 0=some (fD c a i a[i] l):=by
   unfold zA7 fD
   rw [show ((0:Nat):Int)=0 from rfl] at k1
   rw [k1]
   cases (a.take i).any (fun o=>seq (pat c o).Name (pat c a[i]).Name)<;>rfl
  have hd:=zLB c a i a[i] l
  obtain ⟨e2,l2⟩:=zGW (c:=c) (a:=a) a[i] (pat c a[i]).Needs hN (zDQ i+1) (by omega) (b:=zBy c a (l,(i:Int)) (pat c a[i])) (by
   intro j l hj
   unfold zBy
   rw [if_pos (by simp; omega),zK hj]
   simp only [Option.bind_some]
   rw [zHf hc hp ha _ (hc.clause hk (List.getElem_mem hj)),zK hi]
   simp only [Option.bind_some,zHm]) (by
   intro l
   unfold zBy
   rw [if_neg (by simp)]) (fD c a i a[i] l) (by omega)
  obtain ⟨e3,l3⟩:=zHJ (c:=c) (a:=a) a[i] (pat c a[i]).Bars hB (zDQ i+1+1048576) (by omega) (b:=zBw c a (l,(i:Int)) (pat c a[i])) (by
   intro j l hj
   unfold zBw
   rw [if_pos (by simp; omega),zK hj,zK hi]
   simp only [Option.bind_some,zGL hc hp ha,zHm]) (by
   intro l
   unfold zBw
   rw [if_neg (by simp)]) _ (Nat.le_trans l2 (by omega))
  refine ⟨?_,by show (fS c a i l a[i]).length ≤_; unfold fS; omega⟩
  unfold zBq
  rw [if_pos (by simp; omega),zK hi]
  simp only [Option.bind_some]
  rw [(uN hk).1]
  simp only [Option.bind_some]
  rw [e1]
  simp only [Option.bind_some]
  unfold zBH zBR
  rw [e2]
  simp only [Option.bind_some]
  rw [e3,zQ (by omega)]
  rfl) (by
  intro l
  unfold zBq
  rw [if_neg (by simp)]) a.length 0 [] (by omega) (by simp)
 unfold tN zBV zDP
 have k:=key.1
 rw [show ((0:Nat):Int)=0 from rfl,List.drop_zero] at k
 rw [k]
 rfl
theorem zIP (q:Int→Bool):∀(xs:List Int) (i:Nat),(∀k∈xs,0≤k)→(((wP (fun _ k=>if q k then some k else none) i xs).getD (-1)≥0)↔xs.any q=true)
 |[],i,_=>by simp [wP]
 |x::xs,i,h=>by
  simp only [wP]
  cases hq:q x
  ·simp only [Bool.false_eq_true,if_false,List.any_cons,hq,Bool.false_or]
   exact zIP q xs (i+1) (fun k hk=>h k (by simp [hk]))
  ·have:=h x (by simp)
   simp [hq]
   omega
theorem zJD {c:List Pack} {a:List Int} (hp:Places c a) (ha:a.length≤1048576) (n:ByteArray):∃k,vW c a n=some k∧decide (k≥0)=a.any (fun o=>seq (pat c o).Name n):=by
 have key:=wI a (fun _ k=>if seq (pat c k).Name n then some k else none) (b:=kV c a n) (by
  intro i hi
  have hk:=hp _ (List.getElem_mem hi)
  unfold kV
  rw [if_pos (by simp; omega),zK hi]
  simp only [Option.bind_some]
  rw [(uN hk).1]
  simp only [Option.bind_some]
  rw [zQ (by omega)]
  cases seq (pat c a[i]).Name n<;>rfl) (by
  unfold kV
  rw [if_neg (by simp)])
 refine ⟨_,?_,zDE (zIP (fun o=>seq (pat c o).Name n) a 0 (fun k hk=>(hp k hk).1))⟩
 unfold vW zCO
 rw [key,zBh]
 cases wP (fun _ k=>if seq (pat c k).Name n then some k else none) 0 a<;>rfl
theorem zIf {c:List Pack} {a:List Int} (hc:Cat c) (hp:Places c a) (ha:a.length≤1048576):zDq c a=some (zDP c a):=by
 have key:=zEu a (fS c a) (fun i l=>l.length≤zDQ i) (b:=zCo c a) (by
  intro i l hi hI
  have hk:=hp _ (List.getElem_mem hi)
  have hb:zDQ i≤2199022206976:=by unfold zDQ; omega
  have hb1:zDQ (i+1)=zDQ i+2097153:=by unfold zDQ; omega
  have hN:=hc.needs hk
  have hB:=hc.bars hk
  obtain ⟨kk,e0,hkk⟩:=zJD (c:=c) (a:=a.take i) (fun k hk=>hp k (List.mem_of_mem_take hk)) (by simp; omega) (pat c a[i]).Name
  have hd:=zLB c a i a[i] l
  obtain ⟨e2,l2⟩:=zGW (c:=c) (a:=a) a[i] (pat c a[i]).Needs hN (zDQ i+1) (by omega) (b:=zCE c a (l,(i:Int)) a[i] (pat c a[i])) (by
   intro j l hj
   unfold zCE
   rw [if_pos (by simp; omega),zK hj]
   simp only [Option.bind_some]
   rw [zLp hc hp ha _ (hc.clause hk (List.getElem_mem hj))]
   simp only [Option.bind_some,zHm]) (by
   intro l
   unfold zCE
   rw [if_neg (by simp)]) (fD c a i a[i] l) (by omega)
  obtain ⟨e3,l3⟩:=zHJ (c:=c) (a:=a) a[i] (pat c a[i]).Bars hB (zDQ i+1+1048576) (by omega) (b:=zC9 c a (l,(i:Int)) a[i] (pat c a[i])) (by
   intro j l hj
   unfold zC9
   rw [if_pos (by simp; omega),zK hj]
   simp only [Option.bind_some,zJ1 hc hp ha,zHm]) (by
   intro l
   unfold zC9
   rw [if_neg (by simp)]) _ (Nat.le_trans l2 (by omega))
  refine ⟨?_,by show (fS c a i l a[i]).length ≤_; unfold fS; omega⟩
  unfold zCo
  rw [if_pos (by simp; omega),zK hi]
  simp only [Option.bind_some]
  rw [(uN hk).1,zEP (by omega)]
  simp only [Option.bind_some]
  rw [e0]
  simp only [Option.bind_some]
  rw [hkk,uR (by simp; omega) (by simp; omega)]
  simp only [Option.bind_some]
  have ed:(if (a.take i).any (fun o=>seq (pat c o).Name (pat c a[i]).Name)=true then some (l++[({Kind:=1,Pack:=a[i],At:=0}:zN)]) else some l)=some (fD c a i a[i] l):=by
   unfold fD
   cases (a.take i).any (fun o=>seq (pat c o).Name (pat c a[i]).Name)<;>rfl
  rw [ed]
  simp only [Option.bind_some]
  unfold zCX zCW
  rw [e2]
  simp only [Option.bind_some]
  rw [e3,zQ (by omega)]
  rfl) (by
  intro l
  unfold zCo
  rw [if_neg (by simp)]) a.length 0 [] (by omega) (by simp)
 unfold zDq zCZ zDP
 have k:=key.1
 rw [show ((0:Nat):Int)=0 from rfl,List.drop_zero] at k
 rw [k]
 rfl
def zLa (c:List Pack) (a:List Int):Bool:=(SF c a==0)&&((zDP c a).length :Int)==0
theorem zE5 {c:List Pack} {a:List Int} (hc:Cat c) (ha:a.length≤1048576):uM c a=some (zLa c a):=by
 unfold uM zLa zDA
 rw [zE1 hc ha]
 simp only [Option.bind_some]
 cases h:SF c a==0
 ·rfl
 ·rw [zG0 hc (zH6 h) ha]
  simp
theorem zGv {c:List Pack} {a:List Int} (hc:Cat c) (ha:a.length≤1048576) (h:(SF c a==0)=true):zA0 c a=some (zLa c a):=by
 unfold zA0 zLa
 rw [zIf hc (zH6 h) ha,h]
 simp
theorem zKh {α:Type} {g:Nat→α→Option Int} (hg:∀i x,g i x≠some 0):∀(l:List α) (i:Nat),(wP g i l).getD 0=0→wP g i l=none
 |[],_,_=>rfl
 |x::l,i,h=>by
  simp only [wP] at h ⊢
  cases hx:g i x with
  |none=>rw [hx] at h; exact zKh hg l (i+1) h
  |some r=>
   rw [hx] at h
   simp only [Option.getD_some] at h
   subst h
   exact absurd hx (hg i x)
theorem zMs {c:List Pack} (h:CF c=0):c.length≤24∧(∀p∈c,PF p=0)∧∀(j:Nat) (hj:j<c.length),(c.take j).any (isB c[j].Name c[j].Version)=false:=by
 unfold CF at h
 split at h
 ·cases h
 rename_i h1
 have h2:=zKh (g:=zKT c) (fun i x=>by
  unfold zKT
  split
  ·rename_i h3
   intro e
   rw [Option.some.inj e] at h3
   simp at h3
  ·split<;>simp) c 0 h
 rw [zEE] at h2
 have h3:∀(j:Nat) (hj:j<c.length),PF c[j]=0∧(c.take j).any (isB c[j].Name c[j].Version)=false:=by
  intro j hj
  have:=h2 j hj
  unfold zKT at this
  rw [Nat.zero_add] at this
  split at this
  ·cases this
  ·rename_i h4
   split at this
   ·cases this
   ·rename_i h5
    exact ⟨by simpa using h4,by simpa using h5⟩
 refine ⟨by simp at h1; omega,fun p hp=>?_,fun j hj=>(h3 j hj).2⟩
 obtain ⟨j,hj,rfl⟩:=List.getElem_of_mem hp
 exact (h3 j hj).1
theorem zKI {a:List Int} (h:∀i,(hi:i+1<a.length)→a[i]<a[i+1]):a.Pairwise (· < ·):=by
 rw [List.pairwise_iff_getElem]
 intro i j hi hj hij
 obtain ⟨d,rfl⟩:∃d,j=i+1+d:=⟨j-i-1,by omega⟩
 clear hij
 induction d with
 |zero=>exact h i (by omega)
 |succ d ih=>
  have h1:=ih (by omega)
  have h2:=h (i+1+d) (by omega)
  show a[i]<a[i+1+d+1]
  omega
theorem zIJ:∀{a:List Int} {lo hi:Int},a.Pairwise (· < ·)→(∀k∈a,lo≤k∧k<hi)→(a.length:Int)≤hi-lo∨a=[]
 |[],_,_,_,_=>.inr rfl
 |x::a,lo,hi,hp,hb=>by
  obtain ⟨h1,h2⟩:=List.pairwise_cons.1 hp
  have hx:=hb x (by simp)
  have:=zIJ (lo:=x+1) (hi:=hi) h2 (fun k hk=>⟨by have:=h1 k hk; omega,(hb k (by simp [hk])).2⟩)
  refine .inl ?_
  rcases this with h3|h3
  ·simp only [List.length_cons]; omega
  ·subst h3; simp; omega
theorem zFn {c:List Pack} {a:List Int}:zLs c a=true↔a.Pairwise (· < ·)∧Places c a:=by
 unfold zLs
 rw [Option.isNone_iff_eq_none,zEE]
 constructor
 ·intro h
  have h1:∀(j:Nat) (hj:j<a.length),inB a[j] 0 ((c.length:Int)-1)=true∧(0<j→¬a[j]≤a.getD (j-1) 0):=by
   intro j hj
   have:=h j hj
   unfold zJR at this
   rw [Nat.zero_add] at this
   split at this
   ·cases this
   ·rename_i h2
    simp only [Bool.or_eq_true,Bool.not_eq_true',Bool.and_eq_true,decide_eq_true_eq,not_or,not_and,Bool.not_eq_false] at h2
    exact h2
  refine ⟨zKI fun i hi=>?_,fun k hk=>?_⟩
  ·have:=(h1 (i+1) hi).2 (by omega)
   rw [show i+1-1=i by omega,getD_lt (by omega)] at this
   omega
  ·obtain ⟨j,hj,rfl⟩:=List.getElem_of_mem hk
   have:=(h1 j hj).1
   unfold inB at this
   simp only [Bool.and_eq_true,decide_eq_true_eq] at this
   omega
 ·rintro ⟨h1,h2⟩ j hj
  unfold zJR
  rw [Nat.zero_add]
  have hk:=h2 a[j] (List.getElem_mem hj)
  rw [if_neg]
  simp only [Bool.or_eq_true,Bool.not_eq_true',Bool.and_eq_true,decide_eq_true_eq,not_or,not_and,Bool.not_eq_false]
  refine ⟨by unfold inB; simp; omega,fun h0=>?_⟩
  rw [getD_lt (by omega)]
  have:=(List.pairwise_iff_getElem.1 h1) (j-1) j (by omega) hj (by omega)
  omega
theorem zL5 {c:List Pack} {a:List Int} (h:zLs c a=true):a.length≤c.length:=by
 obtain ⟨h1,h2⟩:=zFn.1 h
 rcases zIJ (lo:=0) (hi:=c.length) h1 h2 with h3|h3
 ·omega
 ·rw [h3]; simp
theorem zGT (x y:Int):vK [x,y]=some (if x !=0 then x else y):=by
 unfold vK zAc
 rw [zJj _ (by simp),zBh]
 simp only [wP]
 by_cases h:x=0
 ·by_cases h2:y=0<;>simp [h,h2]
 ·simp [h]
theorem zGX:∀{l1 l2:List Int},l1.Pairwise (· < ·)→l2.Pairwise (· < ·)→(∀x,x∈l1↔x∈l2)→l1=l2
 |[],[],_,_,_=>rfl
 |[],y::l2,_,_,h=>by have:=(h y).2 (by simp); simp at this
 |x::l1,[],_,_,h=>by have:=(h x).1 (by simp); simp at this
 |x::l1,y::l2,h1,h2,h=>by
  rw [List.pairwise_cons] at h1 h2
  have hxy:x=y:=by
   have hx:=(h x).1 (by simp)
   have hy:=(h y).2 (by simp)
   rcases List.mem_cons.1 hx with e|hx
   ·exact e
   ·rcases List.mem_cons.1 hy with e|hy
    ·exact e.symm
    ·have:=h1.1 y hy
     have:=h2.1 x hx
     omega
  subst hxy
  congr 1
  refine zGX h1.2 h2.2 fun z=>?_
  constructor
  ·intro hz
   rcases List.mem_cons.1 ((h z).1 (List.mem_cons_of_mem _ hz)) with e|hz'
   ·have:=h1.1 z hz; omega
   ·exact hz'
  ·intro hz
   rcases List.mem_cons.1 ((h z).2 (List.mem_cons_of_mem _ hz)) with e|hz'
   ·have:=h2.1 z hz; omega
   ·exact hz'
theorem zE4 {l:List Int} (h:l.Pairwise (· < ·)) {i j:Nat} (hi:i<l.length) (hj:j<l.length) (hij:i<j):l[i]<l[j]:=List.pairwise_iff_getElem.1 h i j hi hj hij
theorem zL7 (l:List Int) (v:Int) (hs:l.Pairwise (· < ·)) (hv:v∉l) (hl:l.length≤1048576):
  ∃r,zDC l v=some r∧r.Pairwise (· < ·)∧(∀x,x∈r↔x∈l∨x=v)∧r.length=l.length+1:=by
 obtain ⟨⟨acc,inn⟩,e,h1,h2,h3,h4⟩:=vQ (b:=zCS l v)
  (fun i s=>s.2.2=(i:Int)∧s.1.Pairwise (· < ·)∧(∀x,x∈s.1↔x∈l.take i∨(s.2.1=true∧x=v))∧s.1.length=i+(if s.2.1 then 1 else 0)∧(s.2.1=false→∀x∈l.take i,x<v)∧(s.2.1=true→∀x∈l.drop i,v<x)) l.length
  (fun t=>t.1.Pairwise (· < ·)∧(∀x,x∈t.1↔x∈l∨(t.2=true∧x=v))∧t.1.length=l.length+(if t.2 then 1 else 0)∧(t.2=false→∀x∈l,x<v)) (by
  rintro i ⟨acc,inn,j⟩ hi ⟨hj,hp,hm,hlen,hf,ht⟩
  simp only at hj hp hm hlen hf ht
  subst hj
  have hlt:∀x∈l.take i,x<l[i]:=by
   intro x hx
   obtain ⟨k,hk,rfl⟩:=List.mem_iff_getElem.1 hx
   rw [List.getElem_take]
   have:k<i:=by simp at hk; omega
   exact zE4 hs (by omega) hi this
  have htk:l.take (i+1)=l.take i++[l[i]]:=List.take_succ_eq_append_getElem hi
  have hdr:l.drop i=l[i]::l.drop (i+1):=List.drop_eq_getElem_cons hi
  have hne:l[i]≠v:=fun e=>hv (e▸List.getElem_mem hi)
  have hal:acc.length≤1048577:=by rw [hlen]; split<;>omega
  unfold zCS
  rw [if_pos (by simp; omega),zK hi]
  simp only [Option.bind_some]
  rw [zQ (by omega)]
  refine .inl ?_
  cases inn
  ·by_cases hgt:l[i]>v
   ·rw [if_pos (by simpa using hgt)]
    simp only [Bool.not_false,Option.bind_some,if_true]
    rw [uR (by simp; omega) (by simp; omega)]
    simp only [Option.bind_some]
    rw [uR (by simp; omega) (by simp; omega)]
    refine ⟨_,rfl,rfl,?_,?_,?_,by simp,?_⟩
    ·simp only
     have hav:∀x∈acc,x<v:=fun x hx=>hf rfl x (by have:=(hm x).1 hx; simpa using this)
     rw [List.pairwise_append,List.pairwise_append]
     refine ⟨⟨hp,by simp,fun x hx y hy=>by simp at hy; rw [hy]; exact hav x hx⟩,by simp,fun x hx y hy=>?_⟩
     simp at hy
     rw [hy]
     rcases List.mem_append.1 hx with hx|hx
     ·have:=hav x hx; omega
     ·simp at hx; omega
    ·intro x
     have:=hm x
     simp only [List.mem_append,List.mem_singleton,htk]
     simp at this
     rw [this]
     simp
     constructor<;>(intro h; rcases h with (h|h)|h<;>simp [h])
    ·simp; simp at hlen; omega
    ·intro _ x hx
     have:l[i]<x:=by
      obtain ⟨k,hk,rfl⟩:=List.mem_iff_getElem.1 hx
      rw [List.getElem_drop]
      simp at hk
      exact zE4 hs hi (by omega) (by omega)
     omega
   ·rw [if_neg (by simpa using hgt)]
    simp only [Option.bind_some,Bool.false_eq_true,if_false]
    rw [uR (by simp; omega) (by simp; omega)]
    refine ⟨_,rfl,rfl,?_,?_,?_,?_,by simp⟩
    ·simp only
     rw [List.pairwise_append]
     refine ⟨hp,by simp,fun x hx y hy=>?_⟩
     simp at hy
     rw [hy]
     have:=(hm x).1 hx
     exact hlt x (by simpa using this)
    ·intro x
     have:=hm x
     simp only [List.mem_append,List.mem_singleton,htk]
     simp at this
     rw [this]
     simp
    ·simp; simp at hlen; omega
    ·intro _ x hx
     rw [htk] at hx
     rcases List.mem_append.1 hx with hx|hx
     ·exact hf rfl x hx
     ·simp at hx; omega
  ·have hlv:v<l[i]:=ht rfl _ (by rw [hdr]; exact List.mem_cons_self)
   rw [if_pos (by simpa using hlv)]
   simp only [Bool.not_true,Option.bind_some,Bool.false_eq_true,if_false]
   rw [uR (by simp; omega) (by simp; omega)]
   refine ⟨_,rfl,rfl,?_,?_,?_,by simp,?_⟩
   ·simp only
    rw [List.pairwise_append]
    refine ⟨hp,by simp,fun x hx y hy=>?_⟩
    simp at hy
    rw [hy]
    rcases (hm x).1 hx with hx|⟨_,hx⟩
    ·exact hlt x hx
    ·omega
   ·intro x
    have:=hm x
    simp only [List.mem_append,List.mem_singleton,htk]
    rw [this]
    simp
    constructor<;>(intro h; rcases h with (h|h)|h<;>simp [h])
   ·simp; simp at hlen; omega
   ·intro _ x hx
    exact ht rfl x (by rw [hdr]; exact List.mem_cons_of_mem _ hx)) (by
  rintro ⟨acc,inn,j⟩ ⟨hj,hp,hm,hlen,hf,ht⟩
  simp only at hj hp hm hlen hf ht
  subst hj
  unfold zCS
  rw [if_neg (by simp)]
  rw [List.take_length] at hm hf
  exact ⟨_,rfl,hp,hm,hlen,hf⟩) l.length 0 (([]:List Int),false,0) (by omega) ⟨rfl,by simp,by simp,by simp,by simp,by simp⟩
 simp only at h1 h2 h3 h4
 unfold zDC zDy
 rw [e]
 simp only [Option.bind_some]
 cases inn
 ·simp only [Bool.not_false,if_true]
  simp at h3
  rw [uR (by simp; omega) (by simp; omega)]
  refine ⟨_,rfl,?_,?_,by simp; omega⟩
  ·rw [List.pairwise_append]
   refine ⟨h1,by simp,fun x hx y hy=>?_⟩
   simp at hy
   rw [hy]
   have:=(h2 x).1 hx
   exact h4 rfl x (by simpa using this)
  ·intro x
   have:=h2 x
   simp at this
   simp [this]
 ·refine ⟨_,rfl,h1,?_,by simpa using h3⟩
  intro x
  have:=h2 x
  simpa using this
theorem zHR {a b:ByteArray} (h:slt a b=false) (hne:a≠b):slt b a=true:=by
 cases h2:slt b a with
 |true=>rfl
 |false=>
  have c1:¬zND a b<0:=fun hc=>by rw [(zMt a b).1 hc] at h; cases h
  have key:∀(x y:List UInt8),Op.bytesLess x y=false→Op.bytesLess y x=false→x=y:=by
   intro x
   induction x with
   |nil=>intro y; cases y<;>simp [Op.bytesLess]
   |cons u x ih=>
    intro y
    cases y with
    |nil=>simp [Op.bytesLess]
    |cons v y=>
     simp only [Op.bytesLess]
     intro e1 e2
     have e3:¬u<v:=fun hh=>by simp [hh] at e1
     have e4:¬v<u:=fun hh=>by simp [hh] at e2
     rw [UInt8.lt_iff_toNat_lt] at e3 e4
     have e5:u=v:=UInt8.toNat_inj.1 (by omega)
     subst e5
     simp [UInt8.lt_irrefl] at e1 e2
     rw [ih y e1 e2]
  exfalso
  apply hne
  unfold slt at h h2
  exact toList_inj (key _ _ h h2)
def ltS (a b:ByteArray):Prop:=slt a b=true
def leS (a b:ByteArray):Prop:=slt b a=false
theorem zHs (a:ByteArray):leS a a:=zF3 a
theorem zII {a b:ByteArray} (h:leS a b) (hne:a≠b):ltS a b:=zHR h (Ne.symm hne)
theorem zKJ {a b:ByteArray} (h:ltS a b):leS a b:=by
 unfold leS
 cases h2:slt b a with
 |false=>rfl
 |true=>
  have h3:=zE7 h h2
  rw [zF3] at h3
  cases h3
theorem zI2 {a b c:ByteArray} (h1:leS a b) (h2:ltS b c):ltS a c:=by
 by_cases h:a=b
 ·rw [h]; exact h2
 ·exact zE7 (zII h1 h) h2
theorem zGg {a b c:ByteArray} (h1:leS a b) (h2:leS b c):leS a c:=by
 by_cases h:b=c
 ·rw [←h]; exact h1
 ·exact zKJ (zI2 h1 (zII h2 h))
theorem zHD {a b:ByteArray} (h:ltS a b):a≠b:=fun e=>by
 subst e
 unfold ltS at h
 rw [zF3] at h
 cases h
theorem zCK:∀{l1 l2:List ByteArray},l1.Pairwise ltS→l2.Pairwise ltS→(∀x,x∈l1↔x∈l2)→l1=l2
 |[],[],_,_,_=>rfl
 |[],y::l2,_,_,h=>by have:=(h y).2 (by simp); simp at this
 |x::l1,[],_,_,h=>by have:=(h x).1 (by simp); simp at this
 |x::l1,y::l2,h1,h2,h=>by
  rw [List.pairwise_cons] at h1 h2
  have hxy:x=y:=by
   have hx:=(h x).1 (by simp)
   have hy:=(h y).2 (by simp)
   rcases List.mem_cons.1 hx with e|hx
   ·exact e
   ·rcases List.mem_cons.1 hy with e|hy
    ·exact e.symm
    ·exact absurd rfl (zHD (zE7 (h1.1 y hy) (h2.1 x hx)))
  subst hxy
  congr 1
  refine zCK h1.2 h2.2 fun z=>?_
  constructor
  ·intro hz
   rcases List.mem_cons.1 ((h z).1 (List.mem_cons_of_mem _ hz)) with e|hz'
   ·exact absurd e.symm (zHD (h1.1 z hz))
   ·exact hz'
  ·intro hz
   rcases List.mem_cons.1 ((h z).2 (List.mem_cons_of_mem _ hz)) with e|hz'
   ·exact absurd e.symm (zHD (h2.1 z hz))
   ·exact hz'
theorem zIF:∀(x y:List UInt8),x<y↔Op.bytesLess x y=true
 |[],[]=>by simp [Op.bytesLess]
 |[],y::l=>by simp [Op.bytesLess]
 |x::l,[]=>by simp [Op.bytesLess]
 |x::l,y::r=>by
  rw [List.cons_lt_cons_iff,zIF l r]
  simp only [Op.bytesLess]
  by_cases h:x<y
  ·simp [h]
  ·by_cases h2:y<x
   ·have:x≠y:=fun e=>by subst e; exact UInt8.lt_irrefl _ h2
    simp [h,this]
   ·have:x=y:=by
     rw [UInt8.lt_iff_toNat_lt] at h h2
     exact UInt8.toNat_inj.1 (by omega)
    subst this
    simp [UInt8.lt_irrefl]
theorem zNf (x y:List UInt8):decide (x≤y)= !(Op.bytesLess y x):=by
 cases hb:Op.bytesLess y x with
 |true=>
  have:¬(x≤y):=fun h=>h ((zIF y x).2 hb)
  simpa using this
 |false=>
  have:x≤y:=fun hc=>by
   rw [(zIF y x).1 hc] at hb
   cases hb
  simpa using this
theorem toList_data (s:ByteArray):s.data.toList=s.toList:=(ByteArray.toList_eq s).symm
theorem zLr (a:List ByteArray) (hl:a.length≤1048577):∃r,uE a=some r∧r.Pairwise leS∧(∀x,x∈r↔x∈a)∧r.length=a.length:=by
 unfold uE
 rw [if_pos (by omega)]
 have hle:∀x y:List UInt8,decide (x≤y)=true↔leS ⟨x.toArray⟩ ⟨y.toArray⟩:=fun x y=>by
  rw [zNf]
  unfold leS slt
  rw [←toList_data,←toList_data]
  cases Op.bytesLess y x<;>simp
 have hpw:=List.pairwise_mergeSort (le:=fun x y:List UInt8=>decide (x≤y)) (by
  intro x y z h1 h2
  exact (hle x z).2 (zGg ((hle x y).1 h1) ((hle y z).1 h2))) (by
  intro x y
  have:leS ⟨x.toArray⟩ ⟨y.toArray⟩∨leS ⟨y.toArray⟩ ⟨x.toArray⟩:=by
   cases h:slt ⟨y.toArray⟩ ⟨x.toArray⟩ with
   |false=>exact .inl h
   |true=>exact .inr (zKJ h)
  rcases this with h|h
  ·rw [(hle x y).2 h]; rfl
  ·rw [(hle y x).2 h,Bool.or_true]) (a.map (·.data.toList))
 refine ⟨_,rfl,?_,fun x=>?_,by simp [List.length_mergeSort]⟩
 ·exact List.pairwise_map.2 (hpw.imp fun h=>(hle _ _).1 h)
 ·simp only [List.mem_map,List.mem_mergeSort]
  constructor
  ·rintro ⟨_,⟨y,hy,rfl⟩,rfl⟩
   exact hy
  ·intro hx
   exact ⟨_,⟨x,hx,rfl⟩,rfl⟩
theorem zFW (l:List ByteArray) (v:ByteArray) (hs:l.Pairwise ltS) (hl:l.length≤1048576):
  ∃r,uG l v=some r∧r.Pairwise ltS∧(∀x,x∈r↔x∈l∨x=v)∧r.length≤l.length+1:=by
 obtain ⟨t,e,ht⟩:=vQ (b:=zCx l v)
  (fun i s=>s.2.2=(i:Int)∧s.1.Pairwise ltS∧(∀x,x∈s.1↔x∈l.take i∨(s.2.1=true∧x=v))∧s.1.length=i+(if s.2.1 then 1 else 0)∧(s.2.1=false→∀x∈l.take i,ltS x v)∧(s.2.1=true→∀x∈l.drop i,ltS v x)) l.length
  (fun t=>(t= .ret l∧v∈l)∨∃a b,t= .nxt (a,b)∧a.Pairwise ltS∧(∀x,x∈a↔x∈l∨(b=true∧x=v))∧a.length=l.length+(if b then 1 else 0)∧(b=false→∀x∈l,ltS x v)) (by
  rintro i ⟨acc,inn,j⟩ hi ⟨hj,hp,hm,hlen,hf,ht⟩
  simp only at hj hp hm hlen hf ht
  subst hj
  have hget:∀(i j:Nat) (hi:i<l.length) (hj:j<l.length),i<j→ltS l[i] l[j]:=fun i j hi hj h=>List.pairwise_iff_getElem.1 hs i j hi hj h
  have hlt:∀x∈l.take i,ltS x l[i]:=by
   intro x hx
   obtain ⟨k,hk,rfl⟩:=List.mem_iff_getElem.1 hx
   rw [List.getElem_take]
   have:k<i:=by simp at hk; omega
   exact hget _ _ (by omega) hi this
  have htk:l.take (i+1)=l.take i++[l[i]]:=List.take_succ_eq_append_getElem hi
  have hdr:l.drop i=l[i]::l.drop (i+1):=List.drop_eq_getElem_cons hi
  have hal:acc.length≤1048577:=by rw [hlen]; split<;>omega
  unfold zCx
  rw [if_pos (by simp; omega),zK hi]
  simp only [Option.bind_some]
  rw [zQ (by omega)]
  by_cases heq:l[i]=v
  ·rw [if_pos (by rw [seq_eq]; simpa using heq)]
   exact .inr ⟨_,rfl,.inl ⟨rfl,heq▸List.getElem_mem hi⟩⟩
  ·rw [if_neg (by rw [seq_eq]; simpa using heq)]
   refine .inl ?_
   have hs2:(slt l[i] v||seq l[i] v)=slt l[i] v:=by rw [seq_eq]; simp [heq]
   rw [hs2]
   cases inn
   ·cases hgt:slt l[i] v
    ·have hvl:ltS v l[i]:=zHR hgt heq
     simp only [Bool.not_false,Option.bind_some,if_true]
     rw [uR (by simp; omega) (by simp; omega)]
     simp only [Option.bind_some]
     rw [uR (by simp; omega) (by simp; omega)]
     refine ⟨_,rfl,rfl,?_,?_,?_,by simp,?_⟩
     ·simp only
      have hav:∀x∈acc,ltS x v:=fun x hx=>hf rfl x (by have:=(hm x).1 hx; simpa using this)
      rw [List.pairwise_append,List.pairwise_append]
      refine ⟨⟨hp,by simp,fun x hx y hy=>by simp at hy; rw [hy]; exact hav x hx⟩,by simp,fun x hx y hy=>?_⟩
      simp at hy
      rw [hy]
      rcases List.mem_append.1 hx with hx|hx
      ·exact zE7 (hav x hx) hvl
      ·simp at hx; rw [hx]; exact hvl
     ·intro x
      have:=hm x
      simp only [List.mem_append,List.mem_singleton,htk]
      simp at this
      rw [this]
      simp
      constructor<;>(intro h; rcases h with (h|h)|h<;>simp [h])
     ·simp; simp at hlen; omega
     ·intro _ x hx
      have:ltS l[i] x:=by
       obtain ⟨k,hk,rfl⟩:=List.mem_iff_getElem.1 hx
       rw [List.getElem_drop]
       simp at hk
       exact hget _ _ hi (by omega) (by omega)
      exact zE7 hvl this
    ·simp only [Bool.not_true,Bool.false_eq_true,if_false,Option.bind_some]
     rw [uR (by simp; omega) (by simp; omega)]
     refine ⟨_,rfl,rfl,?_,?_,?_,?_,by simp⟩
     ·simp only
      rw [List.pairwise_append]
      refine ⟨hp,by simp,fun x hx y hy=>?_⟩
      simp at hy
      rw [hy]
      have:=(hm x).1 hx
      exact hlt x (by simpa using this)
     ·intro x
      have:=hm x
      simp only [List.mem_append,List.mem_singleton,htk]
      simp at this
      rw [this]
      simp
     ·simp; simp at hlen; omega
     ·intro _ x hx
      rw [htk] at hx
      rcases List.mem_append.1 hx with hx|hx
      ·exact hf rfl x hx
      ·simp at hx; rw [hx]; exact hgt
   ·have hlv:ltS v l[i]:=ht rfl _ (by rw [hdr]; exact List.mem_cons_self)
    have hgt:slt l[i] v=false:=zKJ hlv
    rw [hgt]
    simp only [Bool.not_false,Bool.not_true,Option.bind_some,Bool.false_eq_true,if_false,if_true]
    rw [uR (by simp; omega) (by simp; omega)]
    refine ⟨_,rfl,rfl,?_,?_,?_,by simp,?_⟩
    ·simp only
     rw [List.pairwise_append]
     refine ⟨hp,by simp,fun x hx y hy=>?_⟩
     simp at hy
     rw [hy]
     rcases (hm x).1 hx with hx|⟨_,hx⟩
     ·exact hlt x hx
     ·rw [hx]; exact hlv
    ·intro x
     have:=hm x
     simp only [List.mem_append,List.mem_singleton,htk]
     rw [this]
     simp
     constructor<;>(intro h; rcases h with (h|h)|h<;>simp [h])
    ·simp; simp at hlen; omega
    ·intro _ x hx
     exact ht rfl x (by rw [hdr]; exact List.mem_cons_of_mem _ hx)) (by
  rintro ⟨acc,inn,j⟩ ⟨hj,hp,hm,hlen,hf,ht⟩
  simp only at hj hp hm hlen hf ht
  subst hj
  unfold zCx
  rw [if_neg (by simp)]
  rw [List.take_length] at hm hf
  exact ⟨_,rfl,.inr ⟨acc,inn,rfl,hp,hm,hlen,hf⟩⟩) l.length 0 (([]:List ByteArray),false,0) (by omega) ⟨rfl,by simp,by simp,by simp,by simp,by simp⟩
 unfold uG zDg
 rw [e]
 rcases ht with ⟨rfl,hv⟩|⟨acc,inn,rfl,h1,h2,h3,h4⟩
 ·refine ⟨l,rfl,hs,fun x=>⟨.inl,fun h=>h.elim id (fun e=>e▸hv)⟩,by omega⟩
 ·simp only [Option.bind_some,Fl.go]
  cases inn
  ·simp only [Bool.not_false,if_true]
   simp at h3
   rw [uR (by simp; omega) (by simp; omega)]
   refine ⟨_,rfl,?_,?_,by simp; omega⟩
   ·rw [List.pairwise_append]
    refine ⟨h1,by simp,fun x hx y hy=>?_⟩
    simp at hy
    rw [hy]
    have:=(h2 x).1 hx
    exact h4 rfl x (by simpa using this)
   ·intro x
    have:=h2 x
    simp at this
    simp [this]
  ·refine ⟨_,rfl,h1,?_,by simp at h3; omega⟩
   intro x
   have:=h2 x
   simpa using this
theorem zGE (a:List ByteArray) (k0:Nat) (h0:1≤k0) (hk:k0<a.length) (hs:a.Pairwise leS) (hl:a.length≤1048577) (hd:a[k0]'hk=a[k0-1]'(by omega)) (hp0:(a.take k0).Pairwise ltS) (x48:List ByteArray) (hx:x48.length=a.length-k0):
  ∃xs k,vE (k0:Int) x48 (a,(k0:Int),1)=some (xs,((k:Nat):Int))∧xs.length=a.length∧k≤a.length∧(xs.take k).Pairwise ltS∧∀x,x∈xs.take k↔x∈a:=by
 have hle:∀(i j:Nat) (hi:i<a.length) (hj:j<a.length),i≤j→leS a[i] a[j]:=by
  intro i j hi hj hij
  rcases Nat.lt_or_ge i j with h|h
  ·exact List.pairwise_iff_getElem.1 hs i j hi hj h
  ·have:i=j:=by omega
   subst this; exact zHs _
 obtain ⟨⟨xs,k'⟩,e,h1,k,h2,h3,h4,h5⟩:=vQ (b:=vT (k0:Int) x48)
  (fun i s=>s.2.2=((i+1:Nat):Int)∧s.1.length=a.length∧(∀j,i+k0≤j→s.1[j]? =a[j]?)∧∃k:Nat,s.2.1=(k:Int)∧1≤k∧k≤i+k0∧(s.1.take k).Pairwise ltS∧(∀x,x∈s.1.take k↔x∈a.take (i+k0+1))∧(∀x∈s.1.take k,leS x (a.getD (i+k0) ByteArray.empty))) (a.length-k0-1)
  (fun t=>t.1.length=a.length∧∃k:Nat,t.2=(k:Int)∧k≤a.length∧(t.1.take k).Pairwise ltS∧∀x,x∈t.1.take k↔x∈a) (by
  rintro i ⟨xs,kk,jj⟩ hi ⟨hj,hlen,hsame,k,hkk,hk1,hkle,hpw,hmem,hmax⟩
  simp only at hj hlen hsame hkk hpw hmem hmax
  subst hj hkk
  have hi1:i+k0+1<a.length:=by omega
  have g1:xs[i+k0+1]'(by omega)=a[i+k0+1]:=by
   have:=hsame (i+k0+1) (by omega)
   rw [List.getElem?_eq_getElem (by omega),List.getElem?_eq_getElem hi1] at this
   exact Option.some.inj this
  have g0:xs[i+k0]'(by omega)=a[i+k0]:=by
   have:=hsame (i+k0) (by omega)
   rw [List.getElem?_eq_getElem (by omega),List.getElem?_eq_getElem (by omega)] at this
   exact Option.some.inj this
  have hgd:a.getD (i+k0) ByteArray.empty=a[i+k0]:=by simp [List.getD,show i+k0<a.length by omega]
  rw [hgd] at hmax
  have r1:zJf xs (k0:Int) x48.length ((i+1:Nat):Int)=some a[i+k0+1]:=by
   unfold zJf
   rw [if_pos (by omega),show (k0:Int)+((i+1:Nat):Int)=((i+k0+1:Nat):Int) by omega,zK (by omega),g1]
  have r0:zJf xs (k0:Int) x48.length (i:Int)=some a[i+k0]:=by
   unfold zJf
   rw [if_pos (by omega),show (k0:Int)+(i:Int)=((i+k0:Nat):Int) by omega,zK (by omega),g0]
  refine .inl ?_
  unfold vT
  rw [if_pos (by simp; omega)]
  simp only
  rw [r1,kE (x:=((i+1:Nat):Int)-1) (by omega) (by omega),show ((i+1:Nat):Int)-1=(i:Int) by omega,r0,zK (show k<xs.length by omega),zQ (show k<_ by omega),zQ (show i+1<_ by omega)]
  simp only [Option.bind_some]
  have htk:a.take (i+k0+1+1)=a.take (i+k0+1)++[a[i+k0+1]]:=List.take_succ_eq_append_getElem hi1
  have hmono:=hle (i+k0) (i+k0+1) (by omega) hi1 (by omega)
  have hgd1:a.getD (i+1+k0) ByteArray.empty=a[i+k0+1]:=by
   rw [show i+1+k0=i+k0+1 by omega]
   simp [List.getD,hi1]
  by_cases hne:a[i+k0+1]=a[i+k0]
  ·rw [if_neg (by simp [hne])]
   refine ⟨_,rfl,rfl,hlen,fun j hj=>hsame j (by omega),k,rfl,hk1,by omega,hpw,?_,?_⟩
   ·intro x
    rw [show i+1+k0+1=i+k0+1+1 by omega,htk,hmem,List.mem_append,List.mem_singleton]
    constructor
    ·exact fun h=>.inl h
    ·rintro (h|h)
     ·exact h
     ·rw [h,hne]
      refine List.mem_iff_getElem.2 ⟨i+k0,by simp; omega,by simp⟩
   ·intro x hx
    rw [hgd1]
    exact zGg (hmax x hx) hmono
  ·rw [if_pos (by simpa [seq_eq] using hne)]
   refine ⟨_,rfl,rfl,by simpa using hlen,?_,k+1,rfl,by omega,by omega,?_,?_,?_⟩
   ·intro j hj
    show (xs.set (k:Int).toNat a[i+k0+1])[j]? =a[j]?
    rw [Int.toNat_natCast,List.getElem?_set_ne (by omega)]
    exact hsame j (by omega)
   ·show ((xs.set (k:Int).toNat a[i+k0+1]).take (k+1)).Pairwise ltS
    rw [Int.toNat_natCast,zFH (by omega),List.pairwise_append]
    refine ⟨hpw,by simp,fun x hx y hy=>?_⟩
    simp at hy
    rw [hy]
    exact zI2 (hmax x hx) (zII hmono (Ne.symm hne))
   ·intro x
    show x∈(xs.set (k:Int).toNat a[i+k0+1]).take (k+1)↔_
    rw [Int.toNat_natCast,zFH (by omega),show i+1+k0+1=i+k0+1+1 by omega,htk,List.mem_append,List.mem_append,hmem]
   ·intro x hx
    have hx':x∈(xs.set (k:Int).toNat a[i+k0+1]).take (k+1):=hx
    rw [Int.toNat_natCast,zFH (by omega)] at hx'
    rw [hgd1]
    rcases List.mem_append.1 hx' with h|h
    ·exact zGg (hmax x h) hmono
    ·simp at h; rw [h]; exact zHs _) (by
  rintro ⟨xs,kk,jj⟩ ⟨hj,hlen,hsame,k,hkk,hk1,hkle,hpw,hmem,hmax⟩
  simp only at hj hlen hsame hkk hpw hmem hmax
  subst hj hkk
  unfold vT
  rw [if_neg (by simp; omega)]
  refine ⟨_,rfl,hlen,k,rfl,by omega,hpw,fun x=>?_⟩
  rw [hmem,List.take_of_length_le (by omega)]) (a.length-k0-1) 0 (a,(k0:Int),1) (by omega) ⟨rfl,rfl,fun _ _=>rfl,k0,rfl,h0,by omega,hp0,by
   intro x
   rw [Nat.zero_add,List.take_succ_eq_append_getElem hk,List.mem_append,List.mem_singleton]
   constructor
   ·exact fun h=>.inl h
   ·rintro (h|h)
    ·exact h
    ·rw [h,hd]
     exact List.mem_iff_getElem.2 ⟨k0-1,by simp; omega,by simp⟩,by
   intro x hx
   rw [Nat.zero_add]
   obtain ⟨j,hj,rfl⟩:=List.mem_iff_getElem.1 hx
   rw [List.getElem_take]
   have hgd:a.getD k0 ByteArray.empty=a[k0]:=by simp [List.getD,hk]
   rw [hgd]
   simp at hj
   exact hle j k0 (by omega) hk (by omega)⟩
 simp only at h1 h2
 subst h2
 exact ⟨xs,k,by unfold vE; exact e,h1,h3,h4,h5⟩
theorem zID (a:List ByteArray) (hs:a.Pairwise leS) (hl:a.length≤1048577):∃r,vF a=some r∧r.Pairwise ltS∧(∀x,x∈r↔x∈a)∧r.length≤a.length:=by
 have step1:∀i (hi:i<a.length) (h1:1≤i),(a.take i).Pairwise ltS→a[i]≠a[i-1]'(by omega)→(a.take (i+1)).Pairwise ltS:=by
  intro i hi h1 hp hne
  rw [List.take_succ_eq_append_getElem hi,List.pairwise_append]
  refine ⟨hp,by simp,fun x hx y hy=>?_⟩
  simp at hy
  rw [hy]
  obtain ⟨j,hj,rfl⟩:=List.mem_iff_getElem.1 hx
  rw [List.getElem_take]
  simp at hj
  have q1:leS (a[i-1]'(by omega)) a[i]:=List.pairwise_iff_getElem.1 hs (i-1) i (by omega) hi (by omega)
  have q2:leS (a[j]'(by omega)) (a[i-1]'(by omega)):=by
   rcases Nat.lt_or_ge j (i-1) with h|h
   ·exact List.pairwise_iff_getElem.1 hs j (i-1) (by omega) (by omega) h
   ·have:j=i-1:=by omega
    subst this; exact zHs _
  exact zI2 q2 (zII q1 (Ne.symm hne))
 have hb:∀i (hi:i<a.length) (h1:1≤i),(a.take i).Pairwise ltS→(a[i]=a[i-1]'(by omega)∧∃r,wL a (i:Int)=some (.done (.ret r))∧r.Pairwise ltS∧(∀x,x∈r↔x∈a)∧r.length≤a.length)∨(a[i]≠a[i-1]'(by omega)∧wL a (i:Int)=some (.go ((i+1:Nat):Int))):=by
  intro i hi h1 hp
  unfold wL
  rw [if_pos (by simp; omega),zK hi,kE (x:=(i:Int)-1) (by omega) (by omega),show (i:Int)-1=((i-1:Nat):Int) by omega,zK (show i-1<a.length by omega),zQ (by omega)]
  simp only [Option.bind_some]
  by_cases he:a[i]=a[i-1]'(by omega)
  ·left
   refine ⟨he,?_⟩
   rw [if_pos (by simpa [seq_eq] using he),zDM (Nat.le_of_lt hi) (Nat.le_refl _)]
   simp only [Option.bind_some]
   obtain ⟨xs,k,e,g1,g2,g3,g4⟩:=zGE a i h1 hi hs hl he hp ((a.drop i).take (a.length-i)) (by simp)
   rw [e]
   simp only [Option.bind_some]
   have hk:k≤xs.length:=by omega
   rw [zDM hk (Nat.le_refl _)]
   simp only [Option.bind_some]
   rw [zK8 (by simp; omega)]
   simp only [Option.bind_some]
   refine ⟨xs.take k,?_,g3,g4,by simp; omega⟩
   have:∀ys:List ByteArray,zEe (xs.take k++ys) 0 (k:Int)=some (xs.take k):=by
    intro ys
    have hh:=zDM (xs:=xs.take k++ys) (l:=0) (h:=k) (by omega) (by simp; omega)
    rw [show ((0:Nat):Int)=0 from rfl] at hh
    rw [hh]
    simp [Nat.min_eq_left hk]
   rw [List.append_assoc,this]
   rfl
  ·right
   rw [if_neg (by simpa [seq_eq] using he)]
   exact ⟨he,rfl⟩
 unfold vF
 by_cases h2:a.length<2
 ·rw [if_pos (by simp; omega)]
  refine ⟨a,rfl,?_,fun x=>Iff.rfl,Nat.le_refl _⟩
  match a,h2 with
  |[],_=>simp
  |[x],_=>simp
 ·rw [if_neg (by simp; omega)]
  obtain ⟨t,e,h⟩:=vQ (b:=wL a) (fun i s=>s=((i+1:Nat):Int)∧(a.take (i+1)).Pairwise ltS) (a.length-1)
   (fun t=>(∃r,t= .ret r∧r.Pairwise ltS∧(∀x,x∈r↔x∈a)∧r.length≤a.length)∨(t= .nxt ()∧a.Pairwise ltS)) (by
   rintro i s hi ⟨rfl,hp⟩
   rcases hb (i+1) (by omega) (by omega) hp with ⟨_,r,e,q⟩|⟨hne,e⟩
   ·exact .inr ⟨_,e,.inl ⟨r,rfl,q⟩⟩
   ·exact .inl ⟨_,e,rfl,step1 (i+1) (by omega) (by omega) hp hne⟩) (by
   rintro s ⟨rfl,hp⟩
   rw [show a.length-1+1=a.length by omega] at hp ⊢
   refine ⟨.nxt (),?_,.inr ⟨rfl,by rw [List.take_length] at hp; exact hp⟩⟩
   unfold wL
   rw [if_neg (by simp)]) (a.length-1) 0 1 (by omega) ⟨rfl,by
    match a,h2 with
    |x::l,_=>simp⟩
  unfold vX
  rw [e]
  rcases h with ⟨r,rfl,q⟩|⟨rfl,q⟩
  ·exact ⟨r,rfl,q⟩
  ·exact ⟨a,rfl,q,fun x=>Iff.rfl,Nat.le_refl _⟩
theorem zEQ (a:List ByteArray) (hl:a.length≤1048577):∃r,uH a=some r∧r.Pairwise ltS∧∀x,x∈r↔x∈a:=by
 obtain ⟨m,e1,e2,e3,e4⟩:=zLr a hl
 obtain ⟨r,f1,f2,f3,_⟩:=zID m e2 (by omega)
 unfold uH
 rw [e1]
 simp only [Option.bind_some]
 rw [zKl e4]
 simp only [Option.bind_some]
 rw [f1]
 exact ⟨r,rfl,f2,fun x=>by rw [f3,e3]⟩
structure Sr (b:Nat) (s:zD):Prop where
 len:s.Code.length≤1048576
 byt:∀c∈s.Code,0≤c∧c≤255
 a0:0≤s.At
 a1:s.At≤(b:Int)
theorem Sr.mono {b b':Nat} {s:zD} (h:Sr b s) (hb:b≤b'):Sr b' s:=⟨h.len,h.byt,h.a0,by have:=h.a1; omega⟩
theorem zI7 {a:List Int} (h:a.length≤1048576) (hb:∀c∈a,0≤c∧c≤255):∃s,zCP a=some s∧Sr 0 s:=
 ⟨_,rfl,h,hb,Int.le_refl _,Int.le_refl _⟩
theorem kN {b:Nat} {s:zD} (h:Sr b s) (hb:b≤1000000000) (n:Int):∃r s',zO s n=some (r,s')∧0≤r∧(1≤n→r<n)∧Sr (b+1) s':=by
 obtain ⟨hl,hbt,h0,h1⟩:=h
 have e1:w64 (s.At+1)=s.At+1:=kE (by omega) (by omega)
 have e2:w64 (s.At+1-1)=s.At:=by rw [kE (by omega) (by omega)]; omega
 have hS:Sr (b+1) {Code:=s.Code,At:=s.At+1}:=⟨hl,hbt,by show 0≤s.At+1; omega,by show s.At+1≤_; omega⟩
 unfold zO
 rw [e1,e2]
 by_cases hn:n<1
 ·rw [if_pos (by simpa using hn)]
  exact ⟨0,_,rfl,Int.le_refl _,fun h=>by omega,hS⟩
 rw [if_neg (by simpa using hn)]
 have hr:∀v:Int,0≤v→∃r,zKM v n=some r∧0≤r∧r<n:=fun v hv=>⟨v.tmod n,by unfold zKM; rw [if_neg (by omega)],Int.tmod_nonneg _ hv,Int.tmod_lt_of_pos _ (by omega)⟩
 by_cases hk:((s.Code.length:Int)==0)=true
 ·rw [if_pos hk,kE (x:=s.At*7) (by omega) (by omega)]
  obtain ⟨r,e,g1,g2⟩:=hr (s.At*7) (by omega)
  rw [e]
  exact ⟨r,_,rfl,g1,fun _=>g2,hS⟩
 ·rw [if_neg hk]
  have hkp:0<s.Code.length:=by
   have:¬((s.Code.length:Int)=0):=fun h=>hk (by simp [h])
   omega
  have hrk:∀v:Int,0≤v→∃(q:Nat) (hq:q<s.Code.length),zKM v (s.Code.length:Int)=some (q:Int):=fun v hv=>by
   have g1:=Int.tmod_nonneg (s.Code.length:Int) hv
   have g2:=Int.tmod_lt_of_pos v (b:=(s.Code.length:Int)) (by omega)
   refine ⟨(v.tmod (s.Code.length:Int)).toNat,by omega,?_⟩
   unfold zKM
   rw [if_neg (by omega)]
   congr 1
   omega
  obtain ⟨q,hq,eq⟩:=hrk s.At h0
  obtain ⟨q2,hq2,eq2⟩:=hrk (s.At+1) (by omega)
  have hc:=hbt _ (List.getElem_mem hq)
  have hc2:=hbt _ (List.getElem_mem hq2)
  obtain ⟨d,ed,d0,d1⟩:∃d,zMR .i64 s.At (s.Code.length:Int)=some d∧0≤d∧d≤s.At:=by
   have g1:=Int.tdiv_nonneg h0 (show 0≤(s.Code.length:Int) by omega)
   have g2:s.At.tdiv (s.Code.length:Int)≤s.At:=by
    rw [Int.tdiv_eq_ediv_of_nonneg h0]
    exact Int.ediv_le_self _ h0
   refine ⟨s.At.tdiv (s.Code.length:Int),?_,g1,g2⟩
   unfold zMR
   rw [if_neg (by omega)]
   congr 1
   exact kE (by omega) (by omega)
  rw [eq]
  simp only [Option.bind_some,zK hq,ed]
  rw [kE (x:=s.At+1) (by omega) (by omega),eq2]
  simp only [Option.bind_some,zK hq2]
  rw [kE (x:=s.Code[q]) (by omega) (by omega),kE (x:=d*37) (by omega) (by omega),kE (x:=s.Code[q]+d*37) (by omega) (by omega),kE (x:=(s.Code[q]+d*37)*251) (by omega) (by omega),
   kE (x:=s.Code[q2]) (by omega) (by omega),kE (x:=s.Code[q2]*13) (by omega) (by omega),kE (x:=(s.Code[q]+d*37)*251+s.Code[q2]*13) (by omega) (by omega),kE (x:=(s.Code[q]+d*37)*251+s.Code[q2]*13+s.At) (by omega) (by omega)]
  by_cases h200:n>200
  ·rw [if_pos (by simpa using h200)]
   obtain ⟨r,e,g1,g2⟩:=hr ((s.Code[q]+d*37)*251+s.Code[q2]*13+s.At) (by omega)
   simp only [Option.bind_some,e]
   exact ⟨r,_,rfl,g1,fun _=>g2,hS⟩
  ·rw [if_neg (by simpa using h200)]
   obtain ⟨r,e,g1,g2⟩:=hr (s.Code[q]+d*37) (by omega)
   simp only [Option.bind_some,e]
   exact ⟨r,_,rfl,g1,fun _=>g2,hS⟩
theorem jJ {b:Nat} {s:zD} (h:Sr b s) (hb:b≤1000000000) (n:Int):∃r s',yC s n=some (r,s')∧Sr (b+1) s':=by
 obtain ⟨r,s',e,_,_,h'⟩:=kN h hb n
 unfold yC
 rw [e]
 exact ⟨_,_,rfl,h'⟩
theorem at_next {α:Type} {b:Nat} {s:zD} (h:Sr b s) (hb:b≤1000000000) {l:List α} {n:Int} (hn:n=(l.length:Int)) (hl:l≠[]):
  ∃r s' x,zO s n=some (r,s')∧idx l r=some x∧x∈l∧Sr (b+1) s':=by
 obtain ⟨r,s',e,g1,g2,h'⟩:=kN h hb n
 have hlp:0<l.length:=List.length_pos_iff.2 hl
 have g3:=g2 (by omega)
 obtain ⟨q,rfl⟩:=Int.eq_ofNat_of_zero_le g1
 have hq:q<l.length:=by omega
 exact ⟨_,s',l[q],e,zK hq,List.getElem_mem hq,h'⟩
theorem zD0 {b:Nat} {s:zD} (h:Sr b s) (hb:b≤1000000000) (l:List Int) (hl:l≠[]):∃x s',wG s l=some (x,s')∧x∈l∧Sr (b+1) s':=by
 obtain ⟨r,s',x,e1,e2,hx,h'⟩:=at_next h hb (l:=l) rfl hl
 unfold wG
 rw [e1]
 simp only [Option.bind_some,e2]
 exact ⟨x,s',rfl,hx,h'⟩
theorem zFh {b:Nat} {s:zD} (h:Sr b s) (hb:b≤1000000000):∃p s',wX s=some (p,s')∧p.size≤20∧Sr (b+1) s':=by
 obtain ⟨r,s',x,e1,e2,hx,h'⟩:=at_next h hb (l:=[bs [97],bs [98],bs [99],bs [100],bs [108,105,98],bs [119,101,98]]) (n:=6) rfl (by simp)
 refine ⟨x,s',?_,?_,h'⟩
 ·unfold wX
  rw [e1]
  simp only [Option.bind_some,e2]
 ·simp only [List.mem_cons,List.not_mem_nil,or_false] at hx
  rcases hx with rfl|rfl|rfl|rfl|rfl|rfl<;>decide
theorem zFF {b:Nat} {s:zD} (h:Sr b s) (hb:b+10≤1000000000):∃v s',tF s=some (v,s')∧(0≤v.A∧v.A≤3)∧Sr (b+5) s':=by
 obtain ⟨a,s1,e1,a0,a1,h1⟩:=kN h (by omega) 4
 obtain ⟨c,s2,e2,_,_,h2⟩:=kN h1 (by omega) 3
 obtain ⟨d,s3,e3,_,h3⟩:=zD0 h2 (by omega) [0,0,c] (by simp)
 obtain ⟨f,s4,e4,_,_,h4⟩:=kN h3 (by omega) 3
 obtain ⟨g,s5,e5,_,h5⟩:=zD0 h4 (by omega) [0,0,0,f] (by simp)
 refine ⟨{A:=a,B:=d,C:=g},s5,?_,⟨a0,by have:=a1 (by omega); simp only; omega⟩,h5⟩
 unfold tF
 rw [e1]
 simp only [Option.bind_some,e2,e3,e4,e5]
theorem zFl {b:Nat} {s:zD} (h:Sr b s) (hb:b+20≤1000000000):∃t s',uD s=some (t,s')∧t.Name.size≤20∧Sr (b+9) s':=by
 obtain ⟨p,s1,e1,hp,h1⟩:=zFh h (by omega)
 obtain ⟨q,s2,e2,h2⟩:=jJ h1 (by omega) 2
 obtain ⟨v,s3,e3,h3⟩:∃(v:Version) (s3:zD),(if q=true then (tF s2).bind fun x9=>some (x9.2.Code,x9.2.At,x9.1.A,x9.1.B,x9.1.C) else some (s2.Code,s2.At,0,0,0))=some (s3.Code,s3.At,v.A,v.B,v.C)∧Sr (b+7) s3:=by
  cases q
  ·exact ⟨{A:=0,B:=0,C:=0},s2,rfl,h2.mono (by omega)⟩
  ·obtain ⟨v,s3,e,_,h3⟩:=zFF h2 (by omega)
   rw [e]
   exact ⟨v,s3,rfl,h3.mono (by omega)⟩
 obtain ⟨q2,s4,e4,h4⟩:=jJ (s:= {Code:=s3.Code,At:=s3.At}) h3 (by omega) 3
 obtain ⟨u,s5,e5,h5⟩:∃(u:Version) (s5:zD),(if q2=true then (zO s4 2).bind fun x15=>some (x15.2.Code,x15.2.At,w64 (w64 (v.A+1)+x15.1),(0:Int),(0:Int)) else some (s4.Code,s4.At,1000,0,0))=some (s5.Code,s5.At,u.A,u.B,u.C)∧Sr (b+9) s5:=by
  cases q2
  ·exact ⟨{A:=1000,B:=0,C:=0},s4,rfl,h4.mono (by omega)⟩
  ·obtain ⟨r,s5,e,_,_,h5⟩:=kN h4 (by omega) 2
   rw [e]
   exact ⟨{A:=w64 (w64 (v.A+1)+r),B:=0,C:=0},s5,rfl,h5.mono (by omega)⟩
 refine ⟨{Name:=p,Low:=v,High:=u},s5,?_,hp,h5⟩
 unfold uD uY zA4
 rw [e1]
 simp only [Option.bind_some,e2,e3,e4,e5]
theorem zHu {b:Nat} {s:zD} (h:Sr b s) (hb:b+10≤1000000000):∃p s',wU s=some (p,s')∧p.size≤20∧Sr (b+2) s':=by
 obtain ⟨q,s1,e,h1⟩:=jJ h (by omega) 14
 unfold wU
 rw [e]
 simp only [Option.bind_some]
 cases q
 ·obtain ⟨p,s2,e2,h2,h3⟩:=zFh h1 (by omega)
  rw [e2]
  exact ⟨p,s2,rfl,h2,h3⟩
 ·obtain ⟨r,s',x,e1,e2,hx,h'⟩:=at_next h1 (by omega) (l:=[bs [],bs [49,97],bs [65],bs [97,98,99,100,101,102,103,104,105,106,107,108,109],bs [97,98,99,100,101,102,103,104,105,106,107,108],bs [97,32,98],bs [97,45],bs [95,97],bs [97,95,49]]) (n:=9) rfl (by simp)
  rw [e1]
  simp only [Option.bind_some,e2,if_true]
  refine ⟨x,s',rfl,?_,h'⟩
  simp only [List.mem_cons,List.not_mem_nil,or_false] at hx
  rcases hx with rfl|rfl|rfl|rfl|rfl|rfl|rfl|rfl|rfl<;>decide
theorem zDO {b:Nat} {s:zD} (h:Sr b s) (hb:b+20≤1000000000):∃v s',wO s=some (v,s')∧Sr (b+7) s':=by
 obtain ⟨v,s1,e1,_,h1⟩:=zFF h (by omega)
 obtain ⟨n,s2,e2,_,_,h2⟩:=kN h1 (by omega) 14
 unfold wO
 rw [e1]
 simp only [Option.bind_some,e2]
 by_cases c0:(n==0)=true
 ·obtain ⟨y,s3,e3,_,h3⟩:=zD0 h2 (by omega) [-1,999,1000] (by simp)
  rw [if_pos c0,e3]
  exact ⟨_,_,rfl,h3⟩
 rw [if_neg c0]
 by_cases c1:(n==1)=true
 ·obtain ⟨y,s3,e3,_,h3⟩:=zD0 h2 (by omega) [-1,999,1000] (by simp)
  rw [if_pos c1,e3]
  exact ⟨_,_,rfl,h3⟩
 rw [if_neg c1]
 by_cases c2:(n==2)=true
 ·obtain ⟨y,s3,e3,_,h3⟩:=zD0 h2 (by omega) [-1,999,1000,4611686018427387904] (by simp)
  rw [if_pos c2,e3]
  exact ⟨_,_,rfl,h3⟩
 rw [if_neg c2]
 exact ⟨_,_,rfl,h2.mono (by omega)⟩
theorem zE2 {b:Nat} {s:zD} (h:Sr b s) (hb:b+40≤1000000000):∃t s',vU s=some (t,s')∧t.Name.size≤20∧Sr (b+20) s':=by
 obtain ⟨t,s1,e1,ht,h1⟩:=zFl h (by omega)
 obtain ⟨n,s2,e2,_,_,h2⟩:=kN h1 (by omega) 14
 unfold vU
 rw [e1]
 simp only [Option.bind_some,e2]
 by_cases c0:(n==0)=true
 ·obtain ⟨p,s3,e3,hp,h3⟩:=zHu h2 (by omega)
  rw [if_pos c0,e3]
  exact ⟨_,_,rfl,hp,h3.mono (by omega)⟩
 rw [if_neg c0]
 by_cases c1:(n==1)=true
 ·obtain ⟨v,s3,e3,h3⟩:=zDO h2 (by omega)
  rw [if_pos c1,e3]
  exact ⟨_,_,rfl,ht,h3.mono (by omega)⟩
 rw [if_neg c1]
 by_cases c2:(n==2)=true
 ·obtain ⟨v,s3,e3,h3⟩:=zDO h2 (by omega)
  rw [if_pos c2,e3]
  exact ⟨_,_,rfl,ht,h3.mono (by omega)⟩
 rw [if_neg c2]
 by_cases c3:(n==3)=true
 ·rw [if_pos c3]
  exact ⟨_,_,rfl,ht,h2.mono (by omega)⟩
 rw [if_neg c3]
 exact ⟨_,_,rfl,ht,h2.mono (by omega)⟩
theorem zFi {α β:Type} {f:Nat→List β→α→List β} {p:Nat→α→Prop} (hf:∀i l x,f i l x=[]↔l=[]∧p i x):∀(xs:List α) (i:Nat) (l:List β),foldI f i xs l=[]↔l=[]∧∀j,(h:j<xs.length)→p (i+j) xs[j]
 |[],i,l=>by simp [foldI]
 |x::xs,i,l=>by
  show foldI f (i+1) xs (f i l x)=[]↔_
  rw [zFi hf xs (i+1) (f i l x),hf]
  constructor
  ·rintro ⟨⟨h1,h2⟩,h3⟩
   refine ⟨h1,fun j hj=>?_⟩
   cases j with
   |zero=>simpa using h2
   |succ j=>
    have:=h3 j (by simpa using hj)
    rw [show i+(j+1)=i+1+j by omega]
    simpa using this
  ·rintro ⟨h1,h2⟩
   refine ⟨⟨h1,by have h:=h2 0 (by simp); rw [Nat.add_zero] at h; exact h⟩,fun j hj=>?_⟩
   have:=h2 (j+1) (by simpa using hj)
   rw [show i+(j+1)=i+1+j by omega] at this
   simpa using this
def vO (c:List Pack) (k:Int):ByteArray:=(pat c k).Name
structure GoodS (c:List Pack) (a:List Int):Prop where
 names:a.Pairwise (fun k o=>vO c k≠vO c o)
 needs:∀k∈a,∀l∈(pat c k).Needs,zId c a l=true
 bars:∀k∈a,∀t∈(pat c k).Bars,zCY c a t k=false
theorem zFR (c:List Pack) (a:List Int):zDP c a=[]↔GoodS c a:=by
 have hN:∀(k:Int) (j:Nat) (l:List zN) (x:List Term),fN c a k j l x=[]↔l=[]∧zId c a x=true:=by
  intro k j l x
  unfold fN
  cases zId c a x<;>simp
 have hB:∀(k:Int) (j:Nat) (l:List zN) (t:Term),fB c a k j l t=[]↔l=[]∧zCY c a t k=false:=by
  intro k j l t
  unfold fB
  cases zCY c a t k<;>simp
 have hS:∀(i:Nat) (l:List zN) (k:Int),fS c a i l k=[]↔l=[]∧((a.take i).any (fun o=>seq (pat c o).Name (pat c k).Name)=false∧(∀x∈(pat c k).Needs,zId c a x=true)∧∀t∈(pat c k).Bars,zCY c a t k=false):=by
  intro i l k
  unfold fS
  rw [zFi (p:=fun _ t=>zCY c a t k=false) (fun i l x=>hB k i l x),zFi (p:=fun _ x=>zId c a x=true) (fun i l x=>hN k i l x)]
  have hD:fD c a i k l=[]↔l=[]∧(a.take i).any (fun o=>seq (pat c o).Name (pat c k).Name)=false:=by
   unfold fD
   cases (a.take i).any (fun o=>seq (pat c o).Name (pat c k).Name)<;>simp
  rw [hD]
  constructor
  ·rintro ⟨⟨⟨h1,h2⟩,h3⟩,h4⟩
   refine ⟨h1,h2,fun x hx=>?_,fun t ht=>?_⟩
   ·obtain ⟨j,hj,rfl⟩:=List.getElem_of_mem hx
    exact h3 j hj
   ·obtain ⟨j,hj,rfl⟩:=List.getElem_of_mem ht
    exact h4 j hj
  ·rintro ⟨h1,h2,h3,h4⟩
   exact ⟨⟨⟨h1,h2⟩,fun j hj=>h3 _ (List.getElem_mem hj)⟩,fun j hj=>h4 _ (List.getElem_mem hj)⟩
 unfold zDP
 rw [zFi hS]
 constructor
 ·rintro ⟨_,h⟩
  refine ⟨?_,fun k hk=>?_,fun k hk=>?_⟩
  ·rw [List.pairwise_iff_getElem]
   intro i j hi hj hij e
   have:=(h j hj).1
   rw [Nat.zero_add] at this
   have hm:a[i]∈a.take j:=List.mem_take_iff_getElem.2 ⟨i,by omega,rfl⟩
   have h2:(a.take j).any (fun o=>seq (pat c o).Name (pat c a[j]).Name)=true:=List.any_eq_true.2 ⟨_,hm,zEG.2 e⟩
   rw [this] at h2
   cases h2
  ·obtain ⟨j,hj,rfl⟩:=List.getElem_of_mem hk
   exact (h j hj).2.1
  ·obtain ⟨j,hj,rfl⟩:=List.getElem_of_mem hk
   exact (h j hj).2.2
 ·rintro ⟨h1,h2,h3⟩
  refine ⟨rfl,fun j hj=>⟨?_,h2 _ (List.getElem_mem hj),h3 _ (List.getElem_mem hj)⟩⟩
  rw [Nat.zero_add]
  cases ha:(a.take j).any (fun o=>seq (pat c o).Name (pat c a[j]).Name) with
  |false=>rfl
  |true=>
   obtain ⟨o,ho,he⟩:=List.any_eq_true.1 ha
   obtain ⟨i,hi,rfl⟩:=List.mem_take_iff_getElem.1 ho
   exact absurd (zEG.1 he) (List.pairwise_iff_getElem.1 h1 i j (by omega) hj (by omega))
theorem GoodS.one {c:List Pack} {a:List Int} (h:GoodS c a) {k o:Int} (hk:k∈a) (ho:o∈a) (e:vO c k=vO c o):k=o:=by
 obtain ⟨i,hi,rfl⟩:=List.getElem_of_mem hk
 obtain ⟨j,hj,rfl⟩:=List.getElem_of_mem ho
 rcases Nat.lt_trichotomy i j with h1|h1|h1
 ·exact absurd e (List.pairwise_iff_getElem.1 h.names i j hi hj h1)
 ·subst h1; rfl
 ·exact absurd e.symm (List.pairwise_iff_getElem.1 h.names j i hj hi h1)
def Chg (c:List Pack) (a b:List Int) (n:ByteArray):Prop:=∃k,vO c k=n∧((k∈a∧k∉b)∨(k∈b∧k∉a))
def Nms (c:List Pack) (a b:List Int) (x n:ByteArray):Prop:=n=x∨∃k,(k∈a∨k∈b)∧vO c k=x∧n∈(pat c k).Provides
def Says (c:List Pack) (k:Int) (n:ByteArray):Prop:=(∃l∈(pat c k).Needs,∃t∈l,t.Name=n)∨∃t∈(pat c k).Bars,t.Name=n
def Tch (c:List Pack) (a b:List Int) (x y:ByteArray):Prop:=∃k,(k∈a∨k∈b)∧vO c k=x∧∃n,Says c k n∧Nms c a b y n
def Joi (c:List Pack) (a b:List Int) (x y:ByteArray):Prop:=
 Tch c a b x y∨Tch c a b y x∨∃k,(k∈a∨k∈b)∧∃l∈(pat c k).Needs,(∃t∈l,Nms c a b x t.Name)∧∃t∈l,Nms c a b y t.Name
theorem Joi.symm {c:List Pack} {a b:List Int} {x y:ByteArray} (h:Joi c a b x y):Joi c a b y x:=by
 rcases h with h|h|⟨k,h1,l,h2,h3,h4⟩
 ·exact .inr (.inl h)
 ·exact .inl h
 ·exact .inr (.inr ⟨k,h1,l,h2,h4,h3⟩)
theorem zJw {c:List Pack} {k:Int} {t:Term} (h:zA3 (pat c k) t=true):t.Name=vO c k∨t.Name∈(pat c k).Provides :=by
 unfold zA3 at h
 simp only [Bool.and_eq_true,Bool.or_eq_true] at h
 rcases h.1 with h|h
 ·exact .inl (zEG.1 h)
 ·obtain ⟨x,hx,e⟩:=List.any_eq_true.1 h
  rw [←zEG.1 e]
  exact .inr hx
theorem zEq {c:List Pack} {a b:List Int} {k:Int} {t:Term} (hk:k∈a∨k∈b) (h:zA3 (pat c k) t=true):Nms c a b (vO c k) t.Name:=by
 rcases zJw h with h|h
 ·exact .inl h
 ·exact .inr ⟨k,hk,rfl,h⟩
def Mvd (c:List Pack) (a b:List Int) (U:ByteArray→Prop) (m:List Int):Prop:=∀k,k∈m↔(U (vO c k)∧k∈b)∨(¬U (vO c k)∧k∈a)
theorem apart {c:List Pack} {a b m:List Int} {U:ByteArray→Prop} (ga:GoodS c a) (gb:GoodS c b) (hm:Mvd c a b U m) (hn:m.Nodup)
  (hj:∀x y,Chg c a b x→Chg c a b y→U x→¬U y→¬Joi c a b x y):GoodS c m:=by
 have outA:∀{k},k∈a→k∉m→U (vO c k)∧Chg c a b (vO c k):=by
  intro k h1 h2
  have hU:U (vO c k):=Classical.byContradiction fun h=>h2 ((hm k).2 (.inr ⟨h,h1⟩))
  exact ⟨hU,k,rfl,.inl ⟨h1,fun h3=>h2 ((hm k).2 (.inl ⟨hU,h3⟩))⟩⟩
 have outB:∀{k},k∈b→k∉m→¬U (vO c k)∧Chg c a b (vO c k):=by
  intro k h1 h2
  have hU:¬U (vO c k):=fun h=>h2 ((hm k).2 (.inl ⟨h,h1⟩))
  exact ⟨hU,k,rfl,.inr ⟨h1,fun h3=>h2 ((hm k).2 (.inr ⟨hU,h3⟩))⟩⟩
 refine ⟨?_,fun k hk l hl=>?_,fun k hk t ht=>?_⟩
 ·refine List.Pairwise.imp_of_mem ?_ hn
  intro k o hk ho hne e
  refine hne ?_
  rcases (hm k).1 hk with ⟨h1,h2⟩|⟨h1,h2⟩<;>rcases (hm o).1 ho with ⟨h3,h4⟩|⟨h3,h4⟩
  ·exact gb.one h2 h4 e
  ·exact absurd (e▸h1) h3
  ·exact absurd (e▸h3) h1
  ·exact ga.one h2 h4 e
 ·have use:∀{o:Int},o∈m→l.any (zA3 (pat c o))=true→zId c m l=true:=fun {o} ho hg=>List.any_eq_true.2 ⟨o,ho,hg⟩
  have says:∀{t:Term},t∈l→Says c k t.Name:=fun {t} ht=>.inl ⟨l,hl,t,ht,rfl⟩
  rcases (hm k).1 hk with ⟨hU,hkb⟩|⟨hU,hka⟩
  ·obtain ⟨o,ho,hg⟩:=List.any_eq_true.1 (gb.needs k hkb l hl)
   by_cases hom:o∈m
   ·exact use hom hg
   obtain ⟨hUo,hco⟩:=outB ho hom
   obtain ⟨t,ht,hgt⟩:=List.any_eq_true.1 hg
   have hnm:=zEq (a:=a) (b:=b) (.inr ho) hgt
   by_cases hka:k∈a
   ·obtain ⟨o',ho',hg'⟩:=List.any_eq_true.1 (ga.needs k hka l hl)
    by_cases hom':o'∈m
    ·exact use hom' hg'
    obtain ⟨hUo',hco'⟩:=outA ho' hom'
    obtain ⟨t',ht',hgt'⟩:=List.any_eq_true.1 hg'
    exact absurd (.inr (.inr ⟨k,.inl hka,l,hl,⟨t',ht',zEq (.inl ho') hgt'⟩,⟨t,ht,hnm⟩⟩)) (hj _ _ hco' hco hUo' hUo)
   ·exact absurd (.inl ⟨k,.inr hkb,rfl,_,says ht,hnm⟩) (hj _ _ ⟨k,rfl,.inr ⟨hkb,hka⟩⟩ hco hU hUo)
  ·obtain ⟨o,ho,hg⟩:=List.any_eq_true.1 (ga.needs k hka l hl)
   by_cases hom:o∈m
   ·exact use hom hg
   obtain ⟨hUo,hco⟩:=outA ho hom
   obtain ⟨t,ht,hgt⟩:=List.any_eq_true.1 hg
   have hnm:=zEq (a:=a) (b:=b) (.inl ho) hgt
   by_cases hkb:k∈b
   ·obtain ⟨o',ho',hg'⟩:=List.any_eq_true.1 (gb.needs k hkb l hl)
    by_cases hom':o'∈m
    ·exact use hom' hg'
    obtain ⟨hUo',hco'⟩:=outB ho' hom'
    obtain ⟨t',ht',hgt'⟩:=List.any_eq_true.1 hg'
    exact absurd (.inr (.inr ⟨k,.inl hka,l,hl,⟨t,ht,hnm⟩,⟨t',ht',zEq (.inr ho') hgt'⟩⟩)) (hj _ _ hco hco' hUo hUo')
   ·exact absurd (.inr (.inl ⟨k,.inl hka,rfl,_,says ht,hnm⟩)) (hj _ _ hco ⟨k,rfl,.inl ⟨hka,hkb⟩⟩ hUo hU)
 ·cases hgv:zCY c m t k with
  |false=>rfl
  |true=>
   exfalso
   obtain ⟨o,ho,hg⟩:=List.any_eq_true.1 hgv
   simp only [Bool.and_eq_true,bne_iff_ne] at hg
   obtain ⟨hok,hgt⟩:=hg
   have inB:k∈b→o∈b→False:=fun h1 h2=>by
    have:zCY c b t k=true:=List.any_eq_true.2 ⟨o,h2,by simp [hok,hgt]⟩
    rw [gb.bars k h1 t ht] at this
    cases this
   have inA:k∈a→o∈a→False:=fun h1 h2=>by
    have:zCY c a t k=true:=List.any_eq_true.2 ⟨o,h2,by simp [hok,hgt]⟩
    rw [ga.bars k h1 t ht] at this
    cases this
   have says:Says c k t.Name:=.inr ⟨t,ht,rfl⟩
   rcases (hm k).1 hk with ⟨h1,h2⟩|⟨h1,h2⟩<;>rcases (hm o).1 ho with ⟨h3,h4⟩|⟨h3,h4⟩
   ·exact inB h2 h4
   ·by_cases h5:o∈b
    ·exact inB h2 h5
    by_cases h6:k∈a
    ·exact inA h6 h4
    exact hj _ _ ⟨k,rfl,.inr ⟨h2,h6⟩⟩ ⟨o,rfl,.inl ⟨h4,h5⟩⟩ h1 h3 (.inl ⟨k,.inr h2,rfl,_,says,zEq (.inl h4) hgt⟩)
   ·by_cases h5:o∈a
    ·exact inA h2 h5
    by_cases h6:k∈b
    ·exact inB h6 h4
    exact hj _ _ ⟨o,rfl,.inr ⟨h4,h5⟩⟩ ⟨k,rfl,.inl ⟨h2,h6⟩⟩ h3 h1 (.inr (.inl ⟨k,.inl h2,rfl,_,says,zEq (.inr h4) hgt⟩))
   ·exact inA h2 h4
def inN (ns:List ByteArray) (n:ByteArray):Bool:=ns.any fun x=>seq x n
theorem zDN {ns:List ByteArray} {n:ByteArray}:inN ns n=true↔n∈ns:=by
 unfold inN
 rw [List.any_eq_true]
 constructor
 ·rintro ⟨x,hx,e⟩; rw [←zEG.1 e]; exact hx
 ·exact fun h=>⟨n,h,zHa n⟩
def mvB (c:List Pack) (a b:List Int) (ns:List ByteArray) (k:Int):Bool:=if inN ns (vO c k) then decide (k∈b) else decide (k∈a)
def upTo (n:Nat):List Int:=(List.range n).map fun i:Nat=>(i:Int)
def mvL (c:List Pack) (a b:List Int) (ns:List ByteArray):List Int:=(upTo c.length).filter (mvB c a b ns)
theorem zIk (n:Nat):(upTo n).length =n:=by simp [upTo]
theorem zIT {n:Nat} {k:Int}:k∈upTo n↔0≤k∧k<n:=by
 unfold upTo
 rw [List.mem_map]
 constructor
 ·rintro ⟨i,hi,rfl⟩
  have:=List.mem_range.1 hi
  omega
 ·rintro ⟨h1,h2⟩
  exact ⟨k.toNat,List.mem_range.2 (by omega),by omega⟩
theorem zMg (n:Nat):(upTo n).Pairwise (· < ·):=by
 unfold upTo
 refine List.pairwise_map.2 (List.pairwise_lt_range.imp fun h=>by omega)
theorem zJl (c:List Pack) (a b:List Int) (ns:List ByteArray):(mvL c a b ns).Pairwise (· < ·):=(zMg _).filter _
theorem zJH (c:List Pack) (a b:List Int) (ns:List ByteArray):Places c (mvL c a b ns):=fun k hk=>zIT.1 (List.mem_filter.1 hk).1
theorem zJB (c:List Pack) (a b:List Int) (ns:List ByteArray):(mvL c a b ns).length ≤c.length:=by
 have:=List.length_filter_le (mvB c a b ns) (upTo c.length)
 rw [zIk] at this
 exact this
theorem zIw {c:List Pack} {a b:List Int} {ns:List ByteArray} (ha:Places c a) (hb:Places c b) {k:Int}:k∈mvL c a b ns↔(vO c k∈ns∧k∈b)∨(vO c k∉ns∧k∈a):=by
 unfold mvL mvB
 rw [List.mem_filter,zIT]
 have hin:=zDN (ns:=ns) (n:=vO c k)
 cases hq:inN ns (vO c k)
 ·have hno:vO c k∉ns:=fun h=>by rw [hin.2 h] at hq; cases hq
  simp only [Bool.false_eq_true,if_false,decide_eq_true_eq]
  constructor
  ·rintro ⟨_,h⟩; exact .inr ⟨hno,h⟩
  ·rintro (⟨h,_⟩|⟨_,h⟩)
   ·exact absurd h hno
   ·exact ⟨ha k h,h⟩
 ·have hyes:=hin.1 hq
  simp only [if_true,decide_eq_true_eq]
  constructor
  ·rintro ⟨_,h⟩; exact .inl ⟨hyes,h⟩
  ·rintro (⟨_,h⟩|⟨h,_⟩)
   ·exact ⟨hb k h,h⟩
   ·exact absurd hyes h
theorem zL8 {l r:List Int} (hr:r.Pairwise (· < ·)) (hl:l.Nodup) (hm:∀x,x∈r↔x∈l) (hs:l.length≤4194304):uU l=some r:=by
 unfold uU
 rw [if_pos (by omega)]
 congr 1
 have hp:(l.mergeSort fun x y=>decide (x≤y)).Pairwise (fun x y=>decide (x≤y)=true):=List.pairwise_mergeSort (le:=fun x y:Int=>decide (x≤y)) (by intro x y z h1 h2; simp at*; omega) (by intro x y; simp; omega) l
 have hn:(l.mergeSort fun x y=>decide (x≤y)).Nodup :=(List.mergeSort_perm _ _).nodup_iff.2 hl
 refine zGX ?_ hr (fun x=>(List.mergeSort_perm _ _).mem_iff.trans (hm x).symm)
 exact hp.imp₂ (fun x y h1 h2=>by simp at h1; omega) hn
theorem zGe {c:List Pack} {a:List Int} {ns:List ByteArray} (hp:Places c a) (ha:a.length≤1048576) (hn:ns.length≤1048576):
  vG a ns c=some (a.filter fun k=>inN ns (vO c k))∧xA a ns c=some (a.filter fun k=> !(inN ns (vO c k))):=by
 have h1:∀k∈a,wF k ns c=some (!(inN ns (vO c k))):=by
  intro k hk
  unfold wF zAJ
  rw [(uN (hp k hk)).1]
  simp only [Option.bind_some]
  rw [zD3 _ _ hn]
  rfl
 have h2:∀k∈a,zT k ns c=some (inN ns (vO c k)):=by
  intro k hk
  unfold zT vL zAJ
  rw [(uN (hp k hk)).1]
  simp only [Option.bind_some]
  rw [zD3 _ _ hn]
  simp only [Option.bind_some,Bool.not_not]
  rfl
 constructor
 ·have key:=zJZ (fun k=> !(inN ns (vO c k))) a (0:Int) (by omega) (b1:=yD a ns c) (b2:=yB ns c) (by
   intro i hi
   unfold yD
   rw [if_pos (by simp; omega),zK hi]
   simp only [Option.bind_some,h1 _ (List.getElem_mem hi)]
   rw [zQ (by omega)]
   split<;>rfl) (by
   unfold yD
   rw [if_neg (by simp)]) (by
   intro xs i j hj hij hl hm
   unfold yB
   simp only
   rw [if_pos (by simp; omega),zK hj]
   simp only [Option.bind_some,h1 _ hm]
   rw [zK (show i<xs.length by omega),zQ (show j<_ by omega),zQ (show i<_ by omega)]
   cases inN ns (vO c xs[j])<;>simp) (by
   intro xs i hl
   unfold yB
   rw [if_neg (by simp)])
  have e:zV a ns c=some (a.filter fun k=> !!(inN ns (vO c k))):=key
  unfold vG vH
  rw [uR (by simp; omega) (by simp; omega)]
  simp only [Option.bind_some,List.nil_append]
  rw [e]
  simp
 ·have key:=zJZ (fun k=>inN ns (vO c k)) a (0:Int) (by omega) (b1:=zP a ns c) (b2:=zM ns c) (by
   intro i hi
   unfold zP
   rw [if_pos (by simp; omega),zK hi]
   simp only [Option.bind_some,h2 _ (List.getElem_mem hi)]
   rw [zQ (by omega)]
   split<;>rfl) (by
   unfold zP
   rw [if_neg (by simp)]) (by
   intro xs i j hj hij hl hm
   unfold zM
   simp only
   rw [if_pos (by simp; omega),zK hj]
   simp only [Option.bind_some,h2 _ hm]
   rw [zK (show i<xs.length by omega),zQ (show j<_ by omega),zQ (show i<_ by omega)]
   cases inN ns (vO c xs[j])<;>simp) (by
   intro xs i hl
   unfold zM
   rw [if_neg (by simp)])
  have e:zJ a ns c=some (a.filter fun k=> !(inN ns (vO c k))):=key
  unfold xA vH
  rw [uR (by simp; omega) (by simp; omega)]
  simp only [Option.bind_some,List.nil_append]
  rw [e]
  rfl
theorem zJN {c:List Pack} {a b:List Int} {ns:List ByteArray} (pa:Places c a) (pb:Places c b) (sa:a.Pairwise (· < ·)) (sb:b.Pairwise (· < ·)) (ha:a.length≤1048576) (hb:b.length≤1048576) (hn:ns.length≤1048576):
  zDD c a b ns=some (mvL c a b ns):=by
 have l1:=List.length_filter_le (fun k=> !(inN ns (vO c k))) a
 have l2:=List.length_filter_le (fun k=>inN ns (vO c k)) b
 unfold zDD
 rw [(zGe pa ha hn).2,(zGe pb hb hn).1]
 simp only [Option.bind_some]
 rw [uR (by omega) (by omega)]
 simp only [Option.bind_some]
 have nd:∀{l:List Int},l.Pairwise (· < ·)→l.Nodup:=fun h=>h.imp fun h=>by omega
 rw [zL8 (r:=mvL c a b ns) (zJl c a b ns) ?_ ?_ (by simp only [List.length_append]; omega)]
 ·simp only [Option.bind_some]
  rw [zKl]
  ·rfl
  ·refine (List.Perm.length_eq ?_)
   refine (List.perm_ext_iff_of_nodup (nd (zJl c a b ns)) ?_).2 ?_
   ·refine List.nodup_append.2 ⟨(nd sa).filter _,(nd sb).filter _,fun x hx y hy e=>?_⟩
    subst e
    have h1:=(List.mem_filter.1 hx).2
    have h2:=(List.mem_filter.1 hy).2
    rw [h2] at h1
    cases h1
   ·intro k
    rw [zIw pa pb,List.mem_append,List.mem_filter,List.mem_filter]
    have hin:=zDN (ns:=ns) (n:=vO c k)
    cases hq:inN ns (vO c k)
    ·have hno:vO c k∉ns:=fun h=>by rw [hin.2 h] at hq; cases hq
     simp [hno]
    ·simp [hin.1 hq]
 ·refine List.nodup_append.2 ⟨(nd sa).filter _,(nd sb).filter _,fun x hx y hy e=>?_⟩
  subst e
  have h1:=(List.mem_filter.1 hx).2
  have h2:=(List.mem_filter.1 hy).2
  rw [h2] at h1
  cases h1
 ·intro k
  rw [zIw pa pb,List.mem_append,List.mem_filter,List.mem_filter]
  have hin:=zDN (ns:=ns) (n:=vO c k)
  cases hq:inN ns (vO c k)
  ·have hno:vO c k∉ns:=fun h=>by rw [hin.2 h] at hq; cases hq
   simp [hno]
  ·simp [hin.1 hq]
def zCR (c:List Pack) (a:List Int) (n:ByteArray):Int:=(wP (fun _ k=>if seq (pat c k).Name n then some k else none) 0 a).getD (-1)
theorem zHj {q:Int→Bool}:∀(xs:List Int) (i:Nat),((wP (fun _ k=>if q k then some k else none) i xs)=none∧∀k∈xs,q k=false)∨∃k∈xs,q k=true∧(wP (fun _ k=>if q k then some k else none) i xs)=some k
 |[],i=>.inl ⟨rfl,by simp⟩
 |x::xs,i=>by
  simp only [wP]
  cases hq:q x
  ·simp only [Bool.false_eq_true,if_false]
   rcases zHj (q:=q) xs (i+1) with ⟨h1,h2⟩|⟨k,h1,h2,h3⟩
   ·refine .inl ⟨h1,fun k hk=>?_⟩
    rcases List.mem_cons.1 hk with rfl|hk
    ·exact hq
    ·exact h2 k hk
   ·exact .inr ⟨k,by simp [h1],h2,h3⟩
  ·simp only [if_true]
   exact .inr ⟨x,by simp,hq,rfl⟩
theorem zA5 (c:List Pack) (a:List Int) (n:ByteArray):(zCR c a n= -1∧∀k∈a,vO c k≠n)∨(zCR c a n∈a∧vO c (zCR c a n)=n):=by
 unfold zCR
 rcases zHj (q:=fun k=>seq (pat c k).Name n) a 0 with ⟨h1,h2⟩|⟨k,h1,h2,h3⟩
 ·rw [h1]
  refine .inl ⟨rfl,fun k hk e=>?_⟩
  have:seq (vO c k) n=false:=h2 k hk
  rw [zEG.2 e] at this
  cases this
 ·rw [h3]
  exact .inr ⟨h1,zEG.1 h2⟩
theorem zDG {c:List Pack} {a:List Int} (hp:Places c a) (ha:a.length≤1048576) (n:ByteArray):jH c a n=some (zCR c a n)∧vW c a n=some (zCR c a n):=by
 have key:=wI a (fun _ k=>if seq (pat c k).Name n then some k else none) (b:=zDe c a n) (by
  intro i hi
  have hk:=hp _ (List.getElem_mem hi)
  unfold zDe
  rw [if_pos (by simp; omega),zK hi]
  simp only [Option.bind_some]
  rw [(uN hk).1]
  simp only [Option.bind_some]
  rw [zQ (by omega)]
  cases seq (pat c a[i]).Name n<;>rfl) (by
  unfold zDe
  rw [if_neg (by simp)])
 have key2:=wI a (fun _ k=>if seq (pat c k).Name n then some k else none) (b:=kV c a n) (by
  intro i hi
  have hk:=hp _ (List.getElem_mem hi)
  unfold kV
  rw [if_pos (by simp; omega),zK hi]
  simp only [Option.bind_some]
  rw [(uN hk).1]
  simp only [Option.bind_some]
  rw [zQ (by omega)]
  cases seq (pat c a[i]).Name n<;>rfl) (by
  unfold kV
  rw [if_neg (by simp)])
 constructor
 ·unfold jH zDt zCR
  rw [key,zBh]
  cases wP (fun _ k=>if seq (pat c k).Name n then some k else none) 0 a<;>rfl
 ·unfold vW zCO zCR
  rw [key2,zBh]
  cases wP (fun _ k=>if seq (pat c k).Name n then some k else none) 0 a<;>rfl
theorem zKi {a b:List Int} (ha:a.length≤1048576) (hb:b.length≤1048576):wT [a,b]=some (a++b):=by
 unfold wT tK tT
 have e1:loop (wH [a,b]) (0,0)=some ((a.length+b.length:Nat):Int):=by
  have i0:idx [a,b] 0=some a:=rfl
  have i1:idx [a,b] 1=some b:=rfl
  rw [vP,show wH [a,b] (0,0)=some (.go ((a.length:Int),1)) by
   unfold wH
   rw [if_pos (by simp)]
   simp only
   rw [i0]
   simp only [Option.bind_some]
   rw [kE (by omega) (by omega),if_neg (by simp)]
   simp [kE]]
  simp only [Option.bind_some,Lp.elim]
  rw [vP,show wH [a,b] ((a.length:Int),1)=some (.go ((a.length:Int)+b.length,2)) by
   unfold wH
   rw [if_pos (by simp)]
   simp only
   rw [i1]
   simp only [Option.bind_some]
   rw [kE (x:=(a.length:Int)+b.length) (by omega) (by omega),if_neg (by simp; omega)]
   simp [kE]]
  simp only [Option.bind_some,Lp.elim]
  rw [vP,show wH [a,b] ((a.length:Int)+b.length,2)=some (.done ((a.length:Int)+b.length)) by
   unfold wH
   rw [if_neg (by simp)]]
  simp [Lp.elim]
 rw [e1]
 simp only [Option.bind_some]
 have e2:zAs ((a.length+b.length:Nat):Int)=some []:=by
  unfold zAs
  rw [if_pos (by omega)]
 rw [e2]
 simp only [Option.bind_some]
 have i0:idx [a,b] 0=some a:=rfl
 have i1:idx [a,b] 1=some b:=rfl
 rw [vP,show wM [a,b] (([]:List Int),0)=some (.go (a,1)) by
  unfold wM
  rw [if_pos (by simp)]
  simp only
  rw [i0]
  simp only [Option.bind_some]
  rw [uR (by simp; omega) (by simp; omega)]
  simp [kE]]
 simp only [Option.bind_some,Lp.elim]
 rw [vP,show wM [a,b] (a,1)=some (.go (a++b,2)) by
  unfold wM
  rw [if_pos (by simp)]
  simp only
  rw [i1]
  simp only [Option.bind_some]
  rw [uR (by omega) (by omega)]
  simp [kE]]
 simp only [Option.bind_some,Lp.elim]
 rw [vP,show wM [a,b] (a++b,2)=some (.done (a++b)) by
  unfold wM
  rw [if_neg (by simp)]]
 simp [Lp.elim]
structure Sml (c:List Pack):Prop where
 len:c.length≤24
 zLA:∀k,(pat c k).Provides.length ≤4
 needs:∀k,(pat c k).Needs.length ≤4
 bars:∀k,(pat c k).Bars.length ≤4
 clause:∀k,∀l∈(pat c k).Needs,l.length≤4
theorem Sml.of {c:List Pack} (h:CF c=0):Sml c:=by
 obtain ⟨h1,h2,_⟩:=zMs h
 have key:∀p,PF p=0→p.Provides.length≤4∧p.Needs.length≤4∧p.Bars.length≤4∧∀l∈p.Needs,l.length≤4:=by
  intro p hp
  have hm:zJO p=false:=by
   cases hm:zJO p with
   |false=>rfl
   |true=>
    unfold PF at hp
    rw [hm] at hp
    split at hp
    ·rename_i h3; simp [hp] at h3
    split at hp
    ·rename_i h3; simp [hp] at h3
    split at hp
    ·cases hp
    ·cases hp
  unfold zJO at hm
  simp only [Bool.or_eq_false_iff,decide_eq_false_iff_not,List.any_eq_false,decide_eq_true_eq] at hm
  obtain ⟨m1,m2,m3,m4⟩:=hm
  exact ⟨by omega,by omega,by omega,fun l hl=>by have:=m4 l hl; omega⟩
 have pk:∀k,(pat c k).Provides.length ≤4∧(pat c k).Needs.length ≤4∧(pat c k).Bars.length ≤4∧∀l∈(pat c k).Needs,l.length≤4:=by
  intro k
  unfold pat
  cases hk:idx c k with
  |none=>simp [noPack]
  |some p=>
   refine key p (h2 p ?_)
   unfold idx at hk
   split at hk
   ·exact List.mem_of_getElem? hk
   ·cases hk
 exact ⟨h1,fun k=>(pk k).1,fun k=>(pk k).2.1,fun k=>(pk k).2.2.1,fun k=>(pk k).2.2.2⟩
structure Two (c:List Pack) (a b:List Int):Prop where
 sml:Sml c
 pa:Places c a
 pb:Places c b
 sa:a.Pairwise (· < ·)
 sb:b.Pairwise (· < ·)
 la:a.length≤24
 lb:b.length≤24
theorem zHE {c:List Pack} {a b:List Int} (h:Two c a b):
  ∃l,kW c a b=some l∧zAP c a b=some l∧l.Pairwise ltS∧(∀n,n∈l↔zCR c a n≠zCR c b n)∧l.length≤24:=by
 have hc:=h.sml.len
 have la:=h.la
 have lb:=h.lb
 obtain ⟨l,e,h1,h2,h3⟩:=vQ (b:=zAC c a b) (fun i s=>s.2=(i:Int)∧s.1.Pairwise ltS∧(∀n,n∈s.1↔(∃k:Nat,k<i∧vO c (k:Int)=n)∧zCR c a n≠zCR c b n)∧s.1.length≤i) c.length
  (fun t=>t.Pairwise ltS∧(∀n,n∈t↔(∃k:Nat,k<c.length∧vO c (k:Int)=n)∧zCR c a n≠zCR c b n)∧t.length≤c.length) (by
  rintro i ⟨l,j⟩ hi ⟨hj,hs,hm,hl⟩
  simp only at hj hs hm hl
  subst hj
  refine .inl ?_
  have hk:=uN (c:=c) (k:=(i:Int)) ⟨by omega,by omega⟩
  unfold zAC
  rw [if_pos (by simp; omega)]
  simp only
  rw [hk.1]
  simp only [Option.bind_some]
  rw [(zDG h.pa (by omega) _).1,(zDG h.pb (by omega) _).1,zQ (by omega)]
  simp only [Option.bind_some]
  have hex:∀n,(∃k:Nat,k<i+1∧vO c (k:Int)=n)↔(∃k:Nat,k<i∧vO c (k:Int)=n)∨n=(pat c i).Name :=by
   intro n
   constructor
   ·rintro ⟨k,h1,h2⟩
    rcases Nat.lt_succ_iff_lt_or_eq.1 h1 with h3|rfl
    ·exact .inl ⟨k,h3,h2⟩
    ·exact .inr h2.symm
   ·rintro (⟨k,h1,h2⟩|h2)
    ·exact ⟨k,by omega,h2⟩
    ·exact ⟨i,by omega,h2.symm⟩
  by_cases hne:zCR c a (pat c i).Name =zCR c b (pat c i).Name
  ·rw [if_neg (by simp [hne])]
   refine ⟨_,rfl,rfl,hs,fun n=>?_,by simp only; omega⟩
   rw [hm,hex]
   constructor
   ·rintro ⟨q1,q2⟩; exact ⟨.inl q1,q2⟩
   ·rintro ⟨q1|q1,q2⟩
    ·exact ⟨q1,q2⟩
    ·subst q1; exact absurd hne q2
  ·rw [if_pos (by simp [hne])]
   obtain ⟨r,e1,e2,e3,e4⟩:=zFW l (pat c i).Name hs (by omega)
   rw [e1]
   refine ⟨_,rfl,rfl,e2,fun n=>?_,by simp only; omega⟩
   rw [e3,hm,hex]
   constructor
   ·rintro (⟨q1,q2⟩|q1)
    ·exact ⟨.inl q1,q2⟩
    ·subst q1; exact ⟨.inr rfl,hne⟩
   ·rintro ⟨q1|q1,q2⟩
    ·exact .inl ⟨q1,q2⟩
    ·exact .inr q1) (by
  rintro ⟨l,j⟩ ⟨hj,hs,hm,hl⟩
  simp only at hj hs hm hl
  subst hj
  unfold zAC
  rw [if_neg (by simp)]
  exact ⟨_,rfl,hs,hm,hl⟩) c.length 0 (([]:List ByteArray),0) (by omega) ⟨rfl,by simp,by simp,by simp⟩
 have hmem:∀n,n∈l↔zCR c a n≠zCR c b n:=by
  intro n
  rw [h2]
  constructor
  ·exact fun h=>h.2
  ·intro hne
   refine ⟨?_,hne⟩
   rcases zA5 c a n with ⟨q1,_⟩|⟨q1,q2⟩
   ·rcases zA5 c b n with ⟨q3,_⟩|⟨q3,q4⟩
    ·exact absurd (q1.trans q3.symm) hne
    ·have:=h.pb _ q3
     exact ⟨(zCR c b n).toNat,by omega,by rw [show ((zCR c b n).toNat :Int)=zCR c b n by omega]; exact q4⟩
   ·have:=h.pa _ q1
    exact ⟨(zCR c a n).toNat,by omega,by rw [show ((zCR c a n).toNat :Int)=zCR c a n by omega]; exact q2⟩
 refine ⟨l,by unfold kW zB1; rw [e]; rfl,?_,h1,hmem,by omega⟩
 unfold zAP zCD
 rw [zKi (by omega) (by omega)]
 simp only [Option.bind_some]
 obtain ⟨l2,f,g1,g2⟩:=vQ (b:=zBZ c a b (a++b)) (fun i s=>s.2=(i:Int)∧(∀n,n∈s.1↔(∃k∈(a++b).take i,vO c k=n)∧zCR c a n≠zCR c b n)∧s.1.length≤i) (a++b).length
  (fun t=>(∀n,n∈t↔(∃k∈a++b,vO c k=n)∧zCR c a n≠zCR c b n)∧t.length≤(a++b).length) (by
  rintro i ⟨l,j⟩ hi ⟨hj,hm,hl⟩
  simp only at hj hm hl
  subst hj
  have hlen:(a++b).length ≤48:=by simp; omega
  have hk:0≤(a++b)[i]∧(a++b)[i]<c.length:=by
   have:(a++b)[i]∈a++b:=List.getElem_mem hi
   rcases List.mem_append.1 this with q|q
   ·exact h.pa _ q
   ·exact h.pb _ q
  refine .inl ?_
  unfold zBZ
  rw [if_pos (by simp at hi ⊢; omega),zK hi]
  simp only [Option.bind_some]
  rw [(uN hk).1]
  simp only [Option.bind_some]
  rw [(zDG h.pa (by omega) _).2,(zDG h.pb (by omega) _).2,zQ (by omega)]
  simp only [Option.bind_some]
  have hex:∀n,(∃k∈(a++b).take (i+1),vO c k=n)↔(∃k∈(a++b).take i,vO c k=n)∨n=(pat c (a++b)[i]).Name :=by
   intro n
   rw [List.take_succ_eq_append_getElem hi]
   constructor
   ·rintro ⟨k,h1,h2⟩
    rcases List.mem_append.1 h1 with h3|h3
    ·exact .inl ⟨k,h3,h2⟩
    ·simp at h3; subst h3; exact .inr h2.symm
   ·rintro (⟨k,h1,h2⟩|h2)
    ·exact ⟨k,List.mem_append_left _ h1,h2⟩
    ·exact ⟨_,List.mem_append_right _ (by simp),h2.symm⟩
  by_cases hne:zCR c a (pat c (a++b)[i]).Name =zCR c b (pat c (a++b)[i]).Name
  ·rw [if_neg (by simp [hne])]
   refine ⟨_,rfl,rfl,fun n=>?_,by simp only; omega⟩
   rw [hm,hex]
   constructor
   ·rintro ⟨q1,q2⟩; exact ⟨.inl q1,q2⟩
   ·rintro ⟨q1|q1,q2⟩
    ·exact ⟨q1,q2⟩
    ·subst q1; exact absurd hne q2
  ·rw [if_pos (by simp [hne]),uR (by simp; omega) (by simp; omega)]
   refine ⟨_,rfl,rfl,fun n=>?_,by simp; omega⟩
   rw [hex,List.mem_append,hm,List.mem_singleton]
   constructor
   ·rintro (⟨q1,q2⟩|q1)
    ·exact ⟨.inl q1,q2⟩
    ·subst q1; exact ⟨.inr rfl,hne⟩
   ·rintro ⟨q1|q1,q2⟩
    ·exact .inl ⟨q1,q2⟩
    ·exact .inr q1) (by
  rintro ⟨l,j⟩ ⟨hj,hm,hl⟩
  simp only at hj hm hl
  subst hj
  rw [List.take_length] at hm
  unfold zBZ
  rw [if_neg (by simp)]
  exact ⟨_,rfl,hm,hl⟩) (a++b).length 0 (([]:List ByteArray),0) (by omega) ⟨rfl,by simp,by simp⟩
 rw [f]
 simp only [Option.bind_some]
 have hlen:(a++b).length ≤48:=by simp; omega
 obtain ⟨r,s1,s2,s3⟩:=zEQ l2 (by omega)
 rw [s1]
 simp only [Option.bind_some]
 congr 1
 refine zCK s2 h1 fun n=>?_
 rw [s3,g1,hmem]
 constructor
 ·exact fun h=>h.2
 ·intro hne
  refine ⟨?_,hne⟩
  rcases zA5 c a n with ⟨q1,_⟩|⟨q1,q2⟩
  ·rcases zA5 c b n with ⟨q3,_⟩|⟨q3,q4⟩
   ·exact absurd (q1.trans q3.symm) hne
   ·exact ⟨_,List.mem_append_right _ q3,q4⟩
  ·exact ⟨_,List.mem_append_left _ q1,q2⟩
def zCm (c:List Pack) (a b:List Int) (n:ByteArray):List Pack:=
 (if decide (zCR c a n≥0) then [pat c (zCR c a n)] else [])++(if decide (zCR c b n≥0) then [pat c (zCR c b n)] else [])
theorem zEo {c:List Pack} {a:List Int} (hp:Places c a) {n:ByteArray} (h:zCR c a n≥0):0≤zCR c a n∧zCR c a n<c.length:=by
 rcases zA5 c a n with ⟨q,_⟩|⟨q,_⟩
 ·omega
 ·exact hp _ q
theorem zH2 (c:List Pack) (a b:List Int) (n:ByteArray):(zCm c a b n).length ≤2:=by
 unfold zCm
 cases decide (zCR c a n≥0)<;>cases decide (zCR c b n≥0)<;>simp
theorem zGm {c:List Pack} {a b:List Int} {n:ByteArray} {p:Pack} (h:p∈zCm c a b n):∃k,(k∈a∨k∈b)∧vO c k=n∧p=pat c k:=by
 unfold zCm at h
 rcases List.mem_append.1 h with h|h
 ·split at h
  ·rename_i q
   simp at q h
   rcases zA5 c a n with ⟨q2,_⟩|⟨q2,q3⟩
   ·omega
   ·exact ⟨_,.inl q2,q3,h⟩
  ·simp at h
 ·split at h
  ·rename_i q
   simp at q h
   rcases zA5 c b n with ⟨q2,_⟩|⟨q2,q3⟩
   ·omega
   ·exact ⟨_,.inr q2,q3,h⟩
  ·simp at h
theorem zHp {c:List Pack} {a b:List Int} (h:Two c a b) (n:ByteArray):zBD c a b n=some (zCm c a b n)∧jM c a b n=some (zCm c a b n):=by
 have la:=h.la
 have lb:=h.lb
 have step:∀(l:List Pack) (x:Int) (i:Nat) (x5 x7:Int),l.length≤5→idx [x5,x7] (i:Int)=some x→i<2→(x≥0→0≤x∧x<c.length)→
   tY c x5 x7 (l,(i:Int))=some (.go (l++(if decide (x≥0) then [pat c x] else []),((i+1:Nat):Int))):=by
  intro l x i x5 x7 hl hx hi hp
  unfold tY
  rw [if_pos (by simp; omega)]
  simp only
  rw [hx]
  simp only [Option.bind_some]
  rw [zQ (by omega)]
  by_cases hge:x≥0
  ·rw [if_pos (by simpa using hge),if_pos (by simpa using hge),(uN (hp hge)).1]
   simp only [Option.bind_some]
   rw [uR (by simp; omega) (by simp; omega)]
   rfl
  ·rw [if_neg (by simpa using hge),if_neg (by simpa using hge)]
   simp
 constructor
 ·unfold zBD zCm
  rw [(zDG h.pa (by omega) _).1,(zDG h.pb (by omega) _).1]
  simp only [Option.bind_some]
  by_cases h1:zCR c a n≥0
  ·rw [if_pos (by simpa using h1),if_pos (by simpa using h1),(uN (zEo h.pa h1)).1]
   simp only [Option.bind_some]
   rw [uR (by simp) (by simp)]
   simp only [Option.bind_some,List.nil_append]
   by_cases h2:zCR c b n≥0
   ·rw [if_pos (by simpa using h2),if_pos (by simpa using h2),(uN (zEo h.pb h2)).1]
    simp only [Option.bind_some]
    rw [uR (by simp) (by simp)]
    rfl
   ·rw [if_neg (by simpa using h2),if_neg (by simpa using h2)]
    rfl
  ·rw [if_neg (by simpa using h1),if_neg (by simpa using h1)]
   simp only [Option.bind_some,List.nil_append]
   by_cases h2:zCR c b n≥0
   ·rw [if_pos (by simpa using h2),if_pos (by simpa using h2),(uN (zEo h.pb h2)).1]
    simp only [Option.bind_some]
    rw [uR (by simp) (by simp)]
    rfl
   ·rw [if_neg (by simpa using h2),if_neg (by simpa using h2)]
    rfl
 ·unfold jM zB2
  rw [(zDG h.pa (by omega) _).2,(zDG h.pb (by omega) _).2]
  simp only [Option.bind_some]
  rw [vP,show tY c (zCR c a n) (zCR c b n) (([]:List Pack),0)=_ from step [] _ 0 _ _ (by simp) rfl (by omega) (zEo h.pa)]
  simp only [Option.bind_some,Lp.elim]
  rw [vP,step _ _ 1 _ _ (by cases decide (zCR c a n≥0)<;>simp) rfl (by omega) (zEo h.pb)]
  simp only [Option.bind_some,Lp.elim,List.nil_append]
  rw [vP,show ∀l,tY c (zCR c a n) (zCR c b n) (l,((1+1:Nat):Int))=some (.done l) from fun l=>by
   unfold tY
   rw [if_neg (by simp)]]
  rfl
theorem zHr {α:Type} (xs:List α) (f:α→ByteArray) {b:(List ByteArray×Int)→Option (Lp (List ByteArray×Int) (List ByteArray))}
  (hstep:∀(i:Nat) (hi:i<xs.length) (l:List ByteArray),b (l,(i:Int))=(uG l (f xs[i])).bind fun x=>some (Lp.go (x,w64 ((i:Int)+1)))) (hend:∀l,b (l,(xs.length:Int))=some (.done l)) (l0:List ByteArray) (hs:l0.Pairwise ltS) (hl:l0.length+xs.length≤1048576):
  ∃r,loop b (l0,0)=some r∧r.Pairwise ltS∧(∀x,x∈r↔x∈l0∨∃y∈xs,f y=x)∧r.length≤l0.length+xs.length:=by
 refine vQ (b:=b) (fun i s=>s.2=(i:Int)∧s.1.Pairwise ltS∧(∀x,x∈s.1↔x∈l0∨∃y∈xs.take i,f y=x)∧s.1.length≤l0.length+i) xs.length _ (by
  rintro i ⟨l,j⟩ hi ⟨hj,h1,h2,h3⟩
  simp only at hj h1 h2 h3
  subst hj
  refine .inl ?_
  obtain ⟨r,e1,e2,e3,e4⟩:=zFW l (f xs[i]) h1 (by omega)
  rw [hstep i hi,e1,zQ (by omega)]
  refine ⟨_,rfl,rfl,e2,fun x=>?_,by simp only; omega⟩
  rw [e3,h2,List.take_succ_eq_append_getElem hi]
  constructor
  ·rintro ((q|⟨y,q1,q2⟩)|q)
   ·exact .inl q
   ·exact .inr ⟨y,List.mem_append_left _ q1,q2⟩
   ·exact .inr ⟨_,List.mem_append_right _ (by simp),q.symm⟩
  ·rintro (q|⟨y,q1,q2⟩)
   ·exact .inl (.inl q)
   ·rcases List.mem_append.1 q1 with q1|q1
    ·exact .inl (.inr ⟨y,q1,q2⟩)
    ·simp at q1; subst q1; exact .inr q2.symm) (by
  rintro ⟨l,j⟩ ⟨hj,h1,h2,h3⟩
  simp only at hj h1 h2 h3
  subst hj
  rw [List.take_length] at h2
  exact ⟨_,hend l,h1,h2,h3⟩) xs.length 0 (l0,0) (by omega) ⟨rfl,hs,by simp,by simp⟩
noncomputable def nmL (c:List Pack) (a b:List Int) (n:ByteArray):List ByteArray:=(jR c a b n).getD []
theorem zIm {c:List Pack} {a b:List Int} (h:Two c a b) (n:ByteArray):
  zAD c a b n=some (nmL c a b n)∧jR c a b n=some (nmL c a b n)∧(∀x,x∈nmL c a b n↔x=n∨∃p∈zCm c a b n,x∈p.Provides)∧(nmL c a b n).length ≤1048576:=by
 have hpr:∀p∈zCm c a b n,p.Provides.length≤4:=fun p hp=>by
  obtain ⟨k,_,_,rfl⟩:=zGm hp
  exact h.sml.zLA k
 have hbl:=zH2 c a b n
 obtain ⟨r,e,r1,r2,r3⟩:=vQ (b:=zCh (zCm c a b n)) (fun i s=>s.2=(i:Int)∧s.1.Pairwise ltS∧(∀x,x∈s.1↔x=n∨∃p∈(zCm c a b n).take i,x∈p.Provides)∧s.1.length≤1+4*i) (zCm c a b n).length
  (fun t=>t.Pairwise ltS∧(∀x,x∈t↔x=n∨∃p∈zCm c a b n,x∈p.Provides)∧t.length≤1+4*(zCm c a b n).length) (by
  rintro i ⟨l,j⟩ hi ⟨hj,h1,h2,h3⟩
  simp only at hj h1 h2 h3
  subst hj
  refine .inl ?_
  have hp4:=hpr _ (List.getElem_mem hi)
  obtain ⟨r,e1,e2,e3,e4⟩:=zHr (zCm c a b n)[i].Provides (fun x=>x) (b:=zCf (zCm c a b n) (l,(i:Int))) (by
   intro j hj l'
   unfold zCf
   simp only
   rw [zK hi]
   simp only [Option.bind_some]
   rw [if_pos (by simp; omega),zK hj]
   rfl) (by
   intro l'
   unfold zCf
   simp only
   rw [zK hi]
   simp only [Option.bind_some]
   rw [if_neg (by simp)]) l h1 (by omega)
  unfold zCh zCn
  rw [if_pos (by simp; omega),e1,zQ (by omega)]
  refine ⟨_,rfl,rfl,e2,fun x=>?_,by simp only; omega⟩
  rw [e3,h2,List.take_succ_eq_append_getElem hi]
  constructor
  ·rintro ((q|⟨p,q1,q2⟩)|⟨y,q1,q2⟩)
   ·exact .inl q
   ·exact .inr ⟨p,List.mem_append_left _ q1,q2⟩
   ·subst q2; exact .inr ⟨_,List.mem_append_right _ (by simp),q1⟩
  ·rintro (q|⟨p,q1,q2⟩)
   ·exact .inl (.inl q)
   ·rcases List.mem_append.1 q1 with q1|q1
    ·exact .inl (.inr ⟨p,q1,q2⟩)
    ·simp at q1; subst q1; exact .inr ⟨_,q2,rfl⟩) (by
  rintro ⟨l,j⟩ ⟨hj,h1,h2,h3⟩
  simp only at hj h1 h2 h3
  subst hj
  rw [List.take_length] at h2
  unfold zCh
  rw [if_neg (by simp)]
  exact ⟨_,rfl,h1,h2,h3⟩) (zCm c a b n).length 0 ([n],0) (by omega) ⟨rfl,by simp,by simp,by simp⟩
 obtain ⟨u,f,u1,u2⟩:=vQ (b:=zBS (zCm c a b n)) (fun i s=>s.2=(i:Int)∧(∀x,x∈s.1↔x=n∨∃p∈(zCm c a b n).take i,x∈p.Provides)∧s.1.length≤1+4*i) (zCm c a b n).length
  (fun t=>(∀x,x∈t↔x=n∨∃p∈zCm c a b n,x∈p.Provides)∧t.length≤1+4*(zCm c a b n).length) (by
  rintro i ⟨l,j⟩ hi ⟨hj,h2,h3⟩
  simp only at hj h2 h3
  subst hj
  refine .inl ?_
  have hp4:=hpr _ (List.getElem_mem hi)
  unfold zBS
  rw [if_pos (by simp; omega),zK hi]
  simp only [Option.bind_some]
  rw [uR (by omega) (by omega),zQ (by omega)]
  refine ⟨_,rfl,rfl,fun x=>?_,by simp; omega⟩
  rw [List.mem_append,h2,List.take_succ_eq_append_getElem hi]
  constructor
  ·rintro ((q|⟨p,q1,q2⟩)|q)
   ·exact .inl q
   ·exact .inr ⟨p,List.mem_append_left _ q1,q2⟩
   ·exact .inr ⟨_,List.mem_append_right _ (by simp),q⟩
  ·rintro (q|⟨p,q1,q2⟩)
   ·exact .inl (.inl q)
   ·rcases List.mem_append.1 q1 with q1|q1
    ·exact .inl (.inr ⟨p,q1,q2⟩)
    ·simp at q1; subst q1; exact .inr q2) (by
  rintro ⟨l,j⟩ ⟨hj,h2,h3⟩
  simp only at hj h2 h3
  subst hj
  rw [List.take_length] at h2
  unfold zBS
  rw [if_neg (by simp)]
  exact ⟨_,rfl,h2,h3⟩) (zCm c a b n).length 0 ([n],0) (by omega) ⟨rfl,by simp,by simp⟩
 obtain ⟨w,w1,w2,w3⟩:=zEQ u (by omega)
 have hw:w=r:=zCK w2 r1 fun x=>by rw [w3,u1,r2]
 have hi:jR c a b n=some r:=by
  unfold jR zCI
  rw [(zHp h n).2]
  simp only [Option.bind_some]
  rw [f]
  simp only [Option.bind_some]
  rw [w1,hw]
  rfl
 have hd:nmL c a b n=r:=by unfold nmL; rw [hi]; rfl
 rw [hd]
 refine ⟨?_,hi,r2,by omega⟩
 unfold zAD zC4
 rw [(zHp h n).1]
 simp only [Option.bind_some]
 rw [e]
 rfl
noncomputable def mnL (p:Pack):List ByteArray:=(vC p).getD []
theorem zLQ {ls:List (List Term)} (hl:ls.length≤4) (h4:∀l∈ls,l.length≤4):vI ls=some ls.flatten∧ls.flatten.length≤16:=by
 have hfl:∀i,i≤ls.length→(ls.take i).flatten.length ≤4*i:=by
  intro i
  induction i with
  |zero=>simp
  |succ i ih=>
   intro hi
   have:=ih (by omega)
   rw [List.take_succ_eq_append_getElem (by omega),List.flatten_append,List.length_append]
   have:=h4 _ (List.getElem_mem (show i<ls.length by omega))
   have h0:([ls[i]]:List (List Term)).flatten.length =ls[i].length :=by simp
   rw [h0]
   omega
 have hf:=hfl ls.length (Nat.le_refl _)
 rw [List.take_length] at hf
 refine ⟨?_,by omega⟩
 obtain ⟨t,e,ht⟩:=vQ (b:=vR ls) (fun i s=>s.2=(i:Int)∧s.1=((ls.take i).flatten.length :Int)) ls.length (fun t=>t=(ls.flatten.length:Int)) (by
  rintro i ⟨s,j⟩ hi ⟨hj,hs⟩
  simp only at hj hs
  subst hj hs
  have h1:=hfl i (by omega)
  have h2:=h4 _ (List.getElem_mem hi)
  refine .inl ?_
  unfold vR
  rw [if_pos (by simp; omega),zK hi]
  simp only [Option.bind_some]
  rw [kE (x:=((ls.take i).flatten.length :Int)+(ls[i].length :Int)) (by omega) (by omega),if_neg (by simp; omega),zQ (by omega)]
  refine ⟨_,rfl,rfl,?_⟩
  rw [List.take_succ_eq_append_getElem hi,List.flatten_append,List.length_append]
  simp) (by
  rintro ⟨s,j⟩ ⟨hj,hs⟩
  simp only at hj hs
  subst hj hs
  rw [List.take_length]
  unfold vR
  rw [if_neg (by simp)]
  exact ⟨_,rfl,rfl⟩) ls.length 0 (0,0) (by omega) ⟨rfl,by simp⟩
 obtain ⟨u,f,hu⟩:=vQ (b:=vS ls) (fun i s=>s.2=(i:Int)∧s.1=(ls.take i).flatten) ls.length (fun t=>t=ls.flatten) (by
  rintro i ⟨s,j⟩ hi ⟨hj,hs⟩
  simp only at hj hs
  subst hj hs
  have h1:=hfl i (by omega)
  have h2:=h4 _ (List.getElem_mem hi)
  refine .inl ?_
  unfold vS
  rw [if_pos (by simp; omega),zK hi]
  simp only [Option.bind_some]
  rw [uR (by omega) (by omega),zQ (by omega)]
  refine ⟨_,rfl,rfl,?_⟩
  rw [List.take_succ_eq_append_getElem hi,List.flatten_append]
  simp) (by
  rintro ⟨s,j⟩ ⟨hj,hs⟩
  simp only at hj hs
  subst hj hs
  rw [List.take_length]
  unfold vS
  rw [if_neg (by simp)]
  exact ⟨_,rfl,rfl⟩) ls.length 0 (([]:List Term),0) (by omega) ⟨rfl,by simp⟩
 subst ht hu
 unfold vI vZ vY
 rw [e]
 simp only [Option.bind_some]
 rw [show kH (ls.flatten.length:Int)=some [] by unfold kH; rw [if_pos (by omega)]]
 simp only [Option.bind_some]
 rw [f]
 rfl
theorem zIC {p:Pack} (h1:p.Needs.length≤4) (h2:∀l∈p.Needs,l.length≤4) (h3:p.Bars.length≤4):
  jW p=some (mnL p)∧vC p=some (mnL p)∧(∀x,x∈mnL p↔(∃l∈p.Needs,∃t∈l,t.Name=x)∨∃t∈p.Bars,t.Name=x)∧(mnL p).length ≤1048576:=by
 obtain ⟨r,e,r1,r2,r3⟩:=vQ (b:=zAy p) (fun i s=>s.2=(i:Int)∧s.1.Pairwise ltS∧(∀x,x∈s.1↔∃l∈p.Needs.take i,∃t∈l,t.Name=x)∧s.1.length≤4*i) p.Needs.length
  (fun t=>t.Pairwise ltS∧(∀x,x∈t↔∃l∈p.Needs,∃t∈l,t.Name=x)∧t.length≤4*p.Needs.length) (by
  rintro i ⟨l,j⟩ hi ⟨hj,g1,g2,g3⟩
  simp only at hj g1 g2 g3
  subst hj
  refine .inl ?_
  have hp4:=h2 _ (List.getElem_mem hi)
  obtain ⟨r,e1,e2,e3,e4⟩:=zHr p.Needs[i] (fun x:Term=>x.Name) (b:=zAv p (l,(i:Int))) (by
   intro j hj l'
   unfold zAv
   simp only
   rw [zK hi]
   simp only [Option.bind_some]
   rw [if_pos (by simp; omega),zK hj]
   rfl) (by
   intro l'
   unfold zAv
   simp only
   rw [zK hi]
   simp only [Option.bind_some]
   rw [if_neg (by simp)]) l g1 (by omega)
  unfold zAy zAO
  rw [if_pos (by simp; omega),e1,zQ (by omega)]
  refine ⟨_,rfl,rfl,e2,fun x=>?_,by simp only; omega⟩
  rw [e3,g2,List.take_succ_eq_append_getElem hi]
  constructor
  ·rintro (⟨l,q1,q2⟩|⟨y,q1,q2⟩)
   ·exact ⟨l,List.mem_append_left _ q1,q2⟩
   ·exact ⟨_,List.mem_append_right _ (by simp),y,q1,q2⟩
  ·rintro ⟨l,q1,q2⟩
   rcases List.mem_append.1 q1 with q1|q1
   ·exact .inl ⟨l,q1,q2⟩
   ·simp at q1; subst q1; exact .inr q2) (by
  rintro ⟨l,j⟩ ⟨hj,g1,g2,g3⟩
  simp only at hj g1 g2 g3
  subst hj
  rw [List.take_length] at g2
  unfold zAy
  rw [if_neg (by simp)]
  exact ⟨_,rfl,g1,g2,g3⟩) p.Needs.length 0 (([]:List ByteArray),0) (by omega) ⟨rfl,by simp,by simp,by simp⟩
 obtain ⟨r',e',s1,s2,s3⟩:=zHr p.Bars (fun x:Term=>x.Name) (b:=zAn p) (by
  intro j hj l'
  unfold zAn
  rw [if_pos (by simp; omega),zK hj]
  rfl) (by
  intro l'
  unfold zAn
  rw [if_neg (by simp)]) r r1 (by omega)
 obtain ⟨c1,c2⟩:=zLQ h1 h2
 have hlen:(p.Needs.flatten++p.Bars).length ≤20:=by rw [List.length_append]; omega
 obtain ⟨u,f,u1,u2⟩:=vQ (b:=jG (p.Needs.flatten++p.Bars)) (fun i s=>s.2=(i:Int)∧s.1=((p.Needs.flatten++p.Bars).take i).map (·.Name)) (p.Needs.flatten++p.Bars).length
  (fun t=>t=(p.Needs.flatten++p.Bars).map (·.Name)∧t.length≤20) (by
  rintro i ⟨l,j⟩ hi ⟨hj,g⟩
  simp only at hj g
  subst hj g
  refine .inl ?_
  have hil:i<20:=by omega
  unfold jG
  rw [if_pos (by simp at hi ⊢; omega),zK hi]
  simp only [Option.bind_some]
  have hle:(((p.Needs.flatten++p.Bars).take i).map (·.Name)).length ≤i:=by simp; omega
  rw [uR (by simp at hle ⊢; omega) (by simp at hle ⊢; omega),zQ (by omega)]
  refine ⟨_,rfl,rfl,?_⟩
  rw [List.take_succ_eq_append_getElem hi,List.map_append]
  rfl) (by
  rintro ⟨l,j⟩ ⟨hj,g⟩
  simp only at hj g
  subst hj g
  rw [List.take_length]
  unfold jG
  rw [if_neg (by simp)]
  exact ⟨_,rfl,rfl,by rw [List.length_map]; exact hlen⟩) (p.Needs.flatten++p.Bars).length 0 (([]:List ByteArray),0) (by omega) ⟨rfl,by simp⟩
 obtain ⟨w,w1,w2,w3⟩:=zEQ u (by omega)
 have hmem:∀x,x∈r'↔(∃l∈p.Needs,∃t∈l,t.Name=x)∨∃t∈p.Bars,t.Name=x:=fun x=>by rw [s2,r2]
 have hw:w=r':=zCK w2 s1 fun x=>by
  rw [w3,u1,hmem,List.mem_map]
  constructor
  ·rintro ⟨t,q1,q2⟩
   rcases List.mem_append.1 q1 with q1|q1
   ·obtain ⟨l,q3,q4⟩:=List.mem_flatten.1 q1
    exact .inl ⟨l,q3,t,q4,q2⟩
   ·exact .inr ⟨t,q1,q2⟩
  ·rintro (⟨l,q1,t,q2,q3⟩|⟨t,q1,q2⟩)
   ·exact ⟨t,List.mem_append_left _ (List.mem_flatten.2 ⟨l,q1,q2⟩),q3⟩
   ·exact ⟨t,List.mem_append_right _ q1,q2⟩
 have hi:vC p=some r':=by
  unfold vC jO
  rw [c1]
  simp only [Option.bind_some]
  rw [uR (by omega) (by omega)]
  simp only [Option.bind_some]
  rw [f]
  simp only [Option.bind_some]
  rw [w1,hw]
  rfl
 have hd:mnL p=r':=by unfold mnL; rw [hi]; rfl
 rw [hd]
 refine ⟨?_,hi,hmem,by omega⟩
 unfold jW zAK zAQ
 rw [e]
 simp only [Option.bind_some]
 rw [e']
 rfl
theorem zEZ {α:Type} (xs:List α) (q:α→Bool) {b:Int→Option (Lp Int (Fl Bool Unit))}
  (hstep:∀(i:Nat) (hi:i<xs.length),b (i:Int)=some (if q xs[i] then .done (.ret true) else .go ((i+1:Nat):Int))) (hend:b (xs.length:Int)=some (.done (.nxt ()))):
  loop b 0=some (if xs.any q then .ret true else .nxt ()):=by
 have:=wI xs (fun _ x=>if q x then some true else none) (b:=b) (by intro i hi; rw [hstep i hi]; cases q xs[i]<;>rfl) hend
 rw [this,zER]
 cases xs.any q<;>rfl
theorem zHd {α:Type} (xs:List α) (q:α→Bool) {b:Int→Option (Lp Int (Fl Int Unit))}
  (hstep:∀(i:Nat) (hi:i<xs.length),b (i:Int)=some (if q xs[i] then .done (.ret (i:Int)) else .go ((i+1:Nat):Int))) (hend:b (xs.length:Int)=some (.done (.nxt ()))):
  ((loop b 0).bind (Fl.go some fun _=>some (-1))).bind (fun x=>some (decide (x≥0)))=some (xs.any q):=by
 have:=wI xs (fun j x=>if q x then some (j:Int) else none) (b:=b) (by intro i hi; rw [hstep i hi]; cases q xs[i]<;>rfl) hend
 have h:=zDE (zCj q xs 0)
 rw [this,zBh,←h]
 cases wP (fun j x=>if q x then some (j:Int) else none) 0 xs<;>rfl
theorem zGR {m ns:List ByteArray} (hm:m.length≤1048576) (hn:ns.length≤1048576):
  zCq m ns=some (m.any (inN ns))∧zW m ns=some (m.any (inN ns)):=by
 constructor
 ·have k:=zEZ m (inN ns) (b:=zBO m ns) (by
   intro i hi
   unfold zBO
   rw [if_pos (by simp; omega),zK hi]
   simp only [Option.bind_some]
   rw [zDB _ _ hn,zQ (by omega)]
   simp only [Option.bind_some]
   have:(ns.any fun x=>seq x m[i])=inN ns m[i]:=rfl
   rw [this]
   cases inN ns m[i]<;>rfl) (by
   unfold zBO
   rw [if_neg (by simp)])
  unfold zCq zCv
  rw [k]
  cases m.any (inN ns)<;>rfl
 ·exact zHd m (inN ns) (b:=yI m ns) (by
   intro i hi
   unfold yI uJ
   rw [if_pos (by simp; omega),zK hi]
   simp only [Option.bind_some]
   rw [zD3 _ _ hn,zQ (by omega)]
   simp only [Option.bind_some]
   have:(ns.any fun x=>seq x m[i])=inN ns m[i]:=rfl
   rw [this]
   cases inN ns m[i]<;>rfl) (by
   unfold yI
   rw [if_neg (by simp)])
noncomputable def zIU (c:List Pack) (a b:List Int) (n:ByteArray) (ns:List ByteArray):Bool:=(zCm c a b n).any fun p=>(mnL p).any (inN ns)
theorem zFw {c:List Pack} {a b:List Int} (h:Two c a b) (n:ByteArray) {ns:List ByteArray} (hn:ns.length≤1048576):
  tL c a b n ns=some (zIU c a b n ns)∧vB n ns c a b=some (zIU c a b n ns):=by
 have hb:=zH2 c a b n
 have hp:∀p∈zCm c a b n,jW p=some (mnL p)∧vC p=some (mnL p)∧(mnL p).length ≤1048576:=fun p hp=>by
  obtain ⟨k,_,_,rfl⟩:=zGm hp
  obtain ⟨q1,q2,_,q3⟩:=zIC (h.sml.needs k) (h.sml.clause k) (h.sml.bars k)
  exact ⟨q1,q2,q3⟩
 constructor
 ·have k:=zEZ (zCm c a b n) (fun p=>(mnL p).any (inN ns)) (b:=zC2 ns (zCm c a b n)) (by
   intro i hi
   obtain ⟨q1,q2,q3⟩:=hp _ (List.getElem_mem hi)
   unfold zC2
   rw [if_pos (by simp; omega),zK hi]
   simp only [Option.bind_some]
   rw [q1]
   simp only [Option.bind_some]
   rw [(zGR q3 hn).1,zQ (by omega)]
   simp only [Option.bind_some]
   cases (mnL (zCm c a b n)[i]).any (inN ns)<;>rfl) (by
   unfold zC2
   rw [if_neg (by simp)])
  unfold tL zDc
  rw [(zHp h n).1]
  simp only [Option.bind_some]
  rw [k]
  unfold zIU
  cases (zCm c a b n).any (fun p=>(mnL p).any (inN ns))<;>rfl
 ·have k:=zHd (zCm c a b n) (fun p=>(mnL p).any (inN ns)) (b:=yJ (zCm c a b n) ns) (by
   intro i hi
   obtain ⟨q1,q2,q3⟩:=hp _ (List.getElem_mem hi)
   unfold yJ jC
   rw [if_pos (by simp; omega),zK hi]
   simp only [Option.bind_some]
   rw [q2]
   simp only [Option.bind_some]
   rw [(zGR q3 hn).2,zQ (by omega)]
   simp only [Option.bind_some]
   cases (mnL (zCm c a b n)[i]).any (inN ns)<;>rfl) (by
   unfold yJ
   rw [if_neg (by simp)])
  unfold vB
  rw [(zHp h n).2]
  simp only [Option.bind_some]
  have e:zU (zCm c a b n) ns=some (zIU c a b n ns):=k
  rw [e]
  rfl
def clB (ns:List ByteArray) (l:List Term):Bool:=l.any fun t=>inN ns t.Name
theorem zEv {ns:List ByteArray} {l:List Term} (hn:ns.length≤1048576) (hl:l.length≤1048576):jL l ns=some (clB ns l)∧wZ ns l=some (clB ns l):=by
 constructor
 ·have k:=zEZ l (fun t=>inN ns t.Name) (b:=zBm l ns) (by
   intro i hi
   unfold zBm
   rw [if_pos (by simp; omega),zK hi]
   simp only [Option.bind_some]
   rw [zDB _ _ hn,zQ (by omega)]
   simp only [Option.bind_some]
   have:(ns.any fun x=>seq x l[i].Name)=inN ns l[i].Name :=rfl
   rw [this]
   cases inN ns l[i].Name <;>rfl) (by
   unfold zBm
   rw [if_neg (by simp)])
  unfold jL zBK
  rw [k]
  unfold clB
  cases l.any (fun t=>inN ns t.Name)<;>rfl
 ·have k:=zHd l (fun t=>inN ns t.Name) (b:=yL l ns) (by
   intro i hi
   unfold yL jA
   rw [if_pos (by simp; omega),zK hi]
   simp only [Option.bind_some]
   rw [zD3 _ _ hn,zQ (by omega)]
   simp only [Option.bind_some]
   have:(ns.any fun x=>seq x l[i].Name)=inN ns l[i].Name :=rfl
   rw [this]
   cases inN ns l[i].Name <;>rfl) (by
   unfold yL
   rw [if_neg (by simp)])
  unfold wZ
  have e:zX l ns=some (clB ns l):=k
  rw [e]
  rfl
def zIb (c:List Pack) (a:List Int) (n1 n2:List ByteArray):Bool:=a.any fun k=>(pat c k).Needs.any fun l=>clB n1 l&&clB n2 l
theorem zIS {c:List Pack} {a:List Int} (hs:Sml c) (hp:Places c a) (ha:a.length≤1048576) {n1 n2:List ByteArray} (h1:n1.length≤1048576) (h2:n2.length≤1048576):uK c a n1 n2=some (zIb c a n1 n2):=by
 have k:=zEZ a (fun k=>(pat c k).Needs.any fun l=>clB n1 l&&clB n2 l) (b:=zAm c a n1 n2) (by
  intro i hi
  have hk:=hp _ (List.getElem_mem hi)
  have hN:=hs.needs a[i]
  have k2:=zEZ (pat c a[i]).Needs (fun l=>clB n1 l&&clB n2 l) (b:=zAt c a n1 n2 (i:Int) (pat c a[i])) (by
   intro j hj
   have hcl:=hs.clause a[i] _ (List.getElem_mem hj)
   unfold zAt
   rw [if_pos (by simp; omega),zK hj]
   simp only [Option.bind_some]
   rw [(zEv h1 (by omega)).1,(zEv h2 (by omega)).1,zQ (by omega)]
   simp only [Option.bind_some]
   cases clB n1 (pat c a[i]).Needs[j]<;>cases clB n2 (pat c a[i]).Needs[j]<;>rfl) (by
   unfold zAt
   rw [if_neg (by simp)])
  unfold zAm zAL
  rw [if_pos (by simp; omega),zK hi]
  simp only [Option.bind_some]
  rw [(uN hk).1]
  simp only [Option.bind_some]
  rw [k2,zQ (by omega)]
  cases (pat c a[i]).Needs.any (fun l=>clB n1 l&&clB n2 l)<;>rfl) (by
  unfold zAm
  rw [if_neg (by simp)])
 unfold uK zAW
 rw [k]
 unfold zIb
 cases a.any (fun k=>(pat c k).Needs.any fun l=>clB n1 l&&clB n2 l)<;>rfl
theorem zL4 {c:List Pack} {a:List Int} (hs:Sml c) (hp:Places c a) (ha:a.length≤1048576) {n1 n2:List ByteArray} (h1:n1.length≤1048576) (h2:n2.length≤1048576):loop (jD c n1 n2 a) 0=some (if zIb c a n1 n2 then .ret true else .nxt ()):=by
 exact zEZ a (fun k=>(pat c k).Needs.any fun l=>clB n1 l&&clB n2 l) (b:=jD c n1 n2 a) (by
  intro i hi
  have hk:=hp _ (List.getElem_mem hi)
  have hN:=hs.needs a[i]
  have k2:=zEZ (pat c a[i]).Needs (fun l=>clB n1 l&&clB n2 l) (b:=kJ c n1 n2 a (i:Int) (pat c a[i])) (by
   intro j hj
   have hcl:=hs.clause a[i] _ (List.getElem_mem hj)
   unfold kJ
   rw [if_pos (by simp; omega),zK hj]
   simp only [Option.bind_some]
   rw [(zEv h1 (by omega)).2,(zEv h2 (by omega)).2,zQ (by omega)]
   simp only [Option.bind_some]
   cases clB n1 (pat c a[i]).Needs[j]<;>cases clB n2 (pat c a[i]).Needs[j]<;>rfl) (by
   unfold kJ
   rw [if_neg (by simp)])
  unfold jD zAp
  rw [if_pos (by simp; omega),zK hi]
  simp only [Option.bind_some]
  rw [(uN hk).1]
  simp only [Option.bind_some]
  rw [k2,zQ (by omega)]
  cases (pat c a[i]).Needs.any (fun l=>clB n1 l&&clB n2 l)<;>rfl) (by
  unfold jD
  rw [if_neg (by simp)])
noncomputable def jB (c:List Pack) (a b:List Int) (x y:ByteArray):Bool:=
 zIU c a b x (nmL c a b y)||(zIU c a b y (nmL c a b x)||(zIb c a (nmL c a b x) (nmL c a b y)||zIb c b (nmL c a b x) (nmL c a b y)))
theorem zGk {c:List Pack} {a b:List Int} (h:Two c a b) (x y:ByteArray):uS c a b x y=some (jB c a b x y)∧wK c a b x y=some (jB c a b x y):=by
 obtain ⟨x1,x2,_,x3⟩:=zIm h x
 obtain ⟨y1,y2,_,y3⟩:=zIm h y
 have la:=h.la
 have lb:=h.lb
 constructor
 ·unfold uS jB
  rw [x1,y1]
  simp only [Option.bind_some]
  rw [(zFw h x y3).1,(zFw h y x3).1,zIS h.sml h.pa (by omega) x3 y3,zIS h.sml h.pb (by omega) x3 y3]
  simp only [Option.bind_some]
  cases zIU c a b x (nmL c a b y)<;>cases zIU c a b y (nmL c a b x)<;>cases zIb c a (nmL c a b x) (nmL c a b y)<;>rfl
 ·unfold wK jB zAw
  rw [x2,y2]
  simp only [Option.bind_some]
  rw [(zFw h x y3).2,(zFw h y x3).2,zKi (by omega) (by omega)]
  simp only [Option.bind_some]
  rw [zL4 h.sml (a:=a++b) (fun k hk=>by
   rcases List.mem_append.1 hk with q|q
   ·exact h.pa _ q
   ·exact h.pb _ q) (by simp; omega) x3 y3]
  have e:zIb c (a++b) (nmL c a b x) (nmL c a b y)=(zIb c a (nmL c a b x) (nmL c a b y)||zIb c b (nmL c a b x) (nmL c a b y)):=by
   unfold zIb; rw [List.any_append]
  rw [e]
  cases zIU c a b x (nmL c a b y)<;>cases zIU c a b y (nmL c a b x)<;>cases zIb c a (nmL c a b x) (nmL c a b y)<;>cases zIb c b (nmL c a b x) (nmL c a b y)<;>rfl
theorem zGs {c:List Pack} {a:List Int} (ga:GoodS c a) {k:Int} (hk:k∈a):zCR c a (vO c k)=k:=by
 rcases zA5 c a (vO c k) with ⟨_,q⟩|⟨q1,q2⟩
 ·exact absurd rfl (q k hk)
 ·exact ga.one q1 hk q2
theorem zFf {c:List Pack} {a b:List Int} (h:Two c a b) (ga:GoodS c a) (gb:GoodS c b) {n:ByteArray} {p:Pack}:p∈zCm c a b n↔∃k,(k∈a∨k∈b)∧vO c k=n∧p=pat c k:=by
 constructor
 ·exact zGm
 ·rintro ⟨k,hk|hk,rfl,rfl⟩
  ·have e:=zGs ga hk
   have:=h.pa k hk
   unfold zCm
   rw [e,if_pos (by simp; omega)]
   simp
  ·have e:=zGs gb hk
   have:=h.pb k hk
   unfold zCm
   rw [e]
   refine List.mem_append_right _ ?_
   rw [if_pos (by simp; omega)]
   simp
theorem zIK {c:List Pack} {a b:List Int} (h:Two c a b) (ga:GoodS c a) (gb:GoodS c b) {x n:ByteArray}:n∈nmL c a b x↔Nms c a b x n:=by
 rw [(zIm h x).2.2.1]
 unfold Nms
 constructor
 ·rintro (q|⟨p,hp,q⟩)
  ·exact .inl q
  ·obtain ⟨k,h1,h2,rfl⟩:=(zFf h ga gb).1 hp
   exact .inr ⟨k,h1,h2,q⟩
 ·rintro (q|⟨k,h1,h2,q⟩)
  ·exact .inl q
  ·exact .inr ⟨_,(zFf h ga gb).2 ⟨k,h1,h2,rfl⟩,q⟩
theorem zKm {c:List Pack} {a b:List Int} (h:Two c a b) (ga:GoodS c a) (gb:GoodS c b) {x y:ByteArray}:zIU c a b x (nmL c a b y)=true↔Tch c a b x y:=by
 unfold zIU Tch
 rw [List.any_eq_true]
 constructor
 ·rintro ⟨p,hp,q⟩
  obtain ⟨k,h1,h2,rfl⟩:=(zFf h ga gb).1 hp
  obtain ⟨n,q1,q2⟩:=List.any_eq_true.1 q
  refine ⟨k,h1,h2,n,?_,(zIK h ga gb).1 (zDN.1 q2)⟩
  exact ((zIC (h.sml.needs k) (h.sml.clause k) (h.sml.bars k)).2.2.1 n).1 q1
 ·rintro ⟨k,h1,h2,n,q1,q2⟩
  refine ⟨_,(zFf h ga gb).2 ⟨k,h1,h2,rfl⟩,List.any_eq_true.2 ⟨n,?_,zDN.2 ((zIK h ga gb).2 q2)⟩⟩
  exact ((zIC (h.sml.needs k) (h.sml.clause k) (h.sml.bars k)).2.2.1 n).2 q1
theorem zIW {c:List Pack} {a b:List Int} (h:Two c a b) (ga:GoodS c a) (gb:GoodS c b) {x:ByteArray} {l:List Term}:clB (nmL c a b x) l=true↔∃t∈l,Nms c a b x t.Name:=by
 unfold clB
 rw [List.any_eq_true]
 constructor
 ·rintro ⟨t,h1,h2⟩; exact ⟨t,h1,(zIK h ga gb).1 (zDN.1 h2)⟩
 ·rintro ⟨t,h1,h2⟩; exact ⟨t,h1,zDN.2 ((zIK h ga gb).2 h2)⟩
theorem zIZ {c:List Pack} {a b:List Int} (h:Two c a b) (ga:GoodS c a) (gb:GoodS c b) {x y:ByteArray} {s:List Int}:zIb c s (nmL c a b x) (nmL c a b y)=true↔∃k∈s,∃l∈(pat c k).Needs,(∃t∈l,Nms c a b x t.Name)∧∃t∈l,Nms c a b y t.Name:=by
 unfold zIb
 rw [List.any_eq_true]
 constructor
 ·rintro ⟨k,h1,h2⟩
  obtain ⟨l,h3,h4⟩:=List.any_eq_true.1 h2
  simp only [Bool.and_eq_true] at h4
  exact ⟨k,h1,l,h3,(zIW h ga gb).1 h4.1,(zIW h ga gb).1 h4.2⟩
 ·rintro ⟨k,h1,l,h3,h4,h5⟩
  exact ⟨k,h1,List.any_eq_true.2 ⟨l,h3,by simp only [Bool.and_eq_true]; exact ⟨(zIW h ga gb).2 h4,(zIW h ga gb).2 h5⟩⟩⟩
theorem zMU {c:List Pack} {a b:List Int} (h:Two c a b) (ga:GoodS c a) (gb:GoodS c b) {x y:ByteArray}:jB c a b x y=true↔Joi c a b x y:=by
 unfold jB Joi
 simp only [Bool.or_eq_true]
 rw [zKm h ga gb,zKm h ga gb,zIZ h ga gb,zIZ h ga gb]
 constructor
 ·rintro (q|q|⟨k,h1,q⟩|⟨k,h1,q⟩)
  ·exact .inl q
  ·exact .inr (.inl q)
  ·exact .inr (.inr ⟨k,.inl h1,q⟩)
  ·exact .inr (.inr ⟨k,.inr h1,q⟩)
 ·rintro (q|q|⟨k,h1|h1,q⟩)
  ·exact .inl q
  ·exact .inr (.inl q)
  ·exact .inr (.inr (.inl ⟨k,h1,q⟩))
  ·exact .inr (.inr (.inr ⟨k,h1,q⟩))
theorem zMm {c:List Pack} {a b:List Int} (h:Two c a b) (ga:GoodS c a) (gb:GoodS c b) {n:ByteArray}:zCR c a n≠zCR c b n↔Chg c a b n:=by
 constructor
 ·intro hne
  rcases zA5 c a n with ⟨q1,q2⟩|⟨q1,q2⟩
  ·rcases zA5 c b n with ⟨q3,_⟩|⟨q3,q4⟩
   ·exact absurd (q1.trans q3.symm) hne
   ·exact ⟨_,q4,.inr ⟨q3,fun h=>q2 _ h q4⟩⟩
  ·refine ⟨_,q2,.inl ⟨q1,fun hb=>hne ?_⟩⟩
   have:=zGs gb hb
   rw [q2] at this
   exact this.symm
 ·rintro ⟨k,rfl,⟨h1,h2⟩|⟨h1,h2⟩⟩ e
  ·rw [zGs ga h1] at e
   have:=h.pa k h1
   rcases zA5 c b (vO c k) with ⟨q1,q2⟩|⟨q1,q2⟩
   ·omega
   ·rw [←e] at q1; exact h2 q1
  ·rw [zGs gb h1] at e
   have:=h.pb k h1
   rcases zA5 c a (vO c k) with ⟨q1,q2⟩|⟨q1,q2⟩
   ·omega
   ·rw [e] at q1; exact h2 q1
inductive Rch (K:ByteArray→ByteArray→Bool) (L:List ByteArray) (h:ByteArray):ByteArray→Prop where
 |base:Rch K L h h
 |step {x y:ByteArray}:Rch K L h x→y∈L→K x y=true→Rch K L h y
noncomputable def zDS (K:ByteArray→ByteArray→Bool) (L:List ByteArray):List ByteArray:=L.filter fun y=> @decide (Rch K L (L.headD ByteArray.empty) y) (Classical.propDecidable _)
noncomputable def zEg (K:ByteArray→ByteArray→Bool) (L:List ByteArray):List ByteArray:=L.filter fun y=> !(@decide (Rch K L (L.headD ByteArray.empty) y) (Classical.propDecidable _))
theorem Rch.mem {K:ByteArray→ByteArray→Bool} {L:List ByteArray} {h x:ByteArray} (hh:h∈L) (r:Rch K L h x):x∈L:=by
 cases r with
 |base=>exact hh
 |step _ h2 _=>exact h2
theorem zEC {K:ByteArray→ByteArray→Bool} {L:List ByteArray} {h:ByteArray} {t:List ByteArray} (e:L=h::t) {x:ByteArray}:x∈zDS K L↔Rch K L h x:=by
 unfold zDS
 rw [List.mem_filter]
 have:L.headD ByteArray.empty=h:=by rw [e]; rfl
 rw [this]
 simp only [decide_eq_true_eq]
 exact ⟨fun h=>h.2,fun r=>⟨r.mem (by rw [e]; simp),r⟩⟩
theorem zFs {K:ByteArray→ByteArray→Bool} {L:List ByteArray} {h:ByteArray} {t:List ByteArray} (e:L=h::t) {x:ByteArray}:x∈zEg K L↔x∈L∧¬Rch K L h x:=by
 unfold zEg
 rw [List.mem_filter]
 have:L.headD ByteArray.empty=h:=by rw [e]; rfl
 rw [this]
 simp
theorem zFJ {K:ByteArray→ByteArray→Bool} {L:List ByteArray} {h:ByteArray} {t:List ByteArray} (e:L=h::t):(zEg K L).length <L.length:=by
 have hne:zEg K L≠L:=fun he=>by
  have:h∈zEg K L:=by rw [he,e]; simp
  exact ((zFs e).1 this).2 .base
 have hs:(zEg K L).Sublist L:=List.filter_sublist
 rcases Nat.lt_or_ge (zEg K L).length L.length with q|q
 ·exact q
 ·exact absurd (hs.eq_of_length (Nat.le_antisymm hs.length_le q)) hne
theorem zKt {P L:List ByteArray} (hP:P.Pairwise ltS) (hL:L.Pairwise ltS) (h:∀x∈P,x∈L):P.length≤L.length:=by
 have e:P=L.filter (inN P):=zCK hP (hL.filter _) fun x=>by
  rw [List.mem_filter,zDN]
  exact ⟨fun hx=>⟨h x hx,hx⟩,fun hx=>hx.2⟩
 rw [e]
 exact List.length_filter_le _ _
theorem zJ7 {K:ByteArray→ByteArray→Bool} {c:List Pack} {a b:List Int} (hJ:∀x y,uS c a b x y=some (K x y)) {L P:List ByteArray} {out:List (List ByteArray)} {s3:List ByteArray×Bool×Int} {i:Nat} (hi:i<L.length) (hs3:s3.2.2=(i:Int)) (hP:P.Pairwise ltS) (hl:P.length≤1000) (g:Bool):
  ∃t,loop (zCe c a b (L,out) s3) (P,g,0)=some t∧t.1.Pairwise ltS∧((t=(P,g)∧(L[i]∈P∨∀x∈P,K x L[i]=false))∨(L[i]∉P∧(∃x∈P,K x L[i]=true)∧t.2=true∧(∀z,z∈t.1↔z∈P∨z=L[i])∧t.1.length=P.length+1)):=by
 let Q:List ByteArray×Bool→Prop:=fun t=>t.1.Pairwise ltS∧((t=(P,g)∧(L[i]∈P∨∀x∈P,K x L[i]=false))∨(L[i]∉P∧(∃x∈P,K x L[i]=true)∧t.2=true∧(∀z,z∈t.1↔z∈P∨z=L[i])∧t.1.length=P.length+1))
 refine vQ (b:=zCe c a b (L,out) s3)
  (fun k s=>s.2.2=(k:Int)∧k≤P.length+1∧((s.1=P∧s.2.1=g∧k≤P.length∧(∀(j:Nat) (hj:j<P.length),j<k→K P[j] L[i]=false))∨(s.1.Pairwise ltS∧L[i]∉P∧(∃x∈P,K x L[i]=true)∧s.2.1=true∧(∀z,z∈s.1↔z∈P∨z=L[i])∧s.1.length=P.length+1))) (P.length+2) Q (by
  rintro k ⟨p,g',k'⟩ hk ⟨hk',hle,hcase⟩
  simp only at hk' hcase
  subst hk'
  have hix:idx L s3.2.2=some L[i]:=by rw [hs3]; exact zK hi
  unfold zCe
  simp only
  rcases hcase with ⟨rfl,rfl,hkp,hno⟩|⟨h1,h2,h3,h4,h5,h6⟩
  ·by_cases hkl:k<p.length
   ·rw [if_pos (by simp; omega),hix]
    simp only [Option.bind_some]
    rw [zDB _ _ (by omega)]
    have hq:(p.any fun x=>seq x L[i])=inN p L[i]:=rfl
    rw [hq]
    simp only [Option.bind_some]
    cases hin:inN p L[i]
    ·simp only [Bool.not_false,if_true]
     have hnin:L[i]∉p:=fun h=>by rw [zDN.2 h] at hin; cases hin
     rw [zK hkl]
     simp only [Option.bind_some]
     rw [hJ]
     simp only [Option.bind_some]
     cases hj:K p[k] L[i]
     ·simp only [Bool.false_eq_true,if_false,Option.bind_some]
      rw [zQ (by omega)]
      refine .inl ⟨_,rfl,rfl,by omega,.inl ⟨rfl,rfl,by omega,fun j hj' hjk=>?_⟩⟩
      rcases Nat.lt_succ_iff_lt_or_eq.1 hjk with q|q
      ·exact hno j hj' q
      ·subst q; exact hj
     ·simp only [if_true]
      obtain ⟨r,e1,e2,e3,e4⟩:=zFW p L[i] hP (by omega)
      rw [e1]
      simp only [Option.bind_some]
      rw [zQ (by omega)]
      refine .inl ⟨_,rfl,rfl,by omega,.inr ⟨e2,hnin,⟨_,List.getElem_mem hkl,hj⟩,rfl,e3,?_⟩⟩
      have hnd:∀{l:List ByteArray},l.Pairwise ltS→l.Nodup:=fun h=>h.imp fun h=>zHD h
      have:r.Perm (L[i]::p):=(List.perm_ext_iff_of_nodup (hnd e2) (List.nodup_cons.2 ⟨hnin,hnd hP⟩)).2 fun z=>by
       rw [e3,List.mem_cons]; exact Or.comm
      rw [this.length_eq]
      rfl
    ·simp only [Bool.not_true,Bool.false_eq_true,if_false]
     exact .inr ⟨_,rfl,hP,.inl ⟨rfl,.inl (zDN.1 hin)⟩⟩
   ·rw [if_neg (by simp; omega)]
    simp only [Option.bind_some,Bool.false_eq_true,if_false]
    refine .inr ⟨_,rfl,hP,.inl ⟨rfl,.inr fun x hx=>?_⟩⟩
    obtain ⟨j,hj,rfl⟩:=List.getElem_of_mem hx
    exact hno j hj (by omega)
  ·refine .inr ⟨(p,g'),?_,h1,.inr ⟨h2,h3,h4,h5,h6⟩⟩
   by_cases hkl:k<p.length
   ·rw [if_pos (by simp; omega),hix]
    simp only [Option.bind_some]
    rw [zDB _ _ (by omega)]
    have hq:(p.any fun x=>seq x L[i])=true:=by
     show inN p L[i]=true
     exact zDN.2 ((h5 _).2 (.inr rfl))
    rw [hq]
    simp
   ·rw [if_neg (by simp; omega)]
    simp) (by
  rintro ⟨p,g',k'⟩ ⟨hk',hle,_⟩
  omega) (P.length+2) 0 (P,g,0) (by omega) ⟨rfl,by omega,.inl ⟨rfl,rfl,by omega,fun j hj h=>by omega⟩⟩
theorem zJE {K:ByteArray→ByteArray→Bool} {c:List Pack} {a b:List Int} (hJ:∀x y,uS c a b x y=some (K x y)) {L P:List ByteArray} {h:ByteArray} {out:List (List ByteArray)} (hL:L.Pairwise ltS) (hl:L.length≤500) (hP:P.Pairwise ltS) (hsub:∀x∈P,Rch K L h x) (hh:h∈L):
  ∃t,loop (zA6 c a b (L,out)) (P,false,0)=some t∧t.1.Pairwise ltS∧(∀x∈P,x∈t.1)∧(∀x∈t.1,Rch K L h x)∧(t.2=true→P.length<t.1.length)∧(t.2=false→t.1=P∧∀y∈L,y∈P∨∀x∈P,K x y=false):=by
 refine vQ (b:=zA6 c a b (L,out))
  (fun i s=>s.2.2=(i:Int)∧s.1.Pairwise ltS∧(∀x∈P,x∈s.1)∧(∀x∈s.1,Rch K L h x)∧(s.2.1=true→P.length<s.1.length)∧P.length≤s.1.length∧(s.2.1=false→s.1=P∧∀y∈L.take i,y∈P∨∀x∈P,K x y=false)) L.length _ (by
  rintro i ⟨p,g,k⟩ hi ⟨hk,h1,h2,h3,h4,h5,h6⟩
  simp only at hk h1 h2 h3 h4 h5 h6
  subst hk
  refine .inl ?_
  have hpl:=zKt h1 hL (fun x hx=>(h3 x hx).mem hh)
  obtain ⟨⟨p',g'⟩,e,q1,q2⟩:=zJ7 hJ (out:=out) (s3:=(p,g,(i:Int))) hi rfl h1 (by omega) g
  unfold zA6 zCC
  rw [if_pos (by simp; omega)]
  simp only
  rw [e,zQ (by omega)]
  refine ⟨_,rfl,rfl,q1,?_⟩
  simp only at q1 q2 ⊢
  rcases q2 with ⟨q3,q4⟩|⟨q3,⟨x0,q4,q5⟩,q6,q7,q8⟩
  ·cases q3
   refine ⟨h2,h3,h4,h5,fun hg=>?_⟩
   obtain ⟨rfl,h8⟩:=h6 hg
   refine ⟨rfl,fun y hy=>?_⟩
   rw [List.take_succ_eq_append_getElem hi] at hy
   rcases List.mem_append.1 hy with hy|hy
   ·exact h8 y hy
   ·simp at hy; subst hy; exact q4
  ·refine ⟨fun x hx=>(q7 x).2 (.inl (h2 x hx)),fun x hx=>?_,fun _=>by omega,by omega,fun hg=>?_⟩
   ·rcases (q7 x).1 hx with hx|rfl
    ·exact h3 x hx
    ·exact .step (h3 _ q4) (List.getElem_mem hi) q5
   ·rw [q6] at hg; cases hg) (by
  rintro ⟨p,g,k⟩ ⟨hk,h1,h2,h3,h4,h5,h6⟩
  simp only at hk h1 h2 h3 h4 h5 h6
  subst hk
  rw [List.take_length] at h6
  unfold zA6
  rw [if_neg (by simp)]
  exact ⟨_,rfl,h1,h2,h3,h4,h6⟩) L.length 0 (P,false,0) (by omega) ⟨rfl,hP,fun x hx=>hx,hsub,by simp,Nat.le_refl _,fun _=>⟨rfl,by simp⟩⟩
theorem zJT {K:ByteArray→ByteArray→Bool} {c:List Pack} {a b:List Int} (hJ:∀x y,uS c a b x y=some (K x y)) {L:List ByteArray} {h:ByteArray} {t:List ByteArray} {out:List (List ByteArray)} (e0:L=h::t) (hL:L.Pairwise ltS) (hl:L.length≤500):zB0 c a b (L,out) ([h],true)=some (zDS K L):=by
 have hh:h∈L:=by rw [e0]; simp
 obtain ⟨r,e,h1,h2,h3,h4⟩:=zFS (b:=zDj c a b (L,out)) (fun s=>s.1.Pairwise ltS∧h∈s.1∧(∀x∈s.1,Rch K L h x)∧(s.2=false→∀y∈L,y∈s.1∨∀x∈s.1,K x y=false))
  (fun s=>(L.length-s.1.length)*2+(if s.2 then 1 else 0)) (fun t=>t.Pairwise ltS∧h∈t∧(∀x∈t,Rch K L h x)∧∀y∈L,y∈t∨∀x∈t,K x y=false) (by
  rintro ⟨p,g⟩ ⟨g1,g2,g3,g4⟩
  simp only at g1 g2 g3 g4
  unfold zDj
  simp only
  cases g
  ·rw [if_neg (by simp)]
   exact .inr ⟨_,rfl,g1,g2,g3,g4 rfl⟩
  ·rw [if_pos rfl]
   obtain ⟨⟨p',g'⟩,e,q1,q2,q3,q4,q5⟩:=zJE hJ (out:=out) hL hl g1 g3 hh
   simp only at q1 q2 q3 q4 q5
   unfold zC3
   rw [e]
   have hpl:=zKt q1 hL (fun x hx=>(q3 x hx).mem hh)
   refine .inl ⟨_,rfl,⟨q1,q2 _ g2,q3,fun hg=>?_⟩,?_⟩
   ·obtain ⟨rfl,q6⟩:=q5 hg
    exact q6
   ·simp only
    cases g'
    ·obtain ⟨rfl,_⟩:=q5 rfl
     simp
    ·have:=q4 rfl
     simp
     omega) _ ([h],true) (Nat.le_refl _) ⟨by simp,by simp,fun x hx=>by simp at hx; subst hx; exact .base,by simp⟩
 unfold zB0
 rw [e]
 congr 1
 refine zCK h1 (hL.filter _) fun x=>?_
 show x∈r↔x∈zDS K L
 rw [zEC e0]
 refine ⟨h3 x,fun hr=>?_⟩
 induction hr with
 |base=>exact h2
 |step _ hy hj ih=>
  rcases h4 _ hy with q|q
  ·exact q
  ·rw [q _ ih] at hj; cases hj
theorem zKE {K:ByteArray→ByteArray→Bool} {c:List Pack} {a b:List Int} {L:List ByteArray} {h:ByteArray} {t:List ByteArray} {out:List (List ByteArray)} (e0:L=h::t) (hl:L.length≤500):zBk c a b (L,out) (zDS K L) (([]:List ByteArray),0)=some (zEg K L):=by
 have hpl:(zDS K L).length ≤L.length:=List.length_filter_le _ _
 obtain ⟨r,e,rfl⟩:=vQ (b:=zBJ c a b (L,out) (zDS K L)) (fun i s=>s.2=(i:Int)∧s.1=(L.take i).filter (fun y=> !(inN (zDS K L) y))) L.length (fun t=>t=L.filter (fun y=> !(inN (zDS K L) y))) (by
  rintro i ⟨l,k⟩ hi ⟨hk,hl'⟩
  simp only at hk hl'
  subst hk hl'
  refine .inl ?_
  have hlen:((L.take i).filter (fun y=> !(inN (zDS K L) y))).length ≤i:=by
   have:=List.length_filter_le (fun y=> !(inN (zDS K L) y)) (L.take i)
   simp at this ⊢
   omega
  unfold zBJ
  simp only
  rw [if_pos (by simp; omega),zK hi]
  simp only [Option.bind_some]
  rw [zDB _ _ (by omega),zQ (by omega),uR (by simp at hlen ⊢; omega) (by simp at hlen ⊢; omega)]
  have hq:((zDS K L).any fun x=>seq x L[i])=inN (zDS K L) L[i]:=rfl
  rw [hq]
  simp only [Option.bind_some]
  refine ⟨((L.take (i+1)).filter (fun y=> !(inN (zDS K L) y)),((i+1:Nat):Int)),?_,rfl,rfl⟩
  rw [List.take_succ_eq_append_getElem hi,List.filter_append,List.filter_cons,List.filter_nil]
  cases inN (zDS K L) L[i]<;>simp) (by
  rintro ⟨l,k⟩ ⟨hk,hl'⟩
  simp only at hk hl'
  subst hk hl'
  rw [List.take_length]
  unfold zBJ
  rw [if_neg (by simp)]
  exact ⟨_,rfl,rfl⟩) L.length 0 (([]:List ByteArray),0) (by omega) ⟨rfl,by simp⟩
 unfold zBk
 rw [e]
 congr 1
 unfold zEg
 refine List.filter_congr fun y hy=>?_
 have hd:L.headD ByteArray.empty=h:=by rw [e0]; rfl
 rw [hd]
 congr 1
 rw [Bool.eq_iff_iff,zDN,zEC e0]
 exact (@decide_eq_true_iff _ (Classical.propDecidable _)).symm
theorem zE8 {K:ByteArray→ByteArray→Bool} {c:List Pack} {a b:List Int} (hJ:∀x y,uS c a b x y=some (K x y)) {L:List ByteArray} {out:List (List ByteArray)} (hL:L.Pairwise ltS) (hl:L.length≤500) (ho:out.length≤500):zCd c a b (L,out)=some (if L=[] then .done out else .go (zEg K L,out++[zDS K L])):=by
 cases L with
 |nil=>
  unfold zCd
  rw [if_neg (by simp),if_pos rfl]
 |cons h t=>
  unfold zCd
  rw [if_pos (by simp),if_neg (by simp)]
  simp only
  rw [show idx (h::t) 0=some h from rfl]
  simp only [Option.bind_some]
  rw [zJT hJ rfl hL hl]
  simp only [Option.bind_some]
  rw [zKE rfl hl]
  simp only [Option.bind_some]
  rw [uR (by simp; omega) (by simp; omega)]
  rfl
noncomputable def zBn (K:ByteArray→ByteArray→Bool):Nat→List ByteArray→List (List ByteArray)
 |0,_=>[]
 |n+1,L=>if L=[] then [] else zDS K L::zBn K n (zEg K L)
theorem zEd {K:ByteArray→ByteArray→Bool} {L:List ByteArray} (h:L.Pairwise ltS):(zEg K L).Pairwise ltS:=h.filter _
theorem zFE {K:ByteArray→ByteArray→Bool} {L:List ByteArray} (h:L.Pairwise ltS):(zDS K L).Pairwise ltS:=h.filter _
theorem zE6 {K:ByteArray→ByteArray→Bool} {c:List Pack} {a b:List Int} (hJ:∀x y,uS c a b x y=some (K x y)):∀(n:Nat) (L:List ByteArray) (out:List (List ByteArray)),L.Pairwise ltS→L.length≤n→L.length+out.length≤500→jY c a b (L,out)=some (out++zBn K n L)
 |0,L,out,h1,h2,h3=>by
  have:L=[]:=List.length_eq_zero_iff.1 (by omega)
  subst this
  unfold jY
  rw [vP,zE8 hJ h1 (by simp) (by omega)]
  simp [zBn,Lp.elim]
 |n+1,L,out,h1,h2,h3=>by
  unfold jY
  rw [vP,zE8 hJ h1 (by omega) (by omega)]
  cases L with
  |nil=>simp [zBn,Lp.elim]
  |cons h t=>
   have hlt:=zFJ (K:=K) (L:=h::t) rfl
   have ih:=zE6 hJ n (zEg K (h::t)) (out++[zDS K (h::t)]) (zEd h1) (by omega) (by simp at h3 hlt ⊢; omega)
   rw [if_neg (by simp)]
   simp only [Option.bind_some,Lp.elim]
   unfold jY at ih
   rw [ih]
   simp [zBn]
theorem zEK {α:Type} (q:α→Bool):∀l:List α,(l.filter q).length +(l.filter fun x=> !(q x)).length =l.length
 |[]=>rfl
 |x::l=>by
  have:=zEK q l
  cases h:q x<;>simp [h]<;>omega
theorem ranged {K:ByteArray→ByteArray→Bool} {c:List Pack} {a b:List Int} (hK:∀x y,wK c a b x y=some (K x y)) {s1:List (List ByteArray)×List ByteArray} {left part:List ByteArray} {i:Nat} (hi:i<part.length) (hl:left.length+part.length≤500):
  zBp c a b s1 (left,part,(i:Int)) (part,([]:List ByteArray),0)=some (part++left.filter (K part[i]),left.filter fun y=> !(K part[i] y)):=by
 obtain ⟨t,e,rfl⟩:=vQ (b:=zBW c a b s1 (left,part,(i:Int))) (fun k s=>s=(part++(left.take k).filter (K part[i]),(left.take k).filter (fun y=> !(K part[i] y)),(k:Int))) left.length
  (fun t=>t=(part++left.filter (K part[i]),left.filter fun y=> !(K part[i] y))) (by
  rintro k s hk rfl
  have hf:=zEK (K part[i]) (left.take k)
  have htk:(left.take k).length ≤k:=by simp; omega
  refine .inl ⟨(part++(left.take (k+1)).filter (K part[i]),(left.take (k+1)).filter (fun y=> !(K part[i] y)),((k+1:Nat):Int)),?_,rfl⟩
  unfold zBW
  simp only
  rw [if_pos (by simp; omega),zK hk]
  simp only [Option.bind_some]
  have hix:idx (part++(left.take k).filter (K part[i])) (i:Int)=some part[i]:=by
   rw [zK (by simp; omega),List.getElem_append_left hi]
  rw [hix]
  simp only [Option.bind_some]
  rw [hK,zQ (by omega),uR (by simp at hf htk ⊢; omega) (by simp at hf htk ⊢; omega),uR (by simp at hf htk ⊢; omega) (by simp at hf htk ⊢; omega)]
  simp only [Option.bind_some]
  rw [List.take_succ_eq_append_getElem hk,List.filter_append,List.filter_append]
  cases hj:K part[i] left[k]<;>simp [hj]) (by
  rintro s rfl
  rw [List.take_length]
  unfold zBW
  rw [if_neg (by simp)]
  exact ⟨_,rfl,rfl⟩) left.length 0 (part,([]:List ByteArray),0) (by omega) (by simp)
 unfold zBp
 exact e
theorem zLY {K:ByteArray→ByteArray→Bool} {c:List Pack} {a b:List Int} (hK:∀x y,wK c a b x y=some (K x y)) {out:List (List ByteArray)} {h:ByteArray} {t:List ByteArray} (hl:t.length≤500):
  zB4 c a b (out,h::t) t ([h],([]:List ByteArray),0)=some (h::t.filter (K h),t.filter fun y=> !(K h y)):=by
 obtain ⟨r,e,rfl⟩:=vQ (b:=zBI c a b (out,h::t) t) (fun k s=>s=(h::(t.take k).filter (K h),(t.take k).filter (fun y=> !(K h y)),(k:Int))) t.length
  (fun r=>r=(h::t.filter (K h),t.filter fun y=> !(K h y))) (by
  rintro k s hk rfl
  have hf:=zEK (K h) (t.take k)
  have htk:(t.take k).length ≤k:=by simp; omega
  refine .inl ⟨(h::(t.take (k+1)).filter (K h),(t.take (k+1)).filter (fun y=> !(K h y)),((k+1:Nat):Int)),?_,rfl⟩
  unfold zBI
  simp only
  have ho:zJf (h::t) 1 t.length (k:Int)=some t[k]:=by
   unfold zJf
   rw [if_pos (by omega),show (1:Int)+(k:Int)=((k+1:Nat):Int) by omega,zK (by simp; omega)]
   simp
  rw [if_pos (by simp; omega),ho]
  simp only [Option.bind_some]
  rw [show idx (h::(t.take k).filter (K h)) 0=some h from rfl]
  simp only [Option.bind_some]
  rw [hK,zQ (by omega),uR (by simp at hf htk ⊢; omega) (by simp at hf htk ⊢; omega),uR (by simp at hf htk ⊢; omega) (by simp at hf htk ⊢; omega)]
  simp only [Option.bind_some]
  rw [List.take_succ_eq_append_getElem hk,List.filter_append,List.filter_append]
  cases hj:K h t[k]<;>simp [hj]) (by
  rintro s rfl
  rw [List.take_length]
  unfold zBI
  rw [if_neg (by simp)]
  exact ⟨_,rfl,rfl⟩) t.length 0 ([h],([]:List ByteArray),0) (by omega) (by simp)
 unfold zB4
 exact e
theorem zJS {K:ByteArray→ByteArray→Bool} {c:List Pack} {a b:List Int} (hK:∀x y,wK c a b x y=some (K x y)) {s1:List (List ByteArray)×List ByteArray} {L:List ByteArray} {h:ByteArray} {t:List ByteArray} (e0:L=h::t) (hL:L.Pairwise ltS) (hl:L.length≤250):
  ∃r,zB6 c a b s1 (t.filter (fun y=> !(K h y)),h::t.filter (K h),((1:Nat):Int))=some (zEg K L,r)∧uH r=some (zDS K L):=by
 have nd:∀{l:List ByteArray},l.Pairwise ltS→l.Nodup:=fun h=>h.imp fun h=>zHD h
 have hLn:=nd hL
 have hLn':=hLn
 rw [e0,List.nodup_cons] at hLn'
 obtain ⟨⟨l,r⟩,e,q1,q2,q3⟩:=zFS (b:=zDm c a b s1)
  (fun s=>∃n:Nat,s.2.2=(n:Int)∧n≤s.2.1.length∧s.2.1.Nodup∧(∀x∈s.2.1,Rch K L h x)∧h∈s.2.1∧s.1.Sublist L∧(∀x,x∈L↔x∈s.2.1∨x∈s.1)∧(∀x∈s.2.1,x∉s.1)∧s.2.1.length+s.1.length=L.length∧∀(j:Nat) (hj:j<s.2.1.length),j<n→∀y∈s.1,K s.2.1[j] y=false)
  (fun s=>L.length+1-s.2.2.toNat) (fun t=>t.1=zEg K L∧(∀x,x∈t.2↔Rch K L h x)∧t.2.length≤L.length) (by
  rintro ⟨left,part,i⟩ ⟨n,hi,h1,h2,h3,h4,h5,h6,h7,h8,h9⟩
  simp only at hi h1 h2 h3 h4 h5 h6 h7 h8 h9
  subst hi
  unfold zDm
  simp only
  by_cases hn:n<part.length
  ·rw [if_pos (by simp; omega),ranged hK hn (by omega),zQ (by omega)]
   simp only [Option.bind_some]
   have hf:=zEK (K part[n]) left
   refine .inl ⟨_,rfl,⟨n+1,rfl,by simp; omega,?_,?_,List.mem_append_left _ h4,(List.filter_sublist).trans h5,?_,?_,by simp at hf ⊢; omega,?_⟩,by simp; omega⟩
   ·refine List.nodup_append.2 ⟨h2,((h5.nodup hLn).filter _),fun x hx y hy e=>?_⟩
    subst e
    exact h7 x hx (List.mem_filter.1 hy).1
   ·intro x hx
    rcases List.mem_append.1 hx with hx|hx
    ·exact h3 x hx
    ·obtain ⟨q1,q2⟩:=List.mem_filter.1 hx
     exact .step (h3 _ (List.getElem_mem hn)) ((h6 x).2 (.inr q1)) q2
   ·intro x
    rw [h6,List.mem_append,List.mem_filter,List.mem_filter]
    cases hq:K part[n] x<;>simp
   ·intro x hx
    simp only [List.mem_filter,not_and]
    rcases List.mem_append.1 hx with hx|hx
    ·exact fun h=>absurd h (h7 x hx)
    ·intro _
     rw [(List.mem_filter.1 hx).2]
     simp
   ·intro j hj hjn y hy
    obtain ⟨q1,q2⟩:=List.mem_filter.1 hy
    rcases Nat.lt_succ_iff_lt_or_eq.1 hjn with q|q
    ·rw [List.getElem_append_left (by omega)]
     exact h9 j (by omega) q y q1
    ·subst q
     rw [List.getElem_append_left hn]
     simpa using q2
  ·rw [if_neg (by simp; omega)]
   refine .inr ⟨_,rfl,?_,?_,by simp only; omega⟩
   ·have hmem:∀x,x∈part↔Rch K L h x:=by
     intro x
     refine ⟨h3 x,fun hr=>?_⟩
     induction hr with
     |base=>exact h4
     |step _ hy hj ih=>
      rcases (h6 _).1 hy with q|q
      ·exact q
      ·obtain ⟨j,hjl,rfl⟩:=List.getElem_of_mem ih
       rw [h9 j hjl (by omega) _ q] at hj
       cases hj
    refine zCK (hL.sublist h5) (zEd hL) fun x=>?_
    rw [zFs e0,←hmem,h6]
    constructor
    ·exact fun q=>⟨.inr q,fun q2=>h7 x q2 q⟩
    ·rintro ⟨q|q,q2⟩
     ·exact absurd q q2
     ·exact q
   ·intro x
    refine ⟨h3 x,fun hr=>?_⟩
    induction hr with
    |base=>exact h4
    |step _ hy hj ih=>
     rcases (h6 _).1 hy with q|q
     ·exact q
     ·obtain ⟨j,hjl,rfl⟩:=List.getElem_of_mem ih
      have hjl':j<part.length:=hjl
      rw [h9 j hjl' (by omega) _ q] at hj
      cases hj) _ (t.filter (fun y=> !(K h y)),h::t.filter (K h),((1:Nat):Int)) (Nat.le_refl _) (by
  have hf:=zEK (K h) t
  refine ⟨1,rfl,by simp,?_,?_,by simp,?_,?_,?_,by rw [e0]; simp at hf ⊢; omega,?_⟩
  ·exact List.nodup_cons.2 ⟨fun hx=>hLn'.1 (List.mem_filter.1 hx).1,hLn'.2.filter _⟩
  ·intro x hx
   rcases List.mem_cons.1 hx with rfl|hx
   ·exact .base
   ·obtain ⟨q1,q2⟩:=List.mem_filter.1 hx
    exact .step .base (by rw [e0]; simp [q1]) q2
  ·rw [e0]
   exact (List.filter_sublist).cons _
  ·intro x
   rw [e0,List.mem_cons,List.mem_cons,List.mem_filter,List.mem_filter]
   cases hq:K h x<;>simp
  ·intro x hx
   simp only [List.mem_filter,not_and]
   rcases List.mem_cons.1 hx with rfl|hx
   ·exact fun h=>absurd h hLn'.1
   ·intro _
    rw [(List.mem_filter.1 hx).2]
    simp
  ·intro j hj hj1 y hy
   have:j=0:=by omega
   subst this
   have:=(List.mem_filter.1 hy).2
   simpa using this)
 simp only at q1 q2 q3
 subst q1
 refine ⟨r,by unfold zB6; exact e,?_⟩
 obtain ⟨w,w1,w2,w3⟩:=zEQ r (by omega)
 rw [w1]
 congr 1
 exact zCK w2 (zFE hL) fun x=>by rw [w3,q2,zEC e0]
theorem zED {K:ByteArray→ByteArray→Bool} {c:List Pack} {a b:List Int} (hK:∀x y,wK c a b x y=some (K x y)) {L:List ByteArray} {out:List (List ByteArray)} (hL:L.Pairwise ltS) (hl:L.length≤250) (ho:out.length≤500):
  zBP c a b (out,L)=some (if L=[] then .done out else .go (out++[zDS K L],zEg K L)):=by
 cases L with
 |nil=>
  unfold zBP
  rw [if_neg (by simp),if_pos rfl]
 |cons h t=>
  have e1:zEe (h::t) 0 1=some [h]:=by
   have:=zDM (xs:=h::t) (l:=0) (h:=1) (by omega) (by simp)
   simpa using this
  have e2:zEe (h::t) 1 ((h::t).length :Int)=some t:=by
   have:=zDM (xs:=h::t) (l:=1) (h:=(h::t).length) (by simp) (Nat.le_refl _)
   simpa using this
  unfold zBP
  rw [if_pos (by simp),if_neg (by simp)]
  simp only
  rw [e1]
  simp only [Option.bind_some]
  rw [e2]
  simp only [Option.bind_some]
  rw [if_pos (by simp),zLY hK (by simp at hl; omega)]
  simp only [Option.bind_some]
  rw [show w64 (0+1)=((1:Nat):Int) by rw [kE (by omega) (by omega)]; rfl]
  obtain ⟨r,f1,f2⟩:=zJS hK (s1:=(out,h::t)) (L:=h::t) rfl hL hl
  rw [f1]
  simp only [Option.bind_some]
  rw [f2]
  simp only [Option.bind_some]
  rw [uR (by simp; omega) (by simp; omega)]
  rfl
theorem zEB {K:ByteArray→ByteArray→Bool} {c:List Pack} {a b:List Int} (hK:∀x y,wK c a b x y=some (K x y)):∀(n:Nat) (L:List ByteArray) (out:List (List ByteArray)),L.Pairwise ltS→L.length≤n→L.length+out.length≤250→jU c a b (out,L)=some (out++zBn K n L)
 |0,L,out,h1,h2,h3=>by
  have:L=[]:=List.length_eq_zero_iff.1 (by omega)
  subst this
  unfold jU
  rw [vP,zED hK h1 (by simp) (by omega)]
  simp [zBn,Lp.elim]
 |n+1,L,out,h1,h2,h3=>by
  unfold jU
  rw [vP,zED hK h1 (by omega) (by omega)]
  cases L with
  |nil=>simp [zBn,Lp.elim]
  |cons h t=>
   have hlt:=zFJ (K:=K) (L:=h::t) rfl
   have ih:=zEB hK n (zEg K (h::t)) (out++[zDS K (h::t)]) (zEd h1) (by omega) (by simp at h3 hlt ⊢; omega)
   rw [if_neg (by simp)]
   simp only [Option.bind_some,Lp.elim]
   unfold jU at ih
   rw [ih]
   simp [zBn]
noncomputable def chL (c:List Pack) (a b:List Int):List ByteArray:=(zAP c a b).getD []
noncomputable def zEH (c:List Pack) (a b:List Int):List (List ByteArray):=zBn (jB c a b) 24 (chL c a b)
theorem zFu {c:List Pack} {a b:List Int} (h:Two c a b):kW c a b=some (chL c a b)∧zAP c a b=some (chL c a b)∧(chL c a b).Pairwise ltS∧(∀n,n∈chL c a b↔zCR c a n≠zCR c b n)∧(chL c a b).length ≤24:=by
 obtain ⟨l,e1,e2,h1,h2,h3⟩:=zHE h
 have:chL c a b=l:=by unfold chL; rw [e2]; rfl
 rw [this]
 exact ⟨e1,e2,h1,h2,h3⟩
theorem zGM {c:List Pack} {a b:List Int} (h:Two c a b):zCs c a b=some (zEH c a b)∧zC6 c a b=some (zEH c a b):=by
 obtain ⟨e1,e2,h1,_,h3⟩:=zFu h
 constructor
 ·unfold zCs
  rw [e1]
  simp only [Option.bind_some]
  rw [zE6 (fun x y=>(zGk h x y).1) 24 _ _ h1 h3 (by simp; omega)]
  rfl
 ·unfold zC6
  rw [e2]
  simp only [Option.bind_some]
  rw [zEB (fun x y=>(zGk h x y).2) 24 _ _ h1 h3 (by simp; omega)]
  rfl
theorem and1:∀m:Fin 64,zM0 .i64 (m.1:Int) 1=((m.1%2:Nat):Int):=by decide+kernel
theorem zOd:∀(m:Fin 64) (k:Fin 7),zM3 .i64 (m.1:Int) (k.1:Int)=some ((m.1 / 2^k.1:Nat):Int):=by decide+kernel
theorem zN1:∀n:Fin 64,IntKind.u64.wrap (n.1:Int)=(n.1:Int):=by decide+kernel
theorem zMP {m k:Nat} (hm:m<64) (hk:k<7):∃x,zM3 .i64 (m:Int) (k:Int)=some x∧((zM0 .i64 x 1)==1)=(m / 2^k%2==1):=by
 refine ⟨_,zOd ⟨m,hm⟩ ⟨k,hk⟩,?_⟩
 have h64:m / 2^k<64:=Nat.lt_of_le_of_lt (Nat.div_le_self _ _) hm
 rw [and1 ⟨m / 2^k,h64⟩]
 rw [Bool.eq_iff_iff,beq_iff_eq,beq_iff_eq]
 simp only
 omega
theorem zHN (K:ByteArray→ByteArray→Bool):∀(n:Nat) (L:List ByteArray),(zBn K n L).length ≤n∧∀P∈zBn K n L,P.length≤L.length
 |0,L=>by simp [zBn]
 |n+1,L=>by
  unfold zBn
  split
  ·simp
  ·obtain ⟨h1,h2⟩:=zHN K n (zEg K L)
   refine ⟨by simp; omega,fun P hP=>?_⟩
   rcases List.mem_cons.1 hP with rfl|hP
   ·exact List.length_filter_le _ _
   ·exact Nat.le_trans (h2 P hP) (List.length_filter_le _ _)
theorem zF6 {K:ByteArray→ByteArray→Bool}:∀(n:Nat) {L:List ByteArray},L.Pairwise ltS→∀P∈zBn K n L,P.Pairwise ltS
 |0,L,_=>by simp [zBn]
 |n+1,L,h=>by
  unfold zBn
  split
  ·simp
  ·intro P hP
   rcases List.mem_cons.1 hP with rfl|hP
   ·exact zFE h
   ·exact zF6 n (zEd h) P hP
theorem zKA {c:List Pack} {a b:List Int} (h:Two c a b) (ga:GoodS c a) (gb:GoodS c b) {n:ByteArray}:n∈chL c a b↔Chg c a b n:=by
 rw [(zFu h).2.2.2.1,zMm h ga gb]
theorem zKb {c:List Pack} {a b:List Int} (h:Two c a b):(zEH c a b).length ≤24∧(∀P∈zEH c a b,P.length≤24)∧∀P∈zEH c a b,P.Pairwise ltS:=by
 obtain ⟨_,_,h1,_,h2⟩:=zFu h
 obtain ⟨q1,q2⟩:=zHN (jB c a b) 24 (chL c a b)
 exact ⟨q1,fun P hP=>Nat.le_trans (q2 P hP) h2,zF6 24 h1⟩
theorem zHA {K:ByteArray→ByteArray→Bool}:∀(n:Nat) {L:List ByteArray},∀P∈zBn K n L,∀x∈P,x∈L
 |0,L=>by simp [zBn]
 |n+1,L=>by
  unfold zBn
  split
  ·simp
  ·intro P hP x hx
   rcases List.mem_cons.1 hP with rfl|hP
   ·exact (List.mem_filter.1 hx).1
   ·exact (List.mem_filter.1 (zHA n P hP x hx)).1
theorem zHP (c:List Pack) (s:List Int) (n1 n2:List ByteArray):zIb c s n1 n2=zIb c s n2 n1:=by
 unfold zIb
 congr 1
 funext k
 congr 1
 funext l
 exact Bool.and_comm _ _
theorem zMl (c:List Pack) (a b:List Int) (x y:ByteArray):jB c a b x y=jB c a b y x:=by
 unfold jB
 rw [zHP c a,zHP c b]
 cases zIU c a b x (nmL c a b y)<;>cases zIU c a b y (nmL c a b x)<;>rfl
theorem zF1 {K:ByteArray→ByteArray→Bool}:∀(n:Nat) {L:List ByteArray},(zBn K n L).Pairwise (fun P Q=>∀x∈P,∀y∈Q,K x y=false∧x≠y)
 |0,L=>by simp [zBn]
 |n+1,L=>by
  unfold zBn
  split
  ·simp
  ·rename_i he
   refine List.pairwise_cons.2 ⟨fun Q hQ x hx y hy=>?_,zF1 n⟩
   cases L with
   |nil=>exact absurd rfl he
   |cons h t=>
    have hyr:=zHA n Q hQ y hy
    obtain ⟨q1,q2⟩:=(zFs rfl).1 hyr
    have hr:=(zEC rfl).1 hx
    refine ⟨?_,fun e=>q2 (e▸hr)⟩
    cases hk:K x y with
    |false=>rfl
    |true=>exact absurd (.step hr q1 hk) q2
theorem zHy {K:ByteArray→ByteArray→Bool} (L:List ByteArray):(zDS K L).length +(zEg K L).length =L.length:=zEK _ L
theorem zHX {K:ByteArray→ByteArray→Bool}:∀(n:Nat) {L:List ByteArray},L.length≤n→((zBn K n L).map List.length).sum =L.length
 |0,L,h=>by
  have:L=[]:=List.length_eq_zero_iff.1 (by omega)
  subst this
  rfl
 |n+1,L,h=>by
  unfold zBn
  split
  ·rename_i he; subst he; rfl
  ·rename_i he
   cases L with
   |nil=>exact absurd rfl he
   |cons x t=>
    have hlt:=zFJ (K:=K) (L:=x::t) rfl
    have ih:=zHX (K:=K) n (L:=zEg K (x::t)) (by omega)
    have:=zHy (K:=K) (x::t)
    simp only [List.map_cons,List.sum_cons,ih]
    exact this
theorem zFb {K:ByteArray→ByteArray→Bool}:∀(n:Nat) {L:List ByteArray},L.length≤n→∀x∈L,∃P∈zBn K n L,x∈P
 |0,L,h,x,hx=>by
  have:L=[]:=List.length_eq_zero_iff.1 (by omega)
  subst this
  cases hx
 |n+1,L,h,x,hx=>by
  unfold zBn
  cases L with
  |nil=>cases hx
  |cons h0 t=>
   rw [if_neg (by simp)]
   have hlt:=zFJ (K:=K) (L:=h0::t) rfl
   by_cases hp:x∈zDS K (h0::t)
   ·exact ⟨_,by simp,hp⟩
   ·have hr:x∈zEg K (h0::t):=(zFs rfl).2 ⟨hx,fun q=>hp ((zEC rfl).2 q)⟩
    obtain ⟨P,h1,h2⟩:=zFb (K:=K) n (by omega) x hr
    exact ⟨P,by simp [h1],h2⟩
theorem zLj {c:List Pack} {a b:List Int} (h:Two c a b) (ga:GoodS c a) (gb:GoodS c b) {ns:List ByteArray} (hns:∀P∈zEH c a b,(∀x∈P,x∈ns)∨∀x∈P,x∉ns):GoodS c (mvL c a b ns):=by
 refine apart (U:=fun n=>n∈ns) ga gb (fun k=>zIw h.pa h.pb) ((zJl _ _ _ _).imp fun h=>by omega) ?_
 intro x y hcx hcy hx hny hj
 obtain ⟨_,_,_,_,hl⟩:=zFu h
 obtain ⟨P,hP,hxP⟩:=zFb (K:=jB c a b) 24 hl x ((zKA h ga gb).2 hcx)
 obtain ⟨Q,hQ,hyQ⟩:=zFb (K:=jB c a b) 24 hl y ((zKA h ga gb).2 hcy)
 have hPn:∀z∈P,z∈ns:=(hns P hP).resolve_right fun q=>q x hxP hx
 have hQn:∀z∈Q,z∉ns:=(hns Q hQ).resolve_left fun q=>hny (q y hyQ)
 have hJ:=(zMU h ga gb).2 hj
 have hpair:=zF1 (K:=jB c a b) 24 (L:=chL c a b)
 obtain ⟨i,hi,rfl⟩:=List.getElem_of_mem hP
 obtain ⟨j,hjl,rfl⟩:=List.getElem_of_mem hQ
 rcases Nat.lt_trichotomy i j with q|q|q
 ·have:=(List.pairwise_iff_getElem.1 hpair i j hi hjl q x hxP y hyQ).1
  rw [hJ] at this; cases this
 ·subst q
  exact hQn x hxP hx
 ·have:=(List.pairwise_iff_getElem.1 hpair j i hjl hi q y hyQ x hxP).1
  rw [zMl,hJ] at this; cases this
inductive Chn (c:List Pack) (b:List Int) (Q:List Int→List ByteArray→Prop):List Int→List (List ByteArray)→List (List Int)→List Int→Prop where
 |nil {a:List Int}:Chn c b Q a [] [] a
 |cons {a e:List Int} {B:List ByteArray} {bs:List (List ByteArray)} {ss:List (List Int)}:Q a B→Chn c b Q (mvL c a b B) bs ss e→Chn c b Q a (B::bs) (mvL c a b B::ss) e
theorem Chn.length {c:List Pack} {b:List Int} {Q:List Int→List ByteArray→Prop} {a e:List Int} {bs:List (List ByteArray)} {ss:List (List Int)} (h:Chn c b Q a bs ss e):bs.length=ss.length:=by
 induction h with
 |nil=>rfl
 |cons _ _ ih=>simp [ih]
def zJp:ByteArray:=bs [114,111,111,116]
structure DPk (k:Nat) (p:Pack):Prop where
 name:p.Name.size≤20
 noRoot:p.Name≠zJp
 zLA:p.Provides.length≤k∧∀n∈p.Provides,n.size≤20
 needs:p.Needs.length≤k∧∀l∈p.Needs,l.length≤8∧∀t∈l,t.Name.size≤20
 bars:p.Bars.length≤k∧∀t∈p.Bars,t.Name.size≤20
theorem DPk.mono {p:Pack} (h:DPk 4 p):DPk 8 p:=by
 obtain ⟨h1,h0,h2,h3,h4⟩:=h
 exact ⟨h1,h0,⟨by omega,h2.2⟩,⟨by omega,h3.2⟩,⟨by omega,h4.2⟩⟩
theorem DPk.sm {p:Pack} (h:DPk 8 p):Pack.sm 1048576 p:=by
 obtain ⟨h1,_,h2,h3,h4⟩:=h
 refine ⟨by omega,⟨trivial,trivial,trivial⟩,trivial,⟨by omega,fun n hn=>?_⟩,⟨by omega,fun l hl=>⟨?_,fun t ht=>⟨?_,⟨trivial,trivial,trivial⟩,⟨trivial,trivial,trivial⟩⟩⟩⟩,⟨by omega,fun t ht=>⟨?_,⟨trivial,trivial,trivial⟩,⟨trivial,trivial,trivial⟩⟩⟩⟩
 ·have:=h2.2 n hn; omega
 ·have:=(h3.2 l hl).1; omega
 ·have:=(h3.2 l hl).2 t ht; omega
 ·have:=h4.2 t ht; omega
theorem zGy {b:Nat} {s:zD} (h:Sr b s) (hb:b≤1000000000):∃p s',wX s=some (p,s')∧p.size≤20∧p≠zJp∧Sr (b+1) s':=by
 obtain ⟨r,s',x,e1,e2,hx,h'⟩:=at_next h hb (l:=[bs [97],bs [98],bs [99],bs [100],bs [108,105,98],bs [119,101,98]]) (n:=6) rfl (by simp)
 have key:x.size≤20∧x≠zJp:=by
  simp only [List.mem_cons,List.not_mem_nil,or_false] at hx
  rcases hx with rfl|rfl|rfl|rfl|rfl|rfl<;>exact ⟨by decide,by decide⟩
 refine ⟨x,s',?_,key.1,key.2,h'⟩
 unfold wX
 rw [e1]
 simp only [Option.bind_some,e2]
theorem zFZ {b:Nat} {s:zD} (h:Sr b s) (hb:b+10≤1000000000):∃p s',wU s=some (p,s')∧p.size≤20∧p≠zJp∧Sr (b+2) s':=by
 obtain ⟨q,s1,e,h1⟩:=jJ h (by omega) 14
 unfold wU
 rw [e]
 simp only [Option.bind_some]
 cases q
 ·obtain ⟨p,s2,e2,h2,h3,h4⟩:=zGy h1 (by omega)
  rw [e2]
  exact ⟨p,s2,rfl,h2,h3,h4⟩
 ·obtain ⟨r,s',x,e1,e2,hx,h'⟩:=at_next h1 (by omega) (l:=[bs [],bs [49,97],bs [65],bs [97,98,99,100,101,102,103,104,105,106,107,108,109],bs [97,98,99,100,101,102,103,104,105,106,107,108],bs [97,32,98],bs [97,45],bs [95,97],bs [97,95,49]]) (n:=9) rfl (by simp)
  rw [e1]
  simp only [Option.bind_some,e2,if_true]
  have key:x.size≤20∧x≠zJp:=by
   simp only [List.mem_cons,List.not_mem_nil,or_false] at hx
   rcases hx with rfl|rfl|rfl|rfl|rfl|rfl|rfl|rfl|rfl<;>exact ⟨by decide,by decide⟩
  exact ⟨x,s',rfl,key.1,key.2,h'⟩
theorem zHG {b:Nat} (x2:ByteArray×zD) (x4 x6:Int×zD) (v15:List Int×Int×List ByteArray) {s:zD} (h:Sr b s) (hb:b+200≤1000000000) (n:Int) (hn:0≤n∧n≤4):
  ∃l s',zDi x2 x4 x6 v15 (s.Code,s.At,([]:List (List Term)),n)=some (s'.Code,s'.At,l)∧l.length≤4∧(∀c∈l,c.length≤8∧∀t∈c,t.Name.size≤20)∧Sr (b+20*n.toNat) s':=by
 obtain ⟨t,e2,l,s2,rfl,hl,hz,h2⟩:=vQ (b:=zC1 x2 x4 x6 v15) (fun i q=>∃(l:List (List Term)) (s':zD),q=(s'.Code,s'.At,l,n-(i:Int))∧l.length=i∧(∀c∈l,c.length≤8∧∀t∈c,t.Name.size≤20)∧Sr (b+20*i) s') n.toNat
  (fun t=>∃(l:List (List Term)) (s':zD),t=(s'.Code,s'.At,l)∧l.length=n.toNat∧(∀c∈l,c.length≤8∧∀t∈c,t.Name.size≤20)∧Sr (b+20*n.toNat) s') (by
  rintro i q hi ⟨l,s',rfl,hl,hz,hs⟩
  unfold zC1
  simp only
  rw [if_pos (by simp; omega)]
  obtain ⟨t,u,f1,ht,g1⟩:=zFl hs (by omega)
  have f1':uD {Code:=s'.Code,At:=s'.At}=some (t,u):=f1
  obtain ⟨q,u2,f2,g2⟩:=jJ g1 (by omega) 3
  rw [f1']
  simp only [Option.bind_some,f2]
  obtain ⟨c,u3,f3,hc,hne,g3⟩:∃(c:List Term) (u3:zD),(if q=true then (uD u2).bind fun x67=>(app 64 [t] [x67.1]).bind fun x69=>some (x67.2.Code,x67.2.At,x69) else some (u2.Code,u2.At,[t]))=some (u3.Code,u3.At,c)∧(c.length≤8∧∀t∈c,t.Name.size≤20)∧0<c.length∧Sr (b+20*i+19) u3:=by
   cases q
   ·exact ⟨[t],u2,rfl,⟨by simp,by simpa using ht⟩,by simp,g2.mono (by omega)⟩
   ·obtain ⟨t2,u3,f3,ht2,g3⟩:=zFl g2 (by omega)
    rw [if_pos rfl,f3]
    simp only [Option.bind_some]
    rw [uR (by simp) (by simp)]
    exact ⟨[t,t2],u3,rfl,⟨by simp,by simp [ht,ht2]⟩,by simp,g3.mono (by omega)⟩
  rw [f3]
  simp only [Option.bind_some]
  obtain ⟨q2,u4,f4,g4⟩:=jJ (s:= {Code:=u3.Code,At:=u3.At}) g3 (by omega) 8
  rw [f4]
  simp only [Option.bind_some]
  obtain ⟨c2,f5,hc2⟩:∃c2:List Term,(if q2=true then (uY (bs [109,97,105,108])).bind fun x75=>(idx c 0).bind fun x77=>some (c.set ((0:Int).toNat) x75) else some c)=some c2∧(c2.length≤8∧∀t∈c2,t.Name.size≤20):=by
   cases q2
   ·exact ⟨c,rfl,hc⟩
   ·rw [if_pos rfl,show (0:Int)=((0:Nat):Int) from rfl,zK hne]
    unfold uY zA4
    refine ⟨_,rfl,by simpa using hc.1,fun t ht=>?_⟩
    rcases List.mem_or_eq_of_mem_set ht with ht|ht
    ·exact hc.2 t ht
    ·subst ht
     show (bs [109,97,105,108]).size ≤20
     decide
  rw [f5]
  simp only [Option.bind_some]
  rw [uR (by simp; omega) (by simp; omega),kE (x:=n-(i:Int)-1) (by omega) (by omega)]
  refine .inl ⟨_,rfl,_,u4,by rw [show n-(i:Int)-1=n-((i+1:Nat):Int) by omega],by simp [hl],fun x hx=>?_,g4.mono (by omega)⟩
  rcases List.mem_append.1 hx with hx|hx
  ·exact hz x hx
  ·rw [List.mem_singleton.1 hx]; exact hc2) (by
  rintro q ⟨l,s',rfl,hl,hz,hs⟩
  unfold zC1
  simp only
  rw [if_neg (by simp; omega)]
  exact ⟨_,rfl,l,s',rfl,hl,hz,hs⟩) n.toNat 0 (s.Code,s.At,[],n) (by omega) ⟨[],s,by simp,rfl,by simp,h⟩
 exact ⟨l,s2,e2,by omega,hz,h2⟩
theorem zH9 {b:Nat} {s:zD} (h:Sr b s) (hb:b+300≤1000000000):∃p s',zBe s=some (p,s')∧DPk 4 p∧Sr (b+100) s':=by
 obtain ⟨nm,s1,e1,hs1,hr1,h1⟩:=zGy h (by omega)
 obtain ⟨va,s2,e2,_,_,h2⟩:=kN h1 (by omega) 3
 obtain ⟨si,s3,e3,_,_,h3⟩:=kN h2 (by omega) 9
 obtain ⟨q,s4,e4,h4⟩:=jJ h3 (by omega) 5
 obtain ⟨pr,s5,e5,hp,h5⟩:∃(pr:List ByteArray) (s5:zD),(if q=true then (zO s4 2).bind fun x11=>(idx [bs [109,97,105,108],bs [100,98]] x11.1).bind fun x13=>some (x11.2.Code,x11.2.At,[x13]) else some (s4.Code,s4.At,([]:List ByteArray)))=some (s5.Code,s5.At,pr)∧(pr.length≤1∧∀n∈pr,n.size≤20)∧Sr (b+5) s5:=by
  cases q
  ·exact ⟨[],s4,rfl,by simp,h4.mono (by omega)⟩
  ·obtain ⟨r,s',x,f1,f2,hx,h'⟩:=at_next h4 (by omega) (l:=[bs [109,97,105,108],bs [100,98]]) (n:=2) rfl (by simp)
   rw [if_pos rfl,f1]
   simp only [Option.bind_some,f2]
   refine ⟨[x],s',rfl,⟨by simp,fun n hn=>?_⟩,h'⟩
   rw [List.mem_singleton.1 hn]
   simp only [List.mem_cons,List.not_mem_nil,or_false] at hx
   rcases hx with rfl|rfl<;>decide
 obtain ⟨n,s6,e6,hn,h6⟩:=zD0 (s:= {Code:=s5.Code,At:=s5.At}) h5 (by omega) [0,0,1,1,2] (by simp)
 have hn2:0≤n∧n≤4:=by
  simp only [List.mem_cons,List.not_mem_nil,or_false] at hn
  omega
 obtain ⟨l,s7,e7,hl,hz,h7⟩:=zHG (nm,s1) (va,s2) (si,s3) (s5.Code,s5.At,pr) h6 (by omega) n hn2
 have h7:=h7.mono (b':=b+86) (by omega)
 obtain ⟨q2,s8,e8,h8⟩:=jJ (s:= {Code:=s7.Code,At:=s7.At}) h7 (by omega) 6
 obtain ⟨br,s9,e9,hb9,h9⟩:∃(br:List Term) (s9:zD),(if q2=true then (uD s8).bind fun x86=>(app 64 ([]:List Term) [x86.1]).bind fun x88=>some (x86.2.Code,x86.2.At,x88) else some (s8.Code,s8.At,([]:List Term)))=some (s9.Code,s9.At,br)∧(br.length≤1∧∀t∈br,t.Name.size≤20)∧Sr (b+100) s9:=by
  cases q2
  ·exact ⟨[],s8,rfl,by simp,h8.mono (by omega)⟩
  ·obtain ⟨t,s',f1,ht,h'⟩:=zFl h8 (by omega)
   rw [if_pos rfl,f1]
   simp only [Option.bind_some]
   rw [uR (by simp) (by simp)]
   exact ⟨[t],s',rfl,⟨by simp,by simpa using ht⟩,h'.mono (by omega)⟩
 unfold zBe
 rw [e1]
 simp only [Option.bind_some,e2,e3,e4,e5,e6,e7,e8,e9]
 exact ⟨_,s9,rfl,⟨hs1,hr1,⟨by simp only; omega,hp.2⟩,⟨by simp only; omega,hz⟩,⟨by simp only; omega,hb9.2⟩⟩,h9⟩
theorem zAE {α:Type} {z:Nat} {l m:List α} (hl:l.length≤100) (hm:m.length≤100) (hz:z≤1000):app z l m=some (l++m):=by
 refine uR ?_ (by omega)
 exact Nat.le_trans (Nat.mul_le_mul (show l.length+m.length≤200 by omega) hz) (by decide)
theorem zML {α:Type} {z n:Nat} {x:α} (hz:z≤1000) (hn:n≤1000):mk z (n:Int) x=some (List.replicate n x):=by
 unfold mk
 have h:z*(n:Int).toNat ≤281474976710656:=by
  rw [Int.toNat_natCast]
  exact Nat.le_trans (Nat.mul_le_mul hz hn) (by decide)
 rw [if_pos ⟨by omega,h,by omega⟩]
 rfl
theorem zHq {b:Nat} {s:zD} (h:Sr b s) (hb:b+500≤1000000000):∃p s',zAu s=some (p,s')∧DPk 8 p∧Sr (b+200) s':=by
 obtain ⟨p,s1,e1,hp,h1⟩:=zH9 h (by omega)
 obtain ⟨n,s2,e2,_,_,h2⟩:=kN h1 (by omega) 24
 have hp8:=hp.mono
 obtain ⟨hp1,hp2,hp3,hp4,hp5⟩:=hp
 obtain ⟨_,_,q3,q4,q5⟩:=hp8
 unfold zAu
 rw [e1]
 simp only [Option.bind_some,e2]
 by_cases c0:(n==0)=true
 ·obtain ⟨y,s3,e3,hy,hy2,h3⟩:=zFZ h2 (by omega)
  rw [if_pos c0,e3]
  exact ⟨_,_,rfl,⟨hy,hy2,q3,q4,q5⟩,h3.mono (by omega)⟩
 rw [if_neg c0]
 by_cases c1:(n==1)=true
 ·obtain ⟨y,s3,e3,h3⟩:=zDO h2 (by omega)
  rw [if_pos c1,e3]
  exact ⟨_,_,rfl,⟨hp1,hp2,q3,q4,q5⟩,h3.mono (by omega)⟩
 rw [if_neg c1]
 by_cases c2:(n==2)=true
 ·obtain ⟨y,s3,e3,_,h3⟩:=zD0 h2 (by omega) [0,200,201] (by simp)
  rw [if_pos c2,e3]
  exact ⟨_,_,rfl,⟨hp1,hp2,q3,q4,q5⟩,h3.mono (by omega)⟩
 rw [if_neg c2]
 by_cases c3:(n==3)=true
 ·obtain ⟨y,s3,e3,hy,hy2,h3⟩:=zFZ h2 (by omega)
  rw [if_pos c3,e3]
  simp only [Option.bind_some]
  rw [zAE (by omega) (by simp) (by decide)]
  refine ⟨_,_,rfl,⟨hp1,hp2,⟨by simp; omega,fun x hx=>?_⟩,q4,q5⟩,h3.mono (by omega)⟩
  rcases List.mem_append.1 hx with hx|hx
  ·exact hp3.2 x hx
  ·simp only [List.mem_cons,List.not_mem_nil,or_false] at hx
   rcases hx with rfl|rfl
   ·exact hy
   ·exact hp1
 rw [if_neg c3]
 by_cases c4:(n==4)=true
 ·rw [if_pos c4,zAE (by omega) (by simp) (by decide)]
  refine ⟨_,_,rfl,⟨hp1,hp2,q3,⟨by simp; omega,fun x hx=>?_⟩,q5⟩,h2.mono (by omega)⟩
  rcases List.mem_append.1 hx with hx|hx
  ·exact hp4.2 x hx
  ·rw [List.mem_singleton.1 hx]
   simp
 rw [if_neg c4]
 by_cases c5:(n==5)=true
 ·obtain ⟨y,s3,e3,hy,h3⟩:=zE2 h2 (by omega)
  obtain ⟨z,s4,e4,hz,h4⟩:=zE2 h3 (by omega)
  rw [if_pos c5,e3]
  simp only [Option.bind_some,e4]
  rw [zAE (by omega) (by simp) (by decide)]
  refine ⟨_,_,rfl,⟨hp1,hp2,q3,⟨by simp; omega,fun x hx=>?_⟩,q5⟩,h4.mono (by omega)⟩
  rcases List.mem_append.1 hx with hx|hx
  ·exact hp4.2 x hx
  ·rw [List.mem_singleton.1 hx]
   simp [hy,hz]
 rw [if_neg c5]
 by_cases c6:(n==6)=true
 ·obtain ⟨y,s3,e3,hy,h3⟩:=zE2 h2 (by omega)
  rw [if_pos c6,e3]
  simp only [Option.bind_some]
  rw [zAE (by omega) (by simp) (by decide)]
  refine ⟨_,_,rfl,⟨hp1,hp2,q3,q4,⟨by simp; omega,fun x hx=>?_⟩⟩,h3.mono (by omega)⟩
  rcases List.mem_append.1 hx with hx|hx
  ·exact hp5.2 x hx
  ·rw [List.mem_singleton.1 hx]
   exact hy
 rw [if_neg c6]
 have hmk:=zML (z:=64) (n:=5) (x:=({Name:=ByteArray.empty,Low:= {A:=0,B:=0,C:=0},High:= {A:=0,B:=0,C:=0}}:Term)) (by decide) (by decide)
 have hmk:mk 64 5 ({Name:=ByteArray.empty,Low:= {A:=0,B:=0,C:=0},High:= {A:=0,B:=0,C:=0}}:Term)=_:=hmk
 have hem:(ByteArray.empty).size ≤20:=by decide
 by_cases c7:(n==7)=true
 ·rw [if_pos c7,hmk]
  refine ⟨_,_,rfl,⟨hp1,hp2,q3,q4,⟨by simp,fun x hx=>?_⟩⟩,h2.mono (by omega)⟩
  rw [(List.mem_replicate.1 hx).2]
  exact hem
 rw [if_neg c7]
 by_cases c8:(n==8)=true
 ·rw [if_pos c8,hmk]
  simp only [Option.bind_some]
  rw [zAE (by omega) (by simp) (by decide)]
  refine ⟨_,_,rfl,⟨hp1,hp2,q3,⟨by simp; omega,fun x hx=>?_⟩,q5⟩,h2.mono (by omega)⟩
  rcases List.mem_append.1 hx with hx|hx
  ·exact hp4.2 x hx
  ·rw [List.mem_singleton.1 hx]
   refine ⟨by simp,fun t ht=>?_⟩
   rw [(List.mem_replicate.1 ht).2]
   exact hem
 rw [if_neg c8]
 exact ⟨_,_,rfl,⟨hp1,hp2,q3,q4,q5⟩,h2.mono (by omega)⟩
def DCt (c:List Pack):Prop:=c.length≤25∧∀p∈c,DPk 8 p
theorem DCt.cat {c:List Pack} (h:DCt c):Cat c:=⟨by have:=h.1; omega,fun p hp=>(h.2 p hp).sm⟩
theorem zHc {b:Nat} {s:zD} (h:Sr b s) (hb:b+3000≤1000000000) (n:Int) (hn:0≤n∧n≤12):
  ∃l s',zBo (s.Code,s.At,([]:List Pack),n)=some (s'.Code,s'.At,l)∧l.length≤12∧(∀p∈l,DPk 8 p)∧Sr (b+1200) s':=by
 obtain ⟨t,e2,l,s2,rfl,hl,hz,h2⟩:=vQ (b:=zAU) (fun i q=>∃(l:List Pack) (s':zD),q=(s'.Code,s'.At,l,n-(i:Int))∧l.length≤i∧(∀p∈l,DPk 8 p)∧Sr (b+100*i) s') n.toNat
  (fun t=>∃(l:List Pack) (s':zD),t=(s'.Code,s'.At,l)∧l.length≤n.toNat∧(∀p∈l,DPk 8 p)∧Sr (b+100*n.toNat) s') (by
  rintro i q hi ⟨l,s',rfl,hl,hz,hs⟩
  unfold zAU
  simp only
  rw [if_pos (by simp; omega)]
  obtain ⟨p,u,f1,hp,g1⟩:=zH9 hs (by omega)
  have f1':zBe {Code:=s'.Code,At:=s'.At}=some (p,u):=f1
  rw [f1']
  simp only [Option.bind_some]
  rw [zGO l _ _ (by omega)]
  simp only [Option.bind_some]
  rw [kE (x:=n-(i:Int)-1) (by omega) (by omega)]
  by_cases hf:zJn l p.Name p.Version<0
  ·rw [if_pos (by simpa using hf),zAE (by omega) (by simp) (by decide)]
   refine .inl ⟨_,rfl,l++[p],u,by rw [show n-(i:Int)-1=n-((i+1:Nat):Int) by omega],by simp; omega,fun x hx=>?_,g1.mono (by omega)⟩
   rcases List.mem_append.1 hx with hx|hx
   ·exact hz x hx
   ·rw [List.mem_singleton.1 hx]; exact hp.mono
  ·rw [if_neg (by simpa using hf)]
   exact .inl ⟨_,rfl,l,u,by rw [show n-(i:Int)-1=n-((i+1:Nat):Int) by omega],by omega,hz,g1.mono (by omega)⟩) (by
  rintro q ⟨l,s',rfl,hl,hz,hs⟩
  unfold zAU
  simp only
  rw [if_neg (by simp; omega)]
  exact ⟨_,rfl,l,s',rfl,hl,hz,hs⟩) n.toNat 0 (s.Code,s.At,[],n) (by omega) ⟨[],s,by simp,by simp,by simp,h⟩
 exact ⟨l,s2,e2,by omega,hz,h2.mono (by omega)⟩
theorem zHL {b:Nat} {s:zD} (h:Sr b s) (hb:b+5000≤1000000000):∃c s',zBg s=some (c,s')∧DCt c∧Sr (b+2000) s':=by
 obtain ⟨x,s1,e1,x0,x1,h1⟩:=kN h (by omega) 12
 obtain ⟨n,s2,e2,hn,h2⟩:=zD0 h1 (by omega) [3,4,5,6,7,8,x] (by simp)
 have hn2:0≤n∧n≤12:=by
  have:=x1 (by omega)
  simp only [List.mem_cons,List.not_mem_nil,or_false] at hn
  omega
 obtain ⟨l,s3,e3,hl,hz,h3⟩:=zHc h2 (by omega) n hn2
 obtain ⟨k,s4,e4,_,_,h4⟩:=kN (s:= {Code:=s3.Code,At:=s3.At}) h3 (by omega) 40
 unfold zBg
 rw [e1]
 simp only [Option.bind_some,e2,e3,e4]
 by_cases c0:(k==0)=true
 ·obtain ⟨p,s5,e5,hp,h5⟩:=zHq h4 (by omega)
  rw [if_pos c0,e5]
  simp only [Option.bind_some]
  rw [zAE (by omega) (by simp) (by decide)]
  refine ⟨l++[p],s5,rfl,⟨by simp; omega,fun y hy=>?_⟩,h5.mono (by omega)⟩
  rcases List.mem_append.1 hy with hy|hy
  ·exact hz y hy
  ·rw [List.mem_singleton.1 hy]; exact hp
 rw [if_neg c0]
 by_cases c1:(k==1)=true
 ·rw [if_pos c1]
  by_cases hp:((l.length:Int)>0)
  ·rw [if_pos (by simpa using hp),show (0:Int)=((0:Nat):Int) from rfl,zK (by omega)]
   simp only [Option.bind_some]
   rw [zAE (by omega) (by simp) (by decide)]
   refine ⟨l++[l[0]],s4,rfl,⟨by simp; omega,fun y hy=>?_⟩,h4.mono (by omega)⟩
   rcases List.mem_append.1 hy with hy|hy
   ·exact hz y hy
   ·rw [List.mem_singleton.1 hy]; exact hz _ (List.getElem_mem _)
  ·rw [if_neg (by simpa using hp)]
   exact ⟨l,s4,rfl,⟨by omega,hz⟩,h4.mono (by omega)⟩
 rw [if_neg c1]
 by_cases c2:(k==2)=true
 ·have hmk:=zML (z:=120) (n:=25) (x:=({Name:=ByteArray.empty,Version:= {A:=0,B:=0,C:=0},Size:=0,Provides:=[],Needs:=[],Bars:=[]}:Pack)) (by decide) (by decide)
  have hmk:mk 120 25 ({Name:=ByteArray.empty,Version:= {A:=0,B:=0,C:=0},Size:=0,Provides:=[],Needs:=[],Bars:=[]}:Pack)=_:=hmk
  rw [if_pos c2,hmk]
  refine ⟨_,s4,rfl,⟨by simp,fun y hy=>?_⟩,h4.mono (by omega)⟩
  rw [(List.mem_replicate.1 hy).2]
  exact ⟨show (ByteArray.empty).size ≤20 by decide,show ByteArray.empty≠zJp by decide,by simp,by simp,by simp⟩
 rw [if_neg c2]
 exact ⟨l,s4,rfl,⟨by omega,hz⟩,h4.mono (by omega)⟩
theorem zKg (xs:List Int) (p:Int→Bool) {b:(List Int×Int)→Option (Lp (List Int×Int) (List Int))} (hstep:∀(i:Nat) (hi:i<xs.length) (acc:List Int),acc.length≤i→b (acc,(i:Int))=some (.go (if p xs[i] then acc++[xs[i]] else acc,((i+1:Nat):Int))))
  (hend:∀acc:List Int,b (acc,(xs.length:Int))=some (.done acc)):loop b (([]:List Int),0)=some (xs.filter p):=by
 obtain ⟨t,e,rfl⟩:=vQ (b:=b) (fun i s=>s=((xs.take i).filter p,(i:Int))) xs.length (fun t=>t=xs.filter p) (by
  rintro i s hi rfl
  refine .inl ⟨_,hstep i hi _ (Nat.le_trans (List.length_filter_le _ _) (by simp; omega)),?_⟩
  rw [List.take_succ_eq_append_getElem hi,List.filter_append]
  cases h:p xs[i]<;>simp [h]) (by
  rintro s rfl
  rw [List.take_length]
  exact ⟨_,hend _,rfl⟩) xs.length 0 ([],0) (by omega) (by simp)
 exact e
theorem zFe {α β:Type} {f:Nat→List β→α→List β} {P:β→Prop}:∀(xs:List α) (i:Nat) (l:List β),(∀i l x,x∈xs→(∀y∈l,P y)→∀y∈f i l x,P y)→(∀y∈l,P y)→∀y∈foldI f i xs l,P y
 |[],_,_,_,h=>h
 |x::xs,i,l,hf,h=>zFe xs (i+1) (f i l x) (fun i l y hy=>hf i l y (by simp [hy])) (hf i l x (by simp) h)
theorem zIr (c:List Pack) (a:List Int):∀y∈zDP c a,y.Pack∈a:=by
 unfold zDP
 refine zFe a 0 [] (fun i l k hk hl=>?_) (by simp)
 have key:∀(q:Bool) (l:List zN) (y:zN),y.Pack=k→(∀z∈l,z.Pack∈a)→∀z∈(if q then l++[y] else l),z.Pack∈a:=by
  intro q l y hy hl z hz
  cases q
  ·exact hl z hz
  ·rcases List.mem_append.1 hz with h|h
   ·exact hl z h
   ·rw [List.mem_singleton.1 h,hy]; exact hk
 unfold fS
 refine zFe _ 0 _ (fun i l x _ hl=>?_) (zFe _ 0 _ (fun i l x _ hl=>?_) ?_)
 ·unfold fB; exact key _ _ _ rfl hl
 ·unfold fN; exact key _ _ _ rfl hl
 ·unfold fD; exact key _ _ _ rfl hl
theorem zIY {c:List Pack} (hc:Cat c) (x19:Bool×zD):∀(n:Nat) (a:List Int),a.length≤n→n≤1000→Places c a→∃r,loop (zBA c x19) a=some r∧r.Sublist a
 |n,a,hn,h1,hp=>by
  have e0:=zG0 hc hp (by omega)
  rw [vP]
  unfold zBA
  rw [e0]
  simp only [Option.bind_some]
  by_cases hl:0< (zDP c a).length
  ·rw [if_pos (by simpa using hl),show (0:Int)=((0:Nat):Int) from rfl,zK hl]
   simp only [Option.bind_some]
   have hm:=zIr c a _ (List.getElem_mem hl)
   generalize (zDP c a)[0]=f at hm
   have ef:kD c x19 a f (([]:List Int),((0:Nat):Int))=some (a.filter fun k=>k !=f.Pack):=by
    unfold kD
    refine zKg a (fun k=>k !=f.Pack) (fun i hi acc hacc=>?_) (fun acc=>?_)
    ·unfold zBG
     simp only
     rw [if_pos (by simp; omega),zK hi]
     simp only [Option.bind_some]
     rw [zQ (by omega)]
     cases a[i] !=f.Pack
     ·rfl
     ·rw [if_pos rfl,uR (by simp; omega) (by simp; omega)]
      rfl
    ·unfold zBG
     simp only
     rw [if_neg (by simp)]
   rw [ef]
   simp only [Option.bind_some,Lp.elim]
   have hlt:(a.filter fun k=>k !=f.Pack).length <a.length:=by
    refine Nat.lt_of_le_of_ne (List.length_filter_le _ _) fun e=>?_
    have:=List.length_filter_eq_length_iff.1 e _ hm
    simp at this
   have hs:(a.filter fun k=>k !=f.Pack).Sublist a:=List.filter_sublist
   cases n with
   |zero=>omega
   |succ n=>
    obtain ⟨r,h2,h3⟩:=zIY hc x19 n (a.filter fun k=>k !=f.Pack) (by omega) (by omega) (fun k hk=>hp k (hs.subset hk))
    exact ⟨r,h2,h3.trans hs⟩
  ·rw [if_neg (by simpa using hl)]
   exact ⟨a,rfl,List.Sublist.refl _⟩
theorem zHY {b:Nat} {s:zD} (h:Sr b s) (hb:b+1000≤1000000000) {c:List Pack} (hc:Cat c) (hl:c.length≤25):∃a s',uQ s c=some (a,s')∧a.length≤26∧Sr (b+100) s':=by
 obtain ⟨t,e1,l,s1,rfl,hl1,hp1,h1⟩:=vQ (b:=zAo c) (fun i q=>∃(l:List Int) (s':zD),q=(s'.Code,s'.At,l,(i:Int))∧l.length≤i∧Places c l∧Sr (b+i) s') c.length
  (fun t=>∃(l:List Int) (s':zD),t=(s'.Code,s'.At,l)∧l.length≤c.length∧Places c l∧Sr (b+c.length) s') (by
  rintro i q hi ⟨l,s',rfl,hl,hz,hs⟩
  unfold zAo
  simp only
  rw [if_pos (by simp; omega)]
  obtain ⟨q,u,f1,g1⟩:=jJ (s:= {Code:=s'.Code,At:=s'.At}) hs (by omega) 3
  rw [f1]
  simp only [Option.bind_some]
  rw [zQ (by omega)]
  cases q
  ·exact .inl ⟨_,rfl,l,u,rfl,by omega,hz,g1⟩
  ·rw [if_pos rfl,zAE (by omega) (by simp) (by decide)]
   refine .inl ⟨_,rfl,l++[(i:Int)],u,rfl,by simp; omega,fun k hk=>?_,g1⟩
   rcases List.mem_append.1 hk with hk|hk
   ·exact hz k hk
   ·rw [List.mem_singleton.1 hk]; omega) (by
  rintro q ⟨l,s',rfl,hl,hz,hs⟩
  unfold zAo
  simp only
  rw [if_neg (by simp)]
  exact ⟨_,rfl,l,s',rfl,hl,hz,hs⟩) c.length 0 (s.Code,s.At,[],0) (by omega) ⟨[],s,rfl,by simp,by intro k hk; simp at hk,h⟩
 have e1':zAV c (s.Code,s.At,([]:List Int),0)=some (s1.Code,s1.At,l):=e1
 obtain ⟨q,s2,e2,h2⟩:=jJ (s:= {Code:=s1.Code,At:=s1.At}) h1 (by omega) 2
 obtain ⟨a,e3,ha⟩:∃a:List Int,((if q=true then (wN c).bind fun x22=>some (x22==0) else some false).bind fun v24=>if v24=true then (kG c (q,s2) l).bind fun v81=>some v81 else some l)=some a∧a.length≤25:=by
  cases q
  ·exact ⟨l,rfl,by omega⟩
  ·rw [if_pos rfl,zD8 c hc]
   simp only [Option.bind_some]
   cases CF c==0
   ·exact ⟨l,rfl,by omega⟩
   ·rw [if_pos rfl]
    obtain ⟨r,e,hs⟩:=zIY hc (true,s2) 25 l (by omega) (by omega) hp1
    have e:kG c (true,s2) l=some r:=e
    rw [e]
    exact ⟨r,rfl,by have:=hs.length_le; omega⟩
 obtain ⟨q3,s3,e4,h3⟩:=jJ h2 (by omega) 24
 unfold uQ
 rw [e1']
 simp only [Option.bind_some,e2]
 rw [←Option.bind_assoc,e3]
 simp only [Option.bind_some,e4]
 cases q3
 ·exact ⟨a,s3,rfl,by omega,h3.mono (by omega)⟩
 ·obtain ⟨x,s4,e5,_,h4⟩:=zD0 h3 (by omega) [(c.length:Int),(-1),0] (by simp)
  rw [if_pos rfl,e5]
  simp only [Option.bind_some]
  rw [zAE (by omega) (by simp) (by decide)]
  exact ⟨a++[x],s4,rfl,by simp; omega,h4.mono (by omega)⟩
theorem zJa {b:Nat} {s:zD} (h:Sr b s) (hb:b+1000≤1000000000) {c:List Pack} (hl:c.length≤25):∃l s',zAq s c=some (l,s')∧l.length≤3∧Sr (b+10) s':=by
 obtain ⟨n,s1,e1,n0,n1,h1⟩:=kN h (by omega) 3
 have hn:=n1 (by omega)
 have key:∀(k:Nat) (l:List Term) (s':zD) (i:Nat),i+k=(1+n).toNat →l.length≤i→Sr (b+1+i) s'→∃l2 s2,loop (jX c) (s'.Code,s'.At,l,(k:Int))=some (s2.Code,s2.At,l2)∧l2.length≤3∧Sr (b+10) s2:=by
  intro k
  induction k with
  |zero=>
   intro l s' i hi hl1 hs
   refine ⟨l,s',?_,by omega,hs.mono (by omega)⟩
   rw [vP]
   unfold jX
   rfl
  |succ k ih=>
   intro l s' i hi hl1 hs
   by_cases h0:c.length=0
   ·have hb:jX c (s'.Code,s'.At,l,((k+1:Nat):Int))=some (.done (s'.Code,s'.At,l)):=by
     have hd:decide ((c.length:Int)>0)=false:=decide_eq_false (by omega)
     unfold jX
     rw [hd]
     simp
    rw [vP,hb]
    exact ⟨l,s',rfl,by omega,hs.mono (by omega)⟩
   ·obtain ⟨r,u,f1,r0,r1,g1⟩:=kN (s:= {Code:=s'.Code,At:=s'.At}) hs (by omega) (c.length:Int)
    have hr:=r1 (by omega)
    obtain ⟨j,rfl⟩:=Int.eq_ofNat_of_zero_le r0
    have hj:j<c.length:=by omega
    have hb:jX c (s'.Code,s'.At,l,((k+1:Nat):Int))=some (.go (u.Code,u.At,l++[({Name:=c[j].Name,Low:= {A:=0,B:=0,C:=0},High:= {A:=1000,B:=0,C:=0}}:Term)],(k:Int))):=by
     unfold jX
     simp only
     have hd:decide ((c.length:Int)>0)=true:=by simp; omega
     rw [if_pos (decide_eq_true (by omega)),hd]
     simp only [Option.bind_some,if_true]
     rw [f1]
     simp only [Option.bind_some]
     rw [zK hj]
     unfold uY zA4
     simp only [Option.bind_some]
     rw [zAE (by omega) (by simp) (by decide),kE (x:=((k+1:Nat):Int)-1) (by omega) (by omega),show ((k+1:Nat):Int)-1=(k:Int) by omega]
     rfl
    rw [vP,hb]
    exact ih (l++[({Name:=c[j].Name,Low:= {A:=0,B:=0,C:=0},High:= {A:=1000,B:=0,C:=0}}:Term)]) u (i+1) (by omega) (by simp; omega) g1
 obtain ⟨l2,s2,e2,hl2,h2⟩:=key (1+n).toNat [] s1 0 (by omega) (by simp) h1
 unfold zAq
 rw [e1]
 simp only [Option.bind_some]
 rw [kE (x:=1+n) (by omega) (by omega)]
 have e2':zCU c (s1.Code,s1.At,([]:List Term),1+n)=some (s2.Code,s2.At,l2):=by
  rw [show 1+n=((1+n).toNat :Int) by omega]
  exact e2
 rw [e2']
 exact ⟨l2,s2,rfl,hl2,h2⟩
theorem zFD {c:List Pack} (hc:Cat c) {l:List Term} (hl:l.length≤1048576) {k:Int} (hk:0≤k∧k<c.length):∃r,tH c l k=some r:=by
 have key:=wI l (fun _ t=>if zA3 (pat c k) t then some true else none) (b:=zAM c l k) (by
  intro i hi
  unfold zAM
  rw [if_pos (by simp; omega),zK hi,(uN hk).1]
  simp only [Option.bind_some,zF2 _ _ (hc.zLA hk)]
  rw [zQ (by omega)]
  cases zA3 (pat c k) l[i]<;>rfl) (by
  unfold zAM
  rw [if_neg (by simp)])
 unfold tH zBz
 rw [key,zBh]
 split<;>exact ⟨_,rfl⟩
theorem zK9 {c:List Pack} (hc:Cat c) {a:List Int} (hp:Places c a) (ha:a.length≤1048576) {k:Int} (hk:0≤k∧k<c.length):∃r,zDp c a k=some r:=by
 obtain ⟨t,e,_⟩:=vQ (b:=zCy c a k) (fun i s=>s=(i:Int)) a.length (fun _=>True) (by
  rintro i s hi rfl
  have hq:=hp _ (List.getElem_mem hi)
  obtain ⟨r1,f1⟩:=zFD hc (hc.bars hq) hk
  obtain ⟨r2,f2⟩:=zFD hc (hc.bars hk) hq
  unfold zCy
  rw [if_pos (by simp; omega),zK hi]
  simp only [Option.bind_some,(uN hq).1,(uN hk).1,f1,f2]
  rw [zQ (by omega)]
  cases seq (pat c a[i]).Name (pat c k).Name
  ·cases r1
   ·cases r2
    ·exact .inl ⟨_,rfl,rfl⟩
    ·exact .inr ⟨_,rfl,trivial⟩
   ·exact .inr ⟨_,rfl,trivial⟩
  ·exact .inr ⟨_,rfl,trivial⟩) (by
  rintro s rfl
  unfold zCy
  rw [if_neg (by simp)]
  exact ⟨_,rfl,trivial⟩) a.length 0 0 (by omega) rfl
 have e:zDf c a k 0=some t:=e
 unfold zDp
 rw [e]
 cases t<;>exact ⟨_,rfl⟩
theorem zJs {c:List Pack} {l:List Int} (hl:l.length≤1048576) {x y:Int} (hx:0≤x∧x<c.length) (hy:0≤y∧y<c.length):∃r,zC0 c l x y=some r:=by
 unfold zC0
 rw [zFM _ _ hl,zFM _ _ hl]
 simp only [Option.bind_some,(uN hx).1,(uN hy).1,zBj]
 split
 ·exact ⟨_,rfl⟩
 ·split<;>exact ⟨_,rfl⟩
theorem zGS {c:List Pack} (hc:Cat c) {asks:List Term} (hk:asks.length≤1000) {a:List Int} (hp:Places c a) (ha:a.length≤1000):∃l,zBC c asks a=some l∧l.length≤1048576:=by
 obtain ⟨t,e1,h1⟩:=vQ (b:=zB3 c asks a) (fun i s=>s=(i:Int)) asks.length (fun t=>∀l,t= .ret l→l.length≤1048576) (by
  rintro i s hi rfl
  unfold zB3
  rw [if_pos (by simp; omega),zQ (by omega),zDM (Nat.le_succ i) (by omega)]
  simp only [Option.bind_some]
  rw [zHf hc hp (by omega) _ (by simp; omega)]
  simp only [Option.bind_some]
  generalize zId c a _=m
  cases m
  ·refine .inr ⟨_,rfl,?_⟩
   rintro l ⟨⟩
   simp; omega
  ·exact .inl ⟨_,rfl,rfl⟩) (by
  rintro s rfl
  unfold zB3
  rw [if_neg (by simp)]
  exact ⟨_,rfl,by rintro l ⟨⟩⟩) asks.length 0 0 (by omega) rfl
 have e1:zBY c asks a 0=some t:=e1
 obtain ⟨u,e2,h2⟩:=vQ (b:=zB5 c a) (fun i s=>s=(i:Int)) a.length (fun t=>∀l,t= .ret l→l.length≤1048576) (by
  rintro i s hi rfl
  have hq:=hp _ (List.getElem_mem hi)
  have hN:=hc.needs hq
  obtain ⟨v,e3,h3⟩:=vQ (b:=zBt c a (i:Int) (pat c a[i])) (fun j s=>s=(j:Int)) (pat c a[i]).Needs.length (fun t=>∀l,t= .ret l→l.length≤1048576) (by
   rintro j s hj rfl
   have hcl:=hc.clause hq (List.getElem_mem hj)
   unfold zBt
   rw [if_pos (by simp; omega),zQ (by omega),zK hj]
   simp only [Option.bind_some]
   rw [zHf hc hp (by omega) _ hcl]
   simp only [Option.bind_some]
   generalize zId c a _=m
   cases m
   ·refine .inr ⟨_,rfl,?_⟩
    rintro l ⟨⟩
    exact hcl
   ·exact .inl ⟨_,rfl,rfl⟩) (by
   rintro s rfl
   unfold zBt
   rw [if_neg (by simp)]
   exact ⟨_,rfl,by rintro l ⟨⟩⟩) (pat c a[i]).Needs.length 0 0 (by omega) rfl
  have e3:zCc c a (i:Int) (pat c a[i]) 0=some v:=e3
  unfold zB5
  rw [if_pos (by simp; omega),zQ (by omega),zK hi]
  simp only [Option.bind_some,(uN hq).1,e3]
  cases v with
  |ret l=>exact .inr ⟨_,rfl,by rintro l' ⟨⟩; exact h3 l rfl⟩
  |nxt _=>exact .inl ⟨_,rfl,rfl⟩) (by
  rintro s rfl
  unfold zB5
  rw [if_neg (by simp)]
  exact ⟨_,rfl,by rintro l ⟨⟩⟩) a.length 0 0 (by omega) rfl
 have e2:zBM c a 0=some u:=e2
 unfold zBC
 rw [e1,e2]
 cases t with
 |ret l=>exact ⟨l,rfl,h1 l rfl⟩
 |nxt _=>
  cases u with
  |ret l=>exact ⟨l,rfl,h2 l rfl⟩
  |nxt _=>exact ⟨[],rfl,by simp⟩
theorem zHO {c:List Pack} (hc:Cat c) (hcl:c.length≤25) {cl:List Term} (h1:cl.length≤1048576) {a d lk:List Int} (hp:Places c a) (ha:a.length≤1048576) (hd:d.length≤1048576) (hlk:lk.length≤1048576):
  ∃l,jI c cl a d lk=some l∧∀k∈l,(0≤k∧k<c.length)∧k∉a:=by
 obtain ⟨t,e,ht⟩:=vQ (b:=jN c cl a d lk) (fun i s=>s.2=(i:Int)∧s.1.length≤i∧∀k∈s.1,(0≤k∧k<c.length)∧k∉a) c.length (fun t=>∀k∈t,(0≤k∧k<c.length)∧k∉a) (by
  rintro i ⟨out,j⟩ hi ⟨hj,hol,ho⟩
  simp only at hj hol ho
  subst hj
  have hki:0≤(i:Int)∧(i:Int)<c.length:=by omega
  obtain ⟨g,eg,_⟩:=vQ (b:=jP c cl a d lk (out,(i:Int))) (fun j s=>s.2=(j:Int)) cl.length (fun _=>True) (by
   rintro j ⟨q,j'⟩ hj hj'
   simp only at hj'
   subst hj'
   unfold jP
   simp only
   rw [if_pos (by simp; omega),(uN hki).1,zK hj]
   simp only [Option.bind_some,zF2 _ _ (hc.zLA hki)]
   rw [zQ (by omega)]
   cases q
   ·exact .inl ⟨_,rfl,rfl⟩
   ·exact .inl ⟨_,rfl,rfl⟩) (by
   rintro ⟨q,j'⟩ hj'
   simp only at hj'
   subst hj'
   unfold jP
   simp only
   rw [if_neg (by simp)]
   exact ⟨_,rfl,trivial⟩) cl.length 0 (false,0) (by omega) rfl
  have eg:kR c cl a d lk (out,(i:Int)) (false,0)=some g:=eg
  obtain ⟨ft,ef⟩:=zK9 hc hp ha hki
  have ins:∀n:Nat,n≤out.length→∃v:Nat,v≤n∧uF c cl a d lk (out,(i:Int)) (n:Int)=some (v:Int):=by
   intro n
   induction n with
   |zero=>
    intro _
    refine ⟨0,Nat.le_refl _,?_⟩
    unfold uF
    rw [vP]
    unfold zAH
    rfl
   |succ n ih=>
    intro hn
    have hq:=(ho _ (List.getElem_mem (show n<out.length by omega))).1
    obtain ⟨r,er⟩:=zJs (l:=lk) hlk hki hq
    obtain ⟨v,hv,ev⟩:=ih (by omega)
    unfold uF at ev ⊢
    rw [vP]
    unfold zAH
    simp only
    rw [if_pos (decide_eq_true (by omega)),kE (x:=((n+1:Nat):Int)-1) (by omega) (by omega),show ((n+1:Nat):Int)-1=(n:Int) by omega,zK (show n<out.length by omega)]
    simp only [Option.bind_some,er]
    cases r
    ·exact ⟨n+1,Nat.le_refl _,rfl⟩
    ·exact ⟨v,by omega,ev⟩
  unfold jN
  simp only
  rw [if_pos (by simp; omega),eg,zFM _ _ ha,zFM _ _ hd,ef,zQ (by omega)]
  simp only [Option.bind_some]
  by_cases hg:g=true
  ·subst hg
   by_cases hia:(i:Int)∈a
   ·have:decide ((i:Int)∈a)=true:=by simpa using hia
    rw [this]
    exact .inl ⟨_,rfl,rfl,by simp only; omega,ho⟩
   ·have:decide ((i:Int)∈a)=false:=by simpa using hia
    rw [this]
    cases decide ((i:Int)∈d)
    ·cases ft
     ·exact .inl ⟨_,rfl,rfl,by simp only; omega,ho⟩
     ·obtain ⟨v,hv,ev⟩:=ins out.length (Nat.le_refl _)
      have l1:zEe out 0 (v:Int)=some (out.take v):=by
       have:=zDM (xs:=out) (l:=0) (h:=v) (by omega) hv
       simpa using this
      have l2:zEe out (v:Int) (out.length:Int)=some (out.drop v):=by
       have:=zDM (xs:=out) (l:=v) (h:=out.length) hv (Nat.le_refl _)
       rw [this,List.take_of_length_le (by simp)]
      simp only [Bool.not_true,Bool.false_eq_true,if_false,Option.bind_some,ev,l1,l2]
      rw [zAE (by simp) (by simp; omega) (by decide)]
      simp only [Option.bind_some]
      rw [zAE (by simp; omega) (by simp) (by decide)]
      simp only [Option.bind_some]
      rw [zAE (by simp; omega) (by simp; omega) (by decide)]
      refine .inl ⟨_,rfl,rfl,by simp; omega,fun k hk=>?_⟩
      simp only [List.nil_append,List.mem_append,List.mem_singleton] at hk
      rcases hk with (hk|hk)|hk
      ·exact ho k (List.mem_of_mem_take hk)
      ·subst hk; exact ⟨hki,hia⟩
      ·exact ho k (List.mem_of_mem_drop hk)
    ·exact .inl ⟨_,rfl,rfl,by simp only; omega,ho⟩
  ·have:g=false:=by simpa using hg
   subst this
   exact .inl ⟨_,rfl,rfl,by simp only; omega,ho⟩) (by
  rintro ⟨out,j⟩ ⟨hj,hol,ho⟩
  simp only at hj hol ho
  subst hj
  unfold jN
  simp only
  rw [if_neg (by simp)]
  exact ⟨_,rfl,ho⟩) c.length 0 (([]:List Int),0) (by omega) ⟨rfl,by simp,by simp⟩
 have e:kQ c cl a d lk (([]:List Int),0)=some t:=e
 unfold jI
 rw [e]
 exact ⟨t,rfl,ht⟩
theorem zGj (fs:List xC) (h:fs.length≤100):zBF fs=some (fs.map (·.Pack)):=by
 obtain ⟨t,e,rfl⟩:=vQ (b:=zBl fs) (fun i s=>s=((fs.take i).map (·.Pack),(i:Int))) fs.length (fun t=>t=fs.map (·.Pack)) (by
  rintro i s hi rfl
  unfold zBl
  simp only
  rw [if_pos (by simp; omega),zK hi]
  simp only [Option.bind_some]
  rw [zAE (by simp; omega) (by simp) (by decide),zQ (by omega)]
  refine .inl ⟨_,rfl,?_⟩
  rw [List.take_succ_eq_append_getElem hi,List.map_append]
  rfl) (by
  rintro s rfl
  rw [List.take_length]
  unfold zBl
  simp only
  rw [if_neg (by simp)]
  exact ⟨_,rfl,rfl⟩) fs.length 0 (([]:List Int),0) (by omega) (by simp)
 have e:zBN fs (([]:List Int),0)=some _:=e
 unfold zBF
 rw [e]
 rfl
theorem zGn (a:List Int) (hn:a.Nodup) (hl:a.length≤100):∃r,zBE a=some r∧r.Pairwise (· < ·)∧(∀x,x∈r↔x∈a)∧r.length=a.length:=by
 obtain ⟨t,e,h1,h2,h3⟩:=vQ (b:=zBx a) (fun i s=>s.2=(i:Int)∧s.1.Pairwise (· < ·)∧(∀x,x∈s.1↔x∈a.take i)∧s.1.length=i) a.length (fun t=>t.Pairwise (· < ·)∧(∀x,x∈t↔x∈a)∧t.length=a.length) (by
  rintro i ⟨o,j⟩ hi ⟨hj,h1,h2,h3⟩
  simp only at hj h1 h2 h3
  subst hj
  have hni:a[i]∉o:=by
   rw [h2]
   intro hm
   obtain ⟨k,hk,e⟩:=List.mem_take_iff_getElem.1 hm
   have hne:=List.pairwise_iff_getElem.1 hn k i (by omega) hi (by omega)
   exact hne e
  obtain ⟨r,er,g1,g2,g3⟩:=zL7 o a[i] h1 hni (by omega)
  unfold zBx
  simp only
  rw [if_pos (by simp; omega),zK hi]
  simp only [Option.bind_some,er]
  rw [zQ (by omega)]
  refine .inl ⟨_,rfl,rfl,g1,fun x=>?_,by simp only; omega⟩
  simp only
  rw [g2,h2,List.take_succ_eq_append_getElem hi]
  simp only [List.mem_append,List.mem_singleton]) (by
  rintro ⟨o,j⟩ ⟨hj,h1,h2,h3⟩
  simp only at hj h1 h2 h3
  subst hj
  rw [List.take_length] at h2
  unfold zBx
  simp only
  rw [if_neg (by simp)]
  exact ⟨_,rfl,h1,h2,h3⟩) a.length 0 (([]:List Int),0) (by omega) ⟨rfl,by simp,by simp,rfl⟩
 have e:zCi a (([]:List Int),0)=some t:=e
 unfold zBE
 rw [e]
 exact ⟨t,rfl,h1,h2,h3⟩
def zM5 (c:List Pack) (r:SolveResult):Prop:=r.Set.Pairwise (· < ·)∧Places c r.Set∧r.Set.length≤60
theorem zJt {c:List Pack} (hc:Cat c) (hcl:c.length≤25) {asks:List Term} (hk:asks.length≤1000) {lk:List Int} (hlk:lk.length≤1048576):∀(m n:Nat) (fs:List xC) (d:List Int),2*(60-n)+fs.length=m→n≤60→m≤120→(fs.map (·.Pack)).Nodup →Places c (fs.map (·.Pack))→fs.length≤n→
  (∀f∈fs,f.Denied.length+m≤120)→d.length+m≤120→∃r:SolveResult,loop (zBT c asks lk 60) (fs,d,(n:Int))=some (.ret r)∧zM5 c r:=by
 intro m
 induction m with
 |zero=>
  intro n fs d hm hn _ hnd hpl hfn hfd hdd
  have hf0:fs=[]:=List.length_eq_zero_iff.1 (by omega)
  subst hf0
  have hn60:n=60:=by omega
  subst hn60
  obtain ⟨cl,e1,hcl1⟩:=zGS hc hk hpl (by simp)
  obtain ⟨l,e2,hl⟩:=zHO hc hcl hcl1 hpl (by simp) (show d.length≤1048576 by omega) hlk
  rw [vP]
  unfold zBT
  simp only
  rw [zGj [] (by simp)]
  simp only [Option.bind_some,e1]
  by_cases h0:((cl.length:Int)==0)=true
  ·obtain ⟨r,e3,g1,g2,g3⟩:=zGn _ hnd (by simp)
   rw [if_pos h0,e3]
   exact ⟨_,rfl,g1,fun k hk=>hpl k ((g2 k).1 hk),by simp only; rw [g3]; simp⟩
  ·rw [if_neg h0,e2]
   simp only [Option.bind_some]
   by_cases h1:(l.length:Int)>0
   ·rw [if_pos (by simpa using h1)]
    exact ⟨_,rfl,by simp [zM5,Places]⟩
   ·rw [if_neg (by simpa using h1)]
    exact ⟨_,rfl,by simp [zM5,Places]⟩
 |succ m ih=>
  intro n fs d hm hn hm2 hnd hpl hfn hfd hdd
  obtain ⟨cl,e1,hcl1⟩:=zGS hc hk hpl (by simp; omega)
  obtain ⟨l,e2,hl⟩:=zHO hc hcl hcl1 hpl (by simp; omega) (show d.length≤1048576 by omega) hlk
  rw [vP]
  unfold zBT
  simp only
  rw [zGj fs (by omega)]
  simp only [Option.bind_some,e1]
  by_cases h0:((cl.length:Int)==0)=true
  ·obtain ⟨r,e3,g1,g2,g3⟩:=zGn _ hnd (by simp; omega)
   rw [if_pos h0,e3]
   exact ⟨_,rfl,g1,fun k hk=>hpl k ((g2 k).1 hk),by simp only; rw [g3]; simp; omega⟩
  ·rw [if_neg h0,e2]
   simp only [Option.bind_some]
   by_cases h1:(l.length:Int)>0
   ·rw [if_pos (by simpa using h1)]
    by_cases h60:((n:Int)==60)=true
    ·rw [if_pos h60]
     exact ⟨_,rfl,by simp [zM5,Places]⟩
    ·have hn60:n≠60:=fun e=>h60 (by rw [e]; rfl)
     obtain ⟨hx1,hx2⟩:=hl _ (List.getElem_mem (show 0<l.length by omega))
     rw [if_neg h60,show (0:Int)=((0:Nat):Int) from rfl,zK (show 0<l.length by omega)]
     simp only [Option.bind_some]
     rw [zAE (by omega) (by simp) (by decide),zQ (by omega)]
     simp only [Option.bind_some,Lp.elim]
     refine ih (n+1) (fs++[{Pack:=l[0],Denied:=d}]) d (by simp; omega) (by omega) (by omega) ?_ ?_ (by simp; omega) ?_ (by omega)
     ·rw [List.map_append,List.nodup_append]
      refine ⟨hnd,by simp,fun x hx y hy=>?_⟩
      simp only [List.map_cons,List.map_nil,List.mem_singleton] at hy
      subst hy
      intro e
      subst e
      exact hx2 hx
     ·intro k hk
      rw [List.map_append,List.mem_append] at hk
      rcases hk with hk|hk
      ·exact hpl k hk
      ·simp only [List.map_cons,List.map_nil,List.mem_singleton] at hk
       subst hk
       exact hx1
     ·intro f hf
      rcases List.mem_append.1 hf with hf|hf
      ·have:=hfd f hf; omega
      ·rw [List.mem_singleton.1 hf]; simp only; omega
   ·rw [if_neg (by simpa using h1)]
    by_cases hf0:((fs.length:Int)==0)=true
    ·rw [if_pos hf0]
     exact ⟨_,rfl,by simp [zM5,Places]⟩
    ·have hfl:fs.length≠0:=by simpa using hf0
     have hlast:fs.length-1<fs.length:=by omega
     have l1:zEe fs 0 ((fs.length-1:Nat):Int)=some (fs.take (fs.length-1)):=by
      have:=zDM (xs:=fs) (l:=0) (h:=fs.length-1) (by omega) (by omega)
      simpa using this
     have hD:=hfd _ (List.getElem_mem hlast)
     rw [if_neg hf0,kE (x:=(fs.length:Int)-1) (by omega) (by omega),show (fs.length:Int)-1=((fs.length-1:Nat):Int) by omega,zK hlast,l1]
     simp only [Option.bind_some]
     rw [uR (by simp; omega) (by simp; omega)]
     simp only [Option.bind_some]
     rw [uR (by simp; omega) (by simp; omega)]
     simp only [Option.bind_some,Lp.elim]
     have hsub:(fs.take (fs.length-1)).Sublist fs:=List.take_sublist _ _
     refine ih n (fs.take (fs.length-1)) _ (by simp; omega) hn (by omega) (hnd.sublist (hsub.map _)) (fun k hk=>hpl k ((hsub.map _).subset hk)) (by simp; omega) (fun f hf=>?_) (by simp; omega)
     have:=hfd f (hsub.subset hf)
     omega
theorem zGV {c:List Pack} (hc:Cat c) (hcl:c.length≤25) {asks:List Term} (hk:asks.length≤1000) {lk:List Int} (hlk:lk.length≤1048576):∃r,jV c asks lk 60=some r∧zM5 c r:=by
 obtain ⟨r,e,h⟩:=zJt hc hcl hk hlk 120 0 [] [] (by simp) (by omega) (by omega) (by simp) (by intro k hk; simp at hk) (by simp) (by simp) (by simp)
 have e:zCu c asks lk 60 (([]:List xC),([]:List Int),0)=some (.ret r):=e
 unfold jV
 rw [e]
 exact ⟨r,rfl,h⟩
theorem zKK {b:Nat} {s:zD} (h:Sr b s) (hb:b+10000≤1000000000):∃c x y s',zDn s=some (c,x,y,s')∧DCt c∧x.length≤60∧y.length≤60∧Sr (b+5000) s':=by
 obtain ⟨c,s1,e1,hD,h1⟩:=zHL h (by omega)
 have hC:=hD.cat
 have hl:=hD.1
 have key:∃(x y:List Int) (s':zD),(if (CF c==0)=true then
   ((zAq s1 c).bind fun x7=>
   (jV c x7.1 ([]:List Int) 60).bind fun x9=>
   (if x9.Code==0 then
     (some x9.Set)
    else
     (some ([]:List Int))).bind fun v12=>
   (zAq x7.2 c).bind fun x13=>
   (zDs 1 (c.length:Int)).bind fun x15=>
   (zO x13.2 x15).bind fun x17=>
   (jV c x13.1 [x17.1] 60).bind fun x19=>
   (if x19.Code==0 then
     (some (decide ((c.length:Int)>0)))
    else
     (some false)).bind fun v22=>
   if v22 then
    (some (x17.2.Code,x17.2.At,v12,x19.Set))
   else
    (some (x17.2.Code,x17.2.At,v12,([]:List Int))))
  else
   (some (s1.Code,s1.At,([]:List Int),([]:List Int))))=some (s'.Code,s'.At,x,y)∧x.length≤60∧y.length≤60∧Sr (b+3000) s':=by
  cases CF c==0
  ·exact ⟨[],[],s1,rfl,by simp,by simp,h1.mono (by omega)⟩
  obtain ⟨l,s2,f1,hl1,g1⟩:=zJa h1 (by omega) hl
  obtain ⟨r,f2,hr⟩:=zGV hC hl (asks:=l) (by omega) (lk:=[]) (by simp)
  obtain ⟨l2,s3,f3,hl2,g3⟩:=zJa g1 (by omega) hl
  obtain ⟨m,f4⟩:∃m,zDs 1 (c.length:Int)=some m:=by
   unfold zDs
   split<;>exact ⟨_,rfl⟩
  obtain ⟨z,s4,f5,_,_,g5⟩:=kN g3 (by omega) m
  obtain ⟨r2,f6,hr2⟩:=zGV hC hl (asks:=l2) (by omega) (lk:=[z]) (by simp)
  obtain ⟨x,f7,hx⟩:∃x:List Int,(if r.Code==0 then some r.Set else some ([]:List Int))=some x∧x.length≤60:=by
   cases r.Code==0
   ·exact ⟨[],rfl,by simp⟩
   ·exact ⟨r.Set,rfl,hr.2.2⟩
  rw [if_pos rfl,f1]
  simp only [Option.bind_some,f2,f7,f3,f4,f5,f6]
  cases r2.Code==0
  ·exact ⟨x,[],s4,rfl,hx,by simp,g5.mono (by omega)⟩
  ·cases hd:decide ((c.length:Int)>0)
   ·exact ⟨x,[],s4,by simp,hx,by simp,g5.mono (by omega)⟩
   ·exact ⟨x,r2.Set,s4,by simp,hx,hr2.2.2,g5.mono (by omega)⟩
 obtain ⟨x,y,s2,e2,hx,hy,h2⟩:=key
 have some_set:∀{b:Nat} {s:zD} (z:List Int),Sr b s→b+1000≤1000000000→z.length≤60→∀q:Bool,∃(w:List Int) (s':zD),(if q=true then (uQ s c).bind fun x28=>some (x28.2.Code,x28.2.At,x28.1) else some (s.Code,s.At,z))=some (s'.Code,s'.At,w)∧w.length≤60∧Sr (b+100) s':=by
  intro b s z hs hb hz q
  cases q
  ·exact ⟨z,s,rfl,hz,hs.mono (by omega)⟩
  ·obtain ⟨w,s',f,hw,g⟩:=zHY hs hb hC hl
   rw [if_pos rfl,f]
   exact ⟨w,s',rfl,by omega,g⟩
 obtain ⟨q,s3,e3,h3⟩:=jJ (s:= {Code:=s2.Code,At:=s2.At}) h2 (by omega) 14
 obtain ⟨x2,s4,e4,hx2,h4⟩:=some_set x h3 (by omega) hx q
 obtain ⟨q2,s5,e5,h5⟩:=jJ (s:= {Code:=s4.Code,At:=s4.At}) h4 (by omega) 14
 obtain ⟨y2,s6,e6,hy2,h6⟩:=some_set y h5 (by omega) hy q2
 unfold zDn
 rw [e1]
 simp only [Option.bind_some]
 rw [zD8 c hC]
 simp only [Option.bind_some]
 rw [e2]
 simp only [Option.bind_some,e3,e4,e5,e6]
 exact ⟨c,x2,y2,s6,rfl,hD,hx2,hy2,h6.mono (by omega)⟩
theorem zJe {α R:Type} (f:Nat→α→Option R):∀(xs ys:List α) (i:Nat),wP f i (xs++ys)=(wP f i xs).or (wP f (i+xs.length) ys)
 |[],ys,i=>by simp [wP]
 |x::xs,ys,i=>by
  simp only [List.cons_append,wP,List.length_cons]
  cases f i x with
  |some r=>rfl
  |none=>simp only; rw [zJe f xs ys (i+1),show i+1+xs.length=i+(xs.length+1) by omega]
theorem zK5 {c:List Pack} {a:List Int} (hp:Places c a) (hn:a.Pairwise (· < ·)) {i:Nat} (hi:i<a.length):decide (zCR c (a.take i) (vO c a[i])≥0)=(zCR c a (vO c a[i]) !=a[i]):=by
 have hd:a.drop i=a[i]::a.drop (i+1):=List.drop_eq_getElem_cons hi
 have he:∀n,n=vO c a[i]→zCR c a n=((wP (fun _ k=>if seq (pat c k).Name n then some k else none) 0 (a.take i)).or (some a[i])).getD (-1):=by
  intro n hn
  have key:=zJe (fun (_:Nat) k=>if seq (pat c k).Name n then some k else none) (a.take i) (a.drop i) 0
  rw [List.take_append_drop,hd] at key
  have:seq (pat c a[i]).Name n=true:=by rw [hn]; exact zHa _
  simp only [wP,this,if_true] at key
  unfold zCR
  rw [key]
 rw [he _ rfl]
 unfold zCR
 rcases zHj (q:=fun k=>seq (pat c k).Name (vO c a[i])) (a.take i) 0 with ⟨h1,_⟩|⟨k,hk,_,h1⟩
 ·rw [h1]
  simp
 ·rw [h1]
  have hka:k∈a:=List.mem_of_mem_take hk
  have hge:=(hp k hka).1
  obtain ⟨j,hj,e⟩:=List.mem_take_iff_getElem.1 hk
  have hlt:=List.pairwise_iff_getElem.1 hn j i (by omega) hi (by omega)
  have hne:k≠a[i]:=by omega
  have:decide ((some k).getD (-1)≥0)=true:=by simpa using hge
  rw [this]
  simpa using hne
def apB (c:List Pack) (a:List Int):Bool:=a.all fun k=>zCR c a (vO c k)==k
theorem zHn {α R:Type} (p:α→Bool) (r:R):∀(xs:List α) (i:Nat),wP (fun _ x=>if p x then some r else none) i xs=if xs.all (fun x=> !(p x)) then none else some r
 |[],i=>rfl
 |x::xs,i=>by
  have ih:=zHn p r xs (i+1)
  simp only [wP,List.all_cons]
  by_cases h:p x=true
  ·simp [h]
  ·simp [h,ih]
theorem zFC {c:List Pack} {a:List Int} (hp:Places c a) (hn:a.Pairwise (· < ·)) (ha:a.length≤1048576):zAa c a=some (!(apB c a)):=by
 have key:=wI a (fun _ k=>if zCR c a (vO c k) !=k then some true else none) (b:=zBQ c a) (by
  intro i hi
  have hk:=hp _ (List.getElem_mem hi)
  unfold zBQ
  rw [if_pos (by simp; omega),zK hi,zEP (by omega)]
  simp only [Option.bind_some,(uN hk).1]
  rw [(zDG (a:=a.take i) (fun k hk=>hp k (List.mem_of_mem_take hk)) (by simp; omega) _).2]
  simp only [Option.bind_some]
  have:=zK5 hp hn hi
  unfold vO at this ⊢
  rw [this,zQ (by omega)]
  cases zCR c a (pat c a[i]).Name !=a[i]<;>rfl) (by
  unfold zBQ
  rw [if_neg (by simp)])
 rw [zHn] at key
 unfold zAa zCp apB
 rw [key,zBh]
 have:(fun k=> !(zCR c a (vO c k) !=k))=fun k=>zCR c a (vO c k)==k:=by
  funext k
  simp [bne]
 rw [this]
 cases a.all fun k=>zCR c a (vO c k)==k<;>rfl
theorem apart_spec {c:List Pack} {a:List Int} (hp:Places c a) (ha:a.length≤1048576):kX c a=some (apB c a):=by
 have key:=wI a (fun _ k=>if zCR c a (vO c k) !=k then some false else none) (b:=zCb c a) (by
  intro i hi
  have hk:=hp _ (List.getElem_mem hi)
  unfold zCb vO
  rw [if_pos (by simp; omega),zK hi]
  simp only [Option.bind_some,(uN hk).1]
  rw [(zDG hp ha _).1,zQ (by omega)]
  simp only [Option.bind_some]
  cases zCR c a (pat c a[i]).Name !=a[i]<;>rfl) (by
  unfold zCb
  rw [if_neg (by simp)])
 rw [zHn] at key
 unfold kX zCt apB
 rw [key,zBh]
 have:(fun k=> !(zCR c a (vO c k) !=k))=fun k=>zCR c a (vO c k)==k:=by
  funext k
  simp [bne]
 rw [this]
 cases a.all fun k=>zCR c a (vO c k)==k<;>rfl
def zEc (c:List Pack) (a b:List Int):Int:=if SF c a !=0 then SF c a else if SF c b !=0 then SF c b else if apB c a&&apB c b then 0 else 6
theorem zFd {c:List Pack} {s:List Int} (hs:SF c s=0):CF c=0∧s.Pairwise (· < ·)∧Places c s∧s.length≤c.length:=by
 unfold SF at hs
 split at hs
 ·rename_i q; rw [hs] at q; cases q
 ·rename_i q
  refine ⟨by simpa using q,?_⟩
  split at hs
  ·rename_i h
   exact ⟨(zFn.1 h).1,(zFn.1 h).2,zL5 h⟩
  ·cases hs
theorem zLL {c:List Pack} {a b:List Int} (h1:SF c a=0) (h2:SF c b=0):Two c a b:=by
 obtain ⟨q0,q1,q2,q3⟩:=zFd h1
 obtain ⟨_,r1,r2,r3⟩:=zFd h2
 have hs:=Sml.of q0
 have:=hs.len
 exact ⟨hs,q2,r2,q1,r1,by omega,by omega⟩
theorem zJr {c:List Pack} {a b:List Int} (hC:Cat c) (ha:a.length≤1048576) (hb:b.length≤1048576):zCF c a b=some (zEc c a b):=by
 unfold zCF zEc
 rw [zE1 hC ha,zE1 hC hb]
 simp only [Option.bind_some]
 by_cases h1:SF c a=0
 ·by_cases h2:SF c b=0
  ·obtain ⟨_,q1,q2,_⟩:=zFd h1
   obtain ⟨_,r1,r2,_⟩:=zFd h2
   rw [apart_spec q2 ha,apart_spec r2 hb,h1,h2]
   cases apB c a<;>cases apB c b<;>rfl
  ·have e1:(SF c a !=0)=false:=by simpa using h1
   have e2:(SF c b !=0)=true:=by simpa using h2
   rw [e1,e2]
   rfl
 ·have e1:(SF c a !=0)=true:=by simpa using h1
  rw [e1]
  rfl
theorem zJ6 {c:List Pack} {a b:List Int} (hC:Cat c) (ha:a.length≤1048576) (hb:b.length≤1048576):zAZ c a b=some (zEc c a b):=by
 unfold zAZ zEc
 rw [zDz hC ha,zDz hC hb]
 simp only [Option.bind_some]
 rw [zGT]
 simp only [Option.bind_some]
 by_cases h1:SF c a=0
 ·by_cases h2:SF c b=0
  ·obtain ⟨_,q1,q2,_⟩:=zFd h1
   obtain ⟨_,r1,r2,_⟩:=zFd h2
   rw [zFC q2 q1 ha,zFC r2 r1 hb,h1,h2]
   cases apB c a<;>cases apB c b<;>rfl
  ·have e1:(SF c a !=0)=false:=by simpa using h1
   have e2:(SF c b !=0)=true:=by simpa using h2
   have e3:(SF c b==0)=false:=by simpa using h2
   rw [e1,e2]
   simp only [Bool.false_eq_true,if_false,if_true,e3,Option.bind_some]
 ·have e1:(SF c a !=0)=true:=by simpa using h1
  have e3:(SF c a==0)=false:=by simpa using h1
  rw [e1]
  simp only [if_true,e3,Bool.false_eq_true,if_false,Option.bind_some]
theorem zFy {c:List Pack} {a b:List Int} (h:zEc c a b=0):CF c=0∧Two c a b:=by
 unfold zEc at h
 split at h
 ·rename_i q; simp [h] at q
 rename_i h1
 split at h
 ·rename_i q; simp [h] at q
 rename_i h2
 have e1:SF c a=0:=by simpa using h1
 have e2:SF c b=0:=by simpa using h2
 exact ⟨(zFd e1).1,zLL e1 e2⟩
theorem zIc {c:List Pack} {a b:List Int} (hC:Cat c) (ha:a.length≤1048576) (hb:b.length≤1048576):zCA c a b=some (if zEc c a b=0 then {Code:=0,Parts:=zEH c a b} else {Code:=zEc c a b,Parts:=[]}):=by
 unfold zCA
 rw [zJ6 hC ha hb]
 simp only [Option.bind_some]
 by_cases h:zEc c a b=0
 ·rw [if_neg (by simpa using h),if_pos h,(zGM (zFy h).2).2]
  rfl
 ·rw [if_pos (by simpa using h),if_neg h]
theorem zLU {a:List Int} (h:a.length≤1048576):zDr a=some false:=by
 unfold zDr
 congr 1
 simp; omega
theorem zKp {c:List Pack} (h0:CF c=0) (a b:List Int) (ns:List ByteArray):SF c (mvL c a b ns)=0:=by
 unfold SF
 rw [h0,zFn.2 ⟨zJl _ _ _ _,zJH _ _ _ _⟩]
 rfl
theorem zG5 {c:List Pack} {a b:List Int} (hC:Cat c) (h1:SF c a=0) (h2:SF c b=0) {ns:List ByteArray} (hn:ns.length≤24):zBb c a b ns=some {Code:=0,At:=0,Set:=mvL c a b ns}:=by
 have h:=zLL h1 h2
 have la:=h.la
 have lb:=h.lb
 unfold zBb
 rw [zDz hC (by omega),zDz hC (by omega),h1,h2]
 simp only [Option.bind_some]
 rw [zGT]
 have e:decide ((ns.length:Int)>24)=false:=by simp; omega
 simp only [Option.bind_some,bne_self_eq_false,Bool.false_eq_true,if_false,beq_self_eq_true,if_true,e]
 rw [zJN h.pa h.pb h.sa h.sb (by omega) (by omega) (by omega)]
 rfl
theorem zG6 {c:List Pack} (hC:Cat c) (h0:CF c=0) (hl:c.length≤1048576) (a b:List Int) (ns:List ByteArray):zAx c (mvL c a b ns)=some (((zDP c (mvL c a b ns)).length :Int)==0):=by
 have hm:=zJB c a b ns
 unfold zAx
 rw [zDz hC (by omega),zKp h0]
 simp only [Option.bind_some,beq_self_eq_true,if_true]
 rw [zGv hC (by omega) (by rw [zKp h0]; rfl)]
 unfold zLa
 rw [zKp h0]
 rfl
theorem zNZ:∀(m:Fin 8) (k:Fin 3),∃x,zM3 .i64 (m.1:Int) (IntKind.u64.wrap (k.1:Int))=some x∧((zM0 .i64 x 1)==1)=(m.1 / 2^k.1%2==1):=by
 intro m k
 obtain ⟨x,h1,h2⟩:=zMP (m:=m.1) (k:=k.1) (by have:=m.2; omega) (by have:=k.2; omega)
 exact ⟨x,by rw [zN1 ⟨k.1,by have:=k.2; omega⟩]; exact h1,h2⟩
theorem zJ2 {c:List Pack} {a b:List Int} (h:Two c a b) {m:Nat} (hm:m<8) (code:Int):
  ∃ns,zCG (c,a,b) {Code:=code,Parts:=zEH c a b} (m:Int) (([]:List ByteArray),0)=some ns∧ns.length≤24∧∀P∈zEH c a b,(∀x∈P,x∈ns)∨∀x∈P,x∉ns:=by
 obtain ⟨_,_,_,_,q5⟩:=zFu h
 obtain ⟨s1,s2,s3⟩:=zKb h
 have hpair:(zEH c a b).Pairwise (fun P Q=>∀x∈P,∀y∈Q,jB c a b x y=false∧x≠y):=zF1 (K:=jB c a b) 24 (L:=chL c a b)
 have hsum:((zEH c a b).map List.length).sum =(chL c a b).length :=zHX (K:=jB c a b) 24 q5
 have hle:∀i,(((zEH c a b).take i).map List.length).sum ≤24:=by
  intro i
  refine Nat.le_trans ?_ q5
  rw [←hsum]
  conv=>rhs; rw [←List.take_append_drop i (zEH c a b)]
  rw [List.map_append,List.sum_append]
  omega
 obtain ⟨ns,e,h1,h2⟩:=vQ (b:=zBL (c,a,b) {Code:=code,Parts:=zEH c a b} (m:Int)) (fun i s=>s.2=(i:Int)∧s.1.length≤(((zEH c a b).take i).map List.length).sum ∧∀x,x∈s.1↔∃(j:Nat) (hj:j< (zEH c a b).length),j<i∧(m / 2^j%2==1)=true∧x∈(zEH c a b)[j]) (min (zEH c a b).length 3)
  (fun ns=>ns.length≤24∧∀x,x∈ns↔∃(j:Nat) (hj:j< (zEH c a b).length),j<min (zEH c a b).length 3∧(m / 2^j%2==1)=true∧x∈(zEH c a b)[j]) (by
  rintro i ⟨ns,j⟩ hi ⟨hj,hl,hx⟩
  simp only at hj hl hx
  subst hj
  have hil:i< (zEH c a b).length :=by omega
  have h24:=s2 _ (List.getElem_mem hil)
  obtain ⟨y,b1,b2⟩:=zNZ ⟨m,hm⟩ ⟨i,by omega⟩
  simp only at b1 b2
  have:=hle i
  have ed1:decide ((i:Int)< ((zEH c a b).length :Int))=true:=by simp; omega
  have ed2:decide ((i:Int)<3)=true:=by simp; omega
  unfold zBL
  simp only [ed1,ed2,if_true,Option.bind_some]
  rw [b1]
  simp only [Option.bind_some]
  rw [b2,zQ (by omega)]
  have htk:=List.take_succ_eq_append_getElem hil
  cases hb:(m / 2^i%2==1)
  ·refine .inl ⟨_,rfl,rfl,?_,fun x=>?_⟩
   ·simp only
    rw [htk,List.map_append,List.sum_append]
    omega
   ·simp only
    rw [hx]
    constructor
    ·rintro ⟨j,hj,q1,q2,q3⟩
     exact ⟨j,hj,by omega,q2,q3⟩
    ·rintro ⟨j,hj,q1,q2,q3⟩
     have:j≠i:=fun e=>by subst e; rw [hb] at q2; cases q2
     exact ⟨j,hj,by omega,q2,q3⟩
  ·rw [if_pos rfl,zK hil]
   simp only [Option.bind_some]
   rw [zAE (by omega) (by omega) (by decide)]
   refine .inl ⟨_,rfl,rfl,?_,fun x=>?_⟩
   ·simp only
    rw [htk,List.map_append,List.sum_append]
    simp only [List.length_append,List.map_cons,List.map_nil,List.sum_cons,List.sum_nil]
    omega
   ·simp only
    rw [List.mem_append,hx]
    constructor
    ·rintro (⟨j,hj,q1,q2,q3⟩|q)
     ·exact ⟨j,hj,by omega,q2,q3⟩
     ·exact ⟨i,hil,by omega,hb,q⟩
    ·rintro ⟨j,hj,q1,q2,q3⟩
     by_cases e:j=i
     ·subst e; exact .inr q3
     ·exact .inl ⟨j,hj,by omega,q2,q3⟩) (by
  rintro ⟨ns,j⟩ ⟨hj,hl,hx⟩
  simp only at hj hl hx
  subst hj
  have:=hle (min (zEH c a b).length 3)
  unfold zBL
  simp only
  by_cases h3:(zEH c a b).length <3
  ·have ed:decide (((min (zEH c a b).length 3:Nat):Int)< ((zEH c a b).length :Int))=false:=by simp; omega
   rw [ed]
   exact ⟨_,rfl,by omega,hx⟩
  ·have ed:decide (((min (zEH c a b).length 3:Nat):Int)<3)=false:=by simp; omega
   rw [ed]
   cases decide (((min (zEH c a b).length 3:Nat):Int)< ((zEH c a b).length :Int))<;>exact ⟨_,rfl,by omega,hx⟩) (min (zEH c a b).length 3) 0 (([]:List ByteArray),0) (by omega) ⟨rfl,by simp,by simp⟩
 refine ⟨ns,e,h1,fun P hP=>?_⟩
 obtain ⟨q,hq,rfl⟩:=List.getElem_of_mem hP
 by_cases hb:q<min (zEH c a b).length 3∧(m / 2^q%2==1)=true
 ·exact .inl fun x hx=>(h2 x).2 ⟨q,hq,hb.1,hb.2,hx⟩
 ·refine .inr fun x hx hm=>?_
  obtain ⟨j,hj,q1,q2,q3⟩:=(h2 x).1 hm
  rcases Nat.lt_trichotomy j q with r|r|r
  ·exact (List.pairwise_iff_getElem.1 hpair j q hj hq r x q3 x hx).2 rfl
  ·subst r; exact hb ⟨q1,q2⟩
  ·exact (List.pairwise_iff_getElem.1 hpair q j hq hj r x hx x q3).2 rfl
theorem zJk {c:List Pack} {a:List Int} (h:zLa c a=true):SF c a=0∧GoodS c a:=by
 unfold zLa at h
 simp only [Bool.and_eq_true,beq_iff_eq] at h
 exact ⟨h.1,(zFR _ _).1 (List.length_eq_zero_iff.1 (by omega))⟩
theorem zK1 {c:List Pack} {a b:List Int} (hC:Cat c) (ha:a.length≤1048576) (hb:b.length≤1048576) (code:List Int) (hl:code.length≤1048576) (hD:zAr code=some (c,a,b)):zB9 code=some true:=by
 have hP:=zIc hC ha hb
 have hS:zC7 c a b=some (if zEc c a b=0 then {Code:=0,Parts:=zEH c a b} else {Code:=zEc c a b,Parts:=[]}):=by
  unfold zC7
  rw [zJr hC ha hb]
  simp only [Option.bind_some]
  by_cases h:zEc c a b=0
  ·rw [if_neg (by simpa using h),if_pos h,(zGM (zFy h).2).1]
   rfl
  ·rw [if_pos (by simpa using h),if_neg h]
 unfold zB9
 rw [zLU hl,hD]
 simp only [Option.bind_some,Bool.false_eq_true,if_false]
 rw [hP,hS]
 simp only [Option.bind_some]
 rw [zE5 hC ha,zE5 hC hb]
 by_cases h0:zEc c a b=0
 ·rw [if_pos h0]
  simp only [bne_self_eq_false,Bool.false_eq_true,if_false,Option.bind_some]
  cases hca:zLa c a
  ·rfl
  cases hcb:zLa c b
  ·rfl
  obtain ⟨hc0,h⟩:=zFy h0
  obtain ⟨f1,ga⟩:=zJk hca
  obtain ⟨f2,gb⟩:=zJk hcb
  have key:zBv (c,a,b) {Code:=0,Parts:=zEH c a b} 0=some (.nxt ()):=by
   unfold zBv
   refine zMc 8 (fun m hm=>?_) ?_
   ·obtain ⟨ns,e,n1,n2⟩:=zJ2 h hm 0
    have hg:=zLj h ga gb n2
    unfold zDl
    simp only
    rw [if_pos (by simp; omega),e]
    simp only [Option.bind_some]
    rw [zG5 hC f1 f2 n1]
    simp only [Option.bind_some]
    rw [zG6 hC hc0 hC.1,(zFR _ _).2 hg,zQ (by omega)]
    rfl
   ·unfold zDl
    rw [if_neg (by simp)]
  simp only [Bool.not_true,Bool.false_eq_true,if_false,Option.bind_some,key]
  rfl
 ·rw [if_neg h0]
  have:(zEc c a b !=0)=true:=by simpa using h0
  simp only [this,if_true,Option.bind_some,beq_self_eq_true]
theorem zIB (a1:List Int) (k1:a1.length≤maxLen∧∀y1∈a1,IntKind.u8.min≤y1∧y1≤IntKind.u8.max):zB9 a1=some true:=by
 by_cases h:a1.length≤1048576
 ·obtain ⟨s,e0,h0⟩:=zI7 h (fun c hc=>by have:=k1.2 c hc; simpa [IntKind.min,IntKind.max,IntKind.signed,IntKind.bits] using this)
  obtain ⟨c,x,y,s',e,hD,hx,hy,_⟩:=zKK h0 (by omega)
  refine zK1 hD.cat (a:=x) (b:=y) (by omega) (by omega) a1 h ?_
  unfold zAr
  rw [e0]
  simp only [Option.bind_some,e]
 ·unfold zB9 zDr
  have:decide ((a1.length:Int)>1048576)=true:=by simp; omega
  rw [this]
  rfl
end Go.Told

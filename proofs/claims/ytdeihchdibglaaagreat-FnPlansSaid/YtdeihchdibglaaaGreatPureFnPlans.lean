import Derived.Test.YtdeihchdibglaaaGreatToldFnPlans
set_option linter.unusedVariables false
set_option maxRecDepth 4000
namespace Go.Told
open Go Go.Im
theorem kG {x:Int} (h1: -9223372036854775808≤x) (h2:x≤9223372036854775807):w64 x=x:=by
 unfold w64
 rw [IntKind.wrap_i64]
 omega
theorem zM {i:Nat} (h:i<9223372036854775807):w64 ((i:Int)+1)=((i+1:Nat):Int):=by
 rw [kG (by omega) (by omega)]; omega
theorem vI {T:Type} {S:Type} {b:S→Option (Lp S T)} (I:Nat→S→Prop) (n:Nat) (Q:T→Prop) (hstep:∀i s,i<n→I i s→(∃s',b s=some (.go s')∧I (i+1) s')∨∃t,b s=some (.done t)∧Q t)
  (hend:∀s,I n s→∃t,b s=some (.done t)∧Q t):∀(k i:Nat) (s:S),i+k=n→I i s→∃t,loop b s=some t∧Q t
 |0,i,s,hk,hI=>by
  obtain ⟨t,h1,h2⟩:=hend s (by rw [show n=i by omega]; exact hI)
  exact ⟨t,by rw [uF,h1]; rfl,h2⟩
 |k+1,i,s,hk,hI=>by
  rcases hstep i s (by omega) hI with ⟨s',h1,h2⟩|⟨t,h1,h2⟩
  ·obtain ⟨t,h3,h4⟩:=vI I n Q hstep hend k (i+1) s' (by omega) h2
   exact ⟨t,by rw [uF,h1]; exact h3,h4⟩
  ·exact ⟨t,by rw [uF,h1]; rfl,h2⟩
theorem zI {α:Type} {xs:List α} {i:Nat} (h:i<xs.length):idx xs (i:Int)=some xs[i]:=by
 unfold idx
 rw [if_pos (by omega)]
 simp [h]
theorem zMi {R:Type} (n:Nat) {b:Int→Option (Lp Int (Fl R Unit))} (hstep:∀i:Nat,i<n→b (i:Int)=some (.go ((i+1:Nat):Int))) (hend:b (n:Int)=some (.done (.nxt ()))):loop b 0=some (.nxt ()):=by
 obtain ⟨t,h1,h2⟩:=vI (b:=b) (fun i s=>s=(i:Int)) n (fun t=>t= .nxt ()) (by
  rintro i s hi rfl
  exact .inl ⟨_,hstep i hi,rfl⟩) (by
  rintro s rfl
  exact ⟨_,hend,rfl⟩) n 0 0 (by omega) rfl
 rw [h1,h2]
theorem zKl {α β:Type} {xs:List α} {ys:List β} (h:xs.length=ys.length):same xs ys=some ():=if_pos h
theorem zGZ (a:ByteArray):seq a a=true:=by
 unfold seq
 simp
def c1 {α:Type} (_:α):Int:=1
theorem uH {α:Type} {B:Nat} {xs ys:List α} (h:(xs.length+ys.length)*B≤140737488355328) (h2:xs.length+ys.length≤4611686018427387904):app B xs ys=some (xs++ys):=if_pos ⟨h,h2⟩
theorem zHD {S T:Type} {b:S→Option (Lp S T)} (I:S→Prop) (μ:S→Nat) (Q:T→Prop) (step:∀s,I s→(∃s',b s=some (.go s')∧I s'∧μ s'<μ s)∨∃t,b s=some (.done t)∧Q t):∀(n:Nat) (s:S),μ s≤n→I s→∃t,loop b s=some t∧Q t
 |0,s,hn,hI=>by
  rcases step s hI with ⟨s',_,_,h3⟩|⟨t,h1,h2⟩
  ·omega
  ·exact ⟨t,by rw [uF,h1]; rfl,h2⟩
 |n+1,s,hn,hI=>by
  rcases step s hI with ⟨s',h1,h2,h3⟩|⟨t,h1,h2⟩
  ·obtain ⟨t,h4,h5⟩:=zHD I μ Q step n s' (by omega) h2
   exact ⟨t,by rw [uF,h1]; exact h4,h5⟩
  ·exact ⟨t,by rw [uF,h1]; rfl,h2⟩
def yB.sm (B:Nat) (x:yB):Prop:=(True)∧(x.Parts.length≤B∧∀y0∈x.Parts,y0.length≤B∧∀y1∈y0,y1.size≤B)
def zAc.sm (B:Nat) (x:zAc):Prop:=(True)∧(True)∧(x.Set.length≤B∧∀y0∈x.Set,True)
def wP.sm (B:Nat) (x:wP):Prop:=(True)∧(x.Sets.length≤B∧∀y0∈x.Sets,y0.length≤B∧∀y1∈y0,True)
def zCf.sm (B:Nat) (x:zCf):Prop:=(True)∧(True)
def SolveResult.sm (B:Nat) (x:SolveResult):Prop:=(True)∧(True)∧(x.Set.length≤B∧∀y0∈x.Set,True)
def zD.sm (B:Nat) (x:zD):Prop:=(x.Code.length≤B∧∀y0∈x.Code,True)∧(True)
def Version.sm (B:Nat) (x:Version):Prop:=(True)∧(True)∧(True)
def Term.sm (B:Nat) (x:Term):Prop:=(x.Name.size≤B)∧(Version.sm B x.Low)∧(Version.sm B x.High)
def Pack.sm (B:Nat) (x:Pack):Prop:=(x.Name.size≤B)∧(Version.sm B x.Version)∧(True)∧(x.Provides.length≤B∧∀y0∈x.Provides,y0.size≤B)∧(x.Needs.length≤B∧∀y0∈x.Needs,y0.length≤B∧∀y1∈y0,Term.sm B y1)∧(x.Bars.length≤B∧∀y0∈x.Bars,Term.sm B y0)
def zO.sm (B:Nat) (x:zO):Prop:=(True)∧(True)∧(True)
def xH.sm (B:Nat) (x:xH):Prop:=(True)∧(x.Denied.length≤B∧∀y0∈x.Denied,True)
def bl (s:ByteArray):List Int:=s.toList.map (fun b=>(b.toNat:Int))
theorem zFe (s:ByteArray):(bl s).length =s.size:=by
 unfold bl
 rw [List.length_map,ByteArray.toList_eq]
 rfl
theorem zIE {s:ByteArray} {i:Nat} (h:i< (bl s).length):bidx s (i:Int)=some (bl s)[i]:=by
 unfold bidx
 rw [if_pos (by omega)]
 have hs:i<s.size:=by rw [zFe] at h; exact h
 have e:s[(i:Int).toNat]? =some s[i]:=by simp [hs]
 rw [e]
 simp only [Option.map_some,bl,List.getElem_map]
 congr 2
 simp only [ByteArray.toList_eq]
 rfl
theorem zHK:∀(a:List UInt8),Op.bytesLess a a=false
 |[]=>rfl
 |x::a=>by simp [Op.bytesLess,zHK a]
theorem zId:∀{a b c:List UInt8},Op.bytesLess a b=true→Op.bytesLess b c=true→Op.bytesLess a c=true
 |_,[],_,h,_=>by simp [Op.bytesLess] at h
 |_,_::_,[],_,h=>by simp [Op.bytesLess] at h
 |[],_::_,_::_,_,_=>by simp [Op.bytesLess]
 |x::a,y::b,z::c,h1,h2=>by
  simp only [Op.bytesLess,Bool.or_eq_true,decide_eq_true_eq,Bool.and_eq_true,beq_iff_eq] at h1 h2 ⊢
  rcases h1 with h1|⟨rfl,h1⟩
  ·rcases h2 with h2|⟨rfl,h2⟩
   ·exact .inl (UInt8.lt_trans h1 h2)
   ·exact .inl h1
  ·rcases h2 with h2|⟨rfl,h2⟩
   ·exact .inl h2
   ·exact .inr ⟨rfl,zId h1 h2⟩
theorem toList_inj {a b:ByteArray} (h:a.toList=b.toList):a=b:=by
 rw [ByteArray.toList_eq,ByteArray.toList_eq] at h
 cases a; cases b
 simp at h
 rw [h]
theorem zDd (a:ByteArray):slt a a=false:=zHK _
theorem zED {a b c:ByteArray} (h1:slt a b=true) (h2:slt b c=true):slt a c=true:=zId h1 h2
theorem zIZ {a b:ByteArray} (h:slt a b=true):slt b a=false:=by
 cases h2:slt b a with
 |false=>rfl
 |true=>have:=zED h h2; rw [zDd] at this; cases this
theorem zDT {a b:ByteArray}:seq a b=true↔a=b:=by
 unfold seq
 simp only [beq_iff_eq]
 exact ⟨toList_inj,fun e=>by rw [e]⟩
theorem seq_eq (a b:ByteArray):seq a b=decide (a=b):=by
 rw [Bool.eq_iff_iff,zDT]; simp
def inB (a b c:Int):Bool:=decide (b≤a)&&decide (a≤c)
theorem zKd (a b c:Int):tY a b c=some (inB a b c):=by
 unfold tY inB
 by_cases h:a≥b<;>simp [h]
theorem zH0 (a b c:Int):uG a b c=some (inB a b c):=by
 unfold uG inB
 by_cases h:b≤a<;>simp [h]
section del
variable {α:Type} (p:α→Bool)
theorem zEq {xs:List α} {l h:Nat} (h1:l≤h) (h2:h≤xs.length):zEE xs (l:Int) (h:Int)=some ((xs.drop l).take (h-l)):=by
 unfold zEE
 rw [if_pos (by omega)]
 rfl
end del
section del
variable {α:Type} (p:α→Bool)
theorem zMu {xs:List α} {l n:Nat} {a:α} (h:l+n≤xs.length):zLI xs (l:Int) n a=some (xs.take l++List.replicate n a++xs.drop (l+n)):=by
 unfold zLI
 rw [if_pos (by omega)]
 simp [ovr]
end del
section del
variable {α:Type} (p:α→Bool)
theorem zNr {R:Type} (a1:List α) (out:Int→R) {b:Int→Option (Lp Int (Fl R Unit))} (hl:a1.length<9223372036854775807)
  (hstep:∀(i:Nat) (hi:i<a1.length),b (i:Int)=some (if p a1[i] then .done (.ret (out i)) else .go ((i+1:Nat):Int))) (hend:b (a1.length:Int)=some (.done (.nxt ()))):
  ∃t,loop b 0=some t∧((t= .nxt ()∧∀x∈a1,p x=false)∨∃i:Nat,∃hi:i<a1.length,t= .ret (out i)∧p a1[i]=true∧∀x∈a1.take i,p x=false):=by
 refine vI (b:=b) (fun i s=>s=(i:Int)∧∀x∈a1.take i,p x=false) a1.length _ (by
  rintro i s hi ⟨rfl,hn⟩
  have e:=hstep i hi
  cases hp:p a1[i]
  ·rw [hp] at e
   refine .inl ⟨_,e,rfl,fun x hx=>?_⟩
   rw [List.take_succ_eq_append_getElem hi] at hx
   rcases List.mem_append.1 hx with hx|hx
   ·exact hn x hx
   ·simp at hx; rw [hx]; exact hp
  ·rw [hp] at e
   exact .inr ⟨_,e,.inr ⟨i,hi,rfl,hp,hn⟩⟩) (by
  rintro s ⟨rfl,hn⟩
  rw [List.take_length] at hn
  exact ⟨_,hend,.inl ⟨rfl,hn⟩⟩) a1.length 0 0 (by omega) ⟨rfl,by simp⟩
end del
section del
variable {α:Type} (p:α→Bool)
theorem zHc {xs:List α} {i:Nat} {x:α} (h:i<xs.length):(xs.set i x).take (i+1)=xs.take i++[x]:=by
 rw [List.take_succ_eq_append_getElem (by simpa using h),List.take_set_of_le (Nat.le_refl _)]
 simp
end del
section del
variable {α:Type} (p:α→Bool)
theorem set_drop {xs:List α} {i j:Nat} {x:α} (h:i<j):(xs.set i x).drop j=xs.drop j:=by
 rw [List.drop_set_of_lt h]
end del
section del
variable {α:Type} (p:α→Bool)
theorem zMp (a:List α) {b:(List α×Int×Int)→Option (Lp (List α×Int×Int) (List α×Int))} (hl:a.length<9223372036854775807)
  (hstep:∀(xs:List α) (i j:Nat) (hj:j<xs.length),i≤j→xs.length=a.length→xs[j]∈a→b (xs,(i:Int),(j:Int))=some (.go (if p xs[j] then (xs,(i:Int),((j+1:Nat):Int)) else (xs.set i xs[j],((i+1:Nat):Int),((j+1:Nat):Int)))))
  (hend:∀(xs:List α) (i:Nat),xs.length=a.length→b (xs,(i:Int),(xs.length:Int))=some (.done (xs,(i:Int)))) (i0 j0:Nat) (hij:i0≤j0) (hj0:j0≤a.length) (h0:a.take i0=(a.take j0).filter (fun x=> !p x)):
  ∃ys:List α,loop b (a,(i0:Int),(j0:Int))=some (ys,((a.filter (fun x=> !p x)).length :Int))∧ys.length=a.length∧ys.take (a.filter (fun x=> !p x)).length =a.filter (fun x=> !p x):=by
 obtain ⟨t,e,h⟩:=vI (b:=b) (fun j s=>s.1.length=a.length∧s.1.drop j=a.drop j∧s.2.2=(j:Int)∧∃i:Nat,s.2.1=(i:Int)∧i≤j∧s.1.take i=(a.take j).filter (fun x=> !p x)) a.length
  (fun t=>t.1.length=a.length∧∃i:Nat,t.2=(i:Int)∧i≤a.length∧t.1.take i=a.filter (fun x=> !p x)) (by
  rintro j ⟨xs,i',j'⟩ hj ⟨hxl,hxd,hjj,i,hi,hle,ht⟩
  simp only at hxl hxd hjj hi ht
  subst hjj hi
  have hjx:j<xs.length:=by omega
  have hx:xs[j]=a[j]:=by
   have:=congrArg (fun l=>l[0]?) hxd
   simp only [List.getElem?_drop,Nat.add_zero] at this
   rw [List.getElem?_eq_getElem hjx,List.getElem?_eq_getElem hj] at this
   exact Option.some.inj this
  have e:=hstep xs i j hjx hle hxl (by rw [hx]; exact List.getElem_mem hj)
  have htk:(a.take (j+1)).filter (fun x=> !p x)=(a.take j).filter (fun x=> !p x)++(if p a[j] then [] else [a[j]]):=by
   rw [List.take_succ_eq_append_getElem hj,List.filter_append]
   cases h:p a[j]<;>simp [h]
  have hd1:a.drop (j+1)=xs.drop (j+1):=by
   have:=congrArg (List.drop 1) hxd
   simpa [List.drop_drop] using this.symm
  rw [hx] at e
  cases hp:p a[j]
  ·rw [hp] at e htk
   refine .inl ⟨_,e,by simpa using hxl,?_,rfl,i+1,rfl,by omega,?_⟩
   ·show (xs.set i a[j]).drop (j+1)=a.drop (j+1)
    rw [set_drop (by omega),hd1]
   ·show (xs.set i a[j]).take (i+1)=_
    rw [zHc (by omega),htk,ht]
    rfl
  ·rw [hp] at e htk
   refine .inl ⟨_,e,hxl,?_,rfl,i,rfl,by omega,?_⟩
   ·exact hd1.symm
   ·show xs.take i=_
    rw [htk,ht]
    simp) (by
  rintro ⟨xs,i',j'⟩ ⟨hxl,hxd,hjj,i,hi,hle,ht⟩
  simp only at hxl hxd hjj hi ht
  subst hjj hi
  have e:=hend xs i hxl
  rw [hxl] at e
  refine ⟨_,e,hxl,i,rfl,hle,?_⟩
  rw [List.take_length] at ht
  exact ht) (a.length-j0) j0 (a,(i0:Int),(j0:Int)) (by omega) ⟨rfl,rfl,rfl,i0,rfl,hij,h0⟩
 obtain ⟨ys,i'⟩:=t
 obtain ⟨h1,i,h2,h3,h4⟩:=h
 simp only at h1 h2 h4
 subst h2
 have hlen:i=(a.filter (fun x=> !p x)).length :=by rw [←h4]; simp; omega
 subst hlen
 exact ⟨ys,e,h1,h4⟩
end del
section del
variable {α:Type} (p:α→Bool)
theorem zNP {a ys:List α} (zero:α) (h1:ys.length=a.length) (h2:ys.take (a.filter (fun x=> !p x)).length =a.filter (fun x=> !p x)):
  (zEE ys ((a.filter (fun x=> !p x)).length :Int) (ys.length:Int)).bind (fun r=>(zLI ys ((a.filter (fun x=> !p x)).length :Int) r.length zero).bind fun z=>(zEE z 0 ((a.filter (fun x=> !p x)).length :Int)).bind fun q=>some q)=some (a.filter (fun x=> !p x)):=by
 have hle:(a.filter (fun x=> !p x)).length ≤ys.length:=by rw [h1]; exact List.length_filter_le _ _
 rw [zEq hle (Nat.le_refl _)]
 simp only [Option.bind_some]
 rw [zMu (by simp; omega)]
 simp only [Option.bind_some]
 have:zEE (List.take (List.filter (fun x=> !p x) a).length ys++List.replicate (List.take (ys.length-(List.filter (fun x=> !p x) a).length) (List.drop (List.filter (fun x=> !p x) a).length ys)).length zero++
   List.drop ((List.filter (fun x=> !p x) a).length +(List.take (ys.length-(List.filter (fun x=> !p x) a).length) (List.drop (List.filter (fun x=> !p x) a).length ys)).length) ys) ((0:Nat):Int) ((a.filter (fun x=> !p x)).length :Int)=some (a.filter (fun x=> !p x)):=by
  rw [zEq (by omega) (by simp; omega)]
  rw [h2]
  simp
 exact (congrArg (fun o=>Option.bind o fun q=>some q) this)
end del
section del
variable {α:Type} (p:α→Bool)
theorem zJG (a:List α) (zero:α) (hl:a.length≤1048577) {b1:Int→Option (Lp Int (Fl Int Unit))} {b2:(List α×Int×Int)→Option (Lp (List α×Int×Int) (List α×Int))}
  (h1:∀(i:Nat) (hi:i<a.length),b1 (i:Int)=some (if p a[i] then .done (.ret (i:Int)) else .go ((i+1:Nat):Int))) (h1e:b1 (a.length:Int)=some (.done (.nxt ())))
  (h2:∀(xs:List α) (i j:Nat) (hj:j<xs.length),i≤j→xs.length=a.length→xs[j]∈a→b2 (xs,(i:Int),(j:Int))=some (.go (if p xs[j] then (xs,(i:Int),((j+1:Nat):Int)) else (xs.set i xs[j],((i+1:Nat):Int),((j+1:Nat):Int)))))
  (h2e:∀(xs:List α) (i:Nat),xs.length=a.length→b2 (xs,(i:Int),(xs.length:Int))=some (.done (xs,(i:Int)))):
  ((loop b1 0).bind (Fl.go some fun _=>some (-1))).bind (fun x4=>if x4==(-1) then (some a) else ((loop b2 (a,x4,w64 (x4+1))).bind fun v26=>(zEE v26.1 v26.2 (v26.1.length:Int)).bind fun x27=>(zLI v26.1 v26.2 x27.length zero).bind fun x29=>(zEE x29 0 v26.2).bind fun x31=>some x31))=some (a.filter (fun x=> !p x)):=by
 obtain ⟨t,e,h⟩:=zNr p a (fun i=>i) (b:=b1) (by omega) h1 h1e
 rw [e]
 rcases h with ⟨rfl,hn⟩|⟨i,hi,rfl,hp,hn⟩
 ·show some a=_
  congr 1
  exact (List.filter_eq_self.2 (fun x hx=>by rw [hn x hx]; rfl)).symm
 ·simp only [Option.bind_some,Fl.go]
  rw [if_neg (by simp),zM (by omega)]
  obtain ⟨ys,e2,h3,h4⟩:=zMp p a (b:=b2) (by omega) h2 h2e i (i+1) (by omega) (by omega) (by
   rw [List.take_succ_eq_append_getElem hi,List.filter_append]
   rw [List.filter_eq_self.2 (fun x hx=>by rw [hn x hx]; rfl)]
   simp [hp])
  rw [e2]
  simp only [Option.bind_some]
  exact zNP p zero h3 h4
end del
def vE {α R:Type} (g:Nat→α→Option R):Nat→List α→Option R
 |_,[]=>none
 |i,x::xs=>match g i x with
  |some r=>some r
  |none=>vE g (i+1) xs
def frs {R:Type}:Option R→Fl R Unit
 |some r=>.ret r
 |none=>.nxt ()
theorem zIt {α R:Type} (xs:List α) (g:Nat→α→Option R) {b:Int→Option (Lp Int (Fl R Unit))}
  (hstep:∀(i:Nat) (hi:i<xs.length),b (i:Int)=some (match g i xs[i] with|some r=>.done (.ret r)|none=>.go ((i+1:Nat):Int))) (hend:b (xs.length:Int)=some (.done (.nxt ()))):
  ∀(k i:Nat),i+k=xs.length→loop b (i:Int)=some (frs (vE g i (xs.drop i)))
 |0,i,h=>by
  have e:i=xs.length:=by omega
  subst e
  rw [uF,hend,List.drop_length]
  rfl
 |k+1,i,h=>by
  have hi:i<xs.length:=by omega
  have ih:=zIt xs g hstep hend k (i+1) (by omega)
  rw [uF,hstep i hi,List.drop_eq_getElem_cons hi]
  simp only [vE]
  cases g i xs[i] with
  |some r=>rfl
  |none=>exact ih
theorem wQ {α R:Type} (xs:List α) (g:Nat→α→Option R) {b:Int→Option (Lp Int (Fl R Unit))}
  (hstep:∀(i:Nat) (hi:i<xs.length),b (i:Int)=some (match g i xs[i] with|some r=>.done (.ret r)|none=>.go ((i+1:Nat):Int))) (hend:b (xs.length:Int)=some (.done (.nxt ()))):
  loop b 0=some (frs (vE g 0 xs)):=by
 have:=zIt xs g hstep hend xs.length 0 (by omega)
 simpa using this
theorem zAV {R T:Type} (o:Option R) (f:R→Option T) (h:Unit→Option T):(some (frs o)).bind (Fl.go f h)=match o with|some r=>f r|none=>h ():=by
 cases o<;>rfl
theorem zCz {α:Type} (p:α→Bool):∀(xs:List α) (i:Nat),((vE (fun j x=>if p x then some (j:Int) else none) i xs).getD (-1)≥0)↔xs.any p=true
 |[],i=>by simp [vE]
 |x::xs,i=>by
  simp only [vE]
  cases h:p x
  ·simp only [Bool.false_eq_true,if_false,List.any_cons,h,Bool.false_or]
   exact zCz p xs (i+1)
  ·simp [h]
theorem zFx {α:Type} (p:α→Bool):∀(xs:List α) (i:Nat),(vE (fun _ x=>if p x then some true else none) i xs).getD false=xs.any p
 |[],i=>rfl
 |x::xs,i=>by
  simp only [vE]
  cases h:p x
  ·simp only [Bool.false_eq_true,if_false,List.any_cons,h,Bool.false_or]
   exact zFx p xs (i+1)
  ·simp [h]
def foldI {α A:Type} (f:Nat→A→α→A):Nat→List α→A→A
 |_,[],a=>a
 |i,x::xs,a=>foldI f (i+1) xs (f i a x)
theorem zEZ {α A:Type} (xs:List α) (f:Nat→A→α→A) (I:Nat→A→Prop) {b:(A×Int)→Option (Lp (A×Int) A)}
  (hstep:∀(i:Nat) (a:A) (hi:i<xs.length),I i a→b (a,(i:Int))=some (.go (f i a xs[i],((i+1:Nat):Int)))∧I (i+1) (f i a xs[i])) (hend:∀a,b (a,(xs.length:Int))=some (.done a)):
  ∀(k i:Nat) (a:A),i+k=xs.length→I i a→loop b (a,(i:Int))=some (foldI f i (xs.drop i) a)∧I xs.length (foldI f i (xs.drop i) a)
 |0,i,a,h,hI=>by
  have e:i=xs.length:=by omega
  subst e
  rw [uF,hend,List.drop_length]
  exact ⟨rfl,hI⟩
 |k+1,i,a,h,hI=>by
  have hi:i<xs.length:=by omega
  obtain ⟨h1,h2⟩:=hstep i a hi hI
  have ih:=zEZ xs f I hstep hend k (i+1) _ (by omega) h2
  rw [uF,h1,List.drop_eq_getElem_cons hi]
  exact ih
theorem zEk {o:Option Int} {b:Bool} (h:(o.getD (-1)≥0)↔b=true):decide (o.getD (-1)≥0)=b:=by
 rw [Bool.eq_iff_iff,decide_eq_true_eq]; exact h
theorem zK3:∀(a b:List UInt8),(Lib.compareBytes a b<0↔Op.bytesLess a b=true)∧(Lib.compareBytes a b=0↔a=b)
 |[],[]=>by simp [Lib.compareBytes,Op.bytesLess]
 |[],_::_=>by simp [Lib.compareBytes,Op.bytesLess]
 |_::_,[]=>by simp [Lib.compareBytes,Op.bytesLess]
 |x::a,y::b=>by
  obtain ⟨ih1,ih2⟩:=zK3 a b
  simp only [Lib.compareBytes,Op.bytesLess]
  by_cases h1:x<y
  ·simp [h1]
   intro e; subst e; exact absurd h1 (by simp [UInt8.lt_irrefl])
  ·by_cases h2:y<x
   ·simp [h1,h2]
    have hne:x≠y:=fun e=>by subst e; exact absurd h2 (by simp [UInt8.lt_irrefl])
    simp [hne]
   ·have e:x=y:=by
     rw [UInt8.lt_iff_toNat_lt] at h1 h2
     exact UInt8.toNat_inj.1 (by omega)
    subst e
    simp [UInt8.lt_irrefl,ih1,ih2]
theorem zNV (a b:ByteArray):zPM a b<0↔slt a b=true:=by
 unfold zPM slt
 rw [ByteArray.toList_eq,ByteArray.toList_eq]
 exact (zK3 _ _).1
theorem zGT (l:List Int) (v:Int) (h:l.length≤1048576):tF l v=some (decide (v∈l)):=by
 obtain ⟨t,e,ht⟩:=vI (b:=zDo l v) (fun i s=>s=(i:Int)∧v∉l.take i) l.length (fun t=>match t with| .ret r=>r=true∧v∈l| .nxt _=>v∉l) (by
  rintro i s hi ⟨rfl,hv⟩
  unfold zDo
  rw [if_pos (by simp; omega)]
  simp only [zI hi,Option.bind_some]
  by_cases hc:l[i]=v
  ·rw [if_pos (by simpa using hc)]
   exact .inr ⟨_,rfl,rfl,hc▸List.getElem_mem hi⟩
  ·rw [if_neg (by simpa using hc),zM (by omega)]
   refine .inl ⟨_,rfl,rfl,?_⟩
   rw [List.take_succ_eq_append_getElem hi]
   simp only [List.mem_append,List.mem_singleton,not_or]
   exact ⟨hv,fun e=>hc e.symm⟩) (by
  rintro s ⟨rfl,hv⟩
  unfold zDo
  rw [if_neg (by simp)]
  rw [List.take_length] at hv
  exact ⟨_,rfl,hv⟩) l.length 0 0 (by omega) ⟨rfl,by simp⟩
 unfold tF
 rw [show zDJ l v 0=some t from e]
 cases t with
 |ret r=>obtain ⟨rfl,hm⟩:=ht; simp [Fl.go,hm]
 |nxt _=>simp only [Fl.go,Option.bind_some]; rw [decide_eq_false ht]
def zMT (c:Int):Bool:=decide (97≤c)&&decide (c≤122)
def zJq (c:Int):Bool:=decide (48≤c)&&decide (c≤57)
def zMK (c:Int):Bool:=zMT c||(zJq c||c==95)
theorem zH3 (c:Int):jI c=some (zMT c):=by
 unfold jI zMT
 by_cases h:c≥97<;>simp [h]
theorem zL6 (c:Int):zBK c=some (zJq c):=by
 unfold zBK zJq
 by_cases h:c≥48<;>simp [h]
theorem zMd (c:Int):zDD c=some (zMK c):=by
 unfold zDD zMK
 simp only [zH3,zL6,Option.bind_some]
 cases zMT c<;>cases zJq c<;>simp
theorem zIO (c:Int):zAB c=some (zMK c):=by
 unfold zAB zMK zMT zJq
 by_cases h1:c≥97<;>by_cases h2:c≤122<;>by_cases h3:c≥48<;>by_cases h4:c≤57<;>simp [h1,h2,h3,h4]
def zIN (s:ByteArray):Int:=(vE (fun _ c=>if zMK c then none else some (5:Int)) 0 (bl s)).getD 0
def NF (s:ByteArray):Int:=if s.size<1 then 5 else if s.size>12 then 5 else if zMT ((bl s).headD 0) then zIN s else 5
theorem zLO {s:ByteArray} (h:1≤s.size):bidx s 0=some ((bl s).headD 0):=by
 have h':0< (bl s).length :=by rw [zFe]; exact h
 have e:=zIE (s:=s) (i:=0) h'
 rw [show ((0:Nat):Int)=0 from rfl] at e
 rw [e]
 have:(bl s)[0]? =some ((bl s).headD 0):=by
  cases hb:bl s with
  |nil=>rw [hb] at h'; simp at h'
  |cons c l=>rfl
 rw [List.getElem?_eq_getElem h'] at this
 exact this
theorem zI0 (s:ByteArray) (h:s.size≤12):zAr s 0=some (frs (vE (fun _ c=>if zMK c then none else some (5:Int)) 0 (bl s))):=by
 unfold zAr
 refine wQ (bl s) _ (fun i hi=>?_) ?_
 ·have hs:i<s.size:=by rw [←zFe]; exact hi
  unfold zC4
  rw [if_pos (by simp; omega),zIE hi]
  simp only [Option.bind_some,zMd]
  rw [zM (by omega)]
  cases zMK (bl s)[i]<;>rfl
 ·unfold zC4
  rw [if_neg (by rw [zFe]; simp)]
theorem zIM (s:ByteArray) (h:s.size≤12):zAz s 0=some (frs (vE (fun _ c=>if zMK c then none else some (5:Int)) 0 (bl s))):=by
 unfold zAz
 refine wQ (bl s) _ (fun i hi=>?_) ?_
 ·have hs:i<s.size:=by rw [←zFe]; exact hi
  unfold zC3
  rw [if_pos (by simp; omega),zIE hi]
  simp only [Option.bind_some,zIO]
  rw [zM (by omega)]
  cases zMK (bl s)[i]<;>rfl
 ·unfold zC3
  rw [if_neg (by rw [zFe]; simp)]
theorem zEQ (s:ByteArray):tL s=some (NF s):=by
 unfold tL NF
 by_cases h1:s.size<1
 ·rw [if_pos (show decide ((s.size:Int)<1)=true by rw [decide_eq_true_eq]; omega),if_pos h1]; rfl
 rw [if_neg (show ¬decide ((s.size:Int)<1)=true by rw [decide_eq_true_eq]; omega),if_neg h1]
 by_cases h2:s.size>12
 ·rw [if_pos (show decide ((s.size:Int)>12)=true by rw [decide_eq_true_eq]; omega),if_pos h2]; rfl
 rw [if_neg (show ¬decide ((s.size:Int)>12)=true by rw [decide_eq_true_eq]; omega),if_neg h2,zLO (by omega),zI0 s (by omega)]
 simp only [Option.bind_some,zH3]
 cases h3:zMT ((bl s).headD 0)
 ·rfl
 ·unfold zIN
  cases vE (fun _ c=>if zMK c then none else some (5:Int)) 0 (bl s)<;>rfl
theorem zN3 (c:Int):(if decide (c<97)=true then some true else some (decide (c>122)))=some (!(zMT c)):=by
 unfold zMT
 by_cases h3:c<97
 ·rw [if_pos (by rw [decide_eq_true_eq]; exact h3)]
  have:decide (97≤c)=false:=by rw [decide_eq_false_iff_not]; omega
  rw [this]; rfl
 ·rw [if_neg (by rw [decide_eq_true_eq]; exact h3)]
  have:decide (97≤c)=true:=by rw [decide_eq_true_eq]; omega
  rw [this]
  congr 1
  rw [Bool.true_and,Bool.eq_iff_iff]
  simp
theorem zEP (s:ByteArray):tK s=some (NF s):=by
 unfold tK NF
 by_cases h1:s.size<1
 ·rw [if_pos (show decide ((s.size:Int)<1)=true by rw [decide_eq_true_eq]; omega),if_pos h1]; rfl
 rw [if_neg (show ¬decide ((s.size:Int)<1)=true by rw [decide_eq_true_eq]; omega),if_neg h1]
 by_cases h2:s.size>12
 ·rw [if_pos (show decide ((s.size:Int)>12)=true by rw [decide_eq_true_eq]; omega),if_pos h2]; rfl
 rw [if_neg (show ¬decide ((s.size:Int)>12)=true by rw [decide_eq_true_eq]; omega),if_neg h2,zLO (by omega),zIM s (by omega)]
 simp only [Option.bind_some,zN3]
 cases h3:zMT ((bl s).headD 0)
 ·rfl
 ·unfold zIN
  cases vE (fun _ c=>if zMK c then none else some (5:Int)) 0 (bl s)<;>rfl
def VF (v:Version):Int:=if inB v.A 0 999&&inB v.B 0 999&&inB v.C 0 999 then 0 else 3
theorem zEX (v:Version):vQ v=some (VF v):=by
 unfold vQ VF
 simp only [zKd,Option.bind_some]
 cases inB v.A 0 999<;>cases inB v.B 0 999<;>cases inB v.C 0 999<;>rfl
theorem zFa (v:Version):vP v=some (VF v):=by
 unfold vP VF
 simp only [zH0,Option.bind_some]
 cases inB v.A 0 999<;>cases inB v.B 0 999<;>cases inB v.C 0 999<;>rfl
def sgn (a b:Int):Int:=if a<b then-1 else if a>b then 1 else 0
theorem zLS (a b:Int):zA4 a b=some (sgn a b):=by
 unfold zA4 sgn
 by_cases h:a<b
 ·simp [h]
 ·by_cases h2:a>b<;>simp [h,h2]
theorem cmp_eq (a b:Int):vM a b=some (sgn a b):=by
 unfold vM kK sgn
 simp only [Option.bind_some,bne_self_eq_false,Bool.false_eq_true,if_false]
 by_cases h:a<b
 ·simp [h]
 ·by_cases h2:a>b<;>simp [h,h2]
def zIg (a b:Version):Int:=if sgn a.A b.A≠0 then sgn a.A b.A else if sgn a.B b.B≠0 then sgn a.B b.B else sgn a.C b.C
theorem zBx (a b:Version):yM a b=some (zIg a b):=by
 unfold yM zIg
 simp only [zLS,Option.bind_some]
 by_cases h1:sgn a.A b.A=0
 ·by_cases h2:sgn a.B b.B=0<;>simp [h1,h2]
 ·simp [h1]
theorem zOw (l:List Int) (h:l.length≤10):loop (zDz l) 0=some (frs (vE (fun _ c=>if c !=0 then some c else none) 0 l)):=by
 refine wQ l _ (fun i hi=>?_) ?_
 ·unfold zDz
  rw [if_pos (by simp; omega),zI hi]
  simp only [Option.bind_some]
  rw [zM (by omega)]
  cases l[i] !=0<;>rfl
 ·unfold zDz
  rw [if_neg (by simp)]
theorem zGO (a b:Version):jU a b=some (zIg a b):=by
 unfold jU zIg zE5 zDU
 simp only [cmp_eq,Option.bind_some]
 rw [zOw _ (by simp),zAV]
 by_cases h1:sgn a.A b.A=0
 ·by_cases h2:sgn a.B b.B=0
  ·by_cases h3:sgn a.C b.C=0<;>simp [h1,h2,h3,vE]
  ·simp [h1,h2,vE]
 ·simp [h1,vE]
theorem zLV (a b:Version):zIg b a= -zIg a b:=by
 unfold zIg sgn
 split<;>split<;>omega
def eqV (a b:Version):Bool:=a.A==b.A&&(a.B==b.B&&(a.C==b.C&&true))
theorem zMc (a b:Version):(zIg a b==0)=eqV a b:=by
 unfold zIg eqV sgn
 rw [Bool.eq_iff_iff]
 simp only [beq_iff_eq,Bool.and_eq_true,Bool.and_true]
 constructor
 ·intro h
  split at h<;>omega
 ·intro ⟨h1,h2,h3⟩
  split<;>omega
def zPd:Version:= {A:=1000,B:=0,C:=0}
def TF (t:Term):Int:=if NF t.Name≠0 then NF t.Name else if VF t.Low≠0 then VF t.Low else
 if eqV t.High zPd=false∧VF t.High≠0 then 3 else if zIg t.Low t.High≥0 then 1 else 0
theorem zIc (t:Term):zBk t=some (TF t):=by
 unfold zBk TF zAH
 simp only [zEQ,zEX,zBx,Option.bind_some]
 show (if (NF t.Name !=0)=true then some (NF t.Name) else if (VF t.Low !=0)=true then some (VF t.Low) else (if (!(eqV t.High zPd))=true then some (VF t.High !=0) else some false).bind fun v=>if v=true then some 3 else if decide (zIg t.Low t.High≥0)=true then some 1 else some 0)=_
 generalize NF t.Name=a
 generalize VF t.Low=b
 generalize eqV t.High zPd=c
 generalize VF t.High=d
 generalize zIg t.Low t.High=e
 by_cases h1:a=0
 ·by_cases h2:b=0
  ·by_cases h4:d=0<;>by_cases h5:e≥0<;>cases c<;>simp [h1,h2,h4,h5]
  ·simp [h1,h2]
 ·simp [h1]
theorem zHZ (t:Term):zBh t=some (TF t):=by
 unfold zBh TF zFk
 simp only [zEP,zFa,zGO,Option.bind_some]
 show (if (NF t.Name !=0)=true then some (NF t.Name) else if (VF t.Low !=0)=true then some (VF t.Low) else (if (!(eqV t.High zPd))=true then some (VF t.High !=0) else some false).bind fun v=>if v=true then some 3 else if decide (zIg t.Low t.High≥0)=true then some 1 else some 0)=_
 generalize NF t.Name=a
 generalize VF t.Low=b
 generalize eqV t.High zPd=c
 generalize VF t.High=d
 generalize zIg t.Low t.High=e
 by_cases h1:a=0
 ·by_cases h2:b=0
  ·by_cases h4:d=0<;>by_cases h5:e≥0<;>cases c<;>simp [h1,h2,h4,h5]
  ·simp [h1,h2]
 ·simp [h1]
def tsF (l:List Term):Int:=(vE (fun _ t=>if TF t !=0 then some (TF t) else none) 0 l).getD 0
theorem zGK (l:List Term) (h:l.length≤1048576):zAk l=some (tsF l):=by
 have key:=wQ l (fun _ t=>if TF t !=0 then some (TF t) else none) (b:=zCr l) (by
  intro i hi
  unfold zCr
  rw [if_pos (by simp; omega),zI hi]
  simp only [Option.bind_some,zIc]
  rw [zM (by omega)]
  cases TF l[i] !=0<;>rfl) (by
  unfold zCr
  rw [if_neg (by simp)])
 unfold zAk zCA tsF
 rw [key,zAV]
 cases vE (fun _ t=>if TF t !=0 then some (TF t) else none) 0 l<;>rfl
theorem zF4 (l:List Term) (h:l.length≤1048576):tH l=some (tsF l):=by
 have key:=wQ l (fun _ t=>if TF t !=0 then some (TF t) else none) (b:=zA8 l) (by
  intro i hi
  unfold zA8
  rw [if_pos (by simp; omega),zI hi]
  simp only [Option.bind_some,zHZ]
  rw [zM (by omega)]
  cases TF l[i] !=0<;>rfl) (by
  unfold zA8
  rw [if_neg (by simp)])
 unfold tH zBb tsF
 rw [key,zAV]
 cases vE (fun _ t=>if TF t !=0 then some (TF t) else none) 0 l<;>rfl
theorem zI4 (a b:ByteArray):seq a b=seq b a:=by
 unfold seq
 rw [Bool.eq_iff_iff]
 simp only [beq_iff_eq]
 exact eq_comm
theorem zFy {α R:Type} (g:Nat→α→Option R):∀(xs:List α) (i:Nat),vE g i xs=none↔∀(j:Nat) (h:j<xs.length),g (i+j) xs[j]=none
 |[],i=>by simp [vE]
 |x::xs,i=>by
  simp only [vE]
  cases h:g i x with
  |some r=>
   simp only [reduceCtorEq,false_iff]
   intro hh
   have:=hh 0 (by simp)
   simp only [Nat.add_zero,List.getElem_cons_zero] at this
   rw [h] at this
   cases this
  |none=>
   show vE g (i+1) xs=none↔_
   rw [zFy g xs (i+1)]
   constructor
   ·intro hh j hj
    cases j with
    |zero=>simpa using h
    |succ j=>
     have:=hh j (by simpa using hj)
     rw [show i+(j+1)=i+1+j by omega]
     simpa using this
   ·intro hh j hj
    have:=hh (j+1) (by simpa using hj)
    rw [show i+(j+1)=i+1+j by omega] at this
    simpa using this
theorem zFG {α:Type} {xs:List α} {i:Nat} (h:i≤xs.length):zEE xs 0 (i:Int)=some (xs.take i):=by
 have:=zEq (xs:=xs) (l:=0) (h:=i) (by omega) h
 rw [show ((0:Nat):Int)=0 from rfl] at this
 rw [this]
 simp
theorem zEe (l:List ByteArray) (n:ByteArray) (h:l.length≤1048576):uY l n=some (l.any fun x=>seq x n):=by
 have key:=wQ l (fun _ x=>if seq x n then some true else none) (b:=zCp l n) (by
  intro i hi
  unfold zCp
  rw [if_pos (by simp; omega),zI hi]
  simp only [Option.bind_some]
  rw [zM (by omega)]
  cases seq l[i] n<;>rfl) (by
  unfold zCp
  rw [if_neg (by simp)])
 unfold uY zDb
 rw [key,zAV,←zFx (fun x=>seq x n) l 0]
 cases vE (fun _ x=>if seq x n then some true else none) 0 l<;>rfl
theorem zDi (l:List ByteArray) (n:ByteArray) (h:l.length≤1048576):yA l n=some (l.any fun x=>seq x n):=by
 have key:=wQ l (fun i x=>if seq x n then some (i:Int) else none) (b:=tX l n) (by
  intro i hi
  unfold tX
  rw [if_pos (by simp; omega),zI hi]
  simp only [Option.bind_some]
  rw [zM (by omega),zI4 n]
  cases seq l[i] n<;>rfl) (by
  unfold tX
  rw [if_neg (by simp)])
 unfold yA jS jO
 rw [key,zAV]
 rw [←zEk (zCz (fun x=>seq x n) l 0)]
 cases vE (fun j x=>if seq x n then some (j:Int) else none) 0 l<;>rfl
def zJR (p:Pack) (i:Nat) (n:ByteArray):Option Int:=if NF n !=0 then some (NF n) else if seq n p.Name||(p.Provides.take i).any (fun x=>seq x n) then some 6 else none
def zKr (_:Nat) (l:List Term):Option Int:=if (l.length:Int)==0 then some 1 else if tsF l !=0 then some (tsF l) else none
def zL3 (p:Pack):Bool:=decide ((p.Provides.length:Int)>4)||(decide ((p.Needs.length:Int)>4)||(decide ((p.Bars.length:Int)>4)||p.Needs.any (fun l=>decide ((l.length:Int)>4))))
def zJe (p:Pack):Int:=match vE (zJR p) 0 p.Provides with
 |some r=>r
 |none=>match vE zKr 0 p.Needs with
  |some r=>r
  |none=>tsF p.Bars
def PF (p:Pack):Int:=if NF p.Name !=0 then NF p.Name else if VF p.Version !=0 then VF p.Version else if !(inB p.Size 1 200) then 3 else if zL3 p then 2 else zJe p
theorem zHq (p:Pack) (hp:Pack.sm 1048576 p):((zAv p 0).bind (Fl.go some fun v60=>(zAu p 0).bind (Fl.go some fun v80=>(zAk p.Bars).bind fun x81=>some x81)))=some (zJe p):=by
 obtain ⟨_,_,_,hpr,hne,hba⟩:=hp
 have k2:=wQ p.Provides (zJR p) (b:=zAS p) (by
  intro i hi
  unfold zAS zJR
  rw [if_pos (by simp; omega),zI hi]
  simp only [Option.bind_some,zEQ]
  rw [zFG (by omega)]
  simp only [Option.bind_some]
  rw [zEe _ _ (by simp; omega),zM (by omega)]
  simp only [Option.bind_some]
  cases NF p.Provides[i] !=0<;>cases seq p.Provides[i] p.Name<;>cases (p.Provides.take i).any (fun x=>seq x p.Provides[i])<;>rfl) (by
  unfold zAS
  rw [if_neg (by simp)])
 have k3:=wQ p.Needs zKr (b:=zAM p) (by
  intro i hi
  unfold zAM zKr
  rw [if_pos (by simp; omega),zI hi]
  simp only [Option.bind_some]
  rw [zGK _ (hne.2 _ (List.getElem_mem hi)).1,zM (by omega)]
  simp only [Option.bind_some]
  cases (p.Needs[i].length :Int)==0<;>cases tsF p.Needs[i] !=0<;>rfl) (by
  unfold zAM
  rw [if_neg (by simp)])
 unfold zAv zAu zJe
 rw [k2,k3,zGK _ hba.1]
 cases vE (zJR p) 0 p.Provides<;>cases vE zKr 0 p.Needs<;>rfl
theorem zGS (p:Pack) (hp:Pack.sm 1048576 p):((zAq p 0).bind (Fl.go some fun v46=>(zAs p 0).bind (Fl.go some fun v62=>(tH p.Bars).bind fun x63=>some x63)))=some (zJe p):=by
 obtain ⟨_,_,_,hpr,hne,hba⟩:=hp
 have k2:=wQ p.Provides (zJR p) (b:=zBa p) (by
  intro i hi
  unfold zBa zJR
  rw [if_pos (by simp; omega),zI hi]
  simp only [Option.bind_some,zEP]
  rw [zFG (by omega)]
  simp only [Option.bind_some]
  rw [zDi _ _ (by simp; omega),zM (by omega)]
  simp only [Option.bind_some]
  cases NF p.Provides[i] !=0<;>cases seq p.Provides[i] p.Name<;>cases (p.Provides.take i).any (fun x=>seq x p.Provides[i])<;>rfl) (by
  unfold zBa
  rw [if_neg (by simp)])
 have k3:=wQ p.Needs zKr (b:=zAL p) (by
  intro i hi
  unfold zAL zKr
  rw [if_pos (by simp; omega),zI hi]
  simp only [Option.bind_some]
  rw [zF4 _ (hne.2 _ (List.getElem_mem hi)).1,zM (by omega)]
  simp only [Option.bind_some]
  cases (p.Needs[i].length :Int)==0<;>cases tsF p.Needs[i] !=0<;>rfl) (by
  unfold zAL
  rw [if_neg (by simp)])
 unfold zAq zAs zJe
 rw [k2,k3,zF4 _ hba.1]
 cases vE (zJR p) 0 p.Provides<;>cases vE zKr 0 p.Needs<;>rfl
theorem zFL {α R:Type} (p:α→Bool) (r:R):∀(xs:List α) (i:Nat),vE (fun _ x=>if p x then some r else none) i xs=if xs.any p then some r else none
 |[],i=>rfl
 |x::xs,i=>by
  simp only [vE]
  cases h:p x
  ·simp only [Bool.false_eq_true,if_false,List.any_cons,h,Bool.false_or]
   exact zFL p r xs (i+1)
  ·simp [h]
theorem zIb (p:Pack) (hp:Pack.sm 1048576 p):zBs p=some (PF p):=by
 have hl:=zHq p hp
 obtain ⟨_,_,_,hpr,hne,hba⟩:=hp
 have k1:=wQ p.Needs (fun _ l=>if decide ((l.length:Int)>4) then some (2:Int) else none) (b:=zAO p) (by
  intro i hi
  unfold zAO
  rw [if_pos (by simp; omega),zI hi]
  simp only [Option.bind_some]
  rw [zM (by omega)]
  cases decide ((p.Needs[i].length :Int)>4)<;>rfl) (by
  unfold zAO
  rw [if_neg (by simp)])
 rw [zFL] at k1
 unfold zBs PF zL3
 simp only [zEQ,zEX,zKd,Option.bind_some]
 rw [hl]
 unfold zBF
 rw [k1]
 cases NF p.Name !=0<;>cases VF p.Version !=0<;>cases inB p.Size 1 200<;>cases decide ((p.Provides.length:Int)>4)<;>cases decide ((p.Needs.length:Int)>4)<;>cases decide ((p.Bars.length:Int)>4)<;>cases p.Needs.any (fun l=>decide ((l.length:Int)>4))<;>rfl
theorem zKR (l:List Int) (h:l.length≤10):loop (zAU l) 0=some (frs (vE (fun _ c=>if c !=0 then some c else none) 0 l)):=by
 refine wQ l _ (fun i hi=>?_) ?_
 ·unfold zAU
  rw [if_pos (by simp; omega),zI hi]
  simp only [Option.bind_some]
  rw [zM (by omega)]
  cases l[i] !=0<;>rfl
 ·unfold zAU
  rw [if_neg (by simp)]
theorem zHT (p:Pack) (hp:Pack.sm 1048576 p):zBp p=some (PF p):=by
 have hl:=zGS p hp
 obtain ⟨_,_,_,hpr,hne,hba⟩:=hp
 have k1:=wQ p.Needs (fun i l=>if decide ((l.length:Int)>4) then some (i:Int) else none) (b:=yY p.Needs) (by
  intro i hi
  unfold yY zAJ
  rw [if_pos (by simp; omega),zI hi]
  simp only [Option.bind_some]
  rw [zM (by omega)]
  cases decide ((p.Needs[i].length :Int)>4)<;>rfl) (by
  unfold yY
  rw [if_neg (by simp)])
 have k2:zS p.Needs=some (p.Needs.any (fun l=>decide ((l.length:Int)>4))):=by
  unfold zS yO xG
  rw [k1,zAV,←zEk (zCz (fun l:List Term=>decide ((l.length:Int)>4)) p.Needs 0)]
  cases vE (fun j (x:List Term)=>if decide ((x.length:Int)>4) then some (j:Int) else none) 0 p.Needs<;>rfl
 have k3:vH [NF p.Name,VF p.Version]=some (if NF p.Name !=0 then NF p.Name else VF p.Version):=by
  have k:=zKR [NF p.Name,VF p.Version] (by simp)
  unfold vH zAt
  rw [k,zAV]
  simp only [vE]
  cases hn:NF p.Name !=0
  ·cases hv:VF p.Version !=0
   ·have:VF p.Version=0:=by simpa using hv
    simp [this]
   ·rfl
  ·rfl
 unfold zBp PF zL3
 simp only [zEP,zFa,zH0,Option.bind_some]
 rw [hl,k2,k3]
 simp only [Option.bind_some]
 cases hn:NF p.Name !=0
 ·simp only [Bool.false_eq_true,if_false]
  cases VF p.Version !=0<;>cases inB p.Size 1 200<;>cases decide ((p.Provides.length:Int)>4)<;>cases decide ((p.Needs.length:Int)>4)<;>cases decide ((p.Bars.length:Int)>4)<;>cases p.Needs.any (fun l=>decide ((l.length:Int)>4))<;>rfl
 ·simp only [if_true,hn]
def isB (n:ByteArray) (v:Version) (q:Pack):Bool:=seq q.Name n&&eqV q.Version v
def zKY (c:List Pack) (n:ByteArray) (v:Version):Int:=(vE (fun i q=>if isB n v q then some (i:Int) else none) 0 c).getD (-1)
theorem zJ6 (c:List Pack) (n:ByteArray) (v:Version):decide (zKY c n v≥0)=c.any (isB n v):=zEk (zCz (isB n v) c 0)
theorem zIm (c:List Pack) (n:ByteArray) (v:Version) (h:c.length≤1048576):zBj c n v=some (zKY c n v):=by
 have key:=wQ c (fun i q=>if isB n v q then some (i:Int) else none) (b:=zCX c n v) (by
  intro i hi
  unfold zCX isB
  rw [if_pos (by simp; omega),zI hi]
  simp only [Option.bind_some,zBx,zMc]
  rw [zM (by omega)]
  cases seq c[i].Name n<;>cases eqV c[i].Version v<;>rfl) (by
  unfold zCX
  rw [if_neg (by simp)])
 unfold zKY
 unfold zBj zDw
 rw [key,zAV]
 cases vE (fun i q=>if isB n v q then some (i:Int) else none) 0 c<;>rfl
theorem zKZ (c:List Pack) (n:ByteArray) (v:Version) (h:c.length≤1048576):zEm c n v=some (zKY c n v):=by
 have key:=wQ c (fun i q=>if isB n v q then some (i:Int) else none) (b:=wF c n v) (by
  intro i hi
  unfold wF isB zEb
  rw [if_pos (by simp; omega),zI hi]
  simp only [Option.bind_some]
  rw [zM (by omega)]
  show (Option.bind (if seq c[i].Name n=true then some (eqV c[i].Version v) else some false) _)=_
  cases seq c[i].Name n<;>cases eqV c[i].Version v<;>rfl) (by
  unfold wF
  rw [if_neg (by simp)])
 unfold zKY
 unfold zEm xW wJ
 rw [key,zAV]
 cases vE (fun i q=>if isB n v q then some (i:Int) else none) 0 c<;>rfl
theorem find_spec (c:List Pack) (n:ByteArray) (v:Version) (h:c.length≤1048576):∃k,zBj c n v=some k∧decide (k≥0)=c.any (isB n v):=⟨_,zIm c n v h,zJ6 c n v⟩
theorem zM0 (c:List Pack) (n:ByteArray) (v:Version) (h:c.length≤1048576):∃k,zEm c n v=some k∧decide (k≥0)=c.any (isB n v):=⟨_,zKZ c n v h,zJ6 c n v⟩
def zMM (c:List Pack) (i:Nat) (p:Pack):Option Int:=if PF p !=0 then some (PF p) else if (c.take i).any (isB p.Name p.Version) then some 6 else none
def CF (c:List Pack):Int:=if decide ((c.length:Int)>24) then 2 else (vE (zMM c) 0 c).getD 0
theorem zEh (c:List Pack) (hc:c.length≤1048576∧∀y0∈c,Pack.sm 1048576 y0):vF c=some (CF c):=by
 have key:=wQ c (zMM c) (b:=kN c) (by
  intro i hi
  unfold kN zMM
  rw [if_pos (by simp; omega),zI hi]
  simp only [Option.bind_some]
  rw [zIb _ (hc.2 _ (List.getElem_mem hi)),zFG (by omega)]
  simp only [Option.bind_some]
  obtain ⟨k,e,hk⟩:=find_spec (c.take i) c[i].Name c[i].Version (by simp; omega)
  rw [e,zM (by omega)]
  simp only [Option.bind_some]
  rw [hk]
  cases PF c[i] !=0<;>cases (c.take i).any (isB c[i].Name c[i].Version)<;>rfl) (by
  unfold kN
  rw [if_neg (by simp)])
 unfold vF CF zAd
 rw [key,zAV]
 cases decide ((c.length:Int)>24)<;>cases vE (zMM c) 0 c<;>rfl
theorem zG5 (c:List Pack) (hc:c.length≤1048576∧∀y0∈c,Pack.sm 1048576 y0):jY c=some (CF c):=by
 have key:=wQ c (zMM c) (b:=kQ c) (by
  intro i hi
  unfold kQ zMM
  rw [if_pos (by simp; omega),zI hi]
  simp only [Option.bind_some]
  rw [zHT _ (hc.2 _ (List.getElem_mem hi)),zFG (by omega)]
  simp only [Option.bind_some]
  obtain ⟨k,e,hk⟩:=zM0 (c.take i) c[i].Name c[i].Version (by simp; omega)
  rw [e,zM (by omega)]
  simp only [Option.bind_some]
  rw [hk]
  cases PF c[i] !=0<;>cases (c.take i).any (isB c[i].Name c[i].Version)<;>rfl) (by
  unfold kQ
  rw [if_neg (by simp)])
 unfold jY CF zAf
 rw [key,zAV]
 cases decide ((c.length:Int)>24)<;>cases vE (zMM c) 0 c<;>rfl
def noPack:Pack:= {Name:=ByteArray.empty,Version:= {A:=0,B:=0,C:=0},Size:=0,Provides:=[],Needs:=[],Bars:=[]}
def pat (c:List Pack) (k:Int):Pack:=(idx c k).getD noPack
def Places (c:List Pack) (a:List Int):Prop:=∀k∈a,0≤k∧k<c.length
theorem tQ {c:List Pack} {k:Int} (h:0≤k∧k<c.length):idx c k=some (pat c k)∧pat c k∈c:=by
 unfold pat idx
 rw [if_pos h.1]
 have:k.toNat<c.length:=by omega
 rw [List.getElem?_eq_getElem this]
 exact ⟨rfl,List.getElem_mem this⟩
def Cat (c:List Pack):Prop:=c.length≤1048576∧∀y0∈c,Pack.sm 1048576 y0
theorem Cat.zNG {c:List Pack} (hc:Cat c) {k:Int} (h:0≤k∧k<c.length):(pat c k).Provides.length ≤1048576:=(hc.2 _ (tQ h).2).2.2.2.1.1
theorem Cat.needs {c:List Pack} (hc:Cat c) {k:Int} (h:0≤k∧k<c.length):(pat c k).Needs.length ≤1048576:=(hc.2 _ (tQ h).2).2.2.2.2.1.1
theorem Cat.clause {c:List Pack} (hc:Cat c) {k:Int} (h:0≤k∧k<c.length) {l:List Term} (hl:l∈(pat c k).Needs):l.length≤1048576:=((hc.2 _ (tQ h).2).2.2.2.2.1.2 l hl).1
theorem Cat.bars {c:List Pack} (hc:Cat c) {k:Int} (h:0≤k∧k<c.length):(pat c k).Bars.length ≤1048576:=(hc.2 _ (tQ h).2).2.2.2.2.2.1
def zLJ (c:List Pack) (a:List Int) (i:Nat) (k:Int):Option Bool:=if !(inB k 0 ((c.length:Int)-1))||(decide (0<i)&&decide (k≤a.getD (i-1) 0)) then some false else none
def zMP (c:List Pack) (a:List Int):Bool:=(vE (zLJ c a) 0 a).isNone
theorem getD_lt {a:List Int} {i:Nat} (h:i<a.length):a.getD i 0=a[i]:=by simp [List.getD,h]
theorem zLE {c:List Pack} {a:List Int} (hc:c.length≤1048576) (ha:a.length≤1048576):zEg c a=some (zMP c a):=by
 have key:=wQ a (zLJ c a) (b:=zDn c a) (by
  intro i hi
  unfold zDn zLJ
  rw [if_pos (by simp; omega),zI hi,kG (x:=(c.length:Int)-1) (by omega) (by omega)]
  simp only [Option.bind_some,zKd]
  by_cases h0:0<i
  ·rw [kG (x:=(i:Int)-1) (by omega) (by omega),show (i:Int)-1=((i-1:Nat):Int) by omega,zI (show i-1<a.length by omega),getD_lt (show i-1<a.length by omega)]
   have e:decide ((i:Int)>0)=true:=by simp; omega
   have e2:decide (0<i)=true:=by simpa using h0
   rw [e,e2,zM (by omega)]
   simp only [Option.bind_some,Bool.true_and]
   cases inB a[i] 0 ((c.length:Int)-1)<;>cases decide (a[i]≤a[i-1])<;>rfl
  ·have e:decide ((i:Int)>0)=false:=by simp; omega
   have e2:decide (0<i)=false:=by simpa using h0
   rw [e,e2,zM (by omega)]
   cases inB a[i] 0 ((c.length:Int)-1)<;>rfl) (by
  unfold zDn
  rw [if_neg (by simp)])
 unfold zEg zDI zMP
 rw [key,zAV]
 have hf:∀(l:List Int) (i:Nat),vE (zLJ c a) i l=none∨vE (zLJ c a) i l=some false:=by
  intro l
  induction l with
  |nil=>intro i; exact .inl rfl
  |cons x l ih=>
   intro i
   simp only [vE]
   cases hg:zLJ c a i x with
   |none=>exact ih (i+1)
   |some r=>
    unfold zLJ at hg
    split at hg
    ·cases hg; exact .inr rfl
    ·cases hg
 rcases hf a 0 with h|h<;>rw [h]<;>rfl
def SF (c:List Pack) (a:List Int):Int:=if CF c !=0 then CF c else if zMP c a then 0 else 1
theorem zGm {c:List Pack} {a:List Int} (hc:Cat c) (ha:a.length≤1048576):zAi c a=some (SF c a):=by
 unfold zAi SF
 rw [zEh c hc,zLE hc.1 ha]
 simp only [Option.bind_some]
 cases CF c !=0<;>cases zMP c a<;>rfl
theorem zHX {c:List Pack} {a:List Int} (hc:c.length≤1048576) (ha:a.length≤1048576):zBu c a=some (a.all (fun k=>inB k 0 ((c.length:Int)-1))):=by
 have key:=wQ a (fun i k=>if !(inB k 0 ((c.length:Int)-1)) then some (i:Int) else none) (b:=xV a c) (by
  intro i hi
  unfold xV zAG
  rw [if_pos (by simp; omega),zI hi,kG (x:=(c.length:Int)-1) (by omega) (by omega)]
  simp only [Option.bind_some,zH0]
  rw [zM (by omega)]
  cases inB a[i] 0 ((c.length:Int)-1)<;>rfl) (by
  unfold xV
  rw [if_neg (by simp)])
 unfold zBu yT xI wB
 rw [key,zAV]
 have e:a.all (fun k=>inB k 0 ((c.length:Int)-1))= !(a.any (fun k=> !(inB k 0 ((c.length:Int)-1)))):=by
  rw [List.all_eq_not_any_not]
 rw [e,←zEk (zCz (fun k=> !(inB k 0 ((c.length:Int)-1))) a 0)]
 cases vE (fun i k=>if !(inB k 0 ((c.length:Int)-1)) then some (i:Int) else none) 0 a<;>rfl
def zMR (a:List Int) (i:Nat) (k:Int):Option Int:=if decide (k≤a.getD (i-1) 0) then some 1 else none
theorem zKK (c:List Pack) (a:List Int):zMP c a=((vE (zMR a) 1 (a.drop 1)).isNone &&a.all (fun k=>inB k 0 ((c.length:Int)-1))):=by
 unfold zMP
 rw [Bool.eq_iff_iff,Bool.and_eq_true,Option.isNone_iff_eq_none,Option.isNone_iff_eq_none,zFy,zFy,List.all_eq_true]
 constructor
 ·intro h
  constructor
  ·intro j hj
   have hj':1+j<a.length:=by simp at hj; omega
   have:=h (1+j) hj'
   unfold zLJ at this
   unfold zMR
   rw [List.getElem_drop]
   split at this
   ·cases this
   ·rename_i hn
    rw [if_neg]
    intro hx
    apply hn
    rw [Nat.zero_add]
    rw [Bool.or_eq_true,Bool.and_eq_true]
    exact .inr ⟨by rw [decide_eq_true_eq]; omega,hx⟩
  ·intro k hk
   obtain ⟨i,hi,rfl⟩:=List.mem_iff_getElem.1 hk
   have:=h i hi
   unfold zLJ at this
   split at this
   ·cases this
   ·rename_i hn
    simp only [Bool.or_eq_true,not_or] at hn
    simpa using hn.1
 ·rintro ⟨h1,h2⟩ j hj
  unfold zLJ
  rw [if_neg]
  rw [Nat.zero_add,h2 _ (List.getElem_mem hj)]
  simp only [Bool.not_true,Bool.false_or,Bool.and_eq_true,not_and]
  intro h0 hx
  have h0':0<j:=by simpa using h0
  have hd:j-1< (a.drop 1).length :=by simp; omega
  have:=h1 (j-1) hd
  unfold zMR at this
  rw [List.getElem_drop] at this
  have ej:1+(j-1)=j:=by omega
  simp only [ej] at this
  rw [if_pos hx] at this
  cases this
theorem zBf {c:List Pack} {a:List Int} (hc:Cat c) (ha:a.length≤1048576):xS c a=some (SF c a):=by
 have hend:tV c a (a.length:Int)=some (.done (.nxt ())):=by
  unfold tV
  rw [if_neg (by simp)]
 have key:zAI c a 1=some (frs (vE (zMR a) 1 (a.drop 1))):=by
  unfold zAI
  rcases Nat.eq_zero_or_pos a.length with h0|h0
  ·have:a=[]:=List.eq_nil_of_length_eq_zero h0
   subst this
   rw [uF]
   unfold tV
   rw [if_neg (by simp)]
   rfl
  ·have hh:∀(k i:Nat),1≤i→i+k=a.length→loop (tV c a) (i:Int)=some (frs (vE (zMR a) i (a.drop i))):=by
    intro k
    induction k with
    |zero=>
     intro i h1 h
     have e:i=a.length:=by omega
     subst e
     rw [uF,hend,List.drop_length]
     rfl
    |succ k ih=>
     intro i h1 h
     have hi:i<a.length:=by omega
     have ih:=ih (i+1) (by omega) (by omega)
     rw [uF,List.drop_eq_getElem_cons hi]
     simp only [vE]
     have hb:tV c a (i:Int)=some (if decide (a[i]≤a[i-1]) then .done (.ret 1) else .go ((i+1:Nat):Int)):=by
      unfold tV
      rw [if_pos (by simp; omega),zI hi,kG (x:=(i:Int)-1) (by omega) (by omega),show (i:Int)-1=((i-1:Nat):Int) by omega,zI (show i-1<a.length by omega),zM (by omega)]
      simp only [Option.bind_some]
      cases decide (a[i]≤a[i-1])<;>rfl
     rw [hb]
     unfold zMR
     rw [getD_lt (show i-1<a.length by omega)]
     cases decide (a[i]≤a[i-1])
     ·exact ih
     ·rfl
   exact hh (a.length-1) 1 (by omega) (by omega)
 unfold xS SF
 rw [zG5 c hc,key,zAV,zHX hc.1 ha,zKK]
 simp only [Option.bind_some]
 have hf:∀(l:List Int) (i:Nat),vE (zMR a) i l=none∨vE (zMR a) i l=some 1:=by
  intro l
  induction l with
  |nil=>intro i; exact .inl rfl
  |cons x l ih=>
   intro i
   simp only [vE]
   cases hg:zMR a i x with
   |none=>exact ih (i+1)
   |some r=>
    unfold zMR at hg
    split at hg
    ·cases hg; exact .inr rfl
    ·cases hg
 rcases hf (a.drop 1) 1 with h|h<;>rw [h]<;>cases CF c !=0<;>cases a.all (fun k=>inB k 0 ((c.length:Int)-1))<;>rfl
theorem zHz {c:List Pack} {a:List Int} (h:(SF c a==0)=true):Places c a:=by
 unfold SF at h
 split at h
 ·rename_i h1
  rw [beq_iff_eq] at h
  rw [h] at h1
  simp at h1
 ·split at h
  ·rename_i h2
   rw [zKK,Bool.and_eq_true,List.all_eq_true] at h2
   intro k hk
   have:=h2.2 k hk
   unfold inB at this
   simp only [Bool.and_eq_true,decide_eq_true_eq] at this
   omega
  ·cases h
def zOl (t:Term) (v:Version):Bool:=decide (zIg v t.Low≥0)&&decide (zIg v t.High<0)
def zLL (t:Term) (n:ByteArray) (v:Version):Bool:=seq t.Name n&&zOl t v
theorem zKa (t:Term) (n:ByteArray) (v:Version):zAj t n v=some (zLL t n v):=by
 unfold zAj zLL zOl
 simp only [zBx,Option.bind_some]
 cases seq t.Name n<;>cases decide (zIg v t.Low≥0)<;>rfl
theorem zNo (t:Term) (n:ByteArray) (v:Version):zBZ t n v=some (zLL t n v):=by
 unfold zBZ zLL zOl
 simp only [zGO,Option.bind_some]
 have e:decide (zIg t.Low v≤0)=decide (zIg v t.Low≥0):=by
  rw [zLV v t.Low]
  rw [Bool.eq_iff_iff,decide_eq_true_eq,decide_eq_true_eq]
  omega
 rw [e]
 cases seq t.Name n<;>cases decide (zIg v t.Low≥0)<;>rfl
def zAD (p:Pack) (t:Term):Bool:=(seq t.Name p.Name||p.Provides.any (fun x=>seq x t.Name))&&zOl t p.Version
theorem zG2 (p:Pack) (t:Term) (h:p.Provides.length≤1048576):kV p t=some (zAD p t):=by
 unfold kV zAD
 simp only [zKa,Option.bind_some,zEe _ _ h,zLL,zGZ,Bool.true_and]
 cases seq t.Name p.Name<;>cases p.Provides.any (fun x=>seq x t.Name)<;>rfl
theorem zIf (p:Pack) (t:Term) (h:p.Provides.length≤1048576):jN p t=some (zAD p t):=by
 unfold jN zBG
 rw [uH (by simp; omega) (by simp; omega)]
 simp only [Option.bind_some]
 have key:=wQ ([p.Name]++p.Provides) (fun i n=>if zLL t n p.Version then some (i:Int) else none) (b:=xC ([p.Name]++p.Provides) t p) (by
  intro i hi
  have hi':i<p.Provides.length+1:=by simpa using hi
  unfold xC zAp
  rw [if_pos (by rw [decide_eq_true_eq]; exact Int.ofNat_lt.2 hi),zI hi]
  simp only [Option.bind_some,zNo]
  rw [zM (by omega)]
  cases zLL t ([p.Name]++p.Provides)[i] p.Version<;>rfl) (by
  unfold xC
  rw [if_neg (by simp)])
 unfold yG yR xM
 rw [key,zAV]
 have e:zAD p t=([p.Name]++p.Provides).any (fun n=>zLL t n p.Version):=by
  unfold zAD zLL
  have:(fun n=>seq t.Name n&&zOl t p.Version)=(fun n=>seq n t.Name&&zOl t p.Version):=funext fun n=>by rw [zI4]
  rw [this,zI4 t.Name p.Name]
  cases zOl t p.Version<;>simp
 rw [e,←zEk (zCz (fun n=>zLL t n p.Version) ([p.Name]++p.Provides) 0)]
 cases vE (fun i n=>if zLL t n p.Version then some (i:Int) else none) 0 ([p.Name]++p.Provides)<;>rfl
theorem zI2 (p:Pack) (l:List Term) (h:p.Provides.length≤1048576) (hl:l.length≤1048576):jD p l=some (l.any (zAD p)):=by
 have key:=wQ l (fun i t=>if zAD p t then some (i:Int) else none) (b:=xL l p) (by
  intro i hi
  unfold xL
  rw [if_pos (by simp; omega),zI hi]
  simp only [Option.bind_some,zIf _ _ h]
  rw [zM (by omega)]
  cases zAD p l[i]<;>rfl) (by
  unfold xL
  rw [if_neg (by simp)])
 unfold jD yL yU xP
 rw [key,zAV,←zEk (zCz (zAD p) l 0)]
 cases vE (fun i t=>if zAD p t then some (i:Int) else none) 0 l<;>rfl
def zDp (c:List Pack) (a:List Int) (t:Term) (x:Int):Bool:=a.any (fun k=>k !=x&&zAD (pat c k) t)
theorem zIn {c:List Pack} {a:List Int} (hc:Cat c) (hp:Places c a) (ha:a.length≤1048576) (t:Term) (x:Int):zAW c a t x=some (zDp c a t x):=by
 have key:=wQ a (fun _ k=>if k !=x&&zAD (pat c k) t then some true else none) (b:=zCj c a t x) (by
  intro i hi
  have hk:=hp _ (List.getElem_mem hi)
  unfold zCj
  rw [if_pos (by simp; omega),zI hi]
  simp only [Option.bind_some]
  rw [(tQ hk).1]
  simp only [Option.bind_some]
  rw [zG2 _ _ (hc.zNG hk),zM (by omega)]
  cases a[i] !=x<;>cases zAD (pat c a[i]) t<;>rfl) (by
  unfold zCj
  rw [if_neg (by simp)])
 unfold zAW zCY zDp
 rw [key,zAV,←zFx (fun k=>k !=x&&zAD (pat c k) t) a 0]
 cases vE (fun _ k=>if k !=x&&zAD (pat c k) t then some true else none) 0 a<;>rfl
theorem zLn {c:List Pack} {a:List Int} (hc:Cat c) (hp:Places c a) (ha:a.length≤1048576) (t:Term) (x:Int):yH a x c t=some (zDp c a t x):=by
 have key:=wQ a (fun i k=>if k !=x&&zAD (pat c k) t then some (i:Int) else none) (b:=wH a x c t) (by
  intro i hi
  have hk:=hp _ (List.getElem_mem hi)
  unfold wH zDj
  rw [if_pos (by simp; omega),zI hi]
  simp only [Option.bind_some]
  rw [(tQ hk).1]
  simp only [Option.bind_some]
  rw [zIf _ _ (hc.zNG hk),zM (by omega)]
  cases a[i] !=x<;>cases zAD (pat c a[i]) t<;>rfl) (by
  unfold wH
  rw [if_neg (by simp)])
 unfold yH wD wL zDp
 rw [key,zAV,←zEk (zCz (fun k=>k !=x&&zAD (pat c k) t) a 0)]
 cases vE (fun i k=>if k !=x&&zAD (pat c k) t then some (i:Int) else none) 0 a<;>rfl
def zJE (c:List Pack) (a:List Int) (l:List Term):Bool:=a.any (fun k=>l.any (zAD (pat c k)))
theorem zIG {c:List Pack} {a:List Int} (hc:Cat c) (hp:Places c a) (ha:a.length≤1048576) (l:List Term) (hl:l.length≤1048576):zB7 c a l=some (zJE c a l):=by
 have key:=wQ l (fun _ t=>if zDp c a t (-1) then some true else none) (b:=zDt c a l) (by
  intro i hi
  unfold zDt
  rw [if_pos (by simp; omega),zI hi]
  simp only [Option.bind_some,zIn hc hp ha]
  rw [zM (by omega)]
  cases zDp c a l[i] (-1)<;>rfl) (by
  unfold zDt
  rw [if_neg (by simp)])
 unfold zB7 zDK
 rw [key,zAV]
 have e:zJE c a l=l.any (fun t=>zDp c a t (-1)):=by
  unfold zJE zDp
  rw [Bool.eq_iff_iff]
  simp only [List.any_eq_true,Bool.and_eq_true,bne_iff_ne]
  constructor
  ·rintro ⟨k,hk,t,ht,hg⟩
   exact ⟨t,ht,k,hk,by have:=(hp k hk).1; omega,hg⟩
  ·rintro ⟨t,ht,k,hk,_,hg⟩
   exact ⟨k,hk,t,ht,hg⟩
 rw [e,←zFx (fun t=>zDp c a t (-1)) l 0]
 cases vE (fun _ t=>if zDp c a t (-1) then some true else none) 0 l<;>rfl
theorem zN8 {c:List Pack} {a:List Int} (hc:Cat c) (hp:Places c a) (ha:a.length≤1048576) (l:List Term) (hl:l.length≤1048576):yI a c l=some (zJE c a l):=by
 have key:=wQ a (fun i k=>if l.any (zAD (pat c k)) then some (i:Int) else none) (b:=wI a c l) (by
  intro i hi
  have hk:=hp _ (List.getElem_mem hi)
  unfold wI zDg
  rw [if_pos (by simp; omega),zI hi]
  simp only [Option.bind_some]
  rw [(tQ hk).1]
  simp only [Option.bind_some]
  rw [zI2 _ _ (hc.zNG hk) hl,zM (by omega)]
  cases l.any (zAD (pat c a[i]))<;>rfl) (by
  unfold wI
  rw [if_neg (by simp)])
 unfold yI wC wM zJE
 rw [key,zAV,←zEk (zCz (fun k=>l.any (zAD (pat c k))) a 0)]
 cases vE (fun i k=>if l.any (zAD (pat c k)) then some (i:Int) else none) 0 a<;>rfl
theorem zIx {α T:Type} (xs:List α) (g:Nat→α→Option T) (e:T) {b:Int→Option (Lp Int T)}
  (hstep:∀(i:Nat) (hi:i<xs.length),b (i:Int)=some (match g i xs[i] with|some r=>.done r|none=>.go ((i+1:Nat):Int))) (hend:b (xs.length:Int)=some (.done e)):
  ∀(k i:Nat),i+k=xs.length→loop b (i:Int)=some ((vE g i (xs.drop i)).getD e)
 |0,i,h=>by
  have e:i=xs.length:=by omega
  subst e
  rw [uF,hend,List.drop_length]
  rfl
 |k+1,i,h=>by
  have hi:i<xs.length:=by omega
  have ih:=zIx xs g e hstep hend k (i+1) (by omega)
  rw [uF,hstep i hi,List.drop_eq_getElem_cons hi]
  simp only [vE]
  cases g i xs[i] with
  |some r=>rfl
  |none=>exact ih
def fN (c:List Pack) (a:List Int) (k:Int) (j:Nat) (l:List zO) (x:List Term):List zO:=if !(zJE c a x) then l++[{Kind:=2,Pack:=k,At:=(j:Int)}] else l
def fB (c:List Pack) (a:List Int) (k:Int) (j:Nat) (l:List zO) (t:Term):List zO:=if zDp c a t k then l++[{Kind:=3,Pack:=k,At:=(j:Int)}] else l
def fD (c:List Pack) (a:List Int) (i:Nat) (k:Int) (l:List zO):List zO:=if (a.take i).any (fun o=>seq (pat c o).Name (pat c k).Name) then l++[{Kind:=1,Pack:=k,At:=0}] else l
def fS (c:List Pack) (a:List Int) (i:Nat) (l:List zO) (k:Int):List zO:=foldI (fB c a k) 0 (pat c k).Bars (foldI (fN c a k) 0 (pat c k).Needs (fD c a i k l))
def zCG (c:List Pack) (a:List Int):List zO:=foldI (fS c a) 0 a []
theorem zOU (c:List Pack) (a:List Int) (k:Int) (j:Nat) (l:List zO) (x:List Term):(fN c a k j l x).length ≤l.length+1:=by unfold fN; split<;>simp
theorem zPq (c:List Pack) (a:List Int) (k:Int) (j:Nat) (l:List zO) (t:Term):(fB c a k j l t).length ≤l.length+1:=by unfold fB; split<;>simp
theorem zNO (c:List Pack) (a:List Int) (i:Nat) (k:Int) (l:List zO):(fD c a i k l).length ≤l.length+1:=by unfold fD; split<;>simp
theorem zIj {c:List Pack} {a:List Int} (k:Int) (ns:List (List Term)) (hn:ns.length≤1048576) (n0:Nat) (h0:n0≤5497560000000) {b:(List zO×Int)→Option (Lp (List zO×Int) (List zO))}
  (hstep:∀(j:Nat) (l:List zO) (hj:j<ns.length),b (l,(j:Int))=(if !(zJE c a ns[j]) then (app 24 l [{Kind:=2,Pack:=k,At:=(j:Int)}]) else some l).bind fun v=>some (Lp.go (v,w64 ((j:Int)+1)))) (hend:∀l,b (l,(ns.length:Int))=some (.done l)) (l:List zO) (hl:l.length≤n0):
  loop b (l,0)=some (foldI (fN c a k) 0 ns l)∧(foldI (fN c a k) 0 ns l).length ≤n0+ns.length:=by
 have key:=zEZ ns (fN c a k) (fun j l=>l.length≤n0+j) (b:=b) (by
  intro j l hj hI
  refine ⟨?_,by have:=zOU c a k j l ns[j]; omega⟩
  rw [hstep j l hj,zM (by omega),uH (by simp; omega) (by simp; omega)]
  unfold fN
  cases zJE c a ns[j]<;>rfl) hend ns.length 0 l (by omega) (by simpa using hl)
 simpa using key
theorem zJt {c:List Pack} {a:List Int} (k:Int) (ts:List Term) (hn:ts.length≤1048576) (n0:Nat) (h0:n0≤5497560000000) {b:(List zO×Int)→Option (Lp (List zO×Int) (List zO))}
  (hstep:∀(j:Nat) (l:List zO) (hj:j<ts.length),b (l,(j:Int))=(if zDp c a ts[j] k then (app 24 l [{Kind:=3,Pack:=k,At:=(j:Int)}]) else some l).bind fun v=>some (Lp.go (v,w64 ((j:Int)+1)))) (hend:∀l,b (l,(ts.length:Int))=some (.done l)) (l:List zO) (hl:l.length≤n0):
  loop b (l,0)=some (foldI (fB c a k) 0 ts l)∧(foldI (fB c a k) 0 ts l).length ≤n0+ts.length:=by
 have key:=zEZ ts (fB c a k) (fun j l=>l.length≤n0+j) (b:=b) (by
  intro j l hj hI
  refine ⟨?_,by have:=zPq c a k j l ts[j]; omega⟩
  rw [hstep j l hj,zM (by omega),uH (by simp; omega) (by simp; omega)]
  unfold fB
  cases zDp c a ts[j] k<;>rfl) hend ts.length 0 l (by omega) (by simpa using hl)
 simpa using key
theorem zI5 {α:Type} (o:Option α):o.bind (fun x=>some x)=o:=by cases o<;>rfl
def zEx (i:Nat):Nat:=i*2097153
theorem zH4 {c:List Pack} {a:List Int} (hc:Cat c) (hp:Places c a) (ha:a.length≤1048576):jJ c a=some (zCG c a):=by
 have key:=zEZ a (fS c a) (fun i l=>l.length≤zEx i) (b:=zB9 c a) (by
  intro i l hi hI
  have hk:=hp _ (List.getElem_mem hi)
  have hb:zEx i≤2199022206976:=by unfold zEx; omega
  have hb1:zEx (i+1)=zEx i+2097153:=by unfold zEx; omega
  have hN:=hc.needs hk
  have hB:=hc.bars hk
  have k1:=zIx (a.take i) (fun _ o=>if seq (pat c o).Name (pat c a[i]).Name then some (l++[({Kind:=1,Pack:=a[i],At:=0}:zO)]) else none) l (b:=zBz c a (l,(i:Int)) (pat c a[i])) (by
   intro j hj
   have hj':j<i:=by simp at hj; omega
   have hja:j<a.length:=by omega
   have hkj:=hp _ (List.getElem_mem hja)
   unfold zBz
   rw [if_pos (by simp; omega),zI hja]
   simp only [Option.bind_some]
   rw [(tQ hkj).1,zI hi]
   simp only [Option.bind_some]
   rw [zM (by omega),uH (by simp; omega) (by simp; omega),List.getElem_take]
   cases seq (pat c a[j]).Name (pat c a[i]).Name <;>rfl) (by
   have:(a.take i).length =i:=by simp; omega
   rw [this]
   unfold zBz
   rw [if_neg (by simp)]) (a.take i).length 0 (by omega)
  rw [List.drop_zero,zFL] at k1
  have e1:zAK c a (l,(i:Int)) (pat c a[i]) 0=some (fD c a i a[i] l):=by
   unfold zAK fD
   rw [show ((0:Nat):Int)=0 from rfl] at k1
   rw [k1]
   cases (a.take i).any (fun o=>seq (pat c o).Name (pat c a[i]).Name)<;>rfl
  have hd:=zNO c a i a[i] l
  obtain ⟨e2,l2⟩:=zIj (c:=c) (a:=a) a[i] (pat c a[i]).Needs hN (zEx i+1) (by omega) (b:=zB8 c a (l,(i:Int)) (pat c a[i])) (by
   intro j l hj
   unfold zB8
   rw [if_pos (by simp; omega),zI hj]
   simp only [Option.bind_some]
   rw [zIG hc hp ha _ (hc.clause hk (List.getElem_mem hj)),zI hi]
   simp only [Option.bind_some,zI5]) (by
   intro l
   unfold zB8
   rw [if_neg (by simp)]) (fD c a i a[i] l) (by omega)
  obtain ⟨e3,l3⟩:=zJt (c:=c) (a:=a) a[i] (pat c a[i]).Bars hB (zEx i+1+1048576) (by omega) (b:=zBJ c a (l,(i:Int)) (pat c a[i])) (by
   intro j l hj
   unfold zBJ
   rw [if_pos (by simp; omega),zI hj,zI hi]
   simp only [Option.bind_some,zIn hc hp ha,zI5]) (by
   intro l
   unfold zBJ
   rw [if_neg (by simp)]) _ (Nat.le_trans l2 (by omega))
  refine ⟨?_,by show (fS c a i l a[i]).length ≤_; unfold fS; omega⟩
  unfold zB9
  rw [if_pos (by simp; omega),zI hi]
  simp only [Option.bind_some]
  rw [(tQ hk).1]
  simp only [Option.bind_some]
  rw [e1]
  simp only [Option.bind_some]
  unfold zCv zCc
  rw [e2]
  simp only [Option.bind_some]
  rw [e3,zM (by omega)]
  rfl) (by
  intro l
  unfold zB9
  rw [if_neg (by simp)]) a.length 0 [] (by omega) (by simp)
 unfold jJ zCa zCG
 have k:=key.1
 rw [show ((0:Nat):Int)=0 from rfl,List.drop_zero] at k
 rw [k]
 rfl
theorem zKN (q:Int→Bool):∀(xs:List Int) (i:Nat),(∀k∈xs,0≤k)→(((vE (fun _ k=>if q k then some k else none) i xs).getD (-1)≥0)↔xs.any q=true)
 |[],i,_=>by simp [vE]
 |x::xs,i,h=>by
  simp only [vE]
  cases hq:q x
  ·simp only [Bool.false_eq_true,if_false,List.any_cons,hq,Bool.false_or]
   exact zKN q xs (i+1) (fun k hk=>h k (by simp [hk]))
  ·have:=h x (by simp)
   simp [hq]
   omega
theorem zLB {c:List Pack} {a:List Int} (hp:Places c a) (ha:a.length≤1048576) (n:ByteArray):∃k,uP c a n=some k∧decide (k≥0)=a.any (fun o=>seq (pat c o).Name n):=by
 have key:=wQ a (fun _ k=>if seq (pat c k).Name n then some k else none) (b:=zAl c a n) (by
  intro i hi
  have hk:=hp _ (List.getElem_mem hi)
  unfold zAl
  rw [if_pos (by simp; omega),zI hi]
  simp only [Option.bind_some]
  rw [(tQ hk).1]
  simp only [Option.bind_some]
  rw [zM (by omega)]
  cases seq (pat c a[i]).Name n<;>rfl) (by
  unfold zAl
  rw [if_neg (by simp)])
 refine ⟨_,?_,zEk (zKN (fun o=>seq (pat c o).Name n) a 0 (fun k hk=>(hp k hk).1))⟩
 unfold uP zDc
 rw [key,zAV]
 cases vE (fun _ k=>if seq (pat c k).Name n then some k else none) 0 a<;>rfl
theorem zKm {c:List Pack} {a:List Int} (hc:Cat c) (hp:Places c a) (ha:a.length≤1048576):zDA c a=some (zCG c a):=by
 have key:=zEZ a (fS c a) (fun i l=>l.length≤zEx i) (b:=zCL c a) (by
  intro i l hi hI
  have hk:=hp _ (List.getElem_mem hi)
  have hb:zEx i≤2199022206976:=by unfold zEx; omega
  have hb1:zEx (i+1)=zEx i+2097153:=by unfold zEx; omega
  have hN:=hc.needs hk
  have hB:=hc.bars hk
  obtain ⟨kk,e0,hkk⟩:=zLB (c:=c) (a:=a.take i) (fun k hk=>hp k (List.mem_of_mem_take hk)) (by simp; omega) (pat c a[i]).Name
  have hd:=zNO c a i a[i] l
  obtain ⟨e2,l2⟩:=zIj (c:=c) (a:=a) a[i] (pat c a[i]).Needs hN (zEx i+1) (by omega) (b:=zCR c a (l,(i:Int)) a[i] (pat c a[i])) (by
   intro j l hj
   unfold zCR
   rw [if_pos (by simp; omega),zI hj]
   simp only [Option.bind_some]
   rw [zN8 hc hp ha _ (hc.clause hk (List.getElem_mem hj))]
   simp only [Option.bind_some,zI5]) (by
   intro l
   unfold zCR
   rw [if_neg (by simp)]) (fD c a i a[i] l) (by omega)
  obtain ⟨e3,l3⟩:=zJt (c:=c) (a:=a) a[i] (pat c a[i]).Bars hB (zEx i+1+1048576) (by omega) (b:=zCC c a (l,(i:Int)) a[i] (pat c a[i])) (by
   intro j l hj
   unfold zCC
   rw [if_pos (by simp; omega),zI hj]
   simp only [Option.bind_some,zLn hc hp ha,zI5]) (by
   intro l
   unfold zCC
   rw [if_neg (by simp)]) _ (Nat.le_trans l2 (by omega))
  refine ⟨?_,by show (fS c a i l a[i]).length ≤_; unfold fS; omega⟩
  unfold zCL
  rw [if_pos (by simp; omega),zI hi]
  simp only [Option.bind_some]
  rw [(tQ hk).1,zFG (by omega)]
  simp only [Option.bind_some]
  rw [e0]
  simp only [Option.bind_some]
  rw [hkk,uH (by simp; omega) (by simp; omega)]
  simp only [Option.bind_some]
  have ed:(if (a.take i).any (fun o=>seq (pat c o).Name (pat c a[i]).Name)=true then some (l++[({Kind:=1,Pack:=a[i],At:=0}:zO)]) else some l)=some (fD c a i a[i] l):=by
   unfold fD
   cases (a.take i).any (fun o=>seq (pat c o).Name (pat c a[i]).Name)<;>rfl
  rw [ed]
  simp only [Option.bind_some]
  unfold zDy zDv
  rw [e2]
  simp only [Option.bind_some]
  rw [e3,zM (by omega)]
  rfl) (by
  intro l
  unfold zCL
  rw [if_neg (by simp)]) a.length 0 [] (by omega) (by simp)
 unfold zDA zDx zCG
 have k:=key.1
 rw [show ((0:Nat):Int)=0 from rfl,List.drop_zero] at k
 rw [k]
 rfl
def zNE (c:List Pack) (a:List Int):Bool:=(SF c a==0)&&((zCG c a).length :Int)==0
theorem zCW {c:List Pack} {a:List Int} (hc:Cat c) (ha:a.length≤1048576) (h:(SF c a==0)=true):xQ c a=some (zNE c a):=by
 unfold xQ zNE
 rw [zKm hc (zHz h) ha,h]
 simp
theorem zM4 {a1 a2:List Int} (h:a1.length=a2.length) {b:Int→Option (Lp Int (Fl Bool Unit))}
  (hbi:∀(i:Nat) (hi:i<a1.length) (hi2:i<a2.length),b (i:Int)=some (if a1[i]=a2[i] then .go ((i+1:Nat):Int) else .done (.ret false))) (hbe:b (a1.length:Int)=some (.done (.nxt ()))):
  ∃t,loop b 0=some t∧t=(if a1=a2 then .nxt () else .ret false):=by
 refine vI (b:=b) (fun i s=>s=(i:Int)∧∀j,(h1:j<a1.length)→(h2:j<a2.length)→j<i→a1[j]=a2[j]) a1.length (fun t=>t=(if a1=a2 then .nxt () else .ret false)) (by
  rintro i s hi ⟨rfl,hI⟩
  have e:=hbi i hi (by omega)
  by_cases hx:a1[i]=a2[i]
  ·rw [if_pos hx] at e
   refine .inl ⟨_,e,rfl,fun j h1 h2 hj=>?_⟩
   by_cases hji:j=i
   ·subst hji; exact hx
   ·exact hI j h1 h2 (by omega)
  ·rw [if_neg hx] at e
   refine .inr ⟨_,e,?_⟩
   rw [if_neg]
   intro e'
   apply hx
   simp [e']) (by
  rintro s ⟨rfl,hI⟩
  refine ⟨_,hbe,?_⟩
  rw [if_pos]
  apply List.ext_getElem h
  intro i h1 h2
  exact hI i h1 h2 h1) a1.length 0 0 (by omega) ⟨rfl,fun _ _ _ h=>by omega⟩
theorem zLu (a1 a2:List Int) (h1:a1.length≤1048576):tT a1 a2=some (decide (a1=a2)):=by
 unfold tT
 by_cases h:a1.length=a2.length
 ·rw [if_neg (by simp [h])]
  obtain ⟨t,e,ht⟩:=zM4 h (b:=jG a1 a2) (by
   intro i hi hi2
   unfold jG
   rw [if_pos (by simp; omega),zI hi,zI hi2,zM (by omega)]
   simp only [Option.bind_some]
   by_cases e:a1[i]=a2[i]<;>simp [e]) (by
   unfold jG
   rw [if_neg (by simp)])
  unfold jV
  rw [e,ht]
  by_cases e:a1=a2<;>simp [e,Fl.go]
 ·rw [if_pos (by simp; omega)]
  congr 1
  symm
  rw [decide_eq_false_iff_not]
  intro e
  exact h (by rw [e])
theorem zLR {α:Type} {g:Nat→α→Option Int} (hg:∀i x,g i x≠some 0):∀(l:List α) (i:Nat),(vE g i l).getD 0=0→vE g i l=none
 |[],_,_=>rfl
 |x::l,i,h=>by
  simp only [vE] at h ⊢
  cases hx:g i x with
  |none=>rw [hx] at h; exact zLR hg l (i+1) h
  |some r=>
   rw [hx] at h
   simp only [Option.getD_some] at h
   subst h
   exact absurd hx (hg i x)
theorem zOj {c:List Pack} (h:CF c=0):c.length≤24∧(∀p∈c,PF p=0)∧∀(j:Nat) (hj:j<c.length),(c.take j).any (isB c[j].Name c[j].Version)=false:=by
 unfold CF at h
 split at h
 ·cases h
 rename_i h1
 have h2:=zLR (g:=zMM c) (fun i x=>by
  unfold zMM
  split
  ·rename_i h3
   intro e
   rw [Option.some.inj e] at h3
   simp at h3
  ·split<;>simp) c 0 h
 rw [zFy] at h2
 have h3:∀(j:Nat) (hj:j<c.length),PF c[j]=0∧(c.take j).any (isB c[j].Name c[j].Version)=false:=by
  intro j hj
  have:=h2 j hj
  unfold zMM at this
  rw [Nat.zero_add] at this
  split at this
  ·cases this
  ·rename_i h4
   split at this
   ·cases this
   ·rename_i h5
    exact ⟨by simpa using h4,by simpa using h5⟩
 refine ⟨by simp at h1; omega,fun p hp=>?_,fun j hj=>(h3 j hj).2⟩
 obtain ⟨j,hj,rfl⟩:=List.getElem_of_mem hp
 exact (h3 j hj).1
theorem zMw {a:List Int} (h:∀i,(hi:i+1<a.length)→a[i]<a[i+1]):a.Pairwise (· < ·):=by
 rw [List.pairwise_iff_getElem]
 intro i j hi hj hij
 obtain ⟨d,rfl⟩:∃d,j=i+1+d:=⟨j-i-1,by omega⟩
 clear hij
 induction d with
 |zero=>exact h i (by omega)
 |succ d ih=>
  have h1:=ih (by omega)
  have h2:=h (i+1+d) (by omega)
  show a[i]<a[i+1+d+1]
  omega
theorem zKy:∀{a:List Int} {lo hi:Int},a.Pairwise (· < ·)→(∀k∈a,lo≤k∧k<hi)→(a.length:Int)≤hi-lo∨a=[]
 |[],_,_,_,_=>.inr rfl
 |x::a,lo,hi,hp,hb=>by
  obtain ⟨h1,h2⟩:=List.pairwise_cons.1 hp
  have hx:=hb x (by simp)
  have:=zKy (lo:=x+1) (hi:=hi) h2 (fun k hk=>⟨by have:=h1 k hk; omega,(hb k (by simp [hk])).2⟩)
  refine .inl ?_
  rcases this with h3|h3
  ·simp only [List.length_cons]; omega
  ·subst h3; simp; omega
theorem zEB {c:List Pack} {a:List Int}:zMP c a=true↔a.Pairwise (· < ·)∧Places c a:=by
 unfold zMP
 rw [Option.isNone_iff_eq_none,zFy]
 constructor
 ·intro h
  have h1:∀(j:Nat) (hj:j<a.length),inB a[j] 0 ((c.length:Int)-1)=true∧(0<j→¬a[j]≤a.getD (j-1) 0):=by
   intro j hj
   have:=h j hj
   unfold zLJ at this
   rw [Nat.zero_add] at this
   split at this
   ·cases this
   ·rename_i h2
    simp only [Bool.or_eq_true,Bool.not_eq_true',Bool.and_eq_true,decide_eq_true_eq,not_or,not_and,Bool.not_eq_false] at h2
    exact h2
  refine ⟨zMw fun i hi=>?_,fun k hk=>?_⟩
  ·have:=(h1 (i+1) hi).2 (by omega)
   rw [show i+1-1=i by omega,getD_lt (by omega)] at this
   omega
  ·obtain ⟨j,hj,rfl⟩:=List.getElem_of_mem hk
   have:=(h1 j hj).1
   unfold inB at this
   simp only [Bool.and_eq_true,decide_eq_true_eq] at this
   omega
 ·rintro ⟨h1,h2⟩ j hj
  unfold zLJ
  rw [Nat.zero_add]
  have hk:=h2 a[j] (List.getElem_mem hj)
  rw [if_neg]
  simp only [Bool.or_eq_true,Bool.not_eq_true',Bool.and_eq_true,decide_eq_true_eq,not_or,not_and,Bool.not_eq_false]
  refine ⟨by unfold inB; simp; omega,fun h0=>?_⟩
  rw [getD_lt (by omega)]
  have:=(List.pairwise_iff_getElem.1 h1) (j-1) j (by omega) hj (by omega)
  omega
theorem zI9 {c:List Pack} {a:List Int} (h:zMP c a=true):a.length≤c.length:=by
 obtain ⟨h1,h2⟩:=zEB.1 h
 rcases zKy (lo:=0) (hi:=c.length) h1 h2 with h3|h3
 ·omega
 ·rw [h3]; simp
theorem zG1 (x y:Int):vH [x,y]=some (if x !=0 then x else y):=by
 unfold vH zAt
 rw [zKR _ (by simp),zAV]
 simp only [vE]
 by_cases h:x=0
 ·by_cases h2:y=0<;>simp [h,h2]
 ·simp [h]
theorem zE3:∀{l1 l2:List Int},l1.Pairwise (· < ·)→l2.Pairwise (· < ·)→(∀x,x∈l1↔x∈l2)→l1=l2
 |[],[],_,_,_=>rfl
 |[],y::l2,_,_,h=>by have:=(h y).2 (by simp); simp at this
 |x::l1,[],_,_,h=>by have:=(h x).1 (by simp); simp at this
 |x::l1,y::l2,h1,h2,h=>by
  rw [List.pairwise_cons] at h1 h2
  have hxy:x=y:=by
   have hx:=(h x).1 (by simp)
   have hy:=(h y).2 (by simp)
   rcases List.mem_cons.1 hx with e|hx
   ·exact e
   ·rcases List.mem_cons.1 hy with e|hy
    ·exact e.symm
    ·have:=h1.1 y hy
     have:=h2.1 x hx
     omega
  subst hxy
  congr 1
  refine zE3 h1.2 h2.2 fun z=>?_
  constructor
  ·intro hz
   rcases List.mem_cons.1 ((h z).1 (List.mem_cons_of_mem _ hz)) with e|hz'
   ·have:=h1.1 z hz; omega
   ·exact hz'
  ·intro hz
   rcases List.mem_cons.1 ((h z).2 (List.mem_cons_of_mem _ hz)) with e|hz'
   ·have:=h2.1 z hz; omega
   ·exact hz'
theorem zFu {l:List Int} (h:l.Pairwise (· < ·)) {i j:Nat} (hi:i<l.length) (hj:j<l.length) (hij:i<j):l[i]<l[j]:=List.pairwise_iff_getElem.1 h i j hi hj hij
theorem zMZ (l:List Int) (v:Int) (hs:l.Pairwise (· < ·)) (hv:v∉l) (hl:l.length≤1048576):
  ∃r,zEd l v=some r∧r.Pairwise (· < ·)∧(∀x,x∈r↔x∈l∨x=v)∧r.length=l.length+1:=by
 obtain ⟨⟨acc,inn⟩,e,h1,h2,h3,h4⟩:=vI (b:=zDs l v)
  (fun i s=>s.2.2=(i:Int)∧s.1.Pairwise (· < ·)∧(∀x,x∈s.1↔x∈l.take i∨(s.2.1=true∧x=v))∧s.1.length=i+(if s.2.1 then 1 else 0)∧(s.2.1=false→∀x∈l.take i,x<v)∧(s.2.1=true→∀x∈l.drop i,v<x)) l.length
  (fun t=>t.1.Pairwise (· < ·)∧(∀x,x∈t.1↔x∈l∨(t.2=true∧x=v))∧t.1.length=l.length+(if t.2 then 1 else 0)∧(t.2=false→∀x∈l,x<v)) (by
  rintro i ⟨acc,inn,j⟩ hi ⟨hj,hp,hm,hlen,hf,ht⟩
  simp only at hj hp hm hlen hf ht
  subst hj
  have hlt:∀x∈l.take i,x<l[i]:=by
   intro x hx
   obtain ⟨k,hk,rfl⟩:=List.mem_iff_getElem.1 hx
   rw [List.getElem_take]
   have:k<i:=by simp at hk; omega
   exact zFu hs (by omega) hi this
  have htk:l.take (i+1)=l.take i++[l[i]]:=List.take_succ_eq_append_getElem hi
  have hdr:l.drop i=l[i]::l.drop (i+1):=List.drop_eq_getElem_cons hi
  have hne:l[i]≠v:=fun e=>hv (e▸List.getElem_mem hi)
  have hal:acc.length≤1048577:=by rw [hlen]; split<;>omega
  unfold zDs
  rw [if_pos (by simp; omega),zI hi]
  simp only [Option.bind_some]
  rw [zM (by omega)]
  refine .inl ?_
  cases inn
  ·by_cases hgt:l[i]>v
   ·rw [if_pos (by simpa using hgt)]
    simp only [Bool.not_false,Option.bind_some,if_true]
    rw [uH (by simp; omega) (by simp; omega)]
    simp only [Option.bind_some]
    rw [uH (by simp; omega) (by simp; omega)]
    refine ⟨_,rfl,rfl,?_,?_,?_,by simp,?_⟩
    ·simp only
     have hav:∀x∈acc,x<v:=fun x hx=>hf rfl x (by have:=(hm x).1 hx; simpa using this)
     rw [List.pairwise_append,List.pairwise_append]
     refine ⟨⟨hp,by simp,fun x hx y hy=>by simp at hy; rw [hy]; exact hav x hx⟩,by simp,fun x hx y hy=>?_⟩
     simp at hy
     rw [hy]
     rcases List.mem_append.1 hx with hx|hx
     ·have:=hav x hx; omega
     ·simp at hx; omega
    ·intro x
     have:=hm x
     simp only [List.mem_append,List.mem_singleton,htk]
     simp at this
     rw [this]
     simp
     constructor<;>(intro h; rcases h with (h|h)|h<;>simp [h])
    ·simp; simp at hlen; omega
    ·intro _ x hx
     have:l[i]<x:=by
      obtain ⟨k,hk,rfl⟩:=List.mem_iff_getElem.1 hx
      rw [List.getElem_drop]
      simp at hk
      exact zFu hs hi (by omega) (by omega)
     omega
   ·rw [if_neg (by simpa using hgt)]
    simp only [Option.bind_some,Bool.false_eq_true,if_false]
    rw [uH (by simp; omega) (by simp; omega)]
    refine ⟨_,rfl,rfl,?_,?_,?_,?_,by simp⟩
    ·simp only
     rw [List.pairwise_append]
     refine ⟨hp,by simp,fun x hx y hy=>?_⟩
     simp at hy
     rw [hy]
     have:=(hm x).1 hx
     exact hlt x (by simpa using this)
    ·intro x
     have:=hm x
     simp only [List.mem_append,List.mem_singleton,htk]
     simp at this
     rw [this]
     simp
    ·simp; simp at hlen; omega
    ·intro _ x hx
     rw [htk] at hx
     rcases List.mem_append.1 hx with hx|hx
     ·exact hf rfl x hx
     ·simp at hx; omega
  ·have hlv:v<l[i]:=ht rfl _ (by rw [hdr]; exact List.mem_cons_self)
   rw [if_pos (by simpa using hlv)]
   simp only [Bool.not_true,Option.bind_some,Bool.false_eq_true,if_false]
   rw [uH (by simp; omega) (by simp; omega)]
   refine ⟨_,rfl,rfl,?_,?_,?_,by simp,?_⟩
   ·simp only
    rw [List.pairwise_append]
    refine ⟨hp,by simp,fun x hx y hy=>?_⟩
    simp at hy
    rw [hy]
    rcases (hm x).1 hx with hx|⟨_,hx⟩
    ·exact hlt x hx
    ·omega
   ·intro x
    have:=hm x
    simp only [List.mem_append,List.mem_singleton,htk]
    rw [this]
    simp
    constructor<;>(intro h; rcases h with (h|h)|h<;>simp [h])
   ·simp; simp at hlen; omega
   ·intro _ x hx
    exact ht rfl x (by rw [hdr]; exact List.mem_cons_of_mem _ hx)) (by
  rintro ⟨acc,inn,j⟩ ⟨hj,hp,hm,hlen,hf,ht⟩
  simp only at hj hp hm hlen hf ht
  subst hj
  unfold zDs
  rw [if_neg (by simp)]
  rw [List.take_length] at hm hf
  exact ⟨_,rfl,hp,hm,hlen,hf⟩) l.length 0 (([]:List Int),false,0) (by omega) ⟨rfl,by simp,by simp,by simp,by simp,by simp⟩
 simp only at h1 h2 h3 h4
 unfold zEd zDM
 rw [e]
 simp only [Option.bind_some]
 cases inn
 ·simp only [Bool.not_false,if_true]
  simp at h3
  rw [uH (by simp; omega) (by simp; omega)]
  refine ⟨_,rfl,?_,?_,by simp; omega⟩
  ·rw [List.pairwise_append]
   refine ⟨h1,by simp,fun x hx y hy=>?_⟩
   simp at hy
   rw [hy]
   have:=(h2 x).1 hx
   exact h4 rfl x (by simpa using this)
  ·intro x
   have:=h2 x
   simp at this
   simp [this]
 ·refine ⟨_,rfl,h1,?_,by simpa using h3⟩
  intro x
  have:=h2 x
  simpa using this
theorem zHj {c:List Pack} {a:List Int} (hC:Cat c) (hp:Places c a) (ha:a.length≤1048576):zBn c a=some (((zCG c a).length :Int)==0):=by
 unfold zBn
 rw [zH4 hC hp ha]
 rfl
theorem zHi {a b:ByteArray} (h:slt a b=false) (hne:a≠b):slt b a=true:=by
 cases h2:slt b a with
 |true=>rfl
 |false=>
  have c1:¬zPM a b<0:=fun hc=>by rw [(zNV a b).1 hc] at h; cases h
  have key:∀(x y:List UInt8),Op.bytesLess x y=false→Op.bytesLess y x=false→x=y:=by
   intro x
   induction x with
   |nil=>intro y; cases y<;>simp [Op.bytesLess]
   |cons u x ih=>
    intro y
    cases y with
    |nil=>simp [Op.bytesLess]
    |cons v y=>
     simp only [Op.bytesLess]
     intro e1 e2
     have e3:¬u<v:=fun hh=>by simp [hh] at e1
     have e4:¬v<u:=fun hh=>by simp [hh] at e2
     rw [UInt8.lt_iff_toNat_lt] at e3 e4
     have e5:u=v:=UInt8.toNat_inj.1 (by omega)
     subst e5
     simp [UInt8.lt_irrefl] at e1 e2
     rw [ih y e1 e2]
  exfalso
  apply hne
  unfold slt at h h2
  exact toList_inj (key _ _ h h2)
def ltS (a b:ByteArray):Prop:=slt a b=true
def leS (a b:ByteArray):Prop:=slt b a=false
theorem zIL (a:ByteArray):leS a a:=zDd a
theorem zKx {a b:ByteArray} (h:leS a b) (hne:a≠b):ltS a b:=zHi h (Ne.symm hne)
theorem zM3 {a b:ByteArray} (h:ltS a b):leS a b:=by
 unfold leS
 cases h2:slt b a with
 |false=>rfl
 |true=>
  have h3:=zED h h2
  rw [zDd] at h3
  cases h3
theorem zJP {a b c:ByteArray} (h1:leS a b) (h2:ltS b c):ltS a c:=by
 by_cases h:a=b
 ·rw [h]; exact h2
 ·exact zED (zKx h1 h) h2
theorem zHM {a b c:ByteArray} (h1:leS a b) (h2:leS b c):leS a c:=by
 by_cases h:b=c
 ·rw [←h]; exact h1
 ·exact zM3 (zJP h1 (zKx h2 h))
theorem zJs {a b:ByteArray} (h:ltS a b):a≠b:=fun e=>by
 subst e
 unfold ltS at h
 rw [zDd] at h
 cases h
theorem zCZ:∀{l1 l2:List ByteArray},l1.Pairwise ltS→l2.Pairwise ltS→(∀x,x∈l1↔x∈l2)→l1=l2
 |[],[],_,_,_=>rfl
 |[],y::l2,_,_,h=>by have:=(h y).2 (by simp); simp at this
 |x::l1,[],_,_,h=>by have:=(h x).1 (by simp); simp at this
 |x::l1,y::l2,h1,h2,h=>by
  rw [List.pairwise_cons] at h1 h2
  have hxy:x=y:=by
   have hx:=(h x).1 (by simp)
   have hy:=(h y).2 (by simp)
   rcases List.mem_cons.1 hx with e|hx
   ·exact e
   ·rcases List.mem_cons.1 hy with e|hy
    ·exact e.symm
    ·exact absurd rfl (zJs (zED (h1.1 y hy) (h2.1 x hx)))
  subst hxy
  congr 1
  refine zCZ h1.2 h2.2 fun z=>?_
  constructor
  ·intro hz
   rcases List.mem_cons.1 ((h z).1 (List.mem_cons_of_mem _ hz)) with e|hz'
   ·exact absurd e.symm (zJs (h1.1 z hz))
   ·exact hz'
  ·intro hz
   rcases List.mem_cons.1 ((h z).2 (List.mem_cons_of_mem _ hz)) with e|hz'
   ·exact absurd e.symm (zJs (h2.1 z hz))
   ·exact hz'
theorem zJO:∀(x y:List UInt8),x<y↔Op.bytesLess x y=true
 |[],[]=>by simp [Op.bytesLess]
 |[],y::l=>by simp [Op.bytesLess]
 |x::l,[]=>by simp [Op.bytesLess]
 |x::l,y::r=>by
  rw [List.cons_lt_cons_iff,zJO l r]
  simp only [Op.bytesLess]
  by_cases h:x<y
  ·simp [h]
  ·by_cases h2:y<x
   ·have:x≠y:=fun e=>by subst e; exact UInt8.lt_irrefl _ h2
    simp [h,this]
   ·have:x=y:=by
     rw [UInt8.lt_iff_toNat_lt] at h h2
     exact UInt8.toNat_inj.1 (by omega)
    subst this
    simp [UInt8.lt_irrefl]
theorem zOB (x y:List UInt8):decide (x≤y)= !(Op.bytesLess y x):=by
 cases hb:Op.bytesLess y x with
 |true=>
  have:¬(x≤y):=fun h=>h ((zJO y x).2 hb)
  simpa using this
 |false=>
  have:x≤y:=fun hc=>by
   rw [(zJO y x).1 hc] at hb
   cases hb
  simpa using this
theorem toList_data (s:ByteArray):s.data.toList=s.toList:=(ByteArray.toList_eq s).symm
theorem zMW (a:List ByteArray) (hl:a.length≤1048577):∃r,uV a=some r∧r.Pairwise leS∧(∀x,x∈r↔x∈a)∧r.length=a.length:=by
 unfold uV
 rw [if_pos (by omega)]
 have hle:∀x y:List UInt8,decide (x≤y)=true↔leS ⟨x.toArray⟩ ⟨y.toArray⟩:=fun x y=>by
  rw [zOB]
  unfold leS slt
  rw [←toList_data,←toList_data]
  cases Op.bytesLess y x<;>simp
 have hpw:=List.pairwise_mergeSort (le:=fun x y:List UInt8=>decide (x≤y)) (by
  intro x y z h1 h2
  exact (hle x z).2 (zHM ((hle x y).1 h1) ((hle y z).1 h2))) (by
  intro x y
  have:leS ⟨x.toArray⟩ ⟨y.toArray⟩∨leS ⟨y.toArray⟩ ⟨x.toArray⟩:=by
   cases h:slt ⟨y.toArray⟩ ⟨x.toArray⟩ with
   |false=>exact .inl h
   |true=>exact .inr (zM3 h)
  rcases this with h|h
  ·rw [(hle x y).2 h]; rfl
  ·rw [(hle y x).2 h,Bool.or_true]) (a.map (·.data.toList))
 refine ⟨_,rfl,?_,fun x=>?_,by simp [List.length_mergeSort]⟩
 ·exact List.pairwise_map.2 (hpw.imp fun h=>(hle _ _).1 h)
 ·simp only [List.mem_map,List.mem_mergeSort]
  constructor
  ·rintro ⟨_,⟨y,hy,rfl⟩,rfl⟩
   exact hy
  ·intro hx
   exact ⟨_,⟨x,hx,rfl⟩,rfl⟩
theorem zHN (l:List ByteArray) (v:ByteArray) (hs:l.Pairwise ltS) (hl:l.length≤1048576):
  ∃r,zCE l v=some r∧r.Pairwise ltS∧(∀x,x∈r↔x∈l∨x=v)∧r.length≤l.length+1:=by
 obtain ⟨t,e,ht⟩:=vI (b:=zDO l v)
  (fun i s=>s.2.2=(i:Int)∧s.1.Pairwise ltS∧(∀x,x∈s.1↔x∈l.take i∨(s.2.1=true∧x=v))∧s.1.length=i+(if s.2.1 then 1 else 0)∧(s.2.1=false→∀x∈l.take i,ltS x v)∧(s.2.1=true→∀x∈l.drop i,ltS v x)) l.length
  (fun t=>(t= .ret l∧v∈l)∨∃a b,t= .nxt (a,b)∧a.Pairwise ltS∧(∀x,x∈a↔x∈l∨(b=true∧x=v))∧a.length=l.length+(if b then 1 else 0)∧(b=false→∀x∈l,ltS x v)) (by
  rintro i ⟨acc,inn,j⟩ hi ⟨hj,hp,hm,hlen,hf,ht⟩
  simp only at hj hp hm hlen hf ht
  subst hj
  have hget:∀(i j:Nat) (hi:i<l.length) (hj:j<l.length),i<j→ltS l[i] l[j]:=fun i j hi hj h=>List.pairwise_iff_getElem.1 hs i j hi hj h
  have hlt:∀x∈l.take i,ltS x l[i]:=by
   intro x hx
   obtain ⟨k,hk,rfl⟩:=List.mem_iff_getElem.1 hx
   rw [List.getElem_take]
   have:k<i:=by simp at hk; omega
   exact hget _ _ (by omega) hi this
  have htk:l.take (i+1)=l.take i++[l[i]]:=List.take_succ_eq_append_getElem hi
  have hdr:l.drop i=l[i]::l.drop (i+1):=List.drop_eq_getElem_cons hi
  have hal:acc.length≤1048577:=by rw [hlen]; split<;>omega
  unfold zDO
  rw [if_pos (by simp; omega),zI hi]
  simp only [Option.bind_some]
  rw [zM (by omega)]
  by_cases heq:l[i]=v
  ·rw [if_pos (by rw [seq_eq]; simpa using heq)]
   exact .inr ⟨_,rfl,.inl ⟨rfl,heq▸List.getElem_mem hi⟩⟩
  ·rw [if_neg (by rw [seq_eq]; simpa using heq)]
   refine .inl ?_
   have hs2:(slt l[i] v||seq l[i] v)=slt l[i] v:=by rw [seq_eq]; simp [heq]
   rw [hs2]
   cases inn
   ·cases hgt:slt l[i] v
    ·have hvl:ltS v l[i]:=zHi hgt heq
     simp only [Bool.not_false,Option.bind_some,if_true]
     rw [uH (by simp; omega) (by simp; omega)]
     simp only [Option.bind_some]
     rw [uH (by simp; omega) (by simp; omega)]
     refine ⟨_,rfl,rfl,?_,?_,?_,by simp,?_⟩
     ·simp only
      have hav:∀x∈acc,ltS x v:=fun x hx=>hf rfl x (by have:=(hm x).1 hx; simpa using this)
      rw [List.pairwise_append,List.pairwise_append]
      refine ⟨⟨hp,by simp,fun x hx y hy=>by simp at hy; rw [hy]; exact hav x hx⟩,by simp,fun x hx y hy=>?_⟩
      simp at hy
      rw [hy]
      rcases List.mem_append.1 hx with hx|hx
      ·exact zED (hav x hx) hvl
      ·simp at hx; rw [hx]; exact hvl
     ·intro x
      have:=hm x
      simp only [List.mem_append,List.mem_singleton,htk]
      simp at this
      rw [this]
      simp
      constructor<;>(intro h; rcases h with (h|h)|h<;>simp [h])
     ·simp; simp at hlen; omega
     ·intro _ x hx
      have:ltS l[i] x:=by
       obtain ⟨k,hk,rfl⟩:=List.mem_iff_getElem.1 hx
       rw [List.getElem_drop]
       simp at hk
       exact hget _ _ hi (by omega) (by omega)
      exact zED hvl this
    ·simp only [Bool.not_true,Bool.false_eq_true,if_false,Option.bind_some]
     rw [uH (by simp; omega) (by simp; omega)]
     refine ⟨_,rfl,rfl,?_,?_,?_,?_,by simp⟩
     ·simp only
      rw [List.pairwise_append]
      refine ⟨hp,by simp,fun x hx y hy=>?_⟩
      simp at hy
      rw [hy]
      have:=(hm x).1 hx
      exact hlt x (by simpa using this)
     ·intro x
      have:=hm x
      simp only [List.mem_append,List.mem_singleton,htk]
      simp at this
      rw [this]
      simp
     ·simp; simp at hlen; omega
     ·intro _ x hx
      rw [htk] at hx
      rcases List.mem_append.1 hx with hx|hx
      ·exact hf rfl x hx
      ·simp at hx; rw [hx]; exact hgt
   ·have hlv:ltS v l[i]:=ht rfl _ (by rw [hdr]; exact List.mem_cons_self)
    have hgt:slt l[i] v=false:=zM3 hlv
    rw [hgt]
    simp only [Bool.not_false,Bool.not_true,Option.bind_some,Bool.false_eq_true,if_false,if_true]
    rw [uH (by simp; omega) (by simp; omega)]
    refine ⟨_,rfl,rfl,?_,?_,?_,by simp,?_⟩
    ·simp only
     rw [List.pairwise_append]
     refine ⟨hp,by simp,fun x hx y hy=>?_⟩
     simp at hy
     rw [hy]
     rcases (hm x).1 hx with hx|⟨_,hx⟩
     ·exact hlt x hx
     ·rw [hx]; exact hlv
    ·intro x
     have:=hm x
     simp only [List.mem_append,List.mem_singleton,htk]
     rw [this]
     simp
     constructor<;>(intro h; rcases h with (h|h)|h<;>simp [h])
    ·simp; simp at hlen; omega
    ·intro _ x hx
     exact ht rfl x (by rw [hdr]; exact List.mem_cons_of_mem _ hx)) (by
  rintro ⟨acc,inn,j⟩ ⟨hj,hp,hm,hlen,hf,ht⟩
  simp only at hj hp hm hlen hf ht
  subst hj
  unfold zDO
  rw [if_neg (by simp)]
  rw [List.take_length] at hm hf
  exact ⟨_,rfl,.inr ⟨acc,inn,rfl,hp,hm,hlen,hf⟩⟩) l.length 0 (([]:List ByteArray),false,0) (by omega) ⟨rfl,by simp,by simp,by simp,by simp,by simp⟩
 unfold zCE zFT
 rw [e]
 rcases ht with ⟨rfl,hv⟩|⟨acc,inn,rfl,h1,h2,h3,h4⟩
 ·refine ⟨l,rfl,hs,fun x=>⟨.inl,fun h=>h.elim id (fun e=>e▸hv)⟩,by omega⟩
 ·simp only [Option.bind_some,Fl.go]
  cases inn
  ·simp only [Bool.not_false,if_true]
   simp at h3
   rw [uH (by simp; omega) (by simp; omega)]
   refine ⟨_,rfl,?_,?_,by simp; omega⟩
   ·rw [List.pairwise_append]
    refine ⟨h1,by simp,fun x hx y hy=>?_⟩
    simp at hy
    rw [hy]
    have:=(h2 x).1 hx
    exact h4 rfl x (by simpa using this)
   ·intro x
    have:=h2 x
    simp at this
    simp [this]
  ·refine ⟨_,rfl,h1,?_,by simp at h3; omega⟩
   intro x
   have:=h2 x
   simpa using this
theorem zHY (a:List ByteArray) (k0:Nat) (h0:1≤k0) (hk:k0<a.length) (hs:a.Pairwise leS) (hl:a.length≤1048577) (hd:a[k0]'hk=a[k0-1]'(by omega)) (hp0:(a.take k0).Pairwise ltS) (x48:List ByteArray) (hx:x48.length=a.length-k0):
  ∃xs k,vU (k0:Int) x48 (a,(k0:Int),1)=some (xs,((k:Nat):Int))∧xs.length=a.length∧k≤a.length∧(xs.take k).Pairwise ltS∧∀x,x∈xs.take k↔x∈a:=by
 have hle:∀(i j:Nat) (hi:i<a.length) (hj:j<a.length),i≤j→leS a[i] a[j]:=by
  intro i j hi hj hij
  rcases Nat.lt_or_ge i j with h|h
  ·exact List.pairwise_iff_getElem.1 hs i j hi hj h
  ·have:i=j:=by omega
   subst this; exact zIL _
 obtain ⟨⟨xs,k'⟩,e,h1,k,h2,h3,h4,h5⟩:=vI (b:=uL (k0:Int) x48)
  (fun i s=>s.2.2=((i+1:Nat):Int)∧s.1.length=a.length∧(∀j,i+k0≤j→s.1[j]? =a[j]?)∧∃k:Nat,s.2.1=(k:Int)∧1≤k∧k≤i+k0∧(s.1.take k).Pairwise ltS∧(∀x,x∈s.1.take k↔x∈a.take (i+k0+1))∧(∀x∈s.1.take k,leS x (a.getD (i+k0) ByteArray.empty))) (a.length-k0-1)
  (fun t=>t.1.length=a.length∧∃k:Nat,t.2=(k:Int)∧k≤a.length∧(t.1.take k).Pairwise ltS∧∀x,x∈t.1.take k↔x∈a) (by
  rintro i ⟨xs,kk,jj⟩ hi ⟨hj,hlen,hsame,k,hkk,hk1,hkle,hpw,hmem,hmax⟩
  simp only at hj hlen hsame hkk hpw hmem hmax
  subst hj hkk
  have hi1:i+k0+1<a.length:=by omega
  have g1:xs[i+k0+1]'(by omega)=a[i+k0+1]:=by
   have:=hsame (i+k0+1) (by omega)
   rw [List.getElem?_eq_getElem (by omega),List.getElem?_eq_getElem hi1] at this
   exact Option.some.inj this
  have g0:xs[i+k0]'(by omega)=a[i+k0]:=by
   have:=hsame (i+k0) (by omega)
   rw [List.getElem?_eq_getElem (by omega),List.getElem?_eq_getElem (by omega)] at this
   exact Option.some.inj this
  have hgd:a.getD (i+k0) ByteArray.empty=a[i+k0]:=by simp [List.getD,show i+k0<a.length by omega]
  rw [hgd] at hmax
  have r1:zK0 xs (k0:Int) x48.length ((i+1:Nat):Int)=some a[i+k0+1]:=by
   unfold zK0
   rw [if_pos (by omega),show (k0:Int)+((i+1:Nat):Int)=((i+k0+1:Nat):Int) by omega,zI (by omega),g1]
  have r0:zK0 xs (k0:Int) x48.length (i:Int)=some a[i+k0]:=by
   unfold zK0
   rw [if_pos (by omega),show (k0:Int)+(i:Int)=((i+k0:Nat):Int) by omega,zI (by omega),g0]
  refine .inl ?_
  unfold uL
  rw [if_pos (by simp; omega)]
  simp only
  rw [r1,kG (x:=((i+1:Nat):Int)-1) (by omega) (by omega),show ((i+1:Nat):Int)-1=(i:Int) by omega,r0,zI (show k<xs.length by omega),zM (show k<_ by omega),zM (show i+1<_ by omega)]
  simp only [Option.bind_some]
  have htk:a.take (i+k0+1+1)=a.take (i+k0+1)++[a[i+k0+1]]:=List.take_succ_eq_append_getElem hi1
  have hmono:=hle (i+k0) (i+k0+1) (by omega) hi1 (by omega)
  have hgd1:a.getD (i+1+k0) ByteArray.empty=a[i+k0+1]:=by
   rw [show i+1+k0=i+k0+1 by omega]
   simp [List.getD,hi1]
  by_cases hne:a[i+k0+1]=a[i+k0]
  ·rw [if_neg (by simp [hne])]
   refine ⟨_,rfl,rfl,hlen,fun j hj=>hsame j (by omega),k,rfl,hk1,by omega,hpw,?_,?_⟩
   ·intro x
    rw [show i+1+k0+1=i+k0+1+1 by omega,htk,hmem,List.mem_append,List.mem_singleton]
    constructor
    ·exact fun h=>.inl h
    ·rintro (h|h)
     ·exact h
     ·rw [h,hne]
      refine List.mem_iff_getElem.2 ⟨i+k0,by simp; omega,by simp⟩
   ·intro x hx
    rw [hgd1]
    exact zHM (hmax x hx) hmono
  ·rw [if_pos (by simpa [seq_eq] using hne)]
   refine ⟨_,rfl,rfl,by simpa using hlen,?_,k+1,rfl,by omega,by omega,?_,?_,?_⟩
   ·intro j hj
    show (xs.set (k:Int).toNat a[i+k0+1])[j]? =a[j]?
    rw [Int.toNat_natCast,List.getElem?_set_ne (by omega)]
    exact hsame j (by omega)
   ·show ((xs.set (k:Int).toNat a[i+k0+1]).take (k+1)).Pairwise ltS
    rw [Int.toNat_natCast,zHc (by omega),List.pairwise_append]
    refine ⟨hpw,by simp,fun x hx y hy=>?_⟩
    simp at hy
    rw [hy]
    exact zJP (hmax x hx) (zKx hmono (Ne.symm hne))
   ·intro x
    show x∈(xs.set (k:Int).toNat a[i+k0+1]).take (k+1)↔_
    rw [Int.toNat_natCast,zHc (by omega),show i+1+k0+1=i+k0+1+1 by omega,htk,List.mem_append,List.mem_append,hmem]
   ·intro x hx
    have hx':x∈(xs.set (k:Int).toNat a[i+k0+1]).take (k+1):=hx
    rw [Int.toNat_natCast,zHc (by omega)] at hx'
    rw [hgd1]
    rcases List.mem_append.1 hx' with h|h
    ·exact zHM (hmax x h) hmono
    ·simp at h; rw [h]; exact zIL _) (by
  rintro ⟨xs,kk,jj⟩ ⟨hj,hlen,hsame,k,hkk,hk1,hkle,hpw,hmem,hmax⟩
  simp only at hj hlen hsame hkk hpw hmem hmax
  subst hj hkk
  unfold uL
  rw [if_neg (by simp; omega)]
  refine ⟨_,rfl,hlen,k,rfl,by omega,hpw,fun x=>?_⟩
  rw [hmem,List.take_of_length_le (by omega)]) (a.length-k0-1) 0 (a,(k0:Int),1) (by omega) ⟨rfl,rfl,fun _ _=>rfl,k0,rfl,h0,by omega,hp0,by
   intro x
   rw [Nat.zero_add,List.take_succ_eq_append_getElem hk,List.mem_append,List.mem_singleton]
   constructor
   ·exact fun h=>.inl h
   ·rintro (h|h)
    ·exact h
    ·rw [h,hd]
     exact List.mem_iff_getElem.2 ⟨k0-1,by simp; omega,by simp⟩,by
   intro x hx
   rw [Nat.zero_add]
   obtain ⟨j,hj,rfl⟩:=List.mem_iff_getElem.1 hx
   rw [List.getElem_take]
   have hgd:a.getD k0 ByteArray.empty=a[k0]:=by simp [List.getD,hk]
   rw [hgd]
   simp at hj
   exact hle j k0 (by omega) hk (by omega)⟩
 simp only at h1 h2
 subst h2
 exact ⟨xs,k,by unfold vU; exact e,h1,h3,h4,h5⟩
theorem zKi (a:List ByteArray) (hs:a.Pairwise leS) (hl:a.length≤1048577):∃r,vX a=some r∧r.Pairwise ltS∧(∀x,x∈r↔x∈a)∧r.length≤a.length:=by
 have step1:∀i (hi:i<a.length) (h1:1≤i),(a.take i).Pairwise ltS→a[i]≠a[i-1]'(by omega)→(a.take (i+1)).Pairwise ltS:=by
  intro i hi h1 hp hne
  rw [List.take_succ_eq_append_getElem hi,List.pairwise_append]
  refine ⟨hp,by simp,fun x hx y hy=>?_⟩
  simp at hy
  rw [hy]
  obtain ⟨j,hj,rfl⟩:=List.mem_iff_getElem.1 hx
  rw [List.getElem_take]
  simp at hj
  have q1:leS (a[i-1]'(by omega)) a[i]:=List.pairwise_iff_getElem.1 hs (i-1) i (by omega) hi (by omega)
  have q2:leS (a[j]'(by omega)) (a[i-1]'(by omega)):=by
   rcases Nat.lt_or_ge j (i-1) with h|h
   ·exact List.pairwise_iff_getElem.1 hs j (i-1) (by omega) (by omega) h
   ·have:j=i-1:=by omega
    subst this; exact zIL _
  exact zJP q2 (zKx q1 (Ne.symm hne))
 have hb:∀i (hi:i<a.length) (h1:1≤i),(a.take i).Pairwise ltS→(a[i]=a[i-1]'(by omega)∧∃r,vB a (i:Int)=some (.done (.ret r))∧r.Pairwise ltS∧(∀x,x∈r↔x∈a)∧r.length≤a.length)∨(a[i]≠a[i-1]'(by omega)∧vB a (i:Int)=some (.go ((i+1:Nat):Int))):=by
  intro i hi h1 hp
  unfold vB
  rw [if_pos (by simp; omega),zI hi,kG (x:=(i:Int)-1) (by omega) (by omega),show (i:Int)-1=((i-1:Nat):Int) by omega,zI (show i-1<a.length by omega),zM (by omega)]
  simp only [Option.bind_some]
  by_cases he:a[i]=a[i-1]'(by omega)
  ·left
   refine ⟨he,?_⟩
   rw [if_pos (by simpa [seq_eq] using he),zEq (Nat.le_of_lt hi) (Nat.le_refl _)]
   simp only [Option.bind_some]
   obtain ⟨xs,k,e,g1,g2,g3,g4⟩:=zHY a i h1 hi hs hl he hp ((a.drop i).take (a.length-i)) (by simp)
   rw [e]
   simp only [Option.bind_some]
   have hk:k≤xs.length:=by omega
   rw [zEq hk (Nat.le_refl _)]
   simp only [Option.bind_some]
   rw [zMu (by simp; omega)]
   simp only [Option.bind_some]
   refine ⟨xs.take k,?_,g3,g4,by simp; omega⟩
   have:∀ys:List ByteArray,zEE (xs.take k++ys) 0 (k:Int)=some (xs.take k):=by
    intro ys
    have hh:=zEq (xs:=xs.take k++ys) (l:=0) (h:=k) (by omega) (by simp; omega)
    rw [show ((0:Nat):Int)=0 from rfl] at hh
    rw [hh]
    simp [Nat.min_eq_left hk]
   rw [List.append_assoc,this]
   rfl
  ·right
   rw [if_neg (by simpa [seq_eq] using he)]
   exact ⟨he,rfl⟩
 unfold vX
 by_cases h2:a.length<2
 ·rw [if_pos (by simp; omega)]
  refine ⟨a,rfl,?_,fun x=>Iff.rfl,Nat.le_refl _⟩
  match a,h2 with
  |[],_=>simp
  |[x],_=>simp
 ·rw [if_neg (by simp; omega)]
  obtain ⟨t,e,h⟩:=vI (b:=vB a) (fun i s=>s=((i+1:Nat):Int)∧(a.take (i+1)).Pairwise ltS) (a.length-1)
   (fun t=>(∃r,t= .ret r∧r.Pairwise ltS∧(∀x,x∈r↔x∈a)∧r.length≤a.length)∨(t= .nxt ()∧a.Pairwise ltS)) (by
   rintro i s hi ⟨rfl,hp⟩
   rcases hb (i+1) (by omega) (by omega) hp with ⟨_,r,e,q⟩|⟨hne,e⟩
   ·exact .inr ⟨_,e,.inl ⟨r,rfl,q⟩⟩
   ·exact .inl ⟨_,e,rfl,step1 (i+1) (by omega) (by omega) hp hne⟩) (by
   rintro s ⟨rfl,hp⟩
   rw [show a.length-1+1=a.length by omega] at hp ⊢
   refine ⟨.nxt (),?_,.inr ⟨rfl,by rw [List.take_length] at hp; exact hp⟩⟩
   unfold vB
   rw [if_neg (by simp)]) (a.length-1) 0 1 (by omega) ⟨rfl,by
    match a,h2 with
    |x::l,_=>simp⟩
  unfold uS
  rw [e]
  rcases h with ⟨r,rfl,q⟩|⟨rfl,q⟩
  ·exact ⟨r,rfl,q⟩
  ·exact ⟨a,rfl,q,fun x=>Iff.rfl,Nat.le_refl _⟩
theorem zFF (a:List ByteArray) (hl:a.length≤1048577):∃r,uZ a=some r∧r.Pairwise ltS∧∀x,x∈r↔x∈a:=by
 obtain ⟨m,e1,e2,e3,e4⟩:=zMW a hl
 obtain ⟨r,f1,f2,f3,_⟩:=zKi m e2 (by omega)
 unfold uZ
 rw [e1]
 simp only [Option.bind_some]
 rw [zKl e4]
 simp only [Option.bind_some]
 rw [f1]
 exact ⟨r,rfl,f2,fun x=>by rw [f3,e3]⟩
structure Sr (b:Nat) (s:zD):Prop where
 len:s.Code.length≤1048576
 byt:∀c∈s.Code,0≤c∧c≤255
 a0:0≤s.At
 a1:s.At≤(b:Int)
theorem Sr.mono {b b':Nat} {s:zD} (h:Sr b s) (hb:b≤b'):Sr b' s:=⟨h.len,h.byt,h.a0,by have:=h.a1; omega⟩
theorem zKu {a:List Int} (h:a.length≤1048576) (hb:∀c∈a,0≤c∧c≤255):∃s,zDe a=some s∧Sr 0 s:=
 ⟨_,rfl,h,hb,Int.le_refl _,Int.le_refl _⟩
theorem zAg {b:Nat} {s:zD} (h:Sr b s) (hb:b≤1000000000) (n:Int):∃r s',zP s n=some (r,s')∧0≤r∧(1≤n→r<n)∧Sr (b+1) s':=by
 obtain ⟨hl,hbt,h0,h1⟩:=h
 have e1:w64 (s.At+1)=s.At+1:=kG (by omega) (by omega)
 have e2:w64 (s.At+1-1)=s.At:=by rw [kG (by omega) (by omega)]; omega
 have hS:Sr (b+1) {Code:=s.Code,At:=s.At+1}:=⟨hl,hbt,by show 0≤s.At+1; omega,by show s.At+1≤_; omega⟩
 unfold zP
 rw [e1,e2]
 by_cases hn:n<1
 ·rw [if_pos (by simpa using hn)]
  exact ⟨0,_,rfl,Int.le_refl _,fun h=>by omega,hS⟩
 rw [if_neg (by simpa using hn)]
 have hr:∀v:Int,0≤v→∃r,zMS v n=some r∧0≤r∧r<n:=fun v hv=>⟨v.tmod n,by unfold zMS; rw [if_neg (by omega)],Int.tmod_nonneg _ hv,Int.tmod_lt_of_pos _ (by omega)⟩
 by_cases hk:((s.Code.length:Int)==0)=true
 ·rw [if_pos hk,kG (x:=s.At*7) (by omega) (by omega)]
  obtain ⟨r,e,g1,g2⟩:=hr (s.At*7) (by omega)
  rw [e]
  exact ⟨r,_,rfl,g1,fun _=>g2,hS⟩
 ·rw [if_neg hk]
  have hkp:0<s.Code.length:=by
   have:¬((s.Code.length:Int)=0):=fun h=>hk (by simp [h])
   omega
  have hrk:∀v:Int,0≤v→∃(q:Nat) (hq:q<s.Code.length),zMS v (s.Code.length:Int)=some (q:Int):=fun v hv=>by
   have g1:=Int.tmod_nonneg (s.Code.length:Int) hv
   have g2:=Int.tmod_lt_of_pos v (b:=(s.Code.length:Int)) (by omega)
   refine ⟨(v.tmod (s.Code.length:Int)).toNat,by omega,?_⟩
   unfold zMS
   rw [if_neg (by omega)]
   congr 1
   omega
  obtain ⟨q,hq,eq⟩:=hrk s.At h0
  obtain ⟨q2,hq2,eq2⟩:=hrk (s.At+1) (by omega)
  have hc:=hbt _ (List.getElem_mem hq)
  have hc2:=hbt _ (List.getElem_mem hq2)
  obtain ⟨d,ed,d0,d1⟩:∃d,zOG .i64 s.At (s.Code.length:Int)=some d∧0≤d∧d≤s.At:=by
   have g1:=Int.tdiv_nonneg h0 (show 0≤(s.Code.length:Int) by omega)
   have g2:s.At.tdiv (s.Code.length:Int)≤s.At:=by
    rw [Int.tdiv_eq_ediv_of_nonneg h0]
    exact Int.ediv_le_self _ h0
   refine ⟨s.At.tdiv (s.Code.length:Int),?_,g1,g2⟩
   unfold zOG
   rw [if_neg (by omega)]
   congr 1
   exact kG (by omega) (by omega)
  rw [eq]
  simp only [Option.bind_some,zI hq,ed]
  rw [kG (x:=s.At+1) (by omega) (by omega),eq2]
  simp only [Option.bind_some,zI hq2]
  rw [kG (x:=s.Code[q]) (by omega) (by omega),kG (x:=d*37) (by omega) (by omega),kG (x:=s.Code[q]+d*37) (by omega) (by omega),kG (x:=(s.Code[q]+d*37)*251) (by omega) (by omega),
   kG (x:=s.Code[q2]) (by omega) (by omega),kG (x:=s.Code[q2]*13) (by omega) (by omega),kG (x:=(s.Code[q]+d*37)*251+s.Code[q2]*13) (by omega) (by omega),kG (x:=(s.Code[q]+d*37)*251+s.Code[q2]*13+s.At) (by omega) (by omega)]
  by_cases h200:n>200
  ·rw [if_pos (by simpa using h200)]
   obtain ⟨r,e,g1,g2⟩:=hr ((s.Code[q]+d*37)*251+s.Code[q2]*13+s.At) (by omega)
   simp only [Option.bind_some,e]
   exact ⟨r,_,rfl,g1,fun _=>g2,hS⟩
  ·rw [if_neg (by simpa using h200)]
   obtain ⟨r,e,g1,g2⟩:=hr (s.Code[q]+d*37) (by omega)
   simp only [Option.bind_some,e]
   exact ⟨r,_,rfl,g1,fun _=>g2,hS⟩
theorem kC {b:Nat} {s:zD} (h:Sr b s) (hb:b≤1000000000) (n:Int):∃r s',yE s n=some (r,s')∧Sr (b+1) s':=by
 obtain ⟨r,s',e,_,_,h'⟩:=zAg h hb n
 unfold yE
 rw [e]
 exact ⟨_,_,rfl,h'⟩
theorem at_next {α:Type} {b:Nat} {s:zD} (h:Sr b s) (hb:b≤1000000000) {l:List α} {n:Int} (hn:n=(l.length:Int)) (hl:l≠[]):
  ∃r s' x,zP s n=some (r,s')∧idx l r=some x∧x∈l∧Sr (b+1) s':=by
 obtain ⟨r,s',e,g1,g2,h'⟩:=zAg h hb n
 have hlp:0<l.length:=List.length_pos_iff.2 hl
 have g3:=g2 (by omega)
 obtain ⟨q,rfl⟩:=Int.eq_ofNat_of_zero_le g1
 have hq:q<l.length:=by omega
 exact ⟨_,s',l[q],e,zI hq,List.getElem_mem hq,h'⟩
theorem zDL {b:Nat} {s:zD} (h:Sr b s) (hb:b≤1000000000) (l:List Int) (hl:l≠[]):∃x s',wR s l=some (x,s')∧x∈l∧Sr (b+1) s':=by
 obtain ⟨r,s',x,e1,e2,hx,h'⟩:=at_next h hb (l:=l) rfl hl
 unfold wR
 rw [e1]
 simp only [Option.bind_some,e2]
 exact ⟨x,s',rfl,hx,h'⟩
theorem zGl {b:Nat} {s:zD} (h:Sr b s) (hb:b≤1000000000):∃p s',vO s=some (p,s')∧p.size≤20∧Sr (b+1) s':=by
 obtain ⟨r,s',x,e1,e2,hx,h'⟩:=at_next h hb (l:=[bs [97],bs [98],bs [99],bs [100],bs [108,105,98],bs [119,101,98]]) (n:=6) rfl (by simp)
 refine ⟨x,s',?_,?_,h'⟩
 ·unfold vO
  rw [e1]
  simp only [Option.bind_some,e2]
 ·simp only [List.mem_cons,List.not_mem_nil,or_false] at hx
  rcases hx with rfl|rfl|rfl|rfl|rfl|rfl<;>decide
theorem zGN {b:Nat} {s:zD} (h:Sr b s) (hb:b+10≤1000000000):∃v s',jA s=some (v,s')∧(0≤v.A∧v.A≤3)∧Sr (b+5) s':=by
 obtain ⟨a,s1,e1,a0,a1,h1⟩:=zAg h (by omega) 4
 obtain ⟨c,s2,e2,_,_,h2⟩:=zAg h1 (by omega) 3
 obtain ⟨d,s3,e3,_,h3⟩:=zDL h2 (by omega) [0,0,c] (by simp)
 obtain ⟨f,s4,e4,_,_,h4⟩:=zAg h3 (by omega) 3
 obtain ⟨g,s5,e5,_,h5⟩:=zDL h4 (by omega) [0,0,0,f] (by simp)
 refine ⟨{A:=a,B:=d,C:=g},s5,?_,⟨a0,by have:=a1 (by omega); simp only; omega⟩,h5⟩
 unfold jA
 rw [e1]
 simp only [Option.bind_some,e2,e3,e4,e5]
theorem zGy {b:Nat} {s:zD} (h:Sr b s) (hb:b+20≤1000000000):∃t s',uU s=some (t,s')∧t.Name.size≤20∧Sr (b+9) s':=by
 obtain ⟨p,s1,e1,hp,h1⟩:=zGl h (by omega)
 obtain ⟨q,s2,e2,h2⟩:=kC h1 (by omega) 2
 obtain ⟨v,s3,e3,h3⟩:∃(v:Version) (s3:zD),(if q=true then (jA s2).bind fun x9=>some (x9.2.Code,x9.2.At,x9.1.A,x9.1.B,x9.1.C) else some (s2.Code,s2.At,0,0,0))=some (s3.Code,s3.At,v.A,v.B,v.C)∧Sr (b+7) s3:=by
  cases q
  ·exact ⟨{A:=0,B:=0,C:=0},s2,rfl,h2.mono (by omega)⟩
  ·obtain ⟨v,s3,e,_,h3⟩:=zGN h2 (by omega)
   rw [e]
   exact ⟨v,s3,rfl,h3.mono (by omega)⟩
 obtain ⟨q2,s4,e4,h4⟩:=kC (s:= {Code:=s3.Code,At:=s3.At}) h3 (by omega) 3
 obtain ⟨u,s5,e5,h5⟩:∃(u:Version) (s5:zD),(if q2=true then (zP s4 2).bind fun x15=>some (x15.2.Code,x15.2.At,w64 (w64 (v.A+1)+x15.1),(0:Int),(0:Int)) else some (s4.Code,s4.At,1000,0,0))=some (s5.Code,s5.At,u.A,u.B,u.C)∧Sr (b+9) s5:=by
  cases q2
  ·exact ⟨{A:=1000,B:=0,C:=0},s4,rfl,h4.mono (by omega)⟩
  ·obtain ⟨r,s5,e,_,_,h5⟩:=zAg h4 (by omega) 2
   rw [e]
   exact ⟨{A:=w64 (w64 (v.A+1)+r),B:=0,C:=0},s5,rfl,h5.mono (by omega)⟩
 refine ⟨{Name:=p,Low:=v,High:=u},s5,?_,hp,h5⟩
 unfold uU tZ zAH
 rw [e1]
 simp only [Option.bind_some,e2,e3,e4,e5]
theorem zI1 {b:Nat} {s:zD} (h:Sr b s) (hb:b+10≤1000000000):∃p s',vN s=some (p,s')∧p.size≤20∧Sr (b+2) s':=by
 obtain ⟨q,s1,e,h1⟩:=kC h (by omega) 14
 unfold vN
 rw [e]
 simp only [Option.bind_some]
 cases q
 ·obtain ⟨p,s2,e2,h2,h3⟩:=zGl h1 (by omega)
  rw [e2]
  exact ⟨p,s2,rfl,h2,h3⟩
 ·obtain ⟨r,s',x,e1,e2,hx,h'⟩:=at_next h1 (by omega) (l:=[bs [],bs [49,97],bs [65],bs [97,98,99,100,101,102,103,104,105,106,107,108,109],bs [97,98,99,100,101,102,103,104,105,106,107,108],bs [97,32,98],bs [97,45],bs [95,97],bs [97,95,49]]) (n:=9) rfl (by simp)
  rw [e1]
  simp only [Option.bind_some,e2,if_true]
  refine ⟨x,s',rfl,?_,h'⟩
  simp only [List.mem_cons,List.not_mem_nil,or_false] at hx
  rcases hx with rfl|rfl|rfl|rfl|rfl|rfl|rfl|rfl|rfl<;>decide
theorem zEu {b:Nat} {s:zD} (h:Sr b s) (hb:b+20≤1000000000):∃v s',vG s=some (v,s')∧Sr (b+7) s':=by
 obtain ⟨v,s1,e1,_,h1⟩:=zGN h (by omega)
 obtain ⟨n,s2,e2,_,_,h2⟩:=zAg h1 (by omega) 14
 unfold vG
 rw [e1]
 simp only [Option.bind_some,e2]
 by_cases c0:(n==0)=true
 ·obtain ⟨y,s3,e3,_,h3⟩:=zDL h2 (by omega) [-1,999,1000] (by simp)
  rw [if_pos c0,e3]
  exact ⟨_,_,rfl,h3⟩
 rw [if_neg c0]
 by_cases c1:(n==1)=true
 ·obtain ⟨y,s3,e3,_,h3⟩:=zDL h2 (by omega) [-1,999,1000] (by simp)
  rw [if_pos c1,e3]
  exact ⟨_,_,rfl,h3⟩
 rw [if_neg c1]
 by_cases c2:(n==2)=true
 ·obtain ⟨y,s3,e3,_,h3⟩:=zDL h2 (by omega) [-1,999,1000,4611686018427387904] (by simp)
  rw [if_pos c2,e3]
  exact ⟨_,_,rfl,h3⟩
 rw [if_neg c2]
 exact ⟨_,_,rfl,h2.mono (by omega)⟩
theorem zFm {b:Nat} {s:zD} (h:Sr b s) (hb:b+40≤1000000000):∃t s',uI s=some (t,s')∧t.Name.size≤20∧Sr (b+20) s':=by
 obtain ⟨t,s1,e1,ht,h1⟩:=zGy h (by omega)
 obtain ⟨n,s2,e2,_,_,h2⟩:=zAg h1 (by omega) 14
 unfold uI
 rw [e1]
 simp only [Option.bind_some,e2]
 by_cases c0:(n==0)=true
 ·obtain ⟨p,s3,e3,hp,h3⟩:=zI1 h2 (by omega)
  rw [if_pos c0,e3]
  exact ⟨_,_,rfl,hp,h3.mono (by omega)⟩
 rw [if_neg c0]
 by_cases c1:(n==1)=true
 ·obtain ⟨v,s3,e3,h3⟩:=zEu h2 (by omega)
  rw [if_pos c1,e3]
  exact ⟨_,_,rfl,ht,h3.mono (by omega)⟩
 rw [if_neg c1]
 by_cases c2:(n==2)=true
 ·obtain ⟨v,s3,e3,h3⟩:=zEu h2 (by omega)
  rw [if_pos c2,e3]
  exact ⟨_,_,rfl,ht,h3.mono (by omega)⟩
 rw [if_neg c2]
 by_cases c3:(n==3)=true
 ·rw [if_pos c3]
  exact ⟨_,_,rfl,ht,h2.mono (by omega)⟩
 rw [if_neg c3]
 exact ⟨_,_,rfl,ht,h2.mono (by omega)⟩
theorem zGp {α β:Type} {f:Nat→List β→α→List β} {p:Nat→α→Prop} (hf:∀i l x,f i l x=[]↔l=[]∧p i x):∀(xs:List α) (i:Nat) (l:List β),foldI f i xs l=[]↔l=[]∧∀j,(h:j<xs.length)→p (i+j) xs[j]
 |[],i,l=>by simp [foldI]
 |x::xs,i,l=>by
  show foldI f (i+1) xs (f i l x)=[]↔_
  rw [zGp hf xs (i+1) (f i l x),hf]
  constructor
  ·rintro ⟨⟨h1,h2⟩,h3⟩
   refine ⟨h1,fun j hj=>?_⟩
   cases j with
   |zero=>simpa using h2
   |succ j=>
    have:=h3 j (by simpa using hj)
    rw [show i+(j+1)=i+1+j by omega]
    simpa using this
  ·rintro ⟨h1,h2⟩
   refine ⟨⟨h1,by have h:=h2 0 (by simp); rw [Nat.add_zero] at h; exact h⟩,fun j hj=>?_⟩
   have:=h2 (j+1) (by simpa using hj)
   rw [show i+(j+1)=i+1+j by omega] at this
   simpa using this
def uM (c:List Pack) (k:Int):ByteArray:=(pat c k).Name
structure GoodS (c:List Pack) (a:List Int):Prop where
 names:a.Pairwise (fun k o=>uM c k≠uM c o)
 needs:∀k∈a,∀l∈(pat c k).Needs,zJE c a l=true
 bars:∀k∈a,∀t∈(pat c k).Bars,zDp c a t k=false
theorem zEC (c:List Pack) (a:List Int):zCG c a=[]↔GoodS c a:=by
 have hN:∀(k:Int) (j:Nat) (l:List zO) (x:List Term),fN c a k j l x=[]↔l=[]∧zJE c a x=true:=by
  intro k j l x
  unfold fN
  cases zJE c a x<;>simp
 have hB:∀(k:Int) (j:Nat) (l:List zO) (t:Term),fB c a k j l t=[]↔l=[]∧zDp c a t k=false:=by
  intro k j l t
  unfold fB
  cases zDp c a t k<;>simp
 have hS:∀(i:Nat) (l:List zO) (k:Int),fS c a i l k=[]↔l=[]∧((a.take i).any (fun o=>seq (pat c o).Name (pat c k).Name)=false∧(∀x∈(pat c k).Needs,zJE c a x=true)∧∀t∈(pat c k).Bars,zDp c a t k=false):=by
  intro i l k
  unfold fS
  rw [zGp (p:=fun _ t=>zDp c a t k=false) (fun i l x=>hB k i l x),zGp (p:=fun _ x=>zJE c a x=true) (fun i l x=>hN k i l x)]
  have hD:fD c a i k l=[]↔l=[]∧(a.take i).any (fun o=>seq (pat c o).Name (pat c k).Name)=false:=by
   unfold fD
   cases (a.take i).any (fun o=>seq (pat c o).Name (pat c k).Name)<;>simp
  rw [hD]
  constructor
  ·rintro ⟨⟨⟨h1,h2⟩,h3⟩,h4⟩
   refine ⟨h1,h2,fun x hx=>?_,fun t ht=>?_⟩
   ·obtain ⟨j,hj,rfl⟩:=List.getElem_of_mem hx
    exact h3 j hj
   ·obtain ⟨j,hj,rfl⟩:=List.getElem_of_mem ht
    exact h4 j hj
  ·rintro ⟨h1,h2,h3,h4⟩
   exact ⟨⟨⟨h1,h2⟩,fun j hj=>h3 _ (List.getElem_mem hj)⟩,fun j hj=>h4 _ (List.getElem_mem hj)⟩
 unfold zCG
 rw [zGp hS]
 constructor
 ·rintro ⟨_,h⟩
  refine ⟨?_,fun k hk=>?_,fun k hk=>?_⟩
  ·rw [List.pairwise_iff_getElem]
   intro i j hi hj hij e
   have:=(h j hj).1
   rw [Nat.zero_add] at this
   have hm:a[i]∈a.take j:=List.mem_take_iff_getElem.2 ⟨i,by omega,rfl⟩
   have h2:(a.take j).any (fun o=>seq (pat c o).Name (pat c a[j]).Name)=true:=List.any_eq_true.2 ⟨_,hm,zDT.2 e⟩
   rw [this] at h2
   cases h2
  ·obtain ⟨j,hj,rfl⟩:=List.getElem_of_mem hk
   exact (h j hj).2.1
  ·obtain ⟨j,hj,rfl⟩:=List.getElem_of_mem hk
   exact (h j hj).2.2
 ·rintro ⟨h1,h2,h3⟩
  refine ⟨rfl,fun j hj=>⟨?_,h2 _ (List.getElem_mem hj),h3 _ (List.getElem_mem hj)⟩⟩
  rw [Nat.zero_add]
  cases ha:(a.take j).any (fun o=>seq (pat c o).Name (pat c a[j]).Name) with
  |false=>rfl
  |true=>
   obtain ⟨o,ho,he⟩:=List.any_eq_true.1 ha
   obtain ⟨i,hi,rfl⟩:=List.mem_take_iff_getElem.1 ho
   exact absurd (zDT.1 he) (List.pairwise_iff_getElem.1 h1 i j (by omega) hj (by omega))
theorem GoodS.one {c:List Pack} {a:List Int} (h:GoodS c a) {k o:Int} (hk:k∈a) (ho:o∈a) (e:uM c k=uM c o):k=o:=by
 obtain ⟨i,hi,rfl⟩:=List.getElem_of_mem hk
 obtain ⟨j,hj,rfl⟩:=List.getElem_of_mem ho
 rcases Nat.lt_trichotomy i j with h1|h1|h1
 ·exact absurd e (List.pairwise_iff_getElem.1 h.names i j hi hj h1)
 ·subst h1; rfl
 ·exact absurd e.symm (List.pairwise_iff_getElem.1 h.names j i hj hi h1)
def Chg (c:List Pack) (a b:List Int) (n:ByteArray):Prop:=∃k,uM c k=n∧((k∈a∧k∉b)∨(k∈b∧k∉a))
def Nms (c:List Pack) (a b:List Int) (x n:ByteArray):Prop:=n=x∨∃k,(k∈a∨k∈b)∧uM c k=x∧n∈(pat c k).Provides
def Says (c:List Pack) (k:Int) (n:ByteArray):Prop:=(∃l∈(pat c k).Needs,∃t∈l,t.Name=n)∨∃t∈(pat c k).Bars,t.Name=n
def Tch (c:List Pack) (a b:List Int) (x y:ByteArray):Prop:=∃k,(k∈a∨k∈b)∧uM c k=x∧∃n,Says c k n∧Nms c a b y n
def Joi (c:List Pack) (a b:List Int) (x y:ByteArray):Prop:=
 Tch c a b x y∨Tch c a b y x∨∃k,(k∈a∨k∈b)∧∃l∈(pat c k).Needs,(∃t∈l,Nms c a b x t.Name)∧∃t∈l,Nms c a b y t.Name
theorem Joi.symm {c:List Pack} {a b:List Int} {x y:ByteArray} (h:Joi c a b x y):Joi c a b y x:=by
 rcases h with h|h|⟨k,h1,l,h2,h3,h4⟩
 ·exact .inr (.inl h)
 ·exact .inl h
 ·exact .inr (.inr ⟨k,h1,l,h2,h4,h3⟩)
theorem zLs {c:List Pack} {k:Int} {t:Term} (h:zAD (pat c k) t=true):t.Name=uM c k∨t.Name∈(pat c k).Provides :=by
 unfold zAD at h
 simp only [Bool.and_eq_true,Bool.or_eq_true] at h
 rcases h.1 with h|h
 ·exact .inl (zDT.1 h)
 ·obtain ⟨x,hx,e⟩:=List.any_eq_true.1 h
  rw [←zDT.1 e]
  exact .inr hx
theorem zEV {c:List Pack} {a b:List Int} {k:Int} {t:Term} (hk:k∈a∨k∈b) (h:zAD (pat c k) t=true):Nms c a b (uM c k) t.Name:=by
 rcases zLs h with h|h
 ·exact .inl h
 ·exact .inr ⟨k,hk,rfl,h⟩
def Mvd (c:List Pack) (a b:List Int) (U:ByteArray→Prop) (m:List Int):Prop:=∀k,k∈m↔(U (uM c k)∧k∈b)∨(¬U (uM c k)∧k∈a)
theorem apart {c:List Pack} {a b m:List Int} {U:ByteArray→Prop} (ga:GoodS c a) (gb:GoodS c b) (hm:Mvd c a b U m) (hn:m.Nodup)
  (hj:∀x y,Chg c a b x→Chg c a b y→U x→¬U y→¬Joi c a b x y):GoodS c m:=by
 have outA:∀{k},k∈a→k∉m→U (uM c k)∧Chg c a b (uM c k):=by
  intro k h1 h2
  have hU:U (uM c k):=Classical.byContradiction fun h=>h2 ((hm k).2 (.inr ⟨h,h1⟩))
  exact ⟨hU,k,rfl,.inl ⟨h1,fun h3=>h2 ((hm k).2 (.inl ⟨hU,h3⟩))⟩⟩
 have outB:∀{k},k∈b→k∉m→¬U (uM c k)∧Chg c a b (uM c k):=by
  intro k h1 h2
  have hU:¬U (uM c k):=fun h=>h2 ((hm k).2 (.inl ⟨h,h1⟩))
  exact ⟨hU,k,rfl,.inr ⟨h1,fun h3=>h2 ((hm k).2 (.inr ⟨hU,h3⟩))⟩⟩
 refine ⟨?_,fun k hk l hl=>?_,fun k hk t ht=>?_⟩
 ·refine List.Pairwise.imp_of_mem ?_ hn
  intro k o hk ho hne e
  refine hne ?_
  rcases (hm k).1 hk with ⟨h1,h2⟩|⟨h1,h2⟩<;>rcases (hm o).1 ho with ⟨h3,h4⟩|⟨h3,h4⟩
  ·exact gb.one h2 h4 e
  ·exact absurd (e▸h1) h3
  ·exact absurd (e▸h3) h1
  ·exact ga.one h2 h4 e
 ·have use:∀{o:Int},o∈m→l.any (zAD (pat c o))=true→zJE c m l=true:=fun {o} ho hg=>List.any_eq_true.2 ⟨o,ho,hg⟩
  have says:∀{t:Term},t∈l→Says c k t.Name:=fun {t} ht=>.inl ⟨l,hl,t,ht,rfl⟩
  rcases (hm k).1 hk with ⟨hU,hkb⟩|⟨hU,hka⟩
  ·obtain ⟨o,ho,hg⟩:=List.any_eq_true.1 (gb.needs k hkb l hl)
   by_cases hom:o∈m
   ·exact use hom hg
   obtain ⟨hUo,hco⟩:=outB ho hom
   obtain ⟨t,ht,hgt⟩:=List.any_eq_true.1 hg
   have hnm:=zEV (a:=a) (b:=b) (.inr ho) hgt
   by_cases hka:k∈a
   ·obtain ⟨o',ho',hg'⟩:=List.any_eq_true.1 (ga.needs k hka l hl)
    by_cases hom':o'∈m
    ·exact use hom' hg'
    obtain ⟨hUo',hco'⟩:=outA ho' hom'
    obtain ⟨t',ht',hgt'⟩:=List.any_eq_true.1 hg'
    exact absurd (.inr (.inr ⟨k,.inl hka,l,hl,⟨t',ht',zEV (.inl ho') hgt'⟩,⟨t,ht,hnm⟩⟩)) (hj _ _ hco' hco hUo' hUo)
   ·exact absurd (.inl ⟨k,.inr hkb,rfl,_,says ht,hnm⟩) (hj _ _ ⟨k,rfl,.inr ⟨hkb,hka⟩⟩ hco hU hUo)
  ·obtain ⟨o,ho,hg⟩:=List.any_eq_true.1 (ga.needs k hka l hl)
   by_cases hom:o∈m
   ·exact use hom hg
   obtain ⟨hUo,hco⟩:=outA ho hom
   obtain ⟨t,ht,hgt⟩:=List.any_eq_true.1 hg
   have hnm:=zEV (a:=a) (b:=b) (.inl ho) hgt
   by_cases hkb:k∈b
   ·obtain ⟨o',ho',hg'⟩:=List.any_eq_true.1 (gb.needs k hkb l hl)
    by_cases hom':o'∈m
    ·exact use hom' hg'
    obtain ⟨hUo',hco'⟩:=outB ho' hom'
    obtain ⟨t',ht',hgt'⟩:=List.any_eq_true.1 hg'
    exact absurd (.inr (.inr ⟨k,.inl hka,l,hl,⟨t,ht,hnm⟩,⟨t',ht',zEV (.inr ho') hgt'⟩⟩)) (hj _ _ hco hco' hUo hUo')
   ·exact absurd (.inr (.inl ⟨k,.inl hka,rfl,_,says ht,hnm⟩)) (hj _ _ hco ⟨k,rfl,.inl ⟨hka,hkb⟩⟩ hUo hU)
 ·cases hgv:zDp c m t k with
  |false=>rfl
  |true=>
   exfalso
   obtain ⟨o,ho,hg⟩:=List.any_eq_true.1 hgv
   simp only [Bool.and_eq_true,bne_iff_ne] at hg
   obtain ⟨hok,hgt⟩:=hg
   have inB:k∈b→o∈b→False:=fun h1 h2=>by
    have:zDp c b t k=true:=List.any_eq_true.2 ⟨o,h2,by simp [hok,hgt]⟩
    rw [gb.bars k h1 t ht] at this
    cases this
   have inA:k∈a→o∈a→False:=fun h1 h2=>by
    have:zDp c a t k=true:=List.any_eq_true.2 ⟨o,h2,by simp [hok,hgt]⟩
    rw [ga.bars k h1 t ht] at this
    cases this
   have says:Says c k t.Name:=.inr ⟨t,ht,rfl⟩
   rcases (hm k).1 hk with ⟨h1,h2⟩|⟨h1,h2⟩<;>rcases (hm o).1 ho with ⟨h3,h4⟩|⟨h3,h4⟩
   ·exact inB h2 h4
   ·by_cases h5:o∈b
    ·exact inB h2 h5
    by_cases h6:k∈a
    ·exact inA h6 h4
    exact hj _ _ ⟨k,rfl,.inr ⟨h2,h6⟩⟩ ⟨o,rfl,.inl ⟨h4,h5⟩⟩ h1 h3 (.inl ⟨k,.inr h2,rfl,_,says,zEV (.inl h4) hgt⟩)
   ·by_cases h5:o∈a
    ·exact inA h2 h5
    by_cases h6:k∈b
    ·exact inB h6 h4
    exact hj _ _ ⟨o,rfl,.inr ⟨h4,h5⟩⟩ ⟨k,rfl,.inl ⟨h2,h6⟩⟩ h3 h1 (.inr (.inl ⟨k,.inl h2,rfl,_,says,zEV (.inr h4) hgt⟩))
   ·exact inA h2 h4
def inN (ns:List ByteArray) (n:ByteArray):Bool:=ns.any fun x=>seq x n
theorem zC2 {ns:List ByteArray} {n:ByteArray}:inN ns n=true↔n∈ns:=by
 unfold inN
 rw [List.any_eq_true]
 constructor
 ·rintro ⟨x,hx,e⟩; rw [←zDT.1 e]; exact hx
 ·exact fun h=>⟨n,h,zGZ n⟩
def mvB (c:List Pack) (a b:List Int) (ns:List ByteArray) (k:Int):Bool:=if inN ns (uM c k) then decide (k∈b) else decide (k∈a)
def upTo (n:Nat):List Int:=(List.range n).map fun i:Nat=>(i:Int)
def mvL (c:List Pack) (a b:List Int) (ns:List ByteArray):List Int:=(upTo c.length).filter (mvB c a b ns)
theorem zJI (n:Nat):(upTo n).length =n:=by simp [upTo]
theorem zK9 {n:Nat} {k:Int}:k∈upTo n↔0≤k∧k<n:=by
 unfold upTo
 rw [List.mem_map]
 constructor
 ·rintro ⟨i,hi,rfl⟩
  have:=List.mem_range.1 hi
  omega
 ·rintro ⟨h1,h2⟩
  exact ⟨k.toNat,List.mem_range.2 (by omega),by omega⟩
theorem zOr (n:Nat):(upTo n).Pairwise (· < ·):=by
 unfold upTo
 refine List.pairwise_map.2 (List.pairwise_lt_range.imp fun h=>by omega)
theorem zFt (c:List Pack) (a b:List Int) (ns:List ByteArray):(mvL c a b ns).Pairwise (· < ·):=(zOr _).filter _
theorem zFd (c:List Pack) (a b:List Int) (ns:List ByteArray):Places c (mvL c a b ns):=fun k hk=>zK9.1 (List.mem_filter.1 hk).1
theorem zG0 (c:List Pack) (a b:List Int) (ns:List ByteArray):(mvL c a b ns).length ≤c.length:=by
 have:=List.length_filter_le (mvB c a b ns) (upTo c.length)
 rw [zJI] at this
 exact this
theorem zEt {c:List Pack} {a b:List Int} {ns:List ByteArray} (ha:Places c a) (hb:Places c b) {k:Int}:k∈mvL c a b ns↔(uM c k∈ns∧k∈b)∨(uM c k∉ns∧k∈a):=by
 unfold mvL mvB
 rw [List.mem_filter,zK9]
 have hin:=zC2 (ns:=ns) (n:=uM c k)
 cases hq:inN ns (uM c k)
 ·have hno:uM c k∉ns:=fun h=>by rw [hin.2 h] at hq; cases hq
  simp only [Bool.false_eq_true,if_false,decide_eq_true_eq]
  constructor
  ·rintro ⟨_,h⟩; exact .inr ⟨hno,h⟩
  ·rintro (⟨h,_⟩|⟨_,h⟩)
   ·exact absurd h hno
   ·exact ⟨ha k h,h⟩
 ·have hyes:=hin.1 hq
  simp only [if_true,decide_eq_true_eq]
  constructor
  ·rintro ⟨_,h⟩; exact .inl ⟨hyes,h⟩
  ·rintro (⟨_,h⟩|⟨h,_⟩)
   ·exact ⟨hb k h,h⟩
   ·exact absurd hyes h
theorem zN4 {l r:List Int} (hr:r.Pairwise (· < ·)) (hl:l.Nodup) (hm:∀x,x∈r↔x∈l) (hs:l.length≤4194304):tO l=some r:=by
 unfold tO
 rw [if_pos (by omega)]
 congr 1
 have hp:(l.mergeSort fun x y=>decide (x≤y)).Pairwise (fun x y=>decide (x≤y)=true):=List.pairwise_mergeSort (le:=fun x y:Int=>decide (x≤y)) (by intro x y z h1 h2; simp at*; omega) (by intro x y; simp; omega) l
 have hn:(l.mergeSort fun x y=>decide (x≤y)).Nodup :=(List.mergeSort_perm _ _).nodup_iff.2 hl
 refine zE3 ?_ hr (fun x=>(List.mergeSort_perm _ _).mem_iff.trans (hm x).symm)
 exact hp.imp₂ (fun x y h1 h2=>by simp at h1; omega) hn
theorem zHQ {c:List Pack} {a:List Int} {ns:List ByteArray} (hp:Places c a) (ha:a.length≤1048576) (hn:ns.length≤1048576):
  vW a ns c=some (a.filter fun k=>inN ns (uM c k))∧xB a ns c=some (a.filter fun k=> !(inN ns (uM c k))):=by
 have h1:∀k∈a,wO k ns c=some (!(inN ns (uM c k))):=by
  intro k hk
  unfold wO zAZ
  rw [(tQ (hp k hk)).1]
  simp only [Option.bind_some]
  rw [zDi _ _ hn]
  rfl
 have h2:∀k∈a,zT k ns c=some (inN ns (uM c k)):=by
  intro k hk
  unfold zT uD zAZ
  rw [(tQ (hp k hk)).1]
  simp only [Option.bind_some]
  rw [zDi _ _ hn]
  simp only [Option.bind_some,Bool.not_not]
  rfl
 constructor
 ·have key:=zJG (fun k=> !(inN ns (uM c k))) a (0:Int) (by omega) (b1:=yF a ns c) (b2:=yD ns c) (by
   intro i hi
   unfold yF
   rw [if_pos (by simp; omega),zI hi]
   simp only [Option.bind_some,h1 _ (List.getElem_mem hi)]
   rw [zM (by omega)]
   split<;>rfl) (by
   unfold yF
   rw [if_neg (by simp)]) (by
   intro xs i j hj hij hl hm
   unfold yD
   simp only
   rw [if_pos (by simp; omega),zI hj]
   simp only [Option.bind_some,h1 _ hm]
   rw [zI (show i<xs.length by omega),zM (show j<_ by omega),zM (show i<_ by omega)]
   cases inN ns (uM c xs[j])<;>simp) (by
   intro xs i hl
   unfold yD
   rw [if_neg (by simp)])
  have e:zV a ns c=some (a.filter fun k=> !!(inN ns (uM c k))):=key
  unfold vW wK
  rw [uH (by simp; omega) (by simp; omega)]
  simp only [Option.bind_some,List.nil_append]
  rw [e]
  simp
 ·have key:=zJG (fun k=>inN ns (uM c k)) a (0:Int) (by omega) (b1:=zQ a ns c) (b2:=zN ns c) (by
   intro i hi
   unfold zQ
   rw [if_pos (by simp; omega),zI hi]
   simp only [Option.bind_some,h2 _ (List.getElem_mem hi)]
   rw [zM (by omega)]
   split<;>rfl) (by
   unfold zQ
   rw [if_neg (by simp)]) (by
   intro xs i j hj hij hl hm
   unfold zN
   simp only
   rw [if_pos (by simp; omega),zI hj]
   simp only [Option.bind_some,h2 _ hm]
   rw [zI (show i<xs.length by omega),zM (show j<_ by omega),zM (show i<_ by omega)]
   cases inN ns (uM c xs[j])<;>simp) (by
   intro xs i hl
   unfold zN
   rw [if_neg (by simp)])
  have e:zK a ns c=some (a.filter fun k=> !(inN ns (uM c k))):=key
  unfold xB wK
  rw [uH (by simp; omega) (by simp; omega)]
  simp only [Option.bind_some,List.nil_append]
  rw [e]
  rfl
theorem zIy {c:List Pack} {a b:List Int} {ns:List ByteArray} (pa:Places c a) (pb:Places c b) (sa:a.Pairwise (· < ·)) (sb:b.Pairwise (· < ·)) (ha:a.length≤1048576) (hb:b.length≤1048576) (hn:ns.length≤1048576):
  jZ c a b ns=some (mvL c a b ns):=by
 have l1:=List.length_filter_le (fun k=> !(inN ns (uM c k))) a
 have l2:=List.length_filter_le (fun k=>inN ns (uM c k)) b
 unfold jZ
 rw [(zHQ pa ha hn).2,(zHQ pb hb hn).1]
 simp only [Option.bind_some]
 rw [uH (by omega) (by omega)]
 simp only [Option.bind_some]
 have nd:∀{l:List Int},l.Pairwise (· < ·)→l.Nodup:=fun h=>h.imp fun h=>by omega
 rw [zN4 (r:=mvL c a b ns) (zFt c a b ns) ?_ ?_ (by simp only [List.length_append]; omega)]
 ·simp only [Option.bind_some]
  rw [zKl]
  ·rfl
  ·refine (List.Perm.length_eq ?_)
   refine (List.perm_ext_iff_of_nodup (nd (zFt c a b ns)) ?_).2 ?_
   ·refine List.nodup_append.2 ⟨(nd sa).filter _,(nd sb).filter _,fun x hx y hy e=>?_⟩
    subst e
    have h1:=(List.mem_filter.1 hx).2
    have h2:=(List.mem_filter.1 hy).2
    rw [h2] at h1
    cases h1
   ·intro k
    rw [zEt pa pb,List.mem_append,List.mem_filter,List.mem_filter]
    have hin:=zC2 (ns:=ns) (n:=uM c k)
    cases hq:inN ns (uM c k)
    ·have hno:uM c k∉ns:=fun h=>by rw [hin.2 h] at hq; cases hq
     simp [hno]
    ·simp [hin.1 hq]
 ·refine List.nodup_append.2 ⟨(nd sa).filter _,(nd sb).filter _,fun x hx y hy e=>?_⟩
  subst e
  have h1:=(List.mem_filter.1 hx).2
  have h2:=(List.mem_filter.1 hy).2
  rw [h2] at h1
  cases h1
 ·intro k
  rw [zEt pa pb,List.mem_append,List.mem_filter,List.mem_filter]
  have hin:=zC2 (ns:=ns) (n:=uM c k)
  cases hq:inN ns (uM c k)
  ·have hno:uM c k∉ns:=fun h=>by rw [hin.2 h] at hq; cases hq
   simp [hno]
  ·simp [hin.1 hq]
theorem zFY {c:List Pack} {a b:List Int} {n1 n2:List ByteArray} (pa:Places c a) (pb:Places c b):mvL c (mvL c a b n1) b n2=mvL c a b (n1++n2):=by
 refine zE3 (zFt _ _ _ _) (zFt _ _ _ _) fun k=>?_
 rw [zEt (zFd _ _ _ _) pb,zEt pa pb,zEt pa pb,List.mem_append]
 by_cases h1:uM c k∈n1<;>by_cases h2:uM c k∈n2<;>simp [h1,h2]
theorem zKn {c:List Pack} {a b:List Int} (pa:Places c a) (pb:Places c b) (sa:a.Pairwise (· < ·)):mvL c a b []=a:=by
 refine zE3 (zFt _ _ _ _) sa fun k=>?_
 rw [zEt pa pb]
 simp
def zD9 (c:List Pack) (a:List Int) (n:ByteArray):Int:=(vE (fun _ k=>if seq (pat c k).Name n then some k else none) 0 a).getD (-1)
theorem zI8 {q:Int→Bool}:∀(xs:List Int) (i:Nat),((vE (fun _ k=>if q k then some k else none) i xs)=none∧∀k∈xs,q k=false)∨∃k∈xs,q k=true∧(vE (fun _ k=>if q k then some k else none) i xs)=some k
 |[],i=>.inl ⟨rfl,by simp⟩
 |x::xs,i=>by
  simp only [vE]
  cases hq:q x
  ·simp only [Bool.false_eq_true,if_false]
   rcases zI8 (q:=q) xs (i+1) with ⟨h1,h2⟩|⟨k,h1,h2,h3⟩
   ·refine .inl ⟨h1,fun k hk=>?_⟩
    rcases List.mem_cons.1 hk with rfl|hk
    ·exact hq
    ·exact h2 k hk
   ·exact .inr ⟨k,by simp [h1],h2,h3⟩
  ·simp only [if_true]
   exact .inr ⟨x,by simp,hq,rfl⟩
theorem zAE (c:List Pack) (a:List Int) (n:ByteArray):(zD9 c a n= -1∧∀k∈a,uM c k≠n)∨(zD9 c a n∈a∧uM c (zD9 c a n)=n):=by
 unfold zD9
 rcases zI8 (q:=fun k=>seq (pat c k).Name n) a 0 with ⟨h1,h2⟩|⟨k,h1,h2,h3⟩
 ·rw [h1]
  refine .inl ⟨rfl,fun k hk e=>?_⟩
  have:seq (uM c k) n=false:=h2 k hk
  rw [zDT.2 e] at this
  cases this
 ·rw [h3]
  exact .inr ⟨h1,zDT.1 h2⟩
theorem zEz {c:List Pack} {a:List Int} (hp:Places c a) (ha:a.length≤1048576) (n:ByteArray):zE2 c a n=some (zD9 c a n)∧uP c a n=some (zD9 c a n):=by
 have key:=wQ a (fun _ k=>if seq (pat c k).Name n then some k else none) (b:=zEj c a n) (by
  intro i hi
  have hk:=hp _ (List.getElem_mem hi)
  unfold zEj
  rw [if_pos (by simp; omega),zI hi]
  simp only [Option.bind_some]
  rw [(tQ hk).1]
  simp only [Option.bind_some]
  rw [zM (by omega)]
  cases seq (pat c a[i]).Name n<;>rfl) (by
  unfold zEj
  rw [if_neg (by simp)])
 have key2:=wQ a (fun _ k=>if seq (pat c k).Name n then some k else none) (b:=zAl c a n) (by
  intro i hi
  have hk:=hp _ (List.getElem_mem hi)
  unfold zAl
  rw [if_pos (by simp; omega),zI hi]
  simp only [Option.bind_some]
  rw [(tQ hk).1]
  simp only [Option.bind_some]
  rw [zM (by omega)]
  cases seq (pat c a[i]).Name n<;>rfl) (by
  unfold zAl
  rw [if_neg (by simp)])
 constructor
 ·unfold zE2 zGn zD9
  rw [key,zAV]
  cases vE (fun _ k=>if seq (pat c k).Name n then some k else none) 0 a<;>rfl
 ·unfold uP zDc zD9
  rw [key2,zAV]
  cases vE (fun _ k=>if seq (pat c k).Name n then some k else none) 0 a<;>rfl
theorem zMk {a b:List Int} (ha:a.length≤1048576) (hb:b.length≤1048576):vK [a,b]=some (a++b):=by
 unfold vK jH jF
 have e1:loop (wT [a,b]) (0,0)=some ((a.length+b.length:Nat):Int):=by
  have i0:idx [a,b] 0=some a:=rfl
  have i1:idx [a,b] 1=some b:=rfl
  rw [uF,show wT [a,b] (0,0)=some (.go ((a.length:Int),1)) by
   unfold wT
   rw [if_pos (by simp)]
   simp only
   rw [i0]
   simp only [Option.bind_some]
   rw [kG (by omega) (by omega),if_neg (by simp)]
   simp [kG]]
  simp only [Option.bind_some,Lp.elim]
  rw [uF,show wT [a,b] ((a.length:Int),1)=some (.go ((a.length:Int)+b.length,2)) by
   unfold wT
   rw [if_pos (by simp)]
   simp only
   rw [i1]
   simp only [Option.bind_some]
   rw [kG (x:=(a.length:Int)+b.length) (by omega) (by omega),if_neg (by simp; omega)]
   simp [kG]]
  simp only [Option.bind_some,Lp.elim]
  rw [uF,show wT [a,b] ((a.length:Int)+b.length,2)=some (.done ((a.length:Int)+b.length)) by
   unfold wT
   rw [if_neg (by simp)]]
  simp [Lp.elim]
 rw [e1]
 simp only [Option.bind_some]
 have e2:zA7 ((a.length+b.length:Nat):Int)=some []:=by
  unfold zA7
  rw [if_pos (by omega)]
 rw [e2]
 simp only [Option.bind_some]
 have i0:idx [a,b] 0=some a:=rfl
 have i1:idx [a,b] 1=some b:=rfl
 rw [uF,show vD [a,b] (([]:List Int),0)=some (.go (a,1)) by
  unfold vD
  rw [if_pos (by simp)]
  simp only
  rw [i0]
  simp only [Option.bind_some]
  rw [uH (by simp; omega) (by simp; omega)]
  simp [kG]]
 simp only [Option.bind_some,Lp.elim]
 rw [uF,show vD [a,b] (a,1)=some (.go (a++b,2)) by
  unfold vD
  rw [if_pos (by simp)]
  simp only
  rw [i1]
  simp only [Option.bind_some]
  rw [uH (by omega) (by omega)]
  simp [kG]]
 simp only [Option.bind_some,Lp.elim]
 rw [uF,show vD [a,b] (a++b,2)=some (.done (a++b)) by
  unfold vD
  rw [if_neg (by simp)]]
 simp [Lp.elim]
structure Sml (c:List Pack):Prop where
 len:c.length≤24
 zNG:∀k,(pat c k).Provides.length ≤4
 needs:∀k,(pat c k).Needs.length ≤4
 bars:∀k,(pat c k).Bars.length ≤4
 clause:∀k,∀l∈(pat c k).Needs,l.length≤4
theorem Sml.of {c:List Pack} (h:CF c=0):Sml c:=by
 obtain ⟨h1,h2,_⟩:=zOj h
 have key:∀p,PF p=0→p.Provides.length≤4∧p.Needs.length≤4∧p.Bars.length≤4∧∀l∈p.Needs,l.length≤4:=by
  intro p hp
  have hm:zL3 p=false:=by
   cases hm:zL3 p with
   |false=>rfl
   |true=>
    unfold PF at hp
    rw [hm] at hp
    split at hp
    ·rename_i h3; simp [hp] at h3
    split at hp
    ·rename_i h3; simp [hp] at h3
    split at hp
    ·cases hp
    ·cases hp
  unfold zL3 at hm
  simp only [Bool.or_eq_false_iff,decide_eq_false_iff_not,List.any_eq_false,decide_eq_true_eq] at hm
  obtain ⟨m1,m2,m3,m4⟩:=hm
  exact ⟨by omega,by omega,by omega,fun l hl=>by have:=m4 l hl; omega⟩
 have pk:∀k,(pat c k).Provides.length ≤4∧(pat c k).Needs.length ≤4∧(pat c k).Bars.length ≤4∧∀l∈(pat c k).Needs,l.length≤4:=by
  intro k
  unfold pat
  cases hk:idx c k with
  |none=>simp [noPack]
  |some p=>
   refine key p (h2 p ?_)
   unfold idx at hk
   split at hk
   ·exact List.mem_of_getElem? hk
   ·cases hk
 exact ⟨h1,fun k=>(pk k).1,fun k=>(pk k).2.1,fun k=>(pk k).2.2.1,fun k=>(pk k).2.2.2⟩
structure Two (c:List Pack) (a b:List Int):Prop where
 sml:Sml c
 pa:Places c a
 pb:Places c b
 sa:a.Pairwise (· < ·)
 sb:b.Pairwise (· < ·)
 la:a.length≤24
 lb:b.length≤24
theorem zJo {c:List Pack} {a b:List Int} (h:Two c a b):
  ∃l,zEl c a b=some l∧zAY c a b=some l∧l.Pairwise ltS∧(∀n,n∈l↔zD9 c a n≠zD9 c b n)∧l.length≤24:=by
 have hc:=h.sml.len
 have la:=h.la
 have lb:=h.lb
 obtain ⟨l,e,h1,h2,h3⟩:=vI (b:=zC5 c a b) (fun i s=>s.2=(i:Int)∧s.1.Pairwise ltS∧(∀n,n∈s.1↔(∃k:Nat,k<i∧uM c (k:Int)=n)∧zD9 c a n≠zD9 c b n)∧s.1.length≤i) c.length
  (fun t=>t.Pairwise ltS∧(∀n,n∈t↔(∃k:Nat,k<c.length∧uM c (k:Int)=n)∧zD9 c a n≠zD9 c b n)∧t.length≤c.length) (by
  rintro i ⟨l,j⟩ hi ⟨hj,hs,hm,hl⟩
  simp only at hj hs hm hl
  subst hj
  refine .inl ?_
  have hk:=tQ (c:=c) (k:=(i:Int)) ⟨by omega,by omega⟩
  unfold zC5
  rw [if_pos (by simp; omega)]
  simp only
  rw [hk.1]
  simp only [Option.bind_some]
  rw [(zEz h.pa (by omega) _).1,(zEz h.pb (by omega) _).1,zM (by omega)]
  simp only [Option.bind_some]
  have hex:∀n,(∃k:Nat,k<i+1∧uM c (k:Int)=n)↔(∃k:Nat,k<i∧uM c (k:Int)=n)∨n=(pat c i).Name :=by
   intro n
   constructor
   ·rintro ⟨k,h1,h2⟩
    rcases Nat.lt_succ_iff_lt_or_eq.1 h1 with h3|rfl
    ·exact .inl ⟨k,h3,h2⟩
    ·exact .inr h2.symm
   ·rintro (⟨k,h1,h2⟩|h2)
    ·exact ⟨k,by omega,h2⟩
    ·exact ⟨i,by omega,h2.symm⟩
  by_cases hne:zD9 c a (pat c i).Name =zD9 c b (pat c i).Name
  ·rw [if_neg (by simp [hne])]
   refine ⟨_,rfl,rfl,hs,fun n=>?_,by simp only; omega⟩
   rw [hm,hex]
   constructor
   ·rintro ⟨q1,q2⟩; exact ⟨.inl q1,q2⟩
   ·rintro ⟨q1|q1,q2⟩
    ·exact ⟨q1,q2⟩
    ·subst q1; exact absurd hne q2
  ·rw [if_pos (by simp [hne])]
   obtain ⟨r,e1,e2,e3,e4⟩:=zHN l (pat c i).Name hs (by omega)
   rw [e1]
   refine ⟨_,rfl,rfl,e2,fun n=>?_,by simp only; omega⟩
   rw [e3,hm,hex]
   constructor
   ·rintro (⟨q1,q2⟩|q1)
    ·exact ⟨.inl q1,q2⟩
    ·subst q1; exact ⟨.inr rfl,hne⟩
   ·rintro ⟨q1|q1,q2⟩
    ·exact .inl ⟨q1,q2⟩
    ·exact .inr q1) (by
  rintro ⟨l,j⟩ ⟨hj,hs,hm,hl⟩
  simp only at hj hs hm hl
  subst hj
  unfold zC5
  rw [if_neg (by simp)]
  exact ⟨_,rfl,hs,hm,hl⟩) c.length 0 (([]:List ByteArray),0) (by omega) ⟨rfl,by simp,by simp,by simp⟩
 have hmem:∀n,n∈l↔zD9 c a n≠zD9 c b n:=by
  intro n
  rw [h2]
  constructor
  ·exact fun h=>h.2
  ·intro hne
   refine ⟨?_,hne⟩
   rcases zAE c a n with ⟨q1,_⟩|⟨q1,q2⟩
   ·rcases zAE c b n with ⟨q3,_⟩|⟨q3,q4⟩
    ·exact absurd (q1.trans q3.symm) hne
    ·have:=h.pb _ q3
     exact ⟨(zD9 c b n).toNat,by omega,by rw [show ((zD9 c b n).toNat :Int)=zD9 c b n by omega]; exact q4⟩
   ·have:=h.pa _ q1
    exact ⟨(zD9 c a n).toNat,by omega,by rw [show ((zD9 c a n).toNat :Int)=zD9 c a n by omega]; exact q2⟩
 refine ⟨l,by unfold zEl zER; rw [e]; rfl,?_,h1,hmem,by omega⟩
 unfold zAY zCK
 rw [zMk (by omega) (by omega)]
 simp only [Option.bind_some]
 obtain ⟨l2,f,g1,g2⟩:=vI (b:=zCu c a b (a++b)) (fun i s=>s.2=(i:Int)∧(∀n,n∈s.1↔(∃k∈(a++b).take i,uM c k=n)∧zD9 c a n≠zD9 c b n)∧s.1.length≤i) (a++b).length
  (fun t=>(∀n,n∈t↔(∃k∈a++b,uM c k=n)∧zD9 c a n≠zD9 c b n)∧t.length≤(a++b).length) (by
  rintro i ⟨l,j⟩ hi ⟨hj,hm,hl⟩
  simp only at hj hm hl
  subst hj
  have hlen:(a++b).length ≤48:=by simp; omega
  have hk:0≤(a++b)[i]∧(a++b)[i]<c.length:=by
   have:(a++b)[i]∈a++b:=List.getElem_mem hi
   rcases List.mem_append.1 this with q|q
   ·exact h.pa _ q
   ·exact h.pb _ q
  refine .inl ?_
  unfold zCu
  rw [if_pos (by simp at hi ⊢; omega),zI hi]
  simp only [Option.bind_some]
  rw [(tQ hk).1]
  simp only [Option.bind_some]
  rw [(zEz h.pa (by omega) _).2,(zEz h.pb (by omega) _).2,zM (by omega)]
  simp only [Option.bind_some]
  have hex:∀n,(∃k∈(a++b).take (i+1),uM c k=n)↔(∃k∈(a++b).take i,uM c k=n)∨n=(pat c (a++b)[i]).Name :=by
   intro n
   rw [List.take_succ_eq_append_getElem hi]
   constructor
   ·rintro ⟨k,h1,h2⟩
    rcases List.mem_append.1 h1 with h3|h3
    ·exact .inl ⟨k,h3,h2⟩
    ·simp at h3; subst h3; exact .inr h2.symm
   ·rintro (⟨k,h1,h2⟩|h2)
    ·exact ⟨k,List.mem_append_left _ h1,h2⟩
    ·exact ⟨_,List.mem_append_right _ (by simp),h2.symm⟩
  by_cases hne:zD9 c a (pat c (a++b)[i]).Name =zD9 c b (pat c (a++b)[i]).Name
  ·rw [if_neg (by simp [hne])]
   refine ⟨_,rfl,rfl,fun n=>?_,by simp only; omega⟩
   rw [hm,hex]
   constructor
   ·rintro ⟨q1,q2⟩; exact ⟨.inl q1,q2⟩
   ·rintro ⟨q1|q1,q2⟩
    ·exact ⟨q1,q2⟩
    ·subst q1; exact absurd hne q2
  ·rw [if_pos (by simp [hne]),uH (by simp; omega) (by simp; omega)]
   refine ⟨_,rfl,rfl,fun n=>?_,by simp; omega⟩
   rw [hex,List.mem_append,hm,List.mem_singleton]
   constructor
   ·rintro (⟨q1,q2⟩|q1)
    ·exact ⟨.inl q1,q2⟩
    ·subst q1; exact ⟨.inr rfl,hne⟩
   ·rintro ⟨q1|q1,q2⟩
    ·exact .inl ⟨q1,q2⟩
    ·exact .inr q1) (by
  rintro ⟨l,j⟩ ⟨hj,hm,hl⟩
  simp only at hj hm hl
  subst hj
  rw [List.take_length] at hm
  unfold zCu
  rw [if_neg (by simp)]
  exact ⟨_,rfl,hm,hl⟩) (a++b).length 0 (([]:List ByteArray),0) (by omega) ⟨rfl,by simp,by simp⟩
 rw [f]
 simp only [Option.bind_some]
 have hlen:(a++b).length ≤48:=by simp; omega
 obtain ⟨r,s1,s2,s3⟩:=zFF l2 (by omega)
 rw [s1]
 simp only [Option.bind_some]
 congr 1
 refine zCZ s2 h1 fun n=>?_
 rw [s3,g1,hmem]
 constructor
 ·exact fun h=>h.2
 ·intro hne
  refine ⟨?_,hne⟩
  rcases zAE c a n with ⟨q1,_⟩|⟨q1,q2⟩
  ·rcases zAE c b n with ⟨q3,_⟩|⟨q3,q4⟩
   ·exact absurd (q1.trans q3.symm) hne
   ·exact ⟨_,List.mem_append_right _ q3,q4⟩
  ·exact ⟨_,List.mem_append_left _ q1,q2⟩
def zC8 (c:List Pack) (a b:List Int) (n:ByteArray):List Pack:=
 (if decide (zD9 c a n≥0) then [pat c (zD9 c a n)] else [])++(if decide (zD9 c b n≥0) then [pat c (zD9 c b n)] else [])
theorem zES {c:List Pack} {a:List Int} (hp:Places c a) {n:ByteArray} (h:zD9 c a n≥0):0≤zD9 c a n∧zD9 c a n<c.length:=by
 rcases zAE c a n with ⟨q,_⟩|⟨q,_⟩
 ·omega
 ·exact hp _ q
theorem zJA (c:List Pack) (a b:List Int) (n:ByteArray):(zC8 c a b n).length ≤2:=by
 unfold zC8
 cases decide (zD9 c a n≥0)<;>cases decide (zD9 c b n≥0)<;>simp
theorem zH2 {c:List Pack} {a b:List Int} {n:ByteArray} {p:Pack} (h:p∈zC8 c a b n):∃k,(k∈a∨k∈b)∧uM c k=n∧p=pat c k:=by
 unfold zC8 at h
 rcases List.mem_append.1 h with h|h
 ·split at h
  ·rename_i q
   simp at q h
   rcases zAE c a n with ⟨q2,_⟩|⟨q2,q3⟩
   ·omega
   ·exact ⟨_,.inl q2,q3,h⟩
  ·simp at h
 ·split at h
  ·rename_i q
   simp at q h
   rcases zAE c b n with ⟨q2,_⟩|⟨q2,q3⟩
   ·omega
   ·exact ⟨_,.inr q2,q3,h⟩
  ·simp at h
theorem zIB {c:List Pack} {a b:List Int} (h:Two c a b) (n:ByteArray):zFi c a b n=some (zC8 c a b n)∧kI c a b n=some (zC8 c a b n):=by
 have la:=h.la
 have lb:=h.lb
 have step:∀(l:List Pack) (x:Int) (i:Nat) (x5 x7:Int),l.length≤5→idx [x5,x7] (i:Int)=some x→i<2→(x≥0→0≤x∧x<c.length)→
   jK c x5 x7 (l,(i:Int))=some (.go (l++(if decide (x≥0) then [pat c x] else []),((i+1:Nat):Int))):=by
  intro l x i x5 x7 hl hx hi hp
  unfold jK
  rw [if_pos (by simp; omega)]
  simp only
  rw [hx]
  simp only [Option.bind_some]
  rw [zM (by omega)]
  by_cases hge:x≥0
  ·rw [if_pos (by simpa using hge),if_pos (by simpa using hge),(tQ (hp hge)).1]
   simp only [Option.bind_some]
   rw [uH (by simp; omega) (by simp; omega)]
   rfl
  ·rw [if_neg (by simpa using hge),if_neg (by simpa using hge)]
   simp
 constructor
 ·unfold zFi zC8
  rw [(zEz h.pa (by omega) _).1,(zEz h.pb (by omega) _).1]
  simp only [Option.bind_some]
  by_cases h1:zD9 c a n≥0
  ·rw [if_pos (by simpa using h1),if_pos (by simpa using h1),(tQ (zES h.pa h1)).1]
   simp only [Option.bind_some]
   rw [uH (by simp) (by simp)]
   simp only [Option.bind_some,List.nil_append]
   by_cases h2:zD9 c b n≥0
   ·rw [if_pos (by simpa using h2),if_pos (by simpa using h2),(tQ (zES h.pb h2)).1]
    simp only [Option.bind_some]
    rw [uH (by simp) (by simp)]
    rfl
   ·rw [if_neg (by simpa using h2),if_neg (by simpa using h2)]
    rfl
  ·rw [if_neg (by simpa using h1),if_neg (by simpa using h1)]
   simp only [Option.bind_some,List.nil_append]
   by_cases h2:zD9 c b n≥0
   ·rw [if_pos (by simpa using h2),if_pos (by simpa using h2),(tQ (zES h.pb h2)).1]
    simp only [Option.bind_some]
    rw [uH (by simp) (by simp)]
    rfl
   ·rw [if_neg (by simpa using h2),if_neg (by simpa using h2)]
    rfl
 ·unfold kI zB0
  rw [(zEz h.pa (by omega) _).2,(zEz h.pb (by omega) _).2]
  simp only [Option.bind_some]
  rw [uF,show jK c (zD9 c a n) (zD9 c b n) (([]:List Pack),0)=_ from step [] _ 0 _ _ (by simp) rfl (by omega) (zES h.pa)]
  simp only [Option.bind_some,Lp.elim]
  rw [uF,step _ _ 1 _ _ (by cases decide (zD9 c a n≥0)<;>simp) rfl (by omega) (zES h.pb)]
  simp only [Option.bind_some,Lp.elim,List.nil_append]
  rw [uF,show ∀l,jK c (zD9 c a n) (zD9 c b n) (l,((1+1:Nat):Int))=some (.done l) from fun l=>by
   unfold jK
   rw [if_neg (by simp)]]
  rfl
theorem zI3 {α:Type} (xs:List α) (f:α→ByteArray) {b:(List ByteArray×Int)→Option (Lp (List ByteArray×Int) (List ByteArray))}
  (hstep:∀(i:Nat) (hi:i<xs.length) (l:List ByteArray),b (l,(i:Int))=(zCE l (f xs[i])).bind fun x=>some (Lp.go (x,w64 ((i:Int)+1)))) (hend:∀l,b (l,(xs.length:Int))=some (.done l)) (l0:List ByteArray) (hs:l0.Pairwise ltS) (hl:l0.length+xs.length≤1048576):
  ∃r,loop b (l0,0)=some r∧r.Pairwise ltS∧(∀x,x∈r↔x∈l0∨∃y∈xs,f y=x)∧r.length≤l0.length+xs.length:=by
 refine vI (b:=b) (fun i s=>s.2=(i:Int)∧s.1.Pairwise ltS∧(∀x,x∈s.1↔x∈l0∨∃y∈xs.take i,f y=x)∧s.1.length≤l0.length+i) xs.length _ (by
  rintro i ⟨l,j⟩ hi ⟨hj,h1,h2,h3⟩
  simp only at hj h1 h2 h3
  subst hj
  refine .inl ?_
  obtain ⟨r,e1,e2,e3,e4⟩:=zHN l (f xs[i]) h1 (by omega)
  rw [hstep i hi,e1,zM (by omega)]
  refine ⟨_,rfl,rfl,e2,fun x=>?_,by simp only; omega⟩
  rw [e3,h2,List.take_succ_eq_append_getElem hi]
  constructor
  ·rintro ((q|⟨y,q1,q2⟩)|q)
   ·exact .inl q
   ·exact .inr ⟨y,List.mem_append_left _ q1,q2⟩
   ·exact .inr ⟨_,List.mem_append_right _ (by simp),q.symm⟩
  ·rintro (q|⟨y,q1,q2⟩)
   ·exact .inl (.inl q)
   ·rcases List.mem_append.1 q1 with q1|q1
    ·exact .inl (.inr ⟨y,q1,q2⟩)
    ·simp at q1; subst q1; exact .inr q2.symm) (by
  rintro ⟨l,j⟩ ⟨hj,h1,h2,h3⟩
  simp only at hj h1 h2 h3
  subst hj
  rw [List.take_length] at h2
  exact ⟨_,hend l,h1,h2,h3⟩) xs.length 0 (l0,0) (by omega) ⟨rfl,hs,by simp,by simp⟩
noncomputable def nmL (c:List Pack) (a b:List Int) (n:ByteArray):List ByteArray:=(kT c a b n).getD []
theorem zKt {c:List Pack} {a b:List Int} (h:Two c a b) (n:ByteArray):
  zEK c a b n=some (nmL c a b n)∧kT c a b n=some (nmL c a b n)∧(∀x,x∈nmL c a b n↔x=n∨∃p∈zC8 c a b n,x∈p.Provides)∧(nmL c a b n).length ≤1048576:=by
 have hpr:∀p∈zC8 c a b n,p.Provides.length≤4:=fun p hp=>by
  obtain ⟨k,_,_,rfl⟩:=zH2 hp
  exact h.sml.zNG k
 have hbl:=zJA c a b n
 obtain ⟨r,e,r1,r2,r3⟩:=vI (b:=zD1 (zC8 c a b n)) (fun i s=>s.2=(i:Int)∧s.1.Pairwise ltS∧(∀x,x∈s.1↔x=n∨∃p∈(zC8 c a b n).take i,x∈p.Provides)∧s.1.length≤1+4*i) (zC8 c a b n).length
  (fun t=>t.Pairwise ltS∧(∀x,x∈t↔x=n∨∃p∈zC8 c a b n,x∈p.Provides)∧t.length≤1+4*(zC8 c a b n).length) (by
  rintro i ⟨l,j⟩ hi ⟨hj,h1,h2,h3⟩
  simp only at hj h1 h2 h3
  subst hj
  refine .inl ?_
  have hp4:=hpr _ (List.getElem_mem hi)
  obtain ⟨r,e1,e2,e3,e4⟩:=zI3 (zC8 c a b n)[i].Provides (fun x=>x) (b:=zD6 (zC8 c a b n) (l,(i:Int))) (by
   intro j hj l'
   unfold zD6
   simp only
   rw [zI hi]
   simp only [Option.bind_some]
   rw [if_pos (by simp; omega),zI hj]
   rfl) (by
   intro l'
   unfold zD6
   simp only
   rw [zI hi]
   simp only [Option.bind_some]
   rw [if_neg (by simp)]) l h1 (by omega)
  unfold zD1 zFC
  rw [if_pos (by simp; omega),e1,zM (by omega)]
  refine ⟨_,rfl,rfl,e2,fun x=>?_,by simp only; omega⟩
  rw [e3,h2,List.take_succ_eq_append_getElem hi]
  constructor
  ·rintro ((q|⟨p,q1,q2⟩)|⟨y,q1,q2⟩)
   ·exact .inl q
   ·exact .inr ⟨p,List.mem_append_left _ q1,q2⟩
   ·subst q2; exact .inr ⟨_,List.mem_append_right _ (by simp),q1⟩
  ·rintro (q|⟨p,q1,q2⟩)
   ·exact .inl (.inl q)
   ·rcases List.mem_append.1 q1 with q1|q1
    ·exact .inl (.inr ⟨p,q1,q2⟩)
    ·simp at q1; subst q1; exact .inr ⟨_,q2,rfl⟩) (by
  rintro ⟨l,j⟩ ⟨hj,h1,h2,h3⟩
  simp only at hj h1 h2 h3
  subst hj
  rw [List.take_length] at h2
  unfold zD1
  rw [if_neg (by simp)]
  exact ⟨_,rfl,h1,h2,h3⟩) (zC8 c a b n).length 0 ([n],0) (by omega) ⟨rfl,by simp,by simp,by simp⟩
 obtain ⟨u,f,u1,u2⟩:=vI (b:=zCs (zC8 c a b n)) (fun i s=>s.2=(i:Int)∧(∀x,x∈s.1↔x=n∨∃p∈(zC8 c a b n).take i,x∈p.Provides)∧s.1.length≤1+4*i) (zC8 c a b n).length
  (fun t=>(∀x,x∈t↔x=n∨∃p∈zC8 c a b n,x∈p.Provides)∧t.length≤1+4*(zC8 c a b n).length) (by
  rintro i ⟨l,j⟩ hi ⟨hj,h2,h3⟩
  simp only at hj h2 h3
  subst hj
  refine .inl ?_
  have hp4:=hpr _ (List.getElem_mem hi)
  unfold zCs
  rw [if_pos (by simp; omega),zI hi]
  simp only [Option.bind_some]
  rw [uH (by omega) (by omega),zM (by omega)]
  refine ⟨_,rfl,rfl,fun x=>?_,by simp; omega⟩
  rw [List.mem_append,h2,List.take_succ_eq_append_getElem hi]
  constructor
  ·rintro ((q|⟨p,q1,q2⟩)|q)
   ·exact .inl q
   ·exact .inr ⟨p,List.mem_append_left _ q1,q2⟩
   ·exact .inr ⟨_,List.mem_append_right _ (by simp),q⟩
  ·rintro (q|⟨p,q1,q2⟩)
   ·exact .inl (.inl q)
   ·rcases List.mem_append.1 q1 with q1|q1
    ·exact .inl (.inr ⟨p,q1,q2⟩)
    ·simp at q1; subst q1; exact .inr q2) (by
  rintro ⟨l,j⟩ ⟨hj,h2,h3⟩
  simp only at hj h2 h3
  subst hj
  rw [List.take_length] at h2
  unfold zCs
  rw [if_neg (by simp)]
  exact ⟨_,rfl,h2,h3⟩) (zC8 c a b n).length 0 ([n],0) (by omega) ⟨rfl,by simp,by simp⟩
 obtain ⟨w,w1,w2,w3⟩:=zFF u (by omega)
 have hw:w=r:=zCZ w2 r1 fun x=>by rw [w3,u1,r2]
 have hi:kT c a b n=some r:=by
  unfold kT zCT
  rw [(zIB h n).2]
  simp only [Option.bind_some]
  rw [f]
  simp only [Option.bind_some]
  rw [w1,hw]
  rfl
 have hd:nmL c a b n=r:=by unfold nmL; rw [hi]; rfl
 rw [hd]
 refine ⟨?_,hi,r2,by omega⟩
 unfold zEK zF0
 rw [(zIB h n).1]
 simp only [Option.bind_some]
 rw [e]
 rfl
noncomputable def mnL (p:Pack):List ByteArray:=(vT p).getD []
theorem zOg {ls:List (List Term)} (hl:ls.length≤4) (h4:∀l∈ls,l.length≤4):vY ls=some ls.flatten∧ls.flatten.length≤16:=by
 have hfl:∀i,i≤ls.length→(ls.take i).flatten.length ≤4*i:=by
  intro i
  induction i with
  |zero=>simp
  |succ i ih=>
   intro hi
   have:=ih (by omega)
   rw [List.take_succ_eq_append_getElem (by omega),List.flatten_append,List.length_append]
   have:=h4 _ (List.getElem_mem (show i<ls.length by omega))
   have h0:([ls[i]]:List (List Term)).flatten.length =ls[i].length :=by simp
   rw [h0]
   omega
 have hf:=hfl ls.length (Nat.le_refl _)
 rw [List.take_length] at hf
 refine ⟨?_,by omega⟩
 obtain ⟨t,e,ht⟩:=vI (b:=uK ls) (fun i s=>s.2=(i:Int)∧s.1=((ls.take i).flatten.length :Int)) ls.length (fun t=>t=(ls.flatten.length:Int)) (by
  rintro i ⟨s,j⟩ hi ⟨hj,hs⟩
  simp only at hj hs
  subst hj hs
  have h1:=hfl i (by omega)
  have h2:=h4 _ (List.getElem_mem hi)
  refine .inl ?_
  unfold uK
  rw [if_pos (by simp; omega),zI hi]
  simp only [Option.bind_some]
  rw [kG (x:=((ls.take i).flatten.length :Int)+(ls[i].length :Int)) (by omega) (by omega),if_neg (by simp; omega),zM (by omega)]
  refine ⟨_,rfl,rfl,?_⟩
  rw [List.take_succ_eq_append_getElem hi,List.flatten_append,List.length_append]
  simp) (by
  rintro ⟨s,j⟩ ⟨hj,hs⟩
  simp only at hj hs
  subst hj hs
  rw [List.take_length]
  unfold uK
  rw [if_neg (by simp)]
  exact ⟨_,rfl,rfl⟩) ls.length 0 (0,0) (by omega) ⟨rfl,by simp⟩
 obtain ⟨u,f,hu⟩:=vI (b:=uJ ls) (fun i s=>s.2=(i:Int)∧s.1=(ls.take i).flatten) ls.length (fun t=>t=ls.flatten) (by
  rintro i ⟨s,j⟩ hi ⟨hj,hs⟩
  simp only at hj hs
  subst hj hs
  have h1:=hfl i (by omega)
  have h2:=h4 _ (List.getElem_mem hi)
  refine .inl ?_
  unfold uJ
  rw [if_pos (by simp; omega),zI hi]
  simp only [Option.bind_some]
  rw [uH (by omega) (by omega),zM (by omega)]
  refine ⟨_,rfl,rfl,?_⟩
  rw [List.take_succ_eq_append_getElem hi,List.flatten_append]
  simp) (by
  rintro ⟨s,j⟩ ⟨hj,hs⟩
  simp only at hj hs
  subst hj hs
  rw [List.take_length]
  unfold uJ
  rw [if_neg (by simp)]
  exact ⟨_,rfl,rfl⟩) ls.length 0 (([]:List Term),0) (by omega) ⟨rfl,by simp⟩
 subst ht hu
 unfold vY uT uR
 rw [e]
 simp only [Option.bind_some]
 rw [show kZ (ls.flatten.length:Int)=some [] by unfold kZ; rw [if_pos (by omega)]]
 simp only [Option.bind_some]
 rw [f]
 rfl
theorem zJS {p:Pack} (h1:p.Needs.length≤4) (h2:∀l∈p.Needs,l.length≤4) (h3:p.Bars.length≤4):
  zDS p=some (mnL p)∧vT p=some (mnL p)∧(∀x,x∈mnL p↔(∃l∈p.Needs,∃t∈l,t.Name=x)∨∃t∈p.Bars,t.Name=x)∧(mnL p).length ≤1048576:=by
 obtain ⟨r,e,r1,r2,r3⟩:=vI (b:=zBN p) (fun i s=>s.2=(i:Int)∧s.1.Pairwise ltS∧(∀x,x∈s.1↔∃l∈p.Needs.take i,∃t∈l,t.Name=x)∧s.1.length≤4*i) p.Needs.length
  (fun t=>t.Pairwise ltS∧(∀x,x∈t↔∃l∈p.Needs,∃t∈l,t.Name=x)∧t.length≤4*p.Needs.length) (by
  rintro i ⟨l,j⟩ hi ⟨hj,g1,g2,g3⟩
  simp only at hj g1 g2 g3
  subst hj
  refine .inl ?_
  have hp4:=h2 _ (List.getElem_mem hi)
  obtain ⟨r,e1,e2,e3,e4⟩:=zI3 p.Needs[i] (fun x:Term=>x.Name) (b:=zBS p (l,(i:Int))) (by
   intro j hj l'
   unfold zBS
   simp only
   rw [zI hi]
   simp only [Option.bind_some]
   rw [if_pos (by simp; omega),zI hj]
   rfl) (by
   intro l'
   unfold zBS
   simp only
   rw [zI hi]
   simp only [Option.bind_some]
   rw [if_neg (by simp)]) l g1 (by omega)
  unfold zBN zEI
  rw [if_pos (by simp; omega),e1,zM (by omega)]
  refine ⟨_,rfl,rfl,e2,fun x=>?_,by simp only; omega⟩
  rw [e3,g2,List.take_succ_eq_append_getElem hi]
  constructor
  ·rintro (⟨l,q1,q2⟩|⟨y,q1,q2⟩)
   ·exact ⟨l,List.mem_append_left _ q1,q2⟩
   ·exact ⟨_,List.mem_append_right _ (by simp),y,q1,q2⟩
  ·rintro ⟨l,q1,q2⟩
   rcases List.mem_append.1 q1 with q1|q1
   ·exact .inl ⟨l,q1,q2⟩
   ·simp at q1; subst q1; exact .inr q2) (by
  rintro ⟨l,j⟩ ⟨hj,g1,g2,g3⟩
  simp only at hj g1 g2 g3
  subst hj
  rw [List.take_length] at g2
  unfold zBN
  rw [if_neg (by simp)]
  exact ⟨_,rfl,g1,g2,g3⟩) p.Needs.length 0 (([]:List ByteArray),0) (by omega) ⟨rfl,by simp,by simp,by simp⟩
 obtain ⟨r',e',s1,s2,s3⟩:=zI3 p.Bars (fun x:Term=>x.Name) (b:=zBX p) (by
  intro j hj l'
  unfold zBX
  rw [if_pos (by simp; omega),zI hj]
  rfl) (by
  intro l'
  unfold zBX
  rw [if_neg (by simp)]) r r1 (by omega)
 obtain ⟨c1,c2⟩:=zOg h1 h2
 have hlen:(p.Needs.flatten++p.Bars).length ≤20:=by rw [List.length_append]; omega
 obtain ⟨u,f,u1,u2⟩:=vI (b:=jX (p.Needs.flatten++p.Bars)) (fun i s=>s.2=(i:Int)∧s.1=((p.Needs.flatten++p.Bars).take i).map (·.Name)) (p.Needs.flatten++p.Bars).length
  (fun t=>t=(p.Needs.flatten++p.Bars).map (·.Name)∧t.length≤20) (by
  rintro i ⟨l,j⟩ hi ⟨hj,g⟩
  simp only at hj g
  subst hj g
  refine .inl ?_
  have hil:i<20:=by omega
  unfold jX
  rw [if_pos (by simp at hi ⊢; omega),zI hi]
  simp only [Option.bind_some]
  have hle:(((p.Needs.flatten++p.Bars).take i).map (·.Name)).length ≤i:=by simp; omega
  rw [uH (by simp at hle ⊢; omega) (by simp at hle ⊢; omega),zM (by omega)]
  refine ⟨_,rfl,rfl,?_⟩
  rw [List.take_succ_eq_append_getElem hi,List.map_append]
  rfl) (by
  rintro ⟨l,j⟩ ⟨hj,g⟩
  simp only at hj g
  subst hj g
  rw [List.take_length]
  unfold jX
  rw [if_neg (by simp)]
  exact ⟨_,rfl,rfl,by rw [List.length_map]; exact hlen⟩) (p.Needs.flatten++p.Bars).length 0 (([]:List ByteArray),0) (by omega) ⟨rfl,by simp⟩
 obtain ⟨w,w1,w2,w3⟩:=zFF u (by omega)
 have hmem:∀x,x∈r'↔(∃l∈p.Needs,∃t∈l,t.Name=x)∨∃t∈p.Bars,t.Name=x:=fun x=>by rw [s2,r2]
 have hw:w=r':=zCZ w2 s1 fun x=>by
  rw [w3,u1,hmem,List.mem_map]
  constructor
  ·rintro ⟨t,q1,q2⟩
   rcases List.mem_append.1 q1 with q1|q1
   ·obtain ⟨l,q3,q4⟩:=List.mem_flatten.1 q1
    exact .inl ⟨l,q3,t,q4,q2⟩
   ·exact .inr ⟨t,q1,q2⟩
  ·rintro (⟨l,q1,t,q2,q3⟩|⟨t,q1,q2⟩)
   ·exact ⟨t,List.mem_append_left _ (List.mem_flatten.2 ⟨l,q1,q2⟩),q3⟩
   ·exact ⟨t,List.mem_append_right _ q1,q2⟩
 have hi:vT p=some r':=by
  unfold vT kP
  rw [c1]
  simp only [Option.bind_some]
  rw [uH (by omega) (by omega)]
  simp only [Option.bind_some]
  rw [f]
  simp only [Option.bind_some]
  rw [w1,hw]
  rfl
 have hd:mnL p=r':=by unfold mnL; rw [hi]; rfl
 rw [hd]
 refine ⟨?_,hi,hmem,by omega⟩
 unfold zDS zEG zEN
 rw [e]
 simp only [Option.bind_some]
 rw [e']
 rfl
theorem zGa {α:Type} (xs:List α) (q:α→Bool) {b:Int→Option (Lp Int (Fl Bool Unit))}
  (hstep:∀(i:Nat) (hi:i<xs.length),b (i:Int)=some (if q xs[i] then .done (.ret true) else .go ((i+1:Nat):Int))) (hend:b (xs.length:Int)=some (.done (.nxt ()))):
  loop b 0=some (if xs.any q then .ret true else .nxt ()):=by
 have:=wQ xs (fun _ x=>if q x then some true else none) (b:=b) (by intro i hi; rw [hstep i hi]; cases q xs[i]<;>rfl) hend
 rw [this,zFL]
 cases xs.any q<;>rfl
theorem zI7 {α:Type} (xs:List α) (q:α→Bool) {b:Int→Option (Lp Int (Fl Int Unit))}
  (hstep:∀(i:Nat) (hi:i<xs.length),b (i:Int)=some (if q xs[i] then .done (.ret (i:Int)) else .go ((i+1:Nat):Int))) (hend:b (xs.length:Int)=some (.done (.nxt ()))):
  ((loop b 0).bind (Fl.go some fun _=>some (-1))).bind (fun x=>some (decide (x≥0)))=some (xs.any q):=by
 have:=wQ xs (fun j x=>if q x then some (j:Int) else none) (b:=b) (by intro i hi; rw [hstep i hi]; cases q xs[i]<;>rfl) hend
 have h:=zEk (zCz q xs 0)
 rw [this,zAV,←h]
 cases vE (fun j x=>if q x then some (j:Int) else none) 0 xs<;>rfl
theorem zIu {m ns:List ByteArray} (hm:m.length≤1048576) (hn:ns.length≤1048576):
  zFz m ns=some (m.any (inN ns))∧zW m ns=some (m.any (inN ns)):=by
 constructor
 ·have k:=zGa m (inN ns) (b:=zD4 m ns) (by
   intro i hi
   unfold zD4
   rw [if_pos (by simp; omega),zI hi]
   simp only [Option.bind_some]
   rw [zEe _ _ hn,zM (by omega)]
   simp only [Option.bind_some]
   have:(ns.any fun x=>seq x m[i])=inN ns m[i]:=rfl
   rw [this]
   cases inN ns m[i]<;>rfl) (by
   unfold zD4
   rw [if_neg (by simp)])
  unfold zFz zF3
  rw [k]
  cases m.any (inN ns)<;>rfl
 ·exact zI7 m (inN ns) (b:=yJ m ns) (by
   intro i hi
   unfold yJ tC
   rw [if_pos (by simp; omega),zI hi]
   simp only [Option.bind_some]
   rw [zDi _ _ hn,zM (by omega)]
   simp only [Option.bind_some]
   have:(ns.any fun x=>seq x m[i])=inN ns m[i]:=rfl
   rw [this]
   cases inN ns m[i]<;>rfl) (by
   unfold yJ
   rw [if_neg (by simp)])
noncomputable def zLH (c:List Pack) (a b:List Int) (n:ByteArray) (ns:List ByteArray):Bool:=(zC8 c a b n).any fun p=>(mnL p).any (inN ns)
theorem zGi {c:List Pack} {a b:List Int} (h:Two c a b) (n:ByteArray) {ns:List ByteArray} (hn:ns.length≤1048576):
  zFf c a b n ns=some (zLH c a b n ns)∧vR n ns c a b=some (zLH c a b n ns):=by
 have hb:=zJA c a b n
 have hp:∀p∈zC8 c a b n,zDS p=some (mnL p)∧vT p=some (mnL p)∧(mnL p).length ≤1048576:=fun p hp=>by
  obtain ⟨k,_,_,rfl⟩:=zH2 hp
  obtain ⟨q1,q2,_,q3⟩:=zJS (h.sml.needs k) (h.sml.clause k) (h.sml.bars k)
  exact ⟨q1,q2,q3⟩
 constructor
 ·have k:=zGa (zC8 c a b n) (fun p=>(mnL p).any (inN ns)) (b:=zDV ns (zC8 c a b n)) (by
   intro i hi
   obtain ⟨q1,q2,q3⟩:=hp _ (List.getElem_mem hi)
   unfold zDV
   rw [if_pos (by simp; omega),zI hi]
   simp only [Option.bind_some]
   rw [q1]
   simp only [Option.bind_some]
   rw [(zIu q3 hn).1,zM (by omega)]
   simp only [Option.bind_some]
   cases (mnL (zC8 c a b n)[i]).any (inN ns)<;>rfl) (by
   unfold zDV
   rw [if_neg (by simp)])
  unfold zFf zFS
  rw [(zIB h n).1]
  simp only [Option.bind_some]
  rw [k]
  unfold zLH
  cases (zC8 c a b n).any (fun p=>(mnL p).any (inN ns))<;>rfl
 ·have k:=zI7 (zC8 c a b n) (fun p=>(mnL p).any (inN ns)) (b:=yK (zC8 c a b n) ns) (by
   intro i hi
   obtain ⟨q1,q2,q3⟩:=hp _ (List.getElem_mem hi)
   unfold yK jQ
   rw [if_pos (by simp; omega),zI hi]
   simp only [Option.bind_some]
   rw [q2]
   simp only [Option.bind_some]
   rw [(zIu q3 hn).2,zM (by omega)]
   simp only [Option.bind_some]
   cases (mnL (zC8 c a b n)[i]).any (inN ns)<;>rfl) (by
   unfold yK
   rw [if_neg (by simp)])
  unfold vR
  rw [(zIB h n).2]
  simp only [Option.bind_some]
  have e:zX (zC8 c a b n) ns=some (zLH c a b n ns):=k
  rw [e]
  rfl
def clB (ns:List ByteArray) (l:List Term):Bool:=l.any fun t=>inN ns t.Name
theorem zFh {ns:List ByteArray} {l:List Term} (hn:ns.length≤1048576) (hl:l.length≤1048576):zE0 l ns=some (clB ns l)∧vS ns l=some (clB ns l):=by
 constructor
 ·have k:=zGa l (fun t=>inN ns t.Name) (b:=zDf l ns) (by
   intro i hi
   unfold zDf
   rw [if_pos (by simp; omega),zI hi]
   simp only [Option.bind_some]
   rw [zEe _ _ hn,zM (by omega)]
   simp only [Option.bind_some]
   have:(ns.any fun x=>seq x l[i].Name)=inN ns l[i].Name :=rfl
   rw [this]
   cases inN ns l[i].Name <;>rfl) (by
   unfold zDf
   rw [if_neg (by simp)])
  unfold zE0 zFs
  rw [k]
  unfold clB
  cases l.any (fun t=>inN ns t.Name)<;>rfl
 ·have k:=zI7 l (fun t=>inN ns t.Name) (b:=yN l ns) (by
   intro i hi
   unfold yN jR
   rw [if_pos (by simp; omega),zI hi]
   simp only [Option.bind_some]
   rw [zDi _ _ hn,zM (by omega)]
   simp only [Option.bind_some]
   have:(ns.any fun x=>seq x l[i].Name)=inN ns l[i].Name :=rfl
   rw [this]
   cases inN ns l[i].Name <;>rfl) (by
   unfold yN
   rw [if_neg (by simp)])
  unfold vS
  have e:zY l ns=some (clB ns l):=k
  rw [e]
  rfl
def zKA (c:List Pack) (a:List Int) (n1 n2:List ByteArray):Bool:=a.any fun k=>(pat c k).Needs.any fun l=>clB n1 l&&clB n2 l
theorem zKO {c:List Pack} {a:List Int} (hs:Sml c) (hp:Places c a) (ha:a.length≤1048576) {n1 n2:List ByteArray} (h1:n1.length≤1048576) (h2:n2.length≤1048576):zDQ c a n1 n2=some (zKA c a n1 n2):=by
 have k:=zGa a (fun k=>(pat c k).Needs.any fun l=>clB n1 l&&clB n2 l) (b:=zBP c a n1 n2) (by
  intro i hi
  have hk:=hp _ (List.getElem_mem hi)
  have hN:=hs.needs a[i]
  have k2:=zGa (pat c a[i]).Needs (fun l=>clB n1 l&&clB n2 l) (b:=zBY c a n1 n2 (i:Int) (pat c a[i])) (by
   intro j hj
   have hcl:=hs.clause a[i] _ (List.getElem_mem hj)
   unfold zBY
   rw [if_pos (by simp; omega),zI hj]
   simp only [Option.bind_some]
   rw [(zFh h1 (by omega)).1,(zFh h2 (by omega)).1,zM (by omega)]
   simp only [Option.bind_some]
   cases clB n1 (pat c a[i]).Needs[j]<;>cases clB n2 (pat c a[i]).Needs[j]<;>rfl) (by
   unfold zBY
   rw [if_neg (by simp)])
  unfold zBP zEM
  rw [if_pos (by simp; omega),zI hi]
  simp only [Option.bind_some]
  rw [(tQ hk).1]
  simp only [Option.bind_some]
  rw [k2,zM (by omega)]
  cases (pat c a[i]).Needs.any (fun l=>clB n1 l&&clB n2 l)<;>rfl) (by
  unfold zBP
  rw [if_neg (by simp)])
 unfold zDQ zEJ
 rw [k]
 unfold zKA
 cases a.any (fun k=>(pat c k).Needs.any fun l=>clB n1 l&&clB n2 l)<;>rfl
theorem zNy {c:List Pack} {a:List Int} (hs:Sml c) (hp:Places c a) (ha:a.length≤1048576) {n1 n2:List ByteArray} (h1:n1.length≤1048576) (h2:n2.length≤1048576):loop (jT c n1 n2 a) 0=some (if zKA c a n1 n2 then .ret true else .nxt ()):=by
 exact zGa a (fun k=>(pat c k).Needs.any fun l=>clB n1 l&&clB n2 l) (b:=jT c n1 n2 a) (by
  intro i hi
  have hk:=hp _ (List.getElem_mem hi)
  have hN:=hs.needs a[i]
  have k2:=zGa (pat c a[i]).Needs (fun l=>clB n1 l&&clB n2 l) (b:=zAb c n1 n2 a (i:Int) (pat c a[i])) (by
   intro j hj
   have hcl:=hs.clause a[i] _ (List.getElem_mem hj)
   unfold zAb
   rw [if_pos (by simp; omega),zI hj]
   simp only [Option.bind_some]
   rw [(zFh h1 (by omega)).2,(zFh h2 (by omega)).2,zM (by omega)]
   simp only [Option.bind_some]
   cases clB n1 (pat c a[i]).Needs[j]<;>cases clB n2 (pat c a[i]).Needs[j]<;>rfl) (by
   unfold zAb
   rw [if_neg (by simp)])
  unfold jT zA2
  rw [if_pos (by simp; omega),zI hi]
  simp only [Option.bind_some]
  rw [(tQ hk).1]
  simp only [Option.bind_some]
  rw [k2,zM (by omega)]
  cases (pat c a[i]).Needs.any (fun l=>clB n1 l&&clB n2 l)<;>rfl) (by
  unfold jT
  rw [if_neg (by simp)])
noncomputable def jB (c:List Pack) (a b:List Int) (x y:ByteArray):Bool:=
 zLH c a b x (nmL c a b y)||(zLH c a b y (nmL c a b x)||(zKA c a (nmL c a b x) (nmL c a b y)||zKA c b (nmL c a b x) (nmL c a b y)))
theorem zHs {c:List Pack} {a b:List Int} (h:Two c a b) (x y:ByteArray):zAT c a b x y=some (jB c a b x y)∧wZ c a b x y=some (jB c a b x y):=by
 obtain ⟨x1,x2,_,x3⟩:=zKt h x
 obtain ⟨y1,y2,_,y3⟩:=zKt h y
 have la:=h.la
 have lb:=h.lb
 constructor
 ·unfold zAT jB
  rw [x1,y1]
  simp only [Option.bind_some]
  rw [(zGi h x y3).1,(zGi h y x3).1,zKO h.sml h.pa (by omega) x3 y3,zKO h.sml h.pb (by omega) x3 y3]
  simp only [Option.bind_some]
  cases zLH c a b x (nmL c a b y)<;>cases zLH c a b y (nmL c a b x)<;>cases zKA c a (nmL c a b x) (nmL c a b y)<;>rfl
 ·unfold wZ jB zA3
  rw [x2,y2]
  simp only [Option.bind_some]
  rw [(zGi h x y3).2,(zGi h y x3).2,zMk (by omega) (by omega)]
  simp only [Option.bind_some]
  rw [zNy h.sml (a:=a++b) (fun k hk=>by
   rcases List.mem_append.1 hk with q|q
   ·exact h.pa _ q
   ·exact h.pb _ q) (by simp; omega) x3 y3]
  have e:zKA c (a++b) (nmL c a b x) (nmL c a b y)=(zKA c a (nmL c a b x) (nmL c a b y)||zKA c b (nmL c a b x) (nmL c a b y)):=by
   unfold zKA; rw [List.any_append]
  rw [e]
  cases zLH c a b x (nmL c a b y)<;>cases zLH c a b y (nmL c a b x)<;>cases zKA c a (nmL c a b x) (nmL c a b y)<;>cases zKA c b (nmL c a b x) (nmL c a b y)<;>rfl
theorem zG4 {c:List Pack} {a:List Int} (ga:GoodS c a) {k:Int} (hk:k∈a):zD9 c a (uM c k)=k:=by
 rcases zAE c a (uM c k) with ⟨_,q⟩|⟨q1,q2⟩
 ·exact absurd rfl (q k hk)
 ·exact ga.one q1 hk q2
theorem zGj {c:List Pack} {a b:List Int} (h:Two c a b) (ga:GoodS c a) (gb:GoodS c b) {n:ByteArray} {p:Pack}:p∈zC8 c a b n↔∃k,(k∈a∨k∈b)∧uM c k=n∧p=pat c k:=by
 constructor
 ·exact zH2
 ·rintro ⟨k,hk|hk,rfl,rfl⟩
  ·have e:=zG4 ga hk
   have:=h.pa k hk
   unfold zC8
   rw [e,if_pos (by simp; omega)]
   simp
  ·have e:=zG4 gb hk
   have:=h.pb k hk
   unfold zC8
   rw [e]
   refine List.mem_append_right _ ?_
   rw [if_pos (by simp; omega)]
   simp
theorem zKW {c:List Pack} {a b:List Int} (h:Two c a b) (ga:GoodS c a) (gb:GoodS c b) {x n:ByteArray}:n∈nmL c a b x↔Nms c a b x n:=by
 rw [(zKt h x).2.2.1]
 unfold Nms
 constructor
 ·rintro (q|⟨p,hp,q⟩)
  ·exact .inl q
  ·obtain ⟨k,h1,h2,rfl⟩:=(zGj h ga gb).1 hp
   exact .inr ⟨k,h1,h2,q⟩
 ·rintro (q|⟨k,h1,h2,q⟩)
  ·exact .inl q
  ·exact .inr ⟨_,(zGj h ga gb).2 ⟨k,h1,h2,rfl⟩,q⟩
theorem zLX {c:List Pack} {a b:List Int} (h:Two c a b) (ga:GoodS c a) (gb:GoodS c b) {x y:ByteArray}:zLH c a b x (nmL c a b y)=true↔Tch c a b x y:=by
 unfold zLH Tch
 rw [List.any_eq_true]
 constructor
 ·rintro ⟨p,hp,q⟩
  obtain ⟨k,h1,h2,rfl⟩:=(zGj h ga gb).1 hp
  obtain ⟨n,q1,q2⟩:=List.any_eq_true.1 q
  refine ⟨k,h1,h2,n,?_,(zKW h ga gb).1 (zC2.1 q2)⟩
  exact ((zJS (h.sml.needs k) (h.sml.clause k) (h.sml.bars k)).2.2.1 n).1 q1
 ·rintro ⟨k,h1,h2,n,q1,q2⟩
  refine ⟨_,(zGj h ga gb).2 ⟨k,h1,h2,rfl⟩,List.any_eq_true.2 ⟨n,?_,zC2.2 ((zKW h ga gb).2 q2)⟩⟩
  exact ((zJS (h.sml.needs k) (h.sml.clause k) (h.sml.bars k)).2.2.1 n).2 q1
theorem zKQ {c:List Pack} {a b:List Int} (h:Two c a b) (ga:GoodS c a) (gb:GoodS c b) {x:ByteArray} {l:List Term}:clB (nmL c a b x) l=true↔∃t∈l,Nms c a b x t.Name:=by
 unfold clB
 rw [List.any_eq_true]
 constructor
 ·rintro ⟨t,h1,h2⟩; exact ⟨t,h1,(zKW h ga gb).1 (zC2.1 h2)⟩
 ·rintro ⟨t,h1,h2⟩; exact ⟨t,h1,zC2.2 ((zKW h ga gb).2 h2)⟩
theorem zKD {c:List Pack} {a b:List Int} (h:Two c a b) (ga:GoodS c a) (gb:GoodS c b) {x y:ByteArray} {s:List Int}:zKA c s (nmL c a b x) (nmL c a b y)=true↔∃k∈s,∃l∈(pat c k).Needs,(∃t∈l,Nms c a b x t.Name)∧∃t∈l,Nms c a b y t.Name:=by
 unfold zKA
 rw [List.any_eq_true]
 constructor
 ·rintro ⟨k,h1,h2⟩
  obtain ⟨l,h3,h4⟩:=List.any_eq_true.1 h2
  simp only [Bool.and_eq_true] at h4
  exact ⟨k,h1,l,h3,(zKQ h ga gb).1 h4.1,(zKQ h ga gb).1 h4.2⟩
 ·rintro ⟨k,h1,l,h3,h4,h5⟩
  exact ⟨k,h1,List.any_eq_true.2 ⟨l,h3,by simp only [Bool.and_eq_true]; exact ⟨(zKQ h ga gb).2 h4,(zKQ h ga gb).2 h5⟩⟩⟩
theorem zOA {c:List Pack} {a b:List Int} (h:Two c a b) (ga:GoodS c a) (gb:GoodS c b) {x y:ByteArray}:jB c a b x y=true↔Joi c a b x y:=by
 unfold jB Joi
 simp only [Bool.or_eq_true]
 rw [zLX h ga gb,zLX h ga gb,zKD h ga gb,zKD h ga gb]
 constructor
 ·rintro (q|q|⟨k,h1,q⟩|⟨k,h1,q⟩)
  ·exact .inl q
  ·exact .inr (.inl q)
  ·exact .inr (.inr ⟨k,.inl h1,q⟩)
  ·exact .inr (.inr ⟨k,.inr h1,q⟩)
 ·rintro (q|q|⟨k,h1|h1,q⟩)
  ·exact .inl q
  ·exact .inr (.inl q)
  ·exact .inr (.inr (.inl ⟨k,h1,q⟩))
  ·exact .inr (.inr (.inr ⟨k,h1,q⟩))
theorem zNS {c:List Pack} {a b:List Int} (h:Two c a b) (ga:GoodS c a) (gb:GoodS c b) {n:ByteArray}:zD9 c a n≠zD9 c b n↔Chg c a b n:=by
 constructor
 ·intro hne
  rcases zAE c a n with ⟨q1,q2⟩|⟨q1,q2⟩
  ·rcases zAE c b n with ⟨q3,_⟩|⟨q3,q4⟩
   ·exact absurd (q1.trans q3.symm) hne
   ·exact ⟨_,q4,.inr ⟨q3,fun h=>q2 _ h q4⟩⟩
  ·refine ⟨_,q2,.inl ⟨q1,fun hb=>hne ?_⟩⟩
   have:=zG4 gb hb
   rw [q2] at this
   exact this.symm
 ·rintro ⟨k,rfl,⟨h1,h2⟩|⟨h1,h2⟩⟩ e
  ·rw [zG4 ga h1] at e
   have:=h.pa k h1
   rcases zAE c b (uM c k) with ⟨q1,q2⟩|⟨q1,q2⟩
   ·omega
   ·rw [←e] at q1; exact h2 q1
  ·rw [zG4 gb h1] at e
   have:=h.pb k h1
   rcases zAE c a (uM c k) with ⟨q1,q2⟩|⟨q1,q2⟩
   ·omega
   ·rw [e] at q1; exact h2 q1
inductive Rch (K:ByteArray→ByteArray→Bool) (L:List ByteArray) (h:ByteArray):ByteArray→Prop where
 |base:Rch K L h h
 |step {x y:ByteArray}:Rch K L h x→y∈L→K x y=true→Rch K L h y
noncomputable def zE1 (K:ByteArray→ByteArray→Bool) (L:List ByteArray):List ByteArray:=L.filter fun y=> @decide (Rch K L (L.headD ByteArray.empty) y) (Classical.propDecidable _)
noncomputable def zEY (K:ByteArray→ByteArray→Bool) (L:List ByteArray):List ByteArray:=L.filter fun y=> !(@decide (Rch K L (L.headD ByteArray.empty) y) (Classical.propDecidable _))
theorem Rch.mem {K:ByteArray→ByteArray→Bool} {L:List ByteArray} {h x:ByteArray} (hh:h∈L) (r:Rch K L h x):x∈L:=by
 cases r with
 |base=>exact hh
 |step _ h2 _=>exact h2
theorem zEn {K:ByteArray→ByteArray→Bool} {L:List ByteArray} {h:ByteArray} {t:List ByteArray} (e:L=h::t) {x:ByteArray}:x∈zE1 K L↔Rch K L h x:=by
 unfold zE1
 rw [List.mem_filter]
 have:L.headD ByteArray.empty=h:=by rw [e]; rfl
 rw [this]
 simp only [decide_eq_true_eq]
 exact ⟨fun h=>h.2,fun r=>⟨r.mem (by rw [e]; simp),r⟩⟩
theorem zFc {K:ByteArray→ByteArray→Bool} {L:List ByteArray} {h:ByteArray} {t:List ByteArray} (e:L=h::t) {x:ByteArray}:x∈zEY K L↔x∈L∧¬Rch K L h x:=by
 unfold zEY
 rw [List.mem_filter]
 have:L.headD ByteArray.empty=h:=by rw [e]; rfl
 rw [this]
 simp
theorem zIJ {K:ByteArray→ByteArray→Bool} {L:List ByteArray} {h:ByteArray} {t:List ByteArray} (e:L=h::t):(zEY K L).length <L.length:=by
 have hne:zEY K L≠L:=fun he=>by
  have:h∈zEY K L:=by rw [he,e]; simp
  exact ((zFc e).1 this).2 .base
 have hs:(zEY K L).Sublist L:=List.filter_sublist
 rcases Nat.lt_or_ge (zEY K L).length L.length with q|q
 ·exact q
 ·exact absurd (hs.eq_of_length (Nat.le_antisymm hs.length_le q)) hne
theorem zG7 {P L:List ByteArray} (hP:P.Pairwise ltS) (hL:L.Pairwise ltS) (h:∀x∈P,x∈L):P.length≤L.length:=by
 have e:P=L.filter (inN P):=zCZ hP (hL.filter _) fun x=>by
  rw [List.mem_filter,zC2]
  exact ⟨fun hx=>⟨h x hx,hx⟩,fun hx=>hx.2⟩
 rw [e]
 exact List.length_filter_le _ _
theorem zLg {K:ByteArray→ByteArray→Bool} {c:List Pack} {a b:List Int} (hJ:∀x y,zAT c a b x y=some (K x y)) {L P:List ByteArray} {out:List (List ByteArray)} {s3:List ByteArray×Bool×Int} {i:Nat} (hi:i<L.length) (hs3:s3.2.2=(i:Int)) (hP:P.Pairwise ltS) (hl:P.length≤1000) (g:Bool):
  ∃t,loop (zD2 c a b (L,out) s3) (P,g,0)=some t∧t.1.Pairwise ltS∧((t=(P,g)∧(L[i]∈P∨∀x∈P,K x L[i]=false))∨(L[i]∉P∧(∃x∈P,K x L[i]=true)∧t.2=true∧(∀z,z∈t.1↔z∈P∨z=L[i])∧t.1.length=P.length+1)):=by
 let Q:List ByteArray×Bool→Prop:=fun t=>t.1.Pairwise ltS∧((t=(P,g)∧(L[i]∈P∨∀x∈P,K x L[i]=false))∨(L[i]∉P∧(∃x∈P,K x L[i]=true)∧t.2=true∧(∀z,z∈t.1↔z∈P∨z=L[i])∧t.1.length=P.length+1))
 refine vI (b:=zD2 c a b (L,out) s3)
  (fun k s=>s.2.2=(k:Int)∧k≤P.length+1∧((s.1=P∧s.2.1=g∧k≤P.length∧(∀(j:Nat) (hj:j<P.length),j<k→K P[j] L[i]=false))∨(s.1.Pairwise ltS∧L[i]∉P∧(∃x∈P,K x L[i]=true)∧s.2.1=true∧(∀z,z∈s.1↔z∈P∨z=L[i])∧s.1.length=P.length+1))) (P.length+2) Q (by
  rintro k ⟨p,g',k'⟩ hk ⟨hk',hle,hcase⟩
  simp only at hk' hcase
  subst hk'
  have hix:idx L s3.2.2=some L[i]:=by rw [hs3]; exact zI hi
  unfold zD2
  simp only
  rcases hcase with ⟨rfl,rfl,hkp,hno⟩|⟨h1,h2,h3,h4,h5,h6⟩
  ·by_cases hkl:k<p.length
   ·rw [if_pos (by simp; omega),hix]
    simp only [Option.bind_some]
    rw [zEe _ _ (by omega)]
    have hq:(p.any fun x=>seq x L[i])=inN p L[i]:=rfl
    rw [hq]
    simp only [Option.bind_some]
    cases hin:inN p L[i]
    ·simp only [Bool.not_false,if_true]
     have hnin:L[i]∉p:=fun h=>by rw [zC2.2 h] at hin; cases hin
     rw [zI hkl]
     simp only [Option.bind_some]
     rw [hJ]
     simp only [Option.bind_some]
     cases hj:K p[k] L[i]
     ·simp only [Bool.false_eq_true,if_false,Option.bind_some]
      rw [zM (by omega)]
      refine .inl ⟨_,rfl,rfl,by omega,.inl ⟨rfl,rfl,by omega,fun j hj' hjk=>?_⟩⟩
      rcases Nat.lt_succ_iff_lt_or_eq.1 hjk with q|q
      ·exact hno j hj' q
      ·subst q; exact hj
     ·simp only [if_true]
      obtain ⟨r,e1,e2,e3,e4⟩:=zHN p L[i] hP (by omega)
      rw [e1]
      simp only [Option.bind_some]
      rw [zM (by omega)]
      refine .inl ⟨_,rfl,rfl,by omega,.inr ⟨e2,hnin,⟨_,List.getElem_mem hkl,hj⟩,rfl,e3,?_⟩⟩
      have hnd:∀{l:List ByteArray},l.Pairwise ltS→l.Nodup:=fun h=>h.imp fun h=>zJs h
      have:r.Perm (L[i]::p):=(List.perm_ext_iff_of_nodup (hnd e2) (List.nodup_cons.2 ⟨hnin,hnd hP⟩)).2 fun z=>by
       rw [e3,List.mem_cons]; exact Or.comm
      rw [this.length_eq]
      rfl
    ·simp only [Bool.not_true,Bool.false_eq_true,if_false]
     exact .inr ⟨_,rfl,hP,.inl ⟨rfl,.inl (zC2.1 hin)⟩⟩
   ·rw [if_neg (by simp; omega)]
    simp only [Option.bind_some,Bool.false_eq_true,if_false]
    refine .inr ⟨_,rfl,hP,.inl ⟨rfl,.inr fun x hx=>?_⟩⟩
    obtain ⟨j,hj,rfl⟩:=List.getElem_of_mem hx
    exact hno j hj (by omega)
  ·refine .inr ⟨(p,g'),?_,h1,.inr ⟨h2,h3,h4,h5,h6⟩⟩
   by_cases hkl:k<p.length
   ·rw [if_pos (by simp; omega),hix]
    simp only [Option.bind_some]
    rw [zEe _ _ (by omega)]
    have hq:(p.any fun x=>seq x L[i])=true:=by
     show inN p L[i]=true
     exact zC2.2 ((h5 _).2 (.inr rfl))
    rw [hq]
    simp
   ·rw [if_neg (by simp; omega)]
    simp) (by
  rintro ⟨p,g',k'⟩ ⟨hk',hle,_⟩
  omega) (P.length+2) 0 (P,g,0) (by omega) ⟨rfl,by omega,.inl ⟨rfl,rfl,by omega,fun j hj h=>by omega⟩⟩
theorem zLi {K:ByteArray→ByteArray→Bool} {c:List Pack} {a b:List Int} (hJ:∀x y,zAT c a b x y=some (K x y)) {L P:List ByteArray} {h:ByteArray} {out:List (List ByteArray)} (hL:L.Pairwise ltS) (hl:L.length≤500) (hP:P.Pairwise ltS) (hsub:∀x∈P,Rch K L h x) (hh:h∈L):
  ∃t,loop (zCt c a b (L,out)) (P,false,0)=some t∧t.1.Pairwise ltS∧(∀x∈P,x∈t.1)∧(∀x∈t.1,Rch K L h x)∧(t.2=true→P.length<t.1.length)∧(t.2=false→t.1=P∧∀y∈L,y∈P∨∀x∈P,K x y=false):=by
 refine vI (b:=zCt c a b (L,out))
  (fun i s=>s.2.2=(i:Int)∧s.1.Pairwise ltS∧(∀x∈P,x∈s.1)∧(∀x∈s.1,Rch K L h x)∧(s.2.1=true→P.length<s.1.length)∧P.length≤s.1.length∧(s.2.1=false→s.1=P∧∀y∈L.take i,y∈P∨∀x∈P,K x y=false)) L.length _ (by
  rintro i ⟨p,g,k⟩ hi ⟨hk,h1,h2,h3,h4,h5,h6⟩
  simp only at hk h1 h2 h3 h4 h5 h6
  subst hk
  refine .inl ?_
  have hpl:=zG7 h1 hL (fun x hx=>(h3 x hx).mem hh)
  obtain ⟨⟨p',g'⟩,e,q1,q2⟩:=zLg hJ (out:=out) (s3:=(p,g,(i:Int))) hi rfl h1 (by omega) g
  unfold zCt zF6
  rw [if_pos (by simp; omega)]
  simp only
  rw [e,zM (by omega)]
  refine ⟨_,rfl,rfl,q1,?_⟩
  simp only at q1 q2 ⊢
  rcases q2 with ⟨q3,q4⟩|⟨q3,⟨x0,q4,q5⟩,q6,q7,q8⟩
  ·cases q3
   refine ⟨h2,h3,h4,h5,fun hg=>?_⟩
   obtain ⟨rfl,h8⟩:=h6 hg
   refine ⟨rfl,fun y hy=>?_⟩
   rw [List.take_succ_eq_append_getElem hi] at hy
   rcases List.mem_append.1 hy with hy|hy
   ·exact h8 y hy
   ·simp at hy; subst hy; exact q4
  ·refine ⟨fun x hx=>(q7 x).2 (.inl (h2 x hx)),fun x hx=>?_,fun _=>by omega,by omega,fun hg=>?_⟩
   ·rcases (q7 x).1 hx with hx|rfl
    ·exact h3 x hx
    ·exact .step (h3 _ q4) (List.getElem_mem hi) q5
   ·rw [q6] at hg; cases hg) (by
  rintro ⟨p,g,k⟩ ⟨hk,h1,h2,h3,h4,h5,h6⟩
  simp only at hk h1 h2 h3 h4 h5 h6
  subst hk
  rw [List.take_length] at h6
  unfold zCt
  rw [if_neg (by simp)]
  exact ⟨_,rfl,h1,h2,h3,h4,h6⟩) L.length 0 (P,false,0) (by omega) ⟨rfl,hP,fun x hx=>hx,hsub,by simp,Nat.le_refl _,fun _=>⟨rfl,by simp⟩⟩
theorem zMj {K:ByteArray→ByteArray→Bool} {c:List Pack} {a b:List Int} (hJ:∀x y,zAT c a b x y=some (K x y)) {L:List ByteArray} {h:ByteArray} {t:List ByteArray} {out:List (List ByteArray)} (e0:L=h::t) (hL:L.Pairwise ltS) (hl:L.length≤500):zEA c a b (L,out) ([h],true)=some (zE1 K L):=by
 have hh:h∈L:=by rw [e0]; simp
 obtain ⟨r,e,h1,h2,h3,h4⟩:=zHD (b:=zEs c a b (L,out)) (fun s=>s.1.Pairwise ltS∧h∈s.1∧(∀x∈s.1,Rch K L h x)∧(s.2=false→∀y∈L,y∈s.1∨∀x∈s.1,K x y=false))
  (fun s=>(L.length-s.1.length)*2+(if s.2 then 1 else 0)) (fun t=>t.Pairwise ltS∧h∈t∧(∀x∈t,Rch K L h x)∧∀y∈L,y∈t∨∀x∈t,K x y=false) (by
  rintro ⟨p,g⟩ ⟨g1,g2,g3,g4⟩
  simp only at g1 g2 g3 g4
  unfold zEs
  simp only
  cases g
  ·rw [if_neg (by simp)]
   exact .inr ⟨_,rfl,g1,g2,g3,g4 rfl⟩
  ·rw [if_pos rfl]
   obtain ⟨⟨p',g'⟩,e,q1,q2,q3,q4,q5⟩:=zLi hJ (out:=out) hL hl g1 g3 hh
   simp only at q1 q2 q3 q4 q5
   unfold zF2
   rw [e]
   have hpl:=zG7 q1 hL (fun x hx=>(q3 x hx).mem hh)
   refine .inl ⟨_,rfl,⟨q1,q2 _ g2,q3,fun hg=>?_⟩,?_⟩
   ·obtain ⟨rfl,q6⟩:=q5 hg
    exact q6
   ·simp only
    cases g'
    ·obtain ⟨rfl,_⟩:=q5 rfl
     simp
    ·have:=q4 rfl
     simp
     omega) _ ([h],true) (Nat.le_refl _) ⟨by simp,by simp,fun x hx=>by simp at hx; subst hx; exact .base,by simp⟩
 unfold zEA
 rw [e]
 congr 1
 refine zCZ h1 (hL.filter _) fun x=>?_
 show x∈r↔x∈zE1 K L
 rw [zEn e0]
 refine ⟨h3 x,fun hr=>?_⟩
 induction hr with
 |base=>exact h2
 |step _ hy hj ih=>
  rcases h4 _ hy with q|q
  ·exact q
  ·rw [q _ ih] at hj; cases hj
theorem zML {K:ByteArray→ByteArray→Bool} {c:List Pack} {a b:List Int} {L:List ByteArray} {h:ByteArray} {t:List ByteArray} {out:List (List ByteArray)} (e0:L=h::t) (hl:L.length≤500):zE8 c a b (L,out) (zE1 K L) (([]:List ByteArray),0)=some (zEY K L):=by
 have hpl:(zE1 K L).length ≤L.length:=List.length_filter_le _ _
 obtain ⟨r,e,rfl⟩:=vI (b:=zD0 c a b (L,out) (zE1 K L)) (fun i s=>s.2=(i:Int)∧s.1=(L.take i).filter (fun y=> !(inN (zE1 K L) y))) L.length (fun t=>t=L.filter (fun y=> !(inN (zE1 K L) y))) (by
  rintro i ⟨l,k⟩ hi ⟨hk,hl'⟩
  simp only at hk hl'
  subst hk hl'
  refine .inl ?_
  have hlen:((L.take i).filter (fun y=> !(inN (zE1 K L) y))).length ≤i:=by
   have:=List.length_filter_le (fun y=> !(inN (zE1 K L) y)) (L.take i)
   simp at this ⊢
   omega
  unfold zD0
  simp only
  rw [if_pos (by simp; omega),zI hi]
  simp only [Option.bind_some]
  rw [zEe _ _ (by omega),zM (by omega),uH (by simp at hlen ⊢; omega) (by simp at hlen ⊢; omega)]
  have hq:((zE1 K L).any fun x=>seq x L[i])=inN (zE1 K L) L[i]:=rfl
  rw [hq]
  simp only [Option.bind_some]
  refine ⟨((L.take (i+1)).filter (fun y=> !(inN (zE1 K L) y)),((i+1:Nat):Int)),?_,rfl,rfl⟩
  rw [List.take_succ_eq_append_getElem hi,List.filter_append,List.filter_cons,List.filter_nil]
  cases inN (zE1 K L) L[i]<;>simp) (by
  rintro ⟨l,k⟩ ⟨hk,hl'⟩
  simp only at hk hl'
  subst hk hl'
  rw [List.take_length]
  unfold zD0
  rw [if_neg (by simp)]
  exact ⟨_,rfl,rfl⟩) L.length 0 (([]:List ByteArray),0) (by omega) ⟨rfl,by simp⟩
 unfold zE8
 rw [e]
 congr 1
 unfold zEY
 refine List.filter_congr fun y hy=>?_
 have hd:L.headD ByteArray.empty=h:=by rw [e0]; rfl
 rw [hd]
 congr 1
 rw [Bool.eq_iff_iff,zC2,zEn e0]
 exact (@decide_eq_true_iff _ (Classical.propDecidable _)).symm
theorem zFD {K:ByteArray→ByteArray→Bool} {c:List Pack} {a b:List Int} (hJ:∀x y,zAT c a b x y=some (K x y)) {L:List ByteArray} {out:List (List ByteArray)} (hL:L.Pairwise ltS) (hl:L.length≤500) (ho:out.length≤500):zD7 c a b (L,out)=some (if L=[] then .done out else .go (zEY K L,out++[zE1 K L])):=by
 cases L with
 |nil=>
  unfold zD7
  rw [if_neg (by simp),if_pos rfl]
 |cons h t=>
  unfold zD7
  rw [if_pos (by simp),if_neg (by simp)]
  simp only
  rw [show idx (h::t) 0=some h from rfl]
  simp only [Option.bind_some]
  rw [zMj hJ rfl hL hl]
  simp only [Option.bind_some]
  rw [zML rfl hl]
  simp only [Option.bind_some]
  rw [uH (by simp; omega) (by simp; omega)]
  rfl
noncomputable def zAo (K:ByteArray→ByteArray→Bool):Nat→List ByteArray→List (List ByteArray)
 |0,_=>[]
 |n+1,L=>if L=[] then [] else zE1 K L::zAo K n (zEY K L)
theorem zEH {K:ByteArray→ByteArray→Bool} {L:List ByteArray} (h:L.Pairwise ltS):(zEY K L).Pairwise ltS:=h.filter _
theorem zGH {K:ByteArray→ByteArray→Bool} {L:List ByteArray} (h:L.Pairwise ltS):(zE1 K L).Pairwise ltS:=h.filter _
theorem zF9 {K:ByteArray→ByteArray→Bool} {c:List Pack} {a b:List Int} (hJ:∀x y,zAT c a b x y=some (K x y)):∀(n:Nat) (L:List ByteArray) (out:List (List ByteArray)),L.Pairwise ltS→L.length≤n→L.length+out.length≤500→zCF c a b (L,out)=some (out++zAo K n L)
 |0,L,out,h1,h2,h3=>by
  have:L=[]:=List.length_eq_zero_iff.1 (by omega)
  subst this
  unfold zCF
  rw [uF,zFD hJ h1 (by simp) (by omega)]
  simp [zAo,Lp.elim]
 |n+1,L,out,h1,h2,h3=>by
  unfold zCF
  rw [uF,zFD hJ h1 (by omega) (by omega)]
  cases L with
  |nil=>simp [zAo,Lp.elim]
  |cons h t=>
   have hlt:=zIJ (K:=K) (L:=h::t) rfl
   have ih:=zF9 hJ n (zEY K (h::t)) (out++[zE1 K (h::t)]) (zEH h1) (by omega) (by simp at h3 hlt ⊢; omega)
   rw [if_neg (by simp)]
   simp only [Option.bind_some,Lp.elim]
   unfold zCF at ih
   rw [ih]
   simp [zAo]
theorem zGd {α:Type} (q:α→Bool):∀l:List α,(l.filter q).length +(l.filter fun x=> !(q x)).length =l.length
 |[]=>rfl
 |x::l=>by
  have:=zGd q l
  cases h:q x<;>simp [h]<;>omega
theorem ranged {K:ByteArray→ByteArray→Bool} {c:List Pack} {a b:List Int} (hK:∀x y,wZ c a b x y=some (K x y)) {s1:List (List ByteArray)×List ByteArray} {left part:List ByteArray} {i:Nat} (hi:i<part.length) (hl:left.length+part.length≤500):
  zBH c a b s1 (left,part,(i:Int)) (part,([]:List ByteArray),0)=some (part++left.filter (K part[i]),left.filter fun y=> !(K part[i] y)):=by
 obtain ⟨t,e,rfl⟩:=vI (b:=zCy c a b s1 (left,part,(i:Int))) (fun k s=>s=(part++(left.take k).filter (K part[i]),(left.take k).filter (fun y=> !(K part[i] y)),(k:Int))) left.length
  (fun t=>t=(part++left.filter (K part[i]),left.filter fun y=> !(K part[i] y))) (by
  rintro k s hk rfl
  have hf:=zGd (K part[i]) (left.take k)
  have htk:(left.take k).length ≤k:=by simp; omega
  refine .inl ⟨(part++(left.take (k+1)).filter (K part[i]),(left.take (k+1)).filter (fun y=> !(K part[i] y)),((k+1:Nat):Int)),?_,rfl⟩
  unfold zCy
  simp only
  rw [if_pos (by simp; omega),zI hk]
  simp only [Option.bind_some]
  have hix:idx (part++(left.take k).filter (K part[i])) (i:Int)=some part[i]:=by
   rw [zI (by simp; omega),List.getElem_append_left hi]
  rw [hix]
  simp only [Option.bind_some]
  rw [hK,zM (by omega),uH (by simp at hf htk ⊢; omega) (by simp at hf htk ⊢; omega),uH (by simp at hf htk ⊢; omega) (by simp at hf htk ⊢; omega)]
  simp only [Option.bind_some]
  rw [List.take_succ_eq_append_getElem hk,List.filter_append,List.filter_append]
  cases hj:K part[i] left[k]<;>simp [hj]) (by
  rintro s rfl
  rw [List.take_length]
  unfold zCy
  rw [if_neg (by simp)]
  exact ⟨_,rfl,rfl⟩) left.length 0 (part,([]:List ByteArray),0) (by omega) (by simp)
 unfold zBH
 exact e
theorem zOi {K:ByteArray→ByteArray→Bool} {c:List Pack} {a b:List Int} (hK:∀x y,wZ c a b x y=some (K x y)) {out:List (List ByteArray)} {h:ByteArray} {t:List ByteArray} (hl:t.length≤500):
  zBA c a b (out,h::t) t ([h],([]:List ByteArray),0)=some (h::t.filter (K h),t.filter fun y=> !(K h y)):=by
 obtain ⟨r,e,rfl⟩:=vI (b:=zCm c a b (out,h::t) t) (fun k s=>s=(h::(t.take k).filter (K h),(t.take k).filter (fun y=> !(K h y)),(k:Int))) t.length
  (fun r=>r=(h::t.filter (K h),t.filter fun y=> !(K h y))) (by
  rintro k s hk rfl
  have hf:=zGd (K h) (t.take k)
  have htk:(t.take k).length ≤k:=by simp; omega
  refine .inl ⟨(h::(t.take (k+1)).filter (K h),(t.take (k+1)).filter (fun y=> !(K h y)),((k+1:Nat):Int)),?_,rfl⟩
  unfold zCm
  simp only
  have ho:zK0 (h::t) 1 t.length (k:Int)=some t[k]:=by
   unfold zK0
   rw [if_pos (by omega),show (1:Int)+(k:Int)=((k+1:Nat):Int) by omega,zI (by simp; omega)]
   simp
  rw [if_pos (by simp; omega),ho]
  simp only [Option.bind_some]
  rw [show idx (h::(t.take k).filter (K h)) 0=some h from rfl]
  simp only [Option.bind_some]
  rw [hK,zM (by omega),uH (by simp at hf htk ⊢; omega) (by simp at hf htk ⊢; omega),uH (by simp at hf htk ⊢; omega) (by simp at hf htk ⊢; omega)]
  simp only [Option.bind_some]
  rw [List.take_succ_eq_append_getElem hk,List.filter_append,List.filter_append]
  cases hj:K h t[k]<;>simp [hj]) (by
  rintro s rfl
  rw [List.take_length]
  unfold zCm
  rw [if_neg (by simp)]
  exact ⟨_,rfl,rfl⟩) t.length 0 ([h],([]:List ByteArray),0) (by omega) (by simp)
 unfold zBA
 exact e
theorem zMa {K:ByteArray→ByteArray→Bool} {c:List Pack} {a b:List Int} (hK:∀x y,wZ c a b x y=some (K x y)) {s1:List (List ByteArray)×List ByteArray} {L:List ByteArray} {h:ByteArray} {t:List ByteArray} (e0:L=h::t) (hL:L.Pairwise ltS) (hl:L.length≤250):
  ∃r,zB2 c a b s1 (t.filter (fun y=> !(K h y)),h::t.filter (K h),((1:Nat):Int))=some (zEY K L,r)∧uZ r=some (zE1 K L):=by
 have nd:∀{l:List ByteArray},l.Pairwise ltS→l.Nodup:=fun h=>h.imp fun h=>zJs h
 have hLn:=nd hL
 have hLn':=hLn
 rw [e0,List.nodup_cons] at hLn'
 obtain ⟨⟨l,r⟩,e,q1,q2,q3⟩:=zHD (b:=zD3 c a b s1)
  (fun s=>∃n:Nat,s.2.2=(n:Int)∧n≤s.2.1.length∧s.2.1.Nodup∧(∀x∈s.2.1,Rch K L h x)∧h∈s.2.1∧s.1.Sublist L∧(∀x,x∈L↔x∈s.2.1∨x∈s.1)∧(∀x∈s.2.1,x∉s.1)∧s.2.1.length+s.1.length=L.length∧∀(j:Nat) (hj:j<s.2.1.length),j<n→∀y∈s.1,K s.2.1[j] y=false)
  (fun s=>L.length+1-s.2.2.toNat) (fun t=>t.1=zEY K L∧(∀x,x∈t.2↔Rch K L h x)∧t.2.length≤L.length) (by
  rintro ⟨left,part,i⟩ ⟨n,hi,h1,h2,h3,h4,h5,h6,h7,h8,h9⟩
  simp only at hi h1 h2 h3 h4 h5 h6 h7 h8 h9
  subst hi
  unfold zD3
  simp only
  by_cases hn:n<part.length
  ·rw [if_pos (by simp; omega),ranged hK hn (by omega),zM (by omega)]
   simp only [Option.bind_some]
   have hf:=zGd (K part[n]) left
   refine .inl ⟨_,rfl,⟨n+1,rfl,by simp; omega,?_,?_,List.mem_append_left _ h4,(List.filter_sublist).trans h5,?_,?_,by simp at hf ⊢; omega,?_⟩,by simp; omega⟩
   ·refine List.nodup_append.2 ⟨h2,((h5.nodup hLn).filter _),fun x hx y hy e=>?_⟩
    subst e
    exact h7 x hx (List.mem_filter.1 hy).1
   ·intro x hx
    rcases List.mem_append.1 hx with hx|hx
    ·exact h3 x hx
    ·obtain ⟨q1,q2⟩:=List.mem_filter.1 hx
     exact .step (h3 _ (List.getElem_mem hn)) ((h6 x).2 (.inr q1)) q2
   ·intro x
    rw [h6,List.mem_append,List.mem_filter,List.mem_filter]
    cases hq:K part[n] x<;>simp
   ·intro x hx
    simp only [List.mem_filter,not_and]
    rcases List.mem_append.1 hx with hx|hx
    ·exact fun h=>absurd h (h7 x hx)
    ·intro _
     rw [(List.mem_filter.1 hx).2]
     simp
   ·intro j hj hjn y hy
    obtain ⟨q1,q2⟩:=List.mem_filter.1 hy
    rcases Nat.lt_succ_iff_lt_or_eq.1 hjn with q|q
    ·rw [List.getElem_append_left (by omega)]
     exact h9 j (by omega) q y q1
    ·subst q
     rw [List.getElem_append_left hn]
     simpa using q2
  ·rw [if_neg (by simp; omega)]
   refine .inr ⟨_,rfl,?_,?_,by simp only; omega⟩
   ·have hmem:∀x,x∈part↔Rch K L h x:=by
     intro x
     refine ⟨h3 x,fun hr=>?_⟩
     induction hr with
     |base=>exact h4
     |step _ hy hj ih=>
      rcases (h6 _).1 hy with q|q
      ·exact q
      ·obtain ⟨j,hjl,rfl⟩:=List.getElem_of_mem ih
       rw [h9 j hjl (by omega) _ q] at hj
       cases hj
    refine zCZ (hL.sublist h5) (zEH hL) fun x=>?_
    rw [zFc e0,←hmem,h6]
    constructor
    ·exact fun q=>⟨.inr q,fun q2=>h7 x q2 q⟩
    ·rintro ⟨q|q,q2⟩
     ·exact absurd q q2
     ·exact q
   ·intro x
    refine ⟨h3 x,fun hr=>?_⟩
    induction hr with
    |base=>exact h4
    |step _ hy hj ih=>
     rcases (h6 _).1 hy with q|q
     ·exact q
     ·obtain ⟨j,hjl,rfl⟩:=List.getElem_of_mem ih
      have hjl':j<part.length:=hjl
      rw [h9 j hjl' (by omega) _ q] at hj
      cases hj) _ (t.filter (fun y=> !(K h y)),h::t.filter (K h),((1:Nat):Int)) (Nat.le_refl _) (by
  have hf:=zGd (K h) t
  refine ⟨1,rfl,by simp,?_,?_,by simp,?_,?_,?_,by rw [e0]; simp at hf ⊢; omega,?_⟩
  ·exact List.nodup_cons.2 ⟨fun hx=>hLn'.1 (List.mem_filter.1 hx).1,hLn'.2.filter _⟩
  ·intro x hx
   rcases List.mem_cons.1 hx with rfl|hx
   ·exact .base
   ·obtain ⟨q1,q2⟩:=List.mem_filter.1 hx
    exact .step .base (by rw [e0]; simp [q1]) q2
  ·rw [e0]
   exact (List.filter_sublist).cons _
  ·intro x
   rw [e0,List.mem_cons,List.mem_cons,List.mem_filter,List.mem_filter]
   cases hq:K h x<;>simp
  ·intro x hx
   simp only [List.mem_filter,not_and]
   rcases List.mem_cons.1 hx with rfl|hx
   ·exact fun h=>absurd h hLn'.1
   ·intro _
    rw [(List.mem_filter.1 hx).2]
    simp
  ·intro j hj hj1 y hy
   have:j=0:=by omega
   subst this
   have:=(List.mem_filter.1 hy).2
   simpa using this)
 simp only at q1 q2 q3
 subst q1
 refine ⟨r,by unfold zB2; exact e,?_⟩
 obtain ⟨w,w1,w2,w3⟩:=zFF r (by omega)
 rw [w1]
 congr 1
 exact zCZ w2 (zGH hL) fun x=>by rw [w3,q2,zEn e0]
theorem zF1 {K:ByteArray→ByteArray→Bool} {c:List Pack} {a b:List Int} (hK:∀x y,wZ c a b x y=some (K x y)) {L:List ByteArray} {out:List (List ByteArray)} (hL:L.Pairwise ltS) (hl:L.length≤250) (ho:out.length≤500):
  zCq c a b (out,L)=some (if L=[] then .done out else .go (out++[zE1 K L],zEY K L)):=by
 cases L with
 |nil=>
  unfold zCq
  rw [if_neg (by simp),if_pos rfl]
 |cons h t=>
  have e1:zEE (h::t) 0 1=some [h]:=by
   have:=zEq (xs:=h::t) (l:=0) (h:=1) (by omega) (by simp)
   simpa using this
  have e2:zEE (h::t) 1 ((h::t).length :Int)=some t:=by
   have:=zEq (xs:=h::t) (l:=1) (h:=(h::t).length) (by simp) (Nat.le_refl _)
   simpa using this
  unfold zCq
  rw [if_pos (by simp),if_neg (by simp)]
  simp only
  rw [e1]
  simp only [Option.bind_some]
  rw [e2]
  simp only [Option.bind_some]
  rw [if_pos (by simp),zOi hK (by simp at hl; omega)]
  simp only [Option.bind_some]
  rw [show w64 (0+1)=((1:Nat):Int) by rw [kG (by omega) (by omega)]; rfl]
  obtain ⟨r,f1,f2⟩:=zMa hK (s1:=(out,h::t)) (L:=h::t) rfl hL hl
  rw [f1]
  simp only [Option.bind_some]
  rw [f2]
  simp only [Option.bind_some]
  rw [uH (by simp; omega) (by simp; omega)]
  rfl
theorem zF7 {K:ByteArray→ByteArray→Bool} {c:List Pack} {a b:List Int} (hK:∀x y,wZ c a b x y=some (K x y)):∀(n:Nat) (L:List ByteArray) (out:List (List ByteArray)),L.Pairwise ltS→L.length≤n→L.length+out.length≤250→kU c a b (out,L)=some (out++zAo K n L)
 |0,L,out,h1,h2,h3=>by
  have:L=[]:=List.length_eq_zero_iff.1 (by omega)
  subst this
  unfold kU
  rw [uF,zF1 hK h1 (by simp) (by omega)]
  simp [zAo,Lp.elim]
 |n+1,L,out,h1,h2,h3=>by
  unfold kU
  rw [uF,zF1 hK h1 (by omega) (by omega)]
  cases L with
  |nil=>simp [zAo,Lp.elim]
  |cons h t=>
   have hlt:=zIJ (K:=K) (L:=h::t) rfl
   have ih:=zF7 hK n (zEY K (h::t)) (out++[zE1 K (h::t)]) (zEH h1) (by omega) (by simp at h3 hlt ⊢; omega)
   rw [if_neg (by simp)]
   simp only [Option.bind_some,Lp.elim]
   unfold kU at ih
   rw [ih]
   simp [zAo]
noncomputable def chL (c:List Pack) (a b:List Int):List ByteArray:=(zAY c a b).getD []
noncomputable def zC6 (c:List Pack) (a b:List Int):List (List ByteArray):=zAo (jB c a b) 24 (chL c a b)
theorem zHg {c:List Pack} {a b:List Int} (h:Two c a b):zEl c a b=some (chL c a b)∧zAY c a b=some (chL c a b)∧(chL c a b).Pairwise ltS∧(∀n,n∈chL c a b↔zD9 c a n≠zD9 c b n)∧(chL c a b).length ≤24:=by
 obtain ⟨l,e1,e2,h1,h2,h3⟩:=zJo h
 have:chL c a b=l:=by unfold chL; rw [e2]; rfl
 rw [this]
 exact ⟨e1,e2,h1,h2,h3⟩
theorem zG3 {c:List Pack} {a b:List Int} (h:Two c a b):zGG c a b=some (zC6 c a b)∧kM c a b=some (zC6 c a b):=by
 obtain ⟨e1,e2,h1,_,h3⟩:=zHg h
 constructor
 ·unfold zGG
  rw [e1]
  simp only [Option.bind_some]
  rw [zF9 (fun x y=>(zHs h x y).1) 24 _ _ h1 h3 (by simp; omega)]
  rfl
 ·unfold kM
  rw [e2]
  simp only [Option.bind_some]
  rw [zF7 (fun x y=>(zHs h x y).2) 24 _ _ h1 h3 (by simp; omega)]
  rfl
def cmpL:List ByteArray→List ByteArray→Int
 |[],[]=>0
 |[],_::_=> -1
 |_::_,[]=>1
 |x::xs,y::ys=>if slt x y then-1 else if seq x y then cmpL xs ys else 1
theorem zOq (x y:ByteArray):jP x y=some (if slt x y then-1 else if seq x y then 0 else 1):=by
 unfold jP cmp_isNaN_string
 simp only [zGZ,Bool.not_true,Option.bind_some,Bool.false_eq_true,if_false]
 cases slt x y<;>cases seq x y<;>rfl
theorem zL7 (a b:List ByteArray) (ha:a.length≤1048576) (hb:b.length≤1048576):uE a b=some (cmpL a b):=by
 obtain ⟨t,e,ht⟩:=vI (b:=uQ a b) (fun i s=>s=(i:Int)∧i≤b.length∧cmpL a b=cmpL (a.drop i) (b.drop i)) a.length
  (fun t=>match t with| .ret r=>r=cmpL a b| .nxt _=>cmpL a b=if a.length<b.length then-1 else 0) (by
  rintro i s hi ⟨rfl,hib,hc⟩
  unfold uQ
  rw [if_pos (by simp; omega),zI hi]
  simp only [Option.bind_some]
  rw [List.drop_eq_getElem_cons hi] at hc
  by_cases hlt:i<b.length
  ·rw [if_neg (by simp; omega),zI hlt]
   simp only [Option.bind_some]
   rw [zOq,zM (by omega)]
   rw [List.drop_eq_getElem_cons hlt] at hc
   simp only [cmpL] at hc
   simp only [Option.bind_some]
   cases h1:slt a[i] b[i]
   ·rw [h1] at hc
    cases h2:seq a[i] b[i]
    ·rw [h2] at hc
     exact .inr ⟨_,rfl,by simpa using hc.symm⟩
    ·rw [h2] at hc
     exact .inl ⟨_,rfl,rfl,by omega,by simpa using hc⟩
   ·rw [h1] at hc
    exact .inr ⟨_,rfl,by simpa using hc.symm⟩
  ·have:i=b.length:=by omega
   subst this
   rw [if_pos (by simp)]
   rw [List.drop_length] at hc
   exact .inr ⟨_,rfl,by simpa [cmpL] using hc.symm⟩) (by
  rintro s ⟨rfl,hib,hc⟩
  unfold uQ
  rw [if_neg (by simp)]
  refine ⟨_,rfl,?_⟩
  rw [List.drop_length] at hc
  simp only
  rw [hc]
  by_cases hlt:a.length<b.length
  ·rw [if_pos hlt,List.drop_eq_getElem_cons hlt]
   rfl
  ·have:a.length=b.length:=by omega
   rw [if_neg hlt,this,List.drop_length]
   rfl) a.length 0 0 (by omega) ⟨rfl,by omega,by simp⟩
 unfold uE tN
 rw [e]
 cases t with
 |ret r=>simp only at ht; subst ht; rfl
 |nxt _=>
  simp only at ht
  rw [ht]
  simp only [Fl.go,Option.bind_some]
  by_cases hlt:a.length<b.length
  ·rw [if_pos (by simpa using hlt),if_pos hlt]
  ·rw [if_neg (by simpa using hlt),if_neg hlt]
theorem zIR:∀x:List ByteArray,cmpL x x=0
 |[]=>rfl
 |x::xs=>by simp [cmpL,zDd,zIR xs]
theorem zKT:∀x y:List ByteArray,cmpL y x= -cmpL x y
 |[],[]=>rfl
 |[],_::_=>rfl
 |_::_,[]=>rfl
 |x::xs,y::ys=>by
  simp only [cmpL]
  have ih:=zKT xs ys
  cases h1:slt x y
  ·cases h2:slt y x
   ·have e:x=y:=Classical.byContradiction fun hne=>by
     have:=zHi h2 (Ne.symm hne)
     rw [h1] at this
     cases this
    subst e
    simp [ih]
   ·have h3:seq x y=false:=by
     cases h3:seq x y with
     |false=>rfl
     |true=>rw [zDT.1 h3,zDd] at h2; cases h2
    simp [h3]
  ·rw [zIZ h1]
   have h3:seq y x=false:=by
    cases h3:seq y x with
    |false=>rfl
    |true=>rw [zDT.1 h3,zDd] at h1; cases h1
   simp [h3]
theorem cmpL_eq:∀{x y:List ByteArray},cmpL x y=0→x=y
 |[],[],_=>rfl
 |[],_::_,h=>by simp [cmpL] at h
 |_::_,[],h=>by simp [cmpL] at h
 |x::xs,y::ys,h=>by
  simp only [cmpL] at h
  cases h1:slt x y
  ·rw [h1] at h
   cases h2:seq x y
   ·rw [h2] at h; simp at h
   ·rw [h2] at h
    have e:=cmpL_eq (x:=xs) (y:=ys) (by simpa using h)
    rw [zDT.1 h2,e]
  ·rw [h1] at h; simp at h
theorem zIz:∀{x y z:List ByteArray},cmpL x y<0→cmpL y z<0→cmpL x z<0
 |[],[],_,h,_=>by simp [cmpL] at h
 |[],_::_,[],_,h=>by simp [cmpL] at h
 |[],_::_,_::_,_,_=>by simp [cmpL]
 |_::_,[],_,h,_=>by simp [cmpL] at h
 |_::_,_::_,[],_,h=>by simp [cmpL] at h
 |x::xs,y::ys,z::zs,h,h'=>by
  simp only [cmpL] at h h' ⊢
  cases h1:slt x y
  ·rw [h1] at h
   cases h2:seq x y
   ·rw [h2] at h; simp at h
   ·rw [h2] at h
    have e:=zDT.1 h2
    subst e
    cases h3:slt x z
    ·rw [h3] at h'
     cases h4:seq x z
     ·rw [h4] at h'; simp at h'
     ·rw [h4] at h'
      simp at h h' ⊢
      exact zIz h h'
    ·simp
  ·cases h3:slt y z
   ·rw [h3] at h'
    cases h4:seq y z
    ·rw [h4] at h'; simp at h'
    ·rw [←zDT.1 h4,h1]; simp
   ·rw [zED h1 h3]; simp
def zEF (x y:List ByteArray):Int:=if x.length≠y.length then (x.length:Int)-y.length else cmpL x y
theorem zNN (a b:List ByteArray) (ha:a.length≤1048576) (hb:b.length≤1048576):wV a b=some (zEF a b):=by
 unfold wV zEF
 by_cases h:a.length=b.length
 ·rw [if_neg (by simp [h]),zL7 a b ha hb,if_neg (by simp [h])]
  rfl
 ·rw [if_pos (by simp; omega),if_pos h,kG (by omega) (by omega)]
theorem zIh (x:List ByteArray):zEF x x=0:=by simp [zEF,zIR]
theorem zGs (x y:List ByteArray):zEF y x= -zEF x y:=by
 unfold zEF
 by_cases h:x.length=y.length
 ·rw [if_neg (by simp [h]),if_neg (by simp [h]),zKT]
 ·rw [if_pos (fun e=>h e.symm),if_pos h]; omega
theorem zHh {x y:List ByteArray} (h:zEF x y=0):x=y:=by
 unfold zEF at h
 split at h
 ·omega
 ·exact cmpL_eq h
theorem zHw {x y z:List ByteArray} (h1:zEF x y<0) (h2:zEF y z<0):zEF x z<0:=by
 unfold zEF at*
 by_cases e1:x.length=y.length
 ·rw [if_neg (by simp [e1])] at h1
  by_cases e2:y.length=z.length
  ·rw [if_neg (by simp [e2])] at h2
   rw [if_neg (by simp [e1,e2])]
   exact zIz h1 h2
  ·rw [if_pos e2] at h2
   rw [if_pos (by omega)]
   omega
 ·rw [if_pos e1] at h1
  by_cases e2:y.length=z.length
  ·rw [if_pos (by omega)]
   omega
  ·rw [if_pos e2] at h2
   rw [if_pos (by omega)]
   omega
theorem zGc {x y:List ByteArray} (hx:x.length≤1048576) (hy:y.length≤1048576):ltC wV x y=decide (zEF x y<0):=by
 unfold ltC
 rw [zNN x y hx hy]
theorem zMv {xs ys:List (List ByteArray)} (hx:∀x∈xs,x.length≤1048576) (hp:ys.Perm xs) (hs:ys.Pairwise (fun x y=>zEF x y<0)) (hl:xs.length<4611686018427387904):zJd wV xs=some ys:=by
 have hnd:ys.Nodup:=hs.imp fun h e=>by subst e; rw [zIh] at h; omega
 have hC:CmpOn wV xs:=by
  refine ⟨fun x h1 y h2=>by rw [zNN _ _ (hx x h1) (hx y h2)]; rfl,fun x h1=>?_,fun x h1 y h2 z h3 h4 h5=>?_,fun x h1 y h2 h3 h4=>?_,hp.nodup_iff.1 hnd,hl⟩
  ·rw [zGc (hx x h1) (hx x h1),zIh]; rfl
  ·rw [zGc (hx _ h1) (hx _ h2)] at h4
   rw [zGc (hx _ h2) (hx _ h3)] at h5
   rw [zGc (hx _ h1) (hx _ h3)]
   simp only [decide_eq_true_eq] at h4 h5 ⊢
   exact zHw h4 h5
  ·rw [zGc (hx _ h1) (hx _ h2)] at h3
   rw [zGc (hx _ h2) (hx _ h1)] at h4
   simp only [decide_eq_false_iff_not] at h3 h4
   have:=zGs x y
   exact zHh (by omega)
 unfold zJd
 rw [if_pos hC]
 congr 1
 have hle:∀x∈xs,∀y∈xs,(!(ltC wV y x))=decide (zEF x y≤0):=fun x h1 y h2=>by
  rw [zGc (hx y h2) (hx x h1)]
  have:=zGs x y
  rw [Bool.eq_iff_iff]
  simp only [Bool.not_eq_true',decide_eq_false_iff_not,decide_eq_true_eq]
  omega
 have hm:(xs.mergeSort fun x y=> !(ltC wV y x))=xs.mergeSort fun x y=>decide (zEF x y≤0):=by
  have:=List.map_mergeSort (f:=fun x:List ByteArray=>x) (r:=fun x y=> !(ltC wV y x)) (s:=fun x y=>decide (zEF x y≤0)) (l:=xs) hle
  simpa using this
 rw [hm]
 have hpw:=List.pairwise_mergeSort (le:=fun x y:List ByteArray=>decide (zEF x y≤0)) (by
  intro x y z h1 h2
  simp only [decide_eq_true_eq] at h1 h2 ⊢
  rcases Int.lt_or_eq_of_le h1 with q1|q1
  ·rcases Int.lt_or_eq_of_le h2 with q2|q2
   ·exact Int.le_of_lt (zHw q1 q2)
   ·rw [←zHh q2]; exact h1
  ·rw [zHh q1]; exact h2) (by
  intro x y
  have:=zGs x y
  simp
  omega) xs
 refine List.Perm.eq_of_pairwise (le:=fun x y=>zEF x y≤0) ?_ (hpw.imp fun h=>by simpa using h) (hs.imp fun h=>Int.le_of_lt h) ((List.mergeSort_perm _ _).trans hp.symm)
 intro x y _ _ h1 h2
 have:=zGs x y
 exact zHh (by omega)
def zOH (n m:Nat):List Nat:=(List.range n).filter fun j=>m / 2^(n-1-j)%2==1
def zK7 (n m:Nat):List Nat:=(List.range n).filter fun j=>m / 2^j%2==1
def SLi (n:Nat):List (List Nat):=(List.range (n-1)).flatMap fun s=>((List.range (2^n-1)).map fun i=>zOH n (2^n-1-i)).filter fun p=>p.length==s+1
def ILi (n:Nat):List (List Nat):=(List.range (2^n-2)).map fun i=>zK7 n (i+1)
def zPz:List Nat→List Nat→Int
 |[],[]=>0
 |[],_::_=> -1
 |_::_,[]=>1
 |x::xs,y::ys=>if x<y then-1 else if x=y then zPz xs ys else 1
def zOe (x y:List Nat):Int:=if x.length≠y.length then (x.length:Int)-y.length else zPz x y
theorem zKF:∀n:Fin 7,((SLi n.1).isPerm (ILi n.1))=true:=by decide+kernel
theorem zLm:∀n:Fin 7,(SLi n.1).Pairwise (fun x y=>zOe x y<0):=by decide+kernel
theorem zNL:∀n:Fin 7,∀p∈SLi n.1,p.Pairwise (· < ·)∧p≠[]∧∀j∈p,j<n.1:=by decide+kernel
def atN (ns:List ByteArray) (p:List Nat):List ByteArray:=p.map fun j=>ns.getD j ByteArray.empty
theorem zFJ (ns:List ByteArray) (p:List Nat):(atN ns p).length =p.length:=by simp [atN]
theorem getD_at {ns:List ByteArray} {j:Nat} (h:j<ns.length):ns.getD j ByteArray.empty=ns[j]:=by simp [List.getD,h]
theorem zKz {ns:List ByteArray} (hs:ns.Pairwise ltS):∀{p q:List Nat},(∀j∈p,j<ns.length)→(∀j∈q,j<ns.length)→cmpL (atN ns p) (atN ns q)=zPz p q
 |[],[],_,_=>rfl
 |[],_::_,_,_=>rfl
 |_::_,[],_,_=>rfl
 |x::xs,y::ys,hp,hq=>by
  have hx:=hp x (by simp)
  have hy:=hq y (by simp)
  have ih:=zKz hs (p:=xs) (q:=ys) (fun j hj=>hp j (by simp [hj])) (fun j hj=>hq j (by simp [hj]))
  have hpw:=List.pairwise_iff_getElem.1 hs
  show cmpL (ns.getD x ByteArray.empty::atN ns xs) (ns.getD y ByteArray.empty::atN ns ys)=_
  rw [getD_at hx,getD_at hy]
  simp only [cmpL,zPz]
  rw [ih]
  rcases Nat.lt_trichotomy x y with h|h|h
  ·have h0:slt ns[x] ns[y]=true:=hpw x y hx hy h
   simp [h,h0]
  ·subst h
   simp [zDd]
  ·have h1:slt ns[y] ns[x]=true:=hpw y x hy hx h
   have h2:=zIZ h1
   have h3:seq ns[x] ns[y]=false:=by
    cases h3:seq ns[x] ns[y] with
    |false=>rfl
    |true=>rw [zDT.1 h3,zDd] at h1; cases h1
   have n1:¬x<y:=by omega
   have n2:¬x=y:=by omega
   simp [h2,h3,n1,n2]
theorem zMs {ns:List ByteArray} (hs:ns.Pairwise ltS) {p q:List Nat} (hp:∀j∈p,j<ns.length) (hq:∀j∈q,j<ns.length):zEF (atN ns p) (atN ns q)=zOe p q:=by
 unfold zEF zOe
 rw [zFJ,zFJ,zKz hs hp hq]
theorem zM2 {ns:List ByteArray} {p:List Nat} (hp:∀j∈p,j<ns.length):∀x∈atN ns p,x∈ns:=by
 intro x hx
 obtain ⟨j,hj,rfl⟩:=List.mem_map.1 hx
 rw [getD_at (hp j hj)]
 exact List.getElem_mem _
theorem zLC {ns:List ByteArray} (hs:ns.Pairwise ltS) {p:List Nat} (hp:∀j∈p,j<ns.length) (hl:p.Pairwise (· < ·)):(atN ns p).Pairwise ltS:=by
 refine List.pairwise_map.2 (List.Pairwise.imp_of_mem (fun {x y} hx hy h=>?_) hl)
 rw [getD_at (hp x hx),getD_at (hp y hy)]
 exact List.pairwise_iff_getElem.1 hs x y (hp x hx) (hp y hy) h
theorem and1:∀m:Fin 64,zPk .i64 (m.1:Int) 1=((m.1%2:Nat):Int):=by decide+kernel
theorem zQq:∀(m:Fin 64) (k:Fin 7),zPa .i64 (m.1:Int) (k.1:Int)=some ((m.1 / 2^k.1:Nat):Int):=by decide+kernel
theorem zQs:∀n:Fin 7,zOX .i64 1 (n.1:Int)=some ((2^n.1:Nat):Int):=by decide+kernel
theorem zON {m k:Nat} (hm:m<64) (hk:k<7):∃x,zPa .i64 (m:Int) (k:Int)=some x∧((zPk .i64 x 1)==1)=(m / 2^k%2==1):=by
 refine ⟨_,zQq ⟨m,hm⟩ ⟨k,hk⟩,?_⟩
 have h64:m / 2^k<64:=Nat.lt_of_le_of_lt (Nat.div_le_self _ _) hm
 rw [and1 ⟨m / 2^k,h64⟩]
 rw [Bool.eq_iff_iff,beq_iff_eq,beq_iff_eq]
 simp only
 omega
theorem zLh {c:List Pack} {a b:List Int} {ns:List ByteArray} (hn:ns.length≤6) {m:Nat} (hm:m<64) (out:List (List ByteArray)):zAw c a b ns (out,(m:Int)) (([]:List ByteArray),0)=some (atN ns (zK7 ns.length m)):=by
 obtain ⟨t,e,rfl⟩:=vI (b:=zBg c a b ns (out,(m:Int))) (fun i s=>s=(atN ns ((List.range i).filter fun j=>m / 2^j%2==1),(i:Int))) ns.length (fun t=>t=atN ns (zK7 ns.length m)) (by
  rintro i s hi rfl
  refine .inl ⟨_,?_,rfl⟩
  obtain ⟨x,h1,h2⟩:=zON hm (k:=i) (by omega)
  have hlen:(atN ns ((List.range i).filter fun j=>m / 2^j%2==1)).length ≤i:=by
   rw [zFJ]
   have:=List.length_filter_le (fun j=>m / 2^j%2==1) (List.range i)
   simpa using this
  unfold zBg
  simp only
  rw [if_pos (by simp; omega),zI hi]
  simp only [Option.bind_some]
  rw [h1]
  simp only [Option.bind_some]
  rw [h2,zM (by omega),uH (by simp at hlen ⊢; omega) (by simp at hlen ⊢; omega)]
  simp only [Option.bind_some]
  rw [List.range_succ,List.filter_append,List.filter_cons,List.filter_nil]
  cases (m / 2^i%2==1)
  ·simp
  ·simp [atN,hi]) (by
  rintro s rfl
  unfold zBg
  rw [if_neg (by simp)]
  exact ⟨_,rfl,rfl⟩) ns.length 0 (([]:List ByteArray),0) (by omega) (by simp [atN])
 unfold zAw
 exact e
noncomputable def zGR (c:List Pack) (a b:List Int) (p:List ByteArray):Bool:=((zCG c (mvL c a b p)).length :Int)==0
def SLn (ns:List ByteArray):List (List ByteArray):=(SLi ns.length).map (atN ns)
noncomputable def nxB (c:List Pack) (a b:List Int) (ns:List ByteArray):List ByteArray:=if ns.length>6 then ns else ((SLn ns).find? (zGR c a b)).getD ns
theorem zIF {c:List Pack} {a b:List Int} (hC:Cat c) (h0:CF c=0) (h:Two c a b) {p:List ByteArray} (hp:p.length≤24):
  jZ c a b p=some (mvL c a b p)∧zAx p c a b=some (zGR c a b p)∧zAF p c a b=some (zGR c a b p):=by
 have hc:=h.sml.len
 have la:=h.la
 have lb:=h.lb
 have hm:=zG0 c a b p
 have e:=zIy h.pa h.pb h.sa h.sb (by omega) (by omega) (show p.length≤1048576 by omega)
 have key:∀{o:Option Bool},o=(if decide ((p.length:Int)≤24) then (jZ c a b p).bind fun x6=>(xQ c x6).bind fun x8=>some x8 else some false)→o=some (zGR c a b p):=by
  intro o ho
  have hS:(SF c (mvL c a b p)==0)=true:=by
   unfold SF
   rw [h0,zEB.2 ⟨zFt _ _ _ _,zFd _ _ _ _⟩]
   rfl
  rw [ho,if_pos (by simp; omega),e]
  simp only [Option.bind_some]
  rw [zCW hC (by omega) hS]
  unfold zNE zGR
  rw [hS]
  rfl
 exact ⟨e,key rfl,key rfl⟩
theorem zLx {c:List Pack} {a b:List Int} {ns:List ByteArray} (hn:ns.length≤6):zAy c a b ns (([]:List (List ByteArray)),1)=some ((ILi ns.length).map (atN ns)):=by
 have h64:2^ns.length≤64:=Nat.pow_le_pow_right (by omega) hn
 have h1:1≤2^ns.length:=Nat.one_le_two_pow
 have hw:(zOX .i64 1 (ns.length:Int))=some ((2^ns.length:Nat):Int):=zQs ⟨ns.length,by omega⟩
 have hw2:w64 (((2^ns.length:Nat):Int)-1)=((2^ns.length-1:Nat):Int):=by
  rw [kG (by omega) (by omega)]; omega
 obtain ⟨t,e,rfl⟩:=vI (b:=zBd c a b ns) (fun i x=>x=(((List.range i).map fun i=>zK7 ns.length (i+1)).map (atN ns),((i+1:Nat):Int))) (2^ns.length-2)
  (fun t=>t=(ILi ns.length).map (atN ns)) (by
  rintro i x hi rfl
  refine .inl ⟨_,?_,rfl⟩
  unfold zBd
  rw [hw]
  simp only [Option.bind_some]
  rw [hw2,if_pos (by simp; omega),zLh hn (by omega)]
  simp only [Option.bind_some]
  rw [uH (by simp; omega) (by simp; omega),zM (by omega)]
  simp only [Option.bind_some]
  rw [List.range_succ,List.map_append,List.map_append]
  rfl) (by
  rintro x rfl
  unfold zBd
  rw [hw]
  simp only [Option.bind_some]
  rw [hw2,if_neg (by simp; omega)]
  exact ⟨_,rfl,rfl⟩) (2^ns.length-2) 0 (([]:List (List ByteArray)),1) (by omega) (by simp)
 unfold zAy
 exact e
theorem zJW {ns:List ByteArray} (hn:ns.length≤6) (hs:ns.Pairwise ltS) {p:List ByteArray} (hp:p∈SLn ns):p≠[]∧p.Pairwise ltS∧(∀x∈p,x∈ns)∧p.length≤1048576:=by
 obtain ⟨q,hq,rfl⟩:=List.mem_map.1 hp
 obtain ⟨h1,h2,h3⟩:=zNL ⟨ns.length,by omega⟩ q hq
 have hsort:=zLC hs h3 h1
 refine ⟨fun e=>?_,hsort,zM2 h3,?_⟩
 ·have:=zFJ ns q
  rw [e] at this
  exact h2 (List.length_eq_zero_iff.1 this.symm)
 ·have:=zG7 hsort hs (zM2 h3)
  omega
theorem zJu {ns:List ByteArray} (hn:ns.length≤6) (hs:ns.Pairwise ltS):zJd wV ((ILi ns.length).map (atN ns))=some (SLn ns):=by
 have hperm:(SLi ns.length).Perm (ILi ns.length):=List.isPerm_iff.1 (zKF ⟨ns.length,by omega⟩)
 have hlt:=zNL ⟨ns.length,by omega⟩
 have hp:(SLn ns).Perm ((ILi ns.length).map (atN ns)):=hperm.map _
 refine zMv (fun x hx=>(zJW hn hs (hp.mem_iff.2 hx)).2.2.2) hp ?_ ?_
 ·refine List.pairwise_map.2 (List.Pairwise.imp_of_mem (fun {x y} hx hy h=>?_) (zLm ⟨ns.length,by omega⟩))
  rw [zMs hs (hlt x hx).2.2 (hlt y hy).2.2]
  exact h
 ·unfold ILi
  have h64:2^ns.length≤64:=Nat.pow_le_pow_right (by omega) hn
  simp
  omega
theorem zJl {α:Type} {o:List (Option α)} {i:Nat} {x:α} (h:o[i]? =some (some x)):zO9 o (i:Int)=some x:=by
 unfold zO9 idx
 rw [if_pos (by omega),Int.toNat_natCast,h]
 rfl
theorem zJ1 {α:Type} (q:α→Bool):∀(xs:List α) (i:Nat),(vE (fun j x=>if q x then some (j:Int) else none) i xs=none∧xs.find? q=none)∨∃(k:Nat) (h:k<xs.length),vE (fun j x=>if q x then some (j:Int) else none) i xs=some ((i+k:Nat):Int)∧xs.find? q=some xs[k]
 |[],i=>.inl ⟨rfl,rfl⟩
 |x::xs,i=>by
  simp only [vE,List.find?_cons]
  cases hq:q x
  ·simp only [Bool.false_eq_true,if_false]
   rcases zJ1 q xs (i+1) with ⟨h1,h2⟩|⟨k,hk,h1,h2⟩
   ·exact .inl ⟨h1,h2⟩
   ·refine .inr ⟨k+1,by simp only [List.length_cons]; omega,?_,by simpa using h2⟩
    rw [h1,show i+1+k=i+(k+1) by omega]
  ·exact .inr ⟨0,by simp,by simp,by simp⟩
theorem zMB {c:List Pack} {a b:List Int} (hC:Cat c) (h0:CF c=0) (h:Two c a b) {ns:List ByteArray} (hn:ns.length≤24) (hs:ns.Pairwise ltS):zBm c a b ns=some (if zGR c a b ns then (nxB c a b ns,true) else (([]:List ByteArray),false)):=by
 unfold zBm nxB
 rw [(zIF hC h0 h hn).2.2]
 simp only [Option.bind_some]
 cases hf:zGR c a b ns
 ·simp
 simp only [Bool.not_true,Bool.false_eq_true,if_false,if_true]
 have hcl:vL ns=some ns:=by
  unfold vL
  rw [uH (by simp; omega) (by simp; omega)]
  rfl
 rw [hcl]
 by_cases h6:ns.length>6
 ·rw [if_pos (by simp; omega),if_pos h6]
  rfl
 rw [if_neg (by simp; omega),if_neg h6]
 have hn6:ns.length≤6:=by omega
 rw [zLx hn6]
 simp only [Option.bind_some]
 have hsm:=zJu hn6 hs
 unfold wX
 rw [hsm]
 simp only [Option.bind_some]
 have hlen:(SLn ns).length =((ILi ns.length).map (atN ns)).length :=by
  have hperm:(SLi ns.length).Perm (ILi ns.length):=List.isPerm_iff.1 (zKF ⟨ns.length,by omega⟩)
  unfold SLn
  rw [List.length_map,List.length_map,hperm.length_eq]
 have hsmall:(SLn ns).length ≤64:=by
  rw [hlen]
  unfold ILi
  have h64:2^ns.length≤64:=Nat.pow_le_pow_right (by omega) hn6
  simp
  omega
 rw [zKl hlen]
 simp only [Option.bind_some]
 have key:=wQ (SLn ns) (fun j x=>if zGR c a b x then some (j:Int) else none) (b:=xD (SLn ns) c a b) (by
  intro i hi
  have hp:=(zJW hn6 hs (List.getElem_mem hi))
  have hp24:=zG7 hp.2.1 hs hp.2.2.1
  unfold xD
  rw [if_pos (by simp; omega),zI hi]
  simp only [Option.bind_some]
  rw [(zIF hC h0 h (by omega)).2.1,zM (by omega)]
  simp only [Option.bind_some]
  cases zGR c a b (SLn ns)[i]<;>rfl) (by
  unfold xD
  rw [if_neg (by simp)])
 unfold yS xK
 rw [key,zAV]
 rcases zJ1 (zGR c a b) (SLn ns) 0 with ⟨q1,q2⟩|⟨k,hk,q1,q2⟩
 ·rw [q1,q2]
  rfl
 ·rw [q1,q2]
  simp only [Option.bind_some]
  rw [if_pos (by simp),Nat.zero_add,zI hk]
  simp only [Option.bind_some]
  rw [zJl (x:=(SLn ns)[k]) (by simp [hk])]
  rfl
theorem zGX {c:List Pack} {a b:List Int} {ns:List ByteArray} (hs:ns.Pairwise ltS) (hne:ns≠[]):nxB c a b ns≠[]∧(nxB c a b ns).Pairwise ltS∧(∀x∈nxB c a b ns,x∈ns)∧(zGR c a b ns=true→zGR c a b (nxB c a b ns)=true):=by
 unfold nxB
 split
 ·exact ⟨hne,hs,fun x hx=>hx,fun h=>h⟩
 ·rename_i h6
  cases hf:(SLn ns).find? (zGR c a b) with
  |none=>exact ⟨hne,hs,fun x hx=>hx,fun h=>h⟩
  |some p=>
   obtain ⟨h1,h2,h3,_⟩:=zJW (by omega) hs (List.mem_of_find?_eq_some hf)
   exact ⟨h1,h2,h3,fun _=>List.find?_some hf⟩
noncomputable def wN (c:List Pack) (b:List Int):Nat→List Int→List ByteArray→List (List ByteArray)×List (List Int)×List Int
 |0,a,_=>([],[],a)
 |n+1,a,l=>if l=[] then ([],[],a) else
  (nxB c a b l::(wN c b n (mvL c a b (nxB c a b l)) (l.filter fun y=> !(inN (nxB c a b l) y))).1,
   mvL c a b (nxB c a b l)::(wN c b n (mvL c a b (nxB c a b l)) (l.filter fun y=> !(inN (nxB c a b l) y))).2.1,
   (wN c b n (mvL c a b (nxB c a b l)) (l.filter fun y=> !(inN (nxB c a b l) y))).2.2)
theorem Two.move {c:List Pack} {a b:List Int} (h:Two c a b) (p:List ByteArray):Two c (mvL c a b p) b:=by
 have:=zG0 c a b p
 have:=h.sml.len
 exact ⟨h.sml,zFd _ _ _ _,h.pb,zFt _ _ _ _,h.sb,by omega,h.lb⟩
theorem zJF {l B:List ByteArray} (h1:B≠[]) (h2:∀x∈B,x∈l):(l.filter fun y=> !(inN B y)).length <l.length:=by
 rcases Nat.lt_or_ge (l.filter fun y=> !(inN B y)).length l.length with q|q
 ·exact q
 ·exfalso
  have e:=(List.filter_sublist (l:=l) (p:=fun y=> !(inN B y))).eq_of_length (Nat.le_antisymm (List.length_filter_le _ _) q)
  obtain ⟨x,hx⟩:=List.exists_mem_of_ne_nil B h1
  have:x∈l.filter fun y=> !(inN B y):=by rw [e]; exact h2 x hx
  have:=(List.mem_filter.1 this).2
  rw [zC2.2 hx] at this
  cases this
theorem zH8 {c:List Pack} {a b:List Int} (pa:Places c a) (pb:Places c b) {n1 n2:List ByteArray} (h:∀x,x∈n1↔x∈n2):mvL c a b n1=mvL c a b n2:=by
 refine zE3 (zFt _ _ _ _) (zFt _ _ _ _) fun k=>?_
 rw [zEt pa pb,zEt pa pb,h]
theorem zIA {l B:List ByteArray} (h2:∀x∈B,x∈l) (x:ByteArray):x∈B++(l.filter fun y=> !(inN B y))↔x∈l:=by
 rw [List.mem_append,List.mem_filter]
 constructor
 ·rintro (q|q)
  ·exact h2 x q
  ·exact q.1
 ·intro q
  by_cases hx:x∈B
  ·exact .inl hx
  ·refine .inr ⟨q,?_⟩
   cases hi:inN B x with
   |false=>rfl
   |true=>exact absurd (zC2.1 hi) hx
theorem zOD {c:List Pack} {b:List Int}:∀(n:Nat) (a:List Int) (l:List ByteArray),Two c a b→l.Pairwise ltS→l.length≤n→(wN c b n a l).2.2=mvL c a b l∧(wN c b n a l).1.length ≤l.length∧(wN c b n a l).2.1.length ≤l.length
 |0,a,l,h,hs,hn=>by
  have:l=[]:=List.length_eq_zero_iff.1 (by omega)
  subst this
  exact ⟨(zKn h.pa h.pb h.sa).symm,by simp [wN],by simp [wN]⟩
 |n+1,a,l,h,hs,hn=>by
  unfold wN
  by_cases he:l=[]
  ·subst he
   rw [if_pos rfl]
   exact ⟨(zKn h.pa h.pb h.sa).symm,by simp,by simp⟩
  ·rw [if_neg he]
   obtain ⟨g1,g2,g3,_⟩:=zGX (c:=c) (a:=a) (b:=b) hs he
   have hlt:=zJF g1 g3
   obtain ⟨i1,i2,i3⟩:=zOD (c:=c) (b:=b) n _ _ (h.move (nxB c a b l)) (hs.filter (fun y=> !(inN (nxB c a b l) y))) (by omega)
   refine ⟨?_,by simp only [List.length_cons]; omega,by simp only [List.length_cons]; omega⟩
   simp only
   rw [i1,zFY h.pa h.pb]
   exact zH8 h.pa h.pb (zIA g3)
theorem zN5 {l B:List ByteArray} (hl:l.length≤24) (hB:B.length≤24):xR l B=some (l.filter fun y=> !(inN B y)):=by
 have h1:∀x,zEf x B=some (inN B x):=fun x=>by
  unfold zEf
  rw [zDi _ _ (by omega)]
  rfl
 exact zJG (fun x=>inN B x) l ByteArray.empty (by omega) (b1:=wG l B) (b2:=xX B) (by
  intro i hi
  unfold wG
  rw [if_pos (by simp; omega),zI hi]
  simp only [Option.bind_some,h1]
  rw [zM (by omega)]
  split<;>rfl) (by
  unfold wG
  rw [if_neg (by simp)]) (by
  intro xs i j hj hij hl hm
  unfold xX
  simp only
  rw [if_pos (by simp; omega),zI hj]
  simp only [Option.bind_some,h1]
  rw [zI (show i<xs.length by omega),zM (show j<_ by omega),zM (show i<_ by omega)]
  cases inN B xs[j]<;>simp) (by
  intro xs i hl
  unfold xX
  rw [if_neg (by simp)])
theorem zHm {c:List Pack} {b:List Int} (hC:Cat c) (h0:CF c=0) {x7:List (List ByteArray)} {s1:List (List ByteArray)×List (List Int)×List Int×List (Option (List ByteArray))×Int}:∀(n:Nat) (a:List Int) (l:List ByteArray) (bs:List (List ByteArray)) (ss:List (List Int)),Two c a b→l.Pairwise ltS→l.length≤n→l.length≤24→bs.length+l.length≤1000→ss.length+l.length≤1000→zGR c a b l=true→
  zCI c b x7 s1 (bs,ss,a,l)=some (.nxt (bs++(wN c b n a l).1,ss++(wN c b n a l).2.1,(wN c b n a l).2.2))
 |n,a,l,bs,ss,h,hs,hn,h24,hb,hss,hfit=>by
  unfold zCI
  rw [uF]
  by_cases he:l=[]
  ·subst he
   have e:zDk c b x7 s1 (bs,ss,a,([]:List ByteArray))=some (.done (.nxt (bs,ss,a))):=by
    unfold zDk
    rw [if_neg (by simp)]
   rw [e]
   cases n<;>simp [wN,Lp.elim]
  ·cases n with
   |zero=>exact absurd (List.length_eq_zero_iff.1 (by omega)) he
   |succ n=>
    obtain ⟨g1,g2,g3,_⟩:=zGX (c:=c) (a:=a) (b:=b) hs he
    have hlt:=zJF g1 g3
    have hBl:=zG7 g2 hs g3
    have hpos:0<l.length:=List.length_pos_iff.2 he
    have hml:=zG0 c a b (nxB c a b l)
    have hc24:=h.sml.len
    have e:zDk c b x7 s1 (bs,ss,a,l)=some (.go (bs++[nxB c a b l],ss++[mvL c a b (nxB c a b l)],mvL c a b (nxB c a b l),l.filter fun y=> !(inN (nxB c a b l) y))):=by
     unfold zDk
     simp only
     rw [if_pos (by simp; omega),zMB hC h0 h h24 hs,hfit]
     simp only [Option.bind_some,if_true,Bool.not_true,Bool.false_eq_true,if_false]
     rw [(zIF hC h0 h (by omega)).1,zN5 h24 (by omega)]
     simp only [Option.bind_some]
     rw [uH (by simp; omega) (by simp; omega),show wK (mvL c a b (nxB c a b l))=some (mvL c a b (nxB c a b l)) by
      unfold wK
      rw [uH (by simp; omega) (by simp; omega)]
      rfl]
     simp only [Option.bind_some]
     rw [uH (by simp; omega) (by simp; omega)]
     rfl
    have hfit':zGR c (mvL c a b (nxB c a b l)) b (l.filter fun y=> !(inN (nxB c a b l) y))=true:=by
     rw [←hfit]
     unfold zGR
     rw [zFY h.pa h.pb,zH8 h.pa h.pb (zIA g3)]
    have ih:=zHm hC h0 (x7:=x7) (s1:=s1) n (mvL c a b (nxB c a b l)) (l.filter fun y=> !(inN (nxB c a b l) y)) (bs++[nxB c a b l]) (ss++[mvL c a b (nxB c a b l)]) (h.move _) (hs.filter _) (by omega) (by omega) (by simp only [List.length_append,List.length_singleton]; omega) (by simp only [List.length_append,List.length_singleton]; omega) hfit'
    unfold zCI at ih
    rw [e]
    simp only [Option.bind_some,Lp.elim]
    rw [ih]
    conv=>rhs; unfold wN
    rw [if_neg he]
    simp
 termination_by n=>n
theorem zJg (K:ByteArray→ByteArray→Bool):∀(n:Nat) (L:List ByteArray),(zAo K n L).length ≤n∧∀P∈zAo K n L,P.length≤L.length
 |0,L=>by simp [zAo]
 |n+1,L=>by
  unfold zAo
  split
  ·simp
  ·obtain ⟨h1,h2⟩:=zJg K n (zEY K L)
   refine ⟨by simp; omega,fun P hP=>?_⟩
   rcases List.mem_cons.1 hP with rfl|hP
   ·exact List.length_filter_le _ _
   ·exact Nat.le_trans (h2 P hP) (List.length_filter_le _ _)
theorem zGD {K:ByteArray→ByteArray→Bool}:∀(n:Nat) {L:List ByteArray},L.Pairwise ltS→∀P∈zAo K n L,P.Pairwise ltS
 |0,L,_=>by simp [zAo]
 |n+1,L,h=>by
  unfold zAo
  split
  ·simp
  ·intro P hP
   rcases List.mem_cons.1 hP with rfl|hP
   ·exact zGH h
   ·exact zGD n (zEH h) P hP
theorem zHE {K:ByteArray→ByteArray→Bool}:∀(n p:Nat) {L:List ByteArray},∀x∈((zAo K n L).take p).flatten,∀y∈L,y∉((zAo K n L).take p).flatten →K x y=false
 |0,p,L,x,hx,_,_,_=>by simp [zAo] at hx
 |n+1,0,L,x,hx,_,_,_=>by simp at hx
 |n+1,p+1,L,x,hx,y,hy,hn=>by
  unfold zAo at hx hn
  split at hx
  ·simp at hx
  ·rename_i he
   rw [if_neg he] at hn
   cases L with
   |nil=>exact absurd rfl he
   |cons h t=>
    simp only [List.take_succ_cons,List.flatten_cons,List.mem_append,not_or] at hx hn
    have hyr:y∈zEY K (h::t):=(zFc rfl).2 ⟨hy,fun q=>hn.1 ((zEn rfl).2 q)⟩
    rcases hx with hx|hx
    ·cases hk:K x y with
     |false=>rfl
     |true=>exact absurd (.step ((zEn rfl).1 hx) hy hk) ((zFc rfl).1 hyr).2
    ·exact zHE n p x hx y hyr hn.2
noncomputable def stp (c:List Pack) (b:List Int) (ps:List (List ByteArray)) (a:List Int):List (List ByteArray)×List (List Int)×List Int:=
 ps.foldl (fun s P=>(s.1++(wN c b P.length s.2.2 P).1,s.2.1++(wN c b P.length s.2.2 P).2.1,(wN c b P.length s.2.2 P).2.2)) ([],[],a)
theorem zGY (c:List Pack) (b:List Int) (ps:List (List ByteArray)) (P:List ByteArray) (a:List Int):
  stp c b (ps++[P]) a=((stp c b ps a).1++(wN c b P.length (stp c b ps a).2.2 P).1,(stp c b ps a).2.1++(wN c b P.length (stp c b ps a).2.2 P).2.1,(wN c b P.length (stp c b ps a).2.2 P).2.2):=by
 unfold stp
 rw [List.foldl_append]
 rfl
theorem zIW {c:List Pack} {a b:List Int} (h:Two c a b) {ps:List (List ByteArray)} (hs:∀P∈ps,P.Pairwise ltS) (hl:∀P∈ps,P.length≤24):∀i,i≤ps.length→(stp c b (ps.take i) a).2.2=mvL c a b (ps.take i).flatten ∧(stp c b (ps.take i) a).1.length ≤24*i∧(stp c b (ps.take i) a).2.1.length ≤24*i
 |0,_=>⟨by simp only [List.take_zero,List.flatten_nil]; exact (zKn h.pa h.pb h.sa).symm,by simp [stp],by simp [stp]⟩
 |i+1,hi=>by
  obtain ⟨h1,h2,h3⟩:=zIW h hs hl i (by omega)
  have hP:=List.getElem_mem (show i<ps.length by omega)
  have h24:=hl _ hP
  rw [List.take_succ_eq_append_getElem (by omega),zGY,h1]
  obtain ⟨w1,w2,w3⟩:=zOD (c:=c) (b:=b) ps[i].length (mvL c a b (ps.take i).flatten) ps[i] (h.move _) (hs _ hP) (Nat.le_refl _)
  refine ⟨?_,by simp only [List.length_append]; omega,by simp only [List.length_append]; omega⟩
  simp only
  rw [w1,zFY h.pa h.pb]
  congr 1
  rw [List.flatten_append]
  simp only [List.flatten_cons,List.flatten_nil,List.append_nil]
theorem zJY {c:List Pack} {a b:List Int} (h:Two c a b) (ga:GoodS c a) (gb:GoodS c b) {n:ByteArray}:n∈chL c a b↔Chg c a b n:=by
 rw [(zHg h).2.2.2.1,zNS h ga gb]
theorem zLZ {c:List Pack} {a b:List Int} (h:Two c a b) (ga:GoodS c a) (gb:GoodS c b) (p:Nat):GoodS c (mvL c a b ((zC6 c a b).take p).flatten):=by
 refine apart (U:=fun n=>n∈((zC6 c a b).take p).flatten) ga gb (fun k=>zEt h.pa h.pb) ((zFt _ _ _ _).imp fun h=>by omega) ?_
 intro x y _ hy hx hny hj
 have:=zHE (K:=jB c a b) 24 p x hx y ((zJY h ga gb).2 hy) hny
 rw [(zOA h ga gb).2 hj] at this
 cases this
theorem zGo {c:List Pack} {a b:List Int} (h:Two c a b):(zC6 c a b).length ≤24∧(∀P∈zC6 c a b,P.length≤24)∧∀P∈zC6 c a b,P.Pairwise ltS:=by
 obtain ⟨_,_,h1,_,h2⟩:=zHg h
 obtain ⟨q1,q2⟩:=zJg (jB c a b) 24 (chL c a b)
 exact ⟨q1,fun P hP=>Nat.le_trans (q2 P hP) h2,zGD 24 h1⟩
noncomputable def zGP (c:List Pack) (a b:List Int):List (List ByteArray)×List (List Int):=((stp c b (zC6 c a b) a).1,(stp c b (zC6 c a b) a).2.1)
theorem zMz {c:List Pack} {a b:List Int} (hC:Cat c) (h0:CF c=0) (h:Two c a b) (ga:GoodS c a) (gb:GoodS c b):
  zDG c b (zC6 c a b) (([]:List (List ByteArray)),([]:List (List Int)),a,(zC6 c a b).map some,0)=some (.nxt (zGP c a b)):=by
 obtain ⟨s1,s2,s3⟩:=zGo h
 obtain ⟨t,e,rfl⟩:=vI (b:=zDR c b (zC6 c a b)) (fun i s=>s.1=(stp c b ((zC6 c a b).take i) a).1∧s.2.1=(stp c b ((zC6 c a b).take i) a).2.1∧s.2.2.1=(stp c b ((zC6 c a b).take i) a).2.2∧s.2.2.2.2=(i:Int)∧∀(j:Nat) (hj:j< (zC6 c a b).length),i≤j→s.2.2.2.1[j]? =some (some (zC6 c a b)[j])) (zC6 c a b).length (fun t=>t= .nxt (zGP c a b)) (by
  rintro i ⟨bs,ss,at_,o,k⟩ hi ⟨e1,e2,e3,e4,e5⟩
  simp only at e1 e2 e3 e4 e5
  subst e1 e2 e3 e4
  obtain ⟨q1,q2,q3⟩:=zIW h s3 s2 i (by omega)
  have hP:=List.getElem_mem hi
  have h24:=s2 _ hP
  have hfit:zGR c (stp c b ((zC6 c a b).take i) a).2.2 b (zC6 c a b)[i]=true:=by
   have hg:=zLZ h ga gb (i+1)
   rw [q1]
   unfold zGR
   rw [zFY h.pa h.pb]
   have:((zC6 c a b).take i).flatten ++(zC6 c a b)[i]=((zC6 c a b).take (i+1)).flatten :=by
    rw [List.take_succ_eq_append_getElem hi,List.flatten_append]
    simp only [List.flatten_cons,List.flatten_nil,List.append_nil]
   rw [this,(zEC _ _).2 hg]
   rfl
  let S:=stp c b ((zC6 c a b).take i) a
  let W:=wN c b (zC6 c a b)[i].length S.2.2 (zC6 c a b)[i]
  refine .inl ⟨(S.1++W.1,S.2.1++W.2.1,W.2.2,o.set (i:Int).toNat none,((i+1:Nat):Int)),?_,?_⟩
  ·unfold zDR
   simp only
   rw [if_pos (by simp; omega),zJl (e5 i hi (Nat.le_refl _))]
   simp only [Option.bind_some]
   rw [zHm hC h0 _ _ _ _ _ (by rw [q1]; exact h.move _) (s3 _ hP) (Nat.le_refl _) h24 (by omega) (by omega) hfit,zM (by omega)]
   rfl
  ·rw [List.take_succ_eq_append_getElem hi,zGY]
   refine ⟨rfl,rfl,rfl,rfl,fun j hj hij=>?_⟩
   simp only
   rw [List.getElem?_set_ne (by simp; omega)]
   exact e5 j hj (by omega)) (by
  rintro ⟨bs,ss,at_,o,k⟩ ⟨e1,e2,e3,e4,e5⟩
  simp only at e1 e2 e3 e4 e5
  subst e1 e2 e3 e4
  rw [List.take_length]
  unfold zDR
  rw [if_neg (by simp)]
  exact ⟨_,rfl,rfl⟩) (zC6 c a b).length 0 (([]:List (List ByteArray)),([]:List (List Int)),a,(zC6 c a b).map some,0) (by omega) ⟨by simp [stp],by simp [stp],by simp [stp],rfl,fun j hj _=>by simp [hj]⟩
 unfold zDG
 exact e
def zLK (c:List Pack) (a b:List Int):Int:=if SF c a !=0 then SF c a else if SF c b !=0 then SF c b else if ((zCG c a).length :Int)==0&&((zCG c b).length :Int)==0 then 0 else 1
theorem zKH {c:List Pack} {a b:List Int} (hC:Cat c) (ha:a.length≤1048576) (hb:b.length≤1048576):zCU c a b=some (zLK c a b)∧zBW c a b=some (zLK c a b):=by
 unfold zCU zBW zLK
 rw [zGm hC ha,zGm hC hb,zBf hC ha,zBf hC hb]
 simp only [Option.bind_some]
 rw [zG1]
 simp only [Option.bind_some]
 by_cases h1:SF c a=0
 ·by_cases h2:SF c b=0
  ·have ea:(SF c a==0)=true:=by simp [h1]
   have eb:(SF c b==0)=true:=by simp [h2]
   rw [zHj hC (zHz ea) ha,zHj hC (zHz eb) hb,zCW hC ha ea,zCW hC hb eb]
   unfold zNE
   rw [ea,eb,h1,h2]
   simp only [Option.bind_some]
   cases ((zCG c a).length :Int)==0<;>cases ((zCG c b).length :Int)==0<;>simp
  ·simp [h1,h2]
 ·simp [h1]
theorem zKV {c:List Pack} {a b:List Int} (hC:Cat c) (h:zLK c a b=0):CF c=0∧Two c a b∧GoodS c a∧GoodS c b:=by
 unfold zLK at h
 split at h
 ·rename_i q; simp [h] at q
 rename_i h1
 split at h
 ·rename_i q; simp [h] at q
 rename_i h2
 split at h
 ·rename_i h3
  have e1:SF c a=0:=by simpa using h1
  have e2:SF c b=0:=by simpa using h2
  simp only [Bool.and_eq_true,beq_iff_eq] at h3
  have key:∀s,SF c s=0→CF c=0∧zMP c s=true:=by
   intro s hs
   unfold SF at hs
   split at hs
   ·rename_i q; rw [hs] at q; cases q
   ·rename_i q
    refine ⟨by simpa using q,?_⟩
    split at hs
    ·assumption
    ·cases hs
  obtain ⟨k1,k2⟩:=key a e1
  obtain ⟨_,k3⟩:=key b e2
  have hs:=Sml.of k1
  obtain ⟨a1,a2⟩:=zEB.1 k2
  obtain ⟨b1,b2⟩:=zEB.1 k3
  have la:=zI9 k2
  have lb:=zI9 k3
  have:=hs.len
  refine ⟨k1,⟨hs,a2,b2,a1,b1,by omega,by omega⟩,(zEC _ _).1 (List.length_eq_zero_iff.1 (by omega)),(zEC _ _).1 (List.length_eq_zero_iff.1 (by omega))⟩
 ·cases h
theorem zMn {c:List Pack} {a b:List Int} (hC:Cat c) (ha:a.length≤1048576) (hb:b.length≤1048576):
  zCH c a b=some (if zLK c a b=0 then ((zGP c a b).1,(zGP c a b).2,0) else (([]:List (List ByteArray)),([]:List (List Int)),zLK c a b)):=by
 unfold zCH
 rw [(zKH hC ha hb).2]
 simp only [Option.bind_some]
 by_cases h:zLK c a b=0
 ·obtain ⟨h0,hT,ga,gb⟩:=zKV hC h
  rw [if_neg (by simp [h]),if_pos h,(zG3 hT).2]
  simp only [Option.bind_some]
  rw [zMz hC h0 hT ga gb]
  rfl
 ·rw [if_pos (by simpa using h),if_neg h]
theorem zIw {c:List Pack} {b:List Int}:∀(n:Nat) (a:List Int) {l:List ByteArray},l.Pairwise ltS→∀B∈(wN c b n a l).1,B.length≤l.length∧∀x∈B,x∈l
 |0,a,l,_=>by simp [wN]
 |n+1,a,l,hs=>by
  unfold wN
  split
  ·simp
  ·rename_i he
   obtain ⟨g1,g2,g3,_⟩:=zGX (c:=c) (a:=a) (b:=b) hs he
   intro B hB
   simp only at hB
   rcases List.mem_cons.1 hB with rfl|hB
   ·exact ⟨zG7 g2 hs g3,g3⟩
   ·obtain ⟨q1,q2⟩:=zIw n _ (hs.filter (fun y=> !(inN (nxB c a b l) y))) B hB
    exact ⟨Nat.le_trans q1 (List.length_filter_le _ _),fun x hx=>(List.mem_filter.1 (q2 x hx)).1⟩
theorem zHC {c:List Pack} {a b:List Int} {ps:List (List ByteArray)} (hs:∀P∈ps,P.Pairwise ltS):∀i,i≤ps.length→∀B∈(stp c b (ps.take i) a).1,∃P∈ps,B.length≤P.length∧∀x∈B,x∈P
 |0,_=>by simp [stp]
 |i+1,hi=>by
  intro B hB
  rw [List.take_succ_eq_append_getElem (by omega),zGY] at hB
  simp only at hB
  rcases List.mem_append.1 hB with hB|hB
  ·exact zHC hs i (by omega) B hB
  ·exact ⟨_,List.getElem_mem (by omega),zIw _ _ (hs _ (List.getElem_mem (by omega))) B hB⟩
theorem zGf {K:ByteArray→ByteArray→Bool}:∀(n:Nat) {L:List ByteArray},∀P∈zAo K n L,∀x∈P,x∈L
 |0,L=>by simp [zAo]
 |n+1,L=>by
  unfold zAo
  split
  ·simp
  ·intro P hP x hx
   rcases List.mem_cons.1 hP with rfl|hP
   ·exact (List.mem_filter.1 hx).1
   ·exact (List.mem_filter.1 (zGf n P hP x hx)).1
theorem zGA {K:ByteArray→ByteArray→Bool}:∀(n:Nat) {L:List ByteArray},(zAo K n L).Pairwise (fun P Q=>∀x∈P,∀y∈Q,K x y=false∧x≠y)
 |0,L=>by simp [zAo]
 |n+1,L=>by
  unfold zAo
  split
  ·simp
  ·rename_i he
   refine List.pairwise_cons.2 ⟨fun Q hQ x hx y hy=>?_,zGA n⟩
   cases L with
   |nil=>exact absurd rfl he
   |cons h t=>
    have hyr:=zGf n Q hQ y hy
    obtain ⟨q1,q2⟩:=(zFc rfl).1 hyr
    have hr:=(zEn rfl).1 hx
    refine ⟨?_,fun e=>q2 (e▸hr)⟩
    cases hk:K x y with
    |false=>rfl
    |true=>exact absurd (.step hr q1 hk) q2
theorem zHO {K:ByteArray→ByteArray→Bool}:∀(n:Nat) {L:List ByteArray},L.length≤n→∀x∈L,∃P∈zAo K n L,x∈P
 |0,L,h,x,hx=>by
  have:L=[]:=List.length_eq_zero_iff.1 (by omega)
  subst this
  cases hx
 |n+1,L,h,x,hx=>by
  unfold zAo
  cases L with
  |nil=>cases hx
  |cons h0 t=>
   rw [if_neg (by simp)]
   have hlt:=zIJ (K:=K) (L:=h0::t) rfl
   by_cases hp:x∈zE1 K (h0::t)
   ·exact ⟨_,by simp,hp⟩
   ·have hr:x∈zEY K (h0::t):=(zFc rfl).2 ⟨hx,fun q=>hp ((zEn rfl).2 q)⟩
    obtain ⟨P,h1,h2⟩:=zHO (K:=K) n (by omega) x hr
    exact ⟨P,by simp [h1],h2⟩
theorem zK2 {K:ByteArray→ByteArray→Bool}:∀(n:Nat) {L:List ByteArray},∀P∈zAo K n L,P≠[]
 |0,L=>by simp [zAo]
 |n+1,L=>by
  unfold zAo
  split
  ·simp
  ·rename_i he
   intro P hP
   rcases List.mem_cons.1 hP with rfl|hP
   ·cases L with
    |nil=>exact absurd rfl he
    |cons h t=>
     intro e
     have:h∈zE1 K (h::t):=(zEn rfl).2 .base
     rw [e] at this
     cases this
   ·exact zK2 n P hP
inductive Chn (c:List Pack) (b:List Int) (Q:List Int→List ByteArray→Prop):List Int→List (List ByteArray)→List (List Int)→List Int→Prop where
 |nil {a:List Int}:Chn c b Q a [] [] a
 |cons {a e:List Int} {B:List ByteArray} {bs:List (List ByteArray)} {ss:List (List Int)}:Q a B→Chn c b Q (mvL c a b B) bs ss e→Chn c b Q a (B::bs) (mvL c a b B::ss) e
theorem Chn.append {c:List Pack} {b:List Int} {Q:List Int→List ByteArray→Prop} {a e e2:List Int} {bs bs2:List (List ByteArray)} {ss ss2:List (List Int)} (h:Chn c b Q a bs ss e) (h2:Chn c b Q e bs2 ss2 e2):Chn c b Q a (bs++bs2) (ss++ss2) e2:=by
 induction h with
 |nil=>exact h2
 |cons q _ ih=>exact .cons q (ih h2)
theorem Chn.imp {c:List Pack} {b:List Int} {Q Q':List Int→List ByteArray→Prop} (hq:∀a B,Q a B→Q' a B) {a e:List Int} {bs:List (List ByteArray)} {ss:List (List Int)} (h:Chn c b Q a bs ss e):Chn c b Q' a bs ss e:=by
 induction h with
 |nil=>exact .nil
 |cons q _ ih=>exact .cons (hq _ _ q) ih
theorem Chn.length {c:List Pack} {b:List Int} {Q:List Int→List ByteArray→Prop} {a e:List Int} {bs:List (List ByteArray)} {ss:List (List Int)} (h:Chn c b Q a bs ss e):bs.length=ss.length:=by
 induction h with
 |nil=>rfl
 |cons _ _ ih=>simp [ih]
theorem zNR {c:List Pack} {a b:List Int} (h:Two c a b) (ga:GoodS c a) (gb:GoodS c b) {ns:List ByteArray} (hns:∀x,x∈ns↔x∈chL c a b):mvL c a b ns=b:=by
 refine zE3 (zFt _ _ _ _) h.sb fun k=>?_
 rw [zEt h.pa h.pb,hns,zJY h ga gb]
 constructor
 ·rintro (⟨_,q⟩|⟨q1,q2⟩)
  ·exact q
  ·exact Classical.byContradiction fun hk=>q1 ⟨k,rfl,.inl ⟨q2,hk⟩⟩
 ·intro hk
  by_cases hc:Chg c a b (uM c k)
  ·exact .inl ⟨hc,hk⟩
  ·refine .inr ⟨hc,Classical.byContradiction fun ha=>hc ⟨k,rfl,.inr ⟨hk,ha⟩⟩⟩
theorem zOJ {c:List Pack} {a b:List Int} (h:Two c a b) {D B:List ByteArray} {x:ByteArray} (hx:x∈B) (hD:x∉D) (hc:Chg c a b x):mvL c (mvL c a b D) b B≠mvL c a b D:=by
 intro e
 obtain ⟨k,rfl,hk⟩:=hc
 have h1:k∈mvL c (mvL c a b D) b B↔k∈b:=by
  rw [zEt (zFd _ _ _ _) h.pb]
  simp [hx]
 have h2:k∈mvL c a b D↔k∈a:=by
  rw [zEt h.pa h.pb]
  simp [hD]
 rw [e,h2] at h1
 rcases hk with ⟨q1,q2⟩|⟨q1,q2⟩
 ·exact q2 (h1.1 q1)
 ·exact q2 (h1.2 q1)
theorem zKX {c:List Pack} {a0 b:List Int} (h0:Two c a0 b) {P:List ByteArray} (hch:∀x∈P,Chg c a0 b x):∀(n:Nat) (D l:List ByteArray),l.Pairwise ltS→l.length≤n→(∀x∈l,x∈P∧x∉D)→zGR c (mvL c a0 b D) b l=true→
  Chn c b (fun a B=>B≠[]∧(∀x∈B,x∈P)∧mvL c a b B≠a∧zGR c a b B=true) (mvL c a0 b D) (wN c b n (mvL c a0 b D) l).1 (wN c b n (mvL c a0 b D) l).2.1 (wN c b n (mvL c a0 b D) l).2.2
 |0,D,l,_,_,_,_=>by
  unfold wN
  exact .nil
 |n+1,D,l,hs,hn,hl,hf=>by
  unfold wN
  by_cases he:l=[]
  ·rw [if_pos he]
   exact .nil
  ·rw [if_neg he]
   obtain ⟨g1,g2,g3,g4⟩:=zGX (c:=c) (a:=mvL c a0 b D) (b:=b) hs he
   obtain ⟨x,hx⟩:=List.exists_mem_of_ne_nil _ g1
   refine .cons ⟨g1,fun x hx=>(hl x (g3 x hx)).1,zOJ h0 hx (hl x (g3 x hx)).2 (hch x (hl x (g3 x hx)).1),g4 hf⟩ ?_
   have hlt:=zJF g1 g3
   have e:mvL c (mvL c a0 b D) b (nxB c (mvL c a0 b D) b l)=mvL c a0 b (D++nxB c (mvL c a0 b D) b l):=zFY h0.pa h0.pb
   rw [e]
   refine zKX h0 hch n (D++nxB c (mvL c a0 b D) b l) _ (hs.filter _) (by omega) (fun y hy=>?_) ?_
   ·obtain ⟨q1,q2⟩:=List.mem_filter.1 hy
    refine ⟨(hl y q1).1,fun hm=>?_⟩
    rcases List.mem_append.1 hm with hm|hm
    ·exact (hl y q1).2 hm
    ·rw [zC2.2 hm] at q2; cases q2
   ·rw [←hf]
    unfold zGR
    rw [←e,zFY (h0.move D).pa h0.pb,zH8 (h0.move D).pa h0.pb (zIA g3)]
theorem zNm {c:List Pack} {a b:List Int} (h:Two c a b) (x:ByteArray):x∈(zC6 c a b).flatten ↔x∈chL c a b:=by
 obtain ⟨_,_,_,_,hl⟩:=zHg h
 rw [List.mem_flatten]
 constructor
 ·rintro ⟨P,hP,hx⟩
  exact zGf 24 P hP x hx
 ·intro hx
  obtain ⟨P,hP,h2⟩:=zHO (K:=jB c a b) 24 hl x hx
  exact ⟨P,hP,h2⟩
theorem zNj {c:List Pack} {a b:List Int} {i:Nat} (hi:i< (zC6 c a b).length):∀x∈(zC6 c a b)[i],x∉((zC6 c a b).take i).flatten :=by
 intro x hx hm
 obtain ⟨Q,hQ,hxQ⟩:=List.mem_flatten.1 hm
 obtain ⟨j,hj,rfl⟩:=List.mem_take_iff_getElem.1 hQ
 have hp:(zC6 c a b).Pairwise (fun P Q=>∀x∈P,∀y∈Q,jB c a b x y=false∧x≠y):=zGA (K:=jB c a b) 24 (L:=chL c a b)
 exact (List.pairwise_iff_getElem.1 hp j i (by omega) hi (by omega) x hxQ x hx).2 rfl
theorem zJr {c:List Pack} {a b:List Int} (h:Two c a b) (ga:GoodS c a) (gb:GoodS c b):∀i,i≤(zC6 c a b).length →
  Chn c b (fun s B=>B≠[]∧(∃P∈zC6 c a b,∀x∈B,x∈P)∧mvL c s b B≠s∧zGR c s b B=true) a (stp c b ((zC6 c a b).take i) a).1 (stp c b ((zC6 c a b).take i) a).2.1 (stp c b ((zC6 c a b).take i) a).2.2∧i≤(stp c b ((zC6 c a b).take i) a).1.length
 |0,_=>⟨by simp only [List.take_zero]; exact .nil,by omega⟩
 |i+1,hi=>by
  obtain ⟨s1,s2,s3⟩:=zGo h
  obtain ⟨ih,il⟩:=zJr h ga gb i (by omega)
  obtain ⟨q1,_,_⟩:=zIW h s3 s2 i (by omega)
  have hP:=List.getElem_mem (show i< (zC6 c a b).length by omega)
  have hfit:zGR c (mvL c a b ((zC6 c a b).take i).flatten) b (zC6 c a b)[i]=true:=by
   have hg:=zLZ h ga gb (i+1)
   unfold zGR
   rw [zFY h.pa h.pb]
   have:((zC6 c a b).take i).flatten ++(zC6 c a b)[i]=((zC6 c a b).take (i+1)).flatten :=by
    rw [List.take_succ_eq_append_getElem (by omega),List.flatten_append]
    simp only [List.flatten_cons,List.flatten_nil,List.append_nil]
   rw [this,(zEC _ _).2 hg]
   rfl
  have hch:∀x∈(zC6 c a b)[i],Chg c a b x:=fun x hx=>(zJY h ga gb).1 (zGf 24 _ hP x hx)
  have hw:=zKX h hch (zC6 c a b)[i].length ((zC6 c a b).take i).flatten (zC6 c a b)[i] (s3 _ hP) (Nat.le_refl _) (fun x hx=>⟨hx,zNj (by omega) x hx⟩) hfit
  rw [←q1] at hw
  rw [List.take_succ_eq_append_getElem (by omega),zGY]
  refine ⟨ih.append (hw.imp fun s B ⟨h1,h2,h3,h4⟩=>⟨h1,⟨_,hP,h2⟩,h3,h4⟩),?_⟩
  simp only [List.length_append]
  have hne:=zK2 (K:=jB c a b) 24 (L:=chL c a b) _ hP
  have hpos:0< (wN c b (zC6 c a b)[i].length (stp c b ((zC6 c a b).take i) a).2.2 (zC6 c a b)[i]).1.length :=by
   cases hq:(zC6 c a b)[i].length with
   |zero=>exact absurd (List.length_eq_zero_iff.1 hq) hne
   |succ n=>
    unfold wN
    rw [if_neg hne]
    simp
  omega
theorem zLl {c:List Pack} {a b:List Int} (h:Two c a b) (ga:GoodS c a) (gb:GoodS c b):
  Chn c b (fun s B=>B≠[]∧(∃P∈zC6 c a b,∀x∈B,x∈P)∧mvL c s b B≠s∧zGR c s b B=true) a (zGP c a b).1 (zGP c a b).2 b∧(zC6 c a b).length ≤(zGP c a b).1.length :=by
 obtain ⟨s1,s2,s3⟩:=zGo h
 obtain ⟨h1,h2⟩:=zJr h ga gb (zC6 c a b).length (Nat.le_refl _)
 obtain ⟨q1,_,_⟩:=zIW h s3 s2 (zC6 c a b).length (Nat.le_refl _)
 rw [List.take_length] at h1 h2 q1
 rw [q1,zNR h ga gb (zNm h)] at h1
 exact ⟨h1,h2⟩
def zL2:ByteArray:=bs [114,111,111,116]
structure DPk (k:Nat) (p:Pack):Prop where
 name:p.Name.size≤20
 noRoot:p.Name≠zL2
 zNG:p.Provides.length≤k∧∀n∈p.Provides,n.size≤20
 needs:p.Needs.length≤k∧∀l∈p.Needs,l.length≤8∧∀t∈l,t.Name.size≤20
 bars:p.Bars.length≤k∧∀t∈p.Bars,t.Name.size≤20
theorem DPk.mono {p:Pack} (h:DPk 4 p):DPk 8 p:=by
 obtain ⟨h1,h0,h2,h3,h4⟩:=h
 exact ⟨h1,h0,⟨by omega,h2.2⟩,⟨by omega,h3.2⟩,⟨by omega,h4.2⟩⟩
theorem DPk.sm {p:Pack} (h:DPk 8 p):Pack.sm 1048576 p:=by
 obtain ⟨h1,_,h2,h3,h4⟩:=h
 refine ⟨by omega,⟨trivial,trivial,trivial⟩,trivial,⟨by omega,fun n hn=>?_⟩,⟨by omega,fun l hl=>⟨?_,fun t ht=>⟨?_,⟨trivial,trivial,trivial⟩,⟨trivial,trivial,trivial⟩⟩⟩⟩,⟨by omega,fun t ht=>⟨?_,⟨trivial,trivial,trivial⟩,⟨trivial,trivial,trivial⟩⟩⟩⟩
 ·have:=h2.2 n hn; omega
 ·have:=(h3.2 l hl).1; omega
 ·have:=(h3.2 l hl).2 t ht; omega
 ·have:=h4.2 t ht; omega
theorem zHu {b:Nat} {s:zD} (h:Sr b s) (hb:b≤1000000000):∃p s',vO s=some (p,s')∧p.size≤20∧p≠zL2∧Sr (b+1) s':=by
 obtain ⟨r,s',x,e1,e2,hx,h'⟩:=at_next h hb (l:=[bs [97],bs [98],bs [99],bs [100],bs [108,105,98],bs [119,101,98]]) (n:=6) rfl (by simp)
 have key:x.size≤20∧x≠zL2:=by
  simp only [List.mem_cons,List.not_mem_nil,or_false] at hx
  rcases hx with rfl|rfl|rfl|rfl|rfl|rfl<;>exact ⟨by decide,by decide⟩
 refine ⟨x,s',?_,key.1,key.2,h'⟩
 unfold vO
 rw [e1]
 simp only [Option.bind_some,e2]
theorem zHR {b:Nat} {s:zD} (h:Sr b s) (hb:b+10≤1000000000):∃p s',vN s=some (p,s')∧p.size≤20∧p≠zL2∧Sr (b+2) s':=by
 obtain ⟨q,s1,e,h1⟩:=kC h (by omega) 14
 unfold vN
 rw [e]
 simp only [Option.bind_some]
 cases q
 ·obtain ⟨p,s2,e2,h2,h3,h4⟩:=zHu h1 (by omega)
  rw [e2]
  exact ⟨p,s2,rfl,h2,h3,h4⟩
 ·obtain ⟨r,s',x,e1,e2,hx,h'⟩:=at_next h1 (by omega) (l:=[bs [],bs [49,97],bs [65],bs [97,98,99,100,101,102,103,104,105,106,107,108,109],bs [97,98,99,100,101,102,103,104,105,106,107,108],bs [97,32,98],bs [97,45],bs [95,97],bs [97,95,49]]) (n:=9) rfl (by simp)
  rw [e1]
  simp only [Option.bind_some,e2,if_true]
  have key:x.size≤20∧x≠zL2:=by
   simp only [List.mem_cons,List.not_mem_nil,or_false] at hx
   rcases hx with rfl|rfl|rfl|rfl|rfl|rfl|rfl|rfl|rfl<;>exact ⟨by decide,by decide⟩
  exact ⟨x,s',rfl,key.1,key.2,h'⟩
theorem zJj {b:Nat} (x2:ByteArray×zD) (x4 x6:Int×zD) (v15:List Int×Int×List ByteArray) {s:zD} (h:Sr b s) (hb:b+200≤1000000000) (n:Int) (hn:0≤n∧n≤4):
  ∃l s',zDu x2 x4 x6 v15 (s.Code,s.At,([]:List (List Term)),n)=some (s'.Code,s'.At,l)∧l.length≤4∧(∀c∈l,c.length≤8∧∀t∈c,t.Name.size≤20)∧Sr (b+20*n.toNat) s':=by
 obtain ⟨t,e2,l,s2,rfl,hl,hz,h2⟩:=vI (b:=zC9 x2 x4 x6 v15) (fun i q=>∃(l:List (List Term)) (s':zD),q=(s'.Code,s'.At,l,n-(i:Int))∧l.length=i∧(∀c∈l,c.length≤8∧∀t∈c,t.Name.size≤20)∧Sr (b+20*i) s') n.toNat
  (fun t=>∃(l:List (List Term)) (s':zD),t=(s'.Code,s'.At,l)∧l.length=n.toNat∧(∀c∈l,c.length≤8∧∀t∈c,t.Name.size≤20)∧Sr (b+20*n.toNat) s') (by
  rintro i q hi ⟨l,s',rfl,hl,hz,hs⟩
  unfold zC9
  simp only
  rw [if_pos (by simp; omega)]
  obtain ⟨t,u,f1,ht,g1⟩:=zGy hs (by omega)
  have f1':uU {Code:=s'.Code,At:=s'.At}=some (t,u):=f1
  obtain ⟨q,u2,f2,g2⟩:=kC g1 (by omega) 3
  rw [f1']
  simp only [Option.bind_some,f2]
  obtain ⟨c,u3,f3,hc,hne,g3⟩:∃(c:List Term) (u3:zD),(if q=true then (uU u2).bind fun x67=>(app 64 [t] [x67.1]).bind fun x69=>some (x67.2.Code,x67.2.At,x69) else some (u2.Code,u2.At,[t]))=some (u3.Code,u3.At,c)∧(c.length≤8∧∀t∈c,t.Name.size≤20)∧0<c.length∧Sr (b+20*i+19) u3:=by
   cases q
   ·exact ⟨[t],u2,rfl,⟨by simp,by simpa using ht⟩,by simp,g2.mono (by omega)⟩
   ·obtain ⟨t2,u3,f3,ht2,g3⟩:=zGy g2 (by omega)
    rw [if_pos rfl,f3]
    simp only [Option.bind_some]
    rw [uH (by simp) (by simp)]
    exact ⟨[t,t2],u3,rfl,⟨by simp,by simp [ht,ht2]⟩,by simp,g3.mono (by omega)⟩
  rw [f3]
  simp only [Option.bind_some]
  obtain ⟨q2,u4,f4,g4⟩:=kC (s:= {Code:=u3.Code,At:=u3.At}) g3 (by omega) 8
  rw [f4]
  simp only [Option.bind_some]
  obtain ⟨c2,f5,hc2⟩:∃c2:List Term,(if q2=true then (tZ (bs [109,97,105,108])).bind fun x75=>(idx c 0).bind fun x77=>some (c.set ((0:Int).toNat) x75) else some c)=some c2∧(c2.length≤8∧∀t∈c2,t.Name.size≤20):=by
   cases q2
   ·exact ⟨c,rfl,hc⟩
   ·rw [if_pos rfl,show (0:Int)=((0:Nat):Int) from rfl,zI hne]
    unfold tZ zAH
    refine ⟨_,rfl,by simpa using hc.1,fun t ht=>?_⟩
    rcases List.mem_or_eq_of_mem_set ht with ht|ht
    ·exact hc.2 t ht
    ·subst ht
     show (bs [109,97,105,108]).size ≤20
     decide
  rw [f5]
  simp only [Option.bind_some]
  rw [uH (by simp; omega) (by simp; omega),kG (x:=n-(i:Int)-1) (by omega) (by omega)]
  refine .inl ⟨_,rfl,_,u4,by rw [show n-(i:Int)-1=n-((i+1:Nat):Int) by omega],by simp [hl],fun x hx=>?_,g4.mono (by omega)⟩
  rcases List.mem_append.1 hx with hx|hx
  ·exact hz x hx
  ·rw [List.mem_singleton.1 hx]; exact hc2) (by
  rintro q ⟨l,s',rfl,hl,hz,hs⟩
  unfold zC9
  simp only
  rw [if_neg (by simp; omega)]
  exact ⟨_,rfl,l,s',rfl,hl,hz,hs⟩) n.toNat 0 (s.Code,s.At,[],n) (by omega) ⟨[],s,by simp,rfl,by simp,h⟩
 exact ⟨l,s2,e2,by omega,hz,h2⟩
theorem zJ8 {b:Nat} {s:zD} (h:Sr b s) (hb:b+300≤1000000000):∃p s',zBq s=some (p,s')∧DPk 4 p∧Sr (b+100) s':=by
 obtain ⟨nm,s1,e1,hs1,hr1,h1⟩:=zHu h (by omega)
 obtain ⟨va,s2,e2,_,_,h2⟩:=zAg h1 (by omega) 3
 obtain ⟨si,s3,e3,_,_,h3⟩:=zAg h2 (by omega) 9
 obtain ⟨q,s4,e4,h4⟩:=kC h3 (by omega) 5
 obtain ⟨pr,s5,e5,hp,h5⟩:∃(pr:List ByteArray) (s5:zD),(if q=true then (zP s4 2).bind fun x11=>(idx [bs [109,97,105,108],bs [100,98]] x11.1).bind fun x13=>some (x11.2.Code,x11.2.At,[x13]) else some (s4.Code,s4.At,([]:List ByteArray)))=some (s5.Code,s5.At,pr)∧(pr.length≤1∧∀n∈pr,n.size≤20)∧Sr (b+5) s5:=by
  cases q
  ·exact ⟨[],s4,rfl,by simp,h4.mono (by omega)⟩
  ·obtain ⟨r,s',x,f1,f2,hx,h'⟩:=at_next h4 (by omega) (l:=[bs [109,97,105,108],bs [100,98]]) (n:=2) rfl (by simp)
   rw [if_pos rfl,f1]
   simp only [Option.bind_some,f2]
   refine ⟨[x],s',rfl,⟨by simp,fun n hn=>?_⟩,h'⟩
   rw [List.mem_singleton.1 hn]
   simp only [List.mem_cons,List.not_mem_nil,or_false] at hx
   rcases hx with rfl|rfl<;>decide
 obtain ⟨n,s6,e6,hn,h6⟩:=zDL (s:= {Code:=s5.Code,At:=s5.At}) h5 (by omega) [0,0,1,1,2] (by simp)
 have hn2:0≤n∧n≤4:=by
  simp only [List.mem_cons,List.not_mem_nil,or_false] at hn
  omega
 obtain ⟨l,s7,e7,hl,hz,h7⟩:=zJj (nm,s1) (va,s2) (si,s3) (s5.Code,s5.At,pr) h6 (by omega) n hn2
 have h7:=h7.mono (b':=b+86) (by omega)
 obtain ⟨q2,s8,e8,h8⟩:=kC (s:= {Code:=s7.Code,At:=s7.At}) h7 (by omega) 6
 obtain ⟨br,s9,e9,hb9,h9⟩:∃(br:List Term) (s9:zD),(if q2=true then (uU s8).bind fun x86=>(app 64 ([]:List Term) [x86.1]).bind fun x88=>some (x86.2.Code,x86.2.At,x88) else some (s8.Code,s8.At,([]:List Term)))=some (s9.Code,s9.At,br)∧(br.length≤1∧∀t∈br,t.Name.size≤20)∧Sr (b+100) s9:=by
  cases q2
  ·exact ⟨[],s8,rfl,by simp,h8.mono (by omega)⟩
  ·obtain ⟨t,s',f1,ht,h'⟩:=zGy h8 (by omega)
   rw [if_pos rfl,f1]
   simp only [Option.bind_some]
   rw [uH (by simp) (by simp)]
   exact ⟨[t],s',rfl,⟨by simp,by simpa using ht⟩,h'.mono (by omega)⟩
 unfold zBq
 rw [e1]
 simp only [Option.bind_some,e2,e3,e4,e5,e6,e7,e8,e9]
 exact ⟨_,s9,rfl,⟨hs1,hr1,⟨by simp only; omega,hp.2⟩,⟨by simp only; omega,hz⟩,⟨by simp only; omega,hb9.2⟩⟩,h9⟩
theorem zBy {α:Type} {z:Nat} {l m:List α} (hl:l.length≤100) (hm:m.length≤100) (hz:z≤1000):app z l m=some (l++m):=by
 refine uH ?_ (by omega)
 exact Nat.le_trans (Nat.mul_le_mul (show l.length+m.length≤200 by omega) hz) (by decide)
theorem zOP {α:Type} {z n:Nat} {x:α} (hz:z≤1000) (hn:n≤1000):mk z (n:Int) x=some (List.replicate n x):=by
 unfold mk
 have h:z*(n:Int).toNat ≤281474976710656:=by
  rw [Int.toNat_natCast]
  exact Nat.le_trans (Nat.mul_le_mul hz hn) (by decide)
 rw [if_pos ⟨by omega,h,by omega⟩]
 rfl
theorem zID {b:Nat} {s:zD} (h:Sr b s) (hb:b+500≤1000000000):∃p s',zA5 s=some (p,s')∧DPk 8 p∧Sr (b+200) s':=by
 obtain ⟨p,s1,e1,hp,h1⟩:=zJ8 h (by omega)
 obtain ⟨n,s2,e2,_,_,h2⟩:=zAg h1 (by omega) 24
 have hp8:=hp.mono
 obtain ⟨hp1,hp2,hp3,hp4,hp5⟩:=hp
 obtain ⟨_,_,q3,q4,q5⟩:=hp8
 unfold zA5
 rw [e1]
 simp only [Option.bind_some,e2]
 by_cases c0:(n==0)=true
 ·obtain ⟨y,s3,e3,hy,hy2,h3⟩:=zHR h2 (by omega)
  rw [if_pos c0,e3]
  exact ⟨_,_,rfl,⟨hy,hy2,q3,q4,q5⟩,h3.mono (by omega)⟩
 rw [if_neg c0]
 by_cases c1:(n==1)=true
 ·obtain ⟨y,s3,e3,h3⟩:=zEu h2 (by omega)
  rw [if_pos c1,e3]
  exact ⟨_,_,rfl,⟨hp1,hp2,q3,q4,q5⟩,h3.mono (by omega)⟩
 rw [if_neg c1]
 by_cases c2:(n==2)=true
 ·obtain ⟨y,s3,e3,_,h3⟩:=zDL h2 (by omega) [0,200,201] (by simp)
  rw [if_pos c2,e3]
  exact ⟨_,_,rfl,⟨hp1,hp2,q3,q4,q5⟩,h3.mono (by omega)⟩
 rw [if_neg c2]
 by_cases c3:(n==3)=true
 ·obtain ⟨y,s3,e3,hy,hy2,h3⟩:=zHR h2 (by omega)
  rw [if_pos c3,e3]
  simp only [Option.bind_some]
  rw [zBy (by omega) (by simp) (by decide)]
  refine ⟨_,_,rfl,⟨hp1,hp2,⟨by simp; omega,fun x hx=>?_⟩,q4,q5⟩,h3.mono (by omega)⟩
  rcases List.mem_append.1 hx with hx|hx
  ·exact hp3.2 x hx
  ·simp only [List.mem_cons,List.not_mem_nil,or_false] at hx
   rcases hx with rfl|rfl
   ·exact hy
   ·exact hp1
 rw [if_neg c3]
 by_cases c4:(n==4)=true
 ·rw [if_pos c4,zBy (by omega) (by simp) (by decide)]
  refine ⟨_,_,rfl,⟨hp1,hp2,q3,⟨by simp; omega,fun x hx=>?_⟩,q5⟩,h2.mono (by omega)⟩
  rcases List.mem_append.1 hx with hx|hx
  ·exact hp4.2 x hx
  ·rw [List.mem_singleton.1 hx]
   simp
 rw [if_neg c4]
 by_cases c5:(n==5)=true
 ·obtain ⟨y,s3,e3,hy,h3⟩:=zFm h2 (by omega)
  obtain ⟨z,s4,e4,hz,h4⟩:=zFm h3 (by omega)
  rw [if_pos c5,e3]
  simp only [Option.bind_some,e4]
  rw [zBy (by omega) (by simp) (by decide)]
  refine ⟨_,_,rfl,⟨hp1,hp2,q3,⟨by simp; omega,fun x hx=>?_⟩,q5⟩,h4.mono (by omega)⟩
  rcases List.mem_append.1 hx with hx|hx
  ·exact hp4.2 x hx
  ·rw [List.mem_singleton.1 hx]
   simp [hy,hz]
 rw [if_neg c5]
 by_cases c6:(n==6)=true
 ·obtain ⟨y,s3,e3,hy,h3⟩:=zFm h2 (by omega)
  rw [if_pos c6,e3]
  simp only [Option.bind_some]
  rw [zBy (by omega) (by simp) (by decide)]
  refine ⟨_,_,rfl,⟨hp1,hp2,q3,q4,⟨by simp; omega,fun x hx=>?_⟩⟩,h3.mono (by omega)⟩
  rcases List.mem_append.1 hx with hx|hx
  ·exact hp5.2 x hx
  ·rw [List.mem_singleton.1 hx]
   exact hy
 rw [if_neg c6]
 have hmk:=zOP (z:=64) (n:=5) (x:=({Name:=ByteArray.empty,Low:= {A:=0,B:=0,C:=0},High:= {A:=0,B:=0,C:=0}}:Term)) (by decide) (by decide)
 have hmk:mk 64 5 ({Name:=ByteArray.empty,Low:= {A:=0,B:=0,C:=0},High:= {A:=0,B:=0,C:=0}}:Term)=_:=hmk
 have hem:(ByteArray.empty).size ≤20:=by decide
 by_cases c7:(n==7)=true
 ·rw [if_pos c7,hmk]
  refine ⟨_,_,rfl,⟨hp1,hp2,q3,q4,⟨by simp,fun x hx=>?_⟩⟩,h2.mono (by omega)⟩
  rw [(List.mem_replicate.1 hx).2]
  exact hem
 rw [if_neg c7]
 by_cases c8:(n==8)=true
 ·rw [if_pos c8,hmk]
  simp only [Option.bind_some]
  rw [zBy (by omega) (by simp) (by decide)]
  refine ⟨_,_,rfl,⟨hp1,hp2,q3,⟨by simp; omega,fun x hx=>?_⟩,q5⟩,h2.mono (by omega)⟩
  rcases List.mem_append.1 hx with hx|hx
  ·exact hp4.2 x hx
  ·rw [List.mem_singleton.1 hx]
   refine ⟨by simp,fun t ht=>?_⟩
   rw [(List.mem_replicate.1 ht).2]
   exact hem
 rw [if_neg c8]
 exact ⟨_,_,rfl,⟨hp1,hp2,q3,q4,q5⟩,h2.mono (by omega)⟩
def DCt (c:List Pack):Prop:=c.length≤25∧∀p∈c,DPk 8 p
theorem DCt.cat {c:List Pack} (h:DCt c):Cat c:=⟨by have:=h.1; omega,fun p hp=>(h.2 p hp).sm⟩
theorem zII {b:Nat} {s:zD} (h:Sr b s) (hb:b+3000≤1000000000) (n:Int) (hn:0≤n∧n≤12):
  ∃l s',zBC (s.Code,s.At,([]:List Pack),n)=some (s'.Code,s'.At,l)∧l.length≤12∧(∀p∈l,DPk 8 p)∧Sr (b+1200) s':=by
 obtain ⟨t,e2,l,s2,rfl,hl,hz,h2⟩:=vI (b:=zAN) (fun i q=>∃(l:List Pack) (s':zD),q=(s'.Code,s'.At,l,n-(i:Int))∧l.length≤i∧(∀p∈l,DPk 8 p)∧Sr (b+100*i) s') n.toNat
  (fun t=>∃(l:List Pack) (s':zD),t=(s'.Code,s'.At,l)∧l.length≤n.toNat∧(∀p∈l,DPk 8 p)∧Sr (b+100*n.toNat) s') (by
  rintro i q hi ⟨l,s',rfl,hl,hz,hs⟩
  unfold zAN
  simp only
  rw [if_pos (by simp; omega)]
  obtain ⟨p,u,f1,hp,g1⟩:=zJ8 hs (by omega)
  have f1':zBq {Code:=s'.Code,At:=s'.At}=some (p,u):=f1
  rw [f1']
  simp only [Option.bind_some]
  rw [zIm l _ _ (by omega)]
  simp only [Option.bind_some]
  rw [kG (x:=n-(i:Int)-1) (by omega) (by omega)]
  by_cases hf:zKY l p.Name p.Version<0
  ·rw [if_pos (by simpa using hf),zBy (by omega) (by simp) (by decide)]
   refine .inl ⟨_,rfl,l++[p],u,by rw [show n-(i:Int)-1=n-((i+1:Nat):Int) by omega],by simp; omega,fun x hx=>?_,g1.mono (by omega)⟩
   rcases List.mem_append.1 hx with hx|hx
   ·exact hz x hx
   ·rw [List.mem_singleton.1 hx]; exact hp.mono
  ·rw [if_neg (by simpa using hf)]
   exact .inl ⟨_,rfl,l,u,by rw [show n-(i:Int)-1=n-((i+1:Nat):Int) by omega],by omega,hz,g1.mono (by omega)⟩) (by
  rintro q ⟨l,s',rfl,hl,hz,hs⟩
  unfold zAN
  simp only
  rw [if_neg (by simp; omega)]
  exact ⟨_,rfl,l,s',rfl,hl,hz,hs⟩) n.toNat 0 (s.Code,s.At,[],n) (by omega) ⟨[],s,by simp,by simp,by simp,h⟩
 exact ⟨l,s2,e2,by omega,hz,h2.mono (by omega)⟩
theorem zJa {b:Nat} {s:zD} (h:Sr b s) (hb:b+5000≤1000000000):∃c s',zBi s=some (c,s')∧DCt c∧Sr (b+2000) s':=by
 obtain ⟨x,s1,e1,x0,x1,h1⟩:=zAg h (by omega) 12
 obtain ⟨n,s2,e2,hn,h2⟩:=zDL h1 (by omega) [3,4,5,6,7,8,x] (by simp)
 have hn2:0≤n∧n≤12:=by
  have:=x1 (by omega)
  simp only [List.mem_cons,List.not_mem_nil,or_false] at hn
  omega
 obtain ⟨l,s3,e3,hl,hz,h3⟩:=zII h2 (by omega) n hn2
 obtain ⟨k,s4,e4,_,_,h4⟩:=zAg (s:= {Code:=s3.Code,At:=s3.At}) h3 (by omega) 40
 unfold zBi
 rw [e1]
 simp only [Option.bind_some,e2,e3,e4]
 by_cases c0:(k==0)=true
 ·obtain ⟨p,s5,e5,hp,h5⟩:=zID h4 (by omega)
  rw [if_pos c0,e5]
  simp only [Option.bind_some]
  rw [zBy (by omega) (by simp) (by decide)]
  refine ⟨l++[p],s5,rfl,⟨by simp; omega,fun y hy=>?_⟩,h5.mono (by omega)⟩
  rcases List.mem_append.1 hy with hy|hy
  ·exact hz y hy
  ·rw [List.mem_singleton.1 hy]; exact hp
 rw [if_neg c0]
 by_cases c1:(k==1)=true
 ·rw [if_pos c1]
  by_cases hp:((l.length:Int)>0)
  ·rw [if_pos (by simpa using hp),show (0:Int)=((0:Nat):Int) from rfl,zI (by omega)]
   simp only [Option.bind_some]
   rw [zBy (by omega) (by simp) (by decide)]
   refine ⟨l++[l[0]],s4,rfl,⟨by simp; omega,fun y hy=>?_⟩,h4.mono (by omega)⟩
   rcases List.mem_append.1 hy with hy|hy
   ·exact hz y hy
   ·rw [List.mem_singleton.1 hy]; exact hz _ (List.getElem_mem _)
  ·rw [if_neg (by simpa using hp)]
   exact ⟨l,s4,rfl,⟨by omega,hz⟩,h4.mono (by omega)⟩
 rw [if_neg c1]
 by_cases c2:(k==2)=true
 ·have hmk:=zOP (z:=120) (n:=25) (x:=({Name:=ByteArray.empty,Version:= {A:=0,B:=0,C:=0},Size:=0,Provides:=[],Needs:=[],Bars:=[]}:Pack)) (by decide) (by decide)
  have hmk:mk 120 25 ({Name:=ByteArray.empty,Version:= {A:=0,B:=0,C:=0},Size:=0,Provides:=[],Needs:=[],Bars:=[]}:Pack)=_:=hmk
  rw [if_pos c2,hmk]
  refine ⟨_,s4,rfl,⟨by simp,fun y hy=>?_⟩,h4.mono (by omega)⟩
  rw [(List.mem_replicate.1 hy).2]
  exact ⟨show (ByteArray.empty).size ≤20 by decide,show ByteArray.empty≠zL2 by decide,by simp,by simp,by simp⟩
 rw [if_neg c2]
 exact ⟨l,s4,rfl,⟨by omega,hz⟩,h4.mono (by omega)⟩
theorem zMh (xs:List Int) (p:Int→Bool) {b:(List Int×Int)→Option (Lp (List Int×Int) (List Int))} (hstep:∀(i:Nat) (hi:i<xs.length) (acc:List Int),acc.length≤i→b (acc,(i:Int))=some (.go (if p xs[i] then acc++[xs[i]] else acc,((i+1:Nat):Int))))
  (hend:∀acc:List Int,b (acc,(xs.length:Int))=some (.done acc)):loop b (([]:List Int),0)=some (xs.filter p):=by
 obtain ⟨t,e,rfl⟩:=vI (b:=b) (fun i s=>s=((xs.take i).filter p,(i:Int))) xs.length (fun t=>t=xs.filter p) (by
  rintro i s hi rfl
  refine .inl ⟨_,hstep i hi _ (Nat.le_trans (List.length_filter_le _ _) (by simp; omega)),?_⟩
  rw [List.take_succ_eq_append_getElem hi,List.filter_append]
  cases h:p xs[i]<;>simp [h]) (by
  rintro s rfl
  rw [List.take_length]
  exact ⟨_,hend _,rfl⟩) xs.length 0 ([],0) (by omega) (by simp)
 exact e
theorem zGv {α β:Type} {f:Nat→List β→α→List β} {P:β→Prop}:∀(xs:List α) (i:Nat) (l:List β),(∀i l x,x∈xs→(∀y∈l,P y)→∀y∈f i l x,P y)→(∀y∈l,P y)→∀y∈foldI f i xs l,P y
 |[],_,_,_,h=>h
 |x::xs,i,l,hf,h=>zGv xs (i+1) (f i l x) (fun i l y hy=>hf i l y (by simp [hy])) (hf i l x (by simp) h)
theorem zJJ (c:List Pack) (a:List Int):∀y∈zCG c a,y.Pack∈a:=by
 unfold zCG
 refine zGv a 0 [] (fun i l k hk hl=>?_) (by simp)
 have key:∀(q:Bool) (l:List zO) (y:zO),y.Pack=k→(∀z∈l,z.Pack∈a)→∀z∈(if q then l++[y] else l),z.Pack∈a:=by
  intro q l y hy hl z hz
  cases q
  ·exact hl z hz
  ·rcases List.mem_append.1 hz with h|h
   ·exact hl z h
   ·rw [List.mem_singleton.1 h,hy]; exact hk
 unfold fS
 refine zGv _ 0 _ (fun i l x _ hl=>?_) (zGv _ 0 _ (fun i l x _ hl=>?_) ?_)
 ·unfold fB; exact key _ _ _ rfl hl
 ·unfold fN; exact key _ _ _ rfl hl
 ·unfold fD; exact key _ _ _ rfl hl
theorem zKJ {c:List Pack} (hc:Cat c) (x19:Bool×zD):∀(n:Nat) (a:List Int),a.length≤n→n≤1000→Places c a→∃r,loop (zBT c x19) a=some r∧r.Sublist a
 |n,a,hn,h1,hp=>by
  have e0:=zH4 hc hp (by omega)
  rw [uF]
  unfold zBT
  rw [e0]
  simp only [Option.bind_some]
  by_cases hl:0< (zCG c a).length
  ·rw [if_pos (by simpa using hl),show (0:Int)=((0:Nat):Int) from rfl,zI hl]
   simp only [Option.bind_some]
   have hm:=zJJ c a _ (List.getElem_mem hl)
   generalize (zCG c a)[0]=f at hm
   have ef:kW c x19 a f (([]:List Int),((0:Nat):Int))=some (a.filter fun k=>k !=f.Pack):=by
    unfold kW
    refine zMh a (fun k=>k !=f.Pack) (fun i hi acc hacc=>?_) (fun acc=>?_)
    ·unfold zBO
     simp only
     rw [if_pos (by simp; omega),zI hi]
     simp only [Option.bind_some]
     rw [zM (by omega)]
     cases a[i] !=f.Pack
     ·rfl
     ·rw [if_pos rfl,uH (by simp; omega) (by simp; omega)]
      rfl
    ·unfold zBO
     simp only
     rw [if_neg (by simp)]
   rw [ef]
   simp only [Option.bind_some,Lp.elim]
   have hlt:(a.filter fun k=>k !=f.Pack).length <a.length:=by
    refine Nat.lt_of_le_of_ne (List.length_filter_le _ _) fun e=>?_
    have:=List.length_filter_eq_length_iff.1 e _ hm
    simp at this
   have hs:(a.filter fun k=>k !=f.Pack).Sublist a:=List.filter_sublist
   cases n with
   |zero=>omega
   |succ n=>
    obtain ⟨r,h2,h3⟩:=zKJ hc x19 n (a.filter fun k=>k !=f.Pack) (by omega) (by omega) (fun k hk=>hp k (hs.subset hk))
    exact ⟨r,h2,h3.trans hs⟩
  ·rw [if_neg (by simpa using hl)]
   exact ⟨a,rfl,List.Sublist.refl _⟩
theorem zIX {b:Nat} {s:zD} (h:Sr b s) (hb:b+1000≤1000000000) {c:List Pack} (hc:Cat c) (hl:c.length≤25):∃a s',tJ s c=some (a,s')∧a.length≤26∧Sr (b+100) s':=by
 obtain ⟨t,e1,l,s1,rfl,hl1,hp1,h1⟩:=vI (b:=zA1 c) (fun i q=>∃(l:List Int) (s':zD),q=(s'.Code,s'.At,l,(i:Int))∧l.length≤i∧Places c l∧Sr (b+i) s') c.length
  (fun t=>∃(l:List Int) (s':zD),t=(s'.Code,s'.At,l)∧l.length≤c.length∧Places c l∧Sr (b+c.length) s') (by
  rintro i q hi ⟨l,s',rfl,hl,hz,hs⟩
  unfold zA1
  simp only
  rw [if_pos (by simp; omega)]
  obtain ⟨q,u,f1,g1⟩:=kC (s:= {Code:=s'.Code,At:=s'.At}) hs (by omega) 3
  rw [f1]
  simp only [Option.bind_some]
  rw [zM (by omega)]
  cases q
  ·exact .inl ⟨_,rfl,l,u,rfl,by omega,hz,g1⟩
  ·rw [if_pos rfl,zBy (by omega) (by simp) (by decide)]
   refine .inl ⟨_,rfl,l++[(i:Int)],u,rfl,by simp; omega,fun k hk=>?_,g1⟩
   rcases List.mem_append.1 hk with hk|hk
   ·exact hz k hk
   ·rw [List.mem_singleton.1 hk]; omega) (by
  rintro q ⟨l,s',rfl,hl,hz,hs⟩
  unfold zA1
  simp only
  rw [if_neg (by simp)]
  exact ⟨_,rfl,l,s',rfl,hl,hz,hs⟩) c.length 0 (s.Code,s.At,[],0) (by omega) ⟨[],s,rfl,by simp,by intro k hk; simp at hk,h⟩
 have e1':zAX c (s.Code,s.At,([]:List Int),0)=some (s1.Code,s1.At,l):=e1
 obtain ⟨q,s2,e2,h2⟩:=kC (s:= {Code:=s1.Code,At:=s1.At}) h1 (by omega) 2
 obtain ⟨a,e3,ha⟩:∃a:List Int,((if q=true then (vF c).bind fun x22=>some (x22==0) else some false).bind fun v24=>if v24=true then (kX c (q,s2) l).bind fun v81=>some v81 else some l)=some a∧a.length≤25:=by
  cases q
  ·exact ⟨l,rfl,by omega⟩
  ·rw [if_pos rfl,zEh c hc]
   simp only [Option.bind_some]
   cases CF c==0
   ·exact ⟨l,rfl,by omega⟩
   ·rw [if_pos rfl]
    obtain ⟨r,e,hs⟩:=zKJ hc (true,s2) 25 l (by omega) (by omega) hp1
    have e:kX c (true,s2) l=some r:=e
    rw [e]
    exact ⟨r,rfl,by have:=hs.length_le; omega⟩
 obtain ⟨q3,s3,e4,h3⟩:=kC h2 (by omega) 24
 unfold tJ
 rw [e1']
 simp only [Option.bind_some,e2]
 rw [←Option.bind_assoc,e3]
 simp only [Option.bind_some,e4]
 cases q3
 ·exact ⟨a,s3,rfl,by omega,h3.mono (by omega)⟩
 ·obtain ⟨x,s4,e5,_,h4⟩:=zDL h3 (by omega) [(c.length:Int),(-1),0] (by simp)
  rw [if_pos rfl,e5]
  simp only [Option.bind_some]
  rw [zBy (by omega) (by simp) (by decide)]
  exact ⟨a++[x],s4,rfl,by simp; omega,h4.mono (by omega)⟩
theorem zK4 {b:Nat} {s:zD} (h:Sr b s) (hb:b+1000≤1000000000) {c:List Pack} (hl:c.length≤25):∃l s',zA6 s c=some (l,s')∧l.length≤3∧Sr (b+10) s':=by
 obtain ⟨n,s1,e1,n0,n1,h1⟩:=zAg h (by omega) 3
 have hn:=n1 (by omega)
 have key:∀(k:Nat) (l:List Term) (s':zD) (i:Nat),i+k=(1+n).toNat →l.length≤i→Sr (b+1+i) s'→∃l2 s2,loop (kR c) (s'.Code,s'.At,l,(k:Int))=some (s2.Code,s2.At,l2)∧l2.length≤3∧Sr (b+10) s2:=by
  intro k
  induction k with
  |zero=>
   intro l s' i hi hl1 hs
   refine ⟨l,s',?_,by omega,hs.mono (by omega)⟩
   rw [uF]
   unfold kR
   rfl
  |succ k ih=>
   intro l s' i hi hl1 hs
   by_cases h0:c.length=0
   ·have hb:kR c (s'.Code,s'.At,l,((k+1:Nat):Int))=some (.done (s'.Code,s'.At,l)):=by
     have hd:decide ((c.length:Int)>0)=false:=decide_eq_false (by omega)
     unfold kR
     rw [hd]
     simp
    rw [uF,hb]
    exact ⟨l,s',rfl,by omega,hs.mono (by omega)⟩
   ·obtain ⟨r,u,f1,r0,r1,g1⟩:=zAg (s:= {Code:=s'.Code,At:=s'.At}) hs (by omega) (c.length:Int)
    have hr:=r1 (by omega)
    obtain ⟨j,rfl⟩:=Int.eq_ofNat_of_zero_le r0
    have hj:j<c.length:=by omega
    have hb:kR c (s'.Code,s'.At,l,((k+1:Nat):Int))=some (.go (u.Code,u.At,l++[({Name:=c[j].Name,Low:= {A:=0,B:=0,C:=0},High:= {A:=1000,B:=0,C:=0}}:Term)],(k:Int))):=by
     unfold kR
     simp only
     have hd:decide ((c.length:Int)>0)=true:=by simp; omega
     rw [if_pos (decide_eq_true (by omega)),hd]
     simp only [Option.bind_some,if_true]
     rw [f1]
     simp only [Option.bind_some]
     rw [zI hj]
     unfold tZ zAH
     simp only [Option.bind_some]
     rw [zBy (by omega) (by simp) (by decide),kG (x:=((k+1:Nat):Int)-1) (by omega) (by omega),show ((k+1:Nat):Int)-1=(k:Int) by omega]
     rfl
    rw [uF,hb]
    exact ih (l++[({Name:=c[j].Name,Low:= {A:=0,B:=0,C:=0},High:= {A:=1000,B:=0,C:=0}}:Term)]) u (i+1) (by omega) (by simp; omega) g1
 obtain ⟨l2,s2,e2,hl2,h2⟩:=key (1+n).toNat [] s1 0 (by omega) (by simp) h1
 unfold zA6
 rw [e1]
 simp only [Option.bind_some]
 rw [kG (x:=1+n) (by omega) (by omega)]
 have e2':zDr c (s1.Code,s1.At,([]:List Term),1+n)=some (s2.Code,s2.At,l2):=by
  rw [show 1+n=((1+n).toNat :Int) by omega]
  exact e2
 rw [e2']
 exact ⟨l2,s2,rfl,hl2,h2⟩
theorem zGF {c:List Pack} (hc:Cat c) {l:List Term} (hl:l.length≤1048576) {k:Int} (hk:0≤k∧k<c.length):∃r,jC c l k=some r:=by
 have key:=wQ l (fun _ t=>if zAD (pat c k) t then some true else none) (b:=zAQ c l k) (by
  intro i hi
  unfold zAQ
  rw [if_pos (by simp; omega),zI hi,(tQ hk).1]
  simp only [Option.bind_some,zG2 _ _ (hc.zNG hk)]
  rw [zM (by omega)]
  cases zAD (pat c k) l[i]<;>rfl) (by
  unfold zAQ
  rw [if_neg (by simp)])
 unfold jC zB3
 rw [key,zAV]
 split<;>exact ⟨_,rfl⟩
theorem zLU {c:List Pack} (hc:Cat c) {a:List Int} (hp:Places c a) (ha:a.length≤1048576) {k:Int} (hk:0≤k∧k<c.length):∃r,zDC c a k=some r:=by
 obtain ⟨t,e,_⟩:=vI (b:=zCP c a k) (fun i s=>s=(i:Int)) a.length (fun _=>True) (by
  rintro i s hi rfl
  have hq:=hp _ (List.getElem_mem hi)
  obtain ⟨r1,f1⟩:=zGF hc (hc.bars hq) hk
  obtain ⟨r2,f2⟩:=zGF hc (hc.bars hk) hq
  unfold zCP
  rw [if_pos (by simp; omega),zI hi]
  simp only [Option.bind_some,(tQ hq).1,(tQ hk).1,f1,f2]
  rw [zM (by omega)]
  cases seq (pat c a[i]).Name (pat c k).Name
  ·cases r1
   ·cases r2
    ·exact .inl ⟨_,rfl,rfl⟩
    ·exact .inr ⟨_,rfl,trivial⟩
   ·exact .inr ⟨_,rfl,trivial⟩
  ·exact .inr ⟨_,rfl,trivial⟩) (by
  rintro s rfl
  unfold zCP
  rw [if_neg (by simp)]
  exact ⟨_,rfl,trivial⟩) a.length 0 0 (by omega) rfl
 have e:zDm c a k 0=some t:=e
 unfold zDC
 rw [e]
 cases t<;>exact ⟨_,rfl⟩
theorem zLc {c:List Pack} {l:List Int} (hl:l.length≤1048576) {x y:Int} (hx:0≤x∧x<c.length) (hy:0≤y∧y<c.length):∃r,zCJ c l x y=some r:=by
 unfold zCJ
 rw [zGT _ _ hl,zGT _ _ hl]
 simp only [Option.bind_some,(tQ hx).1,(tQ hy).1,zBx]
 split
 ·exact ⟨_,rfl⟩
 ·split<;>exact ⟨_,rfl⟩
theorem zIl {c:List Pack} (hc:Cat c) {asks:List Term} (hk:asks.length≤1000) {a:List Int} (hp:Places c a) (ha:a.length≤1000):∃l,zBV c asks a=some l∧l.length≤1048576:=by
 obtain ⟨t,e1,h1⟩:=vI (b:=zBE c asks a) (fun i s=>s=(i:Int)) asks.length (fun t=>∀l,t= .ret l→l.length≤1048576) (by
  rintro i s hi rfl
  unfold zBE
  rw [if_pos (by simp; omega),zM (by omega),zEq (Nat.le_succ i) (by omega)]
  simp only [Option.bind_some]
  rw [zIG hc hp (by omega) _ (by simp; omega)]
  simp only [Option.bind_some]
  generalize zJE c a _=m
  cases m
  ·refine .inr ⟨_,rfl,?_⟩
   rintro l ⟨⟩
   simp; omega
  ·exact .inl ⟨_,rfl,rfl⟩) (by
  rintro s rfl
  unfold zBE
  rw [if_neg (by simp)]
  exact ⟨_,rfl,by rintro l ⟨⟩⟩) asks.length 0 0 (by omega) rfl
 have e1:zCi c asks a 0=some t:=e1
 obtain ⟨u,e2,h2⟩:=vI (b:=zB4 c a) (fun i s=>s=(i:Int)) a.length (fun t=>∀l,t= .ret l→l.length≤1048576) (by
  rintro i s hi rfl
  have hq:=hp _ (List.getElem_mem hi)
  have hN:=hc.needs hq
  obtain ⟨v,e3,h3⟩:=vI (b:=zB6 c a (i:Int) (pat c a[i])) (fun j s=>s=(j:Int)) (pat c a[i]).Needs.length (fun t=>∀l,t= .ret l→l.length≤1048576) (by
   rintro j s hj rfl
   have hcl:=hc.clause hq (List.getElem_mem hj)
   unfold zB6
   rw [if_pos (by simp; omega),zM (by omega),zI hj]
   simp only [Option.bind_some]
   rw [zIG hc hp (by omega) _ hcl]
   simp only [Option.bind_some]
   generalize zJE c a _=m
   cases m
   ·refine .inr ⟨_,rfl,?_⟩
    rintro l ⟨⟩
    exact hcl
   ·exact .inl ⟨_,rfl,rfl⟩) (by
   rintro s rfl
   unfold zB6
   rw [if_neg (by simp)]
   exact ⟨_,rfl,by rintro l ⟨⟩⟩) (pat c a[i]).Needs.length 0 0 (by omega) rfl
  have e3:zCo c a (i:Int) (pat c a[i]) 0=some v:=e3
  unfold zB4
  rw [if_pos (by simp; omega),zM (by omega),zI hi]
  simp only [Option.bind_some,(tQ hq).1,e3]
  cases v with
  |ret l=>exact .inr ⟨_,rfl,by rintro l' ⟨⟩; exact h3 l rfl⟩
  |nxt _=>exact .inl ⟨_,rfl,rfl⟩) (by
  rintro s rfl
  unfold zB4
  rw [if_neg (by simp)]
  exact ⟨_,rfl,by rintro l ⟨⟩⟩) a.length 0 0 (by omega) rfl
 have e2:zCd c a 0=some u:=e2
 unfold zBV
 rw [e1,e2]
 cases t with
 |ret l=>exact ⟨l,rfl,h1 l rfl⟩
 |nxt _=>
  cases u with
  |ret l=>exact ⟨l,rfl,h2 l rfl⟩
  |nxt _=>exact ⟨[],rfl,by simp⟩
theorem zJv {c:List Pack} (hc:Cat c) (hcl:c.length≤25) {cl:List Term} (h1:cl.length≤1048576) {a d lk:List Int} (hp:Places c a) (ha:a.length≤1048576) (hd:d.length≤1048576) (hlk:lk.length≤1048576):
  ∃l,kF c cl a d lk=some l∧∀k∈l,(0≤k∧k<c.length)∧k∉a:=by
 obtain ⟨t,e,ht⟩:=vI (b:=kJ c cl a d lk) (fun i s=>s.2=(i:Int)∧s.1.length≤i∧∀k∈s.1,(0≤k∧k<c.length)∧k∉a) c.length (fun t=>∀k∈t,(0≤k∧k<c.length)∧k∉a) (by
  rintro i ⟨out,j⟩ hi ⟨hj,hol,ho⟩
  simp only at hj hol ho
  subst hj
  have hki:0≤(i:Int)∧(i:Int)<c.length:=by omega
  obtain ⟨g,eg,_⟩:=vI (b:=kL c cl a d lk (out,(i:Int))) (fun j s=>s.2=(j:Int)) cl.length (fun _=>True) (by
   rintro j ⟨q,j'⟩ hj hj'
   simp only at hj'
   subst hj'
   unfold kL
   simp only
   rw [if_pos (by simp; omega),(tQ hki).1,zI hj]
   simp only [Option.bind_some,zG2 _ _ (hc.zNG hki)]
   rw [zM (by omega)]
   cases q
   ·exact .inl ⟨_,rfl,rfl⟩
   ·exact .inl ⟨_,rfl,rfl⟩) (by
   rintro ⟨q,j'⟩ hj'
   simp only at hj'
   subst hj'
   unfold kL
   simp only
   rw [if_neg (by simp)]
   exact ⟨_,rfl,trivial⟩) cl.length 0 (false,0) (by omega) rfl
  have eg:zAa c cl a d lk (out,(i:Int)) (false,0)=some g:=eg
  obtain ⟨ft,ef⟩:=zLU hc hp ha hki
  have ins:∀n:Nat,n≤out.length→∃v:Nat,v≤n∧uW c cl a d lk (out,(i:Int)) (n:Int)=some (v:Int):=by
   intro n
   induction n with
   |zero=>
    intro _
    refine ⟨0,Nat.le_refl _,?_⟩
    unfold uW
    rw [uF]
    unfold zBe
    rfl
   |succ n ih=>
    intro hn
    have hq:=(ho _ (List.getElem_mem (show n<out.length by omega))).1
    obtain ⟨r,er⟩:=zLc (l:=lk) hlk hki hq
    obtain ⟨v,hv,ev⟩:=ih (by omega)
    unfold uW at ev ⊢
    rw [uF]
    unfold zBe
    simp only
    rw [if_pos (decide_eq_true (by omega)),kG (x:=((n+1:Nat):Int)-1) (by omega) (by omega),show ((n+1:Nat):Int)-1=(n:Int) by omega,zI (show n<out.length by omega)]
    simp only [Option.bind_some,er]
    cases r
    ·exact ⟨n+1,Nat.le_refl _,rfl⟩
    ·exact ⟨v,by omega,ev⟩
  unfold kJ
  simp only
  rw [if_pos (by simp; omega),eg,zGT _ _ ha,zGT _ _ hd,ef,zM (by omega)]
  simp only [Option.bind_some]
  by_cases hg:g=true
  ·subst hg
   by_cases hia:(i:Int)∈a
   ·have:decide ((i:Int)∈a)=true:=by simpa using hia
    rw [this]
    exact .inl ⟨_,rfl,rfl,by simp only; omega,ho⟩
   ·have:decide ((i:Int)∈a)=false:=by simpa using hia
    rw [this]
    cases decide ((i:Int)∈d)
    ·cases ft
     ·exact .inl ⟨_,rfl,rfl,by simp only; omega,ho⟩
     ·obtain ⟨v,hv,ev⟩:=ins out.length (Nat.le_refl _)
      have l1:zEE out 0 (v:Int)=some (out.take v):=by
       have:=zEq (xs:=out) (l:=0) (h:=v) (by omega) hv
       simpa using this
      have l2:zEE out (v:Int) (out.length:Int)=some (out.drop v):=by
       have:=zEq (xs:=out) (l:=v) (h:=out.length) hv (Nat.le_refl _)
       rw [this,List.take_of_length_le (by simp)]
      simp only [Bool.not_true,Bool.false_eq_true,if_false,Option.bind_some,ev,l1,l2]
      rw [zBy (by simp) (by simp; omega) (by decide)]
      simp only [Option.bind_some]
      rw [zBy (by simp; omega) (by simp) (by decide)]
      simp only [Option.bind_some]
      rw [zBy (by simp; omega) (by simp; omega) (by decide)]
      refine .inl ⟨_,rfl,rfl,by simp; omega,fun k hk=>?_⟩
      simp only [List.nil_append,List.mem_append,List.mem_singleton] at hk
      rcases hk with (hk|hk)|hk
      ·exact ho k (List.mem_of_mem_take hk)
      ·subst hk; exact ⟨hki,hia⟩
      ·exact ho k (List.mem_of_mem_drop hk)
    ·exact .inl ⟨_,rfl,rfl,by simp only; omega,ho⟩
  ·have:g=false:=by simpa using hg
   subst this
   exact .inl ⟨_,rfl,rfl,by simp only; omega,ho⟩) (by
  rintro ⟨out,j⟩ ⟨hj,hol,ho⟩
  simp only at hj hol ho
  subst hj
  unfold kJ
  simp only
  rw [if_neg (by simp)]
  exact ⟨_,rfl,ho⟩) c.length 0 (([]:List Int),0) (by omega) ⟨rfl,by simp,by simp⟩
 have e:zAe c cl a d lk (([]:List Int),0)=some t:=e
 unfold kF
 rw [e]
 exact ⟨t,rfl,ht⟩
theorem zHt (fs:List xH) (h:fs.length≤100):zBM fs=some (fs.map (·.Pack)):=by
 obtain ⟨t,e,rfl⟩:=vI (b:=zBB fs) (fun i s=>s=((fs.take i).map (·.Pack),(i:Int))) fs.length (fun t=>t=fs.map (·.Pack)) (by
  rintro i s hi rfl
  unfold zBB
  simp only
  rw [if_pos (by simp; omega),zI hi]
  simp only [Option.bind_some]
  rw [zBy (by simp; omega) (by simp) (by decide),zM (by omega)]
  refine .inl ⟨_,rfl,?_⟩
  rw [List.take_succ_eq_append_getElem hi,List.map_append]
  rfl) (by
  rintro s rfl
  rw [List.take_length]
  unfold zBB
  simp only
  rw [if_neg (by simp)]
  exact ⟨_,rfl,rfl⟩) fs.length 0 (([]:List Int),0) (by omega) (by simp)
 have e:zCx fs (([]:List Int),0)=some _:=e
 unfold zBM
 rw [e]
 rfl
theorem zHH (a:List Int) (hn:a.Nodup) (hl:a.length≤100):∃r,zBR a=some r∧r.Pairwise (· < ·)∧(∀x,x∈r↔x∈a)∧r.length=a.length:=by
 obtain ⟨t,e,h1,h2,h3⟩:=vI (b:=zBI a) (fun i s=>s.2=(i:Int)∧s.1.Pairwise (· < ·)∧(∀x,x∈s.1↔x∈a.take i)∧s.1.length=i) a.length (fun t=>t.Pairwise (· < ·)∧(∀x,x∈t↔x∈a)∧t.length=a.length) (by
  rintro i ⟨o,j⟩ hi ⟨hj,h1,h2,h3⟩
  simp only at hj h1 h2 h3
  subst hj
  have hni:a[i]∉o:=by
   rw [h2]
   intro hm
   obtain ⟨k,hk,e⟩:=List.mem_take_iff_getElem.1 hm
   have hne:=List.pairwise_iff_getElem.1 hn k i (by omega) hi (by omega)
   exact hne e
  obtain ⟨r,er,g1,g2,g3⟩:=zMZ o a[i] h1 hni (by omega)
  unfold zBI
  simp only
  rw [if_pos (by simp; omega),zI hi]
  simp only [Option.bind_some,er]
  rw [zM (by omega)]
  refine .inl ⟨_,rfl,rfl,g1,fun x=>?_,by simp only; omega⟩
  simp only
  rw [g2,h2,List.take_succ_eq_append_getElem hi]
  simp only [List.mem_append,List.mem_singleton]) (by
  rintro ⟨o,j⟩ ⟨hj,h1,h2,h3⟩
  simp only at hj h1 h2 h3
  subst hj
  rw [List.take_length] at h2
  unfold zBI
  simp only
  rw [if_neg (by simp)]
  exact ⟨_,rfl,h1,h2,h3⟩) a.length 0 (([]:List Int),0) (by omega) ⟨rfl,by simp,by simp,rfl⟩
 have e:zCg a (([]:List Int),0)=some t:=e
 unfold zBR
 rw [e]
 exact ⟨t,rfl,h1,h2,h3⟩
def zO6 (c:List Pack) (r:SolveResult):Prop:=r.Set.Pairwise (· < ·)∧Places c r.Set∧r.Set.length≤60
theorem zL1 {c:List Pack} (hc:Cat c) (hcl:c.length≤25) {asks:List Term} (hk:asks.length≤1000) {lk:List Int} (hlk:lk.length≤1048576):∀(m n:Nat) (fs:List xH) (d:List Int),2*(60-n)+fs.length=m→n≤60→m≤120→(fs.map (·.Pack)).Nodup →Places c (fs.map (·.Pack))→fs.length≤n→
  (∀f∈fs,f.Denied.length+m≤120)→d.length+m≤120→∃r:SolveResult,loop (zCk c asks lk 60) (fs,d,(n:Int))=some (.ret r)∧zO6 c r:=by
 intro m
 induction m with
 |zero=>
  intro n fs d hm hn _ hnd hpl hfn hfd hdd
  have hf0:fs=[]:=List.length_eq_zero_iff.1 (by omega)
  subst hf0
  have hn60:n=60:=by omega
  subst hn60
  obtain ⟨cl,e1,hcl1⟩:=zIl hc hk hpl (by simp)
  obtain ⟨l,e2,hl⟩:=zJv hc hcl hcl1 hpl (by simp) (show d.length≤1048576 by omega) hlk
  rw [uF]
  unfold zCk
  simp only
  rw [zHt [] (by simp)]
  simp only [Option.bind_some,e1]
  by_cases h0:((cl.length:Int)==0)=true
  ·obtain ⟨r,e3,g1,g2,g3⟩:=zHH _ hnd (by simp)
   rw [if_pos h0,e3]
   exact ⟨_,rfl,g1,fun k hk=>hpl k ((g2 k).1 hk),by simp only; rw [g3]; simp⟩
  ·rw [if_neg h0,e2]
   simp only [Option.bind_some]
   by_cases h1:(l.length:Int)>0
   ·rw [if_pos (by simpa using h1)]
    exact ⟨_,rfl,by simp [zO6,Places]⟩
   ·rw [if_neg (by simpa using h1)]
    exact ⟨_,rfl,by simp [zO6,Places]⟩
 |succ m ih=>
  intro n fs d hm hn hm2 hnd hpl hfn hfd hdd
  obtain ⟨cl,e1,hcl1⟩:=zIl hc hk hpl (by simp; omega)
  obtain ⟨l,e2,hl⟩:=zJv hc hcl hcl1 hpl (by simp; omega) (show d.length≤1048576 by omega) hlk
  rw [uF]
  unfold zCk
  simp only
  rw [zHt fs (by omega)]
  simp only [Option.bind_some,e1]
  by_cases h0:((cl.length:Int)==0)=true
  ·obtain ⟨r,e3,g1,g2,g3⟩:=zHH _ hnd (by simp; omega)
   rw [if_pos h0,e3]
   exact ⟨_,rfl,g1,fun k hk=>hpl k ((g2 k).1 hk),by simp only; rw [g3]; simp; omega⟩
  ·rw [if_neg h0,e2]
   simp only [Option.bind_some]
   by_cases h1:(l.length:Int)>0
   ·rw [if_pos (by simpa using h1)]
    by_cases h60:((n:Int)==60)=true
    ·rw [if_pos h60]
     exact ⟨_,rfl,by simp [zO6,Places]⟩
    ·have hn60:n≠60:=fun e=>h60 (by rw [e]; rfl)
     obtain ⟨hx1,hx2⟩:=hl _ (List.getElem_mem (show 0<l.length by omega))
     rw [if_neg h60,show (0:Int)=((0:Nat):Int) from rfl,zI (show 0<l.length by omega)]
     simp only [Option.bind_some]
     rw [zBy (by omega) (by simp) (by decide),zM (by omega)]
     simp only [Option.bind_some,Lp.elim]
     refine ih (n+1) (fs++[{Pack:=l[0],Denied:=d}]) d (by simp; omega) (by omega) (by omega) ?_ ?_ (by simp; omega) ?_ (by omega)
     ·rw [List.map_append,List.nodup_append]
      refine ⟨hnd,by simp,fun x hx y hy=>?_⟩
      simp only [List.map_cons,List.map_nil,List.mem_singleton] at hy
      subst hy
      intro e
      subst e
      exact hx2 hx
     ·intro k hk
      rw [List.map_append,List.mem_append] at hk
      rcases hk with hk|hk
      ·exact hpl k hk
      ·simp only [List.map_cons,List.map_nil,List.mem_singleton] at hk
       subst hk
       exact hx1
     ·intro f hf
      rcases List.mem_append.1 hf with hf|hf
      ·have:=hfd f hf; omega
      ·rw [List.mem_singleton.1 hf]; simp only; omega
   ·rw [if_neg (by simpa using h1)]
    by_cases hf0:((fs.length:Int)==0)=true
    ·rw [if_pos hf0]
     exact ⟨_,rfl,by simp [zO6,Places]⟩
    ·have hfl:fs.length≠0:=by simpa using hf0
     have hlast:fs.length-1<fs.length:=by omega
     have l1:zEE fs 0 ((fs.length-1:Nat):Int)=some (fs.take (fs.length-1)):=by
      have:=zEq (xs:=fs) (l:=0) (h:=fs.length-1) (by omega) (by omega)
      simpa using this
     have hD:=hfd _ (List.getElem_mem hlast)
     rw [if_neg hf0,kG (x:=(fs.length:Int)-1) (by omega) (by omega),show (fs.length:Int)-1=((fs.length-1:Nat):Int) by omega,zI hlast,l1]
     simp only [Option.bind_some]
     rw [uH (by simp; omega) (by simp; omega)]
     simp only [Option.bind_some]
     rw [uH (by simp; omega) (by simp; omega)]
     simp only [Option.bind_some,Lp.elim]
     have hsub:(fs.take (fs.length-1)).Sublist fs:=List.take_sublist _ _
     refine ih n (fs.take (fs.length-1)) _ (by simp; omega) hn (by omega) (hnd.sublist (hsub.map _)) (fun k hk=>hpl k ((hsub.map _).subset hk)) (by simp; omega) (fun f hf=>?_) (by simp; omega)
     have:=hfd f (hsub.subset hf)
     omega
theorem zIe {c:List Pack} (hc:Cat c) (hcl:c.length≤25) {asks:List Term} (hk:asks.length≤1000) {lk:List Int} (hlk:lk.length≤1048576):∃r,kS c asks lk 60=some r∧zO6 c r:=by
 obtain ⟨r,e,h⟩:=zL1 hc hcl hk hlk 120 0 [] [] (by simp) (by omega) (by omega) (by simp) (by intro k hk; simp at hk) (by simp) (by simp) (by simp)
 have e:zCO c asks lk 60 (([]:List xH),([]:List Int),0)=some (.ret r):=e
 unfold kS
 rw [e]
 exact ⟨r,rfl,h⟩
theorem zM7 {b:Nat} {s:zD} (h:Sr b s) (hb:b+10000≤1000000000):∃c x y s',zDB s=some (c,x,y,s')∧DCt c∧x.length≤60∧y.length≤60∧Sr (b+5000) s':=by
 obtain ⟨c,s1,e1,hD,h1⟩:=zJa h (by omega)
 have hC:=hD.cat
 have hl:=hD.1
 have key:∃(x y:List Int) (s':zD),(if (CF c==0)=true then
   ((zA6 s1 c).bind fun x7=>
   (kS c x7.1 ([]:List Int) 60).bind fun x9=>
   (if x9.Code==0 then
     (some x9.Set)
    else
     (some ([]:List Int))).bind fun v12=>
   (zA6 x7.2 c).bind fun x13=>
   (zDF 1 (c.length:Int)).bind fun x15=>
   (zP x13.2 x15).bind fun x17=>
   (kS c x13.1 [x17.1] 60).bind fun x19=>
   (if x19.Code==0 then
     (some (decide ((c.length:Int)>0)))
    else
     (some false)).bind fun v22=>
   if v22 then
    (some (x17.2.Code,x17.2.At,v12,x19.Set))
   else
    (some (x17.2.Code,x17.2.At,v12,([]:List Int))))
  else
   (some (s1.Code,s1.At,([]:List Int),([]:List Int))))=some (s'.Code,s'.At,x,y)∧x.length≤60∧y.length≤60∧Sr (b+3000) s':=by
  cases CF c==0
  ·exact ⟨[],[],s1,rfl,by simp,by simp,h1.mono (by omega)⟩
  obtain ⟨l,s2,f1,hl1,g1⟩:=zK4 h1 (by omega) hl
  obtain ⟨r,f2,hr⟩:=zIe hC hl (asks:=l) (by omega) (lk:=[]) (by simp)
  obtain ⟨l2,s3,f3,hl2,g3⟩:=zK4 g1 (by omega) hl
  obtain ⟨m,f4⟩:∃m,zDF 1 (c.length:Int)=some m:=by
   unfold zDF
   split<;>exact ⟨_,rfl⟩
  obtain ⟨z,s4,f5,_,_,g5⟩:=zAg g3 (by omega) m
  obtain ⟨r2,f6,hr2⟩:=zIe hC hl (asks:=l2) (by omega) (lk:=[z]) (by simp)
  obtain ⟨x,f7,hx⟩:∃x:List Int,(if r.Code==0 then some r.Set else some ([]:List Int))=some x∧x.length≤60:=by
   cases r.Code==0
   ·exact ⟨[],rfl,by simp⟩
   ·exact ⟨r.Set,rfl,hr.2.2⟩
  rw [if_pos rfl,f1]
  simp only [Option.bind_some,f2,f7,f3,f4,f5,f6]
  cases r2.Code==0
  ·exact ⟨x,[],s4,rfl,hx,by simp,g5.mono (by omega)⟩
  ·cases hd:decide ((c.length:Int)>0)
   ·exact ⟨x,[],s4,by simp,hx,by simp,g5.mono (by omega)⟩
   ·exact ⟨x,r2.Set,s4,by simp,hx,hr2.2.2,g5.mono (by omega)⟩
 obtain ⟨x,y,s2,e2,hx,hy,h2⟩:=key
 have some_set:∀{b:Nat} {s:zD} (z:List Int),Sr b s→b+1000≤1000000000→z.length≤60→∀q:Bool,∃(w:List Int) (s':zD),(if q=true then (tJ s c).bind fun x28=>some (x28.2.Code,x28.2.At,x28.1) else some (s.Code,s.At,z))=some (s'.Code,s'.At,w)∧w.length≤60∧Sr (b+100) s':=by
  intro b s z hs hb hz q
  cases q
  ·exact ⟨z,s,rfl,hz,hs.mono (by omega)⟩
  ·obtain ⟨w,s',f,hw,g⟩:=zIX hs hb hC hl
   rw [if_pos rfl,f]
   exact ⟨w,s',rfl,by omega,g⟩
 obtain ⟨q,s3,e3,h3⟩:=kC (s:= {Code:=s2.Code,At:=s2.At}) h2 (by omega) 14
 obtain ⟨x2,s4,e4,hx2,h4⟩:=some_set x h3 (by omega) hx q
 obtain ⟨q2,s5,e5,h5⟩:=kC (s:= {Code:=s4.Code,At:=s4.At}) h4 (by omega) 14
 obtain ⟨y2,s6,e6,hy2,h6⟩:=some_set y h5 (by omega) hy q2
 unfold zDB
 rw [e1]
 simp only [Option.bind_some]
 rw [zEh c hC]
 simp only [Option.bind_some]
 rw [e2]
 simp only [Option.bind_some,e3,e4,e5,e6]
 exact ⟨c,x2,y2,s6,rfl,hD,hx2,hy2,h6.mono (by omega)⟩
theorem zKU {α R:Type} (f:Nat→α→Option R):∀(xs ys:List α) (i:Nat),vE f i (xs++ys)=(vE f i xs).or (vE f (i+xs.length) ys)
 |[],ys,i=>by simp [vE]
 |x::xs,ys,i=>by
  simp only [List.cons_append,vE,List.length_cons]
  cases f i x with
  |some r=>rfl
  |none=>simp only; rw [zKU f xs ys (i+1),show i+1+xs.length=i+(xs.length+1) by omega]
theorem zM5 {c:List Pack} {a:List Int} (hp:Places c a) (hn:a.Pairwise (· < ·)) {i:Nat} (hi:i<a.length):decide (zD9 c (a.take i) (uM c a[i])≥0)=(zD9 c a (uM c a[i]) !=a[i]):=by
 have hd:a.drop i=a[i]::a.drop (i+1):=List.drop_eq_getElem_cons hi
 have he:∀n,n=uM c a[i]→zD9 c a n=((vE (fun _ k=>if seq (pat c k).Name n then some k else none) 0 (a.take i)).or (some a[i])).getD (-1):=by
  intro n hn
  have key:=zKU (fun (_:Nat) k=>if seq (pat c k).Name n then some k else none) (a.take i) (a.drop i) 0
  rw [List.take_append_drop,hd] at key
  have:seq (pat c a[i]).Name n=true:=by rw [hn]; exact zGZ _
  simp only [vE,this,if_true] at key
  unfold zD9
  rw [key]
 rw [he _ rfl]
 unfold zD9
 rcases zI8 (q:=fun k=>seq (pat c k).Name (uM c a[i])) (a.take i) 0 with ⟨h1,_⟩|⟨k,hk,_,h1⟩
 ·rw [h1]
  simp
 ·rw [h1]
  have hka:k∈a:=List.mem_of_mem_take hk
  have hge:=(hp k hka).1
  obtain ⟨j,hj,e⟩:=List.mem_take_iff_getElem.1 hk
  have hlt:=List.pairwise_iff_getElem.1 hn j i (by omega) hi (by omega)
  have hne:k≠a[i]:=by omega
  have:decide ((some k).getD (-1)≥0)=true:=by simpa using hge
  rw [this]
  simpa using hne
def apB (c:List Pack) (a:List Int):Bool:=a.all fun k=>zD9 c a (uM c k)==k
theorem zKG {α R:Type} (p:α→Bool) (r:R):∀(xs:List α) (i:Nat),vE (fun _ x=>if p x then some r else none) i xs=if xs.all (fun x=> !(p x)) then none else some r
 |[],i=>rfl
 |x::xs,i=>by
  have ih:=zKG p r xs (i+1)
  simp only [vE,List.all_cons]
  by_cases h:p x=true
  ·simp [h]
  ·simp [h,ih]
theorem zGL {c:List Pack} {a:List Int} (hp:Places c a) (hn:a.Pairwise (· < ·)) (ha:a.length≤1048576):zAn c a=some (!(apB c a)):=by
 have key:=wQ a (fun _ k=>if zD9 c a (uM c k) !=k then some true else none) (b:=zCw c a) (by
  intro i hi
  have hk:=hp _ (List.getElem_mem hi)
  unfold zCw
  rw [if_pos (by simp; omega),zI hi,zFG (by omega)]
  simp only [Option.bind_some,(tQ hk).1]
  rw [(zEz (a:=a.take i) (fun k hk=>hp k (List.mem_of_mem_take hk)) (by simp; omega) _).2]
  simp only [Option.bind_some]
  have:=zM5 hp hn hi
  unfold uM at this ⊢
  rw [this,zM (by omega)]
  cases zD9 c a (pat c a[i]).Name !=a[i]<;>rfl) (by
  unfold zCw
  rw [if_neg (by simp)])
 rw [zKG] at key
 unfold zAn zCQ apB
 rw [key,zAV]
 have:(fun k=> !(zD9 c a (uM c k) !=k))=fun k=>zD9 c a (uM c k)==k:=by
  funext k
  simp [bne]
 rw [this]
 cases a.all fun k=>zD9 c a (uM c k)==k<;>rfl
def zGz (c:List Pack) (a b:List Int):Int:=if SF c a !=0 then SF c a else if SF c b !=0 then SF c b else if apB c a&&apB c b then 0 else 6
theorem zG9 {c:List Pack} {s:List Int} (hs:SF c s=0):CF c=0∧s.Pairwise (· < ·)∧Places c s∧s.length≤c.length:=by
 unfold SF at hs
 split at hs
 ·rename_i q; rw [hs] at q; cases q
 ·rename_i q
  refine ⟨by simpa using q,?_⟩
  split at hs
  ·rename_i h
   exact ⟨(zEB.1 h).1,(zEB.1 h).2,zI9 h⟩
  ·cases hs
theorem zNB {c:List Pack} {a b:List Int} (h1:SF c a=0) (h2:SF c b=0):Two c a b:=by
 obtain ⟨q0,q1,q2,q3⟩:=zG9 h1
 obtain ⟨_,r1,r2,r3⟩:=zG9 h2
 have hs:=Sml.of q0
 have:=hs.len
 exact ⟨hs,q2,r2,q1,r1,by omega,by omega⟩
theorem zL0 {c:List Pack} {a b:List Int} (hC:Cat c) (ha:a.length≤1048576) (hb:b.length≤1048576):zBr c a b=some (zGz c a b):=by
 unfold zBr zGz
 rw [zBf hC ha,zBf hC hb]
 simp only [Option.bind_some]
 rw [zG1]
 simp only [Option.bind_some]
 by_cases h1:SF c a=0
 ·by_cases h2:SF c b=0
  ·obtain ⟨_,q1,q2,_⟩:=zG9 h1
   obtain ⟨_,r1,r2,_⟩:=zG9 h2
   rw [zGL q2 q1 ha,zGL r2 r1 hb,h1,h2]
   cases apB c a<;>cases apB c b<;>rfl
  ·have e1:(SF c a !=0)=false:=by simpa using h1
   have e2:(SF c b !=0)=true:=by simpa using h2
   have e3:(SF c b==0)=false:=by simpa using h2
   rw [e1,e2]
   simp only [Bool.false_eq_true,if_false,if_true,e3,Option.bind_some]
 ·have e1:(SF c a !=0)=true:=by simpa using h1
  have e3:(SF c a==0)=false:=by simpa using h1
  rw [e1]
  simp only [if_true,e3,Bool.false_eq_true,if_false,Option.bind_some]
theorem zLp {c:List Pack} {a b:List Int} (h:zGz c a b=0):CF c=0∧Two c a b:=by
 unfold zGz at h
 split at h
 ·rename_i q; simp [h] at q
 rename_i h1
 split at h
 ·rename_i q; simp [h] at q
 rename_i h2
 have e1:SF c a=0:=by simpa using h1
 have e2:SF c b=0:=by simpa using h2
 exact ⟨(zG9 e1).1,zNB e1 e2⟩
theorem zJk {c:List Pack} {a b:List Int} (hC:Cat c) (ha:a.length≤1048576) (hb:b.length≤1048576):zCB c a b=some (if zGz c a b=0 then {Code:=0,Parts:=zC6 c a b} else {Code:=zGz c a b,Parts:=[]}):=by
 unfold zCB
 rw [zL0 hC ha hb]
 simp only [Option.bind_some]
 by_cases h:zGz c a b=0
 ·rw [if_neg (by simpa using h),if_pos h,(zG3 (zLp h).2).2]
  rfl
 ·rw [if_pos (by simpa using h),if_neg h]
theorem zJ7 (l:List ByteArray) (n:ByteArray) (h:l.length≤1048576):zBc l n=some (inN l n):=by
 have key:=wQ l (fun _ x=>if seq x n then some true else none) (b:=zCe l n) (by
  intro i hi
  unfold zCe
  rw [if_pos (by simp; omega),zI hi]
  simp only [Option.bind_some]
  rw [zM (by omega)]
  cases seq l[i] n<;>rfl) (by
  unfold zCe
  rw [if_neg (by simp)])
 unfold zBc zCD inN
 rw [key,zAV,←zFx (fun x=>seq x n) l 0]
 cases h2:vE (fun _ x=>if seq x n then some true else none) 0 l with
 |none=>rfl
 |some r=>rfl
theorem zOh {a:List Int} (h:a.length≤1048576):zDH a=some false:=by
 unfold zDH
 congr 1
 simp; omega
theorem zPl {c:List Pack} (h0:CF c=0) (a b:List Int) (ns:List ByteArray):SF c (mvL c a b ns)=0:=by
 unfold SF
 rw [h0,zEB.2 ⟨zFt _ _ _ _,zFd _ _ _ _⟩]
 rfl
theorem zIa {c:List Pack} {a b:List Int} (hC:Cat c) (h1:SF c a=0) (h2:SF c b=0) {ns:List ByteArray} (hn:ns.length≤24):zBo c a b ns=some {Code:=0,At:=0,Set:=mvL c a b ns}:=by
 have h:=zNB h1 h2
 have la:=h.la
 have lb:=h.lb
 unfold zBo
 rw [zBf hC (by omega),zBf hC (by omega),h1,h2]
 simp only [Option.bind_some]
 rw [zG1]
 have e:decide ((ns.length:Int)>24)=false:=by simp; omega
 simp only [Option.bind_some,bne_self_eq_false,Bool.false_eq_true,if_false,beq_self_eq_true,if_true,e]
 rw [zIy h.pa h.pb h.sa h.sb (by omega) (by omega) (by omega)]
 rfl
theorem zME {c:List Pack} {a:List Int} (ga:GoodS c a):apB c a=true:=by
 unfold apB
 rw [List.all_eq_true]
 intro k hk
 rw [zG4 ga hk]
 simp
theorem zLo {c:List Pack} {a b:List Int} (h1:SF c a=0) (h2:SF c b=0) (ga:GoodS c a) (gb:GoodS c b):zGz c a b=0:=by
 unfold zGz
 rw [h1,h2,zME ga,zME gb]
 rfl
theorem zKI {c:List Pack} {b:List Int} {Q:List Int→List ByteArray→Prop} {a e:List Int} {bs:List (List ByteArray)} {ss:List (List Int)} (h:Chn c b Q a bs ss e):∀i,(hi:i<ss.length)→∃h1:i<bs.length,Q ((a::ss).getD i []) bs[i]∧ss[i]=mvL c ((a::ss).getD i []) b bs[i]:=by
 induction h with
 |nil=>intro i hi; simp at hi
 |cons q _ ih=>
  intro i hi
  cases i with
  |zero=>exact ⟨by simp,q,rfl⟩
  |succ i=>
   obtain ⟨h1,h2,h3⟩:=ih i (by simp at hi; omega)
   exact ⟨by simp; omega,h2,h3⟩
theorem zOt {c:List Pack} {b:List Int} {Q:List Int→List ByteArray→Prop} {a e:List Int} {bs:List (List ByteArray)} {ss:List (List Int)} (h:Chn c b Q a bs ss e):(a::ss).getD ss.length []=e:=by
 induction h with
 |nil=>rfl
 |cons _ _ ih=>exact ih
theorem zFA {a:List Int} {ss:List (List Int)} {i:Nat} (hi:i<ss.length):(a::ss).getD (i+1) []=ss[i]:=by
 simp [List.getD,hi]
theorem zJw (x:List Int) (h:x.length≤1048576):zBl x x=some true:=by
 have key:zC0 x x 0=some (.nxt ()):=by
  unfold zC0
  refine zMi x.length (fun i hi=>?_) ?_
  ·unfold zDW
   rw [if_pos (by simp; omega),zI hi]
   simp only [Option.bind_some]
   rw [zM (by omega)]
   simp
  ·unfold zDW
   rw [if_neg (by simp)]
 unfold zBl
 rw [key]
 simp [Fl.go]
theorem zM9 {c:List Pack} {a b:List Int} (hC:Cat c) (ha:a.length≤1048576) (hb:b.length≤1048576) (code:List Int) (hl:code.length≤1048576) (hD:zA9 code=some (c,a,b)):zBL code=some true:=by
 have hW:=zMn hC ha hb
 unfold zBL zEc zC1
 rw [zOh hl,hD]
 simp only [Option.bind_some,Bool.false_eq_true,if_false]
 rw [hW]
 by_cases h0:zLK c a b=0
 ·obtain ⟨hc0,h,ga,gb⟩:=zKV hC h0
  have f1:SF c a=0:=by
   unfold zLK at h0
   split at h0
   ·rename_i q; simp [h0] at q
   ·rename_i q; simpa using q
  have f2:SF c b=0:=by
   unfold zLK at h0
   rw [f1] at h0
   simp only [bne_self_eq_false,Bool.false_eq_true,if_false] at h0
   split at h0
   ·rename_i q; simp [h0] at q
   ·rename_i q; simpa using q
  rw [if_pos h0]
  simp only [Option.bind_some,bne_self_eq_false,Bool.false_eq_true,if_false]
  rw [zJk hC ha hb,if_pos (zLo f1 f2 ga gb)]
  simp only [Option.bind_some]
  obtain ⟨s1,s2,s3⟩:=zGo h
  have hpair:(zC6 c a b).Pairwise (fun P Q=>∀x∈P,∀y∈Q,jB c a b x y=false∧x≠y):=zGA (K:=jB c a b) 24 (L:=chL c a b)
  obtain ⟨hch,hlen⟩:=zLl h ga gb
  have hbl:∀B∈(zGP c a b).1,B.length≤24:=by
   intro B hB
   have hs:=zHC (c:=c) (a:=a) (b:=b) s3 (zC6 c a b).length (Nat.le_refl _)
   rw [List.take_length] at hs
   obtain ⟨P,hP,q1,_⟩:=hs B hB
   have:=s2 P hP
   omega
  have hSl:(zGP c a b).2.length ≤576:=by
   have hq:=zIW h s3 s2 (zC6 c a b).length (Nat.le_refl _)
   rw [List.take_length] at hq
   have:(zGP c a b).2.length ≤24*(zC6 c a b).length :=hq.2.2
   omega
  have hBl:=hch.length
  generalize hB:(zGP c a b).1=B at hch hbl hlen hBl
  generalize hS:(zGP c a b).2=S at hch hSl hBl
  have hsf:∀i,i≤S.length→SF c ((a::S).getD i [])=0:=by
   intro i hi
   cases i with
   |zero=>exact f1
   |succ i=>
    obtain ⟨_,_,e⟩:=zKI hch i (by omega)
    rw [zFA (by omega),e]
    exact zPl hc0 _ _ _
  have hset:∀i,(hi:i<S.length)→S[i].length ≤1048576:=by
   intro i hi
   have:=hsf (i+1) (by omega)
   rw [zFA hi] at this
   have:=(zG9 this).2.2.2
   have:=hC.1
   omega
  have l2:∀(i:Nat) (hi:i<S.length) (z:List Int),zCM (c,a,b) {Code:=0,Sets:=S} {Code:=0,Parts:=B} {Code:=0,Parts:=zC6 c a b} ((a::S).getD i [],(i:Int)) z (0,0)=some (.nxt 1):=by
   intro i hi z
   obtain ⟨hiB,⟨hne,⟨P,hP,hsub⟩,_,_⟩,_⟩:=zKI hch i hi
   obtain ⟨q,hq,rfl⟩:=List.getElem_of_mem hP
   have hB0:0< (B[i]).length :=List.length_pos_iff.2 hne
   have hBi:=hbl _ (List.getElem_mem hiB)
   have hhas:∀k,(hk:k< (zC6 c a b).length)→inN ((zC6 c a b)[k]) ((B[i])[0])=decide (k=q):=by
    intro k hk
    have hx:=hsub _ (List.getElem_mem hB0)
    by_cases e:k=q
    ·subst e
     rw [zC2.2 hx]
     simp
    ·have:inN ((zC6 c a b)[k]) ((B[i])[0])=false:=by
      cases hin:inN ((zC6 c a b)[k]) ((B[i])[0]) with
      |false=>rfl
      |true=>
       have hin:=zC2.1 hin
       rcases Nat.lt_trichotomy k q with r|r|r
       ·exact absurd rfl (List.pairwise_iff_getElem.1 hpair k q hk hq r _ hin _ hx).2
       ·exact absurd r e
       ·exact absurd rfl (List.pairwise_iff_getElem.1 hpair q k hq hk r _ hx _ hin).2
     rw [this]
     simp [e]
   have l1:∀n:Int,zB1 (c,a,b) {Code:=0,Sets:=S} {Code:=0,Parts:=B} {Code:=0,Parts:=zC6 c a b} ((a::S).getD i [],(i:Int)) z (n,(q:Int)) 0=some (.nxt ()):=by
    intro n
    unfold zB1
    refine zMi (B[i]).length (fun j hj=>?_) ?_
    ·have hq24:=s2 _ (List.getElem_mem hq)
     unfold zD5
     simp only
     rw [zI hiB,zI hq]
     simp only [Option.bind_some]
     rw [if_pos (by simp; omega),zI hj]
     simp only [Option.bind_some]
     rw [zJ7 _ _ (by omega),zC2.2 (hsub _ (List.getElem_mem hj)),zM (by omega)]
     rfl
    ·unfold zD5
     simp only
     rw [zI hiB]
     simp only [Option.bind_some]
     rw [if_neg (by simp)]
   obtain ⟨t,e,rfl⟩:=vI (b:=zCb (c,a,b) {Code:=0,Sets:=S} {Code:=0,Parts:=B} {Code:=0,Parts:=zC6 c a b} ((a::S).getD i [],(i:Int)) z) (fun k s=>s=((if q<k then 1 else 0:Int),(k:Int))) (zC6 c a b).length (fun t=>t= .nxt 1) (by
    rintro k s hk rfl
    have hk24:=s2 _ (List.getElem_mem hk)
    refine .inl ⟨((if q<k+1 then 1 else 0:Int),((k+1:Nat):Int)),?_,rfl⟩
    unfold zCb
    simp only
    rw [if_pos (by simp; omega),zI hk,zI hiB]
    simp only [Option.bind_some]
    rw [show (0:Int)=((0:Nat):Int) from rfl,zI hB0]
    simp only [Option.bind_some]
    rw [zJ7 _ _ (by omega),hhas k hk,zM (by omega)]
    by_cases e:k=q
    ·subst e
     have e1:(if k<k then (1:Int) else ((0:Nat):Int))=0:=by simp
     have e2:(if k<k+1 then (1:Int) else ((0:Nat):Int))=1:=by simp
     have l1':=l1 0
     rw [show (0:Int)=((0:Nat):Int) from rfl] at l1'
     simp only [decide_true,if_true,Option.bind_some,e1,e2]
     rw [show (0:Int)=((0:Nat):Int) from rfl,l1']
     rfl
    ·have e1:(if q<k then (1:Int) else ((0:Nat):Int))=if q<k+1 then 1 else ((0:Nat):Int):=by
      by_cases h:q<k
      ·rw [if_pos h,if_pos (by omega)]
      ·rw [if_neg h,if_neg (by omega)]
     have ed:decide (k=q)=false:=by simpa using e
     rw [ed,e1]
     rfl) (by
    rintro s rfl
    unfold zCb
    simp only
    rw [if_neg (by simp),if_pos hq]
    exact ⟨_,rfl,rfl⟩) (zC6 c a b).length 0 (0,0) (by omega) (by simp)
   exact e
  obtain ⟨t,e3,rfl⟩:=vI (b:=zCh (c,a,b) {Code:=0,Sets:=S} {Code:=0,Parts:=B} {Code:=0,Parts:=zC6 c a b}) (fun i s=>s=((a::S).getD i [],(i:Int))) S.length (fun t=>t= .nxt b) (by
   rintro i s hi rfl
   obtain ⟨hiB,_,em⟩:=zKI hch i hi
   have hBi:=hbl _ (List.getElem_mem hiB)
   have hs:=hset i hi
   refine .inl ⟨_,?_,rfl⟩
   unfold zCh
   simp only
   have ed:decide ((i:Int)≥(B.length:Int))=false:=by simp; omega
   rw [if_pos (by simp; omega),ed,zI hiB,zI hi]
   simp only [Bool.false_eq_true,if_false,Option.bind_some]
   rw [zIa hC (hsf i (by omega)) f2 hBi,←em]
   simp only [Option.bind_some]
   rw [zJw _ hs]
   simp only [Option.bind_some,Bool.not_true,Bool.false_eq_true,if_false]
   rw [l2 i hi,zM (by omega),zFA hi]
   rfl) (by
   rintro s rfl
   unfold zCh
   simp only
   rw [if_neg (by simp),zOt hch]
   exact ⟨_,rfl,rfl⟩) S.length 0 (a,0) (by omega) rfl
  have e3:zCS (c,a,b) {Code:=0,Sets:=S} {Code:=0,Parts:=B} {Code:=0,Parts:=zC6 c a b} (a,0)=some (.nxt b):=e3
  have eC:kH c a S=some true:=by
   obtain ⟨t,e,rfl⟩:=vI (b:=zAP c S) (fun i s=>s=((a::S).getD i [],(i:Int))) S.length (fun t=>t= .nxt ()) (by
    rintro i s hi rfl
    obtain ⟨hiB,⟨_,_,hne,hf⟩,em⟩:=zKI hch i hi
    have hs:=hset i hi
    have hsi:=hsf (i+1) (by omega)
    rw [zFA hi] at hsi
    refine .inl ⟨_,?_,rfl⟩
    have hcon:zNE c S[i]=true:=by
     unfold zNE
     rw [hsi,em]
     exact hf
    unfold zAP
    simp only
    rw [if_pos (by simp; omega),zI hi]
    simp only [Option.bind_some]
    rw [zBf hC hs,hsi,zCW hC hs (by rw [hsi]; rfl),hcon,zLu _ _ hs,zM (by omega),zFA hi]
    have:decide (S[i]=(a::S).getD i [])=false:=by
     rw [em]
     exact decide_eq_false hne
    rw [this]
    rfl) (by
    rintro s rfl
    unfold zAP
    rw [if_neg (by simp)]
    exact ⟨_,rfl,rfl⟩) S.length 0 (a,0) (by omega) rfl
   have e:zBD c S (a,0)=some (.nxt ()):=e
   have hca:zNE c a=true:=by
    unfold zNE
    rw [f1,(zEC _ _).2 ga]
    rfl
   unfold kH
   rw [zBf hC ha,f1,zCW hC ha (by rw [f1]; rfl),hca,e]
   rfl
  have eL:zA0 c a b=some {Code:=0,Value:=((zC6 c a b).length :Int)}:=by
   unfold zA0
   rw [hW,if_pos h0,(zG3 h).2]
   rfl
  rw [e3,eC,eL]
  simp only [Fl.go,Option.bind_some,if_true]
  rw [zJw _ hb]
  simp only [Option.bind_some,if_true]
  congr 1
  simp; omega
 ·have:(zLK c a b !=0)=true:=by simpa using h0
  unfold zD8
  rw [if_neg h0,(zKH hC ha hb).1]
  simp only [Option.bind_some,this,if_true,beq_self_eq_true]
theorem zJN (a1:List Int) (k1:a1.length≤maxLen∧∀y1∈a1,IntKind.u8.min≤y1∧y1≤IntKind.u8.max):zBL a1=some true:=by
 by_cases h:a1.length≤1048576
 ·obtain ⟨s,e0,h0⟩:=zKu h (fun c hc=>by have:=k1.2 c hc; simpa [IntKind.min,IntKind.max,IntKind.signed,IntKind.bits] using this)
  obtain ⟨c,x,y,s',e,hD,hx,hy,_⟩:=zM7 h0 (by omega)
  refine zM9 hD.cat (a:=x) (b:=y) (by omega) (by omega) a1 h ?_
  unfold zA9
  rw [e0]
  simp only [Option.bind_some,e]
 ·unfold zBL zDH
  have:decide ((a1.length:Int)>1048576)=true:=by simp; omega
  rw [this]
  rfl
end Go.Told

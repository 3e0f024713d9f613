import Derived.Test.YtdeihchdibglaaaGreatToldFnFine
set_option linter.unusedVariables false
set_option maxRecDepth 4000
namespace Go.Told
open Go Go.Im
theorem uP {x:Int} (h1: -9223372036854775808≤x) (h2:x≤9223372036854775807):w64 x=x:=by
 unfold w64
 rw [IntKind.wrap_i64]
 omega
theorem zM {i:Nat} (h:i<9223372036854775807):w64 ((i:Int)+1)=((i+1:Nat):Int):=by
 rw [uP (by omega) (by omega)]; omega
theorem wJ {T:Type} {S:Type} {b:S→Option (Lp S T)} (I:Nat→S→Prop) (n:Nat) (Q:T→Prop) (hstep:∀i s,i<n→I i s→(∃s',b s=some (.go s')∧I (i+1) s')∨∃t,b s=some (.done t)∧Q t)
  (hend:∀s,I n s→∃t,b s=some (.done t)∧Q t):∀(k i:Nat) (s:S),i+k=n→I i s→∃t,loop b s=some t∧Q t
 |0,i,s,hk,hI=>by
  obtain ⟨t,h1,h2⟩:=hend s (by rw [show n=i by omega]; exact hI)
  exact ⟨t,by rw [vH,h1]; rfl,h2⟩
 |k+1,i,s,hk,hI=>by
  rcases hstep i s (by omega) hI with ⟨s',h1,h2⟩|⟨t,h1,h2⟩
  ·obtain ⟨t,h3,h4⟩:=wJ I n Q hstep hend k (i+1) s' (by omega) h2
   exact ⟨t,by rw [vH,h1]; exact h3,h4⟩
  ·exact ⟨t,by rw [vH,h1]; rfl,h2⟩
theorem zI {α:Type} {xs:List α} {i:Nat} (h:i<xs.length):idx xs (i:Int)=some xs[i]:=by
 unfold idx
 rw [if_pos (by omega)]
 simp [h]
theorem zMY {R:Type} (n:Nat) {b:Int→Option (Lp Int (Fl R Unit))} (hstep:∀i:Nat,i<n→b (i:Int)=some (.go ((i+1:Nat):Int))) (hend:b (n:Int)=some (.done (.nxt ()))):loop b 0=some (.nxt ()):=by
 obtain ⟨t,h1,h2⟩:=wJ (b:=b) (fun i s=>s=(i:Int)) n (fun t=>t= .nxt ()) (by
  rintro i s hi rfl
  exact .inl ⟨_,hstep i hi,rfl⟩) (by
  rintro s rfl
  exact ⟨_,hend,rfl⟩) n 0 0 (by omega) rfl
 rw [h1,h2]
theorem zJa {α β:Type} {xs:List α} {ys:List β} (h:xs.length=ys.length):same xs ys=some ():=if_pos h
theorem zFG (a:ByteArray):seq a a=true:=by
 unfold seq
 simp
def c1 {α:Type} (_:α):Int:=1
theorem vJ {α:Type} {B:Nat} {xs ys:List α} (h:(xs.length+ys.length)*B≤140737488355328) (h2:xs.length+ys.length≤4611686018427387904):app B xs ys=some (xs++ys):=if_pos ⟨h,h2⟩
theorem zGN {S T:Type} {b:S→Option (Lp S T)} (I:S→Prop) (μ:S→Nat) (Q:T→Prop) (step:∀s,I s→(∃s',b s=some (.go s')∧I s'∧μ s'<μ s)∨∃t,b s=some (.done t)∧Q t):∀(n:Nat) (s:S),μ s≤n→I s→∃t,loop b s=some t∧Q t
 |0,s,hn,hI=>by
  rcases step s hI with ⟨s',_,_,h3⟩|⟨t,h1,h2⟩
  ·omega
  ·exact ⟨t,by rw [vH,h1]; rfl,h2⟩
 |n+1,s,hn,hI=>by
  rcases step s hI with ⟨s',h1,h2,h3⟩|⟨t,h1,h2⟩
  ·obtain ⟨t,h4,h5⟩:=zGN I μ Q step n s' (by omega) h2
   exact ⟨t,by rw [vH,h1]; exact h4,h5⟩
  ·exact ⟨t,by rw [vH,h1]; rfl,h2⟩
def yB.sm (B:Nat) (x:yB):Prop:=(True)∧(x.Names.length≤B∧∀y0∈x.Names,y0.size≤B)
def jN.sm (B:Nat) (x:jN):Prop:=(True)∧(True)∧(x.Set.length≤B∧∀y0∈x.Set,True)
def SolveResult.sm (B:Nat) (x:SolveResult):Prop:=(True)∧(True)∧(x.Set.length≤B∧∀y0∈x.Set,True)
def zD.sm (B:Nat) (x:zD):Prop:=(x.Code.length≤B∧∀y0∈x.Code,True)∧(True)
def Version.sm (B:Nat) (x:Version):Prop:=(True)∧(True)∧(True)
def Term.sm (B:Nat) (x:Term):Prop:=(x.Name.size≤B)∧(Version.sm B x.Low)∧(Version.sm B x.High)
def Pack.sm (B:Nat) (x:Pack):Prop:=(x.Name.size≤B)∧(Version.sm B x.Version)∧(True)∧(x.Provides.length≤B∧∀y0∈x.Provides,y0.size≤B)∧(x.Needs.length≤B∧∀y0∈x.Needs,y0.length≤B∧∀y1∈y0,Term.sm B y1)∧(x.Bars.length≤B∧∀y0∈x.Bars,Term.sm B y0)
def zP.sm (B:Nat) (x:zP):Prop:=(True)∧(True)∧(True)
def yU.sm (B:Nat) (x:yU):Prop:=(True)∧(x.Denied.length≤B∧∀y0∈x.Denied,True)
def bl (s:ByteArray):List Int:=s.toList.map (fun b=>(b.toNat:Int))
theorem zE9 (s:ByteArray):(bl s).length =s.size:=by
 unfold bl
 rw [List.length_map,ByteArray.toList_eq]
 rfl
theorem zHZ {s:ByteArray} {i:Nat} (h:i< (bl s).length):bidx s (i:Int)=some (bl s)[i]:=by
 unfold bidx
 rw [if_pos (by omega)]
 have hs:i<s.size:=by rw [zE9] at h; exact h
 have e:s[(i:Int).toNat]? =some s[i]:=by simp [hs]
 rw [e]
 simp only [Option.map_some,bl,List.getElem_map]
 congr 2
 simp only [ByteArray.toList_eq]
 rfl
theorem zGO:∀(a:List UInt8),Op.bytesLess a a=false
 |[]=>rfl
 |x::a=>by simp [Op.bytesLess,zGO a]
theorem zH5:∀{a b c:List UInt8},Op.bytesLess a b=true→Op.bytesLess b c=true→Op.bytesLess a c=true
 |_,[],_,h,_=>by simp [Op.bytesLess] at h
 |_,_::_,[],_,h=>by simp [Op.bytesLess] at h
 |[],_::_,_::_,_,_=>by simp [Op.bytesLess]
 |x::a,y::b,z::c,h1,h2=>by
  simp only [Op.bytesLess,Bool.or_eq_true,decide_eq_true_eq,Bool.and_eq_true,beq_iff_eq] at h1 h2 ⊢
  rcases h1 with h1|⟨rfl,h1⟩
  ·rcases h2 with h2|⟨rfl,h2⟩
   ·exact .inl (UInt8.lt_trans h1 h2)
   ·exact .inl h1
  ·rcases h2 with h2|⟨rfl,h2⟩
   ·exact .inl h2
   ·exact .inr ⟨rfl,zH5 h1 h2⟩
theorem toList_inj {a b:ByteArray} (h:a.toList=b.toList):a=b:=by
 rw [ByteArray.toList_eq,ByteArray.toList_eq] at h
 cases a; cases b
 simp at h
 rw [h]
theorem zCL (a:ByteArray):slt a a=false:=zGO _
theorem zEc {a b c:ByteArray} (h1:slt a b=true) (h2:slt b c=true):slt a c=true:=zH5 h1 h2
theorem zI4 {a b:ByteArray} (h:slt a b=true):slt b a=false:=by
 cases h2:slt b a with
 |false=>rfl
 |true=>have:=zEc h h2; rw [zCL] at this; cases this
theorem zE5 {a b:ByteArray}:seq a b=true↔a=b:=by
 unfold seq
 simp only [beq_iff_eq]
 exact ⟨toList_inj,fun e=>by rw [e]⟩
theorem seq_eq (a b:ByteArray):seq a b=decide (a=b):=by
 rw [Bool.eq_iff_iff,zE5]; simp
def inB (a b c:Int):Bool:=decide (b≤a)&&decide (a≤c)
theorem zJe (a b c:Int):uM a b c=some (inB a b c):=by
 unfold uM inB
 by_cases h:a≥b<;>simp [h]
theorem zGA (a b c:Int):vF a b c=some (inB a b c):=by
 unfold vF inB
 by_cases h:b≤a<;>simp [h]
section del
variable {α:Type} (p:α→Bool)
theorem zEi {xs:List α} {l h:Nat} (h1:l≤h) (h2:h≤xs.length):zE7 xs (l:Int) (h:Int)=some ((xs.drop l).take (h-l)):=by
 unfold zE7
 rw [if_pos (by omega)]
 rfl
end del
section del
variable {α:Type} (p:α→Bool)
theorem zKC {xs:List α} {l n:Nat} {a:α} (h:l+n≤xs.length):zLo xs (l:Int) n a=some (xs.take l++List.replicate n a++xs.drop (l+n)):=by
 unfold zLo
 rw [if_pos (by omega)]
 simp [ovr]
end del
section del
variable {α:Type} (p:α→Bool)
theorem zMo {R:Type} (a1:List α) (out:Int→R) {b:Int→Option (Lp Int (Fl R Unit))} (hl:a1.length<9223372036854775807)
  (hstep:∀(i:Nat) (hi:i<a1.length),b (i:Int)=some (if p a1[i] then .done (.ret (out i)) else .go ((i+1:Nat):Int))) (hend:b (a1.length:Int)=some (.done (.nxt ()))):
  ∃t,loop b 0=some t∧((t= .nxt ()∧∀x∈a1,p x=false)∨∃i:Nat,∃hi:i<a1.length,t= .ret (out i)∧p a1[i]=true∧∀x∈a1.take i,p x=false):=by
 refine wJ (b:=b) (fun i s=>s=(i:Int)∧∀x∈a1.take i,p x=false) a1.length _ (by
  rintro i s hi ⟨rfl,hn⟩
  have e:=hstep i hi
  cases hp:p a1[i]
  ·rw [hp] at e
   refine .inl ⟨_,e,rfl,fun x hx=>?_⟩
   rw [List.take_succ_eq_append_getElem hi] at hx
   rcases List.mem_append.1 hx with hx|hx
   ·exact hn x hx
   ·simp at hx; rw [hx]; exact hp
  ·rw [hp] at e
   exact .inr ⟨_,e,.inr ⟨i,hi,rfl,hp,hn⟩⟩) (by
  rintro s ⟨rfl,hn⟩
  rw [List.take_length] at hn
  exact ⟨_,hend,.inl ⟨rfl,hn⟩⟩) a1.length 0 0 (by omega) ⟨rfl,by simp⟩
end del
section del
variable {α:Type} (p:α→Bool)
theorem zGr {xs:List α} {i:Nat} {x:α} (h:i<xs.length):(xs.set i x).take (i+1)=xs.take i++[x]:=by
 rw [List.take_succ_eq_append_getElem (by simpa using h),List.take_set_of_le (Nat.le_refl _)]
 simp
end del
section del
variable {α:Type} (p:α→Bool)
theorem set_drop {xs:List α} {i j:Nat} {x:α} (h:i<j):(xs.set i x).drop j=xs.drop j:=by
 rw [List.drop_set_of_lt h]
end del
section del
variable {α:Type} (p:α→Bool)
theorem zLu (a:List α) {b:(List α×Int×Int)→Option (Lp (List α×Int×Int) (List α×Int))} (hl:a.length<9223372036854775807)
  (hstep:∀(xs:List α) (i j:Nat) (hj:j<xs.length),i≤j→xs.length=a.length→xs[j]∈a→b (xs,(i:Int),(j:Int))=some (.go (if p xs[j] then (xs,(i:Int),((j+1:Nat):Int)) else (xs.set i xs[j],((i+1:Nat):Int),((j+1:Nat):Int)))))
  (hend:∀(xs:List α) (i:Nat),xs.length=a.length→b (xs,(i:Int),(xs.length:Int))=some (.done (xs,(i:Int)))) (i0 j0:Nat) (hij:i0≤j0) (hj0:j0≤a.length) (h0:a.take i0=(a.take j0).filter (fun x=> !p x)):
  ∃ys:List α,loop b (a,(i0:Int),(j0:Int))=some (ys,((a.filter (fun x=> !p x)).length :Int))∧ys.length=a.length∧ys.take (a.filter (fun x=> !p x)).length =a.filter (fun x=> !p x):=by
 obtain ⟨t,e,h⟩:=wJ (b:=b) (fun j s=>s.1.length=a.length∧s.1.drop j=a.drop j∧s.2.2=(j:Int)∧∃i:Nat,s.2.1=(i:Int)∧i≤j∧s.1.take i=(a.take j).filter (fun x=> !p x)) a.length
  (fun t=>t.1.length=a.length∧∃i:Nat,t.2=(i:Int)∧i≤a.length∧t.1.take i=a.filter (fun x=> !p x)) (by
  rintro j ⟨xs,i',j'⟩ hj ⟨hxl,hxd,hjj,i,hi,hle,ht⟩
  simp only at hxl hxd hjj hi ht
  subst hjj hi
  have hjx:j<xs.length:=by omega
  have hx:xs[j]=a[j]:=by
   have:=congrArg (fun l=>l[0]?) hxd
   simp only [List.getElem?_drop,Nat.add_zero] at this
   rw [List.getElem?_eq_getElem hjx,List.getElem?_eq_getElem hj] at this
   exact Option.some.inj this
  have e:=hstep xs i j hjx hle hxl (by rw [hx]; exact List.getElem_mem hj)
  have htk:(a.take (j+1)).filter (fun x=> !p x)=(a.take j).filter (fun x=> !p x)++(if p a[j] then [] else [a[j]]):=by
   rw [List.take_succ_eq_append_getElem hj,List.filter_append]
   cases h:p a[j]<;>simp [h]
  have hd1:a.drop (j+1)=xs.drop (j+1):=by
   have:=congrArg (List.drop 1) hxd
   simpa [List.drop_drop] using this.symm
  rw [hx] at e
  cases hp:p a[j]
  ·rw [hp] at e htk
   refine .inl ⟨_,e,by simpa using hxl,?_,rfl,i+1,rfl,by omega,?_⟩
   ·show (xs.set i a[j]).drop (j+1)=a.drop (j+1)
    rw [set_drop (by omega),hd1]
   ·show (xs.set i a[j]).take (i+1)=_
    rw [zGr (by omega),htk,ht]
    rfl
  ·rw [hp] at e htk
   refine .inl ⟨_,e,hxl,?_,rfl,i,rfl,by omega,?_⟩
   ·exact hd1.symm
   ·show xs.take i=_
    rw [htk,ht]
    simp) (by
  rintro ⟨xs,i',j'⟩ ⟨hxl,hxd,hjj,i,hi,hle,ht⟩
  simp only at hxl hxd hjj hi ht
  subst hjj hi
  have e:=hend xs i hxl
  rw [hxl] at e
  refine ⟨_,e,hxl,i,rfl,hle,?_⟩
  rw [List.take_length] at ht
  exact ht) (a.length-j0) j0 (a,(i0:Int),(j0:Int)) (by omega) ⟨rfl,rfl,rfl,i0,rfl,hij,h0⟩
 obtain ⟨ys,i'⟩:=t
 obtain ⟨h1,i,h2,h3,h4⟩:=h
 simp only at h1 h2 h4
 subst h2
 have hlen:i=(a.filter (fun x=> !p x)).length :=by rw [←h4]; simp; omega
 subst hlen
 exact ⟨ys,e,h1,h4⟩
end del
section del
variable {α:Type} (p:α→Bool)
theorem zMM {a ys:List α} (zero:α) (h1:ys.length=a.length) (h2:ys.take (a.filter (fun x=> !p x)).length =a.filter (fun x=> !p x)):
  (zE7 ys ((a.filter (fun x=> !p x)).length :Int) (ys.length:Int)).bind (fun r=>(zLo ys ((a.filter (fun x=> !p x)).length :Int) r.length zero).bind fun z=>(zE7 z 0 ((a.filter (fun x=> !p x)).length :Int)).bind fun q=>some q)=some (a.filter (fun x=> !p x)):=by
 have hle:(a.filter (fun x=> !p x)).length ≤ys.length:=by rw [h1]; exact List.length_filter_le _ _
 rw [zEi hle (Nat.le_refl _)]
 simp only [Option.bind_some]
 rw [zKC (by simp; omega)]
 simp only [Option.bind_some]
 have:zE7 (List.take (List.filter (fun x=> !p x) a).length ys++List.replicate (List.take (ys.length-(List.filter (fun x=> !p x) a).length) (List.drop (List.filter (fun x=> !p x) a).length ys)).length zero++
   List.drop ((List.filter (fun x=> !p x) a).length +(List.take (ys.length-(List.filter (fun x=> !p x) a).length) (List.drop (List.filter (fun x=> !p x) a).length ys)).length) ys) ((0:Nat):Int) ((a.filter (fun x=> !p x)).length :Int)=some (a.filter (fun x=> !p x)):=by
  rw [zEi (by omega) (by simp; omega)]
  rw [h2]
  simp
 exact (congrArg (fun o=>Option.bind o fun q=>some q) this)
end del
section del
variable {α:Type} (p:α→Bool)
theorem zLn (a:List α) (zero:α) (hl:a.length≤1048577) {b1:Int→Option (Lp Int (Fl Int Unit))} {b2:(List α×Int×Int)→Option (Lp (List α×Int×Int) (List α×Int))}
  (h1:∀(i:Nat) (hi:i<a.length),b1 (i:Int)=some (if p a[i] then .done (.ret (i:Int)) else .go ((i+1:Nat):Int))) (h1e:b1 (a.length:Int)=some (.done (.nxt ())))
  (h2:∀(xs:List α) (i j:Nat) (hj:j<xs.length),i≤j→xs.length=a.length→xs[j]∈a→b2 (xs,(i:Int),(j:Int))=some (.go (if p xs[j] then (xs,(i:Int),((j+1:Nat):Int)) else (xs.set i xs[j],((i+1:Nat):Int),((j+1:Nat):Int)))))
  (h2e:∀(xs:List α) (i:Nat),xs.length=a.length→b2 (xs,(i:Int),(xs.length:Int))=some (.done (xs,(i:Int)))):
  ((loop b1 0).bind (Fl.go some fun _=>some (-1))).bind (fun x4=>if x4==(-1) then (some a) else ((loop b2 (a,x4,w64 (x4+1))).bind fun v26=>(zE7 v26.1 v26.2 (v26.1.length:Int)).bind fun x27=>(zLo v26.1 v26.2 x27.length zero).bind fun x29=>(zE7 x29 0 v26.2).bind fun x31=>some x31))=some (a.filter (fun x=> !p x)):=by
 obtain ⟨t,e,h⟩:=zMo p a (fun i=>i) (b:=b1) (by omega) h1 h1e
 rw [e]
 rcases h with ⟨rfl,hn⟩|⟨i,hi,rfl,hp,hn⟩
 ·show some a=_
  congr 1
  exact (List.filter_eq_self.2 (fun x hx=>by rw [hn x hx]; rfl)).symm
 ·simp only [Option.bind_some,Fl.go]
  rw [if_neg (by simp),zM (by omega)]
  obtain ⟨ys,e2,h3,h4⟩:=zLu p a (b:=b2) (by omega) h2 h2e i (i+1) (by omega) (by omega) (by
   rw [List.take_succ_eq_append_getElem hi,List.filter_append]
   rw [List.filter_eq_self.2 (fun x hx=>by rw [hn x hx]; rfl)]
   simp [hp])
  rw [e2]
  simp only [Option.bind_some]
  exact zMM p zero h3 h4
end del
def wI {α R:Type} (g:Nat→α→Option R):Nat→List α→Option R
 |_,[]=>none
 |i,x::xs=>match g i x with
  |some r=>some r
  |none=>wI g (i+1) xs
def frs {R:Type}:Option R→Fl R Unit
 |some r=>.ret r
 |none=>.nxt ()
theorem zHw {α R:Type} (xs:List α) (g:Nat→α→Option R) {b:Int→Option (Lp Int (Fl R Unit))}
  (hstep:∀(i:Nat) (hi:i<xs.length),b (i:Int)=some (match g i xs[i] with|some r=>.done (.ret r)|none=>.go ((i+1:Nat):Int))) (hend:b (xs.length:Int)=some (.done (.nxt ()))):
  ∀(k i:Nat),i+k=xs.length→loop b (i:Int)=some (frs (wI g i (xs.drop i)))
 |0,i,h=>by
  have e:i=xs.length:=by omega
  subst e
  rw [vH,hend,List.drop_length]
  rfl
 |k+1,i,h=>by
  have hi:i<xs.length:=by omega
  have ih:=zHw xs g hstep hend k (i+1) (by omega)
  rw [vH,hstep i hi,List.drop_eq_getElem_cons hi]
  simp only [wI]
  cases g i xs[i] with
  |some r=>rfl
  |none=>exact ih
theorem xX {α R:Type} (xs:List α) (g:Nat→α→Option R) {b:Int→Option (Lp Int (Fl R Unit))}
  (hstep:∀(i:Nat) (hi:i<xs.length),b (i:Int)=some (match g i xs[i] with|some r=>.done (.ret r)|none=>.go ((i+1:Nat):Int))) (hend:b (xs.length:Int)=some (.done (.nxt ()))):
  loop b 0=some (frs (wI g 0 xs)):=by
 have:=zHw xs g hstep hend xs.length 0 (by omega)
 simpa using this
theorem zAo {R T:Type} (o:Option R) (f:R→Option T) (h:Unit→Option T):(some (frs o)).bind (Fl.go f h)=match o with|some r=>f r|none=>h ():=by
 cases o<;>rfl
theorem zBX {α:Type} (p:α→Bool):∀(xs:List α) (i:Nat),((wI (fun j x=>if p x then some (j:Int) else none) i xs).getD (-1)≥0)↔xs.any p=true
 |[],i=>by simp [wI]
 |x::xs,i=>by
  simp only [wI]
  cases h:p x
  ·simp only [Bool.false_eq_true,if_false,List.any_cons,h,Bool.false_or]
   exact zBX p xs (i+1)
  ·simp [h]
theorem zFi {α:Type} (p:α→Bool):∀(xs:List α) (i:Nat),(wI (fun _ x=>if p x then some true else none) i xs).getD false=xs.any p
 |[],i=>rfl
 |x::xs,i=>by
  simp only [wI]
  cases h:p x
  ·simp only [Bool.false_eq_true,if_false,List.any_cons,h,Bool.false_or]
   exact zFi p xs (i+1)
  ·simp [h]
def foldI {α A:Type} (f:Nat→A→α→A):Nat→List α→A→A
 |_,[],a=>a
 |i,x::xs,a=>foldI f (i+1) xs (f i a x)
theorem zEG {α A:Type} (xs:List α) (f:Nat→A→α→A) (I:Nat→A→Prop) {b:(A×Int)→Option (Lp (A×Int) A)}
  (hstep:∀(i:Nat) (a:A) (hi:i<xs.length),I i a→b (a,(i:Int))=some (.go (f i a xs[i],((i+1:Nat):Int)))∧I (i+1) (f i a xs[i])) (hend:∀a,b (a,(xs.length:Int))=some (.done a)):
  ∀(k i:Nat) (a:A),i+k=xs.length→I i a→loop b (a,(i:Int))=some (foldI f i (xs.drop i) a)∧I xs.length (foldI f i (xs.drop i) a)
 |0,i,a,h,hI=>by
  have e:i=xs.length:=by omega
  subst e
  rw [vH,hend,List.drop_length]
  exact ⟨rfl,hI⟩
 |k+1,i,a,h,hI=>by
  have hi:i<xs.length:=by omega
  obtain ⟨h1,h2⟩:=hstep i a hi hI
  have ih:=zEG xs f I hstep hend k (i+1) _ (by omega) h2
  rw [vH,h1,List.drop_eq_getElem_cons hi]
  exact ih
theorem zDY {o:Option Int} {b:Bool} (h:(o.getD (-1)≥0)↔b=true):decide (o.getD (-1)≥0)=b:=by
 rw [Bool.eq_iff_iff,decide_eq_true_eq]; exact h
theorem zJH:∀(a b:List UInt8),(Lib.compareBytes a b<0↔Op.bytesLess a b=true)∧(Lib.compareBytes a b=0↔a=b)
 |[],[]=>by simp [Lib.compareBytes,Op.bytesLess]
 |[],_::_=>by simp [Lib.compareBytes,Op.bytesLess]
 |_::_,[]=>by simp [Lib.compareBytes,Op.bytesLess]
 |x::a,y::b=>by
  obtain ⟨ih1,ih2⟩:=zJH a b
  simp only [Lib.compareBytes,Op.bytesLess]
  by_cases h1:x<y
  ·simp [h1]
   intro e; subst e; exact absurd h1 (by simp [UInt8.lt_irrefl])
  ·by_cases h2:y<x
   ·simp [h1,h2]
    have hne:x≠y:=fun e=>by subst e; exact absurd h2 (by simp [UInt8.lt_irrefl])
    simp [hne]
   ·have e:x=y:=by
     rw [UInt8.lt_iff_toNat_lt] at h1 h2
     exact UInt8.toNat_inj.1 (by omega)
    subst e
    simp [UInt8.lt_irrefl,ih1,ih2]
theorem zMT (a b:ByteArray):zO4 a b<0↔slt a b=true:=by
 unfold zO4 slt
 rw [ByteArray.toList_eq,ByteArray.toList_eq]
 exact (zJH _ _).1
theorem zFq (l:List Int) (v:Int) (h:l.length≤1048576):wF l v=some (decide (v∈l)):=by
 obtain ⟨t,e,ht⟩:=wJ (b:=zDn l v) (fun i s=>s=(i:Int)∧v∉l.take i) l.length (fun t=>match t with| .ret r=>r=true∧v∈l| .nxt _=>v∉l) (by
  rintro i s hi ⟨rfl,hv⟩
  unfold zDn
  rw [if_pos (by simp; omega)]
  simp only [zI hi,Option.bind_some]
  by_cases hc:l[i]=v
  ·rw [if_pos (by simpa using hc)]
   exact .inr ⟨_,rfl,rfl,hc▸List.getElem_mem hi⟩
  ·rw [if_neg (by simpa using hc),zM (by omega)]
   refine .inl ⟨_,rfl,rfl,?_⟩
   rw [List.take_succ_eq_append_getElem hi]
   simp only [List.mem_append,List.mem_singleton,not_or]
   exact ⟨hv,fun e=>hc e.symm⟩) (by
  rintro s ⟨rfl,hv⟩
  unfold zDn
  rw [if_neg (by simp)]
  rw [List.take_length] at hv
  exact ⟨_,rfl,hv⟩) l.length 0 0 (by omega) ⟨rfl,by simp⟩
 unfold wF
 rw [show zD6 l v 0=some t from e]
 cases t with
 |ret r=>obtain ⟨rfl,hm⟩:=ht; simp [Fl.go,hm]
 |nxt _=>simp only [Fl.go,Option.bind_some]; rw [decide_eq_false ht]
def zL9 (c:Int):Bool:=decide (97≤c)&&decide (c≤122)
def zIo (c:Int):Bool:=decide (48≤c)&&decide (c≤57)
def zLv (c:Int):Bool:=zL9 c||(zIo c||c==95)
theorem zG9 (c:Int):tC c=some (zL9 c):=by
 unfold tC zL9
 by_cases h:c≥97<;>simp [h]
theorem zKo (c:Int):zBz c=some (zIo c):=by
 unfold zBz zIo
 by_cases h:c≥48<;>simp [h]
theorem zKS (c:Int):zDv c=some (zLv c):=by
 unfold zDv zLv
 simp only [zG9,zKo,Option.bind_some]
 cases zL9 c<;>cases zIo c<;>simp
theorem zHQ (c:Int):zAi c=some (zLv c):=by
 unfold zAi zLv zL9 zIo
 by_cases h1:c≥97<;>by_cases h2:c≤122<;>by_cases h3:c≥48<;>by_cases h4:c≤57<;>simp [h1,h2,h3,h4]
def zHR (s:ByteArray):Int:=(wI (fun _ c=>if zLv c then none else some (5:Int)) 0 (bl s)).getD 0
def NF (s:ByteArray):Int:=if s.size<1 then 5 else if s.size>12 then 5 else if zL9 ((bl s).headD 0) then zHR s else 5
theorem zKF {s:ByteArray} (h:1≤s.size):bidx s 0=some ((bl s).headD 0):=by
 have h':0< (bl s).length :=by rw [zE9]; exact h
 have e:=zHZ (s:=s) (i:=0) h'
 rw [show ((0:Nat):Int)=0 from rfl] at e
 rw [e]
 have:(bl s)[0]? =some ((bl s).headD 0):=by
  cases hb:bl s with
  |nil=>rw [hb] at h'; simp at h'
  |cons c l=>rfl
 rw [List.getElem?_eq_getElem h'] at this
 exact this
theorem zH9 (s:ByteArray) (h:s.size≤12):kJ s 0=some (frs (wI (fun _ c=>if zLv c then none else some (5:Int)) 0 (bl s))):=by
 unfold kJ
 refine xX (bl s) _ (fun i hi=>?_) ?_
 ·have hs:i<s.size:=by rw [←zE9]; exact hi
  unfold zCc
  rw [if_pos (by simp; omega),zHZ hi]
  simp only [Option.bind_some,zKS]
  rw [zM (by omega)]
  cases zLv (bl s)[i]<;>rfl
 ·unfold zCc
  rw [if_neg (by rw [zE9]; simp)]
theorem zHH (s:ByteArray) (h:s.size≤12):kP s 0=some (frs (wI (fun _ c=>if zLv c then none else some (5:Int)) 0 (bl s))):=by
 unfold kP
 refine xX (bl s) _ (fun i hi=>?_) ?_
 ·have hs:i<s.size:=by rw [←zE9]; exact hi
  unfold zCd
  rw [if_pos (by simp; omega),zHZ hi]
  simp only [Option.bind_some,zHQ]
  rw [zM (by omega)]
  cases zLv (bl s)[i]<;>rfl
 ·unfold zCd
  rw [if_neg (by rw [zE9]; simp)]
theorem zE6 (s:ByteArray):vW s=some (NF s):=by
 unfold vW NF
 by_cases h1:s.size<1
 ·rw [if_pos (show decide ((s.size:Int)<1)=true by rw [decide_eq_true_eq]; omega),if_pos h1]; rfl
 rw [if_neg (show ¬decide ((s.size:Int)<1)=true by rw [decide_eq_true_eq]; omega),if_neg h1]
 by_cases h2:s.size>12
 ·rw [if_pos (show decide ((s.size:Int)>12)=true by rw [decide_eq_true_eq]; omega),if_pos h2]; rfl
 rw [if_neg (show ¬decide ((s.size:Int)>12)=true by rw [decide_eq_true_eq]; omega),if_neg h2,zKF (by omega),zH9 s (by omega)]
 simp only [Option.bind_some,zG9]
 cases h3:zL9 ((bl s).headD 0)
 ·rfl
 ·unfold zHR
  cases wI (fun _ c=>if zLv c then none else some (5:Int)) 0 (bl s)<;>rfl
theorem zLW (c:Int):(if decide (c<97)=true then some true else some (decide (c>122)))=some (!(zL9 c)):=by
 unfold zL9
 by_cases h3:c<97
 ·rw [if_pos (by rw [decide_eq_true_eq]; exact h3)]
  have:decide (97≤c)=false:=by rw [decide_eq_false_iff_not]; omega
  rw [this]; rfl
 ·rw [if_neg (by rw [decide_eq_true_eq]; exact h3)]
  have:decide (97≤c)=true:=by rw [decide_eq_true_eq]; omega
  rw [this]
  congr 1
  rw [Bool.true_and,Bool.eq_iff_iff]
  simp
theorem zE4 (s:ByteArray):uE s=some (NF s):=by
 unfold uE NF
 by_cases h1:s.size<1
 ·rw [if_pos (show decide ((s.size:Int)<1)=true by rw [decide_eq_true_eq]; omega),if_pos h1]; rfl
 rw [if_neg (show ¬decide ((s.size:Int)<1)=true by rw [decide_eq_true_eq]; omega),if_neg h1]
 by_cases h2:s.size>12
 ·rw [if_pos (show decide ((s.size:Int)>12)=true by rw [decide_eq_true_eq]; omega),if_pos h2]; rfl
 rw [if_neg (show ¬decide ((s.size:Int)>12)=true by rw [decide_eq_true_eq]; omega),if_neg h2,zKF (by omega),zHH s (by omega)]
 simp only [Option.bind_some,zLW]
 cases h3:zL9 ((bl s).headD 0)
 ·rfl
 ·unfold zHR
  cases wI (fun _ c=>if zLv c then none else some (5:Int)) 0 (bl s)<;>rfl
def VF (v:Version):Int:=if inB v.A 0 999&&inB v.B 0 999&&inB v.C 0 999 then 0 else 3
theorem zE8 (v:Version):wT v=some (VF v):=by
 unfold wT VF
 simp only [zJe,Option.bind_some]
 cases inB v.A 0 999<;>cases inB v.B 0 999<;>cases inB v.C 0 999<;>rfl
theorem zEF (v:Version):wS v=some (VF v):=by
 unfold wS VF
 simp only [zGA,Option.bind_some]
 cases inB v.A 0 999<;>cases inB v.B 0 999<;>cases inB v.C 0 999<;>rfl
def sgn (a b:Int):Int:=if a<b then-1 else if a>b then 1 else 0
theorem zL4 (a b:Int):kY a b=some (sgn a b):=by
 unfold kY sgn
 by_cases h:a<b
 ·simp [h]
 ·by_cases h2:a>b<;>simp [h,h2]
theorem cmp_eq (a b:Int):wP a b=some (sgn a b):=by
 unfold wP jA sgn
 simp only [Option.bind_some,bne_self_eq_false,Bool.false_eq_true,if_false]
 by_cases h:a<b
 ·simp [h]
 ·by_cases h2:a>b<;>simp [h,h2]
def zHo (a b:Version):Int:=if sgn a.A b.A≠0 then sgn a.A b.A else if sgn a.B b.B≠0 then sgn a.B b.B else sgn a.C b.C
theorem zBb (a b:Version):yG a b=some (zHo a b):=by
 unfold yG zHo
 simp only [zL4,Option.bind_some]
 by_cases h1:sgn a.A b.A=0
 ·by_cases h2:sgn a.B b.B=0<;>simp [h1,h2]
 ·simp [h1]
theorem zNj (l:List Int) (h:l.length≤10):loop (zCZ l) 0=some (frs (wI (fun _ c=>if c !=0 then some c else none) 0 l)):=by
 refine xX l _ (fun i hi=>?_) ?_
 ·unfold zCZ
  rw [if_pos (by simp; omega),zI hi]
  simp only [Option.bind_some]
  rw [zM (by omega)]
  cases l[i] !=0<;>rfl
 ·unfold zCZ
  rw [if_neg (by simp)]
theorem zGg (a b:Version):tL a b=some (zHo a b):=by
 unfold tL zHo zEq zDG
 simp only [cmp_eq,Option.bind_some]
 rw [zNj _ (by simp),zAo]
 by_cases h1:sgn a.A b.A=0
 ·by_cases h2:sgn a.B b.B=0
  ·by_cases h3:sgn a.C b.C=0<;>simp [h1,h2,h3,wI]
  ·simp [h1,h2,wI]
 ·simp [h1,wI]
theorem zL0 (a b:Version):zHo b a= -zHo a b:=by
 unfold zHo sgn
 split<;>split<;>omega
def eqV (a b:Version):Bool:=a.A==b.A&&(a.B==b.B&&(a.C==b.C&&true))
theorem zLh (a b:Version):(zHo a b==0)=eqV a b:=by
 unfold zHo eqV sgn
 rw [Bool.eq_iff_iff]
 simp only [beq_iff_eq,Bool.and_eq_true,Bool.and_true]
 constructor
 ·intro h
  split at h<;>omega
 ·intro ⟨h1,h2,h3⟩
  split<;>omega
def zNL:Version:= {A:=1000,B:=0,C:=0}
def TF (t:Term):Int:=if NF t.Name≠0 then NF t.Name else if VF t.Low≠0 then VF t.Low else
 if eqV t.High zNL=false∧VF t.High≠0 then 3 else if zHo t.Low t.High≥0 then 1 else 0
theorem zHh (t:Term):zAX t=some (TF t):=by
 unfold zAX TF zAt
 simp only [zE6,zE8,zBb,Option.bind_some]
 show (if (NF t.Name !=0)=true then some (NF t.Name) else if (VF t.Low !=0)=true then some (VF t.Low) else (if (!(eqV t.High zNL))=true then some (VF t.High !=0) else some false).bind fun v=>if v=true then some 3 else if decide (zHo t.Low t.High≥0)=true then some 1 else some 0)=_
 generalize NF t.Name=a
 generalize VF t.Low=b
 generalize eqV t.High zNL=c
 generalize VF t.High=d
 generalize zHo t.Low t.High=e
 by_cases h1:a=0
 ·by_cases h2:b=0
  ·by_cases h4:d=0<;>by_cases h5:e≥0<;>cases c<;>simp [h1,h2,h4,h5]
  ·simp [h1,h2]
 ·simp [h1]
theorem zHg (t:Term):zAU t=some (TF t):=by
 unfold zAU TF zES
 simp only [zE4,zEF,zGg,Option.bind_some]
 show (if (NF t.Name !=0)=true then some (NF t.Name) else if (VF t.Low !=0)=true then some (VF t.Low) else (if (!(eqV t.High zNL))=true then some (VF t.High !=0) else some false).bind fun v=>if v=true then some 3 else if decide (zHo t.Low t.High≥0)=true then some 1 else some 0)=_
 generalize NF t.Name=a
 generalize VF t.Low=b
 generalize eqV t.High zNL=c
 generalize VF t.High=d
 generalize zHo t.Low t.High=e
 by_cases h1:a=0
 ·by_cases h2:b=0
  ·by_cases h4:d=0<;>by_cases h5:e≥0<;>cases c<;>simp [h1,h2,h4,h5]
  ·simp [h1,h2]
 ·simp [h1]
def tsF (l:List Term):Int:=(wI (fun _ t=>if TF t !=0 then some (TF t) else none) 0 l).getD 0
theorem zGm (l:List Term) (h:l.length≤1048576):kG l=some (tsF l):=by
 have key:=xX l (fun _ t=>if TF t !=0 then some (TF t) else none) (b:=zBT l) (by
  intro i hi
  unfold zBT
  rw [if_pos (by simp; omega),zI hi]
  simp only [Option.bind_some,zHh]
  rw [zM (by omega)]
  cases TF l[i] !=0<;>rfl) (by
  unfold zBT
  rw [if_neg (by simp)])
 unfold kG zCy tsF
 rw [key,zAo]
 cases wI (fun _ t=>if TF t !=0 then some (TF t) else none) 0 l<;>rfl
theorem zFe (l:List Term) (h:l.length≤1048576):vZ l=some (tsF l):=by
 have key:=xX l (fun _ t=>if TF t !=0 then some (TF t) else none) (b:=zAc l) (by
  intro i hi
  unfold zAc
  rw [if_pos (by simp; omega),zI hi]
  simp only [Option.bind_some,zHg]
  rw [zM (by omega)]
  cases TF l[i] !=0<;>rfl) (by
  unfold zAc
  rw [if_neg (by simp)])
 unfold vZ zAI tsF
 rw [key,zAo]
 cases wI (fun _ t=>if TF t !=0 then some (TF t) else none) 0 l<;>rfl
theorem zHX (a b:ByteArray):seq a b=seq b a:=by
 unfold seq
 rw [Bool.eq_iff_iff]
 simp only [beq_iff_eq]
 exact eq_comm
theorem zFd {α R:Type} (g:Nat→α→Option R):∀(xs:List α) (i:Nat),wI g i xs=none↔∀(j:Nat) (h:j<xs.length),g (i+j) xs[j]=none
 |[],i=>by simp [wI]
 |x::xs,i=>by
  simp only [wI]
  cases h:g i x with
  |some r=>
   simp only [reduceCtorEq,false_iff]
   intro hh
   have:=hh 0 (by simp)
   simp only [Nat.add_zero,List.getElem_cons_zero] at this
   rw [h] at this
   cases this
  |none=>
   show wI g (i+1) xs=none↔_
   rw [zFd g xs (i+1)]
   constructor
   ·intro hh j hj
    cases j with
    |zero=>simpa using h
    |succ j=>
     have:=hh j (by simpa using hj)
     rw [show i+(j+1)=i+1+j by omega]
     simpa using this
   ·intro hh j hj
    have:=hh (j+1) (by simpa using hj)
    rw [show i+(j+1)=i+1+j by omega] at this
    simpa using this
theorem zFp {α:Type} {xs:List α} {i:Nat} (h:i≤xs.length):zE7 xs 0 (i:Int)=some (xs.take i):=by
 have:=zEi (xs:=xs) (l:=0) (h:=i) (by omega) h
 rw [show ((0:Nat):Int)=0 from rfl] at this
 rw [this]
 simp
theorem zDy (l:List ByteArray) (n:ByteArray) (h:l.length≤1048576):wG l n=some (l.any fun x=>seq x n):=by
 have key:=xX l (fun _ x=>if seq x n then some true else none) (b:=zBQ l n) (by
  intro i hi
  unfold zBQ
  rw [if_pos (by simp; omega),zI hi]
  simp only [Option.bind_some]
  rw [zM (by omega)]
  cases seq l[i] n<;>rfl) (by
  unfold zBQ
  rw [if_neg (by simp)])
 unfold wG zCH
 rw [key,zAo,←zFi (fun x=>seq x n) l 0]
 cases wI (fun _ x=>if seq x n then some true else none) 0 l<;>rfl
theorem zDJ (l:List ByteArray) (n:ByteArray) (h:l.length≤1048576):xL l n=some (l.any fun x=>seq x n):=by
 have key:=xX l (fun i x=>if seq x n then some (i:Int) else none) (b:=uL l n) (by
  intro i hi
  unfold uL
  rw [if_pos (by simp; omega),zI hi]
  simp only [Option.bind_some]
  rw [zM (by omega),zHX n]
  cases seq l[i] n<;>rfl) (by
  unfold uL
  rw [if_neg (by simp)])
 unfold xL tK uU
 rw [key,zAo]
 rw [←zDY (zBX (fun x=>seq x n) l 0)]
 cases wI (fun j x=>if seq x n then some (j:Int) else none) 0 l<;>rfl
def zJn (p:Pack) (i:Nat) (n:ByteArray):Option Int:=if NF n !=0 then some (NF n) else if seq n p.Name||(p.Provides.take i).any (fun x=>seq x n) then some 6 else none
def zJc (_:Nat) (l:List Term):Option Int:=if (l.length:Int)==0 then some 1 else if tsF l !=0 then some (tsF l) else none
def zJJ (p:Pack):Bool:=decide ((p.Provides.length:Int)>4)||(decide ((p.Needs.length:Int)>4)||(decide ((p.Bars.length:Int)>4)||p.Needs.any (fun l=>decide ((l.length:Int)>4))))
def zIn (p:Pack):Int:=match wI (zJn p) 0 p.Provides with
 |some r=>r
 |none=>match wI zJc 0 p.Needs with
  |some r=>r
  |none=>tsF p.Bars
def PF (p:Pack):Int:=if NF p.Name !=0 then NF p.Name else if VF p.Version !=0 then VF p.Version else if !(inB p.Size 1 200) then 3 else if zJJ p then 2 else zIn p
theorem zGz (p:Pack) (hp:Pack.sm 1048576 p):((kT p 0).bind (Fl.go some fun v60=>(kQ p 0).bind (Fl.go some fun v80=>(kG p.Bars).bind fun x81=>some x81)))=some (zIn p):=by
 obtain ⟨_,_,_,hpr,hne,hba⟩:=hp
 have k2:=xX p.Provides (zJn p) (b:=zAC p) (by
  intro i hi
  unfold zAC zJn
  rw [if_pos (by simp; omega),zI hi]
  simp only [Option.bind_some,zE6]
  rw [zFp (by omega)]
  simp only [Option.bind_some]
  rw [zDy _ _ (by simp; omega),zM (by omega)]
  simp only [Option.bind_some]
  cases NF p.Provides[i] !=0<;>cases seq p.Provides[i] p.Name<;>cases (p.Provides.take i).any (fun x=>seq x p.Provides[i])<;>rfl) (by
  unfold zAC
  rw [if_neg (by simp)])
 have k3:=xX p.Needs zJc (b:=zAz p) (by
  intro i hi
  unfold zAz zJc
  rw [if_pos (by simp; omega),zI hi]
  simp only [Option.bind_some]
  rw [zGm _ (hne.2 _ (List.getElem_mem hi)).1,zM (by omega)]
  simp only [Option.bind_some]
  cases (p.Needs[i].length :Int)==0<;>cases tsF p.Needs[i] !=0<;>rfl) (by
  unfold zAz
  rw [if_neg (by simp)])
 unfold kT kQ zIn
 rw [k2,k3,zGm _ hba.1]
 cases wI (zJn p) 0 p.Provides<;>cases wI zJc 0 p.Needs<;>rfl
theorem zGq (p:Pack) (hp:Pack.sm 1048576 p):((kS p 0).bind (Fl.go some fun v46=>(kW p 0).bind (Fl.go some fun v62=>(vZ p.Bars).bind fun x63=>some x63)))=some (zIn p):=by
 obtain ⟨_,_,_,hpr,hne,hba⟩:=hp
 have k2:=xX p.Provides (zJn p) (b:=zAF p) (by
  intro i hi
  unfold zAF zJn
  rw [if_pos (by simp; omega),zI hi]
  simp only [Option.bind_some,zE4]
  rw [zFp (by omega)]
  simp only [Option.bind_some]
  rw [zDJ _ _ (by simp; omega),zM (by omega)]
  simp only [Option.bind_some]
  cases NF p.Provides[i] !=0<;>cases seq p.Provides[i] p.Name<;>cases (p.Provides.take i).any (fun x=>seq x p.Provides[i])<;>rfl) (by
  unfold zAF
  rw [if_neg (by simp)])
 have k3:=xX p.Needs zJc (b:=zAJ p) (by
  intro i hi
  unfold zAJ zJc
  rw [if_pos (by simp; omega),zI hi]
  simp only [Option.bind_some]
  rw [zFe _ (hne.2 _ (List.getElem_mem hi)).1,zM (by omega)]
  simp only [Option.bind_some]
  cases (p.Needs[i].length :Int)==0<;>cases tsF p.Needs[i] !=0<;>rfl) (by
  unfold zAJ
  rw [if_neg (by simp)])
 unfold kS kW zIn
 rw [k2,k3,zFe _ hba.1]
 cases wI (zJn p) 0 p.Provides<;>cases wI zJc 0 p.Needs<;>rfl
theorem zFk {α R:Type} (p:α→Bool) (r:R):∀(xs:List α) (i:Nat),wI (fun _ x=>if p x then some r else none) i xs=if xs.any p then some r else none
 |[],i=>rfl
 |x::xs,i=>by
  simp only [wI]
  cases h:p x
  ·simp only [Bool.false_eq_true,if_false,List.any_cons,h,Bool.false_or]
   exact zFk p r xs (i+1)
  ·simp [h]
theorem zHj (p:Pack) (hp:Pack.sm 1048576 p):zAT p=some (PF p):=by
 have hl:=zGz p hp
 obtain ⟨_,_,_,hpr,hne,hba⟩:=hp
 have k1:=xX p.Needs (fun _ l=>if decide ((l.length:Int)>4) then some (2:Int) else none) (b:=zA9 p) (by
  intro i hi
  unfold zA9
  rw [if_pos (by simp; omega),zI hi]
  simp only [Option.bind_some]
  rw [zM (by omega)]
  cases decide ((p.Needs[i].length :Int)>4)<;>rfl) (by
  unfold zA9
  rw [if_neg (by simp)])
 rw [zFk] at k1
 unfold zAT PF zJJ
 simp only [zE6,zE8,zJe,Option.bind_some]
 rw [hl]
 unfold zBl
 rw [k1]
 cases NF p.Name !=0<;>cases VF p.Version !=0<;>cases inB p.Size 1 200<;>cases decide ((p.Provides.length:Int)>4)<;>cases decide ((p.Needs.length:Int)>4)<;>cases decide ((p.Bars.length:Int)>4)<;>cases p.Needs.any (fun l=>decide ((l.length:Int)>4))<;>rfl
theorem zJu (l:List Int) (h:l.length≤10):loop (zAG l) 0=some (frs (wI (fun _ c=>if c !=0 then some c else none) 0 l)):=by
 refine xX l _ (fun i hi=>?_) ?_
 ·unfold zAG
  rw [if_pos (by simp; omega),zI hi]
  simp only [Option.bind_some]
  rw [zM (by omega)]
  cases l[i] !=0<;>rfl
 ·unfold zAG
  rw [if_neg (by simp)]
theorem zHc (p:Pack) (hp:Pack.sm 1048576 p):zAV p=some (PF p):=by
 have hl:=zGq p hp
 obtain ⟨_,_,_,hpr,hne,hba⟩:=hp
 have k1:=xX p.Needs (fun i l=>if decide ((l.length:Int)>4) then some (i:Int) else none) (b:=yO p.Needs) (by
  intro i hi
  unfold yO zAu
  rw [if_pos (by simp; omega),zI hi]
  simp only [Option.bind_some]
  rw [zM (by omega)]
  cases decide ((p.Needs[i].length :Int)>4)<;>rfl) (by
  unfold yO
  rw [if_neg (by simp)])
 have k2:zS p.Needs=some (p.Needs.any (fun l=>decide ((l.length:Int)>4))):=by
  unfold zS yH yT
  rw [k1,zAo,←zDY (zBX (fun l:List Term=>decide ((l.length:Int)>4)) p.Needs 0)]
  cases wI (fun j (x:List Term)=>if decide ((x.length:Int)>4) then some (j:Int) else none) 0 p.Needs<;>rfl
 have k3:vB [NF p.Name,VF p.Version]=some (if NF p.Name !=0 then NF p.Name else VF p.Version):=by
  have k:=zJu [NF p.Name,VF p.Version] (by simp)
  unfold vB kU
  rw [k,zAo]
  simp only [wI]
  cases hn:NF p.Name !=0
  ·cases hv:VF p.Version !=0
   ·have:VF p.Version=0:=by simpa using hv
    simp [this]
   ·rfl
  ·rfl
 unfold zAV PF zJJ
 simp only [zE4,zEF,zGA,Option.bind_some]
 rw [hl,k2,k3]
 simp only [Option.bind_some]
 cases hn:NF p.Name !=0
 ·simp only [Bool.false_eq_true,if_false]
  cases VF p.Version !=0<;>cases inB p.Size 1 200<;>cases decide ((p.Provides.length:Int)>4)<;>cases decide ((p.Needs.length:Int)>4)<;>cases decide ((p.Bars.length:Int)>4)<;>cases p.Needs.any (fun l=>decide ((l.length:Int)>4))<;>rfl
 ·simp only [if_true,hn]
def isB (n:ByteArray) (v:Version) (q:Pack):Bool:=seq q.Name n&&eqV q.Version v
def zK0 (c:List Pack) (n:ByteArray) (v:Version):Int:=(wI (fun i q=>if isB n v q then some (i:Int) else none) 0 c).getD (-1)
theorem zI2 (c:List Pack) (n:ByteArray) (v:Version):decide (zK0 c n v≥0)=c.any (isB n v):=zDY (zBX (isB n v) c 0)
theorem zH2 (c:List Pack) (n:ByteArray) (v:Version) (h:c.length≤1048576):zAQ c n v=some (zK0 c n v):=by
 have key:=xX c (fun i q=>if isB n v q then some (i:Int) else none) (b:=zCt c n v) (by
  intro i hi
  unfold zCt isB
  rw [if_pos (by simp; omega),zI hi]
  simp only [Option.bind_some,zBb,zLh]
  rw [zM (by omega)]
  cases seq c[i].Name n<;>cases eqV c[i].Version v<;>rfl) (by
  unfold zCt
  rw [if_neg (by simp)])
 unfold zK0
 unfold zAQ zCX
 rw [key,zAo]
 cases wI (fun i q=>if isB n v q then some (i:Int) else none) 0 c<;>rfl
theorem zKi (c:List Pack) (n:ByteArray) (v:Version) (h:c.length≤1048576):zDZ c n v=some (zK0 c n v):=by
 have key:=xX c (fun i q=>if isB n v q then some (i:Int) else none) (b:=xQ c n v) (by
  intro i hi
  unfold xQ isB zDP
  rw [if_pos (by simp; omega),zI hi]
  simp only [Option.bind_some]
  rw [zM (by omega)]
  show (Option.bind (if seq c[i].Name n=true then some (eqV c[i].Version v) else some false) _)=_
  cases seq c[i].Name n<;>cases eqV c[i].Version v<;>rfl) (by
  unfold xQ
  rw [if_neg (by simp)])
 unfold zK0
 unfold zDZ xE xU
 rw [key,zAo]
 cases wI (fun i q=>if isB n v q then some (i:Int) else none) 0 c<;>rfl
theorem find_spec (c:List Pack) (n:ByteArray) (v:Version) (h:c.length≤1048576):∃k,zAQ c n v=some k∧decide (k≥0)=c.any (isB n v):=⟨_,zH2 c n v h,zI2 c n v⟩
theorem zLy (c:List Pack) (n:ByteArray) (v:Version) (h:c.length≤1048576):∃k,zDZ c n v=some k∧decide (k≥0)=c.any (isB n v):=⟨_,zKi c n v h,zI2 c n v⟩
def zLB (c:List Pack) (i:Nat) (p:Pack):Option Int:=if PF p !=0 then some (PF p) else if (c.take i).any (isB p.Name p.Version) then some 6 else none
def CF (c:List Pack):Int:=if decide ((c.length:Int)>24) then 2 else (wI (zLB c) 0 c).getD 0
theorem zDR (c:List Pack) (hc:c.length≤1048576∧∀y0∈c,Pack.sm 1048576 y0):wK c=some (CF c):=by
 have key:=xX c (zLB c) (b:=jJ c) (by
  intro i hi
  unfold jJ zLB
  rw [if_pos (by simp; omega),zI hi]
  simp only [Option.bind_some]
  rw [zHj _ (hc.2 _ (List.getElem_mem hi)),zFp (by omega)]
  simp only [Option.bind_some]
  obtain ⟨k,e,hk⟩:=find_spec (c.take i) c[i].Name c[i].Version (by simp; omega)
  rw [e,zM (by omega)]
  simp only [Option.bind_some]
  rw [hk]
  cases PF c[i] !=0<;>cases (c.take i).any (isB c[i].Name c[i].Version)<;>rfl) (by
  unfold jJ
  rw [if_neg (by simp)])
 unfold wK CF jX
 rw [key,zAo]
 cases decide ((c.length:Int)>24)<;>cases wI (zLB c) 0 c<;>rfl
theorem zGb (c:List Pack) (hc:c.length≤1048576∧∀y0∈c,Pack.sm 1048576 y0):tQ c=some (CF c):=by
 have key:=xX c (zLB c) (b:=jH c) (by
  intro i hi
  unfold jH zLB
  rw [if_pos (by simp; omega),zI hi]
  simp only [Option.bind_some]
  rw [zHc _ (hc.2 _ (List.getElem_mem hi)),zFp (by omega)]
  simp only [Option.bind_some]
  obtain ⟨k,e,hk⟩:=zLy (c.take i) c[i].Name c[i].Version (by simp; omega)
  rw [e,zM (by omega)]
  simp only [Option.bind_some]
  rw [hk]
  cases PF c[i] !=0<;>cases (c.take i).any (isB c[i].Name c[i].Version)<;>rfl) (by
  unfold jH
  rw [if_neg (by simp)])
 unfold tQ CF jW
 rw [key,zAo]
 cases decide ((c.length:Int)>24)<;>cases wI (zLB c) 0 c<;>rfl
def noPack:Pack:= {Name:=ByteArray.empty,Version:= {A:=0,B:=0,C:=0},Size:=0,Provides:=[],Needs:=[],Bars:=[]}
def pat (c:List Pack) (k:Int):Pack:=(idx c k).getD noPack
def Places (c:List Pack) (a:List Int):Prop:=∀k∈a,0≤k∧k<c.length
theorem vR {c:List Pack} {k:Int} (h:0≤k∧k<c.length):idx c k=some (pat c k)∧pat c k∈c:=by
 unfold pat idx
 rw [if_pos h.1]
 have:k.toNat<c.length:=by omega
 rw [List.getElem?_eq_getElem this]
 exact ⟨rfl,List.getElem_mem this⟩
def Cat (c:List Pack):Prop:=c.length≤1048576∧∀y0∈c,Pack.sm 1048576 y0
theorem Cat.zMC {c:List Pack} (hc:Cat c) {k:Int} (h:0≤k∧k<c.length):(pat c k).Provides.length ≤1048576:=(hc.2 _ (vR h).2).2.2.2.1.1
theorem Cat.needs {c:List Pack} (hc:Cat c) {k:Int} (h:0≤k∧k<c.length):(pat c k).Needs.length ≤1048576:=(hc.2 _ (vR h).2).2.2.2.2.1.1
theorem Cat.clause {c:List Pack} (hc:Cat c) {k:Int} (h:0≤k∧k<c.length) {l:List Term} (hl:l∈(pat c k).Needs):l.length≤1048576:=((hc.2 _ (vR h).2).2.2.2.2.1.2 l hl).1
theorem Cat.bars {c:List Pack} (hc:Cat c) {k:Int} (h:0≤k∧k<c.length):(pat c k).Bars.length ≤1048576:=(hc.2 _ (vR h).2).2.2.2.2.2.1
def zK4 (c:List Pack) (a:List Int) (i:Nat) (k:Int):Option Bool:=if !(inB k 0 ((c.length:Int)-1))||(decide (0<i)&&decide (k≤a.getD (i-1) 0)) then some false else none
def zMf (c:List Pack) (a:List Int):Bool:=(wI (zK4 c a) 0 a).isNone
theorem getD_lt {a:List Int} {i:Nat} (h:i<a.length):a.getD i 0=a[i]:=by simp [List.getD,h]
theorem zJN {c:List Pack} {a:List Int} (hc:c.length≤1048576) (ha:a.length≤1048576):zDT c a=some (zMf c a):=by
 have key:=xX a (zK4 c a) (b:=zDk c a) (by
  intro i hi
  unfold zDk zK4
  rw [if_pos (by simp; omega),zI hi,uP (x:=(c.length:Int)-1) (by omega) (by omega)]
  simp only [Option.bind_some,zJe]
  by_cases h0:0<i
  ·rw [uP (x:=(i:Int)-1) (by omega) (by omega),show (i:Int)-1=((i-1:Nat):Int) by omega,zI (show i-1<a.length by omega),getD_lt (show i-1<a.length by omega)]
   have e:decide ((i:Int)>0)=true:=by simp; omega
   have e2:decide (0<i)=true:=by simpa using h0
   rw [e,e2,zM (by omega)]
   simp only [Option.bind_some,Bool.true_and]
   cases inB a[i] 0 ((c.length:Int)-1)<;>cases decide (a[i]≤a[i-1])<;>rfl
  ·have e:decide ((i:Int)>0)=false:=by simp; omega
   have e2:decide (0<i)=false:=by simpa using h0
   rw [e,e2,zM (by omega)]
   cases inB a[i] 0 ((c.length:Int)-1)<;>rfl) (by
  unfold zDk
  rw [if_neg (by simp)])
 unfold zDT zD3 zMf
 rw [key,zAo]
 have hf:∀(l:List Int) (i:Nat),wI (zK4 c a) i l=none∨wI (zK4 c a) i l=some false:=by
  intro l
  induction l with
  |nil=>intro i; exact .inl rfl
  |cons x l ih=>
   intro i
   simp only [wI]
   cases hg:zK4 c a i x with
   |none=>exact ih (i+1)
   |some r=>
    unfold zK4 at hg
    split at hg
    ·cases hg; exact .inr rfl
    ·cases hg
 rcases hf a 0 with h|h<;>rw [h]<;>rfl
def SF (c:List Pack) (a:List Int):Int:=if CF c !=0 then CF c else if zMf c a then 0 else 1
theorem zFE {c:List Pack} {a:List Int} (hc:Cat c) (ha:a.length≤1048576):kD c a=some (SF c a):=by
 unfold kD SF
 rw [zDR c hc,zJN hc.1 ha]
 simp only [Option.bind_some]
 cases CF c !=0<;>cases zMf c a<;>rfl
theorem zHf {c:List Pack} {a:List Int} (hc:c.length≤1048576) (ha:a.length≤1048576):zAW c a=some (a.all (fun k=>inB k 0 ((c.length:Int)-1))):=by
 have key:=xX a (fun i k=>if !(inB k 0 ((c.length:Int)-1)) then some (i:Int) else none) (b:=xD a c) (by
  intro i hi
  unfold xD zAv
  rw [if_pos (by simp; omega),zI hi,uP (x:=(c.length:Int)-1) (by omega) (by omega)]
  simp only [Option.bind_some,zGA]
  rw [zM (by omega)]
  cases inB a[i] 0 ((c.length:Int)-1)<;>rfl) (by
  unfold xD
  rw [if_neg (by simp)])
 unfold zAW yJ yV xK
 rw [key,zAo]
 have e:a.all (fun k=>inB k 0 ((c.length:Int)-1))= !(a.any (fun k=> !(inB k 0 ((c.length:Int)-1)))):=by
  rw [List.all_eq_not_any_not]
 rw [e,←zDY (zBX (fun k=> !(inB k 0 ((c.length:Int)-1))) a 0)]
 cases wI (fun i k=>if !(inB k 0 ((c.length:Int)-1)) then some (i:Int) else none) 0 a<;>rfl
def zL8 (a:List Int) (i:Nat) (k:Int):Option Int:=if decide (k≤a.getD (i-1) 0) then some 1 else none
theorem zJ8 (c:List Pack) (a:List Int):zMf c a=((wI (zL8 a) 1 (a.drop 1)).isNone &&a.all (fun k=>inB k 0 ((c.length:Int)-1))):=by
 unfold zMf
 rw [Bool.eq_iff_iff,Bool.and_eq_true,Option.isNone_iff_eq_none,Option.isNone_iff_eq_none,zFd,zFd,List.all_eq_true]
 constructor
 ·intro h
  constructor
  ·intro j hj
   have hj':1+j<a.length:=by simp at hj; omega
   have:=h (1+j) hj'
   unfold zK4 at this
   unfold zL8
   rw [List.getElem_drop]
   split at this
   ·cases this
   ·rename_i hn
    rw [if_neg]
    intro hx
    apply hn
    rw [Nat.zero_add]
    rw [Bool.or_eq_true,Bool.and_eq_true]
    exact .inr ⟨by rw [decide_eq_true_eq]; omega,hx⟩
  ·intro k hk
   obtain ⟨i,hi,rfl⟩:=List.mem_iff_getElem.1 hk
   have:=h i hi
   unfold zK4 at this
   split at this
   ·cases this
   ·rename_i hn
    simp only [Bool.or_eq_true,not_or] at hn
    simpa using hn.1
 ·rintro ⟨h1,h2⟩ j hj
  unfold zK4
  rw [if_neg]
  rw [Nat.zero_add,h2 _ (List.getElem_mem hj)]
  simp only [Bool.not_true,Bool.false_or,Bool.and_eq_true,not_and]
  intro h0 hx
  have h0':0<j:=by simpa using h0
  have hd:j-1< (a.drop 1).length :=by simp; omega
  have:=h1 (j-1) hd
  unfold zL8 at this
  rw [List.getElem_drop] at this
  have ej:1+(j-1)=j:=by omega
  simp only [ej] at this
  rw [if_pos hx] at this
  cases this
theorem zDC {c:List Pack} {a:List Int} (hc:Cat c) (ha:a.length≤1048576):wM c a=some (SF c a):=by
 have hend:uK c a (a.length:Int)=some (.done (.nxt ())):=by
  unfold uK
  rw [if_neg (by simp)]
 have key:zAw c a 1=some (frs (wI (zL8 a) 1 (a.drop 1))):=by
  unfold zAw
  rcases Nat.eq_zero_or_pos a.length with h0|h0
  ·have:a=[]:=List.eq_nil_of_length_eq_zero h0
   subst this
   rw [vH]
   unfold uK
   rw [if_neg (by simp)]
   rfl
  ·have hh:∀(k i:Nat),1≤i→i+k=a.length→loop (uK c a) (i:Int)=some (frs (wI (zL8 a) i (a.drop i))):=by
    intro k
    induction k with
    |zero=>
     intro i h1 h
     have e:i=a.length:=by omega
     subst e
     rw [vH,hend,List.drop_length]
     rfl
    |succ k ih=>
     intro i h1 h
     have hi:i<a.length:=by omega
     have ih:=ih (i+1) (by omega) (by omega)
     rw [vH,List.drop_eq_getElem_cons hi]
     simp only [wI]
     have hb:uK c a (i:Int)=some (if decide (a[i]≤a[i-1]) then .done (.ret 1) else .go ((i+1:Nat):Int)):=by
      unfold uK
      rw [if_pos (by simp; omega),zI hi,uP (x:=(i:Int)-1) (by omega) (by omega),show (i:Int)-1=((i-1:Nat):Int) by omega,zI (show i-1<a.length by omega),zM (by omega)]
      simp only [Option.bind_some]
      cases decide (a[i]≤a[i-1])<;>rfl
     rw [hb]
     unfold zL8
     rw [getD_lt (show i-1<a.length by omega)]
     cases decide (a[i]≤a[i-1])
     ·exact ih
     ·rfl
   exact hh (a.length-1) 1 (by omega) (by omega)
 unfold wM SF
 rw [zGb c hc,key,zAo,zHf hc.1 ha,zJ8]
 simp only [Option.bind_some]
 have hf:∀(l:List Int) (i:Nat),wI (zL8 a) i l=none∨wI (zL8 a) i l=some 1:=by
  intro l
  induction l with
  |nil=>intro i; exact .inl rfl
  |cons x l ih=>
   intro i
   simp only [wI]
   cases hg:zL8 a i x with
   |none=>exact ih (i+1)
   |some r=>
    unfold zL8 at hg
    split at hg
    ·cases hg; exact .inr rfl
    ·cases hg
 rcases hf (a.drop 1) 1 with h|h<;>rw [h]<;>cases CF c !=0<;>cases a.all (fun k=>inB k 0 ((c.length:Int)-1))<;>rfl
theorem zKV {c:List Pack} {a:List Int} (h:(SF c a==0)=true):Places c a:=by
 unfold SF at h
 split at h
 ·rename_i h1
  rw [beq_iff_eq] at h
  rw [h] at h1
  simp at h1
 ·split at h
  ·rename_i h2
   rw [zJ8,Bool.and_eq_true,List.all_eq_true] at h2
   intro k hk
   have:=h2.2 k hk
   unfold inB at this
   simp only [Bool.and_eq_true,decide_eq_true_eq] at this
   omega
  ·cases h
def zML (t:Term) (v:Version):Bool:=decide (zHo v t.Low≥0)&&decide (zHo v t.High<0)
def zLq (t:Term) (n:ByteArray) (v:Version):Bool:=seq t.Name n&&zML t v
theorem zIL (t:Term) (n:ByteArray) (v:Version):kC t n v=some (zLq t n v):=by
 unfold kC zLq zML
 simp only [zBb,Option.bind_some]
 cases seq t.Name n<;>cases decide (zHo v t.Low≥0)<;>rfl
theorem zMs (t:Term) (n:ByteArray) (v:Version):zB8 t n v=some (zLq t n v):=by
 unfold zB8 zLq zML
 simp only [zGg,Option.bind_some]
 have e:decide (zHo t.Low v≤0)=decide (zHo v t.Low≥0):=by
  rw [zL0 v t.Low]
  rw [Bool.eq_iff_iff,decide_eq_true_eq,decide_eq_true_eq]
  omega
 rw [e]
 cases seq t.Name n<;>cases decide (zHo v t.Low≥0)<;>rfl
def zBy (p:Pack) (t:Term):Bool:=(seq t.Name p.Name||p.Provides.any (fun x=>seq x t.Name))&&zML t p.Version
theorem zGe (p:Pack) (t:Term) (h:p.Provides.length≤1048576):jD p t=some (zBy p t):=by
 unfold jD zBy
 simp only [zIL,Option.bind_some,zDy _ _ h,zLq,zFG,Bool.true_and]
 cases seq t.Name p.Name<;>cases p.Provides.any (fun x=>seq x t.Name)<;>rfl
theorem zHq (p:Pack) (t:Term) (h:p.Provides.length≤1048576):uT p t=some (zBy p t):=by
 unfold uT zBq
 rw [vJ (by simp; omega) (by simp; omega)]
 simp only [Option.bind_some]
 have key:=xX ([p.Name]++p.Provides) (fun i n=>if zLq t n p.Version then some (i:Int) else none) (b:=yS ([p.Name]++p.Provides) t p) (by
  intro i hi
  have hi':i<p.Provides.length+1:=by simpa using hi
  unfold yS kR
  rw [if_pos (by rw [decide_eq_true_eq]; exact Int.ofNat_lt.2 hi),zI hi]
  simp only [Option.bind_some,zMs]
  rw [zM (by omega)]
  cases zLq t ([p.Name]++p.Provides)[i] p.Version<;>rfl) (by
  unfold yS
  rw [if_neg (by simp)])
 unfold yC yK yX
 rw [key,zAo]
 have e:zBy p t=([p.Name]++p.Provides).any (fun n=>zLq t n p.Version):=by
  unfold zBy zLq
  have:(fun n=>seq t.Name n&&zML t p.Version)=(fun n=>seq n t.Name&&zML t p.Version):=funext fun n=>by rw [zHX]
  rw [this,zHX t.Name p.Name]
  cases zML t p.Version<;>simp
 rw [e,←zDY (zBX (fun n=>zLq t n p.Version) ([p.Name]++p.Provides) 0)]
 cases wI (fun i n=>if zLq t n p.Version then some (i:Int) else none) 0 ([p.Name]++p.Provides)<;>rfl
theorem zHY (p:Pack) (l:List Term) (h:p.Provides.length≤1048576) (hl:l.length≤1048576):uW p l=some (l.any (zBy p)):=by
 have key:=xX l (fun i t=>if zBy p t then some (i:Int) else none) (b:=yZ l p) (by
  intro i hi
  unfold yZ
  rw [if_pos (by simp; omega),zI hi]
  simp only [Option.bind_some,zHq _ _ h]
  rw [zM (by omega)]
  cases zBy p l[i]<;>rfl) (by
  unfold yZ
  rw [if_neg (by simp)])
 unfold uW yF yN xB
 rw [key,zAo,←zDY (zBX (zBy p) l 0)]
 cases wI (fun i t=>if zBy p t then some (i:Int) else none) 0 l<;>rfl
def zEI (c:List Pack) (a:List Int) (t:Term) (x:Int):Bool:=a.any (fun k=>k !=x&&zBy (pat c k) t)
theorem zHm {c:List Pack} {a:List Int} (hc:Cat c) (hp:Places c a) (ha:a.length≤1048576) (t:Term) (x:Int):zA5 c a t x=some (zEI c a t x):=by
 have key:=xX a (fun _ k=>if k !=x&&zBy (pat c k) t then some true else none) (b:=zBG c a t x) (by
  intro i hi
  have hk:=hp _ (List.getElem_mem hi)
  unfold zBG
  rw [if_pos (by simp; omega),zI hi]
  simp only [Option.bind_some]
  rw [(vR hk).1]
  simp only [Option.bind_some]
  rw [zGe _ _ (hc.zMC hk),zM (by omega)]
  cases a[i] !=x<;>cases zBy (pat c a[i]) t<;>rfl) (by
  unfold zBG
  rw [if_neg (by simp)])
 unfold zA5 zCG zEI
 rw [key,zAo,←zFi (fun k=>k !=x&&zBy (pat c k) t) a 0]
 cases wI (fun _ k=>if k !=x&&zBy (pat c k) t then some true else none) 0 a<;>rfl
theorem zKs {c:List Pack} {a:List Int} (hc:Cat c) (hp:Places c a) (ha:a.length≤1048576) (t:Term) (x:Int):yD a x c t=some (zEI c a t x):=by
 have key:=xX a (fun i k=>if k !=x&&zBy (pat c k) t then some (i:Int) else none) (b:=xV a x c t) (by
  intro i hi
  have hk:=hp _ (List.getElem_mem hi)
  unfold xV zCM
  rw [if_pos (by simp; omega),zI hi]
  simp only [Option.bind_some]
  rw [(vR hk).1]
  simp only [Option.bind_some]
  rw [zHq _ _ (hc.zMC hk),zM (by omega)]
  cases a[i] !=x<;>cases zBy (pat c a[i]) t<;>rfl) (by
  unfold xV
  rw [if_neg (by simp)])
 unfold yD xO xY zEI
 rw [key,zAo,←zDY (zBX (fun k=>k !=x&&zBy (pat c k) t) a 0)]
 cases wI (fun i k=>if k !=x&&zBy (pat c k) t then some (i:Int) else none) 0 a<;>rfl
def zLC (c:List Pack) (a:List Int) (l:List Term):Bool:=a.any (fun k=>l.any (zBy (pat c k)))
theorem zHD {c:List Pack} {a:List Int} (hc:Cat c) (hp:Places c a) (ha:a.length≤1048576) (l:List Term) (hl:l.length≤1048576):zBf c a l=some (zLC c a l):=by
 have key:=xX l (fun _ t=>if zEI c a t (-1) then some true else none) (b:=zCV c a l) (by
  intro i hi
  unfold zCV
  rw [if_pos (by simp; omega),zI hi]
  simp only [Option.bind_some,zHm hc hp ha]
  rw [zM (by omega)]
  cases zEI c a l[i] (-1)<;>rfl) (by
  unfold zCV
  rw [if_neg (by simp)])
 unfold zBf zDI
 rw [key,zAo]
 have e:zLC c a l=l.any (fun t=>zEI c a t (-1)):=by
  unfold zLC zEI
  rw [Bool.eq_iff_iff]
  simp only [List.any_eq_true,Bool.and_eq_true,bne_iff_ne]
  constructor
  ·rintro ⟨k,hk,t,ht,hg⟩
   exact ⟨t,ht,k,hk,by have:=(hp k hk).1; omega,hg⟩
  ·rintro ⟨t,ht,k,hk,_,hg⟩
   exact ⟨k,hk,t,ht,hg⟩
 rw [e,←zFi (fun t=>zEI c a t (-1)) l 0]
 cases wI (fun _ t=>if zEI c a t (-1) then some true else none) 0 l<;>rfl
theorem zLK {c:List Pack} {a:List Int} (hc:Cat c) (hp:Places c a) (ha:a.length≤1048576) (l:List Term) (hl:l.length≤1048576):yE a c l=some (zLC c a l):=by
 have key:=xX a (fun i k=>if l.any (zBy (pat c k)) then some (i:Int) else none) (b:=xS a c l) (by
  intro i hi
  have hk:=hp _ (List.getElem_mem hi)
  unfold xS zCN
  rw [if_pos (by simp; omega),zI hi]
  simp only [Option.bind_some]
  rw [(vR hk).1]
  simp only [Option.bind_some]
  rw [zHY _ _ (hc.zMC hk) hl,zM (by omega)]
  cases l.any (zBy (pat c a[i]))<;>rfl) (by
  unfold xS
  rw [if_neg (by simp)])
 unfold yE xP xW zLC
 rw [key,zAo,←zDY (zBX (fun k=>l.any (zBy (pat c k))) a 0)]
 cases wI (fun i k=>if l.any (zBy (pat c k)) then some (i:Int) else none) 0 a<;>rfl
theorem zH6 {α T:Type} (xs:List α) (g:Nat→α→Option T) (e:T) {b:Int→Option (Lp Int T)}
  (hstep:∀(i:Nat) (hi:i<xs.length),b (i:Int)=some (match g i xs[i] with|some r=>.done r|none=>.go ((i+1:Nat):Int))) (hend:b (xs.length:Int)=some (.done e)):
  ∀(k i:Nat),i+k=xs.length→loop b (i:Int)=some ((wI g i (xs.drop i)).getD e)
 |0,i,h=>by
  have e:i=xs.length:=by omega
  subst e
  rw [vH,hend,List.drop_length]
  rfl
 |k+1,i,h=>by
  have hi:i<xs.length:=by omega
  have ih:=zH6 xs g e hstep hend k (i+1) (by omega)
  rw [vH,hstep i hi,List.drop_eq_getElem_cons hi]
  simp only [wI]
  cases g i xs[i] with
  |some r=>rfl
  |none=>exact ih
def fN (c:List Pack) (a:List Int) (k:Int) (j:Nat) (l:List zP) (x:List Term):List zP:=if !(zLC c a x) then l++[{Kind:=2,Pack:=k,At:=(j:Int)}] else l
def fB (c:List Pack) (a:List Int) (k:Int) (j:Nat) (l:List zP) (t:Term):List zP:=if zEI c a t k then l++[{Kind:=3,Pack:=k,At:=(j:Int)}] else l
def fD (c:List Pack) (a:List Int) (i:Nat) (k:Int) (l:List zP):List zP:=if (a.take i).any (fun o=>seq (pat c o).Name (pat c k).Name) then l++[{Kind:=1,Pack:=k,At:=0}] else l
def fS (c:List Pack) (a:List Int) (i:Nat) (l:List zP) (k:Int):List zP:=foldI (fB c a k) 0 (pat c k).Bars (foldI (fN c a k) 0 (pat c k).Needs (fD c a i k l))
def zDD (c:List Pack) (a:List Int):List zP:=foldI (fS c a) 0 a []
theorem zNE (c:List Pack) (a:List Int) (k:Int) (j:Nat) (l:List zP) (x:List Term):(fN c a k j l x).length ≤l.length+1:=by unfold fN; split<;>simp
theorem zNW (c:List Pack) (a:List Int) (k:Int) (j:Nat) (l:List zP) (t:Term):(fB c a k j l t).length ≤l.length+1:=by unfold fB; split<;>simp
theorem zM6 (c:List Pack) (a:List Int) (i:Nat) (k:Int) (l:List zP):(fD c a i k l).length ≤l.length+1:=by unfold fD; split<;>simp
theorem zH4 {c:List Pack} {a:List Int} (k:Int) (ns:List (List Term)) (hn:ns.length≤1048576) (n0:Nat) (h0:n0≤5497560000000) {b:(List zP×Int)→Option (Lp (List zP×Int) (List zP))}
  (hstep:∀(j:Nat) (l:List zP) (hj:j<ns.length),b (l,(j:Int))=(if !(zLC c a ns[j]) then (app 24 l [{Kind:=2,Pack:=k,At:=(j:Int)}]) else some l).bind fun v=>some (Lp.go (v,w64 ((j:Int)+1)))) (hend:∀l,b (l,(ns.length:Int))=some (.done l)) (l:List zP) (hl:l.length≤n0):
  loop b (l,0)=some (foldI (fN c a k) 0 ns l)∧(foldI (fN c a k) 0 ns l).length ≤n0+ns.length:=by
 have key:=zEG ns (fN c a k) (fun j l=>l.length≤n0+j) (b:=b) (by
  intro j l hj hI
  refine ⟨?_,by have:=zNE c a k j l ns[j]; omega⟩
  rw [hstep j l hj,zM (by omega),vJ (by simp; omega) (by simp; omega)]
  unfold fN
  cases zLC c a ns[j]<;>rfl) hend ns.length 0 l (by omega) (by simpa using hl)
 simpa using key
theorem zIc {c:List Pack} {a:List Int} (k:Int) (ts:List Term) (hn:ts.length≤1048576) (n0:Nat) (h0:n0≤5497560000000) {b:(List zP×Int)→Option (Lp (List zP×Int) (List zP))}
  (hstep:∀(j:Nat) (l:List zP) (hj:j<ts.length),b (l,(j:Int))=(if zEI c a ts[j] k then (app 24 l [{Kind:=3,Pack:=k,At:=(j:Int)}]) else some l).bind fun v=>some (Lp.go (v,w64 ((j:Int)+1)))) (hend:∀l,b (l,(ts.length:Int))=some (.done l)) (l:List zP) (hl:l.length≤n0):
  loop b (l,0)=some (foldI (fB c a k) 0 ts l)∧(foldI (fB c a k) 0 ts l).length ≤n0+ts.length:=by
 have key:=zEG ts (fB c a k) (fun j l=>l.length≤n0+j) (b:=b) (by
  intro j l hj hI
  refine ⟨?_,by have:=zNW c a k j l ts[j]; omega⟩
  rw [hstep j l hj,zM (by omega),vJ (by simp; omega) (by simp; omega)]
  unfold fB
  cases zEI c a ts[j] k<;>rfl) hend ts.length 0 l (by omega) (by simpa using hl)
 simpa using key
theorem zHG {α:Type} (o:Option α):o.bind (fun x=>some x)=o:=by cases o<;>rfl
def zEn (i:Nat):Nat:=i*2097153
theorem zGT {c:List Pack} {a:List Int} (hc:Cat c) (hp:Places c a) (ha:a.length≤1048576):uX c a=some (zDD c a):=by
 have key:=zEG a (fS c a) (fun i l=>l.length≤zEn i) (b:=zBk c a) (by
  intro i l hi hI
  have hk:=hp _ (List.getElem_mem hi)
  have hb:zEn i≤2199022206976:=by unfold zEn; omega
  have hb1:zEn (i+1)=zEn i+2097153:=by unfold zEn; omega
  have hN:=hc.needs hk
  have hB:=hc.bars hk
  have k1:=zH6 (a.take i) (fun _ o=>if seq (pat c o).Name (pat c a[i]).Name then some (l++[({Kind:=1,Pack:=a[i],At:=0}:zP)]) else none) l (b:=zBg c a (l,(i:Int)) (pat c a[i])) (by
   intro j hj
   have hj':j<i:=by simp at hj; omega
   have hja:j<a.length:=by omega
   have hkj:=hp _ (List.getElem_mem hja)
   unfold zBg
   rw [if_pos (by simp; omega),zI hja]
   simp only [Option.bind_some]
   rw [(vR hkj).1,zI hi]
   simp only [Option.bind_some]
   rw [zM (by omega),vJ (by simp; omega) (by simp; omega),List.getElem_take]
   cases seq (pat c a[j]).Name (pat c a[i]).Name <;>rfl) (by
   have:(a.take i).length =i:=by simp; omega
   rw [this]
   unfold zBg
   rw [if_neg (by simp)]) (a.take i).length 0 (by omega)
  rw [List.drop_zero,zFk] at k1
  have e1:zAr c a (l,(i:Int)) (pat c a[i]) 0=some (fD c a i a[i] l):=by
   unfold zAr fD
   rw [show ((0:Nat):Int)=0 from rfl] at k1
   rw [k1]
   cases (a.take i).any (fun o=>seq (pat c o).Name (pat c a[i]).Name)<;>rfl
  have hd:=zM6 c a i a[i] l
  obtain ⟨e2,l2⟩:=zH4 (c:=c) (a:=a) a[i] (pat c a[i]).Needs hN (zEn i+1) (by omega) (b:=zBu c a (l,(i:Int)) (pat c a[i])) (by
   intro j l hj
   unfold zBu
   rw [if_pos (by simp; omega),zI hj]
   simp only [Option.bind_some]
   rw [zHD hc hp ha _ (hc.clause hk (List.getElem_mem hj)),zI hi]
   simp only [Option.bind_some,zHG]) (by
   intro l
   unfold zBu
   rw [if_neg (by simp)]) (fD c a i a[i] l) (by omega)
  obtain ⟨e3,l3⟩:=zIc (c:=c) (a:=a) a[i] (pat c a[i]).Bars hB (zEn i+1+1048576) (by omega) (b:=zBj c a (l,(i:Int)) (pat c a[i])) (by
   intro j l hj
   unfold zBj
   rw [if_pos (by simp; omega),zI hj,zI hi]
   simp only [Option.bind_some,zHm hc hp ha,zHG]) (by
   intro l
   unfold zBj
   rw [if_neg (by simp)]) _ (Nat.le_trans l2 (by omega))
  refine ⟨?_,by show (fS c a i l a[i]).length ≤_; unfold fS; omega⟩
  unfold zBk
  rw [if_pos (by simp; omega),zI hi]
  simp only [Option.bind_some]
  rw [(vR hk).1]
  simp only [Option.bind_some]
  rw [e1]
  simp only [Option.bind_some]
  unfold zBF zBA
  rw [e2]
  simp only [Option.bind_some]
  rw [e3,zM (by omega)]
  rfl) (by
  intro l
  unfold zBk
  rw [if_neg (by simp)]) a.length 0 [] (by omega) (by simp)
 unfold uX zBS zDD
 have k:=key.1
 rw [show ((0:Nat):Int)=0 from rfl,List.drop_zero] at k
 rw [k]
 rfl
theorem zJ6 (q:Int→Bool):∀(xs:List Int) (i:Nat),(∀k∈xs,0≤k)→(((wI (fun _ k=>if q k then some k else none) i xs).getD (-1)≥0)↔xs.any q=true)
 |[],i,_=>by simp [wI]
 |x::xs,i,h=>by
  simp only [wI]
  cases hq:q x
  ·simp only [Bool.false_eq_true,if_false,List.any_cons,hq,Bool.false_or]
   exact zJ6 q xs (i+1) (fun k hk=>h k (by simp [hk]))
  ·have:=h x (by simp)
   simp [hq]
   omega
theorem zKq {c:List Pack} {a:List Int} (hp:Places c a) (ha:a.length≤1048576) (n:ByteArray):∃k,tV c a n=some k∧decide (k≥0)=a.any (fun o=>seq (pat c o).Name n):=by
 have key:=xX a (fun _ k=>if seq (pat c k).Name n then some k else none) (b:=kI c a n) (by
  intro i hi
  have hk:=hp _ (List.getElem_mem hi)
  unfold kI
  rw [if_pos (by simp; omega),zI hi]
  simp only [Option.bind_some]
  rw [(vR hk).1]
  simp only [Option.bind_some]
  rw [zM (by omega)]
  cases seq (pat c a[i]).Name n<;>rfl) (by
  unfold kI
  rw [if_neg (by simp)])
 refine ⟨_,?_,zDY (zJ6 (fun o=>seq (pat c o).Name n) a 0 (fun k hk=>(hp k hk).1))⟩
 unfold tV zCO
 rw [key,zAo]
 cases wI (fun _ k=>if seq (pat c k).Name n then some k else none) 0 a<;>rfl
theorem zJj {c:List Pack} {a:List Int} (hc:Cat c) (hp:Places c a) (ha:a.length≤1048576):zDw c a=some (zDD c a):=by
 have key:=zEG a (fS c a) (fun i l=>l.length≤zEn i) (b:=zC6 c a) (by
  intro i l hi hI
  have hk:=hp _ (List.getElem_mem hi)
  have hb:zEn i≤2199022206976:=by unfold zEn; omega
  have hb1:zEn (i+1)=zEn i+2097153:=by unfold zEn; omega
  have hN:=hc.needs hk
  have hB:=hc.bars hk
  obtain ⟨kk,e0,hkk⟩:=zKq (c:=c) (a:=a.take i) (fun k hk=>hp k (List.mem_of_mem_take hk)) (by simp; omega) (pat c a[i]).Name
  have hd:=zM6 c a i a[i] l
  obtain ⟨e2,l2⟩:=zH4 (c:=c) (a:=a) a[i] (pat c a[i]).Needs hN (zEn i+1) (by omega) (b:=zCl c a (l,(i:Int)) a[i] (pat c a[i])) (by
   intro j l hj
   unfold zCl
   rw [if_pos (by simp; omega),zI hj]
   simp only [Option.bind_some]
   rw [zLK hc hp ha _ (hc.clause hk (List.getElem_mem hj))]
   simp only [Option.bind_some,zHG]) (by
   intro l
   unfold zCl
   rw [if_neg (by simp)]) (fD c a i a[i] l) (by omega)
  obtain ⟨e3,l3⟩:=zIc (c:=c) (a:=a) a[i] (pat c a[i]).Bars hB (zEn i+1+1048576) (by omega) (b:=zCA c a (l,(i:Int)) a[i] (pat c a[i])) (by
   intro j l hj
   unfold zCA
   rw [if_pos (by simp; omega),zI hj]
   simp only [Option.bind_some,zKs hc hp ha,zHG]) (by
   intro l
   unfold zCA
   rw [if_neg (by simp)]) _ (Nat.le_trans l2 (by omega))
  refine ⟨?_,by show (fS c a i l a[i]).length ≤_; unfold fS; omega⟩
  unfold zC6
  rw [if_pos (by simp; omega),zI hi]
  simp only [Option.bind_some]
  rw [(vR hk).1,zFp (by omega)]
  simp only [Option.bind_some]
  rw [e0]
  simp only [Option.bind_some]
  rw [hkk,vJ (by simp; omega) (by simp; omega)]
  simp only [Option.bind_some]
  have ed:(if (a.take i).any (fun o=>seq (pat c o).Name (pat c a[i]).Name)=true then some (l++[({Kind:=1,Pack:=a[i],At:=0}:zP)]) else some l)=some (fD c a i a[i] l):=by
   unfold fD
   cases (a.take i).any (fun o=>seq (pat c o).Name (pat c a[i]).Name)<;>rfl
  rw [ed]
  simp only [Option.bind_some]
  unfold zCW zDg
  rw [e2]
  simp only [Option.bind_some]
  rw [e3,zM (by omega)]
  rfl) (by
  intro l
  unfold zC6
  rw [if_neg (by simp)]) a.length 0 [] (by omega) (by simp)
 unfold zDw zDa zDD
 have k:=key.1
 rw [show ((0:Nat):Int)=0 from rfl,List.drop_zero] at k
 rw [k]
 rfl
def zOk (c:List Pack) (a:List Int):Bool:=(SF c a==0)&&((zDD c a).length :Int)==0
theorem zFf {c:List Pack} {a:List Int} (hc:Cat c) (ha:a.length≤1048576) (h:(SF c a==0)=true):wZ c a=some (zOk c a):=by
 unfold wZ zOk
 rw [zJj hc (zKV h) ha,h]
 simp
theorem zKZ {α:Type} {g:Nat→α→Option Int} (hg:∀i x,g i x≠some 0):∀(l:List α) (i:Nat),(wI g i l).getD 0=0→wI g i l=none
 |[],_,_=>rfl
 |x::l,i,h=>by
  simp only [wI] at h ⊢
  cases hx:g i x with
  |none=>rw [hx] at h; exact zKZ hg l (i+1) h
  |some r=>
   rw [hx] at h
   simp only [Option.getD_some] at h
   subst h
   exact absurd hx (hg i x)
theorem zMO {c:List Pack} (h:CF c=0):c.length≤24∧(∀p∈c,PF p=0)∧∀(j:Nat) (hj:j<c.length),(c.take j).any (isB c[j].Name c[j].Version)=false:=by
 unfold CF at h
 split at h
 ·cases h
 rename_i h1
 have h2:=zKZ (g:=zLB c) (fun i x=>by
  unfold zLB
  split
  ·rename_i h3
   intro e
   rw [Option.some.inj e] at h3
   simp at h3
  ·split<;>simp) c 0 h
 rw [zFd] at h2
 have h3:∀(j:Nat) (hj:j<c.length),PF c[j]=0∧(c.take j).any (isB c[j].Name c[j].Version)=false:=by
  intro j hj
  have:=h2 j hj
  unfold zLB at this
  rw [Nat.zero_add] at this
  split at this
  ·cases this
  ·rename_i h4
   split at this
   ·cases this
   ·rename_i h5
    exact ⟨by simpa using h4,by simpa using h5⟩
 refine ⟨by simp at h1; omega,fun p hp=>?_,fun j hj=>(h3 j hj).2⟩
 obtain ⟨j,hj,rfl⟩:=List.getElem_of_mem hp
 exact (h3 j hj).1
theorem zK6 {a:List Int} (h:∀i,(hi:i+1<a.length)→a[i]<a[i+1]):a.Pairwise (· < ·):=by
 rw [List.pairwise_iff_getElem]
 intro i j hi hj hij
 obtain ⟨d,rfl⟩:∃d,j=i+1+d:=⟨j-i-1,by omega⟩
 clear hij
 induction d with
 |zero=>exact h i (by omega)
 |succ d ih=>
  have h1:=ih (by omega)
  have h2:=h (i+1+d) (by omega)
  show a[i]<a[i+1+d+1]
  omega
theorem zJ0:∀{a:List Int} {lo hi:Int},a.Pairwise (· < ·)→(∀k∈a,lo≤k∧k<hi)→(a.length:Int)≤hi-lo∨a=[]
 |[],_,_,_,_=>.inr rfl
 |x::a,lo,hi,hp,hb=>by
  obtain ⟨h1,h2⟩:=List.pairwise_cons.1 hp
  have hx:=hb x (by simp)
  have:=zJ0 (lo:=x+1) (hi:=hi) h2 (fun k hk=>⟨by have:=h1 k hk; omega,(hb k (by simp [hk])).2⟩)
  refine .inl ?_
  rcases this with h3|h3
  ·simp only [List.length_cons]; omega
  ·subst h3; simp; omega
theorem zEZ {c:List Pack} {a:List Int}:zMf c a=true↔a.Pairwise (· < ·)∧Places c a:=by
 unfold zMf
 rw [Option.isNone_iff_eq_none,zFd]
 constructor
 ·intro h
  have h1:∀(j:Nat) (hj:j<a.length),inB a[j] 0 ((c.length:Int)-1)=true∧(0<j→¬a[j]≤a.getD (j-1) 0):=by
   intro j hj
   have:=h j hj
   unfold zK4 at this
   rw [Nat.zero_add] at this
   split at this
   ·cases this
   ·rename_i h2
    simp only [Bool.or_eq_true,Bool.not_eq_true',Bool.and_eq_true,decide_eq_true_eq,not_or,not_and,Bool.not_eq_false] at h2
    exact h2
  refine ⟨zK6 fun i hi=>?_,fun k hk=>?_⟩
  ·have:=(h1 (i+1) hi).2 (by omega)
   rw [show i+1-1=i by omega,getD_lt (by omega)] at this
   omega
  ·obtain ⟨j,hj,rfl⟩:=List.getElem_of_mem hk
   have:=(h1 j hj).1
   unfold inB at this
   simp only [Bool.and_eq_true,decide_eq_true_eq] at this
   omega
 ·rintro ⟨h1,h2⟩ j hj
  unfold zK4
  rw [Nat.zero_add]
  have hk:=h2 a[j] (List.getElem_mem hj)
  rw [if_neg]
  simp only [Bool.or_eq_true,Bool.not_eq_true',Bool.and_eq_true,decide_eq_true_eq,not_or,not_and,Bool.not_eq_false]
  refine ⟨by unfold inB; simp; omega,fun h0=>?_⟩
  rw [getD_lt (by omega)]
  have:=(List.pairwise_iff_getElem.1 h1) (j-1) j (by omega) hj (by omega)
  omega
theorem zLP {c:List Pack} {a:List Int} (h:zMf c a=true):a.length≤c.length:=by
 obtain ⟨h1,h2⟩:=zEZ.1 h
 rcases zJ0 (lo:=0) (hi:=c.length) h1 h2 with h3|h3
 ·omega
 ·rw [h3]; simp
theorem zHu (x y:Int):vB [x,y]=some (if x !=0 then x else y):=by
 unfold vB kU
 rw [zJu _ (by simp),zAo]
 simp only [wI]
 by_cases h:x=0
 ·by_cases h2:y=0<;>simp [h,h2]
 ·simp [h]
theorem zH0:∀{l1 l2:List Int},l1.Pairwise (· < ·)→l2.Pairwise (· < ·)→(∀x,x∈l1↔x∈l2)→l1=l2
 |[],[],_,_,_=>rfl
 |[],y::l2,_,_,h=>by have:=(h y).2 (by simp); simp at this
 |x::l1,[],_,_,h=>by have:=(h x).1 (by simp); simp at this
 |x::l1,y::l2,h1,h2,h=>by
  rw [List.pairwise_cons] at h1 h2
  have hxy:x=y:=by
   have hx:=(h x).1 (by simp)
   have hy:=(h y).2 (by simp)
   rcases List.mem_cons.1 hx with e|hx
   ·exact e
   ·rcases List.mem_cons.1 hy with e|hy
    ·exact e.symm
    ·have:=h1.1 y hy
     have:=h2.1 x hx
     omega
  subst hxy
  congr 1
  refine zH0 h1.2 h2.2 fun z=>?_
  constructor
  ·intro hz
   rcases List.mem_cons.1 ((h z).1 (List.mem_cons_of_mem _ hz)) with e|hz'
   ·have:=h1.1 z hz; omega
   ·exact hz'
  ·intro hz
   rcases List.mem_cons.1 ((h z).2 (List.mem_cons_of_mem _ hz)) with e|hz'
   ·have:=h2.1 z hz; omega
   ·exact hz'
theorem zEV {l:List Int} (h:l.Pairwise (· < ·)) {i j:Nat} (hi:i<l.length) (hj:j<l.length) (hij:i<j):l[i]<l[j]:=List.pairwise_iff_getElem.1 h i j hi hj hij
theorem zLI (l:List Int) (v:Int) (hs:l.Pairwise (· < ·)) (hv:v∉l) (hl:l.length≤1048576):
  ∃r,zDQ l v=some r∧r.Pairwise (· < ·)∧(∀x,x∈r↔x∈l∨x=v)∧r.length=l.length+1:=by
 obtain ⟨⟨acc,inn⟩,e,h1,h2,h3,h4⟩:=wJ (b:=zCY l v)
  (fun i s=>s.2.2=(i:Int)∧s.1.Pairwise (· < ·)∧(∀x,x∈s.1↔x∈l.take i∨(s.2.1=true∧x=v))∧s.1.length=i+(if s.2.1 then 1 else 0)∧(s.2.1=false→∀x∈l.take i,x<v)∧(s.2.1=true→∀x∈l.drop i,v<x)) l.length
  (fun t=>t.1.Pairwise (· < ·)∧(∀x,x∈t.1↔x∈l∨(t.2=true∧x=v))∧t.1.length=l.length+(if t.2 then 1 else 0)∧(t.2=false→∀x∈l,x<v)) (by
  rintro i ⟨acc,inn,j⟩ hi ⟨hj,hp,hm,hlen,hf,ht⟩
  simp only at hj hp hm hlen hf ht
  subst hj
  have hlt:∀x∈l.take i,x<l[i]:=by
   intro x hx
   obtain ⟨k,hk,rfl⟩:=List.mem_iff_getElem.1 hx
   rw [List.getElem_take]
   have:k<i:=by simp at hk; omega
   exact zEV hs (by omega) hi this
  have htk:l.take (i+1)=l.take i++[l[i]]:=List.take_succ_eq_append_getElem hi
  have hdr:l.drop i=l[i]::l.drop (i+1):=List.drop_eq_getElem_cons hi
  have hne:l[i]≠v:=fun e=>hv (e▸List.getElem_mem hi)
  have hal:acc.length≤1048577:=by rw [hlen]; split<;>omega
  unfold zCY
  rw [if_pos (by simp; omega),zI hi]
  simp only [Option.bind_some]
  rw [zM (by omega)]
  refine .inl ?_
  cases inn
  ·by_cases hgt:l[i]>v
   ·rw [if_pos (by simpa using hgt)]
    simp only [Bool.not_false,Option.bind_some,if_true]
    rw [vJ (by simp; omega) (by simp; omega)]
    simp only [Option.bind_some]
    rw [vJ (by simp; omega) (by simp; omega)]
    refine ⟨_,rfl,rfl,?_,?_,?_,by simp,?_⟩
    ·simp only
     have hav:∀x∈acc,x<v:=fun x hx=>hf rfl x (by have:=(hm x).1 hx; simpa using this)
     rw [List.pairwise_append,List.pairwise_append]
     refine ⟨⟨hp,by simp,fun x hx y hy=>by simp at hy; rw [hy]; exact hav x hx⟩,by simp,fun x hx y hy=>?_⟩
     simp at hy
     rw [hy]
     rcases List.mem_append.1 hx with hx|hx
     ·have:=hav x hx; omega
     ·simp at hx; omega
    ·intro x
     have:=hm x
     simp only [List.mem_append,List.mem_singleton,htk]
     simp at this
     rw [this]
     simp
     constructor<;>(intro h; rcases h with (h|h)|h<;>simp [h])
    ·simp; simp at hlen; omega
    ·intro _ x hx
     have:l[i]<x:=by
      obtain ⟨k,hk,rfl⟩:=List.mem_iff_getElem.1 hx
      rw [List.getElem_drop]
      simp at hk
      exact zEV hs hi (by omega) (by omega)
     omega
   ·rw [if_neg (by simpa using hgt)]
    simp only [Option.bind_some,Bool.false_eq_true,if_false]
    rw [vJ (by simp; omega) (by simp; omega)]
    refine ⟨_,rfl,rfl,?_,?_,?_,?_,by simp⟩
    ·simp only
     rw [List.pairwise_append]
     refine ⟨hp,by simp,fun x hx y hy=>?_⟩
     simp at hy
     rw [hy]
     have:=(hm x).1 hx
     exact hlt x (by simpa using this)
    ·intro x
     have:=hm x
     simp only [List.mem_append,List.mem_singleton,htk]
     simp at this
     rw [this]
     simp
    ·simp; simp at hlen; omega
    ·intro _ x hx
     rw [htk] at hx
     rcases List.mem_append.1 hx with hx|hx
     ·exact hf rfl x hx
     ·simp at hx; omega
  ·have hlv:v<l[i]:=ht rfl _ (by rw [hdr]; exact List.mem_cons_self)
   rw [if_pos (by simpa using hlv)]
   simp only [Bool.not_true,Option.bind_some,Bool.false_eq_true,if_false]
   rw [vJ (by simp; omega) (by simp; omega)]
   refine ⟨_,rfl,rfl,?_,?_,?_,by simp,?_⟩
   ·simp only
    rw [List.pairwise_append]
    refine ⟨hp,by simp,fun x hx y hy=>?_⟩
    simp at hy
    rw [hy]
    rcases (hm x).1 hx with hx|⟨_,hx⟩
    ·exact hlt x hx
    ·omega
   ·intro x
    have:=hm x
    simp only [List.mem_append,List.mem_singleton,htk]
    rw [this]
    simp
    constructor<;>(intro h; rcases h with (h|h)|h<;>simp [h])
   ·simp; simp at hlen; omega
   ·intro _ x hx
    exact ht rfl x (by rw [hdr]; exact List.mem_cons_of_mem _ hx)) (by
  rintro ⟨acc,inn,j⟩ ⟨hj,hp,hm,hlen,hf,ht⟩
  simp only at hj hp hm hlen hf ht
  subst hj
  unfold zCY
  rw [if_neg (by simp)]
  rw [List.take_length] at hm hf
  exact ⟨_,rfl,hp,hm,hlen,hf⟩) l.length 0 (([]:List Int),false,0) (by omega) ⟨rfl,by simp,by simp,by simp,by simp,by simp⟩
 simp only at h1 h2 h3 h4
 unfold zDQ zDF
 rw [e]
 simp only [Option.bind_some]
 cases inn
 ·simp only [Bool.not_false,if_true]
  simp at h3
  rw [vJ (by simp; omega) (by simp; omega)]
  refine ⟨_,rfl,?_,?_,by simp; omega⟩
  ·rw [List.pairwise_append]
   refine ⟨h1,by simp,fun x hx y hy=>?_⟩
   simp at hy
   rw [hy]
   have:=(h2 x).1 hx
   exact h4 rfl x (by simpa using this)
  ·intro x
   have:=h2 x
   simp at this
   simp [this]
 ·refine ⟨_,rfl,h1,?_,by simpa using h3⟩
  intro x
  have:=h2 x
  simpa using this
theorem zJo {c:List Pack} {a:List Int} (hC:Cat c) (hp:Places c a) (ha:a.length≤1048576):zCw c a=some (((zDD c a).length :Int)==0):=by
 unfold zCw
 rw [zGT hC hp ha]
 rfl
theorem zFK {a b:ByteArray} (h:slt a b=false) (hne:a≠b):slt b a=true:=by
 cases h2:slt b a with
 |true=>rfl
 |false=>
  have c1:¬zO4 a b<0:=fun hc=>by rw [(zMT a b).1 hc] at h; cases h
  have key:∀(x y:List UInt8),Op.bytesLess x y=false→Op.bytesLess y x=false→x=y:=by
   intro x
   induction x with
   |nil=>intro y; cases y<;>simp [Op.bytesLess]
   |cons u x ih=>
    intro y
    cases y with
    |nil=>simp [Op.bytesLess]
    |cons v y=>
     simp only [Op.bytesLess]
     intro e1 e2
     have e3:¬u<v:=fun hh=>by simp [hh] at e1
     have e4:¬v<u:=fun hh=>by simp [hh] at e2
     rw [UInt8.lt_iff_toNat_lt] at e3 e4
     have e5:u=v:=UInt8.toNat_inj.1 (by omega)
     subst e5
     simp [UInt8.lt_irrefl] at e1 e2
     rw [ih y e1 e2]
  exfalso
  apply hne
  unfold slt at h h2
  exact toList_inj (key _ _ h h2)
def ltS (a b:ByteArray):Prop:=slt a b=true
def leS (a b:ByteArray):Prop:=slt b a=false
theorem zHM (a:ByteArray):leS a a:=zCL a
theorem zJ2 {a b:ByteArray} (h:leS a b) (hne:a≠b):ltS a b:=zFK h (Ne.symm hne)
theorem zKO {a b:ByteArray} (h:ltS a b):leS a b:=by
 unfold leS
 cases h2:slt b a with
 |false=>rfl
 |true=>
  have h3:=zEc h h2
  rw [zCL] at h3
  cases h3
theorem zJd {a b c:ByteArray} (h1:leS a b) (h2:ltS b c):ltS a c:=by
 by_cases h:a=b
 ·rw [h]; exact h2
 ·exact zEc (zJ2 h1 h) h2
theorem zG8 {a b c:ByteArray} (h1:leS a b) (h2:leS b c):leS a c:=by
 by_cases h:b=c
 ·rw [←h]; exact h1
 ·exact zKO (zJd h1 (zJ2 h2 h))
theorem zI5 {a b:ByteArray} (h:ltS a b):a≠b:=fun e=>by
 subst e
 unfold ltS at h
 rw [zCL] at h
 cases h
theorem zCg:∀{l1 l2:List ByteArray},l1.Pairwise ltS→l2.Pairwise ltS→(∀x,x∈l1↔x∈l2)→l1=l2
 |[],[],_,_,_=>rfl
 |[],y::l2,_,_,h=>by have:=(h y).2 (by simp); simp at this
 |x::l1,[],_,_,h=>by have:=(h x).1 (by simp); simp at this
 |x::l1,y::l2,h1,h2,h=>by
  rw [List.pairwise_cons] at h1 h2
  have hxy:x=y:=by
   have hx:=(h x).1 (by simp)
   have hy:=(h y).2 (by simp)
   rcases List.mem_cons.1 hx with e|hx
   ·exact e
   ·rcases List.mem_cons.1 hy with e|hy
    ·exact e.symm
    ·exact absurd rfl (zI5 (zEc (h1.1 y hy) (h2.1 x hx)))
  subst hxy
  congr 1
  refine zCg h1.2 h2.2 fun z=>?_
  constructor
  ·intro hz
   rcases List.mem_cons.1 ((h z).1 (List.mem_cons_of_mem _ hz)) with e|hz'
   ·exact absurd e.symm (zI5 (h1.1 z hz))
   ·exact hz'
  ·intro hz
   rcases List.mem_cons.1 ((h z).2 (List.mem_cons_of_mem _ hz)) with e|hz'
   ·exact absurd e.symm (zI5 (h2.1 z hz))
   ·exact hz'
theorem zJg:∀(x y:List UInt8),x<y↔Op.bytesLess x y=true
 |[],[]=>by simp [Op.bytesLess]
 |[],y::l=>by simp [Op.bytesLess]
 |x::l,[]=>by simp [Op.bytesLess]
 |x::l,y::r=>by
  rw [List.cons_lt_cons_iff,zJg l r]
  simp only [Op.bytesLess]
  by_cases h:x<y
  ·simp [h]
  ·by_cases h2:y<x
   ·have:x≠y:=fun e=>by subst e; exact UInt8.lt_irrefl _ h2
    simp [h,this]
   ·have:x=y:=by
     rw [UInt8.lt_iff_toNat_lt] at h h2
     exact UInt8.toNat_inj.1 (by omega)
    subst this
    simp [UInt8.lt_irrefl]
theorem zNV (x y:List UInt8):decide (x≤y)= !(Op.bytesLess y x):=by
 cases hb:Op.bytesLess y x with
 |true=>
  have:¬(x≤y):=fun h=>h ((zJg y x).2 hb)
  simpa using this
 |false=>
  have:x≤y:=fun hc=>by
   rw [(zJg y x).1 hc] at hb
   cases hb
  simpa using this
theorem toList_data (s:ByteArray):s.data.toList=s.toList:=(ByteArray.toList_eq s).symm
theorem zLM (a:List ByteArray) (hl:a.length≤1048577):∃r,zCU a=some r∧r.Pairwise leS∧(∀x,x∈r↔x∈a)∧r.length=a.length:=by
 unfold zCU
 rw [if_pos (by omega)]
 have hle:∀x y:List UInt8,decide (x≤y)=true↔leS ⟨x.toArray⟩ ⟨y.toArray⟩:=fun x y=>by
  rw [zNV]
  unfold leS slt
  rw [←toList_data,←toList_data]
  cases Op.bytesLess y x<;>simp
 have hpw:=List.pairwise_mergeSort (le:=fun x y:List UInt8=>decide (x≤y)) (by
  intro x y z h1 h2
  exact (hle x z).2 (zG8 ((hle x y).1 h1) ((hle y z).1 h2))) (by
  intro x y
  have:leS ⟨x.toArray⟩ ⟨y.toArray⟩∨leS ⟨y.toArray⟩ ⟨x.toArray⟩:=by
   cases h:slt ⟨y.toArray⟩ ⟨x.toArray⟩ with
   |false=>exact .inl h
   |true=>exact .inr (zKO h)
  rcases this with h|h
  ·rw [(hle x y).2 h]; rfl
  ·rw [(hle y x).2 h,Bool.or_true]) (a.map (·.data.toList))
 refine ⟨_,rfl,?_,fun x=>?_,by simp [List.length_mergeSort]⟩
 ·exact List.pairwise_map.2 (hpw.imp fun h=>(hle _ _).1 h)
 ·simp only [List.mem_map,List.mem_mergeSort]
  constructor
  ·rintro ⟨_,⟨y,hy,rfl⟩,rfl⟩
   exact hy
  ·intro hx
   exact ⟨_,⟨x,hx,rfl⟩,rfl⟩
theorem zGJ (l:List ByteArray) (v:ByteArray) (hs:l.Pairwise ltS) (hl:l.length≤1048576):
  ∃r,vS l v=some r∧r.Pairwise ltS∧(∀x,x∈r↔x∈l∨x=v)∧r.length≤l.length+1:=by
 obtain ⟨t,e,ht⟩:=wJ (b:=zCC l v)
  (fun i s=>s.2.2=(i:Int)∧s.1.Pairwise ltS∧(∀x,x∈s.1↔x∈l.take i∨(s.2.1=true∧x=v))∧s.1.length=i+(if s.2.1 then 1 else 0)∧(s.2.1=false→∀x∈l.take i,ltS x v)∧(s.2.1=true→∀x∈l.drop i,ltS v x)) l.length
  (fun t=>(t= .ret l∧v∈l)∨∃a b,t= .nxt (a,b)∧a.Pairwise ltS∧(∀x,x∈a↔x∈l∨(b=true∧x=v))∧a.length=l.length+(if b then 1 else 0)∧(b=false→∀x∈l,ltS x v)) (by
  rintro i ⟨acc,inn,j⟩ hi ⟨hj,hp,hm,hlen,hf,ht⟩
  simp only at hj hp hm hlen hf ht
  subst hj
  have hget:∀(i j:Nat) (hi:i<l.length) (hj:j<l.length),i<j→ltS l[i] l[j]:=fun i j hi hj h=>List.pairwise_iff_getElem.1 hs i j hi hj h
  have hlt:∀x∈l.take i,ltS x l[i]:=by
   intro x hx
   obtain ⟨k,hk,rfl⟩:=List.mem_iff_getElem.1 hx
   rw [List.getElem_take]
   have:k<i:=by simp at hk; omega
   exact hget _ _ (by omega) hi this
  have htk:l.take (i+1)=l.take i++[l[i]]:=List.take_succ_eq_append_getElem hi
  have hdr:l.drop i=l[i]::l.drop (i+1):=List.drop_eq_getElem_cons hi
  have hal:acc.length≤1048577:=by rw [hlen]; split<;>omega
  unfold zCC
  rw [if_pos (by simp; omega),zI hi]
  simp only [Option.bind_some]
  rw [zM (by omega)]
  by_cases heq:l[i]=v
  ·rw [if_pos (by rw [seq_eq]; simpa using heq)]
   exact .inr ⟨_,rfl,.inl ⟨rfl,heq▸List.getElem_mem hi⟩⟩
  ·rw [if_neg (by rw [seq_eq]; simpa using heq)]
   refine .inl ?_
   have hs2:(slt l[i] v||seq l[i] v)=slt l[i] v:=by rw [seq_eq]; simp [heq]
   rw [hs2]
   cases inn
   ·cases hgt:slt l[i] v
    ·have hvl:ltS v l[i]:=zFK hgt heq
     simp only [Bool.not_false,Option.bind_some,if_true]
     rw [vJ (by simp; omega) (by simp; omega)]
     simp only [Option.bind_some]
     rw [vJ (by simp; omega) (by simp; omega)]
     refine ⟨_,rfl,rfl,?_,?_,?_,by simp,?_⟩
     ·simp only
      have hav:∀x∈acc,ltS x v:=fun x hx=>hf rfl x (by have:=(hm x).1 hx; simpa using this)
      rw [List.pairwise_append,List.pairwise_append]
      refine ⟨⟨hp,by simp,fun x hx y hy=>by simp at hy; rw [hy]; exact hav x hx⟩,by simp,fun x hx y hy=>?_⟩
      simp at hy
      rw [hy]
      rcases List.mem_append.1 hx with hx|hx
      ·exact zEc (hav x hx) hvl
      ·simp at hx; rw [hx]; exact hvl
     ·intro x
      have:=hm x
      simp only [List.mem_append,List.mem_singleton,htk]
      simp at this
      rw [this]
      simp
      constructor<;>(intro h; rcases h with (h|h)|h<;>simp [h])
     ·simp; simp at hlen; omega
     ·intro _ x hx
      have:ltS l[i] x:=by
       obtain ⟨k,hk,rfl⟩:=List.mem_iff_getElem.1 hx
       rw [List.getElem_drop]
       simp at hk
       exact hget _ _ hi (by omega) (by omega)
      exact zEc hvl this
    ·simp only [Bool.not_true,Bool.false_eq_true,if_false,Option.bind_some]
     rw [vJ (by simp; omega) (by simp; omega)]
     refine ⟨_,rfl,rfl,?_,?_,?_,?_,by simp⟩
     ·simp only
      rw [List.pairwise_append]
      refine ⟨hp,by simp,fun x hx y hy=>?_⟩
      simp at hy
      rw [hy]
      have:=(hm x).1 hx
      exact hlt x (by simpa using this)
     ·intro x
      have:=hm x
      simp only [List.mem_append,List.mem_singleton,htk]
      simp at this
      rw [this]
      simp
     ·simp; simp at hlen; omega
     ·intro _ x hx
      rw [htk] at hx
      rcases List.mem_append.1 hx with hx|hx
      ·exact hf rfl x hx
      ·simp at hx; rw [hx]; exact hgt
   ·have hlv:ltS v l[i]:=ht rfl _ (by rw [hdr]; exact List.mem_cons_self)
    have hgt:slt l[i] v=false:=zKO hlv
    rw [hgt]
    simp only [Bool.not_false,Bool.not_true,Option.bind_some,Bool.false_eq_true,if_false,if_true]
    rw [vJ (by simp; omega) (by simp; omega)]
    refine ⟨_,rfl,rfl,?_,?_,?_,by simp,?_⟩
    ·simp only
     rw [List.pairwise_append]
     refine ⟨hp,by simp,fun x hx y hy=>?_⟩
     simp at hy
     rw [hy]
     rcases (hm x).1 hx with hx|⟨_,hx⟩
     ·exact hlt x hx
     ·rw [hx]; exact hlv
    ·intro x
     have:=hm x
     simp only [List.mem_append,List.mem_singleton,htk]
     rw [this]
     simp
     constructor<;>(intro h; rcases h with (h|h)|h<;>simp [h])
    ·simp; simp at hlen; omega
    ·intro _ x hx
     exact ht rfl x (by rw [hdr]; exact List.mem_cons_of_mem _ hx)) (by
  rintro ⟨acc,inn,j⟩ ⟨hj,hp,hm,hlen,hf,ht⟩
  simp only at hj hp hm hlen hf ht
  subst hj
  unfold zCC
  rw [if_neg (by simp)]
  rw [List.take_length] at hm hf
  exact ⟨_,rfl,.inr ⟨acc,inn,rfl,hp,hm,hlen,hf⟩⟩) l.length 0 (([]:List ByteArray),false,0) (by omega) ⟨rfl,by simp,by simp,by simp,by simp,by simp⟩
 unfold vS zDc
 rw [e]
 rcases ht with ⟨rfl,hv⟩|⟨acc,inn,rfl,h1,h2,h3,h4⟩
 ·refine ⟨l,rfl,hs,fun x=>⟨.inl,fun h=>h.elim id (fun e=>e▸hv)⟩,by omega⟩
 ·simp only [Option.bind_some,Fl.go]
  cases inn
  ·simp only [Bool.not_false,if_true]
   simp at h3
   rw [vJ (by simp; omega) (by simp; omega)]
   refine ⟨_,rfl,?_,?_,by simp; omega⟩
   ·rw [List.pairwise_append]
    refine ⟨h1,by simp,fun x hx y hy=>?_⟩
    simp at hy
    rw [hy]
    have:=(h2 x).1 hx
    exact h4 rfl x (by simpa using this)
   ·intro x
    have:=h2 x
    simp at this
    simp [this]
  ·refine ⟨_,rfl,h1,?_,by simp at h3; omega⟩
   intro x
   have:=h2 x
   simpa using this
theorem zHb (a:List ByteArray) (k0:Nat) (h0:1≤k0) (hk:k0<a.length) (hs:a.Pairwise leS) (hl:a.length≤1048577) (hd:a[k0]'hk=a[k0-1]'(by omega)) (hp0:(a.take k0).Pairwise ltS) (x48:List ByteArray) (hx:x48.length=a.length-k0):
  ∃xs k,zAp (k0:Int) x48 (a,(k0:Int),1)=some (xs,((k:Nat):Int))∧xs.length=a.length∧k≤a.length∧(xs.take k).Pairwise ltS∧∀x,x∈xs.take k↔x∈a:=by
 have hle:∀(i j:Nat) (hi:i<a.length) (hj:j<a.length),i≤j→leS a[i] a[j]:=by
  intro i j hi hj hij
  rcases Nat.lt_or_ge i j with h|h
  ·exact List.pairwise_iff_getElem.1 hs i j hi hj h
  ·have:i=j:=by omega
   subst this; exact zHM _
 obtain ⟨⟨xs,k'⟩,e,h1,k,h2,h3,h4,h5⟩:=wJ (b:=tH (k0:Int) x48)
  (fun i s=>s.2.2=((i+1:Nat):Int)∧s.1.length=a.length∧(∀j,i+k0≤j→s.1[j]? =a[j]?)∧∃k:Nat,s.2.1=(k:Int)∧1≤k∧k≤i+k0∧(s.1.take k).Pairwise ltS∧(∀x,x∈s.1.take k↔x∈a.take (i+k0+1))∧(∀x∈s.1.take k,leS x (a.getD (i+k0) ByteArray.empty))) (a.length-k0-1)
  (fun t=>t.1.length=a.length∧∃k:Nat,t.2=(k:Int)∧k≤a.length∧(t.1.take k).Pairwise ltS∧∀x,x∈t.1.take k↔x∈a) (by
  rintro i ⟨xs,kk,jj⟩ hi ⟨hj,hlen,hsame,k,hkk,hk1,hkle,hpw,hmem,hmax⟩
  simp only at hj hlen hsame hkk hpw hmem hmax
  subst hj hkk
  have hi1:i+k0+1<a.length:=by omega
  have g1:xs[i+k0+1]'(by omega)=a[i+k0+1]:=by
   have:=hsame (i+k0+1) (by omega)
   rw [List.getElem?_eq_getElem (by omega),List.getElem?_eq_getElem hi1] at this
   exact Option.some.inj this
  have g0:xs[i+k0]'(by omega)=a[i+k0]:=by
   have:=hsame (i+k0) (by omega)
   rw [List.getElem?_eq_getElem (by omega),List.getElem?_eq_getElem (by omega)] at this
   exact Option.some.inj this
  have hgd:a.getD (i+k0) ByteArray.empty=a[i+k0]:=by simp [List.getD,show i+k0<a.length by omega]
  rw [hgd] at hmax
  have r1:zLF xs (k0:Int) x48.length ((i+1:Nat):Int)=some a[i+k0+1]:=by
   unfold zLF
   rw [if_pos (by omega),show (k0:Int)+((i+1:Nat):Int)=((i+k0+1:Nat):Int) by omega,zI (by omega),g1]
  have r0:zLF xs (k0:Int) x48.length (i:Int)=some a[i+k0]:=by
   unfold zLF
   rw [if_pos (by omega),show (k0:Int)+(i:Int)=((i+k0:Nat):Int) by omega,zI (by omega),g0]
  refine .inl ?_
  unfold tH
  rw [if_pos (by simp; omega)]
  simp only
  rw [r1,uP (x:=((i+1:Nat):Int)-1) (by omega) (by omega),show ((i+1:Nat):Int)-1=(i:Int) by omega,r0,zI (show k<xs.length by omega),zM (show k<_ by omega),zM (show i+1<_ by omega)]
  simp only [Option.bind_some]
  have htk:a.take (i+k0+1+1)=a.take (i+k0+1)++[a[i+k0+1]]:=List.take_succ_eq_append_getElem hi1
  have hmono:=hle (i+k0) (i+k0+1) (by omega) hi1 (by omega)
  have hgd1:a.getD (i+1+k0) ByteArray.empty=a[i+k0+1]:=by
   rw [show i+1+k0=i+k0+1 by omega]
   simp [List.getD,hi1]
  by_cases hne:a[i+k0+1]=a[i+k0]
  ·rw [if_neg (by simp [hne])]
   refine ⟨_,rfl,rfl,hlen,fun j hj=>hsame j (by omega),k,rfl,hk1,by omega,hpw,?_,?_⟩
   ·intro x
    rw [show i+1+k0+1=i+k0+1+1 by omega,htk,hmem,List.mem_append,List.mem_singleton]
    constructor
    ·exact fun h=>.inl h
    ·rintro (h|h)
     ·exact h
     ·rw [h,hne]
      refine List.mem_iff_getElem.2 ⟨i+k0,by simp; omega,by simp⟩
   ·intro x hx
    rw [hgd1]
    exact zG8 (hmax x hx) hmono
  ·rw [if_pos (by simpa [seq_eq] using hne)]
   refine ⟨_,rfl,rfl,by simpa using hlen,?_,k+1,rfl,by omega,by omega,?_,?_,?_⟩
   ·intro j hj
    show (xs.set (k:Int).toNat a[i+k0+1])[j]? =a[j]?
    rw [Int.toNat_natCast,List.getElem?_set_ne (by omega)]
    exact hsame j (by omega)
   ·show ((xs.set (k:Int).toNat a[i+k0+1]).take (k+1)).Pairwise ltS
    rw [Int.toNat_natCast,zGr (by omega),List.pairwise_append]
    refine ⟨hpw,by simp,fun x hx y hy=>?_⟩
    simp at hy
    rw [hy]
    exact zJd (hmax x hx) (zJ2 hmono (Ne.symm hne))
   ·intro x
    show x∈(xs.set (k:Int).toNat a[i+k0+1]).take (k+1)↔_
    rw [Int.toNat_natCast,zGr (by omega),show i+1+k0+1=i+k0+1+1 by omega,htk,List.mem_append,List.mem_append,hmem]
   ·intro x hx
    have hx':x∈(xs.set (k:Int).toNat a[i+k0+1]).take (k+1):=hx
    rw [Int.toNat_natCast,zGr (by omega)] at hx'
    rw [hgd1]
    rcases List.mem_append.1 hx' with h|h
    ·exact zG8 (hmax x h) hmono
    ·simp at h; rw [h]; exact zHM _) (by
  rintro ⟨xs,kk,jj⟩ ⟨hj,hlen,hsame,k,hkk,hk1,hkle,hpw,hmem,hmax⟩
  simp only at hj hlen hsame hkk hpw hmem hmax
  subst hj hkk
  unfold tH
  rw [if_neg (by simp; omega)]
  refine ⟨_,rfl,hlen,k,rfl,by omega,hpw,fun x=>?_⟩
  rw [hmem,List.take_of_length_le (by omega)]) (a.length-k0-1) 0 (a,(k0:Int),1) (by omega) ⟨rfl,rfl,fun _ _=>rfl,k0,rfl,h0,by omega,hp0,by
   intro x
   rw [Nat.zero_add,List.take_succ_eq_append_getElem hk,List.mem_append,List.mem_singleton]
   constructor
   ·exact fun h=>.inl h
   ·rintro (h|h)
    ·exact h
    ·rw [h,hd]
     exact List.mem_iff_getElem.2 ⟨k0-1,by simp; omega,by simp⟩,by
   intro x hx
   rw [Nat.zero_add]
   obtain ⟨j,hj,rfl⟩:=List.mem_iff_getElem.1 hx
   rw [List.getElem_take]
   have hgd:a.getD k0 ByteArray.empty=a[k0]:=by simp [List.getD,hk]
   rw [hgd]
   simp at hj
   exact hle j k0 (by omega) hk (by omega)⟩
 simp only at h1 h2
 subst h2
 exact ⟨xs,k,by unfold zAp; exact e,h1,h3,h4,h5⟩
theorem zJl (a:List ByteArray) (hs:a.Pairwise leS) (hl:a.length≤1048577):∃r,zB4 a=some r∧r.Pairwise ltS∧(∀x,x∈r↔x∈a)∧r.length≤a.length:=by
 have step1:∀i (hi:i<a.length) (h1:1≤i),(a.take i).Pairwise ltS→a[i]≠a[i-1]'(by omega)→(a.take (i+1)).Pairwise ltS:=by
  intro i hi h1 hp hne
  rw [List.take_succ_eq_append_getElem hi,List.pairwise_append]
  refine ⟨hp,by simp,fun x hx y hy=>?_⟩
  simp at hy
  rw [hy]
  obtain ⟨j,hj,rfl⟩:=List.mem_iff_getElem.1 hx
  rw [List.getElem_take]
  simp at hj
  have q1:leS (a[i-1]'(by omega)) a[i]:=List.pairwise_iff_getElem.1 hs (i-1) i (by omega) hi (by omega)
  have q2:leS (a[j]'(by omega)) (a[i-1]'(by omega)):=by
   rcases Nat.lt_or_ge j (i-1) with h|h
   ·exact List.pairwise_iff_getElem.1 hs j (i-1) (by omega) (by omega) h
   ·have:j=i-1:=by omega
    subst this; exact zHM _
  exact zJd q2 (zJ2 q1 (Ne.symm hne))
 have hb:∀i (hi:i<a.length) (h1:1≤i),(a.take i).Pairwise ltS→(a[i]=a[i-1]'(by omega)∧∃r,wV a (i:Int)=some (.done (.ret r))∧r.Pairwise ltS∧(∀x,x∈r↔x∈a)∧r.length≤a.length)∨(a[i]≠a[i-1]'(by omega)∧wV a (i:Int)=some (.go ((i+1:Nat):Int))):=by
  intro i hi h1 hp
  unfold wV
  rw [if_pos (by simp; omega),zI hi,uP (x:=(i:Int)-1) (by omega) (by omega),show (i:Int)-1=((i-1:Nat):Int) by omega,zI (show i-1<a.length by omega),zM (by omega)]
  simp only [Option.bind_some]
  by_cases he:a[i]=a[i-1]'(by omega)
  ·left
   refine ⟨he,?_⟩
   rw [if_pos (by simpa [seq_eq] using he),zEi (Nat.le_of_lt hi) (Nat.le_refl _)]
   simp only [Option.bind_some]
   obtain ⟨xs,k,e,g1,g2,g3,g4⟩:=zHb a i h1 hi hs hl he hp ((a.drop i).take (a.length-i)) (by simp)
   rw [e]
   simp only [Option.bind_some]
   have hk:k≤xs.length:=by omega
   rw [zEi hk (Nat.le_refl _)]
   simp only [Option.bind_some]
   rw [zKC (by simp; omega)]
   simp only [Option.bind_some]
   refine ⟨xs.take k,?_,g3,g4,by simp; omega⟩
   have:∀ys:List ByteArray,zE7 (xs.take k++ys) 0 (k:Int)=some (xs.take k):=by
    intro ys
    have hh:=zEi (xs:=xs.take k++ys) (l:=0) (h:=k) (by omega) (by simp; omega)
    rw [show ((0:Nat):Int)=0 from rfl] at hh
    rw [hh]
    simp [Nat.min_eq_left hk]
   rw [List.append_assoc,this]
   rfl
  ·right
   rw [if_neg (by simpa [seq_eq] using he)]
   exact ⟨he,rfl⟩
 unfold zB4
 by_cases h2:a.length<2
 ·rw [if_pos (by simp; omega)]
  refine ⟨a,rfl,?_,fun x=>Iff.rfl,Nat.le_refl _⟩
  match a,h2 with
  |[],_=>simp
  |[x],_=>simp
 ·rw [if_neg (by simp; omega)]
  obtain ⟨t,e,h⟩:=wJ (b:=wV a) (fun i s=>s=((i+1:Nat):Int)∧(a.take (i+1)).Pairwise ltS) (a.length-1)
   (fun t=>(∃r,t= .ret r∧r.Pairwise ltS∧(∀x,x∈r↔x∈a)∧r.length≤a.length)∨(t= .nxt ()∧a.Pairwise ltS)) (by
   rintro i s hi ⟨rfl,hp⟩
   rcases hb (i+1) (by omega) (by omega) hp with ⟨_,r,e,q⟩|⟨hne,e⟩
   ·exact .inr ⟨_,e,.inl ⟨r,rfl,q⟩⟩
   ·exact .inl ⟨_,e,rfl,step1 (i+1) (by omega) (by omega) hp hne⟩) (by
   rintro s ⟨rfl,hp⟩
   rw [show a.length-1+1=a.length by omega] at hp ⊢
   refine ⟨.nxt (),?_,.inr ⟨rfl,by rw [List.take_length] at hp; exact hp⟩⟩
   unfold wV
   rw [if_neg (by simp)]) (a.length-1) 0 1 (by omega) ⟨rfl,by
    match a,h2 with
    |x::l,_=>simp⟩
  unfold zCR
  rw [e]
  rcases h with ⟨r,rfl,q⟩|⟨rfl,q⟩
  ·exact ⟨r,rfl,q⟩
  ·exact ⟨a,rfl,q,fun x=>Iff.rfl,Nat.le_refl _⟩
theorem zFs (a:List ByteArray) (hl:a.length≤1048577):∃r,zCz a=some r∧r.Pairwise ltS∧∀x,x∈r↔x∈a:=by
 obtain ⟨m,e1,e2,e3,e4⟩:=zLM a hl
 obtain ⟨r,f1,f2,f3,_⟩:=zJl m e2 (by omega)
 unfold zCz
 rw [e1]
 simp only [Option.bind_some]
 rw [zJa e4]
 simp only [Option.bind_some]
 rw [f1]
 exact ⟨r,rfl,f2,fun x=>by rw [f3,e3]⟩
structure Sr (b:Nat) (s:zD):Prop where
 len:s.Code.length≤1048576
 byt:∀c∈s.Code,0≤c∧c≤255
 a0:0≤s.At
 a1:s.At≤(b:Int)
theorem Sr.mono {b b':Nat} {s:zD} (h:Sr b s) (hb:b≤b'):Sr b' s:=⟨h.len,h.byt,h.a0,by have:=h.a1; omega⟩
theorem zIZ {a:List Int} (h:a.length≤1048576) (hb:∀c∈a,0≤c∧c≤255):∃s,zB0 a=some s∧Sr 0 s:=
 ⟨_,rfl,h,hb,Int.le_refl _,Int.le_refl _⟩
theorem tN {b:Nat} {s:zD} (h:Sr b s) (hb:b≤1000000000) (n:Int):∃r s',zL s n=some (r,s')∧0≤r∧(1≤n→r<n)∧Sr (b+1) s':=by
 obtain ⟨hl,hbt,h0,h1⟩:=h
 have e1:w64 (s.At+1)=s.At+1:=uP (by omega) (by omega)
 have e2:w64 (s.At+1-1)=s.At:=by rw [uP (by omega) (by omega)]; omega
 have hS:Sr (b+1) {Code:=s.Code,At:=s.At+1}:=⟨hl,hbt,by show 0≤s.At+1; omega,by show s.At+1≤_; omega⟩
 unfold zL
 rw [e1,e2]
 by_cases hn:n<1
 ·rw [if_pos (by simpa using hn)]
  exact ⟨0,_,rfl,Int.le_refl _,fun h=>by omega,hS⟩
 rw [if_neg (by simpa using hn)]
 have hr:∀v:Int,0≤v→∃r,zLG v n=some r∧0≤r∧r<n:=fun v hv=>⟨v.tmod n,by unfold zLG; rw [if_neg (by omega)],Int.tmod_nonneg _ hv,Int.tmod_lt_of_pos _ (by omega)⟩
 by_cases hk:((s.Code.length:Int)==0)=true
 ·rw [if_pos hk,uP (x:=s.At*7) (by omega) (by omega)]
  obtain ⟨r,e,g1,g2⟩:=hr (s.At*7) (by omega)
  rw [e]
  exact ⟨r,_,rfl,g1,fun _=>g2,hS⟩
 ·rw [if_neg hk]
  have hkp:0<s.Code.length:=by
   have:¬((s.Code.length:Int)=0):=fun h=>hk (by simp [h])
   omega
  have hrk:∀v:Int,0≤v→∃(q:Nat) (hq:q<s.Code.length),zLG v (s.Code.length:Int)=some (q:Int):=fun v hv=>by
   have g1:=Int.tmod_nonneg (s.Code.length:Int) hv
   have g2:=Int.tmod_lt_of_pos v (b:=(s.Code.length:Int)) (by omega)
   refine ⟨(v.tmod (s.Code.length:Int)).toNat,by omega,?_⟩
   unfold zLG
   rw [if_neg (by omega)]
   congr 1
   omega
  obtain ⟨q,hq,eq⟩:=hrk s.At h0
  obtain ⟨q2,hq2,eq2⟩:=hrk (s.At+1) (by omega)
  have hc:=hbt _ (List.getElem_mem hq)
  have hc2:=hbt _ (List.getElem_mem hq2)
  obtain ⟨d,ed,d0,d1⟩:∃d,zNC .i64 s.At (s.Code.length:Int)=some d∧0≤d∧d≤s.At:=by
   have g1:=Int.tdiv_nonneg h0 (show 0≤(s.Code.length:Int) by omega)
   have g2:s.At.tdiv (s.Code.length:Int)≤s.At:=by
    rw [Int.tdiv_eq_ediv_of_nonneg h0]
    exact Int.ediv_le_self _ h0
   refine ⟨s.At.tdiv (s.Code.length:Int),?_,g1,g2⟩
   unfold zNC
   rw [if_neg (by omega)]
   congr 1
   exact uP (by omega) (by omega)
  rw [eq]
  simp only [Option.bind_some,zI hq,ed]
  rw [uP (x:=s.At+1) (by omega) (by omega),eq2]
  simp only [Option.bind_some,zI hq2]
  rw [uP (x:=s.Code[q]) (by omega) (by omega),uP (x:=d*37) (by omega) (by omega),uP (x:=s.Code[q]+d*37) (by omega) (by omega),uP (x:=(s.Code[q]+d*37)*251) (by omega) (by omega),
   uP (x:=s.Code[q2]) (by omega) (by omega),uP (x:=s.Code[q2]*13) (by omega) (by omega),uP (x:=(s.Code[q]+d*37)*251+s.Code[q2]*13) (by omega) (by omega),uP (x:=(s.Code[q]+d*37)*251+s.Code[q2]*13+s.At) (by omega) (by omega)]
  by_cases h200:n>200
  ·rw [if_pos (by simpa using h200)]
   obtain ⟨r,e,g1,g2⟩:=hr ((s.Code[q]+d*37)*251+s.Code[q2]*13+s.At) (by omega)
   simp only [Option.bind_some,e]
   exact ⟨r,_,rfl,g1,fun _=>g2,hS⟩
  ·rw [if_neg (by simpa using h200)]
   obtain ⟨r,e,g1,g2⟩:=hr (s.Code[q]+d*37) (by omega)
   simp only [Option.bind_some,e]
   exact ⟨r,_,rfl,g1,fun _=>g2,hS⟩
theorem uH {b:Nat} {s:zD} (h:Sr b s) (hb:b≤1000000000) (n:Int):∃r s',zR s n=some (r,s')∧Sr (b+1) s':=by
 obtain ⟨r,s',e,_,_,h'⟩:=tN h hb n
 unfold zR
 rw [e]
 exact ⟨_,_,rfl,h'⟩
theorem at_next {α:Type} {b:Nat} {s:zD} (h:Sr b s) (hb:b≤1000000000) {l:List α} {n:Int} (hn:n=(l.length:Int)) (hl:l≠[]):
  ∃r s' x,zL s n=some (r,s')∧idx l r=some x∧x∈l∧Sr (b+1) s':=by
 obtain ⟨r,s',e,g1,g2,h'⟩:=tN h hb n
 have hlp:0<l.length:=List.length_pos_iff.2 hl
 have g3:=g2 (by omega)
 obtain ⟨q,rfl⟩:=Int.eq_ofNat_of_zero_le g1
 have hq:q<l.length:=by omega
 exact ⟨_,s',l[q],e,zI hq,List.getElem_mem hq,h'⟩
theorem zDB {b:Nat} {s:zD} (h:Sr b s) (hb:b≤1000000000) (l:List Int) (hl:l≠[]):∃x s',wB s l=some (x,s')∧x∈l∧Sr (b+1) s':=by
 obtain ⟨r,s',x,e1,e2,hx,h'⟩:=at_next h hb (l:=l) rfl hl
 unfold wB
 rw [e1]
 simp only [Option.bind_some,e2]
 exact ⟨x,s',rfl,hx,h'⟩
theorem zFB {b:Nat} {s:zD} (h:Sr b s) (hb:b≤1000000000):∃p s',wE s=some (p,s')∧p.size≤20∧Sr (b+1) s':=by
 obtain ⟨r,s',x,e1,e2,hx,h'⟩:=at_next h hb (l:=[bs [97],bs [98],bs [99],bs [100],bs [108,105,98],bs [119,101,98]]) (n:=6) rfl (by simp)
 refine ⟨x,s',?_,?_,h'⟩
 ·unfold wE
  rw [e1]
  simp only [Option.bind_some,e2]
 ·simp only [List.mem_cons,List.not_mem_nil,or_false] at hx
  rcases hx with rfl|rfl|rfl|rfl|rfl|rfl<;>decide
theorem zGo {b:Nat} {s:zD} (h:Sr b s) (hb:b+10≤1000000000):∃v s',uR s=some (v,s')∧(0≤v.A∧v.A≤3)∧Sr (b+5) s':=by
 obtain ⟨a,s1,e1,a0,a1,h1⟩:=tN h (by omega) 4
 obtain ⟨c,s2,e2,_,_,h2⟩:=tN h1 (by omega) 3
 obtain ⟨d,s3,e3,_,h3⟩:=zDB h2 (by omega) [0,0,c] (by simp)
 obtain ⟨f,s4,e4,_,_,h4⟩:=tN h3 (by omega) 3
 obtain ⟨g,s5,e5,_,h5⟩:=zDB h4 (by omega) [0,0,0,f] (by simp)
 refine ⟨{A:=a,B:=d,C:=g},s5,?_,⟨a0,by have:=a1 (by omega); simp only; omega⟩,h5⟩
 unfold uR
 rw [e1]
 simp only [Option.bind_some,e2,e3,e4,e5]
theorem zFC {b:Nat} {s:zD} (h:Sr b s) (hb:b+20≤1000000000):∃t s',vQ s=some (t,s')∧t.Name.size≤20∧Sr (b+9) s':=by
 obtain ⟨p,s1,e1,hp,h1⟩:=zFB h (by omega)
 obtain ⟨q,s2,e2,h2⟩:=uH h1 (by omega) 2
 obtain ⟨v,s3,e3,h3⟩:∃(v:Version) (s3:zD),(if q=true then (uR s2).bind fun x9=>some (x9.2.Code,x9.2.At,x9.1.A,x9.1.B,x9.1.C) else some (s2.Code,s2.At,0,0,0))=some (s3.Code,s3.At,v.A,v.B,v.C)∧Sr (b+7) s3:=by
  cases q
  ·exact ⟨{A:=0,B:=0,C:=0},s2,rfl,h2.mono (by omega)⟩
  ·obtain ⟨v,s3,e,_,h3⟩:=zGo h2 (by omega)
   rw [e]
   exact ⟨v,s3,rfl,h3.mono (by omega)⟩
 obtain ⟨q2,s4,e4,h4⟩:=uH (s:= {Code:=s3.Code,At:=s3.At}) h3 (by omega) 3
 obtain ⟨u,s5,e5,h5⟩:∃(u:Version) (s5:zD),(if q2=true then (zL s4 2).bind fun x15=>some (x15.2.Code,x15.2.At,w64 (w64 (v.A+1)+x15.1),(0:Int),(0:Int)) else some (s4.Code,s4.At,1000,0,0))=some (s5.Code,s5.At,u.A,u.B,u.C)∧Sr (b+9) s5:=by
  cases q2
  ·exact ⟨{A:=1000,B:=0,C:=0},s4,rfl,h4.mono (by omega)⟩
  ·obtain ⟨r,s5,e,_,_,h5⟩:=tN h4 (by omega) 2
   rw [e]
   exact ⟨{A:=w64 (w64 (v.A+1)+r),B:=0,C:=0},s5,rfl,h5.mono (by omega)⟩
 refine ⟨{Name:=p,Low:=v,High:=u},s5,?_,hp,h5⟩
 unfold vQ uJ zAt
 rw [e1]
 simp only [Option.bind_some,e2,e3,e4,e5]
theorem zHF {b:Nat} {s:zD} (h:Sr b s) (hb:b+10≤1000000000):∃p s',wQ s=some (p,s')∧p.size≤20∧Sr (b+2) s':=by
 obtain ⟨q,s1,e,h1⟩:=uH h (by omega) 14
 unfold wQ
 rw [e]
 simp only [Option.bind_some]
 cases q
 ·obtain ⟨p,s2,e2,h2,h3⟩:=zFB h1 (by omega)
  rw [e2]
  exact ⟨p,s2,rfl,h2,h3⟩
 ·obtain ⟨r,s',x,e1,e2,hx,h'⟩:=at_next h1 (by omega) (l:=[bs [],bs [49,97],bs [65],bs [97,98,99,100,101,102,103,104,105,106,107,108,109],bs [97,98,99,100,101,102,103,104,105,106,107,108],bs [97,32,98],bs [97,45],bs [95,97],bs [97,95,49]]) (n:=9) rfl (by simp)
  rw [e1]
  simp only [Option.bind_some,e2,if_true]
  refine ⟨x,s',rfl,?_,h'⟩
  simp only [List.mem_cons,List.not_mem_nil,or_false] at hx
  rcases hx with rfl|rfl|rfl|rfl|rfl|rfl|rfl|rfl|rfl<;>decide
theorem zEh {b:Nat} {s:zD} (h:Sr b s) (hb:b+20≤1000000000):∃v s',wL s=some (v,s')∧Sr (b+7) s':=by
 obtain ⟨v,s1,e1,_,h1⟩:=zGo h (by omega)
 obtain ⟨n,s2,e2,_,_,h2⟩:=tN h1 (by omega) 14
 unfold wL
 rw [e1]
 simp only [Option.bind_some,e2]
 by_cases c0:(n==0)=true
 ·obtain ⟨y,s3,e3,_,h3⟩:=zDB h2 (by omega) [-1,999,1000] (by simp)
  rw [if_pos c0,e3]
  exact ⟨_,_,rfl,h3⟩
 rw [if_neg c0]
 by_cases c1:(n==1)=true
 ·obtain ⟨y,s3,e3,_,h3⟩:=zDB h2 (by omega) [-1,999,1000] (by simp)
  rw [if_pos c1,e3]
  exact ⟨_,_,rfl,h3⟩
 rw [if_neg c1]
 by_cases c2:(n==2)=true
 ·obtain ⟨y,s3,e3,_,h3⟩:=zDB h2 (by omega) [-1,999,1000,4611686018427387904] (by simp)
  rw [if_pos c2,e3]
  exact ⟨_,_,rfl,h3⟩
 rw [if_neg c2]
 exact ⟨_,_,rfl,h2.mono (by omega)⟩
theorem zEM {b:Nat} {s:zD} (h:Sr b s) (hb:b+40≤1000000000):∃t s',vM s=some (t,s')∧t.Name.size≤20∧Sr (b+20) s':=by
 obtain ⟨t,s1,e1,ht,h1⟩:=zFC h (by omega)
 obtain ⟨n,s2,e2,_,_,h2⟩:=tN h1 (by omega) 14
 unfold vM
 rw [e1]
 simp only [Option.bind_some,e2]
 by_cases c0:(n==0)=true
 ·obtain ⟨p,s3,e3,hp,h3⟩:=zHF h2 (by omega)
  rw [if_pos c0,e3]
  exact ⟨_,_,rfl,hp,h3.mono (by omega)⟩
 rw [if_neg c0]
 by_cases c1:(n==1)=true
 ·obtain ⟨v,s3,e3,h3⟩:=zEh h2 (by omega)
  rw [if_pos c1,e3]
  exact ⟨_,_,rfl,ht,h3.mono (by omega)⟩
 rw [if_neg c1]
 by_cases c2:(n==2)=true
 ·obtain ⟨v,s3,e3,h3⟩:=zEh h2 (by omega)
  rw [if_pos c2,e3]
  exact ⟨_,_,rfl,ht,h3.mono (by omega)⟩
 rw [if_neg c2]
 by_cases c3:(n==3)=true
 ·rw [if_pos c3]
  exact ⟨_,_,rfl,ht,h2.mono (by omega)⟩
 rw [if_neg c3]
 exact ⟨_,_,rfl,ht,h2.mono (by omega)⟩
def jC (c:List Pack) (k:Int):ByteArray:=(pat c k).Name
def Nms (c:List Pack) (a b:List Int) (x n:ByteArray):Prop:=n=x∨∃k,(k∈a∨k∈b)∧jC c k=x∧n∈(pat c k).Provides
def Says (c:List Pack) (k:Int) (n:ByteArray):Prop:=(∃l∈(pat c k).Needs,∃t∈l,t.Name=n)∨∃t∈(pat c k).Bars,t.Name=n
def Tch (c:List Pack) (a b:List Int) (x y:ByteArray):Prop:=∃k,(k∈a∨k∈b)∧jC c k=x∧∃n,Says c k n∧Nms c a b y n
def Joi (c:List Pack) (a b:List Int) (x y:ByteArray):Prop:=
 Tch c a b x y∨Tch c a b y x∨∃k,(k∈a∨k∈b)∧∃l∈(pat c k).Needs,(∃t∈l,Nms c a b x t.Name)∧∃t∈l,Nms c a b y t.Name
theorem Joi.symm {c:List Pack} {a b:List Int} {x y:ByteArray} (h:Joi c a b x y):Joi c a b y x:=by
 rcases h with h|h|⟨k,h1,l,h2,h3,h4⟩
 ·exact .inr (.inl h)
 ·exact .inl h
 ·exact .inr (.inr ⟨k,h1,l,h2,h4,h3⟩)
def inN (ns:List ByteArray) (n:ByteArray):Bool:=ns.any fun x=>seq x n
theorem zEQ {ns:List ByteArray} {n:ByteArray}:inN ns n=true↔n∈ns:=by
 unfold inN
 rw [List.any_eq_true]
 constructor
 ·rintro ⟨x,hx,e⟩; rw [←zE5.1 e]; exact hx
 ·exact fun h=>⟨n,h,zFG n⟩
def mvB (c:List Pack) (a b:List Int) (ns:List ByteArray) (k:Int):Bool:=if inN ns (jC c k) then decide (k∈b) else decide (k∈a)
def upTo (n:Nat):List Int:=(List.range n).map fun i:Nat=>(i:Int)
def mvL (c:List Pack) (a b:List Int) (ns:List ByteArray):List Int:=(upTo c.length).filter (mvB c a b ns)
theorem zLw (n:Nat):upTo (n+1)=upTo n++[(n:Int)]:=by simp [upTo,List.range_succ]
theorem zGX (n:Nat):(upTo n).length =n:=by simp [upTo]
theorem zJy {n:Nat} {k:Int}:k∈upTo n↔0≤k∧k<n:=by
 unfold upTo
 rw [List.mem_map]
 constructor
 ·rintro ⟨i,hi,rfl⟩
  have:=List.mem_range.1 hi
  omega
 ·rintro ⟨h1,h2⟩
  exact ⟨k.toNat,List.mem_range.2 (by omega),by omega⟩
theorem zMZ (n:Nat):(upTo n).Pairwise (· < ·):=by
 unfold upTo
 refine List.pairwise_map.2 (List.pairwise_lt_range.imp fun h=>by omega)
theorem zJv (c:List Pack) (a b:List Int) (ns:List ByteArray):(mvL c a b ns).Pairwise (· < ·):=(zMZ _).filter _
theorem zFW (c:List Pack) (a b:List Int) (ns:List ByteArray):Places c (mvL c a b ns):=fun k hk=>zJy.1 (List.mem_filter.1 hk).1
theorem zGa (c:List Pack) (a b:List Int) (ns:List ByteArray):(mvL c a b ns).length ≤c.length:=by
 have:=List.length_filter_le (mvB c a b ns) (upTo c.length)
 rw [zGX] at this
 exact this
theorem zLp {c:List Pack} {a b:List Int} {ns:List ByteArray} (ha:Places c a) (hb:Places c b) {k:Int}:k∈mvL c a b ns↔(jC c k∈ns∧k∈b)∨(jC c k∉ns∧k∈a):=by
 unfold mvL mvB
 rw [List.mem_filter,zJy]
 have hin:=zEQ (ns:=ns) (n:=jC c k)
 cases hq:inN ns (jC c k)
 ·have hno:jC c k∉ns:=fun h=>by rw [hin.2 h] at hq; cases hq
  simp only [Bool.false_eq_true,if_false,decide_eq_true_eq]
  constructor
  ·rintro ⟨_,h⟩; exact .inr ⟨hno,h⟩
  ·rintro (⟨h,_⟩|⟨_,h⟩)
   ·exact absurd h hno
   ·exact ⟨ha k h,h⟩
 ·have hyes:=hin.1 hq
  simp only [if_true,decide_eq_true_eq]
  constructor
  ·rintro ⟨_,h⟩; exact .inl ⟨hyes,h⟩
  ·rintro (⟨_,h⟩|⟨h,_⟩)
   ·exact ⟨hb k h,h⟩
   ·exact absurd hyes h
theorem zKJ {c:List Pack} {a b:List Int} {ns:List ByteArray} (hc:c.length≤1048576) (ha:a.length≤1048576) (hb:b.length≤1048576) (hn:ns.length≤1048576):zC4 c a b ns=some (mvL c a b ns):=by
 obtain ⟨t,e,rfl⟩:=wJ (b:=zC7 c a b ns) (fun i s=>s=((upTo i).filter (mvB c a b ns),(i:Int))) c.length (fun t=>t=mvL c a b ns) (by
  rintro i s hi rfl
  refine .inl ⟨_,?_,rfl⟩
  unfold zC7
  have hk:=vR (c:=c) (k:=(i:Int)) ⟨by omega,by omega⟩
  have hl:((upTo i).filter (mvB c a b ns)).length ≤i:=by
   have:=List.length_filter_le (mvB c a b ns) (upTo i)
   rw [zGX] at this
   exact this
  rw [if_pos (by simp; omega)]
  simp only
  rw [hk.1]
  simp only [Option.bind_some]
  rw [zDy _ _ hn,zFq _ _ ha,zFq _ _ hb,zM (by omega),vJ (B:=8) (ys:=[(i:Int)]) (by simp; omega) (by simp; omega)]
  simp only [Option.bind_some]
  have hm:mvB c a b ns (i:Int)=if (ns.any fun x=>seq x (pat c i).Name) then decide ((i:Int)∈b) else decide ((i:Int)∈a):=rfl
  rw [zLw,List.filter_append,List.filter_cons,List.filter_nil,hm]
  cases (ns.any fun x=>seq x (pat c i).Name)<;>cases decide ((i:Int)∈a)<;>cases decide ((i:Int)∈b)<;>simp) (by
  rintro s rfl
  unfold zC7
  rw [if_neg (by simp)]
  exact ⟨_,rfl,rfl⟩) c.length 0 (([]:List Int),0) (by omega) (by simp [upTo])
 unfold zC4 zDd
 rw [e]
 rfl
theorem zMh {l r:List Int} (hr:r.Pairwise (· < ·)) (hl:l.Nodup) (hm:∀x,x∈r↔x∈l) (hs:l.length≤4194304):uI l=some r:=by
 unfold uI
 rw [if_pos (by omega)]
 congr 1
 have hp:(l.mergeSort fun x y=>decide (x≤y)).Pairwise (fun x y=>decide (x≤y)=true):=List.pairwise_mergeSort (le:=fun x y:Int=>decide (x≤y)) (by intro x y z h1 h2; simp at*; omega) (by intro x y; simp; omega) l
 have hn:(l.mergeSort fun x y=>decide (x≤y)).Nodup :=(List.mergeSort_perm _ _).nodup_iff.2 hl
 refine zH0 ?_ hr (fun x=>(List.mergeSort_perm _ _).mem_iff.trans (hm x).symm)
 exact hp.imp₂ (fun x y h1 h2=>by simp at h1; omega) hn
theorem zGC {c:List Pack} {a:List Int} {ns:List ByteArray} (hp:Places c a) (ha:a.length≤1048576) (hn:ns.length≤1048576):
  wY a ns c=some (a.filter fun k=>inN ns (jC c k))∧yR a ns c=some (a.filter fun k=> !(inN ns (jC c k))):=by
 have h1:∀k∈a,xZ k ns c=some (!(inN ns (jC c k))):=by
  intro k hk
  unfold xZ zA8
  rw [(vR (hp k hk)).1]
  simp only [Option.bind_some]
  rw [zDJ _ _ hn]
  rfl
 have h2:∀k∈a,zT k ns c=some (inN ns (jC c k)):=by
  intro k hk
  unfold zT vC zA8
  rw [(vR (hp k hk)).1]
  simp only [Option.bind_some]
  rw [zDJ _ _ hn]
  simp only [Option.bind_some,Bool.not_not]
  rfl
 constructor
 ·have key:=zLn (fun k=> !(inN ns (jC c k))) a (0:Int) (by omega) (b1:=yA a ns c) (b2:=zZ ns c) (by
   intro i hi
   unfold yA
   rw [if_pos (by simp; omega),zI hi]
   simp only [Option.bind_some,h1 _ (List.getElem_mem hi)]
   rw [zM (by omega)]
   split<;>rfl) (by
   unfold yA
   rw [if_neg (by simp)]) (by
   intro xs i j hj hij hl hm
   unfold zZ
   simp only
   rw [if_pos (by simp; omega),zI hj]
   simp only [Option.bind_some,h1 _ hm]
   rw [zI (show i<xs.length by omega),zM (show j<_ by omega),zM (show i<_ by omega)]
   cases inN ns (jC c xs[j])<;>simp) (by
   intro xs i hl
   unfold zZ
   rw [if_neg (by simp)])
  have e:zV a ns c=some (a.filter fun k=> !!(inN ns (jC c k))):=key
  unfold wY wX
  rw [vJ (by simp; omega) (by simp; omega)]
  simp only [Option.bind_some,List.nil_append]
  rw [e]
  simp
 ·have key:=zLn (fun k=>inN ns (jC c k)) a (0:Int) (by omega) (b1:=zO a ns c) (b2:=zN ns c) (by
   intro i hi
   unfold zO
   rw [if_pos (by simp; omega),zI hi]
   simp only [Option.bind_some,h2 _ (List.getElem_mem hi)]
   rw [zM (by omega)]
   split<;>rfl) (by
   unfold zO
   rw [if_neg (by simp)]) (by
   intro xs i j hj hij hl hm
   unfold zN
   simp only
   rw [if_pos (by simp; omega),zI hj]
   simp only [Option.bind_some,h2 _ hm]
   rw [zI (show i<xs.length by omega),zM (show j<_ by omega),zM (show i<_ by omega)]
   cases inN ns (jC c xs[j])<;>simp) (by
   intro xs i hl
   unfold zN
   rw [if_neg (by simp)])
  have e:zK a ns c=some (a.filter fun k=> !(inN ns (jC c k))):=key
  unfold yR wX
  rw [vJ (by simp; omega) (by simp; omega)]
  simp only [Option.bind_some,List.nil_append]
  rw [e]
  rfl
theorem zHk {c:List Pack} {a b:List Int} {ns:List ByteArray} (pa:Places c a) (pb:Places c b) (sa:a.Pairwise (· < ·)) (sb:b.Pairwise (· < ·)) (ha:a.length≤1048576) (hb:b.length≤1048576) (hn:ns.length≤1048576):
  kK c a b ns=some (mvL c a b ns):=by
 have l1:=List.length_filter_le (fun k=> !(inN ns (jC c k))) a
 have l2:=List.length_filter_le (fun k=>inN ns (jC c k)) b
 unfold kK
 rw [(zGC pa ha hn).2,(zGC pb hb hn).1]
 simp only [Option.bind_some]
 rw [vJ (by omega) (by omega)]
 simp only [Option.bind_some]
 have nd:∀{l:List Int},l.Pairwise (· < ·)→l.Nodup:=fun h=>h.imp fun h=>by omega
 rw [zMh (r:=mvL c a b ns) (zJv c a b ns) ?_ ?_ (by simp only [List.length_append]; omega)]
 ·simp only [Option.bind_some]
  rw [zJa]
  ·rfl
  ·refine (List.Perm.length_eq ?_)
   refine (List.perm_ext_iff_of_nodup (nd (zJv c a b ns)) ?_).2 ?_
   ·refine List.nodup_append.2 ⟨(nd sa).filter _,(nd sb).filter _,fun x hx y hy e=>?_⟩
    subst e
    have h1:=(List.mem_filter.1 hx).2
    have h2:=(List.mem_filter.1 hy).2
    rw [h2] at h1
    cases h1
   ·intro k
    rw [zLp pa pb,List.mem_append,List.mem_filter,List.mem_filter]
    have hin:=zEQ (ns:=ns) (n:=jC c k)
    cases hq:inN ns (jC c k)
    ·have hno:jC c k∉ns:=fun h=>by rw [hin.2 h] at hq; cases hq
     simp [hno]
    ·simp [hin.1 hq]
 ·refine List.nodup_append.2 ⟨(nd sa).filter _,(nd sb).filter _,fun x hx y hy e=>?_⟩
  subst e
  have h1:=(List.mem_filter.1 hx).2
  have h2:=(List.mem_filter.1 hy).2
  rw [h2] at h1
  cases h1
 ·intro k
  rw [zLp pa pb,List.mem_append,List.mem_filter,List.mem_filter]
  have hin:=zEQ (ns:=ns) (n:=jC c k)
  cases hq:inN ns (jC c k)
  ·have hno:jC c k∉ns:=fun h=>by rw [hin.2 h] at hq; cases hq
   simp [hno]
  ·simp [hin.1 hq]
def zDh (c:List Pack) (a:List Int) (n:ByteArray):Int:=(wI (fun _ k=>if seq (pat c k).Name n then some k else none) 0 a).getD (-1)
theorem zHV {q:Int→Bool}:∀(xs:List Int) (i:Nat),((wI (fun _ k=>if q k then some k else none) i xs)=none∧∀k∈xs,q k=false)∨∃k∈xs,q k=true∧(wI (fun _ k=>if q k then some k else none) i xs)=some k
 |[],i=>.inl ⟨rfl,by simp⟩
 |x::xs,i=>by
  simp only [wI]
  cases hq:q x
  ·simp only [Bool.false_eq_true,if_false]
   rcases zHV (q:=q) xs (i+1) with ⟨h1,h2⟩|⟨k,h1,h2,h3⟩
   ·refine .inl ⟨h1,fun k hk=>?_⟩
    rcases List.mem_cons.1 hk with rfl|hk
    ·exact hq
    ·exact h2 k hk
   ·exact .inr ⟨k,by simp [h1],h2,h3⟩
  ·simp only [if_true]
   exact .inr ⟨x,by simp,hq,rfl⟩
theorem zDO (c:List Pack) (a:List Int) (n:ByteArray):(zDh c a n= -1∧∀k∈a,jC c k≠n)∨(zDh c a n∈a∧jC c (zDh c a n)=n):=by
 unfold zDh
 rcases zHV (q:=fun k=>seq (pat c k).Name n) a 0 with ⟨h1,h2⟩|⟨k,h1,h2,h3⟩
 ·rw [h1]
  refine .inl ⟨rfl,fun k hk e=>?_⟩
  have:seq (jC c k) n=false:=h2 k hk
  rw [zE5.2 e] at this
  cases this
 ·rw [h3]
  exact .inr ⟨h1,zE5.1 h2⟩
theorem zDV {c:List Pack} {a:List Int} (hp:Places c a) (ha:a.length≤1048576) (n:ByteArray):tT c a n=some (zDh c a n)∧tV c a n=some (zDh c a n):=by
 have key:=xX a (fun _ k=>if seq (pat c k).Name n then some k else none) (b:=zDf c a n) (by
  intro i hi
  have hk:=hp _ (List.getElem_mem hi)
  unfold zDf
  rw [if_pos (by simp; omega),zI hi]
  simp only [Option.bind_some]
  rw [(vR hk).1]
  simp only [Option.bind_some]
  rw [zM (by omega)]
  cases seq (pat c a[i]).Name n<;>rfl) (by
  unfold zDf
  rw [if_neg (by simp)])
 have key2:=xX a (fun _ k=>if seq (pat c k).Name n then some k else none) (b:=kI c a n) (by
  intro i hi
  have hk:=hp _ (List.getElem_mem hi)
  unfold kI
  rw [if_pos (by simp; omega),zI hi]
  simp only [Option.bind_some]
  rw [(vR hk).1]
  simp only [Option.bind_some]
  rw [zM (by omega)]
  cases seq (pat c a[i]).Name n<;>rfl) (by
  unfold kI
  rw [if_neg (by simp)])
 constructor
 ·unfold tT zDA zDh
  rw [key,zAo]
  cases wI (fun _ k=>if seq (pat c k).Name n then some k else none) 0 a<;>rfl
 ·unfold tV zCO zDh
  rw [key2,zAo]
  cases wI (fun _ k=>if seq (pat c k).Name n then some k else none) 0 a<;>rfl
theorem zL3 {a b:List Int} (ha:a.length≤1048576) (hb:b.length≤1048576):zBc [a,b]=some (a++b):=by
 unfold zBc zDH zD7
 have e1:loop (wH [a,b]) (0,0)=some ((a.length+b.length:Nat):Int):=by
  have i0:idx [a,b] 0=some a:=rfl
  have i1:idx [a,b] 1=some b:=rfl
  rw [vH,show wH [a,b] (0,0)=some (.go ((a.length:Int),1)) by
   unfold wH
   rw [if_pos (by simp)]
   simp only
   rw [i0]
   simp only [Option.bind_some]
   rw [uP (by omega) (by omega),if_neg (by simp)]
   simp [uP]]
  simp only [Option.bind_some,Lp.elim]
  rw [vH,show wH [a,b] ((a.length:Int),1)=some (.go ((a.length:Int)+b.length,2)) by
   unfold wH
   rw [if_pos (by simp)]
   simp only
   rw [i1]
   simp only [Option.bind_some]
   rw [uP (x:=(a.length:Int)+b.length) (by omega) (by omega),if_neg (by simp; omega)]
   simp [uP]]
  simp only [Option.bind_some,Lp.elim]
  rw [vH,show wH [a,b] ((a.length:Int)+b.length,2)=some (.done ((a.length:Int)+b.length)) by
   unfold wH
   rw [if_neg (by simp)]]
  simp [Lp.elim]
 rw [e1]
 simp only [Option.bind_some]
 have e2:zEs ((a.length+b.length:Nat):Int)=some []:=by
  unfold zEs
  rw [if_pos (by omega)]
 rw [e2]
 simp only [Option.bind_some]
 have i0:idx [a,b] 0=some a:=rfl
 have i1:idx [a,b] 1=some b:=rfl
 rw [vH,show wR [a,b] (([]:List Int),0)=some (.go (a,1)) by
  unfold wR
  rw [if_pos (by simp)]
  simp only
  rw [i0]
  simp only [Option.bind_some]
  rw [vJ (by simp; omega) (by simp; omega)]
  simp [uP]]
 simp only [Option.bind_some,Lp.elim]
 rw [vH,show wR [a,b] (a,1)=some (.go (a++b,2)) by
  unfold wR
  rw [if_pos (by simp)]
  simp only
  rw [i1]
  simp only [Option.bind_some]
  rw [vJ (by omega) (by omega)]
  simp [uP]]
 simp only [Option.bind_some,Lp.elim]
 rw [vH,show wR [a,b] (a++b,2)=some (.done (a++b)) by
  unfold wR
  rw [if_neg (by simp)]]
 simp [Lp.elim]
structure Sml (c:List Pack):Prop where
 len:c.length≤24
 zMC:∀k,(pat c k).Provides.length ≤4
 needs:∀k,(pat c k).Needs.length ≤4
 bars:∀k,(pat c k).Bars.length ≤4
 clause:∀k,∀l∈(pat c k).Needs,l.length≤4
theorem Sml.of {c:List Pack} (h:CF c=0):Sml c:=by
 obtain ⟨h1,h2,_⟩:=zMO h
 have key:∀p,PF p=0→p.Provides.length≤4∧p.Needs.length≤4∧p.Bars.length≤4∧∀l∈p.Needs,l.length≤4:=by
  intro p hp
  have hm:zJJ p=false:=by
   cases hm:zJJ p with
   |false=>rfl
   |true=>
    unfold PF at hp
    rw [hm] at hp
    split at hp
    ·rename_i h3; simp [hp] at h3
    split at hp
    ·rename_i h3; simp [hp] at h3
    split at hp
    ·cases hp
    ·cases hp
  unfold zJJ at hm
  simp only [Bool.or_eq_false_iff,decide_eq_false_iff_not,List.any_eq_false,decide_eq_true_eq] at hm
  obtain ⟨m1,m2,m3,m4⟩:=hm
  exact ⟨by omega,by omega,by omega,fun l hl=>by have:=m4 l hl; omega⟩
 have pk:∀k,(pat c k).Provides.length ≤4∧(pat c k).Needs.length ≤4∧(pat c k).Bars.length ≤4∧∀l∈(pat c k).Needs,l.length≤4:=by
  intro k
  unfold pat
  cases hk:idx c k with
  |none=>simp [noPack]
  |some p=>
   refine key p (h2 p ?_)
   unfold idx at hk
   split at hk
   ·exact List.mem_of_getElem? hk
   ·cases hk
 exact ⟨h1,fun k=>(pk k).1,fun k=>(pk k).2.1,fun k=>(pk k).2.2.1,fun k=>(pk k).2.2.2⟩
structure Two (c:List Pack) (a b:List Int):Prop where
 sml:Sml c
 pa:Places c a
 pb:Places c b
 sa:a.Pairwise (· < ·)
 sb:b.Pairwise (· < ·)
 la:a.length≤24
 lb:b.length≤24
theorem zIg {c:List Pack} {a b:List Int} (h:Two c a b):
  ∃l,vY c a b=some l∧zEb c a b=some l∧l.Pairwise ltS∧(∀n,n∈l↔zDh c a n≠zDh c b n)∧l.length≤24:=by
 have hc:=h.sml.len
 have la:=h.la
 have lb:=h.lb
 obtain ⟨l,e,h1,h2,h3⟩:=wJ (b:=zAH c a b) (fun i s=>s.2=(i:Int)∧s.1.Pairwise ltS∧(∀n,n∈s.1↔(∃k:Nat,k<i∧jC c (k:Int)=n)∧zDh c a n≠zDh c b n)∧s.1.length≤i) c.length
  (fun t=>t.Pairwise ltS∧(∀n,n∈t↔(∃k:Nat,k<c.length∧jC c (k:Int)=n)∧zDh c a n≠zDh c b n)∧t.length≤c.length) (by
  rintro i ⟨l,j⟩ hi ⟨hj,hs,hm,hl⟩
  simp only at hj hs hm hl
  subst hj
  refine .inl ?_
  have hk:=vR (c:=c) (k:=(i:Int)) ⟨by omega,by omega⟩
  unfold zAH
  rw [if_pos (by simp; omega)]
  simp only
  rw [hk.1]
  simp only [Option.bind_some]
  rw [(zDV h.pa (by omega) _).1,(zDV h.pb (by omega) _).1,zM (by omega)]
  simp only [Option.bind_some]
  have hex:∀n,(∃k:Nat,k<i+1∧jC c (k:Int)=n)↔(∃k:Nat,k<i∧jC c (k:Int)=n)∨n=(pat c i).Name :=by
   intro n
   constructor
   ·rintro ⟨k,h1,h2⟩
    rcases Nat.lt_succ_iff_lt_or_eq.1 h1 with h3|rfl
    ·exact .inl ⟨k,h3,h2⟩
    ·exact .inr h2.symm
   ·rintro (⟨k,h1,h2⟩|h2)
    ·exact ⟨k,by omega,h2⟩
    ·exact ⟨i,by omega,h2.symm⟩
  by_cases hne:zDh c a (pat c i).Name =zDh c b (pat c i).Name
  ·rw [if_neg (by simp [hne])]
   refine ⟨_,rfl,rfl,hs,fun n=>?_,by simp only; omega⟩
   rw [hm,hex]
   constructor
   ·rintro ⟨q1,q2⟩; exact ⟨.inl q1,q2⟩
   ·rintro ⟨q1|q1,q2⟩
    ·exact ⟨q1,q2⟩
    ·subst q1; exact absurd hne q2
  ·rw [if_pos (by simp [hne])]
   obtain ⟨r,e1,e2,e3,e4⟩:=zGJ l (pat c i).Name hs (by omega)
   rw [e1]
   refine ⟨_,rfl,rfl,e2,fun n=>?_,by simp only; omega⟩
   rw [e3,hm,hex]
   constructor
   ·rintro (⟨q1,q2⟩|q1)
    ·exact ⟨.inl q1,q2⟩
    ·subst q1; exact ⟨.inr rfl,hne⟩
   ·rintro ⟨q1|q1,q2⟩
    ·exact .inl ⟨q1,q2⟩
    ·exact .inr q1) (by
  rintro ⟨l,j⟩ ⟨hj,hs,hm,hl⟩
  simp only at hj hs hm hl
  subst hj
  unfold zAH
  rw [if_neg (by simp)]
  exact ⟨_,rfl,hs,hm,hl⟩) c.length 0 (([]:List ByteArray),0) (by omega) ⟨rfl,by simp,by simp,by simp⟩
 have hmem:∀n,n∈l↔zDh c a n≠zDh c b n:=by
  intro n
  rw [h2]
  constructor
  ·exact fun h=>h.2
  ·intro hne
   refine ⟨?_,hne⟩
   rcases zDO c a n with ⟨q1,_⟩|⟨q1,q2⟩
   ·rcases zDO c b n with ⟨q3,_⟩|⟨q3,q4⟩
    ·exact absurd (q1.trans q3.symm) hne
    ·have:=h.pb _ q3
     exact ⟨(zDh c b n).toNat,by omega,by rw [show ((zDh c b n).toNat :Int)=zDh c b n by omega]; exact q4⟩
   ·have:=h.pa _ q1
    exact ⟨(zDh c a n).toNat,by omega,by rw [show ((zDh c a n).toNat :Int)=zDh c a n by omega]; exact q2⟩
 refine ⟨l,by unfold vY zBd; rw [e]; rfl,?_,h1,hmem,by omega⟩
 unfold zEb zEY
 rw [zL3 (by omega) (by omega)]
 simp only [Option.bind_some]
 obtain ⟨l2,f,g1,g2⟩:=wJ (b:=zDp c a b (a++b)) (fun i s=>s.2=(i:Int)∧(∀n,n∈s.1↔(∃k∈(a++b).take i,jC c k=n)∧zDh c a n≠zDh c b n)∧s.1.length≤i) (a++b).length
  (fun t=>(∀n,n∈t↔(∃k∈a++b,jC c k=n)∧zDh c a n≠zDh c b n)∧t.length≤(a++b).length) (by
  rintro i ⟨l,j⟩ hi ⟨hj,hm,hl⟩
  simp only at hj hm hl
  subst hj
  have hlen:(a++b).length ≤48:=by simp; omega
  have hk:0≤(a++b)[i]∧(a++b)[i]<c.length:=by
   have:(a++b)[i]∈a++b:=List.getElem_mem hi
   rcases List.mem_append.1 this with q|q
   ·exact h.pa _ q
   ·exact h.pb _ q
  refine .inl ?_
  unfold zDp
  rw [if_pos (by simp at hi ⊢; omega),zI hi]
  simp only [Option.bind_some]
  rw [(vR hk).1]
  simp only [Option.bind_some]
  rw [(zDV h.pa (by omega) _).2,(zDV h.pb (by omega) _).2,zM (by omega)]
  simp only [Option.bind_some]
  have hex:∀n,(∃k∈(a++b).take (i+1),jC c k=n)↔(∃k∈(a++b).take i,jC c k=n)∨n=(pat c (a++b)[i]).Name :=by
   intro n
   rw [List.take_succ_eq_append_getElem hi]
   constructor
   ·rintro ⟨k,h1,h2⟩
    rcases List.mem_append.1 h1 with h3|h3
    ·exact .inl ⟨k,h3,h2⟩
    ·simp at h3; subst h3; exact .inr h2.symm
   ·rintro (⟨k,h1,h2⟩|h2)
    ·exact ⟨k,List.mem_append_left _ h1,h2⟩
    ·exact ⟨_,List.mem_append_right _ (by simp),h2.symm⟩
  by_cases hne:zDh c a (pat c (a++b)[i]).Name =zDh c b (pat c (a++b)[i]).Name
  ·rw [if_neg (by simp [hne])]
   refine ⟨_,rfl,rfl,fun n=>?_,by simp only; omega⟩
   rw [hm,hex]
   constructor
   ·rintro ⟨q1,q2⟩; exact ⟨.inl q1,q2⟩
   ·rintro ⟨q1|q1,q2⟩
    ·exact ⟨q1,q2⟩
    ·subst q1; exact absurd hne q2
  ·rw [if_pos (by simp [hne]),vJ (by simp; omega) (by simp; omega)]
   refine ⟨_,rfl,rfl,fun n=>?_,by simp; omega⟩
   rw [hex,List.mem_append,hm,List.mem_singleton]
   constructor
   ·rintro (⟨q1,q2⟩|q1)
    ·exact ⟨.inl q1,q2⟩
    ·subst q1; exact ⟨.inr rfl,hne⟩
   ·rintro ⟨q1|q1,q2⟩
    ·exact .inl ⟨q1,q2⟩
    ·exact .inr q1) (by
  rintro ⟨l,j⟩ ⟨hj,hm,hl⟩
  simp only at hj hm hl
  subst hj
  rw [List.take_length] at hm
  unfold zDp
  rw [if_neg (by simp)]
  exact ⟨_,rfl,hm,hl⟩) (a++b).length 0 (([]:List ByteArray),0) (by omega) ⟨rfl,by simp,by simp⟩
 rw [f]
 simp only [Option.bind_some]
 have hlen:(a++b).length ≤48:=by simp; omega
 obtain ⟨r,s1,s2,s3⟩:=zFs l2 (by omega)
 rw [s1]
 simp only [Option.bind_some]
 congr 1
 refine zCg s2 h1 fun n=>?_
 rw [s3,g1,hmem]
 constructor
 ·exact fun h=>h.2
 ·intro hne
  refine ⟨?_,hne⟩
  rcases zDO c a n with ⟨q1,_⟩|⟨q1,q2⟩
  ·rcases zDO c b n with ⟨q3,_⟩|⟨q3,q4⟩
   ·exact absurd (q1.trans q3.symm) hne
   ·exact ⟨_,List.mem_append_right _ q3,q4⟩
  ·exact ⟨_,List.mem_append_left _ q1,q2⟩
def zCT (c:List Pack) (a b:List Int) (n:ByteArray):List Pack:=
 (if decide (zDh c a n≥0) then [pat c (zDh c a n)] else [])++(if decide (zDh c b n≥0) then [pat c (zDh c b n)] else [])
theorem zEB {c:List Pack} {a:List Int} (hp:Places c a) {n:ByteArray} (h:zDh c a n≥0):0≤zDh c a n∧zDh c a n<c.length:=by
 rcases zDO c a n with ⟨q,_⟩|⟨q,_⟩
 ·omega
 ·exact hp _ q
theorem zID (c:List Pack) (a b:List Int) (n:ByteArray):(zCT c a b n).length ≤2:=by
 unfold zCT
 cases decide (zDh c a n≥0)<;>cases decide (zDh c b n≥0)<;>simp
theorem zIz {c:List Pack} {a b:List Int} {n:ByteArray} {p:Pack} (h:p∈zCT c a b n):∃k,(k∈a∨k∈b)∧jC c k=n∧p=pat c k:=by
 unfold zCT at h
 rcases List.mem_append.1 h with h|h
 ·split at h
  ·rename_i q
   simp at q h
   rcases zDO c a n with ⟨q2,_⟩|⟨q2,q3⟩
   ·omega
   ·exact ⟨_,.inl q2,q3,h⟩
  ·simp at h
 ·split at h
  ·rename_i q
   simp at q h
   rcases zDO c b n with ⟨q2,_⟩|⟨q2,q3⟩
   ·omega
   ·exact ⟨_,.inr q2,q3,h⟩
  ·simp at h
theorem zIa {c:List Pack} {a b:List Int} (h:Two c a b) (n:ByteArray):zB5 c a b n=some (zCT c a b n)∧zDU c a b n=some (zCT c a b n):=by
 have la:=h.la
 have lb:=h.lb
 have step:∀(l:List Pack) (x:Int) (i:Nat) (x5 x7:Int),l.length≤5→idx [x5,x7] (i:Int)=some x→i<2→(x≥0→0≤x∧x<c.length)→
   jR c x5 x7 (l,(i:Int))=some (.go (l++(if decide (x≥0) then [pat c x] else []),((i+1:Nat):Int))):=by
  intro l x i x5 x7 hl hx hi hp
  unfold jR
  rw [if_pos (by simp; omega)]
  simp only
  rw [hx]
  simp only [Option.bind_some]
  rw [zM (by omega)]
  by_cases hge:x≥0
  ·rw [if_pos (by simpa using hge),if_pos (by simpa using hge),(vR (hp hge)).1]
   simp only [Option.bind_some]
   rw [vJ (by simp; omega) (by simp; omega)]
   rfl
  ·rw [if_neg (by simpa using hge),if_neg (by simpa using hge)]
   simp
 constructor
 ·unfold zB5 zCT
  rw [(zDV h.pa (by omega) _).1,(zDV h.pb (by omega) _).1]
  simp only [Option.bind_some]
  by_cases h1:zDh c a n≥0
  ·rw [if_pos (by simpa using h1),if_pos (by simpa using h1),(vR (zEB h.pa h1)).1]
   simp only [Option.bind_some]
   rw [vJ (by simp) (by simp)]
   simp only [Option.bind_some,List.nil_append]
   by_cases h2:zDh c b n≥0
   ·rw [if_pos (by simpa using h2),if_pos (by simpa using h2),(vR (zEB h.pb h2)).1]
    simp only [Option.bind_some]
    rw [vJ (by simp) (by simp)]
    rfl
   ·rw [if_neg (by simpa using h2),if_neg (by simpa using h2)]
    rfl
  ·rw [if_neg (by simpa using h1),if_neg (by simpa using h1)]
   simp only [Option.bind_some,List.nil_append]
   by_cases h2:zDh c b n≥0
   ·rw [if_pos (by simpa using h2),if_pos (by simpa using h2),(vR (zEB h.pb h2)).1]
    simp only [Option.bind_some]
    rw [vJ (by simp) (by simp)]
    rfl
   ·rw [if_neg (by simpa using h2),if_neg (by simpa using h2)]
    rfl
 ·unfold zDU zEH
  rw [(zDV h.pa (by omega) _).2,(zDV h.pb (by omega) _).2]
  simp only [Option.bind_some]
  rw [vH,show jR c (zDh c a n) (zDh c b n) (([]:List Pack),0)=_ from step [] _ 0 _ _ (by simp) rfl (by omega) (zEB h.pa)]
  simp only [Option.bind_some,Lp.elim]
  rw [vH,step _ _ 1 _ _ (by cases decide (zDh c a n≥0)<;>simp) rfl (by omega) (zEB h.pb)]
  simp only [Option.bind_some,Lp.elim,List.nil_append]
  rw [vH,show ∀l,jR c (zDh c a n) (zDh c b n) (l,((1+1:Nat):Int))=some (.done l) from fun l=>by
   unfold jR
   rw [if_neg (by simp)]]
  rfl
theorem zHA {α:Type} (xs:List α) (f:α→ByteArray) {b:(List ByteArray×Int)→Option (Lp (List ByteArray×Int) (List ByteArray))}
  (hstep:∀(i:Nat) (hi:i<xs.length) (l:List ByteArray),b (l,(i:Int))=(vS l (f xs[i])).bind fun x=>some (Lp.go (x,w64 ((i:Int)+1)))) (hend:∀l,b (l,(xs.length:Int))=some (.done l)) (l0:List ByteArray) (hs:l0.Pairwise ltS) (hl:l0.length+xs.length≤1048576):
  ∃r,loop b (l0,0)=some r∧r.Pairwise ltS∧(∀x,x∈r↔x∈l0∨∃y∈xs,f y=x)∧r.length≤l0.length+xs.length:=by
 refine wJ (b:=b) (fun i s=>s.2=(i:Int)∧s.1.Pairwise ltS∧(∀x,x∈s.1↔x∈l0∨∃y∈xs.take i,f y=x)∧s.1.length≤l0.length+i) xs.length _ (by
  rintro i ⟨l,j⟩ hi ⟨hj,h1,h2,h3⟩
  simp only at hj h1 h2 h3
  subst hj
  refine .inl ?_
  obtain ⟨r,e1,e2,e3,e4⟩:=zGJ l (f xs[i]) h1 (by omega)
  rw [hstep i hi,e1,zM (by omega)]
  refine ⟨_,rfl,rfl,e2,fun x=>?_,by simp only; omega⟩
  rw [e3,h2,List.take_succ_eq_append_getElem hi]
  constructor
  ·rintro ((q|⟨y,q1,q2⟩)|q)
   ·exact .inl q
   ·exact .inr ⟨y,List.mem_append_left _ q1,q2⟩
   ·exact .inr ⟨_,List.mem_append_right _ (by simp),q.symm⟩
  ·rintro (q|⟨y,q1,q2⟩)
   ·exact .inl (.inl q)
   ·rcases List.mem_append.1 q1 with q1|q1
    ·exact .inl (.inr ⟨y,q1,q2⟩)
    ·simp at q1; subst q1; exact .inr q2.symm) (by
  rintro ⟨l,j⟩ ⟨hj,h1,h2,h3⟩
  simp only at hj h1 h2 h3
  subst hj
  rw [List.take_length] at h2
  exact ⟨_,hend l,h1,h2,h3⟩) xs.length 0 (l0,0) (by omega) ⟨rfl,hs,by simp,by simp⟩
noncomputable def nmL (c:List Pack) (a b:List Int) (n:ByteArray):List ByteArray:=(zD2 c a b n).getD []
theorem zKB {c:List Pack} {a b:List Int} (h:Two c a b) (n:ByteArray):
  zA2 c a b n=some (nmL c a b n)∧zD2 c a b n=some (nmL c a b n)∧(∀x,x∈nmL c a b n↔x=n∨∃p∈zCT c a b n,x∈p.Provides)∧(nmL c a b n).length ≤1048576:=by
 have hpr:∀p∈zCT c a b n,p.Provides.length≤4:=fun p hp=>by
  obtain ⟨k,_,_,rfl⟩:=zIz hp
  exact h.sml.zMC k
 have hbl:=zID c a b n
 obtain ⟨r,e,r1,r2,r3⟩:=wJ (b:=zBI (zCT c a b n)) (fun i s=>s.2=(i:Int)∧s.1.Pairwise ltS∧(∀x,x∈s.1↔x=n∨∃p∈(zCT c a b n).take i,x∈p.Provides)∧s.1.length≤1+4*i) (zCT c a b n).length
  (fun t=>t.Pairwise ltS∧(∀x,x∈t↔x=n∨∃p∈zCT c a b n,x∈p.Provides)∧t.length≤1+4*(zCT c a b n).length) (by
  rintro i ⟨l,j⟩ hi ⟨hj,h1,h2,h3⟩
  simp only at hj h1 h2 h3
  subst hj
  refine .inl ?_
  have hp4:=hpr _ (List.getElem_mem hi)
  obtain ⟨r,e1,e2,e3,e4⟩:=zHA (zCT c a b n)[i].Provides (fun x=>x) (b:=zBP (zCT c a b n) (l,(i:Int))) (by
   intro j hj l'
   unfold zBP
   simp only
   rw [zI hi]
   simp only [Option.bind_some]
   rw [if_pos (by simp; omega),zI hj]
   rfl) (by
   intro l'
   unfold zBP
   simp only
   rw [zI hi]
   simp only [Option.bind_some]
   rw [if_neg (by simp)]) l h1 (by omega)
  unfold zBI zCr
  rw [if_pos (by simp; omega),e1,zM (by omega)]
  refine ⟨_,rfl,rfl,e2,fun x=>?_,by simp only; omega⟩
  rw [e3,h2,List.take_succ_eq_append_getElem hi]
  constructor
  ·rintro ((q|⟨p,q1,q2⟩)|⟨y,q1,q2⟩)
   ·exact .inl q
   ·exact .inr ⟨p,List.mem_append_left _ q1,q2⟩
   ·subst q2; exact .inr ⟨_,List.mem_append_right _ (by simp),q1⟩
  ·rintro (q|⟨p,q1,q2⟩)
   ·exact .inl (.inl q)
   ·rcases List.mem_append.1 q1 with q1|q1
    ·exact .inl (.inr ⟨p,q1,q2⟩)
    ·simp at q1; subst q1; exact .inr ⟨_,q2,rfl⟩) (by
  rintro ⟨l,j⟩ ⟨hj,h1,h2,h3⟩
  simp only at hj h1 h2 h3
  subst hj
  rw [List.take_length] at h2
  unfold zBI
  rw [if_neg (by simp)]
  exact ⟨_,rfl,h1,h2,h3⟩) (zCT c a b n).length 0 ([n],0) (by omega) ⟨rfl,by simp,by simp,by simp⟩
 obtain ⟨u,f,u1,u2⟩:=wJ (b:=zDq (zCT c a b n)) (fun i s=>s.2=(i:Int)∧(∀x,x∈s.1↔x=n∨∃p∈(zCT c a b n).take i,x∈p.Provides)∧s.1.length≤1+4*i) (zCT c a b n).length
  (fun t=>(∀x,x∈t↔x=n∨∃p∈zCT c a b n,x∈p.Provides)∧t.length≤1+4*(zCT c a b n).length) (by
  rintro i ⟨l,j⟩ hi ⟨hj,h2,h3⟩
  simp only at hj h2 h3
  subst hj
  refine .inl ?_
  have hp4:=hpr _ (List.getElem_mem hi)
  unfold zDq
  rw [if_pos (by simp; omega),zI hi]
  simp only [Option.bind_some]
  rw [vJ (by omega) (by omega),zM (by omega)]
  refine ⟨_,rfl,rfl,fun x=>?_,by simp; omega⟩
  rw [List.mem_append,h2,List.take_succ_eq_append_getElem hi]
  constructor
  ·rintro ((q|⟨p,q1,q2⟩)|q)
   ·exact .inl q
   ·exact .inr ⟨p,List.mem_append_left _ q1,q2⟩
   ·exact .inr ⟨_,List.mem_append_right _ (by simp),q⟩
  ·rintro (q|⟨p,q1,q2⟩)
   ·exact .inl (.inl q)
   ·rcases List.mem_append.1 q1 with q1|q1
    ·exact .inl (.inr ⟨p,q1,q2⟩)
    ·simp at q1; subst q1; exact .inr q2) (by
  rintro ⟨l,j⟩ ⟨hj,h2,h3⟩
  simp only at hj h2 h3
  subst hj
  rw [List.take_length] at h2
  unfold zDq
  rw [if_neg (by simp)]
  exact ⟨_,rfl,h2,h3⟩) (zCT c a b n).length 0 ([n],0) (by omega) ⟨rfl,by simp,by simp⟩
 obtain ⟨w,w1,w2,w3⟩:=zFs u (by omega)
 have hw:w=r:=zCg w2 r1 fun x=>by rw [w3,u1,r2]
 have hi:zD2 c a b n=some r:=by
  unfold zD2 zFh
  rw [(zIa h n).2]
  simp only [Option.bind_some]
  rw [f]
  simp only [Option.bind_some]
  rw [w1,hw]
  rfl
 have hd:nmL c a b n=r:=by unfold nmL; rw [hi]; rfl
 rw [hd]
 refine ⟨?_,hi,r2,by omega⟩
 unfold zA2 zCq
 rw [(zIa h n).1]
 simp only [Option.bind_some]
 rw [e]
 rfl
noncomputable def mnL (p:Pack):List ByteArray:=(jP p).getD []
theorem zNi {ls:List (List Term)} (hl:ls.length≤4) (h4:∀l∈ls,l.length≤4):zB6 ls=some ls.flatten∧ls.flatten.length≤16:=by
 have hfl:∀i,i≤ls.length→(ls.take i).flatten.length ≤4*i:=by
  intro i
  induction i with
  |zero=>simp
  |succ i ih=>
   intro hi
   have:=ih (by omega)
   rw [List.take_succ_eq_append_getElem (by omega),List.flatten_append,List.length_append]
   have:=h4 _ (List.getElem_mem (show i<ls.length by omega))
   have h0:([ls[i]]:List (List Term)).flatten.length =ls[i].length :=by simp
   rw [h0]
   omega
 have hf:=hfl ls.length (Nat.le_refl _)
 rw [List.take_length] at hf
 refine ⟨?_,by omega⟩
 obtain ⟨t,e,ht⟩:=wJ (b:=uY ls) (fun i s=>s.2=(i:Int)∧s.1=((ls.take i).flatten.length :Int)) ls.length (fun t=>t=(ls.flatten.length:Int)) (by
  rintro i ⟨s,j⟩ hi ⟨hj,hs⟩
  simp only at hj hs
  subst hj hs
  have h1:=hfl i (by omega)
  have h2:=h4 _ (List.getElem_mem hi)
  refine .inl ?_
  unfold uY
  rw [if_pos (by simp; omega),zI hi]
  simp only [Option.bind_some]
  rw [uP (x:=((ls.take i).flatten.length :Int)+(ls[i].length :Int)) (by omega) (by omega),if_neg (by simp; omega),zM (by omega)]
  refine ⟨_,rfl,rfl,?_⟩
  rw [List.take_succ_eq_append_getElem hi,List.flatten_append,List.length_append]
  simp) (by
  rintro ⟨s,j⟩ ⟨hj,hs⟩
  simp only at hj hs
  subst hj hs
  rw [List.take_length]
  unfold uY
  rw [if_neg (by simp)]
  exact ⟨_,rfl,rfl⟩) ls.length 0 (0,0) (by omega) ⟨rfl,by simp⟩
 obtain ⟨u,f,hu⟩:=wJ (b:=uS ls) (fun i s=>s.2=(i:Int)∧s.1=(ls.take i).flatten) ls.length (fun t=>t=ls.flatten) (by
  rintro i ⟨s,j⟩ hi ⟨hj,hs⟩
  simp only at hj hs
  subst hj hs
  have h1:=hfl i (by omega)
  have h2:=h4 _ (List.getElem_mem hi)
  refine .inl ?_
  unfold uS
  rw [if_pos (by simp; omega),zI hi]
  simp only [Option.bind_some]
  rw [vJ (by omega) (by omega),zM (by omega)]
  refine ⟨_,rfl,rfl,?_⟩
  rw [List.take_succ_eq_append_getElem hi,List.flatten_append]
  simp) (by
  rintro ⟨s,j⟩ ⟨hj,hs⟩
  simp only at hj hs
  subst hj hs
  rw [List.take_length]
  unfold uS
  rw [if_neg (by simp)]
  exact ⟨_,rfl,rfl⟩) ls.length 0 (([]:List Term),0) (by omega) ⟨rfl,by simp⟩
 subst ht hu
 unfold zB6 zCS zCQ
 rw [e]
 simp only [Option.bind_some]
 rw [show zEk (ls.flatten.length:Int)=some [] by unfold zEk; rw [if_pos (by omega)]]
 simp only [Option.bind_some]
 rw [f]
 rfl
theorem zNk {p:Pack} (h1:p.Needs.length≤4) (h2:∀l∈p.Needs,l.length≤4) (h3:p.Bars.length≤4):
  jM p=some (mnL p)∧jP p=some (mnL p)∧(∀x,x∈mnL p↔(∃l∈p.Needs,∃t∈l,t.Name=x)∨∃t∈p.Bars,t.Name=x)∧(mnL p).length ≤1048576:=by
 obtain ⟨r,e,r1,r2,r3⟩:=wJ (b:=zAh p) (fun i s=>s.2=(i:Int)∧s.1.Pairwise ltS∧(∀x,x∈s.1↔∃l∈p.Needs.take i,∃t∈l,t.Name=x)∧s.1.length≤4*i) p.Needs.length
  (fun t=>t.Pairwise ltS∧(∀x,x∈t↔∃l∈p.Needs,∃t∈l,t.Name=x)∧t.length≤4*p.Needs.length) (by
  rintro i ⟨l,j⟩ hi ⟨hj,g1,g2,g3⟩
  simp only at hj g1 g2 g3
  subst hj
  refine .inl ?_
  have hp4:=h2 _ (List.getElem_mem hi)
  obtain ⟨r,e1,e2,e3,e4⟩:=zHA p.Needs[i] (fun x:Term=>x.Name) (b:=zAf p (l,(i:Int))) (by
   intro j hj l'
   unfold zAf
   simp only
   rw [zI hi]
   simp only [Option.bind_some]
   rw [if_pos (by simp; omega),zI hj]
   rfl) (by
   intro l'
   unfold zAf
   simp only
   rw [zI hi]
   simp only [Option.bind_some]
   rw [if_neg (by simp)]) l g1 (by omega)
  unfold zAh zA6
  rw [if_pos (by simp; omega),e1,zM (by omega)]
  refine ⟨_,rfl,rfl,e2,fun x=>?_,by simp only; omega⟩
  rw [e3,g2,List.take_succ_eq_append_getElem hi]
  constructor
  ·rintro (⟨l,q1,q2⟩|⟨y,q1,q2⟩)
   ·exact ⟨l,List.mem_append_left _ q1,q2⟩
   ·exact ⟨_,List.mem_append_right _ (by simp),y,q1,q2⟩
  ·rintro ⟨l,q1,q2⟩
   rcases List.mem_append.1 q1 with q1|q1
   ·exact .inl ⟨l,q1,q2⟩
   ·simp at q1; subst q1; exact .inr q2) (by
  rintro ⟨l,j⟩ ⟨hj,g1,g2,g3⟩
  simp only at hj g1 g2 g3
  subst hj
  rw [List.take_length] at g2
  unfold zAh
  rw [if_neg (by simp)]
  exact ⟨_,rfl,g1,g2,g3⟩) p.Needs.length 0 (([]:List ByteArray),0) (by omega) ⟨rfl,by simp,by simp,by simp⟩
 obtain ⟨r',e',s1,s2,s3⟩:=zHA p.Bars (fun x:Term=>x.Name) (b:=zAd p) (by
  intro j hj l'
  unfold zAd
  rw [if_pos (by simp; omega),zI hj]
  rfl) (by
  intro l'
  unfold zAd
  rw [if_neg (by simp)]) r r1 (by omega)
 obtain ⟨c1,c2⟩:=zNi h1 h2
 have hlen:(p.Needs.flatten++p.Bars).length ≤20:=by rw [List.length_append]; omega
 obtain ⟨u,f,u1,u2⟩:=wJ (b:=zAl (p.Needs.flatten++p.Bars)) (fun i s=>s.2=(i:Int)∧s.1=((p.Needs.flatten++p.Bars).take i).map (·.Name)) (p.Needs.flatten++p.Bars).length
  (fun t=>t=(p.Needs.flatten++p.Bars).map (·.Name)∧t.length≤20) (by
  rintro i ⟨l,j⟩ hi ⟨hj,g⟩
  simp only at hj g
  subst hj g
  refine .inl ?_
  have hil:i<20:=by omega
  unfold zAl
  rw [if_pos (by simp at hi ⊢; omega),zI hi]
  simp only [Option.bind_some]
  have hle:(((p.Needs.flatten++p.Bars).take i).map (·.Name)).length ≤i:=by simp; omega
  rw [vJ (by simp at hle ⊢; omega) (by simp at hle ⊢; omega),zM (by omega)]
  refine ⟨_,rfl,rfl,?_⟩
  rw [List.take_succ_eq_append_getElem hi,List.map_append]
  rfl) (by
  rintro ⟨l,j⟩ ⟨hj,g⟩
  simp only at hj g
  subst hj g
  rw [List.take_length]
  unfold zAl
  rw [if_neg (by simp)]
  exact ⟨_,rfl,rfl,by rw [List.length_map]; exact hlen⟩) (p.Needs.flatten++p.Bars).length 0 (([]:List ByteArray),0) (by omega) ⟨rfl,by simp⟩
 obtain ⟨w,w1,w2,w3⟩:=zFs u (by omega)
 have hmem:∀x,x∈r'↔(∃l∈p.Needs,∃t∈l,t.Name=x)∨∃t∈p.Bars,t.Name=x:=fun x=>by rw [s2,r2]
 have hw:w=r':=zCg w2 s1 fun x=>by
  rw [w3,u1,hmem,List.mem_map]
  constructor
  ·rintro ⟨t,q1,q2⟩
   rcases List.mem_append.1 q1 with q1|q1
   ·obtain ⟨l,q3,q4⟩:=List.mem_flatten.1 q1
    exact .inl ⟨l,q3,t,q4,q2⟩
   ·exact .inr ⟨t,q1,q2⟩
  ·rintro (⟨l,q1,t,q2,q3⟩|⟨t,q1,q2⟩)
   ·exact ⟨t,List.mem_append_left _ (List.mem_flatten.2 ⟨l,q1,q2⟩),q3⟩
   ·exact ⟨t,List.mem_append_right _ q1,q2⟩
 have hi:jP p=some r':=by
  unfold jP zEa
  rw [c1]
  simp only [Option.bind_some]
  rw [vJ (by omega) (by omega)]
  simp only [Option.bind_some]
  rw [f]
  simp only [Option.bind_some]
  rw [w1,hw]
  rfl
 have hd:mnL p=r':=by unfold mnL; rw [hi]; rfl
 rw [hd]
 refine ⟨?_,hi,hmem,by omega⟩
 unfold jM zAN zA7
 rw [e]
 simp only [Option.bind_some]
 rw [e']
 rfl
theorem zF3 {α:Type} (xs:List α) (q:α→Bool) {b:Int→Option (Lp Int (Fl Bool Unit))}
  (hstep:∀(i:Nat) (hi:i<xs.length),b (i:Int)=some (if q xs[i] then .done (.ret true) else .go ((i+1:Nat):Int))) (hend:b (xs.length:Int)=some (.done (.nxt ()))):
  loop b 0=some (if xs.any q then .ret true else .nxt ()):=by
 have:=xX xs (fun _ x=>if q x then some true else none) (b:=b) (by intro i hi; rw [hstep i hi]; cases q xs[i]<;>rfl) hend
 rw [this,zFk]
 cases xs.any q<;>rfl
theorem zHN {α:Type} (xs:List α) (q:α→Bool) {b:Int→Option (Lp Int (Fl Int Unit))}
  (hstep:∀(i:Nat) (hi:i<xs.length),b (i:Int)=some (if q xs[i] then .done (.ret (i:Int)) else .go ((i+1:Nat):Int))) (hend:b (xs.length:Int)=some (.done (.nxt ()))):
  ((loop b 0).bind (Fl.go some fun _=>some (-1))).bind (fun x=>some (decide (x≥0)))=some (xs.any q):=by
 have:=xX xs (fun j x=>if q x then some (j:Int) else none) (b:=b) (by intro i hi; rw [hstep i hi]; cases q xs[i]<;>rfl) hend
 have h:=zDY (zBX q xs 0)
 rw [this,zAo,←h]
 cases wI (fun j x=>if q x then some (j:Int) else none) 0 xs<;>rfl
theorem zH1 {m ns:List ByteArray} (hm:m.length≤1048576) (hn:ns.length≤1048576):
  zC0 m ns=some (m.any (inN ns))∧vK m ns=some (m.any (inN ns)):=by
 constructor
 ·have k:=zF3 m (inN ns) (b:=zBH m ns) (by
   intro i hi
   unfold zBH
   rw [if_pos (by simp; omega),zI hi]
   simp only [Option.bind_some]
   rw [zDy _ _ hn,zM (by omega)]
   simp only [Option.bind_some]
   have:(ns.any fun x=>seq x m[i])=inN ns m[i]:=rfl
   rw [this]
   cases inN ns m[i]<;>rfl) (by
   unfold zBH
   rw [if_neg (by simp)])
  unfold zC0 zC1
  rw [k]
  cases m.any (inN ns)<;>rfl
 ·exact zHN m (inN ns) (b:=xG m ns) (by
   intro i hi
   unfold xG zDM
   rw [if_pos (by simp; omega),zI hi]
   simp only [Option.bind_some]
   rw [zDJ _ _ hn,zM (by omega)]
   simp only [Option.bind_some]
   have:(ns.any fun x=>seq x m[i])=inN ns m[i]:=rfl
   rw [this]
   cases inN ns m[i]<;>rfl) (by
   unfold xG
   rw [if_neg (by simp)])
noncomputable def zLA (c:List Pack) (a b:List Int) (n:ByteArray) (ns:List ByteArray):Bool:=(zCT c a b n).any fun p=>(mnL p).any (inN ns)
theorem zFS {c:List Pack} {a b:List Int} (h:Two c a b) (n:ByteArray) {ns:List ByteArray} (hn:ns.length≤1048576):
  uV c a b n ns=some (zLA c a b n ns)∧zCe n ns c a b=some (zLA c a b n ns):=by
 have hb:=zID c a b n
 have hp:∀p∈zCT c a b n,jM p=some (mnL p)∧jP p=some (mnL p)∧(mnL p).length ≤1048576:=fun p hp=>by
  obtain ⟨k,_,_,rfl⟩:=zIz hp
  obtain ⟨q1,q2,_,q3⟩:=zNk (h.sml.needs k) (h.sml.clause k) (h.sml.bars k)
  exact ⟨q1,q2,q3⟩
 constructor
 ·have k:=zF3 (zCT c a b n) (fun p=>(mnL p).any (inN ns)) (b:=zCm ns (zCT c a b n)) (by
   intro i hi
   obtain ⟨q1,q2,q3⟩:=hp _ (List.getElem_mem hi)
   unfold zCm
   rw [if_pos (by simp; omega),zI hi]
   simp only [Option.bind_some]
   rw [q1]
   simp only [Option.bind_some]
   rw [(zH1 q3 hn).1,zM (by omega)]
   simp only [Option.bind_some]
   cases (mnL (zCT c a b n)[i]).any (inN ns)<;>rfl) (by
   unfold zCm
   rw [if_neg (by simp)])
  unfold uV zDi
  rw [(zIa h n).1]
  simp only [Option.bind_some]
  rw [k]
  unfold zLA
  cases (zCT c a b n).any (fun p=>(mnL p).any (inN ns))<;>rfl
 ·have k:=zHN (zCT c a b n) (fun p=>(mnL p).any (inN ns)) (b:=xH (zCT c a b n) ns) (by
   intro i hi
   obtain ⟨q1,q2,q3⟩:=hp _ (List.getElem_mem hi)
   unfold xH zEl
   rw [if_pos (by simp; omega),zI hi]
   simp only [Option.bind_some]
   rw [q2]
   simp only [Option.bind_some]
   rw [(zH1 q3 hn).2,zM (by omega)]
   simp only [Option.bind_some]
   cases (mnL (zCT c a b n)[i]).any (inN ns)<;>rfl) (by
   unfold xH
   rw [if_neg (by simp)])
  unfold zCe
  rw [(zIa h n).2]
  simp only [Option.bind_some]
  have e:vL (zCT c a b n) ns=some (zLA c a b n ns):=k
  rw [e]
  rfl
def clB (ns:List ByteArray) (l:List Term):Bool:=l.any fun t=>inN ns t.Name
theorem zEP {ns:List ByteArray} {l:List Term} (hn:ns.length≤1048576) (hl:l.length≤1048576):tY l ns=some (clB ns l)∧zCf ns l=some (clB ns l):=by
 constructor
 ·have k:=zF3 l (fun t=>inN ns t.Name) (b:=zBs l ns) (by
   intro i hi
   unfold zBs
   rw [if_pos (by simp; omega),zI hi]
   simp only [Option.bind_some]
   rw [zDy _ _ hn,zM (by omega)]
   simp only [Option.bind_some]
   have:(ns.any fun x=>seq x l[i].Name)=inN ns l[i].Name :=rfl
   rw [this]
   cases inN ns l[i].Name <;>rfl) (by
   unfold zBs
   rw [if_neg (by simp)])
  unfold tY zBE
  rw [k]
  unfold clB
  cases l.any (fun t=>inN ns t.Name)<;>rfl
 ·have k:=zHN l (fun t=>inN ns t.Name) (b:=xM l ns) (by
   intro i hi
   unfold xM zEm
   rw [if_pos (by simp; omega),zI hi]
   simp only [Option.bind_some]
   rw [zDJ _ _ hn,zM (by omega)]
   simp only [Option.bind_some]
   have:(ns.any fun x=>seq x l[i].Name)=inN ns l[i].Name :=rfl
   rw [this]
   cases inN ns l[i].Name <;>rfl) (by
   unfold xM
   rw [if_neg (by simp)])
  unfold zCf
  have e:vN l ns=some (clB ns l):=k
  rw [e]
  rfl
def zK3 (c:List Pack) (a:List Int) (n1 n2:List ByteArray):Bool:=a.any fun k=>(pat c k).Needs.any fun l=>clB n1 l&&clB n2 l
theorem zJG {c:List Pack} {a:List Int} (hs:Sml c) (hp:Places c a) (ha:a.length≤1048576) {n1 n2:List ByteArray} (h1:n1.length≤1048576) (h2:n2.length≤1048576):uD c a n1 n2=some (zK3 c a n1 n2):=by
 have k:=zF3 a (fun k=>(pat c k).Needs.any fun l=>clB n1 l&&clB n2 l) (b:=zAg c a n1 n2) (by
  intro i hi
  have hk:=hp _ (List.getElem_mem hi)
  have hN:=hs.needs a[i]
  have k2:=zF3 (pat c a[i]).Needs (fun l=>clB n1 l&&clB n2 l) (b:=kX c a n1 n2 (i:Int) (pat c a[i])) (by
   intro j hj
   have hcl:=hs.clause a[i] _ (List.getElem_mem hj)
   unfold kX
   rw [if_pos (by simp; omega),zI hj]
   simp only [Option.bind_some]
   rw [(zEP h1 (by omega)).1,(zEP h2 (by omega)).1,zM (by omega)]
   simp only [Option.bind_some]
   cases clB n1 (pat c a[i]).Needs[j]<;>cases clB n2 (pat c a[i]).Needs[j]<;>rfl) (by
   unfold kX
   rw [if_neg (by simp)])
  unfold zAg zAK
  rw [if_pos (by simp; omega),zI hi]
  simp only [Option.bind_some]
  rw [(vR hk).1]
  simp only [Option.bind_some]
  rw [k2,zM (by omega)]
  cases (pat c a[i]).Needs.any (fun l=>clB n1 l&&clB n2 l)<;>rfl) (by
  unfold zAg
  rw [if_neg (by simp)])
 unfold uD zAE
 rw [k]
 unfold zK3
 cases a.any (fun k=>(pat c k).Needs.any fun l=>clB n1 l&&clB n2 l)<;>rfl
theorem zMu {c:List Pack} {a:List Int} (hs:Sml c) (hp:Places c a) (ha:a.length≤1048576) {n1 n2:List ByteArray} (h1:n1.length≤1048576) (h2:n2.length≤1048576):loop (jY c n1 n2 a) 0=some (if zK3 c a n1 n2 then .ret true else .nxt ()):=by
 exact zF3 a (fun k=>(pat c k).Needs.any fun l=>clB n1 l&&clB n2 l) (b:=jY c n1 n2 a) (by
  intro i hi
  have hk:=hp _ (List.getElem_mem hi)
  have hN:=hs.needs a[i]
  have k2:=zF3 (pat c a[i]).Needs (fun l=>clB n1 l&&clB n2 l) (b:=zBa c n1 n2 a (i:Int) (pat c a[i])) (by
   intro j hj
   have hcl:=hs.clause a[i] _ (List.getElem_mem hj)
   unfold zBa
   rw [if_pos (by simp; omega),zI hj]
   simp only [Option.bind_some]
   rw [(zEP h1 (by omega)).2,(zEP h2 (by omega)).2,zM (by omega)]
   simp only [Option.bind_some]
   cases clB n1 (pat c a[i]).Needs[j]<;>cases clB n2 (pat c a[i]).Needs[j]<;>rfl) (by
   unfold zBa
   rw [if_neg (by simp)])
  unfold jY zEy
  rw [if_pos (by simp; omega),zI hi]
  simp only [Option.bind_some]
  rw [(vR hk).1]
  simp only [Option.bind_some]
  rw [k2,zM (by omega)]
  cases (pat c a[i]).Needs.any (fun l=>clB n1 l&&clB n2 l)<;>rfl) (by
  unfold jY
  rw [if_neg (by simp)])
noncomputable def jB (c:List Pack) (a b:List Int) (x y:ByteArray):Bool:=
 zLA c a b x (nmL c a b y)||(zLA c a b y (nmL c a b x)||(zK3 c a (nmL c a b x) (nmL c a b y)||zK3 c b (nmL c a b x) (nmL c a b y)))
theorem zGM {c:List Pack} {a b:List Int} (h:Two c a b) (x y:ByteArray):uF c a b x y=some (jB c a b x y)∧uG c a b x y=some (jB c a b x y):=by
 obtain ⟨x1,x2,_,x3⟩:=zKB h x
 obtain ⟨y1,y2,_,y3⟩:=zKB h y
 have la:=h.la
 have lb:=h.lb
 constructor
 ·unfold uF jB
  rw [x1,y1]
  simp only [Option.bind_some]
  rw [(zFS h x y3).1,(zFS h y x3).1,zJG h.sml h.pa (by omega) x3 y3,zJG h.sml h.pb (by omega) x3 y3]
  simp only [Option.bind_some]
  cases zLA c a b x (nmL c a b y)<;>cases zLA c a b y (nmL c a b x)<;>cases zK3 c a (nmL c a b x) (nmL c a b y)<;>rfl
 ·unfold uG jB zEr
  rw [x2,y2]
  simp only [Option.bind_some]
  rw [(zFS h x y3).2,(zFS h y x3).2,zL3 (by omega) (by omega)]
  simp only [Option.bind_some]
  rw [zMu h.sml (a:=a++b) (fun k hk=>by
   rcases List.mem_append.1 hk with q|q
   ·exact h.pa _ q
   ·exact h.pb _ q) (by simp; omega) x3 y3]
  have e:zK3 c (a++b) (nmL c a b x) (nmL c a b y)=(zK3 c a (nmL c a b x) (nmL c a b y)||zK3 c b (nmL c a b x) (nmL c a b y)):=by
   unfold zK3; rw [List.any_append]
  rw [e]
  cases zLA c a b x (nmL c a b y)<;>cases zLA c a b y (nmL c a b x)<;>cases zK3 c a (nmL c a b x) (nmL c a b y)<;>cases zK3 c b (nmL c a b x) (nmL c a b y)<;>rfl
inductive Rch (K:ByteArray→ByteArray→Bool) (L:List ByteArray) (h:ByteArray):ByteArray→Prop where
 |base:Rch K L h h
 |step {x y:ByteArray}:Rch K L h x→y∈L→K x y=true→Rch K L h y
noncomputable def zEz (K:ByteArray→ByteArray→Bool) (L:List ByteArray):List ByteArray:=L.filter fun y=> @decide (Rch K L (L.headD ByteArray.empty) y) (Classical.propDecidable _)
noncomputable def zEW (K:ByteArray→ByteArray→Bool) (L:List ByteArray):List ByteArray:=L.filter fun y=> !(@decide (Rch K L (L.headD ByteArray.empty) y) (Classical.propDecidable _))
theorem Rch.mem {K:ByteArray→ByteArray→Bool} {L:List ByteArray} {h x:ByteArray} (hh:h∈L) (r:Rch K L h x):x∈L:=by
 cases r with
 |base=>exact hh
 |step _ h2 _=>exact h2
theorem zGL {K:ByteArray→ByteArray→Bool} {L:List ByteArray} {h:ByteArray} {t:List ByteArray} (e:L=h::t) {x:ByteArray}:x∈zEz K L↔Rch K L h x:=by
 unfold zEz
 rw [List.mem_filter]
 have:L.headD ByteArray.empty=h:=by rw [e]; rfl
 rw [this]
 simp only [decide_eq_true_eq]
 exact ⟨fun h=>h.2,fun r=>⟨r.mem (by rw [e]; simp),r⟩⟩
theorem zIq {K:ByteArray→ByteArray→Bool} {L:List ByteArray} {h:ByteArray} {t:List ByteArray} (e:L=h::t) {x:ByteArray}:x∈zEW K L↔x∈L∧¬Rch K L h x:=by
 unfold zEW
 rw [List.mem_filter]
 have:L.headD ByteArray.empty=h:=by rw [e]; rfl
 rw [this]
 simp
theorem zJF {K:ByteArray→ByteArray→Bool} {L:List ByteArray} {h:ByteArray} {t:List ByteArray} (e:L=h::t):(zEW K L).length <L.length:=by
 have hne:zEW K L≠L:=fun he=>by
  have:h∈zEW K L:=by rw [he,e]; simp
  exact ((zIq e).1 this).2 .base
 have hs:(zEW K L).Sublist L:=List.filter_sublist
 rcases Nat.lt_or_ge (zEW K L).length L.length with q|q
 ·exact q
 ·exact absurd (hs.eq_of_length (Nat.le_antisymm hs.length_le q)) hne
theorem zFT {P L:List ByteArray} (hP:P.Pairwise ltS) (hL:L.Pairwise ltS) (h:∀x∈P,x∈L):P.length≤L.length:=by
 have e:P=L.filter (inN P):=zCg hP (hL.filter _) fun x=>by
  rw [List.mem_filter,zEQ]
  exact ⟨fun hx=>⟨h x hx,hx⟩,fun hx=>hx.2⟩
 rw [e]
 exact List.length_filter_le _ _
theorem zKt {K:ByteArray→ByteArray→Bool} {c:List Pack} {a b:List Int} (hJ:∀x y,uF c a b x y=some (K x y)) {L P:List ByteArray} {out:List (List ByteArray)} {s3:List ByteArray×Bool×Int} {i:Nat} (hi:i<L.length) (hs3:s3.2.2=(i:Int)) (hP:P.Pairwise ltS) (hl:P.length≤1000) (g:Bool):
  ∃t,loop (zBJ c a b (L,out) s3) (P,g,0)=some t∧t.1.Pairwise ltS∧((t=(P,g)∧(L[i]∈P∨∀x∈P,K x L[i]=false))∨(L[i]∉P∧(∃x∈P,K x L[i]=true)∧t.2=true∧(∀z,z∈t.1↔z∈P∨z=L[i])∧t.1.length=P.length+1)):=by
 let Q:List ByteArray×Bool→Prop:=fun t=>t.1.Pairwise ltS∧((t=(P,g)∧(L[i]∈P∨∀x∈P,K x L[i]=false))∨(L[i]∉P∧(∃x∈P,K x L[i]=true)∧t.2=true∧(∀z,z∈t.1↔z∈P∨z=L[i])∧t.1.length=P.length+1))
 refine wJ (b:=zBJ c a b (L,out) s3)
  (fun k s=>s.2.2=(k:Int)∧k≤P.length+1∧((s.1=P∧s.2.1=g∧k≤P.length∧(∀(j:Nat) (hj:j<P.length),j<k→K P[j] L[i]=false))∨(s.1.Pairwise ltS∧L[i]∉P∧(∃x∈P,K x L[i]=true)∧s.2.1=true∧(∀z,z∈s.1↔z∈P∨z=L[i])∧s.1.length=P.length+1))) (P.length+2) Q (by
  rintro k ⟨p,g',k'⟩ hk ⟨hk',hle,hcase⟩
  simp only at hk' hcase
  subst hk'
  have hix:idx L s3.2.2=some L[i]:=by rw [hs3]; exact zI hi
  unfold zBJ
  simp only
  rcases hcase with ⟨rfl,rfl,hkp,hno⟩|⟨h1,h2,h3,h4,h5,h6⟩
  ·by_cases hkl:k<p.length
   ·rw [if_pos (by simp; omega),hix]
    simp only [Option.bind_some]
    rw [zDy _ _ (by omega)]
    have hq:(p.any fun x=>seq x L[i])=inN p L[i]:=rfl
    rw [hq]
    simp only [Option.bind_some]
    cases hin:inN p L[i]
    ·simp only [Bool.not_false,if_true]
     have hnin:L[i]∉p:=fun h=>by rw [zEQ.2 h] at hin; cases hin
     rw [zI hkl]
     simp only [Option.bind_some]
     rw [hJ]
     simp only [Option.bind_some]
     cases hj:K p[k] L[i]
     ·simp only [Bool.false_eq_true,if_false,Option.bind_some]
      rw [zM (by omega)]
      refine .inl ⟨_,rfl,rfl,by omega,.inl ⟨rfl,rfl,by omega,fun j hj' hjk=>?_⟩⟩
      rcases Nat.lt_succ_iff_lt_or_eq.1 hjk with q|q
      ·exact hno j hj' q
      ·subst q; exact hj
     ·simp only [if_true]
      obtain ⟨r,e1,e2,e3,e4⟩:=zGJ p L[i] hP (by omega)
      rw [e1]
      simp only [Option.bind_some]
      rw [zM (by omega)]
      refine .inl ⟨_,rfl,rfl,by omega,.inr ⟨e2,hnin,⟨_,List.getElem_mem hkl,hj⟩,rfl,e3,?_⟩⟩
      have hnd:∀{l:List ByteArray},l.Pairwise ltS→l.Nodup:=fun h=>h.imp fun h=>zI5 h
      have:r.Perm (L[i]::p):=(List.perm_ext_iff_of_nodup (hnd e2) (List.nodup_cons.2 ⟨hnin,hnd hP⟩)).2 fun z=>by
       rw [e3,List.mem_cons]; exact Or.comm
      rw [this.length_eq]
      rfl
    ·simp only [Bool.not_true,Bool.false_eq_true,if_false]
     exact .inr ⟨_,rfl,hP,.inl ⟨rfl,.inl (zEQ.1 hin)⟩⟩
   ·rw [if_neg (by simp; omega)]
    simp only [Option.bind_some,Bool.false_eq_true,if_false]
    refine .inr ⟨_,rfl,hP,.inl ⟨rfl,.inr fun x hx=>?_⟩⟩
    obtain ⟨j,hj,rfl⟩:=List.getElem_of_mem hx
    exact hno j hj (by omega)
  ·refine .inr ⟨(p,g'),?_,h1,.inr ⟨h2,h3,h4,h5,h6⟩⟩
   by_cases hkl:k<p.length
   ·rw [if_pos (by simp; omega),hix]
    simp only [Option.bind_some]
    rw [zDy _ _ (by omega)]
    have hq:(p.any fun x=>seq x L[i])=true:=by
     show inN p L[i]=true
     exact zEQ.2 ((h5 _).2 (.inr rfl))
    rw [hq]
    simp
   ·rw [if_neg (by simp; omega)]
    simp) (by
  rintro ⟨p,g',k'⟩ ⟨hk',hle,_⟩
  omega) (P.length+2) 0 (P,g,0) (by omega) ⟨rfl,by omega,.inl ⟨rfl,rfl,by omega,fun j hj h=>by omega⟩⟩
theorem zJR {K:ByteArray→ByteArray→Bool} {c:List Pack} {a b:List Int} (hJ:∀x y,uF c a b x y=some (K x y)) {L P:List ByteArray} {h:ByteArray} {out:List (List ByteArray)} (hL:L.Pairwise ltS) (hl:L.length≤500) (hP:P.Pairwise ltS) (hsub:∀x∈P,Rch K L h x) (hh:h∈L):
  ∃t,loop (zAx c a b (L,out)) (P,false,0)=some t∧t.1.Pairwise ltS∧(∀x∈P,x∈t.1)∧(∀x∈t.1,Rch K L h x)∧(t.2=true→P.length<t.1.length)∧(t.2=false→t.1=P∧∀y∈L,y∈P∨∀x∈P,K x y=false):=by
 refine wJ (b:=zAx c a b (L,out))
  (fun i s=>s.2.2=(i:Int)∧s.1.Pairwise ltS∧(∀x∈P,x∈s.1)∧(∀x∈s.1,Rch K L h x)∧(s.2.1=true→P.length<s.1.length)∧P.length≤s.1.length∧(s.2.1=false→s.1=P∧∀y∈L.take i,y∈P∨∀x∈P,K x y=false)) L.length _ (by
  rintro i ⟨p,g,k⟩ hi ⟨hk,h1,h2,h3,h4,h5,h6⟩
  simp only at hk h1 h2 h3 h4 h5 h6
  subst hk
  refine .inl ?_
  have hpl:=zFT h1 hL (fun x hx=>(h3 x hx).mem hh)
  obtain ⟨⟨p',g'⟩,e,q1,q2⟩:=zKt hJ (out:=out) (s3:=(p,g,(i:Int))) hi rfl h1 (by omega) g
  unfold zAx zC2
  rw [if_pos (by simp; omega)]
  simp only
  rw [e,zM (by omega)]
  refine ⟨_,rfl,rfl,q1,?_⟩
  simp only at q1 q2 ⊢
  rcases q2 with ⟨q3,q4⟩|⟨q3,⟨x0,q4,q5⟩,q6,q7,q8⟩
  ·cases q3
   refine ⟨h2,h3,h4,h5,fun hg=>?_⟩
   obtain ⟨rfl,h8⟩:=h6 hg
   refine ⟨rfl,fun y hy=>?_⟩
   rw [List.take_succ_eq_append_getElem hi] at hy
   rcases List.mem_append.1 hy with hy|hy
   ·exact h8 y hy
   ·simp at hy; subst hy; exact q4
  ·refine ⟨fun x hx=>(q7 x).2 (.inl (h2 x hx)),fun x hx=>?_,fun _=>by omega,by omega,fun hg=>?_⟩
   ·rcases (q7 x).1 hx with hx|rfl
    ·exact h3 x hx
    ·exact .step (h3 _ q4) (List.getElem_mem hi) q5
   ·rw [q6] at hg; cases hg) (by
  rintro ⟨p,g,k⟩ ⟨hk,h1,h2,h3,h4,h5,h6⟩
  simp only at hk h1 h2 h3 h4 h5 h6
  subst hk
  rw [List.take_length] at h6
  unfold zAx
  rw [if_neg (by simp)]
  exact ⟨_,rfl,h1,h2,h3,h4,h6⟩) L.length 0 (P,false,0) (by omega) ⟨rfl,hP,fun x hx=>hx,hsub,by simp,Nat.le_refl _,fun _=>⟨rfl,by simp⟩⟩
theorem zKP {K:ByteArray→ByteArray→Bool} {c:List Pack} {a b:List Int} (hJ:∀x y,uF c a b x y=some (K x y)) {L:List ByteArray} {h:ByteArray} {t:List ByteArray} {out:List (List ByteArray)} (e0:L=h::t) (hL:L.Pairwise ltS) (hl:L.length≤500):zBr c a b (L,out) ([h],true)=some (zEz K L):=by
 have hh:h∈L:=by rw [e0]; simp
 obtain ⟨r,e,h1,h2,h3,h4⟩:=zGN (b:=zDs c a b (L,out)) (fun s=>s.1.Pairwise ltS∧h∈s.1∧(∀x∈s.1,Rch K L h x)∧(s.2=false→∀y∈L,y∈s.1∨∀x∈s.1,K x y=false))
  (fun s=>(L.length-s.1.length)*2+(if s.2 then 1 else 0)) (fun t=>t.Pairwise ltS∧h∈t∧(∀x∈t,Rch K L h x)∧∀y∈L,y∈t∨∀x∈t,K x y=false) (by
  rintro ⟨p,g⟩ ⟨g1,g2,g3,g4⟩
  simp only at g1 g2 g3 g4
  unfold zDs
  simp only
  cases g
  ·rw [if_neg (by simp)]
   exact .inr ⟨_,rfl,g1,g2,g3,g4 rfl⟩
  ·rw [if_pos rfl]
   obtain ⟨⟨p',g'⟩,e,q1,q2,q3,q4,q5⟩:=zJR hJ (out:=out) hL hl g1 g3 hh
   simp only at q1 q2 q3 q4 q5
   unfold zCv
   rw [e]
   have hpl:=zFT q1 hL (fun x hx=>(q3 x hx).mem hh)
   refine .inl ⟨_,rfl,⟨q1,q2 _ g2,q3,fun hg=>?_⟩,?_⟩
   ·obtain ⟨rfl,q6⟩:=q5 hg
    exact q6
   ·simp only
    cases g'
    ·obtain ⟨rfl,_⟩:=q5 rfl
     simp
    ·have:=q4 rfl
     simp
     omega) _ ([h],true) (Nat.le_refl _) ⟨by simp,by simp,fun x hx=>by simp at hx; subst hx; exact .base,by simp⟩
 unfold zBr
 rw [e]
 congr 1
 refine zCg h1 (hL.filter _) fun x=>?_
 show x∈r↔x∈zEz K L
 rw [zGL e0]
 refine ⟨h3 x,fun hr=>?_⟩
 induction hr with
 |base=>exact h2
 |step _ hy hj ih=>
  rcases h4 _ hy with q|q
  ·exact q
  ·rw [q _ ih] at hj; cases hj
theorem zLt {K:ByteArray→ByteArray→Bool} {c:List Pack} {a b:List Int} {L:List ByteArray} {h:ByteArray} {t:List ByteArray} {out:List (List ByteArray)} (e0:L=h::t) (hl:L.length≤500):zBe c a b (L,out) (zEz K L) (([]:List ByteArray),0)=some (zEW K L):=by
 have hpl:(zEz K L).length ≤L.length:=List.length_filter_le _ _
 obtain ⟨r,e,rfl⟩:=wJ (b:=zBO c a b (L,out) (zEz K L)) (fun i s=>s.2=(i:Int)∧s.1=(L.take i).filter (fun y=> !(inN (zEz K L) y))) L.length (fun t=>t=L.filter (fun y=> !(inN (zEz K L) y))) (by
  rintro i ⟨l,k⟩ hi ⟨hk,hl'⟩
  simp only at hk hl'
  subst hk hl'
  refine .inl ?_
  have hlen:((L.take i).filter (fun y=> !(inN (zEz K L) y))).length ≤i:=by
   have:=List.length_filter_le (fun y=> !(inN (zEz K L) y)) (L.take i)
   simp at this ⊢
   omega
  unfold zBO
  simp only
  rw [if_pos (by simp; omega),zI hi]
  simp only [Option.bind_some]
  rw [zDy _ _ (by omega),zM (by omega),vJ (by simp at hlen ⊢; omega) (by simp at hlen ⊢; omega)]
  have hq:((zEz K L).any fun x=>seq x L[i])=inN (zEz K L) L[i]:=rfl
  rw [hq]
  simp only [Option.bind_some]
  refine ⟨((L.take (i+1)).filter (fun y=> !(inN (zEz K L) y)),((i+1:Nat):Int)),?_,rfl,rfl⟩
  rw [List.take_succ_eq_append_getElem hi,List.filter_append,List.filter_cons,List.filter_nil]
  cases inN (zEz K L) L[i]<;>simp) (by
  rintro ⟨l,k⟩ ⟨hk,hl'⟩
  simp only at hk hl'
  subst hk hl'
  rw [List.take_length]
  unfold zBO
  rw [if_neg (by simp)]
  exact ⟨_,rfl,rfl⟩) L.length 0 (([]:List ByteArray),0) (by omega) ⟨rfl,by simp⟩
 unfold zBe
 rw [e]
 congr 1
 unfold zEW
 refine List.filter_congr fun y hy=>?_
 have hd:L.headD ByteArray.empty=h:=by rw [e0]; rfl
 rw [hd]
 congr 1
 rw [Bool.eq_iff_iff,zEQ,zGL e0]
 exact (@decide_eq_true_iff _ (Classical.propDecidable _)).symm
theorem zEX {K:ByteArray→ByteArray→Bool} {c:List Pack} {a b:List Int} (hJ:∀x y,uF c a b x y=some (K x y)) {L:List ByteArray} {out:List (List ByteArray)} (hL:L.Pairwise ltS) (hl:L.length≤500) (ho:out.length≤500):zBB c a b (L,out)=some (if L=[] then .done out else .go (zEW K L,out++[zEz K L])):=by
 cases L with
 |nil=>
  unfold zBB
  rw [if_neg (by simp),if_pos rfl]
 |cons h t=>
  unfold zBB
  rw [if_pos (by simp),if_neg (by simp)]
  simp only
  rw [show idx (h::t) 0=some h from rfl]
  simp only [Option.bind_some]
  rw [zKP hJ rfl hL hl]
  simp only [Option.bind_some]
  rw [zLt rfl hl]
  simp only [Option.bind_some]
  rw [vJ (by simp; omega) (by simp; omega)]
  rfl
noncomputable def zEd (K:ByteArray→ByteArray→Bool):Nat→List ByteArray→List (List ByteArray)
 |0,_=>[]
 |n+1,L=>if L=[] then [] else zEz K L::zEd K n (zEW K L)
theorem zE2 {K:ByteArray→ByteArray→Bool} {L:List ByteArray} (h:L.Pairwise ltS):(zEW K L).Pairwise ltS:=h.filter _
theorem zGi {K:ByteArray→ByteArray→Bool} {L:List ByteArray} (h:L.Pairwise ltS):(zEz K L).Pairwise ltS:=h.filter _
theorem zFg {K:ByteArray→ByteArray→Bool} {c:List Pack} {a b:List Int} (hJ:∀x y,uF c a b x y=some (K x y)):∀(n:Nat) (L:List ByteArray) (out:List (List ByteArray)),L.Pairwise ltS→L.length≤n→L.length+out.length≤500→jK c a b (L,out)=some (out++zEd K n L)
 |0,L,out,h1,h2,h3=>by
  have:L=[]:=List.length_eq_zero_iff.1 (by omega)
  subst this
  unfold jK
  rw [vH,zEX hJ h1 (by simp) (by omega)]
  simp [zEd,Lp.elim]
 |n+1,L,out,h1,h2,h3=>by
  unfold jK
  rw [vH,zEX hJ h1 (by omega) (by omega)]
  cases L with
  |nil=>simp [zEd,Lp.elim]
  |cons h t=>
   have hlt:=zJF (K:=K) (L:=h::t) rfl
   have ih:=zFg hJ n (zEW K (h::t)) (out++[zEz K (h::t)]) (zE2 h1) (by omega) (by simp at h3 hlt ⊢; omega)
   rw [if_neg (by simp)]
   simp only [Option.bind_some,Lp.elim]
   unfold jK at ih
   rw [ih]
   simp [zEd]
theorem zFO {α:Type} (q:α→Bool):∀l:List α,(l.filter q).length +(l.filter fun x=> !(q x)).length =l.length
 |[]=>rfl
 |x::l=>by
  have:=zFO q l
  cases h:q x<;>simp [h]<;>omega
theorem ranged {K:ByteArray→ByteArray→Bool} {c:List Pack} {a b:List Int} (hK:∀x y,uG c a b x y=some (K x y)) {s1:List (List ByteArray)×List ByteArray} {left part:List ByteArray} {i:Nat} (hi:i<part.length) (hl:left.length+part.length≤500):
  zEx c a b s1 (left,part,(i:Int)) (part,([]:List ByteArray),0)=some (part++left.filter (K part[i]),left.filter fun y=> !(K part[i] y)):=by
 obtain ⟨t,e,rfl⟩:=wJ (b:=zDo c a b s1 (left,part,(i:Int))) (fun k s=>s=(part++(left.take k).filter (K part[i]),(left.take k).filter (fun y=> !(K part[i] y)),(k:Int))) left.length
  (fun t=>t=(part++left.filter (K part[i]),left.filter fun y=> !(K part[i] y))) (by
  rintro k s hk rfl
  have hf:=zFO (K part[i]) (left.take k)
  have htk:(left.take k).length ≤k:=by simp; omega
  refine .inl ⟨(part++(left.take (k+1)).filter (K part[i]),(left.take (k+1)).filter (fun y=> !(K part[i] y)),((k+1:Nat):Int)),?_,rfl⟩
  unfold zDo
  simp only
  rw [if_pos (by simp; omega),zI hk]
  simp only [Option.bind_some]
  have hix:idx (part++(left.take k).filter (K part[i])) (i:Int)=some part[i]:=by
   rw [zI (by simp; omega),List.getElem_append_left hi]
  rw [hix]
  simp only [Option.bind_some]
  rw [hK,zM (by omega),vJ (by simp at hf htk ⊢; omega) (by simp at hf htk ⊢; omega),vJ (by simp at hf htk ⊢; omega) (by simp at hf htk ⊢; omega)]
  simp only [Option.bind_some]
  rw [List.take_succ_eq_append_getElem hk,List.filter_append,List.filter_append]
  cases hj:K part[i] left[k]<;>simp [hj]) (by
  rintro s rfl
  rw [List.take_length]
  unfold zDo
  rw [if_neg (by simp)]
  exact ⟨_,rfl,rfl⟩) left.length 0 (part,([]:List ByteArray),0) (by omega) (by simp)
 unfold zEx
 exact e
theorem zMJ {K:ByteArray→ByteArray→Bool} {c:List Pack} {a b:List Int} (hK:∀x y,uG c a b x y=some (K x y)) {out:List (List ByteArray)} {h:ByteArray} {t:List ByteArray} (hl:t.length≤500):
  zEu c a b (out,h::t) t ([h],([]:List ByteArray),0)=some (h::t.filter (K h),t.filter fun y=> !(K h y)):=by
 obtain ⟨r,e,rfl⟩:=wJ (b:=zDr c a b (out,h::t) t) (fun k s=>s=(h::(t.take k).filter (K h),(t.take k).filter (fun y=> !(K h y)),(k:Int))) t.length
  (fun r=>r=(h::t.filter (K h),t.filter fun y=> !(K h y))) (by
  rintro k s hk rfl
  have hf:=zFO (K h) (t.take k)
  have htk:(t.take k).length ≤k:=by simp; omega
  refine .inl ⟨(h::(t.take (k+1)).filter (K h),(t.take (k+1)).filter (fun y=> !(K h y)),((k+1:Nat):Int)),?_,rfl⟩
  unfold zDr
  simp only
  have ho:zLF (h::t) 1 t.length (k:Int)=some t[k]:=by
   unfold zLF
   rw [if_pos (by omega),show (1:Int)+(k:Int)=((k+1:Nat):Int) by omega,zI (by simp; omega)]
   simp
  rw [if_pos (by simp; omega),ho]
  simp only [Option.bind_some]
  rw [show idx (h::(t.take k).filter (K h)) 0=some h from rfl]
  simp only [Option.bind_some]
  rw [hK,zM (by omega),vJ (by simp at hf htk ⊢; omega) (by simp at hf htk ⊢; omega),vJ (by simp at hf htk ⊢; omega) (by simp at hf htk ⊢; omega)]
  simp only [Option.bind_some]
  rw [List.take_succ_eq_append_getElem hk,List.filter_append,List.filter_append]
  cases hj:K h t[k]<;>simp [hj]) (by
  rintro s rfl
  rw [List.take_length]
  unfold zDr
  rw [if_neg (by simp)]
  exact ⟨_,rfl,rfl⟩) t.length 0 ([h],([]:List ByteArray),0) (by omega) (by simp)
 unfold zEu
 exact e
theorem zKG {K:ByteArray→ByteArray→Bool} {c:List Pack} {a b:List Int} (hK:∀x y,uG c a b x y=some (K x y)) {s1:List (List ByteArray)×List ByteArray} {L:List ByteArray} {h:ByteArray} {t:List ByteArray} (e0:L=h::t) (hL:L.Pairwise ltS) (hl:L.length≤250):
  ∃r,zEw c a b s1 (t.filter (fun y=> !(K h y)),h::t.filter (K h),((1:Nat):Int))=some (zEW K L,r)∧zCz r=some (zEz K L):=by
 have nd:∀{l:List ByteArray},l.Pairwise ltS→l.Nodup:=fun h=>h.imp fun h=>zI5 h
 have hLn:=nd hL
 have hLn':=hLn
 rw [e0,List.nodup_cons] at hLn'
 obtain ⟨⟨l,r⟩,e,q1,q2,q3⟩:=zGN (b:=zEg c a b s1)
  (fun s=>∃n:Nat,s.2.2=(n:Int)∧n≤s.2.1.length∧s.2.1.Nodup∧(∀x∈s.2.1,Rch K L h x)∧h∈s.2.1∧s.1.Sublist L∧(∀x,x∈L↔x∈s.2.1∨x∈s.1)∧(∀x∈s.2.1,x∉s.1)∧s.2.1.length+s.1.length=L.length∧∀(j:Nat) (hj:j<s.2.1.length),j<n→∀y∈s.1,K s.2.1[j] y=false)
  (fun s=>L.length+1-s.2.2.toNat) (fun t=>t.1=zEW K L∧(∀x,x∈t.2↔Rch K L h x)∧t.2.length≤L.length) (by
  rintro ⟨left,part,i⟩ ⟨n,hi,h1,h2,h3,h4,h5,h6,h7,h8,h9⟩
  simp only at hi h1 h2 h3 h4 h5 h6 h7 h8 h9
  subst hi
  unfold zEg
  simp only
  by_cases hn:n<part.length
  ·rw [if_pos (by simp; omega),ranged hK hn (by omega),zM (by omega)]
   simp only [Option.bind_some]
   have hf:=zFO (K part[n]) left
   refine .inl ⟨_,rfl,⟨n+1,rfl,by simp; omega,?_,?_,List.mem_append_left _ h4,(List.filter_sublist).trans h5,?_,?_,by simp at hf ⊢; omega,?_⟩,by simp; omega⟩
   ·refine List.nodup_append.2 ⟨h2,((h5.nodup hLn).filter _),fun x hx y hy e=>?_⟩
    subst e
    exact h7 x hx (List.mem_filter.1 hy).1
   ·intro x hx
    rcases List.mem_append.1 hx with hx|hx
    ·exact h3 x hx
    ·obtain ⟨q1,q2⟩:=List.mem_filter.1 hx
     exact .step (h3 _ (List.getElem_mem hn)) ((h6 x).2 (.inr q1)) q2
   ·intro x
    rw [h6,List.mem_append,List.mem_filter,List.mem_filter]
    cases hq:K part[n] x<;>simp
   ·intro x hx
    simp only [List.mem_filter,not_and]
    rcases List.mem_append.1 hx with hx|hx
    ·exact fun h=>absurd h (h7 x hx)
    ·intro _
     rw [(List.mem_filter.1 hx).2]
     simp
   ·intro j hj hjn y hy
    obtain ⟨q1,q2⟩:=List.mem_filter.1 hy
    rcases Nat.lt_succ_iff_lt_or_eq.1 hjn with q|q
    ·rw [List.getElem_append_left (by omega)]
     exact h9 j (by omega) q y q1
    ·subst q
     rw [List.getElem_append_left hn]
     simpa using q2
  ·rw [if_neg (by simp; omega)]
   refine .inr ⟨_,rfl,?_,?_,by simp only; omega⟩
   ·have hmem:∀x,x∈part↔Rch K L h x:=by
     intro x
     refine ⟨h3 x,fun hr=>?_⟩
     induction hr with
     |base=>exact h4
     |step _ hy hj ih=>
      rcases (h6 _).1 hy with q|q
      ·exact q
      ·obtain ⟨j,hjl,rfl⟩:=List.getElem_of_mem ih
       rw [h9 j hjl (by omega) _ q] at hj
       cases hj
    refine zCg (hL.sublist h5) (zE2 hL) fun x=>?_
    rw [zIq e0,←hmem,h6]
    constructor
    ·exact fun q=>⟨.inr q,fun q2=>h7 x q2 q⟩
    ·rintro ⟨q|q,q2⟩
     ·exact absurd q q2
     ·exact q
   ·intro x
    refine ⟨h3 x,fun hr=>?_⟩
    induction hr with
    |base=>exact h4
    |step _ hy hj ih=>
     rcases (h6 _).1 hy with q|q
     ·exact q
     ·obtain ⟨j,hjl,rfl⟩:=List.getElem_of_mem ih
      have hjl':j<part.length:=hjl
      rw [h9 j hjl' (by omega) _ q] at hj
      cases hj) _ (t.filter (fun y=> !(K h y)),h::t.filter (K h),((1:Nat):Int)) (Nat.le_refl _) (by
  have hf:=zFO (K h) t
  refine ⟨1,rfl,by simp,?_,?_,by simp,?_,?_,?_,by rw [e0]; simp at hf ⊢; omega,?_⟩
  ·exact List.nodup_cons.2 ⟨fun hx=>hLn'.1 (List.mem_filter.1 hx).1,hLn'.2.filter _⟩
  ·intro x hx
   rcases List.mem_cons.1 hx with rfl|hx
   ·exact .base
   ·obtain ⟨q1,q2⟩:=List.mem_filter.1 hx
    exact .step .base (by rw [e0]; simp [q1]) q2
  ·rw [e0]
   exact (List.filter_sublist).cons _
  ·intro x
   rw [e0,List.mem_cons,List.mem_cons,List.mem_filter,List.mem_filter]
   cases hq:K h x<;>simp
  ·intro x hx
   simp only [List.mem_filter,not_and]
   rcases List.mem_cons.1 hx with rfl|hx
   ·exact fun h=>absurd h hLn'.1
   ·intro _
    rw [(List.mem_filter.1 hx).2]
    simp
  ·intro j hj hj1 y hy
   have:j=0:=by omega
   subst this
   have:=(List.mem_filter.1 hy).2
   simpa using this)
 simp only at q1 q2 q3
 subst q1
 refine ⟨r,by unfold zEw; exact e,?_⟩
 obtain ⟨w,w1,w2,w3⟩:=zFs r (by omega)
 rw [w1]
 congr 1
 exact zCg w2 (zGi hL) fun x=>by rw [w3,q2,zGL e0]
theorem zFj {K:ByteArray→ByteArray→Bool} {c:List Pack} {a b:List Int} (hK:∀x y,uG c a b x y=some (K x y)) {L:List ByteArray} {out:List (List ByteArray)} (hL:L.Pairwise ltS) (hl:L.length≤250) (ho:out.length≤500):
  zDt c a b (out,L)=some (if L=[] then .done out else .go (out++[zEz K L],zEW K L)):=by
 cases L with
 |nil=>
  unfold zDt
  rw [if_neg (by simp),if_pos rfl]
 |cons h t=>
  have e1:zE7 (h::t) 0 1=some [h]:=by
   have:=zEi (xs:=h::t) (l:=0) (h:=1) (by omega) (by simp)
   simpa using this
  have e2:zE7 (h::t) 1 ((h::t).length :Int)=some t:=by
   have:=zEi (xs:=h::t) (l:=1) (h:=(h::t).length) (by simp) (Nat.le_refl _)
   simpa using this
  unfold zDt
  rw [if_pos (by simp),if_neg (by simp)]
  simp only
  rw [e1]
  simp only [Option.bind_some]
  rw [e2]
  simp only [Option.bind_some]
  rw [if_pos (by simp),zMJ hK (by simp at hl; omega)]
  simp only [Option.bind_some]
  rw [show w64 (0+1)=((1:Nat):Int) by rw [uP (by omega) (by omega)]; rfl]
  obtain ⟨r,f1,f2⟩:=zKG hK (s1:=(out,h::t)) (L:=h::t) rfl hL hl
  rw [f1]
  simp only [Option.bind_some]
  rw [f2]
  simp only [Option.bind_some]
  rw [vJ (by simp; omega) (by simp; omega)]
  rfl
theorem zFc {K:ByteArray→ByteArray→Bool} {c:List Pack} {a b:List Int} (hK:∀x y,uG c a b x y=some (K x y)):∀(n:Nat) (L:List ByteArray) (out:List (List ByteArray)),L.Pairwise ltS→L.length≤n→L.length+out.length≤250→zCk c a b (out,L)=some (out++zEd K n L)
 |0,L,out,h1,h2,h3=>by
  have:L=[]:=List.length_eq_zero_iff.1 (by omega)
  subst this
  unfold zCk
  rw [vH,zFj hK h1 (by simp) (by omega)]
  simp [zEd,Lp.elim]
 |n+1,L,out,h1,h2,h3=>by
  unfold zCk
  rw [vH,zFj hK h1 (by omega) (by omega)]
  cases L with
  |nil=>simp [zEd,Lp.elim]
  |cons h t=>
   have hlt:=zJF (K:=K) (L:=h::t) rfl
   have ih:=zFc hK n (zEW K (h::t)) (out++[zEz K (h::t)]) (zE2 h1) (by omega) (by simp at h3 hlt ⊢; omega)
   rw [if_neg (by simp)]
   simp only [Option.bind_some,Lp.elim]
   unfold zCk at ih
   rw [ih]
   simp [zEd]
noncomputable def chL (c:List Pack) (a b:List Int):List ByteArray:=(zEb c a b).getD []
noncomputable def zM1 (c:List Pack) (a b:List Int):List (List ByteArray):=zEd (jB c a b) 24 (chL c a b)
theorem zHL {c:List Pack} {a b:List Int} (h:Two c a b):vY c a b=some (chL c a b)∧zEb c a b=some (chL c a b)∧(chL c a b).Pairwise ltS∧(∀n,n∈chL c a b↔zDh c a n≠zDh c b n)∧(chL c a b).length ≤24:=by
 obtain ⟨l,e1,e2,h1,h2,h3⟩:=zIg h
 have:chL c a b=l:=by unfold chL; rw [e2]; rfl
 rw [this]
 exact ⟨e1,e2,h1,h2,h3⟩
theorem zKy {c:List Pack} {a b:List Int} (h:Two c a b):zBx c a b=some (zM1 c a b)∧zGn c a b=some (zM1 c a b):=by
 obtain ⟨e1,e2,h1,_,h3⟩:=zHL h
 constructor
 ·unfold zBx
  rw [e1]
  simp only [Option.bind_some]
  rw [zFg (fun x y=>(zGM h x y).1) 24 _ _ h1 h3 (by simp; omega)]
  rfl
 ·unfold zGn
  rw [e2]
  simp only [Option.bind_some]
  rw [zFc (fun x y=>(zGM h x y).2) 24 _ _ h1 h3 (by simp; omega)]
  rfl
def cmpL:List ByteArray→List ByteArray→Int
 |[],[]=>0
 |[],_::_=> -1
 |_::_,[]=>1
 |x::xs,y::ys=>if slt x y then-1 else if seq x y then cmpL xs ys else 1
theorem zNc (x y:ByteArray):tF x y=some (if slt x y then-1 else if seq x y then 0 else 1):=by
 unfold tF cmp_isNaN_string
 simp only [zFG,Bool.not_true,Option.bind_some,Bool.false_eq_true,if_false]
 cases slt x y<;>cases seq x y<;>rfl
theorem zKe (a b:List ByteArray) (ha:a.length≤1048576) (hb:b.length≤1048576):vE a b=some (cmpL a b):=by
 obtain ⟨t,e,ht⟩:=wJ (b:=vP a b) (fun i s=>s=(i:Int)∧i≤b.length∧cmpL a b=cmpL (a.drop i) (b.drop i)) a.length
  (fun t=>match t with| .ret r=>r=cmpL a b| .nxt _=>cmpL a b=if a.length<b.length then-1 else 0) (by
  rintro i s hi ⟨rfl,hib,hc⟩
  unfold vP
  rw [if_pos (by simp; omega),zI hi]
  simp only [Option.bind_some]
  rw [List.drop_eq_getElem_cons hi] at hc
  by_cases hlt:i<b.length
  ·rw [if_neg (by simp; omega),zI hlt]
   simp only [Option.bind_some]
   rw [zNc,zM (by omega)]
   rw [List.drop_eq_getElem_cons hlt] at hc
   simp only [cmpL] at hc
   simp only [Option.bind_some]
   cases h1:slt a[i] b[i]
   ·rw [h1] at hc
    cases h2:seq a[i] b[i]
    ·rw [h2] at hc
     exact .inr ⟨_,rfl,by simpa using hc.symm⟩
    ·rw [h2] at hc
     exact .inl ⟨_,rfl,rfl,by omega,by simpa using hc⟩
   ·rw [h1] at hc
    exact .inr ⟨_,rfl,by simpa using hc.symm⟩
  ·have:i=b.length:=by omega
   subst this
   rw [if_pos (by simp)]
   rw [List.drop_length] at hc
   exact .inr ⟨_,rfl,by simpa [cmpL] using hc.symm⟩) (by
  rintro s ⟨rfl,hib,hc⟩
  unfold vP
  rw [if_neg (by simp)]
  refine ⟨_,rfl,?_⟩
  rw [List.drop_length] at hc
  simp only
  rw [hc]
  by_cases hlt:a.length<b.length
  ·rw [if_pos hlt,List.drop_eq_getElem_cons hlt]
   rfl
  ·have:a.length=b.length:=by omega
   rw [if_neg hlt,this,List.drop_length]
   rfl) a.length 0 0 (by omega) ⟨rfl,by omega,by simp⟩
 unfold vE vV
 rw [e]
 cases t with
 |ret r=>simp only at ht; subst ht; rfl
 |nxt _=>
  simp only at ht
  rw [ht]
  simp only [Fl.go,Option.bind_some]
  by_cases hlt:a.length<b.length
  ·rw [if_pos (by simpa using hlt),if_pos hlt]
  ·rw [if_neg (by simpa using hlt),if_neg hlt]
theorem zIt:∀x:List ByteArray,cmpL x x=0
 |[]=>rfl
 |x::xs=>by simp [cmpL,zCL,zIt xs]
theorem zJE:∀x y:List ByteArray,cmpL y x= -cmpL x y
 |[],[]=>rfl
 |[],_::_=>rfl
 |_::_,[]=>rfl
 |x::xs,y::ys=>by
  simp only [cmpL]
  have ih:=zJE xs ys
  cases h1:slt x y
  ·cases h2:slt y x
   ·have e:x=y:=Classical.byContradiction fun hne=>by
     have:=zFK h2 (Ne.symm hne)
     rw [h1] at this
     cases this
    subst e
    simp [ih]
   ·have h3:seq x y=false:=by
     cases h3:seq x y with
     |false=>rfl
     |true=>rw [zE5.1 h3,zCL] at h2; cases h2
    simp [h3]
  ·rw [zI4 h1]
   have h3:seq y x=false:=by
    cases h3:seq y x with
    |false=>rfl
    |true=>rw [zE5.1 h3,zCL] at h1; cases h1
   simp [h3]
theorem cmpL_eq:∀{x y:List ByteArray},cmpL x y=0→x=y
 |[],[],_=>rfl
 |[],_::_,h=>by simp [cmpL] at h
 |_::_,[],h=>by simp [cmpL] at h
 |x::xs,y::ys,h=>by
  simp only [cmpL] at h
  cases h1:slt x y
  ·rw [h1] at h
   cases h2:seq x y
   ·rw [h2] at h; simp at h
   ·rw [h2] at h
    have e:=cmpL_eq (x:=xs) (y:=ys) (by simpa using h)
    rw [zE5.1 h2,e]
  ·rw [h1] at h; simp at h
theorem zHl:∀{x y z:List ByteArray},cmpL x y<0→cmpL y z<0→cmpL x z<0
 |[],[],_,h,_=>by simp [cmpL] at h
 |[],_::_,[],_,h=>by simp [cmpL] at h
 |[],_::_,_::_,_,_=>by simp [cmpL]
 |_::_,[],_,h,_=>by simp [cmpL] at h
 |_::_,_::_,[],_,h=>by simp [cmpL] at h
 |x::xs,y::ys,z::zs,h,h'=>by
  simp only [cmpL] at h h' ⊢
  cases h1:slt x y
  ·rw [h1] at h
   cases h2:seq x y
   ·rw [h2] at h; simp at h
   ·rw [h2] at h
    have e:=zE5.1 h2
    subst e
    cases h3:slt x z
    ·rw [h3] at h'
     cases h4:seq x z
     ·rw [h4] at h'; simp at h'
     ·rw [h4] at h'
      simp at h h' ⊢
      exact zHl h h'
    ·simp
  ·cases h3:slt y z
   ·rw [h3] at h'
    cases h4:seq y z
    ·rw [h4] at h'; simp at h'
    ·rw [←zE5.1 h4,h1]; simp
   ·rw [zEc h1 h3]; simp
def zEo (x y:List ByteArray):Int:=if x.length≠y.length then (x.length:Int)-y.length else cmpL x y
theorem zMz (a b:List ByteArray) (ha:a.length≤1048576) (hb:b.length≤1048576):wC a b=some (zEo a b):=by
 unfold wC zEo
 by_cases h:a.length=b.length
 ·rw [if_neg (by simp [h]),zKe a b ha hb,if_neg (by simp [h])]
  rfl
 ·rw [if_pos (by simp; omega),if_pos h,uP (by omega) (by omega)]
theorem zHy (x:List ByteArray):zEo x x=0:=by simp [zEo,zIt]
theorem zFL (x y:List ByteArray):zEo y x= -zEo x y:=by
 unfold zEo
 by_cases h:x.length=y.length
 ·rw [if_neg (by simp [h]),if_neg (by simp [h]),zJE]
 ·rw [if_pos (fun e=>h e.symm),if_pos h]; omega
theorem zGw {x y:List ByteArray} (h:zEo x y=0):x=y:=by
 unfold zEo at h
 split at h
 ·omega
 ·exact cmpL_eq h
theorem zGB {x y z:List ByteArray} (h1:zEo x y<0) (h2:zEo y z<0):zEo x z<0:=by
 unfold zEo at*
 by_cases e1:x.length=y.length
 ·rw [if_neg (by simp [e1])] at h1
  by_cases e2:y.length=z.length
  ·rw [if_neg (by simp [e2])] at h2
   rw [if_neg (by simp [e1,e2])]
   exact zHl h1 h2
  ·rw [if_pos e2] at h2
   rw [if_pos (by omega)]
   omega
 ·rw [if_pos e1] at h1
  by_cases e2:y.length=z.length
  ·rw [if_pos (by omega)]
   omega
  ·rw [if_pos e2] at h2
   rw [if_pos (by omega)]
   omega
theorem zF9 {x y:List ByteArray} (hx:x.length≤1048576) (hy:y.length≤1048576):ltC wC x y=decide (zEo x y<0):=by
 unfold ltC
 rw [zMz x y hx hy]
theorem zKK {xs ys:List (List ByteArray)} (hx:∀x∈xs,x.length≤1048576) (hp:ys.Perm xs) (hs:ys.Pairwise (fun x y=>zEo x y<0)) (hl:xs.length<4611686018427387904):zI3 wC xs=some ys:=by
 have hnd:ys.Nodup:=hs.imp fun h e=>by subst e; rw [zHy] at h; omega
 have hC:CmpOn wC xs:=by
  refine ⟨fun x h1 y h2=>by rw [zMz _ _ (hx x h1) (hx y h2)]; rfl,fun x h1=>?_,fun x h1 y h2 z h3 h4 h5=>?_,fun x h1 y h2 h3 h4=>?_,hp.nodup_iff.1 hnd,hl⟩
  ·rw [zF9 (hx x h1) (hx x h1),zHy]; rfl
  ·rw [zF9 (hx _ h1) (hx _ h2)] at h4
   rw [zF9 (hx _ h2) (hx _ h3)] at h5
   rw [zF9 (hx _ h1) (hx _ h3)]
   simp only [decide_eq_true_eq] at h4 h5 ⊢
   exact zGB h4 h5
  ·rw [zF9 (hx _ h1) (hx _ h2)] at h3
   rw [zF9 (hx _ h2) (hx _ h1)] at h4
   simp only [decide_eq_false_iff_not] at h3 h4
   have:=zFL x y
   exact zGw (by omega)
 unfold zI3
 rw [if_pos hC]
 congr 1
 have hle:∀x∈xs,∀y∈xs,(!(ltC wC y x))=decide (zEo x y≤0):=fun x h1 y h2=>by
  rw [zF9 (hx y h2) (hx x h1)]
  have:=zFL x y
  rw [Bool.eq_iff_iff]
  simp only [Bool.not_eq_true',decide_eq_false_iff_not,decide_eq_true_eq]
  omega
 have hm:(xs.mergeSort fun x y=> !(ltC wC y x))=xs.mergeSort fun x y=>decide (zEo x y≤0):=by
  have:=List.map_mergeSort (f:=fun x:List ByteArray=>x) (r:=fun x y=> !(ltC wC y x)) (s:=fun x y=>decide (zEo x y≤0)) (l:=xs) hle
  simpa using this
 rw [hm]
 have hpw:=List.pairwise_mergeSort (le:=fun x y:List ByteArray=>decide (zEo x y≤0)) (by
  intro x y z h1 h2
  simp only [decide_eq_true_eq] at h1 h2 ⊢
  rcases Int.lt_or_eq_of_le h1 with q1|q1
  ·rcases Int.lt_or_eq_of_le h2 with q2|q2
   ·exact Int.le_of_lt (zGB q1 q2)
   ·rw [←zGw q2]; exact h1
  ·rw [zGw q1]; exact h2) (by
  intro x y
  have:=zFL x y
  simp
  omega) xs
 refine List.Perm.eq_of_pairwise (le:=fun x y=>zEo x y≤0) ?_ (hpw.imp fun h=>by simpa using h) (hs.imp fun h=>Int.le_of_lt h) ((List.mergeSort_perm _ _).trans hp.symm)
 intro x y _ _ h1 h2
 have:=zFL x y
 exact zGw (by omega)
def zNG (n m:Nat):List Nat:=(List.range n).filter fun j=>m / 2^(n-1-j)%2==1
def zDL (n m:Nat):List Nat:=(List.range n).filter fun j=>m / 2^j%2==1
def SLi (n:Nat):List (List Nat):=(List.range (n-1)).flatMap fun s=>((List.range (2^n-1)).map fun i=>zNG n (2^n-1-i)).filter fun p=>p.length==s+1
def ILi (n:Nat):List (List Nat):=(List.range (2^n-2)).map fun i=>zDL n (i+1)
def zOl:List Nat→List Nat→Int
 |[],[]=>0
 |[],_::_=> -1
 |_::_,[]=>1
 |x::xs,y::ys=>if x<y then-1 else if x=y then zOl xs ys else 1
def zNl (x y:List Nat):Int:=if x.length≠y.length then (x.length:Int)-y.length else zOl x y
theorem zHK:∀n:Fin 7,((SLi n.1).isPerm (ILi n.1))=true:=by decide+kernel
theorem zHx:∀n:Fin 7,(SLi n.1).Pairwise (fun x y=>zNl x y<0):=by decide+kernel
theorem zL5:∀n:Fin 7,∀p∈SLi n.1,p.Pairwise (· < ·)∧p≠[]∧∀j∈p,j<n.1:=by decide+kernel
def atN (ns:List ByteArray) (p:List Nat):List ByteArray:=p.map fun j=>ns.getD j ByteArray.empty
theorem zDS (ns:List ByteArray) (p:List Nat):(atN ns p).length =p.length:=by simp [atN]
theorem getD_at {ns:List ByteArray} {j:Nat} (h:j<ns.length):ns.getD j ByteArray.empty=ns[j]:=by simp [List.getD,h]
theorem zJD {ns:List ByteArray} (hs:ns.Pairwise ltS):∀{p q:List Nat},(∀j∈p,j<ns.length)→(∀j∈q,j<ns.length)→cmpL (atN ns p) (atN ns q)=zOl p q
 |[],[],_,_=>rfl
 |[],_::_,_,_=>rfl
 |_::_,[],_,_=>rfl
 |x::xs,y::ys,hp,hq=>by
  have hx:=hp x (by simp)
  have hy:=hq y (by simp)
  have ih:=zJD hs (p:=xs) (q:=ys) (fun j hj=>hp j (by simp [hj])) (fun j hj=>hq j (by simp [hj]))
  have hpw:=List.pairwise_iff_getElem.1 hs
  show cmpL (ns.getD x ByteArray.empty::atN ns xs) (ns.getD y ByteArray.empty::atN ns ys)=_
  rw [getD_at hx,getD_at hy]
  simp only [cmpL,zOl]
  rw [ih]
  rcases Nat.lt_trichotomy x y with h|h|h
  ·have h0:slt ns[x] ns[y]=true:=hpw x y hx hy h
   simp [h,h0]
  ·subst h
   simp [zCL]
  ·have h1:slt ns[y] ns[x]=true:=hpw y x hy hx h
   have h2:=zI4 h1
   have h3:seq ns[x] ns[y]=false:=by
    cases h3:seq ns[x] ns[y] with
    |false=>rfl
    |true=>rw [zE5.1 h3,zCL] at h1; cases h1
   have n1:¬x<y:=by omega
   have n2:¬x=y:=by omega
   simp [h2,h3,n1,n2]
theorem zIj {ns:List ByteArray} (hs:ns.Pairwise ltS) {p q:List Nat} (hp:∀j∈p,j<ns.length) (hq:∀j∈q,j<ns.length):zEo (atN ns p) (atN ns q)=zNl p q:=by
 unfold zEo zNl
 rw [zDS,zDS,zJD hs hp hq]
theorem zLc {ns:List ByteArray} {p:List Nat} (hp:∀j∈p,j<ns.length):∀x∈atN ns p,x∈ns:=by
 intro x hx
 obtain ⟨j,hj,rfl⟩:=List.mem_map.1 hx
 rw [getD_at (hp j hj)]
 exact List.getElem_mem _
theorem zKh {ns:List ByteArray} (hs:ns.Pairwise ltS) {p:List Nat} (hp:∀j∈p,j<ns.length) (hl:p.Pairwise (· < ·)):(atN ns p).Pairwise ltS:=by
 refine List.pairwise_map.2 (List.Pairwise.imp_of_mem (fun {x y} hx hy h=>?_) hl)
 rw [getD_at (hp x hx),getD_at (hp y hy)]
 exact List.pairwise_iff_getElem.1 hs x y (hp x hx) (hp y hy) h
theorem and1:∀m:Fin 64,zNg .i64 (m.1:Int) 1=((m.1%2:Nat):Int):=by decide+kernel
theorem zPb:∀(m:Fin 64) (k:Fin 7),zNr .i64 (m.1:Int) (k.1:Int)=some ((m.1 / 2^k.1:Nat):Int):=by decide+kernel
theorem zOI:∀n:Fin 7,zMN .i64 1 (n.1:Int)=some ((2^n.1:Nat):Int):=by decide+kernel
theorem zNH:∀n:Fin 64,IntKind.u64.wrap (n.1:Int)=(n.1:Int):=by decide+kernel
theorem zM2 {m k:Nat} (hm:m<64) (hk:k<7):∃x,zNr .i64 (m:Int) (k:Int)=some x∧((zNg .i64 x 1)==1)=(m / 2^k%2==1):=by
 refine ⟨_,zPb ⟨m,hm⟩ ⟨k,hk⟩,?_⟩
 have h64:m / 2^k<64:=Nat.lt_of_le_of_lt (Nat.div_le_self _ _) hm
 rw [and1 ⟨m / 2^k,h64⟩]
 rw [Bool.eq_iff_iff,beq_iff_eq,beq_iff_eq]
 simp only
 omega
theorem zKb {c:List Pack} {a b:List Int} {ns:List ByteArray} (hn:ns.length≤6) {m:Nat} (hm:m<64) (out:List (List ByteArray)):kV c a b ns (out,(m:Int)) (([]:List ByteArray),0)=some (atN ns (zDL ns.length m)):=by
 obtain ⟨t,e,rfl⟩:=wJ (b:=zA3 c a b ns (out,(m:Int))) (fun i s=>s=(atN ns ((List.range i).filter fun j=>m / 2^j%2==1),(i:Int))) ns.length (fun t=>t=atN ns (zDL ns.length m)) (by
  rintro i s hi rfl
  refine .inl ⟨_,?_,rfl⟩
  obtain ⟨x,h1,h2⟩:=zM2 hm (k:=i) (by omega)
  have hlen:(atN ns ((List.range i).filter fun j=>m / 2^j%2==1)).length ≤i:=by
   rw [zDS]
   have:=List.length_filter_le (fun j=>m / 2^j%2==1) (List.range i)
   simpa using this
  unfold zA3
  simp only
  rw [if_pos (by simp; omega),zI hi]
  simp only [Option.bind_some]
  rw [h1]
  simp only [Option.bind_some]
  rw [h2,zM (by omega),vJ (by simp at hlen ⊢; omega) (by simp at hlen ⊢; omega)]
  simp only [Option.bind_some]
  rw [List.range_succ,List.filter_append,List.filter_cons,List.filter_nil]
  cases (m / 2^i%2==1)
  ·simp
  ·simp [atN,hi]) (by
  rintro s rfl
  unfold zA3
  rw [if_neg (by simp)]
  exact ⟨_,rfl,rfl⟩) ns.length 0 (([]:List ByteArray),0) (by omega) (by simp [atN])
 unfold kV
 exact e
noncomputable def zIb (c:List Pack) (a b:List Int) (p:List ByteArray):Bool:=((zDD c (mvL c a b p)).length :Int)==0
def SLn (ns:List ByteArray):List (List ByteArray):=(SLi ns.length).map (atN ns)
noncomputable def nxB (c:List Pack) (a b:List Int) (ns:List ByteArray):List ByteArray:=if ns.length>6 then ns else ((SLn ns).find? (zIb c a b)).getD ns
theorem zLV {c:List Pack} {a b:List Int} (hC:Cat c) (h:Two c a b) {p:List ByteArray} (hp:p.length≤1048576):
  zC4 c a b p=some (mvL c a b p)∧zCw c (mvL c a b p)=some (zIb c a b p):=by
 have hc:=h.sml.len
 have la:=h.la
 have lb:=h.lb
 have:=zGa c a b p
 refine ⟨zKJ (by omega) (by omega) (by omega) hp,?_⟩
 rw [zJo hC (zFW _ _ _ _) (by omega)]
 rfl
theorem zJ9 {c:List Pack} {a b:List Int} (hC:Cat c) (h0:CF c=0) (h:Two c a b) {p:List ByteArray} (hp:p.length≤24):
  kK c a b p=some (mvL c a b p)∧kL p c a b=some (zIb c a b p)∧zAs p c a b=some (zIb c a b p):=by
 have hc:=h.sml.len
 have la:=h.la
 have lb:=h.lb
 have hm:=zGa c a b p
 have e:=zHk h.pa h.pb h.sa h.sb (by omega) (by omega) (show p.length≤1048576 by omega)
 have key:∀{o:Option Bool},o=(if decide ((p.length:Int)≤24) then (kK c a b p).bind fun x6=>(wZ c x6).bind fun x8=>some x8 else some false)→o=some (zIb c a b p):=by
  intro o ho
  have hS:(SF c (mvL c a b p)==0)=true:=by
   unfold SF
   rw [h0,zEZ.2 ⟨zJv _ _ _ _,zFW _ _ _ _⟩]
   rfl
  rw [ho,if_pos (by simp; omega),e]
  simp only [Option.bind_some]
  rw [zFf hC (by omega) hS]
  unfold zOk zIb
  rw [hS]
  rfl
 exact ⟨e,key rfl,key rfl⟩
theorem zKn {c:List Pack} {a b:List Int} {ns:List ByteArray} (hn:ns.length≤6):kM c a b ns (([]:List (List ByteArray)),1)=some ((ILi ns.length).map (atN ns)):=by
 have h64:2^ns.length≤64:=Nat.pow_le_pow_right (by omega) hn
 have h1:1≤2^ns.length:=Nat.one_le_two_pow
 have hw:(zMN .i64 1 (ns.length:Int))=some ((2^ns.length:Nat):Int):=zOI ⟨ns.length,by omega⟩
 have hw2:w64 (((2^ns.length:Nat):Int)-1)=((2^ns.length-1:Nat):Int):=by
  rw [uP (by omega) (by omega)]; omega
 obtain ⟨t,e,rfl⟩:=wJ (b:=zAL c a b ns) (fun i x=>x=(((List.range i).map fun i=>zDL ns.length (i+1)).map (atN ns),((i+1:Nat):Int))) (2^ns.length-2)
  (fun t=>t=(ILi ns.length).map (atN ns)) (by
  rintro i x hi rfl
  refine .inl ⟨_,?_,rfl⟩
  unfold zAL
  rw [hw]
  simp only [Option.bind_some]
  rw [hw2,if_pos (by simp; omega),zKb hn (by omega)]
  simp only [Option.bind_some]
  rw [vJ (by simp; omega) (by simp; omega),zM (by omega)]
  simp only [Option.bind_some]
  rw [List.range_succ,List.map_append,List.map_append]
  rfl) (by
  rintro x rfl
  unfold zAL
  rw [hw]
  simp only [Option.bind_some]
  rw [hw2,if_neg (by simp; omega)]
  exact ⟨_,rfl,rfl⟩) (2^ns.length-2) 0 (([]:List (List ByteArray)),1) (by omega) (by simp)
 unfold kM
 exact e
theorem zIP {ns:List ByteArray} (hn:ns.length≤6) (hs:ns.Pairwise ltS) {p:List ByteArray} (hp:p∈SLn ns):p≠[]∧p.Pairwise ltS∧(∀x∈p,x∈ns)∧p.length≤1048576:=by
 obtain ⟨q,hq,rfl⟩:=List.mem_map.1 hp
 obtain ⟨h1,h2,h3⟩:=zL5 ⟨ns.length,by omega⟩ q hq
 have hsort:=zKh hs h3 h1
 refine ⟨fun e=>?_,hsort,zLc h3,?_⟩
 ·have:=zDS ns q
  rw [e] at this
  exact h2 (List.length_eq_zero_iff.1 this.symm)
 ·have:=zFT hsort hs (zLc h3)
  omega
theorem zIm {ns:List ByteArray} (hn:ns.length≤6) (hs:ns.Pairwise ltS):zI3 wC ((ILi ns.length).map (atN ns))=some (SLn ns):=by
 have hperm:(SLi ns.length).Perm (ILi ns.length):=List.isPerm_iff.1 (zHK ⟨ns.length,by omega⟩)
 have hlt:=zL5 ⟨ns.length,by omega⟩
 have hp:(SLn ns).Perm ((ILi ns.length).map (atN ns)):=hperm.map _
 refine zKK (fun x hx=>(zIP hn hs (hp.mem_iff.2 hx)).2.2.2) hp ?_ ?_
 ·refine List.pairwise_map.2 (List.Pairwise.imp_of_mem (fun {x y} hx hy h=>?_) (zHx ⟨ns.length,by omega⟩))
  rw [zIj hs (hlt x hx).2.2 (hlt y hy).2.2]
  exact h
 ·unfold ILi
  have h64:2^ns.length≤64:=Nat.pow_le_pow_right (by omega) hn
  simp
  omega
theorem zK5 {α:Type} {o:List (Option α)} {i:Nat} {x:α} (h:o[i]? =some (some x)):zN8 o (i:Int)=some x:=by
 unfold zN8 idx
 rw [if_pos (by omega),Int.toNat_natCast,h]
 rfl
theorem zIr {α:Type} (q:α→Bool):∀(xs:List α) (i:Nat),(wI (fun j x=>if q x then some (j:Int) else none) i xs=none∧xs.find? q=none)∨∃(k:Nat) (h:k<xs.length),wI (fun j x=>if q x then some (j:Int) else none) i xs=some ((i+k:Nat):Int)∧xs.find? q=some xs[k]
 |[],i=>.inl ⟨rfl,rfl⟩
 |x::xs,i=>by
  simp only [wI,List.find?_cons]
  cases hq:q x
  ·simp only [Bool.false_eq_true,if_false]
   rcases zIr q xs (i+1) with ⟨h1,h2⟩|⟨k,hk,h1,h2⟩
   ·exact .inl ⟨h1,h2⟩
   ·refine .inr ⟨k+1,by simp only [List.length_cons]; omega,?_,by simpa using h2⟩
    rw [h1,show i+1+k=i+(k+1) by omega]
  ·exact .inr ⟨0,by simp,by simp,by simp⟩
theorem zLf {c:List Pack} {a b:List Int} (hC:Cat c) (h0:CF c=0) (h:Two c a b) {ns:List ByteArray} (hn:ns.length≤24) (hs:ns.Pairwise ltS):zAS c a b ns=some (if zIb c a b ns then (nxB c a b ns,true) else (([]:List ByteArray),false)):=by
 unfold zAS nxB
 rw [(zJ9 hC h0 h hn).2.2]
 simp only [Option.bind_some]
 cases hf:zIb c a b ns
 ·simp
 simp only [Bool.not_true,Bool.false_eq_true,if_false,if_true]
 have hcl:wN ns=some ns:=by
  unfold wN
  rw [vJ (by simp; omega) (by simp; omega)]
  rfl
 rw [hcl]
 by_cases h6:ns.length>6
 ·rw [if_pos (by simp; omega),if_pos h6]
  rfl
 rw [if_neg (by simp; omega),if_neg h6]
 have hn6:ns.length≤6:=by omega
 rw [zKn hn6]
 simp only [Option.bind_some]
 have hsm:=zIm hn6 hs
 unfold wD
 rw [hsm]
 simp only [Option.bind_some]
 have hlen:(SLn ns).length =((ILi ns.length).map (atN ns)).length :=by
  have hperm:(SLi ns.length).Perm (ILi ns.length):=List.isPerm_iff.1 (zHK ⟨ns.length,by omega⟩)
  unfold SLn
  rw [List.length_map,List.length_map,hperm.length_eq]
 have hsmall:(SLn ns).length ≤64:=by
  rw [hlen]
  unfold ILi
  have h64:2^ns.length≤64:=Nat.pow_le_pow_right (by omega) hn6
  simp
  omega
 rw [zJa hlen]
 simp only [Option.bind_some]
 have key:=xX (SLn ns) (fun j x=>if zIb c a b x then some (j:Int) else none) (b:=yQ (SLn ns) c a b) (by
  intro i hi
  have hp:=(zIP hn6 hs (List.getElem_mem hi))
  have hp24:=zFT hp.2.1 hs hp.2.2.1
  unfold yQ
  rw [if_pos (by simp; omega),zI hi]
  simp only [Option.bind_some]
  rw [(zJ9 hC h0 h (by omega)).2.1,zM (by omega)]
  simp only [Option.bind_some]
  cases zIb c a b (SLn ns)[i]<;>rfl) (by
  unfold yQ
  rw [if_neg (by simp)])
 unfold yL yY
 rw [key,zAo]
 rcases zIr (zIb c a b) (SLn ns) 0 with ⟨q1,q2⟩|⟨k,hk,q1,q2⟩
 ·rw [q1,q2]
  rfl
 ·rw [q1,q2]
  simp only [Option.bind_some]
  rw [if_pos (by simp),Nat.zero_add,zI hk]
  simp only [Option.bind_some]
  rw [zK5 (x:=(SLn ns)[k]) (by simp [hk])]
  rfl
theorem zJw {c:List Pack} {a b:List Int} {ns:List ByteArray} (hs:ns.Pairwise ltS) (hne:ns≠[]):nxB c a b ns≠[]∧(nxB c a b ns).Pairwise ltS∧(∀x∈nxB c a b ns,x∈ns)∧(zIb c a b ns=true→zIb c a b (nxB c a b ns)=true):=by
 unfold nxB
 split
 ·exact ⟨hne,hs,fun x hx=>hx,fun h=>h⟩
 ·rename_i h6
  cases hf:(SLn ns).find? (zIb c a b) with
  |none=>exact ⟨hne,hs,fun x hx=>hx,fun h=>h⟩
  |some p=>
   obtain ⟨h1,h2,h3,_⟩:=zIP (by omega) hs (List.mem_of_find?_eq_some hf)
   exact ⟨h1,h2,h3,fun _=>List.find?_some hf⟩
theorem zIE (K:ByteArray→ByteArray→Bool):∀(n:Nat) (L:List ByteArray),(zEd K n L).length ≤n∧∀P∈zEd K n L,P.length≤L.length
 |0,L=>by simp [zEd]
 |n+1,L=>by
  unfold zEd
  split
  ·simp
  ·obtain ⟨h1,h2⟩:=zIE K n (zEW K L)
   refine ⟨by simp; omega,fun P hP=>?_⟩
   rcases List.mem_cons.1 hP with rfl|hP
   ·exact List.length_filter_le _ _
   ·exact Nat.le_trans (h2 P hP) (List.length_filter_le _ _)
theorem zGf {K:ByteArray→ByteArray→Bool}:∀(n:Nat) {L:List ByteArray},L.Pairwise ltS→∀P∈zEd K n L,P.Pairwise ltS
 |0,L,_=>by simp [zEd]
 |n+1,L,h=>by
  unfold zEd
  split
  ·simp
  ·intro P hP
   rcases List.mem_cons.1 hP with rfl|hP
   ·exact zGi h
   ·exact zGf n (zE2 h) P hP
theorem zLr {c:List Pack} {a b:List Int} (h:Two c a b):(zM1 c a b).length ≤24∧(∀P∈zM1 c a b,P.length≤24)∧∀P∈zM1 c a b,P.Pairwise ltS:=by
 obtain ⟨_,_,h1,_,h2⟩:=zHL h
 obtain ⟨q1,q2⟩:=zIE (jB c a b) 24 (chL c a b)
 exact ⟨q1,fun P hP=>Nat.le_trans (q2 P hP) h2,zGf 24 h1⟩
theorem zH7 {α:Type} {q:α→Bool}:∀{l:List α} {p:α},l.find? q=some p→∃(k:Nat) (h:k<l.length),l[k]=p∧q p=true∧∀(j:Nat) (hj:j<l.length),j<k→q l[j]=false
 |[],p,h=>by cases h
 |x::l,p,h=>by
  rw [List.find?_cons] at h
  cases hq:q x
  ·rw [hq] at h
   obtain ⟨k,hk,h1,h2,h3⟩:=zH7 h
   refine ⟨k+1,by simp only [List.length_cons]; omega,by simpa using h1,h2,fun j hj hjk=>?_⟩
   cases j with
   |zero=>simpa using hq
   |succ j=>simpa using h3 j (by simp only [List.length_cons] at hj; omega) (by omega)
  ·rw [hq] at h
   cases h
   exact ⟨0,by simp,by simp,hq,fun j hj hjk=>by omega⟩
theorem zJO {n m:Nat} (h1:1≤m) (h2:m<2^n-1):zDL n m∈ILi n:=by
 unfold ILi
 refine List.mem_map.2 ⟨m-1,List.mem_range.2 (by omega),?_⟩
 congr 1
 omega
theorem zJY:∀n:Fin 7,(zDL n.1 (2^n.1-1)).length =n.1:=by decide+kernel
theorem zMa {c:List Pack} {a b:List Int} {ns:List ByteArray} (hn:ns.length≤6) (hs:ns.Pairwise ltS) (hne:ns≠[]) {m:Nat} (h1:1≤m) (h2:m<2^ns.length) (hlt:(atN ns (zDL ns.length m)).length < (nxB c a b ns).length):zIb c a b (atN ns (zDL ns.length m))=false:=by
 cases hf:zIb c a b (atN ns (zDL ns.length m)) with
 |false=>rfl
 |true=>
  exfalso
  obtain ⟨_,g2,g3,_⟩:=zJw (c:=c) (a:=a) (b:=b) hs hne
  have hBl:=zFT g2 hs g3
  have hm:m<2^ns.length-1:=by
   rcases Nat.lt_or_ge m (2^ns.length-1) with q|q
   ·exact q
   ·have:m=2^ns.length-1:=by omega
    subst this
    have:=zJY ⟨ns.length,by omega⟩
    simp only at this
    rw [zDS,this] at hlt
    omega
  have hperm:(SLi ns.length).Perm (ILi ns.length):=List.isPerm_iff.1 (zHK ⟨ns.length,by omega⟩)
  have hmem:atN ns (zDL ns.length m)∈SLn ns:=List.mem_map_of_mem (hperm.mem_iff.2 (zJO h1 hm))
  unfold nxB at hlt
  rw [if_neg (by omega)] at hlt
  cases hfi:(SLn ns).find? (zIb c a b) with
  |none=>
   have:=List.find?_eq_none.1 hfi _ hmem
   exact this hf
  |some p=>
   rw [hfi] at hlt
   simp only [Option.getD_some] at hlt
   obtain ⟨k,hk,rfl,_,h3⟩:=zH7 hfi
   obtain ⟨j,hj,e⟩:=List.getElem_of_mem hmem
   rw [←e] at hf hlt
   rcases Nat.lt_trichotomy j k with q|q|q
   ·rw [h3 j hj q] at hf; cases hf
   ·subst q; omega
   ·have hlts:=zL5 ⟨ns.length,by omega⟩
    have hpw:(SLn ns).Pairwise (fun x y=>zEo x y<0):=by
     refine List.pairwise_map.2 (List.Pairwise.imp_of_mem (fun {x y} hx hy h=>?_) (zHx ⟨ns.length,by omega⟩))
     rw [zIj hs (hlts x hx).2.2 (hlts y hy).2.2]
     exact h
    have hc:=List.pairwise_iff_getElem.1 hpw k j hk hj q
    unfold zEo at hc
    split at hc
    ·omega
    ·omega
inductive Chn (c:List Pack) (b:List Int) (Q:List Int→List ByteArray→Prop):List Int→List (List ByteArray)→List (List Int)→List Int→Prop where
 |nil {a:List Int}:Chn c b Q a [] [] a
 |cons {a e:List Int} {B:List ByteArray} {bs:List (List ByteArray)} {ss:List (List Int)}:Q a B→Chn c b Q (mvL c a b B) bs ss e→Chn c b Q a (B::bs) (mvL c a b B::ss) e
theorem Chn.length {c:List Pack} {b:List Int} {Q:List Int→List ByteArray→Prop} {a e:List Int} {bs:List (List ByteArray)} {ss:List (List Int)} (h:Chn c b Q a bs ss e):bs.length=ss.length:=by
 induction h with
 |nil=>rfl
 |cons _ _ ih=>simp [ih]
def zKj:ByteArray:=bs [114,111,111,116]
structure DPk (k:Nat) (p:Pack):Prop where
 name:p.Name.size≤20
 noRoot:p.Name≠zKj
 zMC:p.Provides.length≤k∧∀n∈p.Provides,n.size≤20
 needs:p.Needs.length≤k∧∀l∈p.Needs,l.length≤8∧∀t∈l,t.Name.size≤20
 bars:p.Bars.length≤k∧∀t∈p.Bars,t.Name.size≤20
theorem DPk.mono {p:Pack} (h:DPk 4 p):DPk 8 p:=by
 obtain ⟨h1,h0,h2,h3,h4⟩:=h
 exact ⟨h1,h0,⟨by omega,h2.2⟩,⟨by omega,h3.2⟩,⟨by omega,h4.2⟩⟩
theorem DPk.sm {p:Pack} (h:DPk 8 p):Pack.sm 1048576 p:=by
 obtain ⟨h1,_,h2,h3,h4⟩:=h
 refine ⟨by omega,⟨trivial,trivial,trivial⟩,trivial,⟨by omega,fun n hn=>?_⟩,⟨by omega,fun l hl=>⟨?_,fun t ht=>⟨?_,⟨trivial,trivial,trivial⟩,⟨trivial,trivial,trivial⟩⟩⟩⟩,⟨by omega,fun t ht=>⟨?_,⟨trivial,trivial,trivial⟩,⟨trivial,trivial,trivial⟩⟩⟩⟩
 ·have:=h2.2 n hn; omega
 ·have:=(h3.2 l hl).1; omega
 ·have:=(h3.2 l hl).2 t ht; omega
 ·have:=h4.2 t ht; omega
theorem zF2 {b:Nat} {s:zD} (h:Sr b s) (hb:b≤1000000000):∃p s',wE s=some (p,s')∧p.size≤20∧p≠zKj∧Sr (b+1) s':=by
 obtain ⟨r,s',x,e1,e2,hx,h'⟩:=at_next h hb (l:=[bs [97],bs [98],bs [99],bs [100],bs [108,105,98],bs [119,101,98]]) (n:=6) rfl (by simp)
 have key:x.size≤20∧x≠zKj:=by
  simp only [List.mem_cons,List.not_mem_nil,or_false] at hx
  rcases hx with rfl|rfl|rfl|rfl|rfl|rfl<;>exact ⟨by decide,by decide⟩
 refine ⟨x,s',?_,key.1,key.2,h'⟩
 unfold wE
 rw [e1]
 simp only [Option.bind_some,e2]
theorem zG7 {b:Nat} {s:zD} (h:Sr b s) (hb:b+10≤1000000000):∃p s',wQ s=some (p,s')∧p.size≤20∧p≠zKj∧Sr (b+2) s':=by
 obtain ⟨q,s1,e,h1⟩:=uH h (by omega) 14
 unfold wQ
 rw [e]
 simp only [Option.bind_some]
 cases q
 ·obtain ⟨p,s2,e2,h2,h3,h4⟩:=zF2 h1 (by omega)
  rw [e2]
  exact ⟨p,s2,rfl,h2,h3,h4⟩
 ·obtain ⟨r,s',x,e1,e2,hx,h'⟩:=at_next h1 (by omega) (l:=[bs [],bs [49,97],bs [65],bs [97,98,99,100,101,102,103,104,105,106,107,108,109],bs [97,98,99,100,101,102,103,104,105,106,107,108],bs [97,32,98],bs [97,45],bs [95,97],bs [97,95,49]]) (n:=9) rfl (by simp)
  rw [e1]
  simp only [Option.bind_some,e2,if_true]
  have key:x.size≤20∧x≠zKj:=by
   simp only [List.mem_cons,List.not_mem_nil,or_false] at hx
   rcases hx with rfl|rfl|rfl|rfl|rfl|rfl|rfl|rfl|rfl<;>exact ⟨by decide,by decide⟩
  exact ⟨x,s',rfl,key.1,key.2,h'⟩
theorem zIi {b:Nat} (x2:ByteArray×zD) (x4 x6:Int×zD) (v15:List Int×Int×List ByteArray) {s:zD} (h:Sr b s) (hb:b+200≤1000000000) (n:Int) (hn:0≤n∧n≤4):
  ∃l s',zDm x2 x4 x6 v15 (s.Code,s.At,([]:List (List Term)),n)=some (s'.Code,s'.At,l)∧l.length≤4∧(∀c∈l,c.length≤8∧∀t∈c,t.Name.size≤20)∧Sr (b+20*n.toNat) s':=by
 obtain ⟨t,e2,l,s2,rfl,hl,hz,h2⟩:=wJ (b:=zC3 x2 x4 x6 v15) (fun i q=>∃(l:List (List Term)) (s':zD),q=(s'.Code,s'.At,l,n-(i:Int))∧l.length=i∧(∀c∈l,c.length≤8∧∀t∈c,t.Name.size≤20)∧Sr (b+20*i) s') n.toNat
  (fun t=>∃(l:List (List Term)) (s':zD),t=(s'.Code,s'.At,l)∧l.length=n.toNat∧(∀c∈l,c.length≤8∧∀t∈c,t.Name.size≤20)∧Sr (b+20*n.toNat) s') (by
  rintro i q hi ⟨l,s',rfl,hl,hz,hs⟩
  unfold zC3
  simp only
  rw [if_pos (by simp; omega)]
  obtain ⟨t,u,f1,ht,g1⟩:=zFC hs (by omega)
  have f1':vQ {Code:=s'.Code,At:=s'.At}=some (t,u):=f1
  obtain ⟨q,u2,f2,g2⟩:=uH g1 (by omega) 3
  rw [f1']
  simp only [Option.bind_some,f2]
  obtain ⟨c,u3,f3,hc,hne,g3⟩:∃(c:List Term) (u3:zD),(if q=true then (vQ u2).bind fun x67=>(app 64 [t] [x67.1]).bind fun x69=>some (x67.2.Code,x67.2.At,x69) else some (u2.Code,u2.At,[t]))=some (u3.Code,u3.At,c)∧(c.length≤8∧∀t∈c,t.Name.size≤20)∧0<c.length∧Sr (b+20*i+19) u3:=by
   cases q
   ·exact ⟨[t],u2,rfl,⟨by simp,by simpa using ht⟩,by simp,g2.mono (by omega)⟩
   ·obtain ⟨t2,u3,f3,ht2,g3⟩:=zFC g2 (by omega)
    rw [if_pos rfl,f3]
    simp only [Option.bind_some]
    rw [vJ (by simp) (by simp)]
    exact ⟨[t,t2],u3,rfl,⟨by simp,by simp [ht,ht2]⟩,by simp,g3.mono (by omega)⟩
  rw [f3]
  simp only [Option.bind_some]
  obtain ⟨q2,u4,f4,g4⟩:=uH (s:= {Code:=u3.Code,At:=u3.At}) g3 (by omega) 8
  rw [f4]
  simp only [Option.bind_some]
  obtain ⟨c2,f5,hc2⟩:∃c2:List Term,(if q2=true then (uJ (bs [109,97,105,108])).bind fun x75=>(idx c 0).bind fun x77=>some (c.set ((0:Int).toNat) x75) else some c)=some c2∧(c2.length≤8∧∀t∈c2,t.Name.size≤20):=by
   cases q2
   ·exact ⟨c,rfl,hc⟩
   ·rw [if_pos rfl,show (0:Int)=((0:Nat):Int) from rfl,zI hne]
    unfold uJ zAt
    refine ⟨_,rfl,by simpa using hc.1,fun t ht=>?_⟩
    rcases List.mem_or_eq_of_mem_set ht with ht|ht
    ·exact hc.2 t ht
    ·subst ht
     show (bs [109,97,105,108]).size ≤20
     decide
  rw [f5]
  simp only [Option.bind_some]
  rw [vJ (by simp; omega) (by simp; omega),uP (x:=n-(i:Int)-1) (by omega) (by omega)]
  refine .inl ⟨_,rfl,_,u4,by rw [show n-(i:Int)-1=n-((i+1:Nat):Int) by omega],by simp [hl],fun x hx=>?_,g4.mono (by omega)⟩
  rcases List.mem_append.1 hx with hx|hx
  ·exact hz x hx
  ·rw [List.mem_singleton.1 hx]; exact hc2) (by
  rintro q ⟨l,s',rfl,hl,hz,hs⟩
  unfold zC3
  simp only
  rw [if_neg (by simp; omega)]
  exact ⟨_,rfl,l,s',rfl,hl,hz,hs⟩) n.toNat 0 (s.Code,s.At,[],n) (by omega) ⟨[],s,by simp,rfl,by simp,h⟩
 exact ⟨l,s2,e2,by omega,hz,h2⟩
theorem zI8 {b:Nat} {s:zD} (h:Sr b s) (hb:b+300≤1000000000):∃p s',zAY s=some (p,s')∧DPk 4 p∧Sr (b+100) s':=by
 obtain ⟨nm,s1,e1,hs1,hr1,h1⟩:=zF2 h (by omega)
 obtain ⟨va,s2,e2,_,_,h2⟩:=tN h1 (by omega) 3
 obtain ⟨si,s3,e3,_,_,h3⟩:=tN h2 (by omega) 9
 obtain ⟨q,s4,e4,h4⟩:=uH h3 (by omega) 5
 obtain ⟨pr,s5,e5,hp,h5⟩:∃(pr:List ByteArray) (s5:zD),(if q=true then (zL s4 2).bind fun x11=>(idx [bs [109,97,105,108],bs [100,98]] x11.1).bind fun x13=>some (x11.2.Code,x11.2.At,[x13]) else some (s4.Code,s4.At,([]:List ByteArray)))=some (s5.Code,s5.At,pr)∧(pr.length≤1∧∀n∈pr,n.size≤20)∧Sr (b+5) s5:=by
  cases q
  ·exact ⟨[],s4,rfl,by simp,h4.mono (by omega)⟩
  ·obtain ⟨r,s',x,f1,f2,hx,h'⟩:=at_next h4 (by omega) (l:=[bs [109,97,105,108],bs [100,98]]) (n:=2) rfl (by simp)
   rw [if_pos rfl,f1]
   simp only [Option.bind_some,f2]
   refine ⟨[x],s',rfl,⟨by simp,fun n hn=>?_⟩,h'⟩
   rw [List.mem_singleton.1 hn]
   simp only [List.mem_cons,List.not_mem_nil,or_false] at hx
   rcases hx with rfl|rfl<;>decide
 obtain ⟨n,s6,e6,hn,h6⟩:=zDB (s:= {Code:=s5.Code,At:=s5.At}) h5 (by omega) [0,0,1,1,2] (by simp)
 have hn2:0≤n∧n≤4:=by
  simp only [List.mem_cons,List.not_mem_nil,or_false] at hn
  omega
 obtain ⟨l,s7,e7,hl,hz,h7⟩:=zIi (nm,s1) (va,s2) (si,s3) (s5.Code,s5.At,pr) h6 (by omega) n hn2
 have h7:=h7.mono (b':=b+86) (by omega)
 obtain ⟨q2,s8,e8,h8⟩:=uH (s:= {Code:=s7.Code,At:=s7.At}) h7 (by omega) 6
 obtain ⟨br,s9,e9,hb9,h9⟩:∃(br:List Term) (s9:zD),(if q2=true then (vQ s8).bind fun x86=>(app 64 ([]:List Term) [x86.1]).bind fun x88=>some (x86.2.Code,x86.2.At,x88) else some (s8.Code,s8.At,([]:List Term)))=some (s9.Code,s9.At,br)∧(br.length≤1∧∀t∈br,t.Name.size≤20)∧Sr (b+100) s9:=by
  cases q2
  ·exact ⟨[],s8,rfl,by simp,h8.mono (by omega)⟩
  ·obtain ⟨t,s',f1,ht,h'⟩:=zFC h8 (by omega)
   rw [if_pos rfl,f1]
   simp only [Option.bind_some]
   rw [vJ (by simp) (by simp)]
   exact ⟨[t],s',rfl,⟨by simp,by simpa using ht⟩,h'.mono (by omega)⟩
 unfold zAY
 rw [e1]
 simp only [Option.bind_some,e2,e3,e4,e5,e6,e7,e8,e9]
 exact ⟨_,s9,rfl,⟨hs1,hr1,⟨by simp only; omega,hp.2⟩,⟨by simp only; omega,hz⟩,⟨by simp only; omega,hb9.2⟩⟩,h9⟩
theorem zA0 {α:Type} {z:Nat} {l m:List α} (hl:l.length≤100) (hm:m.length≤100) (hz:z≤1000):app z l m=some (l++m):=by
 refine vJ ?_ (by omega)
 exact Nat.le_trans (Nat.mul_le_mul (show l.length+m.length≤200 by omega) hz) (by decide)
theorem zN5 {α:Type} {z n:Nat} {x:α} (hz:z≤1000) (hn:n≤1000):mk z (n:Int) x=some (List.replicate n x):=by
 unfold mk
 have h:z*(n:Int).toNat ≤281474976710656:=by
  rw [Int.toNat_natCast]
  exact Nat.le_trans (Nat.mul_le_mul hz hn) (by decide)
 rw [if_pos ⟨by omega,h,by omega⟩]
 rfl
theorem zHS {b:Nat} {s:zD} (h:Sr b s) (hb:b+500≤1000000000):∃p s',zAa s=some (p,s')∧DPk 8 p∧Sr (b+200) s':=by
 obtain ⟨p,s1,e1,hp,h1⟩:=zI8 h (by omega)
 obtain ⟨n,s2,e2,_,_,h2⟩:=tN h1 (by omega) 24
 have hp8:=hp.mono
 obtain ⟨hp1,hp2,hp3,hp4,hp5⟩:=hp
 obtain ⟨_,_,q3,q4,q5⟩:=hp8
 unfold zAa
 rw [e1]
 simp only [Option.bind_some,e2]
 by_cases c0:(n==0)=true
 ·obtain ⟨y,s3,e3,hy,hy2,h3⟩:=zG7 h2 (by omega)
  rw [if_pos c0,e3]
  exact ⟨_,_,rfl,⟨hy,hy2,q3,q4,q5⟩,h3.mono (by omega)⟩
 rw [if_neg c0]
 by_cases c1:(n==1)=true
 ·obtain ⟨y,s3,e3,h3⟩:=zEh h2 (by omega)
  rw [if_pos c1,e3]
  exact ⟨_,_,rfl,⟨hp1,hp2,q3,q4,q5⟩,h3.mono (by omega)⟩
 rw [if_neg c1]
 by_cases c2:(n==2)=true
 ·obtain ⟨y,s3,e3,_,h3⟩:=zDB h2 (by omega) [0,200,201] (by simp)
  rw [if_pos c2,e3]
  exact ⟨_,_,rfl,⟨hp1,hp2,q3,q4,q5⟩,h3.mono (by omega)⟩
 rw [if_neg c2]
 by_cases c3:(n==3)=true
 ·obtain ⟨y,s3,e3,hy,hy2,h3⟩:=zG7 h2 (by omega)
  rw [if_pos c3,e3]
  simp only [Option.bind_some]
  rw [zA0 (by omega) (by simp) (by decide)]
  refine ⟨_,_,rfl,⟨hp1,hp2,⟨by simp; omega,fun x hx=>?_⟩,q4,q5⟩,h3.mono (by omega)⟩
  rcases List.mem_append.1 hx with hx|hx
  ·exact hp3.2 x hx
  ·simp only [List.mem_cons,List.not_mem_nil,or_false] at hx
   rcases hx with rfl|rfl
   ·exact hy
   ·exact hp1
 rw [if_neg c3]
 by_cases c4:(n==4)=true
 ·rw [if_pos c4,zA0 (by omega) (by simp) (by decide)]
  refine ⟨_,_,rfl,⟨hp1,hp2,q3,⟨by simp; omega,fun x hx=>?_⟩,q5⟩,h2.mono (by omega)⟩
  rcases List.mem_append.1 hx with hx|hx
  ·exact hp4.2 x hx
  ·rw [List.mem_singleton.1 hx]
   simp
 rw [if_neg c4]
 by_cases c5:(n==5)=true
 ·obtain ⟨y,s3,e3,hy,h3⟩:=zEM h2 (by omega)
  obtain ⟨z,s4,e4,hz,h4⟩:=zEM h3 (by omega)
  rw [if_pos c5,e3]
  simp only [Option.bind_some,e4]
  rw [zA0 (by omega) (by simp) (by decide)]
  refine ⟨_,_,rfl,⟨hp1,hp2,q3,⟨by simp; omega,fun x hx=>?_⟩,q5⟩,h4.mono (by omega)⟩
  rcases List.mem_append.1 hx with hx|hx
  ·exact hp4.2 x hx
  ·rw [List.mem_singleton.1 hx]
   simp [hy,hz]
 rw [if_neg c5]
 by_cases c6:(n==6)=true
 ·obtain ⟨y,s3,e3,hy,h3⟩:=zEM h2 (by omega)
  rw [if_pos c6,e3]
  simp only [Option.bind_some]
  rw [zA0 (by omega) (by simp) (by decide)]
  refine ⟨_,_,rfl,⟨hp1,hp2,q3,q4,⟨by simp; omega,fun x hx=>?_⟩⟩,h3.mono (by omega)⟩
  rcases List.mem_append.1 hx with hx|hx
  ·exact hp5.2 x hx
  ·rw [List.mem_singleton.1 hx]
   exact hy
 rw [if_neg c6]
 have hmk:=zN5 (z:=64) (n:=5) (x:=({Name:=ByteArray.empty,Low:= {A:=0,B:=0,C:=0},High:= {A:=0,B:=0,C:=0}}:Term)) (by decide) (by decide)
 have hmk:mk 64 5 ({Name:=ByteArray.empty,Low:= {A:=0,B:=0,C:=0},High:= {A:=0,B:=0,C:=0}}:Term)=_:=hmk
 have hem:(ByteArray.empty).size ≤20:=by decide
 by_cases c7:(n==7)=true
 ·rw [if_pos c7,hmk]
  refine ⟨_,_,rfl,⟨hp1,hp2,q3,q4,⟨by simp,fun x hx=>?_⟩⟩,h2.mono (by omega)⟩
  rw [(List.mem_replicate.1 hx).2]
  exact hem
 rw [if_neg c7]
 by_cases c8:(n==8)=true
 ·rw [if_pos c8,hmk]
  simp only [Option.bind_some]
  rw [zA0 (by omega) (by simp) (by decide)]
  refine ⟨_,_,rfl,⟨hp1,hp2,q3,⟨by simp; omega,fun x hx=>?_⟩,q5⟩,h2.mono (by omega)⟩
  rcases List.mem_append.1 hx with hx|hx
  ·exact hp4.2 x hx
  ·rw [List.mem_singleton.1 hx]
   refine ⟨by simp,fun t ht=>?_⟩
   rw [(List.mem_replicate.1 ht).2]
   exact hem
 rw [if_neg c8]
 exact ⟨_,_,rfl,⟨hp1,hp2,q3,q4,q5⟩,h2.mono (by omega)⟩
def DCt (c:List Pack):Prop:=c.length≤25∧∀p∈c,DPk 8 p
theorem DCt.cat {c:List Pack} (h:DCt c):Cat c:=⟨by have:=h.1; omega,fun p hp=>(h.2 p hp).sm⟩
theorem zHU {b:Nat} {s:zD} (h:Sr b s) (hb:b+3000≤1000000000) (n:Int) (hn:0≤n∧n≤12):
  ∃l s',zBv (s.Code,s.At,([]:List Pack),n)=some (s'.Code,s'.At,l)∧l.length≤12∧(∀p∈l,DPk 8 p)∧Sr (b+1200) s':=by
 obtain ⟨t,e2,l,s2,rfl,hl,hz,h2⟩:=wJ (b:=zAA) (fun i q=>∃(l:List Pack) (s':zD),q=(s'.Code,s'.At,l,n-(i:Int))∧l.length≤i∧(∀p∈l,DPk 8 p)∧Sr (b+100*i) s') n.toNat
  (fun t=>∃(l:List Pack) (s':zD),t=(s'.Code,s'.At,l)∧l.length≤n.toNat∧(∀p∈l,DPk 8 p)∧Sr (b+100*n.toNat) s') (by
  rintro i q hi ⟨l,s',rfl,hl,hz,hs⟩
  unfold zAA
  simp only
  rw [if_pos (by simp; omega)]
  obtain ⟨p,u,f1,hp,g1⟩:=zI8 hs (by omega)
  have f1':zAY {Code:=s'.Code,At:=s'.At}=some (p,u):=f1
  rw [f1']
  simp only [Option.bind_some]
  rw [zH2 l _ _ (by omega)]
  simp only [Option.bind_some]
  rw [uP (x:=n-(i:Int)-1) (by omega) (by omega)]
  by_cases hf:zK0 l p.Name p.Version<0
  ·rw [if_pos (by simpa using hf),zA0 (by omega) (by simp) (by decide)]
   refine .inl ⟨_,rfl,l++[p],u,by rw [show n-(i:Int)-1=n-((i+1:Nat):Int) by omega],by simp; omega,fun x hx=>?_,g1.mono (by omega)⟩
   rcases List.mem_append.1 hx with hx|hx
   ·exact hz x hx
   ·rw [List.mem_singleton.1 hx]; exact hp.mono
  ·rw [if_neg (by simpa using hf)]
   exact .inl ⟨_,rfl,l,u,by rw [show n-(i:Int)-1=n-((i+1:Nat):Int) by omega],by omega,hz,g1.mono (by omega)⟩) (by
  rintro q ⟨l,s',rfl,hl,hz,hs⟩
  unfold zAA
  simp only
  rw [if_neg (by simp; omega)]
  exact ⟨_,rfl,l,s',rfl,hl,hz,hs⟩) n.toNat 0 (s.Code,s.At,[],n) (by omega) ⟨[],s,by simp,by simp,by simp,h⟩
 exact ⟨l,s2,e2,by omega,hz,h2.mono (by omega)⟩
theorem zI6 {b:Nat} {s:zD} (h:Sr b s) (hb:b+5000≤1000000000):∃c s',zAR s=some (c,s')∧DCt c∧Sr (b+2000) s':=by
 obtain ⟨x,s1,e1,x0,x1,h1⟩:=tN h (by omega) 12
 obtain ⟨n,s2,e2,hn,h2⟩:=zDB h1 (by omega) [3,4,5,6,7,8,x] (by simp)
 have hn2:0≤n∧n≤12:=by
  have:=x1 (by omega)
  simp only [List.mem_cons,List.not_mem_nil,or_false] at hn
  omega
 obtain ⟨l,s3,e3,hl,hz,h3⟩:=zHU h2 (by omega) n hn2
 obtain ⟨k,s4,e4,_,_,h4⟩:=tN (s:= {Code:=s3.Code,At:=s3.At}) h3 (by omega) 40
 unfold zAR
 rw [e1]
 simp only [Option.bind_some,e2,e3,e4]
 by_cases c0:(k==0)=true
 ·obtain ⟨p,s5,e5,hp,h5⟩:=zHS h4 (by omega)
  rw [if_pos c0,e5]
  simp only [Option.bind_some]
  rw [zA0 (by omega) (by simp) (by decide)]
  refine ⟨l++[p],s5,rfl,⟨by simp; omega,fun y hy=>?_⟩,h5.mono (by omega)⟩
  rcases List.mem_append.1 hy with hy|hy
  ·exact hz y hy
  ·rw [List.mem_singleton.1 hy]; exact hp
 rw [if_neg c0]
 by_cases c1:(k==1)=true
 ·rw [if_pos c1]
  by_cases hp:((l.length:Int)>0)
  ·rw [if_pos (by simpa using hp),show (0:Int)=((0:Nat):Int) from rfl,zI (by omega)]
   simp only [Option.bind_some]
   rw [zA0 (by omega) (by simp) (by decide)]
   refine ⟨l++[l[0]],s4,rfl,⟨by simp; omega,fun y hy=>?_⟩,h4.mono (by omega)⟩
   rcases List.mem_append.1 hy with hy|hy
   ·exact hz y hy
   ·rw [List.mem_singleton.1 hy]; exact hz _ (List.getElem_mem _)
  ·rw [if_neg (by simpa using hp)]
   exact ⟨l,s4,rfl,⟨by omega,hz⟩,h4.mono (by omega)⟩
 rw [if_neg c1]
 by_cases c2:(k==2)=true
 ·have hmk:=zN5 (z:=120) (n:=25) (x:=({Name:=ByteArray.empty,Version:= {A:=0,B:=0,C:=0},Size:=0,Provides:=[],Needs:=[],Bars:=[]}:Pack)) (by decide) (by decide)
  have hmk:mk 120 25 ({Name:=ByteArray.empty,Version:= {A:=0,B:=0,C:=0},Size:=0,Provides:=[],Needs:=[],Bars:=[]}:Pack)=_:=hmk
  rw [if_pos c2,hmk]
  refine ⟨_,s4,rfl,⟨by simp,fun y hy=>?_⟩,h4.mono (by omega)⟩
  rw [(List.mem_replicate.1 hy).2]
  exact ⟨show (ByteArray.empty).size ≤20 by decide,show ByteArray.empty≠zKj by decide,by simp,by simp,by simp⟩
 rw [if_neg c2]
 exact ⟨l,s4,rfl,⟨by omega,hz⟩,h4.mono (by omega)⟩
theorem zK8 (xs:List Int) (p:Int→Bool) {b:(List Int×Int)→Option (Lp (List Int×Int) (List Int))} (hstep:∀(i:Nat) (hi:i<xs.length) (acc:List Int),acc.length≤i→b (acc,(i:Int))=some (.go (if p xs[i] then acc++[xs[i]] else acc,((i+1:Nat):Int))))
  (hend:∀acc:List Int,b (acc,(xs.length:Int))=some (.done acc)):loop b (([]:List Int),0)=some (xs.filter p):=by
 obtain ⟨t,e,rfl⟩:=wJ (b:=b) (fun i s=>s=((xs.take i).filter p,(i:Int))) xs.length (fun t=>t=xs.filter p) (by
  rintro i s hi rfl
  refine .inl ⟨_,hstep i hi _ (Nat.le_trans (List.length_filter_le _ _) (by simp; omega)),?_⟩
  rw [List.take_succ_eq_append_getElem hi,List.filter_append]
  cases h:p xs[i]<;>simp [h]) (by
  rintro s rfl
  rw [List.take_length]
  exact ⟨_,hend _,rfl⟩) xs.length 0 ([],0) (by omega) (by simp)
 exact e
theorem zFM {α β:Type} {f:Nat→List β→α→List β} {P:β→Prop}:∀(xs:List α) (i:Nat) (l:List β),(∀i l x,x∈xs→(∀y∈l,P y)→∀y∈f i l x,P y)→(∀y∈l,P y)→∀y∈foldI f i xs l,P y
 |[],_,_,_,h=>h
 |x::xs,i,l,hf,h=>zFM xs (i+1) (f i l x) (fun i l y hy=>hf i l y (by simp [hy])) (hf i l x (by simp) h)
theorem zIU (c:List Pack) (a:List Int):∀y∈zDD c a,y.Pack∈a:=by
 unfold zDD
 refine zFM a 0 [] (fun i l k hk hl=>?_) (by simp)
 have key:∀(q:Bool) (l:List zP) (y:zP),y.Pack=k→(∀z∈l,z.Pack∈a)→∀z∈(if q then l++[y] else l),z.Pack∈a:=by
  intro q l y hy hl z hz
  cases q
  ·exact hl z hz
  ·rcases List.mem_append.1 hz with h|h
   ·exact hl z h
   ·rw [List.mem_singleton.1 h,hy]; exact hk
 unfold fS
 refine zFM _ 0 _ (fun i l x _ hl=>?_) (zFM _ 0 _ (fun i l x _ hl=>?_) ?_)
 ·unfold fB; exact key _ _ _ rfl hl
 ·unfold fN; exact key _ _ _ rfl hl
 ·unfold fD; exact key _ _ _ rfl hl
theorem zJB {c:List Pack} (hc:Cat c) (x19:Bool×zD):∀(n:Nat) (a:List Int),a.length≤n→n≤1000→Places c a→∃r,loop (zB9 c x19) a=some r∧r.Sublist a
 |n,a,hn,h1,hp=>by
  have e0:=zGT hc hp (by omega)
  rw [vH]
  unfold zB9
  rw [e0]
  simp only [Option.bind_some]
  by_cases hl:0< (zDD c a).length
  ·rw [if_pos (by simpa using hl),show (0:Int)=((0:Nat):Int) from rfl,zI hl]
   simp only [Option.bind_some]
   have hm:=zIU c a _ (List.getElem_mem hl)
   generalize (zDD c a)[0]=f at hm
   have ef:jS c x19 a f (([]:List Int),((0:Nat):Int))=some (a.filter fun k=>k !=f.Pack):=by
    unfold jS
    refine zK8 a (fun k=>k !=f.Pack) (fun i hi acc hacc=>?_) (fun acc=>?_)
    ·unfold zB2
     simp only
     rw [if_pos (by simp; omega),zI hi]
     simp only [Option.bind_some]
     rw [zM (by omega)]
     cases a[i] !=f.Pack
     ·rfl
     ·rw [if_pos rfl,vJ (by simp; omega) (by simp; omega)]
      rfl
    ·unfold zB2
     simp only
     rw [if_neg (by simp)]
   rw [ef]
   simp only [Option.bind_some,Lp.elim]
   have hlt:(a.filter fun k=>k !=f.Pack).length <a.length:=by
    refine Nat.lt_of_le_of_ne (List.length_filter_le _ _) fun e=>?_
    have:=List.length_filter_eq_length_iff.1 e _ hm
    simp at this
   have hs:(a.filter fun k=>k !=f.Pack).Sublist a:=List.filter_sublist
   cases n with
   |zero=>omega
   |succ n=>
    obtain ⟨r,h2,h3⟩:=zJB hc x19 n (a.filter fun k=>k !=f.Pack) (by omega) (by omega) (fun k hk=>hp k (hs.subset hk))
    exact ⟨r,h2,h3.trans hs⟩
  ·rw [if_neg (by simpa using hl)]
   exact ⟨a,rfl,List.Sublist.refl _⟩
theorem zIk {b:Nat} {s:zD} (h:Sr b s) (hb:b+1000≤1000000000) {c:List Pack} (hc:Cat c) (hl:c.length≤25):∃a s',vX s c=some (a,s')∧a.length≤26∧Sr (b+100) s':=by
 obtain ⟨t,e1,l,s1,rfl,hl1,hp1,h1⟩:=wJ (b:=zAk c) (fun i q=>∃(l:List Int) (s':zD),q=(s'.Code,s'.At,l,(i:Int))∧l.length≤i∧Places c l∧Sr (b+i) s') c.length
  (fun t=>∃(l:List Int) (s':zD),t=(s'.Code,s'.At,l)∧l.length≤c.length∧Places c l∧Sr (b+c.length) s') (by
  rintro i q hi ⟨l,s',rfl,hl,hz,hs⟩
  unfold zAk
  simp only
  rw [if_pos (by simp; omega)]
  obtain ⟨q,u,f1,g1⟩:=uH (s:= {Code:=s'.Code,At:=s'.At}) hs (by omega) 3
  rw [f1]
  simp only [Option.bind_some]
  rw [zM (by omega)]
  cases q
  ·exact .inl ⟨_,rfl,l,u,rfl,by omega,hz,g1⟩
  ·rw [if_pos rfl,zA0 (by omega) (by simp) (by decide)]
   refine .inl ⟨_,rfl,l++[(i:Int)],u,rfl,by simp; omega,fun k hk=>?_,g1⟩
   rcases List.mem_append.1 hk with hk|hk
   ·exact hz k hk
   ·rw [List.mem_singleton.1 hk]; omega) (by
  rintro q ⟨l,s',rfl,hl,hz,hs⟩
  unfold zAk
  simp only
  rw [if_neg (by simp)]
  exact ⟨_,rfl,l,s',rfl,hl,hz,hs⟩) c.length 0 (s.Code,s.At,[],0) (by omega) ⟨[],s,rfl,by simp,by intro k hk; simp at hk,h⟩
 have e1':zAD c (s.Code,s.At,([]:List Int),0)=some (s1.Code,s1.At,l):=e1
 obtain ⟨q,s2,e2,h2⟩:=uH (s:= {Code:=s1.Code,At:=s1.At}) h1 (by omega) 2
 obtain ⟨a,e3,ha⟩:∃a:List Int,((if q=true then (wK c).bind fun x22=>some (x22==0) else some false).bind fun v24=>if v24=true then (jQ c (q,s2) l).bind fun v81=>some v81 else some l)=some a∧a.length≤25:=by
  cases q
  ·exact ⟨l,rfl,by omega⟩
  ·rw [if_pos rfl,zDR c hc]
   simp only [Option.bind_some]
   cases CF c==0
   ·exact ⟨l,rfl,by omega⟩
   ·rw [if_pos rfl]
    obtain ⟨r,e,hs⟩:=zJB hc (true,s2) 25 l (by omega) (by omega) hp1
    have e:jQ c (true,s2) l=some r:=e
    rw [e]
    exact ⟨r,rfl,by have:=hs.length_le; omega⟩
 obtain ⟨q3,s3,e4,h3⟩:=uH h2 (by omega) 24
 unfold vX
 rw [e1']
 simp only [Option.bind_some,e2]
 rw [←Option.bind_assoc,e3]
 simp only [Option.bind_some,e4]
 cases q3
 ·exact ⟨a,s3,rfl,by omega,h3.mono (by omega)⟩
 ·obtain ⟨x,s4,e5,_,h4⟩:=zDB h3 (by omega) [(c.length:Int),(-1),0] (by simp)
  rw [if_pos rfl,e5]
  simp only [Option.bind_some]
  rw [zA0 (by omega) (by simp) (by decide)]
  exact ⟨a++[x],s4,rfl,by simp; omega,h4.mono (by omega)⟩
theorem zJ5 {b:Nat} {s:zD} (h:Sr b s) (hb:b+1000≤1000000000) {c:List Pack} (hl:c.length≤25):∃l s',zAj s c=some (l,s')∧l.length≤3∧Sr (b+10) s':=by
 obtain ⟨n,s1,e1,n0,n1,h1⟩:=tN h (by omega) 3
 have hn:=n1 (by omega)
 have key:∀(k:Nat) (l:List Term) (s':zD) (i:Nat),i+k=(1+n).toNat →l.length≤i→Sr (b+1+i) s'→∃l2 s2,loop (jF c) (s'.Code,s'.At,l,(k:Int))=some (s2.Code,s2.At,l2)∧l2.length≤3∧Sr (b+10) s2:=by
  intro k
  induction k with
  |zero=>
   intro l s' i hi hl1 hs
   refine ⟨l,s',?_,by omega,hs.mono (by omega)⟩
   rw [vH]
   unfold jF
   rfl
  |succ k ih=>
   intro l s' i hi hl1 hs
   by_cases h0:c.length=0
   ·have hb:jF c (s'.Code,s'.At,l,((k+1:Nat):Int))=some (.done (s'.Code,s'.At,l)):=by
     have hd:decide ((c.length:Int)>0)=false:=decide_eq_false (by omega)
     unfold jF
     rw [hd]
     simp
    rw [vH,hb]
    exact ⟨l,s',rfl,by omega,hs.mono (by omega)⟩
   ·obtain ⟨r,u,f1,r0,r1,g1⟩:=tN (s:= {Code:=s'.Code,At:=s'.At}) hs (by omega) (c.length:Int)
    have hr:=r1 (by omega)
    obtain ⟨j,rfl⟩:=Int.eq_ofNat_of_zero_le r0
    have hj:j<c.length:=by omega
    have hb:jF c (s'.Code,s'.At,l,((k+1:Nat):Int))=some (.go (u.Code,u.At,l++[({Name:=c[j].Name,Low:= {A:=0,B:=0,C:=0},High:= {A:=1000,B:=0,C:=0}}:Term)],(k:Int))):=by
     unfold jF
     simp only
     have hd:decide ((c.length:Int)>0)=true:=by simp; omega
     rw [if_pos (decide_eq_true (by omega)),hd]
     simp only [Option.bind_some,if_true]
     rw [f1]
     simp only [Option.bind_some]
     rw [zI hj]
     unfold uJ zAt
     simp only [Option.bind_some]
     rw [zA0 (by omega) (by simp) (by decide),uP (x:=((k+1:Nat):Int)-1) (by omega) (by omega),show ((k+1:Nat):Int)-1=(k:Int) by omega]
     rfl
    rw [vH,hb]
    exact ih (l++[({Name:=c[j].Name,Low:= {A:=0,B:=0,C:=0},High:= {A:=1000,B:=0,C:=0}}:Term)]) u (i+1) (by omega) (by simp; omega) g1
 obtain ⟨l2,s2,e2,hl2,h2⟩:=key (1+n).toNat [] s1 0 (by omega) (by simp) h1
 unfold zAj
 rw [e1]
 simp only [Option.bind_some]
 rw [uP (x:=1+n) (by omega) (by omega)]
 have e2':zDj c (s1.Code,s1.At,([]:List Term),1+n)=some (s2.Code,s2.At,l2):=by
  rw [show 1+n=((1+n).toNat :Int) by omega]
  exact e2
 rw [e2']
 exact ⟨l2,s2,rfl,hl2,h2⟩
theorem zGh {c:List Pack} (hc:Cat c) {l:List Term} (hl:l.length≤1048576) {k:Int} (hk:0≤k∧k<c.length):∃r,uQ c l k=some r:=by
 have key:=xX l (fun _ t=>if zBy (pat c k) t then some true else none) (b:=zAM c l k) (by
  intro i hi
  unfold zAM
  rw [if_pos (by simp; omega),zI hi,(vR hk).1]
  simp only [Option.bind_some,zGe _ _ (hc.zMC hk)]
  rw [zM (by omega)]
  cases zBy (pat c k) l[i]<;>rfl) (by
  unfold zAM
  rw [if_neg (by simp)])
 unfold uQ zBw
 rw [key,zAo]
 split<;>exact ⟨_,rfl⟩
theorem zKT {c:List Pack} (hc:Cat c) {a:List Int} (hp:Places c a) (ha:a.length≤1048576) {k:Int} (hk:0≤k∧k<c.length):∃r,zDx c a k=some r:=by
 obtain ⟨t,e,_⟩:=wJ (b:=zCJ c a k) (fun i s=>s=(i:Int)) a.length (fun _=>True) (by
  rintro i s hi rfl
  have hq:=hp _ (List.getElem_mem hi)
  obtain ⟨r1,f1⟩:=zGh hc (hc.bars hq) hk
  obtain ⟨r2,f2⟩:=zGh hc (hc.bars hk) hq
  unfold zCJ
  rw [if_pos (by simp; omega),zI hi]
  simp only [Option.bind_some,(vR hq).1,(vR hk).1,f1,f2]
  rw [zM (by omega)]
  cases seq (pat c a[i]).Name (pat c k).Name
  ·cases r1
   ·cases r2
    ·exact .inl ⟨_,rfl,rfl⟩
    ·exact .inr ⟨_,rfl,trivial⟩
   ·exact .inr ⟨_,rfl,trivial⟩
  ·exact .inr ⟨_,rfl,trivial⟩) (by
  rintro s rfl
  unfold zCJ
  rw [if_neg (by simp)]
  exact ⟨_,rfl,trivial⟩) a.length 0 0 (by omega) rfl
 have e:zDe c a k 0=some t:=e
 unfold zDx
 rw [e]
 cases t<;>exact ⟨_,rfl⟩
theorem zJS {c:List Pack} {l:List Int} (hl:l.length≤1048576) {x y:Int} (hx:0≤x∧x<c.length) (hy:0≤y∧y<c.length):∃r,zCF c l x y=some r:=by
 unfold zCF
 rw [zFq _ _ hl,zFq _ _ hl]
 simp only [Option.bind_some,(vR hx).1,(vR hy).1,zBb]
 split
 ·exact ⟨_,rfl⟩
 ·split<;>exact ⟨_,rfl⟩
theorem zHs {c:List Pack} (hc:Cat c) {asks:List Term} (hk:asks.length≤1000) {a:List Int} (hp:Places c a) (ha:a.length≤1000):∃l,zB3 c asks a=some l∧l.length≤1048576:=by
 obtain ⟨t,e1,h1⟩:=wJ (b:=zBo c asks a) (fun i s=>s=(i:Int)) asks.length (fun t=>∀l,t= .ret l→l.length≤1048576) (by
  rintro i s hi rfl
  unfold zBo
  rw [if_pos (by simp; omega),zM (by omega),zEi (Nat.le_succ i) (by omega)]
  simp only [Option.bind_some]
  rw [zHD hc hp (by omega) _ (by simp; omega)]
  simp only [Option.bind_some]
  generalize zLC c a _=m
  cases m
  ·refine .inr ⟨_,rfl,?_⟩
   rintro l ⟨⟩
   simp; omega
  ·exact .inl ⟨_,rfl,rfl⟩) (by
  rintro s rfl
  unfold zBo
  rw [if_neg (by simp)]
  exact ⟨_,rfl,by rintro l ⟨⟩⟩) asks.length 0 0 (by omega) rfl
 have e1:zBV c asks a 0=some t:=e1
 obtain ⟨u,e2,h2⟩:=wJ (b:=zBh c a) (fun i s=>s=(i:Int)) a.length (fun t=>∀l,t= .ret l→l.length≤1048576) (by
  rintro i s hi rfl
  have hq:=hp _ (List.getElem_mem hi)
  have hN:=hc.needs hq
  obtain ⟨v,e3,h3⟩:=wJ (b:=zBm c a (i:Int) (pat c a[i])) (fun j s=>s=(j:Int)) (pat c a[i]).Needs.length (fun t=>∀l,t= .ret l→l.length≤1048576) (by
   rintro j s hj rfl
   have hcl:=hc.clause hq (List.getElem_mem hj)
   unfold zBm
   rw [if_pos (by simp; omega),zM (by omega),zI hj]
   simp only [Option.bind_some]
   rw [zHD hc hp (by omega) _ hcl]
   simp only [Option.bind_some]
   generalize zLC c a _=m
   cases m
   ·refine .inr ⟨_,rfl,?_⟩
    rintro l ⟨⟩
    exact hcl
   ·exact .inl ⟨_,rfl,rfl⟩) (by
   rintro s rfl
   unfold zBm
   rw [if_neg (by simp)]
   exact ⟨_,rfl,by rintro l ⟨⟩⟩) (pat c a[i]).Needs.length 0 0 (by omega) rfl
  have e3:zBD c a (i:Int) (pat c a[i]) 0=some v:=e3
  unfold zBh
  rw [if_pos (by simp; omega),zM (by omega),zI hi]
  simp only [Option.bind_some,(vR hq).1,e3]
  cases v with
  |ret l=>exact .inr ⟨_,rfl,by rintro l' ⟨⟩; exact h3 l rfl⟩
  |nxt _=>exact .inl ⟨_,rfl,rfl⟩) (by
  rintro s rfl
  unfold zBh
  rw [if_neg (by simp)]
  exact ⟨_,rfl,by rintro l ⟨⟩⟩) a.length 0 0 (by omega) rfl
 have e2:zBW c a 0=some u:=e2
 unfold zB3
 rw [e1,e2]
 cases t with
 |ret l=>exact ⟨l,rfl,h1 l rfl⟩
 |nxt _=>
  cases u with
  |ret l=>exact ⟨l,rfl,h2 l rfl⟩
  |nxt _=>exact ⟨[],rfl,by simp⟩
theorem zI7 {c:List Pack} (hc:Cat c) (hcl:c.length≤25) {cl:List Term} (h1:cl.length≤1048576) {a d lk:List Int} (hp:Places c a) (ha:a.length≤1048576) (hd:d.length≤1048576) (hlk:lk.length≤1048576):
  ∃l,tO c cl a d lk=some l∧∀k∈l,(0≤k∧k<c.length)∧k∉a:=by
 obtain ⟨t,e,ht⟩:=wJ (b:=jI c cl a d lk) (fun i s=>s.2=(i:Int)∧s.1.length≤i∧∀k∈s.1,(0≤k∧k<c.length)∧k∉a) c.length (fun t=>∀k∈t,(0≤k∧k<c.length)∧k∉a) (by
  rintro i ⟨out,j⟩ hi ⟨hj,hol,ho⟩
  simp only at hj hol ho
  subst hj
  have hki:0≤(i:Int)∧(i:Int)<c.length:=by omega
  obtain ⟨g,eg,_⟩:=wJ (b:=jL c cl a d lk (out,(i:Int))) (fun j s=>s.2=(j:Int)) cl.length (fun _=>True) (by
   rintro j ⟨q,j'⟩ hj hj'
   simp only at hj'
   subst hj'
   unfold jL
   simp only
   rw [if_pos (by simp; omega),(vR hki).1,zI hj]
   simp only [Option.bind_some,zGe _ _ (hc.zMC hki)]
   rw [zM (by omega)]
   cases q
   ·exact .inl ⟨_,rfl,rfl⟩
   ·exact .inl ⟨_,rfl,rfl⟩) (by
   rintro ⟨q,j'⟩ hj'
   simp only at hj'
   subst hj'
   unfold jL
   simp only
   rw [if_neg (by simp)]
   exact ⟨_,rfl,trivial⟩) cl.length 0 (false,0) (by omega) rfl
  have eg:jZ c cl a d lk (out,(i:Int)) (false,0)=some g:=eg
  obtain ⟨ft,ef⟩:=zKT hc hp ha hki
  have ins:∀n:Nat,n≤out.length→∃v:Nat,v≤n∧vT c cl a d lk (out,(i:Int)) (n:Int)=some (v:Int):=by
   intro n
   induction n with
   |zero=>
    intro _
    refine ⟨0,Nat.le_refl _,?_⟩
    unfold vT
    rw [vH]
    unfold zAy
    rfl
   |succ n ih=>
    intro hn
    have hq:=(ho _ (List.getElem_mem (show n<out.length by omega))).1
    obtain ⟨r,er⟩:=zJS (l:=lk) hlk hki hq
    obtain ⟨v,hv,ev⟩:=ih (by omega)
    unfold vT at ev ⊢
    rw [vH]
    unfold zAy
    simp only
    rw [if_pos (decide_eq_true (by omega)),uP (x:=((n+1:Nat):Int)-1) (by omega) (by omega),show ((n+1:Nat):Int)-1=(n:Int) by omega,zI (show n<out.length by omega)]
    simp only [Option.bind_some,er]
    cases r
    ·exact ⟨n+1,Nat.le_refl _,rfl⟩
    ·exact ⟨v,by omega,ev⟩
  unfold jI
  simp only
  rw [if_pos (by simp; omega),eg,zFq _ _ ha,zFq _ _ hd,ef,zM (by omega)]
  simp only [Option.bind_some]
  by_cases hg:g=true
  ·subst hg
   by_cases hia:(i:Int)∈a
   ·have:decide ((i:Int)∈a)=true:=by simpa using hia
    rw [this]
    exact .inl ⟨_,rfl,rfl,by simp only; omega,ho⟩
   ·have:decide ((i:Int)∈a)=false:=by simpa using hia
    rw [this]
    cases decide ((i:Int)∈d)
    ·cases ft
     ·exact .inl ⟨_,rfl,rfl,by simp only; omega,ho⟩
     ·obtain ⟨v,hv,ev⟩:=ins out.length (Nat.le_refl _)
      have l1:zE7 out 0 (v:Int)=some (out.take v):=by
       have:=zEi (xs:=out) (l:=0) (h:=v) (by omega) hv
       simpa using this
      have l2:zE7 out (v:Int) (out.length:Int)=some (out.drop v):=by
       have:=zEi (xs:=out) (l:=v) (h:=out.length) hv (Nat.le_refl _)
       rw [this,List.take_of_length_le (by simp)]
      simp only [Bool.not_true,Bool.false_eq_true,if_false,Option.bind_some,ev,l1,l2]
      rw [zA0 (by simp) (by simp; omega) (by decide)]
      simp only [Option.bind_some]
      rw [zA0 (by simp; omega) (by simp) (by decide)]
      simp only [Option.bind_some]
      rw [zA0 (by simp; omega) (by simp; omega) (by decide)]
      refine .inl ⟨_,rfl,rfl,by simp; omega,fun k hk=>?_⟩
      simp only [List.nil_append,List.mem_append,List.mem_singleton] at hk
      rcases hk with (hk|hk)|hk
      ·exact ho k (List.mem_of_mem_take hk)
      ·subst hk; exact ⟨hki,hia⟩
      ·exact ho k (List.mem_of_mem_drop hk)
    ·exact .inl ⟨_,rfl,rfl,by simp only; omega,ho⟩
  ·have:g=false:=by simpa using hg
   subst this
   exact .inl ⟨_,rfl,rfl,by simp only; omega,ho⟩) (by
  rintro ⟨out,j⟩ ⟨hj,hol,ho⟩
  simp only at hj hol ho
  subst hj
  unfold jI
  simp only
  rw [if_neg (by simp)]
  exact ⟨_,rfl,ho⟩) c.length 0 (([]:List Int),0) (by omega) ⟨rfl,by simp,by simp⟩
 have e:jV c cl a d lk (([]:List Int),0)=some t:=e
 unfold tO
 rw [e]
 exact ⟨t,rfl,ht⟩
theorem zGV (fs:List yU) (h:fs.length≤100):zB1 fs=some (fs.map (·.Pack)):=by
 obtain ⟨t,e,rfl⟩:=wJ (b:=zBp fs) (fun i s=>s=((fs.take i).map (·.Pack),(i:Int))) fs.length (fun t=>t=fs.map (·.Pack)) (by
  rintro i s hi rfl
  unfold zBp
  simp only
  rw [if_pos (by simp; omega),zI hi]
  simp only [Option.bind_some]
  rw [zA0 (by simp; omega) (by simp) (by decide),zM (by omega)]
  refine .inl ⟨_,rfl,?_⟩
  rw [List.take_succ_eq_append_getElem hi,List.map_append]
  rfl) (by
  rintro s rfl
  rw [List.take_length]
  unfold zBp
  simp only
  rw [if_neg (by simp)]
  exact ⟨_,rfl,rfl⟩) fs.length 0 (([]:List Int),0) (by omega) (by simp)
 have e:zBN fs (([]:List Int),0)=some _:=e
 unfold zB1
 rw [e]
 rfl
theorem zGH (a:List Int) (hn:a.Nodup) (hl:a.length≤100):∃r,zB7 a=some r∧r.Pairwise (· < ·)∧(∀x,x∈r↔x∈a)∧r.length=a.length:=by
 obtain ⟨t,e,h1,h2,h3⟩:=wJ (b:=zBi a) (fun i s=>s.2=(i:Int)∧s.1.Pairwise (· < ·)∧(∀x,x∈s.1↔x∈a.take i)∧s.1.length=i) a.length (fun t=>t.Pairwise (· < ·)∧(∀x,x∈t↔x∈a)∧t.length=a.length) (by
  rintro i ⟨o,j⟩ hi ⟨hj,h1,h2,h3⟩
  simp only at hj h1 h2 h3
  subst hj
  have hni:a[i]∉o:=by
   rw [h2]
   intro hm
   obtain ⟨k,hk,e⟩:=List.mem_take_iff_getElem.1 hm
   have hne:=List.pairwise_iff_getElem.1 hn k i (by omega) hi (by omega)
   exact hne e
  obtain ⟨r,er,g1,g2,g3⟩:=zLI o a[i] h1 hni (by omega)
  unfold zBi
  simp only
  rw [if_pos (by simp; omega),zI hi]
  simp only [Option.bind_some,er]
  rw [zM (by omega)]
  refine .inl ⟨_,rfl,rfl,g1,fun x=>?_,by simp only; omega⟩
  simp only
  rw [g2,h2,List.take_succ_eq_append_getElem hi]
  simp only [List.mem_append,List.mem_singleton]) (by
  rintro ⟨o,j⟩ ⟨hj,h1,h2,h3⟩
  simp only at hj h1 h2 h3
  subst hj
  rw [List.take_length] at h2
  unfold zBi
  simp only
  rw [if_neg (by simp)]
  exact ⟨_,rfl,h1,h2,h3⟩) a.length 0 (([]:List Int),0) (by omega) ⟨rfl,by simp,by simp,rfl⟩
 have e:zBL a (([]:List Int),0)=some t:=e
 unfold zB7
 rw [e]
 exact ⟨t,rfl,h1,h2,h3⟩
def zNy (c:List Pack) (r:SolveResult):Prop:=r.Set.Pairwise (· < ·)∧Places c r.Set∧r.Set.length≤60
theorem zJT {c:List Pack} (hc:Cat c) (hcl:c.length≤25) {asks:List Term} (hk:asks.length≤1000) {lk:List Int} (hlk:lk.length≤1048576):∀(m n:Nat) (fs:List yU) (d:List Int),2*(60-n)+fs.length=m→n≤60→m≤120→(fs.map (·.Pack)).Nodup →Places c (fs.map (·.Pack))→fs.length≤n→
  (∀f∈fs,f.Denied.length+m≤120)→d.length+m≤120→∃r:SolveResult,loop (zBR c asks lk 60) (fs,d,(n:Int))=some (.ret r)∧zNy c r:=by
 intro m
 induction m with
 |zero=>
  intro n fs d hm hn _ hnd hpl hfn hfd hdd
  have hf0:fs=[]:=List.length_eq_zero_iff.1 (by omega)
  subst hf0
  have hn60:n=60:=by omega
  subst hn60
  obtain ⟨cl,e1,hcl1⟩:=zHs hc hk hpl (by simp)
  obtain ⟨l,e2,hl⟩:=zI7 hc hcl hcl1 hpl (by simp) (show d.length≤1048576 by omega) hlk
  rw [vH]
  unfold zBR
  simp only
  rw [zGV [] (by simp)]
  simp only [Option.bind_some,e1]
  by_cases h0:((cl.length:Int)==0)=true
  ·obtain ⟨r,e3,g1,g2,g3⟩:=zGH _ hnd (by simp)
   rw [if_pos h0,e3]
   exact ⟨_,rfl,g1,fun k hk=>hpl k ((g2 k).1 hk),by simp only; rw [g3]; simp⟩
  ·rw [if_neg h0,e2]
   simp only [Option.bind_some]
   by_cases h1:(l.length:Int)>0
   ·rw [if_pos (by simpa using h1)]
    exact ⟨_,rfl,by simp [zNy,Places]⟩
   ·rw [if_neg (by simpa using h1)]
    exact ⟨_,rfl,by simp [zNy,Places]⟩
 |succ m ih=>
  intro n fs d hm hn hm2 hnd hpl hfn hfd hdd
  obtain ⟨cl,e1,hcl1⟩:=zHs hc hk hpl (by simp; omega)
  obtain ⟨l,e2,hl⟩:=zI7 hc hcl hcl1 hpl (by simp; omega) (show d.length≤1048576 by omega) hlk
  rw [vH]
  unfold zBR
  simp only
  rw [zGV fs (by omega)]
  simp only [Option.bind_some,e1]
  by_cases h0:((cl.length:Int)==0)=true
  ·obtain ⟨r,e3,g1,g2,g3⟩:=zGH _ hnd (by simp; omega)
   rw [if_pos h0,e3]
   exact ⟨_,rfl,g1,fun k hk=>hpl k ((g2 k).1 hk),by simp only; rw [g3]; simp; omega⟩
  ·rw [if_neg h0,e2]
   simp only [Option.bind_some]
   by_cases h1:(l.length:Int)>0
   ·rw [if_pos (by simpa using h1)]
    by_cases h60:((n:Int)==60)=true
    ·rw [if_pos h60]
     exact ⟨_,rfl,by simp [zNy,Places]⟩
    ·have hn60:n≠60:=fun e=>h60 (by rw [e]; rfl)
     obtain ⟨hx1,hx2⟩:=hl _ (List.getElem_mem (show 0<l.length by omega))
     rw [if_neg h60,show (0:Int)=((0:Nat):Int) from rfl,zI (show 0<l.length by omega)]
     simp only [Option.bind_some]
     rw [zA0 (by omega) (by simp) (by decide),zM (by omega)]
     simp only [Option.bind_some,Lp.elim]
     refine ih (n+1) (fs++[{Pack:=l[0],Denied:=d}]) d (by simp; omega) (by omega) (by omega) ?_ ?_ (by simp; omega) ?_ (by omega)
     ·rw [List.map_append,List.nodup_append]
      refine ⟨hnd,by simp,fun x hx y hy=>?_⟩
      simp only [List.map_cons,List.map_nil,List.mem_singleton] at hy
      subst hy
      intro e
      subst e
      exact hx2 hx
     ·intro k hk
      rw [List.map_append,List.mem_append] at hk
      rcases hk with hk|hk
      ·exact hpl k hk
      ·simp only [List.map_cons,List.map_nil,List.mem_singleton] at hk
       subst hk
       exact hx1
     ·intro f hf
      rcases List.mem_append.1 hf with hf|hf
      ·have:=hfd f hf; omega
      ·rw [List.mem_singleton.1 hf]; simp only; omega
   ·rw [if_neg (by simpa using h1)]
    by_cases hf0:((fs.length:Int)==0)=true
    ·rw [if_pos hf0]
     exact ⟨_,rfl,by simp [zNy,Places]⟩
    ·have hfl:fs.length≠0:=by simpa using hf0
     have hlast:fs.length-1<fs.length:=by omega
     have l1:zE7 fs 0 ((fs.length-1:Nat):Int)=some (fs.take (fs.length-1)):=by
      have:=zEi (xs:=fs) (l:=0) (h:=fs.length-1) (by omega) (by omega)
      simpa using this
     have hD:=hfd _ (List.getElem_mem hlast)
     rw [if_neg hf0,uP (x:=(fs.length:Int)-1) (by omega) (by omega),show (fs.length:Int)-1=((fs.length-1:Nat):Int) by omega,zI hlast,l1]
     simp only [Option.bind_some]
     rw [vJ (by simp; omega) (by simp; omega)]
     simp only [Option.bind_some]
     rw [vJ (by simp; omega) (by simp; omega)]
     simp only [Option.bind_some,Lp.elim]
     have hsub:(fs.take (fs.length-1)).Sublist fs:=List.take_sublist _ _
     refine ih n (fs.take (fs.length-1)) _ (by simp; omega) hn (by omega) (hnd.sublist (hsub.map _)) (fun k hk=>hpl k ((hsub.map _).subset hk)) (by simp; omega) (fun f hf=>?_) (by simp; omega)
     have:=hfd f (hsub.subset hf)
     omega
theorem zH3 {c:List Pack} (hc:Cat c) (hcl:c.length≤25) {asks:List Term} (hk:asks.length≤1000) {lk:List Int} (hlk:lk.length≤1048576):∃r,jE c asks lk 60=some r∧zNy c r:=by
 obtain ⟨r,e,h⟩:=zJT hc hcl hk hlk 120 0 [] [] (by simp) (by omega) (by omega) (by simp) (by intro k hk; simp at hk) (by simp) (by simp) (by simp)
 have e:zCj c asks lk 60 (([]:List yU),([]:List Int),0)=some (.ret r):=e
 unfold jE
 rw [e]
 exact ⟨r,rfl,h⟩
theorem zKH {b:Nat} {s:zD} (h:Sr b s) (hb:b+10000≤1000000000):∃c x y s',zDu s=some (c,x,y,s')∧DCt c∧x.length≤60∧y.length≤60∧Sr (b+5000) s':=by
 obtain ⟨c,s1,e1,hD,h1⟩:=zI6 h (by omega)
 have hC:=hD.cat
 have hl:=hD.1
 have key:∃(x y:List Int) (s':zD),(if (CF c==0)=true then
   ((zAj s1 c).bind fun x7=>
   (jE c x7.1 ([]:List Int) 60).bind fun x9=>
   (if x9.Code==0 then
     (some x9.Set)
    else
     (some ([]:List Int))).bind fun v12=>
   (zAj x7.2 c).bind fun x13=>
   (zD0 1 (c.length:Int)).bind fun x15=>
   (zL x13.2 x15).bind fun x17=>
   (jE c x13.1 [x17.1] 60).bind fun x19=>
   (if x19.Code==0 then
     (some (decide ((c.length:Int)>0)))
    else
     (some false)).bind fun v22=>
   if v22 then
    (some (x17.2.Code,x17.2.At,v12,x19.Set))
   else
    (some (x17.2.Code,x17.2.At,v12,([]:List Int))))
  else
   (some (s1.Code,s1.At,([]:List Int),([]:List Int))))=some (s'.Code,s'.At,x,y)∧x.length≤60∧y.length≤60∧Sr (b+3000) s':=by
  cases CF c==0
  ·exact ⟨[],[],s1,rfl,by simp,by simp,h1.mono (by omega)⟩
  obtain ⟨l,s2,f1,hl1,g1⟩:=zJ5 h1 (by omega) hl
  obtain ⟨r,f2,hr⟩:=zH3 hC hl (asks:=l) (by omega) (lk:=[]) (by simp)
  obtain ⟨l2,s3,f3,hl2,g3⟩:=zJ5 g1 (by omega) hl
  obtain ⟨m,f4⟩:∃m,zD0 1 (c.length:Int)=some m:=by
   unfold zD0
   split<;>exact ⟨_,rfl⟩
  obtain ⟨z,s4,f5,_,_,g5⟩:=tN g3 (by omega) m
  obtain ⟨r2,f6,hr2⟩:=zH3 hC hl (asks:=l2) (by omega) (lk:=[z]) (by simp)
  obtain ⟨x,f7,hx⟩:∃x:List Int,(if r.Code==0 then some r.Set else some ([]:List Int))=some x∧x.length≤60:=by
   cases r.Code==0
   ·exact ⟨[],rfl,by simp⟩
   ·exact ⟨r.Set,rfl,hr.2.2⟩
  rw [if_pos rfl,f1]
  simp only [Option.bind_some,f2,f7,f3,f4,f5,f6]
  cases r2.Code==0
  ·exact ⟨x,[],s4,rfl,hx,by simp,g5.mono (by omega)⟩
  ·cases hd:decide ((c.length:Int)>0)
   ·exact ⟨x,[],s4,by simp,hx,by simp,g5.mono (by omega)⟩
   ·exact ⟨x,r2.Set,s4,by simp,hx,hr2.2.2,g5.mono (by omega)⟩
 obtain ⟨x,y,s2,e2,hx,hy,h2⟩:=key
 have some_set:∀{b:Nat} {s:zD} (z:List Int),Sr b s→b+1000≤1000000000→z.length≤60→∀q:Bool,∃(w:List Int) (s':zD),(if q=true then (vX s c).bind fun x28=>some (x28.2.Code,x28.2.At,x28.1) else some (s.Code,s.At,z))=some (s'.Code,s'.At,w)∧w.length≤60∧Sr (b+100) s':=by
  intro b s z hs hb hz q
  cases q
  ·exact ⟨z,s,rfl,hz,hs.mono (by omega)⟩
  ·obtain ⟨w,s',f,hw,g⟩:=zIk hs hb hC hl
   rw [if_pos rfl,f]
   exact ⟨w,s',rfl,by omega,g⟩
 obtain ⟨q,s3,e3,h3⟩:=uH (s:= {Code:=s2.Code,At:=s2.At}) h2 (by omega) 14
 obtain ⟨x2,s4,e4,hx2,h4⟩:=some_set x h3 (by omega) hx q
 obtain ⟨q2,s5,e5,h5⟩:=uH (s:= {Code:=s4.Code,At:=s4.At}) h4 (by omega) 14
 obtain ⟨y2,s6,e6,hy2,h6⟩:=some_set y h5 (by omega) hy q2
 unfold zDu
 rw [e1]
 simp only [Option.bind_some]
 rw [zDR c hC]
 simp only [Option.bind_some]
 rw [e2]
 simp only [Option.bind_some,e3,e4,e5,e6]
 exact ⟨c,x2,y2,s6,rfl,hD,hx2,hy2,h6.mono (by omega)⟩
theorem zJ3 {α R:Type} (f:Nat→α→Option R):∀(xs ys:List α) (i:Nat),wI f i (xs++ys)=(wI f i xs).or (wI f (i+xs.length) ys)
 |[],ys,i=>by simp [wI]
 |x::xs,ys,i=>by
  simp only [List.cons_append,wI,List.length_cons]
  cases f i x with
  |some r=>rfl
  |none=>simp only; rw [zJ3 f xs ys (i+1),show i+1+xs.length=i+(xs.length+1) by omega]
theorem zL2 {c:List Pack} {a:List Int} (hp:Places c a) (hn:a.Pairwise (· < ·)) {i:Nat} (hi:i<a.length):decide (zDh c (a.take i) (jC c a[i])≥0)=(zDh c a (jC c a[i]) !=a[i]):=by
 have hd:a.drop i=a[i]::a.drop (i+1):=List.drop_eq_getElem_cons hi
 have he:∀n,n=jC c a[i]→zDh c a n=((wI (fun _ k=>if seq (pat c k).Name n then some k else none) 0 (a.take i)).or (some a[i])).getD (-1):=by
  intro n hn
  have key:=zJ3 (fun (_:Nat) k=>if seq (pat c k).Name n then some k else none) (a.take i) (a.drop i) 0
  rw [List.take_append_drop,hd] at key
  have:seq (pat c a[i]).Name n=true:=by rw [hn]; exact zFG _
  simp only [wI,this,if_true] at key
  unfold zDh
  rw [key]
 rw [he _ rfl]
 unfold zDh
 rcases zHV (q:=fun k=>seq (pat c k).Name (jC c a[i])) (a.take i) 0 with ⟨h1,_⟩|⟨k,hk,_,h1⟩
 ·rw [h1]
  simp
 ·rw [h1]
  have hka:k∈a:=List.mem_of_mem_take hk
  have hge:=(hp k hka).1
  obtain ⟨j,hj,e⟩:=List.mem_take_iff_getElem.1 hk
  have hlt:=List.pairwise_iff_getElem.1 hn j i (by omega) hi (by omega)
  have hne:k≠a[i]:=by omega
  have:decide ((some k).getD (-1)≥0)=true:=by simpa using hge
  rw [this]
  simpa using hne
def apB (c:List Pack) (a:List Int):Bool:=a.all fun k=>zDh c a (jC c k)==k
theorem zHC {α R:Type} (p:α→Bool) (r:R):∀(xs:List α) (i:Nat),wI (fun _ x=>if p x then some r else none) i xs=if xs.all (fun x=> !(p x)) then none else some r
 |[],i=>rfl
 |x::xs,i=>by
  have ih:=zHC p r xs (i+1)
  simp only [wI,List.all_cons]
  by_cases h:p x=true
  ·simp [h]
  ·simp [h,ih]
theorem zGk {c:List Pack} {a:List Int} (hp:Places c a) (hn:a.Pairwise (· < ·)) (ha:a.length≤1048576):kE c a=some (!(apB c a)):=by
 have key:=xX a (fun _ k=>if zDh c a (jC c k) !=k then some true else none) (b:=zBU c a) (by
  intro i hi
  have hk:=hp _ (List.getElem_mem hi)
  unfold zBU
  rw [if_pos (by simp; omega),zI hi,zFp (by omega)]
  simp only [Option.bind_some,(vR hk).1]
  rw [(zDV (a:=a.take i) (fun k hk=>hp k (List.mem_of_mem_take hk)) (by simp; omega) _).2]
  simp only [Option.bind_some]
  have:=zL2 hp hn hi
  unfold jC at this ⊢
  rw [this,zM (by omega)]
  cases zDh c a (pat c a[i]).Name !=a[i]<;>rfl) (by
  unfold zBU
  rw [if_neg (by simp)])
 rw [zHC] at key
 unfold kE zCp apB
 rw [key,zAo]
 have:(fun k=> !(zDh c a (jC c k) !=k))=fun k=>zDh c a (jC c k)==k:=by
  funext k
  simp [bne]
 rw [this]
 cases a.all fun k=>zDh c a (jC c k)==k<;>rfl
theorem apart_spec {c:List Pack} {a:List Int} (hp:Places c a) (ha:a.length≤1048576):kF c a=some (apB c a):=by
 have key:=xX a (fun _ k=>if zDh c a (jC c k) !=k then some false else none) (b:=zBK c a) (by
  intro i hi
  have hk:=hp _ (List.getElem_mem hi)
  unfold zBK jC
  rw [if_pos (by simp; omega),zI hi]
  simp only [Option.bind_some,(vR hk).1]
  rw [(zDV hp ha _).1,zM (by omega)]
  simp only [Option.bind_some]
  cases zDh c a (pat c a[i]).Name !=a[i]<;>rfl) (by
  unfold zBK
  rw [if_neg (by simp)])
 rw [zHC] at key
 unfold kF zCu apB
 rw [key,zAo]
 have:(fun k=> !(zDh c a (jC c k) !=k))=fun k=>zDh c a (jC c k)==k:=by
  funext k
  simp [bne]
 rw [this]
 cases a.all fun k=>zDh c a (jC c k)==k<;>rfl
def zED (c:List Pack) (a b:List Int):Int:=if SF c a !=0 then SF c a else if SF c b !=0 then SF c b else if apB c a&&apB c b then 0 else 6
theorem zF4 {c:List Pack} {s:List Int} (hs:SF c s=0):CF c=0∧s.Pairwise (· < ·)∧Places c s∧s.length≤c.length:=by
 unfold SF at hs
 split at hs
 ·rename_i q; rw [hs] at q; cases q
 ·rename_i q
  refine ⟨by simpa using q,?_⟩
  split at hs
  ·rename_i h
   exact ⟨(zEZ.1 h).1,(zEZ.1 h).2,zLP h⟩
  ·cases hs
theorem zM8 {c:List Pack} {a b:List Int} (h1:SF c a=0) (h2:SF c b=0):Two c a b:=by
 obtain ⟨q0,q1,q2,q3⟩:=zF4 h1
 obtain ⟨_,r1,r2,r3⟩:=zF4 h2
 have hs:=Sml.of q0
 have:=hs.len
 exact ⟨hs,q2,r2,q1,r1,by omega,by omega⟩
theorem zFZ {c:List Pack} {a b:List Int} (hC:Cat c) (ha:a.length≤1048576) (hb:b.length≤1048576):kH c a b=some (zED c a b):=by
 unfold kH zED
 rw [zFE hC ha,zFE hC hb]
 simp only [Option.bind_some]
 by_cases h1:SF c a=0
 ·by_cases h2:SF c b=0
  ·obtain ⟨_,q1,q2,_⟩:=zF4 h1
   obtain ⟨_,r1,r2,_⟩:=zF4 h2
   rw [apart_spec q2 ha,apart_spec r2 hb,h1,h2]
   cases apB c a<;>cases apB c b<;>rfl
  ·have e1:(SF c a !=0)=false:=by simpa using h1
   have e2:(SF c b !=0)=true:=by simpa using h2
   rw [e1,e2]
   rfl
 ·have e1:(SF c a !=0)=true:=by simpa using h1
  rw [e1]
  rfl
theorem zJV {c:List Pack} {a b:List Int} (hC:Cat c) (ha:a.length≤1048576) (hb:b.length≤1048576):zAP c a b=some (zED c a b):=by
 unfold zAP zED
 rw [zDC hC ha,zDC hC hb]
 simp only [Option.bind_some]
 rw [zHu]
 simp only [Option.bind_some]
 by_cases h1:SF c a=0
 ·by_cases h2:SF c b=0
  ·obtain ⟨_,q1,q2,_⟩:=zF4 h1
   obtain ⟨_,r1,r2,_⟩:=zF4 h2
   rw [zGk q2 q1 ha,zGk r2 r1 hb,h1,h2]
   cases apB c a<;>cases apB c b<;>rfl
  ·have e1:(SF c a !=0)=false:=by simpa using h1
   have e2:(SF c b !=0)=true:=by simpa using h2
   have e3:(SF c b==0)=false:=by simpa using h2
   rw [e1,e2]
   simp only [Bool.false_eq_true,if_false,if_true,e3,Option.bind_some]
 ·have e1:(SF c a !=0)=true:=by simpa using h1
  have e3:(SF c a==0)=false:=by simpa using h1
  rw [e1]
  simp only [if_true,e3,Bool.false_eq_true,if_false,Option.bind_some]
theorem zHt {c:List Pack} {a b:List Int} (h:zED c a b=0):CF c=0∧Two c a b:=by
 unfold zED at h
 split at h
 ·rename_i q; simp [h] at q
 rename_i h1
 split at h
 ·rename_i q; simp [h] at q
 rename_i h2
 have e1:SF c a=0:=by simpa using h1
 have e2:SF c b=0:=by simpa using h2
 exact ⟨(zF4 e1).1,zM8 e1 e2⟩
theorem zLj (l:List ByteArray) (n:ByteArray) (h:l.length≤1048576):zCE l n=some (inN l n):=by
 have key:=xX l (fun _ x=>if seq x n then some true else none) (b:=zBM l n) (by
  intro i hi
  unfold zBM
  rw [if_pos (by simp; omega),zI hi]
  simp only [Option.bind_some]
  rw [zM (by omega)]
  cases seq l[i] n<;>rfl) (by
  unfold zBM
  rw [if_neg (by simp)])
 unfold zCE zCi inN
 rw [key,zAo,←zFi (fun x=>seq x n) l 0]
 cases h2:wI (fun _ x=>if seq x n then some true else none) 0 l with
 |none=>rfl
 |some r=>rfl
theorem zMU {a:List Int} (h:a.length≤1048576):zDz a=some false:=by
 unfold zDz
 congr 1
 simp; omega
theorem zLx {c:List Pack} (h0:CF c=0) (a b:List Int) (ns:List ByteArray):SF c (mvL c a b ns)=0:=by
 unfold SF
 rw [h0,zEZ.2 ⟨zJv _ _ _ _,zFW _ _ _ _⟩]
 rfl
theorem zF0 {c:List Pack} {a b:List Int} (hC:Cat c) (h1:SF c a=0) (h2:SF c b=0) {ns:List ByteArray} (hn:ns.length≤24):tX c a b ns=some {Code:=0,At:=0,Set:=mvL c a b ns}:=by
 have h:=zM8 h1 h2
 have la:=h.la
 have lb:=h.lb
 unfold tX
 rw [zDC hC (by omega),zDC hC (by omega),h1,h2]
 simp only [Option.bind_some]
 rw [zHu]
 have e:decide ((ns.length:Int)>24)=false:=by simp; omega
 simp only [Option.bind_some,bne_self_eq_false,Bool.false_eq_true,if_false,beq_self_eq_true,if_true,e]
 rw [zHk h.pa h.pb h.sa h.sb (by omega) (by omega) (by omega)]
 rfl
theorem zFw {c:List Pack} (hC:Cat c) (h0:CF c=0) (hl:c.length≤1048576) (a b:List Int) (ns:List ByteArray):uZ c (mvL c a b ns)=some (((zDD c (mvL c a b ns)).length :Int)==0):=by
 have hm:=zGa c a b ns
 unfold uZ
 rw [zDC hC (by omega),zLx h0]
 simp only [Option.bind_some,beq_self_eq_true,if_true]
 rw [zFf hC (by omega) (by rw [zLx h0]; rfl)]
 unfold zOk
 rw [zLx h0]
 rfl
theorem zLZ {c:List Pack} {a b:List Int} (h:zED c a b=0):SF c a=0∧SF c b=0:=by
 unfold zED at h
 split at h
 ·rename_i q; simp [h] at q
 rename_i h1
 split at h
 ·rename_i q; simp [h] at q
 rename_i h2
 exact ⟨by simpa using h1,by simpa using h2⟩
def zHE (ns:List ByteArray) (i:Nat):Bool:=slt (ns.getD i ByteArray.empty) (ns.getD (i-1) ByteArray.empty)||seq (ns.getD i ByteArray.empty) (ns.getD (i-1) ByteArray.empty)
theorem zIe {ns:List ByteArray} (h:∀i,1≤i→i<ns.length→zHE ns i=false):ns.Pairwise ltS:=by
 have step:∀i,(hi:i+1<ns.length)→ltS ns[i] ns[i+1]:=by
  intro i hi
  have:=h (i+1) (by omega) hi
  unfold zHE at this
  rw [getD_at hi,Nat.add_sub_cancel,getD_at (show i<ns.length by omega),Bool.or_eq_false_iff] at this
  refine zFK this.1 fun e=>?_
  rw [e,zFG] at this
  cases this.2
 rw [List.pairwise_iff_getElem]
 intro i j hi hj hij
 obtain ⟨k,rfl⟩:=Nat.exists_eq_add_of_lt hij
 induction k with
 |zero=>exact step i hj
 |succ k ih=>exact zEc (ih (by omega) (by omega)) (step (i+k+1) (by omega))
theorem zJK {c:List Pack} {a b:List Int} {ns:List ByteArray} (hn:ns.length≤24):∃r:Int,zBn c a b ns (0,1)=some r∧((r=0∧∀i,1≤i→i<ns.length→zHE ns i=false)∨r=1∧∃i,1≤i∧i<ns.length∧zHE ns i=true):=by
 obtain ⟨r,e,h⟩:=wJ (b:=zA1 c a b ns) (fun i s=>s.2=((i+1:Nat):Int)∧((s.1=0∧∀j,1≤j→j<i+1→zHE ns j=false)∨s.1=1∧∃j,1≤j∧j<ns.length∧zHE ns j=true)) (ns.length-1)
  (fun r=>(r=0∧∀i,1≤i→i<ns.length→zHE ns i=false)∨r=1∧∃i,1≤i∧i<ns.length∧zHE ns i=true) (by
  rintro i ⟨r,j⟩ hi ⟨hj,hr⟩
  simp only at hj hr
  subst hj
  have h1:i+1<ns.length:=by omega
  refine .inl ⟨(if zHE ns (i+1) then 1 else r,((i+1+1:Nat):Int)),?_,rfl,?_⟩
  ·unfold zA1 zHE
   simp only
   rw [if_pos (by simp; omega),zI h1,uP (x:=((i+1:Nat):Int)-1) (by omega) (by omega),show ((i+1:Nat):Int)-1=(i:Int) by omega,zI (show i<ns.length by omega),zM (by omega)]
   simp only [Option.bind_some]
   rw [getD_at h1,Nat.add_sub_cancel,getD_at (show i<ns.length by omega)]
   cases slt ns[i+1] ns[i]||seq ns[i+1] ns[i]<;>rfl
  ·simp only
   cases hb:zHE ns (i+1)
   ·rcases hr with ⟨q1,q2⟩|q
    ·refine .inl ⟨q1,fun j j1 j2=>?_⟩
     by_cases e:j=i+1
     ·subst e; exact hb
     ·exact q2 j j1 (by omega)
    ·exact .inr q
   ·exact .inr ⟨rfl,i+1,by omega,h1,hb⟩) (by
  rintro ⟨r,j⟩ ⟨hj,hr⟩
  simp only at hj hr
  subst hj
  refine ⟨r,?_,?_⟩
  ·unfold zA1
   simp only
   rw [if_neg (by simp; omega)]
  ·rcases hr with ⟨q1,q2⟩|q
   ·exact .inl ⟨q1,fun j j1 j2=>q2 j j1 (by omega)⟩
   ·exact .inr q) (ns.length-1) 0 (0,1) (by omega) ⟨rfl,.inl ⟨rfl,fun j h1 h2=>by omega⟩⟩
 exact ⟨r,e,h⟩
theorem zJZ {c:List Pack} {a b:List Int} {ns:List ByteArray} (hn:ns.length≤24) (hb:∃i,1≤i∧i<ns.length∧zHE ns i=true):kN c a b ns 1=some (.ret {Code:=1,Names:=[]}):=by
 obtain ⟨k,k1,k2,k3⟩:=hb
 obtain ⟨t,e,rfl⟩:=wJ (b:=vG c a b ns) (fun i s=>s=((i+1:Nat):Int)∧∀j,1≤j→j<i+1→zHE ns j=false) (ns.length-1) (fun t=>t= .ret {Code:=1,Names:=[]}) (by
  rintro i s hi ⟨rfl,hI⟩
  have h1:i+1<ns.length:=by omega
  have eb:vG c a b ns ((i+1:Nat):Int)=some (if zHE ns (i+1) then .done (.ret {Code:=1,Names:=[]}) else .go ((i+1+1:Nat):Int)):=by
   unfold vG zHE
   rw [if_pos (by simp; omega),zI h1,uP (x:=((i+1:Nat):Int)-1) (by omega) (by omega),show ((i+1:Nat):Int)-1=(i:Int) by omega,zI (show i<ns.length by omega),zM (by omega)]
   simp only [Option.bind_some]
   rw [getD_at h1,Nat.add_sub_cancel,getD_at (show i<ns.length by omega)]
   cases slt ns[i+1] ns[i]||seq ns[i+1] ns[i]<;>rfl
  rw [eb]
  cases hb:zHE ns (i+1)
  ·refine .inl ⟨_,rfl,rfl,fun j j1 j2=>?_⟩
   by_cases e:j=i+1
   ·subst e; exact hb
   ·exact hI j j1 (by omega)
  ·exact .inr ⟨_,rfl,rfl⟩) (by
  rintro s ⟨rfl,hI⟩
  have:=hI k k1 (by omega)
  rw [this] at k3
  cases k3) (ns.length-1) 0 1 (by omega) ⟨rfl,fun j h1 h2=>by omega⟩
 exact e
theorem zGW {c:List Pack} {a b:List Int} {ns:List ByteArray} (hn:ns.length≤24) (hb:∀i,1≤i→i<ns.length→zHE ns i=false):kN c a b ns 1=some (.nxt ()):=by
 obtain ⟨t,e,rfl⟩:=wJ (b:=vG c a b ns) (fun i s=>s=((i+1:Nat):Int)) (ns.length-1) (fun t=>t= .nxt ()) (by
  rintro i s hi rfl
  have h1:i+1<ns.length:=by omega
  have eb:vG c a b ns ((i+1:Nat):Int)=some (if zHE ns (i+1) then .done (.ret {Code:=1,Names:=[]}) else .go ((i+1+1:Nat):Int)):=by
   unfold vG zHE
   rw [if_pos (by simp; omega),zI h1,uP (x:=((i+1:Nat):Int)-1) (by omega) (by omega),show ((i+1:Nat):Int)-1=(i:Int) by omega,zI (show i<ns.length by omega),zM (by omega)]
   simp only [Option.bind_some]
   rw [getD_at h1,Nat.add_sub_cancel,getD_at (show i<ns.length by omega)]
   cases slt ns[i+1] ns[i]||seq ns[i+1] ns[i]<;>rfl
  rw [eb,hb (i+1) (by omega) h1]
  exact .inl ⟨_,rfl,rfl⟩) (by
  rintro s rfl
  unfold vG
  rw [if_neg (by simp; omega)]
  exact ⟨_,rfl,rfl⟩) (ns.length-1) 0 1 (by omega) rfl
 exact e
theorem zK9 {c:List Pack} {a b:List Int} {ns:List ByteArray} (hn:ns.length≤6) {m:Nat} (hm:m<64) (x7:yB):zDb (c,a,b,ns) x7 (m:Int) (([]:List ByteArray),0)=some (atN ns (zDL ns.length m)):=by
 obtain ⟨t,e,rfl⟩:=wJ (b:=zC9 (c,a,b,ns) x7 (m:Int)) (fun i s=>s=(atN ns ((List.range i).filter fun j=>m / 2^j%2==1),(i:Int))) ns.length (fun t=>t=atN ns (zDL ns.length m)) (by
  rintro i s hi rfl
  refine .inl ⟨_,?_,rfl⟩
  obtain ⟨x,h1,h2⟩:=zM2 hm (k:=i) (by omega)
  have hlen:(atN ns ((List.range i).filter fun j=>m / 2^j%2==1)).length ≤i:=by
   rw [zDS]
   have:=List.length_filter_le (fun j=>m / 2^j%2==1) (List.range i)
   simpa using this
  unfold zC9
  simp only
  rw [if_pos (by simp; omega),zNH ⟨i,by omega⟩]
  simp only
  rw [h1]
  simp only [Option.bind_some]
  rw [h2,zM (by omega),zI hi]
  simp only [Option.bind_some]
  rw [vJ (by simp at hlen ⊢; omega) (by simp at hlen ⊢; omega)]
  simp only [Option.bind_some]
  rw [List.range_succ,List.filter_append,List.filter_cons,List.filter_nil]
  cases (m / 2^i%2==1)
  ·simp
  ·simp [atN,hi]) (by
  rintro s rfl
  unfold zC9
  rw [if_neg (by simp)]
  exact ⟨_,rfl,rfl⟩) ns.length 0 (([]:List ByteArray),0) (by omega) (by simp [atN])
 exact e
theorem zMk {c:List Pack} {a b:List Int} {ns:List ByteArray} (hC:Cat c) (ha:a.length≤1048576) (hb:b.length≤1048576) (hn:ns.length≤24) (code:List Int) (hl:code.length≤1048576) (hD:vU code=some (c,a,b,ns)):zCB code=some true:=by
 unfold zCB
 rw [zMU hl,hD]
 simp only [Option.bind_some,Bool.false_eq_true,if_false]
 unfold zBY
 rw [zJV hC ha hb]
 simp only [Option.bind_some]
 by_cases h0:zED c a b=0
 ·obtain ⟨hc0,h⟩:=zHt h0
  obtain ⟨f1,f2⟩:=zLZ h0
  obtain ⟨r,er,hr⟩:=zJK (c:=c) (a:=a) (b:=b) hn
  have eS:kH c a b=some 0:=by rw [zFZ hC ha hb,h0]
  rw [h0]
  simp only [beq_self_eq_true,if_true]
  rw [er]
  simp only [Option.bind_some]
  rcases hr with ⟨rfl,hgood⟩|⟨rfl,hbad⟩
  ·by_cases hne:ns=[]
   ·subst hne
    have e2:=zGW (c:=c) (a:=a) (b:=b) hn hgood
    have:(((([]:List ByteArray).length :Nat):Int)==0)=true:=rfl
    simp only [this,if_true,Option.bind_some]
    unfold tZ
    rw [eS]
    simp only [Option.bind_some,bne_self_eq_false,Bool.false_eq_true,if_false]
    rw [e2]
    rfl
   ·have hs:=zIe hgood
    have hnl:((ns.length:Int)==0)=false:=by simpa using hne
    rw [hnl]
    simp only [Bool.false_eq_true,if_false,Option.bind_some,bne_self_eq_false]
    rw [zLf hC hc0 h hn hs]
    simp only [Option.bind_some]
    cases hf:zIb c a b ns
    ·have e2:=zGW (c:=c) (a:=a) (b:=b) hn hgood
     obtain ⟨g1,g2⟩:=zLV hC h (p:=ns) (by omega)
     unfold tZ
     rw [eS]
     simp only [Option.bind_some,bne_self_eq_false,Bool.false_eq_true,if_false]
     rw [e2,g1]
     simp only [Fl.go,Option.bind_some,hnl,Bool.false_eq_true,if_false,g2,hf]
     rfl
    ·obtain ⟨g1,g2,g3,g4⟩:=zJw (c:=c) (a:=a) (b:=b) hs hne
     have hBl:=zFT g2 hs g3
     have hB0:(((nxB c a b ns).length :Int)==0)=false:=by simpa using g1
     have eM:=zF0 hC f1 f2 (ns:=nxB c a b ns) (by omega)
     have eK:=zFw hC hc0 hC.1 a b (nxB c a b ns)
     have hfB:(((zDD c (mvL c a b (nxB c a b ns))).length :Int)==0)=true:=g4 hf
     rw [hfB] at eK
     have l1:zBZ (c,a,b,ns) {Code:=0,Names:=nxB c a b ns} 0=some (.nxt ()):=by
      unfold zBZ
      refine zMY (nxB c a b ns).length (fun i hi=>?_) ?_
      ·unfold zD8
       simp only
       rw [if_pos (by simp; omega),zI hi]
       simp only [Option.bind_some]
       rw [zLj _ _ (by omega),zEQ.2 (g3 _ (List.getElem_mem hi)),zM (by omega)]
       rfl
      ·unfold zD8
       rw [if_neg (by simp)]
     simp only [if_true,Bool.not_true,Bool.false_eq_true,if_false,Option.bind_some,bne_self_eq_false,hB0,eM,eK,l1,Fl.go]
     by_cases h6:ns.length>6
     ·have:decide ((ns.length:Int)>6)=true:=by simp; omega
      rw [this,if_pos rfl]
      have e:nxB c a b ns=ns:=by unfold nxB; rw [if_pos h6]
      rw [e]
      simp
     ·have:decide ((ns.length:Int)>6)=false:=by simp; omega
      rw [this]
      simp only [Bool.false_eq_true,if_false]
      have hp:2^ns.length≤64:=Nat.pow_le_pow_right (n:=2) (by omega) (show ns.length≤6 by omega)
      have hp1:1≤2^ns.length:=Nat.one_le_two_pow
      have esh:zMN .i64 1 (IntKind.u64.wrap (ns.length:Int))=some ((2^ns.length:Nat):Int):=by
       rw [zNH ⟨ns.length,by omega⟩]
       exact zOI ⟨ns.length,by omega⟩
      obtain ⟨t,e,rfl⟩:=wJ (b:=zCn (c,a,b,ns) {Code:=0,Names:=nxB c a b ns}) (fun i s=>s=((i+1:Nat):Int)) (2^ns.length-1) (fun t=>t= .nxt ()) (by
       rintro i s hi rfl
       refine .inl ⟨_,?_,rfl⟩
       have hm:i+1<2^ns.length:=by omega
       have hpl:(atN ns (zDL ns.length (i+1))).length ≤24:=by
        rw [zDS]
        have:=List.length_filter_le (fun j=>(i+1) / 2^j%2==1) (List.range ns.length)
        simp only [List.length_range] at this
        unfold zDL
        omega
       unfold zCn
       simp only
       rw [esh]
       simp only [Option.bind_some]
       rw [if_pos (decide_eq_true (Int.ofNat_lt.2 hm)),zK9 (by omega) (by omega)]
       simp only [Option.bind_some]
       rw [zM (by omega)]
       by_cases hlt:(atN ns (zDL ns.length (i+1))).length < (nxB c a b ns).length
       ·have hmin:=zMa (c:=c) (a:=a) (b:=b) (by omega) hs hne (m:=i+1) (by omega) hm hlt
        have hmin:(((zDD c (mvL c a b (atN ns (zDL ns.length (i+1))))).length :Int)==0)=false:=hmin
        have ed:decide (((atN ns (zDL ns.length (i+1))).length :Int)< ((nxB c a b ns).length :Int))=true:=by simp; omega
        rw [ed,if_pos rfl,zF0 hC f1 f2 hpl]
        simp only [Option.bind_some]
        rw [zFw hC hc0 hC.1,hmin]
        rfl
       ·have ed:decide (((atN ns (zDL ns.length (i+1))).length :Int)< ((nxB c a b ns).length :Int))=false:=by simp; omega
        rw [ed]
        rfl) (by
       rintro s rfl
       unfold zCn
       simp only
       rw [esh]
       simp only [Option.bind_some]
       rw [if_neg (fun q=>by have:=Int.ofNat_lt.1 (of_decide_eq_true q); omega)]
       exact ⟨_,rfl,rfl⟩) (2^ns.length-1) 0 1 (by omega) rfl
      have e:zDl (c,a,b,ns) {Code:=0,Names:=nxB c a b ns} 1=some (.nxt ()):=e
      rw [e]
      rfl
  ·have e2:=zJZ (c:=c) (a:=a) (b:=b) hn hbad
   obtain ⟨k,k1,k2,_⟩:=hbad
   have hnl:((ns.length:Int)==0)=false:=by
    simp only [beq_eq_false_iff_ne,ne_eq]
    omega
   rw [hnl]
   simp only [Bool.false_eq_true,if_false,Option.bind_some]
   unfold tZ
   rw [eS]
   simp only [Option.bind_some,bne_self_eq_false,Bool.false_eq_true,if_false]
   rw [e2]
   rfl
 ·have e1:(zED c a b !=0)=true:=by simpa using h0
  have e2:(zED c a b==0)=false:=by simpa using h0
  unfold tZ
  rw [zFZ hC ha hb]
  simp only [e2,Bool.false_eq_true,if_false,Option.bind_some,e1,if_true,beq_self_eq_true]
theorem zJQ {b:Nat} {s:zD} (h:Sr b s) (hb:b+1000≤1000000000):∃l s',zCD s=some (l,s')∧l.length≤4:=by
 obtain ⟨n,s1,e1,n0,n1,h1⟩:=tN h (by omega) 5
 have hn:=n1 (by omega)
 obtain ⟨t,e2,l,s2,rfl,hl⟩:=wJ (b:=zBC) (fun i q=>∃(l:List ByteArray) (s':zD),q=(s'.Code,s'.At,l,n-(i:Int))∧l.length=i∧Sr (b+1+i) s') n.toNat
  (fun t=>∃(l:List ByteArray) (s':zD),t=(s'.Code,s'.At,l)∧l.length=n.toNat) (by
  rintro i q hi ⟨l,s',rfl,hl,hs⟩
  unfold zBC
  simp only
  rw [if_pos (by simp; omega)]
  obtain ⟨p,u,f1,_,_,g1⟩:=zF2 (s:= {Code:=s'.Code,At:=s'.At}) hs (by omega)
  rw [f1]
  simp only [Option.bind_some]
  rw [zA0 (by omega) (by simp) (by decide),uP (x:=n-(i:Int)-1) (by omega) (by omega)]
  exact .inl ⟨_,rfl,l++[p],u,by rw [show n-(i:Int)-1=n-((i+1:Nat):Int) by omega],by simp [hl],g1⟩) (by
  rintro q ⟨l,s',rfl,hl,hs⟩
  unfold zBC
  simp only
  rw [if_neg (by simp; omega)]
  exact ⟨_,rfl,l,s',rfl,hl⟩) n.toNat 0 (s1.Code,s1.At,[],n) (by omega) ⟨[],s1,by simp,rfl,h1⟩
 have e2:zCh (s1.Code,s1.At,([]:List ByteArray),n)=some _:=e2
 unfold zCD
 rw [e1]
 simp only [Option.bind_some,e2]
 exact ⟨l,s2,rfl,by omega⟩
theorem zLl {a:List Int} {s:zD} (e0:zB0 a=some s) (h:Sr 0 s):∃c x y ns,vU a=some (c,x,y,ns)∧DCt c∧x.length≤60∧y.length≤60∧ns.length≤24:=by
 obtain ⟨c,x,y,s1,e1,hD,hx,hy,h1⟩:=zKH h (by omega)
 have hC:=hD.cat
 have key:∃(ns:List ByteArray) (s2:zD),(if (zED c x y==0)=true then
   ((vY c x y).bind fun x9=>
   (zBx c x y).bind fun x11=>
   (if decide ((x11.length:Int)>0) then
     ((zR s1 3).bind fun x14=>
     some (x14.2.Code,x14.2.At,!x14.1))
    else
     (some (s1.Code,s1.At,false))).bind fun v16=>
   if v16.2.2 then
    ((zL ({Code:=v16.1,At:=v16.2.1}:zD) (x11.length:Int)).bind fun x18=>
    (idx x11 x18.1).bind fun x20=>
    some (x18.2.Code,x18.2.At,x20))
   else
    (some (v16.1,v16.2.1,x9)))
  else
   (some (s1.Code,s1.At,([]:List ByteArray))))=some (s2.Code,s2.At,ns)∧ns.length≤24∧Sr 6000 s2:=by
  by_cases hd:zED c x y=0
  ·have hT:=(zHt hd).2
   obtain ⟨q1,_,_,_,q5⟩:=zHL hT
   obtain ⟨s1',s2',_⟩:=zLr hT
   rw [if_pos (by simpa using hd),q1,(zKy hT).1]
   simp only [Option.bind_some]
   by_cases hp:((zM1 c x y).length :Int)>0
   ·rw [if_pos (by simpa using hp)]
    obtain ⟨q,u,f1,g1⟩:=uH h1 (by omega) 3
    rw [f1]
    simp only [Option.bind_some]
    cases q
    ·obtain ⟨k,u2,f2,k0,k1,g2⟩:=tN (s:= {Code:=u.Code,At:=u.At}) g1 (by omega) ((zM1 c x y).length :Int)
     have hk:=k1 (by omega)
     obtain ⟨j,rfl⟩:=Int.eq_ofNat_of_zero_le k0
     have hj:j< (zM1 c x y).length :=by omega
     simp only [Bool.not_false,if_true]
     rw [f2]
     simp only [Option.bind_some]
     rw [zI hj]
     exact ⟨_,u2,rfl,s2' _ (List.getElem_mem hj),g2.mono (by omega)⟩
    ·exact ⟨_,u,rfl,q5,g1.mono (by omega)⟩
   ·rw [if_neg (by simpa using hp)]
    exact ⟨_,s1,rfl,q5,h1.mono (by omega)⟩
  ·rw [if_neg (by simpa using hd)]
   exact ⟨_,s1,rfl,by simp,h1.mono (by omega)⟩
 obtain ⟨ns,s2,e2,hns,h2⟩:=key
 obtain ⟨q,s3,e3,h3⟩:=uH (s:= {Code:=s2.Code,At:=s2.At}) h2 (by omega) 12
 unfold vU
 rw [e0]
 simp only [Option.bind_some]
 rw [e1]
 simp only [Option.bind_some]
 rw [zFZ hC (by omega) (by omega)]
 simp only [Option.bind_some]
 rw [e2]
 simp only [Option.bind_some,e3]
 cases q
 ·exact ⟨c,x,y,ns,rfl,hD,hx,hy,hns⟩
 ·obtain ⟨l,s4,e4,hl⟩:=zJQ h3 (by omega)
  rw [if_pos rfl,e4]
  exact ⟨c,x,y,l,rfl,hD,hx,hy,by omega⟩
theorem zJP (a1:List Int) (k1:a1.length≤maxLen∧∀y1∈a1,IntKind.u8.min≤y1∧y1≤IntKind.u8.max):zCB a1=some true:=by
 by_cases h:a1.length≤1048576
 ·obtain ⟨s,e0,h0⟩:=zIZ h (fun c hc=>by have:=k1.2 c hc; simpa [IntKind.min,IntKind.max,IntKind.signed,IntKind.bits] using this)
  obtain ⟨c,x,y,ns,e,hD,hx,hy,hns⟩:=zLl e0 h0
  exact zMk hD.cat (a:=x) (b:=y) (by omega) (by omega) hns a1 h e
 ·unfold zCB zDz
  have:decide ((a1.length:Int)>1048576)=true:=by simp; omega
  rw [this]
  rfl
end Go.Told

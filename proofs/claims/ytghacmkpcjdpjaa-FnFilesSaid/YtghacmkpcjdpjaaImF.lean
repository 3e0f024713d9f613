import Derived.Test.YtghacmkpcjdpjaaImE
import Derived.Laws.IdiomCopy
set_option linter.unusedVariables false
namespace Go.Im
open Go
theorem zCg {arr:Array Value} {o A B:Nat} {X Y W:List Value} (hA:o+A+X.length≤arr.size) (hB:o+B+Y.length≤arr.size)
  (hW:∀k,k<W.length→(if B≤k∧k<B+Y.length then Y[k-B]? else if A≤k∧k<A+X.length then X[k-A]? else arr[o+k]?)=W[k]?):
  ∀k (hk:k<W.length),(uW (uW arr (o+A) X) (o+B) Y)[o+k]? =some W[k]:=by
 intro k hk
 rw [tZ _ _ _ (by rw [yF]; exact hB),tZ _ _ _ hA]
 have:=hW k hk
 rw [List.getElem?_eq_getElem hk] at this
 rw [←this]
 by_cases c1:B≤k∧k<B+Y.length
 ·rw [if_pos (by omega),if_pos c1]; congr 1; omega
 ·rw [if_neg (by omega),if_neg c1]
  by_cases c2:A≤k∧k<A+X.length
  ·rw [if_pos (by omega),if_pos c2]; congr 1; omega
  ·rw [if_neg (by omega),if_neg c2]
theorem zBZ.world {w w1 w2:World} {z n m:Nat} {wx wy:List Value} {blk:List Nat} {r:Value} (h:zBZ w w1 z n m wx wy blk r) (hn:0<n+m) (hh:w2.heap=w1.heap) (hq:w2.os=w1.os∧w2.output=w1.output):zBZ w w2 z n m wx wy blk r:=by
 obtain ⟨h1,h2⟩:=h
 refine ⟨⟨hq.1.trans h1.1,hq.2.trans h1.2⟩,?_⟩
 rcases h2 with ⟨h2,_⟩|⟨b,off,c,h3,h4,h5,h6,h7⟩
 ·omega
 ·exact .inr ⟨b,off,c,h3,h4,h5.frame (by rw [hh]),by rw [hh]; exact h6,by rw [hh]; exact h7⟩
theorem zDo {wx wy:List Value} {n m k0 z:Nat} (hl:wx.length=n*z) (hly:wy.length=m*z) (hk:k0≤n):∀k,k< (wx.take (k0*z)++(wy++wx.drop (k0*z))).length →
  (wx.take (k0*z)++(wy++wx.drop (k0*z)))[k]? =if k<k0*z then wx[k]? else if k< (k0+m)*z then wy[k-k0*z]? else (wx.drop (k0*z))[k-(k0+m)*z]? :=by
 intro k _
 have hkz:k0*z≤n*z:=Nat.mul_le_mul_right _ hk
 have ht:(wx.take (k0*z)).length =k0*z:=by simp; omega
 have e:(k0+m)*z=k0*z+m*z:=Nat.add_mul _ _ _
 by_cases c1:k<k0*z
 ·rw [if_pos c1,List.getElem?_append_left (by omega),List.getElem?_take,if_pos c1]
 ·rw [if_neg c1,List.getElem?_append_right (by omega),ht]
  by_cases c2:k< (k0+m)*z
  ·rw [if_pos c2,List.getElem?_append_left (by omega)]
  ·rw [if_neg c2,List.getElem?_append_right (by omega)]
   congr 1; omega
theorem zCR {w w0:World} (hw0:w0.heap=w.heap∧w0.os=w.os∧w0.output=w.output) {b off c z n m k0:Nat} {wx wy:List Value} (hO:Own w b off (c*z) wx) (hl:wx.length=n*z) (hly:wy.length=m*z) (hk:k0≤n) (hc:n+m≤c):
  zBZ w (putCells (putCells w0 b (off+(k0+m)*z) (wx.drop (k0*z))) b (off+k0*z) wy) z (n+m) 0 (wx.take (k0*z)++(wy++wx.drop (k0*z))) [] [b] (.slice (some ⟨b,off,none⟩) (n+m) c):=by
 obtain ⟨arr,e,lo,hi,g1,g2,g3,g4⟩:=hO
 have g1':w0.heap[b]? =some (.cells arr e (lo,hi)):=by rw [hw0.1]; exact g1
 obtain ⟨p1,p2,p3⟩:=yC (off:=off+(k0+m)*z) (vs:=wx.drop (k0*z)) g1'
 obtain ⟨q1,q2,q3⟩:=yC (off:=off+k0*z) (vs:=wy) p1
 have hkz:k0*z≤n*z:=Nat.mul_le_mul_right _ hk
 have e1:(k0+m)*z=k0*z+m*z:=Nat.add_mul _ _ _
 have e2:(n+m)*z=n*z+m*z:=Nat.add_mul _ _ _
 have hcz:(n+m)*z≤c*z:=Nat.mul_le_mul_right _ hc
 have hlen:(wx.take (k0*z)++(wy++wx.drop (k0*z))).length =(n+m)*z:=by simp; omega
 refine ⟨⟨(zZ _ _ _ _).1.trans ((zZ _ _ _ _).1.trans hw0.2.1),(zZ _ _ _ _).2.trans ((zZ _ _ _ _).2.trans hw0.2.2)⟩,.inr ⟨b,off,c,rfl,by omega,?_,?_,.inl ⟨rfl,fun b' hb'=>?_,?_⟩⟩⟩
 ·refine ⟨_,e,lo,hi,q1,by rw [yF,yF]; exact g2,by rw [yF,yF]; exact g3,?_⟩
  rw [List.append_nil]
  refine zCg (by simp; omega) (by omega) (fun k hk'=>?_)
  rw [zDo hl hly hk k hk']
  rw [hlen] at hk'
  by_cases c1:k<k0*z
  ·rw [if_neg (by omega),if_neg (by omega),if_pos c1,g4 k (by omega),List.getElem?_eq_getElem]
  ·by_cases c2:k< (k0+m)*z
   ·rw [if_pos (by omega),if_neg c1,if_pos c2]
   ·rw [if_neg (by omega),if_pos (by simp; omega),if_neg c1,if_neg c2]
 ·rw [q3,p3,hw0.1]
  rcases Nat.lt_or_ge b w.heap.size with h|h
  ·exact h
  ·rw [Array.getElem?_eq_none h] at g1; cases g1
 ·rw [q2 b' hb',p2 b' hb',hw0.1]
 ·rw [q3,p3,hw0.1]
theorem zD3 {w w0:World} {ROW:Array Value} {e:TypeId} (hw0:w0.heap=w.heap.push (.cells ROW e (0,0))∧w0.os=w.os∧w0.output=w.output) {c z n m k0:Nat} {wx wy:List Value} {blk:List Nat} (hR:∀k,k<k0*z→ROW[k]? =wx[k]?) (hsz:c*z≤ROW.size) (hl:wx.length=n*z) (hly:wy.length=m*z) (hk:k0≤n) (hc:n+m≤c):
  zBZ w (putCells (putCells w0 w.heap.size (k0*z) wy) w.heap.size ((k0+m)*z) (wx.drop (k0*z))) z (n+m) 0 (wx.take (k0*z)++(wy++wx.drop (k0*z))) [] blk (.slice (some ⟨w.heap.size,0,none⟩) (n+m) c):=by
 have g1':w0.heap[w.heap.size]? =some (.cells ROW e (0,0)):=by rw [hw0.1]; simp
 obtain ⟨p1,p2,p3⟩:=yC (off:=k0*z) (vs:=wy) g1'
 obtain ⟨q1,q2,q3⟩:=yC (off:=(k0+m)*z) (vs:=wx.drop (k0*z)) p1
 have hkz:k0*z≤n*z:=Nat.mul_le_mul_right _ hk
 have e1:(k0+m)*z=k0*z+m*z:=Nat.add_mul _ _ _
 have e2:(n+m)*z=n*z+m*z:=Nat.add_mul _ _ _
 have hcz:(n+m)*z≤c*z:=Nat.mul_le_mul_right _ hc
 have hlen:(wx.take (k0*z)++(wy++wx.drop (k0*z))).length =(n+m)*z:=by simp; omega
 refine ⟨⟨(zZ _ _ _ _).1.trans ((zZ _ _ _ _).1.trans hw0.2.1),(zZ _ _ _ _).2.trans ((zZ _ _ _ _).2.trans hw0.2.2)⟩,.inr ⟨w.heap.size,0,c,rfl,by omega,?_,?_,.inr ⟨rfl,?_,fun b' hb'=>?_⟩⟩⟩
 ·refine ⟨_,e,0,0,q1,by omega,by rw [yF,yF]; omega,?_⟩
  rw [List.append_nil]
  have key:=zCg (arr:=ROW) (o:=0) (A:=k0*z) (B:=(k0+m)*z) (X:=wy) (Y:=wx.drop (k0*z)) (W:=wx.take (k0*z)++(wy++wx.drop (k0*z))) (by omega) (by simp; omega) (fun k hk'=>?_)
  ·simpa using key
  ·rw [zDo hl hly hk k hk']
   rw [hlen] at hk'
   by_cases c1:k<k0*z
   ·rw [if_neg (by omega),if_neg (by omega),if_pos c1,Nat.zero_add,hR k c1]
   ·by_cases c2:k< (k0+m)*z
    ·rw [if_neg (by omega),if_pos (by omega),if_neg c1,if_pos c2]
    ·rw [if_pos (by simp; omega),if_neg c1,if_neg c2]
 ·rw [q3,p3,hw0.1]; simp
 ·rw [q3,p3,hw0.1]; simp
 ·rw [q2 b' (by omega),p2 b' (by omega)]
  exact jN hw0.1 hb'
theorem zEr {w w0:World} (hw0:w0.heap=w.heap∧w0.os=w.os∧w0.output=w.output) {b off c z n i j:Nat} {wx zs:List Value} (hO:Own w b off (c*z) wx) (hl:wx.length=n*z) (hij:i≤j) (hj:j≤n) (hc:n≤c) (hzs:zs.length=(j-i)*z):
  zBZ w (putCells (putCells w0 b (off+i*z) (wx.drop (j*z))) b (off+(i+(n-j))*z) zs) z (i+(n-j)) 0 (wx.take (i*z)++wx.drop (j*z)) [] [b] (.slice (some ⟨b,off,none⟩) (i+(n-j)) c):=by
 obtain ⟨arr,e,lo,hi,g1,g2,g3,g4⟩:=hO
 have g1':w0.heap[b]? =some (.cells arr e (lo,hi)):=by rw [hw0.1]; exact g1
 obtain ⟨p1,p2,p3⟩:=yC (off:=off+i*z) (vs:=wx.drop (j*z)) g1'
 obtain ⟨q1,q2,q3⟩:=yC (off:=off+(i+(n-j))*z) (vs:=zs) p1
 obtain ⟨d,rfl⟩:∃d,j=i+d:=⟨j-i,by omega⟩
 obtain ⟨k,rfl⟩:∃k,n=i+d+k:=⟨n-(i+d),by omega⟩
 have e1:(i+d)*z=i*z+d*z:=Nat.add_mul _ _ _
 have e2:(i+(i+d+k-(i+d)))*z=i*z+k*z:=by rw [show i+(i+d+k-(i+d))=i+k by omega]; exact Nat.add_mul _ _ _
 have e3:(i+d+k)*z=i*z+d*z+k*z:=by rw [Nat.add_mul,Nat.add_mul]
 have e4:(i+d-i)*z=d*z:=by rw [show i+d-i=d by omega]
 have hcz:(i+d+k)*z≤c*z:=Nat.mul_le_mul_right _ hc
 have hlen:(wx.take (i*z)++wx.drop ((i+d)*z)).length =i*z+k*z:=by simp; omega
 refine ⟨⟨(zZ _ _ _ _).1.trans ((zZ _ _ _ _).1.trans hw0.2.1),(zZ _ _ _ _).2.trans ((zZ _ _ _ _).2.trans hw0.2.2)⟩,.inr ⟨b,off,c,rfl,by omega,?_,?_,.inl ⟨rfl,fun b' hb'=>?_,?_⟩⟩⟩
 ·refine ⟨_,e,lo,hi,q1,by rw [yF,yF]; exact g2,by rw [yF,yF]; exact g3,?_⟩
  rw [List.append_nil]
  refine zCg (by simp; omega) (by omega) (fun q hq=>?_)
  rw [hlen] at hq
  have ht:(wx.take (i*z)).length =i*z:=by simp; omega
  by_cases c1:q<i*z
  ·rw [if_neg (by omega),if_neg (by omega),List.getElem?_append_left (by omega),List.getElem?_take,if_pos c1,g4 q (by omega),List.getElem?_eq_getElem]
  ·rw [if_neg (by omega),if_pos (by simp; omega),List.getElem?_append_right (by omega),ht]
 ·rw [q3,p3,hw0.1]
  rcases Nat.lt_or_ge b w.heap.size with h|h
  ·exact h
  ·rw [Array.getElem?_eq_none h] at g1; cases g1
 ·rw [q2 b' hb',p2 b' hb',hw0.1]
 ·rw [q3,p3,hw0.1]
theorem kG {w:World} {b k:Nat} {arr:Array Value} {e:TypeId} {lo hi:Nat} (h:w.heap[b]? =some (.cells arr e (lo,hi))) (h2:∀k,k≤arr.size→¬(lo≤k∧k<hi)) (hk:k≤arr.size):w.frozen? ⟨b,k,none⟩=false:=by
 have:=h2 k hk
 simp only [World.frozen?,h,Bool.and_eq_false_imp,decide_eq_true_eq,decide_eq_false_iff_not]
 intro h5 h6; exact this ⟨h5,h6⟩
theorem zCo {P:Program} (w:World) (t e ty:TypeId) (zv:Value) (z:Nat) (ht:P.underlying t=some (.slice e)) (hv:zT P (zeroValue e)=some zv) (hz:zv.cells.size=z) (hone:zv.cells.toList.all Value.oneCell=true) (b o n c:Nat) (hn:0<n)
  (hc:∀j,j<n*z→(w.cell? ⟨b,o+j,none⟩).isSome =true) (hf:∀j,j<n*z→w.frozen? ⟨b,o+j,none⟩=false):
  (Builtin.clear_ #[t] ty #[.slice (some ⟨b,o,none⟩) n c]).run P w= .ok (.tuple #[]) (w.setCells b o (Builtin.zeroCells zv.cells n).toList):=by
 have hl:(Builtin.zeroCells zv.cells n).toList.length =n*z:=by simp [Builtin.zeroCells,hz]
 have hst:=run_storeCells_cells (P:=P) b o (Builtin.zeroCells zv.cells n).toList 0 w (by rw [hl]; simpa using hc) (by rw [hl]; simpa using hf) (fun x hx=>by
  rw [jD]
  simp only [Builtin.zeroCells,Array.toList_map,List.mem_map] at hx
  obtain ⟨i,hi,rfl⟩:=hx
  have hi':i<n*zv.cells.size:=by simpa using hi
  have hpos:0<zv.cells.size:=by
   rcases Nat.eq_zero_or_pos zv.cells.size with h|h
   ·rw [h] at hi'; simp at hi'
   ·exact h
  rw [getElem!_pos zv.cells _ (Nat.mod_lt _ hpos)]
  exact List.all_eq_true.1 hone _ (by simp))
 simp only [Nat.add_zero] at hst
 obtain ⟨m,rfl⟩:∃m,n=m+1:=⟨n-1,by omega⟩
 have hv':=fun w=>zJ (P:=P) _ _ w hv
 simp [Builtin.clear_,run_underlying ht,hv',hst]
theorem kF {P:Program} (w:World) (dT sT ty elem:TypeId) (z b o dLen dCap:Nat) (a:Addr) (sLen sCap:Nat) (cs:List Value)
  (hu:P.underlying dT=some (.slice elem)) (hs:(P.info? elem).map (·.size)=some z) (hn:cs.length=Nat.min sLen dLen*z)
  (hsrc:∀j v,cs[j]? =some v→w.cell? (a.add j)=some v) (hc:∀j,j<cs.length→(w.cell? ⟨b,o+j,none⟩).isSome =true) (hf:∀j,j<cs.length→w.frozen? ⟨b,o+j,none⟩=false) (h1:∀v∈cs,v.oneCell'=true):
  (Builtin.copy_ #[dT,sT] ty #[.slice (some ⟨b,o,none⟩) dLen dCap,.slice (some a) sLen sCap]).run P w= .ok (goInt (Nat.min sLen dLen)) (w.setCells b o cs):=by
 have hl:=run_loadCells_list (P:=P) w a cs hsrc
 have hst:=run_storeCells_cells (P:=P) b o cs 0 w (by simpa using hc) (by simpa using hf) h1
 cases hq:P.info? elem with
 |none=>simp [hq] at hs
 |some i=>
  have hi:i.size=z:=by simpa [hq] using hs
  rw [hn] at hl
  simp [Builtin.copy_,run_underlying hu,Builtin.lenOf,Builtin.firstCells,sizeOf,typeInfo,hq,hi,hl,hst]
end Go.Im
set_option linter.unusedVariables false
namespace Go.Im
open Go
def lnC:D→D
 | .s _ _ n _=>.ln n
 |d=>d
section
variable {Γ:Ctx} {ops:Array Oper} {o:Oper}
theorem Rep.lnC {β:Nat→Loc} {N:Nat→Prop} {w:World}:∀{d:D} {v:Value} {bs:List Nat},Rep β N w false d v bs→Rep β N w true (lnC d) v []
 | .s o z n xs,v,bs,h=>by
  simp only [Rep] at h
  obtain ⟨_,_,a,cap,h3,h4,_⟩:=h
  simp only [Im.lnC,Rep]
  exact ⟨trivial,a,cap,h3,h4⟩
 | .sc _,v,bs,h=>by simp only [Rep,Im.lnC] at h ⊢; exact ⟨h.1,trivial⟩
 | .rf _ _ _ _,v,bs,h=>by simp only [Rep] at h; exact absurd h.1 (by simp)
 | .pt _ _ _,v,bs,h=>by simp only [Rep] at h; exact absurd h.1 (by simp)
 | .ps cs,v,bs,h=>by simp only [Rep,Im.lnC] at h ⊢; exact ⟨trivial,h.2⟩
 | .fn _ _,v,bs,h=>by simp only [Rep] at h; exact absurd h.1 (by simp)
 | .ag _,v,bs,h=>by simp only [Rep] at h; exact absurd h.1 (by simp)
 | .tu _,v,bs,h=>by simp only [Rep] at h; exact absurd h.1 (by simp)
 | .un,v,bs,h=>by simp only [Rep,Im.lnC] at h ⊢; exact ⟨h.1,trivial⟩
 | .nb _,v,bs,h=>by simp only [Rep,Im.lnC] at h ⊢; exact ⟨trivial,h.2⟩
 | .sub _ _ _,v,bs,h=>by simp only [Rep] at h; exact absurd h.1 (by simp)
 | .fb _ _,v,bs,h=>by simp only [Rep] at h; exact absurd h.1 (by simp)
 | .pb _,v,bs,h=>by simp only [Rep] at h; exact absurd h.1 (by simp)
 | .ln _,v,bs,h=>by simp only [Rep,Im.lnC] at h ⊢; exact ⟨trivial,h.2⟩
 | .po _,v,bs,h=>by simp only [Rep] at h; exact absurd h.1 (by simp)
theorem zF.lnC {β:Nat→Loc} {N:Nat→Prop} {w:World}:∀{ds:List D} {ws:List Value} {bs:List Nat},zF β N w false ds ws bs→zF β N w true (ds.map Im.lnC) ws []
 |[],ws,bs,h=>by simp only [zF,List.map_nil] at h ⊢; exact ⟨h.1,trivial⟩
 |d::ds,ws,bs,h=>by
  simp only [zF,List.map_cons] at h ⊢
  obtain ⟨v,vs,b1,b2,h1,_,h3,h4⟩:=h
  exact ⟨v,vs,[],[],h1,rfl,Rep.lnC h3,zF.lnC h4⟩
theorem zD0 {c:Cert} {x:Operand} {T:TypeId} {z t i j:Nat} {xs:List (List D)} {e:List D} {d:D} (hg:o.guard=none) (hop:o.op= .load T x) (hc:c= {tn:=c.tn,hn:=c.hn,out:=some d})
  (hx:OpF c x (.pt t i j)) (hh:(t,.row z xs)∈c.hn) (he:xs[i]? =some e) (ho:((e.drop j).map lnC).all uI=true)
  (hd:vY Γ.P T ((e.drop j).map lnC)=some d):Valid Γ ops o c:=by
 refine vR (d:=d) (f:=fun ρ=>Instr.loadAt T (ρ x)) hg (fun ρ=>by simp [execOp,hop]) (by rw [hc]) fun β bs σ a w hn hr=>?_
 have h1:=OpF.rep hx hn hr
 simp only [Rep] at h1
 obtain ⟨b1,⟨hLz,hzz,hrow⟩,_,_⟩:=xO.get hr.hp (hn.2.1 _ hh)
 rcases hrow with ⟨_,rfl,_⟩|⟨hnil,ws,hO,hE⟩
 ·simp at he
 ·obtain ⟨b2,b3,b4,_,h4,_,_⟩:=zK.get hE hzz he
  obtain ⟨b5,b6,_,_,h6⟩:=h4.split j
  have h7:=h6.lnC
  have hone:=kD ho h7
  obtain ⟨v,h8,h9⟩:=uX hd ((hO.cells (i*z) z).drop j) hone h7
  refine ⟨v,?_,h9⟩
  rw [h1.2.2.2,hLz]
  exact h8
theorem zFu {α:Type} {xs:List α} {i:Int} {a:α} {d:D} (T z t j:Nat) (enc:α→List D) (x:Operand) (h:idx xs i=some a) (hd:((((enc a).drop j).map lnC).all uI,vY Γ.P T (((enc a).drop j).map lnC))=(true,some d)) (hx:OkO x (.pt t i.toNat j):=by trivial):
  OpV Γ (.load T x) {tn:=tnO x (.pt t i.toNat j),hn:=[(t,rE z enc xs)],out:=some d}:=by
 simp only [Prod.mk.injEq] at hd
 obtain ⟨_,h2⟩:=kY h
 intro ops o hop hg
 exact zD0 (xs:=xs.map enc) (e:=enc a) hg hop rfl (hx.f (fun y hy=>hy)) (.head _) (by rw [List.getElem?_map,h2]; rfl) hd.1 hd.2
end
theorem zFF {α:Type} {z:Nat} {enc:α→List D} {xs:List α}:Wk (sl z enc xs) (.ln xs.length):=.ln
end Go.Im
set_option linter.unusedVariables false
namespace Go.Im
open Go
theorem FzT.all {t z:Nat} {xs:List (List D)}:∀{l:List (Nat×D)},(∀x∈l,x.2.men.contains t=false)→FzT t z xs l l
 |[],_=>.nil
 |(q,d)::l,h=>.cons (.keep (h (q,d) (by simp))) (FzT.all fun x hx=>h x (by simp [hx]))
theorem FzH.all {t z:Nat} {xs:List (List D)}:∀{l:List (Nat×Ent)},(∀x∈l,x.2.men.contains t=false)→FzH t z xs l l
 |[],_=>.nil
 |(q,e)::l,h=>.keep (h (q,e) (by simp)) (FzH.all fun x hx=>h x (by simp [hx]))
theorem Rel.frz {Γ:Ctx} {a:Act} {w:World} {t z:Nat} {xs:List (List D)} {tm1 tm2:List (Nat×D)} {hp1 hp2:List (Nat×Ent)} {us us2:List Nat} (htm:FzT t z xs tm1 tm2) (hhp:FzH t z xs hp1 hp2)
  (hu:∀q,q∈zBo tm2∨q∈kH hp2→q∈us2) (hr:Rel Γ ⟨tm1,(t,.row z xs)::hp1,us⟩ a w):Rel Γ ⟨tm2,hp2,us2⟩ a w:=by
 obtain ⟨h0,β,bs,h⟩:=hr
 obtain ⟨b1,bk,rfl,hE,hrest⟩:=h.hp
 have hp:((β t).own ++(b1++bk)).Perm (((β t).own ++b1)++bk):=by rw [List.append_assoc]
 have hnd:=hp.nodup_iff.1 h.nodup
 have hN:∀b,NS Γ w ((β t).own ++(b1++bk)) b→NS Γ w bk b:=fun b hb=>NS.sub (fun x hx=>by simp [hx]) hb
 have hb:∀b∈(β t).own ++b1,NS Γ w bk b:=fun b hb=>by
  have:=h.own b (hp.mem_iff.2 (List.mem_append_left _ hb))
  refine ⟨?_,this.1,fun hbk=>(List.nodup_append.1 hnd).2.2 b hb b hbk rfl⟩
  rcases this.2 with h1|h1
  ·exact .inr (.inl h1)
  ·exact .inr (.inr h1)
 refine ⟨hu,β,bk,{defers:=h.defers,size:=h.size,keys:=?_,par:=h.par,grow:=h.grow,gh:=h.gh,quiet:=h.quiet,keep:=h.keep,hp:=hhp.rep hN hE hb hrest,nodup:=(List.nodup_append.1 hnd).2.1,own:=fun b hb=>h.own b (hp.mem_iff.2 (List.mem_append_right _ hb)),tm:=?_}⟩
 ·have hk:=h.keys
  simp only [List.map_cons,List.nodup_cons] at hk
  rw [hhp.keys]
  exact hk.2
 ·intro q d' hd
  obtain ⟨d,h1,h2⟩:=htm.mem hd
  obtain ⟨v,h3,h4⟩:=h.tm q d h1
  exact ⟨v,h3,Fz.rep hN hE hb h2 h4⟩
end Go.Im
set_option linter.unusedVariables false
namespace Go.Im
open Go
def zDO (a b:Int):Option Int:=if b=0 then none else some (a.tmod b)
def zFv (k:IntKind) (a b:Int):Option Int:=if b=0 then none else some (k.wrap (a.tdiv b))
section
variable {Γ:Ctx} {ops:Array Oper} {o:Oper}
theorem zFp {op:BinOp} {k k2:IntKind} {a b r:Int} (T U:Nat) (x y:Operand) (hne:op≠ .eql ∧op≠ .neq) (h:∀w,(binOp op T (.int k a) (.int k2 b)).run Γ.P w= .ok (.int k r) w)
  (hx:OkO x (.sc (.int k a))) (hy:OkO y (.sc (.int k2 b))):
  OpV Γ (.binOp op T x y U) {tn:=tnO x (.sc (.int k a))++tnO y (.sc (.int k2 b)),out:=some (.sc (.int k r))}:=by
 intro ops o hop hg
 refine vR (d:=.sc (.int k r)) (f:=fun ρ=>do eqGuard op T x y (ρ x) (ρ y); binOp op T (ρ x) (ρ y)) hg (fun ρ=>by simp [execOp,hop]) rfl fun β bs σ a' w hn hr=>?_
 have h1:=OpF.rep (hx.f (fun y hy=>List.mem_append_left _ hy)) hn hr
 have h2:=OpF.rep (hy.f (fun y hy=>List.mem_append_right _ hy)) hn hr
 simp only [Rep] at h1 h2
 refine ⟨_,?_,by simp only [Rep]; exact ⟨rfl,trivial⟩⟩
 rw [h1.1,h2.1]
 have e:(eqGuard op T x y (.int k a) (.int k2 b)).run Γ.P w= .ok () w:=by
  obtain ⟨n1,n2⟩:=hne
  cases op<;>first|rfl|exact absurd rfl n1|exact absurd rfl n2
 rw [run_bind_ok e]
 exact h w
theorem zDT {k:IntKind} {a b r:Int} (T U:Nat) (x y:Operand) (h:zDO a b=some r) (hx:OkO x (.sc (.int k a)):=by first|trivial|rfl) (hy:OkO y (.sc (.int k b)):=by first|trivial|rfl):
  OpV Γ (.binOp .rem T x y U) {tn:=tnO x (.sc (.int k a))++tnO y (.sc (.int k b)),out:=some (.sc (.int k r))}:=by
 refine zFp T U x y (by decide) (fun w=>?_) hx hy
 unfold zDO at h
 split at h
 ·cases h
 ·cases h
  unfold binOp
  simp only [ne_eq,not_true_eq_false,if_false,Op.intDiv]
  rw [if_neg (by assumption)]
  rfl
theorem zFA {k:IntKind} {a b r:Int} (T U:Nat) (x y:Operand) (h:zFv k a b=some r) (hx:OkO x (.sc (.int k a)):=by first|trivial|rfl) (hy:OkO y (.sc (.int k b)):=by first|trivial|rfl):
  OpV Γ (.binOp .quo T x y U) {tn:=tnO x (.sc (.int k a))++tnO y (.sc (.int k b)),out:=some (.sc (.int k r))}:=by
 refine zFp T U x y (by decide) (fun w=>?_) hx hy
 unfold zFv at h
 split at h
 ·cases h
 ·cases h
  unfold binOp
  simp only [ne_eq,not_true_eq_false,if_false,Op.intDiv]
  rw [if_neg (by assumption)]
  rfl
theorem zFH {op:Op} {tn:List (Nat×D)} {hn W:List (Nat×Ent)} {ids fr:List Nat} {d1 d2:D} {z:Nat} {xs:List (List D)} (t:Nat) (hws:List (Nat×Ent)) (hv:OpV Γ op {tn:=tn,hn:=hn,out:=some d1,hx:=ids,hw:=W,fr:=fr}) (hf:Fz t z xs d1 d2)
  (hC:(W,fr,hws.flatMap (fun x=>x.2.men),d2.men)=(hws++[(t,.row z xs)],[t],[],[]):=by kernel_rfl):
  OpV Γ op {tn:=tn,hn:=hn,out:=some d2,hx:=ids,hw:=hws,fr:=[t]}:=by
 simp only [Prod.mk.injEq] at hC
 obtain ⟨hW,hF,hm2,hm⟩:=hC
 subst hW hF
 intro ops o hop hg σ a w Q hdst hn' hr
 have hus:=hr.1
 have hfr:t∉σ.us:=hn'.2.2 t (by simp)
 have h:=hv ops o hop hg σ a w Q hdst ⟨hn'.1,hn'.2.1,hn'.2.2⟩ hr
 have hwt:Region.wanted o (yielded ops a.tmps)=true:=by simp [Region.wanted,hg]
 rw [if_pos hwt] at h ⊢
 refine Oper.wp_mono (fun a' w' hrel=>?_) h
 obtain ⟨dd,hdd⟩:∃dd,o.dst=dd:=⟨_,rfl⟩
 rw [hdd] at hrel
 rw [hdd]
 have hnt:∀x∈hws,x.2.men=[]:=fun x hx=>List.flatMap_eq_nil_iff.1 hm2 x hx
 have key:FzT t z xs ((({tn:=tn,hn:=hn,out:=some d1,hx:=ids,hw:=hws++[(t,.row z xs)],fr:=[t]}:Cert).outs dd)++σ.tm.filter (fun x=>dd !=some x.1)) ((({tn:=tn,hn:=hn,out:=some d2,hx:=ids,hw:=hws,fr:=[t]}:Cert).outs dd)++σ.tm.filter (fun x=>dd !=some x.1)):=by
  have hrest:FzT t z xs (σ.tm.filter (fun x=>dd !=some x.1)) (σ.tm.filter (fun x=>dd !=some x.1)):=FzT.all fun x hx=>by
   have:t∉x.2.men:=fun h=>hfr (hus t (.inl (List.mem_flatMap.2 ⟨x,(List.mem_filter.1 hx).1,h⟩)))
   simpa using this
  cases dd with
  |none=>exact hrest
  |some q=>exact .cons hf hrest
 have hperm:(hws++[(t,Ent.row z xs)]++σ.hp.filter (fun x=> !ids.contains x.1)).Perm ((t,Ent.row z xs)::(hws++σ.hp.filter (fun x=> !ids.contains x.1))):=by
  rw [List.append_assoc]
  exact List.perm_middle
 have hrel2:Rel Γ ⟨(({tn:=tn,hn:=hn,out:=some d1,hx:=ids,hw:=hws++[(t,.row z xs)],fr:=[t]}:Cert).outs dd)++σ.tm.filter (fun x=>dd !=some x.1),(t,.row z xs)::(hws++σ.hp.filter (fun x=> !ids.contains x.1)),(({tn:=tn,hn:=hn,out:=some d1,hx:=ids,hw:=hws++[(t,.row z xs)],fr:=[t]}:Cert).men)++σ.us⟩ a' w':=by
  refine Rel.weak hrel (fun x hx=>hx) (fun x hx=>hperm.mem_iff.2 hx) ?_ (fun q hq=>?_)
  ·exact (hperm.map (·.1)).nodup_iff.1 hrel.2.choose_spec.choose_spec.keys
  ·refine hrel.1 q ?_
   rcases hq with hq|hq
   ·exact .inl hq
   ·obtain ⟨x,hx,hx'⟩:=List.mem_flatMap.1 hq
    exact .inr (List.mem_flatMap.2 ⟨x,hperm.mem_iff.2 hx,hx'⟩)
 refine Rel.frz key (FzH.all fun x hx=>?_) (fun q hq=>?_) hrel2
 ·rcases List.mem_append.1 hx with hx|hx
  ·simp [hnt x hx]
  ·have:t∉x.2.men:=fun h=>hfr (hus t (.inr (List.mem_flatMap.2 ⟨x,(List.mem_filter.1 hx).1,by simp [h]⟩)))
   simpa using this
 ·rcases hq with hq|hq
  ·refine List.mem_append_right _ ?_
   obtain ⟨x,hx,hx'⟩:=List.mem_flatMap.1 hq
   rcases List.mem_append.1 hx with hx|hx
   ·unfold Cert.outs at hx
    cases dd with
    |none=>simp at hx
    |some q'=>
     simp only [List.mem_singleton] at hx
     subst hx
     simp only [hm] at hx'
     cases hx'
   ·exact hus q (.inl (List.mem_flatMap.2 ⟨x,(List.mem_filter.1 hx).1,hx'⟩))
  ·obtain ⟨x,hx,hx'⟩:=List.mem_flatMap.1 hq
   rcases List.mem_append.1 hx with hx|hx
   ·refine List.mem_append_left _ ?_
    unfold Cert.men
    exact List.mem_append_right _ (List.mem_flatMap.2 ⟨x,hx,hx'⟩)
   ·exact List.mem_append_right _ (hus q (.inr (List.mem_flatMap.2 ⟨x,(List.mem_filter.1 hx).1,hx'⟩)))
end
end Go.Im

import Derived.Test.YtdeihchdibglaaaGreatImE
import Derived.Lib.ConvBytes
import Derived.Sort.EncStr
import Derived.Laws.IdiomCopy
set_option linter.unusedVariables false
namespace Go.Im
open Go
def zLO (n:Nat):List Nat→Bool
 |[]=>false
 |m::ms=>Nat.beq n m||zLO n ms
def dl {α:Type} (del:List Nat) (add:List (Nat×α)):List (Nat×α)→List (Nat×α)
 |[]=>add
 |x::l=>match zLO x.1 del with
  |true=>dl del add l
  |false=>x::dl del add l
section
variable {Γ:Ctx} {fc:Code} {k:List II} {σ:St} {T:Type} {K:T→Option (D×List Ent)}
theorem J_d {e:Option T} (p:Nat) (ids:List (Nat×Nat)) (x:List Nat) (y:List (Nat×D)) (x':List Nat) (y':List (Nat×Ent)) {orc:List (Nat×Cert)} (hor:zFC Γ fc p orc) (hj:J Γ fc (aft fc p) (St.mk' (dl x y σ.tm) (dl x' y' σ.hp)) e K)
  (h:(zL4 fc σ.tm p k&&Γ.P.follows .mixedOrders,(chk Γ.P Γ.nt Γ.m fc p orc ids σ (dl x y σ.tm) (dl x' y' σ.hp)).1,(chk Γ.P Γ.nt Γ.m fc p orc ids σ (dl x y σ.tm) (dl x' y' σ.hp)).2.2.1,(chk Γ.P Γ.nt Γ.m fc p orc ids σ (dl x y σ.tm) (dl x' y' σ.hp)).2.2.2.2)=
   (true,(chk Γ.P Γ.nt Γ.m fc p orc ids σ (dl x y σ.tm) (dl x' y' σ.hp)).2.1,(chk Γ.P Γ.nt Γ.m fc p orc ids σ (dl x y σ.tm) (dl x' y' σ.hp)).2.2.2.1,true):=by kernel_rfl):J Γ fc k σ e K:=
 J_g p ids _ _ hor hj h
end
end Go.Im
set_option linter.unusedVariables false
namespace Go.Im
open Go
mutual
inductive Wk:D→D→Prop where
 |same {d:D}:Wk d d
 |ln {z n:Nat} {xs:List (List D)}:Wk (.s false z n xs) (.ln n)
 |tu {cs cs':List D}:WkL cs cs'→Wk (.tu cs) (.tu cs')
 |ag {cs cs':List D}:WkL cs cs'→Wk (.ag cs) (.ag cs')
inductive WkL:List D→List D→Prop where
 |nil:WkL [] []
 |cons {d d':D} {ds ds':List D}:Wk d d'→WkL ds ds'→WkL (d::ds) (d'::ds')
end
section
variable {β:Nat→Loc} {N:Nat→Prop} {w:World}
mutual
theorem Wk.rep:∀{d d':D} {v:Value} {bs:List Nat},Wk d d'→Rep β N w true d v bs→Rep β N w true d' v bs
 |_,_,_,_,.same,h=>h
 |_,_,v,bs,.ln (z:=z) (n:=n) (xs:=xs),h=>by
  have e:=Rep.free (d:=.s false z n xs) rfl h
  subst e
  simp only [Rep] at h ⊢
  obtain ⟨_,_,a,cap,h1,h2,_⟩:=h
  exact ⟨trivial,a,cap,h1,h2⟩
 |_,_,v,bs,.tu hl,h=>by
  simp only [Rep] at h ⊢
  obtain ⟨h1,ws,h2,h3⟩:=h
  exact ⟨trivial,ws,h2,WkL.rep hl h3⟩
 |_,_,v,bs,.ag hl,h=>by
  simp only [Rep] at h ⊢
  obtain ⟨h1,ws,h2,h4,h3⟩:=h
  exact ⟨trivial,ws,h2,h4,WkL.rep hl h3⟩
theorem WkL.rep:∀{ds ds':List D} {vs:List Value} {bs:List Nat},WkL ds ds'→zH β N w true ds vs bs→zH β N w true ds' vs bs
 |_,_,_,_,.nil,h=>h
 |_,_,vs,bs,.cons h1 h2,h=>by
  simp only [zH] at h ⊢
  obtain ⟨v,vs',b1,b2,h3,h4,h5,h6⟩:=h
  exact ⟨v,vs',b1,b2,h3,h4,Wk.rep h1 h5,WkL.rep h2 h6⟩
end
end
section
variable {Γ:Ctx} {ops:Array Oper} {o:Oper}
theorem zFc {β:Nat→Loc} {N:Nat→Prop} {w:World}:∀{xs:List (List D)} {ws:List Value} {bs:List Nat},(∀e∈xs,e.all D.free=true)→zS β N w xs ws bs→bs=[]
 |[],ws,bs,_,h=>by simp only [zS] at h; exact h.2
 |e::es,ws,bs,hf,h=>by
  simp only [zS] at h
  obtain ⟨w1,w2,b1,b2,rfl,rfl,h3,h4⟩:=h
  have e1:=zH.frees (fun d hd=>List.all_eq_true.1 (hf e (by simp)) d hd) h3
  have e2:=zFc (fun e he=>hf e (by simp [he])) h4
  rw [e1,e2]
  rfl
theorem zHV {c:Cert} {x y:Operand} {T U el e':TypeId} {t td ts n m z bytes off:Nat} {cd:Option Nat} {zv:Value} {xs ys:List (List D)} (hg:o.guard=none)
  (hop:o.op= .call {callee:=.builtin .append,args:= #[x,y],argTypes:= #[T,U]}) (hc:c= {tn:=c.tn,hn:=c.hn,out:=some (.rf t 0 (n+m) none),hx:=[td],hw:=[(t,.row z (xs++(ys.drop off).take m))],fr:=[t]})
  (hm:Γ.m≤t) (hx:OpF c x (.rf td 0 n cd)) (hy:OpF c y (.sub ts off m)) (hxr:(td,.row z xs)∈c.hn) (hyr:(ts,.row z ys)∈c.hn) (hlx:xs.length=n) (hle:off+m≤ys.length)
  (hT:Γ.P.underlying T=some (.slice el)) (hU:Γ.P.underlying U=some (.slice e')) (hinfo:(Γ.P.info? el).map (fun i=>(i.zero,i.size,i.bytes))=some (some zv,z,bytes)) (hzs:zv.cells.size=z)
  (hone:∀e∈ys,e.all zBp=true) (hfree:∀e∈ys,e.all D.free=true) (hbig:(n+m)*bytes≤140737488355328) (h62:n+m≤4611686018427387904):Valid Γ ops o c:=by
 intro σ a w Q hdst hn ⟨h0,β,bs,hr⟩
 have hwt:Region.wanted o (yielded ops a.tmps)=true:=by simp [Region.wanted,hg]
 rw [if_pos hwt]
 have hfr:t∉σ.us:=hn.2.2 t (by rw [hc]; simp)
 obtain ⟨b1,bk,p1,hE1,hrest⟩:=vF.take hr.hp hr.keys (hn.2.1 _ hxr)
 obtain ⟨wx,hD,hEx,hzx⟩:=zFI (OpF.rep hx hn hr) hE1 hlx
 have hyv:=OpF.rep hy hn hr
 simp only [Rep] at hyv
 obtain ⟨_,_,ad,cap,hv,hcap,hcase⟩:=hyv
 obtain ⟨b2,⟨hLz,hzz,hrow⟩,_,_⟩:=vF.get hr.hp (hn.2.1 _ hyr)
 have hzy:∀e∈(ys.drop off).take m,e.length=z:=fun e he=>hzz e (List.mem_of_mem_drop (List.mem_of_mem_take he))
 have hly:((ys.drop off).take m).length =m:=by simp; omega
 have hone':∀e∈(ys.drop off).take m,e.all zBp=true:=fun e he=>hone e (List.mem_of_mem_drop (List.mem_of_mem_take he))
 obtain ⟨wy,hEy,hS⟩:∃wy,zS β (NS Γ w bs) w ((ys.drop off).take m) wy []∧((a.eval y= .slice ad m cap∧m=0∧wy=[])∨∃b off c,a.eval y= .slice (some ⟨b,off,none⟩) m c∧Has w b off wy∧wy.length=m*z):=by
  rcases hcase with rfl|⟨hnil,rfl,hroom⟩
  ·exact ⟨[],by simp [zS],.inl ⟨hv,rfl,rfl⟩⟩
  ·rcases hrow with ⟨hnil',_⟩|⟨_,ws,hO,hE⟩
   ·rw [hnil] at hnil'; cases hnil'
   have:=zFc hfree hE
   subst this
   have q2:=(zS.sub m (zS.sub off hE hzz).2 (fun e he=>hzz e (List.mem_of_mem_drop he))).1
   refine ⟨_,q2,.inr ⟨_,_,cap,hv,?_,?_⟩⟩
   ·rw [hLz]; exact hO.has.sub (off*z) (m*z)
   ·rw [q2.length hzy,hly]
 have hsrc:Go.Src Γ.P z U (a.eval y) m wy w:=by
  rcases hS with ⟨h1,h2,h3⟩|h
  ·rw [h1]
   subst h2; subst h3
   cases ad with
   |none=>exact Src.ofNil w hU cap
   |some ad=>exact Src.ofSlice w hU ad 0 cap [] (by simp) (by simp) (by simp)
  ·exact zDe hU (zCH hone' hEy) (.inr h)
 obtain ⟨r,w1,hrun,hA⟩:=zCE (ty:=o.type) hT hinfo hzs hD hsrc hbig h62
 have hex:(execOp a.eval o).run Γ.P w= .ok (.value r) w1:=by
  rw [tY hop]
  simp only [builtin,List.map_toArray,List.map_cons,List.map_nil]
  exact run_bind_ok hrun
 unfold Oper.wp
 rw [hex,Oper.upon_value]
 refine zCK (b1:=b1) (b2:=[]) (bx:=[]) (bk:=bk) (blk:=(β td).own) h0 hr hdst (by rw [hc]) hfr hm ?_ ?_ hEx hEy hzx hzy hlx hly hA (by rw [hc])
 ·simpa using p1
 ·rw [hc]
  rw [←zEM] at hrest
  exact hrest
theorem zKW {α:Type} {xs ys r zs:List α} {l hi:Int} (T U el e' z bytes t td ts:Nat) (enc:α→List D) (x y:Operand) (hs:zDJ ys l hi=some r) (h:app bytes xs r=some zs) (hx:OkO x (.rf td 0 xs.length none):=by trivial) (hy:OkO y (.sub ts l.toNat r.length):=by trivial)
  (hone:∀a,(enc a).all zBp=true:=by intro _; rfl) (hfree:∀a,(enc a).all D.free=true:=by intro _; rfl) (hT:(Γ.P.underlying T,Γ.P.underlying U,zFQ Γ.P el,(zF7 Γ.P el).cells.size,Nat.ble Γ.m t)=(some (.slice el),some (.slice e'),some (some (zF7 Γ.P el),z,bytes),z,true):=by kernel_rfl):
  OpV Γ (.call {callee:=.builtin .append,args:= #[x,y],argTypes:= #[T,U]}) {tn:=tnO x (.rf td 0 xs.length none)++tnO y (.sub ts l.toNat r.length),hn:=[(td,rE z enc xs),(ts,rE z enc ys)],out:=some (.rf t 0 zs.length none),hx:=[td],hw:=[(t,rE z enc zs)],fr:=[t]}:=by
 simp only [Prod.mk.injEq] at hT
 obtain ⟨h1,h2,h3,h4,h5⟩:=hT
 obtain ⟨q1,q2,q3,q4,q5⟩:=zEx hs
 obtain ⟨rfl,g1,g2⟩:=zEq h
 intro ops o hop hg
 refine zHV (xs:=xs.map enc) (ys:=ys.map enc) (m:=r.length) (off:=l.toNat) (n:=xs.length) hg hop ?_ (Nat.le_of_ble_eq_true h5) (hx.f (fun y hy=>List.mem_append_left _ hy)) (hy.f (fun y hy=>List.mem_append_right _ hy)) (.head _) (.tail _ (.head _)) (by simp) (by rw [List.length_map]; omega) h1 h2 h3 h4 ?_ ?_ g1 g2
 ·congr 1
  ·simp
  ·show [(t,Ent.row z ((xs++r).map enc))]=_
   rw [List.map_append,←List.map_drop,←List.map_take,q5,←q4]
 ·intro e he
  obtain ⟨a,_,rfl⟩:=List.mem_map.1 he
  exact hone a
 ·intro e he
  obtain ⟨a,_,rfl⟩:=List.mem_map.1 he
  exact hfree a
end
end Go.Im
set_option linter.unusedVariables false
namespace Go.Im
open Go
section
variable {Γ:Ctx} {ops:Array Oper} {o:Oper}
end
end Go.Im
set_option linter.unusedVariables false
namespace Go.Im
open Go
theorem zJN {P:Program} {f:FuncId} {xs:List ByteArray}
  (h:∀(blk off cap:Nat) (w:World),Sort.Holds Go.Proofs.encStr w blk off (xs.map (·.data.toList)).toArray →blk<w.heap.size→Calls P f #[.slice (some ⟨blk,off,none⟩) xs.length cap] w fun e w'=>e= .returned (.tuple #[])∧∃n os,w'=Sort.grow (Sort.putRow Go.Proofs.encStr (Sort.ahead w n) blk off ((xs.map (·.data.toList)).mergeSort fun x y=>decide (x≤y)).toArray) os)
  (h0:∀(p:Option Addr) (cap:Nat) (w:World),Calls P f #[.slice p 0 cap] w fun e w'=>e= .returned (.tuple #[])∧w'=w):
  Ok P f [.rf 0 0 xs.length none] [.row 1 (xs.map eStr)] (some (.tu [],[.row 1 ((((xs.map (·.data.toList)).mergeSort fun x y=>decide (x≤y)).map fun l=>(⟨l.toArray⟩:ByteArray)).map eStr)])):=by
 have k:=zKh (P:=P) (f:=f) (enc:=Go.Proofs.encStr) (xs:=xs.map (·.data.toList)) (ys:=(xs.map (·.data.toList)).mergeSort fun x y=>decide (x≤y)) (by simp [List.length_mergeSort])
  (fun blk off cap w hH hb=>by rw [List.length_map]; exact h blk off cap w hH hb) (fun _ p cap w=>h0 p cap w)
 have e1:(xs.map (·.data.toList)).map (fun a=>[D.sc (Go.Proofs.encStr a)])=xs.map eStr:=by
  rw [List.map_map]
  apply List.map_congr_left
  intro a _
  simp [eStr,Go.Proofs.encStr]
 have e2:∀l:List (List UInt8),l.map (fun a=>[D.sc (Go.Proofs.encStr a)])=(l.map fun l=>(⟨l.toArray⟩:ByteArray)).map eStr:=fun l=>by
  rw [List.map_map]
  apply List.map_congr_left
  intro a _
  simp [eStr,Go.Proofs.encStr]
 rw [e1,e2,List.length_map] at k
 exact k
end Go.Im
set_option linter.unusedVariables false
namespace Go.Im
open Go
end Go.Im
set_option linter.unusedVariables false
namespace Go.Im
open Go
end Go.Im
set_option linter.unusedVariables false
namespace Go.Im
open Go
section
variable {Γ:Ctx} {ops:Array Oper} {o:Oper}
end
end Go.Im
set_option linter.unusedVariables false
namespace Go.Im
open Go
theorem FzT.all {t z:Nat} {xs:List (List D)}:∀{l:List (Nat×D)},(∀x∈l,x.2.men.contains t=false)→FzT t z xs l l
 |[],_=>.nil
 |(q,d)::l,h=>.cons (.keep (h (q,d) (by simp))) (FzT.all fun x hx=>h x (by simp [hx]))
theorem FzH.all {t z:Nat} {xs:List (List D)}:∀{l:List (Nat×Ent)},(∀x∈l,x.2.men.contains t=false)→FzH t z xs l l
 |[],_=>.nil
 |(q,e)::l,h=>.keep (h (q,e) (by simp)) (FzH.all fun x hx=>h x (by simp [hx]))
end Go.Im
set_option linter.unusedVariables false
namespace Go.Im
open Go
def zJk (a b:Int):Option Int:=if b=0 then none else some (a.tmod b)
def zLb (k:IntKind) (a b:Int):Option Int:=if b=0 then none else some (k.wrap (a.tdiv b))
section
variable {Γ:Ctx} {ops:Array Oper} {o:Oper}
theorem zKG {op:BinOp} {k k2:IntKind} {a b r:Int} (T U:Nat) (x y:Operand) (hne:op≠ .eql ∧op≠ .neq) (h:∀w,(binOp op T (.int k a) (.int k2 b)).run Γ.P w= .ok (.int k r) w)
  (hx:OkO x (.sc (.int k a))) (hy:OkO y (.sc (.int k2 b))):
  OpV Γ (.binOp op T x y U) {tn:=tnO x (.sc (.int k a))++tnO y (.sc (.int k2 b)),out:=some (.sc (.int k r))}:=by
 intro ops o hop hg
 refine kK (d:=.sc (.int k r)) (f:=fun ρ=>do eqGuard op T x y (ρ x) (ρ y); binOp op T (ρ x) (ρ y)) hg (fun ρ=>by simp [execOp,hop]) rfl fun β bs σ a' w hn hr=>?_
 have h1:=OpF.rep (hx.f (fun y hy=>List.mem_append_left _ hy)) hn hr
 have h2:=OpF.rep (hy.f (fun y hy=>List.mem_append_right _ hy)) hn hr
 simp only [Rep] at h1 h2
 refine ⟨_,?_,by simp only [Rep]; exact ⟨rfl,trivial⟩⟩
 rw [h1.1,h2.1]
 have e:(eqGuard op T x y (.int k a) (.int k2 b)).run Γ.P w= .ok () w:=by
  obtain ⟨n1,n2⟩:=hne
  cases op<;>first|rfl|exact absurd rfl n1|exact absurd rfl n2
 rw [run_bind_ok e]
 exact h w
theorem zJ3 {k:IntKind} {a b r:Int} (T U:Nat) (x y:Operand) (h:zJk a b=some r) (hx:OkO x (.sc (.int k a)):=by first|trivial|rfl) (hy:OkO y (.sc (.int k b)):=by first|trivial|rfl):
  OpV Γ (.binOp .rem T x y U) {tn:=tnO x (.sc (.int k a))++tnO y (.sc (.int k b)),out:=some (.sc (.int k r))}:=by
 refine zKG T U x y (by decide) (fun w=>?_) hx hy
 unfold zJk at h
 split at h
 ·cases h
 ·cases h
  unfold binOp
  simp only [ne_eq,not_true_eq_false,if_false,Op.intDiv]
  rw [if_neg (by assumption)]
  rfl
theorem zLG {k:IntKind} {a b r:Int} (T U:Nat) (x y:Operand) (h:zLb k a b=some r) (hx:OkO x (.sc (.int k a)):=by first|trivial|rfl) (hy:OkO y (.sc (.int k b)):=by first|trivial|rfl):
  OpV Γ (.binOp .quo T x y U) {tn:=tnO x (.sc (.int k a))++tnO y (.sc (.int k b)),out:=some (.sc (.int k r))}:=by
 refine zKG T U x y (by decide) (fun w=>?_) hx hy
 unfold zLb at h
 split at h
 ·cases h
 ·cases h
  unfold binOp
  simp only [ne_eq,not_true_eq_false,if_false,Op.intDiv]
  rw [if_neg (by assumption)]
  rfl
end
end Go.Im

import Derived.Test.YtlagdfkkokgakaaDoorImE
set_option linter.unusedVariables false
set_option maxRecDepth 4000
namespace Go.Told
open Go Go.Im
structure File where
 Path:ByteArray
 Data:(List Int)
 deriving DecidableEq
def File.enc (o:Bool) (x:File):List D:=[.sc (.string x.Path),.s o 1 x.Data.length (x.Data.map eU8)]
theorem File.ro (o:Bool) (x:File):D.ro.roC (File.enc o x)=File.enc false x:=by
 simp only [File.enc,D.ro.roC,D.ro,kE (enc:=eU8) (enc':=eU8) (fun _=>rfl)]
theorem File.fl (x:File):vQ (File.enc true x):=(flatK xG (flatK (zBM (zCe (fun _=>(flatK xG zB0)) _)) zB0))
structure zF where
 Files:(List File)
 Budget:Int
 Writes:Int
 Stop:Int
 Down:Bool
 deriving DecidableEq
def zF.enc (o:Bool) (x:zF):List D:=[.s o 2 x.Files.length (x.Files.map (File.enc o)),.sc (.int .i64 x.Budget),.sc (.int .i64 x.Writes),.sc (.int .i64 x.Stop),.sc (.bool x.Down)]
theorem zF.ro (o:Bool) (x:zF):D.ro.roC (zF.enc o x)=zF.enc false x:=by
 simp only [zF.enc,D.ro.roC,D.ro,kE (enc:=(File.enc o)) (enc':=(File.enc false)) (File.ro o)]
theorem zF.fl (x:zF):vQ (zF.enc true x):=(flatK (zBM (zCe (fun _=>(File.fl _)) _)) (flatK xG (flatK xG (flatK xG (flatK xG zB0)))))
structure zB where
 Code:Int
 zF:zF
 deriving DecidableEq
def zB.enc (o:Bool) (x:zB):List D:=[.sc (.int .i64 x.Code),.s o 2 x.zF.Files.length (x.zF.Files.map (File.enc o)),.sc (.int .i64 x.zF.Budget),.sc (.int .i64 x.zF.Writes),.sc (.int .i64 x.zF.Stop),.sc (.bool x.zF.Down)]
theorem zB.ro (o:Bool) (x:zB):D.ro.roC (zB.enc o x)=zB.enc false x:=by
 simp only [zB.enc,D.ro.roC,D.ro,kE (enc:=(File.enc o)) (enc':=(File.enc false)) (File.ro o)]
theorem zB.fl (x:zB):vQ (zB.enc true x):=(flatK xG (flatK (zBM (zCe (fun _=>(File.fl _)) _)) (flatK xG (flatK xG (flatK xG (flatK xG zB0))))))
noncomputable def wD (a1:Int) (a2:Int) (a3:Int):Option Bool:=
 if decide (a1≥a2) then
  (some (decide (a1≤a3)))
 else
  (some false)
noncomputable def xB (a1:Int):Option zB:=
 (wD a1 0 20000).bind fun x2=>
 if !x2 then
  (some ({Code:=3,zF:=({Files:=([]:List File),Budget:=0,Writes:=0,Stop:=0,Down:=false}:zF)}:zB))
 else
  (some ({Code:=0,zF:=({Files:=([]:List File),Budget:=a1,Writes:=0,Stop:=(-1),Down:=false}:zF)}:zB))
noncomputable def yA (g:Int→Option ByteArray) (s:Int):Option ByteArray:=
 match s with
 |a1=>
 if decide (a1<10) then
  (some (b2s [IntKind.u8.wrap (w64 (48+a1))]))
 else
  ((g (w64 (a1.tdiv 10))).bind fun x3=>
  (cat x3 (b2s [IntKind.u8.wrap (w64 (48+(a1.tmod 10)))])).bind fun x5=>
  some x5)
noncomputable def xC (a1:Int):Option ByteArray:=zDi yA 64 a1
noncomputable def xJ (a1:Int):Option ByteArray:=
 (wD a1 1 999999).bind fun x2=>
 if !x2 then
  (some (bs []))
 else
  ((xC (w64 (1000000+a1))).bind fun x5=>
  (zDn x5 1 (x5.size:Int)).bind fun x7=>
  (cat (bs [103,101,110,47]) x7).bind fun x9=>
  some x9)
noncomputable def yG (a1:Int):Option zB:=
 (xB a1).bind fun x2=>
 if x2.Code !=0 then
  (some x2)
 else
  (if a1==0 then
   (some ({Code:=8,zF:=({Files:=([]:List File),Budget:=0,Writes:=0,Stop:=0,Down:=false}:zF)}:zB))
  else
   ((xJ 1).bind fun x6=>
   some ({Code:=x2.Code,zF:=({Files:=[({Path:=bs [99,117,114],Data:=[49]}:File),({Path:=x6,Data:=([]:List Int)}:File),({Path:=bs [114,111,111,116,115],Data:=([]:List Int)}:File)],Budget:=x2.zF.Budget,Writes:=x2.zF.Writes,Stop:=x2.zF.Stop,Down:=x2.zF.Down}:zF)}:zB)))
noncomputable def xY (a1:Int) (a2:Int) (a3:Int):Option Bool:=
 if decide (a2≤a1) then
  (some (decide (a1≤a3)))
 else
  (some false)
noncomputable def bytealg_CompareString (a1 a2:ByteArray):Option Int:=some (zC1 a1 a2)
noncomputable def strings_Compare (a1:ByteArray) (a2:ByteArray):Option Int:=
 (bytealg_CompareString a1 a2).bind fun x3=>
 some x3
noncomputable def zU (a1:File) (a2:ByteArray):Option Int:=
 (strings_Compare a1.Path a2).bind fun x3=>
 some x3
noncomputable def zI (a1:(List File)) (a2:ByteArray) (s9:(Int×Int)):Option (Lp (Int×Int) Int):=
 if decide (s9.1<s9.2) then
  ((idx a1 (w64 ((IntKind.u64.wrap (w64 (s9.1+s9.2))).fdiv (2^(min (1:Int).toNat 64))))).bind fun x11=>
  (zU x11 a2).bind fun x13=>
  if decide (x13<0) then
   (some (Lp.go (w64 ((w64 ((IntKind.u64.wrap (w64 (s9.1+s9.2))).fdiv (2^(min (1:Int).toNat 64))))+1),s9.2)))
  else
   (some (Lp.go (s9.1,w64 ((IntKind.u64.wrap (w64 (s9.1+s9.2))).fdiv (2^(min (1:Int).toNat 64)))))))
 else
  (some (Lp.done s9.1))
noncomputable def zD (a1:(List File)) (a2:ByteArray):(Int×Int)→Option Int:=loop (zI a1 a2)
noncomputable def zC (a1:(List File)) (a2:ByteArray):Option (Int×Bool):=
 (zD a1 a2 (0,(a1.length:Int))).bind fun v16=>
 if decide (v16< (a1.length:Int)) then
  ((idx a1 v16).bind fun x18=>
  (zU x18 a2).bind fun x20=>
  some (v16,x20==0))
 else
  (some (v16,false))
noncomputable def yV (a1:zF) (a2:ByteArray):Option (Int×Bool):=
 (zC a1.Files a2).bind fun x3=>
 some (x3.1,x3.2)
noncomputable def yC (a1:List File) (a2:Int) (a3:List File):Option (List File):=if 0≤a2∧a2≤a1.length∧0<a3.length∧a1.length+a3.length≤1099511627776 then some (a1.take a2.toNat++(a3++a1.drop a2.toNat)) else none
noncomputable def zZ (a1:(List Int)):Option (List Int):=
 (app 1 ([]:List Int) a1).bind fun x3=>
 some x3
noncomputable def zO (a1:zF) (a2:ByteArray) (a3:(List Int)):Option zF:=
 (yV a1 a2).bind fun x4=>
 (if !x4.2 then
   ((yC a1.Files x4.1 [({Path:=a2,Data:=([]:List Int)}:File)]).bind fun x7=>
   some x7)
  else
   (some a1.Files)).bind fun v9=>
 (zZ a3).bind fun x10=>
 (idx v9 x4.1).bind fun x12=>
 some ({Files:=v9.set x4.1.toNat ({Path:=x12.Path,Data:=x10}:File),Budget:=a1.Budget,Writes:=a1.Writes,Stop:=a1.Stop,Down:=a1.Down}:zF)
noncomputable def yD (a1 a2:Int):Option ByteArray:=if a2=10∧ -9223372036854775808≤a1∧a1≤9223372036854775807 then some ⟨(Lib.itoa a1).toArray⟩ else none
noncomputable def vE (a1:Int):Option ByteArray:=
 (yD a1 10).bind fun x2=>
 some x2
noncomputable def strings_Repeat (a1:ByteArray) (a2:Int):Option ByteArray:=if 0≤a2∧a2≤9223372036854775807∧a1.size*a2.toNat≤140737488355328 then some ⟨(Lib.repeatL a1.data.toList a2.toNat).toArray⟩ else none
noncomputable def xM (a1:Int):Option ByteArray:=
 (vE a1).bind fun x2=>
 (strings_Repeat (bs [48]) (w64 (6-(x2.size:Int)))).bind fun x4=>
 (cat (bs [103,101,110,47]) x4).bind fun x6=>
 (cat x6 x2).bind fun x8=>
 some x8
noncomputable def zV (a1:Int):Option zB:=
 (xY a1 0 20000).bind fun x2=>
 if !x2 then
  (some ({Code:=3,zF:=({Files:=([]:List File),Budget:=0,Writes:=0,Stop:=0,Down:=false}:zF)}:zB))
 else
  (if a1==0 then
   (some ({Code:=8,zF:=({Files:=([]:List File),Budget:=0,Writes:=0,Stop:=0,Down:=false}:zF)}:zB))
  else
   ((zO ({Files:=([]:List File),Budget:=a1,Writes:=0,Stop:=(-1),Down:=false}:zF) (bs [99,117,114]) [49]).bind fun x6=>
   (xM 1).bind fun x8=>
   (zO x6 x8 ([]:List Int)).bind fun x10=>
   (zO x10 (bs [114,111,111,116,115]) ([]:List Int)).bind fun x12=>
   some ({Code:=0,zF:=x12}:zB)))
noncomputable def xW (a1:(List Int)) (a2:(List Int)) (s10:Int):Option (Lp Int (Fl Bool Unit)):=
 if decide (s10< (a1.length:Int)) then
  ((idx a1 s10).bind fun x12=>
  (idx a2 s10).bind fun x14=>
  if x12 !=x14 then
   (some (Lp.done (Fl.ret false)))
  else
   (some (Lp.go (w64 (s10+1)))))
 else
  (some (Lp.done (Fl.nxt ())))
noncomputable def xE (a1:(List Int)) (a2:(List Int)):Int→Option (Fl Bool Unit):=loop (xW a1 a2)
noncomputable def xI (a1:(List Int)) (a2:(List Int)):Option Bool:=
 if (a1.length:Int) !=(a2.length:Int) then
  (some false)
 else
  ((xE a1 a2 0).bind (Fl.go some fun v17=>
  some true))
noncomputable def xZ (a1:File) (a2:File):Option Bool:=
 if !(seq a1.Path a2.Path) then
  (some false)
 else
  ((xI a1.Data a2.Data).bind fun x4=>
  if !x4 then
   (some false)
  else
   (some true))
noncomputable def xV (a1:(List File)) (a2:(List File)) (s12:Int):Option (Lp Int (Fl Bool Unit)):=
 if decide (s12< (a1.length:Int)) then
  ((idx a1 s12).bind fun x14=>
  (idx a2 s12).bind fun x16=>
  (xZ x14 x16).bind fun x18=>
  if !x18 then
   (some (Lp.done (Fl.ret false)))
  else
   (some (Lp.go (w64 (s12+1)))))
 else
  (some (Lp.done (Fl.nxt ())))
noncomputable def xK (a1:(List File)) (a2:(List File)):Int→Option (Fl Bool Unit):=loop (xV a1 a2)
noncomputable def xH (a1:(List File)) (a2:(List File)):Option Bool:=
 if (a1.length:Int) !=(a2.length:Int) then
  (some false)
 else
  ((xK a1 a2 0).bind (Fl.go some fun v21=>
  some true))
noncomputable def xX (a1:zF) (a2:zF):Option Bool:=
 (xH a1.Files a2.Files).bind fun x3=>
 if !x3 then
  (some false)
 else
  (if a1.Budget !=a2.Budget then
   (some false)
  else
   (if a1.Writes !=a2.Writes then
    (some false)
   else
    (if a1.Stop !=a2.Stop then
     (some false)
    else
     (if !(a1.Down==a2.Down) then
      (some false)
     else
      (some true)))))
noncomputable def zQ (a1:zB) (a2:zB):Option Bool:=
 if a1.Code !=a2.Code then
  (some false)
 else
  ((xX a1.zF a2.zF).bind fun x4=>
  if !x4 then
   (some false)
  else
   (some true))
noncomputable def xQ (s6:(Int×ByteArray)):Option (Lp (Int×ByteArray) ByteArray):=
 if decide (s6.1>0) then
  ((cat (b2s [IntKind.u8.wrap (w64 (48+(s6.1.tmod 10)))]) s6.2).bind fun x8=>
  some (Lp.go (w64 (s6.1.tdiv 10),x8)))
 else
  (some (Lp.done s6.2))
noncomputable def xA:(Int×ByteArray)→Option ByteArray:=loop xQ
noncomputable def zX (a1:Int):Option ByteArray:=
 if decide (a1≤0) then
  (some (bs [109,48]))
 else
  ((xA (a1,bs [])).bind fun v10=>
  (cat (bs [109]) v10).bind fun x11=>
  some x11)
noncomputable def yK (s6:((List Int)×Int×Int)):Option (Lp ((List Int)×Int×Int) ((List Int)×Int)):=
 if decide (s6.2.2< (s6.1.length:Int)) then
  ((idx s6.1 s6.2.2).bind fun x8=>
  some (Lp.go (s6.1.set s6.2.2.toNat (IntKind.u8.wrap (s6.2.1)),w64 (s6.2.1+1),w64 (s6.2.2+1))))
 else
  (some (Lp.done (s6.1,s6.2.1)))
noncomputable def yM:((List Int)×Int×Int)→Option ((List Int)×Int):=loop yK
noncomputable def yH (a1:(List Int)) (a2:Int):Option (Int×(List Int)):=
 (yM (a1,a2,0)).bind fun v10=>
 some (v10.2,v10.1)
noncomputable def yJ (s14:((List File)×Int×Int)):Option (Lp ((List File)×Int×Int) ((List File)×Int)):=
 if decide (s14.2.2< (s14.1.length:Int)) then
  ((zX s14.2.1).bind fun x16=>
  (idx s14.1 s14.2.2).bind fun x18=>
  (idx (s14.1.set s14.2.2.toNat ({Path:=x16,Data:=x18.Data}:File)) s14.2.2).bind fun x20=>
  (yH x20.Data (w64 (s14.2.1+1))).bind fun x22=>
  (same x22.2 x20.Data).bind fun u24=>
  some (Lp.go ((s14.1.set s14.2.2.toNat ({Path:=x16,Data:=x18.Data}:File)).set s14.2.2.toNat ({Path:=x20.Path,Data:=x22.2}:File),x22.1,w64 (s14.2.2+1))))
 else
  (some (Lp.done (s14.1,s14.2.1)))
noncomputable def yN:((List File)×Int×Int)→Option ((List File)×Int):=loop yJ
noncomputable def yI (a1:(List File)) (a2:Int):Option (Int×(List File)):=
 (yN (a1,a2,0)).bind fun v26=>
 some (v26.2,v26.1)
noncomputable def yR (a1:zF) (a2:Int):Option (Int×(List File)):=
 (yI a1.Files a2).bind fun x3=>
 (same x3.2 a1.Files).bind fun u5=>
 some (x3.1,x3.2)
noncomputable def zS (a1:zB) (a2:Int):Option (Int×(List File)):=
 (yR a1.zF a2).bind fun x3=>
 (same x3.2 a1.zF.Files).bind fun u5=>
 some (x3.1,x3.2)
noncomputable def yO (a1:(List Int)) (s7:(Int×Int)):Option (Lp (Int×Int) (Fl Int Int)):=
 if decide (s7.2< (a1.length:Int)) then
  ((idx a1 s7.2).bind fun x9=>
  if x9 !=(IntKind.u8.wrap (s7.1)) then
   (some (Lp.done (Fl.ret (-1))))
  else
   (some (Lp.go (w64 (s7.1+1),w64 (s7.2+1)))))
 else
  (some (Lp.done (Fl.nxt s7.1)))
noncomputable def yX (a1:(List Int)):(Int×Int)→Option (Fl Int Int):=loop (yO a1)
noncomputable def yQ (a1:(List Int)) (a2:Int):Option Int:=
 (yX a1 (a2,0)).bind (Fl.go some fun v12=>
 some v12)
noncomputable def yP (a1:(List File)) (s14:(Int×Int)):Option (Lp (Int×Int) (Fl Int Int)):=
 if decide (s14.2< (a1.length:Int)) then
  ((idx a1 s14.2).bind fun x16=>
  (zX s14.1).bind fun x18=>
  if !(seq x16.Path x18) then
   (some (Lp.done (Fl.ret (-1))))
  else
   ((idx a1 s14.2).bind fun x21=>
   (yQ x21.Data (w64 (s14.1+1))).bind fun x23=>
   if decide (x23<0) then
    (some (Lp.done (Fl.ret (-1))))
   else
    (some (Lp.go (x23,w64 (s14.2+1))))))
 else
  (some (Lp.done (Fl.nxt s14.1)))
noncomputable def yU (a1:(List File)):(Int×Int)→Option (Fl Int Int):=loop (yP a1)
noncomputable def yS (a1:(List File)) (a2:Int):Option Int:=
 (yU a1 (a2,0)).bind (Fl.go some fun v26=>
 some v26)
noncomputable def yZ (a1:zF) (a2:Int):Option Int:=
 (yS a1.Files a2).bind fun x3=>
 if decide (x3<0) then
  (some (-1))
 else
  (some x3)
noncomputable def zN (a1:zB) (a2:Int):Option Int:=
 (yZ a1.zF a2).bind fun x3=>
 if decide (x3<0) then
  (some (-1))
 else
  (some x3)
noncomputable def zR (a1:Int):Option Bool:=
 (yG a1).bind fun x2=>
 (zV a1).bind fun x4=>
 (zQ x4 x2).bind fun x6=>
 if !x6 then
  (some false)
 else
  ((zS x4 1).bind fun x9=>
  (same x9.2 x4.zF.Files).bind fun u11=>
  (zN ({Code:=x4.Code,zF:=({Files:=x9.2,Budget:=x4.zF.Budget,Writes:=x4.zF.Writes,Stop:=x4.zF.Stop,Down:=x4.zF.Down}:zF)}:zB) 1).bind fun x13=>
  if decide (x13<0) then
   (some false)
  else
   (if x13 !=x9.1 then
    (some false)
   else
    ((zV a1).bind fun x17=>
    (zQ x17 x2).bind fun x19=>
    if !x19 then
     (some false)
    else
     ((zN ({Code:=x4.Code,zF:=({Files:=x9.2,Budget:=x4.zF.Budget,Writes:=x4.zF.Writes,Stop:=x4.zF.Stop,Down:=x4.zF.Down}:zF)}:zB) 1).bind fun x22=>
     if decide (x22<0) then
      (some false)
     else
      (if x22 !=x9.1 then
       (some false)
      else
       (some true))))))
end Go.Told

import Derived.Test.YtlagdfkkokgakaaImF
set_option linter.unusedVariables false
set_option maxRecDepth 4000
namespace Go.Told
open Go Go.Im
structure File where
 Path:ByteArray
 Data:(List Int)
 deriving DecidableEq
def File.enc (o:Bool) (x:File):List D:=[.sc (.string x.Path),.s o 1 x.Data.length (x.Data.map eU8)]
theorem File.ro (o:Bool) (x:File):D.ro.roC (File.enc o x)=File.enc false x:=by
 simp only [File.enc,D.ro.roC,D.ro,zAo (enc:=eU8) (enc':=eU8) (fun _=>rfl)]
theorem File.fl (x:File):jK (File.enc true x):=(flatK wE (flatK (zDm (zD0 (fun _=>(flatK wE zCB)) _)) zCB))
structure zA where
 Files:(List File)
 Budget:Int
 Writes:Int
 Stop:Int
 Down:Bool
 deriving DecidableEq
def zA.enc (o:Bool) (x:zA):List D:=[.s o 2 x.Files.length (x.Files.map (File.enc o)),.sc (.int .i64 x.Budget),.sc (.int .i64 x.Writes),.sc (.int .i64 x.Stop),.sc (.bool x.Down)]
theorem zA.ro (o:Bool) (x:zA):D.ro.roC (zA.enc o x)=zA.enc false x:=by
 simp only [zA.enc,D.ro.roC,D.ro,zAo (enc:=(File.enc o)) (enc':=(File.enc false)) (File.ro o)]
theorem zA.fl (x:zA):jK (zA.enc true x):=(flatK (zDm (zD0 (fun _=>(File.fl _)) _)) (flatK wE (flatK wE (flatK wE (flatK wE zCB)))))
structure zD where
 Code:Int
 zA:zA
 deriving DecidableEq
def zD.enc (o:Bool) (x:zD):List D:=[.sc (.int .i64 x.Code),.s o 2 x.zA.Files.length (x.zA.Files.map (File.enc o)),.sc (.int .i64 x.zA.Budget),.sc (.int .i64 x.zA.Writes),.sc (.int .i64 x.zA.Stop),.sc (.bool x.zA.Down)]
theorem zD.ro (o:Bool) (x:zD):D.ro.roC (zD.enc o x)=zD.enc false x:=by
 simp only [zD.enc,D.ro.roC,D.ro,zAo (enc:=(File.enc o)) (enc':=(File.enc false)) (File.ro o)]
theorem zD.fl (x:zD):jK (zD.enc true x):=(flatK wE (flatK (zDm (zD0 (fun _=>(File.fl _)) _)) (flatK wE (flatK wE (flatK wE (flatK wE zCB))))))
noncomputable def wU (a1:(List Int)) (a2:Int):Option Int:=
 if decide ((w64 (a2-(a1.length:Int)))<0) then
  (some (-1))
 else
  (some (w64 (a2-(a1.length:Int))))
noncomputable def vW (a1:File) (a2:Int):Option Int:=
 if decide ((w64 (a2-(a1.Path.size:Int)))<0) then
  (some (-1))
 else
  ((wU a1.Data (w64 (a2-(a1.Path.size:Int)))).bind fun x4=>
  if decide (x4<0) then
   (some (-1))
  else
   (some x4))
noncomputable def wK (a1:(List File)) (s10:(Int×Int)):Option (Lp (Int×Int) (Fl Int Int)):=
 if decide (s10.2< (a1.length:Int)) then
  ((idx a1 s10.2).bind fun x12=>
  (vW x12 s10.1).bind fun x14=>
  if decide (x14<0) then
   (some (Lp.done (Fl.ret (-1))))
  else
   (some (Lp.go (x14,w64 (s10.2+1)))))
 else
  (some (Lp.done (Fl.nxt s10.1)))
noncomputable def vC (a1:(List File)):(Int×Int)→Option (Fl Int Int):=loop (wK a1)
noncomputable def wY (a1:(List File)) (a2:Int):Option Int:=
 if decide ((w64 (a2-(a1.length:Int)))<0) then
  (some (-1))
 else
  ((vC a1 (w64 (a2-(a1.length:Int)),0)).bind (Fl.go some fun v17=>
  some v17))
noncomputable def uD (a1:zA) (a2:Int):Option Int:=
 (wY a1.Files a2).bind fun x3=>
 if decide (x3<0) then
  (some (-1))
 else
  (some x3)
noncomputable def vS (a1:(List Int)) (s9:((List Int)×Int)):Option (Lp ((List Int)×Int) (List Int)):=
 if decide (s9.2< (a1.length:Int)) then
  ((idx a1 s9.2).bind fun x11=>
  (idx s9.1 s9.2).bind fun x13=>
  some (Lp.go (s9.1.set s9.2.toNat x11,w64 (s9.2+1))))
 else
  (some (Lp.done s9.1))
noncomputable def wT (a1:(List Int)):((List Int)×Int)→Option (List Int):=loop (vS a1)
noncomputable def vG (a1:(List Int)):Option (List Int):=
 (mk 1 (a1.length:Int) 0).bind fun x2=>
 (wT a1 (x2,0)).bind fun v15=>
 some v15
noncomputable def uE (a1:File):Option File:=
 (vG a1.Data).bind fun x2=>
 some ({Path:=a1.Path,Data:=x2}:File)
noncomputable def vR (a1:(List File)) (s11:((List File)×Int)):Option (Lp ((List File)×Int) (List File)):=
 if decide (s11.2< (a1.length:Int)) then
  ((idx a1 s11.2).bind fun x13=>
  (uE x13).bind fun x15=>
  (idx s11.1 s11.2).bind fun x17=>
  some (Lp.go (s11.1.set s11.2.toNat x15,w64 (s11.2+1))))
 else
  (some (Lp.done s11.1))
noncomputable def vH (a1:(List File)):((List File)×Int)→Option (List File):=loop (vR a1)
noncomputable def wR (a1:(List File)):Option (List File):=
 (mk 40 (a1.length:Int) ({Path:=ByteArray.empty,Data:=([]:List Int)}:File)).bind fun x2=>
 (vH a1 (x2,0)).bind fun v19=>
 some v19
noncomputable def yL (a1:zA):Option zA:=
 (wR a1.Files).bind fun x2=>
 some ({Files:=x2,Budget:=a1.Budget,Writes:=a1.Writes,Stop:=a1.Stop,Down:=a1.Down}:zA)
noncomputable def xK (a1:Int) (a2:Int) (a3:Int):Option Bool:=
 if decide (a1≥a2) then
  (some (decide (a1≤a3)))
 else
  (some false)
noncomputable def xM (a1:Int):Option Bool:=
 if decide (a1≥97) then
  (some (decide (a1≤122)))
 else
  (some false)
noncomputable def wX (a1:Int):Option Bool:=
 if decide (a1≥48) then
  (some (decide (a1≤57)))
 else
  (some false)
noncomputable def xV (a1:Int):Option Bool:=
 (xM a1).bind fun x2=>
 if x2 then
  (some true)
 else
  ((wX a1).bind fun x5=>
  if x5 then
   (some true)
  else
   (some (a1==95)))
noncomputable def vY (a1:Int):Option Bool:=
 (xV a1).bind fun x2=>
 if x2 then
  (some true)
 else
  (if a1==46 then
   (some true)
  else
   (if a1==45 then
    (some true)
   else
    (some (a1==47))))
noncomputable def yR (a1:ByteArray) (s11:Int):Option (Lp Int (Fl Int Unit)):=
 if decide (s11< (a1.size:Int)) then
  ((bidx a1 s11).bind fun x13=>
  (vY x13).bind fun x15=>
  if !x15 then
   (some (Lp.done (Fl.ret 5)))
  else
   (some (Lp.go (w64 (s11+1)))))
 else
  (some (Lp.done (Fl.nxt ())))
noncomputable def yJ (a1:ByteArray):Int→Option (Fl Int Unit):=loop (yR a1)
noncomputable def zY (a1:ByteArray):Option Int:=
 (if decide ((a1.size:Int)<1) then
   (some true)
  else
   (some (decide ((a1.size:Int)>40)))).bind fun v3=>
 if v3 then
  (some 5)
 else
  ((yJ a1 0).bind (Fl.go some fun v18=>
  some 0))
noncomputable def wN (a1:zA) (s5:(Int×Int)):Option (Lp (Int×Int) Int):=
 if decide (s5.2< (a1.Files.length:Int)) then
  ((idx a1.Files s5.2).bind fun x7=>
  some (Lp.go (w64 (s5.1+(x7.Data.length:Int)),w64 (s5.2+1))))
 else
  (some (Lp.done s5.1))
noncomputable def wW (a1:zA):(Int×Int)→Option Int:=loop (wN a1)
noncomputable def vE (a1:zA):Option Int:=
 (wW a1 (0,0)).bind fun v9=>
 some v9
noncomputable def yS (a1:zA) (s29:Int):Option (Lp Int (Fl Int Unit)):=
 if decide (s29< (a1.Files.length:Int)) then
  ((idx a1.Files s29).bind fun x31=>
  (zY x31.Path).bind fun x33=>
  if x33 !=0 then
   (some (Lp.done (Fl.ret x33)))
  else
   ((if decide (s29>0) then
      ((idx a1.Files s29).bind fun x37=>
      (idx a1.Files (w64 (s29-1))).bind fun x39=>
      some (slt x37.Path x39.Path||seq x37.Path x39.Path))
     else
      (some false)).bind fun v41=>
   if v41 then
    (some (Lp.done (Fl.ret 1)))
   else
    ((idx a1.Files s29).bind fun x43=>
    if decide ((x43.Data.length:Int)>4000) then
     (some (Lp.done (Fl.ret 2)))
    else
     (some (Lp.go (w64 (s29+1)))))))
 else
  (some (Lp.done (Fl.nxt ())))
noncomputable def yI (a1:zA):Int→Option (Fl Int Unit):=loop (yS a1)
noncomputable def yM (a1:zA):Option Int:=
 (xK a1.Budget 0 20000).bind fun x2=>
 (if !x2 then
   (some true)
  else
   ((xK a1.Writes 0 1000000000).bind fun x5=>
   if !x5 then
    (some true)
   else
    ((xK a1.Stop (-1) 1000000000).bind fun x8=>
    some (!x8)))).bind fun v10=>
 if v10 then
  (some 3)
 else
  (if decide ((a1.Files.length:Int)>120) then
   (some 2)
  else
   ((yI a1 0).bind (Fl.go some fun v46=>
   (vE a1).bind fun x47=>
   if decide (x47>a1.Budget) then
    (some 8)
   else
    (some 0))))
noncomputable def uF (a1:zA):Option Int:=
 (yM a1).bind fun x2=>
 if x2 !=0 then
  (some x2)
 else
  (if a1.Down then
   (some 9)
  else
   (some 0))
noncomputable def wB (a1:zA) (s20:((List File)×Int)):Option (Lp ((List File)×Int) (List File)):=
 if decide (s20.2< (a1.Files.length:Int)) then
  ((idx a1.Files s20.2).bind fun x22=>
  (idx a1.Files s20.2).bind fun x24=>
  (app 1 ([]:List Int) x24.Data).bind fun x26=>
  (app 40 s20.1 [({Path:=x22.Path,Data:=x26}:File)]).bind fun x28=>
  some (Lp.go (x28,w64 (s20.2+1))))
 else
  (some (Lp.done s20.1))
noncomputable def xS (a1:zA):((List File)×Int)→Option (List File):=loop (wB a1)
noncomputable def wH (a1:zA):Option zA:=
 (xS a1 (([]:List File),0)).bind fun v30=>
 some ({Files:=v30,Budget:=a1.Budget,Writes:=a1.Writes,Stop:=a1.Stop,Down:=a1.Down}:zA)
noncomputable def vD (a1:zA) (a2:ByteArray) (s7:Int):Option (Lp Int (Fl Int Unit)):=
 if decide (s7< (a1.Files.length:Int)) then
  ((idx a1.Files s7).bind fun x9=>
  if seq x9.Path a2 then
   (some (Lp.done (Fl.ret s7)))
  else
   (some (Lp.go (w64 (s7+1)))))
 else
  (some (Lp.done (Fl.nxt ())))
noncomputable def uZ (a1:zA) (a2:ByteArray):Int→Option (Fl Int Unit):=loop (vD a1 a2)
noncomputable def xB (a1:zA) (a2:ByteArray):Option Int:=
 (uZ a1 a2 0).bind (Fl.go some fun v12=>
 some (-1))
noncomputable def vZ (a1:zA):Option (Bool×zA):=
 if a1.Down then
  (some (false,a1))
 else
  ((if a1.Stop !=(-1) then
     (some (decide (a1.Writes≥a1.Stop)))
    else
     (some false)).bind fun v4=>
  if v4 then
   (some (false,({Files:=a1.Files,Budget:=a1.Budget,Writes:=a1.Writes,Stop:=a1.Stop,Down:=true}:zA)))
  else
   (some (true,({Files:=a1.Files,Budget:=a1.Budget,Writes:=w64 (a1.Writes+1),Stop:=a1.Stop,Down:=a1.Down}:zA))))
noncomputable def vI (a1:zA) (a2:ByteArray):Option (Bool×zA):=
 (vZ a1).bind fun x3=>
 if !x3.1 then
  (some (false,x3.2))
 else
  ((xB x3.2 a2).bind fun x6=>
  (zCO x3.2.Files 0 x6).bind fun x8=>
  (app 40 ([]:List File) x8).bind fun x10=>
  (zCO x3.2.Files (w64 (x6+1)) (x3.2.Files.length:Int)).bind fun x12=>
  (app 40 x10 x12).bind fun x14=>
  some (true,({Files:=x14,Budget:=x3.2.Budget,Writes:=x3.2.Writes,Stop:=x3.2.Stop,Down:=x3.2.Down}:zA)))
noncomputable def xL (a1:zA) (a2:ByteArray):Option zD:=
 (uF a1).bind fun x3=>
 if x3 !=0 then
  (some ({Code:=x3,zA:=({Files:=([]:List File),Budget:=0,Writes:=0,Stop:=0,Down:=false}:zA)}:zD))
 else
  ((wH a1).bind fun x6=>
  (xB x6 a2).bind fun x8=>
  if decide (x8<0) then
   (some ({Code:=4,zA:=({Files:=([]:List File),Budget:=0,Writes:=0,Stop:=0,Down:=false}:zA)}:zD))
  else
   ((vI x6 a2).bind fun x11=>
   if !x11.1 then
    (some ({Code:=9,zA:=x11.2}:zD))
   else
    (some ({Code:=0,zA:=x11.2}:zD))))
noncomputable def yU (a1:Int) (a2:Int) (a3:Int):Option Bool:=
 if decide (a2≤a1) then
  (some (decide (a1≤a3)))
 else
  (some false)
noncomputable def zW (a1:Int):Option Bool:=
 if decide (a1≥97) then
  (if decide (a1≤122) then
   (some true)
  else
   (if decide (a1≥48) then
    (if decide (a1≤57) then
     (some true)
    else
     (some (a1==95)))
   else
    (some (a1==95))))
 else
  (if decide (a1≥48) then
   (if decide (a1≤57) then
    (some true)
   else
    (some (a1==95)))
  else
   (some (a1==95)))
noncomputable def uH (a1:ByteArray) (s15:Int):Option (Lp Int (Fl Int Unit)):=
 if decide (s15< (a1.size:Int)) then
  ((bidx a1 s15).bind fun x17=>
  (zW x17).bind fun x19=>
  (if !x19 then
    (if x17 !=46 then
     (if x17 !=45 then
      (some (x17 !=47))
     else
      (some false))
    else
     (some false))
   else
    (some false)).bind fun v24=>
  if v24 then
   (some (Lp.done (Fl.ret 5)))
  else
   (some (Lp.go (w64 (s15+1)))))
 else
  (some (Lp.done (Fl.nxt ())))
noncomputable def yY (a1:ByteArray):Int→Option (Fl Int Unit):=loop (uH a1)
noncomputable def xW (a1:ByteArray):Option Int:=
 (if decide ((a1.size:Int)<1) then
   (some true)
  else
   (some (decide ((a1.size:Int)>40)))).bind fun v3=>
 if v3 then
  (some 5)
 else
  ((yY a1 0).bind (Fl.go some fun v26=>
  some 0))
noncomputable def uU (a1:zA) (s5:(Int×Int)):Option (Lp (Int×Int) Int):=
 if decide (s5.2< (a1.Files.length:Int)) then
  ((idx a1.Files s5.2).bind fun x7=>
  some (Lp.go (w64 (s5.1+(x7.Data.length:Int)),w64 (s5.2+1))))
 else
  (some (Lp.done s5.1))
noncomputable def wP (a1:zA):(Int×Int)→Option Int:=loop (uU a1)
noncomputable def vB (a1:zA):Option Int:=
 (wP a1 (0,0)).bind fun v9=>
 some v9
noncomputable def uI (a1:zA) (s25:Int):Option (Lp Int (Fl Int Unit)):=
 if decide (s25< (a1.Files.length:Int)) then
  ((idx a1.Files s25).bind fun x27=>
  (xW x27.Path).bind fun x29=>
  if x29 !=0 then
   (some (Lp.done (Fl.ret x29)))
  else
   ((if decide (s25>0) then
      ((idx a1.Files (w64 (s25-1))).bind fun x33=>
      some (slt x27.Path x33.Path||seq x27.Path x33.Path))
     else
      (some false)).bind fun v35=>
   if v35 then
    (some (Lp.done (Fl.ret 1)))
   else
    (if decide ((x27.Data.length:Int)>4000) then
     (some (Lp.done (Fl.ret 2)))
    else
     (some (Lp.go (w64 (s25+1)))))))
 else
  (some (Lp.done (Fl.nxt ())))
noncomputable def yX (a1:zA):Int→Option (Fl Int Unit):=loop (uI a1)
noncomputable def xR (a1:zA):Option Int:=
 (yU a1.Budget 0 20000).bind fun x2=>
 (if !x2 then
   (some true)
  else
   ((yU a1.Writes 0 1000000000).bind fun x5=>
   if !x5 then
    (some true)
   else
    ((yU a1.Stop (-1) 1000000000).bind fun x8=>
    some (!x8)))).bind fun v10=>
 if v10 then
  (some 3)
 else
  (if decide ((a1.Files.length:Int)>120) then
   (some 2)
  else
   ((yX a1 0).bind (Fl.go some fun v38=>
   (vB a1).bind fun x39=>
   if decide (x39>a1.Budget) then
    (some 8)
   else
    (some 0))))
noncomputable def yQ (a1:(List Int)):Option (List Int):=
 (app 1 ([]:List Int) a1).bind fun x3=>
 some x3
noncomputable def vN (a1:zA) (s16:((List File)×Int)):Option (Lp ((List File)×Int) (List File)):=
 if decide (s16.2< (a1.Files.length:Int)) then
  ((idx a1.Files s16.2).bind fun x18=>
  (yQ x18.Data).bind fun x20=>
  (app 40 s16.1 [({Path:=x18.Path,Data:=x20}:File)]).bind fun x22=>
  some (Lp.go (x22,w64 (s16.2+1))))
 else
  (some (Lp.done s16.1))
noncomputable def yK (a1:zA):((List File)×Int)→Option (List File):=loop (vN a1)
noncomputable def yG (a1:zA):Option zA:=
 (yK a1 (([]:List File),0)).bind fun v24=>
 some ({Files:=v24,Budget:=a1.Budget,Writes:=a1.Writes,Stop:=a1.Stop,Down:=a1.Down}:zA)
noncomputable def bytealg_CompareString (a1 a2:ByteArray):Option Int:=some (zDN a1 a2)
noncomputable def strings_Compare (a1:ByteArray) (a2:ByteArray):Option Int:=
 (bytealg_CompareString a1 a2).bind fun x3=>
 some x3
noncomputable def yA (a1:File) (a2:ByteArray):Option Int:=
 (strings_Compare a1.Path a2).bind fun x3=>
 some x3
noncomputable def zK (a1:(List File)) (a2:ByteArray) (s9:(Int×Int)):Option (Lp (Int×Int) Int):=
 if decide (s9.1<s9.2) then
  ((idx a1 (w64 ((IntKind.u64.wrap (w64 (s9.1+s9.2))).fdiv (2^(min (1:Int).toNat 64))))).bind fun x11=>
  (yA x11 a2).bind fun x13=>
  if decide (x13<0) then
   (some (Lp.go (w64 ((w64 ((IntKind.u64.wrap (w64 (s9.1+s9.2))).fdiv (2^(min (1:Int).toNat 64))))+1),s9.2)))
  else
   (some (Lp.go (s9.1,w64 ((IntKind.u64.wrap (w64 (s9.1+s9.2))).fdiv (2^(min (1:Int).toNat 64)))))))
 else
  (some (Lp.done s9.1))
noncomputable def zH (a1:(List File)) (a2:ByteArray):(Int×Int)→Option Int:=loop (zK a1 a2)
noncomputable def zB (a1:(List File)) (a2:ByteArray):Option (Int×Bool):=
 (zH a1 a2 (0,(a1.length:Int))).bind fun v16=>
 if decide (v16< (a1.length:Int)) then
  ((idx a1 v16).bind fun x18=>
  (yA x18 a2).bind fun x20=>
  some (v16,x20==0))
 else
  (some (v16,false))
noncomputable def xD (a1:zA) (a2:ByteArray):Option (Int×Bool):=
 (zB a1.Files a2).bind fun x3=>
 some (x3.1,x3.2)
noncomputable def zZ (a1:List File) (a2 a3:Int):Option (List File):=if 0≤a2∧a2≤a3∧a3≤a1.length∧a1.length≤1099511627776 then some (a1.take a2.toNat++a1.drop a3.toNat) else none
noncomputable def yT (a1:zA) (a2:Int):Option zA:=
 (zZ a1.Files a2 (w64 (a2+1))).bind fun x3=>
 some ({Files:=x3,Budget:=a1.Budget,Writes:=a1.Writes,Stop:=a1.Stop,Down:=a1.Down}:zA)
noncomputable def zL (a1:zA) (a2:Int):Option (Int×zA):=
 (if decide (a1.Stop≥0) then
   (some (decide (a1.Writes≥a1.Stop)))
  else
   (some false)).bind fun v4=>
 if v4 then
  (some (9,({Files:=a1.Files,Budget:=a1.Budget,Writes:=a1.Writes,Stop:=a1.Stop,Down:=true}:zA)))
 else
  ((yT a1 a2).bind fun x6=>
  some (0,({Files:=x6.Files,Budget:=x6.Budget,Writes:=w64 (x6.Writes+1),Stop:=x6.Stop,Down:=x6.Down}:zA)))
noncomputable def yD (a1:zA) (a2:ByteArray):Option (Int×zA):=
 (xD a1 a2).bind fun x3=>
 if !x3.2 then
  (some (4,a1))
 else
  ((zL a1 x3.1).bind fun x6=>
  some (x6.1,x6.2))
noncomputable def xI (a1:zA) (a2:ByteArray):Option (Int×zA):=
 (yD a1 a2).bind fun x3=>
 some (x3.1,x3.2)
noncomputable def uO (a1:zA) (a2:Int):Option zD:=
 (if a2 !=0 then
   (some (a2 !=9))
  else
   (some false)).bind fun v4=>
 if v4 then
  (some ({Code:=a2,zA:=({Files:=([]:List File),Budget:=0,Writes:=0,Stop:=0,Down:=false}:zA)}:zD))
 else
  (some ({Code:=a2,zA:=a1}:zD))
noncomputable def zP (a1:zA) (a2:ByteArray):Option zD:=
 (xR a1).bind fun x3=>
 (if x3==0 then
   (some a1.Down)
  else
   (some false)).bind fun v6=>
 (if v6 then
   (some 9)
  else
   (some x3)).bind fun v8=>
 if v8 !=0 then
  (some ({Code:=v8,zA:=({Files:=([]:List File),Budget:=0,Writes:=0,Stop:=0,Down:=false}:zA)}:zD))
 else
  ((yG a1).bind fun x10=>
  (xI x10 a2).bind fun x12=>
  (uO x12.2 x12.1).bind fun x14=>
  some x14)
noncomputable def yO (a1:zA) (a2:ByteArray):Option zD:=
 (zP a1 a2).bind fun x3=>
 some x3
noncomputable def vT (a1:(List Int)) (a2:(List Int)) (s10:Int):Option (Lp Int (Fl Bool Unit)):=
 if decide (s10< (a1.length:Int)) then
  ((idx a1 s10).bind fun x12=>
  (idx a2 s10).bind fun x14=>
  if x12 !=x14 then
   (some (Lp.done (Fl.ret false)))
  else
   (some (Lp.go (w64 (s10+1)))))
 else
  (some (Lp.done (Fl.nxt ())))
noncomputable def wS (a1:(List Int)) (a2:(List Int)):Int→Option (Fl Bool Unit):=loop (vT a1 a2)
noncomputable def wQ (a1:(List Int)) (a2:(List Int)):Option Bool:=
 if (a1.length:Int) !=(a2.length:Int) then
  (some false)
 else
  ((wS a1 a2 0).bind (Fl.go some fun v17=>
  some true))
noncomputable def vX (a1:File) (a2:File):Option Bool:=
 if !(seq a1.Path a2.Path) then
  (some false)
 else
  ((wQ a1.Data a2.Data).bind fun x4=>
  if !x4 then
   (some false)
  else
   (some true))
noncomputable def vU (a1:(List File)) (a2:(List File)) (s12:Int):Option (Lp Int (Fl Bool Unit)):=
 if decide (s12< (a1.length:Int)) then
  ((idx a1 s12).bind fun x14=>
  (idx a2 s12).bind fun x16=>
  (vX x14 x16).bind fun x18=>
  if !x18 then
   (some (Lp.done (Fl.ret false)))
  else
   (some (Lp.go (w64 (s12+1)))))
 else
  (some (Lp.done (Fl.nxt ())))
noncomputable def wV (a1:(List File)) (a2:(List File)):Int→Option (Fl Bool Unit):=loop (vU a1 a2)
noncomputable def wZ (a1:(List File)) (a2:(List File)):Option Bool:=
 if (a1.length:Int) !=(a2.length:Int) then
  (some false)
 else
  ((wV a1 a2 0).bind (Fl.go some fun v21=>
  some true))
noncomputable def wG (a1:zA) (a2:zA):Option Bool:=
 (wZ a1.Files a2.Files).bind fun x3=>
 if !x3 then
  (some false)
 else
  (if a1.Budget !=a2.Budget then
   (some false)
  else
   (if a1.Writes !=a2.Writes then
    (some false)
   else
    (if a1.Stop !=a2.Stop then
     (some false)
    else
     (if !(a1.Down==a2.Down) then
      (some false)
     else
      (some true)))))
noncomputable def zQ (a1:zD) (a2:zD):Option Bool:=
 if a1.Code !=a2.Code then
  (some false)
 else
  ((wG a1.zA a2.zA).bind fun x4=>
  if !x4 then
   (some false)
  else
   (some true))
noncomputable def vL (s6:(Int×ByteArray)):Option (Lp (Int×ByteArray) ByteArray):=
 if decide (s6.1>0) then
  ((cat (b2s [IntKind.u8.wrap (w64 (48+(s6.1.tmod 10)))]) s6.2).bind fun x8=>
  some (Lp.go (w64 (s6.1.tdiv 10),x8)))
 else
  (some (Lp.done s6.2))
noncomputable def wM:(Int×ByteArray)→Option ByteArray:=loop vL
noncomputable def yC (a1:Int):Option ByteArray:=
 if decide (a1≤0) then
  (some (bs [109,48]))
 else
  ((wM (a1,bs [])).bind fun v10=>
  (cat (bs [109]) v10).bind fun x11=>
  some x11)
noncomputable def xE (s6:((List Int)×Int×Int)):Option (Lp ((List Int)×Int×Int) ((List Int)×Int)):=
 if decide (s6.2.2< (s6.1.length:Int)) then
  ((idx s6.1 s6.2.2).bind fun x8=>
  some (Lp.go (s6.1.set s6.2.2.toNat (IntKind.u8.wrap (s6.2.1)),w64 (s6.2.1+1),w64 (s6.2.2+1))))
 else
  (some (Lp.done (s6.1,s6.2.1)))
noncomputable def xP:((List Int)×Int×Int)→Option ((List Int)×Int):=loop xE
noncomputable def xA (a1:(List Int)) (a2:Int):Option (Int×(List Int)):=
 (xP (a1,a2,0)).bind fun v10=>
 some (v10.2,v10.1)
noncomputable def xG (s14:((List File)×Int×Int)):Option (Lp ((List File)×Int×Int) ((List File)×Int)):=
 if decide (s14.2.2< (s14.1.length:Int)) then
  ((yC s14.2.1).bind fun x16=>
  (idx s14.1 s14.2.2).bind fun x18=>
  (idx (s14.1.set s14.2.2.toNat ({Path:=x16,Data:=x18.Data}:File)) s14.2.2).bind fun x20=>
  (xA x20.Data (w64 (s14.2.1+1))).bind fun x22=>
  (same x22.2 x20.Data).bind fun u24=>
  some (Lp.go ((s14.1.set s14.2.2.toNat ({Path:=x16,Data:=x18.Data}:File)).set s14.2.2.toNat ({Path:=x20.Path,Data:=x22.2}:File),x22.1,w64 (s14.2.2+1))))
 else
  (some (Lp.done (s14.1,s14.2.1)))
noncomputable def xQ:((List File)×Int×Int)→Option ((List File)×Int):=loop xG
noncomputable def xC (a1:(List File)) (a2:Int):Option (Int×(List File)):=
 (xQ (a1,a2,0)).bind fun v26=>
 some (v26.2,v26.1)
noncomputable def yN (a1:zA) (a2:Int):Option (Int×(List File)):=
 (xC a1.Files a2).bind fun x3=>
 (same x3.2 a1.Files).bind fun u5=>
 some (x3.1,x3.2)
noncomputable def zV (a1:zD) (a2:Int):Option (Int×(List File)):=
 (yN a1.zA a2).bind fun x3=>
 (same x3.2 a1.zA.Files).bind fun u5=>
 some (x3.1,x3.2)
noncomputable def xJ (a1:(List Int)) (s7:(Int×Int)):Option (Lp (Int×Int) (Fl Int Int)):=
 if decide (s7.2< (a1.length:Int)) then
  ((idx a1 s7.2).bind fun x9=>
  if x9 !=(IntKind.u8.wrap (s7.1)) then
   (some (Lp.done (Fl.ret (-1))))
  else
   (some (Lp.go (w64 (s7.1+1),w64 (s7.2+1)))))
 else
  (some (Lp.done (Fl.nxt s7.1)))
noncomputable def xY (a1:(List Int)):(Int×Int)→Option (Fl Int Int):=loop (xJ a1)
noncomputable def xX (a1:(List Int)) (a2:Int):Option Int:=
 (xY a1 (a2,0)).bind (Fl.go some fun v12=>
 some v12)
noncomputable def xO (a1:(List File)) (s14:(Int×Int)):Option (Lp (Int×Int) (Fl Int Int)):=
 if decide (s14.2< (a1.length:Int)) then
  ((idx a1 s14.2).bind fun x16=>
  (yC s14.1).bind fun x18=>
  if !(seq x16.Path x18) then
   (some (Lp.done (Fl.ret (-1))))
  else
   ((idx a1 s14.2).bind fun x21=>
   (xX x21.Data (w64 (s14.1+1))).bind fun x23=>
   if decide (x23<0) then
    (some (Lp.done (Fl.ret (-1))))
   else
    (some (Lp.go (x23,w64 (s14.2+1))))))
 else
  (some (Lp.done (Fl.nxt s14.1)))
noncomputable def xZ (a1:(List File)):(Int×Int)→Option (Fl Int Int):=loop (xO a1)
noncomputable def xU (a1:(List File)) (a2:Int):Option Int:=
 (xZ a1 (a2,0)).bind (Fl.go some fun v26=>
 some v26)
noncomputable def wD (a1:zA) (a2:Int):Option Int:=
 (xU a1.Files a2).bind fun x3=>
 if decide (x3<0) then
  (some (-1))
 else
  (some x3)
noncomputable def zR (a1:zD) (a2:Int):Option Int:=
 (wD a1.zA a2).bind fun x3=>
 if decide (x3<0) then
  (some (-1))
 else
  (some x3)
noncomputable def zU (a1:zA) (a2:ByteArray):Option Bool:=
 if decide ((a2.size:Int)>1048576) then
  (some true)
 else
  ((uD a1 1048576).bind fun x4=>
  if decide (x4<0) then
   (some true)
  else
   ((yL a1).bind fun x7=>
   (xL x7 a2).bind fun x9=>
   (yL a1).bind fun x11=>
   (yO x11 a2).bind fun x13=>
   (zQ x13 x9).bind fun x15=>
   if !x15 then
    (some false)
   else
    ((yL a1).bind fun x18=>
    (wG x11 x18).bind fun x20=>
    if !x20 then
     (some false)
    else
     ((yN x11 1).bind fun x23=>
     (if decide (x23.1<0) then
       (some true)
      else
       ((zQ x13 x9).bind fun x26=>
       some (!x26))).bind fun v28=>
     if v28 then
      (some false)
     else
      ((zV x13 1).bind fun x30=>
      (same x30.2 x13.zA.Files).bind fun u32=>
      (zR ({Code:=x13.Code,zA:=({Files:=x30.2,Budget:=x13.zA.Budget,Writes:=x13.zA.Writes,Stop:=x13.zA.Stop,Down:=x13.zA.Down}:zA)}:zD) 1).bind fun x34=>
      if decide (x34<0) then
       (some false)
      else
       (if x34 !=x30.1 then
        (some false)
       else
        ((yL a1).bind fun x38=>
        (yO x38 a2).bind fun x40=>
        (zQ x40 x9).bind fun x42=>
        if !x42 then
         (some false)
        else
         ((zR ({Code:=x13.Code,zA:=({Files:=x30.2,Budget:=x13.zA.Budget,Writes:=x13.zA.Writes,Stop:=x13.zA.Stop,Down:=x13.zA.Down}:zA)}:zD) 1).bind fun x45=>
         if decide (x45<0) then
          (some false)
         else
          (if x45 !=x30.1 then
           (some false)
          else
           (some true))))))))))
end Go.Told

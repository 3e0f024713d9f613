import Derived.Test.YtlagdfkkokgakaaImF
set_option linter.unusedVariables false
set_option maxRecDepth 4000
namespace Go.Told
open Go Go.Im
structure File where
 Path:ByteArray
 Data:(List Int)
 deriving DecidableEq
def File.enc (o:Bool) (x:File):List D:=[.sc (.string x.Path),.s o 1 x.Data.length (x.Data.map eU8)]
theorem File.ro (o:Bool) (x:File):D.ro.roC (File.enc o x)=File.enc false x:=by
 simp only [File.enc,D.ro.roC,D.ro,jI (enc:=eU8) (enc':=eU8) (fun _=>rfl)]
theorem File.fl (x:File):jU (File.enc true x):=(flatK xR (flatK (zDr (zDP (fun _=>(flatK xR zCQ)) _)) zCQ))
structure zA where
 Files:(List File)
 Budget:Int
 Writes:Int
 Stop:Int
 Down:Bool
 deriving DecidableEq
def zA.enc (o:Bool) (x:zA):List D:=[.s o 2 x.Files.length (x.Files.map (File.enc o)),.sc (.int .i64 x.Budget),.sc (.int .i64 x.Writes),.sc (.int .i64 x.Stop),.sc (.bool x.Down)]
theorem zA.ro (o:Bool) (x:zA):D.ro.roC (zA.enc o x)=zA.enc false x:=by
 simp only [zA.enc,D.ro.roC,D.ro,jI (enc:=(File.enc o)) (enc':=(File.enc false)) (File.ro o)]
theorem zA.fl (x:zA):jU (zA.enc true x):=(flatK (zDr (zDP (fun _=>(File.fl _)) _)) (flatK xR (flatK xR (flatK xR (flatK xR zCQ)))))
structure zC where
 Code:Int
 zA:zA
 deriving DecidableEq
def zC.enc (o:Bool) (x:zC):List D:=[.sc (.int .i64 x.Code),.s o 2 x.zA.Files.length (x.zA.Files.map (File.enc o)),.sc (.int .i64 x.zA.Budget),.sc (.int .i64 x.zA.Writes),.sc (.int .i64 x.zA.Stop),.sc (.bool x.zA.Down)]
theorem zC.ro (o:Bool) (x:zC):D.ro.roC (zC.enc o x)=zC.enc false x:=by
 simp only [zC.enc,D.ro.roC,D.ro,jI (enc:=(File.enc o)) (enc':=(File.enc false)) (File.ro o)]
theorem zC.fl (x:zC):jU (zC.enc true x):=(flatK xR (flatK (zDr (zDP (fun _=>(File.fl _)) _)) (flatK xR (flatK xR (flatK xR (flatK xR zCQ))))))
noncomputable def vO (a1:(List Int)) (a2:Int):Option Int:=
 if decide ((w64 (a2-(a1.length:Int)))<0) then
  (some (-1))
 else
  (some (w64 (a2-(a1.length:Int))))
noncomputable def uN (a1:File) (a2:Int):Option Int:=
 if decide ((w64 (a2-(a1.Path.size:Int)))<0) then
  (some (-1))
 else
  ((vO a1.Data (w64 (a2-(a1.Path.size:Int)))).bind fun x4=>
  if decide (x4<0) then
   (some (-1))
  else
   (some x4))
noncomputable def wZ (a1:(List File)) (s10:(Int×Int)):Option (Lp (Int×Int) (Fl Int Int)):=
 if decide (s10.2< (a1.length:Int)) then
  ((idx a1 s10.2).bind fun x12=>
  (uN x12 s10.1).bind fun x14=>
  if decide (x14<0) then
   (some (Lp.done (Fl.ret (-1))))
  else
   (some (Lp.go (x14,w64 (s10.2+1)))))
 else
  (some (Lp.done (Fl.nxt s10.1)))
noncomputable def vK (a1:(List File)):(Int×Int)→Option (Fl Int Int):=loop (wZ a1)
noncomputable def vL (a1:(List File)) (a2:Int):Option Int:=
 if decide ((w64 (a2-(a1.length:Int)))<0) then
  (some (-1))
 else
  ((vK a1 (w64 (a2-(a1.length:Int)),0)).bind (Fl.go some fun v17=>
  some v17))
noncomputable def uM (a1:zA) (a2:Int):Option Int:=
 (vL a1.Files a2).bind fun x3=>
 if decide (x3<0) then
  (some (-1))
 else
  (some x3)
noncomputable def uD (a1:(List Int)) (s9:((List Int)×Int)):Option (Lp ((List Int)×Int) (List Int)):=
 if decide (s9.2< (a1.length:Int)) then
  ((idx a1 s9.2).bind fun x11=>
  (idx s9.1 s9.2).bind fun x13=>
  some (Lp.go (s9.1.set s9.2.toNat x11,w64 (s9.2+1))))
 else
  (some (Lp.done s9.1))
noncomputable def vF (a1:(List Int)):((List Int)×Int)→Option (List Int):=loop (uD a1)
noncomputable def zW (a1:(List Int)):Option (List Int):=
 (mk 1 (a1.length:Int) 0).bind fun x2=>
 (vF a1 (x2,0)).bind fun v15=>
 some v15
noncomputable def uI (a1:File):Option File:=
 (zW a1.Data).bind fun x2=>
 some ({Path:=a1.Path,Data:=x2}:File)
noncomputable def uE (a1:(List File)) (s11:((List File)×Int)):Option (Lp ((List File)×Int) (List File)):=
 if decide (s11.2< (a1.length:Int)) then
  ((idx a1 s11.2).bind fun x13=>
  (uI x13).bind fun x15=>
  (idx s11.1 s11.2).bind fun x17=>
  some (Lp.go (s11.1.set s11.2.toNat x15,w64 (s11.2+1))))
 else
  (some (Lp.done s11.1))
noncomputable def vH (a1:(List File)):((List File)×Int)→Option (List File):=loop (uE a1)
noncomputable def vG (a1:(List File)):Option (List File):=
 (mk 40 (a1.length:Int) ({Path:=ByteArray.empty,Data:=([]:List Int)}:File)).bind fun x2=>
 (vH a1 (x2,0)).bind fun v19=>
 some v19
noncomputable def yS (a1:zA):Option zA:=
 (vG a1.Files).bind fun x2=>
 some ({Files:=x2,Budget:=a1.Budget,Writes:=a1.Writes,Stop:=a1.Stop,Down:=a1.Down}:zA)
noncomputable def xW (a1:Int) (a2:Int) (a3:Int):Option Bool:=
 if decide (a1≥a2) then
  (some (decide (a1≤a3)))
 else
  (some false)
noncomputable def wC (a1:Int):Option Bool:=
 if decide (a1≥97) then
  (some (decide (a1≤122)))
 else
  (some false)
noncomputable def vJ (a1:Int):Option Bool:=
 if decide (a1≥48) then
  (some (decide (a1≤57)))
 else
  (some false)
noncomputable def wJ (a1:Int):Option Bool:=
 (wC a1).bind fun x2=>
 if x2 then
  (some true)
 else
  ((vJ a1).bind fun x5=>
  if x5 then
   (some true)
  else
   (some (a1==95)))
noncomputable def uK (a1:Int):Option Bool:=
 (wJ a1).bind fun x2=>
 if x2 then
  (some true)
 else
  (if a1==46 then
   (some true)
  else
   (if a1==45 then
    (some true)
   else
    (some (a1==47))))
noncomputable def xB (a1:ByteArray) (s11:Int):Option (Lp Int (Fl Int Unit)):=
 if decide (s11< (a1.size:Int)) then
  ((bidx a1 s11).bind fun x13=>
  (uK x13).bind fun x15=>
  if !x15 then
   (some (Lp.done (Fl.ret 5)))
  else
   (some (Lp.go (w64 (s11+1)))))
 else
  (some (Lp.done (Fl.nxt ())))
noncomputable def yT (a1:ByteArray):Int→Option (Fl Int Unit):=loop (xB a1)
noncomputable def zV (a1:ByteArray):Option Int:=
 (if decide ((a1.size:Int)<1) then
   (some true)
  else
   (some (decide ((a1.size:Int)>40)))).bind fun v3=>
 if v3 then
  (some 5)
 else
  ((yT a1 0).bind (Fl.go some fun v18=>
  some 0))
noncomputable def xU (a1:zA) (s5:(Int×Int)):Option (Lp (Int×Int) Int):=
 if decide (s5.2< (a1.Files.length:Int)) then
  ((idx a1.Files s5.2).bind fun x7=>
  some (Lp.go (w64 (s5.1+(x7.Data.length:Int)),w64 (s5.2+1))))
 else
  (some (Lp.done s5.1))
noncomputable def wP (a1:zA):(Int×Int)→Option Int:=loop (xU a1)
noncomputable def yQ (a1:zA):Option Int:=
 (wP a1 (0,0)).bind fun v9=>
 some v9
noncomputable def xD (a1:zA) (s29:Int):Option (Lp Int (Fl Int Unit)):=
 if decide (s29< (a1.Files.length:Int)) then
  ((idx a1.Files s29).bind fun x31=>
  (zV x31.Path).bind fun x33=>
  if x33 !=0 then
   (some (Lp.done (Fl.ret x33)))
  else
   ((if decide (s29>0) then
      ((idx a1.Files s29).bind fun x37=>
      (idx a1.Files (w64 (s29-1))).bind fun x39=>
      some (slt x37.Path x39.Path||seq x37.Path x39.Path))
     else
      (some false)).bind fun v41=>
   if v41 then
    (some (Lp.done (Fl.ret 1)))
   else
    ((idx a1.Files s29).bind fun x43=>
    if decide ((x43.Data.length:Int)>4000) then
     (some (Lp.done (Fl.ret 2)))
    else
     (some (Lp.go (w64 (s29+1)))))))
 else
  (some (Lp.done (Fl.nxt ())))
noncomputable def yV (a1:zA):Int→Option (Fl Int Unit):=loop (xD a1)
noncomputable def xA (a1:zA):Option Int:=
 (xW a1.Budget 0 20000).bind fun x2=>
 (if !x2 then
   (some true)
  else
   ((xW a1.Writes 0 1000000000).bind fun x5=>
   if !x5 then
    (some true)
   else
    ((xW a1.Stop (-1) 1000000000).bind fun x8=>
    some (!x8)))).bind fun v10=>
 if v10 then
  (some 3)
 else
  (if decide ((a1.Files.length:Int)>120) then
   (some 2)
  else
   ((yV a1 0).bind (Fl.go some fun v46=>
   (yQ a1).bind fun x47=>
   if decide (x47>a1.Budget) then
    (some 8)
   else
    (some 0))))
noncomputable def uP (a1:zA):Option Int:=
 (xA a1).bind fun x2=>
 if x2 !=0 then
  (some x2)
 else
  (if a1.Down then
   (some 9)
  else
   (some 0))
noncomputable def wO (a1:zA) (s20:((List File)×Int)):Option (Lp ((List File)×Int) (List File)):=
 if decide (s20.2< (a1.Files.length:Int)) then
  ((idx a1.Files s20.2).bind fun x22=>
  (idx a1.Files s20.2).bind fun x24=>
  (app 1 ([]:List Int) x24.Data).bind fun x26=>
  (app 40 s20.1 [({Path:=x22.Path,Data:=x26}:File)]).bind fun x28=>
  some (Lp.go (x28,w64 (s20.2+1))))
 else
  (some (Lp.done s20.1))
noncomputable def wI (a1:zA):((List File)×Int)→Option (List File):=loop (wO a1)
noncomputable def wV (a1:zA):Option zA:=
 (wI a1 (([]:List File),0)).bind fun v30=>
 some ({Files:=v30,Budget:=a1.Budget,Writes:=a1.Writes,Stop:=a1.Stop,Down:=a1.Down}:zA)
noncomputable def vN (a1:zA) (a2:ByteArray) (s7:Int):Option (Lp Int (Fl Int Unit)):=
 if decide (s7< (a1.Files.length:Int)) then
  ((idx a1.Files s7).bind fun x9=>
  if seq x9.Path a2 then
   (some (Lp.done (Fl.ret s7)))
  else
   (some (Lp.go (w64 (s7+1)))))
 else
  (some (Lp.done (Fl.nxt ())))
noncomputable def tV (a1:zA) (a2:ByteArray):Int→Option (Fl Int Unit):=loop (vN a1 a2)
noncomputable def vP (a1:zA) (a2:ByteArray):Option Int:=
 (tV a1 a2 0).bind (Fl.go some fun v12=>
 some (-1))
noncomputable def uL (a1:zA):Option (Bool×zA):=
 if a1.Down then
  (some (false,a1))
 else
  ((if a1.Stop !=(-1) then
     (some (decide (a1.Writes≥a1.Stop)))
    else
     (some false)).bind fun v4=>
  if v4 then
   (some (false,({Files:=a1.Files,Budget:=a1.Budget,Writes:=a1.Writes,Stop:=a1.Stop,Down:=true}:zA)))
  else
   (some (true,({Files:=a1.Files,Budget:=a1.Budget,Writes:=w64 (a1.Writes+1),Stop:=a1.Stop,Down:=a1.Down}:zA))))
noncomputable def wN (a2:ByteArray) (x17:(Bool×zA)) (x20:(List Int)) (s30:Int):Option (Lp Int Int):=
 (if decide (s30< (x17.2.Files.length:Int)) then
   ((idx x17.2.Files s30).bind fun x32=>
   some (slt x32.Path a2))
  else
   (some false)).bind fun v34=>
 if v34 then
  (some (Lp.go (w64 (s30+1))))
 else
  (some (Lp.done s30))
noncomputable def vC (a2:ByteArray) (x17:(Bool×zA)) (x20:(List Int)):Int→Option Int:=loop (wN a2 x17 x20)
noncomputable def xZ (a1:zA) (a2:ByteArray) (a3:(List Int)):Option (Int×zA):=
 (vP a1 a2).bind fun x4=>
 (if decide (x4≥0) then
   ((idx a1.Files x4).bind fun x7=>
   some (x7.Data.length:Int))
  else
   (some 0)).bind fun v9=>
 (if decide ((a3.length:Int)>4000) then
   (some true)
  else
   (if decide (x4<0) then
    (some (decide ((a1.Files.length:Int)≥120)))
   else
    (some false))).bind fun v12=>
 if v12 then
  (some (2,a1))
 else
  ((yQ a1).bind fun x14=>
  if decide ((w64 ((w64 (x14-v9))+(a3.length:Int)))>a1.Budget) then
   (some (8,a1))
  else
   ((uL a1).bind fun x17=>
   if !x17.1 then
    (some (9,x17.2))
   else
    ((app 1 ([]:List Int) a3).bind fun x20=>
    if decide (x4≥0) then
     ((idx x17.2.Files x4).bind fun x23=>
     some (0,({Files:=x17.2.Files.set x4.toNat ({Path:=a2,Data:=x20}:File),Budget:=x17.2.Budget,Writes:=x17.2.Writes,Stop:=x17.2.Stop,Down:=x17.2.Down}:zA)))
    else
     ((vC a2 x17 x20 0).bind fun v36=>
     (zDK x17.2.Files 0 v36).bind fun x37=>
     (app 40 ([]:List File) x37).bind fun x39=>
     (app 40 x39 [({Path:=a2,Data:=x20}:File)]).bind fun x41=>
     (zDK x17.2.Files v36 (x17.2.Files.length:Int)).bind fun x43=>
     (app 40 x41 x43).bind fun x45=>
     some (0,({Files:=x45,Budget:=x17.2.Budget,Writes:=x17.2.Writes,Stop:=x17.2.Stop,Down:=x17.2.Down}:zA))))))
noncomputable def vE (a1:zA) (a2:Int):Option zC:=
 (if a2 !=0 then
   (some (a2 !=9))
  else
   (some false)).bind fun v4=>
 if v4 then
  (some ({Code:=a2,zA:=({Files:=([]:List File),Budget:=0,Writes:=0,Stop:=0,Down:=false}:zA)}:zC))
 else
  (some ({Code:=a2,zA:=a1}:zC))
noncomputable def xG (a1:zA) (a2:ByteArray) (a3:(List Int)):Option zC:=
 (uP a1).bind fun x4=>
 if x4 !=0 then
  (some ({Code:=x4,zA:=({Files:=([]:List File),Budget:=0,Writes:=0,Stop:=0,Down:=false}:zA)}:zC))
 else
  ((zV a2).bind fun x7=>
  if x7 !=0 then
   (some ({Code:=x7,zA:=({Files:=([]:List File),Budget:=0,Writes:=0,Stop:=0,Down:=false}:zA)}:zC))
  else
   ((wV a1).bind fun x10=>
   (xZ x10 a2 a3).bind fun x12=>
   (vE x12.2 x12.1).bind fun x14=>
   some x14))
noncomputable def xE (a1:Int) (a2:Int) (a3:Int):Option Bool:=
 if decide (a2≤a1) then
  (some (decide (a1≤a3)))
 else
  (some false)
noncomputable def yE (a1:Int):Option Bool:=
 if decide (a1≥97) then
  (if decide (a1≤122) then
   (some true)
  else
   (if decide (a1≥48) then
    (if decide (a1≤57) then
     (some true)
    else
     (some (a1==95)))
   else
    (some (a1==95))))
 else
  (if decide (a1≥48) then
   (if decide (a1≤57) then
    (some true)
   else
    (some (a1==95)))
  else
   (some (a1==95)))
noncomputable def uU (a1:ByteArray) (s15:Int):Option (Lp Int (Fl Int Unit)):=
 if decide (s15< (a1.size:Int)) then
  ((bidx a1 s15).bind fun x17=>
  (yE x17).bind fun x19=>
  (if !x19 then
    (if x17 !=46 then
     (if x17 !=45 then
      (some (x17 !=47))
     else
      (some false))
    else
     (some false))
   else
    (some false)).bind fun v24=>
  if v24 then
   (some (Lp.done (Fl.ret 5)))
  else
   (some (Lp.go (w64 (s15+1)))))
 else
  (some (Lp.done (Fl.nxt ())))
noncomputable def xH (a1:ByteArray):Int→Option (Fl Int Unit):=loop (uU a1)
noncomputable def yL (a1:ByteArray):Option Int:=
 (if decide ((a1.size:Int)<1) then
   (some true)
  else
   (some (decide ((a1.size:Int)>40)))).bind fun v3=>
 if v3 then
  (some 5)
 else
  ((xH a1 0).bind (Fl.go some fun v26=>
  some 0))
noncomputable def tJ (a1:zA) (s5:(Int×Int)):Option (Lp (Int×Int) Int):=
 if decide (s5.2< (a1.Files.length:Int)) then
  ((idx a1.Files s5.2).bind fun x7=>
  some (Lp.go (w64 (s5.1+(x7.Data.length:Int)),w64 (s5.2+1))))
 else
  (some (Lp.done s5.1))
noncomputable def vD (a1:zA):(Int×Int)→Option Int:=loop (tJ a1)
noncomputable def yO (a1:zA):Option Int:=
 (vD a1 (0,0)).bind fun v9=>
 some v9
noncomputable def uS (a1:zA) (s25:Int):Option (Lp Int (Fl Int Unit)):=
 if decide (s25< (a1.Files.length:Int)) then
  ((idx a1.Files s25).bind fun x27=>
  (yL x27.Path).bind fun x29=>
  if x29 !=0 then
   (some (Lp.done (Fl.ret x29)))
  else
   ((if decide (s25>0) then
      ((idx a1.Files (w64 (s25-1))).bind fun x33=>
      some (slt x27.Path x33.Path||seq x27.Path x33.Path))
     else
      (some false)).bind fun v35=>
   if v35 then
    (some (Lp.done (Fl.ret 1)))
   else
    (if decide ((x27.Data.length:Int)>4000) then
     (some (Lp.done (Fl.ret 2)))
    else
     (some (Lp.go (w64 (s25+1)))))))
 else
  (some (Lp.done (Fl.nxt ())))
noncomputable def xJ (a1:zA):Int→Option (Fl Int Unit):=loop (uS a1)
noncomputable def wK (a1:zA):Option Int:=
 (xE a1.Budget 0 20000).bind fun x2=>
 (if !x2 then
   (some true)
  else
   ((xE a1.Writes 0 1000000000).bind fun x5=>
   if !x5 then
    (some true)
   else
    ((xE a1.Stop (-1) 1000000000).bind fun x8=>
    some (!x8)))).bind fun v10=>
 if v10 then
  (some 3)
 else
  (if decide ((a1.Files.length:Int)>120) then
   (some 2)
  else
   ((xJ a1 0).bind (Fl.go some fun v38=>
   (yO a1).bind fun x39=>
   if decide (x39>a1.Budget) then
    (some 8)
   else
    (some 0))))
noncomputable def zR (a1:(List Int)):Option (List Int):=
 (app 1 ([]:List Int) a1).bind fun x3=>
 some x3
noncomputable def vW (a1:zA) (s16:((List File)×Int)):Option (Lp ((List File)×Int) (List File)):=
 if decide (s16.2< (a1.Files.length:Int)) then
  ((idx a1.Files s16.2).bind fun x18=>
  (zR x18.Data).bind fun x20=>
  (app 40 s16.1 [({Path:=x18.Path,Data:=x20}:File)]).bind fun x22=>
  some (Lp.go (x22,w64 (s16.2+1))))
 else
  (some (Lp.done s16.1))
noncomputable def yX (a1:zA):((List File)×Int)→Option (List File):=loop (vW a1)
noncomputable def yR (a1:zA):Option zA:=
 (yX a1 (([]:List File),0)).bind fun v24=>
 some ({Files:=v24,Budget:=a1.Budget,Writes:=a1.Writes,Stop:=a1.Stop,Down:=a1.Down}:zA)
noncomputable def bytealg_CompareString (a1 a2:ByteArray):Option Int:=some (zDV a1 a2)
noncomputable def strings_Compare (a1:ByteArray) (a2:ByteArray):Option Int:=
 (bytealg_CompareString a1 a2).bind fun x3=>
 some x3
noncomputable def yH (a1:File) (a2:ByteArray):Option Int:=
 (strings_Compare a1.Path a2).bind fun x3=>
 some x3
noncomputable def zL (a1:(List File)) (a2:ByteArray) (s9:(Int×Int)):Option (Lp (Int×Int) Int):=
 if decide (s9.1<s9.2) then
  ((idx a1 (w64 ((IntKind.u64.wrap (w64 (s9.1+s9.2))).fdiv (2^(min (1:Int).toNat 64))))).bind fun x11=>
  (yH x11 a2).bind fun x13=>
  if decide (x13<0) then
   (some (Lp.go (w64 ((w64 ((IntKind.u64.wrap (w64 (s9.1+s9.2))).fdiv (2^(min (1:Int).toNat 64))))+1),s9.2)))
  else
   (some (Lp.go (s9.1,w64 ((IntKind.u64.wrap (w64 (s9.1+s9.2))).fdiv (2^(min (1:Int).toNat 64)))))))
 else
  (some (Lp.done s9.1))
noncomputable def zH (a1:(List File)) (a2:ByteArray):(Int×Int)→Option Int:=loop (zL a1 a2)
noncomputable def zB (a1:(List File)) (a2:ByteArray):Option (Int×Bool):=
 (zH a1 a2 (0,(a1.length:Int))).bind fun v16=>
 if decide (v16< (a1.length:Int)) then
  ((idx a1 v16).bind fun x18=>
  (yH x18 a2).bind fun x20=>
  some (v16,x20==0))
 else
  (some (v16,false))
noncomputable def yD (a1:zA) (a2:ByteArray):Option (Int×Bool):=
 (zB a1.Files a2).bind fun x3=>
 some (x3.1,x3.2)
noncomputable def yY (a1:zA) (a2:ByteArray):Option ((List Int)×Bool):=
 (yD a1 a2).bind fun x3=>
 if !x3.2 then
  (some (([]:List Int),false))
 else
  ((idx a1.Files x3.1).bind fun x6=>
  some (x6.Data,true))
noncomputable def yF (a1:List File) (a2:Int) (a3:List File):Option (List File):=if 0≤a2∧a2≤a1.length∧0<a3.length∧a1.length+a3.length≤1099511627776 then some (a1.take a2.toNat++(a3++a1.drop a2.toNat)) else none
noncomputable def xL (a1:zA) (a2:ByteArray) (a3:(List Int)):Option zA:=
 (yD a1 a2).bind fun x4=>
 (if !x4.2 then
   ((yF a1.Files x4.1 [({Path:=a2,Data:=([]:List Int)}:File)]).bind fun x7=>
   some x7)
  else
   (some a1.Files)).bind fun v9=>
 (zR a3).bind fun x10=>
 (idx v9 x4.1).bind fun x12=>
 some ({Files:=v9.set x4.1.toNat ({Path:=x12.Path,Data:=x10}:File),Budget:=a1.Budget,Writes:=a1.Writes,Stop:=a1.Stop,Down:=a1.Down}:zA)
noncomputable def yG (a1:zA) (a2:ByteArray) (a3:(List Int)):Option zA:=
 (xL a1 a2 a3).bind fun x4=>
 some x4
noncomputable def zK (a1:zA) (a2:ByteArray) (a3:(List Int)):Option (Int×zA):=
 (if decide (a1.Stop≥0) then
   (some (decide (a1.Writes≥a1.Stop)))
  else
   (some false)).bind fun v5=>
 if v5 then
  (some (9,({Files:=a1.Files,Budget:=a1.Budget,Writes:=a1.Writes,Stop:=a1.Stop,Down:=true}:zA)))
 else
  ((yG a1 a2 a3).bind fun x7=>
  some (0,({Files:=x7.Files,Budget:=x7.Budget,Writes:=w64 (x7.Writes+1),Stop:=x7.Stop,Down:=x7.Down}:zA)))
noncomputable def zZ (a1:zA) (a2:ByteArray) (a3:(List Int)):Option (Int×zA):=
 (yY a1 a2).bind fun x4=>
 (yL a2).bind fun x6=>
 if x6 !=0 then
  (some (5,a1))
 else
  ((if decide ((a3.length:Int)>4000) then
     (some true)
    else
     (if !x4.2 then
      (some ((a1.Files.length:Int)==120))
     else
      (some false))).bind fun v11=>
  if v11 then
   (some (2,a1))
  else
   ((yO a1).bind fun x13=>
   if decide ((w64 ((w64 (x13-(x4.1.length:Int)))+(a3.length:Int)))>a1.Budget) then
    (some (8,a1))
   else
    ((zK a1 a2 a3).bind fun x16=>
    some (x16.1,x16.2))))
noncomputable def xI (a1:zA) (a2:ByteArray) (a3:(List Int)):Option (Int×zA):=
 (zZ a1 a2 a3).bind fun x4=>
 some (x4.1,x4.2)
noncomputable def uX (a1:zA) (a2:Int):Option zC:=
 (if a2 !=0 then
   (some (a2 !=9))
  else
   (some false)).bind fun v4=>
 if v4 then
  (some ({Code:=a2,zA:=({Files:=([]:List File),Budget:=0,Writes:=0,Stop:=0,Down:=false}:zA)}:zC))
 else
  (some ({Code:=a2,zA:=a1}:zC))
noncomputable def zP (a1:zA) (a2:ByteArray) (a3:(List Int)):Option zC:=
 (wK a1).bind fun x4=>
 (if x4==0 then
   (some a1.Down)
  else
   (some false)).bind fun v7=>
 (if v7 then
   (some 9)
  else
   (some x4)).bind fun v9=>
 if v9 !=0 then
  (some ({Code:=v9,zA:=({Files:=([]:List File),Budget:=0,Writes:=0,Stop:=0,Down:=false}:zA)}:zC))
 else
  ((yR a1).bind fun x11=>
  (xI x11 a2 a3).bind fun x13=>
  (uX x13.2 x13.1).bind fun x15=>
  some x15)
noncomputable def yK (a1:zA) (a2:ByteArray) (a3:(List Int)):Option zC:=
 (zP a1 a2 a3).bind fun x4=>
 some x4
noncomputable def uF (a1:(List Int)) (a2:(List Int)) (s10:Int):Option (Lp Int (Fl Bool Unit)):=
 if decide (s10< (a1.length:Int)) then
  ((idx a1 s10).bind fun x12=>
  (idx a2 s10).bind fun x14=>
  if x12 !=x14 then
   (some (Lp.done (Fl.ret false)))
  else
   (some (Lp.go (w64 (s10+1)))))
 else
  (some (Lp.done (Fl.nxt ())))
noncomputable def vI (a1:(List Int)) (a2:(List Int)):Int→Option (Fl Bool Unit):=loop (uF a1 a2)
noncomputable def xY (a1:(List Int)) (a2:(List Int)):Option Bool:=
 if (a1.length:Int) !=(a2.length:Int) then
  (some false)
 else
  ((vI a1 a2 0).bind (Fl.go some fun v17=>
  some true))
noncomputable def uH (a1:File) (a2:File):Option Bool:=
 if !(seq a1.Path a2.Path) then
  (some false)
 else
  ((xY a1.Data a2.Data).bind fun x4=>
  if !x4 then
   (some false)
  else
   (some true))
noncomputable def uG (a1:(List File)) (a2:(List File)) (s12:Int):Option (Lp Int (Fl Bool Unit)):=
 if decide (s12< (a1.length:Int)) then
  ((idx a1 s12).bind fun x14=>
  (idx a2 s12).bind fun x16=>
  (uH x14 x16).bind fun x18=>
  if !x18 then
   (some (Lp.done (Fl.ret false)))
  else
   (some (Lp.go (w64 (s12+1)))))
 else
  (some (Lp.done (Fl.nxt ())))
noncomputable def vQ (a1:(List File)) (a2:(List File)):Int→Option (Fl Bool Unit):=loop (uG a1 a2)
noncomputable def vR (a1:(List File)) (a2:(List File)):Option Bool:=
 if (a1.length:Int) !=(a2.length:Int) then
  (some false)
 else
  ((vQ a1 a2 0).bind (Fl.go some fun v21=>
  some true))
noncomputable def wW (a1:zA) (a2:zA):Option Bool:=
 (vR a1.Files a2.Files).bind fun x3=>
 if !x3 then
  (some false)
 else
  (if a1.Budget !=a2.Budget then
   (some false)
  else
   (if a1.Writes !=a2.Writes then
    (some false)
   else
    (if a1.Stop !=a2.Stop then
     (some false)
    else
     (if !(a1.Down==a2.Down) then
      (some false)
     else
      (some true)))))
noncomputable def zQ (a1:zC) (a2:zC):Option Bool:=
 if a1.Code !=a2.Code then
  (some false)
 else
  ((wW a1.zA a2.zA).bind fun x4=>
  if !x4 then
   (some false)
  else
   (some true))
noncomputable def vU (s6:(Int×ByteArray)):Option (Lp (Int×ByteArray) ByteArray):=
 if decide (s6.1>0) then
  ((cat (b2s [IntKind.u8.wrap (w64 (48+(s6.1.tmod 10)))]) s6.2).bind fun x8=>
  some (Lp.go (w64 (s6.1.tdiv 10),x8)))
 else
  (some (Lp.done s6.2))
noncomputable def vB:(Int×ByteArray)→Option ByteArray:=loop vU
noncomputable def yP (a1:Int):Option ByteArray:=
 if decide (a1≤0) then
  (some (bs [109,48]))
 else
  ((vB (a1,bs [])).bind fun v10=>
  (cat (bs [109]) v10).bind fun x11=>
  some x11)
noncomputable def xO (s6:((List Int)×Int×Int)):Option (Lp ((List Int)×Int×Int) ((List Int)×Int)):=
 if decide (s6.2.2< (s6.1.length:Int)) then
  ((idx s6.1 s6.2.2).bind fun x8=>
  some (Lp.go (s6.1.set s6.2.2.toNat (IntKind.u8.wrap (s6.2.1)),w64 (s6.2.1+1),w64 (s6.2.2+1))))
 else
  (some (Lp.done (s6.1,s6.2.1)))
noncomputable def xX:((List Int)×Int×Int)→Option ((List Int)×Int):=loop xO
noncomputable def yN (a1:(List Int)) (a2:Int):Option (Int×(List Int)):=
 (xX (a1,a2,0)).bind fun v10=>
 some (v10.2,v10.1)
noncomputable def xM (s14:((List File)×Int×Int)):Option (Lp ((List File)×Int×Int) ((List File)×Int)):=
 if decide (s14.2.2< (s14.1.length:Int)) then
  ((yP s14.2.1).bind fun x16=>
  (idx s14.1 s14.2.2).bind fun x18=>
  (idx (s14.1.set s14.2.2.toNat ({Path:=x16,Data:=x18.Data}:File)) s14.2.2).bind fun x20=>
  (yN x20.Data (w64 (s14.2.1+1))).bind fun x22=>
  (same x22.2 x20.Data).bind fun u24=>
  some (Lp.go ((s14.1.set s14.2.2.toNat ({Path:=x16,Data:=x18.Data}:File)).set s14.2.2.toNat ({Path:=x20.Path,Data:=x22.2}:File),x22.1,w64 (s14.2.2+1))))
 else
  (some (Lp.done (s14.1,s14.2.1)))
noncomputable def wE:((List File)×Int×Int)→Option ((List File)×Int):=loop xM
noncomputable def xK (a1:(List File)) (a2:Int):Option (Int×(List File)):=
 (wE (a1,a2,0)).bind fun v26=>
 some (v26.2,v26.1)
noncomputable def yZ (a1:zA) (a2:Int):Option (Int×(List File)):=
 (xK a1.Files a2).bind fun x3=>
 (same x3.2 a1.Files).bind fun u5=>
 some (x3.1,x3.2)
noncomputable def yB (a1:zC) (a2:Int):Option (Int×(List File)):=
 (yZ a1.zA a2).bind fun x3=>
 (same x3.2 a1.zA.Files).bind fun u5=>
 some (x3.1,x3.2)
noncomputable def xV (a1:(List Int)) (s7:(Int×Int)):Option (Lp (Int×Int) (Fl Int Int)):=
 if decide (s7.2< (a1.length:Int)) then
  ((idx a1 s7.2).bind fun x9=>
  if x9 !=(IntKind.u8.wrap (s7.1)) then
   (some (Lp.done (Fl.ret (-1))))
  else
   (some (Lp.go (w64 (s7.1+1),w64 (s7.2+1)))))
 else
  (some (Lp.done (Fl.nxt s7.1)))
noncomputable def wR (a1:(List Int)):(Int×Int)→Option (Fl Int Int):=loop (xV a1)
noncomputable def wF (a1:(List Int)) (a2:Int):Option Int:=
 (wR a1 (a2,0)).bind (Fl.go some fun v12=>
 some v12)
noncomputable def wB (a1:(List File)) (s14:(Int×Int)):Option (Lp (Int×Int) (Fl Int Int)):=
 if decide (s14.2< (a1.length:Int)) then
  ((idx a1 s14.2).bind fun x16=>
  (yP s14.1).bind fun x18=>
  if !(seq x16.Path x18) then
   (some (Lp.done (Fl.ret (-1))))
  else
   ((idx a1 s14.2).bind fun x21=>
   (wF x21.Data (w64 (s14.1+1))).bind fun x23=>
   if decide (x23<0) then
    (some (Lp.done (Fl.ret (-1))))
   else
    (some (Lp.go (x23,w64 (s14.2+1))))))
 else
  (some (Lp.done (Fl.nxt s14.1)))
noncomputable def wQ (a1:(List File)):(Int×Int)→Option (Fl Int Int):=loop (wB a1)
noncomputable def wH (a1:(List File)) (a2:Int):Option Int:=
 (wQ a1 (a2,0)).bind (Fl.go some fun v26=>
 some v26)
noncomputable def wY (a1:zA) (a2:Int):Option Int:=
 (wH a1.Files a2).bind fun x3=>
 if decide (x3<0) then
  (some (-1))
 else
  (some x3)
noncomputable def zS (a1:zC) (a2:Int):Option Int:=
 (wY a1.zA a2).bind fun x3=>
 if decide (x3<0) then
  (some (-1))
 else
  (some x3)
noncomputable def zX (a1:zA) (a2:ByteArray) (a3:(List Int)):Option Bool:=
 if decide ((a2.size:Int)>1048576) then
  (some true)
 else
  (if decide ((a3.length:Int)>1048576) then
   (some true)
  else
   ((uM a1 1048576).bind fun x6=>
   if decide (x6<0) then
    (some true)
   else
    ((yS a1).bind fun x9=>
    (zW a3).bind fun x11=>
    (xG x9 a2 x11).bind fun x13=>
    (yS a1).bind fun x15=>
    (zW a3).bind fun x17=>
    (yK x15 a2 x17).bind fun x19=>
    (zQ x19 x13).bind fun x21=>
    if !x21 then
     (some false)
    else
     ((yS a1).bind fun x24=>
     (wW x15 x24).bind fun x26=>
     if !x26 then
      (some false)
     else
      ((zW a3).bind fun x29=>
      (xY x17 x29).bind fun x31=>
      if !x31 then
       (some false)
      else
       ((yZ x15 1).bind fun x34=>
       (yN x17 x34.1).bind fun x36=>
       (if decide (x36.1<0) then
         (some true)
        else
         ((zQ x19 x13).bind fun x39=>
         some (!x39))).bind fun v41=>
       if v41 then
        (some false)
       else
        ((yB x19 1).bind fun x43=>
        (same x43.2 x19.zA.Files).bind fun u45=>
        (zS ({Code:=x19.Code,zA:=({Files:=x43.2,Budget:=x19.zA.Budget,Writes:=x19.zA.Writes,Stop:=x19.zA.Stop,Down:=x19.zA.Down}:zA)}:zC) 1).bind fun x47=>
        if decide (x47<0) then
         (some false)
        else
         (if x47 !=x43.1 then
          (some false)
         else
          ((yS a1).bind fun x51=>
          (zW a3).bind fun x53=>
          (yK x51 a2 x53).bind fun x55=>
          (zQ x55 x13).bind fun x57=>
          if !x57 then
           (some false)
          else
           ((zS ({Code:=x19.Code,zA:=({Files:=x43.2,Budget:=x19.zA.Budget,Writes:=x19.zA.Writes,Stop:=x19.zA.Stop,Down:=x19.zA.Down}:zA)}:zC) 1).bind fun x60=>
           if decide (x60<0) then
            (some false)
           else
            (if x60 !=x43.1 then
             (some false)
            else
             (some true))))))))))))
end Go.Told

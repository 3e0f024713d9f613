import Derived.Test.YtobkkecdnlecgaaGreatDoorImG
set_option linter.unusedVariables false
set_option maxRecDepth 4000
namespace Go.Told
open Go Go.Im
structure Version where
 A:Int
 B:Int
 C:Int
 deriving DecidableEq
def Version.enc (x:Version):List D:=[.sc (.int .i64 x.A),.sc (.int .i64 x.B),.sc (.int .i64 x.C)]
theorem Version.fl (x:Version):zEs (Version.enc x):=(flatK zT (flatK zT (flatK zT zDQ)))
structure Term where
 Name:ByteArray
 Low:Version
 High:Version
 deriving DecidableEq
def Term.enc (x:Term):List D:=[.sc (.string x.Name),.sc (.int .i64 x.Low.A),.sc (.int .i64 x.Low.B),.sc (.int .i64 x.Low.C),.sc (.int .i64 x.High.A),.sc (.int .i64 x.High.B),.sc (.int .i64 x.High.C)]
theorem Term.fl (x:Term):zEs (Term.enc x):=(flatK zT (flatK zT (flatK zT (flatK zT (flatK zT (flatK zT (flatK zT zDQ)))))))
structure Pack where
 Name:ByteArray
 Version:Version
 Size:Int
 Provides:(List ByteArray)
 Needs:(List (List Term))
 Bars:(List Term)
 deriving DecidableEq
def Pack.enc (o:Bool) (x:Pack):List D:=[.sc (.string x.Name),.sc (.int .i64 x.Version.A),.sc (.int .i64 x.Version.B),.sc (.int .i64 x.Version.C),.sc (.int .i64 x.Size),.s o 1 x.Provides.length (x.Provides.map eStr),.s o 1 x.Needs.length (x.Needs.map (eSl o 7 Term.enc)),.s o 7 x.Bars.length (x.Bars.map Term.enc)]
theorem Pack.ro (o:Bool) (x:Pack):D.ro.roC (Pack.enc o x)=Pack.enc false x:=by
 simp only [Pack.enc,D.ro.roC,D.ro,zEg (enc:=eStr) (enc':=eStr) (fun _=>rfl),zEg (enc:=(eSl o 7 Term.enc)) (enc':=(eSl false 7 Term.enc)) (zPT (fun _=>rfl)),zEg (enc:=Term.enc) (enc':=Term.enc) (fun _=>rfl)]
theorem Pack.fl (x:Pack):zEs (Pack.enc true x):=(flatK zT (flatK zT (flatK zT (flatK zT (flatK zT (flatK (zDU (zEN (fun _=>(flatK zT zDQ)) _)) (flatK (zDU (zEN (fun _=>(flatK (zDU (zEN (fun _=>(Term.fl _)) _)) zDQ)) _)) (flatK (zDU (zEN (fun _=>(Term.fl _)) _)) zDQ))))))))
structure File where
 Path:ByteArray
 Data:(List Int)
 deriving DecidableEq
def File.enc (o:Bool) (x:File):List D:=[.sc (.string x.Path),.s o 1 x.Data.length (x.Data.map eU8)]
theorem File.ro (o:Bool) (x:File):D.ro.roC (File.enc o x)=File.enc false x:=by
 simp only [File.enc,D.ro.roC,D.ro,zEg (enc:=eU8) (enc':=eU8) (fun _=>rfl)]
theorem File.fl (x:File):zEs (File.enc true x):=(flatK zT (flatK (zDU (zEN (fun _=>(flatK zT zDQ)) _)) zDQ))
structure zC where
 Files:(List File)
 Budget:Int
 Writes:Int
 Stop:Int
 Down:Bool
 deriving DecidableEq
def zC.enc (o:Bool) (x:zC):List D:=[.s o 2 x.Files.length (x.Files.map (File.enc o)),.sc (.int .i64 x.Budget),.sc (.int .i64 x.Writes),.sc (.int .i64 x.Stop),.sc (.bool x.Down)]
theorem zC.ro (o:Bool) (x:zC):D.ro.roC (zC.enc o x)=zC.enc false x:=by
 simp only [zC.enc,D.ro.roC,D.ro,zEg (enc:=(File.enc o)) (enc':=(File.enc false)) (File.ro o)]
theorem zC.fl (x:zC):zEs (zC.enc true x):=(flatK (zDU (zEN (fun _=>(File.fl _)) _)) (flatK zT (flatK zT (flatK zT (flatK zT zDQ)))))
structure zI where
 Code:Int
 zC:zC
 deriving DecidableEq
def zI.enc (o:Bool) (x:zI):List D:=[.sc (.int .i64 x.Code),.s o 2 x.zC.Files.length (x.zC.Files.map (File.enc o)),.sc (.int .i64 x.zC.Budget),.sc (.int .i64 x.zC.Writes),.sc (.int .i64 x.zC.Stop),.sc (.bool x.zC.Down)]
theorem zI.ro (o:Bool) (x:zI):D.ro.roC (zI.enc o x)=zI.enc false x:=by
 simp only [zI.enc,D.ro.roC,D.ro,zEg (enc:=(File.enc o)) (enc':=(File.enc false)) (File.ro o)]
theorem zI.fl (x:zI):zEs (zI.enc true x):=(flatK zT (flatK (zDU (zEN (fun _=>(File.fl _)) _)) (flatK zT (flatK zT (flatK zT (flatK zT zDQ))))))
structure yG where
 Code:Int
 At:Int
 Set:(List Int)
 deriving DecidableEq
def yG.enc (o:Bool) (x:yG):List D:=[.sc (.int .i64 x.Code),.sc (.int .i64 x.At),.s o 1 x.Set.length (x.Set.map zG)]
theorem yG.ro (o:Bool) (x:yG):D.ro.roC (yG.enc o x)=yG.enc false x:=by
 simp only [yG.enc,D.ro.roC,D.ro,zEg (enc:=zG) (enc':=zG) (fun _=>rfl)]
theorem yG.fl (x:yG):zEs (yG.enc true x):=(flatK zT (flatK zT (flatK (zDU (zEN (fun _=>(flatK zT zDQ)) _)) zDQ)))
structure zP where
 Code:Int
 Version:Version
 deriving DecidableEq
def zP.enc (x:zP):List D:=[.sc (.int .i64 x.Code),.sc (.int .i64 x.Version.A),.sc (.int .i64 x.Version.B),.sc (.int .i64 x.Version.C)]
theorem zP.fl (x:zP):zEs (zP.enc x):=(flatK zT (flatK zT (flatK zT (flatK zT zDQ))))
noncomputable def zA8 (a1:(List ByteArray)) (s8:(Int×Int)):Option (Lp (Int×Int) (Fl Int Int)):=
 if decide (s8.2< (a1.length:Int)) then
  ((idx a1 s8.2).bind fun x10=>
  if decide ((w64 (s8.1-(x10.size:Int)))<0) then
   (some (Lp.done (Fl.ret (-1))))
  else
   (some (Lp.go (w64 (s8.1-(x10.size:Int)),w64 (s8.2+1)))))
 else
  (some (Lp.done (Fl.nxt s8.1)))
noncomputable def zBh (a1:(List ByteArray)):(Int×Int)→Option (Fl Int Int):=loop (zA8 a1)
noncomputable def zAZ (a1:(List ByteArray)) (a2:Int):Option Int:=
 if decide ((w64 (a2-(a1.length:Int)))<0) then
  (some (-1))
 else
  ((zBh a1 (w64 (a2-(a1.length:Int)),0)).bind (Fl.go some fun v13=>
  some v13))
noncomputable def zDt (a1:Term) (a2:Int):Option Int:=
 if decide ((w64 (a2-(a1.Name.size:Int)))<0) then
  (some (-1))
 else
  (some (w64 (a2-(a1.Name.size:Int))))
noncomputable def zBI (a1:(List Term)) (s10:(Int×Int)):Option (Lp (Int×Int) (Fl Int Int)):=
 if decide (s10.2< (a1.length:Int)) then
  ((idx a1 s10.2).bind fun x12=>
  (zDt x12 s10.1).bind fun x14=>
  if decide (x14<0) then
   (some (Lp.done (Fl.ret (-1))))
  else
   (some (Lp.go (x14,w64 (s10.2+1)))))
 else
  (some (Lp.done (Fl.nxt s10.1)))
noncomputable def zCy (a1:(List Term)):(Int×Int)→Option (Fl Int Int):=loop (zBI a1)
noncomputable def zA5 (a1:(List Term)) (a2:Int):Option Int:=
 if decide ((w64 (a2-(a1.length:Int)))<0) then
  (some (-1))
 else
  ((zCy a1 (w64 (a2-(a1.length:Int)),0)).bind (Fl.go some fun v17=>
  some v17))
noncomputable def zBt (a1:(List (List Term))) (s10:(Int×Int)):Option (Lp (Int×Int) (Fl Int Int)):=
 if decide (s10.2< (a1.length:Int)) then
  ((idx a1 s10.2).bind fun x12=>
  (zA5 x12 s10.1).bind fun x14=>
  if decide (x14<0) then
   (some (Lp.done (Fl.ret (-1))))
  else
   (some (Lp.go (x14,w64 (s10.2+1)))))
 else
  (some (Lp.done (Fl.nxt s10.1)))
noncomputable def zBD (a1:(List (List Term))):(Int×Int)→Option (Fl Int Int):=loop (zBt a1)
noncomputable def zB1 (a1:(List (List Term))) (a2:Int):Option Int:=
 if decide ((w64 (a2-(a1.length:Int)))<0) then
  (some (-1))
 else
  ((zBD a1 (w64 (a2-(a1.length:Int)),0)).bind (Fl.go some fun v17=>
  some v17))
noncomputable def zDn (a1:Pack) (a2:Int):Option Int:=
 if decide ((w64 (a2-(a1.Name.size:Int)))<0) then
  (some (-1))
 else
  ((zAZ a1.Provides (w64 (a2-(a1.Name.size:Int)))).bind fun x4=>
  if decide (x4<0) then
   (some (-1))
  else
   ((zB1 a1.Needs x4).bind fun x7=>
   if decide (x7<0) then
    (some (-1))
   else
    ((zA5 a1.Bars x7).bind fun x10=>
    if decide (x10<0) then
     (some (-1))
    else
     (some x10))))
noncomputable def zBF (a1:(List Pack)) (s10:(Int×Int)):Option (Lp (Int×Int) (Fl Int Int)):=
 if decide (s10.2< (a1.length:Int)) then
  ((idx a1 s10.2).bind fun x12=>
  (zDn x12 s10.1).bind fun x14=>
  if decide (x14<0) then
   (some (Lp.done (Fl.ret (-1))))
  else
   (some (Lp.go (x14,w64 (s10.2+1)))))
 else
  (some (Lp.done (Fl.nxt s10.1)))
noncomputable def zCC (a1:(List Pack)):(Int×Int)→Option (Fl Int Int):=loop (zBF a1)
noncomputable def zCd (a1:(List Pack)) (a2:Int):Option Int:=
 if decide ((w64 (a2-(a1.length:Int)))<0) then
  (some (-1))
 else
  ((zCC a1 (w64 (a2-(a1.length:Int)),0)).bind (Fl.go some fun v17=>
  some v17))
noncomputable def zCs (a1:(List Int)) (a2:Int):Option Int:=
 if decide ((w64 (a2-(a1.length:Int)))<0) then
  (some (-1))
 else
  (some (w64 (a2-(a1.length:Int))))
noncomputable def zDl (a1:File) (a2:Int):Option Int:=
 if decide ((w64 (a2-(a1.Path.size:Int)))<0) then
  (some (-1))
 else
  ((zCs a1.Data (w64 (a2-(a1.Path.size:Int)))).bind fun x4=>
  if decide (x4<0) then
   (some (-1))
  else
   (some x4))
noncomputable def zBM (a1:(List File)) (s10:(Int×Int)):Option (Lp (Int×Int) (Fl Int Int)):=
 if decide (s10.2< (a1.length:Int)) then
  ((idx a1 s10.2).bind fun x12=>
  (zDl x12 s10.1).bind fun x14=>
  if decide (x14<0) then
   (some (Lp.done (Fl.ret (-1))))
  else
   (some (Lp.go (x14,w64 (s10.2+1)))))
 else
  (some (Lp.done (Fl.nxt s10.1)))
noncomputable def zCv (a1:(List File)):(Int×Int)→Option (Fl Int Int):=loop (zBM a1)
noncomputable def zCl (a1:(List File)) (a2:Int):Option Int:=
 if decide ((w64 (a2-(a1.length:Int)))<0) then
  (some (-1))
 else
  ((zCv a1 (w64 (a2-(a1.length:Int)),0)).bind (Fl.go some fun v17=>
  some v17))
noncomputable def zDo (a1:zC) (a2:Int):Option Int:=
 (zCl a1.Files a2).bind fun x3=>
 if decide (x3<0) then
  (some (-1))
 else
  (some x3)
noncomputable def vF (a1:Version):Option Version:=
 some a1
noncomputable def zBU (a1:(List ByteArray)) (s9:((List ByteArray)×Int)):Option (Lp ((List ByteArray)×Int) (List ByteArray)):=
 if decide (s9.2< (a1.length:Int)) then
  ((idx a1 s9.2).bind fun x11=>
  (idx s9.1 s9.2).bind fun x13=>
  some (Lp.go (s9.1.set s9.2.toNat x11,w64 (s9.2+1))))
 else
  (some (Lp.done s9.1))
noncomputable def zBr (a1:(List ByteArray)):((List ByteArray)×Int)→Option (List ByteArray):=loop (zBU a1)
noncomputable def zBc (a1:(List ByteArray)):Option (List ByteArray):=
 (mk 16 (a1.length:Int) ByteArray.empty).bind fun x2=>
 (zBr a1 (x2,0)).bind fun v15=>
 some v15
noncomputable def zDk (a1:Term):Option Term:=
 (vF a1.Low).bind fun x2=>
 (vF a1.High).bind fun x4=>
 some ({Name:=a1.Name,Low:=x2,High:=x4}:Term)
noncomputable def zDb (a1:(List Term)) (s11:((List Term)×Int)):Option (Lp ((List Term)×Int) (List Term)):=
 if decide (s11.2< (a1.length:Int)) then
  ((idx a1 s11.2).bind fun x13=>
  (zDk x13).bind fun x15=>
  (idx s11.1 s11.2).bind fun x17=>
  some (Lp.go (s11.1.set s11.2.toNat x15,w64 (s11.2+1))))
 else
  (some (Lp.done s11.1))
noncomputable def zCw (a1:(List Term)):((List Term)×Int)→Option (List Term):=loop (zDb a1)
noncomputable def zA7 (a1:(List Term)):Option (List Term):=
 (mk 64 (a1.length:Int) ({Name:=ByteArray.empty,Low:=({A:=0,B:=0,C:=0}:Version),High:=({A:=0,B:=0,C:=0}:Version)}:Term)).bind fun x2=>
 (zCw a1 (x2,0)).bind fun v19=>
 some v19
noncomputable def zCJ (a1:(List (List Term))) (s11:((List (List Term))×Int)):Option (Lp ((List (List Term))×Int) (List (List Term))):=
 if decide (s11.2< (a1.length:Int)) then
  ((idx a1 s11.2).bind fun x13=>
  (zA7 x13).bind fun x15=>
  (idx s11.1 s11.2).bind fun x17=>
  some (Lp.go (s11.1.set s11.2.toNat x15,w64 (s11.2+1))))
 else
  (some (Lp.done s11.1))
noncomputable def zBQ (a1:(List (List Term))):((List (List Term))×Int)→Option (List (List Term)):=loop (zCJ a1)
noncomputable def zB0 (a1:(List (List Term))):Option (List (List Term)):=
 (mk 24 (a1.length:Int) ([]:List Term)).bind fun x2=>
 (zBQ a1 (x2,0)).bind fun v19=>
 some v19
noncomputable def zDq (a1:Pack):Option Pack:=
 (vF a1.Version).bind fun x2=>
 (zBc a1.Provides).bind fun x4=>
 (zB0 a1.Needs).bind fun x6=>
 (zA7 a1.Bars).bind fun x8=>
 some ({Name:=a1.Name,Version:=x2,Size:=a1.Size,Provides:=x4,Needs:=x6,Bars:=x8}:Pack)
noncomputable def zDc (a1:(List Pack)) (s11:((List Pack)×Int)):Option (Lp ((List Pack)×Int) (List Pack)):=
 if decide (s11.2< (a1.length:Int)) then
  ((idx a1 s11.2).bind fun x13=>
  (zDq x13).bind fun x15=>
  (idx s11.1 s11.2).bind fun x17=>
  some (Lp.go (s11.1.set s11.2.toNat x15,w64 (s11.2+1))))
 else
  (some (Lp.done s11.1))
noncomputable def zC8 (a1:(List Pack)):((List Pack)×Int)→Option (List Pack):=loop (zDc a1)
noncomputable def vO (a1:(List Pack)):Option (List Pack):=
 (mk 120 (a1.length:Int) ({Name:=ByteArray.empty,Version:=({A:=0,B:=0,C:=0}:Version),Size:=0,Provides:=([]:List ByteArray),Needs:=([]:List (List Term)),Bars:=([]:List Term)}:Pack)).bind fun x2=>
 (zC8 a1 (x2,0)).bind fun v19=>
 some v19
noncomputable def zDd (a1:(List Int)) (s9:((List Int)×Int)):Option (Lp ((List Int)×Int) (List Int)):=
 if decide (s9.2< (a1.length:Int)) then
  ((idx a1 s9.2).bind fun x11=>
  (idx s9.1 s9.2).bind fun x13=>
  some (Lp.go (s9.1.set s9.2.toNat x11,w64 (s9.2+1))))
 else
  (some (Lp.done s9.1))
noncomputable def zCn (a1:(List Int)):((List Int)×Int)→Option (List Int):=loop (zDd a1)
noncomputable def zC0 (a1:(List Int)):Option (List Int):=
 (mk 1 (a1.length:Int) 0).bind fun x2=>
 (zCn a1 (x2,0)).bind fun v15=>
 some v15
noncomputable def zDr (a1:File):Option File:=
 (zC0 a1.Data).bind fun x2=>
 some ({Path:=a1.Path,Data:=x2}:File)
noncomputable def zDe (a1:(List File)) (s11:((List File)×Int)):Option (Lp ((List File)×Int) (List File)):=
 if decide (s11.2< (a1.length:Int)) then
  ((idx a1 s11.2).bind fun x13=>
  (zDr x13).bind fun x15=>
  (idx s11.1 s11.2).bind fun x17=>
  some (Lp.go (s11.1.set s11.2.toNat x15,w64 (s11.2+1))))
 else
  (some (Lp.done s11.1))
noncomputable def zC2 (a1:(List File)):((List File)×Int)→Option (List File):=loop (zDe a1)
noncomputable def zCx (a1:(List File)):Option (List File):=
 (mk 40 (a1.length:Int) ({Path:=ByteArray.empty,Data:=([]:List Int)}:File)).bind fun x2=>
 (zC2 a1 (x2,0)).bind fun v19=>
 some v19
noncomputable def tO (a1:zC):Option zC:=
 (zCx a1.Files).bind fun x2=>
 some ({Files:=x2,Budget:=a1.Budget,Writes:=a1.Writes,Stop:=a1.Stop,Down:=a1.Down}:zC)
noncomputable def zCI (a1:(List Int)) (s9:((List Int)×Int)):Option (Lp ((List Int)×Int) (List Int)):=
 if decide (s9.2< (a1.length:Int)) then
  ((idx a1 s9.2).bind fun x11=>
  (idx s9.1 s9.2).bind fun x13=>
  some (Lp.go (s9.1.set s9.2.toNat x11,w64 (s9.2+1))))
 else
  (some (Lp.done s9.1))
noncomputable def zBB (a1:(List Int)):((List Int)×Int)→Option (List Int):=loop (zCI a1)
noncomputable def wN (a1:(List Int)):Option (List Int):=
 (mk 8 (a1.length:Int) 0).bind fun x2=>
 (zBB a1 (x2,0)).bind fun v15=>
 some v15
noncomputable def vI (a1:Int):Option Bool:=
 if decide (a1≥97) then
  (some (decide (a1≤122)))
 else
  (some false)
noncomputable def vN (a1:Int):Option Bool:=
 if decide (a1≥48) then
  (some (decide (a1≤57)))
 else
  (some false)
noncomputable def uE (a1:Int):Option Bool:=
 (vI a1).bind fun x2=>
 if x2 then
  (some true)
 else
  ((vN a1).bind fun x5=>
  if x5 then
   (some true)
  else
   (some (a1==95)))
noncomputable def zBX (a1:ByteArray) (s16:Int):Option (Lp Int (Fl Int Unit)):=
 if decide (s16< (a1.size:Int)) then
  ((bidx a1 s16).bind fun x18=>
  (uE x18).bind fun x20=>
  if !x20 then
   (some (Lp.done (Fl.ret 5)))
  else
   (some (Lp.go (w64 (s16+1)))))
 else
  (some (Lp.done (Fl.nxt ())))
noncomputable def kW (a1:ByteArray):Int→Option (Fl Int Unit):=loop (zBX a1)
noncomputable def vG (a1:ByteArray):Option Int:=
 (if decide ((a1.size:Int)<1) then
   (some true)
  else
   (if decide ((a1.size:Int)>12) then
    (some true)
   else
    ((bidx a1 0).bind fun x4=>
    (vI x4).bind fun x6=>
    some (!x6)))).bind fun v8=>
 if v8 then
  (some 5)
 else
  ((kW a1 0).bind (Fl.go some fun v23=>
  some 0))
noncomputable def xI (a1:Int) (a2:Int) (a3:Int):Option Bool:=
 if decide (a1≥a2) then
  (some (decide (a1≤a3)))
 else
  (some false)
noncomputable def yY (a1:Version):Option Int:=
 (xI a1.A 0 999).bind fun x2=>
 (if !x2 then
   (some true)
  else
   ((xI a1.B 0 999).bind fun x5=>
   if !x5 then
    (some true)
   else
    ((xI a1.C 0 999).bind fun x8=>
    some (!x8)))).bind fun v10=>
 if v10 then
  (some 3)
 else
  (some 0)
noncomputable def zBC (a1:(List ByteArray)) (a2:ByteArray) (s7:Int):Option (Lp Int (Fl Bool Unit)):=
 if decide (s7< (a1.length:Int)) then
  ((idx a1 s7).bind fun x9=>
  if seq x9 a2 then
   (some (Lp.done (Fl.ret true)))
  else
   (some (Lp.go (w64 (s7+1)))))
 else
  (some (Lp.done (Fl.nxt ())))
noncomputable def zCe (a1:(List ByteArray)) (a2:ByteArray):Int→Option (Fl Bool Unit):=loop (zBC a1 a2)
noncomputable def zA6 (a1:(List ByteArray)) (a2:ByteArray):Option Bool:=
 (zCe a1 a2 0).bind (Fl.go some fun v12=>
 some false)
noncomputable def zDE:Option Version:=
 some ({A:=1000,B:=0,C:=0}:Version)
noncomputable def zAe (a1:Int) (a2:Int):Option Int:=
 if decide (a1<a2) then
  (some (-1))
 else
  (if decide (a1>a2) then
   (some 1)
  else
   (some 0))
noncomputable def xO (a1:Version) (a2:Version):Option Int:=
 (zAe a1.A a2.A).bind fun x3=>
 if x3 !=0 then
  (some x3)
 else
  ((zAe a1.B a2.B).bind fun x6=>
  if x6 !=0 then
   (some x6)
  else
   ((zAe a1.C a2.C).bind fun x9=>
   some x9))
noncomputable def zAU (a1:Term):Option Int:=
 (vG a1.Name).bind fun x2=>
 if x2 !=0 then
  (some x2)
 else
  ((yY a1.Low).bind fun x5=>
  if x5 !=0 then
   (some x5)
  else
   ((zDE).bind fun x8=>
   (if !(a1.High.A==x8.A&&(a1.High.B==x8.B&&(a1.High.C==x8.C&&true))) then
     ((yY a1.High).bind fun x11=>
     some (x11 !=0))
    else
     (some false)).bind fun v13=>
   if v13 then
    (some 3)
   else
    ((xO a1.Low a1.High).bind fun x15=>
    if decide (x15≥0) then
     (some 1)
    else
     (some 0))))
noncomputable def zBG (a1:(List Term)) (s8:Int):Option (Lp Int (Fl Int Unit)):=
 if decide (s8< (a1.length:Int)) then
  ((idx a1 s8).bind fun x10=>
  (zAU x10).bind fun x12=>
  if x12 !=0 then
   (some (Lp.done (Fl.ret x12)))
  else
   (some (Lp.go (w64 (s8+1)))))
 else
  (some (Lp.done (Fl.nxt ())))
noncomputable def zCF (a1:(List Term)):Int→Option (Fl Int Unit):=loop (zBG a1)
noncomputable def kH (a1:(List Term)):Option Int:=
 (zCF a1 0).bind (Fl.go some fun v15=>
 some 0)
noncomputable def zAA (a1:Pack) (s70:Int):Option (Lp Int (Fl Int Unit)):=
 if decide (s70< (a1.Needs.length:Int)) then
  ((idx a1.Needs s70).bind fun x72=>
  if (x72.length:Int)==0 then
   (some (Lp.done (Fl.ret 1)))
  else
   ((idx a1.Needs s70).bind fun x75=>
   (kH x75).bind fun x77=>
   if x77 !=0 then
    (some (Lp.done (Fl.ret x77)))
   else
    (some (Lp.go (w64 (s70+1))))))
 else
  (some (Lp.done (Fl.nxt ())))
noncomputable def kQ (a1:Pack):Int→Option (Fl Int Unit):=loop (zAA a1)
noncomputable def zAG (a1:Pack) (s42:Int):Option (Lp Int (Fl Int Unit)):=
 if decide (s42< (a1.Provides.length:Int)) then
  ((idx a1.Provides s42).bind fun x44=>
  (vG x44).bind fun x46=>
  if x46 !=0 then
   (some (Lp.done (Fl.ret x46)))
  else
   ((idx a1.Provides s42).bind fun x49=>
   (if seq x49 a1.Name then
     (some true)
    else
     ((zEH a1.Provides 0 s42).bind fun x52=>
     (idx a1.Provides s42).bind fun x54=>
     (zA6 x52 x54).bind fun x56=>
     some x56)).bind fun v58=>
   if v58 then
    (some (Lp.done (Fl.ret 6)))
   else
    (some (Lp.go (w64 (s42+1))))))
 else
  (some (Lp.done (Fl.nxt ())))
noncomputable def kT (a1:Pack):Int→Option (Fl Int Unit):=loop (zAG a1)
noncomputable def zAH (a1:Pack) (s19:Int):Option (Lp Int (Fl Int Unit)):=
 if decide (s19< (a1.Needs.length:Int)) then
  ((idx a1.Needs s19).bind fun x21=>
  if decide ((x21.length:Int)>4) then
   (some (Lp.done (Fl.ret 2)))
  else
   (some (Lp.go (w64 (s19+1)))))
 else
  (some (Lp.done (Fl.nxt ())))
noncomputable def zBq (a1:Pack):Int→Option (Fl Int Unit):=loop (zAH a1)
noncomputable def zAS (a1:Pack):Option Int:=
 (vG a1.Name).bind fun x2=>
 if x2 !=0 then
  (some x2)
 else
  ((yY a1.Version).bind fun x5=>
  if x5 !=0 then
   (some x5)
  else
   ((xI a1.Size 1 200).bind fun x8=>
   if !x8 then
    (some 3)
   else
    ((if decide ((a1.Provides.length:Int)>4) then
       (some true)
      else
       (if decide ((a1.Needs.length:Int)>4) then
        (some true)
       else
        (some (decide ((a1.Bars.length:Int)>4))))).bind fun v13=>
    if v13 then
     (some 2)
    else
     ((zBq a1 0).bind (Fl.go some fun v24=>
     (kT a1 0).bind (Fl.go some fun v60=>
     (kQ a1 0).bind (Fl.go some fun v80=>
     (kH a1.Bars).bind fun x81=>
     some x81)))))))
noncomputable def zC7 (a1:(List Pack)) (a2:ByteArray) (a3:Version) (s14:Int):Option (Lp Int (Fl Int Unit)):=
 if decide (s14< (a1.length:Int)) then
  ((idx a1 s14).bind fun x16=>
  (if seq x16.Name a2 then
    ((idx a1 s14).bind fun x19=>
    (xO x19.Version a3).bind fun x21=>
    some (x21==0))
   else
    (some false)).bind fun v23=>
  if v23 then
   (some (Lp.done (Fl.ret s14)))
  else
   (some (Lp.go (w64 (s14+1)))))
 else
  (some (Lp.done (Fl.nxt ())))
noncomputable def zCP (a1:(List Pack)) (a2:ByteArray) (a3:Version):Int→Option (Fl Int Unit):=loop (zC7 a1 a2 a3)
noncomputable def zAm (a1:(List Pack)) (a2:ByteArray) (a3:Version):Option Int:=
 (zCP a1 a2 a3 0).bind (Fl.go some fun v25=>
 some (-1))
noncomputable def jE (a1:(List Pack)) (s18:Int):Option (Lp Int (Fl Int Unit)):=
 if decide (s18< (a1.length:Int)) then
  ((idx a1 s18).bind fun x20=>
  (zAS x20).bind fun x22=>
  if x22 !=0 then
   (some (Lp.done (Fl.ret x22)))
  else
   ((zEH a1 0 s18).bind fun x25=>
   (idx a1 s18).bind fun x27=>
   (idx a1 s18).bind fun x29=>
   (zAm x25 x27.Name x29.Version).bind fun x31=>
   if decide (x31≥0) then
    (some (Lp.done (Fl.ret 6)))
   else
    (some (Lp.go (w64 (s18+1))))))
 else
  (some (Lp.done (Fl.nxt ())))
noncomputable def jX (a1:(List Pack)):Int→Option (Fl Int Unit):=loop (jE a1)
noncomputable def tQ (a1:(List Pack)):Option Int:=
 if decide ((a1.length:Int)>24) then
  (some 2)
 else
  ((jX a1 0).bind (Fl.go some fun v34=>
  some 0))
noncomputable def zDh (a1:Int):Option Bool:=
 (uE a1).bind fun x2=>
 if x2 then
  (some true)
 else
  (if a1==46 then
   (some true)
  else
   (if a1==45 then
    (some true)
   else
    (some (a1==47))))
noncomputable def jJ (a1:ByteArray) (s11:Int):Option (Lp Int (Fl Int Unit)):=
 if decide (s11< (a1.size:Int)) then
  ((bidx a1 s11).bind fun x13=>
  (zDh x13).bind fun x15=>
  if !x15 then
   (some (Lp.done (Fl.ret 5)))
  else
   (some (Lp.go (w64 (s11+1)))))
 else
  (some (Lp.done (Fl.nxt ())))
noncomputable def uS (a1:ByteArray):Int→Option (Fl Int Unit):=loop (jJ a1)
noncomputable def vC (a1:ByteArray):Option Int:=
 (if decide ((a1.size:Int)<1) then
   (some true)
  else
   (some (decide ((a1.size:Int)>40)))).bind fun v3=>
 if v3 then
  (some 5)
 else
  ((uS a1 0).bind (Fl.go some fun v18=>
  some 0))
noncomputable def zBA (a1:zC) (s5:(Int×Int)):Option (Lp (Int×Int) Int):=
 if decide (s5.2< (a1.Files.length:Int)) then
  ((idx a1.Files s5.2).bind fun x7=>
  some (Lp.go (w64 (s5.1+(x7.Data.length:Int)),w64 (s5.2+1))))
 else
  (some (Lp.done s5.1))
noncomputable def zCp (a1:zC):(Int×Int)→Option Int:=loop (zBA a1)
noncomputable def zC6 (a1:zC):Option Int:=
 (zCp a1 (0,0)).bind fun v9=>
 some v9
noncomputable def jN (a1:zC) (s29:Int):Option (Lp Int (Fl Int Unit)):=
 if decide (s29< (a1.Files.length:Int)) then
  ((idx a1.Files s29).bind fun x31=>
  (vC x31.Path).bind fun x33=>
  if x33 !=0 then
   (some (Lp.done (Fl.ret x33)))
  else
   ((if decide (s29>0) then
      ((idx a1.Files s29).bind fun x37=>
      (idx a1.Files (w64 (s29-1))).bind fun x39=>
      some (slt x37.Path x39.Path||seq x37.Path x39.Path))
     else
      (some false)).bind fun v41=>
   if v41 then
    (some (Lp.done (Fl.ret 1)))
   else
    ((idx a1.Files s29).bind fun x43=>
    if decide ((x43.Data.length:Int)>4000) then
     (some (Lp.done (Fl.ret 2)))
    else
     (some (Lp.go (w64 (s29+1)))))))
 else
  (some (Lp.done (Fl.nxt ())))
noncomputable def uU (a1:zC):Int→Option (Fl Int Unit):=loop (jN a1)
noncomputable def vB (a1:zC):Option Int:=
 (xI a1.Budget 0 20000).bind fun x2=>
 (if !x2 then
   (some true)
  else
   ((xI a1.Writes 0 1000000000).bind fun x5=>
   if !x5 then
    (some true)
   else
    ((xI a1.Stop (-1) 1000000000).bind fun x8=>
    some (!x8)))).bind fun v10=>
 if v10 then
  (some 3)
 else
  (if decide ((a1.Files.length:Int)>120) then
   (some 2)
  else
   ((uU a1 0).bind (Fl.go some fun v46=>
   (zC6 a1).bind fun x47=>
   if decide (x47>a1.Budget) then
    (some 8)
   else
    (some 0))))
noncomputable def zCi (a1:(List Pack)) (a2:zC):Option Int:=
 (tQ a1).bind fun x3=>
 if x3 !=0 then
  (some x3)
 else
  ((vB a2).bind fun x6=>
  some x6)
noncomputable def zCg (a1:(List Pack)) (a2:zC):Option Int:=
 (zCi a1 a2).bind fun x3=>
 if x3 !=0 then
  (some x3)
 else
  (if a2.Down then
   (some 9)
  else
   (some 0))
noncomputable def zAj (a1:zC) (a2:ByteArray) (s7:Int):Option (Lp Int (Fl Int Unit)):=
 if decide (s7< (a1.Files.length:Int)) then
  ((idx a1.Files s7).bind fun x9=>
  if seq x9.Path a2 then
   (some (Lp.done (Fl.ret s7)))
  else
   (some (Lp.go (w64 (s7+1)))))
 else
  (some (Lp.done (Fl.nxt ())))
noncomputable def zAW (a1:zC) (a2:ByteArray):Int→Option (Fl Int Unit):=loop (zAj a1 a2)
noncomputable def yK (a1:zC) (a2:ByteArray):Option Int:=
 (zAW a1 a2 0).bind (Fl.go some fun v12=>
 some (-1))
noncomputable def tY (a1:ByteArray) (a2:ByteArray):Option Bool:=
 if decide ((a1.size:Int)≥(a2.size:Int)) then
  ((zHS a1 0 (a2.size:Int)).bind fun x4=>
  some (seq x4 a2))
 else
  (some false)
noncomputable def jP (a1:zC) (a2:ByteArray) (s14:((List ByteArray)×Int)):Option (Lp ((List ByteArray)×Int) (List ByteArray)):=
 if decide (s14.2< (a1.Files.length:Int)) then
  ((idx a1.Files s14.2).bind fun x16=>
  (tY x16.Path a2).bind fun x18=>
  (if x18 then
    ((idx a1.Files s14.2).bind fun x21=>
    (app 16 s14.1 [x21.Path]).bind fun x23=>
    some x23)
   else
    (some s14.1)).bind fun v25=>
  some (Lp.go (v25,w64 (s14.2+1))))
 else
  (some (Lp.done s14.1))
noncomputable def jD (a1:zC) (a2:ByteArray):((List ByteArray)×Int)→Option (List ByteArray):=loop (jP a1 a2)
noncomputable def uO (a1:zC) (a2:ByteArray):Option (List ByteArray):=
 (jD a1 a2 (([]:List ByteArray),0)).bind fun v26=>
 some v26
noncomputable def zBf (a1:ByteArray) (s14:(Int×Int)):Option (Lp (Int×Int) (Fl (Int×Bool) Int)):=
 if decide (s14.2< (a1.size:Int)) then
  ((bidx a1 s14.2).bind fun x16=>
  (vN x16).bind fun x18=>
  if !x18 then
   (some (Lp.done (Fl.ret (0,false))))
  else
   ((bidx a1 s14.2).bind fun x21=>
   some (Lp.go (w64 ((w64 (s14.1*10))+(w64 (IntKind.u8.wrap (x21-48)))),w64 (s14.2+1)))))
 else
  (some (Lp.done (Fl.nxt s14.1)))
noncomputable def zBE (a1:ByteArray):(Int×Int)→Option (Fl (Int×Bool) Int):=loop (zBf a1)
noncomputable def wF (a1:ByteArray) (a2:Int):Option (Int×Bool):=
 (if decide ((a1.size:Int)<1) then
   (some true)
  else
   (some (decide ((a1.size:Int)>a2)))).bind fun v4=>
 if v4 then
  (some (0,false))
 else
  ((zBE a1 (0,0)).bind (Fl.go some fun v23=>
  some (v23,true)))
noncomputable def uM (g:Int→Option ByteArray) (s:Int):Option ByteArray:=
 match s with
 |a1=>
 if decide (a1<10) then
  (some (b2s [IntKind.u8.wrap (w64 (48+a1))]))
 else
  ((g (w64 (a1.tdiv 10))).bind fun x3=>
  (cat x3 (b2s [IntKind.u8.wrap (w64 (48+(a1.tmod 10)))])).bind fun x5=>
  some x5)
noncomputable def wB (a1:Int):Option ByteArray:=zPn uM 64 a1
noncomputable def wH (a1:Int):Option ByteArray:=
 (xI a1 1 999999).bind fun x2=>
 if !x2 then
  (some (bs []))
 else
  ((wB (w64 (1000000+a1))).bind fun x5=>
  (zHS x5 1 (x5.size:Int)).bind fun x7=>
  (cat (bs [103,101,110,47]) x7).bind fun x9=>
  some x9)
noncomputable def zBi (a1:zC) (x2:(List ByteArray)) (s21:((List Int)×Int)):Option (Lp ((List Int)×Int) (List Int)):=
 if decide (s21.2< (x2.length:Int)) then
  ((idx x2 s21.2).bind fun x23=>
  (zHS x23 4 (x23.size:Int)).bind fun x25=>
  (wF x25 6).bind fun x27=>
  (if x27.2 then
    ((wH x27.1).bind fun x30=>
    (idx x2 s21.2).bind fun x32=>
    some (seq x30 x32))
   else
    (some false)).bind fun v34=>
  (if v34 then
    ((app 8 s21.1 [x27.1]).bind fun x36=>
    some x36)
   else
    (some s21.1)).bind fun v38=>
  some (Lp.go (v38,w64 (s21.2+1))))
 else
  (some (Lp.done s21.1))
noncomputable def zBS (a1:zC) (x2:(List ByteArray)):((List Int)×Int)→Option (List Int):=loop (zBi a1 x2)
noncomputable def wT (a1:zC):Option (List Int):=
 (uO a1 (bs [103,101,110,47])).bind fun x2=>
 (zBS a1 x2 (([]:List Int),0)).bind fun v39=>
 some v39
noncomputable def zCV (a1:(List Int)) (a2:Int) (s7:Int):Option (Lp Int (Fl Bool Unit)):=
 if decide (s7< (a1.length:Int)) then
  ((idx a1 s7).bind fun x9=>
  if x9==a2 then
   (some (Lp.done (Fl.ret true)))
  else
   (some (Lp.go (w64 (s7+1)))))
 else
  (some (Lp.done (Fl.nxt ())))
noncomputable def zD2 (a1:(List Int)) (a2:Int):Int→Option (Fl Bool Unit):=loop (zCV a1 a2)
noncomputable def yX (a1:(List Int)) (a2:Int):Option Bool:=
 (zD2 a1 a2 0).bind (Fl.go some fun v12=>
 some false)
noncomputable def zCQ (a1:(List Int)) (a2:Int) (s16:((List Int)×Bool×Int)):Option (Lp ((List Int)×Bool×Int) ((List Int)×Bool)):=
 if decide (s16.2.2< (a1.length:Int)) then
  ((idx a1 s16.2.2).bind fun x18=>
  (if decide (x18>a2) then
    (some (!s16.2.1))
   else
    (some false)).bind fun v21=>
  (if v21 then
    ((app 8 s16.1 [a2]).bind fun x23=>
    some (x23,true))
   else
    (some (s16.1,s16.2.1))).bind fun v25=>
  (idx a1 s16.2.2).bind fun x26=>
  (app 8 v25.1 [x26]).bind fun x28=>
  some (Lp.go (x28,v25.2,w64 (s16.2.2+1))))
 else
  (some (Lp.done (s16.1,s16.2.1)))
noncomputable def zD3 (a1:(List Int)) (a2:Int):((List Int)×Bool×Int)→Option ((List Int)×Bool):=loop (zCQ a1 a2)
noncomputable def wX (a1:(List Int)) (a2:Int):Option (List Int):=
 (zD3 a1 a2 (([]:List Int),false,0)).bind fun v30=>
 (if !v30.2 then
   ((app 8 v30.1 [a2]).bind fun x32=>
   some x32)
  else
   (some v30.1)).bind fun v34=>
 some v34
noncomputable def kK (a1:zC):Option Int:=
 (yK a1 (bs [99,117,114])).bind fun x2=>
 if decide (x2<0) then
  (some 0)
 else
  ((idx a1.Files x2).bind fun x5=>
  (wF (b2s x5.Data) 6).bind fun x7=>
  (if !x7.2 then
    (some true)
   else
    ((wT a1).bind fun x10=>
    (yX x10 x7.1).bind fun x12=>
    some (!x12))).bind fun v14=>
  if v14 then
   (some 0)
  else
   (some x7.1))
noncomputable def zBL (a1:zC) (a2:(List Int)) (x4:(List Int)) (s22:((List Int)×Int)):Option (Lp ((List Int)×Int) (Fl ((List Int)×Int) (List Int))):=
 if decide (s22.2< (a2.length:Int)) then
  ((idx a2 s22.2).bind fun x24=>
  (yX x4 x24).bind fun x26=>
  if !x26 then
   (some (Lp.done (Fl.ret (([]:List Int),4))))
  else
   ((idx a2 s22.2).bind fun x29=>
   (yX s22.1 x29).bind fun x31=>
   (if !x31 then
     ((idx a2 s22.2).bind fun x34=>
     (wX s22.1 x34).bind fun x36=>
     some x36)
    else
     (some s22.1)).bind fun v38=>
   some (Lp.go (v38,w64 (s22.2+1)))))
 else
  (some (Lp.done (Fl.nxt s22.1)))
noncomputable def zBm (a1:zC) (a2:(List Int)) (x4:(List Int)):((List Int)×Int)→Option (Fl ((List Int)×Int) (List Int)):=loop (zBL a1 a2 x4)
noncomputable def kJ (a1:zC) (a2:(List Int)):Option ((List Int)×Int):=
 if decide ((a2.length:Int)>40) then
  (some (([]:List Int),2))
 else
  ((wT a1).bind fun x4=>
  (zBm a1 a2 x4 (([]:List Int),0)).bind (Fl.go some fun v39=>
  (kK a1).bind fun x40=>
  if x40==0 then
   (some (([]:List Int),4))
  else
   ((yX v39 x40).bind fun x43=>
   (if !x43 then
     ((wX v39 x40).bind fun x46=>
     some x46)
    else
     (some v39)).bind fun v48=>
   some (v48,0))))
noncomputable def zBO (a1:ByteArray) (a2:Int) (s14:((List ByteArray)×Int×Int)):Option (Lp ((List ByteArray)×Int×Int) (List ByteArray)):=
 if decide (s14.2.2≤(a1.size:Int)) then
  ((if s14.2.2==(a1.size:Int) then
     (some true)
    else
     ((bidx a1 s14.2.2).bind fun x17=>
     some (x17==a2))).bind fun v19=>
  (if v19 then
    ((zHS a1 s14.2.1 s14.2.2).bind fun x21=>
    (app 16 s14.1 [x21]).bind fun x23=>
    some (x23,w64 (s14.2.2+1)))
   else
    (some (s14.1,s14.2.1))).bind fun v25=>
  some (Lp.go (v25.1,v25.2,w64 (s14.2.2+1))))
 else
  (some (Lp.done s14.1))
noncomputable def zC9 (a1:ByteArray) (a2:Int):((List ByteArray)×Int×Int)→Option (List ByteArray):=loop (zBO a1 a2)
noncomputable def jA (a1:ByteArray) (a2:Int):Option (List ByteArray):=
 (zC9 a1 a2 (([]:List ByteArray),0,0)).bind fun v26=>
 some v26
noncomputable def zCq (a1:ByteArray):Option (List ByteArray):=
 (jA a1 10).bind fun x2=>
 (idx x2 (w64 ((x2.length:Int)-1))).bind fun x4=>
 (if seq x4 (bs []) then
   ((zEH x2 0 (w64 ((x2.length:Int)-1))).bind fun x7=>
   some x7)
  else
   (some x2)).bind fun v9=>
 some v9
noncomputable def zBJ (x2:(List ByteArray)) (s13:((List ByteArray)×Int)):Option (Lp ((List ByteArray)×Int) (List ByteArray)):=
 if decide (s13.2< (x2.length:Int)) then
  ((idx x2 s13.2).bind fun x15=>
  (if !(seq x15 (bs [])) then
    ((idx x2 s13.2).bind fun x18=>
    (app 16 s13.1 [x18]).bind fun x20=>
    some x20)
   else
    (some s13.1)).bind fun v22=>
  some (Lp.go (v22,w64 (s13.2+1))))
 else
  (some (Lp.done s13.1))
noncomputable def zC5 (x2:(List ByteArray)):((List ByteArray)×Int)→Option (List ByteArray):=loop (zBJ x2)
noncomputable def zCE (a1:ByteArray):Option (List ByteArray):=
 (jA a1 32).bind fun x2=>
 (zC5 x2 (([]:List ByteArray),0)).bind fun v23=>
 some v23
noncomputable def jB (x2:(List ByteArray)) (s13:((List Int)×Int)):Option (Lp ((List Int)×Int) (Fl zP (List Int))):=
 if decide (s13.2< (x2.length:Int)) then
  ((idx x2 s13.2).bind fun x15=>
  (wF x15 3).bind fun x17=>
  if !x17.2 then
   (some (Lp.done (Fl.ret ({Code:=5,Version:=({A:=0,B:=0,C:=0}:Version)}:zP))))
  else
   ((idx s13.1 s13.2).bind fun x20=>
   some (Lp.go (s13.1.set s13.2.toNat x17.1,w64 (s13.2+1)))))
 else
  (some (Lp.done (Fl.nxt s13.1)))
noncomputable def jW (x2:(List ByteArray)):((List Int)×Int)→Option (Fl zP (List Int)):=loop (jB x2)
noncomputable def vQ (a1:ByteArray):Option zP:=
 (jA a1 46).bind fun x2=>
 if decide ((x2.length:Int)>3) then
  (some ({Code:=5,Version:=({A:=0,B:=0,C:=0}:Version)}:zP))
 else
  ((jW x2 ([0,0,0],0)).bind (Fl.go some fun v22=>
  (idx v22 0).bind fun x23=>
  (idx v22 1).bind fun x25=>
  (idx v22 2).bind fun x27=>
  some ({Code:=0,Version:=({A:=x23,B:=x25,C:=x27}:Version)}:zP)))
noncomputable def zAy (a1:(List Pack)) (x4:(List ByteArray)) (s29:((List Int)×Int)):Option (Lp ((List Int)×Int) (Fl yG (List Int))):=
 if decide (s29.2< (x4.length:Int)) then
  ((idx x4 s29.2).bind fun x31=>
  (zCE x31).bind fun x33=>
  (if (x33.length:Int)==2 then
    ((idx x33 1).bind fun x36=>
    (vQ x36).bind fun x38=>
    if x38.Code==0 then
     ((idx x33 0).bind fun x41=>
     (zAm a1 x41 x38.Version).bind fun x43=>
     some x43)
    else
     (some (-1)))
   else
    (some (-1))).bind fun v45=>
  (if decide (v45<0) then
    (some true)
   else
    ((yX s29.1 v45).bind fun x47=>
    some x47)).bind fun v49=>
  if v49 then
   (some (Lp.done (Fl.ret ({Code:=5,At:=s29.2,Set:=([]:List Int)}:yG))))
  else
   ((wX s29.1 v45).bind fun x51=>
   some (Lp.go (x51,w64 (s29.2+1)))))
 else
  (some (Lp.done (Fl.nxt s29.1)))
noncomputable def zCh (a1:(List Pack)) (x4:(List ByteArray)):((List Int)×Int)→Option (Fl yG (List Int)):=loop (zAy a1 x4)
noncomputable def zCk (a1:(List Pack)) (a2:ByteArray):Option yG:=
 if decide ((a2.size:Int)>4000) then
  (some ({Code:=2,At:=0,Set:=([]:List Int)}:yG))
 else
  ((zCq a2).bind fun x4=>
  (zCh a1 x4 (([]:List Int),0)).bind (Fl.go some fun v53=>
  some ({Code:=0,At:=0,Set:=v53}:yG)))
noncomputable def zDC (a1:(List Pack)) (a2:zC) (a3:Int):Option yG:=
 (wT a2).bind fun x4=>
 (yX x4 a3).bind fun x6=>
 if !x6 then
  (some ({Code:=4,At:=0,Set:=([]:List Int)}:yG))
 else
  ((wH a3).bind fun x9=>
  (yK a2 x9).bind fun x11=>
  (idx a2.Files x11).bind fun x13=>
  (zCk a1 (b2s x13.Data)).bind fun x15=>
  if x15.Code !=0 then
   (some ({Code:=x15.Code,At:=0,Set:=([]:List Int)}:yG))
  else
   (some x15))
noncomputable def vZ (a1:Version):Option ByteArray:=
 (yY a1).bind fun x2=>
 if x2 !=0 then
  (some (bs []))
 else
  ((wB a1.A).bind fun x5=>
  (cat x5 (bs [46])).bind fun x7=>
  (wB a1.B).bind fun x9=>
  (cat x7 x9).bind fun x11=>
  (cat x11 (bs [46])).bind fun x13=>
  (wB a1.C).bind fun x15=>
  (cat x13 x15).bind fun x17=>
  some x17)
noncomputable def zDp (a1:Pack):Option ByteArray:=
 (cat (bs [112,107,103,47]) a1.Name).bind fun x2=>
 (cat x2 (bs [45])).bind fun x4=>
 (vZ a1.Version).bind fun x6=>
 (cat x4 x6).bind fun x8=>
 some x8
noncomputable def zFs (a1:(List ByteArray)) (a2:ByteArray) (s19:((List ByteArray)×Bool×Int)):Option (Lp ((List ByteArray)×Bool×Int) (Fl (List ByteArray) ((List ByteArray)×Bool))):=
 if decide (s19.2.2< (a1.length:Int)) then
  ((idx a1 s19.2.2).bind fun x21=>
  if seq x21 a2 then
   (some (Lp.done (Fl.ret a1)))
  else
   ((idx a1 s19.2.2).bind fun x24=>
   (if !(slt x24 a2||seq x24 a2) then
     (some (!s19.2.1))
    else
     (some false)).bind fun v27=>
   (if v27 then
     ((app 16 s19.1 [a2]).bind fun x29=>
     some (x29,true))
    else
     (some (s19.1,s19.2.1))).bind fun v31=>
   (idx a1 s19.2.2).bind fun x32=>
   (app 16 v31.1 [x32]).bind fun x34=>
   some (Lp.go (x34,v31.2,w64 (s19.2.2+1)))))
 else
  (some (Lp.done (Fl.nxt (s19.1,s19.2.1))))
noncomputable def zEb (a1:(List ByteArray)) (a2:ByteArray):((List ByteArray)×Bool×Int)→Option (Fl (List ByteArray) ((List ByteArray)×Bool)):=loop (zFs a1 a2)
noncomputable def zGm (a1:(List ByteArray)) (a2:ByteArray):Option (List ByteArray):=
 (zEb a1 a2 (([]:List ByteArray),false,0)).bind (Fl.go some fun v36=>
 (if !v36.2 then
   ((app 16 v36.1 [a2]).bind fun x38=>
   some x38)
  else
   (some v36.1)).bind fun v40=>
 some v40)
noncomputable def zC3 (a1:(List ByteArray)) (a2:ByteArray) (s19:((List ByteArray)×Bool×Int)):Option (Lp ((List ByteArray)×Bool×Int) (Fl (List ByteArray) ((List ByteArray)×Bool))):=
 if decide (s19.2.2< (a1.length:Int)) then
  ((idx a1 s19.2.2).bind fun x21=>
  if seq x21 a2 then
   (some (Lp.done (Fl.ret a1)))
  else
   ((idx a1 s19.2.2).bind fun x24=>
   (if !(slt x24 a2||seq x24 a2) then
     (some (!s19.2.1))
    else
     (some false)).bind fun v27=>
   (if v27 then
     ((app 16 s19.1 [a2]).bind fun x29=>
     some (x29,true))
    else
     (some (s19.1,s19.2.1))).bind fun v31=>
   (idx a1 s19.2.2).bind fun x32=>
   (app 16 v31.1 [x32]).bind fun x34=>
   some (Lp.go (x34,v31.2,w64 (s19.2.2+1)))))
 else
  (some (Lp.done (Fl.nxt (s19.1,s19.2.1))))
noncomputable def zCX (a1:(List ByteArray)) (a2:ByteArray):((List ByteArray)×Bool×Int)→Option (Fl (List ByteArray) ((List ByteArray)×Bool)):=loop (zC3 a1 a2)
noncomputable def zDs (a1:(List ByteArray)) (a2:ByteArray):Option (List ByteArray):=
 (zCX a1 a2 (([]:List ByteArray),false,0)).bind (Fl.go some fun v36=>
 (if !v36.2 then
   ((app 16 v36.1 [a2]).bind fun x38=>
   some x38)
  else
   (some v36.1)).bind fun v40=>
 some v40)
noncomputable def zAd (a1:(List Pack)) (a2:zC) (x4:((List Int)×Int)) (s33:((List ByteArray)×Int)) (x37:yG) (s49:((List ByteArray)×Int)):Option (Lp ((List ByteArray)×Int) (List ByteArray)):=
 if decide (s49.2< (x37.Set.length:Int)) then
  ((idx x37.Set s49.2).bind fun x51=>
  (idx a1 x51).bind fun x53=>
  (zDp x53).bind fun x55=>
  (zDs s49.1 x55).bind fun x57=>
  some (Lp.go (x57,w64 (s49.2+1))))
 else
  (some (Lp.done s49.1))
noncomputable def vV (a1:(List Pack)) (a2:zC) (x4:((List Int)×Int)) (s33:((List ByteArray)×Int)) (x37:yG):((List ByteArray)×Int)→Option (List ByteArray):=loop (zAd a1 a2 x4 s33 x37)
noncomputable def tH (a1:(List Pack)) (a2:zC) (x4:((List Int)×Int)) (s33:((List ByteArray)×Int)):Option (Lp ((List ByteArray)×Int) (Fl ((List ByteArray)×Int) (List ByteArray))):=
 if decide (s33.2< (x4.1.length:Int)) then
  ((idx x4.1 s33.2).bind fun x35=>
  (zDC a1 a2 x35).bind fun x37=>
  if x37.Code !=0 then
   (some (Lp.done (Fl.ret (([]:List ByteArray),x37.Code))))
  else
   ((vV a1 a2 x4 s33 x37 (s33.1,0)).bind fun v59=>
   some (Lp.go (v59,w64 (s33.2+1)))))
 else
  (some (Lp.done (Fl.nxt s33.1)))
noncomputable def zA2 (a1:(List Pack)) (a2:zC) (x4:((List Int)×Int)):((List ByteArray)×Int)→Option (Fl ((List ByteArray)×Int) (List ByteArray)):=loop (tH a1 a2 x4)
noncomputable def zAp (a1:(List Pack)) (a2:zC) (a3:(List Int)):Option ((List ByteArray)×Int):=
 (kJ a2 a3).bind fun x4=>
 if x4.2 !=0 then
  (some (([]:List ByteArray),x4.2))
 else
  ((zA2 a1 a2 x4 (([]:List ByteArray),0)).bind (Fl.go some fun v60=>
  some (v60,0)))
noncomputable def zBj (a1:zC) (s20:((List File)×Int)):Option (Lp ((List File)×Int) (List File)):=
 if decide (s20.2< (a1.Files.length:Int)) then
  ((idx a1.Files s20.2).bind fun x22=>
  (idx a1.Files s20.2).bind fun x24=>
  (app 1 ([]:List Int) x24.Data).bind fun x26=>
  (app 40 s20.1 [({Path:=x22.Path,Data:=x26}:File)]).bind fun x28=>
  some (Lp.go (x28,w64 (s20.2+1))))
 else
  (some (Lp.done s20.1))
noncomputable def zAX (a1:zC):((List File)×Int)→Option (List File):=loop (zBj a1)
noncomputable def zBx (a1:zC):Option zC:=
 (zAX a1 (([]:List File),0)).bind fun v30=>
 some ({Files:=v30,Budget:=a1.Budget,Writes:=a1.Writes,Stop:=a1.Stop,Down:=a1.Down}:zC)
noncomputable def zAq (a1:zC):Option (Int×zC):=
 (yK a1 (bs [99,117,114])).bind fun x2=>
 if decide (x2<0) then
  (some (0,a1))
 else
  ((idx a1.Files x2).bind fun x5=>
  (wF (b2s x5.Data) 6).bind fun x7=>
  (if !x7.2 then
    (some (a1.Files.set x2.toNat x5,a1.Budget,a1.Writes,a1.Stop,a1.Down,true))
   else
    ((wT ({Files:=a1.Files.set x2.toNat x5,Budget:=a1.Budget,Writes:=a1.Writes,Stop:=a1.Stop,Down:=a1.Down}:zC)).bind fun x10=>
    (yX x10 x7.1).bind fun x12=>
    some (({Files:=a1.Files.set x2.toNat x5,Budget:=a1.Budget,Writes:=a1.Writes,Stop:=a1.Stop,Down:=a1.Down}:zC).Files,({Files:=a1.Files.set x2.toNat x5,Budget:=a1.Budget,Writes:=a1.Writes,Stop:=a1.Stop,Down:=a1.Down}:zC).Budget,({Files:=a1.Files.set x2.toNat x5,Budget:=a1.Budget,Writes:=a1.Writes,Stop:=a1.Stop,Down:=a1.Down}:zC).Writes,({Files:=a1.Files.set x2.toNat x5,Budget:=a1.Budget,Writes:=a1.Writes,Stop:=a1.Stop,Down:=a1.Down}:zC).Stop,({Files:=a1.Files.set x2.toNat x5,Budget:=a1.Budget,Writes:=a1.Writes,Stop:=a1.Stop,Down:=a1.Down}:zC).Down,!x12))).bind fun v14=>
  if v14.2.2.2.2.2 then
   (some (0,({Files:=v14.1,Budget:=v14.2.1,Writes:=v14.2.2.1,Stop:=v14.2.2.2.1,Down:=v14.2.2.2.2.1}:zC)))
  else
   (some (x7.1,({Files:=v14.1,Budget:=v14.2.1,Writes:=v14.2.2.1,Stop:=v14.2.2.2.1,Down:=v14.2.2.2.2.1}:zC))))
noncomputable def zBn (a1:zC) (a2:(List Int)) (x4:(List Int)) (s22:((List Int)×Int)):Option (Lp ((List Int)×Int) (Fl ((List Int)×Int×zC) (List Int))):=
 if decide (s22.2< (a2.length:Int)) then
  ((idx a2 s22.2).bind fun x24=>
  (yX x4 x24).bind fun x26=>
  if !x26 then
   (some (Lp.done (Fl.ret (([]:List Int),4,a1))))
  else
   ((idx a2 s22.2).bind fun x29=>
   (yX s22.1 x29).bind fun x31=>
   (if !x31 then
     ((idx a2 s22.2).bind fun x34=>
     (wX s22.1 x34).bind fun x36=>
     some x36)
    else
     (some s22.1)).bind fun v38=>
   some (Lp.go (v38,w64 (s22.2+1)))))
 else
  (some (Lp.done (Fl.nxt s22.1)))
noncomputable def zAz (a1:zC) (a2:(List Int)) (x4:(List Int)):((List Int)×Int)→Option (Fl ((List Int)×Int×zC) (List Int)):=loop (zBn a1 a2 x4)
noncomputable def zB5 (a1:zC) (a2:(List Int)):Option ((List Int)×Int×zC):=
 if decide ((a2.length:Int)>40) then
  (some (([]:List Int),2,a1))
 else
  ((wT a1).bind fun x4=>
  (zAz a1 a2 x4 (([]:List Int),0)).bind (Fl.go some fun v39=>
  (zAq a1).bind fun x40=>
  if x40.1==0 then
   (some (([]:List Int),4,x40.2))
  else
   ((yX v39 x40.1).bind fun x43=>
   (if !x43 then
     ((wX v39 x40.1).bind fun x46=>
     some x46)
    else
     (some v39)).bind fun v48=>
   some (v48,0,x40.2))))
noncomputable def kC (a1:zC) (a2:(List Int)) (a3:(List ByteArray)) (x34:(List ByteArray)) (s47:((List ByteArray)×Int)):Option (Lp ((List ByteArray)×Int) (List ByteArray)):=
 if decide (s47.2< (x34.length:Int)) then
  ((idx x34 s47.2).bind fun x49=>
  (zA6 a3 x49).bind fun x51=>
  (if !x51 then
    ((idx x34 s47.2).bind fun x54=>
    (app 16 s47.1 [x54]).bind fun x56=>
    some x56)
   else
    (some s47.1)).bind fun v58=>
  some (Lp.go (v58,w64 (s47.2+1))))
 else
  (some (Lp.done s47.1))
noncomputable def zAc (a1:zC) (a2:(List Int)) (a3:(List ByteArray)) (x34:(List ByteArray)):((List ByteArray)×Int)→Option (List ByteArray):=loop (kC a1 a2 a3 x34)
noncomputable def kF (a1:zC) (a2:(List Int)) (a3:(List ByteArray)) (x4:(List Int)) (s19:((List ByteArray)×Int)):Option (Lp ((List ByteArray)×Int) (List ByteArray)):=
 if decide (s19.2< (x4.length:Int)) then
  ((idx x4 s19.2).bind fun x21=>
  (yX a2 x21).bind fun x23=>
  (if !x23 then
    ((idx x4 s19.2).bind fun x26=>
    (wH x26).bind fun x28=>
    (app 16 s19.1 [x28]).bind fun x30=>
    some x30)
   else
    (some s19.1)).bind fun v32=>
  some (Lp.go (v32,w64 (s19.2+1))))
 else
  (some (Lp.done s19.1))
noncomputable def zAl (a1:zC) (a2:(List Int)) (a3:(List ByteArray)) (x4:(List Int)):((List ByteArray)×Int)→Option (List ByteArray):=loop (kF a1 a2 a3 x4)
noncomputable def jS (a1:zC) (a2:(List Int)) (a3:(List ByteArray)):Option (List ByteArray):=
 (wT a1).bind fun x4=>
 (zAl a1 a2 a3 x4 (([]:List ByteArray),0)).bind fun v33=>
 (uO a1 (bs [112,107,103,47])).bind fun x34=>
 (zAc a1 a2 a3 x34 (v33,0)).bind fun v59=>
 some v59
noncomputable def zB8 (a1:zC):Option (Bool×zC):=
 if a1.Down then
  (some (false,a1))
 else
  ((if a1.Stop !=(-1) then
     (some (decide (a1.Writes≥a1.Stop)))
    else
     (some false)).bind fun v4=>
  if v4 then
   (some (false,({Files:=a1.Files,Budget:=a1.Budget,Writes:=a1.Writes,Stop:=a1.Stop,Down:=true}:zC)))
  else
   (some (true,({Files:=a1.Files,Budget:=a1.Budget,Writes:=w64 (a1.Writes+1),Stop:=a1.Stop,Down:=a1.Down}:zC))))
noncomputable def zBv (a1:zC) (a2:ByteArray):Option (Bool×zC):=
 (zB8 a1).bind fun x3=>
 if !x3.1 then
  (some (false,x3.2))
 else
  ((yK x3.2 a2).bind fun x6=>
  (zEH x3.2.Files 0 x6).bind fun x8=>
  (app 40 ([]:List File) x8).bind fun x10=>
  (zEH x3.2.Files (w64 (x6+1)) (x3.2.Files.length:Int)).bind fun x12=>
  (app 40 x10 x12).bind fun x14=>
  some (true,({Files:=x14,Budget:=x3.2.Budget,Writes:=x3.2.Writes,Stop:=x3.2.Stop,Down:=x3.2.Down}:zC)))
noncomputable def uI (x17:(List ByteArray)) (s31:((List File)×Int×Int×Int×Bool×Int)):Option (Lp ((List File)×Int×Int×Int×Bool×Int) (Fl zI ((List File)×Int×Int×Int×Bool))):=
 if decide (s31.2.2.2.2.2< (x17.length:Int)) then
  ((idx x17 s31.2.2.2.2.2).bind fun x33=>
  (zBv ({Files:=s31.1,Budget:=s31.2.1,Writes:=s31.2.2.1,Stop:=s31.2.2.2.1,Down:=s31.2.2.2.2.1}:zC) x33).bind fun x35=>
  if !x35.1 then
   (some (Lp.done (Fl.ret ({Code:=9,zC:=x35.2}:zI))))
  else
   (some (Lp.go (x35.2.Files,x35.2.Budget,x35.2.Writes,x35.2.Stop,x35.2.Down,w64 (s31.2.2.2.2.2+1)))))
 else
  (some (Lp.done (Fl.nxt (s31.1,s31.2.1,s31.2.2.1,s31.2.2.2.1,s31.2.2.2.2.1))))
noncomputable def uW (x17:(List ByteArray)):((List File)×Int×Int×Int×Bool×Int)→Option (Fl zI ((List File)×Int×Int×Int×Bool)):=loop (uI x17)
noncomputable def uK (a1:(List Pack)) (a2:zC) (a3:(List Int)):Option zI:=
 (zCg a1 a2).bind fun x4=>
 if x4 !=0 then
  (some ({Code:=x4,zC:=({Files:=([]:List File),Budget:=0,Writes:=0,Stop:=0,Down:=false}:zC)}:zI))
 else
  ((yK a2 (bs [112,108,97,110])).bind fun x7=>
  if decide (x7≥0) then
   (some ({Code:=6,zC:=({Files:=([]:List File),Budget:=0,Writes:=0,Stop:=0,Down:=false}:zC)}:zI))
  else
   ((zAp a1 a2 a3).bind fun x10=>
   if x10.2 !=0 then
    (some ({Code:=x10.2,zC:=({Files:=([]:List File),Budget:=0,Writes:=0,Stop:=0,Down:=false}:zC)}:zI))
   else
    ((zBx a2).bind fun x13=>
    (zB5 x13 a3).bind fun x15=>
    (jS x15.2.2 x15.1 x10.1).bind fun x17=>
    (uW x17 (x15.2.2.Files,x15.2.2.Budget,x15.2.2.Writes,x15.2.2.Stop,x15.2.2.Down,0)).bind (Fl.go some fun v38=>
    some ({Code:=0,zC:=({Files:=v38.1,Budget:=v38.2.1,Writes:=v38.2.2.1,Stop:=v38.2.2.2.1,Down:=v38.2.2.2.2}:zC)}:zI)))))
noncomputable def xK (a1:Int):Option Bool:=
 if decide (a1≥97) then
  (if decide (a1≤122) then
   (some true)
  else
   (if decide (a1≥48) then
    (if decide (a1≤57) then
     (some true)
    else
     (some (a1==95)))
   else
    (some (a1==95))))
 else
  (if decide (a1≥48) then
   (if decide (a1≤57) then
    (some true)
   else
    (some (a1==95)))
  else
   (some (a1==95)))
noncomputable def zBZ (a1:ByteArray) (s17:Int):Option (Lp Int (Fl Int Unit)):=
 if decide (s17< (a1.size:Int)) then
  ((bidx a1 s17).bind fun x19=>
  (xK x19).bind fun x21=>
  if !x21 then
   (some (Lp.done (Fl.ret 5)))
  else
   (some (Lp.go (w64 (s17+1)))))
 else
  (some (Lp.done (Fl.nxt ())))
noncomputable def zAa (a1:ByteArray):Int→Option (Fl Int Unit):=loop (zBZ a1)
noncomputable def vE (a1:ByteArray):Option Int:=
 (if decide ((a1.size:Int)<1) then
   (some true)
  else
   (if decide ((a1.size:Int)>12) then
    (some true)
   else
    ((bidx a1 0).bind fun x4=>
    if decide (x4<97) then
     (some true)
    else
     ((bidx a1 0).bind fun x7=>
     some (decide (x7>122)))))).bind fun v9=>
 if v9 then
  (some 5)
 else
  ((zAa a1 0).bind (Fl.go some fun v24=>
  some 0))
noncomputable def yS (a1:Int) (a2:Int) (a3:Int):Option Bool:=
 if decide (a2≤a1) then
  (some (decide (a1≤a3)))
 else
  (some false)
noncomputable def xP (a1:Version):Option Int:=
 (yS a1.A 0 999).bind fun x2=>
 (if !x2 then
   (some true)
  else
   ((yS a1.B 0 999).bind fun x5=>
   if !x5 then
    (some true)
   else
    ((yS a1.C 0 999).bind fun x8=>
    some (!x8)))).bind fun v10=>
 if v10 then
  (some 3)
 else
  (some 0)
noncomputable def zA3 (a1:(List Int)) (s6:Int):Option (Lp Int (Fl Int Unit)):=
 if decide (s6< (a1.length:Int)) then
  ((idx a1 s6).bind fun x8=>
  if x8 !=0 then
   (some (Lp.done (Fl.ret x8)))
  else
   (some (Lp.go (w64 (s6+1)))))
 else
  (some (Lp.done (Fl.nxt ())))
noncomputable def zBg (a1:(List Int)):Int→Option (Fl Int Unit):=loop (zA3 a1)
noncomputable def zAQ (a1:(List Int)):Option Int:=
 (zBg a1 0).bind (Fl.go some fun v11=>
 some 0)
noncomputable def zA0 (a1:(List Term)):Option Bool:=
 some (decide ((a1.length:Int)>4))
noncomputable def zY (a1:(List (List Term))) (s8:Int):Option (Lp Int (Fl Int Unit)):=
 if decide (s8< (a1.length:Int)) then
  ((idx a1 s8).bind fun x10=>
  (zA0 x10).bind fun x12=>
  if x12 then
   (some (Lp.done (Fl.ret s8)))
  else
   (some (Lp.go (w64 (s8+1)))))
 else
  (some (Lp.done (Fl.nxt ())))
noncomputable def yB (a1:(List (List Term))):Int→Option (Fl Int Unit):=loop (zY a1)
noncomputable def zW (a1:(List (List Term))):Option Int:=
 (yB a1 0).bind (Fl.go some fun v15=>
 some (-1))
noncomputable def zO (a1:(List (List Term))):Option Bool:=
 (zW a1).bind fun x2=>
 some (decide (x2≥0))
noncomputable def vP (a1:(List ByteArray)) (a2:ByteArray) (s7:Int):Option (Lp Int (Fl Int Unit)):=
 if decide (s7< (a1.length:Int)) then
  ((idx a1 s7).bind fun x9=>
  if seq a2 x9 then
   (some (Lp.done (Fl.ret s7)))
  else
   (some (Lp.go (w64 (s7+1)))))
 else
  (some (Lp.done (Fl.nxt ())))
noncomputable def vW (a1:(List ByteArray)) (a2:ByteArray):Int→Option (Fl Int Unit):=loop (vP a1 a2)
noncomputable def uJ (a1:(List ByteArray)) (a2:ByteArray):Option Int:=
 (vW a1 a2 0).bind (Fl.go some fun v12=>
 some (-1))
noncomputable def yV (a1:(List ByteArray)) (a2:ByteArray):Option Bool:=
 (uJ a1 a2).bind fun x3=>
 some (decide (x3≥0))
noncomputable def zE8:Option Version:=
 some ({A:=1000,B:=0,C:=0}:Version)
noncomputable def jG (a1:Int):Option Bool:=
 some (a1 !=a1)
noncomputable def xQ (a1:Int) (a2:Int):Option Int:=
 (jG a1).bind fun x3=>
 (jG a2).bind fun x5=>
 if x3 then
  (if x5 then
   (some 0)
  else
   (some (-1)))
 else
  (if x5 then
   (some 1)
  else
   (if decide (a1<a2) then
    (some (-1))
   else
    (if decide (a1>a2) then
     (some 1)
    else
     (some 0))))
noncomputable def zCT (a1:(List Int)) (s6:Int):Option (Lp Int (Fl Int Unit)):=
 if decide (s6< (a1.length:Int)) then
  ((idx a1 s6).bind fun x8=>
  if x8 !=0 then
   (some (Lp.done (Fl.ret x8)))
  else
   (some (Lp.go (w64 (s6+1)))))
 else
  (some (Lp.done (Fl.nxt ())))
noncomputable def zD6 (a1:(List Int)):Int→Option (Fl Int Unit):=loop (zCT a1)
noncomputable def zEe (a1:(List Int)):Option Int:=
 (zD6 a1 0).bind (Fl.go some fun v11=>
 some 0)
noncomputable def zCa (a1:Version) (a2:Version):Option Int:=
 (xQ a1.A a2.A).bind fun x3=>
 (xQ a1.B a2.B).bind fun x5=>
 (xQ a1.C a2.C).bind fun x7=>
 (zEe [x3,x5,x7]).bind fun x9=>
 some x9
noncomputable def zAP (a1:Term):Option Int:=
 (vE a1.Name).bind fun x2=>
 if x2 !=0 then
  (some x2)
 else
  ((xP a1.Low).bind fun x5=>
  if x5 !=0 then
   (some x5)
  else
   ((zE8).bind fun x8=>
   (if !(a1.High.A==x8.A&&(a1.High.B==x8.B&&(a1.High.C==x8.C&&true))) then
     ((xP a1.High).bind fun x11=>
     some (x11 !=0))
    else
     (some false)).bind fun v13=>
   if v13 then
    (some 3)
   else
    ((zCa a1.Low a1.High).bind fun x15=>
    if decide (x15≥0) then
     (some 1)
    else
     (some 0))))
noncomputable def zAo (a1:(List Term)) (s8:Int):Option (Lp Int (Fl Int Unit)):=
 if decide (s8< (a1.length:Int)) then
  ((idx a1 s8).bind fun x10=>
  (zAP x10).bind fun x12=>
  if x12 !=0 then
   (some (Lp.done (Fl.ret x12)))
  else
   (some (Lp.go (w64 (s8+1)))))
 else
  (some (Lp.done (Fl.nxt ())))
noncomputable def zAF (a1:(List Term)):Int→Option (Fl Int Unit):=loop (zAo a1)
noncomputable def vH (a1:(List Term)):Option Int:=
 (zAF a1 0).bind (Fl.go some fun v15=>
 some 0)
noncomputable def zAI (a1:Pack) (s54:Int):Option (Lp Int (Fl Int Unit)):=
 if decide (s54< (a1.Needs.length:Int)) then
  ((idx a1.Needs s54).bind fun x56=>
  if (x56.length:Int)==0 then
   (some (Lp.done (Fl.ret 1)))
  else
   ((vH x56).bind fun x59=>
   if x59 !=0 then
    (some (Lp.done (Fl.ret x59)))
   else
    (some (Lp.go (w64 (s54+1))))))
 else
  (some (Lp.done (Fl.nxt ())))
noncomputable def kU (a1:Pack):Int→Option (Fl Int Unit):=loop (zAI a1)
noncomputable def zAD (a1:Pack) (s32:Int):Option (Lp Int (Fl Int Unit)):=
 if decide (s32< (a1.Provides.length:Int)) then
  ((idx a1.Provides s32).bind fun x34=>
  (vE x34).bind fun x36=>
  if x36 !=0 then
   (some (Lp.done (Fl.ret x36)))
  else
   ((if seq x34 a1.Name then
      (some true)
     else
      ((zEH a1.Provides 0 s32).bind fun x40=>
      (yV x40 x34).bind fun x42=>
      some x42)).bind fun v44=>
   if v44 then
    (some (Lp.done (Fl.ret 6)))
   else
    (some (Lp.go (w64 (s32+1))))))
 else
  (some (Lp.done (Fl.nxt ())))
noncomputable def kX (a1:Pack):Int→Option (Fl Int Unit):=loop (zAD a1)
noncomputable def zAN (a1:Pack):Option Int:=
 (vE a1.Name).bind fun x2=>
 (xP a1.Version).bind fun x4=>
 (zAQ [x2,x4]).bind fun x6=>
 if x6 !=0 then
  (some x6)
 else
  ((yS a1.Size 1 200).bind fun x9=>
  if !x9 then
   (some 3)
  else
   ((if decide ((a1.Provides.length:Int)>4) then
      (some true)
     else
      (if decide ((a1.Needs.length:Int)>4) then
       (some true)
      else
       (if decide ((a1.Bars.length:Int)>4) then
        (some true)
       else
        ((zO a1.Needs).bind fun x15=>
        some x15)))).bind fun v17=>
   if v17 then
    (some 2)
   else
    ((kX a1 0).bind (Fl.go some fun v46=>
    (kU a1 0).bind (Fl.go some fun v62=>
    (vH a1.Bars).bind fun x63=>
    some x63)))))
noncomputable def zDA (a1:Pack) (a2:ByteArray) (a3:Version):Option Bool:=
 if seq a1.Name a2 then
  (some (a1.Version.A==a3.A&&(a1.Version.B==a3.B&&(a1.Version.C==a3.C&&true))))
 else
  (some false)
noncomputable def yL (a1:(List Pack)) (a2:ByteArray) (a3:Version) (s10:Int):Option (Lp Int (Fl Int Unit)):=
 if decide (s10< (a1.length:Int)) then
  ((idx a1 s10).bind fun x12=>
  (zDA x12 a2 a3).bind fun x14=>
  if x14 then
   (some (Lp.done (Fl.ret s10)))
  else
   (some (Lp.go (w64 (s10+1)))))
 else
  (some (Lp.done (Fl.nxt ())))
noncomputable def yM (a1:(List Pack)) (a2:ByteArray) (a3:Version):Int→Option (Fl Int Unit):=loop (yL a1 a2 a3)
noncomputable def yI (a1:(List Pack)) (a2:ByteArray) (a3:Version):Option Int:=
 (yM a1 a2 a3 0).bind (Fl.go some fun v17=>
 some (-1))
noncomputable def zCS (a1:(List Pack)) (a2:ByteArray) (a3:Version):Option Int:=
 (yI a1 a2 a3).bind fun x4=>
 some x4
noncomputable def tZ (a1:(List Pack)) (s14:Int):Option (Lp Int (Fl Int Unit)):=
 if decide (s14< (a1.length:Int)) then
  ((idx a1 s14).bind fun x16=>
  (zAN x16).bind fun x18=>
  if x18 !=0 then
   (some (Lp.done (Fl.ret x18)))
  else
   ((zEH a1 0 s14).bind fun x21=>
   (zCS x21 x16.Name x16.Version).bind fun x23=>
   if decide (x23≥0) then
    (some (Lp.done (Fl.ret 6)))
   else
    (some (Lp.go (w64 (s14+1))))))
 else
  (some (Lp.done (Fl.nxt ())))
noncomputable def jZ (a1:(List Pack)):Int→Option (Fl Int Unit):=loop (tZ a1)
noncomputable def wP (a1:(List Pack)):Option Int:=
 if decide ((a1.length:Int)>24) then
  (some 2)
 else
  ((jZ a1 0).bind (Fl.go some fun v26=>
  some 0))
noncomputable def zD8 (a1:ByteArray) (s15:Int):Option (Lp Int (Fl Int Unit)):=
 if decide (s15< (a1.size:Int)) then
  ((bidx a1 s15).bind fun x17=>
  (xK x17).bind fun x19=>
  (if !x19 then
    (if x17 !=46 then
     (if x17 !=45 then
      (some (x17 !=47))
     else
      (some false))
    else
     (some false))
   else
    (some false)).bind fun v24=>
  if v24 then
   (some (Lp.done (Fl.ret 5)))
  else
   (some (Lp.go (w64 (s15+1)))))
 else
  (some (Lp.done (Fl.nxt ())))
noncomputable def kY (a1:ByteArray):Int→Option (Fl Int Unit):=loop (zD8 a1)
noncomputable def zAO (a1:ByteArray):Option Int:=
 (if decide ((a1.size:Int)<1) then
   (some true)
  else
   (some (decide ((a1.size:Int)>40)))).bind fun v3=>
 if v3 then
  (some 5)
 else
  ((kY a1 0).bind (Fl.go some fun v26=>
  some 0))
noncomputable def zEi (a1:zC) (s5:(Int×Int)):Option (Lp (Int×Int) Int):=
 if decide (s5.2< (a1.Files.length:Int)) then
  ((idx a1.Files s5.2).bind fun x7=>
  some (Lp.go (w64 (s5.1+(x7.Data.length:Int)),w64 (s5.2+1))))
 else
  (some (Lp.done s5.1))
noncomputable def zBT (a1:zC):(Int×Int)→Option Int:=loop (zEi a1)
noncomputable def zCc (a1:zC):Option Int:=
 (zBT a1 (0,0)).bind fun v9=>
 some v9
noncomputable def zDy (a1:zC) (s25:Int):Option (Lp Int (Fl Int Unit)):=
 if decide (s25< (a1.Files.length:Int)) then
  ((idx a1.Files s25).bind fun x27=>
  (zAO x27.Path).bind fun x29=>
  if x29 !=0 then
   (some (Lp.done (Fl.ret x29)))
  else
   ((if decide (s25>0) then
      ((idx a1.Files (w64 (s25-1))).bind fun x33=>
      some (slt x27.Path x33.Path||seq x27.Path x33.Path))
     else
      (some false)).bind fun v35=>
   if v35 then
    (some (Lp.done (Fl.ret 1)))
   else
    (if decide ((x27.Data.length:Int)>4000) then
     (some (Lp.done (Fl.ret 2)))
    else
     (some (Lp.go (w64 (s25+1)))))))
 else
  (some (Lp.done (Fl.nxt ())))
noncomputable def kV (a1:zC):Int→Option (Fl Int Unit):=loop (zDy a1)
noncomputable def zAR (a1:zC):Option Int:=
 (yS a1.Budget 0 20000).bind fun x2=>
 (if !x2 then
   (some true)
  else
   ((yS a1.Writes 0 1000000000).bind fun x5=>
   if !x5 then
    (some true)
   else
    ((yS a1.Stop (-1) 1000000000).bind fun x8=>
    some (!x8)))).bind fun v10=>
 if v10 then
  (some 3)
 else
  (if decide ((a1.Files.length:Int)>120) then
   (some 2)
  else
   ((kV a1 0).bind (Fl.go some fun v38=>
   (zCc a1).bind fun x39=>
   if decide (x39>a1.Budget) then
    (some 8)
   else
    (some 0))))
noncomputable def jO (a1:(List Int)):Option (List Int):=
 (app 1 ([]:List Int) a1).bind fun x3=>
 some x3
noncomputable def zCN (a1:zC) (s16:((List File)×Int)):Option (Lp ((List File)×Int) (List File)):=
 if decide (s16.2< (a1.Files.length:Int)) then
  ((idx a1.Files s16.2).bind fun x18=>
  (jO x18.Data).bind fun x20=>
  (app 40 s16.1 [({Path:=x18.Path,Data:=x20}:File)]).bind fun x22=>
  some (Lp.go (x22,w64 (s16.2+1))))
 else
  (some (Lp.done s16.1))
noncomputable def tL (a1:zC):((List File)×Int)→Option (List File):=loop (zCN a1)
noncomputable def uN (a1:zC):Option zC:=
 (tL a1 (([]:List File),0)).bind fun v24=>
 some ({Files:=v24,Budget:=a1.Budget,Writes:=a1.Writes,Stop:=a1.Stop,Down:=a1.Down}:zC)
noncomputable def bytealg_CompareString (a1 a2:ByteArray):Option Int:=some (zN6 a1 a2)
noncomputable def strings_Compare (a1:ByteArray) (a2:ByteArray):Option Int:=
 (bytealg_CompareString a1 a2).bind fun x3=>
 some x3
noncomputable def vR (a1:File) (a2:ByteArray):Option Int:=
 (strings_Compare a1.Path a2).bind fun x3=>
 some x3
noncomputable def yC (a1:(List File)) (a2:ByteArray) (s9:(Int×Int)):Option (Lp (Int×Int) Int):=
 if decide (s9.1<s9.2) then
  ((idx a1 (w64 ((IntKind.u64.wrap (w64 (s9.1+s9.2))).fdiv (2^(min (1:Int).toNat 64))))).bind fun x11=>
  (vR x11 a2).bind fun x13=>
  if decide (x13<0) then
   (some (Lp.go (w64 ((w64 ((IntKind.u64.wrap (w64 (s9.1+s9.2))).fdiv (2^(min (1:Int).toNat 64))))+1),s9.2)))
  else
   (some (Lp.go (s9.1,w64 ((IntKind.u64.wrap (w64 (s9.1+s9.2))).fdiv (2^(min (1:Int).toNat 64)))))))
 else
  (some (Lp.done s9.1))
noncomputable def zU (a1:(List File)) (a2:ByteArray):(Int×Int)→Option Int:=loop (yC a1 a2)
noncomputable def zK (a1:(List File)) (a2:ByteArray):Option (Int×Bool):=
 (zU a1 a2 (0,(a1.length:Int))).bind fun v16=>
 if decide (v16< (a1.length:Int)) then
  ((idx a1 v16).bind fun x18=>
  (vR x18 a2).bind fun x20=>
  some (v16,x20==0))
 else
  (some (v16,false))
noncomputable def wZ (a1:zC) (a2:ByteArray):Option (Int×Bool):=
 (zK a1.Files a2).bind fun x3=>
 some (x3.1,x3.2)
noncomputable def yR (a1:zC) (a2:ByteArray):Option ((List Int)×Bool):=
 (wZ a1 a2).bind fun x3=>
 if !x3.2 then
  (some (([]:List Int),false))
 else
  ((idx a1.Files x3.1).bind fun x6=>
  some (x6.Data,true))
noncomputable def tF (a1:zC):Option Bool:=
 (yR a1 (bs [112,108,97,110])).bind fun x2=>
 some x2.2
noncomputable def xC (a1:ByteArray) (a2:ByteArray):Option Bool:=
 if decide ((a1.size:Int)≥(a2.size:Int)) then
  ((zHS a1 0 (a2.size:Int)).bind fun x4=>
  some (seq x4 a2))
 else
  (some false)
noncomputable def strings_HasPrefix (a1:ByteArray) (a2:ByteArray):Option Bool:=
 (xC a1 a2).bind fun x3=>
 some x3
noncomputable def zDu (a1:zC) (a2:ByteArray) (s12:((List ByteArray)×Int)):Option (Lp ((List ByteArray)×Int) (List ByteArray)):=
 if decide (s12.2< (a1.Files.length:Int)) then
  ((idx a1.Files s12.2).bind fun x14=>
  (strings_HasPrefix x14.Path a2).bind fun x16=>
  (if x16 then
    ((app 16 s12.1 [x14.Path]).bind fun x19=>
    some x19)
   else
    (some s12.1)).bind fun v21=>
  some (Lp.go (v21,w64 (s12.2+1))))
 else
  (some (Lp.done s12.1))
noncomputable def jM (a1:zC) (a2:ByteArray):((List ByteArray)×Int)→Option (List ByteArray):=loop (zDu a1 a2)
noncomputable def uF (a1:zC) (a2:ByteArray):Option (List ByteArray):=
 (jM a1 a2 (([]:List ByteArray),0)).bind fun v22=>
 some v22
noncomputable def zCz (a1:ByteArray) (s16:(Int×Int)):Option (Lp (Int×Int) (Fl Int Int)):=
 if decide (s16.2< (a1.size:Int)) then
  ((bidx a1 s16.2).bind fun x18=>
  (if decide (x18<48) then
    (some true)
   else
    ((bidx a1 s16.2).bind fun x21=>
    some (decide (x21>57)))).bind fun v23=>
  if v23 then
   (some (Lp.done (Fl.ret (-1))))
  else
   ((bidx a1 s16.2).bind fun x25=>
   some (Lp.go (w64 ((w64 (10*s16.1))+(w64 (IntKind.u8.wrap (x25-48)))),w64 (s16.2+1)))))
 else
  (some (Lp.done (Fl.nxt s16.1)))
noncomputable def zCO (a1:ByteArray):(Int×Int)→Option (Fl Int Int):=loop (zCz a1)
noncomputable def zAt (a1:ByteArray) (a2:Int):Option Int:=
 (if seq a1 (bs []) then
   (some true)
  else
   (some (decide ((a1.size:Int)>a2)))).bind fun v4=>
 if v4 then
  (some (-1))
 else
  ((zCO a1 (0,0)).bind (Fl.go some fun v27=>
  some v27))
noncomputable def zA4 (x2:(List ByteArray)) (s17:((List Int)×Int)):Option (Lp ((List Int)×Int) (List Int)):=
 if decide (s17.2< (x2.length:Int)) then
  ((idx x2 s17.2).bind fun x19=>
  (zHS x19 4 (x19.size:Int)).bind fun x21=>
  (zAt x21 6).bind fun x23=>
  (if decide (x23≥1) then
    (some ((x19.size:Int)==10))
   else
    (some false)).bind fun v26=>
  (if v26 then
    ((app 8 s17.1 [x23]).bind fun x28=>
    some x28)
   else
    (some s17.1)).bind fun v30=>
  some (Lp.go (v30,w64 (s17.2+1))))
 else
  (some (Lp.done s17.1))
noncomputable def zBk (x2:(List ByteArray)):((List Int)×Int)→Option (List Int):=loop (zA4 x2)
noncomputable def wD (a1:zC):Option (List Int):=
 (uF a1 (bs [103,101,110,47])).bind fun x2=>
 (zBk x2 (([]:List Int),0)).bind fun v31=>
 some v31
noncomputable def uD (a1:(List Int)) (a2:Int) (s7:Int):Option (Lp Int (Fl Int Unit)):=
 if decide (s7< (a1.length:Int)) then
  ((idx a1 s7).bind fun x9=>
  if a2==x9 then
   (some (Lp.done (Fl.ret s7)))
  else
   (some (Lp.go (w64 (s7+1)))))
 else
  (some (Lp.done (Fl.nxt ())))
noncomputable def uP (a1:(List Int)) (a2:Int):Int→Option (Fl Int Unit):=loop (uD a1 a2)
noncomputable def tN (a1:(List Int)) (a2:Int):Option Int:=
 (uP a1 a2 0).bind (Fl.go some fun v12=>
 some (-1))
noncomputable def zV (a1:(List Int)) (a2:Int):Option Bool:=
 (tN a1 a2).bind fun x3=>
 some (decide (x3≥0))
noncomputable def kS (a1:Int) (a2:(List Int)):Option Bool:=
 (zV a2 a1).bind fun x3=>
 some (!x3)
noncomputable def yE (a1:(List Int)) (a2:(List Int)) (s9:Int):Option (Lp Int (Fl Int Unit)):=
 if decide (s9< (a1.length:Int)) then
  ((idx a1 s9).bind fun x11=>
  (kS x11 a2).bind fun x13=>
  if x13 then
   (some (Lp.done (Fl.ret s9)))
  else
   (some (Lp.go (w64 (s9+1)))))
 else
  (some (Lp.done (Fl.nxt ())))
noncomputable def yH (a1:(List Int)) (a2:(List Int)):Int→Option (Fl Int Unit):=loop (yE a1 a2)
noncomputable def yA (a1:(List Int)) (a2:(List Int)):Option Int:=
 (yH a1 a2 0).bind (Fl.go some fun v16=>
 some (-1))
noncomputable def zQ (a1:(List Int)) (a2:(List Int)):Option Bool:=
 (yA a1 a2).bind fun x3=>
 some (decide (x3≥0))
noncomputable def uY (a1:zC):Option (Int×Int):=
 (yR a1 (bs [99,117,114])).bind fun x2=>
 (zAt (b2s x2.1) 6).bind fun x4=>
 (if !x2.2 then
   (some true)
  else
   ((wD a1).bind fun x7=>
   (zV x7 x4).bind fun x9=>
   some (!x9))).bind fun v11=>
 if v11 then
  (some (0,4))
 else
  (some (x4,0))
noncomputable def uV (a1:(List Int)):Option (List Int):=
 (app 8 ([]:List Int) a1).bind fun x3=>
 some x3
noncomputable def xM (a1:List Int):Option (List Int):=if a1.length≤4611686018427387903 then some (a1.mergeSort fun x y=>decide (x≤y)) else none
noncomputable def wS (s41:Int) (x48:(List Int)) (s61:((List Int)×Int×Int)):Option (Lp ((List Int)×Int×Int) ((List Int)×Int)):=
 if decide (s61.2.2< (x48.length:Int)) then
  ((zIX s61.1 s41 x48.length s61.2.2).bind fun x63=>
  (zIX s61.1 s41 x48.length (w64 (s61.2.2-1))).bind fun x65=>
  (if x63 !=x65 then
    ((zIX s61.1 s41 x48.length s61.2.2).bind fun x68=>
    (idx s61.1 s61.2.1).bind fun x70=>
    some (s61.1.set s61.2.1.toNat x68,w64 (s61.2.1+1)))
   else
    (some (s61.1,s61.2.1))).bind fun v72=>
  some (Lp.go (v72.1,v72.2,w64 (s61.2.2+1))))
 else
  (some (Lp.done (s61.1,s61.2.1)))
noncomputable def wC (s41:Int) (x48:(List Int)):((List Int)×Int×Int)→Option ((List Int)×Int):=loop (wS s41 x48)
noncomputable def xE (a1:(List Int)) (s41:Int):Option (Lp Int (Fl (List Int) Unit)):=
 if decide (s41< (a1.length:Int)) then
  ((idx a1 s41).bind fun x43=>
  (idx a1 (w64 (s41-1))).bind fun x45=>
  if x43==x45 then
   ((zEH a1 s41 (a1.length:Int)).bind fun x48=>
   (wC s41 x48 (a1,s41,1)).bind fun v73=>
   (zEH v73.1 v73.2 (v73.1.length:Int)).bind fun x74=>
   (zNw v73.1 v73.2 x74.length 0).bind fun x76=>
   (zEH x76 0 v73.2).bind fun x78=>
   some (Lp.done (Fl.ret x78)))
  else
   (some (Lp.go (w64 (s41+1)))))
 else
  (some (Lp.done (Fl.nxt ())))
noncomputable def wY (a1:(List Int)):Int→Option (Fl (List Int) Unit):=loop (xE a1)
noncomputable def wE (a1:(List Int)):Option (List Int):=
 if decide ((a1.length:Int)<2) then
  (some a1)
 else
  ((wY a1 1).bind (Fl.go some fun v80=>
  some a1))
noncomputable def vT (a1:zC) (a2:(List Int)):Option ((List Int)×Int):=
 (wD a1).bind fun x3=>
 if decide ((a2.length:Int)>40) then
  (some (([]:List Int),2))
 else
  ((zQ a2 x3).bind fun x6=>
  if x6 then
   (some (([]:List Int),4))
  else
   ((uY a1).bind fun x9=>
   if x9.2 !=0 then
    (some (([]:List Int),x9.2))
   else
    ((uV a2).bind fun x12=>
    (app 8 x12 [x9.1]).bind fun x14=>
    (xM x14).bind fun x16=>
    (same x16 x14).bind fun u18=>
    (wE x16).bind fun x20=>
    some (x20,0))))
noncomputable def uR (a1 a2:Int):Option ByteArray:=if a2=10∧ -9223372036854775808≤a1∧a1≤9223372036854775807 then some ⟨(Lib.itoa a1).toArray⟩ else none
noncomputable def zBV (a1:Int):Option ByteArray:=
 (uR a1 10).bind fun x2=>
 some x2
noncomputable def strings_Repeat (a1:ByteArray) (a2:Int):Option ByteArray:=if 0≤a2∧a2≤9223372036854775807∧a1.size*a2.toNat≤140737488355328 then some ⟨(Lib.repeatL a1.data.toList a2.toNat).toArray⟩ else none
noncomputable def kI (a1:Int):Option ByteArray:=
 (zBV a1).bind fun x2=>
 (strings_Repeat (bs [48]) (w64 (6-(x2.size:Int)))).bind fun x4=>
 (cat (bs [103,101,110,47]) x4).bind fun x6=>
 (cat x6 x2).bind fun x8=>
 some x8
noncomputable def strings_Split (a1 a2:ByteArray):Option (List ByteArray):=if a1.size<4294967281∧1≤a2.size then some (Lib.splitB a2 0 (Lib.countB a1 a2) a1) else none
noncomputable def zCr (a1:ByteArray):Option (List ByteArray):=
 (strings_Split a1 (bs [10])).bind fun x2=>
 (idx x2 (w64 ((x2.length:Int)-1))).bind fun x4=>
 (if seq x4 (bs []) then
   ((zEH x2 0 (w64 ((x2.length:Int)-1))).bind fun x7=>
   some x7)
  else
   (some x2)).bind fun v9=>
 some v9
noncomputable def tV (a1:ByteArray):Option Bool:=
 some (seq a1 (bs []))
noncomputable def yJ (a1:(List ByteArray)) (s8:Int):Option (Lp Int (Fl Int Unit)):=
 if decide (s8< (a1.length:Int)) then
  ((idx a1 s8).bind fun x10=>
  (tV x10).bind fun x12=>
  if x12 then
   (some (Lp.done (Fl.ret s8)))
  else
   (some (Lp.go (w64 (s8+1)))))
 else
  (some (Lp.done (Fl.nxt ())))
noncomputable def yZ (a1:(List ByteArray)):Int→Option (Fl Int Unit):=loop (yJ a1)
noncomputable def yP (a1:(List ByteArray)):Option Int:=
 (yZ a1 0).bind (Fl.go some fun v15=>
 some (-1))
noncomputable def yD (s14:((List ByteArray)×Int×Int)):Option (Lp ((List ByteArray)×Int×Int) ((List ByteArray)×Int)):=
 if decide (s14.2.2< (s14.1.length:Int)) then
  ((idx s14.1 s14.2.2).bind fun x16=>
  (tV x16).bind fun x18=>
  (if !x18 then
    ((idx s14.1 s14.2.1).bind fun x21=>
    some (s14.1.set s14.2.1.toNat x16,w64 (s14.2.1+1)))
   else
    (some (s14.1,s14.2.1))).bind fun v23=>
  some (Lp.go (v23.1,v23.2,w64 (s14.2.2+1))))
 else
  (some (Lp.done (s14.1,s14.2.1)))
noncomputable def yT:((List ByteArray)×Int×Int)→Option ((List ByteArray)×Int):=loop yD
noncomputable def zZ (a1:(List ByteArray)):Option (List ByteArray):=
 (yP a1).bind fun x2=>
 if x2==(-1) then
  (some a1)
 else
  ((yT (a1,x2,w64 (x2+1))).bind fun v24=>
  (zEH v24.1 v24.2 (v24.1.length:Int)).bind fun x25=>
  (zNw v24.1 v24.2 x25.length ByteArray.empty).bind fun x27=>
  (zEH x27 0 v24.2).bind fun x29=>
  some x29)
noncomputable def zCu (a1:ByteArray):Option (List ByteArray):=
 (strings_Split a1 (bs [32])).bind fun x2=>
 (zZ x2).bind fun x4=>
 some x4
noncomputable def jC (x2:(List ByteArray)) (s15:((List Int)×Int)):Option (Lp ((List Int)×Int) (Fl zP (List Int))):=
 if decide (s15.2< (x2.length:Int)) then
  ((idx x2 s15.2).bind fun x17=>
  (zAt x17 3).bind fun x19=>
  (zNz s15.1 3 s15.2).bind fun x21=>
  (zNz (s15.1.set s15.2.toNat x19) 3 s15.2).bind fun x23=>
  if decide (x23<0) then
   (some (Lp.done (Fl.ret ({Code:=5,Version:=({A:=0,B:=0,C:=0}:Version)}:zP))))
  else
   (some (Lp.go (s15.1.set s15.2.toNat x19,w64 (s15.2+1)))))
 else
  (some (Lp.done (Fl.nxt s15.1)))
noncomputable def jU (x2:(List ByteArray)):((List Int)×Int)→Option (Fl zP (List Int)):=loop (jC x2)
noncomputable def tC (a1:ByteArray):Option zP:=
 (strings_Split a1 (bs [46])).bind fun x2=>
 if decide ((x2.length:Int)>3) then
  (some ({Code:=5,Version:=({A:=0,B:=0,C:=0}:Version)}:zP))
 else
  ((jU x2 (([0,0,0]:(List Int)),0)).bind (Fl.go some fun v26=>
  (zNz v26 3 0).bind fun x27=>
  (zNz v26 3 1).bind fun x29=>
  (zNz v26 3 2).bind fun x31=>
  some ({Code:=0,Version:=({A:=x27,B:=x29,C:=x31}:Version)}:zP)))
noncomputable def zB3 (a1:(List Pack)) (a2:(List ByteArray)):Option Int:=
 if (a2.length:Int) !=2 then
  (some (-1))
 else
  ((idx a2 1).bind fun x4=>
  (tC x4).bind fun x6=>
  if x6.Code !=0 then
   (some (-1))
  else
   ((idx a2 0).bind fun x9=>
   (zCS a1 x9 x6.Version).bind fun x11=>
   some x11))
noncomputable def kZ (a1:(List Pack)) (x7:(List ByteArray)) (s23:((List Int)×Int)):Option (Lp ((List Int)×Int) (Fl yG (List Int))):=
 if decide (s23.2< (x7.length:Int)) then
  ((idx x7 s23.2).bind fun x25=>
  (zCu x25).bind fun x27=>
  (zB3 a1 x27).bind fun x29=>
  (if decide (x29<0) then
    (some true)
   else
    ((zV s23.1 x29).bind fun x32=>
    some x32)).bind fun v34=>
  if v34 then
   (some (Lp.done (Fl.ret ({Code:=5,At:=s23.2,Set:=([]:List Int)}:yG))))
  else
   ((app 8 s23.1 [x29]).bind fun x36=>
   some (Lp.go (x36,w64 (s23.2+1)))))
 else
  (some (Lp.done (Fl.nxt s23.1)))
noncomputable def zBK (a1:(List Pack)) (x7:(List ByteArray)):((List Int)×Int)→Option (Fl yG (List Int)):=loop (kZ a1 x7)
noncomputable def zBz (a1:(List Pack)) (a2:ByteArray):Option yG:=
 (wP a1).bind fun x3=>
 if x3 !=0 then
  (some ({Code:=x3,At:=0,Set:=([]:List Int)}:yG))
 else
  (if decide ((a2.size:Int)>4000) then
   (some ({Code:=2,At:=0,Set:=([]:List Int)}:yG))
  else
   ((zCr a2).bind fun x7=>
   (zBK a1 x7 (([]:List Int),0)).bind (Fl.go some fun v38=>
   (xM v38).bind fun x39=>
   (same x39 v38).bind fun u41=>
   some ({Code:=0,At:=0,Set:=x39}:yG))))
noncomputable def zDD (a1:(List Pack)) (a2:zC) (a3:Int):Option ((List Int)×Int):=
 (wD a2).bind fun x4=>
 (zV x4 a3).bind fun x6=>
 if !x6 then
  (some (([]:List Int),4))
 else
  ((kI a3).bind fun x9=>
  (yR a2 x9).bind fun x11=>
  (zBz a1 (b2s x11.1)).bind fun x13=>
  some (x13.Set,x13.Code))
noncomputable def tK (a1:Version):Option ByteArray:=
 (zBV a1.A).bind fun x2=>
 (cat x2 (bs [46])).bind fun x4=>
 (zBV a1.B).bind fun x6=>
 (cat x4 x6).bind fun x8=>
 (cat x8 (bs [46])).bind fun x10=>
 (zBV a1.C).bind fun x12=>
 (cat x10 x12).bind fun x14=>
 some x14
noncomputable def zBb (a1:Pack):Option ByteArray:=
 (cat (bs [112,107,103,47]) a1.Name).bind fun x2=>
 (cat x2 (bs [45])).bind fun x4=>
 (tK a1.Version).bind fun x6=>
 (cat x4 x6).bind fun x8=>
 some x8
noncomputable def wV (a1:List ByteArray):Option (List ByteArray):=if a1.length≤4611686018427387903 then some (((a1.map (·.data.toList)).mergeSort fun x y=>decide (x≤y)).map fun l=>(⟨l.toArray⟩:ByteArray)) else none
noncomputable def wI (s41:Int) (x48:(List ByteArray)) (s61:((List ByteArray)×Int×Int)):Option (Lp ((List ByteArray)×Int×Int) ((List ByteArray)×Int)):=
 if decide (s61.2.2< (x48.length:Int)) then
  ((zIX s61.1 s41 x48.length s61.2.2).bind fun x63=>
  (zIX s61.1 s41 x48.length (w64 (s61.2.2-1))).bind fun x65=>
  (if !(seq x63 x65) then
    ((zIX s61.1 s41 x48.length s61.2.2).bind fun x68=>
    (idx s61.1 s61.2.1).bind fun x70=>
    some (s61.1.set s61.2.1.toNat x68,w64 (s61.2.1+1)))
   else
    (some (s61.1,s61.2.1))).bind fun v72=>
  some (Lp.go (v72.1,v72.2,w64 (s61.2.2+1))))
 else
  (some (Lp.done (s61.1,s61.2.1)))
noncomputable def xV (s41:Int) (x48:(List ByteArray)):((List ByteArray)×Int×Int)→Option ((List ByteArray)×Int):=loop (wI s41 x48)
noncomputable def xA (a1:(List ByteArray)) (s41:Int):Option (Lp Int (Fl (List ByteArray) Unit)):=
 if decide (s41< (a1.length:Int)) then
  ((idx a1 s41).bind fun x43=>
  (idx a1 (w64 (s41-1))).bind fun x45=>
  if seq x43 x45 then
   ((zEH a1 s41 (a1.length:Int)).bind fun x48=>
   (xV s41 x48 (a1,s41,1)).bind fun v73=>
   (zEH v73.1 v73.2 (v73.1.length:Int)).bind fun x74=>
   (zNw v73.1 v73.2 x74.length ByteArray.empty).bind fun x76=>
   (zEH x76 0 v73.2).bind fun x78=>
   some (Lp.done (Fl.ret x78)))
  else
   (some (Lp.go (w64 (s41+1)))))
 else
  (some (Lp.done (Fl.nxt ())))
noncomputable def wQ (a1:(List ByteArray)):Int→Option (Fl (List ByteArray) Unit):=loop (xA a1)
noncomputable def xX (a1:(List ByteArray)):Option (List ByteArray):=
 if decide ((a1.length:Int)<2) then
  (some a1)
 else
  ((wQ a1 1).bind (Fl.go some fun v80=>
  some a1))
noncomputable def zCB (a1:(List ByteArray)):Option (List ByteArray):=
 (wV a1).bind fun x2=>
 (same x2 a1).bind fun u4=>
 (xX x2).bind fun x6=>
 some x6
noncomputable def kE (a1:(List Pack)) (a2:zC) (a3:(List Int)) (s30:((List ByteArray)×Int)) (x34:((List Int)×Int)) (s46:((List ByteArray)×Int)):Option (Lp ((List ByteArray)×Int) (List ByteArray)):=
 if decide (s46.2< (x34.1.length:Int)) then
  ((idx x34.1 s46.2).bind fun x48=>
  (idx a1 x48).bind fun x50=>
  (zBb x50).bind fun x52=>
  (app 16 s46.1 [x52]).bind fun x54=>
  some (Lp.go (x54,w64 (s46.2+1))))
 else
  (some (Lp.done s46.1))
noncomputable def vL (a1:(List Pack)) (a2:zC) (a3:(List Int)) (s30:((List ByteArray)×Int)) (x34:((List Int)×Int)):((List ByteArray)×Int)→Option (List ByteArray):=loop (kE a1 a2 a3 s30 x34)
noncomputable def uH (a1:(List Pack)) (a2:zC) (a3:(List Int)) (s30:((List ByteArray)×Int)):Option (Lp ((List ByteArray)×Int) (Fl ((List ByteArray)×Int) (List ByteArray))):=
 if decide (s30.2< (a3.length:Int)) then
  ((idx a3 s30.2).bind fun x32=>
  (zDD a1 a2 x32).bind fun x34=>
  if x34.2 !=0 then
   (some (Lp.done (Fl.ret (([]:List ByteArray),x34.2))))
  else
   ((vL a1 a2 a3 s30 x34 (s30.1,0)).bind fun v56=>
   some (Lp.go (v56,w64 (s30.2+1)))))
 else
  (some (Lp.done (Fl.nxt s30.1)))
noncomputable def zAb (a1:(List Pack)) (a2:zC) (a3:(List Int)):((List ByteArray)×Int)→Option (Fl ((List ByteArray)×Int) (List ByteArray)):=loop (uH a1 a2 a3)
noncomputable def zA1 (a1:(List Pack)) (a2:zC) (a3:(List Int)):Option ((List ByteArray)×Int):=
 (zAb a1 a2 a3 (([]:List ByteArray),0)).bind (Fl.go some fun v57=>
 (zCB v57).bind fun x58=>
 some (x58,0))
noncomputable def tJ (a1:(List Pack)) (a2:zC) (a3:(List Int)):Option ((List ByteArray)×Int):=
 (vT a2 a3).bind fun x4=>
 if x4.2 !=0 then
  (some (([]:List ByteArray),x4.2))
 else
  ((zA1 a1 a2 x4.1).bind fun x7=>
  some (x7.1,x7.2))
noncomputable def zCU (a3:(List ByteArray)) (x30:(List ByteArray)) (s41:((List ByteArray)×Int)):Option (Lp ((List ByteArray)×Int) (List ByteArray)):=
 if decide (s41.2< (x30.length:Int)) then
  ((idx x30 s41.2).bind fun x43=>
  (yV a3 x43).bind fun x45=>
  (if !x45 then
    ((app 16 s41.1 [x43]).bind fun x48=>
    some x48)
   else
    (some s41.1)).bind fun v50=>
  some (Lp.go (v50,w64 (s41.2+1))))
 else
  (some (Lp.done s41.1))
noncomputable def zD1 (a3:(List ByteArray)) (x30:(List ByteArray)):((List ByteArray)×Int)→Option (List ByteArray):=loop (zCU a3 x30)
noncomputable def zCR (a1:zC) (a2:(List Int)) (a3:(List ByteArray)) (x4:(List Int)) (s17:((List ByteArray)×Int)):Option (Lp ((List ByteArray)×Int) (List ByteArray)):=
 if decide (s17.2< (x4.length:Int)) then
  ((idx x4 s17.2).bind fun x19=>
  (zV a2 x19).bind fun x21=>
  (if !x21 then
    ((kI x19).bind fun x24=>
    (app 16 s17.1 [x24]).bind fun x26=>
    some x26)
   else
    (some s17.1)).bind fun v28=>
  some (Lp.go (v28,w64 (s17.2+1))))
 else
  (some (Lp.done s17.1))
noncomputable def zD5 (a1:zC) (a2:(List Int)) (a3:(List ByteArray)) (x4:(List Int)):((List ByteArray)×Int)→Option (List ByteArray):=loop (zCR a1 a2 a3 x4)
noncomputable def zDK (a1:zC) (a2:(List Int)) (a3:(List ByteArray)):Option (List ByteArray):=
 (wD a1).bind fun x4=>
 (zD5 a1 a2 a3 x4 (([]:List ByteArray),0)).bind fun v29=>
 (uF a1 (bs [112,107,103,47])).bind fun x30=>
 (zD1 a3 x30 (v29,0)).bind fun v51=>
 some v51
noncomputable def vM (a1:List File) (a2 a3:Int):Option (List File):=if 0≤a2∧a2≤a3∧a3≤a1.length∧a1.length≤1099511627776 then some (a1.take a2.toNat++a1.drop a3.toNat) else none
noncomputable def jL (a1:zC) (a2:Int):Option zC:=
 (vM a1.Files a2 (w64 (a2+1))).bind fun x3=>
 some ({Files:=x3,Budget:=a1.Budget,Writes:=a1.Writes,Stop:=a1.Stop,Down:=a1.Down}:zC)
noncomputable def yN (a1:zC) (a2:Int):Option (Int×zC):=
 (if decide (a1.Stop≥0) then
   (some (decide (a1.Writes≥a1.Stop)))
  else
   (some false)).bind fun v4=>
 if v4 then
  (some (9,({Files:=a1.Files,Budget:=a1.Budget,Writes:=a1.Writes,Stop:=a1.Stop,Down:=true}:zC)))
 else
  ((jL a1 a2).bind fun x6=>
  some (0,({Files:=x6.Files,Budget:=x6.Budget,Writes:=w64 (x6.Writes+1),Stop:=x6.Stop,Down:=x6.Down}:zC)))
noncomputable def jT (a1:zC) (a2:ByteArray):Option (Int×zC):=
 (wZ a1 a2).bind fun x3=>
 if !x3.2 then
  (some (4,a1))
 else
  ((yN a1 x3.1).bind fun x6=>
  some (x6.1,x6.2))
noncomputable def wO (a2:(List Pack)) (a3:(List Int)) (x12:(List ByteArray)) (s20:((List File)×Int×Int×Int×Bool×Int)):Option (Lp ((List File)×Int×Int×Int×Bool×Int) (Fl (Int×zC) ((List File)×Int×Int×Int×Bool))):=
 if decide (s20.2.2.2.2.2< (x12.length:Int)) then
  ((idx x12 s20.2.2.2.2.2).bind fun x22=>
  (jT ({Files:=s20.1,Budget:=s20.2.1,Writes:=s20.2.2.1,Stop:=s20.2.2.2.1,Down:=s20.2.2.2.2.1}:zC) x22).bind fun x24=>
  if x24.1 !=0 then
   (some (Lp.done (Fl.ret (x24.1,x24.2))))
  else
   (some (Lp.go (x24.2.Files,x24.2.Budget,x24.2.Writes,x24.2.Stop,x24.2.Down,w64 (s20.2.2.2.2.2+1)))))
 else
  (some (Lp.done (Fl.nxt (s20.1,s20.2.1,s20.2.2.1,s20.2.2.2.1,s20.2.2.2.2.1))))
noncomputable def wW (a2:(List Pack)) (a3:(List Int)) (x12:(List ByteArray)):((List File)×Int×Int×Int×Bool×Int)→Option (Fl (Int×zC) ((List File)×Int×Int×Int×Bool)):=loop (wO a2 a3 x12)
noncomputable def uZ (a1:zC) (a2:(List Pack)) (a3:(List Int)):Option (Int×zC):=
 (tF a1).bind fun x4=>
 if x4 then
  (some (6,a1))
 else
  ((tJ a2 a1 a3).bind fun x7=>
  if x7.2 !=0 then
   (some (x7.2,a1))
  else
   ((vT a1 a3).bind fun x10=>
   (zDK a1 x10.1 x7.1).bind fun x12=>
   (wW a2 a3 x12 (a1.Files,a1.Budget,a1.Writes,a1.Stop,a1.Down,0)).bind (Fl.go some fun v27=>
   some (0,({Files:=v27.1,Budget:=v27.2.1,Writes:=v27.2.2.1,Stop:=v27.2.2.2.1,Down:=v27.2.2.2.2}:zC)))))
noncomputable def zDX (a1:zC) (a2:Int):Option zI:=
 (if a2 !=0 then
   (some (a2 !=9))
  else
   (some false)).bind fun v4=>
 if v4 then
  (some ({Code:=a2,zC:=({Files:=([]:List File),Budget:=0,Writes:=0,Stop:=0,Down:=false}:zC)}:zI))
 else
  (some ({Code:=a2,zC:=a1}:zI))
noncomputable def xD (a1:zC) (a2:(List Pack)) (a3:(List Int)):Option zI:=
 (zAR a1).bind fun x4=>
 (if x4==0 then
   (some a1.Down)
  else
   (some false)).bind fun v7=>
 (if v7 then
   (some 9)
  else
   (some x4)).bind fun v9=>
 if v9 !=0 then
  (some ({Code:=v9,zC:=({Files:=([]:List File),Budget:=0,Writes:=0,Stop:=0,Down:=false}:zC)}:zI))
 else
  ((uN a1).bind fun x11=>
  (uZ x11 a2 a3).bind fun x13=>
  (zDX x13.2 x13.1).bind fun x15=>
  some x15)
noncomputable def xB (a1:(List Pack)) (a2:zC) (a3:(List Pack)) (a4:(List Int)):Option zI:=
 (wP a1).bind fun x5=>
 if x5 !=0 then
  (some ({Code:=x5,zC:=({Files:=([]:List File),Budget:=0,Writes:=0,Stop:=0,Down:=false}:zC)}:zI))
 else
  ((xD a2 a3 a4).bind fun x8=>
  some x8)
noncomputable def wK (a1:(List Pack)) (a2:zC) (a3:(List Int)):Option zI:=
 (xB a1 a2 a1 a3).bind fun x4=>
 some x4
noncomputable def zDa (a1:(List Int)) (a2:(List Int)) (s10:Int):Option (Lp Int (Fl Bool Unit)):=
 if decide (s10< (a1.length:Int)) then
  ((idx a1 s10).bind fun x12=>
  (idx a2 s10).bind fun x14=>
  if x12 !=x14 then
   (some (Lp.done (Fl.ret false)))
  else
   (some (Lp.go (w64 (s10+1)))))
 else
  (some (Lp.done (Fl.nxt ())))
noncomputable def zC4 (a1:(List Int)) (a2:(List Int)):Int→Option (Fl Bool Unit):=loop (zDa a1 a2)
noncomputable def zCb (a1:(List Int)) (a2:(List Int)):Option Bool:=
 if (a1.length:Int) !=(a2.length:Int) then
  (some false)
 else
  ((zC4 a1 a2 0).bind (Fl.go some fun v17=>
  some true))
noncomputable def zDm (a1:File) (a2:File):Option Bool:=
 if !(seq a1.Path a2.Path) then
  (some false)
 else
  ((zCb a1.Data a2.Data).bind fun x4=>
  if !x4 then
   (some false)
  else
   (some true))
noncomputable def zDf (a1:(List File)) (a2:(List File)) (s12:Int):Option (Lp Int (Fl Bool Unit)):=
 if decide (s12< (a1.length:Int)) then
  ((idx a1 s12).bind fun x14=>
  (idx a2 s12).bind fun x16=>
  (zDm x14 x16).bind fun x18=>
  if !x18 then
   (some (Lp.done (Fl.ret false)))
  else
   (some (Lp.go (w64 (s12+1)))))
 else
  (some (Lp.done (Fl.nxt ())))
noncomputable def zC1 (a1:(List File)) (a2:(List File)):Int→Option (Fl Bool Unit):=loop (zDf a1 a2)
noncomputable def zCj (a1:(List File)) (a2:(List File)):Option Bool:=
 if (a1.length:Int) !=(a2.length:Int) then
  (some false)
 else
  ((zC1 a1 a2 0).bind (Fl.go some fun v21=>
  some true))
noncomputable def zBy (a1:zC) (a2:zC):Option Bool:=
 (zCj a1.Files a2.Files).bind fun x3=>
 if !x3 then
  (some false)
 else
  (if a1.Budget !=a2.Budget then
   (some false)
  else
   (if a1.Writes !=a2.Writes then
    (some false)
   else
    (if a1.Stop !=a2.Stop then
     (some false)
    else
     (if !(a1.Down==a2.Down) then
      (some false)
     else
      (some true)))))
noncomputable def xR (a1:zI) (a2:zI):Option Bool:=
 if a1.Code !=a2.Code then
  (some false)
 else
  ((zBy a1.zC a2.zC).bind fun x4=>
  if !x4 then
   (some false)
  else
   (some true))
noncomputable def vD (a1:Version) (a2:Version):Option Bool:=
 if a1.A !=a2.A then
  (some false)
 else
  (if a1.B !=a2.B then
   (some false)
  else
   (if a1.C !=a2.C then
    (some false)
   else
    (some true)))
noncomputable def zBW (a1:(List ByteArray)) (a2:(List ByteArray)) (s10:Int):Option (Lp Int (Fl Bool Unit)):=
 if decide (s10< (a1.length:Int)) then
  ((idx a1 s10).bind fun x12=>
  (idx a2 s10).bind fun x14=>
  if !(seq x12 x14) then
   (some (Lp.done (Fl.ret false)))
  else
   (some (Lp.go (w64 (s10+1)))))
 else
  (some (Lp.done (Fl.nxt ())))
noncomputable def zBl (a1:(List ByteArray)) (a2:(List ByteArray)):Int→Option (Fl Bool Unit):=loop (zBW a1 a2)
noncomputable def zBa (a1:(List ByteArray)) (a2:(List ByteArray)):Option Bool:=
 if (a1.length:Int) !=(a2.length:Int) then
  (some false)
 else
  ((zBl a1 a2 0).bind (Fl.go some fun v17=>
  some true))
noncomputable def zDj (a1:Term) (a2:Term):Option Bool:=
 if !(seq a1.Name a2.Name) then
  (some false)
 else
  ((vD a1.Low a2.Low).bind fun x4=>
  if !x4 then
   (some false)
  else
   ((vD a1.High a2.High).bind fun x7=>
   if !x7 then
    (some false)
   else
    (some true)))
noncomputable def zCZ (a1:(List Term)) (a2:(List Term)) (s12:Int):Option (Lp Int (Fl Bool Unit)):=
 if decide (s12< (a1.length:Int)) then
  ((idx a1 s12).bind fun x14=>
  (idx a2 s12).bind fun x16=>
  (zDj x14 x16).bind fun x18=>
  if !x18 then
   (some (Lp.done (Fl.ret false)))
  else
   (some (Lp.go (w64 (s12+1)))))
 else
  (some (Lp.done (Fl.nxt ())))
noncomputable def zCD (a1:(List Term)) (a2:(List Term)):Int→Option (Fl Bool Unit):=loop (zCZ a1 a2)
noncomputable def zAE (a1:(List Term)) (a2:(List Term)):Option Bool:=
 if (a1.length:Int) !=(a2.length:Int) then
  (some false)
 else
  ((zCD a1 a2 0).bind (Fl.go some fun v21=>
  some true))
noncomputable def zCK (a1:(List (List Term))) (a2:(List (List Term))) (s12:Int):Option (Lp Int (Fl Bool Unit)):=
 if decide (s12< (a1.length:Int)) then
  ((idx a1 s12).bind fun x14=>
  (idx a2 s12).bind fun x16=>
  (zAE x14 x16).bind fun x18=>
  if !x18 then
   (some (Lp.done (Fl.ret false)))
  else
   (some (Lp.go (w64 (s12+1)))))
 else
  (some (Lp.done (Fl.nxt ())))
noncomputable def zBP (a1:(List (List Term))) (a2:(List (List Term))):Int→Option (Fl Bool Unit):=loop (zCK a1 a2)
noncomputable def zB9 (a1:(List (List Term))) (a2:(List (List Term))):Option Bool:=
 if (a1.length:Int) !=(a2.length:Int) then
  (some false)
 else
  ((zBP a1 a2 0).bind (Fl.go some fun v21=>
  some true))
noncomputable def zDi (a1:Pack) (a2:Pack):Option Bool:=
 if !(seq a1.Name a2.Name) then
  (some false)
 else
  ((vD a1.Version a2.Version).bind fun x4=>
  if !x4 then
   (some false)
  else
   (if a1.Size !=a2.Size then
    (some false)
   else
    ((zBa a1.Provides a2.Provides).bind fun x8=>
    if !x8 then
     (some false)
    else
     ((zB9 a1.Needs a2.Needs).bind fun x11=>
     if !x11 then
      (some false)
     else
      ((zAE a1.Bars a2.Bars).bind fun x14=>
      if !x14 then
       (some false)
      else
       (some true))))))
noncomputable def zDg (a1:(List Pack)) (a2:(List Pack)) (s12:Int):Option (Lp Int (Fl Bool Unit)):=
 if decide (s12< (a1.length:Int)) then
  ((idx a1 s12).bind fun x14=>
  (idx a2 s12).bind fun x16=>
  (zDi x14 x16).bind fun x18=>
  if !x18 then
   (some (Lp.done (Fl.ret false)))
  else
   (some (Lp.go (w64 (s12+1)))))
 else
  (some (Lp.done (Fl.nxt ())))
noncomputable def zCm (a1:(List Pack)) (a2:(List Pack)):Int→Option (Fl Bool Unit):=loop (zDg a1 a2)
noncomputable def zCt (a1:(List Pack)) (a2:(List Pack)):Option Bool:=
 if (a1.length:Int) !=(a2.length:Int) then
  (some false)
 else
  ((zCm a1 a2 0).bind (Fl.go some fun v21=>
  some true))
noncomputable def zCM (a1:(List Int)) (a2:(List Int)) (s10:Int):Option (Lp Int (Fl Bool Unit)):=
 if decide (s10< (a1.length:Int)) then
  ((idx a1 s10).bind fun x12=>
  (idx a2 s10).bind fun x14=>
  if x12 !=x14 then
   (some (Lp.done (Fl.ret false)))
  else
   (some (Lp.go (w64 (s10+1)))))
 else
  (some (Lp.done (Fl.nxt ())))
noncomputable def zBH (a1:(List Int)) (a2:(List Int)):Int→Option (Fl Bool Unit):=loop (zCM a1 a2)
noncomputable def zB7 (a1:(List Int)) (a2:(List Int)):Option Bool:=
 if (a1.length:Int) !=(a2.length:Int) then
  (some false)
 else
  ((zBH a1 a2 0).bind (Fl.go some fun v17=>
  some true))
noncomputable def zCH (s6:(Int×ByteArray)):Option (Lp (Int×ByteArray) ByteArray):=
 if decide (s6.1>0) then
  ((cat (b2s [IntKind.u8.wrap (w64 (48+(s6.1.tmod 10)))]) s6.2).bind fun x8=>
  some (Lp.go (w64 (s6.1.tdiv 10),x8)))
 else
  (some (Lp.done s6.2))
noncomputable def zBN:(Int×ByteArray)→Option ByteArray:=loop zCH
noncomputable def xJ (a1:Int):Option ByteArray:=
 if decide (a1≤0) then
  (some (bs [109,48]))
 else
  ((zBN (a1,bs [])).bind fun v10=>
  (cat (bs [109]) v10).bind fun x11=>
  some x11)
noncomputable def jF (s8:((List ByteArray)×Int×Int)):Option (Lp ((List ByteArray)×Int×Int) ((List ByteArray)×Int)):=
 if decide (s8.2.2< (s8.1.length:Int)) then
  ((xJ s8.2.1).bind fun x10=>
  (idx s8.1 s8.2.2).bind fun x12=>
  some (Lp.go (s8.1.set s8.2.2.toNat x10,w64 (s8.2.1+1),w64 (s8.2.2+1))))
 else
  (some (Lp.done (s8.1,s8.2.1)))
noncomputable def kD:((List ByteArray)×Int×Int)→Option ((List ByteArray)×Int):=loop jF
noncomputable def uX (a1:(List ByteArray)) (a2:Int):Option (Int×(List ByteArray)):=
 (kD (a1,a2,0)).bind fun v14=>
 some (v14.2,v14.1)
noncomputable def zAu (s20:((List Term)×Int×Int)):Option (Lp ((List Term)×Int×Int) ((List Term)×Int)):=
 if decide (s20.2.2< (s20.1.length:Int)) then
  ((xJ s20.2.1).bind fun x22=>
  (idx s20.1 s20.2.2).bind fun x24=>
  (idx (s20.1.set s20.2.2.toNat ({Name:=x22,Low:=x24.Low,High:=x24.High}:Term)) s20.2.2).bind fun x26=>
  (idx ((s20.1.set s20.2.2.toNat ({Name:=x22,Low:=x24.Low,High:=x24.High}:Term)).set s20.2.2.toNat ({Name:=x26.Name,Low:=({A:=w64 (s20.2.1+1),B:=x26.Low.B,C:=x26.Low.C}:Version),High:=x26.High}:Term)) s20.2.2).bind fun x28=>
  (idx (((s20.1.set s20.2.2.toNat ({Name:=x22,Low:=x24.Low,High:=x24.High}:Term)).set s20.2.2.toNat ({Name:=x26.Name,Low:=({A:=w64 (s20.2.1+1),B:=x26.Low.B,C:=x26.Low.C}:Version),High:=x26.High}:Term)).set s20.2.2.toNat ({Name:=x28.Name,Low:=({A:=x28.Low.A,B:=w64 ((w64 (s20.2.1+1))+1),C:=x28.Low.C}:Version),High:=x28.High}:Term)) s20.2.2).bind fun x30=>
  (idx ((((s20.1.set s20.2.2.toNat ({Name:=x22,Low:=x24.Low,High:=x24.High}:Term)).set s20.2.2.toNat ({Name:=x26.Name,Low:=({A:=w64 (s20.2.1+1),B:=x26.Low.B,C:=x26.Low.C}:Version),High:=x26.High}:Term)).set s20.2.2.toNat ({Name:=x28.Name,Low:=({A:=x28.Low.A,B:=w64 ((w64 (s20.2.1+1))+1),C:=x28.Low.C}:Version),High:=x28.High}:Term)).set s20.2.2.toNat ({Name:=x30.Name,Low:=({A:=x30.Low.A,B:=x30.Low.B,C:=w64 ((w64 ((w64 (s20.2.1+1))+1))+1)}:Version),High:=x30.High}:Term)) s20.2.2).bind fun x32=>
  (idx (((((s20.1.set s20.2.2.toNat ({Name:=x22,Low:=x24.Low,High:=x24.High}:Term)).set s20.2.2.toNat ({Name:=x26.Name,Low:=({A:=w64 (s20.2.1+1),B:=x26.Low.B,C:=x26.Low.C}:Version),High:=x26.High}:Term)).set s20.2.2.toNat ({Name:=x28.Name,Low:=({A:=x28.Low.A,B:=w64 ((w64 (s20.2.1+1))+1),C:=x28.Low.C}:Version),High:=x28.High}:Term)).set s20.2.2.toNat ({Name:=x30.Name,Low:=({A:=x30.Low.A,B:=x30.Low.B,C:=w64 ((w64 ((w64 (s20.2.1+1))+1))+1)}:Version),High:=x30.High}:Term)).set s20.2.2.toNat ({Name:=x32.Name,Low:=x32.Low,High:=({A:=w64 ((w64 ((w64 ((w64 (s20.2.1+1))+1))+1))+1),B:=x32.High.B,C:=x32.High.C}:Version)}:Term)) s20.2.2).bind fun x34=>
  (idx ((((((s20.1.set s20.2.2.toNat ({Name:=x22,Low:=x24.Low,High:=x24.High}:Term)).set s20.2.2.toNat ({Name:=x26.Name,Low:=({A:=w64 (s20.2.1+1),B:=x26.Low.B,C:=x26.Low.C}:Version),High:=x26.High}:Term)).set s20.2.2.toNat ({Name:=x28.Name,Low:=({A:=x28.Low.A,B:=w64 ((w64 (s20.2.1+1))+1),C:=x28.Low.C}:Version),High:=x28.High}:Term)).set s20.2.2.toNat ({Name:=x30.Name,Low:=({A:=x30.Low.A,B:=x30.Low.B,C:=w64 ((w64 ((w64 (s20.2.1+1))+1))+1)}:Version),High:=x30.High}:Term)).set s20.2.2.toNat ({Name:=x32.Name,Low:=x32.Low,High:=({A:=w64 ((w64 ((w64 ((w64 (s20.2.1+1))+1))+1))+1),B:=x32.High.B,C:=x32.High.C}:Version)}:Term)).set s20.2.2.toNat ({Name:=x34.Name,Low:=x34.Low,High:=({A:=x34.High.A,B:=w64 ((w64 ((w64 ((w64 ((w64 (s20.2.1+1))+1))+1))+1))+1),C:=x34.High.C}:Version)}:Term)) s20.2.2).bind fun x36=>
  some (Lp.go (((((((s20.1.set s20.2.2.toNat ({Name:=x22,Low:=x24.Low,High:=x24.High}:Term)).set s20.2.2.toNat ({Name:=x26.Name,Low:=({A:=w64 (s20.2.1+1),B:=x26.Low.B,C:=x26.Low.C}:Version),High:=x26.High}:Term)).set s20.2.2.toNat ({Name:=x28.Name,Low:=({A:=x28.Low.A,B:=w64 ((w64 (s20.2.1+1))+1),C:=x28.Low.C}:Version),High:=x28.High}:Term)).set s20.2.2.toNat ({Name:=x30.Name,Low:=({A:=x30.Low.A,B:=x30.Low.B,C:=w64 ((w64 ((w64 (s20.2.1+1))+1))+1)}:Version),High:=x30.High}:Term)).set s20.2.2.toNat ({Name:=x32.Name,Low:=x32.Low,High:=({A:=w64 ((w64 ((w64 ((w64 (s20.2.1+1))+1))+1))+1),B:=x32.High.B,C:=x32.High.C}:Version)}:Term)).set s20.2.2.toNat ({Name:=x34.Name,Low:=x34.Low,High:=({A:=x34.High.A,B:=w64 ((w64 ((w64 ((w64 ((w64 (s20.2.1+1))+1))+1))+1))+1),C:=x34.High.C}:Version)}:Term)).set s20.2.2.toNat ({Name:=x36.Name,Low:=x36.Low,High:=({A:=x36.High.A,B:=x36.High.B,C:=w64 ((w64 ((w64 ((w64 ((w64 ((w64 (s20.2.1+1))+1))+1))+1))+1))+1)}:Version)}:Term),w64 ((w64 ((w64 ((w64 ((w64 ((w64 ((w64 (s20.2.1+1))+1))+1))+1))+1))+1))+1),w64 (s20.2.2+1))))
 else
  (some (Lp.done (s20.1,s20.2.1)))
noncomputable def zAB:((List Term)×Int×Int)→Option ((List Term)×Int):=loop zAu
noncomputable def vX (a1:(List Term)) (a2:Int):Option (Int×(List Term)):=
 (zAB (a1,a2,0)).bind fun v38=>
 some (v38.2,v38.1)
noncomputable def jV (s10:((List (List Term))×Int×Int)):Option (Lp ((List (List Term))×Int×Int) ((List (List Term))×Int)):=
 if decide (s10.2.2< (s10.1.length:Int)) then
  ((idx s10.1 s10.2.2).bind fun x12=>
  (vX x12 s10.2.1).bind fun x14=>
  (same x14.2 x12).bind fun u16=>
  some (Lp.go (s10.1.set s10.2.2.toNat x14.2,x14.1,w64 (s10.2.2+1))))
 else
  (some (Lp.done (s10.1,s10.2.1)))
noncomputable def zAr:((List (List Term))×Int×Int)→Option ((List (List Term))×Int):=loop jV
noncomputable def jQ (a1:(List (List Term))) (a2:Int):Option (Int×(List (List Term))):=
 (zAr (a1,a2,0)).bind fun v18=>
 some (v18.2,v18.1)
noncomputable def zAi (s34:((List Pack)×Int×Int)):Option (Lp ((List Pack)×Int×Int) ((List Pack)×Int)):=
 if decide (s34.2.2< (s34.1.length:Int)) then
  ((xJ s34.2.1).bind fun x36=>
  (idx s34.1 s34.2.2).bind fun x38=>
  (idx (s34.1.set s34.2.2.toNat ({Name:=x36,Version:=x38.Version,Size:=x38.Size,Provides:=x38.Provides,Needs:=x38.Needs,Bars:=x38.Bars}:Pack)) s34.2.2).bind fun x40=>
  (idx ((s34.1.set s34.2.2.toNat ({Name:=x36,Version:=x38.Version,Size:=x38.Size,Provides:=x38.Provides,Needs:=x38.Needs,Bars:=x38.Bars}:Pack)).set s34.2.2.toNat ({Name:=x40.Name,Version:=({A:=w64 (s34.2.1+1),B:=x40.Version.B,C:=x40.Version.C}:Version),Size:=x40.Size,Provides:=x40.Provides,Needs:=x40.Needs,Bars:=x40.Bars}:Pack)) s34.2.2).bind fun x42=>
  (idx (((s34.1.set s34.2.2.toNat ({Name:=x36,Version:=x38.Version,Size:=x38.Size,Provides:=x38.Provides,Needs:=x38.Needs,Bars:=x38.Bars}:Pack)).set s34.2.2.toNat ({Name:=x40.Name,Version:=({A:=w64 (s34.2.1+1),B:=x40.Version.B,C:=x40.Version.C}:Version),Size:=x40.Size,Provides:=x40.Provides,Needs:=x40.Needs,Bars:=x40.Bars}:Pack)).set s34.2.2.toNat ({Name:=x42.Name,Version:=({A:=x42.Version.A,B:=w64 ((w64 (s34.2.1+1))+1),C:=x42.Version.C}:Version),Size:=x42.Size,Provides:=x42.Provides,Needs:=x42.Needs,Bars:=x42.Bars}:Pack)) s34.2.2).bind fun x44=>
  (idx ((((s34.1.set s34.2.2.toNat ({Name:=x36,Version:=x38.Version,Size:=x38.Size,Provides:=x38.Provides,Needs:=x38.Needs,Bars:=x38.Bars}:Pack)).set s34.2.2.toNat ({Name:=x40.Name,Version:=({A:=w64 (s34.2.1+1),B:=x40.Version.B,C:=x40.Version.C}:Version),Size:=x40.Size,Provides:=x40.Provides,Needs:=x40.Needs,Bars:=x40.Bars}:Pack)).set s34.2.2.toNat ({Name:=x42.Name,Version:=({A:=x42.Version.A,B:=w64 ((w64 (s34.2.1+1))+1),C:=x42.Version.C}:Version),Size:=x42.Size,Provides:=x42.Provides,Needs:=x42.Needs,Bars:=x42.Bars}:Pack)).set s34.2.2.toNat ({Name:=x44.Name,Version:=({A:=x44.Version.A,B:=x44.Version.B,C:=w64 ((w64 ((w64 (s34.2.1+1))+1))+1)}:Version),Size:=x44.Size,Provides:=x44.Provides,Needs:=x44.Needs,Bars:=x44.Bars}:Pack)) s34.2.2).bind fun x46=>
  (idx (((((s34.1.set s34.2.2.toNat ({Name:=x36,Version:=x38.Version,Size:=x38.Size,Provides:=x38.Provides,Needs:=x38.Needs,Bars:=x38.Bars}:Pack)).set s34.2.2.toNat ({Name:=x40.Name,Version:=({A:=w64 (s34.2.1+1),B:=x40.Version.B,C:=x40.Version.C}:Version),Size:=x40.Size,Provides:=x40.Provides,Needs:=x40.Needs,Bars:=x40.Bars}:Pack)).set s34.2.2.toNat ({Name:=x42.Name,Version:=({A:=x42.Version.A,B:=w64 ((w64 (s34.2.1+1))+1),C:=x42.Version.C}:Version),Size:=x42.Size,Provides:=x42.Provides,Needs:=x42.Needs,Bars:=x42.Bars}:Pack)).set s34.2.2.toNat ({Name:=x44.Name,Version:=({A:=x44.Version.A,B:=x44.Version.B,C:=w64 ((w64 ((w64 (s34.2.1+1))+1))+1)}:Version),Size:=x44.Size,Provides:=x44.Provides,Needs:=x44.Needs,Bars:=x44.Bars}:Pack)).set s34.2.2.toNat ({Name:=x46.Name,Version:=x46.Version,Size:=w64 ((w64 ((w64 ((w64 (s34.2.1+1))+1))+1))+1),Provides:=x46.Provides,Needs:=x46.Needs,Bars:=x46.Bars}:Pack)) s34.2.2).bind fun x48=>
  (uX x48.Provides (w64 ((w64 ((w64 ((w64 ((w64 (s34.2.1+1))+1))+1))+1))+1))).bind fun x50=>
  (same x50.2 x48.Provides).bind fun u52=>
  (idx ((((((s34.1.set s34.2.2.toNat ({Name:=x36,Version:=x38.Version,Size:=x38.Size,Provides:=x38.Provides,Needs:=x38.Needs,Bars:=x38.Bars}:Pack)).set s34.2.2.toNat ({Name:=x40.Name,Version:=({A:=w64 (s34.2.1+1),B:=x40.Version.B,C:=x40.Version.C}:Version),Size:=x40.Size,Provides:=x40.Provides,Needs:=x40.Needs,Bars:=x40.Bars}:Pack)).set s34.2.2.toNat ({Name:=x42.Name,Version:=({A:=x42.Version.A,B:=w64 ((w64 (s34.2.1+1))+1),C:=x42.Version.C}:Version),Size:=x42.Size,Provides:=x42.Provides,Needs:=x42.Needs,Bars:=x42.Bars}:Pack)).set s34.2.2.toNat ({Name:=x44.Name,Version:=({A:=x44.Version.A,B:=x44.Version.B,C:=w64 ((w64 ((w64 (s34.2.1+1))+1))+1)}:Version),Size:=x44.Size,Provides:=x44.Provides,Needs:=x44.Needs,Bars:=x44.Bars}:Pack)).set s34.2.2.toNat ({Name:=x46.Name,Version:=x46.Version,Size:=w64 ((w64 ((w64 ((w64 (s34.2.1+1))+1))+1))+1),Provides:=x46.Provides,Needs:=x46.Needs,Bars:=x46.Bars}:Pack)).set s34.2.2.toNat ({Name:=x48.Name,Version:=x48.Version,Size:=x48.Size,Provides:=x50.2,Needs:=x48.Needs,Bars:=x48.Bars}:Pack)) s34.2.2).bind fun x54=>
  (jQ x54.Needs x50.1).bind fun x56=>
  (same x56.2 x54.Needs).bind fun u58=>
  (idx (((((((s34.1.set s34.2.2.toNat ({Name:=x36,Version:=x38.Version,Size:=x38.Size,Provides:=x38.Provides,Needs:=x38.Needs,Bars:=x38.Bars}:Pack)).set s34.2.2.toNat ({Name:=x40.Name,Version:=({A:=w64 (s34.2.1+1),B:=x40.Version.B,C:=x40.Version.C}:Version),Size:=x40.Size,Provides:=x40.Provides,Needs:=x40.Needs,Bars:=x40.Bars}:Pack)).set s34.2.2.toNat ({Name:=x42.Name,Version:=({A:=x42.Version.A,B:=w64 ((w64 (s34.2.1+1))+1),C:=x42.Version.C}:Version),Size:=x42.Size,Provides:=x42.Provides,Needs:=x42.Needs,Bars:=x42.Bars}:Pack)).set s34.2.2.toNat ({Name:=x44.Name,Version:=({A:=x44.Version.A,B:=x44.Version.B,C:=w64 ((w64 ((w64 (s34.2.1+1))+1))+1)}:Version),Size:=x44.Size,Provides:=x44.Provides,Needs:=x44.Needs,Bars:=x44.Bars}:Pack)).set s34.2.2.toNat ({Name:=x46.Name,Version:=x46.Version,Size:=w64 ((w64 ((w64 ((w64 (s34.2.1+1))+1))+1))+1),Provides:=x46.Provides,Needs:=x46.Needs,Bars:=x46.Bars}:Pack)).set s34.2.2.toNat ({Name:=x48.Name,Version:=x48.Version,Size:=x48.Size,Provides:=x50.2,Needs:=x48.Needs,Bars:=x48.Bars}:Pack)).set s34.2.2.toNat ({Name:=x54.Name,Version:=x54.Version,Size:=x54.Size,Provides:=x54.Provides,Needs:=x56.2,Bars:=x54.Bars}:Pack)) s34.2.2).bind fun x60=>
  (vX x60.Bars x56.1).bind fun x62=>
  (same x62.2 x60.Bars).bind fun u64=>
  some (Lp.go ((((((((s34.1.set s34.2.2.toNat ({Name:=x36,Version:=x38.Version,Size:=x38.Size,Provides:=x38.Provides,Needs:=x38.Needs,Bars:=x38.Bars}:Pack)).set s34.2.2.toNat ({Name:=x40.Name,Version:=({A:=w64 (s34.2.1+1),B:=x40.Version.B,C:=x40.Version.C}:Version),Size:=x40.Size,Provides:=x40.Provides,Needs:=x40.Needs,Bars:=x40.Bars}:Pack)).set s34.2.2.toNat ({Name:=x42.Name,Version:=({A:=x42.Version.A,B:=w64 ((w64 (s34.2.1+1))+1),C:=x42.Version.C}:Version),Size:=x42.Size,Provides:=x42.Provides,Needs:=x42.Needs,Bars:=x42.Bars}:Pack)).set s34.2.2.toNat ({Name:=x44.Name,Version:=({A:=x44.Version.A,B:=x44.Version.B,C:=w64 ((w64 ((w64 (s34.2.1+1))+1))+1)}:Version),Size:=x44.Size,Provides:=x44.Provides,Needs:=x44.Needs,Bars:=x44.Bars}:Pack)).set s34.2.2.toNat ({Name:=x46.Name,Version:=x46.Version,Size:=w64 ((w64 ((w64 ((w64 (s34.2.1+1))+1))+1))+1),Provides:=x46.Provides,Needs:=x46.Needs,Bars:=x46.Bars}:Pack)).set s34.2.2.toNat ({Name:=x48.Name,Version:=x48.Version,Size:=x48.Size,Provides:=x50.2,Needs:=x48.Needs,Bars:=x48.Bars}:Pack)).set s34.2.2.toNat ({Name:=x54.Name,Version:=x54.Version,Size:=x54.Size,Provides:=x54.Provides,Needs:=x56.2,Bars:=x54.Bars}:Pack)).set s34.2.2.toNat ({Name:=x60.Name,Version:=x60.Version,Size:=x60.Size,Provides:=x60.Provides,Needs:=x60.Needs,Bars:=x62.2}:Pack),x62.1,w64 (s34.2.2+1))))
 else
  (some (Lp.done (s34.1,s34.2.1)))
noncomputable def zA9:((List Pack)×Int×Int)→Option ((List Pack)×Int):=loop zAi
noncomputable def zAv (a1:(List Pack)) (a2:Int):Option (Int×(List Pack)):=
 (zA9 (a1,a2,0)).bind fun v66=>
 some (v66.2,v66.1)
noncomputable def zAn (s6:((List Int)×Int×Int)):Option (Lp ((List Int)×Int×Int) ((List Int)×Int)):=
 if decide (s6.2.2< (s6.1.length:Int)) then
  ((idx s6.1 s6.2.2).bind fun x8=>
  some (Lp.go (s6.1.set s6.2.2.toNat (IntKind.u8.wrap (s6.2.1)),w64 (s6.2.1+1),w64 (s6.2.2+1))))
 else
  (some (Lp.done (s6.1,s6.2.1)))
noncomputable def zAK:((List Int)×Int×Int)→Option ((List Int)×Int):=loop zAn
noncomputable def zAw (a1:(List Int)) (a2:Int):Option (Int×(List Int)):=
 (zAK (a1,a2,0)).bind fun v10=>
 some (v10.2,v10.1)
noncomputable def zAk (s14:((List File)×Int×Int)):Option (Lp ((List File)×Int×Int) ((List File)×Int)):=
 if decide (s14.2.2< (s14.1.length:Int)) then
  ((xJ s14.2.1).bind fun x16=>
  (idx s14.1 s14.2.2).bind fun x18=>
  (idx (s14.1.set s14.2.2.toNat ({Path:=x16,Data:=x18.Data}:File)) s14.2.2).bind fun x20=>
  (zAw x20.Data (w64 (s14.2.1+1))).bind fun x22=>
  (same x22.2 x20.Data).bind fun u24=>
  some (Lp.go ((s14.1.set s14.2.2.toNat ({Path:=x16,Data:=x18.Data}:File)).set s14.2.2.toNat ({Path:=x20.Path,Data:=x22.2}:File),x22.1,w64 (s14.2.2+1))))
 else
  (some (Lp.done (s14.1,s14.2.1)))
noncomputable def zAJ:((List File)×Int×Int)→Option ((List File)×Int):=loop zAk
noncomputable def zAs (a1:(List File)) (a2:Int):Option (Int×(List File)):=
 (zAJ (a1,a2,0)).bind fun v26=>
 some (v26.2,v26.1)
noncomputable def tX (a1:zC) (a2:Int):Option (Int×(List File)):=
 (zAs a1.Files a2).bind fun x3=>
 (same x3.2 a1.Files).bind fun u5=>
 some (x3.1,x3.2)
noncomputable def jY (s6:((List Int)×Int×Int)):Option (Lp ((List Int)×Int×Int) ((List Int)×Int)):=
 if decide (s6.2.2< (s6.1.length:Int)) then
  ((idx s6.1 s6.2.2).bind fun x8=>
  some (Lp.go (s6.1.set s6.2.2.toNat s6.2.1,w64 (s6.2.1+1),w64 (s6.2.2+1))))
 else
  (some (Lp.done (s6.1,s6.2.1)))
noncomputable def zAf:((List Int)×Int×Int)→Option ((List Int)×Int):=loop jY
noncomputable def jR (a1:(List Int)) (a2:Int):Option (Int×(List Int)):=
 (zAf (a1,a2,0)).bind fun v10=>
 some (v10.2,v10.1)
noncomputable def wU (a1:zI) (a2:Int):Option (Int×(List File)):=
 (tX a1.zC a2).bind fun x3=>
 (same x3.2 a1.zC.Files).bind fun u5=>
 some (x3.1,x3.2)
noncomputable def zAC (a1:(List Int)) (s7:(Int×Int)):Option (Lp (Int×Int) (Fl Int Int)):=
 if decide (s7.2< (a1.length:Int)) then
  ((idx a1 s7.2).bind fun x9=>
  if x9 !=(IntKind.u8.wrap (s7.1)) then
   (some (Lp.done (Fl.ret (-1))))
  else
   (some (Lp.go (w64 (s7.1+1),w64 (s7.2+1)))))
 else
  (some (Lp.done (Fl.nxt s7.1)))
noncomputable def zBp (a1:(List Int)):(Int×Int)→Option (Fl Int Int):=loop (zAC a1)
noncomputable def zAY (a1:(List Int)) (a2:Int):Option Int:=
 (zBp a1 (a2,0)).bind (Fl.go some fun v12=>
 some v12)
noncomputable def zAL (a1:(List File)) (s14:(Int×Int)):Option (Lp (Int×Int) (Fl Int Int)):=
 if decide (s14.2< (a1.length:Int)) then
  ((idx a1 s14.2).bind fun x16=>
  (xJ s14.1).bind fun x18=>
  if !(seq x16.Path x18) then
   (some (Lp.done (Fl.ret (-1))))
  else
   ((idx a1 s14.2).bind fun x21=>
   (zAY x21.Data (w64 (s14.1+1))).bind fun x23=>
   if decide (x23<0) then
    (some (Lp.done (Fl.ret (-1))))
   else
    (some (Lp.go (x23,w64 (s14.2+1))))))
 else
  (some (Lp.done (Fl.nxt s14.1)))
noncomputable def zBo (a1:(List File)):(Int×Int)→Option (Fl Int Int):=loop (zAL a1)
noncomputable def zAT (a1:(List File)) (a2:Int):Option Int:=
 (zBo a1 (a2,0)).bind (Fl.go some fun v26=>
 some v26)
noncomputable def zB6 (a1:zC) (a2:Int):Option Int:=
 (zAT a1.Files a2).bind fun x3=>
 if decide (x3<0) then
  (some (-1))
 else
  (some x3)
noncomputable def xY (a1:zI) (a2:Int):Option Int:=
 (zB6 a1.zC a2).bind fun x3=>
 if decide (x3<0) then
  (some (-1))
 else
  (some x3)
noncomputable def xZ (a1:(List Pack)) (a2:zC) (a3:(List Int)):Option Bool:=
 if decide ((a3.length:Int)>1048576) then
  (some true)
 else
  ((zCd a1 1048576).bind fun x5=>
  if decide (x5<0) then
   (some true)
  else
   ((zDo a2 x5).bind fun x8=>
   if decide (x8<0) then
    (some true)
   else
    ((vO a1).bind fun x11=>
    (tO a2).bind fun x13=>
    (wN a3).bind fun x15=>
    (uK x11 x13 x15).bind fun x17=>
    (vO a1).bind fun x19=>
    (tO a2).bind fun x21=>
    (wN a3).bind fun x23=>
    (wK x19 x21 x23).bind fun x25=>
    (xR x25 x17).bind fun x27=>
    if !x27 then
     (some false)
    else
     ((vO a1).bind fun x30=>
     (zCt x19 x30).bind fun x32=>
     if !x32 then
      (some false)
     else
      ((tO a2).bind fun x35=>
      (zBy x21 x35).bind fun x37=>
      if !x37 then
       (some false)
      else
       ((wN a3).bind fun x40=>
       (zB7 x23 x40).bind fun x42=>
       if !x42 then
        (some false)
       else
        ((zAv x19 1).bind fun x45=>
        (tX x21 x45.1).bind fun x47=>
        (jR x23 x47.1).bind fun x49=>
        (if decide (x49.1<0) then
          (some true)
         else
          ((xR x25 x17).bind fun x52=>
          some (!x52))).bind fun v54=>
        if v54 then
         (some false)
        else
         ((wU x25 1).bind fun x56=>
         (same x56.2 x25.zC.Files).bind fun u58=>
         (xY ({Code:=x25.Code,zC:=({Files:=x56.2,Budget:=x25.zC.Budget,Writes:=x25.zC.Writes,Stop:=x25.zC.Stop,Down:=x25.zC.Down}:zC)}:zI) 1).bind fun x60=>
         if decide (x60<0) then
          (some false)
         else
          (if x60 !=x56.1 then
           (some false)
          else
           ((vO a1).bind fun x64=>
           (tO a2).bind fun x66=>
           (wN a3).bind fun x68=>
           (wK x64 x66 x68).bind fun x70=>
           (xR x70 x17).bind fun x72=>
           if !x72 then
            (some false)
           else
            ((xY ({Code:=x25.Code,zC:=({Files:=x56.2,Budget:=x25.zC.Budget,Writes:=x25.zC.Writes,Stop:=x25.zC.Stop,Down:=x25.zC.Down}:zC)}:zI) 1).bind fun x75=>
            if decide (x75<0) then
             (some false)
            else
             (if x75 !=x56.1 then
              (some false)
             else
              (some true)))))))))))))
end Go.Told

import Derived.Test.YtobkkecdnlecgaaGreatDoorImF
set_option linter.unusedVariables false
set_option maxRecDepth 4000
namespace Go.Told
open Go Go.Im
structure Version where
 A:Int
 B:Int
 C:Int
 deriving DecidableEq
def Version.enc (x:Version):List D:=[.sc (.int .i64 x.A),.sc (.int .i64 x.B),.sc (.int .i64 x.C)]
theorem Version.fl (x:Version):zF9 (Version.enc x):=(flatK zQ (flatK zQ (flatK zQ zGs)))
structure Term where
 Name:ByteArray
 Low:Version
 High:Version
 deriving DecidableEq
def Term.enc (x:Term):List D:=[.sc (.string x.Name),.sc (.int .i64 x.Low.A),.sc (.int .i64 x.Low.B),.sc (.int .i64 x.Low.C),.sc (.int .i64 x.High.A),.sc (.int .i64 x.High.B),.sc (.int .i64 x.High.C)]
theorem Term.fl (x:Term):zF9 (Term.enc x):=(flatK zQ (flatK zQ (flatK zQ (flatK zQ (flatK zQ (flatK zQ (flatK zQ zGs)))))))
structure Pack where
 Name:ByteArray
 Version:Version
 Size:Int
 Provides:(List ByteArray)
 Needs:(List (List Term))
 Bars:(List Term)
 deriving DecidableEq
def Pack.enc (o:Bool) (x:Pack):List D:=[.sc (.string x.Name),.sc (.int .i64 x.Version.A),.sc (.int .i64 x.Version.B),.sc (.int .i64 x.Version.C),.sc (.int .i64 x.Size),.s o 1 x.Provides.length (x.Provides.map eStr),.s o 1 x.Needs.length (x.Needs.map (eSl o 7 Term.enc)),.s o 7 x.Bars.length (x.Bars.map Term.enc)]
theorem Pack.ro (o:Bool) (x:Pack):D.ro.roC (Pack.enc o x)=Pack.enc false x:=by
 simp only [Pack.enc,D.ro.roC,D.ro,zEY (enc:=eStr) (enc':=eStr) (fun _=>rfl),zEY (enc:=(eSl o 7 Term.enc)) (enc':=(eSl false 7 Term.enc)) (zSw (fun _=>rfl)),zEY (enc:=Term.enc) (enc':=Term.enc) (fun _=>rfl)]
theorem Pack.fl (x:Pack):zF9 (Pack.enc true x):=(flatK zQ (flatK zQ (flatK zQ (flatK zQ (flatK zQ (flatK (zFA (zGy (fun _=>(flatK zQ zGs)) _)) (flatK (zFA (zGy (fun _=>(flatK (zFA (zGy (fun _=>(Term.fl _)) _)) zGs)) _)) (flatK (zFA (zGy (fun _=>(Term.fl _)) _)) zGs))))))))
structure File where
 Path:ByteArray
 Data:(List Int)
 deriving DecidableEq
def File.enc (o:Bool) (x:File):List D:=[.sc (.string x.Path),.s o 1 x.Data.length (x.Data.map eU8)]
theorem File.ro (o:Bool) (x:File):D.ro.roC (File.enc o x)=File.enc false x:=by
 simp only [File.enc,D.ro.roC,D.ro,zEY (enc:=eU8) (enc':=eU8) (fun _=>rfl)]
theorem File.fl (x:File):zF9 (File.enc true x):=(flatK zQ (flatK (zFA (zGy (fun _=>(flatK zQ zGs)) _)) zGs))
structure zD where
 Files:(List File)
 Budget:Int
 Writes:Int
 Stop:Int
 Down:Bool
 deriving DecidableEq
def zD.enc (o:Bool) (x:zD):List D:=[.s o 2 x.Files.length (x.Files.map (File.enc o)),.sc (.int .i64 x.Budget),.sc (.int .i64 x.Writes),.sc (.int .i64 x.Stop),.sc (.bool x.Down)]
theorem zD.ro (o:Bool) (x:zD):D.ro.roC (zD.enc o x)=zD.enc false x:=by
 simp only [zD.enc,D.ro.roC,D.ro,zEY (enc:=(File.enc o)) (enc':=(File.enc false)) (File.ro o)]
theorem zD.fl (x:zD):zF9 (zD.enc true x):=(flatK (zFA (zGy (fun _=>(File.fl _)) _)) (flatK zQ (flatK zQ (flatK zQ (flatK zQ zGs)))))
structure System where
 Catalog:(List Pack)
 zD:zD
 deriving DecidableEq
def System.enc (o:Bool) (x:System):List D:=[.s o 8 x.Catalog.length (x.Catalog.map (Pack.enc o)),.s o 2 x.zD.Files.length (x.zD.Files.map (File.enc o)),.sc (.int .i64 x.zD.Budget),.sc (.int .i64 x.zD.Writes),.sc (.int .i64 x.zD.Stop),.sc (.bool x.zD.Down)]
theorem System.ro (o:Bool) (x:System):D.ro.roC (System.enc o x)=System.enc false x:=by
 simp only [System.enc,D.ro.roC,D.ro,zEY (enc:=(Pack.enc o)) (enc':=(Pack.enc false)) (Pack.ro o),zEY (enc:=(File.enc o)) (enc':=(File.enc false)) (File.ro o)]
theorem System.fl (x:System):zF9 (System.enc true x):=(flatK (zFA (zGy (fun _=>(Pack.fl _)) _)) (flatK (zFA (zGy (fun _=>(File.fl _)) _)) (flatK zQ (flatK zQ (flatK zQ (flatK zQ zGs))))))
structure wD where
 Code:Int
 zD:zD
 deriving DecidableEq
def wD.enc (o:Bool) (x:wD):List D:=[.sc (.int .i64 x.Code),.s o 2 x.zD.Files.length (x.zD.Files.map (File.enc o)),.sc (.int .i64 x.zD.Budget),.sc (.int .i64 x.zD.Writes),.sc (.int .i64 x.zD.Stop),.sc (.bool x.zD.Down)]
theorem wD.ro (o:Bool) (x:wD):D.ro.roC (wD.enc o x)=wD.enc false x:=by
 simp only [wD.enc,D.ro.roC,D.ro,zEY (enc:=(File.enc o)) (enc':=(File.enc false)) (File.ro o)]
theorem wD.fl (x:wD):zF9 (wD.enc true x):=(flatK zQ (flatK (zFA (zGy (fun _=>(File.fl _)) _)) (flatK zQ (flatK zQ (flatK zQ (flatK zQ zGs))))))
structure xK where
 Code:Int
 At:Int
 Set:(List Int)
 deriving DecidableEq
def xK.enc (o:Bool) (x:xK):List D:=[.sc (.int .i64 x.Code),.sc (.int .i64 x.At),.s o 1 x.Set.length (x.Set.map zU)]
theorem xK.ro (o:Bool) (x:xK):D.ro.roC (xK.enc o x)=xK.enc false x:=by
 simp only [xK.enc,D.ro.roC,D.ro,zEY (enc:=zU) (enc':=zU) (fun _=>rfl)]
theorem xK.fl (x:xK):zF9 (xK.enc true x):=(flatK zQ (flatK zQ (flatK (zFA (zGy (fun _=>(flatK zQ zGs)) _)) zGs)))
structure zC where
 Code:Int
 Choices:Int
 System:System
 deriving DecidableEq
def zC.enc (o:Bool) (x:zC):List D:=[.sc (.int .i64 x.Code),.sc (.int .i64 x.Choices),.s o 8 x.System.Catalog.length (x.System.Catalog.map (Pack.enc o)),.s o 2 x.System.zD.Files.length (x.System.zD.Files.map (File.enc o)),.sc (.int .i64 x.System.zD.Budget),.sc (.int .i64 x.System.zD.Writes),.sc (.int .i64 x.System.zD.Stop),.sc (.bool x.System.zD.Down)]
theorem zC.ro (o:Bool) (x:zC):D.ro.roC (zC.enc o x)=zC.enc false x:=by
 simp only [zC.enc,D.ro.roC,D.ro,zEY (enc:=(Pack.enc o)) (enc':=(Pack.enc false)) (Pack.ro o),zEY (enc:=(File.enc o)) (enc':=(File.enc false)) (File.ro o)]
theorem zC.fl (x:zC):zF9 (zC.enc true x):=(flatK zQ (flatK zQ (flatK (zFA (zGy (fun _=>(Pack.fl _)) _)) (flatK (zFA (zGy (fun _=>(File.fl _)) _)) (flatK zQ (flatK zQ (flatK zQ (flatK zQ zGs))))))))
structure outcome where
 zC:zC
 tells:Bool
 deriving DecidableEq
def outcome.enc (o:Bool) (x:outcome):List D:=[.sc (.int .i64 x.zC.Code),.sc (.int .i64 x.zC.Choices),.s o 8 x.zC.System.Catalog.length (x.zC.System.Catalog.map (Pack.enc o)),.s o 2 x.zC.System.zD.Files.length (x.zC.System.zD.Files.map (File.enc o)),.sc (.int .i64 x.zC.System.zD.Budget),.sc (.int .i64 x.zC.System.zD.Writes),.sc (.int .i64 x.zC.System.zD.Stop),.sc (.bool x.zC.System.zD.Down),.sc (.bool x.tells)]
theorem outcome.ro (o:Bool) (x:outcome):D.ro.roC (outcome.enc o x)=outcome.enc false x:=by
 simp only [outcome.enc,D.ro.roC,D.ro,zEY (enc:=(Pack.enc o)) (enc':=(Pack.enc false)) (Pack.ro o),zEY (enc:=(File.enc o)) (enc':=(File.enc false)) (File.ro o)]
theorem outcome.fl (x:outcome):zF9 (outcome.enc true x):=(flatK zQ (flatK zQ (flatK (zFA (zGy (fun _=>(Pack.fl _)) _)) (flatK (zFA (zGy (fun _=>(File.fl _)) _)) (flatK zQ (flatK zQ (flatK zQ (flatK zQ (flatK zQ zGs)))))))))
structure zT where
 Kind:Int
 Pack:Int
 At:Int
 deriving DecidableEq
def zT.enc (x:zT):List D:=[.sc (.int .i64 x.Kind),.sc (.int .i64 x.Pack),.sc (.int .i64 x.At)]
theorem zT.fl (x:zT):zF9 (zT.enc x):=(flatK zQ (flatK zQ (flatK zQ zGs)))
structure xL where
 Code:Int
 Term:Term
 deriving DecidableEq
def xL.enc (x:xL):List D:=[.sc (.int .i64 x.Code),.sc (.string x.Term.Name),.sc (.int .i64 x.Term.Low.A),.sc (.int .i64 x.Term.Low.B),.sc (.int .i64 x.Term.Low.C),.sc (.int .i64 x.Term.High.A),.sc (.int .i64 x.Term.High.B),.sc (.int .i64 x.Term.High.C)]
theorem xL.fl (x:xL):zF9 (xL.enc x):=(flatK zQ (flatK zQ (flatK zQ (flatK zQ (flatK zQ (flatK zQ (flatK zQ (flatK zQ zGs))))))))
structure zN where
 Code:Int
 Version:Version
 deriving DecidableEq
def zN.enc (x:zN):List D:=[.sc (.int .i64 x.Code),.sc (.int .i64 x.Version.A),.sc (.int .i64 x.Version.B),.sc (.int .i64 x.Version.C)]
theorem zN.fl (x:zN):zF9 (zN.enc x):=(flatK zQ (flatK zQ (flatK zQ (flatK zQ zGs))))
noncomputable def zBp (a1:(List ByteArray)) (s8:(Int×Int)):Option (Lp (Int×Int) (Fl Int Int)):=
 if decide (s8.2< (a1.length:Int)) then
  ((idx a1 s8.2).bind fun x10=>
  if decide ((w64 (s8.1-(x10.size:Int)))<0) then
   (some (Lp.done (Fl.ret (-1))))
  else
   (some (Lp.go (w64 (s8.1-(x10.size:Int)),w64 (s8.2+1)))))
 else
  (some (Lp.done (Fl.nxt s8.1)))
noncomputable def zBX (a1:(List ByteArray)):(Int×Int)→Option (Fl Int Int):=loop (zBp a1)
noncomputable def zB0 (a1:(List ByteArray)) (a2:Int):Option Int:=
 if decide ((w64 (a2-(a1.length:Int)))<0) then
  (some (-1))
 else
  ((zBX a1 (w64 (a2-(a1.length:Int)),0)).bind (Fl.go some fun v13=>
  some v13))
noncomputable def zEK (a1:Term) (a2:Int):Option Int:=
 if decide ((w64 (a2-(a1.Name.size:Int)))<0) then
  (some (-1))
 else
  (some (w64 (a2-(a1.Name.size:Int))))
noncomputable def zC7 (a1:(List Term)) (s10:(Int×Int)):Option (Lp (Int×Int) (Fl Int Int)):=
 if decide (s10.2< (a1.length:Int)) then
  ((idx a1 s10.2).bind fun x12=>
  (zEK x12 s10.1).bind fun x14=>
  if decide (x14<0) then
   (some (Lp.done (Fl.ret (-1))))
  else
   (some (Lp.go (x14,w64 (s10.2+1)))))
 else
  (some (Lp.done (Fl.nxt s10.1)))
noncomputable def zDc (a1:(List Term)):(Int×Int)→Option (Fl Int Int):=loop (zC7 a1)
noncomputable def zBd (a1:(List Term)) (a2:Int):Option Int:=
 if decide ((w64 (a2-(a1.length:Int)))<0) then
  (some (-1))
 else
  ((zDc a1 (w64 (a2-(a1.length:Int)),0)).bind (Fl.go some fun v17=>
  some v17))
noncomputable def zCe (a1:(List (List Term))) (s10:(Int×Int)):Option (Lp (Int×Int) (Fl Int Int)):=
 if decide (s10.2< (a1.length:Int)) then
  ((idx a1 s10.2).bind fun x12=>
  (zBd x12 s10.1).bind fun x14=>
  if decide (x14<0) then
   (some (Lp.done (Fl.ret (-1))))
  else
   (some (Lp.go (x14,w64 (s10.2+1)))))
 else
  (some (Lp.done (Fl.nxt s10.1)))
noncomputable def zCC (a1:(List (List Term))):(Int×Int)→Option (Fl Int Int):=loop (zCe a1)
noncomputable def zCl (a1:(List (List Term))) (a2:Int):Option Int:=
 if decide ((w64 (a2-(a1.length:Int)))<0) then
  (some (-1))
 else
  ((zCC a1 (w64 (a2-(a1.length:Int)),0)).bind (Fl.go some fun v17=>
  some v17))
noncomputable def zEM (a1:Pack) (a2:Int):Option Int:=
 if decide ((w64 (a2-(a1.Name.size:Int)))<0) then
  (some (-1))
 else
  ((zB0 a1.Provides (w64 (a2-(a1.Name.size:Int)))).bind fun x4=>
  if decide (x4<0) then
   (some (-1))
  else
   ((zCl a1.Needs x4).bind fun x7=>
   if decide (x7<0) then
    (some (-1))
   else
    ((zBd a1.Bars x7).bind fun x10=>
    if decide (x10<0) then
     (some (-1))
    else
     (some x10))))
noncomputable def zC9 (a1:(List Pack)) (s10:(Int×Int)):Option (Lp (Int×Int) (Fl Int Int)):=
 if decide (s10.2< (a1.length:Int)) then
  ((idx a1 s10.2).bind fun x12=>
  (zEM x12 s10.1).bind fun x14=>
  if decide (x14<0) then
   (some (Lp.done (Fl.ret (-1))))
  else
   (some (Lp.go (x14,w64 (s10.2+1)))))
 else
  (some (Lp.done (Fl.nxt s10.1)))
noncomputable def zDP (a1:(List Pack)):(Int×Int)→Option (Fl Int Int):=loop (zC9 a1)
noncomputable def zDm (a1:(List Pack)) (a2:Int):Option Int:=
 if decide ((w64 (a2-(a1.length:Int)))<0) then
  (some (-1))
 else
  ((zDP a1 (w64 (a2-(a1.length:Int)),0)).bind (Fl.go some fun v17=>
  some v17))
noncomputable def zCX (a1:(List Int)) (a2:Int):Option Int:=
 if decide ((w64 (a2-(a1.length:Int)))<0) then
  (some (-1))
 else
  (some (w64 (a2-(a1.length:Int))))
noncomputable def zEE (a1:File) (a2:Int):Option Int:=
 if decide ((w64 (a2-(a1.Path.size:Int)))<0) then
  (some (-1))
 else
  ((zCX a1.Data (w64 (a2-(a1.Path.size:Int)))).bind fun x4=>
  if decide (x4<0) then
   (some (-1))
  else
   (some x4))
noncomputable def zCz (a1:(List File)) (s10:(Int×Int)):Option (Lp (Int×Int) (Fl Int Int)):=
 if decide (s10.2< (a1.length:Int)) then
  ((idx a1 s10.2).bind fun x12=>
  (zEE x12 s10.1).bind fun x14=>
  if decide (x14<0) then
   (some (Lp.done (Fl.ret (-1))))
  else
   (some (Lp.go (x14,w64 (s10.2+1)))))
 else
  (some (Lp.done (Fl.nxt s10.1)))
noncomputable def zDe (a1:(List File)):(Int×Int)→Option (Fl Int Int):=loop (zCz a1)
noncomputable def zDg (a1:(List File)) (a2:Int):Option Int:=
 if decide ((w64 (a2-(a1.length:Int)))<0) then
  (some (-1))
 else
  ((zDe a1 (w64 (a2-(a1.length:Int)),0)).bind (Fl.go some fun v17=>
  some v17))
noncomputable def zEG (a1:zD) (a2:Int):Option Int:=
 (zDg a1.Files a2).bind fun x3=>
 if decide (x3<0) then
  (some (-1))
 else
  (some x3)
noncomputable def zCm (a1:System) (a2:Int):Option Int:=
 (zDm a1.Catalog a2).bind fun x3=>
 if decide (x3<0) then
  (some (-1))
 else
  ((zEG a1.zD x3).bind fun x6=>
  if decide (x6<0) then
   (some (-1))
  else
   (some x6))
noncomputable def vV (a1:Version):Option Version:=
 some a1
noncomputable def zCK (a1:(List ByteArray)) (s9:((List ByteArray)×Int)):Option (Lp ((List ByteArray)×Int) (List ByteArray)):=
 if decide (s9.2< (a1.length:Int)) then
  ((idx a1 s9.2).bind fun x11=>
  (idx s9.1 s9.2).bind fun x13=>
  some (Lp.go (s9.1.set s9.2.toNat x11,w64 (s9.2+1))))
 else
  (some (Lp.done s9.1))
noncomputable def zBR (a1:(List ByteArray)):((List ByteArray)×Int)→Option (List ByteArray):=loop (zCK a1)
noncomputable def zB2 (a1:(List ByteArray)):Option (List ByteArray):=
 (mk 16 (a1.length:Int) ByteArray.empty).bind fun x2=>
 (zBR a1 (x2,0)).bind fun v15=>
 some v15
noncomputable def zEJ (a1:Term):Option Term:=
 (vV a1.Low).bind fun x2=>
 (vV a1.High).bind fun x4=>
 some ({Name:=a1.Name,Low:=x2,High:=x4}:Term)
noncomputable def zEv (a1:(List Term)) (s11:((List Term)×Int)):Option (Lp ((List Term)×Int) (List Term)):=
 if decide (s11.2< (a1.length:Int)) then
  ((idx a1 s11.2).bind fun x13=>
  (zEJ x13).bind fun x15=>
  (idx s11.1 s11.2).bind fun x17=>
  some (Lp.go (s11.1.set s11.2.toNat x15,w64 (s11.2+1))))
 else
  (some (Lp.done s11.1))
noncomputable def zDf (a1:(List Term)):((List Term)×Int)→Option (List Term):=loop (zEv a1)
noncomputable def zBb (a1:(List Term)):Option (List Term):=
 (mk 64 (a1.length:Int) ({Name:=ByteArray.empty,Low:=({A:=0,B:=0,C:=0}:Version),High:=({A:=0,B:=0,C:=0}:Version)}:Term)).bind fun x2=>
 (zDf a1 (x2,0)).bind fun v19=>
 some v19
noncomputable def zDY (a1:(List (List Term))) (s11:((List (List Term))×Int)):Option (Lp ((List (List Term))×Int) (List (List Term))):=
 if decide (s11.2< (a1.length:Int)) then
  ((idx a1 s11.2).bind fun x13=>
  (zBb x13).bind fun x15=>
  (idx s11.1 s11.2).bind fun x17=>
  some (Lp.go (s11.1.set s11.2.toNat x15,w64 (s11.2+1))))
 else
  (some (Lp.done s11.1))
noncomputable def zCw (a1:(List (List Term))):((List (List Term))×Int)→Option (List (List Term)):=loop (zDY a1)
noncomputable def zCk (a1:(List (List Term))):Option (List (List Term)):=
 (mk 24 (a1.length:Int) ([]:List Term)).bind fun x2=>
 (zCw a1 (x2,0)).bind fun v19=>
 some v19
noncomputable def zED (a1:Pack):Option Pack:=
 (vV a1.Version).bind fun x2=>
 (zB2 a1.Provides).bind fun x4=>
 (zCk a1.Needs).bind fun x6=>
 (zBb a1.Bars).bind fun x8=>
 some ({Name:=a1.Name,Version:=x2,Size:=a1.Size,Provides:=x4,Needs:=x6,Bars:=x8}:Pack)
noncomputable def zE1 (a1:(List Pack)) (s11:((List Pack)×Int)):Option (Lp ((List Pack)×Int) (List Pack)):=
 if decide (s11.2< (a1.length:Int)) then
  ((idx a1 s11.2).bind fun x13=>
  (zED x13).bind fun x15=>
  (idx s11.1 s11.2).bind fun x17=>
  some (Lp.go (s11.1.set s11.2.toNat x15,w64 (s11.2+1))))
 else
  (some (Lp.done s11.1))
noncomputable def zD5 (a1:(List Pack)):((List Pack)×Int)→Option (List Pack):=loop (zE1 a1)
noncomputable def zDu (a1:(List Pack)):Option (List Pack):=
 (mk 120 (a1.length:Int) ({Name:=ByteArray.empty,Version:=({A:=0,B:=0,C:=0}:Version),Size:=0,Provides:=([]:List ByteArray),Needs:=([]:List (List Term)),Bars:=([]:List Term)}:Pack)).bind fun x2=>
 (zD5 a1 (x2,0)).bind fun v19=>
 some v19
noncomputable def zE3 (a1:(List Int)) (s9:((List Int)×Int)):Option (Lp ((List Int)×Int) (List Int)):=
 if decide (s9.2< (a1.length:Int)) then
  ((idx a1 s9.2).bind fun x11=>
  (idx s9.1 s9.2).bind fun x13=>
  some (Lp.go (s9.1.set s9.2.toNat x11,w64 (s9.2+1))))
 else
  (some (Lp.done s9.1))
noncomputable def zDq (a1:(List Int)):((List Int)×Int)→Option (List Int):=loop (zE3 a1)
noncomputable def zDo (a1:(List Int)):Option (List Int):=
 (mk 1 (a1.length:Int) 0).bind fun x2=>
 (zDq a1 (x2,0)).bind fun v15=>
 some v15
noncomputable def zE6 (a1:File):Option File:=
 (zDo a1.Data).bind fun x2=>
 some ({Path:=a1.Path,Data:=x2}:File)
noncomputable def zEy (a1:(List File)) (s11:((List File)×Int)):Option (Lp ((List File)×Int) (List File)):=
 if decide (s11.2< (a1.length:Int)) then
  ((idx a1 s11.2).bind fun x13=>
  (zE6 x13).bind fun x15=>
  (idx s11.1 s11.2).bind fun x17=>
  some (Lp.go (s11.1.set s11.2.toNat x15,w64 (s11.2+1))))
 else
  (some (Lp.done s11.1))
noncomputable def zD7 (a1:(List File)):((List File)×Int)→Option (List File):=loop (zEy a1)
noncomputable def zDs (a1:(List File)):Option (List File):=
 (mk 40 (a1.length:Int) ({Path:=ByteArray.empty,Data:=([]:List Int)}:File)).bind fun x2=>
 (zD7 a1 (x2,0)).bind fun v19=>
 some v19
noncomputable def zEA (a1:zD):Option zD:=
 (zDs a1.Files).bind fun x2=>
 some ({Files:=x2,Budget:=a1.Budget,Writes:=a1.Writes,Stop:=a1.Stop,Down:=a1.Down}:zD)
noncomputable def vK (a1:System):Option System:=
 (zDu a1.Catalog).bind fun x2=>
 (zEA a1.zD).bind fun x4=>
 some ({Catalog:=x2,zD:=x4}:System)
noncomputable def vY (a1:Int):Option Bool:=
 if decide (a1≥97) then
  (some (decide (a1≤122)))
 else
  (some false)
noncomputable def uD (a1:Int):Option Bool:=
 if decide (a1≥48) then
  (some (decide (a1≤57)))
 else
  (some false)
noncomputable def vO (a1:Int):Option Bool:=
 (vY a1).bind fun x2=>
 if x2 then
  (some true)
 else
  ((uD a1).bind fun x5=>
  if x5 then
   (some true)
  else
   (some (a1==95)))
noncomputable def zCT (a1:ByteArray) (s16:Int):Option (Lp Int (Fl Int Unit)):=
 if decide (s16< (a1.size:Int)) then
  ((bidx a1 s16).bind fun x18=>
  (vO x18).bind fun x20=>
  if !x20 then
   (some (Lp.done (Fl.ret 5)))
  else
   (some (Lp.go (w64 (s16+1)))))
 else
  (some (Lp.done (Fl.nxt ())))
noncomputable def kY (a1:ByteArray):Int→Option (Fl Int Unit):=loop (zCT a1)
noncomputable def vD (a1:ByteArray):Option Int:=
 (if decide ((a1.size:Int)<1) then
   (some true)
  else
   (if decide ((a1.size:Int)>12) then
    (some true)
   else
    ((bidx a1 0).bind fun x4=>
    (vY x4).bind fun x6=>
    some (!x6)))).bind fun v8=>
 if v8 then
  (some 5)
 else
  ((kY a1 0).bind (Fl.go some fun v23=>
  some 0))
noncomputable def wP (a1:Int) (a2:Int) (a3:Int):Option Bool:=
 if decide (a1≥a2) then
  (some (decide (a1≤a3)))
 else
  (some false)
noncomputable def wJ (a1:Version):Option Int:=
 (wP a1.A 0 999).bind fun x2=>
 (if !x2 then
   (some true)
  else
   ((wP a1.B 0 999).bind fun x5=>
   if !x5 then
    (some true)
   else
    ((wP a1.C 0 999).bind fun x8=>
    some (!x8)))).bind fun v10=>
 if v10 then
  (some 3)
 else
  (some 0)
noncomputable def zC2 (a1:(List ByteArray)) (a2:ByteArray) (s7:Int):Option (Lp Int (Fl Bool Unit)):=
 if decide (s7< (a1.length:Int)) then
  ((idx a1 s7).bind fun x9=>
  if seq x9 a2 then
   (some (Lp.done (Fl.ret true)))
  else
   (some (Lp.go (w64 (s7+1)))))
 else
  (some (Lp.done (Fl.nxt ())))
noncomputable def zD4 (a1:(List ByteArray)) (a2:ByteArray):Int→Option (Fl Bool Unit):=loop (zC2 a1 a2)
noncomputable def kU (a1:(List ByteArray)) (a2:ByteArray):Option Bool:=
 (zD4 a1 a2 0).bind (Fl.go some fun v12=>
 some false)
noncomputable def zAe:Option Version:=
 some ({A:=1000,B:=0,C:=0}:Version)
noncomputable def zAt (a1:Int) (a2:Int):Option Int:=
 if decide (a1<a2) then
  (some (-1))
 else
  (if decide (a1>a2) then
   (some 1)
  else
   (some 0))
noncomputable def yF (a1:Version) (a2:Version):Option Int:=
 (zAt a1.A a2.A).bind fun x3=>
 if x3 !=0 then
  (some x3)
 else
  ((zAt a1.B a2.B).bind fun x6=>
  if x6 !=0 then
   (some x6)
  else
   ((zAt a1.C a2.C).bind fun x9=>
   some x9))
noncomputable def vU (a1:Term):Option Int:=
 (vD a1.Name).bind fun x2=>
 if x2 !=0 then
  (some x2)
 else
  ((wJ a1.Low).bind fun x5=>
  if x5 !=0 then
   (some x5)
  else
   ((zAe).bind fun x8=>
   (if !(a1.High.A==x8.A&&(a1.High.B==x8.B&&(a1.High.C==x8.C&&true))) then
     ((wJ a1.High).bind fun x11=>
     some (x11 !=0))
    else
     (some false)).bind fun v13=>
   if v13 then
    (some 3)
   else
    ((yF a1.Low a1.High).bind fun x15=>
    if decide (x15≥0) then
     (some 1)
    else
     (some 0))))
noncomputable def zCA (a1:(List Term)) (s8:Int):Option (Lp Int (Fl Int Unit)):=
 if decide (s8< (a1.length:Int)) then
  ((idx a1 s8).bind fun x10=>
  (vU x10).bind fun x12=>
  if x12 !=0 then
   (some (Lp.done (Fl.ret x12)))
  else
   (some (Lp.go (w64 (s8+1)))))
 else
  (some (Lp.done (Fl.nxt ())))
noncomputable def zDB (a1:(List Term)):Int→Option (Fl Int Unit):=loop (zCA a1)
noncomputable def kQ (a1:(List Term)):Option Int:=
 (zDB a1 0).bind (Fl.go some fun v15=>
 some 0)
noncomputable def zAN (a1:Pack) (s70:Int):Option (Lp Int (Fl Int Unit)):=
 if decide (s70< (a1.Needs.length:Int)) then
  ((idx a1.Needs s70).bind fun x72=>
  if (x72.length:Int)==0 then
   (some (Lp.done (Fl.ret 1)))
  else
   ((idx a1.Needs s70).bind fun x75=>
   (kQ x75).bind fun x77=>
   if x77 !=0 then
    (some (Lp.done (Fl.ret x77)))
   else
    (some (Lp.go (w64 (s70+1))))))
 else
  (some (Lp.done (Fl.nxt ())))
noncomputable def zAg (a1:Pack):Int→Option (Fl Int Unit):=loop (zAN a1)
noncomputable def zBh (a1:Pack) (s42:Int):Option (Lp Int (Fl Int Unit)):=
 if decide (s42< (a1.Provides.length:Int)) then
  ((idx a1.Provides s42).bind fun x44=>
  (vD x44).bind fun x46=>
  if x46 !=0 then
   (some (Lp.done (Fl.ret x46)))
  else
   ((idx a1.Provides s42).bind fun x49=>
   (if seq x49 a1.Name then
     (some true)
    else
     ((zHx a1.Provides 0 s42).bind fun x52=>
     (idx a1.Provides s42).bind fun x54=>
     (kU x52 x54).bind fun x56=>
     some x56)).bind fun v58=>
   if v58 then
    (some (Lp.done (Fl.ret 6)))
   else
    (some (Lp.go (w64 (s42+1))))))
 else
  (some (Lp.done (Fl.nxt ())))
noncomputable def zAi (a1:Pack):Int→Option (Fl Int Unit):=loop (zBh a1)
noncomputable def zBf (a1:Pack) (s19:Int):Option (Lp Int (Fl Int Unit)):=
 if decide (s19< (a1.Needs.length:Int)) then
  ((idx a1.Needs s19).bind fun x21=>
  if decide ((x21.length:Int)>4) then
   (some (Lp.done (Fl.ret 2)))
  else
   (some (Lp.go (w64 (s19+1)))))
 else
  (some (Lp.done (Fl.nxt ())))
noncomputable def zBI (a1:Pack):Int→Option (Fl Int Unit):=loop (zBf a1)
noncomputable def zB8 (a1:Pack):Option Int:=
 (vD a1.Name).bind fun x2=>
 if x2 !=0 then
  (some x2)
 else
  ((wJ a1.Version).bind fun x5=>
  if x5 !=0 then
   (some x5)
  else
   ((wP a1.Size 1 200).bind fun x8=>
   if !x8 then
    (some 3)
   else
    ((if decide ((a1.Provides.length:Int)>4) then
       (some true)
      else
       (if decide ((a1.Needs.length:Int)>4) then
        (some true)
       else
        (some (decide ((a1.Bars.length:Int)>4))))).bind fun v13=>
    if v13 then
     (some 2)
    else
     ((zBI a1 0).bind (Fl.go some fun v24=>
     (zAi a1 0).bind (Fl.go some fun v60=>
     (zAg a1 0).bind (Fl.go some fun v80=>
     (kQ a1.Bars).bind fun x81=>
     some x81)))))))
noncomputable def zCW (a1:(List Pack)) (a2:ByteArray) (a3:Version) (s14:Int):Option (Lp Int (Fl Int Unit)):=
 if decide (s14< (a1.length:Int)) then
  ((idx a1 s14).bind fun x16=>
  (if seq x16.Name a2 then
    ((idx a1 s14).bind fun x19=>
    (yF x19.Version a3).bind fun x21=>
    some (x21==0))
   else
    (some false)).bind fun v23=>
  if v23 then
   (some (Lp.done (Fl.ret s14)))
  else
   (some (Lp.go (w64 (s14+1)))))
 else
  (some (Lp.done (Fl.nxt ())))
noncomputable def zEs (a1:(List Pack)) (a2:ByteArray) (a3:Version):Int→Option (Fl Int Unit):=loop (zCW a1 a2 a3)
noncomputable def zAo (a1:(List Pack)) (a2:ByteArray) (a3:Version):Option Int:=
 (zEs a1 a2 a3 0).bind (Fl.go some fun v25=>
 some (-1))
noncomputable def jJ (a1:(List Pack)) (s18:Int):Option (Lp Int (Fl Int Unit)):=
 if decide (s18< (a1.length:Int)) then
  ((idx a1 s18).bind fun x20=>
  (zB8 x20).bind fun x22=>
  if x22 !=0 then
   (some (Lp.done (Fl.ret x22)))
  else
   ((zHx a1 0 s18).bind fun x25=>
   (idx a1 s18).bind fun x27=>
   (idx a1 s18).bind fun x29=>
   (zAo x25 x27.Name x29.Version).bind fun x31=>
   if decide (x31≥0) then
    (some (Lp.done (Fl.ret 6)))
   else
    (some (Lp.go (w64 (s18+1))))))
 else
  (some (Lp.done (Fl.nxt ())))
noncomputable def kC (a1:(List Pack)):Int→Option (Fl Int Unit):=loop (jJ a1)
noncomputable def tF (a1:(List Pack)):Option Int:=
 if decide ((a1.length:Int)>24) then
  (some 2)
 else
  ((kC a1 0).bind (Fl.go some fun v34=>
  some 0))
noncomputable def zEN (a1:Int):Option Bool:=
 (vO a1).bind fun x2=>
 if x2 then
  (some true)
 else
  (if a1==46 then
   (some true)
  else
   (if a1==45 then
    (some true)
   else
    (some (a1==47))))
noncomputable def jP (a1:ByteArray) (s11:Int):Option (Lp Int (Fl Int Unit)):=
 if decide (s11< (a1.size:Int)) then
  ((bidx a1 s11).bind fun x13=>
  (zEN x13).bind fun x15=>
  if !x15 then
   (some (Lp.done (Fl.ret 5)))
  else
   (some (Lp.go (w64 (s11+1)))))
 else
  (some (Lp.done (Fl.nxt ())))
noncomputable def tN (a1:ByteArray):Int→Option (Fl Int Unit):=loop (jP a1)
noncomputable def vT (a1:ByteArray):Option Int:=
 (if decide ((a1.size:Int)<1) then
   (some true)
  else
   (some (decide ((a1.size:Int)>40)))).bind fun v3=>
 if v3 then
  (some 5)
 else
  ((tN a1 0).bind (Fl.go some fun v18=>
  some 0))
noncomputable def zCv (a1:zD) (s5:(Int×Int)):Option (Lp (Int×Int) Int):=
 if decide (s5.2< (a1.Files.length:Int)) then
  ((idx a1.Files s5.2).bind fun x7=>
  some (Lp.go (w64 (s5.1+(x7.Data.length:Int)),w64 (s5.2+1))))
 else
  (some (Lp.done s5.1))
noncomputable def zDv (a1:zD):(Int×Int)→Option Int:=loop (zCv a1)
noncomputable def zDL (a1:zD):Option Int:=
 (zDv a1 (0,0)).bind fun v9=>
 some v9
noncomputable def jS (a1:zD) (s29:Int):Option (Lp Int (Fl Int Unit)):=
 if decide (s29< (a1.Files.length:Int)) then
  ((idx a1.Files s29).bind fun x31=>
  (vT x31.Path).bind fun x33=>
  if x33 !=0 then
   (some (Lp.done (Fl.ret x33)))
  else
   ((if decide (s29>0) then
      ((idx a1.Files s29).bind fun x37=>
      (idx a1.Files (w64 (s29-1))).bind fun x39=>
      some (slt x37.Path x39.Path||seq x37.Path x39.Path))
     else
      (some false)).bind fun v41=>
   if v41 then
    (some (Lp.done (Fl.ret 1)))
   else
    ((idx a1.Files s29).bind fun x43=>
    if decide ((x43.Data.length:Int)>4000) then
     (some (Lp.done (Fl.ret 2)))
    else
     (some (Lp.go (w64 (s29+1)))))))
 else
  (some (Lp.done (Fl.nxt ())))
noncomputable def tT (a1:zD):Int→Option (Fl Int Unit):=loop (jS a1)
noncomputable def vC (a1:zD):Option Int:=
 (wP a1.Budget 0 20000).bind fun x2=>
 (if !x2 then
   (some true)
  else
   ((wP a1.Writes 0 1000000000).bind fun x5=>
   if !x5 then
    (some true)
   else
    ((wP a1.Stop (-1) 1000000000).bind fun x8=>
    some (!x8)))).bind fun v10=>
 if v10 then
  (some 3)
 else
  (if decide ((a1.Files.length:Int)>120) then
   (some 2)
  else
   ((tT a1 0).bind (Fl.go some fun v46=>
   (zDL a1).bind fun x47=>
   if decide (x47>a1.Budget) then
    (some 8)
   else
    (some 0))))
noncomputable def zAP (a1:(List Pack)) (a2:zD):Option Int:=
 (tF a1).bind fun x3=>
 if x3 !=0 then
  (some x3)
 else
  ((vC a2).bind fun x6=>
  some x6)
noncomputable def zDF (a1:zD) (a2:ByteArray) (s7:Int):Option (Lp Int (Fl Int Unit)):=
 if decide (s7< (a1.Files.length:Int)) then
  ((idx a1.Files s7).bind fun x9=>
  if seq x9.Path a2 then
   (some (Lp.done (Fl.ret s7)))
  else
   (some (Lp.go (w64 (s7+1)))))
 else
  (some (Lp.done (Fl.nxt ())))
noncomputable def zEl (a1:zD) (a2:ByteArray):Int→Option (Fl Int Unit):=loop (zDF a1 a2)
noncomputable def wQ (a1:zD) (a2:ByteArray):Option Int:=
 (zEl a1 a2 0).bind (Fl.go some fun v12=>
 some (-1))
noncomputable def zBJ (a1:ByteArray) (s14:(Int×Int)):Option (Lp (Int×Int) (Fl (Int×Bool) Int)):=
 if decide (s14.2< (a1.size:Int)) then
  ((bidx a1 s14.2).bind fun x16=>
  (uD x16).bind fun x18=>
  if !x18 then
   (some (Lp.done (Fl.ret (0,false))))
  else
   ((bidx a1 s14.2).bind fun x21=>
   some (Lp.go (w64 ((w64 (s14.1*10))+(w64 (IntKind.u8.wrap (x21-48)))),w64 (s14.2+1)))))
 else
  (some (Lp.done (Fl.nxt s14.1)))
noncomputable def zCH (a1:ByteArray):(Int×Int)→Option (Fl (Int×Bool) Int):=loop (zBJ a1)
noncomputable def uN (a1:ByteArray) (a2:Int):Option (Int×Bool):=
 (if decide ((a1.size:Int)<1) then
   (some true)
  else
   (some (decide ((a1.size:Int)>a2)))).bind fun v4=>
 if v4 then
  (some (0,false))
 else
  ((zCH a1 (0,0)).bind (Fl.go some fun v23=>
  some (v23,true)))
noncomputable def kN (a1:ByteArray) (a2:ByteArray):Option Bool:=
 if decide ((a1.size:Int)≥(a2.size:Int)) then
  ((zFS a1 0 (a2.size:Int)).bind fun x4=>
  some (seq x4 a2))
 else
  (some false)
noncomputable def zAG (a1:zD) (a2:ByteArray) (s14:((List ByteArray)×Int)):Option (Lp ((List ByteArray)×Int) (List ByteArray)):=
 if decide (s14.2< (a1.Files.length:Int)) then
  ((idx a1.Files s14.2).bind fun x16=>
  (kN x16.Path a2).bind fun x18=>
  (if x18 then
    ((idx a1.Files s14.2).bind fun x21=>
    (app 16 s14.1 [x21.Path]).bind fun x23=>
    some x23)
   else
    (some s14.1)).bind fun v25=>
  some (Lp.go (v25,w64 (s14.2+1))))
 else
  (some (Lp.done s14.1))
noncomputable def zAn (a1:zD) (a2:ByteArray):((List ByteArray)×Int)→Option (List ByteArray):=loop (zAG a1 a2)
noncomputable def zBj (a1:zD) (a2:ByteArray):Option (List ByteArray):=
 (zAn a1 a2 (([]:List ByteArray),0)).bind fun v26=>
 some v26
noncomputable def uX (g:Int→Option ByteArray) (s:Int):Option ByteArray:=
 match s with
 |a1=>
 if decide (a1<10) then
  (some (b2s [IntKind.u8.wrap (w64 (48+a1))]))
 else
  ((g (w64 (a1.tdiv 10))).bind fun x3=>
  (cat x3 (b2s [IntKind.u8.wrap (w64 (48+(a1.tmod 10)))])).bind fun x5=>
  some x5)
noncomputable def vB (a1:Int):Option ByteArray:=zRm uX 64 a1
noncomputable def jE (a1:Int):Option ByteArray:=
 (wP a1 1 999999).bind fun x2=>
 if !x2 then
  (some (bs []))
 else
  ((vB (w64 (1000000+a1))).bind fun x5=>
  (zFS x5 1 (x5.size:Int)).bind fun x7=>
  (cat (bs [103,101,110,47]) x7).bind fun x9=>
  some x9)
noncomputable def zD0 (a1:zD) (x2:(List ByteArray)) (s21:((List Int)×Int)):Option (Lp ((List Int)×Int) (List Int)):=
 if decide (s21.2< (x2.length:Int)) then
  ((idx x2 s21.2).bind fun x23=>
  (zFS x23 4 (x23.size:Int)).bind fun x25=>
  (uN x25 6).bind fun x27=>
  (if x27.2 then
    ((jE x27.1).bind fun x30=>
    (idx x2 s21.2).bind fun x32=>
    some (seq x30 x32))
   else
    (some false)).bind fun v34=>
  (if v34 then
    ((app 8 s21.1 [x27.1]).bind fun x36=>
    some x36)
   else
    (some s21.1)).bind fun v38=>
  some (Lp.go (v38,w64 (s21.2+1))))
 else
  (some (Lp.done s21.1))
noncomputable def zEr (a1:zD) (x2:(List ByteArray)):((List Int)×Int)→Option (List Int):=loop (zD0 a1 x2)
noncomputable def zCp (a1:zD):Option (List Int):=
 (zBj a1 (bs [103,101,110,47])).bind fun x2=>
 (zEr a1 x2 (([]:List Int),0)).bind fun v39=>
 some v39
noncomputable def zEm (a1:(List Int)) (a2:Int) (s7:Int):Option (Lp Int (Fl Bool Unit)):=
 if decide (s7< (a1.length:Int)) then
  ((idx a1 s7).bind fun x9=>
  if x9==a2 then
   (some (Lp.done (Fl.ret true)))
  else
   (some (Lp.go (w64 (s7+1)))))
 else
  (some (Lp.done (Fl.nxt ())))
noncomputable def zEZ (a1:(List Int)) (a2:Int):Int→Option (Fl Bool Unit):=loop (zEm a1 a2)
noncomputable def zBK (a1:(List Int)) (a2:Int):Option Bool:=
 (zEZ a1 a2 0).bind (Fl.go some fun v12=>
 some false)
noncomputable def zB1 (a1:zD):Option Int:=
 (wQ a1 (bs [99,117,114])).bind fun x2=>
 if decide (x2<0) then
  (some 0)
 else
  ((idx a1.Files x2).bind fun x5=>
  (uN (b2s x5.Data) 6).bind fun x7=>
  (if !x7.2 then
    (some true)
   else
    ((zCp a1).bind fun x10=>
    (zBK x10 x7.1).bind fun x12=>
    some (!x12))).bind fun v14=>
  if v14 then
   (some 0)
  else
   (some x7.1))
noncomputable def zCx (a1:ByteArray) (a2:Int) (s14:((List ByteArray)×Int×Int)):Option (Lp ((List ByteArray)×Int×Int) (List ByteArray)):=
 if decide (s14.2.2≤(a1.size:Int)) then
  ((if s14.2.2==(a1.size:Int) then
     (some true)
    else
     ((bidx a1 s14.2.2).bind fun x17=>
     some (x17==a2))).bind fun v19=>
  (if v19 then
    ((zFS a1 s14.2.1 s14.2.2).bind fun x21=>
    (app 16 s14.1 [x21]).bind fun x23=>
    some (x23,w64 (s14.2.2+1)))
   else
    (some (s14.1,s14.2.1))).bind fun v25=>
  some (Lp.go (v25.1,v25.2,w64 (s14.2.2+1))))
 else
  (some (Lp.done s14.1))
noncomputable def zDK (a1:ByteArray) (a2:Int):((List ByteArray)×Int×Int)→Option (List ByteArray):=loop (zCx a1 a2)
noncomputable def jI (a1:ByteArray) (a2:Int):Option (List ByteArray):=
 (zDK a1 a2 (([]:List ByteArray),0,0)).bind fun v26=>
 some v26
noncomputable def zBg (a1:ByteArray):Option (List ByteArray):=
 (jI a1 10).bind fun x2=>
 (idx x2 (w64 ((x2.length:Int)-1))).bind fun x4=>
 (if seq x4 (bs []) then
   ((zHx x2 0 (w64 ((x2.length:Int)-1))).bind fun x7=>
   some x7)
  else
   (some x2)).bind fun v9=>
 some v9
noncomputable def zC5 (x2:(List ByteArray)) (s13:((List ByteArray)×Int)):Option (Lp ((List ByteArray)×Int) (List ByteArray)):=
 if decide (s13.2< (x2.length:Int)) then
  ((idx x2 s13.2).bind fun x15=>
  (if !(seq x15 (bs [])) then
    ((idx x2 s13.2).bind fun x18=>
    (app 16 s13.1 [x18]).bind fun x20=>
    some x20)
   else
    (some s13.1)).bind fun v22=>
  some (Lp.go (v22,w64 (s13.2+1))))
 else
  (some (Lp.done s13.1))
noncomputable def zDh (x2:(List ByteArray)):((List ByteArray)×Int)→Option (List ByteArray):=loop (zC5 x2)
noncomputable def zDM (a1:ByteArray):Option (List ByteArray):=
 (jI a1 32).bind fun x2=>
 (zDh x2 (([]:List ByteArray),0)).bind fun v23=>
 some v23
noncomputable def jG (x2:(List ByteArray)) (s13:((List Int)×Int)):Option (Lp ((List Int)×Int) (Fl zN (List Int))):=
 if decide (s13.2< (x2.length:Int)) then
  ((idx x2 s13.2).bind fun x15=>
  (uN x15 3).bind fun x17=>
  if !x17.2 then
   (some (Lp.done (Fl.ret ({Code:=5,Version:=({A:=0,B:=0,C:=0}:Version)}:zN))))
  else
   ((idx s13.1 s13.2).bind fun x20=>
   some (Lp.go (s13.1.set s13.2.toNat x17.1,w64 (s13.2+1)))))
 else
  (some (Lp.done (Fl.nxt s13.1)))
noncomputable def kI (x2:(List ByteArray)):((List Int)×Int)→Option (Fl zN (List Int)):=loop (jG x2)
noncomputable def xW (a1:ByteArray):Option zN:=
 (jI a1 46).bind fun x2=>
 if decide ((x2.length:Int)>3) then
  (some ({Code:=5,Version:=({A:=0,B:=0,C:=0}:Version)}:zN))
 else
  ((kI x2 ([0,0,0],0)).bind (Fl.go some fun v22=>
  (idx v22 0).bind fun x23=>
  (idx v22 1).bind fun x25=>
  (idx v22 2).bind fun x27=>
  some ({Code:=0,Version:=({A:=x23,B:=x25,C:=x27}:Version)}:zN)))
noncomputable def zEk (a1:(List Int)) (a2:Int) (s16:((List Int)×Bool×Int)):Option (Lp ((List Int)×Bool×Int) ((List Int)×Bool)):=
 if decide (s16.2.2< (a1.length:Int)) then
  ((idx a1 s16.2.2).bind fun x18=>
  (if decide (x18>a2) then
    (some (!s16.2.1))
   else
    (some false)).bind fun v21=>
  (if v21 then
    ((app 8 s16.1 [a2]).bind fun x23=>
    some (x23,true))
   else
    (some (s16.1,s16.2.1))).bind fun v25=>
  (idx a1 s16.2.2).bind fun x26=>
  (app 8 v25.1 [x26]).bind fun x28=>
  some (Lp.go (x28,v25.2,w64 (s16.2.2+1))))
 else
  (some (Lp.done (s16.1,s16.2.1)))
noncomputable def zFh (a1:(List Int)) (a2:Int):((List Int)×Bool×Int)→Option ((List Int)×Bool):=loop (zEk a1 a2)
noncomputable def zEQ (a1:(List Int)) (a2:Int):Option (List Int):=
 (zFh a1 a2 (([]:List Int),false,0)).bind fun v30=>
 (if !v30.2 then
   ((app 8 v30.1 [a2]).bind fun x32=>
   some x32)
  else
   (some v30.1)).bind fun v34=>
 some v34
noncomputable def zAI (a1:(List Pack)) (x4:(List ByteArray)) (s29:((List Int)×Int)):Option (Lp ((List Int)×Int) (Fl xK (List Int))):=
 if decide (s29.2< (x4.length:Int)) then
  ((idx x4 s29.2).bind fun x31=>
  (zDM x31).bind fun x33=>
  (if (x33.length:Int)==2 then
    ((idx x33 1).bind fun x36=>
    (xW x36).bind fun x38=>
    if x38.Code==0 then
     ((idx x33 0).bind fun x41=>
     (zAo a1 x41 x38.Version).bind fun x43=>
     some x43)
    else
     (some (-1)))
   else
    (some (-1))).bind fun v45=>
  (if decide (v45<0) then
    (some true)
   else
    ((zBK s29.1 v45).bind fun x47=>
    some x47)).bind fun v49=>
  if v49 then
   (some (Lp.done (Fl.ret ({Code:=5,At:=s29.2,Set:=([]:List Int)}:xK))))
  else
   ((zEQ s29.1 v45).bind fun x51=>
   some (Lp.go (x51,w64 (s29.2+1)))))
 else
  (some (Lp.done (Fl.nxt s29.1)))
noncomputable def zDd (a1:(List Pack)) (x4:(List ByteArray)):((List Int)×Int)→Option (Fl xK (List Int)):=loop (zAI a1 x4)
noncomputable def zCZ (a1:(List Pack)) (a2:ByteArray):Option xK:=
 if decide ((a2.size:Int)>4000) then
  (some ({Code:=2,At:=0,Set:=([]:List Int)}:xK))
 else
  ((zBg a2).bind fun x4=>
  (zDd a1 x4 (([]:List Int),0)).bind (Fl.go some fun v53=>
  some ({Code:=0,At:=0,Set:=v53}:xK)))
noncomputable def zFt (a1:(List Pack)) (a2:zD) (a3:Int):Option xK:=
 (zCp a2).bind fun x4=>
 (zBK x4 a3).bind fun x6=>
 if !x6 then
  (some ({Code:=4,At:=0,Set:=([]:List Int)}:xK))
 else
  ((jE a3).bind fun x9=>
  (wQ a2 x9).bind fun x11=>
  (idx a2.Files x11).bind fun x13=>
  (zCZ a1 (b2s x13.Data)).bind fun x15=>
  if x15.Code !=0 then
   (some ({Code:=x15.Code,At:=0,Set:=([]:List Int)}:xK))
  else
   (some x15))
noncomputable def zDH (a1:(List Pack)) (a2:zD):Option xK:=
 (zB1 a2).bind fun x3=>
 (zFt a1 a2 x3).bind fun x5=>
 some x5
noncomputable def kL (a1:Term) (a2:ByteArray) (a3:Version):Option Bool:=
 if seq a1.Name a2 then
  ((yF a3 a1.Low).bind fun x5=>
  if decide (x5≥0) then
   ((yF a3 a1.High).bind fun x8=>
   some (decide (x8<0)))
  else
   (some false))
 else
  (some false)
noncomputable def zDk (a1:Pack) (a2:Term):Option Bool:=
 if seq a2.Name a1.Name then
  ((kL a2 a2.Name a1.Version).bind fun x4=>
  some x4)
 else
  ((kU a1.Provides a2.Name).bind fun x6=>
  if x6 then
   ((kL a2 a2.Name a1.Version).bind fun x9=>
   some x9)
  else
   (some false))
noncomputable def zCF (a1:(List Pack)) (a2:(List Int)) (a3:Term) (a4:Int) (s17:Int):Option (Lp Int (Fl Bool Unit)):=
 if decide (s17< (a2.length:Int)) then
  ((idx a2 s17).bind fun x19=>
  (if x19 !=a4 then
    ((idx a2 s17).bind fun x22=>
    (idx a1 x22).bind fun x24=>
    (zDk x24 a3).bind fun x26=>
    some x26)
   else
    (some false)).bind fun v28=>
  if v28 then
   (some (Lp.done (Fl.ret true)))
  else
   (some (Lp.go (w64 (s17+1)))))
 else
  (some (Lp.done (Fl.nxt ())))
noncomputable def zDE (a1:(List Pack)) (a2:(List Int)) (a3:Term) (a4:Int):Int→Option (Fl Bool Unit):=loop (zCF a1 a2 a3 a4)
noncomputable def zBk (a1:(List Pack)) (a2:(List Int)) (a3:Term) (a4:Int):Option Bool:=
 (zDE a1 a2 a3 a4 0).bind (Fl.go some fun v30=>
 some false)
noncomputable def zEj (a1:(List Pack)) (a2:(List Int)) (a3:(List Term)) (s10:Int):Option (Lp Int (Fl Bool Unit)):=
 if decide (s10< (a3.length:Int)) then
  ((idx a3 s10).bind fun x12=>
  (zBk a1 a2 x12 (-1)).bind fun x14=>
  if x14 then
   (some (Lp.done (Fl.ret true)))
  else
   (some (Lp.go (w64 (s10+1)))))
 else
  (some (Lp.done (Fl.nxt ())))
noncomputable def zFi (a1:(List Pack)) (a2:(List Int)) (a3:(List Term)):Int→Option (Fl Bool Unit):=loop (zEj a1 a2 a3)
noncomputable def zFn (a1:(List Pack)) (a2:(List Int)) (a3:(List Term)):Option Bool:=
 (zFi a1 a2 a3 0).bind (Fl.go some fun v17=>
 some false)
noncomputable def zBU (a1:(List Pack)) (a2:(List Int)) (s82:((List zT)×Int)) (x86:Pack) (s147:((List zT)×Int)):Option (Lp ((List zT)×Int) (List zT)):=
 if decide (s147.2< (x86.Bars.length:Int)) then
  ((idx x86.Bars s147.2).bind fun x149=>
  (idx a2 s82.2).bind fun x151=>
  (zBk a1 a2 x149 x151).bind fun x153=>
  (if x153 then
    ((idx a2 s82.2).bind fun x156=>
    (app 24 s147.1 [({Kind:=3,Pack:=x156,At:=s147.2}:zT)]).bind fun x158=>
    some x158)
   else
    (some s147.1)).bind fun v160=>
  some (Lp.go (v160,w64 (s147.2+1))))
 else
  (some (Lp.done s147.1))
noncomputable def zCt (a1:(List Pack)) (a2:(List Int)) (s82:((List zT)×Int)) (x86:Pack):((List zT)×Int)→Option (List zT):=loop (zBU a1 a2 s82 x86)
noncomputable def zBW (a1:(List Pack)) (a2:(List Int)) (s82:((List zT)×Int)) (x86:Pack) (s121:((List zT)×Int)):Option (Lp ((List zT)×Int) (List zT)):=
 if decide (s121.2< (x86.Needs.length:Int)) then
  ((idx x86.Needs s121.2).bind fun x123=>
  (zFn a1 a2 x123).bind fun x125=>
  (if !x125 then
    ((idx a2 s82.2).bind fun x128=>
    (app 24 s121.1 [({Kind:=2,Pack:=x128,At:=s121.2}:zT)]).bind fun x130=>
    some x130)
   else
    (some s121.1)).bind fun v132=>
  some (Lp.go (v132,w64 (s121.2+1))))
 else
  (some (Lp.done s121.1))
noncomputable def zC0 (a1:(List Pack)) (a2:(List Int)) (s82:((List zT)×Int)) (x86:Pack):((List zT)×Int)→Option (List zT):=loop (zBW a1 a2 s82 x86)
noncomputable def zBZ (a1:(List Pack)) (a2:(List Int)) (s82:((List zT)×Int)) (x86:Pack) (s98:Int):Option (Lp Int (List zT)):=
 if decide (s98<s82.2) then
  ((idx a2 s98).bind fun x100=>
  (idx a1 x100).bind fun x102=>
  if seq x102.Name x86.Name then
   ((idx a2 s82.2).bind fun x105=>
   (app 24 s82.1 [({Kind:=1,Pack:=x105,At:=0}:zT)]).bind fun x107=>
   some (Lp.done x107))
  else
   (some (Lp.go (w64 (s98+1)))))
 else
  (some (Lp.done s82.1))
noncomputable def zAH (a1:(List Pack)) (a2:(List Int)) (s82:((List zT)×Int)) (x86:Pack):Int→Option (List zT):=loop (zBZ a1 a2 s82 x86)
noncomputable def zBG (a1:(List Pack)) (a2:(List Int)) (s82:((List zT)×Int)):Option (Lp ((List zT)×Int) (List zT)):=
 if decide (s82.2< (a2.length:Int)) then
  ((idx a2 s82.2).bind fun x84=>
  (idx a1 x84).bind fun x86=>
  (zAH a1 a2 s82 x86 0).bind fun v109=>
  (zC0 a1 a2 s82 x86 (v109,0)).bind fun v133=>
  (zCt a1 a2 s82 x86 (v133,0)).bind fun v161=>
  some (Lp.go (v161,w64 (s82.2+1))))
 else
  (some (Lp.done s82.1))
noncomputable def zCs (a1:(List Pack)) (a2:(List Int)):((List zT)×Int)→Option (List zT):=loop (zBG a1 a2)
noncomputable def zCh (a1:(List Pack)) (a2:(List Int)):Option (List zT):=
 (zCs a1 a2 (([]:List zT),0)).bind fun v162=>
 some v162
noncomputable def zDb (a1:(List Pack)) (a2:(List Int)):Option Bool:=
 (zCh a1 a2).bind fun x3=>
 some ((x3.length:Int)==0)
noncomputable def xX (a1:Version):Option ByteArray:=
 (wJ a1).bind fun x2=>
 if x2 !=0 then
  (some (bs []))
 else
  ((vB a1.A).bind fun x5=>
  (cat x5 (bs [46])).bind fun x7=>
  (vB a1.B).bind fun x9=>
  (cat x7 x9).bind fun x11=>
  (cat x11 (bs [46])).bind fun x13=>
  (vB a1.C).bind fun x15=>
  (cat x13 x15).bind fun x17=>
  some x17)
noncomputable def zEL (a1:Pack):Option ByteArray:=
 (cat (bs [112,107,103,47]) a1.Name).bind fun x2=>
 (cat x2 (bs [45])).bind fun x4=>
 (xX a1.Version).bind fun x6=>
 (cat x4 x6).bind fun x8=>
 some x8
noncomputable def zC3 (a1:Pack) (s13:(Int×(List Int)×Int)):Option (Lp (Int×(List Int)×Int) (List Int)):=
 if decide (s13.2.2<a1.Size) then
  ((app 1 s13.2.1 [IntKind.u8.wrap (s13.1.tmod 256)]).bind fun x15=>
  some (Lp.go (w64 ((w64 (31*(s13.1.tmod 256)))+7),x15,w64 (s13.2.2+1))))
 else
  (some (Lp.done s13.2.1))
noncomputable def zD3 (a1:Pack):(Int×(List Int)×Int)→Option (List Int):=loop (zC3 a1)
noncomputable def zCB (a1:Pack) (s5:(Int×Int)):Option (Lp (Int×Int) Int):=
 if decide (s5.2< (a1.Name.size:Int)) then
  ((bidx a1.Name s5.2).bind fun x7=>
  some (Lp.go (w64 (s5.1+(w64 (x7))),w64 (s5.2+1))))
 else
  (some (Lp.done s5.1))
noncomputable def zDI (a1:Pack):(Int×Int)→Option Int:=loop (zCB a1)
noncomputable def zDy (a1:Pack):Option (List Int):=
 (zDI a1 (w64 ((w64 (a1.Version.A+a1.Version.B))+a1.Version.C),0)).bind fun v9=>
 (zD3 a1 (v9,([]:List Int),0)).bind fun v17=>
 some v17
noncomputable def zFs (a1:(List Int)) (a2:(List Int)):Option Bool:=
 some (seq (b2s a1) (b2s a2))
noncomputable def zAT (a1:(List Pack)) (a2:zD) (a3:(List Int)) (s31:((List Int)×Int)):Option (Lp ((List Int)×Int) (List Int)):=
 if decide (s31.2< (a3.length:Int)) then
  ((idx a3 s31.2).bind fun x33=>
  (idx a1 x33).bind fun x35=>
  (zEL x35).bind fun x37=>
  (wQ a2 x37).bind fun x39=>
  (if decide (x39<0) then
    (some true)
   else
    ((idx a2.Files x39).bind fun x42=>
    (idx a3 s31.2).bind fun x44=>
    (idx a1 x44).bind fun x46=>
    (zDy x46).bind fun x48=>
    (zFs x42.Data x48).bind fun x50=>
    some (!x50))).bind fun v52=>
  (if v52 then
    ((idx a3 s31.2).bind fun x54=>
    (app 8 s31.1 [x54]).bind fun x56=>
    some x56)
   else
    (some s31.1)).bind fun v58=>
  some (Lp.go (v58,w64 (s31.2+1))))
 else
  (some (Lp.done s31.1))
noncomputable def zCc (a1:(List Pack)) (a2:zD) (a3:(List Int)):((List Int)×Int)→Option (List Int):=loop (zAT a1 a2 a3)
noncomputable def zBz (a1:(List Pack)) (a2:zD) (a3:(List Int)):Option (List Int):=
 (zCc a1 a2 a3 (([]:List Int),0)).bind fun v59=>
 some v59
noncomputable def zET (a1:ByteArray):Option Term:=
 (zAe).bind fun x2=>
 some ({Name:=a1,Low:=({A:=0,B:=0,C:=0}:Version),High:=x2}:Term)
noncomputable def zCJ (x20:Term) (x25:ByteArray) (s32:Int):Option (Lp Int Int):=
 (if decide (s32< (x25.size:Int)) then
   ((bidx x25 s32).bind fun x34=>
   some (x34 !=60))
  else
   (some false)).bind fun v36=>
 if v36 then
  (some (Lp.go (w64 (s32+1))))
 else
  (some (Lp.done s32))
noncomputable def zAd (x20:Term) (x25:ByteArray):Int→Option Int:=loop (zCJ x20 x25)
noncomputable def zCO (a1:ByteArray) (s9:Int):Option (Lp Int Int):=
 (if decide (s9< (a1.size:Int)) then
   ((bidx a1 s9).bind fun x11=>
   (vO x11).bind fun x13=>
   some x13)
  else
   (some false)).bind fun v15=>
 if v15 then
  (some (Lp.go (w64 (s9+1))))
 else
  (some (Lp.done s9))
noncomputable def zAh (a1:ByteArray):Int→Option Int:=loop (zCO a1)
noncomputable def zB6 (a1:ByteArray):Option xL:=
 (zAh a1 0).bind fun v17=>
 (zFS a1 0 v17).bind fun x18=>
 (zET x18).bind fun x20=>
 (vD x20.Name).bind fun x22=>
 if x22 !=0 then
  (some ({Code:=5,Term:=({Name:=ByteArray.empty,Low:=({A:=0,B:=0,C:=0}:Version),High:=({A:=0,B:=0,C:=0}:Version)}:Term)}:xL))
 else
  ((zFS a1 v17 (a1.size:Int)).bind fun x25=>
  (zAd x20 x25 0).bind fun v38=>
  (if decide (v38< (x25.size:Int)) then
    ((zFS x25 (w64 (v38+1)) (x25.size:Int)).bind fun x40=>
    (xW x40).bind fun x42=>
    if x42.Code !=0 then
     (some (Fl.ret ({Code:=5,Term:=({Name:=ByteArray.empty,Low:=({A:=0,B:=0,C:=0}:Version),High:=({A:=0,B:=0,C:=0}:Version)}:Term)}:xL)))
    else
     (some (Fl.nxt (x42.Version.A,x42.Version.B,x42.Version.C))))
   else
    (some (Fl.nxt (x20.High.A,x20.High.B,x20.High.C)))).bind (Fl.go some fun v45=>
  (zFS x25 0 v38).bind fun x46=>
  (if !(seq x46 (bs [])) then
    ((if decide ((x46.size:Int)<2) then
       (some true)
      else
       ((zFS x46 0 2).bind fun x50=>
       some (!(seq x50 (bs [62,61]))))).bind fun v52=>
    if v52 then
     (some (Fl.ret ({Code:=5,Term:=({Name:=ByteArray.empty,Low:=({A:=0,B:=0,C:=0}:Version),High:=({A:=0,B:=0,C:=0}:Version)}:Term)}:xL)))
    else
     ((zFS x46 2 (x46.size:Int)).bind fun x54=>
     (xW x54).bind fun x56=>
     if x56.Code !=0 then
      (some (Fl.ret ({Code:=5,Term:=({Name:=ByteArray.empty,Low:=({A:=0,B:=0,C:=0}:Version),High:=({A:=0,B:=0,C:=0}:Version)}:Term)}:xL)))
     else
      (some (Fl.nxt (x56.Version.A,x56.Version.B,x56.Version.C)))))
   else
    (some (Fl.nxt (x20.Low.A,x20.Low.B,x20.Low.C)))).bind (Fl.go some fun v59=>
  (vU ({Name:=x20.Name,Low:=({A:=v59.1,B:=v59.2.1,C:=v59.2.2}:Version),High:=({A:=v45.1,B:=v45.2.1,C:=v45.2.2}:Version)}:Term)).bind fun x60=>
  if x60 !=0 then
   (some ({Code:=x60,Term:=({Name:=ByteArray.empty,Low:=({A:=0,B:=0,C:=0}:Version),High:=({A:=0,B:=0,C:=0}:Version)}:Term)}:xL))
  else
   (some ({Code:=0,Term:=({Name:=x20.Name,Low:=({A:=v59.1,B:=v59.2.1,C:=v59.2.2}:Version),High:=({A:=v45.1,B:=v45.2.1,C:=v45.2.2}:Version)}:Term)}:xL)))))
noncomputable def zAy (a1:Term):Option ByteArray:=
 (vU a1).bind fun x2=>
 if x2 !=0 then
  (some (bs []))
 else
  ((yF a1.Low ({A:=0,B:=0,C:=0}:Version)).bind fun x5=>
  (if x5 !=0 then
    ((cat a1.Name (bs [62,61])).bind fun x8=>
    (xX a1.Low).bind fun x10=>
    (cat x8 x10).bind fun x12=>
    some x12)
   else
    (some a1.Name)).bind fun v14=>
  (zAe).bind fun x15=>
  (if !(a1.High.A==x15.A&&(a1.High.B==x15.B&&(a1.High.C==x15.C&&true))) then
    ((cat v14 (bs [60])).bind fun x18=>
    (xX a1.High).bind fun x20=>
    (cat x18 x20).bind fun x22=>
    some x22)
   else
    (some v14)).bind fun v24=>
  some v24)
noncomputable def zDp (a1:(List Term)) (s11:(ByteArray×Int)):Option (Lp (ByteArray×Int) ByteArray):=
 if decide (s11.2< (a1.length:Int)) then
  ((idx a1 s11.2).bind fun x13=>
  (zAy x13).bind fun x15=>
  (cat s11.1 x15).bind fun x17=>
  (cat x17 (bs [10])).bind fun x19=>
  some (Lp.go (x19,w64 (s11.2+1))))
 else
  (some (Lp.done s11.1))
noncomputable def zEq (a1:(List Term)):(ByteArray×Int)→Option ByteArray:=loop (zDp a1)
noncomputable def zE9 (a1:(List Term)):Option ByteArray:=
 (zEq a1 (bs [],0)).bind fun v21=>
 some v21
noncomputable def zCE (a1:ByteArray) (x2:(List ByteArray)) (s22:((List Term)×Int)) (x26:xL) (s33:Int):Option (Lp Int (Fl ((List Term)×Bool) Unit)):=
 if decide (s33< (s22.1.length:Int)) then
  ((idx s22.1 s33).bind fun x35=>
  if seq x35.Name x26.Term.Name then
   (some (Lp.done (Fl.ret (s22.1,false))))
  else
   (some (Lp.go (w64 (s33+1)))))
 else
  (some (Lp.done (Fl.nxt ())))
noncomputable def zDG (a1:ByteArray) (x2:(List ByteArray)) (s22:((List Term)×Int)) (x26:xL):Int→Option (Fl ((List Term)×Bool) Unit):=loop (zCE a1 x2 s22 x26)
noncomputable def zC6 (a1:ByteArray) (x2:(List ByteArray)) (s22:((List Term)×Int)):Option (Lp ((List Term)×Int) (Fl ((List Term)×Bool) (List Term))):=
 if decide (s22.2< (x2.length:Int)) then
  ((idx x2 s22.2).bind fun x24=>
  (zB6 x24).bind fun x26=>
  if x26.Code !=0 then
   (some (Lp.done (Fl.ret (s22.1,false))))
  else
   ((zDG a1 x2 s22 x26 0).bind (Fl.go (fun r=>some (Lp.done (Fl.ret r))) fun v38=>
   (app 64 s22.1 [x26.Term]).bind fun x39=>
   some (Lp.go (x39,w64 (s22.2+1))))))
 else
  (some (Lp.done (Fl.nxt s22.1)))
noncomputable def zDl (a1:ByteArray) (x2:(List ByteArray)):((List Term)×Int)→Option (Fl ((List Term)×Bool) (List Term)):=loop (zC6 a1 x2)
noncomputable def zD6 (a1:ByteArray):Option ((List Term)×Bool):=
 (zBg a1).bind fun x2=>
 (zDl a1 x2 (([]:List Term),0)).bind (Fl.go some fun v41=>
 if decide ((v41.length:Int)≤8) then
  ((zE9 v41).bind fun x43=>
  some (v41,seq x43 a1))
 else
  (some (v41,false)))
noncomputable def zEC (a1:zD):Option ((List Term)×Bool):=
 (wQ a1 (bs [114,111,111,116,115])).bind fun x2=>
 if decide (x2<0) then
  (some (([]:List Term),true))
 else
  ((idx a1.Files x2).bind fun x5=>
  (zD6 (b2s x5.Data)).bind fun x7=>
  some (x7.1,x7.2))
noncomputable def uW (a1:System):Option Int:=
 (zAP a1.Catalog a1.zD).bind fun x2=>
 if x2 !=0 then
  (some x2)
 else
  ((zDH a1.Catalog a1.zD).bind fun x5=>
  if x5.Code !=0 then
   (some x5.Code)
  else
   ((zDb a1.Catalog x5.Set).bind fun x8=>
   (if !x8 then
     (some true)
    else
     ((zBz a1.Catalog a1.zD x5.Set).bind fun x11=>
     some (decide ((x11.length:Int)>0)))).bind fun v13=>
   if v13 then
    (some 1)
   else
    ((zEC a1.zD).bind fun x15=>
    if !x15.2 then
     (some 5)
    else
     (some 0))))
noncomputable def zBO (a1:zD) (s20:((List File)×Int)):Option (Lp ((List File)×Int) (List File)):=
 if decide (s20.2< (a1.Files.length:Int)) then
  ((idx a1.Files s20.2).bind fun x22=>
  (idx a1.Files s20.2).bind fun x24=>
  (app 1 ([]:List Int) x24.Data).bind fun x26=>
  (app 40 s20.1 [({Path:=x22.Path,Data:=x26}:File)]).bind fun x28=>
  some (Lp.go (x28,w64 (s20.2+1))))
 else
  (some (Lp.done s20.1))
noncomputable def zBw (a1:zD):((List File)×Int)→Option (List File):=loop (zBO a1)
noncomputable def zCr (a1:zD):Option zD:=
 (zBw a1 (([]:List File),0)).bind fun v30=>
 some ({Files:=v30,Budget:=a1.Budget,Writes:=a1.Writes,Stop:=a1.Stop,Down:=a1.Down}:zD)
noncomputable def zES (a1:zD):Option wD:=
 (vC a1).bind fun x2=>
 if x2 !=0 then
  (some ({Code:=x2,zD:=({Files:=([]:List File),Budget:=0,Writes:=0,Stop:=0,Down:=false}:zD)}:wD))
 else
  ((zCr a1).bind fun x5=>
  some ({Code:=0,zD:=({Files:=x5.Files,Budget:=x5.Budget,Writes:=x5.Writes,Stop:=x5.Stop,Down:=true}:zD)}:wD))
noncomputable def zBS (a1:(List Pack)) (s46:((List Pack)×Int)) (x48:Pack) (x50:(List ByteArray)) (s74:((List (List Term))×Int)):Option (Lp ((List (List Term))×Int) (List (List Term))):=
 (idx a1 s46.2).bind fun x75=>
 if decide (s74.2< (x75.Needs.length:Int)) then
  ((idx a1 s46.2).bind fun x78=>
  (idx x78.Needs s74.2).bind fun x80=>
  (app 64 ([]:List Term) x80).bind fun x82=>
  (app 24 s74.1 [x82]).bind fun x84=>
  some (Lp.go (x84,w64 (s74.2+1))))
 else
  (some (Lp.done s74.1))
noncomputable def zCD (a1:(List Pack)) (s46:((List Pack)×Int)) (x48:Pack) (x50:(List ByteArray)):((List (List Term))×Int)→Option (List (List Term)):=loop (zBS a1 s46 x48 x50)
noncomputable def zBV (a1:(List Pack)) (s46:((List Pack)×Int)):Option (Lp ((List Pack)×Int) (List Pack)):=
 if decide (s46.2< (a1.length:Int)) then
  ((idx a1 s46.2).bind fun x48=>
  (app 16 ([]:List ByteArray) x48.Provides).bind fun x50=>
  (zCD a1 s46 x48 x50 (([]:List (List Term)),0)).bind fun v86=>
  (app 64 ([]:List Term) x48.Bars).bind fun x87=>
  (app 120 s46.1 [({Name:=x48.Name,Version:=x48.Version,Size:=x48.Size,Provides:=x50,Needs:=v86,Bars:=x87}:Pack)]).bind fun x89=>
  some (Lp.go (x89,w64 (s46.2+1))))
 else
  (some (Lp.done s46.1))
noncomputable def zC1 (a1:(List Pack)):((List Pack)×Int)→Option (List Pack):=loop (zBV a1)
noncomputable def kP (a1:(List Pack)):Option (List Pack):=
 (zC1 a1 (([]:List Pack),0)).bind fun v91=>
 some v91
noncomputable def zGB (a1:System) (a2:wD) (a3:Int):Option zC:=
 (if a2.Code !=0 then
   (if (a2.zD.Files.length:Int)==0 then
    (some (a2.Code !=9))
   else
    (some false))
  else
   (some false)).bind fun v6=>
 if v6 then
  (some ({Code:=a2.Code,Choices:=a3,System:=({Catalog:=([]:List Pack),zD:=({Files:=([]:List File),Budget:=0,Writes:=0,Stop:=0,Down:=false}:zD)}:System)}:zC))
 else
  ((kP a1.Catalog).bind fun x8=>
  some ({Code:=a2.Code,Choices:=a3,System:=({Catalog:=x8,zD:=a2.zD}:System)}:zC))
noncomputable def zEa (a1:System) (a2:wD) (a3:Int):Option zC:=
 (if a2.Code !=0 then
   (if (a2.zD.Files.length:Int)==0 then
    (some (a2.Code !=9))
   else
    (some false))
  else
   (some false)).bind fun v6=>
 if v6 then
  (some ({Code:=a2.Code,Choices:=a3,System:=({Catalog:=([]:List Pack),zD:=({Files:=([]:List File),Budget:=0,Writes:=0,Stop:=0,Down:=false}:zD)}:System)}:zC))
 else
  ((kP a1.Catalog).bind fun x8=>
  some ({Code:=a2.Code,Choices:=a3,System:=({Catalog:=x8,zD:=a2.zD}:System)}:zC))
noncomputable def kV (a1:System):Option zC:=
 (uW a1).bind fun x2=>
 if x2 !=0 then
  (some ({Code:=x2,Choices:=0,System:=({Catalog:=([]:List Pack),zD:=({Files:=([]:List File),Budget:=0,Writes:=0,Stop:=0,Down:=false}:zD)}:System)}:zC))
 else
  ((zES a1.zD).bind fun x5=>
  (zEa a1 x5 0).bind fun x7=>
  some x7)
noncomputable def wC (a1:Int):Option Bool:=
 if decide (a1≥97) then
  (if decide (a1≤122) then
   (some true)
  else
   (if decide (a1≥48) then
    (if decide (a1≤57) then
     (some true)
    else
     (some (a1==95)))
   else
    (some (a1==95))))
 else
  (if decide (a1≥48) then
   (if decide (a1≤57) then
    (some true)
   else
    (some (a1==95)))
  else
   (some (a1==95)))
noncomputable def zCQ (a1:ByteArray) (s17:Int):Option (Lp Int (Fl Int Unit)):=
 if decide (s17< (a1.size:Int)) then
  ((bidx a1 s17).bind fun x19=>
  (wC x19).bind fun x21=>
  if !x21 then
   (some (Lp.done (Fl.ret 5)))
  else
   (some (Lp.go (w64 (s17+1)))))
 else
  (some (Lp.done (Fl.nxt ())))
noncomputable def zAl (a1:ByteArray):Int→Option (Fl Int Unit):=loop (zCQ a1)
noncomputable def wZ (a1:ByteArray):Option Int:=
 (if decide ((a1.size:Int)<1) then
   (some true)
  else
   (if decide ((a1.size:Int)>12) then
    (some true)
   else
    ((bidx a1 0).bind fun x4=>
    if decide (x4<97) then
     (some true)
    else
     ((bidx a1 0).bind fun x7=>
     some (decide (x7>122)))))).bind fun v9=>
 if v9 then
  (some 5)
 else
  ((zAl a1 0).bind (Fl.go some fun v24=>
  some 0))
noncomputable def xZ (a1:Int) (a2:Int) (a3:Int):Option Bool:=
 if decide (a2≤a1) then
  (some (decide (a1≤a3)))
 else
  (some false)
noncomputable def wV (a1:Version):Option Int:=
 (xZ a1.A 0 999).bind fun x2=>
 (if !x2 then
   (some true)
  else
   ((xZ a1.B 0 999).bind fun x5=>
   if !x5 then
    (some true)
   else
    ((xZ a1.C 0 999).bind fun x8=>
    some (!x8)))).bind fun v10=>
 if v10 then
  (some 3)
 else
  (some 0)
noncomputable def zAL (a1:(List Int)) (s6:Int):Option (Lp Int (Fl Int Unit)):=
 if decide (s6< (a1.length:Int)) then
  ((idx a1 s6).bind fun x8=>
  if x8 !=0 then
   (some (Lp.done (Fl.ret x8)))
  else
   (some (Lp.go (w64 (s6+1)))))
 else
  (some (Lp.done (Fl.nxt ())))
noncomputable def zAa (a1:(List Int)):Int→Option (Fl Int Unit):=loop (zAL a1)
noncomputable def vS (a1:(List Int)):Option Int:=
 (zAa a1 0).bind (Fl.go some fun v11=>
 some 0)
noncomputable def zAJ (a1:(List Term)):Option Bool:=
 some (decide ((a1.length:Int)>4))
noncomputable def yK (a1:(List (List Term))) (s8:Int):Option (Lp Int (Fl Int Unit)):=
 if decide (s8< (a1.length:Int)) then
  ((idx a1 s8).bind fun x10=>
  (zAJ x10).bind fun x12=>
  if x12 then
   (some (Lp.done (Fl.ret s8)))
  else
   (some (Lp.go (w64 (s8+1)))))
 else
  (some (Lp.done (Fl.nxt ())))
noncomputable def yR (a1:(List (List Term))):Int→Option (Fl Int Unit):=loop (yK a1)
noncomputable def yG (a1:(List (List Term))):Option Int:=
 (yR a1 0).bind (Fl.go some fun v15=>
 some (-1))
noncomputable def zR (a1:(List (List Term))):Option Bool:=
 (yG a1).bind fun x2=>
 some (decide (x2≥0))
noncomputable def uE (a1:(List ByteArray)) (a2:ByteArray) (s7:Int):Option (Lp Int (Fl Int Unit)):=
 if decide (s7< (a1.length:Int)) then
  ((idx a1 s7).bind fun x9=>
  if seq a2 x9 then
   (some (Lp.done (Fl.ret s7)))
  else
   (some (Lp.go (w64 (s7+1)))))
 else
  (some (Lp.done (Fl.nxt ())))
noncomputable def uJ (a1:(List ByteArray)) (a2:ByteArray):Int→Option (Fl Int Unit):=loop (uE a1 a2)
noncomputable def uR (a1:(List ByteArray)) (a2:ByteArray):Option Int:=
 (uJ a1 a2 0).bind (Fl.go some fun v12=>
 some (-1))
noncomputable def wX (a1:(List ByteArray)) (a2:ByteArray):Option Bool:=
 (uR a1 a2).bind fun x3=>
 some (decide (x3≥0))
noncomputable def zDZ:Option Version:=
 some ({A:=1000,B:=0,C:=0}:Version)
noncomputable def jM (a1:Int):Option Bool:=
 some (a1 !=a1)
noncomputable def wW (a1:Int) (a2:Int):Option Int:=
 (jM a1).bind fun x3=>
 (jM a2).bind fun x5=>
 if x3 then
  (if x5 then
   (some 0)
  else
   (some (-1)))
 else
  (if x5 then
   (some 1)
  else
   (if decide (a1<a2) then
    (some (-1))
   else
    (if decide (a1>a2) then
     (some 1)
    else
     (some 0))))
noncomputable def zEg (a1:(List Int)) (s6:Int):Option (Lp Int (Fl Int Unit)):=
 if decide (s6< (a1.length:Int)) then
  ((idx a1 s6).bind fun x8=>
  if x8 !=0 then
   (some (Lp.done (Fl.ret x8)))
  else
   (some (Lp.go (w64 (s6+1)))))
 else
  (some (Lp.done (Fl.nxt ())))
noncomputable def zEW (a1:(List Int)):Int→Option (Fl Int Unit):=loop (zEg a1)
noncomputable def zFH (a1:(List Int)):Option Int:=
 (zEW a1 0).bind (Fl.go some fun v11=>
 some 0)
noncomputable def uV (a1:Version) (a2:Version):Option Int:=
 (wW a1.A a2.A).bind fun x3=>
 (wW a1.B a2.B).bind fun x5=>
 (wW a1.C a2.C).bind fun x7=>
 (zFH [x3,x5,x7]).bind fun x9=>
 some x9
noncomputable def vJ (a1:Term):Option Int:=
 (wZ a1.Name).bind fun x2=>
 if x2 !=0 then
  (some x2)
 else
  ((wV a1.Low).bind fun x5=>
  if x5 !=0 then
   (some x5)
  else
   ((zDZ).bind fun x8=>
   (if !(a1.High.A==x8.A&&(a1.High.B==x8.B&&(a1.High.C==x8.C&&true))) then
     ((wV a1.High).bind fun x11=>
     some (x11 !=0))
    else
     (some false)).bind fun v13=>
   if v13 then
    (some 3)
   else
    ((uV a1.Low a1.High).bind fun x15=>
    if decide (x15≥0) then
     (some 1)
    else
     (some 0))))
noncomputable def zA6 (a1:(List Term)) (s8:Int):Option (Lp Int (Fl Int Unit)):=
 if decide (s8< (a1.length:Int)) then
  ((idx a1 s8).bind fun x10=>
  (vJ x10).bind fun x12=>
  if x12 !=0 then
   (some (Lp.done (Fl.ret x12)))
  else
   (some (Lp.go (w64 (s8+1)))))
 else
  (some (Lp.done (Fl.nxt ())))
noncomputable def zAV (a1:(List Term)):Int→Option (Fl Int Unit):=loop (zA6 a1)
noncomputable def wY (a1:(List Term)):Option Int:=
 (zAV a1 0).bind (Fl.go some fun v15=>
 some 0)
noncomputable def zAZ (a1:Pack) (s54:Int):Option (Lp Int (Fl Int Unit)):=
 if decide (s54< (a1.Needs.length:Int)) then
  ((idx a1.Needs s54).bind fun x56=>
  if (x56.length:Int)==0 then
   (some (Lp.done (Fl.ret 1)))
  else
   ((wY x56).bind fun x59=>
   if x59 !=0 then
    (some (Lp.done (Fl.ret x59)))
   else
    (some (Lp.go (w64 (s54+1))))))
 else
  (some (Lp.done (Fl.nxt ())))
noncomputable def kX (a1:Pack):Int→Option (Fl Int Unit):=loop (zAZ a1)
noncomputable def zAR (a1:Pack) (s32:Int):Option (Lp Int (Fl Int Unit)):=
 if decide (s32< (a1.Provides.length:Int)) then
  ((idx a1.Provides s32).bind fun x34=>
  (wZ x34).bind fun x36=>
  if x36 !=0 then
   (some (Lp.done (Fl.ret x36)))
  else
   ((if seq x34 a1.Name then
      (some true)
     else
      ((zHx a1.Provides 0 s32).bind fun x40=>
      (wX x40 x34).bind fun x42=>
      some x42)).bind fun v44=>
   if v44 then
    (some (Lp.done (Fl.ret 6)))
   else
    (some (Lp.go (w64 (s32+1))))))
 else
  (some (Lp.done (Fl.nxt ())))
noncomputable def zAf (a1:Pack):Int→Option (Fl Int Unit):=loop (zAR a1)
noncomputable def zBu (a1:Pack):Option Int:=
 (wZ a1.Name).bind fun x2=>
 (wV a1.Version).bind fun x4=>
 (vS [x2,x4]).bind fun x6=>
 if x6 !=0 then
  (some x6)
 else
  ((xZ a1.Size 1 200).bind fun x9=>
  if !x9 then
   (some 3)
  else
   ((if decide ((a1.Provides.length:Int)>4) then
      (some true)
     else
      (if decide ((a1.Needs.length:Int)>4) then
       (some true)
      else
       (if decide ((a1.Bars.length:Int)>4) then
        (some true)
       else
        ((zR a1.Needs).bind fun x15=>
        some x15)))).bind fun v17=>
   if v17 then
    (some 2)
   else
    ((zAf a1 0).bind (Fl.go some fun v46=>
    (kX a1 0).bind (Fl.go some fun v62=>
    (wY a1.Bars).bind fun x63=>
    some x63)))))
noncomputable def zFp (a1:Pack) (a2:ByteArray) (a3:Version):Option Bool:=
 if seq a1.Name a2 then
  (some (a1.Version.A==a3.A&&(a1.Version.B==a3.B&&(a1.Version.C==a3.C&&true))))
 else
  (some false)
noncomputable def xJ (a1:(List Pack)) (a2:ByteArray) (a3:Version) (s10:Int):Option (Lp Int (Fl Int Unit)):=
 if decide (s10< (a1.length:Int)) then
  ((idx a1 s10).bind fun x12=>
  (zFp x12 a2 a3).bind fun x14=>
  if x14 then
   (some (Lp.done (Fl.ret s10)))
  else
   (some (Lp.go (w64 (s10+1)))))
 else
  (some (Lp.done (Fl.nxt ())))
noncomputable def xO (a1:(List Pack)) (a2:ByteArray) (a3:Version):Int→Option (Fl Int Unit):=loop (xJ a1 a2 a3)
noncomputable def xB (a1:(List Pack)) (a2:ByteArray) (a3:Version):Option Int:=
 (xO a1 a2 a3 0).bind (Fl.go some fun v17=>
 some (-1))
noncomputable def zEp (a1:(List Pack)) (a2:ByteArray) (a3:Version):Option Int:=
 (xB a1 a2 a3).bind fun x4=>
 some x4
noncomputable def jK (a1:(List Pack)) (s14:Int):Option (Lp Int (Fl Int Unit)):=
 if decide (s14< (a1.length:Int)) then
  ((idx a1 s14).bind fun x16=>
  (zBu x16).bind fun x18=>
  if x18 !=0 then
   (some (Lp.done (Fl.ret x18)))
  else
   ((zHx a1 0 s14).bind fun x21=>
   (zEp x21 x16.Name x16.Version).bind fun x23=>
   if decide (x23≥0) then
    (some (Lp.done (Fl.ret 6)))
   else
    (some (Lp.go (w64 (s14+1))))))
 else
  (some (Lp.done (Fl.nxt ())))
noncomputable def jZ (a1:(List Pack)):Int→Option (Fl Int Unit):=loop (jK a1)
noncomputable def vL (a1:(List Pack)):Option Int:=
 if decide ((a1.length:Int)>24) then
  (some 2)
 else
  ((jZ a1 0).bind (Fl.go some fun v26=>
  some 0))
noncomputable def zFc (a1:ByteArray) (s15:Int):Option (Lp Int (Fl Int Unit)):=
 if decide (s15< (a1.size:Int)) then
  ((bidx a1 s15).bind fun x17=>
  (wC x17).bind fun x19=>
  (if !x19 then
    (if x17 !=46 then
     (if x17 !=45 then
      (some (x17 !=47))
     else
      (some false))
    else
     (some false))
   else
    (some false)).bind fun v24=>
  if v24 then
   (some (Lp.done (Fl.ret 5)))
  else
   (some (Lp.go (w64 (s15+1)))))
 else
  (some (Lp.done (Fl.nxt ())))
noncomputable def kW (a1:ByteArray):Int→Option (Fl Int Unit):=loop (zFc a1)
noncomputable def zB4 (a1:ByteArray):Option Int:=
 (if decide ((a1.size:Int)<1) then
   (some true)
  else
   (some (decide ((a1.size:Int)>40)))).bind fun v3=>
 if v3 then
  (some 5)
 else
  ((kW a1 0).bind (Fl.go some fun v26=>
  some 0))
noncomputable def zFL (a1:zD) (s5:(Int×Int)):Option (Lp (Int×Int) Int):=
 if decide (s5.2< (a1.Files.length:Int)) then
  ((idx a1.Files s5.2).bind fun x7=>
  some (Lp.go (w64 (s5.1+(x7.Data.length:Int)),w64 (s5.2+1))))
 else
  (some (Lp.done s5.1))
noncomputable def zCU (a1:zD):(Int×Int)→Option Int:=loop (zFL a1)
noncomputable def zDt (a1:zD):Option Int:=
 (zCU a1 (0,0)).bind fun v9=>
 some v9
noncomputable def zFf (a1:zD) (s25:Int):Option (Lp Int (Fl Int Unit)):=
 if decide (s25< (a1.Files.length:Int)) then
  ((idx a1.Files s25).bind fun x27=>
  (zB4 x27.Path).bind fun x29=>
  if x29 !=0 then
   (some (Lp.done (Fl.ret x29)))
  else
   ((if decide (s25>0) then
      ((idx a1.Files (w64 (s25-1))).bind fun x33=>
      some (slt x27.Path x33.Path||seq x27.Path x33.Path))
     else
      (some false)).bind fun v35=>
   if v35 then
    (some (Lp.done (Fl.ret 1)))
   else
    (if decide ((x27.Data.length:Int)>4000) then
     (some (Lp.done (Fl.ret 2)))
    else
     (some (Lp.go (w64 (s25+1)))))))
 else
  (some (Lp.done (Fl.nxt ())))
noncomputable def zAk (a1:zD):Int→Option (Fl Int Unit):=loop (zFf a1)
noncomputable def jB (a1:zD):Option Int:=
 (xZ a1.Budget 0 20000).bind fun x2=>
 (if !x2 then
   (some true)
  else
   ((xZ a1.Writes 0 1000000000).bind fun x5=>
   if !x5 then
    (some true)
   else
    ((xZ a1.Stop (-1) 1000000000).bind fun x8=>
    some (!x8)))).bind fun v10=>
 if v10 then
  (some 3)
 else
  (if decide ((a1.Files.length:Int)>120) then
   (some 2)
  else
   ((zAk a1 0).bind (Fl.go some fun v38=>
   (zDt a1).bind fun x39=>
   if decide (x39>a1.Budget) then
    (some 8)
   else
    (some 0))))
noncomputable def kK (a1:(List Pack)) (a2:zD):Option Int:=
 (vL a1).bind fun x3=>
 (jB a2).bind fun x5=>
 (vS [x3,x5]).bind fun x7=>
 some x7
noncomputable def bytealg_CompareString (a1 a2:ByteArray):Option Int:=some (zQH a1 a2)
noncomputable def strings_Compare (a1:ByteArray) (a2:ByteArray):Option Int:=
 (bytealg_CompareString a1 a2).bind fun x3=>
 some x3
noncomputable def uF (a1:File) (a2:ByteArray):Option Int:=
 (strings_Compare a1.Path a2).bind fun x3=>
 some x3
noncomputable def yT (a1:(List File)) (a2:ByteArray) (s9:(Int×Int)):Option (Lp (Int×Int) Int):=
 if decide (s9.1<s9.2) then
  ((idx a1 (w64 ((IntKind.u64.wrap (w64 (s9.1+s9.2))).fdiv (2^(min (1:Int).toNat 64))))).bind fun x11=>
  (uF x11 a2).bind fun x13=>
  if decide (x13<0) then
   (some (Lp.go (w64 ((w64 ((IntKind.u64.wrap (w64 (s9.1+s9.2))).fdiv (2^(min (1:Int).toNat 64))))+1),s9.2)))
  else
   (some (Lp.go (s9.1,w64 ((IntKind.u64.wrap (w64 (s9.1+s9.2))).fdiv (2^(min (1:Int).toNat 64)))))))
 else
  (some (Lp.done s9.1))
noncomputable def zY (a1:(List File)) (a2:ByteArray):(Int×Int)→Option Int:=loop (yT a1 a2)
noncomputable def zJ (a1:(List File)) (a2:ByteArray):Option (Int×Bool):=
 (zY a1 a2 (0,(a1.length:Int))).bind fun v16=>
 if decide (v16< (a1.length:Int)) then
  ((idx a1 v16).bind fun x18=>
  (uF x18 a2).bind fun x20=>
  some (v16,x20==0))
 else
  (some (v16,false))
noncomputable def zA2 (a1:zD) (a2:ByteArray):Option (Int×Bool):=
 (zJ a1.Files a2).bind fun x3=>
 some (x3.1,x3.2)
noncomputable def xY (a1:zD) (a2:ByteArray):Option ((List Int)×Bool):=
 (zA2 a1 a2).bind fun x3=>
 if !x3.2 then
  (some (([]:List Int),false))
 else
  ((idx a1.Files x3.1).bind fun x6=>
  some (x6.Data,true))
noncomputable def zCV (a1:ByteArray) (s16:(Int×Int)):Option (Lp (Int×Int) (Fl Int Int)):=
 if decide (s16.2< (a1.size:Int)) then
  ((bidx a1 s16.2).bind fun x18=>
  (if decide (x18<48) then
    (some true)
   else
    ((bidx a1 s16.2).bind fun x21=>
    some (decide (x21>57)))).bind fun v23=>
  if v23 then
   (some (Lp.done (Fl.ret (-1))))
  else
   ((bidx a1 s16.2).bind fun x25=>
   some (Lp.go (w64 ((w64 (10*s16.1))+(w64 (IntKind.u8.wrap (x25-48)))),w64 (s16.2+1)))))
 else
  (some (Lp.done (Fl.nxt s16.1)))
noncomputable def zEi (a1:ByteArray):(Int×Int)→Option (Fl Int Int):=loop (zCV a1)
noncomputable def zA9 (a1:ByteArray) (a2:Int):Option Int:=
 (if seq a1 (bs []) then
   (some true)
  else
   (some (decide ((a1.size:Int)>a2)))).bind fun v4=>
 if v4 then
  (some (-1))
 else
  ((zEi a1 (0,0)).bind (Fl.go some fun v27=>
  some v27))
noncomputable def yL (a1:ByteArray) (a2:ByteArray):Option Bool:=
 if decide ((a1.size:Int)≥(a2.size:Int)) then
  ((zFS a1 0 (a2.size:Int)).bind fun x4=>
  some (seq x4 a2))
 else
  (some false)
noncomputable def strings_HasPrefix (a1:ByteArray) (a2:ByteArray):Option Bool:=
 (yL a1 a2).bind fun x3=>
 some x3
noncomputable def zE7 (a1:zD) (a2:ByteArray) (s12:((List ByteArray)×Int)):Option (Lp ((List ByteArray)×Int) (List ByteArray)):=
 if decide (s12.2< (a1.Files.length:Int)) then
  ((idx a1.Files s12.2).bind fun x14=>
  (strings_HasPrefix x14.Path a2).bind fun x16=>
  (if x16 then
    ((app 16 s12.1 [x14.Path]).bind fun x19=>
    some x19)
   else
    (some s12.1)).bind fun v21=>
  some (Lp.go (v21,w64 (s12.2+1))))
 else
  (some (Lp.done s12.1))
noncomputable def jT (a1:zD) (a2:ByteArray):((List ByteArray)×Int)→Option (List ByteArray):=loop (zE7 a1 a2)
noncomputable def zAq (a1:zD) (a2:ByteArray):Option (List ByteArray):=
 (jT a1 a2 (([]:List ByteArray),0)).bind fun v22=>
 some v22
noncomputable def zBa (x2:(List ByteArray)) (s17:((List Int)×Int)):Option (Lp ((List Int)×Int) (List Int)):=
 if decide (s17.2< (x2.length:Int)) then
  ((idx x2 s17.2).bind fun x19=>
  (zFS x19 4 (x19.size:Int)).bind fun x21=>
  (zA9 x21 6).bind fun x23=>
  (if decide (x23≥1) then
    (some ((x19.size:Int)==10))
   else
    (some false)).bind fun v26=>
  (if v26 then
    ((app 8 s17.1 [x23]).bind fun x28=>
    some x28)
   else
    (some s17.1)).bind fun v30=>
  some (Lp.go (v30,w64 (s17.2+1))))
 else
  (some (Lp.done s17.1))
noncomputable def zBN (x2:(List ByteArray)):((List Int)×Int)→Option (List Int):=loop (zBa x2)
noncomputable def tY (a1:zD):Option (List Int):=
 (zAq a1 (bs [103,101,110,47])).bind fun x2=>
 (zBN x2 (([]:List Int),0)).bind fun v31=>
 some v31
noncomputable def uK (a1:(List Int)) (a2:Int) (s7:Int):Option (Lp Int (Fl Int Unit)):=
 if decide (s7< (a1.length:Int)) then
  ((idx a1 s7).bind fun x9=>
  if a2==x9 then
   (some (Lp.done (Fl.ret s7)))
  else
   (some (Lp.go (w64 (s7+1)))))
 else
  (some (Lp.done (Fl.nxt ())))
noncomputable def uY (a1:(List Int)) (a2:Int):Int→Option (Fl Int Unit):=loop (uK a1 a2)
noncomputable def tJ (a1:(List Int)) (a2:Int):Option Int:=
 (uY a1 a2 0).bind (Fl.go some fun v12=>
 some (-1))
noncomputable def xR (a1:(List Int)) (a2:Int):Option Bool:=
 (tJ a1 a2).bind fun x3=>
 some (decide (x3≥0))
noncomputable def tV (a1:zD):Option (Int×Int):=
 (xY a1 (bs [99,117,114])).bind fun x2=>
 (zA9 (b2s x2.1) 6).bind fun x4=>
 (if !x2.2 then
   (some true)
  else
   ((tY a1).bind fun x7=>
   (xR x7 x4).bind fun x9=>
   some (!x9))).bind fun v11=>
 if v11 then
  (some (0,4))
 else
  (some (x4,0))
noncomputable def tX (a1 a2:Int):Option ByteArray:=if a2=10∧ -9223372036854775808≤a1∧a1≤9223372036854775807 then some ⟨(Lib.itoa a1).toArray⟩ else none
noncomputable def zCM (a1:Int):Option ByteArray:=
 (tX a1 10).bind fun x2=>
 some x2
noncomputable def strings_Repeat (a1:ByteArray) (a2:Int):Option ByteArray:=if 0≤a2∧a2≤9223372036854775807∧a1.size*a2.toNat≤140737488355328 then some ⟨(Lib.repeatL a1.data.toList a2.toNat).toArray⟩ else none
noncomputable def zD1 (a1:Int):Option ByteArray:=
 (zCM a1).bind fun x2=>
 (strings_Repeat (bs [48]) (w64 (6-(x2.size:Int)))).bind fun x4=>
 (cat (bs [103,101,110,47]) x4).bind fun x6=>
 (cat x6 x2).bind fun x8=>
 some x8
noncomputable def strings_Split (a1 a2:ByteArray):Option (List ByteArray):=if a1.size<4294967281∧1≤a2.size then some (Lib.splitB a2 0 (Lib.countB a1 a2) a1) else none
noncomputable def kT (a1:ByteArray):Option (List ByteArray):=
 (strings_Split a1 (bs [10])).bind fun x2=>
 (idx x2 (w64 ((x2.length:Int)-1))).bind fun x4=>
 (if seq x4 (bs []) then
   ((zHx x2 0 (w64 ((x2.length:Int)-1))).bind fun x7=>
   some x7)
  else
   (some x2)).bind fun v9=>
 some v9
noncomputable def jA (a1:ByteArray):Option Bool:=
 some (seq a1 (bs []))
noncomputable def xD (a1:(List ByteArray)) (s8:Int):Option (Lp Int (Fl Int Unit)):=
 if decide (s8< (a1.length:Int)) then
  ((idx a1 s8).bind fun x10=>
  (jA x10).bind fun x12=>
  if x12 then
   (some (Lp.done (Fl.ret s8)))
  else
   (some (Lp.go (w64 (s8+1)))))
 else
  (some (Lp.done (Fl.nxt ())))
noncomputable def wK (a1:(List ByteArray)):Int→Option (Fl Int Unit):=loop (xD a1)
noncomputable def xV (a1:(List ByteArray)):Option Int:=
 (wK a1 0).bind (Fl.go some fun v15=>
 some (-1))
noncomputable def xA (s14:((List ByteArray)×Int×Int)):Option (Lp ((List ByteArray)×Int×Int) ((List ByteArray)×Int)):=
 if decide (s14.2.2< (s14.1.length:Int)) then
  ((idx s14.1 s14.2.2).bind fun x16=>
  (jA x16).bind fun x18=>
  (if !x18 then
    ((idx s14.1 s14.2.1).bind fun x21=>
    some (s14.1.set s14.2.1.toNat x16,w64 (s14.2.1+1)))
   else
    (some (s14.1,s14.2.1))).bind fun v23=>
  some (Lp.go (v23.1,v23.2,w64 (s14.2.2+1))))
 else
  (some (Lp.done (s14.1,s14.2.1)))
noncomputable def wB:((List ByteArray)×Int×Int)→Option ((List ByteArray)×Int):=loop xA
noncomputable def yO (a1:(List ByteArray)):Option (List ByteArray):=
 (xV a1).bind fun x2=>
 if x2==(-1) then
  (some a1)
 else
  ((wB (a1,x2,w64 (x2+1))).bind fun v24=>
  (zHx v24.1 v24.2 (v24.1.length:Int)).bind fun x25=>
  (zPD v24.1 v24.2 x25.length ByteArray.empty).bind fun x27=>
  (zHx x27 0 v24.2).bind fun x29=>
  some x29)
noncomputable def zD2 (a1:ByteArray):Option (List ByteArray):=
 (strings_Split a1 (bs [32])).bind fun x2=>
 (yO x2).bind fun x4=>
 some x4
noncomputable def jC (x2:(List ByteArray)) (s15:((List Int)×Int)):Option (Lp ((List Int)×Int) (Fl zN (List Int))):=
 if decide (s15.2< (x2.length:Int)) then
  ((idx x2 s15.2).bind fun x17=>
  (zA9 x17 3).bind fun x19=>
  (zPH s15.1 3 s15.2).bind fun x21=>
  (zPH (s15.1.set s15.2.toNat x19) 3 s15.2).bind fun x23=>
  if decide (x23<0) then
   (some (Lp.done (Fl.ret ({Code:=5,Version:=({A:=0,B:=0,C:=0}:Version)}:zN))))
  else
   (some (Lp.go (s15.1.set s15.2.toNat x19,w64 (s15.2+1)))))
 else
  (some (Lp.done (Fl.nxt s15.1)))
noncomputable def jY (x2:(List ByteArray)):((List Int)×Int)→Option (Fl zN (List Int)):=loop (jC x2)
noncomputable def wU (a1:ByteArray):Option zN:=
 (strings_Split a1 (bs [46])).bind fun x2=>
 if decide ((x2.length:Int)>3) then
  (some ({Code:=5,Version:=({A:=0,B:=0,C:=0}:Version)}:zN))
 else
  ((jY x2 (([0,0,0]:(List Int)),0)).bind (Fl.go some fun v26=>
  (zPH v26 3 0).bind fun x27=>
  (zPH v26 3 1).bind fun x29=>
  (zPH v26 3 2).bind fun x31=>
  some ({Code:=0,Version:=({A:=x27,B:=x29,C:=x31}:Version)}:zN)))
noncomputable def zCi (a1:(List Pack)) (a2:(List ByteArray)):Option Int:=
 if (a2.length:Int) !=2 then
  (some (-1))
 else
  ((idx a2 1).bind fun x4=>
  (wU x4).bind fun x6=>
  if x6.Code !=0 then
   (some (-1))
  else
   ((idx a2 0).bind fun x9=>
   (zEp a1 x9 x6.Version).bind fun x11=>
   some x11))
noncomputable def tO (a1:List Int):Option (List Int):=if a1.length≤4611686018427387903 then some (a1.mergeSort fun x y=>decide (x≤y)) else none
noncomputable def kZ (a1:(List Pack)) (x7:(List ByteArray)) (s23:((List Int)×Int)):Option (Lp ((List Int)×Int) (Fl xK (List Int))):=
 if decide (s23.2< (x7.length:Int)) then
  ((idx x7 s23.2).bind fun x25=>
  (zD2 x25).bind fun x27=>
  (zCi a1 x27).bind fun x29=>
  (if decide (x29<0) then
    (some true)
   else
    ((xR s23.1 x29).bind fun x32=>
    some x32)).bind fun v34=>
  if v34 then
   (some (Lp.done (Fl.ret ({Code:=5,At:=s23.2,Set:=([]:List Int)}:xK))))
  else
   ((app 8 s23.1 [x29]).bind fun x36=>
   some (Lp.go (x36,w64 (s23.2+1)))))
 else
  (some (Lp.done (Fl.nxt s23.1)))
noncomputable def zC8 (a1:(List Pack)) (x7:(List ByteArray)):((List Int)×Int)→Option (Fl xK (List Int)):=loop (kZ a1 x7)
noncomputable def zCj (a1:(List Pack)) (a2:ByteArray):Option xK:=
 (vL a1).bind fun x3=>
 if x3 !=0 then
  (some ({Code:=x3,At:=0,Set:=([]:List Int)}:xK))
 else
  (if decide ((a2.size:Int)>4000) then
   (some ({Code:=2,At:=0,Set:=([]:List Int)}:xK))
  else
   ((kT a2).bind fun x7=>
   (zC8 a1 x7 (([]:List Int),0)).bind (Fl.go some fun v38=>
   (tO v38).bind fun x39=>
   (same x39 v38).bind fun u41=>
   some ({Code:=0,At:=0,Set:=x39}:xK))))
noncomputable def zFv (a1:(List Pack)) (a2:zD) (a3:Int):Option ((List Int)×Int):=
 (tY a2).bind fun x4=>
 (xR x4 a3).bind fun x6=>
 if !x6 then
  (some (([]:List Int),4))
 else
  ((zD1 a3).bind fun x9=>
  (xY a2 x9).bind fun x11=>
  (zCj a1 (b2s x11.1)).bind fun x13=>
  some (x13.Set,x13.Code))
noncomputable def zFu (a1:(List Pack)) (a2:zD):Option ((List Int)×Int):=
 (tV a2).bind fun x3=>
 if x3.2 !=0 then
  (some (([]:List Int),x3.2))
 else
  ((zFv a1 a2 x3.1).bind fun x6=>
  some (x6.1,x6.2))
noncomputable def zEh (a1:(List Pack)) (a2:(List Int)) (a3:ByteArray) (s10:Int):Option (Lp Int (Fl Int Unit)):=
 if decide (s10< (a2.length:Int)) then
  ((idx a2 s10).bind fun x12=>
  (idx a1 x12).bind fun x14=>
  if seq x14.Name a3 then
   (some (Lp.done (Fl.ret x12)))
  else
   (some (Lp.go (w64 (s10+1)))))
 else
  (some (Lp.done (Fl.nxt ())))
noncomputable def zFg (a1:(List Pack)) (a2:(List Int)) (a3:ByteArray):Int→Option (Fl Int Unit):=loop (zEh a1 a2 a3)
noncomputable def zFm (a1:(List Pack)) (a2:(List Int)) (a3:ByteArray):Option Int:=
 (zFg a1 a2 a3 0).bind (Fl.go some fun v17=>
 some (-1))
noncomputable def zCb (a1:Pack):Option (List ByteArray):=
 (app 16 [a1.Name] a1.Provides).bind fun x2=>
 some x2
noncomputable def zCo (a1:Term) (a2:ByteArray) (a3:Version):Option Bool:=
 if seq a1.Name a2 then
  ((uV a1.Low a3).bind fun x5=>
  if decide (x5≤0) then
   ((uV a3 a1.High).bind fun x8=>
   some (decide (x8<0)))
  else
   (some false))
 else
  (some false)
noncomputable def zAc (a1:ByteArray) (a2:Term) (a3:Pack):Option Bool:=
 (zCo a2 a1 a3.Version).bind fun x4=>
 some x4
noncomputable def yQ (a1:(List ByteArray)) (a2:Term) (a3:Pack) (s10:Int):Option (Lp Int (Fl Int Unit)):=
 if decide (s10< (a1.length:Int)) then
  ((idx a1 s10).bind fun x12=>
  (zAc x12 a2 a3).bind fun x14=>
  if x14 then
   (some (Lp.done (Fl.ret s10)))
  else
   (some (Lp.go (w64 (s10+1)))))
 else
  (some (Lp.done (Fl.nxt ())))
noncomputable def yV (a1:(List ByteArray)) (a2:Term) (a3:Pack):Int→Option (Fl Int Unit):=loop (yQ a1 a2 a3)
noncomputable def yH (a1:(List ByteArray)) (a2:Term) (a3:Pack):Option Int:=
 (yV a1 a2 a3 0).bind (Fl.go some fun v17=>
 some (-1))
noncomputable def zZ (a1:(List ByteArray)) (a2:Term) (a3:Pack):Option Bool:=
 (yH a1 a2 a3).bind fun x4=>
 some (decide (x4≥0))
noncomputable def uQ (a1:Pack) (a2:Term):Option Bool:=
 (zCb a1).bind fun x3=>
 (zZ x3 a2 a1).bind fun x5=>
 some x5
noncomputable def yX (a1:(List Term)) (a2:Pack) (s9:Int):Option (Lp Int (Fl Int Unit)):=
 if decide (s9< (a1.length:Int)) then
  ((idx a1 s9).bind fun x11=>
  (uQ a2 x11).bind fun x13=>
  if x13 then
   (some (Lp.done (Fl.ret s9)))
  else
   (some (Lp.go (w64 (s9+1)))))
 else
  (some (Lp.done (Fl.nxt ())))
noncomputable def yY (a1:(List Term)) (a2:Pack):Int→Option (Fl Int Unit):=loop (yX a1 a2)
noncomputable def yJ (a1:(List Term)) (a2:Pack):Option Int:=
 (yY a1 a2 0).bind (Fl.go some fun v16=>
 some (-1))
noncomputable def yC (a1:(List Term)) (a2:Pack):Option Bool:=
 (yJ a1 a2).bind fun x3=>
 some (decide (x3≥0))
noncomputable def uL (a1:Pack) (a2:(List Term)):Option Bool:=
 (yC a2 a1).bind fun x3=>
 some x3
noncomputable def zDU (a1:Int) (a2:(List Pack)) (a3:(List Term)):Option Bool:=
 (idx a2 a1).bind fun x4=>
 (uL x4 a3).bind fun x6=>
 some x6
noncomputable def xM (a1:(List Int)) (a2:(List Pack)) (a3:(List Term)) (s10:Int):Option (Lp Int (Fl Int Unit)):=
 if decide (s10< (a1.length:Int)) then
  ((idx a1 s10).bind fun x12=>
  (zDU x12 a2 a3).bind fun x14=>
  if x14 then
   (some (Lp.done (Fl.ret s10)))
  else
   (some (Lp.go (w64 (s10+1)))))
 else
  (some (Lp.done (Fl.nxt ())))
noncomputable def xS (a1:(List Int)) (a2:(List Pack)) (a3:(List Term)):Int→Option (Fl Int Unit):=loop (xM a1 a2 a3)
noncomputable def xH (a1:(List Int)) (a2:(List Pack)) (a3:(List Term)):Option Int:=
 (xS a1 a2 a3 0).bind (Fl.go some fun v17=>
 some (-1))
noncomputable def yB (a1:(List Int)) (a2:(List Pack)) (a3:(List Term)):Option Bool:=
 (xH a1 a2 a3).bind fun x4=>
 some (decide (x4≥0))
noncomputable def zDX (a1:Int) (a2:Int) (a3:(List Pack)) (a4:Term):Option Bool:=
 if a1 !=a2 then
  ((idx a3 a1).bind fun x6=>
  (uQ x6 a4).bind fun x8=>
  some x8)
 else
  (some false)
noncomputable def xQ (a1:(List Int)) (a2:Int) (a3:(List Pack)) (a4:Term) (s11:Int):Option (Lp Int (Fl Int Unit)):=
 if decide (s11< (a1.length:Int)) then
  ((idx a1 s11).bind fun x13=>
  (zDX x13 a2 a3 a4).bind fun x15=>
  if x15 then
   (some (Lp.done (Fl.ret s11)))
  else
   (some (Lp.go (w64 (s11+1)))))
 else
  (some (Lp.done (Fl.nxt ())))
noncomputable def xU (a1:(List Int)) (a2:Int) (a3:(List Pack)) (a4:Term):Int→Option (Fl Int Unit):=loop (xQ a1 a2 a3 a4)
noncomputable def xI (a1:(List Int)) (a2:Int) (a3:(List Pack)) (a4:Term):Option Int:=
 (xU a1 a2 a3 a4 0).bind (Fl.go some fun v18=>
 some (-1))
noncomputable def yA (a1:(List Int)) (a2:Int) (a3:(List Pack)) (a4:Term):Option Bool:=
 (xI a1 a2 a3 a4).bind fun x5=>
 some (decide (x5≥0))
noncomputable def zD9 (a1:(List Pack)) (a2:(List Int)) (s56:((List zT)×Int)) (x58:Int) (x60:Pack) (s99:((List zT)×Int)):Option (Lp ((List zT)×Int) (List zT)):=
 if decide (s99.2< (x60.Bars.length:Int)) then
  ((idx x60.Bars s99.2).bind fun x101=>
  (yA a2 x58 a1 x101).bind fun x103=>
  (if x103 then
    ((app 24 s99.1 [({Kind:=3,Pack:=x58,At:=s99.2}:zT)]).bind fun x106=>
    some x106)
   else
    (some s99.1)).bind fun v108=>
  some (Lp.go (v108,w64 (s99.2+1))))
 else
  (some (Lp.done s99.1))
noncomputable def zEo (a1:(List Pack)) (a2:(List Int)) (s56:((List zT)×Int)) (x58:Int) (x60:Pack):((List zT)×Int)→Option (List zT):=loop (zD9 a1 a2 s56 x58 x60)
noncomputable def zDD (a1:(List Pack)) (a2:(List Int)) (s56:((List zT)×Int)) (x58:Int) (x60:Pack) (s79:((List zT)×Int)):Option (Lp ((List zT)×Int) (List zT)):=
 if decide (s79.2< (x60.Needs.length:Int)) then
  ((idx x60.Needs s79.2).bind fun x81=>
  (yB a2 a1 x81).bind fun x83=>
  (if !x83 then
    ((app 24 s79.1 [({Kind:=2,Pack:=x58,At:=s79.2}:zT)]).bind fun x86=>
    some x86)
   else
    (some s79.1)).bind fun v88=>
  some (Lp.go (v88,w64 (s79.2+1))))
 else
  (some (Lp.done s79.1))
noncomputable def zEt (a1:(List Pack)) (a2:(List Int)) (s56:((List zT)×Int)) (x58:Int) (x60:Pack):((List zT)×Int)→Option (List zT):=loop (zDD a1 a2 s56 x58 x60)
noncomputable def zDJ (a1:(List Pack)) (a2:(List Int)) (s56:((List zT)×Int)):Option (Lp ((List zT)×Int) (List zT)):=
 if decide (s56.2< (a2.length:Int)) then
  ((idx a2 s56.2).bind fun x58=>
  (idx a1 x58).bind fun x60=>
  (zHx a2 0 s56.2).bind fun x62=>
  (zFm a1 x62 x60.Name).bind fun x64=>
  (if decide (x64≥0) then
    ((app 24 s56.1 [({Kind:=1,Pack:=x58,At:=0}:zT)]).bind fun x67=>
    some x67)
   else
    (some s56.1)).bind fun v69=>
  (zEt a1 a2 s56 x58 x60 (v69,0)).bind fun v89=>
  (zEo a1 a2 s56 x58 x60 (v89,0)).bind fun v109=>
  some (Lp.go (v109,w64 (s56.2+1))))
 else
  (some (Lp.done s56.1))
noncomputable def zEn (a1:(List Pack)) (a2:(List Int)):((List zT)×Int)→Option (List zT):=loop (zDJ a1 a2)
noncomputable def zEH (a1:(List Pack)) (a2:(List Int)):Option (List zT):=
 (zEn a1 a2 (([]:List zT),0)).bind fun v110=>
 some v110
noncomputable def jH (a1:(List Pack)) (a2:(List Int)):Option Bool:=
 (zEH a1 a2).bind fun x3=>
 some ((x3.length:Int)==0)
noncomputable def tK (a1:(List Int)):Option (List Int):=
 (app 8 ([]:List Int) a1).bind fun x3=>
 some x3
noncomputable def wI (a1:Version):Option ByteArray:=
 (zCM a1.A).bind fun x2=>
 (cat x2 (bs [46])).bind fun x4=>
 (zCM a1.B).bind fun x6=>
 (cat x4 x6).bind fun x8=>
 (cat x8 (bs [46])).bind fun x10=>
 (zCM a1.C).bind fun x12=>
 (cat x10 x12).bind fun x14=>
 some x14
noncomputable def zB5 (a1:Pack):Option ByteArray:=
 (cat (bs [112,107,103,47]) a1.Name).bind fun x2=>
 (cat x2 (bs [45])).bind fun x4=>
 (wI a1.Version).bind fun x6=>
 (cat x4 x6).bind fun x8=>
 some x8
noncomputable def zAB (a1:Pack) (s13:(Int×(List Int)×Int)):Option (Lp (Int×(List Int)×Int) (List Int)):=
 if decide (s13.2.2<a1.Size) then
  ((app 1 s13.2.1 [s13.1]).bind fun x15=>
  some (Lp.go (IntKind.u8.wrap ((IntKind.u8.wrap (31*s13.1))+7),x15,w64 (s13.2.2+1))))
 else
  (some (Lp.done s13.2.1))
noncomputable def zBc (a1:Pack):(Int×(List Int)×Int)→Option (List Int):=loop (zAB a1)
noncomputable def zA5 (a1:Pack) (s5:(Int×Int)):Option (Lp (Int×Int) Int):=
 if decide (s5.2< (a1.Name.size:Int)) then
  ((bidx a1.Name s5.2).bind fun x7=>
  some (Lp.go (IntKind.u8.wrap (s5.1+x7),w64 (s5.2+1))))
 else
  (some (Lp.done s5.1))
noncomputable def zAQ (a1:Pack):(Int×Int)→Option Int:=loop (zA5 a1)
noncomputable def zAw (a1:Pack):Option (List Int):=
 (zAQ a1 (IntKind.u8.wrap ((IntKind.u8.wrap ((IntKind.u8.wrap (a1.Version.A))+(IntKind.u8.wrap (a1.Version.B))))+(IntKind.u8.wrap (a1.Version.C))),0)).bind fun v9=>
 (zBc a1 (v9,([]:List Int),0)).bind fun v17=>
 some v17
noncomputable def tC (a1:(List Int)) (a2:(List Int)) (s10:Int):Option (Lp Int (Fl Bool Unit)):=
 if decide (s10< (a1.length:Int)) then
  ((idx a1 s10).bind fun x12=>
  (idx a2 s10).bind fun x14=>
  if x12 !=x14 then
   (some (Lp.done (Fl.ret false)))
  else
   (some (Lp.go (w64 (s10+1)))))
 else
  (some (Lp.done (Fl.nxt ())))
noncomputable def jL (a1:(List Int)) (a2:(List Int)):Int→Option (Fl Bool Unit):=loop (tC a1 a2)
noncomputable def uO (a1:(List Int)) (a2:(List Int)):Option Bool:=
 if (a1.length:Int) !=(a2.length:Int) then
  (some false)
 else
  ((jL a1 a2 0).bind (Fl.go some fun v17=>
  some true))
noncomputable def zBv (a1:Int) (a2:zD) (a3:(List Pack)):Option Bool:=
 (idx a3 a1).bind fun x4=>
 (zB5 x4).bind fun x6=>
 (xY a2 x6).bind fun x8=>
 if !x8.2 then
  (some true)
 else
  ((idx a3 a1).bind fun x11=>
  (zAw x11).bind fun x13=>
  (uO x8.1 x13).bind fun x15=>
  some (!x15))
noncomputable def xG (a1:Int) (a2:zD) (a3:(List Pack)):Option Bool:=
 (zBv a1 a2 a3).bind fun x4=>
 some (!x4)
noncomputable def zX (a1:(List Int)) (a2:zD) (a3:(List Pack)) (s10:Int):Option (Lp Int (Fl Int Unit)):=
 if decide (s10< (a1.length:Int)) then
  ((idx a1 s10).bind fun x12=>
  (xG x12 a2 a3).bind fun x14=>
  if x14 then
   (some (Lp.done (Fl.ret s10)))
  else
   (some (Lp.go (w64 (s10+1)))))
 else
  (some (Lp.done (Fl.nxt ())))
noncomputable def yS (a1:(List Int)) (a2:zD) (a3:(List Pack)):Int→Option (Fl Int Unit):=loop (zX a1 a2 a3)
noncomputable def yE (a1:(List Int)) (a2:zD) (a3:(List Pack)):Option Int:=
 (yS a1 a2 a3 0).bind (Fl.go some fun v17=>
 some (-1))
noncomputable def zW (a2:zD) (a3:(List Pack)) (s16:((List Int)×Int×Int)):Option (Lp ((List Int)×Int×Int) ((List Int)×Int)):=
 if decide (s16.2.2< (s16.1.length:Int)) then
  ((idx s16.1 s16.2.2).bind fun x18=>
  (xG x18 a2 a3).bind fun x20=>
  (if !x20 then
    ((idx s16.1 s16.2.1).bind fun x23=>
    some (s16.1.set s16.2.1.toNat x18,w64 (s16.2.1+1)))
   else
    (some (s16.1,s16.2.1))).bind fun v25=>
  some (Lp.go (v25.1,v25.2,w64 (s16.2.2+1))))
 else
  (some (Lp.done (s16.1,s16.2.1)))
noncomputable def yP (a2:zD) (a3:(List Pack)):((List Int)×Int×Int)→Option ((List Int)×Int):=loop (zW a2 a3)
noncomputable def zS (a1:(List Int)) (a2:zD) (a3:(List Pack)):Option (List Int):=
 (yE a1 a2 a3).bind fun x4=>
 if x4==(-1) then
  (some a1)
 else
  ((yP a2 a3 (a1,x4,w64 (x4+1))).bind fun v26=>
  (zHx v26.1 v26.2 (v26.1.length:Int)).bind fun x27=>
  (zPD v26.1 v26.2 x27.length 0).bind fun x29=>
  (zHx x29 0 v26.2).bind fun x31=>
  some x31)
noncomputable def vE (a1:(List Int)) (a2:zD) (a3:(List Pack)):Option (List Int):=
 (tK a1).bind fun x4=>
 (zS x4 a2 a3).bind fun x6=>
 some x6
noncomputable def zDj (a1:(List Pack)) (a2:zD) (a3:(List Int)):Option (List Int):=
 (vE a3 a2 a1).bind fun x4=>
 some x4
noncomputable def zCY (a1:(List Pack)) (a2:zD) (a3:(List Int)):Option Bool:=
 (jH a1 a3).bind fun x4=>
 if x4 then
  ((zDj a1 a2 a3).bind fun x7=>
  some ((x7.length:Int)==0))
 else
  (some false)
noncomputable def zEO (a1:ByteArray):Option Term:=
 (zDZ).bind fun x2=>
 some ({Name:=a1,Low:=({A:=0,B:=0,C:=0}:Version),High:=x2}:Term)
noncomputable def wM (a1:ByteArray) (a2:ByteArray):Option (ByteArray×Bool):=
 (yL a1 a2).bind fun x3=>
 if !x3 then
  (some (a1,false))
 else
  ((zFS a1 (a2.size:Int) (a1.size:Int)).bind fun x6=>
  some (x6,true))
noncomputable def strings_CutPrefix (a1:ByteArray) (a2:ByteArray):Option (ByteArray×Bool):=
 (wM a1 a2).bind fun x3=>
 some (x3.1,x3.2)
noncomputable def strings_IndexByte (a1:ByteArray) (a2:Int):Option Int:=some (Lib.indexByte a1.data.toList a2.toNat.toUInt8)
noncomputable def zCL (a1:ByteArray) (s9:Int):Option (Lp Int Int):=
 (if decide (s9< (a1.size:Int)) then
   ((bidx a1 s9).bind fun x11=>
   (wC x11).bind fun x13=>
   some x13)
  else
   (some false)).bind fun v15=>
 if v15 then
  (some (Lp.go (w64 (s9+1))))
 else
  (some (Lp.done s9))
noncomputable def zAb (a1:ByteArray):Int→Option Int:=loop (zCL a1)
noncomputable def zB3 (a1:ByteArray):Option xL:=
 (zAb a1 0).bind fun v17=>
 (zFS a1 0 v17).bind fun x18=>
 (zEO x18).bind fun x20=>
 (zFS a1 v17 (a1.size:Int)).bind fun x22=>
 (wZ x20.Name).bind fun x24=>
 if x24 !=0 then
  (some ({Code:=5,Term:=({Name:=ByteArray.empty,Low:=({A:=0,B:=0,C:=0}:Version),High:=({A:=0,B:=0,C:=0}:Version)}:Term)}:xL))
 else
  ((strings_CutPrefix x22 (bs [62,61])).bind fun x27=>
  (if x27.2 then
    ((strings_IndexByte x27.1 60).bind fun x30=>
    (if decide (x30<0) then
      (some (x27.1.size:Int))
     else
      (some x30)).bind fun v33=>
    (zFS x27.1 0 v33).bind fun x34=>
    (wU x34).bind fun x36=>
    if x36.Code !=0 then
     (some (Fl.ret ({Code:=5,Term:=({Name:=ByteArray.empty,Low:=({A:=0,B:=0,C:=0}:Version),High:=({A:=0,B:=0,C:=0}:Version)}:Term)}:xL)))
    else
     ((zFS x27.1 v33 (x27.1.size:Int)).bind fun x39=>
     some (Fl.nxt (x36.Version.A,x36.Version.B,x36.Version.C,x39))))
   else
    (some (Fl.nxt (x20.Low.A,x20.Low.B,x20.Low.C,x22)))).bind (Fl.go some fun v41=>
  (strings_CutPrefix v41.2.2.2 (bs [60])).bind fun x42=>
  (if x42.2 then
    ((wU x42.1).bind fun x45=>
    if x45.Code !=0 then
     (some (Fl.ret ({Code:=5,Term:=({Name:=ByteArray.empty,Low:=({A:=0,B:=0,C:=0}:Version),High:=({A:=0,B:=0,C:=0}:Version)}:Term)}:xL)))
    else
     (some (Fl.nxt (x45.Version.A,x45.Version.B,x45.Version.C,bs []))))
   else
    (some (Fl.nxt (x20.High.A,x20.High.B,x20.High.C,v41.2.2.2)))).bind (Fl.go some fun v48=>
  if !(seq v48.2.2.2 (bs [])) then
   (some ({Code:=5,Term:=({Name:=ByteArray.empty,Low:=({A:=0,B:=0,C:=0}:Version),High:=({A:=0,B:=0,C:=0}:Version)}:Term)}:xL))
  else
   ((vJ ({Name:=x20.Name,Low:=({A:=v41.1,B:=v41.2.1,C:=v41.2.2.1}:Version),High:=({A:=v48.1,B:=v48.2.1,C:=v48.2.2.1}:Version)}:Term)).bind fun x50=>
   if x50 !=0 then
    (some ({Code:=x50,Term:=({Name:=ByteArray.empty,Low:=({A:=0,B:=0,C:=0}:Version),High:=({A:=0,B:=0,C:=0}:Version)}:Term)}:xL))
   else
    (some ({Code:=0,Term:=({Name:=x20.Name,Low:=({A:=v41.1,B:=v41.2.1,C:=v41.2.2.1}:Version),High:=({A:=v48.1,B:=v48.2.1,C:=v48.2.2.1}:Version)}:Term)}:xL))))))
noncomputable def zA1 (a1:Term):Option ByteArray:=
 (vJ a1).bind fun x2=>
 if x2 !=0 then
  (some (bs []))
 else
  ((if !(a1.Low.A==0&&(a1.Low.B==0&&(a1.Low.C==0&&true))) then
     ((wI a1.Low).bind fun x6=>
     (cat (bs [62,61]) x6).bind fun x8=>
     (cat a1.Name x8).bind fun x10=>
     some x10)
    else
     (some a1.Name)).bind fun v12=>
  (zDZ).bind fun x13=>
  (if !(a1.High.A==x13.A&&(a1.High.B==x13.B&&(a1.High.C==x13.C&&true))) then
    ((wI a1.High).bind fun x16=>
    (cat (bs [60]) x16).bind fun x18=>
    (cat v12 x18).bind fun x20=>
    some x20)
   else
    (some v12)).bind fun v22=>
  some v22)
noncomputable def zAM (a1:(List Term)) (s14:(ByteArray×Int)):Option (Lp (ByteArray×Int) ByteArray):=
 if decide (s14.2< (a1.length:Int)) then
  ((idx a1 s14.2).bind fun x16=>
  (zA1 x16).bind fun x18=>
  (cat x18 (bs [10])).bind fun x20=>
  (cat s14.1 x20).bind fun x22=>
  some (Lp.go (x22,w64 (s14.2+1))))
 else
  (some (Lp.done s14.1))
noncomputable def zBP (a1:(List Term)):(ByteArray×Int)→Option ByteArray:=loop (zAM a1)
noncomputable def uH (a1:(List Term)):Option ByteArray:=
 (wY a1).bind fun x2=>
 if x2 !=0 then
  (some (bs []))
 else
  ((zBP a1 (bs [],0)).bind fun v24=>
  some v24)
noncomputable def zBM (a1:Term) (a2:Term):Option Bool:=
 some (seq a1.Name a2.Name)
noncomputable def yU (a1:(List Term)) (a2:Term) (s9:Int):Option (Lp Int (Fl Int Unit)):=
 if decide (s9< (a1.length:Int)) then
  ((idx a1 s9).bind fun x11=>
  (zBM x11 a2).bind fun x13=>
  if x13 then
   (some (Lp.done (Fl.ret s9)))
  else
   (some (Lp.go (w64 (s9+1)))))
 else
  (some (Lp.done (Fl.nxt ())))
noncomputable def yZ (a1:(List Term)) (a2:Term):Int→Option (Fl Int Unit):=loop (yU a1 a2)
noncomputable def yI (a1:(List Term)) (a2:Term):Option Int:=
 (yZ a1 a2 0).bind (Fl.go some fun v16=>
 some (-1))
noncomputable def zV (a1:(List Term)) (a2:Term):Option Bool:=
 (yI a1 a2).bind fun x3=>
 some (decide (x3≥0))
noncomputable def zAj (a1:(List Term)) (s10:Int):Option (Lp Int (Fl Bool Unit)):=
 if decide (s10< (a1.length:Int)) then
  ((idx a1 s10).bind fun x12=>
  (zHx a1 0 s10).bind fun x14=>
  (zV x14 x12).bind fun x16=>
  if x16 then
   (some (Lp.done (Fl.ret true)))
  else
   (some (Lp.go (w64 (s10+1)))))
 else
  (some (Lp.done (Fl.nxt ())))
noncomputable def zC4 (a1:(List Term)):Int→Option (Fl Bool Unit):=loop (zAj a1)
noncomputable def zAY (a1:(List Term)):Option Bool:=
 (zC4 a1 0).bind (Fl.go some fun v19=>
 some false)
noncomputable def zAs (x2:((List Int)×Bool)) (x4:(List ByteArray)) (s14:((List Term)×Int)):Option (Lp ((List Term)×Int) (Fl ((List Term)×Int) (List Term))):=
 if decide (s14.2< (x4.length:Int)) then
  ((idx x4 s14.2).bind fun x16=>
  (zB3 x16).bind fun x18=>
  if x18.Code !=0 then
   (some (Lp.done (Fl.ret (([]:List Term),5))))
  else
   ((app 64 s14.1 [x18.Term]).bind fun x21=>
   some (Lp.go (x21,w64 (s14.2+1)))))
 else
  (some (Lp.done (Fl.nxt s14.1)))
noncomputable def jO (x2:((List Int)×Bool)) (x4:(List ByteArray)):((List Term)×Int)→Option (Fl ((List Term)×Int) (List Term)):=loop (zAs x2 x4)
noncomputable def zAD (a1:zD):Option ((List Term)×Int):=
 (xY a1 (bs [114,111,111,116,115])).bind fun x2=>
 (kT (b2s x2.1)).bind fun x4=>
 (jO x2 x4 (([]:List Term),0)).bind (Fl.go some fun v23=>
 (uH v23).bind fun x24=>
 (if !(seq x24 (b2s x2.1)) then
   (some true)
  else
   (if decide ((v23.length:Int)>8) then
    (some true)
   else
    ((zAY v23).bind fun x28=>
    some x28))).bind fun v30=>
 if v30 then
  (some (([]:List Term),5))
 else
  (some (v23,0)))
noncomputable def uU (a1:System):Option Int:=
 (kK a1.Catalog a1.zD).bind fun x2=>
 if x2 !=0 then
  (some x2)
 else
  ((zFu a1.Catalog a1.zD).bind fun x5=>
  if x5.2 !=0 then
   (some x5.2)
  else
   ((zCY a1.Catalog a1.zD x5.1).bind fun x8=>
   if !x8 then
    (some 1)
   else
    ((zAD a1.zD).bind fun x11=>
    some x11.2)))
noncomputable def zD8 (a1:Int):Option outcome:=
 some ({zC:=({Code:=a1,Choices:=0,System:=({Catalog:=([]:List Pack),zD:=({Files:=([]:List File),Budget:=0,Writes:=0,Stop:=0,Down:=false}:zD)}:System)}:zC),tells:=false}:outcome)
noncomputable def jR (a1:(List Int)):Option (List Int):=
 (app 1 ([]:List Int) a1).bind fun x3=>
 some x3
noncomputable def zEd (a1:zD) (s16:((List File)×Int)):Option (Lp ((List File)×Int) (List File)):=
 if decide (s16.2< (a1.Files.length:Int)) then
  ((idx a1.Files s16.2).bind fun x18=>
  (jR x18.Data).bind fun x20=>
  (app 40 s16.1 [({Path:=x18.Path,Data:=x20}:File)]).bind fun x22=>
  some (Lp.go (x22,w64 (s16.2+1))))
 else
  (some (Lp.done s16.1))
noncomputable def tL (a1:zD):((List File)×Int)→Option (List File):=loop (zEd a1)
noncomputable def uT (a1:zD):Option zD:=
 (tL a1 (([]:List File),0)).bind fun v24=>
 some ({Files:=v24,Budget:=a1.Budget,Writes:=a1.Writes,Stop:=a1.Stop,Down:=a1.Down}:zD)
noncomputable def zER (a1:zD):Option wD:=
 (jB a1).bind fun x2=>
 if x2 !=0 then
  (some ({Code:=x2,zD:=({Files:=([]:List File),Budget:=0,Writes:=0,Stop:=0,Down:=false}:zD)}:wD))
 else
  ((uT a1).bind fun x5=>
  some ({Code:=0,zD:=({Files:=x5.Files,Budget:=x5.Budget,Writes:=x5.Writes,Stop:=x5.Stop,Down:=true}:zD)}:wD))
noncomputable def zFK (a1:System):Option wD:=
 (zER a1.zD).bind fun x2=>
 some x2
noncomputable def vM (a1:(List ByteArray)):Option (List ByteArray):=
 (app 16 ([]:List ByteArray) a1).bind fun x3=>
 some x3
noncomputable def xP (a1:(List Term)):Option (List Term):=
 (app 64 ([]:List Term) a1).bind fun x3=>
 some x3
noncomputable def kH (a1:(List Pack)) (s27:((List Pack)×Int)) (x29:Pack) (x31:(List ByteArray)) (x33:(List Term)) (s42:((List (List Term))×Int)):Option (Lp ((List (List Term))×Int) (List (List Term))):=
 if decide (s42.2< (x29.Needs.length:Int)) then
  ((idx x29.Needs s42.2).bind fun x44=>
  (xP x44).bind fun x46=>
  (app 24 s42.1 [x46]).bind fun x48=>
  some (Lp.go (x48,w64 (s42.2+1))))
 else
  (some (Lp.done s42.1))
noncomputable def zAr (a1:(List Pack)) (s27:((List Pack)×Int)) (x29:Pack) (x31:(List ByteArray)) (x33:(List Term)):((List (List Term))×Int)→Option (List (List Term)):=loop (kH a1 s27 x29 x31 x33)
noncomputable def kE (a1:(List Pack)) (s27:((List Pack)×Int)):Option (Lp ((List Pack)×Int) (List Pack)):=
 if decide (s27.2< (a1.length:Int)) then
  ((idx a1 s27.2).bind fun x29=>
  (vM x29.Provides).bind fun x31=>
  (xP x29.Bars).bind fun x33=>
  (zAr a1 s27 x29 x31 x33 (([]:List (List Term)),0)).bind fun v50=>
  (app 120 s27.1 [({Name:=x29.Name,Version:=x29.Version,Size:=x29.Size,Provides:=x31,Needs:=v50,Bars:=x33}:Pack)]).bind fun x51=>
  some (Lp.go (x51,w64 (s27.2+1))))
 else
  (some (Lp.done s27.1))
noncomputable def zAA (a1:(List Pack)):((List Pack)×Int)→Option (List Pack):=loop (kE a1)
noncomputable def jU (a1:(List Pack)):Option (List Pack):=
 (zAA a1 (([]:List Pack),0)).bind fun v53=>
 some v53
noncomputable def vR (a1:System):Option outcome:=
 (uU a1).bind fun x2=>
 if x2 !=0 then
  ((zD8 x2).bind fun x5=>
  some x5)
 else
  ((zFK a1).bind fun x7=>
  (if x7.Code !=0 then
    (some (x7.Code !=9))
   else
    (some false)).bind fun v10=>
  if v10 then
   ((zD8 x7.Code).bind fun x12=>
   some x12)
  else
   ((jU a1.Catalog).bind fun x14=>
   some ({zC:=({Code:=x7.Code,Choices:=0,System:=({Catalog:=x14,zD:=x7.zD}:System)}:zC),tells:=true}:outcome)))
noncomputable def zGG (a1:System):Option outcome:=
 (vR a1).bind fun x2=>
 some x2
noncomputable def uG (a1:System):Option zC:=
 (zGG a1).bind fun x2=>
 some x2.zC
noncomputable def vW (a1:Version) (a2:Version):Option Bool:=
 if a1.A !=a2.A then
  (some false)
 else
  (if a1.B !=a2.B then
   (some false)
  else
   (if a1.C !=a2.C then
    (some false)
   else
    (some true)))
noncomputable def zCS (a1:(List ByteArray)) (a2:(List ByteArray)) (s10:Int):Option (Lp Int (Fl Bool Unit)):=
 if decide (s10< (a1.length:Int)) then
  ((idx a1 s10).bind fun x12=>
  (idx a2 s10).bind fun x14=>
  if !(seq x12 x14) then
   (some (Lp.done (Fl.ret false)))
  else
   (some (Lp.go (w64 (s10+1)))))
 else
  (some (Lp.done (Fl.nxt ())))
noncomputable def zBH (a1:(List ByteArray)) (a2:(List ByteArray)):Int→Option (Fl Bool Unit):=loop (zCS a1 a2)
noncomputable def zBs (a1:(List ByteArray)) (a2:(List ByteArray)):Option Bool:=
 if (a1.length:Int) !=(a2.length:Int) then
  (some false)
 else
  ((zBH a1 a2 0).bind (Fl.go some fun v17=>
  some true))
noncomputable def zE8 (a1:Term) (a2:Term):Option Bool:=
 if !(seq a1.Name a2.Name) then
  (some false)
 else
  ((vW a1.Low a2.Low).bind fun x4=>
  if !x4 then
   (some false)
  else
   ((vW a1.High a2.High).bind fun x7=>
   if !x7 then
    (some false)
   else
    (some true)))
noncomputable def zE0 (a1:(List Term)) (a2:(List Term)) (s12:Int):Option (Lp Int (Fl Bool Unit)):=
 if decide (s12< (a1.length:Int)) then
  ((idx a1 s12).bind fun x14=>
  (idx a2 s12).bind fun x16=>
  (zE8 x14 x16).bind fun x18=>
  if !x18 then
   (some (Lp.done (Fl.ret false)))
  else
   (some (Lp.go (w64 (s12+1)))))
 else
  (some (Lp.done (Fl.nxt ())))
noncomputable def zDR (a1:(List Term)) (a2:(List Term)):Int→Option (Fl Bool Unit):=loop (zE0 a1 a2)
noncomputable def zAW (a1:(List Term)) (a2:(List Term)):Option Bool:=
 if (a1.length:Int) !=(a2.length:Int) then
  (some false)
 else
  ((zDR a1 a2 0).bind (Fl.go some fun v21=>
  some true))
noncomputable def zDT (a1:(List (List Term))) (a2:(List (List Term))) (s12:Int):Option (Lp Int (Fl Bool Unit)):=
 if decide (s12< (a1.length:Int)) then
  ((idx a1 s12).bind fun x14=>
  (idx a2 s12).bind fun x16=>
  (zAW x14 x16).bind fun x18=>
  if !x18 then
   (some (Lp.done (Fl.ret false)))
  else
   (some (Lp.go (w64 (s12+1)))))
 else
  (some (Lp.done (Fl.nxt ())))
noncomputable def zCu (a1:(List (List Term))) (a2:(List (List Term))):Int→Option (Fl Bool Unit):=loop (zDT a1 a2)
noncomputable def zCn (a1:(List (List Term))) (a2:(List (List Term))):Option Bool:=
 if (a1.length:Int) !=(a2.length:Int) then
  (some false)
 else
  ((zCu a1 a2 0).bind (Fl.go some fun v21=>
  some true))
noncomputable def zE5 (a1:Pack) (a2:Pack):Option Bool:=
 if !(seq a1.Name a2.Name) then
  (some false)
 else
  ((vW a1.Version a2.Version).bind fun x4=>
  if !x4 then
   (some false)
  else
   (if a1.Size !=a2.Size then
    (some false)
   else
    ((zBs a1.Provides a2.Provides).bind fun x8=>
    if !x8 then
     (some false)
    else
     ((zCn a1.Needs a2.Needs).bind fun x11=>
     if !x11 then
      (some false)
     else
      ((zAW a1.Bars a2.Bars).bind fun x14=>
      if !x14 then
       (some false)
      else
       (some true))))))
noncomputable def zE2 (a1:(List Pack)) (a2:(List Pack)) (s12:Int):Option (Lp Int (Fl Bool Unit)):=
 if decide (s12< (a1.length:Int)) then
  ((idx a1 s12).bind fun x14=>
  (idx a2 s12).bind fun x16=>
  (zE5 x14 x16).bind fun x18=>
  if !x18 then
   (some (Lp.done (Fl.ret false)))
  else
   (some (Lp.go (w64 (s12+1)))))
 else
  (some (Lp.done (Fl.nxt ())))
noncomputable def zDr (a1:(List Pack)) (a2:(List Pack)):Int→Option (Fl Bool Unit):=loop (zE2 a1 a2)
noncomputable def zDw (a1:(List Pack)) (a2:(List Pack)):Option Bool:=
 if (a1.length:Int) !=(a2.length:Int) then
  (some false)
 else
  ((zDr a1 a2 0).bind (Fl.go some fun v21=>
  some true))
noncomputable def zEx (a1:(List Int)) (a2:(List Int)) (s10:Int):Option (Lp Int (Fl Bool Unit)):=
 if decide (s10< (a1.length:Int)) then
  ((idx a1 s10).bind fun x12=>
  (idx a2 s10).bind fun x14=>
  if x12 !=x14 then
   (some (Lp.done (Fl.ret false)))
  else
   (some (Lp.go (w64 (s10+1)))))
 else
  (some (Lp.done (Fl.nxt ())))
noncomputable def zDN (a1:(List Int)) (a2:(List Int)):Int→Option (Fl Bool Unit):=loop (zEx a1 a2)
noncomputable def zDC (a1:(List Int)) (a2:(List Int)):Option Bool:=
 if (a1.length:Int) !=(a2.length:Int) then
  (some false)
 else
  ((zDN a1 a2 0).bind (Fl.go some fun v17=>
  some true))
noncomputable def zEB (a1:File) (a2:File):Option Bool:=
 if !(seq a1.Path a2.Path) then
  (some false)
 else
  ((zDC a1.Data a2.Data).bind fun x4=>
  if !x4 then
   (some false)
  else
   (some true))
noncomputable def zEz (a1:(List File)) (a2:(List File)) (s12:Int):Option (Lp Int (Fl Bool Unit)):=
 if decide (s12< (a1.length:Int)) then
  ((idx a1 s12).bind fun x14=>
  (idx a2 s12).bind fun x16=>
  (zEB x14 x16).bind fun x18=>
  if !x18 then
   (some (Lp.done (Fl.ret false)))
  else
   (some (Lp.go (w64 (s12+1)))))
 else
  (some (Lp.done (Fl.nxt ())))
noncomputable def zDi (a1:(List File)) (a2:(List File)):Int→Option (Fl Bool Unit):=loop (zEz a1 a2)
noncomputable def zDn (a1:(List File)) (a2:(List File)):Option Bool:=
 if (a1.length:Int) !=(a2.length:Int) then
  (some false)
 else
  ((zDi a1 a2 0).bind (Fl.go some fun v21=>
  some true))
noncomputable def zEI (a1:zD) (a2:zD):Option Bool:=
 (zDn a1.Files a2.Files).bind fun x3=>
 if !x3 then
  (some false)
 else
  (if a1.Budget !=a2.Budget then
   (some false)
  else
   (if a1.Writes !=a2.Writes then
    (some false)
   else
    (if a1.Stop !=a2.Stop then
     (some false)
    else
     (if !(a1.Down==a2.Down) then
      (some false)
     else
      (some true)))))
noncomputable def kM (a1:System) (a2:System):Option Bool:=
 (zDw a1.Catalog a2.Catalog).bind fun x3=>
 if !x3 then
  (some false)
 else
  ((zEI a1.zD a2.zD).bind fun x6=>
  if !x6 then
   (some false)
  else
   (some true))
noncomputable def wL (a1:zC) (a2:zC):Option Bool:=
 if a1.Code !=a2.Code then
  (some false)
 else
  (if a1.Choices !=a2.Choices then
   (some false)
  else
   ((kM a1.System a2.System).bind fun x5=>
   if !x5 then
    (some false)
   else
    (some true)))
noncomputable def zDS (s6:(Int×ByteArray)):Option (Lp (Int×ByteArray) ByteArray):=
 if decide (s6.1>0) then
  ((cat (b2s [IntKind.u8.wrap (w64 (48+(s6.1.tmod 10)))]) s6.2).bind fun x8=>
  some (Lp.go (w64 (s6.1.tdiv 10),x8)))
 else
  (some (Lp.done s6.2))
noncomputable def zCG:(Int×ByteArray)→Option ByteArray:=loop zDS
noncomputable def xE (a1:Int):Option ByteArray:=
 if decide (a1≤0) then
  (some (bs [109,48]))
 else
  ((zCG (a1,bs [])).bind fun v10=>
  (cat (bs [109]) v10).bind fun x11=>
  some x11)
noncomputable def jD (s8:((List ByteArray)×Int×Int)):Option (Lp ((List ByteArray)×Int×Int) ((List ByteArray)×Int)):=
 if decide (s8.2.2< (s8.1.length:Int)) then
  ((xE s8.2.1).bind fun x10=>
  (idx s8.1 s8.2.2).bind fun x12=>
  some (Lp.go (s8.1.set s8.2.2.toNat x10,w64 (s8.2.1+1),w64 (s8.2.2+1))))
 else
  (some (Lp.done (s8.1,s8.2.1)))
noncomputable def kF:((List ByteArray)×Int×Int)→Option ((List ByteArray)×Int):=loop jD
noncomputable def tH (a1:(List ByteArray)) (a2:Int):Option (Int×(List ByteArray)):=
 (kF (a1,a2,0)).bind fun v14=>
 some (v14.2,v14.1)
noncomputable def zA3 (s20:((List Term)×Int×Int)):Option (Lp ((List Term)×Int×Int) ((List Term)×Int)):=
 if decide (s20.2.2< (s20.1.length:Int)) then
  ((xE s20.2.1).bind fun x22=>
  (idx s20.1 s20.2.2).bind fun x24=>
  (idx (s20.1.set s20.2.2.toNat ({Name:=x22,Low:=x24.Low,High:=x24.High}:Term)) s20.2.2).bind fun x26=>
  (idx ((s20.1.set s20.2.2.toNat ({Name:=x22,Low:=x24.Low,High:=x24.High}:Term)).set s20.2.2.toNat ({Name:=x26.Name,Low:=({A:=w64 (s20.2.1+1),B:=x26.Low.B,C:=x26.Low.C}:Version),High:=x26.High}:Term)) s20.2.2).bind fun x28=>
  (idx (((s20.1.set s20.2.2.toNat ({Name:=x22,Low:=x24.Low,High:=x24.High}:Term)).set s20.2.2.toNat ({Name:=x26.Name,Low:=({A:=w64 (s20.2.1+1),B:=x26.Low.B,C:=x26.Low.C}:Version),High:=x26.High}:Term)).set s20.2.2.toNat ({Name:=x28.Name,Low:=({A:=x28.Low.A,B:=w64 ((w64 (s20.2.1+1))+1),C:=x28.Low.C}:Version),High:=x28.High}:Term)) s20.2.2).bind fun x30=>
  (idx ((((s20.1.set s20.2.2.toNat ({Name:=x22,Low:=x24.Low,High:=x24.High}:Term)).set s20.2.2.toNat ({Name:=x26.Name,Low:=({A:=w64 (s20.2.1+1),B:=x26.Low.B,C:=x26.Low.C}:Version),High:=x26.High}:Term)).set s20.2.2.toNat ({Name:=x28.Name,Low:=({A:=x28.Low.A,B:=w64 ((w64 (s20.2.1+1))+1),C:=x28.Low.C}:Version),High:=x28.High}:Term)).set s20.2.2.toNat ({Name:=x30.Name,Low:=({A:=x30.Low.A,B:=x30.Low.B,C:=w64 ((w64 ((w64 (s20.2.1+1))+1))+1)}:Version),High:=x30.High}:Term)) s20.2.2).bind fun x32=>
  (idx (((((s20.1.set s20.2.2.toNat ({Name:=x22,Low:=x24.Low,High:=x24.High}:Term)).set s20.2.2.toNat ({Name:=x26.Name,Low:=({A:=w64 (s20.2.1+1),B:=x26.Low.B,C:=x26.Low.C}:Version),High:=x26.High}:Term)).set s20.2.2.toNat ({Name:=x28.Name,Low:=({A:=x28.Low.A,B:=w64 ((w64 (s20.2.1+1))+1),C:=x28.Low.C}:Version),High:=x28.High}:Term)).set s20.2.2.toNat ({Name:=x30.Name,Low:=({A:=x30.Low.A,B:=x30.Low.B,C:=w64 ((w64 ((w64 (s20.2.1+1))+1))+1)}:Version),High:=x30.High}:Term)).set s20.2.2.toNat ({Name:=x32.Name,Low:=x32.Low,High:=({A:=w64 ((w64 ((w64 ((w64 (s20.2.1+1))+1))+1))+1),B:=x32.High.B,C:=x32.High.C}:Version)}:Term)) s20.2.2).bind fun x34=>
  (idx ((((((s20.1.set s20.2.2.toNat ({Name:=x22,Low:=x24.Low,High:=x24.High}:Term)).set s20.2.2.toNat ({Name:=x26.Name,Low:=({A:=w64 (s20.2.1+1),B:=x26.Low.B,C:=x26.Low.C}:Version),High:=x26.High}:Term)).set s20.2.2.toNat ({Name:=x28.Name,Low:=({A:=x28.Low.A,B:=w64 ((w64 (s20.2.1+1))+1),C:=x28.Low.C}:Version),High:=x28.High}:Term)).set s20.2.2.toNat ({Name:=x30.Name,Low:=({A:=x30.Low.A,B:=x30.Low.B,C:=w64 ((w64 ((w64 (s20.2.1+1))+1))+1)}:Version),High:=x30.High}:Term)).set s20.2.2.toNat ({Name:=x32.Name,Low:=x32.Low,High:=({A:=w64 ((w64 ((w64 ((w64 (s20.2.1+1))+1))+1))+1),B:=x32.High.B,C:=x32.High.C}:Version)}:Term)).set s20.2.2.toNat ({Name:=x34.Name,Low:=x34.Low,High:=({A:=x34.High.A,B:=w64 ((w64 ((w64 ((w64 ((w64 (s20.2.1+1))+1))+1))+1))+1),C:=x34.High.C}:Version)}:Term)) s20.2.2).bind fun x36=>
  some (Lp.go (((((((s20.1.set s20.2.2.toNat ({Name:=x22,Low:=x24.Low,High:=x24.High}:Term)).set s20.2.2.toNat ({Name:=x26.Name,Low:=({A:=w64 (s20.2.1+1),B:=x26.Low.B,C:=x26.Low.C}:Version),High:=x26.High}:Term)).set s20.2.2.toNat ({Name:=x28.Name,Low:=({A:=x28.Low.A,B:=w64 ((w64 (s20.2.1+1))+1),C:=x28.Low.C}:Version),High:=x28.High}:Term)).set s20.2.2.toNat ({Name:=x30.Name,Low:=({A:=x30.Low.A,B:=x30.Low.B,C:=w64 ((w64 ((w64 (s20.2.1+1))+1))+1)}:Version),High:=x30.High}:Term)).set s20.2.2.toNat ({Name:=x32.Name,Low:=x32.Low,High:=({A:=w64 ((w64 ((w64 ((w64 (s20.2.1+1))+1))+1))+1),B:=x32.High.B,C:=x32.High.C}:Version)}:Term)).set s20.2.2.toNat ({Name:=x34.Name,Low:=x34.Low,High:=({A:=x34.High.A,B:=w64 ((w64 ((w64 ((w64 ((w64 (s20.2.1+1))+1))+1))+1))+1),C:=x34.High.C}:Version)}:Term)).set s20.2.2.toNat ({Name:=x36.Name,Low:=x36.Low,High:=({A:=x36.High.A,B:=x36.High.B,C:=w64 ((w64 ((w64 ((w64 ((w64 ((w64 (s20.2.1+1))+1))+1))+1))+1))+1)}:Version)}:Term),w64 ((w64 ((w64 ((w64 ((w64 ((w64 ((w64 (s20.2.1+1))+1))+1))+1))+1))+1))+1),w64 (s20.2.2+1))))
 else
  (some (Lp.done (s20.1,s20.2.1)))
noncomputable def zAS:((List Term)×Int×Int)→Option ((List Term)×Int):=loop zA3
noncomputable def uI (a1:(List Term)) (a2:Int):Option (Int×(List Term)):=
 (zAS (a1,a2,0)).bind fun v38=>
 some (v38.2,v38.1)
noncomputable def kG (s10:((List (List Term))×Int×Int)):Option (Lp ((List (List Term))×Int×Int) ((List (List Term))×Int)):=
 if decide (s10.2.2< (s10.1.length:Int)) then
  ((idx s10.1 s10.2.2).bind fun x12=>
  (uI x12 s10.2.1).bind fun x14=>
  (same x14.2 x12).bind fun u16=>
  some (Lp.go (s10.1.set s10.2.2.toNat x14.2,x14.1,w64 (s10.2.2+1))))
 else
  (some (Lp.done (s10.1,s10.2.1)))
noncomputable def zAE:((List (List Term))×Int×Int)→Option ((List (List Term))×Int):=loop kG
noncomputable def jX (a1:(List (List Term))) (a2:Int):Option (Int×(List (List Term))):=
 (zAE (a1,a2,0)).bind fun v18=>
 some (v18.2,v18.1)
noncomputable def zAm (s34:((List Pack)×Int×Int)):Option (Lp ((List Pack)×Int×Int) ((List Pack)×Int)):=
 if decide (s34.2.2< (s34.1.length:Int)) then
  ((xE s34.2.1).bind fun x36=>
  (idx s34.1 s34.2.2).bind fun x38=>
  (idx (s34.1.set s34.2.2.toNat ({Name:=x36,Version:=x38.Version,Size:=x38.Size,Provides:=x38.Provides,Needs:=x38.Needs,Bars:=x38.Bars}:Pack)) s34.2.2).bind fun x40=>
  (idx ((s34.1.set s34.2.2.toNat ({Name:=x36,Version:=x38.Version,Size:=x38.Size,Provides:=x38.Provides,Needs:=x38.Needs,Bars:=x38.Bars}:Pack)).set s34.2.2.toNat ({Name:=x40.Name,Version:=({A:=w64 (s34.2.1+1),B:=x40.Version.B,C:=x40.Version.C}:Version),Size:=x40.Size,Provides:=x40.Provides,Needs:=x40.Needs,Bars:=x40.Bars}:Pack)) s34.2.2).bind fun x42=>
  (idx (((s34.1.set s34.2.2.toNat ({Name:=x36,Version:=x38.Version,Size:=x38.Size,Provides:=x38.Provides,Needs:=x38.Needs,Bars:=x38.Bars}:Pack)).set s34.2.2.toNat ({Name:=x40.Name,Version:=({A:=w64 (s34.2.1+1),B:=x40.Version.B,C:=x40.Version.C}:Version),Size:=x40.Size,Provides:=x40.Provides,Needs:=x40.Needs,Bars:=x40.Bars}:Pack)).set s34.2.2.toNat ({Name:=x42.Name,Version:=({A:=x42.Version.A,B:=w64 ((w64 (s34.2.1+1))+1),C:=x42.Version.C}:Version),Size:=x42.Size,Provides:=x42.Provides,Needs:=x42.Needs,Bars:=x42.Bars}:Pack)) s34.2.2).bind fun x44=>
  (idx ((((s34.1.set s34.2.2.toNat ({Name:=x36,Version:=x38.Version,Size:=x38.Size,Provides:=x38.Provides,Needs:=x38.Needs,Bars:=x38.Bars}:Pack)).set s34.2.2.toNat ({Name:=x40.Name,Version:=({A:=w64 (s34.2.1+1),B:=x40.Version.B,C:=x40.Version.C}:Version),Size:=x40.Size,Provides:=x40.Provides,Needs:=x40.Needs,Bars:=x40.Bars}:Pack)).set s34.2.2.toNat ({Name:=x42.Name,Version:=({A:=x42.Version.A,B:=w64 ((w64 (s34.2.1+1))+1),C:=x42.Version.C}:Version),Size:=x42.Size,Provides:=x42.Provides,Needs:=x42.Needs,Bars:=x42.Bars}:Pack)).set s34.2.2.toNat ({Name:=x44.Name,Version:=({A:=x44.Version.A,B:=x44.Version.B,C:=w64 ((w64 ((w64 (s34.2.1+1))+1))+1)}:Version),Size:=x44.Size,Provides:=x44.Provides,Needs:=x44.Needs,Bars:=x44.Bars}:Pack)) s34.2.2).bind fun x46=>
  (idx (((((s34.1.set s34.2.2.toNat ({Name:=x36,Version:=x38.Version,Size:=x38.Size,Provides:=x38.Provides,Needs:=x38.Needs,Bars:=x38.Bars}:Pack)).set s34.2.2.toNat ({Name:=x40.Name,Version:=({A:=w64 (s34.2.1+1),B:=x40.Version.B,C:=x40.Version.C}:Version),Size:=x40.Size,Provides:=x40.Provides,Needs:=x40.Needs,Bars:=x40.Bars}:Pack)).set s34.2.2.toNat ({Name:=x42.Name,Version:=({A:=x42.Version.A,B:=w64 ((w64 (s34.2.1+1))+1),C:=x42.Version.C}:Version),Size:=x42.Size,Provides:=x42.Provides,Needs:=x42.Needs,Bars:=x42.Bars}:Pack)).set s34.2.2.toNat ({Name:=x44.Name,Version:=({A:=x44.Version.A,B:=x44.Version.B,C:=w64 ((w64 ((w64 (s34.2.1+1))+1))+1)}:Version),Size:=x44.Size,Provides:=x44.Provides,Needs:=x44.Needs,Bars:=x44.Bars}:Pack)).set s34.2.2.toNat ({Name:=x46.Name,Version:=x46.Version,Size:=w64 ((w64 ((w64 ((w64 (s34.2.1+1))+1))+1))+1),Provides:=x46.Provides,Needs:=x46.Needs,Bars:=x46.Bars}:Pack)) s34.2.2).bind fun x48=>
  (tH x48.Provides (w64 ((w64 ((w64 ((w64 ((w64 (s34.2.1+1))+1))+1))+1))+1))).bind fun x50=>
  (same x50.2 x48.Provides).bind fun u52=>
  (idx ((((((s34.1.set s34.2.2.toNat ({Name:=x36,Version:=x38.Version,Size:=x38.Size,Provides:=x38.Provides,Needs:=x38.Needs,Bars:=x38.Bars}:Pack)).set s34.2.2.toNat ({Name:=x40.Name,Version:=({A:=w64 (s34.2.1+1),B:=x40.Version.B,C:=x40.Version.C}:Version),Size:=x40.Size,Provides:=x40.Provides,Needs:=x40.Needs,Bars:=x40.Bars}:Pack)).set s34.2.2.toNat ({Name:=x42.Name,Version:=({A:=x42.Version.A,B:=w64 ((w64 (s34.2.1+1))+1),C:=x42.Version.C}:Version),Size:=x42.Size,Provides:=x42.Provides,Needs:=x42.Needs,Bars:=x42.Bars}:Pack)).set s34.2.2.toNat ({Name:=x44.Name,Version:=({A:=x44.Version.A,B:=x44.Version.B,C:=w64 ((w64 ((w64 (s34.2.1+1))+1))+1)}:Version),Size:=x44.Size,Provides:=x44.Provides,Needs:=x44.Needs,Bars:=x44.Bars}:Pack)).set s34.2.2.toNat ({Name:=x46.Name,Version:=x46.Version,Size:=w64 ((w64 ((w64 ((w64 (s34.2.1+1))+1))+1))+1),Provides:=x46.Provides,Needs:=x46.Needs,Bars:=x46.Bars}:Pack)).set s34.2.2.toNat ({Name:=x48.Name,Version:=x48.Version,Size:=x48.Size,Provides:=x50.2,Needs:=x48.Needs,Bars:=x48.Bars}:Pack)) s34.2.2).bind fun x54=>
  (jX x54.Needs x50.1).bind fun x56=>
  (same x56.2 x54.Needs).bind fun u58=>
  (idx (((((((s34.1.set s34.2.2.toNat ({Name:=x36,Version:=x38.Version,Size:=x38.Size,Provides:=x38.Provides,Needs:=x38.Needs,Bars:=x38.Bars}:Pack)).set s34.2.2.toNat ({Name:=x40.Name,Version:=({A:=w64 (s34.2.1+1),B:=x40.Version.B,C:=x40.Version.C}:Version),Size:=x40.Size,Provides:=x40.Provides,Needs:=x40.Needs,Bars:=x40.Bars}:Pack)).set s34.2.2.toNat ({Name:=x42.Name,Version:=({A:=x42.Version.A,B:=w64 ((w64 (s34.2.1+1))+1),C:=x42.Version.C}:Version),Size:=x42.Size,Provides:=x42.Provides,Needs:=x42.Needs,Bars:=x42.Bars}:Pack)).set s34.2.2.toNat ({Name:=x44.Name,Version:=({A:=x44.Version.A,B:=x44.Version.B,C:=w64 ((w64 ((w64 (s34.2.1+1))+1))+1)}:Version),Size:=x44.Size,Provides:=x44.Provides,Needs:=x44.Needs,Bars:=x44.Bars}:Pack)).set s34.2.2.toNat ({Name:=x46.Name,Version:=x46.Version,Size:=w64 ((w64 ((w64 ((w64 (s34.2.1+1))+1))+1))+1),Provides:=x46.Provides,Needs:=x46.Needs,Bars:=x46.Bars}:Pack)).set s34.2.2.toNat ({Name:=x48.Name,Version:=x48.Version,Size:=x48.Size,Provides:=x50.2,Needs:=x48.Needs,Bars:=x48.Bars}:Pack)).set s34.2.2.toNat ({Name:=x54.Name,Version:=x54.Version,Size:=x54.Size,Provides:=x54.Provides,Needs:=x56.2,Bars:=x54.Bars}:Pack)) s34.2.2).bind fun x60=>
  (uI x60.Bars x56.1).bind fun x62=>
  (same x62.2 x60.Bars).bind fun u64=>
  some (Lp.go ((((((((s34.1.set s34.2.2.toNat ({Name:=x36,Version:=x38.Version,Size:=x38.Size,Provides:=x38.Provides,Needs:=x38.Needs,Bars:=x38.Bars}:Pack)).set s34.2.2.toNat ({Name:=x40.Name,Version:=({A:=w64 (s34.2.1+1),B:=x40.Version.B,C:=x40.Version.C}:Version),Size:=x40.Size,Provides:=x40.Provides,Needs:=x40.Needs,Bars:=x40.Bars}:Pack)).set s34.2.2.toNat ({Name:=x42.Name,Version:=({A:=x42.Version.A,B:=w64 ((w64 (s34.2.1+1))+1),C:=x42.Version.C}:Version),Size:=x42.Size,Provides:=x42.Provides,Needs:=x42.Needs,Bars:=x42.Bars}:Pack)).set s34.2.2.toNat ({Name:=x44.Name,Version:=({A:=x44.Version.A,B:=x44.Version.B,C:=w64 ((w64 ((w64 (s34.2.1+1))+1))+1)}:Version),Size:=x44.Size,Provides:=x44.Provides,Needs:=x44.Needs,Bars:=x44.Bars}:Pack)).set s34.2.2.toNat ({Name:=x46.Name,Version:=x46.Version,Size:=w64 ((w64 ((w64 ((w64 (s34.2.1+1))+1))+1))+1),Provides:=x46.Provides,Needs:=x46.Needs,Bars:=x46.Bars}:Pack)).set s34.2.2.toNat ({Name:=x48.Name,Version:=x48.Version,Size:=x48.Size,Provides:=x50.2,Needs:=x48.Needs,Bars:=x48.Bars}:Pack)).set s34.2.2.toNat ({Name:=x54.Name,Version:=x54.Version,Size:=x54.Size,Provides:=x54.Provides,Needs:=x56.2,Bars:=x54.Bars}:Pack)).set s34.2.2.toNat ({Name:=x60.Name,Version:=x60.Version,Size:=x60.Size,Provides:=x60.Provides,Needs:=x60.Needs,Bars:=x62.2}:Pack),x62.1,w64 (s34.2.2+1))))
 else
  (some (Lp.done (s34.1,s34.2.1)))
noncomputable def zBo:((List Pack)×Int×Int)→Option ((List Pack)×Int):=loop zAm
noncomputable def zA7 (a1:(List Pack)) (a2:Int):Option (Int×(List Pack)):=
 (zBo (a1,a2,0)).bind fun v66=>
 some (v66.2,v66.1)
noncomputable def zAx (s6:((List Int)×Int×Int)):Option (Lp ((List Int)×Int×Int) ((List Int)×Int)):=
 if decide (s6.2.2< (s6.1.length:Int)) then
  ((idx s6.1 s6.2.2).bind fun x8=>
  some (Lp.go (s6.1.set s6.2.2.toNat (IntKind.u8.wrap (s6.2.1)),w64 (s6.2.1+1),w64 (s6.2.2+1))))
 else
  (some (Lp.done (s6.1,s6.2.1)))
noncomputable def zBe:((List Int)×Int×Int)→Option ((List Int)×Int):=loop zAx
noncomputable def zAp (a1:(List Int)) (a2:Int):Option (Int×(List Int)):=
 (zBe (a1,a2,0)).bind fun v10=>
 some (v10.2,v10.1)
noncomputable def zAz (s14:((List File)×Int×Int)):Option (Lp ((List File)×Int×Int) ((List File)×Int)):=
 if decide (s14.2.2< (s14.1.length:Int)) then
  ((xE s14.2.1).bind fun x16=>
  (idx s14.1 s14.2.2).bind fun x18=>
  (idx (s14.1.set s14.2.2.toNat ({Path:=x16,Data:=x18.Data}:File)) s14.2.2).bind fun x20=>
  (zAp x20.Data (w64 (s14.2.1+1))).bind fun x22=>
  (same x22.2 x20.Data).bind fun u24=>
  some (Lp.go ((s14.1.set s14.2.2.toNat ({Path:=x16,Data:=x18.Data}:File)).set s14.2.2.toNat ({Path:=x20.Path,Data:=x22.2}:File),x22.1,w64 (s14.2.2+1))))
 else
  (some (Lp.done (s14.1,s14.2.1)))
noncomputable def zAX:((List File)×Int×Int)→Option ((List File)×Int):=loop zAz
noncomputable def zAC (a1:(List File)) (a2:Int):Option (Int×(List File)):=
 (zAX (a1,a2,0)).bind fun v26=>
 some (v26.2,v26.1)
noncomputable def zBx (a1:zD) (a2:Int):Option (Int×(List File)):=
 (zAC a1.Files a2).bind fun x3=>
 (same x3.2 a1.Files).bind fun u5=>
 some (x3.1,x3.2)
noncomputable def vX (a1:System) (a2:Int):Option (Int×(List Pack)×(List File)):=
 (zA7 a1.Catalog a2).bind fun x3=>
 (same x3.2 a1.Catalog).bind fun u5=>
 (zBx a1.zD x3.1).bind fun x7=>
 (same x7.2 a1.zD.Files).bind fun u9=>
 some (x7.1,x3.2,x7.2)
noncomputable def vF (a1:zC) (a2:Int):Option (Int×(List Pack)×(List File)):=
 (vX a1.System a2).bind fun x3=>
 (same x3.2.1 a1.System.Catalog).bind fun u5=>
 (same x3.2.2 a1.System.zD.Files).bind fun u7=>
 some (x3.1,x3.2.1,x3.2.2)
noncomputable def kD (a1:(List ByteArray)) (s9:(Int×Int)):Option (Lp (Int×Int) (Fl Int Int)):=
 if decide (s9.2< (a1.length:Int)) then
  ((idx a1 s9.2).bind fun x11=>
  (xE s9.1).bind fun x13=>
  if !(seq x11 x13) then
   (some (Lp.done (Fl.ret (-1))))
  else
   (some (Lp.go (w64 (s9.1+1),w64 (s9.2+1)))))
 else
  (some (Lp.done (Fl.nxt s9.1)))
noncomputable def zAu (a1:(List ByteArray)):(Int×Int)→Option (Fl Int Int):=loop (kD a1)
noncomputable def jV (a1:(List ByteArray)) (a2:Int):Option Int:=
 (zAu a1 (a2,0)).bind (Fl.go some fun v16=>
 some v16)
noncomputable def zBm (a1:(List Term)) (s27:(Int×Int)):Option (Lp (Int×Int) (Fl Int Int)):=
 if decide (s27.2< (a1.length:Int)) then
  ((idx a1 s27.2).bind fun x29=>
  (xE s27.1).bind fun x31=>
  if !(seq x29.Name x31) then
   (some (Lp.done (Fl.ret (-1))))
  else
   ((idx a1 s27.2).bind fun x34=>
   if x34.Low.A !=(w64 (s27.1+1)) then
    (some (Lp.done (Fl.ret (-1))))
   else
    ((idx a1 s27.2).bind fun x37=>
    if x37.Low.B !=(w64 ((w64 (s27.1+1))+1)) then
     (some (Lp.done (Fl.ret (-1))))
    else
     ((idx a1 s27.2).bind fun x40=>
     if x40.Low.C !=(w64 ((w64 ((w64 (s27.1+1))+1))+1)) then
      (some (Lp.done (Fl.ret (-1))))
     else
      ((idx a1 s27.2).bind fun x43=>
      if x43.High.A !=(w64 ((w64 ((w64 ((w64 (s27.1+1))+1))+1))+1)) then
       (some (Lp.done (Fl.ret (-1))))
      else
       ((idx a1 s27.2).bind fun x46=>
       if x46.High.B !=(w64 ((w64 ((w64 ((w64 ((w64 (s27.1+1))+1))+1))+1))+1)) then
        (some (Lp.done (Fl.ret (-1))))
       else
        ((idx a1 s27.2).bind fun x49=>
        if x49.High.C !=(w64 ((w64 ((w64 ((w64 ((w64 ((w64 (s27.1+1))+1))+1))+1))+1))+1)) then
         (some (Lp.done (Fl.ret (-1))))
        else
         (some (Lp.go (w64 ((w64 ((w64 ((w64 ((w64 ((w64 ((w64 (s27.1+1))+1))+1))+1))+1))+1))+1),w64 (s27.2+1)))))))))))
 else
  (some (Lp.done (Fl.nxt s27.1)))
noncomputable def zCa (a1:(List Term)):(Int×Int)→Option (Fl Int Int):=loop (zBm a1)
noncomputable def tZ (a1:(List Term)) (a2:Int):Option Int:=
 (zCa a1 (a2,0)).bind (Fl.go some fun v52=>
 some v52)
noncomputable def zA0 (a1:(List (List Term))) (s9:(Int×Int)):Option (Lp (Int×Int) (Fl Int Int)):=
 if decide (s9.2< (a1.length:Int)) then
  ((idx a1 s9.2).bind fun x11=>
  (tZ x11 s9.1).bind fun x13=>
  if decide (x13<0) then
   (some (Lp.done (Fl.ret (-1))))
  else
   (some (Lp.go (x13,w64 (s9.2+1)))))
 else
  (some (Lp.done (Fl.nxt s9.1)))
noncomputable def zAU (a1:(List (List Term))):(Int×Int)→Option (Fl Int Int):=loop (zA0 a1)
noncomputable def zA4 (a1:(List (List Term))) (a2:Int):Option Int:=
 (zAU a1 (a2,0)).bind (Fl.go some fun v16=>
 some v16)
noncomputable def zAO (a1:(List Pack)) (s36:(Int×Int)):Option (Lp (Int×Int) (Fl Int Int)):=
 if decide (s36.2< (a1.length:Int)) then
  ((idx a1 s36.2).bind fun x38=>
  (xE s36.1).bind fun x40=>
  if !(seq x38.Name x40) then
   (some (Lp.done (Fl.ret (-1))))
  else
   ((idx a1 s36.2).bind fun x43=>
   if x43.Version.A !=(w64 (s36.1+1)) then
    (some (Lp.done (Fl.ret (-1))))
   else
    ((idx a1 s36.2).bind fun x46=>
    if x46.Version.B !=(w64 ((w64 (s36.1+1))+1)) then
     (some (Lp.done (Fl.ret (-1))))
    else
     ((idx a1 s36.2).bind fun x49=>
     if x49.Version.C !=(w64 ((w64 ((w64 (s36.1+1))+1))+1)) then
      (some (Lp.done (Fl.ret (-1))))
     else
      ((idx a1 s36.2).bind fun x52=>
      if x52.Size !=(w64 ((w64 ((w64 ((w64 (s36.1+1))+1))+1))+1)) then
       (some (Lp.done (Fl.ret (-1))))
      else
       ((idx a1 s36.2).bind fun x55=>
       (jV x55.Provides (w64 ((w64 ((w64 ((w64 ((w64 (s36.1+1))+1))+1))+1))+1))).bind fun x57=>
       if decide (x57<0) then
        (some (Lp.done (Fl.ret (-1))))
       else
        ((idx a1 s36.2).bind fun x60=>
        (zA4 x60.Needs x57).bind fun x62=>
        if decide (x62<0) then
         (some (Lp.done (Fl.ret (-1))))
        else
         ((idx a1 s36.2).bind fun x65=>
         (tZ x65.Bars x62).bind fun x67=>
         if decide (x67<0) then
          (some (Lp.done (Fl.ret (-1))))
         else
          (some (Lp.go (x67,w64 (s36.2+1))))))))))))
 else
  (some (Lp.done (Fl.nxt s36.1)))
noncomputable def zBQ (a1:(List Pack)):(Int×Int)→Option (Fl Int Int):=loop (zAO a1)
noncomputable def zB9 (a1:(List Pack)) (a2:Int):Option Int:=
 (zBQ a1 (a2,0)).bind (Fl.go some fun v70=>
 some v70)
noncomputable def zBl (a1:(List Int)) (s7:(Int×Int)):Option (Lp (Int×Int) (Fl Int Int)):=
 if decide (s7.2< (a1.length:Int)) then
  ((idx a1 s7.2).bind fun x9=>
  if x9 !=(IntKind.u8.wrap (s7.1)) then
   (some (Lp.done (Fl.ret (-1))))
  else
   (some (Lp.go (w64 (s7.1+1),w64 (s7.2+1)))))
 else
  (some (Lp.done (Fl.nxt s7.1)))
noncomputable def zBF (a1:(List Int)):(Int×Int)→Option (Fl Int Int):=loop (zBl a1)
noncomputable def zB7 (a1:(List Int)) (a2:Int):Option Int:=
 (zBF a1 (a2,0)).bind (Fl.go some fun v12=>
 some v12)
noncomputable def zBi (a1:(List File)) (s14:(Int×Int)):Option (Lp (Int×Int) (Fl Int Int)):=
 if decide (s14.2< (a1.length:Int)) then
  ((idx a1 s14.2).bind fun x16=>
  (xE s14.1).bind fun x18=>
  if !(seq x16.Path x18) then
   (some (Lp.done (Fl.ret (-1))))
  else
   ((idx a1 s14.2).bind fun x21=>
   (zB7 x21.Data (w64 (s14.1+1))).bind fun x23=>
   if decide (x23<0) then
    (some (Lp.done (Fl.ret (-1))))
   else
    (some (Lp.go (x23,w64 (s14.2+1))))))
 else
  (some (Lp.done (Fl.nxt s14.1)))
noncomputable def zCd (a1:(List File)):(Int×Int)→Option (Fl Int Int):=loop (zBi a1)
noncomputable def zBy (a1:(List File)) (a2:Int):Option Int:=
 (zCd a1 (a2,0)).bind (Fl.go some fun v26=>
 some v26)
noncomputable def zCq (a1:zD) (a2:Int):Option Int:=
 (zBy a1.Files a2).bind fun x3=>
 if decide (x3<0) then
  (some (-1))
 else
  (some x3)
noncomputable def zA8 (a1:System) (a2:Int):Option Int:=
 (zB9 a1.Catalog a2).bind fun x3=>
 if decide (x3<0) then
  (some (-1))
 else
  ((zCq a1.zD x3).bind fun x6=>
  if decide (x6<0) then
   (some (-1))
  else
   (some x6))
noncomputable def wO (a1:zC) (a2:Int):Option Int:=
 (zA8 a1.System a2).bind fun x3=>
 if decide (x3<0) then
  (some (-1))
 else
  (some x3)
noncomputable def vH (a1:System):Option Bool:=
 (zCm a1 1048576).bind fun x2=>
 if decide (x2<0) then
  (some true)
 else
  ((vK a1).bind fun x5=>
  (kV x5).bind fun x7=>
  (vK a1).bind fun x9=>
  (uG x9).bind fun x11=>
  (wL x11 x7).bind fun x13=>
  if !x13 then
   (some false)
  else
   ((vK a1).bind fun x16=>
   (kM x9 x16).bind fun x18=>
   if !x18 then
    (some false)
   else
    ((vX x9 1).bind fun x21=>
    (if decide (x21.1<0) then
      (some true)
     else
      ((wL x11 x7).bind fun x24=>
      some (!x24))).bind fun v26=>
    if v26 then
     (some false)
    else
     ((vF x11 1).bind fun x28=>
     (same x28.2.1 x11.System.Catalog).bind fun u30=>
     (same x28.2.2 x11.System.zD.Files).bind fun u32=>
     (wO ({Code:=x11.Code,Choices:=x11.Choices,System:=({Catalog:=x28.2.1,zD:=({Files:=x28.2.2,Budget:=x11.System.zD.Budget,Writes:=x11.System.zD.Writes,Stop:=x11.System.zD.Stop,Down:=x11.System.zD.Down}:zD)}:System)}:zC) 1).bind fun x34=>
     if decide (x34<0) then
      (some false)
     else
      (if x34 !=x28.1 then
       (some false)
      else
       ((vK a1).bind fun x38=>
       (uG x38).bind fun x40=>
       (wL x40 x7).bind fun x42=>
       if !x42 then
        (some false)
       else
        ((wO ({Code:=x11.Code,Choices:=x11.Choices,System:=({Catalog:=x28.2.1,zD:=({Files:=x28.2.2,Budget:=x11.System.zD.Budget,Writes:=x11.System.zD.Writes,Stop:=x11.System.zD.Stop,Down:=x11.System.zD.Down}:zD)}:System)}:zC) 1).bind fun x45=>
        if decide (x45<0) then
         (some false)
        else
         (if x45 !=x28.1 then
          (some false)
         else
          (some true)))))))))
end Go.Told

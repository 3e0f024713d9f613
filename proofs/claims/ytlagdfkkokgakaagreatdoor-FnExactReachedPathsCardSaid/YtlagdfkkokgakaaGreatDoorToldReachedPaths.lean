import Derived.Test.YtlagdfkkokgakaaGreatDoorImF
set_option linter.unusedVariables false
set_option maxRecDepth 4000
namespace Go.Told
open Go Go.Im
structure Version where
 A:Int
 B:Int
 C:Int
 deriving DecidableEq
def Version.enc (x:Version):List D:=[.sc (.int .i64 x.A),.sc (.int .i64 x.B),.sc (.int .i64 x.C)]
theorem Version.fl (x:Version):zDv (Version.enc x):=(flatK yH (flatK yH (flatK yH zDT)))
structure Term where
 Name:ByteArray
 Low:Version
 High:Version
 deriving DecidableEq
def Term.enc (x:Term):List D:=[.sc (.string x.Name),.sc (.int .i64 x.Low.A),.sc (.int .i64 x.Low.B),.sc (.int .i64 x.Low.C),.sc (.int .i64 x.High.A),.sc (.int .i64 x.High.B),.sc (.int .i64 x.High.C)]
theorem Term.fl (x:Term):zDv (Term.enc x):=(flatK yH (flatK yH (flatK yH (flatK yH (flatK yH (flatK yH (flatK yH zDT)))))))
structure Pack where
 Name:ByteArray
 Version:Version
 Size:Int
 Provides:(List ByteArray)
 Needs:(List (List Term))
 Bars:(List Term)
 deriving DecidableEq
def Pack.enc (o:Bool) (x:Pack):List D:=[.sc (.string x.Name),.sc (.int .i64 x.Version.A),.sc (.int .i64 x.Version.B),.sc (.int .i64 x.Version.C),.sc (.int .i64 x.Size),.s o 1 x.Provides.length (x.Provides.map eStr),.s o 1 x.Needs.length (x.Needs.map (eSl o 7 Term.enc)),.s o 7 x.Bars.length (x.Bars.map Term.enc)]
theorem Pack.ro (o:Bool) (x:Pack):D.ro.roC (Pack.enc o x)=Pack.enc false x:=by
 simp only [Pack.enc,D.ro.roC,D.ro,zDY (enc:=eStr) (enc':=eStr) (fun _=>rfl),zDY (enc:=(eSl o 7 Term.enc)) (enc':=(eSl false 7 Term.enc)) (zNU (fun _=>rfl)),zDY (enc:=Term.enc) (enc':=Term.enc) (fun _=>rfl)]
theorem Pack.fl (x:Pack):zDv (Pack.enc true x):=(flatK yH (flatK yH (flatK yH (flatK yH (flatK yH (flatK (zDS (zFi (fun _=>(flatK yH zDT)) _)) (flatK (zDS (zFi (fun _=>(flatK (zDS (zFi (fun _=>(Term.fl _)) _)) zDT)) _)) (flatK (zDS (zFi (fun _=>(Term.fl _)) _)) zDT))))))))
structure File where
 Path:ByteArray
 Data:(List Int)
 deriving DecidableEq
def File.enc (o:Bool) (x:File):List D:=[.sc (.string x.Path),.s o 1 x.Data.length (x.Data.map eU8)]
theorem File.ro (o:Bool) (x:File):D.ro.roC (File.enc o x)=File.enc false x:=by
 simp only [File.enc,D.ro.roC,D.ro,zDY (enc:=eU8) (enc':=eU8) (fun _=>rfl)]
theorem File.fl (x:File):zDv (File.enc true x):=(flatK yH (flatK (zDS (zFi (fun _=>(flatK yH zDT)) _)) zDT))
structure zL where
 Files:(List File)
 Budget:Int
 Writes:Int
 Stop:Int
 Down:Bool
 deriving DecidableEq
def zL.enc (o:Bool) (x:zL):List D:=[.s o 2 x.Files.length (x.Files.map (File.enc o)),.sc (.int .i64 x.Budget),.sc (.int .i64 x.Writes),.sc (.int .i64 x.Stop),.sc (.bool x.Down)]
theorem zL.ro (o:Bool) (x:zL):D.ro.roC (zL.enc o x)=zL.enc false x:=by
 simp only [zL.enc,D.ro.roC,D.ro,zDY (enc:=(File.enc o)) (enc':=(File.enc false)) (File.ro o)]
theorem zL.fl (x:zL):zDv (zL.enc true x):=(flatK (zDS (zFi (fun _=>(File.fl _)) _)) (flatK yH (flatK yH (flatK yH (flatK yH zDT)))))
structure zJ where
 Code:Int
 Names:(List ByteArray)
 deriving DecidableEq
def zJ.enc (o:Bool) (x:zJ):List D:=[.sc (.int .i64 x.Code),.s o 1 x.Names.length (x.Names.map eStr)]
theorem zJ.ro (o:Bool) (x:zJ):D.ro.roC (zJ.enc o x)=zJ.enc false x:=by
 simp only [zJ.enc,D.ro.roC,D.ro,zDY (enc:=eStr) (enc':=eStr) (fun _=>rfl)]
theorem zJ.fl (x:zJ):zDv (zJ.enc true x):=(flatK yH (flatK (zDS (zFi (fun _=>(flatK yH zDT)) _)) zDT))
structure yE where
 Code:Int
 At:Int
 Set:(List Int)
 deriving DecidableEq
def yE.enc (o:Bool) (x:yE):List D:=[.sc (.int .i64 x.Code),.sc (.int .i64 x.At),.s o 1 x.Set.length (x.Set.map zI)]
theorem yE.ro (o:Bool) (x:yE):D.ro.roC (yE.enc o x)=yE.enc false x:=by
 simp only [yE.enc,D.ro.roC,D.ro,zDY (enc:=zI) (enc':=zI) (fun _=>rfl)]
theorem yE.fl (x:yE):zDv (yE.enc true x):=(flatK yH (flatK yH (flatK (zDS (zFi (fun _=>(flatK yH zDT)) _)) zDT)))
structure zO where
 Code:Int
 Version:Version
 deriving DecidableEq
def zO.enc (x:zO):List D:=[.sc (.int .i64 x.Code),.sc (.int .i64 x.Version.A),.sc (.int .i64 x.Version.B),.sc (.int .i64 x.Version.C)]
theorem zO.fl (x:zO):zDv (zO.enc x):=(flatK yH (flatK yH (flatK yH (flatK yH zDT))))
noncomputable def zAo (a1:(List ByteArray)) (s8:(Int×Int)):Option (Lp (Int×Int) (Fl Int Int)):=
 if decide (s8.2< (a1.length:Int)) then
  ((idx a1 s8.2).bind fun x10=>
  if decide ((w64 (s8.1-(x10.size:Int)))<0) then
   (some (Lp.done (Fl.ret (-1))))
  else
   (some (Lp.go (w64 (s8.1-(x10.size:Int)),w64 (s8.2+1)))))
 else
  (some (Lp.done (Fl.nxt s8.1)))
noncomputable def zAB (a1:(List ByteArray)):(Int×Int)→Option (Fl Int Int):=loop (zAo a1)
noncomputable def zAz (a1:(List ByteArray)) (a2:Int):Option Int:=
 if decide ((w64 (a2-(a1.length:Int)))<0) then
  (some (-1))
 else
  ((zAB a1 (w64 (a2-(a1.length:Int)),0)).bind (Fl.go some fun v13=>
  some v13))
noncomputable def zCt (a1:Term) (a2:Int):Option Int:=
 if decide ((w64 (a2-(a1.Name.size:Int)))<0) then
  (some (-1))
 else
  (some (w64 (a2-(a1.Name.size:Int))))
noncomputable def zAL (a1:(List Term)) (s10:(Int×Int)):Option (Lp (Int×Int) (Fl Int Int)):=
 if decide (s10.2< (a1.length:Int)) then
  ((idx a1 s10.2).bind fun x12=>
  (zCt x12 s10.1).bind fun x14=>
  if decide (x14<0) then
   (some (Lp.done (Fl.ret (-1))))
  else
   (some (Lp.go (x14,w64 (s10.2+1)))))
 else
  (some (Lp.done (Fl.nxt s10.1)))
noncomputable def zB2 (a1:(List Term)):(Int×Int)→Option (Fl Int Int):=loop (zAL a1)
noncomputable def zAn (a1:(List Term)) (a2:Int):Option Int:=
 if decide ((w64 (a2-(a1.length:Int)))<0) then
  (some (-1))
 else
  ((zB2 a1 (w64 (a2-(a1.length:Int)),0)).bind (Fl.go some fun v17=>
  some v17))
noncomputable def zA2 (a1:(List (List Term))) (s10:(Int×Int)):Option (Lp (Int×Int) (Fl Int Int)):=
 if decide (s10.2< (a1.length:Int)) then
  ((idx a1 s10.2).bind fun x12=>
  (zAn x12 s10.1).bind fun x14=>
  if decide (x14<0) then
   (some (Lp.done (Fl.ret (-1))))
  else
   (some (Lp.go (x14,w64 (s10.2+1)))))
 else
  (some (Lp.done (Fl.nxt s10.1)))
noncomputable def zAQ (a1:(List (List Term))):(Int×Int)→Option (Fl Int Int):=loop (zA2 a1)
noncomputable def zAG (a1:(List (List Term))) (a2:Int):Option Int:=
 if decide ((w64 (a2-(a1.length:Int)))<0) then
  (some (-1))
 else
  ((zAQ a1 (w64 (a2-(a1.length:Int)),0)).bind (Fl.go some fun v17=>
  some v17))
noncomputable def zC4 (a1:Pack) (a2:Int):Option Int:=
 if decide ((w64 (a2-(a1.Name.size:Int)))<0) then
  (some (-1))
 else
  ((zAz a1.Provides (w64 (a2-(a1.Name.size:Int)))).bind fun x4=>
  if decide (x4<0) then
   (some (-1))
  else
   ((zAG a1.Needs x4).bind fun x7=>
   if decide (x7<0) then
    (some (-1))
   else
    ((zAn a1.Bars x7).bind fun x10=>
    if decide (x10<0) then
     (some (-1))
    else
     (some x10))))
noncomputable def zAP (a1:(List Pack)) (s10:(Int×Int)):Option (Lp (Int×Int) (Fl Int Int)):=
 if decide (s10.2< (a1.length:Int)) then
  ((idx a1 s10.2).bind fun x12=>
  (zC4 x12 s10.1).bind fun x14=>
  if decide (x14<0) then
   (some (Lp.done (Fl.ret (-1))))
  else
   (some (Lp.go (x14,w64 (s10.2+1)))))
 else
  (some (Lp.done (Fl.nxt s10.1)))
noncomputable def zBo (a1:(List Pack)):(Int×Int)→Option (Fl Int Int):=loop (zAP a1)
noncomputable def zB4 (a1:(List Pack)) (a2:Int):Option Int:=
 if decide ((w64 (a2-(a1.length:Int)))<0) then
  (some (-1))
 else
  ((zBo a1 (w64 (a2-(a1.length:Int)),0)).bind (Fl.go some fun v17=>
  some v17))
noncomputable def zB1 (a1:(List Int)) (a2:Int):Option Int:=
 if decide ((w64 (a2-(a1.length:Int)))<0) then
  (some (-1))
 else
  (some (w64 (a2-(a1.length:Int))))
noncomputable def zC7 (a1:File) (a2:Int):Option Int:=
 if decide ((w64 (a2-(a1.Path.size:Int)))<0) then
  (some (-1))
 else
  ((zB1 a1.Data (w64 (a2-(a1.Path.size:Int)))).bind fun x4=>
  if decide (x4<0) then
   (some (-1))
  else
   (some x4))
noncomputable def zAO (a1:(List File)) (s10:(Int×Int)):Option (Lp (Int×Int) (Fl Int Int)):=
 if decide (s10.2< (a1.length:Int)) then
  ((idx a1 s10.2).bind fun x12=>
  (zC7 x12 s10.1).bind fun x14=>
  if decide (x14<0) then
   (some (Lp.done (Fl.ret (-1))))
  else
   (some (Lp.go (x14,w64 (s10.2+1)))))
 else
  (some (Lp.done (Fl.nxt s10.1)))
noncomputable def zBA (a1:(List File)):(Int×Int)→Option (Fl Int Int):=loop (zAO a1)
noncomputable def zBx (a1:(List File)) (a2:Int):Option Int:=
 if decide ((w64 (a2-(a1.length:Int)))<0) then
  (some (-1))
 else
  ((zBA a1 (w64 (a2-(a1.length:Int)),0)).bind (Fl.go some fun v17=>
  some v17))
noncomputable def zC2 (a1:zL) (a2:Int):Option Int:=
 (zBx a1.Files a2).bind fun x3=>
 if decide (x3<0) then
  (some (-1))
 else
  (some x3)
noncomputable def wO (a1:Version):Option Version:=
 some a1
noncomputable def zBi (a1:(List ByteArray)) (s9:((List ByteArray)×Int)):Option (Lp ((List ByteArray)×Int) (List ByteArray)):=
 if decide (s9.2< (a1.length:Int)) then
  ((idx a1 s9.2).bind fun x11=>
  (idx s9.1 s9.2).bind fun x13=>
  some (Lp.go (s9.1.set s9.2.toNat x11,w64 (s9.2+1))))
 else
  (some (Lp.done s9.1))
noncomputable def zA7 (a1:(List ByteArray)):((List ByteArray)×Int)→Option (List ByteArray):=loop (zBi a1)
noncomputable def zAx (a1:(List ByteArray)):Option (List ByteArray):=
 (mk 16 (a1.length:Int) ByteArray.empty).bind fun x2=>
 (zA7 a1 (x2,0)).bind fun v15=>
 some v15
noncomputable def zC3 (a1:Term):Option Term:=
 (wO a1.Low).bind fun x2=>
 (wO a1.High).bind fun x4=>
 some ({Name:=a1.Name,Low:=x2,High:=x4}:Term)
noncomputable def zCp (a1:(List Term)) (s11:((List Term)×Int)):Option (Lp ((List Term)×Int) (List Term)):=
 if decide (s11.2< (a1.length:Int)) then
  ((idx a1 s11.2).bind fun x13=>
  (zC3 x13).bind fun x15=>
  (idx s11.1 s11.2).bind fun x17=>
  some (Lp.go (s11.1.set s11.2.toNat x15,w64 (s11.2+1))))
 else
  (some (Lp.done s11.1))
noncomputable def zBy (a1:(List Term)):((List Term)×Int)→Option (List Term):=loop (zCp a1)
noncomputable def zAc (a1:(List Term)):Option (List Term):=
 (mk 64 (a1.length:Int) ({Name:=ByteArray.empty,Low:=({A:=0,B:=0,C:=0}:Version),High:=({A:=0,B:=0,C:=0}:Version)}:Term)).bind fun x2=>
 (zBy a1 (x2,0)).bind fun v19=>
 some v19
noncomputable def zBV (a1:(List (List Term))) (s11:((List (List Term))×Int)):Option (Lp ((List (List Term))×Int) (List (List Term))):=
 if decide (s11.2< (a1.length:Int)) then
  ((idx a1 s11.2).bind fun x13=>
  (zAc x13).bind fun x15=>
  (idx s11.1 s11.2).bind fun x17=>
  some (Lp.go (s11.1.set s11.2.toNat x15,w64 (s11.2+1))))
 else
  (some (Lp.done s11.1))
noncomputable def zBb (a1:(List (List Term))):((List (List Term))×Int)→Option (List (List Term)):=loop (zBV a1)
noncomputable def zAE (a1:(List (List Term))):Option (List (List Term)):=
 (mk 24 (a1.length:Int) ([]:List Term)).bind fun x2=>
 (zBb a1 (x2,0)).bind fun v19=>
 some v19
noncomputable def zCu (a1:Pack):Option Pack:=
 (wO a1.Version).bind fun x2=>
 (zAx a1.Provides).bind fun x4=>
 (zAE a1.Needs).bind fun x6=>
 (zAc a1.Bars).bind fun x8=>
 some ({Name:=a1.Name,Version:=x2,Size:=a1.Size,Provides:=x4,Needs:=x6,Bars:=x8}:Pack)
noncomputable def zCi (a1:(List Pack)) (s11:((List Pack)×Int)):Option (Lp ((List Pack)×Int) (List Pack)):=
 if decide (s11.2< (a1.length:Int)) then
  ((idx a1 s11.2).bind fun x13=>
  (zCu x13).bind fun x15=>
  (idx s11.1 s11.2).bind fun x17=>
  some (Lp.go (s11.1.set s11.2.toNat x15,w64 (s11.2+1))))
 else
  (some (Lp.done s11.1))
noncomputable def zBq (a1:(List Pack)):((List Pack)×Int)→Option (List Pack):=loop (zCi a1)
noncomputable def wW (a1:(List Pack)):Option (List Pack):=
 (mk 120 (a1.length:Int) ({Name:=ByteArray.empty,Version:=({A:=0,B:=0,C:=0}:Version),Size:=0,Provides:=([]:List ByteArray),Needs:=([]:List (List Term)),Bars:=([]:List Term)}:Pack)).bind fun x2=>
 (zBq a1 (x2,0)).bind fun v19=>
 some v19
noncomputable def zCn (a1:(List Int)) (s9:((List Int)×Int)):Option (Lp ((List Int)×Int) (List Int)):=
 if decide (s9.2< (a1.length:Int)) then
  ((idx a1 s9.2).bind fun x11=>
  (idx s9.1 s9.2).bind fun x13=>
  some (Lp.go (s9.1.set s9.2.toNat x11,w64 (s9.2+1))))
 else
  (some (Lp.done s9.1))
noncomputable def zBw (a1:(List Int)):((List Int)×Int)→Option (List Int):=loop (zCn a1)
noncomputable def zB3 (a1:(List Int)):Option (List Int):=
 (mk 1 (a1.length:Int) 0).bind fun x2=>
 (zBw a1 (x2,0)).bind fun v15=>
 some v15
noncomputable def zCx (a1:File):Option File:=
 (zB3 a1.Data).bind fun x2=>
 some ({Path:=a1.Path,Data:=x2}:File)
noncomputable def zCj (a1:(List File)) (s11:((List File)×Int)):Option (Lp ((List File)×Int) (List File)):=
 if decide (s11.2< (a1.length:Int)) then
  ((idx a1 s11.2).bind fun x13=>
  (zCx x13).bind fun x15=>
  (idx s11.1 s11.2).bind fun x17=>
  some (Lp.go (s11.1.set s11.2.toNat x15,w64 (s11.2+1))))
 else
  (some (Lp.done s11.1))
noncomputable def zBE (a1:(List File)):((List File)×Int)→Option (List File):=loop (zCj a1)
noncomputable def zBv (a1:(List File)):Option (List File):=
 (mk 40 (a1.length:Int) ({Path:=ByteArray.empty,Data:=([]:List Int)}:File)).bind fun x2=>
 (zBE a1 (x2,0)).bind fun v19=>
 some v19
noncomputable def uD (a1:zL):Option zL:=
 (zBv a1.Files).bind fun x2=>
 some ({Files:=x2,Budget:=a1.Budget,Writes:=a1.Writes,Stop:=a1.Stop,Down:=a1.Down}:zL)
noncomputable def zBX (a1:(List Int)) (s9:((List Int)×Int)):Option (Lp ((List Int)×Int) (List Int)):=
 if decide (s9.2< (a1.length:Int)) then
  ((idx a1 s9.2).bind fun x11=>
  (idx s9.1 s9.2).bind fun x13=>
  some (Lp.go (s9.1.set s9.2.toNat x11,w64 (s9.2+1))))
 else
  (some (Lp.done s9.1))
noncomputable def zAV (a1:(List Int)):((List Int)×Int)→Option (List Int):=loop (zBX a1)
noncomputable def xZ (a1:(List Int)):Option (List Int):=
 (mk 8 (a1.length:Int) 0).bind fun x2=>
 (zAV a1 (x2,0)).bind fun v15=>
 some v15
noncomputable def wQ (a1:Int):Option Bool:=
 if decide (a1≥97) then
  (some (decide (a1≤122)))
 else
  (some false)
noncomputable def wY (a1:Int):Option Bool:=
 if decide (a1≥48) then
  (some (decide (a1≤57)))
 else
  (some false)
noncomputable def vF (a1:Int):Option Bool:=
 (wQ a1).bind fun x2=>
 if x2 then
  (some true)
 else
  ((wY a1).bind fun x5=>
  if x5 then
   (some true)
  else
   (some (a1==95)))
noncomputable def zBe (a1:ByteArray) (s16:Int):Option (Lp Int (Fl Int Unit)):=
 if decide (s16< (a1.size:Int)) then
  ((bidx a1 s16).bind fun x18=>
  (vF x18).bind fun x20=>
  if !x20 then
   (some (Lp.done (Fl.ret 5)))
  else
   (some (Lp.go (w64 (s16+1)))))
 else
  (some (Lp.done (Fl.nxt ())))
noncomputable def jO (a1:ByteArray):Int→Option (Fl Int Unit):=loop (zBe a1)
noncomputable def wP (a1:ByteArray):Option Int:=
 (if decide ((a1.size:Int)<1) then
   (some true)
  else
   (if decide ((a1.size:Int)>12) then
    (some true)
   else
    ((bidx a1 0).bind fun x4=>
    (wQ x4).bind fun x6=>
    some (!x6)))).bind fun v8=>
 if v8 then
  (some 5)
 else
  ((jO a1 0).bind (Fl.go some fun v23=>
  some 0))
noncomputable def yZ (a1:Int) (a2:Int) (a3:Int):Option Bool:=
 if decide (a1≥a2) then
  (some (decide (a1≤a3)))
 else
  (some false)
noncomputable def yQ (a1:Version):Option Int:=
 (yZ a1.A 0 999).bind fun x2=>
 (if !x2 then
   (some true)
  else
   ((yZ a1.B 0 999).bind fun x5=>
   if !x5 then
    (some true)
   else
    ((yZ a1.C 0 999).bind fun x8=>
    some (!x8)))).bind fun v10=>
 if v10 then
  (some 3)
 else
  (some 0)
noncomputable def zAY (a1:(List ByteArray)) (a2:ByteArray) (s7:Int):Option (Lp Int (Fl Bool Unit)):=
 if decide (s7< (a1.length:Int)) then
  ((idx a1 s7).bind fun x9=>
  if seq x9 a2 then
   (some (Lp.done (Fl.ret true)))
  else
   (some (Lp.go (w64 (s7+1)))))
 else
  (some (Lp.done (Fl.nxt ())))
noncomputable def zBN (a1:(List ByteArray)) (a2:ByteArray):Int→Option (Fl Bool Unit):=loop (zAY a1 a2)
noncomputable def zBC (a1:(List ByteArray)) (a2:ByteArray):Option Bool:=
 (zBN a1 a2 0).bind (Fl.go some fun v12=>
 some false)
noncomputable def zCP:Option Version:=
 some ({A:=1000,B:=0,C:=0}:Version)
noncomputable def kG (a1:Int) (a2:Int):Option Int:=
 if decide (a1<a2) then
  (some (-1))
 else
  (if decide (a1>a2) then
   (some 1)
  else
   (some 0))
noncomputable def xC (a1:Version) (a2:Version):Option Int:=
 (kG a1.A a2.A).bind fun x3=>
 if x3 !=0 then
  (some x3)
 else
  ((kG a1.B a2.B).bind fun x6=>
  if x6 !=0 then
   (some x6)
  else
   ((kG a1.C a2.C).bind fun x9=>
   some x9))
noncomputable def zAv (a1:Term):Option Int:=
 (wP a1.Name).bind fun x2=>
 if x2 !=0 then
  (some x2)
 else
  ((yQ a1.Low).bind fun x5=>
  if x5 !=0 then
   (some x5)
  else
   ((zCP).bind fun x8=>
   (if !(a1.High.A==x8.A&&(a1.High.B==x8.B&&(a1.High.C==x8.C&&true))) then
     ((yQ a1.High).bind fun x11=>
     some (x11 !=0))
    else
     (some false)).bind fun v13=>
   if v13 then
    (some 3)
   else
    ((xC a1.Low a1.High).bind fun x15=>
    if decide (x15≥0) then
     (some 1)
    else
     (some 0))))
noncomputable def zAU (a1:(List Term)) (s8:Int):Option (Lp Int (Fl Int Unit)):=
 if decide (s8< (a1.length:Int)) then
  ((idx a1 s8).bind fun x10=>
  (zAv x10).bind fun x12=>
  if x12 !=0 then
   (some (Lp.done (Fl.ret x12)))
  else
   (some (Lp.go (w64 (s8+1)))))
 else
  (some (Lp.done (Fl.nxt ())))
noncomputable def zBB (a1:(List Term)):Int→Option (Fl Int Unit):=loop (zAU a1)
noncomputable def jD (a1:(List Term)):Option Int:=
 (zBB a1 0).bind (Fl.go some fun v15=>
 some 0)
noncomputable def zAg (a1:Pack) (s70:Int):Option (Lp Int (Fl Int Unit)):=
 if decide (s70< (a1.Needs.length:Int)) then
  ((idx a1.Needs s70).bind fun x72=>
  if (x72.length:Int)==0 then
   (some (Lp.done (Fl.ret 1)))
  else
   ((idx a1.Needs s70).bind fun x75=>
   (jD x75).bind fun x77=>
   if x77 !=0 then
    (some (Lp.done (Fl.ret x77)))
   else
    (some (Lp.go (w64 (s70+1))))))
 else
  (some (Lp.done (Fl.nxt ())))
noncomputable def jL (a1:Pack):Int→Option (Fl Int Unit):=loop (zAg a1)
noncomputable def zAa (a1:Pack) (s42:Int):Option (Lp Int (Fl Int Unit)):=
 if decide (s42< (a1.Provides.length:Int)) then
  ((idx a1.Provides s42).bind fun x44=>
  (wP x44).bind fun x46=>
  if x46 !=0 then
   (some (Lp.done (Fl.ret x46)))
  else
   ((idx a1.Provides s42).bind fun x49=>
   (if seq x49 a1.Name then
     (some true)
    else
     ((zEq a1.Provides 0 s42).bind fun x52=>
     (idx a1.Provides s42).bind fun x54=>
     (zBC x52 x54).bind fun x56=>
     some x56)).bind fun v58=>
   if v58 then
    (some (Lp.done (Fl.ret 6)))
   else
    (some (Lp.go (w64 (s42+1))))))
 else
  (some (Lp.done (Fl.nxt ())))
noncomputable def jM (a1:Pack):Int→Option (Fl Int Unit):=loop (zAa a1)
noncomputable def zAj (a1:Pack) (s19:Int):Option (Lp Int (Fl Int Unit)):=
 if decide (s19< (a1.Needs.length:Int)) then
  ((idx a1.Needs s19).bind fun x21=>
  if decide ((x21.length:Int)>4) then
   (some (Lp.done (Fl.ret 2)))
  else
   (some (Lp.go (w64 (s19+1)))))
 else
  (some (Lp.done (Fl.nxt ())))
noncomputable def zA9 (a1:Pack):Int→Option (Fl Int Unit):=loop (zAj a1)
noncomputable def zAy (a1:Pack):Option Int:=
 (wP a1.Name).bind fun x2=>
 if x2 !=0 then
  (some x2)
 else
  ((yQ a1.Version).bind fun x5=>
  if x5 !=0 then
   (some x5)
  else
   ((yZ a1.Size 1 200).bind fun x8=>
   if !x8 then
    (some 3)
   else
    ((if decide ((a1.Provides.length:Int)>4) then
       (some true)
      else
       (if decide ((a1.Needs.length:Int)>4) then
        (some true)
       else
        (some (decide ((a1.Bars.length:Int)>4))))).bind fun v13=>
    if v13 then
     (some 2)
    else
     ((zA9 a1 0).bind (Fl.go some fun v24=>
     (jM a1 0).bind (Fl.go some fun v60=>
     (jL a1 0).bind (Fl.go some fun v80=>
     (jD a1.Bars).bind fun x81=>
     some x81)))))))
noncomputable def zBO (a1:(List Pack)) (a2:ByteArray) (a3:Version) (s14:Int):Option (Lp Int (Fl Int Unit)):=
 if decide (s14< (a1.length:Int)) then
  ((idx a1 s14).bind fun x16=>
  (if seq x16.Name a2 then
    ((idx a1 s14).bind fun x19=>
    (xC x19.Version a3).bind fun x21=>
    some (x21==0))
   else
    (some false)).bind fun v23=>
  if v23 then
   (some (Lp.done (Fl.ret s14)))
  else
   (some (Lp.go (w64 (s14+1)))))
 else
  (some (Lp.done (Fl.nxt ())))
noncomputable def zCa (a1:(List Pack)) (a2:ByteArray) (a3:Version):Int→Option (Fl Int Unit):=loop (zBO a1 a2 a3)
noncomputable def jT (a1:(List Pack)) (a2:ByteArray) (a3:Version):Option Int:=
 (zCa a1 a2 a3 0).bind (Fl.go some fun v25=>
 some (-1))
noncomputable def uQ (a1:(List Pack)) (s18:Int):Option (Lp Int (Fl Int Unit)):=
 if decide (s18< (a1.length:Int)) then
  ((idx a1 s18).bind fun x20=>
  (zAy x20).bind fun x22=>
  if x22 !=0 then
   (some (Lp.done (Fl.ret x22)))
  else
   ((zEq a1 0 s18).bind fun x25=>
   (idx a1 s18).bind fun x27=>
   (idx a1 s18).bind fun x29=>
   (jT x25 x27.Name x29.Version).bind fun x31=>
   if decide (x31≥0) then
    (some (Lp.done (Fl.ret 6)))
   else
    (some (Lp.go (w64 (s18+1))))))
 else
  (some (Lp.done (Fl.nxt ())))
noncomputable def tO (a1:(List Pack)):Int→Option (Fl Int Unit):=loop (uQ a1)
noncomputable def uG (a1:(List Pack)):Option Int:=
 if decide ((a1.length:Int)>24) then
  (some 2)
 else
  ((tO a1 0).bind (Fl.go some fun v34=>
  some 0))
noncomputable def zCv (a1:Int):Option Bool:=
 (vF a1).bind fun x2=>
 if x2 then
  (some true)
 else
  (if a1==46 then
   (some true)
  else
   (if a1==45 then
    (some true)
   else
    (some (a1==47))))
noncomputable def tC (a1:ByteArray) (s11:Int):Option (Lp Int (Fl Int Unit)):=
 if decide (s11< (a1.size:Int)) then
  ((bidx a1 s11).bind fun x13=>
  (zCv x13).bind fun x15=>
  if !x15 then
   (some (Lp.done (Fl.ret 5)))
  else
   (some (Lp.go (w64 (s11+1)))))
 else
  (some (Lp.done (Fl.nxt ())))
noncomputable def vV (a1:ByteArray):Int→Option (Fl Int Unit):=loop (tC a1)
noncomputable def wK (a1:ByteArray):Option Int:=
 (if decide ((a1.size:Int)<1) then
   (some true)
  else
   (some (decide ((a1.size:Int)>40)))).bind fun v3=>
 if v3 then
  (some 5)
 else
  ((vV a1 0).bind (Fl.go some fun v18=>
  some 0))
noncomputable def zAW (a1:zL) (s5:(Int×Int)):Option (Lp (Int×Int) Int):=
 if decide (s5.2< (a1.Files.length:Int)) then
  ((idx a1.Files s5.2).bind fun x7=>
  some (Lp.go (w64 (s5.1+(x7.Data.length:Int)),w64 (s5.2+1))))
 else
  (some (Lp.done s5.1))
noncomputable def zB0 (a1:zL):(Int×Int)→Option Int:=loop (zAW a1)
noncomputable def zBp (a1:zL):Option Int:=
 (zB0 a1 (0,0)).bind fun v9=>
 some v9
noncomputable def uZ (a1:zL) (s29:Int):Option (Lp Int (Fl Int Unit)):=
 if decide (s29< (a1.Files.length:Int)) then
  ((idx a1.Files s29).bind fun x31=>
  (wK x31.Path).bind fun x33=>
  if x33 !=0 then
   (some (Lp.done (Fl.ret x33)))
  else
   ((if decide (s29>0) then
      ((idx a1.Files s29).bind fun x37=>
      (idx a1.Files (w64 (s29-1))).bind fun x39=>
      some (slt x37.Path x39.Path||seq x37.Path x39.Path))
     else
      (some false)).bind fun v41=>
   if v41 then
    (some (Lp.done (Fl.ret 1)))
   else
    ((idx a1.Files s29).bind fun x43=>
    if decide ((x43.Data.length:Int)>4000) then
     (some (Lp.done (Fl.ret 2)))
    else
     (some (Lp.go (w64 (s29+1)))))))
 else
  (some (Lp.done (Fl.nxt ())))
noncomputable def uE (a1:zL):Int→Option (Fl Int Unit):=loop (uZ a1)
noncomputable def wH (a1:zL):Option Int:=
 (yZ a1.Budget 0 20000).bind fun x2=>
 (if !x2 then
   (some true)
  else
   ((yZ a1.Writes 0 1000000000).bind fun x5=>
   if !x5 then
    (some true)
   else
    ((yZ a1.Stop (-1) 1000000000).bind fun x8=>
    some (!x8)))).bind fun v10=>
 if v10 then
  (some 3)
 else
  (if decide ((a1.Files.length:Int)>120) then
   (some 2)
  else
   ((uE a1 0).bind (Fl.go some fun v46=>
   (zBp a1).bind fun x47=>
   if decide (x47>a1.Budget) then
    (some 8)
   else
    (some 0))))
noncomputable def kX (a1:(List Pack)) (a2:zL):Option Int:=
 (uG a1).bind fun x3=>
 if x3 !=0 then
  (some x3)
 else
  ((wH a2).bind fun x6=>
  some x6)
noncomputable def jC (a1:ByteArray) (a2:ByteArray):Option Bool:=
 if decide ((a1.size:Int)≥(a2.size:Int)) then
  ((zGQ a1 0 (a2.size:Int)).bind fun x4=>
  some (seq x4 a2))
 else
  (some false)
noncomputable def kT (a1:zL) (a2:ByteArray) (s14:((List ByteArray)×Int)):Option (Lp ((List ByteArray)×Int) (List ByteArray)):=
 if decide (s14.2< (a1.Files.length:Int)) then
  ((idx a1.Files s14.2).bind fun x16=>
  (jC x16.Path a2).bind fun x18=>
  (if x18 then
    ((idx a1.Files s14.2).bind fun x21=>
    (app 16 s14.1 [x21.Path]).bind fun x23=>
    some x23)
   else
    (some s14.1)).bind fun v25=>
  some (Lp.go (v25,w64 (s14.2+1))))
 else
  (some (Lp.done s14.1))
noncomputable def kF (a1:zL) (a2:ByteArray):((List ByteArray)×Int)→Option (List ByteArray):=loop (kT a1 a2)
noncomputable def kW (a1:zL) (a2:ByteArray):Option (List ByteArray):=
 (kF a1 a2 (([]:List ByteArray),0)).bind fun v26=>
 some v26
noncomputable def zA8 (a1:ByteArray) (s14:(Int×Int)):Option (Lp (Int×Int) (Fl (Int×Bool) Int)):=
 if decide (s14.2< (a1.size:Int)) then
  ((bidx a1 s14.2).bind fun x16=>
  (wY x16).bind fun x18=>
  if !x18 then
   (some (Lp.done (Fl.ret (0,false))))
  else
   ((bidx a1 s14.2).bind fun x21=>
   some (Lp.go (w64 ((w64 (s14.1*10))+(w64 (IntKind.u8.wrap (x21-48)))),w64 (s14.2+1)))))
 else
  (some (Lp.done (Fl.nxt s14.1)))
noncomputable def zBd (a1:ByteArray):(Int×Int)→Option (Fl (Int×Bool) Int):=loop (zA8 a1)
noncomputable def vI (a1:ByteArray) (a2:Int):Option (Int×Bool):=
 (if decide ((a1.size:Int)<1) then
   (some true)
  else
   (some (decide ((a1.size:Int)>a2)))).bind fun v4=>
 if v4 then
  (some (0,false))
 else
  ((zBd a1 (0,0)).bind (Fl.go some fun v23=>
  some (v23,true)))
noncomputable def vQ (g:Int→Option ByteArray) (s:Int):Option ByteArray:=
 match s with
 |a1=>
 if decide (a1<10) then
  (some (b2s [IntKind.u8.wrap (w64 (48+a1))]))
 else
  ((g (w64 (a1.tdiv 10))).bind fun x3=>
  (cat x3 (b2s [IntKind.u8.wrap (w64 (48+(a1.tmod 10)))])).bind fun x5=>
  some x5)
noncomputable def xS (a1:Int):Option ByteArray:=zN2 vQ 64 a1
noncomputable def uM (a1:Int):Option ByteArray:=
 (yZ a1 1 999999).bind fun x2=>
 if !x2 then
  (some (bs []))
 else
  ((xS (w64 (1000000+a1))).bind fun x5=>
  (zGQ x5 1 (x5.size:Int)).bind fun x7=>
  (cat (bs [103,101,110,47]) x7).bind fun x9=>
  some x9)
noncomputable def zBG (a1:zL) (x2:(List ByteArray)) (s21:((List Int)×Int)):Option (Lp ((List Int)×Int) (List Int)):=
 if decide (s21.2< (x2.length:Int)) then
  ((idx x2 s21.2).bind fun x23=>
  (zGQ x23 4 (x23.size:Int)).bind fun x25=>
  (vI x25 6).bind fun x27=>
  (if x27.2 then
    ((uM x27.1).bind fun x30=>
    (idx x2 s21.2).bind fun x32=>
    some (seq x30 x32))
   else
    (some false)).bind fun v34=>
  (if v34 then
    ((app 8 s21.1 [x27.1]).bind fun x36=>
    some x36)
   else
    (some s21.1)).bind fun v38=>
  some (Lp.go (v38,w64 (s21.2+1))))
 else
  (some (Lp.done s21.1))
noncomputable def zCc (a1:zL) (x2:(List ByteArray)):((List Int)×Int)→Option (List Int):=loop (zBG a1 x2)
noncomputable def jY (a1:zL):Option (List Int):=
 (kW a1 (bs [103,101,110,47])).bind fun x2=>
 (zCc a1 x2 (([]:List Int),0)).bind fun v39=>
 some v39
noncomputable def zCe (a1:(List Int)) (a2:Int) (s7:Int):Option (Lp Int (Fl Bool Unit)):=
 if decide (s7< (a1.length:Int)) then
  ((idx a1 s7).bind fun x9=>
  if x9==a2 then
   (some (Lp.done (Fl.ret true)))
  else
   (some (Lp.go (w64 (s7+1)))))
 else
  (some (Lp.done (Fl.nxt ())))
noncomputable def zCF (a1:(List Int)) (a2:Int):Int→Option (Fl Bool Unit):=loop (zCe a1 a2)
noncomputable def wU (a1:(List Int)) (a2:Int):Option Bool:=
 (zCF a1 a2 0).bind (Fl.go some fun v12=>
 some false)
noncomputable def zCh (a1:(List Int)) (a2:Int) (s16:((List Int)×Bool×Int)):Option (Lp ((List Int)×Bool×Int) ((List Int)×Bool)):=
 if decide (s16.2.2< (a1.length:Int)) then
  ((idx a1 s16.2.2).bind fun x18=>
  (if decide (x18>a2) then
    (some (!s16.2.1))
   else
    (some false)).bind fun v21=>
  (if v21 then
    ((app 8 s16.1 [a2]).bind fun x23=>
    some (x23,true))
   else
    (some (s16.1,s16.2.1))).bind fun v25=>
  (idx a1 s16.2.2).bind fun x26=>
  (app 8 v25.1 [x26]).bind fun x28=>
  some (Lp.go (x28,v25.2,w64 (s16.2.2+1))))
 else
  (some (Lp.done (s16.1,s16.2.1)))
noncomputable def zCK (a1:(List Int)) (a2:Int):((List Int)×Bool×Int)→Option ((List Int)×Bool):=loop (zCh a1 a2)
noncomputable def jJ (a1:(List Int)) (a2:Int):Option (List Int):=
 (zCK a1 a2 (([]:List Int),false,0)).bind fun v30=>
 (if !v30.2 then
   ((app 8 v30.1 [a2]).bind fun x32=>
   some x32)
  else
   (some v30.1)).bind fun v34=>
 some v34
noncomputable def zB5 (a1:zL) (a2:ByteArray) (s7:Int):Option (Lp Int (Fl Int Unit)):=
 if decide (s7< (a1.Files.length:Int)) then
  ((idx a1.Files s7).bind fun x9=>
  if seq x9.Path a2 then
   (some (Lp.done (Fl.ret s7)))
  else
   (some (Lp.go (w64 (s7+1)))))
 else
  (some (Lp.done (Fl.nxt ())))
noncomputable def zCg (a1:zL) (a2:ByteArray):Int→Option (Fl Int Unit):=loop (zB5 a1 a2)
noncomputable def xL (a1:zL) (a2:ByteArray):Option Int:=
 (zCg a1 a2 0).bind (Fl.go some fun v12=>
 some (-1))
noncomputable def zAr (a1:zL):Option Int:=
 (xL a1 (bs [99,117,114])).bind fun x2=>
 if decide (x2<0) then
  (some 0)
 else
  ((idx a1.Files x2).bind fun x5=>
  (vI (b2s x5.Data) 6).bind fun x7=>
  (if !x7.2 then
    (some true)
   else
    ((jY a1).bind fun x10=>
    (wU x10 x7.1).bind fun x12=>
    some (!x12))).bind fun v14=>
  if v14 then
   (some 0)
  else
   (some x7.1))
noncomputable def zAN (a1:zL) (a2:(List Int)) (x4:(List Int)) (s22:((List Int)×Int)):Option (Lp ((List Int)×Int) (Fl ((List Int)×Int) (List Int))):=
 if decide (s22.2< (a2.length:Int)) then
  ((idx a2 s22.2).bind fun x24=>
  (wU x4 x24).bind fun x26=>
  if !x26 then
   (some (Lp.done (Fl.ret (([]:List Int),4))))
  else
   ((idx a2 s22.2).bind fun x29=>
   (wU s22.1 x29).bind fun x31=>
   (if !x31 then
     ((idx a2 s22.2).bind fun x34=>
     (jJ s22.1 x34).bind fun x36=>
     some x36)
    else
     (some s22.1)).bind fun v38=>
   some (Lp.go (v38,w64 (s22.2+1)))))
 else
  (some (Lp.done (Fl.nxt s22.1)))
noncomputable def zA5 (a1:zL) (a2:(List Int)) (x4:(List Int)):((List Int)×Int)→Option (Fl ((List Int)×Int) (List Int)):=loop (zAN a1 a2 x4)
noncomputable def jG (a1:zL) (a2:(List Int)):Option ((List Int)×Int):=
 if decide ((a2.length:Int)>40) then
  (some (([]:List Int),2))
 else
  ((jY a1).bind fun x4=>
  (zA5 a1 a2 x4 (([]:List Int),0)).bind (Fl.go some fun v39=>
  (zAr a1).bind fun x40=>
  if x40==0 then
   (some (([]:List Int),4))
  else
   ((wU v39 x40).bind fun x43=>
   (if !x43 then
     ((jJ v39 x40).bind fun x46=>
     some x46)
    else
     (some v39)).bind fun v48=>
   some (v48,0))))
noncomputable def zBc (a1:ByteArray) (a2:Int) (s14:((List ByteArray)×Int×Int)):Option (Lp ((List ByteArray)×Int×Int) (List ByteArray)):=
 if decide (s14.2.2≤(a1.size:Int)) then
  ((if s14.2.2==(a1.size:Int) then
     (some true)
    else
     ((bidx a1 s14.2.2).bind fun x17=>
     some (x17==a2))).bind fun v19=>
  (if v19 then
    ((zGQ a1 s14.2.1 s14.2.2).bind fun x21=>
    (app 16 s14.1 [x21]).bind fun x23=>
    some (x23,w64 (s14.2.2+1)))
   else
    (some (s14.1,s14.2.1))).bind fun v25=>
  some (Lp.go (v25.1,v25.2,w64 (s14.2.2+1))))
 else
  (some (Lp.done s14.1))
noncomputable def zBl (a1:ByteArray) (a2:Int):((List ByteArray)×Int×Int)→Option (List ByteArray):=loop (zBc a1 a2)
noncomputable def uP (a1:ByteArray) (a2:Int):Option (List ByteArray):=
 (zBl a1 a2 (([]:List ByteArray),0,0)).bind fun v26=>
 some v26
noncomputable def zB6 (a1:ByteArray):Option (List ByteArray):=
 (uP a1 10).bind fun x2=>
 (idx x2 (w64 ((x2.length:Int)-1))).bind fun x4=>
 (if seq x4 (bs []) then
   ((zEq x2 0 (w64 ((x2.length:Int)-1))).bind fun x7=>
   some x7)
  else
   (some x2)).bind fun v9=>
 some v9
noncomputable def zBa (x2:(List ByteArray)) (s13:((List ByteArray)×Int)):Option (Lp ((List ByteArray)×Int) (List ByteArray)):=
 if decide (s13.2< (x2.length:Int)) then
  ((idx x2 s13.2).bind fun x15=>
  (if !(seq x15 (bs [])) then
    ((idx x2 s13.2).bind fun x18=>
    (app 16 s13.1 [x18]).bind fun x20=>
    some x20)
   else
    (some s13.1)).bind fun v22=>
  some (Lp.go (v22,w64 (s13.2+1))))
 else
  (some (Lp.done s13.1))
noncomputable def zBm (x2:(List ByteArray)):((List ByteArray)×Int)→Option (List ByteArray):=loop (zBa x2)
noncomputable def zBQ (a1:ByteArray):Option (List ByteArray):=
 (uP a1 32).bind fun x2=>
 (zBm x2 (([]:List ByteArray),0)).bind fun v23=>
 some v23
noncomputable def uT (x2:(List ByteArray)) (s13:((List Int)×Int)):Option (Lp ((List Int)×Int) (Fl zO (List Int))):=
 if decide (s13.2< (x2.length:Int)) then
  ((idx x2 s13.2).bind fun x15=>
  (vI x15 3).bind fun x17=>
  if !x17.2 then
   (some (Lp.done (Fl.ret ({Code:=5,Version:=({A:=0,B:=0,C:=0}:Version)}:zO))))
  else
   ((idx s13.1 s13.2).bind fun x20=>
   some (Lp.go (s13.1.set s13.2.toNat x17.1,w64 (s13.2+1)))))
 else
  (some (Lp.done (Fl.nxt s13.1)))
noncomputable def tQ (x2:(List ByteArray)):((List Int)×Int)→Option (Fl zO (List Int)):=loop (uT x2)
noncomputable def wT (a1:ByteArray):Option zO:=
 (uP a1 46).bind fun x2=>
 if decide ((x2.length:Int)>3) then
  (some ({Code:=5,Version:=({A:=0,B:=0,C:=0}:Version)}:zO))
 else
  ((tQ x2 ([0,0,0],0)).bind (Fl.go some fun v22=>
  (idx v22 0).bind fun x23=>
  (idx v22 1).bind fun x25=>
  (idx v22 2).bind fun x27=>
  some ({Code:=0,Version:=({A:=x23,B:=x25,C:=x27}:Version)}:zO)))
noncomputable def kU (a1:(List Pack)) (x4:(List ByteArray)) (s29:((List Int)×Int)):Option (Lp ((List Int)×Int) (Fl yE (List Int))):=
 if decide (s29.2< (x4.length:Int)) then
  ((idx x4 s29.2).bind fun x31=>
  (zBQ x31).bind fun x33=>
  (if (x33.length:Int)==2 then
    ((idx x33 1).bind fun x36=>
    (wT x36).bind fun x38=>
    if x38.Code==0 then
     ((idx x33 0).bind fun x41=>
     (jT a1 x41 x38.Version).bind fun x43=>
     some x43)
    else
     (some (-1)))
   else
    (some (-1))).bind fun v45=>
  (if decide (v45<0) then
    (some true)
   else
    ((wU s29.1 v45).bind fun x47=>
    some x47)).bind fun v49=>
  if v49 then
   (some (Lp.done (Fl.ret ({Code:=5,At:=s29.2,Set:=([]:List Int)}:yE))))
  else
   ((jJ s29.1 v45).bind fun x51=>
   some (Lp.go (x51,w64 (s29.2+1)))))
 else
  (some (Lp.done (Fl.nxt s29.1)))
noncomputable def zBF (a1:(List Pack)) (x4:(List ByteArray)):((List Int)×Int)→Option (Fl yE (List Int)):=loop (kU a1 x4)
noncomputable def zB9 (a1:(List Pack)) (a2:ByteArray):Option yE:=
 if decide ((a2.size:Int)>4000) then
  (some ({Code:=2,At:=0,Set:=([]:List Int)}:yE))
 else
  ((zB6 a2).bind fun x4=>
  (zBF a1 x4 (([]:List Int),0)).bind (Fl.go some fun v53=>
  some ({Code:=0,At:=0,Set:=v53}:yE)))
noncomputable def zCO (a1:(List Pack)) (a2:zL) (a3:Int):Option yE:=
 (jY a2).bind fun x4=>
 (wU x4 a3).bind fun x6=>
 if !x6 then
  (some ({Code:=4,At:=0,Set:=([]:List Int)}:yE))
 else
  ((uM a3).bind fun x9=>
  (xL a2 x9).bind fun x11=>
  (idx a2.Files x11).bind fun x13=>
  (zB9 a1 (b2s x13.Data)).bind fun x15=>
  if x15.Code !=0 then
   (some ({Code:=x15.Code,At:=0,Set:=([]:List Int)}:yE))
  else
   (some x15))
noncomputable def vK (a1:Version):Option ByteArray:=
 (yQ a1).bind fun x2=>
 if x2 !=0 then
  (some (bs []))
 else
  ((xS a1.A).bind fun x5=>
  (cat x5 (bs [46])).bind fun x7=>
  (xS a1.B).bind fun x9=>
  (cat x7 x9).bind fun x11=>
  (cat x11 (bs [46])).bind fun x13=>
  (xS a1.C).bind fun x15=>
  (cat x13 x15).bind fun x17=>
  some x17)
noncomputable def zCs (a1:Pack):Option ByteArray:=
 (cat (bs [112,107,103,47]) a1.Name).bind fun x2=>
 (cat x2 (bs [45])).bind fun x4=>
 (vK a1.Version).bind fun x6=>
 (cat x4 x6).bind fun x8=>
 some x8
noncomputable def zEs (a1:(List ByteArray)) (a2:ByteArray) (s19:((List ByteArray)×Bool×Int)):Option (Lp ((List ByteArray)×Bool×Int) (Fl (List ByteArray) ((List ByteArray)×Bool))):=
 if decide (s19.2.2< (a1.length:Int)) then
  ((idx a1 s19.2.2).bind fun x21=>
  if seq x21 a2 then
   (some (Lp.done (Fl.ret a1)))
  else
   ((idx a1 s19.2.2).bind fun x24=>
   (if !(slt x24 a2||seq x24 a2) then
     (some (!s19.2.1))
    else
     (some false)).bind fun v27=>
   (if v27 then
     ((app 16 s19.1 [a2]).bind fun x29=>
     some (x29,true))
    else
     (some (s19.1,s19.2.1))).bind fun v31=>
   (idx a1 s19.2.2).bind fun x32=>
   (app 16 v31.1 [x32]).bind fun x34=>
   some (Lp.go (x34,v31.2,w64 (s19.2.2+1)))))
 else
  (some (Lp.done (Fl.nxt (s19.1,s19.2.1))))
noncomputable def zDm (a1:(List ByteArray)) (a2:ByteArray):((List ByteArray)×Bool×Int)→Option (Fl (List ByteArray) ((List ByteArray)×Bool)):=loop (zEs a1 a2)
noncomputable def zFm (a1:(List ByteArray)) (a2:ByteArray):Option (List ByteArray):=
 (zDm a1 a2 (([]:List ByteArray),false,0)).bind (Fl.go some fun v36=>
 (if !v36.2 then
   ((app 16 v36.1 [a2]).bind fun x38=>
   some x38)
  else
   (some v36.1)).bind fun v40=>
 some v40)
noncomputable def zBS (a1:(List ByteArray)) (a2:ByteArray) (s19:((List ByteArray)×Bool×Int)):Option (Lp ((List ByteArray)×Bool×Int) (Fl (List ByteArray) ((List ByteArray)×Bool))):=
 if decide (s19.2.2< (a1.length:Int)) then
  ((idx a1 s19.2.2).bind fun x21=>
  if seq x21 a2 then
   (some (Lp.done (Fl.ret a1)))
  else
   ((idx a1 s19.2.2).bind fun x24=>
   (if !(slt x24 a2||seq x24 a2) then
     (some (!s19.2.1))
    else
     (some false)).bind fun v27=>
   (if v27 then
     ((app 16 s19.1 [a2]).bind fun x29=>
     some (x29,true))
    else
     (some (s19.1,s19.2.1))).bind fun v31=>
   (idx a1 s19.2.2).bind fun x32=>
   (app 16 v31.1 [x32]).bind fun x34=>
   some (Lp.go (x34,v31.2,w64 (s19.2.2+1)))))
 else
  (some (Lp.done (Fl.nxt (s19.1,s19.2.1))))
noncomputable def zCd (a1:(List ByteArray)) (a2:ByteArray):((List ByteArray)×Bool×Int)→Option (Fl (List ByteArray) ((List ByteArray)×Bool)):=loop (zBS a1 a2)
noncomputable def zCr (a1:(List ByteArray)) (a2:ByteArray):Option (List ByteArray):=
 (zCd a1 a2 (([]:List ByteArray),false,0)).bind (Fl.go some fun v36=>
 (if !v36.2 then
   ((app 16 v36.1 [a2]).bind fun x38=>
   some x38)
  else
   (some v36.1)).bind fun v40=>
 some v40)
noncomputable def jV (a1:(List Pack)) (a2:zL) (x4:((List Int)×Int)) (s33:((List ByteArray)×Int)) (x37:yE) (s49:((List ByteArray)×Int)):Option (Lp ((List ByteArray)×Int) (List ByteArray)):=
 if decide (s49.2< (x37.Set.length:Int)) then
  ((idx x37.Set s49.2).bind fun x51=>
  (idx a1 x51).bind fun x53=>
  (zCs x53).bind fun x55=>
  (zCr s49.1 x55).bind fun x57=>
  some (Lp.go (x57,w64 (s49.2+1))))
 else
  (some (Lp.done s49.1))
noncomputable def vJ (a1:(List Pack)) (a2:zL) (x4:((List Int)×Int)) (s33:((List ByteArray)×Int)) (x37:yE):((List ByteArray)×Int)→Option (List ByteArray):=loop (jV a1 a2 x4 s33 x37)
noncomputable def vX (a1:(List Pack)) (a2:zL) (x4:((List Int)×Int)) (s33:((List ByteArray)×Int)):Option (Lp ((List ByteArray)×Int) (Fl ((List ByteArray)×Int) (List ByteArray))):=
 if decide (s33.2< (x4.1.length:Int)) then
  ((idx x4.1 s33.2).bind fun x35=>
  (zCO a1 a2 x35).bind fun x37=>
  if x37.Code !=0 then
   (some (Lp.done (Fl.ret (([]:List ByteArray),x37.Code))))
  else
   ((vJ a1 a2 x4 s33 x37 (s33.1,0)).bind fun v59=>
   some (Lp.go (v59,w64 (s33.2+1)))))
 else
  (some (Lp.done (Fl.nxt s33.1)))
noncomputable def kY (a1:(List Pack)) (a2:zL) (x4:((List Int)×Int)):((List ByteArray)×Int)→Option (Fl ((List ByteArray)×Int) (List ByteArray)):=loop (vX a1 a2 x4)
noncomputable def jW (a1:(List Pack)) (a2:zL) (a3:(List Int)):Option ((List ByteArray)×Int):=
 (jG a2 a3).bind fun x4=>
 if x4.2 !=0 then
  (some (([]:List ByteArray),x4.2))
 else
  ((kY a1 a2 x4 (([]:List ByteArray),0)).bind (Fl.go some fun v60=>
  some (v60,0)))
noncomputable def wX (a1:(List Pack)) (a2:zL) (a3:(List Int)):Option zJ:=
 (kX a1 a2).bind fun x4=>
 if x4 !=0 then
  (some ({Code:=x4,Names:=([]:List ByteArray)}:zJ))
 else
  ((jW a1 a2 a3).bind fun x7=>
  some ({Code:=x7.2,Names:=x7.1}:zJ))
noncomputable def xA (a1:Int):Option Bool:=
 if decide (a1≥97) then
  (if decide (a1≤122) then
   (some true)
  else
   (if decide (a1≥48) then
    (if decide (a1≤57) then
     (some true)
    else
     (some (a1==95)))
   else
    (some (a1==95))))
 else
  (if decide (a1≥48) then
   (if decide (a1≤57) then
    (some true)
   else
    (some (a1==95)))
  else
   (some (a1==95)))
noncomputable def zBg (a1:ByteArray) (s17:Int):Option (Lp Int (Fl Int Unit)):=
 if decide (s17< (a1.size:Int)) then
  ((bidx a1 s17).bind fun x19=>
  (xA x19).bind fun x21=>
  if !x21 then
   (some (Lp.done (Fl.ret 5)))
  else
   (some (Lp.go (w64 (s17+1)))))
 else
  (some (Lp.done (Fl.nxt ())))
noncomputable def jQ (a1:ByteArray):Int→Option (Fl Int Unit):=loop (zBg a1)
noncomputable def wJ (a1:ByteArray):Option Int:=
 (if decide ((a1.size:Int)<1) then
   (some true)
  else
   (if decide ((a1.size:Int)>12) then
    (some true)
   else
    ((bidx a1 0).bind fun x4=>
    if decide (x4<97) then
     (some true)
    else
     ((bidx a1 0).bind fun x7=>
     some (decide (x7>122)))))).bind fun v9=>
 if v9 then
  (some 5)
 else
  ((jQ a1 0).bind (Fl.go some fun v24=>
  some 0))
noncomputable def yN (a1:Int) (a2:Int) (a3:Int):Option Bool:=
 if decide (a2≤a1) then
  (some (decide (a1≤a3)))
 else
  (some false)
noncomputable def xG (a1:Version):Option Int:=
 (yN a1.A 0 999).bind fun x2=>
 (if !x2 then
   (some true)
  else
   ((yN a1.B 0 999).bind fun x5=>
   if !x5 then
    (some true)
   else
    ((yN a1.C 0 999).bind fun x8=>
    some (!x8)))).bind fun v10=>
 if v10 then
  (some 3)
 else
  (some 0)
noncomputable def zAh (a1:(List Int)) (s6:Int):Option (Lp Int (Fl Int Unit)):=
 if decide (s6< (a1.length:Int)) then
  ((idx a1 s6).bind fun x8=>
  if x8 !=0 then
   (some (Lp.done (Fl.ret x8)))
  else
   (some (Lp.go (w64 (s6+1)))))
 else
  (some (Lp.done (Fl.nxt ())))
noncomputable def jI (a1:(List Int)):Int→Option (Fl Int Unit):=loop (zAh a1)
noncomputable def wN (a1:(List Int)):Option Int:=
 (jI a1 0).bind (Fl.go some fun v11=>
 some 0)
noncomputable def kV (a1:(List Term)):Option Bool:=
 some (decide ((a1.length:Int)>4))
noncomputable def zW (a1:(List (List Term))) (s8:Int):Option (Lp Int (Fl Int Unit)):=
 if decide (s8< (a1.length:Int)) then
  ((idx a1 s8).bind fun x10=>
  (kV x10).bind fun x12=>
  if x12 then
   (some (Lp.done (Fl.ret s8)))
  else
   (some (Lp.go (w64 (s8+1)))))
 else
  (some (Lp.done (Fl.nxt ())))
noncomputable def yA (a1:(List (List Term))):Int→Option (Fl Int Unit):=loop (zW a1)
noncomputable def zU (a1:(List (List Term))):Option Int:=
 (yA a1 0).bind (Fl.go some fun v15=>
 some (-1))
noncomputable def zN (a1:(List (List Term))):Option Bool:=
 (zU a1).bind fun x2=>
 some (decide (x2≥0))
noncomputable def wZ (a1:(List ByteArray)) (a2:ByteArray) (s7:Int):Option (Lp Int (Fl Int Unit)):=
 if decide (s7< (a1.length:Int)) then
  ((idx a1 s7).bind fun x9=>
  if seq a2 x9 then
   (some (Lp.done (Fl.ret s7)))
  else
   (some (Lp.go (w64 (s7+1)))))
 else
  (some (Lp.done (Fl.nxt ())))
noncomputable def vH (a1:(List ByteArray)) (a2:ByteArray):Int→Option (Fl Int Unit):=loop (wZ a1 a2)
noncomputable def vO (a1:(List ByteArray)) (a2:ByteArray):Option Int:=
 (vH a1 a2 0).bind (Fl.go some fun v12=>
 some (-1))
noncomputable def xM (a1:(List ByteArray)) (a2:ByteArray):Option Bool:=
 (vO a1 a2).bind fun x3=>
 some (decide (x3≥0))
noncomputable def zDL:Option Version:=
 some ({A:=1000,B:=0,C:=0}:Version)
noncomputable def uR (a1:Int):Option Bool:=
 some (a1 !=a1)
noncomputable def xH (a1:Int) (a2:Int):Option Int:=
 (uR a1).bind fun x3=>
 (uR a2).bind fun x5=>
 if x3 then
  (if x5 then
   (some 0)
  else
   (some (-1)))
 else
  (if x5 then
   (some 1)
  else
   (if decide (a1<a2) then
    (some (-1))
   else
    (if decide (a1>a2) then
     (some 1)
    else
     (some 0))))
noncomputable def zBZ (a1:(List Int)) (s6:Int):Option (Lp Int (Fl Int Unit)):=
 if decide (s6< (a1.length:Int)) then
  ((idx a1 s6).bind fun x8=>
  if x8 !=0 then
   (some (Lp.done (Fl.ret x8)))
  else
   (some (Lp.go (w64 (s6+1)))))
 else
  (some (Lp.done (Fl.nxt ())))
noncomputable def zCG (a1:(List Int)):Int→Option (Fl Int Unit):=loop (zBZ a1)
noncomputable def zDn (a1:(List Int)):Option Int:=
 (zCG a1 0).bind (Fl.go some fun v11=>
 some 0)
noncomputable def zBM (a1:Version) (a2:Version):Option Int:=
 (xH a1.A a2.A).bind fun x3=>
 (xH a1.B a2.B).bind fun x5=>
 (xH a1.C a2.C).bind fun x7=>
 (zDn [x3,x5,x7]).bind fun x9=>
 some x9
noncomputable def zAu (a1:Term):Option Int:=
 (wJ a1.Name).bind fun x2=>
 if x2 !=0 then
  (some x2)
 else
  ((xG a1.Low).bind fun x5=>
  if x5 !=0 then
   (some x5)
  else
   ((zDL).bind fun x8=>
   (if !(a1.High.A==x8.A&&(a1.High.B==x8.B&&(a1.High.C==x8.C&&true))) then
     ((xG a1.High).bind fun x11=>
     some (x11 !=0))
    else
     (some false)).bind fun v13=>
   if v13 then
    (some 3)
   else
    ((zBM a1.Low a1.High).bind fun x15=>
    if decide (x15≥0) then
     (some 1)
    else
     (some 0))))
noncomputable def kD (a1:(List Term)) (s8:Int):Option (Lp Int (Fl Int Unit)):=
 if decide (s8< (a1.length:Int)) then
  ((idx a1 s8).bind fun x10=>
  (zAu x10).bind fun x12=>
  if x12 !=0 then
   (some (Lp.done (Fl.ret x12)))
  else
   (some (Lp.go (w64 (s8+1)))))
 else
  (some (Lp.done (Fl.nxt ())))
noncomputable def zAe (a1:(List Term)):Int→Option (Fl Int Unit):=loop (kD a1)
noncomputable def wG (a1:(List Term)):Option Int:=
 (zAe a1 0).bind (Fl.go some fun v15=>
 some 0)
noncomputable def zAk (a1:Pack) (s54:Int):Option (Lp Int (Fl Int Unit)):=
 if decide (s54< (a1.Needs.length:Int)) then
  ((idx a1.Needs s54).bind fun x56=>
  if (x56.length:Int)==0 then
   (some (Lp.done (Fl.ret 1)))
  else
   ((wG x56).bind fun x59=>
   if x59 !=0 then
    (some (Lp.done (Fl.ret x59)))
   else
    (some (Lp.go (w64 (s54+1))))))
 else
  (some (Lp.done (Fl.nxt ())))
noncomputable def jN (a1:Pack):Int→Option (Fl Int Unit):=loop (zAk a1)
noncomputable def zAl (a1:Pack) (s32:Int):Option (Lp Int (Fl Int Unit)):=
 if decide (s32< (a1.Provides.length:Int)) then
  ((idx a1.Provides s32).bind fun x34=>
  (wJ x34).bind fun x36=>
  if x36 !=0 then
   (some (Lp.done (Fl.ret x36)))
  else
   ((if seq x34 a1.Name then
      (some true)
     else
      ((zEq a1.Provides 0 s32).bind fun x40=>
      (xM x40 x34).bind fun x42=>
      some x42)).bind fun v44=>
   if v44 then
    (some (Lp.done (Fl.ret 6)))
   else
    (some (Lp.go (w64 (s32+1))))))
 else
  (some (Lp.done (Fl.nxt ())))
noncomputable def jH (a1:Pack):Int→Option (Fl Int Unit):=loop (zAl a1)
noncomputable def zA0 (a1:Pack):Option Int:=
 (wJ a1.Name).bind fun x2=>
 (xG a1.Version).bind fun x4=>
 (wN [x2,x4]).bind fun x6=>
 if x6 !=0 then
  (some x6)
 else
  ((yN a1.Size 1 200).bind fun x9=>
  if !x9 then
   (some 3)
  else
   ((if decide ((a1.Provides.length:Int)>4) then
      (some true)
     else
      (if decide ((a1.Needs.length:Int)>4) then
       (some true)
      else
       (if decide ((a1.Bars.length:Int)>4) then
        (some true)
       else
        ((zN a1.Needs).bind fun x15=>
        some x15)))).bind fun v17=>
   if v17 then
    (some 2)
   else
    ((jH a1 0).bind (Fl.go some fun v46=>
    (jN a1 0).bind (Fl.go some fun v62=>
    (wG a1.Bars).bind fun x63=>
    some x63)))))
noncomputable def zCR (a1:Pack) (a2:ByteArray) (a3:Version):Option Bool:=
 if seq a1.Name a2 then
  (some (a1.Version.A==a3.A&&(a1.Version.B==a3.B&&(a1.Version.C==a3.C&&true))))
 else
  (some false)
noncomputable def yJ (a1:(List Pack)) (a2:ByteArray) (a3:Version) (s10:Int):Option (Lp Int (Fl Int Unit)):=
 if decide (s10< (a1.length:Int)) then
  ((idx a1 s10).bind fun x12=>
  (zCR x12 a2 a3).bind fun x14=>
  if x14 then
   (some (Lp.done (Fl.ret s10)))
  else
   (some (Lp.go (w64 (s10+1)))))
 else
  (some (Lp.done (Fl.nxt ())))
noncomputable def yK (a1:(List Pack)) (a2:ByteArray) (a3:Version):Int→Option (Fl Int Unit):=loop (yJ a1 a2 a3)
noncomputable def yG (a1:(List Pack)) (a2:ByteArray) (a3:Version):Option Int:=
 (yK a1 a2 a3 0).bind (Fl.go some fun v17=>
 some (-1))
noncomputable def zCb (a1:(List Pack)) (a2:ByteArray) (a3:Version):Option Int:=
 (yG a1 a2 a3).bind fun x4=>
 some x4
noncomputable def uV (a1:(List Pack)) (s14:Int):Option (Lp Int (Fl Int Unit)):=
 if decide (s14< (a1.length:Int)) then
  ((idx a1 s14).bind fun x16=>
  (zA0 x16).bind fun x18=>
  if x18 !=0 then
   (some (Lp.done (Fl.ret x18)))
  else
   ((zEq a1 0 s14).bind fun x21=>
   (zCb x21 x16.Name x16.Version).bind fun x23=>
   if decide (x23≥0) then
    (some (Lp.done (Fl.ret 6)))
   else
    (some (Lp.go (w64 (s14+1))))))
 else
  (some (Lp.done (Fl.nxt ())))
noncomputable def tX (a1:(List Pack)):Int→Option (Fl Int Unit):=loop (uV a1)
noncomputable def wC (a1:(List Pack)):Option Int:=
 if decide ((a1.length:Int)>24) then
  (some 2)
 else
  ((tX a1 0).bind (Fl.go some fun v26=>
  some 0))
noncomputable def zCJ (a1:ByteArray) (s15:Int):Option (Lp Int (Fl Int Unit)):=
 if decide (s15< (a1.size:Int)) then
  ((bidx a1 s15).bind fun x17=>
  (xA x17).bind fun x19=>
  (if !x19 then
    (if x17 !=46 then
     (if x17 !=45 then
      (some (x17 !=47))
     else
      (some false))
    else
     (some false))
   else
    (some false)).bind fun v24=>
  if v24 then
   (some (Lp.done (Fl.ret 5)))
  else
   (some (Lp.go (w64 (s15+1)))))
 else
  (some (Lp.done (Fl.nxt ())))
noncomputable def jP (a1:ByteArray):Int→Option (Fl Int Unit):=loop (zCJ a1)
noncomputable def zAs (a1:ByteArray):Option Int:=
 (if decide ((a1.size:Int)<1) then
   (some true)
  else
   (some (decide ((a1.size:Int)>40)))).bind fun v3=>
 if v3 then
  (some 5)
 else
  ((jP a1 0).bind (Fl.go some fun v26=>
  some 0))
noncomputable def zDr (a1:zL) (s5:(Int×Int)):Option (Lp (Int×Int) Int):=
 if decide (s5.2< (a1.Files.length:Int)) then
  ((idx a1.Files s5.2).bind fun x7=>
  some (Lp.go (w64 (s5.1+(x7.Data.length:Int)),w64 (s5.2+1))))
 else
  (some (Lp.done s5.1))
noncomputable def zBf (a1:zL):(Int×Int)→Option Int:=loop (zDr a1)
noncomputable def zBn (a1:zL):Option Int:=
 (zBf a1 (0,0)).bind fun v9=>
 some v9
noncomputable def zCH (a1:zL) (s25:Int):Option (Lp Int (Fl Int Unit)):=
 if decide (s25< (a1.Files.length:Int)) then
  ((idx a1.Files s25).bind fun x27=>
  (zAs x27.Path).bind fun x29=>
  if x29 !=0 then
   (some (Lp.done (Fl.ret x29)))
  else
   ((if decide (s25>0) then
      ((idx a1.Files (w64 (s25-1))).bind fun x33=>
      some (slt x27.Path x33.Path||seq x27.Path x33.Path))
     else
      (some false)).bind fun v35=>
   if v35 then
    (some (Lp.done (Fl.ret 1)))
   else
    (if decide ((x27.Data.length:Int)>4000) then
     (some (Lp.done (Fl.ret 2)))
    else
     (some (Lp.go (w64 (s25+1)))))))
 else
  (some (Lp.done (Fl.nxt ())))
noncomputable def jS (a1:zL):Int→Option (Fl Int Unit):=loop (zCH a1)
noncomputable def zAp (a1:zL):Option Int:=
 (yN a1.Budget 0 20000).bind fun x2=>
 (if !x2 then
   (some true)
  else
   ((yN a1.Writes 0 1000000000).bind fun x5=>
   if !x5 then
    (some true)
   else
    ((yN a1.Stop (-1) 1000000000).bind fun x8=>
    some (!x8)))).bind fun v10=>
 if v10 then
  (some 3)
 else
  (if decide ((a1.Files.length:Int)>120) then
   (some 2)
  else
   ((jS a1 0).bind (Fl.go some fun v38=>
   (zBn a1).bind fun x39=>
   if decide (x39>a1.Budget) then
    (some 8)
   else
    (some 0))))
noncomputable def jB (a1:(List Pack)) (a2:zL):Option Int:=
 (wC a1).bind fun x3=>
 (zAp a2).bind fun x5=>
 (wN [x3,x5]).bind fun x7=>
 some x7
noncomputable def yT (a1:ByteArray) (a2:ByteArray):Option Bool:=
 if decide ((a1.size:Int)≥(a2.size:Int)) then
  ((zGQ a1 0 (a2.size:Int)).bind fun x4=>
  some (seq x4 a2))
 else
  (some false)
noncomputable def strings_HasPrefix (a1:ByteArray) (a2:ByteArray):Option Bool:=
 (yT a1 a2).bind fun x3=>
 some x3
noncomputable def zCy (a1:zL) (a2:ByteArray) (s12:((List ByteArray)×Int)):Option (Lp ((List ByteArray)×Int) (List ByteArray)):=
 if decide (s12.2< (a1.Files.length:Int)) then
  ((idx a1.Files s12.2).bind fun x14=>
  (strings_HasPrefix x14.Path a2).bind fun x16=>
  (if x16 then
    ((app 16 s12.1 [x14.Path]).bind fun x19=>
    some x19)
   else
    (some s12.1)).bind fun v21=>
  some (Lp.go (v21,w64 (s12.2+1))))
 else
  (some (Lp.done s12.1))
noncomputable def uY (a1:zL) (a2:ByteArray):((List ByteArray)×Int)→Option (List ByteArray):=loop (zCy a1 a2)
noncomputable def kQ (a1:zL) (a2:ByteArray):Option (List ByteArray):=
 (uY a1 a2 (([]:List ByteArray),0)).bind fun v22=>
 some v22
noncomputable def zBs (a1:ByteArray) (s16:(Int×Int)):Option (Lp (Int×Int) (Fl Int Int)):=
 if decide (s16.2< (a1.size:Int)) then
  ((bidx a1 s16.2).bind fun x18=>
  (if decide (x18<48) then
    (some true)
   else
    ((bidx a1 s16.2).bind fun x21=>
    some (decide (x21>57)))).bind fun v23=>
  if v23 then
   (some (Lp.done (Fl.ret (-1))))
  else
   ((bidx a1 s16.2).bind fun x25=>
   some (Lp.go (w64 ((w64 (10*s16.1))+(w64 (IntKind.u8.wrap (x25-48)))),w64 (s16.2+1)))))
 else
  (some (Lp.done (Fl.nxt s16.1)))
noncomputable def zCf (a1:ByteArray):(Int×Int)→Option (Fl Int Int):=loop (zBs a1)
noncomputable def kL (a1:ByteArray) (a2:Int):Option Int:=
 (if seq a1 (bs []) then
   (some true)
  else
   (some (decide ((a1.size:Int)>a2)))).bind fun v4=>
 if v4 then
  (some (-1))
 else
  ((zCf a1 (0,0)).bind (Fl.go some fun v27=>
  some v27))
noncomputable def kZ (x2:(List ByteArray)) (s17:((List Int)×Int)):Option (Lp ((List Int)×Int) (List Int)):=
 if decide (s17.2< (x2.length:Int)) then
  ((idx x2 s17.2).bind fun x19=>
  (zGQ x19 4 (x19.size:Int)).bind fun x21=>
  (kL x21 6).bind fun x23=>
  (if decide (x23≥1) then
    (some ((x19.size:Int)==10))
   else
    (some false)).bind fun v26=>
  (if v26 then
    ((app 8 s17.1 [x23]).bind fun x28=>
    some x28)
   else
    (some s17.1)).bind fun v30=>
  some (Lp.go (v30,w64 (s17.2+1))))
 else
  (some (Lp.done s17.1))
noncomputable def zAA (x2:(List ByteArray)):((List Int)×Int)→Option (List Int):=loop (kZ x2)
noncomputable def wL (a1:zL):Option (List Int):=
 (kQ a1 (bs [103,101,110,47])).bind fun x2=>
 (zAA x2 (([]:List Int),0)).bind fun v31=>
 some v31
noncomputable def vM (a1:(List Int)) (a2:Int) (s7:Int):Option (Lp Int (Fl Int Unit)):=
 if decide (s7< (a1.length:Int)) then
  ((idx a1 s7).bind fun x9=>
  if a2==x9 then
   (some (Lp.done (Fl.ret s7)))
  else
   (some (Lp.go (w64 (s7+1)))))
 else
  (some (Lp.done (Fl.nxt ())))
noncomputable def vR (a1:(List Int)) (a2:Int):Int→Option (Fl Int Unit):=loop (vM a1 a2)
noncomputable def vW (a1:(List Int)) (a2:Int):Option Int:=
 (vR a1 a2 0).bind (Fl.go some fun v12=>
 some (-1))
noncomputable def zZ (a1:(List Int)) (a2:Int):Option Bool:=
 (vW a1 a2).bind fun x3=>
 some (decide (x3≥0))
noncomputable def jK (a1:Int) (a2:(List Int)):Option Bool:=
 (zZ a2 a1).bind fun x3=>
 some (!x3)
noncomputable def yC (a1:(List Int)) (a2:(List Int)) (s9:Int):Option (Lp Int (Fl Int Unit)):=
 if decide (s9< (a1.length:Int)) then
  ((idx a1 s9).bind fun x11=>
  (jK x11 a2).bind fun x13=>
  if x13 then
   (some (Lp.done (Fl.ret s9)))
  else
   (some (Lp.go (w64 (s9+1)))))
 else
  (some (Lp.done (Fl.nxt ())))
noncomputable def yF (a1:(List Int)) (a2:(List Int)):Int→Option (Fl Int Unit):=loop (yC a1 a2)
noncomputable def zX (a1:(List Int)) (a2:(List Int)):Option Int:=
 (yF a1 a2 0).bind (Fl.go some fun v16=>
 some (-1))
noncomputable def zQ (a1:(List Int)) (a2:(List Int)):Option Bool:=
 (zX a1 a2).bind fun x3=>
 some (decide (x3≥0))
noncomputable def bytealg_CompareString (a1 a2:ByteArray):Option Int:=some (zMw a1 a2)
noncomputable def strings_Compare (a1:ByteArray) (a2:ByteArray):Option Int:=
 (bytealg_CompareString a1 a2).bind fun x3=>
 some x3
noncomputable def wV (a1:File) (a2:ByteArray):Option Int:=
 (strings_Compare a1.Path a2).bind fun x3=>
 some x3
noncomputable def yB (a1:(List File)) (a2:ByteArray) (s9:(Int×Int)):Option (Lp (Int×Int) Int):=
 if decide (s9.1<s9.2) then
  ((idx a1 (w64 ((IntKind.u64.wrap (w64 (s9.1+s9.2))).fdiv (2^(min (1:Int).toNat 64))))).bind fun x11=>
  (wV x11 a2).bind fun x13=>
  if decide (x13<0) then
   (some (Lp.go (w64 ((w64 ((IntKind.u64.wrap (w64 (s9.1+s9.2))).fdiv (2^(min (1:Int).toNat 64))))+1),s9.2)))
  else
   (some (Lp.go (s9.1,w64 ((IntKind.u64.wrap (w64 (s9.1+s9.2))).fdiv (2^(min (1:Int).toNat 64)))))))
 else
  (some (Lp.done s9.1))
noncomputable def zR (a1:(List File)) (a2:ByteArray):(Int×Int)→Option Int:=loop (yB a1 a2)
noncomputable def zF (a1:(List File)) (a2:ByteArray):Option (Int×Bool):=
 (zR a1 a2 (0,(a1.length:Int))).bind fun v16=>
 if decide (v16< (a1.length:Int)) then
  ((idx a1 v16).bind fun x18=>
  (wV x18 a2).bind fun x20=>
  some (v16,x20==0))
 else
  (some (v16,false))
noncomputable def jU (a1:zL) (a2:ByteArray):Option (Int×Bool):=
 (zF a1.Files a2).bind fun x3=>
 some (x3.1,x3.2)
noncomputable def yU (a1:zL) (a2:ByteArray):Option ((List Int)×Bool):=
 (jU a1 a2).bind fun x3=>
 if !x3.2 then
  (some (([]:List Int),false))
 else
  ((idx a1.Files x3.1).bind fun x6=>
  some (x6.Data,true))
noncomputable def vT (a1:zL):Option (Int×Int):=
 (yU a1 (bs [99,117,114])).bind fun x2=>
 (kL (b2s x2.1) 6).bind fun x4=>
 (if !x2.2 then
   (some true)
  else
   ((wL a1).bind fun x7=>
   (zZ x7 x4).bind fun x9=>
   some (!x9))).bind fun v11=>
 if v11 then
  (some (0,4))
 else
  (some (x4,0))
noncomputable def vU (a1:(List Int)):Option (List Int):=
 (app 8 ([]:List Int) a1).bind fun x3=>
 some x3
noncomputable def xB (a1:List Int):Option (List Int):=if a1.length≤4611686018427387903 then some (a1.mergeSort fun x y=>decide (x≤y)) else none
noncomputable def wD (s41:Int) (x48:(List Int)) (s61:((List Int)×Int×Int)):Option (Lp ((List Int)×Int×Int) ((List Int)×Int)):=
 if decide (s61.2.2< (x48.length:Int)) then
  ((zHF s61.1 s41 x48.length s61.2.2).bind fun x63=>
  (zHF s61.1 s41 x48.length (w64 (s61.2.2-1))).bind fun x65=>
  (if x63 !=x65 then
    ((zHF s61.1 s41 x48.length s61.2.2).bind fun x68=>
    (idx s61.1 s61.2.1).bind fun x70=>
    some (s61.1.set s61.2.1.toNat x68,w64 (s61.2.1+1)))
   else
    (some (s61.1,s61.2.1))).bind fun v72=>
  some (Lp.go (v72.1,v72.2,w64 (s61.2.2+1))))
 else
  (some (Lp.done (s61.1,s61.2.1)))
noncomputable def xQ (s41:Int) (x48:(List Int)):((List Int)×Int×Int)→Option ((List Int)×Int):=loop (wD s41 x48)
noncomputable def yV (a1:(List Int)) (s41:Int):Option (Lp Int (Fl (List Int) Unit)):=
 if decide (s41< (a1.length:Int)) then
  ((idx a1 s41).bind fun x43=>
  (idx a1 (w64 (s41-1))).bind fun x45=>
  if x43==x45 then
   ((zEq a1 s41 (a1.length:Int)).bind fun x48=>
   (xQ s41 x48 (a1,s41,1)).bind fun v73=>
   (zEq v73.1 v73.2 (v73.1.length:Int)).bind fun x74=>
   (zL8 v73.1 v73.2 x74.length 0).bind fun x76=>
   (zEq x76 0 v73.2).bind fun x78=>
   some (Lp.done (Fl.ret x78)))
  else
   (some (Lp.go (w64 (s41+1)))))
 else
  (some (Lp.done (Fl.nxt ())))
noncomputable def wI (a1:(List Int)):Int→Option (Fl (List Int) Unit):=loop (yV a1)
noncomputable def xV (a1:(List Int)):Option (List Int):=
 if decide ((a1.length:Int)<2) then
  (some a1)
 else
  ((wI a1 1).bind (Fl.go some fun v80=>
  some a1))
noncomputable def jF (a1:zL) (a2:(List Int)):Option ((List Int)×Int):=
 (wL a1).bind fun x3=>
 if decide ((a2.length:Int)>40) then
  (some (([]:List Int),2))
 else
  ((zQ a2 x3).bind fun x6=>
  if x6 then
   (some (([]:List Int),4))
  else
   ((vT a1).bind fun x9=>
   if x9.2 !=0 then
    (some (([]:List Int),x9.2))
   else
    ((vU a2).bind fun x12=>
    (app 8 x12 [x9.1]).bind fun x14=>
    (xB x14).bind fun x16=>
    (same x16 x14).bind fun u18=>
    (xV x16).bind fun x20=>
    some (x20,0))))
noncomputable def vZ (a1 a2:Int):Option ByteArray:=if a2=10∧ -9223372036854775808≤a1∧a1≤9223372036854775807 then some ⟨(Lib.itoa a1).toArray⟩ else none
noncomputable def zBk (a1:Int):Option ByteArray:=
 (vZ a1 10).bind fun x2=>
 some x2
noncomputable def strings_Repeat (a1:ByteArray) (a2:Int):Option ByteArray:=if 0≤a2∧a2≤9223372036854775807∧a1.size*a2.toNat≤140737488355328 then some ⟨(Lib.repeatL a1.data.toList a2.toNat).toArray⟩ else none
noncomputable def zBR (a1:Int):Option ByteArray:=
 (zBk a1).bind fun x2=>
 (strings_Repeat (bs [48]) (w64 (6-(x2.size:Int)))).bind fun x4=>
 (cat (bs [103,101,110,47]) x4).bind fun x6=>
 (cat x6 x2).bind fun x8=>
 some x8
noncomputable def strings_Split (a1 a2:ByteArray):Option (List ByteArray):=if a1.size<4294967281∧1≤a2.size then some (Lib.splitB a2 0 (Lib.countB a1 a2) a1) else none
noncomputable def zBJ (a1:ByteArray):Option (List ByteArray):=
 (strings_Split a1 (bs [10])).bind fun x2=>
 (idx x2 (w64 ((x2.length:Int)-1))).bind fun x4=>
 (if seq x4 (bs []) then
   ((zEq x2 0 (w64 ((x2.length:Int)-1))).bind fun x7=>
   some x7)
  else
   (some x2)).bind fun v9=>
 some v9
noncomputable def uL (a1:ByteArray):Option Bool:=
 some (seq a1 (bs []))
noncomputable def yI (a1:(List ByteArray)) (s8:Int):Option (Lp Int (Fl Int Unit)):=
 if decide (s8< (a1.length:Int)) then
  ((idx a1 s8).bind fun x10=>
  (uL x10).bind fun x12=>
  if x12 then
   (some (Lp.done (Fl.ret s8)))
  else
   (some (Lp.go (w64 (s8+1)))))
 else
  (some (Lp.done (Fl.nxt ())))
noncomputable def yR (a1:(List ByteArray)):Int→Option (Fl Int Unit):=loop (yI a1)
noncomputable def yM (a1:(List ByteArray)):Option Int:=
 (yR a1 0).bind (Fl.go some fun v15=>
 some (-1))
noncomputable def yD (s14:((List ByteArray)×Int×Int)):Option (Lp ((List ByteArray)×Int×Int) ((List ByteArray)×Int)):=
 if decide (s14.2.2< (s14.1.length:Int)) then
  ((idx s14.1 s14.2.2).bind fun x16=>
  (uL x16).bind fun x18=>
  (if !x18 then
    ((idx s14.1 s14.2.1).bind fun x21=>
    some (s14.1.set s14.2.1.toNat x16,w64 (s14.2.1+1)))
   else
    (some (s14.1,s14.2.1))).bind fun v23=>
  some (Lp.go (v23.1,v23.2,w64 (s14.2.2+1))))
 else
  (some (Lp.done (s14.1,s14.2.1)))
noncomputable def yO:((List ByteArray)×Int×Int)→Option ((List ByteArray)×Int):=loop yD
noncomputable def zY (a1:(List ByteArray)):Option (List ByteArray):=
 (yM a1).bind fun x2=>
 if x2==(-1) then
  (some a1)
 else
  ((yO (a1,x2,w64 (x2+1))).bind fun v24=>
  (zEq v24.1 v24.2 (v24.1.length:Int)).bind fun x25=>
  (zL8 v24.1 v24.2 x25.length ByteArray.empty).bind fun x27=>
  (zEq x27 0 v24.2).bind fun x29=>
  some x29)
noncomputable def zBH (a1:ByteArray):Option (List ByteArray):=
 (strings_Split a1 (bs [32])).bind fun x2=>
 (zY x2).bind fun x4=>
 some x4
noncomputable def uO (x2:(List ByteArray)) (s15:((List Int)×Int)):Option (Lp ((List Int)×Int) (Fl zO (List Int))):=
 if decide (s15.2< (x2.length:Int)) then
  ((idx x2 s15.2).bind fun x17=>
  (kL x17 3).bind fun x19=>
  (zMb s15.1 3 s15.2).bind fun x21=>
  (zMb (s15.1.set s15.2.toNat x19) 3 s15.2).bind fun x23=>
  if decide (x23<0) then
   (some (Lp.done (Fl.ret ({Code:=5,Version:=({A:=0,B:=0,C:=0}:Version)}:zO))))
  else
   (some (Lp.go (s15.1.set s15.2.toNat x19,w64 (s15.2+1)))))
 else
  (some (Lp.done (Fl.nxt s15.1)))
noncomputable def tN (x2:(List ByteArray)):((List Int)×Int)→Option (Fl zO (List Int)):=loop (uO x2)
noncomputable def uI (a1:ByteArray):Option zO:=
 (strings_Split a1 (bs [46])).bind fun x2=>
 if decide ((x2.length:Int)>3) then
  (some ({Code:=5,Version:=({A:=0,B:=0,C:=0}:Version)}:zO))
 else
  ((tN x2 (([0,0,0]:(List Int)),0)).bind (Fl.go some fun v26=>
  (zMb v26 3 0).bind fun x27=>
  (zMb v26 3 1).bind fun x29=>
  (zMb v26 3 2).bind fun x31=>
  some ({Code:=0,Version:=({A:=x27,B:=x29,C:=x31}:Version)}:zO)))
noncomputable def zAF (a1:(List Pack)) (a2:(List ByteArray)):Option Int:=
 if (a2.length:Int) !=2 then
  (some (-1))
 else
  ((idx a2 1).bind fun x4=>
  (uI x4).bind fun x6=>
  if x6.Code !=0 then
   (some (-1))
  else
   ((idx a2 0).bind fun x9=>
   (zCb a1 x9 x6.Version).bind fun x11=>
   some x11))
noncomputable def jR (a1:(List Pack)) (x7:(List ByteArray)) (s23:((List Int)×Int)):Option (Lp ((List Int)×Int) (Fl yE (List Int))):=
 if decide (s23.2< (x7.length:Int)) then
  ((idx x7 s23.2).bind fun x25=>
  (zBH x25).bind fun x27=>
  (zAF a1 x27).bind fun x29=>
  (if decide (x29<0) then
    (some true)
   else
    ((zZ s23.1 x29).bind fun x32=>
    some x32)).bind fun v34=>
  if v34 then
   (some (Lp.done (Fl.ret ({Code:=5,At:=s23.2,Set:=([]:List Int)}:yE))))
  else
   ((app 8 s23.1 [x29]).bind fun x36=>
   some (Lp.go (x36,w64 (s23.2+1)))))
 else
  (some (Lp.done (Fl.nxt s23.1)))
noncomputable def zAZ (a1:(List Pack)) (x7:(List ByteArray)):((List Int)×Int)→Option (Fl yE (List Int)):=loop (jR a1 x7)
noncomputable def zAJ (a1:(List Pack)) (a2:ByteArray):Option yE:=
 (wC a1).bind fun x3=>
 if x3 !=0 then
  (some ({Code:=x3,At:=0,Set:=([]:List Int)}:yE))
 else
  (if decide ((a2.size:Int)>4000) then
   (some ({Code:=2,At:=0,Set:=([]:List Int)}:yE))
  else
   ((zBJ a2).bind fun x7=>
   (zAZ a1 x7 (([]:List Int),0)).bind (Fl.go some fun v38=>
   (xB v38).bind fun x39=>
   (same x39 v38).bind fun u41=>
   some ({Code:=0,At:=0,Set:=x39}:yE))))
noncomputable def zCQ (a1:(List Pack)) (a2:zL) (a3:Int):Option ((List Int)×Int):=
 (wL a2).bind fun x4=>
 (zZ x4 a3).bind fun x6=>
 if !x6 then
  (some (([]:List Int),4))
 else
  ((zBR a3).bind fun x9=>
  (yU a2 x9).bind fun x11=>
  (zAJ a1 (b2s x11.1)).bind fun x13=>
  some (x13.Set,x13.Code))
noncomputable def vY (a1:Version):Option ByteArray:=
 (zBk a1.A).bind fun x2=>
 (cat x2 (bs [46])).bind fun x4=>
 (zBk a1.B).bind fun x6=>
 (cat x4 x6).bind fun x8=>
 (cat x8 (bs [46])).bind fun x10=>
 (zBk a1.C).bind fun x12=>
 (cat x10 x12).bind fun x14=>
 some x14
noncomputable def zAq (a1:Pack):Option ByteArray:=
 (cat (bs [112,107,103,47]) a1.Name).bind fun x2=>
 (cat x2 (bs [45])).bind fun x4=>
 (vY a1.Version).bind fun x6=>
 (cat x4 x6).bind fun x8=>
 some x8
noncomputable def wF (a1:List ByteArray):Option (List ByteArray):=if a1.length≤4611686018427387903 then some (((a1.map (·.data.toList)).mergeSort fun x y=>decide (x≤y)).map fun l=>(⟨l.toArray⟩:ByteArray)) else none
noncomputable def xY (s41:Int) (x48:(List ByteArray)) (s61:((List ByteArray)×Int×Int)):Option (Lp ((List ByteArray)×Int×Int) ((List ByteArray)×Int)):=
 if decide (s61.2.2< (x48.length:Int)) then
  ((zHF s61.1 s41 x48.length s61.2.2).bind fun x63=>
  (zHF s61.1 s41 x48.length (w64 (s61.2.2-1))).bind fun x65=>
  (if !(seq x63 x65) then
    ((zHF s61.1 s41 x48.length s61.2.2).bind fun x68=>
    (idx s61.1 s61.2.1).bind fun x70=>
    some (s61.1.set s61.2.1.toNat x68,w64 (s61.2.1+1)))
   else
    (some (s61.1,s61.2.1))).bind fun v72=>
  some (Lp.go (v72.1,v72.2,w64 (s61.2.2+1))))
 else
  (some (Lp.done (s61.1,s61.2.1)))
noncomputable def xK (s41:Int) (x48:(List ByteArray)):((List ByteArray)×Int×Int)→Option ((List ByteArray)×Int):=loop (xY s41 x48)
noncomputable def yS (a1:(List ByteArray)) (s41:Int):Option (Lp Int (Fl (List ByteArray) Unit)):=
 if decide (s41< (a1.length:Int)) then
  ((idx a1 s41).bind fun x43=>
  (idx a1 (w64 (s41-1))).bind fun x45=>
  if seq x43 x45 then
   ((zEq a1 s41 (a1.length:Int)).bind fun x48=>
   (xK s41 x48 (a1,s41,1)).bind fun v73=>
   (zEq v73.1 v73.2 (v73.1.length:Int)).bind fun x74=>
   (zL8 v73.1 v73.2 x74.length ByteArray.empty).bind fun x76=>
   (zEq x76 0 v73.2).bind fun x78=>
   some (Lp.done (Fl.ret x78)))
  else
   (some (Lp.go (w64 (s41+1)))))
 else
  (some (Lp.done (Fl.nxt ())))
noncomputable def wE (a1:(List ByteArray)):Int→Option (Fl (List ByteArray) Unit):=loop (yS a1)
noncomputable def xO (a1:(List ByteArray)):Option (List ByteArray):=
 if decide ((a1.length:Int)<2) then
  (some a1)
 else
  ((wE a1 1).bind (Fl.go some fun v80=>
  some a1))
noncomputable def zBu (a1:(List ByteArray)):Option (List ByteArray):=
 (wF a1).bind fun x2=>
 (same x2 a1).bind fun u4=>
 (xO x2).bind fun x6=>
 some x6
noncomputable def tT (a1:(List Pack)) (a2:zL) (a3:(List Int)) (s30:((List ByteArray)×Int)) (x34:((List Int)×Int)) (s46:((List ByteArray)×Int)):Option (Lp ((List ByteArray)×Int) (List ByteArray)):=
 if decide (s46.2< (x34.1.length:Int)) then
  ((idx x34.1 s46.2).bind fun x48=>
  (idx a1 x48).bind fun x50=>
  (zAq x50).bind fun x52=>
  (app 16 s46.1 [x52]).bind fun x54=>
  some (Lp.go (x54,w64 (s46.2+1))))
 else
  (some (Lp.done s46.1))
noncomputable def wS (a1:(List Pack)) (a2:zL) (a3:(List Int)) (s30:((List ByteArray)×Int)) (x34:((List Int)×Int)):((List ByteArray)×Int)→Option (List ByteArray):=loop (tT a1 a2 a3 s30 x34)
noncomputable def vP (a1:(List Pack)) (a2:zL) (a3:(List Int)) (s30:((List ByteArray)×Int)):Option (Lp ((List ByteArray)×Int) (Fl ((List ByteArray)×Int) (List ByteArray))):=
 if decide (s30.2< (a3.length:Int)) then
  ((idx a3 s30.2).bind fun x32=>
  (zCQ a1 a2 x32).bind fun x34=>
  if x34.2 !=0 then
   (some (Lp.done (Fl.ret (([]:List ByteArray),x34.2))))
  else
   ((wS a1 a2 a3 s30 x34 (s30.1,0)).bind fun v56=>
   some (Lp.go (v56,w64 (s30.2+1)))))
 else
  (some (Lp.done (Fl.nxt s30.1)))
noncomputable def kC (a1:(List Pack)) (a2:zL) (a3:(List Int)):((List ByteArray)×Int)→Option (Fl ((List ByteArray)×Int) (List ByteArray)):=loop (vP a1 a2 a3)
noncomputable def kS (a1:(List Pack)) (a2:zL) (a3:(List Int)):Option ((List ByteArray)×Int):=
 (kC a1 a2 a3 (([]:List ByteArray),0)).bind (Fl.go some fun v57=>
 (zBu v57).bind fun x58=>
 some (x58,0))
noncomputable def uF (a1:(List Pack)) (a2:zL) (a3:(List Int)):Option ((List ByteArray)×Int):=
 (jF a2 a3).bind fun x4=>
 if x4.2 !=0 then
  (some (([]:List ByteArray),x4.2))
 else
  ((kS a1 a2 x4.1).bind fun x7=>
  some (x7.1,x7.2))
noncomputable def xR (a1:(List Pack)) (a2:zL) (a3:(List Int)):Option zJ:=
 (jB a1 a2).bind fun x4=>
 if x4 !=0 then
  (some ({Code:=x4,Names:=([]:List ByteArray)}:zJ))
 else
  ((uF a1 a2 a3).bind fun x7=>
  some ({Code:=x7.2,Names:=x7.1}:zJ))
noncomputable def zBj (a1:(List ByteArray)) (a2:(List ByteArray)) (s10:Int):Option (Lp Int (Fl Bool Unit)):=
 if decide (s10< (a1.length:Int)) then
  ((idx a1 s10).bind fun x12=>
  (idx a2 s10).bind fun x14=>
  if !(seq x12 x14) then
   (some (Lp.done (Fl.ret false)))
  else
   (some (Lp.go (w64 (s10+1)))))
 else
  (some (Lp.done (Fl.nxt ())))
noncomputable def zA4 (a1:(List ByteArray)) (a2:(List ByteArray)):Int→Option (Fl Bool Unit):=loop (zBj a1 a2)
noncomputable def uK (a1:(List ByteArray)) (a2:(List ByteArray)):Option Bool:=
 if (a1.length:Int) !=(a2.length:Int) then
  (some false)
 else
  ((zA4 a1 a2 0).bind (Fl.go some fun v17=>
  some true))
noncomputable def yX (a1:zJ) (a2:zJ):Option Bool:=
 if a1.Code !=a2.Code then
  (some false)
 else
  ((uK a1.Names a2.Names).bind fun x4=>
  if !x4 then
   (some false)
  else
   (some true))
noncomputable def wM (a1:Version) (a2:Version):Option Bool:=
 if a1.A !=a2.A then
  (some false)
 else
  (if a1.B !=a2.B then
   (some false)
  else
   (if a1.C !=a2.C then
    (some false)
   else
    (some true)))
noncomputable def zC0 (a1:Term) (a2:Term):Option Bool:=
 if !(seq a1.Name a2.Name) then
  (some false)
 else
  ((wM a1.Low a2.Low).bind fun x4=>
  if !x4 then
   (some false)
  else
   ((wM a1.High a2.High).bind fun x7=>
   if !x7 then
    (some false)
   else
    (some true)))
noncomputable def zCl (a1:(List Term)) (a2:(List Term)) (s12:Int):Option (Lp Int (Fl Bool Unit)):=
 if decide (s12< (a1.length:Int)) then
  ((idx a1 s12).bind fun x14=>
  (idx a2 s12).bind fun x16=>
  (zC0 x14 x16).bind fun x18=>
  if !x18 then
   (some (Lp.done (Fl.ret false)))
  else
   (some (Lp.go (w64 (s12+1)))))
 else
  (some (Lp.done (Fl.nxt ())))
noncomputable def zB8 (a1:(List Term)) (a2:(List Term)):Int→Option (Fl Bool Unit):=loop (zCl a1 a2)
noncomputable def zAm (a1:(List Term)) (a2:(List Term)):Option Bool:=
 if (a1.length:Int) !=(a2.length:Int) then
  (some false)
 else
  ((zB8 a1 a2 0).bind (Fl.go some fun v21=>
  some true))
noncomputable def zBU (a1:(List (List Term))) (a2:(List (List Term))) (s12:Int):Option (Lp Int (Fl Bool Unit)):=
 if decide (s12< (a1.length:Int)) then
  ((idx a1 s12).bind fun x14=>
  (idx a2 s12).bind fun x16=>
  (zAm x14 x16).bind fun x18=>
  if !x18 then
   (some (Lp.done (Fl.ret false)))
  else
   (some (Lp.go (w64 (s12+1)))))
 else
  (some (Lp.done (Fl.nxt ())))
noncomputable def zAX (a1:(List (List Term))) (a2:(List (List Term))):Int→Option (Fl Bool Unit):=loop (zBU a1 a2)
noncomputable def zAK (a1:(List (List Term))) (a2:(List (List Term))):Option Bool:=
 if (a1.length:Int) !=(a2.length:Int) then
  (some false)
 else
  ((zAX a1 a2 0).bind (Fl.go some fun v21=>
  some true))
noncomputable def zC1 (a1:Pack) (a2:Pack):Option Bool:=
 if !(seq a1.Name a2.Name) then
  (some false)
 else
  ((wM a1.Version a2.Version).bind fun x4=>
  if !x4 then
   (some false)
  else
   (if a1.Size !=a2.Size then
    (some false)
   else
    ((uK a1.Provides a2.Provides).bind fun x8=>
    if !x8 then
     (some false)
    else
     ((zAK a1.Needs a2.Needs).bind fun x11=>
     if !x11 then
      (some false)
     else
      ((zAm a1.Bars a2.Bars).bind fun x14=>
      if !x14 then
       (some false)
      else
       (some true))))))
noncomputable def zCm (a1:(List Pack)) (a2:(List Pack)) (s12:Int):Option (Lp Int (Fl Bool Unit)):=
 if decide (s12< (a1.length:Int)) then
  ((idx a1 s12).bind fun x14=>
  (idx a2 s12).bind fun x16=>
  (zC1 x14 x16).bind fun x18=>
  if !x18 then
   (some (Lp.done (Fl.ret false)))
  else
   (some (Lp.go (w64 (s12+1)))))
 else
  (some (Lp.done (Fl.nxt ())))
noncomputable def zB7 (a1:(List Pack)) (a2:(List Pack)):Int→Option (Fl Bool Unit):=loop (zCm a1 a2)
noncomputable def zBP (a1:(List Pack)) (a2:(List Pack)):Option Bool:=
 if (a1.length:Int) !=(a2.length:Int) then
  (some false)
 else
  ((zB7 a1 a2 0).bind (Fl.go some fun v21=>
  some true))
noncomputable def zCq (a1:(List Int)) (a2:(List Int)) (s10:Int):Option (Lp Int (Fl Bool Unit)):=
 if decide (s10< (a1.length:Int)) then
  ((idx a1 s10).bind fun x12=>
  (idx a2 s10).bind fun x14=>
  if x12 !=x14 then
   (some (Lp.done (Fl.ret false)))
  else
   (some (Lp.go (w64 (s10+1)))))
 else
  (some (Lp.done (Fl.nxt ())))
noncomputable def zBL (a1:(List Int)) (a2:(List Int)):Int→Option (Fl Bool Unit):=loop (zCq a1 a2)
noncomputable def zBt (a1:(List Int)) (a2:(List Int)):Option Bool:=
 if (a1.length:Int) !=(a2.length:Int) then
  (some false)
 else
  ((zBL a1 a2 0).bind (Fl.go some fun v17=>
  some true))
noncomputable def zC6 (a1:File) (a2:File):Option Bool:=
 if !(seq a1.Path a2.Path) then
  (some false)
 else
  ((zBt a1.Data a2.Data).bind fun x4=>
  if !x4 then
   (some false)
  else
   (some true))
noncomputable def zCk (a1:(List File)) (a2:(List File)) (s12:Int):Option (Lp Int (Fl Bool Unit)):=
 if decide (s12< (a1.length:Int)) then
  ((idx a1 s12).bind fun x14=>
  (idx a2 s12).bind fun x16=>
  (zC6 x14 x16).bind fun x18=>
  if !x18 then
   (some (Lp.done (Fl.ret false)))
  else
   (some (Lp.go (w64 (s12+1)))))
 else
  (some (Lp.done (Fl.nxt ())))
noncomputable def zBK (a1:(List File)) (a2:(List File)):Int→Option (Fl Bool Unit):=loop (zCk a1 a2)
noncomputable def zBz (a1:(List File)) (a2:(List File)):Option Bool:=
 if (a1.length:Int) !=(a2.length:Int) then
  (some false)
 else
  ((zBK a1 a2 0).bind (Fl.go some fun v21=>
  some true))
noncomputable def zCw (a1:zL) (a2:zL):Option Bool:=
 (zBz a1.Files a2.Files).bind fun x3=>
 if !x3 then
  (some false)
 else
  (if a1.Budget !=a2.Budget then
   (some false)
  else
   (if a1.Writes !=a2.Writes then
    (some false)
   else
    (if a1.Stop !=a2.Stop then
     (some false)
    else
     (if !(a1.Down==a2.Down) then
      (some false)
     else
      (some true)))))
noncomputable def zBW (a1:(List Int)) (a2:(List Int)) (s10:Int):Option (Lp Int (Fl Bool Unit)):=
 if decide (s10< (a1.length:Int)) then
  ((idx a1 s10).bind fun x12=>
  (idx a2 s10).bind fun x14=>
  if x12 !=x14 then
   (some (Lp.done (Fl.ret false)))
  else
   (some (Lp.go (w64 (s10+1)))))
 else
  (some (Lp.done (Fl.nxt ())))
noncomputable def zAS (a1:(List Int)) (a2:(List Int)):Int→Option (Fl Bool Unit):=loop (zBW a1 a2)
noncomputable def zAH (a1:(List Int)) (a2:(List Int)):Option Bool:=
 if (a1.length:Int) !=(a2.length:Int) then
  (some false)
 else
  ((zAS a1 a2 0).bind (Fl.go some fun v17=>
  some true))
noncomputable def zBT (s6:(Int×ByteArray)):Option (Lp (Int×ByteArray) ByteArray):=
 if decide (s6.1>0) then
  ((cat (b2s [IntKind.u8.wrap (w64 (48+(s6.1.tmod 10)))]) s6.2).bind fun x8=>
  some (Lp.go (w64 (s6.1.tdiv 10),x8)))
 else
  (some (Lp.done s6.2))
noncomputable def zAR:(Int×ByteArray)→Option ByteArray:=loop zBT
noncomputable def yY (a1:Int):Option ByteArray:=
 if decide (a1≤0) then
  (some (bs [109,48]))
 else
  ((zAR (a1,bs [])).bind fun v10=>
  (cat (bs [109]) v10).bind fun x11=>
  some x11)
noncomputable def uU (s8:((List ByteArray)×Int×Int)):Option (Lp ((List ByteArray)×Int×Int) ((List ByteArray)×Int)):=
 if decide (s8.2.2< (s8.1.length:Int)) then
  ((yY s8.2.1).bind fun x10=>
  (idx s8.1 s8.2.2).bind fun x12=>
  some (Lp.go (s8.1.set s8.2.2.toNat x10,w64 (s8.2.1+1),w64 (s8.2.2+1))))
 else
  (some (Lp.done (s8.1,s8.2.1)))
noncomputable def tY:((List ByteArray)×Int×Int)→Option ((List ByteArray)×Int):=loop uU
noncomputable def wB (a1:(List ByteArray)) (a2:Int):Option (Int×(List ByteArray)):=
 (tY (a1,a2,0)).bind fun v14=>
 some (v14.2,v14.1)
noncomputable def kE (s20:((List Term)×Int×Int)):Option (Lp ((List Term)×Int×Int) ((List Term)×Int)):=
 if decide (s20.2.2< (s20.1.length:Int)) then
  ((yY s20.2.1).bind fun x22=>
  (idx s20.1 s20.2.2).bind fun x24=>
  (idx (s20.1.set s20.2.2.toNat ({Name:=x22,Low:=x24.Low,High:=x24.High}:Term)) s20.2.2).bind fun x26=>
  (idx ((s20.1.set s20.2.2.toNat ({Name:=x22,Low:=x24.Low,High:=x24.High}:Term)).set s20.2.2.toNat ({Name:=x26.Name,Low:=({A:=w64 (s20.2.1+1),B:=x26.Low.B,C:=x26.Low.C}:Version),High:=x26.High}:Term)) s20.2.2).bind fun x28=>
  (idx (((s20.1.set s20.2.2.toNat ({Name:=x22,Low:=x24.Low,High:=x24.High}:Term)).set s20.2.2.toNat ({Name:=x26.Name,Low:=({A:=w64 (s20.2.1+1),B:=x26.Low.B,C:=x26.Low.C}:Version),High:=x26.High}:Term)).set s20.2.2.toNat ({Name:=x28.Name,Low:=({A:=x28.Low.A,B:=w64 ((w64 (s20.2.1+1))+1),C:=x28.Low.C}:Version),High:=x28.High}:Term)) s20.2.2).bind fun x30=>
  (idx ((((s20.1.set s20.2.2.toNat ({Name:=x22,Low:=x24.Low,High:=x24.High}:Term)).set s20.2.2.toNat ({Name:=x26.Name,Low:=({A:=w64 (s20.2.1+1),B:=x26.Low.B,C:=x26.Low.C}:Version),High:=x26.High}:Term)).set s20.2.2.toNat ({Name:=x28.Name,Low:=({A:=x28.Low.A,B:=w64 ((w64 (s20.2.1+1))+1),C:=x28.Low.C}:Version),High:=x28.High}:Term)).set s20.2.2.toNat ({Name:=x30.Name,Low:=({A:=x30.Low.A,B:=x30.Low.B,C:=w64 ((w64 ((w64 (s20.2.1+1))+1))+1)}:Version),High:=x30.High}:Term)) s20.2.2).bind fun x32=>
  (idx (((((s20.1.set s20.2.2.toNat ({Name:=x22,Low:=x24.Low,High:=x24.High}:Term)).set s20.2.2.toNat ({Name:=x26.Name,Low:=({A:=w64 (s20.2.1+1),B:=x26.Low.B,C:=x26.Low.C}:Version),High:=x26.High}:Term)).set s20.2.2.toNat ({Name:=x28.Name,Low:=({A:=x28.Low.A,B:=w64 ((w64 (s20.2.1+1))+1),C:=x28.Low.C}:Version),High:=x28.High}:Term)).set s20.2.2.toNat ({Name:=x30.Name,Low:=({A:=x30.Low.A,B:=x30.Low.B,C:=w64 ((w64 ((w64 (s20.2.1+1))+1))+1)}:Version),High:=x30.High}:Term)).set s20.2.2.toNat ({Name:=x32.Name,Low:=x32.Low,High:=({A:=w64 ((w64 ((w64 ((w64 (s20.2.1+1))+1))+1))+1),B:=x32.High.B,C:=x32.High.C}:Version)}:Term)) s20.2.2).bind fun x34=>
  (idx ((((((s20.1.set s20.2.2.toNat ({Name:=x22,Low:=x24.Low,High:=x24.High}:Term)).set s20.2.2.toNat ({Name:=x26.Name,Low:=({A:=w64 (s20.2.1+1),B:=x26.Low.B,C:=x26.Low.C}:Version),High:=x26.High}:Term)).set s20.2.2.toNat ({Name:=x28.Name,Low:=({A:=x28.Low.A,B:=w64 ((w64 (s20.2.1+1))+1),C:=x28.Low.C}:Version),High:=x28.High}:Term)).set s20.2.2.toNat ({Name:=x30.Name,Low:=({A:=x30.Low.A,B:=x30.Low.B,C:=w64 ((w64 ((w64 (s20.2.1+1))+1))+1)}:Version),High:=x30.High}:Term)).set s20.2.2.toNat ({Name:=x32.Name,Low:=x32.Low,High:=({A:=w64 ((w64 ((w64 ((w64 (s20.2.1+1))+1))+1))+1),B:=x32.High.B,C:=x32.High.C}:Version)}:Term)).set s20.2.2.toNat ({Name:=x34.Name,Low:=x34.Low,High:=({A:=x34.High.A,B:=w64 ((w64 ((w64 ((w64 ((w64 (s20.2.1+1))+1))+1))+1))+1),C:=x34.High.C}:Version)}:Term)) s20.2.2).bind fun x36=>
  some (Lp.go (((((((s20.1.set s20.2.2.toNat ({Name:=x22,Low:=x24.Low,High:=x24.High}:Term)).set s20.2.2.toNat ({Name:=x26.Name,Low:=({A:=w64 (s20.2.1+1),B:=x26.Low.B,C:=x26.Low.C}:Version),High:=x26.High}:Term)).set s20.2.2.toNat ({Name:=x28.Name,Low:=({A:=x28.Low.A,B:=w64 ((w64 (s20.2.1+1))+1),C:=x28.Low.C}:Version),High:=x28.High}:Term)).set s20.2.2.toNat ({Name:=x30.Name,Low:=({A:=x30.Low.A,B:=x30.Low.B,C:=w64 ((w64 ((w64 (s20.2.1+1))+1))+1)}:Version),High:=x30.High}:Term)).set s20.2.2.toNat ({Name:=x32.Name,Low:=x32.Low,High:=({A:=w64 ((w64 ((w64 ((w64 (s20.2.1+1))+1))+1))+1),B:=x32.High.B,C:=x32.High.C}:Version)}:Term)).set s20.2.2.toNat ({Name:=x34.Name,Low:=x34.Low,High:=({A:=x34.High.A,B:=w64 ((w64 ((w64 ((w64 ((w64 (s20.2.1+1))+1))+1))+1))+1),C:=x34.High.C}:Version)}:Term)).set s20.2.2.toNat ({Name:=x36.Name,Low:=x36.Low,High:=({A:=x36.High.A,B:=x36.High.B,C:=w64 ((w64 ((w64 ((w64 ((w64 ((w64 (s20.2.1+1))+1))+1))+1))+1))+1)}:Version)}:Term),w64 ((w64 ((w64 ((w64 ((w64 ((w64 ((w64 (s20.2.1+1))+1))+1))+1))+1))+1))+1),w64 (s20.2.2+1))))
 else
  (some (Lp.done (s20.1,s20.2.1)))
noncomputable def zAd:((List Term)×Int×Int)→Option ((List Term)×Int):=loop kE
noncomputable def vL (a1:(List Term)) (a2:Int):Option (Int×(List Term)):=
 (zAd (a1,a2,0)).bind fun v38=>
 some (v38.2,v38.1)
noncomputable def tV (s10:((List (List Term))×Int×Int)):Option (Lp ((List (List Term))×Int×Int) ((List (List Term))×Int)):=
 if decide (s10.2.2< (s10.1.length:Int)) then
  ((idx s10.1 s10.2.2).bind fun x12=>
  (vL x12 s10.2.1).bind fun x14=>
  (same x14.2 x12).bind fun u16=>
  some (Lp.go (s10.1.set s10.2.2.toNat x14.2,x14.1,w64 (s10.2.2+1))))
 else
  (some (Lp.done (s10.1,s10.2.1)))
noncomputable def kM:((List (List Term))×Int×Int)→Option ((List (List Term))×Int):=loop tV
noncomputable def tH (a1:(List (List Term))) (a2:Int):Option (Int×(List (List Term))):=
 (kM (a1,a2,0)).bind fun v18=>
 some (v18.2,v18.1)
noncomputable def kK (s34:((List Pack)×Int×Int)):Option (Lp ((List Pack)×Int×Int) ((List Pack)×Int)):=
 if decide (s34.2.2< (s34.1.length:Int)) then
  ((yY s34.2.1).bind fun x36=>
  (idx s34.1 s34.2.2).bind fun x38=>
  (idx (s34.1.set s34.2.2.toNat ({Name:=x36,Version:=x38.Version,Size:=x38.Size,Provides:=x38.Provides,Needs:=x38.Needs,Bars:=x38.Bars}:Pack)) s34.2.2).bind fun x40=>
  (idx ((s34.1.set s34.2.2.toNat ({Name:=x36,Version:=x38.Version,Size:=x38.Size,Provides:=x38.Provides,Needs:=x38.Needs,Bars:=x38.Bars}:Pack)).set s34.2.2.toNat ({Name:=x40.Name,Version:=({A:=w64 (s34.2.1+1),B:=x40.Version.B,C:=x40.Version.C}:Version),Size:=x40.Size,Provides:=x40.Provides,Needs:=x40.Needs,Bars:=x40.Bars}:Pack)) s34.2.2).bind fun x42=>
  (idx (((s34.1.set s34.2.2.toNat ({Name:=x36,Version:=x38.Version,Size:=x38.Size,Provides:=x38.Provides,Needs:=x38.Needs,Bars:=x38.Bars}:Pack)).set s34.2.2.toNat ({Name:=x40.Name,Version:=({A:=w64 (s34.2.1+1),B:=x40.Version.B,C:=x40.Version.C}:Version),Size:=x40.Size,Provides:=x40.Provides,Needs:=x40.Needs,Bars:=x40.Bars}:Pack)).set s34.2.2.toNat ({Name:=x42.Name,Version:=({A:=x42.Version.A,B:=w64 ((w64 (s34.2.1+1))+1),C:=x42.Version.C}:Version),Size:=x42.Size,Provides:=x42.Provides,Needs:=x42.Needs,Bars:=x42.Bars}:Pack)) s34.2.2).bind fun x44=>
  (idx ((((s34.1.set s34.2.2.toNat ({Name:=x36,Version:=x38.Version,Size:=x38.Size,Provides:=x38.Provides,Needs:=x38.Needs,Bars:=x38.Bars}:Pack)).set s34.2.2.toNat ({Name:=x40.Name,Version:=({A:=w64 (s34.2.1+1),B:=x40.Version.B,C:=x40.Version.C}:Version),Size:=x40.Size,Provides:=x40.Provides,Needs:=x40.Needs,Bars:=x40.Bars}:Pack)).set s34.2.2.toNat ({Name:=x42.Name,Version:=({A:=x42.Version.A,B:=w64 ((w64 (s34.2.1+1))+1),C:=x42.Version.C}:Version),Size:=x42.Size,Provides:=x42.Provides,Needs:=x42.Needs,Bars:=x42.Bars}:Pack)).set s34.2.2.toNat ({Name:=x44.Name,Version:=({A:=x44.Version.A,B:=x44.Version.B,C:=w64 ((w64 ((w64 (s34.2.1+1))+1))+1)}:Version),Size:=x44.Size,Provides:=x44.Provides,Needs:=x44.Needs,Bars:=x44.Bars}:Pack)) s34.2.2).bind fun x46=>
  (idx (((((s34.1.set s34.2.2.toNat ({Name:=x36,Version:=x38.Version,Size:=x38.Size,Provides:=x38.Provides,Needs:=x38.Needs,Bars:=x38.Bars}:Pack)).set s34.2.2.toNat ({Name:=x40.Name,Version:=({A:=w64 (s34.2.1+1),B:=x40.Version.B,C:=x40.Version.C}:Version),Size:=x40.Size,Provides:=x40.Provides,Needs:=x40.Needs,Bars:=x40.Bars}:Pack)).set s34.2.2.toNat ({Name:=x42.Name,Version:=({A:=x42.Version.A,B:=w64 ((w64 (s34.2.1+1))+1),C:=x42.Version.C}:Version),Size:=x42.Size,Provides:=x42.Provides,Needs:=x42.Needs,Bars:=x42.Bars}:Pack)).set s34.2.2.toNat ({Name:=x44.Name,Version:=({A:=x44.Version.A,B:=x44.Version.B,C:=w64 ((w64 ((w64 (s34.2.1+1))+1))+1)}:Version),Size:=x44.Size,Provides:=x44.Provides,Needs:=x44.Needs,Bars:=x44.Bars}:Pack)).set s34.2.2.toNat ({Name:=x46.Name,Version:=x46.Version,Size:=w64 ((w64 ((w64 ((w64 (s34.2.1+1))+1))+1))+1),Provides:=x46.Provides,Needs:=x46.Needs,Bars:=x46.Bars}:Pack)) s34.2.2).bind fun x48=>
  (wB x48.Provides (w64 ((w64 ((w64 ((w64 ((w64 (s34.2.1+1))+1))+1))+1))+1))).bind fun x50=>
  (same x50.2 x48.Provides).bind fun u52=>
  (idx ((((((s34.1.set s34.2.2.toNat ({Name:=x36,Version:=x38.Version,Size:=x38.Size,Provides:=x38.Provides,Needs:=x38.Needs,Bars:=x38.Bars}:Pack)).set s34.2.2.toNat ({Name:=x40.Name,Version:=({A:=w64 (s34.2.1+1),B:=x40.Version.B,C:=x40.Version.C}:Version),Size:=x40.Size,Provides:=x40.Provides,Needs:=x40.Needs,Bars:=x40.Bars}:Pack)).set s34.2.2.toNat ({Name:=x42.Name,Version:=({A:=x42.Version.A,B:=w64 ((w64 (s34.2.1+1))+1),C:=x42.Version.C}:Version),Size:=x42.Size,Provides:=x42.Provides,Needs:=x42.Needs,Bars:=x42.Bars}:Pack)).set s34.2.2.toNat ({Name:=x44.Name,Version:=({A:=x44.Version.A,B:=x44.Version.B,C:=w64 ((w64 ((w64 (s34.2.1+1))+1))+1)}:Version),Size:=x44.Size,Provides:=x44.Provides,Needs:=x44.Needs,Bars:=x44.Bars}:Pack)).set s34.2.2.toNat ({Name:=x46.Name,Version:=x46.Version,Size:=w64 ((w64 ((w64 ((w64 (s34.2.1+1))+1))+1))+1),Provides:=x46.Provides,Needs:=x46.Needs,Bars:=x46.Bars}:Pack)).set s34.2.2.toNat ({Name:=x48.Name,Version:=x48.Version,Size:=x48.Size,Provides:=x50.2,Needs:=x48.Needs,Bars:=x48.Bars}:Pack)) s34.2.2).bind fun x54=>
  (tH x54.Needs x50.1).bind fun x56=>
  (same x56.2 x54.Needs).bind fun u58=>
  (idx (((((((s34.1.set s34.2.2.toNat ({Name:=x36,Version:=x38.Version,Size:=x38.Size,Provides:=x38.Provides,Needs:=x38.Needs,Bars:=x38.Bars}:Pack)).set s34.2.2.toNat ({Name:=x40.Name,Version:=({A:=w64 (s34.2.1+1),B:=x40.Version.B,C:=x40.Version.C}:Version),Size:=x40.Size,Provides:=x40.Provides,Needs:=x40.Needs,Bars:=x40.Bars}:Pack)).set s34.2.2.toNat ({Name:=x42.Name,Version:=({A:=x42.Version.A,B:=w64 ((w64 (s34.2.1+1))+1),C:=x42.Version.C}:Version),Size:=x42.Size,Provides:=x42.Provides,Needs:=x42.Needs,Bars:=x42.Bars}:Pack)).set s34.2.2.toNat ({Name:=x44.Name,Version:=({A:=x44.Version.A,B:=x44.Version.B,C:=w64 ((w64 ((w64 (s34.2.1+1))+1))+1)}:Version),Size:=x44.Size,Provides:=x44.Provides,Needs:=x44.Needs,Bars:=x44.Bars}:Pack)).set s34.2.2.toNat ({Name:=x46.Name,Version:=x46.Version,Size:=w64 ((w64 ((w64 ((w64 (s34.2.1+1))+1))+1))+1),Provides:=x46.Provides,Needs:=x46.Needs,Bars:=x46.Bars}:Pack)).set s34.2.2.toNat ({Name:=x48.Name,Version:=x48.Version,Size:=x48.Size,Provides:=x50.2,Needs:=x48.Needs,Bars:=x48.Bars}:Pack)).set s34.2.2.toNat ({Name:=x54.Name,Version:=x54.Version,Size:=x54.Size,Provides:=x54.Provides,Needs:=x56.2,Bars:=x54.Bars}:Pack)) s34.2.2).bind fun x60=>
  (vL x60.Bars x56.1).bind fun x62=>
  (same x62.2 x60.Bars).bind fun u64=>
  some (Lp.go ((((((((s34.1.set s34.2.2.toNat ({Name:=x36,Version:=x38.Version,Size:=x38.Size,Provides:=x38.Provides,Needs:=x38.Needs,Bars:=x38.Bars}:Pack)).set s34.2.2.toNat ({Name:=x40.Name,Version:=({A:=w64 (s34.2.1+1),B:=x40.Version.B,C:=x40.Version.C}:Version),Size:=x40.Size,Provides:=x40.Provides,Needs:=x40.Needs,Bars:=x40.Bars}:Pack)).set s34.2.2.toNat ({Name:=x42.Name,Version:=({A:=x42.Version.A,B:=w64 ((w64 (s34.2.1+1))+1),C:=x42.Version.C}:Version),Size:=x42.Size,Provides:=x42.Provides,Needs:=x42.Needs,Bars:=x42.Bars}:Pack)).set s34.2.2.toNat ({Name:=x44.Name,Version:=({A:=x44.Version.A,B:=x44.Version.B,C:=w64 ((w64 ((w64 (s34.2.1+1))+1))+1)}:Version),Size:=x44.Size,Provides:=x44.Provides,Needs:=x44.Needs,Bars:=x44.Bars}:Pack)).set s34.2.2.toNat ({Name:=x46.Name,Version:=x46.Version,Size:=w64 ((w64 ((w64 ((w64 (s34.2.1+1))+1))+1))+1),Provides:=x46.Provides,Needs:=x46.Needs,Bars:=x46.Bars}:Pack)).set s34.2.2.toNat ({Name:=x48.Name,Version:=x48.Version,Size:=x48.Size,Provides:=x50.2,Needs:=x48.Needs,Bars:=x48.Bars}:Pack)).set s34.2.2.toNat ({Name:=x54.Name,Version:=x54.Version,Size:=x54.Size,Provides:=x54.Provides,Needs:=x56.2,Bars:=x54.Bars}:Pack)).set s34.2.2.toNat ({Name:=x60.Name,Version:=x60.Version,Size:=x60.Size,Provides:=x60.Provides,Needs:=x60.Needs,Bars:=x62.2}:Pack),x62.1,w64 (s34.2.2+1))))
 else
  (some (Lp.done (s34.1,s34.2.1)))
noncomputable def zAb:((List Pack)×Int×Int)→Option ((List Pack)×Int):=loop kK
noncomputable def kI (a1:(List Pack)) (a2:Int):Option (Int×(List Pack)):=
 (zAb (a1,a2,0)).bind fun v66=>
 some (v66.2,v66.1)
noncomputable def jX (s6:((List Int)×Int×Int)):Option (Lp ((List Int)×Int×Int) ((List Int)×Int)):=
 if decide (s6.2.2< (s6.1.length:Int)) then
  ((idx s6.1 s6.2.2).bind fun x8=>
  some (Lp.go (s6.1.set s6.2.2.toNat (IntKind.u8.wrap (s6.2.1)),w64 (s6.2.1+1),w64 (s6.2.2+1))))
 else
  (some (Lp.done (s6.1,s6.2.1)))
noncomputable def zAf:((List Int)×Int×Int)→Option ((List Int)×Int):=loop jX
noncomputable def jZ (a1:(List Int)) (a2:Int):Option (Int×(List Int)):=
 (zAf (a1,a2,0)).bind fun v10=>
 some (v10.2,v10.1)
noncomputable def kP (s14:((List File)×Int×Int)):Option (Lp ((List File)×Int×Int) ((List File)×Int)):=
 if decide (s14.2.2< (s14.1.length:Int)) then
  ((yY s14.2.1).bind fun x16=>
  (idx s14.1 s14.2.2).bind fun x18=>
  (idx (s14.1.set s14.2.2.toNat ({Path:=x16,Data:=x18.Data}:File)) s14.2.2).bind fun x20=>
  (jZ x20.Data (w64 (s14.2.1+1))).bind fun x22=>
  (same x22.2 x20.Data).bind fun u24=>
  some (Lp.go ((s14.1.set s14.2.2.toNat ({Path:=x16,Data:=x18.Data}:File)).set s14.2.2.toNat ({Path:=x20.Path,Data:=x22.2}:File),x22.1,w64 (s14.2.2+1))))
 else
  (some (Lp.done (s14.1,s14.2.1)))
noncomputable def zAi:((List File)×Int×Int)→Option ((List File)×Int):=loop kP
noncomputable def kJ (a1:(List File)) (a2:Int):Option (Int×(List File)):=
 (zAi (a1,a2,0)).bind fun v26=>
 some (v26.2,v26.1)
noncomputable def zAw (a1:zL) (a2:Int):Option (Int×(List File)):=
 (kJ a1.Files a2).bind fun x3=>
 (same x3.2 a1.Files).bind fun u5=>
 some (x3.1,x3.2)
noncomputable def tL (s6:((List Int)×Int×Int)):Option (Lp ((List Int)×Int×Int) ((List Int)×Int)):=
 if decide (s6.2.2< (s6.1.length:Int)) then
  ((idx s6.1 s6.2.2).bind fun x8=>
  some (Lp.go (s6.1.set s6.2.2.toNat s6.2.1,w64 (s6.2.1+1),w64 (s6.2.2+1))))
 else
  (some (Lp.done (s6.1,s6.2.1)))
noncomputable def kH:((List Int)×Int×Int)→Option ((List Int)×Int):=loop tL
noncomputable def tJ (a1:(List Int)) (a2:Int):Option (Int×(List Int)):=
 (kH (a1,a2,0)).bind fun v10=>
 some (v10.2,v10.1)
noncomputable def xX (a1:zJ) (a2:Int):Option (Int×(List ByteArray)):=
 (wB a1.Names a2).bind fun x3=>
 (same x3.2 a1.Names).bind fun u5=>
 some (x3.1,x3.2)
noncomputable def tZ (a1:(List ByteArray)) (s9:(Int×Int)):Option (Lp (Int×Int) (Fl Int Int)):=
 if decide (s9.2< (a1.length:Int)) then
  ((idx a1 s9.2).bind fun x11=>
  (yY s9.1).bind fun x13=>
  if !(seq x11 x13) then
   (some (Lp.done (Fl.ret (-1))))
  else
   (some (Lp.go (w64 (s9.1+1),w64 (s9.2+1)))))
 else
  (some (Lp.done (Fl.nxt s9.1)))
noncomputable def kN (a1:(List ByteArray)):(Int×Int)→Option (Fl Int Int):=loop (tZ a1)
noncomputable def tK (a1:(List ByteArray)) (a2:Int):Option Int:=
 (kN a1 (a2,0)).bind (Fl.go some fun v16=>
 some v16)
noncomputable def xD (a1:zJ) (a2:Int):Option Int:=
 (tK a1.Names a2).bind fun x3=>
 if decide (x3<0) then
  (some (-1))
 else
  (some x3)
noncomputable def xI (a1:(List Pack)) (a2:zL) (a3:(List Int)):Option Bool:=
 if decide ((a3.length:Int)>1048576) then
  (some true)
 else
  ((zB4 a1 1048576).bind fun x5=>
  if decide (x5<0) then
   (some true)
  else
   ((zC2 a2 x5).bind fun x8=>
   if decide (x8<0) then
    (some true)
   else
    ((wW a1).bind fun x11=>
    (uD a2).bind fun x13=>
    (xZ a3).bind fun x15=>
    (wX x11 x13 x15).bind fun x17=>
    (wW a1).bind fun x19=>
    (uD a2).bind fun x21=>
    (xZ a3).bind fun x23=>
    (xR x19 x21 x23).bind fun x25=>
    (yX x25 x17).bind fun x27=>
    if !x27 then
     (some false)
    else
     ((wW a1).bind fun x30=>
     (zBP x19 x30).bind fun x32=>
     if !x32 then
      (some false)
     else
      ((uD a2).bind fun x35=>
      (zCw x21 x35).bind fun x37=>
      if !x37 then
       (some false)
      else
       ((xZ a3).bind fun x40=>
       (zAH x23 x40).bind fun x42=>
       if !x42 then
        (some false)
       else
        ((kI x19 1).bind fun x45=>
        (zAw x21 x45.1).bind fun x47=>
        (tJ x23 x47.1).bind fun x49=>
        (if decide (x49.1<0) then
          (some true)
         else
          ((yX x25 x17).bind fun x52=>
          some (!x52))).bind fun v54=>
        if v54 then
         (some false)
        else
         ((xX x25 1).bind fun x56=>
         (same x56.2 x25.Names).bind fun u58=>
         (xD ({Code:=x25.Code,Names:=x56.2}:zJ) 1).bind fun x60=>
         if decide (x60<0) then
          (some false)
         else
          (if x60 !=x56.1 then
           (some false)
          else
           ((wW a1).bind fun x64=>
           (uD a2).bind fun x66=>
           (xZ a3).bind fun x68=>
           (xR x64 x66 x68).bind fun x70=>
           (yX x70 x17).bind fun x72=>
           if !x72 then
            (some false)
           else
            ((xD ({Code:=x25.Code,Names:=x56.2}:zJ) 1).bind fun x75=>
            if decide (x75<0) then
             (some false)
            else
             (if x75 !=x56.1 then
              (some false)
             else
              (some true)))))))))))))
end Go.Told

import Derived.Test.YtlagdfkkokgakaaGreatDoorImF
set_option linter.unusedVariables false
set_option maxRecDepth 4000
namespace Go.Told
open Go Go.Im
structure Version where
 A:Int
 B:Int
 C:Int
 deriving DecidableEq
def Version.enc (x:Version):List D:=[.sc (.int .i64 x.A),.sc (.int .i64 x.B),.sc (.int .i64 x.C)]
theorem Version.fl (x:Version):zCU (Version.enc x):=(flatK yI (flatK yI (flatK yI zDx)))
structure Term where
 Name:ByteArray
 Low:Version
 High:Version
 deriving DecidableEq
def Term.enc (x:Term):List D:=[.sc (.string x.Name),.sc (.int .i64 x.Low.A),.sc (.int .i64 x.Low.B),.sc (.int .i64 x.Low.C),.sc (.int .i64 x.High.A),.sc (.int .i64 x.High.B),.sc (.int .i64 x.High.C)]
theorem Term.fl (x:Term):zCU (Term.enc x):=(flatK yI (flatK yI (flatK yI (flatK yI (flatK yI (flatK yI (flatK yI zDx)))))))
structure Pack where
 Name:ByteArray
 Version:Version
 Size:Int
 Provides:(List ByteArray)
 Needs:(List (List Term))
 Bars:(List Term)
 deriving DecidableEq
def Pack.enc (o:Bool) (x:Pack):List D:=[.sc (.string x.Name),.sc (.int .i64 x.Version.A),.sc (.int .i64 x.Version.B),.sc (.int .i64 x.Version.C),.sc (.int .i64 x.Size),.s o 1 x.Provides.length (x.Provides.map eStr),.s o 1 x.Needs.length (x.Needs.map (eSl o 7 Term.enc)),.s o 7 x.Bars.length (x.Bars.map Term.enc)]
theorem Pack.ro (o:Bool) (x:Pack):D.ro.roC (Pack.enc o x)=Pack.enc false x:=by
 simp only [Pack.enc,D.ro.roC,D.ro,zDZ (enc:=eStr) (enc':=eStr) (fun _=>rfl),zDZ (enc:=(eSl o 7 Term.enc)) (enc':=(eSl false 7 Term.enc)) (zNu (fun _=>rfl)),zDZ (enc:=Term.enc) (enc':=Term.enc) (fun _=>rfl)]
theorem Pack.fl (x:Pack):zCU (Pack.enc true x):=(flatK yI (flatK yI (flatK yI (flatK yI (flatK yI (flatK (zDt (zED (fun _=>(flatK yI zDx)) _)) (flatK (zDt (zED (fun _=>(flatK (zDt (zED (fun _=>(Term.fl _)) _)) zDx)) _)) (flatK (zDt (zED (fun _=>(Term.fl _)) _)) zDx))))))))
structure File where
 Path:ByteArray
 Data:(List Int)
 deriving DecidableEq
def File.enc (o:Bool) (x:File):List D:=[.sc (.string x.Path),.s o 1 x.Data.length (x.Data.map eU8)]
theorem File.ro (o:Bool) (x:File):D.ro.roC (File.enc o x)=File.enc false x:=by
 simp only [File.enc,D.ro.roC,D.ro,zDZ (enc:=eU8) (enc':=eU8) (fun _=>rfl)]
theorem File.fl (x:File):zCU (File.enc true x):=(flatK yI (flatK (zDt (zED (fun _=>(flatK yI zDx)) _)) zDx))
structure zI where
 Files:(List File)
 Budget:Int
 Writes:Int
 Stop:Int
 Down:Bool
 deriving DecidableEq
def zI.enc (o:Bool) (x:zI):List D:=[.s o 2 x.Files.length (x.Files.map (File.enc o)),.sc (.int .i64 x.Budget),.sc (.int .i64 x.Writes),.sc (.int .i64 x.Stop),.sc (.bool x.Down)]
theorem zI.ro (o:Bool) (x:zI):D.ro.roC (zI.enc o x)=zI.enc false x:=by
 simp only [zI.enc,D.ro.roC,D.ro,zDZ (enc:=(File.enc o)) (enc':=(File.enc false)) (File.ro o)]
theorem zI.fl (x:zI):zCU (zI.enc true x):=(flatK (zDt (zED (fun _=>(File.fl _)) _)) (flatK yI (flatK yI (flatK yI (flatK yI zDx)))))
structure yM where
 Code:Int
 Value:Int
 deriving DecidableEq
def yM.enc (x:yM):List D:=[.sc (.int .i64 x.Code),.sc (.int .i64 x.Value)]
theorem yM.fl (x:yM):zCU (yM.enc x):=(flatK yI (flatK yI zDx))
structure yE where
 Code:Int
 At:Int
 Set:(List Int)
 deriving DecidableEq
def yE.enc (o:Bool) (x:yE):List D:=[.sc (.int .i64 x.Code),.sc (.int .i64 x.At),.s o 1 x.Set.length (x.Set.map zJ)]
theorem yE.ro (o:Bool) (x:yE):D.ro.roC (yE.enc o x)=yE.enc false x:=by
 simp only [yE.enc,D.ro.roC,D.ro,zDZ (enc:=zJ) (enc':=zJ) (fun _=>rfl)]
theorem yE.fl (x:yE):zCU (yE.enc true x):=(flatK yI (flatK yI (flatK (zDt (zED (fun _=>(flatK yI zDx)) _)) zDx)))
structure zN where
 Code:Int
 Version:Version
 deriving DecidableEq
def zN.enc (x:zN):List D:=[.sc (.int .i64 x.Code),.sc (.int .i64 x.Version.A),.sc (.int .i64 x.Version.B),.sc (.int .i64 x.Version.C)]
theorem zN.fl (x:zN):zCU (zN.enc x):=(flatK yI (flatK yI (flatK yI (flatK yI zDx))))
noncomputable def kH (a1:(List ByteArray)) (s8:(Int×Int)):Option (Lp (Int×Int) (Fl Int Int)):=
 if decide (s8.2< (a1.length:Int)) then
  ((idx a1 s8.2).bind fun x10=>
  if decide ((w64 (s8.1-(x10.size:Int)))<0) then
   (some (Lp.done (Fl.ret (-1))))
  else
   (some (Lp.go (w64 (s8.1-(x10.size:Int)),w64 (s8.2+1)))))
 else
  (some (Lp.done (Fl.nxt s8.1)))
noncomputable def zAj (a1:(List ByteArray)):(Int×Int)→Option (Fl Int Int):=loop (kH a1)
noncomputable def kY (a1:(List ByteArray)) (a2:Int):Option Int:=
 if decide ((w64 (a2-(a1.length:Int)))<0) then
  (some (-1))
 else
  ((zAj a1 (w64 (a2-(a1.length:Int)),0)).bind (Fl.go some fun v13=>
  some v13))
noncomputable def zCa (a1:Term) (a2:Int):Option Int:=
 if decide ((w64 (a2-(a1.Name.size:Int)))<0) then
  (some (-1))
 else
  (some (w64 (a2-(a1.Name.size:Int))))
noncomputable def zAA (a1:(List Term)) (s10:(Int×Int)):Option (Lp (Int×Int) (Fl Int Int)):=
 if decide (s10.2< (a1.length:Int)) then
  ((idx a1 s10.2).bind fun x12=>
  (zCa x12 s10.1).bind fun x14=>
  if decide (x14<0) then
   (some (Lp.done (Fl.ret (-1))))
  else
   (some (Lp.go (x14,w64 (s10.2+1)))))
 else
  (some (Lp.done (Fl.nxt s10.1)))
noncomputable def zAU (a1:(List Term)):(Int×Int)→Option (Fl Int Int):=loop (zAA a1)
noncomputable def jY (a1:(List Term)) (a2:Int):Option Int:=
 if decide ((w64 (a2-(a1.length:Int)))<0) then
  (some (-1))
 else
  ((zAU a1 (w64 (a2-(a1.length:Int)),0)).bind (Fl.go some fun v17=>
  some v17))
noncomputable def zAe (a1:(List (List Term))) (s10:(Int×Int)):Option (Lp (Int×Int) (Fl Int Int)):=
 if decide (s10.2< (a1.length:Int)) then
  ((idx a1 s10.2).bind fun x12=>
  (jY x12 s10.1).bind fun x14=>
  if decide (x14<0) then
   (some (Lp.done (Fl.ret (-1))))
  else
   (some (Lp.go (x14,w64 (s10.2+1)))))
 else
  (some (Lp.done (Fl.nxt s10.1)))
noncomputable def zAB (a1:(List (List Term))):(Int×Int)→Option (Fl Int Int):=loop (zAe a1)
noncomputable def zAr (a1:(List (List Term))) (a2:Int):Option Int:=
 if decide ((w64 (a2-(a1.length:Int)))<0) then
  (some (-1))
 else
  ((zAB a1 (w64 (a2-(a1.length:Int)),0)).bind (Fl.go some fun v17=>
  some v17))
noncomputable def zBT (a1:Pack) (a2:Int):Option Int:=
 if decide ((w64 (a2-(a1.Name.size:Int)))<0) then
  (some (-1))
 else
  ((kY a1.Provides (w64 (a2-(a1.Name.size:Int)))).bind fun x4=>
  if decide (x4<0) then
   (some (-1))
  else
   ((zAr a1.Needs x4).bind fun x7=>
   if decide (x7<0) then
    (some (-1))
   else
    ((jY a1.Bars x7).bind fun x10=>
    if decide (x10<0) then
     (some (-1))
    else
     (some x10))))
noncomputable def zA7 (a1:(List Pack)) (s10:(Int×Int)):Option (Lp (Int×Int) (Fl Int Int)):=
 if decide (s10.2< (a1.length:Int)) then
  ((idx a1 s10.2).bind fun x12=>
  (zBT x12 s10.1).bind fun x14=>
  if decide (x14<0) then
   (some (Lp.done (Fl.ret (-1))))
  else
   (some (Lp.go (x14,w64 (s10.2+1)))))
 else
  (some (Lp.done (Fl.nxt s10.1)))
noncomputable def zAS (a1:(List Pack)):(Int×Int)→Option (Fl Int Int):=loop (zA7 a1)
noncomputable def zAN (a1:(List Pack)) (a2:Int):Option Int:=
 if decide ((w64 (a2-(a1.length:Int)))<0) then
  (some (-1))
 else
  ((zAS a1 (w64 (a2-(a1.length:Int)),0)).bind (Fl.go some fun v17=>
  some v17))
noncomputable def zBv (a1:(List Int)) (a2:Int):Option Int:=
 if decide ((w64 (a2-(a1.length:Int)))<0) then
  (some (-1))
 else
  (some (w64 (a2-(a1.length:Int))))
noncomputable def zCb (a1:File) (a2:Int):Option Int:=
 if decide ((w64 (a2-(a1.Path.size:Int)))<0) then
  (some (-1))
 else
  ((zBv a1.Data (w64 (a2-(a1.Path.size:Int)))).bind fun x4=>
  if decide (x4<0) then
   (some (-1))
  else
   (some x4))
noncomputable def zA5 (a1:(List File)) (s10:(Int×Int)):Option (Lp (Int×Int) (Fl Int Int)):=
 if decide (s10.2< (a1.length:Int)) then
  ((idx a1 s10.2).bind fun x12=>
  (zCb x12 s10.1).bind fun x14=>
  if decide (x14<0) then
   (some (Lp.done (Fl.ret (-1))))
  else
   (some (Lp.go (x14,w64 (s10.2+1)))))
 else
  (some (Lp.done (Fl.nxt s10.1)))
noncomputable def zBu (a1:(List File)):(Int×Int)→Option (Fl Int Int):=loop (zA5 a1)
noncomputable def zBy (a1:(List File)) (a2:Int):Option Int:=
 if decide ((w64 (a2-(a1.length:Int)))<0) then
  (some (-1))
 else
  ((zBu a1 (w64 (a2-(a1.length:Int)),0)).bind (Fl.go some fun v17=>
  some v17))
noncomputable def zBY (a1:zI) (a2:Int):Option Int:=
 (zBy a1.Files a2).bind fun x3=>
 if decide (x3<0) then
  (some (-1))
 else
  (some x3)
noncomputable def wE (a1:Version):Option Version:=
 some a1
noncomputable def zAH (a1:(List ByteArray)) (s9:((List ByteArray)×Int)):Option (Lp ((List ByteArray)×Int) (List ByteArray)):=
 if decide (s9.2< (a1.length:Int)) then
  ((idx a1 s9.2).bind fun x11=>
  (idx s9.1 s9.2).bind fun x13=>
  some (Lp.go (s9.1.set s9.2.toNat x11,w64 (s9.2+1))))
 else
  (some (Lp.done s9.1))
noncomputable def zAg (a1:(List ByteArray)):((List ByteArray)×Int)→Option (List ByteArray):=loop (zAH a1)
noncomputable def kV (a1:(List ByteArray)):Option (List ByteArray):=
 (mk 16 (a1.length:Int) ByteArray.empty).bind fun x2=>
 (zAg a1 (x2,0)).bind fun v15=>
 some v15
noncomputable def zCe (a1:Term):Option Term:=
 (wE a1.Low).bind fun x2=>
 (wE a1.High).bind fun x4=>
 some ({Name:=a1.Name,Low:=x2,High:=x4}:Term)
noncomputable def zBO (a1:(List Term)) (s11:((List Term)×Int)):Option (Lp ((List Term)×Int) (List Term)):=
 if decide (s11.2< (a1.length:Int)) then
  ((idx a1 s11.2).bind fun x13=>
  (zCe x13).bind fun x15=>
  (idx s11.1 s11.2).bind fun x17=>
  some (Lp.go (s11.1.set s11.2.toNat x15,w64 (s11.2+1))))
 else
  (some (Lp.done s11.1))
noncomputable def zAY (a1:(List Term)):((List Term)×Int)→Option (List Term):=loop (zBO a1)
noncomputable def kF (a1:(List Term)):Option (List Term):=
 (mk 64 (a1.length:Int) ({Name:=ByteArray.empty,Low:=({A:=0,B:=0,C:=0}:Version),High:=({A:=0,B:=0,C:=0}:Version)}:Term)).bind fun x2=>
 (zAY a1 (x2,0)).bind fun v19=>
 some v19
noncomputable def zB5 (a1:(List (List Term))) (s11:((List (List Term))×Int)):Option (Lp ((List (List Term))×Int) (List (List Term))):=
 if decide (s11.2< (a1.length:Int)) then
  ((idx a1 s11.2).bind fun x13=>
  (kF x13).bind fun x15=>
  (idx s11.1 s11.2).bind fun x17=>
  some (Lp.go (s11.1.set s11.2.toNat x15,w64 (s11.2+1))))
 else
  (some (Lp.done s11.1))
noncomputable def zA6 (a1:(List (List Term))):((List (List Term))×Int)→Option (List (List Term)):=loop (zB5 a1)
noncomputable def zAv (a1:(List (List Term))):Option (List (List Term)):=
 (mk 24 (a1.length:Int) ([]:List Term)).bind fun x2=>
 (zA6 a1 (x2,0)).bind fun v19=>
 some v19
noncomputable def zBS (a1:Pack):Option Pack:=
 (wE a1.Version).bind fun x2=>
 (kV a1.Provides).bind fun x4=>
 (zAv a1.Needs).bind fun x6=>
 (kF a1.Bars).bind fun x8=>
 some ({Name:=a1.Name,Version:=x2,Size:=a1.Size,Provides:=x4,Needs:=x6,Bars:=x8}:Pack)
noncomputable def zBN (a1:(List Pack)) (s11:((List Pack)×Int)):Option (Lp ((List Pack)×Int) (List Pack)):=
 if decide (s11.2< (a1.length:Int)) then
  ((idx a1 s11.2).bind fun x13=>
  (zBS x13).bind fun x15=>
  (idx s11.1 s11.2).bind fun x17=>
  some (Lp.go (s11.1.set s11.2.toNat x15,w64 (s11.2+1))))
 else
  (some (Lp.done s11.1))
noncomputable def zB0 (a1:(List Pack)):((List Pack)×Int)→Option (List Pack):=loop (zBN a1)
noncomputable def uD (a1:(List Pack)):Option (List Pack):=
 (mk 120 (a1.length:Int) ({Name:=ByteArray.empty,Version:=({A:=0,B:=0,C:=0}:Version),Size:=0,Provides:=([]:List ByteArray),Needs:=([]:List (List Term)),Bars:=([]:List Term)}:Pack)).bind fun x2=>
 (zB0 a1 (x2,0)).bind fun v19=>
 some v19
noncomputable def zBQ (a1:(List Int)) (s9:((List Int)×Int)):Option (Lp ((List Int)×Int) (List Int)):=
 if decide (s9.2< (a1.length:Int)) then
  ((idx a1 s9.2).bind fun x11=>
  (idx s9.1 s9.2).bind fun x13=>
  some (Lp.go (s9.1.set s9.2.toNat x11,w64 (s9.2+1))))
 else
  (some (Lp.done s9.1))
noncomputable def zBc (a1:(List Int)):((List Int)×Int)→Option (List Int):=loop (zBQ a1)
noncomputable def zBl (a1:(List Int)):Option (List Int):=
 (mk 1 (a1.length:Int) 0).bind fun x2=>
 (zBc a1 (x2,0)).bind fun v15=>
 some v15
noncomputable def zBR (a1:File):Option File:=
 (zBl a1.Data).bind fun x2=>
 some ({Path:=a1.Path,Data:=x2}:File)
noncomputable def zBK (a1:(List File)) (s11:((List File)×Int)):Option (Lp ((List File)×Int) (List File)):=
 if decide (s11.2< (a1.length:Int)) then
  ((idx a1 s11.2).bind fun x13=>
  (zBR x13).bind fun x15=>
  (idx s11.1 s11.2).bind fun x17=>
  some (Lp.go (s11.1.set s11.2.toNat x15,w64 (s11.2+1))))
 else
  (some (Lp.done s11.1))
noncomputable def zB3 (a1:(List File)):((List File)×Int)→Option (List File):=loop (zBK a1)
noncomputable def zBq (a1:(List File)):Option (List File):=
 (mk 40 (a1.length:Int) ({Path:=ByteArray.empty,Data:=([]:List Int)}:File)).bind fun x2=>
 (zB3 a1 (x2,0)).bind fun v19=>
 some v19
noncomputable def jI (a1:zI):Option zI:=
 (zBq a1.Files).bind fun x2=>
 some ({Files:=x2,Budget:=a1.Budget,Writes:=a1.Writes,Stop:=a1.Stop,Down:=a1.Down}:zI)
noncomputable def wK (a1:Int):Option Bool:=
 if decide (a1≥97) then
  (some (decide (a1≤122)))
 else
  (some false)
noncomputable def wQ (a1:Int):Option Bool:=
 if decide (a1≥48) then
  (some (decide (a1≤57)))
 else
  (some false)
noncomputable def wT (a1:Int):Option Bool:=
 (wK a1).bind fun x2=>
 if x2 then
  (some true)
 else
  ((wQ a1).bind fun x5=>
  if x5 then
   (some true)
  else
   (some (a1==95)))
noncomputable def zAM (a1:ByteArray) (s16:Int):Option (Lp Int (Fl Int Unit)):=
 if decide (s16< (a1.size:Int)) then
  ((bidx a1 s16).bind fun x18=>
  (wT x18).bind fun x20=>
  if !x20 then
   (some (Lp.done (Fl.ret 5)))
  else
   (some (Lp.go (w64 (s16+1)))))
 else
  (some (Lp.done (Fl.nxt ())))
noncomputable def tQ (a1:ByteArray):Int→Option (Fl Int Unit):=loop (zAM a1)
noncomputable def wB (a1:ByteArray):Option Int:=
 (if decide ((a1.size:Int)<1) then
   (some true)
  else
   (if decide ((a1.size:Int)>12) then
    (some true)
   else
    ((bidx a1 0).bind fun x4=>
    (wK x4).bind fun x6=>
    some (!x6)))).bind fun v8=>
 if v8 then
  (some 5)
 else
  ((tQ a1 0).bind (Fl.go some fun v23=>
  some 0))
noncomputable def yY (a1:Int) (a2:Int) (a3:Int):Option Bool:=
 if decide (a1≥a2) then
  (some (decide (a1≤a3)))
 else
  (some false)
noncomputable def yS (a1:Version):Option Int:=
 (yY a1.A 0 999).bind fun x2=>
 (if !x2 then
   (some true)
  else
   ((yY a1.B 0 999).bind fun x5=>
   if !x5 then
    (some true)
   else
    ((yY a1.C 0 999).bind fun x8=>
    some (!x8)))).bind fun v10=>
 if v10 then
  (some 3)
 else
  (some 0)
noncomputable def zAE (a1:(List ByteArray)) (a2:ByteArray) (s7:Int):Option (Lp Int (Fl Bool Unit)):=
 if decide (s7< (a1.length:Int)) then
  ((idx a1 s7).bind fun x9=>
  if seq x9 a2 then
   (some (Lp.done (Fl.ret true)))
  else
   (some (Lp.go (w64 (s7+1)))))
 else
  (some (Lp.done (Fl.nxt ())))
noncomputable def zBj (a1:(List ByteArray)) (a2:ByteArray):Int→Option (Fl Bool Unit):=loop (zAE a1 a2)
noncomputable def jZ (a1:(List ByteArray)) (a2:ByteArray):Option Bool:=
 (zBj a1 a2 0).bind (Fl.go some fun v12=>
 some false)
noncomputable def zCz:Option Version:=
 some ({A:=1000,B:=0,C:=0}:Version)
noncomputable def jJ (a1:Int) (a2:Int):Option Int:=
 if decide (a1<a2) then
  (some (-1))
 else
  (if decide (a1>a2) then
   (some 1)
  else
   (some 0))
noncomputable def xD (a1:Version) (a2:Version):Option Int:=
 (jJ a1.A a2.A).bind fun x3=>
 if x3 !=0 then
  (some x3)
 else
  ((jJ a1.B a2.B).bind fun x6=>
  if x6 !=0 then
   (some x6)
  else
   ((jJ a1.C a2.C).bind fun x9=>
   some x9))
noncomputable def kU (a1:Term):Option Int:=
 (wB a1.Name).bind fun x2=>
 if x2 !=0 then
  (some x2)
 else
  ((yS a1.Low).bind fun x5=>
  if x5 !=0 then
   (some x5)
  else
   ((zCz).bind fun x8=>
   (if !(a1.High.A==x8.A&&(a1.High.B==x8.B&&(a1.High.C==x8.C&&true))) then
     ((yS a1.High).bind fun x11=>
     some (x11 !=0))
    else
     (some false)).bind fun v13=>
   if v13 then
    (some 3)
   else
    ((xD a1.Low a1.High).bind fun x15=>
    if decide (x15≥0) then
     (some 1)
    else
     (some 0))))
noncomputable def zA2 (a1:(List Term)) (s8:Int):Option (Lp Int (Fl Int Unit)):=
 if decide (s8< (a1.length:Int)) then
  ((idx a1 s8).bind fun x10=>
  (kU x10).bind fun x12=>
  if x12 !=0 then
   (some (Lp.done (Fl.ret x12)))
  else
   (some (Lp.go (w64 (s8+1)))))
 else
  (some (Lp.done (Fl.nxt ())))
noncomputable def zBf (a1:(List Term)):Int→Option (Fl Int Unit):=loop (zA2 a1)
noncomputable def tJ (a1:(List Term)):Option Int:=
 (zBf a1 0).bind (Fl.go some fun v15=>
 some 0)
noncomputable def kP (a1:Pack) (s70:Int):Option (Lp Int (Fl Int Unit)):=
 if decide (s70< (a1.Needs.length:Int)) then
  ((idx a1.Needs s70).bind fun x72=>
  if (x72.length:Int)==0 then
   (some (Lp.done (Fl.ret 1)))
  else
   ((idx a1.Needs s70).bind fun x75=>
   (tJ x75).bind fun x77=>
   if x77 !=0 then
    (some (Lp.done (Fl.ret x77)))
   else
    (some (Lp.go (w64 (s70+1))))))
 else
  (some (Lp.done (Fl.nxt ())))
noncomputable def tZ (a1:Pack):Int→Option (Fl Int Unit):=loop (kP a1)
noncomputable def kM (a1:Pack) (s42:Int):Option (Lp Int (Fl Int Unit)):=
 if decide (s42< (a1.Provides.length:Int)) then
  ((idx a1.Provides s42).bind fun x44=>
  (wB x44).bind fun x46=>
  if x46 !=0 then
   (some (Lp.done (Fl.ret x46)))
  else
   ((idx a1.Provides s42).bind fun x49=>
   (if seq x49 a1.Name then
     (some true)
    else
     ((zDG a1.Provides 0 s42).bind fun x52=>
     (idx a1.Provides s42).bind fun x54=>
     (jZ x52 x54).bind fun x56=>
     some x56)).bind fun v58=>
   if v58 then
    (some (Lp.done (Fl.ret 6)))
   else
    (some (Lp.go (w64 (s42+1))))))
 else
  (some (Lp.done (Fl.nxt ())))
noncomputable def jD (a1:Pack):Int→Option (Fl Int Unit):=loop (kM a1)
noncomputable def kN (a1:Pack) (s19:Int):Option (Lp Int (Fl Int Unit)):=
 if decide (s19< (a1.Needs.length:Int)) then
  ((idx a1.Needs s19).bind fun x21=>
  if decide ((x21.length:Int)>4) then
   (some (Lp.done (Fl.ret 2)))
  else
   (some (Lp.go (w64 (s19+1)))))
 else
  (some (Lp.done (Fl.nxt ())))
noncomputable def zAm (a1:Pack):Int→Option (Fl Int Unit):=loop (kN a1)
noncomputable def kT (a1:Pack):Option Int:=
 (wB a1.Name).bind fun x2=>
 if x2 !=0 then
  (some x2)
 else
  ((yS a1.Version).bind fun x5=>
  if x5 !=0 then
   (some x5)
  else
   ((yY a1.Size 1 200).bind fun x8=>
   if !x8 then
    (some 3)
   else
    ((if decide ((a1.Provides.length:Int)>4) then
       (some true)
      else
       (if decide ((a1.Needs.length:Int)>4) then
        (some true)
       else
        (some (decide ((a1.Bars.length:Int)>4))))).bind fun v13=>
    if v13 then
     (some 2)
    else
     ((zAm a1 0).bind (Fl.go some fun v24=>
     (jD a1 0).bind (Fl.go some fun v60=>
     (tZ a1 0).bind (Fl.go some fun v80=>
     (tJ a1.Bars).bind fun x81=>
     some x81)))))))
noncomputable def zBg (a1:(List Pack)) (a2:ByteArray) (a3:Version) (s14:Int):Option (Lp Int (Fl Int Unit)):=
 if decide (s14< (a1.length:Int)) then
  ((idx a1 s14).bind fun x16=>
  (if seq x16.Name a2 then
    ((idx a1 s14).bind fun x19=>
    (xD x19.Version a3).bind fun x21=>
    some (x21==0))
   else
    (some false)).bind fun v23=>
  if v23 then
   (some (Lp.done (Fl.ret s14)))
  else
   (some (Lp.go (w64 (s14+1)))))
 else
  (some (Lp.done (Fl.nxt ())))
noncomputable def zB9 (a1:(List Pack)) (a2:ByteArray) (a3:Version):Int→Option (Fl Int Unit):=loop (zBg a1 a2 a3)
noncomputable def jM (a1:(List Pack)) (a2:ByteArray) (a3:Version):Option Int:=
 (zB9 a1 a2 a3 0).bind (Fl.go some fun v25=>
 some (-1))
noncomputable def uJ (a1:(List Pack)) (s18:Int):Option (Lp Int (Fl Int Unit)):=
 if decide (s18< (a1.length:Int)) then
  ((idx a1 s18).bind fun x20=>
  (kT x20).bind fun x22=>
  if x22 !=0 then
   (some (Lp.done (Fl.ret x22)))
  else
   ((zDG a1 0 s18).bind fun x25=>
   (idx a1 s18).bind fun x27=>
   (idx a1 s18).bind fun x29=>
   (jM x25 x27.Name x29.Version).bind fun x31=>
   if decide (x31≥0) then
    (some (Lp.done (Fl.ret 6)))
   else
    (some (Lp.go (w64 (s18+1))))))
 else
  (some (Lp.done (Fl.nxt ())))
noncomputable def uU (a1:(List Pack)):Int→Option (Fl Int Unit):=loop (uJ a1)
noncomputable def vS (a1:(List Pack)):Option Int:=
 if decide ((a1.length:Int)>24) then
  (some 2)
 else
  ((uU a1 0).bind (Fl.go some fun v34=>
  some 0))
noncomputable def zCg (a1:Int):Option Bool:=
 (wT a1).bind fun x2=>
 if x2 then
  (some true)
 else
  (if a1==46 then
   (some true)
  else
   (if a1==45 then
    (some true)
   else
    (some (a1==47))))
noncomputable def uM (a1:ByteArray) (s11:Int):Option (Lp Int (Fl Int Unit)):=
 if decide (s11< (a1.size:Int)) then
  ((bidx a1 s11).bind fun x13=>
  (zCg x13).bind fun x15=>
  if !x15 then
   (some (Lp.done (Fl.ret 5)))
  else
   (some (Lp.go (w64 (s11+1)))))
 else
  (some (Lp.done (Fl.nxt ())))
noncomputable def vW (a1:ByteArray):Int→Option (Fl Int Unit):=loop (uM a1)
noncomputable def wD (a1:ByteArray):Option Int:=
 (if decide ((a1.size:Int)<1) then
   (some true)
  else
   (some (decide ((a1.size:Int)>40)))).bind fun v3=>
 if v3 then
  (some 5)
 else
  ((vW a1 0).bind (Fl.go some fun v18=>
  some 0))
noncomputable def zAD (a1:zI) (s5:(Int×Int)):Option (Lp (Int×Int) Int):=
 if decide (s5.2< (a1.Files.length:Int)) then
  ((idx a1.Files s5.2).bind fun x7=>
  some (Lp.go (w64 (s5.1+(x7.Data.length:Int)),w64 (s5.2+1))))
 else
  (some (Lp.done s5.1))
noncomputable def zBk (a1:zI):(Int×Int)→Option Int:=loop (zAD a1)
noncomputable def zBi (a1:zI):Option Int:=
 (zBk a1 (0,0)).bind fun v9=>
 some v9
noncomputable def uN (a1:zI) (s29:Int):Option (Lp Int (Fl Int Unit)):=
 if decide (s29< (a1.Files.length:Int)) then
  ((idx a1.Files s29).bind fun x31=>
  (wD x31.Path).bind fun x33=>
  if x33 !=0 then
   (some (Lp.done (Fl.ret x33)))
  else
   ((if decide (s29>0) then
      ((idx a1.Files s29).bind fun x37=>
      (idx a1.Files (w64 (s29-1))).bind fun x39=>
      some (slt x37.Path x39.Path||seq x37.Path x39.Path))
     else
      (some false)).bind fun v41=>
   if v41 then
    (some (Lp.done (Fl.ret 1)))
   else
    ((idx a1.Files s29).bind fun x43=>
    if decide ((x43.Data.length:Int)>4000) then
     (some (Lp.done (Fl.ret 2)))
    else
     (some (Lp.go (w64 (s29+1)))))))
 else
  (some (Lp.done (Fl.nxt ())))
noncomputable def vT (a1:zI):Int→Option (Fl Int Unit):=loop (uN a1)
noncomputable def wC (a1:zI):Option Int:=
 (yY a1.Budget 0 20000).bind fun x2=>
 (if !x2 then
   (some true)
  else
   ((yY a1.Writes 0 1000000000).bind fun x5=>
   if !x5 then
    (some true)
   else
    ((yY a1.Stop (-1) 1000000000).bind fun x8=>
    some (!x8)))).bind fun v10=>
 if v10 then
  (some 3)
 else
  (if decide ((a1.Files.length:Int)>120) then
   (some 2)
  else
   ((vT a1 0).bind (Fl.go some fun v46=>
   (zBi a1).bind fun x47=>
   if decide (x47>a1.Budget) then
    (some 8)
   else
    (some 0))))
noncomputable def kE (a1:(List Pack)) (a2:zI):Option Int:=
 (vS a1).bind fun x3=>
 if x3 !=0 then
  (some x3)
 else
  ((wC a2).bind fun x6=>
  some x6)
noncomputable def uZ (a1:ByteArray) (a2:ByteArray):Option Bool:=
 if decide ((a1.size:Int)≥(a2.size:Int)) then
  ((zFY a1 0 (a2.size:Int)).bind fun x4=>
  some (seq x4 a2))
 else
  (some false)
noncomputable def jV (a1:zI) (a2:ByteArray) (s14:((List ByteArray)×Int)):Option (Lp ((List ByteArray)×Int) (List ByteArray)):=
 if decide (s14.2< (a1.Files.length:Int)) then
  ((idx a1.Files s14.2).bind fun x16=>
  (uZ x16.Path a2).bind fun x18=>
  (if x18 then
    ((idx a1.Files s14.2).bind fun x21=>
    (app 16 s14.1 [x21.Path]).bind fun x23=>
    some x23)
   else
    (some s14.1)).bind fun v25=>
  some (Lp.go (v25,w64 (s14.2+1))))
 else
  (some (Lp.done s14.1))
noncomputable def jN (a1:zI) (a2:ByteArray):((List ByteArray)×Int)→Option (List ByteArray):=loop (jV a1 a2)
noncomputable def uE (a1:zI) (a2:ByteArray):Option (List ByteArray):=
 (jN a1 a2 (([]:List ByteArray),0)).bind fun v26=>
 some v26
noncomputable def zAk (a1:ByteArray) (s14:(Int×Int)):Option (Lp (Int×Int) (Fl (Int×Bool) Int)):=
 if decide (s14.2< (a1.size:Int)) then
  ((bidx a1 s14.2).bind fun x16=>
  (wQ x16).bind fun x18=>
  if !x18 then
   (some (Lp.done (Fl.ret (0,false))))
  else
   ((bidx a1 s14.2).bind fun x21=>
   some (Lp.go (w64 ((w64 (s14.1*10))+(w64 (IntKind.u8.wrap (x21-48)))),w64 (s14.2+1)))))
 else
  (some (Lp.done (Fl.nxt s14.1)))
noncomputable def zA1 (a1:ByteArray):(Int×Int)→Option (Fl (Int×Bool) Int):=loop (zAk a1)
noncomputable def wY (a1:ByteArray) (a2:Int):Option (Int×Bool):=
 (if decide ((a1.size:Int)<1) then
   (some true)
  else
   (some (decide ((a1.size:Int)>a2)))).bind fun v4=>
 if v4 then
  (some (0,false))
 else
  ((zA1 a1 (0,0)).bind (Fl.go some fun v23=>
  some (v23,true)))
noncomputable def vH (g:Int→Option ByteArray) (s:Int):Option ByteArray:=
 match s with
 |a1=>
 if decide (a1<10) then
  (some (b2s [IntKind.u8.wrap (w64 (48+a1))]))
 else
  ((g (w64 (a1.tdiv 10))).bind fun x3=>
  (cat x3 (b2s [IntKind.u8.wrap (w64 (48+(a1.tmod 10)))])).bind fun x5=>
  some x5)
noncomputable def xO (a1:Int):Option ByteArray:=zMD vH 64 a1
noncomputable def xZ (a1:Int):Option ByteArray:=
 (yY a1 1 999999).bind fun x2=>
 if !x2 then
  (some (bs []))
 else
  ((xO (w64 (1000000+a1))).bind fun x5=>
  (zFY x5 1 (x5.size:Int)).bind fun x7=>
  (cat (bs [103,101,110,47]) x7).bind fun x9=>
  some x9)
noncomputable def zBt (a1:zI) (x2:(List ByteArray)) (s21:((List Int)×Int)):Option (Lp ((List Int)×Int) (List Int)):=
 if decide (s21.2< (x2.length:Int)) then
  ((idx x2 s21.2).bind fun x23=>
  (zFY x23 4 (x23.size:Int)).bind fun x25=>
  (wY x25 6).bind fun x27=>
  (if x27.2 then
    ((xZ x27.1).bind fun x30=>
    (idx x2 s21.2).bind fun x32=>
    some (seq x30 x32))
   else
    (some false)).bind fun v34=>
  (if v34 then
    ((app 8 s21.1 [x27.1]).bind fun x36=>
    some x36)
   else
    (some s21.1)).bind fun v38=>
  some (Lp.go (v38,w64 (s21.2+1))))
 else
  (some (Lp.done s21.1))
noncomputable def zB8 (a1:zI) (x2:(List ByteArray)):((List Int)×Int)→Option (List Int):=loop (zBt a1 x2)
noncomputable def vN (a1:zI):Option (List Int):=
 (uE a1 (bs [103,101,110,47])).bind fun x2=>
 (zB8 a1 x2 (([]:List Int),0)).bind fun v39=>
 some v39
noncomputable def zBH (a1:(List Int)) (a2:Int) (s7:Int):Option (Lp Int (Fl Bool Unit)):=
 if decide (s7< (a1.length:Int)) then
  ((idx a1 s7).bind fun x9=>
  if x9==a2 then
   (some (Lp.done (Fl.ret true)))
  else
   (some (Lp.go (w64 (s7+1)))))
 else
  (some (Lp.done (Fl.nxt ())))
noncomputable def zCo (a1:(List Int)) (a2:Int):Int→Option (Fl Bool Unit):=loop (zBH a1 a2)
noncomputable def xU (a1:(List Int)) (a2:Int):Option Bool:=
 (zCo a1 a2 0).bind (Fl.go some fun v12=>
 some false)
noncomputable def zBC (a1:(List Int)) (a2:Int) (s16:((List Int)×Bool×Int)):Option (Lp ((List Int)×Bool×Int) ((List Int)×Bool)):=
 if decide (s16.2.2< (a1.length:Int)) then
  ((idx a1 s16.2.2).bind fun x18=>
  (if decide (x18>a2) then
    (some (!s16.2.1))
   else
    (some false)).bind fun v21=>
  (if v21 then
    ((app 8 s16.1 [a2]).bind fun x23=>
    some (x23,true))
   else
    (some (s16.1,s16.2.1))).bind fun v25=>
  (idx a1 s16.2.2).bind fun x26=>
  (app 8 v25.1 [x26]).bind fun x28=>
  some (Lp.go (x28,v25.2,w64 (s16.2.2+1))))
 else
  (some (Lp.done (s16.1,s16.2.1)))
noncomputable def zCs (a1:(List Int)) (a2:Int):((List Int)×Bool×Int)→Option ((List Int)×Bool):=loop (zBC a1 a2)
noncomputable def tV (a1:(List Int)) (a2:Int):Option (List Int):=
 (zCs a1 a2 (([]:List Int),false,0)).bind fun v30=>
 (if !v30.2 then
   ((app 8 v30.1 [a2]).bind fun x32=>
   some x32)
  else
   (some v30.1)).bind fun v34=>
 some v34
noncomputable def zAX (a1:zI) (a2:ByteArray) (s7:Int):Option (Lp Int (Fl Int Unit)):=
 if decide (s7< (a1.Files.length:Int)) then
  ((idx a1.Files s7).bind fun x9=>
  if seq x9.Path a2 then
   (some (Lp.done (Fl.ret s7)))
  else
   (some (Lp.go (w64 (s7+1)))))
 else
  (some (Lp.done (Fl.nxt ())))
noncomputable def zBF (a1:zI) (a2:ByteArray):Int→Option (Fl Int Unit):=loop (zAX a1 a2)
noncomputable def xA (a1:zI) (a2:ByteArray):Option Int:=
 (zBF a1 a2 0).bind (Fl.go some fun v12=>
 some (-1))
noncomputable def kX (a1:zI):Option Int:=
 (xA a1 (bs [99,117,114])).bind fun x2=>
 if decide (x2<0) then
  (some 0)
 else
  ((idx a1.Files x2).bind fun x5=>
  (wY (b2s x5.Data) 6).bind fun x7=>
  (if !x7.2 then
    (some true)
   else
    ((vN a1).bind fun x10=>
    (xU x10 x7.1).bind fun x12=>
    some (!x12))).bind fun v14=>
  if v14 then
   (some 0)
  else
   (some x7.1))
noncomputable def zAC (a1:zI) (a2:(List Int)) (x4:(List Int)) (s22:((List Int)×Int)):Option (Lp ((List Int)×Int) (Fl ((List Int)×Int) (List Int))):=
 if decide (s22.2< (a2.length:Int)) then
  ((idx a2 s22.2).bind fun x24=>
  (xU x4 x24).bind fun x26=>
  if !x26 then
   (some (Lp.done (Fl.ret (([]:List Int),4))))
  else
   ((idx a2 s22.2).bind fun x29=>
   (xU s22.1 x29).bind fun x31=>
   (if !x31 then
     ((idx a2 s22.2).bind fun x34=>
     (tV s22.1 x34).bind fun x36=>
     some x36)
    else
     (some s22.1)).bind fun v38=>
   some (Lp.go (v38,w64 (s22.2+1)))))
 else
  (some (Lp.done (Fl.nxt s22.1)))
noncomputable def zAi (a1:zI) (a2:(List Int)) (x4:(List Int)):((List Int)×Int)→Option (Fl ((List Int)×Int) (List Int)):=loop (zAC a1 a2 x4)
noncomputable def vI (a1:zI) (a2:(List Int)):Option ((List Int)×Int):=
 if decide ((a2.length:Int)>40) then
  (some (([]:List Int),2))
 else
  ((vN a1).bind fun x4=>
  (zAi a1 a2 x4 (([]:List Int),0)).bind (Fl.go some fun v39=>
  (kX a1).bind fun x40=>
  if x40==0 then
   (some (([]:List Int),4))
  else
   ((xU v39 x40).bind fun x43=>
   (if !x43 then
     ((tV v39 x40).bind fun x46=>
     some x46)
    else
     (some v39)).bind fun v48=>
   some (v48,0))))
noncomputable def zA0 (a1:ByteArray) (a2:Int) (s14:((List ByteArray)×Int×Int)):Option (Lp ((List ByteArray)×Int×Int) (List ByteArray)):=
 if decide (s14.2.2≤(a1.size:Int)) then
  ((if s14.2.2==(a1.size:Int) then
     (some true)
    else
     ((bidx a1 s14.2.2).bind fun x17=>
     some (x17==a2))).bind fun v19=>
  (if v19 then
    ((zFY a1 s14.2.1 s14.2.2).bind fun x21=>
    (app 16 s14.1 [x21]).bind fun x23=>
    some (x23,w64 (s14.2.2+1)))
   else
    (some (s14.1,s14.2.1))).bind fun v25=>
  some (Lp.go (v25.1,v25.2,w64 (s14.2.2+1))))
 else
  (some (Lp.done s14.1))
noncomputable def zAR (a1:ByteArray) (a2:Int):((List ByteArray)×Int×Int)→Option (List ByteArray):=loop (zA0 a1 a2)
noncomputable def uH (a1:ByteArray) (a2:Int):Option (List ByteArray):=
 (zAR a1 a2 (([]:List ByteArray),0,0)).bind fun v26=>
 some v26
noncomputable def zB2 (a1:ByteArray):Option (List ByteArray):=
 (uH a1 10).bind fun x2=>
 (idx x2 (w64 ((x2.length:Int)-1))).bind fun x4=>
 (if seq x4 (bs []) then
   ((zDG x2 0 (w64 ((x2.length:Int)-1))).bind fun x7=>
   some x7)
  else
   (some x2)).bind fun v9=>
 some v9
noncomputable def zA4 (x2:(List ByteArray)) (s13:((List ByteArray)×Int)):Option (Lp ((List ByteArray)×Int) (List ByteArray)):=
 if decide (s13.2< (x2.length:Int)) then
  ((idx x2 s13.2).bind fun x15=>
  (if !(seq x15 (bs [])) then
    ((idx x2 s13.2).bind fun x18=>
    (app 16 s13.1 [x18]).bind fun x20=>
    some x20)
   else
    (some s13.1)).bind fun v22=>
  some (Lp.go (v22,w64 (s13.2+1))))
 else
  (some (Lp.done s13.1))
noncomputable def zBz (x2:(List ByteArray)):((List ByteArray)×Int)→Option (List ByteArray):=loop (zA4 x2)
noncomputable def zBr (a1:ByteArray):Option (List ByteArray):=
 (uH a1 32).bind fun x2=>
 (zBz x2 (([]:List ByteArray),0)).bind fun v23=>
 some v23
noncomputable def uI (x2:(List ByteArray)) (s13:((List Int)×Int)):Option (Lp ((List Int)×Int) (Fl zN (List Int))):=
 if decide (s13.2< (x2.length:Int)) then
  ((idx x2 s13.2).bind fun x15=>
  (wY x15 3).bind fun x17=>
  if !x17.2 then
   (some (Lp.done (Fl.ret ({Code:=5,Version:=({A:=0,B:=0,C:=0}:Version)}:zN))))
  else
   ((idx s13.1 s13.2).bind fun x20=>
   some (Lp.go (s13.1.set s13.2.toNat x17.1,w64 (s13.2+1)))))
 else
  (some (Lp.done (Fl.nxt s13.1)))
noncomputable def uW (x2:(List ByteArray)):((List Int)×Int)→Option (Fl zN (List Int)):=loop (uI x2)
noncomputable def wN (a1:ByteArray):Option zN:=
 (uH a1 46).bind fun x2=>
 if decide ((x2.length:Int)>3) then
  (some ({Code:=5,Version:=({A:=0,B:=0,C:=0}:Version)}:zN))
 else
  ((uW x2 ([0,0,0],0)).bind (Fl.go some fun v22=>
  (idx v22 0).bind fun x23=>
  (idx v22 1).bind fun x25=>
  (idx v22 2).bind fun x27=>
  some ({Code:=0,Version:=({A:=x23,B:=x25,C:=x27}:Version)}:zN)))
noncomputable def jX (a1:(List Pack)) (x4:(List ByteArray)) (s29:((List Int)×Int)):Option (Lp ((List Int)×Int) (Fl yE (List Int))):=
 if decide (s29.2< (x4.length:Int)) then
  ((idx x4 s29.2).bind fun x31=>
  (zBr x31).bind fun x33=>
  (if (x33.length:Int)==2 then
    ((idx x33 1).bind fun x36=>
    (wN x36).bind fun x38=>
    if x38.Code==0 then
     ((idx x33 0).bind fun x41=>
     (jM a1 x41 x38.Version).bind fun x43=>
     some x43)
    else
     (some (-1)))
   else
    (some (-1))).bind fun v45=>
  (if decide (v45<0) then
    (some true)
   else
    ((xU s29.1 v45).bind fun x47=>
    some x47)).bind fun v49=>
  if v49 then
   (some (Lp.done (Fl.ret ({Code:=5,At:=s29.2,Set:=([]:List Int)}:yE))))
  else
   ((tV s29.1 v45).bind fun x51=>
   some (Lp.go (x51,w64 (s29.2+1)))))
 else
  (some (Lp.done (Fl.nxt s29.1)))
noncomputable def zBm (a1:(List Pack)) (x4:(List ByteArray)):((List Int)×Int)→Option (Fl yE (List Int)):=loop (jX a1 x4)
noncomputable def zAT (a1:(List Pack)) (a2:ByteArray):Option yE:=
 if decide ((a2.size:Int)>4000) then
  (some ({Code:=2,At:=0,Set:=([]:List Int)}:yE))
 else
  ((zB2 a2).bind fun x4=>
  (zBm a1 x4 (([]:List Int),0)).bind (Fl.go some fun v53=>
  some ({Code:=0,At:=0,Set:=v53}:yE)))
noncomputable def zC0 (a1:(List Pack)) (a2:zI) (a3:Int):Option yE:=
 (vN a2).bind fun x4=>
 (xU x4 a3).bind fun x6=>
 if !x6 then
  (some ({Code:=4,At:=0,Set:=([]:List Int)}:yE))
 else
  ((xZ a3).bind fun x9=>
  (xA a2 x9).bind fun x11=>
  (idx a2.Files x11).bind fun x13=>
  (zAT a1 (b2s x13.Data)).bind fun x15=>
  if x15.Code !=0 then
   (some ({Code:=x15.Code,At:=0,Set:=([]:List Int)}:yE))
  else
   (some x15))
noncomputable def vC (a1:Version):Option ByteArray:=
 (yS a1).bind fun x2=>
 if x2 !=0 then
  (some (bs []))
 else
  ((xO a1.A).bind fun x5=>
  (cat x5 (bs [46])).bind fun x7=>
  (xO a1.B).bind fun x9=>
  (cat x7 x9).bind fun x11=>
  (cat x11 (bs [46])).bind fun x13=>
  (xO a1.C).bind fun x15=>
  (cat x13 x15).bind fun x17=>
  some x17)
noncomputable def zBV (a1:Pack):Option ByteArray:=
 (cat (bs [112,107,103,47]) a1.Name).bind fun x2=>
 (cat x2 (bs [45])).bind fun x4=>
 (vC a1.Version).bind fun x6=>
 (cat x4 x6).bind fun x8=>
 some x8
noncomputable def zDQ (a1:(List ByteArray)) (a2:ByteArray) (s19:((List ByteArray)×Bool×Int)):Option (Lp ((List ByteArray)×Bool×Int) (Fl (List ByteArray) ((List ByteArray)×Bool))):=
 if decide (s19.2.2< (a1.length:Int)) then
  ((idx a1 s19.2.2).bind fun x21=>
  if seq x21 a2 then
   (some (Lp.done (Fl.ret a1)))
  else
   ((idx a1 s19.2.2).bind fun x24=>
   (if !(slt x24 a2||seq x24 a2) then
     (some (!s19.2.1))
    else
     (some false)).bind fun v27=>
   (if v27 then
     ((app 16 s19.1 [a2]).bind fun x29=>
     some (x29,true))
    else
     (some (s19.1,s19.2.1))).bind fun v31=>
   (idx a1 s19.2.2).bind fun x32=>
   (app 16 v31.1 [x32]).bind fun x34=>
   some (Lp.go (x34,v31.2,w64 (s19.2.2+1)))))
 else
  (some (Lp.done (Fl.nxt (s19.1,s19.2.1))))
noncomputable def zCM (a1:(List ByteArray)) (a2:ByteArray):((List ByteArray)×Bool×Int)→Option (Fl (List ByteArray) ((List ByteArray)×Bool)):=loop (zDQ a1 a2)
noncomputable def zE0 (a1:(List ByteArray)) (a2:ByteArray):Option (List ByteArray):=
 (zCM a1 a2 (([]:List ByteArray),false,0)).bind (Fl.go some fun v36=>
 (if !v36.2 then
   ((app 16 v36.1 [a2]).bind fun x38=>
   some x38)
  else
   (some v36.1)).bind fun v40=>
 some v40)
noncomputable def zBe (a1:(List ByteArray)) (a2:ByteArray) (s19:((List ByteArray)×Bool×Int)):Option (Lp ((List ByteArray)×Bool×Int) (Fl (List ByteArray) ((List ByteArray)×Bool))):=
 if decide (s19.2.2< (a1.length:Int)) then
  ((idx a1 s19.2.2).bind fun x21=>
  if seq x21 a2 then
   (some (Lp.done (Fl.ret a1)))
  else
   ((idx a1 s19.2.2).bind fun x24=>
   (if !(slt x24 a2||seq x24 a2) then
     (some (!s19.2.1))
    else
     (some false)).bind fun v27=>
   (if v27 then
     ((app 16 s19.1 [a2]).bind fun x29=>
     some (x29,true))
    else
     (some (s19.1,s19.2.1))).bind fun v31=>
   (idx a1 s19.2.2).bind fun x32=>
   (app 16 v31.1 [x32]).bind fun x34=>
   some (Lp.go (x34,v31.2,w64 (s19.2.2+1)))))
 else
  (some (Lp.done (Fl.nxt (s19.1,s19.2.1))))
noncomputable def zBE (a1:(List ByteArray)) (a2:ByteArray):((List ByteArray)×Bool×Int)→Option (Fl (List ByteArray) ((List ByteArray)×Bool)):=loop (zBe a1 a2)
noncomputable def zBZ (a1:(List ByteArray)) (a2:ByteArray):Option (List ByteArray):=
 (zBE a1 a2 (([]:List ByteArray),false,0)).bind (Fl.go some fun v36=>
 (if !v36.2 then
   ((app 16 v36.1 [a2]).bind fun x38=>
   some x38)
  else
   (some v36.1)).bind fun v40=>
 some v40)
noncomputable def jH (a1:(List Pack)) (a2:zI) (x4:((List Int)×Int)) (s33:((List ByteArray)×Int)) (x37:yE) (s49:((List ByteArray)×Int)):Option (Lp ((List ByteArray)×Int) (List ByteArray)):=
 if decide (s49.2< (x37.Set.length:Int)) then
  ((idx x37.Set s49.2).bind fun x51=>
  (idx a1 x51).bind fun x53=>
  (zBV x53).bind fun x55=>
  (zBZ s49.1 x55).bind fun x57=>
  some (Lp.go (x57,w64 (s49.2+1))))
 else
  (some (Lp.done s49.1))
noncomputable def vB (a1:(List Pack)) (a2:zI) (x4:((List Int)×Int)) (s33:((List ByteArray)×Int)) (x37:yE):((List ByteArray)×Int)→Option (List ByteArray):=loop (jH a1 a2 x4 s33 x37)
noncomputable def vO (a1:(List Pack)) (a2:zI) (x4:((List Int)×Int)) (s33:((List ByteArray)×Int)):Option (Lp ((List ByteArray)×Int) (Fl ((List ByteArray)×Int) (List ByteArray))):=
 if decide (s33.2< (x4.1.length:Int)) then
  ((idx x4.1 s33.2).bind fun x35=>
  (zC0 a1 a2 x35).bind fun x37=>
  if x37.Code !=0 then
   (some (Lp.done (Fl.ret (([]:List ByteArray),x37.Code))))
  else
   ((vB a1 a2 x4 s33 x37 (s33.1,0)).bind fun v59=>
   some (Lp.go (v59,w64 (s33.2+1)))))
 else
  (some (Lp.done (Fl.nxt s33.1)))
noncomputable def kC (a1:(List Pack)) (a2:zI) (x4:((List Int)×Int)):((List ByteArray)×Int)→Option (Fl ((List ByteArray)×Int) (List ByteArray)):=loop (vO a1 a2 x4)
noncomputable def jE (a1:(List Pack)) (a2:zI) (a3:(List Int)):Option ((List ByteArray)×Int):=
 (vI a2 a3).bind fun x4=>
 if x4.2 !=0 then
  (some (([]:List ByteArray),x4.2))
 else
  ((kC a1 a2 x4 (([]:List ByteArray),0)).bind (Fl.go some fun v60=>
  some (v60,0)))
noncomputable def zAd (a1:zI) (a2:(List Int)) (a3:(List ByteArray)) (x34:(List ByteArray)) (s47:((List ByteArray)×Int)):Option (Lp ((List ByteArray)×Int) (List ByteArray)):=
 if decide (s47.2< (x34.length:Int)) then
  ((idx x34 s47.2).bind fun x49=>
  (jZ a3 x49).bind fun x51=>
  (if !x51 then
    ((idx x34 s47.2).bind fun x54=>
    (app 16 s47.1 [x54]).bind fun x56=>
    some x56)
   else
    (some s47.1)).bind fun v58=>
  some (Lp.go (v58,w64 (s47.2+1))))
 else
  (some (Lp.done s47.1))
noncomputable def zCC (a1:zI) (a2:(List Int)) (a3:(List ByteArray)) (x34:(List ByteArray)):((List ByteArray)×Int)→Option (List ByteArray):=loop (zAd a1 a2 a3 x34)
noncomputable def zAf (a1:zI) (a2:(List Int)) (a3:(List ByteArray)) (x4:(List Int)) (s19:((List ByteArray)×Int)):Option (Lp ((List ByteArray)×Int) (List ByteArray)):=
 if decide (s19.2< (x4.length:Int)) then
  ((idx x4 s19.2).bind fun x21=>
  (xU a2 x21).bind fun x23=>
  (if !x23 then
    ((idx x4 s19.2).bind fun x26=>
    (xZ x26).bind fun x28=>
    (app 16 s19.1 [x28]).bind fun x30=>
    some x30)
   else
    (some s19.1)).bind fun v32=>
  some (Lp.go (v32,w64 (s19.2+1))))
 else
  (some (Lp.done s19.1))
noncomputable def zCF (a1:zI) (a2:(List Int)) (a3:(List ByteArray)) (x4:(List Int)):((List ByteArray)×Int)→Option (List ByteArray):=loop (zAf a1 a2 a3 x4)
noncomputable def zCw (a1:zI) (a2:(List Int)) (a3:(List ByteArray)):Option (List ByteArray):=
 (vN a1).bind fun x4=>
 (zCF a1 a2 a3 x4 (([]:List ByteArray),0)).bind fun v33=>
 (uE a1 (bs [112,107,103,47])).bind fun x34=>
 (zCC a1 a2 a3 x34 (v33,0)).bind fun v59=>
 some v59
noncomputable def zA9 (a2:zI) (x11:(List ByteArray)) (s20:(Int×Int)):Option (Lp (Int×Int) Int):=
 if decide (s20.2< (x11.length:Int)) then
  ((idx x11 s20.2).bind fun x22=>
  (xA a2 x22).bind fun x24=>
  (idx a2.Files x24).bind fun x26=>
  some (Lp.go (w64 (s20.1+(x26.Data.length:Int)),w64 (s20.2+1))))
 else
  (some (Lp.done s20.1))
noncomputable def zAh (a2:zI) (x11:(List ByteArray)):(Int×Int)→Option Int:=loop (zA9 a2 x11)
noncomputable def zAp (a1:(List Pack)) (a2:zI):Option yM:=
 (kE a1 a2).bind fun x3=>
 if x3 !=0 then
  (some ({Code:=x3,Value:=0}:yM))
 else
  ((jE a1 a2 ([]:List Int)).bind fun x6=>
  if x6.2 !=0 then
   (some ({Code:=x6.2,Value:=0}:yM))
  else
   ((vI a2 ([]:List Int)).bind fun x9=>
   (zCw a2 x9.1 x6.1).bind fun x11=>
   (zAh a2 x11 (0,0)).bind fun v28=>
   some ({Code:=0,Value:=v28}:yM)))
noncomputable def yZ (a1:Int):Option Bool:=
 if decide (a1≥97) then
  (if decide (a1≤122) then
   (some true)
  else
   (if decide (a1≥48) then
    (if decide (a1≤57) then
     (some true)
    else
     (some (a1==95)))
   else
    (some (a1==95))))
 else
  (if decide (a1≥48) then
   (if decide (a1≤57) then
    (some true)
   else
    (some (a1==95)))
  else
   (some (a1==95)))
noncomputable def zAJ (a1:ByteArray) (s17:Int):Option (Lp Int (Fl Int Unit)):=
 if decide (s17< (a1.size:Int)) then
  ((bidx a1 s17).bind fun x19=>
  (yZ x19).bind fun x21=>
  if !x21 then
   (some (Lp.done (Fl.ret 5)))
  else
   (some (Lp.go (w64 (s17+1)))))
 else
  (some (Lp.done (Fl.nxt ())))
noncomputable def tT (a1:ByteArray):Int→Option (Fl Int Unit):=loop (zAJ a1)
noncomputable def wF (a1:ByteArray):Option Int:=
 (if decide ((a1.size:Int)<1) then
   (some true)
  else
   (if decide ((a1.size:Int)>12) then
    (some true)
   else
    ((bidx a1 0).bind fun x4=>
    if decide (x4<97) then
     (some true)
    else
     ((bidx a1 0).bind fun x7=>
     some (decide (x7>122)))))).bind fun v9=>
 if v9 then
  (some 5)
 else
  ((tT a1 0).bind (Fl.go some fun v24=>
  some 0))
noncomputable def yO (a1:Int) (a2:Int) (a3:Int):Option Bool:=
 if decide (a2≤a1) then
  (some (decide (a1≤a3)))
 else
  (some false)
noncomputable def xE (a1:Version):Option Int:=
 (yO a1.A 0 999).bind fun x2=>
 (if !x2 then
   (some true)
  else
   ((yO a1.B 0 999).bind fun x5=>
   if !x5 then
    (some true)
   else
    ((yO a1.C 0 999).bind fun x8=>
    some (!x8)))).bind fun v10=>
 if v10 then
  (some 3)
 else
  (some 0)
noncomputable def kK (a1:(List Int)) (s6:Int):Option (Lp Int (Fl Int Unit)):=
 if decide (s6< (a1.length:Int)) then
  ((idx a1 s6).bind fun x8=>
  if x8 !=0 then
   (some (Lp.done (Fl.ret x8)))
  else
   (some (Lp.go (w64 (s6+1)))))
 else
  (some (Lp.done (Fl.nxt ())))
noncomputable def jC (a1:(List Int)):Int→Option (Fl Int Unit):=loop (kK a1)
noncomputable def wG (a1:(List Int)):Option Int:=
 (jC a1 0).bind (Fl.go some fun v11=>
 some 0)
noncomputable def jW (a1:(List Term)):Option Bool:=
 some (decide ((a1.length:Int)>4))
noncomputable def zV (a1:(List (List Term))) (s8:Int):Option (Lp Int (Fl Int Unit)):=
 if decide (s8< (a1.length:Int)) then
  ((idx a1 s8).bind fun x10=>
  (jW x10).bind fun x12=>
  if x12 then
   (some (Lp.done (Fl.ret s8)))
  else
   (some (Lp.go (w64 (s8+1)))))
 else
  (some (Lp.done (Fl.nxt ())))
noncomputable def zZ (a1:(List (List Term))):Int→Option (Fl Int Unit):=loop (zV a1)
noncomputable def zS (a1:(List (List Term))):Option Int:=
 (zZ a1 0).bind (Fl.go some fun v15=>
 some (-1))
noncomputable def zM (a1:(List (List Term))):Option Bool:=
 (zS a1).bind fun x2=>
 some (decide (x2≥0))
noncomputable def wP (a1:(List ByteArray)) (a2:ByteArray) (s7:Int):Option (Lp Int (Fl Int Unit)):=
 if decide (s7< (a1.length:Int)) then
  ((idx a1 s7).bind fun x9=>
  if seq a2 x9 then
   (some (Lp.done (Fl.ret s7)))
  else
   (some (Lp.go (w64 (s7+1)))))
 else
  (some (Lp.done (Fl.nxt ())))
noncomputable def wX (a1:(List ByteArray)) (a2:ByteArray):Int→Option (Fl Int Unit):=loop (wP a1 a2)
noncomputable def vG (a1:(List ByteArray)) (a2:ByteArray):Option Int:=
 (wX a1 a2 0).bind (Fl.go some fun v12=>
 some (-1))
noncomputable def yR (a1:(List ByteArray)) (a2:ByteArray):Option Bool:=
 (vG a1 a2).bind fun x3=>
 some (decide (x3≥0))
noncomputable def zDk:Option Version:=
 some ({A:=1000,B:=0,C:=0}:Version)
noncomputable def uF (a1:Int):Option Bool:=
 some (a1 !=a1)
noncomputable def xG (a1:Int) (a2:Int):Option Int:=
 (uF a1).bind fun x3=>
 (uF a2).bind fun x5=>
 if x3 then
  (if x5 then
   (some 0)
  else
   (some (-1)))
 else
  (if x5 then
   (some 1)
  else
   (if decide (a1<a2) then
    (some (-1))
   else
    (if decide (a1>a2) then
     (some 1)
    else
     (some 0))))
noncomputable def zBA (a1:(List Int)) (s6:Int):Option (Lp Int (Fl Int Unit)):=
 if decide (s6< (a1.length:Int)) then
  ((idx a1 s6).bind fun x8=>
  if x8 !=0 then
   (some (Lp.done (Fl.ret x8)))
  else
   (some (Lp.go (w64 (s6+1)))))
 else
  (some (Lp.done (Fl.nxt ())))
noncomputable def zCr (a1:(List Int)):Int→Option (Fl Int Unit):=loop (zBA a1)
noncomputable def zCP (a1:(List Int)):Option Int:=
 (zCr a1 0).bind (Fl.go some fun v11=>
 some 0)
noncomputable def zBs (a1:Version) (a2:Version):Option Int:=
 (xG a1.A a2.A).bind fun x3=>
 (xG a1.B a2.B).bind fun x5=>
 (xG a1.C a2.C).bind fun x7=>
 (zCP [x3,x5,x7]).bind fun x9=>
 some x9
noncomputable def kR (a1:Term):Option Int:=
 (wF a1.Name).bind fun x2=>
 if x2 !=0 then
  (some x2)
 else
  ((xE a1.Low).bind fun x5=>
  if x5 !=0 then
   (some x5)
  else
   ((zDk).bind fun x8=>
   (if !(a1.High.A==x8.A&&(a1.High.B==x8.B&&(a1.High.C==x8.C&&true))) then
     ((xE a1.High).bind fun x11=>
     some (x11 !=0))
    else
     (some false)).bind fun v13=>
   if v13 then
    (some 3)
   else
    ((zBs a1.Low a1.High).bind fun x15=>
    if decide (x15≥0) then
     (some 1)
    else
     (some 0))))
noncomputable def jF (a1:(List Term)) (s8:Int):Option (Lp Int (Fl Int Unit)):=
 if decide (s8< (a1.length:Int)) then
  ((idx a1 s8).bind fun x10=>
  (kR x10).bind fun x12=>
  if x12 !=0 then
   (some (Lp.done (Fl.ret x12)))
  else
   (some (Lp.go (w64 (s8+1)))))
 else
  (some (Lp.done (Fl.nxt ())))
noncomputable def kI (a1:(List Term)):Int→Option (Fl Int Unit):=loop (jF a1)
noncomputable def wJ (a1:(List Term)):Option Int:=
 (kI a1 0).bind (Fl.go some fun v15=>
 some 0)
noncomputable def kL (a1:Pack) (s54:Int):Option (Lp Int (Fl Int Unit)):=
 if decide (s54< (a1.Needs.length:Int)) then
  ((idx a1.Needs s54).bind fun x56=>
  if (x56.length:Int)==0 then
   (some (Lp.done (Fl.ret 1)))
  else
   ((wJ x56).bind fun x59=>
   if x59 !=0 then
    (some (Lp.done (Fl.ret x59)))
   else
    (some (Lp.go (w64 (s54+1))))))
 else
  (some (Lp.done (Fl.nxt ())))
noncomputable def tY (a1:Pack):Int→Option (Fl Int Unit):=loop (kL a1)
noncomputable def kD (a1:Pack) (s32:Int):Option (Lp Int (Fl Int Unit)):=
 if decide (s32< (a1.Provides.length:Int)) then
  ((idx a1.Provides s32).bind fun x34=>
  (wF x34).bind fun x36=>
  if x36 !=0 then
   (some (Lp.done (Fl.ret x36)))
  else
   ((if seq x34 a1.Name then
      (some true)
     else
      ((zDG a1.Provides 0 s32).bind fun x40=>
      (yR x40 x34).bind fun x42=>
      some x42)).bind fun v44=>
   if v44 then
    (some (Lp.done (Fl.ret 6)))
   else
    (some (Lp.go (w64 (s32+1))))))
 else
  (some (Lp.done (Fl.nxt ())))
noncomputable def jA (a1:Pack):Int→Option (Fl Int Unit):=loop (kD a1)
noncomputable def kQ (a1:Pack):Option Int:=
 (wF a1.Name).bind fun x2=>
 (xE a1.Version).bind fun x4=>
 (wG [x2,x4]).bind fun x6=>
 if x6 !=0 then
  (some x6)
 else
  ((yO a1.Size 1 200).bind fun x9=>
  if !x9 then
   (some 3)
  else
   ((if decide ((a1.Provides.length:Int)>4) then
      (some true)
     else
      (if decide ((a1.Needs.length:Int)>4) then
       (some true)
      else
       (if decide ((a1.Bars.length:Int)>4) then
        (some true)
       else
        ((zM a1.Needs).bind fun x15=>
        some x15)))).bind fun v17=>
   if v17 then
    (some 2)
   else
    ((jA a1 0).bind (Fl.go some fun v46=>
    (tY a1 0).bind (Fl.go some fun v62=>
    (wJ a1.Bars).bind fun x63=>
    some x63)))))
noncomputable def zC4 (a1:Pack) (a2:ByteArray) (a3:Version):Option Bool:=
 if seq a1.Name a2 then
  (some (a1.Version.A==a3.A&&(a1.Version.B==a3.B&&(a1.Version.C==a3.C&&true))))
 else
  (some false)
noncomputable def yH (a1:(List Pack)) (a2:ByteArray) (a3:Version) (s10:Int):Option (Lp Int (Fl Int Unit)):=
 if decide (s10< (a1.length:Int)) then
  ((idx a1 s10).bind fun x12=>
  (zC4 x12 a2 a3).bind fun x14=>
  if x14 then
   (some (Lp.done (Fl.ret s10)))
  else
   (some (Lp.go (w64 (s10+1)))))
 else
  (some (Lp.done (Fl.nxt ())))
noncomputable def yJ (a1:(List Pack)) (a2:ByteArray) (a3:Version):Int→Option (Fl Int Unit):=loop (yH a1 a2 a3)
noncomputable def yF (a1:(List Pack)) (a2:ByteArray) (a3:Version):Option Int:=
 (yJ a1 a2 a3 0).bind (Fl.go some fun v17=>
 some (-1))
noncomputable def zB7 (a1:(List Pack)) (a2:ByteArray) (a3:Version):Option Int:=
 (yF a1 a2 a3).bind fun x4=>
 some x4
noncomputable def uK (a1:(List Pack)) (s14:Int):Option (Lp Int (Fl Int Unit)):=
 if decide (s14< (a1.length:Int)) then
  ((idx a1 s14).bind fun x16=>
  (kQ x16).bind fun x18=>
  if x18 !=0 then
   (some (Lp.done (Fl.ret x18)))
  else
   ((zDG a1 0 s14).bind fun x21=>
   (zB7 x21 x16.Name x16.Version).bind fun x23=>
   if decide (x23≥0) then
    (some (Lp.done (Fl.ret 6)))
   else
    (some (Lp.go (w64 (s14+1))))))
 else
  (some (Lp.done (Fl.nxt ())))
noncomputable def uX (a1:(List Pack)):Int→Option (Fl Int Unit):=loop (uK a1)
noncomputable def xV (a1:(List Pack)):Option Int:=
 if decide ((a1.length:Int)>24) then
  (some 2)
 else
  ((uX a1 0).bind (Fl.go some fun v26=>
  some 0))
noncomputable def zCl (a1:ByteArray) (s15:Int):Option (Lp Int (Fl Int Unit)):=
 if decide (s15< (a1.size:Int)) then
  ((bidx a1 s15).bind fun x17=>
  (yZ x17).bind fun x19=>
  (if !x19 then
    (if x17 !=46 then
     (if x17 !=45 then
      (some (x17 !=47))
     else
      (some false))
    else
     (some false))
   else
    (some false)).bind fun v24=>
  if v24 then
   (some (Lp.done (Fl.ret 5)))
  else
   (some (Lp.go (w64 (s15+1)))))
 else
  (some (Lp.done (Fl.nxt ())))
noncomputable def jB (a1:ByteArray):Int→Option (Fl Int Unit):=loop (zCl a1)
noncomputable def kW (a1:ByteArray):Option Int:=
 (if decide ((a1.size:Int)<1) then
   (some true)
  else
   (some (decide ((a1.size:Int)>40)))).bind fun v3=>
 if v3 then
  (some 5)
 else
  ((jB a1 0).bind (Fl.go some fun v26=>
  some 0))
noncomputable def zCQ (a1:zI) (s5:(Int×Int)):Option (Lp (Int×Int) Int):=
 if decide (s5.2< (a1.Files.length:Int)) then
  ((idx a1.Files s5.2).bind fun x7=>
  some (Lp.go (w64 (s5.1+(x7.Data.length:Int)),w64 (s5.2+1))))
 else
  (some (Lp.done s5.1))
noncomputable def zAK (a1:zI):(Int×Int)→Option Int:=loop (zCQ a1)
noncomputable def zBn (a1:zI):Option Int:=
 (zAK a1 (0,0)).bind fun v9=>
 some v9
noncomputable def zCn (a1:zI) (s25:Int):Option (Lp Int (Fl Int Unit)):=
 if decide (s25< (a1.Files.length:Int)) then
  ((idx a1.Files s25).bind fun x27=>
  (kW x27.Path).bind fun x29=>
  if x29 !=0 then
   (some (Lp.done (Fl.ret x29)))
  else
   ((if decide (s25>0) then
      ((idx a1.Files (w64 (s25-1))).bind fun x33=>
      some (slt x27.Path x33.Path||seq x27.Path x33.Path))
     else
      (some false)).bind fun v35=>
   if v35 then
    (some (Lp.done (Fl.ret 1)))
   else
    (if decide ((x27.Data.length:Int)>4000) then
     (some (Lp.done (Fl.ret 2)))
    else
     (some (Lp.go (w64 (s25+1)))))))
 else
  (some (Lp.done (Fl.nxt ())))
noncomputable def tX (a1:zI):Int→Option (Fl Int Unit):=loop (zCn a1)
noncomputable def zAa (a1:zI):Option Int:=
 (yO a1.Budget 0 20000).bind fun x2=>
 (if !x2 then
   (some true)
  else
   ((yO a1.Writes 0 1000000000).bind fun x5=>
   if !x5 then
    (some true)
   else
    ((yO a1.Stop (-1) 1000000000).bind fun x8=>
    some (!x8)))).bind fun v10=>
 if v10 then
  (some 3)
 else
  (if decide ((a1.Files.length:Int)>120) then
   (some 2)
  else
   ((tX a1 0).bind (Fl.go some fun v38=>
   (zBn a1).bind fun x39=>
   if decide (x39>a1.Budget) then
    (some 8)
   else
    (some 0))))
noncomputable def tC (a1:(List Pack)) (a2:zI):Option Int:=
 (xV a1).bind fun x3=>
 (zAa a2).bind fun x5=>
 (wG [x3,x5]).bind fun x7=>
 some x7
noncomputable def yV (a1:ByteArray) (a2:ByteArray):Option Bool:=
 if decide ((a1.size:Int)≥(a2.size:Int)) then
  ((zFY a1 0 (a2.size:Int)).bind fun x4=>
  some (seq x4 a2))
 else
  (some false)
noncomputable def strings_HasPrefix (a1:ByteArray) (a2:ByteArray):Option Bool:=
 (yV a1 a2).bind fun x3=>
 some x3
noncomputable def zCd (a1:zI) (a2:ByteArray) (s12:((List ByteArray)×Int)):Option (Lp ((List ByteArray)×Int) (List ByteArray)):=
 if decide (s12.2< (a1.Files.length:Int)) then
  ((idx a1.Files s12.2).bind fun x14=>
  (strings_HasPrefix x14.Path a2).bind fun x16=>
  (if x16 then
    ((app 16 s12.1 [x14.Path]).bind fun x19=>
    some x19)
   else
    (some s12.1)).bind fun v21=>
  some (Lp.go (v21,w64 (s12.2+1))))
 else
  (some (Lp.done s12.1))
noncomputable def uO (a1:zI) (a2:ByteArray):((List ByteArray)×Int)→Option (List ByteArray):=loop (zCd a1 a2)
noncomputable def wW (a1:zI) (a2:ByteArray):Option (List ByteArray):=
 (uO a1 a2 (([]:List ByteArray),0)).bind fun v22=>
 some v22
noncomputable def zAO (a1:ByteArray) (s16:(Int×Int)):Option (Lp (Int×Int) (Fl Int Int)):=
 if decide (s16.2< (a1.size:Int)) then
  ((bidx a1 s16.2).bind fun x18=>
  (if decide (x18<48) then
    (some true)
   else
    ((bidx a1 s16.2).bind fun x21=>
    some (decide (x21>57)))).bind fun v23=>
  if v23 then
   (some (Lp.done (Fl.ret (-1))))
  else
   ((bidx a1 s16.2).bind fun x25=>
   some (Lp.go (w64 ((w64 (10*s16.1))+(w64 (IntKind.u8.wrap (x25-48)))),w64 (s16.2+1)))))
 else
  (some (Lp.done (Fl.nxt s16.1)))
noncomputable def zBG (a1:ByteArray):(Int×Int)→Option (Fl Int Int):=loop (zAO a1)
noncomputable def jG (a1:ByteArray) (a2:Int):Option Int:=
 (if seq a1 (bs []) then
   (some true)
  else
   (some (decide ((a1.size:Int)>a2)))).bind fun v4=>
 if v4 then
  (some (-1))
 else
  ((zBG a1 (0,0)).bind (Fl.go some fun v27=>
  some v27))
noncomputable def kG (x2:(List ByteArray)) (s17:((List Int)×Int)):Option (Lp ((List Int)×Int) (List Int)):=
 if decide (s17.2< (x2.length:Int)) then
  ((idx x2 s17.2).bind fun x19=>
  (zFY x19 4 (x19.size:Int)).bind fun x21=>
  (jG x21 6).bind fun x23=>
  (if decide (x23≥1) then
    (some ((x19.size:Int)==10))
   else
    (some false)).bind fun v26=>
  (if v26 then
    ((app 8 s17.1 [x23]).bind fun x28=>
    some x28)
   else
    (some s17.1)).bind fun v30=>
  some (Lp.go (v30,w64 (s17.2+1))))
 else
  (some (Lp.done s17.1))
noncomputable def zAo (x2:(List ByteArray)):((List Int)×Int)→Option (List Int):=loop (kG x2)
noncomputable def xP (a1:zI):Option (List Int):=
 (wW a1 (bs [103,101,110,47])).bind fun x2=>
 (zAo x2 (([]:List Int),0)).bind fun v31=>
 some v31
noncomputable def wV (a1:(List Int)) (a2:Int) (s7:Int):Option (Lp Int (Fl Int Unit)):=
 if decide (s7< (a1.length:Int)) then
  ((idx a1 s7).bind fun x9=>
  if a2==x9 then
   (some (Lp.done (Fl.ret s7)))
  else
   (some (Lp.go (w64 (s7+1)))))
 else
  (some (Lp.done (Fl.nxt ())))
noncomputable def vK (a1:(List Int)) (a2:Int):Int→Option (Fl Int Unit):=loop (wV a1 a2)
noncomputable def vQ (a1:(List Int)) (a2:Int):Option Int:=
 (vK a1 a2 0).bind (Fl.go some fun v12=>
 some (-1))
noncomputable def zR (a1:(List Int)) (a2:Int):Option Bool:=
 (vQ a1 a2).bind fun x3=>
 some (decide (x3≥0))
noncomputable def tL (a1:Int) (a2:(List Int)):Option Bool:=
 (zR a2 a1).bind fun x3=>
 some (!x3)
noncomputable def yC (a1:(List Int)) (a2:(List Int)) (s9:Int):Option (Lp Int (Fl Int Unit)):=
 if decide (s9< (a1.length:Int)) then
  ((idx a1 s9).bind fun x11=>
  (tL x11 a2).bind fun x13=>
  if x13 then
   (some (Lp.done (Fl.ret s9)))
  else
   (some (Lp.go (w64 (s9+1)))))
 else
  (some (Lp.done (Fl.nxt ())))
noncomputable def yD (a1:(List Int)) (a2:(List Int)):Int→Option (Fl Int Unit):=loop (yC a1 a2)
noncomputable def zW (a1:(List Int)) (a2:(List Int)):Option Int:=
 (yD a1 a2 0).bind (Fl.go some fun v16=>
 some (-1))
noncomputable def zO (a1:(List Int)) (a2:(List Int)):Option Bool:=
 (zW a1 a2).bind fun x3=>
 some (decide (x3≥0))
noncomputable def bytealg_CompareString (a1 a2:ByteArray):Option Int:=some (zLH a1 a2)
noncomputable def strings_Compare (a1:ByteArray) (a2:ByteArray):Option Int:=
 (bytealg_CompareString a1 a2).bind fun x3=>
 some x3
noncomputable def wO (a1:File) (a2:ByteArray):Option Int:=
 (strings_Compare a1.Path a2).bind fun x3=>
 some x3
noncomputable def yA (a1:(List File)) (a2:ByteArray) (s9:(Int×Int)):Option (Lp (Int×Int) Int):=
 if decide (s9.1<s9.2) then
  ((idx a1 (w64 ((IntKind.u64.wrap (w64 (s9.1+s9.2))).fdiv (2^(min (1:Int).toNat 64))))).bind fun x11=>
  (wO x11 a2).bind fun x13=>
  if decide (x13<0) then
   (some (Lp.go (w64 ((w64 ((IntKind.u64.wrap (w64 (s9.1+s9.2))).fdiv (2^(min (1:Int).toNat 64))))+1),s9.2)))
  else
   (some (Lp.go (s9.1,w64 ((IntKind.u64.wrap (w64 (s9.1+s9.2))).fdiv (2^(min (1:Int).toNat 64)))))))
 else
  (some (Lp.done s9.1))
noncomputable def zQ (a1:(List File)) (a2:ByteArray):(Int×Int)→Option Int:=loop (yA a1 a2)
noncomputable def zF (a1:(List File)) (a2:ByteArray):Option (Int×Bool):=
 (zQ a1 a2 (0,(a1.length:Int))).bind fun v16=>
 if decide (v16< (a1.length:Int)) then
  ((idx a1 v16).bind fun x18=>
  (wO x18 a2).bind fun x20=>
  some (v16,x20==0))
 else
  (some (v16,false))
noncomputable def jK (a1:zI) (a2:ByteArray):Option (Int×Bool):=
 (zF a1.Files a2).bind fun x3=>
 some (x3.1,x3.2)
noncomputable def yN (a1:zI) (a2:ByteArray):Option ((List Int)×Bool):=
 (jK a1 a2).bind fun x3=>
 if !x3.2 then
  (some (([]:List Int),false))
 else
  ((idx a1.Files x3.1).bind fun x6=>
  some (x6.Data,true))
noncomputable def vL (a1:zI):Option (Int×Int):=
 (yN a1 (bs [99,117,114])).bind fun x2=>
 (jG (b2s x2.1) 6).bind fun x4=>
 (if !x2.2 then
   (some true)
  else
   ((xP a1).bind fun x7=>
   (zR x7 x4).bind fun x9=>
   some (!x9))).bind fun v11=>
 if v11 then
  (some (0,4))
 else
  (some (x4,0))
noncomputable def vR (a1:(List Int)):Option (List Int):=
 (app 8 ([]:List Int) a1).bind fun x3=>
 some x3
noncomputable def xB (a1:List Int):Option (List Int):=if a1.length≤4611686018427387903 then some (a1.mergeSort fun x y=>decide (x≤y)) else none
noncomputable def xX (s41:Int) (x48:(List Int)) (s61:((List Int)×Int×Int)):Option (Lp ((List Int)×Int×Int) ((List Int)×Int)):=
 if decide (s61.2.2< (x48.length:Int)) then
  ((zHa s61.1 s41 x48.length s61.2.2).bind fun x63=>
  (zHa s61.1 s41 x48.length (w64 (s61.2.2-1))).bind fun x65=>
  (if x63 !=x65 then
    ((zHa s61.1 s41 x48.length s61.2.2).bind fun x68=>
    (idx s61.1 s61.2.1).bind fun x70=>
    some (s61.1.set s61.2.1.toNat x68,w64 (s61.2.1+1)))
   else
    (some (s61.1,s61.2.1))).bind fun v72=>
  some (Lp.go (v72.1,v72.2,w64 (s61.2.2+1))))
 else
  (some (Lp.done (s61.1,s61.2.1)))
noncomputable def xM (s41:Int) (x48:(List Int)):((List Int)×Int×Int)→Option ((List Int)×Int):=loop (xX s41 x48)
noncomputable def yX (a1:(List Int)) (s41:Int):Option (Lp Int (Fl (List Int) Unit)):=
 if decide (s41< (a1.length:Int)) then
  ((idx a1 s41).bind fun x43=>
  (idx a1 (w64 (s41-1))).bind fun x45=>
  if x43==x45 then
   ((zDG a1 s41 (a1.length:Int)).bind fun x48=>
   (xM s41 x48 (a1,s41,1)).bind fun v73=>
   (zDG v73.1 v73.2 (v73.1.length:Int)).bind fun x74=>
   (zK3 v73.1 v73.2 x74.length 0).bind fun x76=>
   (zDG x76 0 v73.2).bind fun x78=>
   some (Lp.done (Fl.ret x78)))
  else
   (some (Lp.go (w64 (s41+1)))))
 else
  (some (Lp.done (Fl.nxt ())))
noncomputable def wI (a1:(List Int)):Int→Option (Fl (List Int) Unit):=loop (yX a1)
noncomputable def xQ (a1:(List Int)):Option (List Int):=
 if decide ((a1.length:Int)<2) then
  (some a1)
 else
  ((wI a1 1).bind (Fl.go some fun v80=>
  some a1))
noncomputable def wS (a1:zI) (a2:(List Int)):Option ((List Int)×Int):=
 (xP a1).bind fun x3=>
 if decide ((a2.length:Int)>40) then
  (some (([]:List Int),2))
 else
  ((zO a2 x3).bind fun x6=>
  if x6 then
   (some (([]:List Int),4))
  else
   ((vL a1).bind fun x9=>
   if x9.2 !=0 then
    (some (([]:List Int),x9.2))
   else
    ((vR a2).bind fun x12=>
    (app 8 x12 [x9.1]).bind fun x14=>
    (xB x14).bind fun x16=>
    (same x16 x14).bind fun u18=>
    (xQ x16).bind fun x20=>
    some (x20,0))))
noncomputable def vU (a1 a2:Int):Option ByteArray:=if a2=10∧ -9223372036854775808≤a1∧a1≤9223372036854775807 then some ⟨(Lib.itoa a1).toArray⟩ else none
noncomputable def zAL (a1:Int):Option ByteArray:=
 (vU a1 10).bind fun x2=>
 some x2
noncomputable def strings_Repeat (a1:ByteArray) (a2:Int):Option ByteArray:=if 0≤a2∧a2≤9223372036854775807∧a1.size*a2.toNat≤140737488355328 then some ⟨(Lib.repeatL a1.data.toList a2.toNat).toArray⟩ else none
noncomputable def tK (a1:Int):Option ByteArray:=
 (zAL a1).bind fun x2=>
 (strings_Repeat (bs [48]) (w64 (6-(x2.size:Int)))).bind fun x4=>
 (cat (bs [103,101,110,47]) x4).bind fun x6=>
 (cat x6 x2).bind fun x8=>
 some x8
noncomputable def strings_Split (a1 a2:ByteArray):Option (List ByteArray):=if a1.size<4294967281∧1≤a2.size then some (Lib.splitB a2 0 (Lib.countB a1 a2) a1) else none
noncomputable def zAZ (a1:ByteArray):Option (List ByteArray):=
 (strings_Split a1 (bs [10])).bind fun x2=>
 (idx x2 (w64 ((x2.length:Int)-1))).bind fun x4=>
 (if seq x4 (bs []) then
   ((zDG x2 0 (w64 ((x2.length:Int)-1))).bind fun x7=>
   some x7)
  else
   (some x2)).bind fun v9=>
 some v9
noncomputable def vY (a1:ByteArray):Option Bool:=
 some (seq a1 (bs []))
noncomputable def yG (a1:(List ByteArray)) (s8:Int):Option (Lp Int (Fl Int Unit)):=
 if decide (s8< (a1.length:Int)) then
  ((idx a1 s8).bind fun x10=>
  (vY x10).bind fun x12=>
  if x12 then
   (some (Lp.done (Fl.ret s8)))
  else
   (some (Lp.go (w64 (s8+1)))))
 else
  (some (Lp.done (Fl.nxt ())))
noncomputable def yT (a1:(List ByteArray)):Int→Option (Fl Int Unit):=loop (yG a1)
noncomputable def yL (a1:(List ByteArray)):Option Int:=
 (yT a1 0).bind (Fl.go some fun v15=>
 some (-1))
noncomputable def yB (s14:((List ByteArray)×Int×Int)):Option (Lp ((List ByteArray)×Int×Int) ((List ByteArray)×Int)):=
 if decide (s14.2.2< (s14.1.length:Int)) then
  ((idx s14.1 s14.2.2).bind fun x16=>
  (vY x16).bind fun x18=>
  (if !x18 then
    ((idx s14.1 s14.2.1).bind fun x21=>
    some (s14.1.set s14.2.1.toNat x16,w64 (s14.2.1+1)))
   else
    (some (s14.1,s14.2.1))).bind fun v23=>
  some (Lp.go (v23.1,v23.2,w64 (s14.2.2+1))))
 else
  (some (Lp.done (s14.1,s14.2.1)))
noncomputable def yP:((List ByteArray)×Int×Int)→Option ((List ByteArray)×Int):=loop yB
noncomputable def zX (a1:(List ByteArray)):Option (List ByteArray):=
 (yL a1).bind fun x2=>
 if x2==(-1) then
  (some a1)
 else
  ((yP (a1,x2,w64 (x2+1))).bind fun v24=>
  (zDG v24.1 v24.2 (v24.1.length:Int)).bind fun x25=>
  (zK3 v24.1 v24.2 x25.length ByteArray.empty).bind fun x27=>
  (zDG x27 0 v24.2).bind fun x29=>
  some x29)
noncomputable def zBb (a1:ByteArray):Option (List ByteArray):=
 (strings_Split a1 (bs [32])).bind fun x2=>
 (zX x2).bind fun x4=>
 some x4
noncomputable def uG (x2:(List ByteArray)) (s15:((List Int)×Int)):Option (Lp ((List Int)×Int) (Fl zN (List Int))):=
 if decide (s15.2< (x2.length:Int)) then
  ((idx x2 s15.2).bind fun x17=>
  (jG x17 3).bind fun x19=>
  (zLe s15.1 3 s15.2).bind fun x21=>
  (zLe (s15.1.set s15.2.toNat x19) 3 s15.2).bind fun x23=>
  if decide (x23<0) then
   (some (Lp.done (Fl.ret ({Code:=5,Version:=({A:=0,B:=0,C:=0}:Version)}:zN))))
  else
   (some (Lp.go (s15.1.set s15.2.toNat x19,w64 (s15.2+1)))))
 else
  (some (Lp.done (Fl.nxt s15.1)))
noncomputable def uV (x2:(List ByteArray)):((List Int)×Int)→Option (Fl zN (List Int)):=loop (uG x2)
noncomputable def vM (a1:ByteArray):Option zN:=
 (strings_Split a1 (bs [46])).bind fun x2=>
 if decide ((x2.length:Int)>3) then
  (some ({Code:=5,Version:=({A:=0,B:=0,C:=0}:Version)}:zN))
 else
  ((uV x2 (([0,0,0]:(List Int)),0)).bind (Fl.go some fun v26=>
  (zLe v26 3 0).bind fun x27=>
  (zLe v26 3 1).bind fun x29=>
  (zLe v26 3 2).bind fun x31=>
  some ({Code:=0,Version:=({A:=x27,B:=x29,C:=x31}:Version)}:zN)))
noncomputable def zAx (a1:(List Pack)) (a2:(List ByteArray)):Option Int:=
 if (a2.length:Int) !=2 then
  (some (-1))
 else
  ((idx a2 1).bind fun x4=>
  (vM x4).bind fun x6=>
  if x6.Code !=0 then
   (some (-1))
  else
   ((idx a2 0).bind fun x9=>
   (zB7 a1 x9 x6.Version).bind fun x11=>
   some x11))
noncomputable def tO (a1:(List Pack)) (x7:(List ByteArray)) (s23:((List Int)×Int)):Option (Lp ((List Int)×Int) (Fl yE (List Int))):=
 if decide (s23.2< (x7.length:Int)) then
  ((idx x7 s23.2).bind fun x25=>
  (zBb x25).bind fun x27=>
  (zAx a1 x27).bind fun x29=>
  (if decide (x29<0) then
    (some true)
   else
    ((zR s23.1 x29).bind fun x32=>
    some x32)).bind fun v34=>
  if v34 then
   (some (Lp.done (Fl.ret ({Code:=5,At:=s23.2,Set:=([]:List Int)}:yE))))
  else
   ((app 8 s23.1 [x29]).bind fun x36=>
   some (Lp.go (x36,w64 (s23.2+1)))))
 else
  (some (Lp.done (Fl.nxt s23.1)))
noncomputable def zA3 (a1:(List Pack)) (x7:(List ByteArray)):((List Int)×Int)→Option (Fl yE (List Int)):=loop (tO a1 x7)
noncomputable def zAt (a1:(List Pack)) (a2:ByteArray):Option yE:=
 (xV a1).bind fun x3=>
 if x3 !=0 then
  (some ({Code:=x3,At:=0,Set:=([]:List Int)}:yE))
 else
  (if decide ((a2.size:Int)>4000) then
   (some ({Code:=2,At:=0,Set:=([]:List Int)}:yE))
  else
   ((zAZ a2).bind fun x7=>
   (zA3 a1 x7 (([]:List Int),0)).bind (Fl.go some fun v38=>
   (xB v38).bind fun x39=>
   (same x39 v38).bind fun u41=>
   some ({Code:=0,At:=0,Set:=x39}:yE))))
noncomputable def zCx (a1:(List Pack)) (a2:zI) (a3:Int):Option ((List Int)×Int):=
 (xP a2).bind fun x4=>
 (zR x4 a3).bind fun x6=>
 if !x6 then
  (some (([]:List Int),4))
 else
  ((tK a3).bind fun x9=>
  (yN a2 x9).bind fun x11=>
  (zAt a1 (b2s x11.1)).bind fun x13=>
  some (x13.Set,x13.Code))
noncomputable def vP (a1:Version):Option ByteArray:=
 (zAL a1.A).bind fun x2=>
 (cat x2 (bs [46])).bind fun x4=>
 (zAL a1.B).bind fun x6=>
 (cat x4 x6).bind fun x8=>
 (cat x8 (bs [46])).bind fun x10=>
 (zAL a1.C).bind fun x12=>
 (cat x10 x12).bind fun x14=>
 some x14
noncomputable def kS (a1:Pack):Option ByteArray:=
 (cat (bs [112,107,103,47]) a1.Name).bind fun x2=>
 (cat x2 (bs [45])).bind fun x4=>
 (vP a1.Version).bind fun x6=>
 (cat x4 x6).bind fun x8=>
 some x8
noncomputable def xY (a1:List ByteArray):Option (List ByteArray):=if a1.length≤4611686018427387903 then some (((a1.map (·.data.toList)).mergeSort fun x y=>decide (x≤y)).map fun l=>(⟨l.toArray⟩:ByteArray)) else none
noncomputable def xS (s41:Int) (x48:(List ByteArray)) (s61:((List ByteArray)×Int×Int)):Option (Lp ((List ByteArray)×Int×Int) ((List ByteArray)×Int)):=
 if decide (s61.2.2< (x48.length:Int)) then
  ((zHa s61.1 s41 x48.length s61.2.2).bind fun x63=>
  (zHa s61.1 s41 x48.length (w64 (s61.2.2-1))).bind fun x65=>
  (if !(seq x63 x65) then
    ((zHa s61.1 s41 x48.length s61.2.2).bind fun x68=>
    (idx s61.1 s61.2.1).bind fun x70=>
    some (s61.1.set s61.2.1.toNat x68,w64 (s61.2.1+1)))
   else
    (some (s61.1,s61.2.1))).bind fun v72=>
  some (Lp.go (v72.1,v72.2,w64 (s61.2.2+1))))
 else
  (some (Lp.done (s61.1,s61.2.1)))
noncomputable def xJ (s41:Int) (x48:(List ByteArray)):((List ByteArray)×Int×Int)→Option ((List ByteArray)×Int):=loop (xS s41 x48)
noncomputable def yU (a1:(List ByteArray)) (s41:Int):Option (Lp Int (Fl (List ByteArray) Unit)):=
 if decide (s41< (a1.length:Int)) then
  ((idx a1 s41).bind fun x43=>
  (idx a1 (w64 (s41-1))).bind fun x45=>
  if seq x43 x45 then
   ((zDG a1 s41 (a1.length:Int)).bind fun x48=>
   (xJ s41 x48 (a1,s41,1)).bind fun v73=>
   (zDG v73.1 v73.2 (v73.1.length:Int)).bind fun x74=>
   (zK3 v73.1 v73.2 x74.length ByteArray.empty).bind fun x76=>
   (zDG x76 0 v73.2).bind fun x78=>
   some (Lp.done (Fl.ret x78)))
  else
   (some (Lp.go (w64 (s41+1)))))
 else
  (some (Lp.done (Fl.nxt ())))
noncomputable def xW (a1:(List ByteArray)):Int→Option (Fl (List ByteArray) Unit):=loop (yU a1)
noncomputable def xL (a1:(List ByteArray)):Option (List ByteArray):=
 if decide ((a1.length:Int)<2) then
  (some a1)
 else
  ((xW a1 1).bind (Fl.go some fun v80=>
  some a1))
noncomputable def zAP (a1:(List ByteArray)):Option (List ByteArray):=
 (xY a1).bind fun x2=>
 (same x2 a1).bind fun u4=>
 (xL x2).bind fun x6=>
 some x6
noncomputable def uT (a1:(List Pack)) (a2:zI) (a3:(List Int)) (s30:((List ByteArray)×Int)) (x34:((List Int)×Int)) (s46:((List ByteArray)×Int)):Option (Lp ((List ByteArray)×Int) (List ByteArray)):=
 if decide (s46.2< (x34.1.length:Int)) then
  ((idx x34.1 s46.2).bind fun x48=>
  (idx a1 x48).bind fun x50=>
  (kS x50).bind fun x52=>
  (app 16 s46.1 [x52]).bind fun x54=>
  some (Lp.go (x54,w64 (s46.2+1))))
 else
  (some (Lp.done s46.1))
noncomputable def wM (a1:(List Pack)) (a2:zI) (a3:(List Int)) (s30:((List ByteArray)×Int)) (x34:((List Int)×Int)):((List ByteArray)×Int)→Option (List ByteArray):=loop (uT a1 a2 a3 s30 x34)
noncomputable def vF (a1:(List Pack)) (a2:zI) (a3:(List Int)) (s30:((List ByteArray)×Int)):Option (Lp ((List ByteArray)×Int) (Fl ((List ByteArray)×Int) (List ByteArray))):=
 if decide (s30.2< (a3.length:Int)) then
  ((idx a3 s30.2).bind fun x32=>
  (zCx a1 a2 x32).bind fun x34=>
  if x34.2 !=0 then
   (some (Lp.done (Fl.ret (([]:List ByteArray),x34.2))))
  else
   ((wM a1 a2 a3 s30 x34 (s30.1,0)).bind fun v56=>
   some (Lp.go (v56,w64 (s30.2+1)))))
 else
  (some (Lp.done (Fl.nxt s30.1)))
noncomputable def jL (a1:(List Pack)) (a2:zI) (a3:(List Int)):((List ByteArray)×Int)→Option (Fl ((List ByteArray)×Int) (List ByteArray)):=loop (vF a1 a2 a3)
noncomputable def jU (a1:(List Pack)) (a2:zI) (a3:(List Int)):Option ((List ByteArray)×Int):=
 (jL a1 a2 a3 (([]:List ByteArray),0)).bind (Fl.go some fun v57=>
 (zAP v57).bind fun x58=>
 some (x58,0))
noncomputable def vV (a1:(List Pack)) (a2:zI) (a3:(List Int)):Option ((List ByteArray)×Int):=
 (wS a2 a3).bind fun x4=>
 if x4.2 !=0 then
  (some (([]:List ByteArray),x4.2))
 else
  ((jU a1 a2 x4.1).bind fun x7=>
  some (x7.1,x7.2))
noncomputable def zBB (a3:(List ByteArray)) (x30:(List ByteArray)) (s41:((List ByteArray)×Int)):Option (Lp ((List ByteArray)×Int) (List ByteArray)):=
 if decide (s41.2< (x30.length:Int)) then
  ((idx x30 s41.2).bind fun x43=>
  (yR a3 x43).bind fun x45=>
  (if !x45 then
    ((app 16 s41.1 [x43]).bind fun x48=>
    some x48)
   else
    (some s41.1)).bind fun v50=>
  some (Lp.go (v50,w64 (s41.2+1))))
 else
  (some (Lp.done s41.1))
noncomputable def zCp (a3:(List ByteArray)) (x30:(List ByteArray)):((List ByteArray)×Int)→Option (List ByteArray):=loop (zBB a3 x30)
noncomputable def zBD (a1:zI) (a2:(List Int)) (a3:(List ByteArray)) (x4:(List Int)) (s17:((List ByteArray)×Int)):Option (Lp ((List ByteArray)×Int) (List ByteArray)):=
 if decide (s17.2< (x4.length:Int)) then
  ((idx x4 s17.2).bind fun x19=>
  (zR a2 x19).bind fun x21=>
  (if !x21 then
    ((tK x19).bind fun x24=>
    (app 16 s17.1 [x24]).bind fun x26=>
    some x26)
   else
    (some s17.1)).bind fun v28=>
  some (Lp.go (v28,w64 (s17.2+1))))
 else
  (some (Lp.done s17.1))
noncomputable def zCm (a1:zI) (a2:(List Int)) (a3:(List ByteArray)) (x4:(List Int)):((List ByteArray)×Int)→Option (List ByteArray):=loop (zBD a1 a2 a3 x4)
noncomputable def zCy (a1:zI) (a2:(List Int)) (a3:(List ByteArray)):Option (List ByteArray):=
 (xP a1).bind fun x4=>
 (zCm a1 a2 a3 x4 (([]:List ByteArray),0)).bind fun v29=>
 (wW a1 (bs [112,107,103,47])).bind fun x30=>
 (zCp a3 x30 (v29,0)).bind fun v51=>
 some v51
noncomputable def uL (a1:zI) (a2:(List ByteArray)) (s8:(Int×Int)):Option (Lp (Int×Int) Int):=
 if decide (s8.2< (a2.length:Int)) then
  ((idx a2 s8.2).bind fun x10=>
  (yN a1 x10).bind fun x12=>
  some (Lp.go (w64 (s8.1+(x12.1.length:Int)),w64 (s8.2+1))))
 else
  (some (Lp.done s8.1))
noncomputable def vE (a1:zI) (a2:(List ByteArray)):(Int×Int)→Option Int:=loop (uL a1 a2)
noncomputable def tN (a1:zI) (a2:(List ByteArray)):Option Int:=
 (vE a1 a2 (0,0)).bind fun v14=>
 some v14
noncomputable def zAq (a1:(List Pack)) (a2:zI):Option yM:=
 (tC a1 a2).bind fun x3=>
 (if x3==0 then
   ((vV a1 a2 ([]:List Int)).bind fun x6=>
   some (x6.2,x6.1))
  else
   (some (x3,([]:List ByteArray)))).bind fun v8=>
 if v8.1 !=0 then
  (some ({Code:=v8.1,Value:=0}:yM))
 else
  ((wS a2 ([]:List Int)).bind fun x10=>
  (zCy a2 x10.1 v8.2).bind fun x12=>
  (tN a2 x12).bind fun x14=>
  some ({Code:=0,Value:=x14}:yM))
noncomputable def uS (a1:yM) (a2:yM):Option Bool:=
 if a1.Code !=a2.Code then
  (some false)
 else
  (if a1.Value !=a2.Value then
   (some false)
  else
   (some true))
noncomputable def wH (a1:Version) (a2:Version):Option Bool:=
 if a1.A !=a2.A then
  (some false)
 else
  (if a1.B !=a2.B then
   (some false)
  else
   (if a1.C !=a2.C then
    (some false)
   else
    (some true)))
noncomputable def zAI (a1:(List ByteArray)) (a2:(List ByteArray)) (s10:Int):Option (Lp Int (Fl Bool Unit)):=
 if decide (s10< (a1.length:Int)) then
  ((idx a1 s10).bind fun x12=>
  (idx a2 s10).bind fun x14=>
  if !(seq x12 x14) then
   (some (Lp.done (Fl.ret false)))
  else
   (some (Lp.go (w64 (s10+1)))))
 else
  (some (Lp.done (Fl.nxt ())))
noncomputable def zAn (a1:(List ByteArray)) (a2:(List ByteArray)):Int→Option (Fl Bool Unit):=loop (zAI a1 a2)
noncomputable def kZ (a1:(List ByteArray)) (a2:(List ByteArray)):Option Bool:=
 if (a1.length:Int) !=(a2.length:Int) then
  (some false)
 else
  ((zAn a1 a2 0).bind (Fl.go some fun v17=>
  some true))
noncomputable def zBW (a1:Term) (a2:Term):Option Bool:=
 if !(seq a1.Name a2.Name) then
  (some false)
 else
  ((wH a1.Low a2.Low).bind fun x4=>
  if !x4 then
   (some false)
  else
   ((wH a1.High a2.High).bind fun x7=>
   if !x7 then
    (some false)
   else
    (some true)))
noncomputable def zBJ (a1:(List Term)) (a2:(List Term)) (s12:Int):Option (Lp Int (Fl Bool Unit)):=
 if decide (s12< (a1.length:Int)) then
  ((idx a1 s12).bind fun x14=>
  (idx a2 s12).bind fun x16=>
  (zBW x14 x16).bind fun x18=>
  if !x18 then
   (some (Lp.done (Fl.ret false)))
  else
   (some (Lp.go (w64 (s12+1)))))
 else
  (some (Lp.done (Fl.nxt ())))
noncomputable def zAW (a1:(List Term)) (a2:(List Term)):Int→Option (Fl Bool Unit):=loop (zBJ a1 a2)
noncomputable def kJ (a1:(List Term)) (a2:(List Term)):Option Bool:=
 if (a1.length:Int) !=(a2.length:Int) then
  (some false)
 else
  ((zAW a1 a2 0).bind (Fl.go some fun v21=>
  some true))
noncomputable def zB4 (a1:(List (List Term))) (a2:(List (List Term))) (s12:Int):Option (Lp Int (Fl Bool Unit)):=
 if decide (s12< (a1.length:Int)) then
  ((idx a1 s12).bind fun x14=>
  (idx a2 s12).bind fun x16=>
  (kJ x14 x16).bind fun x18=>
  if !x18 then
   (some (Lp.done (Fl.ret false)))
  else
   (some (Lp.go (w64 (s12+1)))))
 else
  (some (Lp.done (Fl.nxt ())))
noncomputable def zA8 (a1:(List (List Term))) (a2:(List (List Term))):Int→Option (Fl Bool Unit):=loop (zB4 a1 a2)
noncomputable def zAu (a1:(List (List Term))) (a2:(List (List Term))):Option Bool:=
 if (a1.length:Int) !=(a2.length:Int) then
  (some false)
 else
  ((zA8 a1 a2 0).bind (Fl.go some fun v21=>
  some true))
noncomputable def zBX (a1:Pack) (a2:Pack):Option Bool:=
 if !(seq a1.Name a2.Name) then
  (some false)
 else
  ((wH a1.Version a2.Version).bind fun x4=>
  if !x4 then
   (some false)
  else
   (if a1.Size !=a2.Size then
    (some false)
   else
    ((kZ a1.Provides a2.Provides).bind fun x8=>
    if !x8 then
     (some false)
    else
     ((zAu a1.Needs a2.Needs).bind fun x11=>
     if !x11 then
      (some false)
     else
      ((kJ a1.Bars a2.Bars).bind fun x14=>
      if !x14 then
       (some false)
      else
       (some true))))))
noncomputable def zBL (a1:(List Pack)) (a2:(List Pack)) (s12:Int):Option (Lp Int (Fl Bool Unit)):=
 if decide (s12< (a1.length:Int)) then
  ((idx a1 s12).bind fun x14=>
  (idx a2 s12).bind fun x16=>
  (zBX x14 x16).bind fun x18=>
  if !x18 then
   (some (Lp.done (Fl.ret false)))
  else
   (some (Lp.go (w64 (s12+1)))))
 else
  (some (Lp.done (Fl.nxt ())))
noncomputable def zAQ (a1:(List Pack)) (a2:(List Pack)):Int→Option (Fl Bool Unit):=loop (zBL a1 a2)
noncomputable def zAV (a1:(List Pack)) (a2:(List Pack)):Option Bool:=
 if (a1.length:Int) !=(a2.length:Int) then
  (some false)
 else
  ((zAQ a1 a2 0).bind (Fl.go some fun v21=>
  some true))
noncomputable def zBM (a1:(List Int)) (a2:(List Int)) (s10:Int):Option (Lp Int (Fl Bool Unit)):=
 if decide (s10< (a1.length:Int)) then
  ((idx a1 s10).bind fun x12=>
  (idx a2 s10).bind fun x14=>
  if x12 !=x14 then
   (some (Lp.done (Fl.ret false)))
  else
   (some (Lp.go (w64 (s10+1)))))
 else
  (some (Lp.done (Fl.nxt ())))
noncomputable def zBx (a1:(List Int)) (a2:(List Int)):Int→Option (Fl Bool Unit):=loop (zBM a1 a2)
noncomputable def zBd (a1:(List Int)) (a2:(List Int)):Option Bool:=
 if (a1.length:Int) !=(a2.length:Int) then
  (some false)
 else
  ((zBx a1 a2 0).bind (Fl.go some fun v17=>
  some true))
noncomputable def zCf (a1:File) (a2:File):Option Bool:=
 if !(seq a1.Path a2.Path) then
  (some false)
 else
  ((zBd a1.Data a2.Data).bind fun x4=>
  if !x4 then
   (some false)
  else
   (some true))
noncomputable def zBP (a1:(List File)) (a2:(List File)) (s12:Int):Option (Lp Int (Fl Bool Unit)):=
 if decide (s12< (a1.length:Int)) then
  ((idx a1 s12).bind fun x14=>
  (idx a2 s12).bind fun x16=>
  (zCf x14 x16).bind fun x18=>
  if !x18 then
   (some (Lp.done (Fl.ret false)))
  else
   (some (Lp.go (w64 (s12+1)))))
 else
  (some (Lp.done (Fl.nxt ())))
noncomputable def zBo (a1:(List File)) (a2:(List File)):Int→Option (Fl Bool Unit):=loop (zBP a1 a2)
noncomputable def zBh (a1:(List File)) (a2:(List File)):Option Bool:=
 if (a1.length:Int) !=(a2.length:Int) then
  (some false)
 else
  ((zBo a1 a2 0).bind (Fl.go some fun v21=>
  some true))
noncomputable def zCc (a1:zI) (a2:zI):Option Bool:=
 (zBh a1.Files a2.Files).bind fun x3=>
 if !x3 then
  (some false)
 else
  (if a1.Budget !=a2.Budget then
   (some false)
  else
   (if a1.Writes !=a2.Writes then
    (some false)
   else
    (if a1.Stop !=a2.Stop then
     (some false)
    else
     (if !(a1.Down==a2.Down) then
      (some false)
     else
      (some true)))))
noncomputable def wL (a1:(List Pack)) (a2:zI):Option Bool:=
 (zAN a1 1048576).bind fun x3=>
 if decide (x3<0) then
  (some true)
 else
  ((zBY a2 x3).bind fun x6=>
  if decide (x6<0) then
   (some true)
  else
   ((uD a1).bind fun x9=>
   (jI a2).bind fun x11=>
   (zAp x9 x11).bind fun x13=>
   (uD a1).bind fun x15=>
   (jI a2).bind fun x17=>
   (zAq x15 x17).bind fun x19=>
   (uS x19 x13).bind fun x21=>
   if !x21 then
    (some false)
   else
    ((uD a1).bind fun x24=>
    (zAV x15 x24).bind fun x26=>
    if !x26 then
     (some false)
    else
     ((jI a2).bind fun x29=>
     (zCc x17 x29).bind fun x31=>
     if !x31 then
      (some false)
     else
      (some true)))))
end Go.Told

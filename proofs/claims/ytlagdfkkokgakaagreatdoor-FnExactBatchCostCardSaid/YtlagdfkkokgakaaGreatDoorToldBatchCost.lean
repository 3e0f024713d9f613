import Derived.Test.YtlagdfkkokgakaaGreatDoorImF
set_option linter.unusedVariables false
set_option maxRecDepth 4000
namespace Go.Told
open Go Go.Im
structure Version where
 A:Int
 B:Int
 C:Int
 deriving DecidableEq
def Version.enc (x:Version):List D:=[.sc (.int .i64 x.A),.sc (.int .i64 x.B),.sc (.int .i64 x.C)]
theorem Version.fl (x:Version):zCD (Version.enc x):=(flatK xJ (flatK xJ (flatK xJ zFN)))
structure Term where
 Name:ByteArray
 Low:Version
 High:Version
 deriving DecidableEq
def Term.enc (x:Term):List D:=[.sc (.string x.Name),.sc (.int .i64 x.Low.A),.sc (.int .i64 x.Low.B),.sc (.int .i64 x.Low.C),.sc (.int .i64 x.High.A),.sc (.int .i64 x.High.B),.sc (.int .i64 x.High.C)]
theorem Term.fl (x:Term):zCD (Term.enc x):=(flatK xJ (flatK xJ (flatK xJ (flatK xJ (flatK xJ (flatK xJ (flatK xJ zFN)))))))
structure Pack where
 Name:ByteArray
 Version:Version
 Size:Int
 Provides:(List ByteArray)
 Needs:(List (List Term))
 Bars:(List Term)
 deriving DecidableEq
def Pack.enc (o:Bool) (x:Pack):List D:=[.sc (.string x.Name),.sc (.int .i64 x.Version.A),.sc (.int .i64 x.Version.B),.sc (.int .i64 x.Version.C),.sc (.int .i64 x.Size),.s o 1 x.Provides.length (x.Provides.map eStr),.s o 1 x.Needs.length (x.Needs.map (eSl o 7 Term.enc)),.s o 7 x.Bars.length (x.Bars.map Term.enc)]
theorem Pack.ro (o:Bool) (x:Pack):D.ro.roC (Pack.enc o x)=Pack.enc false x:=by
 simp only [Pack.enc,D.ro.roC,D.ro,zDl (enc:=eStr) (enc':=eStr) (fun _=>rfl),zDl (enc:=(eSl o 7 Term.enc)) (enc':=(eSl false 7 Term.enc)) (zMd (fun _=>rfl)),zDl (enc:=Term.enc) (enc':=Term.enc) (fun _=>rfl)]
theorem Pack.fl (x:Pack):zCD (Pack.enc true x):=(flatK xJ (flatK xJ (flatK xJ (flatK xJ (flatK xJ (flatK (zFq (zGF (fun _=>(flatK xJ zFN)) _)) (flatK (zFq (zGF (fun _=>(flatK (zFq (zGF (fun _=>(Term.fl _)) _)) zFN)) _)) (flatK (zFq (zGF (fun _=>(Term.fl _)) _)) zFN))))))))
structure File where
 Path:ByteArray
 Data:(List Int)
 deriving DecidableEq
def File.enc (o:Bool) (x:File):List D:=[.sc (.string x.Path),.s o 1 x.Data.length (x.Data.map eU8)]
theorem File.ro (o:Bool) (x:File):D.ro.roC (File.enc o x)=File.enc false x:=by
 simp only [File.enc,D.ro.roC,D.ro,zDl (enc:=eU8) (enc':=eU8) (fun _=>rfl)]
theorem File.fl (x:File):zCD (File.enc true x):=(flatK xJ (flatK (zFq (zGF (fun _=>(flatK xJ zFN)) _)) zFN))
structure zI where
 Files:(List File)
 Budget:Int
 Writes:Int
 Stop:Int
 Down:Bool
 deriving DecidableEq
def zI.enc (o:Bool) (x:zI):List D:=[.s o 2 x.Files.length (x.Files.map (File.enc o)),.sc (.int .i64 x.Budget),.sc (.int .i64 x.Writes),.sc (.int .i64 x.Stop),.sc (.bool x.Down)]
theorem zI.ro (o:Bool) (x:zI):D.ro.roC (zI.enc o x)=zI.enc false x:=by
 simp only [zI.enc,D.ro.roC,D.ro,zDl (enc:=(File.enc o)) (enc':=(File.enc false)) (File.ro o)]
theorem zI.fl (x:zI):zCD (zI.enc true x):=(flatK (zFq (zGF (fun _=>(File.fl _)) _)) (flatK xJ (flatK xJ (flatK xJ (flatK xJ zFN)))))
structure yL where
 Code:Int
 Value:Int
 deriving DecidableEq
def yL.enc (x:yL):List D:=[.sc (.int .i64 x.Code),.sc (.int .i64 x.Value)]
theorem yL.fl (x:yL):zCD (yL.enc x):=(flatK xJ (flatK xJ zFN))
noncomputable def uY (a1:(List ByteArray)) (s8:(Int×Int)):Option (Lp (Int×Int) (Fl Int Int)):=
 if decide (s8.2< (a1.length:Int)) then
  ((idx a1 s8.2).bind fun x10=>
  if decide ((w64 (s8.1-(x10.size:Int)))<0) then
   (some (Lp.done (Fl.ret (-1))))
  else
   (some (Lp.go (w64 (s8.1-(x10.size:Int)),w64 (s8.2+1)))))
 else
  (some (Lp.done (Fl.nxt s8.1)))
noncomputable def jQ (a1:(List ByteArray)):(Int×Int)→Option (Fl Int Int):=loop (uY a1)
noncomputable def jE (a1:(List ByteArray)) (a2:Int):Option Int:=
 if decide ((w64 (a2-(a1.length:Int)))<0) then
  (some (-1))
 else
  ((jQ a1 (w64 (a2-(a1.length:Int)),0)).bind (Fl.go some fun v13=>
  some v13))
noncomputable def zBx (a1:Term) (a2:Int):Option Int:=
 if decide ((w64 (a2-(a1.Name.size:Int)))<0) then
  (some (-1))
 else
  (some (w64 (a2-(a1.Name.size:Int))))
noncomputable def kR (a1:(List Term)) (s10:(Int×Int)):Option (Lp (Int×Int) (Fl Int Int)):=
 if decide (s10.2< (a1.length:Int)) then
  ((idx a1 s10.2).bind fun x12=>
  (zBx x12 s10.1).bind fun x14=>
  if decide (x14<0) then
   (some (Lp.done (Fl.ret (-1))))
  else
   (some (Lp.go (x14,w64 (s10.2+1)))))
 else
  (some (Lp.done (Fl.nxt s10.1)))
noncomputable def zAg (a1:(List Term)):(Int×Int)→Option (Fl Int Int):=loop (kR a1)
noncomputable def uZ (a1:(List Term)) (a2:Int):Option Int:=
 if decide ((w64 (a2-(a1.length:Int)))<0) then
  (some (-1))
 else
  ((zAg a1 (w64 (a2-(a1.length:Int)),0)).bind (Fl.go some fun v17=>
  some v17))
noncomputable def jR (a1:(List (List Term))) (s10:(Int×Int)):Option (Lp (Int×Int) (Fl Int Int)):=
 if decide (s10.2< (a1.length:Int)) then
  ((idx a1 s10.2).bind fun x12=>
  (uZ x12 s10.1).bind fun x14=>
  if decide (x14<0) then
   (some (Lp.done (Fl.ret (-1))))
  else
   (some (Lp.go (x14,w64 (s10.2+1)))))
 else
  (some (Lp.done (Fl.nxt s10.1)))
noncomputable def kP (a1:(List (List Term))):(Int×Int)→Option (Fl Int Int):=loop (jR a1)
noncomputable def kD (a1:(List (List Term))) (a2:Int):Option Int:=
 if decide ((w64 (a2-(a1.length:Int)))<0) then
  (some (-1))
 else
  ((kP a1 (w64 (a2-(a1.length:Int)),0)).bind (Fl.go some fun v17=>
  some v17))
noncomputable def zB5 (a1:Pack) (a2:Int):Option Int:=
 if decide ((w64 (a2-(a1.Name.size:Int)))<0) then
  (some (-1))
 else
  ((jE a1.Provides (w64 (a2-(a1.Name.size:Int)))).bind fun x4=>
  if decide (x4<0) then
   (some (-1))
  else
   ((kD a1.Needs x4).bind fun x7=>
   if decide (x7<0) then
    (some (-1))
   else
    ((uZ a1.Bars x7).bind fun x10=>
    if decide (x10<0) then
     (some (-1))
    else
     (some x10))))
noncomputable def kM (a1:(List Pack)) (s10:(Int×Int)):Option (Lp (Int×Int) (Fl Int Int)):=
 if decide (s10.2< (a1.length:Int)) then
  ((idx a1 s10.2).bind fun x12=>
  (zB5 x12 s10.1).bind fun x14=>
  if decide (x14<0) then
   (some (Lp.done (Fl.ret (-1))))
  else
   (some (Lp.go (x14,w64 (s10.2+1)))))
 else
  (some (Lp.done (Fl.nxt s10.1)))
noncomputable def zA3 (a1:(List Pack)):(Int×Int)→Option (Fl Int Int):=loop (kM a1)
noncomputable def zAC (a1:(List Pack)) (a2:Int):Option Int:=
 if decide ((w64 (a2-(a1.length:Int)))<0) then
  (some (-1))
 else
  ((zA3 a1 (w64 (a2-(a1.length:Int)),0)).bind (Fl.go some fun v17=>
  some v17))
noncomputable def zAH (a1:(List Int)) (a2:Int):Option Int:=
 if decide ((w64 (a2-(a1.length:Int)))<0) then
  (some (-1))
 else
  (some (w64 (a2-(a1.length:Int))))
noncomputable def zB4 (a1:File) (a2:Int):Option Int:=
 if decide ((w64 (a2-(a1.Path.size:Int)))<0) then
  (some (-1))
 else
  ((zAH a1.Data (w64 (a2-(a1.Path.size:Int)))).bind fun x4=>
  if decide (x4<0) then
   (some (-1))
  else
   (some x4))
noncomputable def kJ (a1:(List File)) (s10:(Int×Int)):Option (Lp (Int×Int) (Fl Int Int)):=
 if decide (s10.2< (a1.length:Int)) then
  ((idx a1 s10.2).bind fun x12=>
  (zB4 x12 s10.1).bind fun x14=>
  if decide (x14<0) then
   (some (Lp.done (Fl.ret (-1))))
  else
   (some (Lp.go (x14,w64 (s10.2+1)))))
 else
  (some (Lp.done (Fl.nxt s10.1)))
noncomputable def zAJ (a1:(List File)):(Int×Int)→Option (Fl Int Int):=loop (kJ a1)
noncomputable def zAn (a1:(List File)) (a2:Int):Option Int:=
 if decide ((w64 (a2-(a1.length:Int)))<0) then
  (some (-1))
 else
  ((zAJ a1 (w64 (a2-(a1.length:Int)),0)).bind (Fl.go some fun v17=>
  some v17))
noncomputable def zBn (a1:zI) (a2:Int):Option Int:=
 (zAn a1.Files a2).bind fun x3=>
 if decide (x3<0) then
  (some (-1))
 else
  (some x3)
noncomputable def xP (a1:Version):Option Version:=
 some a1
noncomputable def zAd (a1:(List ByteArray)) (s9:((List ByteArray)×Int)):Option (Lp ((List ByteArray)×Int) (List ByteArray)):=
 if decide (s9.2< (a1.length:Int)) then
  ((idx a1 s9.2).bind fun x11=>
  (idx s9.1 s9.2).bind fun x13=>
  some (Lp.go (s9.1.set s9.2.toNat x11,w64 (s9.2+1))))
 else
  (some (Lp.done s9.1))
noncomputable def jV (a1:(List ByteArray)):((List ByteArray)×Int)→Option (List ByteArray):=loop (zAd a1)
noncomputable def tY (a1:(List ByteArray)):Option (List ByteArray):=
 (mk 16 (a1.length:Int) ByteArray.empty).bind fun x2=>
 (jV a1 (x2,0)).bind fun v15=>
 some v15
noncomputable def zBz (a1:Term):Option Term:=
 (xP a1.Low).bind fun x2=>
 (xP a1.High).bind fun x4=>
 some ({Name:=a1.Name,Low:=x2,High:=x4}:Term)
noncomputable def zBk (a1:(List Term)) (s11:((List Term)×Int)):Option (Lp ((List Term)×Int) (List Term)):=
 if decide (s11.2< (a1.length:Int)) then
  ((idx a1 s11.2).bind fun x13=>
  (zBz x13).bind fun x15=>
  (idx s11.1 s11.2).bind fun x17=>
  some (Lp.go (s11.1.set s11.2.toNat x15,w64 (s11.2+1))))
 else
  (some (Lp.done s11.1))
noncomputable def zA8 (a1:(List Term)):((List Term)×Int)→Option (List Term):=loop (zBk a1)
noncomputable def tK (a1:(List Term)):Option (List Term):=
 (mk 64 (a1.length:Int) ({Name:=ByteArray.empty,Low:=({A:=0,B:=0,C:=0}:Version),High:=({A:=0,B:=0,C:=0}:Version)}:Term)).bind fun x2=>
 (zA8 a1 (x2,0)).bind fun v19=>
 some v19
noncomputable def zAP (a1:(List (List Term))) (s11:((List (List Term))×Int)):Option (Lp ((List (List Term))×Int) (List (List Term))):=
 if decide (s11.2< (a1.length:Int)) then
  ((idx a1 s11.2).bind fun x13=>
  (tK x13).bind fun x15=>
  (idx s11.1 s11.2).bind fun x17=>
  some (Lp.go (s11.1.set s11.2.toNat x15,w64 (s11.2+1))))
 else
  (some (Lp.done s11.1))
noncomputable def kN (a1:(List (List Term))):((List (List Term))×Int)→Option (List (List Term)):=loop (zAP a1)
noncomputable def kF (a1:(List (List Term))):Option (List (List Term)):=
 (mk 24 (a1.length:Int) ([]:List Term)).bind fun x2=>
 (kN a1 (x2,0)).bind fun v19=>
 some v19
noncomputable def zBy (a1:Pack):Option Pack:=
 (xP a1.Version).bind fun x2=>
 (tY a1.Provides).bind fun x4=>
 (kF a1.Needs).bind fun x6=>
 (tK a1.Bars).bind fun x8=>
 some ({Name:=a1.Name,Version:=x2,Size:=a1.Size,Provides:=x4,Needs:=x6,Bars:=x8}:Pack)
noncomputable def zBh (a1:(List Pack)) (s11:((List Pack)×Int)):Option (Lp ((List Pack)×Int) (List Pack)):=
 if decide (s11.2< (a1.length:Int)) then
  ((idx a1 s11.2).bind fun x13=>
  (zBy x13).bind fun x15=>
  (idx s11.1 s11.2).bind fun x17=>
  some (Lp.go (s11.1.set s11.2.toNat x15,w64 (s11.2+1))))
 else
  (some (Lp.done s11.1))
noncomputable def zAv (a1:(List Pack)):((List Pack)×Int)→Option (List Pack):=loop (zBh a1)
noncomputable def vB (a1:(List Pack)):Option (List Pack):=
 (mk 120 (a1.length:Int) ({Name:=ByteArray.empty,Version:=({A:=0,B:=0,C:=0}:Version),Size:=0,Provides:=([]:List ByteArray),Needs:=([]:List (List Term)),Bars:=([]:List Term)}:Pack)).bind fun x2=>
 (zAv a1 (x2,0)).bind fun v19=>
 some v19
noncomputable def zBl (a1:(List Int)) (s9:((List Int)×Int)):Option (Lp ((List Int)×Int) (List Int)):=
 if decide (s9.2< (a1.length:Int)) then
  ((idx a1 s9.2).bind fun x11=>
  (idx s9.1 s9.2).bind fun x13=>
  some (Lp.go (s9.1.set s9.2.toNat x11,w64 (s9.2+1))))
 else
  (some (Lp.done s9.1))
noncomputable def zAx (a1:(List Int)):((List Int)×Int)→Option (List Int):=loop (zBl a1)
noncomputable def zAB (a1:(List Int)):Option (List Int):=
 (mk 1 (a1.length:Int) 0).bind fun x2=>
 (zAx a1 (x2,0)).bind fun v15=>
 some v15
noncomputable def zBw (a1:File):Option File:=
 (zAB a1.Data).bind fun x2=>
 some ({Path:=a1.Path,Data:=x2}:File)
noncomputable def zBi (a1:(List File)) (s11:((List File)×Int)):Option (Lp ((List File)×Int) (List File)):=
 if decide (s11.2< (a1.length:Int)) then
  ((idx a1 s11.2).bind fun x13=>
  (zBw x13).bind fun x15=>
  (idx s11.1 s11.2).bind fun x17=>
  some (Lp.go (s11.1.set s11.2.toNat x15,w64 (s11.2+1))))
 else
  (some (Lp.done s11.1))
noncomputable def zA4 (a1:(List File)):((List File)×Int)→Option (List File):=loop (zBi a1)
noncomputable def zAr (a1:(List File)):Option (List File):=
 (mk 40 (a1.length:Int) ({Path:=ByteArray.empty,Data:=([]:List Int)}:File)).bind fun x2=>
 (zA4 a1 (x2,0)).bind fun v19=>
 some v19
noncomputable def uI (a1:zI):Option zI:=
 (zAr a1.Files).bind fun x2=>
 some ({Files:=x2,Budget:=a1.Budget,Writes:=a1.Writes,Stop:=a1.Stop,Down:=a1.Down}:zI)
noncomputable def zAS (a1:(List Int)) (s9:((List Int)×Int)):Option (Lp ((List Int)×Int) (List Int)):=
 if decide (s9.2< (a1.length:Int)) then
  ((idx a1 s9.2).bind fun x11=>
  (idx s9.1 s9.2).bind fun x13=>
  some (Lp.go (s9.1.set s9.2.toNat x11,w64 (s9.2+1))))
 else
  (some (Lp.done s9.1))
noncomputable def kS (a1:(List Int)):((List Int)×Int)→Option (List Int):=loop (zAS a1)
noncomputable def wI (a1:(List Int)):Option (List Int):=
 (mk 8 (a1.length:Int) 0).bind fun x2=>
 (kS a1 (x2,0)).bind fun v15=>
 some v15
noncomputable def xX (a1:Int):Option Bool:=
 if decide (a1≥97) then
  (some (decide (a1≤122)))
 else
  (some false)
noncomputable def xY (a1:Int):Option Bool:=
 if decide (a1≥48) then
  (some (decide (a1≤57)))
 else
  (some false)
noncomputable def wJ (a1:Int):Option Bool:=
 (xX a1).bind fun x2=>
 if x2 then
  (some true)
 else
  ((xY a1).bind fun x5=>
  if x5 then
   (some true)
  else
   (some (a1==95)))
noncomputable def zAc (a1:ByteArray) (s16:Int):Option (Lp Int (Fl Int Unit)):=
 if decide (s16< (a1.size:Int)) then
  ((bidx a1 s16).bind fun x18=>
  (wJ x18).bind fun x20=>
  if !x20 then
   (some (Lp.done (Fl.ret 5)))
  else
   (some (Lp.go (w64 (s16+1)))))
 else
  (some (Lp.done (Fl.nxt ())))
noncomputable def vV (a1:ByteArray):Int→Option (Fl Int Unit):=loop (zAc a1)
noncomputable def xM (a1:ByteArray):Option Int:=
 (if decide ((a1.size:Int)<1) then
   (some true)
  else
   (if decide ((a1.size:Int)>12) then
    (some true)
   else
    ((bidx a1 0).bind fun x4=>
    (xX x4).bind fun x6=>
    some (!x6)))).bind fun v8=>
 if v8 then
  (some 5)
 else
  ((vV a1 0).bind (Fl.go some fun v23=>
  some 0))
noncomputable def yN (a1:Int) (a2:Int) (a3:Int):Option Bool:=
 if decide (a1≥a2) then
  (some (decide (a1≤a3)))
 else
  (some false)
noncomputable def yO (a1:Version):Option Int:=
 (yN a1.A 0 999).bind fun x2=>
 (if !x2 then
   (some true)
  else
   ((yN a1.B 0 999).bind fun x5=>
   if !x5 then
    (some true)
   else
    ((yN a1.C 0 999).bind fun x8=>
    some (!x8)))).bind fun v10=>
 if v10 then
  (some 3)
 else
  (some 0)
noncomputable def kV (a1:(List ByteArray)) (a2:ByteArray) (s7:Int):Option (Lp Int (Fl Bool Unit)):=
 if decide (s7< (a1.length:Int)) then
  ((idx a1 s7).bind fun x9=>
  if seq x9 a2 then
   (some (Lp.done (Fl.ret true)))
  else
   (some (Lp.go (w64 (s7+1)))))
 else
  (some (Lp.done (Fl.nxt ())))
noncomputable def zAA (a1:(List ByteArray)) (a2:ByteArray):Int→Option (Fl Bool Unit):=loop (kV a1 a2)
noncomputable def zAE (a1:(List ByteArray)) (a2:ByteArray):Option Bool:=
 (zAA a1 a2 0).bind (Fl.go some fun v12=>
 some false)
noncomputable def zBM:Option Version:=
 some ({A:=1000,B:=0,C:=0}:Version)
noncomputable def uJ (a1:Int) (a2:Int):Option Int:=
 if decide (a1<a2) then
  (some (-1))
 else
  (if decide (a1>a2) then
   (some 1)
  else
   (some 0))
noncomputable def yU (a1:Version) (a2:Version):Option Int:=
 (uJ a1.A a2.A).bind fun x3=>
 if x3 !=0 then
  (some x3)
 else
  ((uJ a1.B a2.B).bind fun x6=>
  if x6 !=0 then
   (some x6)
  else
   ((uJ a1.C a2.C).bind fun x9=>
   some x9))
noncomputable def jJ (a1:Term):Option Int:=
 (xM a1.Name).bind fun x2=>
 if x2 !=0 then
  (some x2)
 else
  ((yO a1.Low).bind fun x5=>
  if x5 !=0 then
   (some x5)
  else
   ((zBM).bind fun x8=>
   (if !(a1.High.A==x8.A&&(a1.High.B==x8.B&&(a1.High.C==x8.C&&true))) then
     ((yO a1.High).bind fun x11=>
     some (x11 !=0))
    else
     (some false)).bind fun v13=>
   if v13 then
    (some 3)
   else
    ((yU a1.Low a1.High).bind fun x15=>
    if decide (x15≥0) then
     (some 1)
    else
     (some 0))))
noncomputable def kU (a1:(List Term)) (s8:Int):Option (Lp Int (Fl Int Unit)):=
 if decide (s8< (a1.length:Int)) then
  ((idx a1 s8).bind fun x10=>
  (jJ x10).bind fun x12=>
  if x12 !=0 then
   (some (Lp.done (Fl.ret x12)))
  else
   (some (Lp.go (w64 (s8+1)))))
 else
  (some (Lp.done (Fl.nxt ())))
noncomputable def zAe (a1:(List Term)):Int→Option (Fl Int Unit):=loop (kU a1)
noncomputable def vP (a1:(List Term)):Option Int:=
 (zAe a1 0).bind (Fl.go some fun v15=>
 some 0)
noncomputable def tJ (a1:Pack) (s70:Int):Option (Lp Int (Fl Int Unit)):=
 if decide (s70< (a1.Needs.length:Int)) then
  ((idx a1.Needs s70).bind fun x72=>
  if (x72.length:Int)==0 then
   (some (Lp.done (Fl.ret 1)))
  else
   ((idx a1.Needs s70).bind fun x75=>
   (vP x75).bind fun x77=>
   if x77 !=0 then
    (some (Lp.done (Fl.ret x77)))
   else
    (some (Lp.go (w64 (s70+1))))))
 else
  (some (Lp.done (Fl.nxt ())))
noncomputable def vW (a1:Pack):Int→Option (Fl Int Unit):=loop (tJ a1)
noncomputable def uU (a1:Pack) (s42:Int):Option (Lp Int (Fl Int Unit)):=
 if decide (s42< (a1.Provides.length:Int)) then
  ((idx a1.Provides s42).bind fun x44=>
  (xM x44).bind fun x46=>
  if x46 !=0 then
   (some (Lp.done (Fl.ret x46)))
  else
   ((idx a1.Provides s42).bind fun x49=>
   (if seq x49 a1.Name then
     (some true)
    else
     ((zEW a1.Provides 0 s42).bind fun x52=>
     (idx a1.Provides s42).bind fun x54=>
     (zAE x52 x54).bind fun x56=>
     some x56)).bind fun v58=>
   if v58 then
    (some (Lp.done (Fl.ret 6)))
   else
    (some (Lp.go (w64 (s42+1))))))
 else
  (some (Lp.done (Fl.nxt ())))
noncomputable def vU (a1:Pack):Int→Option (Fl Int Unit):=loop (uU a1)
noncomputable def uT (a1:Pack) (s19:Int):Option (Lp Int (Fl Int Unit)):=
 if decide (s19< (a1.Needs.length:Int)) then
  ((idx a1.Needs s19).bind fun x21=>
  if decide ((x21.length:Int)>4) then
   (some (Lp.done (Fl.ret 2)))
  else
   (some (Lp.go (w64 (s19+1)))))
 else
  (some (Lp.done (Fl.nxt ())))
noncomputable def jO (a1:Pack):Int→Option (Fl Int Unit):=loop (uT a1)
noncomputable def jH (a1:Pack):Option Int:=
 (xM a1.Name).bind fun x2=>
 if x2 !=0 then
  (some x2)
 else
  ((yO a1.Version).bind fun x5=>
  if x5 !=0 then
   (some x5)
  else
   ((yN a1.Size 1 200).bind fun x8=>
   if !x8 then
    (some 3)
   else
    ((if decide ((a1.Provides.length:Int)>4) then
       (some true)
      else
       (if decide ((a1.Needs.length:Int)>4) then
        (some true)
       else
        (some (decide ((a1.Bars.length:Int)>4))))).bind fun v13=>
    if v13 then
     (some 2)
    else
     ((jO a1 0).bind (Fl.go some fun v24=>
     (vU a1 0).bind (Fl.go some fun v60=>
     (vW a1 0).bind (Fl.go some fun v80=>
     (vP a1.Bars).bind fun x81=>
     some x81)))))))
noncomputable def zAs (a1:(List Pack)) (a2:ByteArray) (a3:Version) (s14:Int):Option (Lp Int (Fl Int Unit)):=
 if decide (s14< (a1.length:Int)) then
  ((idx a1 s14).bind fun x16=>
  (if seq x16.Name a2 then
    ((idx a1 s14).bind fun x19=>
    (yU x19.Version a3).bind fun x21=>
    some (x21==0))
   else
    (some false)).bind fun v23=>
  if v23 then
   (some (Lp.done (Fl.ret s14)))
  else
   (some (Lp.go (w64 (s14+1)))))
 else
  (some (Lp.done (Fl.nxt ())))
noncomputable def zBc (a1:(List Pack)) (a2:ByteArray) (a3:Version):Int→Option (Fl Int Unit):=loop (zAs a1 a2 a3)
noncomputable def zAm (a1:(List Pack)) (a2:ByteArray) (a3:Version):Option Int:=
 (zBc a1 a2 a3 0).bind (Fl.go some fun v25=>
 some (-1))
noncomputable def vD (a1:(List Pack)) (s18:Int):Option (Lp Int (Fl Int Unit)):=
 if decide (s18< (a1.length:Int)) then
  ((idx a1 s18).bind fun x20=>
  (jH x20).bind fun x22=>
  if x22 !=0 then
   (some (Lp.done (Fl.ret x22)))
  else
   ((zEW a1 0 s18).bind fun x25=>
   (idx a1 s18).bind fun x27=>
   (idx a1 s18).bind fun x29=>
   (zAm x25 x27.Name x29.Version).bind fun x31=>
   if decide (x31≥0) then
    (some (Lp.done (Fl.ret 6)))
   else
    (some (Lp.go (w64 (s18+1))))))
 else
  (some (Lp.done (Fl.nxt ())))
noncomputable def vK (a1:(List Pack)):Int→Option (Fl Int Unit):=loop (vD a1)
noncomputable def wS (a1:(List Pack)):Option Int:=
 if decide ((a1.length:Int)>24) then
  (some 2)
 else
  ((vK a1 0).bind (Fl.go some fun v34=>
  some 0))
noncomputable def zBt (a1:Int):Option Bool:=
 (wJ a1).bind fun x2=>
 if x2 then
  (some true)
 else
  (if a1==46 then
   (some true)
  else
   (if a1==45 then
    (some true)
   else
    (some (a1==47))))
noncomputable def vF (a1:ByteArray) (s11:Int):Option (Lp Int (Fl Int Unit)):=
 if decide (s11< (a1.size:Int)) then
  ((bidx a1 s11).bind fun x13=>
  (zBt x13).bind fun x15=>
  if !x15 then
   (some (Lp.done (Fl.ret 5)))
  else
   (some (Lp.go (w64 (s11+1)))))
 else
  (some (Lp.done (Fl.nxt ())))
noncomputable def wT (a1:ByteArray):Int→Option (Fl Int Unit):=loop (vF a1)
noncomputable def xR (a1:ByteArray):Option Int:=
 (if decide ((a1.size:Int)<1) then
   (some true)
  else
   (some (decide ((a1.size:Int)>40)))).bind fun v3=>
 if v3 then
  (some 5)
 else
  ((wT a1 0).bind (Fl.go some fun v18=>
  some 0))
noncomputable def kW (a1:zI) (s5:(Int×Int)):Option (Lp (Int×Int) Int):=
 if decide (s5.2< (a1.Files.length:Int)) then
  ((idx a1.Files s5.2).bind fun x7=>
  some (Lp.go (w64 (s5.1+(x7.Data.length:Int)),w64 (s5.2+1))))
 else
  (some (Lp.done s5.1))
noncomputable def zAk (a1:zI):(Int×Int)→Option Int:=loop (kW a1)
noncomputable def zAy (a1:zI):Option Int:=
 (zAk a1 (0,0)).bind fun v9=>
 some v9
noncomputable def vG (a1:zI) (s29:Int):Option (Lp Int (Fl Int Unit)):=
 if decide (s29< (a1.Files.length:Int)) then
  ((idx a1.Files s29).bind fun x31=>
  (xR x31.Path).bind fun x33=>
  if x33 !=0 then
   (some (Lp.done (Fl.ret x33)))
  else
   ((if decide (s29>0) then
      ((idx a1.Files s29).bind fun x37=>
      (idx a1.Files (w64 (s29-1))).bind fun x39=>
      some (slt x37.Path x39.Path||seq x37.Path x39.Path))
     else
      (some false)).bind fun v41=>
   if v41 then
    (some (Lp.done (Fl.ret 1)))
   else
    ((idx a1.Files s29).bind fun x43=>
    if decide ((x43.Data.length:Int)>4000) then
     (some (Lp.done (Fl.ret 2)))
    else
     (some (Lp.go (w64 (s29+1)))))))
 else
  (some (Lp.done (Fl.nxt ())))
noncomputable def wQ (a1:zI):Int→Option (Fl Int Unit):=loop (vG a1)
noncomputable def xU (a1:zI):Option Int:=
 (yN a1.Budget 0 20000).bind fun x2=>
 (if !x2 then
   (some true)
  else
   ((yN a1.Writes 0 1000000000).bind fun x5=>
   if !x5 then
    (some true)
   else
    ((yN a1.Stop (-1) 1000000000).bind fun x8=>
    some (!x8)))).bind fun v10=>
 if v10 then
  (some 3)
 else
  (if decide ((a1.Files.length:Int)>120) then
   (some 2)
  else
   ((wQ a1 0).bind (Fl.go some fun v46=>
   (zAy a1).bind fun x47=>
   if decide (x47>a1.Budget) then
    (some 8)
   else
    (some 0))))
noncomputable def tL (a1:(List Pack)) (a2:zI):Option Int:=
 (wS a1).bind fun x3=>
 if x3 !=0 then
  (some x3)
 else
  ((xU a2).bind fun x6=>
  some x6)
noncomputable def zBa (a1:(List Pack)) (a2:(List Int)) (s16:Int):Option (Lp Int (Fl Bool Unit)):=
 if decide (s16< (a2.length:Int)) then
  ((idx a2 s16).bind fun x18=>
  (yN x18 0 (w64 ((a1.length:Int)-1))).bind fun x20=>
  (if !x20 then
    (some true)
   else
    (if decide (s16>0) then
     ((idx a2 s16).bind fun x24=>
     (idx a2 (w64 (s16-1))).bind fun x26=>
     some (decide (x24≤x26)))
    else
     (some false))).bind fun v28=>
  if v28 then
   (some (Lp.done (Fl.ret false)))
  else
   (some (Lp.go (w64 (s16+1)))))
 else
  (some (Lp.done (Fl.nxt ())))
noncomputable def zBF (a1:(List Pack)) (a2:(List Int)):Int→Option (Fl Bool Unit):=loop (zBa a1 a2)
noncomputable def zBL (a1:(List Pack)) (a2:(List Int)):Option Bool:=
 (zBF a1 a2 0).bind (Fl.go some fun v30=>
 some true)
noncomputable def vN (a1:ByteArray) (a2:ByteArray):Option Bool:=
 if decide ((a1.size:Int)≥(a2.size:Int)) then
  ((zHd a1 0 (a2.size:Int)).bind fun x4=>
  some (seq x4 a2))
 else
  (some false)
noncomputable def uR (a1:zI) (a2:ByteArray) (s14:((List ByteArray)×Int)):Option (Lp ((List ByteArray)×Int) (List ByteArray)):=
 if decide (s14.2< (a1.Files.length:Int)) then
  ((idx a1.Files s14.2).bind fun x16=>
  (vN x16.Path a2).bind fun x18=>
  (if x18 then
    ((idx a1.Files s14.2).bind fun x21=>
    (app 16 s14.1 [x21.Path]).bind fun x23=>
    some x23)
   else
    (some s14.1)).bind fun v25=>
  some (Lp.go (v25,w64 (s14.2+1))))
 else
  (some (Lp.done s14.1))
noncomputable def uF (a1:zI) (a2:ByteArray):((List ByteArray)×Int)→Option (List ByteArray):=loop (uR a1 a2)
noncomputable def tN (a1:zI) (a2:ByteArray):Option (List ByteArray):=
 (uF a1 a2 (([]:List ByteArray),0)).bind fun v26=>
 some v26
noncomputable def jU (a1:ByteArray) (s14:(Int×Int)):Option (Lp (Int×Int) (Fl (Int×Bool) Int)):=
 if decide (s14.2< (a1.size:Int)) then
  ((bidx a1 s14.2).bind fun x16=>
  (xY x16).bind fun x18=>
  if !x18 then
   (some (Lp.done (Fl.ret (0,false))))
  else
   ((bidx a1 s14.2).bind fun x21=>
   some (Lp.go (w64 ((w64 (s14.1*10))+(w64 (IntKind.u8.wrap (x21-48)))),w64 (s14.2+1)))))
 else
  (some (Lp.done (Fl.nxt s14.1)))
noncomputable def kY (a1:ByteArray):(Int×Int)→Option (Fl (Int×Bool) Int):=loop (jU a1)
noncomputable def jY (a1:ByteArray) (a2:Int):Option (Int×Bool):=
 (if decide ((a1.size:Int)<1) then
   (some true)
  else
   (some (decide ((a1.size:Int)>a2)))).bind fun v4=>
 if v4 then
  (some (0,false))
 else
  ((kY a1 (0,0)).bind (Fl.go some fun v23=>
  some (v23,true)))
noncomputable def wM (g:Int→Option ByteArray) (s:Int):Option ByteArray:=
 match s with
 |a1=>
 if decide (a1<10) then
  (some (b2s [IntKind.u8.wrap (w64 (48+a1))]))
 else
  ((g (w64 (a1.tdiv 10))).bind fun x3=>
  (cat x3 (b2s [IntKind.u8.wrap (w64 (48+(a1.tmod 10)))])).bind fun x5=>
  some x5)
noncomputable def yQ (a1:Int):Option ByteArray:=zLc wM 64 a1
noncomputable def zAF (a1:Int):Option ByteArray:=
 (yN a1 1 999999).bind fun x2=>
 if !x2 then
  (some (bs []))
 else
  ((yQ (w64 (1000000+a1))).bind fun x5=>
  (zHd x5 1 (x5.size:Int)).bind fun x7=>
  (cat (bs [103,101,110,47]) x7).bind fun x9=>
  some x9)
noncomputable def zAf (a1:zI) (x2:(List ByteArray)) (s21:((List Int)×Int)):Option (Lp ((List Int)×Int) (List Int)):=
 if decide (s21.2< (x2.length:Int)) then
  ((idx x2 s21.2).bind fun x23=>
  (zHd x23 4 (x23.size:Int)).bind fun x25=>
  (jY x25 6).bind fun x27=>
  (if x27.2 then
    ((zAF x27.1).bind fun x30=>
    (idx x2 s21.2).bind fun x32=>
    some (seq x30 x32))
   else
    (some false)).bind fun v34=>
  (if v34 then
    ((app 8 s21.1 [x27.1]).bind fun x36=>
    some x36)
   else
    (some s21.1)).bind fun v38=>
  some (Lp.go (v38,w64 (s21.2+1))))
 else
  (some (Lp.done s21.1))
noncomputable def zAW (a1:zI) (x2:(List ByteArray)):((List Int)×Int)→Option (List Int):=loop (zAf a1 x2)
noncomputable def zBv (a1:zI):Option (List Int):=
 (tN a1 (bs [103,101,110,47])).bind fun x2=>
 (zAW a1 x2 (([]:List Int),0)).bind fun v39=>
 some v39
noncomputable def kC (a1:zI):Option Int:=
 (zBv a1).bind fun x2=>
 if (x2.length:Int)==0 then
  (some 1)
 else
  ((idx x2 (w64 ((x2.length:Int)-1))).bind fun x5=>
  some (w64 (x5+1)))
noncomputable def xD (a1:Version):Option ByteArray:=
 (yO a1).bind fun x2=>
 if x2 !=0 then
  (some (bs []))
 else
  ((yQ a1.A).bind fun x5=>
  (cat x5 (bs [46])).bind fun x7=>
  (yQ a1.B).bind fun x9=>
  (cat x7 x9).bind fun x11=>
  (cat x11 (bs [46])).bind fun x13=>
  (yQ a1.C).bind fun x15=>
  (cat x13 x15).bind fun x17=>
  some x17)
noncomputable def kI (a1:Pack):Option ByteArray:=
 (cat (bs [112,107,103,47]) a1.Name).bind fun x2=>
 (cat x2 (bs [45])).bind fun x4=>
 (xD a1.Version).bind fun x6=>
 (cat x4 x6).bind fun x8=>
 some x8
noncomputable def zAu (a1:zI) (a2:ByteArray) (s7:Int):Option (Lp Int (Fl Int Unit)):=
 if decide (s7< (a1.Files.length:Int)) then
  ((idx a1.Files s7).bind fun x9=>
  if seq x9.Path a2 then
   (some (Lp.done (Fl.ret s7)))
  else
   (some (Lp.go (w64 (s7+1)))))
 else
  (some (Lp.done (Fl.nxt ())))
noncomputable def zBb (a1:zI) (a2:ByteArray):Int→Option (Fl Int Unit):=loop (zAu a1 a2)
noncomputable def yX (a1:zI) (a2:ByteArray):Option Int:=
 (zBb a1 a2 0).bind (Fl.go some fun v12=>
 some (-1))
noncomputable def kX (a1:Pack) (s13:(Int×(List Int)×Int)):Option (Lp (Int×(List Int)×Int) (List Int)):=
 if decide (s13.2.2<a1.Size) then
  ((app 1 s13.2.1 [IntKind.u8.wrap (s13.1.tmod 256)]).bind fun x15=>
  some (Lp.go (w64 ((w64 (31*(s13.1.tmod 256)))+7),x15,w64 (s13.2.2+1))))
 else
  (some (Lp.done s13.2.1))
noncomputable def zAp (a1:Pack):(Int×(List Int)×Int)→Option (List Int):=loop (kX a1)
noncomputable def kQ (a1:Pack) (s5:(Int×Int)):Option (Lp (Int×Int) Int):=
 if decide (s5.2< (a1.Name.size:Int)) then
  ((bidx a1.Name s5.2).bind fun x7=>
  some (Lp.go (w64 (s5.1+(w64 (x7))),w64 (s5.2+1))))
 else
  (some (Lp.done s5.1))
noncomputable def zAM (a1:Pack):(Int×Int)→Option Int:=loop (kQ a1)
noncomputable def zAG (a1:Pack):Option (List Int):=
 (zAM a1 (w64 ((w64 (a1.Version.A+a1.Version.B))+a1.Version.C),0)).bind fun v9=>
 (zAp a1 (v9,([]:List Int),0)).bind fun v17=>
 some v17
noncomputable def zBK (a1:(List Int)) (a2:(List Int)):Option Bool:=
 some (seq (b2s a1) (b2s a2))
noncomputable def uX (a1:(List Pack)) (a2:zI) (a3:(List Int)) (s31:((List Int)×Int)):Option (Lp ((List Int)×Int) (List Int)):=
 if decide (s31.2< (a3.length:Int)) then
  ((idx a3 s31.2).bind fun x33=>
  (idx a1 x33).bind fun x35=>
  (kI x35).bind fun x37=>
  (yX a2 x37).bind fun x39=>
  (if decide (x39<0) then
    (some true)
   else
    ((idx a2.Files x39).bind fun x42=>
    (idx a3 s31.2).bind fun x44=>
    (idx a1 x44).bind fun x46=>
    (zAG x46).bind fun x48=>
    (zBK x42.Data x48).bind fun x50=>
    some (!x50))).bind fun v52=>
  (if v52 then
    ((idx a3 s31.2).bind fun x54=>
    (app 8 s31.1 [x54]).bind fun x56=>
    some x56)
   else
    (some s31.1)).bind fun v58=>
  some (Lp.go (v58,w64 (s31.2+1))))
 else
  (some (Lp.done s31.1))
noncomputable def jW (a1:(List Pack)) (a2:zI) (a3:(List Int)):((List Int)×Int)→Option (List Int):=loop (uX a1 a2 a3)
noncomputable def jD (a1:(List Pack)) (a2:zI) (a3:(List Int)):Option (List Int):=
 (jW a1 a2 a3 (([]:List Int),0)).bind fun v59=>
 some v59
noncomputable def zAt (a1:(List Pack)) (a2:(List Int)) (s22:(ByteArray×Int)):Option (Lp (ByteArray×Int) ByteArray):=
 if decide (s22.2< (a2.length:Int)) then
  ((idx a2 s22.2).bind fun x24=>
  (idx a1 x24).bind fun x26=>
  (cat s22.1 x26.Name).bind fun x28=>
  (cat x28 (bs [32])).bind fun x30=>
  (idx a2 s22.2).bind fun x32=>
  (idx a1 x32).bind fun x34=>
  (xD x34.Version).bind fun x36=>
  (cat x30 x36).bind fun x38=>
  (cat x38 (bs [10])).bind fun x40=>
  some (Lp.go (x40,w64 (s22.2+1))))
 else
  (some (Lp.done s22.1))
noncomputable def zAX (a1:(List Pack)) (a2:(List Int)):(ByteArray×Int)→Option ByteArray:=loop (zAt a1 a2)
noncomputable def zB7 (a1:(List Pack)) (a2:(List Int)):Option ByteArray:=
 (zAX a1 a2 (bs [],0)).bind fun v42=>
 some v42
noncomputable def zAK (a1:(List Pack)) (a2:zI) (x4:(List Int)) (s29:(Int×Int×Int)):Option (Lp (Int×Int×Int) (Int×Int)):=
 if decide (s29.2.2< (x4.length:Int)) then
  ((idx x4 s29.2.2).bind fun x31=>
  (idx a1 x31).bind fun x33=>
  (idx x4 s29.2.2).bind fun x35=>
  (idx a1 x35).bind fun x37=>
  (kI x37).bind fun x39=>
  (yX a2 x39).bind fun x41=>
  (if decide (x41<0) then
    (some (w64 (s29.1+x33.Size),w64 (s29.2.1+1)))
   else
    ((idx a2.Files x41).bind fun x44=>
    some (w64 ((w64 (s29.1+x33.Size))-(x44.Data.length:Int)),s29.2.1))).bind fun v46=>
  some (Lp.go (v46.1,v46.2,w64 (s29.2.2+1))))
 else
  (some (Lp.done (s29.1,s29.2.1)))
noncomputable def zAZ (a1:(List Pack)) (a2:zI) (x4:(List Int)):(Int×Int×Int)→Option (Int×Int):=loop (zAK a1 a2 x4)
noncomputable def zB6 (a1:(List Pack)) (a2:zI) (a3:(List Int)):Option (Int×Int):=
 (jD a1 a2 a3).bind fun x4=>
 (zB7 a1 a3).bind fun x6=>
 (kC a2).bind fun x8=>
 (yQ x8).bind fun x10=>
 (zAZ a1 a2 x4 (w64 ((x6.size:Int)+(x10.size:Int)),1,0)).bind fun v47=>
 (yX a2 (bs [99,117,114])).bind fun x48=>
 (if decide (x48≥0) then
   ((idx a2.Files x48).bind fun x51=>
   some (w64 (v47.1-(x51.Data.length:Int)),v47.2))
  else
   (some (v47.1,w64 (v47.2+1)))).bind fun v53=>
 some (v53.1,v53.2)
noncomputable def vO (a1:(List Pack)) (a2:zI) (a3:(List Int)):Option yL:=
 (tL a1 a2).bind fun x4=>
 if x4 !=0 then
  (some ({Code:=x4,Value:=0}:yL))
 else
  ((zBL a1 a3).bind fun x7=>
  if !x7 then
   (some ({Code:=1,Value:=0}:yL))
  else
   ((kC a2).bind fun x10=>
   if decide (x10>999999) then
    (some ({Code:=2,Value:=0}:yL))
   else
    ((zB6 a1 a2 a3).bind fun x13=>
    some ({Code:=0,Value:=x13.1}:yL))))
noncomputable def yR (a1:Int):Option Bool:=
 if decide (a1≥97) then
  (if decide (a1≤122) then
   (some true)
  else
   (if decide (a1≥48) then
    (if decide (a1≤57) then
     (some true)
    else
     (some (a1==95)))
   else
    (some (a1==95))))
 else
  (if decide (a1≥48) then
   (if decide (a1≤57) then
    (some true)
   else
    (some (a1==95)))
  else
   (some (a1==95)))
noncomputable def kZ (a1:ByteArray) (s17:Int):Option (Lp Int (Fl Int Unit)):=
 if decide (s17< (a1.size:Int)) then
  ((bidx a1 s17).bind fun x19=>
  (yR x19).bind fun x21=>
  if !x21 then
   (some (Lp.done (Fl.ret 5)))
  else
   (some (Lp.go (w64 (s17+1)))))
 else
  (some (Lp.done (Fl.nxt ())))
noncomputable def vT (a1:ByteArray):Int→Option (Fl Int Unit):=loop (kZ a1)
noncomputable def xQ (a1:ByteArray):Option Int:=
 (if decide ((a1.size:Int)<1) then
   (some true)
  else
   (if decide ((a1.size:Int)>12) then
    (some true)
   else
    ((bidx a1 0).bind fun x4=>
    if decide (x4<97) then
     (some true)
    else
     ((bidx a1 0).bind fun x7=>
     some (decide (x7>122)))))).bind fun v9=>
 if v9 then
  (some 5)
 else
  ((vT a1 0).bind (Fl.go some fun v24=>
  some 0))
noncomputable def yK (a1:Int) (a2:Int) (a3:Int):Option Bool:=
 if decide (a2≤a1) then
  (some (decide (a1≤a3)))
 else
  (some false)
noncomputable def yY (a1:Version):Option Int:=
 (yK a1.A 0 999).bind fun x2=>
 (if !x2 then
   (some true)
  else
   ((yK a1.B 0 999).bind fun x5=>
   if !x5 then
    (some true)
   else
    ((yK a1.C 0 999).bind fun x8=>
    some (!x8)))).bind fun v10=>
 if v10 then
  (some 3)
 else
  (some 0)
noncomputable def uW (a1:(List Int)) (s6:Int):Option (Lp Int (Fl Int Unit)):=
 if decide (s6< (a1.length:Int)) then
  ((idx a1 s6).bind fun x8=>
  if x8 !=0 then
   (some (Lp.done (Fl.ret x8)))
  else
   (some (Lp.go (w64 (s6+1)))))
 else
  (some (Lp.done (Fl.nxt ())))
noncomputable def vZ (a1:(List Int)):Int→Option (Fl Int Unit):=loop (uW a1)
noncomputable def xA (a1:(List Int)):Option Int:=
 (vZ a1 0).bind (Fl.go some fun v11=>
 some 0)
noncomputable def uO (a1:(List Term)):Option Bool:=
 some (decide ((a1.length:Int)>4))
noncomputable def zW (a1:(List (List Term))) (s8:Int):Option (Lp Int (Fl Int Unit)):=
 if decide (s8< (a1.length:Int)) then
  ((idx a1 s8).bind fun x10=>
  (uO x10).bind fun x12=>
  if x12 then
   (some (Lp.done (Fl.ret s8)))
  else
   (some (Lp.go (w64 (s8+1)))))
 else
  (some (Lp.done (Fl.nxt ())))
noncomputable def zY (a1:(List (List Term))):Int→Option (Fl Int Unit):=loop (zW a1)
noncomputable def zR (a1:(List (List Term))):Option Int:=
 (zY a1 0).bind (Fl.go some fun v15=>
 some (-1))
noncomputable def zJ (a1:(List (List Term))):Option Bool:=
 (zR a1).bind fun x2=>
 some (decide (x2≥0))
noncomputable def wC (a1:(List ByteArray)) (a2:ByteArray) (s7:Int):Option (Lp Int (Fl Int Unit)):=
 if decide (s7< (a1.length:Int)) then
  ((idx a1 s7).bind fun x9=>
  if seq a2 x9 then
   (some (Lp.done (Fl.ret s7)))
  else
   (some (Lp.go (w64 (s7+1)))))
 else
  (some (Lp.done (Fl.nxt ())))
noncomputable def wK (a1:(List ByteArray)) (a2:ByteArray):Int→Option (Fl Int Unit):=loop (wC a1 a2)
noncomputable def wL (a1:(List ByteArray)) (a2:ByteArray):Option Int:=
 (wK a1 a2 0).bind (Fl.go some fun v12=>
 some (-1))
noncomputable def yZ (a1:(List ByteArray)) (a2:ByteArray):Option Bool:=
 (wL a1 a2).bind fun x3=>
 some (decide (x3≥0))
noncomputable def zC6:Option Version:=
 some ({A:=1000,B:=0,C:=0}:Version)
noncomputable def vE (a1:Int):Option Bool:=
 some (a1 !=a1)
noncomputable def yV (a1:Int) (a2:Int):Option Int:=
 (vE a1).bind fun x3=>
 (vE a2).bind fun x5=>
 if x3 then
  (if x5 then
   (some 0)
  else
   (some (-1)))
 else
  (if x5 then
   (some 1)
  else
   (if decide (a1<a2) then
    (some (-1))
   else
    (if decide (a1>a2) then
     (some 1)
    else
     (some 0))))
noncomputable def zBe (a1:(List Int)) (s6:Int):Option (Lp Int (Fl Int Unit)):=
 if decide (s6< (a1.length:Int)) then
  ((idx a1 s6).bind fun x8=>
  if x8 !=0 then
   (some (Lp.done (Fl.ret x8)))
  else
   (some (Lp.go (w64 (s6+1)))))
 else
  (some (Lp.done (Fl.nxt ())))
noncomputable def zBG (a1:(List Int)):Int→Option (Fl Int Unit):=loop (zBe a1)
noncomputable def zCe (a1:(List Int)):Option Int:=
 (zBG a1 0).bind (Fl.go some fun v11=>
 some 0)
noncomputable def zA6 (a1:Version) (a2:Version):Option Int:=
 (yV a1.A a2.A).bind fun x3=>
 (yV a1.B a2.B).bind fun x5=>
 (yV a1.C a2.C).bind fun x7=>
 (zCe [x3,x5,x7]).bind fun x9=>
 some x9
noncomputable def jB (a1:Term):Option Int:=
 (xQ a1.Name).bind fun x2=>
 if x2 !=0 then
  (some x2)
 else
  ((yY a1.Low).bind fun x5=>
  if x5 !=0 then
   (some x5)
  else
   ((zC6).bind fun x8=>
   (if !(a1.High.A==x8.A&&(a1.High.B==x8.B&&(a1.High.C==x8.C&&true))) then
     ((yY a1.High).bind fun x11=>
     some (x11 !=0))
    else
     (some false)).bind fun v13=>
   if v13 then
    (some 3)
   else
    ((zA6 a1.Low a1.High).bind fun x15=>
    if decide (x15≥0) then
     (some 1)
    else
     (some 0))))
noncomputable def uG (a1:(List Term)) (s8:Int):Option (Lp Int (Fl Int Unit)):=
 if decide (s8< (a1.length:Int)) then
  ((idx a1 s8).bind fun x10=>
  (jB x10).bind fun x12=>
  if x12 !=0 then
   (some (Lp.done (Fl.ret x12)))
  else
   (some (Lp.go (w64 (s8+1)))))
 else
  (some (Lp.done (Fl.nxt ())))
noncomputable def tF (a1:(List Term)):Int→Option (Fl Int Unit):=loop (uG a1)
noncomputable def xS (a1:(List Term)):Option Int:=
 (tF a1 0).bind (Fl.go some fun v15=>
 some 0)
noncomputable def tO (a1:Pack) (s54:Int):Option (Lp Int (Fl Int Unit)):=
 if decide (s54< (a1.Needs.length:Int)) then
  ((idx a1.Needs s54).bind fun x56=>
  if (x56.length:Int)==0 then
   (some (Lp.done (Fl.ret 1)))
  else
   ((xS x56).bind fun x59=>
   if x59 !=0 then
    (some (Lp.done (Fl.ret x59)))
   else
    (some (Lp.go (w64 (s54+1))))))
 else
  (some (Lp.done (Fl.nxt ())))
noncomputable def vS (a1:Pack):Int→Option (Fl Int Unit):=loop (tO a1)
noncomputable def tC (a1:Pack) (s32:Int):Option (Lp Int (Fl Int Unit)):=
 if decide (s32< (a1.Provides.length:Int)) then
  ((idx a1.Provides s32).bind fun x34=>
  (xQ x34).bind fun x36=>
  if x36 !=0 then
   (some (Lp.done (Fl.ret x36)))
  else
   ((if seq x34 a1.Name then
      (some true)
     else
      ((zEW a1.Provides 0 s32).bind fun x40=>
      (yZ x40 x34).bind fun x42=>
      some x42)).bind fun v44=>
   if v44 then
    (some (Lp.done (Fl.ret 6)))
   else
    (some (Lp.go (w64 (s32+1))))))
 else
  (some (Lp.done (Fl.nxt ())))
noncomputable def vX (a1:Pack):Int→Option (Fl Int Unit):=loop (tC a1)
noncomputable def tZ (a1:Pack):Option Int:=
 (xQ a1.Name).bind fun x2=>
 (yY a1.Version).bind fun x4=>
 (xA [x2,x4]).bind fun x6=>
 if x6 !=0 then
  (some x6)
 else
  ((yK a1.Size 1 200).bind fun x9=>
  if !x9 then
   (some 3)
  else
   ((if decide ((a1.Provides.length:Int)>4) then
      (some true)
     else
      (if decide ((a1.Needs.length:Int)>4) then
       (some true)
      else
       (if decide ((a1.Bars.length:Int)>4) then
        (some true)
       else
        ((zJ a1.Needs).bind fun x15=>
        some x15)))).bind fun v17=>
   if v17 then
    (some 2)
   else
    ((vX a1 0).bind (Fl.go some fun v46=>
    (vS a1 0).bind (Fl.go some fun v62=>
    (xS a1.Bars).bind fun x63=>
    some x63)))))
noncomputable def zBJ (a1:Pack) (a2:ByteArray) (a3:Version):Option Bool:=
 if seq a1.Name a2 then
  (some (a1.Version.A==a3.A&&(a1.Version.B==a3.B&&(a1.Version.C==a3.C&&true))))
 else
  (some false)
noncomputable def yI (a1:(List Pack)) (a2:ByteArray) (a3:Version) (s10:Int):Option (Lp Int (Fl Int Unit)):=
 if decide (s10< (a1.length:Int)) then
  ((idx a1 s10).bind fun x12=>
  (zBJ x12 a2 a3).bind fun x14=>
  if x14 then
   (some (Lp.done (Fl.ret s10)))
  else
   (some (Lp.go (w64 (s10+1)))))
 else
  (some (Lp.done (Fl.nxt ())))
noncomputable def yJ (a1:(List Pack)) (a2:ByteArray) (a3:Version):Int→Option (Fl Int Unit):=loop (yI a1 a2 a3)
noncomputable def yD (a1:(List Pack)) (a2:ByteArray) (a3:Version):Option Int:=
 (yJ a1 a2 a3 0).bind (Fl.go some fun v17=>
 some (-1))
noncomputable def zBT (a1:(List Pack)) (a2:ByteArray) (a3:Version):Option Int:=
 (yD a1 a2 a3).bind fun x4=>
 some x4
noncomputable def wZ (a1:(List Pack)) (s14:Int):Option (Lp Int (Fl Int Unit)):=
 if decide (s14< (a1.length:Int)) then
  ((idx a1 s14).bind fun x16=>
  (tZ x16).bind fun x18=>
  if x18 !=0 then
   (some (Lp.done (Fl.ret x18)))
  else
   ((zEW a1 0 s14).bind fun x21=>
   (zBT x21 x16.Name x16.Version).bind fun x23=>
   if decide (x23≥0) then
    (some (Lp.done (Fl.ret 6)))
   else
    (some (Lp.go (w64 (s14+1))))))
 else
  (some (Lp.done (Fl.nxt ())))
noncomputable def vL (a1:(List Pack)):Int→Option (Fl Int Unit):=loop (wZ a1)
noncomputable def xI (a1:(List Pack)):Option Int:=
 if decide ((a1.length:Int)>24) then
  (some 2)
 else
  ((vL a1 0).bind (Fl.go some fun v26=>
  some 0))
noncomputable def zBC (a1:ByteArray) (s15:Int):Option (Lp Int (Fl Int Unit)):=
 if decide (s15< (a1.size:Int)) then
  ((bidx a1 s15).bind fun x17=>
  (yR x17).bind fun x19=>
  (if !x19 then
    (if x17 !=46 then
     (if x17 !=45 then
      (some (x17 !=47))
     else
      (some false))
    else
     (some false))
   else
    (some false)).bind fun v24=>
  if v24 then
   (some (Lp.done (Fl.ret 5)))
  else
   (some (Lp.go (w64 (s15+1)))))
 else
  (some (Lp.done (Fl.nxt ())))
noncomputable def vR (a1:ByteArray):Int→Option (Fl Int Unit):=loop (zBC a1)
noncomputable def jI (a1:ByteArray):Option Int:=
 (if decide ((a1.size:Int)<1) then
   (some true)
  else
   (some (decide ((a1.size:Int)>40)))).bind fun v3=>
 if v3 then
  (some 5)
 else
  ((vR a1 0).bind (Fl.go some fun v26=>
  some 0))
noncomputable def zCf (a1:zI) (s5:(Int×Int)):Option (Lp (Int×Int) Int):=
 if decide (s5.2< (a1.Files.length:Int)) then
  ((idx a1.Files s5.2).bind fun x7=>
  some (Lp.go (w64 (s5.1+(x7.Data.length:Int)),w64 (s5.2+1))))
 else
  (some (Lp.done s5.1))
noncomputable def zAb (a1:zI):(Int×Int)→Option Int:=loop (zCf a1)
noncomputable def zAi (a1:zI):Option Int:=
 (zAb a1 (0,0)).bind fun v9=>
 some v9
noncomputable def zBD (a1:zI) (s25:Int):Option (Lp Int (Fl Int Unit)):=
 if decide (s25< (a1.Files.length:Int)) then
  ((idx a1.Files s25).bind fun x27=>
  (jI x27.Path).bind fun x29=>
  if x29 !=0 then
   (some (Lp.done (Fl.ret x29)))
  else
   ((if decide (s25>0) then
      ((idx a1.Files (w64 (s25-1))).bind fun x33=>
      some (slt x27.Path x33.Path||seq x27.Path x33.Path))
     else
      (some false)).bind fun v35=>
   if v35 then
    (some (Lp.done (Fl.ret 1)))
   else
    (if decide ((x27.Data.length:Int)>4000) then
     (some (Lp.done (Fl.ret 2)))
    else
     (some (Lp.go (w64 (s25+1)))))))
 else
  (some (Lp.done (Fl.nxt ())))
noncomputable def uD (a1:zI):Int→Option (Fl Int Unit):=loop (zBD a1)
noncomputable def jK (a1:zI):Option Int:=
 (yK a1.Budget 0 20000).bind fun x2=>
 (if !x2 then
   (some true)
  else
   ((yK a1.Writes 0 1000000000).bind fun x5=>
   if !x5 then
    (some true)
   else
    ((yK a1.Stop (-1) 1000000000).bind fun x8=>
    some (!x8)))).bind fun v10=>
 if v10 then
  (some 3)
 else
  (if decide ((a1.Files.length:Int)>120) then
   (some 2)
  else
   ((uD a1 0).bind (Fl.go some fun v38=>
   (zAi a1).bind fun x39=>
   if decide (x39>a1.Budget) then
    (some 8)
   else
    (some 0))))
noncomputable def vM (a1:(List Pack)) (a2:zI):Option Int:=
 (xI a1).bind fun x3=>
 (jK a2).bind fun x5=>
 (xA [x3,x5]).bind fun x7=>
 some x7
noncomputable def uP (a1:Int) (a2:(List Pack)):Option Bool:=
 (yK a1 0 (w64 ((a2.length:Int)-1))).bind fun x3=>
 some (!x3)
noncomputable def yC (a1:(List Int)) (a2:(List Pack)) (s9:Int):Option (Lp Int (Fl Int Unit)):=
 if decide (s9< (a1.length:Int)) then
  ((idx a1 s9).bind fun x11=>
  (uP x11 a2).bind fun x13=>
  if x13 then
   (some (Lp.done (Fl.ret s9)))
  else
   (some (Lp.go (w64 (s9+1)))))
 else
  (some (Lp.done (Fl.nxt ())))
noncomputable def yG (a1:(List Int)) (a2:(List Pack)):Int→Option (Fl Int Unit):=loop (yC a1 a2)
noncomputable def yB (a1:(List Int)) (a2:(List Pack)):Option Int:=
 (yG a1 a2 0).bind (Fl.go some fun v16=>
 some (-1))
noncomputable def zS (a1:(List Int)) (a2:(List Pack)):Option Bool:=
 (yB a1 a2).bind fun x3=>
 some (decide (x3≥0))
noncomputable def jC (a1:(List Pack)) (a2:(List Int)):Option Bool:=
 (zS a2 a1).bind fun x3=>
 some (!x3)
noncomputable def wB (a1:(List Pack)) (a2:(List Int)) (s12:Int):Option (Lp Int (Fl Int Unit)):=
 if decide (s12< (a2.length:Int)) then
  ((idx a2 s12).bind fun x14=>
  (idx a2 (w64 (s12-1))).bind fun x16=>
  if decide (x14≤x16) then
   (some (Lp.done (Fl.ret 1)))
  else
   (some (Lp.go (w64 (s12+1)))))
 else
  (some (Lp.done (Fl.nxt ())))
noncomputable def uQ (a1:(List Pack)) (a2:(List Int)):Int→Option (Fl Int Unit):=loop (wB a1 a2)
noncomputable def kG (a1:(List Pack)) (a2:(List Int)):Option Int:=
 (xI a1).bind fun x3=>
 if x3 !=0 then
  (some x3)
 else
  ((uQ a1 a2 1).bind (Fl.go some fun v19=>
  (jC a1 a2).bind fun x20=>
  if !x20 then
   (some 1)
  else
   (some 0)))
noncomputable def yP (a1:ByteArray) (a2:ByteArray):Option Bool:=
 if decide ((a1.size:Int)≥(a2.size:Int)) then
  ((zHd a1 0 (a2.size:Int)).bind fun x4=>
  some (seq x4 a2))
 else
  (some false)
noncomputable def strings_HasPrefix (a1:ByteArray) (a2:ByteArray):Option Bool:=
 (yP a1 a2).bind fun x3=>
 some x3
noncomputable def zBs (a1:zI) (a2:ByteArray) (s12:((List ByteArray)×Int)):Option (Lp ((List ByteArray)×Int) (List ByteArray)):=
 if decide (s12.2< (a1.Files.length:Int)) then
  ((idx a1.Files s12.2).bind fun x14=>
  (strings_HasPrefix x14.Path a2).bind fun x16=>
  (if x16 then
    ((app 16 s12.1 [x14.Path]).bind fun x19=>
    some x19)
   else
    (some s12.1)).bind fun v21=>
  some (Lp.go (v21,w64 (s12.2+1))))
 else
  (some (Lp.done s12.1))
noncomputable def vI (a1:zI) (a2:ByteArray):((List ByteArray)×Int)→Option (List ByteArray):=loop (zBs a1 a2)
noncomputable def uM (a1:zI) (a2:ByteArray):Option (List ByteArray):=
 (vI a1 a2 (([]:List ByteArray),0)).bind fun v22=>
 some v22
noncomputable def zAj (a1:ByteArray) (s16:(Int×Int)):Option (Lp (Int×Int) (Fl Int Int)):=
 if decide (s16.2< (a1.size:Int)) then
  ((bidx a1 s16.2).bind fun x18=>
  (if decide (x18<48) then
    (some true)
   else
    ((bidx a1 s16.2).bind fun x21=>
    some (decide (x21>57)))).bind fun v23=>
  if v23 then
   (some (Lp.done (Fl.ret (-1))))
  else
   ((bidx a1 s16.2).bind fun x25=>
   some (Lp.go (w64 ((w64 (10*s16.1))+(w64 (IntKind.u8.wrap (x25-48)))),w64 (s16.2+1)))))
 else
  (some (Lp.done (Fl.nxt s16.1)))
noncomputable def zBd (a1:ByteArray):(Int×Int)→Option (Fl Int Int):=loop (zAj a1)
noncomputable def zB0 (a1:ByteArray) (a2:Int):Option Int:=
 (if seq a1 (bs []) then
   (some true)
  else
   (some (decide ((a1.size:Int)>a2)))).bind fun v4=>
 if v4 then
  (some (-1))
 else
  ((zBd a1 (0,0)).bind (Fl.go some fun v27=>
  some v27))
noncomputable def tV (x2:(List ByteArray)) (s17:((List Int)×Int)):Option (Lp ((List Int)×Int) (List Int)):=
 if decide (s17.2< (x2.length:Int)) then
  ((idx x2 s17.2).bind fun x19=>
  (zHd x19 4 (x19.size:Int)).bind fun x21=>
  (zB0 x21 6).bind fun x23=>
  (if decide (x23≥1) then
    (some ((x19.size:Int)==10))
   else
    (some false)).bind fun v26=>
  (if v26 then
    ((app 8 s17.1 [x23]).bind fun x28=>
    some x28)
   else
    (some s17.1)).bind fun v30=>
  some (Lp.go (v30,w64 (s17.2+1))))
 else
  (some (Lp.done s17.1))
noncomputable def jT (x2:(List ByteArray)):((List Int)×Int)→Option (List Int):=loop (tV x2)
noncomputable def jA (a1:zI):Option (List Int):=
 (uM a1 (bs [103,101,110,47])).bind fun x2=>
 (jT x2 (([]:List Int),0)).bind fun v31=>
 some v31
noncomputable def uV (x2:(List Int)) (s7:(Int×Int)):Option (Lp (Int×Int) Int):=
 if decide (s7.2< (x2.length:Int)) then
  ((idx x2 s7.2).bind fun x9=>
  some (Lp.go ((if (w64 (x9+1))>s7.1 then (w64 (x9+1)) else s7.1),w64 (s7.2+1))))
 else
  (some (Lp.done s7.1))
noncomputable def jM (x2:(List Int)):(Int×Int)→Option Int:=loop (uV x2)
noncomputable def wW (a1:zI):Option Int:=
 (jA a1).bind fun x2=>
 (jM x2 (1,0)).bind fun v11=>
 some v11
noncomputable def wP (a1:(List Int)):Option (List Int):=
 (app 8 ([]:List Int) a1).bind fun x3=>
 some x3
noncomputable def wU (a1 a2:Int):Option ByteArray:=if a2=10∧ -9223372036854775808≤a1∧a1≤9223372036854775807 then some ⟨(Lib.itoa a1).toArray⟩ else none
noncomputable def uN (a1:Int):Option ByteArray:=
 (wU a1 10).bind fun x2=>
 some x2
noncomputable def xH (a1:Version):Option ByteArray:=
 (uN a1.A).bind fun x2=>
 (cat x2 (bs [46])).bind fun x4=>
 (uN a1.B).bind fun x6=>
 (cat x4 x6).bind fun x8=>
 (cat x8 (bs [46])).bind fun x10=>
 (uN a1.C).bind fun x12=>
 (cat x10 x12).bind fun x14=>
 some x14
noncomputable def wV (a1:Pack):Option ByteArray:=
 (cat (bs [112,107,103,47]) a1.Name).bind fun x2=>
 (cat x2 (bs [45])).bind fun x4=>
 (xH a1.Version).bind fun x6=>
 (cat x4 x6).bind fun x8=>
 some x8
noncomputable def bytealg_CompareString (a1 a2:ByteArray):Option Int:=some (zK4 a1 a2)
noncomputable def strings_Compare (a1:ByteArray) (a2:ByteArray):Option Int:=
 (bytealg_CompareString a1 a2).bind fun x3=>
 some x3
noncomputable def xZ (a1:File) (a2:ByteArray):Option Int:=
 (strings_Compare a1.Path a2).bind fun x3=>
 some x3
noncomputable def yA (a1:(List File)) (a2:ByteArray) (s9:(Int×Int)):Option (Lp (Int×Int) Int):=
 if decide (s9.1<s9.2) then
  ((idx a1 (w64 ((IntKind.u64.wrap (w64 (s9.1+s9.2))).fdiv (2^(min (1:Int).toNat 64))))).bind fun x11=>
  (xZ x11 a2).bind fun x13=>
  if decide (x13<0) then
   (some (Lp.go (w64 ((w64 ((IntKind.u64.wrap (w64 (s9.1+s9.2))).fdiv (2^(min (1:Int).toNat 64))))+1),s9.2)))
  else
   (some (Lp.go (s9.1,w64 ((IntKind.u64.wrap (w64 (s9.1+s9.2))).fdiv (2^(min (1:Int).toNat 64)))))))
 else
  (some (Lp.done s9.1))
noncomputable def zO (a1:(List File)) (a2:ByteArray):(Int×Int)→Option Int:=loop (yA a1 a2)
noncomputable def zC (a1:(List File)) (a2:ByteArray):Option (Int×Bool):=
 (zO a1 a2 (0,(a1.length:Int))).bind fun v16=>
 if decide (v16< (a1.length:Int)) then
  ((idx a1 v16).bind fun x18=>
  (xZ x18 a2).bind fun x20=>
  some (v16,x20==0))
 else
  (some (v16,false))
noncomputable def uH (a1:zI) (a2:ByteArray):Option (Int×Bool):=
 (zC a1.Files a2).bind fun x3=>
 some (x3.1,x3.2)
noncomputable def yS (a1:zI) (a2:ByteArray):Option ((List Int)×Bool):=
 (uH a1 a2).bind fun x3=>
 if !x3.2 then
  (some (([]:List Int),false))
 else
  ((idx a1.Files x3.1).bind fun x6=>
  some (x6.Data,true))
noncomputable def uL (a1:Pack) (s13:(Int×(List Int)×Int)):Option (Lp (Int×(List Int)×Int) (List Int)):=
 if decide (s13.2.2<a1.Size) then
  ((app 1 s13.2.1 [s13.1]).bind fun x15=>
  some (Lp.go (IntKind.u8.wrap ((IntKind.u8.wrap (31*s13.1))+7),x15,w64 (s13.2.2+1))))
 else
  (some (Lp.done s13.2.1))
noncomputable def tH (a1:Pack):(Int×(List Int)×Int)→Option (List Int):=loop (uL a1)
noncomputable def uK (a1:Pack) (s5:(Int×Int)):Option (Lp (Int×Int) Int):=
 if decide (s5.2< (a1.Name.size:Int)) then
  ((bidx a1.Name s5.2).bind fun x7=>
  some (Lp.go (IntKind.u8.wrap (s5.1+x7),w64 (s5.2+1))))
 else
  (some (Lp.done s5.1))
noncomputable def tT (a1:Pack):(Int×Int)→Option Int:=loop (uK a1)
noncomputable def wF (a1:Pack):Option (List Int):=
 (tT a1 (IntKind.u8.wrap ((IntKind.u8.wrap ((IntKind.u8.wrap (a1.Version.A))+(IntKind.u8.wrap (a1.Version.B))))+(IntKind.u8.wrap (a1.Version.C))),0)).bind fun v9=>
 (tH a1 (v9,([]:List Int),0)).bind fun v17=>
 some v17
noncomputable def wO (a1:(List Int)) (a2:(List Int)) (s10:Int):Option (Lp Int (Fl Bool Unit)):=
 if decide (s10< (a1.length:Int)) then
  ((idx a1 s10).bind fun x12=>
  (idx a2 s10).bind fun x14=>
  if x12 !=x14 then
   (some (Lp.done (Fl.ret false)))
  else
   (some (Lp.go (w64 (s10+1)))))
 else
  (some (Lp.done (Fl.nxt ())))
noncomputable def wY (a1:(List Int)) (a2:(List Int)):Int→Option (Fl Bool Unit):=loop (wO a1 a2)
noncomputable def wE (a1:(List Int)) (a2:(List Int)):Option Bool:=
 if (a1.length:Int) !=(a2.length:Int) then
  (some false)
 else
  ((wY a1 a2 0).bind (Fl.go some fun v17=>
  some true))
noncomputable def tX (a1:Int) (a2:zI) (a3:(List Pack)):Option Bool:=
 (idx a3 a1).bind fun x4=>
 (wV x4).bind fun x6=>
 (yS a2 x6).bind fun x8=>
 if !x8.2 then
  (some true)
 else
  ((idx a3 a1).bind fun x11=>
  (wF x11).bind fun x13=>
  (wE x8.1 x13).bind fun x15=>
  some (!x15))
noncomputable def yF (a1:Int) (a2:zI) (a3:(List Pack)):Option Bool:=
 (tX a1 a2 a3).bind fun x4=>
 some (!x4)
noncomputable def zM (a1:(List Int)) (a2:zI) (a3:(List Pack)) (s10:Int):Option (Lp Int (Fl Int Unit)):=
 if decide (s10< (a1.length:Int)) then
  ((idx a1 s10).bind fun x12=>
  (yF x12 a2 a3).bind fun x14=>
  if x14 then
   (some (Lp.done (Fl.ret s10)))
  else
   (some (Lp.go (w64 (s10+1)))))
 else
  (some (Lp.done (Fl.nxt ())))
noncomputable def zZ (a1:(List Int)) (a2:zI) (a3:(List Pack)):Int→Option (Fl Int Unit):=loop (zM a1 a2 a3)
noncomputable def zQ (a1:(List Int)) (a2:zI) (a3:(List Pack)):Option Int:=
 (zZ a1 a2 a3 0).bind (Fl.go some fun v17=>
 some (-1))
noncomputable def zL (a2:zI) (a3:(List Pack)) (s16:((List Int)×Int×Int)):Option (Lp ((List Int)×Int×Int) ((List Int)×Int)):=
 if decide (s16.2.2< (s16.1.length:Int)) then
  ((idx s16.1 s16.2.2).bind fun x18=>
  (yF x18 a2 a3).bind fun x20=>
  (if !x20 then
    ((idx s16.1 s16.2.1).bind fun x23=>
    some (s16.1.set s16.2.1.toNat x18,w64 (s16.2.1+1)))
   else
    (some (s16.1,s16.2.1))).bind fun v25=>
  some (Lp.go (v25.1,v25.2,w64 (s16.2.2+1))))
 else
  (some (Lp.done (s16.1,s16.2.1)))
noncomputable def zX (a2:zI) (a3:(List Pack)):((List Int)×Int×Int)→Option ((List Int)×Int):=loop (zL a2 a3)
noncomputable def zK (a1:(List Int)) (a2:zI) (a3:(List Pack)):Option (List Int):=
 (zQ a1 a2 a3).bind fun x4=>
 if x4==(-1) then
  (some a1)
 else
  ((zX a2 a3 (a1,x4,w64 (x4+1))).bind fun v26=>
  (zEW v26.1 v26.2 (v26.1.length:Int)).bind fun x27=>
  (zKn v26.1 v26.2 x27.length 0).bind fun x29=>
  (zEW x29 0 v26.2).bind fun x31=>
  some x31)
noncomputable def xB (a1:(List Int)) (a2:zI) (a3:(List Pack)):Option (List Int):=
 (wP a1).bind fun x4=>
 (zK x4 a2 a3).bind fun x6=>
 some x6
noncomputable def zAh (a1:(List Pack)) (a2:zI) (a3:(List Int)):Option (List Int):=
 (xB a3 a2 a1).bind fun x4=>
 some x4
noncomputable def strings_Repeat (a1:ByteArray) (a2:Int):Option ByteArray:=if 0≤a2∧a2≤9223372036854775807∧a1.size*a2.toNat≤140737488355328 then some ⟨(Lib.repeatL a1.data.toList a2.toNat).toArray⟩ else none
noncomputable def zAz (a1:Int):Option ByteArray:=
 (uN a1).bind fun x2=>
 (strings_Repeat (bs [48]) (w64 (6-(x2.size:Int)))).bind fun x4=>
 (cat (bs [103,101,110,47]) x4).bind fun x6=>
 (cat x6 x2).bind fun x8=>
 some x8
noncomputable def strings_Join (a1:List ByteArray) (a2:ByteArray):Option ByteArray:=if a1.length≤140737488355328∧(Lib.join (a1.map (·.data.toList)) a2.data.toList).length ≤140737488355328 then some ⟨(Lib.join (a1.map (·.data.toList)) a2.data.toList).toArray⟩ else none
noncomputable def zB3 (a1:(List ByteArray)):Option ByteArray:=
 (strings_Join a1 (bs [32])).bind fun x2=>
 some x2
noncomputable def kT (a1:(List Pack)) (a2:(List Int)) (s18:(ByteArray×Int)):Option (Lp (ByteArray×Int) ByteArray):=
 if decide (s18.2< (a2.length:Int)) then
  ((idx a2 s18.2).bind fun x20=>
  (idx a1 x20).bind fun x22=>
  (idx a1 x20).bind fun x24=>
  (xH x24.Version).bind fun x26=>
  (zB3 [x22.Name,x26]).bind fun x28=>
  (cat x28 (bs [10])).bind fun x30=>
  (cat s18.1 x30).bind fun x32=>
  some (Lp.go (x32,w64 (s18.2+1))))
 else
  (some (Lp.done s18.1))
noncomputable def zAo (a1:(List Pack)) (a2:(List Int)):(ByteArray×Int)→Option ByteArray:=loop (kT a1 a2)
noncomputable def zA0 (a1:(List Pack)) (a2:(List Int)):Option ByteArray:=
 (zAo a1 a2 (bs [],0)).bind fun v34=>
 some v34
noncomputable def zAl (a1:(List Pack)) (a2:zI) (a3:(List Int)) (x4:(List Int)) (s19:((List File)×Int)):Option (Lp ((List File)×Int) (List File)):=
 if decide (s19.2< (x4.length:Int)) then
  ((idx x4 s19.2).bind fun x21=>
  (idx a1 x21).bind fun x23=>
  (wV x23).bind fun x25=>
  (idx a1 x21).bind fun x27=>
  (wF x27).bind fun x29=>
  (app 40 s19.1 [({Path:=x25,Data:=x29}:File)]).bind fun x31=>
  some (Lp.go (x31,w64 (s19.2+1))))
 else
  (some (Lp.done s19.1))
noncomputable def zAY (a1:(List Pack)) (a2:zI) (a3:(List Int)) (x4:(List Int)):((List File)×Int)→Option (List File):=loop (zAl a1 a2 a3 x4)
noncomputable def zBp (a1:(List Pack)) (a2:zI) (a3:(List Int)):Option (List File):=
 (zAh a1 a2 a3).bind fun x4=>
 (zAY a1 a2 a3 x4 (([]:List File),0)).bind fun v33=>
 (wW a2).bind fun x34=>
 (zAz x34).bind fun x36=>
 (zA0 a1 a3).bind fun x38=>
 (uN x34).bind fun x40=>
 (app 40 v33 [({Path:=x36,Data:=s2b x38}:File),({Path:=bs [99,117,114],Data:=s2b x40}:File)]).bind fun x42=>
 some x42
noncomputable def jG (a1:zI) (a2:File):Option Int:=
 (yS a1 a2.Path).bind fun x3=>
 some (w64 ((a2.Data.length:Int)-(x3.1.length:Int)))
noncomputable def uS (a2:zI) (x17:(List File)) (s24:(Int×Int)):Option (Lp (Int×Int) Int):=
 if decide (s24.2< (x17.length:Int)) then
  ((idx x17 s24.2).bind fun x26=>
  (jG a2 x26).bind fun x28=>
  some (Lp.go (w64 (s24.1+x28),w64 (s24.2+1))))
 else
  (some (Lp.done s24.1))
noncomputable def vY (a2:zI) (x17:(List File)):(Int×Int)→Option Int:=loop (uS a2 x17)
noncomputable def vQ (a1:(List Pack)) (a2:zI) (a3:(List Int)):Option yL:=
 (vM a1 a2).bind fun x4=>
 (kG a1 a3).bind fun x6=>
 (xA [x4,x6]).bind fun x8=>
 (if x8==0 then
   ((wW a2).bind fun x11=>
   some (decide (x11>999999)))
  else
   (some false)).bind fun v13=>
 (if v13 then
   (some 2)
  else
   (some x8)).bind fun v15=>
 if v15 !=0 then
  (some ({Code:=v15,Value:=0}:yL))
 else
  ((zBp a1 a2 a3).bind fun x17=>
  (vY a2 x17 (0,0)).bind fun v30=>
  some ({Code:=0,Value:=v30}:yL))
noncomputable def vJ (a1:yL) (a2:yL):Option Bool:=
 if a1.Code !=a2.Code then
  (some false)
 else
  (if a1.Value !=a2.Value then
   (some false)
  else
   (some true))
noncomputable def xL (a1:Version) (a2:Version):Option Bool:=
 if a1.A !=a2.A then
  (some false)
 else
  (if a1.B !=a2.B then
   (some false)
  else
   (if a1.C !=a2.C then
    (some false)
   else
    (some true)))
noncomputable def zAa (a1:(List ByteArray)) (a2:(List ByteArray)) (s10:Int):Option (Lp Int (Fl Bool Unit)):=
 if decide (s10< (a1.length:Int)) then
  ((idx a1 s10).bind fun x12=>
  (idx a2 s10).bind fun x14=>
  if !(seq x12 x14) then
   (some (Lp.done (Fl.ret false)))
  else
   (some (Lp.go (w64 (s10+1)))))
 else
  (some (Lp.done (Fl.nxt ())))
noncomputable def jN (a1:(List ByteArray)) (a2:(List ByteArray)):Int→Option (Fl Bool Unit):=loop (zAa a1 a2)
noncomputable def jF (a1:(List ByteArray)) (a2:(List ByteArray)):Option Bool:=
 if (a1.length:Int) !=(a2.length:Int) then
  (some false)
 else
  ((jN a1 a2 0).bind (Fl.go some fun v17=>
  some true))
noncomputable def zBr (a1:Term) (a2:Term):Option Bool:=
 if !(seq a1.Name a2.Name) then
  (some false)
 else
  ((xL a1.Low a2.Low).bind fun x4=>
  if !x4 then
   (some false)
  else
   ((xL a1.High a2.High).bind fun x7=>
   if !x7 then
    (some false)
   else
    (some true)))
noncomputable def zBg (a1:(List Term)) (a2:(List Term)) (s12:Int):Option (Lp Int (Fl Bool Unit)):=
 if decide (s12< (a1.length:Int)) then
  ((idx a1 s12).bind fun x14=>
  (idx a2 s12).bind fun x16=>
  (zBr x14 x16).bind fun x18=>
  if !x18 then
   (some (Lp.done (Fl.ret false)))
  else
   (some (Lp.go (w64 (s12+1)))))
 else
  (some (Lp.done (Fl.nxt ())))
noncomputable def zAL (a1:(List Term)) (a2:(List Term)):Int→Option (Fl Bool Unit):=loop (zBg a1 a2)
noncomputable def tQ (a1:(List Term)) (a2:(List Term)):Option Bool:=
 if (a1.length:Int) !=(a2.length:Int) then
  (some false)
 else
  ((zAL a1 a2 0).bind (Fl.go some fun v21=>
  some true))
noncomputable def zAR (a1:(List (List Term))) (a2:(List (List Term))) (s12:Int):Option (Lp Int (Fl Bool Unit)):=
 if decide (s12< (a1.length:Int)) then
  ((idx a1 s12).bind fun x14=>
  (idx a2 s12).bind fun x16=>
  (tQ x14 x16).bind fun x18=>
  if !x18 then
   (some (Lp.done (Fl.ret false)))
  else
   (some (Lp.go (w64 (s12+1)))))
 else
  (some (Lp.done (Fl.nxt ())))
noncomputable def kK (a1:(List (List Term))) (a2:(List (List Term))):Int→Option (Fl Bool Unit):=loop (zAR a1 a2)
noncomputable def jX (a1:(List (List Term))) (a2:(List (List Term))):Option Bool:=
 if (a1.length:Int) !=(a2.length:Int) then
  (some false)
 else
  ((kK a1 a2 0).bind (Fl.go some fun v21=>
  some true))
noncomputable def zBu (a1:Pack) (a2:Pack):Option Bool:=
 if !(seq a1.Name a2.Name) then
  (some false)
 else
  ((xL a1.Version a2.Version).bind fun x4=>
  if !x4 then
   (some false)
  else
   (if a1.Size !=a2.Size then
    (some false)
   else
    ((jF a1.Provides a2.Provides).bind fun x8=>
    if !x8 then
     (some false)
    else
     ((jX a1.Needs a2.Needs).bind fun x11=>
     if !x11 then
      (some false)
     else
      ((tQ a1.Bars a2.Bars).bind fun x14=>
      if !x14 then
       (some false)
      else
       (some true))))))
noncomputable def zBf (a1:(List Pack)) (a2:(List Pack)) (s12:Int):Option (Lp Int (Fl Bool Unit)):=
 if decide (s12< (a1.length:Int)) then
  ((idx a1 s12).bind fun x14=>
  (idx a2 s12).bind fun x16=>
  (zBu x14 x16).bind fun x18=>
  if !x18 then
   (some (Lp.done (Fl.ret false)))
  else
   (some (Lp.go (w64 (s12+1)))))
 else
  (some (Lp.done (Fl.nxt ())))
noncomputable def zAI (a1:(List Pack)) (a2:(List Pack)):Int→Option (Fl Bool Unit):=loop (zBf a1 a2)
noncomputable def zAq (a1:(List Pack)) (a2:(List Pack)):Option Bool:=
 if (a1.length:Int) !=(a2.length:Int) then
  (some false)
 else
  ((zAI a1 a2 0).bind (Fl.go some fun v21=>
  some true))
noncomputable def zBj (a1:(List Int)) (a2:(List Int)) (s10:Int):Option (Lp Int (Fl Bool Unit)):=
 if decide (s10< (a1.length:Int)) then
  ((idx a1 s10).bind fun x12=>
  (idx a2 s10).bind fun x14=>
  if x12 !=x14 then
   (some (Lp.done (Fl.ret false)))
  else
   (some (Lp.go (w64 (s10+1)))))
 else
  (some (Lp.done (Fl.nxt ())))
noncomputable def zAw (a1:(List Int)) (a2:(List Int)):Int→Option (Fl Bool Unit):=loop (zBj a1 a2)
noncomputable def zA1 (a1:(List Int)) (a2:(List Int)):Option Bool:=
 if (a1.length:Int) !=(a2.length:Int) then
  (some false)
 else
  ((zAw a1 a2 0).bind (Fl.go some fun v17=>
  some true))
noncomputable def zB1 (a1:File) (a2:File):Option Bool:=
 if !(seq a1.Path a2.Path) then
  (some false)
 else
  ((zA1 a1.Data a2.Data).bind fun x4=>
  if !x4 then
   (some false)
  else
   (some true))
noncomputable def zBm (a1:(List File)) (a2:(List File)) (s12:Int):Option (Lp Int (Fl Bool Unit)):=
 if decide (s12< (a1.length:Int)) then
  ((idx a1 s12).bind fun x14=>
  (idx a2 s12).bind fun x16=>
  (zB1 x14 x16).bind fun x18=>
  if !x18 then
   (some (Lp.done (Fl.ret false)))
  else
   (some (Lp.go (w64 (s12+1)))))
 else
  (some (Lp.done (Fl.nxt ())))
noncomputable def zA9 (a1:(List File)) (a2:(List File)):Int→Option (Fl Bool Unit):=loop (zBm a1 a2)
noncomputable def zA2 (a1:(List File)) (a2:(List File)):Option Bool:=
 if (a1.length:Int) !=(a2.length:Int) then
  (some false)
 else
  ((zA9 a1 a2 0).bind (Fl.go some fun v21=>
  some true))
noncomputable def zBo (a1:zI) (a2:zI):Option Bool:=
 (zA2 a1.Files a2.Files).bind fun x3=>
 if !x3 then
  (some false)
 else
  (if a1.Budget !=a2.Budget then
   (some false)
  else
   (if a1.Writes !=a2.Writes then
    (some false)
   else
    (if a1.Stop !=a2.Stop then
     (some false)
    else
     (if !(a1.Down==a2.Down) then
      (some false)
     else
      (some true)))))
noncomputable def zAQ (a1:(List Int)) (a2:(List Int)) (s10:Int):Option (Lp Int (Fl Bool Unit)):=
 if decide (s10< (a1.length:Int)) then
  ((idx a1 s10).bind fun x12=>
  (idx a2 s10).bind fun x14=>
  if x12 !=x14 then
   (some (Lp.done (Fl.ret false)))
  else
   (some (Lp.go (w64 (s10+1)))))
 else
  (some (Lp.done (Fl.nxt ())))
noncomputable def kL (a1:(List Int)) (a2:(List Int)):Int→Option (Fl Bool Unit):=loop (zAQ a1 a2)
noncomputable def kE (a1:(List Int)) (a2:(List Int)):Option Bool:=
 if (a1.length:Int) !=(a2.length:Int) then
  (some false)
 else
  ((kL a1 a2 0).bind (Fl.go some fun v17=>
  some true))
noncomputable def xG (a1:(List Pack)) (a2:zI) (a3:(List Int)):Option Bool:=
 if decide ((a3.length:Int)>1048576) then
  (some true)
 else
  ((zAC a1 1048576).bind fun x5=>
  if decide (x5<0) then
   (some true)
  else
   ((zBn a2 x5).bind fun x8=>
   if decide (x8<0) then
    (some true)
   else
    ((vB a1).bind fun x11=>
    (uI a2).bind fun x13=>
    (wI a3).bind fun x15=>
    (vO x11 x13 x15).bind fun x17=>
    (vB a1).bind fun x19=>
    (uI a2).bind fun x21=>
    (wI a3).bind fun x23=>
    (vQ x19 x21 x23).bind fun x25=>
    (vJ x25 x17).bind fun x27=>
    if !x27 then
     (some false)
    else
     ((vB a1).bind fun x30=>
     (zAq x19 x30).bind fun x32=>
     if !x32 then
      (some false)
     else
      ((uI a2).bind fun x35=>
      (zBo x21 x35).bind fun x37=>
      if !x37 then
       (some false)
      else
       ((wI a3).bind fun x40=>
       (kE x23 x40).bind fun x42=>
       if !x42 then
        (some false)
       else
        (some true)))))))
end Go.Told

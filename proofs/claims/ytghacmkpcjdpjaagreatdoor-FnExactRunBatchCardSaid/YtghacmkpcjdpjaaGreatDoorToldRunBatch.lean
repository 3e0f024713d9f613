import Derived.Test.YtghacmkpcjdpjaaGreatDoorImF
set_option linter.unusedVariables false
set_option maxRecDepth 4000
namespace Go.Told
open Go Go.Im
structure Version where
 A:Int
 B:Int
 C:Int
 deriving DecidableEq
def Version.enc (x:Version):List D:=[.sc (.int .i64 x.A),.sc (.int .i64 x.B),.sc (.int .i64 x.C)]
theorem Version.fl (x:Version):zFb (Version.enc x):=(flatK xQ (flatK xQ (flatK xQ zGA)))
structure Term where
 Name:ByteArray
 Low:Version
 High:Version
 deriving DecidableEq
def Term.enc (x:Term):List D:=[.sc (.string x.Name),.sc (.int .i64 x.Low.A),.sc (.int .i64 x.Low.B),.sc (.int .i64 x.Low.C),.sc (.int .i64 x.High.A),.sc (.int .i64 x.High.B),.sc (.int .i64 x.High.C)]
theorem Term.fl (x:Term):zFb (Term.enc x):=(flatK xQ (flatK xQ (flatK xQ (flatK xQ (flatK xQ (flatK xQ (flatK xQ zGA)))))))
structure File where
 Path:ByteArray
 Data:(List Int)
 deriving DecidableEq
def File.enc (o:Bool) (x:File):List D:=[.sc (.string x.Path),.s o 1 x.Data.length (x.Data.map eU8)]
theorem File.ro (o:Bool) (x:File):D.ro.roC (File.enc o x)=File.enc false x:=by
 simp only [File.enc,D.ro.roC,D.ro,zEf (enc:=eU8) (enc':=eU8) (fun _=>rfl)]
theorem File.fl (x:File):zFb (File.enc true x):=(flatK xQ (flatK (zHu (zJj (fun _=>(flatK xQ zGA)) _)) zGA))
structure zC where
 Files:(List File)
 Budget:Int
 Writes:Int
 Stop:Int
 Down:Bool
 deriving DecidableEq
def zC.enc (o:Bool) (x:zC):List D:=[.s o 2 x.Files.length (x.Files.map (File.enc o)),.sc (.int .i64 x.Budget),.sc (.int .i64 x.Writes),.sc (.int .i64 x.Stop),.sc (.bool x.Down)]
theorem zC.ro (o:Bool) (x:zC):D.ro.roC (zC.enc o x)=zC.enc false x:=by
 simp only [zC.enc,D.ro.roC,D.ro,zEf (enc:=(File.enc o)) (enc':=(File.enc false)) (File.ro o)]
theorem zC.fl (x:zC):zFb (zC.enc true x):=(flatK (zHu (zJj (fun _=>(File.fl _)) _)) (flatK xQ (flatK xQ (flatK xQ (flatK xQ zGA)))))
structure zI where
 Code:Int
 zC:zC
 deriving DecidableEq
def zI.enc (o:Bool) (x:zI):List D:=[.sc (.int .i64 x.Code),.s o 2 x.zC.Files.length (x.zC.Files.map (File.enc o)),.sc (.int .i64 x.zC.Budget),.sc (.int .i64 x.zC.Writes),.sc (.int .i64 x.zC.Stop),.sc (.bool x.zC.Down)]
theorem zI.ro (o:Bool) (x:zI):D.ro.roC (zI.enc o x)=zI.enc false x:=by
 simp only [zI.enc,D.ro.roC,D.ro,zEf (enc:=(File.enc o)) (enc':=(File.enc false)) (File.ro o)]
theorem zI.fl (x:zI):zFb (zI.enc true x):=(flatK xQ (flatK (zHu (zJj (fun _=>(File.fl _)) _)) (flatK xQ (flatK xQ (flatK xQ (flatK xQ zGA))))))
structure Pack where
 Name:ByteArray
 Version:Version
 Size:Int
 Provides:(List ByteArray)
 Needs:(List (List Term))
 Bars:(List Term)
 deriving DecidableEq
def Pack.enc (o:Bool) (x:Pack):List D:=[.sc (.string x.Name),.sc (.int .i64 x.Version.A),.sc (.int .i64 x.Version.B),.sc (.int .i64 x.Version.C),.sc (.int .i64 x.Size),.s o 1 x.Provides.length (x.Provides.map eStr),.s o 1 x.Needs.length (x.Needs.map (eSl o 7 Term.enc)),.s o 7 x.Bars.length (x.Bars.map Term.enc)]
theorem Pack.ro (o:Bool) (x:Pack):D.ro.roC (Pack.enc o x)=Pack.enc false x:=by
 simp only [Pack.enc,D.ro.roC,D.ro,zEf (enc:=eStr) (enc':=eStr) (fun _=>rfl),zEf (enc:=(eSl o 7 Term.enc)) (enc':=(eSl false 7 Term.enc)) (zQZ (fun _=>rfl)),zEf (enc:=Term.enc) (enc':=Term.enc) (fun _=>rfl)]
theorem Pack.fl (x:Pack):zFb (Pack.enc true x):=(flatK xQ (flatK xQ (flatK xQ (flatK xQ (flatK xQ (flatK (zHu (zJj (fun _=>(flatK xQ zGA)) _)) (flatK (zHu (zJj (fun _=>(flatK (zHu (zJj (fun _=>(Term.fl _)) _)) zGA)) _)) (flatK (zHu (zJj (fun _=>(Term.fl _)) _)) zGA))))))))
structure zQ where
 Kind:Int
 Pack:Int
 At:Int
 deriving DecidableEq
def zQ.enc (x:zQ):List D:=[.sc (.int .i64 x.Kind),.sc (.int .i64 x.Pack),.sc (.int .i64 x.At)]
theorem zQ.fl (x:zQ):zFb (zQ.enc x):=(flatK xQ (flatK xQ (flatK xQ zGA)))
noncomputable def zAB (a1:(List ByteArray)) (s8:(Int×Int)):Option (Lp (Int×Int) (Fl Int Int)):=
 if decide (s8.2< (a1.length:Int)) then
  ((idx a1 s8.2).bind fun x10=>
  if decide ((w64 (s8.1-(x10.size:Int)))<0) then
   (some (Lp.done (Fl.ret (-1))))
  else
   (some (Lp.go (w64 (s8.1-(x10.size:Int)),w64 (s8.2+1)))))
 else
  (some (Lp.done (Fl.nxt s8.1)))
noncomputable def zBh (a1:(List ByteArray)):(Int×Int)→Option (Fl Int Int):=loop (zAB a1)
noncomputable def zAJ (a1:(List ByteArray)) (a2:Int):Option Int:=
 if decide ((w64 (a2-(a1.length:Int)))<0) then
  (some (-1))
 else
  ((zBh a1 (w64 (a2-(a1.length:Int)),0)).bind (Fl.go some fun v13=>
  some v13))
noncomputable def zDz (a1:Term) (a2:Int):Option Int:=
 if decide ((w64 (a2-(a1.Name.size:Int)))<0) then
  (some (-1))
 else
  (some (w64 (a2-(a1.Name.size:Int))))
noncomputable def zBG (a1:(List Term)) (s10:(Int×Int)):Option (Lp (Int×Int) (Fl Int Int)):=
 if decide (s10.2< (a1.length:Int)) then
  ((idx a1 s10.2).bind fun x12=>
  (zDz x12 s10.1).bind fun x14=>
  if decide (x14<0) then
   (some (Lp.done (Fl.ret (-1))))
  else
   (some (Lp.go (x14,w64 (s10.2+1)))))
 else
  (some (Lp.done (Fl.nxt s10.1)))
noncomputable def zCE (a1:(List Term)):(Int×Int)→Option (Fl Int Int):=loop (zBG a1)
noncomputable def zA7 (a1:(List Term)) (a2:Int):Option Int:=
 if decide ((w64 (a2-(a1.length:Int)))<0) then
  (some (-1))
 else
  ((zCE a1 (w64 (a2-(a1.length:Int)),0)).bind (Fl.go some fun v17=>
  some v17))
noncomputable def zBf (a1:(List (List Term))) (s10:(Int×Int)):Option (Lp (Int×Int) (Fl Int Int)):=
 if decide (s10.2< (a1.length:Int)) then
  ((idx a1 s10.2).bind fun x12=>
  (zA7 x12 s10.1).bind fun x14=>
  if decide (x14<0) then
   (some (Lp.done (Fl.ret (-1))))
  else
   (some (Lp.go (x14,w64 (s10.2+1)))))
 else
  (some (Lp.done (Fl.nxt s10.1)))
noncomputable def zBC (a1:(List (List Term))):(Int×Int)→Option (Fl Int Int):=loop (zBf a1)
noncomputable def zB6 (a1:(List (List Term))) (a2:Int):Option Int:=
 if decide ((w64 (a2-(a1.length:Int)))<0) then
  (some (-1))
 else
  ((zBC a1 (w64 (a2-(a1.length:Int)),0)).bind (Fl.go some fun v17=>
  some v17))
noncomputable def zD7 (a1:Pack) (a2:Int):Option Int:=
 if decide ((w64 (a2-(a1.Name.size:Int)))<0) then
  (some (-1))
 else
  ((zAJ a1.Provides (w64 (a2-(a1.Name.size:Int)))).bind fun x4=>
  if decide (x4<0) then
   (some (-1))
  else
   ((zB6 a1.Needs x4).bind fun x7=>
   if decide (x7<0) then
    (some (-1))
   else
    ((zA7 a1.Bars x7).bind fun x10=>
    if decide (x10<0) then
     (some (-1))
    else
     (some x10))))
noncomputable def zBB (a1:(List Pack)) (s10:(Int×Int)):Option (Lp (Int×Int) (Fl Int Int)):=
 if decide (s10.2< (a1.length:Int)) then
  ((idx a1 s10.2).bind fun x12=>
  (zD7 x12 s10.1).bind fun x14=>
  if decide (x14<0) then
   (some (Lp.done (Fl.ret (-1))))
  else
   (some (Lp.go (x14,w64 (s10.2+1)))))
 else
  (some (Lp.done (Fl.nxt s10.1)))
noncomputable def zCc (a1:(List Pack)):(Int×Int)→Option (Fl Int Int):=loop (zBB a1)
noncomputable def zCi (a1:(List Pack)) (a2:Int):Option Int:=
 if decide ((w64 (a2-(a1.length:Int)))<0) then
  (some (-1))
 else
  ((zCc a1 (w64 (a2-(a1.length:Int)),0)).bind (Fl.go some fun v17=>
  some v17))
noncomputable def zCg (a1:(List Int)) (a2:Int):Option Int:=
 if decide ((w64 (a2-(a1.length:Int)))<0) then
  (some (-1))
 else
  (some (w64 (a2-(a1.length:Int))))
noncomputable def zDv (a1:File) (a2:Int):Option Int:=
 if decide ((w64 (a2-(a1.Path.size:Int)))<0) then
  (some (-1))
 else
  ((zCg a1.Data (w64 (a2-(a1.Path.size:Int)))).bind fun x4=>
  if decide (x4<0) then
   (some (-1))
  else
   (some x4))
noncomputable def zBQ (a1:(List File)) (s10:(Int×Int)):Option (Lp (Int×Int) (Fl Int Int)):=
 if decide (s10.2< (a1.length:Int)) then
  ((idx a1 s10.2).bind fun x12=>
  (zDv x12 s10.1).bind fun x14=>
  if decide (x14<0) then
   (some (Lp.done (Fl.ret (-1))))
  else
   (some (Lp.go (x14,w64 (s10.2+1)))))
 else
  (some (Lp.done (Fl.nxt s10.1)))
noncomputable def zCo (a1:(List File)):(Int×Int)→Option (Fl Int Int):=loop (zBQ a1)
noncomputable def zCt (a1:(List File)) (a2:Int):Option Int:=
 if decide ((w64 (a2-(a1.length:Int)))<0) then
  (some (-1))
 else
  ((zCo a1 (w64 (a2-(a1.length:Int)),0)).bind (Fl.go some fun v17=>
  some v17))
noncomputable def zDC (a1:zC) (a2:Int):Option Int:=
 (zCt a1.Files a2).bind fun x3=>
 if decide (x3<0) then
  (some (-1))
 else
  (some x3)
noncomputable def vH (a1:Version):Option Version:=
 some a1
noncomputable def zBZ (a1:(List ByteArray)) (s9:((List ByteArray)×Int)):Option (Lp ((List ByteArray)×Int) (List ByteArray)):=
 if decide (s9.2< (a1.length:Int)) then
  ((idx a1 s9.2).bind fun x11=>
  (idx s9.1 s9.2).bind fun x13=>
  some (Lp.go (s9.1.set s9.2.toNat x11,w64 (s9.2+1))))
 else
  (some (Lp.done s9.1))
noncomputable def zBd (a1:(List ByteArray)):((List ByteArray)×Int)→Option (List ByteArray):=loop (zBZ a1)
noncomputable def zAO (a1:(List ByteArray)):Option (List ByteArray):=
 (mk 16 (a1.length:Int) ByteArray.empty).bind fun x2=>
 (zBd a1 (x2,0)).bind fun v15=>
 some v15
noncomputable def zDD (a1:Term):Option Term:=
 (vH a1.Low).bind fun x2=>
 (vH a1.High).bind fun x4=>
 some ({Name:=a1.Name,Low:=x2,High:=x4}:Term)
noncomputable def zDu (a1:(List Term)) (s11:((List Term)×Int)):Option (Lp ((List Term)×Int) (List Term)):=
 if decide (s11.2< (a1.length:Int)) then
  ((idx a1 s11.2).bind fun x13=>
  (zDD x13).bind fun x15=>
  (idx s11.1 s11.2).bind fun x17=>
  some (Lp.go (s11.1.set s11.2.toNat x15,w64 (s11.2+1))))
 else
  (some (Lp.done s11.1))
noncomputable def zCJ (a1:(List Term)):((List Term)×Int)→Option (List Term):=loop (zDu a1)
noncomputable def zAv (a1:(List Term)):Option (List Term):=
 (mk 64 (a1.length:Int) ({Name:=ByteArray.empty,Low:=({A:=0,B:=0,C:=0}:Version),High:=({A:=0,B:=0,C:=0}:Version)}:Term)).bind fun x2=>
 (zCJ a1 (x2,0)).bind fun v19=>
 some v19
noncomputable def zCN (a1:(List (List Term))) (s11:((List (List Term))×Int)):Option (Lp ((List (List Term))×Int) (List (List Term))):=
 if decide (s11.2< (a1.length:Int)) then
  ((idx a1 s11.2).bind fun x13=>
  (zAv x13).bind fun x15=>
  (idx s11.1 s11.2).bind fun x17=>
  some (Lp.go (s11.1.set s11.2.toNat x15,w64 (s11.2+1))))
 else
  (some (Lp.done s11.1))
noncomputable def zBM (a1:(List (List Term))):((List (List Term))×Int)→Option (List (List Term)):=loop (zCN a1)
noncomputable def zBy (a1:(List (List Term))):Option (List (List Term)):=
 (mk 24 (a1.length:Int) ([]:List Term)).bind fun x2=>
 (zBM a1 (x2,0)).bind fun v19=>
 some v19
noncomputable def zDB (a1:Pack):Option Pack:=
 (vH a1.Version).bind fun x2=>
 (zAO a1.Provides).bind fun x4=>
 (zBy a1.Needs).bind fun x6=>
 (zAv a1.Bars).bind fun x8=>
 some ({Name:=a1.Name,Version:=x2,Size:=a1.Size,Provides:=x4,Needs:=x6,Bars:=x8}:Pack)
noncomputable def zDp (a1:(List Pack)) (s11:((List Pack)×Int)):Option (Lp ((List Pack)×Int) (List Pack)):=
 if decide (s11.2< (a1.length:Int)) then
  ((idx a1 s11.2).bind fun x13=>
  (zDB x13).bind fun x15=>
  (idx s11.1 s11.2).bind fun x17=>
  some (Lp.go (s11.1.set s11.2.toNat x15,w64 (s11.2+1))))
 else
  (some (Lp.done s11.1))
noncomputable def zCl (a1:(List Pack)):((List Pack)×Int)→Option (List Pack):=loop (zDp a1)
noncomputable def vW (a1:(List Pack)):Option (List Pack):=
 (mk 120 (a1.length:Int) ({Name:=ByteArray.empty,Version:=({A:=0,B:=0,C:=0}:Version),Size:=0,Provides:=([]:List ByteArray),Needs:=([]:List (List Term)),Bars:=([]:List Term)}:Pack)).bind fun x2=>
 (zCl a1 (x2,0)).bind fun v19=>
 some v19
noncomputable def zDt (a1:(List Int)) (s9:((List Int)×Int)):Option (Lp ((List Int)×Int) (List Int)):=
 if decide (s9.2< (a1.length:Int)) then
  ((idx a1 s9.2).bind fun x11=>
  (idx s9.1 s9.2).bind fun x13=>
  some (Lp.go (s9.1.set s9.2.toNat x11,w64 (s9.2+1))))
 else
  (some (Lp.done s9.1))
noncomputable def zCK (a1:(List Int)):((List Int)×Int)→Option (List Int):=loop (zDt a1)
noncomputable def zCy (a1:(List Int)):Option (List Int):=
 (mk 1 (a1.length:Int) 0).bind fun x2=>
 (zCK a1 (x2,0)).bind fun v15=>
 some v15
noncomputable def zD6 (a1:File):Option File:=
 (zCy a1.Data).bind fun x2=>
 some ({Path:=a1.Path,Data:=x2}:File)
noncomputable def zDs (a1:(List File)) (s11:((List File)×Int)):Option (Lp ((List File)×Int) (List File)):=
 if decide (s11.2< (a1.length:Int)) then
  ((idx a1 s11.2).bind fun x13=>
  (zD6 x13).bind fun x15=>
  (idx s11.1 s11.2).bind fun x17=>
  some (Lp.go (s11.1.set s11.2.toNat x15,w64 (s11.2+1))))
 else
  (some (Lp.done s11.1))
noncomputable def zC7 (a1:(List File)):((List File)×Int)→Option (List File):=loop (zDs a1)
noncomputable def zCf (a1:(List File)):Option (List File):=
 (mk 40 (a1.length:Int) ({Path:=ByteArray.empty,Data:=([]:List Int)}:File)).bind fun x2=>
 (zC7 a1 (x2,0)).bind fun v19=>
 some v19
noncomputable def uS (a1:zC):Option zC:=
 (zCf a1.Files).bind fun x2=>
 some ({Files:=x2,Budget:=a1.Budget,Writes:=a1.Writes,Stop:=a1.Stop,Down:=a1.Down}:zC)
noncomputable def zCS (a1:(List Int)) (s9:((List Int)×Int)):Option (Lp ((List Int)×Int) (List Int)):=
 if decide (s9.2< (a1.length:Int)) then
  ((idx a1 s9.2).bind fun x11=>
  (idx s9.1 s9.2).bind fun x13=>
  some (Lp.go (s9.1.set s9.2.toNat x11,w64 (s9.2+1))))
 else
  (some (Lp.done s9.1))
noncomputable def zBA (a1:(List Int)):((List Int)×Int)→Option (List Int):=loop (zCS a1)
noncomputable def wY (a1:(List Int)):Option (List Int):=
 (mk 8 (a1.length:Int) 0).bind fun x2=>
 (zBA a1 (x2,0)).bind fun v15=>
 some v15
noncomputable def vN (a1:Int):Option Bool:=
 if decide (a1≥97) then
  (some (decide (a1≤122)))
 else
  (some false)
noncomputable def vT (a1:Int):Option Bool:=
 if decide (a1≥48) then
  (some (decide (a1≤57)))
 else
  (some false)
noncomputable def uG (a1:Int):Option Bool:=
 (vN a1).bind fun x2=>
 if x2 then
  (some true)
 else
  ((vT a1).bind fun x5=>
  if x5 then
   (some true)
  else
   (some (a1==95)))
noncomputable def zBX (a1:ByteArray) (s16:Int):Option (Lp Int (Fl Int Unit)):=
 if decide (s16< (a1.size:Int)) then
  ((bidx a1 s16).bind fun x18=>
  (uG x18).bind fun x20=>
  if !x20 then
   (some (Lp.done (Fl.ret 5)))
  else
   (some (Lp.go (w64 (s16+1)))))
 else
  (some (Lp.done (Fl.nxt ())))
noncomputable def kC (a1:ByteArray):Int→Option (Fl Int Unit):=loop (zBX a1)
noncomputable def vM (a1:ByteArray):Option Int:=
 (if decide ((a1.size:Int)<1) then
   (some true)
  else
   (if decide ((a1.size:Int)>12) then
    (some true)
   else
    ((bidx a1 0).bind fun x4=>
    (vN x4).bind fun x6=>
    some (!x6)))).bind fun v8=>
 if v8 then
  (some 5)
 else
  ((kC a1 0).bind (Fl.go some fun v23=>
  some 0))
noncomputable def xS (a1:Int) (a2:Int) (a3:Int):Option Bool:=
 if decide (a1≥a2) then
  (some (decide (a1≤a3)))
 else
  (some false)
noncomputable def xU (a1:Version):Option Int:=
 (xS a1.A 0 999).bind fun x2=>
 (if !x2 then
   (some true)
  else
   ((xS a1.B 0 999).bind fun x5=>
   if !x5 then
    (some true)
   else
    ((xS a1.C 0 999).bind fun x8=>
    some (!x8)))).bind fun v10=>
 if v10 then
  (some 3)
 else
  (some 0)
noncomputable def zBN (a1:(List ByteArray)) (a2:ByteArray) (s7:Int):Option (Lp Int (Fl Bool Unit)):=
 if decide (s7< (a1.length:Int)) then
  ((idx a1 s7).bind fun x9=>
  if seq x9 a2 then
   (some (Lp.done (Fl.ret true)))
  else
   (some (Lp.go (w64 (s7+1)))))
 else
  (some (Lp.done (Fl.nxt ())))
noncomputable def zCr (a1:(List ByteArray)) (a2:ByteArray):Int→Option (Fl Bool Unit):=loop (zBN a1 a2)
noncomputable def jV (a1:(List ByteArray)) (a2:ByteArray):Option Bool:=
 (zCr a1 a2 0).bind (Fl.go some fun v12=>
 some false)
noncomputable def zEd:Option Version:=
 some ({A:=1000,B:=0,C:=0}:Version)
noncomputable def kN (a1:Int) (a2:Int):Option Int:=
 if decide (a1<a2) then
  (some (-1))
 else
  (if decide (a1>a2) then
   (some 1)
  else
   (some 0))
noncomputable def yS (a1:Version) (a2:Version):Option Int:=
 (kN a1.A a2.A).bind fun x3=>
 if x3 !=0 then
  (some x3)
 else
  ((kN a1.B a2.B).bind fun x6=>
  if x6 !=0 then
   (some x6)
  else
   ((kN a1.C a2.C).bind fun x9=>
   some x9))
noncomputable def zAP (a1:Term):Option Int:=
 (vM a1.Name).bind fun x2=>
 if x2 !=0 then
  (some x2)
 else
  ((xU a1.Low).bind fun x5=>
  if x5 !=0 then
   (some x5)
  else
   ((zEd).bind fun x8=>
   (if !(a1.High.A==x8.A&&(a1.High.B==x8.B&&(a1.High.C==x8.C&&true))) then
     ((xU a1.High).bind fun x11=>
     some (x11 !=0))
    else
     (some false)).bind fun v13=>
   if v13 then
    (some 3)
   else
    ((yS a1.Low a1.High).bind fun x15=>
    if decide (x15≥0) then
     (some 1)
    else
     (some 0))))
noncomputable def zBP (a1:(List Term)) (s8:Int):Option (Lp Int (Fl Int Unit)):=
 if decide (s8< (a1.length:Int)) then
  ((idx a1 s8).bind fun x10=>
  (zAP x10).bind fun x12=>
  if x12 !=0 then
   (some (Lp.done (Fl.ret x12)))
  else
   (some (Lp.go (w64 (s8+1)))))
 else
  (some (Lp.done (Fl.nxt ())))
noncomputable def zCp (a1:(List Term)):Int→Option (Fl Int Unit):=loop (zBP a1)
noncomputable def jU (a1:(List Term)):Option Int:=
 (zCp a1 0).bind (Fl.go some fun v15=>
 some 0)
noncomputable def zAA (a1:Pack) (s70:Int):Option (Lp Int (Fl Int Unit)):=
 if decide (s70< (a1.Needs.length:Int)) then
  ((idx a1.Needs s70).bind fun x72=>
  if (x72.length:Int)==0 then
   (some (Lp.done (Fl.ret 1)))
  else
   ((idx a1.Needs s70).bind fun x75=>
   (jU x75).bind fun x77=>
   if x77 !=0 then
    (some (Lp.done (Fl.ret x77)))
   else
    (some (Lp.go (w64 (s70+1))))))
 else
  (some (Lp.done (Fl.nxt ())))
noncomputable def kE (a1:Pack):Int→Option (Fl Int Unit):=loop (zAA a1)
noncomputable def zA0 (a1:Pack) (s42:Int):Option (Lp Int (Fl Int Unit)):=
 if decide (s42< (a1.Provides.length:Int)) then
  ((idx a1.Provides s42).bind fun x44=>
  (vM x44).bind fun x46=>
  if x46 !=0 then
   (some (Lp.done (Fl.ret x46)))
  else
   ((idx a1.Provides s42).bind fun x49=>
   (if seq x49 a1.Name then
     (some true)
    else
     ((zGM a1.Provides 0 s42).bind fun x52=>
     (idx a1.Provides s42).bind fun x54=>
     (jV x52 x54).bind fun x56=>
     some x56)).bind fun v58=>
   if v58 then
    (some (Lp.done (Fl.ret 6)))
   else
    (some (Lp.go (w64 (s42+1))))))
 else
  (some (Lp.done (Fl.nxt ())))
noncomputable def kD (a1:Pack):Int→Option (Fl Int Unit):=loop (zA0 a1)
noncomputable def zAt (a1:Pack) (s19:Int):Option (Lp Int (Fl Int Unit)):=
 if decide (s19< (a1.Needs.length:Int)) then
  ((idx a1.Needs s19).bind fun x21=>
  if decide ((x21.length:Int)>4) then
   (some (Lp.done (Fl.ret 2)))
  else
   (some (Lp.go (w64 (s19+1)))))
 else
  (some (Lp.done (Fl.nxt ())))
noncomputable def zBe (a1:Pack):Int→Option (Fl Int Unit):=loop (zAt a1)
noncomputable def zAR (a1:Pack):Option Int:=
 (vM a1.Name).bind fun x2=>
 if x2 !=0 then
  (some x2)
 else
  ((xU a1.Version).bind fun x5=>
  if x5 !=0 then
   (some x5)
  else
   ((xS a1.Size 1 200).bind fun x8=>
   if !x8 then
    (some 3)
   else
    ((if decide ((a1.Provides.length:Int)>4) then
       (some true)
      else
       (if decide ((a1.Needs.length:Int)>4) then
        (some true)
       else
        (some (decide ((a1.Bars.length:Int)>4))))).bind fun v13=>
    if v13 then
     (some 2)
    else
     ((zBe a1 0).bind (Fl.go some fun v24=>
     (kD a1 0).bind (Fl.go some fun v60=>
     (kE a1 0).bind (Fl.go some fun v80=>
     (jU a1.Bars).bind fun x81=>
     some x81)))))))
noncomputable def zCk (a1:(List Pack)) (a2:ByteArray) (a3:Version) (s14:Int):Option (Lp Int (Fl Int Unit)):=
 if decide (s14< (a1.length:Int)) then
  ((idx a1 s14).bind fun x16=>
  (if seq x16.Name a2 then
    ((idx a1 s14).bind fun x19=>
    (yS x19.Version a3).bind fun x21=>
    some (x21==0))
   else
    (some false)).bind fun v23=>
  if v23 then
   (some (Lp.done (Fl.ret s14)))
  else
   (some (Lp.go (w64 (s14+1)))))
 else
  (some (Lp.done (Fl.nxt ())))
noncomputable def zDg (a1:(List Pack)) (a2:ByteArray) (a3:Version):Int→Option (Fl Int Unit):=loop (zCk a1 a2 a3)
noncomputable def zCu (a1:(List Pack)) (a2:ByteArray) (a3:Version):Option Int:=
 (zDg a1 a2 a3 0).bind (Fl.go some fun v25=>
 some (-1))
noncomputable def tO (a1:(List Pack)) (s18:Int):Option (Lp Int (Fl Int Unit)):=
 if decide (s18< (a1.length:Int)) then
  ((idx a1 s18).bind fun x20=>
  (zAR x20).bind fun x22=>
  if x22 !=0 then
   (some (Lp.done (Fl.ret x22)))
  else
   ((zGM a1 0 s18).bind fun x25=>
   (idx a1 s18).bind fun x27=>
   (idx a1 s18).bind fun x29=>
   (zCu x25 x27.Name x29.Version).bind fun x31=>
   if decide (x31≥0) then
    (some (Lp.done (Fl.ret 6)))
   else
    (some (Lp.go (w64 (s18+1))))))
 else
  (some (Lp.done (Fl.nxt ())))
noncomputable def jN (a1:(List Pack)):Int→Option (Fl Int Unit):=loop (tO a1)
noncomputable def tC (a1:(List Pack)):Option Int:=
 if decide ((a1.length:Int)>24) then
  (some 2)
 else
  ((jN a1 0).bind (Fl.go some fun v34=>
  some 0))
noncomputable def zDw (a1:Int):Option Bool:=
 (uG a1).bind fun x2=>
 if x2 then
  (some true)
 else
  (if a1==46 then
   (some true)
  else
   (if a1==45 then
    (some true)
   else
    (some (a1==47))))
noncomputable def jG (a1:ByteArray) (s11:Int):Option (Lp Int (Fl Int Unit)):=
 if decide (s11< (a1.size:Int)) then
  ((bidx a1 s11).bind fun x13=>
  (zDw x13).bind fun x15=>
  if !x15 then
   (some (Lp.done (Fl.ret 5)))
  else
   (some (Lp.go (w64 (s11+1)))))
 else
  (some (Lp.done (Fl.nxt ())))
noncomputable def tH (a1:ByteArray):Int→Option (Fl Int Unit):=loop (jG a1)
noncomputable def vI (a1:ByteArray):Option Int:=
 (if decide ((a1.size:Int)<1) then
   (some true)
  else
   (some (decide ((a1.size:Int)>40)))).bind fun v3=>
 if v3 then
  (some 5)
 else
  ((tH a1 0).bind (Fl.go some fun v18=>
  some 0))
noncomputable def jI (a1:zC) (s5:(Int×Int)):Option (Lp (Int×Int) Int):=
 if decide (s5.2< (a1.Files.length:Int)) then
  ((idx a1.Files s5.2).bind fun x7=>
  some (Lp.go (w64 (s5.1+(x7.Data.length:Int)),w64 (s5.2+1))))
 else
  (some (Lp.done s5.1))
noncomputable def kU (a1:zC):(Int×Int)→Option Int:=loop (jI a1)
noncomputable def wV (a1:zC):Option Int:=
 (kU a1 (0,0)).bind fun v9=>
 some v9
noncomputable def jF (a1:zC) (s29:Int):Option (Lp Int (Fl Int Unit)):=
 if decide (s29< (a1.Files.length:Int)) then
  ((idx a1.Files s29).bind fun x31=>
  (vI x31.Path).bind fun x33=>
  if x33 !=0 then
   (some (Lp.done (Fl.ret x33)))
  else
   ((if decide (s29>0) then
      ((idx a1.Files s29).bind fun x37=>
      (idx a1.Files (w64 (s29-1))).bind fun x39=>
      some (slt x37.Path x39.Path||seq x37.Path x39.Path))
     else
      (some false)).bind fun v41=>
   if v41 then
    (some (Lp.done (Fl.ret 1)))
   else
    ((idx a1.Files s29).bind fun x43=>
    if decide ((x43.Data.length:Int)>4000) then
     (some (Lp.done (Fl.ret 2)))
    else
     (some (Lp.go (w64 (s29+1)))))))
 else
  (some (Lp.done (Fl.nxt ())))
noncomputable def uT (a1:zC):Int→Option (Fl Int Unit):=loop (jF a1)
noncomputable def vJ (a1:zC):Option Int:=
 (xS a1.Budget 0 20000).bind fun x2=>
 (if !x2 then
   (some true)
  else
   ((xS a1.Writes 0 1000000000).bind fun x5=>
   if !x5 then
    (some true)
   else
    ((xS a1.Stop (-1) 1000000000).bind fun x8=>
    some (!x8)))).bind fun v10=>
 if v10 then
  (some 3)
 else
  (if decide ((a1.Files.length:Int)>120) then
   (some 2)
  else
   ((uT a1 0).bind (Fl.go some fun v46=>
   (wV a1).bind fun x47=>
   if decide (x47>a1.Budget) then
    (some 8)
   else
    (some 0))))
noncomputable def zCs (a1:(List Pack)) (a2:zC):Option Int:=
 (tC a1).bind fun x3=>
 if x3 !=0 then
  (some x3)
 else
  ((vJ a2).bind fun x6=>
  some x6)
noncomputable def zCh (a1:(List Pack)) (a2:zC):Option Int:=
 (zCs a1 a2).bind fun x3=>
 if x3 !=0 then
  (some x3)
 else
  (if a2.Down then
   (some 9)
  else
   (some 0))
noncomputable def zBq (a1:zC) (s20:((List File)×Int)):Option (Lp ((List File)×Int) (List File)):=
 if decide (s20.2< (a1.Files.length:Int)) then
  ((idx a1.Files s20.2).bind fun x22=>
  (idx a1.Files s20.2).bind fun x24=>
  (app 1 ([]:List Int) x24.Data).bind fun x26=>
  (app 40 s20.1 [({Path:=x22.Path,Data:=x26}:File)]).bind fun x28=>
  some (Lp.go (x28,w64 (s20.2+1))))
 else
  (some (Lp.done s20.1))
noncomputable def zAU (a1:zC):((List File)×Int)→Option (List File):=loop (zBq a1)
noncomputable def zB2 (a1:zC):Option zC:=
 (zAU a1 (([]:List File),0)).bind fun v30=>
 some ({Files:=v30,Budget:=a1.Budget,Writes:=a1.Writes,Stop:=a1.Stop,Down:=a1.Down}:zC)
noncomputable def zDl (a1:(List Pack)) (a2:(List Int)) (s16:Int):Option (Lp Int (Fl Bool Unit)):=
 if decide (s16< (a2.length:Int)) then
  ((idx a2 s16).bind fun x18=>
  (xS x18 0 (w64 ((a1.length:Int)-1))).bind fun x20=>
  (if !x20 then
    (some true)
   else
    (if decide (s16>0) then
     ((idx a2 s16).bind fun x24=>
     (idx a2 (w64 (s16-1))).bind fun x26=>
     some (decide (x24≤x26)))
    else
     (some false))).bind fun v28=>
  if v28 then
   (some (Lp.done (Fl.ret false)))
  else
   (some (Lp.go (w64 (s16+1)))))
 else
  (some (Lp.done (Fl.nxt ())))
noncomputable def zDS (a1:(List Pack)) (a2:(List Int)):Int→Option (Fl Bool Unit):=loop (zDl a1 a2)
noncomputable def zDG (a1:(List Pack)) (a2:(List Int)):Option Bool:=
 (zDS a1 a2 0).bind (Fl.go some fun v30=>
 some true)
noncomputable def jS (a1:Term) (a2:ByteArray) (a3:Version):Option Bool:=
 if seq a1.Name a2 then
  ((yS a3 a1.Low).bind fun x5=>
  if decide (x5≥0) then
   ((yS a3 a1.High).bind fun x8=>
   some (decide (x8<0)))
  else
   (some false))
 else
  (some false)
noncomputable def zC4 (a1:Pack) (a2:Term):Option Bool:=
 if seq a2.Name a1.Name then
  ((jS a2 a2.Name a1.Version).bind fun x4=>
  some x4)
 else
  ((jV a1.Provides a2.Name).bind fun x6=>
  if x6 then
   ((jS a2 a2.Name a1.Version).bind fun x9=>
   some x9)
  else
   (some false))
noncomputable def zBO (a1:(List Pack)) (a2:(List Int)) (a3:Term) (a4:Int) (s17:Int):Option (Lp Int (Fl Bool Unit)):=
 if decide (s17< (a2.length:Int)) then
  ((idx a2 s17).bind fun x19=>
  (if x19 !=a4 then
    ((idx a2 s17).bind fun x22=>
    (idx a1 x22).bind fun x24=>
    (zC4 x24 a3).bind fun x26=>
    some x26)
   else
    (some false)).bind fun v28=>
  if v28 then
   (some (Lp.done (Fl.ret true)))
  else
   (some (Lp.go (w64 (s17+1)))))
 else
  (some (Lp.done (Fl.nxt ())))
noncomputable def zCm (a1:(List Pack)) (a2:(List Int)) (a3:Term) (a4:Int):Int→Option (Fl Bool Unit):=loop (zBO a1 a2 a3 a4)
noncomputable def zAs (a1:(List Pack)) (a2:(List Int)) (a3:Term) (a4:Int):Option Bool:=
 (zCm a1 a2 a3 a4 0).bind (Fl.go some fun v30=>
 some false)
noncomputable def zDe (a1:(List Pack)) (a2:(List Int)) (a3:(List Term)) (s10:Int):Option (Lp Int (Fl Bool Unit)):=
 if decide (s10< (a3.length:Int)) then
  ((idx a3 s10).bind fun x12=>
  (zAs a1 a2 x12 (-1)).bind fun x14=>
  if x14 then
   (some (Lp.done (Fl.ret true)))
  else
   (some (Lp.go (w64 (s10+1)))))
 else
  (some (Lp.done (Fl.nxt ())))
noncomputable def zDN (a1:(List Pack)) (a2:(List Int)) (a3:(List Term)):Int→Option (Fl Bool Unit):=loop (zDe a1 a2 a3)
noncomputable def zDZ (a1:(List Pack)) (a2:(List Int)) (a3:(List Term)):Option Bool:=
 (zDN a1 a2 a3 0).bind (Fl.go some fun v17=>
 some false)
noncomputable def zAZ (a1:(List Pack)) (a2:(List Int)) (s82:((List zQ)×Int)) (x86:Pack) (s147:((List zQ)×Int)):Option (Lp ((List zQ)×Int) (List zQ)):=
 if decide (s147.2< (x86.Bars.length:Int)) then
  ((idx x86.Bars s147.2).bind fun x149=>
  (idx a2 s82.2).bind fun x151=>
  (zAs a1 a2 x149 x151).bind fun x153=>
  (if x153 then
    ((idx a2 s82.2).bind fun x156=>
    (app 24 s147.1 [({Kind:=3,Pack:=x156,At:=s147.2}:zQ)]).bind fun x158=>
    some x158)
   else
    (some s147.1)).bind fun v160=>
  some (Lp.go (v160,w64 (s147.2+1))))
 else
  (some (Lp.done s147.1))
noncomputable def zBD (a1:(List Pack)) (a2:(List Int)) (s82:((List zQ)×Int)) (x86:Pack):((List zQ)×Int)→Option (List zQ):=loop (zAZ a1 a2 s82 x86)
noncomputable def zBa (a1:(List Pack)) (a2:(List Int)) (s82:((List zQ)×Int)) (x86:Pack) (s121:((List zQ)×Int)):Option (Lp ((List zQ)×Int) (List zQ)):=
 if decide (s121.2< (x86.Needs.length:Int)) then
  ((idx x86.Needs s121.2).bind fun x123=>
  (zDZ a1 a2 x123).bind fun x125=>
  (if !x125 then
    ((idx a2 s82.2).bind fun x128=>
    (app 24 s121.1 [({Kind:=2,Pack:=x128,At:=s121.2}:zQ)]).bind fun x130=>
    some x130)
   else
    (some s121.1)).bind fun v132=>
  some (Lp.go (v132,w64 (s121.2+1))))
 else
  (some (Lp.done s121.1))
noncomputable def zB7 (a1:(List Pack)) (a2:(List Int)) (s82:((List zQ)×Int)) (x86:Pack):((List zQ)×Int)→Option (List zQ):=loop (zBa a1 a2 s82 x86)
noncomputable def zBb (a1:(List Pack)) (a2:(List Int)) (s82:((List zQ)×Int)) (x86:Pack) (s98:Int):Option (Lp Int (List zQ)):=
 if decide (s98<s82.2) then
  ((idx a2 s98).bind fun x100=>
  (idx a1 x100).bind fun x102=>
  if seq x102.Name x86.Name then
   ((idx a2 s82.2).bind fun x105=>
   (app 24 s82.1 [({Kind:=1,Pack:=x105,At:=0}:zQ)]).bind fun x107=>
   some (Lp.done x107))
  else
   (some (Lp.go (w64 (s98+1)))))
 else
  (some (Lp.done s82.1))
noncomputable def zAj (a1:(List Pack)) (a2:(List Int)) (s82:((List zQ)×Int)) (x86:Pack):Int→Option (List zQ):=loop (zBb a1 a2 s82 x86)
noncomputable def zBg (a1:(List Pack)) (a2:(List Int)) (s82:((List zQ)×Int)):Option (Lp ((List zQ)×Int) (List zQ)):=
 if decide (s82.2< (a2.length:Int)) then
  ((idx a2 s82.2).bind fun x84=>
  (idx a1 x84).bind fun x86=>
  (zAj a1 a2 s82 x86 0).bind fun v109=>
  (zB7 a1 a2 s82 x86 (v109,0)).bind fun v133=>
  (zBD a1 a2 s82 x86 (v133,0)).bind fun v161=>
  some (Lp.go (v161,w64 (s82.2+1))))
 else
  (some (Lp.done s82.1))
noncomputable def zBL (a1:(List Pack)) (a2:(List Int)):((List zQ)×Int)→Option (List zQ):=loop (zBg a1 a2)
noncomputable def zB5 (a1:(List Pack)) (a2:(List Int)):Option (List zQ):=
 (zBL a1 a2 (([]:List zQ),0)).bind fun v162=>
 some v162
noncomputable def zDy (a1:(List Pack)) (a2:(List Int)):Option Bool:=
 (zB5 a1 a2).bind fun x3=>
 some ((x3.length:Int)==0)
noncomputable def jT (a1:ByteArray) (a2:ByteArray):Option Bool:=
 if decide ((a1.size:Int)≥(a2.size:Int)) then
  ((zJR a1 0 (a2.size:Int)).bind fun x4=>
  some (seq x4 a2))
 else
  (some false)
noncomputable def zAl (a1:zC) (a2:ByteArray) (s14:((List ByteArray)×Int)):Option (Lp ((List ByteArray)×Int) (List ByteArray)):=
 if decide (s14.2< (a1.Files.length:Int)) then
  ((idx a1.Files s14.2).bind fun x16=>
  (jT x16.Path a2).bind fun x18=>
  (if x18 then
    ((idx a1.Files s14.2).bind fun x21=>
    (app 16 s14.1 [x21.Path]).bind fun x23=>
    some x23)
   else
    (some s14.1)).bind fun v25=>
  some (Lp.go (v25,w64 (s14.2+1))))
 else
  (some (Lp.done s14.1))
noncomputable def zCv (a1:zC) (a2:ByteArray):((List ByteArray)×Int)→Option (List ByteArray):=loop (zAl a1 a2)
noncomputable def zC0 (a1:zC) (a2:ByteArray):Option (List ByteArray):=
 (zCv a1 a2 (([]:List ByteArray),0)).bind fun v26=>
 some v26
noncomputable def zBi (a1:ByteArray) (s14:(Int×Int)):Option (Lp (Int×Int) (Fl (Int×Bool) Int)):=
 if decide (s14.2< (a1.size:Int)) then
  ((bidx a1 s14.2).bind fun x16=>
  (vT x16).bind fun x18=>
  if !x18 then
   (some (Lp.done (Fl.ret (0,false))))
  else
   ((bidx a1 s14.2).bind fun x21=>
   some (Lp.go (w64 ((w64 (s14.1*10))+(w64 (IntKind.u8.wrap (x21-48)))),w64 (s14.2+1)))))
 else
  (some (Lp.done (Fl.nxt s14.1)))
noncomputable def zBH (a1:ByteArray):(Int×Int)→Option (Fl (Int×Bool) Int):=loop (zBi a1)
noncomputable def zBx (a1:ByteArray) (a2:Int):Option (Int×Bool):=
 (if decide ((a1.size:Int)<1) then
   (some true)
  else
   (some (decide ((a1.size:Int)>a2)))).bind fun v4=>
 if v4 then
  (some (0,false))
 else
  ((zBH a1 (0,0)).bind (Fl.go some fun v23=>
  some (v23,true)))
noncomputable def uO (g:Int→Option ByteArray) (s:Int):Option ByteArray:=
 match s with
 |a1=>
 if decide (a1<10) then
  (some (b2s [IntKind.u8.wrap (w64 (48+a1))]))
 else
  ((g (w64 (a1.tdiv 10))).bind fun x3=>
  (cat x3 (b2s [IntKind.u8.wrap (w64 (48+(a1.tmod 10)))])).bind fun x5=>
  some x5)
noncomputable def xG (a1:Int):Option ByteArray:=zPS uO 64 a1
noncomputable def tY (a1:Int):Option ByteArray:=
 (xS a1 1 999999).bind fun x2=>
 if !x2 then
  (some (bs []))
 else
  ((xG (w64 (1000000+a1))).bind fun x5=>
  (zJR x5 1 (x5.size:Int)).bind fun x7=>
  (cat (bs [103,101,110,47]) x7).bind fun x9=>
  some x9)
noncomputable def zCq (a1:zC) (x2:(List ByteArray)) (s21:((List Int)×Int)):Option (Lp ((List Int)×Int) (List Int)):=
 if decide (s21.2< (x2.length:Int)) then
  ((idx x2 s21.2).bind fun x23=>
  (zJR x23 4 (x23.size:Int)).bind fun x25=>
  (zBx x25 6).bind fun x27=>
  (if x27.2 then
    ((tY x27.1).bind fun x30=>
    (idx x2 s21.2).bind fun x32=>
    some (seq x30 x32))
   else
    (some false)).bind fun v34=>
  (if v34 then
    ((app 8 s21.1 [x27.1]).bind fun x36=>
    some x36)
   else
    (some s21.1)).bind fun v38=>
  some (Lp.go (v38,w64 (s21.2+1))))
 else
  (some (Lp.done s21.1))
noncomputable def zEO (a1:zC) (x2:(List ByteArray)):((List Int)×Int)→Option (List Int):=loop (zCq a1 x2)
noncomputable def zE5 (a1:zC):Option (List Int):=
 (zC0 a1 (bs [103,101,110,47])).bind fun x2=>
 (zEO a1 x2 (([]:List Int),0)).bind fun v39=>
 some v39
noncomputable def zD0 (a1:zC):Option Int:=
 (zE5 a1).bind fun x2=>
 if (x2.length:Int)==0 then
  (some 1)
 else
  ((idx x2 (w64 ((x2.length:Int)-1))).bind fun x5=>
  some (w64 (x5+1)))
noncomputable def wW (a1:Version):Option ByteArray:=
 (xU a1).bind fun x2=>
 if x2 !=0 then
  (some (bs []))
 else
  ((xG a1.A).bind fun x5=>
  (cat x5 (bs [46])).bind fun x7=>
  (xG a1.B).bind fun x9=>
  (cat x7 x9).bind fun x11=>
  (cat x11 (bs [46])).bind fun x13=>
  (xG a1.C).bind fun x15=>
  (cat x13 x15).bind fun x17=>
  some x17)
noncomputable def uX (a1:Pack):Option ByteArray:=
 (cat (bs [112,107,103,47]) a1.Name).bind fun x2=>
 (cat x2 (bs [45])).bind fun x4=>
 (wW a1.Version).bind fun x6=>
 (cat x4 x6).bind fun x8=>
 some x8
noncomputable def zBo (a1:zC) (a2:ByteArray) (s7:Int):Option (Lp Int (Fl Int Unit)):=
 if decide (s7< (a1.Files.length:Int)) then
  ((idx a1.Files s7).bind fun x9=>
  if seq x9.Path a2 then
   (some (Lp.done (Fl.ret s7)))
  else
   (some (Lp.go (w64 (s7+1)))))
 else
  (some (Lp.done (Fl.nxt ())))
noncomputable def zEk (a1:zC) (a2:ByteArray):Int→Option (Fl Int Unit):=loop (zBo a1 a2)
noncomputable def wC (a1:zC) (a2:ByteArray):Option Int:=
 (zEk a1 a2 0).bind (Fl.go some fun v12=>
 some (-1))
noncomputable def zBE (a1:Pack) (s13:(Int×(List Int)×Int)):Option (Lp (Int×(List Int)×Int) (List Int)):=
 if decide (s13.2.2<a1.Size) then
  ((app 1 s13.2.1 [IntKind.u8.wrap (s13.1.tmod 256)]).bind fun x15=>
  some (Lp.go (w64 ((w64 (31*(s13.1.tmod 256)))+7),x15,w64 (s13.2.2+1))))
 else
  (some (Lp.done s13.2.1))
noncomputable def zCe (a1:Pack):(Int×(List Int)×Int)→Option (List Int):=loop (zBE a1)
noncomputable def zB9 (a1:Pack) (s5:(Int×Int)):Option (Lp (Int×Int) Int):=
 if decide (s5.2< (a1.Name.size:Int)) then
  ((bidx a1.Name s5.2).bind fun x7=>
  some (Lp.go (w64 (s5.1+(w64 (x7))),w64 (s5.2+1))))
 else
  (some (Lp.done s5.1))
noncomputable def zCH (a1:Pack):(Int×Int)→Option Int:=loop (zB9 a1)
noncomputable def zAx (a1:Pack):Option (List Int):=
 (zCH a1 (w64 ((w64 (a1.Version.A+a1.Version.B))+a1.Version.C),0)).bind fun v9=>
 (zCe a1 (v9,([]:List Int),0)).bind fun v17=>
 some v17
noncomputable def zDY (a1:(List Int)) (a2:(List Int)):Option Bool:=
 some (seq (b2s a1) (b2s a2))
noncomputable def zA2 (a1:(List Pack)) (a2:zC) (a3:(List Int)) (s31:((List Int)×Int)):Option (Lp ((List Int)×Int) (List Int)):=
 if decide (s31.2< (a3.length:Int)) then
  ((idx a3 s31.2).bind fun x33=>
  (idx a1 x33).bind fun x35=>
  (uX x35).bind fun x37=>
  (wC a2 x37).bind fun x39=>
  (if decide (x39<0) then
    (some true)
   else
    ((idx a2.Files x39).bind fun x42=>
    (idx a3 s31.2).bind fun x44=>
    (idx a1 x44).bind fun x46=>
    (zAx x46).bind fun x48=>
    (zDY x42.Data x48).bind fun x50=>
    some (!x50))).bind fun v52=>
  (if v52 then
    ((idx a3 s31.2).bind fun x54=>
    (app 8 s31.1 [x54]).bind fun x56=>
    some x56)
   else
    (some s31.1)).bind fun v58=>
  some (Lp.go (v58,w64 (s31.2+1))))
 else
  (some (Lp.done s31.1))
noncomputable def zEe (a1:(List Pack)) (a2:zC) (a3:(List Int)):((List Int)×Int)→Option (List Int):=loop (zA2 a1 a2 a3)
noncomputable def zAI (a1:(List Pack)) (a2:zC) (a3:(List Int)):Option (List Int):=
 (zEe a1 a2 a3 (([]:List Int),0)).bind fun v59=>
 some v59
noncomputable def zC1 (a1:(List Pack)) (a2:(List Int)) (s22:(ByteArray×Int)):Option (Lp (ByteArray×Int) ByteArray):=
 if decide (s22.2< (a2.length:Int)) then
  ((idx a2 s22.2).bind fun x24=>
  (idx a1 x24).bind fun x26=>
  (cat s22.1 x26.Name).bind fun x28=>
  (cat x28 (bs [32])).bind fun x30=>
  (idx a2 s22.2).bind fun x32=>
  (idx a1 x32).bind fun x34=>
  (wW x34.Version).bind fun x36=>
  (cat x30 x36).bind fun x38=>
  (cat x38 (bs [10])).bind fun x40=>
  some (Lp.go (x40,w64 (s22.2+1))))
 else
  (some (Lp.done s22.1))
noncomputable def zDi (a1:(List Pack)) (a2:(List Int)):(ByteArray×Int)→Option ByteArray:=loop (zC1 a1 a2)
noncomputable def kR (a1:(List Pack)) (a2:(List Int)):Option ByteArray:=
 (zDi a1 a2 (bs [],0)).bind fun v42=>
 some v42
noncomputable def zC2 (a1:(List Pack)) (a2:zC) (x4:(List Int)) (s29:(Int×Int×Int)):Option (Lp (Int×Int×Int) (Int×Int)):=
 if decide (s29.2.2< (x4.length:Int)) then
  ((idx x4 s29.2.2).bind fun x31=>
  (idx a1 x31).bind fun x33=>
  (idx x4 s29.2.2).bind fun x35=>
  (idx a1 x35).bind fun x37=>
  (uX x37).bind fun x39=>
  (wC a2 x39).bind fun x41=>
  (if decide (x41<0) then
    (some (w64 (s29.1+x33.Size),w64 (s29.2.1+1)))
   else
    ((idx a2.Files x41).bind fun x44=>
    some (w64 ((w64 (s29.1+x33.Size))-(x44.Data.length:Int)),s29.2.1))).bind fun v46=>
  some (Lp.go (v46.1,v46.2,w64 (s29.2.2+1))))
 else
  (some (Lp.done (s29.1,s29.2.1)))
noncomputable def zEP (a1:(List Pack)) (a2:zC) (x4:(List Int)):(Int×Int×Int)→Option (Int×Int):=loop (zC2 a1 a2 x4)
noncomputable def zEA (a1:(List Pack)) (a2:zC) (a3:(List Int)):Option (Int×Int):=
 (zAI a1 a2 a3).bind fun x4=>
 (kR a1 a3).bind fun x6=>
 (zD0 a2).bind fun x8=>
 (xG x8).bind fun x10=>
 (zEP a1 a2 x4 (w64 ((x6.size:Int)+(x10.size:Int)),1,0)).bind fun v47=>
 (wC a2 (bs [99,117,114])).bind fun x48=>
 (if decide (x48≥0) then
   ((idx a2.Files x48).bind fun x51=>
   some (w64 (v47.1-(x51.Data.length:Int)),v47.2))
  else
   (some (v47.1,w64 (v47.2+1)))).bind fun v53=>
 some (v53.1,v53.2)
noncomputable def zAn (a1:Int) (a2:Int):Option Int:=
 if decide (a1>a2) then
  (some a1)
 else
  (some a2)
noncomputable def zCw (a1:(List Pack)) (a2:zC) (a3:(List Int)) (x6:(List Int)) (s27:(Int×Int×Int)):Option (Lp (Int×Int×Int) (Int×Int)):=
 if decide (s27.2.2< (x6.length:Int)) then
  ((idx x6 s27.2.2).bind fun x29=>
  (idx a1 x29).bind fun x31=>
  (idx x6 s27.2.2).bind fun x33=>
  (idx a1 x33).bind fun x35=>
  (uX x35).bind fun x37=>
  (wC a2 x37).bind fun x39=>
  (if decide (x39≥0) then
    ((idx a2.Files x39).bind fun x42=>
    some (w64 ((w64 (s27.1+x31.Size))-(x42.Data.length:Int))))
   else
    (some (w64 (s27.1+x31.Size)))).bind fun v44=>
  (zAn s27.2.1 v44).bind fun x45=>
  some (Lp.go (v44,x45,w64 (s27.2.2+1))))
 else
  (some (Lp.done (s27.1,s27.2.1)))
noncomputable def zEQ (a1:(List Pack)) (a2:zC) (a3:(List Int)) (x6:(List Int)):(Int×Int×Int)→Option (Int×Int):=loop (zCw a1 a2 a3 x6)
noncomputable def zEE (a1:(List Pack)) (a2:zC) (a3:(List Int)):Option Int:=
 (wV a2).bind fun x4=>
 (zAI a1 a2 a3).bind fun x6=>
 (zEQ a1 a2 a3 x6 (x4,x4,0)).bind fun v47=>
 (kR a1 a3).bind fun x48=>
 (zAn v47.2 (w64 (v47.1+(x48.size:Int)))).bind fun x50=>
 (zD0 a2).bind fun x52=>
 (xG x52).bind fun x54=>
 (wC a2 (bs [99,117,114])).bind fun x56=>
 (if decide (x56≥0) then
   ((idx a2.Files x56).bind fun x59=>
   some (w64 ((w64 ((w64 (v47.1+(x48.size:Int)))+(x54.size:Int)))-(x59.Data.length:Int))))
  else
   (some (w64 ((w64 (v47.1+(x48.size:Int)))+(x54.size:Int))))).bind fun v61=>
 (zAn x50 v61).bind fun x62=>
 some x62
noncomputable def zED (a1:zC):Option (Bool×zC):=
 if a1.Down then
  (some (false,a1))
 else
  ((if a1.Stop !=(-1) then
     (some (decide (a1.Writes≥a1.Stop)))
    else
     (some false)).bind fun v4=>
  if v4 then
   (some (false,({Files:=a1.Files,Budget:=a1.Budget,Writes:=a1.Writes,Stop:=a1.Stop,Down:=true}:zC)))
  else
   (some (true,({Files:=a1.Files,Budget:=a1.Budget,Writes:=w64 (a1.Writes+1),Stop:=a1.Stop,Down:=a1.Down}:zC))))
noncomputable def zAk (a2:ByteArray) (x17:(Bool×zC)) (x20:(List Int)) (s30:Int):Option (Lp Int Int):=
 (if decide (s30< (x17.2.Files.length:Int)) then
   ((idx x17.2.Files s30).bind fun x32=>
   some (slt x32.Path a2))
  else
   (some false)).bind fun v34=>
 if v34 then
  (some (Lp.go (w64 (s30+1))))
 else
  (some (Lp.done s30))
noncomputable def zDJ (a2:ByteArray) (x17:(Bool×zC)) (x20:(List Int)):Int→Option Int:=loop (zAk a2 x17 x20)
noncomputable def tV (a1:zC) (a2:ByteArray) (a3:(List Int)):Option (Int×zC):=
 (wC a1 a2).bind fun x4=>
 (if decide (x4≥0) then
   ((idx a1.Files x4).bind fun x7=>
   some (x7.Data.length:Int))
  else
   (some 0)).bind fun v9=>
 (if decide ((a3.length:Int)>4000) then
   (some true)
  else
   (if decide (x4<0) then
    (some (decide ((a1.Files.length:Int)≥120)))
   else
    (some false))).bind fun v12=>
 if v12 then
  (some (2,a1))
 else
  ((wV a1).bind fun x14=>
  if decide ((w64 ((w64 (x14-v9))+(a3.length:Int)))>a1.Budget) then
   (some (8,a1))
  else
   ((zED a1).bind fun x17=>
   if !x17.1 then
    (some (9,x17.2))
   else
    ((app 1 ([]:List Int) a3).bind fun x20=>
    if decide (x4≥0) then
     ((idx x17.2.Files x4).bind fun x23=>
     some (0,({Files:=x17.2.Files.set x4.toNat ({Path:=a2,Data:=x20}:File),Budget:=x17.2.Budget,Writes:=x17.2.Writes,Stop:=x17.2.Stop,Down:=x17.2.Down}:zC)))
    else
     ((zDJ a2 x17 x20 0).bind fun v36=>
     (zGM x17.2.Files 0 v36).bind fun x37=>
     (app 40 ([]:List File) x37).bind fun x39=>
     (app 40 x39 [({Path:=a2,Data:=x20}:File)]).bind fun x41=>
     (zGM x17.2.Files v36 (x17.2.Files.length:Int)).bind fun x43=>
     (app 40 x41 x43).bind fun x45=>
     some (0,({Files:=x45,Budget:=x17.2.Budget,Writes:=x17.2.Writes,Stop:=x17.2.Stop,Down:=x17.2.Down}:zC))))))
noncomputable def zBI (a1:(List Pack)) (a3:(List Int)) (x11:Int) (x20:(List Int)) (s54:((List File)×Int×Int×Int×Bool×Int)):Option (Lp ((List File)×Int×Int×Int×Bool×Int) (Fl (Int×zC) ((List File)×Int×Int×Int×Bool))):=
 if decide (s54.2.2.2.2.2< (x20.length:Int)) then
  ((idx x20 s54.2.2.2.2.2).bind fun x56=>
  (idx a1 x56).bind fun x58=>
  (uX x58).bind fun x60=>
  (idx x20 s54.2.2.2.2.2).bind fun x62=>
  (idx a1 x62).bind fun x64=>
  (zAx x64).bind fun x66=>
  (tV ({Files:=s54.1,Budget:=s54.2.1,Writes:=s54.2.2.1,Stop:=s54.2.2.2.1,Down:=s54.2.2.2.2.1}:zC) x60 x66).bind fun x68=>
  if x68.1 !=0 then
   (some (Lp.done (Fl.ret (x68.1,x68.2))))
  else
   (some (Lp.go (x68.2.Files,x68.2.Budget,x68.2.Writes,x68.2.Stop,x68.2.Down,w64 (s54.2.2.2.2.2+1)))))
 else
  (some (Lp.done (Fl.nxt (s54.1,s54.2.1,s54.2.2.1,s54.2.2.2.1,s54.2.2.2.2.1))))
noncomputable def zDT (a1:(List Pack)) (a3:(List Int)) (x11:Int) (x20:(List Int)):((List File)×Int×Int×Int×Bool×Int)→Option (Fl (Int×zC) ((List File)×Int×Int×Int×Bool)):=loop (zBI a1 a3 x11 x20)
noncomputable def zEn (a1:(List Pack)) (a2:zC) (a3:(List Int)):Option (Int×zC):=
 (zDG a1 a3).bind fun x4=>
 (if !x4 then
   (some true)
  else
   ((zDy a1 a3).bind fun x7=>
   some (!x7))).bind fun v9=>
 if v9 then
  (some (1,a2))
 else
  ((zD0 a2).bind fun x11=>
  if decide (x11>999999) then
   (some (2,a2))
  else
   ((zEA a1 a2 a3).bind fun x14=>
   (zEE a1 a2 a3).bind fun x16=>
   if decide (x16>a2.Budget) then
    (some (8,a2))
   else
    (if decide ((w64 ((a2.Files.length:Int)+x14.2))>120) then
     (some (2,a2))
    else
     ((zAI a1 a2 a3).bind fun x20=>
     (zDT a1 a3 x11 x20 (a2.Files,a2.Budget,a2.Writes,a2.Stop,a2.Down,0)).bind (Fl.go some fun v71=>
     (tY x11).bind fun x72=>
     (kR a1 a3).bind fun x74=>
     (tV ({Files:=v71.1,Budget:=v71.2.1,Writes:=v71.2.2.1,Stop:=v71.2.2.2.1,Down:=v71.2.2.2.2}:zC) x72 (s2b x74)).bind fun x76=>
     if x76.1 !=0 then
      (some (x76.1,x76.2))
     else
      ((xG x11).bind fun x79=>
      (tV x76.2 (bs [99,117,114]) (s2b x79)).bind fun x81=>
      some (x81.1,x81.2)))))))
noncomputable def zEF (a1:zC) (a2:Int):Option zI:=
 (if a2 !=0 then
   (some (a2 !=9))
  else
   (some false)).bind fun v4=>
 if v4 then
  (some ({Code:=a2,zC:=({Files:=([]:List File),Budget:=0,Writes:=0,Stop:=0,Down:=false}:zC)}:zI))
 else
  (some ({Code:=a2,zC:=a1}:zI))
noncomputable def zAE (a1:(List Pack)) (a2:zC) (a3:(List Int)):Option zI:=
 (zCh a1 a2).bind fun x4=>
 if x4 !=0 then
  (some ({Code:=x4,zC:=({Files:=([]:List File),Budget:=0,Writes:=0,Stop:=0,Down:=false}:zC)}:zI))
 else
  ((zB2 a2).bind fun x7=>
  (zEn a1 x7 a3).bind fun x9=>
  (zEF x9.2 x9.1).bind fun x11=>
  some x11)
noncomputable def xZ (a1:Int):Option Bool:=
 if decide (a1≥97) then
  (if decide (a1≤122) then
   (some true)
  else
   (if decide (a1≥48) then
    (if decide (a1≤57) then
     (some true)
    else
     (some (a1==95)))
   else
    (some (a1==95))))
 else
  (if decide (a1≥48) then
   (if decide (a1≤57) then
    (some true)
   else
    (some (a1==95)))
  else
   (some (a1==95)))
noncomputable def zBU (a1:ByteArray) (s17:Int):Option (Lp Int (Fl Int Unit)):=
 if decide (s17< (a1.size:Int)) then
  ((bidx a1 s17).bind fun x19=>
  (xZ x19).bind fun x21=>
  if !x21 then
   (some (Lp.done (Fl.ret 5)))
  else
   (some (Lp.go (w64 (s17+1)))))
 else
  (some (Lp.done (Fl.nxt ())))
noncomputable def kF (a1:ByteArray):Int→Option (Fl Int Unit):=loop (zBU a1)
noncomputable def vG (a1:ByteArray):Option Int:=
 (if decide ((a1.size:Int)<1) then
   (some true)
  else
   (if decide ((a1.size:Int)>12) then
    (some true)
   else
    ((bidx a1 0).bind fun x4=>
    if decide (x4<97) then
     (some true)
    else
     ((bidx a1 0).bind fun x7=>
     some (decide (x7>122)))))).bind fun v9=>
 if v9 then
  (some 5)
 else
  ((kF a1 0).bind (Fl.go some fun v24=>
  some 0))
noncomputable def xL (a1:Int) (a2:Int) (a3:Int):Option Bool:=
 if decide (a2≤a1) then
  (some (decide (a1≤a3)))
 else
  (some false)
noncomputable def wF (a1:Version):Option Int:=
 (xL a1.A 0 999).bind fun x2=>
 (if !x2 then
   (some true)
  else
   ((xL a1.B 0 999).bind fun x5=>
   if !x5 then
    (some true)
   else
    ((xL a1.C 0 999).bind fun x8=>
    some (!x8)))).bind fun v10=>
 if v10 then
  (some 3)
 else
  (some 0)
noncomputable def zAr (a1:(List Int)) (s6:Int):Option (Lp Int (Fl Int Unit)):=
 if decide (s6< (a1.length:Int)) then
  ((idx a1 s6).bind fun x8=>
  if x8 !=0 then
   (some (Lp.done (Fl.ret x8)))
  else
   (some (Lp.go (w64 (s6+1)))))
 else
  (some (Lp.done (Fl.nxt ())))
noncomputable def zBm (a1:(List Int)):Int→Option (Fl Int Unit):=loop (zAr a1)
noncomputable def zAY (a1:(List Int)):Option Int:=
 (zBm a1 0).bind (Fl.go some fun v11=>
 some 0)
noncomputable def zAm (a1:(List Term)):Option Bool:=
 some (decide ((a1.length:Int)>4))
noncomputable def yG (a1:(List (List Term))) (s8:Int):Option (Lp Int (Fl Int Unit)):=
 if decide (s8< (a1.length:Int)) then
  ((idx a1 s8).bind fun x10=>
  (zAm x10).bind fun x12=>
  if x12 then
   (some (Lp.done (Fl.ret s8)))
  else
   (some (Lp.go (w64 (s8+1)))))
 else
  (some (Lp.done (Fl.nxt ())))
noncomputable def yK (a1:(List (List Term))):Int→Option (Fl Int Unit):=loop (yG a1)
noncomputable def yB (a1:(List (List Term))):Option Int:=
 (yK a1 0).bind (Fl.go some fun v15=>
 some (-1))
noncomputable def zO (a1:(List (List Term))):Option Bool:=
 (yB a1).bind fun x2=>
 some (decide (x2≥0))
noncomputable def vV (a1:(List ByteArray)) (a2:ByteArray) (s7:Int):Option (Lp Int (Fl Int Unit)):=
 if decide (s7< (a1.length:Int)) then
  ((idx a1 s7).bind fun x9=>
  if seq a2 x9 then
   (some (Lp.done (Fl.ret s7)))
  else
   (some (Lp.go (w64 (s7+1)))))
 else
  (some (Lp.done (Fl.nxt ())))
noncomputable def uD (a1:(List ByteArray)) (a2:ByteArray):Int→Option (Fl Int Unit):=loop (vV a1 a2)
noncomputable def uM (a1:(List ByteArray)) (a2:ByteArray):Option Int:=
 (uD a1 a2 0).bind (Fl.go some fun v12=>
 some (-1))
noncomputable def wP (a1:(List ByteArray)) (a2:ByteArray):Option Bool:=
 (uM a1 a2).bind fun x3=>
 some (decide (x3≥0))
noncomputable def zFx:Option Version:=
 some ({A:=1000,B:=0,C:=0}:Version)
noncomputable def jB (a1:Int):Option Bool:=
 some (a1 !=a1)
noncomputable def wJ (a1:Int) (a2:Int):Option Int:=
 (jB a1).bind fun x3=>
 (jB a2).bind fun x5=>
 if x3 then
  (if x5 then
   (some 0)
  else
   (some (-1)))
 else
  (if x5 then
   (some 1)
  else
   (if decide (a1<a2) then
    (some (-1))
   else
    (if decide (a1>a2) then
     (some 1)
    else
     (some 0))))
noncomputable def zDf (a1:(List Int)) (s6:Int):Option (Lp Int (Fl Int Unit)):=
 if decide (s6< (a1.length:Int)) then
  ((idx a1 s6).bind fun x8=>
  if x8 !=0 then
   (some (Lp.done (Fl.ret x8)))
  else
   (some (Lp.go (w64 (s6+1)))))
 else
  (some (Lp.done (Fl.nxt ())))
noncomputable def zDM (a1:(List Int)):Int→Option (Fl Int Unit):=loop (zDf a1)
noncomputable def zE1 (a1:(List Int)):Option Int:=
 (zDM a1 0).bind (Fl.go some fun v11=>
 some 0)
noncomputable def uQ (a1:Version) (a2:Version):Option Int:=
 (wJ a1.A a2.A).bind fun x3=>
 (wJ a1.B a2.B).bind fun x5=>
 (wJ a1.C a2.C).bind fun x7=>
 (zE1 [x3,x5,x7]).bind fun x9=>
 some x9
noncomputable def zAV (a1:Term):Option Int:=
 (vG a1.Name).bind fun x2=>
 if x2 !=0 then
  (some x2)
 else
  ((wF a1.Low).bind fun x5=>
  if x5 !=0 then
   (some x5)
  else
   ((zFx).bind fun x8=>
   (if !(a1.High.A==x8.A&&(a1.High.B==x8.B&&(a1.High.C==x8.C&&true))) then
     ((wF a1.High).bind fun x11=>
     some (x11 !=0))
    else
     (some false)).bind fun v13=>
   if v13 then
    (some 3)
   else
    ((uQ a1.Low a1.High).bind fun x15=>
    if decide (x15≥0) then
     (some 1)
    else
     (some 0))))
noncomputable def kK (a1:(List Term)) (s8:Int):Option (Lp Int (Fl Int Unit)):=
 if decide (s8< (a1.length:Int)) then
  ((idx a1 s8).bind fun x10=>
  (zAV x10).bind fun x12=>
  if x12 !=0 then
   (some (Lp.done (Fl.ret x12)))
  else
   (some (Lp.go (w64 (s8+1)))))
 else
  (some (Lp.done (Fl.nxt ())))
noncomputable def zA9 (a1:(List Term)):Int→Option (Fl Int Unit):=loop (kK a1)
noncomputable def vL (a1:(List Term)):Option Int:=
 (zA9 a1 0).bind (Fl.go some fun v15=>
 some 0)
noncomputable def zA6 (a1:Pack) (s54:Int):Option (Lp Int (Fl Int Unit)):=
 if decide (s54< (a1.Needs.length:Int)) then
  ((idx a1.Needs s54).bind fun x56=>
  if (x56.length:Int)==0 then
   (some (Lp.done (Fl.ret 1)))
  else
   ((vL x56).bind fun x59=>
   if x59 !=0 then
    (some (Lp.done (Fl.ret x59)))
   else
    (some (Lp.go (w64 (s54+1))))))
 else
  (some (Lp.done (Fl.nxt ())))
noncomputable def jY (a1:Pack):Int→Option (Fl Int Unit):=loop (zA6 a1)
noncomputable def zAD (a1:Pack) (s32:Int):Option (Lp Int (Fl Int Unit)):=
 if decide (s32< (a1.Provides.length:Int)) then
  ((idx a1.Provides s32).bind fun x34=>
  (vG x34).bind fun x36=>
  if x36 !=0 then
   (some (Lp.done (Fl.ret x36)))
  else
   ((if seq x34 a1.Name then
      (some true)
     else
      ((zGM a1.Provides 0 s32).bind fun x40=>
      (wP x40 x34).bind fun x42=>
      some x42)).bind fun v44=>
   if v44 then
    (some (Lp.done (Fl.ret 6)))
   else
    (some (Lp.go (w64 (s32+1))))))
 else
  (some (Lp.done (Fl.nxt ())))
noncomputable def jX (a1:Pack):Int→Option (Fl Int Unit):=loop (zAD a1)
noncomputable def zAT (a1:Pack):Option Int:=
 (vG a1.Name).bind fun x2=>
 (wF a1.Version).bind fun x4=>
 (zAY [x2,x4]).bind fun x6=>
 if x6 !=0 then
  (some x6)
 else
  ((xL a1.Size 1 200).bind fun x9=>
  if !x9 then
   (some 3)
  else
   ((if decide ((a1.Provides.length:Int)>4) then
      (some true)
     else
      (if decide ((a1.Needs.length:Int)>4) then
       (some true)
      else
       (if decide ((a1.Bars.length:Int)>4) then
        (some true)
       else
        ((zO a1.Needs).bind fun x15=>
        some x15)))).bind fun v17=>
   if v17 then
    (some 2)
   else
    ((jX a1 0).bind (Fl.go some fun v46=>
    (jY a1 0).bind (Fl.go some fun v62=>
    (vL a1.Bars).bind fun x63=>
    some x63)))))
noncomputable def zEc (a1:Pack) (a2:ByteArray) (a3:Version):Option Bool:=
 if seq a1.Name a2 then
  (some (a1.Version.A==a3.A&&(a1.Version.B==a3.B&&(a1.Version.C==a3.C&&true))))
 else
  (some false)
noncomputable def xE (a1:(List Pack)) (a2:ByteArray) (a3:Version) (s10:Int):Option (Lp Int (Fl Int Unit)):=
 if decide (s10< (a1.length:Int)) then
  ((idx a1 s10).bind fun x12=>
  (zEc x12 a2 a3).bind fun x14=>
  if x14 then
   (some (Lp.done (Fl.ret s10)))
  else
   (some (Lp.go (w64 (s10+1)))))
 else
  (some (Lp.done (Fl.nxt ())))
noncomputable def xK (a1:(List Pack)) (a2:ByteArray) (a3:Version):Int→Option (Fl Int Unit):=loop (xE a1 a2 a3)
noncomputable def yY (a1:(List Pack)) (a2:ByteArray) (a3:Version):Option Int:=
 (xK a1 a2 a3 0).bind (Fl.go some fun v17=>
 some (-1))
noncomputable def zEm (a1:(List Pack)) (a2:ByteArray) (a3:Version):Option Int:=
 (yY a1 a2 a3).bind fun x4=>
 some x4
noncomputable def tQ (a1:(List Pack)) (s14:Int):Option (Lp Int (Fl Int Unit)):=
 if decide (s14< (a1.length:Int)) then
  ((idx a1 s14).bind fun x16=>
  (zAT x16).bind fun x18=>
  if x18 !=0 then
   (some (Lp.done (Fl.ret x18)))
  else
   ((zGM a1 0 s14).bind fun x21=>
   (zEm x21 x16.Name x16.Version).bind fun x23=>
   if decide (x23≥0) then
    (some (Lp.done (Fl.ret 6)))
   else
    (some (Lp.go (w64 (s14+1))))))
 else
  (some (Lp.done (Fl.nxt ())))
noncomputable def jO (a1:(List Pack)):Int→Option (Fl Int Unit):=loop (tQ a1)
noncomputable def vB (a1:(List Pack)):Option Int:=
 if decide ((a1.length:Int)>24) then
  (some 2)
 else
  ((jO a1 0).bind (Fl.go some fun v26=>
  some 0))
noncomputable def zDL (a1:ByteArray) (s15:Int):Option (Lp Int (Fl Int Unit)):=
 if decide (s15< (a1.size:Int)) then
  ((bidx a1 s15).bind fun x17=>
  (xZ x17).bind fun x19=>
  (if !x19 then
    (if x17 !=46 then
     (if x17 !=45 then
      (some (x17 !=47))
     else
      (some false))
    else
     (some false))
   else
    (some false)).bind fun v24=>
  if v24 then
   (some (Lp.done (Fl.ret 5)))
  else
   (some (Lp.go (w64 (s15+1)))))
 else
  (some (Lp.done (Fl.nxt ())))
noncomputable def jW (a1:ByteArray):Int→Option (Fl Int Unit):=loop (zDL a1)
noncomputable def vY (a1:ByteArray):Option Int:=
 (if decide ((a1.size:Int)<1) then
   (some true)
  else
   (some (decide ((a1.size:Int)>40)))).bind fun v3=>
 if v3 then
  (some 5)
 else
  ((jW a1 0).bind (Fl.go some fun v26=>
  some 0))
noncomputable def zEG (a1:zC) (s5:(Int×Int)):Option (Lp (Int×Int) Int):=
 if decide (s5.2< (a1.Files.length:Int)) then
  ((idx a1.Files s5.2).bind fun x7=>
  some (Lp.go (w64 (s5.1+(x7.Data.length:Int)),w64 (s5.2+1))))
 else
  (some (Lp.done s5.1))
noncomputable def zBY (a1:zC):(Int×Int)→Option Int:=loop (zEG a1)
noncomputable def wS (a1:zC):Option Int:=
 (zBY a1 (0,0)).bind fun v9=>
 some v9
noncomputable def zDW (a1:zC) (s25:Int):Option (Lp Int (Fl Int Unit)):=
 if decide (s25< (a1.Files.length:Int)) then
  ((idx a1.Files s25).bind fun x27=>
  (vY x27.Path).bind fun x29=>
  if x29 !=0 then
   (some (Lp.done (Fl.ret x29)))
  else
   ((if decide (s25>0) then
      ((idx a1.Files (w64 (s25-1))).bind fun x33=>
      some (slt x27.Path x33.Path||seq x27.Path x33.Path))
     else
      (some false)).bind fun v35=>
   if v35 then
    (some (Lp.done (Fl.ret 1)))
   else
    (if decide ((x27.Data.length:Int)>4000) then
     (some (Lp.done (Fl.ret 2)))
    else
     (some (Lp.go (w64 (s25+1)))))))
 else
  (some (Lp.done (Fl.nxt ())))
noncomputable def kG (a1:zC):Int→Option (Fl Int Unit):=loop (zDW a1)
noncomputable def zAW (a1:zC):Option Int:=
 (xL a1.Budget 0 20000).bind fun x2=>
 (if !x2 then
   (some true)
  else
   ((xL a1.Writes 0 1000000000).bind fun x5=>
   if !x5 then
    (some true)
   else
    ((xL a1.Stop (-1) 1000000000).bind fun x8=>
    some (!x8)))).bind fun v10=>
 if v10 then
  (some 3)
 else
  (if decide ((a1.Files.length:Int)>120) then
   (some 2)
  else
   ((kG a1 0).bind (Fl.go some fun v38=>
   (wS a1).bind fun x39=>
   if decide (x39>a1.Budget) then
    (some 8)
   else
    (some 0))))
noncomputable def wK (a1:(List Int)):Option (List Int):=
 (app 1 ([]:List Int) a1).bind fun x3=>
 some x3
noncomputable def zCW (a1:zC) (s16:((List File)×Int)):Option (Lp ((List File)×Int) (List File)):=
 if decide (s16.2< (a1.Files.length:Int)) then
  ((idx a1.Files s16.2).bind fun x18=>
  (wK x18.Data).bind fun x20=>
  (app 40 s16.1 [({Path:=x18.Path,Data:=x20}:File)]).bind fun x22=>
  some (Lp.go (x22,w64 (s16.2+1))))
 else
  (some (Lp.done s16.1))
noncomputable def uV (a1:zC):((List File)×Int)→Option (List File):=loop (zCW a1)
noncomputable def uP (a1:zC):Option zC:=
 (uV a1 (([]:List File),0)).bind fun v24=>
 some ({Files:=v24,Budget:=a1.Budget,Writes:=a1.Writes,Stop:=a1.Stop,Down:=a1.Down}:zC)
noncomputable def zAq (a1:Int) (a2:(List Pack)):Option Bool:=
 (xL a1 0 (w64 ((a2.length:Int)-1))).bind fun x3=>
 some (!x3)
noncomputable def yV (a1:(List Int)) (a2:(List Pack)) (s9:Int):Option (Lp Int (Fl Int Unit)):=
 if decide (s9< (a1.length:Int)) then
  ((idx a1 s9).bind fun x11=>
  (zAq x11 a2).bind fun x13=>
  if x13 then
   (some (Lp.done (Fl.ret s9)))
  else
   (some (Lp.go (w64 (s9+1)))))
 else
  (some (Lp.done (Fl.nxt ())))
noncomputable def yZ (a1:(List Int)) (a2:(List Pack)):Int→Option (Fl Int Unit):=loop (yV a1 a2)
noncomputable def yO (a1:(List Int)) (a2:(List Pack)):Option Int:=
 (yZ a1 a2 0).bind (Fl.go some fun v16=>
 some (-1))
noncomputable def yD (a1:(List Int)) (a2:(List Pack)):Option Bool:=
 (yO a1 a2).bind fun x3=>
 some (decide (x3≥0))
noncomputable def zAK (a1:(List Pack)) (a2:(List Int)):Option Bool:=
 (yD a2 a1).bind fun x3=>
 some (!x3)
noncomputable def vU (a1:(List Pack)) (a2:(List Int)) (s12:Int):Option (Lp Int (Fl Int Unit)):=
 if decide (s12< (a2.length:Int)) then
  ((idx a2 s12).bind fun x14=>
  (idx a2 (w64 (s12-1))).bind fun x16=>
  if decide (x14≤x16) then
   (some (Lp.done (Fl.ret 1)))
  else
   (some (Lp.go (w64 (s12+1)))))
 else
  (some (Lp.done (Fl.nxt ())))
noncomputable def zAo (a1:(List Pack)) (a2:(List Int)):Int→Option (Fl Int Unit):=loop (vU a1 a2)
noncomputable def zB3 (a1:(List Pack)) (a2:(List Int)):Option Int:=
 (vB a1).bind fun x3=>
 if x3 !=0 then
  (some x3)
 else
  ((zAo a1 a2 1).bind (Fl.go some fun v19=>
  (zAK a1 a2).bind fun x20=>
  if !x20 then
   (some 1)
  else
   (some 0)))
noncomputable def zCZ (a1:(List Pack)) (a2:(List Int)) (a3:ByteArray) (s10:Int):Option (Lp Int (Fl Int Unit)):=
 if decide (s10< (a2.length:Int)) then
  ((idx a2 s10).bind fun x12=>
  (idx a1 x12).bind fun x14=>
  if seq x14.Name a3 then
   (some (Lp.done (Fl.ret x12)))
  else
   (some (Lp.go (w64 (s10+1)))))
 else
  (some (Lp.done (Fl.nxt ())))
noncomputable def zDO (a1:(List Pack)) (a2:(List Int)) (a3:ByteArray):Int→Option (Fl Int Unit):=loop (zCZ a1 a2 a3)
noncomputable def zEh (a1:(List Pack)) (a2:(List Int)) (a3:ByteArray):Option Int:=
 (zDO a1 a2 a3 0).bind (Fl.go some fun v17=>
 some (-1))
noncomputable def zBl (a1:Pack):Option (List ByteArray):=
 (app 16 [a1.Name] a1.Provides).bind fun x2=>
 some x2
noncomputable def zBz (a1:Term) (a2:ByteArray) (a3:Version):Option Bool:=
 if seq a1.Name a2 then
  ((uQ a1.Low a3).bind fun x5=>
  if decide (x5≤0) then
   ((uQ a3 a1.High).bind fun x8=>
   some (decide (x8<0)))
  else
   (some false))
 else
  (some false)
noncomputable def jZ (a1:ByteArray) (a2:Term) (a3:Pack):Option Bool:=
 (zBz a2 a1 a3.Version).bind fun x4=>
 some x4
noncomputable def yJ (a1:(List ByteArray)) (a2:Term) (a3:Pack) (s10:Int):Option (Lp Int (Fl Int Unit)):=
 if decide (s10< (a1.length:Int)) then
  ((idx a1 s10).bind fun x12=>
  (jZ x12 a2 a3).bind fun x14=>
  if x14 then
   (some (Lp.done (Fl.ret s10)))
  else
   (some (Lp.go (w64 (s10+1)))))
 else
  (some (Lp.done (Fl.nxt ())))
noncomputable def yQ (a1:(List ByteArray)) (a2:Term) (a3:Pack):Int→Option (Fl Int Unit):=loop (yJ a1 a2 a3)
noncomputable def yC (a1:(List ByteArray)) (a2:Term) (a3:Pack):Option Int:=
 (yQ a1 a2 a3 0).bind (Fl.go some fun v17=>
 some (-1))
noncomputable def zW (a1:(List ByteArray)) (a2:Term) (a3:Pack):Option Bool:=
 (yC a1 a2 a3).bind fun x4=>
 some (decide (x4≥0))
noncomputable def uL (a1:Pack) (a2:Term):Option Bool:=
 (zBl a1).bind fun x3=>
 (zW x3 a2 a1).bind fun x5=>
 some x5
noncomputable def yP (a1:(List Term)) (a2:Pack) (s9:Int):Option (Lp Int (Fl Int Unit)):=
 if decide (s9< (a1.length:Int)) then
  ((idx a1 s9).bind fun x11=>
  (uL a2 x11).bind fun x13=>
  if x13 then
   (some (Lp.done (Fl.ret s9)))
  else
   (some (Lp.go (w64 (s9+1)))))
 else
  (some (Lp.done (Fl.nxt ())))
noncomputable def yT (a1:(List Term)) (a2:Pack):Int→Option (Fl Int Unit):=loop (yP a1 a2)
noncomputable def yE (a1:(List Term)) (a2:Pack):Option Int:=
 (yT a1 a2 0).bind (Fl.go some fun v16=>
 some (-1))
noncomputable def yA (a1:(List Term)) (a2:Pack):Option Bool:=
 (yE a1 a2).bind fun x3=>
 some (decide (x3≥0))
noncomputable def uH (a1:Pack) (a2:(List Term)):Option Bool:=
 (yA a2 a1).bind fun x3=>
 some x3
noncomputable def zCO (a1:Int) (a2:(List Pack)) (a3:(List Term)):Option Bool:=
 (idx a2 a1).bind fun x4=>
 (uH x4 a3).bind fun x6=>
 some x6
noncomputable def xH (a1:(List Int)) (a2:(List Pack)) (a3:(List Term)) (s10:Int):Option (Lp Int (Fl Int Unit)):=
 if decide (s10< (a1.length:Int)) then
  ((idx a1 s10).bind fun x12=>
  (zCO x12 a2 a3).bind fun x14=>
  if x14 then
   (some (Lp.done (Fl.ret s10)))
  else
   (some (Lp.go (w64 (s10+1)))))
 else
  (some (Lp.done (Fl.nxt ())))
noncomputable def xM (a1:(List Int)) (a2:(List Pack)) (a3:(List Term)):Int→Option (Fl Int Unit):=loop (xH a1 a2 a3)
noncomputable def xB (a1:(List Int)) (a2:(List Pack)) (a3:(List Term)):Option Int:=
 (xM a1 a2 a3 0).bind (Fl.go some fun v17=>
 some (-1))
noncomputable def zX (a1:(List Int)) (a2:(List Pack)) (a3:(List Term)):Option Bool:=
 (xB a1 a2 a3).bind fun x4=>
 some (decide (x4≥0))
noncomputable def zCP (a1:Int) (a2:Int) (a3:(List Pack)) (a4:Term):Option Bool:=
 if a1 !=a2 then
  ((idx a3 a1).bind fun x6=>
  (uL x6 a4).bind fun x8=>
  some x8)
 else
  (some false)
noncomputable def xJ (a1:(List Int)) (a2:Int) (a3:(List Pack)) (a4:Term) (s11:Int):Option (Lp Int (Fl Int Unit)):=
 if decide (s11< (a1.length:Int)) then
  ((idx a1 s11).bind fun x13=>
  (zCP x13 a2 a3 a4).bind fun x15=>
  if x15 then
   (some (Lp.done (Fl.ret s11)))
  else
   (some (Lp.go (w64 (s11+1)))))
 else
  (some (Lp.done (Fl.nxt ())))
noncomputable def xO (a1:(List Int)) (a2:Int) (a3:(List Pack)) (a4:Term):Int→Option (Fl Int Unit):=loop (xJ a1 a2 a3 a4)
noncomputable def xC (a1:(List Int)) (a2:Int) (a3:(List Pack)) (a4:Term):Option Int:=
 (xO a1 a2 a3 a4 0).bind (Fl.go some fun v18=>
 some (-1))
noncomputable def zY (a1:(List Int)) (a2:Int) (a3:(List Pack)) (a4:Term):Option Bool:=
 (xC a1 a2 a3 a4).bind fun x5=>
 some (decide (x5≥0))
noncomputable def zCF (a1:(List Pack)) (a2:(List Int)) (s56:((List zQ)×Int)) (x58:Int) (x60:Pack) (s99:((List zQ)×Int)):Option (Lp ((List zQ)×Int) (List zQ)):=
 if decide (s99.2< (x60.Bars.length:Int)) then
  ((idx x60.Bars s99.2).bind fun x101=>
  (zY a2 x58 a1 x101).bind fun x103=>
  (if x103 then
    ((app 24 s99.1 [({Kind:=3,Pack:=x58,At:=s99.2}:zQ)]).bind fun x106=>
    some x106)
   else
    (some s99.1)).bind fun v108=>
  some (Lp.go (v108,w64 (s99.2+1))))
 else
  (some (Lp.done s99.1))
noncomputable def zDb (a1:(List Pack)) (a2:(List Int)) (s56:((List zQ)×Int)) (x58:Int) (x60:Pack):((List zQ)×Int)→Option (List zQ):=loop (zCF a1 a2 s56 x58 x60)
noncomputable def zC9 (a1:(List Pack)) (a2:(List Int)) (s56:((List zQ)×Int)) (x58:Int) (x60:Pack) (s79:((List zQ)×Int)):Option (Lp ((List zQ)×Int) (List zQ)):=
 if decide (s79.2< (x60.Needs.length:Int)) then
  ((idx x60.Needs s79.2).bind fun x81=>
  (zX a2 a1 x81).bind fun x83=>
  (if !x83 then
    ((app 24 s79.1 [({Kind:=2,Pack:=x58,At:=s79.2}:zQ)]).bind fun x86=>
    some x86)
   else
    (some s79.1)).bind fun v88=>
  some (Lp.go (v88,w64 (s79.2+1))))
 else
  (some (Lp.done s79.1))
noncomputable def zDc (a1:(List Pack)) (a2:(List Int)) (s56:((List zQ)×Int)) (x58:Int) (x60:Pack):((List zQ)×Int)→Option (List zQ):=loop (zC9 a1 a2 s56 x58 x60)
noncomputable def zC5 (a1:(List Pack)) (a2:(List Int)) (s56:((List zQ)×Int)):Option (Lp ((List zQ)×Int) (List zQ)):=
 if decide (s56.2< (a2.length:Int)) then
  ((idx a2 s56.2).bind fun x58=>
  (idx a1 x58).bind fun x60=>
  (zGM a2 0 s56.2).bind fun x62=>
  (zEh a1 x62 x60.Name).bind fun x64=>
  (if decide (x64≥0) then
    ((app 24 s56.1 [({Kind:=1,Pack:=x58,At:=0}:zQ)]).bind fun x67=>
    some x67)
   else
    (some s56.1)).bind fun v69=>
  (zDc a1 a2 s56 x58 x60 (v69,0)).bind fun v89=>
  (zDb a1 a2 s56 x58 x60 (v89,0)).bind fun v109=>
  some (Lp.go (v109,w64 (s56.2+1))))
 else
  (some (Lp.done s56.1))
noncomputable def zDa (a1:(List Pack)) (a2:(List Int)):((List zQ)×Int)→Option (List zQ):=loop (zC5 a1 a2)
noncomputable def zD9 (a1:(List Pack)) (a2:(List Int)):Option (List zQ):=
 (zDa a1 a2 (([]:List zQ),0)).bind fun v110=>
 some v110
noncomputable def kI (a1:(List Pack)) (a2:(List Int)):Option Bool:=
 (zD9 a1 a2).bind fun x3=>
 some ((x3.length:Int)==0)
noncomputable def xW (a1:ByteArray) (a2:ByteArray):Option Bool:=
 if decide ((a1.size:Int)≥(a2.size:Int)) then
  ((zJR a1 0 (a2.size:Int)).bind fun x4=>
  some (seq x4 a2))
 else
  (some false)
noncomputable def strings_HasPrefix (a1:ByteArray) (a2:ByteArray):Option Bool:=
 (xW a1 a2).bind fun x3=>
 some x3
noncomputable def zD1 (a1:zC) (a2:ByteArray) (s12:((List ByteArray)×Int)):Option (Lp ((List ByteArray)×Int) (List ByteArray)):=
 if decide (s12.2< (a1.Files.length:Int)) then
  ((idx a1.Files s12.2).bind fun x14=>
  (strings_HasPrefix x14.Path a2).bind fun x16=>
  (if x16 then
    ((app 16 s12.1 [x14.Path]).bind fun x19=>
    some x19)
   else
    (some s12.1)).bind fun v21=>
  some (Lp.go (v21,w64 (s12.2+1))))
 else
  (some (Lp.done s12.1))
noncomputable def jH (a1:zC) (a2:ByteArray):((List ByteArray)×Int)→Option (List ByteArray):=loop (zD1 a1 a2)
noncomputable def zAa (a1:zC) (a2:ByteArray):Option (List ByteArray):=
 (jH a1 a2 (([]:List ByteArray),0)).bind fun v22=>
 some v22
noncomputable def zCG (a1:ByteArray) (s16:(Int×Int)):Option (Lp (Int×Int) (Fl Int Int)):=
 if decide (s16.2< (a1.size:Int)) then
  ((bidx a1 s16.2).bind fun x18=>
  (if decide (x18<48) then
    (some true)
   else
    ((bidx a1 s16.2).bind fun x21=>
    some (decide (x21>57)))).bind fun v23=>
  if v23 then
   (some (Lp.done (Fl.ret (-1))))
  else
   ((bidx a1 s16.2).bind fun x25=>
   some (Lp.go (w64 ((w64 (10*s16.1))+(w64 (IntKind.u8.wrap (x25-48)))),w64 (s16.2+1)))))
 else
  (some (Lp.done (Fl.nxt s16.1)))
noncomputable def zDd (a1:ByteArray):(Int×Int)→Option (Fl Int Int):=loop (zCG a1)
noncomputable def zD5 (a1:ByteArray) (a2:Int):Option Int:=
 (if seq a1 (bs []) then
   (some true)
  else
   (some (decide ((a1.size:Int)>a2)))).bind fun v4=>
 if v4 then
  (some (-1))
 else
  ((zDd a1 (0,0)).bind (Fl.go some fun v27=>
  some v27))
noncomputable def zAG (x2:(List ByteArray)) (s17:((List Int)×Int)):Option (Lp ((List Int)×Int) (List Int)):=
 if decide (s17.2< (x2.length:Int)) then
  ((idx x2 s17.2).bind fun x19=>
  (zJR x19 4 (x19.size:Int)).bind fun x21=>
  (zD5 x21 6).bind fun x23=>
  (if decide (x23≥1) then
    (some ((x19.size:Int)==10))
   else
    (some false)).bind fun v26=>
  (if v26 then
    ((app 8 s17.1 [x23]).bind fun x28=>
    some x28)
   else
    (some s17.1)).bind fun v30=>
  some (Lp.go (v30,w64 (s17.2+1))))
 else
  (some (Lp.done s17.1))
noncomputable def zBk (x2:(List ByteArray)):((List Int)×Int)→Option (List Int):=loop (zAG x2)
noncomputable def zAL (a1:zC):Option (List Int):=
 (zAa a1 (bs [103,101,110,47])).bind fun x2=>
 (zBk x2 (([]:List Int),0)).bind fun v31=>
 some v31
noncomputable def zAu (x2:(List Int)) (s7:(Int×Int)):Option (Lp (Int×Int) Int):=
 if decide (s7.2< (x2.length:Int)) then
  ((idx x2 s7.2).bind fun x9=>
  some (Lp.go ((if (w64 (x9+1))>s7.1 then (w64 (x9+1)) else s7.1),w64 (s7.2+1))))
 else
  (some (Lp.done s7.1))
noncomputable def zBp (x2:(List Int)):(Int×Int)→Option Int:=loop (zAu x2)
noncomputable def tL (a1:zC):Option Int:=
 (zAL a1).bind fun x2=>
 (zBp x2 (1,0)).bind fun v11=>
 some v11
noncomputable def uY (a1:(List Int)):Option (List Int):=
 (app 8 ([]:List Int) a1).bind fun x3=>
 some x3
noncomputable def uU (a1 a2:Int):Option ByteArray:=if a2=10∧ -9223372036854775808≤a1∧a1≤9223372036854775807 then some ⟨(Lib.itoa a1).toArray⟩ else none
noncomputable def zAf (a1:Int):Option ByteArray:=
 (uU a1 10).bind fun x2=>
 some x2
noncomputable def wZ (a1:Version):Option ByteArray:=
 (zAf a1.A).bind fun x2=>
 (cat x2 (bs [46])).bind fun x4=>
 (zAf a1.B).bind fun x6=>
 (cat x4 x6).bind fun x8=>
 (cat x8 (bs [46])).bind fun x10=>
 (zAf a1.C).bind fun x12=>
 (cat x10 x12).bind fun x14=>
 some x14
noncomputable def tK (a1:Pack):Option ByteArray:=
 (cat (bs [112,107,103,47]) a1.Name).bind fun x2=>
 (cat x2 (bs [45])).bind fun x4=>
 (wZ a1.Version).bind fun x6=>
 (cat x4 x6).bind fun x8=>
 some x8
noncomputable def bytealg_CompareString (a1 a2:ByteArray):Option Int:=some (zOP a1 a2)
noncomputable def strings_Compare (a1:ByteArray) (a2:ByteArray):Option Int:=
 (bytealg_CompareString a1 a2).bind fun x3=>
 some x3
noncomputable def vS (a1:File) (a2:ByteArray):Option Int:=
 (strings_Compare a1.Path a2).bind fun x3=>
 some x3
noncomputable def yN (a1:(List File)) (a2:ByteArray) (s9:(Int×Int)):Option (Lp (Int×Int) Int):=
 if decide (s9.1<s9.2) then
  ((idx a1 (w64 ((IntKind.u64.wrap (w64 (s9.1+s9.2))).fdiv (2^(min (1:Int).toNat 64))))).bind fun x11=>
  (vS x11 a2).bind fun x13=>
  if decide (x13<0) then
   (some (Lp.go (w64 ((w64 ((IntKind.u64.wrap (w64 (s9.1+s9.2))).fdiv (2^(min (1:Int).toNat 64))))+1),s9.2)))
  else
   (some (Lp.go (s9.1,w64 ((IntKind.u64.wrap (w64 (s9.1+s9.2))).fdiv (2^(min (1:Int).toNat 64)))))))
 else
  (some (Lp.done s9.1))
noncomputable def zV (a1:(List File)) (a2:ByteArray):(Int×Int)→Option Int:=loop (yN a1 a2)
noncomputable def zJ (a1:(List File)) (a2:ByteArray):Option (Int×Bool):=
 (zV a1 a2 (0,(a1.length:Int))).bind fun v16=>
 if decide (v16< (a1.length:Int)) then
  ((idx a1 v16).bind fun x18=>
  (vS x18 a2).bind fun x20=>
  some (v16,x20==0))
 else
  (some (v16,false))
noncomputable def xV (a1:zC) (a2:ByteArray):Option (Int×Bool):=
 (zJ a1.Files a2).bind fun x3=>
 some (x3.1,x3.2)
noncomputable def xP (a1:zC) (a2:ByteArray):Option ((List Int)×Bool):=
 (xV a1 a2).bind fun x3=>
 if !x3.2 then
  (some (([]:List Int),false))
 else
  ((idx a1.Files x3.1).bind fun x6=>
  some (x6.Data,true))
noncomputable def kP (a1:Pack) (s13:(Int×(List Int)×Int)):Option (Lp (Int×(List Int)×Int) (List Int)):=
 if decide (s13.2.2<a1.Size) then
  ((app 1 s13.2.1 [s13.1]).bind fun x15=>
  some (Lp.go (IntKind.u8.wrap ((IntKind.u8.wrap (31*s13.1))+7),x15,w64 (s13.2.2+1))))
 else
  (some (Lp.done s13.2.1))
noncomputable def zAy (a1:Pack):(Int×(List Int)×Int)→Option (List Int):=loop (kP a1)
noncomputable def kM (a1:Pack) (s5:(Int×Int)):Option (Lp (Int×Int) Int):=
 if decide (s5.2< (a1.Name.size:Int)) then
  ((bidx a1.Name s5.2).bind fun x7=>
  some (Lp.go (IntKind.u8.wrap (s5.1+x7),w64 (s5.2+1))))
 else
  (some (Lp.done s5.1))
noncomputable def zA5 (a1:Pack):(Int×Int)→Option Int:=loop (kM a1)
noncomputable def uI (a1:Pack):Option (List Int):=
 (zA5 a1 (IntKind.u8.wrap ((IntKind.u8.wrap ((IntKind.u8.wrap (a1.Version.A))+(IntKind.u8.wrap (a1.Version.B))))+(IntKind.u8.wrap (a1.Version.C))),0)).bind fun v9=>
 (zAy a1 (v9,([]:List Int),0)).bind fun v17=>
 some v17
noncomputable def uR (a1:(List Int)) (a2:(List Int)) (s10:Int):Option (Lp Int (Fl Bool Unit)):=
 if decide (s10< (a1.length:Int)) then
  ((idx a1 s10).bind fun x12=>
  (idx a2 s10).bind fun x14=>
  if x12 !=x14 then
   (some (Lp.done (Fl.ret false)))
  else
   (some (Lp.go (w64 (s10+1)))))
 else
  (some (Lp.done (Fl.nxt ())))
noncomputable def tX (a1:(List Int)) (a2:(List Int)):Int→Option (Fl Bool Unit):=loop (uR a1 a2)
noncomputable def uJ (a1:(List Int)) (a2:(List Int)):Option Bool:=
 if (a1.length:Int) !=(a2.length:Int) then
  (some false)
 else
  ((tX a1 a2 0).bind (Fl.go some fun v17=>
  some true))
noncomputable def zAN (a1:Int) (a2:zC) (a3:(List Pack)):Option Bool:=
 (idx a3 a1).bind fun x4=>
 (tK x4).bind fun x6=>
 (xP a2 x6).bind fun x8=>
 if !x8.2 then
  (some true)
 else
  ((idx a3 a1).bind fun x11=>
  (uI x11).bind fun x13=>
  (uJ x8.1 x13).bind fun x15=>
  some (!x15))
noncomputable def xA (a1:Int) (a2:zC) (a3:(List Pack)):Option Bool:=
 (zAN a1 a2 a3).bind fun x4=>
 some (!x4)
noncomputable def zT (a1:(List Int)) (a2:zC) (a3:(List Pack)) (s10:Int):Option (Lp Int (Fl Int Unit)):=
 if decide (s10< (a1.length:Int)) then
  ((idx a1 s10).bind fun x12=>
  (xA x12 a2 a3).bind fun x14=>
  if x14 then
   (some (Lp.done (Fl.ret s10)))
  else
   (some (Lp.go (w64 (s10+1)))))
 else
  (some (Lp.done (Fl.nxt ())))
noncomputable def yM (a1:(List Int)) (a2:zC) (a3:(List Pack)):Int→Option (Fl Int Unit):=loop (zT a1 a2 a3)
noncomputable def zZ (a1:(List Int)) (a2:zC) (a3:(List Pack)):Option Int:=
 (yM a1 a2 a3 0).bind (Fl.go some fun v17=>
 some (-1))
noncomputable def zS (a2:zC) (a3:(List Pack)) (s16:((List Int)×Int×Int)):Option (Lp ((List Int)×Int×Int) ((List Int)×Int)):=
 if decide (s16.2.2< (s16.1.length:Int)) then
  ((idx s16.1 s16.2.2).bind fun x18=>
  (xA x18 a2 a3).bind fun x20=>
  (if !x20 then
    ((idx s16.1 s16.2.1).bind fun x23=>
    some (s16.1.set s16.2.1.toNat x18,w64 (s16.2.1+1)))
   else
    (some (s16.1,s16.2.1))).bind fun v25=>
  some (Lp.go (v25.1,v25.2,w64 (s16.2.2+1))))
 else
  (some (Lp.done (s16.1,s16.2.1)))
noncomputable def yH (a2:zC) (a3:(List Pack)):((List Int)×Int×Int)→Option ((List Int)×Int):=loop (zS a2 a3)
noncomputable def zP (a1:(List Int)) (a2:zC) (a3:(List Pack)):Option (List Int):=
 (zZ a1 a2 a3).bind fun x4=>
 if x4==(-1) then
  (some a1)
 else
  ((yH a2 a3 (a1,x4,w64 (x4+1))).bind fun v26=>
  (zGM v26.1 v26.2 (v26.1.length:Int)).bind fun x27=>
  (zO4 v26.1 v26.2 x27.length 0).bind fun x29=>
  (zGM x29 0 v26.2).bind fun x31=>
  some x31)
noncomputable def wU (a1:(List Int)) (a2:zC) (a3:(List Pack)):Option (List Int):=
 (uY a1).bind fun x4=>
 (zP x4 a2 a3).bind fun x6=>
 some x6
noncomputable def zCn (a1:(List Pack)) (a2:zC) (a3:(List Int)):Option (List Int):=
 (wU a3 a2 a1).bind fun x4=>
 some x4
noncomputable def strings_Repeat (a1:ByteArray) (a2:Int):Option ByteArray:=if 0≤a2∧a2≤9223372036854775807∧a1.size*a2.toNat≤140737488355328 then some ⟨(Lib.repeatL a1.data.toList a2.toNat).toArray⟩ else none
noncomputable def zCz (a1:Int):Option ByteArray:=
 (zAf a1).bind fun x2=>
 (strings_Repeat (bs [48]) (w64 (6-(x2.size:Int)))).bind fun x4=>
 (cat (bs [103,101,110,47]) x4).bind fun x6=>
 (cat x6 x2).bind fun x8=>
 some x8
noncomputable def strings_Join (a1:List ByteArray) (a2:ByteArray):Option ByteArray:=if a1.length≤140737488355328∧(Lib.join (a1.map (·.data.toList)) a2.data.toList).length ≤140737488355328 then some ⟨(Lib.join (a1.map (·.data.toList)) a2.data.toList).toArray⟩ else none
noncomputable def zD8 (a1:(List ByteArray)):Option ByteArray:=
 (strings_Join a1 (bs [32])).bind fun x2=>
 some x2
noncomputable def zBJ (a1:(List Pack)) (a2:(List Int)) (s18:(ByteArray×Int)):Option (Lp (ByteArray×Int) ByteArray):=
 if decide (s18.2< (a2.length:Int)) then
  ((idx a2 s18.2).bind fun x20=>
  (idx a1 x20).bind fun x22=>
  (idx a1 x20).bind fun x24=>
  (wZ x24.Version).bind fun x26=>
  (zD8 [x22.Name,x26]).bind fun x28=>
  (cat x28 (bs [10])).bind fun x30=>
  (cat s18.1 x30).bind fun x32=>
  some (Lp.go (x32,w64 (s18.2+1))))
 else
  (some (Lp.done s18.1))
noncomputable def zCa (a1:(List Pack)) (a2:(List Int)):(ByteArray×Int)→Option ByteArray:=loop (zBJ a1 a2)
noncomputable def zCD (a1:(List Pack)) (a2:(List Int)):Option ByteArray:=
 (zCa a1 a2 (bs [],0)).bind fun v34=>
 some v34
noncomputable def zCB (a1:(List Pack)) (a2:zC) (a3:(List Int)) (x4:(List Int)) (s19:((List File)×Int)):Option (Lp ((List File)×Int) (List File)):=
 if decide (s19.2< (x4.length:Int)) then
  ((idx x4 s19.2).bind fun x21=>
  (idx a1 x21).bind fun x23=>
  (tK x23).bind fun x25=>
  (idx a1 x21).bind fun x27=>
  (uI x27).bind fun x29=>
  (app 40 s19.1 [({Path:=x25,Data:=x29}:File)]).bind fun x31=>
  some (Lp.go (x31,w64 (s19.2+1))))
 else
  (some (Lp.done s19.1))
noncomputable def zEV (a1:(List Pack)) (a2:zC) (a3:(List Int)) (x4:(List Int)):((List File)×Int)→Option (List File):=loop (zCB a1 a2 a3 x4)
noncomputable def zEC (a1:(List Pack)) (a2:zC) (a3:(List Int)):Option (List File):=
 (zCn a1 a2 a3).bind fun x4=>
 (zEV a1 a2 a3 x4 (([]:List File),0)).bind fun v33=>
 (tL a2).bind fun x34=>
 (zCz x34).bind fun x36=>
 (zCD a1 a3).bind fun x38=>
 (zAf x34).bind fun x40=>
 (app 40 v33 [({Path:=x36,Data:=s2b x38}:File),({Path:=bs [99,117,114],Data:=s2b x40}:File)]).bind fun x42=>
 some x42
noncomputable def zAM (a1:zC) (a2:File):Option Int:=
 (xP a1 a2.Path).bind fun x3=>
 some (w64 ((a2.Data.length:Int)-(x3.1.length:Int)))
noncomputable def vQ (a1:List File) (a2:Int) (a3:List File):Option (List File):=if 0≤a2∧a2≤a1.length∧0<a3.length∧a1.length+a3.length≤1099511627776 then some (a1.take a2.toNat++(a3++a1.drop a2.toNat)) else none
noncomputable def kJ (a1:zC) (a2:ByteArray) (a3:(List Int)):Option zC:=
 (xV a1 a2).bind fun x4=>
 (if !x4.2 then
   ((vQ a1.Files x4.1 [({Path:=a2,Data:=([]:List Int)}:File)]).bind fun x7=>
   some x7)
  else
   (some a1.Files)).bind fun v9=>
 (wK a3).bind fun x10=>
 (idx v9 x4.1).bind fun x12=>
 some ({Files:=v9.set x4.1.toNat ({Path:=x12.Path,Data:=x10}:File),Budget:=a1.Budget,Writes:=a1.Writes,Stop:=a1.Stop,Down:=a1.Down}:zC)
noncomputable def vP (a1:zC) (a2:ByteArray) (a3:(List Int)):Option zC:=
 (kJ a1 a2 a3).bind fun x4=>
 some x4
noncomputable def yL (a1:zC) (a2:ByteArray) (a3:(List Int)):Option (Int×zC):=
 (if decide (a1.Stop≥0) then
   (some (decide (a1.Writes≥a1.Stop)))
  else
   (some false)).bind fun v5=>
 if v5 then
  (some (9,({Files:=a1.Files,Budget:=a1.Budget,Writes:=a1.Writes,Stop:=a1.Stop,Down:=true}:zC)))
 else
  ((vP a1 a2 a3).bind fun x7=>
  some (0,({Files:=x7.Files,Budget:=x7.Budget,Writes:=w64 (x7.Writes+1),Stop:=x7.Stop,Down:=x7.Down}:zC)))
noncomputable def wT (a1:zC) (a2:ByteArray) (a3:(List Int)):Option (Int×zC):=
 (xP a1 a2).bind fun x4=>
 (vY a2).bind fun x6=>
 if x6 !=0 then
  (some (5,a1))
 else
  ((if decide ((a3.length:Int)>4000) then
     (some true)
    else
     (if !x4.2 then
      (some ((a1.Files.length:Int)==120))
     else
      (some false))).bind fun v11=>
  if v11 then
   (some (2,a1))
  else
   ((wS a1).bind fun x13=>
   if decide ((w64 ((w64 (x13-(x4.1.length:Int)))+(a3.length:Int)))>a1.Budget) then
    (some (8,a1))
   else
    ((yL a1 a2 a3).bind fun x16=>
    some (x16.1,x16.2))))
noncomputable def kQ (x13:(List File)) (s46:((List File)×Int×Int×Int×Bool×Int)):Option (Lp ((List File)×Int×Int×Int×Bool×Int) (Fl (Int×zC) ((List File)×Int×Int×Int×Bool))):=
 if decide (s46.2.2.2.2.2< (x13.length:Int)) then
  ((idx x13 s46.2.2.2.2.2).bind fun x48=>
  (wT ({Files:=s46.1,Budget:=s46.2.1,Writes:=s46.2.2.1,Stop:=s46.2.2.2.1,Down:=s46.2.2.2.2.1}:zC) x48.Path x48.Data).bind fun x50=>
  if x50.1 !=0 then
   (some (Lp.done (Fl.ret (x50.1,x50.2))))
  else
   (some (Lp.go (x50.2.Files,x50.2.Budget,x50.2.Writes,x50.2.Stop,x50.2.Down,w64 (s46.2.2.2.2.2+1)))))
 else
  (some (Lp.done (Fl.nxt (s46.1,s46.2.1,s46.2.2.1,s46.2.2.2.1,s46.2.2.2.2.1))))
noncomputable def jD (x13:(List File)):((List File)×Int×Int×Int×Bool×Int)→Option (Fl (Int×zC) ((List File)×Int×Int×Int×Bool)):=loop (kQ x13)
noncomputable def zAe (a1:zC) (x13:(List File)) (s27:(Int×Int×Int)):Option (Lp (Int×Int×Int) (Fl (Int×zC) Int)):=
 if decide (s27.2.2< (x13.length:Int)) then
  ((idx x13 s27.2.2).bind fun x29=>
  (zAM a1 x29).bind fun x31=>
  if decide ((w64 (s27.1+x31))>a1.Budget) then
   (some (Lp.done (Fl.ret (8,a1))))
  else
   ((xV a1 x29.Path).bind fun x34=>
   (if !x34.2 then
     (some (w64 (s27.2.1+1)))
    else
     (some s27.2.1)).bind fun v37=>
   some (Lp.go (w64 (s27.1+x31),v37,w64 (s27.2.2+1)))))
 else
  (some (Lp.done (Fl.nxt s27.2.1)))
noncomputable def jC (a1:zC) (x13:(List File)):(Int×Int×Int)→Option (Fl (Int×zC) Int):=loop (zAe a1 x13)
noncomputable def kT (a1:zC) (a2:(List Pack)) (a3:(List Int)):Option (Int×zC):=
 (zB3 a2 a3).bind fun x4=>
 if x4 !=0 then
  (some (x4,a1))
 else
  ((kI a2 a3).bind fun x7=>
  if !x7 then
   (some (1,a1))
  else
   ((tL a1).bind fun x10=>
   if decide (x10>999999) then
    (some (2,a1))
   else
    ((zEC a2 a1 a3).bind fun x13=>
    (wS a1).bind fun x15=>
    (jC a1 x13 (x15,(a1.Files.length:Int),0)).bind (Fl.go some fun v38=>
    if decide (v38>120) then
     (some (2,a1))
    else
     ((jD x13 (a1.Files,a1.Budget,a1.Writes,a1.Stop,a1.Down,0)).bind (Fl.go some fun v53=>
     some (0,({Files:=v53.1,Budget:=v53.2.1,Writes:=v53.2.2.1,Stop:=v53.2.2.2.1,Down:=v53.2.2.2.2}:zC))))))))
noncomputable def zAp (a1:zC) (a2:(List Pack)) (a3:(List Int)):Option (Int×zC):=
 (kT a1 a2 a3).bind fun x4=>
 some (x4.1,x4.2)
noncomputable def zFH (a1:zC) (a2:Int):Option zI:=
 (if a2 !=0 then
   (some (a2 !=9))
  else
   (some false)).bind fun v4=>
 if v4 then
  (some ({Code:=a2,zC:=({Files:=([]:List File),Budget:=0,Writes:=0,Stop:=0,Down:=false}:zC)}:zI))
 else
  (some ({Code:=a2,zC:=a1}:zI))
noncomputable def wE (a1:zC) (a2:(List Pack)) (a3:(List Int)):Option zI:=
 (zAW a1).bind fun x4=>
 (if x4==0 then
   (some a1.Down)
  else
   (some false)).bind fun v7=>
 (if v7 then
   (some 9)
  else
   (some x4)).bind fun v9=>
 if v9 !=0 then
  (some ({Code:=v9,zC:=({Files:=([]:List File),Budget:=0,Writes:=0,Stop:=0,Down:=false}:zC)}:zI))
 else
  ((uP a1).bind fun x11=>
  (zAp x11 a2 a3).bind fun x13=>
  (zFH x13.2 x13.1).bind fun x15=>
  some x15)
noncomputable def wH (a1:(List Pack)) (a2:zC) (a3:(List Pack)) (a4:(List Int)):Option zI:=
 (vB a1).bind fun x5=>
 if x5 !=0 then
  (some ({Code:=x5,zC:=({Files:=([]:List File),Budget:=0,Writes:=0,Stop:=0,Down:=false}:zC)}:zI))
 else
  ((wE a2 a3 a4).bind fun x8=>
  some x8)
noncomputable def tN (a1:(List Pack)) (a2:zC) (a3:(List Int)):Option zI:=
 (wH a1 a2 a1 a3).bind fun x4=>
 some x4
noncomputable def zDq (a1:(List Int)) (a2:(List Int)) (s10:Int):Option (Lp Int (Fl Bool Unit)):=
 if decide (s10< (a1.length:Int)) then
  ((idx a1 s10).bind fun x12=>
  (idx a2 s10).bind fun x14=>
  if x12 !=x14 then
   (some (Lp.done (Fl.ret false)))
  else
   (some (Lp.go (w64 (s10+1)))))
 else
  (some (Lp.done (Fl.nxt ())))
noncomputable def zCI (a1:(List Int)) (a2:(List Int)):Int→Option (Fl Bool Unit):=loop (zDq a1 a2)
noncomputable def zCb (a1:(List Int)) (a2:(List Int)):Option Bool:=
 if (a1.length:Int) !=(a2.length:Int) then
  (some false)
 else
  ((zCI a1 a2 0).bind (Fl.go some fun v17=>
  some true))
noncomputable def zDA (a1:File) (a2:File):Option Bool:=
 if !(seq a1.Path a2.Path) then
  (some false)
 else
  ((zCb a1.Data a2.Data).bind fun x4=>
  if !x4 then
   (some false)
  else
   (some true))
noncomputable def zDr (a1:(List File)) (a2:(List File)) (s12:Int):Option (Lp Int (Fl Bool Unit)):=
 if decide (s12< (a1.length:Int)) then
  ((idx a1 s12).bind fun x14=>
  (idx a2 s12).bind fun x16=>
  (zDA x14 x16).bind fun x18=>
  if !x18 then
   (some (Lp.done (Fl.ret false)))
  else
   (some (Lp.go (w64 (s12+1)))))
 else
  (some (Lp.done (Fl.nxt ())))
noncomputable def zCx (a1:(List File)) (a2:(List File)):Int→Option (Fl Bool Unit):=loop (zDr a1 a2)
noncomputable def zC8 (a1:(List File)) (a2:(List File)):Option Bool:=
 if (a1.length:Int) !=(a2.length:Int) then
  (some false)
 else
  ((zCx a1 a2 0).bind (Fl.go some fun v21=>
  some true))
noncomputable def zB1 (a1:zC) (a2:zC):Option Bool:=
 (zC8 a1.Files a2.Files).bind fun x3=>
 if !x3 then
  (some false)
 else
  (if a1.Budget !=a2.Budget then
   (some false)
  else
   (if a1.Writes !=a2.Writes then
    (some false)
   else
    (if a1.Stop !=a2.Stop then
     (some false)
    else
     (if !(a1.Down==a2.Down) then
      (some false)
     else
      (some true)))))
noncomputable def wG (a1:zI) (a2:zI):Option Bool:=
 if a1.Code !=a2.Code then
  (some false)
 else
  ((zB1 a1.zC a2.zC).bind fun x4=>
  if !x4 then
   (some false)
  else
   (some true))
noncomputable def vK (a1:Version) (a2:Version):Option Bool:=
 if a1.A !=a2.A then
  (some false)
 else
  (if a1.B !=a2.B then
   (some false)
  else
   (if a1.C !=a2.C then
    (some false)
   else
    (some true)))
noncomputable def zBT (a1:(List ByteArray)) (a2:(List ByteArray)) (s10:Int):Option (Lp Int (Fl Bool Unit)):=
 if decide (s10< (a1.length:Int)) then
  ((idx a1 s10).bind fun x12=>
  (idx a2 s10).bind fun x14=>
  if !(seq x12 x14) then
   (some (Lp.done (Fl.ret false)))
  else
   (some (Lp.go (w64 (s10+1)))))
 else
  (some (Lp.done (Fl.nxt ())))
noncomputable def zBn (a1:(List ByteArray)) (a2:(List ByteArray)):Int→Option (Fl Bool Unit):=loop (zBT a1 a2)
noncomputable def zAQ (a1:(List ByteArray)) (a2:(List ByteArray)):Option Bool:=
 if (a1.length:Int) !=(a2.length:Int) then
  (some false)
 else
  ((zBn a1 a2 0).bind (Fl.go some fun v17=>
  some true))
noncomputable def zD4 (a1:Term) (a2:Term):Option Bool:=
 if !(seq a1.Name a2.Name) then
  (some false)
 else
  ((vK a1.Low a2.Low).bind fun x4=>
  if !x4 then
   (some false)
  else
   ((vK a1.High a2.High).bind fun x7=>
   if !x7 then
    (some false)
   else
    (some true)))
noncomputable def zDo (a1:(List Term)) (a2:(List Term)) (s12:Int):Option (Lp Int (Fl Bool Unit)):=
 if decide (s12< (a1.length:Int)) then
  ((idx a1 s12).bind fun x14=>
  (idx a2 s12).bind fun x16=>
  (zD4 x14 x16).bind fun x18=>
  if !x18 then
   (some (Lp.done (Fl.ret false)))
  else
   (some (Lp.go (w64 (s12+1)))))
 else
  (some (Lp.done (Fl.nxt ())))
noncomputable def zCd (a1:(List Term)) (a2:(List Term)):Int→Option (Fl Bool Unit):=loop (zDo a1 a2)
noncomputable def zA8 (a1:(List Term)) (a2:(List Term)):Option Bool:=
 if (a1.length:Int) !=(a2.length:Int) then
  (some false)
 else
  ((zCd a1 a2 0).bind (Fl.go some fun v21=>
  some true))
noncomputable def zCR (a1:(List (List Term))) (a2:(List (List Term))) (s12:Int):Option (Lp Int (Fl Bool Unit)):=
 if decide (s12< (a1.length:Int)) then
  ((idx a1 s12).bind fun x14=>
  (idx a2 s12).bind fun x16=>
  (zA8 x14 x16).bind fun x18=>
  if !x18 then
   (some (Lp.done (Fl.ret false)))
  else
   (some (Lp.go (w64 (s12+1)))))
 else
  (some (Lp.done (Fl.nxt ())))
noncomputable def zBK (a1:(List (List Term))) (a2:(List (List Term))):Int→Option (Fl Bool Unit):=loop (zCR a1 a2)
noncomputable def zB4 (a1:(List (List Term))) (a2:(List (List Term))):Option Bool:=
 if (a1.length:Int) !=(a2.length:Int) then
  (some false)
 else
  ((zBK a1 a2 0).bind (Fl.go some fun v21=>
  some true))
noncomputable def zD3 (a1:Pack) (a2:Pack):Option Bool:=
 if !(seq a1.Name a2.Name) then
  (some false)
 else
  ((vK a1.Version a2.Version).bind fun x4=>
  if !x4 then
   (some false)
  else
   (if a1.Size !=a2.Size then
    (some false)
   else
    ((zAQ a1.Provides a2.Provides).bind fun x8=>
    if !x8 then
     (some false)
    else
     ((zB4 a1.Needs a2.Needs).bind fun x11=>
     if !x11 then
      (some false)
     else
      ((zA8 a1.Bars a2.Bars).bind fun x14=>
      if !x14 then
       (some false)
      else
       (some true))))))
noncomputable def zDn (a1:(List Pack)) (a2:(List Pack)) (s12:Int):Option (Lp Int (Fl Bool Unit)):=
 if decide (s12< (a1.length:Int)) then
  ((idx a1 s12).bind fun x14=>
  (idx a2 s12).bind fun x16=>
  (zD3 x14 x16).bind fun x18=>
  if !x18 then
   (some (Lp.done (Fl.ret false)))
  else
   (some (Lp.go (w64 (s12+1)))))
 else
  (some (Lp.done (Fl.nxt ())))
noncomputable def zCC (a1:(List Pack)) (a2:(List Pack)):Int→Option (Fl Bool Unit):=loop (zDn a1 a2)
noncomputable def zC6 (a1:(List Pack)) (a2:(List Pack)):Option Bool:=
 if (a1.length:Int) !=(a2.length:Int) then
  (some false)
 else
  ((zCC a1 a2 0).bind (Fl.go some fun v21=>
  some true))
noncomputable def zCM (a1:(List Int)) (a2:(List Int)) (s10:Int):Option (Lp Int (Fl Bool Unit)):=
 if decide (s10< (a1.length:Int)) then
  ((idx a1 s10).bind fun x12=>
  (idx a2 s10).bind fun x14=>
  if x12 !=x14 then
   (some (Lp.done (Fl.ret false)))
  else
   (some (Lp.go (w64 (s10+1)))))
 else
  (some (Lp.done (Fl.nxt ())))
noncomputable def zBF (a1:(List Int)) (a2:(List Int)):Int→Option (Fl Bool Unit):=loop (zCM a1 a2)
noncomputable def zB0 (a1:(List Int)) (a2:(List Int)):Option Bool:=
 if (a1.length:Int) !=(a2.length:Int) then
  (some false)
 else
  ((zBF a1 a2 0).bind (Fl.go some fun v17=>
  some true))
noncomputable def zCQ (s6:(Int×ByteArray)):Option (Lp (Int×ByteArray) ByteArray):=
 if decide (s6.1>0) then
  ((cat (b2s [IntKind.u8.wrap (w64 (48+(s6.1.tmod 10)))]) s6.2).bind fun x8=>
  some (Lp.go (w64 (s6.1.tdiv 10),x8)))
 else
  (some (Lp.done s6.2))
noncomputable def zB8:(Int×ByteArray)→Option ByteArray:=loop zCQ
noncomputable def xY (a1:Int):Option ByteArray:=
 if decide (a1≤0) then
  (some (bs [109,48]))
 else
  ((zB8 (a1,bs [])).bind fun v10=>
  (cat (bs [109]) v10).bind fun x11=>
  some x11)
noncomputable def jA (s8:((List ByteArray)×Int×Int)):Option (Lp ((List ByteArray)×Int×Int) ((List ByteArray)×Int)):=
 if decide (s8.2.2< (s8.1.length:Int)) then
  ((xY s8.2.1).bind fun x10=>
  (idx s8.1 s8.2.2).bind fun x12=>
  some (Lp.go (s8.1.set s8.2.2.toNat x10,w64 (s8.2.1+1),w64 (s8.2.2+1))))
 else
  (some (Lp.done (s8.1,s8.2.1)))
noncomputable def jQ:((List ByteArray)×Int×Int)→Option ((List ByteArray)×Int):=loop jA
noncomputable def uW (a1:(List ByteArray)) (a2:Int):Option (Int×(List ByteArray)):=
 (jQ (a1,a2,0)).bind fun v14=>
 some (v14.2,v14.1)
noncomputable def kH (s20:((List Term)×Int×Int)):Option (Lp ((List Term)×Int×Int) ((List Term)×Int)):=
 if decide (s20.2.2< (s20.1.length:Int)) then
  ((xY s20.2.1).bind fun x22=>
  (idx s20.1 s20.2.2).bind fun x24=>
  (idx (s20.1.set s20.2.2.toNat ({Name:=x22,Low:=x24.Low,High:=x24.High}:Term)) s20.2.2).bind fun x26=>
  (idx ((s20.1.set s20.2.2.toNat ({Name:=x22,Low:=x24.Low,High:=x24.High}:Term)).set s20.2.2.toNat ({Name:=x26.Name,Low:=({A:=w64 (s20.2.1+1),B:=x26.Low.B,C:=x26.Low.C}:Version),High:=x26.High}:Term)) s20.2.2).bind fun x28=>
  (idx (((s20.1.set s20.2.2.toNat ({Name:=x22,Low:=x24.Low,High:=x24.High}:Term)).set s20.2.2.toNat ({Name:=x26.Name,Low:=({A:=w64 (s20.2.1+1),B:=x26.Low.B,C:=x26.Low.C}:Version),High:=x26.High}:Term)).set s20.2.2.toNat ({Name:=x28.Name,Low:=({A:=x28.Low.A,B:=w64 ((w64 (s20.2.1+1))+1),C:=x28.Low.C}:Version),High:=x28.High}:Term)) s20.2.2).bind fun x30=>
  (idx ((((s20.1.set s20.2.2.toNat ({Name:=x22,Low:=x24.Low,High:=x24.High}:Term)).set s20.2.2.toNat ({Name:=x26.Name,Low:=({A:=w64 (s20.2.1+1),B:=x26.Low.B,C:=x26.Low.C}:Version),High:=x26.High}:Term)).set s20.2.2.toNat ({Name:=x28.Name,Low:=({A:=x28.Low.A,B:=w64 ((w64 (s20.2.1+1))+1),C:=x28.Low.C}:Version),High:=x28.High}:Term)).set s20.2.2.toNat ({Name:=x30.Name,Low:=({A:=x30.Low.A,B:=x30.Low.B,C:=w64 ((w64 ((w64 (s20.2.1+1))+1))+1)}:Version),High:=x30.High}:Term)) s20.2.2).bind fun x32=>
  (idx (((((s20.1.set s20.2.2.toNat ({Name:=x22,Low:=x24.Low,High:=x24.High}:Term)).set s20.2.2.toNat ({Name:=x26.Name,Low:=({A:=w64 (s20.2.1+1),B:=x26.Low.B,C:=x26.Low.C}:Version),High:=x26.High}:Term)).set s20.2.2.toNat ({Name:=x28.Name,Low:=({A:=x28.Low.A,B:=w64 ((w64 (s20.2.1+1))+1),C:=x28.Low.C}:Version),High:=x28.High}:Term)).set s20.2.2.toNat ({Name:=x30.Name,Low:=({A:=x30.Low.A,B:=x30.Low.B,C:=w64 ((w64 ((w64 (s20.2.1+1))+1))+1)}:Version),High:=x30.High}:Term)).set s20.2.2.toNat ({Name:=x32.Name,Low:=x32.Low,High:=({A:=w64 ((w64 ((w64 ((w64 (s20.2.1+1))+1))+1))+1),B:=x32.High.B,C:=x32.High.C}:Version)}:Term)) s20.2.2).bind fun x34=>
  (idx ((((((s20.1.set s20.2.2.toNat ({Name:=x22,Low:=x24.Low,High:=x24.High}:Term)).set s20.2.2.toNat ({Name:=x26.Name,Low:=({A:=w64 (s20.2.1+1),B:=x26.Low.B,C:=x26.Low.C}:Version),High:=x26.High}:Term)).set s20.2.2.toNat ({Name:=x28.Name,Low:=({A:=x28.Low.A,B:=w64 ((w64 (s20.2.1+1))+1),C:=x28.Low.C}:Version),High:=x28.High}:Term)).set s20.2.2.toNat ({Name:=x30.Name,Low:=({A:=x30.Low.A,B:=x30.Low.B,C:=w64 ((w64 ((w64 (s20.2.1+1))+1))+1)}:Version),High:=x30.High}:Term)).set s20.2.2.toNat ({Name:=x32.Name,Low:=x32.Low,High:=({A:=w64 ((w64 ((w64 ((w64 (s20.2.1+1))+1))+1))+1),B:=x32.High.B,C:=x32.High.C}:Version)}:Term)).set s20.2.2.toNat ({Name:=x34.Name,Low:=x34.Low,High:=({A:=x34.High.A,B:=w64 ((w64 ((w64 ((w64 ((w64 (s20.2.1+1))+1))+1))+1))+1),C:=x34.High.C}:Version)}:Term)) s20.2.2).bind fun x36=>
  some (Lp.go (((((((s20.1.set s20.2.2.toNat ({Name:=x22,Low:=x24.Low,High:=x24.High}:Term)).set s20.2.2.toNat ({Name:=x26.Name,Low:=({A:=w64 (s20.2.1+1),B:=x26.Low.B,C:=x26.Low.C}:Version),High:=x26.High}:Term)).set s20.2.2.toNat ({Name:=x28.Name,Low:=({A:=x28.Low.A,B:=w64 ((w64 (s20.2.1+1))+1),C:=x28.Low.C}:Version),High:=x28.High}:Term)).set s20.2.2.toNat ({Name:=x30.Name,Low:=({A:=x30.Low.A,B:=x30.Low.B,C:=w64 ((w64 ((w64 (s20.2.1+1))+1))+1)}:Version),High:=x30.High}:Term)).set s20.2.2.toNat ({Name:=x32.Name,Low:=x32.Low,High:=({A:=w64 ((w64 ((w64 ((w64 (s20.2.1+1))+1))+1))+1),B:=x32.High.B,C:=x32.High.C}:Version)}:Term)).set s20.2.2.toNat ({Name:=x34.Name,Low:=x34.Low,High:=({A:=x34.High.A,B:=w64 ((w64 ((w64 ((w64 ((w64 (s20.2.1+1))+1))+1))+1))+1),C:=x34.High.C}:Version)}:Term)).set s20.2.2.toNat ({Name:=x36.Name,Low:=x36.Low,High:=({A:=x36.High.A,B:=x36.High.B,C:=w64 ((w64 ((w64 ((w64 ((w64 ((w64 (s20.2.1+1))+1))+1))+1))+1))+1)}:Version)}:Term),w64 ((w64 ((w64 ((w64 ((w64 ((w64 ((w64 (s20.2.1+1))+1))+1))+1))+1))+1))+1),w64 (s20.2.2+1))))
 else
  (some (Lp.done (s20.1,s20.2.1)))
noncomputable def zAC:((List Term)×Int×Int)→Option ((List Term)×Int):=loop kH
noncomputable def uK (a1:(List Term)) (a2:Int):Option (Int×(List Term)):=
 (zAC (a1,a2,0)).bind fun v38=>
 some (v38.2,v38.1)
noncomputable def jM (s10:((List (List Term))×Int×Int)):Option (Lp ((List (List Term))×Int×Int) ((List (List Term))×Int)):=
 if decide (s10.2.2< (s10.1.length:Int)) then
  ((idx s10.1 s10.2.2).bind fun x12=>
  (uK x12 s10.2.1).bind fun x14=>
  (same x14.2 x12).bind fun u16=>
  some (Lp.go (s10.1.set s10.2.2.toNat x14.2,x14.1,w64 (s10.2.2+1))))
 else
  (some (Lp.done (s10.1,s10.2.1)))
noncomputable def kY:((List (List Term))×Int×Int)→Option ((List (List Term))×Int):=loop jM
noncomputable def jK (a1:(List (List Term))) (a2:Int):Option (Int×(List (List Term))):=
 (kY (a1,a2,0)).bind fun v18=>
 some (v18.2,v18.1)
noncomputable def zAc (s34:((List Pack)×Int×Int)):Option (Lp ((List Pack)×Int×Int) ((List Pack)×Int)):=
 if decide (s34.2.2< (s34.1.length:Int)) then
  ((xY s34.2.1).bind fun x36=>
  (idx s34.1 s34.2.2).bind fun x38=>
  (idx (s34.1.set s34.2.2.toNat ({Name:=x36,Version:=x38.Version,Size:=x38.Size,Provides:=x38.Provides,Needs:=x38.Needs,Bars:=x38.Bars}:Pack)) s34.2.2).bind fun x40=>
  (idx ((s34.1.set s34.2.2.toNat ({Name:=x36,Version:=x38.Version,Size:=x38.Size,Provides:=x38.Provides,Needs:=x38.Needs,Bars:=x38.Bars}:Pack)).set s34.2.2.toNat ({Name:=x40.Name,Version:=({A:=w64 (s34.2.1+1),B:=x40.Version.B,C:=x40.Version.C}:Version),Size:=x40.Size,Provides:=x40.Provides,Needs:=x40.Needs,Bars:=x40.Bars}:Pack)) s34.2.2).bind fun x42=>
  (idx (((s34.1.set s34.2.2.toNat ({Name:=x36,Version:=x38.Version,Size:=x38.Size,Provides:=x38.Provides,Needs:=x38.Needs,Bars:=x38.Bars}:Pack)).set s34.2.2.toNat ({Name:=x40.Name,Version:=({A:=w64 (s34.2.1+1),B:=x40.Version.B,C:=x40.Version.C}:Version),Size:=x40.Size,Provides:=x40.Provides,Needs:=x40.Needs,Bars:=x40.Bars}:Pack)).set s34.2.2.toNat ({Name:=x42.Name,Version:=({A:=x42.Version.A,B:=w64 ((w64 (s34.2.1+1))+1),C:=x42.Version.C}:Version),Size:=x42.Size,Provides:=x42.Provides,Needs:=x42.Needs,Bars:=x42.Bars}:Pack)) s34.2.2).bind fun x44=>
  (idx ((((s34.1.set s34.2.2.toNat ({Name:=x36,Version:=x38.Version,Size:=x38.Size,Provides:=x38.Provides,Needs:=x38.Needs,Bars:=x38.Bars}:Pack)).set s34.2.2.toNat ({Name:=x40.Name,Version:=({A:=w64 (s34.2.1+1),B:=x40.Version.B,C:=x40.Version.C}:Version),Size:=x40.Size,Provides:=x40.Provides,Needs:=x40.Needs,Bars:=x40.Bars}:Pack)).set s34.2.2.toNat ({Name:=x42.Name,Version:=({A:=x42.Version.A,B:=w64 ((w64 (s34.2.1+1))+1),C:=x42.Version.C}:Version),Size:=x42.Size,Provides:=x42.Provides,Needs:=x42.Needs,Bars:=x42.Bars}:Pack)).set s34.2.2.toNat ({Name:=x44.Name,Version:=({A:=x44.Version.A,B:=x44.Version.B,C:=w64 ((w64 ((w64 (s34.2.1+1))+1))+1)}:Version),Size:=x44.Size,Provides:=x44.Provides,Needs:=x44.Needs,Bars:=x44.Bars}:Pack)) s34.2.2).bind fun x46=>
  (idx (((((s34.1.set s34.2.2.toNat ({Name:=x36,Version:=x38.Version,Size:=x38.Size,Provides:=x38.Provides,Needs:=x38.Needs,Bars:=x38.Bars}:Pack)).set s34.2.2.toNat ({Name:=x40.Name,Version:=({A:=w64 (s34.2.1+1),B:=x40.Version.B,C:=x40.Version.C}:Version),Size:=x40.Size,Provides:=x40.Provides,Needs:=x40.Needs,Bars:=x40.Bars}:Pack)).set s34.2.2.toNat ({Name:=x42.Name,Version:=({A:=x42.Version.A,B:=w64 ((w64 (s34.2.1+1))+1),C:=x42.Version.C}:Version),Size:=x42.Size,Provides:=x42.Provides,Needs:=x42.Needs,Bars:=x42.Bars}:Pack)).set s34.2.2.toNat ({Name:=x44.Name,Version:=({A:=x44.Version.A,B:=x44.Version.B,C:=w64 ((w64 ((w64 (s34.2.1+1))+1))+1)}:Version),Size:=x44.Size,Provides:=x44.Provides,Needs:=x44.Needs,Bars:=x44.Bars}:Pack)).set s34.2.2.toNat ({Name:=x46.Name,Version:=x46.Version,Size:=w64 ((w64 ((w64 ((w64 (s34.2.1+1))+1))+1))+1),Provides:=x46.Provides,Needs:=x46.Needs,Bars:=x46.Bars}:Pack)) s34.2.2).bind fun x48=>
  (uW x48.Provides (w64 ((w64 ((w64 ((w64 ((w64 (s34.2.1+1))+1))+1))+1))+1))).bind fun x50=>
  (same x50.2 x48.Provides).bind fun u52=>
  (idx ((((((s34.1.set s34.2.2.toNat ({Name:=x36,Version:=x38.Version,Size:=x38.Size,Provides:=x38.Provides,Needs:=x38.Needs,Bars:=x38.Bars}:Pack)).set s34.2.2.toNat ({Name:=x40.Name,Version:=({A:=w64 (s34.2.1+1),B:=x40.Version.B,C:=x40.Version.C}:Version),Size:=x40.Size,Provides:=x40.Provides,Needs:=x40.Needs,Bars:=x40.Bars}:Pack)).set s34.2.2.toNat ({Name:=x42.Name,Version:=({A:=x42.Version.A,B:=w64 ((w64 (s34.2.1+1))+1),C:=x42.Version.C}:Version),Size:=x42.Size,Provides:=x42.Provides,Needs:=x42.Needs,Bars:=x42.Bars}:Pack)).set s34.2.2.toNat ({Name:=x44.Name,Version:=({A:=x44.Version.A,B:=x44.Version.B,C:=w64 ((w64 ((w64 (s34.2.1+1))+1))+1)}:Version),Size:=x44.Size,Provides:=x44.Provides,Needs:=x44.Needs,Bars:=x44.Bars}:Pack)).set s34.2.2.toNat ({Name:=x46.Name,Version:=x46.Version,Size:=w64 ((w64 ((w64 ((w64 (s34.2.1+1))+1))+1))+1),Provides:=x46.Provides,Needs:=x46.Needs,Bars:=x46.Bars}:Pack)).set s34.2.2.toNat ({Name:=x48.Name,Version:=x48.Version,Size:=x48.Size,Provides:=x50.2,Needs:=x48.Needs,Bars:=x48.Bars}:Pack)) s34.2.2).bind fun x54=>
  (jK x54.Needs x50.1).bind fun x56=>
  (same x56.2 x54.Needs).bind fun u58=>
  (idx (((((((s34.1.set s34.2.2.toNat ({Name:=x36,Version:=x38.Version,Size:=x38.Size,Provides:=x38.Provides,Needs:=x38.Needs,Bars:=x38.Bars}:Pack)).set s34.2.2.toNat ({Name:=x40.Name,Version:=({A:=w64 (s34.2.1+1),B:=x40.Version.B,C:=x40.Version.C}:Version),Size:=x40.Size,Provides:=x40.Provides,Needs:=x40.Needs,Bars:=x40.Bars}:Pack)).set s34.2.2.toNat ({Name:=x42.Name,Version:=({A:=x42.Version.A,B:=w64 ((w64 (s34.2.1+1))+1),C:=x42.Version.C}:Version),Size:=x42.Size,Provides:=x42.Provides,Needs:=x42.Needs,Bars:=x42.Bars}:Pack)).set s34.2.2.toNat ({Name:=x44.Name,Version:=({A:=x44.Version.A,B:=x44.Version.B,C:=w64 ((w64 ((w64 (s34.2.1+1))+1))+1)}:Version),Size:=x44.Size,Provides:=x44.Provides,Needs:=x44.Needs,Bars:=x44.Bars}:Pack)).set s34.2.2.toNat ({Name:=x46.Name,Version:=x46.Version,Size:=w64 ((w64 ((w64 ((w64 (s34.2.1+1))+1))+1))+1),Provides:=x46.Provides,Needs:=x46.Needs,Bars:=x46.Bars}:Pack)).set s34.2.2.toNat ({Name:=x48.Name,Version:=x48.Version,Size:=x48.Size,Provides:=x50.2,Needs:=x48.Needs,Bars:=x48.Bars}:Pack)).set s34.2.2.toNat ({Name:=x54.Name,Version:=x54.Version,Size:=x54.Size,Provides:=x54.Provides,Needs:=x56.2,Bars:=x54.Bars}:Pack)) s34.2.2).bind fun x60=>
  (uK x60.Bars x56.1).bind fun x62=>
  (same x62.2 x60.Bars).bind fun u64=>
  some (Lp.go ((((((((s34.1.set s34.2.2.toNat ({Name:=x36,Version:=x38.Version,Size:=x38.Size,Provides:=x38.Provides,Needs:=x38.Needs,Bars:=x38.Bars}:Pack)).set s34.2.2.toNat ({Name:=x40.Name,Version:=({A:=w64 (s34.2.1+1),B:=x40.Version.B,C:=x40.Version.C}:Version),Size:=x40.Size,Provides:=x40.Provides,Needs:=x40.Needs,Bars:=x40.Bars}:Pack)).set s34.2.2.toNat ({Name:=x42.Name,Version:=({A:=x42.Version.A,B:=w64 ((w64 (s34.2.1+1))+1),C:=x42.Version.C}:Version),Size:=x42.Size,Provides:=x42.Provides,Needs:=x42.Needs,Bars:=x42.Bars}:Pack)).set s34.2.2.toNat ({Name:=x44.Name,Version:=({A:=x44.Version.A,B:=x44.Version.B,C:=w64 ((w64 ((w64 (s34.2.1+1))+1))+1)}:Version),Size:=x44.Size,Provides:=x44.Provides,Needs:=x44.Needs,Bars:=x44.Bars}:Pack)).set s34.2.2.toNat ({Name:=x46.Name,Version:=x46.Version,Size:=w64 ((w64 ((w64 ((w64 (s34.2.1+1))+1))+1))+1),Provides:=x46.Provides,Needs:=x46.Needs,Bars:=x46.Bars}:Pack)).set s34.2.2.toNat ({Name:=x48.Name,Version:=x48.Version,Size:=x48.Size,Provides:=x50.2,Needs:=x48.Needs,Bars:=x48.Bars}:Pack)).set s34.2.2.toNat ({Name:=x54.Name,Version:=x54.Version,Size:=x54.Size,Provides:=x54.Provides,Needs:=x56.2,Bars:=x54.Bars}:Pack)).set s34.2.2.toNat ({Name:=x60.Name,Version:=x60.Version,Size:=x60.Size,Provides:=x60.Provides,Needs:=x60.Needs,Bars:=x62.2}:Pack),x62.1,w64 (s34.2.2+1))))
 else
  (some (Lp.done (s34.1,s34.2.1)))
noncomputable def zA3:((List Pack)×Int×Int)→Option ((List Pack)×Int):=loop zAc
noncomputable def kX (a1:(List Pack)) (a2:Int):Option (Int×(List Pack)):=
 (zA3 (a1,a2,0)).bind fun v66=>
 some (v66.2,v66.1)
noncomputable def kL (s6:((List Int)×Int×Int)):Option (Lp ((List Int)×Int×Int) ((List Int)×Int)):=
 if decide (s6.2.2< (s6.1.length:Int)) then
  ((idx s6.1 s6.2.2).bind fun x8=>
  some (Lp.go (s6.1.set s6.2.2.toNat (IntKind.u8.wrap (s6.2.1)),w64 (s6.2.1+1),w64 (s6.2.2+1))))
 else
  (some (Lp.done (s6.1,s6.2.1)))
noncomputable def zAz:((List Int)×Int×Int)→Option ((List Int)×Int):=loop kL
noncomputable def zAd (a1:(List Int)) (a2:Int):Option (Int×(List Int)):=
 (zAz (a1,a2,0)).bind fun v10=>
 some (v10.2,v10.1)
noncomputable def zAb (s14:((List File)×Int×Int)):Option (Lp ((List File)×Int×Int) ((List File)×Int)):=
 if decide (s14.2.2< (s14.1.length:Int)) then
  ((xY s14.2.1).bind fun x16=>
  (idx s14.1 s14.2.2).bind fun x18=>
  (idx (s14.1.set s14.2.2.toNat ({Path:=x16,Data:=x18.Data}:File)) s14.2.2).bind fun x20=>
  (zAd x20.Data (w64 (s14.2.1+1))).bind fun x22=>
  (same x22.2 x20.Data).bind fun u24=>
  some (Lp.go ((s14.1.set s14.2.2.toNat ({Path:=x16,Data:=x18.Data}:File)).set s14.2.2.toNat ({Path:=x20.Path,Data:=x22.2}:File),x22.1,w64 (s14.2.2+1))))
 else
  (some (Lp.done (s14.1,s14.2.1)))
noncomputable def zA4:((List File)×Int×Int)→Option ((List File)×Int):=loop zAb
noncomputable def kW (a1:(List File)) (a2:Int):Option (Int×(List File)):=
 (zA4 (a1,a2,0)).bind fun v26=>
 some (v26.2,v26.1)
noncomputable def tJ (a1:zC) (a2:Int):Option (Int×(List File)):=
 (kW a1.Files a2).bind fun x3=>
 (same x3.2 a1.Files).bind fun u5=>
 some (x3.1,x3.2)
noncomputable def jP (s6:((List Int)×Int×Int)):Option (Lp ((List Int)×Int×Int) ((List Int)×Int)):=
 if decide (s6.2.2< (s6.1.length:Int)) then
  ((idx s6.1 s6.2.2).bind fun x8=>
  some (Lp.go (s6.1.set s6.2.2.toNat s6.2.1,w64 (s6.2.1+1),w64 (s6.2.2+1))))
 else
  (some (Lp.done (s6.1,s6.2.1)))
noncomputable def kZ:((List Int)×Int×Int)→Option ((List Int)×Int):=loop jP
noncomputable def jJ (a1:(List Int)) (a2:Int):Option (Int×(List Int)):=
 (kZ (a1,a2,0)).bind fun v10=>
 some (v10.2,v10.1)
noncomputable def vE (a1:zI) (a2:Int):Option (Int×(List File)):=
 (tJ a1.zC a2).bind fun x3=>
 (same x3.2 a1.zC.Files).bind fun u5=>
 some (x3.1,x3.2)
noncomputable def zAF (a1:(List Int)) (s7:(Int×Int)):Option (Lp (Int×Int) (Fl Int Int)):=
 if decide (s7.2< (a1.length:Int)) then
  ((idx a1 s7.2).bind fun x9=>
  if x9 !=(IntKind.u8.wrap (s7.1)) then
   (some (Lp.done (Fl.ret (-1))))
  else
   (some (Lp.go (w64 (s7.1+1),w64 (s7.2+1)))))
 else
  (some (Lp.done (Fl.nxt s7.1)))
noncomputable def zBj (a1:(List Int)):(Int×Int)→Option (Fl Int Int):=loop (zAF a1)
noncomputable def zAH (a1:(List Int)) (a2:Int):Option Int:=
 (zBj a1 (a2,0)).bind (Fl.go some fun v12=>
 some v12)
noncomputable def zA1 (a1:(List File)) (s14:(Int×Int)):Option (Lp (Int×Int) (Fl Int Int)):=
 if decide (s14.2< (a1.length:Int)) then
  ((idx a1 s14.2).bind fun x16=>
  (xY s14.1).bind fun x18=>
  if !(seq x16.Path x18) then
   (some (Lp.done (Fl.ret (-1))))
  else
   ((idx a1 s14.2).bind fun x21=>
   (zAH x21.Data (w64 (s14.1+1))).bind fun x23=>
   if decide (x23<0) then
    (some (Lp.done (Fl.ret (-1))))
   else
    (some (Lp.go (x23,w64 (s14.2+1))))))
 else
  (some (Lp.done (Fl.nxt s14.1)))
noncomputable def zBc (a1:(List File)):(Int×Int)→Option (Fl Int Int):=loop (zA1 a1)
noncomputable def zAS (a1:(List File)) (a2:Int):Option Int:=
 (zBc a1 (a2,0)).bind (Fl.go some fun v26=>
 some v26)
noncomputable def zBv (a1:zC) (a2:Int):Option Int:=
 (zAS a1.Files a2).bind fun x3=>
 if decide (x3<0) then
  (some (-1))
 else
  (some x3)
noncomputable def wO (a1:zI) (a2:Int):Option Int:=
 (zBv a1.zC a2).bind fun x3=>
 if decide (x3<0) then
  (some (-1))
 else
  (some x3)
noncomputable def vD (a1:(List Pack)) (a2:zC) (a3:(List Int)):Option Bool:=
 if decide ((a3.length:Int)>1048576) then
  (some true)
 else
  ((zCi a1 1048576).bind fun x5=>
  if decide (x5<0) then
   (some true)
  else
   ((zDC a2 x5).bind fun x8=>
   if decide (x8<0) then
    (some true)
   else
    ((vW a1).bind fun x11=>
    (uS a2).bind fun x13=>
    (wY a3).bind fun x15=>
    (zAE x11 x13 x15).bind fun x17=>
    (vW a1).bind fun x19=>
    (uS a2).bind fun x21=>
    (wY a3).bind fun x23=>
    (tN x19 x21 x23).bind fun x25=>
    (wG x25 x17).bind fun x27=>
    if !x27 then
     (some false)
    else
     ((vW a1).bind fun x30=>
     (zC6 x19 x30).bind fun x32=>
     if !x32 then
      (some false)
     else
      ((uS a2).bind fun x35=>
      (zB1 x21 x35).bind fun x37=>
      if !x37 then
       (some false)
      else
       ((wY a3).bind fun x40=>
       (zB0 x23 x40).bind fun x42=>
       if !x42 then
        (some false)
       else
        ((kX x19 1).bind fun x45=>
        (tJ x21 x45.1).bind fun x47=>
        (jJ x23 x47.1).bind fun x49=>
        (if decide (x49.1<0) then
          (some true)
         else
          ((wG x25 x17).bind fun x52=>
          some (!x52))).bind fun v54=>
        if v54 then
         (some false)
        else
         ((vE x25 1).bind fun x56=>
         (same x56.2 x25.zC.Files).bind fun u58=>
         (wO ({Code:=x25.Code,zC:=({Files:=x56.2,Budget:=x25.zC.Budget,Writes:=x25.zC.Writes,Stop:=x25.zC.Stop,Down:=x25.zC.Down}:zC)}:zI) 1).bind fun x60=>
         if decide (x60<0) then
          (some false)
         else
          (if x60 !=x56.1 then
           (some false)
          else
           ((vW a1).bind fun x64=>
           (uS a2).bind fun x66=>
           (wY a3).bind fun x68=>
           (tN x64 x66 x68).bind fun x70=>
           (wG x70 x17).bind fun x72=>
           if !x72 then
            (some false)
           else
            ((wO ({Code:=x25.Code,zC:=({Files:=x56.2,Budget:=x25.zC.Budget,Writes:=x25.zC.Writes,Stop:=x25.zC.Stop,Down:=x25.zC.Down}:zC)}:zI) 1).bind fun x75=>
            if decide (x75<0) then
             (some false)
            else
             (if x75 !=x56.1 then
              (some false)
             else
              (some true)))))))))))))
end Go.Told

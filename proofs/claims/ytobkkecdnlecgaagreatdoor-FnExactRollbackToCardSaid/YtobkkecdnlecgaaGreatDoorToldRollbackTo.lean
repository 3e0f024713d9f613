import Derived.Test.YtobkkecdnlecgaaGreatDoorImG
set_option linter.unusedVariables false
set_option maxRecDepth 4000
namespace Go.Told
open Go Go.Im
structure Version where
 A:Int
 B:Int
 C:Int
 deriving DecidableEq
def Version.enc (x:Version):List D:=[.sc (.int .i64 x.A),.sc (.int .i64 x.B),.sc (.int .i64 x.C)]
theorem Version.fl (x:Version):zE7 (Version.enc x):=(flatK yJ (flatK yJ (flatK yJ zEU)))
structure Term where
 Name:ByteArray
 Low:Version
 High:Version
 deriving DecidableEq
def Term.enc (x:Term):List D:=[.sc (.string x.Name),.sc (.int .i64 x.Low.A),.sc (.int .i64 x.Low.B),.sc (.int .i64 x.Low.C),.sc (.int .i64 x.High.A),.sc (.int .i64 x.High.B),.sc (.int .i64 x.High.C)]
theorem Term.fl (x:Term):zE7 (Term.enc x):=(flatK yJ (flatK yJ (flatK yJ (flatK yJ (flatK yJ (flatK yJ (flatK yJ zEU)))))))
structure Pack where
 Name:ByteArray
 Version:Version
 Size:Int
 Provides:(List ByteArray)
 Needs:(List (List Term))
 Bars:(List Term)
 deriving DecidableEq
def Pack.enc (o:Bool) (x:Pack):List D:=[.sc (.string x.Name),.sc (.int .i64 x.Version.A),.sc (.int .i64 x.Version.B),.sc (.int .i64 x.Version.C),.sc (.int .i64 x.Size),.s o 1 x.Provides.length (x.Provides.map eStr),.s o 1 x.Needs.length (x.Needs.map (eSl o 7 Term.enc)),.s o 7 x.Bars.length (x.Bars.map Term.enc)]
theorem Pack.ro (o:Bool) (x:Pack):D.ro.roC (Pack.enc o x)=Pack.enc false x:=by
 simp only [Pack.enc,D.ro.roC,D.ro,zDZ (enc:=eStr) (enc':=eStr) (fun _=>rfl),zDZ (enc:=(eSl o 7 Term.enc)) (enc':=(eSl false 7 Term.enc)) (zQ1 (fun _=>rfl)),zDZ (enc:=Term.enc) (enc':=Term.enc) (fun _=>rfl)]
theorem Pack.fl (x:Pack):zE7 (Pack.enc true x):=(flatK yJ (flatK yJ (flatK yJ (flatK yJ (flatK yJ (flatK (zFE (zH5 (fun _=>(flatK yJ zEU)) _)) (flatK (zFE (zH5 (fun _=>(flatK (zFE (zH5 (fun _=>(Term.fl _)) _)) zEU)) _)) (flatK (zFE (zH5 (fun _=>(Term.fl _)) _)) zEU))))))))
structure File where
 Path:ByteArray
 Data:(List Int)
 deriving DecidableEq
def File.enc (o:Bool) (x:File):List D:=[.sc (.string x.Path),.s o 1 x.Data.length (x.Data.map eU8)]
theorem File.ro (o:Bool) (x:File):D.ro.roC (File.enc o x)=File.enc false x:=by
 simp only [File.enc,D.ro.roC,D.ro,zDZ (enc:=eU8) (enc':=eU8) (fun _=>rfl)]
theorem File.fl (x:File):zE7 (File.enc true x):=(flatK yJ (flatK (zFE (zH5 (fun _=>(flatK yJ zEU)) _)) zEU))
structure zC where
 Files:(List File)
 Budget:Int
 Writes:Int
 Stop:Int
 Down:Bool
 deriving DecidableEq
def zC.enc (o:Bool) (x:zC):List D:=[.s o 2 x.Files.length (x.Files.map (File.enc o)),.sc (.int .i64 x.Budget),.sc (.int .i64 x.Writes),.sc (.int .i64 x.Stop),.sc (.bool x.Down)]
theorem zC.ro (o:Bool) (x:zC):D.ro.roC (zC.enc o x)=zC.enc false x:=by
 simp only [zC.enc,D.ro.roC,D.ro,zDZ (enc:=(File.enc o)) (enc':=(File.enc false)) (File.ro o)]
theorem zC.fl (x:zC):zE7 (zC.enc true x):=(flatK (zFE (zH5 (fun _=>(File.fl _)) _)) (flatK yJ (flatK yJ (flatK yJ (flatK yJ zEU)))))
structure zH where
 Code:Int
 zC:zC
 deriving DecidableEq
def zH.enc (o:Bool) (x:zH):List D:=[.sc (.int .i64 x.Code),.s o 2 x.zC.Files.length (x.zC.Files.map (File.enc o)),.sc (.int .i64 x.zC.Budget),.sc (.int .i64 x.zC.Writes),.sc (.int .i64 x.zC.Stop),.sc (.bool x.zC.Down)]
theorem zH.ro (o:Bool) (x:zH):D.ro.roC (zH.enc o x)=zH.enc false x:=by
 simp only [zH.enc,D.ro.roC,D.ro,zDZ (enc:=(File.enc o)) (enc':=(File.enc false)) (File.ro o)]
theorem zH.fl (x:zH):zE7 (zH.enc true x):=(flatK yJ (flatK (zFE (zH5 (fun _=>(File.fl _)) _)) (flatK yJ (flatK yJ (flatK yJ (flatK yJ zEU))))))
structure xI where
 Code:Int
 At:Int
 Set:(List Int)
 deriving DecidableEq
def xI.enc (o:Bool) (x:xI):List D:=[.sc (.int .i64 x.Code),.sc (.int .i64 x.At),.s o 1 x.Set.length (x.Set.map zS)]
theorem xI.ro (o:Bool) (x:xI):D.ro.roC (xI.enc o x)=xI.enc false x:=by
 simp only [xI.enc,D.ro.roC,D.ro,zDZ (enc:=zS) (enc':=zS) (fun _=>rfl)]
theorem xI.fl (x:xI):zE7 (xI.enc true x):=(flatK yJ (flatK yJ (flatK (zFE (zH5 (fun _=>(flatK yJ zEU)) _)) zEU)))
structure zR where
 Kind:Int
 Pack:Int
 At:Int
 deriving DecidableEq
def zR.enc (x:zR):List D:=[.sc (.int .i64 x.Kind),.sc (.int .i64 x.Pack),.sc (.int .i64 x.At)]
theorem zR.fl (x:zR):zE7 (zR.enc x):=(flatK yJ (flatK yJ (flatK yJ zEU)))
structure zQ where
 Code:Int
 Version:Version
 deriving DecidableEq
def zQ.enc (x:zQ):List D:=[.sc (.int .i64 x.Code),.sc (.int .i64 x.Version.A),.sc (.int .i64 x.Version.B),.sc (.int .i64 x.Version.C)]
theorem zQ.fl (x:zQ):zE7 (zQ.enc x):=(flatK yJ (flatK yJ (flatK yJ (flatK yJ zEU))))
noncomputable def zA6 (a1:(List ByteArray)) (s8:(Int×Int)):Option (Lp (Int×Int) (Fl Int Int)):=
 if decide (s8.2< (a1.length:Int)) then
  ((idx a1 s8.2).bind fun x10=>
  if decide ((w64 (s8.1-(x10.size:Int)))<0) then
   (some (Lp.done (Fl.ret (-1))))
  else
   (some (Lp.go (w64 (s8.1-(x10.size:Int)),w64 (s8.2+1)))))
 else
  (some (Lp.done (Fl.nxt s8.1)))
noncomputable def zBj (a1:(List ByteArray)):(Int×Int)→Option (Fl Int Int):=loop (zA6 a1)
noncomputable def zAS (a1:(List ByteArray)) (a2:Int):Option Int:=
 if decide ((w64 (a2-(a1.length:Int)))<0) then
  (some (-1))
 else
  ((zBj a1 (w64 (a2-(a1.length:Int)),0)).bind (Fl.go some fun v13=>
  some v13))
noncomputable def zDy (a1:Term) (a2:Int):Option Int:=
 if decide ((w64 (a2-(a1.Name.size:Int)))<0) then
  (some (-1))
 else
  (some (w64 (a2-(a1.Name.size:Int))))
noncomputable def zBG (a1:(List Term)) (s10:(Int×Int)):Option (Lp (Int×Int) (Fl Int Int)):=
 if decide (s10.2< (a1.length:Int)) then
  ((idx a1 s10.2).bind fun x12=>
  (zDy x12 s10.1).bind fun x14=>
  if decide (x14<0) then
   (some (Lp.done (Fl.ret (-1))))
  else
   (some (Lp.go (x14,w64 (s10.2+1)))))
 else
  (some (Lp.done (Fl.nxt s10.1)))
noncomputable def zCE (a1:(List Term)):(Int×Int)→Option (Fl Int Int):=loop (zBG a1)
noncomputable def zAB (a1:(List Term)) (a2:Int):Option Int:=
 if decide ((w64 (a2-(a1.length:Int)))<0) then
  (some (-1))
 else
  ((zCE a1 (w64 (a2-(a1.length:Int)),0)).bind (Fl.go some fun v17=>
  some v17))
noncomputable def zBb (a1:(List (List Term))) (s10:(Int×Int)):Option (Lp (Int×Int) (Fl Int Int)):=
 if decide (s10.2< (a1.length:Int)) then
  ((idx a1 s10.2).bind fun x12=>
  (zAB x12 s10.1).bind fun x14=>
  if decide (x14<0) then
   (some (Lp.done (Fl.ret (-1))))
  else
   (some (Lp.go (x14,w64 (s10.2+1)))))
 else
  (some (Lp.done (Fl.nxt s10.1)))
noncomputable def zBJ (a1:(List (List Term))):(Int×Int)→Option (Fl Int Int):=loop (zBb a1)
noncomputable def zB2 (a1:(List (List Term))) (a2:Int):Option Int:=
 if decide ((w64 (a2-(a1.length:Int)))<0) then
  (some (-1))
 else
  ((zBJ a1 (w64 (a2-(a1.length:Int)),0)).bind (Fl.go some fun v17=>
  some v17))
noncomputable def zDA (a1:Pack) (a2:Int):Option Int:=
 if decide ((w64 (a2-(a1.Name.size:Int)))<0) then
  (some (-1))
 else
  ((zAS a1.Provides (w64 (a2-(a1.Name.size:Int)))).bind fun x4=>
  if decide (x4<0) then
   (some (-1))
  else
   ((zB2 a1.Needs x4).bind fun x7=>
   if decide (x7<0) then
    (some (-1))
   else
    ((zAB a1.Bars x7).bind fun x10=>
    if decide (x10<0) then
     (some (-1))
    else
     (some x10))))
noncomputable def zBL (a1:(List Pack)) (s10:(Int×Int)):Option (Lp (Int×Int) (Fl Int Int)):=
 if decide (s10.2< (a1.length:Int)) then
  ((idx a1 s10.2).bind fun x12=>
  (zDA x12 s10.1).bind fun x14=>
  if decide (x14<0) then
   (some (Lp.done (Fl.ret (-1))))
  else
   (some (Lp.go (x14,w64 (s10.2+1)))))
 else
  (some (Lp.done (Fl.nxt s10.1)))
noncomputable def zCx (a1:(List Pack)):(Int×Int)→Option (Fl Int Int):=loop (zBL a1)
noncomputable def zCF (a1:(List Pack)) (a2:Int):Option Int:=
 if decide ((w64 (a2-(a1.length:Int)))<0) then
  (some (-1))
 else
  ((zCx a1 (w64 (a2-(a1.length:Int)),0)).bind (Fl.go some fun v17=>
  some v17))
noncomputable def zC2 (a1:(List Int)) (a2:Int):Option Int:=
 if decide ((w64 (a2-(a1.length:Int)))<0) then
  (some (-1))
 else
  (some (w64 (a2-(a1.length:Int))))
noncomputable def zD0 (a1:File) (a2:Int):Option Int:=
 if decide ((w64 (a2-(a1.Path.size:Int)))<0) then
  (some (-1))
 else
  ((zC2 a1.Data (w64 (a2-(a1.Path.size:Int)))).bind fun x4=>
  if decide (x4<0) then
   (some (-1))
  else
   (some x4))
noncomputable def zBK (a1:(List File)) (s10:(Int×Int)):Option (Lp (Int×Int) (Fl Int Int)):=
 if decide (s10.2< (a1.length:Int)) then
  ((idx a1 s10.2).bind fun x12=>
  (zD0 x12 s10.1).bind fun x14=>
  if decide (x14<0) then
   (some (Lp.done (Fl.ret (-1))))
  else
   (some (Lp.go (x14,w64 (s10.2+1)))))
 else
  (some (Lp.done (Fl.nxt s10.1)))
noncomputable def zCG (a1:(List File)):(Int×Int)→Option (Fl Int Int):=loop (zBK a1)
noncomputable def zCe (a1:(List File)) (a2:Int):Option Int:=
 if decide ((w64 (a2-(a1.length:Int)))<0) then
  (some (-1))
 else
  ((zCG a1 (w64 (a2-(a1.length:Int)),0)).bind (Fl.go some fun v17=>
  some v17))
noncomputable def zDx (a1:zC) (a2:Int):Option Int:=
 (zCe a1.Files a2).bind fun x3=>
 if decide (x3<0) then
  (some (-1))
 else
  (some x3)
noncomputable def wZ (a1:Version):Option Version:=
 some a1
noncomputable def zBU (a1:(List ByteArray)) (s9:((List ByteArray)×Int)):Option (Lp ((List ByteArray)×Int) (List ByteArray)):=
 if decide (s9.2< (a1.length:Int)) then
  ((idx a1 s9.2).bind fun x11=>
  (idx s9.1 s9.2).bind fun x13=>
  some (Lp.go (s9.1.set s9.2.toNat x11,w64 (s9.2+1))))
 else
  (some (Lp.done s9.1))
noncomputable def zBf (a1:(List ByteArray)):((List ByteArray)×Int)→Option (List ByteArray):=loop (zBU a1)
noncomputable def zAN (a1:(List ByteArray)):Option (List ByteArray):=
 (mk 16 (a1.length:Int) ByteArray.empty).bind fun x2=>
 (zBf a1 (x2,0)).bind fun v15=>
 some v15
noncomputable def zD8 (a1:Term):Option Term:=
 (wZ a1.Low).bind fun x2=>
 (wZ a1.High).bind fun x4=>
 some ({Name:=a1.Name,Low:=x2,High:=x4}:Term)
noncomputable def zDn (a1:(List Term)) (s11:((List Term)×Int)):Option (Lp ((List Term)×Int) (List Term)):=
 if decide (s11.2< (a1.length:Int)) then
  ((idx a1 s11.2).bind fun x13=>
  (zD8 x13).bind fun x15=>
  (idx s11.1 s11.2).bind fun x17=>
  some (Lp.go (s11.1.set s11.2.toNat x15,w64 (s11.2+1))))
 else
  (some (Lp.done s11.1))
noncomputable def zCy (a1:(List Term)):((List Term)×Int)→Option (List Term):=loop (zDn a1)
noncomputable def zAA (a1:(List Term)):Option (List Term):=
 (mk 64 (a1.length:Int) ({Name:=ByteArray.empty,Low:=({A:=0,B:=0,C:=0}:Version),High:=({A:=0,B:=0,C:=0}:Version)}:Term)).bind fun x2=>
 (zCy a1 (x2,0)).bind fun v19=>
 some v19
noncomputable def zCS (a1:(List (List Term))) (s11:((List (List Term))×Int)):Option (Lp ((List (List Term))×Int) (List (List Term))):=
 if decide (s11.2< (a1.length:Int)) then
  ((idx a1 s11.2).bind fun x13=>
  (zAA x13).bind fun x15=>
  (idx s11.1 s11.2).bind fun x17=>
  some (Lp.go (s11.1.set s11.2.toNat x15,w64 (s11.2+1))))
 else
  (some (Lp.done s11.1))
noncomputable def zBN (a1:(List (List Term))):((List (List Term))×Int)→Option (List (List Term)):=loop (zCS a1)
noncomputable def zBw (a1:(List (List Term))):Option (List (List Term)):=
 (mk 24 (a1.length:Int) ([]:List Term)).bind fun x2=>
 (zBN a1 (x2,0)).bind fun v19=>
 some v19
noncomputable def zD4 (a1:Pack):Option Pack:=
 (wZ a1.Version).bind fun x2=>
 (zAN a1.Provides).bind fun x4=>
 (zBw a1.Needs).bind fun x6=>
 (zAA a1.Bars).bind fun x8=>
 some ({Name:=a1.Name,Version:=x2,Size:=a1.Size,Provides:=x4,Needs:=x6,Bars:=x8}:Pack)
noncomputable def zDp (a1:(List Pack)) (s11:((List Pack)×Int)):Option (Lp ((List Pack)×Int) (List Pack)):=
 if decide (s11.2< (a1.length:Int)) then
  ((idx a1 s11.2).bind fun x13=>
  (zD4 x13).bind fun x15=>
  (idx s11.1 s11.2).bind fun x17=>
  some (Lp.go (s11.1.set s11.2.toNat x15,w64 (s11.2+1))))
 else
  (some (Lp.done s11.1))
noncomputable def zCg (a1:(List Pack)):((List Pack)×Int)→Option (List Pack):=loop (zDp a1)
noncomputable def vR (a1:(List Pack)):Option (List Pack):=
 (mk 120 (a1.length:Int) ({Name:=ByteArray.empty,Version:=({A:=0,B:=0,C:=0}:Version),Size:=0,Provides:=([]:List ByteArray),Needs:=([]:List (List Term)),Bars:=([]:List Term)}:Pack)).bind fun x2=>
 (zCg a1 (x2,0)).bind fun v19=>
 some v19
noncomputable def zDq (a1:(List Int)) (s9:((List Int)×Int)):Option (Lp ((List Int)×Int) (List Int)):=
 if decide (s9.2< (a1.length:Int)) then
  ((idx a1 s9.2).bind fun x11=>
  (idx s9.1 s9.2).bind fun x13=>
  some (Lp.go (s9.1.set s9.2.toNat x11,w64 (s9.2+1))))
 else
  (some (Lp.done s9.1))
noncomputable def zCl (a1:(List Int)):((List Int)×Int)→Option (List Int):=loop (zDq a1)
noncomputable def zC0 (a1:(List Int)):Option (List Int):=
 (mk 1 (a1.length:Int) 0).bind fun x2=>
 (zCl a1 (x2,0)).bind fun v15=>
 some v15
noncomputable def zDv (a1:File):Option File:=
 (zC0 a1.Data).bind fun x2=>
 some ({Path:=a1.Path,Data:=x2}:File)
noncomputable def zDl (a1:(List File)) (s11:((List File)×Int)):Option (Lp ((List File)×Int) (List File)):=
 if decide (s11.2< (a1.length:Int)) then
  ((idx a1 s11.2).bind fun x13=>
  (zDv x13).bind fun x15=>
  (idx s11.1 s11.2).bind fun x17=>
  some (Lp.go (s11.1.set s11.2.toNat x15,w64 (s11.2+1))))
 else
  (some (Lp.done s11.1))
noncomputable def zCJ (a1:(List File)):((List File)×Int)→Option (List File):=loop (zDl a1)
noncomputable def zCc (a1:(List File)):Option (List File):=
 (mk 40 (a1.length:Int) ({Path:=ByteArray.empty,Data:=([]:List Int)}:File)).bind fun x2=>
 (zCJ a1 (x2,0)).bind fun v19=>
 some v19
noncomputable def tH (a1:zC):Option zC:=
 (zCc a1.Files).bind fun x2=>
 some ({Files:=x2,Budget:=a1.Budget,Writes:=a1.Writes,Stop:=a1.Stop,Down:=a1.Down}:zC)
noncomputable def vI (a1:Int):Option Bool:=
 if decide (a1≥97) then
  (some (decide (a1≤122)))
 else
  (some false)
noncomputable def vQ (a1:Int):Option Bool:=
 if decide (a1≥48) then
  (some (decide (a1≤57)))
 else
  (some false)
noncomputable def vW (a1:Int):Option Bool:=
 (vI a1).bind fun x2=>
 if x2 then
  (some true)
 else
  ((vQ a1).bind fun x5=>
  if x5 then
   (some true)
  else
   (some (a1==95)))
noncomputable def zBT (a1:ByteArray) (s16:Int):Option (Lp Int (Fl Int Unit)):=
 if decide (s16< (a1.size:Int)) then
  ((bidx a1 s16).bind fun x18=>
  (vW x18).bind fun x20=>
  if !x20 then
   (some (Lp.done (Fl.ret 5)))
  else
   (some (Lp.go (w64 (s16+1)))))
 else
  (some (Lp.done (Fl.nxt ())))
noncomputable def kK (a1:ByteArray):Int→Option (Fl Int Unit):=loop (zBT a1)
noncomputable def vE (a1:ByteArray):Option Int:=
 (if decide ((a1.size:Int)<1) then
   (some true)
  else
   (if decide ((a1.size:Int)>12) then
    (some true)
   else
    ((bidx a1 0).bind fun x4=>
    (vI x4).bind fun x6=>
    some (!x6)))).bind fun v8=>
 if v8 then
  (some 5)
 else
  ((kK a1 0).bind (Fl.go some fun v23=>
  some 0))
noncomputable def wE (a1:Int) (a2:Int) (a3:Int):Option Bool:=
 if decide (a1≥a2) then
  (some (decide (a1≤a3)))
 else
  (some false)
noncomputable def xQ (a1:Version):Option Int:=
 (wE a1.A 0 999).bind fun x2=>
 (if !x2 then
   (some true)
  else
   ((wE a1.B 0 999).bind fun x5=>
   if !x5 then
    (some true)
   else
    ((wE a1.C 0 999).bind fun x8=>
    some (!x8)))).bind fun v10=>
 if v10 then
  (some 3)
 else
  (some 0)
noncomputable def zB6 (a1:(List ByteArray)) (a2:ByteArray) (s7:Int):Option (Lp Int (Fl Bool Unit)):=
 if decide (s7< (a1.length:Int)) then
  ((idx a1 s7).bind fun x9=>
  if seq x9 a2 then
   (some (Lp.done (Fl.ret true)))
  else
   (some (Lp.go (w64 (s7+1)))))
 else
  (some (Lp.done (Fl.nxt ())))
noncomputable def zCf (a1:(List ByteArray)) (a2:ByteArray):Int→Option (Fl Bool Unit):=loop (zB6 a1 a2)
noncomputable def jZ (a1:(List ByteArray)) (a2:ByteArray):Option Bool:=
 (zCf a1 a2 0).bind (Fl.go some fun v12=>
 some false)
noncomputable def zEf:Option Version:=
 some ({A:=1000,B:=0,C:=0}:Version)
noncomputable def zAg (a1:Int) (a2:Int):Option Int:=
 if decide (a1<a2) then
  (some (-1))
 else
  (if decide (a1>a2) then
   (some 1)
  else
   (some 0))
noncomputable def yS (a1:Version) (a2:Version):Option Int:=
 (zAg a1.A a2.A).bind fun x3=>
 if x3 !=0 then
  (some x3)
 else
  ((zAg a1.B a2.B).bind fun x6=>
  if x6 !=0 then
   (some x6)
  else
   ((zAg a1.C a2.C).bind fun x9=>
   some x9))
noncomputable def zAQ (a1:Term):Option Int:=
 (vE a1.Name).bind fun x2=>
 if x2 !=0 then
  (some x2)
 else
  ((xQ a1.Low).bind fun x5=>
  if x5 !=0 then
   (some x5)
  else
   ((zEf).bind fun x8=>
   (if !(a1.High.A==x8.A&&(a1.High.B==x8.B&&(a1.High.C==x8.C&&true))) then
     ((xQ a1.High).bind fun x11=>
     some (x11 !=0))
    else
     (some false)).bind fun v13=>
   if v13 then
    (some 3)
   else
    ((yS a1.Low a1.High).bind fun x15=>
    if decide (x15≥0) then
     (some 1)
    else
     (some 0))))
noncomputable def zBA (a1:(List Term)) (s8:Int):Option (Lp Int (Fl Int Unit)):=
 if decide (s8< (a1.length:Int)) then
  ((idx a1 s8).bind fun x10=>
  (zAQ x10).bind fun x12=>
  if x12 !=0 then
   (some (Lp.done (Fl.ret x12)))
  else
   (some (Lp.go (w64 (s8+1)))))
 else
  (some (Lp.done (Fl.nxt ())))
noncomputable def zCm (a1:(List Term)):Int→Option (Fl Int Unit):=loop (zBA a1)
noncomputable def kC (a1:(List Term)):Option Int:=
 (zCm a1 0).bind (Fl.go some fun v15=>
 some 0)
noncomputable def zA9 (a1:Pack) (s70:Int):Option (Lp Int (Fl Int Unit)):=
 if decide (s70< (a1.Needs.length:Int)) then
  ((idx a1.Needs s70).bind fun x72=>
  if (x72.length:Int)==0 then
   (some (Lp.done (Fl.ret 1)))
  else
   ((idx a1.Needs s70).bind fun x75=>
   (kC x75).bind fun x77=>
   if x77 !=0 then
    (some (Lp.done (Fl.ret x77)))
   else
    (some (Lp.go (w64 (s70+1))))))
 else
  (some (Lp.done (Fl.nxt ())))
noncomputable def kH (a1:Pack):Int→Option (Fl Int Unit):=loop (zA9 a1)
noncomputable def zAu (a1:Pack) (s42:Int):Option (Lp Int (Fl Int Unit)):=
 if decide (s42< (a1.Provides.length:Int)) then
  ((idx a1.Provides s42).bind fun x44=>
  (vE x44).bind fun x46=>
  if x46 !=0 then
   (some (Lp.done (Fl.ret x46)))
  else
   ((idx a1.Provides s42).bind fun x49=>
   (if seq x49 a1.Name then
     (some true)
    else
     ((zFw a1.Provides 0 s42).bind fun x52=>
     (idx a1.Provides s42).bind fun x54=>
     (jZ x52 x54).bind fun x56=>
     some x56)).bind fun v58=>
   if v58 then
    (some (Lp.done (Fl.ret 6)))
   else
    (some (Lp.go (w64 (s42+1))))))
 else
  (some (Lp.done (Fl.nxt ())))
noncomputable def kL (a1:Pack):Int→Option (Fl Int Unit):=loop (zAu a1)
noncomputable def zA1 (a1:Pack) (s19:Int):Option (Lp Int (Fl Int Unit)):=
 if decide (s19< (a1.Needs.length:Int)) then
  ((idx a1.Needs s19).bind fun x21=>
  if decide ((x21.length:Int)>4) then
   (some (Lp.done (Fl.ret 2)))
  else
   (some (Lp.go (w64 (s19+1)))))
 else
  (some (Lp.done (Fl.nxt ())))
noncomputable def zAV (a1:Pack):Int→Option (Fl Int Unit):=loop (zA1 a1)
noncomputable def zAH (a1:Pack):Option Int:=
 (vE a1.Name).bind fun x2=>
 if x2 !=0 then
  (some x2)
 else
  ((xQ a1.Version).bind fun x5=>
  if x5 !=0 then
   (some x5)
  else
   ((wE a1.Size 1 200).bind fun x8=>
   if !x8 then
    (some 3)
   else
    ((if decide ((a1.Provides.length:Int)>4) then
       (some true)
      else
       (if decide ((a1.Needs.length:Int)>4) then
        (some true)
       else
        (some (decide ((a1.Bars.length:Int)>4))))).bind fun v13=>
    if v13 then
     (some 2)
    else
     ((zAV a1 0).bind (Fl.go some fun v24=>
     (kL a1 0).bind (Fl.go some fun v60=>
     (kH a1 0).bind (Fl.go some fun v80=>
     (kC a1.Bars).bind fun x81=>
     some x81)))))))
noncomputable def zCr (a1:(List Pack)) (a2:ByteArray) (a3:Version) (s14:Int):Option (Lp Int (Fl Int Unit)):=
 if decide (s14< (a1.length:Int)) then
  ((idx a1 s14).bind fun x16=>
  (if seq x16.Name a2 then
    ((idx a1 s14).bind fun x19=>
    (yS x19.Version a3).bind fun x21=>
    some (x21==0))
   else
    (some false)).bind fun v23=>
  if v23 then
   (some (Lp.done (Fl.ret s14)))
  else
   (some (Lp.go (w64 (s14+1)))))
 else
  (some (Lp.done (Fl.nxt ())))
noncomputable def zCZ (a1:(List Pack)) (a2:ByteArray) (a3:Version):Int→Option (Fl Int Unit):=loop (zCr a1 a2 a3)
noncomputable def kU (a1:(List Pack)) (a2:ByteArray) (a3:Version):Option Int:=
 (zCZ a1 a2 a3 0).bind (Fl.go some fun v25=>
 some (-1))
noncomputable def tZ (a1:(List Pack)) (s18:Int):Option (Lp Int (Fl Int Unit)):=
 if decide (s18< (a1.length:Int)) then
  ((idx a1 s18).bind fun x20=>
  (zAH x20).bind fun x22=>
  if x22 !=0 then
   (some (Lp.done (Fl.ret x22)))
  else
   ((zFw a1 0 s18).bind fun x25=>
   (idx a1 s18).bind fun x27=>
   (idx a1 s18).bind fun x29=>
   (kU x25 x27.Name x29.Version).bind fun x31=>
   if decide (x31≥0) then
    (some (Lp.done (Fl.ret 6)))
   else
    (some (Lp.go (w64 (s18+1))))))
 else
  (some (Lp.done (Fl.nxt ())))
noncomputable def jP (a1:(List Pack)):Int→Option (Fl Int Unit):=loop (tZ a1)
noncomputable def tF (a1:(List Pack)):Option Int:=
 if decide ((a1.length:Int)>24) then
  (some 2)
 else
  ((jP a1 0).bind (Fl.go some fun v34=>
  some 0))
noncomputable def zD3 (a1:Int):Option Bool:=
 (vW a1).bind fun x2=>
 if x2 then
  (some true)
 else
  (if a1==46 then
   (some true)
  else
   (if a1==45 then
    (some true)
   else
    (some (a1==47))))
noncomputable def jI (a1:ByteArray) (s11:Int):Option (Lp Int (Fl Int Unit)):=
 if decide (s11< (a1.size:Int)) then
  ((bidx a1 s11).bind fun x13=>
  (zD3 x13).bind fun x15=>
  if !x15 then
   (some (Lp.done (Fl.ret 5)))
  else
   (some (Lp.go (w64 (s11+1)))))
 else
  (some (Lp.done (Fl.nxt ())))
noncomputable def uU (a1:ByteArray):Int→Option (Fl Int Unit):=loop (jI a1)
noncomputable def vG (a1:ByteArray):Option Int:=
 (if decide ((a1.size:Int)<1) then
   (some true)
  else
   (some (decide ((a1.size:Int)>40)))).bind fun v3=>
 if v3 then
  (some 5)
 else
  ((uU a1 0).bind (Fl.go some fun v18=>
  some 0))
noncomputable def zAl (a1:zC) (s5:(Int×Int)):Option (Lp (Int×Int) Int):=
 if decide (s5.2< (a1.Files.length:Int)) then
  ((idx a1.Files s5.2).bind fun x7=>
  some (Lp.go (w64 (s5.1+(x7.Data.length:Int)),w64 (s5.2+1))))
 else
  (some (Lp.done s5.1))
noncomputable def zBi (a1:zC):(Int×Int)→Option Int:=loop (zAl a1)
noncomputable def uL (a1:zC):Option Int:=
 (zBi a1 (0,0)).bind fun v9=>
 some v9
noncomputable def jH (a1:zC) (s29:Int):Option (Lp Int (Fl Int Unit)):=
 if decide (s29< (a1.Files.length:Int)) then
  ((idx a1.Files s29).bind fun x31=>
  (vG x31.Path).bind fun x33=>
  if x33 !=0 then
   (some (Lp.done (Fl.ret x33)))
  else
   ((if decide (s29>0) then
      ((idx a1.Files s29).bind fun x37=>
      (idx a1.Files (w64 (s29-1))).bind fun x39=>
      some (slt x37.Path x39.Path||seq x37.Path x39.Path))
     else
      (some false)).bind fun v41=>
   if v41 then
    (some (Lp.done (Fl.ret 1)))
   else
    ((idx a1.Files s29).bind fun x43=>
    if decide ((x43.Data.length:Int)>4000) then
     (some (Lp.done (Fl.ret 2)))
    else
     (some (Lp.go (w64 (s29+1)))))))
 else
  (some (Lp.done (Fl.nxt ())))
noncomputable def uX (a1:zC):Int→Option (Fl Int Unit):=loop (jH a1)
noncomputable def wY (a1:zC):Option Int:=
 (wE a1.Budget 0 20000).bind fun x2=>
 (if !x2 then
   (some true)
  else
   ((wE a1.Writes 0 1000000000).bind fun x5=>
   if !x5 then
    (some true)
   else
    ((wE a1.Stop (-1) 1000000000).bind fun x8=>
    some (!x8)))).bind fun v10=>
 if v10 then
  (some 3)
 else
  (if decide ((a1.Files.length:Int)>120) then
   (some 2)
  else
   ((uX a1 0).bind (Fl.go some fun v46=>
   (uL a1).bind fun x47=>
   if decide (x47>a1.Budget) then
    (some 8)
   else
    (some 0))))
noncomputable def zC4 (a1:(List Pack)) (a2:zC):Option Int:=
 (tF a1).bind fun x3=>
 if x3 !=0 then
  (some x3)
 else
  ((wY a2).bind fun x6=>
  some x6)
noncomputable def zCC (a1:(List Pack)) (a2:zC):Option Int:=
 (zC4 a1 a2).bind fun x3=>
 if x3 !=0 then
  (some x3)
 else
  (if a2.Down then
   (some 9)
  else
   (some 0))
noncomputable def zAY (a1:zC) (a2:ByteArray) (s7:Int):Option (Lp Int (Fl Int Unit)):=
 if decide (s7< (a1.Files.length:Int)) then
  ((idx a1.Files s7).bind fun x9=>
  if seq x9.Path a2 then
   (some (Lp.done (Fl.ret s7)))
  else
   (some (Lp.go (w64 (s7+1)))))
 else
  (some (Lp.done (Fl.nxt ())))
noncomputable def zBQ (a1:zC) (a2:ByteArray):Int→Option (Fl Int Unit):=loop (zAY a1 a2)
noncomputable def xP (a1:zC) (a2:ByteArray):Option Int:=
 (zBQ a1 a2 0).bind (Fl.go some fun v12=>
 some (-1))
noncomputable def jW (a1:ByteArray) (a2:ByteArray):Option Bool:=
 if decide ((a1.size:Int)≥(a2.size:Int)) then
  ((zIs a1 0 (a2.size:Int)).bind fun x4=>
  some (seq x4 a2))
 else
  (some false)
noncomputable def zAo (a1:zC) (a2:ByteArray) (s14:((List ByteArray)×Int)):Option (Lp ((List ByteArray)×Int) (List ByteArray)):=
 if decide (s14.2< (a1.Files.length:Int)) then
  ((idx a1.Files s14.2).bind fun x16=>
  (jW x16.Path a2).bind fun x18=>
  (if x18 then
    ((idx a1.Files s14.2).bind fun x21=>
    (app 16 s14.1 [x21.Path]).bind fun x23=>
    some x23)
   else
    (some s14.1)).bind fun v25=>
  some (Lp.go (v25,w64 (s14.2+1))))
 else
  (some (Lp.done s14.1))
noncomputable def zAf (a1:zC) (a2:ByteArray):((List ByteArray)×Int)→Option (List ByteArray):=loop (zAo a1 a2)
noncomputable def zAy (a1:zC) (a2:ByteArray):Option (List ByteArray):=
 (zAf a1 a2 (([]:List ByteArray),0)).bind fun v26=>
 some v26
noncomputable def zBc (a1:ByteArray) (s14:(Int×Int)):Option (Lp (Int×Int) (Fl (Int×Bool) Int)):=
 if decide (s14.2< (a1.size:Int)) then
  ((bidx a1 s14.2).bind fun x16=>
  (vQ x16).bind fun x18=>
  if !x18 then
   (some (Lp.done (Fl.ret (0,false))))
  else
   ((bidx a1 s14.2).bind fun x21=>
   some (Lp.go (w64 ((w64 (s14.1*10))+(w64 (IntKind.u8.wrap (x21-48)))),w64 (s14.2+1)))))
 else
  (some (Lp.done (Fl.nxt s14.1)))
noncomputable def zB7 (a1:ByteArray):(Int×Int)→Option (Fl (Int×Bool) Int):=loop (zBc a1)
noncomputable def jY (a1:ByteArray) (a2:Int):Option (Int×Bool):=
 (if decide ((a1.size:Int)<1) then
   (some true)
  else
   (some (decide ((a1.size:Int)>a2)))).bind fun v4=>
 if v4 then
  (some (0,false))
 else
  ((zB7 a1 (0,0)).bind (Fl.go some fun v23=>
  some (v23,true)))
noncomputable def uM (g:Int→Option ByteArray) (s:Int):Option ByteArray:=
 match s with
 |a1=>
 if decide (a1<10) then
  (some (b2s [IntKind.u8.wrap (w64 (48+a1))]))
 else
  ((g (w64 (a1.tdiv 10))).bind fun x3=>
  (cat x3 (b2s [IntKind.u8.wrap (w64 (48+(a1.tmod 10)))])).bind fun x5=>
  some x5)
noncomputable def xY (a1:Int):Option ByteArray:=zPt uM 64 a1
noncomputable def jB (a1:Int):Option ByteArray:=
 (wE a1 1 999999).bind fun x2=>
 if !x2 then
  (some (bs []))
 else
  ((xY (w64 (1000000+a1))).bind fun x5=>
  (zIs x5 1 (x5.size:Int)).bind fun x7=>
  (cat (bs [103,101,110,47]) x7).bind fun x9=>
  some x9)
noncomputable def zC5 (a1:zC) (x2:(List ByteArray)) (s21:((List Int)×Int)):Option (Lp ((List Int)×Int) (List Int)):=
 if decide (s21.2< (x2.length:Int)) then
  ((idx x2 s21.2).bind fun x23=>
  (zIs x23 4 (x23.size:Int)).bind fun x25=>
  (jY x25 6).bind fun x27=>
  (if x27.2 then
    ((jB x27.1).bind fun x30=>
    (idx x2 s21.2).bind fun x32=>
    some (seq x30 x32))
   else
    (some false)).bind fun v34=>
  (if v34 then
    ((app 8 s21.1 [x27.1]).bind fun x36=>
    some x36)
   else
    (some s21.1)).bind fun v38=>
  some (Lp.go (v38,w64 (s21.2+1))))
 else
  (some (Lp.done s21.1))
noncomputable def zDc (a1:zC) (x2:(List ByteArray)):((List Int)×Int)→Option (List Int):=loop (zC5 a1 x2)
noncomputable def zD5 (a1:zC):Option (List Int):=
 (zAy a1 (bs [103,101,110,47])).bind fun x2=>
 (zDc a1 x2 (([]:List Int),0)).bind fun v39=>
 some v39
noncomputable def zDh (a1:(List Int)) (a2:Int) (s7:Int):Option (Lp Int (Fl Bool Unit)):=
 if decide (s7< (a1.length:Int)) then
  ((idx a1 s7).bind fun x9=>
  if x9==a2 then
   (some (Lp.done (Fl.ret true)))
  else
   (some (Lp.go (w64 (s7+1)))))
 else
  (some (Lp.done (Fl.nxt ())))
noncomputable def zDP (a1:(List Int)) (a2:Int):Int→Option (Fl Bool Unit):=loop (zDh a1 a2)
noncomputable def zCR (a1:(List Int)) (a2:Int):Option Bool:=
 (zDP a1 a2 0).bind (Fl.go some fun v12=>
 some false)
noncomputable def zBO (a1:ByteArray) (a2:Int) (s14:((List ByteArray)×Int×Int)):Option (Lp ((List ByteArray)×Int×Int) (List ByteArray)):=
 if decide (s14.2.2≤(a1.size:Int)) then
  ((if s14.2.2==(a1.size:Int) then
     (some true)
    else
     ((bidx a1 s14.2.2).bind fun x17=>
     some (x17==a2))).bind fun v19=>
  (if v19 then
    ((zIs a1 s14.2.1 s14.2.2).bind fun x21=>
    (app 16 s14.1 [x21]).bind fun x23=>
    some (x23,w64 (s14.2.2+1)))
   else
    (some (s14.1,s14.2.1))).bind fun v25=>
  some (Lp.go (v25.1,v25.2,w64 (s14.2.2+1))))
 else
  (some (Lp.done s14.1))
noncomputable def zCD (a1:ByteArray) (a2:Int):((List ByteArray)×Int×Int)→Option (List ByteArray):=loop (zBO a1 a2)
noncomputable def tT (a1:ByteArray) (a2:Int):Option (List ByteArray):=
 (zCD a1 a2 (([]:List ByteArray),0,0)).bind fun v26=>
 some v26
noncomputable def zCp (a1:ByteArray):Option (List ByteArray):=
 (tT a1 10).bind fun x2=>
 (idx x2 (w64 ((x2.length:Int)-1))).bind fun x4=>
 (if seq x4 (bs []) then
   ((zFw x2 0 (w64 ((x2.length:Int)-1))).bind fun x7=>
   some x7)
  else
   (some x2)).bind fun v9=>
 some v9
noncomputable def zB9 (x2:(List ByteArray)) (s13:((List ByteArray)×Int)):Option (Lp ((List ByteArray)×Int) (List ByteArray)):=
 if decide (s13.2< (x2.length:Int)) then
  ((idx x2 s13.2).bind fun x15=>
  (if !(seq x15 (bs [])) then
    ((idx x2 s13.2).bind fun x18=>
    (app 16 s13.1 [x18]).bind fun x20=>
    some x20)
   else
    (some s13.1)).bind fun v22=>
  some (Lp.go (v22,w64 (s13.2+1))))
 else
  (some (Lp.done s13.1))
noncomputable def zCI (x2:(List ByteArray)):((List ByteArray)×Int)→Option (List ByteArray):=loop (zB9 x2)
noncomputable def zCq (a1:ByteArray):Option (List ByteArray):=
 (tT a1 32).bind fun x2=>
 (zCI x2 (([]:List ByteArray),0)).bind fun v23=>
 some v23
noncomputable def tV (x2:(List ByteArray)) (s13:((List Int)×Int)):Option (Lp ((List Int)×Int) (Fl zQ (List Int))):=
 if decide (s13.2< (x2.length:Int)) then
  ((idx x2 s13.2).bind fun x15=>
  (jY x15 3).bind fun x17=>
  if !x17.2 then
   (some (Lp.done (Fl.ret ({Code:=5,Version:=({A:=0,B:=0,C:=0}:Version)}:zQ))))
  else
   ((idx s13.1 s13.2).bind fun x20=>
   some (Lp.go (s13.1.set s13.2.toNat x17.1,w64 (s13.2+1)))))
 else
  (some (Lp.done (Fl.nxt s13.1)))
noncomputable def jU (x2:(List ByteArray)):((List Int)×Int)→Option (Fl zQ (List Int)):=loop (tV x2)
noncomputable def vN (a1:ByteArray):Option zQ:=
 (tT a1 46).bind fun x2=>
 if decide ((x2.length:Int)>3) then
  (some ({Code:=5,Version:=({A:=0,B:=0,C:=0}:Version)}:zQ))
 else
  ((jU x2 ([0,0,0],0)).bind (Fl.go some fun v22=>
  (idx v22 0).bind fun x23=>
  (idx v22 1).bind fun x25=>
  (idx v22 2).bind fun x27=>
  some ({Code:=0,Version:=({A:=x23,B:=x25,C:=x27}:Version)}:zQ)))
noncomputable def zDb (a1:(List Int)) (a2:Int) (s16:((List Int)×Bool×Int)):Option (Lp ((List Int)×Bool×Int) ((List Int)×Bool)):=
 if decide (s16.2.2< (a1.length:Int)) then
  ((idx a1 s16.2.2).bind fun x18=>
  (if decide (x18>a2) then
    (some (!s16.2.1))
   else
    (some false)).bind fun v21=>
  (if v21 then
    ((app 8 s16.1 [a2]).bind fun x23=>
    some (x23,true))
   else
    (some (s16.1,s16.2.1))).bind fun v25=>
  (idx a1 s16.2.2).bind fun x26=>
  (app 8 v25.1 [x26]).bind fun x28=>
  some (Lp.go (x28,v25.2,w64 (s16.2.2+1))))
 else
  (some (Lp.done (s16.1,s16.2.1)))
noncomputable def zDO (a1:(List Int)) (a2:Int):((List Int)×Bool×Int)→Option ((List Int)×Bool):=loop (zDb a1 a2)
noncomputable def zDC (a1:(List Int)) (a2:Int):Option (List Int):=
 (zDO a1 a2 (([]:List Int),false,0)).bind fun v30=>
 (if !v30.2 then
   ((app 8 v30.1 [a2]).bind fun x32=>
   some x32)
  else
   (some v30.1)).bind fun v34=>
 some v34
noncomputable def zAp (a1:(List Pack)) (x4:(List ByteArray)) (s29:((List Int)×Int)):Option (Lp ((List Int)×Int) (Fl xI (List Int))):=
 if decide (s29.2< (x4.length:Int)) then
  ((idx x4 s29.2).bind fun x31=>
  (zCq x31).bind fun x33=>
  (if (x33.length:Int)==2 then
    ((idx x33 1).bind fun x36=>
    (vN x36).bind fun x38=>
    if x38.Code==0 then
     ((idx x33 0).bind fun x41=>
     (kU a1 x41 x38.Version).bind fun x43=>
     some x43)
    else
     (some (-1)))
   else
    (some (-1))).bind fun v45=>
  (if decide (v45<0) then
    (some true)
   else
    ((zCR s29.1 v45).bind fun x47=>
    some x47)).bind fun v49=>
  if v49 then
   (some (Lp.done (Fl.ret ({Code:=5,At:=s29.2,Set:=([]:List Int)}:xI))))
  else
   ((zDC s29.1 v45).bind fun x51=>
   some (Lp.go (x51,w64 (s29.2+1)))))
 else
  (some (Lp.done (Fl.nxt s29.1)))
noncomputable def zCn (a1:(List Pack)) (x4:(List ByteArray)):((List Int)×Int)→Option (Fl xI (List Int)):=loop (zAp a1 x4)
noncomputable def zCs (a1:(List Pack)) (a2:ByteArray):Option xI:=
 if decide ((a2.size:Int)>4000) then
  (some ({Code:=2,At:=0,Set:=([]:List Int)}:xI))
 else
  ((zCp a2).bind fun x4=>
  (zCn a1 x4 (([]:List Int),0)).bind (Fl.go some fun v53=>
  some ({Code:=0,At:=0,Set:=v53}:xI)))
noncomputable def zEg (a1:(List Pack)) (a2:zC) (a3:Int):Option xI:=
 (zD5 a2).bind fun x4=>
 (zCR x4 a3).bind fun x6=>
 if !x6 then
  (some ({Code:=4,At:=0,Set:=([]:List Int)}:xI))
 else
  ((jB a3).bind fun x9=>
  (xP a2 x9).bind fun x11=>
  (idx a2.Files x11).bind fun x13=>
  (zCs a1 (b2s x13.Data)).bind fun x15=>
  if x15.Code !=0 then
   (some ({Code:=x15.Code,At:=0,Set:=([]:List Int)}:xI))
  else
   (some x15))
noncomputable def jX (a1:Term) (a2:ByteArray) (a3:Version):Option Bool:=
 if seq a1.Name a2 then
  ((yS a3 a1.Low).bind fun x5=>
  if decide (x5≥0) then
   ((yS a3 a1.High).bind fun x8=>
   some (decide (x8<0)))
  else
   (some false))
 else
  (some false)
noncomputable def zCz (a1:Pack) (a2:Term):Option Bool:=
 if seq a2.Name a1.Name then
  ((jX a2 a2.Name a1.Version).bind fun x4=>
  some x4)
 else
  ((jZ a1.Provides a2.Name).bind fun x6=>
  if x6 then
   ((jX a2 a2.Name a1.Version).bind fun x9=>
   some x9)
  else
   (some false))
noncomputable def zBD (a1:(List Pack)) (a2:(List Int)) (a3:Term) (a4:Int) (s17:Int):Option (Lp Int (Fl Bool Unit)):=
 if decide (s17< (a2.length:Int)) then
  ((idx a2 s17).bind fun x19=>
  (if x19 !=a4 then
    ((idx a2 s17).bind fun x22=>
    (idx a1 x22).bind fun x24=>
    (zCz x24 a3).bind fun x26=>
    some x26)
   else
    (some false)).bind fun v28=>
  if v28 then
   (some (Lp.done (Fl.ret true)))
  else
   (some (Lp.go (w64 (s17+1)))))
 else
  (some (Lp.done (Fl.nxt ())))
noncomputable def zCj (a1:(List Pack)) (a2:(List Int)) (a3:Term) (a4:Int):Int→Option (Fl Bool Unit):=loop (zBD a1 a2 a3 a4)
noncomputable def zA0 (a1:(List Pack)) (a2:(List Int)) (a3:Term) (a4:Int):Option Bool:=
 (zCj a1 a2 a3 a4 0).bind (Fl.go some fun v30=>
 some false)
noncomputable def zDg (a1:(List Pack)) (a2:(List Int)) (a3:(List Term)) (s10:Int):Option (Lp Int (Fl Bool Unit)):=
 if decide (s10< (a3.length:Int)) then
  ((idx a3 s10).bind fun x12=>
  (zA0 a1 a2 x12 (-1)).bind fun x14=>
  if x14 then
   (some (Lp.done (Fl.ret true)))
  else
   (some (Lp.go (w64 (s10+1)))))
 else
  (some (Lp.done (Fl.nxt ())))
noncomputable def zDJ (a1:(List Pack)) (a2:(List Int)) (a3:(List Term)):Int→Option (Fl Bool Unit):=loop (zDg a1 a2 a3)
noncomputable def zDV (a1:(List Pack)) (a2:(List Int)) (a3:(List Term)):Option Bool:=
 (zDJ a1 a2 a3 0).bind (Fl.go some fun v17=>
 some false)
noncomputable def zBk (a1:(List Pack)) (a2:(List Int)) (s82:((List zR)×Int)) (x86:Pack) (s147:((List zR)×Int)):Option (Lp ((List zR)×Int) (List zR)):=
 if decide (s147.2< (x86.Bars.length:Int)) then
  ((idx x86.Bars s147.2).bind fun x149=>
  (idx a2 s82.2).bind fun x151=>
  (zA0 a1 a2 x149 x151).bind fun x153=>
  (if x153 then
    ((idx a2 s82.2).bind fun x156=>
    (app 24 s147.1 [({Kind:=3,Pack:=x156,At:=s147.2}:zR)]).bind fun x158=>
    some x158)
   else
    (some s147.1)).bind fun v160=>
  some (Lp.go (v160,w64 (s147.2+1))))
 else
  (some (Lp.done s147.1))
noncomputable def zBM (a1:(List Pack)) (a2:(List Int)) (s82:((List zR)×Int)) (x86:Pack):((List zR)×Int)→Option (List zR):=loop (zBk a1 a2 s82 x86)
noncomputable def zAX (a1:(List Pack)) (a2:(List Int)) (s82:((List zR)×Int)) (x86:Pack) (s121:((List zR)×Int)):Option (Lp ((List zR)×Int) (List zR)):=
 if decide (s121.2< (x86.Needs.length:Int)) then
  ((idx x86.Needs s121.2).bind fun x123=>
  (zDV a1 a2 x123).bind fun x125=>
  (if !x125 then
    ((idx a2 s82.2).bind fun x128=>
    (app 24 s121.1 [({Kind:=2,Pack:=x128,At:=s121.2}:zR)]).bind fun x130=>
    some x130)
   else
    (some s121.1)).bind fun v132=>
  some (Lp.go (v132,w64 (s121.2+1))))
 else
  (some (Lp.done s121.1))
noncomputable def zBF (a1:(List Pack)) (a2:(List Int)) (s82:((List zR)×Int)) (x86:Pack):((List zR)×Int)→Option (List zR):=loop (zAX a1 a2 s82 x86)
noncomputable def zBg (a1:(List Pack)) (a2:(List Int)) (s82:((List zR)×Int)) (x86:Pack) (s98:Int):Option (Lp Int (List zR)):=
 if decide (s98<s82.2) then
  ((idx a2 s98).bind fun x100=>
  (idx a1 x100).bind fun x102=>
  if seq x102.Name x86.Name then
   ((idx a2 s82.2).bind fun x105=>
   (app 24 s82.1 [({Kind:=1,Pack:=x105,At:=0}:zR)]).bind fun x107=>
   some (Lp.done x107))
  else
   (some (Lp.go (w64 (s98+1)))))
 else
  (some (Lp.done s82.1))
noncomputable def zAn (a1:(List Pack)) (a2:(List Int)) (s82:((List zR)×Int)) (x86:Pack):Int→Option (List zR):=loop (zBg a1 a2 s82 x86)
noncomputable def zBm (a1:(List Pack)) (a2:(List Int)) (s82:((List zR)×Int)):Option (Lp ((List zR)×Int) (List zR)):=
 if decide (s82.2< (a2.length:Int)) then
  ((idx a2 s82.2).bind fun x84=>
  (idx a1 x84).bind fun x86=>
  (zAn a1 a2 s82 x86 0).bind fun v109=>
  (zBF a1 a2 s82 x86 (v109,0)).bind fun v133=>
  (zBM a1 a2 s82 x86 (v133,0)).bind fun v161=>
  some (Lp.go (v161,w64 (s82.2+1))))
 else
  (some (Lp.done s82.1))
noncomputable def zBC (a1:(List Pack)) (a2:(List Int)):((List zR)×Int)→Option (List zR):=loop (zBm a1 a2)
noncomputable def zBr (a1:(List Pack)) (a2:(List Int)):Option (List zR):=
 (zBC a1 a2 (([]:List zR),0)).bind fun v162=>
 some v162
noncomputable def zC9 (a1:(List Pack)) (a2:(List Int)):Option Bool:=
 (zBr a1 a2).bind fun x3=>
 some ((x3.length:Int)==0)
noncomputable def uH (a1:Version):Option ByteArray:=
 (xQ a1).bind fun x2=>
 if x2 !=0 then
  (some (bs []))
 else
  ((xY a1.A).bind fun x5=>
  (cat x5 (bs [46])).bind fun x7=>
  (xY a1.B).bind fun x9=>
  (cat x7 x9).bind fun x11=>
  (cat x11 (bs [46])).bind fun x13=>
  (xY a1.C).bind fun x15=>
  (cat x13 x15).bind fun x17=>
  some x17)
noncomputable def zDz (a1:Pack):Option ByteArray:=
 (cat (bs [112,107,103,47]) a1.Name).bind fun x2=>
 (cat x2 (bs [45])).bind fun x4=>
 (uH a1.Version).bind fun x6=>
 (cat x4 x6).bind fun x8=>
 some x8
noncomputable def zBE (a1:Pack) (s13:(Int×(List Int)×Int)):Option (Lp (Int×(List Int)×Int) (List Int)):=
 if decide (s13.2.2<a1.Size) then
  ((app 1 s13.2.1 [IntKind.u8.wrap (s13.1.tmod 256)]).bind fun x15=>
  some (Lp.go (w64 ((w64 (31*(s13.1.tmod 256)))+7),x15,w64 (s13.2.2+1))))
 else
  (some (Lp.done s13.2.1))
noncomputable def zC6 (a1:Pack):(Int×(List Int)×Int)→Option (List Int):=loop (zBE a1)
noncomputable def zBH (a1:Pack) (s5:(Int×Int)):Option (Lp (Int×Int) Int):=
 if decide (s5.2< (a1.Name.size:Int)) then
  ((bidx a1.Name s5.2).bind fun x7=>
  some (Lp.go (w64 (s5.1+(w64 (x7))),w64 (s5.2+1))))
 else
  (some (Lp.done s5.1))
noncomputable def zBZ (a1:Pack):(Int×Int)→Option Int:=loop (zBH a1)
noncomputable def zCw (a1:Pack):Option (List Int):=
 (zBZ a1 (w64 ((w64 (a1.Version.A+a1.Version.B))+a1.Version.C),0)).bind fun v9=>
 (zC6 a1 (v9,([]:List Int),0)).bind fun v17=>
 some v17
noncomputable def zEa (a1:(List Int)) (a2:(List Int)):Option Bool:=
 some (seq (b2s a1) (b2s a2))
noncomputable def zAq (a1:(List Pack)) (a2:zC) (a3:(List Int)) (s31:((List Int)×Int)):Option (Lp ((List Int)×Int) (List Int)):=
 if decide (s31.2< (a3.length:Int)) then
  ((idx a3 s31.2).bind fun x33=>
  (idx a1 x33).bind fun x35=>
  (zDz x35).bind fun x37=>
  (xP a2 x37).bind fun x39=>
  (if decide (x39<0) then
    (some true)
   else
    ((idx a2.Files x39).bind fun x42=>
    (idx a3 s31.2).bind fun x44=>
    (idx a1 x44).bind fun x46=>
    (zCw x46).bind fun x48=>
    (zEa x42.Data x48).bind fun x50=>
    some (!x50))).bind fun v52=>
  (if v52 then
    ((idx a3 s31.2).bind fun x54=>
    (app 8 s31.1 [x54]).bind fun x56=>
    some x56)
   else
    (some s31.1)).bind fun v58=>
  some (Lp.go (v58,w64 (s31.2+1))))
 else
  (some (Lp.done s31.1))
noncomputable def zDY (a1:(List Pack)) (a2:zC) (a3:(List Int)):((List Int)×Int)→Option (List Int):=loop (zAq a1 a2 a3)
noncomputable def zDf (a1:(List Pack)) (a2:zC) (a3:(List Int)):Option (List Int):=
 (zDY a1 a2 a3 (([]:List Int),0)).bind fun v59=>
 some v59
noncomputable def zBa (a1:zC) (s20:((List File)×Int)):Option (Lp ((List File)×Int) (List File)):=
 if decide (s20.2< (a1.Files.length:Int)) then
  ((idx a1.Files s20.2).bind fun x22=>
  (idx a1.Files s20.2).bind fun x24=>
  (app 1 ([]:List Int) x24.Data).bind fun x26=>
  (app 40 s20.1 [({Path:=x22.Path,Data:=x26}:File)]).bind fun x28=>
  some (Lp.go (x28,w64 (s20.2+1))))
 else
  (some (Lp.done s20.1))
noncomputable def zAR (a1:zC):((List File)×Int)→Option (List File):=loop (zBa a1)
noncomputable def zBu (a1:zC):Option zC:=
 (zAR a1 (([]:List File),0)).bind fun v30=>
 some ({Files:=v30,Budget:=a1.Budget,Writes:=a1.Writes,Stop:=a1.Stop,Down:=a1.Down}:zC)
noncomputable def zD7 (a1:zC):Option (Bool×zC):=
 if a1.Down then
  (some (false,a1))
 else
  ((if a1.Stop !=(-1) then
     (some (decide (a1.Writes≥a1.Stop)))
    else
     (some false)).bind fun v4=>
  if v4 then
   (some (false,({Files:=a1.Files,Budget:=a1.Budget,Writes:=a1.Writes,Stop:=a1.Stop,Down:=true}:zC)))
  else
   (some (true,({Files:=a1.Files,Budget:=a1.Budget,Writes:=w64 (a1.Writes+1),Stop:=a1.Stop,Down:=a1.Down}:zC))))
noncomputable def zBl (a2:ByteArray) (x17:(Bool×zC)) (x20:(List Int)) (s30:Int):Option (Lp Int Int):=
 (if decide (s30< (x17.2.Files.length:Int)) then
   ((idx x17.2.Files s30).bind fun x32=>
   some (slt x32.Path a2))
  else
   (some false)).bind fun v34=>
 if v34 then
  (some (Lp.go (w64 (s30+1))))
 else
  (some (Lp.done s30))
noncomputable def zBB (a2:ByteArray) (x17:(Bool×zC)) (x20:(List Int)):Int→Option Int:=loop (zBl a2 x17 x20)
noncomputable def zA7 (a1:zC) (a2:ByteArray) (a3:(List Int)):Option (Int×zC):=
 (xP a1 a2).bind fun x4=>
 (if decide (x4≥0) then
   ((idx a1.Files x4).bind fun x7=>
   some (x7.Data.length:Int))
  else
   (some 0)).bind fun v9=>
 (if decide ((a3.length:Int)>4000) then
   (some true)
  else
   (if decide (x4<0) then
    (some (decide ((a1.Files.length:Int)≥120)))
   else
    (some false))).bind fun v12=>
 if v12 then
  (some (2,a1))
 else
  ((uL a1).bind fun x14=>
  if decide ((w64 ((w64 (x14-v9))+(a3.length:Int)))>a1.Budget) then
   (some (8,a1))
  else
   ((zD7 a1).bind fun x17=>
   if !x17.1 then
    (some (9,x17.2))
   else
    ((app 1 ([]:List Int) a3).bind fun x20=>
    if decide (x4≥0) then
     ((idx x17.2.Files x4).bind fun x23=>
     some (0,({Files:=x17.2.Files.set x4.toNat ({Path:=a2,Data:=x20}:File),Budget:=x17.2.Budget,Writes:=x17.2.Writes,Stop:=x17.2.Stop,Down:=x17.2.Down}:zC)))
    else
     ((zBB a2 x17 x20 0).bind fun v36=>
     (zFw x17.2.Files 0 v36).bind fun x37=>
     (app 40 ([]:List File) x37).bind fun x39=>
     (app 40 x39 [({Path:=a2,Data:=x20}:File)]).bind fun x41=>
     (zFw x17.2.Files v36 (x17.2.Files.length:Int)).bind fun x43=>
     (app 40 x41 x43).bind fun x45=>
     some (0,({Files:=x45,Budget:=x17.2.Budget,Writes:=x17.2.Writes,Stop:=x17.2.Stop,Down:=x17.2.Down}:zC))))))
noncomputable def zCb (a1:zC) (a2:Int):Option zH:=
 (if a2 !=0 then
   (some (a2 !=9))
  else
   (some false)).bind fun v4=>
 if v4 then
  (some ({Code:=a2,zC:=({Files:=([]:List File),Budget:=0,Writes:=0,Stop:=0,Down:=false}:zC)}:zH))
 else
  (some ({Code:=a2,zC:=a1}:zH))
noncomputable def jD (a1:(List Pack)) (a2:zC) (a3:Int):Option zH:=
 (zCC a1 a2).bind fun x4=>
 if x4 !=0 then
  (some ({Code:=x4,zC:=({Files:=([]:List File),Budget:=0,Writes:=0,Stop:=0,Down:=false}:zC)}:zH))
 else
  ((xP a2 (bs [112,108,97,110])).bind fun x7=>
  if decide (x7≥0) then
   (some ({Code:=6,zC:=({Files:=([]:List File),Budget:=0,Writes:=0,Stop:=0,Down:=false}:zC)}:zH))
  else
   ((zEg a1 a2 a3).bind fun x10=>
   if x10.Code !=0 then
    (some ({Code:=x10.Code,zC:=({Files:=([]:List File),Budget:=0,Writes:=0,Stop:=0,Down:=false}:zC)}:zH))
   else
    ((zC9 a1 x10.Set).bind fun x13=>
    (if !x13 then
      (some true)
     else
      ((zDf a1 a2 x10.Set).bind fun x16=>
      some (decide ((x16.length:Int)>0)))).bind fun v18=>
    if v18 then
     (some ({Code:=1,zC:=({Files:=([]:List File),Budget:=0,Writes:=0,Stop:=0,Down:=false}:zC)}:zH))
    else
     ((zBu a2).bind fun x20=>
     (xY a3).bind fun x22=>
     (zA7 x20 (bs [99,117,114]) (s2b x22)).bind fun x24=>
     (zCb x24.2 x24.1).bind fun x26=>
     some x26))))
noncomputable def wF (a1:Int):Option Bool:=
 if decide (a1≥97) then
  (if decide (a1≤122) then
   (some true)
  else
   (if decide (a1≥48) then
    (if decide (a1≤57) then
     (some true)
    else
     (some (a1==95)))
   else
    (some (a1==95))))
 else
  (if decide (a1≥48) then
   (if decide (a1≤57) then
    (some true)
   else
    (some (a1==95)))
  else
   (some (a1==95)))
noncomputable def zBW (a1:ByteArray) (s17:Int):Option (Lp Int (Fl Int Unit)):=
 if decide (s17< (a1.size:Int)) then
  ((bidx a1 s17).bind fun x19=>
  (wF x19).bind fun x21=>
  if !x21 then
   (some (Lp.done (Fl.ret 5)))
  else
   (some (Lp.go (w64 (s17+1)))))
 else
  (some (Lp.done (Fl.nxt ())))
noncomputable def kG (a1:ByteArray):Int→Option (Fl Int Unit):=loop (zBW a1)
noncomputable def vB (a1:ByteArray):Option Int:=
 (if decide ((a1.size:Int)<1) then
   (some true)
  else
   (if decide ((a1.size:Int)>12) then
    (some true)
   else
    ((bidx a1 0).bind fun x4=>
    if decide (x4<97) then
     (some true)
    else
     ((bidx a1 0).bind fun x7=>
     some (decide (x7>122)))))).bind fun v9=>
 if v9 then
  (some 5)
 else
  ((kG a1 0).bind (Fl.go some fun v24=>
  some 0))
noncomputable def xM (a1:Int) (a2:Int) (a3:Int):Option Bool:=
 if decide (a2≤a1) then
  (some (decide (a1≤a3)))
 else
  (some false)
noncomputable def wI (a1:Version):Option Int:=
 (xM a1.A 0 999).bind fun x2=>
 (if !x2 then
   (some true)
  else
   ((xM a1.B 0 999).bind fun x5=>
   if !x5 then
    (some true)
   else
    ((xM a1.C 0 999).bind fun x8=>
    some (!x8)))).bind fun v10=>
 if v10 then
  (some 3)
 else
  (some 0)
noncomputable def zA2 (a1:(List Int)) (s6:Int):Option (Lp Int (Fl Int Unit)):=
 if decide (s6< (a1.length:Int)) then
  ((idx a1 s6).bind fun x8=>
  if x8 !=0 then
   (some (Lp.done (Fl.ret x8)))
  else
   (some (Lp.go (w64 (s6+1)))))
 else
  (some (Lp.done (Fl.nxt ())))
noncomputable def zAW (a1:(List Int)):Int→Option (Fl Int Unit):=loop (zA2 a1)
noncomputable def zAE (a1:(List Int)):Option Int:=
 (zAW a1 0).bind (Fl.go some fun v11=>
 some 0)
noncomputable def zAm (a1:(List Term)):Option Bool:=
 some (decide ((a1.length:Int)>4))
noncomputable def yF (a1:(List (List Term))) (s8:Int):Option (Lp Int (Fl Int Unit)):=
 if decide (s8< (a1.length:Int)) then
  ((idx a1 s8).bind fun x10=>
  (zAm x10).bind fun x12=>
  if x12 then
   (some (Lp.done (Fl.ret s8)))
  else
   (some (Lp.go (w64 (s8+1)))))
 else
  (some (Lp.done (Fl.nxt ())))
noncomputable def yM (a1:(List (List Term))):Int→Option (Fl Int Unit):=loop (yF a1)
noncomputable def yC (a1:(List (List Term))):Option Int:=
 (yM a1 0).bind (Fl.go some fun v15=>
 some (-1))
noncomputable def zO (a1:(List (List Term))):Option Bool:=
 (yC a1).bind fun x2=>
 some (decide (x2≥0))
noncomputable def vO (a1:(List ByteArray)) (a2:ByteArray) (s7:Int):Option (Lp Int (Fl Int Unit)):=
 if decide (s7< (a1.length:Int)) then
  ((idx a1 s7).bind fun x9=>
  if seq a2 x9 then
   (some (Lp.done (Fl.ret s7)))
  else
   (some (Lp.go (w64 (s7+1)))))
 else
  (some (Lp.done (Fl.nxt ())))
noncomputable def vT (a1:(List ByteArray)) (a2:ByteArray):Int→Option (Fl Int Unit):=loop (vO a1 a2)
noncomputable def uI (a1:(List ByteArray)) (a2:ByteArray):Option Int:=
 (vT a1 a2 0).bind (Fl.go some fun v12=>
 some (-1))
noncomputable def wN (a1:(List ByteArray)) (a2:ByteArray):Option Bool:=
 (uI a1 a2).bind fun x3=>
 some (decide (x3≥0))
noncomputable def zEZ:Option Version:=
 some ({A:=1000,B:=0,C:=0}:Version)
noncomputable def jE (a1:Int):Option Bool:=
 some (a1 !=a1)
noncomputable def wJ (a1:Int) (a2:Int):Option Int:=
 (jE a1).bind fun x3=>
 (jE a2).bind fun x5=>
 if x3 then
  (if x5 then
   (some 0)
  else
   (some (-1)))
 else
  (if x5 then
   (some 1)
  else
   (if decide (a1<a2) then
    (some (-1))
   else
    (if decide (a1>a2) then
     (some 1)
    else
     (some 0))))
noncomputable def zDj (a1:(List Int)) (s6:Int):Option (Lp Int (Fl Int Unit)):=
 if decide (s6< (a1.length:Int)) then
  ((idx a1 s6).bind fun x8=>
  if x8 !=0 then
   (some (Lp.done (Fl.ret x8)))
  else
   (some (Lp.go (w64 (s6+1)))))
 else
  (some (Lp.done (Fl.nxt ())))
noncomputable def zDH (a1:(List Int)):Int→Option (Fl Int Unit):=loop (zDj a1)
noncomputable def zEy (a1:(List Int)):Option Int:=
 (zDH a1 0).bind (Fl.go some fun v11=>
 some 0)
noncomputable def uN (a1:Version) (a2:Version):Option Int:=
 (wJ a1.A a2.A).bind fun x3=>
 (wJ a1.B a2.B).bind fun x5=>
 (wJ a1.C a2.C).bind fun x7=>
 (zEy [x3,x5,x7]).bind fun x9=>
 some x9
noncomputable def zAO (a1:Term):Option Int:=
 (vB a1.Name).bind fun x2=>
 if x2 !=0 then
  (some x2)
 else
  ((wI a1.Low).bind fun x5=>
  if x5 !=0 then
   (some x5)
  else
   ((zEZ).bind fun x8=>
   (if !(a1.High.A==x8.A&&(a1.High.B==x8.B&&(a1.High.C==x8.C&&true))) then
     ((wI a1.High).bind fun x11=>
     some (x11 !=0))
    else
     (some false)).bind fun v13=>
   if v13 then
    (some 3)
   else
    ((uN a1.Low a1.High).bind fun x15=>
    if decide (x15≥0) then
     (some 1)
    else
     (some 0))))
noncomputable def zAe (a1:(List Term)) (s8:Int):Option (Lp Int (Fl Int Unit)):=
 if decide (s8< (a1.length:Int)) then
  ((idx a1 s8).bind fun x10=>
  (zAO x10).bind fun x12=>
  if x12 !=0 then
   (some (Lp.done (Fl.ret x12)))
  else
   (some (Lp.go (w64 (s8+1)))))
 else
  (some (Lp.done (Fl.nxt ())))
noncomputable def zA4 (a1:(List Term)):Int→Option (Fl Int Unit):=loop (zAe a1)
noncomputable def vC (a1:(List Term)):Option Int:=
 (zA4 a1 0).bind (Fl.go some fun v15=>
 some 0)
noncomputable def zAv (a1:Pack) (s54:Int):Option (Lp Int (Fl Int Unit)):=
 if decide (s54< (a1.Needs.length:Int)) then
  ((idx a1.Needs s54).bind fun x56=>
  if (x56.length:Int)==0 then
   (some (Lp.done (Fl.ret 1)))
  else
   ((vC x56).bind fun x59=>
   if x59 !=0 then
    (some (Lp.done (Fl.ret x59)))
   else
    (some (Lp.go (w64 (s54+1))))))
 else
  (some (Lp.done (Fl.nxt ())))
noncomputable def kN (a1:Pack):Int→Option (Fl Int Unit):=loop (zAv a1)
noncomputable def zA3 (a1:Pack) (s32:Int):Option (Lp Int (Fl Int Unit)):=
 if decide (s32< (a1.Provides.length:Int)) then
  ((idx a1.Provides s32).bind fun x34=>
  (vB x34).bind fun x36=>
  if x36 !=0 then
   (some (Lp.done (Fl.ret x36)))
  else
   ((if seq x34 a1.Name then
      (some true)
     else
      ((zFw a1.Provides 0 s32).bind fun x40=>
      (wN x40 x34).bind fun x42=>
      some x42)).bind fun v44=>
   if v44 then
    (some (Lp.done (Fl.ret 6)))
   else
    (some (Lp.go (w64 (s32+1))))))
 else
  (some (Lp.done (Fl.nxt ())))
noncomputable def kP (a1:Pack):Int→Option (Fl Int Unit):=loop (zA3 a1)
noncomputable def zAI (a1:Pack):Option Int:=
 (vB a1.Name).bind fun x2=>
 (wI a1.Version).bind fun x4=>
 (zAE [x2,x4]).bind fun x6=>
 if x6 !=0 then
  (some x6)
 else
  ((xM a1.Size 1 200).bind fun x9=>
  if !x9 then
   (some 3)
  else
   ((if decide ((a1.Provides.length:Int)>4) then
      (some true)
     else
      (if decide ((a1.Needs.length:Int)>4) then
       (some true)
      else
       (if decide ((a1.Bars.length:Int)>4) then
        (some true)
       else
        ((zO a1.Needs).bind fun x15=>
        some x15)))).bind fun v17=>
   if v17 then
    (some 2)
   else
    ((kP a1 0).bind (Fl.go some fun v46=>
    (kN a1 0).bind (Fl.go some fun v62=>
    (vC a1.Bars).bind fun x63=>
    some x63)))))
noncomputable def zDW (a1:Pack) (a2:ByteArray) (a3:Version):Option Bool:=
 if seq a1.Name a2 then
  (some (a1.Version.A==a3.A&&(a1.Version.B==a3.B&&(a1.Version.C==a3.C&&true))))
 else
  (some false)
noncomputable def xD (a1:(List Pack)) (a2:ByteArray) (a3:Version) (s10:Int):Option (Lp Int (Fl Int Unit)):=
 if decide (s10< (a1.length:Int)) then
  ((idx a1 s10).bind fun x12=>
  (zDW x12 a2 a3).bind fun x14=>
  if x14 then
   (some (Lp.done (Fl.ret s10)))
  else
   (some (Lp.go (w64 (s10+1)))))
 else
  (some (Lp.done (Fl.nxt ())))
noncomputable def xH (a1:(List Pack)) (a2:ByteArray) (a3:Version):Int→Option (Fl Int Unit):=loop (xD a1 a2 a3)
noncomputable def yX (a1:(List Pack)) (a2:ByteArray) (a3:Version):Option Int:=
 (xH a1 a2 a3 0).bind (Fl.go some fun v17=>
 some (-1))
noncomputable def zDe (a1:(List Pack)) (a2:ByteArray) (a3:Version):Option Int:=
 (yX a1 a2 a3).bind fun x4=>
 some x4
noncomputable def tX (a1:(List Pack)) (s14:Int):Option (Lp Int (Fl Int Unit)):=
 if decide (s14< (a1.length:Int)) then
  ((idx a1 s14).bind fun x16=>
  (zAI x16).bind fun x18=>
  if x18 !=0 then
   (some (Lp.done (Fl.ret x18)))
  else
   ((zFw a1 0 s14).bind fun x21=>
   (zDe x21 x16.Name x16.Version).bind fun x23=>
   if decide (x23≥0) then
    (some (Lp.done (Fl.ret 6)))
   else
    (some (Lp.go (w64 (s14+1))))))
 else
  (some (Lp.done (Fl.nxt ())))
noncomputable def jQ (a1:(List Pack)):Int→Option (Fl Int Unit):=loop (tX a1)
noncomputable def wV (a1:(List Pack)):Option Int:=
 if decide ((a1.length:Int)>24) then
  (some 2)
 else
  ((jQ a1 0).bind (Fl.go some fun v26=>
  some 0))
noncomputable def zDM (a1:ByteArray) (s15:Int):Option (Lp Int (Fl Int Unit)):=
 if decide (s15< (a1.size:Int)) then
  ((bidx a1 s15).bind fun x17=>
  (wF x17).bind fun x19=>
  (if !x19 then
    (if x17 !=46 then
     (if x17 !=45 then
      (some (x17 !=47))
     else
      (some false))
    else
     (some false))
   else
    (some false)).bind fun v24=>
  if v24 then
   (some (Lp.done (Fl.ret 5)))
  else
   (some (Lp.go (w64 (s15+1)))))
 else
  (some (Lp.done (Fl.nxt ())))
noncomputable def kI (a1:ByteArray):Int→Option (Fl Int Unit):=loop (zDM a1)
noncomputable def vS (a1:ByteArray):Option Int:=
 (if decide ((a1.size:Int)<1) then
   (some true)
  else
   (some (decide ((a1.size:Int)>40)))).bind fun v3=>
 if v3 then
  (some 5)
 else
  ((kI a1 0).bind (Fl.go some fun v26=>
  some 0))
noncomputable def zE5 (a1:zC) (s5:(Int×Int)):Option (Lp (Int×Int) Int):=
 if decide (s5.2< (a1.Files.length:Int)) then
  ((idx a1.Files s5.2).bind fun x7=>
  some (Lp.go (w64 (s5.1+(x7.Data.length:Int)),w64 (s5.2+1))))
 else
  (some (Lp.done s5.1))
noncomputable def zBX (a1:zC):(Int×Int)→Option Int:=loop (zE5 a1)
noncomputable def vU (a1:zC):Option Int:=
 (zBX a1 (0,0)).bind fun v9=>
 some v9
noncomputable def zDQ (a1:zC) (s25:Int):Option (Lp Int (Fl Int Unit)):=
 if decide (s25< (a1.Files.length:Int)) then
  ((idx a1.Files s25).bind fun x27=>
  (vS x27.Path).bind fun x29=>
  if x29 !=0 then
   (some (Lp.done (Fl.ret x29)))
  else
   ((if decide (s25>0) then
      ((idx a1.Files (w64 (s25-1))).bind fun x33=>
      some (slt x27.Path x33.Path||seq x27.Path x33.Path))
     else
      (some false)).bind fun v35=>
   if v35 then
    (some (Lp.done (Fl.ret 1)))
   else
    (if decide ((x27.Data.length:Int)>4000) then
     (some (Lp.done (Fl.ret 2)))
    else
     (some (Lp.go (w64 (s25+1)))))))
 else
  (some (Lp.done (Fl.nxt ())))
noncomputable def kJ (a1:zC):Int→Option (Fl Int Unit):=loop (zDQ a1)
noncomputable def zAK (a1:zC):Option Int:=
 (xM a1.Budget 0 20000).bind fun x2=>
 (if !x2 then
   (some true)
  else
   ((xM a1.Writes 0 1000000000).bind fun x5=>
   if !x5 then
    (some true)
   else
    ((xM a1.Stop (-1) 1000000000).bind fun x8=>
    some (!x8)))).bind fun v10=>
 if v10 then
  (some 3)
 else
  (if decide ((a1.Files.length:Int)>120) then
   (some 2)
  else
   ((kJ a1 0).bind (Fl.go some fun v38=>
   (vU a1).bind fun x39=>
   if decide (x39>a1.Budget) then
    (some 8)
   else
    (some 0))))
noncomputable def wL (a1:(List Int)):Option (List Int):=
 (app 1 ([]:List Int) a1).bind fun x3=>
 some x3
noncomputable def zCU (a1:zC) (s16:((List File)×Int)):Option (Lp ((List File)×Int) (List File)):=
 if decide (s16.2< (a1.Files.length:Int)) then
  ((idx a1.Files s16.2).bind fun x18=>
  (wL x18.Data).bind fun x20=>
  (app 40 s16.1 [({Path:=x18.Path,Data:=x20}:File)]).bind fun x22=>
  some (Lp.go (x22,w64 (s16.2+1))))
 else
  (some (Lp.done s16.1))
noncomputable def tJ (a1:zC):((List File)×Int)→Option (List File):=loop (zCU a1)
noncomputable def uK (a1:zC):Option zC:=
 (tJ a1 (([]:List File),0)).bind fun v24=>
 some ({Files:=v24,Budget:=a1.Budget,Writes:=a1.Writes,Stop:=a1.Stop,Down:=a1.Down}:zC)
noncomputable def bytealg_CompareString (a1 a2:ByteArray):Option Int:=some (zOp a1 a2)
noncomputable def strings_Compare (a1:ByteArray) (a2:ByteArray):Option Int:=
 (bytealg_CompareString a1 a2).bind fun x3=>
 some x3
noncomputable def vM (a1:File) (a2:ByteArray):Option Int:=
 (strings_Compare a1.Path a2).bind fun x3=>
 some x3
noncomputable def yN (a1:(List File)) (a2:ByteArray) (s9:(Int×Int)):Option (Lp (Int×Int) Int):=
 if decide (s9.1<s9.2) then
  ((idx a1 (w64 ((IntKind.u64.wrap (w64 (s9.1+s9.2))).fdiv (2^(min (1:Int).toNat 64))))).bind fun x11=>
  (vM x11 a2).bind fun x13=>
  if decide (x13<0) then
   (some (Lp.go (w64 ((w64 ((IntKind.u64.wrap (w64 (s9.1+s9.2))).fdiv (2^(min (1:Int).toNat 64))))+1),s9.2)))
  else
   (some (Lp.go (s9.1,w64 ((IntKind.u64.wrap (w64 (s9.1+s9.2))).fdiv (2^(min (1:Int).toNat 64)))))))
 else
  (some (Lp.done s9.1))
noncomputable def zW (a1:(List File)) (a2:ByteArray):(Int×Int)→Option Int:=loop (yN a1 a2)
noncomputable def zJ (a1:(List File)) (a2:ByteArray):Option (Int×Bool):=
 (zW a1 a2 (0,(a1.length:Int))).bind fun v16=>
 if decide (v16< (a1.length:Int)) then
  ((idx a1 v16).bind fun x18=>
  (vM x18 a2).bind fun x20=>
  some (v16,x20==0))
 else
  (some (v16,false))
noncomputable def wS (a1:zC) (a2:ByteArray):Option (Int×Bool):=
 (zJ a1.Files a2).bind fun x3=>
 some (x3.1,x3.2)
noncomputable def yT (a1:zC) (a2:ByteArray):Option ((List Int)×Bool):=
 (wS a1 a2).bind fun x3=>
 if !x3.2 then
  (some (([]:List Int),false))
 else
  ((idx a1.Files x3.1).bind fun x6=>
  some (x6.Data,true))
noncomputable def uZ (a1:zC):Option Bool:=
 (yT a1 (bs [112,108,97,110])).bind fun x2=>
 some x2.2
noncomputable def xX (a1:ByteArray) (a2:ByteArray):Option Bool:=
 if decide ((a1.size:Int)≥(a2.size:Int)) then
  ((zIs a1 0 (a2.size:Int)).bind fun x4=>
  some (seq x4 a2))
 else
  (some false)
noncomputable def strings_HasPrefix (a1:ByteArray) (a2:ByteArray):Option Bool:=
 (xX a1 a2).bind fun x3=>
 some x3
noncomputable def zD9 (a1:zC) (a2:ByteArray) (s12:((List ByteArray)×Int)):Option (Lp ((List ByteArray)×Int) (List ByteArray)):=
 if decide (s12.2< (a1.Files.length:Int)) then
  ((idx a1.Files s12.2).bind fun x14=>
  (strings_HasPrefix x14.Path a2).bind fun x16=>
  (if x16 then
    ((app 16 s12.1 [x14.Path]).bind fun x19=>
    some x19)
   else
    (some s12.1)).bind fun v21=>
  some (Lp.go (v21,w64 (s12.2+1))))
 else
  (some (Lp.done s12.1))
noncomputable def jJ (a1:zC) (a2:ByteArray):((List ByteArray)×Int)→Option (List ByteArray):=loop (zD9 a1 a2)
noncomputable def kR (a1:zC) (a2:ByteArray):Option (List ByteArray):=
 (jJ a1 a2 (([]:List ByteArray),0)).bind fun v22=>
 some v22
noncomputable def zCK (a1:ByteArray) (s16:(Int×Int)):Option (Lp (Int×Int) (Fl Int Int)):=
 if decide (s16.2< (a1.size:Int)) then
  ((bidx a1 s16.2).bind fun x18=>
  (if decide (x18<48) then
    (some true)
   else
    ((bidx a1 s16.2).bind fun x21=>
    some (decide (x21>57)))).bind fun v23=>
  if v23 then
   (some (Lp.done (Fl.ret (-1))))
  else
   ((bidx a1 s16.2).bind fun x25=>
   some (Lp.go (w64 ((w64 (10*s16.1))+(w64 (IntKind.u8.wrap (x25-48)))),w64 (s16.2+1)))))
 else
  (some (Lp.done (Fl.nxt s16.1)))
noncomputable def zDd (a1:ByteArray):(Int×Int)→Option (Fl Int Int):=loop (zCK a1)
noncomputable def zBq (a1:ByteArray) (a2:Int):Option Int:=
 (if seq a1 (bs []) then
   (some true)
  else
   (some (decide ((a1.size:Int)>a2)))).bind fun v4=>
 if v4 then
  (some (-1))
 else
  ((zDd a1 (0,0)).bind (Fl.go some fun v27=>
  some v27))
noncomputable def zAC (x2:(List ByteArray)) (s17:((List Int)×Int)):Option (Lp ((List Int)×Int) (List Int)):=
 if decide (s17.2< (x2.length:Int)) then
  ((idx x2 s17.2).bind fun x19=>
  (zIs x19 4 (x19.size:Int)).bind fun x21=>
  (zBq x21 6).bind fun x23=>
  (if decide (x23≥1) then
    (some ((x19.size:Int)==10))
   else
    (some false)).bind fun v26=>
  (if v26 then
    ((app 8 s17.1 [x23]).bind fun x28=>
    some x28)
   else
    (some s17.1)).bind fun v30=>
  some (Lp.go (v30,w64 (s17.2+1))))
 else
  (some (Lp.done s17.1))
noncomputable def zBo (x2:(List ByteArray)):((List Int)×Int)→Option (List Int):=loop (zAC x2)
noncomputable def zAL (a1:zC):Option (List Int):=
 (kR a1 (bs [103,101,110,47])).bind fun x2=>
 (zBo x2 (([]:List Int),0)).bind fun v31=>
 some v31
noncomputable def vZ (a1:(List Int)) (a2:Int) (s7:Int):Option (Lp Int (Fl Int Unit)):=
 if decide (s7< (a1.length:Int)) then
  ((idx a1 s7).bind fun x9=>
  if a2==x9 then
   (some (Lp.done (Fl.ret s7)))
  else
   (some (Lp.go (w64 (s7+1)))))
 else
  (some (Lp.done (Fl.nxt ())))
noncomputable def uP (a1:(List Int)) (a2:Int):Int→Option (Fl Int Unit):=loop (vZ a1 a2)
noncomputable def uW (a1:(List Int)) (a2:Int):Option Int:=
 (uP a1 a2 0).bind (Fl.go some fun v12=>
 some (-1))
noncomputable def xV (a1:(List Int)) (a2:Int):Option Bool:=
 (uW a1 a2).bind fun x3=>
 some (decide (x3≥0))
noncomputable def uS (a1 a2:Int):Option ByteArray:=if a2=10∧ -9223372036854775808≤a1∧a1≤9223372036854775807 then some ⟨(Lib.itoa a1).toArray⟩ else none
noncomputable def zAj (a1:Int):Option ByteArray:=
 (uS a1 10).bind fun x2=>
 some x2
noncomputable def strings_Repeat (a1:ByteArray) (a2:Int):Option ByteArray:=if 0≤a2∧a2≤9223372036854775807∧a1.size*a2.toNat≤140737488355328 then some ⟨(Lib.repeatL a1.data.toList a2.toNat).toArray⟩ else none
noncomputable def zCk (a1:Int):Option ByteArray:=
 (zAj a1).bind fun x2=>
 (strings_Repeat (bs [48]) (w64 (6-(x2.size:Int)))).bind fun x4=>
 (cat (bs [103,101,110,47]) x4).bind fun x6=>
 (cat x6 x2).bind fun x8=>
 some x8
noncomputable def strings_Split (a1 a2:ByteArray):Option (List ByteArray):=if a1.size<4294967281∧1≤a2.size then some (Lib.splitB a2 0 (Lib.countB a1 a2) a1) else none
noncomputable def zCa (a1:ByteArray):Option (List ByteArray):=
 (strings_Split a1 (bs [10])).bind fun x2=>
 (idx x2 (w64 ((x2.length:Int)-1))).bind fun x4=>
 (if seq x4 (bs []) then
   ((zFw x2 0 (w64 ((x2.length:Int)-1))).bind fun x7=>
   some x7)
  else
   (some x2)).bind fun v9=>
 some v9
noncomputable def tO (a1:ByteArray):Option Bool:=
 some (seq a1 (bs []))
noncomputable def yZ (a1:(List ByteArray)) (s8:Int):Option (Lp Int (Fl Int Unit)):=
 if decide (s8< (a1.length:Int)) then
  ((idx a1 s8).bind fun x10=>
  (tO x10).bind fun x12=>
  if x12 then
   (some (Lp.done (Fl.ret s8)))
  else
   (some (Lp.go (w64 (s8+1)))))
 else
  (some (Lp.done (Fl.nxt ())))
noncomputable def xR (a1:(List ByteArray)):Int→Option (Fl Int Unit):=loop (yZ a1)
noncomputable def xL (a1:(List ByteArray)):Option Int:=
 (xR a1 0).bind (Fl.go some fun v15=>
 some (-1))
noncomputable def yU (s14:((List ByteArray)×Int×Int)):Option (Lp ((List ByteArray)×Int×Int) ((List ByteArray)×Int)):=
 if decide (s14.2.2< (s14.1.length:Int)) then
  ((idx s14.1 s14.2.2).bind fun x16=>
  (tO x16).bind fun x18=>
  (if !x18 then
    ((idx s14.1 s14.2.1).bind fun x21=>
    some (s14.1.set s14.2.1.toNat x16,w64 (s14.2.1+1)))
   else
    (some (s14.1,s14.2.1))).bind fun v23=>
  some (Lp.go (v23.1,v23.2,w64 (s14.2.2+1))))
 else
  (some (Lp.done (s14.1,s14.2.1)))
noncomputable def xO:((List ByteArray)×Int×Int)→Option ((List ByteArray)×Int):=loop yU
noncomputable def yH (a1:(List ByteArray)):Option (List ByteArray):=
 (xL a1).bind fun x2=>
 if x2==(-1) then
  (some a1)
 else
  ((xO (a1,x2,w64 (x2+1))).bind fun v24=>
  (zFw v24.1 v24.2 (v24.1.length:Int)).bind fun x25=>
  (zNT v24.1 v24.2 x25.length ByteArray.empty).bind fun x27=>
  (zFw x27 0 v24.2).bind fun x29=>
  some x29)
noncomputable def zCd (a1:ByteArray):Option (List ByteArray):=
 (strings_Split a1 (bs [32])).bind fun x2=>
 (yH x2).bind fun x4=>
 some x4
noncomputable def tQ (x2:(List ByteArray)) (s15:((List Int)×Int)):Option (Lp ((List Int)×Int) (Fl zQ (List Int))):=
 if decide (s15.2< (x2.length:Int)) then
  ((idx x2 s15.2).bind fun x17=>
  (zBq x17 3).bind fun x19=>
  (zNR s15.1 3 s15.2).bind fun x21=>
  (zNR (s15.1.set s15.2.toNat x19) 3 s15.2).bind fun x23=>
  if decide (x23<0) then
   (some (Lp.done (Fl.ret ({Code:=5,Version:=({A:=0,B:=0,C:=0}:Version)}:zQ))))
  else
   (some (Lp.go (s15.1.set s15.2.toNat x19,w64 (s15.2+1)))))
 else
  (some (Lp.done (Fl.nxt s15.1)))
noncomputable def jR (x2:(List ByteArray)):((List Int)×Int)→Option (Fl zQ (List Int)):=loop (tQ x2)
noncomputable def uV (a1:ByteArray):Option zQ:=
 (strings_Split a1 (bs [46])).bind fun x2=>
 if decide ((x2.length:Int)>3) then
  (some ({Code:=5,Version:=({A:=0,B:=0,C:=0}:Version)}:zQ))
 else
  ((jR x2 (([0,0,0]:(List Int)),0)).bind (Fl.go some fun v26=>
  (zNR v26 3 0).bind fun x27=>
  (zNR v26 3 1).bind fun x29=>
  (zNR v26 3 2).bind fun x31=>
  some ({Code:=0,Version:=({A:=x27,B:=x29,C:=x31}:Version)}:zQ)))
noncomputable def zBz (a1:(List Pack)) (a2:(List ByteArray)):Option Int:=
 if (a2.length:Int) !=2 then
  (some (-1))
 else
  ((idx a2 1).bind fun x4=>
  (uV x4).bind fun x6=>
  if x6.Code !=0 then
   (some (-1))
  else
   ((idx a2 0).bind fun x9=>
   (zDe a1 x9 x6.Version).bind fun x11=>
   some x11))
noncomputable def uQ (a1:List Int):Option (List Int):=if a1.length≤4611686018427387903 then some (a1.mergeSort fun x y=>decide (x≤y)) else none
noncomputable def kM (a1:(List Pack)) (x7:(List ByteArray)) (s23:((List Int)×Int)):Option (Lp ((List Int)×Int) (Fl xI (List Int))):=
 if decide (s23.2< (x7.length:Int)) then
  ((idx x7 s23.2).bind fun x25=>
  (zCd x25).bind fun x27=>
  (zBz a1 x27).bind fun x29=>
  (if decide (x29<0) then
    (some true)
   else
    ((xV s23.1 x29).bind fun x32=>
    some x32)).bind fun v34=>
  if v34 then
   (some (Lp.done (Fl.ret ({Code:=5,At:=s23.2,Set:=([]:List Int)}:xI))))
  else
   ((app 8 s23.1 [x29]).bind fun x36=>
   some (Lp.go (x36,w64 (s23.2+1)))))
 else
  (some (Lp.done (Fl.nxt s23.1)))
noncomputable def zB8 (a1:(List Pack)) (x7:(List ByteArray)):((List Int)×Int)→Option (Fl xI (List Int)):=loop (kM a1 x7)
noncomputable def zBt (a1:(List Pack)) (a2:ByteArray):Option xI:=
 (wV a1).bind fun x3=>
 if x3 !=0 then
  (some ({Code:=x3,At:=0,Set:=([]:List Int)}:xI))
 else
  (if decide ((a2.size:Int)>4000) then
   (some ({Code:=2,At:=0,Set:=([]:List Int)}:xI))
  else
   ((zCa a2).bind fun x7=>
   (zB8 a1 x7 (([]:List Int),0)).bind (Fl.go some fun v38=>
   (uQ v38).bind fun x39=>
   (same x39 v38).bind fun u41=>
   some ({Code:=0,At:=0,Set:=x39}:xI))))
noncomputable def zEb (a1:(List Pack)) (a2:zC) (a3:Int):Option ((List Int)×Int):=
 (zAL a2).bind fun x4=>
 (xV x4 a3).bind fun x6=>
 if !x6 then
  (some (([]:List Int),4))
 else
  ((zCk a3).bind fun x9=>
  (yT a2 x9).bind fun x11=>
  (zBt a1 (b2s x11.1)).bind fun x13=>
  some (x13.Set,x13.Code))
noncomputable def zCY (a1:(List Pack)) (a2:(List Int)) (a3:ByteArray) (s10:Int):Option (Lp Int (Fl Int Unit)):=
 if decide (s10< (a2.length:Int)) then
  ((idx a2 s10).bind fun x12=>
  (idx a1 x12).bind fun x14=>
  if seq x14.Name a3 then
   (some (Lp.done (Fl.ret x12)))
  else
   (some (Lp.go (w64 (s10+1)))))
 else
  (some (Lp.done (Fl.nxt ())))
noncomputable def zDN (a1:(List Pack)) (a2:(List Int)) (a3:ByteArray):Int→Option (Fl Int Unit):=loop (zCY a1 a2 a3)
noncomputable def zEe (a1:(List Pack)) (a2:(List Int)) (a3:ByteArray):Option Int:=
 (zDN a1 a2 a3 0).bind (Fl.go some fun v17=>
 some (-1))
noncomputable def zAZ (a1:Pack):Option (List ByteArray):=
 (app 16 [a1.Name] a1.Provides).bind fun x2=>
 some x2
noncomputable def zBs (a1:Term) (a2:ByteArray) (a3:Version):Option Bool:=
 if seq a1.Name a2 then
  ((uN a1.Low a3).bind fun x5=>
  if decide (x5≤0) then
   ((uN a3 a1.High).bind fun x8=>
   some (decide (x8<0)))
  else
   (some false))
 else
  (some false)
noncomputable def kF (a1:ByteArray) (a2:Term) (a3:Pack):Option Bool:=
 (zBs a2 a1 a3.Version).bind fun x4=>
 some x4
noncomputable def yL (a1:(List ByteArray)) (a2:Term) (a3:Pack) (s10:Int):Option (Lp Int (Fl Int Unit)):=
 if decide (s10< (a1.length:Int)) then
  ((idx a1 s10).bind fun x12=>
  (kF x12 a2 a3).bind fun x14=>
  if x14 then
   (some (Lp.done (Fl.ret s10)))
  else
   (some (Lp.go (w64 (s10+1)))))
 else
  (some (Lp.done (Fl.nxt ())))
noncomputable def yR (a1:(List ByteArray)) (a2:Term) (a3:Pack):Int→Option (Fl Int Unit):=loop (yL a1 a2 a3)
noncomputable def yD (a1:(List ByteArray)) (a2:Term) (a3:Pack):Option Int:=
 (yR a1 a2 a3 0).bind (Fl.go some fun v17=>
 some (-1))
noncomputable def zX (a1:(List ByteArray)) (a2:Term) (a3:Pack):Option Bool:=
 (yD a1 a2 a3).bind fun x4=>
 some (decide (x4≥0))
noncomputable def vV (a1:Pack) (a2:Term):Option Bool:=
 (zAZ a1).bind fun x3=>
 (zX x3 a2 a1).bind fun x5=>
 some x5
noncomputable def yQ (a1:(List Term)) (a2:Pack) (s9:Int):Option (Lp Int (Fl Int Unit)):=
 if decide (s9< (a1.length:Int)) then
  ((idx a1 s9).bind fun x11=>
  (vV a2 x11).bind fun x13=>
  if x13 then
   (some (Lp.done (Fl.ret s9)))
  else
   (some (Lp.go (w64 (s9+1)))))
 else
  (some (Lp.done (Fl.nxt ())))
noncomputable def yV (a1:(List Term)) (a2:Pack):Int→Option (Fl Int Unit):=loop (yQ a1 a2)
noncomputable def yE (a1:(List Term)) (a2:Pack):Option Int:=
 (yV a1 a2 0).bind (Fl.go some fun v16=>
 some (-1))
noncomputable def yB (a1:(List Term)) (a2:Pack):Option Bool:=
 (yE a1 a2).bind fun x3=>
 some (decide (x3≥0))
noncomputable def uF (a1:Pack) (a2:(List Term)):Option Bool:=
 (yB a2 a1).bind fun x3=>
 some x3
noncomputable def zCM (a1:Int) (a2:(List Pack)) (a3:(List Term)):Option Bool:=
 (idx a2 a1).bind fun x4=>
 (uF x4 a3).bind fun x6=>
 some x6
noncomputable def xG (a1:(List Int)) (a2:(List Pack)) (a3:(List Term)) (s10:Int):Option (Lp Int (Fl Int Unit)):=
 if decide (s10< (a1.length:Int)) then
  ((idx a1 s10).bind fun x12=>
  (zCM x12 a2 a3).bind fun x14=>
  if x14 then
   (some (Lp.done (Fl.ret s10)))
  else
   (some (Lp.go (w64 (s10+1)))))
 else
  (some (Lp.done (Fl.nxt ())))
noncomputable def xJ (a1:(List Int)) (a2:(List Pack)) (a3:(List Term)):Int→Option (Fl Int Unit):=loop (xG a1 a2 a3)
noncomputable def xC (a1:(List Int)) (a2:(List Pack)) (a3:(List Term)):Option Int:=
 (xJ a1 a2 a3 0).bind (Fl.go some fun v17=>
 some (-1))
noncomputable def zY (a1:(List Int)) (a2:(List Pack)) (a3:(List Term)):Option Bool:=
 (xC a1 a2 a3).bind fun x4=>
 some (decide (x4≥0))
noncomputable def zCN (a1:Int) (a2:Int) (a3:(List Pack)) (a4:Term):Option Bool:=
 if a1 !=a2 then
  ((idx a3 a1).bind fun x6=>
  (vV x6 a4).bind fun x8=>
  some x8)
 else
  (some false)
noncomputable def xE (a1:(List Int)) (a2:Int) (a3:(List Pack)) (a4:Term) (s11:Int):Option (Lp Int (Fl Int Unit)):=
 if decide (s11< (a1.length:Int)) then
  ((idx a1 s11).bind fun x13=>
  (zCN x13 a2 a3 a4).bind fun x15=>
  if x15 then
   (some (Lp.done (Fl.ret s11)))
  else
   (some (Lp.go (w64 (s11+1)))))
 else
  (some (Lp.done (Fl.nxt ())))
noncomputable def xK (a1:(List Int)) (a2:Int) (a3:(List Pack)) (a4:Term):Int→Option (Fl Int Unit):=loop (xE a1 a2 a3 a4)
noncomputable def xB (a1:(List Int)) (a2:Int) (a3:(List Pack)) (a4:Term):Option Int:=
 (xK a1 a2 a3 a4 0).bind (Fl.go some fun v18=>
 some (-1))
noncomputable def zZ (a1:(List Int)) (a2:Int) (a3:(List Pack)) (a4:Term):Option Bool:=
 (xB a1 a2 a3 a4).bind fun x5=>
 some (decide (x5≥0))
noncomputable def zCo (a1:(List Pack)) (a2:(List Int)) (s56:((List zR)×Int)) (x58:Int) (x60:Pack) (s99:((List zR)×Int)):Option (Lp ((List zR)×Int) (List zR)):=
 if decide (s99.2< (x60.Bars.length:Int)) then
  ((idx x60.Bars s99.2).bind fun x101=>
  (zZ a2 x58 a1 x101).bind fun x103=>
  (if x103 then
    ((app 24 s99.1 [({Kind:=3,Pack:=x58,At:=s99.2}:zR)]).bind fun x106=>
    some x106)
   else
    (some s99.1)).bind fun v108=>
  some (Lp.go (v108,w64 (s99.2+1))))
 else
  (some (Lp.done s99.1))
noncomputable def zDk (a1:(List Pack)) (a2:(List Int)) (s56:((List zR)×Int)) (x58:Int) (x60:Pack):((List zR)×Int)→Option (List zR):=loop (zCo a1 a2 s56 x58 x60)
noncomputable def zCH (a1:(List Pack)) (a2:(List Int)) (s56:((List zR)×Int)) (x58:Int) (x60:Pack) (s79:((List zR)×Int)):Option (Lp ((List zR)×Int) (List zR)):=
 if decide (s79.2< (x60.Needs.length:Int)) then
  ((idx x60.Needs s79.2).bind fun x81=>
  (zY a2 a1 x81).bind fun x83=>
  (if !x83 then
    ((app 24 s79.1 [({Kind:=2,Pack:=x58,At:=s79.2}:zR)]).bind fun x86=>
    some x86)
   else
    (some s79.1)).bind fun v88=>
  some (Lp.go (v88,w64 (s79.2+1))))
 else
  (some (Lp.done s79.1))
noncomputable def zDa (a1:(List Pack)) (a2:(List Int)) (s56:((List zR)×Int)) (x58:Int) (x60:Pack):((List zR)×Int)→Option (List zR):=loop (zCH a1 a2 s56 x58 x60)
noncomputable def zCB (a1:(List Pack)) (a2:(List Int)) (s56:((List zR)×Int)):Option (Lp ((List zR)×Int) (List zR)):=
 if decide (s56.2< (a2.length:Int)) then
  ((idx a2 s56.2).bind fun x58=>
  (idx a1 x58).bind fun x60=>
  (zFw a2 0 s56.2).bind fun x62=>
  (zEe a1 x62 x60.Name).bind fun x64=>
  (if decide (x64≥0) then
    ((app 24 s56.1 [({Kind:=1,Pack:=x58,At:=0}:zR)]).bind fun x67=>
    some x67)
   else
    (some s56.1)).bind fun v69=>
  (zDa a1 a2 s56 x58 x60 (v69,0)).bind fun v89=>
  (zDk a1 a2 s56 x58 x60 (v89,0)).bind fun v109=>
  some (Lp.go (v109,w64 (s56.2+1))))
 else
  (some (Lp.done s56.1))
noncomputable def zDi (a1:(List Pack)) (a2:(List Int)):((List zR)×Int)→Option (List zR):=loop (zCB a1 a2)
noncomputable def zD6 (a1:(List Pack)) (a2:(List Int)):Option (List zR):=
 (zDi a1 a2 (([]:List zR),0)).bind fun v110=>
 some v110
noncomputable def jA (a1:(List Pack)) (a2:(List Int)):Option Bool:=
 (zD6 a1 a2).bind fun x3=>
 some ((x3.length:Int)==0)
noncomputable def tC (a1:(List Int)):Option (List Int):=
 (app 8 ([]:List Int) a1).bind fun x3=>
 some x3
noncomputable def uY (a1:Version):Option ByteArray:=
 (zAj a1.A).bind fun x2=>
 (cat x2 (bs [46])).bind fun x4=>
 (zAj a1.B).bind fun x6=>
 (cat x4 x6).bind fun x8=>
 (cat x8 (bs [46])).bind fun x10=>
 (zAj a1.C).bind fun x12=>
 (cat x10 x12).bind fun x14=>
 some x14
noncomputable def zAT (a1:Pack):Option ByteArray:=
 (cat (bs [112,107,103,47]) a1.Name).bind fun x2=>
 (cat x2 (bs [45])).bind fun x4=>
 (uY a1.Version).bind fun x6=>
 (cat x4 x6).bind fun x8=>
 some x8
noncomputable def kZ (a1:Pack) (s13:(Int×(List Int)×Int)):Option (Lp (Int×(List Int)×Int) (List Int)):=
 if decide (s13.2.2<a1.Size) then
  ((app 1 s13.2.1 [s13.1]).bind fun x15=>
  some (Lp.go (IntKind.u8.wrap ((IntKind.u8.wrap (31*s13.1))+7),x15,w64 (s13.2.2+1))))
 else
  (some (Lp.done s13.2.1))
noncomputable def zAD (a1:Pack):(Int×(List Int)×Int)→Option (List Int):=loop (kZ a1)
noncomputable def kV (a1:Pack) (s5:(Int×Int)):Option (Lp (Int×Int) Int):=
 if decide (s5.2< (a1.Name.size:Int)) then
  ((bidx a1.Name s5.2).bind fun x7=>
  some (Lp.go (IntKind.u8.wrap (s5.1+x7),w64 (s5.2+1))))
 else
  (some (Lp.done s5.1))
noncomputable def zAx (a1:Pack):(Int×Int)→Option Int:=loop (kV a1)
noncomputable def zAi (a1:Pack):Option (List Int):=
 (zAx a1 (IntKind.u8.wrap ((IntKind.u8.wrap ((IntKind.u8.wrap (a1.Version.A))+(IntKind.u8.wrap (a1.Version.B))))+(IntKind.u8.wrap (a1.Version.C))),0)).bind fun v9=>
 (zAD a1 (v9,([]:List Int),0)).bind fun v17=>
 some v17
noncomputable def uO (a1:(List Int)) (a2:(List Int)) (s10:Int):Option (Lp Int (Fl Bool Unit)):=
 if decide (s10< (a1.length:Int)) then
  ((idx a1 s10).bind fun x12=>
  (idx a2 s10).bind fun x14=>
  if x12 !=x14 then
   (some (Lp.done (Fl.ret false)))
  else
   (some (Lp.go (w64 (s10+1)))))
 else
  (some (Lp.done (Fl.nxt ())))
noncomputable def jC (a1:(List Int)) (a2:(List Int)):Int→Option (Fl Bool Unit):=loop (uO a1 a2)
noncomputable def uG (a1:(List Int)) (a2:(List Int)):Option Bool:=
 if (a1.length:Int) !=(a2.length:Int) then
  (some false)
 else
  ((jC a1 a2 0).bind (Fl.go some fun v17=>
  some true))
noncomputable def zAF (a1:Int) (a2:zC) (a3:(List Pack)):Option Bool:=
 (idx a3 a1).bind fun x4=>
 (zAT x4).bind fun x6=>
 (yT a2 x6).bind fun x8=>
 if !x8.2 then
  (some true)
 else
  ((idx a3 a1).bind fun x11=>
  (zAi x11).bind fun x13=>
  (uG x8.1 x13).bind fun x15=>
  some (!x15))
noncomputable def yY (a1:Int) (a2:zC) (a3:(List Pack)):Option Bool:=
 (zAF a1 a2 a3).bind fun x4=>
 some (!x4)
noncomputable def zV (a1:(List Int)) (a2:zC) (a3:(List Pack)) (s10:Int):Option (Lp Int (Fl Int Unit)):=
 if decide (s10< (a1.length:Int)) then
  ((idx a1 s10).bind fun x12=>
  (yY x12 a2 a3).bind fun x14=>
  if x14 then
   (some (Lp.done (Fl.ret s10)))
  else
   (some (Lp.go (w64 (s10+1)))))
 else
  (some (Lp.done (Fl.nxt ())))
noncomputable def yO (a1:(List Int)) (a2:zC) (a3:(List Pack)):Int→Option (Fl Int Unit):=loop (zV a1 a2 a3)
noncomputable def yA (a1:(List Int)) (a2:zC) (a3:(List Pack)):Option Int:=
 (yO a1 a2 a3 0).bind (Fl.go some fun v17=>
 some (-1))
noncomputable def zU (a2:zC) (a3:(List Pack)) (s16:((List Int)×Int×Int)):Option (Lp ((List Int)×Int×Int) ((List Int)×Int)):=
 if decide (s16.2.2< (s16.1.length:Int)) then
  ((idx s16.1 s16.2.2).bind fun x18=>
  (yY x18 a2 a3).bind fun x20=>
  (if !x20 then
    ((idx s16.1 s16.2.1).bind fun x23=>
    some (s16.1.set s16.2.1.toNat x18,w64 (s16.2.1+1)))
   else
    (some (s16.1,s16.2.1))).bind fun v25=>
  some (Lp.go (v25.1,v25.2,w64 (s16.2.2+1))))
 else
  (some (Lp.done (s16.1,s16.2.1)))
noncomputable def yI (a2:zC) (a3:(List Pack)):((List Int)×Int×Int)→Option ((List Int)×Int):=loop (zU a2 a3)
noncomputable def zP (a1:(List Int)) (a2:zC) (a3:(List Pack)):Option (List Int):=
 (yA a1 a2 a3).bind fun x4=>
 if x4==(-1) then
  (some a1)
 else
  ((yI a2 a3 (a1,x4,w64 (x4+1))).bind fun v26=>
  (zFw v26.1 v26.2 (v26.1.length:Int)).bind fun x27=>
  (zNT v26.1 v26.2 x27.length 0).bind fun x29=>
  (zFw x29 0 v26.2).bind fun x31=>
  some x31)
noncomputable def wQ (a1:(List Int)) (a2:zC) (a3:(List Pack)):Option (List Int):=
 (tC a1).bind fun x4=>
 (zP x4 a2 a3).bind fun x6=>
 some x6
noncomputable def zCv (a1:(List Pack)) (a2:zC) (a3:(List Int)):Option (List Int):=
 (wQ a3 a2 a1).bind fun x4=>
 some x4
noncomputable def zCi (a1:(List Pack)) (a2:zC) (a3:(List Int)):Option Bool:=
 (jA a1 a3).bind fun x4=>
 if x4 then
  ((zCv a1 a2 a3).bind fun x7=>
  some ((x7.length:Int)==0))
 else
  (some false)
noncomputable def vL (a1:List File) (a2:Int) (a3:List File):Option (List File):=if 0≤a2∧a2≤a1.length∧0<a3.length∧a1.length+a3.length≤1099511627776 then some (a1.take a2.toNat++(a3++a1.drop a2.toNat)) else none
noncomputable def kW (a1:zC) (a2:ByteArray) (a3:(List Int)):Option zC:=
 (wS a1 a2).bind fun x4=>
 (if !x4.2 then
   ((vL a1.Files x4.1 [({Path:=a2,Data:=([]:List Int)}:File)]).bind fun x7=>
   some x7)
  else
   (some a1.Files)).bind fun v9=>
 (wL a3).bind fun x10=>
 (idx v9 x4.1).bind fun x12=>
 some ({Files:=v9.set x4.1.toNat ({Path:=x12.Path,Data:=x10}:File),Budget:=a1.Budget,Writes:=a1.Writes,Stop:=a1.Stop,Down:=a1.Down}:zC)
noncomputable def vK (a1:zC) (a2:ByteArray) (a3:(List Int)):Option zC:=
 (kW a1 a2 a3).bind fun x4=>
 some x4
noncomputable def yK (a1:zC) (a2:ByteArray) (a3:(List Int)):Option (Int×zC):=
 (if decide (a1.Stop≥0) then
   (some (decide (a1.Writes≥a1.Stop)))
  else
   (some false)).bind fun v5=>
 if v5 then
  (some (9,({Files:=a1.Files,Budget:=a1.Budget,Writes:=a1.Writes,Stop:=a1.Stop,Down:=true}:zC)))
 else
  ((vK a1 a2 a3).bind fun x7=>
  some (0,({Files:=x7.Files,Budget:=x7.Budget,Writes:=w64 (x7.Writes+1),Stop:=x7.Stop,Down:=x7.Down}:zC)))
noncomputable def vP (a1:zC) (a2:ByteArray) (a3:(List Int)):Option (Int×zC):=
 (yT a1 a2).bind fun x4=>
 (vS a2).bind fun x6=>
 if x6 !=0 then
  (some (5,a1))
 else
  ((if decide ((a3.length:Int)>4000) then
     (some true)
    else
     (if !x4.2 then
      (some ((a1.Files.length:Int)==120))
     else
      (some false))).bind fun v11=>
  if v11 then
   (some (2,a1))
  else
   ((vU a1).bind fun x13=>
   if decide ((w64 ((w64 (x13-(x4.1.length:Int)))+(a3.length:Int)))>a1.Budget) then
    (some (8,a1))
   else
    ((yK a1 a2 a3).bind fun x16=>
    some (x16.1,x16.2))))
noncomputable def jL (a1:zC) (a2:(List Pack)) (a3:Int):Option (Int×zC):=
 (uZ a1).bind fun x4=>
 if x4 then
  (some (6,a1))
 else
  ((zEb a2 a1 a3).bind fun x7=>
  if x7.2 !=0 then
   (some (x7.2,a1))
  else
   ((zCi a2 a1 x7.1).bind fun x10=>
   if !x10 then
    (some (1,a1))
   else
    ((zAj a3).bind fun x13=>
    (vP a1 (bs [99,117,114]) (s2b x13)).bind fun x15=>
    some (x15.1,x15.2))))
noncomputable def zEm (a1:zC) (a2:Int):Option zH:=
 (if a2 !=0 then
   (some (a2 !=9))
  else
   (some false)).bind fun v4=>
 if v4 then
  (some ({Code:=a2,zC:=({Files:=([]:List File),Budget:=0,Writes:=0,Stop:=0,Down:=false}:zC)}:zH))
 else
  (some ({Code:=a2,zC:=a1}:zH))
noncomputable def xZ (a1:zC) (a2:(List Pack)) (a3:Int):Option zH:=
 (zAK a1).bind fun x4=>
 (if x4==0 then
   (some a1.Down)
  else
   (some false)).bind fun v7=>
 (if v7 then
   (some 9)
  else
   (some x4)).bind fun v9=>
 if v9 !=0 then
  (some ({Code:=v9,zC:=({Files:=([]:List File),Budget:=0,Writes:=0,Stop:=0,Down:=false}:zC)}:zH))
 else
  ((uK a1).bind fun x11=>
  (jL x11 a2 a3).bind fun x13=>
  (zEm x13.2 x13.1).bind fun x15=>
  some x15)
noncomputable def wB (a1:(List Pack)) (a2:zC) (a3:(List Pack)) (a4:Int):Option zH:=
 (wV a1).bind fun x5=>
 if x5 !=0 then
  (some ({Code:=x5,zC:=({Files:=([]:List File),Budget:=0,Writes:=0,Stop:=0,Down:=false}:zC)}:zH))
 else
  ((xZ a2 a3 a4).bind fun x8=>
  some x8)
noncomputable def vD (a1:(List Pack)) (a2:zC) (a3:Int):Option zH:=
 (wB a1 a2 a1 a3).bind fun x4=>
 some x4
noncomputable def zDr (a1:(List Int)) (a2:(List Int)) (s10:Int):Option (Lp Int (Fl Bool Unit)):=
 if decide (s10< (a1.length:Int)) then
  ((idx a1 s10).bind fun x12=>
  (idx a2 s10).bind fun x14=>
  if x12 !=x14 then
   (some (Lp.done (Fl.ret false)))
  else
   (some (Lp.go (w64 (s10+1)))))
 else
  (some (Lp.done (Fl.nxt ())))
noncomputable def zC8 (a1:(List Int)) (a2:(List Int)):Int→Option (Fl Bool Unit):=loop (zDr a1 a2)
noncomputable def zC7 (a1:(List Int)) (a2:(List Int)):Option Bool:=
 if (a1.length:Int) !=(a2.length:Int) then
  (some false)
 else
  ((zC8 a1 a2 0).bind (Fl.go some fun v17=>
  some true))
noncomputable def zDu (a1:File) (a2:File):Option Bool:=
 if !(seq a1.Path a2.Path) then
  (some false)
 else
  ((zC7 a1.Data a2.Data).bind fun x4=>
  if !x4 then
   (some false)
  else
   (some true))
noncomputable def zDs (a1:(List File)) (a2:(List File)) (s12:Int):Option (Lp Int (Fl Bool Unit)):=
 if decide (s12< (a1.length:Int)) then
  ((idx a1 s12).bind fun x14=>
  (idx a2 s12).bind fun x16=>
  (zDu x14 x16).bind fun x18=>
  if !x18 then
   (some (Lp.done (Fl.ret false)))
  else
   (some (Lp.go (w64 (s12+1)))))
 else
  (some (Lp.done (Fl.nxt ())))
noncomputable def zCA (a1:(List File)) (a2:(List File)):Int→Option (Fl Bool Unit):=loop (zDs a1 a2)
noncomputable def zCu (a1:(List File)) (a2:(List File)):Option Bool:=
 if (a1.length:Int) !=(a2.length:Int) then
  (some false)
 else
  ((zCA a1 a2 0).bind (Fl.go some fun v21=>
  some true))
noncomputable def zB0 (a1:zC) (a2:zC):Option Bool:=
 (zCu a1.Files a2.Files).bind fun x3=>
 if !x3 then
  (some false)
 else
  (if a1.Budget !=a2.Budget then
   (some false)
  else
   (if a1.Writes !=a2.Writes then
    (some false)
   else
    (if a1.Stop !=a2.Stop then
     (some false)
    else
     (if !(a1.Down==a2.Down) then
      (some false)
     else
      (some true)))))
noncomputable def wK (a1:zH) (a2:zH):Option Bool:=
 if a1.Code !=a2.Code then
  (some false)
 else
  ((zB0 a1.zC a2.zC).bind fun x4=>
  if !x4 then
   (some false)
  else
   (some true))
noncomputable def vF (a1:Version) (a2:Version):Option Bool:=
 if a1.A !=a2.A then
  (some false)
 else
  (if a1.B !=a2.B then
   (some false)
  else
   (if a1.C !=a2.C then
    (some false)
   else
    (some true)))
noncomputable def zBY (a1:(List ByteArray)) (a2:(List ByteArray)) (s10:Int):Option (Lp Int (Fl Bool Unit)):=
 if decide (s10< (a1.length:Int)) then
  ((idx a1 s10).bind fun x12=>
  (idx a2 s10).bind fun x14=>
  if !(seq x12 x14) then
   (some (Lp.done (Fl.ret false)))
  else
   (some (Lp.go (w64 (s10+1)))))
 else
  (some (Lp.done (Fl.nxt ())))
noncomputable def zBd (a1:(List ByteArray)) (a2:(List ByteArray)):Int→Option (Fl Bool Unit):=loop (zBY a1 a2)
noncomputable def zAJ (a1:(List ByteArray)) (a2:(List ByteArray)):Option Bool:=
 if (a1.length:Int) !=(a2.length:Int) then
  (some false)
 else
  ((zBd a1 a2 0).bind (Fl.go some fun v17=>
  some true))
noncomputable def zD2 (a1:Term) (a2:Term):Option Bool:=
 if !(seq a1.Name a2.Name) then
  (some false)
 else
  ((vF a1.Low a2.Low).bind fun x4=>
  if !x4 then
   (some false)
  else
   ((vF a1.High a2.High).bind fun x7=>
   if !x7 then
    (some false)
   else
    (some true)))
noncomputable def zDo (a1:(List Term)) (a2:(List Term)) (s12:Int):Option (Lp Int (Fl Bool Unit)):=
 if decide (s12< (a1.length:Int)) then
  ((idx a1 s12).bind fun x14=>
  (idx a2 s12).bind fun x16=>
  (zD2 x14 x16).bind fun x18=>
  if !x18 then
   (some (Lp.done (Fl.ret false)))
  else
   (some (Lp.go (w64 (s12+1)))))
 else
  (some (Lp.done (Fl.nxt ())))
noncomputable def zC1 (a1:(List Term)) (a2:(List Term)):Int→Option (Fl Bool Unit):=loop (zDo a1 a2)
noncomputable def zAr (a1:(List Term)) (a2:(List Term)):Option Bool:=
 if (a1.length:Int) !=(a2.length:Int) then
  (some false)
 else
  ((zC1 a1 a2 0).bind (Fl.go some fun v21=>
  some true))
noncomputable def zCO (a1:(List (List Term))) (a2:(List (List Term))) (s12:Int):Option (Lp Int (Fl Bool Unit)):=
 if decide (s12< (a1.length:Int)) then
  ((idx a1 s12).bind fun x14=>
  (idx a2 s12).bind fun x16=>
  (zAr x14 x16).bind fun x18=>
  if !x18 then
   (some (Lp.done (Fl.ret false)))
  else
   (some (Lp.go (w64 (s12+1)))))
 else
  (some (Lp.done (Fl.nxt ())))
noncomputable def zBI (a1:(List (List Term))) (a2:(List (List Term))):Int→Option (Fl Bool Unit):=loop (zCO a1 a2)
noncomputable def zBv (a1:(List (List Term))) (a2:(List (List Term))):Option Bool:=
 if (a1.length:Int) !=(a2.length:Int) then
  (some false)
 else
  ((zBI a1 a2 0).bind (Fl.go some fun v21=>
  some true))
noncomputable def zD1 (a1:Pack) (a2:Pack):Option Bool:=
 if !(seq a1.Name a2.Name) then
  (some false)
 else
  ((vF a1.Version a2.Version).bind fun x4=>
  if !x4 then
   (some false)
  else
   (if a1.Size !=a2.Size then
    (some false)
   else
    ((zAJ a1.Provides a2.Provides).bind fun x8=>
    if !x8 then
     (some false)
    else
     ((zBv a1.Needs a2.Needs).bind fun x11=>
     if !x11 then
      (some false)
     else
      ((zAr a1.Bars a2.Bars).bind fun x14=>
      if !x14 then
       (some false)
      else
       (some true))))))
noncomputable def zDm (a1:(List Pack)) (a2:(List Pack)) (s12:Int):Option (Lp Int (Fl Bool Unit)):=
 if decide (s12< (a1.length:Int)) then
  ((idx a1 s12).bind fun x14=>
  (idx a2 s12).bind fun x16=>
  (zD1 x14 x16).bind fun x18=>
  if !x18 then
   (some (Lp.done (Fl.ret false)))
  else
   (some (Lp.go (w64 (s12+1)))))
 else
  (some (Lp.done (Fl.nxt ())))
noncomputable def zCh (a1:(List Pack)) (a2:(List Pack)):Int→Option (Fl Bool Unit):=loop (zDm a1 a2)
noncomputable def zC3 (a1:(List Pack)) (a2:(List Pack)):Option Bool:=
 if (a1.length:Int) !=(a2.length:Int) then
  (some false)
 else
  ((zCh a1 a2 0).bind (Fl.go some fun v21=>
  some true))
noncomputable def zCP (s6:(Int×ByteArray)):Option (Lp (Int×ByteArray) ByteArray):=
 if decide (s6.1>0) then
  ((cat (b2s [IntKind.u8.wrap (w64 (48+(s6.1.tmod 10)))]) s6.2).bind fun x8=>
  some (Lp.go (w64 (s6.1.tdiv 10),x8)))
 else
  (some (Lp.done s6.2))
noncomputable def zBP:(Int×ByteArray)→Option ByteArray:=loop zCP
noncomputable def wD (a1:Int):Option ByteArray:=
 if decide (a1≤0) then
  (some (bs [109,48]))
 else
  ((zBP (a1,bs [])).bind fun v10=>
  (cat (bs [109]) v10).bind fun x11=>
  some x11)
noncomputable def jF (s8:((List ByteArray)×Int×Int)):Option (Lp ((List ByteArray)×Int×Int) ((List ByteArray)×Int)):=
 if decide (s8.2.2< (s8.1.length:Int)) then
  ((wD s8.2.1).bind fun x10=>
  (idx s8.1 s8.2.2).bind fun x12=>
  some (Lp.go (s8.1.set s8.2.2.toNat x10,w64 (s8.2.1+1),w64 (s8.2.2+1))))
 else
  (some (Lp.done (s8.1,s8.2.1)))
noncomputable def jS:((List ByteArray)×Int×Int)→Option ((List ByteArray)×Int):=loop jF
noncomputable def uT (a1:(List ByteArray)) (a2:Int):Option (Int×(List ByteArray)):=
 (jS (a1,a2,0)).bind fun v14=>
 some (v14.2,v14.1)
noncomputable def kY (s20:((List Term)×Int×Int)):Option (Lp ((List Term)×Int×Int) ((List Term)×Int)):=
 if decide (s20.2.2< (s20.1.length:Int)) then
  ((wD s20.2.1).bind fun x22=>
  (idx s20.1 s20.2.2).bind fun x24=>
  (idx (s20.1.set s20.2.2.toNat ({Name:=x22,Low:=x24.Low,High:=x24.High}:Term)) s20.2.2).bind fun x26=>
  (idx ((s20.1.set s20.2.2.toNat ({Name:=x22,Low:=x24.Low,High:=x24.High}:Term)).set s20.2.2.toNat ({Name:=x26.Name,Low:=({A:=w64 (s20.2.1+1),B:=x26.Low.B,C:=x26.Low.C}:Version),High:=x26.High}:Term)) s20.2.2).bind fun x28=>
  (idx (((s20.1.set s20.2.2.toNat ({Name:=x22,Low:=x24.Low,High:=x24.High}:Term)).set s20.2.2.toNat ({Name:=x26.Name,Low:=({A:=w64 (s20.2.1+1),B:=x26.Low.B,C:=x26.Low.C}:Version),High:=x26.High}:Term)).set s20.2.2.toNat ({Name:=x28.Name,Low:=({A:=x28.Low.A,B:=w64 ((w64 (s20.2.1+1))+1),C:=x28.Low.C}:Version),High:=x28.High}:Term)) s20.2.2).bind fun x30=>
  (idx ((((s20.1.set s20.2.2.toNat ({Name:=x22,Low:=x24.Low,High:=x24.High}:Term)).set s20.2.2.toNat ({Name:=x26.Name,Low:=({A:=w64 (s20.2.1+1),B:=x26.Low.B,C:=x26.Low.C}:Version),High:=x26.High}:Term)).set s20.2.2.toNat ({Name:=x28.Name,Low:=({A:=x28.Low.A,B:=w64 ((w64 (s20.2.1+1))+1),C:=x28.Low.C}:Version),High:=x28.High}:Term)).set s20.2.2.toNat ({Name:=x30.Name,Low:=({A:=x30.Low.A,B:=x30.Low.B,C:=w64 ((w64 ((w64 (s20.2.1+1))+1))+1)}:Version),High:=x30.High}:Term)) s20.2.2).bind fun x32=>
  (idx (((((s20.1.set s20.2.2.toNat ({Name:=x22,Low:=x24.Low,High:=x24.High}:Term)).set s20.2.2.toNat ({Name:=x26.Name,Low:=({A:=w64 (s20.2.1+1),B:=x26.Low.B,C:=x26.Low.C}:Version),High:=x26.High}:Term)).set s20.2.2.toNat ({Name:=x28.Name,Low:=({A:=x28.Low.A,B:=w64 ((w64 (s20.2.1+1))+1),C:=x28.Low.C}:Version),High:=x28.High}:Term)).set s20.2.2.toNat ({Name:=x30.Name,Low:=({A:=x30.Low.A,B:=x30.Low.B,C:=w64 ((w64 ((w64 (s20.2.1+1))+1))+1)}:Version),High:=x30.High}:Term)).set s20.2.2.toNat ({Name:=x32.Name,Low:=x32.Low,High:=({A:=w64 ((w64 ((w64 ((w64 (s20.2.1+1))+1))+1))+1),B:=x32.High.B,C:=x32.High.C}:Version)}:Term)) s20.2.2).bind fun x34=>
  (idx ((((((s20.1.set s20.2.2.toNat ({Name:=x22,Low:=x24.Low,High:=x24.High}:Term)).set s20.2.2.toNat ({Name:=x26.Name,Low:=({A:=w64 (s20.2.1+1),B:=x26.Low.B,C:=x26.Low.C}:Version),High:=x26.High}:Term)).set s20.2.2.toNat ({Name:=x28.Name,Low:=({A:=x28.Low.A,B:=w64 ((w64 (s20.2.1+1))+1),C:=x28.Low.C}:Version),High:=x28.High}:Term)).set s20.2.2.toNat ({Name:=x30.Name,Low:=({A:=x30.Low.A,B:=x30.Low.B,C:=w64 ((w64 ((w64 (s20.2.1+1))+1))+1)}:Version),High:=x30.High}:Term)).set s20.2.2.toNat ({Name:=x32.Name,Low:=x32.Low,High:=({A:=w64 ((w64 ((w64 ((w64 (s20.2.1+1))+1))+1))+1),B:=x32.High.B,C:=x32.High.C}:Version)}:Term)).set s20.2.2.toNat ({Name:=x34.Name,Low:=x34.Low,High:=({A:=x34.High.A,B:=w64 ((w64 ((w64 ((w64 ((w64 (s20.2.1+1))+1))+1))+1))+1),C:=x34.High.C}:Version)}:Term)) s20.2.2).bind fun x36=>
  some (Lp.go (((((((s20.1.set s20.2.2.toNat ({Name:=x22,Low:=x24.Low,High:=x24.High}:Term)).set s20.2.2.toNat ({Name:=x26.Name,Low:=({A:=w64 (s20.2.1+1),B:=x26.Low.B,C:=x26.Low.C}:Version),High:=x26.High}:Term)).set s20.2.2.toNat ({Name:=x28.Name,Low:=({A:=x28.Low.A,B:=w64 ((w64 (s20.2.1+1))+1),C:=x28.Low.C}:Version),High:=x28.High}:Term)).set s20.2.2.toNat ({Name:=x30.Name,Low:=({A:=x30.Low.A,B:=x30.Low.B,C:=w64 ((w64 ((w64 (s20.2.1+1))+1))+1)}:Version),High:=x30.High}:Term)).set s20.2.2.toNat ({Name:=x32.Name,Low:=x32.Low,High:=({A:=w64 ((w64 ((w64 ((w64 (s20.2.1+1))+1))+1))+1),B:=x32.High.B,C:=x32.High.C}:Version)}:Term)).set s20.2.2.toNat ({Name:=x34.Name,Low:=x34.Low,High:=({A:=x34.High.A,B:=w64 ((w64 ((w64 ((w64 ((w64 (s20.2.1+1))+1))+1))+1))+1),C:=x34.High.C}:Version)}:Term)).set s20.2.2.toNat ({Name:=x36.Name,Low:=x36.Low,High:=({A:=x36.High.A,B:=x36.High.B,C:=w64 ((w64 ((w64 ((w64 ((w64 ((w64 (s20.2.1+1))+1))+1))+1))+1))+1)}:Version)}:Term),w64 ((w64 ((w64 ((w64 ((w64 ((w64 ((w64 (s20.2.1+1))+1))+1))+1))+1))+1))+1),w64 (s20.2.2+1))))
 else
  (some (Lp.done (s20.1,s20.2.1)))
noncomputable def zA5:((List Term)×Int×Int)→Option ((List Term)×Int):=loop kY
noncomputable def uD (a1:(List Term)) (a2:Int):Option (Int×(List Term)):=
 (zA5 (a1,a2,0)).bind fun v38=>
 some (v38.2,v38.1)
noncomputable def jT (s10:((List (List Term))×Int×Int)):Option (Lp ((List (List Term))×Int×Int) ((List (List Term))×Int)):=
 if decide (s10.2.2< (s10.1.length:Int)) then
  ((idx s10.1 s10.2.2).bind fun x12=>
  (uD x12 s10.2.1).bind fun x14=>
  (same x14.2 x12).bind fun u16=>
  some (Lp.go (s10.1.set s10.2.2.toNat x14.2,x14.1,w64 (s10.2.2+1))))
 else
  (some (Lp.done (s10.1,s10.2.1)))
noncomputable def zAc:((List (List Term))×Int×Int)→Option ((List (List Term))×Int):=loop jT
noncomputable def jN (a1:(List (List Term))) (a2:Int):Option (Int×(List (List Term))):=
 (zAc (a1,a2,0)).bind fun v18=>
 some (v18.2,v18.1)
noncomputable def kT (s34:((List Pack)×Int×Int)):Option (Lp ((List Pack)×Int×Int) ((List Pack)×Int)):=
 if decide (s34.2.2< (s34.1.length:Int)) then
  ((wD s34.2.1).bind fun x36=>
  (idx s34.1 s34.2.2).bind fun x38=>
  (idx (s34.1.set s34.2.2.toNat ({Name:=x36,Version:=x38.Version,Size:=x38.Size,Provides:=x38.Provides,Needs:=x38.Needs,Bars:=x38.Bars}:Pack)) s34.2.2).bind fun x40=>
  (idx ((s34.1.set s34.2.2.toNat ({Name:=x36,Version:=x38.Version,Size:=x38.Size,Provides:=x38.Provides,Needs:=x38.Needs,Bars:=x38.Bars}:Pack)).set s34.2.2.toNat ({Name:=x40.Name,Version:=({A:=w64 (s34.2.1+1),B:=x40.Version.B,C:=x40.Version.C}:Version),Size:=x40.Size,Provides:=x40.Provides,Needs:=x40.Needs,Bars:=x40.Bars}:Pack)) s34.2.2).bind fun x42=>
  (idx (((s34.1.set s34.2.2.toNat ({Name:=x36,Version:=x38.Version,Size:=x38.Size,Provides:=x38.Provides,Needs:=x38.Needs,Bars:=x38.Bars}:Pack)).set s34.2.2.toNat ({Name:=x40.Name,Version:=({A:=w64 (s34.2.1+1),B:=x40.Version.B,C:=x40.Version.C}:Version),Size:=x40.Size,Provides:=x40.Provides,Needs:=x40.Needs,Bars:=x40.Bars}:Pack)).set s34.2.2.toNat ({Name:=x42.Name,Version:=({A:=x42.Version.A,B:=w64 ((w64 (s34.2.1+1))+1),C:=x42.Version.C}:Version),Size:=x42.Size,Provides:=x42.Provides,Needs:=x42.Needs,Bars:=x42.Bars}:Pack)) s34.2.2).bind fun x44=>
  (idx ((((s34.1.set s34.2.2.toNat ({Name:=x36,Version:=x38.Version,Size:=x38.Size,Provides:=x38.Provides,Needs:=x38.Needs,Bars:=x38.Bars}:Pack)).set s34.2.2.toNat ({Name:=x40.Name,Version:=({A:=w64 (s34.2.1+1),B:=x40.Version.B,C:=x40.Version.C}:Version),Size:=x40.Size,Provides:=x40.Provides,Needs:=x40.Needs,Bars:=x40.Bars}:Pack)).set s34.2.2.toNat ({Name:=x42.Name,Version:=({A:=x42.Version.A,B:=w64 ((w64 (s34.2.1+1))+1),C:=x42.Version.C}:Version),Size:=x42.Size,Provides:=x42.Provides,Needs:=x42.Needs,Bars:=x42.Bars}:Pack)).set s34.2.2.toNat ({Name:=x44.Name,Version:=({A:=x44.Version.A,B:=x44.Version.B,C:=w64 ((w64 ((w64 (s34.2.1+1))+1))+1)}:Version),Size:=x44.Size,Provides:=x44.Provides,Needs:=x44.Needs,Bars:=x44.Bars}:Pack)) s34.2.2).bind fun x46=>
  (idx (((((s34.1.set s34.2.2.toNat ({Name:=x36,Version:=x38.Version,Size:=x38.Size,Provides:=x38.Provides,Needs:=x38.Needs,Bars:=x38.Bars}:Pack)).set s34.2.2.toNat ({Name:=x40.Name,Version:=({A:=w64 (s34.2.1+1),B:=x40.Version.B,C:=x40.Version.C}:Version),Size:=x40.Size,Provides:=x40.Provides,Needs:=x40.Needs,Bars:=x40.Bars}:Pack)).set s34.2.2.toNat ({Name:=x42.Name,Version:=({A:=x42.Version.A,B:=w64 ((w64 (s34.2.1+1))+1),C:=x42.Version.C}:Version),Size:=x42.Size,Provides:=x42.Provides,Needs:=x42.Needs,Bars:=x42.Bars}:Pack)).set s34.2.2.toNat ({Name:=x44.Name,Version:=({A:=x44.Version.A,B:=x44.Version.B,C:=w64 ((w64 ((w64 (s34.2.1+1))+1))+1)}:Version),Size:=x44.Size,Provides:=x44.Provides,Needs:=x44.Needs,Bars:=x44.Bars}:Pack)).set s34.2.2.toNat ({Name:=x46.Name,Version:=x46.Version,Size:=w64 ((w64 ((w64 ((w64 (s34.2.1+1))+1))+1))+1),Provides:=x46.Provides,Needs:=x46.Needs,Bars:=x46.Bars}:Pack)) s34.2.2).bind fun x48=>
  (uT x48.Provides (w64 ((w64 ((w64 ((w64 ((w64 (s34.2.1+1))+1))+1))+1))+1))).bind fun x50=>
  (same x50.2 x48.Provides).bind fun u52=>
  (idx ((((((s34.1.set s34.2.2.toNat ({Name:=x36,Version:=x38.Version,Size:=x38.Size,Provides:=x38.Provides,Needs:=x38.Needs,Bars:=x38.Bars}:Pack)).set s34.2.2.toNat ({Name:=x40.Name,Version:=({A:=w64 (s34.2.1+1),B:=x40.Version.B,C:=x40.Version.C}:Version),Size:=x40.Size,Provides:=x40.Provides,Needs:=x40.Needs,Bars:=x40.Bars}:Pack)).set s34.2.2.toNat ({Name:=x42.Name,Version:=({A:=x42.Version.A,B:=w64 ((w64 (s34.2.1+1))+1),C:=x42.Version.C}:Version),Size:=x42.Size,Provides:=x42.Provides,Needs:=x42.Needs,Bars:=x42.Bars}:Pack)).set s34.2.2.toNat ({Name:=x44.Name,Version:=({A:=x44.Version.A,B:=x44.Version.B,C:=w64 ((w64 ((w64 (s34.2.1+1))+1))+1)}:Version),Size:=x44.Size,Provides:=x44.Provides,Needs:=x44.Needs,Bars:=x44.Bars}:Pack)).set s34.2.2.toNat ({Name:=x46.Name,Version:=x46.Version,Size:=w64 ((w64 ((w64 ((w64 (s34.2.1+1))+1))+1))+1),Provides:=x46.Provides,Needs:=x46.Needs,Bars:=x46.Bars}:Pack)).set s34.2.2.toNat ({Name:=x48.Name,Version:=x48.Version,Size:=x48.Size,Provides:=x50.2,Needs:=x48.Needs,Bars:=x48.Bars}:Pack)) s34.2.2).bind fun x54=>
  (jN x54.Needs x50.1).bind fun x56=>
  (same x56.2 x54.Needs).bind fun u58=>
  (idx (((((((s34.1.set s34.2.2.toNat ({Name:=x36,Version:=x38.Version,Size:=x38.Size,Provides:=x38.Provides,Needs:=x38.Needs,Bars:=x38.Bars}:Pack)).set s34.2.2.toNat ({Name:=x40.Name,Version:=({A:=w64 (s34.2.1+1),B:=x40.Version.B,C:=x40.Version.C}:Version),Size:=x40.Size,Provides:=x40.Provides,Needs:=x40.Needs,Bars:=x40.Bars}:Pack)).set s34.2.2.toNat ({Name:=x42.Name,Version:=({A:=x42.Version.A,B:=w64 ((w64 (s34.2.1+1))+1),C:=x42.Version.C}:Version),Size:=x42.Size,Provides:=x42.Provides,Needs:=x42.Needs,Bars:=x42.Bars}:Pack)).set s34.2.2.toNat ({Name:=x44.Name,Version:=({A:=x44.Version.A,B:=x44.Version.B,C:=w64 ((w64 ((w64 (s34.2.1+1))+1))+1)}:Version),Size:=x44.Size,Provides:=x44.Provides,Needs:=x44.Needs,Bars:=x44.Bars}:Pack)).set s34.2.2.toNat ({Name:=x46.Name,Version:=x46.Version,Size:=w64 ((w64 ((w64 ((w64 (s34.2.1+1))+1))+1))+1),Provides:=x46.Provides,Needs:=x46.Needs,Bars:=x46.Bars}:Pack)).set s34.2.2.toNat ({Name:=x48.Name,Version:=x48.Version,Size:=x48.Size,Provides:=x50.2,Needs:=x48.Needs,Bars:=x48.Bars}:Pack)).set s34.2.2.toNat ({Name:=x54.Name,Version:=x54.Version,Size:=x54.Size,Provides:=x54.Provides,Needs:=x56.2,Bars:=x54.Bars}:Pack)) s34.2.2).bind fun x60=>
  (uD x60.Bars x56.1).bind fun x62=>
  (same x62.2 x60.Bars).bind fun u64=>
  some (Lp.go ((((((((s34.1.set s34.2.2.toNat ({Name:=x36,Version:=x38.Version,Size:=x38.Size,Provides:=x38.Provides,Needs:=x38.Needs,Bars:=x38.Bars}:Pack)).set s34.2.2.toNat ({Name:=x40.Name,Version:=({A:=w64 (s34.2.1+1),B:=x40.Version.B,C:=x40.Version.C}:Version),Size:=x40.Size,Provides:=x40.Provides,Needs:=x40.Needs,Bars:=x40.Bars}:Pack)).set s34.2.2.toNat ({Name:=x42.Name,Version:=({A:=x42.Version.A,B:=w64 ((w64 (s34.2.1+1))+1),C:=x42.Version.C}:Version),Size:=x42.Size,Provides:=x42.Provides,Needs:=x42.Needs,Bars:=x42.Bars}:Pack)).set s34.2.2.toNat ({Name:=x44.Name,Version:=({A:=x44.Version.A,B:=x44.Version.B,C:=w64 ((w64 ((w64 (s34.2.1+1))+1))+1)}:Version),Size:=x44.Size,Provides:=x44.Provides,Needs:=x44.Needs,Bars:=x44.Bars}:Pack)).set s34.2.2.toNat ({Name:=x46.Name,Version:=x46.Version,Size:=w64 ((w64 ((w64 ((w64 (s34.2.1+1))+1))+1))+1),Provides:=x46.Provides,Needs:=x46.Needs,Bars:=x46.Bars}:Pack)).set s34.2.2.toNat ({Name:=x48.Name,Version:=x48.Version,Size:=x48.Size,Provides:=x50.2,Needs:=x48.Needs,Bars:=x48.Bars}:Pack)).set s34.2.2.toNat ({Name:=x54.Name,Version:=x54.Version,Size:=x54.Size,Provides:=x54.Provides,Needs:=x56.2,Bars:=x54.Bars}:Pack)).set s34.2.2.toNat ({Name:=x60.Name,Version:=x60.Version,Size:=x60.Size,Provides:=x60.Provides,Needs:=x60.Needs,Bars:=x62.2}:Pack),x62.1,w64 (s34.2.2+1))))
 else
  (some (Lp.done (s34.1,s34.2.1)))
noncomputable def zAt:((List Pack)×Int×Int)→Option ((List Pack)×Int):=loop kT
noncomputable def zAd (a1:(List Pack)) (a2:Int):Option (Int×(List Pack)):=
 (zAt (a1,a2,0)).bind fun v66=>
 some (v66.2,v66.1)
noncomputable def zAb (s6:((List Int)×Int×Int)):Option (Lp ((List Int)×Int×Int) ((List Int)×Int)):=
 if decide (s6.2.2< (s6.1.length:Int)) then
  ((idx s6.1 s6.2.2).bind fun x8=>
  some (Lp.go (s6.1.set s6.2.2.toNat (IntKind.u8.wrap (s6.2.1)),w64 (s6.2.1+1),w64 (s6.2.2+1))))
 else
  (some (Lp.done (s6.1,s6.2.1)))
noncomputable def zAw:((List Int)×Int×Int)→Option ((List Int)×Int):=loop zAb
noncomputable def zAh (a1:(List Int)) (a2:Int):Option (Int×(List Int)):=
 (zAw (a1,a2,0)).bind fun v10=>
 some (v10.2,v10.1)
noncomputable def kS (s14:((List File)×Int×Int)):Option (Lp ((List File)×Int×Int) ((List File)×Int)):=
 if decide (s14.2.2< (s14.1.length:Int)) then
  ((wD s14.2.1).bind fun x16=>
  (idx s14.1 s14.2.2).bind fun x18=>
  (idx (s14.1.set s14.2.2.toNat ({Path:=x16,Data:=x18.Data}:File)) s14.2.2).bind fun x20=>
  (zAh x20.Data (w64 (s14.2.1+1))).bind fun x22=>
  (same x22.2 x20.Data).bind fun u24=>
  some (Lp.go ((s14.1.set s14.2.2.toNat ({Path:=x16,Data:=x18.Data}:File)).set s14.2.2.toNat ({Path:=x20.Path,Data:=x22.2}:File),x22.1,w64 (s14.2.2+1))))
 else
  (some (Lp.done (s14.1,s14.2.1)))
noncomputable def zAz:((List File)×Int×Int)→Option ((List File)×Int):=loop kS
noncomputable def zAa (a1:(List File)) (a2:Int):Option (Int×(List File)):=
 (zAz (a1,a2,0)).bind fun v26=>
 some (v26.2,v26.1)
noncomputable def tN (a1:zC) (a2:Int):Option (Int×(List File)):=
 (zAa a1.Files a2).bind fun x3=>
 (same x3.2 a1.Files).bind fun u5=>
 some (x3.1,x3.2)
noncomputable def wW (a1:zH) (a2:Int):Option (Int×(List File)):=
 (tN a1.zC a2).bind fun x3=>
 (same x3.2 a1.zC.Files).bind fun u5=>
 some (x3.1,x3.2)
noncomputable def zAs (a1:(List Int)) (s7:(Int×Int)):Option (Lp (Int×Int) (Fl Int Int)):=
 if decide (s7.2< (a1.length:Int)) then
  ((idx a1 s7.2).bind fun x9=>
  if x9 !=(IntKind.u8.wrap (s7.1)) then
   (some (Lp.done (Fl.ret (-1))))
  else
   (some (Lp.go (w64 (s7.1+1),w64 (s7.2+1)))))
 else
  (some (Lp.done (Fl.nxt s7.1)))
noncomputable def zBh (a1:(List Int)):(Int×Int)→Option (Fl Int Int):=loop (zAs a1)
noncomputable def zAG (a1:(List Int)) (a2:Int):Option Int:=
 (zBh a1 (a2,0)).bind (Fl.go some fun v12=>
 some v12)
noncomputable def zA8 (a1:(List File)) (s14:(Int×Int)):Option (Lp (Int×Int) (Fl Int Int)):=
 if decide (s14.2< (a1.length:Int)) then
  ((idx a1 s14.2).bind fun x16=>
  (wD s14.1).bind fun x18=>
  if !(seq x16.Path x18) then
   (some (Lp.done (Fl.ret (-1))))
  else
   ((idx a1 s14.2).bind fun x21=>
   (zAG x21.Data (w64 (s14.1+1))).bind fun x23=>
   if decide (x23<0) then
    (some (Lp.done (Fl.ret (-1))))
   else
    (some (Lp.go (x23,w64 (s14.2+1))))))
 else
  (some (Lp.done (Fl.nxt s14.1)))
noncomputable def zBn (a1:(List File)):(Int×Int)→Option (Fl Int Int):=loop (zA8 a1)
noncomputable def zAM (a1:(List File)) (a2:Int):Option Int:=
 (zBn a1 (a2,0)).bind (Fl.go some fun v26=>
 some v26)
noncomputable def zB1 (a1:zC) (a2:Int):Option Int:=
 (zAM a1.Files a2).bind fun x3=>
 if decide (x3<0) then
  (some (-1))
 else
  (some x3)
noncomputable def wP (a1:zH) (a2:Int):Option Int:=
 (zB1 a1.zC a2).bind fun x3=>
 if decide (x3<0) then
  (some (-1))
 else
  (some x3)
noncomputable def wR (a1:(List Pack)) (a2:zC) (a3:Int):Option Bool:=
 (zCF a1 1048576).bind fun x4=>
 if decide (x4<0) then
  (some true)
 else
  ((zDx a2 x4).bind fun x7=>
  if decide (x7<0) then
   (some true)
  else
   ((vR a1).bind fun x10=>
   (tH a2).bind fun x12=>
   (jD x10 x12 a3).bind fun x14=>
   (vR a1).bind fun x16=>
   (tH a2).bind fun x18=>
   (vD x16 x18 a3).bind fun x20=>
   (wK x20 x14).bind fun x22=>
   if !x22 then
    (some false)
   else
    ((vR a1).bind fun x25=>
    (zC3 x16 x25).bind fun x27=>
    if !x27 then
     (some false)
    else
     ((tH a2).bind fun x30=>
     (zB0 x18 x30).bind fun x32=>
     if !x32 then
      (some false)
     else
      ((zAd x16 1).bind fun x35=>
      (tN x18 x35.1).bind fun x37=>
      (if decide (x37.1<0) then
        (some true)
       else
        ((wK x20 x14).bind fun x40=>
        some (!x40))).bind fun v42=>
      if v42 then
       (some false)
      else
       ((wW x20 1).bind fun x44=>
       (same x44.2 x20.zC.Files).bind fun u46=>
       (wP ({Code:=x20.Code,zC:=({Files:=x44.2,Budget:=x20.zC.Budget,Writes:=x20.zC.Writes,Stop:=x20.zC.Stop,Down:=x20.zC.Down}:zC)}:zH) 1).bind fun x48=>
       if decide (x48<0) then
        (some false)
       else
        (if x48 !=x44.1 then
         (some false)
        else
         ((vR a1).bind fun x52=>
         (tH a2).bind fun x54=>
         (vD x52 x54 a3).bind fun x56=>
         (wK x56 x14).bind fun x58=>
         if !x58 then
          (some false)
         else
          ((wP ({Code:=x20.Code,zC:=({Files:=x44.2,Budget:=x20.zC.Budget,Writes:=x20.zC.Writes,Stop:=x20.zC.Stop,Down:=x20.zC.Down}:zC)}:zH) 1).bind fun x61=>
          if decide (x61<0) then
           (some false)
          else
           (if x61 !=x44.1 then
            (some false)
           else
            (some true)))))))))))
end Go.Told

import Derived.Test.YtlagdfkkokgakaaGreatDoorImF
set_option linter.unusedVariables false
set_option maxRecDepth 4000
namespace Go.Told
open Go Go.Im
structure Version where
 A:Int
 B:Int
 C:Int
 deriving DecidableEq
def Version.enc (x:Version):List D:=[.sc (.int .i64 x.A),.sc (.int .i64 x.B),.sc (.int .i64 x.C)]
theorem Version.fl (x:Version):zBf (Version.enc x):=(flatK yD (flatK yD (flatK yD zCz)))
structure Term where
 Name:ByteArray
 Low:Version
 High:Version
 deriving DecidableEq
def Term.enc (x:Term):List D:=[.sc (.string x.Name),.sc (.int .i64 x.Low.A),.sc (.int .i64 x.Low.B),.sc (.int .i64 x.Low.C),.sc (.int .i64 x.High.A),.sc (.int .i64 x.High.B),.sc (.int .i64 x.High.C)]
theorem Term.fl (x:Term):zBf (Term.enc x):=(flatK yD (flatK yD (flatK yD (flatK yD (flatK yD (flatK yD (flatK yD zCz)))))))
structure Pack where
 Name:ByteArray
 Version:Version
 Size:Int
 Provides:(List ByteArray)
 Needs:(List (List Term))
 Bars:(List Term)
 deriving DecidableEq
def Pack.enc (o:Bool) (x:Pack):List D:=[.sc (.string x.Name),.sc (.int .i64 x.Version.A),.sc (.int .i64 x.Version.B),.sc (.int .i64 x.Version.C),.sc (.int .i64 x.Size),.s o 1 x.Provides.length (x.Provides.map eStr),.s o 1 x.Needs.length (x.Needs.map (eSl o 7 Term.enc)),.s o 7 x.Bars.length (x.Bars.map Term.enc)]
theorem Pack.ro (o:Bool) (x:Pack):D.ro.roC (Pack.enc o x)=Pack.enc false x:=by
 simp only [Pack.enc,D.ro.roC,D.ro,zAO (enc:=eStr) (enc':=eStr) (fun _=>rfl),zAO (enc:=(eSl o 7 Term.enc)) (enc':=(eSl false 7 Term.enc)) (zI6 (fun _=>rfl)),zAO (enc:=Term.enc) (enc':=Term.enc) (fun _=>rfl)]
theorem Pack.fl (x:Pack):zBf (Pack.enc true x):=(flatK yD (flatK yD (flatK yD (flatK yD (flatK yD (flatK (zB1 (zC1 (fun _=>(flatK yD zCz)) _)) (flatK (zB1 (zC1 (fun _=>(flatK (zB1 (zC1 (fun _=>(Term.fl _)) _)) zCz)) _)) (flatK (zB1 (zC1 (fun _=>(Term.fl _)) _)) zCz))))))))
structure File where
 Path:ByteArray
 Data:(List Int)
 deriving DecidableEq
def File.enc (o:Bool) (x:File):List D:=[.sc (.string x.Path),.s o 1 x.Data.length (x.Data.map eU8)]
theorem File.ro (o:Bool) (x:File):D.ro.roC (File.enc o x)=File.enc false x:=by
 simp only [File.enc,D.ro.roC,D.ro,zAO (enc:=eU8) (enc':=eU8) (fun _=>rfl)]
theorem File.fl (x:File):zBf (File.enc true x):=(flatK yD (flatK (zB1 (zC1 (fun _=>(flatK yD zCz)) _)) zCz))
structure zC where
 Files:(List File)
 Budget:Int
 Writes:Int
 Stop:Int
 Down:Bool
 deriving DecidableEq
def zC.enc (o:Bool) (x:zC):List D:=[.s o 2 x.Files.length (x.Files.map (File.enc o)),.sc (.int .i64 x.Budget),.sc (.int .i64 x.Writes),.sc (.int .i64 x.Stop),.sc (.bool x.Down)]
theorem zC.ro (o:Bool) (x:zC):D.ro.roC (zC.enc o x)=zC.enc false x:=by
 simp only [zC.enc,D.ro.roC,D.ro,zAO (enc:=(File.enc o)) (enc':=(File.enc false)) (File.ro o)]
theorem zC.fl (x:zC):zBf (zC.enc true x):=(flatK (zB1 (zC1 (fun _=>(File.fl _)) _)) (flatK yD (flatK yD (flatK yD (flatK yD zCz)))))
structure System where
 Catalog:(List Pack)
 zC:zC
 deriving DecidableEq
def System.enc (o:Bool) (x:System):List D:=[.s o 8 x.Catalog.length (x.Catalog.map (Pack.enc o)),.s o 2 x.zC.Files.length (x.zC.Files.map (File.enc o)),.sc (.int .i64 x.zC.Budget),.sc (.int .i64 x.zC.Writes),.sc (.int .i64 x.zC.Stop),.sc (.bool x.zC.Down)]
theorem System.ro (o:Bool) (x:System):D.ro.roC (System.enc o x)=System.enc false x:=by
 simp only [System.enc,D.ro.roC,D.ro,zAO (enc:=(Pack.enc o)) (enc':=(Pack.enc false)) (Pack.ro o),zAO (enc:=(File.enc o)) (enc':=(File.enc false)) (File.ro o)]
theorem System.fl (x:System):zBf (System.enc true x):=(flatK (zB1 (zC1 (fun _=>(Pack.fl _)) _)) (flatK (zB1 (zC1 (fun _=>(File.fl _)) _)) (flatK yD (flatK yD (flatK yD (flatK yD zCz))))))
structure zD where
 Code:Int
 Choices:Int
 System:System
 deriving DecidableEq
def zD.enc (o:Bool) (x:zD):List D:=[.sc (.int .i64 x.Code),.sc (.int .i64 x.Choices),.s o 8 x.System.Catalog.length (x.System.Catalog.map (Pack.enc o)),.s o 2 x.System.zC.Files.length (x.System.zC.Files.map (File.enc o)),.sc (.int .i64 x.System.zC.Budget),.sc (.int .i64 x.System.zC.Writes),.sc (.int .i64 x.System.zC.Stop),.sc (.bool x.System.zC.Down)]
theorem zD.ro (o:Bool) (x:zD):D.ro.roC (zD.enc o x)=zD.enc false x:=by
 simp only [zD.enc,D.ro.roC,D.ro,zAO (enc:=(Pack.enc o)) (enc':=(Pack.enc false)) (Pack.ro o),zAO (enc:=(File.enc o)) (enc':=(File.enc false)) (File.ro o)]
theorem zD.fl (x:zD):zBf (zD.enc true x):=(flatK yD (flatK yD (flatK (zB1 (zC1 (fun _=>(Pack.fl _)) _)) (flatK (zB1 (zC1 (fun _=>(File.fl _)) _)) (flatK yD (flatK yD (flatK yD (flatK yD zCz))))))))
structure zZ where
 Code:Int
 zC:zC
 deriving DecidableEq
def zZ.enc (o:Bool) (x:zZ):List D:=[.sc (.int .i64 x.Code),.s o 2 x.zC.Files.length (x.zC.Files.map (File.enc o)),.sc (.int .i64 x.zC.Budget),.sc (.int .i64 x.zC.Writes),.sc (.int .i64 x.zC.Stop),.sc (.bool x.zC.Down)]
theorem zZ.ro (o:Bool) (x:zZ):D.ro.roC (zZ.enc o x)=zZ.enc false x:=by
 simp only [zZ.enc,D.ro.roC,D.ro,zAO (enc:=(File.enc o)) (enc':=(File.enc false)) (File.ro o)]
theorem zZ.fl (x:zZ):zBf (zZ.enc true x):=(flatK yD (flatK (zB1 (zC1 (fun _=>(File.fl _)) _)) (flatK yD (flatK yD (flatK yD (flatK yD zCz))))))
noncomputable def uM (a1:(List ByteArray)) (s8:(Int×Int)):Option (Lp (Int×Int) (Fl Int Int)):=
 if decide (s8.2< (a1.length:Int)) then
  ((idx a1 s8.2).bind fun x10=>
  if decide ((w64 (s8.1-(x10.size:Int)))<0) then
   (some (Lp.done (Fl.ret (-1))))
  else
   (some (Lp.go (w64 (s8.1-(x10.size:Int)),w64 (s8.2+1)))))
 else
  (some (Lp.done (Fl.nxt s8.1)))
noncomputable def jH (a1:(List ByteArray)):(Int×Int)→Option (Fl Int Int):=loop (uM a1)
noncomputable def tQ (a1:(List ByteArray)) (a2:Int):Option Int:=
 if decide ((w64 (a2-(a1.length:Int)))<0) then
  (some (-1))
 else
  ((jH a1 (w64 (a2-(a1.length:Int)),0)).bind (Fl.go some fun v13=>
  some v13))
noncomputable def zA5 (a1:Term) (a2:Int):Option Int:=
 if decide ((w64 (a2-(a1.Name.size:Int)))<0) then
  (some (-1))
 else
  (some (w64 (a2-(a1.Name.size:Int))))
noncomputable def kG (a1:(List Term)) (s10:(Int×Int)):Option (Lp (Int×Int) (Fl Int Int)):=
 if decide (s10.2< (a1.length:Int)) then
  ((idx a1 s10.2).bind fun x12=>
  (zA5 x12 s10.1).bind fun x14=>
  if decide (x14<0) then
   (some (Lp.done (Fl.ret (-1))))
  else
   (some (Lp.go (x14,w64 (s10.2+1)))))
 else
  (some (Lp.done (Fl.nxt s10.1)))
noncomputable def zAc (a1:(List Term)):(Int×Int)→Option (Fl Int Int):=loop (kG a1)
noncomputable def uT (a1:(List Term)) (a2:Int):Option Int:=
 if decide ((w64 (a2-(a1.length:Int)))<0) then
  (some (-1))
 else
  ((zAc a1 (w64 (a2-(a1.length:Int)),0)).bind (Fl.go some fun v17=>
  some v17))
noncomputable def jI (a1:(List (List Term))) (s10:(Int×Int)):Option (Lp (Int×Int) (Fl Int Int)):=
 if decide (s10.2< (a1.length:Int)) then
  ((idx a1 s10.2).bind fun x12=>
  (uT x12 s10.1).bind fun x14=>
  if decide (x14<0) then
   (some (Lp.done (Fl.ret (-1))))
  else
   (some (Lp.go (x14,w64 (s10.2+1)))))
 else
  (some (Lp.done (Fl.nxt s10.1)))
noncomputable def kD (a1:(List (List Term))):(Int×Int)→Option (Fl Int Int):=loop (jI a1)
noncomputable def jT (a1:(List (List Term))) (a2:Int):Option Int:=
 if decide ((w64 (a2-(a1.length:Int)))<0) then
  (some (-1))
 else
  ((kD a1 (w64 (a2-(a1.length:Int)),0)).bind (Fl.go some fun v17=>
  some v17))
noncomputable def zA9 (a1:Pack) (a2:Int):Option Int:=
 if decide ((w64 (a2-(a1.Name.size:Int)))<0) then
  (some (-1))
 else
  ((tQ a1.Provides (w64 (a2-(a1.Name.size:Int)))).bind fun x4=>
  if decide (x4<0) then
   (some (-1))
  else
   ((jT a1.Needs x4).bind fun x7=>
   if decide (x7<0) then
    (some (-1))
   else
    ((uT a1.Bars x7).bind fun x10=>
    if decide (x10<0) then
     (some (-1))
    else
     (some x10))))
noncomputable def kH (a1:(List Pack)) (s10:(Int×Int)):Option (Lp (Int×Int) (Fl Int Int)):=
 if decide (s10.2< (a1.length:Int)) then
  ((idx a1 s10.2).bind fun x12=>
  (zA9 x12 s10.1).bind fun x14=>
  if decide (x14<0) then
   (some (Lp.done (Fl.ret (-1))))
  else
   (some (Lp.go (x14,w64 (s10.2+1)))))
 else
  (some (Lp.done (Fl.nxt s10.1)))
noncomputable def zAk (a1:(List Pack)):(Int×Int)→Option (Fl Int Int):=loop (kH a1)
noncomputable def zAd (a1:(List Pack)) (a2:Int):Option Int:=
 if decide ((w64 (a2-(a1.length:Int)))<0) then
  (some (-1))
 else
  ((zAk a1 (w64 (a2-(a1.length:Int)),0)).bind (Fl.go some fun v17=>
  some v17))
noncomputable def yZ (a1:Version):Option Version:=
 some a1
noncomputable def kL (a1:(List ByteArray)) (s9:((List ByteArray)×Int)):Option (Lp ((List ByteArray)×Int) (List ByteArray)):=
 if decide (s9.2< (a1.length:Int)) then
  ((idx a1 s9.2).bind fun x11=>
  (idx s9.1 s9.2).bind fun x13=>
  some (Lp.go (s9.1.set s9.2.toNat x11,w64 (s9.2+1))))
 else
  (some (Lp.done s9.1))
noncomputable def tV (a1:(List ByteArray)):((List ByteArray)×Int)→Option (List ByteArray):=loop (kL a1)
noncomputable def tL (a1:(List ByteArray)):Option (List ByteArray):=
 (mk 16 (a1.length:Int) ByteArray.empty).bind fun x2=>
 (tV a1 (x2,0)).bind fun v15=>
 some v15
noncomputable def zAA (a1:Term):Option Term:=
 (yZ a1.Low).bind fun x2=>
 (yZ a1.High).bind fun x4=>
 some ({Name:=a1.Name,Low:=x2,High:=x4}:Term)
noncomputable def zA0 (a1:(List Term)) (s11:((List Term)×Int)):Option (Lp ((List Term)×Int) (List Term)):=
 if decide (s11.2< (a1.length:Int)) then
  ((idx a1 s11.2).bind fun x13=>
  (zAA x13).bind fun x15=>
  (idx s11.1 s11.2).bind fun x17=>
  some (Lp.go (s11.1.set s11.2.toNat x15,w64 (s11.2+1))))
 else
  (some (Lp.done s11.1))
noncomputable def kU (a1:(List Term)):((List Term)×Int)→Option (List Term):=loop (zA0 a1)
noncomputable def uP (a1:(List Term)):Option (List Term):=
 (mk 64 (a1.length:Int) ({Name:=ByteArray.empty,Low:=({A:=0,B:=0,C:=0}:Version),High:=({A:=0,B:=0,C:=0}:Version)}:Term)).bind fun x2=>
 (kU a1 (x2,0)).bind fun v19=>
 some v19
noncomputable def zAs (a1:(List (List Term))) (s11:((List (List Term))×Int)):Option (Lp ((List (List Term))×Int) (List (List Term))):=
 if decide (s11.2< (a1.length:Int)) then
  ((idx a1 s11.2).bind fun x13=>
  (uP x13).bind fun x15=>
  (idx s11.1 s11.2).bind fun x17=>
  some (Lp.go (s11.1.set s11.2.toNat x15,w64 (s11.2+1))))
 else
  (some (Lp.done s11.1))
noncomputable def jY (a1:(List (List Term))):((List (List Term))×Int)→Option (List (List Term)):=loop (zAs a1)
noncomputable def jU (a1:(List (List Term))):Option (List (List Term)):=
 (mk 24 (a1.length:Int) ([]:List Term)).bind fun x2=>
 (jY a1 (x2,0)).bind fun v19=>
 some v19
noncomputable def zA6 (a1:Pack):Option Pack:=
 (yZ a1.Version).bind fun x2=>
 (tL a1.Provides).bind fun x4=>
 (jU a1.Needs).bind fun x6=>
 (uP a1.Bars).bind fun x8=>
 some ({Name:=a1.Name,Version:=x2,Size:=a1.Size,Provides:=x4,Needs:=x6,Bars:=x8}:Pack)
noncomputable def zA4 (a1:(List Pack)) (s11:((List Pack)×Int)):Option (Lp ((List Pack)×Int) (List Pack)):=
 if decide (s11.2< (a1.length:Int)) then
  ((idx a1 s11.2).bind fun x13=>
  (zA6 x13).bind fun x15=>
  (idx s11.1 s11.2).bind fun x17=>
  some (Lp.go (s11.1.set s11.2.toNat x15,w64 (s11.2+1))))
 else
  (some (Lp.done s11.1))
noncomputable def zAh (a1:(List Pack)):((List Pack)×Int)→Option (List Pack):=loop (zA4 a1)
noncomputable def xD (a1:(List Pack)):Option (List Pack):=
 (mk 120 (a1.length:Int) ({Name:=ByteArray.empty,Version:=({A:=0,B:=0,C:=0}:Version),Size:=0,Provides:=([]:List ByteArray),Needs:=([]:List (List Term)),Bars:=([]:List Term)}:Pack)).bind fun x2=>
 (zAh a1 (x2,0)).bind fun v19=>
 some v19
noncomputable def xI (a1:Int):Option Bool:=
 if decide (a1≥97) then
  (some (decide (a1≤122)))
 else
  (some false)
noncomputable def jL (a1:Int):Option Bool:=
 if decide (a1≥48) then
  (some (decide (a1≤57)))
 else
  (some false)
noncomputable def zAE (a1:Int):Option Bool:=
 (xI a1).bind fun x2=>
 if x2 then
  (some true)
 else
  ((jL a1).bind fun x5=>
  if x5 then
   (some true)
  else
   (some (a1==95)))
noncomputable def kP (a1:ByteArray) (s16:Int):Option (Lp Int (Fl Int Unit)):=
 if decide (s16< (a1.size:Int)) then
  ((bidx a1 s16).bind fun x18=>
  (zAE x18).bind fun x20=>
  if !x20 then
   (some (Lp.done (Fl.ret 5)))
  else
   (some (Lp.go (w64 (s16+1)))))
 else
  (some (Lp.done (Fl.nxt ())))
noncomputable def wX (a1:ByteArray):Int→Option (Fl Int Unit):=loop (kP a1)
noncomputable def yV (a1:ByteArray):Option Int:=
 (if decide ((a1.size:Int)<1) then
   (some true)
  else
   (if decide ((a1.size:Int)>12) then
    (some true)
   else
    ((bidx a1 0).bind fun x4=>
    (xI x4).bind fun x6=>
    some (!x6)))).bind fun v8=>
 if v8 then
  (some 5)
 else
  ((wX a1 0).bind (Fl.go some fun v23=>
  some 0))
noncomputable def xB (a1:Int) (a2:Int) (a3:Int):Option Bool:=
 if decide (a1≥a2) then
  (some (decide (a1≤a3)))
 else
  (some false)
noncomputable def yH (a1:Version):Option Int:=
 (xB a1.A 0 999).bind fun x2=>
 (if !x2 then
   (some true)
  else
   ((xB a1.B 0 999).bind fun x5=>
   if !x5 then
    (some true)
   else
    ((xB a1.C 0 999).bind fun x8=>
    some (!x8)))).bind fun v10=>
 if v10 then
  (some 3)
 else
  (some 0)
noncomputable def jX (a1:(List ByteArray)) (a2:ByteArray) (s7:Int):Option (Lp Int (Fl Bool Unit)):=
 if decide (s7< (a1.length:Int)) then
  ((idx a1 s7).bind fun x9=>
  if seq x9 a2 then
   (some (Lp.done (Fl.ret true)))
  else
   (some (Lp.go (w64 (s7+1)))))
 else
  (some (Lp.done (Fl.nxt ())))
noncomputable def zAj (a1:(List ByteArray)) (a2:ByteArray):Int→Option (Fl Bool Unit):=loop (jX a1 a2)
noncomputable def kZ (a1:(List ByteArray)) (a2:ByteArray):Option Bool:=
 (zAj a1 a2 0).bind (Fl.go some fun v12=>
 some false)
noncomputable def zAJ:Option Version:=
 some ({A:=1000,B:=0,C:=0}:Version)
noncomputable def vF (a1:Int) (a2:Int):Option Int:=
 if decide (a1<a2) then
  (some (-1))
 else
  (if decide (a1>a2) then
   (some 1)
  else
   (some 0))
noncomputable def yG (a1:Version) (a2:Version):Option Int:=
 (vF a1.A a2.A).bind fun x3=>
 if x3 !=0 then
  (some x3)
 else
  ((vF a1.B a2.B).bind fun x6=>
  if x6 !=0 then
   (some x6)
  else
   ((vF a1.C a2.C).bind fun x9=>
   some x9))
noncomputable def tN (a1:Term):Option Int:=
 (yV a1.Name).bind fun x2=>
 if x2 !=0 then
  (some x2)
 else
  ((yH a1.Low).bind fun x5=>
  if x5 !=0 then
   (some x5)
  else
   ((zAJ).bind fun x8=>
   (if !(a1.High.A==x8.A&&(a1.High.B==x8.B&&(a1.High.C==x8.C&&true))) then
     ((yH a1.High).bind fun x11=>
     some (x11 !=0))
    else
     (some false)).bind fun v13=>
   if v13 then
    (some 3)
   else
    ((yG a1.Low a1.High).bind fun x15=>
    if decide (x15≥0) then
     (some 1)
    else
     (some 0))))
noncomputable def kC (a1:(List Term)) (s8:Int):Option (Lp Int (Fl Int Unit)):=
 if decide (s8< (a1.length:Int)) then
  ((idx a1 s8).bind fun x10=>
  (tN x10).bind fun x12=>
  if x12 !=0 then
   (some (Lp.done (Fl.ret x12)))
  else
   (some (Lp.go (w64 (s8+1)))))
 else
  (some (Lp.done (Fl.nxt ())))
noncomputable def kS (a1:(List Term)):Int→Option (Fl Int Unit):=loop (kC a1)
noncomputable def wT (a1:(List Term)):Option Int:=
 (kS a1 0).bind (Fl.go some fun v15=>
 some 0)
noncomputable def uL (a1:Pack) (s70:Int):Option (Lp Int (Fl Int Unit)):=
 if decide (s70< (a1.Needs.length:Int)) then
  ((idx a1.Needs s70).bind fun x72=>
  if (x72.length:Int)==0 then
   (some (Lp.done (Fl.ret 1)))
  else
   ((idx a1.Needs s70).bind fun x75=>
   (wT x75).bind fun x77=>
   if x77 !=0 then
    (some (Lp.done (Fl.ret x77)))
   else
    (some (Lp.go (w64 (s70+1))))))
 else
  (some (Lp.done (Fl.nxt ())))
noncomputable def wW (a1:Pack):Int→Option (Fl Int Unit):=loop (uL a1)
noncomputable def uK (a1:Pack) (s42:Int):Option (Lp Int (Fl Int Unit)):=
 if decide (s42< (a1.Provides.length:Int)) then
  ((idx a1.Provides s42).bind fun x44=>
  (yV x44).bind fun x46=>
  if x46 !=0 then
   (some (Lp.done (Fl.ret x46)))
  else
   ((idx a1.Provides s42).bind fun x49=>
   (if seq x49 a1.Name then
     (some true)
    else
     ((zHc a1.Provides 0 s42).bind fun x52=>
     (idx a1.Provides s42).bind fun x54=>
     (kZ x52 x54).bind fun x56=>
     some x56)).bind fun v58=>
   if v58 then
    (some (Lp.done (Fl.ret 6)))
   else
    (some (Lp.go (w64 (s42+1))))))
 else
  (some (Lp.done (Fl.nxt ())))
noncomputable def wZ (a1:Pack):Int→Option (Fl Int Unit):=loop (uK a1)
noncomputable def uQ (a1:Pack) (s19:Int):Option (Lp Int (Fl Int Unit)):=
 if decide (s19< (a1.Needs.length:Int)) then
  ((idx a1.Needs s19).bind fun x21=>
  if decide ((x21.length:Int)>4) then
   (some (Lp.done (Fl.ret 2)))
  else
   (some (Lp.go (w64 (s19+1)))))
 else
  (some (Lp.done (Fl.nxt ())))
noncomputable def tZ (a1:Pack):Int→Option (Fl Int Unit):=loop (uQ a1)
noncomputable def uY (a1:Pack):Option Int:=
 (yV a1.Name).bind fun x2=>
 if x2 !=0 then
  (some x2)
 else
  ((yH a1.Version).bind fun x5=>
  if x5 !=0 then
   (some x5)
  else
   ((xB a1.Size 1 200).bind fun x8=>
   if !x8 then
    (some 3)
   else
    ((if decide ((a1.Provides.length:Int)>4) then
       (some true)
      else
       (if decide ((a1.Needs.length:Int)>4) then
        (some true)
       else
        (some (decide ((a1.Bars.length:Int)>4))))).bind fun v13=>
    if v13 then
     (some 2)
    else
     ((tZ a1 0).bind (Fl.go some fun v24=>
     (wZ a1 0).bind (Fl.go some fun v60=>
     (wW a1 0).bind (Fl.go some fun v80=>
     (wT a1.Bars).bind fun x81=>
     some x81)))))))
noncomputable def zAf (a1:(List Pack)) (a2:ByteArray) (a3:Version) (s14:Int):Option (Lp Int (Fl Int Unit)):=
 if decide (s14< (a1.length:Int)) then
  ((idx a1 s14).bind fun x16=>
  (if seq x16.Name a2 then
    ((idx a1 s14).bind fun x19=>
    (yG x19.Version a3).bind fun x21=>
    some (x21==0))
   else
    (some false)).bind fun v23=>
  if v23 then
   (some (Lp.done (Fl.ret s14)))
  else
   (some (Lp.go (w64 (s14+1)))))
 else
  (some (Lp.done (Fl.nxt ())))
noncomputable def zAw (a1:(List Pack)) (a2:ByteArray) (a3:Version):Int→Option (Fl Int Unit):=loop (zAf a1 a2 a3)
noncomputable def zAg (a1:(List Pack)) (a2:ByteArray) (a3:Version):Option Int:=
 (zAw a1 a2 a3 0).bind (Fl.go some fun v25=>
 some (-1))
noncomputable def wE (a1:(List Pack)) (s18:Int):Option (Lp Int (Fl Int Unit)):=
 if decide (s18< (a1.length:Int)) then
  ((idx a1 s18).bind fun x20=>
  (uY x20).bind fun x22=>
  if x22 !=0 then
   (some (Lp.done (Fl.ret x22)))
  else
   ((zHc a1 0 s18).bind fun x25=>
   (idx a1 s18).bind fun x27=>
   (idx a1 s18).bind fun x29=>
   (zAg x25 x27.Name x29.Version).bind fun x31=>
   if decide (x31≥0) then
    (some (Lp.done (Fl.ret 6)))
   else
    (some (Lp.go (w64 (s18+1))))))
 else
  (some (Lp.done (Fl.nxt ())))
noncomputable def wO (a1:(List Pack)):Int→Option (Fl Int Unit):=loop (wE a1)
noncomputable def xY (a1:(List Pack)):Option Int:=
 if decide ((a1.length:Int)>24) then
  (some 2)
 else
  ((wO a1 0).bind (Fl.go some fun v34=>
  some 0))
noncomputable def kK (a1:Int):Option zZ:=
 (xB a1 0 20000).bind fun x2=>
 if !x2 then
  (some ({Code:=3,zC:=({Files:=([]:List File),Budget:=0,Writes:=0,Stop:=0,Down:=false}:zC)}:zZ))
 else
  (some ({Code:=0,zC:=({Files:=([]:List File),Budget:=a1,Writes:=0,Stop:=(-1),Down:=false}:zC)}:zZ))
noncomputable def xR (g:Int→Option ByteArray) (s:Int):Option ByteArray:=
 match s with
 |a1=>
 if decide (a1<10) then
  (some (b2s [IntKind.u8.wrap (w64 (48+a1))]))
 else
  ((g (w64 (a1.tdiv 10))).bind fun x3=>
  (cat x3 (b2s [IntKind.u8.wrap (w64 (48+(a1.tmod 10)))])).bind fun x5=>
  some x5)
noncomputable def kJ (a1:Int):Option ByteArray:=zHY xR 64 a1
noncomputable def zAb (a1:Int):Option ByteArray:=
 (xB a1 1 999999).bind fun x2=>
 if !x2 then
  (some (bs []))
 else
  ((kJ (w64 (1000000+a1))).bind fun x5=>
  (zIv x5 1 (x5.size:Int)).bind fun x7=>
  (cat (bs [103,101,110,47]) x7).bind fun x9=>
  some x9)
noncomputable def jV (a1:Int):Option zZ:=
 (kK a1).bind fun x2=>
 if x2.Code !=0 then
  (some x2)
 else
  (if a1==0 then
   (some ({Code:=8,zC:=({Files:=([]:List File),Budget:=0,Writes:=0,Stop:=0,Down:=false}:zC)}:zZ))
  else
   ((zAb 1).bind fun x6=>
   some ({Code:=x2.Code,zC:=({Files:=[({Path:=bs [99,117,114],Data:=[49]}:File),({Path:=x6,Data:=([]:List Int)}:File),({Path:=bs [114,111,111,116,115],Data:=([]:List Int)}:File)],Budget:=x2.zC.Budget,Writes:=x2.zC.Writes,Stop:=x2.zC.Stop,Down:=x2.zC.Down}:zC)}:zZ)))
noncomputable def jB (a1:(List Pack)) (s46:((List Pack)×Int)) (x48:Pack) (x50:(List ByteArray)) (s74:((List (List Term))×Int)):Option (Lp ((List (List Term))×Int) (List (List Term))):=
 (idx a1 s46.2).bind fun x75=>
 if decide (s74.2< (x75.Needs.length:Int)) then
  ((idx a1 s46.2).bind fun x78=>
  (idx x78.Needs s74.2).bind fun x80=>
  (app 64 ([]:List Term) x80).bind fun x82=>
  (app 24 s74.1 [x82]).bind fun x84=>
  some (Lp.go (x84,w64 (s74.2+1))))
 else
  (some (Lp.done s74.1))
noncomputable def jZ (a1:(List Pack)) (s46:((List Pack)×Int)) (x48:Pack) (x50:(List ByteArray)):((List (List Term))×Int)→Option (List (List Term)):=loop (jB a1 s46 x48 x50)
noncomputable def jE (a1:(List Pack)) (s46:((List Pack)×Int)):Option (Lp ((List Pack)×Int) (List Pack)):=
 if decide (s46.2< (a1.length:Int)) then
  ((idx a1 s46.2).bind fun x48=>
  (app 16 ([]:List ByteArray) x48.Provides).bind fun x50=>
  (jZ a1 s46 x48 x50 (([]:List (List Term)),0)).bind fun v86=>
  (app 64 ([]:List Term) x48.Bars).bind fun x87=>
  (app 120 s46.1 [({Name:=x48.Name,Version:=x48.Version,Size:=x48.Size,Provides:=x50,Needs:=v86,Bars:=x87}:Pack)]).bind fun x89=>
  some (Lp.go (x89,w64 (s46.2+1))))
 else
  (some (Lp.done s46.1))
noncomputable def kF (a1:(List Pack)):((List Pack)×Int)→Option (List Pack):=loop (jE a1)
noncomputable def wS (a1:(List Pack)):Option (List Pack):=
 (kF a1 (([]:List Pack),0)).bind fun v91=>
 some v91
noncomputable def zB5 (a1:System) (a2:zZ) (a3:Int):Option zD:=
 (if a2.Code !=0 then
   (if (a2.zC.Files.length:Int)==0 then
    (some (a2.Code !=9))
   else
    (some false))
  else
   (some false)).bind fun v6=>
 if v6 then
  (some ({Code:=a2.Code,Choices:=a3,System:=({Catalog:=([]:List Pack),zC:=({Files:=([]:List File),Budget:=0,Writes:=0,Stop:=0,Down:=false}:zC)}:System)}:zD))
 else
  ((wS a1.Catalog).bind fun x8=>
  some ({Code:=a2.Code,Choices:=a3,System:=({Catalog:=x8,zC:=a2.zC}:System)}:zD))
noncomputable def zAq (a1:System) (a2:zZ) (a3:Int):Option zD:=
 (if a2.Code !=0 then
   (if (a2.zC.Files.length:Int)==0 then
    (some (a2.Code !=9))
   else
    (some false))
  else
   (some false)).bind fun v6=>
 if v6 then
  (some ({Code:=a2.Code,Choices:=a3,System:=({Catalog:=([]:List Pack),zC:=({Files:=([]:List File),Budget:=0,Writes:=0,Stop:=0,Down:=false}:zC)}:System)}:zD))
 else
  ((wS a1.Catalog).bind fun x8=>
  some ({Code:=a2.Code,Choices:=a3,System:=({Catalog:=x8,zC:=a2.zC}:System)}:zD))
noncomputable def wU (a1:(List Pack)) (a2:Int):Option zD:=
 (xY a1).bind fun x3=>
 if x3 !=0 then
  (some ({Code:=x3,Choices:=0,System:=({Catalog:=([]:List Pack),zC:=({Files:=([]:List File),Budget:=0,Writes:=0,Stop:=0,Down:=false}:zC)}:System)}:zD))
 else
  ((jV a2).bind fun x6=>
  if x6.Code !=0 then
   (some ({Code:=x6.Code,Choices:=0,System:=({Catalog:=([]:List Pack),zC:=({Files:=([]:List File),Budget:=0,Writes:=0,Stop:=0,Down:=false}:zC)}:System)}:zD))
  else
   ((zAq ({Catalog:=a1,zC:=({Files:=([]:List File),Budget:=0,Writes:=0,Stop:=0,Down:=false}:zC)}:System) x6 0).bind fun x9=>
   some x9))
noncomputable def vP (a1:Int):Option Bool:=
 if decide (a1≥97) then
  (if decide (a1≤122) then
   (some true)
  else
   (if decide (a1≥48) then
    (if decide (a1≤57) then
     (some true)
    else
     (some (a1==95)))
   else
    (some (a1==95))))
 else
  (if decide (a1≥48) then
   (if decide (a1≤57) then
    (some true)
   else
    (some (a1==95)))
  else
   (some (a1==95)))
noncomputable def kM (a1:ByteArray) (s17:Int):Option (Lp Int (Fl Int Unit)):=
 if decide (s17< (a1.size:Int)) then
  ((bidx a1 s17).bind fun x19=>
  (vP x19).bind fun x21=>
  if !x21 then
   (some (Lp.done (Fl.ret 5)))
  else
   (some (Lp.go (w64 (s17+1)))))
 else
  (some (Lp.done (Fl.nxt ())))
noncomputable def wV (a1:ByteArray):Int→Option (Fl Int Unit):=loop (kM a1)
noncomputable def yY (a1:ByteArray):Option Int:=
 (if decide ((a1.size:Int)<1) then
   (some true)
  else
   (if decide ((a1.size:Int)>12) then
    (some true)
   else
    ((bidx a1 0).bind fun x4=>
    if decide (x4<97) then
     (some true)
    else
     ((bidx a1 0).bind fun x7=>
     some (decide (x7>122)))))).bind fun v9=>
 if v9 then
  (some 5)
 else
  ((wV a1 0).bind (Fl.go some fun v24=>
  some 0))
noncomputable def yN (a1:Int) (a2:Int) (a3:Int):Option Bool:=
 if decide (a2≤a1) then
  (some (decide (a1≤a3)))
 else
  (some false)
noncomputable def yJ (a1:Version):Option Int:=
 (yN a1.A 0 999).bind fun x2=>
 (if !x2 then
   (some true)
  else
   ((yN a1.B 0 999).bind fun x5=>
   if !x5 then
    (some true)
   else
    ((yN a1.C 0 999).bind fun x8=>
    some (!x8)))).bind fun v10=>
 if v10 then
  (some 3)
 else
  (some 0)
noncomputable def uU (a1:(List Int)) (s6:Int):Option (Lp Int (Fl Int Unit)):=
 if decide (s6< (a1.length:Int)) then
  ((idx a1 s6).bind fun x8=>
  if x8 !=0 then
   (some (Lp.done (Fl.ret x8)))
  else
   (some (Lp.go (w64 (s6+1)))))
 else
  (some (Lp.done (Fl.nxt ())))
noncomputable def jF (a1:(List Int)):Int→Option (Fl Int Unit):=loop (uU a1)
noncomputable def uX (a1:(List Int)):Option Int:=
 (jF a1 0).bind (Fl.go some fun v11=>
 some 0)
noncomputable def vW (a1:(List Term)):Option Bool:=
 some (decide ((a1.length:Int)>4))
noncomputable def zP (a1:(List (List Term))) (s8:Int):Option (Lp Int (Fl Int Unit)):=
 if decide (s8< (a1.length:Int)) then
  ((idx a1 s8).bind fun x10=>
  (vW x10).bind fun x12=>
  if x12 then
   (some (Lp.done (Fl.ret s8)))
  else
   (some (Lp.go (w64 (s8+1)))))
 else
  (some (Lp.done (Fl.nxt ())))
noncomputable def zQ (a1:(List (List Term))):Int→Option (Fl Int Unit):=loop (zP a1)
noncomputable def zN (a1:(List (List Term))):Option Int:=
 (zQ a1 0).bind (Fl.go some fun v15=>
 some (-1))
noncomputable def zI (a1:(List (List Term))):Option Bool:=
 (zN a1).bind fun x2=>
 some (decide (x2≥0))
noncomputable def xC (a1:(List ByteArray)) (a2:ByteArray) (s7:Int):Option (Lp Int (Fl Int Unit)):=
 if decide (s7< (a1.length:Int)) then
  ((idx a1 s7).bind fun x9=>
  if seq a2 x9 then
   (some (Lp.done (Fl.ret s7)))
  else
   (some (Lp.go (w64 (s7+1)))))
 else
  (some (Lp.done (Fl.nxt ())))
noncomputable def xM (a1:(List ByteArray)) (a2:ByteArray):Int→Option (Fl Int Unit):=loop (xC a1 a2)
noncomputable def xQ (a1:(List ByteArray)) (a2:ByteArray):Option Int:=
 (xM a1 a2 0).bind (Fl.go some fun v12=>
 some (-1))
noncomputable def yL (a1:(List ByteArray)) (a2:ByteArray):Option Bool:=
 (xQ a1 a2).bind fun x3=>
 some (decide (x3≥0))
noncomputable def zBr:Option Version:=
 some ({A:=1000,B:=0,C:=0}:Version)
noncomputable def wD (a1:Int):Option Bool:=
 some (a1 !=a1)
noncomputable def yI (a1:Int) (a2:Int):Option Int:=
 (wD a1).bind fun x3=>
 (wD a2).bind fun x5=>
 if x3 then
  (if x5 then
   (some 0)
  else
   (some (-1)))
 else
  (if x5 then
   (some 1)
  else
   (if decide (a1<a2) then
    (some (-1))
   else
    (if decide (a1>a2) then
     (some 1)
    else
     (some 0))))
noncomputable def zAx (a1:(List Int)) (s6:Int):Option (Lp Int (Fl Int Unit)):=
 if decide (s6< (a1.length:Int)) then
  ((idx a1 s6).bind fun x8=>
  if x8 !=0 then
   (some (Lp.done (Fl.ret x8)))
  else
   (some (Lp.go (w64 (s6+1)))))
 else
  (some (Lp.done (Fl.nxt ())))
noncomputable def zAG (a1:(List Int)):Int→Option (Fl Int Unit):=loop (zAx a1)
noncomputable def zAW (a1:(List Int)):Option Int:=
 (zAG a1 0).bind (Fl.go some fun v11=>
 some 0)
noncomputable def zAl (a1:Version) (a2:Version):Option Int:=
 (yI a1.A a2.A).bind fun x3=>
 (yI a1.B a2.B).bind fun x5=>
 (yI a1.C a2.C).bind fun x7=>
 (zAW [x3,x5,x7]).bind fun x9=>
 some x9
noncomputable def tH (a1:Term):Option Int:=
 (yY a1.Name).bind fun x2=>
 if x2 !=0 then
  (some x2)
 else
  ((yJ a1.Low).bind fun x5=>
  if x5 !=0 then
   (some x5)
  else
   ((zBr).bind fun x8=>
   (if !(a1.High.A==x8.A&&(a1.High.B==x8.B&&(a1.High.C==x8.C&&true))) then
     ((yJ a1.High).bind fun x11=>
     some (x11 !=0))
    else
     (some false)).bind fun v13=>
   if v13 then
    (some 3)
   else
    ((zAl a1.Low a1.High).bind fun x15=>
    if decide (x15≥0) then
     (some 1)
    else
     (some 0))))
noncomputable def vS (a1:(List Term)) (s8:Int):Option (Lp Int (Fl Int Unit)):=
 if decide (s8< (a1.length:Int)) then
  ((idx a1 s8).bind fun x10=>
  (tH x10).bind fun x12=>
  if x12 !=0 then
   (some (Lp.done (Fl.ret x12)))
  else
   (some (Lp.go (w64 (s8+1)))))
 else
  (some (Lp.done (Fl.nxt ())))
noncomputable def uW (a1:(List Term)):Int→Option (Fl Int Unit):=loop (vS a1)
noncomputable def xA (a1:(List Term)):Option Int:=
 (uW a1 0).bind (Fl.go some fun v15=>
 some 0)
noncomputable def uN (a1:Pack) (s54:Int):Option (Lp Int (Fl Int Unit)):=
 if decide (s54< (a1.Needs.length:Int)) then
  ((idx a1.Needs s54).bind fun x56=>
  if (x56.length:Int)==0 then
   (some (Lp.done (Fl.ret 1)))
  else
   ((xA x56).bind fun x59=>
   if x59 !=0 then
    (some (Lp.done (Fl.ret x59)))
   else
    (some (Lp.go (w64 (s54+1))))))
 else
  (some (Lp.done (Fl.nxt ())))
noncomputable def vC (a1:Pack):Int→Option (Fl Int Unit):=loop (uN a1)
noncomputable def uH (a1:Pack) (s32:Int):Option (Lp Int (Fl Int Unit)):=
 if decide (s32< (a1.Provides.length:Int)) then
  ((idx a1.Provides s32).bind fun x34=>
  (yY x34).bind fun x36=>
  if x36 !=0 then
   (some (Lp.done (Fl.ret x36)))
  else
   ((if seq x34 a1.Name then
      (some true)
     else
      ((zHc a1.Provides 0 s32).bind fun x40=>
      (yL x40 x34).bind fun x42=>
      some x42)).bind fun v44=>
   if v44 then
    (some (Lp.done (Fl.ret 6)))
   else
    (some (Lp.go (w64 (s32+1))))))
 else
  (some (Lp.done (Fl.nxt ())))
noncomputable def wY (a1:Pack):Int→Option (Fl Int Unit):=loop (uH a1)
noncomputable def tC (a1:Pack):Option Int:=
 (yY a1.Name).bind fun x2=>
 (yJ a1.Version).bind fun x4=>
 (uX [x2,x4]).bind fun x6=>
 if x6 !=0 then
  (some x6)
 else
  ((yN a1.Size 1 200).bind fun x9=>
  if !x9 then
   (some 3)
  else
   ((if decide ((a1.Provides.length:Int)>4) then
      (some true)
     else
      (if decide ((a1.Needs.length:Int)>4) then
       (some true)
      else
       (if decide ((a1.Bars.length:Int)>4) then
        (some true)
       else
        ((zI a1.Needs).bind fun x15=>
        some x15)))).bind fun v17=>
   if v17 then
    (some 2)
   else
    ((wY a1 0).bind (Fl.go some fun v46=>
    (vC a1 0).bind (Fl.go some fun v62=>
    (xA a1.Bars).bind fun x63=>
    some x63)))))
noncomputable def zAK (a1:Pack) (a2:ByteArray) (a3:Version):Option Bool:=
 if seq a1.Name a2 then
  (some (a1.Version.A==a3.A&&(a1.Version.B==a3.B&&(a1.Version.C==a3.C&&true))))
 else
  (some false)
noncomputable def zV (a1:(List Pack)) (a2:ByteArray) (a3:Version) (s10:Int):Option (Lp Int (Fl Int Unit)):=
 if decide (s10< (a1.length:Int)) then
  ((idx a1 s10).bind fun x12=>
  (zAK x12 a2 a3).bind fun x14=>
  if x14 then
   (some (Lp.done (Fl.ret s10)))
  else
   (some (Lp.go (w64 (s10+1)))))
 else
  (some (Lp.done (Fl.nxt ())))
noncomputable def zW (a1:(List Pack)) (a2:ByteArray) (a3:Version):Int→Option (Fl Int Unit):=loop (zV a1 a2 a3)
noncomputable def zS (a1:(List Pack)) (a2:ByteArray) (a3:Version):Option Int:=
 (zW a1 a2 a3 0).bind (Fl.go some fun v17=>
 some (-1))
noncomputable def zAL (a1:(List Pack)) (a2:ByteArray) (a3:Version):Option Int:=
 (zS a1 a2 a3).bind fun x4=>
 some x4
noncomputable def wC (a1:(List Pack)) (s14:Int):Option (Lp Int (Fl Int Unit)):=
 if decide (s14< (a1.length:Int)) then
  ((idx a1 s14).bind fun x16=>
  (tC x16).bind fun x18=>
  if x18 !=0 then
   (some (Lp.done (Fl.ret x18)))
  else
   ((zHc a1 0 s14).bind fun x21=>
   (zAL x21 x16.Name x16.Version).bind fun x23=>
   if decide (x23≥0) then
    (some (Lp.done (Fl.ret 6)))
   else
    (some (Lp.go (w64 (s14+1))))))
 else
  (some (Lp.done (Fl.nxt ())))
noncomputable def wR (a1:(List Pack)):Int→Option (Fl Int Unit):=loop (wC a1)
noncomputable def xX (a1:(List Pack)):Option Int:=
 if decide ((a1.length:Int)>24) then
  (some 2)
 else
  ((wR a1 0).bind (Fl.go some fun v26=>
  some 0))
noncomputable def bytealg_CompareString (a1 a2:ByteArray):Option Int:=some (zHL a1 a2)
noncomputable def strings_Compare (a1:ByteArray) (a2:ByteArray):Option Int:=
 (bytealg_CompareString a1 a2).bind fun x3=>
 some x3
noncomputable def xE (a1:File) (a2:ByteArray):Option Int:=
 (strings_Compare a1.Path a2).bind fun x3=>
 some x3
noncomputable def zR (a1:(List File)) (a2:ByteArray) (s9:(Int×Int)):Option (Lp (Int×Int) Int):=
 if decide (s9.1<s9.2) then
  ((idx a1 (w64 ((IntKind.u64.wrap (w64 (s9.1+s9.2))).fdiv (2^(min (1:Int).toNat 64))))).bind fun x11=>
  (xE x11 a2).bind fun x13=>
  if decide (x13<0) then
   (some (Lp.go (w64 ((w64 ((IntKind.u64.wrap (w64 (s9.1+s9.2))).fdiv (2^(min (1:Int).toNat 64))))+1),s9.2)))
  else
   (some (Lp.go (s9.1,w64 ((IntKind.u64.wrap (w64 (s9.1+s9.2))).fdiv (2^(min (1:Int).toNat 64)))))))
 else
  (some (Lp.done s9.1))
noncomputable def zM (a1:(List File)) (a2:ByteArray):(Int×Int)→Option Int:=loop (zR a1 a2)
noncomputable def zH (a1:(List File)) (a2:ByteArray):Option (Int×Bool):=
 (zM a1 a2 (0,(a1.length:Int))).bind fun v16=>
 if decide (v16< (a1.length:Int)) then
  ((idx a1 v16).bind fun x18=>
  (xE x18 a2).bind fun x20=>
  some (v16,x20==0))
 else
  (some (v16,false))
noncomputable def tY (a1:zC) (a2:ByteArray):Option (Int×Bool):=
 (zH a1.Files a2).bind fun x3=>
 some (x3.1,x3.2)
noncomputable def xV (a1:List File) (a2:Int) (a3:List File):Option (List File):=if 0≤a2∧a2≤a1.length∧0<a3.length∧a1.length+a3.length≤1099511627776 then some (a1.take a2.toNat++(a3++a1.drop a2.toNat)) else none
noncomputable def xL (a1:(List Int)):Option (List Int):=
 (app 1 ([]:List Int) a1).bind fun x3=>
 some x3
noncomputable def yO (a1:zC) (a2:ByteArray) (a3:(List Int)):Option zC:=
 (tY a1 a2).bind fun x4=>
 (if !x4.2 then
   ((xV a1.Files x4.1 [({Path:=a2,Data:=([]:List Int)}:File)]).bind fun x7=>
   some x7)
  else
   (some a1.Files)).bind fun v9=>
 (xL a3).bind fun x10=>
 (idx v9 x4.1).bind fun x12=>
 some ({Files:=v9.set x4.1.toNat ({Path:=x12.Path,Data:=x10}:File),Budget:=a1.Budget,Writes:=a1.Writes,Stop:=a1.Stop,Down:=a1.Down}:zC)
noncomputable def xW (a1 a2:Int):Option ByteArray:=if a2=10∧ -9223372036854775808≤a1∧a1≤9223372036854775807 then some ⟨(Lib.itoa a1).toArray⟩ else none
noncomputable def zBC (a1:Int):Option ByteArray:=
 (xW a1 10).bind fun x2=>
 some x2
noncomputable def strings_Repeat (a1:ByteArray) (a2:Int):Option ByteArray:=if 0≤a2∧a2≤9223372036854775807∧a1.size*a2.toNat≤140737488355328 then some ⟨(Lib.repeatL a1.data.toList a2.toNat).toArray⟩ else none
noncomputable def zAe (a1:Int):Option ByteArray:=
 (zBC a1).bind fun x2=>
 (strings_Repeat (bs [48]) (w64 (6-(x2.size:Int)))).bind fun x4=>
 (cat (bs [103,101,110,47]) x4).bind fun x6=>
 (cat x6 x2).bind fun x8=>
 some x8
noncomputable def jO (a1:Int):Option zZ:=
 (yN a1 0 20000).bind fun x2=>
 if !x2 then
  (some ({Code:=3,zC:=({Files:=([]:List File),Budget:=0,Writes:=0,Stop:=0,Down:=false}:zC)}:zZ))
 else
  (if a1==0 then
   (some ({Code:=8,zC:=({Files:=([]:List File),Budget:=0,Writes:=0,Stop:=0,Down:=false}:zC)}:zZ))
  else
   ((yO ({Files:=([]:List File),Budget:=a1,Writes:=0,Stop:=(-1),Down:=false}:zC) (bs [99,117,114]) [49]).bind fun x6=>
   (zAe 1).bind fun x8=>
   (yO x6 x8 ([]:List Int)).bind fun x10=>
   (yO x10 (bs [114,111,111,116,115]) ([]:List Int)).bind fun x12=>
   some ({Code:=0,zC:=x12}:zZ)))
noncomputable def yT (a1:(List ByteArray)):Option (List ByteArray):=
 (app 16 ([]:List ByteArray) a1).bind fun x3=>
 some x3
noncomputable def zX (a1:(List Term)):Option (List Term):=
 (app 64 ([]:List Term) a1).bind fun x3=>
 some x3
noncomputable def wN (a1:(List Pack)) (s27:((List Pack)×Int)) (x29:Pack) (x31:(List ByteArray)) (x33:(List Term)) (s42:((List (List Term))×Int)):Option (Lp ((List (List Term))×Int) (List (List Term))):=
 if decide (s42.2< (x29.Needs.length:Int)) then
  ((idx x29.Needs s42.2).bind fun x44=>
  (zX x44).bind fun x46=>
  (app 24 s42.1 [x46]).bind fun x48=>
  some (Lp.go (x48,w64 (s42.2+1))))
 else
  (some (Lp.done s42.1))
noncomputable def vK (a1:(List Pack)) (s27:((List Pack)×Int)) (x29:Pack) (x31:(List ByteArray)) (x33:(List Term)):((List (List Term))×Int)→Option (List (List Term)):=loop (wN a1 s27 x29 x31 x33)
noncomputable def wP (a1:(List Pack)) (s27:((List Pack)×Int)):Option (Lp ((List Pack)×Int) (List Pack)):=
 if decide (s27.2< (a1.length:Int)) then
  ((idx a1 s27.2).bind fun x29=>
  (yT x29.Provides).bind fun x31=>
  (zX x29.Bars).bind fun x33=>
  (vK a1 s27 x29 x31 x33 (([]:List (List Term)),0)).bind fun v50=>
  (app 120 s27.1 [({Name:=x29.Name,Version:=x29.Version,Size:=x29.Size,Provides:=x31,Needs:=v50,Bars:=x33}:Pack)]).bind fun x51=>
  some (Lp.go (x51,w64 (s27.2+1))))
 else
  (some (Lp.done s27.1))
noncomputable def vR (a1:(List Pack)):((List Pack)×Int)→Option (List Pack):=loop (wP a1)
noncomputable def wI (a1:(List Pack)):Option (List Pack):=
 (vR a1 (([]:List Pack),0)).bind fun v53=>
 some v53
noncomputable def xG (a1:(List Pack)) (a2:Int):Option zD:=
 (xX a1).bind fun x3=>
 if x3 !=0 then
  (some ({Code:=x3,Choices:=0,System:=({Catalog:=([]:List Pack),zC:=({Files:=([]:List File),Budget:=0,Writes:=0,Stop:=0,Down:=false}:zC)}:System)}:zD))
 else
  ((jO a2).bind fun x6=>
  if x6.Code !=0 then
   (some ({Code:=x6.Code,Choices:=0,System:=({Catalog:=([]:List Pack),zC:=({Files:=([]:List File),Budget:=0,Writes:=0,Stop:=0,Down:=false}:zC)}:System)}:zD))
  else
   ((wI a1).bind fun x9=>
   some ({Code:=0,Choices:=0,System:=({Catalog:=x9,zC:=x6.zC}:System)}:zD)))
noncomputable def yX (a1:Version) (a2:Version):Option Bool:=
 if a1.A !=a2.A then
  (some false)
 else
  (if a1.B !=a2.B then
   (some false)
  else
   (if a1.C !=a2.C then
    (some false)
   else
    (some true)))
noncomputable def kN (a1:(List ByteArray)) (a2:(List ByteArray)) (s10:Int):Option (Lp Int (Fl Bool Unit)):=
 if decide (s10< (a1.length:Int)) then
  ((idx a1 s10).bind fun x12=>
  (idx a2 s10).bind fun x14=>
  if !(seq x12 x14) then
   (some (Lp.done (Fl.ret false)))
  else
   (some (Lp.go (w64 (s10+1)))))
 else
  (some (Lp.done (Fl.nxt ())))
noncomputable def tT (a1:(List ByteArray)) (a2:(List ByteArray)):Int→Option (Fl Bool Unit):=loop (kN a1 a2)
noncomputable def uZ (a1:(List ByteArray)) (a2:(List ByteArray)):Option Bool:=
 if (a1.length:Int) !=(a2.length:Int) then
  (some false)
 else
  ((tT a1 a2 0).bind (Fl.go some fun v17=>
  some true))
noncomputable def zAC (a1:Term) (a2:Term):Option Bool:=
 if !(seq a1.Name a2.Name) then
  (some false)
 else
  ((yX a1.Low a2.Low).bind fun x4=>
  if !x4 then
   (some false)
  else
   ((yX a1.High a2.High).bind fun x7=>
   if !x7 then
    (some false)
   else
    (some true)))
noncomputable def zA1 (a1:(List Term)) (a2:(List Term)) (s12:Int):Option (Lp Int (Fl Bool Unit)):=
 if decide (s12< (a1.length:Int)) then
  ((idx a1 s12).bind fun x14=>
  (idx a2 s12).bind fun x16=>
  (zAC x14 x16).bind fun x18=>
  if !x18 then
   (some (Lp.done (Fl.ret false)))
  else
   (some (Lp.go (w64 (s12+1)))))
 else
  (some (Lp.done (Fl.nxt ())))
noncomputable def kR (a1:(List Term)) (a2:(List Term)):Int→Option (Fl Bool Unit):=loop (zA1 a1 a2)
noncomputable def uF (a1:(List Term)) (a2:(List Term)):Option Bool:=
 if (a1.length:Int) !=(a2.length:Int) then
  (some false)
 else
  ((kR a1 a2 0).bind (Fl.go some fun v21=>
  some true))
noncomputable def zAm (a1:(List (List Term))) (a2:(List (List Term))) (s12:Int):Option (Lp Int (Fl Bool Unit)):=
 if decide (s12< (a1.length:Int)) then
  ((idx a1 s12).bind fun x14=>
  (idx a2 s12).bind fun x16=>
  (uF x14 x16).bind fun x18=>
  if !x18 then
   (some (Lp.done (Fl.ret false)))
  else
   (some (Lp.go (w64 (s12+1)))))
 else
  (some (Lp.done (Fl.nxt ())))
noncomputable def jW (a1:(List (List Term))) (a2:(List (List Term))):Int→Option (Fl Bool Unit):=loop (zAm a1 a2)
noncomputable def jQ (a1:(List (List Term))) (a2:(List (List Term))):Option Bool:=
 if (a1.length:Int) !=(a2.length:Int) then
  (some false)
 else
  ((jW a1 a2 0).bind (Fl.go some fun v21=>
  some true))
noncomputable def zA7 (a1:Pack) (a2:Pack):Option Bool:=
 if !(seq a1.Name a2.Name) then
  (some false)
 else
  ((yX a1.Version a2.Version).bind fun x4=>
  if !x4 then
   (some false)
  else
   (if a1.Size !=a2.Size then
    (some false)
   else
    ((uZ a1.Provides a2.Provides).bind fun x8=>
    if !x8 then
     (some false)
    else
     ((jQ a1.Needs a2.Needs).bind fun x11=>
     if !x11 then
      (some false)
     else
      ((uF a1.Bars a2.Bars).bind fun x14=>
      if !x14 then
       (some false)
      else
       (some true))))))
noncomputable def zA2 (a1:(List Pack)) (a2:(List Pack)) (s12:Int):Option (Lp Int (Fl Bool Unit)):=
 if decide (s12< (a1.length:Int)) then
  ((idx a1 s12).bind fun x14=>
  (idx a2 s12).bind fun x16=>
  (zA7 x14 x16).bind fun x18=>
  if !x18 then
   (some (Lp.done (Fl.ret false)))
  else
   (some (Lp.go (w64 (s12+1)))))
 else
  (some (Lp.done (Fl.nxt ())))
noncomputable def kV (a1:(List Pack)) (a2:(List Pack)):Int→Option (Fl Bool Unit):=loop (zA2 a1 a2)
noncomputable def uS (a1:(List Pack)) (a2:(List Pack)):Option Bool:=
 if (a1.length:Int) !=(a2.length:Int) then
  (some false)
 else
  ((kV a1 a2 0).bind (Fl.go some fun v21=>
  some true))
noncomputable def zA3 (a1:(List Int)) (a2:(List Int)) (s10:Int):Option (Lp Int (Fl Bool Unit)):=
 if decide (s10< (a1.length:Int)) then
  ((idx a1 s10).bind fun x12=>
  (idx a2 s10).bind fun x14=>
  if x12 !=x14 then
   (some (Lp.done (Fl.ret false)))
  else
   (some (Lp.go (w64 (s10+1)))))
 else
  (some (Lp.done (Fl.nxt ())))
noncomputable def zAa (a1:(List Int)) (a2:(List Int)):Int→Option (Fl Bool Unit):=loop (zA3 a1 a2)
noncomputable def zAi (a1:(List Int)) (a2:(List Int)):Option Bool:=
 if (a1.length:Int) !=(a2.length:Int) then
  (some false)
 else
  ((zAa a1 a2 0).bind (Fl.go some fun v17=>
  some true))
noncomputable def zAD (a1:File) (a2:File):Option Bool:=
 if !(seq a1.Path a2.Path) then
  (some false)
 else
  ((zAi a1.Data a2.Data).bind fun x4=>
  if !x4 then
   (some false)
  else
   (some true))
noncomputable def zAz (a1:(List File)) (a2:(List File)) (s12:Int):Option (Lp Int (Fl Bool Unit)):=
 if decide (s12< (a1.length:Int)) then
  ((idx a1 s12).bind fun x14=>
  (idx a2 s12).bind fun x16=>
  (zAD x14 x16).bind fun x18=>
  if !x18 then
   (some (Lp.done (Fl.ret false)))
  else
   (some (Lp.go (w64 (s12+1)))))
 else
  (some (Lp.done (Fl.nxt ())))
noncomputable def kT (a1:(List File)) (a2:(List File)):Int→Option (Fl Bool Unit):=loop (zAz a1 a2)
noncomputable def kX (a1:(List File)) (a2:(List File)):Option Bool:=
 if (a1.length:Int) !=(a2.length:Int) then
  (some false)
 else
  ((kT a1 a2 0).bind (Fl.go some fun v21=>
  some true))
noncomputable def zAB (a1:zC) (a2:zC):Option Bool:=
 (kX a1.Files a2.Files).bind fun x3=>
 if !x3 then
  (some false)
 else
  (if a1.Budget !=a2.Budget then
   (some false)
  else
   (if a1.Writes !=a2.Writes then
    (some false)
   else
    (if a1.Stop !=a2.Stop then
     (some false)
    else
     (if !(a1.Down==a2.Down) then
      (some false)
     else
      (some true)))))
noncomputable def jS (a1:System) (a2:System):Option Bool:=
 (uS a1.Catalog a2.Catalog).bind fun x3=>
 if !x3 then
  (some false)
 else
  ((zAB a1.zC a2.zC).bind fun x6=>
  if !x6 then
   (some false)
  else
   (some true))
noncomputable def yC (a1:zD) (a2:zD):Option Bool:=
 if a1.Code !=a2.Code then
  (some false)
 else
  (if a1.Choices !=a2.Choices then
   (some false)
  else
   ((jS a1.System a2.System).bind fun x5=>
   if !x5 then
    (some false)
   else
    (some true)))
noncomputable def zAn (s6:(Int×ByteArray)):Option (Lp (Int×ByteArray) ByteArray):=
 if decide (s6.1>0) then
  ((cat (b2s [IntKind.u8.wrap (w64 (48+(s6.1.tmod 10)))]) s6.2).bind fun x8=>
  some (Lp.go (w64 (s6.1.tdiv 10),x8)))
 else
  (some (Lp.done s6.2))
noncomputable def kE:(Int×ByteArray)→Option ByteArray:=loop zAn
noncomputable def zT (a1:Int):Option ByteArray:=
 if decide (a1≤0) then
  (some (bs [109,48]))
 else
  ((kE (a1,bs [])).bind fun v10=>
  (cat (bs [109]) v10).bind fun x11=>
  some x11)
noncomputable def wB (s8:((List ByteArray)×Int×Int)):Option (Lp ((List ByteArray)×Int×Int) ((List ByteArray)×Int)):=
 if decide (s8.2.2< (s8.1.length:Int)) then
  ((zT s8.2.1).bind fun x10=>
  (idx s8.1 s8.2.2).bind fun x12=>
  some (Lp.go (s8.1.set s8.2.2.toNat x10,w64 (s8.2.1+1),w64 (s8.2.2+1))))
 else
  (some (Lp.done (s8.1,s8.2.1)))
noncomputable def wM:((List ByteArray)×Int×Int)→Option ((List ByteArray)×Int):=loop wB
noncomputable def xU (a1:(List ByteArray)) (a2:Int):Option (Int×(List ByteArray)):=
 (wM (a1,a2,0)).bind fun v14=>
 some (v14.2,v14.1)
noncomputable def vE (s20:((List Term)×Int×Int)):Option (Lp ((List Term)×Int×Int) ((List Term)×Int)):=
 if decide (s20.2.2< (s20.1.length:Int)) then
  ((zT s20.2.1).bind fun x22=>
  (idx s20.1 s20.2.2).bind fun x24=>
  (idx (s20.1.set s20.2.2.toNat ({Name:=x22,Low:=x24.Low,High:=x24.High}:Term)) s20.2.2).bind fun x26=>
  (idx ((s20.1.set s20.2.2.toNat ({Name:=x22,Low:=x24.Low,High:=x24.High}:Term)).set s20.2.2.toNat ({Name:=x26.Name,Low:=({A:=w64 (s20.2.1+1),B:=x26.Low.B,C:=x26.Low.C}:Version),High:=x26.High}:Term)) s20.2.2).bind fun x28=>
  (idx (((s20.1.set s20.2.2.toNat ({Name:=x22,Low:=x24.Low,High:=x24.High}:Term)).set s20.2.2.toNat ({Name:=x26.Name,Low:=({A:=w64 (s20.2.1+1),B:=x26.Low.B,C:=x26.Low.C}:Version),High:=x26.High}:Term)).set s20.2.2.toNat ({Name:=x28.Name,Low:=({A:=x28.Low.A,B:=w64 ((w64 (s20.2.1+1))+1),C:=x28.Low.C}:Version),High:=x28.High}:Term)) s20.2.2).bind fun x30=>
  (idx ((((s20.1.set s20.2.2.toNat ({Name:=x22,Low:=x24.Low,High:=x24.High}:Term)).set s20.2.2.toNat ({Name:=x26.Name,Low:=({A:=w64 (s20.2.1+1),B:=x26.Low.B,C:=x26.Low.C}:Version),High:=x26.High}:Term)).set s20.2.2.toNat ({Name:=x28.Name,Low:=({A:=x28.Low.A,B:=w64 ((w64 (s20.2.1+1))+1),C:=x28.Low.C}:Version),High:=x28.High}:Term)).set s20.2.2.toNat ({Name:=x30.Name,Low:=({A:=x30.Low.A,B:=x30.Low.B,C:=w64 ((w64 ((w64 (s20.2.1+1))+1))+1)}:Version),High:=x30.High}:Term)) s20.2.2).bind fun x32=>
  (idx (((((s20.1.set s20.2.2.toNat ({Name:=x22,Low:=x24.Low,High:=x24.High}:Term)).set s20.2.2.toNat ({Name:=x26.Name,Low:=({A:=w64 (s20.2.1+1),B:=x26.Low.B,C:=x26.Low.C}:Version),High:=x26.High}:Term)).set s20.2.2.toNat ({Name:=x28.Name,Low:=({A:=x28.Low.A,B:=w64 ((w64 (s20.2.1+1))+1),C:=x28.Low.C}:Version),High:=x28.High}:Term)).set s20.2.2.toNat ({Name:=x30.Name,Low:=({A:=x30.Low.A,B:=x30.Low.B,C:=w64 ((w64 ((w64 (s20.2.1+1))+1))+1)}:Version),High:=x30.High}:Term)).set s20.2.2.toNat ({Name:=x32.Name,Low:=x32.Low,High:=({A:=w64 ((w64 ((w64 ((w64 (s20.2.1+1))+1))+1))+1),B:=x32.High.B,C:=x32.High.C}:Version)}:Term)) s20.2.2).bind fun x34=>
  (idx ((((((s20.1.set s20.2.2.toNat ({Name:=x22,Low:=x24.Low,High:=x24.High}:Term)).set s20.2.2.toNat ({Name:=x26.Name,Low:=({A:=w64 (s20.2.1+1),B:=x26.Low.B,C:=x26.Low.C}:Version),High:=x26.High}:Term)).set s20.2.2.toNat ({Name:=x28.Name,Low:=({A:=x28.Low.A,B:=w64 ((w64 (s20.2.1+1))+1),C:=x28.Low.C}:Version),High:=x28.High}:Term)).set s20.2.2.toNat ({Name:=x30.Name,Low:=({A:=x30.Low.A,B:=x30.Low.B,C:=w64 ((w64 ((w64 (s20.2.1+1))+1))+1)}:Version),High:=x30.High}:Term)).set s20.2.2.toNat ({Name:=x32.Name,Low:=x32.Low,High:=({A:=w64 ((w64 ((w64 ((w64 (s20.2.1+1))+1))+1))+1),B:=x32.High.B,C:=x32.High.C}:Version)}:Term)).set s20.2.2.toNat ({Name:=x34.Name,Low:=x34.Low,High:=({A:=x34.High.A,B:=w64 ((w64 ((w64 ((w64 ((w64 (s20.2.1+1))+1))+1))+1))+1),C:=x34.High.C}:Version)}:Term)) s20.2.2).bind fun x36=>
  some (Lp.go (((((((s20.1.set s20.2.2.toNat ({Name:=x22,Low:=x24.Low,High:=x24.High}:Term)).set s20.2.2.toNat ({Name:=x26.Name,Low:=({A:=w64 (s20.2.1+1),B:=x26.Low.B,C:=x26.Low.C}:Version),High:=x26.High}:Term)).set s20.2.2.toNat ({Name:=x28.Name,Low:=({A:=x28.Low.A,B:=w64 ((w64 (s20.2.1+1))+1),C:=x28.Low.C}:Version),High:=x28.High}:Term)).set s20.2.2.toNat ({Name:=x30.Name,Low:=({A:=x30.Low.A,B:=x30.Low.B,C:=w64 ((w64 ((w64 (s20.2.1+1))+1))+1)}:Version),High:=x30.High}:Term)).set s20.2.2.toNat ({Name:=x32.Name,Low:=x32.Low,High:=({A:=w64 ((w64 ((w64 ((w64 (s20.2.1+1))+1))+1))+1),B:=x32.High.B,C:=x32.High.C}:Version)}:Term)).set s20.2.2.toNat ({Name:=x34.Name,Low:=x34.Low,High:=({A:=x34.High.A,B:=w64 ((w64 ((w64 ((w64 ((w64 (s20.2.1+1))+1))+1))+1))+1),C:=x34.High.C}:Version)}:Term)).set s20.2.2.toNat ({Name:=x36.Name,Low:=x36.Low,High:=({A:=x36.High.A,B:=x36.High.B,C:=w64 ((w64 ((w64 ((w64 ((w64 ((w64 (s20.2.1+1))+1))+1))+1))+1))+1)}:Version)}:Term),w64 ((w64 ((w64 ((w64 ((w64 ((w64 ((w64 (s20.2.1+1))+1))+1))+1))+1))+1))+1),w64 (s20.2.2+1))))
 else
  (some (Lp.done (s20.1,s20.2.1)))
noncomputable def uD:((List Term)×Int×Int)→Option ((List Term)×Int):=loop vE
noncomputable def xJ (a1:(List Term)) (a2:Int):Option (Int×(List Term)):=
 (uD (a1,a2,0)).bind fun v38=>
 some (v38.2,v38.1)
noncomputable def wL (s10:((List (List Term))×Int×Int)):Option (Lp ((List (List Term))×Int×Int) ((List (List Term))×Int)):=
 if decide (s10.2.2< (s10.1.length:Int)) then
  ((idx s10.1 s10.2.2).bind fun x12=>
  (xJ x12 s10.2.1).bind fun x14=>
  (same x14.2 x12).bind fun u16=>
  some (Lp.go (s10.1.set s10.2.2.toNat x14.2,x14.1,w64 (s10.2.2+1))))
 else
  (some (Lp.done (s10.1,s10.2.1)))
noncomputable def vI:((List (List Term))×Int×Int)→Option ((List (List Term))×Int):=loop wL
noncomputable def wG (a1:(List (List Term))) (a2:Int):Option (Int×(List (List Term))):=
 (vI (a1,a2,0)).bind fun v18=>
 some (v18.2,v18.1)
noncomputable def vN (s34:((List Pack)×Int×Int)):Option (Lp ((List Pack)×Int×Int) ((List Pack)×Int)):=
 if decide (s34.2.2< (s34.1.length:Int)) then
  ((zT s34.2.1).bind fun x36=>
  (idx s34.1 s34.2.2).bind fun x38=>
  (idx (s34.1.set s34.2.2.toNat ({Name:=x36,Version:=x38.Version,Size:=x38.Size,Provides:=x38.Provides,Needs:=x38.Needs,Bars:=x38.Bars}:Pack)) s34.2.2).bind fun x40=>
  (idx ((s34.1.set s34.2.2.toNat ({Name:=x36,Version:=x38.Version,Size:=x38.Size,Provides:=x38.Provides,Needs:=x38.Needs,Bars:=x38.Bars}:Pack)).set s34.2.2.toNat ({Name:=x40.Name,Version:=({A:=w64 (s34.2.1+1),B:=x40.Version.B,C:=x40.Version.C}:Version),Size:=x40.Size,Provides:=x40.Provides,Needs:=x40.Needs,Bars:=x40.Bars}:Pack)) s34.2.2).bind fun x42=>
  (idx (((s34.1.set s34.2.2.toNat ({Name:=x36,Version:=x38.Version,Size:=x38.Size,Provides:=x38.Provides,Needs:=x38.Needs,Bars:=x38.Bars}:Pack)).set s34.2.2.toNat ({Name:=x40.Name,Version:=({A:=w64 (s34.2.1+1),B:=x40.Version.B,C:=x40.Version.C}:Version),Size:=x40.Size,Provides:=x40.Provides,Needs:=x40.Needs,Bars:=x40.Bars}:Pack)).set s34.2.2.toNat ({Name:=x42.Name,Version:=({A:=x42.Version.A,B:=w64 ((w64 (s34.2.1+1))+1),C:=x42.Version.C}:Version),Size:=x42.Size,Provides:=x42.Provides,Needs:=x42.Needs,Bars:=x42.Bars}:Pack)) s34.2.2).bind fun x44=>
  (idx ((((s34.1.set s34.2.2.toNat ({Name:=x36,Version:=x38.Version,Size:=x38.Size,Provides:=x38.Provides,Needs:=x38.Needs,Bars:=x38.Bars}:Pack)).set s34.2.2.toNat ({Name:=x40.Name,Version:=({A:=w64 (s34.2.1+1),B:=x40.Version.B,C:=x40.Version.C}:Version),Size:=x40.Size,Provides:=x40.Provides,Needs:=x40.Needs,Bars:=x40.Bars}:Pack)).set s34.2.2.toNat ({Name:=x42.Name,Version:=({A:=x42.Version.A,B:=w64 ((w64 (s34.2.1+1))+1),C:=x42.Version.C}:Version),Size:=x42.Size,Provides:=x42.Provides,Needs:=x42.Needs,Bars:=x42.Bars}:Pack)).set s34.2.2.toNat ({Name:=x44.Name,Version:=({A:=x44.Version.A,B:=x44.Version.B,C:=w64 ((w64 ((w64 (s34.2.1+1))+1))+1)}:Version),Size:=x44.Size,Provides:=x44.Provides,Needs:=x44.Needs,Bars:=x44.Bars}:Pack)) s34.2.2).bind fun x46=>
  (idx (((((s34.1.set s34.2.2.toNat ({Name:=x36,Version:=x38.Version,Size:=x38.Size,Provides:=x38.Provides,Needs:=x38.Needs,Bars:=x38.Bars}:Pack)).set s34.2.2.toNat ({Name:=x40.Name,Version:=({A:=w64 (s34.2.1+1),B:=x40.Version.B,C:=x40.Version.C}:Version),Size:=x40.Size,Provides:=x40.Provides,Needs:=x40.Needs,Bars:=x40.Bars}:Pack)).set s34.2.2.toNat ({Name:=x42.Name,Version:=({A:=x42.Version.A,B:=w64 ((w64 (s34.2.1+1))+1),C:=x42.Version.C}:Version),Size:=x42.Size,Provides:=x42.Provides,Needs:=x42.Needs,Bars:=x42.Bars}:Pack)).set s34.2.2.toNat ({Name:=x44.Name,Version:=({A:=x44.Version.A,B:=x44.Version.B,C:=w64 ((w64 ((w64 (s34.2.1+1))+1))+1)}:Version),Size:=x44.Size,Provides:=x44.Provides,Needs:=x44.Needs,Bars:=x44.Bars}:Pack)).set s34.2.2.toNat ({Name:=x46.Name,Version:=x46.Version,Size:=w64 ((w64 ((w64 ((w64 (s34.2.1+1))+1))+1))+1),Provides:=x46.Provides,Needs:=x46.Needs,Bars:=x46.Bars}:Pack)) s34.2.2).bind fun x48=>
  (xU x48.Provides (w64 ((w64 ((w64 ((w64 ((w64 (s34.2.1+1))+1))+1))+1))+1))).bind fun x50=>
  (same x50.2 x48.Provides).bind fun u52=>
  (idx ((((((s34.1.set s34.2.2.toNat ({Name:=x36,Version:=x38.Version,Size:=x38.Size,Provides:=x38.Provides,Needs:=x38.Needs,Bars:=x38.Bars}:Pack)).set s34.2.2.toNat ({Name:=x40.Name,Version:=({A:=w64 (s34.2.1+1),B:=x40.Version.B,C:=x40.Version.C}:Version),Size:=x40.Size,Provides:=x40.Provides,Needs:=x40.Needs,Bars:=x40.Bars}:Pack)).set s34.2.2.toNat ({Name:=x42.Name,Version:=({A:=x42.Version.A,B:=w64 ((w64 (s34.2.1+1))+1),C:=x42.Version.C}:Version),Size:=x42.Size,Provides:=x42.Provides,Needs:=x42.Needs,Bars:=x42.Bars}:Pack)).set s34.2.2.toNat ({Name:=x44.Name,Version:=({A:=x44.Version.A,B:=x44.Version.B,C:=w64 ((w64 ((w64 (s34.2.1+1))+1))+1)}:Version),Size:=x44.Size,Provides:=x44.Provides,Needs:=x44.Needs,Bars:=x44.Bars}:Pack)).set s34.2.2.toNat ({Name:=x46.Name,Version:=x46.Version,Size:=w64 ((w64 ((w64 ((w64 (s34.2.1+1))+1))+1))+1),Provides:=x46.Provides,Needs:=x46.Needs,Bars:=x46.Bars}:Pack)).set s34.2.2.toNat ({Name:=x48.Name,Version:=x48.Version,Size:=x48.Size,Provides:=x50.2,Needs:=x48.Needs,Bars:=x48.Bars}:Pack)) s34.2.2).bind fun x54=>
  (wG x54.Needs x50.1).bind fun x56=>
  (same x56.2 x54.Needs).bind fun u58=>
  (idx (((((((s34.1.set s34.2.2.toNat ({Name:=x36,Version:=x38.Version,Size:=x38.Size,Provides:=x38.Provides,Needs:=x38.Needs,Bars:=x38.Bars}:Pack)).set s34.2.2.toNat ({Name:=x40.Name,Version:=({A:=w64 (s34.2.1+1),B:=x40.Version.B,C:=x40.Version.C}:Version),Size:=x40.Size,Provides:=x40.Provides,Needs:=x40.Needs,Bars:=x40.Bars}:Pack)).set s34.2.2.toNat ({Name:=x42.Name,Version:=({A:=x42.Version.A,B:=w64 ((w64 (s34.2.1+1))+1),C:=x42.Version.C}:Version),Size:=x42.Size,Provides:=x42.Provides,Needs:=x42.Needs,Bars:=x42.Bars}:Pack)).set s34.2.2.toNat ({Name:=x44.Name,Version:=({A:=x44.Version.A,B:=x44.Version.B,C:=w64 ((w64 ((w64 (s34.2.1+1))+1))+1)}:Version),Size:=x44.Size,Provides:=x44.Provides,Needs:=x44.Needs,Bars:=x44.Bars}:Pack)).set s34.2.2.toNat ({Name:=x46.Name,Version:=x46.Version,Size:=w64 ((w64 ((w64 ((w64 (s34.2.1+1))+1))+1))+1),Provides:=x46.Provides,Needs:=x46.Needs,Bars:=x46.Bars}:Pack)).set s34.2.2.toNat ({Name:=x48.Name,Version:=x48.Version,Size:=x48.Size,Provides:=x50.2,Needs:=x48.Needs,Bars:=x48.Bars}:Pack)).set s34.2.2.toNat ({Name:=x54.Name,Version:=x54.Version,Size:=x54.Size,Provides:=x54.Provides,Needs:=x56.2,Bars:=x54.Bars}:Pack)) s34.2.2).bind fun x60=>
  (xJ x60.Bars x56.1).bind fun x62=>
  (same x62.2 x60.Bars).bind fun u64=>
  some (Lp.go ((((((((s34.1.set s34.2.2.toNat ({Name:=x36,Version:=x38.Version,Size:=x38.Size,Provides:=x38.Provides,Needs:=x38.Needs,Bars:=x38.Bars}:Pack)).set s34.2.2.toNat ({Name:=x40.Name,Version:=({A:=w64 (s34.2.1+1),B:=x40.Version.B,C:=x40.Version.C}:Version),Size:=x40.Size,Provides:=x40.Provides,Needs:=x40.Needs,Bars:=x40.Bars}:Pack)).set s34.2.2.toNat ({Name:=x42.Name,Version:=({A:=x42.Version.A,B:=w64 ((w64 (s34.2.1+1))+1),C:=x42.Version.C}:Version),Size:=x42.Size,Provides:=x42.Provides,Needs:=x42.Needs,Bars:=x42.Bars}:Pack)).set s34.2.2.toNat ({Name:=x44.Name,Version:=({A:=x44.Version.A,B:=x44.Version.B,C:=w64 ((w64 ((w64 (s34.2.1+1))+1))+1)}:Version),Size:=x44.Size,Provides:=x44.Provides,Needs:=x44.Needs,Bars:=x44.Bars}:Pack)).set s34.2.2.toNat ({Name:=x46.Name,Version:=x46.Version,Size:=w64 ((w64 ((w64 ((w64 (s34.2.1+1))+1))+1))+1),Provides:=x46.Provides,Needs:=x46.Needs,Bars:=x46.Bars}:Pack)).set s34.2.2.toNat ({Name:=x48.Name,Version:=x48.Version,Size:=x48.Size,Provides:=x50.2,Needs:=x48.Needs,Bars:=x48.Bars}:Pack)).set s34.2.2.toNat ({Name:=x54.Name,Version:=x54.Version,Size:=x54.Size,Provides:=x54.Provides,Needs:=x56.2,Bars:=x54.Bars}:Pack)).set s34.2.2.toNat ({Name:=x60.Name,Version:=x60.Version,Size:=x60.Size,Provides:=x60.Provides,Needs:=x60.Needs,Bars:=x62.2}:Pack),x62.1,w64 (s34.2.2+1))))
 else
  (some (Lp.done (s34.1,s34.2.1)))
noncomputable def uR:((List Pack)×Int×Int)→Option ((List Pack)×Int):=loop vN
noncomputable def xK (a1:(List Pack)) (a2:Int):Option (Int×(List Pack)):=
 (uR (a1,a2,0)).bind fun v66=>
 some (v66.2,v66.1)
noncomputable def vT (s6:((List Int)×Int×Int)):Option (Lp ((List Int)×Int×Int) ((List Int)×Int)):=
 if decide (s6.2.2< (s6.1.length:Int)) then
  ((idx s6.1 s6.2.2).bind fun x8=>
  some (Lp.go (s6.1.set s6.2.2.toNat (IntKind.u8.wrap (s6.2.1)),w64 (s6.2.1+1),w64 (s6.2.2+1))))
 else
  (some (Lp.done (s6.1,s6.2.1)))
noncomputable def uE:((List Int)×Int×Int)→Option ((List Int)×Int):=loop vT
noncomputable def vU (a1:(List Int)) (a2:Int):Option (Int×(List Int)):=
 (uE (a1,a2,0)).bind fun v10=>
 some (v10.2,v10.1)
noncomputable def vQ (s14:((List File)×Int×Int)):Option (Lp ((List File)×Int×Int) ((List File)×Int)):=
 if decide (s14.2.2< (s14.1.length:Int)) then
  ((zT s14.2.1).bind fun x16=>
  (idx s14.1 s14.2.2).bind fun x18=>
  (idx (s14.1.set s14.2.2.toNat ({Path:=x16,Data:=x18.Data}:File)) s14.2.2).bind fun x20=>
  (vU x20.Data (w64 (s14.2.1+1))).bind fun x22=>
  (same x22.2 x20.Data).bind fun u24=>
  some (Lp.go ((s14.1.set s14.2.2.toNat ({Path:=x16,Data:=x18.Data}:File)).set s14.2.2.toNat ({Path:=x20.Path,Data:=x22.2}:File),x22.1,w64 (s14.2.2+1))))
 else
  (some (Lp.done (s14.1,s14.2.1)))
noncomputable def vZ:((List File)×Int×Int)→Option ((List File)×Int):=loop vQ
noncomputable def vO (a1:(List File)) (a2:Int):Option (Int×(List File)):=
 (vZ (a1,a2,0)).bind fun v26=>
 some (v26.2,v26.1)
noncomputable def tJ (a1:zC) (a2:Int):Option (Int×(List File)):=
 (vO a1.Files a2).bind fun x3=>
 (same x3.2 a1.Files).bind fun u5=>
 some (x3.1,x3.2)
noncomputable def wJ (a1:System) (a2:Int):Option (Int×(List Pack)×(List File)):=
 (xK a1.Catalog a2).bind fun x3=>
 (same x3.2 a1.Catalog).bind fun u5=>
 (tJ a1.zC x3.1).bind fun x7=>
 (same x7.2 a1.zC.Files).bind fun u9=>
 some (x7.1,x3.2,x7.2)
noncomputable def yM (a1:zD) (a2:Int):Option (Int×(List Pack)×(List File)):=
 (wJ a1.System a2).bind fun x3=>
 (same x3.2.1 a1.System.Catalog).bind fun u5=>
 (same x3.2.2 a1.System.zC.Files).bind fun u7=>
 some (x3.1,x3.2.1,x3.2.2)
noncomputable def wQ (a1:(List ByteArray)) (s9:(Int×Int)):Option (Lp (Int×Int) (Fl Int Int)):=
 if decide (s9.2< (a1.length:Int)) then
  ((idx a1 s9.2).bind fun x11=>
  (zT s9.1).bind fun x13=>
  if !(seq x11 x13) then
   (some (Lp.done (Fl.ret (-1))))
  else
   (some (Lp.go (w64 (s9.1+1),w64 (s9.2+1)))))
 else
  (some (Lp.done (Fl.nxt s9.1)))
noncomputable def vJ (a1:(List ByteArray)):(Int×Int)→Option (Fl Int Int):=loop (wQ a1)
noncomputable def wK (a1:(List ByteArray)) (a2:Int):Option Int:=
 (vJ a1 (a2,0)).bind (Fl.go some fun v16=>
 some v16)
noncomputable def uJ (a1:(List Term)) (s27:(Int×Int)):Option (Lp (Int×Int) (Fl Int Int)):=
 if decide (s27.2< (a1.length:Int)) then
  ((idx a1 s27.2).bind fun x29=>
  (zT s27.1).bind fun x31=>
  if !(seq x29.Name x31) then
   (some (Lp.done (Fl.ret (-1))))
  else
   ((idx a1 s27.2).bind fun x34=>
   if x34.Low.A !=(w64 (s27.1+1)) then
    (some (Lp.done (Fl.ret (-1))))
   else
    ((idx a1 s27.2).bind fun x37=>
    if x37.Low.B !=(w64 ((w64 (s27.1+1))+1)) then
     (some (Lp.done (Fl.ret (-1))))
    else
     ((idx a1 s27.2).bind fun x40=>
     if x40.Low.C !=(w64 ((w64 ((w64 (s27.1+1))+1))+1)) then
      (some (Lp.done (Fl.ret (-1))))
     else
      ((idx a1 s27.2).bind fun x43=>
      if x43.High.A !=(w64 ((w64 ((w64 ((w64 (s27.1+1))+1))+1))+1)) then
       (some (Lp.done (Fl.ret (-1))))
      else
       ((idx a1 s27.2).bind fun x46=>
       if x46.High.B !=(w64 ((w64 ((w64 ((w64 ((w64 (s27.1+1))+1))+1))+1))+1)) then
        (some (Lp.done (Fl.ret (-1))))
       else
        ((idx a1 s27.2).bind fun x49=>
        if x49.High.C !=(w64 ((w64 ((w64 ((w64 ((w64 ((w64 (s27.1+1))+1))+1))+1))+1))+1)) then
         (some (Lp.done (Fl.ret (-1))))
        else
         (some (Lp.go (w64 ((w64 ((w64 ((w64 ((w64 ((w64 ((w64 (s27.1+1))+1))+1))+1))+1))+1))+1),w64 (s27.2+1)))))))))))
 else
  (some (Lp.done (Fl.nxt s27.1)))
noncomputable def jA (a1:(List Term)):(Int×Int)→Option (Fl Int Int):=loop (uJ a1)
noncomputable def xZ (a1:(List Term)) (a2:Int):Option Int:=
 (jA a1 (a2,0)).bind (Fl.go some fun v52=>
 some v52)
noncomputable def vG (a1:(List (List Term))) (s9:(Int×Int)):Option (Lp (Int×Int) (Fl Int Int)):=
 if decide (s9.2< (a1.length:Int)) then
  ((idx a1 s9.2).bind fun x11=>
  (xZ x11 s9.1).bind fun x13=>
  if decide (x13<0) then
   (some (Lp.done (Fl.ret (-1))))
  else
   (some (Lp.go (x13,w64 (s9.2+1)))))
 else
  (some (Lp.done (Fl.nxt s9.1)))
noncomputable def uG (a1:(List (List Term))):(Int×Int)→Option (Fl Int Int):=loop (vG a1)
noncomputable def vM (a1:(List (List Term))) (a2:Int):Option Int:=
 (uG a1 (a2,0)).bind (Fl.go some fun v16=>
 some v16)
noncomputable def uI (a1:(List Pack)) (s36:(Int×Int)):Option (Lp (Int×Int) (Fl Int Int)):=
 if decide (s36.2< (a1.length:Int)) then
  ((idx a1 s36.2).bind fun x38=>
  (zT s36.1).bind fun x40=>
  if !(seq x38.Name x40) then
   (some (Lp.done (Fl.ret (-1))))
  else
   ((idx a1 s36.2).bind fun x43=>
   if x43.Version.A !=(w64 (s36.1+1)) then
    (some (Lp.done (Fl.ret (-1))))
   else
    ((idx a1 s36.2).bind fun x46=>
    if x46.Version.B !=(w64 ((w64 (s36.1+1))+1)) then
     (some (Lp.done (Fl.ret (-1))))
    else
     ((idx a1 s36.2).bind fun x49=>
     if x49.Version.C !=(w64 ((w64 ((w64 (s36.1+1))+1))+1)) then
      (some (Lp.done (Fl.ret (-1))))
     else
      ((idx a1 s36.2).bind fun x52=>
      if x52.Size !=(w64 ((w64 ((w64 ((w64 (s36.1+1))+1))+1))+1)) then
       (some (Lp.done (Fl.ret (-1))))
      else
       ((idx a1 s36.2).bind fun x55=>
       (wK x55.Provides (w64 ((w64 ((w64 ((w64 ((w64 (s36.1+1))+1))+1))+1))+1))).bind fun x57=>
       if decide (x57<0) then
        (some (Lp.done (Fl.ret (-1))))
       else
        ((idx a1 s36.2).bind fun x60=>
        (vM x60.Needs x57).bind fun x62=>
        if decide (x62<0) then
         (some (Lp.done (Fl.ret (-1))))
        else
         ((idx a1 s36.2).bind fun x65=>
         (xZ x65.Bars x62).bind fun x67=>
         if decide (x67<0) then
          (some (Lp.done (Fl.ret (-1))))
         else
          (some (Lp.go (x67,w64 (s36.2+1))))))))))))
 else
  (some (Lp.done (Fl.nxt s36.1)))
noncomputable def jD (a1:(List Pack)):(Int×Int)→Option (Fl Int Int):=loop (uI a1)
noncomputable def tK (a1:(List Pack)) (a2:Int):Option Int:=
 (jD a1 (a2,0)).bind (Fl.go some fun v70=>
 some v70)
noncomputable def vY (a1:(List Int)) (s7:(Int×Int)):Option (Lp (Int×Int) (Fl Int Int)):=
 if decide (s7.2< (a1.length:Int)) then
  ((idx a1 s7.2).bind fun x9=>
  if x9 !=(IntKind.u8.wrap (s7.1)) then
   (some (Lp.done (Fl.ret (-1))))
  else
   (some (Lp.go (w64 (s7.1+1),w64 (s7.2+1)))))
 else
  (some (Lp.done (Fl.nxt s7.1)))
noncomputable def jJ (a1:(List Int)):(Int×Int)→Option (Fl Int Int):=loop (vY a1)
noncomputable def tO (a1:(List Int)) (a2:Int):Option Int:=
 (jJ a1 (a2,0)).bind (Fl.go some fun v12=>
 some v12)
noncomputable def uO (a1:(List File)) (s14:(Int×Int)):Option (Lp (Int×Int) (Fl Int Int)):=
 if decide (s14.2< (a1.length:Int)) then
  ((idx a1 s14.2).bind fun x16=>
  (zT s14.1).bind fun x18=>
  if !(seq x16.Path x18) then
   (some (Lp.done (Fl.ret (-1))))
  else
   ((idx a1 s14.2).bind fun x21=>
   (tO x21.Data (w64 (s14.1+1))).bind fun x23=>
   if decide (x23<0) then
    (some (Lp.done (Fl.ret (-1))))
   else
    (some (Lp.go (x23,w64 (s14.2+1))))))
 else
  (some (Lp.done (Fl.nxt s14.1)))
noncomputable def jC (a1:(List File)):(Int×Int)→Option (Fl Int Int):=loop (uO a1)
noncomputable def tF (a1:(List File)) (a2:Int):Option Int:=
 (jC a1 (a2,0)).bind (Fl.go some fun v26=>
 some v26)
noncomputable def jP (a1:zC) (a2:Int):Option Int:=
 (tF a1.Files a2).bind fun x3=>
 if decide (x3<0) then
  (some (-1))
 else
  (some x3)
noncomputable def vD (a1:System) (a2:Int):Option Int:=
 (tK a1.Catalog a2).bind fun x3=>
 if decide (x3<0) then
  (some (-1))
 else
  ((jP a1.zC x3).bind fun x6=>
  if decide (x6<0) then
   (some (-1))
  else
   (some x6))
noncomputable def yE (a1:zD) (a2:Int):Option Int:=
 (vD a1.System a2).bind fun x3=>
 if decide (x3<0) then
  (some (-1))
 else
  (some x3)
noncomputable def yP (a1:(List Pack)) (a2:Int):Option Bool:=
 (zAd a1 1048576).bind fun x3=>
 if decide (x3<0) then
  (some true)
 else
  ((xD a1).bind fun x6=>
  (wU x6 a2).bind fun x8=>
  (xD a1).bind fun x10=>
  (xG x10 a2).bind fun x12=>
  (yC x12 x8).bind fun x14=>
  if !x14 then
   (some false)
  else
   ((xD a1).bind fun x17=>
   (uS x10 x17).bind fun x19=>
   if !x19 then
    (some false)
   else
    ((xK x10 1).bind fun x22=>
    (if decide (x22.1<0) then
      (some true)
     else
      ((yC x12 x8).bind fun x25=>
      some (!x25))).bind fun v27=>
    if v27 then
     (some false)
    else
     ((yM x12 1).bind fun x29=>
     (same x29.2.1 x12.System.Catalog).bind fun u31=>
     (same x29.2.2 x12.System.zC.Files).bind fun u33=>
     (yE ({Code:=x12.Code,Choices:=x12.Choices,System:=({Catalog:=x29.2.1,zC:=({Files:=x29.2.2,Budget:=x12.System.zC.Budget,Writes:=x12.System.zC.Writes,Stop:=x12.System.zC.Stop,Down:=x12.System.zC.Down}:zC)}:System)}:zD) 1).bind fun x35=>
     if decide (x35<0) then
      (some false)
     else
      (if x35 !=x29.1 then
       (some false)
      else
       ((xD a1).bind fun x39=>
       (xG x39 a2).bind fun x41=>
       (yC x41 x8).bind fun x43=>
       if !x43 then
        (some false)
       else
        ((yE ({Code:=x12.Code,Choices:=x12.Choices,System:=({Catalog:=x29.2.1,zC:=({Files:=x29.2.2,Budget:=x12.System.zC.Budget,Writes:=x12.System.zC.Writes,Stop:=x12.System.zC.Stop,Down:=x12.System.zC.Down}:zC)}:System)}:zD) 1).bind fun x46=>
        if decide (x46<0) then
         (some false)
        else
         (if x46 !=x29.1 then
          (some false)
         else
          (some true)))))))))
end Go.Told

import Derived.Test.YtghacmkpcjdpjaaGreatDoorImF
set_option linter.unusedVariables false
set_option maxRecDepth 4000
namespace Go.Told
open Go Go.Im
structure Version where
 A:Int
 B:Int
 C:Int
 deriving DecidableEq
def Version.enc (x:Version):List D:=[.sc (.int .i64 x.A),.sc (.int .i64 x.B),.sc (.int .i64 x.C)]
theorem Version.fl (x:Version):zAk (Version.enc x):=(flatK zW (flatK zW (flatK zW zAQ)))
structure Term where
 Name:ByteArray
 Low:Version
 High:Version
 deriving DecidableEq
def Term.enc (x:Term):List D:=[.sc (.string x.Name),.sc (.int .i64 x.Low.A),.sc (.int .i64 x.Low.B),.sc (.int .i64 x.Low.C),.sc (.int .i64 x.High.A),.sc (.int .i64 x.High.B),.sc (.int .i64 x.High.C)]
theorem Term.fl (x:Term):zAk (Term.enc x):=(flatK zW (flatK zW (flatK zW (flatK zW (flatK zW (flatK zW (flatK zW zAQ)))))))
structure File where
 Path:ByteArray
 Data:(List Int)
 deriving DecidableEq
def File.enc (o:Bool) (x:File):List D:=[.sc (.string x.Path),.s o 1 x.Data.length (x.Data.map eU8)]
theorem File.ro (o:Bool) (x:File):D.ro.roC (File.enc o x)=File.enc false x:=by
 simp only [File.enc,D.ro.roC,D.ro,zAF (enc:=eU8) (enc':=eU8) (fun _=>rfl)]
theorem File.fl (x:File):zAk (File.enc true x):=(flatK zW (flatK (zBZ (zD5 (fun _=>(flatK zW zAQ)) _)) zAQ))
structure zF where
 Files:(List File)
 Budget:Int
 Writes:Int
 Stop:Int
 Down:Bool
 deriving DecidableEq
def zF.enc (o:Bool) (x:zF):List D:=[.s o 2 x.Files.length (x.Files.map (File.enc o)),.sc (.int .i64 x.Budget),.sc (.int .i64 x.Writes),.sc (.int .i64 x.Stop),.sc (.bool x.Down)]
theorem zF.ro (o:Bool) (x:zF):D.ro.roC (zF.enc o x)=zF.enc false x:=by
 simp only [zF.enc,D.ro.roC,D.ro,zAF (enc:=(File.enc o)) (enc':=(File.enc false)) (File.ro o)]
theorem zF.fl (x:zF):zAk (zF.enc true x):=(flatK (zBZ (zD5 (fun _=>(File.fl _)) _)) (flatK zW (flatK zW (flatK zW (flatK zW zAQ)))))
structure zL where
 Code:Int
 zF:zF
 deriving DecidableEq
def zL.enc (o:Bool) (x:zL):List D:=[.sc (.int .i64 x.Code),.s o 2 x.zF.Files.length (x.zF.Files.map (File.enc o)),.sc (.int .i64 x.zF.Budget),.sc (.int .i64 x.zF.Writes),.sc (.int .i64 x.zF.Stop),.sc (.bool x.zF.Down)]
theorem zL.ro (o:Bool) (x:zL):D.ro.roC (zL.enc o x)=zL.enc false x:=by
 simp only [zL.enc,D.ro.roC,D.ro,zAF (enc:=(File.enc o)) (enc':=(File.enc false)) (File.ro o)]
theorem zL.fl (x:zL):zAk (zL.enc true x):=(flatK zW (flatK (zBZ (zD5 (fun _=>(File.fl _)) _)) (flatK zW (flatK zW (flatK zW (flatK zW zAQ))))))
structure yE where
 Code:Int
 Asks:(List Term)
 deriving DecidableEq
def yE.enc (o:Bool) (x:yE):List D:=[.sc (.int .i64 x.Code),.s o 7 x.Asks.length (x.Asks.map Term.enc)]
theorem yE.ro (o:Bool) (x:yE):D.ro.roC (yE.enc o x)=yE.enc false x:=by
 simp only [yE.enc,D.ro.roC,D.ro,zAF (enc:=Term.enc) (enc':=Term.enc) (fun _=>rfl)]
theorem yE.fl (x:yE):zAk (yE.enc true x):=(flatK zW (flatK (zBZ (zD5 (fun _=>(Term.fl _)) _)) zAQ))
structure wX where
 Code:Int
 Value:Int
 deriving DecidableEq
def wX.enc (x:wX):List D:=[.sc (.int .i64 x.Code),.sc (.int .i64 x.Value)]
theorem wX.fl (x:wX):zAk (wX.enc x):=(flatK zW (flatK zW zAQ))
structure Pack where
 Name:ByteArray
 Version:Version
 Size:Int
 Provides:(List ByteArray)
 Needs:(List (List Term))
 Bars:(List Term)
 deriving DecidableEq
def Pack.enc (o:Bool) (x:Pack):List D:=[.sc (.string x.Name),.sc (.int .i64 x.Version.A),.sc (.int .i64 x.Version.B),.sc (.int .i64 x.Version.C),.sc (.int .i64 x.Size),.s o 1 x.Provides.length (x.Provides.map eStr),.s o 1 x.Needs.length (x.Needs.map (eSl o 7 Term.enc)),.s o 7 x.Bars.length (x.Bars.map Term.enc)]
theorem Pack.ro (o:Bool) (x:Pack):D.ro.roC (Pack.enc o x)=Pack.enc false x:=by
 simp only [Pack.enc,D.ro.roC,D.ro,zAF (enc:=eStr) (enc':=eStr) (fun _=>rfl),zAF (enc:=(eSl o 7 Term.enc)) (enc':=(eSl false 7 Term.enc)) (zJX (fun _=>rfl)),zAF (enc:=Term.enc) (enc':=Term.enc) (fun _=>rfl)]
theorem Pack.fl (x:Pack):zAk (Pack.enc true x):=(flatK zW (flatK zW (flatK zW (flatK zW (flatK zW (flatK (zBZ (zD5 (fun _=>(flatK zW zAQ)) _)) (flatK (zBZ (zD5 (fun _=>(flatK (zBZ (zD5 (fun _=>(Term.fl _)) _)) zAQ)) _)) (flatK (zBZ (zD5 (fun _=>(Term.fl _)) _)) zAQ))))))))
structure zK where
 Code:(List Int)
 At:Int
 deriving DecidableEq
def zK.enc (o:Bool) (x:zK):List D:=[.s o 1 x.Code.length (x.Code.map eU8),.sc (.int .i64 x.At)]
theorem zK.ro (o:Bool) (x:zK):D.ro.roC (zK.enc o x)=zK.enc false x:=by
 simp only [zK.enc,D.ro.roC,D.ro,zAF (enc:=eU8) (enc':=eU8) (fun _=>rfl)]
theorem zK.fl (x:zK):zAk (zK.enc true x):=(flatK (zBZ (zD5 (fun _=>(flatK zW zAQ)) _)) (flatK zW zAQ))
structure xG where
 Code:Int
 Term:Term
 deriving DecidableEq
def xG.enc (x:xG):List D:=[.sc (.int .i64 x.Code),.sc (.string x.Term.Name),.sc (.int .i64 x.Term.Low.A),.sc (.int .i64 x.Term.Low.B),.sc (.int .i64 x.Term.Low.C),.sc (.int .i64 x.Term.High.A),.sc (.int .i64 x.Term.High.B),.sc (.int .i64 x.Term.High.C)]
theorem xG.fl (x:xG):zAk (xG.enc x):=(flatK zW (flatK zW (flatK zW (flatK zW (flatK zW (flatK zW (flatK zW (flatK zW zAQ))))))))
structure zV where
 Code:Int
 Version:Version
 deriving DecidableEq
def zV.enc (x:zV):List D:=[.sc (.int .i64 x.Code),.sc (.int .i64 x.Version.A),.sc (.int .i64 x.Version.B),.sc (.int .i64 x.Version.C)]
theorem zV.fl (x:zV):zAk (zV.enc x):=(flatK zW (flatK zW (flatK zW (flatK zW zAQ))))
structure zH7 where
 Kind:Int
 Pack:Int
 At:Int
 deriving DecidableEq
def zH7.enc (x:zH7):List D:=[.sc (.int .i64 x.Kind),.sc (.int .i64 x.Pack),.sc (.int .i64 x.At)]
theorem zH7.fl (x:zH7):zAk (zH7.enc x):=(flatK zW (flatK zW (flatK zW zAQ)))
noncomputable def kE (a1:(List Int)):Option Bool:=
 some (decide ((a1.length:Int)>1048576))
noncomputable def jM (a1:(List Int)):Option zK:=
 some ({Code:=a1,At:=0}:zK)
noncomputable def zZ (a1:zK) (a2:Int):Option (Int×zK):=
 if decide (a2<1) then
  (some (0,({Code:=a1.Code,At:=w64 (a1.At+1)}:zK)))
 else
  (if (a1.Code.length:Int)==0 then
   ((zId (w64 ((w64 ((w64 (a1.At+1))-1))*7)) a2).bind fun x5=>
   some (x5,({Code:=a1.Code,At:=w64 (a1.At+1)}:zK)))
  else
   ((zId (w64 ((w64 (a1.At+1))-1)) (a1.Code.length:Int)).bind fun x7=>
   (idx a1.Code x7).bind fun x9=>
   (zKa .i64 (w64 ((w64 (a1.At+1))-1)) (a1.Code.length:Int)).bind fun x11=>
   (if decide (a2>200) then
     ((zId (w64 ((w64 ((w64 (a1.At+1))-1))+1)) (a1.Code.length:Int)).bind fun x14=>
     (idx a1.Code x14).bind fun x16=>
     some (w64 ((w64 ((w64 ((w64 ((w64 (x9))+(w64 (x11*37))))*251))+(w64 ((w64 (x16))*13))))+(w64 ((w64 (a1.At+1))-1)))))
    else
     (some (w64 ((w64 (x9))+(w64 (x11*37)))))).bind fun v18=>
   (zId v18 a2).bind fun x19=>
   some (x19,({Code:=a1.Code,At:=w64 (a1.At+1)}:zK))))
noncomputable def yM (a1:zK) (a2:(List Int)):Option (Int×zK):=
 (zZ a1 (a2.length:Int)).bind fun x3=>
 (idx a2 x3.1).bind fun x5=>
 some (x5,x3.2)
noncomputable def xQ (a1:zK):Option (ByteArray×zK):=
 (zZ a1 6).bind fun x2=>
 (idx [bs [97],bs [98],bs [99],bs [100],bs [108,105,98],bs [119,101,98]] x2.1).bind fun x4=>
 some (x4,x2.2)
noncomputable def tJ:Option Version:=
 some ({A:=1000,B:=0,C:=0}:Version)
noncomputable def kG (a1:ByteArray):Option Term:=
 (tJ).bind fun x2=>
 some ({Name:=a1,Low:=({A:=0,B:=0,C:=0}:Version),High:=x2}:Term)
noncomputable def yZ (a1:zK) (a2:Int):Option (Bool×zK):=
 (zZ a1 a2).bind fun x3=>
 some (x3.1==0,x3.2)
noncomputable def xL (a1:zK):Option (Version×zK):=
 (zZ a1 4).bind fun x2=>
 (zZ x2.2 3).bind fun x4=>
 (yM x4.2 [0,0,x4.1]).bind fun x6=>
 (zZ x6.2 3).bind fun x8=>
 (yM x8.2 [0,0,0,x8.1]).bind fun x10=>
 some (({A:=x2.1,B:=x6.1,C:=x10.1}:Version),x10.2)
noncomputable def uH (a1:zK):Option (Term×zK):=
 (xQ a1).bind fun x2=>
 (kG x2.1).bind fun x4=>
 (yZ x2.2 2).bind fun x6=>
 (if x6.1 then
   ((xL x6.2).bind fun x9=>
   some (x9.2.Code,x9.2.At,x9.1.A,x9.1.B,x9.1.C))
  else
   (some (x6.2.Code,x6.2.At,x4.Low.A,x4.Low.B,x4.Low.C))).bind fun v11=>
 (yZ ({Code:=v11.1,At:=v11.2.1}:zK) 3).bind fun x12=>
 (if x12.1 then
   ((zZ x12.2 2).bind fun x15=>
   some (x15.2.Code,x15.2.At,w64 ((w64 (v11.2.2.1+1))+x15.1),0,0))
  else
   (some (x12.2.Code,x12.2.At,x4.High.A,x4.High.B,x4.High.C))).bind fun v17=>
 some (({Name:=x4.Name,Low:=({A:=v11.2.2.1,B:=v11.2.2.2.1,C:=v11.2.2.2.2}:Version),High:=({A:=v17.2.2.1,B:=v17.2.2.2.1,C:=v17.2.2.2.2}:Version)}:Term),({Code:=v17.1,At:=v17.2.1}:zK))
noncomputable def vM (a1:zK):Option (ByteArray×zK):=
 (yZ a1 14).bind fun x2=>
 if x2.1 then
  ((zZ x2.2 9).bind fun x5=>
  (idx [bs [],bs [49,97],bs [65],bs [97,98,99,100,101,102,103,104,105,106,107,108,109],bs [97,98,99,100,101,102,103,104,105,106,107,108],bs [97,32,98],bs [97,45],bs [95,97],bs [97,95,49]] x5.1).bind fun x7=>
  some (x7,x5.2))
 else
  ((xQ x2.2).bind fun x9=>
  some (x9.1,x9.2))
noncomputable def yR (a1:zK):Option (Version×zK):=
 (xL a1).bind fun x2=>
 (zZ x2.2 14).bind fun x4=>
 (if x4.1==0 then
   ((yM x4.2 [(-1),999,1000]).bind fun x7=>
   some (x7.2.Code,x7.2.At,x7.1,x2.1.B,x2.1.C))
  else
   (if x4.1==1 then
    ((yM x4.2 [(-1),999,1000]).bind fun x10=>
    some (x10.2.Code,x10.2.At,x2.1.A,x10.1,x2.1.C))
   else
    (if x4.1==2 then
     ((yM x4.2 [(-1),999,1000,4611686018427387904]).bind fun x13=>
     some (x13.2.Code,x13.2.At,x2.1.A,x2.1.B,x13.1))
    else
     (some (x4.2.Code,x4.2.At,x2.1.A,x2.1.B,x2.1.C))))).bind fun v15=>
 some (({A:=v15.2.2.1,B:=v15.2.2.2.1,C:=v15.2.2.2.2}:Version),({Code:=v15.1,At:=v15.2.1}:zK))
noncomputable def vN (a1:zK):Option (Term×zK):=
 (uH a1).bind fun x2=>
 (zZ x2.2 14).bind fun x4=>
 (if x4.1==0 then
   ((vM x4.2).bind fun x7=>
   some (x7.2.Code,x7.2.At,x7.1,x2.1.Low.A,x2.1.Low.B,x2.1.Low.C,x2.1.High.A,x2.1.High.B,x2.1.High.C))
  else
   (if x4.1==1 then
    ((yR x4.2).bind fun x10=>
    some (x10.2.Code,x10.2.At,x2.1.Name,x10.1.A,x10.1.B,x10.1.C,x2.1.High.A,x2.1.High.B,x2.1.High.C))
   else
    (if x4.1==2 then
     ((yR x4.2).bind fun x13=>
     some (x13.2.Code,x13.2.At,x2.1.Name,x2.1.Low.A,x2.1.Low.B,x2.1.Low.C,x13.1.A,x13.1.B,x13.1.C))
    else
     (if x4.1==3 then
      (some (x4.2.Code,x4.2.At,x2.1.Name,x2.1.Low.A,x2.1.Low.B,x2.1.Low.C,x2.1.Low.A,x2.1.Low.B,x2.1.Low.C))
     else
      (some (x4.2.Code,x4.2.At,x2.1.Name,x2.1.Low.A,x2.1.Low.B,x2.1.Low.C,x2.1.High.A,x2.1.High.B,x2.1.High.C)))))).bind fun v16=>
 some (({Name:=v16.2.2.1,Low:=({A:=v16.2.2.2.1,B:=v16.2.2.2.2.1,C:=v16.2.2.2.2.2.1}:Version),High:=({A:=v16.2.2.2.2.2.2.1,B:=v16.2.2.2.2.2.2.2.1,C:=v16.2.2.2.2.2.2.2.2}:Version)}:Term),({Code:=v16.1,At:=v16.2.1}:zK))
noncomputable def jI (s9:((List Int)×Int×(List Term)×Int)):Option (Lp ((List Int)×Int×(List Term)×Int) ((List Int)×Int×(List Term))):=
 if decide (s9.2.2.2>0) then
  ((uH ({Code:=s9.1,At:=s9.2.1}:zK)).bind fun x11=>
  (app 64 s9.2.2.1 [x11.1]).bind fun x13=>
  some (Lp.go (x11.2.Code,x11.2.At,x13,w64 (s9.2.2.2-1))))
 else
  (some (Lp.done (s9.1,s9.2.1,s9.2.2.1)))
noncomputable def jT:((List Int)×Int×(List Term)×Int)→Option ((List Int)×Int×(List Term)):=loop jI
noncomputable def jZ (a1:zK):Option ((List Term)×zK):=
 (yM a1 [0,1,1,2,3]).bind fun x2=>
 (jT (x2.2.Code,x2.2.At,([]:List Term),x2.1)).bind fun v15=>
 (yZ ({Code:=v15.1,At:=v15.2.1}:zK) 24).bind fun x16=>
 (if x16.1 then
   ((vN x16.2).bind fun x19=>
   (app 64 v15.2.2 [x19.1]).bind fun x21=>
   some (x19.2.Code,x19.2.At,x21))
  else
   (some (x16.2.Code,x16.2.At,v15.2.2))).bind fun v23=>
 some (v23.2.2,({Code:=v23.1,At:=v23.2.1}:zK))
noncomputable def xP (a1:(List Int)):Option (List Term):=
 (jM a1).bind fun x2=>
 (jZ x2).bind fun x4=>
 some x4.1
noncomputable def yC (a1:Int):Option Bool:=
 if decide (a1≥97) then
  (if decide (a1≤122) then
   (some true)
  else
   (if decide (a1≥48) then
    (if decide (a1≤57) then
     (some true)
    else
     (some (a1==95)))
   else
    (some (a1==95))))
 else
  (if decide (a1≥48) then
   (if decide (a1≤57) then
    (some true)
   else
    (some (a1==95)))
  else
   (some (a1==95)))
noncomputable def tV (a1:ByteArray) (s17:Int):Option (Lp Int (Fl Int Unit)):=
 if decide (s17< (a1.size:Int)) then
  ((bidx a1 s17).bind fun x19=>
  (yC x19).bind fun x21=>
  if !x21 then
   (some (Lp.done (Fl.ret 5)))
  else
   (some (Lp.go (w64 (s17+1)))))
 else
  (some (Lp.done (Fl.nxt ())))
noncomputable def vD (a1:ByteArray):Int→Option (Fl Int Unit):=loop (tV a1)
noncomputable def wM (a1:ByteArray):Option Int:=
 (if decide ((a1.size:Int)<1) then
   (some true)
  else
   (if decide ((a1.size:Int)>12) then
    (some true)
   else
    ((bidx a1 0).bind fun x4=>
    if decide (x4<97) then
     (some true)
    else
     ((bidx a1 0).bind fun x7=>
     some (decide (x7>122)))))).bind fun v9=>
 if v9 then
  (some 5)
 else
  ((vD a1 0).bind (Fl.go some fun v24=>
  some 0))
noncomputable def yB (a1:Int) (a2:Int) (a3:Int):Option Bool:=
 if decide (a2≤a1) then
  (some (decide (a1≤a3)))
 else
  (some false)
noncomputable def xB (a1:Version):Option Int:=
 (yB a1.A 0 999).bind fun x2=>
 (if !x2 then
   (some true)
  else
   ((yB a1.B 0 999).bind fun x5=>
   if !x5 then
    (some true)
   else
    ((yB a1.C 0 999).bind fun x8=>
    some (!x8)))).bind fun v10=>
 if v10 then
  (some 3)
 else
  (some 0)
noncomputable def jP:Option Version:=
 some ({A:=1000,B:=0,C:=0}:Version)
noncomputable def wO (a1:Int):Option Bool:=
 some (a1 !=a1)
noncomputable def yL (a1:Int) (a2:Int):Option Int:=
 (wO a1).bind fun x3=>
 (wO a2).bind fun x5=>
 if x3 then
  (if x5 then
   (some 0)
  else
   (some (-1)))
 else
  (if x5 then
   (some 1)
  else
   (if decide (a1<a2) then
    (some (-1))
   else
    (if decide (a1>a2) then
     (some 1)
    else
     (some 0))))
noncomputable def jU (a1:(List Int)) (s6:Int):Option (Lp Int (Fl Int Unit)):=
 if decide (s6< (a1.length:Int)) then
  ((idx a1 s6).bind fun x8=>
  if x8 !=0 then
   (some (Lp.done (Fl.ret x8)))
  else
   (some (Lp.go (w64 (s6+1)))))
 else
  (some (Lp.done (Fl.nxt ())))
noncomputable def kS (a1:(List Int)):Int→Option (Fl Int Unit):=loop (jU a1)
noncomputable def zAn (a1:(List Int)):Option Int:=
 (kS a1 0).bind (Fl.go some fun v11=>
 some 0)
noncomputable def tX (a1:Version) (a2:Version):Option Int:=
 (yL a1.A a2.A).bind fun x3=>
 (yL a1.B a2.B).bind fun x5=>
 (yL a1.C a2.C).bind fun x7=>
 (zAn [x3,x5,x7]).bind fun x9=>
 some x9
noncomputable def yV (a1:Term):Option Int:=
 (wM a1.Name).bind fun x2=>
 if x2 !=0 then
  (some x2)
 else
  ((xB a1.Low).bind fun x5=>
  if x5 !=0 then
   (some x5)
  else
   ((jP).bind fun x8=>
   (if !(a1.High.A==x8.A&&(a1.High.B==x8.B&&(a1.High.C==x8.C&&true))) then
     ((xB a1.High).bind fun x11=>
     some (x11 !=0))
    else
     (some false)).bind fun v13=>
   if v13 then
    (some 3)
   else
    ((tX a1.Low a1.High).bind fun x15=>
    if decide (x15≥0) then
     (some 1)
    else
     (some 0))))
noncomputable def vQ (a1:(List Term)) (s8:Int):Option (Lp Int (Fl Int Unit)):=
 if decide (s8< (a1.length:Int)) then
  ((idx a1 s8).bind fun x10=>
  (yV x10).bind fun x12=>
  if x12 !=0 then
   (some (Lp.done (Fl.ret x12)))
  else
   (some (Lp.go (w64 (s8+1)))))
 else
  (some (Lp.done (Fl.nxt ())))
noncomputable def uD (a1:(List Term)):Int→Option (Fl Int Unit):=loop (vQ a1)
noncomputable def vS (a1:(List Term)):Option Int:=
 (uD a1 0).bind (Fl.go some fun v15=>
 some 0)
noncomputable def wG (a1 a2:Int):Option ByteArray:=if a2=10∧ -9223372036854775808≤a1∧a1≤9223372036854775807 then some ⟨(Lib.itoa a1).toArray⟩ else none
noncomputable def tO (a1:Int):Option ByteArray:=
 (wG a1 10).bind fun x2=>
 some x2
noncomputable def yK (a1:Version):Option ByteArray:=
 (tO a1.A).bind fun x2=>
 (cat x2 (bs [46])).bind fun x4=>
 (tO a1.B).bind fun x6=>
 (cat x4 x6).bind fun x8=>
 (cat x8 (bs [46])).bind fun x10=>
 (tO a1.C).bind fun x12=>
 (cat x10 x12).bind fun x14=>
 some x14
noncomputable def vP (a1:Term):Option ByteArray:=
 (yV a1).bind fun x2=>
 if x2 !=0 then
  (some (bs []))
 else
  ((if !(a1.Low.A==0&&(a1.Low.B==0&&(a1.Low.C==0&&true))) then
     ((yK a1.Low).bind fun x6=>
     (cat (bs [62,61]) x6).bind fun x8=>
     (cat a1.Name x8).bind fun x10=>
     some x10)
    else
     (some a1.Name)).bind fun v12=>
  (jP).bind fun x13=>
  (if !(a1.High.A==x13.A&&(a1.High.B==x13.B&&(a1.High.C==x13.C&&true))) then
    ((yK a1.High).bind fun x16=>
    (cat (bs [60]) x16).bind fun x18=>
    (cat v12 x18).bind fun x20=>
    some x20)
   else
    (some v12)).bind fun v22=>
  some v22)
noncomputable def vX (a1:(List Term)) (s14:(ByteArray×Int)):Option (Lp (ByteArray×Int) ByteArray):=
 if decide (s14.2< (a1.length:Int)) then
  ((idx a1 s14.2).bind fun x16=>
  (vP x16).bind fun x18=>
  (cat x18 (bs [10])).bind fun x20=>
  (cat s14.1 x20).bind fun x22=>
  some (Lp.go (x22,w64 (s14.2+1))))
 else
  (some (Lp.done s14.1))
noncomputable def uP (a1:(List Term)):(ByteArray×Int)→Option ByteArray:=loop (vX a1)
noncomputable def yU (a1:(List Term)):Option ByteArray:=
 (vS a1).bind fun x2=>
 if x2 !=0 then
  (some (bs []))
 else
  ((uP a1 (bs [],0)).bind fun v24=>
  some v24)
noncomputable def bytealg_CompareString (a1 a2:ByteArray):Option Int:=some (zIZ a1 a2)
noncomputable def strings_Compare (a1:ByteArray) (a2:ByteArray):Option Int:=
 (bytealg_CompareString a1 a2).bind fun x3=>
 some x3
noncomputable def xI (a1:File) (a2:ByteArray):Option Int:=
 (strings_Compare a1.Path a2).bind fun x3=>
 some x3
noncomputable def zQ (a1:(List File)) (a2:ByteArray) (s9:(Int×Int)):Option (Lp (Int×Int) Int):=
 if decide (s9.1<s9.2) then
  ((idx a1 (w64 ((IntKind.u64.wrap (w64 (s9.1+s9.2))).fdiv (2^(min (1:Int).toNat 64))))).bind fun x11=>
  (xI x11 a2).bind fun x13=>
  if decide (x13<0) then
   (some (Lp.go (w64 ((w64 ((IntKind.u64.wrap (w64 (s9.1+s9.2))).fdiv (2^(min (1:Int).toNat 64))))+1),s9.2)))
  else
   (some (Lp.go (s9.1,w64 ((IntKind.u64.wrap (w64 (s9.1+s9.2))).fdiv (2^(min (1:Int).toNat 64)))))))
 else
  (some (Lp.done s9.1))
noncomputable def zJ (a1:(List File)) (a2:ByteArray):(Int×Int)→Option Int:=loop (zQ a1 a2)
noncomputable def zC (a1:(List File)) (a2:ByteArray):Option (Int×Bool):=
 (zJ a1 a2 (0,(a1.length:Int))).bind fun v16=>
 if decide (v16< (a1.length:Int)) then
  ((idx a1 v16).bind fun x18=>
  (xI x18 a2).bind fun x20=>
  some (v16,x20==0))
 else
  (some (v16,false))
noncomputable def yS (a1:zF) (a2:ByteArray):Option (Int×Bool):=
 (zC a1.Files a2).bind fun x3=>
 some (x3.1,x3.2)
noncomputable def wH (a1:List File) (a2:Int) (a3:List File):Option (List File):=if 0≤a2∧a2≤a1.length∧0<a3.length∧a1.length+a3.length≤1099511627776 then some (a1.take a2.toNat++(a3++a1.drop a2.toNat)) else none
noncomputable def yF (a1:(List Int)):Option (List Int):=
 (app 1 ([]:List Int) a1).bind fun x3=>
 some x3
noncomputable def yH (a1:zF) (a2:ByteArray) (a3:(List Int)):Option zF:=
 (yS a1 a2).bind fun x4=>
 (if !x4.2 then
   ((wH a1.Files x4.1 [({Path:=a2,Data:=([]:List Int)}:File)]).bind fun x7=>
   some x7)
  else
   (some a1.Files)).bind fun v9=>
 (yF a3).bind fun x10=>
 (idx v9 x4.1).bind fun x12=>
 some ({Files:=v9.set x4.1.toNat ({Path:=x12.Path,Data:=x10}:File),Budget:=a1.Budget,Writes:=a1.Writes,Stop:=a1.Stop,Down:=a1.Down}:zF)
noncomputable def strings_Repeat (a1:ByteArray) (a2:Int):Option ByteArray:=if 0≤a2∧a2≤9223372036854775807∧a1.size*a2.toNat≤140737488355328 then some ⟨(Lib.repeatL a1.data.toList a2.toNat).toArray⟩ else none
noncomputable def jF (a1:Int):Option ByteArray:=
 (tO a1).bind fun x2=>
 (strings_Repeat (bs [48]) (w64 (6-(x2.size:Int)))).bind fun x4=>
 (cat (bs [103,101,110,47]) x4).bind fun x6=>
 (cat x6 x2).bind fun x8=>
 some x8
noncomputable def uV (a1:Int):Option zL:=
 (yB a1 0 20000).bind fun x2=>
 if !x2 then
  (some ({Code:=3,zF:=({Files:=([]:List File),Budget:=0,Writes:=0,Stop:=0,Down:=false}:zF)}:zL))
 else
  (if a1==0 then
   (some ({Code:=8,zF:=({Files:=([]:List File),Budget:=0,Writes:=0,Stop:=0,Down:=false}:zF)}:zL))
  else
   ((yH ({Files:=([]:List File),Budget:=a1,Writes:=0,Stop:=(-1),Down:=false}:zF) (bs [99,117,114]) [49]).bind fun x6=>
   (jF 1).bind fun x8=>
   (yH x6 x8 ([]:List Int)).bind fun x10=>
   (yH x10 (bs [114,111,111,116,115]) ([]:List Int)).bind fun x12=>
   some ({Code:=0,zF:=x12}:zL)))
noncomputable def kJ (a1:ByteArray) (s15:Int):Option (Lp Int (Fl Int Unit)):=
 if decide (s15< (a1.size:Int)) then
  ((bidx a1 s15).bind fun x17=>
  (yC x17).bind fun x19=>
  (if !x19 then
    (if x17 !=46 then
     (if x17 !=45 then
      (some (x17 !=47))
     else
      (some false))
    else
     (some false))
   else
    (some false)).bind fun v24=>
  if v24 then
   (some (Lp.done (Fl.ret 5)))
  else
   (some (Lp.go (w64 (s15+1)))))
 else
  (some (Lp.done (Fl.nxt ())))
noncomputable def vB (a1:ByteArray):Int→Option (Fl Int Unit):=loop (kJ a1)
noncomputable def xK (a1:ByteArray):Option Int:=
 (if decide ((a1.size:Int)<1) then
   (some true)
  else
   (some (decide ((a1.size:Int)>40)))).bind fun v3=>
 if v3 then
  (some 5)
 else
  ((vB a1 0).bind (Fl.go some fun v26=>
  some 0))
noncomputable def zAu (a1:zF) (s5:(Int×Int)):Option (Lp (Int×Int) Int):=
 if decide (s5.2< (a1.Files.length:Int)) then
  ((idx a1.Files s5.2).bind fun x7=>
  some (Lp.go (w64 (s5.1+(x7.Data.length:Int)),w64 (s5.2+1))))
 else
  (some (Lp.done s5.1))
noncomputable def tT (a1:zF):(Int×Int)→Option Int:=loop (zAu a1)
noncomputable def xM (a1:zF):Option Int:=
 (tT a1 (0,0)).bind fun v9=>
 some v9
noncomputable def kR (a1:zF) (s25:Int):Option (Lp Int (Fl Int Unit)):=
 if decide (s25< (a1.Files.length:Int)) then
  ((idx a1.Files s25).bind fun x27=>
  (xK x27.Path).bind fun x29=>
  if x29 !=0 then
   (some (Lp.done (Fl.ret x29)))
  else
   ((if decide (s25>0) then
      ((idx a1.Files (w64 (s25-1))).bind fun x33=>
      some (slt x27.Path x33.Path||seq x27.Path x33.Path))
     else
      (some false)).bind fun v35=>
   if v35 then
    (some (Lp.done (Fl.ret 1)))
   else
    (if decide ((x27.Data.length:Int)>4000) then
     (some (Lp.done (Fl.ret 2)))
    else
     (some (Lp.go (w64 (s25+1)))))))
 else
  (some (Lp.done (Fl.nxt ())))
noncomputable def vF (a1:zF):Int→Option (Fl Int Unit):=loop (kR a1)
noncomputable def yO (a1:zF):Option Int:=
 (yB a1.Budget 0 20000).bind fun x2=>
 (if !x2 then
   (some true)
  else
   ((yB a1.Writes 0 1000000000).bind fun x5=>
   if !x5 then
    (some true)
   else
    ((yB a1.Stop (-1) 1000000000).bind fun x8=>
    some (!x8)))).bind fun v10=>
 if v10 then
  (some 3)
 else
  (if decide ((a1.Files.length:Int)>120) then
   (some 2)
  else
   ((vF a1 0).bind (Fl.go some fun v38=>
   (xM a1).bind fun x39=>
   if decide (x39>a1.Budget) then
    (some 8)
   else
    (some 0))))
noncomputable def jR (a1:zF) (s16:((List File)×Int)):Option (Lp ((List File)×Int) (List File)):=
 if decide (s16.2< (a1.Files.length:Int)) then
  ((idx a1.Files s16.2).bind fun x18=>
  (yF x18.Data).bind fun x20=>
  (app 40 s16.1 [({Path:=x18.Path,Data:=x20}:File)]).bind fun x22=>
  some (Lp.go (x22,w64 (s16.2+1))))
 else
  (some (Lp.done s16.1))
noncomputable def wF (a1:zF):((List File)×Int)→Option (List File):=loop (jR a1)
noncomputable def xU (a1:zF):Option zF:=
 (wF a1 (([]:List File),0)).bind fun v24=>
 some ({Files:=v24,Budget:=a1.Budget,Writes:=a1.Writes,Stop:=a1.Stop,Down:=a1.Down}:zF)
noncomputable def yA (a1:zF) (a2:ByteArray):Option ((List Int)×Bool):=
 (yS a1 a2).bind fun x3=>
 if !x3.2 then
  (some (([]:List Int),false))
 else
  ((idx a1.Files x3.1).bind fun x6=>
  some (x6.Data,true))
noncomputable def wE (a1:zF) (a2:ByteArray) (a3:(List Int)):Option zF:=
 (yH a1 a2 a3).bind fun x4=>
 some x4
noncomputable def zY (a1:zF) (a2:ByteArray) (a3:(List Int)):Option (Int×zF):=
 (if decide (a1.Stop≥0) then
   (some (decide (a1.Writes≥a1.Stop)))
  else
   (some false)).bind fun v5=>
 if v5 then
  (some (9,({Files:=a1.Files,Budget:=a1.Budget,Writes:=a1.Writes,Stop:=a1.Stop,Down:=true}:zF)))
 else
  ((wE a1 a2 a3).bind fun x7=>
  some (0,({Files:=x7.Files,Budget:=x7.Budget,Writes:=w64 (x7.Writes+1),Stop:=x7.Stop,Down:=x7.Down}:zF)))
noncomputable def wI (a1:zF) (a2:ByteArray) (a3:(List Int)):Option (Int×zF):=
 (yA a1 a2).bind fun x4=>
 (xK a2).bind fun x6=>
 if x6 !=0 then
  (some (5,a1))
 else
  ((if decide ((a3.length:Int)>4000) then
     (some true)
    else
     (if !x4.2 then
      (some ((a1.Files.length:Int)==120))
     else
      (some false))).bind fun v11=>
  if v11 then
   (some (2,a1))
  else
   ((xM a1).bind fun x13=>
   if decide ((w64 ((w64 (x13-(x4.1.length:Int)))+(a3.length:Int)))>a1.Budget) then
    (some (8,a1))
   else
    ((zY a1 a2 a3).bind fun x16=>
    some (x16.1,x16.2))))
noncomputable def vH (a1:zF) (a2:ByteArray) (a3:(List Int)):Option (Int×zF):=
 (wI a1 a2 a3).bind fun x4=>
 some (x4.1,x4.2)
noncomputable def zBf (a1:zF) (a2:Int):Option zL:=
 (if a2 !=0 then
   (some (a2 !=9))
  else
   (some false)).bind fun v4=>
 if v4 then
  (some ({Code:=a2,zF:=({Files:=([]:List File),Budget:=0,Writes:=0,Stop:=0,Down:=false}:zF)}:zL))
 else
  (some ({Code:=a2,zF:=a1}:zL))
noncomputable def yJ (a1:zF) (a2:ByteArray) (a3:(List Int)):Option zL:=
 (yO a1).bind fun x4=>
 (if x4==0 then
   (some a1.Down)
  else
   (some false)).bind fun v7=>
 (if v7 then
   (some 9)
  else
   (some x4)).bind fun v9=>
 if v9 !=0 then
  (some ({Code:=v9,zF:=({Files:=([]:List File),Budget:=0,Writes:=0,Stop:=0,Down:=false}:zF)}:zL))
 else
  ((xU a1).bind fun x11=>
  (vH x11 a2 a3).bind fun x13=>
  (zBf x13.2 x13.1).bind fun x15=>
  some x15)
noncomputable def uK (a1:zF) (a2:ByteArray) (a3:(List Int)):Option zL:=
 (yJ a1 a2 a3).bind fun x4=>
 some x4
noncomputable def strings_Split (a1 a2:ByteArray):Option (List ByteArray):=if a1.size<4294967281∧1≤a2.size then some (Lib.splitB a2 0 (Lib.countB a1 a2) a1) else none
noncomputable def uT (a1:ByteArray):Option (List ByteArray):=
 (strings_Split a1 (bs [10])).bind fun x2=>
 (idx x2 (w64 ((x2.length:Int)-1))).bind fun x4=>
 (if seq x4 (bs []) then
   ((zFp x2 0 (w64 ((x2.length:Int)-1))).bind fun x7=>
   some x7)
  else
   (some x2)).bind fun v9=>
 some v9
noncomputable def kF (a1:ByteArray):Option Term:=
 (jP).bind fun x2=>
 some ({Name:=a1,Low:=({A:=0,B:=0,C:=0}:Version),High:=x2}:Term)
noncomputable def zP (a1:ByteArray) (a2:ByteArray):Option Bool:=
 if decide ((a1.size:Int)≥(a2.size:Int)) then
  ((zCg a1 0 (a2.size:Int)).bind fun x4=>
  some (seq x4 a2))
 else
  (some false)
noncomputable def yG (a1:ByteArray) (a2:ByteArray):Option (ByteArray×Bool):=
 (zP a1 a2).bind fun x3=>
 if !x3 then
  (some (a1,false))
 else
  ((zCg a1 (a2.size:Int) (a1.size:Int)).bind fun x6=>
  some (x6,true))
noncomputable def strings_CutPrefix (a1:ByteArray) (a2:ByteArray):Option (ByteArray×Bool):=
 (yG a1 a2).bind fun x3=>
 some (x3.1,x3.2)
noncomputable def strings_IndexByte (a1:ByteArray) (a2:Int):Option Int:=some (Lib.indexByte a1.data.toList a2.toNat.toUInt8)
noncomputable def jG (a1:ByteArray) (s16:(Int×Int)):Option (Lp (Int×Int) (Fl Int Int)):=
 if decide (s16.2< (a1.size:Int)) then
  ((bidx a1 s16.2).bind fun x18=>
  (if decide (x18<48) then
    (some true)
   else
    ((bidx a1 s16.2).bind fun x21=>
    some (decide (x21>57)))).bind fun v23=>
  if v23 then
   (some (Lp.done (Fl.ret (-1))))
  else
   ((bidx a1 s16.2).bind fun x25=>
   some (Lp.go (w64 ((w64 (10*s16.1))+(w64 (IntKind.u8.wrap (x25-48)))),w64 (s16.2+1)))))
 else
  (some (Lp.done (Fl.nxt s16.1)))
noncomputable def jS (a1:ByteArray):(Int×Int)→Option (Fl Int Int):=loop (jG a1)
noncomputable def wV (a1:ByteArray) (a2:Int):Option Int:=
 (if seq a1 (bs []) then
   (some true)
  else
   (some (decide ((a1.size:Int)>a2)))).bind fun v4=>
 if v4 then
  (some (-1))
 else
  ((jS a1 (0,0)).bind (Fl.go some fun v27=>
  some v27))
noncomputable def wP (x2:(List ByteArray)) (s15:((List Int)×Int)):Option (Lp ((List Int)×Int) (Fl zV (List Int))):=
 if decide (s15.2< (x2.length:Int)) then
  ((idx x2 s15.2).bind fun x17=>
  (wV x17 3).bind fun x19=>
  (zIf s15.1 3 s15.2).bind fun x21=>
  (zIf (s15.1.set s15.2.toNat x19) 3 s15.2).bind fun x23=>
  if decide (x23<0) then
   (some (Lp.done (Fl.ret ({Code:=5,Version:=({A:=0,B:=0,C:=0}:Version)}:zV))))
  else
   (some (Lp.go (s15.1.set s15.2.toNat x19,w64 (s15.2+1)))))
 else
  (some (Lp.done (Fl.nxt s15.1)))
noncomputable def wY (x2:(List ByteArray)):((List Int)×Int)→Option (Fl zV (List Int)):=loop (wP x2)
noncomputable def yY (a1:ByteArray):Option zV:=
 (strings_Split a1 (bs [46])).bind fun x2=>
 if decide ((x2.length:Int)>3) then
  (some ({Code:=5,Version:=({A:=0,B:=0,C:=0}:Version)}:zV))
 else
  ((wY x2 (([0,0,0]:(List Int)),0)).bind (Fl.go some fun v26=>
  (zIf v26 3 0).bind fun x27=>
  (zIf v26 3 1).bind fun x29=>
  (zIf v26 3 2).bind fun x31=>
  some ({Code:=0,Version:=({A:=x27,B:=x29,C:=x31}:Version)}:zV)))
noncomputable def tN (a1:ByteArray) (s9:Int):Option (Lp Int Int):=
 (if decide (s9< (a1.size:Int)) then
   ((bidx a1 s9).bind fun x11=>
   (yC x11).bind fun x13=>
   some x13)
  else
   (some false)).bind fun v15=>
 if v15 then
  (some (Lp.go (w64 (s9+1))))
 else
  (some (Lp.done s9))
noncomputable def vI (a1:ByteArray):Int→Option Int:=loop (tN a1)
noncomputable def uI (a1:ByteArray):Option xG:=
 (vI a1 0).bind fun v17=>
 (zCg a1 0 v17).bind fun x18=>
 (kF x18).bind fun x20=>
 (zCg a1 v17 (a1.size:Int)).bind fun x22=>
 (wM x20.Name).bind fun x24=>
 if x24 !=0 then
  (some ({Code:=5,Term:=({Name:=ByteArray.empty,Low:=({A:=0,B:=0,C:=0}:Version),High:=({A:=0,B:=0,C:=0}:Version)}:Term)}:xG))
 else
  ((strings_CutPrefix x22 (bs [62,61])).bind fun x27=>
  (if x27.2 then
    ((strings_IndexByte x27.1 60).bind fun x30=>
    (if decide (x30<0) then
      (some (x27.1.size:Int))
     else
      (some x30)).bind fun v33=>
    (zCg x27.1 0 v33).bind fun x34=>
    (yY x34).bind fun x36=>
    if x36.Code !=0 then
     (some (Fl.ret ({Code:=5,Term:=({Name:=ByteArray.empty,Low:=({A:=0,B:=0,C:=0}:Version),High:=({A:=0,B:=0,C:=0}:Version)}:Term)}:xG)))
    else
     ((zCg x27.1 v33 (x27.1.size:Int)).bind fun x39=>
     some (Fl.nxt (x36.Version.A,x36.Version.B,x36.Version.C,x39))))
   else
    (some (Fl.nxt (x20.Low.A,x20.Low.B,x20.Low.C,x22)))).bind (Fl.go some fun v41=>
  (strings_CutPrefix v41.2.2.2 (bs [60])).bind fun x42=>
  (if x42.2 then
    ((yY x42.1).bind fun x45=>
    if x45.Code !=0 then
     (some (Fl.ret ({Code:=5,Term:=({Name:=ByteArray.empty,Low:=({A:=0,B:=0,C:=0}:Version),High:=({A:=0,B:=0,C:=0}:Version)}:Term)}:xG)))
    else
     (some (Fl.nxt (x45.Version.A,x45.Version.B,x45.Version.C,bs []))))
   else
    (some (Fl.nxt (x20.High.A,x20.High.B,x20.High.C,v41.2.2.2)))).bind (Fl.go some fun v48=>
  if !(seq v48.2.2.2 (bs [])) then
   (some ({Code:=5,Term:=({Name:=ByteArray.empty,Low:=({A:=0,B:=0,C:=0}:Version),High:=({A:=0,B:=0,C:=0}:Version)}:Term)}:xG))
  else
   ((yV ({Name:=x20.Name,Low:=({A:=v41.1,B:=v41.2.1,C:=v41.2.2.1}:Version),High:=({A:=v48.1,B:=v48.2.1,C:=v48.2.2.1}:Version)}:Term)).bind fun x50=>
   if x50 !=0 then
    (some ({Code:=x50,Term:=({Name:=ByteArray.empty,Low:=({A:=0,B:=0,C:=0}:Version),High:=({A:=0,B:=0,C:=0}:Version)}:Term)}:xG))
   else
    (some ({Code:=0,Term:=({Name:=x20.Name,Low:=({A:=v41.1,B:=v41.2.1,C:=v41.2.2.1}:Version),High:=({A:=v48.1,B:=v48.2.1,C:=v48.2.2.1}:Version)}:Term)}:xG))))))
noncomputable def uN (a1:Term) (a2:Term):Option Bool:=
 some (seq a1.Name a2.Name)
noncomputable def zR (a1:(List Term)) (a2:Term) (s9:Int):Option (Lp Int (Fl Int Unit)):=
 if decide (s9< (a1.length:Int)) then
  ((idx a1 s9).bind fun x11=>
  (uN x11 a2).bind fun x13=>
  if x13 then
   (some (Lp.done (Fl.ret s9)))
  else
   (some (Lp.go (w64 (s9+1)))))
 else
  (some (Lp.done (Fl.nxt ())))
noncomputable def zT (a1:(List Term)) (a2:Term):Int→Option (Fl Int Unit):=loop (zR a1 a2)
noncomputable def zO (a1:(List Term)) (a2:Term):Option Int:=
 (zT a1 a2 0).bind (Fl.go some fun v16=>
 some (-1))
noncomputable def zH (a1:(List Term)) (a2:Term):Option Bool:=
 (zO a1 a2).bind fun x3=>
 some (decide (x3≥0))
noncomputable def vG (a1:(List Term)) (s10:Int):Option (Lp Int (Fl Bool Unit)):=
 if decide (s10< (a1.length:Int)) then
  ((idx a1 s10).bind fun x12=>
  (zFp a1 0 s10).bind fun x14=>
  (zH x14 x12).bind fun x16=>
  if x16 then
   (some (Lp.done (Fl.ret true)))
  else
   (some (Lp.go (w64 (s10+1)))))
 else
  (some (Lp.done (Fl.nxt ())))
noncomputable def tF (a1:(List Term)):Int→Option (Fl Bool Unit):=loop (vG a1)
noncomputable def vZ (a1:(List Term)):Option Bool:=
 (tF a1 0).bind (Fl.go some fun v19=>
 some false)
noncomputable def vK (x2:((List Int)×Bool)) (x4:(List ByteArray)) (s14:((List Term)×Int)):Option (Lp ((List Term)×Int) (Fl ((List Term)×Int) (List Term))):=
 if decide (s14.2< (x4.length:Int)) then
  ((idx x4 s14.2).bind fun x16=>
  (uI x16).bind fun x18=>
  if x18.Code !=0 then
   (some (Lp.done (Fl.ret (([]:List Term),5))))
  else
   ((app 64 s14.1 [x18.Term]).bind fun x21=>
   some (Lp.go (x21,w64 (s14.2+1)))))
 else
  (some (Lp.done (Fl.nxt s14.1)))
noncomputable def wT (x2:((List Int)×Bool)) (x4:(List ByteArray)):((List Term)×Int)→Option (Fl ((List Term)×Int) (List Term)):=loop (vK x2 x4)
noncomputable def vL (a1:zF):Option ((List Term)×Int):=
 (yA a1 (bs [114,111,111,116,115])).bind fun x2=>
 (uT (b2s x2.1)).bind fun x4=>
 (wT x2 x4 (([]:List Term),0)).bind (Fl.go some fun v23=>
 (yU v23).bind fun x24=>
 (if !(seq x24 (b2s x2.1)) then
   (some true)
  else
   (if decide ((v23.length:Int)>8) then
    (some true)
   else
    ((vZ v23).bind fun x28=>
    some x28))).bind fun v30=>
 if v30 then
  (some (([]:List Term),5))
 else
  (some (v23,0)))
noncomputable def tY (a1:zF):Option yE:=
 (yO a1).bind fun x2=>
 if x2 !=0 then
  (some ({Code:=x2,Asks:=([]:List Term)}:yE))
 else
  ((vL a1).bind fun x5=>
  some ({Code:=x5.2,Asks:=x5.1}:yE))
noncomputable def xH (a1:Int):Option Bool:=
 if decide (a1≥97) then
  (some (decide (a1≤122)))
 else
  (some false)
noncomputable def xW (a1:Int):Option Bool:=
 if decide (a1≥48) then
  (some (decide (a1≤57)))
 else
  (some false)
noncomputable def uF (a1:Int):Option Bool:=
 (xH a1).bind fun x2=>
 if x2 then
  (some true)
 else
  ((xW a1).bind fun x5=>
  if x5 then
   (some true)
  else
   (some (a1==95)))
noncomputable def tQ (a1:ByteArray) (s16:Int):Option (Lp Int (Fl Int Unit)):=
 if decide (s16< (a1.size:Int)) then
  ((bidx a1 s16).bind fun x18=>
  (uF x18).bind fun x20=>
  if !x20 then
   (some (Lp.done (Fl.ret 5)))
  else
   (some (Lp.go (w64 (s16+1)))))
 else
  (some (Lp.done (Fl.nxt ())))
noncomputable def vE (a1:ByteArray):Int→Option (Fl Int Unit):=loop (tQ a1)
noncomputable def uL (a1:ByteArray):Option Int:=
 (if decide ((a1.size:Int)<1) then
   (some true)
  else
   (if decide ((a1.size:Int)>12) then
    (some true)
   else
    ((bidx a1 0).bind fun x4=>
    (xH x4).bind fun x6=>
    some (!x6)))).bind fun v8=>
 if v8 then
  (some 5)
 else
  ((vE a1 0).bind (Fl.go some fun v23=>
  some 0))
noncomputable def xJ (a1:Int) (a2:Int) (a3:Int):Option Bool:=
 if decide (a1≥a2) then
  (some (decide (a1≤a3)))
 else
  (some false)
noncomputable def yX (a1:Version):Option Int:=
 (xJ a1.A 0 999).bind fun x2=>
 (if !x2 then
   (some true)
  else
   ((xJ a1.B 0 999).bind fun x5=>
   if !x5 then
    (some true)
   else
    ((xJ a1.C 0 999).bind fun x8=>
    some (!x8)))).bind fun v10=>
 if v10 then
  (some 3)
 else
  (some 0)
noncomputable def vR (a1:Int) (a2:Int):Option Int:=
 if decide (a1<a2) then
  (some (-1))
 else
  (if decide (a1>a2) then
   (some 1)
  else
   (some 0))
noncomputable def xC (a1:Version) (a2:Version):Option Int:=
 (vR a1.A a2.A).bind fun x3=>
 if x3 !=0 then
  (some x3)
 else
  ((vR a1.B a2.B).bind fun x6=>
  if x6 !=0 then
   (some x6)
  else
   ((vR a1.C a2.C).bind fun x9=>
   some x9))
noncomputable def uJ (a1:Term):Option Int:=
 (uL a1.Name).bind fun x2=>
 if x2 !=0 then
  (some x2)
 else
  ((yX a1.Low).bind fun x5=>
  if x5 !=0 then
   (some x5)
  else
   ((tJ).bind fun x8=>
   (if !(a1.High.A==x8.A&&(a1.High.B==x8.B&&(a1.High.C==x8.C&&true))) then
     ((yX a1.High).bind fun x11=>
     some (x11 !=0))
    else
     (some false)).bind fun v13=>
   if v13 then
    (some 3)
   else
    ((xC a1.Low a1.High).bind fun x15=>
    if decide (x15≥0) then
     (some 1)
    else
     (some 0))))
noncomputable def strings_HasPrefix (a1:ByteArray) (a2:ByteArray):Option Bool:=
 (zP a1 a2).bind fun x3=>
 some x3
noncomputable def kC (a1:zF) (a2:ByteArray) (s12:((List ByteArray)×Int)):Option (Lp ((List ByteArray)×Int) (List ByteArray)):=
 if decide (s12.2< (a1.Files.length:Int)) then
  ((idx a1.Files s12.2).bind fun x14=>
  (strings_HasPrefix x14.Path a2).bind fun x16=>
  (if x16 then
    ((app 16 s12.1 [x14.Path]).bind fun x19=>
    some x19)
   else
    (some s12.1)).bind fun v21=>
  some (Lp.go (v21,w64 (s12.2+1))))
 else
  (some (Lp.done s12.1))
noncomputable def wR (a1:zF) (a2:ByteArray):((List ByteArray)×Int)→Option (List ByteArray):=loop (kC a1 a2)
noncomputable def vJ (a1:zF) (a2:ByteArray):Option (List ByteArray):=
 (wR a1 a2 (([]:List ByteArray),0)).bind fun v22=>
 some v22
noncomputable def vW (x2:(List ByteArray)) (s17:((List Int)×Int)):Option (Lp ((List Int)×Int) (List Int)):=
 if decide (s17.2< (x2.length:Int)) then
  ((idx x2 s17.2).bind fun x19=>
  (zCg x19 4 (x19.size:Int)).bind fun x21=>
  (wV x21 6).bind fun x23=>
  (if decide (x23≥1) then
    (some ((x19.size:Int)==10))
   else
    (some false)).bind fun v26=>
  (if v26 then
    ((app 8 s17.1 [x23]).bind fun x28=>
    some x28)
   else
    (some s17.1)).bind fun v30=>
  some (Lp.go (v30,w64 (s17.2+1))))
 else
  (some (Lp.done s17.1))
noncomputable def uS (x2:(List ByteArray)):((List Int)×Int)→Option (List Int):=loop (vW x2)
noncomputable def wN (a1:zF):Option (List Int):=
 (vJ a1 (bs [103,101,110,47])).bind fun x2=>
 (uS x2 (([]:List Int),0)).bind fun v31=>
 some v31
noncomputable def xR (a1:(List Int)) (a2:Int) (s7:Int):Option (Lp Int (Fl Int Unit)):=
 if decide (s7< (a1.length:Int)) then
  ((idx a1 s7).bind fun x9=>
  if a2==x9 then
   (some (Lp.done (Fl.ret s7)))
  else
   (some (Lp.go (w64 (s7+1)))))
 else
  (some (Lp.done (Fl.nxt ())))
noncomputable def wB (a1:(List Int)) (a2:Int):Int→Option (Fl Int Unit):=loop (xR a1 a2)
noncomputable def wJ (a1:(List Int)) (a2:Int):Option Int:=
 (wB a1 a2 0).bind (Fl.go some fun v12=>
 some (-1))
noncomputable def yP (a1:(List Int)) (a2:Int):Option Bool:=
 (wJ a1 a2).bind fun x3=>
 some (decide (x3≥0))
noncomputable def vC (a1:zF):Option (Int×Int):=
 (yA a1 (bs [99,117,114])).bind fun x2=>
 (wV (b2s x2.1) 6).bind fun x4=>
 (if !x2.2 then
   (some true)
  else
   ((wN a1).bind fun x7=>
   (yP x7 x4).bind fun x9=>
   some (!x9))).bind fun v11=>
 if v11 then
  (some (0,4))
 else
  (some (x4,0))
noncomputable def wQ (a1:zF):Option wX:=
 (yO a1).bind fun x2=>
 if x2 !=0 then
  (some ({Code:=x2,Value:=0}:wX))
 else
  ((vC a1).bind fun x5=>
  some ({Code:=x5.2,Value:=x5.1}:wX))
noncomputable def vV (x2:(List Int)) (s7:(Int×Int)):Option (Lp (Int×Int) Int):=
 if decide (s7.2< (x2.length:Int)) then
  ((idx x2 s7.2).bind fun x9=>
  some (Lp.go ((if (w64 (x9+1))>s7.1 then (w64 (x9+1)) else s7.1),w64 (s7.2+1))))
 else
  (some (Lp.done s7.1))
noncomputable def uR (x2:(List Int)):(Int×Int)→Option Int:=loop (vV x2)
noncomputable def wL (a1:zF):Option Int:=
 (wN a1).bind fun x2=>
 (uR x2 (1,0)).bind fun v11=>
 some v11
noncomputable def jH (a1:zF):Option wX:=
 (yO a1).bind fun x2=>
 (if x2==0 then
   ((wL a1).bind fun x5=>
   some (decide (x5>999999)))
  else
   (some false)).bind fun v7=>
 (if v7 then
   (some 2)
  else
   (some x2)).bind fun v9=>
 if v9 !=0 then
  (some ({Code:=v9,Value:=0}:wX))
 else
  ((wL a1).bind fun x11=>
  some ({Code:=0,Value:=x11}:wX))
noncomputable def tH (x5:(List Term)) (x12:zL) (x14:yE) (s49:Int) (s57:Int):Option (Lp Int (Fl Bool Unit)):=
 if decide (s57<s49) then
  ((idx x5 s57).bind fun x59=>
  (idx x5 s49).bind fun x61=>
  if seq x59.Name x61.Name then
   (some (Lp.done (Fl.ret (x14.Code==5))))
  else
   (some (Lp.go (w64 (s57+1)))))
 else
  (some (Lp.done (Fl.nxt ())))
noncomputable def uO (x5:(List Term)) (x12:zL) (x14:yE) (s49:Int):Int→Option (Fl Bool Unit):=loop (tH x5 x12 x14 s49)
noncomputable def jX (x5:(List Term)) (x12:zL) (x14:yE) (s75:Int):Option (Lp Int (Fl Bool Unit)):=
 if decide (s75< (x5.length:Int)) then
  ((idx x14.Asks s75).bind fun x77=>
  (idx x5 s75).bind fun x79=>
  if !(seq x77.Name x79.Name&&((x77.Low.A==x79.Low.A&&(x77.Low.B==x79.Low.B&&(x77.Low.C==x79.Low.C&&true)))&&((x77.High.A==x79.High.A&&(x77.High.B==x79.High.B&&(x77.High.C==x79.High.C&&true)))&&true))) then
   (some (Lp.done (Fl.ret false)))
  else
   (some (Lp.go (w64 (s75+1)))))
 else
  (some (Lp.done (Fl.nxt ())))
noncomputable def uQ (x5:(List Term)) (x12:zL) (x14:yE):Int→Option (Fl Bool Unit):=loop (jX x5 x12 x14)
noncomputable def uY (x5:(List Term)) (x12:zL) (x14:yE) (s49:Int):Option (Lp Int (Fl Bool Unit)):=
 if decide (s49< (x5.length:Int)) then
  ((uO x5 x12 x14 s49 0).bind (Fl.go (fun r=>some (Lp.done (Fl.ret r))) fun v64=>
  some (Lp.go (w64 (s49+1)))))
 else
  (some (Lp.done (Fl.nxt ())))
noncomputable def jA (x5:(List Term)) (x12:zL) (x14:yE):Int→Option (Fl Bool Unit):=loop (uY x5 x12 x14)
noncomputable def tC (x5:(List Term)) (x7:ByteArray) (x12:zL) (x14:yE) (s24:Int):Option (Lp Int (Fl Bool Unit)):=
 if decide (s24< (x5.length:Int)) then
  ((idx x5 s24).bind fun x26=>
  (uJ x26).bind fun x28=>
  if x28 !=0 then
   (if seq x7 (bs []) then
    (if x14.Code==0 then
     (some (Lp.done (Fl.ret ((x14.Asks.length:Int)==0))))
    else
     (some (Lp.done (Fl.ret false))))
   else
    (some (Lp.done (Fl.ret false))))
  else
   (some (Lp.go (w64 (s24+1)))))
 else
  (some (Lp.done (Fl.nxt ())))
noncomputable def jJ (x5:(List Term)) (x7:ByteArray) (x12:zL) (x14:yE):Int→Option (Fl Bool Unit):=loop (tC x5 x7 x12 x14)
noncomputable def uU (a1:(List Int)):Option Bool:=
 (kE a1).bind fun x2=>
 if x2 then
  (some true)
 else
  ((xP a1).bind fun x5=>
  (yU x5).bind fun x7=>
  (uV 20000).bind fun x9=>
  if x9.Code !=0 then
   (some false)
  else
   ((uK x9.zF (bs [114,111,111,116,115]) (s2b x7)).bind fun x12=>
   (tY x12.zF).bind fun x14=>
   (jJ x5 x7 x12 x14 0).bind (Fl.go some fun v33=>
   (jA x5 x12 x14 0).bind (Fl.go some fun v65=>
   (if x14.Code !=0 then
     (some true)
    else
     (some ((x14.Asks.length:Int) !=(x5.length:Int)))).bind fun v67=>
   if v67 then
    (some false)
   else
    ((uQ x5 x12 x14 0).bind (Fl.go some fun v82=>
    (wQ x12.zF).bind fun x83=>
    if x83.Value==1 then
     ((jH x12.zF).bind fun x86=>
     some (x86.Value==2))
    else
     (some false)))))))
noncomputable def zBB (a1:Int):Option Bool:=
 (uF a1).bind fun x2=>
 if x2 then
  (some true)
 else
  (if a1==46 then
   (some true)
  else
   (if a1==45 then
    (some true)
   else
    (some (a1==47))))
noncomputable def uE (a1:ByteArray) (s11:Int):Option (Lp Int (Fl Int Unit)):=
 if decide (s11< (a1.size:Int)) then
  ((bidx a1 s11).bind fun x13=>
  (zBB x13).bind fun x15=>
  if !x15 then
   (some (Lp.done (Fl.ret 5)))
  else
   (some (Lp.go (w64 (s11+1)))))
 else
  (some (Lp.done (Fl.nxt ())))
noncomputable def jQ (a1:ByteArray):Int→Option (Fl Int Unit):=loop (uE a1)
noncomputable def uG (a1:ByteArray):Option Int:=
 (if decide ((a1.size:Int)<1) then
   (some true)
  else
   (some (decide ((a1.size:Int)>40)))).bind fun v3=>
 if v3 then
  (some 5)
 else
  ((jQ a1 0).bind (Fl.go some fun v18=>
  some 0))
noncomputable def jW (a1:zF) (s5:(Int×Int)):Option (Lp (Int×Int) Int):=
 if decide (s5.2< (a1.Files.length:Int)) then
  ((idx a1.Files s5.2).bind fun x7=>
  some (Lp.go (w64 (s5.1+(x7.Data.length:Int)),w64 (s5.2+1))))
 else
  (some (Lp.done s5.1))
noncomputable def zAV (a1:zF):(Int×Int)→Option Int:=loop (jW a1)
noncomputable def zAe (a1:zF):Option Int:=
 (zAV a1 (0,0)).bind fun v9=>
 some v9
noncomputable def vY (a1:zF) (s29:Int):Option (Lp Int (Fl Int Unit)):=
 if decide (s29< (a1.Files.length:Int)) then
  ((idx a1.Files s29).bind fun x31=>
  (uG x31.Path).bind fun x33=>
  if x33 !=0 then
   (some (Lp.done (Fl.ret x33)))
  else
   ((if decide (s29>0) then
      ((idx a1.Files s29).bind fun x37=>
      (idx a1.Files (w64 (s29-1))).bind fun x39=>
      some (slt x37.Path x39.Path||seq x37.Path x39.Path))
     else
      (some false)).bind fun v41=>
   if v41 then
    (some (Lp.done (Fl.ret 1)))
   else
    ((idx a1.Files s29).bind fun x43=>
    if decide ((x43.Data.length:Int)>4000) then
     (some (Lp.done (Fl.ret 2)))
    else
     (some (Lp.go (w64 (s29+1)))))))
 else
  (some (Lp.done (Fl.nxt ())))
noncomputable def jN (a1:zF):Int→Option (Fl Int Unit):=loop (vY a1)
noncomputable def kZ (a1:zF):Option Int:=
 (xJ a1.Budget 0 20000).bind fun x2=>
 (if !x2 then
   (some true)
  else
   ((xJ a1.Writes 0 1000000000).bind fun x5=>
   if !x5 then
    (some true)
   else
    ((xJ a1.Stop (-1) 1000000000).bind fun x8=>
    some (!x8)))).bind fun v10=>
 if v10 then
  (some 3)
 else
  (if decide ((a1.Files.length:Int)>120) then
   (some 2)
  else
   ((jN a1 0).bind (Fl.go some fun v46=>
   (zAe a1).bind fun x47=>
   if decide (x47>a1.Budget) then
    (some 8)
   else
    (some 0))))
noncomputable def tZ (a1:zF) (s20:((List File)×Int)):Option (Lp ((List File)×Int) (List File)):=
 if decide (s20.2< (a1.Files.length:Int)) then
  ((idx a1.Files s20.2).bind fun x22=>
  (idx a1.Files s20.2).bind fun x24=>
  (app 1 ([]:List Int) x24.Data).bind fun x26=>
  (app 40 s20.1 [({Path:=x22.Path,Data:=x26}:File)]).bind fun x28=>
  some (Lp.go (x28,w64 (s20.2+1))))
 else
  (some (Lp.done s20.1))
noncomputable def kW (a1:zF):((List File)×Int)→Option (List File):=loop (tZ a1)
noncomputable def zAG (a1:zF):Option zF:=
 (kW a1 (([]:List File),0)).bind fun v30=>
 some ({Files:=v30,Budget:=a1.Budget,Writes:=a1.Writes,Stop:=a1.Stop,Down:=a1.Down}:zF)
noncomputable def kL (a1:ByteArray) (a2:ByteArray):Option Bool:=
 if decide ((a1.size:Int)≥(a2.size:Int)) then
  ((zCg a1 0 (a2.size:Int)).bind fun x4=>
  some (seq x4 a2))
 else
  (some false)
noncomputable def uZ (a1:zF) (a2:ByteArray) (s14:((List ByteArray)×Int)):Option (Lp ((List ByteArray)×Int) (List ByteArray)):=
 if decide (s14.2< (a1.Files.length:Int)) then
  ((idx a1.Files s14.2).bind fun x16=>
  (kL x16.Path a2).bind fun x18=>
  (if x18 then
    ((idx a1.Files s14.2).bind fun x21=>
    (app 16 s14.1 [x21.Path]).bind fun x23=>
    some x23)
   else
    (some s14.1)).bind fun v25=>
  some (Lp.go (v25,w64 (s14.2+1))))
 else
  (some (Lp.done s14.1))
noncomputable def kI (a1:zF) (a2:ByteArray):((List ByteArray)×Int)→Option (List ByteArray):=loop (uZ a1 a2)
noncomputable def zAf (a1:zF) (a2:ByteArray):Option (List ByteArray):=
 (kI a1 a2 (([]:List ByteArray),0)).bind fun v26=>
 some v26
noncomputable def jK (a1:ByteArray) (s14:(Int×Int)):Option (Lp (Int×Int) (Fl (Int×Bool) Int)):=
 if decide (s14.2< (a1.size:Int)) then
  ((bidx a1 s14.2).bind fun x16=>
  (xW x16).bind fun x18=>
  if !x18 then
   (some (Lp.done (Fl.ret (0,false))))
  else
   ((bidx a1 s14.2).bind fun x21=>
   some (Lp.go (w64 ((w64 (s14.1*10))+(w64 (IntKind.u8.wrap (x21-48)))),w64 (s14.2+1)))))
 else
  (some (Lp.done (Fl.nxt s14.1)))
noncomputable def zAL (a1:ByteArray):(Int×Int)→Option (Fl (Int×Bool) Int):=loop (jK a1)
noncomputable def zAC (a1:ByteArray) (a2:Int):Option (Int×Bool):=
 (if decide ((a1.size:Int)<1) then
   (some true)
  else
   (some (decide ((a1.size:Int)>a2)))).bind fun v4=>
 if v4 then
  (some (0,false))
 else
  ((zAL a1 (0,0)).bind (Fl.go some fun v23=>
  some (v23,true)))
noncomputable def vU (g:Int→Option ByteArray) (s:Int):Option ByteArray:=
 match s with
 |a1=>
 if decide (a1<10) then
  (some (b2s [IntKind.u8.wrap (w64 (48+a1))]))
 else
  ((g (w64 (a1.tdiv 10))).bind fun x3=>
  (cat x3 (b2s [IntKind.u8.wrap (w64 (48+(a1.tmod 10)))])).bind fun x5=>
  some x5)
noncomputable def zBv (a1:Int):Option ByteArray:=zJP vU 64 a1
noncomputable def zAY (a1:Int):Option ByteArray:=
 (xJ a1 1 999999).bind fun x2=>
 if !x2 then
  (some (bs []))
 else
  ((zBv (w64 (1000000+a1))).bind fun x5=>
  (zCg x5 1 (x5.size:Int)).bind fun x7=>
  (cat (bs [103,101,110,47]) x7).bind fun x9=>
  some x9)
noncomputable def kN (a1:zF) (x2:(List ByteArray)) (s21:((List Int)×Int)):Option (Lp ((List Int)×Int) (List Int)):=
 if decide (s21.2< (x2.length:Int)) then
  ((idx x2 s21.2).bind fun x23=>
  (zCg x23 4 (x23.size:Int)).bind fun x25=>
  (zAC x25 6).bind fun x27=>
  (if x27.2 then
    ((zAY x27.1).bind fun x30=>
    (idx x2 s21.2).bind fun x32=>
    some (seq x30 x32))
   else
    (some false)).bind fun v34=>
  (if v34 then
    ((app 8 s21.1 [x27.1]).bind fun x36=>
    some x36)
   else
    (some s21.1)).bind fun v38=>
  some (Lp.go (v38,w64 (s21.2+1))))
 else
  (some (Lp.done s21.1))
noncomputable def zB4 (a1:zF) (x2:(List ByteArray)):((List Int)×Int)→Option (List Int):=loop (kN a1 x2)
noncomputable def zBE (a1:zF):Option (List Int):=
 (zAf a1 (bs [103,101,110,47])).bind fun x2=>
 (zB4 a1 x2 (([]:List Int),0)).bind fun v39=>
 some v39
noncomputable def zDr (a1:zF):Option Int:=
 (zBE a1).bind fun x2=>
 if (x2.length:Int)==0 then
  (some 1)
 else
  ((idx x2 (w64 ((x2.length:Int)-1))).bind fun x5=>
  some (w64 (x5+1)))
noncomputable def kT (a1:zF) (a2:ByteArray) (s7:Int):Option (Lp Int (Fl Int Unit)):=
 if decide (s7< (a1.Files.length:Int)) then
  ((idx a1.Files s7).bind fun x9=>
  if seq x9.Path a2 then
   (some (Lp.done (Fl.ret s7)))
  else
   (some (Lp.go (w64 (s7+1)))))
 else
  (some (Lp.done (Fl.nxt ())))
noncomputable def zB1 (a1:zF) (a2:ByteArray):Int→Option (Fl Int Unit):=loop (kT a1 a2)
noncomputable def wW (a1:zF) (a2:ByteArray):Option Int:=
 (zB1 a1 a2 0).bind (Fl.go some fun v12=>
 some (-1))
noncomputable def zF9 (a1:zF):Option (Bool×zF):=
 if a1.Down then
  (some (false,a1))
 else
  ((if a1.Stop !=(-1) then
     (some (decide (a1.Writes≥a1.Stop)))
    else
     (some false)).bind fun v4=>
  if v4 then
   (some (false,({Files:=a1.Files,Budget:=a1.Budget,Writes:=a1.Writes,Stop:=a1.Stop,Down:=true}:zF)))
  else
   (some (true,({Files:=a1.Files,Budget:=a1.Budget,Writes:=w64 (a1.Writes+1),Stop:=a1.Stop,Down:=a1.Down}:zF))))
noncomputable def zC5 (a2:ByteArray) (x17:(Bool×zF)) (x20:(List Int)) (s30:Int):Option (Lp Int Int):=
 (if decide (s30< (x17.2.Files.length:Int)) then
   ((idx x17.2.Files s30).bind fun x32=>
   some (slt x32.Path a2))
  else
   (some false)).bind fun v34=>
 if v34 then
  (some (Lp.go (w64 (s30+1))))
 else
  (some (Lp.done s30))
noncomputable def zCW (a2:ByteArray) (x17:(Bool×zF)) (x20:(List Int)):Int→Option Int:=loop (zC5 a2 x17 x20)
noncomputable def zIW (a1:zF) (a2:ByteArray) (a3:(List Int)):Option (Int×zF):=
 (wW a1 a2).bind fun x4=>
 (if decide (x4≥0) then
   ((idx a1.Files x4).bind fun x7=>
   some (x7.Data.length:Int))
  else
   (some 0)).bind fun v9=>
 (if decide ((a3.length:Int)>4000) then
   (some true)
  else
   (if decide (x4<0) then
    (some (decide ((a1.Files.length:Int)≥120)))
   else
    (some false))).bind fun v12=>
 if v12 then
  (some (2,a1))
 else
  ((zAe a1).bind fun x14=>
  if decide ((w64 ((w64 (x14-v9))+(a3.length:Int)))>a1.Budget) then
   (some (8,a1))
  else
   ((zF9 a1).bind fun x17=>
   if !x17.1 then
    (some (9,x17.2))
   else
    ((app 1 ([]:List Int) a3).bind fun x20=>
    if decide (x4≥0) then
     ((idx x17.2.Files x4).bind fun x23=>
     some (0,({Files:=x17.2.Files.set x4.toNat ({Path:=a2,Data:=x20}:File),Budget:=x17.2.Budget,Writes:=x17.2.Writes,Stop:=x17.2.Stop,Down:=x17.2.Down}:zF)))
    else
     ((zCW a2 x17 x20 0).bind fun v36=>
     (zFp x17.2.Files 0 v36).bind fun x37=>
     (app 40 ([]:List File) x37).bind fun x39=>
     (app 40 x39 [({Path:=a2,Data:=x20}:File)]).bind fun x41=>
     (zFp x17.2.Files v36 (x17.2.Files.length:Int)).bind fun x43=>
     (app 40 x41 x43).bind fun x45=>
     some (0,({Files:=x45,Budget:=x17.2.Budget,Writes:=x17.2.Writes,Stop:=x17.2.Stop,Down:=x17.2.Down}:zF))))))
end Go.Told

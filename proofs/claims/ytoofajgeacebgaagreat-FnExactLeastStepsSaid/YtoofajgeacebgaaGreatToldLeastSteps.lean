import Derived.Test.YtoofajgeacebgaaGreatImG
set_option linter.unusedVariables false
set_option maxRecDepth 4000
namespace Go.Told
open Go Go.Im
structure Version where
 A:Int
 B:Int
 C:Int
 deriving DecidableEq
def Version.enc (x:Version):List D:=[.sc (.int .i64 x.A),.sc (.int .i64 x.B),.sc (.int .i64 x.C)]
theorem Version.fl (x:Version):zFu (Version.enc x):=(flatK yL (flatK yL (flatK yL zFh)))
structure Term where
 Name:ByteArray
 Low:Version
 High:Version
 deriving DecidableEq
def Term.enc (x:Term):List D:=[.sc (.string x.Name),.sc (.int .i64 x.Low.A),.sc (.int .i64 x.Low.B),.sc (.int .i64 x.Low.C),.sc (.int .i64 x.High.A),.sc (.int .i64 x.High.B),.sc (.int .i64 x.High.C)]
theorem Term.fl (x:Term):zFu (Term.enc x):=(flatK yL (flatK yL (flatK yL (flatK yL (flatK yL (flatK yL (flatK yL zFh)))))))
structure Pack where
 Name:ByteArray
 Version:Version
 Size:Int
 Provides:(List ByteArray)
 Needs:(List (List Term))
 Bars:(List Term)
 deriving DecidableEq
def Pack.enc (o:Bool) (x:Pack):List D:=[.sc (.string x.Name),.sc (.int .i64 x.Version.A),.sc (.int .i64 x.Version.B),.sc (.int .i64 x.Version.C),.sc (.int .i64 x.Size),.s o 1 x.Provides.length (x.Provides.map eStr),.s o 1 x.Needs.length (x.Needs.map (eSl o 7 Term.enc)),.s o 7 x.Bars.length (x.Bars.map Term.enc)]
theorem Pack.ro (o:Bool) (x:Pack):D.ro.roC (Pack.enc o x)=Pack.enc false x:=by
 simp only [Pack.enc,D.ro.roC,D.ro,zFH (enc:=eStr) (enc':=eStr) (fun _=>rfl),zFH (enc:=(eSl o 7 Term.enc)) (enc':=(eSl false 7 Term.enc)) (zD1 (fun _=>rfl)),zFH (enc:=Term.enc) (enc':=Term.enc) (fun _=>rfl)]
theorem Pack.fl (x:Pack):zFu (Pack.enc true x):=(flatK yL (flatK yL (flatK yL (flatK yL (flatK yL (flatK (zET (zGe (fun _=>(flatK yL zFh)) _)) (flatK (zET (zGe (fun _=>(flatK (zET (zGe (fun _=>(Term.fl _)) _)) zFh)) _)) (flatK (zET (zGe (fun _=>(Term.fl _)) _)) zFh))))))))
structure wQ where
 Code:Int
 Value:Int
 deriving DecidableEq
def wQ.enc (x:wQ):List D:=[.sc (.int .i64 x.Code),.sc (.int .i64 x.Value)]
theorem wQ.fl (x:wQ):zFu (wQ.enc x):=(flatK yL (flatK yL zFh))
structure yD where
 Code:Int
 Parts:(List (List ByteArray))
 deriving DecidableEq
def yD.enc (o:Bool) (x:yD):List D:=[.sc (.int .i64 x.Code),.s o 1 x.Parts.length (x.Parts.map (eSl o 1 eStr))]
theorem yD.ro (o:Bool) (x:yD):D.ro.roC (yD.enc o x)=yD.enc false x:=by
 simp only [yD.enc,D.ro.roC,D.ro,zFH (enc:=(eSl o 1 eStr)) (enc':=(eSl false 1 eStr)) (zD1 (fun _=>rfl))]
theorem yD.fl (x:yD):zFu (yD.enc true x):=(flatK yL (flatK (zET (zGe (fun _=>(flatK (zET (zGe (fun _=>(flatK yL zFh)) _)) zFh)) _)) zFh))
structure xE where
 Code:Int
 Sets:(List (List Int))
 deriving DecidableEq
def xE.enc (o:Bool) (x:xE):List D:=[.sc (.int .i64 x.Code),.s o 1 x.Sets.length (x.Sets.map (eSl o 1 zC))]
theorem xE.ro (o:Bool) (x:xE):D.ro.roC (xE.enc o x)=xE.enc false x:=by
 simp only [xE.enc,D.ro.roC,D.ro,zFH (enc:=(eSl o 1 zC)) (enc':=(eSl false 1 zC)) (zD1 (fun _=>rfl))]
theorem xE.fl (x:xE):zFu (xE.enc true x):=(flatK yL (flatK (zET (zGe (fun _=>(flatK (zET (zGe (fun _=>(flatK yL zFh)) _)) zFh)) _)) zFh))
structure zR where
 Kind:Int
 Pack:Int
 At:Int
 deriving DecidableEq
def zR.enc (x:zR):List D:=[.sc (.int .i64 x.Kind),.sc (.int .i64 x.Pack),.sc (.int .i64 x.At)]
theorem zR.fl (x:zR):zFu (zR.enc x):=(flatK yL (flatK yL (flatK yL zFh)))
noncomputable def zAH (a1:(List ByteArray)) (s8:(Int×Int)):Option (Lp (Int×Int) (Fl Int Int)):=
 if decide (s8.2< (a1.length:Int)) then
  ((idx a1 s8.2).bind fun x10=>
  if decide ((w64 (s8.1-(x10.size:Int)))<0) then
   (some (Lp.done (Fl.ret (-1))))
  else
   (some (Lp.go (w64 (s8.1-(x10.size:Int)),w64 (s8.2+1)))))
 else
  (some (Lp.done (Fl.nxt s8.1)))
noncomputable def zB0 (a1:(List ByteArray)):(Int×Int)→Option (Fl Int Int):=loop (zAH a1)
noncomputable def zBg (a1:(List ByteArray)) (a2:Int):Option Int:=
 if decide ((w64 (a2-(a1.length:Int)))<0) then
  (some (-1))
 else
  ((zB0 a1 (w64 (a2-(a1.length:Int)),0)).bind (Fl.go some fun v13=>
  some v13))
noncomputable def zDX (a1:Term) (a2:Int):Option Int:=
 if decide ((w64 (a2-(a1.Name.size:Int)))<0) then
  (some (-1))
 else
  (some (w64 (a2-(a1.Name.size:Int))))
noncomputable def zCf (a1:(List Term)) (s10:(Int×Int)):Option (Lp (Int×Int) (Fl Int Int)):=
 if decide (s10.2< (a1.length:Int)) then
  ((idx a1 s10.2).bind fun x12=>
  (zDX x12 s10.1).bind fun x14=>
  if decide (x14<0) then
   (some (Lp.done (Fl.ret (-1))))
  else
   (some (Lp.go (x14,w64 (s10.2+1)))))
 else
  (some (Lp.done (Fl.nxt s10.1)))
noncomputable def zCJ (a1:(List Term)):(Int×Int)→Option (Fl Int Int):=loop (zCf a1)
noncomputable def zAY (a1:(List Term)) (a2:Int):Option Int:=
 if decide ((w64 (a2-(a1.length:Int)))<0) then
  (some (-1))
 else
  ((zCJ a1 (w64 (a2-(a1.length:Int)),0)).bind (Fl.go some fun v17=>
  some v17))
noncomputable def zBv (a1:(List (List Term))) (s10:(Int×Int)):Option (Lp (Int×Int) (Fl Int Int)):=
 if decide (s10.2< (a1.length:Int)) then
  ((idx a1 s10.2).bind fun x12=>
  (zAY x12 s10.1).bind fun x14=>
  if decide (x14<0) then
   (some (Lp.done (Fl.ret (-1))))
  else
   (some (Lp.go (x14,w64 (s10.2+1)))))
 else
  (some (Lp.done (Fl.nxt s10.1)))
noncomputable def zCc (a1:(List (List Term))):(Int×Int)→Option (Fl Int Int):=loop (zBv a1)
noncomputable def zBQ (a1:(List (List Term))) (a2:Int):Option Int:=
 if decide ((w64 (a2-(a1.length:Int)))<0) then
  (some (-1))
 else
  ((zCc a1 (w64 (a2-(a1.length:Int)),0)).bind (Fl.go some fun v17=>
  some v17))
noncomputable def zDS (a1:Pack) (a2:Int):Option Int:=
 if decide ((w64 (a2-(a1.Name.size:Int)))<0) then
  (some (-1))
 else
  ((zBg a1.Provides (w64 (a2-(a1.Name.size:Int)))).bind fun x4=>
  if decide (x4<0) then
   (some (-1))
  else
   ((zBQ a1.Needs x4).bind fun x7=>
   if decide (x7<0) then
    (some (-1))
   else
    ((zAY a1.Bars x7).bind fun x10=>
    if decide (x10<0) then
     (some (-1))
    else
     (some x10))))
noncomputable def zCq (a1:(List Pack)) (s10:(Int×Int)):Option (Lp (Int×Int) (Fl Int Int)):=
 if decide (s10.2< (a1.length:Int)) then
  ((idx a1 s10.2).bind fun x12=>
  (zDS x12 s10.1).bind fun x14=>
  if decide (x14<0) then
   (some (Lp.done (Fl.ret (-1))))
  else
   (some (Lp.go (x14,w64 (s10.2+1)))))
 else
  (some (Lp.done (Fl.nxt s10.1)))
noncomputable def zDa (a1:(List Pack)):(Int×Int)→Option (Fl Int Int):=loop (zCq a1)
noncomputable def kP (a1:(List Pack)) (a2:Int):Option Int:=
 if decide ((w64 (a2-(a1.length:Int)))<0) then
  (some (-1))
 else
  ((zDa a1 (w64 (a2-(a1.length:Int)),0)).bind (Fl.go some fun v17=>
  some v17))
noncomputable def uT (a1:Version):Option Version:=
 some a1
noncomputable def zC8 (a1:(List ByteArray)) (s9:((List ByteArray)×Int)):Option (Lp ((List ByteArray)×Int) (List ByteArray)):=
 if decide (s9.2< (a1.length:Int)) then
  ((idx a1 s9.2).bind fun x11=>
  (idx s9.1 s9.2).bind fun x13=>
  some (Lp.go (s9.1.set s9.2.toNat x11,w64 (s9.2+1))))
 else
  (some (Lp.done s9.1))
noncomputable def zBx (a1:(List ByteArray)):((List ByteArray)×Int)→Option (List ByteArray):=loop (zC8 a1)
noncomputable def zBn (a1:(List ByteArray)):Option (List ByteArray):=
 (mk 16 (a1.length:Int) ByteArray.empty).bind fun x2=>
 (zBx a1 (x2,0)).bind fun v15=>
 some v15
noncomputable def zDV (a1:Term):Option Term:=
 (uT a1.Low).bind fun x2=>
 (uT a1.High).bind fun x4=>
 some ({Name:=a1.Name,Low:=x2,High:=x4}:Term)
noncomputable def zDL (a1:(List Term)) (s11:((List Term)×Int)):Option (Lp ((List Term)×Int) (List Term)):=
 if decide (s11.2< (a1.length:Int)) then
  ((idx a1 s11.2).bind fun x13=>
  (zDV x13).bind fun x15=>
  (idx s11.1 s11.2).bind fun x17=>
  some (Lp.go (s11.1.set s11.2.toNat x15,w64 (s11.2+1))))
 else
  (some (Lp.done s11.1))
noncomputable def zDi (a1:(List Term)):((List Term)×Int)→Option (List Term):=loop (zDL a1)
noncomputable def zAR (a1:(List Term)):Option (List Term):=
 (mk 64 (a1.length:Int) ({Name:=ByteArray.empty,Low:=({A:=0,B:=0,C:=0}:Version),High:=({A:=0,B:=0,C:=0}:Version)}:Term)).bind fun x2=>
 (zDi a1 (x2,0)).bind fun v19=>
 some v19
noncomputable def zDw (a1:(List (List Term))) (s11:((List (List Term))×Int)):Option (Lp ((List (List Term))×Int) (List (List Term))):=
 if decide (s11.2< (a1.length:Int)) then
  ((idx a1 s11.2).bind fun x13=>
  (zAR x13).bind fun x15=>
  (idx s11.1 s11.2).bind fun x17=>
  some (Lp.go (s11.1.set s11.2.toNat x15,w64 (s11.2+1))))
 else
  (some (Lp.done s11.1))
noncomputable def zCb (a1:(List (List Term))):((List (List Term))×Int)→Option (List (List Term)):=loop (zDw a1)
noncomputable def zBN (a1:(List (List Term))):Option (List (List Term)):=
 (mk 24 (a1.length:Int) ([]:List Term)).bind fun x2=>
 (zCb a1 (x2,0)).bind fun v19=>
 some v19
noncomputable def zDU (a1:Pack):Option Pack:=
 (uT a1.Version).bind fun x2=>
 (zBn a1.Provides).bind fun x4=>
 (zBN a1.Needs).bind fun x6=>
 (zAR a1.Bars).bind fun x8=>
 some ({Name:=a1.Name,Version:=x2,Size:=a1.Size,Provides:=x4,Needs:=x6,Bars:=x8}:Pack)
noncomputable def zDM (a1:(List Pack)) (s11:((List Pack)×Int)):Option (Lp ((List Pack)×Int) (List Pack)):=
 if decide (s11.2< (a1.length:Int)) then
  ((idx a1 s11.2).bind fun x13=>
  (zDU x13).bind fun x15=>
  (idx s11.1 s11.2).bind fun x17=>
  some (Lp.go (s11.1.set s11.2.toNat x15,w64 (s11.2+1))))
 else
  (some (Lp.done s11.1))
noncomputable def zCV (a1:(List Pack)):((List Pack)×Int)→Option (List Pack):=loop (zDM a1)
noncomputable def xO (a1:(List Pack)):Option (List Pack):=
 (mk 120 (a1.length:Int) ({Name:=ByteArray.empty,Version:=({A:=0,B:=0,C:=0}:Version),Size:=0,Provides:=([]:List ByteArray),Needs:=([]:List (List Term)),Bars:=([]:List Term)}:Pack)).bind fun x2=>
 (zCV a1 (x2,0)).bind fun v19=>
 some v19
noncomputable def zDz (a1:(List Int)) (s9:((List Int)×Int)):Option (Lp ((List Int)×Int) (List Int)):=
 if decide (s9.2< (a1.length:Int)) then
  ((idx a1 s9.2).bind fun x11=>
  (idx s9.1 s9.2).bind fun x13=>
  some (Lp.go (s9.1.set s9.2.toNat x11,w64 (s9.2+1))))
 else
  (some (Lp.done s9.1))
noncomputable def zCu (a1:(List Int)):((List Int)×Int)→Option (List Int):=loop (zDz a1)
noncomputable def zH (a1:(List Int)):Option (List Int):=
 (mk 8 (a1.length:Int) 0).bind fun x2=>
 (zCu a1 (x2,0)).bind fun v15=>
 some v15
noncomputable def jF (a1:Int):Option Bool:=
 if decide (a1≥97) then
  (some (decide (a1≤122)))
 else
  (some false)
noncomputable def zBJ (a1:Int):Option Bool:=
 if decide (a1≥48) then
  (some (decide (a1≤57)))
 else
  (some false)
noncomputable def zDT (a1:Int):Option Bool:=
 (jF a1).bind fun x2=>
 if x2 then
  (some true)
 else
  ((zBJ a1).bind fun x5=>
  if x5 then
   (some true)
  else
   (some (a1==95)))
noncomputable def zC7 (a1:ByteArray) (s16:Int):Option (Lp Int (Fl Int Unit)):=
 if decide (s16< (a1.size:Int)) then
  ((bidx a1 s16).bind fun x18=>
  (zDT x18).bind fun x20=>
  if !x20 then
   (some (Lp.done (Fl.ret 5)))
  else
   (some (Lp.go (w64 (s16+1)))))
 else
  (some (Lp.done (Fl.nxt ())))
noncomputable def zAg (a1:ByteArray):Int→Option (Fl Int Unit):=loop (zC7 a1)
noncomputable def uR (a1:ByteArray):Option Int:=
 (if decide ((a1.size:Int)<1) then
   (some true)
  else
   (if decide ((a1.size:Int)>12) then
    (some true)
   else
    ((bidx a1 0).bind fun x4=>
    (jF x4).bind fun x6=>
    some (!x6)))).bind fun v8=>
 if v8 then
  (some 5)
 else
  ((zAg a1 0).bind (Fl.go some fun v23=>
  some 0))
noncomputable def tN (a1:Int) (a2:Int) (a3:Int):Option Bool:=
 if decide (a1≥a2) then
  (some (decide (a1≤a3)))
 else
  (some false)
noncomputable def vH (a1:Version):Option Int:=
 (tN a1.A 0 999).bind fun x2=>
 (if !x2 then
   (some true)
  else
   ((tN a1.B 0 999).bind fun x5=>
   if !x5 then
    (some true)
   else
    ((tN a1.C 0 999).bind fun x8=>
    some (!x8)))).bind fun v10=>
 if v10 then
  (some 3)
 else
  (some 0)
noncomputable def zCp (a1:(List ByteArray)) (a2:ByteArray) (s7:Int):Option (Lp Int (Fl Bool Unit)):=
 if decide (s7< (a1.length:Int)) then
  ((idx a1 s7).bind fun x9=>
  if seq x9 a2 then
   (some (Lp.done (Fl.ret true)))
  else
   (some (Lp.go (w64 (s7+1)))))
 else
  (some (Lp.done (Fl.nxt ())))
noncomputable def zDj (a1:(List ByteArray)) (a2:ByteArray):Int→Option (Fl Bool Unit):=loop (zCp a1 a2)
noncomputable def wP (a1:(List ByteArray)) (a2:ByteArray):Option Bool:=
 (zDj a1 a2 0).bind (Fl.go some fun v12=>
 some false)
noncomputable def zEt:Option Version:=
 some ({A:=1000,B:=0,C:=0}:Version)
noncomputable def zA4 (a1:Int) (a2:Int):Option Int:=
 if decide (a1<a2) then
  (some (-1))
 else
  (if decide (a1>a2) then
   (some 1)
  else
   (some 0))
noncomputable def xJ (a1:Version) (a2:Version):Option Int:=
 (zA4 a1.A a2.A).bind fun x3=>
 if x3 !=0 then
  (some x3)
 else
  ((zA4 a1.B a2.B).bind fun x6=>
  if x6 !=0 then
   (some x6)
  else
   ((zA4 a1.C a2.C).bind fun x9=>
   some x9))
noncomputable def zBj (a1:Term):Option Int:=
 (uR a1.Name).bind fun x2=>
 if x2 !=0 then
  (some x2)
 else
  ((vH a1.Low).bind fun x5=>
  if x5 !=0 then
   (some x5)
  else
   ((zEt).bind fun x8=>
   (if !(a1.High.A==x8.A&&(a1.High.B==x8.B&&(a1.High.C==x8.C&&true))) then
     ((vH a1.High).bind fun x11=>
     some (x11 !=0))
    else
     (some false)).bind fun v13=>
   if v13 then
    (some 3)
   else
    ((xJ a1.Low a1.High).bind fun x15=>
    if decide (x15≥0) then
     (some 1)
    else
     (some 0))))
noncomputable def zCt (a1:(List Term)) (s8:Int):Option (Lp Int (Fl Int Unit)):=
 if decide (s8< (a1.length:Int)) then
  ((idx a1 s8).bind fun x10=>
  (zBj x10).bind fun x12=>
  if x12 !=0 then
   (some (Lp.done (Fl.ret x12)))
  else
   (some (Lp.go (w64 (s8+1)))))
 else
  (some (Lp.done (Fl.nxt ())))
noncomputable def zCU (a1:(List Term)):Int→Option (Fl Int Unit):=loop (zCt a1)
noncomputable def zAd (a1:(List Term)):Option Int:=
 (zCU a1 0).bind (Fl.go some fun v15=>
 some 0)
noncomputable def zAG (a1:Pack) (s70:Int):Option (Lp Int (Fl Int Unit)):=
 if decide (s70< (a1.Needs.length:Int)) then
  ((idx a1.Needs s70).bind fun x72=>
  if (x72.length:Int)==0 then
   (some (Lp.done (Fl.ret 1)))
  else
   ((idx a1.Needs s70).bind fun x75=>
   (zAd x75).bind fun x77=>
   if x77 !=0 then
    (some (Lp.done (Fl.ret x77)))
   else
    (some (Lp.go (w64 (s70+1))))))
 else
  (some (Lp.done (Fl.nxt ())))
noncomputable def zAl (a1:Pack):Int→Option (Fl Int Unit):=loop (zAG a1)
noncomputable def zAN (a1:Pack) (s42:Int):Option (Lp Int (Fl Int Unit)):=
 if decide (s42< (a1.Provides.length:Int)) then
  ((idx a1.Provides s42).bind fun x44=>
  (uR x44).bind fun x46=>
  if x46 !=0 then
   (some (Lp.done (Fl.ret x46)))
  else
   ((idx a1.Provides s42).bind fun x49=>
   (if seq x49 a1.Name then
     (some true)
    else
     ((zF8 a1.Provides 0 s42).bind fun x52=>
     (idx a1.Provides s42).bind fun x54=>
     (wP x52 x54).bind fun x56=>
     some x56)).bind fun v58=>
   if v58 then
    (some (Lp.done (Fl.ret 6)))
   else
    (some (Lp.go (w64 (s42+1))))))
 else
  (some (Lp.done (Fl.nxt ())))
noncomputable def zAn (a1:Pack):Int→Option (Fl Int Unit):=loop (zAN a1)
noncomputable def zAF (a1:Pack) (s19:Int):Option (Lp Int (Fl Int Unit)):=
 if decide (s19< (a1.Needs.length:Int)) then
  ((idx a1.Needs s19).bind fun x21=>
  if decide ((x21.length:Int)>4) then
   (some (Lp.done (Fl.ret 2)))
  else
   (some (Lp.go (w64 (s19+1)))))
 else
  (some (Lp.done (Fl.nxt ())))
noncomputable def zBD (a1:Pack):Int→Option (Fl Int Unit):=loop (zAF a1)
noncomputable def zBo (a1:Pack):Option Int:=
 (uR a1.Name).bind fun x2=>
 if x2 !=0 then
  (some x2)
 else
  ((vH a1.Version).bind fun x5=>
  if x5 !=0 then
   (some x5)
  else
   ((tN a1.Size 1 200).bind fun x8=>
   if !x8 then
    (some 3)
   else
    ((if decide ((a1.Provides.length:Int)>4) then
       (some true)
      else
       (if decide ((a1.Needs.length:Int)>4) then
        (some true)
       else
        (some (decide ((a1.Bars.length:Int)>4))))).bind fun v13=>
    if v13 then
     (some 2)
    else
     ((zBD a1 0).bind (Fl.go some fun v24=>
     (zAn a1 0).bind (Fl.go some fun v60=>
     (zAl a1 0).bind (Fl.go some fun v80=>
     (zAd a1.Bars).bind fun x81=>
     some x81)))))))
noncomputable def zCY (a1:(List Pack)) (a2:ByteArray) (a3:Version) (s14:Int):Option (Lp Int (Fl Int Unit)):=
 if decide (s14< (a1.length:Int)) then
  ((idx a1 s14).bind fun x16=>
  (if seq x16.Name a2 then
    ((idx a1 s14).bind fun x19=>
    (xJ x19.Version a3).bind fun x21=>
    some (x21==0))
   else
    (some false)).bind fun v23=>
  if v23 then
   (some (Lp.done (Fl.ret s14)))
  else
   (some (Lp.go (w64 (s14+1)))))
 else
  (some (Lp.done (Fl.nxt ())))
noncomputable def zD3 (a1:(List Pack)) (a2:ByteArray) (a3:Version):Int→Option (Fl Int Unit):=loop (zCY a1 a2 a3)
noncomputable def zDc (a1:(List Pack)) (a2:ByteArray) (a3:Version):Option Int:=
 (zD3 a1 a2 a3 0).bind (Fl.go some fun v25=>
 some (-1))
noncomputable def kL (a1:(List Pack)) (s18:Int):Option (Lp Int (Fl Int Unit)):=
 if decide (s18< (a1.length:Int)) then
  ((idx a1 s18).bind fun x20=>
  (zBo x20).bind fun x22=>
  if x22 !=0 then
   (some (Lp.done (Fl.ret x22)))
  else
   ((zF8 a1 0 s18).bind fun x25=>
   (idx a1 s18).bind fun x27=>
   (idx a1 s18).bind fun x29=>
   (zDc x25 x27.Name x29.Version).bind fun x31=>
   if decide (x31≥0) then
    (some (Lp.done (Fl.ret 6)))
   else
    (some (Lp.go (w64 (s18+1))))))
 else
  (some (Lp.done (Fl.nxt ())))
noncomputable def kZ (a1:(List Pack)):Int→Option (Fl Int Unit):=loop (kL a1)
noncomputable def jY (a1:(List Pack)):Option Int:=
 if decide ((a1.length:Int)>24) then
  (some 2)
 else
  ((kZ a1 0).bind (Fl.go some fun v34=>
  some 0))
noncomputable def zD4 (a1:(List Pack)) (a2:(List Int)) (s16:Int):Option (Lp Int (Fl Bool Unit)):=
 if decide (s16< (a2.length:Int)) then
  ((idx a2 s16).bind fun x18=>
  (tN x18 0 (w64 ((a1.length:Int)-1))).bind fun x20=>
  (if !x20 then
    (some true)
   else
    (if decide (s16>0) then
     ((idx a2 s16).bind fun x24=>
     (idx a2 (w64 (s16-1))).bind fun x26=>
     some (decide (x24≤x26)))
    else
     (some false))).bind fun v28=>
  if v28 then
   (some (Lp.done (Fl.ret false)))
  else
   (some (Lp.go (w64 (s16+1)))))
 else
  (some (Lp.done (Fl.nxt ())))
noncomputable def zEc (a1:(List Pack)) (a2:(List Int)):Int→Option (Fl Bool Unit):=loop (zD4 a1 a2)
noncomputable def zEr (a1:(List Pack)) (a2:(List Int)):Option Bool:=
 (zEc a1 a2 0).bind (Fl.go some fun v30=>
 some true)
noncomputable def zAa (a1:(List Pack)) (a2:(List Int)):Option Int:=
 (jY a1).bind fun x3=>
 if x3 !=0 then
  (some x3)
 else
  ((zEr a1 a2).bind fun x6=>
  if !x6 then
   (some 1)
  else
   (some 0))
noncomputable def zAc (a1:Term) (a2:ByteArray) (a3:Version):Option Bool:=
 if seq a1.Name a2 then
  ((xJ a3 a1.Low).bind fun x5=>
  if decide (x5≥0) then
   ((xJ a3 a1.High).bind fun x8=>
   some (decide (x8<0)))
  else
   (some false))
 else
  (some false)
noncomputable def zCG (a1:Pack) (a2:Term):Option Bool:=
 if seq a2.Name a1.Name then
  ((zAc a2 a2.Name a1.Version).bind fun x4=>
  some x4)
 else
  ((wP a1.Provides a2.Name).bind fun x6=>
  if x6 then
   ((zAc a2 a2.Name a1.Version).bind fun x9=>
   some x9)
  else
   (some false))
noncomputable def zCe (a1:(List Pack)) (a2:(List Int)) (a3:Term) (a4:Int) (s17:Int):Option (Lp Int (Fl Bool Unit)):=
 if decide (s17< (a2.length:Int)) then
  ((idx a2 s17).bind fun x19=>
  (if x19 !=a4 then
    ((idx a2 s17).bind fun x22=>
    (idx a1 x22).bind fun x24=>
    (zCG x24 a3).bind fun x26=>
    some x26)
   else
    (some false)).bind fun v28=>
  if v28 then
   (some (Lp.done (Fl.ret true)))
  else
   (some (Lp.go (w64 (s17+1)))))
 else
  (some (Lp.done (Fl.nxt ())))
noncomputable def zCX (a1:(List Pack)) (a2:(List Int)) (a3:Term) (a4:Int):Int→Option (Fl Bool Unit):=loop (zCe a1 a2 a3 a4)
noncomputable def zAL (a1:(List Pack)) (a2:(List Int)) (a3:Term) (a4:Int):Option Bool:=
 (zCX a1 a2 a3 a4 0).bind (Fl.go some fun v30=>
 some false)
noncomputable def zDC (a1:(List Pack)) (a2:(List Int)) (a3:(List Term)) (s10:Int):Option (Lp Int (Fl Bool Unit)):=
 if decide (s10< (a3.length:Int)) then
  ((idx a3 s10).bind fun x12=>
  (zAL a1 a2 x12 (-1)).bind fun x14=>
  if x14 then
   (some (Lp.done (Fl.ret true)))
  else
   (some (Lp.go (w64 (s10+1)))))
 else
  (some (Lp.done (Fl.nxt ())))
noncomputable def zEh (a1:(List Pack)) (a2:(List Int)) (a3:(List Term)):Int→Option (Fl Bool Unit):=loop (zDC a1 a2 a3)
noncomputable def zEn (a1:(List Pack)) (a2:(List Int)) (a3:(List Term)):Option Bool:=
 (zEh a1 a2 a3 0).bind (Fl.go some fun v17=>
 some false)
noncomputable def zBA (a1:(List Pack)) (a2:(List Int)) (s82:((List zR)×Int)) (x86:Pack) (s147:((List zR)×Int)):Option (Lp ((List zR)×Int) (List zR)):=
 if decide (s147.2< (x86.Bars.length:Int)) then
  ((idx x86.Bars s147.2).bind fun x149=>
  (idx a2 s82.2).bind fun x151=>
  (zAL a1 a2 x149 x151).bind fun x153=>
  (if x153 then
    ((idx a2 s82.2).bind fun x156=>
    (app 24 s147.1 [({Kind:=3,Pack:=x156,At:=s147.2}:zR)]).bind fun x158=>
    some x158)
   else
    (some s147.1)).bind fun v160=>
  some (Lp.go (v160,w64 (s147.2+1))))
 else
  (some (Lp.done s147.1))
noncomputable def zCd (a1:(List Pack)) (a2:(List Int)) (s82:((List zR)×Int)) (x86:Pack):((List zR)×Int)→Option (List zR):=loop (zBA a1 a2 s82 x86)
noncomputable def zB7 (a1:(List Pack)) (a2:(List Int)) (s82:((List zR)×Int)) (x86:Pack) (s121:((List zR)×Int)):Option (Lp ((List zR)×Int) (List zR)):=
 if decide (s121.2< (x86.Needs.length:Int)) then
  ((idx x86.Needs s121.2).bind fun x123=>
  (zEn a1 a2 x123).bind fun x125=>
  (if !x125 then
    ((idx a2 s82.2).bind fun x128=>
    (app 24 s121.1 [({Kind:=2,Pack:=x128,At:=s121.2}:zR)]).bind fun x130=>
    some x130)
   else
    (some s121.1)).bind fun v132=>
  some (Lp.go (v132,w64 (s121.2+1))))
 else
  (some (Lp.done s121.1))
noncomputable def zCj (a1:(List Pack)) (a2:(List Int)) (s82:((List zR)×Int)) (x86:Pack):((List zR)×Int)→Option (List zR):=loop (zB7 a1 a2 s82 x86)
noncomputable def zB5 (a1:(List Pack)) (a2:(List Int)) (s82:((List zR)×Int)) (x86:Pack) (s98:Int):Option (Lp Int (List zR)):=
 if decide (s98<s82.2) then
  ((idx a2 s98).bind fun x100=>
  (idx a1 x100).bind fun x102=>
  if seq x102.Name x86.Name then
   ((idx a2 s82.2).bind fun x105=>
   (app 24 s82.1 [({Kind:=1,Pack:=x105,At:=0}:zR)]).bind fun x107=>
   some (Lp.done x107))
  else
   (some (Lp.go (w64 (s98+1)))))
 else
  (some (Lp.done s82.1))
noncomputable def zAD (a1:(List Pack)) (a2:(List Int)) (s82:((List zR)×Int)) (x86:Pack):Int→Option (List zR):=loop (zB5 a1 a2 s82 x86)
noncomputable def zBy (a1:(List Pack)) (a2:(List Int)) (s82:((List zR)×Int)):Option (Lp ((List zR)×Int) (List zR)):=
 if decide (s82.2< (a2.length:Int)) then
  ((idx a2 s82.2).bind fun x84=>
  (idx a1 x84).bind fun x86=>
  (zAD a1 a2 s82 x86 0).bind fun v109=>
  (zCj a1 a2 s82 x86 (v109,0)).bind fun v133=>
  (zCd a1 a2 s82 x86 (v133,0)).bind fun v161=>
  some (Lp.go (v161,w64 (s82.2+1))))
 else
  (some (Lp.done s82.1))
noncomputable def zCw (a1:(List Pack)) (a2:(List Int)):((List zR)×Int)→Option (List zR):=loop (zBy a1 a2)
noncomputable def zBO (a1:(List Pack)) (a2:(List Int)):Option (List zR):=
 (zCw a1 a2 (([]:List zR),0)).bind fun v162=>
 some v162
noncomputable def kT (a1:(List Pack)) (a2:(List Int)):Option Bool:=
 (zBO a1 a2).bind fun x3=>
 some ((x3.length:Int)==0)
noncomputable def kM (a1:(List Pack)) (a2:(List Int)) (a3:(List Int)):Option Int:=
 (zAa a1 a2).bind fun x4=>
 if x4 !=0 then
  (some x4)
 else
  ((zAa a1 a3).bind fun x7=>
  if x7 !=0 then
   (some x7)
  else
   ((kT a1 a2).bind fun x10=>
   (if !x10 then
     (some true)
    else
     ((kT a1 a3).bind fun x13=>
     some (!x13))).bind fun v15=>
   if v15 then
    (some 1)
   else
    (some 0)))
noncomputable def zDG (a1:(List Pack)) (a2:(List Int)) (a3:ByteArray) (s12:Int):Option (Lp Int (Fl Int Unit)):=
 if decide (s12< (a2.length:Int)) then
  ((idx a2 s12).bind fun x14=>
  (idx a1 x14).bind fun x16=>
  if seq x16.Name a3 then
   ((idx a2 s12).bind fun x19=>
   some (Lp.done (Fl.ret x19)))
  else
   (some (Lp.go (w64 (s12+1)))))
 else
  (some (Lp.done (Fl.nxt ())))
noncomputable def zEg (a1:(List Pack)) (a2:(List Int)) (a3:ByteArray):Int→Option (Fl Int Unit):=loop (zDG a1 a2 a3)
noncomputable def zAi (a1:(List Pack)) (a2:(List Int)) (a3:ByteArray):Option Int:=
 (zEg a1 a2 a3 0).bind (Fl.go some fun v21=>
 some (-1))
noncomputable def zDk (a1:(List ByteArray)) (a2:ByteArray) (s19:((List ByteArray)×Bool×Int)):Option (Lp ((List ByteArray)×Bool×Int) (Fl (List ByteArray) ((List ByteArray)×Bool))):=
 if decide (s19.2.2< (a1.length:Int)) then
  ((idx a1 s19.2.2).bind fun x21=>
  if seq x21 a2 then
   (some (Lp.done (Fl.ret a1)))
  else
   ((idx a1 s19.2.2).bind fun x24=>
   (if !(slt x24 a2||seq x24 a2) then
     (some (!s19.2.1))
    else
     (some false)).bind fun v27=>
   (if v27 then
     ((app 16 s19.1 [a2]).bind fun x29=>
     some (x29,true))
    else
     (some (s19.1,s19.2.1))).bind fun v31=>
   (idx a1 s19.2.2).bind fun x32=>
   (app 16 v31.1 [x32]).bind fun x34=>
   some (Lp.go (x34,v31.2,w64 (s19.2.2+1)))))
 else
  (some (Lp.done (Fl.nxt (s19.1,s19.2.1))))
noncomputable def zD8 (a1:(List ByteArray)) (a2:ByteArray):((List ByteArray)×Bool×Int)→Option (Fl (List ByteArray) ((List ByteArray)×Bool)):=loop (zDk a1 a2)
noncomputable def uL (a1:(List ByteArray)) (a2:ByteArray):Option (List ByteArray):=
 (zD8 a1 a2 (([]:List ByteArray),false,0)).bind (Fl.go some fun v36=>
 (if !v36.2 then
   ((app 16 v36.1 [a2]).bind fun x38=>
   some x38)
  else
   (some v36.1)).bind fun v40=>
 some v40)
noncomputable def zAV (a1:(List Pack)) (a2:(List Int)) (a3:(List Int)) (s15:((List ByteArray)×Int)):Option (Lp ((List ByteArray)×Int) (List ByteArray)):=
 if decide (s15.2< (a1.length:Int)) then
  ((idx a1 s15.2).bind fun x17=>
  (zAi a1 a2 x17.Name).bind fun x19=>
  (zAi a1 a3 x17.Name).bind fun x21=>
  (if x19 !=x21 then
    ((uL s15.1 x17.Name).bind fun x24=>
    some x24)
   else
    (some s15.1)).bind fun v26=>
  some (Lp.go (v26,w64 (s15.2+1))))
 else
  (some (Lp.done s15.1))
noncomputable def zB4 (a1:(List Pack)) (a2:(List Int)) (a3:(List Int)):((List ByteArray)×Int)→Option (List ByteArray):=loop (zAV a1 a2 a3)
noncomputable def zAf (a1:(List Pack)) (a2:(List Int)) (a3:(List Int)):Option (List ByteArray):=
 (zB4 a1 a2 a3 (([]:List ByteArray),0)).bind fun v27=>
 some v27
noncomputable def zBW (a1:(List Pack)) (a2:(List Int)) (a3:(List Int)) (a4:ByteArray):Option (List Pack):=
 (zAi a1 a2 a4).bind fun x5=>
 (if decide (x5≥0) then
   ((idx a1 x5).bind fun x8=>
   (app 120 ([]:List Pack) [x8]).bind fun x10=>
   some x10)
  else
   (some ([]:List Pack))).bind fun v12=>
 (zAi a1 a3 a4).bind fun x13=>
 (if decide (x13≥0) then
   ((idx a1 x13).bind fun x16=>
   (app 120 v12 [x16]).bind fun x18=>
   some x18)
  else
   (some v12)).bind fun v20=>
 some v20
noncomputable def zCm (x5:(List Pack)) (s28:((List ByteArray)×Int)) (s39:((List ByteArray)×Int)):Option (Lp ((List ByteArray)×Int) (List ByteArray)):=
 (idx x5 s28.2).bind fun x40=>
 if decide (s39.2< (x40.Provides.length:Int)) then
  ((idx x5 s28.2).bind fun x43=>
  (idx x43.Provides s39.2).bind fun x45=>
  (uL s39.1 x45).bind fun x47=>
  some (Lp.go (x47,w64 (s39.2+1))))
 else
  (some (Lp.done s39.1))
noncomputable def zCF (x5:(List Pack)) (s28:((List ByteArray)×Int)):((List ByteArray)×Int)→Option (List ByteArray):=loop (zCm x5 s28)
noncomputable def zBZ (x5:(List Pack)) (s28:((List ByteArray)×Int)):Option (Lp ((List ByteArray)×Int) (List ByteArray)):=
 if decide (s28.2< (x5.length:Int)) then
  ((zCF x5 s28 (s28.1,0)).bind fun v49=>
  some (Lp.go (v49,w64 (s28.2+1))))
 else
  (some (Lp.done s28.1))
noncomputable def zCN (x5:(List Pack)):((List ByteArray)×Int)→Option (List ByteArray):=loop (zBZ x5)
noncomputable def zBe (a1:(List Pack)) (a2:(List Int)) (a3:(List Int)) (a4:ByteArray):Option (List ByteArray):=
 (zBW a1 a2 a3 a4).bind fun x5=>
 (zCN x5 ([a4],0)).bind fun v50=>
 some v50
noncomputable def zAy (a1:Pack) (s23:((List ByteArray)×Int)) (s34:((List ByteArray)×Int)):Option (Lp ((List ByteArray)×Int) (List ByteArray)):=
 (idx a1.Needs s23.2).bind fun x35=>
 if decide (s34.2< (x35.length:Int)) then
  ((idx a1.Needs s23.2).bind fun x38=>
  (idx x38 s34.2).bind fun x40=>
  (uL s34.1 x40.Name).bind fun x42=>
  some (Lp.go (x42,w64 (s34.2+1))))
 else
  (some (Lp.done s34.1))
noncomputable def zAI (a1:Pack) (s23:((List ByteArray)×Int)):((List ByteArray)×Int)→Option (List ByteArray):=loop (zAy a1 s23)
noncomputable def zA3 (a1:Pack) (s51:((List ByteArray)×Int)):Option (Lp ((List ByteArray)×Int) (List ByteArray)):=
 if decide (s51.2< (a1.Bars.length:Int)) then
  ((idx a1.Bars s51.2).bind fun x53=>
  (uL s51.1 x53.Name).bind fun x55=>
  some (Lp.go (x55,w64 (s51.2+1))))
 else
  (some (Lp.done s51.1))
noncomputable def zAT (a1:Pack):((List ByteArray)×Int)→Option (List ByteArray):=loop (zA3 a1)
noncomputable def zA2 (a1:Pack) (s23:((List ByteArray)×Int)):Option (Lp ((List ByteArray)×Int) (List ByteArray)):=
 if decide (s23.2< (a1.Needs.length:Int)) then
  ((zAI a1 s23 (s23.1,0)).bind fun v44=>
  some (Lp.go (v44,w64 (s23.2+1))))
 else
  (some (Lp.done s23.1))
noncomputable def zBc (a1:Pack):((List ByteArray)×Int)→Option (List ByteArray):=loop (zA2 a1)
noncomputable def kN (a1:Pack):Option (List ByteArray):=
 (zBc a1 (([]:List ByteArray),0)).bind fun v45=>
 (zAT a1 (v45,0)).bind fun v57=>
 some v57
noncomputable def zCy (a1:(List ByteArray)) (a2:(List ByteArray)) (s9:Int):Option (Lp Int (Fl Bool Unit)):=
 if decide (s9< (a1.length:Int)) then
  ((idx a1 s9).bind fun x11=>
  (wP a2 x11).bind fun x13=>
  if x13 then
   (some (Lp.done (Fl.ret true)))
  else
   (some (Lp.go (w64 (s9+1)))))
 else
  (some (Lp.done (Fl.nxt ())))
noncomputable def zDf (a1:(List ByteArray)) (a2:(List ByteArray)):Int→Option (Fl Bool Unit):=loop (zCy a1 a2)
noncomputable def zCP (a1:(List ByteArray)) (a2:(List ByteArray)):Option Bool:=
 (zDf a1 a2 0).bind (Fl.go some fun v16=>
 some false)
noncomputable def zDd (a5:(List ByteArray)) (x6:(List Pack)) (s16:Int):Option (Lp Int (Fl Bool Unit)):=
 if decide (s16< (x6.length:Int)) then
  ((idx x6 s16).bind fun x18=>
  (kN x18).bind fun x20=>
  (zCP x20 a5).bind fun x22=>
  if x22 then
   (some (Lp.done (Fl.ret true)))
  else
   (some (Lp.go (w64 (s16+1)))))
 else
  (some (Lp.done (Fl.nxt ())))
noncomputable def zDE (a5:(List ByteArray)) (x6:(List Pack)):Int→Option (Fl Bool Unit):=loop (zDd a5 x6)
noncomputable def jK (a1:(List Pack)) (a2:(List Int)) (a3:(List Int)) (a4:ByteArray) (a5:(List ByteArray)):Option Bool:=
 (zBW a1 a2 a3 a4).bind fun x6=>
 (zDE a5 x6 0).bind (Fl.go some fun v25=>
 some false)
noncomputable def zB1 (a1:(List Term)) (a2:(List ByteArray)) (s9:Int):Option (Lp Int (Fl Bool Unit)):=
 if decide (s9< (a1.length:Int)) then
  ((idx a1 s9).bind fun x11=>
  (wP a2 x11.Name).bind fun x13=>
  if x13 then
   (some (Lp.done (Fl.ret true)))
  else
   (some (Lp.go (w64 (s9+1)))))
 else
  (some (Lp.done (Fl.nxt ())))
noncomputable def zCr (a1:(List Term)) (a2:(List ByteArray)):Int→Option (Fl Bool Unit):=loop (zB1 a1 a2)
noncomputable def kC (a1:(List Term)) (a2:(List ByteArray)):Option Bool:=
 (zCr a1 a2 0).bind (Fl.go some fun v16=>
 some false)
noncomputable def zAw (a1:(List Pack)) (a2:(List Int)) (a3:(List ByteArray)) (a4:(List ByteArray)) (s36:Int) (x40:Pack) (s54:Int):Option (Lp Int (Fl Bool Unit)):=
 if decide (s54< (x40.Needs.length:Int)) then
  ((idx x40.Needs s54).bind fun x56=>
  (kC x56 a3).bind fun x58=>
  (if x58 then
    ((idx x40.Needs s54).bind fun x61=>
    (kC x61 a4).bind fun x63=>
    some x63)
   else
    (some false)).bind fun v65=>
  if v65 then
   (some (Lp.done (Fl.ret true)))
  else
   (some (Lp.go (w64 (s54+1)))))
 else
  (some (Lp.done (Fl.nxt ())))
noncomputable def zAP (a1:(List Pack)) (a2:(List Int)) (a3:(List ByteArray)) (a4:(List ByteArray)) (s36:Int) (x40:Pack):Int→Option (Fl Bool Unit):=loop (zAw a1 a2 a3 a4 s36 x40)
noncomputable def zA1 (a1:(List Pack)) (a2:(List Int)) (a3:(List ByteArray)) (a4:(List ByteArray)) (s36:Int):Option (Lp Int (Fl Bool Unit)):=
 if decide (s36< (a2.length:Int)) then
  ((idx a2 s36).bind fun x38=>
  (idx a1 x38).bind fun x40=>
  (zAP a1 a2 a3 a4 s36 x40 0).bind (Fl.go (fun r=>some (Lp.done (Fl.ret r))) fun v67=>
  some (Lp.go (w64 (s36+1)))))
 else
  (some (Lp.done (Fl.nxt ())))
noncomputable def zAK (a1:(List Pack)) (a2:(List Int)) (a3:(List ByteArray)) (a4:(List ByteArray)):Int→Option (Fl Bool Unit):=loop (zA1 a1 a2 a3 a4)
noncomputable def uS (a1:(List Pack)) (a2:(List Int)) (a3:(List ByteArray)) (a4:(List ByteArray)):Option Bool:=
 (zAK a1 a2 a3 a4 0).bind (Fl.go some fun v68=>
 some false)
noncomputable def uZ (a1:(List Pack)) (a2:(List Int)) (a3:(List Int)) (a4:ByteArray) (a5:ByteArray):Option Bool:=
 (zBe a1 a2 a3 a4).bind fun x6=>
 (zBe a1 a2 a3 a5).bind fun x8=>
 (jK a1 a2 a3 a4 x8).bind fun x10=>
 if x10 then
  (some true)
 else
  ((jK a1 a2 a3 a5 x6).bind fun x13=>
  if x13 then
   (some true)
  else
   ((uS a1 a2 x6 x8).bind fun x16=>
   if x16 then
    (some true)
   else
    ((uS a1 a3 x6 x8).bind fun x19=>
    some x19)))
noncomputable def zCo (a1:(List Pack)) (a2:(List Int)) (a3:(List Int)) (s206:((List ByteArray)×(List (List ByteArray)))) (s337:((List ByteArray)×Bool×Int)) (s358:((List ByteArray)×Bool×Int)):Option (Lp ((List ByteArray)×Bool×Int) ((List ByteArray)×Bool)):=
 (if decide (s358.2.2< (s358.1.length:Int)) then
   ((idx s206.1 s337.2.2).bind fun x360=>
   (wP s358.1 x360).bind fun x362=>
   some (!x362))
  else
   (some false)).bind fun v364=>
 if v364 then
  ((idx s358.1 s358.2.2).bind fun x366=>
  (idx s206.1 s337.2.2).bind fun x368=>
  (uZ a1 a2 a3 x366 x368).bind fun x370=>
  (if x370 then
    ((idx s206.1 s337.2.2).bind fun x373=>
    (uL s358.1 x373).bind fun x375=>
    some (x375,true))
   else
    (some (s358.1,s358.2.1))).bind fun v377=>
  some (Lp.go (v377.1,v377.2,w64 (s358.2.2+1))))
 else
  (some (Lp.done (s358.1,s358.2.1)))
noncomputable def zCL (a1:(List Pack)) (a2:(List Int)) (a3:(List Int)) (s206:((List ByteArray)×(List (List ByteArray)))) (s337:((List ByteArray)×Bool×Int)):((List ByteArray)×Bool×Int)→Option ((List ByteArray)×Bool):=loop (zCo a1 a2 a3 s206 s337)
noncomputable def zA7 (a1:(List Pack)) (a2:(List Int)) (a3:(List Int)) (s206:((List ByteArray)×(List (List ByteArray)))) (s337:((List ByteArray)×Bool×Int)):Option (Lp ((List ByteArray)×Bool×Int) ((List ByteArray)×Bool)):=
 if decide (s337.2.2< (s206.1.length:Int)) then
  ((zCL a1 a2 a3 s206 s337 (s337.1,s337.2.1,0)).bind fun v378=>
  some (Lp.go (v378.1,v378.2,w64 (s337.2.2+1))))
 else
  (some (Lp.done (s337.1,s337.2.1)))
noncomputable def zCZ (a1:(List Pack)) (a2:(List Int)) (a3:(List Int)) (s206:((List ByteArray)×(List (List ByteArray)))):((List ByteArray)×Bool×Int)→Option ((List ByteArray)×Bool):=loop (zA7 a1 a2 a3 s206)
noncomputable def zCa (a1:(List Pack)) (a2:(List Int)) (a3:(List Int)) (s206:((List ByteArray)×(List (List ByteArray)))) (v380:(List ByteArray)) (s392:((List ByteArray)×Int)):Option (Lp ((List ByteArray)×Int) (List ByteArray)):=
 if decide (s392.2< (s206.1.length:Int)) then
  ((idx s206.1 s392.2).bind fun x394=>
  (wP v380 x394).bind fun x396=>
  (if !x396 then
    ((idx s206.1 s392.2).bind fun x399=>
    (app 16 s392.1 [x399]).bind fun x401=>
    some x401)
   else
    (some s392.1)).bind fun v403=>
  some (Lp.go (v403,w64 (s392.2+1))))
 else
  (some (Lp.done s392.1))
noncomputable def zB2 (a1:(List Pack)) (a2:(List Int)) (a3:(List Int)) (s206:((List ByteArray)×(List (List ByteArray)))) (v380:(List ByteArray)):((List ByteArray)×Int)→Option (List ByteArray):=loop (zCa a1 a2 a3 s206 v380)
noncomputable def zDN (a1:(List Pack)) (a2:(List Int)) (a3:(List Int)) (s206:((List ByteArray)×(List (List ByteArray)))) (s294:((List ByteArray)×Bool)):Option (Lp ((List ByteArray)×Bool) (List ByteArray)):=
 if s294.2 then
  ((zCZ a1 a2 a3 s206 (s294.1,false,0)).bind fun v379=>
  some (Lp.go (v379.1,v379.2)))
 else
  (some (Lp.done s294.1))
noncomputable def zBF (a1:(List Pack)) (a2:(List Int)) (a3:(List Int)) (s206:((List ByteArray)×(List (List ByteArray)))):((List ByteArray)×Bool)→Option (List ByteArray):=loop (zDN a1 a2 a3 s206)
noncomputable def zCl (a1:(List Pack)) (a2:(List Int)) (a3:(List Int)) (s206:((List ByteArray)×(List (List ByteArray)))):Option (Lp ((List ByteArray)×(List (List ByteArray))) (List (List ByteArray))):=
 if decide ((s206.1.length:Int)>0) then
  ((idx s206.1 0).bind fun x208=>
  (zBF a1 a2 a3 s206 ([x208],true)).bind fun v380=>
  (zB2 a1 a2 a3 s206 v380 (([]:List ByteArray),0)).bind fun v404=>
  (app 24 s206.2 [v380]).bind fun x405=>
  some (Lp.go (v404,x405)))
 else
  (some (Lp.done s206.2))
noncomputable def kH (a1:(List Pack)) (a2:(List Int)) (a3:(List Int)):((List ByteArray)×(List (List ByteArray)))→Option (List (List ByteArray)):=loop (zCl a1 a2 a3)
noncomputable def zAZ (a1:(List Pack)) (a2:(List Int)) (a3:(List Int)):Option (List (List ByteArray)):=
 (zAf a1 a2 a3).bind fun x4=>
 (kH a1 a2 a3 (x4,([]:List (List ByteArray)))).bind fun v407=>
 some v407
noncomputable def jD (a1:(List Pack)) (a2:(List Int)) (a3:(List Int)):Option wQ:=
 (kM a1 a2 a3).bind fun x4=>
 if x4 !=0 then
  (some ({Code:=x4,Value:=0}:wQ))
 else
  ((zAZ a1 a2 a3).bind fun x7=>
  some ({Code:=0,Value:=(x7.length:Int)}:wQ))
noncomputable def zAv (a1:Int):Option Bool:=
 if decide (a1≥97) then
  (if decide (a1≤122) then
   (some true)
  else
   (if decide (a1≥48) then
    (if decide (a1≤57) then
     (some true)
    else
     (some (a1==95)))
   else
    (some (a1==95))))
 else
  (if decide (a1≥48) then
   (if decide (a1≤57) then
    (some true)
   else
    (some (a1==95)))
  else
   (some (a1==95)))
noncomputable def zC3 (a1:ByteArray) (s17:Int):Option (Lp Int (Fl Int Unit)):=
 if decide (s17< (a1.size:Int)) then
  ((bidx a1 s17).bind fun x19=>
  (zAv x19).bind fun x21=>
  if !x21 then
   (some (Lp.done (Fl.ret 5)))
  else
   (some (Lp.go (w64 (s17+1)))))
 else
  (some (Lp.done (Fl.nxt ())))
noncomputable def zAq (a1:ByteArray):Int→Option (Fl Int Unit):=loop (zC3 a1)
noncomputable def uY (a1:ByteArray):Option Int:=
 (if decide ((a1.size:Int)<1) then
   (some true)
  else
   (if decide ((a1.size:Int)>12) then
    (some true)
   else
    ((bidx a1 0).bind fun x4=>
    if decide (x4<97) then
     (some true)
    else
     ((bidx a1 0).bind fun x7=>
     some (decide (x7>122)))))).bind fun v9=>
 if v9 then
  (some 5)
 else
  ((zAq a1 0).bind (Fl.go some fun v24=>
  some 0))
noncomputable def vU (a1:Int) (a2:Int) (a3:Int):Option Bool:=
 if decide (a2≤a1) then
  (some (decide (a1≤a3)))
 else
  (some false)
noncomputable def vJ (a1:Version):Option Int:=
 (vU a1.A 0 999).bind fun x2=>
 (if !x2 then
   (some true)
  else
   ((vU a1.B 0 999).bind fun x5=>
   if !x5 then
    (some true)
   else
    ((vU a1.C 0 999).bind fun x8=>
    some (!x8)))).bind fun v10=>
 if v10 then
  (some 3)
 else
  (some 0)
noncomputable def zAW (a1:(List Int)) (s6:Int):Option (Lp Int (Fl Int Unit)):=
 if decide (s6< (a1.length:Int)) then
  ((idx a1 s6).bind fun x8=>
  if x8 !=0 then
   (some (Lp.done (Fl.ret x8)))
  else
   (some (Lp.go (w64 (s6+1)))))
 else
  (some (Lp.done (Fl.nxt ())))
noncomputable def zAo (a1:(List Int)):Int→Option (Fl Int Unit):=loop (zAW a1)
noncomputable def uU (a1:(List Int)):Option Int:=
 (zAo a1 0).bind (Fl.go some fun v11=>
 some 0)
noncomputable def zA9 (a1:(List Term)):Option Bool:=
 some (decide ((a1.length:Int)>4))
noncomputable def yU (a1:(List (List Term))) (s8:Int):Option (Lp Int (Fl Int Unit)):=
 if decide (s8< (a1.length:Int)) then
  ((idx a1 s8).bind fun x10=>
  (zA9 x10).bind fun x12=>
  if x12 then
   (some (Lp.done (Fl.ret s8)))
  else
   (some (Lp.go (w64 (s8+1)))))
 else
  (some (Lp.done (Fl.nxt ())))
noncomputable def xB (a1:(List (List Term))):Int→Option (Fl Int Unit):=loop (yU a1)
noncomputable def yN (a1:(List (List Term))):Option Int:=
 (xB a1 0).bind (Fl.go some fun v15=>
 some (-1))
noncomputable def zS (a1:(List (List Term))):Option Bool:=
 (yN a1).bind fun x2=>
 some (decide (x2≥0))
noncomputable def tL (a1:(List ByteArray)) (a2:ByteArray) (s7:Int):Option (Lp Int (Fl Int Unit)):=
 if decide (s7< (a1.length:Int)) then
  ((idx a1 s7).bind fun x9=>
  if seq a2 x9 then
   (some (Lp.done (Fl.ret s7)))
  else
   (some (Lp.go (w64 (s7+1)))))
 else
  (some (Lp.done (Fl.nxt ())))
noncomputable def jJ (a1:(List ByteArray)) (a2:ByteArray):Int→Option (Fl Int Unit):=loop (tL a1 a2)
noncomputable def jO (a1:(List ByteArray)) (a2:ByteArray):Option Int:=
 (jJ a1 a2 0).bind (Fl.go some fun v12=>
 some (-1))
noncomputable def yA (a1:(List ByteArray)) (a2:ByteArray):Option Bool:=
 (jO a1 a2).bind fun x3=>
 some (decide (x3≥0))
noncomputable def zF6:Option Version:=
 some ({A:=1000,B:=0,C:=0}:Version)
noncomputable def kJ (a1:Int):Option Bool:=
 some (a1 !=a1)
noncomputable def vI (a1:Int) (a2:Int):Option Int:=
 (kJ a1).bind fun x3=>
 (kJ a2).bind fun x5=>
 if x3 then
  (if x5 then
   (some 0)
  else
   (some (-1)))
 else
  (if x5 then
   (some 1)
  else
   (if decide (a1<a2) then
    (some (-1))
   else
    (if decide (a1>a2) then
     (some 1)
    else
     (some 0))))
noncomputable def zD9 (a1:(List Int)) (s6:Int):Option (Lp Int (Fl Int Unit)):=
 if decide (s6< (a1.length:Int)) then
  ((idx a1 s6).bind fun x8=>
  if x8 !=0 then
   (some (Lp.done (Fl.ret x8)))
  else
   (some (Lp.go (w64 (s6+1)))))
 else
  (some (Lp.done (Fl.nxt ())))
noncomputable def zEd (a1:(List Int)):Int→Option (Fl Int Unit):=loop (zD9 a1)
noncomputable def zEK (a1:(List Int)):Option Int:=
 (zEd a1 0).bind (Fl.go some fun v11=>
 some 0)
noncomputable def jS (a1:Version) (a2:Version):Option Int:=
 (vI a1.A a2.A).bind fun x3=>
 (vI a1.B a2.B).bind fun x5=>
 (vI a1.C a2.C).bind fun x7=>
 (zEK [x3,x5,x7]).bind fun x9=>
 some x9
noncomputable def zBk (a1:Term):Option Int:=
 (uY a1.Name).bind fun x2=>
 if x2 !=0 then
  (some x2)
 else
  ((vJ a1.Low).bind fun x5=>
  if x5 !=0 then
   (some x5)
  else
   ((zF6).bind fun x8=>
   (if !(a1.High.A==x8.A&&(a1.High.B==x8.B&&(a1.High.C==x8.C&&true))) then
     ((vJ a1.High).bind fun x11=>
     some (x11 !=0))
    else
     (some false)).bind fun v13=>
   if v13 then
    (some 3)
   else
    ((jS a1.Low a1.High).bind fun x15=>
    if decide (x15≥0) then
     (some 1)
    else
     (some 0))))
noncomputable def zAz (a1:(List Term)) (s8:Int):Option (Lp Int (Fl Int Unit)):=
 if decide (s8< (a1.length:Int)) then
  ((idx a1 s8).bind fun x10=>
  (zBk x10).bind fun x12=>
  if x12 !=0 then
   (some (Lp.done (Fl.ret x12)))
  else
   (some (Lp.go (w64 (s8+1)))))
 else
  (some (Lp.done (Fl.nxt ())))
noncomputable def zAU (a1:(List Term)):Int→Option (Fl Int Unit):=loop (zAz a1)
noncomputable def uW (a1:(List Term)):Option Int:=
 (zAU a1 0).bind (Fl.go some fun v15=>
 some 0)
noncomputable def zAE (a1:Pack) (s54:Int):Option (Lp Int (Fl Int Unit)):=
 if decide (s54< (a1.Needs.length:Int)) then
  ((idx a1.Needs s54).bind fun x56=>
  if (x56.length:Int)==0 then
   (some (Lp.done (Fl.ret 1)))
  else
   ((uW x56).bind fun x59=>
   if x59 !=0 then
    (some (Lp.done (Fl.ret x59)))
   else
    (some (Lp.go (w64 (s54+1))))))
 else
  (some (Lp.done (Fl.nxt ())))
noncomputable def zAs (a1:Pack):Int→Option (Fl Int Unit):=loop (zAE a1)
noncomputable def zBd (a1:Pack) (s32:Int):Option (Lp Int (Fl Int Unit)):=
 if decide (s32< (a1.Provides.length:Int)) then
  ((idx a1.Provides s32).bind fun x34=>
  (uY x34).bind fun x36=>
  if x36 !=0 then
   (some (Lp.done (Fl.ret x36)))
  else
   ((if seq x34 a1.Name then
      (some true)
     else
      ((zF8 a1.Provides 0 s32).bind fun x40=>
      (yA x40 x34).bind fun x42=>
      some x42)).bind fun v44=>
   if v44 then
    (some (Lp.done (Fl.ret 6)))
   else
    (some (Lp.go (w64 (s32+1))))))
 else
  (some (Lp.done (Fl.nxt ())))
noncomputable def zAj (a1:Pack):Int→Option (Fl Int Unit):=loop (zBd a1)
noncomputable def zBm (a1:Pack):Option Int:=
 (uY a1.Name).bind fun x2=>
 (vJ a1.Version).bind fun x4=>
 (uU [x2,x4]).bind fun x6=>
 if x6 !=0 then
  (some x6)
 else
  ((vU a1.Size 1 200).bind fun x9=>
  if !x9 then
   (some 3)
  else
   ((if decide ((a1.Provides.length:Int)>4) then
      (some true)
     else
      (if decide ((a1.Needs.length:Int)>4) then
       (some true)
      else
       (if decide ((a1.Bars.length:Int)>4) then
        (some true)
       else
        ((zS a1.Needs).bind fun x15=>
        some x15)))).bind fun v17=>
   if v17 then
    (some 2)
   else
    ((zAj a1 0).bind (Fl.go some fun v46=>
    (zAs a1 0).bind (Fl.go some fun v62=>
    (uW a1.Bars).bind fun x63=>
    some x63)))))
noncomputable def zEo (a1:Pack) (a2:ByteArray) (a3:Version):Option Bool:=
 if seq a1.Name a2 then
  (some (a1.Version.A==a3.A&&(a1.Version.B==a3.B&&(a1.Version.C==a3.C&&true))))
 else
  (some false)
noncomputable def wC (a1:(List Pack)) (a2:ByteArray) (a3:Version) (s10:Int):Option (Lp Int (Fl Int Unit)):=
 if decide (s10< (a1.length:Int)) then
  ((idx a1 s10).bind fun x12=>
  (zEo x12 a2 a3).bind fun x14=>
  if x14 then
   (some (Lp.done (Fl.ret s10)))
  else
   (some (Lp.go (w64 (s10+1)))))
 else
  (some (Lp.done (Fl.nxt ())))
noncomputable def wE (a1:(List Pack)) (a2:ByteArray) (a3:Version):Int→Option (Fl Int Unit):=loop (wC a1 a2 a3)
noncomputable def xR (a1:(List Pack)) (a2:ByteArray) (a3:Version):Option Int:=
 (wE a1 a2 a3 0).bind (Fl.go some fun v17=>
 some (-1))
noncomputable def zE3 (a1:(List Pack)) (a2:ByteArray) (a3:Version):Option Int:=
 (xR a1 a2 a3).bind fun x4=>
 some x4
noncomputable def kF (a1:(List Pack)) (s14:Int):Option (Lp Int (Fl Int Unit)):=
 if decide (s14< (a1.length:Int)) then
  ((idx a1 s14).bind fun x16=>
  (zBm x16).bind fun x18=>
  if x18 !=0 then
   (some (Lp.done (Fl.ret x18)))
  else
   ((zF8 a1 0 s14).bind fun x21=>
   (zE3 x21 x16.Name x16.Version).bind fun x23=>
   if decide (x23≥0) then
    (some (Lp.done (Fl.ret 6)))
   else
    (some (Lp.go (w64 (s14+1))))))
 else
  (some (Lp.done (Fl.nxt ())))
noncomputable def kW (a1:(List Pack)):Int→Option (Fl Int Unit):=loop (kF a1)
noncomputable def jX (a1:(List Pack)):Option Int:=
 if decide ((a1.length:Int)>24) then
  (some 2)
 else
  ((kW a1 0).bind (Fl.go some fun v26=>
  some 0))
noncomputable def zA8 (a1:Int) (a2:(List Pack)):Option Bool:=
 (vU a1 0 (w64 ((a2.length:Int)-1))).bind fun x3=>
 some (!x3)
noncomputable def xQ (a1:(List Int)) (a2:(List Pack)) (s9:Int):Option (Lp Int (Fl Int Unit)):=
 if decide (s9< (a1.length:Int)) then
  ((idx a1 s9).bind fun x11=>
  (zA8 x11 a2).bind fun x13=>
  if x13 then
   (some (Lp.done (Fl.ret s9)))
  else
   (some (Lp.go (w64 (s9+1)))))
 else
  (some (Lp.done (Fl.nxt ())))
noncomputable def xW (a1:(List Int)) (a2:(List Pack)):Int→Option (Fl Int Unit):=loop (xQ a1 a2)
noncomputable def xD (a1:(List Int)) (a2:(List Pack)):Option Int:=
 (xW a1 a2 0).bind (Fl.go some fun v16=>
 some (-1))
noncomputable def yS (a1:(List Int)) (a2:(List Pack)):Option Bool:=
 (xD a1 a2).bind fun x3=>
 some (decide (x3≥0))
noncomputable def zBp (a1:(List Pack)) (a2:(List Int)):Option Bool:=
 (yS a2 a1).bind fun x3=>
 some (!x3)
noncomputable def tO (a1:(List Pack)) (a2:(List Int)) (s12:Int):Option (Lp Int (Fl Int Unit)):=
 if decide (s12< (a2.length:Int)) then
  ((idx a2 s12).bind fun x14=>
  (idx a2 (w64 (s12-1))).bind fun x16=>
  if decide (x14≤x16) then
   (some (Lp.done (Fl.ret 1)))
  else
   (some (Lp.go (w64 (s12+1)))))
 else
  (some (Lp.done (Fl.nxt ())))
noncomputable def zAC (a1:(List Pack)) (a2:(List Int)):Int→Option (Fl Int Unit):=loop (tO a1 a2)
noncomputable def zAb (a1:(List Pack)) (a2:(List Int)):Option Int:=
 (jX a1).bind fun x3=>
 if x3 !=0 then
  (some x3)
 else
  ((zAC a1 a2 1).bind (Fl.go some fun v19=>
  (zBp a1 a2).bind fun x20=>
  if !x20 then
   (some 1)
  else
   (some 0)))
noncomputable def zAe (a1:(List Pack)) (a2:(List Int)) (a3:ByteArray) (s10:Int):Option (Lp Int (Fl Int Unit)):=
 if decide (s10< (a2.length:Int)) then
  ((idx a2 s10).bind fun x12=>
  (idx a1 x12).bind fun x14=>
  if seq x14.Name a3 then
   (some (Lp.done (Fl.ret x12)))
  else
   (some (Lp.go (w64 (s10+1)))))
 else
  (some (Lp.done (Fl.nxt ())))
noncomputable def zDo (a1:(List Pack)) (a2:(List Int)) (a3:ByteArray):Int→Option (Fl Int Unit):=loop (zAe a1 a2 a3)
noncomputable def tK (a1:(List Pack)) (a2:(List Int)) (a3:ByteArray):Option Int:=
 (zDo a1 a2 a3 0).bind (Fl.go some fun v17=>
 some (-1))
noncomputable def zB8 (a1:Pack):Option (List ByteArray):=
 (app 16 [a1.Name] a1.Provides).bind fun x2=>
 some x2
noncomputable def zBU (a1:Term) (a2:ByteArray) (a3:Version):Option Bool:=
 if seq a1.Name a2 then
  ((jS a1.Low a3).bind fun x5=>
  if decide (x5≤0) then
   ((jS a3 a1.High).bind fun x8=>
   some (decide (x8<0)))
  else
   (some false))
 else
  (some false)
noncomputable def zAm (a1:ByteArray) (a2:Term) (a3:Pack):Option Bool:=
 (zBU a2 a1 a3.Version).bind fun x4=>
 some x4
noncomputable def yY (a1:(List ByteArray)) (a2:Term) (a3:Pack) (s10:Int):Option (Lp Int (Fl Int Unit)):=
 if decide (s10< (a1.length:Int)) then
  ((idx a1 s10).bind fun x12=>
  (zAm x12 a2 a3).bind fun x14=>
  if x14 then
   (some (Lp.done (Fl.ret s10)))
  else
   (some (Lp.go (w64 (s10+1)))))
 else
  (some (Lp.done (Fl.nxt ())))
noncomputable def xH (a1:(List ByteArray)) (a2:Term) (a3:Pack):Int→Option (Fl Int Unit):=loop (yY a1 a2 a3)
noncomputable def yQ (a1:(List ByteArray)) (a2:Term) (a3:Pack):Option Int:=
 (xH a1 a2 a3 0).bind (Fl.go some fun v17=>
 some (-1))
noncomputable def yF (a1:(List ByteArray)) (a2:Term) (a3:Pack):Option Bool:=
 (yQ a1 a2 a3).bind fun x4=>
 some (decide (x4≥0))
noncomputable def jI (a1:Pack) (a2:Term):Option Bool:=
 (zB8 a1).bind fun x3=>
 (yF x3 a2 a1).bind fun x5=>
 some x5
noncomputable def xG (a1:(List Term)) (a2:Pack) (s9:Int):Option (Lp Int (Fl Int Unit)):=
 if decide (s9< (a1.length:Int)) then
  ((idx a1 s9).bind fun x11=>
  (jI a2 x11).bind fun x13=>
  if x13 then
   (some (Lp.done (Fl.ret s9)))
  else
   (some (Lp.go (w64 (s9+1)))))
 else
  (some (Lp.done (Fl.nxt ())))
noncomputable def xM (a1:(List Term)) (a2:Pack):Int→Option (Fl Int Unit):=loop (xG a1 a2)
noncomputable def yT (a1:(List Term)) (a2:Pack):Option Int:=
 (xM a1 a2 0).bind (Fl.go some fun v16=>
 some (-1))
noncomputable def yI (a1:(List Term)) (a2:Pack):Option Bool:=
 (yT a1 a2).bind fun x3=>
 some (decide (x3≥0))
noncomputable def jM (a1:Pack) (a2:(List Term)):Option Bool:=
 (yI a2 a1).bind fun x3=>
 some x3
noncomputable def zDl (a1:Int) (a2:(List Pack)) (a3:(List Term)):Option Bool:=
 (idx a2 a1).bind fun x4=>
 (jM x4 a3).bind fun x6=>
 some x6
noncomputable def wF (a1:(List Int)) (a2:(List Pack)) (a3:(List Term)) (s10:Int):Option (Lp Int (Fl Int Unit)):=
 if decide (s10< (a1.length:Int)) then
  ((idx a1 s10).bind fun x12=>
  (zDl x12 a2 a3).bind fun x14=>
  if x14 then
   (some (Lp.done (Fl.ret s10)))
  else
   (some (Lp.go (w64 (s10+1)))))
 else
  (some (Lp.done (Fl.nxt ())))
noncomputable def wI (a1:(List Int)) (a2:(List Pack)) (a3:(List Term)):Int→Option (Fl Int Unit):=loop (wF a1 a2 a3)
noncomputable def xY (a1:(List Int)) (a2:(List Pack)) (a3:(List Term)):Option Int:=
 (wI a1 a2 a3 0).bind (Fl.go some fun v17=>
 some (-1))
noncomputable def yG (a1:(List Int)) (a2:(List Pack)) (a3:(List Term)):Option Bool:=
 (xY a1 a2 a3).bind fun x4=>
 some (decide (x4≥0))
noncomputable def zDq (a1:Int) (a2:Int) (a3:(List Pack)) (a4:Term):Option Bool:=
 if a1 !=a2 then
  ((idx a3 a1).bind fun x6=>
  (jI x6 a4).bind fun x8=>
  some x8)
 else
  (some false)
noncomputable def wG (a1:(List Int)) (a2:Int) (a3:(List Pack)) (a4:Term) (s11:Int):Option (Lp Int (Fl Int Unit)):=
 if decide (s11< (a1.length:Int)) then
  ((idx a1 s11).bind fun x13=>
  (zDq x13 a2 a3 a4).bind fun x15=>
  if x15 then
   (some (Lp.done (Fl.ret s11)))
  else
   (some (Lp.go (w64 (s11+1)))))
 else
  (some (Lp.done (Fl.nxt ())))
noncomputable def wJ (a1:(List Int)) (a2:Int) (a3:(List Pack)) (a4:Term):Int→Option (Fl Int Unit):=loop (wG a1 a2 a3 a4)
noncomputable def xX (a1:(List Int)) (a2:Int) (a3:(List Pack)) (a4:Term):Option Int:=
 (wJ a1 a2 a3 a4 0).bind (Fl.go some fun v18=>
 some (-1))
noncomputable def yH (a1:(List Int)) (a2:Int) (a3:(List Pack)) (a4:Term):Option Bool:=
 (xX a1 a2 a3 a4).bind fun x5=>
 some (decide (x5≥0))
noncomputable def zCS (a1:(List Pack)) (a2:(List Int)) (s56:((List zR)×Int)) (x58:Int) (x60:Pack) (s99:((List zR)×Int)):Option (Lp ((List zR)×Int) (List zR)):=
 if decide (s99.2< (x60.Bars.length:Int)) then
  ((idx x60.Bars s99.2).bind fun x101=>
  (yH a2 x58 a1 x101).bind fun x103=>
  (if x103 then
    ((app 24 s99.1 [({Kind:=3,Pack:=x58,At:=s99.2}:zR)]).bind fun x106=>
    some x106)
   else
    (some s99.1)).bind fun v108=>
  some (Lp.go (v108,w64 (s99.2+1))))
 else
  (some (Lp.done s99.1))
noncomputable def zD5 (a1:(List Pack)) (a2:(List Int)) (s56:((List zR)×Int)) (x58:Int) (x60:Pack):((List zR)×Int)→Option (List zR):=loop (zCS a1 a2 s56 x58 x60)
noncomputable def zDh (a1:(List Pack)) (a2:(List Int)) (s56:((List zR)×Int)) (x58:Int) (x60:Pack) (s79:((List zR)×Int)):Option (Lp ((List zR)×Int) (List zR)):=
 if decide (s79.2< (x60.Needs.length:Int)) then
  ((idx x60.Needs s79.2).bind fun x81=>
  (yG a2 a1 x81).bind fun x83=>
  (if !x83 then
    ((app 24 s79.1 [({Kind:=2,Pack:=x58,At:=s79.2}:zR)]).bind fun x86=>
    some x86)
   else
    (some s79.1)).bind fun v88=>
  some (Lp.go (v88,w64 (s79.2+1))))
 else
  (some (Lp.done s79.1))
noncomputable def zD7 (a1:(List Pack)) (a2:(List Int)) (s56:((List zR)×Int)) (x58:Int) (x60:Pack):((List zR)×Int)→Option (List zR):=loop (zDh a1 a2 s56 x58 x60)
noncomputable def zDe (a1:(List Pack)) (a2:(List Int)) (s56:((List zR)×Int)):Option (Lp ((List zR)×Int) (List zR)):=
 if decide (s56.2< (a2.length:Int)) then
  ((idx a2 s56.2).bind fun x58=>
  (idx a1 x58).bind fun x60=>
  (zF8 a2 0 s56.2).bind fun x62=>
  (tK a1 x62 x60.Name).bind fun x64=>
  (if decide (x64≥0) then
    ((app 24 s56.1 [({Kind:=1,Pack:=x58,At:=0}:zR)]).bind fun x67=>
    some x67)
   else
    (some s56.1)).bind fun v69=>
  (zD7 a1 a2 s56 x58 x60 (v69,0)).bind fun v89=>
  (zD5 a1 a2 s56 x58 x60 (v89,0)).bind fun v109=>
  some (Lp.go (v109,w64 (s56.2+1))))
 else
  (some (Lp.done s56.1))
noncomputable def zDA (a1:(List Pack)) (a2:(List Int)):((List zR)×Int)→Option (List zR):=loop (zDe a1 a2)
noncomputable def zDO (a1:(List Pack)) (a2:(List Int)):Option (List zR):=
 (zDA a1 a2 (([]:List zR),0)).bind fun v110=>
 some v110
noncomputable def wX (a1:(List Pack)) (a2:(List Int)):Option Bool:=
 (zDO a1 a2).bind fun x3=>
 some ((x3.length:Int)==0)
noncomputable def zBS (a1:(List Pack)) (a2:(List Int)) (a3:(List Int)):Option Int:=
 (zAb a1 a2).bind fun x4=>
 (zAb a1 a3).bind fun x6=>
 (uU [x4,x6]).bind fun x8=>
 (if x8==0 then
   ((wX a1 a2).bind fun x11=>
   if !x11 then
    (some true)
   else
    ((wX a1 a3).bind fun x14=>
    some (!x14)))
  else
   (some false)).bind fun v16=>
 (if v16 then
   (some 1)
  else
   (some x8)).bind fun v18=>
 some v18
noncomputable def zAx (a1:Int):Option (List Int):=if 0≤a1∧a1*8≤140737488355328∧a1≤4611686018427387904 then some [] else none
noncomputable def wZ (a1:(List (List Int))) (s19:((List Int)×Int)):Option (Lp ((List Int)×Int) (List Int)):=
 if decide (s19.2< (a1.length:Int)) then
  ((idx a1 s19.2).bind fun x21=>
  (app 8 s19.1 x21).bind fun x23=>
  some (Lp.go (x23,w64 (s19.2+1))))
 else
  (some (Lp.done s19.1))
noncomputable def tX (a1:(List (List Int))):((List Int)×Int)→Option (List Int):=loop (wZ a1)
noncomputable def wM (a1:(List (List Int))) (s6:(Int×Int)):Option (Lp (Int×Int) Int):=
 if decide (s6.2< (a1.length:Int)) then
  ((idx a1 s6.2).bind fun x8=>
  if decide ((w64 (s6.1+(x8.length:Int)))<0) then
   (none)
  else
   (some (Lp.go (w64 (s6.1+(x8.length:Int)),w64 (s6.2+1)))))
 else
  (some (Lp.done s6.1))
noncomputable def tZ (a1:(List (List Int))):(Int×Int)→Option Int:=loop (wM a1)
noncomputable def vE (a1:(List (List Int))):Option (List Int):=
 (tZ a1 (0,0)).bind fun v11=>
 (zAx v11).bind fun x12=>
 (tX a1 (x12,0)).bind fun v25=>
 some v25
noncomputable def uM (a1:List ByteArray):Option (List ByteArray):=if a1.length≤4611686018427387903 then some (((a1.map (·.data.toList)).mergeSort fun x y=>decide (x≤y)).map fun l=>(⟨l.toArray⟩:ByteArray)) else none
noncomputable def vY (s41:Int) (x48:(List ByteArray)) (s61:((List ByteArray)×Int×Int)):Option (Lp ((List ByteArray)×Int×Int) ((List ByteArray)×Int)):=
 if decide (s61.2.2< (x48.length:Int)) then
  ((zKC s61.1 s41 x48.length s61.2.2).bind fun x63=>
  (zKC s61.1 s41 x48.length (w64 (s61.2.2-1))).bind fun x65=>
  (if !(seq x63 x65) then
    ((zKC s61.1 s41 x48.length s61.2.2).bind fun x68=>
    (idx s61.1 s61.2.1).bind fun x70=>
    some (s61.1.set s61.2.1.toNat x68,w64 (s61.2.1+1)))
   else
    (some (s61.1,s61.2.1))).bind fun v72=>
  some (Lp.go (v72.1,v72.2,w64 (s61.2.2+1))))
 else
  (some (Lp.done (s61.1,s61.2.1)))
noncomputable def vO (s41:Int) (x48:(List ByteArray)):((List ByteArray)×Int×Int)→Option ((List ByteArray)×Int):=loop (vY s41 x48)
noncomputable def wW (a1:(List ByteArray)) (s41:Int):Option (Lp Int (Fl (List ByteArray) Unit)):=
 if decide (s41< (a1.length:Int)) then
  ((idx a1 s41).bind fun x43=>
  (idx a1 (w64 (s41-1))).bind fun x45=>
  if seq x43 x45 then
   ((zF8 a1 s41 (a1.length:Int)).bind fun x48=>
   (vO s41 x48 (a1,s41,1)).bind fun v73=>
   (zF8 v73.1 v73.2 (v73.1.length:Int)).bind fun x74=>
   (zL8 v73.1 v73.2 x74.length ByteArray.empty).bind fun x76=>
   (zF8 x76 0 v73.2).bind fun x78=>
   some (Lp.done (Fl.ret x78)))
  else
   (some (Lp.go (w64 (s41+1)))))
 else
  (some (Lp.done (Fl.nxt ())))
noncomputable def uI (a1:(List ByteArray)):Int→Option (Fl (List ByteArray) Unit):=loop (wW a1)
noncomputable def vR (a1:(List ByteArray)):Option (List ByteArray):=
 if decide ((a1.length:Int)<2) then
  (some a1)
 else
  ((uI a1 1).bind (Fl.go some fun v80=>
  some a1))
noncomputable def uO (a1:(List ByteArray)):Option (List ByteArray):=
 (uM a1).bind fun x2=>
 (same x2 a1).bind fun u4=>
 (vR x2).bind fun x6=>
 some x6
noncomputable def zCk (a1:(List Pack)) (a2:(List Int)) (a3:(List Int)) (x4:(List Int)) (s19:((List ByteArray)×Int)):Option (Lp ((List ByteArray)×Int) (List ByteArray)):=
 if decide (s19.2< (x4.length:Int)) then
  ((idx x4 s19.2).bind fun x21=>
  (idx a1 x21).bind fun x23=>
  (tK a1 a2 x23.Name).bind fun x25=>
  (tK a1 a3 x23.Name).bind fun x27=>
  (if x25 !=x27 then
    ((app 16 s19.1 [x23.Name]).bind fun x30=>
    some x30)
   else
    (some s19.1)).bind fun v32=>
  some (Lp.go (v32,w64 (s19.2+1))))
 else
  (some (Lp.done s19.1))
noncomputable def zCD (a1:(List Pack)) (a2:(List Int)) (a3:(List Int)) (x4:(List Int)):((List ByteArray)×Int)→Option (List ByteArray):=loop (zCk a1 a2 a3 x4)
noncomputable def zAQ (a1:(List Pack)) (a2:(List Int)) (a3:(List Int)):Option (List ByteArray):=
 (vE [a2,a3]).bind fun x4=>
 (zCD a1 a2 a3 x4 (([]:List ByteArray),0)).bind fun v33=>
 (uO v33).bind fun x34=>
 some x34
noncomputable def tY (a1:(List Pack)) (x5:Int) (x7:Int) (s18:((List Pack)×Int)):Option (Lp ((List Pack)×Int) (List Pack)):=
 if decide (s18.2< ([x5,x7].length :Int)) then
  ((idx [x5,x7] s18.2).bind fun x20=>
  (if decide (x20≥0) then
    ((idx a1 x20).bind fun x23=>
    (app 120 s18.1 [x23]).bind fun x25=>
    some x25)
   else
    (some s18.1)).bind fun v27=>
  some (Lp.go (v27,w64 (s18.2+1))))
 else
  (some (Lp.done s18.1))
noncomputable def zBE (a1:(List Pack)) (x5:Int) (x7:Int):((List Pack)×Int)→Option (List Pack):=loop (tY a1 x5 x7)
noncomputable def kD (a1:(List Pack)) (a2:(List Int)) (a3:(List Int)) (a4:ByteArray):Option (List Pack):=
 (tK a1 a2 a4).bind fun x5=>
 (tK a1 a3 a4).bind fun x7=>
 (zBE a1 x5 x7 (([]:List Pack),0)).bind fun v28=>
 some v28
noncomputable def zCh (x5:(List Pack)) (s12:((List ByteArray)×Int)):Option (Lp ((List ByteArray)×Int) (List ByteArray)):=
 if decide (s12.2< (x5.length:Int)) then
  ((idx x5 s12.2).bind fun x14=>
  (app 16 s12.1 x14.Provides).bind fun x16=>
  some (Lp.go (x16,w64 (s12.2+1))))
 else
  (some (Lp.done s12.1))
noncomputable def zCO (x5:(List Pack)):((List ByteArray)×Int)→Option (List ByteArray):=loop (zCh x5)
noncomputable def kK (a1:(List Pack)) (a2:(List Int)) (a3:(List Int)) (a4:ByteArray):Option (List ByteArray):=
 (kD a1 a2 a3 a4).bind fun x5=>
 (zCO x5 ([a4],0)).bind fun v18=>
 (uO v18).bind fun x19=>
 some x19
noncomputable def kV (a1:Int):Option (List Term):=if 0≤a1∧a1*64≤140737488355328∧a1≤4611686018427387904 then some [] else none
noncomputable def uD (a1:(List (List Term))) (s19:((List Term)×Int)):Option (Lp ((List Term)×Int) (List Term)):=
 if decide (s19.2< (a1.length:Int)) then
  ((idx a1 s19.2).bind fun x21=>
  (app 64 s19.1 x21).bind fun x23=>
  some (Lp.go (x23,w64 (s19.2+1))))
 else
  (some (Lp.done s19.1))
noncomputable def uG (a1:(List (List Term))):((List Term)×Int)→Option (List Term):=loop (uD a1)
noncomputable def vZ (a1:(List (List Term))) (s6:(Int×Int)):Option (Lp (Int×Int) Int):=
 if decide (s6.2< (a1.length:Int)) then
  ((idx a1 s6.2).bind fun x8=>
  if decide ((w64 (s6.1+(x8.length:Int)))<0) then
   (none)
  else
   (some (Lp.go (w64 (s6.1+(x8.length:Int)),w64 (s6.2+1)))))
 else
  (some (Lp.done s6.1))
noncomputable def uJ (a1:(List (List Term))):(Int×Int)→Option Int:=loop (vZ a1)
noncomputable def vQ (a1:(List (List Term))):Option (List Term):=
 (uJ a1 (0,0)).bind fun v11=>
 (kV v11).bind fun x12=>
 (uG a1 (x12,0)).bind fun v25=>
 some v25
noncomputable def jV (x4:(List Term)) (s11:((List ByteArray)×Int)):Option (Lp ((List ByteArray)×Int) (List ByteArray)):=
 if decide (s11.2< (x4.length:Int)) then
  ((idx x4 s11.2).bind fun x13=>
  (app 16 s11.1 [x13.Name]).bind fun x15=>
  some (Lp.go (x15,w64 (s11.2+1))))
 else
  (some (Lp.done s11.1))
noncomputable def kQ (x4:(List Term)):((List ByteArray)×Int)→Option (List ByteArray):=loop (jV x4)
noncomputable def vL (a1:Pack):Option (List ByteArray):=
 (vQ a1.Needs).bind fun x2=>
 (app 64 x2 a1.Bars).bind fun x4=>
 (kQ x4 (([]:List ByteArray),0)).bind fun v17=>
 (uO v17).bind fun x18=>
 some x18
noncomputable def uQ (a1:ByteArray) (a2:(List ByteArray)):Option Bool:=
 (yA a2 a1).bind fun x3=>
 some x3
noncomputable def yK (a1:(List ByteArray)) (a2:(List ByteArray)) (s9:Int):Option (Lp Int (Fl Int Unit)):=
 if decide (s9< (a1.length:Int)) then
  ((idx a1 s9).bind fun x11=>
  (uQ x11 a2).bind fun x13=>
  if x13 then
   (some (Lp.done (Fl.ret s9)))
  else
   (some (Lp.go (w64 (s9+1)))))
 else
  (some (Lp.done (Fl.nxt ())))
noncomputable def xS (a1:(List ByteArray)) (a2:(List ByteArray)):Int→Option (Fl Int Unit):=loop (yK a1 a2)
noncomputable def yX (a1:(List ByteArray)) (a2:(List ByteArray)):Option Int:=
 (xS a1 a2 0).bind (Fl.go some fun v16=>
 some (-1))
noncomputable def zW (a1:(List ByteArray)) (a2:(List ByteArray)):Option Bool:=
 (yX a1 a2).bind fun x3=>
 some (decide (x3≥0))
noncomputable def jQ (a1:Pack) (a2:(List ByteArray)):Option Bool:=
 (vL a1).bind fun x3=>
 (zW x3 a2).bind fun x5=>
 some x5
noncomputable def yJ (a1:(List Pack)) (a2:(List ByteArray)) (s9:Int):Option (Lp Int (Fl Int Unit)):=
 if decide (s9< (a1.length:Int)) then
  ((idx a1 s9).bind fun x11=>
  (jQ x11 a2).bind fun x13=>
  if x13 then
   (some (Lp.done (Fl.ret s9)))
  else
   (some (Lp.go (w64 (s9+1)))))
 else
  (some (Lp.done (Fl.nxt ())))
noncomputable def xV (a1:(List Pack)) (a2:(List ByteArray)):Int→Option (Fl Int Unit):=loop (yJ a1 a2)
noncomputable def yV (a1:(List Pack)) (a2:(List ByteArray)):Option Int:=
 (xV a1 a2 0).bind (Fl.go some fun v16=>
 some (-1))
noncomputable def zX (a1:(List Pack)) (a2:(List ByteArray)):Option Bool:=
 (yV a1 a2).bind fun x3=>
 some (decide (x3≥0))
noncomputable def vN (a1:ByteArray) (a2:(List ByteArray)) (a3:(List Pack)) (a4:(List Int)) (a5:(List Int)):Option Bool:=
 (kD a3 a4 a5 a1).bind fun x6=>
 (zX x6 a2).bind fun x8=>
 some x8
noncomputable def jN (a1:Term) (a2:(List ByteArray)):Option Bool:=
 (yA a2 a1.Name).bind fun x3=>
 some x3
noncomputable def yM (a1:(List Term)) (a2:(List ByteArray)) (s9:Int):Option (Lp Int (Fl Int Unit)):=
 if decide (s9< (a1.length:Int)) then
  ((idx a1 s9).bind fun x11=>
  (jN x11 a2).bind fun x13=>
  if x13 then
   (some (Lp.done (Fl.ret s9)))
  else
   (some (Lp.go (w64 (s9+1)))))
 else
  (some (Lp.done (Fl.nxt ())))
noncomputable def xZ (a1:(List Term)) (a2:(List ByteArray)):Int→Option (Fl Int Unit):=loop (yM a1 a2)
noncomputable def xA (a1:(List Term)) (a2:(List ByteArray)):Option Int:=
 (xZ a1 a2 0).bind (Fl.go some fun v16=>
 some (-1))
noncomputable def zY (a1:(List Term)) (a2:(List ByteArray)):Option Bool:=
 (xA a1 a2).bind fun x3=>
 some (decide (x3≥0))
noncomputable def vM (a1:(List ByteArray)) (a2:(List Term)):Option Bool:=
 (zY a2 a1).bind fun x3=>
 some x3
noncomputable def kY (a1:(List Pack)) (x6:(List ByteArray)) (x8:(List ByteArray)) (x17:(List Int)) (s46:Int) (x50:Pack) (s62:Int):Option (Lp Int (Fl Bool Unit)):=
 if decide (s62< (x50.Needs.length:Int)) then
  ((idx x50.Needs s62).bind fun x64=>
  (vM x6 x64).bind fun x66=>
  (if x66 then
    ((vM x8 x64).bind fun x69=>
    some x69)
   else
    (some false)).bind fun v71=>
  if v71 then
   (some (Lp.done (Fl.ret true)))
  else
   (some (Lp.go (w64 (s62+1)))))
 else
  (some (Lp.done (Fl.nxt ())))
noncomputable def zAt (a1:(List Pack)) (x6:(List ByteArray)) (x8:(List ByteArray)) (x17:(List Int)) (s46:Int) (x50:Pack):Int→Option (Fl Bool Unit):=loop (kY a1 x6 x8 x17 s46 x50)
noncomputable def jP (a1:(List Pack)) (x6:(List ByteArray)) (x8:(List ByteArray)) (x17:(List Int)) (s46:Int):Option (Lp Int (Fl Bool Unit)):=
 if decide (s46< (x17.length:Int)) then
  ((idx x17 s46).bind fun x48=>
  (idx a1 x48).bind fun x50=>
  (zAt a1 x6 x8 x17 s46 x50 0).bind (Fl.go (fun r=>some (Lp.done (Fl.ret r))) fun v73=>
  some (Lp.go (w64 (s46+1)))))
 else
  (some (Lp.done (Fl.nxt ())))
noncomputable def zAu (a1:(List Pack)) (x6:(List ByteArray)) (x8:(List ByteArray)) (x17:(List Int)):Int→Option (Fl Bool Unit):=loop (jP a1 x6 x8 x17)
noncomputable def wV (a1:(List Pack)) (a2:(List Int)) (a3:(List Int)) (a4:ByteArray) (a5:ByteArray):Option Bool:=
 (kK a1 a2 a3 a4).bind fun x6=>
 (kK a1 a2 a3 a5).bind fun x8=>
 (vN a4 x8 a1 a2 a3).bind fun x10=>
 (if x10 then
   (some true)
  else
   ((vN a5 x6 a1 a2 a3).bind fun x13=>
   some x13)).bind fun v15=>
 if v15 then
  (some true)
 else
  ((vE [a2,a3]).bind fun x17=>
  (zAu a1 x6 x8 x17 0).bind (Fl.go some fun v74=>
  some false))
noncomputable def zCg (a1:(List Pack)) (a2:(List Int)) (a3:(List Int)) (s133:((List (List ByteArray))×(List ByteArray))) (s226:((List ByteArray)×(List ByteArray)×Int)) (s241:((List ByteArray)×(List ByteArray)×Int)):Option (Lp ((List ByteArray)×(List ByteArray)×Int) ((List ByteArray)×(List ByteArray))):=
 if decide (s241.2.2< (s226.1.length:Int)) then
  ((idx s226.1 s241.2.2).bind fun x243=>
  (idx s241.1 s226.2.2).bind fun x245=>
  (wV a1 a2 a3 x245 x243).bind fun x247=>
  (if x247 then
    ((app 16 s241.1 [x243]).bind fun x250=>
    some (x250,s241.2.1))
   else
    ((app 16 s241.2.1 [x243]).bind fun x252=>
    some (s241.1,x252))).bind fun v254=>
  some (Lp.go (v254.1,v254.2,w64 (s241.2.2+1))))
 else
  (some (Lp.done (s241.1,s241.2.1)))
noncomputable def zB9 (a1:(List Pack)) (a2:(List Int)) (a3:(List Int)) (s133:((List (List ByteArray))×(List ByteArray))) (s226:((List ByteArray)×(List ByteArray)×Int)):((List ByteArray)×(List ByteArray)×Int)→Option ((List ByteArray)×(List ByteArray)):=loop (zCg a1 a2 a3 s133 s226)
noncomputable def zDK (a1:(List Pack)) (a2:(List Int)) (a3:(List Int)) (s133:((List (List ByteArray))×(List ByteArray))) (s226:((List ByteArray)×(List ByteArray)×Int)):Option (Lp ((List ByteArray)×(List ByteArray)×Int) ((List ByteArray)×(List ByteArray))):=
 if decide (s226.2.2< (s226.2.1.length:Int)) then
  ((zB9 a1 a2 a3 s133 s226 (s226.2.1,([]:List ByteArray),0)).bind fun v255=>
  some (Lp.go (v255.2,v255.1,w64 (s226.2.2+1))))
 else
  (some (Lp.done (s226.1,s226.2.1)))
noncomputable def zBC (a1:(List Pack)) (a2:(List Int)) (a3:(List Int)) (s133:((List (List ByteArray))×(List ByteArray))):((List ByteArray)×(List ByteArray)×Int)→Option ((List ByteArray)×(List ByteArray)):=loop (zDK a1 a2 a3 s133)
noncomputable def zCx (a1:(List Pack)) (a2:(List Int)) (a3:(List Int)) (s133:((List (List ByteArray))×(List ByteArray))) (x137:(List ByteArray)) (s182:((List ByteArray)×(List ByteArray)×Int)):Option (Lp ((List ByteArray)×(List ByteArray)×Int) ((List ByteArray)×(List ByteArray))):=
 if decide (s182.2.2< (x137.length:Int)) then
  ((zKC s133.2 1 x137.length s182.2.2).bind fun x184=>
  (idx s182.1 0).bind fun x186=>
  (wV a1 a2 a3 x186 x184).bind fun x188=>
  (if x188 then
    ((app 16 s182.1 [x184]).bind fun x191=>
    some (x191,s182.2.1))
   else
    ((app 16 s182.2.1 [x184]).bind fun x193=>
    some (s182.1,x193))).bind fun v195=>
  some (Lp.go (v195.1,v195.2,w64 (s182.2.2+1))))
 else
  (some (Lp.done (s182.1,s182.2.1)))
noncomputable def zBB (a1:(List Pack)) (a2:(List Int)) (a3:(List Int)) (s133:((List (List ByteArray))×(List ByteArray))) (x137:(List ByteArray)):((List ByteArray)×(List ByteArray)×Int)→Option ((List ByteArray)×(List ByteArray)):=loop (zCx a1 a2 a3 s133 x137)
noncomputable def zCz (a1:(List Pack)) (a2:(List Int)) (a3:(List Int)) (s133:((List (List ByteArray))×(List ByteArray))):Option (Lp ((List (List ByteArray))×(List ByteArray)) (List (List ByteArray))):=
 if decide ((s133.2.length:Int)>0) then
  ((zF8 s133.2 0 1).bind fun x135=>
  (zF8 s133.2 1 (s133.2.length:Int)).bind fun x137=>
  if decide (0< (x135.length:Int)) then
   ((zBB a1 a2 a3 s133 x137 (x135,([]:List ByteArray),0)).bind fun v196=>
   (zBC a1 a2 a3 s133 (v196.2,v196.1,w64 (0+1))).bind fun v256=>
   (uO v256.2).bind fun x257=>
   (app 24 s133.1 [x257]).bind fun x259=>
   some (Lp.go (x259,v256.1)))
  else
   (none))
 else
  (some (Lp.done s133.1))
noncomputable def kG (a1:(List Pack)) (a2:(List Int)) (a3:(List Int)):((List (List ByteArray))×(List ByteArray))→Option (List (List ByteArray)):=loop (zCz a1 a2 a3)
noncomputable def zAJ (a1:(List Pack)) (a2:(List Int)) (a3:(List Int)):Option (List (List ByteArray)):=
 (zAQ a1 a2 a3).bind fun x4=>
 (kG a1 a2 a3 (([]:List (List ByteArray)),x4)).bind fun v261=>
 some v261
noncomputable def wH (a1:(List Int)):Option (List Int):=
 (app 8 ([]:List Int) a1).bind fun x3=>
 some x3
noncomputable def zBb (a1:Int) (a2:(List ByteArray)) (a3:(List Pack)):Option Bool:=
 (idx a3 a1).bind fun x4=>
 (yA a2 x4.Name).bind fun x6=>
 some x6
noncomputable def vS (a1:Int) (a2:(List ByteArray)) (a3:(List Pack)):Option Bool:=
 (zBb a1 a2 a3).bind fun x4=>
 some (!x4)
noncomputable def zT (a1:Int) (a2:(List ByteArray)) (a3:(List Pack)):Option Bool:=
 (vS a1 a2 a3).bind fun x4=>
 some (!x4)
noncomputable def zO (a1:(List Int)) (a2:(List ByteArray)) (a3:(List Pack)) (s10:Int):Option (Lp Int (Fl Int Unit)):=
 if decide (s10< (a1.length:Int)) then
  ((idx a1 s10).bind fun x12=>
  (zT x12 a2 a3).bind fun x14=>
  if x14 then
   (some (Lp.done (Fl.ret s10)))
  else
   (some (Lp.go (w64 (s10+1)))))
 else
  (some (Lp.done (Fl.nxt ())))
noncomputable def yB (a1:(List Int)) (a2:(List ByteArray)) (a3:(List Pack)):Int→Option (Fl Int Unit):=loop (zO a1 a2 a3)
noncomputable def zP (a1:(List Int)) (a2:(List ByteArray)) (a3:(List Pack)):Option Int:=
 (yB a1 a2 a3 0).bind (Fl.go some fun v17=>
 some (-1))
noncomputable def zM (a2:(List ByteArray)) (a3:(List Pack)) (s16:((List Int)×Int×Int)):Option (Lp ((List Int)×Int×Int) ((List Int)×Int)):=
 if decide (s16.2.2< (s16.1.length:Int)) then
  ((idx s16.1 s16.2.2).bind fun x18=>
  (zT x18 a2 a3).bind fun x20=>
  (if !x20 then
    ((idx s16.1 s16.2.1).bind fun x23=>
    some (s16.1.set s16.2.1.toNat x18,w64 (s16.2.1+1)))
   else
    (some (s16.1,s16.2.1))).bind fun v25=>
  some (Lp.go (v25.1,v25.2,w64 (s16.2.2+1))))
 else
  (some (Lp.done (s16.1,s16.2.1)))
noncomputable def zZ (a2:(List ByteArray)) (a3:(List Pack)):((List Int)×Int×Int)→Option ((List Int)×Int):=loop (zM a2 a3)
noncomputable def zK (a1:(List Int)) (a2:(List ByteArray)) (a3:(List Pack)):Option (List Int):=
 (zP a1 a2 a3).bind fun x4=>
 if x4==(-1) then
  (some a1)
 else
  ((zZ a2 a3 (a1,x4,w64 (x4+1))).bind fun v26=>
  (zF8 v26.1 v26.2 (v26.1.length:Int)).bind fun x27=>
  (zL8 v26.1 v26.2 x27.length 0).bind fun x29=>
  (zF8 x29 0 v26.2).bind fun x31=>
  some x31)
noncomputable def xC (a1:(List Int)) (a2:(List ByteArray)) (a3:(List Pack)):Option (List Int):=
 (wH a1).bind fun x4=>
 (zK x4 a2 a3).bind fun x6=>
 some x6
noncomputable def wK (a1:Int) (a2:(List ByteArray)) (a3:(List Pack)):Option Bool:=
 (zBb a1 a2 a3).bind fun x4=>
 some (!x4)
noncomputable def yE (a1:(List Int)) (a2:(List ByteArray)) (a3:(List Pack)) (s10:Int):Option (Lp Int (Fl Int Unit)):=
 if decide (s10< (a1.length:Int)) then
  ((idx a1 s10).bind fun x12=>
  (wK x12 a2 a3).bind fun x14=>
  if x14 then
   (some (Lp.done (Fl.ret s10)))
  else
   (some (Lp.go (w64 (s10+1)))))
 else
  (some (Lp.done (Fl.nxt ())))
noncomputable def xP (a1:(List Int)) (a2:(List ByteArray)) (a3:(List Pack)):Int→Option (Fl Int Unit):=loop (yE a1 a2 a3)
noncomputable def yP (a1:(List Int)) (a2:(List ByteArray)) (a3:(List Pack)):Option Int:=
 (xP a1 a2 a3 0).bind (Fl.go some fun v17=>
 some (-1))
noncomputable def yC (a2:(List ByteArray)) (a3:(List Pack)) (s16:((List Int)×Int×Int)):Option (Lp ((List Int)×Int×Int) ((List Int)×Int)):=
 if decide (s16.2.2< (s16.1.length:Int)) then
  ((idx s16.1 s16.2.2).bind fun x18=>
  (wK x18 a2 a3).bind fun x20=>
  (if !x20 then
    ((idx s16.1 s16.2.1).bind fun x23=>
    some (s16.1.set s16.2.1.toNat x18,w64 (s16.2.1+1)))
   else
    (some (s16.1,s16.2.1))).bind fun v25=>
  some (Lp.go (v25.1,v25.2,w64 (s16.2.2+1))))
 else
  (some (Lp.done (s16.1,s16.2.1)))
noncomputable def xK (a2:(List ByteArray)) (a3:(List Pack)):((List Int)×Int×Int)→Option ((List Int)×Int):=loop (yC a2 a3)
noncomputable def zV (a1:(List Int)) (a2:(List ByteArray)) (a3:(List Pack)):Option (List Int):=
 (yP a1 a2 a3).bind fun x4=>
 if x4==(-1) then
  (some a1)
 else
  ((xK a2 a3 (a1,x4,w64 (x4+1))).bind fun v26=>
  (zF8 v26.1 v26.2 (v26.1.length:Int)).bind fun x27=>
  (zL8 v26.1 v26.2 x27.length 0).bind fun x29=>
  (zF8 x29 0 v26.2).bind fun x31=>
  some x31)
noncomputable def vP (a1:(List Int)) (a2:(List ByteArray)) (a3:(List Pack)):Option (List Int):=
 (wH a1).bind fun x4=>
 (zV x4 a2 a3).bind fun x6=>
 some x6
noncomputable def tH (a1:List Int):Option (List Int):=if a1.length≤4611686018427387903 then some (a1.mergeSort fun x y=>decide (x≤y)) else none
noncomputable def zAp (a1:(List Pack)) (a2:(List Int)) (a3:(List Int)) (a4:(List ByteArray)):Option (List Int):=
 (xC a2 a4 a1).bind fun x5=>
 (vP a3 a4 a1).bind fun x7=>
 (app 8 x5 x7).bind fun x9=>
 (tH x9).bind fun x11=>
 (same x11 x9).bind fun u13=>
 some x11
noncomputable def zAA (a1:(List ByteArray)) (a2:(List Pack)) (a3:(List Int)) (a4:(List Int)):Option Bool:=
 if decide ((a1.length:Int)≤24) then
  ((zAp a2 a3 a4 a1).bind fun x6=>
  (wX a2 x6).bind fun x8=>
  some x8)
 else
  (some false)
noncomputable def vF (a1:(List ByteArray)):Option (List ByteArray):=
 (app 16 ([]:List ByteArray) a1).bind fun x3=>
 some x3
noncomputable def cmp_isNaN_string (a1:ByteArray):Option Bool:=
 some (!(seq a1 a1))
noncomputable def jA (a1:ByteArray) (a2:ByteArray):Option Int:=
 (cmp_isNaN_string a1).bind fun x3=>
 (cmp_isNaN_string a2).bind fun x5=>
 if x3 then
  (if x5 then
   (some 0)
  else
   (some (-1)))
 else
  (if x5 then
   (some 1)
  else
   (if slt a1 a2 then
    (some (-1))
   else
    (if !(slt a1 a2||seq a1 a2) then
     (some 1)
    else
     (some 0))))
noncomputable def uH (a1:(List ByteArray)) (a2:(List ByteArray)) (s12:Int):Option (Lp Int (Fl Int Unit)):=
 if decide (s12< (a1.length:Int)) then
  ((idx a1 s12).bind fun x14=>
  if decide (s12≥(a2.length:Int)) then
   (some (Lp.done (Fl.ret 1)))
  else
   ((idx a2 s12).bind fun x17=>
   (jA x14 x17).bind fun x19=>
   if x19 !=0 then
    (some (Lp.done (Fl.ret x19)))
   else
    (some (Lp.go (w64 (s12+1))))))
 else
  (some (Lp.done (Fl.nxt ())))
noncomputable def uX (a1:(List ByteArray)) (a2:(List ByteArray)):Int→Option (Fl Int Unit):=loop (uH a1 a2)
noncomputable def vT (a1:(List ByteArray)) (a2:(List ByteArray)):Option Int:=
 (uX a1 a2 0).bind (Fl.go some fun v22=>
 if decide ((a1.length:Int)< (a2.length:Int)) then
  (some (-1))
 else
  (some 0))
noncomputable def wO (a1:(List ByteArray)) (a2:(List ByteArray)):Option Int:=
 if (a1.length:Int) !=(a2.length:Int) then
  (some (w64 ((a1.length:Int)-(a2.length:Int))))
 else
  ((vT a1 a2).bind fun x4=>
  some x4)
noncomputable def wR (a1:(List (List ByteArray))):Option (List (List ByteArray)):=zIY wO a1
noncomputable def zAh (a1:(List ByteArray)) (a2:(List Pack)) (a3:(List Int)) (a4:(List Int)):Option Bool:=
 if decide ((a1.length:Int)≤24) then
  ((zAp a2 a3 a4 a1).bind fun x6=>
  (wX a2 x6).bind fun x8=>
  some x8)
 else
  (some false)
noncomputable def yZ (a1:(List (List ByteArray))) (a2:(List Pack)) (a3:(List Int)) (a4:(List Int)) (s11:Int):Option (Lp Int (Fl Int Unit)):=
 if decide (s11< (a1.length:Int)) then
  ((idx a1 s11).bind fun x13=>
  (zAh x13 a2 a3 a4).bind fun x15=>
  if x15 then
   (some (Lp.done (Fl.ret s11)))
  else
   (some (Lp.go (w64 (s11+1)))))
 else
  (some (Lp.done (Fl.nxt ())))
noncomputable def xI (a1:(List (List ByteArray))) (a2:(List Pack)) (a3:(List Int)) (a4:(List Int)):Int→Option (Fl Int Unit):=loop (yZ a1 a2 a3 a4)
noncomputable def yR (a1:(List (List ByteArray))) (a2:(List Pack)) (a3:(List Int)) (a4:(List Int)):Option Int:=
 (xI a1 a2 a3 a4 0).bind (Fl.go some fun v18=>
 some (-1))
noncomputable def zAX (a1:(List Pack)) (a2:(List Int)) (a3:(List Int)) (a4:(List ByteArray)) (s34:((List (List ByteArray))×Int)) (s45:((List ByteArray)×Int)):Option (Lp ((List ByteArray)×Int) (List ByteArray)):=
 if decide (s45.2< (a4.length:Int)) then
  ((idx a4 s45.2).bind fun x47=>
  (zOt .i64 s34.2 s45.2).bind fun x49=>
  (if (zNW .i64 x49 1)==1 then
    ((app 16 s45.1 [x47]).bind fun x52=>
    some x52)
   else
    (some s45.1)).bind fun v54=>
  some (Lp.go (v54,w64 (s45.2+1))))
 else
  (some (Lp.done s45.1))
noncomputable def zAr (a1:(List Pack)) (a2:(List Int)) (a3:(List Int)) (a4:(List ByteArray)) (s34:((List (List ByteArray))×Int)):((List ByteArray)×Int)→Option (List ByteArray):=loop (zAX a1 a2 a3 a4 s34)
noncomputable def zBa (a1:(List Pack)) (a2:(List Int)) (a3:(List Int)) (a4:(List ByteArray)) (s34:((List (List ByteArray))×Int)):Option (Lp ((List (List ByteArray))×Int) (List (List ByteArray))):=
 (zOq .i64 1 (a4.length:Int)).bind fun x35=>
 if decide (s34.2< (w64 (x35-1))) then
  ((zAr a1 a2 a3 a4 s34 (([]:List ByteArray),0)).bind fun v55=>
  (app 24 s34.1 [v55]).bind fun x56=>
  some (Lp.go (x56,w64 (s34.2+1))))
 else
  (some (Lp.done s34.1))
noncomputable def zAk (a1:(List Pack)) (a2:(List Int)) (a3:(List Int)) (a4:(List ByteArray)):((List (List ByteArray))×Int)→Option (List (List ByteArray)):=loop (zBa a1 a2 a3 a4)
noncomputable def zBl (a1:(List Pack)) (a2:(List Int)) (a3:(List Int)) (a4:(List ByteArray)):Option ((List ByteArray)×Bool):=
 (zAA a4 a1 a2 a3).bind fun x5=>
 if !x5 then
  (some (([]:List ByteArray),false))
 else
  (if decide ((a4.length:Int)>6) then
   ((vF a4).bind fun x9=>
   some (x9,true))
  else
   ((zAk a1 a2 a3 a4 (([]:List (List ByteArray)),1)).bind fun v58=>
   (wR v58).bind fun x59=>
   (same x59 v58).bind fun u61=>
   (yR x59 a1 a2 a3).bind fun x63=>
   if decide (x63≥0) then
    ((idx x59 x63).bind fun x66=>
    (zOp (x59.map some) x63).bind fun x68=>
    some (x68,true))
   else
    ((vF a4).bind fun x70=>
    some (x70,true))))
noncomputable def zEp (a1:ByteArray) (a2:(List ByteArray)):Option Bool:=
 (yA a2 a1).bind fun x3=>
 some x3
noncomputable def wB (a1:(List ByteArray)) (a2:(List ByteArray)) (s9:Int):Option (Lp Int (Fl Int Unit)):=
 if decide (s9< (a1.length:Int)) then
  ((idx a1 s9).bind fun x11=>
  (zEp x11 a2).bind fun x13=>
  if x13 then
   (some (Lp.done (Fl.ret s9)))
  else
   (some (Lp.go (w64 (s9+1)))))
 else
  (some (Lp.done (Fl.nxt ())))
noncomputable def wY (a1:(List ByteArray)) (a2:(List ByteArray)):Int→Option (Fl Int Unit):=loop (wB a1 a2)
noncomputable def wL (a1:(List ByteArray)) (a2:(List ByteArray)):Option Int:=
 (wY a1 a2 0).bind (Fl.go some fun v16=>
 some (-1))
noncomputable def xU (a2:(List ByteArray)) (s15:((List ByteArray)×Int×Int)):Option (Lp ((List ByteArray)×Int×Int) ((List ByteArray)×Int)):=
 if decide (s15.2.2< (s15.1.length:Int)) then
  ((idx s15.1 s15.2.2).bind fun x17=>
  (zEp x17 a2).bind fun x19=>
  (if !x19 then
    ((idx s15.1 s15.2.1).bind fun x22=>
    some (s15.1.set s15.2.1.toNat x17,w64 (s15.2.1+1)))
   else
    (some (s15.1,s15.2.1))).bind fun v24=>
  some (Lp.go (v24.1,v24.2,w64 (s15.2.2+1))))
 else
  (some (Lp.done (s15.1,s15.2.1)))
noncomputable def wU (a2:(List ByteArray)):((List ByteArray)×Int×Int)→Option ((List ByteArray)×Int):=loop (xU a2)
noncomputable def xL (a1:(List ByteArray)) (a2:(List ByteArray)):Option (List ByteArray):=
 (wL a1 a2).bind fun x3=>
 if x3==(-1) then
  (some a1)
 else
  ((wU a2 (a1,x3,w64 (x3+1))).bind fun v25=>
  (zF8 v25.1 v25.2 (v25.1.length:Int)).bind fun x26=>
  (zL8 v25.1 v25.2 x26.length ByteArray.empty).bind fun x28=>
  (zF8 x28 0 v25.2).bind fun x30=>
  some x30)
noncomputable def zDn (a1:(List Pack)) (a3:(List Int)) (x7:(List (List ByteArray))) (s77:((List (List ByteArray))×(List (List Int))×(List Int)×(List (Option (List ByteArray)))×Int)) (s95:((List (List ByteArray))×(List (List Int))×(List Int)×(List ByteArray))):Option (Lp ((List (List ByteArray))×(List (List Int))×(List Int)×(List ByteArray)) (Fl ((List (List ByteArray))×(List (List Int))×Int) ((List (List ByteArray))×(List (List Int))×(List Int)))):=
 if decide ((s95.2.2.2.length:Int)>0) then
  ((zBl a1 s95.2.2.1 a3 s95.2.2.2).bind fun x97=>
  if !x97.2 then
   (some (Lp.done (Fl.ret (([]:List (List ByteArray)),([]:List (List Int)),4))))
  else
   ((zAp a1 s95.2.2.1 a3 x97.1).bind fun x100=>
   (xL s95.2.2.2 x97.1).bind fun x102=>
   (app 24 s95.1 [x97.1]).bind fun x104=>
   (wH x100).bind fun x106=>
   (app 24 s95.2.1 [x106]).bind fun x108=>
   some (Lp.go (x104,x108,x100,x102))))
 else
  (some (Lp.done (Fl.nxt (s95.1,s95.2.1,s95.2.2.1))))
noncomputable def zDg (a1:(List Pack)) (a3:(List Int)) (x7:(List (List ByteArray))) (s77:((List (List ByteArray))×(List (List Int))×(List Int)×(List (Option (List ByteArray)))×Int)):((List (List ByteArray))×(List (List Int))×(List Int)×(List ByteArray))→Option (Fl ((List (List ByteArray))×(List (List Int))×Int) ((List (List ByteArray))×(List (List Int))×(List Int))):=loop (zDn a1 a3 x7 s77)
noncomputable def zEi (a1:(List Pack)) (a3:(List Int)) (x7:(List (List ByteArray))) (s77:((List (List ByteArray))×(List (List Int))×(List Int)×(List (Option (List ByteArray)))×Int)):Option (Lp ((List (List ByteArray))×(List (List Int))×(List Int)×(List (Option (List ByteArray)))×Int) (Fl ((List (List ByteArray))×(List (List Int))×Int) ((List (List ByteArray))×(List (List Int))))):=
 if decide (s77.2.2.2.2< (x7.length:Int)) then
  ((zOp s77.2.2.2.1 s77.2.2.2.2).bind fun x79=>
  (zDg a1 a3 x7 s77 (s77.1,s77.2.1,s77.2.2.1,x79)).bind (Fl.go (fun r=>some (Lp.done (Fl.ret r))) fun v110=>
  some (Lp.go (v110.1,v110.2.1,v110.2.2,s77.2.2.2.1.set s77.2.2.2.2.toNat none,w64 (s77.2.2.2.2+1)))))
 else
  (some (Lp.done (Fl.nxt (s77.1,s77.2.1))))
noncomputable def zDZ (a1:(List Pack)) (a3:(List Int)) (x7:(List (List ByteArray))):((List (List ByteArray))×(List (List Int))×(List Int)×(List (Option (List ByteArray)))×Int)→Option (Fl ((List (List ByteArray))×(List (List Int))×Int) ((List (List ByteArray))×(List (List Int)))):=loop (zEi a1 a3 x7)
noncomputable def zDb (a1:(List Pack)) (a2:(List Int)) (a3:(List Int)):Option ((List (List ByteArray))×(List (List Int))×Int):=
 (zBS a1 a2 a3).bind fun x4=>
 if x4 !=0 then
  (some (([]:List (List ByteArray)),([]:List (List Int)),x4))
 else
  ((zAJ a1 a2 a3).bind fun x7=>
  (zDZ a1 a3 x7 (([]:List (List ByteArray)),([]:List (List Int)),a2,(x7.map some),0)).bind (Fl.go some fun v111=>
  some (v111.1,v111.2,0)))
noncomputable def jC (a1:(List Pack)) (a2:(List Int)) (a3:(List Int)):Option wQ:=
 (zDb a1 a2 a3).bind fun x4=>
 if x4.2.2 !=0 then
  (some ({Code:=x4.2.2,Value:=0}:wQ))
 else
  ((zAJ a1 a2 a3).bind fun x7=>
  some ({Code:=0,Value:=(x7.length:Int)}:wQ))
noncomputable def kU (a1:wQ) (a2:wQ):Option Bool:=
 if a1.Code !=a2.Code then
  (some false)
 else
  (if a1.Value !=a2.Value then
   (some false)
  else
   (some true))
noncomputable def uV (a1:Version) (a2:Version):Option Bool:=
 if a1.A !=a2.A then
  (some false)
 else
  (if a1.B !=a2.B then
   (some false)
  else
   (if a1.C !=a2.C then
    (some false)
   else
    (some true)))
noncomputable def zC9 (a1:(List ByteArray)) (a2:(List ByteArray)) (s10:Int):Option (Lp Int (Fl Bool Unit)):=
 if decide (s10< (a1.length:Int)) then
  ((idx a1 s10).bind fun x12=>
  (idx a2 s10).bind fun x14=>
  if !(seq x12 x14) then
   (some (Lp.done (Fl.ret false)))
  else
   (some (Lp.go (w64 (s10+1)))))
 else
  (some (Lp.done (Fl.nxt ())))
noncomputable def zBz (a1:(List ByteArray)) (a2:(List ByteArray)):Int→Option (Fl Bool Unit):=loop (zC9 a1 a2)
noncomputable def kE (a1:(List ByteArray)) (a2:(List ByteArray)):Option Bool:=
 if (a1.length:Int) !=(a2.length:Int) then
  (some false)
 else
  ((zBz a1 a2 0).bind (Fl.go some fun v17=>
  some true))
noncomputable def zDR (a1:Term) (a2:Term):Option Bool:=
 if !(seq a1.Name a2.Name) then
  (some false)
 else
  ((uV a1.Low a2.Low).bind fun x4=>
  if !x4 then
   (some false)
  else
   ((uV a1.High a2.High).bind fun x7=>
   if !x7 then
    (some false)
   else
    (some true)))
noncomputable def zDI (a1:(List Term)) (a2:(List Term)) (s12:Int):Option (Lp Int (Fl Bool Unit)):=
 if decide (s12< (a1.length:Int)) then
  ((idx a1 s12).bind fun x14=>
  (idx a2 s12).bind fun x16=>
  (zDR x14 x16).bind fun x18=>
  if !x18 then
   (some (Lp.done (Fl.ret false)))
  else
   (some (Lp.go (w64 (s12+1)))))
 else
  (some (Lp.done (Fl.nxt ())))
noncomputable def zCE (a1:(List Term)) (a2:(List Term)):Int→Option (Fl Bool Unit):=loop (zDI a1 a2)
noncomputable def zAM (a1:(List Term)) (a2:(List Term)):Option Bool:=
 if (a1.length:Int) !=(a2.length:Int) then
  (some false)
 else
  ((zCE a1 a2 0).bind (Fl.go some fun v21=>
  some true))
noncomputable def zDv (a1:(List (List Term))) (a2:(List (List Term))) (s12:Int):Option (Lp Int (Fl Bool Unit)):=
 if decide (s12< (a1.length:Int)) then
  ((idx a1 s12).bind fun x14=>
  (idx a2 s12).bind fun x16=>
  (zAM x14 x16).bind fun x18=>
  if !x18 then
   (some (Lp.done (Fl.ret false)))
  else
   (some (Lp.go (w64 (s12+1)))))
 else
  (some (Lp.done (Fl.nxt ())))
noncomputable def zCi (a1:(List (List Term))) (a2:(List (List Term))):Int→Option (Fl Bool Unit):=loop (zDv a1 a2)
noncomputable def zBV (a1:(List (List Term))) (a2:(List (List Term))):Option Bool:=
 if (a1.length:Int) !=(a2.length:Int) then
  (some false)
 else
  ((zCi a1 a2 0).bind (Fl.go some fun v21=>
  some true))
noncomputable def zDW (a1:Pack) (a2:Pack):Option Bool:=
 if !(seq a1.Name a2.Name) then
  (some false)
 else
  ((uV a1.Version a2.Version).bind fun x4=>
  if !x4 then
   (some false)
  else
   (if a1.Size !=a2.Size then
    (some false)
   else
    ((kE a1.Provides a2.Provides).bind fun x8=>
    if !x8 then
     (some false)
    else
     ((zBV a1.Needs a2.Needs).bind fun x11=>
     if !x11 then
      (some false)
     else
      ((zAM a1.Bars a2.Bars).bind fun x14=>
      if !x14 then
       (some false)
      else
       (some true))))))
noncomputable def zDJ (a1:(List Pack)) (a2:(List Pack)) (s12:Int):Option (Lp Int (Fl Bool Unit)):=
 if decide (s12< (a1.length:Int)) then
  ((idx a1 s12).bind fun x14=>
  (idx a2 s12).bind fun x16=>
  (zDW x14 x16).bind fun x18=>
  if !x18 then
   (some (Lp.done (Fl.ret false)))
  else
   (some (Lp.go (w64 (s12+1)))))
 else
  (some (Lp.done (Fl.nxt ())))
noncomputable def zCT (a1:(List Pack)) (a2:(List Pack)):Int→Option (Fl Bool Unit):=loop (zDJ a1 a2)
noncomputable def kR (a1:(List Pack)) (a2:(List Pack)):Option Bool:=
 if (a1.length:Int) !=(a2.length:Int) then
  (some false)
 else
  ((zCT a1 a2 0).bind (Fl.go some fun v21=>
  some true))
noncomputable def zDy (a1:(List Int)) (a2:(List Int)) (s10:Int):Option (Lp Int (Fl Bool Unit)):=
 if decide (s10< (a1.length:Int)) then
  ((idx a1 s10).bind fun x12=>
  (idx a2 s10).bind fun x14=>
  if x12 !=x14 then
   (some (Lp.done (Fl.ret false)))
  else
   (some (Lp.go (w64 (s10+1)))))
 else
  (some (Lp.done (Fl.nxt ())))
noncomputable def zCs (a1:(List Int)) (a2:(List Int)):Int→Option (Fl Bool Unit):=loop (zDy a1 a2)
noncomputable def wS (a1:(List Int)) (a2:(List Int)):Option Bool:=
 if (a1.length:Int) !=(a2.length:Int) then
  (some false)
 else
  ((zCs a1 a2 0).bind (Fl.go some fun v17=>
  some true))
noncomputable def vV (a1:(List Pack)) (a2:(List Int)) (a3:(List Int)):Option Bool:=
 if decide ((a2.length:Int)>1048576) then
  (some true)
 else
  (if decide ((a3.length:Int)>1048576) then
   (some true)
  else
   ((kP a1 1048576).bind fun x6=>
   if decide (x6<0) then
    (some true)
   else
    ((xO a1).bind fun x9=>
    (zH a2).bind fun x11=>
    (zH a3).bind fun x13=>
    (jD x9 x11 x13).bind fun x15=>
    (xO a1).bind fun x17=>
    (zH a2).bind fun x19=>
    (zH a3).bind fun x21=>
    (jC x17 x19 x21).bind fun x23=>
    (kU x23 x15).bind fun x25=>
    if !x25 then
     (some false)
    else
     ((xO a1).bind fun x28=>
     (kR x17 x28).bind fun x30=>
     if !x30 then
      (some false)
     else
      ((zH a2).bind fun x33=>
      (wS x19 x33).bind fun x35=>
      if !x35 then
       (some false)
      else
       ((zH a3).bind fun x38=>
       (wS x21 x38).bind fun x40=>
       if !x40 then
        (some false)
       else
        (some true)))))))
noncomputable def zFG (a1:(List ByteArray)) (a2:Int) (s12:((List ByteArray)×Int)):Option (Lp ((List ByteArray)×Int) (List ByteArray)):=
 if decide (s12.2< (a1.length:Int)) then
  ((zOt .i64 a2 (IntKind.u64.wrap (w64 ((w64 ((a1.length:Int)-1))-s12.2)))).bind fun x14=>
  (if (zNW .i64 x14 1)==1 then
    ((idx a1 s12.2).bind fun x17=>
    (app 16 s12.1 [x17]).bind fun x19=>
    some x19)
   else
    (some s12.1)).bind fun v21=>
  some (Lp.go (v21,w64 (s12.2+1))))
 else
  (some (Lp.done s12.1))
noncomputable def zEw (a1:(List ByteArray)) (a2:Int):((List ByteArray)×Int)→Option (List ByteArray):=loop (zFG a1 a2)
noncomputable def zEO (a1:(List ByteArray)) (a2:Int):Option (List ByteArray):=
 (zEw a1 a2 (([]:List ByteArray),0)).bind fun v22=>
 some v22
noncomputable def zGl (a1:(List Int)) (a2:Int) (s7:Int):Option (Lp Int (Fl Bool Unit)):=
 if decide (s7< (a1.length:Int)) then
  ((idx a1 s7).bind fun x9=>
  if x9==a2 then
   (some (Lp.done (Fl.ret true)))
  else
   (some (Lp.go (w64 (s7+1)))))
 else
  (some (Lp.done (Fl.nxt ())))
noncomputable def zEJ (a1:(List Int)) (a2:Int):Int→Option (Fl Bool Unit):=loop (zGl a1 a2)
noncomputable def zB6 (a1:(List Int)) (a2:Int):Option Bool:=
 (zEJ a1 a2 0).bind (Fl.go some fun v12=>
 some false)
noncomputable def zFL (a1:(List Pack)) (a2:(List Int)) (a3:(List Int)) (a4:(List ByteArray)) (s25:((List Int)×Int)):Option (Lp ((List Int)×Int) (List Int)):=
 if decide (s25.2< (a1.length:Int)) then
  ((idx a1 s25.2).bind fun x27=>
  (wP a4 x27.Name).bind fun x29=>
  (if !x29 then
    ((zB6 a2 s25.2).bind fun x32=>
    if x32 then
     (some true)
    else
     (if x29 then
      ((zB6 a3 s25.2).bind fun x36=>
      some x36)
     else
      (some false)))
   else
    (if x29 then
     ((zB6 a3 s25.2).bind fun x39=>
     some x39)
    else
     (some false))).bind fun v41=>
  (if v41 then
    ((app 8 s25.1 [s25.2]).bind fun x43=>
    some x43)
   else
    (some s25.1)).bind fun v45=>
  some (Lp.go (v45,w64 (s25.2+1))))
 else
  (some (Lp.done s25.1))
noncomputable def zEx (a1:(List Pack)) (a2:(List Int)) (a3:(List Int)) (a4:(List ByteArray)):((List Int)×Int)→Option (List Int):=loop (zFL a1 a2 a3 a4)
noncomputable def zDY (a1:(List Pack)) (a2:(List Int)) (a3:(List Int)) (a4:(List ByteArray)):Option (List Int):=
 (zEx a1 a2 a3 a4 (([]:List Int),0)).bind fun v46=>
 some v46
noncomputable def zFA (a1:(List Pack)) (a2:(List Int)) (a3:(List Int)) (a4:(List ByteArray)) (s31:Int) (s45:Int):Option (Lp Int (Fl (List ByteArray) Unit)):=
 if decide (s45>0) then
  ((zEO a4 s45).bind fun x47=>
  (if (x47.length:Int)==s31 then
    ((zDY a1 a2 a3 x47).bind fun x50=>
    (kT a1 x50).bind fun x52=>
    some x52)
   else
    (some false)).bind fun v54=>
  if v54 then
   (some (Lp.done (Fl.ret x47)))
  else
   (some (Lp.go (w64 (s45-1)))))
 else
  (some (Lp.done (Fl.nxt ())))
noncomputable def zE0 (a1:(List Pack)) (a2:(List Int)) (a3:(List Int)) (a4:(List ByteArray)) (s31:Int):Int→Option (Fl (List ByteArray) Unit):=loop (zFA a1 a2 a3 a4 s31)
noncomputable def zFM (a1:(List Pack)) (a2:(List Int)) (a3:(List Int)) (a4:(List ByteArray)) (s31:Int):Option (Lp Int (Fl (List ByteArray) Unit)):=
 if decide (s31< (a4.length:Int)) then
  ((zOq .i64 1 (IntKind.u64.wrap ((a4.length:Int)))).bind fun x33=>
  (zE0 a1 a2 a3 a4 s31 (w64 (x33-1))).bind (Fl.go (fun r=>some (Lp.done (Fl.ret r))) fun v56=>
  some (Lp.go (w64 (s31+1)))))
 else
  (some (Lp.done (Fl.nxt ())))
noncomputable def zEz (a1:(List Pack)) (a2:(List Int)) (a3:(List Int)) (a4:(List ByteArray)):Int→Option (Fl (List ByteArray) Unit):=loop (zFM a1 a2 a3 a4)
noncomputable def zER (a1:(List Pack)) (a2:(List Int)) (a3:(List Int)) (a4:(List ByteArray)):Option (List ByteArray):=
 if decide ((a4.length:Int)>6) then
  (some a4)
 else
  ((zEz a1 a2 a3 a4 1).bind (Fl.go some fun v57=>
  some a4))
noncomputable def zEZ (a1:(List Pack)) (a3:(List Int)) (x4:(List (List ByteArray))) (s156:((List (List ByteArray))×(List (List Int))×(List Int)×Int)) (s195:((List (List ByteArray))×(List (List Int))×(List Int)×(List ByteArray))) (x197:(List ByteArray)) (s210:((List ByteArray)×Int)):Option (Lp ((List ByteArray)×Int) (List ByteArray)):=
 if decide (s210.2< (s195.2.2.2.length:Int)) then
  ((idx s195.2.2.2 s210.2).bind fun x212=>
  (wP x197 x212).bind fun x214=>
  (if !x214 then
    ((idx s195.2.2.2 s210.2).bind fun x217=>
    (app 16 s210.1 [x217]).bind fun x219=>
    some x219)
   else
    (some s210.1)).bind fun v221=>
  some (Lp.go (v221,w64 (s210.2+1))))
 else
  (some (Lp.done s210.1))
noncomputable def zD0 (a1:(List Pack)) (a3:(List Int)) (x4:(List (List ByteArray))) (s156:((List (List ByteArray))×(List (List Int))×(List Int)×Int)) (s195:((List (List ByteArray))×(List (List Int))×(List Int)×(List ByteArray))) (x197:(List ByteArray)):((List ByteArray)×Int)→Option (List ByteArray):=loop (zEZ a1 a3 x4 s156 s195 x197)
noncomputable def zFf (a1:(List Pack)) (a3:(List Int)) (x4:(List (List ByteArray))) (s156:((List (List ByteArray))×(List (List Int))×(List Int)×Int)) (s195:((List (List ByteArray))×(List (List Int))×(List Int)×(List ByteArray))):Option (Lp ((List (List ByteArray))×(List (List Int))×(List Int)×(List ByteArray)) ((List (List ByteArray))×(List (List Int))×(List Int))):=
 if decide ((s195.2.2.2.length:Int)>0) then
  ((zER a1 s195.2.2.1 a3 s195.2.2.2).bind fun x197=>
  (zD0 a1 a3 x4 s156 s195 x197 (([]:List ByteArray),0)).bind fun v222=>
  (zDY a1 s195.2.2.1 a3 x197).bind fun x223=>
  (app 16 ([]:List ByteArray) x197).bind fun x225=>
  (app 24 s195.1 [x225]).bind fun x227=>
  (app 24 s195.2.1 [x223]).bind fun x229=>
  some (Lp.go (x227,x229,x223,v222)))
 else
  (some (Lp.done (s195.1,s195.2.1,s195.2.2.1)))
noncomputable def zDs (a1:(List Pack)) (a3:(List Int)) (x4:(List (List ByteArray))) (s156:((List (List ByteArray))×(List (List Int))×(List Int)×Int)):((List (List ByteArray))×(List (List Int))×(List Int)×(List ByteArray))→Option ((List (List ByteArray))×(List (List Int))×(List Int)):=loop (zFf a1 a3 x4 s156)
noncomputable def zFe (a1:(List Pack)) (a3:(List Int)) (x4:(List (List ByteArray))) (s156:((List (List ByteArray))×(List (List Int))×(List Int)×Int)):Option (Lp ((List (List ByteArray))×(List (List Int))×(List Int)×Int) ((List (List ByteArray))×(List (List Int)))):=
 if decide (s156.2.2.2< (x4.length:Int)) then
  ((idx x4 s156.2.2.2).bind fun x158=>
  (zDs a1 a3 x4 s156 (s156.1,s156.2.1,s156.2.2.1,x158)).bind fun v231=>
  some (Lp.go (v231.1,v231.2.1,v231.2.2,w64 (s156.2.2.2+1))))
 else
  (some (Lp.done (s156.1,s156.2.1)))
noncomputable def zDx (a1:(List Pack)) (a3:(List Int)) (x4:(List (List ByteArray))):((List (List ByteArray))×(List (List Int))×(List Int)×Int)→Option ((List (List ByteArray))×(List (List Int))):=loop (zFe a1 a3 x4)
noncomputable def zBh (a1:(List Pack)) (a2:(List Int)) (a3:(List Int)):Option ((List (List ByteArray))×(List (List Int))):=
 (zAZ a1 a2 a3).bind fun x4=>
 (zDx a1 a3 x4 (([]:List (List ByteArray)),([]:List (List Int)),a2,0)).bind fun v232=>
 some (v232.1,v232.2)
noncomputable def zDB (a1:(List Pack)) (a2:(List Int)) (a3:(List Int)):Option yD:=
 (kM a1 a2 a3).bind fun x4=>
 if x4 !=0 then
  (some ({Code:=x4,Parts:=([]:List (List ByteArray))}:yD))
 else
  ((zBh a1 a2 a3).bind fun x7=>
  some ({Code:=0,Parts:=x7.1}:yD))
noncomputable def zBi (a1:(List Pack)) (a2:(List Int)) (a3:(List Int)):Option yD:=
 (zDb a1 a2 a3).bind fun x4=>
 some ({Code:=x4.2.2,Parts:=x4.1}:yD)
noncomputable def zEL (a1:(List (List ByteArray))) (a2:(List (List ByteArray))) (s12:Int):Option (Lp Int (Fl Bool Unit)):=
 if decide (s12< (a1.length:Int)) then
  ((idx a1 s12).bind fun x14=>
  (idx a2 s12).bind fun x16=>
  (kE x14 x16).bind fun x18=>
  if !x18 then
   (some (Lp.done (Fl.ret false)))
  else
   (some (Lp.go (w64 (s12+1)))))
 else
  (some (Lp.done (Fl.nxt ())))
noncomputable def zC5 (a1:(List (List ByteArray))) (a2:(List (List ByteArray))):Int→Option (Fl Bool Unit):=loop (zEL a1 a2)
noncomputable def zCM (a1:(List (List ByteArray))) (a2:(List (List ByteArray))):Option Bool:=
 if (a1.length:Int) !=(a2.length:Int) then
  (some false)
 else
  ((zC5 a1 a2 0).bind (Fl.go some fun v21=>
  some true))
noncomputable def vX (a1:yD) (a2:yD):Option Bool:=
 if a1.Code !=a2.Code then
  (some false)
 else
  ((zCM a1.Parts a2.Parts).bind fun x4=>
  if !x4 then
   (some false)
  else
   (some true))
noncomputable def zFs (s6:(Int×ByteArray)):Option (Lp (Int×ByteArray) ByteArray):=
 if decide (s6.1>0) then
  ((cat (b2s [IntKind.u8.wrap (w64 (48+(s6.1.tmod 10)))]) s6.2).bind fun x8=>
  some (Lp.go (w64 (s6.1.tdiv 10),x8)))
 else
  (some (Lp.done s6.2))
noncomputable def zDH:(Int×ByteArray)→Option ByteArray:=loop zFs
noncomputable def jG (a1:Int):Option ByteArray:=
 if decide (a1≤0) then
  (some (bs [109,48]))
 else
  ((zDH (a1,bs [])).bind fun v10=>
  (cat (bs [109]) v10).bind fun x11=>
  some x11)
noncomputable def zE5 (s8:((List ByteArray)×Int×Int)):Option (Lp ((List ByteArray)×Int×Int) ((List ByteArray)×Int)):=
 if decide (s8.2.2< (s8.1.length:Int)) then
  ((jG s8.2.1).bind fun x10=>
  (idx s8.1 s8.2.2).bind fun x12=>
  some (Lp.go (s8.1.set s8.2.2.toNat x10,w64 (s8.2.1+1),w64 (s8.2.2+1))))
 else
  (some (Lp.done (s8.1,s8.2.1)))
noncomputable def zBu:((List ByteArray)×Int×Int)→Option ((List ByteArray)×Int):=loop zE5
noncomputable def jZ (a1:(List ByteArray)) (a2:Int):Option (Int×(List ByteArray)):=
 (zBu (a1,a2,0)).bind fun v14=>
 some (v14.2,v14.1)
noncomputable def zES (s20:((List Term)×Int×Int)):Option (Lp ((List Term)×Int×Int) ((List Term)×Int)):=
 if decide (s20.2.2< (s20.1.length:Int)) then
  ((jG s20.2.1).bind fun x22=>
  (idx s20.1 s20.2.2).bind fun x24=>
  (idx (s20.1.set s20.2.2.toNat ({Name:=x22,Low:=x24.Low,High:=x24.High}:Term)) s20.2.2).bind fun x26=>
  (idx ((s20.1.set s20.2.2.toNat ({Name:=x22,Low:=x24.Low,High:=x24.High}:Term)).set s20.2.2.toNat ({Name:=x26.Name,Low:=({A:=w64 (s20.2.1+1),B:=x26.Low.B,C:=x26.Low.C}:Version),High:=x26.High}:Term)) s20.2.2).bind fun x28=>
  (idx (((s20.1.set s20.2.2.toNat ({Name:=x22,Low:=x24.Low,High:=x24.High}:Term)).set s20.2.2.toNat ({Name:=x26.Name,Low:=({A:=w64 (s20.2.1+1),B:=x26.Low.B,C:=x26.Low.C}:Version),High:=x26.High}:Term)).set s20.2.2.toNat ({Name:=x28.Name,Low:=({A:=x28.Low.A,B:=w64 ((w64 (s20.2.1+1))+1),C:=x28.Low.C}:Version),High:=x28.High}:Term)) s20.2.2).bind fun x30=>
  (idx ((((s20.1.set s20.2.2.toNat ({Name:=x22,Low:=x24.Low,High:=x24.High}:Term)).set s20.2.2.toNat ({Name:=x26.Name,Low:=({A:=w64 (s20.2.1+1),B:=x26.Low.B,C:=x26.Low.C}:Version),High:=x26.High}:Term)).set s20.2.2.toNat ({Name:=x28.Name,Low:=({A:=x28.Low.A,B:=w64 ((w64 (s20.2.1+1))+1),C:=x28.Low.C}:Version),High:=x28.High}:Term)).set s20.2.2.toNat ({Name:=x30.Name,Low:=({A:=x30.Low.A,B:=x30.Low.B,C:=w64 ((w64 ((w64 (s20.2.1+1))+1))+1)}:Version),High:=x30.High}:Term)) s20.2.2).bind fun x32=>
  (idx (((((s20.1.set s20.2.2.toNat ({Name:=x22,Low:=x24.Low,High:=x24.High}:Term)).set s20.2.2.toNat ({Name:=x26.Name,Low:=({A:=w64 (s20.2.1+1),B:=x26.Low.B,C:=x26.Low.C}:Version),High:=x26.High}:Term)).set s20.2.2.toNat ({Name:=x28.Name,Low:=({A:=x28.Low.A,B:=w64 ((w64 (s20.2.1+1))+1),C:=x28.Low.C}:Version),High:=x28.High}:Term)).set s20.2.2.toNat ({Name:=x30.Name,Low:=({A:=x30.Low.A,B:=x30.Low.B,C:=w64 ((w64 ((w64 (s20.2.1+1))+1))+1)}:Version),High:=x30.High}:Term)).set s20.2.2.toNat ({Name:=x32.Name,Low:=x32.Low,High:=({A:=w64 ((w64 ((w64 ((w64 (s20.2.1+1))+1))+1))+1),B:=x32.High.B,C:=x32.High.C}:Version)}:Term)) s20.2.2).bind fun x34=>
  (idx ((((((s20.1.set s20.2.2.toNat ({Name:=x22,Low:=x24.Low,High:=x24.High}:Term)).set s20.2.2.toNat ({Name:=x26.Name,Low:=({A:=w64 (s20.2.1+1),B:=x26.Low.B,C:=x26.Low.C}:Version),High:=x26.High}:Term)).set s20.2.2.toNat ({Name:=x28.Name,Low:=({A:=x28.Low.A,B:=w64 ((w64 (s20.2.1+1))+1),C:=x28.Low.C}:Version),High:=x28.High}:Term)).set s20.2.2.toNat ({Name:=x30.Name,Low:=({A:=x30.Low.A,B:=x30.Low.B,C:=w64 ((w64 ((w64 (s20.2.1+1))+1))+1)}:Version),High:=x30.High}:Term)).set s20.2.2.toNat ({Name:=x32.Name,Low:=x32.Low,High:=({A:=w64 ((w64 ((w64 ((w64 (s20.2.1+1))+1))+1))+1),B:=x32.High.B,C:=x32.High.C}:Version)}:Term)).set s20.2.2.toNat ({Name:=x34.Name,Low:=x34.Low,High:=({A:=x34.High.A,B:=w64 ((w64 ((w64 ((w64 ((w64 (s20.2.1+1))+1))+1))+1))+1),C:=x34.High.C}:Version)}:Term)) s20.2.2).bind fun x36=>
  some (Lp.go (((((((s20.1.set s20.2.2.toNat ({Name:=x22,Low:=x24.Low,High:=x24.High}:Term)).set s20.2.2.toNat ({Name:=x26.Name,Low:=({A:=w64 (s20.2.1+1),B:=x26.Low.B,C:=x26.Low.C}:Version),High:=x26.High}:Term)).set s20.2.2.toNat ({Name:=x28.Name,Low:=({A:=x28.Low.A,B:=w64 ((w64 (s20.2.1+1))+1),C:=x28.Low.C}:Version),High:=x28.High}:Term)).set s20.2.2.toNat ({Name:=x30.Name,Low:=({A:=x30.Low.A,B:=x30.Low.B,C:=w64 ((w64 ((w64 (s20.2.1+1))+1))+1)}:Version),High:=x30.High}:Term)).set s20.2.2.toNat ({Name:=x32.Name,Low:=x32.Low,High:=({A:=w64 ((w64 ((w64 ((w64 (s20.2.1+1))+1))+1))+1),B:=x32.High.B,C:=x32.High.C}:Version)}:Term)).set s20.2.2.toNat ({Name:=x34.Name,Low:=x34.Low,High:=({A:=x34.High.A,B:=w64 ((w64 ((w64 ((w64 ((w64 (s20.2.1+1))+1))+1))+1))+1),C:=x34.High.C}:Version)}:Term)).set s20.2.2.toNat ({Name:=x36.Name,Low:=x36.Low,High:=({A:=x36.High.A,B:=x36.High.B,C:=w64 ((w64 ((w64 ((w64 ((w64 ((w64 (s20.2.1+1))+1))+1))+1))+1))+1)}:Version)}:Term),w64 ((w64 ((w64 ((w64 ((w64 ((w64 ((w64 (s20.2.1+1))+1))+1))+1))+1))+1))+1),w64 (s20.2.2+1))))
 else
  (some (Lp.done (s20.1,s20.2.1)))
noncomputable def zC4:((List Term)×Int×Int)→Option ((List Term)×Int):=loop zES
noncomputable def zA5 (a1:(List Term)) (a2:Int):Option (Int×(List Term)):=
 (zC4 (a1,a2,0)).bind fun v38=>
 some (v38.2,v38.1)
noncomputable def zEH (s10:((List (List Term))×Int×Int)):Option (Lp ((List (List Term))×Int×Int) ((List (List Term))×Int)):=
 if decide (s10.2.2< (s10.1.length:Int)) then
  ((idx s10.1 s10.2.2).bind fun x12=>
  (zA5 x12 s10.2.1).bind fun x14=>
  (same x14.2 x12).bind fun u16=>
  some (Lp.go (s10.1.set s10.2.2.toNat x14.2,x14.1,w64 (s10.2.2+1))))
 else
  (some (Lp.done (s10.1,s10.2.1)))
noncomputable def zBP:((List (List Term))×Int×Int)→Option ((List (List Term))×Int):=loop zEH
noncomputable def zCv (a1:(List (List Term))) (a2:Int):Option (Int×(List (List Term))):=
 (zBP (a1,a2,0)).bind fun v18=>
 some (v18.2,v18.1)
noncomputable def zEM (s34:((List Pack)×Int×Int)):Option (Lp ((List Pack)×Int×Int) ((List Pack)×Int)):=
 if decide (s34.2.2< (s34.1.length:Int)) then
  ((jG s34.2.1).bind fun x36=>
  (idx s34.1 s34.2.2).bind fun x38=>
  (idx (s34.1.set s34.2.2.toNat ({Name:=x36,Version:=x38.Version,Size:=x38.Size,Provides:=x38.Provides,Needs:=x38.Needs,Bars:=x38.Bars}:Pack)) s34.2.2).bind fun x40=>
  (idx ((s34.1.set s34.2.2.toNat ({Name:=x36,Version:=x38.Version,Size:=x38.Size,Provides:=x38.Provides,Needs:=x38.Needs,Bars:=x38.Bars}:Pack)).set s34.2.2.toNat ({Name:=x40.Name,Version:=({A:=w64 (s34.2.1+1),B:=x40.Version.B,C:=x40.Version.C}:Version),Size:=x40.Size,Provides:=x40.Provides,Needs:=x40.Needs,Bars:=x40.Bars}:Pack)) s34.2.2).bind fun x42=>
  (idx (((s34.1.set s34.2.2.toNat ({Name:=x36,Version:=x38.Version,Size:=x38.Size,Provides:=x38.Provides,Needs:=x38.Needs,Bars:=x38.Bars}:Pack)).set s34.2.2.toNat ({Name:=x40.Name,Version:=({A:=w64 (s34.2.1+1),B:=x40.Version.B,C:=x40.Version.C}:Version),Size:=x40.Size,Provides:=x40.Provides,Needs:=x40.Needs,Bars:=x40.Bars}:Pack)).set s34.2.2.toNat ({Name:=x42.Name,Version:=({A:=x42.Version.A,B:=w64 ((w64 (s34.2.1+1))+1),C:=x42.Version.C}:Version),Size:=x42.Size,Provides:=x42.Provides,Needs:=x42.Needs,Bars:=x42.Bars}:Pack)) s34.2.2).bind fun x44=>
  (idx ((((s34.1.set s34.2.2.toNat ({Name:=x36,Version:=x38.Version,Size:=x38.Size,Provides:=x38.Provides,Needs:=x38.Needs,Bars:=x38.Bars}:Pack)).set s34.2.2.toNat ({Name:=x40.Name,Version:=({A:=w64 (s34.2.1+1),B:=x40.Version.B,C:=x40.Version.C}:Version),Size:=x40.Size,Provides:=x40.Provides,Needs:=x40.Needs,Bars:=x40.Bars}:Pack)).set s34.2.2.toNat ({Name:=x42.Name,Version:=({A:=x42.Version.A,B:=w64 ((w64 (s34.2.1+1))+1),C:=x42.Version.C}:Version),Size:=x42.Size,Provides:=x42.Provides,Needs:=x42.Needs,Bars:=x42.Bars}:Pack)).set s34.2.2.toNat ({Name:=x44.Name,Version:=({A:=x44.Version.A,B:=x44.Version.B,C:=w64 ((w64 ((w64 (s34.2.1+1))+1))+1)}:Version),Size:=x44.Size,Provides:=x44.Provides,Needs:=x44.Needs,Bars:=x44.Bars}:Pack)) s34.2.2).bind fun x46=>
  (idx (((((s34.1.set s34.2.2.toNat ({Name:=x36,Version:=x38.Version,Size:=x38.Size,Provides:=x38.Provides,Needs:=x38.Needs,Bars:=x38.Bars}:Pack)).set s34.2.2.toNat ({Name:=x40.Name,Version:=({A:=w64 (s34.2.1+1),B:=x40.Version.B,C:=x40.Version.C}:Version),Size:=x40.Size,Provides:=x40.Provides,Needs:=x40.Needs,Bars:=x40.Bars}:Pack)).set s34.2.2.toNat ({Name:=x42.Name,Version:=({A:=x42.Version.A,B:=w64 ((w64 (s34.2.1+1))+1),C:=x42.Version.C}:Version),Size:=x42.Size,Provides:=x42.Provides,Needs:=x42.Needs,Bars:=x42.Bars}:Pack)).set s34.2.2.toNat ({Name:=x44.Name,Version:=({A:=x44.Version.A,B:=x44.Version.B,C:=w64 ((w64 ((w64 (s34.2.1+1))+1))+1)}:Version),Size:=x44.Size,Provides:=x44.Provides,Needs:=x44.Needs,Bars:=x44.Bars}:Pack)).set s34.2.2.toNat ({Name:=x46.Name,Version:=x46.Version,Size:=w64 ((w64 ((w64 ((w64 (s34.2.1+1))+1))+1))+1),Provides:=x46.Provides,Needs:=x46.Needs,Bars:=x46.Bars}:Pack)) s34.2.2).bind fun x48=>
  (jZ x48.Provides (w64 ((w64 ((w64 ((w64 ((w64 (s34.2.1+1))+1))+1))+1))+1))).bind fun x50=>
  (same x50.2 x48.Provides).bind fun u52=>
  (idx ((((((s34.1.set s34.2.2.toNat ({Name:=x36,Version:=x38.Version,Size:=x38.Size,Provides:=x38.Provides,Needs:=x38.Needs,Bars:=x38.Bars}:Pack)).set s34.2.2.toNat ({Name:=x40.Name,Version:=({A:=w64 (s34.2.1+1),B:=x40.Version.B,C:=x40.Version.C}:Version),Size:=x40.Size,Provides:=x40.Provides,Needs:=x40.Needs,Bars:=x40.Bars}:Pack)).set s34.2.2.toNat ({Name:=x42.Name,Version:=({A:=x42.Version.A,B:=w64 ((w64 (s34.2.1+1))+1),C:=x42.Version.C}:Version),Size:=x42.Size,Provides:=x42.Provides,Needs:=x42.Needs,Bars:=x42.Bars}:Pack)).set s34.2.2.toNat ({Name:=x44.Name,Version:=({A:=x44.Version.A,B:=x44.Version.B,C:=w64 ((w64 ((w64 (s34.2.1+1))+1))+1)}:Version),Size:=x44.Size,Provides:=x44.Provides,Needs:=x44.Needs,Bars:=x44.Bars}:Pack)).set s34.2.2.toNat ({Name:=x46.Name,Version:=x46.Version,Size:=w64 ((w64 ((w64 ((w64 (s34.2.1+1))+1))+1))+1),Provides:=x46.Provides,Needs:=x46.Needs,Bars:=x46.Bars}:Pack)).set s34.2.2.toNat ({Name:=x48.Name,Version:=x48.Version,Size:=x48.Size,Provides:=x50.2,Needs:=x48.Needs,Bars:=x48.Bars}:Pack)) s34.2.2).bind fun x54=>
  (zCv x54.Needs x50.1).bind fun x56=>
  (same x56.2 x54.Needs).bind fun u58=>
  (idx (((((((s34.1.set s34.2.2.toNat ({Name:=x36,Version:=x38.Version,Size:=x38.Size,Provides:=x38.Provides,Needs:=x38.Needs,Bars:=x38.Bars}:Pack)).set s34.2.2.toNat ({Name:=x40.Name,Version:=({A:=w64 (s34.2.1+1),B:=x40.Version.B,C:=x40.Version.C}:Version),Size:=x40.Size,Provides:=x40.Provides,Needs:=x40.Needs,Bars:=x40.Bars}:Pack)).set s34.2.2.toNat ({Name:=x42.Name,Version:=({A:=x42.Version.A,B:=w64 ((w64 (s34.2.1+1))+1),C:=x42.Version.C}:Version),Size:=x42.Size,Provides:=x42.Provides,Needs:=x42.Needs,Bars:=x42.Bars}:Pack)).set s34.2.2.toNat ({Name:=x44.Name,Version:=({A:=x44.Version.A,B:=x44.Version.B,C:=w64 ((w64 ((w64 (s34.2.1+1))+1))+1)}:Version),Size:=x44.Size,Provides:=x44.Provides,Needs:=x44.Needs,Bars:=x44.Bars}:Pack)).set s34.2.2.toNat ({Name:=x46.Name,Version:=x46.Version,Size:=w64 ((w64 ((w64 ((w64 (s34.2.1+1))+1))+1))+1),Provides:=x46.Provides,Needs:=x46.Needs,Bars:=x46.Bars}:Pack)).set s34.2.2.toNat ({Name:=x48.Name,Version:=x48.Version,Size:=x48.Size,Provides:=x50.2,Needs:=x48.Needs,Bars:=x48.Bars}:Pack)).set s34.2.2.toNat ({Name:=x54.Name,Version:=x54.Version,Size:=x54.Size,Provides:=x54.Provides,Needs:=x56.2,Bars:=x54.Bars}:Pack)) s34.2.2).bind fun x60=>
  (zA5 x60.Bars x56.1).bind fun x62=>
  (same x62.2 x60.Bars).bind fun u64=>
  some (Lp.go ((((((((s34.1.set s34.2.2.toNat ({Name:=x36,Version:=x38.Version,Size:=x38.Size,Provides:=x38.Provides,Needs:=x38.Needs,Bars:=x38.Bars}:Pack)).set s34.2.2.toNat ({Name:=x40.Name,Version:=({A:=w64 (s34.2.1+1),B:=x40.Version.B,C:=x40.Version.C}:Version),Size:=x40.Size,Provides:=x40.Provides,Needs:=x40.Needs,Bars:=x40.Bars}:Pack)).set s34.2.2.toNat ({Name:=x42.Name,Version:=({A:=x42.Version.A,B:=w64 ((w64 (s34.2.1+1))+1),C:=x42.Version.C}:Version),Size:=x42.Size,Provides:=x42.Provides,Needs:=x42.Needs,Bars:=x42.Bars}:Pack)).set s34.2.2.toNat ({Name:=x44.Name,Version:=({A:=x44.Version.A,B:=x44.Version.B,C:=w64 ((w64 ((w64 (s34.2.1+1))+1))+1)}:Version),Size:=x44.Size,Provides:=x44.Provides,Needs:=x44.Needs,Bars:=x44.Bars}:Pack)).set s34.2.2.toNat ({Name:=x46.Name,Version:=x46.Version,Size:=w64 ((w64 ((w64 ((w64 (s34.2.1+1))+1))+1))+1),Provides:=x46.Provides,Needs:=x46.Needs,Bars:=x46.Bars}:Pack)).set s34.2.2.toNat ({Name:=x48.Name,Version:=x48.Version,Size:=x48.Size,Provides:=x50.2,Needs:=x48.Needs,Bars:=x48.Bars}:Pack)).set s34.2.2.toNat ({Name:=x54.Name,Version:=x54.Version,Size:=x54.Size,Provides:=x54.Provides,Needs:=x56.2,Bars:=x54.Bars}:Pack)).set s34.2.2.toNat ({Name:=x60.Name,Version:=x60.Version,Size:=x60.Size,Provides:=x60.Provides,Needs:=x60.Needs,Bars:=x62.2}:Pack),x62.1,w64 (s34.2.2+1))))
 else
  (some (Lp.done (s34.1,s34.2.1)))
noncomputable def zCB:((List Pack)×Int×Int)→Option ((List Pack)×Int):=loop zEM
noncomputable def zA6 (a1:(List Pack)) (a2:Int):Option (Int×(List Pack)):=
 (zCB (a1,a2,0)).bind fun v66=>
 some (v66.2,v66.1)
noncomputable def zEI (s6:((List Int)×Int×Int)):Option (Lp ((List Int)×Int×Int) ((List Int)×Int)):=
 if decide (s6.2.2< (s6.1.length:Int)) then
  ((idx s6.1 s6.2.2).bind fun x8=>
  some (Lp.go (s6.1.set s6.2.2.toNat s6.2.1,w64 (s6.2.1+1),w64 (s6.2.2+1))))
 else
  (some (Lp.done (s6.1,s6.2.1)))
noncomputable def zBT:((List Int)×Int×Int)→Option ((List Int)×Int):=loop zEI
noncomputable def vD (a1:(List Int)) (a2:Int):Option (Int×(List Int)):=
 (zBT (a1,a2,0)).bind fun v10=>
 some (v10.2,v10.1)
noncomputable def zEm (s10:((List (List ByteArray))×Int×Int)):Option (Lp ((List (List ByteArray))×Int×Int) ((List (List ByteArray))×Int)):=
 if decide (s10.2.2< (s10.1.length:Int)) then
  ((idx s10.1 s10.2.2).bind fun x12=>
  (jZ x12 s10.2.1).bind fun x14=>
  (same x14.2 x12).bind fun u16=>
  some (Lp.go (s10.1.set s10.2.2.toNat x14.2,x14.1,w64 (s10.2.2+1))))
 else
  (some (Lp.done (s10.1,s10.2.1)))
noncomputable def zAS:((List (List ByteArray))×Int×Int)→Option ((List (List ByteArray))×Int):=loop zEm
noncomputable def zBf (a1:(List (List ByteArray))) (a2:Int):Option (Int×(List (List ByteArray))):=
 (zAS (a1,a2,0)).bind fun v18=>
 some (v18.2,v18.1)
noncomputable def kI (a1:yD) (a2:Int):Option (Int×(List (List ByteArray))):=
 (zBf a1.Parts a2).bind fun x3=>
 (same x3.2 a1.Parts).bind fun u5=>
 some (x3.1,x3.2)
noncomputable def zEG (a1:(List ByteArray)) (s9:(Int×Int)):Option (Lp (Int×Int) (Fl Int Int)):=
 if decide (s9.2< (a1.length:Int)) then
  ((idx a1 s9.2).bind fun x11=>
  (jG s9.1).bind fun x13=>
  if !(seq x11 x13) then
   (some (Lp.done (Fl.ret (-1))))
  else
   (some (Lp.go (w64 (s9.1+1),w64 (s9.2+1)))))
 else
  (some (Lp.done (Fl.nxt s9.1)))
noncomputable def zBK (a1:(List ByteArray)):(Int×Int)→Option (Fl Int Int):=loop (zEG a1)
noncomputable def zBX (a1:(List ByteArray)) (a2:Int):Option Int:=
 (zBK a1 (a2,0)).bind (Fl.go some fun v16=>
 some v16)
noncomputable def zE7 (a1:(List (List ByteArray))) (s9:(Int×Int)):Option (Lp (Int×Int) (Fl Int Int)):=
 if decide (s9.2< (a1.length:Int)) then
  ((idx a1 s9.2).bind fun x11=>
  (zBX x11 s9.1).bind fun x13=>
  if decide (x13<0) then
   (some (Lp.done (Fl.ret (-1))))
  else
   (some (Lp.go (x13,w64 (s9.2+1)))))
 else
  (some (Lp.done (Fl.nxt s9.1)))
noncomputable def zBs (a1:(List (List ByteArray))):(Int×Int)→Option (Fl Int Int):=loop (zE7 a1)
noncomputable def zBw (a1:(List (List ByteArray))) (a2:Int):Option Int:=
 (zBs a1 (a2,0)).bind (Fl.go some fun v16=>
 some v16)
noncomputable def uN (a1:yD) (a2:Int):Option Int:=
 (zBw a1.Parts a2).bind fun x3=>
 if decide (x3<0) then
  (some (-1))
 else
  (some x3)
noncomputable def zCW (a1:(List Pack)) (a2:(List Int)) (a3:(List Int)):Option Bool:=
 if decide ((a2.length:Int)>1048576) then
  (some true)
 else
  (if decide ((a3.length:Int)>1048576) then
   (some true)
  else
   ((kP a1 1048576).bind fun x6=>
   if decide (x6<0) then
    (some true)
   else
    ((xO a1).bind fun x9=>
    (zH a2).bind fun x11=>
    (zH a3).bind fun x13=>
    (zDB x9 x11 x13).bind fun x15=>
    (xO a1).bind fun x17=>
    (zH a2).bind fun x19=>
    (zH a3).bind fun x21=>
    (zBi x17 x19 x21).bind fun x23=>
    (vX x23 x15).bind fun x25=>
    if !x25 then
     (some false)
    else
     ((xO a1).bind fun x28=>
     (kR x17 x28).bind fun x30=>
     if !x30 then
      (some false)
     else
      ((zH a2).bind fun x33=>
      (wS x19 x33).bind fun x35=>
      if !x35 then
       (some false)
      else
       ((zH a3).bind fun x38=>
       (wS x21 x38).bind fun x40=>
       if !x40 then
        (some false)
       else
        ((zA6 x17 1).bind fun x43=>
        (vD x19 x43.1).bind fun x45=>
        (vD x21 x45.1).bind fun x47=>
        (if decide (x47.1<0) then
          (some true)
         else
          ((vX x23 x15).bind fun x50=>
          some (!x50))).bind fun v52=>
        if v52 then
         (some false)
        else
         ((kI x23 1).bind fun x54=>
         (same x54.2 x23.Parts).bind fun u56=>
         (uN ({Code:=x23.Code,Parts:=x54.2}:yD) 1).bind fun x58=>
         if decide (x58<0) then
          (some false)
         else
          (if x58 !=x54.1 then
           (some false)
          else
           ((xO a1).bind fun x62=>
           (zH a2).bind fun x64=>
           (zH a3).bind fun x66=>
           (zBi x62 x64 x66).bind fun x68=>
           (vX x68 x15).bind fun x70=>
           if !x70 then
            (some false)
           else
            ((uN ({Code:=x23.Code,Parts:=x54.2}:yD) 1).bind fun x73=>
            if decide (x73<0) then
             (some false)
            else
             (if x73 !=x54.1 then
              (some false)
             else
              (some true)))))))))))))
noncomputable def zEP (a1:(List Pack)) (a2:(List Int)) (a3:(List Int)):Option xE:=
 (kM a1 a2 a3).bind fun x4=>
 if x4 !=0 then
  (some ({Code:=x4,Sets:=([]:List (List Int))}:xE))
 else
  ((zBh a1 a2 a3).bind fun x7=>
  some ({Code:=0,Sets:=x7.2}:xE))
noncomputable def zDP (a1:(List Pack)) (a2:(List Int)) (a3:(List Int)):Option xE:=
 (zDb a1 a2 a3).bind fun x4=>
 some ({Code:=x4.2.2,Sets:=x4.2.1}:xE)
noncomputable def zFb (a1:(List (List Int))) (a2:(List (List Int))) (s12:Int):Option (Lp Int (Fl Bool Unit)):=
 if decide (s12< (a1.length:Int)) then
  ((idx a1 s12).bind fun x14=>
  (idx a2 s12).bind fun x16=>
  (wS x14 x16).bind fun x18=>
  if !x18 then
   (some (Lp.done (Fl.ret false)))
  else
   (some (Lp.go (w64 (s12+1)))))
 else
  (some (Lp.done (Fl.nxt ())))
noncomputable def zDm (a1:(List (List Int))) (a2:(List (List Int))):Int→Option (Fl Bool Unit):=loop (zFb a1 a2)
noncomputable def zDF (a1:(List (List Int))) (a2:(List (List Int))):Option Bool:=
 if (a1.length:Int) !=(a2.length:Int) then
  (some false)
 else
  ((zDm a1 a2 0).bind (Fl.go some fun v21=>
  some true))
noncomputable def uF (a1:xE) (a2:xE):Option Bool:=
 if a1.Code !=a2.Code then
  (some false)
 else
  ((zDF a1.Sets a2.Sets).bind fun x4=>
  if !x4 then
   (some false)
  else
   (some true))
noncomputable def zE4 (s10:((List (List Int))×Int×Int)):Option (Lp ((List (List Int))×Int×Int) ((List (List Int))×Int)):=
 if decide (s10.2.2< (s10.1.length:Int)) then
  ((idx s10.1 s10.2.2).bind fun x12=>
  (vD x12 s10.2.1).bind fun x14=>
  (same x14.2 x12).bind fun u16=>
  some (Lp.go (s10.1.set s10.2.2.toNat x14.2,x14.1,w64 (s10.2.2+1))))
 else
  (some (Lp.done (s10.1,s10.2.1)))
noncomputable def zBt:((List (List Int))×Int×Int)→Option ((List (List Int))×Int):=loop zE4
noncomputable def zB3 (a1:(List (List Int))) (a2:Int):Option (Int×(List (List Int))):=
 (zBt (a1,a2,0)).bind fun v18=>
 some (v18.2,v18.1)
noncomputable def kX (a1:xE) (a2:Int):Option (Int×(List (List Int))):=
 (zB3 a1.Sets a2).bind fun x3=>
 (same x3.2 a1.Sets).bind fun u5=>
 some (x3.1,x3.2)
noncomputable def zEQ (a1:(List Int)) (s7:(Int×Int)):Option (Lp (Int×Int) (Fl Int Int)):=
 if decide (s7.2< (a1.length:Int)) then
  ((idx a1 s7.2).bind fun x9=>
  if x9 !=s7.1 then
   (some (Lp.done (Fl.ret (-1))))
  else
   (some (Lp.go (w64 (s7.1+1),w64 (s7.2+1)))))
 else
  (some (Lp.done (Fl.nxt s7.1)))
noncomputable def zC6 (a1:(List Int)):(Int×Int)→Option (Fl Int Int):=loop (zEQ a1)
noncomputable def zCH (a1:(List Int)) (a2:Int):Option Int:=
 (zC6 a1 (a2,0)).bind (Fl.go some fun v12=>
 some v12)
noncomputable def zEE (a1:(List (List Int))) (s9:(Int×Int)):Option (Lp (Int×Int) (Fl Int Int)):=
 if decide (s9.2< (a1.length:Int)) then
  ((idx a1 s9.2).bind fun x11=>
  (zCH x11 s9.1).bind fun x13=>
  if decide (x13<0) then
   (some (Lp.done (Fl.ret (-1))))
  else
   (some (Lp.go (x13,w64 (s9.2+1)))))
 else
  (some (Lp.done (Fl.nxt s9.1)))
noncomputable def zBM (a1:(List (List Int))):(Int×Int)→Option (Fl Int Int):=loop (zEE a1)
noncomputable def zBY (a1:(List (List Int))) (a2:Int):Option Int:=
 (zBM a1 (a2,0)).bind (Fl.go some fun v16=>
 some v16)
noncomputable def tC (a1:xE) (a2:Int):Option Int:=
 (zBY a1.Sets a2).bind fun x3=>
 if decide (x3<0) then
  (some (-1))
 else
  (some x3)
noncomputable def zEk (a1:(List Pack)) (a2:(List Int)) (a3:(List Int)):Option Bool:=
 if decide ((a2.length:Int)>1048576) then
  (some true)
 else
  (if decide ((a3.length:Int)>1048576) then
   (some true)
  else
   ((kP a1 1048576).bind fun x6=>
   if decide (x6<0) then
    (some true)
   else
    ((xO a1).bind fun x9=>
    (zH a2).bind fun x11=>
    (zH a3).bind fun x13=>
    (zEP x9 x11 x13).bind fun x15=>
    (xO a1).bind fun x17=>
    (zH a2).bind fun x19=>
    (zH a3).bind fun x21=>
    (zDP x17 x19 x21).bind fun x23=>
    (uF x23 x15).bind fun x25=>
    if !x25 then
     (some false)
    else
     ((xO a1).bind fun x28=>
     (kR x17 x28).bind fun x30=>
     if !x30 then
      (some false)
     else
      ((zH a2).bind fun x33=>
      (wS x19 x33).bind fun x35=>
      if !x35 then
       (some false)
      else
       ((zH a3).bind fun x38=>
       (wS x21 x38).bind fun x40=>
       if !x40 then
        (some false)
       else
        ((zA6 x17 1).bind fun x43=>
        (vD x19 x43.1).bind fun x45=>
        (vD x21 x45.1).bind fun x47=>
        (if decide (x47.1<0) then
          (some true)
         else
          ((uF x23 x15).bind fun x50=>
          some (!x50))).bind fun v52=>
        if v52 then
         (some false)
        else
         ((kX x23 1).bind fun x54=>
         (same x54.2 x23.Sets).bind fun u56=>
         (tC ({Code:=x23.Code,Sets:=x54.2}:xE) 1).bind fun x58=>
         if decide (x58<0) then
          (some false)
         else
          (if x58 !=x54.1 then
           (some false)
          else
           ((xO a1).bind fun x62=>
           (zH a2).bind fun x64=>
           (zH a3).bind fun x66=>
           (zDP x62 x64 x66).bind fun x68=>
           (uF x68 x15).bind fun x70=>
           if !x70 then
            (some false)
           else
            ((tC ({Code:=x23.Code,Sets:=x54.2}:xE) 1).bind fun x73=>
            if decide (x73<0) then
             (some false)
            else
             (if x73 !=x54.1 then
              (some false)
             else
              (some true)))))))))))))
end Go.Told

import Derived.Test.YtdeihchdibglaaaGreatImG
set_option linter.unusedVariables false
set_option maxRecDepth 4000
namespace Go.Told
open Go Go.Im
structure Version where
 A:Int
 B:Int
 C:Int
 deriving DecidableEq
def Version.enc (x:Version):List D:=[.sc (.int .i64 x.A),.sc (.int .i64 x.B),.sc (.int .i64 x.C)]
theorem Version.fl (x:Version):zEy (Version.enc x):=(flatK yV (flatK yV (flatK yV zDq)))
structure Term where
 Name:ByteArray
 Low:Version
 High:Version
 deriving DecidableEq
def Term.enc (x:Term):List D:=[.sc (.string x.Name),.sc (.int .i64 x.Low.A),.sc (.int .i64 x.Low.B),.sc (.int .i64 x.Low.C),.sc (.int .i64 x.High.A),.sc (.int .i64 x.High.B),.sc (.int .i64 x.High.C)]
theorem Term.fl (x:Term):zEy (Term.enc x):=(flatK yV (flatK yV (flatK yV (flatK yV (flatK yV (flatK yV (flatK yV zDq)))))))
structure Pack where
 Name:ByteArray
 Version:Version
 Size:Int
 Provides:(List ByteArray)
 Needs:(List (List Term))
 Bars:(List Term)
 deriving DecidableEq
def Pack.enc (o:Bool) (x:Pack):List D:=[.sc (.string x.Name),.sc (.int .i64 x.Version.A),.sc (.int .i64 x.Version.B),.sc (.int .i64 x.Version.C),.sc (.int .i64 x.Size),.s o 1 x.Provides.length (x.Provides.map eStr),.s o 1 x.Needs.length (x.Needs.map (eSl o 7 Term.enc)),.s o 7 x.Bars.length (x.Bars.map Term.enc)]
theorem Pack.ro (o:Bool) (x:Pack):D.ro.roC (Pack.enc o x)=Pack.enc false x:=by
 simp only [Pack.enc,D.ro.roC,D.ro,kE (enc:=eStr) (enc':=eStr) (fun _=>rfl),kE (enc:=(eSl o 7 Term.enc)) (enc':=(eSl false 7 Term.enc)) (zDE (fun _=>rfl)),kE (enc:=Term.enc) (enc':=Term.enc) (fun _=>rfl)]
theorem Pack.fl (x:Pack):zEy (Pack.enc true x):=(flatK yV (flatK yV (flatK yV (flatK yV (flatK yV (flatK (zC7 (zEp (fun _=>(flatK yV zDq)) _)) (flatK (zC7 (zEp (fun _=>(flatK (zC7 (zEp (fun _=>(Term.fl _)) _)) zDq)) _)) (flatK (zC7 (zEp (fun _=>(Term.fl _)) _)) zDq))))))))
structure yB where
 Code:Int
 Parts:(List (List ByteArray))
 deriving DecidableEq
def yB.enc (o:Bool) (x:yB):List D:=[.sc (.int .i64 x.Code),.s o 1 x.Parts.length (x.Parts.map (eSl o 1 eStr))]
theorem yB.ro (o:Bool) (x:yB):D.ro.roC (yB.enc o x)=yB.enc false x:=by
 simp only [yB.enc,D.ro.roC,D.ro,kE (enc:=(eSl o 1 eStr)) (enc':=(eSl false 1 eStr)) (zDE (fun _=>rfl))]
theorem yB.fl (x:yB):zEy (yB.enc true x):=(flatK yV (flatK (zC7 (zEp (fun _=>(flatK (zC7 (zEp (fun _=>(flatK yV zDq)) _)) zDq)) _)) zDq))
structure zAc where
 Code:Int
 At:Int
 Set:(List Int)
 deriving DecidableEq
def zAc.enc (o:Bool) (x:zAc):List D:=[.sc (.int .i64 x.Code),.sc (.int .i64 x.At),.s o 1 x.Set.length (x.Set.map zC)]
theorem zAc.ro (o:Bool) (x:zAc):D.ro.roC (zAc.enc o x)=zAc.enc false x:=by
 simp only [zAc.enc,D.ro.roC,D.ro,kE (enc:=zC) (enc':=zC) (fun _=>rfl)]
theorem zAc.fl (x:zAc):zEy (zAc.enc true x):=(flatK yV (flatK yV (flatK (zC7 (zEp (fun _=>(flatK yV zDq)) _)) zDq)))
structure wP where
 Code:Int
 Sets:(List (List Int))
 deriving DecidableEq
def wP.enc (o:Bool) (x:wP):List D:=[.sc (.int .i64 x.Code),.s o 1 x.Sets.length (x.Sets.map (eSl o 1 zC))]
theorem wP.ro (o:Bool) (x:wP):D.ro.roC (wP.enc o x)=wP.enc false x:=by
 simp only [wP.enc,D.ro.roC,D.ro,kE (enc:=(eSl o 1 zC)) (enc':=(eSl false 1 zC)) (zDE (fun _=>rfl))]
theorem wP.fl (x:wP):zEy (wP.enc true x):=(flatK yV (flatK (zC7 (zEp (fun _=>(flatK (zC7 (zEp (fun _=>(flatK yV zDq)) _)) zDq)) _)) zDq))
structure zCf where
 Code:Int
 Value:Int
 deriving DecidableEq
def zCf.enc (x:zCf):List D:=[.sc (.int .i64 x.Code),.sc (.int .i64 x.Value)]
theorem zCf.fl (x:zCf):zEy (zCf.enc x):=(flatK yV (flatK yV zDq))
structure SolveResult where
 Code:Int
 Choices:Int
 Set:(List Int)
 deriving DecidableEq
def SolveResult.enc (o:Bool) (x:SolveResult):List D:=[.sc (.int .i64 x.Code),.sc (.int .i64 x.Choices),.s o 1 x.Set.length (x.Set.map zC)]
theorem SolveResult.ro (o:Bool) (x:SolveResult):D.ro.roC (SolveResult.enc o x)=SolveResult.enc false x:=by
 simp only [SolveResult.enc,D.ro.roC,D.ro,kE (enc:=zC) (enc':=zC) (fun _=>rfl)]
theorem SolveResult.fl (x:SolveResult):zEy (SolveResult.enc true x):=(flatK yV (flatK yV (flatK (zC7 (zEp (fun _=>(flatK yV zDq)) _)) zDq)))
structure zD where
 Code:(List Int)
 At:Int
 deriving DecidableEq
def zD.enc (o:Bool) (x:zD):List D:=[.s o 1 x.Code.length (x.Code.map eU8),.sc (.int .i64 x.At)]
theorem zD.ro (o:Bool) (x:zD):D.ro.roC (zD.enc o x)=zD.enc false x:=by
 simp only [zD.enc,D.ro.roC,D.ro,kE (enc:=eU8) (enc':=eU8) (fun _=>rfl)]
theorem zD.fl (x:zD):zEy (zD.enc true x):=(flatK (zC7 (zEp (fun _=>(flatK yV zDq)) _)) (flatK yV zDq))
structure zO where
 Kind:Int
 Pack:Int
 At:Int
 deriving DecidableEq
def zO.enc (x:zO):List D:=[.sc (.int .i64 x.Kind),.sc (.int .i64 x.Pack),.sc (.int .i64 x.At)]
theorem zO.fl (x:zO):zEy (zO.enc x):=(flatK yV (flatK yV (flatK yV zDq)))
structure xH where
 Pack:Int
 Denied:(List Int)
 deriving DecidableEq
def xH.enc (o:Bool) (x:xH):List D:=[.sc (.int .i64 x.Pack),.s o 1 x.Denied.length (x.Denied.map zC)]
theorem xH.ro (o:Bool) (x:xH):D.ro.roC (xH.enc o x)=xH.enc false x:=by
 simp only [xH.enc,D.ro.roC,D.ro,kE (enc:=zC) (enc':=zC) (fun _=>rfl)]
theorem xH.fl (x:xH):zEy (xH.enc true x):=(flatK yV (flatK (zC7 (zEp (fun _=>(flatK yV zDq)) _)) zDq))
noncomputable def zDH (a1:(List Int)):Option Bool:=
 some (decide ((a1.length:Int)>1048576))
noncomputable def zDe (a1:(List Int)):Option zD:=
 some ({Code:=a1,At:=0}:zD)
noncomputable def zP (a1:zD) (a2:Int):Option (Int×zD):=
 if decide (a2<1) then
  (some (0,({Code:=a1.Code,At:=w64 (a1.At+1)}:zD)))
 else
  (if (a1.Code.length:Int)==0 then
   ((zMS (w64 ((w64 ((w64 (a1.At+1))-1))*7)) a2).bind fun x5=>
   some (x5,({Code:=a1.Code,At:=w64 (a1.At+1)}:zD)))
  else
   ((zMS (w64 ((w64 (a1.At+1))-1)) (a1.Code.length:Int)).bind fun x7=>
   (idx a1.Code x7).bind fun x9=>
   (zOG .i64 (w64 ((w64 (a1.At+1))-1)) (a1.Code.length:Int)).bind fun x11=>
   (if decide (a2>200) then
     ((zMS (w64 ((w64 ((w64 (a1.At+1))-1))+1)) (a1.Code.length:Int)).bind fun x14=>
     (idx a1.Code x14).bind fun x16=>
     some (w64 ((w64 ((w64 ((w64 ((w64 (x9))+(w64 (x11*37))))*251))+(w64 ((w64 (x16))*13))))+(w64 ((w64 (a1.At+1))-1)))))
    else
     (some (w64 ((w64 (x9))+(w64 (x11*37)))))).bind fun v18=>
   (zMS v18 a2).bind fun x19=>
   some (x19,({Code:=a1.Code,At:=w64 (a1.At+1)}:zD))))
noncomputable def wR (a1:zD) (a2:(List Int)):Option (Int×zD):=
 (zP a1 (a2.length:Int)).bind fun x3=>
 (idx a2 x3.1).bind fun x5=>
 some (x5,x3.2)
noncomputable def vO (a1:zD):Option (ByteArray×zD):=
 (zP a1 6).bind fun x2=>
 (idx [bs [97],bs [98],bs [99],bs [100],bs [108,105,98],bs [119,101,98]] x2.1).bind fun x4=>
 some (x4,x2.2)
noncomputable def yE (a1:zD) (a2:Int):Option (Bool×zD):=
 (zP a1 a2).bind fun x3=>
 some (x3.1==0,x3.2)
noncomputable def zAH:Option Version:=
 some ({A:=1000,B:=0,C:=0}:Version)
noncomputable def tZ (a1:ByteArray):Option Term:=
 (zAH).bind fun x2=>
 some ({Name:=a1,Low:=({A:=0,B:=0,C:=0}:Version),High:=x2}:Term)
noncomputable def jA (a1:zD):Option (Version×zD):=
 (zP a1 4).bind fun x2=>
 (zP x2.2 3).bind fun x4=>
 (wR x4.2 [0,0,x4.1]).bind fun x6=>
 (zP x6.2 3).bind fun x8=>
 (wR x8.2 [0,0,0,x8.1]).bind fun x10=>
 some (({A:=x2.1,B:=x6.1,C:=x10.1}:Version),x10.2)
noncomputable def uU (a1:zD):Option (Term×zD):=
 (vO a1).bind fun x2=>
 (tZ x2.1).bind fun x4=>
 (yE x2.2 2).bind fun x6=>
 (if x6.1 then
   ((jA x6.2).bind fun x9=>
   some (x9.2.Code,x9.2.At,x9.1.A,x9.1.B,x9.1.C))
  else
   (some (x6.2.Code,x6.2.At,x4.Low.A,x4.Low.B,x4.Low.C))).bind fun v11=>
 (yE ({Code:=v11.1,At:=v11.2.1}:zD) 3).bind fun x12=>
 (if x12.1 then
   ((zP x12.2 2).bind fun x15=>
   some (x15.2.Code,x15.2.At,w64 ((w64 (v11.2.2.1+1))+x15.1),0,0))
  else
   (some (x12.2.Code,x12.2.At,x4.High.A,x4.High.B,x4.High.C))).bind fun v17=>
 some (({Name:=x4.Name,Low:=({A:=v11.2.2.1,B:=v11.2.2.2.1,C:=v11.2.2.2.2}:Version),High:=({A:=v17.2.2.1,B:=v17.2.2.2.1,C:=v17.2.2.2.2}:Version)}:Term),({Code:=v17.1,At:=v17.2.1}:zD))
noncomputable def zC9 (x2:(ByteArray×zD)) (x4:(Int×zD)) (x6:(Int×zD)) (v15:((List Int)×Int×(List ByteArray))) (s60:((List Int)×Int×(List (List Term))×Int)):Option (Lp ((List Int)×Int×(List (List Term))×Int) ((List Int)×Int×(List (List Term)))):=
 if decide (s60.2.2.2>0) then
  ((uU ({Code:=s60.1,At:=s60.2.1}:zD)).bind fun x62=>
  (yE x62.2 3).bind fun x64=>
  (if x64.1 then
    ((uU x64.2).bind fun x67=>
    (app 64 [x62.1] [x67.1]).bind fun x69=>
    some (x67.2.Code,x67.2.At,x69))
   else
    (some (x64.2.Code,x64.2.At,[x62.1]))).bind fun v71=>
  (yE ({Code:=v71.1,At:=v71.2.1}:zD) 8).bind fun x72=>
  (if x72.1 then
    ((tZ (bs [109,97,105,108])).bind fun x75=>
    (idx v71.2.2 0).bind fun x77=>
    some (v71.2.2.set ((0:Int).toNat) x75))
   else
    (some v71.2.2)).bind fun v79=>
  (app 24 s60.2.2.1 [v79]).bind fun x80=>
  some (Lp.go (x72.2.Code,x72.2.At,x80,w64 (s60.2.2.2-1))))
 else
  (some (Lp.done (s60.1,s60.2.1,s60.2.2.1)))
noncomputable def zDu (x2:(ByteArray×zD)) (x4:(Int×zD)) (x6:(Int×zD)) (v15:((List Int)×Int×(List ByteArray))):((List Int)×Int×(List (List Term))×Int)→Option ((List Int)×Int×(List (List Term))):=loop (zC9 x2 x4 x6 v15)
noncomputable def zBq (a1:zD):Option (Pack×zD):=
 (vO a1).bind fun x2=>
 (zP x2.2 3).bind fun x4=>
 (zP x4.2 9).bind fun x6=>
 (yE x6.2 5).bind fun x8=>
 (if x8.1 then
   ((zP x8.2 2).bind fun x11=>
   (idx [bs [109,97,105,108],bs [100,98]] x11.1).bind fun x13=>
   some (x11.2.Code,x11.2.At,[x13]))
  else
   (some (x8.2.Code,x8.2.At,([]:List ByteArray)))).bind fun v15=>
 (wR ({Code:=v15.1,At:=v15.2.1}:zD) [0,0,1,1,2]).bind fun x16=>
 (zDu x2 x4 x6 v15 (x16.2.Code,x16.2.At,([]:List (List Term)),x16.1)).bind fun v82=>
 (yE ({Code:=v82.1,At:=v82.2.1}:zD) 6).bind fun x83=>
 (if x83.1 then
   ((uU x83.2).bind fun x86=>
   (app 64 ([]:List Term) [x86.1]).bind fun x88=>
   some (x86.2.Code,x86.2.At,x88))
  else
   (some (x83.2.Code,x83.2.At,([]:List Term)))).bind fun v90=>
 some (({Name:=x2.1,Version:=({A:=w64 (1+x4.1),B:=0,C:=0}:Version),Size:=w64 (1+x6.1),Provides:=v15.2.2,Needs:=v82.2.2,Bars:=v90.2.2}:Pack),({Code:=v90.1,At:=v90.2.1}:zD))
noncomputable def zA4 (a1:Int) (a2:Int):Option Int:=
 if decide (a1<a2) then
  (some (-1))
 else
  (if decide (a1>a2) then
   (some 1)
  else
   (some 0))
noncomputable def yM (a1:Version) (a2:Version):Option Int:=
 (zA4 a1.A a2.A).bind fun x3=>
 if x3 !=0 then
  (some x3)
 else
  ((zA4 a1.B a2.B).bind fun x6=>
  if x6 !=0 then
   (some x6)
  else
   ((zA4 a1.C a2.C).bind fun x9=>
   some x9))
noncomputable def zCX (a1:(List Pack)) (a2:ByteArray) (a3:Version) (s14:Int):Option (Lp Int (Fl Int Unit)):=
 if decide (s14< (a1.length:Int)) then
  ((idx a1 s14).bind fun x16=>
  (if seq x16.Name a2 then
    ((idx a1 s14).bind fun x19=>
    (yM x19.Version a3).bind fun x21=>
    some (x21==0))
   else
    (some false)).bind fun v23=>
  if v23 then
   (some (Lp.done (Fl.ret s14)))
  else
   (some (Lp.go (w64 (s14+1)))))
 else
  (some (Lp.done (Fl.nxt ())))
noncomputable def zDw (a1:(List Pack)) (a2:ByteArray) (a3:Version):Int→Option (Fl Int Unit):=loop (zCX a1 a2 a3)
noncomputable def zBj (a1:(List Pack)) (a2:ByteArray) (a3:Version):Option Int:=
 (zDw a1 a2 a3 0).bind (Fl.go some fun v25=>
 some (-1))
noncomputable def vN (a1:zD):Option (ByteArray×zD):=
 (yE a1 14).bind fun x2=>
 if x2.1 then
  ((zP x2.2 9).bind fun x5=>
  (idx [bs [],bs [49,97],bs [65],bs [97,98,99,100,101,102,103,104,105,106,107,108,109],bs [97,98,99,100,101,102,103,104,105,106,107,108],bs [97,32,98],bs [97,45],bs [95,97],bs [97,95,49]] x5.1).bind fun x7=>
  some (x7,x5.2))
 else
  ((vO x2.2).bind fun x9=>
  some (x9.1,x9.2))
noncomputable def vG (a1:zD):Option (Version×zD):=
 (jA a1).bind fun x2=>
 (zP x2.2 14).bind fun x4=>
 (if x4.1==0 then
   ((wR x4.2 [(-1),999,1000]).bind fun x7=>
   some (x7.2.Code,x7.2.At,x7.1,x2.1.B,x2.1.C))
  else
   (if x4.1==1 then
    ((wR x4.2 [(-1),999,1000]).bind fun x10=>
    some (x10.2.Code,x10.2.At,x2.1.A,x10.1,x2.1.C))
   else
    (if x4.1==2 then
     ((wR x4.2 [(-1),999,1000,4611686018427387904]).bind fun x13=>
     some (x13.2.Code,x13.2.At,x2.1.A,x2.1.B,x13.1))
    else
     (some (x4.2.Code,x4.2.At,x2.1.A,x2.1.B,x2.1.C))))).bind fun v15=>
 some (({A:=v15.2.2.1,B:=v15.2.2.2.1,C:=v15.2.2.2.2}:Version),({Code:=v15.1,At:=v15.2.1}:zD))
noncomputable def uI (a1:zD):Option (Term×zD):=
 (uU a1).bind fun x2=>
 (zP x2.2 14).bind fun x4=>
 (if x4.1==0 then
   ((vN x4.2).bind fun x7=>
   some (x7.2.Code,x7.2.At,x7.1,x2.1.Low.A,x2.1.Low.B,x2.1.Low.C,x2.1.High.A,x2.1.High.B,x2.1.High.C))
  else
   (if x4.1==1 then
    ((vG x4.2).bind fun x10=>
    some (x10.2.Code,x10.2.At,x2.1.Name,x10.1.A,x10.1.B,x10.1.C,x2.1.High.A,x2.1.High.B,x2.1.High.C))
   else
    (if x4.1==2 then
     ((vG x4.2).bind fun x13=>
     some (x13.2.Code,x13.2.At,x2.1.Name,x2.1.Low.A,x2.1.Low.B,x2.1.Low.C,x13.1.A,x13.1.B,x13.1.C))
    else
     (if x4.1==3 then
      (some (x4.2.Code,x4.2.At,x2.1.Name,x2.1.Low.A,x2.1.Low.B,x2.1.Low.C,x2.1.Low.A,x2.1.Low.B,x2.1.Low.C))
     else
      (some (x4.2.Code,x4.2.At,x2.1.Name,x2.1.Low.A,x2.1.Low.B,x2.1.Low.C,x2.1.High.A,x2.1.High.B,x2.1.High.C)))))).bind fun v16=>
 some (({Name:=v16.2.2.1,Low:=({A:=v16.2.2.2.1,B:=v16.2.2.2.2.1,C:=v16.2.2.2.2.2.1}:Version),High:=({A:=v16.2.2.2.2.2.2.1,B:=v16.2.2.2.2.2.2.2.1,C:=v16.2.2.2.2.2.2.2.2}:Version)}:Term),({Code:=v16.1,At:=v16.2.1}:zD))
noncomputable def zA5 (a1:zD):Option (Pack×zD):=
 (zBq a1).bind fun x2=>
 (zP x2.2 24).bind fun x4=>
 (if x4.1==0 then
   ((vN x4.2).bind fun x7=>
   some (x7.2.Code,x7.2.At,x7.1,x2.1.Version.A,x2.1.Version.B,x2.1.Version.C,x2.1.Size,x2.1.Provides,x2.1.Needs,x2.1.Bars))
  else
   (if x4.1==1 then
    ((vG x4.2).bind fun x10=>
    some (x10.2.Code,x10.2.At,x2.1.Name,x10.1.A,x10.1.B,x10.1.C,x2.1.Size,x2.1.Provides,x2.1.Needs,x2.1.Bars))
   else
    (if x4.1==2 then
     ((wR x4.2 [0,200,201]).bind fun x13=>
     some (x13.2.Code,x13.2.At,x2.1.Name,x2.1.Version.A,x2.1.Version.B,x2.1.Version.C,x13.1,x2.1.Provides,x2.1.Needs,x2.1.Bars))
    else
     (if x4.1==3 then
      ((vN x4.2).bind fun x16=>
      (app 16 x2.1.Provides [x16.1,x2.1.Name]).bind fun x18=>
      some (x16.2.Code,x16.2.At,x2.1.Name,x2.1.Version.A,x2.1.Version.B,x2.1.Version.C,x2.1.Size,x18,x2.1.Needs,x2.1.Bars))
     else
      (if x4.1==4 then
       ((app 24 x2.1.Needs [([]:List Term)]).bind fun x21=>
       some (x4.2.Code,x4.2.At,x2.1.Name,x2.1.Version.A,x2.1.Version.B,x2.1.Version.C,x2.1.Size,x2.1.Provides,x21,x2.1.Bars))
      else
       (if x4.1==5 then
        ((uI x4.2).bind fun x24=>
        (uI x24.2).bind fun x26=>
        (app 24 x2.1.Needs [[x24.1,x26.1]]).bind fun x28=>
        some (x26.2.Code,x26.2.At,x2.1.Name,x2.1.Version.A,x2.1.Version.B,x2.1.Version.C,x2.1.Size,x2.1.Provides,x28,x2.1.Bars))
       else
        (if x4.1==6 then
         ((uI x4.2).bind fun x31=>
         (app 64 x2.1.Bars [x31.1]).bind fun x33=>
         some (x31.2.Code,x31.2.At,x2.1.Name,x2.1.Version.A,x2.1.Version.B,x2.1.Version.C,x2.1.Size,x2.1.Provides,x2.1.Needs,x33))
        else
         (if x4.1==7 then
          ((mk 64 5 ({Name:=ByteArray.empty,Low:=({A:=0,B:=0,C:=0}:Version),High:=({A:=0,B:=0,C:=0}:Version)}:Term)).bind fun x36=>
          some (x4.2.Code,x4.2.At,x2.1.Name,x2.1.Version.A,x2.1.Version.B,x2.1.Version.C,x2.1.Size,x2.1.Provides,x2.1.Needs,x36))
         else
          (if x4.1==8 then
           ((mk 64 5 ({Name:=ByteArray.empty,Low:=({A:=0,B:=0,C:=0}:Version),High:=({A:=0,B:=0,C:=0}:Version)}:Term)).bind fun x39=>
           (app 24 x2.1.Needs [x39]).bind fun x41=>
           some (x4.2.Code,x4.2.At,x2.1.Name,x2.1.Version.A,x2.1.Version.B,x2.1.Version.C,x2.1.Size,x2.1.Provides,x41,x2.1.Bars))
          else
           (some (x4.2.Code,x4.2.At,x2.1.Name,x2.1.Version.A,x2.1.Version.B,x2.1.Version.C,x2.1.Size,x2.1.Provides,x2.1.Needs,x2.1.Bars))))))))))).bind fun v43=>
 some (({Name:=v43.2.2.1,Version:=({A:=v43.2.2.2.1,B:=v43.2.2.2.2.1,C:=v43.2.2.2.2.2.1}:Version),Size:=v43.2.2.2.2.2.2.1,Provides:=v43.2.2.2.2.2.2.2.1,Needs:=v43.2.2.2.2.2.2.2.2.1,Bars:=v43.2.2.2.2.2.2.2.2.2}:Pack),({Code:=v43.1,At:=v43.2.1}:zD))
noncomputable def zAN (s15:((List Int)×Int×(List Pack)×Int)):Option (Lp ((List Int)×Int×(List Pack)×Int) ((List Int)×Int×(List Pack))):=
 if decide (s15.2.2.2>0) then
  ((zBq ({Code:=s15.1,At:=s15.2.1}:zD)).bind fun x17=>
  (zBj s15.2.2.1 x17.1.Name x17.1.Version).bind fun x19=>
  (if decide (x19<0) then
    ((app 120 s15.2.2.1 [x17.1]).bind fun x22=>
    some x22)
   else
    (some s15.2.2.1)).bind fun v24=>
  some (Lp.go (x17.2.Code,x17.2.At,v24,w64 (s15.2.2.2-1))))
 else
  (some (Lp.done (s15.1,s15.2.1,s15.2.2.1)))
noncomputable def zBC:((List Int)×Int×(List Pack)×Int)→Option ((List Int)×Int×(List Pack)):=loop zAN
noncomputable def zBi (a1:zD):Option ((List Pack)×zD):=
 (zP a1 12).bind fun x2=>
 (wR x2.2 [3,4,5,6,7,8,x2.1]).bind fun x4=>
 (zBC (x4.2.Code,x4.2.At,([]:List Pack),x4.1)).bind fun v25=>
 (zP ({Code:=v25.1,At:=v25.2.1}:zD) 40).bind fun x26=>
 (if x26.1==0 then
   ((zA5 x26.2).bind fun x29=>
   (app 120 v25.2.2 [x29.1]).bind fun x31=>
   some (x29.2.Code,x29.2.At,x31))
  else
   (if x26.1==1 then
    (if decide ((v25.2.2.length:Int)>0) then
     ((idx v25.2.2 0).bind fun x35=>
     (app 120 v25.2.2 [x35]).bind fun x37=>
     some (x26.2.Code,x26.2.At,x37))
    else
     (some (x26.2.Code,x26.2.At,v25.2.2)))
   else
    (if x26.1==2 then
     ((mk 120 25 ({Name:=ByteArray.empty,Version:=({A:=0,B:=0,C:=0}:Version),Size:=0,Provides:=([]:List ByteArray),Needs:=([]:List (List Term)),Bars:=([]:List Term)}:Pack)).bind fun x40=>
     some (x26.2.Code,x26.2.At,x40))
    else
     (some (x26.2.Code,x26.2.At,v25.2.2))))).bind fun v42=>
 some (v42.2.2,({Code:=v42.1,At:=v42.2.1}:zD))
noncomputable def jI (a1:Int):Option Bool:=
 if decide (a1≥97) then
  (some (decide (a1≤122)))
 else
  (some false)
noncomputable def zBK (a1:Int):Option Bool:=
 if decide (a1≥48) then
  (some (decide (a1≤57)))
 else
  (some false)
noncomputable def zDD (a1:Int):Option Bool:=
 (jI a1).bind fun x2=>
 if x2 then
  (some true)
 else
  ((zBK a1).bind fun x5=>
  if x5 then
   (some true)
  else
   (some (a1==95)))
noncomputable def zC4 (a1:ByteArray) (s16:Int):Option (Lp Int (Fl Int Unit)):=
 if decide (s16< (a1.size:Int)) then
  ((bidx a1 s16).bind fun x18=>
  (zDD x18).bind fun x20=>
  if !x20 then
   (some (Lp.done (Fl.ret 5)))
  else
   (some (Lp.go (w64 (s16+1)))))
 else
  (some (Lp.done (Fl.nxt ())))
noncomputable def zAr (a1:ByteArray):Int→Option (Fl Int Unit):=loop (zC4 a1)
noncomputable def tL (a1:ByteArray):Option Int:=
 (if decide ((a1.size:Int)<1) then
   (some true)
  else
   (if decide ((a1.size:Int)>12) then
    (some true)
   else
    ((bidx a1 0).bind fun x4=>
    (jI x4).bind fun x6=>
    some (!x6)))).bind fun v8=>
 if v8 then
  (some 5)
 else
  ((zAr a1 0).bind (Fl.go some fun v23=>
  some 0))
noncomputable def tY (a1:Int) (a2:Int) (a3:Int):Option Bool:=
 if decide (a1≥a2) then
  (some (decide (a1≤a3)))
 else
  (some false)
noncomputable def vQ (a1:Version):Option Int:=
 (tY a1.A 0 999).bind fun x2=>
 (if !x2 then
   (some true)
  else
   ((tY a1.B 0 999).bind fun x5=>
   if !x5 then
    (some true)
   else
    ((tY a1.C 0 999).bind fun x8=>
    some (!x8)))).bind fun v10=>
 if v10 then
  (some 3)
 else
  (some 0)
noncomputable def zCp (a1:(List ByteArray)) (a2:ByteArray) (s7:Int):Option (Lp Int (Fl Bool Unit)):=
 if decide (s7< (a1.length:Int)) then
  ((idx a1 s7).bind fun x9=>
  if seq x9 a2 then
   (some (Lp.done (Fl.ret true)))
  else
   (some (Lp.go (w64 (s7+1)))))
 else
  (some (Lp.done (Fl.nxt ())))
noncomputable def zDb (a1:(List ByteArray)) (a2:ByteArray):Int→Option (Fl Bool Unit):=loop (zCp a1 a2)
noncomputable def uY (a1:(List ByteArray)) (a2:ByteArray):Option Bool:=
 (zDb a1 a2 0).bind (Fl.go some fun v12=>
 some false)
noncomputable def zBk (a1:Term):Option Int:=
 (tL a1.Name).bind fun x2=>
 if x2 !=0 then
  (some x2)
 else
  ((vQ a1.Low).bind fun x5=>
  if x5 !=0 then
   (some x5)
  else
   ((zAH).bind fun x8=>
   (if !(a1.High.A==x8.A&&(a1.High.B==x8.B&&(a1.High.C==x8.C&&true))) then
     ((vQ a1.High).bind fun x11=>
     some (x11 !=0))
    else
     (some false)).bind fun v13=>
   if v13 then
    (some 3)
   else
    ((yM a1.Low a1.High).bind fun x15=>
    if decide (x15≥0) then
     (some 1)
    else
     (some 0))))
noncomputable def zCr (a1:(List Term)) (s8:Int):Option (Lp Int (Fl Int Unit)):=
 if decide (s8< (a1.length:Int)) then
  ((idx a1 s8).bind fun x10=>
  (zBk x10).bind fun x12=>
  if x12 !=0 then
   (some (Lp.done (Fl.ret x12)))
  else
   (some (Lp.go (w64 (s8+1)))))
 else
  (some (Lp.done (Fl.nxt ())))
noncomputable def zCA (a1:(List Term)):Int→Option (Fl Int Unit):=loop (zCr a1)
noncomputable def zAk (a1:(List Term)):Option Int:=
 (zCA a1 0).bind (Fl.go some fun v15=>
 some 0)
noncomputable def zAM (a1:Pack) (s70:Int):Option (Lp Int (Fl Int Unit)):=
 if decide (s70< (a1.Needs.length:Int)) then
  ((idx a1.Needs s70).bind fun x72=>
  if (x72.length:Int)==0 then
   (some (Lp.done (Fl.ret 1)))
  else
   ((idx a1.Needs s70).bind fun x75=>
   (zAk x75).bind fun x77=>
   if x77 !=0 then
    (some (Lp.done (Fl.ret x77)))
   else
    (some (Lp.go (w64 (s70+1))))))
 else
  (some (Lp.done (Fl.nxt ())))
noncomputable def zAu (a1:Pack):Int→Option (Fl Int Unit):=loop (zAM a1)
noncomputable def zAS (a1:Pack) (s42:Int):Option (Lp Int (Fl Int Unit)):=
 if decide (s42< (a1.Provides.length:Int)) then
  ((idx a1.Provides s42).bind fun x44=>
  (tL x44).bind fun x46=>
  if x46 !=0 then
   (some (Lp.done (Fl.ret x46)))
  else
   ((idx a1.Provides s42).bind fun x49=>
   (if seq x49 a1.Name then
     (some true)
    else
     ((zEE a1.Provides 0 s42).bind fun x52=>
     (idx a1.Provides s42).bind fun x54=>
     (uY x52 x54).bind fun x56=>
     some x56)).bind fun v58=>
   if v58 then
    (some (Lp.done (Fl.ret 6)))
   else
    (some (Lp.go (w64 (s42+1))))))
 else
  (some (Lp.done (Fl.nxt ())))
noncomputable def zAv (a1:Pack):Int→Option (Fl Int Unit):=loop (zAS a1)
noncomputable def zAO (a1:Pack) (s19:Int):Option (Lp Int (Fl Int Unit)):=
 if decide (s19< (a1.Needs.length:Int)) then
  ((idx a1.Needs s19).bind fun x21=>
  if decide ((x21.length:Int)>4) then
   (some (Lp.done (Fl.ret 2)))
  else
   (some (Lp.go (w64 (s19+1)))))
 else
  (some (Lp.done (Fl.nxt ())))
noncomputable def zBF (a1:Pack):Int→Option (Fl Int Unit):=loop (zAO a1)
noncomputable def zBs (a1:Pack):Option Int:=
 (tL a1.Name).bind fun x2=>
 if x2 !=0 then
  (some x2)
 else
  ((vQ a1.Version).bind fun x5=>
  if x5 !=0 then
   (some x5)
  else
   ((tY a1.Size 1 200).bind fun x8=>
   if !x8 then
    (some 3)
   else
    ((if decide ((a1.Provides.length:Int)>4) then
       (some true)
      else
       (if decide ((a1.Needs.length:Int)>4) then
        (some true)
       else
        (some (decide ((a1.Bars.length:Int)>4))))).bind fun v13=>
    if v13 then
     (some 2)
    else
     ((zBF a1 0).bind (Fl.go some fun v24=>
     (zAv a1 0).bind (Fl.go some fun v60=>
     (zAu a1 0).bind (Fl.go some fun v80=>
     (zAk a1.Bars).bind fun x81=>
     some x81)))))))
noncomputable def kN (a1:(List Pack)) (s18:Int):Option (Lp Int (Fl Int Unit)):=
 if decide (s18< (a1.length:Int)) then
  ((idx a1 s18).bind fun x20=>
  (zBs x20).bind fun x22=>
  if x22 !=0 then
   (some (Lp.done (Fl.ret x22)))
  else
   ((zEE a1 0 s18).bind fun x25=>
   (idx a1 s18).bind fun x27=>
   (idx a1 s18).bind fun x29=>
   (zBj x25 x27.Name x29.Version).bind fun x31=>
   if decide (x31≥0) then
    (some (Lp.done (Fl.ret 6)))
   else
    (some (Lp.go (w64 (s18+1))))))
 else
  (some (Lp.done (Fl.nxt ())))
noncomputable def zAd (a1:(List Pack)):Int→Option (Fl Int Unit):=loop (kN a1)
noncomputable def vF (a1:(List Pack)):Option Int:=
 if decide ((a1.length:Int)>24) then
  (some 2)
 else
  ((zAd a1 0).bind (Fl.go some fun v34=>
  some 0))
noncomputable def kR (a2:(List Pack)) (s16:((List Int)×Int×(List Term)×Int)):Option (Lp ((List Int)×Int×(List Term)×Int) ((List Int)×Int×(List Term))):=
 (if decide (s16.2.2.2>0) then
   (some (decide ((a2.length:Int)>0)))
  else
   (some false)).bind fun v18=>
 if v18 then
  ((zP ({Code:=s16.1,At:=s16.2.1}:zD) (a2.length:Int)).bind fun x20=>
  (idx a2 x20.1).bind fun x22=>
  (tZ x22.Name).bind fun x24=>
  (app 64 s16.2.2.1 [x24]).bind fun x26=>
  some (Lp.go (x20.2.Code,x20.2.At,x26,w64 (s16.2.2.2-1))))
 else
  (some (Lp.done (s16.1,s16.2.1,s16.2.2.1)))
noncomputable def zDr (a2:(List Pack)):((List Int)×Int×(List Term)×Int)→Option ((List Int)×Int×(List Term)):=loop (kR a2)
noncomputable def zA6 (a1:zD) (a2:(List Pack)):Option ((List Term)×zD):=
 (zP a1 3).bind fun x3=>
 (zDr a2 (x3.2.Code,x3.2.At,([]:List Term),w64 (1+x3.1))).bind fun v28=>
 some (v28.2.2,({Code:=v28.1,At:=v28.2.1}:zD))
noncomputable def zBB (a1:(List xH)) (s7:((List Int)×Int)):Option (Lp ((List Int)×Int) (List Int)):=
 if decide (s7.2< (a1.length:Int)) then
  ((idx a1 s7.2).bind fun x9=>
  (app 8 s7.1 [x9.Pack]).bind fun x11=>
  some (Lp.go (x11,w64 (s7.2+1))))
 else
  (some (Lp.done s7.1))
noncomputable def zCx (a1:(List xH)):((List Int)×Int)→Option (List Int):=loop (zBB a1)
noncomputable def zBM (a1:(List xH)):Option (List Int):=
 (zCx a1 (([]:List Int),0)).bind fun v13=>
 some v13
noncomputable def zAj (a1:Term) (a2:ByteArray) (a3:Version):Option Bool:=
 if seq a1.Name a2 then
  ((yM a3 a1.Low).bind fun x5=>
  if decide (x5≥0) then
   ((yM a3 a1.High).bind fun x8=>
   some (decide (x8<0)))
  else
   (some false))
 else
  (some false)
noncomputable def kV (a1:Pack) (a2:Term):Option Bool:=
 if seq a2.Name a1.Name then
  ((zAj a2 a2.Name a1.Version).bind fun x4=>
  some x4)
 else
  ((uY a1.Provides a2.Name).bind fun x6=>
  if x6 then
   ((zAj a2 a2.Name a1.Version).bind fun x9=>
   some x9)
  else
   (some false))
noncomputable def zCj (a1:(List Pack)) (a2:(List Int)) (a3:Term) (a4:Int) (s17:Int):Option (Lp Int (Fl Bool Unit)):=
 if decide (s17< (a2.length:Int)) then
  ((idx a2 s17).bind fun x19=>
  (if x19 !=a4 then
    ((idx a2 s17).bind fun x22=>
    (idx a1 x22).bind fun x24=>
    (kV x24 a3).bind fun x26=>
    some x26)
   else
    (some false)).bind fun v28=>
  if v28 then
   (some (Lp.done (Fl.ret true)))
  else
   (some (Lp.go (w64 (s17+1)))))
 else
  (some (Lp.done (Fl.nxt ())))
noncomputable def zCY (a1:(List Pack)) (a2:(List Int)) (a3:Term) (a4:Int):Int→Option (Fl Bool Unit):=loop (zCj a1 a2 a3 a4)
noncomputable def zAW (a1:(List Pack)) (a2:(List Int)) (a3:Term) (a4:Int):Option Bool:=
 (zCY a1 a2 a3 a4 0).bind (Fl.go some fun v30=>
 some false)
noncomputable def zDt (a1:(List Pack)) (a2:(List Int)) (a3:(List Term)) (s10:Int):Option (Lp Int (Fl Bool Unit)):=
 if decide (s10< (a3.length:Int)) then
  ((idx a3 s10).bind fun x12=>
  (zAW a1 a2 x12 (-1)).bind fun x14=>
  if x14 then
   (some (Lp.done (Fl.ret true)))
  else
   (some (Lp.go (w64 (s10+1)))))
 else
  (some (Lp.done (Fl.nxt ())))
noncomputable def zDK (a1:(List Pack)) (a2:(List Int)) (a3:(List Term)):Int→Option (Fl Bool Unit):=loop (zDt a1 a2 a3)
noncomputable def zB7 (a1:(List Pack)) (a2:(List Int)) (a3:(List Term)):Option Bool:=
 (zDK a1 a2 a3 0).bind (Fl.go some fun v17=>
 some false)
noncomputable def zB6 (a1:(List Pack)) (a3:(List Int)) (s45:Int) (x49:Pack) (s59:Int):Option (Lp Int (Fl (List Term) Unit)):=
 if decide (s59< (x49.Needs.length:Int)) then
  ((idx x49.Needs s59).bind fun x61=>
  (zB7 a1 a3 x61).bind fun x63=>
  if !x63 then
   ((idx x49.Needs s59).bind fun x66=>
   some (Lp.done (Fl.ret x66)))
  else
   (some (Lp.go (w64 (s59+1)))))
 else
  (some (Lp.done (Fl.nxt ())))
noncomputable def zCo (a1:(List Pack)) (a3:(List Int)) (s45:Int) (x49:Pack):Int→Option (Fl (List Term) Unit):=loop (zB6 a1 a3 s45 x49)
noncomputable def zB4 (a1:(List Pack)) (a3:(List Int)) (s45:Int):Option (Lp Int (Fl (List Term) Unit)):=
 if decide (s45< (a3.length:Int)) then
  ((idx a3 s45).bind fun x47=>
  (idx a1 x47).bind fun x49=>
  (zCo a1 a3 s45 x49 0).bind (Fl.go (fun r=>some (Lp.done (Fl.ret r))) fun v68=>
  some (Lp.go (w64 (s45+1)))))
 else
  (some (Lp.done (Fl.nxt ())))
noncomputable def zCd (a1:(List Pack)) (a3:(List Int)):Int→Option (Fl (List Term) Unit):=loop (zB4 a1 a3)
noncomputable def zBE (a1:(List Pack)) (a2:(List Term)) (a3:(List Int)) (s12:Int):Option (Lp Int (Fl (List Term) Unit)):=
 if decide (s12< (a2.length:Int)) then
  ((zEE a2 s12 (w64 (s12+1))).bind fun x14=>
  (zB7 a1 a3 x14).bind fun x16=>
  if !x16 then
   ((zEE a2 s12 (w64 (s12+1))).bind fun x19=>
   some (Lp.done (Fl.ret x19)))
  else
   (some (Lp.go (w64 (s12+1)))))
 else
  (some (Lp.done (Fl.nxt ())))
noncomputable def zCi (a1:(List Pack)) (a2:(List Term)) (a3:(List Int)):Int→Option (Fl (List Term) Unit):=loop (zBE a1 a2 a3)
noncomputable def zBV (a1:(List Pack)) (a2:(List Term)) (a3:(List Int)):Option (List Term):=
 (zCi a1 a2 a3 0).bind (Fl.go some fun v21=>
 (zCd a1 a3 0).bind (Fl.go some fun v69=>
 some ([]:List Term)))
noncomputable def zDs (a1:(List Int)) (a2:Int) (s16:((List Int)×Bool×Int)):Option (Lp ((List Int)×Bool×Int) ((List Int)×Bool)):=
 if decide (s16.2.2< (a1.length:Int)) then
  ((idx a1 s16.2.2).bind fun x18=>
  (if decide (x18>a2) then
    (some (!s16.2.1))
   else
    (some false)).bind fun v21=>
  (if v21 then
    ((app 8 s16.1 [a2]).bind fun x23=>
    some (x23,true))
   else
    (some (s16.1,s16.2.1))).bind fun v25=>
  (idx a1 s16.2.2).bind fun x26=>
  (app 8 v25.1 [x26]).bind fun x28=>
  some (Lp.go (x28,v25.2,w64 (s16.2.2+1))))
 else
  (some (Lp.done (s16.1,s16.2.1)))
noncomputable def zDM (a1:(List Int)) (a2:Int):((List Int)×Bool×Int)→Option ((List Int)×Bool):=loop (zDs a1 a2)
noncomputable def zEd (a1:(List Int)) (a2:Int):Option (List Int):=
 (zDM a1 a2 (([]:List Int),false,0)).bind fun v30=>
 (if !v30.2 then
   ((app 8 v30.1 [a2]).bind fun x32=>
   some x32)
  else
   (some v30.1)).bind fun v34=>
 some v34
noncomputable def zBI (a1:(List Int)) (s7:((List Int)×Int)):Option (Lp ((List Int)×Int) (List Int)):=
 if decide (s7.2< (a1.length:Int)) then
  ((idx a1 s7.2).bind fun x9=>
  (zEd s7.1 x9).bind fun x11=>
  some (Lp.go (x11,w64 (s7.2+1))))
 else
  (some (Lp.done s7.1))
noncomputable def zCg (a1:(List Int)):((List Int)×Int)→Option (List Int):=loop (zBI a1)
noncomputable def zBR (a1:(List Int)):Option (List Int):=
 (zCg a1 (([]:List Int),0)).bind fun v13=>
 some v13
noncomputable def zDo (a1:(List Int)) (a2:Int) (s7:Int):Option (Lp Int (Fl Bool Unit)):=
 if decide (s7< (a1.length:Int)) then
  ((idx a1 s7).bind fun x9=>
  if x9==a2 then
   (some (Lp.done (Fl.ret true)))
  else
   (some (Lp.go (w64 (s7+1)))))
 else
  (some (Lp.done (Fl.nxt ())))
noncomputable def zDJ (a1:(List Int)) (a2:Int):Int→Option (Fl Bool Unit):=loop (zDo a1 a2)
noncomputable def tF (a1:(List Int)) (a2:Int):Option Bool:=
 (zDJ a1 a2 0).bind (Fl.go some fun v12=>
 some false)
noncomputable def zAQ (a1:(List Pack)) (a2:(List Term)) (a3:Int) (s12:Int):Option (Lp Int (Fl Bool Unit)):=
 if decide (s12< (a2.length:Int)) then
  ((idx a1 a3).bind fun x14=>
  (idx a2 s12).bind fun x16=>
  (kV x14 x16).bind fun x18=>
  if x18 then
   (some (Lp.done (Fl.ret true)))
  else
   (some (Lp.go (w64 (s12+1)))))
 else
  (some (Lp.done (Fl.nxt ())))
noncomputable def zB3 (a1:(List Pack)) (a2:(List Term)) (a3:Int):Int→Option (Fl Bool Unit):=loop (zAQ a1 a2 a3)
noncomputable def jC (a1:(List Pack)) (a2:(List Term)) (a3:Int):Option Bool:=
 (zB3 a1 a2 a3 0).bind (Fl.go some fun v21=>
 some false)
noncomputable def zCP (a1:(List Pack)) (a2:(List Int)) (a3:Int) (s27:Int):Option (Lp Int (Fl Bool Unit)):=
 if decide (s27< (a2.length:Int)) then
  ((idx a2 s27).bind fun x29=>
  (idx a1 x29).bind fun x31=>
  (idx a1 a3).bind fun x33=>
  (if seq x31.Name x33.Name then
    (some true)
   else
    ((idx a2 s27).bind fun x36=>
    (idx a1 x36).bind fun x38=>
    (jC a1 x38.Bars a3).bind fun x40=>
    if x40 then
     (some true)
    else
     ((idx a1 a3).bind fun x43=>
     (idx a2 s27).bind fun x45=>
     (jC a1 x43.Bars x45).bind fun x47=>
     some x47))).bind fun v49=>
  if v49 then
   (some (Lp.done (Fl.ret false)))
  else
   (some (Lp.go (w64 (s27+1)))))
 else
  (some (Lp.done (Fl.nxt ())))
noncomputable def zDm (a1:(List Pack)) (a2:(List Int)) (a3:Int):Int→Option (Fl Bool Unit):=loop (zCP a1 a2 a3)
noncomputable def zDC (a1:(List Pack)) (a2:(List Int)) (a3:Int):Option Bool:=
 (zDm a1 a2 a3 0).bind (Fl.go some fun v51=>
 some true)
noncomputable def zCJ (a1:(List Pack)) (a2:(List Int)) (a3:Int) (a4:Int):Option Bool:=
 (tF a2 a3).bind fun x5=>
 (tF a2 a4).bind fun x7=>
 if !(x5==x7) then
  ((tF a2 a3).bind fun x10=>
  some x10)
 else
  ((idx a1 a3).bind fun x12=>
  (idx a1 a4).bind fun x14=>
  (yM x12.Version x14.Version).bind fun x16=>
  if x16 !=0 then
   (some (decide (x16>0)))
  else
   (some (decide (a3<a4))))
noncomputable def zBe (a1:(List Pack)) (a2:(List Term)) (a3:(List Int)) (a4:(List Int)) (a5:(List Int)) (s62:((List Int)×Int)) (s100:Int):Option (Lp Int Int):=
 (if decide (s100>0) then
   ((idx s62.1 (w64 (s100-1))).bind fun x102=>
   (zCJ a1 a5 s62.2 x102).bind fun x104=>
   some x104)
  else
   (some false)).bind fun v106=>
 if v106 then
  (some (Lp.go (w64 (s100-1))))
 else
  (some (Lp.done s100))
noncomputable def uW (a1:(List Pack)) (a2:(List Term)) (a3:(List Int)) (a4:(List Int)) (a5:(List Int)) (s62:((List Int)×Int)):Int→Option Int:=loop (zBe a1 a2 a3 a4 a5 s62)
noncomputable def kL (a1:(List Pack)) (a2:(List Term)) (a3:(List Int)) (a4:(List Int)) (a5:(List Int)) (s62:((List Int)×Int)) (s71:(Bool×Int)):Option (Lp (Bool×Int) Bool):=
 if decide (s71.2< (a2.length:Int)) then
  ((if s71.1 then
     (some true)
    else
     ((idx a1 s62.2).bind fun x74=>
     (idx a2 s71.2).bind fun x76=>
     (kV x74 x76).bind fun x78=>
     some x78)).bind fun v80=>
  some (Lp.go (v80,w64 (s71.2+1))))
 else
  (some (Lp.done s71.1))
noncomputable def zAa (a1:(List Pack)) (a2:(List Term)) (a3:(List Int)) (a4:(List Int)) (a5:(List Int)) (s62:((List Int)×Int)):(Bool×Int)→Option Bool:=loop (kL a1 a2 a3 a4 a5 s62)
noncomputable def kJ (a1:(List Pack)) (a2:(List Term)) (a3:(List Int)) (a4:(List Int)) (a5:(List Int)) (s62:((List Int)×Int)):Option (Lp ((List Int)×Int) (List Int)):=
 if decide (s62.2< (a1.length:Int)) then
  ((zAa a1 a2 a3 a4 a5 s62 (false,0)).bind fun v81=>
  (if !v81 then
    (some true)
   else
    ((tF a3 s62.2).bind fun x83=>
    if x83 then
     (some true)
    else
     ((tF a4 s62.2).bind fun x86=>
     if x86 then
      (some true)
     else
      ((zDC a1 a3 s62.2).bind fun x89=>
      some (!x89))))).bind fun v91=>
  if v91 then
   (some (Lp.go (s62.1,w64 (s62.2+1))))
  else
   ((uW a1 a2 a3 a4 a5 s62 (s62.1.length:Int)).bind fun v108=>
   (zEE s62.1 0 v108).bind fun x109=>
   (app 8 ([]:List Int) x109).bind fun x111=>
   (app 8 x111 [s62.2]).bind fun x113=>
   (zEE s62.1 v108 (s62.1.length:Int)).bind fun x115=>
   (app 8 x113 x115).bind fun x117=>
   some (Lp.go (x117,w64 (s62.2+1)))))
 else
  (some (Lp.done s62.1))
noncomputable def zAe (a1:(List Pack)) (a2:(List Term)) (a3:(List Int)) (a4:(List Int)) (a5:(List Int)):((List Int)×Int)→Option (List Int):=loop (kJ a1 a2 a3 a4 a5)
noncomputable def kF (a1:(List Pack)) (a2:(List Term)) (a3:(List Int)) (a4:(List Int)) (a5:(List Int)):Option (List Int):=
 (zAe a1 a2 a3 a4 a5 (([]:List Int),0)).bind fun v119=>
 some v119
noncomputable def zCk (a1:(List Pack)) (a2:(List Term)) (a3:(List Int)) (a4:Int) (s53:((List xH)×(List Int)×Int)):Option (Lp ((List xH)×(List Int)×Int) (Fl SolveResult Unit)):=
 (zBM s53.1).bind fun x54=>
 (zBV a1 a2 x54).bind fun x56=>
 if (x56.length:Int)==0 then
  ((zBR x54).bind fun x59=>
  some (Lp.done (Fl.ret ({Code:=0,Choices:=s53.2.2,Set:=x59}:SolveResult))))
 else
  ((kF a1 x56 x54 s53.2.1 a3).bind fun x61=>
  if decide ((x61.length:Int)>0) then
   (if s53.2.2==a4 then
    (some (Lp.done (Fl.ret ({Code:=7,Choices:=s53.2.2,Set:=([]:List Int)}:SolveResult))))
   else
    ((idx x61 0).bind fun x65=>
    (app 32 s53.1 [({Pack:=x65,Denied:=s53.2.1}:xH)]).bind fun x67=>
    some (Lp.go (x67,s53.2.1,w64 (s53.2.2+1)))))
  else
   (if (s53.1.length:Int)==0 then
    (some (Lp.done (Fl.ret ({Code:=4,Choices:=s53.2.2,Set:=([]:List Int)}:SolveResult))))
   else
    ((idx s53.1 (w64 ((s53.1.length:Int)-1))).bind fun x70=>
    (zEE s53.1 0 (w64 ((s53.1.length:Int)-1))).bind fun x72=>
    (app 8 ([]:List Int) x70.Denied).bind fun x74=>
    (app 8 x74 [x70.Pack]).bind fun x76=>
    some (Lp.go (x72,x76,s53.2.2)))))
noncomputable def zCO (a1:(List Pack)) (a2:(List Term)) (a3:(List Int)) (a4:Int):((List xH)×(List Int)×Int)→Option (Fl SolveResult Unit):=loop (zCk a1 a2 a3 a4)
noncomputable def kS (a1:(List Pack)) (a2:(List Term)) (a3:(List Int)) (a4:Int):Option SolveResult:=
 (zCO a1 a2 a3 a4 (([]:List xH),([]:List Int),0)).bind (Fl.go some fun _=>none)
noncomputable def zDF (a1:Int) (a2:Int):Option Int:=
 if decide (a1>a2) then
  (some a1)
 else
  (some a2)
noncomputable def zBJ (a1:(List Pack)) (a2:(List Int)) (s82:((List zO)×Int)) (x86:Pack) (s147:((List zO)×Int)):Option (Lp ((List zO)×Int) (List zO)):=
 if decide (s147.2< (x86.Bars.length:Int)) then
  ((idx x86.Bars s147.2).bind fun x149=>
  (idx a2 s82.2).bind fun x151=>
  (zAW a1 a2 x149 x151).bind fun x153=>
  (if x153 then
    ((idx a2 s82.2).bind fun x156=>
    (app 24 s147.1 [({Kind:=3,Pack:=x156,At:=s147.2}:zO)]).bind fun x158=>
    some x158)
   else
    (some s147.1)).bind fun v160=>
  some (Lp.go (v160,w64 (s147.2+1))))
 else
  (some (Lp.done s147.1))
noncomputable def zCc (a1:(List Pack)) (a2:(List Int)) (s82:((List zO)×Int)) (x86:Pack):((List zO)×Int)→Option (List zO):=loop (zBJ a1 a2 s82 x86)
noncomputable def zB8 (a1:(List Pack)) (a2:(List Int)) (s82:((List zO)×Int)) (x86:Pack) (s121:((List zO)×Int)):Option (Lp ((List zO)×Int) (List zO)):=
 if decide (s121.2< (x86.Needs.length:Int)) then
  ((idx x86.Needs s121.2).bind fun x123=>
  (zB7 a1 a2 x123).bind fun x125=>
  (if !x125 then
    ((idx a2 s82.2).bind fun x128=>
    (app 24 s121.1 [({Kind:=2,Pack:=x128,At:=s121.2}:zO)]).bind fun x130=>
    some x130)
   else
    (some s121.1)).bind fun v132=>
  some (Lp.go (v132,w64 (s121.2+1))))
 else
  (some (Lp.done s121.1))
noncomputable def zCv (a1:(List Pack)) (a2:(List Int)) (s82:((List zO)×Int)) (x86:Pack):((List zO)×Int)→Option (List zO):=loop (zB8 a1 a2 s82 x86)
noncomputable def zBz (a1:(List Pack)) (a2:(List Int)) (s82:((List zO)×Int)) (x86:Pack) (s98:Int):Option (Lp Int (List zO)):=
 if decide (s98<s82.2) then
  ((idx a2 s98).bind fun x100=>
  (idx a1 x100).bind fun x102=>
  if seq x102.Name x86.Name then
   ((idx a2 s82.2).bind fun x105=>
   (app 24 s82.1 [({Kind:=1,Pack:=x105,At:=0}:zO)]).bind fun x107=>
   some (Lp.done x107))
  else
   (some (Lp.go (w64 (s98+1)))))
 else
  (some (Lp.done s82.1))
noncomputable def zAK (a1:(List Pack)) (a2:(List Int)) (s82:((List zO)×Int)) (x86:Pack):Int→Option (List zO):=loop (zBz a1 a2 s82 x86)
noncomputable def zB9 (a1:(List Pack)) (a2:(List Int)) (s82:((List zO)×Int)):Option (Lp ((List zO)×Int) (List zO)):=
 if decide (s82.2< (a2.length:Int)) then
  ((idx a2 s82.2).bind fun x84=>
  (idx a1 x84).bind fun x86=>
  (zAK a1 a2 s82 x86 0).bind fun v109=>
  (zCv a1 a2 s82 x86 (v109,0)).bind fun v133=>
  (zCc a1 a2 s82 x86 (v133,0)).bind fun v161=>
  some (Lp.go (v161,w64 (s82.2+1))))
 else
  (some (Lp.done s82.1))
noncomputable def zCa (a1:(List Pack)) (a2:(List Int)):((List zO)×Int)→Option (List zO):=loop (zB9 a1 a2)
noncomputable def jJ (a1:(List Pack)) (a2:(List Int)):Option (List zO):=
 (zCa a1 a2 (([]:List zO),0)).bind fun v162=>
 some v162
noncomputable def zBO (a2:(List Pack)) (x19:(Bool×zD)) (s53:(List Int)) (x59:zO) (s70:((List Int)×Int)):Option (Lp ((List Int)×Int) (List Int)):=
 if decide (s70.2< (s53.length:Int)) then
  ((idx s53 s70.2).bind fun x72=>
  (if x72 !=x59.Pack then
    ((idx s53 s70.2).bind fun x75=>
    (app 8 s70.1 [x75]).bind fun x77=>
    some x77)
   else
    (some s70.1)).bind fun v79=>
  some (Lp.go (v79,w64 (s70.2+1))))
 else
  (some (Lp.done s70.1))
noncomputable def kW (a2:(List Pack)) (x19:(Bool×zD)) (s53:(List Int)) (x59:zO):((List Int)×Int)→Option (List Int):=loop (zBO a2 x19 s53 x59)
noncomputable def zBT (a2:(List Pack)) (x19:(Bool×zD)) (s53:(List Int)):Option (Lp (List Int) (List Int)):=
 (jJ a2 s53).bind fun x54=>
 if decide ((x54.length:Int)>0) then
  ((jJ a2 s53).bind fun x57=>
  (idx x57 0).bind fun x59=>
  (kW a2 x19 s53 x59 (([]:List Int),0)).bind fun v80=>
  some (Lp.go v80))
 else
  (some (Lp.done s53))
noncomputable def kX (a2:(List Pack)) (x19:(Bool×zD)):(List Int)→Option (List Int):=loop (zBT a2 x19)
noncomputable def zA1 (a2:(List Pack)) (s10:((List Int)×Int×(List Int)×Int)):Option (Lp ((List Int)×Int×(List Int)×Int) ((List Int)×Int×(List Int))):=
 if decide (s10.2.2.2< (a2.length:Int)) then
  ((yE ({Code:=s10.1,At:=s10.2.1}:zD) 3).bind fun x12=>
  (if x12.1 then
    ((app 8 s10.2.2.1 [s10.2.2.2]).bind fun x15=>
    some x15)
   else
    (some s10.2.2.1)).bind fun v17=>
  some (Lp.go (x12.2.Code,x12.2.At,v17,w64 (s10.2.2.2+1))))
 else
  (some (Lp.done (s10.1,s10.2.1,s10.2.2.1)))
noncomputable def zAX (a2:(List Pack)):((List Int)×Int×(List Int)×Int)→Option ((List Int)×Int×(List Int)):=loop (zA1 a2)
noncomputable def tJ (a1:zD) (a2:(List Pack)):Option ((List Int)×zD):=
 (zAX a2 (a1.Code,a1.At,([]:List Int),0)).bind fun v18=>
 (yE ({Code:=v18.1,At:=v18.2.1}:zD) 2).bind fun x19=>
 (if x19.1 then
   ((vF a2).bind fun x22=>
   some (x22==0))
  else
   (some false)).bind fun v24=>
 (if v24 then
   ((kX a2 x19 v18.2.2).bind fun v81=>
   some v81)
  else
   (some v18.2.2)).bind fun v82=>
 (yE x19.2 24).bind fun x83=>
 (if x83.1 then
   ((wR x83.2 [(a2.length:Int),(-1),0]).bind fun x86=>
   (app 8 v82 [x86.1]).bind fun x88=>
   some (x86.2.Code,x86.2.At,x88))
  else
   (some (x83.2.Code,x83.2.At,v82))).bind fun v90=>
 some (v90.2.2,({Code:=v90.1,At:=v90.2.1}:zD))
noncomputable def zDB (a1:zD):Option ((List Pack)×(List Int)×(List Int)×zD):=
 (zBi a1).bind fun x2=>
 (vF x2.1).bind fun x4=>
 (if x4==0 then
   ((zA6 x2.2 x2.1).bind fun x7=>
   (kS x2.1 x7.1 ([]:List Int) 60).bind fun x9=>
   (if x9.Code==0 then
     (some x9.Set)
    else
     (some ([]:List Int))).bind fun v12=>
   (zA6 x7.2 x2.1).bind fun x13=>
   (zDF 1 (x2.1.length:Int)).bind fun x15=>
   (zP x13.2 x15).bind fun x17=>
   (kS x2.1 x13.1 [x17.1] 60).bind fun x19=>
   (if x19.Code==0 then
     (some (decide ((x2.1.length:Int)>0)))
    else
     (some false)).bind fun v22=>
   if v22 then
    (some (x17.2.Code,x17.2.At,v12,x19.Set))
   else
    (some (x17.2.Code,x17.2.At,v12,([]:List Int))))
  else
   (some (x2.2.Code,x2.2.At,([]:List Int),([]:List Int)))).bind fun v24=>
 (yE ({Code:=v24.1,At:=v24.2.1}:zD) 14).bind fun x25=>
 (if x25.1 then
   ((tJ x25.2 x2.1).bind fun x28=>
   some (x28.2.Code,x28.2.At,x28.1))
  else
   (some (x25.2.Code,x25.2.At,v24.2.2.1))).bind fun v30=>
 (yE ({Code:=v30.1,At:=v30.2.1}:zD) 14).bind fun x31=>
 (if x31.1 then
   ((tJ x31.2 x2.1).bind fun x34=>
   some (x34.2.Code,x34.2.At,x34.1))
  else
   (some (x31.2.Code,x31.2.At,v24.2.2.2))).bind fun v36=>
 some (x2.1,v30.2.2,v36.2.2,({Code:=v36.1,At:=v36.2.1}:zD))
noncomputable def zA9 (a1:(List Int)):Option ((List Pack)×(List Int)×(List Int)):=
 (zDe a1).bind fun x2=>
 (zDB x2).bind fun x4=>
 some (x4.1,x4.2.1,x4.2.2.1)
noncomputable def zAB (a1:Int):Option Bool:=
 if decide (a1≥97) then
  (if decide (a1≤122) then
   (some true)
  else
   (if decide (a1≥48) then
    (if decide (a1≤57) then
     (some true)
    else
     (some (a1==95)))
   else
    (some (a1==95))))
 else
  (if decide (a1≥48) then
   (if decide (a1≤57) then
    (some true)
   else
    (some (a1==95)))
  else
   (some (a1==95)))
noncomputable def zC3 (a1:ByteArray) (s17:Int):Option (Lp Int (Fl Int Unit)):=
 if decide (s17< (a1.size:Int)) then
  ((bidx a1 s17).bind fun x19=>
  (zAB x19).bind fun x21=>
  if !x21 then
   (some (Lp.done (Fl.ret 5)))
  else
   (some (Lp.go (w64 (s17+1)))))
 else
  (some (Lp.done (Fl.nxt ())))
noncomputable def zAz (a1:ByteArray):Int→Option (Fl Int Unit):=loop (zC3 a1)
noncomputable def tK (a1:ByteArray):Option Int:=
 (if decide ((a1.size:Int)<1) then
   (some true)
  else
   (if decide ((a1.size:Int)>12) then
    (some true)
   else
    ((bidx a1 0).bind fun x4=>
    if decide (x4<97) then
     (some true)
    else
     ((bidx a1 0).bind fun x7=>
     some (decide (x7>122)))))).bind fun v9=>
 if v9 then
  (some 5)
 else
  ((zAz a1 0).bind (Fl.go some fun v24=>
  some 0))
noncomputable def uG (a1:Int) (a2:Int) (a3:Int):Option Bool:=
 if decide (a2≤a1) then
  (some (decide (a1≤a3)))
 else
  (some false)
noncomputable def vP (a1:Version):Option Int:=
 (uG a1.A 0 999).bind fun x2=>
 (if !x2 then
   (some true)
  else
   ((uG a1.B 0 999).bind fun x5=>
   if !x5 then
    (some true)
   else
    ((uG a1.C 0 999).bind fun x8=>
    some (!x8)))).bind fun v10=>
 if v10 then
  (some 3)
 else
  (some 0)
noncomputable def zAU (a1:(List Int)) (s6:Int):Option (Lp Int (Fl Int Unit)):=
 if decide (s6< (a1.length:Int)) then
  ((idx a1 s6).bind fun x8=>
  if x8 !=0 then
   (some (Lp.done (Fl.ret x8)))
  else
   (some (Lp.go (w64 (s6+1)))))
 else
  (some (Lp.done (Fl.nxt ())))
noncomputable def zAt (a1:(List Int)):Int→Option (Fl Int Unit):=loop (zAU a1)
noncomputable def vH (a1:(List Int)):Option Int:=
 (zAt a1 0).bind (Fl.go some fun v11=>
 some 0)
noncomputable def zAJ (a1:(List Term)):Option Bool:=
 some (decide ((a1.length:Int)>4))
noncomputable def yY (a1:(List (List Term))) (s8:Int):Option (Lp Int (Fl Int Unit)):=
 if decide (s8< (a1.length:Int)) then
  ((idx a1 s8).bind fun x10=>
  (zAJ x10).bind fun x12=>
  if x12 then
   (some (Lp.done (Fl.ret s8)))
  else
   (some (Lp.go (w64 (s8+1)))))
 else
  (some (Lp.done (Fl.nxt ())))
noncomputable def xG (a1:(List (List Term))):Int→Option (Fl Int Unit):=loop (yY a1)
noncomputable def yO (a1:(List (List Term))):Option Int:=
 (xG a1 0).bind (Fl.go some fun v15=>
 some (-1))
noncomputable def zS (a1:(List (List Term))):Option Bool:=
 (yO a1).bind fun x2=>
 some (decide (x2≥0))
noncomputable def tX (a1:(List ByteArray)) (a2:ByteArray) (s7:Int):Option (Lp Int (Fl Int Unit)):=
 if decide (s7< (a1.length:Int)) then
  ((idx a1 s7).bind fun x9=>
  if seq a2 x9 then
   (some (Lp.done (Fl.ret s7)))
  else
   (some (Lp.go (w64 (s7+1)))))
 else
  (some (Lp.done (Fl.nxt ())))
noncomputable def jO (a1:(List ByteArray)) (a2:ByteArray):Int→Option (Fl Int Unit):=loop (tX a1 a2)
noncomputable def jS (a1:(List ByteArray)) (a2:ByteArray):Option Int:=
 (jO a1 a2 0).bind (Fl.go some fun v12=>
 some (-1))
noncomputable def yA (a1:(List ByteArray)) (a2:ByteArray):Option Bool:=
 (jS a1 a2).bind fun x3=>
 some (decide (x3≥0))
noncomputable def zFk:Option Version:=
 some ({A:=1000,B:=0,C:=0}:Version)
noncomputable def kK (a1:Int):Option Bool:=
 some (a1 !=a1)
noncomputable def vM (a1:Int) (a2:Int):Option Int:=
 (kK a1).bind fun x3=>
 (kK a2).bind fun x5=>
 if x3 then
  (if x5 then
   (some 0)
  else
   (some (-1)))
 else
  (if x5 then
   (some 1)
  else
   (if decide (a1<a2) then
    (some (-1))
   else
    (if decide (a1>a2) then
     (some 1)
    else
     (some 0))))
noncomputable def zDz (a1:(List Int)) (s6:Int):Option (Lp Int (Fl Int Unit)):=
 if decide (s6< (a1.length:Int)) then
  ((idx a1 s6).bind fun x8=>
  if x8 !=0 then
   (some (Lp.done (Fl.ret x8)))
  else
   (some (Lp.go (w64 (s6+1)))))
 else
  (some (Lp.done (Fl.nxt ())))
noncomputable def zDU (a1:(List Int)):Int→Option (Fl Int Unit):=loop (zDz a1)
noncomputable def zE5 (a1:(List Int)):Option Int:=
 (zDU a1 0).bind (Fl.go some fun v11=>
 some 0)
noncomputable def jU (a1:Version) (a2:Version):Option Int:=
 (vM a1.A a2.A).bind fun x3=>
 (vM a1.B a2.B).bind fun x5=>
 (vM a1.C a2.C).bind fun x7=>
 (zE5 [x3,x5,x7]).bind fun x9=>
 some x9
noncomputable def zBh (a1:Term):Option Int:=
 (tK a1.Name).bind fun x2=>
 if x2 !=0 then
  (some x2)
 else
  ((vP a1.Low).bind fun x5=>
  if x5 !=0 then
   (some x5)
  else
   ((zFk).bind fun x8=>
   (if !(a1.High.A==x8.A&&(a1.High.B==x8.B&&(a1.High.C==x8.C&&true))) then
     ((vP a1.High).bind fun x11=>
     some (x11 !=0))
    else
     (some false)).bind fun v13=>
   if v13 then
    (some 3)
   else
    ((jU a1.Low a1.High).bind fun x15=>
    if decide (x15≥0) then
     (some 1)
    else
     (some 0))))
noncomputable def zA8 (a1:(List Term)) (s8:Int):Option (Lp Int (Fl Int Unit)):=
 if decide (s8< (a1.length:Int)) then
  ((idx a1 s8).bind fun x10=>
  (zBh x10).bind fun x12=>
  if x12 !=0 then
   (some (Lp.done (Fl.ret x12)))
  else
   (some (Lp.go (w64 (s8+1)))))
 else
  (some (Lp.done (Fl.nxt ())))
noncomputable def zBb (a1:(List Term)):Int→Option (Fl Int Unit):=loop (zA8 a1)
noncomputable def tH (a1:(List Term)):Option Int:=
 (zBb a1 0).bind (Fl.go some fun v15=>
 some 0)
noncomputable def zAL (a1:Pack) (s54:Int):Option (Lp Int (Fl Int Unit)):=
 if decide (s54< (a1.Needs.length:Int)) then
  ((idx a1.Needs s54).bind fun x56=>
  if (x56.length:Int)==0 then
   (some (Lp.done (Fl.ret 1)))
  else
   ((tH x56).bind fun x59=>
   if x59 !=0 then
    (some (Lp.done (Fl.ret x59)))
   else
    (some (Lp.go (w64 (s54+1))))))
 else
  (some (Lp.done (Fl.nxt ())))
noncomputable def zAs (a1:Pack):Int→Option (Fl Int Unit):=loop (zAL a1)
noncomputable def zBa (a1:Pack) (s32:Int):Option (Lp Int (Fl Int Unit)):=
 if decide (s32< (a1.Provides.length:Int)) then
  ((idx a1.Provides s32).bind fun x34=>
  (tK x34).bind fun x36=>
  if x36 !=0 then
   (some (Lp.done (Fl.ret x36)))
  else
   ((if seq x34 a1.Name then
      (some true)
     else
      ((zEE a1.Provides 0 s32).bind fun x40=>
      (yA x40 x34).bind fun x42=>
      some x42)).bind fun v44=>
   if v44 then
    (some (Lp.done (Fl.ret 6)))
   else
    (some (Lp.go (w64 (s32+1))))))
 else
  (some (Lp.done (Fl.nxt ())))
noncomputable def zAq (a1:Pack):Int→Option (Fl Int Unit):=loop (zBa a1)
noncomputable def zBp (a1:Pack):Option Int:=
 (tK a1.Name).bind fun x2=>
 (vP a1.Version).bind fun x4=>
 (vH [x2,x4]).bind fun x6=>
 if x6 !=0 then
  (some x6)
 else
  ((uG a1.Size 1 200).bind fun x9=>
  if !x9 then
   (some 3)
  else
   ((if decide ((a1.Provides.length:Int)>4) then
      (some true)
     else
      (if decide ((a1.Needs.length:Int)>4) then
       (some true)
      else
       (if decide ((a1.Bars.length:Int)>4) then
        (some true)
       else
        ((zS a1.Needs).bind fun x15=>
        some x15)))).bind fun v17=>
   if v17 then
    (some 2)
   else
    ((zAq a1 0).bind (Fl.go some fun v46=>
    (zAs a1 0).bind (Fl.go some fun v62=>
    (tH a1.Bars).bind fun x63=>
    some x63)))))
noncomputable def zEb (a1:Pack) (a2:ByteArray) (a3:Version):Option Bool:=
 if seq a1.Name a2 then
  (some (a1.Version.A==a3.A&&(a1.Version.B==a3.B&&(a1.Version.C==a3.C&&true))))
 else
  (some false)
noncomputable def wF (a1:(List Pack)) (a2:ByteArray) (a3:Version) (s10:Int):Option (Lp Int (Fl Int Unit)):=
 if decide (s10< (a1.length:Int)) then
  ((idx a1 s10).bind fun x12=>
  (zEb x12 a2 a3).bind fun x14=>
  if x14 then
   (some (Lp.done (Fl.ret s10)))
  else
   (some (Lp.go (w64 (s10+1)))))
 else
  (some (Lp.done (Fl.nxt ())))
noncomputable def wJ (a1:(List Pack)) (a2:ByteArray) (a3:Version):Int→Option (Fl Int Unit):=loop (wF a1 a2 a3)
noncomputable def xW (a1:(List Pack)) (a2:ByteArray) (a3:Version):Option Int:=
 (wJ a1 a2 a3 0).bind (Fl.go some fun v17=>
 some (-1))
noncomputable def zEm (a1:(List Pack)) (a2:ByteArray) (a3:Version):Option Int:=
 (xW a1 a2 a3).bind fun x4=>
 some x4
noncomputable def kQ (a1:(List Pack)) (s14:Int):Option (Lp Int (Fl Int Unit)):=
 if decide (s14< (a1.length:Int)) then
  ((idx a1 s14).bind fun x16=>
  (zBp x16).bind fun x18=>
  if x18 !=0 then
   (some (Lp.done (Fl.ret x18)))
  else
   ((zEE a1 0 s14).bind fun x21=>
   (zEm x21 x16.Name x16.Version).bind fun x23=>
   if decide (x23≥0) then
    (some (Lp.done (Fl.ret 6)))
   else
    (some (Lp.go (w64 (s14+1))))))
 else
  (some (Lp.done (Fl.nxt ())))
noncomputable def zAf (a1:(List Pack)):Int→Option (Fl Int Unit):=loop (kQ a1)
noncomputable def jY (a1:(List Pack)):Option Int:=
 if decide ((a1.length:Int)>24) then
  (some 2)
 else
  ((zAf a1 0).bind (Fl.go some fun v26=>
  some 0))
noncomputable def zAG (a1:Int) (a2:(List Pack)):Option Bool:=
 (uG a1 0 (w64 ((a2.length:Int)-1))).bind fun x3=>
 some (!x3)
noncomputable def xV (a1:(List Int)) (a2:(List Pack)) (s9:Int):Option (Lp Int (Fl Int Unit)):=
 if decide (s9< (a1.length:Int)) then
  ((idx a1 s9).bind fun x11=>
  (zAG x11 a2).bind fun x13=>
  if x13 then
   (some (Lp.done (Fl.ret s9)))
  else
   (some (Lp.go (w64 (s9+1)))))
 else
  (some (Lp.done (Fl.nxt ())))
noncomputable def wB (a1:(List Int)) (a2:(List Pack)):Int→Option (Fl Int Unit):=loop (xV a1 a2)
noncomputable def xI (a1:(List Int)) (a2:(List Pack)):Option Int:=
 (wB a1 a2 0).bind (Fl.go some fun v16=>
 some (-1))
noncomputable def yT (a1:(List Int)) (a2:(List Pack)):Option Bool:=
 (xI a1 a2).bind fun x3=>
 some (decide (x3≥0))
noncomputable def zBu (a1:(List Pack)) (a2:(List Int)):Option Bool:=
 (yT a2 a1).bind fun x3=>
 some (!x3)
noncomputable def tV (a1:(List Pack)) (a2:(List Int)) (s12:Int):Option (Lp Int (Fl Int Unit)):=
 if decide (s12< (a2.length:Int)) then
  ((idx a2 s12).bind fun x14=>
  (idx a2 (w64 (s12-1))).bind fun x16=>
  if decide (x14≤x16) then
   (some (Lp.done (Fl.ret 1)))
  else
   (some (Lp.go (w64 (s12+1)))))
 else
  (some (Lp.done (Fl.nxt ())))
noncomputable def zAI (a1:(List Pack)) (a2:(List Int)):Int→Option (Fl Int Unit):=loop (tV a1 a2)
noncomputable def xS (a1:(List Pack)) (a2:(List Int)):Option Int:=
 (jY a1).bind fun x3=>
 if x3 !=0 then
  (some x3)
 else
  ((zAI a1 a2 1).bind (Fl.go some fun v19=>
  (zBu a1 a2).bind fun x20=>
  if !x20 then
   (some 1)
  else
   (some 0)))
noncomputable def zAl (a1:(List Pack)) (a2:(List Int)) (a3:ByteArray) (s10:Int):Option (Lp Int (Fl Int Unit)):=
 if decide (s10< (a2.length:Int)) then
  ((idx a2 s10).bind fun x12=>
  (idx a1 x12).bind fun x14=>
  if seq x14.Name a3 then
   (some (Lp.done (Fl.ret x12)))
  else
   (some (Lp.go (w64 (s10+1)))))
 else
  (some (Lp.done (Fl.nxt ())))
noncomputable def zDc (a1:(List Pack)) (a2:(List Int)) (a3:ByteArray):Int→Option (Fl Int Unit):=loop (zAl a1 a2 a3)
noncomputable def uP (a1:(List Pack)) (a2:(List Int)) (a3:ByteArray):Option Int:=
 (zDc a1 a2 a3 0).bind (Fl.go some fun v17=>
 some (-1))
noncomputable def zBG (a1:Pack):Option (List ByteArray):=
 (app 16 [a1.Name] a1.Provides).bind fun x2=>
 some x2
noncomputable def zBZ (a1:Term) (a2:ByteArray) (a3:Version):Option Bool:=
 if seq a1.Name a2 then
  ((jU a1.Low a3).bind fun x5=>
  if decide (x5≤0) then
   ((jU a3 a1.High).bind fun x8=>
   some (decide (x8<0)))
  else
   (some false))
 else
  (some false)
noncomputable def zAp (a1:ByteArray) (a2:Term) (a3:Pack):Option Bool:=
 (zBZ a2 a1 a3.Version).bind fun x4=>
 some x4
noncomputable def xC (a1:(List ByteArray)) (a2:Term) (a3:Pack) (s10:Int):Option (Lp Int (Fl Int Unit)):=
 if decide (s10< (a1.length:Int)) then
  ((idx a1 s10).bind fun x12=>
  (zAp x12 a2 a3).bind fun x14=>
  if x14 then
   (some (Lp.done (Fl.ret s10)))
  else
   (some (Lp.go (w64 (s10+1)))))
 else
  (some (Lp.done (Fl.nxt ())))
noncomputable def xM (a1:(List ByteArray)) (a2:Term) (a3:Pack):Int→Option (Fl Int Unit):=loop (xC a1 a2 a3)
noncomputable def yR (a1:(List ByteArray)) (a2:Term) (a3:Pack):Option Int:=
 (xM a1 a2 a3 0).bind (Fl.go some fun v17=>
 some (-1))
noncomputable def yG (a1:(List ByteArray)) (a2:Term) (a3:Pack):Option Bool:=
 (yR a1 a2 a3).bind fun x4=>
 some (decide (x4≥0))
noncomputable def jN (a1:Pack) (a2:Term):Option Bool:=
 (zBG a1).bind fun x3=>
 (yG x3 a2 a1).bind fun x5=>
 some x5
noncomputable def xL (a1:(List Term)) (a2:Pack) (s9:Int):Option (Lp Int (Fl Int Unit)):=
 if decide (s9< (a1.length:Int)) then
  ((idx a1 s9).bind fun x11=>
  (jN a2 x11).bind fun x13=>
  if x13 then
   (some (Lp.done (Fl.ret s9)))
  else
   (some (Lp.go (w64 (s9+1)))))
 else
  (some (Lp.done (Fl.nxt ())))
noncomputable def xP (a1:(List Term)) (a2:Pack):Int→Option (Fl Int Unit):=loop (xL a1 a2)
noncomputable def yU (a1:(List Term)) (a2:Pack):Option Int:=
 (xP a1 a2 0).bind (Fl.go some fun v16=>
 some (-1))
noncomputable def yL (a1:(List Term)) (a2:Pack):Option Bool:=
 (yU a1 a2).bind fun x3=>
 some (decide (x3≥0))
noncomputable def jD (a1:Pack) (a2:(List Term)):Option Bool:=
 (yL a2 a1).bind fun x3=>
 some x3
noncomputable def zDg (a1:Int) (a2:(List Pack)) (a3:(List Term)):Option Bool:=
 (idx a2 a1).bind fun x4=>
 (jD x4 a3).bind fun x6=>
 some x6
noncomputable def wI (a1:(List Int)) (a2:(List Pack)) (a3:(List Term)) (s10:Int):Option (Lp Int (Fl Int Unit)):=
 if decide (s10< (a1.length:Int)) then
  ((idx a1 s10).bind fun x12=>
  (zDg x12 a2 a3).bind fun x14=>
  if x14 then
   (some (Lp.done (Fl.ret s10)))
  else
   (some (Lp.go (w64 (s10+1)))))
 else
  (some (Lp.done (Fl.nxt ())))
noncomputable def wM (a1:(List Int)) (a2:(List Pack)) (a3:(List Term)):Int→Option (Fl Int Unit):=loop (wI a1 a2 a3)
noncomputable def wC (a1:(List Int)) (a2:(List Pack)) (a3:(List Term)):Option Int:=
 (wM a1 a2 a3 0).bind (Fl.go some fun v17=>
 some (-1))
noncomputable def yI (a1:(List Int)) (a2:(List Pack)) (a3:(List Term)):Option Bool:=
 (wC a1 a2 a3).bind fun x4=>
 some (decide (x4≥0))
noncomputable def zDj (a1:Int) (a2:Int) (a3:(List Pack)) (a4:Term):Option Bool:=
 if a1 !=a2 then
  ((idx a3 a1).bind fun x6=>
  (jN x6 a4).bind fun x8=>
  some x8)
 else
  (some false)
noncomputable def wH (a1:(List Int)) (a2:Int) (a3:(List Pack)) (a4:Term) (s11:Int):Option (Lp Int (Fl Int Unit)):=
 if decide (s11< (a1.length:Int)) then
  ((idx a1 s11).bind fun x13=>
  (zDj x13 a2 a3 a4).bind fun x15=>
  if x15 then
   (some (Lp.done (Fl.ret s11)))
  else
   (some (Lp.go (w64 (s11+1)))))
 else
  (some (Lp.done (Fl.nxt ())))
noncomputable def wL (a1:(List Int)) (a2:Int) (a3:(List Pack)) (a4:Term):Int→Option (Fl Int Unit):=loop (wH a1 a2 a3 a4)
noncomputable def wD (a1:(List Int)) (a2:Int) (a3:(List Pack)) (a4:Term):Option Int:=
 (wL a1 a2 a3 a4 0).bind (Fl.go some fun v18=>
 some (-1))
noncomputable def yH (a1:(List Int)) (a2:Int) (a3:(List Pack)) (a4:Term):Option Bool:=
 (wD a1 a2 a3 a4).bind fun x5=>
 some (decide (x5≥0))
noncomputable def zCC (a1:(List Pack)) (a2:(List Int)) (s56:((List zO)×Int)) (x58:Int) (x60:Pack) (s99:((List zO)×Int)):Option (Lp ((List zO)×Int) (List zO)):=
 if decide (s99.2< (x60.Bars.length:Int)) then
  ((idx x60.Bars s99.2).bind fun x101=>
  (yH a2 x58 a1 x101).bind fun x103=>
  (if x103 then
    ((app 24 s99.1 [({Kind:=3,Pack:=x58,At:=s99.2}:zO)]).bind fun x106=>
    some x106)
   else
    (some s99.1)).bind fun v108=>
  some (Lp.go (v108,w64 (s99.2+1))))
 else
  (some (Lp.done s99.1))
noncomputable def zDv (a1:(List Pack)) (a2:(List Int)) (s56:((List zO)×Int)) (x58:Int) (x60:Pack):((List zO)×Int)→Option (List zO):=loop (zCC a1 a2 s56 x58 x60)
noncomputable def zCR (a1:(List Pack)) (a2:(List Int)) (s56:((List zO)×Int)) (x58:Int) (x60:Pack) (s79:((List zO)×Int)):Option (Lp ((List zO)×Int) (List zO)):=
 if decide (s79.2< (x60.Needs.length:Int)) then
  ((idx x60.Needs s79.2).bind fun x81=>
  (yI a2 a1 x81).bind fun x83=>
  (if !x83 then
    ((app 24 s79.1 [({Kind:=2,Pack:=x58,At:=s79.2}:zO)]).bind fun x86=>
    some x86)
   else
    (some s79.1)).bind fun v88=>
  some (Lp.go (v88,w64 (s79.2+1))))
 else
  (some (Lp.done s79.1))
noncomputable def zDy (a1:(List Pack)) (a2:(List Int)) (s56:((List zO)×Int)) (x58:Int) (x60:Pack):((List zO)×Int)→Option (List zO):=loop (zCR a1 a2 s56 x58 x60)
noncomputable def zCL (a1:(List Pack)) (a2:(List Int)) (s56:((List zO)×Int)):Option (Lp ((List zO)×Int) (List zO)):=
 if decide (s56.2< (a2.length:Int)) then
  ((idx a2 s56.2).bind fun x58=>
  (idx a1 x58).bind fun x60=>
  (zEE a2 0 s56.2).bind fun x62=>
  (uP a1 x62 x60.Name).bind fun x64=>
  (if decide (x64≥0) then
    ((app 24 s56.1 [({Kind:=1,Pack:=x58,At:=0}:zO)]).bind fun x67=>
    some x67)
   else
    (some s56.1)).bind fun v69=>
  (zDy a1 a2 s56 x58 x60 (v69,0)).bind fun v89=>
  (zDv a1 a2 s56 x58 x60 (v89,0)).bind fun v109=>
  some (Lp.go (v109,w64 (s56.2+1))))
 else
  (some (Lp.done s56.1))
noncomputable def zDx (a1:(List Pack)) (a2:(List Int)):((List zO)×Int)→Option (List zO):=loop (zCL a1 a2)
noncomputable def zDA (a1:(List Pack)) (a2:(List Int)):Option (List zO):=
 (zDx a1 a2 (([]:List zO),0)).bind fun v110=>
 some v110
noncomputable def xQ (a1:(List Pack)) (a2:(List Int)):Option Bool:=
 (zDA a1 a2).bind fun x3=>
 some ((x3.length:Int)==0)
noncomputable def zBW (a1:(List Pack)) (a2:(List Int)) (a3:(List Int)):Option Int:=
 (xS a1 a2).bind fun x4=>
 (xS a1 a3).bind fun x6=>
 (vH [x4,x6]).bind fun x8=>
 (if x8==0 then
   ((xQ a1 a2).bind fun x11=>
   if !x11 then
    (some true)
   else
    ((xQ a1 a3).bind fun x14=>
    some (!x14)))
  else
   (some false)).bind fun v16=>
 (if v16 then
   (some 1)
  else
   (some x8)).bind fun v18=>
 some v18
noncomputable def zA7 (a1:Int):Option (List Int):=if 0≤a1∧a1*8≤140737488355328∧a1≤4611686018427387904 then some [] else none
noncomputable def vD (a1:(List (List Int))) (s19:((List Int)×Int)):Option (Lp ((List Int)×Int) (List Int)):=
 if decide (s19.2< (a1.length:Int)) then
  ((idx a1 s19.2).bind fun x21=>
  (app 8 s19.1 x21).bind fun x23=>
  some (Lp.go (x23,w64 (s19.2+1))))
 else
  (some (Lp.done s19.1))
noncomputable def jF (a1:(List (List Int))):((List Int)×Int)→Option (List Int):=loop (vD a1)
noncomputable def wT (a1:(List (List Int))) (s6:(Int×Int)):Option (Lp (Int×Int) Int):=
 if decide (s6.2< (a1.length:Int)) then
  ((idx a1 s6.2).bind fun x8=>
  if decide ((w64 (s6.1+(x8.length:Int)))<0) then
   (none)
  else
   (some (Lp.go (w64 (s6.1+(x8.length:Int)),w64 (s6.2+1)))))
 else
  (some (Lp.done s6.1))
noncomputable def jH (a1:(List (List Int))):(Int×Int)→Option Int:=loop (wT a1)
noncomputable def vK (a1:(List (List Int))):Option (List Int):=
 (jH a1 (0,0)).bind fun v11=>
 (zA7 v11).bind fun x12=>
 (jF a1 (x12,0)).bind fun v25=>
 some v25
noncomputable def uV (a1:List ByteArray):Option (List ByteArray):=if a1.length≤4611686018427387903 then some (((a1.map (·.data.toList)).mergeSort fun x y=>decide (x≤y)).map fun l=>(⟨l.toArray⟩:ByteArray)) else none
noncomputable def uL (s41:Int) (x48:(List ByteArray)) (s61:((List ByteArray)×Int×Int)):Option (Lp ((List ByteArray)×Int×Int) ((List ByteArray)×Int)):=
 if decide (s61.2.2< (x48.length:Int)) then
  ((zK0 s61.1 s41 x48.length s61.2.2).bind fun x63=>
  (zK0 s61.1 s41 x48.length (w64 (s61.2.2-1))).bind fun x65=>
  (if !(seq x63 x65) then
    ((zK0 s61.1 s41 x48.length s61.2.2).bind fun x68=>
    (idx s61.1 s61.2.1).bind fun x70=>
    some (s61.1.set s61.2.1.toNat x68,w64 (s61.2.1+1)))
   else
    (some (s61.1,s61.2.1))).bind fun v72=>
  some (Lp.go (v72.1,v72.2,w64 (s61.2.2+1))))
 else
  (some (Lp.done (s61.1,s61.2.1)))
noncomputable def vU (s41:Int) (x48:(List ByteArray)):((List ByteArray)×Int×Int)→Option ((List ByteArray)×Int):=loop (uL s41 x48)
noncomputable def vB (a1:(List ByteArray)) (s41:Int):Option (Lp Int (Fl (List ByteArray) Unit)):=
 if decide (s41< (a1.length:Int)) then
  ((idx a1 s41).bind fun x43=>
  (idx a1 (w64 (s41-1))).bind fun x45=>
  if seq x43 x45 then
   ((zEE a1 s41 (a1.length:Int)).bind fun x48=>
   (vU s41 x48 (a1,s41,1)).bind fun v73=>
   (zEE v73.1 v73.2 (v73.1.length:Int)).bind fun x74=>
   (zLI v73.1 v73.2 x74.length ByteArray.empty).bind fun x76=>
   (zEE x76 0 v73.2).bind fun x78=>
   some (Lp.done (Fl.ret x78)))
  else
   (some (Lp.go (w64 (s41+1)))))
 else
  (some (Lp.done (Fl.nxt ())))
noncomputable def uS (a1:(List ByteArray)):Int→Option (Fl (List ByteArray) Unit):=loop (vB a1)
noncomputable def vX (a1:(List ByteArray)):Option (List ByteArray):=
 if decide ((a1.length:Int)<2) then
  (some a1)
 else
  ((uS a1 1).bind (Fl.go some fun v80=>
  some a1))
noncomputable def uZ (a1:(List ByteArray)):Option (List ByteArray):=
 (uV a1).bind fun x2=>
 (same x2 a1).bind fun u4=>
 (vX x2).bind fun x6=>
 some x6
noncomputable def zCu (a1:(List Pack)) (a2:(List Int)) (a3:(List Int)) (x4:(List Int)) (s19:((List ByteArray)×Int)):Option (Lp ((List ByteArray)×Int) (List ByteArray)):=
 if decide (s19.2< (x4.length:Int)) then
  ((idx x4 s19.2).bind fun x21=>
  (idx a1 x21).bind fun x23=>
  (uP a1 a2 x23.Name).bind fun x25=>
  (uP a1 a3 x23.Name).bind fun x27=>
  (if x25 !=x27 then
    ((app 16 s19.1 [x23.Name]).bind fun x30=>
    some x30)
   else
    (some s19.1)).bind fun v32=>
  some (Lp.go (v32,w64 (s19.2+1))))
 else
  (some (Lp.done s19.1))
noncomputable def zCK (a1:(List Pack)) (a2:(List Int)) (a3:(List Int)) (x4:(List Int)):((List ByteArray)×Int)→Option (List ByteArray):=loop (zCu a1 a2 a3 x4)
noncomputable def zAY (a1:(List Pack)) (a2:(List Int)) (a3:(List Int)):Option (List ByteArray):=
 (vK [a2,a3]).bind fun x4=>
 (zCK a1 a2 a3 x4 (([]:List ByteArray),0)).bind fun v33=>
 (uZ v33).bind fun x34=>
 some x34
noncomputable def jK (a1:(List Pack)) (x5:Int) (x7:Int) (s18:((List Pack)×Int)):Option (Lp ((List Pack)×Int) (List Pack)):=
 if decide (s18.2< ([x5,x7].length :Int)) then
  ((idx [x5,x7] s18.2).bind fun x20=>
  (if decide (x20≥0) then
    ((idx a1 x20).bind fun x23=>
    (app 120 s18.1 [x23]).bind fun x25=>
    some x25)
   else
    (some s18.1)).bind fun v27=>
  some (Lp.go (v27,w64 (s18.2+1))))
 else
  (some (Lp.done s18.1))
noncomputable def zB0 (a1:(List Pack)) (x5:Int) (x7:Int):((List Pack)×Int)→Option (List Pack):=loop (jK a1 x5 x7)
noncomputable def kI (a1:(List Pack)) (a2:(List Int)) (a3:(List Int)) (a4:ByteArray):Option (List Pack):=
 (uP a1 a2 a4).bind fun x5=>
 (uP a1 a3 a4).bind fun x7=>
 (zB0 a1 x5 x7 (([]:List Pack),0)).bind fun v28=>
 some v28
noncomputable def zCs (x5:(List Pack)) (s12:((List ByteArray)×Int)):Option (Lp ((List ByteArray)×Int) (List ByteArray)):=
 if decide (s12.2< (x5.length:Int)) then
  ((idx x5 s12.2).bind fun x14=>
  (app 16 s12.1 x14.Provides).bind fun x16=>
  some (Lp.go (x16,w64 (s12.2+1))))
 else
  (some (Lp.done s12.1))
noncomputable def zCT (x5:(List Pack)):((List ByteArray)×Int)→Option (List ByteArray):=loop (zCs x5)
noncomputable def kT (a1:(List Pack)) (a2:(List Int)) (a3:(List Int)) (a4:ByteArray):Option (List ByteArray):=
 (kI a1 a2 a3 a4).bind fun x5=>
 (zCT x5 ([a4],0)).bind fun v18=>
 (uZ v18).bind fun x19=>
 some x19
noncomputable def kZ (a1:Int):Option (List Term):=if 0≤a1∧a1*64≤140737488355328∧a1≤4611686018427387904 then some [] else none
noncomputable def uJ (a1:(List (List Term))) (s19:((List Term)×Int)):Option (Lp ((List Term)×Int) (List Term)):=
 if decide (s19.2< (a1.length:Int)) then
  ((idx a1 s19.2).bind fun x21=>
  (app 64 s19.1 x21).bind fun x23=>
  some (Lp.go (x23,w64 (s19.2+1))))
 else
  (some (Lp.done s19.1))
noncomputable def uR (a1:(List (List Term))):((List Term)×Int)→Option (List Term):=loop (uJ a1)
noncomputable def uK (a1:(List (List Term))) (s6:(Int×Int)):Option (Lp (Int×Int) Int):=
 if decide (s6.2< (a1.length:Int)) then
  ((idx a1 s6.2).bind fun x8=>
  if decide ((w64 (s6.1+(x8.length:Int)))<0) then
   (none)
  else
   (some (Lp.go (w64 (s6.1+(x8.length:Int)),w64 (s6.2+1)))))
 else
  (some (Lp.done s6.1))
noncomputable def uT (a1:(List (List Term))):(Int×Int)→Option Int:=loop (uK a1)
noncomputable def vY (a1:(List (List Term))):Option (List Term):=
 (uT a1 (0,0)).bind fun v11=>
 (kZ v11).bind fun x12=>
 (uR a1 (x12,0)).bind fun v25=>
 some v25
noncomputable def jX (x4:(List Term)) (s11:((List ByteArray)×Int)):Option (Lp ((List ByteArray)×Int) (List ByteArray)):=
 if decide (s11.2< (x4.length:Int)) then
  ((idx x4 s11.2).bind fun x13=>
  (app 16 s11.1 [x13.Name]).bind fun x15=>
  some (Lp.go (x15,w64 (s11.2+1))))
 else
  (some (Lp.done s11.1))
noncomputable def kP (x4:(List Term)):((List ByteArray)×Int)→Option (List ByteArray):=loop (jX x4)
noncomputable def vT (a1:Pack):Option (List ByteArray):=
 (vY a1.Needs).bind fun x2=>
 (app 64 x2 a1.Bars).bind fun x4=>
 (kP x4 (([]:List ByteArray),0)).bind fun v17=>
 (uZ v17).bind fun x18=>
 some x18
noncomputable def tC (a1:ByteArray) (a2:(List ByteArray)):Option Bool:=
 (yA a2 a1).bind fun x3=>
 some x3
noncomputable def yJ (a1:(List ByteArray)) (a2:(List ByteArray)) (s9:Int):Option (Lp Int (Fl Int Unit)):=
 if decide (s9< (a1.length:Int)) then
  ((idx a1 s9).bind fun x11=>
  (tC x11 a2).bind fun x13=>
  if x13 then
   (some (Lp.done (Fl.ret s9)))
  else
   (some (Lp.go (w64 (s9+1)))))
 else
  (some (Lp.done (Fl.nxt ())))
noncomputable def xZ (a1:(List ByteArray)) (a2:(List ByteArray)):Int→Option (Fl Int Unit):=loop (yJ a1 a2)
noncomputable def yX (a1:(List ByteArray)) (a2:(List ByteArray)):Option Int:=
 (xZ a1 a2 0).bind (Fl.go some fun v16=>
 some (-1))
noncomputable def zW (a1:(List ByteArray)) (a2:(List ByteArray)):Option Bool:=
 (yX a1 a2).bind fun x3=>
 some (decide (x3≥0))
noncomputable def jQ (a1:Pack) (a2:(List ByteArray)):Option Bool:=
 (vT a1).bind fun x3=>
 (zW x3 a2).bind fun x5=>
 some x5
noncomputable def yK (a1:(List Pack)) (a2:(List ByteArray)) (s9:Int):Option (Lp Int (Fl Int Unit)):=
 if decide (s9< (a1.length:Int)) then
  ((idx a1 s9).bind fun x11=>
  (jQ x11 a2).bind fun x13=>
  if x13 then
   (some (Lp.done (Fl.ret s9)))
  else
   (some (Lp.go (w64 (s9+1)))))
 else
  (some (Lp.done (Fl.nxt ())))
noncomputable def xY (a1:(List Pack)) (a2:(List ByteArray)):Int→Option (Fl Int Unit):=loop (yK a1 a2)
noncomputable def yZ (a1:(List Pack)) (a2:(List ByteArray)):Option Int:=
 (xY a1 a2 0).bind (Fl.go some fun v16=>
 some (-1))
noncomputable def zX (a1:(List Pack)) (a2:(List ByteArray)):Option Bool:=
 (yZ a1 a2).bind fun x3=>
 some (decide (x3≥0))
noncomputable def vR (a1:ByteArray) (a2:(List ByteArray)) (a3:(List Pack)) (a4:(List Int)) (a5:(List Int)):Option Bool:=
 (kI a3 a4 a5 a1).bind fun x6=>
 (zX x6 a2).bind fun x8=>
 some x8
noncomputable def jR (a1:Term) (a2:(List ByteArray)):Option Bool:=
 (yA a2 a1.Name).bind fun x3=>
 some x3
noncomputable def yN (a1:(List Term)) (a2:(List ByteArray)) (s9:Int):Option (Lp Int (Fl Int Unit)):=
 if decide (s9< (a1.length:Int)) then
  ((idx a1 s9).bind fun x11=>
  (jR x11 a2).bind fun x13=>
  if x13 then
   (some (Lp.done (Fl.ret s9)))
  else
   (some (Lp.go (w64 (s9+1)))))
 else
  (some (Lp.done (Fl.nxt ())))
noncomputable def wE (a1:(List Term)) (a2:(List ByteArray)):Int→Option (Fl Int Unit):=loop (yN a1 a2)
noncomputable def xE (a1:(List Term)) (a2:(List ByteArray)):Option Int:=
 (wE a1 a2 0).bind (Fl.go some fun v16=>
 some (-1))
noncomputable def zY (a1:(List Term)) (a2:(List ByteArray)):Option Bool:=
 (xE a1 a2).bind fun x3=>
 some (decide (x3≥0))
noncomputable def vS (a1:(List ByteArray)) (a2:(List Term)):Option Bool:=
 (zY a2 a1).bind fun x3=>
 some x3
noncomputable def zAb (a1:(List Pack)) (x6:(List ByteArray)) (x8:(List ByteArray)) (x17:(List Int)) (s46:Int) (x50:Pack) (s62:Int):Option (Lp Int (Fl Bool Unit)):=
 if decide (s62< (x50.Needs.length:Int)) then
  ((idx x50.Needs s62).bind fun x64=>
  (vS x6 x64).bind fun x66=>
  (if x66 then
    ((vS x8 x64).bind fun x69=>
    some x69)
   else
    (some false)).bind fun v71=>
  if v71 then
   (some (Lp.done (Fl.ret true)))
  else
   (some (Lp.go (w64 (s62+1)))))
 else
  (some (Lp.done (Fl.nxt ())))
noncomputable def zA2 (a1:(List Pack)) (x6:(List ByteArray)) (x8:(List ByteArray)) (x17:(List Int)) (s46:Int) (x50:Pack):Int→Option (Fl Bool Unit):=loop (zAb a1 x6 x8 x17 s46 x50)
noncomputable def jT (a1:(List Pack)) (x6:(List ByteArray)) (x8:(List ByteArray)) (x17:(List Int)) (s46:Int):Option (Lp Int (Fl Bool Unit)):=
 if decide (s46< (x17.length:Int)) then
  ((idx x17 s46).bind fun x48=>
  (idx a1 x48).bind fun x50=>
  (zA2 a1 x6 x8 x17 s46 x50 0).bind (Fl.go (fun r=>some (Lp.done (Fl.ret r))) fun v73=>
  some (Lp.go (w64 (s46+1)))))
 else
  (some (Lp.done (Fl.nxt ())))
noncomputable def zA3 (a1:(List Pack)) (x6:(List ByteArray)) (x8:(List ByteArray)) (x17:(List Int)):Int→Option (Fl Bool Unit):=loop (jT a1 x6 x8 x17)
noncomputable def wZ (a1:(List Pack)) (a2:(List Int)) (a3:(List Int)) (a4:ByteArray) (a5:ByteArray):Option Bool:=
 (kT a1 a2 a3 a4).bind fun x6=>
 (kT a1 a2 a3 a5).bind fun x8=>
 (vR a4 x8 a1 a2 a3).bind fun x10=>
 (if x10 then
   (some true)
  else
   ((vR a5 x6 a1 a2 a3).bind fun x13=>
   some x13)).bind fun v15=>
 if v15 then
  (some true)
 else
  ((vK [a2,a3]).bind fun x17=>
  (zA3 a1 x6 x8 x17 0).bind (Fl.go some fun v74=>
  some false))
noncomputable def zCy (a1:(List Pack)) (a2:(List Int)) (a3:(List Int)) (s133:((List (List ByteArray))×(List ByteArray))) (s226:((List ByteArray)×(List ByteArray)×Int)) (s241:((List ByteArray)×(List ByteArray)×Int)):Option (Lp ((List ByteArray)×(List ByteArray)×Int) ((List ByteArray)×(List ByteArray))):=
 if decide (s241.2.2< (s226.1.length:Int)) then
  ((idx s226.1 s241.2.2).bind fun x243=>
  (idx s241.1 s226.2.2).bind fun x245=>
  (wZ a1 a2 a3 x245 x243).bind fun x247=>
  (if x247 then
    ((app 16 s241.1 [x243]).bind fun x250=>
    some (x250,s241.2.1))
   else
    ((app 16 s241.2.1 [x243]).bind fun x252=>
    some (s241.1,x252))).bind fun v254=>
  some (Lp.go (v254.1,v254.2,w64 (s241.2.2+1))))
 else
  (some (Lp.done (s241.1,s241.2.1)))
noncomputable def zBH (a1:(List Pack)) (a2:(List Int)) (a3:(List Int)) (s133:((List (List ByteArray))×(List ByteArray))) (s226:((List ByteArray)×(List ByteArray)×Int)):((List ByteArray)×(List ByteArray)×Int)→Option ((List ByteArray)×(List ByteArray)):=loop (zCy a1 a2 a3 s133 s226)
noncomputable def zD3 (a1:(List Pack)) (a2:(List Int)) (a3:(List Int)) (s133:((List (List ByteArray))×(List ByteArray))) (s226:((List ByteArray)×(List ByteArray)×Int)):Option (Lp ((List ByteArray)×(List ByteArray)×Int) ((List ByteArray)×(List ByteArray))):=
 if decide (s226.2.2< (s226.2.1.length:Int)) then
  ((zBH a1 a2 a3 s133 s226 (s226.2.1,([]:List ByteArray),0)).bind fun v255=>
  some (Lp.go (v255.2,v255.1,w64 (s226.2.2+1))))
 else
  (some (Lp.done (s226.1,s226.2.1)))
noncomputable def zB2 (a1:(List Pack)) (a2:(List Int)) (a3:(List Int)) (s133:((List (List ByteArray))×(List ByteArray))):((List ByteArray)×(List ByteArray)×Int)→Option ((List ByteArray)×(List ByteArray)):=loop (zD3 a1 a2 a3 s133)
noncomputable def zCm (a1:(List Pack)) (a2:(List Int)) (a3:(List Int)) (s133:((List (List ByteArray))×(List ByteArray))) (x137:(List ByteArray)) (s182:((List ByteArray)×(List ByteArray)×Int)):Option (Lp ((List ByteArray)×(List ByteArray)×Int) ((List ByteArray)×(List ByteArray))):=
 if decide (s182.2.2< (x137.length:Int)) then
  ((zK0 s133.2 1 x137.length s182.2.2).bind fun x184=>
  (idx s182.1 0).bind fun x186=>
  (wZ a1 a2 a3 x186 x184).bind fun x188=>
  (if x188 then
    ((app 16 s182.1 [x184]).bind fun x191=>
    some (x191,s182.2.1))
   else
    ((app 16 s182.2.1 [x184]).bind fun x193=>
    some (s182.1,x193))).bind fun v195=>
  some (Lp.go (v195.1,v195.2,w64 (s182.2.2+1))))
 else
  (some (Lp.done (s182.1,s182.2.1)))
noncomputable def zBA (a1:(List Pack)) (a2:(List Int)) (a3:(List Int)) (s133:((List (List ByteArray))×(List ByteArray))) (x137:(List ByteArray)):((List ByteArray)×(List ByteArray)×Int)→Option ((List ByteArray)×(List ByteArray)):=loop (zCm a1 a2 a3 s133 x137)
noncomputable def zCq (a1:(List Pack)) (a2:(List Int)) (a3:(List Int)) (s133:((List (List ByteArray))×(List ByteArray))):Option (Lp ((List (List ByteArray))×(List ByteArray)) (List (List ByteArray))):=
 if decide ((s133.2.length:Int)>0) then
  ((zEE s133.2 0 1).bind fun x135=>
  (zEE s133.2 1 (s133.2.length:Int)).bind fun x137=>
  if decide (0< (x135.length:Int)) then
   ((zBA a1 a2 a3 s133 x137 (x135,([]:List ByteArray),0)).bind fun v196=>
   (zB2 a1 a2 a3 s133 (v196.2,v196.1,w64 (0+1))).bind fun v256=>
   (uZ v256.2).bind fun x257=>
   (app 24 s133.1 [x257]).bind fun x259=>
   some (Lp.go (x259,v256.1)))
  else
   (none))
 else
  (some (Lp.done s133.1))
noncomputable def kU (a1:(List Pack)) (a2:(List Int)) (a3:(List Int)):((List (List ByteArray))×(List ByteArray))→Option (List (List ByteArray)):=loop (zCq a1 a2 a3)
noncomputable def kM (a1:(List Pack)) (a2:(List Int)) (a3:(List Int)):Option (List (List ByteArray)):=
 (zAY a1 a2 a3).bind fun x4=>
 (kU a1 a2 a3 (([]:List (List ByteArray)),x4)).bind fun v261=>
 some v261
noncomputable def wK (a1:(List Int)):Option (List Int):=
 (app 8 ([]:List Int) a1).bind fun x3=>
 some x3
noncomputable def zAZ (a1:Int) (a2:(List ByteArray)) (a3:(List Pack)):Option Bool:=
 (idx a3 a1).bind fun x4=>
 (yA a2 x4.Name).bind fun x6=>
 some x6
noncomputable def uD (a1:Int) (a2:(List ByteArray)) (a3:(List Pack)):Option Bool:=
 (zAZ a1 a2 a3).bind fun x4=>
 some (!x4)
noncomputable def zT (a1:Int) (a2:(List ByteArray)) (a3:(List Pack)):Option Bool:=
 (uD a1 a2 a3).bind fun x4=>
 some (!x4)
noncomputable def zQ (a1:(List Int)) (a2:(List ByteArray)) (a3:(List Pack)) (s10:Int):Option (Lp Int (Fl Int Unit)):=
 if decide (s10< (a1.length:Int)) then
  ((idx a1 s10).bind fun x12=>
  (zT x12 a2 a3).bind fun x14=>
  if x14 then
   (some (Lp.done (Fl.ret s10)))
  else
   (some (Lp.go (w64 (s10+1)))))
 else
  (some (Lp.done (Fl.nxt ())))
noncomputable def yC (a1:(List Int)) (a2:(List ByteArray)) (a3:(List Pack)):Int→Option (Fl Int Unit):=loop (zQ a1 a2 a3)
noncomputable def zR (a1:(List Int)) (a2:(List ByteArray)) (a3:(List Pack)):Option Int:=
 (yC a1 a2 a3 0).bind (Fl.go some fun v17=>
 some (-1))
noncomputable def zN (a2:(List ByteArray)) (a3:(List Pack)) (s16:((List Int)×Int×Int)):Option (Lp ((List Int)×Int×Int) ((List Int)×Int)):=
 if decide (s16.2.2< (s16.1.length:Int)) then
  ((idx s16.1 s16.2.2).bind fun x18=>
  (zT x18 a2 a3).bind fun x20=>
  (if !x20 then
    ((idx s16.1 s16.2.1).bind fun x23=>
    some (s16.1.set s16.2.1.toNat x18,w64 (s16.2.1+1)))
   else
    (some (s16.1,s16.2.1))).bind fun v25=>
  some (Lp.go (v25.1,v25.2,w64 (s16.2.2+1))))
 else
  (some (Lp.done (s16.1,s16.2.1)))
noncomputable def zZ (a2:(List ByteArray)) (a3:(List Pack)):((List Int)×Int×Int)→Option ((List Int)×Int):=loop (zN a2 a3)
noncomputable def zK (a1:(List Int)) (a2:(List ByteArray)) (a3:(List Pack)):Option (List Int):=
 (zR a1 a2 a3).bind fun x4=>
 if x4==(-1) then
  (some a1)
 else
  ((zZ a2 a3 (a1,x4,w64 (x4+1))).bind fun v26=>
  (zEE v26.1 v26.2 (v26.1.length:Int)).bind fun x27=>
  (zLI v26.1 v26.2 x27.length 0).bind fun x29=>
  (zEE x29 0 v26.2).bind fun x31=>
  some x31)
noncomputable def xB (a1:(List Int)) (a2:(List ByteArray)) (a3:(List Pack)):Option (List Int):=
 (wK a1).bind fun x4=>
 (zK x4 a2 a3).bind fun x6=>
 some x6
noncomputable def wO (a1:Int) (a2:(List ByteArray)) (a3:(List Pack)):Option Bool:=
 (zAZ a1 a2 a3).bind fun x4=>
 some (!x4)
noncomputable def yF (a1:(List Int)) (a2:(List ByteArray)) (a3:(List Pack)) (s10:Int):Option (Lp Int (Fl Int Unit)):=
 if decide (s10< (a1.length:Int)) then
  ((idx a1 s10).bind fun x12=>
  (wO x12 a2 a3).bind fun x14=>
  if x14 then
   (some (Lp.done (Fl.ret s10)))
  else
   (some (Lp.go (w64 (s10+1)))))
 else
  (some (Lp.done (Fl.nxt ())))
noncomputable def xU (a1:(List Int)) (a2:(List ByteArray)) (a3:(List Pack)):Int→Option (Fl Int Unit):=loop (yF a1 a2 a3)
noncomputable def yQ (a1:(List Int)) (a2:(List ByteArray)) (a3:(List Pack)):Option Int:=
 (xU a1 a2 a3 0).bind (Fl.go some fun v17=>
 some (-1))
noncomputable def yD (a2:(List ByteArray)) (a3:(List Pack)) (s16:((List Int)×Int×Int)):Option (Lp ((List Int)×Int×Int) ((List Int)×Int)):=
 if decide (s16.2.2< (s16.1.length:Int)) then
  ((idx s16.1 s16.2.2).bind fun x18=>
  (wO x18 a2 a3).bind fun x20=>
  (if !x20 then
    ((idx s16.1 s16.2.1).bind fun x23=>
    some (s16.1.set s16.2.1.toNat x18,w64 (s16.2.1+1)))
   else
    (some (s16.1,s16.2.1))).bind fun v25=>
  some (Lp.go (v25.1,v25.2,w64 (s16.2.2+1))))
 else
  (some (Lp.done (s16.1,s16.2.1)))
noncomputable def xO (a2:(List ByteArray)) (a3:(List Pack)):((List Int)×Int×Int)→Option ((List Int)×Int):=loop (yD a2 a3)
noncomputable def zV (a1:(List Int)) (a2:(List ByteArray)) (a3:(List Pack)):Option (List Int):=
 (yQ a1 a2 a3).bind fun x4=>
 if x4==(-1) then
  (some a1)
 else
  ((xO a2 a3 (a1,x4,w64 (x4+1))).bind fun v26=>
  (zEE v26.1 v26.2 (v26.1.length:Int)).bind fun x27=>
  (zLI v26.1 v26.2 x27.length 0).bind fun x29=>
  (zEE x29 0 v26.2).bind fun x31=>
  some x31)
noncomputable def vW (a1:(List Int)) (a2:(List ByteArray)) (a3:(List Pack)):Option (List Int):=
 (wK a1).bind fun x4=>
 (zV x4 a2 a3).bind fun x6=>
 some x6
noncomputable def tO (a1:List Int):Option (List Int):=if a1.length≤4611686018427387903 then some (a1.mergeSort fun x y=>decide (x≤y)) else none
noncomputable def jZ (a1:(List Pack)) (a2:(List Int)) (a3:(List Int)) (a4:(List ByteArray)):Option (List Int):=
 (xB a2 a4 a1).bind fun x5=>
 (vW a3 a4 a1).bind fun x7=>
 (app 8 x5 x7).bind fun x9=>
 (tO x9).bind fun x11=>
 (same x11 x9).bind fun u13=>
 some x11
noncomputable def zAF (a1:(List ByteArray)) (a2:(List Pack)) (a3:(List Int)) (a4:(List Int)):Option Bool:=
 if decide ((a1.length:Int)≤24) then
  ((jZ a2 a3 a4 a1).bind fun x6=>
  (xQ a2 x6).bind fun x8=>
  some x8)
 else
  (some false)
noncomputable def vL (a1:(List ByteArray)):Option (List ByteArray):=
 (app 16 ([]:List ByteArray) a1).bind fun x3=>
 some x3
noncomputable def cmp_isNaN_string (a1:ByteArray):Option Bool:=
 some (!(seq a1 a1))
noncomputable def jP (a1:ByteArray) (a2:ByteArray):Option Int:=
 (cmp_isNaN_string a1).bind fun x3=>
 (cmp_isNaN_string a2).bind fun x5=>
 if x3 then
  (if x5 then
   (some 0)
  else
   (some (-1)))
 else
  (if x5 then
   (some 1)
  else
   (if slt a1 a2 then
    (some (-1))
   else
    (if !(slt a1 a2||seq a1 a2) then
     (some 1)
    else
     (some 0))))
noncomputable def uQ (a1:(List ByteArray)) (a2:(List ByteArray)) (s12:Int):Option (Lp Int (Fl Int Unit)):=
 if decide (s12< (a1.length:Int)) then
  ((idx a1 s12).bind fun x14=>
  if decide (s12≥(a2.length:Int)) then
   (some (Lp.done (Fl.ret 1)))
  else
   ((idx a2 s12).bind fun x17=>
   (jP x14 x17).bind fun x19=>
   if x19 !=0 then
    (some (Lp.done (Fl.ret x19)))
   else
    (some (Lp.go (w64 (s12+1))))))
 else
  (some (Lp.done (Fl.nxt ())))
noncomputable def tN (a1:(List ByteArray)) (a2:(List ByteArray)):Int→Option (Fl Int Unit):=loop (uQ a1 a2)
noncomputable def uE (a1:(List ByteArray)) (a2:(List ByteArray)):Option Int:=
 (tN a1 a2 0).bind (Fl.go some fun v22=>
 if decide ((a1.length:Int)< (a2.length:Int)) then
  (some (-1))
 else
  (some 0))
noncomputable def wV (a1:(List ByteArray)) (a2:(List ByteArray)):Option Int:=
 if (a1.length:Int) !=(a2.length:Int) then
  (some (w64 ((a1.length:Int)-(a2.length:Int))))
 else
  ((uE a1 a2).bind fun x4=>
  some x4)
noncomputable def wX (a1:(List (List ByteArray))):Option (List (List ByteArray)):=zJd wV a1
noncomputable def zAx (a1:(List ByteArray)) (a2:(List Pack)) (a3:(List Int)) (a4:(List Int)):Option Bool:=
 if decide ((a1.length:Int)≤24) then
  ((jZ a2 a3 a4 a1).bind fun x6=>
  (xQ a2 x6).bind fun x8=>
  some x8)
 else
  (some false)
noncomputable def xD (a1:(List (List ByteArray))) (a2:(List Pack)) (a3:(List Int)) (a4:(List Int)) (s11:Int):Option (Lp Int (Fl Int Unit)):=
 if decide (s11< (a1.length:Int)) then
  ((idx a1 s11).bind fun x13=>
  (zAx x13 a2 a3 a4).bind fun x15=>
  if x15 then
   (some (Lp.done (Fl.ret s11)))
  else
   (some (Lp.go (w64 (s11+1)))))
 else
  (some (Lp.done (Fl.nxt ())))
noncomputable def xK (a1:(List (List ByteArray))) (a2:(List Pack)) (a3:(List Int)) (a4:(List Int)):Int→Option (Fl Int Unit):=loop (xD a1 a2 a3 a4)
noncomputable def yS (a1:(List (List ByteArray))) (a2:(List Pack)) (a3:(List Int)) (a4:(List Int)):Option Int:=
 (xK a1 a2 a3 a4 0).bind (Fl.go some fun v18=>
 some (-1))
noncomputable def zBg (a1:(List Pack)) (a2:(List Int)) (a3:(List Int)) (a4:(List ByteArray)) (s34:((List (List ByteArray))×Int)) (s45:((List ByteArray)×Int)):Option (Lp ((List ByteArray)×Int) (List ByteArray)):=
 if decide (s45.2< (a4.length:Int)) then
  ((idx a4 s45.2).bind fun x47=>
  (zPa .i64 s34.2 s45.2).bind fun x49=>
  (if (zPk .i64 x49 1)==1 then
    ((app 16 s45.1 [x47]).bind fun x52=>
    some x52)
   else
    (some s45.1)).bind fun v54=>
  some (Lp.go (v54,w64 (s45.2+1))))
 else
  (some (Lp.done s45.1))
noncomputable def zAw (a1:(List Pack)) (a2:(List Int)) (a3:(List Int)) (a4:(List ByteArray)) (s34:((List (List ByteArray))×Int)):((List ByteArray)×Int)→Option (List ByteArray):=loop (zBg a1 a2 a3 a4 s34)
noncomputable def zBd (a1:(List Pack)) (a2:(List Int)) (a3:(List Int)) (a4:(List ByteArray)) (s34:((List (List ByteArray))×Int)):Option (Lp ((List (List ByteArray))×Int) (List (List ByteArray))):=
 (zOX .i64 1 (a4.length:Int)).bind fun x35=>
 if decide (s34.2< (w64 (x35-1))) then
  ((zAw a1 a2 a3 a4 s34 (([]:List ByteArray),0)).bind fun v55=>
  (app 24 s34.1 [v55]).bind fun x56=>
  some (Lp.go (x56,w64 (s34.2+1))))
 else
  (some (Lp.done s34.1))
noncomputable def zAy (a1:(List Pack)) (a2:(List Int)) (a3:(List Int)) (a4:(List ByteArray)):((List (List ByteArray))×Int)→Option (List (List ByteArray)):=loop (zBd a1 a2 a3 a4)
noncomputable def zBm (a1:(List Pack)) (a2:(List Int)) (a3:(List Int)) (a4:(List ByteArray)):Option ((List ByteArray)×Bool):=
 (zAF a4 a1 a2 a3).bind fun x5=>
 if !x5 then
  (some (([]:List ByteArray),false))
 else
  (if decide ((a4.length:Int)>6) then
   ((vL a4).bind fun x9=>
   some (x9,true))
  else
   ((zAy a1 a2 a3 a4 (([]:List (List ByteArray)),1)).bind fun v58=>
   (wX v58).bind fun x59=>
   (same x59 v58).bind fun u61=>
   (yS x59 a1 a2 a3).bind fun x63=>
   if decide (x63≥0) then
    ((idx x59 x63).bind fun x66=>
    (zO9 (x59.map some) x63).bind fun x68=>
    some (x68,true))
   else
    ((vL a4).bind fun x70=>
    some (x70,true))))
noncomputable def zEf (a1:ByteArray) (a2:(List ByteArray)):Option Bool:=
 (yA a2 a1).bind fun x3=>
 some x3
noncomputable def wG (a1:(List ByteArray)) (a2:(List ByteArray)) (s9:Int):Option (Lp Int (Fl Int Unit)):=
 if decide (s9< (a1.length:Int)) then
  ((idx a1 s9).bind fun x11=>
  (zEf x11 a2).bind fun x13=>
  if x13 then
   (some (Lp.done (Fl.ret s9)))
  else
   (some (Lp.go (w64 (s9+1)))))
 else
  (some (Lp.done (Fl.nxt ())))
noncomputable def vC (a1:(List ByteArray)) (a2:(List ByteArray)):Int→Option (Fl Int Unit):=loop (wG a1 a2)
noncomputable def wS (a1:(List ByteArray)) (a2:(List ByteArray)):Option Int:=
 (vC a1 a2 0).bind (Fl.go some fun v16=>
 some (-1))
noncomputable def xX (a2:(List ByteArray)) (s15:((List ByteArray)×Int×Int)):Option (Lp ((List ByteArray)×Int×Int) ((List ByteArray)×Int)):=
 if decide (s15.2.2< (s15.1.length:Int)) then
  ((idx s15.1 s15.2.2).bind fun x17=>
  (zEf x17 a2).bind fun x19=>
  (if !x19 then
    ((idx s15.1 s15.2.1).bind fun x22=>
    some (s15.1.set s15.2.1.toNat x17,w64 (s15.2.1+1)))
   else
    (some (s15.1,s15.2.1))).bind fun v24=>
  some (Lp.go (v24.1,v24.2,w64 (s15.2.2+1))))
 else
  (some (Lp.done (s15.1,s15.2.1)))
noncomputable def wY (a2:(List ByteArray)):((List ByteArray)×Int×Int)→Option ((List ByteArray)×Int):=loop (xX a2)
noncomputable def xR (a1:(List ByteArray)) (a2:(List ByteArray)):Option (List ByteArray):=
 (wS a1 a2).bind fun x3=>
 if x3==(-1) then
  (some a1)
 else
  ((wY a2 (a1,x3,w64 (x3+1))).bind fun v25=>
  (zEE v25.1 v25.2 (v25.1.length:Int)).bind fun x26=>
  (zLI v25.1 v25.2 x26.length ByteArray.empty).bind fun x28=>
  (zEE x28 0 v25.2).bind fun x30=>
  some x30)
noncomputable def zDk (a1:(List Pack)) (a3:(List Int)) (x7:(List (List ByteArray))) (s77:((List (List ByteArray))×(List (List Int))×(List Int)×(List (Option (List ByteArray)))×Int)) (s95:((List (List ByteArray))×(List (List Int))×(List Int)×(List ByteArray))):Option (Lp ((List (List ByteArray))×(List (List Int))×(List Int)×(List ByteArray)) (Fl ((List (List ByteArray))×(List (List Int))×Int) ((List (List ByteArray))×(List (List Int))×(List Int)))):=
 if decide ((s95.2.2.2.length:Int)>0) then
  ((zBm a1 s95.2.2.1 a3 s95.2.2.2).bind fun x97=>
  if !x97.2 then
   (some (Lp.done (Fl.ret (([]:List (List ByteArray)),([]:List (List Int)),4))))
  else
   ((jZ a1 s95.2.2.1 a3 x97.1).bind fun x100=>
   (xR s95.2.2.2 x97.1).bind fun x102=>
   (app 24 s95.1 [x97.1]).bind fun x104=>
   (wK x100).bind fun x106=>
   (app 24 s95.2.1 [x106]).bind fun x108=>
   some (Lp.go (x104,x108,x100,x102))))
 else
  (some (Lp.done (Fl.nxt (s95.1,s95.2.1,s95.2.2.1))))
noncomputable def zCI (a1:(List Pack)) (a3:(List Int)) (x7:(List (List ByteArray))) (s77:((List (List ByteArray))×(List (List Int))×(List Int)×(List (Option (List ByteArray)))×Int)):((List (List ByteArray))×(List (List Int))×(List Int)×(List ByteArray))→Option (Fl ((List (List ByteArray))×(List (List Int))×Int) ((List (List ByteArray))×(List (List Int))×(List Int))):=loop (zDk a1 a3 x7 s77)
noncomputable def zDR (a1:(List Pack)) (a3:(List Int)) (x7:(List (List ByteArray))) (s77:((List (List ByteArray))×(List (List Int))×(List Int)×(List (Option (List ByteArray)))×Int)):Option (Lp ((List (List ByteArray))×(List (List Int))×(List Int)×(List (Option (List ByteArray)))×Int) (Fl ((List (List ByteArray))×(List (List Int))×Int) ((List (List ByteArray))×(List (List Int))))):=
 if decide (s77.2.2.2.2< (x7.length:Int)) then
  ((zO9 s77.2.2.2.1 s77.2.2.2.2).bind fun x79=>
  (zCI a1 a3 x7 s77 (s77.1,s77.2.1,s77.2.2.1,x79)).bind (Fl.go (fun r=>some (Lp.done (Fl.ret r))) fun v110=>
  some (Lp.go (v110.1,v110.2.1,v110.2.2,s77.2.2.2.1.set s77.2.2.2.2.toNat none,w64 (s77.2.2.2.2+1)))))
 else
  (some (Lp.done (Fl.nxt (s77.1,s77.2.1))))
noncomputable def zDG (a1:(List Pack)) (a3:(List Int)) (x7:(List (List ByteArray))):((List (List ByteArray))×(List (List Int))×(List Int)×(List (Option (List ByteArray)))×Int)→Option (Fl ((List (List ByteArray))×(List (List Int))×Int) ((List (List ByteArray))×(List (List Int)))):=loop (zDR a1 a3 x7)
noncomputable def zCH (a1:(List Pack)) (a2:(List Int)) (a3:(List Int)):Option ((List (List ByteArray))×(List (List Int))×Int):=
 (zBW a1 a2 a3).bind fun x4=>
 if x4 !=0 then
  (some (([]:List (List ByteArray)),([]:List (List Int)),x4))
 else
  ((kM a1 a2 a3).bind fun x7=>
  (zDG a1 a3 x7 (([]:List (List ByteArray)),([]:List (List Int)),a2,(x7.map some),0)).bind (Fl.go some fun v111=>
  some (v111.1,v111.2,0)))
noncomputable def zEc (a1:(List Pack)) (a2:(List Int)) (a3:(List Int)):Option wP:=
 (zCH a1 a2 a3).bind fun x4=>
 some ({Code:=x4.2.2,Sets:=x4.2.1}:wP)
noncomputable def zC1 (a1:(List Pack)) (a2:(List Int)) (a3:(List Int)):Option yB:=
 (zCH a1 a2 a3).bind fun x4=>
 some ({Code:=x4.2.2,Parts:=x4.1}:yB)
noncomputable def zDn (a1:(List Pack)) (a2:(List Int)) (s16:Int):Option (Lp Int (Fl Bool Unit)):=
 if decide (s16< (a2.length:Int)) then
  ((idx a2 s16).bind fun x18=>
  (tY x18 0 (w64 ((a1.length:Int)-1))).bind fun x20=>
  (if !x20 then
    (some true)
   else
    (if decide (s16>0) then
     ((idx a2 s16).bind fun x24=>
     (idx a2 (w64 (s16-1))).bind fun x26=>
     some (decide (x24≤x26)))
    else
     (some false))).bind fun v28=>
  if v28 then
   (some (Lp.done (Fl.ret false)))
  else
   (some (Lp.go (w64 (s16+1)))))
 else
  (some (Lp.done (Fl.nxt ())))
noncomputable def zDI (a1:(List Pack)) (a2:(List Int)):Int→Option (Fl Bool Unit):=loop (zDn a1 a2)
noncomputable def zEg (a1:(List Pack)) (a2:(List Int)):Option Bool:=
 (zDI a1 a2 0).bind (Fl.go some fun v30=>
 some true)
noncomputable def zAi (a1:(List Pack)) (a2:(List Int)):Option Int:=
 (vF a1).bind fun x3=>
 if x3 !=0 then
  (some x3)
 else
  ((zEg a1 a2).bind fun x6=>
  if !x6 then
   (some 1)
  else
   (some 0))
noncomputable def zBn (a1:(List Pack)) (a2:(List Int)):Option Bool:=
 (jJ a1 a2).bind fun x3=>
 some ((x3.length:Int)==0)
noncomputable def zCU (a1:(List Pack)) (a2:(List Int)) (a3:(List Int)):Option Int:=
 (zAi a1 a2).bind fun x4=>
 if x4 !=0 then
  (some x4)
 else
  ((zAi a1 a3).bind fun x7=>
  if x7 !=0 then
   (some x7)
  else
   ((zBn a1 a2).bind fun x10=>
   (if !x10 then
     (some true)
    else
     ((zBn a1 a3).bind fun x13=>
     some (!x13))).bind fun v15=>
   if v15 then
    (some 1)
   else
    (some 0)))
noncomputable def zD8 (a1:(List Pack)) (a2:(List Int)) (a3:(List Int)):Option wP:=
 (zCU a1 a2 a3).bind fun x4=>
 if x4 !=0 then
  (some ({Code:=x4,Sets:=([]:List (List Int))}:wP))
 else
  (none)
noncomputable def zCw (a1:(List Pack)) (a2:(List Int)) (s13:Int):Option (Lp Int (Fl Bool Unit)):=
 if decide (s13< (a2.length:Int)) then
  ((idx a2 s13).bind fun x15=>
  (zEE a2 0 s13).bind fun x17=>
  (idx a1 x15).bind fun x19=>
  (uP a1 x17 x19.Name).bind fun x21=>
  if decide (x21≥0) then
   (some (Lp.done (Fl.ret true)))
  else
   (some (Lp.go (w64 (s13+1)))))
 else
  (some (Lp.done (Fl.nxt ())))
noncomputable def zCQ (a1:(List Pack)) (a2:(List Int)):Int→Option (Fl Bool Unit):=loop (zCw a1 a2)
noncomputable def zAn (a1:(List Pack)) (a2:(List Int)):Option Bool:=
 (zCQ a1 a2 0).bind (Fl.go some fun v24=>
 some false)
noncomputable def zBr (a1:(List Pack)) (a2:(List Int)) (a3:(List Int)):Option Int:=
 (xS a1 a2).bind fun x4=>
 (xS a1 a3).bind fun x6=>
 (vH [x4,x6]).bind fun x8=>
 (if x8==0 then
   ((zAn a1 a2).bind fun x11=>
   if x11 then
    (some true)
   else
    ((zAn a1 a3).bind fun x14=>
    some x14))
  else
   (some false)).bind fun v16=>
 (if v16 then
   (some 6)
  else
   (some x8)).bind fun v18=>
 some v18
noncomputable def zCB (a1:(List Pack)) (a2:(List Int)) (a3:(List Int)):Option yB:=
 (zBr a1 a2 a3).bind fun x4=>
 if x4 !=0 then
  (some ({Code:=x4,Parts:=([]:List (List ByteArray))}:yB))
 else
  ((kM a1 a2 a3).bind fun x7=>
  some ({Code:=0,Parts:=x7}:yB))
noncomputable def zBo (a1:(List Pack)) (a2:(List Int)) (a3:(List Int)) (a4:(List ByteArray)):Option zAc:=
 (xS a1 a2).bind fun x5=>
 (xS a1 a3).bind fun x7=>
 (vH [x5,x7]).bind fun x9=>
 (if x9==0 then
   (some (decide ((a4.length:Int)>24)))
  else
   (some false)).bind fun v12=>
 (if v12 then
   (some 2)
  else
   (some x9)).bind fun v14=>
 if v14 !=0 then
  (some ({Code:=v14,At:=0,Set:=([]:List Int)}:zAc))
 else
  ((jZ a1 a2 a3 a4).bind fun x16=>
  some ({Code:=0,At:=0,Set:=x16}:zAc))
noncomputable def zDW (a1:(List Int)) (a2:(List Int)) (s10:Int):Option (Lp Int (Fl Bool Unit)):=
 if decide (s10< (a1.length:Int)) then
  ((idx a1 s10).bind fun x12=>
  (idx a2 s10).bind fun x14=>
  if x12 !=x14 then
   (some (Lp.done (Fl.ret false)))
  else
   (some (Lp.go (w64 (s10+1)))))
 else
  (some (Lp.done (Fl.nxt ())))
noncomputable def zC0 (a1:(List Int)) (a2:(List Int)):Int→Option (Fl Bool Unit):=loop (zDW a1 a2)
noncomputable def zBl (a1:(List Int)) (a2:(List Int)):Option Bool:=
 if (a1.length:Int) !=(a2.length:Int) then
  (some false)
 else
  ((zC0 a1 a2 0).bind (Fl.go some fun v17=>
  some true))
noncomputable def zCe (a1:(List ByteArray)) (a2:ByteArray) (s7:Int):Option (Lp Int (Fl Bool Unit)):=
 if decide (s7< (a1.length:Int)) then
  ((idx a1 s7).bind fun x9=>
  if seq x9 a2 then
   (some (Lp.done (Fl.ret true)))
  else
   (some (Lp.go (w64 (s7+1)))))
 else
  (some (Lp.done (Fl.nxt ())))
noncomputable def zCD (a1:(List ByteArray)) (a2:ByteArray):Int→Option (Fl Bool Unit):=loop (zCe a1 a2)
noncomputable def zBc (a1:(List ByteArray)) (a2:ByteArray):Option Bool:=
 (zCD a1 a2 0).bind (Fl.go some fun v12=>
 some false)
noncomputable def jG (a1:(List Int)) (a2:(List Int)) (s10:Int):Option (Lp Int (Fl Bool Unit)):=
 if decide (s10< (a1.length:Int)) then
  ((idx a1 s10).bind fun x12=>
  (idx a2 s10).bind fun x14=>
  if x12 !=x14 then
   (some (Lp.done (Fl.ret false)))
  else
   (some (Lp.go (w64 (s10+1)))))
 else
  (some (Lp.done (Fl.nxt ())))
noncomputable def jV (a1:(List Int)) (a2:(List Int)):Int→Option (Fl Bool Unit):=loop (jG a1 a2)
noncomputable def tT (a1:(List Int)) (a2:(List Int)):Option Bool:=
 if (a1.length:Int) !=(a2.length:Int) then
  (some false)
 else
  ((jV a1 a2 0).bind (Fl.go some fun v17=>
  some true))
noncomputable def zAP (a1:(List Pack)) (a3:(List (List Int))) (s24:((List Int)×Int)):Option (Lp ((List Int)×Int) (Fl Bool Unit)):=
 if decide (s24.2< (a3.length:Int)) then
  ((idx a3 s24.2).bind fun x26=>
  (xS a1 x26).bind fun x28=>
  (if x28 !=0 then
    (some true)
   else
    ((xQ a1 x26).bind fun x31=>
    if !x31 then
     (some true)
    else
     ((tT x26 s24.1).bind fun x34=>
     some x34))).bind fun v36=>
  if v36 then
   (some (Lp.done (Fl.ret false)))
  else
   (some (Lp.go (x26,w64 (s24.2+1)))))
 else
  (some (Lp.done (Fl.nxt ())))
noncomputable def zBD (a1:(List Pack)) (a3:(List (List Int))):((List Int)×Int)→Option (Fl Bool Unit):=loop (zAP a1 a3)
noncomputable def kH (a1:(List Pack)) (a2:(List Int)) (a3:(List (List Int))):Option Bool:=
 (xS a1 a2).bind fun x4=>
 (if x4 !=0 then
   (some true)
  else
   ((xQ a1 a2).bind fun x7=>
   some (!x7))).bind fun v9=>
 if v9 then
  (some false)
 else
  ((zBD a1 a3 (a2,0)).bind (Fl.go some fun v38=>
  some true))
noncomputable def zA0 (a1:(List Pack)) (a2:(List Int)) (a3:(List Int)):Option zCf:=
 (zCH a1 a2 a3).bind fun x4=>
 if x4.2.2 !=0 then
  (some ({Code:=x4.2.2,Value:=0}:zCf))
 else
  ((kM a1 a2 a3).bind fun x7=>
  some ({Code:=0,Value:=(x7.length:Int)}:zCf))
noncomputable def zD5 (x5:((List Pack)×(List Int)×(List Int))) (x7:wP) (x9:yB) (x15:yB) (s199:((List Int)×Int)) (x212:(List Int)) (s251:(Int×Int)) (s274:Int):Option (Lp Int (Fl Bool Unit)):=
 (idx x9.Parts s199.2).bind fun x275=>
 if decide (s274< (x275.length:Int)) then
  ((idx x15.Parts s251.2).bind fun x278=>
  (idx x9.Parts s199.2).bind fun x280=>
  (idx x280 s274).bind fun x282=>
  (zBc x278 x282).bind fun x284=>
  if !x284 then
   (some (Lp.done (Fl.ret false)))
  else
   (some (Lp.go (w64 (s274+1)))))
 else
  (some (Lp.done (Fl.nxt ())))
noncomputable def zB1 (x5:((List Pack)×(List Int)×(List Int))) (x7:wP) (x9:yB) (x15:yB) (s199:((List Int)×Int)) (x212:(List Int)) (s251:(Int×Int)):Int→Option (Fl Bool Unit):=loop (zD5 x5 x7 x9 x15 s199 x212 s251)
noncomputable def zCb (x5:((List Pack)×(List Int)×(List Int))) (x7:wP) (x9:yB) (x15:yB) (s199:((List Int)×Int)) (x212:(List Int)) (s251:(Int×Int)):Option (Lp (Int×Int) (Fl Bool Int)):=
 if decide (s251.2< (x15.Parts.length:Int)) then
  ((idx x15.Parts s251.2).bind fun x253=>
  (idx x9.Parts s199.2).bind fun x255=>
  (idx x255 0).bind fun x257=>
  (zBc x253 x257).bind fun x259=>
  (if x259 then
    ((zB1 x5 x7 x9 x15 s199 x212 s251 0).bind (Fl.go (fun r=>some (Fl.ret (Lp.done (Fl.ret r)))) fun v287=>
    some (Fl.nxt (w64 (s251.1+1)))))
   else
    (some (Fl.nxt s251.1))).bind (Fl.go some fun v288=>
  some (Lp.go (v288,w64 (s251.2+1)))))
 else
  (some (Lp.done (Fl.nxt s251.1)))
noncomputable def zCM (x5:((List Pack)×(List Int)×(List Int))) (x7:wP) (x9:yB) (x15:yB) (s199:((List Int)×Int)) (x212:(List Int)):(Int×Int)→Option (Fl Bool Int):=loop (zCb x5 x7 x9 x15 s199 x212)
noncomputable def zCh (x5:((List Pack)×(List Int)×(List Int))) (x7:wP) (x9:yB) (x15:yB) (s199:((List Int)×Int)):Option (Lp ((List Int)×Int) (Fl Bool (List Int))):=
 if decide (s199.2< (x7.Sets.length:Int)) then
  ((if decide (s199.2≥(x9.Parts.length:Int)) then
     (some true)
    else
     ((idx x9.Parts s199.2).bind fun x202=>
     (zBo x5.1 s199.1 x5.2.2 x202).bind fun x204=>
     (idx x7.Sets s199.2).bind fun x206=>
     (zBl x204.Set x206).bind fun x208=>
     some (!x208))).bind fun v210=>
  if v210 then
   (some (Lp.done (Fl.ret false)))
  else
   ((idx x7.Sets s199.2).bind fun x212=>
   (zCM x5 x7 x9 x15 s199 x212 (0,0)).bind (Fl.go (fun r=>some (Lp.done (Fl.ret r))) fun v289=>
   if v289 !=1 then
    (some (Lp.done (Fl.ret false)))
   else
    (some (Lp.go (x212,w64 (s199.2+1)))))))
 else
  (some (Lp.done (Fl.nxt s199.1)))
noncomputable def zCS (x5:((List Pack)×(List Int)×(List Int))) (x7:wP) (x9:yB) (x15:yB):((List Int)×Int)→Option (Fl Bool (List Int)):=loop (zCh x5 x7 x9 x15)
noncomputable def zBL (a1:(List Int)):Option Bool:=
 (zDH a1).bind fun x2=>
 if x2 then
  (some true)
 else
  ((zA9 a1).bind fun x5=>
  (zEc x5.1 x5.2.1 x5.2.2).bind fun x7=>
  (zC1 x5.1 x5.2.1 x5.2.2).bind fun x9=>
  if x7.Code !=0 then
   ((zD8 x5.1 x5.2.1 x5.2.2).bind fun x12=>
   if x12.Code==x7.Code then
    (some (x9.Code==x7.Code))
   else
    (some false))
  else
   ((zCB x5.1 x5.2.1 x5.2.2).bind fun x15=>
   (zCS x5 x7 x9 x15 (x5.2.1,0)).bind (Fl.go some fun v291=>
   (kH x5.1 x5.2.1 x7.Sets).bind fun x292=>
   if x292 then
    ((zBl v291 x5.2.2).bind fun x295=>
    if x295 then
     ((zA0 x5.1 x5.2.1 x5.2.2).bind fun x298=>
     some (decide ((x7.Sets.length:Int)≥x298.Value)))
    else
     (some false))
   else
    (some false))))
noncomputable def zEj (a1:(List Pack)) (a2:(List Int)) (a3:ByteArray) (s12:Int):Option (Lp Int (Fl Int Unit)):=
 if decide (s12< (a2.length:Int)) then
  ((idx a2 s12).bind fun x14=>
  (idx a1 x14).bind fun x16=>
  if seq x16.Name a3 then
   ((idx a2 s12).bind fun x19=>
   some (Lp.done (Fl.ret x19)))
  else
   (some (Lp.go (w64 (s12+1)))))
 else
  (some (Lp.done (Fl.nxt ())))
noncomputable def zGn (a1:(List Pack)) (a2:(List Int)) (a3:ByteArray):Int→Option (Fl Int Unit):=loop (zEj a1 a2 a3)
noncomputable def zE2 (a1:(List Pack)) (a2:(List Int)) (a3:ByteArray):Option Int:=
 (zGn a1 a2 a3 0).bind (Fl.go some fun v21=>
 some (-1))
noncomputable def zDO (a1:(List ByteArray)) (a2:ByteArray) (s19:((List ByteArray)×Bool×Int)):Option (Lp ((List ByteArray)×Bool×Int) (Fl (List ByteArray) ((List ByteArray)×Bool))):=
 if decide (s19.2.2< (a1.length:Int)) then
  ((idx a1 s19.2.2).bind fun x21=>
  if seq x21 a2 then
   (some (Lp.done (Fl.ret a1)))
  else
   ((idx a1 s19.2.2).bind fun x24=>
   (if !(slt x24 a2||seq x24 a2) then
     (some (!s19.2.1))
    else
     (some false)).bind fun v27=>
   (if v27 then
     ((app 16 s19.1 [a2]).bind fun x29=>
     some (x29,true))
    else
     (some (s19.1,s19.2.1))).bind fun v31=>
   (idx a1 s19.2.2).bind fun x32=>
   (app 16 v31.1 [x32]).bind fun x34=>
   some (Lp.go (x34,v31.2,w64 (s19.2.2+1)))))
 else
  (some (Lp.done (Fl.nxt (s19.1,s19.2.1))))
noncomputable def zFT (a1:(List ByteArray)) (a2:ByteArray):((List ByteArray)×Bool×Int)→Option (Fl (List ByteArray) ((List ByteArray)×Bool)):=loop (zDO a1 a2)
noncomputable def zCE (a1:(List ByteArray)) (a2:ByteArray):Option (List ByteArray):=
 (zFT a1 a2 (([]:List ByteArray),false,0)).bind (Fl.go some fun v36=>
 (if !v36.2 then
   ((app 16 v36.1 [a2]).bind fun x38=>
   some x38)
  else
   (some v36.1)).bind fun v40=>
 some v40)
noncomputable def zC5 (a1:(List Pack)) (a2:(List Int)) (a3:(List Int)) (s15:((List ByteArray)×Int)):Option (Lp ((List ByteArray)×Int) (List ByteArray)):=
 if decide (s15.2< (a1.length:Int)) then
  ((idx a1 s15.2).bind fun x17=>
  (zE2 a1 a2 x17.Name).bind fun x19=>
  (zE2 a1 a3 x17.Name).bind fun x21=>
  (if x19 !=x21 then
    ((zCE s15.1 x17.Name).bind fun x24=>
    some x24)
   else
    (some s15.1)).bind fun v26=>
  some (Lp.go (v26,w64 (s15.2+1))))
 else
  (some (Lp.done s15.1))
noncomputable def zER (a1:(List Pack)) (a2:(List Int)) (a3:(List Int)):((List ByteArray)×Int)→Option (List ByteArray):=loop (zC5 a1 a2 a3)
noncomputable def zEl (a1:(List Pack)) (a2:(List Int)) (a3:(List Int)):Option (List ByteArray):=
 (zER a1 a2 a3 (([]:List ByteArray),0)).bind fun v27=>
 some v27
noncomputable def zFi (a1:(List Pack)) (a2:(List Int)) (a3:(List Int)) (a4:ByteArray):Option (List Pack):=
 (zE2 a1 a2 a4).bind fun x5=>
 (if decide (x5≥0) then
   ((idx a1 x5).bind fun x8=>
   (app 120 ([]:List Pack) [x8]).bind fun x10=>
   some x10)
  else
   (some ([]:List Pack))).bind fun v12=>
 (zE2 a1 a3 a4).bind fun x13=>
 (if decide (x13≥0) then
   ((idx a1 x13).bind fun x16=>
   (app 120 v12 [x16]).bind fun x18=>
   some x18)
  else
   (some v12)).bind fun v20=>
 some v20
noncomputable def zD6 (x5:(List Pack)) (s28:((List ByteArray)×Int)) (s39:((List ByteArray)×Int)):Option (Lp ((List ByteArray)×Int) (List ByteArray)):=
 (idx x5 s28.2).bind fun x40=>
 if decide (s39.2< (x40.Provides.length:Int)) then
  ((idx x5 s28.2).bind fun x43=>
  (idx x43.Provides s39.2).bind fun x45=>
  (zCE s39.1 x45).bind fun x47=>
  some (Lp.go (x47,w64 (s39.2+1))))
 else
  (some (Lp.done s39.1))
noncomputable def zFC (x5:(List Pack)) (s28:((List ByteArray)×Int)):((List ByteArray)×Int)→Option (List ByteArray):=loop (zD6 x5 s28)
noncomputable def zD1 (x5:(List Pack)) (s28:((List ByteArray)×Int)):Option (Lp ((List ByteArray)×Int) (List ByteArray)):=
 if decide (s28.2< (x5.length:Int)) then
  ((zFC x5 s28 (s28.1,0)).bind fun v49=>
  some (Lp.go (v49,w64 (s28.2+1))))
 else
  (some (Lp.done s28.1))
noncomputable def zF0 (x5:(List Pack)):((List ByteArray)×Int)→Option (List ByteArray):=loop (zD1 x5)
noncomputable def zEK (a1:(List Pack)) (a2:(List Int)) (a3:(List Int)) (a4:ByteArray):Option (List ByteArray):=
 (zFi a1 a2 a3 a4).bind fun x5=>
 (zF0 x5 ([a4],0)).bind fun v50=>
 some v50
noncomputable def zBS (a1:Pack) (s23:((List ByteArray)×Int)) (s34:((List ByteArray)×Int)):Option (Lp ((List ByteArray)×Int) (List ByteArray)):=
 (idx a1.Needs s23.2).bind fun x35=>
 if decide (s34.2< (x35.length:Int)) then
  ((idx a1.Needs s23.2).bind fun x38=>
  (idx x38 s34.2).bind fun x40=>
  (zCE s34.1 x40.Name).bind fun x42=>
  some (Lp.go (x42,w64 (s34.2+1))))
 else
  (some (Lp.done s34.1))
noncomputable def zEI (a1:Pack) (s23:((List ByteArray)×Int)):((List ByteArray)×Int)→Option (List ByteArray):=loop (zBS a1 s23)
noncomputable def zBX (a1:Pack) (s51:((List ByteArray)×Int)):Option (Lp ((List ByteArray)×Int) (List ByteArray)):=
 if decide (s51.2< (a1.Bars.length:Int)) then
  ((idx a1.Bars s51.2).bind fun x53=>
  (zCE s51.1 x53.Name).bind fun x55=>
  some (Lp.go (x55,w64 (s51.2+1))))
 else
  (some (Lp.done s51.1))
noncomputable def zEN (a1:Pack):((List ByteArray)×Int)→Option (List ByteArray):=loop (zBX a1)
noncomputable def zBN (a1:Pack) (s23:((List ByteArray)×Int)):Option (Lp ((List ByteArray)×Int) (List ByteArray)):=
 if decide (s23.2< (a1.Needs.length:Int)) then
  ((zEI a1 s23 (s23.1,0)).bind fun v44=>
  some (Lp.go (v44,w64 (s23.2+1))))
 else
  (some (Lp.done s23.1))
noncomputable def zEG (a1:Pack):((List ByteArray)×Int)→Option (List ByteArray):=loop (zBN a1)
noncomputable def zDS (a1:Pack):Option (List ByteArray):=
 (zEG a1 (([]:List ByteArray),0)).bind fun v45=>
 (zEN a1 (v45,0)).bind fun v57=>
 some v57
noncomputable def zD4 (a1:(List ByteArray)) (a2:(List ByteArray)) (s9:Int):Option (Lp Int (Fl Bool Unit)):=
 if decide (s9< (a1.length:Int)) then
  ((idx a1 s9).bind fun x11=>
  (uY a2 x11).bind fun x13=>
  if x13 then
   (some (Lp.done (Fl.ret true)))
  else
   (some (Lp.go (w64 (s9+1)))))
 else
  (some (Lp.done (Fl.nxt ())))
noncomputable def zF3 (a1:(List ByteArray)) (a2:(List ByteArray)):Int→Option (Fl Bool Unit):=loop (zD4 a1 a2)
noncomputable def zFz (a1:(List ByteArray)) (a2:(List ByteArray)):Option Bool:=
 (zF3 a1 a2 0).bind (Fl.go some fun v16=>
 some false)
noncomputable def zDV (a5:(List ByteArray)) (x6:(List Pack)) (s16:Int):Option (Lp Int (Fl Bool Unit)):=
 if decide (s16< (x6.length:Int)) then
  ((idx x6 s16).bind fun x18=>
  (zDS x18).bind fun x20=>
  (zFz x20 a5).bind fun x22=>
  if x22 then
   (some (Lp.done (Fl.ret true)))
  else
   (some (Lp.go (w64 (s16+1)))))
 else
  (some (Lp.done (Fl.nxt ())))
noncomputable def zFS (a5:(List ByteArray)) (x6:(List Pack)):Int→Option (Fl Bool Unit):=loop (zDV a5 x6)
noncomputable def zFf (a1:(List Pack)) (a2:(List Int)) (a3:(List Int)) (a4:ByteArray) (a5:(List ByteArray)):Option Bool:=
 (zFi a1 a2 a3 a4).bind fun x6=>
 (zFS a5 x6 0).bind (Fl.go some fun v25=>
 some false)
noncomputable def zDf (a1:(List Term)) (a2:(List ByteArray)) (s9:Int):Option (Lp Int (Fl Bool Unit)):=
 if decide (s9< (a1.length:Int)) then
  ((idx a1 s9).bind fun x11=>
  (uY a2 x11.Name).bind fun x13=>
  if x13 then
   (some (Lp.done (Fl.ret true)))
  else
   (some (Lp.go (w64 (s9+1)))))
 else
  (some (Lp.done (Fl.nxt ())))
noncomputable def zFs (a1:(List Term)) (a2:(List ByteArray)):Int→Option (Fl Bool Unit):=loop (zDf a1 a2)
noncomputable def zE0 (a1:(List Term)) (a2:(List ByteArray)):Option Bool:=
 (zFs a1 a2 0).bind (Fl.go some fun v16=>
 some false)
noncomputable def zBY (a1:(List Pack)) (a2:(List Int)) (a3:(List ByteArray)) (a4:(List ByteArray)) (s36:Int) (x40:Pack) (s54:Int):Option (Lp Int (Fl Bool Unit)):=
 if decide (s54< (x40.Needs.length:Int)) then
  ((idx x40.Needs s54).bind fun x56=>
  (zE0 x56 a3).bind fun x58=>
  (if x58 then
    ((idx x40.Needs s54).bind fun x61=>
    (zE0 x61 a4).bind fun x63=>
    some x63)
   else
    (some false)).bind fun v65=>
  if v65 then
   (some (Lp.done (Fl.ret true)))
  else
   (some (Lp.go (w64 (s54+1)))))
 else
  (some (Lp.done (Fl.nxt ())))
noncomputable def zEM (a1:(List Pack)) (a2:(List Int)) (a3:(List ByteArray)) (a4:(List ByteArray)) (s36:Int) (x40:Pack):Int→Option (Fl Bool Unit):=loop (zBY a1 a2 a3 a4 s36 x40)
noncomputable def zBP (a1:(List Pack)) (a2:(List Int)) (a3:(List ByteArray)) (a4:(List ByteArray)) (s36:Int):Option (Lp Int (Fl Bool Unit)):=
 if decide (s36< (a2.length:Int)) then
  ((idx a2 s36).bind fun x38=>
  (idx a1 x38).bind fun x40=>
  (zEM a1 a2 a3 a4 s36 x40 0).bind (Fl.go (fun r=>some (Lp.done (Fl.ret r))) fun v67=>
  some (Lp.go (w64 (s36+1)))))
 else
  (some (Lp.done (Fl.nxt ())))
noncomputable def zEJ (a1:(List Pack)) (a2:(List Int)) (a3:(List ByteArray)) (a4:(List ByteArray)):Int→Option (Fl Bool Unit):=loop (zBP a1 a2 a3 a4)
noncomputable def zDQ (a1:(List Pack)) (a2:(List Int)) (a3:(List ByteArray)) (a4:(List ByteArray)):Option Bool:=
 (zEJ a1 a2 a3 a4 0).bind (Fl.go some fun v68=>
 some false)
noncomputable def zAT (a1:(List Pack)) (a2:(List Int)) (a3:(List Int)) (a4:ByteArray) (a5:ByteArray):Option Bool:=
 (zEK a1 a2 a3 a4).bind fun x6=>
 (zEK a1 a2 a3 a5).bind fun x8=>
 (zFf a1 a2 a3 a4 x8).bind fun x10=>
 if x10 then
  (some true)
 else
  ((zFf a1 a2 a3 a5 x6).bind fun x13=>
  if x13 then
   (some true)
  else
   ((zDQ a1 a2 x6 x8).bind fun x16=>
   if x16 then
    (some true)
   else
    ((zDQ a1 a3 x6 x8).bind fun x19=>
    some x19)))
noncomputable def zD2 (a1:(List Pack)) (a2:(List Int)) (a3:(List Int)) (s206:((List ByteArray)×(List (List ByteArray)))) (s337:((List ByteArray)×Bool×Int)) (s358:((List ByteArray)×Bool×Int)):Option (Lp ((List ByteArray)×Bool×Int) ((List ByteArray)×Bool)):=
 (if decide (s358.2.2< (s358.1.length:Int)) then
   ((idx s206.1 s337.2.2).bind fun x360=>
   (uY s358.1 x360).bind fun x362=>
   some (!x362))
  else
   (some false)).bind fun v364=>
 if v364 then
  ((idx s358.1 s358.2.2).bind fun x366=>
  (idx s206.1 s337.2.2).bind fun x368=>
  (zAT a1 a2 a3 x366 x368).bind fun x370=>
  (if x370 then
    ((idx s206.1 s337.2.2).bind fun x373=>
    (zCE s358.1 x373).bind fun x375=>
    some (x375,true))
   else
    (some (s358.1,s358.2.1))).bind fun v377=>
  some (Lp.go (v377.1,v377.2,w64 (s358.2.2+1))))
 else
  (some (Lp.done (s358.1,s358.2.1)))
noncomputable def zF6 (a1:(List Pack)) (a2:(List Int)) (a3:(List Int)) (s206:((List ByteArray)×(List (List ByteArray)))) (s337:((List ByteArray)×Bool×Int)):((List ByteArray)×Bool×Int)→Option ((List ByteArray)×Bool):=loop (zD2 a1 a2 a3 s206 s337)
noncomputable def zCt (a1:(List Pack)) (a2:(List Int)) (a3:(List Int)) (s206:((List ByteArray)×(List (List ByteArray)))) (s337:((List ByteArray)×Bool×Int)):Option (Lp ((List ByteArray)×Bool×Int) ((List ByteArray)×Bool)):=
 if decide (s337.2.2< (s206.1.length:Int)) then
  ((zF6 a1 a2 a3 s206 s337 (s337.1,s337.2.1,0)).bind fun v378=>
  some (Lp.go (v378.1,v378.2,w64 (s337.2.2+1))))
 else
  (some (Lp.done (s337.1,s337.2.1)))
noncomputable def zF2 (a1:(List Pack)) (a2:(List Int)) (a3:(List Int)) (s206:((List ByteArray)×(List (List ByteArray)))):((List ByteArray)×Bool×Int)→Option ((List ByteArray)×Bool):=loop (zCt a1 a2 a3 s206)
noncomputable def zD0 (a1:(List Pack)) (a2:(List Int)) (a3:(List Int)) (s206:((List ByteArray)×(List (List ByteArray)))) (v380:(List ByteArray)) (s392:((List ByteArray)×Int)):Option (Lp ((List ByteArray)×Int) (List ByteArray)):=
 if decide (s392.2< (s206.1.length:Int)) then
  ((idx s206.1 s392.2).bind fun x394=>
  (uY v380 x394).bind fun x396=>
  (if !x396 then
    ((idx s206.1 s392.2).bind fun x399=>
    (app 16 s392.1 [x399]).bind fun x401=>
    some x401)
   else
    (some s392.1)).bind fun v403=>
  some (Lp.go (v403,w64 (s392.2+1))))
 else
  (some (Lp.done s392.1))
noncomputable def zE8 (a1:(List Pack)) (a2:(List Int)) (a3:(List Int)) (s206:((List ByteArray)×(List (List ByteArray)))) (v380:(List ByteArray)):((List ByteArray)×Int)→Option (List ByteArray):=loop (zD0 a1 a2 a3 s206 v380)
noncomputable def zEs (a1:(List Pack)) (a2:(List Int)) (a3:(List Int)) (s206:((List ByteArray)×(List (List ByteArray)))) (s294:((List ByteArray)×Bool)):Option (Lp ((List ByteArray)×Bool) (List ByteArray)):=
 if s294.2 then
  ((zF2 a1 a2 a3 s206 (s294.1,false,0)).bind fun v379=>
  some (Lp.go (v379.1,v379.2)))
 else
  (some (Lp.done s294.1))
noncomputable def zEA (a1:(List Pack)) (a2:(List Int)) (a3:(List Int)) (s206:((List ByteArray)×(List (List ByteArray)))):((List ByteArray)×Bool)→Option (List ByteArray):=loop (zEs a1 a2 a3 s206)
noncomputable def zD7 (a1:(List Pack)) (a2:(List Int)) (a3:(List Int)) (s206:((List ByteArray)×(List (List ByteArray)))):Option (Lp ((List ByteArray)×(List (List ByteArray))) (List (List ByteArray))):=
 if decide ((s206.1.length:Int)>0) then
  ((idx s206.1 0).bind fun x208=>
  (zEA a1 a2 a3 s206 ([x208],true)).bind fun v380=>
  (zE8 a1 a2 a3 s206 v380 (([]:List ByteArray),0)).bind fun v404=>
  (app 24 s206.2 [v380]).bind fun x405=>
  some (Lp.go (v404,x405)))
 else
  (some (Lp.done s206.2))
noncomputable def zCF (a1:(List Pack)) (a2:(List Int)) (a3:(List Int)):((List ByteArray)×(List (List ByteArray)))→Option (List (List ByteArray)):=loop (zD7 a1 a2 a3)
noncomputable def zGG (a1:(List Pack)) (a2:(List Int)) (a3:(List Int)):Option (List (List ByteArray)):=
 (zEl a1 a2 a3).bind fun x4=>
 (zCF a1 a2 a3 (x4,([]:List (List ByteArray)))).bind fun v407=>
 some v407
end Go.Told

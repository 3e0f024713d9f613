import Derived.Test.YtdeihchdibglaaaGreatImG
set_option linter.unusedVariables false
set_option maxRecDepth 4000
namespace Go.Told
open Go Go.Im
structure Version where
 A:Int
 B:Int
 C:Int
 deriving DecidableEq
def Version.enc (x:Version):List D:=[.sc (.int .i64 x.A),.sc (.int .i64 x.B),.sc (.int .i64 x.C)]
theorem Version.fl (x:Version):zDb (Version.enc x):=(flatK yT (flatK yT (flatK yT zCJ)))
structure Term where
 Name:ByteArray
 Low:Version
 High:Version
 deriving DecidableEq
def Term.enc (x:Term):List D:=[.sc (.string x.Name),.sc (.int .i64 x.Low.A),.sc (.int .i64 x.Low.B),.sc (.int .i64 x.Low.C),.sc (.int .i64 x.High.A),.sc (.int .i64 x.High.B),.sc (.int .i64 x.High.C)]
theorem Term.fl (x:Term):zDb (Term.enc x):=(flatK yT (flatK yT (flatK yT (flatK yT (flatK yT (flatK yT (flatK yT zCJ)))))))
structure Pack where
 Name:ByteArray
 Version:Version
 Size:Int
 Provides:(List ByteArray)
 Needs:(List (List Term))
 Bars:(List Term)
 deriving DecidableEq
def Pack.enc (o:Bool) (x:Pack):List D:=[.sc (.string x.Name),.sc (.int .i64 x.Version.A),.sc (.int .i64 x.Version.B),.sc (.int .i64 x.Version.C),.sc (.int .i64 x.Size),.s o 1 x.Provides.length (x.Provides.map eStr),.s o 1 x.Needs.length (x.Needs.map (eSl o 7 Term.enc)),.s o 7 x.Bars.length (x.Bars.map Term.enc)]
theorem Pack.ro (o:Bool) (x:Pack):D.ro.roC (Pack.enc o x)=Pack.enc false x:=by
 simp only [Pack.enc,D.ro.roC,D.ro,uZ (enc:=eStr) (enc':=eStr) (fun _=>rfl),uZ (enc:=(eSl o 7 Term.enc)) (enc':=(eSl false 7 Term.enc)) (zCB (fun _=>rfl)),uZ (enc:=Term.enc) (enc':=Term.enc) (fun _=>rfl)]
theorem Pack.fl (x:Pack):zDb (Pack.enc true x):=(flatK yT (flatK yT (flatK yT (flatK yT (flatK yT (flatK (zCy (zDp (fun _=>(flatK yT zCJ)) _)) (flatK (zCy (zDp (fun _=>(flatK (zCy (zDp (fun _=>(Term.fl _)) _)) zCJ)) _)) (flatK (zCy (zDp (fun _=>(Term.fl _)) _)) zCJ))))))))
structure yA where
 Code:Int
 Parts:(List (List ByteArray))
 deriving DecidableEq
def yA.enc (o:Bool) (x:yA):List D:=[.sc (.int .i64 x.Code),.s o 1 x.Parts.length (x.Parts.map (eSl o 1 eStr))]
theorem yA.ro (o:Bool) (x:yA):D.ro.roC (yA.enc o x)=yA.enc false x:=by
 simp only [yA.enc,D.ro.roC,D.ro,uZ (enc:=(eSl o 1 eStr)) (enc':=(eSl false 1 eStr)) (zCB (fun _=>rfl))]
theorem yA.fl (x:yA):zDb (yA.enc true x):=(flatK yT (flatK (zCy (zDp (fun _=>(flatK (zCy (zDp (fun _=>(flatK yT zCJ)) _)) zCJ)) _)) zCJ))
structure yE where
 Code:Int
 Names:(List ByteArray)
 deriving DecidableEq
def yE.enc (o:Bool) (x:yE):List D:=[.sc (.int .i64 x.Code),.s o 1 x.Names.length (x.Names.map eStr)]
theorem yE.ro (o:Bool) (x:yE):D.ro.roC (yE.enc o x)=yE.enc false x:=by
 simp only [yE.enc,D.ro.roC,D.ro,uZ (enc:=eStr) (enc':=eStr) (fun _=>rfl)]
theorem yE.fl (x:yE):zDb (yE.enc true x):=(flatK yT (flatK (zCy (zDp (fun _=>(flatK yT zCJ)) _)) zCJ))
structure SolveResult where
 Code:Int
 Choices:Int
 Set:(List Int)
 deriving DecidableEq
def SolveResult.enc (o:Bool) (x:SolveResult):List D:=[.sc (.int .i64 x.Code),.sc (.int .i64 x.Choices),.s o 1 x.Set.length (x.Set.map zD)]
theorem SolveResult.ro (o:Bool) (x:SolveResult):D.ro.roC (SolveResult.enc o x)=SolveResult.enc false x:=by
 simp only [SolveResult.enc,D.ro.roC,D.ro,uZ (enc:=zD) (enc':=zD) (fun _=>rfl)]
theorem SolveResult.fl (x:SolveResult):zDb (SolveResult.enc true x):=(flatK yT (flatK yT (flatK (zCy (zDp (fun _=>(flatK yT zCJ)) _)) zCJ)))
structure zC where
 Code:(List Int)
 At:Int
 deriving DecidableEq
def zC.enc (o:Bool) (x:zC):List D:=[.s o 1 x.Code.length (x.Code.map eU8),.sc (.int .i64 x.At)]
theorem zC.ro (o:Bool) (x:zC):D.ro.roC (zC.enc o x)=zC.enc false x:=by
 simp only [zC.enc,D.ro.roC,D.ro,uZ (enc:=eU8) (enc':=eU8) (fun _=>rfl)]
theorem zC.fl (x:zC):zDb (zC.enc true x):=(flatK (zCy (zDp (fun _=>(flatK yT zCJ)) _)) (flatK yT zCJ))
structure yM where
 Kind:Int
 Pack:Int
 At:Int
 deriving DecidableEq
def yM.enc (x:yM):List D:=[.sc (.int .i64 x.Kind),.sc (.int .i64 x.Pack),.sc (.int .i64 x.At)]
theorem yM.fl (x:yM):zDb (yM.enc x):=(flatK yT (flatK yT (flatK yT zCJ)))
structure yH where
 Pack:Int
 Denied:(List Int)
 deriving DecidableEq
def yH.enc (o:Bool) (x:yH):List D:=[.sc (.int .i64 x.Pack),.s o 1 x.Denied.length (x.Denied.map zD)]
theorem yH.ro (o:Bool) (x:yH):D.ro.roC (yH.enc o x)=yH.enc false x:=by
 simp only [yH.enc,D.ro.roC,D.ro,uZ (enc:=zD) (enc':=zD) (fun _=>rfl)]
theorem yH.fl (x:yH):zDb (yH.enc true x):=(flatK yT (flatK (zCy (zDp (fun _=>(flatK yT zCJ)) _)) zCJ))
noncomputable def zCg (a1:(List Int)):Option Bool:=
 some (decide ((a1.length:Int)>1048576))
noncomputable def zB9 (a1:(List Int)):Option zC:=
 some ({Code:=a1,At:=0}:zC)
noncomputable def zL (a1:zC) (a2:Int):Option (Int×zC):=
 if decide (a2<1) then
  (some (0,({Code:=a1.Code,At:=w64 (a1.At+1)}:zC)))
 else
  (if (a1.Code.length:Int)==0 then
   ((zJk (w64 ((w64 ((w64 (a1.At+1))-1))*7)) a2).bind fun x5=>
   some (x5,({Code:=a1.Code,At:=w64 (a1.At+1)}:zC)))
  else
   ((zJk (w64 ((w64 (a1.At+1))-1)) (a1.Code.length:Int)).bind fun x7=>
   (idx a1.Code x7).bind fun x9=>
   (zLb .i64 (w64 ((w64 (a1.At+1))-1)) (a1.Code.length:Int)).bind fun x11=>
   (if decide (a2>200) then
     ((zJk (w64 ((w64 ((w64 (a1.At+1))-1))+1)) (a1.Code.length:Int)).bind fun x14=>
     (idx a1.Code x14).bind fun x16=>
     some (w64 ((w64 ((w64 ((w64 ((w64 (x9))+(w64 (x11*37))))*251))+(w64 ((w64 (x16))*13))))+(w64 ((w64 (a1.At+1))-1)))))
    else
     (some (w64 ((w64 (x9))+(w64 (x11*37)))))).bind fun v18=>
   (zJk v18 a2).bind fun x19=>
   some (x19,({Code:=a1.Code,At:=w64 (a1.At+1)}:zC))))
noncomputable def yX (a1:zC) (a2:(List Int)):Option (Int×zC):=
 (zL a1 (a2.length:Int)).bind fun x3=>
 (idx a2 x3.1).bind fun x5=>
 some (x5,x3.2)
noncomputable def xM (a1:zC):Option (ByteArray×zC):=
 (zL a1 6).bind fun x2=>
 (idx [bs [97],bs [98],bs [99],bs [100],bs [108,105,98],bs [119,101,98]] x2.1).bind fun x4=>
 some (x4,x2.2)
noncomputable def zV (a1:zC) (a2:Int):Option (Bool×zC):=
 (zL a1 a2).bind fun x3=>
 some (x3.1==0,x3.2)
noncomputable def jW:Option Version:=
 some ({A:=1000,B:=0,C:=0}:Version)
noncomputable def vD (a1:ByteArray):Option Term:=
 (jW).bind fun x2=>
 some ({Name:=a1,Low:=({A:=0,B:=0,C:=0}:Version),High:=x2}:Term)
noncomputable def vH (a1:zC):Option (Version×zC):=
 (zL a1 4).bind fun x2=>
 (zL x2.2 3).bind fun x4=>
 (yX x4.2 [0,0,x4.1]).bind fun x6=>
 (zL x6.2 3).bind fun x8=>
 (yX x8.2 [0,0,0,x8.1]).bind fun x10=>
 some (({A:=x2.1,B:=x6.1,C:=x10.1}:Version),x10.2)
noncomputable def wK (a1:zC):Option (Term×zC):=
 (xM a1).bind fun x2=>
 (vD x2.1).bind fun x4=>
 (zV x2.2 2).bind fun x6=>
 (if x6.1 then
   ((vH x6.2).bind fun x9=>
   some (x9.2.Code,x9.2.At,x9.1.A,x9.1.B,x9.1.C))
  else
   (some (x6.2.Code,x6.2.At,x4.Low.A,x4.Low.B,x4.Low.C))).bind fun v11=>
 (zV ({Code:=v11.1,At:=v11.2.1}:zC) 3).bind fun x12=>
 (if x12.1 then
   ((zL x12.2 2).bind fun x15=>
   some (x15.2.Code,x15.2.At,w64 ((w64 (v11.2.2.1+1))+x15.1),0,0))
  else
   (some (x12.2.Code,x12.2.At,x4.High.A,x4.High.B,x4.High.C))).bind fun v17=>
 some (({Name:=x4.Name,Low:=({A:=v11.2.2.1,B:=v11.2.2.2.1,C:=v11.2.2.2.2}:Version),High:=({A:=v17.2.2.1,B:=v17.2.2.2.1,C:=v17.2.2.2.2}:Version)}:Term),({Code:=v17.1,At:=v17.2.1}:zC))
noncomputable def zB7 (x2:(ByteArray×zC)) (x4:(Int×zC)) (x6:(Int×zC)) (v15:((List Int)×Int×(List ByteArray))) (s60:((List Int)×Int×(List (List Term))×Int)):Option (Lp ((List Int)×Int×(List (List Term))×Int) ((List Int)×Int×(List (List Term)))):=
 if decide (s60.2.2.2>0) then
  ((wK ({Code:=s60.1,At:=s60.2.1}:zC)).bind fun x62=>
  (zV x62.2 3).bind fun x64=>
  (if x64.1 then
    ((wK x64.2).bind fun x67=>
    (app 64 [x62.1] [x67.1]).bind fun x69=>
    some (x67.2.Code,x67.2.At,x69))
   else
    (some (x64.2.Code,x64.2.At,[x62.1]))).bind fun v71=>
  (zV ({Code:=v71.1,At:=v71.2.1}:zC) 8).bind fun x72=>
  (if x72.1 then
    ((vD (bs [109,97,105,108])).bind fun x75=>
    (idx v71.2.2 0).bind fun x77=>
    some (v71.2.2.set ((0:Int).toNat) x75))
   else
    (some v71.2.2)).bind fun v79=>
  (app 24 s60.2.2.1 [v79]).bind fun x80=>
  some (Lp.go (x72.2.Code,x72.2.At,x80,w64 (s60.2.2.2-1))))
 else
  (some (Lp.done (s60.1,s60.2.1,s60.2.2.1)))
noncomputable def zBN (x2:(ByteArray×zC)) (x4:(Int×zC)) (x6:(Int×zC)) (v15:((List Int)×Int×(List ByteArray))):((List Int)×Int×(List (List Term))×Int)→Option ((List Int)×Int×(List (List Term))):=loop (zB7 x2 x4 x6 v15)
noncomputable def kT (a1:zC):Option (Pack×zC):=
 (xM a1).bind fun x2=>
 (zL x2.2 3).bind fun x4=>
 (zL x4.2 9).bind fun x6=>
 (zV x6.2 5).bind fun x8=>
 (if x8.1 then
   ((zL x8.2 2).bind fun x11=>
   (idx [bs [109,97,105,108],bs [100,98]] x11.1).bind fun x13=>
   some (x11.2.Code,x11.2.At,[x13]))
  else
   (some (x8.2.Code,x8.2.At,([]:List ByteArray)))).bind fun v15=>
 (yX ({Code:=v15.1,At:=v15.2.1}:zC) [0,0,1,1,2]).bind fun x16=>
 (zBN x2 x4 x6 v15 (x16.2.Code,x16.2.At,([]:List (List Term)),x16.1)).bind fun v82=>
 (zV ({Code:=v82.1,At:=v82.2.1}:zC) 6).bind fun x83=>
 (if x83.1 then
   ((wK x83.2).bind fun x86=>
   (app 64 ([]:List Term) [x86.1]).bind fun x88=>
   some (x86.2.Code,x86.2.At,x88))
  else
   (some (x83.2.Code,x83.2.At,([]:List Term)))).bind fun v90=>
 some (({Name:=x2.1,Version:=({A:=w64 (1+x4.1),B:=0,C:=0}:Version),Size:=w64 (1+x6.1),Provides:=v15.2.2,Needs:=v82.2.2,Bars:=v90.2.2}:Pack),({Code:=v90.1,At:=v90.2.1}:zC))
noncomputable def jQ (a1:Int) (a2:Int):Option Int:=
 if decide (a1<a2) then
  (some (-1))
 else
  (if decide (a1>a2) then
   (some 1)
  else
   (some 0))
noncomputable def zW (a1:Version) (a2:Version):Option Int:=
 (jQ a1.A a2.A).bind fun x3=>
 if x3 !=0 then
  (some x3)
 else
  ((jQ a1.B a2.B).bind fun x6=>
  if x6 !=0 then
   (some x6)
  else
   ((jQ a1.C a2.C).bind fun x9=>
   some x9))
noncomputable def zBr (a1:(List Pack)) (a2:ByteArray) (a3:Version) (s14:Int):Option (Lp Int (Fl Int Unit)):=
 if decide (s14< (a1.length:Int)) then
  ((idx a1 s14).bind fun x16=>
  (if seq x16.Name a2 then
    ((idx a1 s14).bind fun x19=>
    (zW x19.Version a3).bind fun x21=>
    some (x21==0))
   else
    (some false)).bind fun v23=>
  if v23 then
   (some (Lp.done (Fl.ret s14)))
  else
   (some (Lp.go (w64 (s14+1)))))
 else
  (some (Lp.done (Fl.nxt ())))
noncomputable def zBO (a1:(List Pack)) (a2:ByteArray) (a3:Version):Int→Option (Fl Int Unit):=loop (zBr a1 a2 a3)
noncomputable def kY (a1:(List Pack)) (a2:ByteArray) (a3:Version):Option Int:=
 (zBO a1 a2 a3 0).bind (Fl.go some fun v25=>
 some (-1))
noncomputable def xL (a1:zC):Option (ByteArray×zC):=
 (zV a1 14).bind fun x2=>
 if x2.1 then
  ((zL x2.2 9).bind fun x5=>
  (idx [bs [],bs [49,97],bs [65],bs [97,98,99,100,101,102,103,104,105,106,107,108,109],bs [97,98,99,100,101,102,103,104,105,106,107,108],bs [97,32,98],bs [97,45],bs [95,97],bs [97,95,49]] x5.1).bind fun x7=>
  some (x7,x5.2))
 else
  ((xM x2.2).bind fun x9=>
  some (x9.1,x9.2))
noncomputable def xG (a1:zC):Option (Version×zC):=
 (vH a1).bind fun x2=>
 (zL x2.2 14).bind fun x4=>
 (if x4.1==0 then
   ((yX x4.2 [(-1),999,1000]).bind fun x7=>
   some (x7.2.Code,x7.2.At,x7.1,x2.1.B,x2.1.C))
  else
   (if x4.1==1 then
    ((yX x4.2 [(-1),999,1000]).bind fun x10=>
    some (x10.2.Code,x10.2.At,x2.1.A,x10.1,x2.1.C))
   else
    (if x4.1==2 then
     ((yX x4.2 [(-1),999,1000,4611686018427387904]).bind fun x13=>
     some (x13.2.Code,x13.2.At,x2.1.A,x2.1.B,x13.1))
    else
     (some (x4.2.Code,x4.2.At,x2.1.A,x2.1.B,x2.1.C))))).bind fun v15=>
 some (({A:=v15.2.2.1,B:=v15.2.2.2.1,C:=v15.2.2.2.2}:Version),({Code:=v15.1,At:=v15.2.1}:zC))
noncomputable def wE (a1:zC):Option (Term×zC):=
 (wK a1).bind fun x2=>
 (zL x2.2 14).bind fun x4=>
 (if x4.1==0 then
   ((xL x4.2).bind fun x7=>
   some (x7.2.Code,x7.2.At,x7.1,x2.1.Low.A,x2.1.Low.B,x2.1.Low.C,x2.1.High.A,x2.1.High.B,x2.1.High.C))
  else
   (if x4.1==1 then
    ((xG x4.2).bind fun x10=>
    some (x10.2.Code,x10.2.At,x2.1.Name,x10.1.A,x10.1.B,x10.1.C,x2.1.High.A,x2.1.High.B,x2.1.High.C))
   else
    (if x4.1==2 then
     ((xG x4.2).bind fun x13=>
     some (x13.2.Code,x13.2.At,x2.1.Name,x2.1.Low.A,x2.1.Low.B,x2.1.Low.C,x13.1.A,x13.1.B,x13.1.C))
    else
     (if x4.1==3 then
      (some (x4.2.Code,x4.2.At,x2.1.Name,x2.1.Low.A,x2.1.Low.B,x2.1.Low.C,x2.1.Low.A,x2.1.Low.B,x2.1.Low.C))
     else
      (some (x4.2.Code,x4.2.At,x2.1.Name,x2.1.Low.A,x2.1.Low.B,x2.1.Low.C,x2.1.High.A,x2.1.High.B,x2.1.High.C)))))).bind fun v16=>
 some (({Name:=v16.2.2.1,Low:=({A:=v16.2.2.2.1,B:=v16.2.2.2.2.1,C:=v16.2.2.2.2.2.1}:Version),High:=({A:=v16.2.2.2.2.2.2.1,B:=v16.2.2.2.2.2.2.2.1,C:=v16.2.2.2.2.2.2.2.2}:Version)}:Term),({Code:=v16.1,At:=v16.2.1}:zC))
noncomputable def jT (a1:zC):Option (Pack×zC):=
 (kT a1).bind fun x2=>
 (zL x2.2 24).bind fun x4=>
 (if x4.1==0 then
   ((xL x4.2).bind fun x7=>
   some (x7.2.Code,x7.2.At,x7.1,x2.1.Version.A,x2.1.Version.B,x2.1.Version.C,x2.1.Size,x2.1.Provides,x2.1.Needs,x2.1.Bars))
  else
   (if x4.1==1 then
    ((xG x4.2).bind fun x10=>
    some (x10.2.Code,x10.2.At,x2.1.Name,x10.1.A,x10.1.B,x10.1.C,x2.1.Size,x2.1.Provides,x2.1.Needs,x2.1.Bars))
   else
    (if x4.1==2 then
     ((yX x4.2 [0,200,201]).bind fun x13=>
     some (x13.2.Code,x13.2.At,x2.1.Name,x2.1.Version.A,x2.1.Version.B,x2.1.Version.C,x13.1,x2.1.Provides,x2.1.Needs,x2.1.Bars))
    else
     (if x4.1==3 then
      ((xL x4.2).bind fun x16=>
      (app 16 x2.1.Provides [x16.1,x2.1.Name]).bind fun x18=>
      some (x16.2.Code,x16.2.At,x2.1.Name,x2.1.Version.A,x2.1.Version.B,x2.1.Version.C,x2.1.Size,x18,x2.1.Needs,x2.1.Bars))
     else
      (if x4.1==4 then
       ((app 24 x2.1.Needs [([]:List Term)]).bind fun x21=>
       some (x4.2.Code,x4.2.At,x2.1.Name,x2.1.Version.A,x2.1.Version.B,x2.1.Version.C,x2.1.Size,x2.1.Provides,x21,x2.1.Bars))
      else
       (if x4.1==5 then
        ((wE x4.2).bind fun x24=>
        (wE x24.2).bind fun x26=>
        (app 24 x2.1.Needs [[x24.1,x26.1]]).bind fun x28=>
        some (x26.2.Code,x26.2.At,x2.1.Name,x2.1.Version.A,x2.1.Version.B,x2.1.Version.C,x2.1.Size,x2.1.Provides,x28,x2.1.Bars))
       else
        (if x4.1==6 then
         ((wE x4.2).bind fun x31=>
         (app 64 x2.1.Bars [x31.1]).bind fun x33=>
         some (x31.2.Code,x31.2.At,x2.1.Name,x2.1.Version.A,x2.1.Version.B,x2.1.Version.C,x2.1.Size,x2.1.Provides,x2.1.Needs,x33))
        else
         (if x4.1==7 then
          ((mk 64 5 ({Name:=ByteArray.empty,Low:=({A:=0,B:=0,C:=0}:Version),High:=({A:=0,B:=0,C:=0}:Version)}:Term)).bind fun x36=>
          some (x4.2.Code,x4.2.At,x2.1.Name,x2.1.Version.A,x2.1.Version.B,x2.1.Version.C,x2.1.Size,x2.1.Provides,x2.1.Needs,x36))
         else
          (if x4.1==8 then
           ((mk 64 5 ({Name:=ByteArray.empty,Low:=({A:=0,B:=0,C:=0}:Version),High:=({A:=0,B:=0,C:=0}:Version)}:Term)).bind fun x39=>
           (app 24 x2.1.Needs [x39]).bind fun x41=>
           some (x4.2.Code,x4.2.At,x2.1.Name,x2.1.Version.A,x2.1.Version.B,x2.1.Version.C,x2.1.Size,x2.1.Provides,x41,x2.1.Bars))
          else
           (some (x4.2.Code,x4.2.At,x2.1.Name,x2.1.Version.A,x2.1.Version.B,x2.1.Version.C,x2.1.Size,x2.1.Provides,x2.1.Needs,x2.1.Bars))))))))))).bind fun v43=>
 some (({Name:=v43.2.2.1,Version:=({A:=v43.2.2.2.1,B:=v43.2.2.2.2.1,C:=v43.2.2.2.2.2.1}:Version),Size:=v43.2.2.2.2.2.2.1,Provides:=v43.2.2.2.2.2.2.2.1,Needs:=v43.2.2.2.2.2.2.2.2.1,Bars:=v43.2.2.2.2.2.2.2.2.2}:Pack),({Code:=v43.1,At:=v43.2.1}:zC))
noncomputable def kN (s15:((List Int)×Int×(List Pack)×Int)):Option (Lp ((List Int)×Int×(List Pack)×Int) ((List Int)×Int×(List Pack))):=
 if decide (s15.2.2.2>0) then
  ((kT ({Code:=s15.1,At:=s15.2.1}:zC)).bind fun x17=>
  (kY s15.2.2.1 x17.1.Name x17.1.Version).bind fun x19=>
  (if decide (x19<0) then
    ((app 120 s15.2.2.1 [x17.1]).bind fun x22=>
    some x22)
   else
    (some s15.2.2.1)).bind fun v24=>
  some (Lp.go (x17.2.Code,x17.2.At,v24,w64 (s15.2.2.2-1))))
 else
  (some (Lp.done (s15.1,s15.2.1,s15.2.2.1)))
noncomputable def zAi:((List Int)×Int×(List Pack)×Int)→Option ((List Int)×Int×(List Pack)):=loop kN
noncomputable def kU (a1:zC):Option ((List Pack)×zC):=
 (zL a1 12).bind fun x2=>
 (yX x2.2 [3,4,5,6,7,8,x2.1]).bind fun x4=>
 (zAi (x4.2.Code,x4.2.At,([]:List Pack),x4.1)).bind fun v25=>
 (zL ({Code:=v25.1,At:=v25.2.1}:zC) 40).bind fun x26=>
 (if x26.1==0 then
   ((jT x26.2).bind fun x29=>
   (app 120 v25.2.2 [x29.1]).bind fun x31=>
   some (x29.2.Code,x29.2.At,x31))
  else
   (if x26.1==1 then
    (if decide ((v25.2.2.length:Int)>0) then
     ((idx v25.2.2 0).bind fun x35=>
     (app 120 v25.2.2 [x35]).bind fun x37=>
     some (x26.2.Code,x26.2.At,x37))
    else
     (some (x26.2.Code,x26.2.At,v25.2.2)))
   else
    (if x26.1==2 then
     ((mk 120 25 ({Name:=ByteArray.empty,Version:=({A:=0,B:=0,C:=0}:Version),Size:=0,Provides:=([]:List ByteArray),Needs:=([]:List (List Term)),Bars:=([]:List Term)}:Pack)).bind fun x40=>
     some (x26.2.Code,x26.2.At,x40))
    else
     (some (x26.2.Code,x26.2.At,v25.2.2))))).bind fun v42=>
 some (v42.2.2,({Code:=v42.1,At:=v42.2.1}:zC))
noncomputable def vI (a1:Int):Option Bool:=
 if decide (a1≥97) then
  (some (decide (a1≤122)))
 else
  (some false)
noncomputable def zAy (a1:Int):Option Bool:=
 if decide (a1≥48) then
  (some (decide (a1≤57)))
 else
  (some false)
noncomputable def zCb (a1:Int):Option Bool:=
 (vI a1).bind fun x2=>
 if x2 then
  (some true)
 else
  ((zAy a1).bind fun x5=>
  if x5 then
   (some true)
  else
   (some (a1==95)))
noncomputable def zBd (a1:ByteArray) (s16:Int):Option (Lp Int (Fl Int Unit)):=
 if decide (s16< (a1.size:Int)) then
  ((bidx a1 s16).bind fun x18=>
  (zCb x18).bind fun x20=>
  if !x20 then
   (some (Lp.done (Fl.ret 5)))
  else
   (some (Lp.go (w64 (s16+1)))))
 else
  (some (Lp.done (Fl.nxt ())))
noncomputable def jK (a1:ByteArray):Int→Option (Fl Int Unit):=loop (zBd a1)
noncomputable def wV (a1:ByteArray):Option Int:=
 (if decide ((a1.size:Int)<1) then
   (some true)
  else
   (if decide ((a1.size:Int)>12) then
    (some true)
   else
    ((bidx a1 0).bind fun x4=>
    (vI x4).bind fun x6=>
    some (!x6)))).bind fun v8=>
 if v8 then
  (some 5)
 else
  ((jK a1 0).bind (Fl.go some fun v23=>
  some 0))
noncomputable def wY (a1:Int) (a2:Int) (a3:Int):Option Bool:=
 if decide (a1≥a2) then
  (some (decide (a1≤a3)))
 else
  (some false)
noncomputable def xJ (a1:Version):Option Int:=
 (wY a1.A 0 999).bind fun x2=>
 (if !x2 then
   (some true)
  else
   ((wY a1.B 0 999).bind fun x5=>
   if !x5 then
    (some true)
   else
    ((wY a1.C 0 999).bind fun x8=>
    some (!x8)))).bind fun v10=>
 if v10 then
  (some 3)
 else
  (some 0)
noncomputable def zAG (a1:(List ByteArray)) (a2:ByteArray) (s7:Int):Option (Lp Int (Fl Bool Unit)):=
 if decide (s7< (a1.length:Int)) then
  ((idx a1 s7).bind fun x9=>
  if seq x9 a2 then
   (some (Lp.done (Fl.ret true)))
  else
   (some (Lp.go (w64 (s7+1)))))
 else
  (some (Lp.done (Fl.nxt ())))
noncomputable def zB6 (a1:(List ByteArray)) (a2:ByteArray):Int→Option (Fl Bool Unit):=loop (zAG a1 a2)
noncomputable def wN (a1:(List ByteArray)) (a2:ByteArray):Option Bool:=
 (zB6 a1 a2 0).bind (Fl.go some fun v12=>
 some false)
noncomputable def kW (a1:Term):Option Int:=
 (wV a1.Name).bind fun x2=>
 if x2 !=0 then
  (some x2)
 else
  ((xJ a1.Low).bind fun x5=>
  if x5 !=0 then
   (some x5)
  else
   ((jW).bind fun x8=>
   (if !(a1.High.A==x8.A&&(a1.High.B==x8.B&&(a1.High.C==x8.C&&true))) then
     ((xJ a1.High).bind fun x11=>
     some (x11 !=0))
    else
     (some false)).bind fun v13=>
   if v13 then
    (some 3)
   else
    ((zW a1.Low a1.High).bind fun x15=>
    if decide (x15≥0) then
     (some 1)
    else
     (some 0))))
noncomputable def zAE (a1:(List Term)) (s8:Int):Option (Lp Int (Fl Int Unit)):=
 if decide (s8< (a1.length:Int)) then
  ((idx a1 s8).bind fun x10=>
  (kW x10).bind fun x12=>
  if x12 !=0 then
   (some (Lp.done (Fl.ret x12)))
  else
   (some (Lp.go (w64 (s8+1)))))
 else
  (some (Lp.done (Fl.nxt ())))
noncomputable def zBv (a1:(List Term)):Int→Option (Fl Int Unit):=loop (zAE a1)
noncomputable def tZ (a1:(List Term)):Option Int:=
 (zBv a1 0).bind (Fl.go some fun v15=>
 some 0)
noncomputable def kI (a1:Pack) (s70:Int):Option (Lp Int (Fl Int Unit)):=
 if decide (s70< (a1.Needs.length:Int)) then
  ((idx a1.Needs s70).bind fun x72=>
  if (x72.length:Int)==0 then
   (some (Lp.done (Fl.ret 1)))
  else
   ((idx a1.Needs s70).bind fun x75=>
   (tZ x75).bind fun x77=>
   if x77 !=0 then
    (some (Lp.done (Fl.ret x77)))
   else
    (some (Lp.go (w64 (s70+1))))))
 else
  (some (Lp.done (Fl.nxt ())))
noncomputable def jG (a1:Pack):Int→Option (Fl Int Unit):=loop (kI a1)
noncomputable def kH (a1:Pack) (s42:Int):Option (Lp Int (Fl Int Unit)):=
 if decide (s42< (a1.Provides.length:Int)) then
  ((idx a1.Provides s42).bind fun x44=>
  (wV x44).bind fun x46=>
  if x46 !=0 then
   (some (Lp.done (Fl.ret x46)))
  else
   ((idx a1.Provides s42).bind fun x49=>
   (if seq x49 a1.Name then
     (some true)
    else
     ((zDJ a1.Provides 0 s42).bind fun x52=>
     (idx a1.Provides s42).bind fun x54=>
     (wN x52 x54).bind fun x56=>
     some x56)).bind fun v58=>
   if v58 then
    (some (Lp.done (Fl.ret 6)))
   else
    (some (Lp.go (w64 (s42+1))))))
 else
  (some (Lp.done (Fl.nxt ())))
noncomputable def jD (a1:Pack):Int→Option (Fl Int Unit):=loop (kH a1)
noncomputable def kG (a1:Pack) (s19:Int):Option (Lp Int (Fl Int Unit)):=
 if decide (s19< (a1.Needs.length:Int)) then
  ((idx a1.Needs s19).bind fun x21=>
  if decide ((x21.length:Int)>4) then
   (some (Lp.done (Fl.ret 2)))
  else
   (some (Lp.go (w64 (s19+1)))))
 else
  (some (Lp.done (Fl.nxt ())))
noncomputable def zAw (a1:Pack):Int→Option (Fl Int Unit):=loop (kG a1)
noncomputable def zAa (a1:Pack):Option Int:=
 (wV a1.Name).bind fun x2=>
 if x2 !=0 then
  (some x2)
 else
  ((xJ a1.Version).bind fun x5=>
  if x5 !=0 then
   (some x5)
  else
   ((wY a1.Size 1 200).bind fun x8=>
   if !x8 then
    (some 3)
   else
    ((if decide ((a1.Provides.length:Int)>4) then
       (some true)
      else
       (if decide ((a1.Needs.length:Int)>4) then
        (some true)
       else
        (some (decide ((a1.Bars.length:Int)>4))))).bind fun v13=>
    if v13 then
     (some 2)
    else
     ((zAw a1 0).bind (Fl.go some fun v24=>
     (jD a1 0).bind (Fl.go some fun v60=>
     (jG a1 0).bind (Fl.go some fun v80=>
     (tZ a1.Bars).bind fun x81=>
     some x81)))))))
noncomputable def uP (a1:(List Pack)) (s18:Int):Option (Lp Int (Fl Int Unit)):=
 if decide (s18< (a1.length:Int)) then
  ((idx a1 s18).bind fun x20=>
  (zAa x20).bind fun x22=>
  if x22 !=0 then
   (some (Lp.done (Fl.ret x22)))
  else
   ((zDJ a1 0 s18).bind fun x25=>
   (idx a1 s18).bind fun x27=>
   (idx a1 s18).bind fun x29=>
   (kY x25 x27.Name x29.Version).bind fun x31=>
   if decide (x31≥0) then
    (some (Lp.done (Fl.ret 6)))
   else
    (some (Lp.go (w64 (s18+1))))))
 else
  (some (Lp.done (Fl.nxt ())))
noncomputable def tN (a1:(List Pack)):Int→Option (Fl Int Unit):=loop (uP a1)
noncomputable def yY (a1:(List Pack)):Option Int:=
 if decide ((a1.length:Int)>24) then
  (some 2)
 else
  ((tN a1 0).bind (Fl.go some fun v34=>
  some 0))
noncomputable def tV (a1:Term) (a2:ByteArray) (a3:Version):Option Bool:=
 if seq a1.Name a2 then
  ((zW a3 a1.Low).bind fun x5=>
  if decide (x5≥0) then
   ((zW a3 a1.High).bind fun x8=>
   some (decide (x8<0)))
  else
   (some false))
 else
  (some false)
noncomputable def uH (a1:Pack) (a2:Term):Option Bool:=
 if seq a2.Name a1.Name then
  ((tV a2 a2.Name a1.Version).bind fun x4=>
  some x4)
 else
  ((wN a1.Provides a2.Name).bind fun x6=>
  if x6 then
   ((tV a2 a2.Name a1.Version).bind fun x9=>
   some x9)
  else
   (some false))
noncomputable def zAK (a1:(List Pack)) (a2:(List Int)) (a3:Term) (a4:Int) (s17:Int):Option (Lp Int (Fl Bool Unit)):=
 if decide (s17< (a2.length:Int)) then
  ((idx a2 s17).bind fun x19=>
  (if x19 !=a4 then
    ((idx a2 s17).bind fun x22=>
    (idx a1 x22).bind fun x24=>
    (uH x24 a3).bind fun x26=>
    some x26)
   else
    (some false)).bind fun v28=>
  if v28 then
   (some (Lp.done (Fl.ret true)))
  else
   (some (Lp.go (w64 (s17+1)))))
 else
  (some (Lp.done (Fl.nxt ())))
noncomputable def zB4 (a1:(List Pack)) (a2:(List Int)) (a3:Term) (a4:Int):Int→Option (Fl Bool Unit):=loop (zAK a1 a2 a3 a4)
noncomputable def kQ (a1:(List Pack)) (a2:(List Int)) (a3:Term) (a4:Int):Option Bool:=
 (zB4 a1 a2 a3 a4 0).bind (Fl.go some fun v30=>
 some false)
noncomputable def zBK (a1:(List Pack)) (a2:(List Int)) (a3:(List Term)) (s10:Int):Option (Lp Int (Fl Bool Unit)):=
 if decide (s10< (a3.length:Int)) then
  ((idx a3 s10).bind fun x12=>
  (kQ a1 a2 x12 (-1)).bind fun x14=>
  if x14 then
   (some (Lp.done (Fl.ret true)))
  else
   (some (Lp.go (w64 (s10+1)))))
 else
  (some (Lp.done (Fl.nxt ())))
noncomputable def zCn (a1:(List Pack)) (a2:(List Int)) (a3:(List Term)):Int→Option (Fl Bool Unit):=loop (zBK a1 a2 a3)
noncomputable def zAm (a1:(List Pack)) (a2:(List Int)) (a3:(List Term)):Option Bool:=
 (zCn a1 a2 a3 0).bind (Fl.go some fun v17=>
 some false)
noncomputable def zAq (a1:(List Pack)) (a2:(List Int)) (s82:((List yM)×Int)) (x86:Pack) (s147:((List yM)×Int)):Option (Lp ((List yM)×Int) (List yM)):=
 if decide (s147.2< (x86.Bars.length:Int)) then
  ((idx x86.Bars s147.2).bind fun x149=>
  (idx a2 s82.2).bind fun x151=>
  (kQ a1 a2 x149 x151).bind fun x153=>
  (if x153 then
    ((idx a2 s82.2).bind fun x156=>
    (app 24 s147.1 [({Kind:=3,Pack:=x156,At:=s147.2}:yM)]).bind fun x158=>
    some x158)
   else
    (some s147.1)).bind fun v160=>
  some (Lp.go (v160,w64 (s147.2+1))))
 else
  (some (Lp.done s147.1))
noncomputable def zAM (a1:(List Pack)) (a2:(List Int)) (s82:((List yM)×Int)) (x86:Pack):((List yM)×Int)→Option (List yM):=loop (zAq a1 a2 s82 x86)
noncomputable def zAl (a1:(List Pack)) (a2:(List Int)) (s82:((List yM)×Int)) (x86:Pack) (s121:((List yM)×Int)):Option (Lp ((List yM)×Int) (List yM)):=
 if decide (s121.2< (x86.Needs.length:Int)) then
  ((idx x86.Needs s121.2).bind fun x123=>
  (zAm a1 a2 x123).bind fun x125=>
  (if !x125 then
    ((idx a2 s82.2).bind fun x128=>
    (app 24 s121.1 [({Kind:=2,Pack:=x128,At:=s121.2}:yM)]).bind fun x130=>
    some x130)
   else
    (some s121.1)).bind fun v132=>
  some (Lp.go (v132,w64 (s121.2+1))))
 else
  (some (Lp.done s121.1))
noncomputable def zAH (a1:(List Pack)) (a2:(List Int)) (s82:((List yM)×Int)) (x86:Pack):((List yM)×Int)→Option (List yM):=loop (zAl a1 a2 s82 x86)
noncomputable def zAp (a1:(List Pack)) (a2:(List Int)) (s82:((List yM)×Int)) (x86:Pack) (s98:Int):Option (Lp Int (List yM)):=
 if decide (s98<s82.2) then
  ((idx a2 s98).bind fun x100=>
  (idx a1 x100).bind fun x102=>
  if seq x102.Name x86.Name then
   ((idx a2 s82.2).bind fun x105=>
   (app 24 s82.1 [({Kind:=1,Pack:=x105,At:=0}:yM)]).bind fun x107=>
   some (Lp.done x107))
  else
   (some (Lp.go (w64 (s98+1)))))
 else
  (some (Lp.done s82.1))
noncomputable def jX (a1:(List Pack)) (a2:(List Int)) (s82:((List yM)×Int)) (x86:Pack):Int→Option (List yM):=loop (zAp a1 a2 s82 x86)
noncomputable def zAt (a1:(List Pack)) (a2:(List Int)) (s82:((List yM)×Int)):Option (Lp ((List yM)×Int) (List yM)):=
 if decide (s82.2< (a2.length:Int)) then
  ((idx a2 s82.2).bind fun x84=>
  (idx a1 x84).bind fun x86=>
  (jX a1 a2 s82 x86 0).bind fun v109=>
  (zAH a1 a2 s82 x86 (v109,0)).bind fun v133=>
  (zAM a1 a2 s82 x86 (v133,0)).bind fun v161=>
  some (Lp.go (v161,w64 (s82.2+1))))
 else
  (some (Lp.done s82.1))
noncomputable def zAR (a1:(List Pack)) (a2:(List Int)):((List yM)×Int)→Option (List yM):=loop (zAt a1 a2)
noncomputable def tX (a1:(List Pack)) (a2:(List Int)):Option (List yM):=
 (zAR a1 a2 (([]:List yM),0)).bind fun v162=>
 some v162
noncomputable def zA2 (a2:(List Pack)) (x19:(Bool×zC)) (s53:(List Int)) (x59:yM) (s70:((List Int)×Int)):Option (Lp ((List Int)×Int) (List Int)):=
 if decide (s70.2< (s53.length:Int)) then
  ((idx s53 s70.2).bind fun x72=>
  (if x72 !=x59.Pack then
    ((idx s53 s70.2).bind fun x75=>
    (app 8 s70.1 [x75]).bind fun x77=>
    some x77)
   else
    (some s70.1)).bind fun v79=>
  some (Lp.go (v79,w64 (s70.2+1))))
 else
  (some (Lp.done s70.1))
noncomputable def uU (a2:(List Pack)) (x19:(Bool×zC)) (s53:(List Int)) (x59:yM):((List Int)×Int)→Option (List Int):=loop (zA2 a2 x19 s53 x59)
noncomputable def zA8 (a2:(List Pack)) (x19:(Bool×zC)) (s53:(List Int)):Option (Lp (List Int) (List Int)):=
 (tX a2 s53).bind fun x54=>
 if decide ((x54.length:Int)>0) then
  ((tX a2 s53).bind fun x57=>
  (idx x57 0).bind fun x59=>
  (uU a2 x19 s53 x59 (([]:List Int),0)).bind fun v80=>
  some (Lp.go v80))
 else
  (some (Lp.done s53))
noncomputable def uT (a2:(List Pack)) (x19:(Bool×zC)):(List Int)→Option (List Int):=loop (zA8 a2 x19)
noncomputable def jR (a2:(List Pack)) (s10:((List Int)×Int×(List Int)×Int)):Option (Lp ((List Int)×Int×(List Int)×Int) ((List Int)×Int×(List Int))):=
 if decide (s10.2.2.2< (a2.length:Int)) then
  ((zV ({Code:=s10.1,At:=s10.2.1}:zC) 3).bind fun x12=>
  (if x12.1 then
    ((app 8 s10.2.2.1 [s10.2.2.2]).bind fun x15=>
    some x15)
   else
    (some s10.2.2.1)).bind fun v17=>
  some (Lp.go (x12.2.Code,x12.2.At,v17,w64 (s10.2.2.2+1))))
 else
  (some (Lp.done (s10.1,s10.2.1,s10.2.2.1)))
noncomputable def kS (a2:(List Pack)):((List Int)×Int×(List Int)×Int)→Option ((List Int)×Int×(List Int)):=loop (jR a2)
noncomputable def vM (a1:zC) (a2:(List Pack)):Option ((List Int)×zC):=
 (kS a2 (a1.Code,a1.At,([]:List Int),0)).bind fun v18=>
 (zV ({Code:=v18.1,At:=v18.2.1}:zC) 2).bind fun x19=>
 (if x19.1 then
   ((yY a2).bind fun x22=>
   some (x22==0))
  else
   (some false)).bind fun v24=>
 (if v24 then
   ((uT a2 x19 v18.2.2).bind fun v81=>
   some v81)
  else
   (some v18.2.2)).bind fun v82=>
 (zV x19.2 24).bind fun x83=>
 (if x83.1 then
   ((yX x83.2 [(a2.length:Int),(-1),0]).bind fun x86=>
   (app 8 v82 [x86.1]).bind fun x88=>
   some (x86.2.Code,x86.2.At,x88))
  else
   (some (x83.2.Code,x83.2.At,v82))).bind fun v90=>
 some (v90.2.2,({Code:=v90.1,At:=v90.2.1}:zC))
noncomputable def zBC (a1:(List Pack)) (a2:(List Int)) (s16:Int):Option (Lp Int (Fl Bool Unit)):=
 if decide (s16< (a2.length:Int)) then
  ((idx a2 s16).bind fun x18=>
  (wY x18 0 (w64 ((a1.length:Int)-1))).bind fun x20=>
  (if !x20 then
    (some true)
   else
    (if decide (s16>0) then
     ((idx a2 s16).bind fun x24=>
     (idx a2 (w64 (s16-1))).bind fun x26=>
     some (decide (x24≤x26)))
    else
     (some false))).bind fun v28=>
  if v28 then
   (some (Lp.done (Fl.ret false)))
  else
   (some (Lp.go (w64 (s16+1)))))
 else
  (some (Lp.done (Fl.nxt ())))
noncomputable def zCk (a1:(List Pack)) (a2:(List Int)):Int→Option (Fl Bool Unit):=loop (zBC a1 a2)
noncomputable def zBa (a1:(List Pack)) (a2:(List Int)):Option Bool:=
 (zCk a1 a2 0).bind (Fl.go some fun v30=>
 some true)
noncomputable def uI (a2:(List Pack)) (s16:((List Int)×Int×(List Term)×Int)):Option (Lp ((List Int)×Int×(List Term)×Int) ((List Int)×Int×(List Term))):=
 (if decide (s16.2.2.2>0) then
   (some (decide ((a2.length:Int)>0)))
  else
   (some false)).bind fun v18=>
 if v18 then
  ((zL ({Code:=s16.1,At:=s16.2.1}:zC) (a2.length:Int)).bind fun x20=>
  (idx a2 x20.1).bind fun x22=>
  (vD x22.Name).bind fun x24=>
  (app 64 s16.2.2.1 [x24]).bind fun x26=>
  some (Lp.go (x20.2.Code,x20.2.At,x26,w64 (s16.2.2.2-1))))
 else
  (some (Lp.done (s16.1,s16.2.1,s16.2.2.1)))
noncomputable def zBD (a2:(List Pack)):((List Int)×Int×(List Term)×Int)→Option ((List Int)×Int×(List Term)):=loop (uI a2)
noncomputable def zCf (a1:zC) (a2:(List Pack)):Option ((List Term)×zC):=
 (zL a1 3).bind fun x3=>
 (zBD a2 (x3.2.Code,x3.2.At,([]:List Term),w64 (1+x3.1))).bind fun v28=>
 some (v28.2.2,({Code:=v28.1,At:=v28.2.1}:zC))
noncomputable def zAu (a1:(List yH)) (s7:((List Int)×Int)):Option (Lp ((List Int)×Int) (List Int)):=
 if decide (s7.2< (a1.length:Int)) then
  ((idx a1 s7.2).bind fun x9=>
  (app 8 s7.1 [x9.Pack]).bind fun x11=>
  some (Lp.go (x11,w64 (s7.2+1))))
 else
  (some (Lp.done s7.1))
noncomputable def zAJ (a1:(List yH)):((List Int)×Int)→Option (List Int):=loop (zAu a1)
noncomputable def zA3 (a1:(List yH)):Option (List Int):=
 (zAJ a1 (([]:List Int),0)).bind fun v13=>
 some v13
noncomputable def zAj (a1:(List Pack)) (a3:(List Int)) (s45:Int) (x49:Pack) (s59:Int):Option (Lp Int (Fl (List Term) Unit)):=
 if decide (s59< (x49.Needs.length:Int)) then
  ((idx x49.Needs s59).bind fun x61=>
  (zAm a1 a3 x61).bind fun x63=>
  if !x63 then
   ((idx x49.Needs s59).bind fun x66=>
   some (Lp.done (Fl.ret x66)))
  else
   (some (Lp.go (w64 (s59+1)))))
 else
  (some (Lp.done (Fl.nxt ())))
noncomputable def zAY (a1:(List Pack)) (a3:(List Int)) (s45:Int) (x49:Pack):Int→Option (Fl (List Term) Unit):=loop (zAj a1 a3 s45 x49)
noncomputable def zAr (a1:(List Pack)) (a3:(List Int)) (s45:Int):Option (Lp Int (Fl (List Term) Unit)):=
 if decide (s45< (a3.length:Int)) then
  ((idx a3 s45).bind fun x47=>
  (idx a1 x47).bind fun x49=>
  (zAY a1 a3 s45 x49 0).bind (Fl.go (fun r=>some (Lp.done (Fl.ret r))) fun v68=>
  some (Lp.go (w64 (s45+1)))))
 else
  (some (Lp.done (Fl.nxt ())))
noncomputable def zAU (a1:(List Pack)) (a3:(List Int)):Int→Option (Fl (List Term) Unit):=loop (zAr a1 a3)
noncomputable def zAh (a1:(List Pack)) (a2:(List Term)) (a3:(List Int)) (s12:Int):Option (Lp Int (Fl (List Term) Unit)):=
 if decide (s12< (a2.length:Int)) then
  ((zDJ a2 s12 (w64 (s12+1))).bind fun x14=>
  (zAm a1 a3 x14).bind fun x16=>
  if !x16 then
   ((zDJ a2 s12 (w64 (s12+1))).bind fun x19=>
   some (Lp.done (Fl.ret x19)))
  else
   (some (Lp.go (w64 (s12+1)))))
 else
  (some (Lp.done (Fl.nxt ())))
noncomputable def zAZ (a1:(List Pack)) (a2:(List Term)) (a3:(List Int)):Int→Option (Fl (List Term) Unit):=loop (zAh a1 a2 a3)
noncomputable def zA9 (a1:(List Pack)) (a2:(List Term)) (a3:(List Int)):Option (List Term):=
 (zAZ a1 a2 a3 0).bind (Fl.go some fun v21=>
 (zAU a1 a3 0).bind (Fl.go some fun v69=>
 some ([]:List Term)))
noncomputable def zBF (a1:(List Int)) (a2:Int) (s16:((List Int)×Bool×Int)):Option (Lp ((List Int)×Bool×Int) ((List Int)×Bool)):=
 if decide (s16.2.2< (a1.length:Int)) then
  ((idx a1 s16.2.2).bind fun x18=>
  (if decide (x18>a2) then
    (some (!s16.2.1))
   else
    (some false)).bind fun v21=>
  (if v21 then
    ((app 8 s16.1 [a2]).bind fun x23=>
    some (x23,true))
   else
    (some (s16.1,s16.2.1))).bind fun v25=>
  (idx a1 s16.2.2).bind fun x26=>
  (app 8 v25.1 [x26]).bind fun x28=>
  some (Lp.go (x28,v25.2,w64 (s16.2.2+1))))
 else
  (some (Lp.done (s16.1,s16.2.1)))
noncomputable def zCv (a1:(List Int)) (a2:Int):((List Int)×Bool×Int)→Option ((List Int)×Bool):=loop (zBF a1 a2)
noncomputable def zCz (a1:(List Int)) (a2:Int):Option (List Int):=
 (zCv a1 a2 (([]:List Int),false,0)).bind fun v30=>
 (if !v30.2 then
   ((app 8 v30.1 [a2]).bind fun x32=>
   some x32)
  else
   (some v30.1)).bind fun v34=>
 some v34
noncomputable def zAs (a1:(List Int)) (s7:((List Int)×Int)):Option (Lp ((List Int)×Int) (List Int)):=
 if decide (s7.2< (a1.length:Int)) then
  ((idx a1 s7.2).bind fun x9=>
  (zCz s7.1 x9).bind fun x11=>
  some (Lp.go (x11,w64 (s7.2+1))))
 else
  (some (Lp.done s7.1))
noncomputable def zAD (a1:(List Int)):((List Int)×Int)→Option (List Int):=loop (zAs a1)
noncomputable def zA4 (a1:(List Int)):Option (List Int):=
 (zAD a1 (([]:List Int),0)).bind fun v13=>
 some v13
noncomputable def zBM (a1:(List Int)) (a2:Int) (s7:Int):Option (Lp Int (Fl Bool Unit)):=
 if decide (s7< (a1.length:Int)) then
  ((idx a1 s7).bind fun x9=>
  if x9==a2 then
   (some (Lp.done (Fl.ret true)))
  else
   (some (Lp.go (w64 (s7+1)))))
 else
  (some (Lp.done (Fl.nxt ())))
noncomputable def zCq (a1:(List Int)) (a2:Int):Int→Option (Fl Bool Unit):=loop (zBM a1 a2)
noncomputable def wP (a1:(List Int)) (a2:Int):Option Bool:=
 (zCq a1 a2 0).bind (Fl.go some fun v12=>
 some false)
noncomputable def kJ (a1:(List Pack)) (a2:(List Term)) (a3:Int) (s12:Int):Option (Lp Int (Fl Bool Unit)):=
 if decide (s12< (a2.length:Int)) then
  ((idx a1 a3).bind fun x14=>
  (idx a2 s12).bind fun x16=>
  (uH x14 x16).bind fun x18=>
  if x18 then
   (some (Lp.done (Fl.ret true)))
  else
   (some (Lp.go (w64 (s12+1)))))
 else
  (some (Lp.done (Fl.nxt ())))
noncomputable def zAk (a1:(List Pack)) (a2:(List Term)) (a3:Int):Int→Option (Fl Bool Unit):=loop (kJ a1 a2 a3)
noncomputable def vG (a1:(List Pack)) (a2:(List Term)) (a3:Int):Option Bool:=
 (zAk a1 a2 a3 0).bind (Fl.go some fun v21=>
 some false)
noncomputable def zBs (a1:(List Pack)) (a2:(List Int)) (a3:Int) (s27:Int):Option (Lp Int (Fl Bool Unit)):=
 if decide (s27< (a2.length:Int)) then
  ((idx a2 s27).bind fun x29=>
  (idx a1 x29).bind fun x31=>
  (idx a1 a3).bind fun x33=>
  (if seq x31.Name x33.Name then
    (some true)
   else
    ((idx a2 s27).bind fun x36=>
    (idx a1 x36).bind fun x38=>
    (vG a1 x38.Bars a3).bind fun x40=>
    if x40 then
     (some true)
    else
     ((idx a1 a3).bind fun x43=>
     (idx a2 s27).bind fun x45=>
     (vG a1 x43.Bars x45).bind fun x47=>
     some x47))).bind fun v49=>
  if v49 then
   (some (Lp.done (Fl.ret false)))
  else
   (some (Lp.go (w64 (s27+1)))))
 else
  (some (Lp.done (Fl.nxt ())))
noncomputable def zBI (a1:(List Pack)) (a2:(List Int)) (a3:Int):Int→Option (Fl Bool Unit):=loop (zBs a1 a2 a3)
noncomputable def zCe (a1:(List Pack)) (a2:(List Int)) (a3:Int):Option Bool:=
 (zBI a1 a2 a3 0).bind (Fl.go some fun v51=>
 some true)
noncomputable def zB1 (a1:(List Pack)) (a2:(List Int)) (a3:Int) (a4:Int):Option Bool:=
 (wP a2 a3).bind fun x5=>
 (wP a2 a4).bind fun x7=>
 if !(x5==x7) then
  ((wP a2 a3).bind fun x10=>
  some x10)
 else
  ((idx a1 a3).bind fun x12=>
  (idx a1 a4).bind fun x14=>
  (zW x12.Version x14.Version).bind fun x16=>
  if x16 !=0 then
   (some (decide (x16>0)))
  else
   (some (decide (a3<a4))))
noncomputable def kR (a1:(List Pack)) (a2:(List Term)) (a3:(List Int)) (a4:(List Int)) (a5:(List Int)) (s62:((List Int)×Int)) (s100:Int):Option (Lp Int Int):=
 (if decide (s100>0) then
   ((idx s62.1 (w64 (s100-1))).bind fun x102=>
   (zB1 a1 a5 s62.2 x102).bind fun x104=>
   some x104)
  else
   (some false)).bind fun v106=>
 if v106 then
  (some (Lp.go (w64 (s100-1))))
 else
  (some (Lp.done s100))
noncomputable def wL (a1:(List Pack)) (a2:(List Term)) (a3:(List Int)) (a4:(List Int)) (a5:(List Int)) (s62:((List Int)×Int)):Int→Option Int:=loop (kR a1 a2 a3 a4 a5 s62)
noncomputable def uR (a1:(List Pack)) (a2:(List Term)) (a3:(List Int)) (a4:(List Int)) (a5:(List Int)) (s62:((List Int)×Int)) (s71:(Bool×Int)):Option (Lp (Bool×Int) Bool):=
 if decide (s71.2< (a2.length:Int)) then
  ((if s71.1 then
     (some true)
    else
     ((idx a1 s62.2).bind fun x74=>
     (idx a2 s71.2).bind fun x76=>
     (uH x74 x76).bind fun x78=>
     some x78)).bind fun v80=>
  some (Lp.go (v80,w64 (s71.2+1))))
 else
  (some (Lp.done s71.1))
noncomputable def tH (a1:(List Pack)) (a2:(List Term)) (a3:(List Int)) (a4:(List Int)) (a5:(List Int)) (s62:((List Int)×Int)):(Bool×Int)→Option Bool:=loop (uR a1 a2 a3 a4 a5 s62)
noncomputable def uN (a1:(List Pack)) (a2:(List Term)) (a3:(List Int)) (a4:(List Int)) (a5:(List Int)) (s62:((List Int)×Int)):Option (Lp ((List Int)×Int) (List Int)):=
 if decide (s62.2< (a1.length:Int)) then
  ((tH a1 a2 a3 a4 a5 s62 (false,0)).bind fun v81=>
  (if !v81 then
    (some true)
   else
    ((wP a3 s62.2).bind fun x83=>
    if x83 then
     (some true)
    else
     ((wP a4 s62.2).bind fun x86=>
     if x86 then
      (some true)
     else
      ((zCe a1 a3 s62.2).bind fun x89=>
      some (!x89))))).bind fun v91=>
  if v91 then
   (some (Lp.go (s62.1,w64 (s62.2+1))))
  else
   ((wL a1 a2 a3 a4 a5 s62 (s62.1.length:Int)).bind fun v108=>
   (zDJ s62.1 0 v108).bind fun x109=>
   (app 8 ([]:List Int) x109).bind fun x111=>
   (app 8 x111 [s62.2]).bind fun x113=>
   (zDJ s62.1 v108 (s62.1.length:Int)).bind fun x115=>
   (app 8 x113 x115).bind fun x117=>
   some (Lp.go (x117,w64 (s62.2+1)))))
 else
  (some (Lp.done s62.1))
noncomputable def tL (a1:(List Pack)) (a2:(List Term)) (a3:(List Int)) (a4:(List Int)) (a5:(List Int)):((List Int)×Int)→Option (List Int):=loop (uN a1 a2 a3 a4 a5)
noncomputable def vZ (a1:(List Pack)) (a2:(List Term)) (a3:(List Int)) (a4:(List Int)) (a5:(List Int)):Option (List Int):=
 (tL a1 a2 a3 a4 a5 (([]:List Int),0)).bind fun v119=>
 some v119
noncomputable def zAA (a1:(List Pack)) (a2:(List Term)) (a3:(List Int)) (a4:Int) (s53:((List yH)×(List Int)×Int)):Option (Lp ((List yH)×(List Int)×Int) (Fl SolveResult Unit)):=
 (zA3 s53.1).bind fun x54=>
 (zA9 a1 a2 x54).bind fun x56=>
 if (x56.length:Int)==0 then
  ((zA4 x54).bind fun x59=>
  some (Lp.done (Fl.ret ({Code:=0,Choices:=s53.2.2,Set:=x59}:SolveResult))))
 else
  ((vZ a1 x56 x54 s53.2.1 a3).bind fun x61=>
  if decide ((x61.length:Int)>0) then
   (if s53.2.2==a4 then
    (some (Lp.done (Fl.ret ({Code:=7,Choices:=s53.2.2,Set:=([]:List Int)}:SolveResult))))
   else
    ((idx x61 0).bind fun x65=>
    (app 32 s53.1 [({Pack:=x65,Denied:=s53.2.1}:yH)]).bind fun x67=>
    some (Lp.go (x67,s53.2.1,w64 (s53.2.2+1)))))
  else
   (if (s53.1.length:Int)==0 then
    (some (Lp.done (Fl.ret ({Code:=4,Choices:=s53.2.2,Set:=([]:List Int)}:SolveResult))))
   else
    ((idx s53.1 (w64 ((s53.1.length:Int)-1))).bind fun x70=>
    (zDJ s53.1 0 (w64 ((s53.1.length:Int)-1))).bind fun x72=>
    (app 8 ([]:List Int) x70.Denied).bind fun x74=>
    (app 8 x74 [x70.Pack]).bind fun x76=>
    some (Lp.go (x72,x76,s53.2.2)))))
noncomputable def zBy (a1:(List Pack)) (a2:(List Term)) (a3:(List Int)) (a4:Int):((List yH)×(List Int)×Int)→Option (Fl SolveResult Unit):=loop (zAA a1 a2 a3 a4)
noncomputable def zBu (a1:(List Pack)) (a2:(List Term)) (a3:(List Int)) (a4:Int):Option SolveResult:=
 (zBy a1 a2 a3 a4 (([]:List yH),([]:List Int),0)).bind (Fl.go some fun _=>none)
noncomputable def zBh (x2:((List Pack)×zC)) (s25:((List Int)×Int×(List Int)×(List Int)×Int)):Option (Lp ((List Int)×Int×(List Int)×(List Int)×Int) ((List Int)×Int×(List Int)×(List Int))):=
 (if decide (s25.2.2.2.2<4) then
   ((yY x2.1).bind fun x27=>
   if x27==0 then
    ((zBa x2.1 s25.2.2.1).bind fun x30=>
    if x30 then
     ((zV ({Code:=s25.1,At:=s25.2.1}:zC) 2).bind fun x33=>
     some (x33.2.Code,x33.2.At,x33.1))
    else
     (some (s25.1,s25.2.1,false)))
   else
    (some (s25.1,s25.2.1,false)))
  else
   (some (s25.1,s25.2.1,false))).bind fun v35=>
 if v35.2.2 then
  ((zCf ({Code:=v35.1,At:=v35.2.1}:zC) x2.1).bind fun x37=>
  (zBu x2.1 x37.1 s25.2.2.1 60).bind fun x39=>
  (if x39.Code==0 then
    (some (s25.2.2.2.1,x39.Set))
   else
    (some (s25.2.2.1,s25.2.2.2.1))).bind fun v42=>
  some (Lp.go (x37.2.Code,x37.2.At,v42.1,v42.2,w64 (s25.2.2.2.2+1))))
 else
  (some (Lp.done (v35.1,v35.2.1,s25.2.2.1,s25.2.2.2.1)))
noncomputable def zBJ (x2:((List Pack)×zC)):((List Int)×Int×(List Int)×(List Int)×Int)→Option ((List Int)×Int×(List Int)×(List Int)):=loop (zBh x2)
noncomputable def zCd (a1:zC):Option ((List Pack)×(List Int)×(List Int)×zC):=
 (kU a1).bind fun x2=>
 (vM x2.2 x2.1).bind fun x4=>
 (vM x4.2 x2.1).bind fun x6=>
 (zBJ x2 (x6.2.Code,x6.2.At,x4.1,x6.1,0)).bind fun v43=>
 some (x2.1,v43.2.2.1,v43.2.2.2,({Code:=v43.1,At:=v43.2.1}:zC))
noncomputable def uX (a1:(List Int)):Option ((List Pack)×(List Int)×(List Int)):=
 (zB9 a1).bind fun x2=>
 (zCd x2).bind fun x4=>
 some (x4.1,x4.2.1,x4.2.2.1)
noncomputable def jN (a1:Int):Option Bool:=
 if decide (a1≥97) then
  (if decide (a1≤122) then
   (some true)
  else
   (if decide (a1≥48) then
    (if decide (a1≤57) then
     (some true)
    else
     (some (a1==95)))
   else
    (some (a1==95))))
 else
  (if decide (a1≥48) then
   (if decide (a1≤57) then
    (some true)
   else
    (some (a1==95)))
  else
   (some (a1==95)))
noncomputable def zBc (a1:ByteArray) (s17:Int):Option (Lp Int (Fl Int Unit)):=
 if decide (s17< (a1.size:Int)) then
  ((bidx a1 s17).bind fun x19=>
  (jN x19).bind fun x21=>
  if !x21 then
   (some (Lp.done (Fl.ret 5)))
  else
   (some (Lp.go (w64 (s17+1)))))
 else
  (some (Lp.done (Fl.nxt ())))
noncomputable def jH (a1:ByteArray):Int→Option (Fl Int Unit):=loop (zBc a1)
noncomputable def wR (a1:ByteArray):Option Int:=
 (if decide ((a1.size:Int)<1) then
   (some true)
  else
   (if decide ((a1.size:Int)>12) then
    (some true)
   else
    ((bidx a1 0).bind fun x4=>
    if decide (x4<97) then
     (some true)
    else
     ((bidx a1 0).bind fun x7=>
     some (decide (x7>122)))))).bind fun v9=>
 if v9 then
  (some 5)
 else
  ((jH a1 0).bind (Fl.go some fun v24=>
  some 0))
noncomputable def xX (a1:Int) (a2:Int) (a3:Int):Option Bool:=
 if decide (a2≤a1) then
  (some (decide (a1≤a3)))
 else
  (some false)
noncomputable def xO (a1:Version):Option Int:=
 (xX a1.A 0 999).bind fun x2=>
 (if !x2 then
   (some true)
  else
   ((xX a1.B 0 999).bind fun x5=>
   if !x5 then
    (some true)
   else
    ((xX a1.C 0 999).bind fun x8=>
    some (!x8)))).bind fun v10=>
 if v10 then
  (some 3)
 else
  (some 0)
noncomputable def kD (a1:(List Int)) (s6:Int):Option (Lp Int (Fl Int Unit)):=
 if decide (s6< (a1.length:Int)) then
  ((idx a1 s6).bind fun x8=>
  if x8 !=0 then
   (some (Lp.done (Fl.ret x8)))
  else
   (some (Lp.go (w64 (s6+1)))))
 else
  (some (Lp.done (Fl.nxt ())))
noncomputable def jI (a1:(List Int)):Int→Option (Fl Int Unit):=loop (kD a1)
noncomputable def wS (a1:(List Int)):Option Int:=
 (jI a1 0).bind (Fl.go some fun v11=>
 some 0)
noncomputable def jZ (a1:(List Term)):Option Bool:=
 some (decide ((a1.length:Int)>4))
noncomputable def yD (a1:(List (List Term))) (s8:Int):Option (Lp Int (Fl Int Unit)):=
 if decide (s8< (a1.length:Int)) then
  ((idx a1 s8).bind fun x10=>
  (jZ x10).bind fun x12=>
  if x12 then
   (some (Lp.done (Fl.ret s8)))
  else
   (some (Lp.go (w64 (s8+1)))))
 else
  (some (Lp.done (Fl.nxt ())))
noncomputable def yF (a1:(List (List Term))):Int→Option (Fl Int Unit):=loop (yD a1)
noncomputable def zY (a1:(List (List Term))):Option Int:=
 (yF a1 0).bind (Fl.go some fun v15=>
 some (-1))
noncomputable def zM (a1:(List (List Term))):Option Bool:=
 (zY a1).bind fun x2=>
 some (decide (x2≥0))
noncomputable def vB (a1:(List ByteArray)) (a2:ByteArray) (s7:Int):Option (Lp Int (Fl Int Unit)):=
 if decide (s7< (a1.length:Int)) then
  ((idx a1 s7).bind fun x9=>
  if seq a2 x9 then
   (some (Lp.done (Fl.ret s7)))
  else
   (some (Lp.go (w64 (s7+1)))))
 else
  (some (Lp.done (Fl.nxt ())))
noncomputable def vL (a1:(List ByteArray)) (a2:ByteArray):Int→Option (Fl Int Unit):=loop (vB a1 a2)
noncomputable def vS (a1:(List ByteArray)) (a2:ByteArray):Option Int:=
 (vL a1 a2 0).bind (Fl.go some fun v12=>
 some (-1))
noncomputable def zJ (a1:(List ByteArray)) (a2:ByteArray):Option Bool:=
 (vS a1 a2).bind fun x3=>
 some (decide (x3≥0))
noncomputable def zDk:Option Version:=
 some ({A:=1000,B:=0,C:=0}:Version)
noncomputable def uK (a1:Int):Option Bool:=
 some (a1 !=a1)
noncomputable def xK (a1:Int) (a2:Int):Option Int:=
 (uK a1).bind fun x3=>
 (uK a2).bind fun x5=>
 if x3 then
  (if x5 then
   (some 0)
  else
   (some (-1)))
 else
  (if x5 then
   (some 1)
  else
   (if decide (a1<a2) then
    (some (-1))
   else
    (if decide (a1>a2) then
     (some 1)
    else
     (some 0))))
noncomputable def zBP (a1:(List Int)) (s6:Int):Option (Lp Int (Fl Int Unit)):=
 if decide (s6< (a1.length:Int)) then
  ((idx a1 s6).bind fun x8=>
  if x8 !=0 then
   (some (Lp.done (Fl.ret x8)))
  else
   (some (Lp.go (w64 (s6+1)))))
 else
  (some (Lp.done (Fl.nxt ())))
noncomputable def zCs (a1:(List Int)):Int→Option (Fl Int Unit):=loop (zBP a1)
noncomputable def zCG (a1:(List Int)):Option Int:=
 (zCs a1 0).bind (Fl.go some fun v11=>
 some 0)
noncomputable def zB2 (a1:Version) (a2:Version):Option Int:=
 (xK a1.A a2.A).bind fun x3=>
 (xK a1.B a2.B).bind fun x5=>
 (xK a1.C a2.C).bind fun x7=>
 (zCG [x3,x5,x7]).bind fun x9=>
 some x9
noncomputable def kX (a1:Term):Option Int:=
 (wR a1.Name).bind fun x2=>
 if x2 !=0 then
  (some x2)
 else
  ((xO a1.Low).bind fun x5=>
  if x5 !=0 then
   (some x5)
  else
   ((zDk).bind fun x8=>
   (if !(a1.High.A==x8.A&&(a1.High.B==x8.B&&(a1.High.C==x8.C&&true))) then
     ((xO a1.High).bind fun x11=>
     some (x11 !=0))
    else
     (some false)).bind fun v13=>
   if v13 then
    (some 3)
   else
    ((zB2 a1.Low a1.High).bind fun x15=>
    if decide (x15≥0) then
     (some 1)
    else
     (some 0))))
noncomputable def jP (a1:(List Term)) (s8:Int):Option (Lp Int (Fl Int Unit)):=
 if decide (s8< (a1.length:Int)) then
  ((idx a1 s8).bind fun x10=>
  (kX x10).bind fun x12=>
  if x12 !=0 then
   (some (Lp.done (Fl.ret x12)))
  else
   (some (Lp.go (w64 (s8+1)))))
 else
  (some (Lp.done (Fl.nxt ())))
noncomputable def kL (a1:(List Term)):Int→Option (Fl Int Unit):=loop (jP a1)
noncomputable def wU (a1:(List Term)):Option Int:=
 (kL a1 0).bind (Fl.go some fun v15=>
 some 0)
noncomputable def kE (a1:Pack) (s54:Int):Option (Lp Int (Fl Int Unit)):=
 if decide (s54< (a1.Needs.length:Int)) then
  ((idx a1.Needs s54).bind fun x56=>
  if (x56.length:Int)==0 then
   (some (Lp.done (Fl.ret 1)))
  else
   ((wU x56).bind fun x59=>
   if x59 !=0 then
    (some (Lp.done (Fl.ret x59)))
   else
    (some (Lp.go (w64 (s54+1))))))
 else
  (some (Lp.done (Fl.nxt ())))
noncomputable def jF (a1:Pack):Int→Option (Fl Int Unit):=loop (kE a1)
noncomputable def kM (a1:Pack) (s32:Int):Option (Lp Int (Fl Int Unit)):=
 if decide (s32< (a1.Provides.length:Int)) then
  ((idx a1.Provides s32).bind fun x34=>
  (wR x34).bind fun x36=>
  if x36 !=0 then
   (some (Lp.done (Fl.ret x36)))
  else
   ((if seq x34 a1.Name then
      (some true)
     else
      ((zDJ a1.Provides 0 s32).bind fun x40=>
      (zJ x40 x34).bind fun x42=>
      some x42)).bind fun v44=>
   if v44 then
    (some (Lp.done (Fl.ret 6)))
   else
    (some (Lp.go (w64 (s32+1))))))
 else
  (some (Lp.done (Fl.nxt ())))
noncomputable def jE (a1:Pack):Int→Option (Fl Int Unit):=loop (kM a1)
noncomputable def kZ (a1:Pack):Option Int:=
 (wR a1.Name).bind fun x2=>
 (xO a1.Version).bind fun x4=>
 (wS [x2,x4]).bind fun x6=>
 if x6 !=0 then
  (some x6)
 else
  ((xX a1.Size 1 200).bind fun x9=>
  if !x9 then
   (some 3)
  else
   ((if decide ((a1.Provides.length:Int)>4) then
      (some true)
     else
      (if decide ((a1.Needs.length:Int)>4) then
       (some true)
      else
       (if decide ((a1.Bars.length:Int)>4) then
        (some true)
       else
        ((zM a1.Needs).bind fun x15=>
        some x15)))).bind fun v17=>
   if v17 then
    (some 2)
   else
    ((jE a1 0).bind (Fl.go some fun v46=>
    (jF a1 0).bind (Fl.go some fun v62=>
    (wU a1.Bars).bind fun x63=>
    some x63)))))
noncomputable def zC2 (a1:Pack) (a2:ByteArray) (a3:Version):Option Bool:=
 if seq a1.Name a2 then
  (some (a1.Version.A==a3.A&&(a1.Version.B==a3.B&&(a1.Version.C==a3.C&&true))))
 else
  (some false)
noncomputable def yR (a1:(List Pack)) (a2:ByteArray) (a3:Version) (s10:Int):Option (Lp Int (Fl Int Unit)):=
 if decide (s10< (a1.length:Int)) then
  ((idx a1 s10).bind fun x12=>
  (zC2 x12 a2 a3).bind fun x14=>
  if x14 then
   (some (Lp.done (Fl.ret s10)))
  else
   (some (Lp.go (w64 (s10+1)))))
 else
  (some (Lp.done (Fl.nxt ())))
noncomputable def yS (a1:(List Pack)) (a2:ByteArray) (a3:Version):Int→Option (Fl Int Unit):=loop (yR a1 a2 a3)
noncomputable def yL (a1:(List Pack)) (a2:ByteArray) (a3:Version):Option Int:=
 (yS a1 a2 a3 0).bind (Fl.go some fun v17=>
 some (-1))
noncomputable def zC6 (a1:(List Pack)) (a2:ByteArray) (a3:Version):Option Int:=
 (yL a1 a2 a3).bind fun x4=>
 some x4
noncomputable def uL (a1:(List Pack)) (s14:Int):Option (Lp Int (Fl Int Unit)):=
 if decide (s14< (a1.length:Int)) then
  ((idx a1 s14).bind fun x16=>
  (kZ x16).bind fun x18=>
  if x18 !=0 then
   (some (Lp.done (Fl.ret x18)))
  else
   ((zDJ a1 0 s14).bind fun x21=>
   (zC6 x21 x16.Name x16.Version).bind fun x23=>
   if decide (x23≥0) then
    (some (Lp.done (Fl.ret 6)))
   else
    (some (Lp.go (w64 (s14+1))))))
 else
  (some (Lp.done (Fl.nxt ())))
noncomputable def tK (a1:(List Pack)):Int→Option (Fl Int Unit):=loop (uL a1)
noncomputable def vW (a1:(List Pack)):Option Int:=
 if decide ((a1.length:Int)>24) then
  (some 2)
 else
  ((tK a1 0).bind (Fl.go some fun v26=>
  some 0))
noncomputable def jY (a1:Int) (a2:(List Pack)):Option Bool:=
 (xX a1 0 (w64 ((a2.length:Int)-1))).bind fun x3=>
 some (!x3)
noncomputable def yK (a1:(List Int)) (a2:(List Pack)) (s9:Int):Option (Lp Int (Fl Int Unit)):=
 if decide (s9< (a1.length:Int)) then
  ((idx a1 s9).bind fun x11=>
  (jY x11 a2).bind fun x13=>
  if x13 then
   (some (Lp.done (Fl.ret s9)))
  else
   (some (Lp.go (w64 (s9+1)))))
 else
  (some (Lp.done (Fl.nxt ())))
noncomputable def yP (a1:(List Int)) (a2:(List Pack)):Int→Option (Fl Int Unit):=loop (yK a1 a2)
noncomputable def yI (a1:(List Int)) (a2:(List Pack)):Option Int:=
 (yP a1 a2 0).bind (Fl.go some fun v16=>
 some (-1))
noncomputable def zZ (a1:(List Int)) (a2:(List Pack)):Option Bool:=
 (yI a1 a2).bind fun x3=>
 some (decide (x3≥0))
noncomputable def kV (a1:(List Pack)) (a2:(List Int)):Option Bool:=
 (zZ a2 a1).bind fun x3=>
 some (!x3)
noncomputable def vC (a1:(List Pack)) (a2:(List Int)) (s12:Int):Option (Lp Int (Fl Int Unit)):=
 if decide (s12< (a2.length:Int)) then
  ((idx a2 s12).bind fun x14=>
  (idx a2 (w64 (s12-1))).bind fun x16=>
  if decide (x14≤x16) then
   (some (Lp.done (Fl.ret 1)))
  else
   (some (Lp.go (w64 (s12+1)))))
 else
  (some (Lp.done (Fl.nxt ())))
noncomputable def jV (a1:(List Pack)) (a2:(List Int)):Int→Option (Fl Int Unit):=loop (vC a1 a2)
noncomputable def tO (a1:(List Pack)) (a2:(List Int)):Option Int:=
 (vW a1).bind fun x3=>
 if x3 !=0 then
  (some x3)
 else
  ((jV a1 a2 1).bind (Fl.go some fun v19=>
  (kV a1 a2).bind fun x20=>
  if !x20 then
   (some 1)
  else
   (some 0)))
noncomputable def zBE (a1:(List Pack)) (a2:(List Int)) (a3:ByteArray) (s10:Int):Option (Lp Int (Fl Int Unit)):=
 if decide (s10< (a2.length:Int)) then
  ((idx a2 s10).bind fun x12=>
  (idx a1 x12).bind fun x14=>
  if seq x14.Name a3 then
   (some (Lp.done (Fl.ret x12)))
  else
   (some (Lp.go (w64 (s10+1)))))
 else
  (some (Lp.done (Fl.nxt ())))
noncomputable def zCx (a1:(List Pack)) (a2:(List Int)) (a3:ByteArray):Int→Option (Fl Int Unit):=loop (zBE a1 a2 a3)
noncomputable def vY (a1:(List Pack)) (a2:(List Int)) (a3:ByteArray):Option Int:=
 (zCx a1 a2 a3 0).bind (Fl.go some fun v17=>
 some (-1))
noncomputable def zAW (a1:(List Pack)) (a2:(List Int)) (s13:Int):Option (Lp Int (Fl Bool Unit)):=
 if decide (s13< (a2.length:Int)) then
  ((idx a2 s13).bind fun x15=>
  (zDJ a2 0 s13).bind fun x17=>
  (idx a1 x15).bind fun x19=>
  (vY a1 x17 x19.Name).bind fun x21=>
  if decide (x21≥0) then
   (some (Lp.done (Fl.ret true)))
  else
   (some (Lp.go (w64 (s13+1)))))
 else
  (some (Lp.done (Fl.nxt ())))
noncomputable def zBo (a1:(List Pack)) (a2:(List Int)):Int→Option (Fl Bool Unit):=loop (zAW a1 a2)
noncomputable def jC (a1:(List Pack)) (a2:(List Int)):Option Bool:=
 (zBo a1 a2 0).bind (Fl.go some fun v24=>
 some false)
noncomputable def wG (a1:(List Pack)) (a2:(List Int)) (a3:(List Int)):Option Int:=
 (tO a1 a2).bind fun x4=>
 (tO a1 a3).bind fun x6=>
 (wS [x4,x6]).bind fun x8=>
 (if x8==0 then
   ((jC a1 a2).bind fun x11=>
   if x11 then
    (some true)
   else
    ((jC a1 a3).bind fun x14=>
    some x14))
  else
   (some false)).bind fun v16=>
 (if v16 then
   (some 6)
  else
   (some x8)).bind fun v18=>
 some v18
noncomputable def jM (a1:Int):Option (List Int):=if 0≤a1∧a1*8≤140737488355328∧a1≤4611686018427387904 then some [] else none
noncomputable def xD (a1:(List (List Int))) (s19:((List Int)×Int)):Option (Lp ((List Int)×Int) (List Int)):=
 if decide (s19.2< (a1.length:Int)) then
  ((idx a1 s19.2).bind fun x21=>
  (app 8 s19.1 x21).bind fun x23=>
  some (Lp.go (x23,w64 (s19.2+1))))
 else
  (some (Lp.done s19.1))
noncomputable def vN (a1:(List (List Int))):((List Int)×Int)→Option (List Int):=loop (xD a1)
noncomputable def yZ (a1:(List (List Int))) (s6:(Int×Int)):Option (Lp (Int×Int) Int):=
 if decide (s6.2< (a1.length:Int)) then
  ((idx a1 s6.2).bind fun x8=>
  if decide ((w64 (s6.1+(x8.length:Int)))<0) then
   (none)
  else
   (some (Lp.go (w64 (s6.1+(x8.length:Int)),w64 (s6.2+1)))))
 else
  (some (Lp.done s6.1))
noncomputable def vJ (a1:(List (List Int))):(Int×Int)→Option Int:=loop (yZ a1)
noncomputable def xI (a1:(List (List Int))):Option (List Int):=
 (vJ a1 (0,0)).bind fun v11=>
 (jM v11).bind fun x12=>
 (vN a1 (x12,0)).bind fun v25=>
 some v25
noncomputable def wM (a1:List ByteArray):Option (List ByteArray):=if a1.length≤4611686018427387903 then some (((a1.map (·.data.toList)).mergeSort fun x y=>decide (x≤y)).map fun l=>(⟨l.toArray⟩:ByteArray)) else none
noncomputable def wB (s41:Int) (x48:(List ByteArray)) (s61:((List ByteArray)×Int×Int)):Option (Lp ((List ByteArray)×Int×Int) ((List ByteArray)×Int)):=
 if decide (s61.2.2< (x48.length:Int)) then
  ((zH4 s61.1 s41 x48.length s61.2.2).bind fun x63=>
  (zH4 s61.1 s41 x48.length (w64 (s61.2.2-1))).bind fun x65=>
  (if !(seq x63 x65) then
    ((zH4 s61.1 s41 x48.length s61.2.2).bind fun x68=>
    (idx s61.1 s61.2.1).bind fun x70=>
    some (s61.1.set s61.2.1.toNat x68,w64 (s61.2.1+1)))
   else
    (some (s61.1,s61.2.1))).bind fun v72=>
  some (Lp.go (v72.1,v72.2,w64 (s61.2.2+1))))
 else
  (some (Lp.done (s61.1,s61.2.1)))
noncomputable def xU (s41:Int) (x48:(List ByteArray)):((List ByteArray)×Int×Int)→Option ((List ByteArray)×Int):=loop (wB s41 x48)
noncomputable def xC (a1:(List ByteArray)) (s41:Int):Option (Lp Int (Fl (List ByteArray) Unit)):=
 if decide (s41< (a1.length:Int)) then
  ((idx a1 s41).bind fun x43=>
  (idx a1 (w64 (s41-1))).bind fun x45=>
  if seq x43 x45 then
   ((zDJ a1 s41 (a1.length:Int)).bind fun x48=>
   (xU s41 x48 (a1,s41,1)).bind fun v73=>
   (zDJ v73.1 v73.2 (v73.1.length:Int)).bind fun x74=>
   (zKp v73.1 v73.2 x74.length ByteArray.empty).bind fun x76=>
   (zDJ x76 0 v73.2).bind fun x78=>
   some (Lp.done (Fl.ret x78)))
  else
   (some (Lp.go (w64 (s41+1)))))
 else
  (some (Lp.done (Fl.nxt ())))
noncomputable def wH (a1:(List ByteArray)):Int→Option (Fl (List ByteArray) Unit):=loop (xC a1)
noncomputable def xV (a1:(List ByteArray)):Option (List ByteArray):=
 if decide ((a1.length:Int)<2) then
  (some a1)
 else
  ((wH a1 1).bind (Fl.go some fun v80=>
  some a1))
noncomputable def wO (a1:(List ByteArray)):Option (List ByteArray):=
 (wM a1).bind fun x2=>
 (same x2 a1).bind fun u4=>
 (xV x2).bind fun x6=>
 some x6
noncomputable def zAL (a1:(List Pack)) (a2:(List Int)) (a3:(List Int)) (x4:(List Int)) (s19:((List ByteArray)×Int)):Option (Lp ((List ByteArray)×Int) (List ByteArray)):=
 if decide (s19.2< (x4.length:Int)) then
  ((idx x4 s19.2).bind fun x21=>
  (idx a1 x21).bind fun x23=>
  (vY a1 a2 x23.Name).bind fun x25=>
  (vY a1 a3 x23.Name).bind fun x27=>
  (if x25 !=x27 then
    ((app 16 s19.1 [x23.Name]).bind fun x30=>
    some x30)
   else
    (some s19.1)).bind fun v32=>
  some (Lp.go (v32,w64 (s19.2+1))))
 else
  (some (Lp.done s19.1))
noncomputable def zBl (a1:(List Pack)) (a2:(List Int)) (a3:(List Int)) (x4:(List Int)):((List ByteArray)×Int)→Option (List ByteArray):=loop (zAL a1 a2 a3 x4)
noncomputable def wX (a1:(List Pack)) (a2:(List Int)) (a3:(List Int)):Option (List ByteArray):=
 (xI [a2,a3]).bind fun x4=>
 (zBl a1 a2 a3 x4 (([]:List ByteArray),0)).bind fun v33=>
 (wO v33).bind fun x34=>
 some x34
noncomputable def vK (a1:(List Pack)) (x5:Int) (x7:Int) (s18:((List Pack)×Int)):Option (Lp ((List Pack)×Int) (List Pack)):=
 if decide (s18.2< ([x5,x7].length :Int)) then
  ((idx [x5,x7] s18.2).bind fun x20=>
  (if decide (x20≥0) then
    ((idx a1 x20).bind fun x23=>
    (app 120 s18.1 [x23]).bind fun x25=>
    some x25)
   else
    (some s18.1)).bind fun v27=>
  some (Lp.go (v27,w64 (s18.2+1))))
 else
  (some (Lp.done s18.1))
noncomputable def zAx (a1:(List Pack)) (x5:Int) (x7:Int):((List Pack)×Int)→Option (List Pack):=loop (vK a1 x5 x7)
noncomputable def uF (a1:(List Pack)) (a2:(List Int)) (a3:(List Int)) (a4:ByteArray):Option (List Pack):=
 (vY a1 a2 a4).bind fun x5=>
 (vY a1 a3 a4).bind fun x7=>
 (zAx a1 x5 x7 (([]:List Pack),0)).bind fun v28=>
 some v28
noncomputable def zAB (x5:(List Pack)) (s12:((List ByteArray)×Int)):Option (Lp ((List ByteArray)×Int) (List ByteArray)):=
 if decide (s12.2< (x5.length:Int)) then
  ((idx x5 s12.2).bind fun x14=>
  (app 16 s12.1 x14.Provides).bind fun x16=>
  some (Lp.go (x16,w64 (s12.2+1))))
 else
  (some (Lp.done s12.1))
noncomputable def zBt (x5:(List Pack)):((List ByteArray)×Int)→Option (List ByteArray):=loop (zAB x5)
noncomputable def uO (a1:(List Pack)) (a2:(List Int)) (a3:(List Int)) (a4:ByteArray):Option (List ByteArray):=
 (uF a1 a2 a3 a4).bind fun x5=>
 (zBt x5 ([a4],0)).bind fun v18=>
 (wO v18).bind fun x19=>
 some x19
noncomputable def uW (a1:Int):Option (List Term):=if 0≤a1∧a1*64≤140737488355328∧a1≤4611686018427387904 then some [] else none
noncomputable def wF (a1:(List (List Term))) (s19:((List Term)×Int)):Option (Lp ((List Term)×Int) (List Term)):=
 if decide (s19.2< (a1.length:Int)) then
  ((idx a1 s19.2).bind fun x21=>
  (app 64 s19.1 x21).bind fun x23=>
  some (Lp.go (x23,w64 (s19.2+1))))
 else
  (some (Lp.done s19.1))
noncomputable def wI (a1:(List (List Term))):((List Term)×Int)→Option (List Term):=loop (wF a1)
noncomputable def wC (a1:(List (List Term))) (s6:(Int×Int)):Option (Lp (Int×Int) Int):=
 if decide (s6.2< (a1.length:Int)) then
  ((idx a1 s6.2).bind fun x8=>
  if decide ((w64 (s6.1+(x8.length:Int)))<0) then
   (none)
  else
   (some (Lp.go (w64 (s6.1+(x8.length:Int)),w64 (s6.2+1)))))
 else
  (some (Lp.done s6.1))
noncomputable def wJ (a1:(List (List Term))):(Int×Int)→Option Int:=loop (wC a1)
noncomputable def xW (a1:(List (List Term))):Option (List Term):=
 (wJ a1 (0,0)).bind fun v11=>
 (uW v11).bind fun x12=>
 (wI a1 (x12,0)).bind fun v25=>
 some v25
noncomputable def vU (x4:(List Term)) (s11:((List ByteArray)×Int)):Option (Lp ((List ByteArray)×Int) (List ByteArray)):=
 if decide (s11.2< (x4.length:Int)) then
  ((idx x4 s11.2).bind fun x13=>
  (app 16 s11.1 [x13.Name]).bind fun x15=>
  some (Lp.go (x15,w64 (s11.2+1))))
 else
  (some (Lp.done s11.1))
noncomputable def uJ (x4:(List Term)):((List ByteArray)×Int)→Option (List ByteArray):=loop (vU x4)
noncomputable def xP (a1:Pack):Option (List ByteArray):=
 (xW a1.Needs).bind fun x2=>
 (app 64 x2 a1.Bars).bind fun x4=>
 (uJ x4 (([]:List ByteArray),0)).bind fun v17=>
 (wO v17).bind fun x18=>
 some x18
noncomputable def wQ (a1:ByteArray) (a2:(List ByteArray)):Option Bool:=
 (zJ a2 a1).bind fun x3=>
 some x3
noncomputable def zU (a1:(List ByteArray)) (a2:(List ByteArray)) (s9:Int):Option (Lp Int (Fl Int Unit)):=
 if decide (s9< (a1.length:Int)) then
  ((idx a1 s9).bind fun x11=>
  (wQ x11 a2).bind fun x13=>
  if x13 then
   (some (Lp.done (Fl.ret s9)))
  else
   (some (Lp.go (w64 (s9+1)))))
 else
  (some (Lp.done (Fl.nxt ())))
noncomputable def yN (a1:(List ByteArray)) (a2:(List ByteArray)):Int→Option (Fl Int Unit):=loop (zU a1 a2)
noncomputable def yB (a1:(List ByteArray)) (a2:(List ByteArray)):Option Int:=
 (yN a1 a2 0).bind (Fl.go some fun v16=>
 some (-1))
noncomputable def zQ (a1:(List ByteArray)) (a2:(List ByteArray)):Option Bool:=
 (yB a1 a2).bind fun x3=>
 some (decide (x3≥0))
noncomputable def vR (a1:Pack) (a2:(List ByteArray)):Option Bool:=
 (xP a1).bind fun x3=>
 (zQ x3 a2).bind fun x5=>
 some x5
noncomputable def zT (a1:(List Pack)) (a2:(List ByteArray)) (s9:Int):Option (Lp Int (Fl Int Unit)):=
 if decide (s9< (a1.length:Int)) then
  ((idx a1 s9).bind fun x11=>
  (vR x11 a2).bind fun x13=>
  if x13 then
   (some (Lp.done (Fl.ret s9)))
  else
   (some (Lp.go (w64 (s9+1)))))
 else
  (some (Lp.done (Fl.nxt ())))
noncomputable def yO (a1:(List Pack)) (a2:(List ByteArray)):Int→Option (Fl Int Unit):=loop (zT a1 a2)
noncomputable def yC (a1:(List Pack)) (a2:(List ByteArray)):Option Int:=
 (yO a1 a2 0).bind (Fl.go some fun v16=>
 some (-1))
noncomputable def zO (a1:(List Pack)) (a2:(List ByteArray)):Option Bool:=
 (yC a1 a2).bind fun x3=>
 some (decide (x3≥0))
noncomputable def xR (a1:ByteArray) (a2:(List ByteArray)) (a3:(List Pack)) (a4:(List Int)) (a5:(List Int)):Option Bool:=
 (uF a3 a4 a5 a1).bind fun x6=>
 (zO x6 a2).bind fun x8=>
 some x8
noncomputable def vP (a1:Term) (a2:(List ByteArray)):Option Bool:=
 (zJ a2 a1.Name).bind fun x3=>
 some x3
noncomputable def zX (a1:(List Term)) (a2:(List ByteArray)) (s9:Int):Option (Lp Int (Fl Int Unit)):=
 if decide (s9< (a1.length:Int)) then
  ((idx a1 s9).bind fun x11=>
  (vP x11 a2).bind fun x13=>
  if x13 then
   (some (Lp.done (Fl.ret s9)))
  else
   (some (Lp.go (w64 (s9+1)))))
 else
  (some (Lp.done (Fl.nxt ())))
noncomputable def yQ (a1:(List Term)) (a2:(List ByteArray)):Int→Option (Fl Int Unit):=loop (zX a1 a2)
noncomputable def yG (a1:(List Term)) (a2:(List ByteArray)):Option Int:=
 (yQ a1 a2 0).bind (Fl.go some fun v16=>
 some (-1))
noncomputable def zR (a1:(List Term)) (a2:(List ByteArray)):Option Bool:=
 (yG a1 a2).bind fun x3=>
 some (decide (x3≥0))
noncomputable def xQ (a1:(List ByteArray)) (a2:(List Term)):Option Bool:=
 (zR a2 a1).bind fun x3=>
 some x3
noncomputable def tJ (a1:(List Pack)) (x6:(List ByteArray)) (x8:(List ByteArray)) (x17:(List Int)) (s46:Int) (x50:Pack) (s62:Int):Option (Lp Int (Fl Bool Unit)):=
 if decide (s62< (x50.Needs.length:Int)) then
  ((idx x50.Needs s62).bind fun x64=>
  (xQ x6 x64).bind fun x66=>
  (if x66 then
    ((xQ x8 x64).bind fun x69=>
    some x69)
   else
    (some false)).bind fun v71=>
  if v71 then
   (some (Lp.done (Fl.ret true)))
  else
   (some (Lp.go (w64 (s62+1)))))
 else
  (some (Lp.done (Fl.nxt ())))
noncomputable def jS (a1:(List Pack)) (x6:(List ByteArray)) (x8:(List ByteArray)) (x17:(List Int)) (s46:Int) (x50:Pack):Int→Option (Fl Bool Unit):=loop (tJ a1 x6 x8 x17 s46 x50)
noncomputable def vQ (a1:(List Pack)) (x6:(List ByteArray)) (x8:(List ByteArray)) (x17:(List Int)) (s46:Int):Option (Lp Int (Fl Bool Unit)):=
 if decide (s46< (x17.length:Int)) then
  ((idx x17 s46).bind fun x48=>
  (idx a1 x48).bind fun x50=>
  (jS a1 x6 x8 x17 s46 x50 0).bind (Fl.go (fun r=>some (Lp.done (Fl.ret r))) fun v73=>
  some (Lp.go (w64 (s46+1)))))
 else
  (some (Lp.done (Fl.nxt ())))
noncomputable def jO (a1:(List Pack)) (x6:(List ByteArray)) (x8:(List ByteArray)) (x17:(List Int)):Int→Option (Fl Bool Unit):=loop (vQ a1 x6 x8 x17)
noncomputable def yV (a1:(List Pack)) (a2:(List Int)) (a3:(List Int)) (a4:ByteArray) (a5:ByteArray):Option Bool:=
 (uO a1 a2 a3 a4).bind fun x6=>
 (uO a1 a2 a3 a5).bind fun x8=>
 (xR a4 x8 a1 a2 a3).bind fun x10=>
 (if x10 then
   (some true)
  else
   ((xR a5 x6 a1 a2 a3).bind fun x13=>
   some x13)).bind fun v15=>
 if v15 then
  (some true)
 else
  ((xI [a2,a3]).bind fun x17=>
  (jO a1 x6 x8 x17 0).bind (Fl.go some fun v74=>
  some false))
noncomputable def zAO (a1:(List Pack)) (a2:(List Int)) (a3:(List Int)) (s133:((List (List ByteArray))×(List ByteArray))) (s226:((List ByteArray)×(List ByteArray)×Int)) (s241:((List ByteArray)×(List ByteArray)×Int)):Option (Lp ((List ByteArray)×(List ByteArray)×Int) ((List ByteArray)×(List ByteArray))):=
 if decide (s241.2.2< (s226.1.length:Int)) then
  ((idx s226.1 s241.2.2).bind fun x243=>
  (idx s241.1 s226.2.2).bind fun x245=>
  (yV a1 a2 a3 x245 x243).bind fun x247=>
  (if x247 then
    ((app 16 s241.1 [x243]).bind fun x250=>
    some (x250,s241.2.1))
   else
    ((app 16 s241.2.1 [x243]).bind fun x252=>
    some (s241.1,x252))).bind fun v254=>
  some (Lp.go (v254.1,v254.2,w64 (s241.2.2+1))))
 else
  (some (Lp.done (s241.1,s241.2.1)))
noncomputable def zAd (a1:(List Pack)) (a2:(List Int)) (a3:(List Int)) (s133:((List (List ByteArray))×(List ByteArray))) (s226:((List ByteArray)×(List ByteArray)×Int)):((List ByteArray)×(List ByteArray)×Int)→Option ((List ByteArray)×(List ByteArray)):=loop (zAO a1 a2 a3 s133 s226)
noncomputable def zBU (a1:(List Pack)) (a2:(List Int)) (a3:(List Int)) (s133:((List (List ByteArray))×(List ByteArray))) (s226:((List ByteArray)×(List ByteArray)×Int)):Option (Lp ((List ByteArray)×(List ByteArray)×Int) ((List ByteArray)×(List ByteArray))):=
 if decide (s226.2.2< (s226.2.1.length:Int)) then
  ((zAd a1 a2 a3 s133 s226 (s226.2.1,([]:List ByteArray),0)).bind fun v255=>
  some (Lp.go (v255.2,v255.1,w64 (s226.2.2+1))))
 else
  (some (Lp.done (s226.1,s226.2.1)))
noncomputable def zAn (a1:(List Pack)) (a2:(List Int)) (a3:(List Int)) (s133:((List (List ByteArray))×(List ByteArray))):((List ByteArray)×(List ByteArray)×Int)→Option ((List ByteArray)×(List ByteArray)):=loop (zBU a1 a2 a3 s133)
noncomputable def zAI (a1:(List Pack)) (a2:(List Int)) (a3:(List Int)) (s133:((List (List ByteArray))×(List ByteArray))) (x137:(List ByteArray)) (s182:((List ByteArray)×(List ByteArray)×Int)):Option (Lp ((List ByteArray)×(List ByteArray)×Int) ((List ByteArray)×(List ByteArray))):=
 if decide (s182.2.2< (x137.length:Int)) then
  ((zH4 s133.2 1 x137.length s182.2.2).bind fun x184=>
  (idx s182.1 0).bind fun x186=>
  (yV a1 a2 a3 x186 x184).bind fun x188=>
  (if x188 then
    ((app 16 s182.1 [x184]).bind fun x191=>
    some (x191,s182.2.1))
   else
    ((app 16 s182.2.1 [x184]).bind fun x193=>
    some (s182.1,x193))).bind fun v195=>
  some (Lp.go (v195.1,v195.2,w64 (s182.2.2+1))))
 else
  (some (Lp.done (s182.1,s182.2.1)))
noncomputable def zAe (a1:(List Pack)) (a2:(List Int)) (a3:(List Int)) (s133:((List (List ByteArray))×(List ByteArray))) (x137:(List ByteArray)):((List ByteArray)×(List ByteArray)×Int)→Option ((List ByteArray)×(List ByteArray)):=loop (zAI a1 a2 a3 s133 x137)
noncomputable def zAC (a1:(List Pack)) (a2:(List Int)) (a3:(List Int)) (s133:((List (List ByteArray))×(List ByteArray))):Option (Lp ((List (List ByteArray))×(List ByteArray)) (List (List ByteArray))):=
 if decide ((s133.2.length:Int)>0) then
  ((zDJ s133.2 0 1).bind fun x135=>
  (zDJ s133.2 1 (s133.2.length:Int)).bind fun x137=>
  if decide (0< (x135.length:Int)) then
   ((zAe a1 a2 a3 s133 x137 (x135,([]:List ByteArray),0)).bind fun v196=>
   (zAn a1 a2 a3 s133 (v196.2,v196.1,w64 (0+1))).bind fun v256=>
   (wO v256.2).bind fun x257=>
   (app 24 s133.1 [x257]).bind fun x259=>
   some (Lp.go (x259,v256.1)))
  else
   (none))
 else
  (some (Lp.done s133.1))
noncomputable def uG (a1:(List Pack)) (a2:(List Int)) (a3:(List Int)):((List (List ByteArray))×(List ByteArray))→Option (List (List ByteArray)):=loop (zAC a1 a2 a3)
noncomputable def zBz (a1:(List Pack)) (a2:(List Int)) (a3:(List Int)):Option (List (List ByteArray)):=
 (wX a1 a2 a3).bind fun x4=>
 (uG a1 a2 a3 (([]:List (List ByteArray)),x4)).bind fun v261=>
 some v261
noncomputable def zB0 (a1:(List Pack)) (a2:(List Int)) (a3:(List Int)):Option yA:=
 (wG a1 a2 a3).bind fun x4=>
 if x4 !=0 then
  (some ({Code:=x4,Parts:=([]:List (List ByteArray))}:yA))
 else
  ((zBz a1 a2 a3).bind fun x7=>
  some ({Code:=0,Parts:=x7}:yA))
noncomputable def tQ (a1:(List Pack)) (a2:(List Int)):Option Int:=
 (yY a1).bind fun x3=>
 if x3 !=0 then
  (some x3)
 else
  ((zBa a1 a2).bind fun x6=>
  if !x6 then
   (some 1)
  else
   (some 0))
noncomputable def zBG (a1:(List Pack)) (a2:(List Int)) (a3:ByteArray) (s12:Int):Option (Lp Int (Fl Int Unit)):=
 if decide (s12< (a2.length:Int)) then
  ((idx a2 s12).bind fun x14=>
  (idx a1 x14).bind fun x16=>
  if seq x16.Name a3 then
   ((idx a2 s12).bind fun x19=>
   some (Lp.done (Fl.ret x19)))
  else
   (some (Lp.go (w64 (s12+1)))))
 else
  (some (Lp.done (Fl.nxt ())))
noncomputable def zCt (a1:(List Pack)) (a2:(List Int)) (a3:ByteArray):Int→Option (Fl Int Unit):=loop (zBG a1 a2 a3)
noncomputable def jJ (a1:(List Pack)) (a2:(List Int)) (a3:ByteArray):Option Int:=
 (zCt a1 a2 a3 0).bind (Fl.go some fun v21=>
 some (-1))
noncomputable def zAT (a1:(List Pack)) (a2:(List Int)) (s13:Int):Option (Lp Int (Fl Bool Unit)):=
 if decide (s13< (a2.length:Int)) then
  ((idx a2 s13).bind fun x15=>
  (idx a1 x15).bind fun x17=>
  (jJ a1 a2 x17.Name).bind fun x19=>
  (idx a2 s13).bind fun x21=>
  if x19 !=x21 then
   (some (Lp.done (Fl.ret false)))
  else
   (some (Lp.go (w64 (s13+1)))))
 else
  (some (Lp.done (Fl.nxt ())))
noncomputable def zBk (a1:(List Pack)) (a2:(List Int)):Int→Option (Fl Bool Unit):=loop (zAT a1 a2)
noncomputable def jA (a1:(List Pack)) (a2:(List Int)):Option Bool:=
 (zBk a1 a2 0).bind (Fl.go some fun v24=>
 some true)
noncomputable def kC (a1:(List Pack)) (a2:(List Int)) (a3:(List Int)):Option Int:=
 (tQ a1 a2).bind fun x4=>
 if x4 !=0 then
  (some x4)
 else
  ((tQ a1 a3).bind fun x7=>
  if x7 !=0 then
   (some x7)
  else
   ((jA a1 a2).bind fun x10=>
   (if !x10 then
     (some true)
    else
     ((jA a1 a3).bind fun x13=>
     some (!x13))).bind fun v15=>
   if v15 then
    (some 6)
   else
    (some 0)))
noncomputable def zCi (a1:(List Pack)) (a2:(List Int)) (a3:(List Int)):Option yA:=
 (kC a1 a2 a3).bind fun x4=>
 if x4 !=0 then
  (some ({Code:=x4,Parts:=([]:List (List ByteArray))}:yA))
 else
  (none)
noncomputable def uD (a1:(List Pack)) (a2:(List Int)) (a3:(List Int)):Option yE:=
 (wG a1 a2 a3).bind fun x4=>
 if x4 !=0 then
  (some ({Code:=x4,Names:=([]:List ByteArray)}:yE))
 else
  ((wX a1 a2 a3).bind fun x7=>
  some ({Code:=0,Names:=x7}:yE))
noncomputable def zAF (a1:(List ByteArray)) (a2:ByteArray) (s7:Int):Option (Lp Int (Fl Bool Unit)):=
 if decide (s7< (a1.length:Int)) then
  ((idx a1 s7).bind fun x9=>
  if seq x9 a2 then
   (some (Lp.done (Fl.ret true)))
  else
   (some (Lp.go (w64 (s7+1)))))
 else
  (some (Lp.done (Fl.nxt ())))
noncomputable def zBn (a1:(List ByteArray)) (a2:ByteArray):Int→Option (Fl Bool Unit):=loop (zAF a1 a2)
noncomputable def zBi (a1:(List ByteArray)) (a2:ByteArray):Option Bool:=
 (zBn a1 a2 0).bind (Fl.go some fun v12=>
 some false)
noncomputable def uV (a1:(List Pack)) (a2:(List Int)) (a3:(List Int)) (a4:ByteArray) (a5:ByteArray):Option Bool:=
 (wG a1 a2 a3).bind fun x6=>
 (if x6 !=0 then
   (some true)
  else
   (some (seq a4 a5))).bind fun v9=>
 if v9 then
  (some false)
 else
  ((wX a1 a2 a3).bind fun x11=>
  (zJ x11 a4).bind fun x13=>
  if x13 then
   ((zJ x11 a5).bind fun x16=>
   if x16 then
    ((yV a1 a2 a3 a4 a5).bind fun x19=>
    some x19)
   else
    (some false))
  else
   (some false))
noncomputable def zB5 (a1:(List ByteArray)) (a2:ByteArray) (s19:((List ByteArray)×Bool×Int)):Option (Lp ((List ByteArray)×Bool×Int) (Fl (List ByteArray) ((List ByteArray)×Bool))):=
 if decide (s19.2.2< (a1.length:Int)) then
  ((idx a1 s19.2.2).bind fun x21=>
  if seq x21 a2 then
   (some (Lp.done (Fl.ret a1)))
  else
   ((idx a1 s19.2.2).bind fun x24=>
   (if !(slt x24 a2||seq x24 a2) then
     (some (!s19.2.1))
    else
     (some false)).bind fun v27=>
   (if v27 then
     ((app 16 s19.1 [a2]).bind fun x29=>
     some (x29,true))
    else
     (some (s19.1,s19.2.1))).bind fun v31=>
   (idx a1 s19.2.2).bind fun x32=>
   (app 16 v31.1 [x32]).bind fun x34=>
   some (Lp.go (x34,v31.2,w64 (s19.2.2+1)))))
 else
  (some (Lp.done (Fl.nxt (s19.1,s19.2.1))))
noncomputable def zBH (a1:(List ByteArray)) (a2:ByteArray):((List ByteArray)×Bool×Int)→Option (Fl (List ByteArray) ((List ByteArray)×Bool)):=loop (zB5 a1 a2)
noncomputable def tC (a1:(List ByteArray)) (a2:ByteArray):Option (List ByteArray):=
 (zBH a1 a2 (([]:List ByteArray),false,0)).bind (Fl.go some fun v36=>
 (if !v36.2 then
   ((app 16 v36.1 [a2]).bind fun x38=>
   some x38)
  else
   (some v36.1)).bind fun v40=>
 some v40)
noncomputable def kP (a1:(List Pack)) (a2:(List Int)) (a3:(List Int)) (s15:((List ByteArray)×Int)):Option (Lp ((List ByteArray)×Int) (List ByteArray)):=
 if decide (s15.2< (a1.length:Int)) then
  ((idx a1 s15.2).bind fun x17=>
  (jJ a1 a2 x17.Name).bind fun x19=>
  (jJ a1 a3 x17.Name).bind fun x21=>
  (if x19 !=x21 then
    ((tC s15.1 x17.Name).bind fun x24=>
    some x24)
   else
    (some s15.1)).bind fun v26=>
  some (Lp.go (v26,w64 (s15.2+1))))
 else
  (some (Lp.done s15.1))
noncomputable def zAv (a1:(List Pack)) (a2:(List Int)) (a3:(List Int)):((List ByteArray)×Int)→Option (List ByteArray):=loop (kP a1 a2 a3)
noncomputable def uE (a1:(List Pack)) (a2:(List Int)) (a3:(List Int)):Option (List ByteArray):=
 (zAv a1 a2 a3 (([]:List ByteArray),0)).bind fun v27=>
 some v27
noncomputable def vV (a1:(List Pack)) (a2:(List Int)) (a3:(List Int)):Option yE:=
 (kC a1 a2 a3).bind fun x4=>
 if x4 !=0 then
  (some ({Code:=x4,Names:=([]:List ByteArray)}:yE))
 else
  ((uE a1 a2 a3).bind fun x7=>
  some ({Code:=0,Names:=x7}:yE))
noncomputable def zCa (x5:((List Pack)×(List Int)×(List Int))) (x7:yA) (x12:yE) (s394:(Int×Int)) (x396:(List ByteArray)) (s472:Int) (s514:Int) (s530:Int):Option (Lp Int (Fl Bool Unit)):=
 (idx x7.Parts s514).bind fun x531=>
 if decide (s530< (x531.length:Int)) then
  ((idx x7.Parts s394.2).bind fun x534=>
  (idx x534 s472).bind fun x536=>
  (idx x7.Parts s514).bind fun x538=>
  (idx x538 s530).bind fun x540=>
  (uV x5.1 x5.2.1 x5.2.2 x536 x540).bind fun x542=>
  if x542 then
   (some (Lp.done (Fl.ret false)))
  else
   (some (Lp.go (w64 (s530+1)))))
 else
  (some (Lp.done (Fl.nxt ())))
noncomputable def zAg (x5:((List Pack)×(List Int)×(List Int))) (x7:yA) (x12:yE) (s394:(Int×Int)) (x396:(List ByteArray)) (s472:Int) (s514:Int):Int→Option (Fl Bool Unit):=loop (zCa x5 x7 x12 s394 x396 s472 s514)
noncomputable def zBT (x5:((List Pack)×(List Int)×(List Int))) (x7:yA) (x12:yE) (s394:(Int×Int)) (x396:(List ByteArray)) (s472:Int) (s514:Int):Option (Lp Int (Fl Bool Unit)):=
 if decide (s514<s394.2) then
  ((zAg x5 x7 x12 s394 x396 s472 s514 0).bind (Fl.go (fun r=>some (Lp.done (Fl.ret r))) fun v545=>
  some (Lp.go (w64 (s514+1)))))
 else
  (some (Lp.done (Fl.nxt ())))
noncomputable def zAo (x5:((List Pack)×(List Int)×(List Int))) (x7:yA) (x12:yE) (s394:(Int×Int)) (x396:(List ByteArray)) (s472:Int):Int→Option (Fl Bool Unit):=loop (zBT x5 x7 x12 s394 x396 s472)
noncomputable def zBQ (x5:((List Pack)×(List Int)×(List Int))) (x7:yA) (x12:yE) (s394:(Int×Int)) (x396:(List ByteArray)) (s472:Int):Option (Lp Int (Fl Bool Unit)):=
 (idx x7.Parts s394.2).bind fun x473=>
 if decide (s472< (x473.length:Int)) then
  ((idx x7.Parts s394.2).bind fun x476=>
  (idx x476 s472).bind fun x478=>
  (zBi x12.Names x478).bind fun x480=>
  if !x480 then
   (some (Lp.done (Fl.ret false)))
  else
   ((zAo x5 x7 x12 s394 x396 s472 0).bind (Fl.go (fun r=>some (Lp.done (Fl.ret r))) fun v546=>
   some (Lp.go (w64 (s472+1))))))
 else
  (some (Lp.done (Fl.nxt ())))
noncomputable def zAf (x5:((List Pack)×(List Int)×(List Int))) (x7:yA) (x12:yE) (s394:(Int×Int)) (x396:(List ByteArray)):Int→Option (Fl Bool Unit):=loop (zBQ x5 x7 x12 s394 x396)
noncomputable def zAX (x5:((List Pack)×(List Int)×(List Int))) (x7:yA) (x12:yE) (s394:(Int×Int)):Option (Lp (Int×Int) (Fl Bool Int)):=
 if decide (s394.2< (x7.Parts.length:Int)) then
  ((idx x7.Parts s394.2).bind fun x396=>
  (zAf x5 x7 x12 s394 x396 0).bind (Fl.go (fun r=>some (Lp.done (Fl.ret r))) fun v547=>
  some (Lp.go (w64 (s394.1+(x396.length:Int)),w64 (s394.2+1)))))
 else
  (some (Lp.done (Fl.nxt s394.1)))
noncomputable def zBx (x5:((List Pack)×(List Int)×(List Int))) (x7:yA) (x12:yE):(Int×Int)→Option (Fl Bool Int):=loop (zAX x5 x7 x12)
noncomputable def zAz (a1:(List Int)):Option Bool:=
 (zCg a1).bind fun x2=>
 if x2 then
  (some true)
 else
  ((uX a1).bind fun x5=>
  (zB0 x5.1 x5.2.1 x5.2.2).bind fun x7=>
  if x7.Code !=0 then
   ((zCi x5.1 x5.2.1 x5.2.2).bind fun x10=>
   some (x10.Code==x7.Code))
  else
   ((uD x5.1 x5.2.1 x5.2.2).bind fun x12=>
   (zBx x5 x7 x12 (0,0)).bind (Fl.go some fun v548=>
   if v548==(x12.Names.length:Int) then
    ((vV x5.1 x5.2.1 x5.2.2).bind fun x550=>
    some ((x12.Names.length:Int)==(x550.Names.length:Int)))
   else
    (some false))))
noncomputable def zDm (a1:(List Pack)) (a2:(List Int)) (a3:(List Int)) (a4:ByteArray):Option (List Pack):=
 (jJ a1 a2 a4).bind fun x5=>
 (if decide (x5≥0) then
   ((idx a1 x5).bind fun x8=>
   (app 120 ([]:List Pack) [x8]).bind fun x10=>
   some x10)
  else
   (some ([]:List Pack))).bind fun v12=>
 (jJ a1 a3 a4).bind fun x13=>
 (if decide (x13≥0) then
   ((idx a1 x13).bind fun x16=>
   (app 120 v12 [x16]).bind fun x18=>
   some x18)
  else
   (some v12)).bind fun v20=>
 some v20
noncomputable def zBX (x5:(List Pack)) (s28:((List ByteArray)×Int)) (s39:((List ByteArray)×Int)):Option (Lp ((List ByteArray)×Int) (List ByteArray)):=
 (idx x5 s28.2).bind fun x40=>
 if decide (s39.2< (x40.Provides.length:Int)) then
  ((idx x5 s28.2).bind fun x43=>
  (idx x43.Provides s39.2).bind fun x45=>
  (tC s39.1 x45).bind fun x47=>
  some (Lp.go (x47,w64 (s39.2+1))))
 else
  (some (Lp.done s39.1))
noncomputable def zD9 (x5:(List Pack)) (s28:((List ByteArray)×Int)):((List ByteArray)×Int)→Option (List ByteArray):=loop (zBX x5 s28)
noncomputable def zBS (x5:(List Pack)) (s28:((List ByteArray)×Int)):Option (Lp ((List ByteArray)×Int) (List ByteArray)):=
 if decide (s28.2< (x5.length:Int)) then
  ((zD9 x5 s28 (s28.1,0)).bind fun v49=>
  some (Lp.go (v49,w64 (s28.2+1))))
 else
  (some (Lp.done s28.1))
noncomputable def zD1 (x5:(List Pack)):((List ByteArray)×Int)→Option (List ByteArray):=loop (zBS x5)
noncomputable def zCQ (a1:(List Pack)) (a2:(List Int)) (a3:(List Int)) (a4:ByteArray):Option (List ByteArray):=
 (zDm a1 a2 a3 a4).bind fun x5=>
 (zD1 x5 ([a4],0)).bind fun v50=>
 some v50
noncomputable def zA1 (a1:Pack) (s23:((List ByteArray)×Int)) (s34:((List ByteArray)×Int)):Option (Lp ((List ByteArray)×Int) (List ByteArray)):=
 (idx a1.Needs s23.2).bind fun x35=>
 if decide (s34.2< (x35.length:Int)) then
  ((idx a1.Needs s23.2).bind fun x38=>
  (idx x38 s34.2).bind fun x40=>
  (tC s34.1 x40.Name).bind fun x42=>
  some (Lp.go (x42,w64 (s34.2+1))))
 else
  (some (Lp.done s34.1))
noncomputable def zCU (a1:Pack) (s23:((List ByteArray)×Int)):((List ByteArray)×Int)→Option (List ByteArray):=loop (zA1 a1 s23)
noncomputable def zA6 (a1:Pack) (s51:((List ByteArray)×Int)):Option (Lp ((List ByteArray)×Int) (List ByteArray)):=
 if decide (s51.2< (a1.Bars.length:Int)) then
  ((idx a1.Bars s51.2).bind fun x53=>
  (tC s51.1 x53.Name).bind fun x55=>
  some (Lp.go (x55,w64 (s51.2+1))))
 else
  (some (Lp.done s51.1))
noncomputable def zCR (a1:Pack):((List ByteArray)×Int)→Option (List ByteArray):=loop (zA6 a1)
noncomputable def zA5 (a1:Pack) (s23:((List ByteArray)×Int)):Option (Lp ((List ByteArray)×Int) (List ByteArray)):=
 if decide (s23.2< (a1.Needs.length:Int)) then
  ((zCU a1 s23 (s23.1,0)).bind fun v44=>
  some (Lp.go (v44,w64 (s23.2+1))))
 else
  (some (Lp.done s23.1))
noncomputable def zCW (a1:Pack):((List ByteArray)×Int)→Option (List ByteArray):=loop (zA5 a1)
noncomputable def zCu (a1:Pack):Option (List ByteArray):=
 (zCW a1 (([]:List ByteArray),0)).bind fun v45=>
 (zCR a1 (v45,0)).bind fun v57=>
 some v57
noncomputable def zBY (a1:(List ByteArray)) (a2:(List ByteArray)) (s9:Int):Option (Lp Int (Fl Bool Unit)):=
 if decide (s9< (a1.length:Int)) then
  ((idx a1 s9).bind fun x11=>
  (wN a2 x11).bind fun x13=>
  if x13 then
   (some (Lp.done (Fl.ret true)))
  else
   (some (Lp.go (w64 (s9+1)))))
 else
  (some (Lp.done (Fl.nxt ())))
noncomputable def zD0 (a1:(List ByteArray)) (a2:(List ByteArray)):Int→Option (Fl Bool Unit):=loop (zBY a1 a2)
noncomputable def zD5 (a1:(List ByteArray)) (a2:(List ByteArray)):Option Bool:=
 (zD0 a1 a2 0).bind (Fl.go some fun v16=>
 some false)
noncomputable def zCp (a5:(List ByteArray)) (x6:(List Pack)) (s16:Int):Option (Lp Int (Fl Bool Unit)):=
 if decide (s16< (x6.length:Int)) then
  ((idx x6 s16).bind fun x18=>
  (zCu x18).bind fun x20=>
  (zD5 x20 a5).bind fun x22=>
  if x22 then
   (some (Lp.done (Fl.ret true)))
  else
   (some (Lp.go (w64 (s16+1)))))
 else
  (some (Lp.done (Fl.nxt ())))
noncomputable def zDW (a5:(List ByteArray)) (x6:(List Pack)):Int→Option (Fl Bool Unit):=loop (zCp a5 x6)
noncomputable def zDj (a1:(List Pack)) (a2:(List Int)) (a3:(List Int)) (a4:ByteArray) (a5:(List ByteArray)):Option Bool:=
 (zDm a1 a2 a3 a4).bind fun x6=>
 (zDW a5 x6 0).bind (Fl.go some fun v25=>
 some false)
noncomputable def zBA (a1:(List Term)) (a2:(List ByteArray)) (s9:Int):Option (Lp Int (Fl Bool Unit)):=
 if decide (s9< (a1.length:Int)) then
  ((idx a1 s9).bind fun x11=>
  (wN a2 x11.Name).bind fun x13=>
  if x13 then
   (some (Lp.done (Fl.ret true)))
  else
   (some (Lp.go (w64 (s9+1)))))
 else
  (some (Lp.done (Fl.nxt ())))
noncomputable def zDv (a1:(List Term)) (a2:(List ByteArray)):Int→Option (Fl Bool Unit):=loop (zBA a1 a2)
noncomputable def zCC (a1:(List Term)) (a2:(List ByteArray)):Option Bool:=
 (zDv a1 a2 0).bind (Fl.go some fun v16=>
 some false)
noncomputable def zA0 (a1:(List Pack)) (a2:(List Int)) (a3:(List ByteArray)) (a4:(List ByteArray)) (s36:Int) (x40:Pack) (s54:Int):Option (Lp Int (Fl Bool Unit)):=
 if decide (s54< (x40.Needs.length:Int)) then
  ((idx x40.Needs s54).bind fun x56=>
  (zCC x56 a3).bind fun x58=>
  (if x58 then
    ((idx x40.Needs s54).bind fun x61=>
    (zCC x61 a4).bind fun x63=>
    some x63)
   else
    (some false)).bind fun v65=>
  if v65 then
   (some (Lp.done (Fl.ret true)))
  else
   (some (Lp.go (w64 (s54+1)))))
 else
  (some (Lp.done (Fl.nxt ())))
noncomputable def zCX (a1:(List Pack)) (a2:(List Int)) (a3:(List ByteArray)) (a4:(List ByteArray)) (s36:Int) (x40:Pack):Int→Option (Fl Bool Unit):=loop (zA0 a1 a2 a3 a4 s36 x40)
noncomputable def zA7 (a1:(List Pack)) (a2:(List Int)) (a3:(List ByteArray)) (a4:(List ByteArray)) (s36:Int):Option (Lp Int (Fl Bool Unit)):=
 if decide (s36< (a2.length:Int)) then
  ((idx a2 s36).bind fun x38=>
  (idx a1 x38).bind fun x40=>
  (zCX a1 a2 a3 a4 s36 x40 0).bind (Fl.go (fun r=>some (Lp.done (Fl.ret r))) fun v67=>
  some (Lp.go (w64 (s36+1)))))
 else
  (some (Lp.done (Fl.nxt ())))
noncomputable def zCS (a1:(List Pack)) (a2:(List Int)) (a3:(List ByteArray)) (a4:(List ByteArray)):Int→Option (Fl Bool Unit):=loop (zA7 a1 a2 a3 a4)
noncomputable def zCw (a1:(List Pack)) (a2:(List Int)) (a3:(List ByteArray)) (a4:(List ByteArray)):Option Bool:=
 (zCS a1 a2 a3 a4 0).bind (Fl.go some fun v68=>
 some false)
noncomputable def kF (a1:(List Pack)) (a2:(List Int)) (a3:(List Int)) (a4:ByteArray) (a5:ByteArray):Option Bool:=
 (zCQ a1 a2 a3 a4).bind fun x6=>
 (zCQ a1 a2 a3 a5).bind fun x8=>
 (zDj a1 a2 a3 a4 x8).bind fun x10=>
 if x10 then
  (some true)
 else
  ((zDj a1 a2 a3 a5 x6).bind fun x13=>
  if x13 then
   (some true)
  else
   ((zCw a1 a2 x6 x8).bind fun x16=>
   if x16 then
    (some true)
   else
    ((zCw a1 a3 x6 x8).bind fun x19=>
    some x19)))
noncomputable def zBZ (a1:(List Pack)) (a2:(List Int)) (a3:(List Int)) (s206:((List ByteArray)×(List (List ByteArray)))) (s337:((List ByteArray)×Bool×Int)) (s358:((List ByteArray)×Bool×Int)):Option (Lp ((List ByteArray)×Bool×Int) ((List ByteArray)×Bool)):=
 (if decide (s358.2.2< (s358.1.length:Int)) then
   ((idx s206.1 s337.2.2).bind fun x360=>
   (wN s358.1 x360).bind fun x362=>
   some (!x362))
  else
   (some false)).bind fun v364=>
 if v364 then
  ((idx s358.1 s358.2.2).bind fun x366=>
  (idx s206.1 s337.2.2).bind fun x368=>
  (kF a1 a2 a3 x366 x368).bind fun x370=>
  (if x370 then
    ((idx s206.1 s337.2.2).bind fun x373=>
    (tC s358.1 x373).bind fun x375=>
    some (x375,true))
   else
    (some (s358.1,s358.2.1))).bind fun v377=>
  some (Lp.go (v377.1,v377.2,w64 (s358.2.2+1))))
 else
  (some (Lp.done (s358.1,s358.2.1)))
noncomputable def zDB (a1:(List Pack)) (a2:(List Int)) (a3:(List Int)) (s206:((List ByteArray)×(List (List ByteArray)))) (s337:((List ByteArray)×Bool×Int)):((List ByteArray)×Bool×Int)→Option ((List ByteArray)×Bool):=loop (zBZ a1 a2 a3 s206 s337)
noncomputable def zAP (a1:(List Pack)) (a2:(List Int)) (a3:(List Int)) (s206:((List ByteArray)×(List (List ByteArray)))) (s337:((List ByteArray)×Bool×Int)):Option (Lp ((List ByteArray)×Bool×Int) ((List ByteArray)×Bool)):=
 if decide (s337.2.2< (s206.1.length:Int)) then
  ((zDB a1 a2 a3 s206 s337 (s337.1,s337.2.1,0)).bind fun v378=>
  some (Lp.go (v378.1,v378.2,w64 (s337.2.2+1))))
 else
  (some (Lp.done (s337.1,s337.2.1)))
noncomputable def zD6 (a1:(List Pack)) (a2:(List Int)) (a3:(List Int)) (s206:((List ByteArray)×(List (List ByteArray)))):((List ByteArray)×Bool×Int)→Option ((List ByteArray)×Bool):=loop (zAP a1 a2 a3 s206)
noncomputable def zBV (a1:(List Pack)) (a2:(List Int)) (a3:(List Int)) (s206:((List ByteArray)×(List (List ByteArray)))) (v380:(List ByteArray)) (s392:((List ByteArray)×Int)):Option (Lp ((List ByteArray)×Int) (List ByteArray)):=
 if decide (s392.2< (s206.1.length:Int)) then
  ((idx s206.1 s392.2).bind fun x394=>
  (wN v380 x394).bind fun x396=>
  (if !x396 then
    ((idx s206.1 s392.2).bind fun x399=>
    (app 16 s392.1 [x399]).bind fun x401=>
    some x401)
   else
    (some s392.1)).bind fun v403=>
  some (Lp.go (v403,w64 (s392.2+1))))
 else
  (some (Lp.done s392.1))
noncomputable def zCN (a1:(List Pack)) (a2:(List Int)) (a3:(List Int)) (s206:((List ByteArray)×(List (List ByteArray)))) (v380:(List ByteArray)):((List ByteArray)×Int)→Option (List ByteArray):=loop (zBV a1 a2 a3 s206 v380)
noncomputable def zCA (a1:(List Pack)) (a2:(List Int)) (a3:(List Int)) (s206:((List ByteArray)×(List (List ByteArray)))) (s294:((List ByteArray)×Bool)):Option (Lp ((List ByteArray)×Bool) (List ByteArray)):=
 if s294.2 then
  ((zD6 a1 a2 a3 s206 (s294.1,false,0)).bind fun v379=>
  some (Lp.go (v379.1,v379.2)))
 else
  (some (Lp.done s294.1))
noncomputable def zCO (a1:(List Pack)) (a2:(List Int)) (a3:(List Int)) (s206:((List ByteArray)×(List (List ByteArray)))):((List ByteArray)×Bool)→Option (List ByteArray):=loop (zCA a1 a2 a3 s206)
noncomputable def zBW (a1:(List Pack)) (a2:(List Int)) (a3:(List Int)) (s206:((List ByteArray)×(List (List ByteArray)))):Option (Lp ((List ByteArray)×(List (List ByteArray))) (List (List ByteArray))):=
 if decide ((s206.1.length:Int)>0) then
  ((idx s206.1 0).bind fun x208=>
  (zCO a1 a2 a3 s206 ([x208],true)).bind fun v380=>
  (zCN a1 a2 a3 s206 v380 (([]:List ByteArray),0)).bind fun v404=>
  (app 24 s206.2 [v380]).bind fun x405=>
  some (Lp.go (v404,x405)))
 else
  (some (Lp.done s206.2))
noncomputable def zBj (a1:(List Pack)) (a2:(List Int)) (a3:(List Int)):((List ByteArray)×(List (List ByteArray)))→Option (List (List ByteArray)):=loop (zBW a1 a2 a3)
noncomputable def zEC (a1:(List Pack)) (a2:(List Int)) (a3:(List Int)):Option (List (List ByteArray)):=
 (uE a1 a2 a3).bind fun x4=>
 (zBj a1 a2 a3 (x4,([]:List (List ByteArray)))).bind fun v407=>
 some v407
end Go.Told

import Derived.Test.YtdeihchdibglaaaGreatDoorImF
set_option linter.unusedVariables false
set_option maxRecDepth 4000
namespace Go.Told
open Go Go.Im
noncomputable section
structure Version where
 A:Int
 B:Int
 C:Int
 deriving DecidableEq
def Version.enc (x:Version):List D:=[.sc (.int .i64 x.A),.sc (.int .i64 x.B),.sc (.int .i64 x.C)]
structure Term where
 Name:ByteArray
 Low:Version
 High:Version
 deriving DecidableEq
def Term.enc (x:Term):List D:=[.sc (.string x.Name),.sc (.int .i64 x.Low.A),.sc (.int .i64 x.Low.B),.sc (.int .i64 x.Low.C),.sc (.int .i64 x.High.A),.sc (.int .i64 x.High.B),.sc (.int .i64 x.High.C)]
structure Pack where
 Name:ByteArray
 Version:Version
 Size:Int
 Provides:(List ByteArray)
 Needs:(List (List Term))
 Bars:(List Term)
 deriving DecidableEq
def Pack.enc (o:Bool) (x:Pack):List D:=[.sc (.string x.Name),.sc (.int .i64 x.Version.A),.sc (.int .i64 x.Version.B),.sc (.int .i64 x.Version.C),.sc (.int .i64 x.Size),.s o 1 x.Provides.length (x.Provides.map eStr),.s o 1 x.Needs.length (x.Needs.map (eSl o 7 Term.enc)),.s o 7 x.Bars.length (x.Bars.map Term.enc)]
theorem Pack.ro (o:Bool) (x:Pack):D.ro.roC (Pack.enc o x)=Pack.enc false x:=by
 simp only [Pack.enc,D.ro.roC,D.ro,tQ (enc:=eStr) (enc':=eStr) (fun _=>rfl),tQ (enc:=(eSl o 7 Term.enc)) (enc':=(eSl false 7 Term.enc)) (zE7 (fun _=>rfl)),tQ (enc:=Term.enc) (enc':=Term.enc) (fun _=>rfl)]
structure xA where
 Code:Int
 Asks:(List Term)
 Sets:(List (List Int))
 deriving DecidableEq
def xA.enc (o:Bool) (x:xA):List D:=[.sc (.int .i64 x.Code),.s o 7 x.Asks.length (x.Asks.map Term.enc),.s o 1 x.Sets.length (x.Sets.map (eSl o 1 zF))]
structure File where
 Path:ByteArray
 Data:(List Int)
 deriving DecidableEq
def File.enc (o:Bool) (x:File):List D:=[.sc (.string x.Path),.s o 1 x.Data.length (x.Data.map eU8)]
theorem File.ro (o:Bool) (x:File):D.ro.roC (File.enc o x)=File.enc false x:=by
 simp only [File.enc,D.ro.roC,D.ro,tQ (enc:=eU8) (enc':=eU8) (fun _=>rfl)]
structure zP where
 Files:(List File)
 Budget:Int
 Writes:Int
 Stop:Int
 Down:Bool
 deriving DecidableEq
def zP.enc (o:Bool) (x:zP):List D:=[.s o 2 x.Files.length (x.Files.map (File.enc o)),.sc (.int .i64 x.Budget),.sc (.int .i64 x.Writes),.sc (.int .i64 x.Stop),.sc (.bool x.Down)]
structure zC where
 Code:(List Int)
 At:Int
 deriving DecidableEq
def zC.enc (o:Bool) (x:zC):List D:=[.s o 1 x.Code.length (x.Code.map eU8),.sc (.int .i64 x.At)]
structure zDq where
 Code:Int
 zP:zP
 deriving DecidableEq
def zDq.enc (o:Bool) (x:zDq):List D:=[.sc (.int .i64 x.Code),.s o 2 x.zP.Files.length (x.zP.Files.map (File.enc o)),.sc (.int .i64 x.zP.Budget),.sc (.int .i64 x.zP.Writes),.sc (.int .i64 x.zP.Stop),.sc (.bool x.zP.Down)]
structure wB where
 Code:Int
 At:Int
 Set:(List Int)
 deriving DecidableEq
def wB.enc (o:Bool) (x:wB):List D:=[.sc (.int .i64 x.Code),.sc (.int .i64 x.At),.s o 1 x.Set.length (x.Set.map zF)]
structure SolveResult where
 Code:Int
 Choices:Int
 Set:(List Int)
 deriving DecidableEq
def SolveResult.enc (o:Bool) (x:SolveResult):List D:=[.sc (.int .i64 x.Code),.sc (.int .i64 x.Choices),.s o 1 x.Set.length (x.Set.map zF)]
theorem SolveResult.fl (x:SolveResult):zHd (SolveResult.enc true x):=(flatK wV (flatK wV (flatK (zFY (zHH (fun _=>(flatK wV zIs)) _)) zIs)))
structure xC where
 Code:Int
 Term:Term
 deriving DecidableEq
def xC.enc (x:xC):List D:=[.sc (.int .i64 x.Code),.sc (.string x.Term.Name),.sc (.int .i64 x.Term.Low.A),.sc (.int .i64 x.Term.Low.B),.sc (.int .i64 x.Term.Low.C),.sc (.int .i64 x.Term.High.A),.sc (.int .i64 x.Term.High.B),.sc (.int .i64 x.Term.High.C)]
structure yS where
 Pack:Int
 Denied:(List Int)
 deriving DecidableEq
def yS.enc (o:Bool) (x:yS):List D:=[.sc (.int .i64 x.Pack),.s o 1 x.Denied.length (x.Denied.map zF)]
theorem yS.ro (o:Bool) (x:yS):D.ro.roC (yS.enc o x)=yS.enc false x:=by
 simp only [yS.enc,D.ro.roC,D.ro,tQ (enc:=zF) (enc':=zF) (fun _=>rfl)]
structure yU where
 Kind:Int
 Pack:Int
 At:Int
 deriving DecidableEq
def yU.enc (x:yU):List D:=[.sc (.int .i64 x.Kind),.sc (.int .i64 x.Pack),.sc (.int .i64 x.At)]
theorem yU.fl (x:yU):zHd (yU.enc x):=(flatK wV (flatK wV (flatK wV zIs)))
structure zQ where
 Code:Int
 Version:Version
 deriving DecidableEq
def zQ.enc (x:zQ):List D:=[.sc (.int .i64 x.Code),.sc (.int .i64 x.Version.A),.sc (.int .i64 x.Version.B),.sc (.int .i64 x.Version.C)]
def zEk (a1:(List Int)):Option Bool:=
 some (decide ((a1.length:Int)>1048576))
def zB5 (a1:(List Int)):Option zC:=
 some ({Code:=a1,At:=0}:zC)
def zH (a1:zC) (a2:Int):Option (Int×zC):=
 if decide (a2<1) then
  (some (0,({Code:=a1.Code,At:=w64 (a1.At+1)}:zC)))
 else
  (if (a1.Code.length:Int)==0 then
   ((zPo (w64 ((w64 ((w64 (a1.At+1))-1))*7)) a2).bind fun x5=>
   some (x5,({Code:=a1.Code,At:=w64 (a1.At+1)}:zC)))
  else
   ((zPo (w64 ((w64 (a1.At+1))-1)) (a1.Code.length:Int)).bind fun x7=>
   (idx a1.Code x7).bind fun x9=>
   (zRL .i64 (w64 ((w64 (a1.At+1))-1)) (a1.Code.length:Int)).bind fun x11=>
   (if decide (a2>200) then
     ((zPo (w64 ((w64 ((w64 (a1.At+1))-1))+1)) (a1.Code.length:Int)).bind fun x14=>
     (idx a1.Code x14).bind fun x16=>
     some (w64 ((w64 ((w64 ((w64 ((w64 (x9))+(w64 (x11*37))))*251))+(w64 ((w64 (x16))*13))))+(w64 ((w64 (a1.At+1))-1)))))
    else
     (some (w64 ((w64 (x9))+(w64 (x11*37)))))).bind fun v18=>
   (zPo v18 a2).bind fun x19=>
   some (x19,({Code:=a1.Code,At:=w64 (a1.At+1)}:zC))))
def zT (a1:zC) (a2:(List Int)):Option (Int×zC):=
 (zH a1 (a2.length:Int)).bind fun x3=>
 (idx a2 x3.1).bind fun x5=>
 some (x5,x3.2)
def wJ (a1:zC):Option (ByteArray×zC):=
 (zH a1 6).bind fun x2=>
 (idx [bs [97],bs [98],bs [99],bs [100],bs [108,105,98],bs [119,101,98]] x2.1).bind fun x4=>
 some (x4,x2.2)
def zI (a1:zC) (a2:Int):Option (Bool×zC):=
 (zH a1 a2).bind fun x3=>
 some (x3.1==0,x3.2)
def uK:Option Version:=
 some ({A:=1000,B:=0,C:=0}:Version)
def wT (a1:ByteArray):Option Term:=
 (uK).bind fun x2=>
 some ({Name:=a1,Low:=({A:=0,B:=0,C:=0}:Version),High:=x2}:Term)
def vX (a1:zC):Option (Version×zC):=
 (zH a1 4).bind fun x2=>
 (zH x2.2 3).bind fun x4=>
 (zT x4.2 [0,0,x4.1]).bind fun x6=>
 (zH x6.2 3).bind fun x8=>
 (zT x8.2 [0,0,0,x8.1]).bind fun x10=>
 some (({A:=x2.1,B:=x6.1,C:=x10.1}:Version),x10.2)
def wP (a1:zC):Option (Term×zC):=
 (wJ a1).bind fun x2=>
 (wT x2.1).bind fun x4=>
 (zI x2.2 2).bind fun x6=>
 (if x6.1 then
   ((vX x6.2).bind fun x9=>
   some (x9.2.Code,x9.2.At,x9.1.A,x9.1.B,x9.1.C))
  else
   (some (x6.2.Code,x6.2.At,x4.Low.A,x4.Low.B,x4.Low.C))).bind fun v11=>
 (zI ({Code:=v11.1,At:=v11.2.1}:zC) 3).bind fun x12=>
 (if x12.1 then
   ((zH x12.2 2).bind fun x15=>
   some (x15.2.Code,x15.2.At,w64 ((w64 (v11.2.2.1+1))+x15.1),0,0))
  else
   (some (x12.2.Code,x12.2.At,x4.High.A,x4.High.B,x4.High.C))).bind fun v17=>
 some (({Name:=x4.Name,Low:=({A:=v11.2.2.1,B:=v11.2.2.2.1,C:=v11.2.2.2.2}:Version),High:=({A:=v17.2.2.1,B:=v17.2.2.2.1,C:=v17.2.2.2.2}:Version)}:Term),({Code:=v17.1,At:=v17.2.1}:zC))
def zCY (x2:(ByteArray×zC)) (x4:(Int×zC)) (x6:(Int×zC)) (v15:((List Int)×Int×(List ByteArray))) (s60:((List Int)×Int×(List (List Term))×Int)):Option (Lp ((List Int)×Int×(List (List Term))×Int) ((List Int)×Int×(List (List Term)))):=
 if decide (s60.2.2.2>0) then
  ((wP ({Code:=s60.1,At:=s60.2.1}:zC)).bind fun x62=>
  (zI x62.2 3).bind fun x64=>
  (if x64.1 then
    ((wP x64.2).bind fun x67=>
    (app 64 [x62.1] [x67.1]).bind fun x69=>
    some (x67.2.Code,x67.2.At,x69))
   else
    (some (x64.2.Code,x64.2.At,[x62.1]))).bind fun v71=>
  (zI ({Code:=v71.1,At:=v71.2.1}:zC) 8).bind fun x72=>
  (if x72.1 then
    ((wT (bs [109,97,105,108])).bind fun x75=>
    (idx v71.2.2 0).bind fun x77=>
    some (v71.2.2.set ((0:Int).toNat) x75))
   else
    (some v71.2.2)).bind fun v79=>
  (app 24 s60.2.2.1 [v79]).bind fun x80=>
  some (Lp.go (x72.2.Code,x72.2.At,x80,w64 (s60.2.2.2-1))))
 else
  (some (Lp.done (s60.1,s60.2.1,s60.2.2.1)))
def zDB (x2:(ByteArray×zC)) (x4:(Int×zC)) (x6:(Int×zC)) (v15:((List Int)×Int×(List ByteArray))):((List Int)×Int×(List (List Term))×Int)→Option ((List Int)×Int×(List (List Term))):=loop (zCY x2 x4 x6 v15)
def zAE (a1:zC):Option (Pack×zC):=
 (wJ a1).bind fun x2=>
 (zH x2.2 3).bind fun x4=>
 (zH x4.2 9).bind fun x6=>
 (zI x6.2 5).bind fun x8=>
 (if x8.1 then
   ((zH x8.2 2).bind fun x11=>
   (idx [bs [109,97,105,108],bs [100,98]] x11.1).bind fun x13=>
   some (x11.2.Code,x11.2.At,[x13]))
  else
   (some (x8.2.Code,x8.2.At,([]:List ByteArray)))).bind fun v15=>
 (zT ({Code:=v15.1,At:=v15.2.1}:zC) [0,0,1,1,2]).bind fun x16=>
 (zDB x2 x4 x6 v15 (x16.2.Code,x16.2.At,([]:List (List Term)),x16.1)).bind fun v82=>
 (zI ({Code:=v82.1,At:=v82.2.1}:zC) 6).bind fun x83=>
 (if x83.1 then
   ((wP x83.2).bind fun x86=>
   (app 64 ([]:List Term) [x86.1]).bind fun x88=>
   some (x86.2.Code,x86.2.At,x88))
  else
   (some (x83.2.Code,x83.2.At,([]:List Term)))).bind fun v90=>
 some (({Name:=x2.1,Version:=({A:=w64 (1+x4.1),B:=0,C:=0}:Version),Size:=w64 (1+x6.1),Provides:=v15.2.2,Needs:=v82.2.2,Bars:=v90.2.2}:Pack),({Code:=v90.1,At:=v90.2.1}:zC))
def kY (a1:Int) (a2:Int):Option Int:=
 if decide (a1<a2) then
  (some (-1))
 else
  (if decide (a1>a2) then
   (some 1)
  else
   (some 0))
def zW (a1:Version) (a2:Version):Option Int:=
 (kY a1.A a2.A).bind fun x3=>
 if x3 !=0 then
  (some x3)
 else
  ((kY a1.B a2.B).bind fun x6=>
  if x6 !=0 then
   (some x6)
  else
   ((kY a1.C a2.C).bind fun x9=>
   some x9))
def zCU (a1:(List Pack)) (a2:ByteArray) (a3:Version) (s14:Int):Option (Lp Int (Fl Int Unit)):=
 if decide (s14< (a1.length:Int)) then
  ((idx a1 s14).bind fun x16=>
  (if seq x16.Name a2 then
    ((idx a1 s14).bind fun x19=>
    (zW x19.Version a3).bind fun x21=>
    some (x21==0))
   else
    (some false)).bind fun v23=>
  if v23 then
   (some (Lp.done (Fl.ret s14)))
  else
   (some (Lp.go (w64 (s14+1)))))
 else
  (some (Lp.done (Fl.nxt ())))
def zDC (a1:(List Pack)) (a2:ByteArray) (a3:Version):Int→Option (Fl Int Unit):=loop (zCU a1 a2 a3)
def uV (a1:(List Pack)) (a2:ByteArray) (a3:Version):Option Int:=
 (zDC a1 a2 a3 0).bind (Fl.go some fun v25=>
 some (-1))
def wK (a1:zC):Option (ByteArray×zC):=
 (zI a1 14).bind fun x2=>
 if x2.1 then
  ((zH x2.2 9).bind fun x5=>
  (idx [bs [],bs [49,97],bs [65],bs [97,98,99,100,101,102,103,104,105,106,107,108,109],bs [97,98,99,100,101,102,103,104,105,106,107,108],bs [97,32,98],bs [97,45],bs [95,97],bs [97,95,49]] x5.1).bind fun x7=>
  some (x7,x5.2))
 else
  ((wJ x2.2).bind fun x9=>
  some (x9.1,x9.2))
def xW (a1:zC):Option (Version×zC):=
 (vX a1).bind fun x2=>
 (zH x2.2 14).bind fun x4=>
 (if x4.1==0 then
   ((zT x4.2 [(-1),999,1000]).bind fun x7=>
   some (x7.2.Code,x7.2.At,x7.1,x2.1.B,x2.1.C))
  else
   (if x4.1==1 then
    ((zT x4.2 [(-1),999,1000]).bind fun x10=>
    some (x10.2.Code,x10.2.At,x2.1.A,x10.1,x2.1.C))
   else
    (if x4.1==2 then
     ((zT x4.2 [(-1),999,1000,4611686018427387904]).bind fun x13=>
     some (x13.2.Code,x13.2.At,x2.1.A,x2.1.B,x13.1))
    else
     (some (x4.2.Code,x4.2.At,x2.1.A,x2.1.B,x2.1.C))))).bind fun v15=>
 some (({A:=v15.2.2.1,B:=v15.2.2.2.1,C:=v15.2.2.2.2}:Version),({Code:=v15.1,At:=v15.2.1}:zC))
def wI (a1:zC):Option (Term×zC):=
 (wP a1).bind fun x2=>
 (zH x2.2 14).bind fun x4=>
 (if x4.1==0 then
   ((wK x4.2).bind fun x7=>
   some (x7.2.Code,x7.2.At,x7.1,x2.1.Low.A,x2.1.Low.B,x2.1.Low.C,x2.1.High.A,x2.1.High.B,x2.1.High.C))
  else
   (if x4.1==1 then
    ((xW x4.2).bind fun x10=>
    some (x10.2.Code,x10.2.At,x2.1.Name,x10.1.A,x10.1.B,x10.1.C,x2.1.High.A,x2.1.High.B,x2.1.High.C))
   else
    (if x4.1==2 then
     ((xW x4.2).bind fun x13=>
     some (x13.2.Code,x13.2.At,x2.1.Name,x2.1.Low.A,x2.1.Low.B,x2.1.Low.C,x13.1.A,x13.1.B,x13.1.C))
    else
     (if x4.1==3 then
      (some (x4.2.Code,x4.2.At,x2.1.Name,x2.1.Low.A,x2.1.Low.B,x2.1.Low.C,x2.1.Low.A,x2.1.Low.B,x2.1.Low.C))
     else
      (some (x4.2.Code,x4.2.At,x2.1.Name,x2.1.Low.A,x2.1.Low.B,x2.1.Low.C,x2.1.High.A,x2.1.High.B,x2.1.High.C)))))).bind fun v16=>
 some (({Name:=v16.2.2.1,Low:=({A:=v16.2.2.2.1,B:=v16.2.2.2.2.1,C:=v16.2.2.2.2.2.1}:Version),High:=({A:=v16.2.2.2.2.2.2.1,B:=v16.2.2.2.2.2.2.2.1,C:=v16.2.2.2.2.2.2.2.2}:Version)}:Term),({Code:=v16.1,At:=v16.2.1}:zC))
def kS (a1:zC):Option (Pack×zC):=
 (zAE a1).bind fun x2=>
 (zH x2.2 24).bind fun x4=>
 (if x4.1==0 then
   ((wK x4.2).bind fun x7=>
   some (x7.2.Code,x7.2.At,x7.1,x2.1.Version.A,x2.1.Version.B,x2.1.Version.C,x2.1.Size,x2.1.Provides,x2.1.Needs,x2.1.Bars))
  else
   (if x4.1==1 then
    ((xW x4.2).bind fun x10=>
    some (x10.2.Code,x10.2.At,x2.1.Name,x10.1.A,x10.1.B,x10.1.C,x2.1.Size,x2.1.Provides,x2.1.Needs,x2.1.Bars))
   else
    (if x4.1==2 then
     ((zT x4.2 [0,200,201]).bind fun x13=>
     some (x13.2.Code,x13.2.At,x2.1.Name,x2.1.Version.A,x2.1.Version.B,x2.1.Version.C,x13.1,x2.1.Provides,x2.1.Needs,x2.1.Bars))
    else
     (if x4.1==3 then
      ((wK x4.2).bind fun x16=>
      (app 16 x2.1.Provides [x16.1,x2.1.Name]).bind fun x18=>
      some (x16.2.Code,x16.2.At,x2.1.Name,x2.1.Version.A,x2.1.Version.B,x2.1.Version.C,x2.1.Size,x18,x2.1.Needs,x2.1.Bars))
     else
      (if x4.1==4 then
       ((app 24 x2.1.Needs [([]:List Term)]).bind fun x21=>
       some (x4.2.Code,x4.2.At,x2.1.Name,x2.1.Version.A,x2.1.Version.B,x2.1.Version.C,x2.1.Size,x2.1.Provides,x21,x2.1.Bars))
      else
       (if x4.1==5 then
        ((wI x4.2).bind fun x24=>
        (wI x24.2).bind fun x26=>
        (app 24 x2.1.Needs [[x24.1,x26.1]]).bind fun x28=>
        some (x26.2.Code,x26.2.At,x2.1.Name,x2.1.Version.A,x2.1.Version.B,x2.1.Version.C,x2.1.Size,x2.1.Provides,x28,x2.1.Bars))
       else
        (if x4.1==6 then
         ((wI x4.2).bind fun x31=>
         (app 64 x2.1.Bars [x31.1]).bind fun x33=>
         some (x31.2.Code,x31.2.At,x2.1.Name,x2.1.Version.A,x2.1.Version.B,x2.1.Version.C,x2.1.Size,x2.1.Provides,x2.1.Needs,x33))
        else
         (if x4.1==7 then
          ((mk 64 5 ({Name:=ByteArray.empty,Low:=({A:=0,B:=0,C:=0}:Version),High:=({A:=0,B:=0,C:=0}:Version)}:Term)).bind fun x36=>
          some (x4.2.Code,x4.2.At,x2.1.Name,x2.1.Version.A,x2.1.Version.B,x2.1.Version.C,x2.1.Size,x2.1.Provides,x2.1.Needs,x36))
         else
          (if x4.1==8 then
           ((mk 64 5 ({Name:=ByteArray.empty,Low:=({A:=0,B:=0,C:=0}:Version),High:=({A:=0,B:=0,C:=0}:Version)}:Term)).bind fun x39=>
           (app 24 x2.1.Needs [x39]).bind fun x41=>
           some (x4.2.Code,x4.2.At,x2.1.Name,x2.1.Version.A,x2.1.Version.B,x2.1.Version.C,x2.1.Size,x2.1.Provides,x41,x2.1.Bars))
          else
           (some (x4.2.Code,x4.2.At,x2.1.Name,x2.1.Version.A,x2.1.Version.B,x2.1.Version.C,x2.1.Size,x2.1.Provides,x2.1.Needs,x2.1.Bars))))))))))).bind fun v43=>
 some (({Name:=v43.2.2.1,Version:=({A:=v43.2.2.2.1,B:=v43.2.2.2.2.1,C:=v43.2.2.2.2.2.1}:Version),Size:=v43.2.2.2.2.2.2.1,Provides:=v43.2.2.2.2.2.2.2.1,Needs:=v43.2.2.2.2.2.2.2.2.1,Bars:=v43.2.2.2.2.2.2.2.2.2}:Pack),({Code:=v43.1,At:=v43.2.1}:zC))
def zAo (s15:((List Int)×Int×(List Pack)×Int)):Option (Lp ((List Int)×Int×(List Pack)×Int) ((List Int)×Int×(List Pack))):=
 if decide (s15.2.2.2>0) then
  ((zAE ({Code:=s15.1,At:=s15.2.1}:zC)).bind fun x17=>
  (uV s15.2.2.1 x17.1.Name x17.1.Version).bind fun x19=>
  (if decide (x19<0) then
    ((app 120 s15.2.2.1 [x17.1]).bind fun x22=>
    some x22)
   else
    (some s15.2.2.1)).bind fun v24=>
  some (Lp.go (x17.2.Code,x17.2.At,v24,w64 (s15.2.2.2-1))))
 else
  (some (Lp.done (s15.1,s15.2.1,s15.2.2.1)))
def zBn:((List Int)×Int×(List Pack)×Int)→Option ((List Int)×Int×(List Pack)):=loop zAo
def zAN (a1:zC):Option ((List Pack)×zC):=
 (zH a1 12).bind fun x2=>
 (zT x2.2 [3,4,5,6,7,8,x2.1]).bind fun x4=>
 (zBn (x4.2.Code,x4.2.At,([]:List Pack),x4.1)).bind fun v25=>
 (zH ({Code:=v25.1,At:=v25.2.1}:zC) 40).bind fun x26=>
 (if x26.1==0 then
   ((kS x26.2).bind fun x29=>
   (app 120 v25.2.2 [x29.1]).bind fun x31=>
   some (x29.2.Code,x29.2.At,x31))
  else
   (if x26.1==1 then
    (if decide ((v25.2.2.length:Int)>0) then
     ((idx v25.2.2 0).bind fun x35=>
     (app 120 v25.2.2 [x35]).bind fun x37=>
     some (x26.2.Code,x26.2.At,x37))
    else
     (some (x26.2.Code,x26.2.At,v25.2.2)))
   else
    (if x26.1==2 then
     ((mk 120 25 ({Name:=ByteArray.empty,Version:=({A:=0,B:=0,C:=0}:Version),Size:=0,Provides:=([]:List ByteArray),Needs:=([]:List (List Term)),Bars:=([]:List Term)}:Pack)).bind fun x40=>
     some (x26.2.Code,x26.2.At,x40))
    else
     (some (x26.2.Code,x26.2.At,v25.2.2))))).bind fun v42=>
 some (v42.2.2,({Code:=v42.1,At:=v42.2.1}:zC))
def vL (a1:Int):Option Bool:=
 if decide (a1≥97) then
  (some (decide (a1≤122)))
 else
  (some false)
def vO (a1:Int):Option Bool:=
 if decide (a1≥48) then
  (some (decide (a1≤57)))
 else
  (some false)
def vE (a1:Int):Option Bool:=
 (vL a1).bind fun x2=>
 if x2 then
  (some true)
 else
  ((vO a1).bind fun x5=>
  if x5 then
   (some true)
  else
   (some (a1==95)))
def zCu (a1:ByteArray) (s16:Int):Option (Lp Int (Fl Int Unit)):=
 if decide (s16< (a1.size:Int)) then
  ((bidx a1 s16).bind fun x18=>
  (vE x18).bind fun x20=>
  if !x20 then
   (some (Lp.done (Fl.ret 5)))
  else
   (some (Lp.go (w64 (s16+1)))))
 else
  (some (Lp.done (Fl.nxt ())))
def kG (a1:ByteArray):Int→Option (Fl Int Unit):=loop (zCu a1)
def wS (a1:ByteArray):Option Int:=
 (if decide ((a1.size:Int)<1) then
   (some true)
  else
   (if decide ((a1.size:Int)>12) then
    (some true)
   else
    ((bidx a1 0).bind fun x4=>
    (vL x4).bind fun x6=>
    some (!x6)))).bind fun v8=>
 if v8 then
  (some 5)
 else
  ((kG a1 0).bind (Fl.go some fun v23=>
  some 0))
def yZ (a1:Int) (a2:Int) (a3:Int):Option Bool:=
 if decide (a1≥a2) then
  (some (decide (a1≤a3)))
 else
  (some false)
def xJ (a1:Version):Option Int:=
 (yZ a1.A 0 999).bind fun x2=>
 (if !x2 then
   (some true)
  else
   ((yZ a1.B 0 999).bind fun x5=>
   if !x5 then
    (some true)
   else
    ((yZ a1.C 0 999).bind fun x8=>
    some (!x8)))).bind fun v10=>
 if v10 then
  (some 3)
 else
  (some 0)
def zCe (a1:(List ByteArray)) (a2:ByteArray) (s7:Int):Option (Lp Int (Fl Bool Unit)):=
 if decide (s7< (a1.length:Int)) then
  ((idx a1 s7).bind fun x9=>
  if seq x9 a2 then
   (some (Lp.done (Fl.ret true)))
  else
   (some (Lp.go (w64 (s7+1)))))
 else
  (some (Lp.done (Fl.nxt ())))
def zCA (a1:(List ByteArray)) (a2:ByteArray):Int→Option (Fl Bool Unit):=loop (zCe a1 a2)
def xG (a1:(List ByteArray)) (a2:ByteArray):Option Bool:=
 (zCA a1 a2 0).bind (Fl.go some fun v12=>
 some false)
def vG (a1:Term):Option Int:=
 (wS a1.Name).bind fun x2=>
 if x2 !=0 then
  (some x2)
 else
  ((xJ a1.Low).bind fun x5=>
  if x5 !=0 then
   (some x5)
  else
   ((uK).bind fun x8=>
   (if !(a1.High.A==x8.A&&(a1.High.B==x8.B&&(a1.High.C==x8.C&&true))) then
     ((xJ a1.High).bind fun x11=>
     some (x11 !=0))
    else
     (some false)).bind fun v13=>
   if v13 then
    (some 3)
   else
    ((zW a1.Low a1.High).bind fun x15=>
    if decide (x15≥0) then
     (some 1)
    else
     (some 0))))
def zBY (a1:(List Term)) (s8:Int):Option (Lp Int (Fl Int Unit)):=
 if decide (s8< (a1.length:Int)) then
  ((idx a1 s8).bind fun x10=>
  (vG x10).bind fun x12=>
  if x12 !=0 then
   (some (Lp.done (Fl.ret x12)))
  else
   (some (Lp.go (w64 (s8+1)))))
 else
  (some (Lp.done (Fl.nxt ())))
def zCC (a1:(List Term)):Int→Option (Fl Int Unit):=loop (zBY a1)
def uP (a1:(List Term)):Option Int:=
 (zCC a1 0).bind (Fl.go some fun v15=>
 some 0)
def zAB (a1:Pack) (s70:Int):Option (Lp Int (Fl Int Unit)):=
 if decide (s70< (a1.Needs.length:Int)) then
  ((idx a1.Needs s70).bind fun x72=>
  if (x72.length:Int)==0 then
   (some (Lp.done (Fl.ret 1)))
  else
   ((idx a1.Needs s70).bind fun x75=>
   (uP x75).bind fun x77=>
   if x77 !=0 then
    (some (Lp.done (Fl.ret x77)))
   else
    (some (Lp.go (w64 (s70+1))))))
 else
  (some (Lp.done (Fl.nxt ())))
def kK (a1:Pack):Int→Option (Fl Int Unit):=loop (zAB a1)
def zA5 (a1:Pack) (s42:Int):Option (Lp Int (Fl Int Unit)):=
 if decide (s42< (a1.Provides.length:Int)) then
  ((idx a1.Provides s42).bind fun x44=>
  (wS x44).bind fun x46=>
  if x46 !=0 then
   (some (Lp.done (Fl.ret x46)))
  else
   ((idx a1.Provides s42).bind fun x49=>
   (if seq x49 a1.Name then
     (some true)
    else
     ((zGp a1.Provides 0 s42).bind fun x52=>
     (idx a1.Provides s42).bind fun x54=>
     (xG x52 x54).bind fun x56=>
     some x56)).bind fun v58=>
   if v58 then
    (some (Lp.done (Fl.ret 6)))
   else
    (some (Lp.go (w64 (s42+1))))))
 else
  (some (Lp.done (Fl.nxt ())))
def kI (a1:Pack):Int→Option (Fl Int Unit):=loop (zA5 a1)
def zA8 (a1:Pack) (s19:Int):Option (Lp Int (Fl Int Unit)):=
 if decide (s19< (a1.Needs.length:Int)) then
  ((idx a1.Needs s19).bind fun x21=>
  if decide ((x21.length:Int)>4) then
   (some (Lp.done (Fl.ret 2)))
  else
   (some (Lp.go (w64 (s19+1)))))
 else
  (some (Lp.done (Fl.nxt ())))
def zBi (a1:Pack):Int→Option (Fl Int Unit):=loop (zA8 a1)
def zAK (a1:Pack):Option Int:=
 (wS a1.Name).bind fun x2=>
 if x2 !=0 then
  (some x2)
 else
  ((xJ a1.Version).bind fun x5=>
  if x5 !=0 then
   (some x5)
  else
   ((yZ a1.Size 1 200).bind fun x8=>
   if !x8 then
    (some 3)
   else
    ((if decide ((a1.Provides.length:Int)>4) then
       (some true)
      else
       (if decide ((a1.Needs.length:Int)>4) then
        (some true)
       else
        (some (decide ((a1.Bars.length:Int)>4))))).bind fun v13=>
    if v13 then
     (some 2)
    else
     ((zBi a1 0).bind (Fl.go some fun v24=>
     (kI a1 0).bind (Fl.go some fun v60=>
     (kK a1 0).bind (Fl.go some fun v80=>
     (uP a1.Bars).bind fun x81=>
     some x81)))))))
def tL (a1:(List Pack)) (s18:Int):Option (Lp Int (Fl Int Unit)):=
 if decide (s18< (a1.length:Int)) then
  ((idx a1 s18).bind fun x20=>
  (zAK x20).bind fun x22=>
  if x22 !=0 then
   (some (Lp.done (Fl.ret x22)))
  else
   ((zGp a1 0 s18).bind fun x25=>
   (idx a1 s18).bind fun x27=>
   (idx a1 s18).bind fun x29=>
   (uV x25 x27.Name x29.Version).bind fun x31=>
   if decide (x31≥0) then
    (some (Lp.done (Fl.ret 6)))
   else
    (some (Lp.go (w64 (s18+1))))))
 else
  (some (Lp.done (Fl.nxt ())))
def jK (a1:(List Pack)):Int→Option (Fl Int Unit):=loop (tL a1)
def zY (a1:(List Pack)):Option Int:=
 if decide ((a1.length:Int)>24) then
  (some 2)
 else
  ((jK a1 0).bind (Fl.go some fun v34=>
  some 0))
def jV (a2:(List Pack)) (s16:((List Int)×Int×(List Term)×Int)):Option (Lp ((List Int)×Int×(List Term)×Int) ((List Int)×Int×(List Term))):=
 (if decide (s16.2.2.2>0) then
   (some (decide ((a2.length:Int)>0)))
  else
   (some false)).bind fun v18=>
 if v18 then
  ((zH ({Code:=s16.1,At:=s16.2.1}:zC) (a2.length:Int)).bind fun x20=>
  (idx a2 x20.1).bind fun x22=>
  (wT x22.Name).bind fun x24=>
  (app 64 s16.2.2.1 [x24]).bind fun x26=>
  some (Lp.go (x20.2.Code,x20.2.At,x26,w64 (s16.2.2.2-1))))
 else
  (some (Lp.done (s16.1,s16.2.1,s16.2.2.1)))
def zEs (a2:(List Pack)):((List Int)×Int×(List Term)×Int)→Option ((List Int)×Int×(List Term)):=loop (jV a2)
def vP (a1:zC) (a2:(List Pack)):Option ((List Term)×zC):=
 (zH a1 3).bind fun x3=>
 (zEs a2 (x3.2.Code,x3.2.At,([]:List Term),w64 (1+x3.1))).bind fun v28=>
 some (v28.2.2,({Code:=v28.1,At:=v28.2.1}:zC))
def zBg (a1:(List yS)) (s7:((List Int)×Int)):Option (Lp ((List Int)×Int) (List Int)):=
 if decide (s7.2< (a1.length:Int)) then
  ((idx a1 s7.2).bind fun x9=>
  (app 8 s7.1 [x9.Pack]).bind fun x11=>
  some (Lp.go (x11,w64 (s7.2+1))))
 else
  (some (Lp.done s7.1))
def zCa (a1:(List yS)):((List Int)×Int)→Option (List Int):=loop (zBg a1)
def zBC (a1:(List yS)):Option (List Int):=
 (zCa a1 (([]:List Int),0)).bind fun v13=>
 some v13
def jQ (a1:Term) (a2:ByteArray) (a3:Version):Option Bool:=
 if seq a1.Name a2 then
  ((zW a3 a1.Low).bind fun x5=>
  if decide (x5≥0) then
   ((zW a3 a1.High).bind fun x8=>
   some (decide (x8<0)))
  else
   (some false))
 else
  (some false)
def tJ (a1:Pack) (a2:Term):Option Bool:=
 if seq a2.Name a1.Name then
  ((jQ a2 a2.Name a1.Version).bind fun x4=>
  some x4)
 else
  ((xG a1.Provides a2.Name).bind fun x6=>
  if x6 then
   ((jQ a2 a2.Name a1.Version).bind fun x9=>
   some x9)
  else
   (some false))
def zCb (a1:(List Pack)) (a2:(List Int)) (a3:Term) (a4:Int) (s17:Int):Option (Lp Int (Fl Bool Unit)):=
 if decide (s17< (a2.length:Int)) then
  ((idx a2 s17).bind fun x19=>
  (if x19 !=a4 then
    ((idx a2 s17).bind fun x22=>
    (idx a1 x22).bind fun x24=>
    (tJ x24 a3).bind fun x26=>
    some x26)
   else
    (some false)).bind fun v28=>
  if v28 then
   (some (Lp.done (Fl.ret true)))
  else
   (some (Lp.go (w64 (s17+1)))))
 else
  (some (Lp.done (Fl.nxt ())))
def zCD (a1:(List Pack)) (a2:(List Int)) (a3:Term) (a4:Int):Int→Option (Fl Bool Unit):=loop (zCb a1 a2 a3 a4)
def zAC (a1:(List Pack)) (a2:(List Int)) (a3:Term) (a4:Int):Option Bool:=
 (zCD a1 a2 a3 a4 0).bind (Fl.go some fun v30=>
 some false)
def zD1 (a1:(List Pack)) (a2:(List Int)) (a3:(List Term)) (s10:Int):Option (Lp Int (Fl Bool Unit)):=
 if decide (s10< (a3.length:Int)) then
  ((idx a3 s10).bind fun x12=>
  (zAC a1 a2 x12 (-1)).bind fun x14=>
  if x14 then
   (some (Lp.done (Fl.ret true)))
  else
   (some (Lp.go (w64 (s10+1)))))
 else
  (some (Lp.done (Fl.nxt ())))
def zE6 (a1:(List Pack)) (a2:(List Int)) (a3:(List Term)):Int→Option (Fl Bool Unit):=loop (zD1 a1 a2 a3)
def zBt (a1:(List Pack)) (a2:(List Int)) (a3:(List Term)):Option Bool:=
 (zE6 a1 a2 a3 0).bind (Fl.go some fun v17=>
 some false)
def zBo (a1:(List Pack)) (a3:(List Int)) (s45:Int) (x49:Pack) (s59:Int):Option (Lp Int (Fl (List Term) Unit)):=
 if decide (s59< (x49.Needs.length:Int)) then
  ((idx x49.Needs s59).bind fun x61=>
  (zBt a1 a3 x61).bind fun x63=>
  if !x63 then
   ((idx x49.Needs s59).bind fun x66=>
   some (Lp.done (Fl.ret x66)))
  else
   (some (Lp.go (w64 (s59+1)))))
 else
  (some (Lp.done (Fl.nxt ())))
def zCn (a1:(List Pack)) (a3:(List Int)) (s45:Int) (x49:Pack):Int→Option (Fl (List Term) Unit):=loop (zBo a1 a3 s45 x49)
def zBc (a1:(List Pack)) (a3:(List Int)) (s45:Int):Option (Lp Int (Fl (List Term) Unit)):=
 if decide (s45< (a3.length:Int)) then
  ((idx a3 s45).bind fun x47=>
  (idx a1 x47).bind fun x49=>
  (zCn a1 a3 s45 x49 0).bind (Fl.go (fun r=>some (Lp.done (Fl.ret r))) fun v68=>
  some (Lp.go (w64 (s45+1)))))
 else
  (some (Lp.done (Fl.nxt ())))
def zCc (a1:(List Pack)) (a3:(List Int)):Int→Option (Fl (List Term) Unit):=loop (zBc a1 a3)
def zBd (a1:(List Pack)) (a2:(List Term)) (a3:(List Int)) (s12:Int):Option (Lp Int (Fl (List Term) Unit)):=
 if decide (s12< (a2.length:Int)) then
  ((zGp a2 s12 (w64 (s12+1))).bind fun x14=>
  (zBt a1 a3 x14).bind fun x16=>
  if !x16 then
   ((zGp a2 s12 (w64 (s12+1))).bind fun x19=>
   some (Lp.done (Fl.ret x19)))
  else
   (some (Lp.go (w64 (s12+1)))))
 else
  (some (Lp.done (Fl.nxt ())))
def zBJ (a1:(List Pack)) (a2:(List Term)) (a3:(List Int)):Int→Option (Fl (List Term) Unit):=loop (zBd a1 a2 a3)
def zB6 (a1:(List Pack)) (a2:(List Term)) (a3:(List Int)):Option (List Term):=
 (zBJ a1 a2 a3 0).bind (Fl.go some fun v21=>
 (zCc a1 a3 0).bind (Fl.go some fun v69=>
 some ([]:List Term)))
def zD7 (a1:(List Int)) (a2:Int) (s16:((List Int)×Bool×Int)):Option (Lp ((List Int)×Bool×Int) ((List Int)×Bool)):=
 if decide (s16.2.2< (a1.length:Int)) then
  ((idx a1 s16.2.2).bind fun x18=>
  (if decide (x18>a2) then
    (some (!s16.2.1))
   else
    (some false)).bind fun v21=>
  (if v21 then
    ((app 8 s16.1 [a2]).bind fun x23=>
    some (x23,true))
   else
    (some (s16.1,s16.2.1))).bind fun v25=>
  (idx a1 s16.2.2).bind fun x26=>
  (app 8 v25.1 [x26]).bind fun x28=>
  some (Lp.go (x28,v25.2,w64 (s16.2.2+1))))
 else
  (some (Lp.done (s16.1,s16.2.1)))
def zEr (a1:(List Int)) (a2:Int):((List Int)×Bool×Int)→Option ((List Int)×Bool):=loop (zD7 a1 a2)
def zCo (a1:(List Int)) (a2:Int):Option (List Int):=
 (zEr a1 a2 (([]:List Int),false,0)).bind fun v30=>
 (if !v30.2 then
   ((app 8 v30.1 [a2]).bind fun x32=>
   some x32)
  else
   (some v30.1)).bind fun v34=>
 some v34
def zBy (a1:(List Int)) (s7:((List Int)×Int)):Option (Lp ((List Int)×Int) (List Int)):=
 if decide (s7.2< (a1.length:Int)) then
  ((idx a1 s7.2).bind fun x9=>
  (zCo s7.1 x9).bind fun x11=>
  some (Lp.go (x11,w64 (s7.2+1))))
 else
  (some (Lp.done s7.1))
def zCi (a1:(List Int)):((List Int)×Int)→Option (List Int):=loop (zBy a1)
def zBA (a1:(List Int)):Option (List Int):=
 (zCi a1 (([]:List Int),0)).bind fun v13=>
 some v13
def zD5 (a1:(List Int)) (a2:Int) (s7:Int):Option (Lp Int (Fl Bool Unit)):=
 if decide (s7< (a1.length:Int)) then
  ((idx a1 s7).bind fun x9=>
  if x9==a2 then
   (some (Lp.done (Fl.ret true)))
  else
   (some (Lp.go (w64 (s7+1)))))
 else
  (some (Lp.done (Fl.nxt ())))
def zEy (a1:(List Int)) (a2:Int):Int→Option (Fl Bool Unit):=loop (zD5 a1 a2)
def yX (a1:(List Int)) (a2:Int):Option Bool:=
 (zEy a1 a2 0).bind (Fl.go some fun v12=>
 some false)
def zAy (a1:(List Pack)) (a2:(List Term)) (a3:Int) (s12:Int):Option (Lp Int (Fl Bool Unit)):=
 if decide (s12< (a2.length:Int)) then
  ((idx a1 a3).bind fun x14=>
  (idx a2 s12).bind fun x16=>
  (tJ x14 x16).bind fun x18=>
  if x18 then
   (some (Lp.done (Fl.ret true)))
  else
   (some (Lp.go (w64 (s12+1)))))
 else
  (some (Lp.done (Fl.nxt ())))
def zBe (a1:(List Pack)) (a2:(List Term)) (a3:Int):Int→Option (Fl Bool Unit):=loop (zAy a1 a2 a3)
def vW (a1:(List Pack)) (a2:(List Term)) (a3:Int):Option Bool:=
 (zBe a1 a2 a3 0).bind (Fl.go some fun v21=>
 some false)
def zCO (a1:(List Pack)) (a2:(List Int)) (a3:Int) (s27:Int):Option (Lp Int (Fl Bool Unit)):=
 if decide (s27< (a2.length:Int)) then
  ((idx a2 s27).bind fun x29=>
  (idx a1 x29).bind fun x31=>
  (idx a1 a3).bind fun x33=>
  (if seq x31.Name x33.Name then
    (some true)
   else
    ((idx a2 s27).bind fun x36=>
    (idx a1 x36).bind fun x38=>
    (vW a1 x38.Bars a3).bind fun x40=>
    if x40 then
     (some true)
    else
     ((idx a1 a3).bind fun x43=>
     (idx a2 s27).bind fun x45=>
     (vW a1 x43.Bars x45).bind fun x47=>
     some x47))).bind fun v49=>
  if v49 then
   (some (Lp.done (Fl.ret false)))
  else
   (some (Lp.go (w64 (s27+1)))))
 else
  (some (Lp.done (Fl.nxt ())))
def zD6 (a1:(List Pack)) (a2:(List Int)) (a3:Int):Int→Option (Fl Bool Unit):=loop (zCO a1 a2 a3)
def zDT (a1:(List Pack)) (a2:(List Int)) (a3:Int):Option Bool:=
 (zD6 a1 a2 a3 0).bind (Fl.go some fun v51=>
 some true)
def zCP (a1:(List Pack)) (a2:(List Int)) (a3:Int) (a4:Int):Option Bool:=
 (yX a2 a3).bind fun x5=>
 (yX a2 a4).bind fun x7=>
 if !(x5==x7) then
  ((yX a2 a3).bind fun x10=>
  some x10)
 else
  ((idx a1 a3).bind fun x12=>
  (idx a1 a4).bind fun x14=>
  (zW x12.Version x14.Version).bind fun x16=>
  if x16 !=0 then
   (some (decide (x16>0)))
  else
   (some (decide (a3<a4))))
def zAv (a1:(List Pack)) (a2:(List Term)) (a3:(List Int)) (a4:(List Int)) (a5:(List Int)) (s62:((List Int)×Int)) (s100:Int):Option (Lp Int Int):=
 (if decide (s100>0) then
   ((idx s62.1 (w64 (s100-1))).bind fun x102=>
   (zCP a1 a5 s62.2 x102).bind fun x104=>
   some x104)
  else
   (some false)).bind fun v106=>
 if v106 then
  (some (Lp.go (w64 (s100-1))))
 else
  (some (Lp.done s100))
def vD (a1:(List Pack)) (a2:(List Term)) (a3:(List Int)) (a4:(List Int)) (a5:(List Int)) (s62:((List Int)×Int)):Int→Option Int:=loop (zAv a1 a2 a3 a4 a5 s62)
def tY (a1:(List Pack)) (a2:(List Term)) (a3:(List Int)) (a4:(List Int)) (a5:(List Int)) (s62:((List Int)×Int)) (s71:(Bool×Int)):Option (Lp (Bool×Int) Bool):=
 if decide (s71.2< (a2.length:Int)) then
  ((if s71.1 then
     (some true)
    else
     ((idx a1 s62.2).bind fun x74=>
     (idx a2 s71.2).bind fun x76=>
     (tJ x74 x76).bind fun x78=>
     some x78)).bind fun v80=>
  some (Lp.go (v80,w64 (s71.2+1))))
 else
  (some (Lp.done s71.1))
def jN (a1:(List Pack)) (a2:(List Term)) (a3:(List Int)) (a4:(List Int)) (a5:(List Int)) (s62:((List Int)×Int)):(Bool×Int)→Option Bool:=loop (tY a1 a2 a3 a4 a5 s62)
def tZ (a1:(List Pack)) (a2:(List Term)) (a3:(List Int)) (a4:(List Int)) (a5:(List Int)) (s62:((List Int)×Int)):Option (Lp ((List Int)×Int) (List Int)):=
 if decide (s62.2< (a1.length:Int)) then
  ((jN a1 a2 a3 a4 a5 s62 (false,0)).bind fun v81=>
  (if !v81 then
    (some true)
   else
    ((yX a3 s62.2).bind fun x83=>
    if x83 then
     (some true)
    else
     ((yX a4 s62.2).bind fun x86=>
     if x86 then
      (some true)
     else
      ((zDT a1 a3 s62.2).bind fun x89=>
      some (!x89))))).bind fun v91=>
  if v91 then
   (some (Lp.go (s62.1,w64 (s62.2+1))))
  else
   ((vD a1 a2 a3 a4 a5 s62 (s62.1.length:Int)).bind fun v108=>
   (zGp s62.1 0 v108).bind fun x109=>
   (app 8 ([]:List Int) x109).bind fun x111=>
   (app 8 x111 [s62.2]).bind fun x113=>
   (zGp s62.1 v108 (s62.1.length:Int)).bind fun x115=>
   (app 8 x113 x115).bind fun x117=>
   some (Lp.go (x117,w64 (s62.2+1)))))
 else
  (some (Lp.done s62.1))
def jM (a1:(List Pack)) (a2:(List Term)) (a3:(List Int)) (a4:(List Int)) (a5:(List Int)):((List Int)×Int)→Option (List Int):=loop (tZ a1 a2 a3 a4 a5)
def uU (a1:(List Pack)) (a2:(List Term)) (a3:(List Int)) (a4:(List Int)) (a5:(List Int)):Option (List Int):=
 (jM a1 a2 a3 a4 a5 (([]:List Int),0)).bind fun v119=>
 some v119
def zBX (a1:(List Pack)) (a2:(List Term)) (a3:(List Int)) (a4:Int) (s53:((List yS)×(List Int)×Int)):Option (Lp ((List yS)×(List Int)×Int) (Fl SolveResult Unit)):=
 (zBC s53.1).bind fun x54=>
 (zB6 a1 a2 x54).bind fun x56=>
 if (x56.length:Int)==0 then
  ((zBA x54).bind fun x59=>
  some (Lp.done (Fl.ret ({Code:=0,Choices:=s53.2.2,Set:=x59}:SolveResult))))
 else
  ((uU a1 x56 x54 s53.2.1 a3).bind fun x61=>
  if decide ((x61.length:Int)>0) then
   (if s53.2.2==a4 then
    (some (Lp.done (Fl.ret ({Code:=7,Choices:=s53.2.2,Set:=([]:List Int)}:SolveResult))))
   else
    ((idx x61 0).bind fun x65=>
    (app 32 s53.1 [({Pack:=x65,Denied:=s53.2.1}:yS)]).bind fun x67=>
    some (Lp.go (x67,s53.2.1,w64 (s53.2.2+1)))))
  else
   (if (s53.1.length:Int)==0 then
    (some (Lp.done (Fl.ret ({Code:=4,Choices:=s53.2.2,Set:=([]:List Int)}:SolveResult))))
   else
    ((idx s53.1 (w64 ((s53.1.length:Int)-1))).bind fun x70=>
    (zGp s53.1 0 (w64 ((s53.1.length:Int)-1))).bind fun x72=>
    (app 8 ([]:List Int) x70.Denied).bind fun x74=>
    (app 8 x74 [x70.Pack]).bind fun x76=>
    some (Lp.go (x72,x76,s53.2.2)))))
def zCF (a1:(List Pack)) (a2:(List Term)) (a3:(List Int)) (a4:Int):((List yS)×(List Int)×Int)→Option (Fl SolveResult Unit):=loop (zBX a1 a2 a3 a4)
def vN (a1:(List Pack)) (a2:(List Term)) (a3:(List Int)) (a4:Int):Option SolveResult:=
 (zCF a1 a2 a3 a4 (([]:List yS),([]:List Int),0)).bind (Fl.go some fun _=>none)
def zEh (a1:Int) (a2:Int):Option Int:=
 if decide (a1>a2) then
  (some a1)
 else
  (some a2)
def zBa (a1:(List Pack)) (a2:(List Int)) (s82:((List yU)×Int)) (x86:Pack) (s147:((List yU)×Int)):Option (Lp ((List yU)×Int) (List yU)):=
 if decide (s147.2< (x86.Bars.length:Int)) then
  ((idx x86.Bars s147.2).bind fun x149=>
  (idx a2 s82.2).bind fun x151=>
  (zAC a1 a2 x149 x151).bind fun x153=>
  (if x153 then
    ((idx a2 s82.2).bind fun x156=>
    (app 24 s147.1 [({Kind:=3,Pack:=x156,At:=s147.2}:yU)]).bind fun x158=>
    some x158)
   else
    (some s147.1)).bind fun v160=>
  some (Lp.go (v160,w64 (s147.2+1))))
 else
  (some (Lp.done s147.1))
def zBV (a1:(List Pack)) (a2:(List Int)) (s82:((List yU)×Int)) (x86:Pack):((List yU)×Int)→Option (List yU):=loop (zBa a1 a2 s82 x86)
def zBm (a1:(List Pack)) (a2:(List Int)) (s82:((List yU)×Int)) (x86:Pack) (s121:((List yU)×Int)):Option (Lp ((List yU)×Int) (List yU)):=
 if decide (s121.2< (x86.Needs.length:Int)) then
  ((idx x86.Needs s121.2).bind fun x123=>
  (zBt a1 a2 x123).bind fun x125=>
  (if !x125 then
    ((idx a2 s82.2).bind fun x128=>
    (app 24 s121.1 [({Kind:=2,Pack:=x128,At:=s121.2}:yU)]).bind fun x130=>
    some x130)
   else
    (some s121.1)).bind fun v132=>
  some (Lp.go (v132,w64 (s121.2+1))))
 else
  (some (Lp.done s121.1))
def zCl (a1:(List Pack)) (a2:(List Int)) (s82:((List yU)×Int)) (x86:Pack):((List yU)×Int)→Option (List yU):=loop (zBm a1 a2 s82 x86)
def zBl (a1:(List Pack)) (a2:(List Int)) (s82:((List yU)×Int)) (x86:Pack) (s98:Int):Option (Lp Int (List yU)):=
 if decide (s98<s82.2) then
  ((idx a2 s98).bind fun x100=>
  (idx a1 x100).bind fun x102=>
  if seq x102.Name x86.Name then
   ((idx a2 s82.2).bind fun x105=>
   (app 24 s82.1 [({Kind:=1,Pack:=x105,At:=0}:yU)]).bind fun x107=>
   some (Lp.done x107))
  else
   (some (Lp.go (w64 (s98+1)))))
 else
  (some (Lp.done s82.1))
def zAh (a1:(List Pack)) (a2:(List Int)) (s82:((List yU)×Int)) (x86:Pack):Int→Option (List yU):=loop (zBl a1 a2 s82 x86)
def zB1 (a1:(List Pack)) (a2:(List Int)) (s82:((List yU)×Int)):Option (Lp ((List yU)×Int) (List yU)):=
 if decide (s82.2< (a2.length:Int)) then
  ((idx a2 s82.2).bind fun x84=>
  (idx a1 x84).bind fun x86=>
  (zAh a1 a2 s82 x86 0).bind fun v109=>
  (zCl a1 a2 s82 x86 (v109,0)).bind fun v133=>
  (zBV a1 a2 s82 x86 (v133,0)).bind fun v161=>
  some (Lp.go (v161,w64 (s82.2+1))))
 else
  (some (Lp.done s82.1))
def zBS (a1:(List Pack)) (a2:(List Int)):((List yU)×Int)→Option (List yU):=loop (zB1 a1 a2)
def uI (a1:(List Pack)) (a2:(List Int)):Option (List yU):=
 (zBS a1 a2 (([]:List yU),0)).bind fun v162=>
 some v162
def zCw (a2:(List Pack)) (x19:(Bool×zC)) (s53:(List Int)) (x59:yU) (s70:((List Int)×Int)):Option (Lp ((List Int)×Int) (List Int)):=
 if decide (s70.2< (s53.length:Int)) then
  ((idx s53 s70.2).bind fun x72=>
  (if x72 !=x59.Pack then
    ((idx s53 s70.2).bind fun x75=>
    (app 8 s70.1 [x75]).bind fun x77=>
    some x77)
   else
    (some s70.1)).bind fun v79=>
  some (Lp.go (v79,w64 (s70.2+1))))
 else
  (some (Lp.done s70.1))
def kD (a2:(List Pack)) (x19:(Bool×zC)) (s53:(List Int)) (x59:yU):((List Int)×Int)→Option (List Int):=loop (zCw a2 x19 s53 x59)
def zC1 (a2:(List Pack)) (x19:(Bool×zC)) (s53:(List Int)):Option (Lp (List Int) (List Int)):=
 (uI a2 s53).bind fun x54=>
 if decide ((x54.length:Int)>0) then
  ((uI a2 s53).bind fun x57=>
  (idx x57 0).bind fun x59=>
  (kD a2 x19 s53 x59 (([]:List Int),0)).bind fun v80=>
  some (Lp.go v80))
 else
  (some (Lp.done s53))
def kM (a2:(List Pack)) (x19:(Bool×zC)):(List Int)→Option (List Int):=loop (zC1 a2 x19)
def zAq (a2:(List Pack)) (s10:((List Int)×Int×(List Int)×Int)):Option (Lp ((List Int)×Int×(List Int)×Int) ((List Int)×Int×(List Int))):=
 if decide (s10.2.2.2< (a2.length:Int)) then
  ((zI ({Code:=s10.1,At:=s10.2.1}:zC) 3).bind fun x12=>
  (if x12.1 then
    ((app 8 s10.2.2.1 [s10.2.2.2]).bind fun x15=>
    some x15)
   else
    (some s10.2.2.1)).bind fun v17=>
  some (Lp.go (x12.2.Code,x12.2.At,v17,w64 (s10.2.2.2+1))))
 else
  (some (Lp.done (s10.1,s10.2.1,s10.2.2.1)))
def zAV (a2:(List Pack)):((List Int)×Int×(List Int)×Int)→Option ((List Int)×Int×(List Int)):=loop (zAq a2)
def wX (a1:zC) (a2:(List Pack)):Option ((List Int)×zC):=
 (zAV a2 (a1.Code,a1.At,([]:List Int),0)).bind fun v18=>
 (zI ({Code:=v18.1,At:=v18.2.1}:zC) 2).bind fun x19=>
 (if x19.1 then
   ((zY a2).bind fun x22=>
   some (x22==0))
  else
   (some false)).bind fun v24=>
 (if v24 then
   ((kM a2 x19 v18.2.2).bind fun v81=>
   some v81)
  else
   (some v18.2.2)).bind fun v82=>
 (zI x19.2 24).bind fun x83=>
 (if x83.1 then
   ((zT x83.2 [(a2.length:Int),(-1),0]).bind fun x86=>
   (app 8 v82 [x86.1]).bind fun x88=>
   some (x86.2.Code,x86.2.At,x88))
  else
   (some (x83.2.Code,x83.2.At,v82))).bind fun v90=>
 some (v90.2.2,({Code:=v90.1,At:=v90.2.1}:zC))
def zDX (a1:zC):Option ((List Pack)×(List Int)×(List Int)×zC):=
 (zAN a1).bind fun x2=>
 (zY x2.1).bind fun x4=>
 (if x4==0 then
   ((vP x2.2 x2.1).bind fun x7=>
   (vN x2.1 x7.1 ([]:List Int) 60).bind fun x9=>
   (if x9.Code==0 then
     (some x9.Set)
    else
     (some ([]:List Int))).bind fun v12=>
   (vP x7.2 x2.1).bind fun x13=>
   (zEh 1 (x2.1.length:Int)).bind fun x15=>
   (zH x13.2 x15).bind fun x17=>
   (vN x2.1 x13.1 [x17.1] 60).bind fun x19=>
   (if x19.Code==0 then
     (some (decide ((x2.1.length:Int)>0)))
    else
     (some false)).bind fun v22=>
   if v22 then
    (some (x17.2.Code,x17.2.At,v12,x19.Set))
   else
    (some (x17.2.Code,x17.2.At,v12,([]:List Int))))
  else
   (some (x2.2.Code,x2.2.At,([]:List Int),([]:List Int)))).bind fun v24=>
 (zI ({Code:=v24.1,At:=v24.2.1}:zC) 14).bind fun x25=>
 (if x25.1 then
   ((wX x25.2 x2.1).bind fun x28=>
   some (x28.2.Code,x28.2.At,x28.1))
  else
   (some (x25.2.Code,x25.2.At,v24.2.2.1))).bind fun v30=>
 (zI ({Code:=v30.1,At:=v30.2.1}:zC) 14).bind fun x31=>
 (if x31.1 then
   ((wX x31.2 x2.1).bind fun x34=>
   some (x34.2.Code,x34.2.At,x34.1))
  else
   (some (x31.2.Code,x31.2.At,v24.2.2.2))).bind fun v36=>
 some (x2.1,v30.2.2,v36.2.2,({Code:=v36.1,At:=v36.2.1}:zC))
def vI (a1:Int):Option zDq:=
 (yZ a1 0 20000).bind fun x2=>
 if !x2 then
  (some ({Code:=3,zP:=({Files:=([]:List File),Budget:=0,Writes:=0,Stop:=0,Down:=false}:zP)}:zDq))
 else
  (some ({Code:=0,zP:=({Files:=([]:List File),Budget:=a1,Writes:=0,Stop:=(-1),Down:=false}:zP)}:zDq))
def uN (g:Int→Option ByteArray) (s:Int):Option ByteArray:=
 match s with
 |a1=>
 if decide (a1<10) then
  (some (b2s [IntKind.u8.wrap (w64 (48+a1))]))
 else
  ((g (w64 (a1.tdiv 10))).bind fun x3=>
  (cat x3 (b2s [IntKind.u8.wrap (w64 (48+(a1.tmod 10)))])).bind fun x5=>
  some x5)
def xX (a1:Int):Option ByteArray:=zQ6 uN 64 a1
def wL (a1:Int):Option ByteArray:=
 (yZ a1 1 999999).bind fun x2=>
 if !x2 then
  (some (bs []))
 else
  ((xX (w64 (1000000+a1))).bind fun x5=>
  (zFt x5 1 (x5.size:Int)).bind fun x7=>
  (cat (bs [103,101,110,47]) x7).bind fun x9=>
  some x9)
def zB4 (a1:Int):Option zDq:=
 (vI a1).bind fun x2=>
 if x2.Code !=0 then
  (some x2)
 else
  (if a1==0 then
   (some ({Code:=8,zP:=({Files:=([]:List File),Budget:=0,Writes:=0,Stop:=0,Down:=false}:zP)}:zDq))
  else
   ((wL 1).bind fun x6=>
   some ({Code:=x2.Code,zP:=({Files:=[({Path:=bs [99,117,114],Data:=[49]}:File),({Path:=x6,Data:=([]:List Int)}:File),({Path:=bs [114,111,111,116,115],Data:=([]:List Int)}:File)],Budget:=x2.zP.Budget,Writes:=x2.zP.Writes,Stop:=x2.zP.Stop,Down:=x2.zP.Down}:zP)}:zDq)))
def zDz (a1:(List Pack)) (a2:(List Int)) (s16:Int):Option (Lp Int (Fl Bool Unit)):=
 if decide (s16< (a2.length:Int)) then
  ((idx a2 s16).bind fun x18=>
  (yZ x18 0 (w64 ((a1.length:Int)-1))).bind fun x20=>
  (if !x20 then
    (some true)
   else
    (if decide (s16>0) then
     ((idx a2 s16).bind fun x24=>
     (idx a2 (w64 (s16-1))).bind fun x26=>
     some (decide (x24≤x26)))
    else
     (some false))).bind fun v28=>
  if v28 then
   (some (Lp.done (Fl.ret false)))
  else
   (some (Lp.go (w64 (s16+1)))))
 else
  (some (Lp.done (Fl.nxt ())))
def zEu (a1:(List Pack)) (a2:(List Int)):Int→Option (Fl Bool Unit):=loop (zDz a1 a2)
def jD (a1:(List Pack)) (a2:(List Int)):Option Bool:=
 (zEu a1 a2 0).bind (Fl.go some fun v30=>
 some true)
def tC (a1:ByteArray) (a2:ByteArray):Option Bool:=
 if decide ((a1.size:Int)≥(a2.size:Int)) then
  ((zFt a1 0 (a2.size:Int)).bind fun x4=>
  some (seq x4 a2))
 else
  (some false)
def zAi (a1:zP) (a2:ByteArray) (s14:((List ByteArray)×Int)):Option (Lp ((List ByteArray)×Int) (List ByteArray)):=
 if decide (s14.2< (a1.Files.length:Int)) then
  ((idx a1.Files s14.2).bind fun x16=>
  (tC x16.Path a2).bind fun x18=>
  (if x18 then
    ((idx a1.Files s14.2).bind fun x21=>
    (app 16 s14.1 [x21.Path]).bind fun x23=>
    some x23)
   else
    (some s14.1)).bind fun v25=>
  some (Lp.go (v25,w64 (s14.2+1))))
 else
  (some (Lp.done s14.1))
def zBu (a1:zP) (a2:ByteArray):((List ByteArray)×Int)→Option (List ByteArray):=loop (zAi a1 a2)
def zAt (a1:zP) (a2:ByteArray):Option (List ByteArray):=
 (zBu a1 a2 (([]:List ByteArray),0)).bind fun v26=>
 some v26
def zAX (a1:ByteArray) (s14:(Int×Int)):Option (Lp (Int×Int) (Fl (Int×Bool) Int)):=
 if decide (s14.2< (a1.size:Int)) then
  ((bidx a1 s14.2).bind fun x16=>
  (vO x16).bind fun x18=>
  if !x18 then
   (some (Lp.done (Fl.ret (0,false))))
  else
   ((bidx a1 s14.2).bind fun x21=>
   some (Lp.go (w64 ((w64 (s14.1*10))+(w64 (IntKind.u8.wrap (x21-48)))),w64 (s14.2+1)))))
 else
  (some (Lp.done (Fl.nxt s14.1)))
def zCj (a1:ByteArray):(Int×Int)→Option (Fl (Int×Bool) Int):=loop (zAX a1)
def vK (a1:ByteArray) (a2:Int):Option (Int×Bool):=
 (if decide ((a1.size:Int)<1) then
   (some true)
  else
   (some (decide ((a1.size:Int)>a2)))).bind fun v4=>
 if v4 then
  (some (0,false))
 else
  ((zCj a1 (0,0)).bind (Fl.go some fun v23=>
  some (v23,true)))
def zBx (a1:zP) (x2:(List ByteArray)) (s21:((List Int)×Int)):Option (Lp ((List Int)×Int) (List Int)):=
 if decide (s21.2< (x2.length:Int)) then
  ((idx x2 s21.2).bind fun x23=>
  (zFt x23 4 (x23.size:Int)).bind fun x25=>
  (vK x25 6).bind fun x27=>
  (if x27.2 then
    ((wL x27.1).bind fun x30=>
    (idx x2 s21.2).bind fun x32=>
    some (seq x30 x32))
   else
    (some false)).bind fun v34=>
  (if v34 then
    ((app 8 s21.1 [x27.1]).bind fun x36=>
    some x36)
   else
    (some s21.1)).bind fun v38=>
  some (Lp.go (v38,w64 (s21.2+1))))
 else
  (some (Lp.done s21.1))
def zCr (a1:zP) (x2:(List ByteArray)):((List Int)×Int)→Option (List Int):=loop (zBx a1 x2)
def jF (a1:zP):Option (List Int):=
 (zAt a1 (bs [103,101,110,47])).bind fun x2=>
 (zCr a1 x2 (([]:List Int),0)).bind fun v39=>
 some v39
def zFj (a1:zP):Option Int:=
 (jF a1).bind fun x2=>
 if (x2.length:Int)==0 then
  (some 1)
 else
  ((idx x2 (w64 ((x2.length:Int)-1))).bind fun x5=>
  some (w64 (x5+1)))
def yP (a1:Version):Option ByteArray:=
 (xJ a1).bind fun x2=>
 if x2 !=0 then
  (some (bs []))
 else
  ((xX a1.A).bind fun x5=>
  (cat x5 (bs [46])).bind fun x7=>
  (xX a1.B).bind fun x9=>
  (cat x7 x9).bind fun x11=>
  (cat x11 (bs [46])).bind fun x13=>
  (xX a1.C).bind fun x15=>
  (cat x13 x15).bind fun x17=>
  some x17)
def zDW (a1:Pack):Option ByteArray:=
 (cat (bs [112,107,103,47]) a1.Name).bind fun x2=>
 (cat x2 (bs [45])).bind fun x4=>
 (yP a1.Version).bind fun x6=>
 (cat x4 x6).bind fun x8=>
 some x8
def zBH (a1:Pack) (s13:(Int×(List Int)×Int)):Option (Lp (Int×(List Int)×Int) (List Int)):=
 if decide (s13.2.2<a1.Size) then
  ((app 1 s13.2.1 [IntKind.u8.wrap (s13.1.tmod 256)]).bind fun x15=>
  some (Lp.go (w64 ((w64 (31*(s13.1.tmod 256)))+7),x15,w64 (s13.2.2+1))))
 else
  (some (Lp.done s13.2.1))
def zDj (a1:Pack):(Int×(List Int)×Int)→Option (List Int):=loop (zBH a1)
def zBQ (a1:Pack) (s5:(Int×Int)):Option (Lp (Int×Int) Int):=
 if decide (s5.2< (a1.Name.size:Int)) then
  ((bidx a1.Name s5.2).bind fun x7=>
  some (Lp.go (w64 (s5.1+(w64 (x7))),w64 (s5.2+1))))
 else
  (some (Lp.done s5.1))
def zCR (a1:Pack):(Int×Int)→Option Int:=loop (zBQ a1)
def zC2 (a1:Pack):Option (List Int):=
 (zCR a1 (w64 ((w64 (a1.Version.A+a1.Version.B))+a1.Version.C),0)).bind fun v9=>
 (zDj a1 (v9,([]:List Int),0)).bind fun v17=>
 some v17
def zB0 (a1:zP) (a2:ByteArray) (s7:Int):Option (Lp Int (Fl Int Unit)):=
 if decide (s7< (a1.Files.length:Int)) then
  ((idx a1.Files s7).bind fun x9=>
  if seq x9.Path a2 then
   (some (Lp.done (Fl.ret s7)))
  else
   (some (Lp.go (w64 (s7+1)))))
 else
  (some (Lp.done (Fl.nxt ())))
def zCq (a1:zP) (a2:ByteArray):Int→Option (Fl Int Unit):=loop (zB0 a1 a2)
def uE (a1:zP) (a2:ByteArray):Option Int:=
 (zCq a1 a2 0).bind (Fl.go some fun v12=>
 some (-1))
def zAl (a1:zP) (s5:(Int×Int)):Option (Lp (Int×Int) Int):=
 if decide (s5.2< (a1.Files.length:Int)) then
  ((idx a1.Files s5.2).bind fun x7=>
  some (Lp.go (w64 (s5.1+(x7.Data.length:Int)),w64 (s5.2+1))))
 else
  (some (Lp.done s5.1))
def zBw (a1:zP):(Int×Int)→Option Int:=loop (zAl a1)
def jW (a1:zP):Option Int:=
 (zBw a1 (0,0)).bind fun v9=>
 some v9
def zEa (a1:zP):Option (Bool×zP):=
 if a1.Down then
  (some (false,a1))
 else
  ((if a1.Stop !=(-1) then
     (some (decide (a1.Writes≥a1.Stop)))
    else
     (some false)).bind fun v4=>
  if v4 then
   (some (false,({Files:=a1.Files,Budget:=a1.Budget,Writes:=a1.Writes,Stop:=a1.Stop,Down:=true}:zP)))
  else
   (some (true,({Files:=a1.Files,Budget:=a1.Budget,Writes:=w64 (a1.Writes+1),Stop:=a1.Stop,Down:=a1.Down}:zP))))
def zBI (a2:ByteArray) (x17:(Bool×zP)) (x20:(List Int)) (s30:Int):Option (Lp Int Int):=
 (if decide (s30< (x17.2.Files.length:Int)) then
   ((idx x17.2.Files s30).bind fun x32=>
   some (slt x32.Path a2))
  else
   (some false)).bind fun v34=>
 if v34 then
  (some (Lp.go (w64 (s30+1))))
 else
  (some (Lp.done s30))
def zFf (a2:ByteArray) (x17:(Bool×zP)) (x20:(List Int)):Int→Option Int:=loop (zBI a2 x17 x20)
def wD (a1:zP) (a2:ByteArray) (a3:(List Int)):Option (Int×zP):=
 (uE a1 a2).bind fun x4=>
 (if decide (x4≥0) then
   ((idx a1.Files x4).bind fun x7=>
   some (x7.Data.length:Int))
  else
   (some 0)).bind fun v9=>
 (if decide ((a3.length:Int)>4000) then
   (some true)
  else
   (if decide (x4<0) then
    (some (decide ((a1.Files.length:Int)≥120)))
   else
    (some false))).bind fun v12=>
 if v12 then
  (some (2,a1))
 else
  ((jW a1).bind fun x14=>
  if decide ((w64 ((w64 (x14-v9))+(a3.length:Int)))>a1.Budget) then
   (some (8,a1))
  else
   ((zEa a1).bind fun x17=>
   if !x17.1 then
    (some (9,x17.2))
   else
    ((app 1 ([]:List Int) a3).bind fun x20=>
    if decide (x4≥0) then
     ((idx x17.2.Files x4).bind fun x23=>
     some (0,({Files:=x17.2.Files.set x4.toNat ({Path:=a2,Data:=x20}:File),Budget:=x17.2.Budget,Writes:=x17.2.Writes,Stop:=x17.2.Stop,Down:=x17.2.Down}:zP)))
    else
     ((zFf a2 x17 x20 0).bind fun v36=>
     (zGp x17.2.Files 0 v36).bind fun x37=>
     (app 40 ([]:List File) x37).bind fun x39=>
     (app 40 x39 [({Path:=a2,Data:=x20}:File)]).bind fun x41=>
     (zGp x17.2.Files v36 (x17.2.Files.length:Int)).bind fun x43=>
     (app 40 x41 x43).bind fun x45=>
     some (0,({Files:=x45,Budget:=x17.2.Budget,Writes:=x17.2.Writes,Stop:=x17.2.Stop,Down:=x17.2.Down}:zP))))))
def zDn (a1:(List Pack)) (a2:(List Int)) (s22:(ByteArray×Int)):Option (Lp (ByteArray×Int) ByteArray):=
 if decide (s22.2< (a2.length:Int)) then
  ((idx a2 s22.2).bind fun x24=>
  (idx a1 x24).bind fun x26=>
  (cat s22.1 x26.Name).bind fun x28=>
  (cat x28 (bs [32])).bind fun x30=>
  (idx a2 s22.2).bind fun x32=>
  (idx a1 x32).bind fun x34=>
  (yP x34.Version).bind fun x36=>
  (cat x30 x36).bind fun x38=>
  (cat x38 (bs [10])).bind fun x40=>
  some (Lp.go (x40,w64 (s22.2+1))))
 else
  (some (Lp.done s22.1))
def zDL (a1:(List Pack)) (a2:(List Int)):(ByteArray×Int)→Option ByteArray:=loop (zDn a1 a2)
def zBG (a1:(List Pack)) (a2:(List Int)):Option ByteArray:=
 (zDL a1 a2 (bs [],0)).bind fun v42=>
 some v42
def zDK (a1:(List Pack)) (a3:(List Int)) (a4:Bool) (x5:Int) (s22:((List File)×Int×Int×Int×Bool×Int)):Option (Lp ((List File)×Int×Int×Int×Bool×Int) ((List File)×Int×Int×Int×Bool)):=
 if decide (s22.2.2.2.2.2< (a3.length:Int)) then
  ((idx a3 s22.2.2.2.2.2).bind fun x24=>
  (idx a1 x24).bind fun x26=>
  (zDW x26).bind fun x28=>
  (idx a3 s22.2.2.2.2.2).bind fun x30=>
  (idx a1 x30).bind fun x32=>
  (zC2 x32).bind fun x34=>
  (wD ({Files:=s22.1,Budget:=s22.2.1,Writes:=s22.2.2.1,Stop:=s22.2.2.2.1,Down:=s22.2.2.2.2.1}:zP) x28 x34).bind fun x36=>
  some (Lp.go (x36.2.Files,x36.2.Budget,x36.2.Writes,x36.2.Stop,x36.2.Down,w64 (s22.2.2.2.2.2+1))))
 else
  (some (Lp.done (s22.1,s22.2.1,s22.2.2.1,s22.2.2.2.1,s22.2.2.2.2.1)))
def zFS (a1:(List Pack)) (a3:(List Int)) (a4:Bool) (x5:Int):((List File)×Int×Int×Int×Bool×Int)→Option ((List File)×Int×Int×Int×Bool):=loop (zDK a1 a3 a4 x5)
def zCs (a1:(List Pack)) (a2:zP) (a3:(List Int)) (a4:Bool):Option zP:=
 (zFj a2).bind fun x5=>
 (zFS a1 a3 a4 x5 (a2.Files,a2.Budget,a2.Writes,a2.Stop,a2.Down,0)).bind fun v38=>
 (wL x5).bind fun x39=>
 (zBG a1 a3).bind fun x41=>
 (wD ({Files:=v38.1,Budget:=v38.2.1,Writes:=v38.2.2.1,Stop:=v38.2.2.2.1,Down:=v38.2.2.2.2}:zP) x39 (s2b x41)).bind fun x43=>
 if a4 then
  ((xX x5).bind fun x46=>
  (wD x43.2 (bs [99,117,114]) (s2b x46)).bind fun x48=>
  some x48.2)
 else
  (some x43.2)
def vY (a1:Term):Option ByteArray:=
 (vG a1).bind fun x2=>
 if x2 !=0 then
  (some (bs []))
 else
  ((zW a1.Low ({A:=0,B:=0,C:=0}:Version)).bind fun x5=>
  (if x5 !=0 then
    ((cat a1.Name (bs [62,61])).bind fun x8=>
    (yP a1.Low).bind fun x10=>
    (cat x8 x10).bind fun x12=>
    some x12)
   else
    (some a1.Name)).bind fun v14=>
  (uK).bind fun x15=>
  (if !(a1.High.A==x15.A&&(a1.High.B==x15.B&&(a1.High.C==x15.C&&true))) then
    ((cat v14 (bs [60])).bind fun x18=>
    (yP a1.High).bind fun x20=>
    (cat x18 x20).bind fun x22=>
    some x22)
   else
    (some v14)).bind fun v24=>
  some v24)
def zC9 (a1:(List Term)) (s11:(ByteArray×Int)):Option (Lp (ByteArray×Int) ByteArray):=
 if decide (s11.2< (a1.length:Int)) then
  ((idx a1 s11.2).bind fun x13=>
  (vY x13).bind fun x15=>
  (cat s11.1 x15).bind fun x17=>
  (cat x17 (bs [10])).bind fun x19=>
  some (Lp.go (x19,w64 (s11.2+1))))
 else
  (some (Lp.done s11.1))
def zD0 (a1:(List Term)):(ByteArray×Int)→Option ByteArray:=loop (zC9 a1)
def zAH (a1:(List Term)):Option ByteArray:=
 (zD0 a1 (bs [],0)).bind fun v21=>
 some v21
def zAO (a1:zC):Option (ByteArray×zC):=
 (zH a1 7).bind fun x2=>
 (idx [bs [97],bs [98,47,99],bs [99,117,114],bs [103,101,110,47,48,48,48,48,48,49],bs [112,107,103,47,97,45,49,46,48,46,48],bs [112,108,97,110],bs [120,95,49]] x2.1).bind fun x4=>
 some (x4,x2.2)
def zCX (s8:((List Int)×Int×Int×(List Int))):Option (Lp ((List Int)×Int×Int×(List Int)) ((List Int)×Int×(List Int))):=
 if decide (s8.2.2.1>0) then
  ((zH ({Code:=s8.1,At:=s8.2.1}:zC) 256).bind fun x10=>
  (app 1 s8.2.2.2 [IntKind.u8.wrap (x10.1)]).bind fun x12=>
  some (Lp.go (x10.2.Code,x10.2.At,w64 (s8.2.2.1-1),x12)))
 else
  (some (Lp.done (s8.1,s8.2.1,s8.2.2.2)))
def zD2:((List Int)×Int×Int×(List Int))→Option ((List Int)×Int×(List Int)):=loop zCX
def zB7 (a1:zC) (a2:Int):Option ((List Int)×zC):=
 (zD2 (a1.Code,a1.At,a2,([]:List Int))).bind fun v14=>
 some (v14.2.2,({Code:=v14.1,At:=v14.2.1}:zC))
def kU (a1:zC):Option (ByteArray×zC):=
 (zI a1 14).bind fun x2=>
 if x2.1 then
  ((zH x2.2 6).bind fun x5=>
  (idx [bs [],bs [65],bs [97,32,98],bs [97,98,99,100,101,102,103,104,105,106,97,98,99,100,101,102,103,104,105,106,97,98,99,100,101,102,103,104,105,106,97,98,99,100,101,102,103,104,105,106],bs [97,98,99,100,101,102,103,104,105,106,97,98,99,100,101,102,103,104,105,106,97,98,99,100,101,102,103,104,105,106,97,98,99,100,101,102,103,104,105,106,107],bs [97,10]] x5.1).bind fun x7=>
  some (x7,x5.2))
 else
  ((zAO x2.2).bind fun x9=>
  some (x9.1,x9.2))
def zCK (s26:((List Int)×Int×(List File)×Int×Int×Int×Bool×Int)):Option (Lp ((List Int)×Int×(List File)×Int×Int×Int×Bool×Int) ((List Int)×Int×(List File)×Int×Int×Int×Bool)):=
 if decide (s26.2.2.2.2.2.2.2>0) then
  ((zAO ({Code:=s26.1,At:=s26.2.1}:zC)).bind fun x28=>
  (zH x28.2 20).bind fun x30=>
  (zB7 x30.2 x30.1).bind fun x32=>
  (wD ({Files:=s26.2.2.1,Budget:=s26.2.2.2.1,Writes:=s26.2.2.2.2.1,Stop:=s26.2.2.2.2.2.1,Down:=s26.2.2.2.2.2.2.1}:zP) x28.1 x32.1).bind fun x34=>
  some (Lp.go (x32.2.Code,x32.2.At,x34.2.Files,x34.2.Budget,x34.2.Writes,x34.2.Stop,x34.2.Down,w64 (s26.2.2.2.2.2.2.2-1))))
 else
  (some (Lp.done (s26.1,s26.2.1,s26.2.2.1,s26.2.2.2.1,s26.2.2.2.2.1,s26.2.2.2.2.2.1,s26.2.2.2.2.2.2.1)))
def zD4:((List Int)×Int×(List File)×Int×Int×Int×Bool×Int)→Option ((List Int)×Int×(List File)×Int×Int×Int×Bool):=loop zCK
def zEd (a1:zC):Option (zP×zC):=
 (zT a1 [100,40,1000,20000]).bind fun x2=>
 (vI x2.1).bind fun x4=>
 (zH x2.2 6).bind fun x6=>
 (zD4 (x6.2.Code,x6.2.At,x4.zP.Files,x4.zP.Budget,x4.zP.Writes,x4.zP.Stop,x4.zP.Down,x6.1)).bind fun v36=>
 (zT ({Code:=v36.1,At:=v36.2.1}:zC) [(-1),(-1),(-1),v36.2.2.2.2.1,w64 (v36.2.2.2.2.1+1),0]).bind fun x37=>
 (zI x37.2 10).bind fun x39=>
 (if x39.1 then
   (some true)
  else
   (some v36.2.2.2.2.2.2)).bind fun v42=>
 (zH x39.2 30).bind fun x43=>
 (if x43.1==0 then
   ((zT x43.2 [(-1),0,5,20001]).bind fun x46=>
   some (x46.2.Code,x46.2.At,v36.2.2.1,x46.1,v36.2.2.2.2.1,x37.1))
  else
   (if x43.1==1 then
    ((zT x43.2 [(-1),1000000001]).bind fun x49=>
    some (x49.2.Code,x49.2.At,v36.2.2.1,v36.2.2.2.1,x49.1,x37.1))
   else
    (if x43.1==2 then
     ((zT x43.2 [(-2),1000000001]).bind fun x52=>
     some (x52.2.Code,x52.2.At,v36.2.2.1,v36.2.2.2.1,v36.2.2.2.2.1,x52.1))
    else
     (if x43.1==3 then
      ((kU x43.2).bind fun x55=>
      (zB7 x55.2 3).bind fun x57=>
      (app 40 v36.2.2.1 [({Path:=x55.1,Data:=x57.1}:File)]).bind fun x59=>
      some (x57.2.Code,x57.2.At,x59,v36.2.2.2.1,v36.2.2.2.2.1,x37.1))
     else
      (if x43.1==4 then
       ((mk 40 121 ({Path:=ByteArray.empty,Data:=([]:List Int)}:File)).bind fun x62=>
       some (x43.2.Code,x43.2.At,x62,v36.2.2.2.1,v36.2.2.2.2.1,x37.1))
      else
       (if x43.1==5 then
        ((zH x43.2 2).bind fun x65=>
        (mk 1 (w64 (4000+x65.1)) 0).bind fun x67=>
        some (x65.2.Code,x65.2.At,[({Path:=bs [97],Data:=x67}:File)],20000,v36.2.2.2.2.1,x37.1))
       else
        (some (x43.2.Code,x43.2.At,v36.2.2.1,v36.2.2.2.1,v36.2.2.2.2.1,x37.1)))))))).bind fun v69=>
 some (({Files:=v69.2.2.1,Budget:=v69.2.2.2.1,Writes:=v69.2.2.2.2.1,Stop:=v69.2.2.2.2.2,Down:=v42}:zP),({Code:=v69.1,At:=v69.2.1}:zC))
def zDS (a1:zC):Option ((List Pack)×zP×zC):=
 (zDX a1).bind fun x2=>
 (zT x2.2.2.2 [400,1000,200,20000]).bind fun x4=>
 (zB4 x4.1).bind fun x6=>
 (zY x2.1).bind fun x8=>
 (if x8==0 then
   ((jD x2.1 x2.2.1).bind fun x11=>
   if x11 then
    ((jD x2.1 x2.2.2.1).bind fun x14=>
    some x14)
   else
    (some false))
  else
   (some false)).bind fun v16=>
 (if v16 then
   ((zI x4.2 2).bind fun x18=>
   (if x18.1 then
     ((zCs x2.1 x6.zP x2.2.1 true).bind fun x21=>
     some (x21.Files,x21.Budget,x21.Writes,x21.Stop,x21.Down))
    else
     (some (x6.zP.Files,x6.zP.Budget,x6.zP.Writes,x6.zP.Stop,x6.zP.Down))).bind fun v23=>
   (zI x18.2 2).bind fun x24=>
   (if x24.1 then
     ((zI x24.2 2).bind fun x27=>
     (zCs x2.1 ({Files:=v23.1,Budget:=v23.2.1,Writes:=v23.2.2.1,Stop:=v23.2.2.2.1,Down:=v23.2.2.2.2}:zP) x2.2.2.1 x27.1).bind fun x29=>
     some (x27.2.Code,x27.2.At,x29.Files,x29.Budget,x29.Writes,x29.Stop,x29.Down))
    else
     (some (x24.2.Code,x24.2.At,v23.1,v23.2.1,v23.2.2.1,v23.2.2.2.1,v23.2.2.2.2))).bind fun v31=>
   (zI ({Code:=v31.1,At:=v31.2.1}:zC) 3).bind fun x32=>
   if x32.1 then
    ((vP x32.2 x2.1).bind fun x35=>
    (zAH x35.1).bind fun x37=>
    (wD ({Files:=v31.2.2.1,Budget:=v31.2.2.2.1,Writes:=v31.2.2.2.2.1,Stop:=v31.2.2.2.2.2.1,Down:=v31.2.2.2.2.2.2}:zP) (bs [114,111,111,116,115]) (s2b x37)).bind fun x39=>
    some (x35.2.Code,x35.2.At,x39.2.Files,x39.2.Budget,x39.2.Writes,x39.2.Stop,x39.2.Down))
   else
    (some (x32.2.Code,x32.2.At,v31.2.2.1,v31.2.2.2.1,v31.2.2.2.2.1,v31.2.2.2.2.2.1,v31.2.2.2.2.2.2)))
  else
   (some (x4.2.Code,x4.2.At,x6.zP.Files,x6.zP.Budget,x6.zP.Writes,x6.zP.Stop,x6.zP.Down))).bind fun v41=>
 (zH ({Code:=v41.1,At:=v41.2.1}:zC) 20).bind fun x42=>
 (if x42.1==0 then
   ((zH x42.2 5).bind fun x45=>
   (idx [bs [],bs [55],bs [120],bs [48,48,48,48,48,49],bs [49,48,48,48,48,48,48]] x45.1).bind fun x47=>
   (wD ({Files:=v41.2.2.1,Budget:=v41.2.2.2.1,Writes:=0,Stop:=v41.2.2.2.2.2.1,Down:=v41.2.2.2.2.2.2}:zP) (bs [99,117,114]) (s2b x47)).bind fun x49=>
   some (x45.2.Code,x45.2.At,x49.2.Files,x49.2.Budget,x49.2.Writes,x49.2.Stop,x49.2.Down))
  else
   (if x42.1==1 then
    ((zH x42.2 3).bind fun x52=>
    (idx [bs [122,122,32,49,10],bs [97,32,49,10,97,32,49,10],bs [97,10]] x52.1).bind fun x54=>
    (wD ({Files:=v41.2.2.1,Budget:=v41.2.2.2.1,Writes:=0,Stop:=v41.2.2.2.2.2.1,Down:=v41.2.2.2.2.2.2}:zP) (bs [103,101,110,47,48,48,48,48,48,57]) (s2b x54)).bind fun x56=>
    some (x52.2.Code,x52.2.At,x56.2.Files,x56.2.Budget,x56.2.Writes,x56.2.Stop,x56.2.Down))
   else
    (if x42.1==2 then
     ((wD ({Files:=v41.2.2.1,Budget:=v41.2.2.2.1,Writes:=0,Stop:=v41.2.2.2.2.2.1,Down:=v41.2.2.2.2.2.2}:zP) (bs [103,101,110,47,57]) [120]).bind fun x59=>
     some (x42.2.Code,x42.2.At,x59.2.Files,x59.2.Budget,x59.2.Writes,x59.2.Stop,x59.2.Down))
    else
     (if x42.1==3 then
      ((zH x42.2 5).bind fun x62=>
      (idx [bs [97],bs [97,10,97,62,61,49,10],bs [97,62,61,49,10],bs [10],bs [97,32,10]] x62.1).bind fun x64=>
      (wD ({Files:=v41.2.2.1,Budget:=v41.2.2.2.1,Writes:=0,Stop:=v41.2.2.2.2.2.1,Down:=v41.2.2.2.2.2.2}:zP) (bs [114,111,111,116,115]) (s2b x64)).bind fun x66=>
      some (x62.2.Code,x62.2.At,x66.2.Files,x66.2.Budget,x66.2.Writes,x66.2.Stop,x66.2.Down))
     else
      (if x42.1==4 then
       ((zEd x42.2).bind fun x69=>
       some (x69.2.Code,x69.2.At,x69.1.Files,x69.1.Budget,x69.1.Writes,x69.1.Stop,x69.1.Down))
      else
       (if x42.1==5 then
        (if decide ((v41.2.2.1.length:Int)>0) then
         ((zGp v41.2.2.1 0 (w64 ((v41.2.2.1.length:Int)-1))).bind fun x73=>
         some (x42.2.Code,x42.2.At,x73,v41.2.2.2.1,0,v41.2.2.2.2.2.1,v41.2.2.2.2.2.2))
        else
         (some (x42.2.Code,x42.2.At,v41.2.2.1,v41.2.2.2.1,0,v41.2.2.2.2.2.1,v41.2.2.2.2.2.2)))
       else
        (if x42.1==6 then
         ((wD ({Files:=v41.2.2.1,Budget:=v41.2.2.2.1,Writes:=0,Stop:=v41.2.2.2.2.2.1,Down:=v41.2.2.2.2.2.2}:zP) (bs [103,101,110,47,57,57,57,57,57,57]) ([]:List Int)).bind fun x76=>
         some (x42.2.Code,x42.2.At,x76.2.Files,x76.2.Budget,x76.2.Writes,x76.2.Stop,x76.2.Down))
        else
         (some (x42.2.Code,x42.2.At,v41.2.2.1,v41.2.2.2.1,0,v41.2.2.2.2.2.1,v41.2.2.2.2.2.2))))))))).bind fun v78=>
 some (x2.1,({Files:=v78.2.2.1,Budget:=v78.2.2.2.1,Writes:=v78.2.2.2.2.1,Stop:=v78.2.2.2.2.2.1,Down:=v78.2.2.2.2.2.2}:zP),({Code:=v78.1,At:=v78.2.1}:zC))
def zEg (a1:Int):Option Bool:=
 (vE a1).bind fun x2=>
 if x2 then
  (some true)
 else
  (if a1==46 then
   (some true)
  else
   (if a1==45 then
    (some true)
   else
    (some (a1==47))))
def zA6 (a1:ByteArray) (s11:Int):Option (Lp Int (Fl Int Unit)):=
 if decide (s11< (a1.size:Int)) then
  ((bidx a1 s11).bind fun x13=>
  (zEg x13).bind fun x15=>
  if !x15 then
   (some (Lp.done (Fl.ret 5)))
  else
   (some (Lp.go (w64 (s11+1)))))
 else
  (some (Lp.done (Fl.nxt ())))
def zBh (a1:ByteArray):Int→Option (Fl Int Unit):=loop (zA6 a1)
def uX (a1:ByteArray):Option Int:=
 (if decide ((a1.size:Int)<1) then
   (some true)
  else
   (some (decide ((a1.size:Int)>40)))).bind fun v3=>
 if v3 then
  (some 5)
 else
  ((zBh a1 0).bind (Fl.go some fun v18=>
  some 0))
def zA3 (a1:zP) (s29:Int):Option (Lp Int (Fl Int Unit)):=
 if decide (s29< (a1.Files.length:Int)) then
  ((idx a1.Files s29).bind fun x31=>
  (uX x31.Path).bind fun x33=>
  if x33 !=0 then
   (some (Lp.done (Fl.ret x33)))
  else
   ((if decide (s29>0) then
      ((idx a1.Files s29).bind fun x37=>
      (idx a1.Files (w64 (s29-1))).bind fun x39=>
      some (slt x37.Path x39.Path||seq x37.Path x39.Path))
     else
      (some false)).bind fun v41=>
   if v41 then
    (some (Lp.done (Fl.ret 1)))
   else
    ((idx a1.Files s29).bind fun x43=>
    if decide ((x43.Data.length:Int)>4000) then
     (some (Lp.done (Fl.ret 2)))
    else
     (some (Lp.go (w64 (s29+1)))))))
 else
  (some (Lp.done (Fl.nxt ())))
def zBv (a1:zP):Int→Option (Fl Int Unit):=loop (zA3 a1)
def jU (a1:zP):Option Int:=
 (yZ a1.Budget 0 20000).bind fun x2=>
 (if !x2 then
   (some true)
  else
   ((yZ a1.Writes 0 1000000000).bind fun x5=>
   if !x5 then
    (some true)
   else
    ((yZ a1.Stop (-1) 1000000000).bind fun x8=>
    some (!x8)))).bind fun v10=>
 if v10 then
  (some 3)
 else
  (if decide ((a1.Files.length:Int)>120) then
   (some 2)
  else
   ((zBv a1 0).bind (Fl.go some fun v46=>
   (jW a1).bind fun x47=>
   if decide (x47>a1.Budget) then
    (some 8)
   else
    (some 0))))
def zDa (a1:(List Pack)) (a2:zP):Option Int:=
 (zY a1).bind fun x3=>
 if x3 !=0 then
  (some x3)
 else
  ((jU a2).bind fun x6=>
  some x6)
def zAI (a1:zP):Option Int:=
 (uE a1 (bs [99,117,114])).bind fun x2=>
 if decide (x2<0) then
  (some 0)
 else
  ((idx a1.Files x2).bind fun x5=>
  (vK (b2s x5.Data) 6).bind fun x7=>
  (if !x7.2 then
    (some true)
   else
    ((jF a1).bind fun x10=>
    (yX x10 x7.1).bind fun x12=>
    some (!x12))).bind fun v14=>
  if v14 then
   (some 0)
  else
   (some x7.1))
def zBW (a1:ByteArray) (a2:Int) (s14:((List ByteArray)×Int×Int)):Option (Lp ((List ByteArray)×Int×Int) (List ByteArray)):=
 if decide (s14.2.2≤(a1.size:Int)) then
  ((if s14.2.2==(a1.size:Int) then
     (some true)
    else
     ((bidx a1 s14.2.2).bind fun x17=>
     some (x17==a2))).bind fun v19=>
  (if v19 then
    ((zFt a1 s14.2.1 s14.2.2).bind fun x21=>
    (app 16 s14.1 [x21]).bind fun x23=>
    some (x23,w64 (s14.2.2+1)))
   else
    (some (s14.1,s14.2.1))).bind fun v25=>
  some (Lp.go (v25.1,v25.2,w64 (s14.2.2+1))))
 else
  (some (Lp.done s14.1))
def zCW (a1:ByteArray) (a2:Int):((List ByteArray)×Int×Int)→Option (List ByteArray):=loop (zBW a1 a2)
def tF (a1:ByteArray) (a2:Int):Option (List ByteArray):=
 (zCW a1 a2 (([]:List ByteArray),0,0)).bind fun v26=>
 some v26
def tO (a1:ByteArray):Option (List ByteArray):=
 (tF a1 10).bind fun x2=>
 (idx x2 (w64 ((x2.length:Int)-1))).bind fun x4=>
 (if seq x4 (bs []) then
   ((zGp x2 0 (w64 ((x2.length:Int)-1))).bind fun x7=>
   some x7)
  else
   (some x2)).bind fun v9=>
 some v9
def zBO (x2:(List ByteArray)) (s13:((List ByteArray)×Int)):Option (Lp ((List ByteArray)×Int) (List ByteArray)):=
 if decide (s13.2< (x2.length:Int)) then
  ((idx x2 s13.2).bind fun x15=>
  (if !(seq x15 (bs [])) then
    ((idx x2 s13.2).bind fun x18=>
    (app 16 s13.1 [x18]).bind fun x20=>
    some x20)
   else
    (some s13.1)).bind fun v22=>
  some (Lp.go (v22,w64 (s13.2+1))))
 else
  (some (Lp.done s13.1))
def zDm (x2:(List ByteArray)):((List ByteArray)×Int)→Option (List ByteArray):=loop (zBO x2)
def zCZ (a1:ByteArray):Option (List ByteArray):=
 (tF a1 32).bind fun x2=>
 (zDm x2 (([]:List ByteArray),0)).bind fun v23=>
 some v23
def tN (x2:(List ByteArray)) (s13:((List Int)×Int)):Option (Lp ((List Int)×Int) (Fl zQ (List Int))):=
 if decide (s13.2< (x2.length:Int)) then
  ((idx x2 s13.2).bind fun x15=>
  (vK x15 3).bind fun x17=>
  if !x17.2 then
   (some (Lp.done (Fl.ret ({Code:=5,Version:=({A:=0,B:=0,C:=0}:Version)}:zQ))))
  else
   ((idx s13.1 s13.2).bind fun x20=>
   some (Lp.go (s13.1.set s13.2.toNat x17.1,w64 (s13.2+1)))))
 else
  (some (Lp.done (Fl.nxt s13.1)))
def jJ (x2:(List ByteArray)):((List Int)×Int)→Option (Fl zQ (List Int)):=loop (tN x2)
def xD (a1:ByteArray):Option zQ:=
 (tF a1 46).bind fun x2=>
 if decide ((x2.length:Int)>3) then
  (some ({Code:=5,Version:=({A:=0,B:=0,C:=0}:Version)}:zQ))
 else
  ((jJ x2 ([0,0,0],0)).bind (Fl.go some fun v22=>
  (idx v22 0).bind fun x23=>
  (idx v22 1).bind fun x25=>
  (idx v22 2).bind fun x27=>
  some ({Code:=0,Version:=({A:=x23,B:=x25,C:=x27}:Version)}:zQ)))
def zAj (a1:(List Pack)) (x4:(List ByteArray)) (s29:((List Int)×Int)):Option (Lp ((List Int)×Int) (Fl wB (List Int))):=
 if decide (s29.2< (x4.length:Int)) then
  ((idx x4 s29.2).bind fun x31=>
  (zCZ x31).bind fun x33=>
  (if (x33.length:Int)==2 then
    ((idx x33 1).bind fun x36=>
    (xD x36).bind fun x38=>
    if x38.Code==0 then
     ((idx x33 0).bind fun x41=>
     (uV a1 x41 x38.Version).bind fun x43=>
     some x43)
    else
     (some (-1)))
   else
    (some (-1))).bind fun v45=>
  (if decide (v45<0) then
    (some true)
   else
    ((yX s29.1 v45).bind fun x47=>
    some x47)).bind fun v49=>
  if v49 then
   (some (Lp.done (Fl.ret ({Code:=5,At:=s29.2,Set:=([]:List Int)}:wB))))
  else
   ((zCo s29.1 v45).bind fun x51=>
   some (Lp.go (x51,w64 (s29.2+1)))))
 else
  (some (Lp.done (Fl.nxt s29.1)))
def zC3 (a1:(List Pack)) (x4:(List ByteArray)):((List Int)×Int)→Option (Fl wB (List Int)):=loop (zAj a1 x4)
def zC4 (a1:(List Pack)) (a2:ByteArray):Option wB:=
 if decide ((a2.size:Int)>4000) then
  (some ({Code:=2,At:=0,Set:=([]:List Int)}:wB))
 else
  ((tO a2).bind fun x4=>
  (zC3 a1 x4 (([]:List Int),0)).bind (Fl.go some fun v53=>
  some ({Code:=0,At:=0,Set:=v53}:wB)))
def zEC (a1:(List Pack)) (a2:zP) (a3:Int):Option wB:=
 (jF a2).bind fun x4=>
 (yX x4 a3).bind fun x6=>
 if !x6 then
  (some ({Code:=4,At:=0,Set:=([]:List Int)}:wB))
 else
  ((wL a3).bind fun x9=>
  (uE a2 x9).bind fun x11=>
  (idx a2.Files x11).bind fun x13=>
  (zC4 a1 (b2s x13.Data)).bind fun x15=>
  if x15.Code !=0 then
   (some ({Code:=x15.Code,At:=0,Set:=([]:List Int)}:wB))
  else
   (some x15))
def zCL (a1:(List Pack)) (a2:zP):Option wB:=
 (zAI a2).bind fun x3=>
 (zEC a1 a2 x3).bind fun x5=>
 some x5
def kQ (a1:(List Pack)) (a2:(List Int)):Option Bool:=
 (uI a1 a2).bind fun x3=>
 some ((x3.length:Int)==0)
def zDG (a1:(List Pack)) (a2:(List Int)) (a3:ByteArray) (s12:Int):Option (Lp Int (Fl Int Unit)):=
 if decide (s12< (a2.length:Int)) then
  ((idx a2 s12).bind fun x14=>
  (idx a1 x14).bind fun x16=>
  if seq x16.Name a3 then
   ((idx a2 s12).bind fun x19=>
   some (Lp.done (Fl.ret x19)))
  else
   (some (Lp.go (w64 (s12+1)))))
 else
  (some (Lp.done (Fl.nxt ())))
def zEq (a1:(List Pack)) (a2:(List Int)) (a3:ByteArray):Int→Option (Fl Int Unit):=loop (zDG a1 a2 a3)
def kE (a1:(List Pack)) (a2:(List Int)) (a3:ByteArray):Option Int:=
 (zEq a1 a2 a3 0).bind (Fl.go some fun v21=>
 some (-1))
def zDo (a1:(List ByteArray)) (a2:ByteArray) (s19:((List ByteArray)×Bool×Int)):Option (Lp ((List ByteArray)×Bool×Int) (Fl (List ByteArray) ((List ByteArray)×Bool))):=
 if decide (s19.2.2< (a1.length:Int)) then
  ((idx a1 s19.2.2).bind fun x21=>
  if seq x21 a2 then
   (some (Lp.done (Fl.ret a1)))
  else
   ((idx a1 s19.2.2).bind fun x24=>
   (if !(slt x24 a2||seq x24 a2) then
     (some (!s19.2.1))
    else
     (some false)).bind fun v27=>
   (if v27 then
     ((app 16 s19.1 [a2]).bind fun x29=>
     some (x29,true))
    else
     (some (s19.1,s19.2.1))).bind fun v31=>
   (idx a1 s19.2.2).bind fun x32=>
   (app 16 v31.1 [x32]).bind fun x34=>
   some (Lp.go (x34,v31.2,w64 (s19.2.2+1)))))
 else
  (some (Lp.done (Fl.nxt (s19.1,s19.2.1))))
def zDF (a1:(List ByteArray)) (a2:ByteArray):((List ByteArray)×Bool×Int)→Option (Fl (List ByteArray) ((List ByteArray)×Bool)):=loop (zDo a1 a2)
def vC (a1:(List ByteArray)) (a2:ByteArray):Option (List ByteArray):=
 (zDF a1 a2 (([]:List ByteArray),false,0)).bind (Fl.go some fun v36=>
 (if !v36.2 then
   ((app 16 v36.1 [a2]).bind fun x38=>
   some x38)
  else
   (some v36.1)).bind fun v40=>
 some v40)
def zAp (a1:(List Pack)) (a2:(List Int)) (a3:(List Int)) (s15:((List ByteArray)×Int)):Option (Lp ((List ByteArray)×Int) (List ByteArray)):=
 if decide (s15.2< (a1.length:Int)) then
  ((idx a1 s15.2).bind fun x17=>
  (kE a1 a2 x17.Name).bind fun x19=>
  (kE a1 a3 x17.Name).bind fun x21=>
  (if x19 !=x21 then
    ((vC s15.1 x17.Name).bind fun x24=>
    some x24)
   else
    (some s15.1)).bind fun v26=>
  some (Lp.go (v26,w64 (s15.2+1))))
 else
  (some (Lp.done s15.1))
def zAY (a1:(List Pack)) (a2:(List Int)) (a3:(List Int)):((List ByteArray)×Int)→Option (List ByteArray):=loop (zAp a1 a2 a3)
def zAG (a1:(List Pack)) (a2:(List Int)) (a3:(List Int)):Option (List ByteArray):=
 (zAY a1 a2 a3 (([]:List ByteArray),0)).bind fun v27=>
 some v27
def zBF (a1:(List Pack)) (a2:(List Int)) (a3:(List Int)) (a4:ByteArray):Option (List Pack):=
 (kE a1 a2 a4).bind fun x5=>
 (if decide (x5≥0) then
   ((idx a1 x5).bind fun x8=>
   (app 120 ([]:List Pack) [x8]).bind fun x10=>
   some x10)
  else
   (some ([]:List Pack))).bind fun v12=>
 (kE a1 a3 a4).bind fun x13=>
 (if decide (x13≥0) then
   ((idx a1 x13).bind fun x16=>
   (app 120 v12 [x16]).bind fun x18=>
   some x18)
  else
   (some v12)).bind fun v20=>
 some v20
def zBU (x5:(List Pack)) (s28:((List ByteArray)×Int)) (s39:((List ByteArray)×Int)):Option (Lp ((List ByteArray)×Int) (List ByteArray)):=
 (idx x5 s28.2).bind fun x40=>
 if decide (s39.2< (x40.Provides.length:Int)) then
  ((idx x5 s28.2).bind fun x43=>
  (idx x43.Provides s39.2).bind fun x45=>
  (vC s39.1 x45).bind fun x47=>
  some (Lp.go (x47,w64 (s39.2+1))))
 else
  (some (Lp.done s39.1))
def zDb (x5:(List Pack)) (s28:((List ByteArray)×Int)):((List ByteArray)×Int)→Option (List ByteArray):=loop (zBU x5 s28)
def zBM (x5:(List Pack)) (s28:((List ByteArray)×Int)):Option (Lp ((List ByteArray)×Int) (List ByteArray)):=
 if decide (s28.2< (x5.length:Int)) then
  ((zDb x5 s28 (s28.1,0)).bind fun v49=>
  some (Lp.go (v49,w64 (s28.2+1))))
 else
  (some (Lp.done s28.1))
def zCE (x5:(List Pack)):((List ByteArray)×Int)→Option (List ByteArray):=loop (zBM x5)
def zAs (a1:(List Pack)) (a2:(List Int)) (a3:(List Int)) (a4:ByteArray):Option (List ByteArray):=
 (zBF a1 a2 a3 a4).bind fun x5=>
 (zCE x5 ([a4],0)).bind fun v50=>
 some v50
def kV (a1:Pack) (s23:((List ByteArray)×Int)) (s34:((List ByteArray)×Int)):Option (Lp ((List ByteArray)×Int) (List ByteArray)):=
 (idx a1.Needs s23.2).bind fun x35=>
 if decide (s34.2< (x35.length:Int)) then
  ((idx a1.Needs s23.2).bind fun x38=>
  (idx x38 s34.2).bind fun x40=>
  (vC s34.1 x40.Name).bind fun x42=>
  some (Lp.go (x42,w64 (s34.2+1))))
 else
  (some (Lp.done s34.1))
def zA4 (a1:Pack) (s23:((List ByteArray)×Int)):((List ByteArray)×Int)→Option (List ByteArray):=loop (kV a1 s23)
def kW (a1:Pack) (s51:((List ByteArray)×Int)):Option (Lp ((List ByteArray)×Int) (List ByteArray)):=
 if decide (s51.2< (a1.Bars.length:Int)) then
  ((idx a1.Bars s51.2).bind fun x53=>
  (vC s51.1 x53.Name).bind fun x55=>
  some (Lp.go (x55,w64 (s51.2+1))))
 else
  (some (Lp.done s51.1))
def zA7 (a1:Pack):((List ByteArray)×Int)→Option (List ByteArray):=loop (kW a1)
def kR (a1:Pack) (s23:((List ByteArray)×Int)):Option (Lp ((List ByteArray)×Int) (List ByteArray)):=
 if decide (s23.2< (a1.Needs.length:Int)) then
  ((zA4 a1 s23 (s23.1,0)).bind fun v44=>
  some (Lp.go (v44,w64 (s23.2+1))))
 else
  (some (Lp.done s23.1))
def zAz (a1:Pack):((List ByteArray)×Int)→Option (List ByteArray):=loop (kR a1)
def kN (a1:Pack):Option (List ByteArray):=
 (zAz a1 (([]:List ByteArray),0)).bind fun v45=>
 (zA7 a1 (v45,0)).bind fun v57=>
 some v57
def zDP (a1:(List ByteArray)) (a2:(List ByteArray)) (s9:Int):Option (Lp Int (Fl Bool Unit)):=
 if decide (s9< (a1.length:Int)) then
  ((idx a1 s9).bind fun x11=>
  (xG a2 x11).bind fun x13=>
  if x13 then
   (some (Lp.done (Fl.ret true)))
  else
   (some (Lp.go (w64 (s9+1)))))
 else
  (some (Lp.done (Fl.nxt ())))
def zCI (a1:(List ByteArray)) (a2:(List ByteArray)):Int→Option (Fl Bool Unit):=loop (zDP a1 a2)
def zC8 (a1:(List ByteArray)) (a2:(List ByteArray)):Option Bool:=
 (zCI a1 a2 0).bind (Fl.go some fun v16=>
 some false)
def zDh (a5:(List ByteArray)) (x6:(List Pack)) (s16:Int):Option (Lp Int (Fl Bool Unit)):=
 if decide (s16< (x6.length:Int)) then
  ((idx x6 s16).bind fun x18=>
  (kN x18).bind fun x20=>
  (zC8 x20 a5).bind fun x22=>
  if x22 then
   (some (Lp.done (Fl.ret true)))
  else
   (some (Lp.go (w64 (s16+1)))))
 else
  (some (Lp.done (Fl.nxt ())))
def zDD (a5:(List ByteArray)) (x6:(List Pack)):Int→Option (Fl Bool Unit):=loop (zDh a5 x6)
def uG (a1:(List Pack)) (a2:(List Int)) (a3:(List Int)) (a4:ByteArray) (a5:(List ByteArray)):Option Bool:=
 (zBF a1 a2 a3 a4).bind fun x6=>
 (zDD a5 x6 0).bind (Fl.go some fun v25=>
 some false)
def zDu (a1:(List Term)) (a2:(List ByteArray)) (s9:Int):Option (Lp Int (Fl Bool Unit)):=
 if decide (s9< (a1.length:Int)) then
  ((idx a1 s9).bind fun x11=>
  (xG a2 x11.Name).bind fun x13=>
  if x13 then
   (some (Lp.done (Fl.ret true)))
  else
   (some (Lp.go (w64 (s9+1)))))
 else
  (some (Lp.done (Fl.nxt ())))
def zCh (a1:(List Term)) (a2:(List ByteArray)):Int→Option (Fl Bool Unit):=loop (zDu a1 a2)
def uY (a1:(List Term)) (a2:(List ByteArray)):Option Bool:=
 (zCh a1 a2 0).bind (Fl.go some fun v16=>
 some false)
def uR (a1:(List Pack)) (a2:(List Int)) (a3:(List ByteArray)) (a4:(List ByteArray)) (s36:Int) (x40:Pack) (s54:Int):Option (Lp Int (Fl Bool Unit)):=
 if decide (s54< (x40.Needs.length:Int)) then
  ((idx x40.Needs s54).bind fun x56=>
  (uY x56 a3).bind fun x58=>
  (if x58 then
    ((idx x40.Needs s54).bind fun x61=>
    (uY x61 a4).bind fun x63=>
    some x63)
   else
    (some false)).bind fun v65=>
  if v65 then
   (some (Lp.done (Fl.ret true)))
  else
   (some (Lp.go (w64 (s54+1)))))
 else
  (some (Lp.done (Fl.nxt ())))
def zA9 (a1:(List Pack)) (a2:(List Int)) (a3:(List ByteArray)) (a4:(List ByteArray)) (s36:Int) (x40:Pack):Int→Option (Fl Bool Unit):=loop (uR a1 a2 a3 a4 s36 x40)
def kT (a1:(List Pack)) (a2:(List Int)) (a3:(List ByteArray)) (a4:(List ByteArray)) (s36:Int):Option (Lp Int (Fl Bool Unit)):=
 if decide (s36< (a2.length:Int)) then
  ((idx a2 s36).bind fun x38=>
  (idx a1 x38).bind fun x40=>
  (zA9 a1 a2 a3 a4 s36 x40 0).bind (Fl.go (fun r=>some (Lp.done (Fl.ret r))) fun v67=>
  some (Lp.go (w64 (s36+1)))))
 else
  (some (Lp.done (Fl.nxt ())))
def zAx (a1:(List Pack)) (a2:(List Int)) (a3:(List ByteArray)) (a4:(List ByteArray)):Int→Option (Fl Bool Unit):=loop (kT a1 a2 a3 a4)
def vJ (a1:(List Pack)) (a2:(List Int)) (a3:(List ByteArray)) (a4:(List ByteArray)):Option Bool:=
 (zAx a1 a2 a3 a4 0).bind (Fl.go some fun v68=>
 some false)
def xP (a1:(List Pack)) (a2:(List Int)) (a3:(List Int)) (a4:ByteArray) (a5:ByteArray):Option Bool:=
 (zAs a1 a2 a3 a4).bind fun x6=>
 (zAs a1 a2 a3 a5).bind fun x8=>
 (uG a1 a2 a3 a4 x8).bind fun x10=>
 if x10 then
  (some true)
 else
  ((uG a1 a2 a3 a5 x6).bind fun x13=>
  if x13 then
   (some true)
  else
   ((vJ a1 a2 x6 x8).bind fun x16=>
   if x16 then
    (some true)
   else
    ((vJ a1 a3 x6 x8).bind fun x19=>
    some x19)))
def zBP (a1:(List Pack)) (a2:(List Int)) (a3:(List Int)) (s206:((List ByteArray)×(List (List ByteArray)))) (s337:((List ByteArray)×Bool×Int)) (s358:((List ByteArray)×Bool×Int)):Option (Lp ((List ByteArray)×Bool×Int) ((List ByteArray)×Bool)):=
 (if decide (s358.2.2< (s358.1.length:Int)) then
   ((idx s206.1 s337.2.2).bind fun x360=>
   (xG s358.1 x360).bind fun x362=>
   some (!x362))
  else
   (some false)).bind fun v364=>
 if v364 then
  ((idx s358.1 s358.2.2).bind fun x366=>
  (idx s206.1 s337.2.2).bind fun x368=>
  (xP a1 a2 a3 x366 x368).bind fun x370=>
  (if x370 then
    ((idx s206.1 s337.2.2).bind fun x373=>
    (vC s358.1 x373).bind fun x375=>
    some (x375,true))
   else
    (some (s358.1,s358.2.1))).bind fun v377=>
  some (Lp.go (v377.1,v377.2,w64 (s358.2.2+1))))
 else
  (some (Lp.done (s358.1,s358.2.1)))
def zDc (a1:(List Pack)) (a2:(List Int)) (a3:(List Int)) (s206:((List ByteArray)×(List (List ByteArray)))) (s337:((List ByteArray)×Bool×Int)):((List ByteArray)×Bool×Int)→Option ((List ByteArray)×Bool):=loop (zBP a1 a2 a3 s206 s337)
def zAf (a1:(List Pack)) (a2:(List Int)) (a3:(List Int)) (s206:((List ByteArray)×(List (List ByteArray)))) (s337:((List ByteArray)×Bool×Int)):Option (Lp ((List ByteArray)×Bool×Int) ((List ByteArray)×Bool)):=
 if decide (s337.2.2< (s206.1.length:Int)) then
  ((zDc a1 a2 a3 s206 s337 (s337.1,s337.2.1,0)).bind fun v378=>
  some (Lp.go (v378.1,v378.2,w64 (s337.2.2+1))))
 else
  (some (Lp.done (s337.1,s337.2.1)))
def zCN (a1:(List Pack)) (a2:(List Int)) (a3:(List Int)) (s206:((List ByteArray)×(List (List ByteArray)))):((List ByteArray)×Bool×Int)→Option ((List ByteArray)×Bool):=loop (zAf a1 a2 a3 s206)
def zCf (a1:(List Pack)) (a2:(List Int)) (a3:(List Int)) (s206:((List ByteArray)×(List (List ByteArray)))) (v380:(List ByteArray)) (s392:((List ByteArray)×Int)):Option (Lp ((List ByteArray)×Int) (List ByteArray)):=
 if decide (s392.2< (s206.1.length:Int)) then
  ((idx s206.1 s392.2).bind fun x394=>
  (xG v380 x394).bind fun x396=>
  (if !x396 then
    ((idx s206.1 s392.2).bind fun x399=>
    (app 16 s392.1 [x399]).bind fun x401=>
    some x401)
   else
    (some s392.1)).bind fun v403=>
  some (Lp.go (v403,w64 (s392.2+1))))
 else
  (some (Lp.done s392.1))
def zAZ (a1:(List Pack)) (a2:(List Int)) (a3:(List Int)) (s206:((List ByteArray)×(List (List ByteArray)))) (v380:(List ByteArray)):((List ByteArray)×Int)→Option (List ByteArray):=loop (zCf a1 a2 a3 s206 v380)
def zDO (a1:(List Pack)) (a2:(List Int)) (a3:(List Int)) (s206:((List ByteArray)×(List (List ByteArray)))) (s294:((List ByteArray)×Bool)):Option (Lp ((List ByteArray)×Bool) (List ByteArray)):=
 if s294.2 then
  ((zCN a1 a2 a3 s206 (s294.1,false,0)).bind fun v379=>
  some (Lp.go (v379.1,v379.2)))
 else
  (some (Lp.done s294.1))
def zBq (a1:(List Pack)) (a2:(List Int)) (a3:(List Int)) (s206:((List ByteArray)×(List (List ByteArray)))):((List ByteArray)×Bool)→Option (List ByteArray):=loop (zDO a1 a2 a3 s206)
def zBZ (a1:(List Pack)) (a2:(List Int)) (a3:(List Int)) (s206:((List ByteArray)×(List (List ByteArray)))):Option (Lp ((List ByteArray)×(List (List ByteArray))) (List (List ByteArray))):=
 if decide ((s206.1.length:Int)>0) then
  ((idx s206.1 0).bind fun x208=>
  (zBq a1 a2 a3 s206 ([x208],true)).bind fun v380=>
  (zAZ a1 a2 a3 s206 v380 (([]:List ByteArray),0)).bind fun v404=>
  (app 24 s206.2 [v380]).bind fun x405=>
  some (Lp.go (v404,x405)))
 else
  (some (Lp.done s206.2))
def tK (a1:(List Pack)) (a2:(List Int)) (a3:(List Int)):((List ByteArray)×(List (List ByteArray)))→Option (List (List ByteArray)):=loop (zBZ a1 a2 a3)
def zB2 (a1:(List Pack)) (a2:(List Int)) (a3:(List Int)):Option (List (List ByteArray)):=
 (zAG a1 a2 a3).bind fun x4=>
 (tK a1 a2 a3 (x4,([]:List (List ByteArray)))).bind fun v407=>
 some v407
def zDd (a1:(List ByteArray)) (a2:Int) (s12:((List ByteArray)×Int)):Option (Lp ((List ByteArray)×Int) (List ByteArray)):=
 if decide (s12.2< (a1.length:Int)) then
  ((zRH .i64 a2 (IntKind.u64.wrap (w64 ((w64 ((a1.length:Int)-1))-s12.2)))).bind fun x14=>
  (if (zSh .i64 x14 1)==1 then
    ((idx a1 s12.2).bind fun x17=>
    (app 16 s12.1 [x17]).bind fun x19=>
    some x19)
   else
    (some s12.1)).bind fun v21=>
  some (Lp.go (v21,w64 (s12.2+1))))
 else
  (some (Lp.done s12.1))
def zDA (a1:(List ByteArray)) (a2:Int):((List ByteArray)×Int)→Option (List ByteArray):=loop (zDd a1 a2)
def zDR (a1:(List ByteArray)) (a2:Int):Option (List ByteArray):=
 (zDA a1 a2 (([]:List ByteArray),0)).bind fun v22=>
 some v22
def zCM (a1:(List Pack)) (a2:(List Int)) (a3:(List Int)) (a4:(List ByteArray)) (s25:((List Int)×Int)):Option (Lp ((List Int)×Int) (List Int)):=
 if decide (s25.2< (a1.length:Int)) then
  ((idx a1 s25.2).bind fun x27=>
  (xG a4 x27.Name).bind fun x29=>
  (if !x29 then
    ((yX a2 s25.2).bind fun x32=>
    if x32 then
     (some true)
    else
     (if x29 then
      ((yX a3 s25.2).bind fun x36=>
      some x36)
     else
      (some false)))
   else
    (if x29 then
     ((yX a3 s25.2).bind fun x39=>
     some x39)
    else
     (some false))).bind fun v41=>
  (if v41 then
    ((app 8 s25.1 [s25.2]).bind fun x43=>
    some x43)
   else
    (some s25.1)).bind fun v45=>
  some (Lp.go (v45,w64 (s25.2+1))))
 else
  (some (Lp.done s25.1))
def zD8 (a1:(List Pack)) (a2:(List Int)) (a3:(List Int)) (a4:(List ByteArray)):((List Int)×Int)→Option (List Int):=loop (zCM a1 a2 a3 a4)
def zAR (a1:(List Pack)) (a2:(List Int)) (a3:(List Int)) (a4:(List ByteArray)):Option (List Int):=
 (zD8 a1 a2 a3 a4 (([]:List Int),0)).bind fun v46=>
 some v46
def zDk (a1:(List Pack)) (a2:(List Int)) (a3:(List Int)) (a4:(List ByteArray)) (s31:Int) (s45:Int):Option (Lp Int (Fl (List ByteArray) Unit)):=
 if decide (s45>0) then
  ((zDR a4 s45).bind fun x47=>
  (if (x47.length:Int)==s31 then
    ((zAR a1 a2 a3 x47).bind fun x50=>
    (kQ a1 x50).bind fun x52=>
    some x52)
   else
    (some false)).bind fun v54=>
  if v54 then
   (some (Lp.done (Fl.ret x47)))
  else
   (some (Lp.go (w64 (s45-1)))))
 else
  (some (Lp.done (Fl.nxt ())))
def zEI (a1:(List Pack)) (a2:(List Int)) (a3:(List Int)) (a4:(List ByteArray)) (s31:Int):Int→Option (Fl (List ByteArray) Unit):=loop (zDk a1 a2 a3 a4 s31)
def zCT (a1:(List Pack)) (a2:(List Int)) (a3:(List Int)) (a4:(List ByteArray)) (s31:Int):Option (Lp Int (Fl (List ByteArray) Unit)):=
 if decide (s31< (a4.length:Int)) then
  ((zSk .i64 1 (IntKind.u64.wrap ((a4.length:Int)))).bind fun x33=>
  (zEI a1 a2 a3 a4 s31 (w64 (x33-1))).bind (Fl.go (fun r=>some (Lp.done (Fl.ret r))) fun v56=>
  some (Lp.go (w64 (s31+1)))))
 else
  (some (Lp.done (Fl.nxt ())))
def zF2 (a1:(List Pack)) (a2:(List Int)) (a3:(List Int)) (a4:(List ByteArray)):Int→Option (Fl (List ByteArray) Unit):=loop (zCT a1 a2 a3 a4)
def zFq (a1:(List Pack)) (a2:(List Int)) (a3:(List Int)) (a4:(List ByteArray)):Option (List ByteArray):=
 if decide ((a4.length:Int)>6) then
  (some a4)
 else
  ((zF2 a1 a2 a3 a4 1).bind (Fl.go some fun v57=>
  some a4))
def zAu (a1:(List Pack)) (a3:(List Int)) (x4:(List (List ByteArray))) (s156:((List (List ByteArray))×(List (List Int))×(List Int)×Int)) (s195:((List (List ByteArray))×(List (List Int))×(List Int)×(List ByteArray))) (x197:(List ByteArray)) (s210:((List ByteArray)×Int)):Option (Lp ((List ByteArray)×Int) (List ByteArray)):=
 if decide (s210.2< (s195.2.2.2.length:Int)) then
  ((idx s195.2.2.2 s210.2).bind fun x212=>
  (xG x197 x212).bind fun x214=>
  (if !x214 then
    ((idx s195.2.2.2 s210.2).bind fun x217=>
    (app 16 s210.1 [x217]).bind fun x219=>
    some x219)
   else
    (some s210.1)).bind fun v221=>
  some (Lp.go (v221,w64 (s210.2+1))))
 else
  (some (Lp.done s210.1))
def zDt (a1:(List Pack)) (a3:(List Int)) (x4:(List (List ByteArray))) (s156:((List (List ByteArray))×(List (List Int))×(List Int)×Int)) (s195:((List (List ByteArray))×(List (List Int))×(List Int)×(List ByteArray))) (x197:(List ByteArray)):((List ByteArray)×Int)→Option (List ByteArray):=loop (zAu a1 a3 x4 s156 s195 x197)
def jB (a1:(List Pack)) (a3:(List Int)) (x4:(List (List ByteArray))) (s156:((List (List ByteArray))×(List (List Int))×(List Int)×Int)) (s195:((List (List ByteArray))×(List (List Int))×(List Int)×(List ByteArray))):Option (Lp ((List (List ByteArray))×(List (List Int))×(List Int)×(List ByteArray)) ((List (List ByteArray))×(List (List Int))×(List Int))):=
 if decide ((s195.2.2.2.length:Int)>0) then
  ((zFq a1 s195.2.2.1 a3 s195.2.2.2).bind fun x197=>
  (zDt a1 a3 x4 s156 s195 x197 (([]:List ByteArray),0)).bind fun v222=>
  (zAR a1 s195.2.2.1 a3 x197).bind fun x223=>
  (app 16 ([]:List ByteArray) x197).bind fun x225=>
  (app 24 s195.1 [x225]).bind fun x227=>
  (app 24 s195.2.1 [x223]).bind fun x229=>
  some (Lp.go (x227,x229,x223,v222)))
 else
  (some (Lp.done (s195.1,s195.2.1,s195.2.2.1)))
def zBj (a1:(List Pack)) (a3:(List Int)) (x4:(List (List ByteArray))) (s156:((List (List ByteArray))×(List (List Int))×(List Int)×Int)):((List (List ByteArray))×(List (List Int))×(List Int)×(List ByteArray))→Option ((List (List ByteArray))×(List (List Int))×(List Int)):=loop (jB a1 a3 x4 s156)
def zA2 (a1:(List Pack)) (a3:(List Int)) (x4:(List (List ByteArray))) (s156:((List (List ByteArray))×(List (List Int))×(List Int)×Int)):Option (Lp ((List (List ByteArray))×(List (List Int))×(List Int)×Int) ((List (List ByteArray))×(List (List Int)))):=
 if decide (s156.2.2.2< (x4.length:Int)) then
  ((idx x4 s156.2.2.2).bind fun x158=>
  (zBj a1 a3 x4 s156 (s156.1,s156.2.1,s156.2.2.1,x158)).bind fun v231=>
  some (Lp.go (v231.1,v231.2.1,v231.2.2,w64 (s156.2.2.2+1))))
 else
  (some (Lp.done (s156.1,s156.2.1)))
def zEG (a1:(List Pack)) (a3:(List Int)) (x4:(List (List ByteArray))):((List (List ByteArray))×(List (List Int))×(List Int)×Int)→Option ((List (List ByteArray))×(List (List Int))):=loop (zA2 a1 a3 x4)
def zCt (a1:(List Pack)) (a2:(List Int)) (a3:(List Int)):Option ((List (List ByteArray))×(List (List Int))):=
 (zB2 a1 a2 a3).bind fun x4=>
 (zEG a1 a3 x4 (([]:List (List ByteArray)),([]:List (List Int)),a2,0)).bind fun v232=>
 some (v232.1,v232.2)
def zDV (a1:zC) (a2:(List Pack)) (a3:zP):Option ((List (List Int))×zC):=
 (zDa a2 a3).bind fun x4=>
 if x4 !=0 then
  (some (([]:List (List Int)),a1))
 else
  ((zCL a2 a3).bind fun x7=>
  (vP a1 a2).bind fun x9=>
  (vN a2 x9.1 x7.Set 60).bind fun x11=>
  (if x7.Code !=0 then
    (some true)
   else
    (if x11.Code !=0 then
     (some true)
    else
     ((kQ a2 x7.Set).bind fun x15=>
     some (!x15)))).bind fun v17=>
  if v17 then
   (some (([]:List (List Int)),x9.2))
  else
   ((zCt a2 x7.Set x11.Set).bind fun x19=>
   (if decide ((x19.2.length:Int)>0) then
     ((zI x9.2 8).bind fun x22=>
     some (x22.2.Code,x22.2.At,x22.1))
    else
     (some (x9.2.Code,x9.2.At,false))).bind fun v24=>
   (if v24.2.2 then
     ((idx x19.2 0).bind fun x26=>
     (wX ({Code:=v24.1,At:=v24.2.1}:zC) a2).bind fun x28=>
     (app 24 x19.2 [x26,x28.1]).bind fun x30=>
     some (x28.2.Code,x28.2.At,x30))
    else
     (some (v24.1,v24.2.1,x19.2))).bind fun v32=>
   some (v32.2.2,({Code:=v32.1,At:=v32.2.1}:zC))))
def zCQ (s9:((List Int)×Int×(List Term)×Int)):Option (Lp ((List Int)×Int×(List Term)×Int) ((List Int)×Int×(List Term))):=
 if decide (s9.2.2.2>0) then
  ((wP ({Code:=s9.1,At:=s9.2.1}:zC)).bind fun x11=>
  (app 64 s9.2.2.1 [x11.1]).bind fun x13=>
  some (Lp.go (x11.2.Code,x11.2.At,x13,w64 (s9.2.2.2-1))))
 else
  (some (Lp.done (s9.1,s9.2.1,s9.2.2.1)))
def zD9:((List Int)×Int×(List Term)×Int)→Option ((List Int)×Int×(List Term)):=loop zCQ
def zDY (a1:zC):Option ((List Term)×zC):=
 (zT a1 [0,1,1,2,3]).bind fun x2=>
 (zD9 (x2.2.Code,x2.2.At,([]:List Term),x2.1)).bind fun v15=>
 (zI ({Code:=v15.1,At:=v15.2.1}:zC) 24).bind fun x16=>
 (if x16.1 then
   ((wI x16.2).bind fun x19=>
   (app 64 v15.2.2 [x19.1]).bind fun x21=>
   some (x19.2.Code,x19.2.At,x21))
  else
   (some (x16.2.Code,x16.2.At,v15.2.2))).bind fun v23=>
 some (v23.2.2,({Code:=v23.1,At:=v23.2.1}:zC))
def vT (a1:(List Int)):Option ((List Pack)×(List Term)×(List (List Int))):=
 (zB5 a1).bind fun x2=>
 (zDS x2).bind fun x4=>
 (zDV x4.2.2 x4.1 x4.2.1).bind fun x6=>
 (zDY x6.2).bind fun x8=>
 some (x4.1,x8.1,x6.1)
def uF (a1:Int):Option Bool:=
 if decide (a1≥97) then
  (if decide (a1≤122) then
   (some true)
  else
   (if decide (a1≥48) then
    (if decide (a1≤57) then
     (some true)
    else
     (some (a1==95)))
   else
    (some (a1==95))))
 else
  (if decide (a1≥48) then
   (if decide (a1≤57) then
    (some true)
   else
    (some (a1==95)))
  else
   (some (a1==95)))
def zC0 (a1:ByteArray) (s17:Int):Option (Lp Int (Fl Int Unit)):=
 if decide (s17< (a1.size:Int)) then
  ((bidx a1 s17).bind fun x19=>
  (uF x19).bind fun x21=>
  if !x21 then
   (some (Lp.done (Fl.ret 5)))
  else
   (some (Lp.go (w64 (s17+1)))))
 else
  (some (Lp.done (Fl.nxt ())))
def kL (a1:ByteArray):Int→Option (Fl Int Unit):=loop (zC0 a1)
def wR (a1:ByteArray):Option Int:=
 (if decide ((a1.size:Int)<1) then
   (some true)
  else
   (if decide ((a1.size:Int)>12) then
    (some true)
   else
    ((bidx a1 0).bind fun x4=>
    if decide (x4<97) then
     (some true)
    else
     ((bidx a1 0).bind fun x7=>
     some (decide (x7>122)))))).bind fun v9=>
 if v9 then
  (some 5)
 else
  ((kL a1 0).bind (Fl.go some fun v24=>
  some 0))
def wU (a1:Int) (a2:Int) (a3:Int):Option Bool:=
 if decide (a2≤a1) then
  (some (decide (a1≤a3)))
 else
  (some false)
def wE (a1:Version):Option Int:=
 (wU a1.A 0 999).bind fun x2=>
 (if !x2 then
   (some true)
  else
   ((wU a1.B 0 999).bind fun x5=>
   if !x5 then
    (some true)
   else
    ((wU a1.C 0 999).bind fun x8=>
    some (!x8)))).bind fun v10=>
 if v10 then
  (some 3)
 else
  (some 0)
def zAr (a1:(List Int)) (s6:Int):Option (Lp Int (Fl Int Unit)):=
 if decide (s6< (a1.length:Int)) then
  ((idx a1 s6).bind fun x8=>
  if x8 !=0 then
   (some (Lp.done (Fl.ret x8)))
  else
   (some (Lp.go (w64 (s6+1)))))
 else
  (some (Lp.done (Fl.nxt ())))
def zBf (a1:(List Int)):Int→Option (Fl Int Unit):=loop (zAr a1)
def zAQ (a1:(List Int)):Option Int:=
 (zBf a1 0).bind (Fl.go some fun v11=>
 some 0)
def zAd (a1:(List Term)):Option Bool:=
 some (decide ((a1.length:Int)>4))
def yE (a1:(List (List Term))) (s8:Int):Option (Lp Int (Fl Int Unit)):=
 if decide (s8< (a1.length:Int)) then
  ((idx a1 s8).bind fun x10=>
  (zAd x10).bind fun x12=>
  if x12 then
   (some (Lp.done (Fl.ret s8)))
  else
   (some (Lp.go (w64 (s8+1)))))
 else
  (some (Lp.done (Fl.nxt ())))
def yF (a1:(List (List Term))):Int→Option (Fl Int Unit):=loop (yE a1)
def yB (a1:(List (List Term))):Option Int:=
 (yF a1 0).bind (Fl.go some fun v15=>
 some (-1))
def zR (a1:(List (List Term))):Option Bool:=
 (yB a1).bind fun x2=>
 some (decide (x2≥0))
def vR (a1:(List ByteArray)) (a2:ByteArray) (s7:Int):Option (Lp Int (Fl Int Unit)):=
 if decide (s7< (a1.length:Int)) then
  ((idx a1 s7).bind fun x9=>
  if seq a2 x9 then
   (some (Lp.done (Fl.ret s7)))
  else
   (some (Lp.go (w64 (s7+1)))))
 else
  (some (Lp.done (Fl.nxt ())))
def vZ (a1:(List ByteArray)) (a2:ByteArray):Int→Option (Fl Int Unit):=loop (vR a1 a2)
def uJ (a1:(List ByteArray)) (a2:ByteArray):Option Int:=
 (vZ a1 a2 0).bind (Fl.go some fun v12=>
 some (-1))
def wQ (a1:(List ByteArray)) (a2:ByteArray):Option Bool:=
 (uJ a1 a2).bind fun x3=>
 some (decide (x3≥0))
def zDr:Option Version:=
 some ({A:=1000,B:=0,C:=0}:Version)
def tH (a1:Int):Option Bool:=
 some (a1 !=a1)
def wF (a1:Int) (a2:Int):Option Int:=
 (tH a1).bind fun x3=>
 (tH a2).bind fun x5=>
 if x3 then
  (if x5 then
   (some 0)
  else
   (some (-1)))
 else
  (if x5 then
   (some 1)
  else
   (if decide (a1<a2) then
    (some (-1))
   else
    (if decide (a1>a2) then
     (some 1)
    else
     (some 0))))
def zD3 (a1:(List Int)) (s6:Int):Option (Lp Int (Fl Int Unit)):=
 if decide (s6< (a1.length:Int)) then
  ((idx a1 s6).bind fun x8=>
  if x8 !=0 then
   (some (Lp.done (Fl.ret x8)))
  else
   (some (Lp.go (w64 (s6+1)))))
 else
  (some (Lp.done (Fl.nxt ())))
def zEo (a1:(List Int)):Int→Option (Fl Int Unit):=loop (zD3 a1)
def zFe (a1:(List Int)):Option Int:=
 (zEo a1 0).bind (Fl.go some fun v11=>
 some 0)
def zDf (a1:Version) (a2:Version):Option Int:=
 (wF a1.A a2.A).bind fun x3=>
 (wF a1.B a2.B).bind fun x5=>
 (wF a1.C a2.C).bind fun x7=>
 (zFe [x3,x5,x7]).bind fun x9=>
 some x9
def wW (a1:Term):Option Int:=
 (wR a1.Name).bind fun x2=>
 if x2 !=0 then
  (some x2)
 else
  ((wE a1.Low).bind fun x5=>
  if x5 !=0 then
   (some x5)
  else
   ((zDr).bind fun x8=>
   (if !(a1.High.A==x8.A&&(a1.High.B==x8.B&&(a1.High.C==x8.C&&true))) then
     ((wE a1.High).bind fun x11=>
     some (x11 !=0))
    else
     (some false)).bind fun v13=>
   if v13 then
    (some 3)
   else
    ((zDf a1.Low a1.High).bind fun x15=>
    if decide (x15≥0) then
     (some 1)
    else
     (some 0))))
def kP (a1:(List Term)) (s8:Int):Option (Lp Int (Fl Int Unit)):=
 if decide (s8< (a1.length:Int)) then
  ((idx a1 s8).bind fun x10=>
  (wW x10).bind fun x12=>
  if x12 !=0 then
   (some (Lp.done (Fl.ret x12)))
  else
   (some (Lp.go (w64 (s8+1)))))
 else
  (some (Lp.done (Fl.nxt ())))
def zAm (a1:(List Term)):Int→Option (Fl Int Unit):=loop (kP a1)
def wG (a1:(List Term)):Option Int:=
 (zAm a1 0).bind (Fl.go some fun v15=>
 some 0)
def zAn (a1:Pack) (s54:Int):Option (Lp Int (Fl Int Unit)):=
 if decide (s54< (a1.Needs.length:Int)) then
  ((idx a1.Needs s54).bind fun x56=>
  if (x56.length:Int)==0 then
   (some (Lp.done (Fl.ret 1)))
  else
   ((wG x56).bind fun x59=>
   if x59 !=0 then
    (some (Lp.done (Fl.ret x59)))
   else
    (some (Lp.go (w64 (s54+1))))))
 else
  (some (Lp.done (Fl.nxt ())))
def jZ (a1:Pack):Int→Option (Fl Int Unit):=loop (zAn a1)
def zA1 (a1:Pack) (s32:Int):Option (Lp Int (Fl Int Unit)):=
 if decide (s32< (a1.Provides.length:Int)) then
  ((idx a1.Provides s32).bind fun x34=>
  (wR x34).bind fun x36=>
  if x36 !=0 then
   (some (Lp.done (Fl.ret x36)))
  else
   ((if seq x34 a1.Name then
      (some true)
     else
      ((zGp a1.Provides 0 s32).bind fun x40=>
      (wQ x40 x34).bind fun x42=>
      some x42)).bind fun v44=>
   if v44 then
    (some (Lp.done (Fl.ret 6)))
   else
    (some (Lp.go (w64 (s32+1))))))
 else
  (some (Lp.done (Fl.nxt ())))
def kH (a1:Pack):Int→Option (Fl Int Unit):=loop (zA1 a1)
def zAD (a1:Pack):Option Int:=
 (wR a1.Name).bind fun x2=>
 (wE a1.Version).bind fun x4=>
 (zAQ [x2,x4]).bind fun x6=>
 if x6 !=0 then
  (some x6)
 else
  ((wU a1.Size 1 200).bind fun x9=>
  if !x9 then
   (some 3)
  else
   ((if decide ((a1.Provides.length:Int)>4) then
      (some true)
     else
      (if decide ((a1.Needs.length:Int)>4) then
       (some true)
      else
       (if decide ((a1.Bars.length:Int)>4) then
        (some true)
       else
        ((zR a1.Needs).bind fun x15=>
        some x15)))).bind fun v17=>
   if v17 then
    (some 2)
   else
    ((kH a1 0).bind (Fl.go some fun v46=>
    (jZ a1 0).bind (Fl.go some fun v62=>
    (wG a1.Bars).bind fun x63=>
    some x63)))))
def zE8 (a1:Pack) (a2:ByteArray) (a3:Version):Option Bool:=
 if seq a1.Name a2 then
  (some (a1.Version.A==a3.A&&(a1.Version.B==a3.B&&(a1.Version.C==a3.C&&true))))
 else
  (some false)
def yV (a1:(List Pack)) (a2:ByteArray) (a3:Version) (s10:Int):Option (Lp Int (Fl Int Unit)):=
 if decide (s10< (a1.length:Int)) then
  ((idx a1 s10).bind fun x12=>
  (zE8 x12 a2 a3).bind fun x14=>
  if x14 then
   (some (Lp.done (Fl.ret s10)))
  else
   (some (Lp.go (w64 (s10+1)))))
 else
  (some (Lp.done (Fl.nxt ())))
def yY (a1:(List Pack)) (a2:ByteArray) (a3:Version):Int→Option (Fl Int Unit):=loop (yV a1 a2 a3)
def yN (a1:(List Pack)) (a2:ByteArray) (a3:Version):Option Int:=
 (yY a1 a2 a3 0).bind (Fl.go some fun v17=>
 some (-1))
def zDE (a1:(List Pack)) (a2:ByteArray) (a3:Version):Option Int:=
 (yN a1 a2 a3).bind fun x4=>
 some x4
def tX (a1:(List Pack)) (s14:Int):Option (Lp Int (Fl Int Unit)):=
 if decide (s14< (a1.length:Int)) then
  ((idx a1 s14).bind fun x16=>
  (zAD x16).bind fun x18=>
  if x18 !=0 then
   (some (Lp.done (Fl.ret x18)))
  else
   ((zGp a1 0 s14).bind fun x21=>
   (zDE x21 x16.Name x16.Version).bind fun x23=>
   if decide (x23≥0) then
    (some (Lp.done (Fl.ret 6)))
   else
    (some (Lp.go (w64 (s14+1))))))
 else
  (some (Lp.done (Fl.nxt ())))
def jL (a1:(List Pack)):Int→Option (Fl Int Unit):=loop (tX a1)
def xL (a1:(List Pack)):Option Int:=
 if decide ((a1.length:Int)>24) then
  (some 2)
 else
  ((jL a1 0).bind (Fl.go some fun v26=>
  some 0))
def zAe (a1:Int) (a2:(List Pack)):Option Bool:=
 (wU a1 0 (w64 ((a2.length:Int)-1))).bind fun x3=>
 some (!x3)
def yM (a1:(List Int)) (a2:(List Pack)) (s9:Int):Option (Lp Int (Fl Int Unit)):=
 if decide (s9< (a1.length:Int)) then
  ((idx a1 s9).bind fun x11=>
  (zAe x11 a2).bind fun x13=>
  if x13 then
   (some (Lp.done (Fl.ret s9)))
  else
   (some (Lp.go (w64 (s9+1)))))
 else
  (some (Lp.done (Fl.nxt ())))
def yR (a1:(List Int)) (a2:(List Pack)):Int→Option (Fl Int Unit):=loop (yM a1 a2)
def yH (a1:(List Int)) (a2:(List Pack)):Option Int:=
 (yR a1 a2 0).bind (Fl.go some fun v16=>
 some (-1))
def yC (a1:(List Int)) (a2:(List Pack)):Option Bool:=
 (yH a1 a2).bind fun x3=>
 some (decide (x3≥0))
def zAM (a1:(List Pack)) (a2:(List Int)):Option Bool:=
 (yC a2 a1).bind fun x3=>
 some (!x3)
def vQ (a1:(List Pack)) (a2:(List Int)) (s12:Int):Option (Lp Int (Fl Int Unit)):=
 if decide (s12< (a2.length:Int)) then
  ((idx a2 s12).bind fun x14=>
  (idx a2 (w64 (s12-1))).bind fun x16=>
  if decide (x14≤x16) then
   (some (Lp.done (Fl.ret 1)))
  else
   (some (Lp.go (w64 (s12+1)))))
 else
  (some (Lp.done (Fl.nxt ())))
def zAk (a1:(List Pack)) (a2:(List Int)):Int→Option (Fl Int Unit):=loop (vQ a1 a2)
def zBD (a1:(List Pack)) (a2:(List Int)):Option Int:=
 (xL a1).bind fun x3=>
 if x3 !=0 then
  (some x3)
 else
  ((zAk a1 a2 1).bind (Fl.go some fun v19=>
  (zAM a1 a2).bind fun x20=>
  if !x20 then
   (some 1)
  else
   (some 0)))
def zBp (a1:(List Int)) (a2:(List Pack)):Option Bool:=
 (zBD a2 a1).bind fun x3=>
 some (x3 !=0)
def yL (a1:(List (List Int))) (a2:(List Pack)) (s9:Int):Option (Lp Int (Fl Int Unit)):=
 if decide (s9< (a1.length:Int)) then
  ((idx a1 s9).bind fun x11=>
  (zBp x11 a2).bind fun x13=>
  if x13 then
   (some (Lp.done (Fl.ret s9)))
  else
   (some (Lp.go (w64 (s9+1)))))
 else
  (some (Lp.done (Fl.nxt ())))
def yQ (a1:(List (List Int))) (a2:(List Pack)):Int→Option (Fl Int Unit):=loop (yL a1 a2)
def yI (a1:(List (List Int))) (a2:(List Pack)):Option Int:=
 (yQ a1 a2 0).bind (Fl.go some fun v16=>
 some (-1))
def zX (a1:(List (List Int))) (a2:(List Pack)):Option Bool:=
 (yI a1 a2).bind fun x3=>
 some (decide (x3≥0))
def uS (a1 a2:Int):Option ByteArray:=if a2=10∧ -9223372036854775808≤a1∧a1≤9223372036854775807 then some ⟨(Lib.itoa a1).toArray⟩ else none
def zEz (a1:Int):Option ByteArray:=
 (uS a1 10).bind fun x2=>
 some x2
def xK (a1:Version):Option ByteArray:=
 (zEz a1.A).bind fun x2=>
 (cat x2 (bs [46])).bind fun x4=>
 (zEz a1.B).bind fun x6=>
 (cat x4 x6).bind fun x8=>
 (cat x8 (bs [46])).bind fun x10=>
 (zEz a1.C).bind fun x12=>
 (cat x10 x12).bind fun x14=>
 some x14
def kX (a1:Term):Option ByteArray:=
 (wW a1).bind fun x2=>
 if x2 !=0 then
  (some (bs []))
 else
  ((if !(a1.Low.A==0&&(a1.Low.B==0&&(a1.Low.C==0&&true))) then
     ((xK a1.Low).bind fun x6=>
     (cat (bs [62,61]) x6).bind fun x8=>
     (cat a1.Name x8).bind fun x10=>
     some x10)
    else
     (some a1.Name)).bind fun v12=>
  (zDr).bind fun x13=>
  (if !(a1.High.A==x13.A&&(a1.High.B==x13.B&&(a1.High.C==x13.C&&true))) then
    ((xK a1.High).bind fun x16=>
    (cat (bs [60]) x16).bind fun x18=>
    (cat v12 x18).bind fun x20=>
    some x20)
   else
    (some v12)).bind fun v22=>
  some v22)
def strings_Join (a1:List ByteArray) (a2:ByteArray):Option ByteArray:=if a1.length≤140737488355328∧(Lib.join (a1.map (·.data.toList)) a2.data.toList).length ≤140737488355328 then some ⟨(Lib.join (a1.map (·.data.toList)) a2.data.toList).toArray⟩ else none
def zEe (a1:(List ByteArray)):Option ByteArray:=
 (strings_Join a1 (bs [32])).bind fun x2=>
 some x2
def zCk (a1:(List Pack)) (a2:(List Int)) (s18:(ByteArray×Int)):Option (Lp (ByteArray×Int) ByteArray):=
 if decide (s18.2< (a2.length:Int)) then
  ((idx a2 s18.2).bind fun x20=>
  (idx a1 x20).bind fun x22=>
  (idx a1 x20).bind fun x24=>
  (xK x24.Version).bind fun x26=>
  (zEe [x22.Name,x26]).bind fun x28=>
  (cat x28 (bs [10])).bind fun x30=>
  (cat s18.1 x30).bind fun x32=>
  some (Lp.go (x32,w64 (s18.2+1))))
 else
  (some (Lp.done s18.1))
def zCB (a1:(List Pack)) (a2:(List Int)):(ByteArray×Int)→Option ByteArray:=loop (zCk a1 a2)
def zDi (a1:(List Pack)) (a2:(List Int)):Option ByteArray:=
 (zCB a1 a2 (bs [],0)).bind fun v34=>
 some v34
def zBs (a1:(List Pack)) (a3:(List (List Int))) (s37:(ByteArray×Int)):Option (Lp (ByteArray×Int) ByteArray):=
 if decide (s37.2< (a3.length:Int)) then
  ((idx a3 s37.2).bind fun x39=>
  (zDi a1 x39).bind fun x41=>
  (cat (bs [115,116,101,112,10]) x41).bind fun x43=>
  (cat s37.1 x43).bind fun x45=>
  some (Lp.go (x45,w64 (s37.2+1))))
 else
  (some (Lp.done s37.1))
def zCm (a1:(List Pack)) (a3:(List (List Int))):(ByteArray×Int)→Option ByteArray:=loop (zBs a1 a3)
def zBr (a1:(List Pack)) (a2:(List Term)) (a3:(List (List Int))) (s15:(ByteArray×Int)):Option (Lp (ByteArray×Int) ByteArray):=
 if decide (s15.2< (a2.length:Int)) then
  ((idx a2 s15.2).bind fun x17=>
  (kX x17).bind fun x19=>
  (cat (bs [114,111,111,116,32]) x19).bind fun x21=>
  (cat x21 (bs [10])).bind fun x23=>
  (cat s15.1 x23).bind fun x25=>
  some (Lp.go (x25,w64 (s15.2+1))))
 else
  (some (Lp.done s15.1))
def zBK (a1:(List Pack)) (a2:(List Term)) (a3:(List (List Int))):(ByteArray×Int)→Option ByteArray:=loop (zBr a1 a2 a3)
def zBB (a1:(List Pack)) (a2:(List Term)) (a3:(List (List Int))):Option ByteArray:=
 (zBK a1 a2 a3 (bs [],0)).bind fun v27=>
 (zCm a1 a3 (v27,0)).bind fun v47=>
 some v47
def uH (a1:(List Pack)) (a2:(List Term)) (a3:(List (List Int))):Option ByteArray:=
 (xL a1).bind fun x4=>
 (if x4 !=0 then
   (some true)
  else
   ((wG a2).bind fun x7=>
   if x7 !=0 then
    (some true)
   else
    ((zX a3 a1).bind fun x10=>
    some x10))).bind fun v12=>
 if v12 then
  (some (bs []))
 else
  ((zBB a1 a2 a3).bind fun x14=>
  some x14)
def strings_Split (a1 a2:ByteArray):Option (List ByteArray):=if a1.size<4294967281∧1≤a2.size then some (Lib.splitB a2 0 (Lib.countB a1 a2) a1) else none
def zDl (a1:ByteArray):Option (List ByteArray):=
 (strings_Split a1 (bs [10])).bind fun x2=>
 (idx x2 (w64 ((x2.length:Int)-1))).bind fun x4=>
 (if seq x4 (bs []) then
   ((zGp x2 0 (w64 ((x2.length:Int)-1))).bind fun x7=>
   some x7)
  else
   (some x2)).bind fun v9=>
 some v9
def xQ (a1:ByteArray) (a2:ByteArray):Option Bool:=
 if decide ((a1.size:Int)≥(a2.size:Int)) then
  ((zFt a1 0 (a2.size:Int)).bind fun x4=>
  some (seq x4 a2))
 else
  (some false)
def xR (a1:ByteArray) (a2:ByteArray):Option (ByteArray×Bool):=
 (xQ a1 a2).bind fun x3=>
 if !x3 then
  (some (a1,false))
 else
  ((zFt a1 (a2.size:Int) (a1.size:Int)).bind fun x6=>
  some (x6,true))
def strings_CutPrefix (a1:ByteArray) (a2:ByteArray):Option (ByteArray×Bool):=
 (xR a1 a2).bind fun x3=>
 some (x3.1,x3.2)
def zEm (a1:ByteArray):Option Term:=
 (zDr).bind fun x2=>
 some ({Name:=a1,Low:=({A:=0,B:=0,C:=0}:Version),High:=x2}:Term)
def strings_IndexByte (a1:ByteArray) (a2:Int):Option Int:=some (Lib.indexByte a1.data.toList a2.toNat.toUInt8)
def zC7 (a1:ByteArray) (s16:(Int×Int)):Option (Lp (Int×Int) (Fl Int Int)):=
 if decide (s16.2< (a1.size:Int)) then
  ((bidx a1 s16.2).bind fun x18=>
  (if decide (x18<48) then
    (some true)
   else
    ((bidx a1 s16.2).bind fun x21=>
    some (decide (x21>57)))).bind fun v23=>
  if v23 then
   (some (Lp.done (Fl.ret (-1))))
  else
   ((bidx a1 s16.2).bind fun x25=>
   some (Lp.go (w64 ((w64 (10*s16.1))+(w64 (IntKind.u8.wrap (x25-48)))),w64 (s16.2+1)))))
 else
  (some (Lp.done (Fl.nxt s16.1)))
def zDI (a1:ByteArray):(Int×Int)→Option (Fl Int Int):=loop (zC7 a1)
def zEf (a1:ByteArray) (a2:Int):Option Int:=
 (if seq a1 (bs []) then
   (some true)
  else
   (some (decide ((a1.size:Int)>a2)))).bind fun v4=>
 if v4 then
  (some (-1))
 else
  ((zDI a1 (0,0)).bind (Fl.go some fun v27=>
  some v27))
def jA (x2:(List ByteArray)) (s15:((List Int)×Int)):Option (Lp ((List Int)×Int) (Fl zQ (List Int))):=
 if decide (s15.2< (x2.length:Int)) then
  ((idx x2 s15.2).bind fun x17=>
  (zEf x17 3).bind fun x19=>
  (zPp s15.1 3 s15.2).bind fun x21=>
  (zPp (s15.1.set s15.2.toNat x19) 3 s15.2).bind fun x23=>
  if decide (x23<0) then
   (some (Lp.done (Fl.ret ({Code:=5,Version:=({A:=0,B:=0,C:=0}:Version)}:zQ))))
  else
   (some (Lp.go (s15.1.set s15.2.toNat x19,w64 (s15.2+1)))))
 else
  (some (Lp.done (Fl.nxt s15.1)))
def jI (x2:(List ByteArray)):((List Int)×Int)→Option (Fl zQ (List Int)):=loop (jA x2)
def wH (a1:ByteArray):Option zQ:=
 (strings_Split a1 (bs [46])).bind fun x2=>
 if decide ((x2.length:Int)>3) then
  (some ({Code:=5,Version:=({A:=0,B:=0,C:=0}:Version)}:zQ))
 else
  ((jI x2 (([0,0,0]:(List Int)),0)).bind (Fl.go some fun v26=>
  (zPp v26 3 0).bind fun x27=>
  (zPp v26 3 1).bind fun x29=>
  (zPp v26 3 2).bind fun x31=>
  some ({Code:=0,Version:=({A:=x27,B:=x29,C:=x31}:Version)}:zQ)))
def zCx (a1:ByteArray) (s9:Int):Option (Lp Int Int):=
 (if decide (s9< (a1.size:Int)) then
   ((bidx a1 s9).bind fun x11=>
   (uF x11).bind fun x13=>
   some x13)
  else
   (some false)).bind fun v15=>
 if v15 then
  (some (Lp.go (w64 (s9+1))))
 else
  (some (Lp.done s9))
def kF (a1:ByteArray):Int→Option Int:=loop (zCx a1)
def zAP (a1:ByteArray):Option xC:=
 (kF a1 0).bind fun v17=>
 (zFt a1 0 v17).bind fun x18=>
 (zEm x18).bind fun x20=>
 (zFt a1 v17 (a1.size:Int)).bind fun x22=>
 (wR x20.Name).bind fun x24=>
 if x24 !=0 then
  (some ({Code:=5,Term:=({Name:=ByteArray.empty,Low:=({A:=0,B:=0,C:=0}:Version),High:=({A:=0,B:=0,C:=0}:Version)}:Term)}:xC))
 else
  ((strings_CutPrefix x22 (bs [62,61])).bind fun x27=>
  (if x27.2 then
    ((strings_IndexByte x27.1 60).bind fun x30=>
    (if decide (x30<0) then
      (some (x27.1.size:Int))
     else
      (some x30)).bind fun v33=>
    (zFt x27.1 0 v33).bind fun x34=>
    (wH x34).bind fun x36=>
    if x36.Code !=0 then
     (some (Fl.ret ({Code:=5,Term:=({Name:=ByteArray.empty,Low:=({A:=0,B:=0,C:=0}:Version),High:=({A:=0,B:=0,C:=0}:Version)}:Term)}:xC)))
    else
     ((zFt x27.1 v33 (x27.1.size:Int)).bind fun x39=>
     some (Fl.nxt (x36.Version.A,x36.Version.B,x36.Version.C,x39))))
   else
    (some (Fl.nxt (x20.Low.A,x20.Low.B,x20.Low.C,x22)))).bind (Fl.go some fun v41=>
  (strings_CutPrefix v41.2.2.2 (bs [60])).bind fun x42=>
  (if x42.2 then
    ((wH x42.1).bind fun x45=>
    if x45.Code !=0 then
     (some (Fl.ret ({Code:=5,Term:=({Name:=ByteArray.empty,Low:=({A:=0,B:=0,C:=0}:Version),High:=({A:=0,B:=0,C:=0}:Version)}:Term)}:xC)))
    else
     (some (Fl.nxt (x45.Version.A,x45.Version.B,x45.Version.C,bs []))))
   else
    (some (Fl.nxt (x20.High.A,x20.High.B,x20.High.C,v41.2.2.2)))).bind (Fl.go some fun v48=>
  if !(seq v48.2.2.2 (bs [])) then
   (some ({Code:=5,Term:=({Name:=ByteArray.empty,Low:=({A:=0,B:=0,C:=0}:Version),High:=({A:=0,B:=0,C:=0}:Version)}:Term)}:xC))
  else
   ((wW ({Name:=x20.Name,Low:=({A:=v41.1,B:=v41.2.1,C:=v41.2.2.1}:Version),High:=({A:=v48.1,B:=v48.2.1,C:=v48.2.2.1}:Version)}:Term)).bind fun x50=>
   if x50 !=0 then
    (some ({Code:=x50,Term:=({Name:=ByteArray.empty,Low:=({A:=0,B:=0,C:=0}:Version),High:=({A:=0,B:=0,C:=0}:Version)}:Term)}:xC))
   else
    (some ({Code:=0,Term:=({Name:=x20.Name,Low:=({A:=v41.1,B:=v41.2.1,C:=v41.2.2.1}:Version),High:=({A:=v48.1,B:=v48.2.1,C:=v48.2.2.1}:Version)}:Term)}:xC))))))
def zB3 (a1:(List Pack)) (a2:(List ByteArray)):Option Int:=
 if (a2.length:Int) !=2 then
  (some (-1))
 else
  ((idx a2 1).bind fun x4=>
  (wH x4).bind fun x6=>
  if x6.Code !=0 then
   (some (-1))
  else
   ((idx a2 0).bind fun x9=>
   (zDE a1 x9 x6.Version).bind fun x11=>
   some x11))
def zBz (a1:Term) (a2:Term):Option Bool:=
 some (seq a1.Name a2.Name)
def yJ (a1:(List Term)) (a2:Term) (s9:Int):Option (Lp Int (Fl Int Unit)):=
 if decide (s9< (a1.length:Int)) then
  ((idx a1 s9).bind fun x11=>
  (zBz x11 a2).bind fun x13=>
  if x13 then
   (some (Lp.done (Fl.ret s9)))
  else
   (some (Lp.go (w64 (s9+1)))))
 else
  (some (Lp.done (Fl.nxt ())))
def yK (a1:(List Term)) (a2:Term):Int→Option (Fl Int Unit):=loop (yJ a1 a2)
def yD (a1:(List Term)) (a2:Term):Option Int:=
 (yK a1 a2 0).bind (Fl.go some fun v16=>
 some (-1))
def zV (a1:(List Term)) (a2:Term):Option Bool:=
 (yD a1 a2).bind fun x3=>
 some (decide (x3≥0))
def kC (a1:(List Term)) (s10:Int):Option (Lp Int (Fl Bool Unit)):=
 if decide (s10< (a1.length:Int)) then
  ((idx a1 s10).bind fun x12=>
  (zGp a1 0 s10).bind fun x14=>
  (zV x14 x12).bind fun x16=>
  if x16 then
   (some (Lp.done (Fl.ret true)))
  else
   (some (Lp.go (w64 (s10+1)))))
 else
  (some (Lp.done (Fl.nxt ())))
def zBT (a1:(List Term)):Int→Option (Fl Bool Unit):=loop (kC a1)
def zA0 (a1:(List Term)):Option Bool:=
 (zBT a1 0).bind (Fl.go some fun v19=>
 some false)
def zBb (a1:(List Pack)) (a2:ByteArray) (x3:(List ByteArray)) (s55:((List Term)×(List (List Int))×Int)):Option (Lp ((List Term)×(List (List Int))×Int) (Fl ((List Term)×(List (List Int))×Int) ((List Term)×(List (List Int))))):=
 if decide (s55.2.2< (x3.length:Int)) then
  ((idx x3 s55.2.2).bind fun x57=>
  (strings_CutPrefix x57 (bs [114,111,111,116,32])).bind fun x59=>
  if x59.2 then
   ((zAP x59.1).bind fun x62=>
   if x62.Code !=0 then
    (some (Lp.done (Fl.ret (([]:List Term),([]:List (List Int)),5))))
   else
    ((app 64 s55.1 [x62.Term]).bind fun x65=>
    some (Lp.go (x65,s55.2.1,w64 (s55.2.2+1)))))
  else
   (if seq x57 (bs [115,116,101,112]) then
    ((app 24 s55.2.1 [([]:List Int)]).bind fun x68=>
    some (Lp.go (s55.1,x68,w64 (s55.2.2+1))))
   else
    ((strings_Split x57 (bs [32])).bind fun x70=>
    (zB3 a1 x70).bind fun x72=>
    (if decide (x72<0) then
      (some true)
     else
      (some ((s55.2.1.length:Int)==0))).bind fun v75=>
    if v75 then
     (some (Lp.done (Fl.ret (([]:List Term),([]:List (List Int)),5))))
    else
     ((idx s55.2.1 (w64 ((s55.2.1.length:Int)-1))).bind fun x77=>
     (app 8 x77 [x72]).bind fun x79=>
     (idx s55.2.1 (w64 ((s55.2.1.length:Int)-1))).bind fun x81=>
     some (Lp.go (s55.1,s55.2.1.set ((w64 ((s55.2.1.length:Int)-1)).toNat) x79,w64 (s55.2.2+1)))))))
 else
  (some (Lp.done (Fl.nxt (s55.1,s55.2.1))))
def zCd (a1:(List Pack)) (a2:ByteArray) (x3:(List ByteArray)):((List Term)×(List (List Int))×Int)→Option (Fl ((List Term)×(List (List Int))×Int) ((List Term)×(List (List Int)))):=loop (zBb a1 a2 x3)
def zB9 (a1:(List Pack)) (a2:ByteArray):Option ((List Term)×(List (List Int))×Int):=
 (zDl a2).bind fun x3=>
 (zCd a1 a2 x3 (([]:List Term),([]:List (List Int)),0)).bind (Fl.go some fun v83=>
 (if (v83.2.length:Int)==0 then
   (some true)
  else
   (if decide ((v83.1.length:Int)>8) then
    (some true)
   else
    ((zA0 v83.1).bind fun x86=>
    if x86 then
     (some true)
    else
     ((uH a1 v83.1 v83.2).bind fun x89=>
     some (!(seq x89 a2)))))).bind fun v91=>
 if v91 then
  (some (([]:List Term),([]:List (List Int)),5))
 else
  (some (v83.1,v83.2,0)))
def jS (a1:(List Pack)) (a2:ByteArray):Option xA:=
 (xL a1).bind fun x3=>
 if x3 !=0 then
  (some ({Code:=x3,Asks:=([]:List Term),Sets:=([]:List (List Int))}:xA))
 else
  ((zB9 a1 a2).bind fun x6=>
  some ({Code:=x6.2.2,Asks:=x6.1,Sets:=x6.2.1}:xA))
def zCV (a1:(List Pack)) (a3:(List (List Int))) (s37:(ByteArray×Int)):Option (Lp (ByteArray×Int) ByteArray):=
 if decide (s37.2< (a3.length:Int)) then
  ((cat s37.1 (bs [115,116,101,112,10])).bind fun x39=>
  (idx a3 s37.2).bind fun x41=>
  (zBG a1 x41).bind fun x43=>
  (cat x39 x43).bind fun x45=>
  some (Lp.go (x45,w64 (s37.2+1))))
 else
  (some (Lp.done s37.1))
def zDH (a1:(List Pack)) (a3:(List (List Int))):(ByteArray×Int)→Option ByteArray:=loop (zCV a1 a3)
def zCG (a1:(List Pack)) (a2:(List Term)) (a3:(List (List Int))) (s15:(ByteArray×Int)):Option (Lp (ByteArray×Int) ByteArray):=
 if decide (s15.2< (a2.length:Int)) then
  ((cat s15.1 (bs [114,111,111,116,32])).bind fun x17=>
  (idx a2 s15.2).bind fun x19=>
  (vY x19).bind fun x21=>
  (cat x17 x21).bind fun x23=>
  (cat x23 (bs [10])).bind fun x25=>
  some (Lp.go (x25,w64 (s15.2+1))))
 else
  (some (Lp.done s15.1))
def zDJ (a1:(List Pack)) (a2:(List Term)) (a3:(List (List Int))):(ByteArray×Int)→Option ByteArray:=loop (zCG a1 a2 a3)
def zB8 (a1:(List Pack)) (a2:(List Term)) (a3:(List (List Int))):Option ByteArray:=
 (zDJ a1 a2 a3 (bs [],0)).bind fun v27=>
 (zDH a1 a3 (v27,0)).bind fun v47=>
 some v47
def zBk (a1:(List Pack)) (a2:(List Term)) (a3:(List (List Int))) (s17:Int):Option (Lp Int (Fl ByteArray Unit)):=
 if decide (s17< (a3.length:Int)) then
  ((idx a3 s17).bind fun x19=>
  (jD a1 x19).bind fun x21=>
  if !x21 then
   (some (Lp.done (Fl.ret (bs []))))
  else
   (some (Lp.go (w64 (s17+1)))))
 else
  (some (Lp.done (Fl.nxt ())))
def zCg (a1:(List Pack)) (a2:(List Term)) (a3:(List (List Int))):Int→Option (Fl ByteArray Unit):=loop (zBk a1 a2 a3)
def zAA (a1:(List Pack)) (a2:(List Term)) (a3:(List (List Int))):Option ByteArray:=
 (zY a1).bind fun x4=>
 (if x4 !=0 then
   (some true)
  else
   ((uP a2).bind fun x7=>
   some (x7 !=0))).bind fun v9=>
 if v9 then
  (some (bs []))
 else
  ((zCg a1 a2 a3 0).bind (Fl.go some fun v24=>
  (zB8 a1 a2 a3).bind fun x25=>
  some x25))
def zCy (x20:Term) (x25:ByteArray) (s32:Int):Option (Lp Int Int):=
 (if decide (s32< (x25.size:Int)) then
   ((bidx x25 s32).bind fun x34=>
   some (x34 !=60))
  else
   (some false)).bind fun v36=>
 if v36 then
  (some (Lp.go (w64 (s32+1))))
 else
  (some (Lp.done s32))
def jY (x20:Term) (x25:ByteArray):Int→Option Int:=loop (zCy x20 x25)
def zCz (a1:ByteArray) (s9:Int):Option (Lp Int Int):=
 (if decide (s9< (a1.size:Int)) then
   ((bidx a1 s9).bind fun x11=>
   (vE x11).bind fun x13=>
   some x13)
  else
   (some false)).bind fun v15=>
 if v15 then
  (some (Lp.go (w64 (s9+1))))
 else
  (some (Lp.done s9))
def kJ (a1:ByteArray):Int→Option Int:=loop (zCz a1)
def zAF (a1:ByteArray):Option xC:=
 (kJ a1 0).bind fun v17=>
 (zFt a1 0 v17).bind fun x18=>
 (wT x18).bind fun x20=>
 (wS x20.Name).bind fun x22=>
 if x22 !=0 then
  (some ({Code:=5,Term:=({Name:=ByteArray.empty,Low:=({A:=0,B:=0,C:=0}:Version),High:=({A:=0,B:=0,C:=0}:Version)}:Term)}:xC))
 else
  ((zFt a1 v17 (a1.size:Int)).bind fun x25=>
  (jY x20 x25 0).bind fun v38=>
  (if decide (v38< (x25.size:Int)) then
    ((zFt x25 (w64 (v38+1)) (x25.size:Int)).bind fun x40=>
    (xD x40).bind fun x42=>
    if x42.Code !=0 then
     (some (Fl.ret ({Code:=5,Term:=({Name:=ByteArray.empty,Low:=({A:=0,B:=0,C:=0}:Version),High:=({A:=0,B:=0,C:=0}:Version)}:Term)}:xC)))
    else
     (some (Fl.nxt (x42.Version.A,x42.Version.B,x42.Version.C))))
   else
    (some (Fl.nxt (x20.High.A,x20.High.B,x20.High.C)))).bind (Fl.go some fun v45=>
  (zFt x25 0 v38).bind fun x46=>
  (if !(seq x46 (bs [])) then
    ((if decide ((x46.size:Int)<2) then
       (some true)
      else
       ((zFt x46 0 2).bind fun x50=>
       some (!(seq x50 (bs [62,61]))))).bind fun v52=>
    if v52 then
     (some (Fl.ret ({Code:=5,Term:=({Name:=ByteArray.empty,Low:=({A:=0,B:=0,C:=0}:Version),High:=({A:=0,B:=0,C:=0}:Version)}:Term)}:xC)))
    else
     ((zFt x46 2 (x46.size:Int)).bind fun x54=>
     (xD x54).bind fun x56=>
     if x56.Code !=0 then
      (some (Fl.ret ({Code:=5,Term:=({Name:=ByteArray.empty,Low:=({A:=0,B:=0,C:=0}:Version),High:=({A:=0,B:=0,C:=0}:Version)}:Term)}:xC)))
     else
      (some (Fl.nxt (x56.Version.A,x56.Version.B,x56.Version.C)))))
   else
    (some (Fl.nxt (x20.Low.A,x20.Low.B,x20.Low.C)))).bind (Fl.go some fun v59=>
  (vG ({Name:=x20.Name,Low:=({A:=v59.1,B:=v59.2.1,C:=v59.2.2}:Version),High:=({A:=v45.1,B:=v45.2.1,C:=v45.2.2}:Version)}:Term)).bind fun x60=>
  if x60 !=0 then
   (some ({Code:=x60,Term:=({Name:=ByteArray.empty,Low:=({A:=0,B:=0,C:=0}:Version),High:=({A:=0,B:=0,C:=0}:Version)}:Term)}:xC))
  else
   (some ({Code:=0,Term:=({Name:=x20.Name,Low:=({A:=v59.1,B:=v59.2.1,C:=v59.2.2}:Version),High:=({A:=v45.1,B:=v45.2.1,C:=v45.2.2}:Version)}:Term)}:xC)))))
def zBN (a1:ByteArray) (x2:(List ByteArray)) (s22:((List Term)×Int)) (x26:xC) (s33:Int):Option (Lp Int (Fl ((List Term)×Bool) Unit)):=
 if decide (s33< (s22.1.length:Int)) then
  ((idx s22.1 s33).bind fun x35=>
  if seq x35.Name x26.Term.Name then
   (some (Lp.done (Fl.ret (s22.1,false))))
  else
   (some (Lp.go (w64 (s33+1)))))
 else
  (some (Lp.done (Fl.nxt ())))
def zC5 (a1:ByteArray) (x2:(List ByteArray)) (s22:((List Term)×Int)) (x26:xC):Int→Option (Fl ((List Term)×Bool) Unit):=loop (zBN a1 x2 s22 x26)
def zBL (a1:ByteArray) (x2:(List ByteArray)) (s22:((List Term)×Int)):Option (Lp ((List Term)×Int) (Fl ((List Term)×Bool) (List Term))):=
 if decide (s22.2< (x2.length:Int)) then
  ((idx x2 s22.2).bind fun x24=>
  (zAF x24).bind fun x26=>
  if x26.Code !=0 then
   (some (Lp.done (Fl.ret (s22.1,false))))
  else
   ((zC5 a1 x2 s22 x26 0).bind (Fl.go (fun r=>some (Lp.done (Fl.ret r))) fun v38=>
   (app 64 s22.1 [x26.Term]).bind fun x39=>
   some (Lp.go (x39,w64 (s22.2+1))))))
 else
  (some (Lp.done (Fl.nxt s22.1)))
def zC6 (a1:ByteArray) (x2:(List ByteArray)):((List Term)×Int)→Option (Fl ((List Term)×Bool) (List Term)):=loop (zBL a1 x2)
def zDe (a1:ByteArray):Option ((List Term)×Bool):=
 (tO a1).bind fun x2=>
 (zC6 a1 x2 (([]:List Term),0)).bind (Fl.go some fun v41=>
 if decide ((v41.length:Int)≤8) then
  ((zAH v41).bind fun x43=>
  some (v41,seq x43 a1))
 else
  (some (v41,false)))
def zGl (a1:(List Pack)) (a2:ByteArray) (x3:(List ByteArray)) (x37:((List Term)×Bool)) (s84:(Int×ByteArray)):Option (Lp (Int×ByteArray) (Int×ByteArray)):=
 (if decide (s84.1< (x3.length:Int)) then
   ((idx x3 s84.1).bind fun x86=>
   some (!(seq x86 (bs [115,116,101,112]))))
  else
   (some false)).bind fun v88=>
 if v88 then
  ((idx x3 s84.1).bind fun x90=>
  (cat s84.2 x90).bind fun x92=>
  (cat x92 (bs [10])).bind fun x94=>
  some (Lp.go (w64 (s84.1+1),x94)))
 else
  (some (Lp.done (s84.1,s84.2)))
def zEN (a1:(List Pack)) (a2:ByteArray) (x3:(List ByteArray)) (x37:((List Term)×Bool)):(Int×ByteArray)→Option (Int×ByteArray):=loop (zGl a1 a2 x3 x37)
def zFn (a1:(List Pack)) (a2:ByteArray) (x3:(List ByteArray)) (v36:(ByteArray×Int)) (x37:((List Term)×Bool)) (s68:Unit):Option (Lp Unit (Fl (xA×Bool) Unit)):=
 if decide (v36.2< (x3.length:Int)) then
  ((idx x3 v36.2).bind fun x70=>
  if !(seq x70 (bs [115,116,101,112])) then
   (some (Lp.done (Fl.ret (({Code:=0,Asks:=x37.1,Sets:=([]:List (List Int))}:xA),false))))
  else
   ((zEN a1 a2 x3 x37 (w64 (v36.2+1),bs [])).bind fun v96=>
   none))
 else
  (some (Lp.done (Fl.nxt ())))
def jX (a1:(List Pack)) (a2:ByteArray) (x3:(List ByteArray)) (v36:(ByteArray×Int)) (x37:((List Term)×Bool)):Unit→Option (Fl (xA×Bool) Unit):=loop (zFn a1 a2 x3 v36 x37)
def zDg (a1:(List Pack)) (a2:ByteArray) (x3:(List ByteArray)) (s20:(ByteArray×Int)):Option (Lp (ByteArray×Int) (ByteArray×Int)):=
 (if decide (s20.2< (x3.length:Int)) then
   ((idx x3 s20.2).bind fun x22=>
   (tC x22 (bs [114,111,111,116,32])).bind fun x24=>
   some x24)
  else
   (some false)).bind fun v26=>
 if v26 then
  ((idx x3 s20.2).bind fun x28=>
  (zFt x28 5 (x28.size:Int)).bind fun x30=>
  (cat s20.1 x30).bind fun x32=>
  (cat x32 (bs [10])).bind fun x34=>
  some (Lp.go (x34,w64 (s20.2+1))))
 else
  (some (Lp.done (s20.1,s20.2)))
def zAL (a1:(List Pack)) (a2:ByteArray) (x3:(List ByteArray)):(ByteArray×Int)→Option (ByteArray×Int):=loop (zDg a1 a2 x3)
def zDU (a1:(List Pack)) (a2:ByteArray):Option (xA×Bool):=
 (tO a2).bind fun x3=>
 (zAL a1 a2 x3 (bs [],0)).bind fun v36=>
 (zDe v36.1).bind fun x37=>
 if !x37.2 then
  (some (({Code:=0,Asks:=([]:List Term),Sets:=([]:List (List Int))}:xA),false))
 else
  ((jX a1 a2 x3 v36 x37 ()).bind (Fl.go some fun v97=>
  if decide (0>0) then
   ((zB8 a1 x37.1 ([]:List (List Int))).bind fun x99=>
   some (({Code:=0,Asks:=x37.1,Sets:=([]:List (List Int))}:xA),seq x99 a2))
  else
   (some (({Code:=0,Asks:=x37.1,Sets:=([]:List (List Int))}:xA),false))))
def jT (a1:(List Pack)) (a2:ByteArray):Option xA:=
 (zY a1).bind fun x3=>
 if x3 !=0 then
  (some ({Code:=x3,Asks:=([]:List Term),Sets:=([]:List (List Int))}:xA))
 else
  ((zDU a1 a2).bind fun x6=>
  if !x6.2 then
   (some ({Code:=5,Asks:=([]:List Term),Sets:=([]:List (List Int))}:xA))
  else
   (some x6.1))
def zE5 (a1:(List Int)) (a2:(List Int)) (s10:Int):Option (Lp Int (Fl Bool Unit)):=
 if decide (s10< (a1.length:Int)) then
  ((idx a1 s10).bind fun x12=>
  (idx a2 s10).bind fun x14=>
  if x12 !=x14 then
   (some (Lp.done (Fl.ret false)))
  else
   (some (Lp.go (w64 (s10+1)))))
 else
  (some (Lp.done (Fl.nxt ())))
def zCp (a1:(List Int)) (a2:(List Int)):Int→Option (Fl Bool Unit):=loop (zE5 a1 a2)
def zDZ (a1:(List Int)) (a2:(List Int)):Option Bool:=
 if (a1.length:Int) !=(a2.length:Int) then
  (some false)
 else
  ((zCp a1 a2 0).bind (Fl.go some fun v17=>
  some true))
def zAU (x5:((List Pack)×(List Term)×(List (List Int)))) (x7:ByteArray) (x9:xA) (s30:Int):Option (Lp Int (Fl Bool Unit)):=
 if decide (s30< (x5.2.2.length:Int)) then
  ((idx x9.Sets s30).bind fun x32=>
  (idx x5.2.2 s30).bind fun x34=>
  (zDZ x32 x34).bind fun x36=>
  if !x36 then
   (some (Lp.done (Fl.ret false)))
  else
   (some (Lp.go (w64 (s30+1)))))
 else
  (some (Lp.done (Fl.nxt ())))
def uT (x5:((List Pack)×(List Term)×(List (List Int)))) (x7:ByteArray) (x9:xA):Int→Option (Fl Bool Unit):=loop (zAU x5 x7 x9)
def uO (a1:(List Int)):Option Bool:=
 (zEk a1).bind fun x2=>
 if x2 then
  (some true)
 else
  ((vT a1).bind fun x5=>
  (uH x5.1 x5.2.1 x5.2.2).bind fun x7=>
  (jS x5.1 x7).bind fun x9=>
  (if seq x7 (bs []) then
    (some true)
   else
    (some (x9.Code !=0))).bind fun v12=>
  if v12 then
   ((zAA x5.1 x5.2.1 x5.2.2).bind fun x14=>
   if seq x14 x7 then
    ((jT x5.1 x7).bind fun x17=>
    some (x17.Code==x9.Code))
   else
    (some false))
  else
   ((if (x9.Sets.length:Int) !=(x5.2.2.length:Int) then
      (some true)
     else
      (some ((x9.Asks.length:Int) !=(x5.2.1.length:Int)))).bind fun v20=>
   if v20 then
    (some false)
   else
    ((uT x5 x7 x9 0).bind (Fl.go some fun v39=>
    (uH x5.1 x9.Asks x9.Sets).bind fun x40=>
    some (seq x40 x7)))))
def cdB (f:Func):Code:=f.body.getD .skip
end
end Go.Told

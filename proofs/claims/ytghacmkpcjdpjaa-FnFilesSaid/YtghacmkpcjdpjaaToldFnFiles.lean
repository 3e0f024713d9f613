import Derived.Test.YtghacmkpcjdpjaaImF
set_option linter.unusedVariables false
set_option maxRecDepth 4000
namespace Go.Told
open Go Go.Im
structure File where
 Path:ByteArray
 Data:(List Int)
 deriving DecidableEq
def File.enc (o:Bool) (x:File):List D:=[.sc (.string x.Path),.s o 1 x.Data.length (x.Data.map eU8)]
theorem File.ro (o:Bool) (x:File):D.ro.roC (File.enc o x)=File.enc false x:=by
 simp only [File.enc,D.ro.roC,D.ro,uU (enc:=eU8) (enc':=eU8) (fun _=>rfl)]
theorem File.fl (x:File):jF (File.enc true x):=(flatK yK (flatK (zBh (zCy (fun _=>(flatK yK kX)) _)) kX))
structure zA where
 Files:(List File)
 Budget:Int
 Writes:Int
 Stop:Int
 Down:Bool
 deriving DecidableEq
def zA.enc (o:Bool) (x:zA):List D:=[.s o 2 x.Files.length (x.Files.map (File.enc o)),.sc (.int .i64 x.Budget),.sc (.int .i64 x.Writes),.sc (.int .i64 x.Stop),.sc (.bool x.Down)]
theorem zA.ro (o:Bool) (x:zA):D.ro.roC (zA.enc o x)=zA.enc false x:=by
 simp only [zA.enc,D.ro.roC,D.ro,uU (enc:=(File.enc o)) (enc':=(File.enc false)) (File.ro o)]
theorem zA.fl (x:zA):jF (zA.enc true x):=(flatK (zBh (zCy (fun _=>(File.fl _)) _)) (flatK yK (flatK yK (flatK yK (flatK yK kX)))))
structure zG where
 Code:Int
 zA:zA
 deriving DecidableEq
def zG.enc (o:Bool) (x:zG):List D:=[.sc (.int .i64 x.Code),.s o 2 x.zA.Files.length (x.zA.Files.map (File.enc o)),.sc (.int .i64 x.zA.Budget),.sc (.int .i64 x.zA.Writes),.sc (.int .i64 x.zA.Stop),.sc (.bool x.zA.Down)]
theorem zG.ro (o:Bool) (x:zG):D.ro.roC (zG.enc o x)=zG.enc false x:=by
 simp only [zG.enc,D.ro.roC,D.ro,uU (enc:=(File.enc o)) (enc':=(File.enc false)) (File.ro o)]
theorem zG.fl (x:zG):jF (zG.enc true x):=(flatK yK (flatK (zBh (zCy (fun _=>(File.fl _)) _)) (flatK yK (flatK yK (flatK yK (flatK yK kX))))))
structure yE where
 Code:Int
 File:File
 deriving DecidableEq
def yE.enc (o:Bool) (x:yE):List D:=[.sc (.int .i64 x.Code),.sc (.string x.File.Path),.s o 1 x.File.Data.length (x.File.Data.map eU8)]
theorem yE.ro (o:Bool) (x:yE):D.ro.roC (yE.enc o x)=yE.enc false x:=by
 simp only [yE.enc,D.ro.roC,D.ro,uU (enc:=eU8) (enc':=eU8) (fun _=>rfl)]
theorem yE.fl (x:yE):jF (yE.enc true x):=(flatK yK (flatK yK (flatK (zBh (zCy (fun _=>(flatK yK kX)) _)) kX)))
structure xQ where
 Code:Int
 Value:Int
 deriving DecidableEq
def xQ.enc (x:xQ):List D:=[.sc (.int .i64 x.Code),.sc (.int .i64 x.Value)]
theorem xQ.fl (x:xQ):jF (xQ.enc x):=(flatK yK (flatK yK kX))
structure yN where
 Code:Int
 Names:(List ByteArray)
 deriving DecidableEq
def yN.enc (o:Bool) (x:yN):List D:=[.sc (.int .i64 x.Code),.s o 1 x.Names.length (x.Names.map eStr)]
theorem yN.ro (o:Bool) (x:yN):D.ro.roC (yN.enc o x)=yN.enc false x:=by
 simp only [yN.enc,D.ro.roC,D.ro,uU (enc:=eStr) (enc':=eStr) (fun _=>rfl)]
theorem yN.fl (x:yN):jF (yN.enc true x):=(flatK yK (flatK (zBh (zCy (fun _=>(flatK yK kX)) _)) kX))
structure zL where
 Code:(List Int)
 At:Int
 deriving DecidableEq
def zL.enc (o:Bool) (x:zL):List D:=[.s o 1 x.Code.length (x.Code.map eU8),.sc (.int .i64 x.At)]
theorem zL.ro (o:Bool) (x:zL):D.ro.roC (zL.enc o x)=zL.enc false x:=by
 simp only [zL.enc,D.ro.roC,D.ro,uU (enc:=eU8) (enc':=eU8) (fun _=>rfl)]
theorem zL.fl (x:zL):jF (zL.enc true x):=(flatK (zBh (zCy (fun _=>(flatK yK kX)) _)) (flatK yK kX))
noncomputable def uQ (a1:(List Int)):Option Bool:=
 some (decide ((a1.length:Int)>1048576))
noncomputable def uE (a1:(List Int)):Option zL:=
 some ({Code:=a1,At:=0}:zL)
noncomputable def zM (a1:zL) (a2:Int):Option (Int×zL):=
 if decide (a2<1) then
  (some (0,({Code:=a1.Code,At:=w64 (a1.At+1)}:zL)))
 else
  (if (a1.Code.length:Int)==0 then
   ((zDO (w64 ((w64 ((w64 (a1.At+1))-1))*7)) a2).bind fun x5=>
   some (x5,({Code:=a1.Code,At:=w64 (a1.At+1)}:zL)))
  else
   ((zDO (w64 ((w64 (a1.At+1))-1)) (a1.Code.length:Int)).bind fun x7=>
   (idx a1.Code x7).bind fun x9=>
   (zFv .i64 (w64 ((w64 (a1.At+1))-1)) (a1.Code.length:Int)).bind fun x11=>
   (if decide (a2>200) then
     ((zDO (w64 ((w64 ((w64 (a1.At+1))-1))+1)) (a1.Code.length:Int)).bind fun x14=>
     (idx a1.Code x14).bind fun x16=>
     some (w64 ((w64 ((w64 ((w64 ((w64 (x9))+(w64 (x11*37))))*251))+(w64 ((w64 (x16))*13))))+(w64 ((w64 (a1.At+1))-1)))))
    else
     (some (w64 ((w64 (x9))+(w64 (x11*37)))))).bind fun v18=>
   (zDO v18 a2).bind fun x19=>
   some (x19,({Code:=a1.Code,At:=w64 (a1.At+1)}:zL))))
noncomputable def yL (a1:zL) (a2:(List Int)):Option (Int×zL):=
 (zM a1 (a2.length:Int)).bind fun x3=>
 (idx a2 x3.1).bind fun x5=>
 some (x5,x3.2)
noncomputable def xP (a1:Int) (a2:Int) (a3:Int):Option Bool:=
 if decide (a1≥a2) then
  (some (decide (a1≤a3)))
 else
  (some false)
noncomputable def vF (a1:Int):Option zG:=
 (xP a1 0 20000).bind fun x2=>
 if !x2 then
  (some ({Code:=3,zA:=({Files:=([]:List File),Budget:=0,Writes:=0,Stop:=0,Down:=false}:zA)}:zG))
 else
  (some ({Code:=0,zA:=({Files:=([]:List File),Budget:=a1,Writes:=0,Stop:=(-1),Down:=false}:zA)}:zG))
noncomputable def vC (a1:zL):Option (ByteArray×zL):=
 (zM a1 7).bind fun x2=>
 (idx [bs [97],bs [98,47,99],bs [99,117,114],bs [103,101,110,47,48,48,48,48,48,49],bs [112,107,103,47,97,45,49,46,48,46,48],bs [112,108,97,110],bs [120,95,49]] x2.1).bind fun x4=>
 some (x4,x2.2)
noncomputable def uD (s8:((List Int)×Int×Int×(List Int))):Option (Lp ((List Int)×Int×Int×(List Int)) ((List Int)×Int×(List Int))):=
 if decide (s8.2.2.1>0) then
  ((zM ({Code:=s8.1,At:=s8.2.1}:zL) 256).bind fun x10=>
  (app 1 s8.2.2.2 [IntKind.u8.wrap (x10.1)]).bind fun x12=>
  some (Lp.go (x10.2.Code,x10.2.At,w64 (s8.2.2.1-1),x12)))
 else
  (some (Lp.done (s8.1,s8.2.1,s8.2.2.2)))
noncomputable def uJ:((List Int)×Int×Int×(List Int))→Option ((List Int)×Int×(List Int)):=loop uD
noncomputable def wR (a1:zL) (a2:Int):Option ((List Int)×zL):=
 (uJ (a1.Code,a1.At,a2,([]:List Int))).bind fun v14=>
 some (v14.2.2,({Code:=v14.1,At:=v14.2.1}:zL))
noncomputable def wO (a1:zA) (a2:ByteArray) (s7:Int):Option (Lp Int (Fl Int Unit)):=
 if decide (s7< (a1.Files.length:Int)) then
  ((idx a1.Files s7).bind fun x9=>
  if seq x9.Path a2 then
   (some (Lp.done (Fl.ret s7)))
  else
   (some (Lp.go (w64 (s7+1)))))
 else
  (some (Lp.done (Fl.nxt ())))
noncomputable def vG (a1:zA) (a2:ByteArray):Int→Option (Fl Int Unit):=loop (wO a1 a2)
noncomputable def yM (a1:zA) (a2:ByteArray):Option Int:=
 (vG a1 a2 0).bind (Fl.go some fun v12=>
 some (-1))
noncomputable def wF (a1:zA) (s5:(Int×Int)):Option (Lp (Int×Int) Int):=
 if decide (s5.2< (a1.Files.length:Int)) then
  ((idx a1.Files s5.2).bind fun x7=>
  some (Lp.go (w64 (s5.1+(x7.Data.length:Int)),w64 (s5.2+1))))
 else
  (some (Lp.done s5.1))
noncomputable def wP (a1:zA):(Int×Int)→Option Int:=loop (wF a1)
noncomputable def yP (a1:zA):Option Int:=
 (wP a1 (0,0)).bind fun v9=>
 some v9
noncomputable def vP (a1:zA):Option (Bool×zA):=
 if a1.Down then
  (some (false,a1))
 else
  ((if a1.Stop !=(-1) then
     (some (decide (a1.Writes≥a1.Stop)))
    else
     (some false)).bind fun v4=>
  if v4 then
   (some (false,({Files:=a1.Files,Budget:=a1.Budget,Writes:=a1.Writes,Stop:=a1.Stop,Down:=true}:zA)))
  else
   (some (true,({Files:=a1.Files,Budget:=a1.Budget,Writes:=w64 (a1.Writes+1),Stop:=a1.Stop,Down:=a1.Down}:zA))))
noncomputable def wW (a2:ByteArray) (x17:(Bool×zA)) (x20:(List Int)) (s30:Int):Option (Lp Int Int):=
 (if decide (s30< (x17.2.Files.length:Int)) then
   ((idx x17.2.Files s30).bind fun x32=>
   some (slt x32.Path a2))
  else
   (some false)).bind fun v34=>
 if v34 then
  (some (Lp.go (w64 (s30+1))))
 else
  (some (Lp.done s30))
noncomputable def uS (a2:ByteArray) (x17:(Bool×zA)) (x20:(List Int)):Int→Option Int:=loop (wW a2 x17 x20)
noncomputable def yY (a1:zA) (a2:ByteArray) (a3:(List Int)):Option (Int×zA):=
 (yM a1 a2).bind fun x4=>
 (if decide (x4≥0) then
   ((idx a1.Files x4).bind fun x7=>
   some (x7.Data.length:Int))
  else
   (some 0)).bind fun v9=>
 (if decide ((a3.length:Int)>4000) then
   (some true)
  else
   (if decide (x4<0) then
    (some (decide ((a1.Files.length:Int)≥120)))
   else
    (some false))).bind fun v12=>
 if v12 then
  (some (2,a1))
 else
  ((yP a1).bind fun x14=>
  if decide ((w64 ((w64 (x14-v9))+(a3.length:Int)))>a1.Budget) then
   (some (8,a1))
  else
   ((vP a1).bind fun x17=>
   if !x17.1 then
    (some (9,x17.2))
   else
    ((app 1 ([]:List Int) a3).bind fun x20=>
    if decide (x4≥0) then
     ((idx x17.2.Files x4).bind fun x23=>
     some (0,({Files:=x17.2.Files.set x4.toNat ({Path:=a2,Data:=x20}:File),Budget:=x17.2.Budget,Writes:=x17.2.Writes,Stop:=x17.2.Stop,Down:=x17.2.Down}:zA)))
    else
     ((uS a2 x17 x20 0).bind fun v36=>
     (zBY x17.2.Files 0 v36).bind fun x37=>
     (app 40 ([]:List File) x37).bind fun x39=>
     (app 40 x39 [({Path:=a2,Data:=x20}:File)]).bind fun x41=>
     (zBY x17.2.Files v36 (x17.2.Files.length:Int)).bind fun x43=>
     (app 40 x41 x43).bind fun x45=>
     some (0,({Files:=x45,Budget:=x17.2.Budget,Writes:=x17.2.Writes,Stop:=x17.2.Stop,Down:=x17.2.Down}:zA))))))
noncomputable def xM (a1:zL) (a2:Int):Option (Bool×zL):=
 (zM a1 a2).bind fun x3=>
 some (x3.1==0,x3.2)
noncomputable def xL (a1:zL):Option (ByteArray×zL):=
 (xM a1 14).bind fun x2=>
 if x2.1 then
  ((zM x2.2 6).bind fun x5=>
  (idx [bs [],bs [65],bs [97,32,98],bs [97,98,99,100,101,102,103,104,105,106,97,98,99,100,101,102,103,104,105,106,97,98,99,100,101,102,103,104,105,106,97,98,99,100,101,102,103,104,105,106],bs [97,98,99,100,101,102,103,104,105,106,97,98,99,100,101,102,103,104,105,106,97,98,99,100,101,102,103,104,105,106,97,98,99,100,101,102,103,104,105,106,107],bs [97,10]] x5.1).bind fun x7=>
  some (x7,x5.2))
 else
  ((vC x2.2).bind fun x9=>
  some (x9.1,x9.2))
noncomputable def vZ (s26:((List Int)×Int×(List File)×Int×Int×Int×Bool×Int)):Option (Lp ((List Int)×Int×(List File)×Int×Int×Int×Bool×Int) ((List Int)×Int×(List File)×Int×Int×Int×Bool)):=
 if decide (s26.2.2.2.2.2.2.2>0) then
  ((vC ({Code:=s26.1,At:=s26.2.1}:zL)).bind fun x28=>
  (zM x28.2 20).bind fun x30=>
  (wR x30.2 x30.1).bind fun x32=>
  (yY ({Files:=s26.2.2.1,Budget:=s26.2.2.2.1,Writes:=s26.2.2.2.2.1,Stop:=s26.2.2.2.2.2.1,Down:=s26.2.2.2.2.2.2.1}:zA) x28.1 x32.1).bind fun x34=>
  some (Lp.go (x32.2.Code,x32.2.At,x34.2.Files,x34.2.Budget,x34.2.Writes,x34.2.Stop,x34.2.Down,w64 (s26.2.2.2.2.2.2.2-1))))
 else
  (some (Lp.done (s26.1,s26.2.1,s26.2.2.1,s26.2.2.2.1,s26.2.2.2.2.1,s26.2.2.2.2.2.1,s26.2.2.2.2.2.2.1)))
noncomputable def uL:((List Int)×Int×(List File)×Int×Int×Int×Bool×Int)→Option ((List Int)×Int×(List File)×Int×Int×Int×Bool):=loop vZ
noncomputable def uO (a1:zL):Option (zA×zL):=
 (yL a1 [100,40,1000,20000]).bind fun x2=>
 (vF x2.1).bind fun x4=>
 (zM x2.2 6).bind fun x6=>
 (uL (x6.2.Code,x6.2.At,x4.zA.Files,x4.zA.Budget,x4.zA.Writes,x4.zA.Stop,x4.zA.Down,x6.1)).bind fun v36=>
 (yL ({Code:=v36.1,At:=v36.2.1}:zL) [(-1),(-1),(-1),v36.2.2.2.2.1,w64 (v36.2.2.2.2.1+1),0]).bind fun x37=>
 (xM x37.2 10).bind fun x39=>
 (if x39.1 then
   (some true)
  else
   (some v36.2.2.2.2.2.2)).bind fun v42=>
 (zM x39.2 30).bind fun x43=>
 (if x43.1==0 then
   ((yL x43.2 [(-1),0,5,20001]).bind fun x46=>
   some (x46.2.Code,x46.2.At,v36.2.2.1,x46.1,v36.2.2.2.2.1,x37.1))
  else
   (if x43.1==1 then
    ((yL x43.2 [(-1),1000000001]).bind fun x49=>
    some (x49.2.Code,x49.2.At,v36.2.2.1,v36.2.2.2.1,x49.1,x37.1))
   else
    (if x43.1==2 then
     ((yL x43.2 [(-2),1000000001]).bind fun x52=>
     some (x52.2.Code,x52.2.At,v36.2.2.1,v36.2.2.2.1,v36.2.2.2.2.1,x52.1))
    else
     (if x43.1==3 then
      ((xL x43.2).bind fun x55=>
      (wR x55.2 3).bind fun x57=>
      (app 40 v36.2.2.1 [({Path:=x55.1,Data:=x57.1}:File)]).bind fun x59=>
      some (x57.2.Code,x57.2.At,x59,v36.2.2.2.1,v36.2.2.2.2.1,x37.1))
     else
      (if x43.1==4 then
       ((mk 40 121 ({Path:=ByteArray.empty,Data:=([]:List Int)}:File)).bind fun x62=>
       some (x43.2.Code,x43.2.At,x62,v36.2.2.2.1,v36.2.2.2.2.1,x37.1))
      else
       (if x43.1==5 then
        ((zM x43.2 2).bind fun x65=>
        (mk 1 (w64 (4000+x65.1)) 0).bind fun x67=>
        some (x65.2.Code,x65.2.At,[({Path:=bs [97],Data:=x67}:File)],20000,v36.2.2.2.2.1,x37.1))
       else
        (some (x43.2.Code,x43.2.At,v36.2.2.1,v36.2.2.2.1,v36.2.2.2.2.1,x37.1)))))))).bind fun v69=>
 some (({Files:=v69.2.2.1,Budget:=v69.2.2.2.1,Writes:=v69.2.2.2.2.1,Stop:=v69.2.2.2.2.2,Down:=v42}:zA),({Code:=v69.1,At:=v69.2.1}:zL))
noncomputable def uY (a1:Int) (a2:Int):Option Int:=
 if decide (a1<a2) then
  (some a1)
 else
  (some a2)
noncomputable def uZ (a1:Int) (a2:Int):Option Int:=
 if decide (a1>a2) then
  (some a1)
 else
  (some a2)
noncomputable def yZ (a1:(List Int)):Option (zA×ByteArray×(List Int)):=
 (uE a1).bind fun x2=>
 (uO x2).bind fun x4=>
 (xL x4.2).bind fun x6=>
 (zM x6.2 20).bind fun x8=>
 (zM x8.2 60).bind fun x10=>
 (yP x4.1).bind fun x12=>
 (yP x4.1).bind fun x14=>
 (yL x10.2 [x8.1,x10.1,0,w64 (x4.1.Budget-x12),w64 ((w64 (x4.1.Budget-x14))+1)]).bind fun x16=>
 (xM x16.2 40).bind fun x18=>
 (if x18.1 then
   ((zM x18.2 2).bind fun x21=>
   some (x21.2.Code,x21.2.At,w64 (4000+x21.1)))
  else
   (some (x18.2.Code,x18.2.At,x16.1))).bind fun v23=>
 (uY v23.2.2 4001).bind fun x24=>
 (uZ 0 x24).bind fun x26=>
 (wR ({Code:=v23.1,At:=v23.2.1}:zL) x26).bind fun x28=>
 some (x4.1,x6.1,x28.1)
noncomputable def yX (a1:Int) (a2:Int) (a3:Int):Option Bool:=
 if decide (a2≤a1) then
  (some (decide (a1≤a3)))
 else
  (some false)
noncomputable def xB (a1:Int):Option Bool:=
 if decide (a1≥97) then
  (if decide (a1≤122) then
   (some true)
  else
   (if decide (a1≥48) then
    (if decide (a1≤57) then
     (some true)
    else
     (some (a1==95)))
   else
    (some (a1==95))))
 else
  (if decide (a1≥48) then
   (if decide (a1≤57) then
    (some true)
   else
    (some (a1==95)))
  else
   (some (a1==95)))
noncomputable def uR (a1:ByteArray) (s15:Int):Option (Lp Int (Fl Int Unit)):=
 if decide (s15< (a1.size:Int)) then
  ((bidx a1 s15).bind fun x17=>
  (xB x17).bind fun x19=>
  (if !x19 then
    (if x17 !=46 then
     (if x17 !=45 then
      (some (x17 !=47))
     else
      (some false))
    else
     (some false))
   else
    (some false)).bind fun v24=>
  if v24 then
   (some (Lp.done (Fl.ret 5)))
  else
   (some (Lp.go (w64 (s15+1)))))
 else
  (some (Lp.done (Fl.nxt ())))
noncomputable def wL (a1:ByteArray):Int→Option (Fl Int Unit):=loop (uR a1)
noncomputable def xJ (a1:ByteArray):Option Int:=
 (if decide ((a1.size:Int)<1) then
   (some true)
  else
   (some (decide ((a1.size:Int)>40)))).bind fun v3=>
 if v3 then
  (some 5)
 else
  ((wL a1 0).bind (Fl.go some fun v26=>
  some 0))
noncomputable def tT (a1:zA) (s5:(Int×Int)):Option (Lp (Int×Int) Int):=
 if decide (s5.2< (a1.Files.length:Int)) then
  ((idx a1.Files s5.2).bind fun x7=>
  some (Lp.go (w64 (s5.1+(x7.Data.length:Int)),w64 (s5.2+1))))
 else
  (some (Lp.done s5.1))
noncomputable def vV (a1:zA):(Int×Int)→Option Int:=loop (tT a1)
noncomputable def yT (a1:zA):Option Int:=
 (vV a1 (0,0)).bind fun v9=>
 some v9
noncomputable def uT (a1:zA) (s25:Int):Option (Lp Int (Fl Int Unit)):=
 if decide (s25< (a1.Files.length:Int)) then
  ((idx a1.Files s25).bind fun x27=>
  (xJ x27.Path).bind fun x29=>
  if x29 !=0 then
   (some (Lp.done (Fl.ret x29)))
  else
   ((if decide (s25>0) then
      ((idx a1.Files (w64 (s25-1))).bind fun x33=>
      some (slt x27.Path x33.Path||seq x27.Path x33.Path))
     else
      (some false)).bind fun v35=>
   if v35 then
    (some (Lp.done (Fl.ret 1)))
   else
    (if decide ((x27.Data.length:Int)>4000) then
     (some (Lp.done (Fl.ret 2)))
    else
     (some (Lp.go (w64 (s25+1)))))))
 else
  (some (Lp.done (Fl.nxt ())))
noncomputable def wK (a1:zA):Int→Option (Fl Int Unit):=loop (uT a1)
noncomputable def zI (a1:zA):Option Int:=
 (yX a1.Budget 0 20000).bind fun x2=>
 (if !x2 then
   (some true)
  else
   ((yX a1.Writes 0 1000000000).bind fun x5=>
   if !x5 then
    (some true)
   else
    ((yX a1.Stop (-1) 1000000000).bind fun x8=>
    some (!x8)))).bind fun v10=>
 if v10 then
  (some 3)
 else
  (if decide ((a1.Files.length:Int)>120) then
   (some 2)
  else
   ((wK a1 0).bind (Fl.go some fun v38=>
   (yT a1).bind fun x39=>
   if decide (x39>a1.Budget) then
    (some 8)
   else
    (some 0))))
noncomputable def zV (a1:(List Int)):Option (List Int):=
 (app 1 ([]:List Int) a1).bind fun x3=>
 some x3
noncomputable def uH (a1:zA) (s16:((List File)×Int)):Option (Lp ((List File)×Int) (List File)):=
 if decide (s16.2< (a1.Files.length:Int)) then
  ((idx a1.Files s16.2).bind fun x18=>
  (zV x18.Data).bind fun x20=>
  (app 40 s16.1 [({Path:=x18.Path,Data:=x20}:File)]).bind fun x22=>
  some (Lp.go (x22,w64 (s16.2+1))))
 else
  (some (Lp.done s16.1))
noncomputable def xU (a1:zA):((List File)×Int)→Option (List File):=loop (uH a1)
noncomputable def yG (a1:zA):Option zA:=
 (xU a1 (([]:List File),0)).bind fun v24=>
 some ({Files:=v24,Budget:=a1.Budget,Writes:=a1.Writes,Stop:=a1.Stop,Down:=a1.Down}:zA)
noncomputable def bytealg_CompareString (a1 a2:ByteArray):Option Int:=some (zEk a1 a2)
noncomputable def strings_Compare (a1:ByteArray) (a2:ByteArray):Option Int:=
 (bytealg_CompareString a1 a2).bind fun x3=>
 some x3
noncomputable def xG (a1:File) (a2:ByteArray):Option Int:=
 (strings_Compare a1.Path a2).bind fun x3=>
 some x3
noncomputable def zO (a1:(List File)) (a2:ByteArray) (s9:(Int×Int)):Option (Lp (Int×Int) Int):=
 if decide (s9.1<s9.2) then
  ((idx a1 (w64 ((IntKind.u64.wrap (w64 (s9.1+s9.2))).fdiv (2^(min (1:Int).toNat 64))))).bind fun x11=>
  (xG x11 a2).bind fun x13=>
  if decide (x13<0) then
   (some (Lp.go (w64 ((w64 ((IntKind.u64.wrap (w64 (s9.1+s9.2))).fdiv (2^(min (1:Int).toNat 64))))+1),s9.2)))
  else
   (some (Lp.go (s9.1,w64 ((IntKind.u64.wrap (w64 (s9.1+s9.2))).fdiv (2^(min (1:Int).toNat 64)))))))
 else
  (some (Lp.done s9.1))
noncomputable def zH (a1:(List File)) (a2:ByteArray):(Int×Int)→Option Int:=loop (zO a1 a2)
noncomputable def zD (a1:(List File)) (a2:ByteArray):Option (Int×Bool):=
 (zH a1 a2 (0,(a1.length:Int))).bind fun v16=>
 if decide (v16< (a1.length:Int)) then
  ((idx a1 v16).bind fun x18=>
  (xG x18 a2).bind fun x20=>
  some (v16,x20==0))
 else
  (some (v16,false))
noncomputable def zX (a1:zA) (a2:ByteArray):Option (Int×Bool):=
 (zD a1.Files a2).bind fun x3=>
 some (x3.1,x3.2)
noncomputable def zW (a1:zA) (a2:ByteArray):Option ((List Int)×Bool):=
 (zX a1 a2).bind fun x3=>
 if !x3.2 then
  (some (([]:List Int),false))
 else
  ((idx a1.Files x3.1).bind fun x6=>
  some (x6.Data,true))
noncomputable def xD (a1:List File) (a2:Int) (a3:List File):Option (List File):=if 0≤a2∧a2≤a1.length∧0<a3.length∧a1.length+a3.length≤1099511627776 then some (a1.take a2.toNat++(a3++a1.drop a2.toNat)) else none
noncomputable def wN (a1:zA) (a2:ByteArray) (a3:(List Int)):Option zA:=
 (zX a1 a2).bind fun x4=>
 (if !x4.2 then
   ((xD a1.Files x4.1 [({Path:=a2,Data:=([]:List Int)}:File)]).bind fun x7=>
   some x7)
  else
   (some a1.Files)).bind fun v9=>
 (zV a3).bind fun x10=>
 (idx v9 x4.1).bind fun x12=>
 some ({Files:=v9.set x4.1.toNat ({Path:=x12.Path,Data:=x10}:File),Budget:=a1.Budget,Writes:=a1.Writes,Stop:=a1.Stop,Down:=a1.Down}:zA)
noncomputable def xE (a1:zA) (a2:ByteArray) (a3:(List Int)):Option zA:=
 (wN a1 a2 a3).bind fun x4=>
 some x4
noncomputable def zN (a1:zA) (a2:ByteArray) (a3:(List Int)):Option (Int×zA):=
 (if decide (a1.Stop≥0) then
   (some (decide (a1.Writes≥a1.Stop)))
  else
   (some false)).bind fun v5=>
 if v5 then
  (some (9,({Files:=a1.Files,Budget:=a1.Budget,Writes:=a1.Writes,Stop:=a1.Stop,Down:=true}:zA)))
 else
  ((xE a1 a2 a3).bind fun x7=>
  some (0,({Files:=x7.Files,Budget:=x7.Budget,Writes:=w64 (x7.Writes+1),Stop:=x7.Stop,Down:=x7.Down}:zA)))
noncomputable def yA (a1:zA) (a2:ByteArray) (a3:(List Int)):Option (Int×zA):=
 (zW a1 a2).bind fun x4=>
 (xJ a2).bind fun x6=>
 if x6 !=0 then
  (some (5,a1))
 else
  ((if decide ((a3.length:Int)>4000) then
     (some true)
    else
     (if !x4.2 then
      (some ((a1.Files.length:Int)==120))
     else
      (some false))).bind fun v11=>
  if v11 then
   (some (2,a1))
  else
   ((yT a1).bind fun x13=>
   if decide ((w64 ((w64 (x13-(x4.1.length:Int)))+(a3.length:Int)))>a1.Budget) then
    (some (8,a1))
   else
    ((zN a1 a2 a3).bind fun x16=>
    some (x16.1,x16.2))))
noncomputable def wJ (a1:zA) (a2:ByteArray) (a3:(List Int)):Option (Int×zA):=
 (yA a1 a2 a3).bind fun x4=>
 some (x4.1,x4.2)
noncomputable def jI (a1:zA) (a2:Int):Option zG:=
 (if a2 !=0 then
   (some (a2 !=9))
  else
   (some false)).bind fun v4=>
 if v4 then
  (some ({Code:=a2,zA:=({Files:=([]:List File),Budget:=0,Writes:=0,Stop:=0,Down:=false}:zA)}:zG))
 else
  (some ({Code:=a2,zA:=a1}:zG))
noncomputable def zQ (a1:zA) (a2:ByteArray) (a3:(List Int)):Option zG:=
 (zI a1).bind fun x4=>
 (if x4==0 then
   (some a1.Down)
  else
   (some false)).bind fun v7=>
 (if v7 then
   (some 9)
  else
   (some x4)).bind fun v9=>
 if v9 !=0 then
  (some ({Code:=v9,zA:=({Files:=([]:List File),Budget:=0,Writes:=0,Stop:=0,Down:=false}:zA)}:zG))
 else
  ((yG a1).bind fun x11=>
  (wJ x11 a2 a3).bind fun x13=>
  (jI x13.2 x13.1).bind fun x15=>
  some x15)
noncomputable def xA (a1:zA) (a2:ByteArray) (a3:(List Int)):Option zG:=
 (zQ a1 a2 a3).bind fun x4=>
 some x4
noncomputable def wY (a1:Int):Option Bool:=
 if decide (a1≥97) then
  (some (decide (a1≤122)))
 else
  (some false)
noncomputable def vW (a1:Int):Option Bool:=
 if decide (a1≥48) then
  (some (decide (a1≤57)))
 else
  (some false)
noncomputable def vD (a1:Int):Option Bool:=
 (wY a1).bind fun x2=>
 if x2 then
  (some true)
 else
  ((vW a1).bind fun x5=>
  if x5 then
   (some true)
  else
   (some (a1==95)))
noncomputable def uN (a1:Int):Option Bool:=
 (vD a1).bind fun x2=>
 if x2 then
  (some true)
 else
  (if a1==46 then
   (some true)
  else
   (if a1==45 then
    (some true)
   else
    (some (a1==47))))
noncomputable def wE (a1:ByteArray) (s11:Int):Option (Lp Int (Fl Int Unit)):=
 if decide (s11< (a1.size:Int)) then
  ((bidx a1 s11).bind fun x13=>
  (uN x13).bind fun x15=>
  if !x15 then
   (some (Lp.done (Fl.ret 5)))
  else
   (some (Lp.go (w64 (s11+1)))))
 else
  (some (Lp.done (Fl.nxt ())))
noncomputable def xR (a1:ByteArray):Int→Option (Fl Int Unit):=loop (wE a1)
noncomputable def yJ (a1:ByteArray):Option Int:=
 (if decide ((a1.size:Int)<1) then
   (some true)
  else
   (some (decide ((a1.size:Int)>40)))).bind fun v3=>
 if v3 then
  (some 5)
 else
  ((xR a1 0).bind (Fl.go some fun v18=>
  some 0))
noncomputable def yR (a1:zA) (s29:Int):Option (Lp Int (Fl Int Unit)):=
 if decide (s29< (a1.Files.length:Int)) then
  ((idx a1.Files s29).bind fun x31=>
  (yJ x31.Path).bind fun x33=>
  if x33 !=0 then
   (some (Lp.done (Fl.ret x33)))
  else
   ((if decide (s29>0) then
      ((idx a1.Files s29).bind fun x37=>
      (idx a1.Files (w64 (s29-1))).bind fun x39=>
      some (slt x37.Path x39.Path||seq x37.Path x39.Path))
     else
      (some false)).bind fun v41=>
   if v41 then
    (some (Lp.done (Fl.ret 1)))
   else
    ((idx a1.Files s29).bind fun x43=>
    if decide ((x43.Data.length:Int)>4000) then
     (some (Lp.done (Fl.ret 2)))
    else
     (some (Lp.go (w64 (s29+1)))))))
 else
  (some (Lp.done (Fl.nxt ())))
noncomputable def xH (a1:zA):Int→Option (Fl Int Unit):=loop (yR a1)
noncomputable def yD (a1:zA):Option Int:=
 (xP a1.Budget 0 20000).bind fun x2=>
 (if !x2 then
   (some true)
  else
   ((xP a1.Writes 0 1000000000).bind fun x5=>
   if !x5 then
    (some true)
   else
    ((xP a1.Stop (-1) 1000000000).bind fun x8=>
    some (!x8)))).bind fun v10=>
 if v10 then
  (some 3)
 else
  (if decide ((a1.Files.length:Int)>120) then
   (some 2)
  else
   ((xH a1 0).bind (Fl.go some fun v46=>
   (yP a1).bind fun x47=>
   if decide (x47>a1.Budget) then
    (some 8)
   else
    (some 0))))
noncomputable def vE (a1:zA) (a2:Int):Option zG:=
 (zI a1).bind fun x3=>
 (if x3 !=0 then
   (some x3)
  else
   ((yX a2 (-1) 1000000000).bind fun x6=>
   if !x6 then
    (some 3)
   else
    (if !a1.Down then
     (some 1)
    else
     (some x3)))).bind fun v10=>
 if v10 !=0 then
  (some ({Code:=v10,zA:=({Files:=([]:List File),Budget:=0,Writes:=0,Stop:=0,Down:=false}:zA)}:zG))
 else
  ((yG a1).bind fun x12=>
  some ({Code:=0,zA:=({Files:=x12.Files,Budget:=x12.Budget,Writes:=0,Stop:=a2,Down:=false}:zA)}:zG))
noncomputable def yV (a1:zA) (a2:ByteArray):Option yE:=
 (zI a1).bind fun x3=>
 (if x3==0 then
   (some a1.Down)
  else
   (some false)).bind fun v6=>
 (if v6 then
   (some 9)
  else
   (some x3)).bind fun v8=>
 (zW a1 a2).bind fun x9=>
 (if v8==0 then
   (some (!x9.2))
  else
   (some false)).bind fun v12=>
 (if v12 then
   (some 4)
  else
   (some v8)).bind fun v14=>
 if v14 !=0 then
  (some ({Code:=v14,File:=({Path:=ByteArray.empty,Data:=([]:List Int)}:File)}:yE))
 else
  ((zV x9.1).bind fun x16=>
  some ({Code:=0,File:=({Path:=a2,Data:=x16}:File)}:yE))
noncomputable def vB (a1:zA) (a2:ByteArray):Option yE:=
 (yD a1).bind fun x3=>
 if x3 !=0 then
  (some ({Code:=x3,File:=({Path:=ByteArray.empty,Data:=([]:List Int)}:File)}:yE))
 else
  (if a1.Down then
   (some ({Code:=9,File:=({Path:=ByteArray.empty,Data:=([]:List Int)}:File)}:yE))
  else
   ((yM a1 a2).bind fun x7=>
   if decide (x7<0) then
    (some ({Code:=4,File:=({Path:=ByteArray.empty,Data:=([]:List Int)}:File)}:yE))
   else
    ((idx a1.Files x7).bind fun x10=>
    (app 1 ([]:List Int) x10.Data).bind fun x12=>
    some ({Code:=0,File:=({Path:=a2,Data:=x12}:File)}:yE))))
noncomputable def yS (a1:zA):Option xQ:=
 (zI a1).bind fun x2=>
 if x2 !=0 then
  (some ({Code:=x2,Value:=0}:xQ))
 else
  ((yT a1).bind fun x5=>
  some ({Code:=0,Value:=x5}:xQ))
noncomputable def vK (a1:zA):Option Int:=
 (yD a1).bind fun x2=>
 if x2 !=0 then
  (some x2)
 else
  (if a1.Down then
   (some 9)
  else
   (some 0))
noncomputable def vI (a1:zA) (s20:((List File)×Int)):Option (Lp ((List File)×Int) (List File)):=
 if decide (s20.2< (a1.Files.length:Int)) then
  ((idx a1.Files s20.2).bind fun x22=>
  (idx a1.Files s20.2).bind fun x24=>
  (app 1 ([]:List Int) x24.Data).bind fun x26=>
  (app 40 s20.1 [({Path:=x22.Path,Data:=x26}:File)]).bind fun x28=>
  some (Lp.go (x28,w64 (s20.2+1))))
 else
  (some (Lp.done s20.1))
noncomputable def vH (a1:zA):((List File)×Int)→Option (List File):=loop (vI a1)
noncomputable def vO (a1:zA):Option zA:=
 (vH a1 (([]:List File),0)).bind fun v30=>
 some ({Files:=v30,Budget:=a1.Budget,Writes:=a1.Writes,Stop:=a1.Stop,Down:=a1.Down}:zA)
noncomputable def tV (a1:zA) (a2:Int):Option zG:=
 (if a2 !=0 then
   (some (a2 !=9))
  else
   (some false)).bind fun v4=>
 if v4 then
  (some ({Code:=a2,zA:=({Files:=([]:List File),Budget:=0,Writes:=0,Stop:=0,Down:=false}:zA)}:zG))
 else
  (some ({Code:=a2,zA:=a1}:zG))
noncomputable def xX (a1:zA) (a2:ByteArray) (a3:(List Int)):Option zG:=
 (vK a1).bind fun x4=>
 if x4 !=0 then
  (some ({Code:=x4,zA:=({Files:=([]:List File),Budget:=0,Writes:=0,Stop:=0,Down:=false}:zA)}:zG))
 else
  ((yJ a2).bind fun x7=>
  if x7 !=0 then
   (some ({Code:=x7,zA:=({Files:=([]:List File),Budget:=0,Writes:=0,Stop:=0,Down:=false}:zA)}:zG))
  else
   ((vO a1).bind fun x10=>
   (yY x10 a2 a3).bind fun x12=>
   (tV x12.2 x12.1).bind fun x14=>
   some x14))
noncomputable def xC (a1:List File) (a2 a3:Int):Option (List File):=if 0≤a2∧a2≤a3∧a3≤a1.length∧a1.length≤1099511627776 then some (a1.take a2.toNat++a1.drop a3.toNat) else none
noncomputable def wC (a1:zA) (a2:Int):Option zA:=
 (xC a1.Files a2 (w64 (a2+1))).bind fun x3=>
 some ({Files:=x3,Budget:=a1.Budget,Writes:=a1.Writes,Stop:=a1.Stop,Down:=a1.Down}:zA)
noncomputable def zR (a1:zA) (a2:Int):Option (Int×zA):=
 (if decide (a1.Stop≥0) then
   (some (decide (a1.Writes≥a1.Stop)))
  else
   (some false)).bind fun v4=>
 if v4 then
  (some (9,({Files:=a1.Files,Budget:=a1.Budget,Writes:=a1.Writes,Stop:=a1.Stop,Down:=true}:zA)))
 else
  ((wC a1 a2).bind fun x6=>
  some (0,({Files:=x6.Files,Budget:=x6.Budget,Writes:=w64 (x6.Writes+1),Stop:=x6.Stop,Down:=x6.Down}:zA)))
noncomputable def wG (a1:zA) (a2:ByteArray):Option (Int×zA):=
 (zX a1 a2).bind fun x3=>
 if !x3.2 then
  (some (4,a1))
 else
  ((zR a1 x3.1).bind fun x6=>
  some (x6.1,x6.2))
noncomputable def wX (a1:zA) (a2:ByteArray):Option (Int×zA):=
 (wG a1 a2).bind fun x3=>
 some (x3.1,x3.2)
noncomputable def yH (a1:zA) (a2:ByteArray):Option zG:=
 (zI a1).bind fun x3=>
 (if x3==0 then
   (some a1.Down)
  else
   (some false)).bind fun v6=>
 (if v6 then
   (some 9)
  else
   (some x3)).bind fun v8=>
 if v8 !=0 then
  (some ({Code:=v8,zA:=({Files:=([]:List File),Budget:=0,Writes:=0,Stop:=0,Down:=false}:zA)}:zG))
 else
  ((yG a1).bind fun x10=>
  (wX x10 a2).bind fun x12=>
  (jI x12.2 x12.1).bind fun x14=>
  some x14)
noncomputable def vM (a1:zA) (a2:ByteArray):Option zG:=
 (yH a1 a2).bind fun x3=>
 some x3
noncomputable def zY (a1:ByteArray) (a2:ByteArray):Option Bool:=
 if decide ((a1.size:Int)≥(a2.size:Int)) then
  ((zFa a1 0 (a2.size:Int)).bind fun x4=>
  some (seq x4 a2))
 else
  (some false)
noncomputable def strings_HasPrefix (a1:ByteArray) (a2:ByteArray):Option Bool:=
 (zY a1 a2).bind fun x3=>
 some x3
noncomputable def wM (a1:zA) (a2:ByteArray) (s12:((List ByteArray)×Int)):Option (Lp ((List ByteArray)×Int) (List ByteArray)):=
 if decide (s12.2< (a1.Files.length:Int)) then
  ((idx a1.Files s12.2).bind fun x14=>
  (strings_HasPrefix x14.Path a2).bind fun x16=>
  (if x16 then
    ((app 16 s12.1 [x14.Path]).bind fun x19=>
    some x19)
   else
    (some s12.1)).bind fun v21=>
  some (Lp.go (v21,w64 (s12.2+1))))
 else
  (some (Lp.done s12.1))
noncomputable def wZ (a1:zA) (a2:ByteArray):((List ByteArray)×Int)→Option (List ByteArray):=loop (wM a1 a2)
noncomputable def wQ (a1:zA) (a2:ByteArray):Option (List ByteArray):=
 (wZ a1 a2 (([]:List ByteArray),0)).bind fun v22=>
 some v22
noncomputable def wI (a1:zA) (a2:ByteArray):Option yN:=
 (zI a1).bind fun x3=>
 if x3 !=0 then
  (some ({Code:=x3,Names:=([]:List ByteArray)}:yN))
 else
  ((wQ a1 a2).bind fun x6=>
  some ({Code:=0,Names:=x6}:yN))
noncomputable def uM (a1:(List ByteArray)) (a2:ByteArray) (s7:Int):Option (Lp Int (Fl Bool Unit)):=
 if decide (s7< (a1.length:Int)) then
  ((idx a1 s7).bind fun x9=>
  if seq x9 a2 then
   (some (Lp.done (Fl.ret true)))
  else
   (some (Lp.go (w64 (s7+1)))))
 else
  (some (Lp.done (Fl.nxt ())))
noncomputable def vX (a1:(List ByteArray)) (a2:ByteArray):Int→Option (Fl Bool Unit):=loop (uM a1 a2)
noncomputable def wB (a1:(List ByteArray)) (a2:ByteArray):Option Bool:=
 (vX a1 a2 0).bind (Fl.go some fun v12=>
 some false)
noncomputable def vL (a1:(List Int)):Option Bool:=
 (uQ a1).bind fun x2=>
 if x2 then
  (some true)
 else
  ((yZ a1).bind fun x5=>
  (xA x5.1 x5.2.1 x5.2.2).bind fun x7=>
  (if x7.Code==9 then
    (if !x5.1.Down then
     ((yD x5.1).bind fun x11=>
     some (x11==0))
    else
     (some false))
   else
    (some false)).bind fun v13=>
  if v13 then
   ((vE x7.zA (-1)).bind fun x15=>
   (yV x15.zA x5.2.1).bind fun x17=>
   (vB x5.1 x5.2.1).bind fun x19=>
   if x7.zA.Down then
    (if decide (x5.1.Stop≥0) then
     (if x17.Code==x19.Code then
      (if seq (b2s x17.File.Data) (b2s x19.File.Data) then
       ((yS x7.zA).bind fun x25=>
       (yS x5.1).bind fun x27=>
       some (x25.Value==x27.Value))
      else
       (some false))
     else
      (some false))
    else
     (some false))
   else
    (some false))
  else
   (if x7.Code !=0 then
    ((xX x5.1 x5.2.1 x5.2.2).bind fun x30=>
    some (x30.Code==x7.Code))
   else
    ((yV x7.zA x5.2.1).bind fun x32=>
    (vM x7.zA x5.2.1).bind fun x34=>
    (zI x7.zA).bind fun x36=>
    if x36==0 then
     (if x32.Code==0 then
      (if seq (b2s x32.File.Data) (b2s x5.2.2) then
       ((yS x7.zA).bind fun x41=>
       if decide (x41.Value≤x5.1.Budget) then
        ((wI x7.zA x5.2.1).bind fun x44=>
        (wB x44.Names x5.2.1).bind fun x46=>
        if x46 then
         (if x34.Code==9 then
          (some true)
         else
          (if x34.Code==0 then
           ((yV x34.zA x5.2.1).bind fun x51=>
           some (x51.Code==4))
          else
           (some false)))
        else
         (some false))
       else
        (some false))
      else
       (some false))
     else
      (some false))
    else
     (some false))))
end Go.Told

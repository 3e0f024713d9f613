import Derived.Test.YtbifnchjphefeaaGreatDoorImF
set_option linter.unusedVariables false
set_option maxRecDepth 4000
namespace Go.Told
open Go Go.Im

structure Version where
  A : Int
  B : Int
  C : Int
  deriving DecidableEq

def Version.enc (x : Version) : List D := [.sc (.int .i64 x.A), .sc (.int .i64 x.B), .sc (.int .i64 x.C)]

theorem Version.fl (x : Version) : flatC (Version.enc x) := (flatK flat_sc (flatK flat_sc (flatK flat_sc flatN)))

structure Term where
  Name : ByteArray
  Low : Version
  High : Version
  deriving DecidableEq

def Term.enc (x : Term) : List D := [.sc (.string x.Name), .sc (.int .i64 x.Low.A), .sc (.int .i64 x.Low.B), .sc (.int .i64 x.Low.C), .sc (.int .i64 x.High.A), .sc (.int .i64 x.High.B), .sc (.int .i64 x.High.C)]

theorem Term.fl (x : Term) : flatC (Term.enc x) := (flatK flat_sc (flatK flat_sc (flatK flat_sc (flatK flat_sc (flatK flat_sc (flatK flat_sc (flatK flat_sc flatN)))))))

structure File where
  Path : ByteArray
  Data : (List Int)
  deriving DecidableEq

def File.enc (o : Bool) (x : File) : List D := [.sc (.string x.Path), .s o 1 x.Data.length (x.Data.map eU8)]

theorem File.ro (o : Bool) (x : File) : D.ro.roC (File.enc o x) = File.enc false x := by
  simp only [File.enc, D.ro.roC, D.ro, roE_map (enc := eU8) (enc' := eU8) (fun _ => rfl)]

theorem File.fl (x : File) : flatC (File.enc true x) := (flatK flat_sc (flatK (flat_s (flatM (fun _ => (flatK flat_sc flatN)) _)) flatN))

structure Disk where
  Files : (List File)
  Budget : Int
  Writes : Int
  Stop : Int
  Down : Bool
  deriving DecidableEq

def Disk.enc (o : Bool) (x : Disk) : List D := [.s o 2 x.Files.length (x.Files.map (File.enc o)), .sc (.int .i64 x.Budget), .sc (.int .i64 x.Writes), .sc (.int .i64 x.Stop), .sc (.bool x.Down)]

theorem Disk.ro (o : Bool) (x : Disk) : D.ro.roC (Disk.enc o x) = Disk.enc false x := by
  simp only [Disk.enc, D.ro.roC, D.ro, roE_map (enc := (File.enc o)) (enc' := (File.enc false)) (File.ro o)]

theorem Disk.fl (x : Disk) : flatC (Disk.enc true x) := (flatK (flat_s (flatM (fun _ => (File.fl _)) _)) (flatK flat_sc (flatK flat_sc (flatK flat_sc (flatK flat_sc flatN)))))

structure AsksResult where
  Code : Int
  Asks : (List Term)
  deriving DecidableEq

def AsksResult.enc (o : Bool) (x : AsksResult) : List D := [.sc (.int .i64 x.Code), .s o 7 x.Asks.length (x.Asks.map Term.enc)]

theorem AsksResult.ro (o : Bool) (x : AsksResult) : D.ro.roC (AsksResult.enc o x) = AsksResult.enc false x := by
  simp only [AsksResult.enc, D.ro.roC, D.ro, roE_map (enc := Term.enc) (enc' := Term.enc) (fun _ => rfl)]

theorem AsksResult.fl (x : AsksResult) : flatC (AsksResult.enc true x) := (flatK flat_sc (flatK (flat_s (flatM (fun _ => (Term.fl _)) _)) flatN))

structure TermResult where
  Code : Int
  Term : Term
  deriving DecidableEq

def TermResult.enc (x : TermResult) : List D := [.sc (.int .i64 x.Code), .sc (.string x.Term.Name), .sc (.int .i64 x.Term.Low.A), .sc (.int .i64 x.Term.Low.B), .sc (.int .i64 x.Term.Low.C), .sc (.int .i64 x.Term.High.A), .sc (.int .i64 x.Term.High.B), .sc (.int .i64 x.Term.High.C)]

theorem TermResult.fl (x : TermResult) : flatC (TermResult.enc x) := (flatK flat_sc (flatK flat_sc (flatK flat_sc (flatK flat_sc (flatK flat_sc (flatK flat_sc (flatK flat_sc (flatK flat_sc flatN))))))))

structure VersionResult where
  Code : Int
  Version : Version
  deriving DecidableEq

def VersionResult.enc (x : VersionResult) : List D := [.sc (.int .i64 x.Code), .sc (.int .i64 x.Version.A), .sc (.int .i64 x.Version.B), .sc (.int .i64 x.Version.C)]

theorem VersionResult.fl (x : VersionResult) : flatC (VersionResult.enc x) := (flatK flat_sc (flatK flat_sc (flatK flat_sc (flatK flat_sc flatN))))

noncomputable def laws_szByteS (a1 : (List Int)) (a2 : Int) : Option Int :=
  if decide ((w64 (a2 - (a1.length : Int))) < 0) then
    (some (-1))
  else
    (some (w64 (a2 - (a1.length : Int))))

noncomputable def laws_szFile (a1 : File) (a2 : Int) : Option Int :=
  if decide ((w64 (a2 - (a1.Path.size : Int))) < 0) then
    (some (-1))
  else
    ((laws_szByteS a1.Data (w64 (a2 - (a1.Path.size : Int)))).bind fun x4 =>
    if decide (x4 < 0) then
      (some (-1))
    else
      (some x4))

noncomputable def laws_szFileS_l1b (a1 : (List File)) (s10 : (Int × Int)) : Option (Lp (Int × Int) (Fl Int Int)) :=
  if decide (s10.2 < (a1.length : Int)) then
    ((idx a1 s10.2).bind fun x12 =>
    (laws_szFile x12 s10.1).bind fun x14 =>
    if decide (x14 < 0) then
      (some (Lp.done (Fl.ret (-1))))
    else
      (some (Lp.go (x14, w64 (s10.2 + 1)))))
  else
    (some (Lp.done (Fl.nxt s10.1)))

noncomputable def laws_szFileS_l1 (a1 : (List File)) : (Int × Int) → Option (Fl Int Int) := loop (laws_szFileS_l1b a1)

noncomputable def laws_szFileS (a1 : (List File)) (a2 : Int) : Option Int :=
  if decide ((w64 (a2 - (a1.length : Int))) < 0) then
    (some (-1))
  else
    ((laws_szFileS_l1 a1 (w64 (a2 - (a1.length : Int)), 0)).bind (Fl.go some fun v17 =>
    some v17))

noncomputable def laws_szDisk (a1 : Disk) (a2 : Int) : Option Int :=
  (laws_szFileS a1.Files a2).bind fun x3 =>
  if decide (x3 < 0) then
    (some (-1))
  else
    (some x3)

noncomputable def laws_toByteS_l1b (a1 : (List Int)) (s9 : ((List Int) × Int)) : Option (Lp ((List Int) × Int) (List Int)) :=
  if decide (s9.2 < (a1.length : Int)) then
    ((idx a1 s9.2).bind fun x11 =>
    (idx s9.1 s9.2).bind fun x13 =>
    some (Lp.go (s9.1.set s9.2.toNat x11, w64 (s9.2 + 1))))
  else
    (some (Lp.done s9.1))

noncomputable def laws_toByteS_l1 (a1 : (List Int)) : ((List Int) × Int) → Option (List Int) := loop (laws_toByteS_l1b a1)

noncomputable def laws_toByteS (a1 : (List Int)) : Option (List Int) :=
  (mk 1 (a1.length : Int) 0).bind fun x2 =>
  (laws_toByteS_l1 a1 (x2, 0)).bind fun v15 =>
  some v15

noncomputable def laws_toFile (a1 : File) : Option File :=
  (laws_toByteS a1.Data).bind fun x2 =>
  some ({ Path := a1.Path, Data := x2 } : File)

noncomputable def laws_toFileS_l1b (a1 : (List File)) (s11 : ((List File) × Int)) : Option (Lp ((List File) × Int) (List File)) :=
  if decide (s11.2 < (a1.length : Int)) then
    ((idx a1 s11.2).bind fun x13 =>
    (laws_toFile x13).bind fun x15 =>
    (idx s11.1 s11.2).bind fun x17 =>
    some (Lp.go (s11.1.set s11.2.toNat x15, w64 (s11.2 + 1))))
  else
    (some (Lp.done s11.1))

noncomputable def laws_toFileS_l1 (a1 : (List File)) : ((List File) × Int) → Option (List File) := loop (laws_toFileS_l1b a1)

noncomputable def laws_toFileS (a1 : (List File)) : Option (List File) :=
  (mk 40 (a1.length : Int) ({ Path := ByteArray.empty, Data := ([] : List Int) } : File)).bind fun x2 =>
  (laws_toFileS_l1 a1 (x2, 0)).bind fun v19 =>
  some v19

noncomputable def laws_toDisk (a1 : Disk) : Option Disk :=
  (laws_toFileS a1.Files).bind fun x2 =>
  some ({ Files := x2, Budget := a1.Budget, Writes := a1.Writes, Stop := a1.Stop, Down := a1.Down } : Disk)

noncomputable def spec_l1In (a1 : Int) (a2 : Int) (a3 : Int) : Option Bool :=
  if decide (a1 ≥ a2) then
    (some (decide (a1 ≤ a3)))
  else
    (some false)

noncomputable def spec_l1Letter (a1 : Int) : Option Bool :=
  if decide (a1 ≥ 97) then
    (some (decide (a1 ≤ 122)))
  else
    (some false)

noncomputable def spec_l1Digit (a1 : Int) : Option Bool :=
  if decide (a1 ≥ 48) then
    (some (decide (a1 ≤ 57)))
  else
    (some false)

noncomputable def spec_l1Name (a1 : Int) : Option Bool :=
  (spec_l1Letter a1).bind fun x2 =>
  if x2 then
    (some true)
  else
    ((spec_l1Digit a1).bind fun x5 =>
    if x5 then
      (some true)
    else
      (some (a1 == 95)))

noncomputable def spec_l7Byte (a1 : Int) : Option Bool :=
  (spec_l1Name a1).bind fun x2 =>
  if x2 then
    (some true)
  else
    (if a1 == 46 then
      (some true)
    else
      (if a1 == 45 then
        (some true)
      else
        (some (a1 == 47))))

noncomputable def spec_PathFault_l1b (a1 : ByteArray) (s11 : Int) : Option (Lp Int (Fl Int Unit)) :=
  if decide (s11 < (a1.size : Int)) then
    ((bidx a1 s11).bind fun x13 =>
    (spec_l7Byte x13).bind fun x15 =>
    if !x15 then
      (some (Lp.done (Fl.ret 5)))
    else
      (some (Lp.go (w64 (s11 + 1)))))
  else
    (some (Lp.done (Fl.nxt ())))

noncomputable def spec_PathFault_l1 (a1 : ByteArray) : Int → Option (Fl Int Unit) := loop (spec_PathFault_l1b a1)

noncomputable def spec_PathFault (a1 : ByteArray) : Option Int :=
  (if decide ((a1.size : Int) < 1) then
      (some true)
    else
      (some (decide ((a1.size : Int) > 40)))).bind fun v3 =>
  if v3 then
    (some 5)
  else
    ((spec_PathFault_l1 a1 0).bind (Fl.go some fun v18 =>
    some 0))

noncomputable def spec_l7Total_l1b (a1 : Disk) (s5 : (Int × Int)) : Option (Lp (Int × Int) Int) :=
  if decide (s5.2 < (a1.Files.length : Int)) then
    ((idx a1.Files s5.2).bind fun x7 =>
    some (Lp.go (w64 (s5.1 + (x7.Data.length : Int)), w64 (s5.2 + 1))))
  else
    (some (Lp.done s5.1))

noncomputable def spec_l7Total_l1 (a1 : Disk) : (Int × Int) → Option Int := loop (spec_l7Total_l1b a1)

noncomputable def spec_l7Total (a1 : Disk) : Option Int :=
  (spec_l7Total_l1 a1 (0, 0)).bind fun v9 =>
  some v9

noncomputable def spec_DiskFault_l1b (a1 : Disk) (s29 : Int) : Option (Lp Int (Fl Int Unit)) :=
  if decide (s29 < (a1.Files.length : Int)) then
    ((idx a1.Files s29).bind fun x31 =>
    (spec_PathFault x31.Path).bind fun x33 =>
    if x33 != 0 then
      (some (Lp.done (Fl.ret x33)))
    else
      ((if decide (s29 > 0) then
          ((idx a1.Files s29).bind fun x37 =>
          (idx a1.Files (w64 (s29 - 1))).bind fun x39 =>
          some (slt x37.Path x39.Path || seq x37.Path x39.Path))
        else
          (some false)).bind fun v41 =>
      if v41 then
        (some (Lp.done (Fl.ret 1)))
      else
        ((idx a1.Files s29).bind fun x43 =>
        if decide ((x43.Data.length : Int) > 4000) then
          (some (Lp.done (Fl.ret 2)))
        else
          (some (Lp.go (w64 (s29 + 1)))))))
  else
    (some (Lp.done (Fl.nxt ())))

noncomputable def spec_DiskFault_l1 (a1 : Disk) : Int → Option (Fl Int Unit) := loop (spec_DiskFault_l1b a1)

noncomputable def spec_DiskFault (a1 : Disk) : Option Int :=
  (spec_l1In a1.Budget 0 20000).bind fun x2 =>
  (if !x2 then
      (some true)
    else
      ((spec_l1In a1.Writes 0 1000000000).bind fun x5 =>
      if !x5 then
        (some true)
      else
        ((spec_l1In a1.Stop (-1) 1000000000).bind fun x8 =>
        some (!x8)))).bind fun v10 =>
  if v10 then
    (some 3)
  else
    (if decide ((a1.Files.length : Int) > 120) then
      (some 2)
    else
      ((spec_DiskFault_l1 a1 0).bind (Fl.go some fun v46 =>
      (spec_l7Total a1).bind fun x47 =>
      if decide (x47 > a1.Budget) then
        (some 8)
      else
        (some 0))))

noncomputable def spec_l7Find_l1b (a1 : Disk) (a2 : ByteArray) (s7 : Int) : Option (Lp Int (Fl Int Unit)) :=
  if decide (s7 < (a1.Files.length : Int)) then
    ((idx a1.Files s7).bind fun x9 =>
    if seq x9.Path a2 then
      (some (Lp.done (Fl.ret s7)))
    else
      (some (Lp.go (w64 (s7 + 1)))))
  else
    (some (Lp.done (Fl.nxt ())))

noncomputable def spec_l7Find_l1 (a1 : Disk) (a2 : ByteArray) : Int → Option (Fl Int Unit) := loop (spec_l7Find_l1b a1 a2)

noncomputable def spec_l7Find (a1 : Disk) (a2 : ByteArray) : Option Int :=
  (spec_l7Find_l1 a1 a2 0).bind (Fl.go some fun v12 =>
  some (-1))

noncomputable def spec_l1Parts_l1b (a1 : ByteArray) (a2 : Int) (s14 : ((List ByteArray) × Int × Int)) : Option (Lp ((List ByteArray) × Int × Int) (List ByteArray)) :=
  if decide (s14.2.2 ≤ (a1.size : Int)) then
    ((if s14.2.2 == (a1.size : Int) then
        (some true)
      else
        ((bidx a1 s14.2.2).bind fun x17 =>
        some (x17 == a2))).bind fun v19 =>
    (if v19 then
        ((ssub a1 s14.2.1 s14.2.2).bind fun x21 =>
        (app 16 s14.1 [x21]).bind fun x23 =>
        some (x23, w64 (s14.2.2 + 1)))
      else
        (some (s14.1, s14.2.1))).bind fun v25 =>
    some (Lp.go (v25.1, v25.2, w64 (s14.2.2 + 1))))
  else
    (some (Lp.done s14.1))

noncomputable def spec_l1Parts_l1 (a1 : ByteArray) (a2 : Int) : ((List ByteArray) × Int × Int) → Option (List ByteArray) := loop (spec_l1Parts_l1b a1 a2)

noncomputable def spec_l1Parts (a1 : ByteArray) (a2 : Int) : Option (List ByteArray) :=
  (spec_l1Parts_l1 a1 a2 (([] : List ByteArray), 0, 0)).bind fun v26 =>
  some v26

noncomputable def spec_l2Lines (a1 : ByteArray) : Option (List ByteArray) :=
  (spec_l1Parts a1 10).bind fun x2 =>
  (idx x2 (w64 ((x2.length : Int) - 1))).bind fun x4 =>
  (if seq x4 (bs []) then
      ((lsub x2 0 (w64 ((x2.length : Int) - 1))).bind fun x7 =>
      some x7)
    else
      (some x2)).bind fun v9 =>
  some v9

noncomputable def spec_l1Top  : Option Version :=
  some ({ A := 1000, B := 0, C := 0 } : Version)

noncomputable def spec_AnyTerm (a1 : ByteArray) : Option Term :=
  (spec_l1Top).bind fun x2 =>
  some ({ Name := a1, Low := ({ A := 0, B := 0, C := 0 } : Version), High := x2 } : Term)

noncomputable def spec_NameFault_l1b (a1 : ByteArray) (s16 : Int) : Option (Lp Int (Fl Int Unit)) :=
  if decide (s16 < (a1.size : Int)) then
    ((bidx a1 s16).bind fun x18 =>
    (spec_l1Name x18).bind fun x20 =>
    if !x20 then
      (some (Lp.done (Fl.ret 5)))
    else
      (some (Lp.go (w64 (s16 + 1)))))
  else
    (some (Lp.done (Fl.nxt ())))

noncomputable def spec_NameFault_l1 (a1 : ByteArray) : Int → Option (Fl Int Unit) := loop (spec_NameFault_l1b a1)

noncomputable def spec_NameFault (a1 : ByteArray) : Option Int :=
  (if decide ((a1.size : Int) < 1) then
      (some true)
    else
      (if decide ((a1.size : Int) > 12) then
        (some true)
      else
        ((bidx a1 0).bind fun x4 =>
        (spec_l1Letter x4).bind fun x6 =>
        some (!x6)))).bind fun v8 =>
  if v8 then
    (some 5)
  else
    ((spec_NameFault_l1 a1 0).bind (Fl.go some fun v23 =>
    some 0))

noncomputable def spec_l1Number_l1b (a1 : ByteArray) (s14 : (Int × Int)) : Option (Lp (Int × Int) (Fl (Int × Bool) Int)) :=
  if decide (s14.2 < (a1.size : Int)) then
    ((bidx a1 s14.2).bind fun x16 =>
    (spec_l1Digit x16).bind fun x18 =>
    if !x18 then
      (some (Lp.done (Fl.ret (0, false))))
    else
      ((bidx a1 s14.2).bind fun x21 =>
      some (Lp.go (w64 ((w64 (s14.1 * 10)) + (w64 (IntKind.u8.wrap (x21 - 48)))), w64 (s14.2 + 1)))))
  else
    (some (Lp.done (Fl.nxt s14.1)))

noncomputable def spec_l1Number_l1 (a1 : ByteArray) : (Int × Int) → Option (Fl (Int × Bool) Int) := loop (spec_l1Number_l1b a1)

noncomputable def spec_l1Number (a1 : ByteArray) (a2 : Int) : Option (Int × Bool) :=
  (if decide ((a1.size : Int) < 1) then
      (some true)
    else
      (some (decide ((a1.size : Int) > a2)))).bind fun v4 =>
  if v4 then
    (some (0, false))
  else
    ((spec_l1Number_l1 a1 (0, 0)).bind (Fl.go some fun v23 =>
    some (v23, true)))

noncomputable def spec_ParseVersion_l1b (x2 : (List ByteArray)) (s13 : ((List Int) × Int)) : Option (Lp ((List Int) × Int) (Fl VersionResult (List Int))) :=
  if decide (s13.2 < (x2.length : Int)) then
    ((idx x2 s13.2).bind fun x15 =>
    (spec_l1Number x15 3).bind fun x17 =>
    if !x17.2 then
      (some (Lp.done (Fl.ret ({ Code := 5, Version := ({ A := 0, B := 0, C := 0 } : Version) } : VersionResult))))
    else
      ((idx s13.1 s13.2).bind fun x20 =>
      some (Lp.go (s13.1.set s13.2.toNat x17.1, w64 (s13.2 + 1)))))
  else
    (some (Lp.done (Fl.nxt s13.1)))

noncomputable def spec_ParseVersion_l1 (x2 : (List ByteArray)) : ((List Int) × Int) → Option (Fl VersionResult (List Int)) := loop (spec_ParseVersion_l1b x2)

noncomputable def spec_ParseVersion (a1 : ByteArray) : Option VersionResult :=
  (spec_l1Parts a1 46).bind fun x2 =>
  if decide ((x2.length : Int) > 3) then
    (some ({ Code := 5, Version := ({ A := 0, B := 0, C := 0 } : Version) } : VersionResult))
  else
    ((spec_ParseVersion_l1 x2 ([0, 0, 0], 0)).bind (Fl.go some fun v22 =>
    (idx v22 0).bind fun x23 =>
    (idx v22 1).bind fun x25 =>
    (idx v22 2).bind fun x27 =>
    some ({ Code := 0, Version := ({ A := x23, B := x25, C := x27 } : Version) } : VersionResult)))

noncomputable def spec_VersionFault (a1 : Version) : Option Int :=
  (spec_l1In a1.A 0 999).bind fun x2 =>
  (if !x2 then
      (some true)
    else
      ((spec_l1In a1.B 0 999).bind fun x5 =>
      if !x5 then
        (some true)
      else
        ((spec_l1In a1.C 0 999).bind fun x8 =>
        some (!x8)))).bind fun v10 =>
  if v10 then
    (some 3)
  else
    (some 0)

noncomputable def spec_l1Sign (a1 : Int) (a2 : Int) : Option Int :=
  if decide (a1 < a2) then
    (some (-1))
  else
    (if decide (a1 > a2) then
      (some 1)
    else
      (some 0))

noncomputable def spec_CompareVersions (a1 : Version) (a2 : Version) : Option Int :=
  (spec_l1Sign a1.A a2.A).bind fun x3 =>
  if x3 != 0 then
    (some x3)
  else
    ((spec_l1Sign a1.B a2.B).bind fun x6 =>
    if x6 != 0 then
      (some x6)
    else
      ((spec_l1Sign a1.C a2.C).bind fun x9 =>
      some x9))

noncomputable def spec_TermFault (a1 : Term) : Option Int :=
  (spec_NameFault a1.Name).bind fun x2 =>
  if x2 != 0 then
    (some x2)
  else
    ((spec_VersionFault a1.Low).bind fun x5 =>
    if x5 != 0 then
      (some x5)
    else
      ((spec_l1Top).bind fun x8 =>
      (if !(a1.High.A == x8.A && (a1.High.B == x8.B && (a1.High.C == x8.C && true))) then
          ((spec_VersionFault a1.High).bind fun x11 =>
          some (x11 != 0))
        else
          (some false)).bind fun v13 =>
      if v13 then
        (some 3)
      else
        ((spec_CompareVersions a1.Low a1.High).bind fun x15 =>
        if decide (x15 ≥ 0) then
          (some 1)
        else
          (some 0))))

noncomputable def spec_ParseTerm_l2b (x20 : Term) (x25 : ByteArray) (s32 : Int) : Option (Lp Int Int) :=
  (if decide (s32 < (x25.size : Int)) then
      ((bidx x25 s32).bind fun x34 =>
      some (x34 != 60))
    else
      (some false)).bind fun v36 =>
  if v36 then
    (some (Lp.go (w64 (s32 + 1))))
  else
    (some (Lp.done s32))

noncomputable def spec_ParseTerm_l2 (x20 : Term) (x25 : ByteArray) : Int → Option Int := loop (spec_ParseTerm_l2b x20 x25)

noncomputable def spec_ParseTerm_l1b (a1 : ByteArray) (s9 : Int) : Option (Lp Int Int) :=
  (if decide (s9 < (a1.size : Int)) then
      ((bidx a1 s9).bind fun x11 =>
      (spec_l1Name x11).bind fun x13 =>
      some x13)
    else
      (some false)).bind fun v15 =>
  if v15 then
    (some (Lp.go (w64 (s9 + 1))))
  else
    (some (Lp.done s9))

noncomputable def spec_ParseTerm_l1 (a1 : ByteArray) : Int → Option Int := loop (spec_ParseTerm_l1b a1)

noncomputable def spec_ParseTerm (a1 : ByteArray) : Option TermResult :=
  (spec_ParseTerm_l1 a1 0).bind fun v17 =>
  (ssub a1 0 v17).bind fun x18 =>
  (spec_AnyTerm x18).bind fun x20 =>
  (spec_NameFault x20.Name).bind fun x22 =>
  if x22 != 0 then
    (some ({ Code := 5, Term := ({ Name := ByteArray.empty, Low := ({ A := 0, B := 0, C := 0 } : Version), High := ({ A := 0, B := 0, C := 0 } : Version) } : Term) } : TermResult))
  else
    ((ssub a1 v17 (a1.size : Int)).bind fun x25 =>
    (spec_ParseTerm_l2 x20 x25 0).bind fun v38 =>
    (if decide (v38 < (x25.size : Int)) then
        ((ssub x25 (w64 (v38 + 1)) (x25.size : Int)).bind fun x40 =>
        (spec_ParseVersion x40).bind fun x42 =>
        if x42.Code != 0 then
          (some (Fl.ret ({ Code := 5, Term := ({ Name := ByteArray.empty, Low := ({ A := 0, B := 0, C := 0 } : Version), High := ({ A := 0, B := 0, C := 0 } : Version) } : Term) } : TermResult)))
        else
          (some (Fl.nxt (x42.Version.A, x42.Version.B, x42.Version.C))))
      else
        (some (Fl.nxt (x20.High.A, x20.High.B, x20.High.C)))).bind (Fl.go some fun v45 =>
    (ssub x25 0 v38).bind fun x46 =>
    (if !(seq x46 (bs [])) then
        ((if decide ((x46.size : Int) < 2) then
            (some true)
          else
            ((ssub x46 0 2).bind fun x50 =>
            some (!(seq x50 (bs [62, 61]))))).bind fun v52 =>
        if v52 then
          (some (Fl.ret ({ Code := 5, Term := ({ Name := ByteArray.empty, Low := ({ A := 0, B := 0, C := 0 } : Version), High := ({ A := 0, B := 0, C := 0 } : Version) } : Term) } : TermResult)))
        else
          ((ssub x46 2 (x46.size : Int)).bind fun x54 =>
          (spec_ParseVersion x54).bind fun x56 =>
          if x56.Code != 0 then
            (some (Fl.ret ({ Code := 5, Term := ({ Name := ByteArray.empty, Low := ({ A := 0, B := 0, C := 0 } : Version), High := ({ A := 0, B := 0, C := 0 } : Version) } : Term) } : TermResult)))
          else
            (some (Fl.nxt (x56.Version.A, x56.Version.B, x56.Version.C)))))
      else
        (some (Fl.nxt (x20.Low.A, x20.Low.B, x20.Low.C)))).bind (Fl.go some fun v59 =>
    (spec_TermFault ({ Name := x20.Name, Low := ({ A := v59.1, B := v59.2.1, C := v59.2.2 } : Version), High := ({ A := v45.1, B := v45.2.1, C := v45.2.2 } : Version) } : Term)).bind fun x60 =>
    if x60 != 0 then
      (some ({ Code := x60, Term := ({ Name := ByteArray.empty, Low := ({ A := 0, B := 0, C := 0 } : Version), High := ({ A := 0, B := 0, C := 0 } : Version) } : Term) } : TermResult))
    else
      (some ({ Code := 0, Term := ({ Name := x20.Name, Low := ({ A := v59.1, B := v59.2.1, C := v59.2.2 } : Version), High := ({ A := v45.1, B := v45.2.1, C := v45.2.2 } : Version) } : Term) } : TermResult)))))

noncomputable def spec_l1Decimal_r (g : Int → Option ByteArray) (s : Int) : Option ByteArray :=
  match s with
  | a1 =>
  if decide (a1 < 10) then
    (some (b2s [IntKind.u8.wrap (w64 (48 + a1))]))
  else
    ((g (w64 (a1.tdiv 10))).bind fun x3 =>
    (cat x3 (b2s [IntKind.u8.wrap (w64 (48 + (a1.tmod 10)))])).bind fun x5 =>
    some x5)

noncomputable def spec_l1Decimal (a1 : Int) : Option ByteArray := recF spec_l1Decimal_r 64 a1

noncomputable def spec_FormatVersion (a1 : Version) : Option ByteArray :=
  (spec_VersionFault a1).bind fun x2 =>
  if x2 != 0 then
    (some (bs []))
  else
    ((spec_l1Decimal a1.A).bind fun x5 =>
    (cat x5 (bs [46])).bind fun x7 =>
    (spec_l1Decimal a1.B).bind fun x9 =>
    (cat x7 x9).bind fun x11 =>
    (cat x11 (bs [46])).bind fun x13 =>
    (spec_l1Decimal a1.C).bind fun x15 =>
    (cat x13 x15).bind fun x17 =>
    some x17)

noncomputable def spec_FormatTerm (a1 : Term) : Option ByteArray :=
  (spec_TermFault a1).bind fun x2 =>
  if x2 != 0 then
    (some (bs []))
  else
    ((spec_CompareVersions a1.Low ({ A := 0, B := 0, C := 0 } : Version)).bind fun x5 =>
    (if x5 != 0 then
        ((cat a1.Name (bs [62, 61])).bind fun x8 =>
        (spec_FormatVersion a1.Low).bind fun x10 =>
        (cat x8 x10).bind fun x12 =>
        some x12)
      else
        (some a1.Name)).bind fun v14 =>
    (spec_l1Top).bind fun x15 =>
    (if !(a1.High.A == x15.A && (a1.High.B == x15.B && (a1.High.C == x15.C && true))) then
        ((cat v14 (bs [60])).bind fun x18 =>
        (spec_FormatVersion a1.High).bind fun x20 =>
        (cat x18 x20).bind fun x22 =>
        some x22)
      else
        (some v14)).bind fun v24 =>
    some v24)

noncomputable def spec_l8Text_l1b (a1 : (List Term)) (s11 : (ByteArray × Int)) : Option (Lp (ByteArray × Int) ByteArray) :=
  if decide (s11.2 < (a1.length : Int)) then
    ((idx a1 s11.2).bind fun x13 =>
    (spec_FormatTerm x13).bind fun x15 =>
    (cat s11.1 x15).bind fun x17 =>
    (cat x17 (bs [10])).bind fun x19 =>
    some (Lp.go (x19, w64 (s11.2 + 1))))
  else
    (some (Lp.done s11.1))

noncomputable def spec_l8Text_l1 (a1 : (List Term)) : (ByteArray × Int) → Option ByteArray := loop (spec_l8Text_l1b a1)

noncomputable def spec_l8Text (a1 : (List Term)) : Option ByteArray :=
  (spec_l8Text_l1 a1 (bs [], 0)).bind fun v21 =>
  some v21

noncomputable def spec_l8Roots_l1b (a1 : ByteArray) (x2 : (List ByteArray)) (s22 : ((List Term) × Int)) (x26 : TermResult) (s33 : Int) : Option (Lp Int (Fl ((List Term) × Bool) Unit)) :=
  if decide (s33 < (s22.1.length : Int)) then
    ((idx s22.1 s33).bind fun x35 =>
    if seq x35.Name x26.Term.Name then
      (some (Lp.done (Fl.ret (s22.1, false))))
    else
      (some (Lp.go (w64 (s33 + 1)))))
  else
    (some (Lp.done (Fl.nxt ())))

noncomputable def spec_l8Roots_l1 (a1 : ByteArray) (x2 : (List ByteArray)) (s22 : ((List Term) × Int)) (x26 : TermResult) : Int → Option (Fl ((List Term) × Bool) Unit) := loop (spec_l8Roots_l1b a1 x2 s22 x26)

noncomputable def spec_l8Roots_l2b (a1 : ByteArray) (x2 : (List ByteArray)) (s22 : ((List Term) × Int)) : Option (Lp ((List Term) × Int) (Fl ((List Term) × Bool) (List Term))) :=
  if decide (s22.2 < (x2.length : Int)) then
    ((idx x2 s22.2).bind fun x24 =>
    (spec_ParseTerm x24).bind fun x26 =>
    if x26.Code != 0 then
      (some (Lp.done (Fl.ret (s22.1, false))))
    else
      ((spec_l8Roots_l1 a1 x2 s22 x26 0).bind (Fl.go (fun r => some (Lp.done (Fl.ret r))) fun v38 =>
      (app 64 s22.1 [x26.Term]).bind fun x39 =>
      some (Lp.go (x39, w64 (s22.2 + 1))))))
  else
    (some (Lp.done (Fl.nxt s22.1)))

noncomputable def spec_l8Roots_l2 (a1 : ByteArray) (x2 : (List ByteArray)) : ((List Term) × Int) → Option (Fl ((List Term) × Bool) (List Term)) := loop (spec_l8Roots_l2b a1 x2)

noncomputable def spec_l8Roots (a1 : ByteArray) : Option ((List Term) × Bool) :=
  (spec_l2Lines a1).bind fun x2 =>
  (spec_l8Roots_l2 a1 x2 (([] : List Term), 0)).bind (Fl.go some fun v41 =>
  if decide ((v41.length : Int) ≤ 8) then
    ((spec_l8Text v41).bind fun x43 =>
    some (v41, seq x43 a1))
  else
    (some (v41, false)))

noncomputable def spec_l8Asks (a1 : Disk) : Option ((List Term) × Bool) :=
  (spec_l7Find a1 (bs [114, 111, 111, 116, 115])).bind fun x2 =>
  if decide (x2 < 0) then
    (some (([] : List Term), true))
  else
    ((idx a1.Files x2).bind fun x5 =>
    (spec_l8Roots (b2s x5.Data)).bind fun x7 =>
    some (x7.1, x7.2))

noncomputable def spec_RootsOf (a1 : Disk) : Option AsksResult :=
  (spec_DiskFault a1).bind fun x2 =>
  if x2 != 0 then
    (some ({ Code := x2, Asks := ([] : List Term) } : AsksResult))
  else
    ((spec_l8Asks a1).bind fun x5 =>
    if !x5.2 then
      (some ({ Code := 5, Asks := ([] : List Term) } : AsksResult))
    else
      (some ({ Code := 0, Asks := x5.1 } : AsksResult)))

noncomputable def impl_within (a1 : Int) (a2 : Int) (a3 : Int) : Option Bool :=
  if decide (a2 ≤ a1) then
    (some (decide (a1 ≤ a3)))
  else
    (some false)

noncomputable def impl_isNameByte (a1 : Int) : Option Bool :=
  if decide (a1 ≥ 97) then
    (if decide (a1 ≤ 122) then
      (some true)
    else
      (if decide (a1 ≥ 48) then
        (if decide (a1 ≤ 57) then
          (some true)
        else
          (some (a1 == 95)))
      else
        (some (a1 == 95))))
  else
    (if decide (a1 ≥ 48) then
      (if decide (a1 ≤ 57) then
        (some true)
      else
        (some (a1 == 95)))
    else
      (some (a1 == 95)))

noncomputable def impl_PathFault_l1b (a1 : ByteArray) (s15 : Int) : Option (Lp Int (Fl Int Unit)) :=
  if decide (s15 < (a1.size : Int)) then
    ((bidx a1 s15).bind fun x17 =>
    (impl_isNameByte x17).bind fun x19 =>
    (if !x19 then
        (if x17 != 46 then
          (if x17 != 45 then
            (some (x17 != 47))
          else
            (some false))
        else
          (some false))
      else
        (some false)).bind fun v24 =>
    if v24 then
      (some (Lp.done (Fl.ret 5)))
    else
      (some (Lp.go (w64 (s15 + 1)))))
  else
    (some (Lp.done (Fl.nxt ())))

noncomputable def impl_PathFault_l1 (a1 : ByteArray) : Int → Option (Fl Int Unit) := loop (impl_PathFault_l1b a1)

noncomputable def impl_PathFault (a1 : ByteArray) : Option Int :=
  (if decide ((a1.size : Int) < 1) then
      (some true)
    else
      (some (decide ((a1.size : Int) > 40)))).bind fun v3 =>
  if v3 then
    (some 5)
  else
    ((impl_PathFault_l1 a1 0).bind (Fl.go some fun v26 =>
    some 0))

noncomputable def impl_Disk_total_l1b (a1 : Disk) (s5 : (Int × Int)) : Option (Lp (Int × Int) Int) :=
  if decide (s5.2 < (a1.Files.length : Int)) then
    ((idx a1.Files s5.2).bind fun x7 =>
    some (Lp.go (w64 (s5.1 + (x7.Data.length : Int)), w64 (s5.2 + 1))))
  else
    (some (Lp.done s5.1))

noncomputable def impl_Disk_total_l1 (a1 : Disk) : (Int × Int) → Option Int := loop (impl_Disk_total_l1b a1)

noncomputable def impl_Disk_total (a1 : Disk) : Option Int :=
  (impl_Disk_total_l1 a1 (0, 0)).bind fun v9 =>
  some v9

noncomputable def impl_DiskFault_l1b (a1 : Disk) (s25 : Int) : Option (Lp Int (Fl Int Unit)) :=
  if decide (s25 < (a1.Files.length : Int)) then
    ((idx a1.Files s25).bind fun x27 =>
    (impl_PathFault x27.Path).bind fun x29 =>
    if x29 != 0 then
      (some (Lp.done (Fl.ret x29)))
    else
      ((if decide (s25 > 0) then
          ((idx a1.Files (w64 (s25 - 1))).bind fun x33 =>
          some (slt x27.Path x33.Path || seq x27.Path x33.Path))
        else
          (some false)).bind fun v35 =>
      if v35 then
        (some (Lp.done (Fl.ret 1)))
      else
        (if decide ((x27.Data.length : Int) > 4000) then
          (some (Lp.done (Fl.ret 2)))
        else
          (some (Lp.go (w64 (s25 + 1)))))))
  else
    (some (Lp.done (Fl.nxt ())))

noncomputable def impl_DiskFault_l1 (a1 : Disk) : Int → Option (Fl Int Unit) := loop (impl_DiskFault_l1b a1)

noncomputable def impl_DiskFault (a1 : Disk) : Option Int :=
  (impl_within a1.Budget 0 20000).bind fun x2 =>
  (if !x2 then
      (some true)
    else
      ((impl_within a1.Writes 0 1000000000).bind fun x5 =>
      if !x5 then
        (some true)
      else
        ((impl_within a1.Stop (-1) 1000000000).bind fun x8 =>
        some (!x8)))).bind fun v10 =>
  if v10 then
    (some 3)
  else
    (if decide ((a1.Files.length : Int) > 120) then
      (some 2)
    else
      ((impl_DiskFault_l1 a1 0).bind (Fl.go some fun v38 =>
      (impl_Disk_total a1).bind fun x39 =>
      if decide (x39 > a1.Budget) then
        (some 8)
      else
        (some 0))))

noncomputable def bytealg_CompareString (a1 a2 : ByteArray) : Option Int := some (cmpB a1 a2)

noncomputable def strings_Compare (a1 : ByteArray) (a2 : ByteArray) : Option Int :=
  (bytealg_CompareString a1 a2).bind fun x3 =>
  some x3

noncomputable def impl_Disk_place_1 (a1 : File) (a2 : ByteArray) : Option Int :=
  (strings_Compare a1.Path a2).bind fun x3 =>
  some x3

noncomputable def slices_BinarySearchFunc_LimplFile_impl_Disk_place_1_l1b (a1 : (List File)) (a2 : ByteArray) (s9 : (Int × Int)) : Option (Lp (Int × Int) Int) :=
  if decide (s9.1 < s9.2) then
    ((idx a1 (w64 ((IntKind.u64.wrap (w64 (s9.1 + s9.2))).fdiv (2 ^ (min (1 : Int).toNat 64))))).bind fun x11 =>
    (impl_Disk_place_1 x11 a2).bind fun x13 =>
    if decide (x13 < 0) then
      (some (Lp.go (w64 ((w64 ((IntKind.u64.wrap (w64 (s9.1 + s9.2))).fdiv (2 ^ (min (1 : Int).toNat 64)))) + 1), s9.2)))
    else
      (some (Lp.go (s9.1, w64 ((IntKind.u64.wrap (w64 (s9.1 + s9.2))).fdiv (2 ^ (min (1 : Int).toNat 64)))))))
  else
    (some (Lp.done s9.1))

noncomputable def slices_BinarySearchFunc_LimplFile_impl_Disk_place_1_l1 (a1 : (List File)) (a2 : ByteArray) : (Int × Int) → Option Int := loop (slices_BinarySearchFunc_LimplFile_impl_Disk_place_1_l1b a1 a2)

noncomputable def slices_BinarySearchFunc_LimplFile_impl_Disk_place_1 (a1 : (List File)) (a2 : ByteArray) : Option (Int × Bool) :=
  (slices_BinarySearchFunc_LimplFile_impl_Disk_place_1_l1 a1 a2 (0, (a1.length : Int))).bind fun v16 =>
  if decide (v16 < (a1.length : Int)) then
    ((idx a1 v16).bind fun x18 =>
    (impl_Disk_place_1 x18 a2).bind fun x20 =>
    some (v16, x20 == 0))
  else
    (some (v16, false))

noncomputable def impl_Disk_place (a1 : Disk) (a2 : ByteArray) : Option (Int × Bool) :=
  (slices_BinarySearchFunc_LimplFile_impl_Disk_place_1 a1.Files a2).bind fun x3 =>
  some (x3.1, x3.2)

noncomputable def impl_Disk_data (a1 : Disk) (a2 : ByteArray) : Option ((List Int) × Bool) :=
  (impl_Disk_place a1 a2).bind fun x3 =>
  if !x3.2 then
    (some (([] : List Int), false))
  else
    ((idx a1.Files x3.1).bind fun x6 =>
    some (x6.Data, true))

noncomputable def strings_Split (a1 a2 : ByteArray) : Option (List ByteArray) := if a1.size < 4294967281 ∧ 1 ≤ a2.size then some (Lib.splitB a2 0 (Lib.countB a1 a2) a1) else none

noncomputable def impl_linesOf (a1 : ByteArray) : Option (List ByteArray) :=
  (strings_Split a1 (bs [10])).bind fun x2 =>
  (idx x2 (w64 ((x2.length : Int) - 1))).bind fun x4 =>
  (if seq x4 (bs []) then
      ((lsub x2 0 (w64 ((x2.length : Int) - 1))).bind fun x7 =>
      some x7)
    else
      (some x2)).bind fun v9 =>
  some v9

noncomputable def impl_top  : Option Version :=
  some ({ A := 1000, B := 0, C := 0 } : Version)

noncomputable def impl_AnyTerm (a1 : ByteArray) : Option Term :=
  (impl_top).bind fun x2 =>
  some ({ Name := a1, Low := ({ A := 0, B := 0, C := 0 } : Version), High := x2 } : Term)

noncomputable def impl_NameFault_l1b (a1 : ByteArray) (s17 : Int) : Option (Lp Int (Fl Int Unit)) :=
  if decide (s17 < (a1.size : Int)) then
    ((bidx a1 s17).bind fun x19 =>
    (impl_isNameByte x19).bind fun x21 =>
    if !x21 then
      (some (Lp.done (Fl.ret 5)))
    else
      (some (Lp.go (w64 (s17 + 1)))))
  else
    (some (Lp.done (Fl.nxt ())))

noncomputable def impl_NameFault_l1 (a1 : ByteArray) : Int → Option (Fl Int Unit) := loop (impl_NameFault_l1b a1)

noncomputable def impl_NameFault (a1 : ByteArray) : Option Int :=
  (if decide ((a1.size : Int) < 1) then
      (some true)
    else
      (if decide ((a1.size : Int) > 12) then
        (some true)
      else
        ((bidx a1 0).bind fun x4 =>
        if decide (x4 < 97) then
          (some true)
        else
          ((bidx a1 0).bind fun x7 =>
          some (decide (x7 > 122)))))).bind fun v9 =>
  if v9 then
    (some 5)
  else
    ((impl_NameFault_l1 a1 0).bind (Fl.go some fun v24 =>
    some 0))

noncomputable def internal_stringslite_HasPrefix (a1 : ByteArray) (a2 : ByteArray) : Option Bool :=
  if decide ((a1.size : Int) ≥ (a2.size : Int)) then
    ((ssub a1 0 (a2.size : Int)).bind fun x4 =>
    some (seq x4 a2))
  else
    (some false)

noncomputable def internal_stringslite_CutPrefix (a1 : ByteArray) (a2 : ByteArray) : Option (ByteArray × Bool) :=
  (internal_stringslite_HasPrefix a1 a2).bind fun x3 =>
  if !x3 then
    (some (a1, false))
  else
    ((ssub a1 (a2.size : Int) (a1.size : Int)).bind fun x6 =>
    some (x6, true))

noncomputable def strings_CutPrefix (a1 : ByteArray) (a2 : ByteArray) : Option (ByteArray × Bool) :=
  (internal_stringslite_CutPrefix a1 a2).bind fun x3 =>
  some (x3.1, x3.2)

noncomputable def strings_IndexByte (a1 : ByteArray) (a2 : Int) : Option Int := some (Lib.indexByte a1.data.toList a2.toNat.toUInt8)

noncomputable def impl_number_l1b (a1 : ByteArray) (s16 : (Int × Int)) : Option (Lp (Int × Int) (Fl Int Int)) :=
  if decide (s16.2 < (a1.size : Int)) then
    ((bidx a1 s16.2).bind fun x18 =>
    (if decide (x18 < 48) then
        (some true)
      else
        ((bidx a1 s16.2).bind fun x21 =>
        some (decide (x21 > 57)))).bind fun v23 =>
    if v23 then
      (some (Lp.done (Fl.ret (-1))))
    else
      ((bidx a1 s16.2).bind fun x25 =>
      some (Lp.go (w64 ((w64 (10 * s16.1)) + (w64 (IntKind.u8.wrap (x25 - 48)))), w64 (s16.2 + 1)))))
  else
    (some (Lp.done (Fl.nxt s16.1)))

noncomputable def impl_number_l1 (a1 : ByteArray) : (Int × Int) → Option (Fl Int Int) := loop (impl_number_l1b a1)

noncomputable def impl_number (a1 : ByteArray) (a2 : Int) : Option Int :=
  (if seq a1 (bs []) then
      (some true)
    else
      (some (decide ((a1.size : Int) > a2)))).bind fun v4 =>
  if v4 then
    (some (-1))
  else
    ((impl_number_l1 a1 (0, 0)).bind (Fl.go some fun v27 =>
    some v27))

noncomputable def impl_ParseVersion_l1b (x2 : (List ByteArray)) (s15 : ((List Int) × Int)) : Option (Lp ((List Int) × Int) (Fl VersionResult (List Int))) :=
  if decide (s15.2 < (x2.length : Int)) then
    ((idx x2 s15.2).bind fun x17 =>
    (impl_number x17 3).bind fun x19 =>
    (idxa s15.1 3 s15.2).bind fun x21 =>
    (idxa (s15.1.set s15.2.toNat x19) 3 s15.2).bind fun x23 =>
    if decide (x23 < 0) then
      (some (Lp.done (Fl.ret ({ Code := 5, Version := ({ A := 0, B := 0, C := 0 } : Version) } : VersionResult))))
    else
      (some (Lp.go (s15.1.set s15.2.toNat x19, w64 (s15.2 + 1)))))
  else
    (some (Lp.done (Fl.nxt s15.1)))

noncomputable def impl_ParseVersion_l1 (x2 : (List ByteArray)) : ((List Int) × Int) → Option (Fl VersionResult (List Int)) := loop (impl_ParseVersion_l1b x2)

noncomputable def impl_ParseVersion (a1 : ByteArray) : Option VersionResult :=
  (strings_Split a1 (bs [46])).bind fun x2 =>
  if decide ((x2.length : Int) > 3) then
    (some ({ Code := 5, Version := ({ A := 0, B := 0, C := 0 } : Version) } : VersionResult))
  else
    ((impl_ParseVersion_l1 x2 (([0, 0, 0] : (List Int)), 0)).bind (Fl.go some fun v26 =>
    (idxa v26 3 0).bind fun x27 =>
    (idxa v26 3 1).bind fun x29 =>
    (idxa v26 3 2).bind fun x31 =>
    some ({ Code := 0, Version := ({ A := x27, B := x29, C := x31 } : Version) } : VersionResult)))

noncomputable def impl_VersionFault (a1 : Version) : Option Int :=
  (impl_within a1.A 0 999).bind fun x2 =>
  (if !x2 then
      (some true)
    else
      ((impl_within a1.B 0 999).bind fun x5 =>
      if !x5 then
        (some true)
      else
        ((impl_within a1.C 0 999).bind fun x8 =>
        some (!x8)))).bind fun v10 =>
  if v10 then
    (some 3)
  else
    (some 0)

noncomputable def cmp_isNaN_int64 (a1 : Int) : Option Bool :=
  some (a1 != a1)

noncomputable def cmp_Compare_int64 (a1 : Int) (a2 : Int) : Option Int :=
  (cmp_isNaN_int64 a1).bind fun x3 =>
  (cmp_isNaN_int64 a2).bind fun x5 =>
  if x3 then
    (if x5 then
      (some 0)
    else
      (some (-1)))
  else
    (if x5 then
      (some 1)
    else
      (if decide (a1 < a2) then
        (some (-1))
      else
        (if decide (a1 > a2) then
          (some 1)
        else
          (some 0))))

noncomputable def cmp_Or_int_l1b (a1 : (List Int)) (s6 : Int) : Option (Lp Int (Fl Int Unit)) :=
  if decide (s6 < (a1.length : Int)) then
    ((idx a1 s6).bind fun x8 =>
    if x8 != 0 then
      (some (Lp.done (Fl.ret x8)))
    else
      (some (Lp.go (w64 (s6 + 1)))))
  else
    (some (Lp.done (Fl.nxt ())))

noncomputable def cmp_Or_int_l1 (a1 : (List Int)) : Int → Option (Fl Int Unit) := loop (cmp_Or_int_l1b a1)

noncomputable def cmp_Or_int (a1 : (List Int)) : Option Int :=
  (cmp_Or_int_l1 a1 0).bind (Fl.go some fun v11 =>
  some 0)

noncomputable def impl_compare (a1 : Version) (a2 : Version) : Option Int :=
  (cmp_Compare_int64 a1.A a2.A).bind fun x3 =>
  (cmp_Compare_int64 a1.B a2.B).bind fun x5 =>
  (cmp_Compare_int64 a1.C a2.C).bind fun x7 =>
  (cmp_Or_int [x3, x5, x7]).bind fun x9 =>
  some x9

noncomputable def impl_TermFault (a1 : Term) : Option Int :=
  (impl_NameFault a1.Name).bind fun x2 =>
  if x2 != 0 then
    (some x2)
  else
    ((impl_VersionFault a1.Low).bind fun x5 =>
    if x5 != 0 then
      (some x5)
    else
      ((impl_top).bind fun x8 =>
      (if !(a1.High.A == x8.A && (a1.High.B == x8.B && (a1.High.C == x8.C && true))) then
          ((impl_VersionFault a1.High).bind fun x11 =>
          some (x11 != 0))
        else
          (some false)).bind fun v13 =>
      if v13 then
        (some 3)
      else
        ((impl_compare a1.Low a1.High).bind fun x15 =>
        if decide (x15 ≥ 0) then
          (some 1)
        else
          (some 0))))

noncomputable def impl_ParseTerm_l1b (a1 : ByteArray) (s9 : Int) : Option (Lp Int Int) :=
  (if decide (s9 < (a1.size : Int)) then
      ((bidx a1 s9).bind fun x11 =>
      (impl_isNameByte x11).bind fun x13 =>
      some x13)
    else
      (some false)).bind fun v15 =>
  if v15 then
    (some (Lp.go (w64 (s9 + 1))))
  else
    (some (Lp.done s9))

noncomputable def impl_ParseTerm_l1 (a1 : ByteArray) : Int → Option Int := loop (impl_ParseTerm_l1b a1)

noncomputable def impl_ParseTerm (a1 : ByteArray) : Option TermResult :=
  (impl_ParseTerm_l1 a1 0).bind fun v17 =>
  (ssub a1 0 v17).bind fun x18 =>
  (impl_AnyTerm x18).bind fun x20 =>
  (ssub a1 v17 (a1.size : Int)).bind fun x22 =>
  (impl_NameFault x20.Name).bind fun x24 =>
  if x24 != 0 then
    (some ({ Code := 5, Term := ({ Name := ByteArray.empty, Low := ({ A := 0, B := 0, C := 0 } : Version), High := ({ A := 0, B := 0, C := 0 } : Version) } : Term) } : TermResult))
  else
    ((strings_CutPrefix x22 (bs [62, 61])).bind fun x27 =>
    (if x27.2 then
        ((strings_IndexByte x27.1 60).bind fun x30 =>
        (if decide (x30 < 0) then
            (some (x27.1.size : Int))
          else
            (some x30)).bind fun v33 =>
        (ssub x27.1 0 v33).bind fun x34 =>
        (impl_ParseVersion x34).bind fun x36 =>
        if x36.Code != 0 then
          (some (Fl.ret ({ Code := 5, Term := ({ Name := ByteArray.empty, Low := ({ A := 0, B := 0, C := 0 } : Version), High := ({ A := 0, B := 0, C := 0 } : Version) } : Term) } : TermResult)))
        else
          ((ssub x27.1 v33 (x27.1.size : Int)).bind fun x39 =>
          some (Fl.nxt (x36.Version.A, x36.Version.B, x36.Version.C, x39))))
      else
        (some (Fl.nxt (x20.Low.A, x20.Low.B, x20.Low.C, x22)))).bind (Fl.go some fun v41 =>
    (strings_CutPrefix v41.2.2.2 (bs [60])).bind fun x42 =>
    (if x42.2 then
        ((impl_ParseVersion x42.1).bind fun x45 =>
        if x45.Code != 0 then
          (some (Fl.ret ({ Code := 5, Term := ({ Name := ByteArray.empty, Low := ({ A := 0, B := 0, C := 0 } : Version), High := ({ A := 0, B := 0, C := 0 } : Version) } : Term) } : TermResult)))
        else
          (some (Fl.nxt (x45.Version.A, x45.Version.B, x45.Version.C, bs []))))
      else
        (some (Fl.nxt (x20.High.A, x20.High.B, x20.High.C, v41.2.2.2)))).bind (Fl.go some fun v48 =>
    if !(seq v48.2.2.2 (bs [])) then
      (some ({ Code := 5, Term := ({ Name := ByteArray.empty, Low := ({ A := 0, B := 0, C := 0 } : Version), High := ({ A := 0, B := 0, C := 0 } : Version) } : Term) } : TermResult))
    else
      ((impl_TermFault ({ Name := x20.Name, Low := ({ A := v41.1, B := v41.2.1, C := v41.2.2.1 } : Version), High := ({ A := v48.1, B := v48.2.1, C := v48.2.2.1 } : Version) } : Term)).bind fun x50 =>
      if x50 != 0 then
        (some ({ Code := x50, Term := ({ Name := ByteArray.empty, Low := ({ A := 0, B := 0, C := 0 } : Version), High := ({ A := 0, B := 0, C := 0 } : Version) } : Term) } : TermResult))
      else
        (some ({ Code := 0, Term := ({ Name := x20.Name, Low := ({ A := v41.1, B := v41.2.1, C := v41.2.2.1 } : Version), High := ({ A := v48.1, B := v48.2.1, C := v48.2.2.1 } : Version) } : Term) } : TermResult))))))

noncomputable def impl_termsFault_l1b (a1 : (List Term)) (s8 : Int) : Option (Lp Int (Fl Int Unit)) :=
  if decide (s8 < (a1.length : Int)) then
    ((idx a1 s8).bind fun x10 =>
    (impl_TermFault x10).bind fun x12 =>
    if x12 != 0 then
      (some (Lp.done (Fl.ret x12)))
    else
      (some (Lp.go (w64 (s8 + 1)))))
  else
    (some (Lp.done (Fl.nxt ())))

noncomputable def impl_termsFault_l1 (a1 : (List Term)) : Int → Option (Fl Int Unit) := loop (impl_termsFault_l1b a1)

noncomputable def impl_termsFault (a1 : (List Term)) : Option Int :=
  (impl_termsFault_l1 a1 0).bind (Fl.go some fun v15 =>
  some 0)

noncomputable def strconv_FormatInt (a1 a2 : Int) : Option ByteArray := if a2 = 10 ∧ -9223372036854775808 ≤ a1 ∧ a1 ≤ 9223372036854775807 then some ⟨(Lib.itoa a1).toArray⟩ else none

noncomputable def impl_dec (a1 : Int) : Option ByteArray :=
  (strconv_FormatInt a1 10).bind fun x2 =>
  some x2

noncomputable def impl_Version_text (a1 : Version) : Option ByteArray :=
  (impl_dec a1.A).bind fun x2 =>
  (cat x2 (bs [46])).bind fun x4 =>
  (impl_dec a1.B).bind fun x6 =>
  (cat x4 x6).bind fun x8 =>
  (cat x8 (bs [46])).bind fun x10 =>
  (impl_dec a1.C).bind fun x12 =>
  (cat x10 x12).bind fun x14 =>
  some x14

noncomputable def impl_FormatTerm (a1 : Term) : Option ByteArray :=
  (impl_TermFault a1).bind fun x2 =>
  if x2 != 0 then
    (some (bs []))
  else
    ((if !(a1.Low.A == 0 && (a1.Low.B == 0 && (a1.Low.C == 0 && true))) then
        ((impl_Version_text a1.Low).bind fun x6 =>
        (cat (bs [62, 61]) x6).bind fun x8 =>
        (cat a1.Name x8).bind fun x10 =>
        some x10)
      else
        (some a1.Name)).bind fun v12 =>
    (impl_top).bind fun x13 =>
    (if !(a1.High.A == x13.A && (a1.High.B == x13.B && (a1.High.C == x13.C && true))) then
        ((impl_Version_text a1.High).bind fun x16 =>
        (cat (bs [60]) x16).bind fun x18 =>
        (cat v12 x18).bind fun x20 =>
        some x20)
      else
        (some v12)).bind fun v22 =>
    some v22)

noncomputable def impl_RootsText_l1b (a1 : (List Term)) (s14 : (ByteArray × Int)) : Option (Lp (ByteArray × Int) ByteArray) :=
  if decide (s14.2 < (a1.length : Int)) then
    ((idx a1 s14.2).bind fun x16 =>
    (impl_FormatTerm x16).bind fun x18 =>
    (cat x18 (bs [10])).bind fun x20 =>
    (cat s14.1 x20).bind fun x22 =>
    some (Lp.go (x22, w64 (s14.2 + 1))))
  else
    (some (Lp.done s14.1))

noncomputable def impl_RootsText_l1 (a1 : (List Term)) : (ByteArray × Int) → Option ByteArray := loop (impl_RootsText_l1b a1)

noncomputable def impl_RootsText (a1 : (List Term)) : Option ByteArray :=
  (impl_termsFault a1).bind fun x2 =>
  if x2 != 0 then
    (some (bs []))
  else
    ((impl_RootsText_l1 a1 (bs [], 0)).bind fun v24 =>
    some v24)

noncomputable def impl_twoOfOne_1 (a1 : Term) (a2 : Term) : Option Bool :=
  some (seq a1.Name a2.Name)

noncomputable def slices_IndexFunc_LimplTerm_impl_twoOfOne_1_l1b (a1 : (List Term)) (a2 : Term) (s9 : Int) : Option (Lp Int (Fl Int Unit)) :=
  if decide (s9 < (a1.length : Int)) then
    ((idx a1 s9).bind fun x11 =>
    (impl_twoOfOne_1 x11 a2).bind fun x13 =>
    if x13 then
      (some (Lp.done (Fl.ret s9)))
    else
      (some (Lp.go (w64 (s9 + 1)))))
  else
    (some (Lp.done (Fl.nxt ())))

noncomputable def slices_IndexFunc_LimplTerm_impl_twoOfOne_1_l1 (a1 : (List Term)) (a2 : Term) : Int → Option (Fl Int Unit) := loop (slices_IndexFunc_LimplTerm_impl_twoOfOne_1_l1b a1 a2)

noncomputable def slices_IndexFunc_LimplTerm_impl_twoOfOne_1 (a1 : (List Term)) (a2 : Term) : Option Int :=
  (slices_IndexFunc_LimplTerm_impl_twoOfOne_1_l1 a1 a2 0).bind (Fl.go some fun v16 =>
  some (-1))

noncomputable def slices_ContainsFunc_LimplTerm_impl_twoOfOne_1 (a1 : (List Term)) (a2 : Term) : Option Bool :=
  (slices_IndexFunc_LimplTerm_impl_twoOfOne_1 a1 a2).bind fun x3 =>
  some (decide (x3 ≥ 0))

noncomputable def impl_twoOfOne_l1b (a1 : (List Term)) (s10 : Int) : Option (Lp Int (Fl Bool Unit)) :=
  if decide (s10 < (a1.length : Int)) then
    ((idx a1 s10).bind fun x12 =>
    (lsub a1 0 s10).bind fun x14 =>
    (slices_ContainsFunc_LimplTerm_impl_twoOfOne_1 x14 x12).bind fun x16 =>
    if x16 then
      (some (Lp.done (Fl.ret true)))
    else
      (some (Lp.go (w64 (s10 + 1)))))
  else
    (some (Lp.done (Fl.nxt ())))

noncomputable def impl_twoOfOne_l1 (a1 : (List Term)) : Int → Option (Fl Bool Unit) := loop (impl_twoOfOne_l1b a1)

noncomputable def impl_twoOfOne (a1 : (List Term)) : Option Bool :=
  (impl_twoOfOne_l1 a1 0).bind (Fl.go some fun v19 =>
  some false)

noncomputable def impl_Disk_roots_l1b (x2 : ((List Int) × Bool)) (x4 : (List ByteArray)) (s14 : ((List Term) × Int)) : Option (Lp ((List Term) × Int) (Fl ((List Term) × Int) (List Term))) :=
  if decide (s14.2 < (x4.length : Int)) then
    ((idx x4 s14.2).bind fun x16 =>
    (impl_ParseTerm x16).bind fun x18 =>
    if x18.Code != 0 then
      (some (Lp.done (Fl.ret (([] : List Term), 5))))
    else
      ((app 64 s14.1 [x18.Term]).bind fun x21 =>
      some (Lp.go (x21, w64 (s14.2 + 1)))))
  else
    (some (Lp.done (Fl.nxt s14.1)))

noncomputable def impl_Disk_roots_l1 (x2 : ((List Int) × Bool)) (x4 : (List ByteArray)) : ((List Term) × Int) → Option (Fl ((List Term) × Int) (List Term)) := loop (impl_Disk_roots_l1b x2 x4)

noncomputable def impl_Disk_roots (a1 : Disk) : Option ((List Term) × Int) :=
  (impl_Disk_data a1 (bs [114, 111, 111, 116, 115])).bind fun x2 =>
  (impl_linesOf (b2s x2.1)).bind fun x4 =>
  (impl_Disk_roots_l1 x2 x4 (([] : List Term), 0)).bind (Fl.go some fun v23 =>
  (impl_RootsText v23).bind fun x24 =>
  (if !(seq x24 (b2s x2.1)) then
      (some true)
    else
      (if decide ((v23.length : Int) > 8) then
        (some true)
      else
        ((impl_twoOfOne v23).bind fun x28 =>
        some x28))).bind fun v30 =>
  if v30 then
    (some (([] : List Term), 5))
  else
    (some (v23, 0)))

noncomputable def impl_RootsOf (a1 : Disk) : Option AsksResult :=
  (impl_DiskFault a1).bind fun x2 =>
  if x2 != 0 then
    (some ({ Code := x2, Asks := ([] : List Term) } : AsksResult))
  else
    ((impl_Disk_roots a1).bind fun x5 =>
    some ({ Code := x5.2, Asks := x5.1 } : AsksResult))

noncomputable def laws_eqVersion (a1 : Version) (a2 : Version) : Option Bool :=
  if a1.A != a2.A then
    (some false)
  else
    (if a1.B != a2.B then
      (some false)
    else
      (if a1.C != a2.C then
        (some false)
      else
        (some true)))

noncomputable def laws_eqTerm (a1 : Term) (a2 : Term) : Option Bool :=
  if !(seq a1.Name a2.Name) then
    (some false)
  else
    ((laws_eqVersion a1.Low a2.Low).bind fun x4 =>
    if !x4 then
      (some false)
    else
      ((laws_eqVersion a1.High a2.High).bind fun x7 =>
      if !x7 then
        (some false)
      else
        (some true)))

noncomputable def laws_eqTermS_l1b (a1 : (List Term)) (a2 : (List Term)) (s12 : Int) : Option (Lp Int (Fl Bool Unit)) :=
  if decide (s12 < (a1.length : Int)) then
    ((idx a1 s12).bind fun x14 =>
    (idx a2 s12).bind fun x16 =>
    (laws_eqTerm x14 x16).bind fun x18 =>
    if !x18 then
      (some (Lp.done (Fl.ret false)))
    else
      (some (Lp.go (w64 (s12 + 1)))))
  else
    (some (Lp.done (Fl.nxt ())))

noncomputable def laws_eqTermS_l1 (a1 : (List Term)) (a2 : (List Term)) : Int → Option (Fl Bool Unit) := loop (laws_eqTermS_l1b a1 a2)

noncomputable def laws_eqTermS (a1 : (List Term)) (a2 : (List Term)) : Option Bool :=
  if (a1.length : Int) != (a2.length : Int) then
    (some false)
  else
    ((laws_eqTermS_l1 a1 a2 0).bind (Fl.go some fun v21 =>
    some true))

noncomputable def laws_eqAsksResult (a1 : AsksResult) (a2 : AsksResult) : Option Bool :=
  if a1.Code != a2.Code then
    (some false)
  else
    ((laws_eqTermS a1.Asks a2.Asks).bind fun x4 =>
    if !x4 then
      (some false)
    else
      (some true))

noncomputable def laws_eqByteS_l1b (a1 : (List Int)) (a2 : (List Int)) (s10 : Int) : Option (Lp Int (Fl Bool Unit)) :=
  if decide (s10 < (a1.length : Int)) then
    ((idx a1 s10).bind fun x12 =>
    (idx a2 s10).bind fun x14 =>
    if x12 != x14 then
      (some (Lp.done (Fl.ret false)))
    else
      (some (Lp.go (w64 (s10 + 1)))))
  else
    (some (Lp.done (Fl.nxt ())))

noncomputable def laws_eqByteS_l1 (a1 : (List Int)) (a2 : (List Int)) : Int → Option (Fl Bool Unit) := loop (laws_eqByteS_l1b a1 a2)

noncomputable def laws_eqByteS (a1 : (List Int)) (a2 : (List Int)) : Option Bool :=
  if (a1.length : Int) != (a2.length : Int) then
    (some false)
  else
    ((laws_eqByteS_l1 a1 a2 0).bind (Fl.go some fun v17 =>
    some true))

noncomputable def laws_eqFile (a1 : File) (a2 : File) : Option Bool :=
  if !(seq a1.Path a2.Path) then
    (some false)
  else
    ((laws_eqByteS a1.Data a2.Data).bind fun x4 =>
    if !x4 then
      (some false)
    else
      (some true))

noncomputable def laws_eqFileS_l1b (a1 : (List File)) (a2 : (List File)) (s12 : Int) : Option (Lp Int (Fl Bool Unit)) :=
  if decide (s12 < (a1.length : Int)) then
    ((idx a1 s12).bind fun x14 =>
    (idx a2 s12).bind fun x16 =>
    (laws_eqFile x14 x16).bind fun x18 =>
    if !x18 then
      (some (Lp.done (Fl.ret false)))
    else
      (some (Lp.go (w64 (s12 + 1)))))
  else
    (some (Lp.done (Fl.nxt ())))

noncomputable def laws_eqFileS_l1 (a1 : (List File)) (a2 : (List File)) : Int → Option (Fl Bool Unit) := loop (laws_eqFileS_l1b a1 a2)

noncomputable def laws_eqFileS (a1 : (List File)) (a2 : (List File)) : Option Bool :=
  if (a1.length : Int) != (a2.length : Int) then
    (some false)
  else
    ((laws_eqFileS_l1 a1 a2 0).bind (Fl.go some fun v21 =>
    some true))

noncomputable def laws_eqDisk (a1 : Disk) (a2 : Disk) : Option Bool :=
  (laws_eqFileS a1.Files a2.Files).bind fun x3 =>
  if !x3 then
    (some false)
  else
    (if a1.Budget != a2.Budget then
      (some false)
    else
      (if a1.Writes != a2.Writes then
        (some false)
      else
        (if a1.Stop != a2.Stop then
          (some false)
        else
          (if !(a1.Down == a2.Down) then
            (some false)
          else
            (some true)))))

noncomputable def laws_markText_l1b  (s6 : (Int × ByteArray)) : Option (Lp (Int × ByteArray) ByteArray) :=
  if decide (s6.1 > 0) then
    ((cat (b2s [IntKind.u8.wrap (w64 (48 + (s6.1.tmod 10)))]) s6.2).bind fun x8 =>
    some (Lp.go (w64 (s6.1.tdiv 10), x8)))
  else
    (some (Lp.done s6.2))

noncomputable def laws_markText_l1  : (Int × ByteArray) → Option ByteArray := loop laws_markText_l1b

noncomputable def laws_markText (a1 : Int) : Option ByteArray :=
  if decide (a1 ≤ 0) then
    (some (bs [109, 48]))
  else
    ((laws_markText_l1 (a1, bs [])).bind fun v10 =>
    (cat (bs [109]) v10).bind fun x11 =>
    some x11)

noncomputable def laws_markByteSr_l1b  (s6 : ((List Int) × Int × Int)) : Option (Lp ((List Int) × Int × Int) ((List Int) × Int)) :=
  if decide (s6.2.2 < (s6.1.length : Int)) then
    ((idx s6.1 s6.2.2).bind fun x8 =>
    some (Lp.go (s6.1.set s6.2.2.toNat (IntKind.u8.wrap (s6.2.1)), w64 (s6.2.1 + 1), w64 (s6.2.2 + 1))))
  else
    (some (Lp.done (s6.1, s6.2.1)))

noncomputable def laws_markByteSr_l1  : ((List Int) × Int × Int) → Option ((List Int) × Int) := loop laws_markByteSr_l1b

noncomputable def laws_markByteSr (a1 : (List Int)) (a2 : Int) : Option (Int × (List Int)) :=
  (laws_markByteSr_l1 (a1, a2, 0)).bind fun v10 =>
  some (v10.2, v10.1)

noncomputable def laws_markFileSr_l1b  (s14 : ((List File) × Int × Int)) : Option (Lp ((List File) × Int × Int) ((List File) × Int)) :=
  if decide (s14.2.2 < (s14.1.length : Int)) then
    ((laws_markText s14.2.1).bind fun x16 =>
    (idx s14.1 s14.2.2).bind fun x18 =>
    (idx (s14.1.set s14.2.2.toNat ({ Path := x16, Data := x18.Data } : File)) s14.2.2).bind fun x20 =>
    (laws_markByteSr x20.Data (w64 (s14.2.1 + 1))).bind fun x22 =>
    (same x22.2 x20.Data).bind fun u24 =>
    some (Lp.go ((s14.1.set s14.2.2.toNat ({ Path := x16, Data := x18.Data } : File)).set s14.2.2.toNat ({ Path := x20.Path, Data := x22.2 } : File), x22.1, w64 (s14.2.2 + 1))))
  else
    (some (Lp.done (s14.1, s14.2.1)))

noncomputable def laws_markFileSr_l1  : ((List File) × Int × Int) → Option ((List File) × Int) := loop laws_markFileSr_l1b

noncomputable def laws_markFileSr (a1 : (List File)) (a2 : Int) : Option (Int × (List File)) :=
  (laws_markFileSr_l1 (a1, a2, 0)).bind fun v26 =>
  some (v26.2, v26.1)

noncomputable def laws_markDiskg (a1 : Disk) (a2 : Int) : Option (Int × (List File)) :=
  (laws_markFileSr a1.Files a2).bind fun x3 =>
  (same x3.2 a1.Files).bind fun u5 =>
  some (x3.1, x3.2)

noncomputable def laws_markTermSr_l1b  (s20 : ((List Term) × Int × Int)) : Option (Lp ((List Term) × Int × Int) ((List Term) × Int)) :=
  if decide (s20.2.2 < (s20.1.length : Int)) then
    ((laws_markText s20.2.1).bind fun x22 =>
    (idx s20.1 s20.2.2).bind fun x24 =>
    (idx (s20.1.set s20.2.2.toNat ({ Name := x22, Low := x24.Low, High := x24.High } : Term)) s20.2.2).bind fun x26 =>
    (idx ((s20.1.set s20.2.2.toNat ({ Name := x22, Low := x24.Low, High := x24.High } : Term)).set s20.2.2.toNat ({ Name := x26.Name, Low := ({ A := w64 (s20.2.1 + 1), B := x26.Low.B, C := x26.Low.C } : Version), High := x26.High } : Term)) s20.2.2).bind fun x28 =>
    (idx (((s20.1.set s20.2.2.toNat ({ Name := x22, Low := x24.Low, High := x24.High } : Term)).set s20.2.2.toNat ({ Name := x26.Name, Low := ({ A := w64 (s20.2.1 + 1), B := x26.Low.B, C := x26.Low.C } : Version), High := x26.High } : Term)).set s20.2.2.toNat ({ Name := x28.Name, Low := ({ A := x28.Low.A, B := w64 ((w64 (s20.2.1 + 1)) + 1), C := x28.Low.C } : Version), High := x28.High } : Term)) s20.2.2).bind fun x30 =>
    (idx ((((s20.1.set s20.2.2.toNat ({ Name := x22, Low := x24.Low, High := x24.High } : Term)).set s20.2.2.toNat ({ Name := x26.Name, Low := ({ A := w64 (s20.2.1 + 1), B := x26.Low.B, C := x26.Low.C } : Version), High := x26.High } : Term)).set s20.2.2.toNat ({ Name := x28.Name, Low := ({ A := x28.Low.A, B := w64 ((w64 (s20.2.1 + 1)) + 1), C := x28.Low.C } : Version), High := x28.High } : Term)).set s20.2.2.toNat ({ Name := x30.Name, Low := ({ A := x30.Low.A, B := x30.Low.B, C := w64 ((w64 ((w64 (s20.2.1 + 1)) + 1)) + 1) } : Version), High := x30.High } : Term)) s20.2.2).bind fun x32 =>
    (idx (((((s20.1.set s20.2.2.toNat ({ Name := x22, Low := x24.Low, High := x24.High } : Term)).set s20.2.2.toNat ({ Name := x26.Name, Low := ({ A := w64 (s20.2.1 + 1), B := x26.Low.B, C := x26.Low.C } : Version), High := x26.High } : Term)).set s20.2.2.toNat ({ Name := x28.Name, Low := ({ A := x28.Low.A, B := w64 ((w64 (s20.2.1 + 1)) + 1), C := x28.Low.C } : Version), High := x28.High } : Term)).set s20.2.2.toNat ({ Name := x30.Name, Low := ({ A := x30.Low.A, B := x30.Low.B, C := w64 ((w64 ((w64 (s20.2.1 + 1)) + 1)) + 1) } : Version), High := x30.High } : Term)).set s20.2.2.toNat ({ Name := x32.Name, Low := x32.Low, High := ({ A := w64 ((w64 ((w64 ((w64 (s20.2.1 + 1)) + 1)) + 1)) + 1), B := x32.High.B, C := x32.High.C } : Version) } : Term)) s20.2.2).bind fun x34 =>
    (idx ((((((s20.1.set s20.2.2.toNat ({ Name := x22, Low := x24.Low, High := x24.High } : Term)).set s20.2.2.toNat ({ Name := x26.Name, Low := ({ A := w64 (s20.2.1 + 1), B := x26.Low.B, C := x26.Low.C } : Version), High := x26.High } : Term)).set s20.2.2.toNat ({ Name := x28.Name, Low := ({ A := x28.Low.A, B := w64 ((w64 (s20.2.1 + 1)) + 1), C := x28.Low.C } : Version), High := x28.High } : Term)).set s20.2.2.toNat ({ Name := x30.Name, Low := ({ A := x30.Low.A, B := x30.Low.B, C := w64 ((w64 ((w64 (s20.2.1 + 1)) + 1)) + 1) } : Version), High := x30.High } : Term)).set s20.2.2.toNat ({ Name := x32.Name, Low := x32.Low, High := ({ A := w64 ((w64 ((w64 ((w64 (s20.2.1 + 1)) + 1)) + 1)) + 1), B := x32.High.B, C := x32.High.C } : Version) } : Term)).set s20.2.2.toNat ({ Name := x34.Name, Low := x34.Low, High := ({ A := x34.High.A, B := w64 ((w64 ((w64 ((w64 ((w64 (s20.2.1 + 1)) + 1)) + 1)) + 1)) + 1), C := x34.High.C } : Version) } : Term)) s20.2.2).bind fun x36 =>
    some (Lp.go (((((((s20.1.set s20.2.2.toNat ({ Name := x22, Low := x24.Low, High := x24.High } : Term)).set s20.2.2.toNat ({ Name := x26.Name, Low := ({ A := w64 (s20.2.1 + 1), B := x26.Low.B, C := x26.Low.C } : Version), High := x26.High } : Term)).set s20.2.2.toNat ({ Name := x28.Name, Low := ({ A := x28.Low.A, B := w64 ((w64 (s20.2.1 + 1)) + 1), C := x28.Low.C } : Version), High := x28.High } : Term)).set s20.2.2.toNat ({ Name := x30.Name, Low := ({ A := x30.Low.A, B := x30.Low.B, C := w64 ((w64 ((w64 (s20.2.1 + 1)) + 1)) + 1) } : Version), High := x30.High } : Term)).set s20.2.2.toNat ({ Name := x32.Name, Low := x32.Low, High := ({ A := w64 ((w64 ((w64 ((w64 (s20.2.1 + 1)) + 1)) + 1)) + 1), B := x32.High.B, C := x32.High.C } : Version) } : Term)).set s20.2.2.toNat ({ Name := x34.Name, Low := x34.Low, High := ({ A := x34.High.A, B := w64 ((w64 ((w64 ((w64 ((w64 (s20.2.1 + 1)) + 1)) + 1)) + 1)) + 1), C := x34.High.C } : Version) } : Term)).set s20.2.2.toNat ({ Name := x36.Name, Low := x36.Low, High := ({ A := x36.High.A, B := x36.High.B, C := w64 ((w64 ((w64 ((w64 ((w64 ((w64 (s20.2.1 + 1)) + 1)) + 1)) + 1)) + 1)) + 1) } : Version) } : Term), w64 ((w64 ((w64 ((w64 ((w64 ((w64 ((w64 (s20.2.1 + 1)) + 1)) + 1)) + 1)) + 1)) + 1)) + 1), w64 (s20.2.2 + 1))))
  else
    (some (Lp.done (s20.1, s20.2.1)))

noncomputable def laws_markTermSr_l1  : ((List Term) × Int × Int) → Option ((List Term) × Int) := loop laws_markTermSr_l1b

noncomputable def laws_markTermSr (a1 : (List Term)) (a2 : Int) : Option (Int × (List Term)) :=
  (laws_markTermSr_l1 (a1, a2, 0)).bind fun v38 =>
  some (v38.2, v38.1)

noncomputable def laws_markAsksResultg (a1 : AsksResult) (a2 : Int) : Option (Int × (List Term)) :=
  (laws_markTermSr a1.Asks a2).bind fun x3 =>
  (same x3.2 a1.Asks).bind fun u5 =>
  some (x3.1, x3.2)

noncomputable def laws_heldTermS_l1b (a1 : (List Term)) (s27 : (Int × Int)) : Option (Lp (Int × Int) (Fl Int Int)) :=
  if decide (s27.2 < (a1.length : Int)) then
    ((idx a1 s27.2).bind fun x29 =>
    (laws_markText s27.1).bind fun x31 =>
    if !(seq x29.Name x31) then
      (some (Lp.done (Fl.ret (-1))))
    else
      ((idx a1 s27.2).bind fun x34 =>
      if x34.Low.A != (w64 (s27.1 + 1)) then
        (some (Lp.done (Fl.ret (-1))))
      else
        ((idx a1 s27.2).bind fun x37 =>
        if x37.Low.B != (w64 ((w64 (s27.1 + 1)) + 1)) then
          (some (Lp.done (Fl.ret (-1))))
        else
          ((idx a1 s27.2).bind fun x40 =>
          if x40.Low.C != (w64 ((w64 ((w64 (s27.1 + 1)) + 1)) + 1)) then
            (some (Lp.done (Fl.ret (-1))))
          else
            ((idx a1 s27.2).bind fun x43 =>
            if x43.High.A != (w64 ((w64 ((w64 ((w64 (s27.1 + 1)) + 1)) + 1)) + 1)) then
              (some (Lp.done (Fl.ret (-1))))
            else
              ((idx a1 s27.2).bind fun x46 =>
              if x46.High.B != (w64 ((w64 ((w64 ((w64 ((w64 (s27.1 + 1)) + 1)) + 1)) + 1)) + 1)) then
                (some (Lp.done (Fl.ret (-1))))
              else
                ((idx a1 s27.2).bind fun x49 =>
                if x49.High.C != (w64 ((w64 ((w64 ((w64 ((w64 ((w64 (s27.1 + 1)) + 1)) + 1)) + 1)) + 1)) + 1)) then
                  (some (Lp.done (Fl.ret (-1))))
                else
                  (some (Lp.go (w64 ((w64 ((w64 ((w64 ((w64 ((w64 ((w64 (s27.1 + 1)) + 1)) + 1)) + 1)) + 1)) + 1)) + 1), w64 (s27.2 + 1)))))))))))
  else
    (some (Lp.done (Fl.nxt s27.1)))

noncomputable def laws_heldTermS_l1 (a1 : (List Term)) : (Int × Int) → Option (Fl Int Int) := loop (laws_heldTermS_l1b a1)

noncomputable def laws_heldTermS (a1 : (List Term)) (a2 : Int) : Option Int :=
  (laws_heldTermS_l1 a1 (a2, 0)).bind (Fl.go some fun v52 =>
  some v52)

noncomputable def laws_heldAsksResult (a1 : AsksResult) (a2 : Int) : Option Int :=
  (laws_heldTermS a1.Asks a2).bind fun x3 =>
  if decide (x3 < 0) then
    (some (-1))
  else
    (some x3)

noncomputable def laws_FnExactRootsOf (a1 : Disk) : Option Bool :=
  (laws_szDisk a1 1048576).bind fun x2 =>
  if decide (x2 < 0) then
    (some true)
  else
    ((laws_toDisk a1).bind fun x5 =>
    (spec_RootsOf x5).bind fun x7 =>
    (laws_toDisk a1).bind fun x9 =>
    (impl_RootsOf x9).bind fun x11 =>
    (laws_eqAsksResult x11 x7).bind fun x13 =>
    if !x13 then
      (some false)
    else
      ((laws_toDisk a1).bind fun x16 =>
      (laws_eqDisk x9 x16).bind fun x18 =>
      if !x18 then
        (some false)
      else
        ((laws_markDiskg x9 1).bind fun x21 =>
        (if decide (x21.1 < 0) then
            (some true)
          else
            ((laws_eqAsksResult x11 x7).bind fun x24 =>
            some (!x24))).bind fun v26 =>
        if v26 then
          (some false)
        else
          ((laws_markAsksResultg x11 1).bind fun x28 =>
          (same x28.2 x11.Asks).bind fun u30 =>
          (laws_heldAsksResult ({ Code := x11.Code, Asks := x28.2 } : AsksResult) 1).bind fun x32 =>
          if decide (x32 < 0) then
            (some false)
          else
            (if x32 != x28.1 then
              (some false)
            else
              ((laws_toDisk a1).bind fun x36 =>
              (impl_RootsOf x36).bind fun x38 =>
              (laws_eqAsksResult x38 x7).bind fun x40 =>
              if !x40 then
                (some false)
              else
                ((laws_heldAsksResult ({ Code := x11.Code, Asks := x28.2 } : AsksResult) 1).bind fun x43 =>
                if decide (x43 < 0) then
                  (some false)
                else
                  (if x43 != x28.1 then
                    (some false)
                  else
                    (some true)))))))))

end Go.Told

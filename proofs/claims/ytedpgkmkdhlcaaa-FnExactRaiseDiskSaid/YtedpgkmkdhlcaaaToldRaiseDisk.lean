import Derived.Test.YtedpgkmkdhlcaaaIm39
set_option linter.unusedVariables false
set_option maxRecDepth 4000
namespace Go.Told
open Go Go.Im

structure File where
  Path : ByteArray
  Data : (List Int)
  deriving DecidableEq

def File.enc (o : Bool) (x : File) : List D := [.sc (.string x.Path), .s o 1 x.Data.length (x.Data.map eU8)]

theorem File.ro (o : Bool) (x : File) : D.ro.roC (File.enc o x) = File.enc false x := by
  simp only [File.enc, D.ro.roC, D.ro, roE_map (enc := eU8) (enc' := eU8) (fun _ => rfl)]

theorem File.fl (x : File) : flatC (File.enc true x) := (flatK flat_sc (flatK (flat_s (flatM (fun _ => (flatK flat_sc flatN)) _)) flatN))

structure Disk where
  Files : (List File)
  Budget : Int
  Writes : Int
  Stop : Int
  Down : Bool
  deriving DecidableEq

def Disk.enc (o : Bool) (x : Disk) : List D := [.s o 2 x.Files.length (x.Files.map (File.enc o)), .sc (.int .i64 x.Budget), .sc (.int .i64 x.Writes), .sc (.int .i64 x.Stop), .sc (.bool x.Down)]

theorem Disk.ro (o : Bool) (x : Disk) : D.ro.roC (Disk.enc o x) = Disk.enc false x := by
  simp only [Disk.enc, D.ro.roC, D.ro, roE_map (enc := (File.enc o)) (enc' := (File.enc false)) (File.ro o)]

theorem Disk.fl (x : Disk) : flatC (Disk.enc true x) := (flatK (flat_s (flatM (fun _ => (File.fl _)) _)) (flatK flat_sc (flatK flat_sc (flatK flat_sc (flatK flat_sc flatN)))))

structure DiskResult where
  Code : Int
  Disk : Disk
  deriving DecidableEq

def DiskResult.enc (o : Bool) (x : DiskResult) : List D := [.sc (.int .i64 x.Code), .s o 2 x.Disk.Files.length (x.Disk.Files.map (File.enc o)), .sc (.int .i64 x.Disk.Budget), .sc (.int .i64 x.Disk.Writes), .sc (.int .i64 x.Disk.Stop), .sc (.bool x.Disk.Down)]

theorem DiskResult.ro (o : Bool) (x : DiskResult) : D.ro.roC (DiskResult.enc o x) = DiskResult.enc false x := by
  simp only [DiskResult.enc, D.ro.roC, D.ro, roE_map (enc := (File.enc o)) (enc' := (File.enc false)) (File.ro o)]

theorem DiskResult.fl (x : DiskResult) : flatC (DiskResult.enc true x) := (flatK flat_sc (flatK (flat_s (flatM (fun _ => (File.fl _)) _)) (flatK flat_sc (flatK flat_sc (flatK flat_sc (flatK flat_sc flatN))))))

noncomputable def laws_szByteS (a1 : (List Int)) (a2 : Int) : Option Int :=
  if decide ((w64 (a2 - (a1.length : Int))) < 0) then
    (some (-1))
  else
    (some (w64 (a2 - (a1.length : Int))))

noncomputable def laws_szFile (a1 : File) (a2 : Int) : Option Int :=
  if decide ((w64 (a2 - (a1.Path.size : Int))) < 0) then
    (some (-1))
  else
    ((laws_szByteS a1.Data (w64 (a2 - (a1.Path.size : Int)))).bind fun x4 =>
    if decide (x4 < 0) then
      (some (-1))
    else
      (some x4))

noncomputable def laws_szFileS_l1b (a1 : (List File)) (s10 : (Int × Int)) : Option (Lp (Int × Int) (Fl Int Int)) :=
  if decide (s10.2 < (a1.length : Int)) then
    ((idx a1 s10.2).bind fun x12 =>
    (laws_szFile x12 s10.1).bind fun x14 =>
    if decide (x14 < 0) then
      (some (Lp.done (Fl.ret (-1))))
    else
      (some (Lp.go (x14, w64 (s10.2 + 1)))))
  else
    (some (Lp.done (Fl.nxt s10.1)))

noncomputable def laws_szFileS_l1 (a1 : (List File)) : (Int × Int) → Option (Fl Int Int) := loop (laws_szFileS_l1b a1)

noncomputable def laws_szFileS (a1 : (List File)) (a2 : Int) : Option Int :=
  if decide ((w64 (a2 - (a1.length : Int))) < 0) then
    (some (-1))
  else
    ((laws_szFileS_l1 a1 (w64 (a2 - (a1.length : Int)), 0)).bind (Fl.go some fun v17 =>
    some v17))

noncomputable def laws_szDisk (a1 : Disk) (a2 : Int) : Option Int :=
  (laws_szFileS a1.Files a2).bind fun x3 =>
  if decide (x3 < 0) then
    (some (-1))
  else
    (some x3)

noncomputable def laws_toByteS_l1b (a1 : (List Int)) (s9 : ((List Int) × Int)) : Option (Lp ((List Int) × Int) (List Int)) :=
  if decide (s9.2 < (a1.length : Int)) then
    ((idx a1 s9.2).bind fun x11 =>
    (idx s9.1 s9.2).bind fun x13 =>
    some (Lp.go (s9.1.set s9.2.toNat x11, w64 (s9.2 + 1))))
  else
    (some (Lp.done s9.1))

noncomputable def laws_toByteS_l1 (a1 : (List Int)) : ((List Int) × Int) → Option (List Int) := loop (laws_toByteS_l1b a1)

noncomputable def laws_toByteS (a1 : (List Int)) : Option (List Int) :=
  (mk 1 (a1.length : Int) 0).bind fun x2 =>
  (laws_toByteS_l1 a1 (x2, 0)).bind fun v15 =>
  some v15

noncomputable def laws_toFile (a1 : File) : Option File :=
  (laws_toByteS a1.Data).bind fun x2 =>
  some ({ Path := a1.Path, Data := x2 } : File)

noncomputable def laws_toFileS_l1b (a1 : (List File)) (s11 : ((List File) × Int)) : Option (Lp ((List File) × Int) (List File)) :=
  if decide (s11.2 < (a1.length : Int)) then
    ((idx a1 s11.2).bind fun x13 =>
    (laws_toFile x13).bind fun x15 =>
    (idx s11.1 s11.2).bind fun x17 =>
    some (Lp.go (s11.1.set s11.2.toNat x15, w64 (s11.2 + 1))))
  else
    (some (Lp.done s11.1))

noncomputable def laws_toFileS_l1 (a1 : (List File)) : ((List File) × Int) → Option (List File) := loop (laws_toFileS_l1b a1)

noncomputable def laws_toFileS (a1 : (List File)) : Option (List File) :=
  (mk 40 (a1.length : Int) ({ Path := ByteArray.empty, Data := ([] : List Int) } : File)).bind fun x2 =>
  (laws_toFileS_l1 a1 (x2, 0)).bind fun v19 =>
  some v19

noncomputable def laws_toDisk (a1 : Disk) : Option Disk :=
  (laws_toFileS a1.Files).bind fun x2 =>
  some ({ Files := x2, Budget := a1.Budget, Writes := a1.Writes, Stop := a1.Stop, Down := a1.Down } : Disk)

noncomputable def spec_l1In (a1 : Int) (a2 : Int) (a3 : Int) : Option Bool :=
  if decide (a1 ≥ a2) then
    (some (decide (a1 ≤ a3)))
  else
    (some false)

noncomputable def spec_l1Letter (a1 : Int) : Option Bool :=
  if decide (a1 ≥ 97) then
    (some (decide (a1 ≤ 122)))
  else
    (some false)

noncomputable def spec_l1Digit (a1 : Int) : Option Bool :=
  if decide (a1 ≥ 48) then
    (some (decide (a1 ≤ 57)))
  else
    (some false)

noncomputable def spec_l1Name (a1 : Int) : Option Bool :=
  (spec_l1Letter a1).bind fun x2 =>
  if x2 then
    (some true)
  else
    ((spec_l1Digit a1).bind fun x5 =>
    if x5 then
      (some true)
    else
      (some (a1 == 95)))

noncomputable def spec_l7Byte (a1 : Int) : Option Bool :=
  (spec_l1Name a1).bind fun x2 =>
  if x2 then
    (some true)
  else
    (if a1 == 46 then
      (some true)
    else
      (if a1 == 45 then
        (some true)
      else
        (some (a1 == 47))))

noncomputable def spec_PathFault_l1b (a1 : ByteArray) (s11 : Int) : Option (Lp Int (Fl Int Unit)) :=
  if decide (s11 < (a1.size : Int)) then
    ((bidx a1 s11).bind fun x13 =>
    (spec_l7Byte x13).bind fun x15 =>
    if !x15 then
      (some (Lp.done (Fl.ret 5)))
    else
      (some (Lp.go (w64 (s11 + 1)))))
  else
    (some (Lp.done (Fl.nxt ())))

noncomputable def spec_PathFault_l1 (a1 : ByteArray) : Int → Option (Fl Int Unit) := loop (spec_PathFault_l1b a1)

noncomputable def spec_PathFault (a1 : ByteArray) : Option Int :=
  (if decide ((a1.size : Int) < 1) then
      (some true)
    else
      (some (decide ((a1.size : Int) > 40)))).bind fun v3 =>
  if v3 then
    (some 5)
  else
    ((spec_PathFault_l1 a1 0).bind (Fl.go some fun v18 =>
    some 0))

noncomputable def spec_l7Total_l1b (a1 : Disk) (s5 : (Int × Int)) : Option (Lp (Int × Int) Int) :=
  if decide (s5.2 < (a1.Files.length : Int)) then
    ((idx a1.Files s5.2).bind fun x7 =>
    some (Lp.go (w64 (s5.1 + (x7.Data.length : Int)), w64 (s5.2 + 1))))
  else
    (some (Lp.done s5.1))

noncomputable def spec_l7Total_l1 (a1 : Disk) : (Int × Int) → Option Int := loop (spec_l7Total_l1b a1)

noncomputable def spec_l7Total (a1 : Disk) : Option Int :=
  (spec_l7Total_l1 a1 (0, 0)).bind fun v9 =>
  some v9

noncomputable def spec_DiskFault_l1b (a1 : Disk) (s29 : Int) : Option (Lp Int (Fl Int Unit)) :=
  if decide (s29 < (a1.Files.length : Int)) then
    ((idx a1.Files s29).bind fun x31 =>
    (spec_PathFault x31.Path).bind fun x33 =>
    if x33 != 0 then
      (some (Lp.done (Fl.ret x33)))
    else
      ((if decide (s29 > 0) then
          ((idx a1.Files s29).bind fun x37 =>
          (idx a1.Files (w64 (s29 - 1))).bind fun x39 =>
          some (slt x37.Path x39.Path || seq x37.Path x39.Path))
        else
          (some false)).bind fun v41 =>
      if v41 then
        (some (Lp.done (Fl.ret 1)))
      else
        ((idx a1.Files s29).bind fun x43 =>
        if decide ((x43.Data.length : Int) > 4000) then
          (some (Lp.done (Fl.ret 2)))
        else
          (some (Lp.go (w64 (s29 + 1)))))))
  else
    (some (Lp.done (Fl.nxt ())))

noncomputable def spec_DiskFault_l1 (a1 : Disk) : Int → Option (Fl Int Unit) := loop (spec_DiskFault_l1b a1)

noncomputable def spec_DiskFault (a1 : Disk) : Option Int :=
  (spec_l1In a1.Budget 0 20000).bind fun x2 =>
  (if !x2 then
      (some true)
    else
      ((spec_l1In a1.Writes 0 1000000000).bind fun x5 =>
      if !x5 then
        (some true)
      else
        ((spec_l1In a1.Stop (-1) 1000000000).bind fun x8 =>
        some (!x8)))).bind fun v10 =>
  if v10 then
    (some 3)
  else
    (if decide ((a1.Files.length : Int) > 120) then
      (some 2)
    else
      ((spec_DiskFault_l1 a1 0).bind (Fl.go some fun v46 =>
      (spec_l7Total a1).bind fun x47 =>
      if decide (x47 > a1.Budget) then
        (some 8)
      else
        (some 0))))

noncomputable def spec_l7Copy_l1b (a1 : Disk) (s20 : ((List File) × Int)) : Option (Lp ((List File) × Int) (List File)) :=
  if decide (s20.2 < (a1.Files.length : Int)) then
    ((idx a1.Files s20.2).bind fun x22 =>
    (idx a1.Files s20.2).bind fun x24 =>
    (app 1 ([] : List Int) x24.Data).bind fun x26 =>
    (app 40 s20.1 [({ Path := x22.Path, Data := x26 } : File)]).bind fun x28 =>
    some (Lp.go (x28, w64 (s20.2 + 1))))
  else
    (some (Lp.done s20.1))

noncomputable def spec_l7Copy_l1 (a1 : Disk) : ((List File) × Int) → Option (List File) := loop (spec_l7Copy_l1b a1)

noncomputable def spec_l7Copy (a1 : Disk) : Option Disk :=
  (spec_l7Copy_l1 a1 (([] : List File), 0)).bind fun v30 =>
  some ({ Files := v30, Budget := a1.Budget, Writes := a1.Writes, Stop := a1.Stop, Down := a1.Down } : Disk)

noncomputable def spec_RaiseDisk (a1 : Disk) (a2 : Int) : Option DiskResult :=
  (spec_DiskFault a1).bind fun x3 =>
  if x3 != 0 then
    (some ({ Code := x3, Disk := ({ Files := ([] : List File), Budget := 0, Writes := 0, Stop := 0, Down := false } : Disk) } : DiskResult))
  else
    ((spec_l1In a2 (-1) 1000000000).bind fun x6 =>
    if !x6 then
      (some ({ Code := 3, Disk := ({ Files := ([] : List File), Budget := 0, Writes := 0, Stop := 0, Down := false } : Disk) } : DiskResult))
    else
      (if !a1.Down then
        (some ({ Code := 1, Disk := ({ Files := ([] : List File), Budget := 0, Writes := 0, Stop := 0, Down := false } : Disk) } : DiskResult))
      else
        ((spec_l7Copy a1).bind fun x10 =>
        some ({ Code := 0, Disk := ({ Files := x10.Files, Budget := x10.Budget, Writes := 0, Stop := a2, Down := false } : Disk) } : DiskResult))))

noncomputable def impl_within (a1 : Int) (a2 : Int) (a3 : Int) : Option Bool :=
  if decide (a2 ≤ a1) then
    (some (decide (a1 ≤ a3)))
  else
    (some false)

noncomputable def impl_isNameByte (a1 : Int) : Option Bool :=
  if decide (a1 ≥ 97) then
    (if decide (a1 ≤ 122) then
      (some true)
    else
      (if decide (a1 ≥ 48) then
        (if decide (a1 ≤ 57) then
          (some true)
        else
          (some (a1 == 95)))
      else
        (some (a1 == 95))))
  else
    (if decide (a1 ≥ 48) then
      (if decide (a1 ≤ 57) then
        (some true)
      else
        (some (a1 == 95)))
    else
      (some (a1 == 95)))

noncomputable def impl_PathFault_l1b (a1 : ByteArray) (s15 : Int) : Option (Lp Int (Fl Int Unit)) :=
  if decide (s15 < (a1.size : Int)) then
    ((bidx a1 s15).bind fun x17 =>
    (impl_isNameByte x17).bind fun x19 =>
    (if !x19 then
        (if x17 != 46 then
          (if x17 != 45 then
            (some (x17 != 47))
          else
            (some false))
        else
          (some false))
      else
        (some false)).bind fun v24 =>
    if v24 then
      (some (Lp.done (Fl.ret 5)))
    else
      (some (Lp.go (w64 (s15 + 1)))))
  else
    (some (Lp.done (Fl.nxt ())))

noncomputable def impl_PathFault_l1 (a1 : ByteArray) : Int → Option (Fl Int Unit) := loop (impl_PathFault_l1b a1)

noncomputable def impl_PathFault (a1 : ByteArray) : Option Int :=
  (if decide ((a1.size : Int) < 1) then
      (some true)
    else
      (some (decide ((a1.size : Int) > 40)))).bind fun v3 =>
  if v3 then
    (some 5)
  else
    ((impl_PathFault_l1 a1 0).bind (Fl.go some fun v26 =>
    some 0))

noncomputable def impl_Disk_total_l1b (a1 : Disk) (s5 : (Int × Int)) : Option (Lp (Int × Int) Int) :=
  if decide (s5.2 < (a1.Files.length : Int)) then
    ((idx a1.Files s5.2).bind fun x7 =>
    some (Lp.go (w64 (s5.1 + (x7.Data.length : Int)), w64 (s5.2 + 1))))
  else
    (some (Lp.done s5.1))

noncomputable def impl_Disk_total_l1 (a1 : Disk) : (Int × Int) → Option Int := loop (impl_Disk_total_l1b a1)

noncomputable def impl_Disk_total (a1 : Disk) : Option Int :=
  (impl_Disk_total_l1 a1 (0, 0)).bind fun v9 =>
  some v9

noncomputable def impl_DiskFault_l1b (a1 : Disk) (s25 : Int) : Option (Lp Int (Fl Int Unit)) :=
  if decide (s25 < (a1.Files.length : Int)) then
    ((idx a1.Files s25).bind fun x27 =>
    (impl_PathFault x27.Path).bind fun x29 =>
    if x29 != 0 then
      (some (Lp.done (Fl.ret x29)))
    else
      ((if decide (s25 > 0) then
          ((idx a1.Files (w64 (s25 - 1))).bind fun x33 =>
          some (slt x27.Path x33.Path || seq x27.Path x33.Path))
        else
          (some false)).bind fun v35 =>
      if v35 then
        (some (Lp.done (Fl.ret 1)))
      else
        (if decide ((x27.Data.length : Int) > 4000) then
          (some (Lp.done (Fl.ret 2)))
        else
          (some (Lp.go (w64 (s25 + 1)))))))
  else
    (some (Lp.done (Fl.nxt ())))

noncomputable def impl_DiskFault_l1 (a1 : Disk) : Int → Option (Fl Int Unit) := loop (impl_DiskFault_l1b a1)

noncomputable def impl_DiskFault (a1 : Disk) : Option Int :=
  (impl_within a1.Budget 0 20000).bind fun x2 =>
  (if !x2 then
      (some true)
    else
      ((impl_within a1.Writes 0 1000000000).bind fun x5 =>
      if !x5 then
        (some true)
      else
        ((impl_within a1.Stop (-1) 1000000000).bind fun x8 =>
        some (!x8)))).bind fun v10 =>
  if v10 then
    (some 3)
  else
    (if decide ((a1.Files.length : Int) > 120) then
      (some 2)
    else
      ((impl_DiskFault_l1 a1 0).bind (Fl.go some fun v38 =>
      (impl_Disk_total a1).bind fun x39 =>
      if decide (x39 > a1.Budget) then
        (some 8)
      else
        (some 0))))

noncomputable def slices_Clone_Lbyte (a1 : (List Int)) : Option (List Int) :=
  (app 1 ([] : List Int) a1).bind fun x3 =>
  some x3

noncomputable def impl_Disk_copied_l1b (a1 : Disk) (s16 : ((List File) × Int)) : Option (Lp ((List File) × Int) (List File)) :=
  if decide (s16.2 < (a1.Files.length : Int)) then
    ((idx a1.Files s16.2).bind fun x18 =>
    (slices_Clone_Lbyte x18.Data).bind fun x20 =>
    (app 40 s16.1 [({ Path := x18.Path, Data := x20 } : File)]).bind fun x22 =>
    some (Lp.go (x22, w64 (s16.2 + 1))))
  else
    (some (Lp.done s16.1))

noncomputable def impl_Disk_copied_l1 (a1 : Disk) : ((List File) × Int) → Option (List File) := loop (impl_Disk_copied_l1b a1)

noncomputable def impl_Disk_copied (a1 : Disk) : Option Disk :=
  (impl_Disk_copied_l1 a1 (([] : List File), 0)).bind fun v24 =>
  some ({ Files := v24, Budget := a1.Budget, Writes := a1.Writes, Stop := a1.Stop, Down := a1.Down } : Disk)

noncomputable def impl_RaiseDisk (a1 : Disk) (a2 : Int) : Option DiskResult :=
  (impl_DiskFault a1).bind fun x3 =>
  (if x3 != 0 then
      (some x3)
    else
      ((impl_within a2 (-1) 1000000000).bind fun x6 =>
      if !x6 then
        (some 3)
      else
        (if !a1.Down then
          (some 1)
        else
          (some x3)))).bind fun v10 =>
  if v10 != 0 then
    (some ({ Code := v10, Disk := ({ Files := ([] : List File), Budget := 0, Writes := 0, Stop := 0, Down := false } : Disk) } : DiskResult))
  else
    ((impl_Disk_copied a1).bind fun x12 =>
    some ({ Code := 0, Disk := ({ Files := x12.Files, Budget := x12.Budget, Writes := 0, Stop := a2, Down := false } : Disk) } : DiskResult))

noncomputable def laws_eqByteS_l1b (a1 : (List Int)) (a2 : (List Int)) (s10 : Int) : Option (Lp Int (Fl Bool Unit)) :=
  if decide (s10 < (a1.length : Int)) then
    ((idx a1 s10).bind fun x12 =>
    (idx a2 s10).bind fun x14 =>
    if x12 != x14 then
      (some (Lp.done (Fl.ret false)))
    else
      (some (Lp.go (w64 (s10 + 1)))))
  else
    (some (Lp.done (Fl.nxt ())))

noncomputable def laws_eqByteS_l1 (a1 : (List Int)) (a2 : (List Int)) : Int → Option (Fl Bool Unit) := loop (laws_eqByteS_l1b a1 a2)

noncomputable def laws_eqByteS (a1 : (List Int)) (a2 : (List Int)) : Option Bool :=
  if (a1.length : Int) != (a2.length : Int) then
    (some false)
  else
    ((laws_eqByteS_l1 a1 a2 0).bind (Fl.go some fun v17 =>
    some true))

noncomputable def laws_eqFile (a1 : File) (a2 : File) : Option Bool :=
  if !(seq a1.Path a2.Path) then
    (some false)
  else
    ((laws_eqByteS a1.Data a2.Data).bind fun x4 =>
    if !x4 then
      (some false)
    else
      (some true))

noncomputable def laws_eqFileS_l1b (a1 : (List File)) (a2 : (List File)) (s12 : Int) : Option (Lp Int (Fl Bool Unit)) :=
  if decide (s12 < (a1.length : Int)) then
    ((idx a1 s12).bind fun x14 =>
    (idx a2 s12).bind fun x16 =>
    (laws_eqFile x14 x16).bind fun x18 =>
    if !x18 then
      (some (Lp.done (Fl.ret false)))
    else
      (some (Lp.go (w64 (s12 + 1)))))
  else
    (some (Lp.done (Fl.nxt ())))

noncomputable def laws_eqFileS_l1 (a1 : (List File)) (a2 : (List File)) : Int → Option (Fl Bool Unit) := loop (laws_eqFileS_l1b a1 a2)

noncomputable def laws_eqFileS (a1 : (List File)) (a2 : (List File)) : Option Bool :=
  if (a1.length : Int) != (a2.length : Int) then
    (some false)
  else
    ((laws_eqFileS_l1 a1 a2 0).bind (Fl.go some fun v21 =>
    some true))

noncomputable def laws_eqDisk (a1 : Disk) (a2 : Disk) : Option Bool :=
  (laws_eqFileS a1.Files a2.Files).bind fun x3 =>
  if !x3 then
    (some false)
  else
    (if a1.Budget != a2.Budget then
      (some false)
    else
      (if a1.Writes != a2.Writes then
        (some false)
      else
        (if a1.Stop != a2.Stop then
          (some false)
        else
          (if !(a1.Down == a2.Down) then
            (some false)
          else
            (some true)))))

noncomputable def laws_eqDiskResult (a1 : DiskResult) (a2 : DiskResult) : Option Bool :=
  if a1.Code != a2.Code then
    (some false)
  else
    ((laws_eqDisk a1.Disk a2.Disk).bind fun x4 =>
    if !x4 then
      (some false)
    else
      (some true))

noncomputable def laws_markText_l1b  (s6 : (Int × ByteArray)) : Option (Lp (Int × ByteArray) ByteArray) :=
  if decide (s6.1 > 0) then
    ((cat (b2s [IntKind.u8.wrap (w64 (48 + (s6.1.tmod 10)))]) s6.2).bind fun x8 =>
    some (Lp.go (w64 (s6.1.tdiv 10), x8)))
  else
    (some (Lp.done s6.2))

noncomputable def laws_markText_l1  : (Int × ByteArray) → Option ByteArray := loop laws_markText_l1b

noncomputable def laws_markText (a1 : Int) : Option ByteArray :=
  if decide (a1 ≤ 0) then
    (some (bs [109, 48]))
  else
    ((laws_markText_l1 (a1, bs [])).bind fun v10 =>
    (cat (bs [109]) v10).bind fun x11 =>
    some x11)

noncomputable def laws_markByteSr_l1b  (s6 : ((List Int) × Int × Int)) : Option (Lp ((List Int) × Int × Int) ((List Int) × Int)) :=
  if decide (s6.2.2 < (s6.1.length : Int)) then
    ((idx s6.1 s6.2.2).bind fun x8 =>
    some (Lp.go (s6.1.set s6.2.2.toNat (IntKind.u8.wrap (s6.2.1)), w64 (s6.2.1 + 1), w64 (s6.2.2 + 1))))
  else
    (some (Lp.done (s6.1, s6.2.1)))

noncomputable def laws_markByteSr_l1  : ((List Int) × Int × Int) → Option ((List Int) × Int) := loop laws_markByteSr_l1b

noncomputable def laws_markByteSr (a1 : (List Int)) (a2 : Int) : Option (Int × (List Int)) :=
  (laws_markByteSr_l1 (a1, a2, 0)).bind fun v10 =>
  some (v10.2, v10.1)

noncomputable def laws_markFileSr_l1b  (s14 : ((List File) × Int × Int)) : Option (Lp ((List File) × Int × Int) ((List File) × Int)) :=
  if decide (s14.2.2 < (s14.1.length : Int)) then
    ((laws_markText s14.2.1).bind fun x16 =>
    (idx s14.1 s14.2.2).bind fun x18 =>
    (idx (s14.1.set s14.2.2.toNat ({ Path := x16, Data := x18.Data } : File)) s14.2.2).bind fun x20 =>
    (laws_markByteSr x20.Data (w64 (s14.2.1 + 1))).bind fun x22 =>
    (same x22.2 x20.Data).bind fun u24 =>
    some (Lp.go ((s14.1.set s14.2.2.toNat ({ Path := x16, Data := x18.Data } : File)).set s14.2.2.toNat ({ Path := x20.Path, Data := x22.2 } : File), x22.1, w64 (s14.2.2 + 1))))
  else
    (some (Lp.done (s14.1, s14.2.1)))

noncomputable def laws_markFileSr_l1  : ((List File) × Int × Int) → Option ((List File) × Int) := loop laws_markFileSr_l1b

noncomputable def laws_markFileSr (a1 : (List File)) (a2 : Int) : Option (Int × (List File)) :=
  (laws_markFileSr_l1 (a1, a2, 0)).bind fun v26 =>
  some (v26.2, v26.1)

noncomputable def laws_markDiskg (a1 : Disk) (a2 : Int) : Option (Int × (List File)) :=
  (laws_markFileSr a1.Files a2).bind fun x3 =>
  (same x3.2 a1.Files).bind fun u5 =>
  some (x3.1, x3.2)

noncomputable def laws_markDiskResultg (a1 : DiskResult) (a2 : Int) : Option (Int × (List File)) :=
  (laws_markDiskg a1.Disk a2).bind fun x3 =>
  (same x3.2 a1.Disk.Files).bind fun u5 =>
  some (x3.1, x3.2)

noncomputable def laws_heldByteS_l1b (a1 : (List Int)) (s7 : (Int × Int)) : Option (Lp (Int × Int) (Fl Int Int)) :=
  if decide (s7.2 < (a1.length : Int)) then
    ((idx a1 s7.2).bind fun x9 =>
    if x9 != (IntKind.u8.wrap (s7.1)) then
      (some (Lp.done (Fl.ret (-1))))
    else
      (some (Lp.go (w64 (s7.1 + 1), w64 (s7.2 + 1)))))
  else
    (some (Lp.done (Fl.nxt s7.1)))

noncomputable def laws_heldByteS_l1 (a1 : (List Int)) : (Int × Int) → Option (Fl Int Int) := loop (laws_heldByteS_l1b a1)

noncomputable def laws_heldByteS (a1 : (List Int)) (a2 : Int) : Option Int :=
  (laws_heldByteS_l1 a1 (a2, 0)).bind (Fl.go some fun v12 =>
  some v12)

noncomputable def laws_heldFileS_l1b (a1 : (List File)) (s14 : (Int × Int)) : Option (Lp (Int × Int) (Fl Int Int)) :=
  if decide (s14.2 < (a1.length : Int)) then
    ((idx a1 s14.2).bind fun x16 =>
    (laws_markText s14.1).bind fun x18 =>
    if !(seq x16.Path x18) then
      (some (Lp.done (Fl.ret (-1))))
    else
      ((idx a1 s14.2).bind fun x21 =>
      (laws_heldByteS x21.Data (w64 (s14.1 + 1))).bind fun x23 =>
      if decide (x23 < 0) then
        (some (Lp.done (Fl.ret (-1))))
      else
        (some (Lp.go (x23, w64 (s14.2 + 1))))))
  else
    (some (Lp.done (Fl.nxt s14.1)))

noncomputable def laws_heldFileS_l1 (a1 : (List File)) : (Int × Int) → Option (Fl Int Int) := loop (laws_heldFileS_l1b a1)

noncomputable def laws_heldFileS (a1 : (List File)) (a2 : Int) : Option Int :=
  (laws_heldFileS_l1 a1 (a2, 0)).bind (Fl.go some fun v26 =>
  some v26)

noncomputable def laws_heldDisk (a1 : Disk) (a2 : Int) : Option Int :=
  (laws_heldFileS a1.Files a2).bind fun x3 =>
  if decide (x3 < 0) then
    (some (-1))
  else
    (some x3)

noncomputable def laws_heldDiskResult (a1 : DiskResult) (a2 : Int) : Option Int :=
  (laws_heldDisk a1.Disk a2).bind fun x3 =>
  if decide (x3 < 0) then
    (some (-1))
  else
    (some x3)

noncomputable def laws_FnExactRaiseDisk (a1 : Disk) (a2 : Int) : Option Bool :=
  (laws_szDisk a1 1048576).bind fun x3 =>
  if decide (x3 < 0) then
    (some true)
  else
    ((laws_toDisk a1).bind fun x6 =>
    (spec_RaiseDisk x6 a2).bind fun x8 =>
    (laws_toDisk a1).bind fun x10 =>
    (impl_RaiseDisk x10 a2).bind fun x12 =>
    (laws_eqDiskResult x12 x8).bind fun x14 =>
    if !x14 then
      (some false)
    else
      ((laws_toDisk a1).bind fun x17 =>
      (laws_eqDisk x10 x17).bind fun x19 =>
      if !x19 then
        (some false)
      else
        ((laws_markDiskg x10 1).bind fun x22 =>
        (if decide (x22.1 < 0) then
            (some true)
          else
            ((laws_eqDiskResult x12 x8).bind fun x25 =>
            some (!x25))).bind fun v27 =>
        if v27 then
          (some false)
        else
          ((laws_markDiskResultg x12 1).bind fun x29 =>
          (same x29.2 x12.Disk.Files).bind fun u31 =>
          (laws_heldDiskResult ({ Code := x12.Code, Disk := ({ Files := x29.2, Budget := x12.Disk.Budget, Writes := x12.Disk.Writes, Stop := x12.Disk.Stop, Down := x12.Disk.Down } : Disk) } : DiskResult) 1).bind fun x33 =>
          if decide (x33 < 0) then
            (some false)
          else
            (if x33 != x29.1 then
              (some false)
            else
              ((laws_toDisk a1).bind fun x37 =>
              (impl_RaiseDisk x37 a2).bind fun x39 =>
              (laws_eqDiskResult x39 x8).bind fun x41 =>
              if !x41 then
                (some false)
              else
                ((laws_heldDiskResult ({ Code := x12.Code, Disk := ({ Files := x29.2, Budget := x12.Disk.Budget, Writes := x12.Disk.Writes, Stop := x12.Disk.Stop, Down := x12.Disk.Down } : Disk) } : DiskResult) 1).bind fun x44 =>
                if decide (x44 < 0) then
                  (some false)
                else
                  (if x44 != x29.1 then
                    (some false)
                  else
                    (some true)))))))))

end Go.Told

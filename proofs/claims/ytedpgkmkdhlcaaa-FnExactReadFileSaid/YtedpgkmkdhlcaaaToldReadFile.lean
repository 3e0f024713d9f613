import Derived.Test.YtedpgkmkdhlcaaaIm39
set_option linter.unusedVariables false
set_option maxRecDepth 4000
namespace Go.Told
open Go Go.Im

structure File where
  Path : ByteArray
  Data : (List Int)
  deriving DecidableEq

def File.enc (o : Bool) (x : File) : List D := [.sc (.string x.Path), .s o 1 x.Data.length (x.Data.map eU8)]

theorem File.ro (o : Bool) (x : File) : D.ro.roC (File.enc o x) = File.enc false x := by
  simp only [File.enc, D.ro.roC, D.ro, roE_map (enc := eU8) (enc' := eU8) (fun _ => rfl)]

theorem File.fl (x : File) : flatC (File.enc true x) := (flatK flat_sc (flatK (flat_s (flatM (fun _ => (flatK flat_sc flatN)) _)) flatN))

structure Disk where
  Files : (List File)
  Budget : Int
  Writes : Int
  Stop : Int
  Down : Bool
  deriving DecidableEq

def Disk.enc (o : Bool) (x : Disk) : List D := [.s o 2 x.Files.length (x.Files.map (File.enc o)), .sc (.int .i64 x.Budget), .sc (.int .i64 x.Writes), .sc (.int .i64 x.Stop), .sc (.bool x.Down)]

theorem Disk.ro (o : Bool) (x : Disk) : D.ro.roC (Disk.enc o x) = Disk.enc false x := by
  simp only [Disk.enc, D.ro.roC, D.ro, roE_map (enc := (File.enc o)) (enc' := (File.enc false)) (File.ro o)]

theorem Disk.fl (x : Disk) : flatC (Disk.enc true x) := (flatK (flat_s (flatM (fun _ => (File.fl _)) _)) (flatK flat_sc (flatK flat_sc (flatK flat_sc (flatK flat_sc flatN)))))

structure FileResult where
  Code : Int
  File : File
  deriving DecidableEq

def FileResult.enc (o : Bool) (x : FileResult) : List D := [.sc (.int .i64 x.Code), .sc (.string x.File.Path), .s o 1 x.File.Data.length (x.File.Data.map eU8)]

theorem FileResult.ro (o : Bool) (x : FileResult) : D.ro.roC (FileResult.enc o x) = FileResult.enc false x := by
  simp only [FileResult.enc, D.ro.roC, D.ro, roE_map (enc := eU8) (enc' := eU8) (fun _ => rfl)]

theorem FileResult.fl (x : FileResult) : flatC (FileResult.enc true x) := (flatK flat_sc (flatK flat_sc (flatK (flat_s (flatM (fun _ => (flatK flat_sc flatN)) _)) flatN)))

noncomputable def laws_szByteS (a1 : (List Int)) (a2 : Int) : Option Int :=
  if decide ((w64 (a2 - (a1.length : Int))) < 0) then
    (some (-1))
  else
    (some (w64 (a2 - (a1.length : Int))))

noncomputable def laws_szFile (a1 : File) (a2 : Int) : Option Int :=
  if decide ((w64 (a2 - (a1.Path.size : Int))) < 0) then
    (some (-1))
  else
    ((laws_szByteS a1.Data (w64 (a2 - (a1.Path.size : Int)))).bind fun x4 =>
    if decide (x4 < 0) then
      (some (-1))
    else
      (some x4))

noncomputable def laws_szFileS_l1b (a1 : (List File)) (s10 : (Int × Int)) : Option (Lp (Int × Int) (Fl Int Int)) :=
  if decide (s10.2 < (a1.length : Int)) then
    ((idx a1 s10.2).bind fun x12 =>
    (laws_szFile x12 s10.1).bind fun x14 =>
    if decide (x14 < 0) then
      (some (Lp.done (Fl.ret (-1))))
    else
      (some (Lp.go (x14, w64 (s10.2 + 1)))))
  else
    (some (Lp.done (Fl.nxt s10.1)))

noncomputable def laws_szFileS_l1 (a1 : (List File)) : (Int × Int) → Option (Fl Int Int) := loop (laws_szFileS_l1b a1)

noncomputable def laws_szFileS (a1 : (List File)) (a2 : Int) : Option Int :=
  if decide ((w64 (a2 - (a1.length : Int))) < 0) then
    (some (-1))
  else
    ((laws_szFileS_l1 a1 (w64 (a2 - (a1.length : Int)), 0)).bind (Fl.go some fun v17 =>
    some v17))

noncomputable def laws_szDisk (a1 : Disk) (a2 : Int) : Option Int :=
  (laws_szFileS a1.Files a2).bind fun x3 =>
  if decide (x3 < 0) then
    (some (-1))
  else
    (some x3)

noncomputable def laws_toByteS_l1b (a1 : (List Int)) (s9 : ((List Int) × Int)) : Option (Lp ((List Int) × Int) (List Int)) :=
  if decide (s9.2 < (a1.length : Int)) then
    ((idx a1 s9.2).bind fun x11 =>
    (idx s9.1 s9.2).bind fun x13 =>
    some (Lp.go (s9.1.set s9.2.toNat x11, w64 (s9.2 + 1))))
  else
    (some (Lp.done s9.1))

noncomputable def laws_toByteS_l1 (a1 : (List Int)) : ((List Int) × Int) → Option (List Int) := loop (laws_toByteS_l1b a1)

noncomputable def laws_toByteS (a1 : (List Int)) : Option (List Int) :=
  (mk 1 (a1.length : Int) 0).bind fun x2 =>
  (laws_toByteS_l1 a1 (x2, 0)).bind fun v15 =>
  some v15

noncomputable def laws_toFile (a1 : File) : Option File :=
  (laws_toByteS a1.Data).bind fun x2 =>
  some ({ Path := a1.Path, Data := x2 } : File)

noncomputable def laws_toFileS_l1b (a1 : (List File)) (s11 : ((List File) × Int)) : Option (Lp ((List File) × Int) (List File)) :=
  if decide (s11.2 < (a1.length : Int)) then
    ((idx a1 s11.2).bind fun x13 =>
    (laws_toFile x13).bind fun x15 =>
    (idx s11.1 s11.2).bind fun x17 =>
    some (Lp.go (s11.1.set s11.2.toNat x15, w64 (s11.2 + 1))))
  else
    (some (Lp.done s11.1))

noncomputable def laws_toFileS_l1 (a1 : (List File)) : ((List File) × Int) → Option (List File) := loop (laws_toFileS_l1b a1)

noncomputable def laws_toFileS (a1 : (List File)) : Option (List File) :=
  (mk 40 (a1.length : Int) ({ Path := ByteArray.empty, Data := ([] : List Int) } : File)).bind fun x2 =>
  (laws_toFileS_l1 a1 (x2, 0)).bind fun v19 =>
  some v19

noncomputable def laws_toDisk (a1 : Disk) : Option Disk :=
  (laws_toFileS a1.Files).bind fun x2 =>
  some ({ Files := x2, Budget := a1.Budget, Writes := a1.Writes, Stop := a1.Stop, Down := a1.Down } : Disk)

noncomputable def spec_l1In (a1 : Int) (a2 : Int) (a3 : Int) : Option Bool :=
  if decide (a1 ≥ a2) then
    (some (decide (a1 ≤ a3)))
  else
    (some false)

noncomputable def spec_l1Letter (a1 : Int) : Option Bool :=
  if decide (a1 ≥ 97) then
    (some (decide (a1 ≤ 122)))
  else
    (some false)

noncomputable def spec_l1Digit (a1 : Int) : Option Bool :=
  if decide (a1 ≥ 48) then
    (some (decide (a1 ≤ 57)))
  else
    (some false)

noncomputable def spec_l1Name (a1 : Int) : Option Bool :=
  (spec_l1Letter a1).bind fun x2 =>
  if x2 then
    (some true)
  else
    ((spec_l1Digit a1).bind fun x5 =>
    if x5 then
      (some true)
    else
      (some (a1 == 95)))

noncomputable def spec_l7Byte (a1 : Int) : Option Bool :=
  (spec_l1Name a1).bind fun x2 =>
  if x2 then
    (some true)
  else
    (if a1 == 46 then
      (some true)
    else
      (if a1 == 45 then
        (some true)
      else
        (some (a1 == 47))))

noncomputable def spec_PathFault_l1b (a1 : ByteArray) (s11 : Int) : Option (Lp Int (Fl Int Unit)) :=
  if decide (s11 < (a1.size : Int)) then
    ((bidx a1 s11).bind fun x13 =>
    (spec_l7Byte x13).bind fun x15 =>
    if !x15 then
      (some (Lp.done (Fl.ret 5)))
    else
      (some (Lp.go (w64 (s11 + 1)))))
  else
    (some (Lp.done (Fl.nxt ())))

noncomputable def spec_PathFault_l1 (a1 : ByteArray) : Int → Option (Fl Int Unit) := loop (spec_PathFault_l1b a1)

noncomputable def spec_PathFault (a1 : ByteArray) : Option Int :=
  (if decide ((a1.size : Int) < 1) then
      (some true)
    else
      (some (decide ((a1.size : Int) > 40)))).bind fun v3 =>
  if v3 then
    (some 5)
  else
    ((spec_PathFault_l1 a1 0).bind (Fl.go some fun v18 =>
    some 0))

noncomputable def spec_l7Total_l1b (a1 : Disk) (s5 : (Int × Int)) : Option (Lp (Int × Int) Int) :=
  if decide (s5.2 < (a1.Files.length : Int)) then
    ((idx a1.Files s5.2).bind fun x7 =>
    some (Lp.go (w64 (s5.1 + (x7.Data.length : Int)), w64 (s5.2 + 1))))
  else
    (some (Lp.done s5.1))

noncomputable def spec_l7Total_l1 (a1 : Disk) : (Int × Int) → Option Int := loop (spec_l7Total_l1b a1)

noncomputable def spec_l7Total (a1 : Disk) : Option Int :=
  (spec_l7Total_l1 a1 (0, 0)).bind fun v9 =>
  some v9

noncomputable def spec_DiskFault_l1b (a1 : Disk) (s29 : Int) : Option (Lp Int (Fl Int Unit)) :=
  if decide (s29 < (a1.Files.length : Int)) then
    ((idx a1.Files s29).bind fun x31 =>
    (spec_PathFault x31.Path).bind fun x33 =>
    if x33 != 0 then
      (some (Lp.done (Fl.ret x33)))
    else
      ((if decide (s29 > 0) then
          ((idx a1.Files s29).bind fun x37 =>
          (idx a1.Files (w64 (s29 - 1))).bind fun x39 =>
          some (slt x37.Path x39.Path || seq x37.Path x39.Path))
        else
          (some false)).bind fun v41 =>
      if v41 then
        (some (Lp.done (Fl.ret 1)))
      else
        ((idx a1.Files s29).bind fun x43 =>
        if decide ((x43.Data.length : Int) > 4000) then
          (some (Lp.done (Fl.ret 2)))
        else
          (some (Lp.go (w64 (s29 + 1)))))))
  else
    (some (Lp.done (Fl.nxt ())))

noncomputable def spec_DiskFault_l1 (a1 : Disk) : Int → Option (Fl Int Unit) := loop (spec_DiskFault_l1b a1)

noncomputable def spec_DiskFault (a1 : Disk) : Option Int :=
  (spec_l1In a1.Budget 0 20000).bind fun x2 =>
  (if !x2 then
      (some true)
    else
      ((spec_l1In a1.Writes 0 1000000000).bind fun x5 =>
      if !x5 then
        (some true)
      else
        ((spec_l1In a1.Stop (-1) 1000000000).bind fun x8 =>
        some (!x8)))).bind fun v10 =>
  if v10 then
    (some 3)
  else
    (if decide ((a1.Files.length : Int) > 120) then
      (some 2)
    else
      ((spec_DiskFault_l1 a1 0).bind (Fl.go some fun v46 =>
      (spec_l7Total a1).bind fun x47 =>
      if decide (x47 > a1.Budget) then
        (some 8)
      else
        (some 0))))

noncomputable def spec_l7Find_l1b (a1 : Disk) (a2 : ByteArray) (s7 : Int) : Option (Lp Int (Fl Int Unit)) :=
  if decide (s7 < (a1.Files.length : Int)) then
    ((idx a1.Files s7).bind fun x9 =>
    if seq x9.Path a2 then
      (some (Lp.done (Fl.ret s7)))
    else
      (some (Lp.go (w64 (s7 + 1)))))
  else
    (some (Lp.done (Fl.nxt ())))

noncomputable def spec_l7Find_l1 (a1 : Disk) (a2 : ByteArray) : Int → Option (Fl Int Unit) := loop (spec_l7Find_l1b a1 a2)

noncomputable def spec_l7Find (a1 : Disk) (a2 : ByteArray) : Option Int :=
  (spec_l7Find_l1 a1 a2 0).bind (Fl.go some fun v12 =>
  some (-1))

noncomputable def spec_ReadFile (a1 : Disk) (a2 : ByteArray) : Option FileResult :=
  (spec_DiskFault a1).bind fun x3 =>
  if x3 != 0 then
    (some ({ Code := x3, File := ({ Path := ByteArray.empty, Data := ([] : List Int) } : File) } : FileResult))
  else
    (if a1.Down then
      (some ({ Code := 9, File := ({ Path := ByteArray.empty, Data := ([] : List Int) } : File) } : FileResult))
    else
      ((spec_l7Find a1 a2).bind fun x7 =>
      if decide (x7 < 0) then
        (some ({ Code := 4, File := ({ Path := ByteArray.empty, Data := ([] : List Int) } : File) } : FileResult))
      else
        ((idx a1.Files x7).bind fun x10 =>
        (app 1 ([] : List Int) x10.Data).bind fun x12 =>
        some ({ Code := 0, File := ({ Path := a2, Data := x12 } : File) } : FileResult))))

noncomputable def impl_within (a1 : Int) (a2 : Int) (a3 : Int) : Option Bool :=
  if decide (a2 ≤ a1) then
    (some (decide (a1 ≤ a3)))
  else
    (some false)

noncomputable def impl_isNameByte (a1 : Int) : Option Bool :=
  if decide (a1 ≥ 97) then
    (if decide (a1 ≤ 122) then
      (some true)
    else
      (if decide (a1 ≥ 48) then
        (if decide (a1 ≤ 57) then
          (some true)
        else
          (some (a1 == 95)))
      else
        (some (a1 == 95))))
  else
    (if decide (a1 ≥ 48) then
      (if decide (a1 ≤ 57) then
        (some true)
      else
        (some (a1 == 95)))
    else
      (some (a1 == 95)))

noncomputable def impl_PathFault_l1b (a1 : ByteArray) (s15 : Int) : Option (Lp Int (Fl Int Unit)) :=
  if decide (s15 < (a1.size : Int)) then
    ((bidx a1 s15).bind fun x17 =>
    (impl_isNameByte x17).bind fun x19 =>
    (if !x19 then
        (if x17 != 46 then
          (if x17 != 45 then
            (some (x17 != 47))
          else
            (some false))
        else
          (some false))
      else
        (some false)).bind fun v24 =>
    if v24 then
      (some (Lp.done (Fl.ret 5)))
    else
      (some (Lp.go (w64 (s15 + 1)))))
  else
    (some (Lp.done (Fl.nxt ())))

noncomputable def impl_PathFault_l1 (a1 : ByteArray) : Int → Option (Fl Int Unit) := loop (impl_PathFault_l1b a1)

noncomputable def impl_PathFault (a1 : ByteArray) : Option Int :=
  (if decide ((a1.size : Int) < 1) then
      (some true)
    else
      (some (decide ((a1.size : Int) > 40)))).bind fun v3 =>
  if v3 then
    (some 5)
  else
    ((impl_PathFault_l1 a1 0).bind (Fl.go some fun v26 =>
    some 0))

noncomputable def impl_Disk_total_l1b (a1 : Disk) (s5 : (Int × Int)) : Option (Lp (Int × Int) Int) :=
  if decide (s5.2 < (a1.Files.length : Int)) then
    ((idx a1.Files s5.2).bind fun x7 =>
    some (Lp.go (w64 (s5.1 + (x7.Data.length : Int)), w64 (s5.2 + 1))))
  else
    (some (Lp.done s5.1))

noncomputable def impl_Disk_total_l1 (a1 : Disk) : (Int × Int) → Option Int := loop (impl_Disk_total_l1b a1)

noncomputable def impl_Disk_total (a1 : Disk) : Option Int :=
  (impl_Disk_total_l1 a1 (0, 0)).bind fun v9 =>
  some v9

noncomputable def impl_DiskFault_l1b (a1 : Disk) (s25 : Int) : Option (Lp Int (Fl Int Unit)) :=
  if decide (s25 < (a1.Files.length : Int)) then
    ((idx a1.Files s25).bind fun x27 =>
    (impl_PathFault x27.Path).bind fun x29 =>
    if x29 != 0 then
      (some (Lp.done (Fl.ret x29)))
    else
      ((if decide (s25 > 0) then
          ((idx a1.Files (w64 (s25 - 1))).bind fun x33 =>
          some (slt x27.Path x33.Path || seq x27.Path x33.Path))
        else
          (some false)).bind fun v35 =>
      if v35 then
        (some (Lp.done (Fl.ret 1)))
      else
        (if decide ((x27.Data.length : Int) > 4000) then
          (some (Lp.done (Fl.ret 2)))
        else
          (some (Lp.go (w64 (s25 + 1)))))))
  else
    (some (Lp.done (Fl.nxt ())))

noncomputable def impl_DiskFault_l1 (a1 : Disk) : Int → Option (Fl Int Unit) := loop (impl_DiskFault_l1b a1)

noncomputable def impl_DiskFault (a1 : Disk) : Option Int :=
  (impl_within a1.Budget 0 20000).bind fun x2 =>
  (if !x2 then
      (some true)
    else
      ((impl_within a1.Writes 0 1000000000).bind fun x5 =>
      if !x5 then
        (some true)
      else
        ((impl_within a1.Stop (-1) 1000000000).bind fun x8 =>
        some (!x8)))).bind fun v10 =>
  if v10 then
    (some 3)
  else
    (if decide ((a1.Files.length : Int) > 120) then
      (some 2)
    else
      ((impl_DiskFault_l1 a1 0).bind (Fl.go some fun v38 =>
      (impl_Disk_total a1).bind fun x39 =>
      if decide (x39 > a1.Budget) then
        (some 8)
      else
        (some 0))))

noncomputable def bytealg_CompareString (a1 a2 : ByteArray) : Option Int := some (cmpB a1 a2)

noncomputable def strings_Compare (a1 : ByteArray) (a2 : ByteArray) : Option Int :=
  (bytealg_CompareString a1 a2).bind fun x3 =>
  some x3

noncomputable def impl_Disk_place_1 (a1 : File) (a2 : ByteArray) : Option Int :=
  (strings_Compare a1.Path a2).bind fun x3 =>
  some x3

noncomputable def slices_BinarySearchFunc_LimplFile_impl_Disk_place_1_l1b (a1 : (List File)) (a2 : ByteArray) (s9 : (Int × Int)) : Option (Lp (Int × Int) Int) :=
  if decide (s9.1 < s9.2) then
    ((idx a1 (w64 ((IntKind.u64.wrap (w64 (s9.1 + s9.2))).fdiv (2 ^ (min (1 : Int).toNat 64))))).bind fun x11 =>
    (impl_Disk_place_1 x11 a2).bind fun x13 =>
    if decide (x13 < 0) then
      (some (Lp.go (w64 ((w64 ((IntKind.u64.wrap (w64 (s9.1 + s9.2))).fdiv (2 ^ (min (1 : Int).toNat 64)))) + 1), s9.2)))
    else
      (some (Lp.go (s9.1, w64 ((IntKind.u64.wrap (w64 (s9.1 + s9.2))).fdiv (2 ^ (min (1 : Int).toNat 64)))))))
  else
    (some (Lp.done s9.1))

noncomputable def slices_BinarySearchFunc_LimplFile_impl_Disk_place_1_l1 (a1 : (List File)) (a2 : ByteArray) : (Int × Int) → Option Int := loop (slices_BinarySearchFunc_LimplFile_impl_Disk_place_1_l1b a1 a2)

noncomputable def slices_BinarySearchFunc_LimplFile_impl_Disk_place_1 (a1 : (List File)) (a2 : ByteArray) : Option (Int × Bool) :=
  (slices_BinarySearchFunc_LimplFile_impl_Disk_place_1_l1 a1 a2 (0, (a1.length : Int))).bind fun v16 =>
  if decide (v16 < (a1.length : Int)) then
    ((idx a1 v16).bind fun x18 =>
    (impl_Disk_place_1 x18 a2).bind fun x20 =>
    some (v16, x20 == 0))
  else
    (some (v16, false))

noncomputable def impl_Disk_place (a1 : Disk) (a2 : ByteArray) : Option (Int × Bool) :=
  (slices_BinarySearchFunc_LimplFile_impl_Disk_place_1 a1.Files a2).bind fun x3 =>
  some (x3.1, x3.2)

noncomputable def impl_Disk_data (a1 : Disk) (a2 : ByteArray) : Option ((List Int) × Bool) :=
  (impl_Disk_place a1 a2).bind fun x3 =>
  if !x3.2 then
    (some (([] : List Int), false))
  else
    ((idx a1.Files x3.1).bind fun x6 =>
    some (x6.Data, true))

noncomputable def slices_Clone_Lbyte (a1 : (List Int)) : Option (List Int) :=
  (app 1 ([] : List Int) a1).bind fun x3 =>
  some x3

noncomputable def impl_ReadFile (a1 : Disk) (a2 : ByteArray) : Option FileResult :=
  (impl_DiskFault a1).bind fun x3 =>
  (if x3 == 0 then
      (some a1.Down)
    else
      (some false)).bind fun v6 =>
  (if v6 then
      (some 9)
    else
      (some x3)).bind fun v8 =>
  (impl_Disk_data a1 a2).bind fun x9 =>
  (if v8 == 0 then
      (some (!x9.2))
    else
      (some false)).bind fun v12 =>
  (if v12 then
      (some 4)
    else
      (some v8)).bind fun v14 =>
  if v14 != 0 then
    (some ({ Code := v14, File := ({ Path := ByteArray.empty, Data := ([] : List Int) } : File) } : FileResult))
  else
    ((slices_Clone_Lbyte x9.1).bind fun x16 =>
    some ({ Code := 0, File := ({ Path := a2, Data := x16 } : File) } : FileResult))

noncomputable def laws_eqByteS_l1b (a1 : (List Int)) (a2 : (List Int)) (s10 : Int) : Option (Lp Int (Fl Bool Unit)) :=
  if decide (s10 < (a1.length : Int)) then
    ((idx a1 s10).bind fun x12 =>
    (idx a2 s10).bind fun x14 =>
    if x12 != x14 then
      (some (Lp.done (Fl.ret false)))
    else
      (some (Lp.go (w64 (s10 + 1)))))
  else
    (some (Lp.done (Fl.nxt ())))

noncomputable def laws_eqByteS_l1 (a1 : (List Int)) (a2 : (List Int)) : Int → Option (Fl Bool Unit) := loop (laws_eqByteS_l1b a1 a2)

noncomputable def laws_eqByteS (a1 : (List Int)) (a2 : (List Int)) : Option Bool :=
  if (a1.length : Int) != (a2.length : Int) then
    (some false)
  else
    ((laws_eqByteS_l1 a1 a2 0).bind (Fl.go some fun v17 =>
    some true))

noncomputable def laws_eqFile (a1 : File) (a2 : File) : Option Bool :=
  if !(seq a1.Path a2.Path) then
    (some false)
  else
    ((laws_eqByteS a1.Data a2.Data).bind fun x4 =>
    if !x4 then
      (some false)
    else
      (some true))

noncomputable def laws_eqFileResult (a1 : FileResult) (a2 : FileResult) : Option Bool :=
  if a1.Code != a2.Code then
    (some false)
  else
    ((laws_eqFile a1.File a2.File).bind fun x4 =>
    if !x4 then
      (some false)
    else
      (some true))

noncomputable def laws_eqFileS_l1b (a1 : (List File)) (a2 : (List File)) (s12 : Int) : Option (Lp Int (Fl Bool Unit)) :=
  if decide (s12 < (a1.length : Int)) then
    ((idx a1 s12).bind fun x14 =>
    (idx a2 s12).bind fun x16 =>
    (laws_eqFile x14 x16).bind fun x18 =>
    if !x18 then
      (some (Lp.done (Fl.ret false)))
    else
      (some (Lp.go (w64 (s12 + 1)))))
  else
    (some (Lp.done (Fl.nxt ())))

noncomputable def laws_eqFileS_l1 (a1 : (List File)) (a2 : (List File)) : Int → Option (Fl Bool Unit) := loop (laws_eqFileS_l1b a1 a2)

noncomputable def laws_eqFileS (a1 : (List File)) (a2 : (List File)) : Option Bool :=
  if (a1.length : Int) != (a2.length : Int) then
    (some false)
  else
    ((laws_eqFileS_l1 a1 a2 0).bind (Fl.go some fun v21 =>
    some true))

noncomputable def laws_eqDisk (a1 : Disk) (a2 : Disk) : Option Bool :=
  (laws_eqFileS a1.Files a2.Files).bind fun x3 =>
  if !x3 then
    (some false)
  else
    (if a1.Budget != a2.Budget then
      (some false)
    else
      (if a1.Writes != a2.Writes then
        (some false)
      else
        (if a1.Stop != a2.Stop then
          (some false)
        else
          (if !(a1.Down == a2.Down) then
            (some false)
          else
            (some true)))))

noncomputable def laws_markText_l1b  (s6 : (Int × ByteArray)) : Option (Lp (Int × ByteArray) ByteArray) :=
  if decide (s6.1 > 0) then
    ((cat (b2s [IntKind.u8.wrap (w64 (48 + (s6.1.tmod 10)))]) s6.2).bind fun x8 =>
    some (Lp.go (w64 (s6.1.tdiv 10), x8)))
  else
    (some (Lp.done s6.2))

noncomputable def laws_markText_l1  : (Int × ByteArray) → Option ByteArray := loop laws_markText_l1b

noncomputable def laws_markText (a1 : Int) : Option ByteArray :=
  if decide (a1 ≤ 0) then
    (some (bs [109, 48]))
  else
    ((laws_markText_l1 (a1, bs [])).bind fun v10 =>
    (cat (bs [109]) v10).bind fun x11 =>
    some x11)

noncomputable def laws_markByteSr_l1b  (s6 : ((List Int) × Int × Int)) : Option (Lp ((List Int) × Int × Int) ((List Int) × Int)) :=
  if decide (s6.2.2 < (s6.1.length : Int)) then
    ((idx s6.1 s6.2.2).bind fun x8 =>
    some (Lp.go (s6.1.set s6.2.2.toNat (IntKind.u8.wrap (s6.2.1)), w64 (s6.2.1 + 1), w64 (s6.2.2 + 1))))
  else
    (some (Lp.done (s6.1, s6.2.1)))

noncomputable def laws_markByteSr_l1  : ((List Int) × Int × Int) → Option ((List Int) × Int) := loop laws_markByteSr_l1b

noncomputable def laws_markByteSr (a1 : (List Int)) (a2 : Int) : Option (Int × (List Int)) :=
  (laws_markByteSr_l1 (a1, a2, 0)).bind fun v10 =>
  some (v10.2, v10.1)

noncomputable def laws_markFileSr_l1b  (s14 : ((List File) × Int × Int)) : Option (Lp ((List File) × Int × Int) ((List File) × Int)) :=
  if decide (s14.2.2 < (s14.1.length : Int)) then
    ((laws_markText s14.2.1).bind fun x16 =>
    (idx s14.1 s14.2.2).bind fun x18 =>
    (idx (s14.1.set s14.2.2.toNat ({ Path := x16, Data := x18.Data } : File)) s14.2.2).bind fun x20 =>
    (laws_markByteSr x20.Data (w64 (s14.2.1 + 1))).bind fun x22 =>
    (same x22.2 x20.Data).bind fun u24 =>
    some (Lp.go ((s14.1.set s14.2.2.toNat ({ Path := x16, Data := x18.Data } : File)).set s14.2.2.toNat ({ Path := x20.Path, Data := x22.2 } : File), x22.1, w64 (s14.2.2 + 1))))
  else
    (some (Lp.done (s14.1, s14.2.1)))

noncomputable def laws_markFileSr_l1  : ((List File) × Int × Int) → Option ((List File) × Int) := loop laws_markFileSr_l1b

noncomputable def laws_markFileSr (a1 : (List File)) (a2 : Int) : Option (Int × (List File)) :=
  (laws_markFileSr_l1 (a1, a2, 0)).bind fun v26 =>
  some (v26.2, v26.1)

noncomputable def laws_markDiskg (a1 : Disk) (a2 : Int) : Option (Int × (List File)) :=
  (laws_markFileSr a1.Files a2).bind fun x3 =>
  (same x3.2 a1.Files).bind fun u5 =>
  some (x3.1, x3.2)

noncomputable def laws_markFileg (a1 : File) (a2 : Int) : Option (Int × (List Int)) :=
  (laws_markByteSr a1.Data a2).bind fun x3 =>
  (same x3.2 a1.Data).bind fun u5 =>
  some (x3.1, x3.2)

noncomputable def laws_markFileResultg (a1 : FileResult) (a2 : Int) : Option (Int × (List Int)) :=
  (laws_markFileg a1.File a2).bind fun x3 =>
  (same x3.2 a1.File.Data).bind fun u5 =>
  some (x3.1, x3.2)

noncomputable def laws_heldByteS_l1b (a1 : (List Int)) (s7 : (Int × Int)) : Option (Lp (Int × Int) (Fl Int Int)) :=
  if decide (s7.2 < (a1.length : Int)) then
    ((idx a1 s7.2).bind fun x9 =>
    if x9 != (IntKind.u8.wrap (s7.1)) then
      (some (Lp.done (Fl.ret (-1))))
    else
      (some (Lp.go (w64 (s7.1 + 1), w64 (s7.2 + 1)))))
  else
    (some (Lp.done (Fl.nxt s7.1)))

noncomputable def laws_heldByteS_l1 (a1 : (List Int)) : (Int × Int) → Option (Fl Int Int) := loop (laws_heldByteS_l1b a1)

noncomputable def laws_heldByteS (a1 : (List Int)) (a2 : Int) : Option Int :=
  (laws_heldByteS_l1 a1 (a2, 0)).bind (Fl.go some fun v12 =>
  some v12)

noncomputable def laws_heldFile (a1 : File) (a2 : Int) : Option Int :=
  (laws_heldByteS a1.Data a2).bind fun x3 =>
  if decide (x3 < 0) then
    (some (-1))
  else
    (some x3)

noncomputable def laws_heldFileResult (a1 : FileResult) (a2 : Int) : Option Int :=
  (laws_heldFile a1.File a2).bind fun x3 =>
  if decide (x3 < 0) then
    (some (-1))
  else
    (some x3)

noncomputable def laws_FnExactReadFile (a1 : Disk) (a2 : ByteArray) : Option Bool :=
  if decide ((a2.size : Int) > 1048576) then
    (some true)
  else
    ((laws_szDisk a1 1048576).bind fun x4 =>
    if decide (x4 < 0) then
      (some true)
    else
      ((laws_toDisk a1).bind fun x7 =>
      (spec_ReadFile x7 a2).bind fun x9 =>
      (laws_toDisk a1).bind fun x11 =>
      (impl_ReadFile x11 a2).bind fun x13 =>
      (laws_eqFileResult x13 x9).bind fun x15 =>
      if !x15 then
        (some false)
      else
        ((laws_toDisk a1).bind fun x18 =>
        (laws_eqDisk x11 x18).bind fun x20 =>
        if !x20 then
          (some false)
        else
          ((laws_markDiskg x11 1).bind fun x23 =>
          (if decide (x23.1 < 0) then
              (some true)
            else
              ((laws_eqFileResult x13 x9).bind fun x26 =>
              some (!x26))).bind fun v28 =>
          if v28 then
            (some false)
          else
            ((laws_markFileResultg x13 1).bind fun x30 =>
            (same x30.2 x13.File.Data).bind fun u32 =>
            (laws_heldFileResult ({ Code := x13.Code, File := ({ Path := x13.File.Path, Data := x30.2 } : File) } : FileResult) 1).bind fun x34 =>
            if decide (x34 < 0) then
              (some false)
            else
              (if x34 != x30.1 then
                (some false)
              else
                ((laws_toDisk a1).bind fun x38 =>
                (impl_ReadFile x38 a2).bind fun x40 =>
                (laws_eqFileResult x40 x9).bind fun x42 =>
                if !x42 then
                  (some false)
                else
                  ((laws_heldFileResult ({ Code := x13.Code, File := ({ Path := x13.File.Path, Data := x30.2 } : File) } : FileResult) 1).bind fun x45 =>
                  if decide (x45 < 0) then
                    (some false)
                  else
                    (if x45 != x30.1 then
                      (some false)
                    else
                      (some true))))))))))

end Go.Told

import Derived.Test.YtgapldhjcgnahaaIm39
set_option linter.unusedVariables false
set_option maxRecDepth 4000
namespace Go.Told
open Go Go.Im

structure File where
  Path : ByteArray
  Data : (List Int)
  deriving DecidableEq

def File.enc (o : Bool) (x : File) : List D := [.sc (.string x.Path), .s o 1 x.Data.length (x.Data.map eU8)]

theorem File.ro (o : Bool) (x : File) : D.ro.roC (File.enc o x) = File.enc false x := by
  simp only [File.enc, D.ro.roC, D.ro, roE_map (enc := eU8) (enc' := eU8) (fun _ => rfl)]

theorem File.fl (x : File) : flatC (File.enc true x) := (flatK flat_sc (flatK (flat_s (flatM (fun _ => (flatK flat_sc flatN)) _)) flatN))

structure Disk where
  Files : (List File)
  Budget : Int
  Writes : Int
  Stop : Int
  Down : Bool
  deriving DecidableEq

def Disk.enc (o : Bool) (x : Disk) : List D := [.s o 2 x.Files.length (x.Files.map (File.enc o)), .sc (.int .i64 x.Budget), .sc (.int .i64 x.Writes), .sc (.int .i64 x.Stop), .sc (.bool x.Down)]

theorem Disk.ro (o : Bool) (x : Disk) : D.ro.roC (Disk.enc o x) = Disk.enc false x := by
  simp only [Disk.enc, D.ro.roC, D.ro, roE_map (enc := (File.enc o)) (enc' := (File.enc false)) (File.ro o)]

theorem Disk.fl (x : Disk) : flatC (Disk.enc true x) := (flatK (flat_s (flatM (fun _ => (File.fl _)) _)) (flatK flat_sc (flatK flat_sc (flatK flat_sc (flatK flat_sc flatN)))))

structure IntResult where
  Code : Int
  Value : Int
  deriving DecidableEq

def IntResult.enc (x : IntResult) : List D := [.sc (.int .i64 x.Code), .sc (.int .i64 x.Value)]

theorem IntResult.fl (x : IntResult) : flatC (IntResult.enc x) := (flatK flat_sc (flatK flat_sc flatN))

noncomputable def laws_szByteS (a1 : (List Int)) (a2 : Int) : Option Int :=
  if decide ((w64 (a2 - (a1.length : Int))) < 0) then
    (some (-1))
  else
    (some (w64 (a2 - (a1.length : Int))))

noncomputable def laws_szFile (a1 : File) (a2 : Int) : Option Int :=
  if decide ((w64 (a2 - (a1.Path.size : Int))) < 0) then
    (some (-1))
  else
    ((laws_szByteS a1.Data (w64 (a2 - (a1.Path.size : Int)))).bind fun x4 =>
    if decide (x4 < 0) then
      (some (-1))
    else
      (some x4))

noncomputable def laws_szFileS_l1b (a1 : (List File)) (s10 : (Int × Int)) : Option (Lp (Int × Int) (Fl Int Int)) :=
  if decide (s10.2 < (a1.length : Int)) then
    ((idx a1 s10.2).bind fun x12 =>
    (laws_szFile x12 s10.1).bind fun x14 =>
    if decide (x14 < 0) then
      (some (Lp.done (Fl.ret (-1))))
    else
      (some (Lp.go (x14, w64 (s10.2 + 1)))))
  else
    (some (Lp.done (Fl.nxt s10.1)))

noncomputable def laws_szFileS_l1 (a1 : (List File)) : (Int × Int) → Option (Fl Int Int) := loop (laws_szFileS_l1b a1)

noncomputable def laws_szFileS (a1 : (List File)) (a2 : Int) : Option Int :=
  if decide ((w64 (a2 - (a1.length : Int))) < 0) then
    (some (-1))
  else
    ((laws_szFileS_l1 a1 (w64 (a2 - (a1.length : Int)), 0)).bind (Fl.go some fun v17 =>
    some v17))

noncomputable def laws_szDisk (a1 : Disk) (a2 : Int) : Option Int :=
  (laws_szFileS a1.Files a2).bind fun x3 =>
  if decide (x3 < 0) then
    (some (-1))
  else
    (some x3)

noncomputable def laws_toByteS_l1b (a1 : (List Int)) (s9 : ((List Int) × Int)) : Option (Lp ((List Int) × Int) (List Int)) :=
  if decide (s9.2 < (a1.length : Int)) then
    ((idx a1 s9.2).bind fun x11 =>
    (idx s9.1 s9.2).bind fun x13 =>
    some (Lp.go (s9.1.set s9.2.toNat x11, w64 (s9.2 + 1))))
  else
    (some (Lp.done s9.1))

noncomputable def laws_toByteS_l1 (a1 : (List Int)) : ((List Int) × Int) → Option (List Int) := loop (laws_toByteS_l1b a1)

noncomputable def laws_toByteS (a1 : (List Int)) : Option (List Int) :=
  (mk 1 (a1.length : Int) 0).bind fun x2 =>
  (laws_toByteS_l1 a1 (x2, 0)).bind fun v15 =>
  some v15

noncomputable def laws_toFile (a1 : File) : Option File :=
  (laws_toByteS a1.Data).bind fun x2 =>
  some ({ Path := a1.Path, Data := x2 } : File)

noncomputable def laws_toFileS_l1b (a1 : (List File)) (s11 : ((List File) × Int)) : Option (Lp ((List File) × Int) (List File)) :=
  if decide (s11.2 < (a1.length : Int)) then
    ((idx a1 s11.2).bind fun x13 =>
    (laws_toFile x13).bind fun x15 =>
    (idx s11.1 s11.2).bind fun x17 =>
    some (Lp.go (s11.1.set s11.2.toNat x15, w64 (s11.2 + 1))))
  else
    (some (Lp.done s11.1))

noncomputable def laws_toFileS_l1 (a1 : (List File)) : ((List File) × Int) → Option (List File) := loop (laws_toFileS_l1b a1)

noncomputable def laws_toFileS (a1 : (List File)) : Option (List File) :=
  (mk 40 (a1.length : Int) ({ Path := ByteArray.empty, Data := ([] : List Int) } : File)).bind fun x2 =>
  (laws_toFileS_l1 a1 (x2, 0)).bind fun v19 =>
  some v19

noncomputable def laws_toDisk (a1 : Disk) : Option Disk :=
  (laws_toFileS a1.Files).bind fun x2 =>
  some ({ Files := x2, Budget := a1.Budget, Writes := a1.Writes, Stop := a1.Stop, Down := a1.Down } : Disk)

noncomputable def spec_l1In (a1 : Int) (a2 : Int) (a3 : Int) : Option Bool :=
  if decide (a1 ≥ a2) then
    (some (decide (a1 ≤ a3)))
  else
    (some false)

noncomputable def spec_l1Letter (a1 : Int) : Option Bool :=
  if decide (a1 ≥ 97) then
    (some (decide (a1 ≤ 122)))
  else
    (some false)

noncomputable def spec_l1Digit (a1 : Int) : Option Bool :=
  if decide (a1 ≥ 48) then
    (some (decide (a1 ≤ 57)))
  else
    (some false)

noncomputable def spec_l1Name (a1 : Int) : Option Bool :=
  (spec_l1Letter a1).bind fun x2 =>
  if x2 then
    (some true)
  else
    ((spec_l1Digit a1).bind fun x5 =>
    if x5 then
      (some true)
    else
      (some (a1 == 95)))

noncomputable def spec_l7Byte (a1 : Int) : Option Bool :=
  (spec_l1Name a1).bind fun x2 =>
  if x2 then
    (some true)
  else
    (if a1 == 46 then
      (some true)
    else
      (if a1 == 45 then
        (some true)
      else
        (some (a1 == 47))))

noncomputable def spec_PathFault_l1b (a1 : ByteArray) (s11 : Int) : Option (Lp Int (Fl Int Unit)) :=
  if decide (s11 < (a1.size : Int)) then
    ((bidx a1 s11).bind fun x13 =>
    (spec_l7Byte x13).bind fun x15 =>
    if !x15 then
      (some (Lp.done (Fl.ret 5)))
    else
      (some (Lp.go (w64 (s11 + 1)))))
  else
    (some (Lp.done (Fl.nxt ())))

noncomputable def spec_PathFault_l1 (a1 : ByteArray) : Int → Option (Fl Int Unit) := loop (spec_PathFault_l1b a1)

noncomputable def spec_PathFault (a1 : ByteArray) : Option Int :=
  (if decide ((a1.size : Int) < 1) then
      (some true)
    else
      (some (decide ((a1.size : Int) > 40)))).bind fun v3 =>
  if v3 then
    (some 5)
  else
    ((spec_PathFault_l1 a1 0).bind (Fl.go some fun v18 =>
    some 0))

noncomputable def spec_l7Total_l1b (a1 : Disk) (s5 : (Int × Int)) : Option (Lp (Int × Int) Int) :=
  if decide (s5.2 < (a1.Files.length : Int)) then
    ((idx a1.Files s5.2).bind fun x7 =>
    some (Lp.go (w64 (s5.1 + (x7.Data.length : Int)), w64 (s5.2 + 1))))
  else
    (some (Lp.done s5.1))

noncomputable def spec_l7Total_l1 (a1 : Disk) : (Int × Int) → Option Int := loop (spec_l7Total_l1b a1)

noncomputable def spec_l7Total (a1 : Disk) : Option Int :=
  (spec_l7Total_l1 a1 (0, 0)).bind fun v9 =>
  some v9

noncomputable def spec_DiskFault_l1b (a1 : Disk) (s29 : Int) : Option (Lp Int (Fl Int Unit)) :=
  if decide (s29 < (a1.Files.length : Int)) then
    ((idx a1.Files s29).bind fun x31 =>
    (spec_PathFault x31.Path).bind fun x33 =>
    if x33 != 0 then
      (some (Lp.done (Fl.ret x33)))
    else
      ((if decide (s29 > 0) then
          ((idx a1.Files s29).bind fun x37 =>
          (idx a1.Files (w64 (s29 - 1))).bind fun x39 =>
          some (slt x37.Path x39.Path || seq x37.Path x39.Path))
        else
          (some false)).bind fun v41 =>
      if v41 then
        (some (Lp.done (Fl.ret 1)))
      else
        ((idx a1.Files s29).bind fun x43 =>
        if decide ((x43.Data.length : Int) > 4000) then
          (some (Lp.done (Fl.ret 2)))
        else
          (some (Lp.go (w64 (s29 + 1)))))))
  else
    (some (Lp.done (Fl.nxt ())))

noncomputable def spec_DiskFault_l1 (a1 : Disk) : Int → Option (Fl Int Unit) := loop (spec_DiskFault_l1b a1)

noncomputable def spec_DiskFault (a1 : Disk) : Option Int :=
  (spec_l1In a1.Budget 0 20000).bind fun x2 =>
  (if !x2 then
      (some true)
    else
      ((spec_l1In a1.Writes 0 1000000000).bind fun x5 =>
      if !x5 then
        (some true)
      else
        ((spec_l1In a1.Stop (-1) 1000000000).bind fun x8 =>
        some (!x8)))).bind fun v10 =>
  if v10 then
    (some 3)
  else
    (if decide ((a1.Files.length : Int) > 120) then
      (some 2)
    else
      ((spec_DiskFault_l1 a1 0).bind (Fl.go some fun v46 =>
      (spec_l7Total a1).bind fun x47 =>
      if decide (x47 > a1.Budget) then
        (some 8)
      else
        (some 0))))

noncomputable def spec_l7Begins (a1 : ByteArray) (a2 : ByteArray) : Option Bool :=
  if decide ((a1.size : Int) ≥ (a2.size : Int)) then
    ((ssub a1 0 (a2.size : Int)).bind fun x4 =>
    some (seq x4 a2))
  else
    (some false)

noncomputable def spec_l7Paths_l1b (a1 : Disk) (a2 : ByteArray) (s14 : ((List ByteArray) × Int)) : Option (Lp ((List ByteArray) × Int) (List ByteArray)) :=
  if decide (s14.2 < (a1.Files.length : Int)) then
    ((idx a1.Files s14.2).bind fun x16 =>
    (spec_l7Begins x16.Path a2).bind fun x18 =>
    (if x18 then
        ((idx a1.Files s14.2).bind fun x21 =>
        (app 16 s14.1 [x21.Path]).bind fun x23 =>
        some x23)
      else
        (some s14.1)).bind fun v25 =>
    some (Lp.go (v25, w64 (s14.2 + 1))))
  else
    (some (Lp.done s14.1))

noncomputable def spec_l7Paths_l1 (a1 : Disk) (a2 : ByteArray) : ((List ByteArray) × Int) → Option (List ByteArray) := loop (spec_l7Paths_l1b a1 a2)

noncomputable def spec_l7Paths (a1 : Disk) (a2 : ByteArray) : Option (List ByteArray) :=
  (spec_l7Paths_l1 a1 a2 (([] : List ByteArray), 0)).bind fun v26 =>
  some v26

noncomputable def spec_l1Number_l1b (a1 : ByteArray) (s14 : (Int × Int)) : Option (Lp (Int × Int) (Fl (Int × Bool) Int)) :=
  if decide (s14.2 < (a1.size : Int)) then
    ((bidx a1 s14.2).bind fun x16 =>
    (spec_l1Digit x16).bind fun x18 =>
    if !x18 then
      (some (Lp.done (Fl.ret (0, false))))
    else
      ((bidx a1 s14.2).bind fun x21 =>
      some (Lp.go (w64 ((w64 (s14.1 * 10)) + (w64 (IntKind.u8.wrap (x21 - 48)))), w64 (s14.2 + 1)))))
  else
    (some (Lp.done (Fl.nxt s14.1)))

noncomputable def spec_l1Number_l1 (a1 : ByteArray) : (Int × Int) → Option (Fl (Int × Bool) Int) := loop (spec_l1Number_l1b a1)

noncomputable def spec_l1Number (a1 : ByteArray) (a2 : Int) : Option (Int × Bool) :=
  (if decide ((a1.size : Int) < 1) then
      (some true)
    else
      (some (decide ((a1.size : Int) > a2)))).bind fun v4 =>
  if v4 then
    (some (0, false))
  else
    ((spec_l1Number_l1 a1 (0, 0)).bind (Fl.go some fun v23 =>
    some (v23, true)))

noncomputable def spec_l1Decimal_r (g : Int → Option ByteArray) (s : Int) : Option ByteArray :=
  match s with
  | a1 =>
  if decide (a1 < 10) then
    (some (b2s [IntKind.u8.wrap (w64 (48 + a1))]))
  else
    ((g (w64 (a1.tdiv 10))).bind fun x3 =>
    (cat x3 (b2s [IntKind.u8.wrap (w64 (48 + (a1.tmod 10)))])).bind fun x5 =>
    some x5)

noncomputable def spec_l1Decimal (a1 : Int) : Option ByteArray := recF spec_l1Decimal_r 64 a1

noncomputable def spec_GenPath (a1 : Int) : Option ByteArray :=
  (spec_l1In a1 1 999999).bind fun x2 =>
  if !x2 then
    (some (bs []))
  else
    ((spec_l1Decimal (w64 (1000000 + a1))).bind fun x5 =>
    (ssub x5 1 (x5.size : Int)).bind fun x7 =>
    (cat (bs [103, 101, 110, 47]) x7).bind fun x9 =>
    some x9)

noncomputable def spec_l8Gens_l1b (a1 : Disk) (x2 : (List ByteArray)) (s21 : ((List Int) × Int)) : Option (Lp ((List Int) × Int) (List Int)) :=
  if decide (s21.2 < (x2.length : Int)) then
    ((idx x2 s21.2).bind fun x23 =>
    (ssub x23 4 (x23.size : Int)).bind fun x25 =>
    (spec_l1Number x25 6).bind fun x27 =>
    (if x27.2 then
        ((spec_GenPath x27.1).bind fun x30 =>
        (idx x2 s21.2).bind fun x32 =>
        some (seq x30 x32))
      else
        (some false)).bind fun v34 =>
    (if v34 then
        ((app 8 s21.1 [x27.1]).bind fun x36 =>
        some x36)
      else
        (some s21.1)).bind fun v38 =>
    some (Lp.go (v38, w64 (s21.2 + 1))))
  else
    (some (Lp.done s21.1))

noncomputable def spec_l8Gens_l1 (a1 : Disk) (x2 : (List ByteArray)) : ((List Int) × Int) → Option (List Int) := loop (spec_l8Gens_l1b a1 x2)

noncomputable def spec_l8Gens (a1 : Disk) : Option (List Int) :=
  (spec_l7Paths a1 (bs [103, 101, 110, 47])).bind fun x2 =>
  (spec_l8Gens_l1 a1 x2 (([] : List Int), 0)).bind fun v39 =>
  some v39

noncomputable def spec_l8Next (a1 : Disk) : Option Int :=
  (spec_l8Gens a1).bind fun x2 =>
  if (x2.length : Int) == 0 then
    (some 1)
  else
    ((idx x2 (w64 ((x2.length : Int) - 1))).bind fun x5 =>
    some (w64 (x5 + 1)))

noncomputable def spec_NextGen (a1 : Disk) : Option IntResult :=
  (spec_DiskFault a1).bind fun x2 =>
  if x2 != 0 then
    (some ({ Code := x2, Value := 0 } : IntResult))
  else
    ((spec_l8Next a1).bind fun x5 =>
    if decide (x5 > 999999) then
      (some ({ Code := 2, Value := 0 } : IntResult))
    else
      (some ({ Code := 0, Value := x5 } : IntResult)))

noncomputable def impl_within (a1 : Int) (a2 : Int) (a3 : Int) : Option Bool :=
  if decide (a2 ≤ a1) then
    (some (decide (a1 ≤ a3)))
  else
    (some false)

noncomputable def impl_isNameByte (a1 : Int) : Option Bool :=
  if decide (a1 ≥ 97) then
    (if decide (a1 ≤ 122) then
      (some true)
    else
      (if decide (a1 ≥ 48) then
        (if decide (a1 ≤ 57) then
          (some true)
        else
          (some (a1 == 95)))
      else
        (some (a1 == 95))))
  else
    (if decide (a1 ≥ 48) then
      (if decide (a1 ≤ 57) then
        (some true)
      else
        (some (a1 == 95)))
    else
      (some (a1 == 95)))

noncomputable def impl_PathFault_l1b (a1 : ByteArray) (s15 : Int) : Option (Lp Int (Fl Int Unit)) :=
  if decide (s15 < (a1.size : Int)) then
    ((bidx a1 s15).bind fun x17 =>
    (impl_isNameByte x17).bind fun x19 =>
    (if !x19 then
        (if x17 != 46 then
          (if x17 != 45 then
            (some (x17 != 47))
          else
            (some false))
        else
          (some false))
      else
        (some false)).bind fun v24 =>
    if v24 then
      (some (Lp.done (Fl.ret 5)))
    else
      (some (Lp.go (w64 (s15 + 1)))))
  else
    (some (Lp.done (Fl.nxt ())))

noncomputable def impl_PathFault_l1 (a1 : ByteArray) : Int → Option (Fl Int Unit) := loop (impl_PathFault_l1b a1)

noncomputable def impl_PathFault (a1 : ByteArray) : Option Int :=
  (if decide ((a1.size : Int) < 1) then
      (some true)
    else
      (some (decide ((a1.size : Int) > 40)))).bind fun v3 =>
  if v3 then
    (some 5)
  else
    ((impl_PathFault_l1 a1 0).bind (Fl.go some fun v26 =>
    some 0))

noncomputable def impl_Disk_total_l1b (a1 : Disk) (s5 : (Int × Int)) : Option (Lp (Int × Int) Int) :=
  if decide (s5.2 < (a1.Files.length : Int)) then
    ((idx a1.Files s5.2).bind fun x7 =>
    some (Lp.go (w64 (s5.1 + (x7.Data.length : Int)), w64 (s5.2 + 1))))
  else
    (some (Lp.done s5.1))

noncomputable def impl_Disk_total_l1 (a1 : Disk) : (Int × Int) → Option Int := loop (impl_Disk_total_l1b a1)

noncomputable def impl_Disk_total (a1 : Disk) : Option Int :=
  (impl_Disk_total_l1 a1 (0, 0)).bind fun v9 =>
  some v9

noncomputable def impl_DiskFault_l1b (a1 : Disk) (s25 : Int) : Option (Lp Int (Fl Int Unit)) :=
  if decide (s25 < (a1.Files.length : Int)) then
    ((idx a1.Files s25).bind fun x27 =>
    (impl_PathFault x27.Path).bind fun x29 =>
    if x29 != 0 then
      (some (Lp.done (Fl.ret x29)))
    else
      ((if decide (s25 > 0) then
          ((idx a1.Files (w64 (s25 - 1))).bind fun x33 =>
          some (slt x27.Path x33.Path || seq x27.Path x33.Path))
        else
          (some false)).bind fun v35 =>
      if v35 then
        (some (Lp.done (Fl.ret 1)))
      else
        (if decide ((x27.Data.length : Int) > 4000) then
          (some (Lp.done (Fl.ret 2)))
        else
          (some (Lp.go (w64 (s25 + 1)))))))
  else
    (some (Lp.done (Fl.nxt ())))

noncomputable def impl_DiskFault_l1 (a1 : Disk) : Int → Option (Fl Int Unit) := loop (impl_DiskFault_l1b a1)

noncomputable def impl_DiskFault (a1 : Disk) : Option Int :=
  (impl_within a1.Budget 0 20000).bind fun x2 =>
  (if !x2 then
      (some true)
    else
      ((impl_within a1.Writes 0 1000000000).bind fun x5 =>
      if !x5 then
        (some true)
      else
        ((impl_within a1.Stop (-1) 1000000000).bind fun x8 =>
        some (!x8)))).bind fun v10 =>
  if v10 then
    (some 3)
  else
    (if decide ((a1.Files.length : Int) > 120) then
      (some 2)
    else
      ((impl_DiskFault_l1 a1 0).bind (Fl.go some fun v38 =>
      (impl_Disk_total a1).bind fun x39 =>
      if decide (x39 > a1.Budget) then
        (some 8)
      else
        (some 0))))

noncomputable def internal_stringslite_HasPrefix (a1 : ByteArray) (a2 : ByteArray) : Option Bool :=
  if decide ((a1.size : Int) ≥ (a2.size : Int)) then
    ((ssub a1 0 (a2.size : Int)).bind fun x4 =>
    some (seq x4 a2))
  else
    (some false)

noncomputable def strings_HasPrefix (a1 : ByteArray) (a2 : ByteArray) : Option Bool :=
  (internal_stringslite_HasPrefix a1 a2).bind fun x3 =>
  some x3

noncomputable def impl_Disk_paths_l1b (a1 : Disk) (a2 : ByteArray) (s12 : ((List ByteArray) × Int)) : Option (Lp ((List ByteArray) × Int) (List ByteArray)) :=
  if decide (s12.2 < (a1.Files.length : Int)) then
    ((idx a1.Files s12.2).bind fun x14 =>
    (strings_HasPrefix x14.Path a2).bind fun x16 =>
    (if x16 then
        ((app 16 s12.1 [x14.Path]).bind fun x19 =>
        some x19)
      else
        (some s12.1)).bind fun v21 =>
    some (Lp.go (v21, w64 (s12.2 + 1))))
  else
    (some (Lp.done s12.1))

noncomputable def impl_Disk_paths_l1 (a1 : Disk) (a2 : ByteArray) : ((List ByteArray) × Int) → Option (List ByteArray) := loop (impl_Disk_paths_l1b a1 a2)

noncomputable def impl_Disk_paths (a1 : Disk) (a2 : ByteArray) : Option (List ByteArray) :=
  (impl_Disk_paths_l1 a1 a2 (([] : List ByteArray), 0)).bind fun v22 =>
  some v22

noncomputable def impl_number_l1b (a1 : ByteArray) (s16 : (Int × Int)) : Option (Lp (Int × Int) (Fl Int Int)) :=
  if decide (s16.2 < (a1.size : Int)) then
    ((bidx a1 s16.2).bind fun x18 =>
    (if decide (x18 < 48) then
        (some true)
      else
        ((bidx a1 s16.2).bind fun x21 =>
        some (decide (x21 > 57)))).bind fun v23 =>
    if v23 then
      (some (Lp.done (Fl.ret (-1))))
    else
      ((bidx a1 s16.2).bind fun x25 =>
      some (Lp.go (w64 ((w64 (10 * s16.1)) + (w64 (IntKind.u8.wrap (x25 - 48)))), w64 (s16.2 + 1)))))
  else
    (some (Lp.done (Fl.nxt s16.1)))

noncomputable def impl_number_l1 (a1 : ByteArray) : (Int × Int) → Option (Fl Int Int) := loop (impl_number_l1b a1)

noncomputable def impl_number (a1 : ByteArray) (a2 : Int) : Option Int :=
  (if seq a1 (bs []) then
      (some true)
    else
      (some (decide ((a1.size : Int) > a2)))).bind fun v4 =>
  if v4 then
    (some (-1))
  else
    ((impl_number_l1 a1 (0, 0)).bind (Fl.go some fun v27 =>
    some v27))

noncomputable def impl_Disk_gens_l1b (x2 : (List ByteArray)) (s17 : ((List Int) × Int)) : Option (Lp ((List Int) × Int) (List Int)) :=
  if decide (s17.2 < (x2.length : Int)) then
    ((idx x2 s17.2).bind fun x19 =>
    (ssub x19 4 (x19.size : Int)).bind fun x21 =>
    (impl_number x21 6).bind fun x23 =>
    (if decide (x23 ≥ 1) then
        (some ((x19.size : Int) == 10))
      else
        (some false)).bind fun v26 =>
    (if v26 then
        ((app 8 s17.1 [x23]).bind fun x28 =>
        some x28)
      else
        (some s17.1)).bind fun v30 =>
    some (Lp.go (v30, w64 (s17.2 + 1))))
  else
    (some (Lp.done s17.1))

noncomputable def impl_Disk_gens_l1 (x2 : (List ByteArray)) : ((List Int) × Int) → Option (List Int) := loop (impl_Disk_gens_l1b x2)

noncomputable def impl_Disk_gens (a1 : Disk) : Option (List Int) :=
  (impl_Disk_paths a1 (bs [103, 101, 110, 47])).bind fun x2 =>
  (impl_Disk_gens_l1 x2 (([] : List Int), 0)).bind fun v31 =>
  some v31

noncomputable def impl_Disk_next_l1b (x2 : (List Int)) (s7 : (Int × Int)) : Option (Lp (Int × Int) Int) :=
  if decide (s7.2 < (x2.length : Int)) then
    ((idx x2 s7.2).bind fun x9 =>
    some (Lp.go ((if (w64 (x9 + 1)) > s7.1 then (w64 (x9 + 1)) else s7.1), w64 (s7.2 + 1))))
  else
    (some (Lp.done s7.1))

noncomputable def impl_Disk_next_l1 (x2 : (List Int)) : (Int × Int) → Option Int := loop (impl_Disk_next_l1b x2)

noncomputable def impl_Disk_next (a1 : Disk) : Option Int :=
  (impl_Disk_gens a1).bind fun x2 =>
  (impl_Disk_next_l1 x2 (1, 0)).bind fun v11 =>
  some v11

noncomputable def impl_NextGen (a1 : Disk) : Option IntResult :=
  (impl_DiskFault a1).bind fun x2 =>
  (if x2 == 0 then
      ((impl_Disk_next a1).bind fun x5 =>
      some (decide (x5 > 999999)))
    else
      (some false)).bind fun v7 =>
  (if v7 then
      (some 2)
    else
      (some x2)).bind fun v9 =>
  if v9 != 0 then
    (some ({ Code := v9, Value := 0 } : IntResult))
  else
    ((impl_Disk_next a1).bind fun x11 =>
    some ({ Code := 0, Value := x11 } : IntResult))

noncomputable def laws_eqIntResult (a1 : IntResult) (a2 : IntResult) : Option Bool :=
  if a1.Code != a2.Code then
    (some false)
  else
    (if a1.Value != a2.Value then
      (some false)
    else
      (some true))

noncomputable def laws_eqByteS_l1b (a1 : (List Int)) (a2 : (List Int)) (s10 : Int) : Option (Lp Int (Fl Bool Unit)) :=
  if decide (s10 < (a1.length : Int)) then
    ((idx a1 s10).bind fun x12 =>
    (idx a2 s10).bind fun x14 =>
    if x12 != x14 then
      (some (Lp.done (Fl.ret false)))
    else
      (some (Lp.go (w64 (s10 + 1)))))
  else
    (some (Lp.done (Fl.nxt ())))

noncomputable def laws_eqByteS_l1 (a1 : (List Int)) (a2 : (List Int)) : Int → Option (Fl Bool Unit) := loop (laws_eqByteS_l1b a1 a2)

noncomputable def laws_eqByteS (a1 : (List Int)) (a2 : (List Int)) : Option Bool :=
  if (a1.length : Int) != (a2.length : Int) then
    (some false)
  else
    ((laws_eqByteS_l1 a1 a2 0).bind (Fl.go some fun v17 =>
    some true))

noncomputable def laws_eqFile (a1 : File) (a2 : File) : Option Bool :=
  if !(seq a1.Path a2.Path) then
    (some false)
  else
    ((laws_eqByteS a1.Data a2.Data).bind fun x4 =>
    if !x4 then
      (some false)
    else
      (some true))

noncomputable def laws_eqFileS_l1b (a1 : (List File)) (a2 : (List File)) (s12 : Int) : Option (Lp Int (Fl Bool Unit)) :=
  if decide (s12 < (a1.length : Int)) then
    ((idx a1 s12).bind fun x14 =>
    (idx a2 s12).bind fun x16 =>
    (laws_eqFile x14 x16).bind fun x18 =>
    if !x18 then
      (some (Lp.done (Fl.ret false)))
    else
      (some (Lp.go (w64 (s12 + 1)))))
  else
    (some (Lp.done (Fl.nxt ())))

noncomputable def laws_eqFileS_l1 (a1 : (List File)) (a2 : (List File)) : Int → Option (Fl Bool Unit) := loop (laws_eqFileS_l1b a1 a2)

noncomputable def laws_eqFileS (a1 : (List File)) (a2 : (List File)) : Option Bool :=
  if (a1.length : Int) != (a2.length : Int) then
    (some false)
  else
    ((laws_eqFileS_l1 a1 a2 0).bind (Fl.go some fun v21 =>
    some true))

noncomputable def laws_eqDisk (a1 : Disk) (a2 : Disk) : Option Bool :=
  (laws_eqFileS a1.Files a2.Files).bind fun x3 =>
  if !x3 then
    (some false)
  else
    (if a1.Budget != a2.Budget then
      (some false)
    else
      (if a1.Writes != a2.Writes then
        (some false)
      else
        (if a1.Stop != a2.Stop then
          (some false)
        else
          (if !(a1.Down == a2.Down) then
            (some false)
          else
            (some true)))))

noncomputable def laws_FnExactNextGen (a1 : Disk) : Option Bool :=
  (laws_szDisk a1 1048576).bind fun x2 =>
  if decide (x2 < 0) then
    (some true)
  else
    ((laws_toDisk a1).bind fun x5 =>
    (spec_NextGen x5).bind fun x7 =>
    (laws_toDisk a1).bind fun x9 =>
    (impl_NextGen x9).bind fun x11 =>
    (laws_eqIntResult x11 x7).bind fun x13 =>
    if !x13 then
      (some false)
    else
      ((laws_toDisk a1).bind fun x16 =>
      (laws_eqDisk x9 x16).bind fun x18 =>
      if !x18 then
        (some false)
      else
        (some true)))

end Go.Told

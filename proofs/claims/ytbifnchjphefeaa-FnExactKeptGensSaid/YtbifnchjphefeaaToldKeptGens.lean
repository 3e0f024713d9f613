import Derived.Test.YtbifnchjphefeaaIm45
set_option linter.unusedVariables false
set_option maxRecDepth 4000
namespace Go.Told
open Go Go.Im

structure File where
  Path : ByteArray
  Data : (List Int)
  deriving DecidableEq

def File.enc (o : Bool) (x : File) : List D := [.sc (.string x.Path), .s o 1 x.Data.length (x.Data.map eU8)]

theorem File.ro (o : Bool) (x : File) : D.ro.roC (File.enc o x) = File.enc false x := by
  simp only [File.enc, D.ro.roC, D.ro, roE_map (enc := eU8) (enc' := eU8) (fun _ => rfl)]

theorem File.fl (x : File) : flatC (File.enc true x) := (flatK flat_sc (flatK (flat_s (flatM (fun _ => (flatK flat_sc flatN)) _)) flatN))

structure Disk where
  Files : (List File)
  Budget : Int
  Writes : Int
  Stop : Int
  Down : Bool
  deriving DecidableEq

def Disk.enc (o : Bool) (x : Disk) : List D := [.s o 2 x.Files.length (x.Files.map (File.enc o)), .sc (.int .i64 x.Budget), .sc (.int .i64 x.Writes), .sc (.int .i64 x.Stop), .sc (.bool x.Down)]

theorem Disk.ro (o : Bool) (x : Disk) : D.ro.roC (Disk.enc o x) = Disk.enc false x := by
  simp only [Disk.enc, D.ro.roC, D.ro, roE_map (enc := (File.enc o)) (enc' := (File.enc false)) (File.ro o)]

theorem Disk.fl (x : Disk) : flatC (Disk.enc true x) := (flatK (flat_s (flatM (fun _ => (File.fl _)) _)) (flatK flat_sc (flatK flat_sc (flatK flat_sc (flatK flat_sc flatN)))))

structure GensResult where
  Code : Int
  Gens : (List Int)
  deriving DecidableEq

def GensResult.enc (o : Bool) (x : GensResult) : List D := [.sc (.int .i64 x.Code), .s o 1 x.Gens.length (x.Gens.map eI64)]

theorem GensResult.ro (o : Bool) (x : GensResult) : D.ro.roC (GensResult.enc o x) = GensResult.enc false x := by
  simp only [GensResult.enc, D.ro.roC, D.ro, roE_map (enc := eI64) (enc' := eI64) (fun _ => rfl)]

theorem GensResult.fl (x : GensResult) : flatC (GensResult.enc true x) := (flatK flat_sc (flatK (flat_s (flatM (fun _ => (flatK flat_sc flatN)) _)) flatN))

noncomputable def laws_szByteS (a1 : (List Int)) (a2 : Int) : Option Int :=
  if decide ((w64 (a2 - (a1.length : Int))) < 0) then
    (some (-1))
  else
    (some (w64 (a2 - (a1.length : Int))))

noncomputable def laws_szFile (a1 : File) (a2 : Int) : Option Int :=
  if decide ((w64 (a2 - (a1.Path.size : Int))) < 0) then
    (some (-1))
  else
    ((laws_szByteS a1.Data (w64 (a2 - (a1.Path.size : Int)))).bind fun x4 =>
    if decide (x4 < 0) then
      (some (-1))
    else
      (some x4))

noncomputable def laws_szFileS_l1b (a1 : (List File)) (s10 : (Int × Int)) : Option (Lp (Int × Int) (Fl Int Int)) :=
  if decide (s10.2 < (a1.length : Int)) then
    ((idx a1 s10.2).bind fun x12 =>
    (laws_szFile x12 s10.1).bind fun x14 =>
    if decide (x14 < 0) then
      (some (Lp.done (Fl.ret (-1))))
    else
      (some (Lp.go (x14, w64 (s10.2 + 1)))))
  else
    (some (Lp.done (Fl.nxt s10.1)))

noncomputable def laws_szFileS_l1 (a1 : (List File)) : (Int × Int) → Option (Fl Int Int) := loop (laws_szFileS_l1b a1)

noncomputable def laws_szFileS (a1 : (List File)) (a2 : Int) : Option Int :=
  if decide ((w64 (a2 - (a1.length : Int))) < 0) then
    (some (-1))
  else
    ((laws_szFileS_l1 a1 (w64 (a2 - (a1.length : Int)), 0)).bind (Fl.go some fun v17 =>
    some v17))

noncomputable def laws_szDisk (a1 : Disk) (a2 : Int) : Option Int :=
  (laws_szFileS a1.Files a2).bind fun x3 =>
  if decide (x3 < 0) then
    (some (-1))
  else
    (some x3)

noncomputable def laws_toByteS_l1b (a1 : (List Int)) (s9 : ((List Int) × Int)) : Option (Lp ((List Int) × Int) (List Int)) :=
  if decide (s9.2 < (a1.length : Int)) then
    ((idx a1 s9.2).bind fun x11 =>
    (idx s9.1 s9.2).bind fun x13 =>
    some (Lp.go (s9.1.set s9.2.toNat x11, w64 (s9.2 + 1))))
  else
    (some (Lp.done s9.1))

noncomputable def laws_toByteS_l1 (a1 : (List Int)) : ((List Int) × Int) → Option (List Int) := loop (laws_toByteS_l1b a1)

noncomputable def laws_toByteS (a1 : (List Int)) : Option (List Int) :=
  (mk 1 (a1.length : Int) 0).bind fun x2 =>
  (laws_toByteS_l1 a1 (x2, 0)).bind fun v15 =>
  some v15

noncomputable def laws_toFile (a1 : File) : Option File :=
  (laws_toByteS a1.Data).bind fun x2 =>
  some ({ Path := a1.Path, Data := x2 } : File)

noncomputable def laws_toFileS_l1b (a1 : (List File)) (s11 : ((List File) × Int)) : Option (Lp ((List File) × Int) (List File)) :=
  if decide (s11.2 < (a1.length : Int)) then
    ((idx a1 s11.2).bind fun x13 =>
    (laws_toFile x13).bind fun x15 =>
    (idx s11.1 s11.2).bind fun x17 =>
    some (Lp.go (s11.1.set s11.2.toNat x15, w64 (s11.2 + 1))))
  else
    (some (Lp.done s11.1))

noncomputable def laws_toFileS_l1 (a1 : (List File)) : ((List File) × Int) → Option (List File) := loop (laws_toFileS_l1b a1)

noncomputable def laws_toFileS (a1 : (List File)) : Option (List File) :=
  (mk 40 (a1.length : Int) ({ Path := ByteArray.empty, Data := ([] : List Int) } : File)).bind fun x2 =>
  (laws_toFileS_l1 a1 (x2, 0)).bind fun v19 =>
  some v19

noncomputable def laws_toDisk (a1 : Disk) : Option Disk :=
  (laws_toFileS a1.Files).bind fun x2 =>
  some ({ Files := x2, Budget := a1.Budget, Writes := a1.Writes, Stop := a1.Stop, Down := a1.Down } : Disk)

noncomputable def laws_toInt64S_l1b (a1 : (List Int)) (s9 : ((List Int) × Int)) : Option (Lp ((List Int) × Int) (List Int)) :=
  if decide (s9.2 < (a1.length : Int)) then
    ((idx a1 s9.2).bind fun x11 =>
    (idx s9.1 s9.2).bind fun x13 =>
    some (Lp.go (s9.1.set s9.2.toNat x11, w64 (s9.2 + 1))))
  else
    (some (Lp.done s9.1))

noncomputable def laws_toInt64S_l1 (a1 : (List Int)) : ((List Int) × Int) → Option (List Int) := loop (laws_toInt64S_l1b a1)

noncomputable def laws_toInt64S (a1 : (List Int)) : Option (List Int) :=
  (mk 8 (a1.length : Int) 0).bind fun x2 =>
  (laws_toInt64S_l1 a1 (x2, 0)).bind fun v15 =>
  some v15

noncomputable def spec_l1In (a1 : Int) (a2 : Int) (a3 : Int) : Option Bool :=
  if decide (a1 ≥ a2) then
    (some (decide (a1 ≤ a3)))
  else
    (some false)

noncomputable def spec_l1Letter (a1 : Int) : Option Bool :=
  if decide (a1 ≥ 97) then
    (some (decide (a1 ≤ 122)))
  else
    (some false)

noncomputable def spec_l1Digit (a1 : Int) : Option Bool :=
  if decide (a1 ≥ 48) then
    (some (decide (a1 ≤ 57)))
  else
    (some false)

noncomputable def spec_l1Name (a1 : Int) : Option Bool :=
  (spec_l1Letter a1).bind fun x2 =>
  if x2 then
    (some true)
  else
    ((spec_l1Digit a1).bind fun x5 =>
    if x5 then
      (some true)
    else
      (some (a1 == 95)))

noncomputable def spec_l7Byte (a1 : Int) : Option Bool :=
  (spec_l1Name a1).bind fun x2 =>
  if x2 then
    (some true)
  else
    (if a1 == 46 then
      (some true)
    else
      (if a1 == 45 then
        (some true)
      else
        (some (a1 == 47))))

noncomputable def spec_PathFault_l1b (a1 : ByteArray) (s11 : Int) : Option (Lp Int (Fl Int Unit)) :=
  if decide (s11 < (a1.size : Int)) then
    ((bidx a1 s11).bind fun x13 =>
    (spec_l7Byte x13).bind fun x15 =>
    if !x15 then
      (some (Lp.done (Fl.ret 5)))
    else
      (some (Lp.go (w64 (s11 + 1)))))
  else
    (some (Lp.done (Fl.nxt ())))

noncomputable def spec_PathFault_l1 (a1 : ByteArray) : Int → Option (Fl Int Unit) := loop (spec_PathFault_l1b a1)

noncomputable def spec_PathFault (a1 : ByteArray) : Option Int :=
  (if decide ((a1.size : Int) < 1) then
      (some true)
    else
      (some (decide ((a1.size : Int) > 40)))).bind fun v3 =>
  if v3 then
    (some 5)
  else
    ((spec_PathFault_l1 a1 0).bind (Fl.go some fun v18 =>
    some 0))

noncomputable def spec_l7Total_l1b (a1 : Disk) (s5 : (Int × Int)) : Option (Lp (Int × Int) Int) :=
  if decide (s5.2 < (a1.Files.length : Int)) then
    ((idx a1.Files s5.2).bind fun x7 =>
    some (Lp.go (w64 (s5.1 + (x7.Data.length : Int)), w64 (s5.2 + 1))))
  else
    (some (Lp.done s5.1))

noncomputable def spec_l7Total_l1 (a1 : Disk) : (Int × Int) → Option Int := loop (spec_l7Total_l1b a1)

noncomputable def spec_l7Total (a1 : Disk) : Option Int :=
  (spec_l7Total_l1 a1 (0, 0)).bind fun v9 =>
  some v9

noncomputable def spec_DiskFault_l1b (a1 : Disk) (s29 : Int) : Option (Lp Int (Fl Int Unit)) :=
  if decide (s29 < (a1.Files.length : Int)) then
    ((idx a1.Files s29).bind fun x31 =>
    (spec_PathFault x31.Path).bind fun x33 =>
    if x33 != 0 then
      (some (Lp.done (Fl.ret x33)))
    else
      ((if decide (s29 > 0) then
          ((idx a1.Files s29).bind fun x37 =>
          (idx a1.Files (w64 (s29 - 1))).bind fun x39 =>
          some (slt x37.Path x39.Path || seq x37.Path x39.Path))
        else
          (some false)).bind fun v41 =>
      if v41 then
        (some (Lp.done (Fl.ret 1)))
      else
        ((idx a1.Files s29).bind fun x43 =>
        if decide ((x43.Data.length : Int) > 4000) then
          (some (Lp.done (Fl.ret 2)))
        else
          (some (Lp.go (w64 (s29 + 1)))))))
  else
    (some (Lp.done (Fl.nxt ())))

noncomputable def spec_DiskFault_l1 (a1 : Disk) : Int → Option (Fl Int Unit) := loop (spec_DiskFault_l1b a1)

noncomputable def spec_DiskFault (a1 : Disk) : Option Int :=
  (spec_l1In a1.Budget 0 20000).bind fun x2 =>
  (if !x2 then
      (some true)
    else
      ((spec_l1In a1.Writes 0 1000000000).bind fun x5 =>
      if !x5 then
        (some true)
      else
        ((spec_l1In a1.Stop (-1) 1000000000).bind fun x8 =>
        some (!x8)))).bind fun v10 =>
  if v10 then
    (some 3)
  else
    (if decide ((a1.Files.length : Int) > 120) then
      (some 2)
    else
      ((spec_DiskFault_l1 a1 0).bind (Fl.go some fun v46 =>
      (spec_l7Total a1).bind fun x47 =>
      if decide (x47 > a1.Budget) then
        (some 8)
      else
        (some 0))))

noncomputable def spec_l7Begins (a1 : ByteArray) (a2 : ByteArray) : Option Bool :=
  if decide ((a1.size : Int) ≥ (a2.size : Int)) then
    ((ssub a1 0 (a2.size : Int)).bind fun x4 =>
    some (seq x4 a2))
  else
    (some false)

noncomputable def spec_l7Paths_l1b (a1 : Disk) (a2 : ByteArray) (s14 : ((List ByteArray) × Int)) : Option (Lp ((List ByteArray) × Int) (List ByteArray)) :=
  if decide (s14.2 < (a1.Files.length : Int)) then
    ((idx a1.Files s14.2).bind fun x16 =>
    (spec_l7Begins x16.Path a2).bind fun x18 =>
    (if x18 then
        ((idx a1.Files s14.2).bind fun x21 =>
        (app 16 s14.1 [x21.Path]).bind fun x23 =>
        some x23)
      else
        (some s14.1)).bind fun v25 =>
    some (Lp.go (v25, w64 (s14.2 + 1))))
  else
    (some (Lp.done s14.1))

noncomputable def spec_l7Paths_l1 (a1 : Disk) (a2 : ByteArray) : ((List ByteArray) × Int) → Option (List ByteArray) := loop (spec_l7Paths_l1b a1 a2)

noncomputable def spec_l7Paths (a1 : Disk) (a2 : ByteArray) : Option (List ByteArray) :=
  (spec_l7Paths_l1 a1 a2 (([] : List ByteArray), 0)).bind fun v26 =>
  some v26

noncomputable def spec_l1Number_l1b (a1 : ByteArray) (s14 : (Int × Int)) : Option (Lp (Int × Int) (Fl (Int × Bool) Int)) :=
  if decide (s14.2 < (a1.size : Int)) then
    ((bidx a1 s14.2).bind fun x16 =>
    (spec_l1Digit x16).bind fun x18 =>
    if !x18 then
      (some (Lp.done (Fl.ret (0, false))))
    else
      ((bidx a1 s14.2).bind fun x21 =>
      some (Lp.go (w64 ((w64 (s14.1 * 10)) + (w64 (IntKind.u8.wrap (x21 - 48)))), w64 (s14.2 + 1)))))
  else
    (some (Lp.done (Fl.nxt s14.1)))

noncomputable def spec_l1Number_l1 (a1 : ByteArray) : (Int × Int) → Option (Fl (Int × Bool) Int) := loop (spec_l1Number_l1b a1)

noncomputable def spec_l1Number (a1 : ByteArray) (a2 : Int) : Option (Int × Bool) :=
  (if decide ((a1.size : Int) < 1) then
      (some true)
    else
      (some (decide ((a1.size : Int) > a2)))).bind fun v4 =>
  if v4 then
    (some (0, false))
  else
    ((spec_l1Number_l1 a1 (0, 0)).bind (Fl.go some fun v23 =>
    some (v23, true)))

noncomputable def spec_l1Decimal_r (g : Int → Option ByteArray) (s : Int) : Option ByteArray :=
  match s with
  | a1 =>
  if decide (a1 < 10) then
    (some (b2s [IntKind.u8.wrap (w64 (48 + a1))]))
  else
    ((g (w64 (a1.tdiv 10))).bind fun x3 =>
    (cat x3 (b2s [IntKind.u8.wrap (w64 (48 + (a1.tmod 10)))])).bind fun x5 =>
    some x5)

noncomputable def spec_l1Decimal (a1 : Int) : Option ByteArray := recF spec_l1Decimal_r 64 a1

noncomputable def spec_GenPath (a1 : Int) : Option ByteArray :=
  (spec_l1In a1 1 999999).bind fun x2 =>
  if !x2 then
    (some (bs []))
  else
    ((spec_l1Decimal (w64 (1000000 + a1))).bind fun x5 =>
    (ssub x5 1 (x5.size : Int)).bind fun x7 =>
    (cat (bs [103, 101, 110, 47]) x7).bind fun x9 =>
    some x9)

noncomputable def spec_l8Gens_l1b (a1 : Disk) (x2 : (List ByteArray)) (s21 : ((List Int) × Int)) : Option (Lp ((List Int) × Int) (List Int)) :=
  if decide (s21.2 < (x2.length : Int)) then
    ((idx x2 s21.2).bind fun x23 =>
    (ssub x23 4 (x23.size : Int)).bind fun x25 =>
    (spec_l1Number x25 6).bind fun x27 =>
    (if x27.2 then
        ((spec_GenPath x27.1).bind fun x30 =>
        (idx x2 s21.2).bind fun x32 =>
        some (seq x30 x32))
      else
        (some false)).bind fun v34 =>
    (if v34 then
        ((app 8 s21.1 [x27.1]).bind fun x36 =>
        some x36)
      else
        (some s21.1)).bind fun v38 =>
    some (Lp.go (v38, w64 (s21.2 + 1))))
  else
    (some (Lp.done s21.1))

noncomputable def spec_l8Gens_l1 (a1 : Disk) (x2 : (List ByteArray)) : ((List Int) × Int) → Option (List Int) := loop (spec_l8Gens_l1b a1 x2)

noncomputable def spec_l8Gens (a1 : Disk) : Option (List Int) :=
  (spec_l7Paths a1 (bs [103, 101, 110, 47])).bind fun x2 =>
  (spec_l8Gens_l1 a1 x2 (([] : List Int), 0)).bind fun v39 =>
  some v39

noncomputable def spec_l1Has_l1b (a1 : (List Int)) (a2 : Int) (s7 : Int) : Option (Lp Int (Fl Bool Unit)) :=
  if decide (s7 < (a1.length : Int)) then
    ((idx a1 s7).bind fun x9 =>
    if x9 == a2 then
      (some (Lp.done (Fl.ret true)))
    else
      (some (Lp.go (w64 (s7 + 1)))))
  else
    (some (Lp.done (Fl.nxt ())))

noncomputable def spec_l1Has_l1 (a1 : (List Int)) (a2 : Int) : Int → Option (Fl Bool Unit) := loop (spec_l1Has_l1b a1 a2)

noncomputable def spec_l1Has (a1 : (List Int)) (a2 : Int) : Option Bool :=
  (spec_l1Has_l1 a1 a2 0).bind (Fl.go some fun v12 =>
  some false)

noncomputable def spec_l3Put_l1b (a1 : (List Int)) (a2 : Int) (s16 : ((List Int) × Bool × Int)) : Option (Lp ((List Int) × Bool × Int) ((List Int) × Bool)) :=
  if decide (s16.2.2 < (a1.length : Int)) then
    ((idx a1 s16.2.2).bind fun x18 =>
    (if decide (x18 > a2) then
        (some (!s16.2.1))
      else
        (some false)).bind fun v21 =>
    (if v21 then
        ((app 8 s16.1 [a2]).bind fun x23 =>
        some (x23, true))
      else
        (some (s16.1, s16.2.1))).bind fun v25 =>
    (idx a1 s16.2.2).bind fun x26 =>
    (app 8 v25.1 [x26]).bind fun x28 =>
    some (Lp.go (x28, v25.2, w64 (s16.2.2 + 1))))
  else
    (some (Lp.done (s16.1, s16.2.1)))

noncomputable def spec_l3Put_l1 (a1 : (List Int)) (a2 : Int) : ((List Int) × Bool × Int) → Option ((List Int) × Bool) := loop (spec_l3Put_l1b a1 a2)

noncomputable def spec_l3Put (a1 : (List Int)) (a2 : Int) : Option (List Int) :=
  (spec_l3Put_l1 a1 a2 (([] : List Int), false, 0)).bind fun v30 =>
  (if !v30.2 then
      ((app 8 v30.1 [a2]).bind fun x32 =>
      some x32)
    else
      (some v30.1)).bind fun v34 =>
  some v34

noncomputable def spec_l7Find_l1b (a1 : Disk) (a2 : ByteArray) (s7 : Int) : Option (Lp Int (Fl Int Unit)) :=
  if decide (s7 < (a1.Files.length : Int)) then
    ((idx a1.Files s7).bind fun x9 =>
    if seq x9.Path a2 then
      (some (Lp.done (Fl.ret s7)))
    else
      (some (Lp.go (w64 (s7 + 1)))))
  else
    (some (Lp.done (Fl.nxt ())))

noncomputable def spec_l7Find_l1 (a1 : Disk) (a2 : ByteArray) : Int → Option (Fl Int Unit) := loop (spec_l7Find_l1b a1 a2)

noncomputable def spec_l7Find (a1 : Disk) (a2 : ByteArray) : Option Int :=
  (spec_l7Find_l1 a1 a2 0).bind (Fl.go some fun v12 =>
  some (-1))

noncomputable def spec_l8Current (a1 : Disk) : Option Int :=
  (spec_l7Find a1 (bs [99, 117, 114])).bind fun x2 =>
  if decide (x2 < 0) then
    (some 0)
  else
    ((idx a1.Files x2).bind fun x5 =>
    (spec_l1Number (b2s x5.Data) 6).bind fun x7 =>
    (if !x7.2 then
        (some true)
      else
        ((spec_l8Gens a1).bind fun x10 =>
        (spec_l1Has x10 x7.1).bind fun x12 =>
        some (!x12))).bind fun v14 =>
    if v14 then
      (some 0)
    else
      (some x7.1))

noncomputable def spec_l10Kept_l1b (a1 : Disk) (a2 : (List Int)) (x4 : (List Int)) (s22 : ((List Int) × Int)) : Option (Lp ((List Int) × Int) (Fl ((List Int) × Int) (List Int))) :=
  if decide (s22.2 < (a2.length : Int)) then
    ((idx a2 s22.2).bind fun x24 =>
    (spec_l1Has x4 x24).bind fun x26 =>
    if !x26 then
      (some (Lp.done (Fl.ret (([] : List Int), 4))))
    else
      ((idx a2 s22.2).bind fun x29 =>
      (spec_l1Has s22.1 x29).bind fun x31 =>
      (if !x31 then
          ((idx a2 s22.2).bind fun x34 =>
          (spec_l3Put s22.1 x34).bind fun x36 =>
          some x36)
        else
          (some s22.1)).bind fun v38 =>
      some (Lp.go (v38, w64 (s22.2 + 1)))))
  else
    (some (Lp.done (Fl.nxt s22.1)))

noncomputable def spec_l10Kept_l1 (a1 : Disk) (a2 : (List Int)) (x4 : (List Int)) : ((List Int) × Int) → Option (Fl ((List Int) × Int) (List Int)) := loop (spec_l10Kept_l1b a1 a2 x4)

noncomputable def spec_l10Kept (a1 : Disk) (a2 : (List Int)) : Option ((List Int) × Int) :=
  if decide ((a2.length : Int) > 40) then
    (some (([] : List Int), 2))
  else
    ((spec_l8Gens a1).bind fun x4 =>
    (spec_l10Kept_l1 a1 a2 x4 (([] : List Int), 0)).bind (Fl.go some fun v39 =>
    (spec_l8Current a1).bind fun x40 =>
    if x40 == 0 then
      (some (([] : List Int), 4))
    else
      ((spec_l1Has v39 x40).bind fun x43 =>
      (if !x43 then
          ((spec_l3Put v39 x40).bind fun x46 =>
          some x46)
        else
          (some v39)).bind fun v48 =>
      some (v48, 0))))

noncomputable def spec_KeptGens (a1 : Disk) (a2 : (List Int)) : Option GensResult :=
  (spec_DiskFault a1).bind fun x3 =>
  if x3 != 0 then
    (some ({ Code := x3, Gens := ([] : List Int) } : GensResult))
  else
    ((spec_l10Kept a1 a2).bind fun x6 =>
    some ({ Code := x6.2, Gens := x6.1 } : GensResult))

noncomputable def impl_within (a1 : Int) (a2 : Int) (a3 : Int) : Option Bool :=
  if decide (a2 ≤ a1) then
    (some (decide (a1 ≤ a3)))
  else
    (some false)

noncomputable def impl_isNameByte (a1 : Int) : Option Bool :=
  if decide (a1 ≥ 97) then
    (if decide (a1 ≤ 122) then
      (some true)
    else
      (if decide (a1 ≥ 48) then
        (if decide (a1 ≤ 57) then
          (some true)
        else
          (some (a1 == 95)))
      else
        (some (a1 == 95))))
  else
    (if decide (a1 ≥ 48) then
      (if decide (a1 ≤ 57) then
        (some true)
      else
        (some (a1 == 95)))
    else
      (some (a1 == 95)))

noncomputable def impl_PathFault_l1b (a1 : ByteArray) (s15 : Int) : Option (Lp Int (Fl Int Unit)) :=
  if decide (s15 < (a1.size : Int)) then
    ((bidx a1 s15).bind fun x17 =>
    (impl_isNameByte x17).bind fun x19 =>
    (if !x19 then
        (if x17 != 46 then
          (if x17 != 45 then
            (some (x17 != 47))
          else
            (some false))
        else
          (some false))
      else
        (some false)).bind fun v24 =>
    if v24 then
      (some (Lp.done (Fl.ret 5)))
    else
      (some (Lp.go (w64 (s15 + 1)))))
  else
    (some (Lp.done (Fl.nxt ())))

noncomputable def impl_PathFault_l1 (a1 : ByteArray) : Int → Option (Fl Int Unit) := loop (impl_PathFault_l1b a1)

noncomputable def impl_PathFault (a1 : ByteArray) : Option Int :=
  (if decide ((a1.size : Int) < 1) then
      (some true)
    else
      (some (decide ((a1.size : Int) > 40)))).bind fun v3 =>
  if v3 then
    (some 5)
  else
    ((impl_PathFault_l1 a1 0).bind (Fl.go some fun v26 =>
    some 0))

noncomputable def impl_Disk_total_l1b (a1 : Disk) (s5 : (Int × Int)) : Option (Lp (Int × Int) Int) :=
  if decide (s5.2 < (a1.Files.length : Int)) then
    ((idx a1.Files s5.2).bind fun x7 =>
    some (Lp.go (w64 (s5.1 + (x7.Data.length : Int)), w64 (s5.2 + 1))))
  else
    (some (Lp.done s5.1))

noncomputable def impl_Disk_total_l1 (a1 : Disk) : (Int × Int) → Option Int := loop (impl_Disk_total_l1b a1)

noncomputable def impl_Disk_total (a1 : Disk) : Option Int :=
  (impl_Disk_total_l1 a1 (0, 0)).bind fun v9 =>
  some v9

noncomputable def impl_DiskFault_l1b (a1 : Disk) (s25 : Int) : Option (Lp Int (Fl Int Unit)) :=
  if decide (s25 < (a1.Files.length : Int)) then
    ((idx a1.Files s25).bind fun x27 =>
    (impl_PathFault x27.Path).bind fun x29 =>
    if x29 != 0 then
      (some (Lp.done (Fl.ret x29)))
    else
      ((if decide (s25 > 0) then
          ((idx a1.Files (w64 (s25 - 1))).bind fun x33 =>
          some (slt x27.Path x33.Path || seq x27.Path x33.Path))
        else
          (some false)).bind fun v35 =>
      if v35 then
        (some (Lp.done (Fl.ret 1)))
      else
        (if decide ((x27.Data.length : Int) > 4000) then
          (some (Lp.done (Fl.ret 2)))
        else
          (some (Lp.go (w64 (s25 + 1)))))))
  else
    (some (Lp.done (Fl.nxt ())))

noncomputable def impl_DiskFault_l1 (a1 : Disk) : Int → Option (Fl Int Unit) := loop (impl_DiskFault_l1b a1)

noncomputable def impl_DiskFault (a1 : Disk) : Option Int :=
  (impl_within a1.Budget 0 20000).bind fun x2 =>
  (if !x2 then
      (some true)
    else
      ((impl_within a1.Writes 0 1000000000).bind fun x5 =>
      if !x5 then
        (some true)
      else
        ((impl_within a1.Stop (-1) 1000000000).bind fun x8 =>
        some (!x8)))).bind fun v10 =>
  if v10 then
    (some 3)
  else
    (if decide ((a1.Files.length : Int) > 120) then
      (some 2)
    else
      ((impl_DiskFault_l1 a1 0).bind (Fl.go some fun v38 =>
      (impl_Disk_total a1).bind fun x39 =>
      if decide (x39 > a1.Budget) then
        (some 8)
      else
        (some 0))))

noncomputable def internal_stringslite_HasPrefix (a1 : ByteArray) (a2 : ByteArray) : Option Bool :=
  if decide ((a1.size : Int) ≥ (a2.size : Int)) then
    ((ssub a1 0 (a2.size : Int)).bind fun x4 =>
    some (seq x4 a2))
  else
    (some false)

noncomputable def strings_HasPrefix (a1 : ByteArray) (a2 : ByteArray) : Option Bool :=
  (internal_stringslite_HasPrefix a1 a2).bind fun x3 =>
  some x3

noncomputable def impl_Disk_paths_l1b (a1 : Disk) (a2 : ByteArray) (s12 : ((List ByteArray) × Int)) : Option (Lp ((List ByteArray) × Int) (List ByteArray)) :=
  if decide (s12.2 < (a1.Files.length : Int)) then
    ((idx a1.Files s12.2).bind fun x14 =>
    (strings_HasPrefix x14.Path a2).bind fun x16 =>
    (if x16 then
        ((app 16 s12.1 [x14.Path]).bind fun x19 =>
        some x19)
      else
        (some s12.1)).bind fun v21 =>
    some (Lp.go (v21, w64 (s12.2 + 1))))
  else
    (some (Lp.done s12.1))

noncomputable def impl_Disk_paths_l1 (a1 : Disk) (a2 : ByteArray) : ((List ByteArray) × Int) → Option (List ByteArray) := loop (impl_Disk_paths_l1b a1 a2)

noncomputable def impl_Disk_paths (a1 : Disk) (a2 : ByteArray) : Option (List ByteArray) :=
  (impl_Disk_paths_l1 a1 a2 (([] : List ByteArray), 0)).bind fun v22 =>
  some v22

noncomputable def impl_number_l1b (a1 : ByteArray) (s16 : (Int × Int)) : Option (Lp (Int × Int) (Fl Int Int)) :=
  if decide (s16.2 < (a1.size : Int)) then
    ((bidx a1 s16.2).bind fun x18 =>
    (if decide (x18 < 48) then
        (some true)
      else
        ((bidx a1 s16.2).bind fun x21 =>
        some (decide (x21 > 57)))).bind fun v23 =>
    if v23 then
      (some (Lp.done (Fl.ret (-1))))
    else
      ((bidx a1 s16.2).bind fun x25 =>
      some (Lp.go (w64 ((w64 (10 * s16.1)) + (w64 (IntKind.u8.wrap (x25 - 48)))), w64 (s16.2 + 1)))))
  else
    (some (Lp.done (Fl.nxt s16.1)))

noncomputable def impl_number_l1 (a1 : ByteArray) : (Int × Int) → Option (Fl Int Int) := loop (impl_number_l1b a1)

noncomputable def impl_number (a1 : ByteArray) (a2 : Int) : Option Int :=
  (if seq a1 (bs []) then
      (some true)
    else
      (some (decide ((a1.size : Int) > a2)))).bind fun v4 =>
  if v4 then
    (some (-1))
  else
    ((impl_number_l1 a1 (0, 0)).bind (Fl.go some fun v27 =>
    some v27))

noncomputable def impl_Disk_gens_l1b (x2 : (List ByteArray)) (s17 : ((List Int) × Int)) : Option (Lp ((List Int) × Int) (List Int)) :=
  if decide (s17.2 < (x2.length : Int)) then
    ((idx x2 s17.2).bind fun x19 =>
    (ssub x19 4 (x19.size : Int)).bind fun x21 =>
    (impl_number x21 6).bind fun x23 =>
    (if decide (x23 ≥ 1) then
        (some ((x19.size : Int) == 10))
      else
        (some false)).bind fun v26 =>
    (if v26 then
        ((app 8 s17.1 [x23]).bind fun x28 =>
        some x28)
      else
        (some s17.1)).bind fun v30 =>
    some (Lp.go (v30, w64 (s17.2 + 1))))
  else
    (some (Lp.done s17.1))

noncomputable def impl_Disk_gens_l1 (x2 : (List ByteArray)) : ((List Int) × Int) → Option (List Int) := loop (impl_Disk_gens_l1b x2)

noncomputable def impl_Disk_gens (a1 : Disk) : Option (List Int) :=
  (impl_Disk_paths a1 (bs [103, 101, 110, 47])).bind fun x2 =>
  (impl_Disk_gens_l1 x2 (([] : List Int), 0)).bind fun v31 =>
  some v31

noncomputable def slices_Index_Lint64_l1b (a1 : (List Int)) (a2 : Int) (s7 : Int) : Option (Lp Int (Fl Int Unit)) :=
  if decide (s7 < (a1.length : Int)) then
    ((idx a1 s7).bind fun x9 =>
    if a2 == x9 then
      (some (Lp.done (Fl.ret s7)))
    else
      (some (Lp.go (w64 (s7 + 1)))))
  else
    (some (Lp.done (Fl.nxt ())))

noncomputable def slices_Index_Lint64_l1 (a1 : (List Int)) (a2 : Int) : Int → Option (Fl Int Unit) := loop (slices_Index_Lint64_l1b a1 a2)

noncomputable def slices_Index_Lint64 (a1 : (List Int)) (a2 : Int) : Option Int :=
  (slices_Index_Lint64_l1 a1 a2 0).bind (Fl.go some fun v12 =>
  some (-1))

noncomputable def slices_Contains_Lint64 (a1 : (List Int)) (a2 : Int) : Option Bool :=
  (slices_Index_Lint64 a1 a2).bind fun x3 =>
  some (decide (x3 ≥ 0))

noncomputable def impl_Disk_kept_1o (a1 : Int) (a2 : (List Int)) : Option Bool :=
  (slices_Contains_Lint64 a2 a1).bind fun x3 =>
  some (!x3)

noncomputable def slices_IndexFunc_Lint64_impl_Disk_kept_1o_l1b (a1 : (List Int)) (a2 : (List Int)) (s9 : Int) : Option (Lp Int (Fl Int Unit)) :=
  if decide (s9 < (a1.length : Int)) then
    ((idx a1 s9).bind fun x11 =>
    (impl_Disk_kept_1o x11 a2).bind fun x13 =>
    if x13 then
      (some (Lp.done (Fl.ret s9)))
    else
      (some (Lp.go (w64 (s9 + 1)))))
  else
    (some (Lp.done (Fl.nxt ())))

noncomputable def slices_IndexFunc_Lint64_impl_Disk_kept_1o_l1 (a1 : (List Int)) (a2 : (List Int)) : Int → Option (Fl Int Unit) := loop (slices_IndexFunc_Lint64_impl_Disk_kept_1o_l1b a1 a2)

noncomputable def slices_IndexFunc_Lint64_impl_Disk_kept_1o (a1 : (List Int)) (a2 : (List Int)) : Option Int :=
  (slices_IndexFunc_Lint64_impl_Disk_kept_1o_l1 a1 a2 0).bind (Fl.go some fun v16 =>
  some (-1))

noncomputable def slices_ContainsFunc_Lint64_impl_Disk_kept_1o (a1 : (List Int)) (a2 : (List Int)) : Option Bool :=
  (slices_IndexFunc_Lint64_impl_Disk_kept_1o a1 a2).bind fun x3 =>
  some (decide (x3 ≥ 0))

noncomputable def bytealg_CompareString (a1 a2 : ByteArray) : Option Int := some (cmpB a1 a2)

noncomputable def strings_Compare (a1 : ByteArray) (a2 : ByteArray) : Option Int :=
  (bytealg_CompareString a1 a2).bind fun x3 =>
  some x3

noncomputable def impl_Disk_place_1 (a1 : File) (a2 : ByteArray) : Option Int :=
  (strings_Compare a1.Path a2).bind fun x3 =>
  some x3

noncomputable def slices_BinarySearchFunc_LimplFile_impl_Disk_place_1_l1b (a1 : (List File)) (a2 : ByteArray) (s9 : (Int × Int)) : Option (Lp (Int × Int) Int) :=
  if decide (s9.1 < s9.2) then
    ((idx a1 (w64 ((IntKind.u64.wrap (w64 (s9.1 + s9.2))).fdiv (2 ^ (min (1 : Int).toNat 64))))).bind fun x11 =>
    (impl_Disk_place_1 x11 a2).bind fun x13 =>
    if decide (x13 < 0) then
      (some (Lp.go (w64 ((w64 ((IntKind.u64.wrap (w64 (s9.1 + s9.2))).fdiv (2 ^ (min (1 : Int).toNat 64)))) + 1), s9.2)))
    else
      (some (Lp.go (s9.1, w64 ((IntKind.u64.wrap (w64 (s9.1 + s9.2))).fdiv (2 ^ (min (1 : Int).toNat 64)))))))
  else
    (some (Lp.done s9.1))

noncomputable def slices_BinarySearchFunc_LimplFile_impl_Disk_place_1_l1 (a1 : (List File)) (a2 : ByteArray) : (Int × Int) → Option Int := loop (slices_BinarySearchFunc_LimplFile_impl_Disk_place_1_l1b a1 a2)

noncomputable def slices_BinarySearchFunc_LimplFile_impl_Disk_place_1 (a1 : (List File)) (a2 : ByteArray) : Option (Int × Bool) :=
  (slices_BinarySearchFunc_LimplFile_impl_Disk_place_1_l1 a1 a2 (0, (a1.length : Int))).bind fun v16 =>
  if decide (v16 < (a1.length : Int)) then
    ((idx a1 v16).bind fun x18 =>
    (impl_Disk_place_1 x18 a2).bind fun x20 =>
    some (v16, x20 == 0))
  else
    (some (v16, false))

noncomputable def impl_Disk_place (a1 : Disk) (a2 : ByteArray) : Option (Int × Bool) :=
  (slices_BinarySearchFunc_LimplFile_impl_Disk_place_1 a1.Files a2).bind fun x3 =>
  some (x3.1, x3.2)

noncomputable def impl_Disk_data (a1 : Disk) (a2 : ByteArray) : Option ((List Int) × Bool) :=
  (impl_Disk_place a1 a2).bind fun x3 =>
  if !x3.2 then
    (some (([] : List Int), false))
  else
    ((idx a1.Files x3.1).bind fun x6 =>
    some (x6.Data, true))

noncomputable def impl_Disk_current (a1 : Disk) : Option (Int × Int) :=
  (impl_Disk_data a1 (bs [99, 117, 114])).bind fun x2 =>
  (impl_number (b2s x2.1) 6).bind fun x4 =>
  (if !x2.2 then
      (some true)
    else
      ((impl_Disk_gens a1).bind fun x7 =>
      (slices_Contains_Lint64 x7 x4).bind fun x9 =>
      some (!x9))).bind fun v11 =>
  if v11 then
    (some (0, 4))
  else
    (some (x4, 0))

noncomputable def slices_Clone_Lint64 (a1 : (List Int)) : Option (List Int) :=
  (app 8 ([] : List Int) a1).bind fun x3 =>
  some x3

noncomputable def slices_Sort_Lint64r (a1 : List Int) : Option (List Int) := if a1.length ≤ 4611686018427387903 then some (a1.mergeSort fun x y => decide (x ≤ y)) else none

noncomputable def slices_Compact_Lint64r_l1b (s41 : Int) (x48 : (List Int)) (s61 : ((List Int) × Int × Int)) : Option (Lp ((List Int) × Int × Int) ((List Int) × Int)) :=
  if decide (s61.2.2 < (x48.length : Int)) then
    ((idxo s61.1 s41 x48.length s61.2.2).bind fun x63 =>
    (idxo s61.1 s41 x48.length (w64 (s61.2.2 - 1))).bind fun x65 =>
    (if x63 != x65 then
        ((idxo s61.1 s41 x48.length s61.2.2).bind fun x68 =>
        (idx s61.1 s61.2.1).bind fun x70 =>
        some (s61.1.set s61.2.1.toNat x68, w64 (s61.2.1 + 1)))
      else
        (some (s61.1, s61.2.1))).bind fun v72 =>
    some (Lp.go (v72.1, v72.2, w64 (s61.2.2 + 1))))
  else
    (some (Lp.done (s61.1, s61.2.1)))

noncomputable def slices_Compact_Lint64r_l1 (s41 : Int) (x48 : (List Int)) : ((List Int) × Int × Int) → Option ((List Int) × Int) := loop (slices_Compact_Lint64r_l1b s41 x48)

noncomputable def slices_Compact_Lint64r_l2b (a1 : (List Int)) (s41 : Int) : Option (Lp Int (Fl (List Int) Unit)) :=
  if decide (s41 < (a1.length : Int)) then
    ((idx a1 s41).bind fun x43 =>
    (idx a1 (w64 (s41 - 1))).bind fun x45 =>
    if x43 == x45 then
      ((lsub a1 s41 (a1.length : Int)).bind fun x48 =>
      (slices_Compact_Lint64r_l1 s41 x48 (a1, s41, 1)).bind fun v73 =>
      (lsub v73.1 v73.2 (v73.1.length : Int)).bind fun x74 =>
      (clrw v73.1 v73.2 x74.length 0).bind fun x76 =>
      (lsub x76 0 v73.2).bind fun x78 =>
      some (Lp.done (Fl.ret x78)))
    else
      (some (Lp.go (w64 (s41 + 1)))))
  else
    (some (Lp.done (Fl.nxt ())))

noncomputable def slices_Compact_Lint64r_l2 (a1 : (List Int)) : Int → Option (Fl (List Int) Unit) := loop (slices_Compact_Lint64r_l2b a1)

noncomputable def slices_Compact_Lint64r (a1 : (List Int)) : Option (List Int) :=
  if decide ((a1.length : Int) < 2) then
    (some a1)
  else
    ((slices_Compact_Lint64r_l2 a1 1).bind (Fl.go some fun v80 =>
    some a1))

noncomputable def impl_Disk_kept (a1 : Disk) (a2 : (List Int)) : Option ((List Int) × Int) :=
  (impl_Disk_gens a1).bind fun x3 =>
  if decide ((a2.length : Int) > 40) then
    (some (([] : List Int), 2))
  else
    ((slices_ContainsFunc_Lint64_impl_Disk_kept_1o a2 x3).bind fun x6 =>
    if x6 then
      (some (([] : List Int), 4))
    else
      ((impl_Disk_current a1).bind fun x9 =>
      if x9.2 != 0 then
        (some (([] : List Int), x9.2))
      else
        ((slices_Clone_Lint64 a2).bind fun x12 =>
        (app 8 x12 [x9.1]).bind fun x14 =>
        (slices_Sort_Lint64r x14).bind fun x16 =>
        (same x16 x14).bind fun u18 =>
        (slices_Compact_Lint64r x16).bind fun x20 =>
        some (x20, 0))))

noncomputable def impl_KeptGens (a1 : Disk) (a2 : (List Int)) : Option GensResult :=
  (impl_DiskFault a1).bind fun x3 =>
  if x3 != 0 then
    (some ({ Code := x3, Gens := ([] : List Int) } : GensResult))
  else
    ((impl_Disk_kept a1 a2).bind fun x6 =>
    some ({ Code := x6.2, Gens := x6.1 } : GensResult))

noncomputable def laws_eqInt64S_l1b (a1 : (List Int)) (a2 : (List Int)) (s10 : Int) : Option (Lp Int (Fl Bool Unit)) :=
  if decide (s10 < (a1.length : Int)) then
    ((idx a1 s10).bind fun x12 =>
    (idx a2 s10).bind fun x14 =>
    if x12 != x14 then
      (some (Lp.done (Fl.ret false)))
    else
      (some (Lp.go (w64 (s10 + 1)))))
  else
    (some (Lp.done (Fl.nxt ())))

noncomputable def laws_eqInt64S_l1 (a1 : (List Int)) (a2 : (List Int)) : Int → Option (Fl Bool Unit) := loop (laws_eqInt64S_l1b a1 a2)

noncomputable def laws_eqInt64S (a1 : (List Int)) (a2 : (List Int)) : Option Bool :=
  if (a1.length : Int) != (a2.length : Int) then
    (some false)
  else
    ((laws_eqInt64S_l1 a1 a2 0).bind (Fl.go some fun v17 =>
    some true))

noncomputable def laws_eqGensResult (a1 : GensResult) (a2 : GensResult) : Option Bool :=
  if a1.Code != a2.Code then
    (some false)
  else
    ((laws_eqInt64S a1.Gens a2.Gens).bind fun x4 =>
    if !x4 then
      (some false)
    else
      (some true))

noncomputable def laws_eqByteS_l1b (a1 : (List Int)) (a2 : (List Int)) (s10 : Int) : Option (Lp Int (Fl Bool Unit)) :=
  if decide (s10 < (a1.length : Int)) then
    ((idx a1 s10).bind fun x12 =>
    (idx a2 s10).bind fun x14 =>
    if x12 != x14 then
      (some (Lp.done (Fl.ret false)))
    else
      (some (Lp.go (w64 (s10 + 1)))))
  else
    (some (Lp.done (Fl.nxt ())))

noncomputable def laws_eqByteS_l1 (a1 : (List Int)) (a2 : (List Int)) : Int → Option (Fl Bool Unit) := loop (laws_eqByteS_l1b a1 a2)

noncomputable def laws_eqByteS (a1 : (List Int)) (a2 : (List Int)) : Option Bool :=
  if (a1.length : Int) != (a2.length : Int) then
    (some false)
  else
    ((laws_eqByteS_l1 a1 a2 0).bind (Fl.go some fun v17 =>
    some true))

noncomputable def laws_eqFile (a1 : File) (a2 : File) : Option Bool :=
  if !(seq a1.Path a2.Path) then
    (some false)
  else
    ((laws_eqByteS a1.Data a2.Data).bind fun x4 =>
    if !x4 then
      (some false)
    else
      (some true))

noncomputable def laws_eqFileS_l1b (a1 : (List File)) (a2 : (List File)) (s12 : Int) : Option (Lp Int (Fl Bool Unit)) :=
  if decide (s12 < (a1.length : Int)) then
    ((idx a1 s12).bind fun x14 =>
    (idx a2 s12).bind fun x16 =>
    (laws_eqFile x14 x16).bind fun x18 =>
    if !x18 then
      (some (Lp.done (Fl.ret false)))
    else
      (some (Lp.go (w64 (s12 + 1)))))
  else
    (some (Lp.done (Fl.nxt ())))

noncomputable def laws_eqFileS_l1 (a1 : (List File)) (a2 : (List File)) : Int → Option (Fl Bool Unit) := loop (laws_eqFileS_l1b a1 a2)

noncomputable def laws_eqFileS (a1 : (List File)) (a2 : (List File)) : Option Bool :=
  if (a1.length : Int) != (a2.length : Int) then
    (some false)
  else
    ((laws_eqFileS_l1 a1 a2 0).bind (Fl.go some fun v21 =>
    some true))

noncomputable def laws_eqDisk (a1 : Disk) (a2 : Disk) : Option Bool :=
  (laws_eqFileS a1.Files a2.Files).bind fun x3 =>
  if !x3 then
    (some false)
  else
    (if a1.Budget != a2.Budget then
      (some false)
    else
      (if a1.Writes != a2.Writes then
        (some false)
      else
        (if a1.Stop != a2.Stop then
          (some false)
        else
          (if !(a1.Down == a2.Down) then
            (some false)
          else
            (some true)))))

noncomputable def laws_markText_l1b  (s6 : (Int × ByteArray)) : Option (Lp (Int × ByteArray) ByteArray) :=
  if decide (s6.1 > 0) then
    ((cat (b2s [IntKind.u8.wrap (w64 (48 + (s6.1.tmod 10)))]) s6.2).bind fun x8 =>
    some (Lp.go (w64 (s6.1.tdiv 10), x8)))
  else
    (some (Lp.done s6.2))

noncomputable def laws_markText_l1  : (Int × ByteArray) → Option ByteArray := loop laws_markText_l1b

noncomputable def laws_markText (a1 : Int) : Option ByteArray :=
  if decide (a1 ≤ 0) then
    (some (bs [109, 48]))
  else
    ((laws_markText_l1 (a1, bs [])).bind fun v10 =>
    (cat (bs [109]) v10).bind fun x11 =>
    some x11)

noncomputable def laws_markByteSr_l1b  (s6 : ((List Int) × Int × Int)) : Option (Lp ((List Int) × Int × Int) ((List Int) × Int)) :=
  if decide (s6.2.2 < (s6.1.length : Int)) then
    ((idx s6.1 s6.2.2).bind fun x8 =>
    some (Lp.go (s6.1.set s6.2.2.toNat (IntKind.u8.wrap (s6.2.1)), w64 (s6.2.1 + 1), w64 (s6.2.2 + 1))))
  else
    (some (Lp.done (s6.1, s6.2.1)))

noncomputable def laws_markByteSr_l1  : ((List Int) × Int × Int) → Option ((List Int) × Int) := loop laws_markByteSr_l1b

noncomputable def laws_markByteSr (a1 : (List Int)) (a2 : Int) : Option (Int × (List Int)) :=
  (laws_markByteSr_l1 (a1, a2, 0)).bind fun v10 =>
  some (v10.2, v10.1)

noncomputable def laws_markFileSr_l1b  (s14 : ((List File) × Int × Int)) : Option (Lp ((List File) × Int × Int) ((List File) × Int)) :=
  if decide (s14.2.2 < (s14.1.length : Int)) then
    ((laws_markText s14.2.1).bind fun x16 =>
    (idx s14.1 s14.2.2).bind fun x18 =>
    (idx (s14.1.set s14.2.2.toNat ({ Path := x16, Data := x18.Data } : File)) s14.2.2).bind fun x20 =>
    (laws_markByteSr x20.Data (w64 (s14.2.1 + 1))).bind fun x22 =>
    (same x22.2 x20.Data).bind fun u24 =>
    some (Lp.go ((s14.1.set s14.2.2.toNat ({ Path := x16, Data := x18.Data } : File)).set s14.2.2.toNat ({ Path := x20.Path, Data := x22.2 } : File), x22.1, w64 (s14.2.2 + 1))))
  else
    (some (Lp.done (s14.1, s14.2.1)))

noncomputable def laws_markFileSr_l1  : ((List File) × Int × Int) → Option ((List File) × Int) := loop laws_markFileSr_l1b

noncomputable def laws_markFileSr (a1 : (List File)) (a2 : Int) : Option (Int × (List File)) :=
  (laws_markFileSr_l1 (a1, a2, 0)).bind fun v26 =>
  some (v26.2, v26.1)

noncomputable def laws_markDiskg (a1 : Disk) (a2 : Int) : Option (Int × (List File)) :=
  (laws_markFileSr a1.Files a2).bind fun x3 =>
  (same x3.2 a1.Files).bind fun u5 =>
  some (x3.1, x3.2)

noncomputable def laws_markInt64Sr_l1b  (s6 : ((List Int) × Int × Int)) : Option (Lp ((List Int) × Int × Int) ((List Int) × Int)) :=
  if decide (s6.2.2 < (s6.1.length : Int)) then
    ((idx s6.1 s6.2.2).bind fun x8 =>
    some (Lp.go (s6.1.set s6.2.2.toNat s6.2.1, w64 (s6.2.1 + 1), w64 (s6.2.2 + 1))))
  else
    (some (Lp.done (s6.1, s6.2.1)))

noncomputable def laws_markInt64Sr_l1  : ((List Int) × Int × Int) → Option ((List Int) × Int) := loop laws_markInt64Sr_l1b

noncomputable def laws_markInt64Sr (a1 : (List Int)) (a2 : Int) : Option (Int × (List Int)) :=
  (laws_markInt64Sr_l1 (a1, a2, 0)).bind fun v10 =>
  some (v10.2, v10.1)

noncomputable def laws_markGensResultg (a1 : GensResult) (a2 : Int) : Option (Int × (List Int)) :=
  (laws_markInt64Sr a1.Gens a2).bind fun x3 =>
  (same x3.2 a1.Gens).bind fun u5 =>
  some (x3.1, x3.2)

noncomputable def laws_heldInt64S_l1b (a1 : (List Int)) (s7 : (Int × Int)) : Option (Lp (Int × Int) (Fl Int Int)) :=
  if decide (s7.2 < (a1.length : Int)) then
    ((idx a1 s7.2).bind fun x9 =>
    if x9 != s7.1 then
      (some (Lp.done (Fl.ret (-1))))
    else
      (some (Lp.go (w64 (s7.1 + 1), w64 (s7.2 + 1)))))
  else
    (some (Lp.done (Fl.nxt s7.1)))

noncomputable def laws_heldInt64S_l1 (a1 : (List Int)) : (Int × Int) → Option (Fl Int Int) := loop (laws_heldInt64S_l1b a1)

noncomputable def laws_heldInt64S (a1 : (List Int)) (a2 : Int) : Option Int :=
  (laws_heldInt64S_l1 a1 (a2, 0)).bind (Fl.go some fun v12 =>
  some v12)

noncomputable def laws_heldGensResult (a1 : GensResult) (a2 : Int) : Option Int :=
  (laws_heldInt64S a1.Gens a2).bind fun x3 =>
  if decide (x3 < 0) then
    (some (-1))
  else
    (some x3)

noncomputable def laws_FnExactKeptGens (a1 : Disk) (a2 : (List Int)) : Option Bool :=
  if decide ((a2.length : Int) > 1048576) then
    (some true)
  else
    ((laws_szDisk a1 1048576).bind fun x4 =>
    if decide (x4 < 0) then
      (some true)
    else
      ((laws_toDisk a1).bind fun x7 =>
      (laws_toInt64S a2).bind fun x9 =>
      (spec_KeptGens x7 x9).bind fun x11 =>
      (laws_toDisk a1).bind fun x13 =>
      (laws_toInt64S a2).bind fun x15 =>
      (impl_KeptGens x13 x15).bind fun x17 =>
      (laws_eqGensResult x17 x11).bind fun x19 =>
      if !x19 then
        (some false)
      else
        ((laws_toDisk a1).bind fun x22 =>
        (laws_eqDisk x13 x22).bind fun x24 =>
        if !x24 then
          (some false)
        else
          ((laws_toInt64S a2).bind fun x27 =>
          (laws_eqInt64S x15 x27).bind fun x29 =>
          if !x29 then
            (some false)
          else
            ((laws_markDiskg x13 1).bind fun x32 =>
            (laws_markInt64Sr x15 x32.1).bind fun x34 =>
            (if decide (x34.1 < 0) then
                (some true)
              else
                ((laws_eqGensResult x17 x11).bind fun x37 =>
                some (!x37))).bind fun v39 =>
            if v39 then
              (some false)
            else
              ((laws_markGensResultg x17 1).bind fun x41 =>
              (same x41.2 x17.Gens).bind fun u43 =>
              (laws_heldGensResult ({ Code := x17.Code, Gens := x41.2 } : GensResult) 1).bind fun x45 =>
              if decide (x45 < 0) then
                (some false)
              else
                (if x45 != x41.1 then
                  (some false)
                else
                  ((laws_toDisk a1).bind fun x49 =>
                  (laws_toInt64S a2).bind fun x51 =>
                  (impl_KeptGens x49 x51).bind fun x53 =>
                  (laws_eqGensResult x53 x11).bind fun x55 =>
                  if !x55 then
                    (some false)
                  else
                    ((laws_heldGensResult ({ Code := x17.Code, Gens := x41.2 } : GensResult) 1).bind fun x58 =>
                    if decide (x58 < 0) then
                      (some false)
                    else
                      (if x58 != x41.1 then
                        (some false)
                      else
                        (some true)))))))))))

end Go.Told

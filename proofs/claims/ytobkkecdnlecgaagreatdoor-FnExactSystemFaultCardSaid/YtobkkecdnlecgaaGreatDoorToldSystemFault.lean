import Derived.Test.YtobkkecdnlecgaaGreatDoorImF
set_option linter.unusedVariables false
set_option maxRecDepth 4000
namespace Go.Told
open Go Go.Im

structure Version where
  A : Int
  B : Int
  C : Int
  deriving DecidableEq

def Version.enc (x : Version) : List D := [.sc (.int .i64 x.A), .sc (.int .i64 x.B), .sc (.int .i64 x.C)]

theorem Version.fl (x : Version) : flatC (Version.enc x) := (flatK flat_sc (flatK flat_sc (flatK flat_sc flatN)))

structure Term where
  Name : ByteArray
  Low : Version
  High : Version
  deriving DecidableEq

def Term.enc (x : Term) : List D := [.sc (.string x.Name), .sc (.int .i64 x.Low.A), .sc (.int .i64 x.Low.B), .sc (.int .i64 x.Low.C), .sc (.int .i64 x.High.A), .sc (.int .i64 x.High.B), .sc (.int .i64 x.High.C)]

theorem Term.fl (x : Term) : flatC (Term.enc x) := (flatK flat_sc (flatK flat_sc (flatK flat_sc (flatK flat_sc (flatK flat_sc (flatK flat_sc (flatK flat_sc flatN)))))))

structure Pack where
  Name : ByteArray
  Version : Version
  Size : Int
  Provides : (List ByteArray)
  Needs : (List (List Term))
  Bars : (List Term)
  deriving DecidableEq

def Pack.enc (o : Bool) (x : Pack) : List D := [.sc (.string x.Name), .sc (.int .i64 x.Version.A), .sc (.int .i64 x.Version.B), .sc (.int .i64 x.Version.C), .sc (.int .i64 x.Size), .s o 1 x.Provides.length (x.Provides.map eStr), .s o 1 x.Needs.length (x.Needs.map (eSl o 7 Term.enc)), .s o 7 x.Bars.length (x.Bars.map Term.enc)]

theorem Pack.ro (o : Bool) (x : Pack) : D.ro.roC (Pack.enc o x) = Pack.enc false x := by
  simp only [Pack.enc, D.ro.roC, D.ro, roE_map (enc := eStr) (enc' := eStr) (fun _ => rfl), roE_map (enc := (eSl o 7 Term.enc)) (enc' := (eSl false 7 Term.enc)) (eSl_ro (fun _ => rfl)), roE_map (enc := Term.enc) (enc' := Term.enc) (fun _ => rfl)]

theorem Pack.fl (x : Pack) : flatC (Pack.enc true x) := (flatK flat_sc (flatK flat_sc (flatK flat_sc (flatK flat_sc (flatK flat_sc (flatK (flat_s (flatM (fun _ => (flatK flat_sc flatN)) _)) (flatK (flat_s (flatM (fun _ => (flatK (flat_s (flatM (fun _ => (Term.fl _)) _)) flatN)) _)) (flatK (flat_s (flatM (fun _ => (Term.fl _)) _)) flatN))))))))

structure File where
  Path : ByteArray
  Data : (List Int)
  deriving DecidableEq

def File.enc (o : Bool) (x : File) : List D := [.sc (.string x.Path), .s o 1 x.Data.length (x.Data.map eU8)]

theorem File.ro (o : Bool) (x : File) : D.ro.roC (File.enc o x) = File.enc false x := by
  simp only [File.enc, D.ro.roC, D.ro, roE_map (enc := eU8) (enc' := eU8) (fun _ => rfl)]

theorem File.fl (x : File) : flatC (File.enc true x) := (flatK flat_sc (flatK (flat_s (flatM (fun _ => (flatK flat_sc flatN)) _)) flatN))

structure Disk where
  Files : (List File)
  Budget : Int
  Writes : Int
  Stop : Int
  Down : Bool
  deriving DecidableEq

def Disk.enc (o : Bool) (x : Disk) : List D := [.s o 2 x.Files.length (x.Files.map (File.enc o)), .sc (.int .i64 x.Budget), .sc (.int .i64 x.Writes), .sc (.int .i64 x.Stop), .sc (.bool x.Down)]

theorem Disk.ro (o : Bool) (x : Disk) : D.ro.roC (Disk.enc o x) = Disk.enc false x := by
  simp only [Disk.enc, D.ro.roC, D.ro, roE_map (enc := (File.enc o)) (enc' := (File.enc false)) (File.ro o)]

theorem Disk.fl (x : Disk) : flatC (Disk.enc true x) := (flatK (flat_s (flatM (fun _ => (File.fl _)) _)) (flatK flat_sc (flatK flat_sc (flatK flat_sc (flatK flat_sc flatN)))))

structure System where
  Catalog : (List Pack)
  Disk : Disk
  deriving DecidableEq

def System.enc (o : Bool) (x : System) : List D := [.s o 8 x.Catalog.length (x.Catalog.map (Pack.enc o)), .s o 2 x.Disk.Files.length (x.Disk.Files.map (File.enc o)), .sc (.int .i64 x.Disk.Budget), .sc (.int .i64 x.Disk.Writes), .sc (.int .i64 x.Disk.Stop), .sc (.bool x.Disk.Down)]

theorem System.ro (o : Bool) (x : System) : D.ro.roC (System.enc o x) = System.enc false x := by
  simp only [System.enc, D.ro.roC, D.ro, roE_map (enc := (Pack.enc o)) (enc' := (Pack.enc false)) (Pack.ro o), roE_map (enc := (File.enc o)) (enc' := (File.enc false)) (File.ro o)]

theorem System.fl (x : System) : flatC (System.enc true x) := (flatK (flat_s (flatM (fun _ => (Pack.fl _)) _)) (flatK (flat_s (flatM (fun _ => (File.fl _)) _)) (flatK flat_sc (flatK flat_sc (flatK flat_sc (flatK flat_sc flatN))))))

structure SetResult where
  Code : Int
  At : Int
  Set : (List Int)
  deriving DecidableEq

def SetResult.enc (o : Bool) (x : SetResult) : List D := [.sc (.int .i64 x.Code), .sc (.int .i64 x.At), .s o 1 x.Set.length (x.Set.map eI64)]

theorem SetResult.ro (o : Bool) (x : SetResult) : D.ro.roC (SetResult.enc o x) = SetResult.enc false x := by
  simp only [SetResult.enc, D.ro.roC, D.ro, roE_map (enc := eI64) (enc' := eI64) (fun _ => rfl)]

theorem SetResult.fl (x : SetResult) : flatC (SetResult.enc true x) := (flatK flat_sc (flatK flat_sc (flatK (flat_s (flatM (fun _ => (flatK flat_sc flatN)) _)) flatN)))

structure Fault where
  Kind : Int
  Pack : Int
  At : Int
  deriving DecidableEq

def Fault.enc (x : Fault) : List D := [.sc (.int .i64 x.Kind), .sc (.int .i64 x.Pack), .sc (.int .i64 x.At)]

theorem Fault.fl (x : Fault) : flatC (Fault.enc x) := (flatK flat_sc (flatK flat_sc (flatK flat_sc flatN)))

structure TermResult where
  Code : Int
  Term : Term
  deriving DecidableEq

def TermResult.enc (x : TermResult) : List D := [.sc (.int .i64 x.Code), .sc (.string x.Term.Name), .sc (.int .i64 x.Term.Low.A), .sc (.int .i64 x.Term.Low.B), .sc (.int .i64 x.Term.Low.C), .sc (.int .i64 x.Term.High.A), .sc (.int .i64 x.Term.High.B), .sc (.int .i64 x.Term.High.C)]

theorem TermResult.fl (x : TermResult) : flatC (TermResult.enc x) := (flatK flat_sc (flatK flat_sc (flatK flat_sc (flatK flat_sc (flatK flat_sc (flatK flat_sc (flatK flat_sc (flatK flat_sc flatN))))))))

structure VersionResult where
  Code : Int
  Version : Version
  deriving DecidableEq

def VersionResult.enc (x : VersionResult) : List D := [.sc (.int .i64 x.Code), .sc (.int .i64 x.Version.A), .sc (.int .i64 x.Version.B), .sc (.int .i64 x.Version.C)]

theorem VersionResult.fl (x : VersionResult) : flatC (VersionResult.enc x) := (flatK flat_sc (flatK flat_sc (flatK flat_sc (flatK flat_sc flatN))))

noncomputable def laws_szStringS_l1b (a1 : (List ByteArray)) (s8 : (Int × Int)) : Option (Lp (Int × Int) (Fl Int Int)) :=
  if decide (s8.2 < (a1.length : Int)) then
    ((idx a1 s8.2).bind fun x10 =>
    if decide ((w64 (s8.1 - (x10.size : Int))) < 0) then
      (some (Lp.done (Fl.ret (-1))))
    else
      (some (Lp.go (w64 (s8.1 - (x10.size : Int)), w64 (s8.2 + 1)))))
  else
    (some (Lp.done (Fl.nxt s8.1)))

noncomputable def laws_szStringS_l1 (a1 : (List ByteArray)) : (Int × Int) → Option (Fl Int Int) := loop (laws_szStringS_l1b a1)

noncomputable def laws_szStringS (a1 : (List ByteArray)) (a2 : Int) : Option Int :=
  if decide ((w64 (a2 - (a1.length : Int))) < 0) then
    (some (-1))
  else
    ((laws_szStringS_l1 a1 (w64 (a2 - (a1.length : Int)), 0)).bind (Fl.go some fun v13 =>
    some v13))

noncomputable def laws_szTerm (a1 : Term) (a2 : Int) : Option Int :=
  if decide ((w64 (a2 - (a1.Name.size : Int))) < 0) then
    (some (-1))
  else
    (some (w64 (a2 - (a1.Name.size : Int))))

noncomputable def laws_szTermS_l1b (a1 : (List Term)) (s10 : (Int × Int)) : Option (Lp (Int × Int) (Fl Int Int)) :=
  if decide (s10.2 < (a1.length : Int)) then
    ((idx a1 s10.2).bind fun x12 =>
    (laws_szTerm x12 s10.1).bind fun x14 =>
    if decide (x14 < 0) then
      (some (Lp.done (Fl.ret (-1))))
    else
      (some (Lp.go (x14, w64 (s10.2 + 1)))))
  else
    (some (Lp.done (Fl.nxt s10.1)))

noncomputable def laws_szTermS_l1 (a1 : (List Term)) : (Int × Int) → Option (Fl Int Int) := loop (laws_szTermS_l1b a1)

noncomputable def laws_szTermS (a1 : (List Term)) (a2 : Int) : Option Int :=
  if decide ((w64 (a2 - (a1.length : Int))) < 0) then
    (some (-1))
  else
    ((laws_szTermS_l1 a1 (w64 (a2 - (a1.length : Int)), 0)).bind (Fl.go some fun v17 =>
    some v17))

noncomputable def laws_szTermSS_l1b (a1 : (List (List Term))) (s10 : (Int × Int)) : Option (Lp (Int × Int) (Fl Int Int)) :=
  if decide (s10.2 < (a1.length : Int)) then
    ((idx a1 s10.2).bind fun x12 =>
    (laws_szTermS x12 s10.1).bind fun x14 =>
    if decide (x14 < 0) then
      (some (Lp.done (Fl.ret (-1))))
    else
      (some (Lp.go (x14, w64 (s10.2 + 1)))))
  else
    (some (Lp.done (Fl.nxt s10.1)))

noncomputable def laws_szTermSS_l1 (a1 : (List (List Term))) : (Int × Int) → Option (Fl Int Int) := loop (laws_szTermSS_l1b a1)

noncomputable def laws_szTermSS (a1 : (List (List Term))) (a2 : Int) : Option Int :=
  if decide ((w64 (a2 - (a1.length : Int))) < 0) then
    (some (-1))
  else
    ((laws_szTermSS_l1 a1 (w64 (a2 - (a1.length : Int)), 0)).bind (Fl.go some fun v17 =>
    some v17))

noncomputable def laws_szPack (a1 : Pack) (a2 : Int) : Option Int :=
  if decide ((w64 (a2 - (a1.Name.size : Int))) < 0) then
    (some (-1))
  else
    ((laws_szStringS a1.Provides (w64 (a2 - (a1.Name.size : Int)))).bind fun x4 =>
    if decide (x4 < 0) then
      (some (-1))
    else
      ((laws_szTermSS a1.Needs x4).bind fun x7 =>
      if decide (x7 < 0) then
        (some (-1))
      else
        ((laws_szTermS a1.Bars x7).bind fun x10 =>
        if decide (x10 < 0) then
          (some (-1))
        else
          (some x10))))

noncomputable def laws_szPackS_l1b (a1 : (List Pack)) (s10 : (Int × Int)) : Option (Lp (Int × Int) (Fl Int Int)) :=
  if decide (s10.2 < (a1.length : Int)) then
    ((idx a1 s10.2).bind fun x12 =>
    (laws_szPack x12 s10.1).bind fun x14 =>
    if decide (x14 < 0) then
      (some (Lp.done (Fl.ret (-1))))
    else
      (some (Lp.go (x14, w64 (s10.2 + 1)))))
  else
    (some (Lp.done (Fl.nxt s10.1)))

noncomputable def laws_szPackS_l1 (a1 : (List Pack)) : (Int × Int) → Option (Fl Int Int) := loop (laws_szPackS_l1b a1)

noncomputable def laws_szPackS (a1 : (List Pack)) (a2 : Int) : Option Int :=
  if decide ((w64 (a2 - (a1.length : Int))) < 0) then
    (some (-1))
  else
    ((laws_szPackS_l1 a1 (w64 (a2 - (a1.length : Int)), 0)).bind (Fl.go some fun v17 =>
    some v17))

noncomputable def laws_szByteS (a1 : (List Int)) (a2 : Int) : Option Int :=
  if decide ((w64 (a2 - (a1.length : Int))) < 0) then
    (some (-1))
  else
    (some (w64 (a2 - (a1.length : Int))))

noncomputable def laws_szFile (a1 : File) (a2 : Int) : Option Int :=
  if decide ((w64 (a2 - (a1.Path.size : Int))) < 0) then
    (some (-1))
  else
    ((laws_szByteS a1.Data (w64 (a2 - (a1.Path.size : Int)))).bind fun x4 =>
    if decide (x4 < 0) then
      (some (-1))
    else
      (some x4))

noncomputable def laws_szFileS_l1b (a1 : (List File)) (s10 : (Int × Int)) : Option (Lp (Int × Int) (Fl Int Int)) :=
  if decide (s10.2 < (a1.length : Int)) then
    ((idx a1 s10.2).bind fun x12 =>
    (laws_szFile x12 s10.1).bind fun x14 =>
    if decide (x14 < 0) then
      (some (Lp.done (Fl.ret (-1))))
    else
      (some (Lp.go (x14, w64 (s10.2 + 1)))))
  else
    (some (Lp.done (Fl.nxt s10.1)))

noncomputable def laws_szFileS_l1 (a1 : (List File)) : (Int × Int) → Option (Fl Int Int) := loop (laws_szFileS_l1b a1)

noncomputable def laws_szFileS (a1 : (List File)) (a2 : Int) : Option Int :=
  if decide ((w64 (a2 - (a1.length : Int))) < 0) then
    (some (-1))
  else
    ((laws_szFileS_l1 a1 (w64 (a2 - (a1.length : Int)), 0)).bind (Fl.go some fun v17 =>
    some v17))

noncomputable def laws_szDisk (a1 : Disk) (a2 : Int) : Option Int :=
  (laws_szFileS a1.Files a2).bind fun x3 =>
  if decide (x3 < 0) then
    (some (-1))
  else
    (some x3)

noncomputable def laws_szSystem (a1 : System) (a2 : Int) : Option Int :=
  (laws_szPackS a1.Catalog a2).bind fun x3 =>
  if decide (x3 < 0) then
    (some (-1))
  else
    ((laws_szDisk a1.Disk x3).bind fun x6 =>
    if decide (x6 < 0) then
      (some (-1))
    else
      (some x6))

noncomputable def laws_toVersion (a1 : Version) : Option Version :=
  some a1

noncomputable def laws_toStringS_l1b (a1 : (List ByteArray)) (s9 : ((List ByteArray) × Int)) : Option (Lp ((List ByteArray) × Int) (List ByteArray)) :=
  if decide (s9.2 < (a1.length : Int)) then
    ((idx a1 s9.2).bind fun x11 =>
    (idx s9.1 s9.2).bind fun x13 =>
    some (Lp.go (s9.1.set s9.2.toNat x11, w64 (s9.2 + 1))))
  else
    (some (Lp.done s9.1))

noncomputable def laws_toStringS_l1 (a1 : (List ByteArray)) : ((List ByteArray) × Int) → Option (List ByteArray) := loop (laws_toStringS_l1b a1)

noncomputable def laws_toStringS (a1 : (List ByteArray)) : Option (List ByteArray) :=
  (mk 16 (a1.length : Int) ByteArray.empty).bind fun x2 =>
  (laws_toStringS_l1 a1 (x2, 0)).bind fun v15 =>
  some v15

noncomputable def laws_toTerm (a1 : Term) : Option Term :=
  (laws_toVersion a1.Low).bind fun x2 =>
  (laws_toVersion a1.High).bind fun x4 =>
  some ({ Name := a1.Name, Low := x2, High := x4 } : Term)

noncomputable def laws_toTermS_l1b (a1 : (List Term)) (s11 : ((List Term) × Int)) : Option (Lp ((List Term) × Int) (List Term)) :=
  if decide (s11.2 < (a1.length : Int)) then
    ((idx a1 s11.2).bind fun x13 =>
    (laws_toTerm x13).bind fun x15 =>
    (idx s11.1 s11.2).bind fun x17 =>
    some (Lp.go (s11.1.set s11.2.toNat x15, w64 (s11.2 + 1))))
  else
    (some (Lp.done s11.1))

noncomputable def laws_toTermS_l1 (a1 : (List Term)) : ((List Term) × Int) → Option (List Term) := loop (laws_toTermS_l1b a1)

noncomputable def laws_toTermS (a1 : (List Term)) : Option (List Term) :=
  (mk 64 (a1.length : Int) ({ Name := ByteArray.empty, Low := ({ A := 0, B := 0, C := 0 } : Version), High := ({ A := 0, B := 0, C := 0 } : Version) } : Term)).bind fun x2 =>
  (laws_toTermS_l1 a1 (x2, 0)).bind fun v19 =>
  some v19

noncomputable def laws_toTermSS_l1b (a1 : (List (List Term))) (s11 : ((List (List Term)) × Int)) : Option (Lp ((List (List Term)) × Int) (List (List Term))) :=
  if decide (s11.2 < (a1.length : Int)) then
    ((idx a1 s11.2).bind fun x13 =>
    (laws_toTermS x13).bind fun x15 =>
    (idx s11.1 s11.2).bind fun x17 =>
    some (Lp.go (s11.1.set s11.2.toNat x15, w64 (s11.2 + 1))))
  else
    (some (Lp.done s11.1))

noncomputable def laws_toTermSS_l1 (a1 : (List (List Term))) : ((List (List Term)) × Int) → Option (List (List Term)) := loop (laws_toTermSS_l1b a1)

noncomputable def laws_toTermSS (a1 : (List (List Term))) : Option (List (List Term)) :=
  (mk 24 (a1.length : Int) ([] : List Term)).bind fun x2 =>
  (laws_toTermSS_l1 a1 (x2, 0)).bind fun v19 =>
  some v19

noncomputable def laws_toPack (a1 : Pack) : Option Pack :=
  (laws_toVersion a1.Version).bind fun x2 =>
  (laws_toStringS a1.Provides).bind fun x4 =>
  (laws_toTermSS a1.Needs).bind fun x6 =>
  (laws_toTermS a1.Bars).bind fun x8 =>
  some ({ Name := a1.Name, Version := x2, Size := a1.Size, Provides := x4, Needs := x6, Bars := x8 } : Pack)

noncomputable def laws_toPackS_l1b (a1 : (List Pack)) (s11 : ((List Pack) × Int)) : Option (Lp ((List Pack) × Int) (List Pack)) :=
  if decide (s11.2 < (a1.length : Int)) then
    ((idx a1 s11.2).bind fun x13 =>
    (laws_toPack x13).bind fun x15 =>
    (idx s11.1 s11.2).bind fun x17 =>
    some (Lp.go (s11.1.set s11.2.toNat x15, w64 (s11.2 + 1))))
  else
    (some (Lp.done s11.1))

noncomputable def laws_toPackS_l1 (a1 : (List Pack)) : ((List Pack) × Int) → Option (List Pack) := loop (laws_toPackS_l1b a1)

noncomputable def laws_toPackS (a1 : (List Pack)) : Option (List Pack) :=
  (mk 120 (a1.length : Int) ({ Name := ByteArray.empty, Version := ({ A := 0, B := 0, C := 0 } : Version), Size := 0, Provides := ([] : List ByteArray), Needs := ([] : List (List Term)), Bars := ([] : List Term) } : Pack)).bind fun x2 =>
  (laws_toPackS_l1 a1 (x2, 0)).bind fun v19 =>
  some v19

noncomputable def laws_toByteS_l1b (a1 : (List Int)) (s9 : ((List Int) × Int)) : Option (Lp ((List Int) × Int) (List Int)) :=
  if decide (s9.2 < (a1.length : Int)) then
    ((idx a1 s9.2).bind fun x11 =>
    (idx s9.1 s9.2).bind fun x13 =>
    some (Lp.go (s9.1.set s9.2.toNat x11, w64 (s9.2 + 1))))
  else
    (some (Lp.done s9.1))

noncomputable def laws_toByteS_l1 (a1 : (List Int)) : ((List Int) × Int) → Option (List Int) := loop (laws_toByteS_l1b a1)

noncomputable def laws_toByteS (a1 : (List Int)) : Option (List Int) :=
  (mk 1 (a1.length : Int) 0).bind fun x2 =>
  (laws_toByteS_l1 a1 (x2, 0)).bind fun v15 =>
  some v15

noncomputable def laws_toFile (a1 : File) : Option File :=
  (laws_toByteS a1.Data).bind fun x2 =>
  some ({ Path := a1.Path, Data := x2 } : File)

noncomputable def laws_toFileS_l1b (a1 : (List File)) (s11 : ((List File) × Int)) : Option (Lp ((List File) × Int) (List File)) :=
  if decide (s11.2 < (a1.length : Int)) then
    ((idx a1 s11.2).bind fun x13 =>
    (laws_toFile x13).bind fun x15 =>
    (idx s11.1 s11.2).bind fun x17 =>
    some (Lp.go (s11.1.set s11.2.toNat x15, w64 (s11.2 + 1))))
  else
    (some (Lp.done s11.1))

noncomputable def laws_toFileS_l1 (a1 : (List File)) : ((List File) × Int) → Option (List File) := loop (laws_toFileS_l1b a1)

noncomputable def laws_toFileS (a1 : (List File)) : Option (List File) :=
  (mk 40 (a1.length : Int) ({ Path := ByteArray.empty, Data := ([] : List Int) } : File)).bind fun x2 =>
  (laws_toFileS_l1 a1 (x2, 0)).bind fun v19 =>
  some v19

noncomputable def laws_toDisk (a1 : Disk) : Option Disk :=
  (laws_toFileS a1.Files).bind fun x2 =>
  some ({ Files := x2, Budget := a1.Budget, Writes := a1.Writes, Stop := a1.Stop, Down := a1.Down } : Disk)

noncomputable def laws_toSystem (a1 : System) : Option System :=
  (laws_toPackS a1.Catalog).bind fun x2 =>
  (laws_toDisk a1.Disk).bind fun x4 =>
  some ({ Catalog := x2, Disk := x4 } : System)

noncomputable def spec_l1Letter (a1 : Int) : Option Bool :=
  if decide (a1 ≥ 97) then
    (some (decide (a1 ≤ 122)))
  else
    (some false)

noncomputable def spec_l1Digit (a1 : Int) : Option Bool :=
  if decide (a1 ≥ 48) then
    (some (decide (a1 ≤ 57)))
  else
    (some false)

noncomputable def spec_l1Name (a1 : Int) : Option Bool :=
  (spec_l1Letter a1).bind fun x2 =>
  if x2 then
    (some true)
  else
    ((spec_l1Digit a1).bind fun x5 =>
    if x5 then
      (some true)
    else
      (some (a1 == 95)))

noncomputable def spec_NameFault_l1b (a1 : ByteArray) (s16 : Int) : Option (Lp Int (Fl Int Unit)) :=
  if decide (s16 < (a1.size : Int)) then
    ((bidx a1 s16).bind fun x18 =>
    (spec_l1Name x18).bind fun x20 =>
    if !x20 then
      (some (Lp.done (Fl.ret 5)))
    else
      (some (Lp.go (w64 (s16 + 1)))))
  else
    (some (Lp.done (Fl.nxt ())))

noncomputable def spec_NameFault_l1 (a1 : ByteArray) : Int → Option (Fl Int Unit) := loop (spec_NameFault_l1b a1)

noncomputable def spec_NameFault (a1 : ByteArray) : Option Int :=
  (if decide ((a1.size : Int) < 1) then
      (some true)
    else
      (if decide ((a1.size : Int) > 12) then
        (some true)
      else
        ((bidx a1 0).bind fun x4 =>
        (spec_l1Letter x4).bind fun x6 =>
        some (!x6)))).bind fun v8 =>
  if v8 then
    (some 5)
  else
    ((spec_NameFault_l1 a1 0).bind (Fl.go some fun v23 =>
    some 0))

noncomputable def spec_l1In (a1 : Int) (a2 : Int) (a3 : Int) : Option Bool :=
  if decide (a1 ≥ a2) then
    (some (decide (a1 ≤ a3)))
  else
    (some false)

noncomputable def spec_VersionFault (a1 : Version) : Option Int :=
  (spec_l1In a1.A 0 999).bind fun x2 =>
  (if !x2 then
      (some true)
    else
      ((spec_l1In a1.B 0 999).bind fun x5 =>
      if !x5 then
        (some true)
      else
        ((spec_l1In a1.C 0 999).bind fun x8 =>
        some (!x8)))).bind fun v10 =>
  if v10 then
    (some 3)
  else
    (some 0)

noncomputable def spec_l2Holds_l1b (a1 : (List ByteArray)) (a2 : ByteArray) (s7 : Int) : Option (Lp Int (Fl Bool Unit)) :=
  if decide (s7 < (a1.length : Int)) then
    ((idx a1 s7).bind fun x9 =>
    if seq x9 a2 then
      (some (Lp.done (Fl.ret true)))
    else
      (some (Lp.go (w64 (s7 + 1)))))
  else
    (some (Lp.done (Fl.nxt ())))

noncomputable def spec_l2Holds_l1 (a1 : (List ByteArray)) (a2 : ByteArray) : Int → Option (Fl Bool Unit) := loop (spec_l2Holds_l1b a1 a2)

noncomputable def spec_l2Holds (a1 : (List ByteArray)) (a2 : ByteArray) : Option Bool :=
  (spec_l2Holds_l1 a1 a2 0).bind (Fl.go some fun v12 =>
  some false)

noncomputable def spec_l1Top  : Option Version :=
  some ({ A := 1000, B := 0, C := 0 } : Version)

noncomputable def spec_l1Sign (a1 : Int) (a2 : Int) : Option Int :=
  if decide (a1 < a2) then
    (some (-1))
  else
    (if decide (a1 > a2) then
      (some 1)
    else
      (some 0))

noncomputable def spec_CompareVersions (a1 : Version) (a2 : Version) : Option Int :=
  (spec_l1Sign a1.A a2.A).bind fun x3 =>
  if x3 != 0 then
    (some x3)
  else
    ((spec_l1Sign a1.B a2.B).bind fun x6 =>
    if x6 != 0 then
      (some x6)
    else
      ((spec_l1Sign a1.C a2.C).bind fun x9 =>
      some x9))

noncomputable def spec_TermFault (a1 : Term) : Option Int :=
  (spec_NameFault a1.Name).bind fun x2 =>
  if x2 != 0 then
    (some x2)
  else
    ((spec_VersionFault a1.Low).bind fun x5 =>
    if x5 != 0 then
      (some x5)
    else
      ((spec_l1Top).bind fun x8 =>
      (if !(a1.High.A == x8.A && (a1.High.B == x8.B && (a1.High.C == x8.C && true))) then
          ((spec_VersionFault a1.High).bind fun x11 =>
          some (x11 != 0))
        else
          (some false)).bind fun v13 =>
      if v13 then
        (some 3)
      else
        ((spec_CompareVersions a1.Low a1.High).bind fun x15 =>
        if decide (x15 ≥ 0) then
          (some 1)
        else
          (some 0))))

noncomputable def spec_l2Terms_l1b (a1 : (List Term)) (s8 : Int) : Option (Lp Int (Fl Int Unit)) :=
  if decide (s8 < (a1.length : Int)) then
    ((idx a1 s8).bind fun x10 =>
    (spec_TermFault x10).bind fun x12 =>
    if x12 != 0 then
      (some (Lp.done (Fl.ret x12)))
    else
      (some (Lp.go (w64 (s8 + 1)))))
  else
    (some (Lp.done (Fl.nxt ())))

noncomputable def spec_l2Terms_l1 (a1 : (List Term)) : Int → Option (Fl Int Unit) := loop (spec_l2Terms_l1b a1)

noncomputable def spec_l2Terms (a1 : (List Term)) : Option Int :=
  (spec_l2Terms_l1 a1 0).bind (Fl.go some fun v15 =>
  some 0)

noncomputable def spec_PackFault_l3b (a1 : Pack) (s70 : Int) : Option (Lp Int (Fl Int Unit)) :=
  if decide (s70 < (a1.Needs.length : Int)) then
    ((idx a1.Needs s70).bind fun x72 =>
    if (x72.length : Int) == 0 then
      (some (Lp.done (Fl.ret 1)))
    else
      ((idx a1.Needs s70).bind fun x75 =>
      (spec_l2Terms x75).bind fun x77 =>
      if x77 != 0 then
        (some (Lp.done (Fl.ret x77)))
      else
        (some (Lp.go (w64 (s70 + 1))))))
  else
    (some (Lp.done (Fl.nxt ())))

noncomputable def spec_PackFault_l3 (a1 : Pack) : Int → Option (Fl Int Unit) := loop (spec_PackFault_l3b a1)

noncomputable def spec_PackFault_l2b (a1 : Pack) (s42 : Int) : Option (Lp Int (Fl Int Unit)) :=
  if decide (s42 < (a1.Provides.length : Int)) then
    ((idx a1.Provides s42).bind fun x44 =>
    (spec_NameFault x44).bind fun x46 =>
    if x46 != 0 then
      (some (Lp.done (Fl.ret x46)))
    else
      ((idx a1.Provides s42).bind fun x49 =>
      (if seq x49 a1.Name then
          (some true)
        else
          ((lsub a1.Provides 0 s42).bind fun x52 =>
          (idx a1.Provides s42).bind fun x54 =>
          (spec_l2Holds x52 x54).bind fun x56 =>
          some x56)).bind fun v58 =>
      if v58 then
        (some (Lp.done (Fl.ret 6)))
      else
        (some (Lp.go (w64 (s42 + 1))))))
  else
    (some (Lp.done (Fl.nxt ())))

noncomputable def spec_PackFault_l2 (a1 : Pack) : Int → Option (Fl Int Unit) := loop (spec_PackFault_l2b a1)

noncomputable def spec_PackFault_l1b (a1 : Pack) (s19 : Int) : Option (Lp Int (Fl Int Unit)) :=
  if decide (s19 < (a1.Needs.length : Int)) then
    ((idx a1.Needs s19).bind fun x21 =>
    if decide ((x21.length : Int) > 4) then
      (some (Lp.done (Fl.ret 2)))
    else
      (some (Lp.go (w64 (s19 + 1)))))
  else
    (some (Lp.done (Fl.nxt ())))

noncomputable def spec_PackFault_l1 (a1 : Pack) : Int → Option (Fl Int Unit) := loop (spec_PackFault_l1b a1)

noncomputable def spec_PackFault (a1 : Pack) : Option Int :=
  (spec_NameFault a1.Name).bind fun x2 =>
  if x2 != 0 then
    (some x2)
  else
    ((spec_VersionFault a1.Version).bind fun x5 =>
    if x5 != 0 then
      (some x5)
    else
      ((spec_l1In a1.Size 1 200).bind fun x8 =>
      if !x8 then
        (some 3)
      else
        ((if decide ((a1.Provides.length : Int) > 4) then
            (some true)
          else
            (if decide ((a1.Needs.length : Int) > 4) then
              (some true)
            else
              (some (decide ((a1.Bars.length : Int) > 4))))).bind fun v13 =>
        if v13 then
          (some 2)
        else
          ((spec_PackFault_l1 a1 0).bind (Fl.go some fun v24 =>
          (spec_PackFault_l2 a1 0).bind (Fl.go some fun v60 =>
          (spec_PackFault_l3 a1 0).bind (Fl.go some fun v80 =>
          (spec_l2Terms a1.Bars).bind fun x81 =>
          some x81)))))))

noncomputable def spec_l2Find_l1b (a1 : (List Pack)) (a2 : ByteArray) (a3 : Version) (s14 : Int) : Option (Lp Int (Fl Int Unit)) :=
  if decide (s14 < (a1.length : Int)) then
    ((idx a1 s14).bind fun x16 =>
    (if seq x16.Name a2 then
        ((idx a1 s14).bind fun x19 =>
        (spec_CompareVersions x19.Version a3).bind fun x21 =>
        some (x21 == 0))
      else
        (some false)).bind fun v23 =>
    if v23 then
      (some (Lp.done (Fl.ret s14)))
    else
      (some (Lp.go (w64 (s14 + 1)))))
  else
    (some (Lp.done (Fl.nxt ())))

noncomputable def spec_l2Find_l1 (a1 : (List Pack)) (a2 : ByteArray) (a3 : Version) : Int → Option (Fl Int Unit) := loop (spec_l2Find_l1b a1 a2 a3)

noncomputable def spec_l2Find (a1 : (List Pack)) (a2 : ByteArray) (a3 : Version) : Option Int :=
  (spec_l2Find_l1 a1 a2 a3 0).bind (Fl.go some fun v25 =>
  some (-1))

noncomputable def spec_CatalogFault_l1b (a1 : (List Pack)) (s18 : Int) : Option (Lp Int (Fl Int Unit)) :=
  if decide (s18 < (a1.length : Int)) then
    ((idx a1 s18).bind fun x20 =>
    (spec_PackFault x20).bind fun x22 =>
    if x22 != 0 then
      (some (Lp.done (Fl.ret x22)))
    else
      ((lsub a1 0 s18).bind fun x25 =>
      (idx a1 s18).bind fun x27 =>
      (idx a1 s18).bind fun x29 =>
      (spec_l2Find x25 x27.Name x29.Version).bind fun x31 =>
      if decide (x31 ≥ 0) then
        (some (Lp.done (Fl.ret 6)))
      else
        (some (Lp.go (w64 (s18 + 1))))))
  else
    (some (Lp.done (Fl.nxt ())))

noncomputable def spec_CatalogFault_l1 (a1 : (List Pack)) : Int → Option (Fl Int Unit) := loop (spec_CatalogFault_l1b a1)

noncomputable def spec_CatalogFault (a1 : (List Pack)) : Option Int :=
  if decide ((a1.length : Int) > 24) then
    (some 2)
  else
    ((spec_CatalogFault_l1 a1 0).bind (Fl.go some fun v34 =>
    some 0))

noncomputable def spec_l7Byte (a1 : Int) : Option Bool :=
  (spec_l1Name a1).bind fun x2 =>
  if x2 then
    (some true)
  else
    (if a1 == 46 then
      (some true)
    else
      (if a1 == 45 then
        (some true)
      else
        (some (a1 == 47))))

noncomputable def spec_PathFault_l1b (a1 : ByteArray) (s11 : Int) : Option (Lp Int (Fl Int Unit)) :=
  if decide (s11 < (a1.size : Int)) then
    ((bidx a1 s11).bind fun x13 =>
    (spec_l7Byte x13).bind fun x15 =>
    if !x15 then
      (some (Lp.done (Fl.ret 5)))
    else
      (some (Lp.go (w64 (s11 + 1)))))
  else
    (some (Lp.done (Fl.nxt ())))

noncomputable def spec_PathFault_l1 (a1 : ByteArray) : Int → Option (Fl Int Unit) := loop (spec_PathFault_l1b a1)

noncomputable def spec_PathFault (a1 : ByteArray) : Option Int :=
  (if decide ((a1.size : Int) < 1) then
      (some true)
    else
      (some (decide ((a1.size : Int) > 40)))).bind fun v3 =>
  if v3 then
    (some 5)
  else
    ((spec_PathFault_l1 a1 0).bind (Fl.go some fun v18 =>
    some 0))

noncomputable def spec_l7Total_l1b (a1 : Disk) (s5 : (Int × Int)) : Option (Lp (Int × Int) Int) :=
  if decide (s5.2 < (a1.Files.length : Int)) then
    ((idx a1.Files s5.2).bind fun x7 =>
    some (Lp.go (w64 (s5.1 + (x7.Data.length : Int)), w64 (s5.2 + 1))))
  else
    (some (Lp.done s5.1))

noncomputable def spec_l7Total_l1 (a1 : Disk) : (Int × Int) → Option Int := loop (spec_l7Total_l1b a1)

noncomputable def spec_l7Total (a1 : Disk) : Option Int :=
  (spec_l7Total_l1 a1 (0, 0)).bind fun v9 =>
  some v9

noncomputable def spec_DiskFault_l1b (a1 : Disk) (s29 : Int) : Option (Lp Int (Fl Int Unit)) :=
  if decide (s29 < (a1.Files.length : Int)) then
    ((idx a1.Files s29).bind fun x31 =>
    (spec_PathFault x31.Path).bind fun x33 =>
    if x33 != 0 then
      (some (Lp.done (Fl.ret x33)))
    else
      ((if decide (s29 > 0) then
          ((idx a1.Files s29).bind fun x37 =>
          (idx a1.Files (w64 (s29 - 1))).bind fun x39 =>
          some (slt x37.Path x39.Path || seq x37.Path x39.Path))
        else
          (some false)).bind fun v41 =>
      if v41 then
        (some (Lp.done (Fl.ret 1)))
      else
        ((idx a1.Files s29).bind fun x43 =>
        if decide ((x43.Data.length : Int) > 4000) then
          (some (Lp.done (Fl.ret 2)))
        else
          (some (Lp.go (w64 (s29 + 1)))))))
  else
    (some (Lp.done (Fl.nxt ())))

noncomputable def spec_DiskFault_l1 (a1 : Disk) : Int → Option (Fl Int Unit) := loop (spec_DiskFault_l1b a1)

noncomputable def spec_DiskFault (a1 : Disk) : Option Int :=
  (spec_l1In a1.Budget 0 20000).bind fun x2 =>
  (if !x2 then
      (some true)
    else
      ((spec_l1In a1.Writes 0 1000000000).bind fun x5 =>
      if !x5 then
        (some true)
      else
        ((spec_l1In a1.Stop (-1) 1000000000).bind fun x8 =>
        some (!x8)))).bind fun v10 =>
  if v10 then
    (some 3)
  else
    (if decide ((a1.Files.length : Int) > 120) then
      (some 2)
    else
      ((spec_DiskFault_l1 a1 0).bind (Fl.go some fun v46 =>
      (spec_l7Total a1).bind fun x47 =>
      if decide (x47 > a1.Budget) then
        (some 8)
      else
        (some 0))))

noncomputable def spec_l8Asked (a1 : (List Pack)) (a2 : Disk) : Option Int :=
  (spec_CatalogFault a1).bind fun x3 =>
  if x3 != 0 then
    (some x3)
  else
    ((spec_DiskFault a2).bind fun x6 =>
    some x6)

noncomputable def spec_l7Find_l1b (a1 : Disk) (a2 : ByteArray) (s7 : Int) : Option (Lp Int (Fl Int Unit)) :=
  if decide (s7 < (a1.Files.length : Int)) then
    ((idx a1.Files s7).bind fun x9 =>
    if seq x9.Path a2 then
      (some (Lp.done (Fl.ret s7)))
    else
      (some (Lp.go (w64 (s7 + 1)))))
  else
    (some (Lp.done (Fl.nxt ())))

noncomputable def spec_l7Find_l1 (a1 : Disk) (a2 : ByteArray) : Int → Option (Fl Int Unit) := loop (spec_l7Find_l1b a1 a2)

noncomputable def spec_l7Find (a1 : Disk) (a2 : ByteArray) : Option Int :=
  (spec_l7Find_l1 a1 a2 0).bind (Fl.go some fun v12 =>
  some (-1))

noncomputable def spec_l1Number_l1b (a1 : ByteArray) (s14 : (Int × Int)) : Option (Lp (Int × Int) (Fl (Int × Bool) Int)) :=
  if decide (s14.2 < (a1.size : Int)) then
    ((bidx a1 s14.2).bind fun x16 =>
    (spec_l1Digit x16).bind fun x18 =>
    if !x18 then
      (some (Lp.done (Fl.ret (0, false))))
    else
      ((bidx a1 s14.2).bind fun x21 =>
      some (Lp.go (w64 ((w64 (s14.1 * 10)) + (w64 (IntKind.u8.wrap (x21 - 48)))), w64 (s14.2 + 1)))))
  else
    (some (Lp.done (Fl.nxt s14.1)))

noncomputable def spec_l1Number_l1 (a1 : ByteArray) : (Int × Int) → Option (Fl (Int × Bool) Int) := loop (spec_l1Number_l1b a1)

noncomputable def spec_l1Number (a1 : ByteArray) (a2 : Int) : Option (Int × Bool) :=
  (if decide ((a1.size : Int) < 1) then
      (some true)
    else
      (some (decide ((a1.size : Int) > a2)))).bind fun v4 =>
  if v4 then
    (some (0, false))
  else
    ((spec_l1Number_l1 a1 (0, 0)).bind (Fl.go some fun v23 =>
    some (v23, true)))

noncomputable def spec_l7Begins (a1 : ByteArray) (a2 : ByteArray) : Option Bool :=
  if decide ((a1.size : Int) ≥ (a2.size : Int)) then
    ((ssub a1 0 (a2.size : Int)).bind fun x4 =>
    some (seq x4 a2))
  else
    (some false)

noncomputable def spec_l7Paths_l1b (a1 : Disk) (a2 : ByteArray) (s14 : ((List ByteArray) × Int)) : Option (Lp ((List ByteArray) × Int) (List ByteArray)) :=
  if decide (s14.2 < (a1.Files.length : Int)) then
    ((idx a1.Files s14.2).bind fun x16 =>
    (spec_l7Begins x16.Path a2).bind fun x18 =>
    (if x18 then
        ((idx a1.Files s14.2).bind fun x21 =>
        (app 16 s14.1 [x21.Path]).bind fun x23 =>
        some x23)
      else
        (some s14.1)).bind fun v25 =>
    some (Lp.go (v25, w64 (s14.2 + 1))))
  else
    (some (Lp.done s14.1))

noncomputable def spec_l7Paths_l1 (a1 : Disk) (a2 : ByteArray) : ((List ByteArray) × Int) → Option (List ByteArray) := loop (spec_l7Paths_l1b a1 a2)

noncomputable def spec_l7Paths (a1 : Disk) (a2 : ByteArray) : Option (List ByteArray) :=
  (spec_l7Paths_l1 a1 a2 (([] : List ByteArray), 0)).bind fun v26 =>
  some v26

noncomputable def spec_l1Decimal_r (g : Int → Option ByteArray) (s : Int) : Option ByteArray :=
  match s with
  | a1 =>
  if decide (a1 < 10) then
    (some (b2s [IntKind.u8.wrap (w64 (48 + a1))]))
  else
    ((g (w64 (a1.tdiv 10))).bind fun x3 =>
    (cat x3 (b2s [IntKind.u8.wrap (w64 (48 + (a1.tmod 10)))])).bind fun x5 =>
    some x5)

noncomputable def spec_l1Decimal (a1 : Int) : Option ByteArray := recF spec_l1Decimal_r 64 a1

noncomputable def spec_GenPath (a1 : Int) : Option ByteArray :=
  (spec_l1In a1 1 999999).bind fun x2 =>
  if !x2 then
    (some (bs []))
  else
    ((spec_l1Decimal (w64 (1000000 + a1))).bind fun x5 =>
    (ssub x5 1 (x5.size : Int)).bind fun x7 =>
    (cat (bs [103, 101, 110, 47]) x7).bind fun x9 =>
    some x9)

noncomputable def spec_l8Gens_l1b (a1 : Disk) (x2 : (List ByteArray)) (s21 : ((List Int) × Int)) : Option (Lp ((List Int) × Int) (List Int)) :=
  if decide (s21.2 < (x2.length : Int)) then
    ((idx x2 s21.2).bind fun x23 =>
    (ssub x23 4 (x23.size : Int)).bind fun x25 =>
    (spec_l1Number x25 6).bind fun x27 =>
    (if x27.2 then
        ((spec_GenPath x27.1).bind fun x30 =>
        (idx x2 s21.2).bind fun x32 =>
        some (seq x30 x32))
      else
        (some false)).bind fun v34 =>
    (if v34 then
        ((app 8 s21.1 [x27.1]).bind fun x36 =>
        some x36)
      else
        (some s21.1)).bind fun v38 =>
    some (Lp.go (v38, w64 (s21.2 + 1))))
  else
    (some (Lp.done s21.1))

noncomputable def spec_l8Gens_l1 (a1 : Disk) (x2 : (List ByteArray)) : ((List Int) × Int) → Option (List Int) := loop (spec_l8Gens_l1b a1 x2)

noncomputable def spec_l8Gens (a1 : Disk) : Option (List Int) :=
  (spec_l7Paths a1 (bs [103, 101, 110, 47])).bind fun x2 =>
  (spec_l8Gens_l1 a1 x2 (([] : List Int), 0)).bind fun v39 =>
  some v39

noncomputable def spec_l1Has_l1b (a1 : (List Int)) (a2 : Int) (s7 : Int) : Option (Lp Int (Fl Bool Unit)) :=
  if decide (s7 < (a1.length : Int)) then
    ((idx a1 s7).bind fun x9 =>
    if x9 == a2 then
      (some (Lp.done (Fl.ret true)))
    else
      (some (Lp.go (w64 (s7 + 1)))))
  else
    (some (Lp.done (Fl.nxt ())))

noncomputable def spec_l1Has_l1 (a1 : (List Int)) (a2 : Int) : Int → Option (Fl Bool Unit) := loop (spec_l1Has_l1b a1 a2)

noncomputable def spec_l1Has (a1 : (List Int)) (a2 : Int) : Option Bool :=
  (spec_l1Has_l1 a1 a2 0).bind (Fl.go some fun v12 =>
  some false)

noncomputable def spec_l8Current (a1 : Disk) : Option Int :=
  (spec_l7Find a1 (bs [99, 117, 114])).bind fun x2 =>
  if decide (x2 < 0) then
    (some 0)
  else
    ((idx a1.Files x2).bind fun x5 =>
    (spec_l1Number (b2s x5.Data) 6).bind fun x7 =>
    (if !x7.2 then
        (some true)
      else
        ((spec_l8Gens a1).bind fun x10 =>
        (spec_l1Has x10 x7.1).bind fun x12 =>
        some (!x12))).bind fun v14 =>
    if v14 then
      (some 0)
    else
      (some x7.1))

noncomputable def spec_l1Parts_l1b (a1 : ByteArray) (a2 : Int) (s14 : ((List ByteArray) × Int × Int)) : Option (Lp ((List ByteArray) × Int × Int) (List ByteArray)) :=
  if decide (s14.2.2 ≤ (a1.size : Int)) then
    ((if s14.2.2 == (a1.size : Int) then
        (some true)
      else
        ((bidx a1 s14.2.2).bind fun x17 =>
        some (x17 == a2))).bind fun v19 =>
    (if v19 then
        ((ssub a1 s14.2.1 s14.2.2).bind fun x21 =>
        (app 16 s14.1 [x21]).bind fun x23 =>
        some (x23, w64 (s14.2.2 + 1)))
      else
        (some (s14.1, s14.2.1))).bind fun v25 =>
    some (Lp.go (v25.1, v25.2, w64 (s14.2.2 + 1))))
  else
    (some (Lp.done s14.1))

noncomputable def spec_l1Parts_l1 (a1 : ByteArray) (a2 : Int) : ((List ByteArray) × Int × Int) → Option (List ByteArray) := loop (spec_l1Parts_l1b a1 a2)

noncomputable def spec_l1Parts (a1 : ByteArray) (a2 : Int) : Option (List ByteArray) :=
  (spec_l1Parts_l1 a1 a2 (([] : List ByteArray), 0, 0)).bind fun v26 =>
  some v26

noncomputable def spec_l2Lines (a1 : ByteArray) : Option (List ByteArray) :=
  (spec_l1Parts a1 10).bind fun x2 =>
  (idx x2 (w64 ((x2.length : Int) - 1))).bind fun x4 =>
  (if seq x4 (bs []) then
      ((lsub x2 0 (w64 ((x2.length : Int) - 1))).bind fun x7 =>
      some x7)
    else
      (some x2)).bind fun v9 =>
  some v9

noncomputable def spec_l2Words_l1b (x2 : (List ByteArray)) (s13 : ((List ByteArray) × Int)) : Option (Lp ((List ByteArray) × Int) (List ByteArray)) :=
  if decide (s13.2 < (x2.length : Int)) then
    ((idx x2 s13.2).bind fun x15 =>
    (if !(seq x15 (bs [])) then
        ((idx x2 s13.2).bind fun x18 =>
        (app 16 s13.1 [x18]).bind fun x20 =>
        some x20)
      else
        (some s13.1)).bind fun v22 =>
    some (Lp.go (v22, w64 (s13.2 + 1))))
  else
    (some (Lp.done s13.1))

noncomputable def spec_l2Words_l1 (x2 : (List ByteArray)) : ((List ByteArray) × Int) → Option (List ByteArray) := loop (spec_l2Words_l1b x2)

noncomputable def spec_l2Words (a1 : ByteArray) : Option (List ByteArray) :=
  (spec_l1Parts a1 32).bind fun x2 =>
  (spec_l2Words_l1 x2 (([] : List ByteArray), 0)).bind fun v23 =>
  some v23

noncomputable def spec_ParseVersion_l1b (x2 : (List ByteArray)) (s13 : ((List Int) × Int)) : Option (Lp ((List Int) × Int) (Fl VersionResult (List Int))) :=
  if decide (s13.2 < (x2.length : Int)) then
    ((idx x2 s13.2).bind fun x15 =>
    (spec_l1Number x15 3).bind fun x17 =>
    if !x17.2 then
      (some (Lp.done (Fl.ret ({ Code := 5, Version := ({ A := 0, B := 0, C := 0 } : Version) } : VersionResult))))
    else
      ((idx s13.1 s13.2).bind fun x20 =>
      some (Lp.go (s13.1.set s13.2.toNat x17.1, w64 (s13.2 + 1)))))
  else
    (some (Lp.done (Fl.nxt s13.1)))

noncomputable def spec_ParseVersion_l1 (x2 : (List ByteArray)) : ((List Int) × Int) → Option (Fl VersionResult (List Int)) := loop (spec_ParseVersion_l1b x2)

noncomputable def spec_ParseVersion (a1 : ByteArray) : Option VersionResult :=
  (spec_l1Parts a1 46).bind fun x2 =>
  if decide ((x2.length : Int) > 3) then
    (some ({ Code := 5, Version := ({ A := 0, B := 0, C := 0 } : Version) } : VersionResult))
  else
    ((spec_ParseVersion_l1 x2 ([0, 0, 0], 0)).bind (Fl.go some fun v22 =>
    (idx v22 0).bind fun x23 =>
    (idx v22 1).bind fun x25 =>
    (idx v22 2).bind fun x27 =>
    some ({ Code := 0, Version := ({ A := x23, B := x25, C := x27 } : Version) } : VersionResult)))

noncomputable def spec_l3Put_l1b (a1 : (List Int)) (a2 : Int) (s16 : ((List Int) × Bool × Int)) : Option (Lp ((List Int) × Bool × Int) ((List Int) × Bool)) :=
  if decide (s16.2.2 < (a1.length : Int)) then
    ((idx a1 s16.2.2).bind fun x18 =>
    (if decide (x18 > a2) then
        (some (!s16.2.1))
      else
        (some false)).bind fun v21 =>
    (if v21 then
        ((app 8 s16.1 [a2]).bind fun x23 =>
        some (x23, true))
      else
        (some (s16.1, s16.2.1))).bind fun v25 =>
    (idx a1 s16.2.2).bind fun x26 =>
    (app 8 v25.1 [x26]).bind fun x28 =>
    some (Lp.go (x28, v25.2, w64 (s16.2.2 + 1))))
  else
    (some (Lp.done (s16.1, s16.2.1)))

noncomputable def spec_l3Put_l1 (a1 : (List Int)) (a2 : Int) : ((List Int) × Bool × Int) → Option ((List Int) × Bool) := loop (spec_l3Put_l1b a1 a2)

noncomputable def spec_l3Put (a1 : (List Int)) (a2 : Int) : Option (List Int) :=
  (spec_l3Put_l1 a1 a2 (([] : List Int), false, 0)).bind fun v30 =>
  (if !v30.2 then
      ((app 8 v30.1 [a2]).bind fun x32 =>
      some x32)
    else
      (some v30.1)).bind fun v34 =>
  some v34

noncomputable def spec_l3Parse_l1b (a1 : (List Pack)) (x4 : (List ByteArray)) (s29 : ((List Int) × Int)) : Option (Lp ((List Int) × Int) (Fl SetResult (List Int))) :=
  if decide (s29.2 < (x4.length : Int)) then
    ((idx x4 s29.2).bind fun x31 =>
    (spec_l2Words x31).bind fun x33 =>
    (if (x33.length : Int) == 2 then
        ((idx x33 1).bind fun x36 =>
        (spec_ParseVersion x36).bind fun x38 =>
        if x38.Code == 0 then
          ((idx x33 0).bind fun x41 =>
          (spec_l2Find a1 x41 x38.Version).bind fun x43 =>
          some x43)
        else
          (some (-1)))
      else
        (some (-1))).bind fun v45 =>
    (if decide (v45 < 0) then
        (some true)
      else
        ((spec_l1Has s29.1 v45).bind fun x47 =>
        some x47)).bind fun v49 =>
    if v49 then
      (some (Lp.done (Fl.ret ({ Code := 5, At := s29.2, Set := ([] : List Int) } : SetResult))))
    else
      ((spec_l3Put s29.1 v45).bind fun x51 =>
      some (Lp.go (x51, w64 (s29.2 + 1)))))
  else
    (some (Lp.done (Fl.nxt s29.1)))

noncomputable def spec_l3Parse_l1 (a1 : (List Pack)) (x4 : (List ByteArray)) : ((List Int) × Int) → Option (Fl SetResult (List Int)) := loop (spec_l3Parse_l1b a1 x4)

noncomputable def spec_l3Parse (a1 : (List Pack)) (a2 : ByteArray) : Option SetResult :=
  if decide ((a2.size : Int) > 4000) then
    (some ({ Code := 2, At := 0, Set := ([] : List Int) } : SetResult))
  else
    ((spec_l2Lines a2).bind fun x4 =>
    (spec_l3Parse_l1 a1 x4 (([] : List Int), 0)).bind (Fl.go some fun v53 =>
    some ({ Code := 0, At := 0, Set := v53 } : SetResult)))

noncomputable def spec_l8Set (a1 : (List Pack)) (a2 : Disk) (a3 : Int) : Option SetResult :=
  (spec_l8Gens a2).bind fun x4 =>
  (spec_l1Has x4 a3).bind fun x6 =>
  if !x6 then
    (some ({ Code := 4, At := 0, Set := ([] : List Int) } : SetResult))
  else
    ((spec_GenPath a3).bind fun x9 =>
    (spec_l7Find a2 x9).bind fun x11 =>
    (idx a2.Files x11).bind fun x13 =>
    (spec_l3Parse a1 (b2s x13.Data)).bind fun x15 =>
    if x15.Code != 0 then
      (some ({ Code := x15.Code, At := 0, Set := ([] : List Int) } : SetResult))
    else
      (some x15))

noncomputable def spec_l8Shown (a1 : (List Pack)) (a2 : Disk) : Option SetResult :=
  (spec_l8Current a2).bind fun x3 =>
  (spec_l8Set a1 a2 x3).bind fun x5 =>
  some x5

noncomputable def spec_l1InTerm (a1 : Term) (a2 : ByteArray) (a3 : Version) : Option Bool :=
  if seq a1.Name a2 then
    ((spec_CompareVersions a3 a1.Low).bind fun x5 =>
    if decide (x5 ≥ 0) then
      ((spec_CompareVersions a3 a1.High).bind fun x8 =>
      some (decide (x8 < 0)))
    else
      (some false))
  else
    (some false)

noncomputable def spec_l2Gives (a1 : Pack) (a2 : Term) : Option Bool :=
  if seq a2.Name a1.Name then
    ((spec_l1InTerm a2 a2.Name a1.Version).bind fun x4 =>
    some x4)
  else
    ((spec_l2Holds a1.Provides a2.Name).bind fun x6 =>
    if x6 then
      ((spec_l1InTerm a2 a2.Name a1.Version).bind fun x9 =>
      some x9)
    else
      (some false))

noncomputable def spec_l3Given_l1b (a1 : (List Pack)) (a2 : (List Int)) (a3 : Term) (a4 : Int) (s17 : Int) : Option (Lp Int (Fl Bool Unit)) :=
  if decide (s17 < (a2.length : Int)) then
    ((idx a2 s17).bind fun x19 =>
    (if x19 != a4 then
        ((idx a2 s17).bind fun x22 =>
        (idx a1 x22).bind fun x24 =>
        (spec_l2Gives x24 a3).bind fun x26 =>
        some x26)
      else
        (some false)).bind fun v28 =>
    if v28 then
      (some (Lp.done (Fl.ret true)))
    else
      (some (Lp.go (w64 (s17 + 1)))))
  else
    (some (Lp.done (Fl.nxt ())))

noncomputable def spec_l3Given_l1 (a1 : (List Pack)) (a2 : (List Int)) (a3 : Term) (a4 : Int) : Int → Option (Fl Bool Unit) := loop (spec_l3Given_l1b a1 a2 a3 a4)

noncomputable def spec_l3Given (a1 : (List Pack)) (a2 : (List Int)) (a3 : Term) (a4 : Int) : Option Bool :=
  (spec_l3Given_l1 a1 a2 a3 a4 0).bind (Fl.go some fun v30 =>
  some false)

noncomputable def spec_l3Met_l1b (a1 : (List Pack)) (a2 : (List Int)) (a3 : (List Term)) (s10 : Int) : Option (Lp Int (Fl Bool Unit)) :=
  if decide (s10 < (a3.length : Int)) then
    ((idx a3 s10).bind fun x12 =>
    (spec_l3Given a1 a2 x12 (-1)).bind fun x14 =>
    if x14 then
      (some (Lp.done (Fl.ret true)))
    else
      (some (Lp.go (w64 (s10 + 1)))))
  else
    (some (Lp.done (Fl.nxt ())))

noncomputable def spec_l3Met_l1 (a1 : (List Pack)) (a2 : (List Int)) (a3 : (List Term)) : Int → Option (Fl Bool Unit) := loop (spec_l3Met_l1b a1 a2 a3)

noncomputable def spec_l3Met (a1 : (List Pack)) (a2 : (List Int)) (a3 : (List Term)) : Option Bool :=
  (spec_l3Met_l1 a1 a2 a3 0).bind (Fl.go some fun v17 =>
  some false)

noncomputable def spec_l3Faults_l3b (a1 : (List Pack)) (a2 : (List Int)) (s82 : ((List Fault) × Int)) (x86 : Pack) (s147 : ((List Fault) × Int)) : Option (Lp ((List Fault) × Int) (List Fault)) :=
  if decide (s147.2 < (x86.Bars.length : Int)) then
    ((idx x86.Bars s147.2).bind fun x149 =>
    (idx a2 s82.2).bind fun x151 =>
    (spec_l3Given a1 a2 x149 x151).bind fun x153 =>
    (if x153 then
        ((idx a2 s82.2).bind fun x156 =>
        (app 24 s147.1 [({ Kind := 3, Pack := x156, At := s147.2 } : Fault)]).bind fun x158 =>
        some x158)
      else
        (some s147.1)).bind fun v160 =>
    some (Lp.go (v160, w64 (s147.2 + 1))))
  else
    (some (Lp.done s147.1))

noncomputable def spec_l3Faults_l3 (a1 : (List Pack)) (a2 : (List Int)) (s82 : ((List Fault) × Int)) (x86 : Pack) : ((List Fault) × Int) → Option (List Fault) := loop (spec_l3Faults_l3b a1 a2 s82 x86)

noncomputable def spec_l3Faults_l2b (a1 : (List Pack)) (a2 : (List Int)) (s82 : ((List Fault) × Int)) (x86 : Pack) (s121 : ((List Fault) × Int)) : Option (Lp ((List Fault) × Int) (List Fault)) :=
  if decide (s121.2 < (x86.Needs.length : Int)) then
    ((idx x86.Needs s121.2).bind fun x123 =>
    (spec_l3Met a1 a2 x123).bind fun x125 =>
    (if !x125 then
        ((idx a2 s82.2).bind fun x128 =>
        (app 24 s121.1 [({ Kind := 2, Pack := x128, At := s121.2 } : Fault)]).bind fun x130 =>
        some x130)
      else
        (some s121.1)).bind fun v132 =>
    some (Lp.go (v132, w64 (s121.2 + 1))))
  else
    (some (Lp.done s121.1))

noncomputable def spec_l3Faults_l2 (a1 : (List Pack)) (a2 : (List Int)) (s82 : ((List Fault) × Int)) (x86 : Pack) : ((List Fault) × Int) → Option (List Fault) := loop (spec_l3Faults_l2b a1 a2 s82 x86)

noncomputable def spec_l3Faults_l1b (a1 : (List Pack)) (a2 : (List Int)) (s82 : ((List Fault) × Int)) (x86 : Pack) (s98 : Int) : Option (Lp Int (List Fault)) :=
  if decide (s98 < s82.2) then
    ((idx a2 s98).bind fun x100 =>
    (idx a1 x100).bind fun x102 =>
    if seq x102.Name x86.Name then
      ((idx a2 s82.2).bind fun x105 =>
      (app 24 s82.1 [({ Kind := 1, Pack := x105, At := 0 } : Fault)]).bind fun x107 =>
      some (Lp.done x107))
    else
      (some (Lp.go (w64 (s98 + 1)))))
  else
    (some (Lp.done s82.1))

noncomputable def spec_l3Faults_l1 (a1 : (List Pack)) (a2 : (List Int)) (s82 : ((List Fault) × Int)) (x86 : Pack) : Int → Option (List Fault) := loop (spec_l3Faults_l1b a1 a2 s82 x86)

noncomputable def spec_l3Faults_l4b (a1 : (List Pack)) (a2 : (List Int)) (s82 : ((List Fault) × Int)) : Option (Lp ((List Fault) × Int) (List Fault)) :=
  if decide (s82.2 < (a2.length : Int)) then
    ((idx a2 s82.2).bind fun x84 =>
    (idx a1 x84).bind fun x86 =>
    (spec_l3Faults_l1 a1 a2 s82 x86 0).bind fun v109 =>
    (spec_l3Faults_l2 a1 a2 s82 x86 (v109, 0)).bind fun v133 =>
    (spec_l3Faults_l3 a1 a2 s82 x86 (v133, 0)).bind fun v161 =>
    some (Lp.go (v161, w64 (s82.2 + 1))))
  else
    (some (Lp.done s82.1))

noncomputable def spec_l3Faults_l4 (a1 : (List Pack)) (a2 : (List Int)) : ((List Fault) × Int) → Option (List Fault) := loop (spec_l3Faults_l4b a1 a2)

noncomputable def spec_l3Faults (a1 : (List Pack)) (a2 : (List Int)) : Option (List Fault) :=
  (spec_l3Faults_l4 a1 a2 (([] : List Fault), 0)).bind fun v162 =>
  some v162

noncomputable def spec_l3Good (a1 : (List Pack)) (a2 : (List Int)) : Option Bool :=
  (spec_l3Faults a1 a2).bind fun x3 =>
  some ((x3.length : Int) == 0)

noncomputable def spec_FormatVersion (a1 : Version) : Option ByteArray :=
  (spec_VersionFault a1).bind fun x2 =>
  if x2 != 0 then
    (some (bs []))
  else
    ((spec_l1Decimal a1.A).bind fun x5 =>
    (cat x5 (bs [46])).bind fun x7 =>
    (spec_l1Decimal a1.B).bind fun x9 =>
    (cat x7 x9).bind fun x11 =>
    (cat x11 (bs [46])).bind fun x13 =>
    (spec_l1Decimal a1.C).bind fun x15 =>
    (cat x13 x15).bind fun x17 =>
    some x17)

noncomputable def spec_l8Path (a1 : Pack) : Option ByteArray :=
  (cat (bs [112, 107, 103, 47]) a1.Name).bind fun x2 =>
  (cat x2 (bs [45])).bind fun x4 =>
  (spec_FormatVersion a1.Version).bind fun x6 =>
  (cat x4 x6).bind fun x8 =>
  some x8

noncomputable def spec_l2Bytes_l2b (a1 : Pack) (s13 : (Int × (List Int) × Int)) : Option (Lp (Int × (List Int) × Int) (List Int)) :=
  if decide (s13.2.2 < a1.Size) then
    ((app 1 s13.2.1 [IntKind.u8.wrap (s13.1.tmod 256)]).bind fun x15 =>
    some (Lp.go (w64 ((w64 (31 * (s13.1.tmod 256))) + 7), x15, w64 (s13.2.2 + 1))))
  else
    (some (Lp.done s13.2.1))

noncomputable def spec_l2Bytes_l2 (a1 : Pack) : (Int × (List Int) × Int) → Option (List Int) := loop (spec_l2Bytes_l2b a1)

noncomputable def spec_l2Bytes_l1b (a1 : Pack) (s5 : (Int × Int)) : Option (Lp (Int × Int) Int) :=
  if decide (s5.2 < (a1.Name.size : Int)) then
    ((bidx a1.Name s5.2).bind fun x7 =>
    some (Lp.go (w64 (s5.1 + (w64 (x7))), w64 (s5.2 + 1))))
  else
    (some (Lp.done s5.1))

noncomputable def spec_l2Bytes_l1 (a1 : Pack) : (Int × Int) → Option Int := loop (spec_l2Bytes_l1b a1)

noncomputable def spec_l2Bytes (a1 : Pack) : Option (List Int) :=
  (spec_l2Bytes_l1 a1 (w64 ((w64 (a1.Version.A + a1.Version.B)) + a1.Version.C), 0)).bind fun v9 =>
  (spec_l2Bytes_l2 a1 (v9, ([] : List Int), 0)).bind fun v17 =>
  some v17

noncomputable def spec_l8Same (a1 : (List Int)) (a2 : (List Int)) : Option Bool :=
  some (seq (b2s a1) (b2s a2))

noncomputable def spec_l8Lacking_l1b (a1 : (List Pack)) (a2 : Disk) (a3 : (List Int)) (s31 : ((List Int) × Int)) : Option (Lp ((List Int) × Int) (List Int)) :=
  if decide (s31.2 < (a3.length : Int)) then
    ((idx a3 s31.2).bind fun x33 =>
    (idx a1 x33).bind fun x35 =>
    (spec_l8Path x35).bind fun x37 =>
    (spec_l7Find a2 x37).bind fun x39 =>
    (if decide (x39 < 0) then
        (some true)
      else
        ((idx a2.Files x39).bind fun x42 =>
        (idx a3 s31.2).bind fun x44 =>
        (idx a1 x44).bind fun x46 =>
        (spec_l2Bytes x46).bind fun x48 =>
        (spec_l8Same x42.Data x48).bind fun x50 =>
        some (!x50))).bind fun v52 =>
    (if v52 then
        ((idx a3 s31.2).bind fun x54 =>
        (app 8 s31.1 [x54]).bind fun x56 =>
        some x56)
      else
        (some s31.1)).bind fun v58 =>
    some (Lp.go (v58, w64 (s31.2 + 1))))
  else
    (some (Lp.done s31.1))

noncomputable def spec_l8Lacking_l1 (a1 : (List Pack)) (a2 : Disk) (a3 : (List Int)) : ((List Int) × Int) → Option (List Int) := loop (spec_l8Lacking_l1b a1 a2 a3)

noncomputable def spec_l8Lacking (a1 : (List Pack)) (a2 : Disk) (a3 : (List Int)) : Option (List Int) :=
  (spec_l8Lacking_l1 a1 a2 a3 (([] : List Int), 0)).bind fun v59 =>
  some v59

noncomputable def spec_AnyTerm (a1 : ByteArray) : Option Term :=
  (spec_l1Top).bind fun x2 =>
  some ({ Name := a1, Low := ({ A := 0, B := 0, C := 0 } : Version), High := x2 } : Term)

noncomputable def spec_ParseTerm_l2b (x20 : Term) (x25 : ByteArray) (s32 : Int) : Option (Lp Int Int) :=
  (if decide (s32 < (x25.size : Int)) then
      ((bidx x25 s32).bind fun x34 =>
      some (x34 != 60))
    else
      (some false)).bind fun v36 =>
  if v36 then
    (some (Lp.go (w64 (s32 + 1))))
  else
    (some (Lp.done s32))

noncomputable def spec_ParseTerm_l2 (x20 : Term) (x25 : ByteArray) : Int → Option Int := loop (spec_ParseTerm_l2b x20 x25)

noncomputable def spec_ParseTerm_l1b (a1 : ByteArray) (s9 : Int) : Option (Lp Int Int) :=
  (if decide (s9 < (a1.size : Int)) then
      ((bidx a1 s9).bind fun x11 =>
      (spec_l1Name x11).bind fun x13 =>
      some x13)
    else
      (some false)).bind fun v15 =>
  if v15 then
    (some (Lp.go (w64 (s9 + 1))))
  else
    (some (Lp.done s9))

noncomputable def spec_ParseTerm_l1 (a1 : ByteArray) : Int → Option Int := loop (spec_ParseTerm_l1b a1)

noncomputable def spec_ParseTerm (a1 : ByteArray) : Option TermResult :=
  (spec_ParseTerm_l1 a1 0).bind fun v17 =>
  (ssub a1 0 v17).bind fun x18 =>
  (spec_AnyTerm x18).bind fun x20 =>
  (spec_NameFault x20.Name).bind fun x22 =>
  if x22 != 0 then
    (some ({ Code := 5, Term := ({ Name := ByteArray.empty, Low := ({ A := 0, B := 0, C := 0 } : Version), High := ({ A := 0, B := 0, C := 0 } : Version) } : Term) } : TermResult))
  else
    ((ssub a1 v17 (a1.size : Int)).bind fun x25 =>
    (spec_ParseTerm_l2 x20 x25 0).bind fun v38 =>
    (if decide (v38 < (x25.size : Int)) then
        ((ssub x25 (w64 (v38 + 1)) (x25.size : Int)).bind fun x40 =>
        (spec_ParseVersion x40).bind fun x42 =>
        if x42.Code != 0 then
          (some (Fl.ret ({ Code := 5, Term := ({ Name := ByteArray.empty, Low := ({ A := 0, B := 0, C := 0 } : Version), High := ({ A := 0, B := 0, C := 0 } : Version) } : Term) } : TermResult)))
        else
          (some (Fl.nxt (x42.Version.A, x42.Version.B, x42.Version.C))))
      else
        (some (Fl.nxt (x20.High.A, x20.High.B, x20.High.C)))).bind (Fl.go some fun v45 =>
    (ssub x25 0 v38).bind fun x46 =>
    (if !(seq x46 (bs [])) then
        ((if decide ((x46.size : Int) < 2) then
            (some true)
          else
            ((ssub x46 0 2).bind fun x50 =>
            some (!(seq x50 (bs [62, 61]))))).bind fun v52 =>
        if v52 then
          (some (Fl.ret ({ Code := 5, Term := ({ Name := ByteArray.empty, Low := ({ A := 0, B := 0, C := 0 } : Version), High := ({ A := 0, B := 0, C := 0 } : Version) } : Term) } : TermResult)))
        else
          ((ssub x46 2 (x46.size : Int)).bind fun x54 =>
          (spec_ParseVersion x54).bind fun x56 =>
          if x56.Code != 0 then
            (some (Fl.ret ({ Code := 5, Term := ({ Name := ByteArray.empty, Low := ({ A := 0, B := 0, C := 0 } : Version), High := ({ A := 0, B := 0, C := 0 } : Version) } : Term) } : TermResult)))
          else
            (some (Fl.nxt (x56.Version.A, x56.Version.B, x56.Version.C)))))
      else
        (some (Fl.nxt (x20.Low.A, x20.Low.B, x20.Low.C)))).bind (Fl.go some fun v59 =>
    (spec_TermFault ({ Name := x20.Name, Low := ({ A := v59.1, B := v59.2.1, C := v59.2.2 } : Version), High := ({ A := v45.1, B := v45.2.1, C := v45.2.2 } : Version) } : Term)).bind fun x60 =>
    if x60 != 0 then
      (some ({ Code := x60, Term := ({ Name := ByteArray.empty, Low := ({ A := 0, B := 0, C := 0 } : Version), High := ({ A := 0, B := 0, C := 0 } : Version) } : Term) } : TermResult))
    else
      (some ({ Code := 0, Term := ({ Name := x20.Name, Low := ({ A := v59.1, B := v59.2.1, C := v59.2.2 } : Version), High := ({ A := v45.1, B := v45.2.1, C := v45.2.2 } : Version) } : Term) } : TermResult)))))

noncomputable def spec_FormatTerm (a1 : Term) : Option ByteArray :=
  (spec_TermFault a1).bind fun x2 =>
  if x2 != 0 then
    (some (bs []))
  else
    ((spec_CompareVersions a1.Low ({ A := 0, B := 0, C := 0 } : Version)).bind fun x5 =>
    (if x5 != 0 then
        ((cat a1.Name (bs [62, 61])).bind fun x8 =>
        (spec_FormatVersion a1.Low).bind fun x10 =>
        (cat x8 x10).bind fun x12 =>
        some x12)
      else
        (some a1.Name)).bind fun v14 =>
    (spec_l1Top).bind fun x15 =>
    (if !(a1.High.A == x15.A && (a1.High.B == x15.B && (a1.High.C == x15.C && true))) then
        ((cat v14 (bs [60])).bind fun x18 =>
        (spec_FormatVersion a1.High).bind fun x20 =>
        (cat x18 x20).bind fun x22 =>
        some x22)
      else
        (some v14)).bind fun v24 =>
    some v24)

noncomputable def spec_l8Text_l1b (a1 : (List Term)) (s11 : (ByteArray × Int)) : Option (Lp (ByteArray × Int) ByteArray) :=
  if decide (s11.2 < (a1.length : Int)) then
    ((idx a1 s11.2).bind fun x13 =>
    (spec_FormatTerm x13).bind fun x15 =>
    (cat s11.1 x15).bind fun x17 =>
    (cat x17 (bs [10])).bind fun x19 =>
    some (Lp.go (x19, w64 (s11.2 + 1))))
  else
    (some (Lp.done s11.1))

noncomputable def spec_l8Text_l1 (a1 : (List Term)) : (ByteArray × Int) → Option ByteArray := loop (spec_l8Text_l1b a1)

noncomputable def spec_l8Text (a1 : (List Term)) : Option ByteArray :=
  (spec_l8Text_l1 a1 (bs [], 0)).bind fun v21 =>
  some v21

noncomputable def spec_l8Roots_l1b (a1 : ByteArray) (x2 : (List ByteArray)) (s22 : ((List Term) × Int)) (x26 : TermResult) (s33 : Int) : Option (Lp Int (Fl ((List Term) × Bool) Unit)) :=
  if decide (s33 < (s22.1.length : Int)) then
    ((idx s22.1 s33).bind fun x35 =>
    if seq x35.Name x26.Term.Name then
      (some (Lp.done (Fl.ret (s22.1, false))))
    else
      (some (Lp.go (w64 (s33 + 1)))))
  else
    (some (Lp.done (Fl.nxt ())))

noncomputable def spec_l8Roots_l1 (a1 : ByteArray) (x2 : (List ByteArray)) (s22 : ((List Term) × Int)) (x26 : TermResult) : Int → Option (Fl ((List Term) × Bool) Unit) := loop (spec_l8Roots_l1b a1 x2 s22 x26)

noncomputable def spec_l8Roots_l2b (a1 : ByteArray) (x2 : (List ByteArray)) (s22 : ((List Term) × Int)) : Option (Lp ((List Term) × Int) (Fl ((List Term) × Bool) (List Term))) :=
  if decide (s22.2 < (x2.length : Int)) then
    ((idx x2 s22.2).bind fun x24 =>
    (spec_ParseTerm x24).bind fun x26 =>
    if x26.Code != 0 then
      (some (Lp.done (Fl.ret (s22.1, false))))
    else
      ((spec_l8Roots_l1 a1 x2 s22 x26 0).bind (Fl.go (fun r => some (Lp.done (Fl.ret r))) fun v38 =>
      (app 64 s22.1 [x26.Term]).bind fun x39 =>
      some (Lp.go (x39, w64 (s22.2 + 1))))))
  else
    (some (Lp.done (Fl.nxt s22.1)))

noncomputable def spec_l8Roots_l2 (a1 : ByteArray) (x2 : (List ByteArray)) : ((List Term) × Int) → Option (Fl ((List Term) × Bool) (List Term)) := loop (spec_l8Roots_l2b a1 x2)

noncomputable def spec_l8Roots (a1 : ByteArray) : Option ((List Term) × Bool) :=
  (spec_l2Lines a1).bind fun x2 =>
  (spec_l8Roots_l2 a1 x2 (([] : List Term), 0)).bind (Fl.go some fun v41 =>
  if decide ((v41.length : Int) ≤ 8) then
    ((spec_l8Text v41).bind fun x43 =>
    some (v41, seq x43 a1))
  else
    (some (v41, false)))

noncomputable def spec_l8Asks (a1 : Disk) : Option ((List Term) × Bool) :=
  (spec_l7Find a1 (bs [114, 111, 111, 116, 115])).bind fun x2 =>
  if decide (x2 < 0) then
    (some (([] : List Term), true))
  else
    ((idx a1.Files x2).bind fun x5 =>
    (spec_l8Roots (b2s x5.Data)).bind fun x7 =>
    some (x7.1, x7.2))

noncomputable def spec_SystemFault (a1 : System) : Option Int :=
  (spec_l8Asked a1.Catalog a1.Disk).bind fun x2 =>
  if x2 != 0 then
    (some x2)
  else
    ((spec_l8Shown a1.Catalog a1.Disk).bind fun x5 =>
    if x5.Code != 0 then
      (some x5.Code)
    else
      ((spec_l3Good a1.Catalog x5.Set).bind fun x8 =>
      (if !x8 then
          (some true)
        else
          ((spec_l8Lacking a1.Catalog a1.Disk x5.Set).bind fun x11 =>
          some (decide ((x11.length : Int) > 0)))).bind fun v13 =>
      if v13 then
        (some 1)
      else
        ((spec_l8Asks a1.Disk).bind fun x15 =>
        if !x15.2 then
          (some 5)
        else
          (some 0))))

noncomputable def impl_isNameByte (a1 : Int) : Option Bool :=
  if decide (a1 ≥ 97) then
    (if decide (a1 ≤ 122) then
      (some true)
    else
      (if decide (a1 ≥ 48) then
        (if decide (a1 ≤ 57) then
          (some true)
        else
          (some (a1 == 95)))
      else
        (some (a1 == 95))))
  else
    (if decide (a1 ≥ 48) then
      (if decide (a1 ≤ 57) then
        (some true)
      else
        (some (a1 == 95)))
    else
      (some (a1 == 95)))

noncomputable def impl_NameFault_l1b (a1 : ByteArray) (s17 : Int) : Option (Lp Int (Fl Int Unit)) :=
  if decide (s17 < (a1.size : Int)) then
    ((bidx a1 s17).bind fun x19 =>
    (impl_isNameByte x19).bind fun x21 =>
    if !x21 then
      (some (Lp.done (Fl.ret 5)))
    else
      (some (Lp.go (w64 (s17 + 1)))))
  else
    (some (Lp.done (Fl.nxt ())))

noncomputable def impl_NameFault_l1 (a1 : ByteArray) : Int → Option (Fl Int Unit) := loop (impl_NameFault_l1b a1)

noncomputable def impl_NameFault (a1 : ByteArray) : Option Int :=
  (if decide ((a1.size : Int) < 1) then
      (some true)
    else
      (if decide ((a1.size : Int) > 12) then
        (some true)
      else
        ((bidx a1 0).bind fun x4 =>
        if decide (x4 < 97) then
          (some true)
        else
          ((bidx a1 0).bind fun x7 =>
          some (decide (x7 > 122)))))).bind fun v9 =>
  if v9 then
    (some 5)
  else
    ((impl_NameFault_l1 a1 0).bind (Fl.go some fun v24 =>
    some 0))

noncomputable def impl_within (a1 : Int) (a2 : Int) (a3 : Int) : Option Bool :=
  if decide (a2 ≤ a1) then
    (some (decide (a1 ≤ a3)))
  else
    (some false)

noncomputable def impl_VersionFault (a1 : Version) : Option Int :=
  (impl_within a1.A 0 999).bind fun x2 =>
  (if !x2 then
      (some true)
    else
      ((impl_within a1.B 0 999).bind fun x5 =>
      if !x5 then
        (some true)
      else
        ((impl_within a1.C 0 999).bind fun x8 =>
        some (!x8)))).bind fun v10 =>
  if v10 then
    (some 3)
  else
    (some 0)

noncomputable def impl_firstCode_l1b (a1 : (List Int)) (s6 : Int) : Option (Lp Int (Fl Int Unit)) :=
  if decide (s6 < (a1.length : Int)) then
    ((idx a1 s6).bind fun x8 =>
    if x8 != 0 then
      (some (Lp.done (Fl.ret x8)))
    else
      (some (Lp.go (w64 (s6 + 1)))))
  else
    (some (Lp.done (Fl.nxt ())))

noncomputable def impl_firstCode_l1 (a1 : (List Int)) : Int → Option (Fl Int Unit) := loop (impl_firstCode_l1b a1)

noncomputable def impl_firstCode (a1 : (List Int)) : Option Int :=
  (impl_firstCode_l1 a1 0).bind (Fl.go some fun v11 =>
  some 0)

noncomputable def impl_PackFault_1 (a1 : (List Term)) : Option Bool :=
  some (decide ((a1.length : Int) > 4))

noncomputable def slices_IndexFunc_LLimplTerm_impl_PackFault_1_l1b (a1 : (List (List Term))) (s8 : Int) : Option (Lp Int (Fl Int Unit)) :=
  if decide (s8 < (a1.length : Int)) then
    ((idx a1 s8).bind fun x10 =>
    (impl_PackFault_1 x10).bind fun x12 =>
    if x12 then
      (some (Lp.done (Fl.ret s8)))
    else
      (some (Lp.go (w64 (s8 + 1)))))
  else
    (some (Lp.done (Fl.nxt ())))

noncomputable def slices_IndexFunc_LLimplTerm_impl_PackFault_1_l1 (a1 : (List (List Term))) : Int → Option (Fl Int Unit) := loop (slices_IndexFunc_LLimplTerm_impl_PackFault_1_l1b a1)

noncomputable def slices_IndexFunc_LLimplTerm_impl_PackFault_1 (a1 : (List (List Term))) : Option Int :=
  (slices_IndexFunc_LLimplTerm_impl_PackFault_1_l1 a1 0).bind (Fl.go some fun v15 =>
  some (-1))

noncomputable def slices_ContainsFunc_LLimplTerm_impl_PackFault_1 (a1 : (List (List Term))) : Option Bool :=
  (slices_IndexFunc_LLimplTerm_impl_PackFault_1 a1).bind fun x2 =>
  some (decide (x2 ≥ 0))

noncomputable def slices_Index_Lstring_l1b (a1 : (List ByteArray)) (a2 : ByteArray) (s7 : Int) : Option (Lp Int (Fl Int Unit)) :=
  if decide (s7 < (a1.length : Int)) then
    ((idx a1 s7).bind fun x9 =>
    if seq a2 x9 then
      (some (Lp.done (Fl.ret s7)))
    else
      (some (Lp.go (w64 (s7 + 1)))))
  else
    (some (Lp.done (Fl.nxt ())))

noncomputable def slices_Index_Lstring_l1 (a1 : (List ByteArray)) (a2 : ByteArray) : Int → Option (Fl Int Unit) := loop (slices_Index_Lstring_l1b a1 a2)

noncomputable def slices_Index_Lstring (a1 : (List ByteArray)) (a2 : ByteArray) : Option Int :=
  (slices_Index_Lstring_l1 a1 a2 0).bind (Fl.go some fun v12 =>
  some (-1))

noncomputable def slices_Contains_Lstring (a1 : (List ByteArray)) (a2 : ByteArray) : Option Bool :=
  (slices_Index_Lstring a1 a2).bind fun x3 =>
  some (decide (x3 ≥ 0))

noncomputable def impl_top  : Option Version :=
  some ({ A := 1000, B := 0, C := 0 } : Version)

noncomputable def cmp_isNaN_int64 (a1 : Int) : Option Bool :=
  some (a1 != a1)

noncomputable def cmp_Compare_int64 (a1 : Int) (a2 : Int) : Option Int :=
  (cmp_isNaN_int64 a1).bind fun x3 =>
  (cmp_isNaN_int64 a2).bind fun x5 =>
  if x3 then
    (if x5 then
      (some 0)
    else
      (some (-1)))
  else
    (if x5 then
      (some 1)
    else
      (if decide (a1 < a2) then
        (some (-1))
      else
        (if decide (a1 > a2) then
          (some 1)
        else
          (some 0))))

noncomputable def cmp_Or_int_l1b (a1 : (List Int)) (s6 : Int) : Option (Lp Int (Fl Int Unit)) :=
  if decide (s6 < (a1.length : Int)) then
    ((idx a1 s6).bind fun x8 =>
    if x8 != 0 then
      (some (Lp.done (Fl.ret x8)))
    else
      (some (Lp.go (w64 (s6 + 1)))))
  else
    (some (Lp.done (Fl.nxt ())))

noncomputable def cmp_Or_int_l1 (a1 : (List Int)) : Int → Option (Fl Int Unit) := loop (cmp_Or_int_l1b a1)

noncomputable def cmp_Or_int (a1 : (List Int)) : Option Int :=
  (cmp_Or_int_l1 a1 0).bind (Fl.go some fun v11 =>
  some 0)

noncomputable def impl_compare (a1 : Version) (a2 : Version) : Option Int :=
  (cmp_Compare_int64 a1.A a2.A).bind fun x3 =>
  (cmp_Compare_int64 a1.B a2.B).bind fun x5 =>
  (cmp_Compare_int64 a1.C a2.C).bind fun x7 =>
  (cmp_Or_int [x3, x5, x7]).bind fun x9 =>
  some x9

noncomputable def impl_TermFault (a1 : Term) : Option Int :=
  (impl_NameFault a1.Name).bind fun x2 =>
  if x2 != 0 then
    (some x2)
  else
    ((impl_VersionFault a1.Low).bind fun x5 =>
    if x5 != 0 then
      (some x5)
    else
      ((impl_top).bind fun x8 =>
      (if !(a1.High.A == x8.A && (a1.High.B == x8.B && (a1.High.C == x8.C && true))) then
          ((impl_VersionFault a1.High).bind fun x11 =>
          some (x11 != 0))
        else
          (some false)).bind fun v13 =>
      if v13 then
        (some 3)
      else
        ((impl_compare a1.Low a1.High).bind fun x15 =>
        if decide (x15 ≥ 0) then
          (some 1)
        else
          (some 0))))

noncomputable def impl_termsFault_l1b (a1 : (List Term)) (s8 : Int) : Option (Lp Int (Fl Int Unit)) :=
  if decide (s8 < (a1.length : Int)) then
    ((idx a1 s8).bind fun x10 =>
    (impl_TermFault x10).bind fun x12 =>
    if x12 != 0 then
      (some (Lp.done (Fl.ret x12)))
    else
      (some (Lp.go (w64 (s8 + 1)))))
  else
    (some (Lp.done (Fl.nxt ())))

noncomputable def impl_termsFault_l1 (a1 : (List Term)) : Int → Option (Fl Int Unit) := loop (impl_termsFault_l1b a1)

noncomputable def impl_termsFault (a1 : (List Term)) : Option Int :=
  (impl_termsFault_l1 a1 0).bind (Fl.go some fun v15 =>
  some 0)

noncomputable def impl_PackFault_l2b (a1 : Pack) (s54 : Int) : Option (Lp Int (Fl Int Unit)) :=
  if decide (s54 < (a1.Needs.length : Int)) then
    ((idx a1.Needs s54).bind fun x56 =>
    if (x56.length : Int) == 0 then
      (some (Lp.done (Fl.ret 1)))
    else
      ((impl_termsFault x56).bind fun x59 =>
      if x59 != 0 then
        (some (Lp.done (Fl.ret x59)))
      else
        (some (Lp.go (w64 (s54 + 1))))))
  else
    (some (Lp.done (Fl.nxt ())))

noncomputable def impl_PackFault_l2 (a1 : Pack) : Int → Option (Fl Int Unit) := loop (impl_PackFault_l2b a1)

noncomputable def impl_PackFault_l1b (a1 : Pack) (s32 : Int) : Option (Lp Int (Fl Int Unit)) :=
  if decide (s32 < (a1.Provides.length : Int)) then
    ((idx a1.Provides s32).bind fun x34 =>
    (impl_NameFault x34).bind fun x36 =>
    if x36 != 0 then
      (some (Lp.done (Fl.ret x36)))
    else
      ((if seq x34 a1.Name then
          (some true)
        else
          ((lsub a1.Provides 0 s32).bind fun x40 =>
          (slices_Contains_Lstring x40 x34).bind fun x42 =>
          some x42)).bind fun v44 =>
      if v44 then
        (some (Lp.done (Fl.ret 6)))
      else
        (some (Lp.go (w64 (s32 + 1))))))
  else
    (some (Lp.done (Fl.nxt ())))

noncomputable def impl_PackFault_l1 (a1 : Pack) : Int → Option (Fl Int Unit) := loop (impl_PackFault_l1b a1)

noncomputable def impl_PackFault (a1 : Pack) : Option Int :=
  (impl_NameFault a1.Name).bind fun x2 =>
  (impl_VersionFault a1.Version).bind fun x4 =>
  (impl_firstCode [x2, x4]).bind fun x6 =>
  if x6 != 0 then
    (some x6)
  else
    ((impl_within a1.Size 1 200).bind fun x9 =>
    if !x9 then
      (some 3)
    else
      ((if decide ((a1.Provides.length : Int) > 4) then
          (some true)
        else
          (if decide ((a1.Needs.length : Int) > 4) then
            (some true)
          else
            (if decide ((a1.Bars.length : Int) > 4) then
              (some true)
            else
              ((slices_ContainsFunc_LLimplTerm_impl_PackFault_1 a1.Needs).bind fun x15 =>
              some x15)))).bind fun v17 =>
      if v17 then
        (some 2)
      else
        ((impl_PackFault_l1 a1 0).bind (Fl.go some fun v46 =>
        (impl_PackFault_l2 a1 0).bind (Fl.go some fun v62 =>
        (impl_termsFault a1.Bars).bind fun x63 =>
        some x63)))))

noncomputable def impl_find_1 (a1 : Pack) (a2 : ByteArray) (a3 : Version) : Option Bool :=
  if seq a1.Name a2 then
    (some (a1.Version.A == a3.A && (a1.Version.B == a3.B && (a1.Version.C == a3.C && true))))
  else
    (some false)

noncomputable def slices_IndexFunc_LimplPack_impl_find_1_l1b (a1 : (List Pack)) (a2 : ByteArray) (a3 : Version) (s10 : Int) : Option (Lp Int (Fl Int Unit)) :=
  if decide (s10 < (a1.length : Int)) then
    ((idx a1 s10).bind fun x12 =>
    (impl_find_1 x12 a2 a3).bind fun x14 =>
    if x14 then
      (some (Lp.done (Fl.ret s10)))
    else
      (some (Lp.go (w64 (s10 + 1)))))
  else
    (some (Lp.done (Fl.nxt ())))

noncomputable def slices_IndexFunc_LimplPack_impl_find_1_l1 (a1 : (List Pack)) (a2 : ByteArray) (a3 : Version) : Int → Option (Fl Int Unit) := loop (slices_IndexFunc_LimplPack_impl_find_1_l1b a1 a2 a3)

noncomputable def slices_IndexFunc_LimplPack_impl_find_1 (a1 : (List Pack)) (a2 : ByteArray) (a3 : Version) : Option Int :=
  (slices_IndexFunc_LimplPack_impl_find_1_l1 a1 a2 a3 0).bind (Fl.go some fun v17 =>
  some (-1))

noncomputable def impl_find (a1 : (List Pack)) (a2 : ByteArray) (a3 : Version) : Option Int :=
  (slices_IndexFunc_LimplPack_impl_find_1 a1 a2 a3).bind fun x4 =>
  some x4

noncomputable def impl_CatalogFault_l1b (a1 : (List Pack)) (s14 : Int) : Option (Lp Int (Fl Int Unit)) :=
  if decide (s14 < (a1.length : Int)) then
    ((idx a1 s14).bind fun x16 =>
    (impl_PackFault x16).bind fun x18 =>
    if x18 != 0 then
      (some (Lp.done (Fl.ret x18)))
    else
      ((lsub a1 0 s14).bind fun x21 =>
      (impl_find x21 x16.Name x16.Version).bind fun x23 =>
      if decide (x23 ≥ 0) then
        (some (Lp.done (Fl.ret 6)))
      else
        (some (Lp.go (w64 (s14 + 1))))))
  else
    (some (Lp.done (Fl.nxt ())))

noncomputable def impl_CatalogFault_l1 (a1 : (List Pack)) : Int → Option (Fl Int Unit) := loop (impl_CatalogFault_l1b a1)

noncomputable def impl_CatalogFault (a1 : (List Pack)) : Option Int :=
  if decide ((a1.length : Int) > 24) then
    (some 2)
  else
    ((impl_CatalogFault_l1 a1 0).bind (Fl.go some fun v26 =>
    some 0))

noncomputable def impl_PathFault_l1b (a1 : ByteArray) (s15 : Int) : Option (Lp Int (Fl Int Unit)) :=
  if decide (s15 < (a1.size : Int)) then
    ((bidx a1 s15).bind fun x17 =>
    (impl_isNameByte x17).bind fun x19 =>
    (if !x19 then
        (if x17 != 46 then
          (if x17 != 45 then
            (some (x17 != 47))
          else
            (some false))
        else
          (some false))
      else
        (some false)).bind fun v24 =>
    if v24 then
      (some (Lp.done (Fl.ret 5)))
    else
      (some (Lp.go (w64 (s15 + 1)))))
  else
    (some (Lp.done (Fl.nxt ())))

noncomputable def impl_PathFault_l1 (a1 : ByteArray) : Int → Option (Fl Int Unit) := loop (impl_PathFault_l1b a1)

noncomputable def impl_PathFault (a1 : ByteArray) : Option Int :=
  (if decide ((a1.size : Int) < 1) then
      (some true)
    else
      (some (decide ((a1.size : Int) > 40)))).bind fun v3 =>
  if v3 then
    (some 5)
  else
    ((impl_PathFault_l1 a1 0).bind (Fl.go some fun v26 =>
    some 0))

noncomputable def impl_Disk_total_l1b (a1 : Disk) (s5 : (Int × Int)) : Option (Lp (Int × Int) Int) :=
  if decide (s5.2 < (a1.Files.length : Int)) then
    ((idx a1.Files s5.2).bind fun x7 =>
    some (Lp.go (w64 (s5.1 + (x7.Data.length : Int)), w64 (s5.2 + 1))))
  else
    (some (Lp.done s5.1))

noncomputable def impl_Disk_total_l1 (a1 : Disk) : (Int × Int) → Option Int := loop (impl_Disk_total_l1b a1)

noncomputable def impl_Disk_total (a1 : Disk) : Option Int :=
  (impl_Disk_total_l1 a1 (0, 0)).bind fun v9 =>
  some v9

noncomputable def impl_DiskFault_l1b (a1 : Disk) (s25 : Int) : Option (Lp Int (Fl Int Unit)) :=
  if decide (s25 < (a1.Files.length : Int)) then
    ((idx a1.Files s25).bind fun x27 =>
    (impl_PathFault x27.Path).bind fun x29 =>
    if x29 != 0 then
      (some (Lp.done (Fl.ret x29)))
    else
      ((if decide (s25 > 0) then
          ((idx a1.Files (w64 (s25 - 1))).bind fun x33 =>
          some (slt x27.Path x33.Path || seq x27.Path x33.Path))
        else
          (some false)).bind fun v35 =>
      if v35 then
        (some (Lp.done (Fl.ret 1)))
      else
        (if decide ((x27.Data.length : Int) > 4000) then
          (some (Lp.done (Fl.ret 2)))
        else
          (some (Lp.go (w64 (s25 + 1)))))))
  else
    (some (Lp.done (Fl.nxt ())))

noncomputable def impl_DiskFault_l1 (a1 : Disk) : Int → Option (Fl Int Unit) := loop (impl_DiskFault_l1b a1)

noncomputable def impl_DiskFault (a1 : Disk) : Option Int :=
  (impl_within a1.Budget 0 20000).bind fun x2 =>
  (if !x2 then
      (some true)
    else
      ((impl_within a1.Writes 0 1000000000).bind fun x5 =>
      if !x5 then
        (some true)
      else
        ((impl_within a1.Stop (-1) 1000000000).bind fun x8 =>
        some (!x8)))).bind fun v10 =>
  if v10 then
    (some 3)
  else
    (if decide ((a1.Files.length : Int) > 120) then
      (some 2)
    else
      ((impl_DiskFault_l1 a1 0).bind (Fl.go some fun v38 =>
      (impl_Disk_total a1).bind fun x39 =>
      if decide (x39 > a1.Budget) then
        (some 8)
      else
        (some 0))))

noncomputable def impl_bothCode (a1 : (List Pack)) (a2 : Disk) : Option Int :=
  (impl_CatalogFault a1).bind fun x3 =>
  (impl_DiskFault a2).bind fun x5 =>
  (impl_firstCode [x3, x5]).bind fun x7 =>
  some x7

noncomputable def bytealg_CompareString (a1 a2 : ByteArray) : Option Int := some (cmpB a1 a2)

noncomputable def strings_Compare (a1 : ByteArray) (a2 : ByteArray) : Option Int :=
  (bytealg_CompareString a1 a2).bind fun x3 =>
  some x3

noncomputable def impl_Disk_place_1 (a1 : File) (a2 : ByteArray) : Option Int :=
  (strings_Compare a1.Path a2).bind fun x3 =>
  some x3

noncomputable def slices_BinarySearchFunc_LimplFile_impl_Disk_place_1_l1b (a1 : (List File)) (a2 : ByteArray) (s9 : (Int × Int)) : Option (Lp (Int × Int) Int) :=
  if decide (s9.1 < s9.2) then
    ((idx a1 (w64 ((IntKind.u64.wrap (w64 (s9.1 + s9.2))).fdiv (2 ^ (min (1 : Int).toNat 64))))).bind fun x11 =>
    (impl_Disk_place_1 x11 a2).bind fun x13 =>
    if decide (x13 < 0) then
      (some (Lp.go (w64 ((w64 ((IntKind.u64.wrap (w64 (s9.1 + s9.2))).fdiv (2 ^ (min (1 : Int).toNat 64)))) + 1), s9.2)))
    else
      (some (Lp.go (s9.1, w64 ((IntKind.u64.wrap (w64 (s9.1 + s9.2))).fdiv (2 ^ (min (1 : Int).toNat 64)))))))
  else
    (some (Lp.done s9.1))

noncomputable def slices_BinarySearchFunc_LimplFile_impl_Disk_place_1_l1 (a1 : (List File)) (a2 : ByteArray) : (Int × Int) → Option Int := loop (slices_BinarySearchFunc_LimplFile_impl_Disk_place_1_l1b a1 a2)

noncomputable def slices_BinarySearchFunc_LimplFile_impl_Disk_place_1 (a1 : (List File)) (a2 : ByteArray) : Option (Int × Bool) :=
  (slices_BinarySearchFunc_LimplFile_impl_Disk_place_1_l1 a1 a2 (0, (a1.length : Int))).bind fun v16 =>
  if decide (v16 < (a1.length : Int)) then
    ((idx a1 v16).bind fun x18 =>
    (impl_Disk_place_1 x18 a2).bind fun x20 =>
    some (v16, x20 == 0))
  else
    (some (v16, false))

noncomputable def impl_Disk_place (a1 : Disk) (a2 : ByteArray) : Option (Int × Bool) :=
  (slices_BinarySearchFunc_LimplFile_impl_Disk_place_1 a1.Files a2).bind fun x3 =>
  some (x3.1, x3.2)

noncomputable def impl_Disk_data (a1 : Disk) (a2 : ByteArray) : Option ((List Int) × Bool) :=
  (impl_Disk_place a1 a2).bind fun x3 =>
  if !x3.2 then
    (some (([] : List Int), false))
  else
    ((idx a1.Files x3.1).bind fun x6 =>
    some (x6.Data, true))

noncomputable def impl_number_l1b (a1 : ByteArray) (s16 : (Int × Int)) : Option (Lp (Int × Int) (Fl Int Int)) :=
  if decide (s16.2 < (a1.size : Int)) then
    ((bidx a1 s16.2).bind fun x18 =>
    (if decide (x18 < 48) then
        (some true)
      else
        ((bidx a1 s16.2).bind fun x21 =>
        some (decide (x21 > 57)))).bind fun v23 =>
    if v23 then
      (some (Lp.done (Fl.ret (-1))))
    else
      ((bidx a1 s16.2).bind fun x25 =>
      some (Lp.go (w64 ((w64 (10 * s16.1)) + (w64 (IntKind.u8.wrap (x25 - 48)))), w64 (s16.2 + 1)))))
  else
    (some (Lp.done (Fl.nxt s16.1)))

noncomputable def impl_number_l1 (a1 : ByteArray) : (Int × Int) → Option (Fl Int Int) := loop (impl_number_l1b a1)

noncomputable def impl_number (a1 : ByteArray) (a2 : Int) : Option Int :=
  (if seq a1 (bs []) then
      (some true)
    else
      (some (decide ((a1.size : Int) > a2)))).bind fun v4 =>
  if v4 then
    (some (-1))
  else
    ((impl_number_l1 a1 (0, 0)).bind (Fl.go some fun v27 =>
    some v27))

noncomputable def internal_stringslite_HasPrefix (a1 : ByteArray) (a2 : ByteArray) : Option Bool :=
  if decide ((a1.size : Int) ≥ (a2.size : Int)) then
    ((ssub a1 0 (a2.size : Int)).bind fun x4 =>
    some (seq x4 a2))
  else
    (some false)

noncomputable def strings_HasPrefix (a1 : ByteArray) (a2 : ByteArray) : Option Bool :=
  (internal_stringslite_HasPrefix a1 a2).bind fun x3 =>
  some x3

noncomputable def impl_Disk_paths_l1b (a1 : Disk) (a2 : ByteArray) (s12 : ((List ByteArray) × Int)) : Option (Lp ((List ByteArray) × Int) (List ByteArray)) :=
  if decide (s12.2 < (a1.Files.length : Int)) then
    ((idx a1.Files s12.2).bind fun x14 =>
    (strings_HasPrefix x14.Path a2).bind fun x16 =>
    (if x16 then
        ((app 16 s12.1 [x14.Path]).bind fun x19 =>
        some x19)
      else
        (some s12.1)).bind fun v21 =>
    some (Lp.go (v21, w64 (s12.2 + 1))))
  else
    (some (Lp.done s12.1))

noncomputable def impl_Disk_paths_l1 (a1 : Disk) (a2 : ByteArray) : ((List ByteArray) × Int) → Option (List ByteArray) := loop (impl_Disk_paths_l1b a1 a2)

noncomputable def impl_Disk_paths (a1 : Disk) (a2 : ByteArray) : Option (List ByteArray) :=
  (impl_Disk_paths_l1 a1 a2 (([] : List ByteArray), 0)).bind fun v22 =>
  some v22

noncomputable def impl_Disk_gens_l1b (x2 : (List ByteArray)) (s17 : ((List Int) × Int)) : Option (Lp ((List Int) × Int) (List Int)) :=
  if decide (s17.2 < (x2.length : Int)) then
    ((idx x2 s17.2).bind fun x19 =>
    (ssub x19 4 (x19.size : Int)).bind fun x21 =>
    (impl_number x21 6).bind fun x23 =>
    (if decide (x23 ≥ 1) then
        (some ((x19.size : Int) == 10))
      else
        (some false)).bind fun v26 =>
    (if v26 then
        ((app 8 s17.1 [x23]).bind fun x28 =>
        some x28)
      else
        (some s17.1)).bind fun v30 =>
    some (Lp.go (v30, w64 (s17.2 + 1))))
  else
    (some (Lp.done s17.1))

noncomputable def impl_Disk_gens_l1 (x2 : (List ByteArray)) : ((List Int) × Int) → Option (List Int) := loop (impl_Disk_gens_l1b x2)

noncomputable def impl_Disk_gens (a1 : Disk) : Option (List Int) :=
  (impl_Disk_paths a1 (bs [103, 101, 110, 47])).bind fun x2 =>
  (impl_Disk_gens_l1 x2 (([] : List Int), 0)).bind fun v31 =>
  some v31

noncomputable def slices_Index_Lint64_l1b (a1 : (List Int)) (a2 : Int) (s7 : Int) : Option (Lp Int (Fl Int Unit)) :=
  if decide (s7 < (a1.length : Int)) then
    ((idx a1 s7).bind fun x9 =>
    if a2 == x9 then
      (some (Lp.done (Fl.ret s7)))
    else
      (some (Lp.go (w64 (s7 + 1)))))
  else
    (some (Lp.done (Fl.nxt ())))

noncomputable def slices_Index_Lint64_l1 (a1 : (List Int)) (a2 : Int) : Int → Option (Fl Int Unit) := loop (slices_Index_Lint64_l1b a1 a2)

noncomputable def slices_Index_Lint64 (a1 : (List Int)) (a2 : Int) : Option Int :=
  (slices_Index_Lint64_l1 a1 a2 0).bind (Fl.go some fun v12 =>
  some (-1))

noncomputable def slices_Contains_Lint64 (a1 : (List Int)) (a2 : Int) : Option Bool :=
  (slices_Index_Lint64 a1 a2).bind fun x3 =>
  some (decide (x3 ≥ 0))

noncomputable def impl_Disk_current (a1 : Disk) : Option (Int × Int) :=
  (impl_Disk_data a1 (bs [99, 117, 114])).bind fun x2 =>
  (impl_number (b2s x2.1) 6).bind fun x4 =>
  (if !x2.2 then
      (some true)
    else
      ((impl_Disk_gens a1).bind fun x7 =>
      (slices_Contains_Lint64 x7 x4).bind fun x9 =>
      some (!x9))).bind fun v11 =>
  if v11 then
    (some (0, 4))
  else
    (some (x4, 0))

noncomputable def strconv_FormatInt (a1 a2 : Int) : Option ByteArray := if a2 = 10 ∧ -9223372036854775808 ≤ a1 ∧ a1 ≤ 9223372036854775807 then some ⟨(Lib.itoa a1).toArray⟩ else none

noncomputable def impl_dec (a1 : Int) : Option ByteArray :=
  (strconv_FormatInt a1 10).bind fun x2 =>
  some x2

noncomputable def strings_Repeat (a1 : ByteArray) (a2 : Int) : Option ByteArray := if 0 ≤ a2 ∧ a2 ≤ 9223372036854775807 ∧ a1.size * a2.toNat ≤ 140737488355328 then some ⟨(Lib.repeatL a1.data.toList a2.toNat).toArray⟩ else none

noncomputable def impl_genPath (a1 : Int) : Option ByteArray :=
  (impl_dec a1).bind fun x2 =>
  (strings_Repeat (bs [48]) (w64 (6 - (x2.size : Int)))).bind fun x4 =>
  (cat (bs [103, 101, 110, 47]) x4).bind fun x6 =>
  (cat x6 x2).bind fun x8 =>
  some x8

noncomputable def strings_Split (a1 a2 : ByteArray) : Option (List ByteArray) := if a1.size < 4294967281 ∧ 1 ≤ a2.size then some (Lib.splitB a2 0 (Lib.countB a1 a2) a1) else none

noncomputable def impl_linesOf (a1 : ByteArray) : Option (List ByteArray) :=
  (strings_Split a1 (bs [10])).bind fun x2 =>
  (idx x2 (w64 ((x2.length : Int) - 1))).bind fun x4 =>
  (if seq x4 (bs []) then
      ((lsub x2 0 (w64 ((x2.length : Int) - 1))).bind fun x7 =>
      some x7)
    else
      (some x2)).bind fun v9 =>
  some v9

noncomputable def impl_wordsOf_1 (a1 : ByteArray) : Option Bool :=
  some (seq a1 (bs []))

noncomputable def slices_IndexFunc_Lstring_impl_wordsOf_1_l1b (a1 : (List ByteArray)) (s8 : Int) : Option (Lp Int (Fl Int Unit)) :=
  if decide (s8 < (a1.length : Int)) then
    ((idx a1 s8).bind fun x10 =>
    (impl_wordsOf_1 x10).bind fun x12 =>
    if x12 then
      (some (Lp.done (Fl.ret s8)))
    else
      (some (Lp.go (w64 (s8 + 1)))))
  else
    (some (Lp.done (Fl.nxt ())))

noncomputable def slices_IndexFunc_Lstring_impl_wordsOf_1_l1 (a1 : (List ByteArray)) : Int → Option (Fl Int Unit) := loop (slices_IndexFunc_Lstring_impl_wordsOf_1_l1b a1)

noncomputable def slices_IndexFunc_Lstring_impl_wordsOf_1 (a1 : (List ByteArray)) : Option Int :=
  (slices_IndexFunc_Lstring_impl_wordsOf_1_l1 a1 0).bind (Fl.go some fun v15 =>
  some (-1))

noncomputable def slices_DeleteFunc_Lstringr_impl_wordsOf_1_l1b  (s14 : ((List ByteArray) × Int × Int)) : Option (Lp ((List ByteArray) × Int × Int) ((List ByteArray) × Int)) :=
  if decide (s14.2.2 < (s14.1.length : Int)) then
    ((idx s14.1 s14.2.2).bind fun x16 =>
    (impl_wordsOf_1 x16).bind fun x18 =>
    (if !x18 then
        ((idx s14.1 s14.2.1).bind fun x21 =>
        some (s14.1.set s14.2.1.toNat x16, w64 (s14.2.1 + 1)))
      else
        (some (s14.1, s14.2.1))).bind fun v23 =>
    some (Lp.go (v23.1, v23.2, w64 (s14.2.2 + 1))))
  else
    (some (Lp.done (s14.1, s14.2.1)))

noncomputable def slices_DeleteFunc_Lstringr_impl_wordsOf_1_l1  : ((List ByteArray) × Int × Int) → Option ((List ByteArray) × Int) := loop slices_DeleteFunc_Lstringr_impl_wordsOf_1_l1b

noncomputable def slices_DeleteFunc_Lstringr_impl_wordsOf_1 (a1 : (List ByteArray)) : Option (List ByteArray) :=
  (slices_IndexFunc_Lstring_impl_wordsOf_1 a1).bind fun x2 =>
  if x2 == (-1) then
    (some a1)
  else
    ((slices_DeleteFunc_Lstringr_impl_wordsOf_1_l1 (a1, x2, w64 (x2 + 1))).bind fun v24 =>
    (lsub v24.1 v24.2 (v24.1.length : Int)).bind fun x25 =>
    (clrw v24.1 v24.2 x25.length ByteArray.empty).bind fun x27 =>
    (lsub x27 0 v24.2).bind fun x29 =>
    some x29)

noncomputable def impl_wordsOf (a1 : ByteArray) : Option (List ByteArray) :=
  (strings_Split a1 (bs [32])).bind fun x2 =>
  (slices_DeleteFunc_Lstringr_impl_wordsOf_1 x2).bind fun x4 =>
  some x4

noncomputable def impl_ParseVersion_l1b (x2 : (List ByteArray)) (s15 : ((List Int) × Int)) : Option (Lp ((List Int) × Int) (Fl VersionResult (List Int))) :=
  if decide (s15.2 < (x2.length : Int)) then
    ((idx x2 s15.2).bind fun x17 =>
    (impl_number x17 3).bind fun x19 =>
    (idxa s15.1 3 s15.2).bind fun x21 =>
    (idxa (s15.1.set s15.2.toNat x19) 3 s15.2).bind fun x23 =>
    if decide (x23 < 0) then
      (some (Lp.done (Fl.ret ({ Code := 5, Version := ({ A := 0, B := 0, C := 0 } : Version) } : VersionResult))))
    else
      (some (Lp.go (s15.1.set s15.2.toNat x19, w64 (s15.2 + 1)))))
  else
    (some (Lp.done (Fl.nxt s15.1)))

noncomputable def impl_ParseVersion_l1 (x2 : (List ByteArray)) : ((List Int) × Int) → Option (Fl VersionResult (List Int)) := loop (impl_ParseVersion_l1b x2)

noncomputable def impl_ParseVersion (a1 : ByteArray) : Option VersionResult :=
  (strings_Split a1 (bs [46])).bind fun x2 =>
  if decide ((x2.length : Int) > 3) then
    (some ({ Code := 5, Version := ({ A := 0, B := 0, C := 0 } : Version) } : VersionResult))
  else
    ((impl_ParseVersion_l1 x2 (([0, 0, 0] : (List Int)), 0)).bind (Fl.go some fun v26 =>
    (idxa v26 3 0).bind fun x27 =>
    (idxa v26 3 1).bind fun x29 =>
    (idxa v26 3 2).bind fun x31 =>
    some ({ Code := 0, Version := ({ A := x27, B := x29, C := x31 } : Version) } : VersionResult)))

noncomputable def impl_readPack (a1 : (List Pack)) (a2 : (List ByteArray)) : Option Int :=
  if (a2.length : Int) != 2 then
    (some (-1))
  else
    ((idx a2 1).bind fun x4 =>
    (impl_ParseVersion x4).bind fun x6 =>
    if x6.Code != 0 then
      (some (-1))
    else
      ((idx a2 0).bind fun x9 =>
      (impl_find a1 x9 x6.Version).bind fun x11 =>
      some x11))

noncomputable def slices_Sort_Lint64r (a1 : List Int) : Option (List Int) := if a1.length ≤ 4611686018427387903 then some (a1.mergeSort fun x y => decide (x ≤ y)) else none

noncomputable def impl_ParseSet_l1b (a1 : (List Pack)) (x7 : (List ByteArray)) (s23 : ((List Int) × Int)) : Option (Lp ((List Int) × Int) (Fl SetResult (List Int))) :=
  if decide (s23.2 < (x7.length : Int)) then
    ((idx x7 s23.2).bind fun x25 =>
    (impl_wordsOf x25).bind fun x27 =>
    (impl_readPack a1 x27).bind fun x29 =>
    (if decide (x29 < 0) then
        (some true)
      else
        ((slices_Contains_Lint64 s23.1 x29).bind fun x32 =>
        some x32)).bind fun v34 =>
    if v34 then
      (some (Lp.done (Fl.ret ({ Code := 5, At := s23.2, Set := ([] : List Int) } : SetResult))))
    else
      ((app 8 s23.1 [x29]).bind fun x36 =>
      some (Lp.go (x36, w64 (s23.2 + 1)))))
  else
    (some (Lp.done (Fl.nxt s23.1)))

noncomputable def impl_ParseSet_l1 (a1 : (List Pack)) (x7 : (List ByteArray)) : ((List Int) × Int) → Option (Fl SetResult (List Int)) := loop (impl_ParseSet_l1b a1 x7)

noncomputable def impl_ParseSet (a1 : (List Pack)) (a2 : ByteArray) : Option SetResult :=
  (impl_CatalogFault a1).bind fun x3 =>
  if x3 != 0 then
    (some ({ Code := x3, At := 0, Set := ([] : List Int) } : SetResult))
  else
    (if decide ((a2.size : Int) > 4000) then
      (some ({ Code := 2, At := 0, Set := ([] : List Int) } : SetResult))
    else
      ((impl_linesOf a2).bind fun x7 =>
      (impl_ParseSet_l1 a1 x7 (([] : List Int), 0)).bind (Fl.go some fun v38 =>
      (slices_Sort_Lint64r v38).bind fun x39 =>
      (same x39 v38).bind fun u41 =>
      some ({ Code := 0, At := 0, Set := x39 } : SetResult))))

noncomputable def impl_setOf (a1 : (List Pack)) (a2 : Disk) (a3 : Int) : Option ((List Int) × Int) :=
  (impl_Disk_gens a2).bind fun x4 =>
  (slices_Contains_Lint64 x4 a3).bind fun x6 =>
  if !x6 then
    (some (([] : List Int), 4))
  else
    ((impl_genPath a3).bind fun x9 =>
    (impl_Disk_data a2 x9).bind fun x11 =>
    (impl_ParseSet a1 (b2s x11.1)).bind fun x13 =>
    some (x13.Set, x13.Code))

noncomputable def impl_shown (a1 : (List Pack)) (a2 : Disk) : Option ((List Int) × Int) :=
  (impl_Disk_current a2).bind fun x3 =>
  if x3.2 != 0 then
    (some (([] : List Int), x3.2))
  else
    ((impl_setOf a1 a2 x3.1).bind fun x6 =>
    some (x6.1, x6.2))

noncomputable def impl_named_l1b (a1 : (List Pack)) (a2 : (List Int)) (a3 : ByteArray) (s10 : Int) : Option (Lp Int (Fl Int Unit)) :=
  if decide (s10 < (a2.length : Int)) then
    ((idx a2 s10).bind fun x12 =>
    (idx a1 x12).bind fun x14 =>
    if seq x14.Name a3 then
      (some (Lp.done (Fl.ret x12)))
    else
      (some (Lp.go (w64 (s10 + 1)))))
  else
    (some (Lp.done (Fl.nxt ())))

noncomputable def impl_named_l1 (a1 : (List Pack)) (a2 : (List Int)) (a3 : ByteArray) : Int → Option (Fl Int Unit) := loop (impl_named_l1b a1 a2 a3)

noncomputable def impl_named (a1 : (List Pack)) (a2 : (List Int)) (a3 : ByteArray) : Option Int :=
  (impl_named_l1 a1 a2 a3 0).bind (Fl.go some fun v17 =>
  some (-1))

noncomputable def impl_Pack_names (a1 : Pack) : Option (List ByteArray) :=
  (app 16 [a1.Name] a1.Provides).bind fun x2 =>
  some x2

noncomputable def impl_Term_has (a1 : Term) (a2 : ByteArray) (a3 : Version) : Option Bool :=
  if seq a1.Name a2 then
    ((impl_compare a1.Low a3).bind fun x5 =>
    if decide (x5 ≤ 0) then
      ((impl_compare a3 a1.High).bind fun x8 =>
      some (decide (x8 < 0)))
    else
      (some false))
  else
    (some false)

noncomputable def impl_Pack_gives_1 (a1 : ByteArray) (a2 : Term) (a3 : Pack) : Option Bool :=
  (impl_Term_has a2 a1 a3.Version).bind fun x4 =>
  some x4

noncomputable def slices_IndexFunc_Lstringr_impl_Pack_gives_1_l1b (a1 : (List ByteArray)) (a2 : Term) (a3 : Pack) (s10 : Int) : Option (Lp Int (Fl Int Unit)) :=
  if decide (s10 < (a1.length : Int)) then
    ((idx a1 s10).bind fun x12 =>
    (impl_Pack_gives_1 x12 a2 a3).bind fun x14 =>
    if x14 then
      (some (Lp.done (Fl.ret s10)))
    else
      (some (Lp.go (w64 (s10 + 1)))))
  else
    (some (Lp.done (Fl.nxt ())))

noncomputable def slices_IndexFunc_Lstringr_impl_Pack_gives_1_l1 (a1 : (List ByteArray)) (a2 : Term) (a3 : Pack) : Int → Option (Fl Int Unit) := loop (slices_IndexFunc_Lstringr_impl_Pack_gives_1_l1b a1 a2 a3)

noncomputable def slices_IndexFunc_Lstringr_impl_Pack_gives_1 (a1 : (List ByteArray)) (a2 : Term) (a3 : Pack) : Option Int :=
  (slices_IndexFunc_Lstringr_impl_Pack_gives_1_l1 a1 a2 a3 0).bind (Fl.go some fun v17 =>
  some (-1))

noncomputable def slices_ContainsFunc_Lstringr_impl_Pack_gives_1 (a1 : (List ByteArray)) (a2 : Term) (a3 : Pack) : Option Bool :=
  (slices_IndexFunc_Lstringr_impl_Pack_gives_1 a1 a2 a3).bind fun x4 =>
  some (decide (x4 ≥ 0))

noncomputable def impl_Pack_gives (a1 : Pack) (a2 : Term) : Option Bool :=
  (impl_Pack_names a1).bind fun x3 =>
  (slices_ContainsFunc_Lstringr_impl_Pack_gives_1 x3 a2 a1).bind fun x5 =>
  some x5

noncomputable def slices_IndexFunc_LimplTerm_impl_Pack_gives_l1b (a1 : (List Term)) (a2 : Pack) (s9 : Int) : Option (Lp Int (Fl Int Unit)) :=
  if decide (s9 < (a1.length : Int)) then
    ((idx a1 s9).bind fun x11 =>
    (impl_Pack_gives a2 x11).bind fun x13 =>
    if x13 then
      (some (Lp.done (Fl.ret s9)))
    else
      (some (Lp.go (w64 (s9 + 1)))))
  else
    (some (Lp.done (Fl.nxt ())))

noncomputable def slices_IndexFunc_LimplTerm_impl_Pack_gives_l1 (a1 : (List Term)) (a2 : Pack) : Int → Option (Fl Int Unit) := loop (slices_IndexFunc_LimplTerm_impl_Pack_gives_l1b a1 a2)

noncomputable def slices_IndexFunc_LimplTerm_impl_Pack_gives (a1 : (List Term)) (a2 : Pack) : Option Int :=
  (slices_IndexFunc_LimplTerm_impl_Pack_gives_l1 a1 a2 0).bind (Fl.go some fun v16 =>
  some (-1))

noncomputable def slices_ContainsFunc_LimplTerm_impl_Pack_gives (a1 : (List Term)) (a2 : Pack) : Option Bool :=
  (slices_IndexFunc_LimplTerm_impl_Pack_gives a1 a2).bind fun x3 =>
  some (decide (x3 ≥ 0))

noncomputable def impl_Pack_givesOne (a1 : Pack) (a2 : (List Term)) : Option Bool :=
  (slices_ContainsFunc_LimplTerm_impl_Pack_gives a2 a1).bind fun x3 =>
  some x3

noncomputable def impl_faults_1 (a1 : Int) (a2 : (List Pack)) (a3 : (List Term)) : Option Bool :=
  (idx a2 a1).bind fun x4 =>
  (impl_Pack_givesOne x4 a3).bind fun x6 =>
  some x6

noncomputable def slices_IndexFunc_Lint64_impl_faults_1_l1b (a1 : (List Int)) (a2 : (List Pack)) (a3 : (List Term)) (s10 : Int) : Option (Lp Int (Fl Int Unit)) :=
  if decide (s10 < (a1.length : Int)) then
    ((idx a1 s10).bind fun x12 =>
    (impl_faults_1 x12 a2 a3).bind fun x14 =>
    if x14 then
      (some (Lp.done (Fl.ret s10)))
    else
      (some (Lp.go (w64 (s10 + 1)))))
  else
    (some (Lp.done (Fl.nxt ())))

noncomputable def slices_IndexFunc_Lint64_impl_faults_1_l1 (a1 : (List Int)) (a2 : (List Pack)) (a3 : (List Term)) : Int → Option (Fl Int Unit) := loop (slices_IndexFunc_Lint64_impl_faults_1_l1b a1 a2 a3)

noncomputable def slices_IndexFunc_Lint64_impl_faults_1 (a1 : (List Int)) (a2 : (List Pack)) (a3 : (List Term)) : Option Int :=
  (slices_IndexFunc_Lint64_impl_faults_1_l1 a1 a2 a3 0).bind (Fl.go some fun v17 =>
  some (-1))

noncomputable def slices_ContainsFunc_Lint64_impl_faults_1 (a1 : (List Int)) (a2 : (List Pack)) (a3 : (List Term)) : Option Bool :=
  (slices_IndexFunc_Lint64_impl_faults_1 a1 a2 a3).bind fun x4 =>
  some (decide (x4 ≥ 0))

noncomputable def impl_faults_2 (a1 : Int) (a2 : Int) (a3 : (List Pack)) (a4 : Term) : Option Bool :=
  if a1 != a2 then
    ((idx a3 a1).bind fun x6 =>
    (impl_Pack_gives x6 a4).bind fun x8 =>
    some x8)
  else
    (some false)

noncomputable def slices_IndexFunc_Lint64_impl_faults_2_l1b (a1 : (List Int)) (a2 : Int) (a3 : (List Pack)) (a4 : Term) (s11 : Int) : Option (Lp Int (Fl Int Unit)) :=
  if decide (s11 < (a1.length : Int)) then
    ((idx a1 s11).bind fun x13 =>
    (impl_faults_2 x13 a2 a3 a4).bind fun x15 =>
    if x15 then
      (some (Lp.done (Fl.ret s11)))
    else
      (some (Lp.go (w64 (s11 + 1)))))
  else
    (some (Lp.done (Fl.nxt ())))

noncomputable def slices_IndexFunc_Lint64_impl_faults_2_l1 (a1 : (List Int)) (a2 : Int) (a3 : (List Pack)) (a4 : Term) : Int → Option (Fl Int Unit) := loop (slices_IndexFunc_Lint64_impl_faults_2_l1b a1 a2 a3 a4)

noncomputable def slices_IndexFunc_Lint64_impl_faults_2 (a1 : (List Int)) (a2 : Int) (a3 : (List Pack)) (a4 : Term) : Option Int :=
  (slices_IndexFunc_Lint64_impl_faults_2_l1 a1 a2 a3 a4 0).bind (Fl.go some fun v18 =>
  some (-1))

noncomputable def slices_ContainsFunc_Lint64_impl_faults_2 (a1 : (List Int)) (a2 : Int) (a3 : (List Pack)) (a4 : Term) : Option Bool :=
  (slices_IndexFunc_Lint64_impl_faults_2 a1 a2 a3 a4).bind fun x5 =>
  some (decide (x5 ≥ 0))

noncomputable def impl_faults_l2b (a1 : (List Pack)) (a2 : (List Int)) (s56 : ((List Fault) × Int)) (x58 : Int) (x60 : Pack) (s99 : ((List Fault) × Int)) : Option (Lp ((List Fault) × Int) (List Fault)) :=
  if decide (s99.2 < (x60.Bars.length : Int)) then
    ((idx x60.Bars s99.2).bind fun x101 =>
    (slices_ContainsFunc_Lint64_impl_faults_2 a2 x58 a1 x101).bind fun x103 =>
    (if x103 then
        ((app 24 s99.1 [({ Kind := 3, Pack := x58, At := s99.2 } : Fault)]).bind fun x106 =>
        some x106)
      else
        (some s99.1)).bind fun v108 =>
    some (Lp.go (v108, w64 (s99.2 + 1))))
  else
    (some (Lp.done s99.1))

noncomputable def impl_faults_l2 (a1 : (List Pack)) (a2 : (List Int)) (s56 : ((List Fault) × Int)) (x58 : Int) (x60 : Pack) : ((List Fault) × Int) → Option (List Fault) := loop (impl_faults_l2b a1 a2 s56 x58 x60)

noncomputable def impl_faults_l1b (a1 : (List Pack)) (a2 : (List Int)) (s56 : ((List Fault) × Int)) (x58 : Int) (x60 : Pack) (s79 : ((List Fault) × Int)) : Option (Lp ((List Fault) × Int) (List Fault)) :=
  if decide (s79.2 < (x60.Needs.length : Int)) then
    ((idx x60.Needs s79.2).bind fun x81 =>
    (slices_ContainsFunc_Lint64_impl_faults_1 a2 a1 x81).bind fun x83 =>
    (if !x83 then
        ((app 24 s79.1 [({ Kind := 2, Pack := x58, At := s79.2 } : Fault)]).bind fun x86 =>
        some x86)
      else
        (some s79.1)).bind fun v88 =>
    some (Lp.go (v88, w64 (s79.2 + 1))))
  else
    (some (Lp.done s79.1))

noncomputable def impl_faults_l1 (a1 : (List Pack)) (a2 : (List Int)) (s56 : ((List Fault) × Int)) (x58 : Int) (x60 : Pack) : ((List Fault) × Int) → Option (List Fault) := loop (impl_faults_l1b a1 a2 s56 x58 x60)

noncomputable def impl_faults_l3b (a1 : (List Pack)) (a2 : (List Int)) (s56 : ((List Fault) × Int)) : Option (Lp ((List Fault) × Int) (List Fault)) :=
  if decide (s56.2 < (a2.length : Int)) then
    ((idx a2 s56.2).bind fun x58 =>
    (idx a1 x58).bind fun x60 =>
    (lsub a2 0 s56.2).bind fun x62 =>
    (impl_named a1 x62 x60.Name).bind fun x64 =>
    (if decide (x64 ≥ 0) then
        ((app 24 s56.1 [({ Kind := 1, Pack := x58, At := 0 } : Fault)]).bind fun x67 =>
        some x67)
      else
        (some s56.1)).bind fun v69 =>
    (impl_faults_l1 a1 a2 s56 x58 x60 (v69, 0)).bind fun v89 =>
    (impl_faults_l2 a1 a2 s56 x58 x60 (v89, 0)).bind fun v109 =>
    some (Lp.go (v109, w64 (s56.2 + 1))))
  else
    (some (Lp.done s56.1))

noncomputable def impl_faults_l3 (a1 : (List Pack)) (a2 : (List Int)) : ((List Fault) × Int) → Option (List Fault) := loop (impl_faults_l3b a1 a2)

noncomputable def impl_faults (a1 : (List Pack)) (a2 : (List Int)) : Option (List Fault) :=
  (impl_faults_l3 a1 a2 (([] : List Fault), 0)).bind fun v110 =>
  some v110

noncomputable def impl_consistent (a1 : (List Pack)) (a2 : (List Int)) : Option Bool :=
  (impl_faults a1 a2).bind fun x3 =>
  some ((x3.length : Int) == 0)

noncomputable def slices_Clone_Lint64 (a1 : (List Int)) : Option (List Int) :=
  (app 8 ([] : List Int) a1).bind fun x3 =>
  some x3

noncomputable def impl_Version_text (a1 : Version) : Option ByteArray :=
  (impl_dec a1.A).bind fun x2 =>
  (cat x2 (bs [46])).bind fun x4 =>
  (impl_dec a1.B).bind fun x6 =>
  (cat x4 x6).bind fun x8 =>
  (cat x8 (bs [46])).bind fun x10 =>
  (impl_dec a1.C).bind fun x12 =>
  (cat x10 x12).bind fun x14 =>
  some x14

noncomputable def impl_Pack_path (a1 : Pack) : Option ByteArray :=
  (cat (bs [112, 107, 103, 47]) a1.Name).bind fun x2 =>
  (cat x2 (bs [45])).bind fun x4 =>
  (impl_Version_text a1.Version).bind fun x6 =>
  (cat x4 x6).bind fun x8 =>
  some x8

noncomputable def impl_Pack_bytes_l2b (a1 : Pack) (s13 : (Int × (List Int) × Int)) : Option (Lp (Int × (List Int) × Int) (List Int)) :=
  if decide (s13.2.2 < a1.Size) then
    ((app 1 s13.2.1 [s13.1]).bind fun x15 =>
    some (Lp.go (IntKind.u8.wrap ((IntKind.u8.wrap (31 * s13.1)) + 7), x15, w64 (s13.2.2 + 1))))
  else
    (some (Lp.done s13.2.1))

noncomputable def impl_Pack_bytes_l2 (a1 : Pack) : (Int × (List Int) × Int) → Option (List Int) := loop (impl_Pack_bytes_l2b a1)

noncomputable def impl_Pack_bytes_l1b (a1 : Pack) (s5 : (Int × Int)) : Option (Lp (Int × Int) Int) :=
  if decide (s5.2 < (a1.Name.size : Int)) then
    ((bidx a1.Name s5.2).bind fun x7 =>
    some (Lp.go (IntKind.u8.wrap (s5.1 + x7), w64 (s5.2 + 1))))
  else
    (some (Lp.done s5.1))

noncomputable def impl_Pack_bytes_l1 (a1 : Pack) : (Int × Int) → Option Int := loop (impl_Pack_bytes_l1b a1)

noncomputable def impl_Pack_bytes (a1 : Pack) : Option (List Int) :=
  (impl_Pack_bytes_l1 a1 (IntKind.u8.wrap ((IntKind.u8.wrap ((IntKind.u8.wrap (a1.Version.A)) + (IntKind.u8.wrap (a1.Version.B)))) + (IntKind.u8.wrap (a1.Version.C))), 0)).bind fun v9 =>
  (impl_Pack_bytes_l2 a1 (v9, ([] : List Int), 0)).bind fun v17 =>
  some v17

noncomputable def slices_Equal_Lbyte_l1b (a1 : (List Int)) (a2 : (List Int)) (s10 : Int) : Option (Lp Int (Fl Bool Unit)) :=
  if decide (s10 < (a1.length : Int)) then
    ((idx a1 s10).bind fun x12 =>
    (idx a2 s10).bind fun x14 =>
    if x12 != x14 then
      (some (Lp.done (Fl.ret false)))
    else
      (some (Lp.go (w64 (s10 + 1)))))
  else
    (some (Lp.done (Fl.nxt ())))

noncomputable def slices_Equal_Lbyte_l1 (a1 : (List Int)) (a2 : (List Int)) : Int → Option (Fl Bool Unit) := loop (slices_Equal_Lbyte_l1b a1 a2)

noncomputable def slices_Equal_Lbyte (a1 : (List Int)) (a2 : (List Int)) : Option Bool :=
  if (a1.length : Int) != (a2.length : Int) then
    (some false)
  else
    ((slices_Equal_Lbyte_l1 a1 a2 0).bind (Fl.go some fun v17 =>
    some true))

noncomputable def impl_lacking_1 (a1 : Int) (a2 : Disk) (a3 : (List Pack)) : Option Bool :=
  (idx a3 a1).bind fun x4 =>
  (impl_Pack_path x4).bind fun x6 =>
  (impl_Disk_data a2 x6).bind fun x8 =>
  if !x8.2 then
    (some true)
  else
    ((idx a3 a1).bind fun x11 =>
    (impl_Pack_bytes x11).bind fun x13 =>
    (slices_Equal_Lbyte x8.1 x13).bind fun x15 =>
    some (!x15))

noncomputable def impl_those_1_impl_lacking_1 (a1 : Int) (a2 : Disk) (a3 : (List Pack)) : Option Bool :=
  (impl_lacking_1 a1 a2 a3).bind fun x4 =>
  some (!x4)

noncomputable def slices_IndexFunc_Lint64r_impl_those_1_impl_lacking_1_l1b (a1 : (List Int)) (a2 : Disk) (a3 : (List Pack)) (s10 : Int) : Option (Lp Int (Fl Int Unit)) :=
  if decide (s10 < (a1.length : Int)) then
    ((idx a1 s10).bind fun x12 =>
    (impl_those_1_impl_lacking_1 x12 a2 a3).bind fun x14 =>
    if x14 then
      (some (Lp.done (Fl.ret s10)))
    else
      (some (Lp.go (w64 (s10 + 1)))))
  else
    (some (Lp.done (Fl.nxt ())))

noncomputable def slices_IndexFunc_Lint64r_impl_those_1_impl_lacking_1_l1 (a1 : (List Int)) (a2 : Disk) (a3 : (List Pack)) : Int → Option (Fl Int Unit) := loop (slices_IndexFunc_Lint64r_impl_those_1_impl_lacking_1_l1b a1 a2 a3)

noncomputable def slices_IndexFunc_Lint64r_impl_those_1_impl_lacking_1 (a1 : (List Int)) (a2 : Disk) (a3 : (List Pack)) : Option Int :=
  (slices_IndexFunc_Lint64r_impl_those_1_impl_lacking_1_l1 a1 a2 a3 0).bind (Fl.go some fun v17 =>
  some (-1))

noncomputable def slices_DeleteFunc_Lint64r_impl_those_1_impl_lacking_1_l1b (a2 : Disk) (a3 : (List Pack)) (s16 : ((List Int) × Int × Int)) : Option (Lp ((List Int) × Int × Int) ((List Int) × Int)) :=
  if decide (s16.2.2 < (s16.1.length : Int)) then
    ((idx s16.1 s16.2.2).bind fun x18 =>
    (impl_those_1_impl_lacking_1 x18 a2 a3).bind fun x20 =>
    (if !x20 then
        ((idx s16.1 s16.2.1).bind fun x23 =>
        some (s16.1.set s16.2.1.toNat x18, w64 (s16.2.1 + 1)))
      else
        (some (s16.1, s16.2.1))).bind fun v25 =>
    some (Lp.go (v25.1, v25.2, w64 (s16.2.2 + 1))))
  else
    (some (Lp.done (s16.1, s16.2.1)))

noncomputable def slices_DeleteFunc_Lint64r_impl_those_1_impl_lacking_1_l1 (a2 : Disk) (a3 : (List Pack)) : ((List Int) × Int × Int) → Option ((List Int) × Int) := loop (slices_DeleteFunc_Lint64r_impl_those_1_impl_lacking_1_l1b a2 a3)

noncomputable def slices_DeleteFunc_Lint64r_impl_those_1_impl_lacking_1 (a1 : (List Int)) (a2 : Disk) (a3 : (List Pack)) : Option (List Int) :=
  (slices_IndexFunc_Lint64r_impl_those_1_impl_lacking_1 a1 a2 a3).bind fun x4 =>
  if x4 == (-1) then
    (some a1)
  else
    ((slices_DeleteFunc_Lint64r_impl_those_1_impl_lacking_1_l1 a2 a3 (a1, x4, w64 (x4 + 1))).bind fun v26 =>
    (lsub v26.1 v26.2 (v26.1.length : Int)).bind fun x27 =>
    (clrw v26.1 v26.2 x27.length 0).bind fun x29 =>
    (lsub x29 0 v26.2).bind fun x31 =>
    some x31)

noncomputable def impl_those_impl_lacking_1 (a1 : (List Int)) (a2 : Disk) (a3 : (List Pack)) : Option (List Int) :=
  (slices_Clone_Lint64 a1).bind fun x4 =>
  (slices_DeleteFunc_Lint64r_impl_those_1_impl_lacking_1 x4 a2 a3).bind fun x6 =>
  some x6

noncomputable def impl_lacking (a1 : (List Pack)) (a2 : Disk) (a3 : (List Int)) : Option (List Int) :=
  (impl_those_impl_lacking_1 a3 a2 a1).bind fun x4 =>
  some x4

noncomputable def impl_isWhole (a1 : (List Pack)) (a2 : Disk) (a3 : (List Int)) : Option Bool :=
  (impl_consistent a1 a3).bind fun x4 =>
  if x4 then
    ((impl_lacking a1 a2 a3).bind fun x7 =>
    some ((x7.length : Int) == 0))
  else
    (some false)

noncomputable def impl_AnyTerm (a1 : ByteArray) : Option Term :=
  (impl_top).bind fun x2 =>
  some ({ Name := a1, Low := ({ A := 0, B := 0, C := 0 } : Version), High := x2 } : Term)

noncomputable def internal_stringslite_CutPrefix (a1 : ByteArray) (a2 : ByteArray) : Option (ByteArray × Bool) :=
  (internal_stringslite_HasPrefix a1 a2).bind fun x3 =>
  if !x3 then
    (some (a1, false))
  else
    ((ssub a1 (a2.size : Int) (a1.size : Int)).bind fun x6 =>
    some (x6, true))

noncomputable def strings_CutPrefix (a1 : ByteArray) (a2 : ByteArray) : Option (ByteArray × Bool) :=
  (internal_stringslite_CutPrefix a1 a2).bind fun x3 =>
  some (x3.1, x3.2)

noncomputable def strings_IndexByte (a1 : ByteArray) (a2 : Int) : Option Int := some (Lib.indexByte a1.data.toList a2.toNat.toUInt8)

noncomputable def impl_ParseTerm_l1b (a1 : ByteArray) (s9 : Int) : Option (Lp Int Int) :=
  (if decide (s9 < (a1.size : Int)) then
      ((bidx a1 s9).bind fun x11 =>
      (impl_isNameByte x11).bind fun x13 =>
      some x13)
    else
      (some false)).bind fun v15 =>
  if v15 then
    (some (Lp.go (w64 (s9 + 1))))
  else
    (some (Lp.done s9))

noncomputable def impl_ParseTerm_l1 (a1 : ByteArray) : Int → Option Int := loop (impl_ParseTerm_l1b a1)

noncomputable def impl_ParseTerm (a1 : ByteArray) : Option TermResult :=
  (impl_ParseTerm_l1 a1 0).bind fun v17 =>
  (ssub a1 0 v17).bind fun x18 =>
  (impl_AnyTerm x18).bind fun x20 =>
  (ssub a1 v17 (a1.size : Int)).bind fun x22 =>
  (impl_NameFault x20.Name).bind fun x24 =>
  if x24 != 0 then
    (some ({ Code := 5, Term := ({ Name := ByteArray.empty, Low := ({ A := 0, B := 0, C := 0 } : Version), High := ({ A := 0, B := 0, C := 0 } : Version) } : Term) } : TermResult))
  else
    ((strings_CutPrefix x22 (bs [62, 61])).bind fun x27 =>
    (if x27.2 then
        ((strings_IndexByte x27.1 60).bind fun x30 =>
        (if decide (x30 < 0) then
            (some (x27.1.size : Int))
          else
            (some x30)).bind fun v33 =>
        (ssub x27.1 0 v33).bind fun x34 =>
        (impl_ParseVersion x34).bind fun x36 =>
        if x36.Code != 0 then
          (some (Fl.ret ({ Code := 5, Term := ({ Name := ByteArray.empty, Low := ({ A := 0, B := 0, C := 0 } : Version), High := ({ A := 0, B := 0, C := 0 } : Version) } : Term) } : TermResult)))
        else
          ((ssub x27.1 v33 (x27.1.size : Int)).bind fun x39 =>
          some (Fl.nxt (x36.Version.A, x36.Version.B, x36.Version.C, x39))))
      else
        (some (Fl.nxt (x20.Low.A, x20.Low.B, x20.Low.C, x22)))).bind (Fl.go some fun v41 =>
    (strings_CutPrefix v41.2.2.2 (bs [60])).bind fun x42 =>
    (if x42.2 then
        ((impl_ParseVersion x42.1).bind fun x45 =>
        if x45.Code != 0 then
          (some (Fl.ret ({ Code := 5, Term := ({ Name := ByteArray.empty, Low := ({ A := 0, B := 0, C := 0 } : Version), High := ({ A := 0, B := 0, C := 0 } : Version) } : Term) } : TermResult)))
        else
          (some (Fl.nxt (x45.Version.A, x45.Version.B, x45.Version.C, bs []))))
      else
        (some (Fl.nxt (x20.High.A, x20.High.B, x20.High.C, v41.2.2.2)))).bind (Fl.go some fun v48 =>
    if !(seq v48.2.2.2 (bs [])) then
      (some ({ Code := 5, Term := ({ Name := ByteArray.empty, Low := ({ A := 0, B := 0, C := 0 } : Version), High := ({ A := 0, B := 0, C := 0 } : Version) } : Term) } : TermResult))
    else
      ((impl_TermFault ({ Name := x20.Name, Low := ({ A := v41.1, B := v41.2.1, C := v41.2.2.1 } : Version), High := ({ A := v48.1, B := v48.2.1, C := v48.2.2.1 } : Version) } : Term)).bind fun x50 =>
      if x50 != 0 then
        (some ({ Code := x50, Term := ({ Name := ByteArray.empty, Low := ({ A := 0, B := 0, C := 0 } : Version), High := ({ A := 0, B := 0, C := 0 } : Version) } : Term) } : TermResult))
      else
        (some ({ Code := 0, Term := ({ Name := x20.Name, Low := ({ A := v41.1, B := v41.2.1, C := v41.2.2.1 } : Version), High := ({ A := v48.1, B := v48.2.1, C := v48.2.2.1 } : Version) } : Term) } : TermResult))))))

noncomputable def impl_FormatTerm (a1 : Term) : Option ByteArray :=
  (impl_TermFault a1).bind fun x2 =>
  if x2 != 0 then
    (some (bs []))
  else
    ((if !(a1.Low.A == 0 && (a1.Low.B == 0 && (a1.Low.C == 0 && true))) then
        ((impl_Version_text a1.Low).bind fun x6 =>
        (cat (bs [62, 61]) x6).bind fun x8 =>
        (cat a1.Name x8).bind fun x10 =>
        some x10)
      else
        (some a1.Name)).bind fun v12 =>
    (impl_top).bind fun x13 =>
    (if !(a1.High.A == x13.A && (a1.High.B == x13.B && (a1.High.C == x13.C && true))) then
        ((impl_Version_text a1.High).bind fun x16 =>
        (cat (bs [60]) x16).bind fun x18 =>
        (cat v12 x18).bind fun x20 =>
        some x20)
      else
        (some v12)).bind fun v22 =>
    some v22)

noncomputable def impl_RootsText_l1b (a1 : (List Term)) (s14 : (ByteArray × Int)) : Option (Lp (ByteArray × Int) ByteArray) :=
  if decide (s14.2 < (a1.length : Int)) then
    ((idx a1 s14.2).bind fun x16 =>
    (impl_FormatTerm x16).bind fun x18 =>
    (cat x18 (bs [10])).bind fun x20 =>
    (cat s14.1 x20).bind fun x22 =>
    some (Lp.go (x22, w64 (s14.2 + 1))))
  else
    (some (Lp.done s14.1))

noncomputable def impl_RootsText_l1 (a1 : (List Term)) : (ByteArray × Int) → Option ByteArray := loop (impl_RootsText_l1b a1)

noncomputable def impl_RootsText (a1 : (List Term)) : Option ByteArray :=
  (impl_termsFault a1).bind fun x2 =>
  if x2 != 0 then
    (some (bs []))
  else
    ((impl_RootsText_l1 a1 (bs [], 0)).bind fun v24 =>
    some v24)

noncomputable def impl_twoOfOne_1 (a1 : Term) (a2 : Term) : Option Bool :=
  some (seq a1.Name a2.Name)

noncomputable def slices_IndexFunc_LimplTerm_impl_twoOfOne_1_l1b (a1 : (List Term)) (a2 : Term) (s9 : Int) : Option (Lp Int (Fl Int Unit)) :=
  if decide (s9 < (a1.length : Int)) then
    ((idx a1 s9).bind fun x11 =>
    (impl_twoOfOne_1 x11 a2).bind fun x13 =>
    if x13 then
      (some (Lp.done (Fl.ret s9)))
    else
      (some (Lp.go (w64 (s9 + 1)))))
  else
    (some (Lp.done (Fl.nxt ())))

noncomputable def slices_IndexFunc_LimplTerm_impl_twoOfOne_1_l1 (a1 : (List Term)) (a2 : Term) : Int → Option (Fl Int Unit) := loop (slices_IndexFunc_LimplTerm_impl_twoOfOne_1_l1b a1 a2)

noncomputable def slices_IndexFunc_LimplTerm_impl_twoOfOne_1 (a1 : (List Term)) (a2 : Term) : Option Int :=
  (slices_IndexFunc_LimplTerm_impl_twoOfOne_1_l1 a1 a2 0).bind (Fl.go some fun v16 =>
  some (-1))

noncomputable def slices_ContainsFunc_LimplTerm_impl_twoOfOne_1 (a1 : (List Term)) (a2 : Term) : Option Bool :=
  (slices_IndexFunc_LimplTerm_impl_twoOfOne_1 a1 a2).bind fun x3 =>
  some (decide (x3 ≥ 0))

noncomputable def impl_twoOfOne_l1b (a1 : (List Term)) (s10 : Int) : Option (Lp Int (Fl Bool Unit)) :=
  if decide (s10 < (a1.length : Int)) then
    ((idx a1 s10).bind fun x12 =>
    (lsub a1 0 s10).bind fun x14 =>
    (slices_ContainsFunc_LimplTerm_impl_twoOfOne_1 x14 x12).bind fun x16 =>
    if x16 then
      (some (Lp.done (Fl.ret true)))
    else
      (some (Lp.go (w64 (s10 + 1)))))
  else
    (some (Lp.done (Fl.nxt ())))

noncomputable def impl_twoOfOne_l1 (a1 : (List Term)) : Int → Option (Fl Bool Unit) := loop (impl_twoOfOne_l1b a1)

noncomputable def impl_twoOfOne (a1 : (List Term)) : Option Bool :=
  (impl_twoOfOne_l1 a1 0).bind (Fl.go some fun v19 =>
  some false)

noncomputable def impl_Disk_roots_l1b (x2 : ((List Int) × Bool)) (x4 : (List ByteArray)) (s14 : ((List Term) × Int)) : Option (Lp ((List Term) × Int) (Fl ((List Term) × Int) (List Term))) :=
  if decide (s14.2 < (x4.length : Int)) then
    ((idx x4 s14.2).bind fun x16 =>
    (impl_ParseTerm x16).bind fun x18 =>
    if x18.Code != 0 then
      (some (Lp.done (Fl.ret (([] : List Term), 5))))
    else
      ((app 64 s14.1 [x18.Term]).bind fun x21 =>
      some (Lp.go (x21, w64 (s14.2 + 1)))))
  else
    (some (Lp.done (Fl.nxt s14.1)))

noncomputable def impl_Disk_roots_l1 (x2 : ((List Int) × Bool)) (x4 : (List ByteArray)) : ((List Term) × Int) → Option (Fl ((List Term) × Int) (List Term)) := loop (impl_Disk_roots_l1b x2 x4)

noncomputable def impl_Disk_roots (a1 : Disk) : Option ((List Term) × Int) :=
  (impl_Disk_data a1 (bs [114, 111, 111, 116, 115])).bind fun x2 =>
  (impl_linesOf (b2s x2.1)).bind fun x4 =>
  (impl_Disk_roots_l1 x2 x4 (([] : List Term), 0)).bind (Fl.go some fun v23 =>
  (impl_RootsText v23).bind fun x24 =>
  (if !(seq x24 (b2s x2.1)) then
      (some true)
    else
      (if decide ((v23.length : Int) > 8) then
        (some true)
      else
        ((impl_twoOfOne v23).bind fun x28 =>
        some x28))).bind fun v30 =>
  if v30 then
    (some (([] : List Term), 5))
  else
    (some (v23, 0)))

noncomputable def impl_SystemFault (a1 : System) : Option Int :=
  (impl_bothCode a1.Catalog a1.Disk).bind fun x2 =>
  if x2 != 0 then
    (some x2)
  else
    ((impl_shown a1.Catalog a1.Disk).bind fun x5 =>
    if x5.2 != 0 then
      (some x5.2)
    else
      ((impl_isWhole a1.Catalog a1.Disk x5.1).bind fun x8 =>
      if !x8 then
        (some 1)
      else
        ((impl_Disk_roots a1.Disk).bind fun x11 =>
        some x11.2)))

noncomputable def laws_eqVersion (a1 : Version) (a2 : Version) : Option Bool :=
  if a1.A != a2.A then
    (some false)
  else
    (if a1.B != a2.B then
      (some false)
    else
      (if a1.C != a2.C then
        (some false)
      else
        (some true)))

noncomputable def laws_eqStringS_l1b (a1 : (List ByteArray)) (a2 : (List ByteArray)) (s10 : Int) : Option (Lp Int (Fl Bool Unit)) :=
  if decide (s10 < (a1.length : Int)) then
    ((idx a1 s10).bind fun x12 =>
    (idx a2 s10).bind fun x14 =>
    if !(seq x12 x14) then
      (some (Lp.done (Fl.ret false)))
    else
      (some (Lp.go (w64 (s10 + 1)))))
  else
    (some (Lp.done (Fl.nxt ())))

noncomputable def laws_eqStringS_l1 (a1 : (List ByteArray)) (a2 : (List ByteArray)) : Int → Option (Fl Bool Unit) := loop (laws_eqStringS_l1b a1 a2)

noncomputable def laws_eqStringS (a1 : (List ByteArray)) (a2 : (List ByteArray)) : Option Bool :=
  if (a1.length : Int) != (a2.length : Int) then
    (some false)
  else
    ((laws_eqStringS_l1 a1 a2 0).bind (Fl.go some fun v17 =>
    some true))

noncomputable def laws_eqTerm (a1 : Term) (a2 : Term) : Option Bool :=
  if !(seq a1.Name a2.Name) then
    (some false)
  else
    ((laws_eqVersion a1.Low a2.Low).bind fun x4 =>
    if !x4 then
      (some false)
    else
      ((laws_eqVersion a1.High a2.High).bind fun x7 =>
      if !x7 then
        (some false)
      else
        (some true)))

noncomputable def laws_eqTermS_l1b (a1 : (List Term)) (a2 : (List Term)) (s12 : Int) : Option (Lp Int (Fl Bool Unit)) :=
  if decide (s12 < (a1.length : Int)) then
    ((idx a1 s12).bind fun x14 =>
    (idx a2 s12).bind fun x16 =>
    (laws_eqTerm x14 x16).bind fun x18 =>
    if !x18 then
      (some (Lp.done (Fl.ret false)))
    else
      (some (Lp.go (w64 (s12 + 1)))))
  else
    (some (Lp.done (Fl.nxt ())))

noncomputable def laws_eqTermS_l1 (a1 : (List Term)) (a2 : (List Term)) : Int → Option (Fl Bool Unit) := loop (laws_eqTermS_l1b a1 a2)

noncomputable def laws_eqTermS (a1 : (List Term)) (a2 : (List Term)) : Option Bool :=
  if (a1.length : Int) != (a2.length : Int) then
    (some false)
  else
    ((laws_eqTermS_l1 a1 a2 0).bind (Fl.go some fun v21 =>
    some true))

noncomputable def laws_eqTermSS_l1b (a1 : (List (List Term))) (a2 : (List (List Term))) (s12 : Int) : Option (Lp Int (Fl Bool Unit)) :=
  if decide (s12 < (a1.length : Int)) then
    ((idx a1 s12).bind fun x14 =>
    (idx a2 s12).bind fun x16 =>
    (laws_eqTermS x14 x16).bind fun x18 =>
    if !x18 then
      (some (Lp.done (Fl.ret false)))
    else
      (some (Lp.go (w64 (s12 + 1)))))
  else
    (some (Lp.done (Fl.nxt ())))

noncomputable def laws_eqTermSS_l1 (a1 : (List (List Term))) (a2 : (List (List Term))) : Int → Option (Fl Bool Unit) := loop (laws_eqTermSS_l1b a1 a2)

noncomputable def laws_eqTermSS (a1 : (List (List Term))) (a2 : (List (List Term))) : Option Bool :=
  if (a1.length : Int) != (a2.length : Int) then
    (some false)
  else
    ((laws_eqTermSS_l1 a1 a2 0).bind (Fl.go some fun v21 =>
    some true))

noncomputable def laws_eqPack (a1 : Pack) (a2 : Pack) : Option Bool :=
  if !(seq a1.Name a2.Name) then
    (some false)
  else
    ((laws_eqVersion a1.Version a2.Version).bind fun x4 =>
    if !x4 then
      (some false)
    else
      (if a1.Size != a2.Size then
        (some false)
      else
        ((laws_eqStringS a1.Provides a2.Provides).bind fun x8 =>
        if !x8 then
          (some false)
        else
          ((laws_eqTermSS a1.Needs a2.Needs).bind fun x11 =>
          if !x11 then
            (some false)
          else
            ((laws_eqTermS a1.Bars a2.Bars).bind fun x14 =>
            if !x14 then
              (some false)
            else
              (some true))))))

noncomputable def laws_eqPackS_l1b (a1 : (List Pack)) (a2 : (List Pack)) (s12 : Int) : Option (Lp Int (Fl Bool Unit)) :=
  if decide (s12 < (a1.length : Int)) then
    ((idx a1 s12).bind fun x14 =>
    (idx a2 s12).bind fun x16 =>
    (laws_eqPack x14 x16).bind fun x18 =>
    if !x18 then
      (some (Lp.done (Fl.ret false)))
    else
      (some (Lp.go (w64 (s12 + 1)))))
  else
    (some (Lp.done (Fl.nxt ())))

noncomputable def laws_eqPackS_l1 (a1 : (List Pack)) (a2 : (List Pack)) : Int → Option (Fl Bool Unit) := loop (laws_eqPackS_l1b a1 a2)

noncomputable def laws_eqPackS (a1 : (List Pack)) (a2 : (List Pack)) : Option Bool :=
  if (a1.length : Int) != (a2.length : Int) then
    (some false)
  else
    ((laws_eqPackS_l1 a1 a2 0).bind (Fl.go some fun v21 =>
    some true))

noncomputable def laws_eqByteS_l1b (a1 : (List Int)) (a2 : (List Int)) (s10 : Int) : Option (Lp Int (Fl Bool Unit)) :=
  if decide (s10 < (a1.length : Int)) then
    ((idx a1 s10).bind fun x12 =>
    (idx a2 s10).bind fun x14 =>
    if x12 != x14 then
      (some (Lp.done (Fl.ret false)))
    else
      (some (Lp.go (w64 (s10 + 1)))))
  else
    (some (Lp.done (Fl.nxt ())))

noncomputable def laws_eqByteS_l1 (a1 : (List Int)) (a2 : (List Int)) : Int → Option (Fl Bool Unit) := loop (laws_eqByteS_l1b a1 a2)

noncomputable def laws_eqByteS (a1 : (List Int)) (a2 : (List Int)) : Option Bool :=
  if (a1.length : Int) != (a2.length : Int) then
    (some false)
  else
    ((laws_eqByteS_l1 a1 a2 0).bind (Fl.go some fun v17 =>
    some true))

noncomputable def laws_eqFile (a1 : File) (a2 : File) : Option Bool :=
  if !(seq a1.Path a2.Path) then
    (some false)
  else
    ((laws_eqByteS a1.Data a2.Data).bind fun x4 =>
    if !x4 then
      (some false)
    else
      (some true))

noncomputable def laws_eqFileS_l1b (a1 : (List File)) (a2 : (List File)) (s12 : Int) : Option (Lp Int (Fl Bool Unit)) :=
  if decide (s12 < (a1.length : Int)) then
    ((idx a1 s12).bind fun x14 =>
    (idx a2 s12).bind fun x16 =>
    (laws_eqFile x14 x16).bind fun x18 =>
    if !x18 then
      (some (Lp.done (Fl.ret false)))
    else
      (some (Lp.go (w64 (s12 + 1)))))
  else
    (some (Lp.done (Fl.nxt ())))

noncomputable def laws_eqFileS_l1 (a1 : (List File)) (a2 : (List File)) : Int → Option (Fl Bool Unit) := loop (laws_eqFileS_l1b a1 a2)

noncomputable def laws_eqFileS (a1 : (List File)) (a2 : (List File)) : Option Bool :=
  if (a1.length : Int) != (a2.length : Int) then
    (some false)
  else
    ((laws_eqFileS_l1 a1 a2 0).bind (Fl.go some fun v21 =>
    some true))

noncomputable def laws_eqDisk (a1 : Disk) (a2 : Disk) : Option Bool :=
  (laws_eqFileS a1.Files a2.Files).bind fun x3 =>
  if !x3 then
    (some false)
  else
    (if a1.Budget != a2.Budget then
      (some false)
    else
      (if a1.Writes != a2.Writes then
        (some false)
      else
        (if a1.Stop != a2.Stop then
          (some false)
        else
          (if !(a1.Down == a2.Down) then
            (some false)
          else
            (some true)))))

noncomputable def laws_eqSystem (a1 : System) (a2 : System) : Option Bool :=
  (laws_eqPackS a1.Catalog a2.Catalog).bind fun x3 =>
  if !x3 then
    (some false)
  else
    ((laws_eqDisk a1.Disk a2.Disk).bind fun x6 =>
    if !x6 then
      (some false)
    else
      (some true))

noncomputable def laws_FnExactSystemFault (a1 : System) : Option Bool :=
  (laws_szSystem a1 1048576).bind fun x2 =>
  if decide (x2 < 0) then
    (some true)
  else
    ((laws_toSystem a1).bind fun x5 =>
    (spec_SystemFault x5).bind fun x7 =>
    (laws_toSystem a1).bind fun x9 =>
    (impl_SystemFault x9).bind fun x11 =>
    if x11 != x7 then
      (some false)
    else
      ((laws_toSystem a1).bind fun x14 =>
      (laws_eqSystem x9 x14).bind fun x16 =>
      if !x16 then
        (some false)
      else
        (some true)))

end Go.Told

import Derived.Test.YtedpgkmkdhlcaaaIm38
set_option linter.unusedVariables false
set_option maxRecDepth 4000
namespace Go.Told
open Go Go.Im

structure File where
  Path : ByteArray
  Data : (List Int)
  deriving DecidableEq

def File.enc (o : Bool) (x : File) : List D := [.sc (.string x.Path), .s o 1 x.Data.length (x.Data.map eU8)]

theorem File.ro (o : Bool) (x : File) : D.ro.roC (File.enc o x) = File.enc false x := by
  simp only [File.enc, D.ro.roC, D.ro, roE_map (enc := eU8) (enc' := eU8) (fun _ => rfl)]

theorem File.fl (x : File) : flatC (File.enc true x) := (flatK flat_sc (flatK (flat_s (flatM (fun _ => (flatK flat_sc flatN)) _)) flatN))

structure Disk where
  Files : (List File)
  Budget : Int
  Writes : Int
  Stop : Int
  Down : Bool
  deriving DecidableEq

def Disk.enc (o : Bool) (x : Disk) : List D := [.s o 2 x.Files.length (x.Files.map (File.enc o)), .sc (.int .i64 x.Budget), .sc (.int .i64 x.Writes), .sc (.int .i64 x.Stop), .sc (.bool x.Down)]

theorem Disk.ro (o : Bool) (x : Disk) : D.ro.roC (Disk.enc o x) = Disk.enc false x := by
  simp only [Disk.enc, D.ro.roC, D.ro, roE_map (enc := (File.enc o)) (enc' := (File.enc false)) (File.ro o)]

theorem Disk.fl (x : Disk) : flatC (Disk.enc true x) := (flatK (flat_s (flatM (fun _ => (File.fl _)) _)) (flatK flat_sc (flatK flat_sc (flatK flat_sc (flatK flat_sc flatN)))))

structure DiskResult where
  Code : Int
  Disk : Disk
  deriving DecidableEq

def DiskResult.enc (o : Bool) (x : DiskResult) : List D := [.sc (.int .i64 x.Code), .s o 2 x.Disk.Files.length (x.Disk.Files.map (File.enc o)), .sc (.int .i64 x.Disk.Budget), .sc (.int .i64 x.Disk.Writes), .sc (.int .i64 x.Disk.Stop), .sc (.bool x.Disk.Down)]

theorem DiskResult.ro (o : Bool) (x : DiskResult) : D.ro.roC (DiskResult.enc o x) = DiskResult.enc false x := by
  simp only [DiskResult.enc, D.ro.roC, D.ro, roE_map (enc := (File.enc o)) (enc' := (File.enc false)) (File.ro o)]

theorem DiskResult.fl (x : DiskResult) : flatC (DiskResult.enc true x) := (flatK flat_sc (flatK (flat_s (flatM (fun _ => (File.fl _)) _)) (flatK flat_sc (flatK flat_sc (flatK flat_sc (flatK flat_sc flatN))))))

noncomputable def spec_l1In (a1 : Int) (a2 : Int) (a3 : Int) : Option Bool :=
  if decide (a1 ≥ a2) then
    (some (decide (a1 ≤ a3)))
  else
    (some false)

noncomputable def spec_EmptyDisk (a1 : Int) : Option DiskResult :=
  (spec_l1In a1 0 20000).bind fun x2 =>
  if !x2 then
    (some ({ Code := 3, Disk := ({ Files := ([] : List File), Budget := 0, Writes := 0, Stop := 0, Down := false } : Disk) } : DiskResult))
  else
    (some ({ Code := 0, Disk := ({ Files := ([] : List File), Budget := a1, Writes := 0, Stop := (-1), Down := false } : Disk) } : DiskResult))

noncomputable def impl_within (a1 : Int) (a2 : Int) (a3 : Int) : Option Bool :=
  if decide (a2 ≤ a1) then
    (some (decide (a1 ≤ a3)))
  else
    (some false)

noncomputable def impl_EmptyDisk (a1 : Int) : Option DiskResult :=
  (impl_within a1 0 20000).bind fun x2 =>
  if !x2 then
    (some ({ Code := 3, Disk := ({ Files := ([] : List File), Budget := 0, Writes := 0, Stop := 0, Down := false } : Disk) } : DiskResult))
  else
    (some ({ Code := 0, Disk := ({ Files := ([] : List File), Budget := a1, Writes := 0, Stop := (-1), Down := false } : Disk) } : DiskResult))

noncomputable def laws_eqByteS_l1b (a1 : (List Int)) (a2 : (List Int)) (s10 : Int) : Option (Lp Int (Fl Bool Unit)) :=
  if decide (s10 < (a1.length : Int)) then
    ((idx a1 s10).bind fun x12 =>
    (idx a2 s10).bind fun x14 =>
    if x12 != x14 then
      (some (Lp.done (Fl.ret false)))
    else
      (some (Lp.go (w64 (s10 + 1)))))
  else
    (some (Lp.done (Fl.nxt ())))

noncomputable def laws_eqByteS_l1 (a1 : (List Int)) (a2 : (List Int)) : Int → Option (Fl Bool Unit) := loop (laws_eqByteS_l1b a1 a2)

noncomputable def laws_eqByteS (a1 : (List Int)) (a2 : (List Int)) : Option Bool :=
  if (a1.length : Int) != (a2.length : Int) then
    (some false)
  else
    ((laws_eqByteS_l1 a1 a2 0).bind (Fl.go some fun v17 =>
    some true))

noncomputable def laws_eqFile (a1 : File) (a2 : File) : Option Bool :=
  if !(seq a1.Path a2.Path) then
    (some false)
  else
    ((laws_eqByteS a1.Data a2.Data).bind fun x4 =>
    if !x4 then
      (some false)
    else
      (some true))

noncomputable def laws_eqFileS_l1b (a1 : (List File)) (a2 : (List File)) (s12 : Int) : Option (Lp Int (Fl Bool Unit)) :=
  if decide (s12 < (a1.length : Int)) then
    ((idx a1 s12).bind fun x14 =>
    (idx a2 s12).bind fun x16 =>
    (laws_eqFile x14 x16).bind fun x18 =>
    if !x18 then
      (some (Lp.done (Fl.ret false)))
    else
      (some (Lp.go (w64 (s12 + 1)))))
  else
    (some (Lp.done (Fl.nxt ())))

noncomputable def laws_eqFileS_l1 (a1 : (List File)) (a2 : (List File)) : Int → Option (Fl Bool Unit) := loop (laws_eqFileS_l1b a1 a2)

noncomputable def laws_eqFileS (a1 : (List File)) (a2 : (List File)) : Option Bool :=
  if (a1.length : Int) != (a2.length : Int) then
    (some false)
  else
    ((laws_eqFileS_l1 a1 a2 0).bind (Fl.go some fun v21 =>
    some true))

noncomputable def laws_eqDisk (a1 : Disk) (a2 : Disk) : Option Bool :=
  (laws_eqFileS a1.Files a2.Files).bind fun x3 =>
  if !x3 then
    (some false)
  else
    (if a1.Budget != a2.Budget then
      (some false)
    else
      (if a1.Writes != a2.Writes then
        (some false)
      else
        (if a1.Stop != a2.Stop then
          (some false)
        else
          (if !(a1.Down == a2.Down) then
            (some false)
          else
            (some true)))))

noncomputable def laws_eqDiskResult (a1 : DiskResult) (a2 : DiskResult) : Option Bool :=
  if a1.Code != a2.Code then
    (some false)
  else
    ((laws_eqDisk a1.Disk a2.Disk).bind fun x4 =>
    if !x4 then
      (some false)
    else
      (some true))

noncomputable def laws_markText_l1b  (s6 : (Int × ByteArray)) : Option (Lp (Int × ByteArray) ByteArray) :=
  if decide (s6.1 > 0) then
    ((cat (b2s [IntKind.u8.wrap (w64 (48 + (s6.1.tmod 10)))]) s6.2).bind fun x8 =>
    some (Lp.go (w64 (s6.1.tdiv 10), x8)))
  else
    (some (Lp.done s6.2))

noncomputable def laws_markText_l1  : (Int × ByteArray) → Option ByteArray := loop laws_markText_l1b

noncomputable def laws_markText (a1 : Int) : Option ByteArray :=
  if decide (a1 ≤ 0) then
    (some (bs [109, 48]))
  else
    ((laws_markText_l1 (a1, bs [])).bind fun v10 =>
    (cat (bs [109]) v10).bind fun x11 =>
    some x11)

noncomputable def laws_markByteSr_l1b  (s6 : ((List Int) × Int × Int)) : Option (Lp ((List Int) × Int × Int) ((List Int) × Int)) :=
  if decide (s6.2.2 < (s6.1.length : Int)) then
    ((idx s6.1 s6.2.2).bind fun x8 =>
    some (Lp.go (s6.1.set s6.2.2.toNat (IntKind.u8.wrap (s6.2.1)), w64 (s6.2.1 + 1), w64 (s6.2.2 + 1))))
  else
    (some (Lp.done (s6.1, s6.2.1)))

noncomputable def laws_markByteSr_l1  : ((List Int) × Int × Int) → Option ((List Int) × Int) := loop laws_markByteSr_l1b

noncomputable def laws_markByteSr (a1 : (List Int)) (a2 : Int) : Option (Int × (List Int)) :=
  (laws_markByteSr_l1 (a1, a2, 0)).bind fun v10 =>
  some (v10.2, v10.1)

noncomputable def laws_markFileSr_l1b  (s14 : ((List File) × Int × Int)) : Option (Lp ((List File) × Int × Int) ((List File) × Int)) :=
  if decide (s14.2.2 < (s14.1.length : Int)) then
    ((laws_markText s14.2.1).bind fun x16 =>
    (idx s14.1 s14.2.2).bind fun x18 =>
    (idx (s14.1.set s14.2.2.toNat ({ Path := x16, Data := x18.Data } : File)) s14.2.2).bind fun x20 =>
    (laws_markByteSr x20.Data (w64 (s14.2.1 + 1))).bind fun x22 =>
    (same x22.2 x20.Data).bind fun u24 =>
    some (Lp.go ((s14.1.set s14.2.2.toNat ({ Path := x16, Data := x18.Data } : File)).set s14.2.2.toNat ({ Path := x20.Path, Data := x22.2 } : File), x22.1, w64 (s14.2.2 + 1))))
  else
    (some (Lp.done (s14.1, s14.2.1)))

noncomputable def laws_markFileSr_l1  : ((List File) × Int × Int) → Option ((List File) × Int) := loop laws_markFileSr_l1b

noncomputable def laws_markFileSr (a1 : (List File)) (a2 : Int) : Option (Int × (List File)) :=
  (laws_markFileSr_l1 (a1, a2, 0)).bind fun v26 =>
  some (v26.2, v26.1)

noncomputable def laws_markDiskg (a1 : Disk) (a2 : Int) : Option (Int × (List File)) :=
  (laws_markFileSr a1.Files a2).bind fun x3 =>
  (same x3.2 a1.Files).bind fun u5 =>
  some (x3.1, x3.2)

noncomputable def laws_markDiskResultg (a1 : DiskResult) (a2 : Int) : Option (Int × (List File)) :=
  (laws_markDiskg a1.Disk a2).bind fun x3 =>
  (same x3.2 a1.Disk.Files).bind fun u5 =>
  some (x3.1, x3.2)

noncomputable def laws_heldByteS_l1b (a1 : (List Int)) (s7 : (Int × Int)) : Option (Lp (Int × Int) (Fl Int Int)) :=
  if decide (s7.2 < (a1.length : Int)) then
    ((idx a1 s7.2).bind fun x9 =>
    if x9 != (IntKind.u8.wrap (s7.1)) then
      (some (Lp.done (Fl.ret (-1))))
    else
      (some (Lp.go (w64 (s7.1 + 1), w64 (s7.2 + 1)))))
  else
    (some (Lp.done (Fl.nxt s7.1)))

noncomputable def laws_heldByteS_l1 (a1 : (List Int)) : (Int × Int) → Option (Fl Int Int) := loop (laws_heldByteS_l1b a1)

noncomputable def laws_heldByteS (a1 : (List Int)) (a2 : Int) : Option Int :=
  (laws_heldByteS_l1 a1 (a2, 0)).bind (Fl.go some fun v12 =>
  some v12)

noncomputable def laws_heldFileS_l1b (a1 : (List File)) (s14 : (Int × Int)) : Option (Lp (Int × Int) (Fl Int Int)) :=
  if decide (s14.2 < (a1.length : Int)) then
    ((idx a1 s14.2).bind fun x16 =>
    (laws_markText s14.1).bind fun x18 =>
    if !(seq x16.Path x18) then
      (some (Lp.done (Fl.ret (-1))))
    else
      ((idx a1 s14.2).bind fun x21 =>
      (laws_heldByteS x21.Data (w64 (s14.1 + 1))).bind fun x23 =>
      if decide (x23 < 0) then
        (some (Lp.done (Fl.ret (-1))))
      else
        (some (Lp.go (x23, w64 (s14.2 + 1))))))
  else
    (some (Lp.done (Fl.nxt s14.1)))

noncomputable def laws_heldFileS_l1 (a1 : (List File)) : (Int × Int) → Option (Fl Int Int) := loop (laws_heldFileS_l1b a1)

noncomputable def laws_heldFileS (a1 : (List File)) (a2 : Int) : Option Int :=
  (laws_heldFileS_l1 a1 (a2, 0)).bind (Fl.go some fun v26 =>
  some v26)

noncomputable def laws_heldDisk (a1 : Disk) (a2 : Int) : Option Int :=
  (laws_heldFileS a1.Files a2).bind fun x3 =>
  if decide (x3 < 0) then
    (some (-1))
  else
    (some x3)

noncomputable def laws_heldDiskResult (a1 : DiskResult) (a2 : Int) : Option Int :=
  (laws_heldDisk a1.Disk a2).bind fun x3 =>
  if decide (x3 < 0) then
    (some (-1))
  else
    (some x3)

noncomputable def laws_FnExactEmptyDisk (a1 : Int) : Option Bool :=
  (spec_EmptyDisk a1).bind fun x2 =>
  (impl_EmptyDisk a1).bind fun x4 =>
  (laws_eqDiskResult x4 x2).bind fun x6 =>
  if !x6 then
    (some false)
  else
    ((laws_markDiskResultg x4 1).bind fun x9 =>
    (same x9.2 x4.Disk.Files).bind fun u11 =>
    (laws_heldDiskResult ({ Code := x4.Code, Disk := ({ Files := x9.2, Budget := x4.Disk.Budget, Writes := x4.Disk.Writes, Stop := x4.Disk.Stop, Down := x4.Disk.Down } : Disk) } : DiskResult) 1).bind fun x13 =>
    if decide (x13 < 0) then
      (some false)
    else
      (if x13 != x9.1 then
        (some false)
      else
        ((impl_EmptyDisk a1).bind fun x17 =>
        (laws_eqDiskResult x17 x2).bind fun x19 =>
        if !x19 then
          (some false)
        else
          ((laws_heldDiskResult ({ Code := x4.Code, Disk := ({ Files := x9.2, Budget := x4.Disk.Budget, Writes := x4.Disk.Writes, Stop := x4.Disk.Stop, Down := x4.Disk.Down } : Disk) } : DiskResult) 1).bind fun x22 =>
          if decide (x22 < 0) then
            (some false)
          else
            (if x22 != x9.1 then
              (some false)
            else
              (some true))))))

end Go.Told

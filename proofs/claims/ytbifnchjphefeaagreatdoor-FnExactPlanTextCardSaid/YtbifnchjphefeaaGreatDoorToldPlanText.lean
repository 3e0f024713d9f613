import Derived.Test.YtbifnchjphefeaaGreatDoorImF
set_option linter.unusedVariables false
set_option maxRecDepth 4000
namespace Go.Told
open Go Go.Im

structure Version where
  A : Int
  B : Int
  C : Int
  deriving DecidableEq

def Version.enc (x : Version) : List D := [.sc (.int .i64 x.A), .sc (.int .i64 x.B), .sc (.int .i64 x.C)]

theorem Version.fl (x : Version) : flatC (Version.enc x) := (flatK flat_sc (flatK flat_sc (flatK flat_sc flatN)))

structure Term where
  Name : ByteArray
  Low : Version
  High : Version
  deriving DecidableEq

def Term.enc (x : Term) : List D := [.sc (.string x.Name), .sc (.int .i64 x.Low.A), .sc (.int .i64 x.Low.B), .sc (.int .i64 x.Low.C), .sc (.int .i64 x.High.A), .sc (.int .i64 x.High.B), .sc (.int .i64 x.High.C)]

theorem Term.fl (x : Term) : flatC (Term.enc x) := (flatK flat_sc (flatK flat_sc (flatK flat_sc (flatK flat_sc (flatK flat_sc (flatK flat_sc (flatK flat_sc flatN)))))))

structure Pack where
  Name : ByteArray
  Version : Version
  Size : Int
  Provides : (List ByteArray)
  Needs : (List (List Term))
  Bars : (List Term)
  deriving DecidableEq

def Pack.enc (o : Bool) (x : Pack) : List D := [.sc (.string x.Name), .sc (.int .i64 x.Version.A), .sc (.int .i64 x.Version.B), .sc (.int .i64 x.Version.C), .sc (.int .i64 x.Size), .s o 1 x.Provides.length (x.Provides.map eStr), .s o 1 x.Needs.length (x.Needs.map (eSl o 7 Term.enc)), .s o 7 x.Bars.length (x.Bars.map Term.enc)]

theorem Pack.ro (o : Bool) (x : Pack) : D.ro.roC (Pack.enc o x) = Pack.enc false x := by
  simp only [Pack.enc, D.ro.roC, D.ro, roE_map (enc := eStr) (enc' := eStr) (fun _ => rfl), roE_map (enc := (eSl o 7 Term.enc)) (enc' := (eSl false 7 Term.enc)) (eSl_ro (fun _ => rfl)), roE_map (enc := Term.enc) (enc' := Term.enc) (fun _ => rfl)]

theorem Pack.fl (x : Pack) : flatC (Pack.enc true x) := (flatK flat_sc (flatK flat_sc (flatK flat_sc (flatK flat_sc (flatK flat_sc (flatK (flat_s (flatM (fun _ => (flatK flat_sc flatN)) _)) (flatK (flat_s (flatM (fun _ => (flatK (flat_s (flatM (fun _ => (Term.fl _)) _)) flatN)) _)) (flatK (flat_s (flatM (fun _ => (Term.fl _)) _)) flatN))))))))

noncomputable def laws_szStringS_l1b (a1 : (List ByteArray)) (s8 : (Int × Int)) : Option (Lp (Int × Int) (Fl Int Int)) :=
  if decide (s8.2 < (a1.length : Int)) then
    ((idx a1 s8.2).bind fun x10 =>
    if decide ((w64 (s8.1 - (x10.size : Int))) < 0) then
      (some (Lp.done (Fl.ret (-1))))
    else
      (some (Lp.go (w64 (s8.1 - (x10.size : Int)), w64 (s8.2 + 1)))))
  else
    (some (Lp.done (Fl.nxt s8.1)))

noncomputable def laws_szStringS_l1 (a1 : (List ByteArray)) : (Int × Int) → Option (Fl Int Int) := loop (laws_szStringS_l1b a1)

noncomputable def laws_szStringS (a1 : (List ByteArray)) (a2 : Int) : Option Int :=
  if decide ((w64 (a2 - (a1.length : Int))) < 0) then
    (some (-1))
  else
    ((laws_szStringS_l1 a1 (w64 (a2 - (a1.length : Int)), 0)).bind (Fl.go some fun v13 =>
    some v13))

noncomputable def laws_szTerm (a1 : Term) (a2 : Int) : Option Int :=
  if decide ((w64 (a2 - (a1.Name.size : Int))) < 0) then
    (some (-1))
  else
    (some (w64 (a2 - (a1.Name.size : Int))))

noncomputable def laws_szTermS_l1b (a1 : (List Term)) (s10 : (Int × Int)) : Option (Lp (Int × Int) (Fl Int Int)) :=
  if decide (s10.2 < (a1.length : Int)) then
    ((idx a1 s10.2).bind fun x12 =>
    (laws_szTerm x12 s10.1).bind fun x14 =>
    if decide (x14 < 0) then
      (some (Lp.done (Fl.ret (-1))))
    else
      (some (Lp.go (x14, w64 (s10.2 + 1)))))
  else
    (some (Lp.done (Fl.nxt s10.1)))

noncomputable def laws_szTermS_l1 (a1 : (List Term)) : (Int × Int) → Option (Fl Int Int) := loop (laws_szTermS_l1b a1)

noncomputable def laws_szTermS (a1 : (List Term)) (a2 : Int) : Option Int :=
  if decide ((w64 (a2 - (a1.length : Int))) < 0) then
    (some (-1))
  else
    ((laws_szTermS_l1 a1 (w64 (a2 - (a1.length : Int)), 0)).bind (Fl.go some fun v17 =>
    some v17))

noncomputable def laws_szTermSS_l1b (a1 : (List (List Term))) (s10 : (Int × Int)) : Option (Lp (Int × Int) (Fl Int Int)) :=
  if decide (s10.2 < (a1.length : Int)) then
    ((idx a1 s10.2).bind fun x12 =>
    (laws_szTermS x12 s10.1).bind fun x14 =>
    if decide (x14 < 0) then
      (some (Lp.done (Fl.ret (-1))))
    else
      (some (Lp.go (x14, w64 (s10.2 + 1)))))
  else
    (some (Lp.done (Fl.nxt s10.1)))

noncomputable def laws_szTermSS_l1 (a1 : (List (List Term))) : (Int × Int) → Option (Fl Int Int) := loop (laws_szTermSS_l1b a1)

noncomputable def laws_szTermSS (a1 : (List (List Term))) (a2 : Int) : Option Int :=
  if decide ((w64 (a2 - (a1.length : Int))) < 0) then
    (some (-1))
  else
    ((laws_szTermSS_l1 a1 (w64 (a2 - (a1.length : Int)), 0)).bind (Fl.go some fun v17 =>
    some v17))

noncomputable def laws_szPack (a1 : Pack) (a2 : Int) : Option Int :=
  if decide ((w64 (a2 - (a1.Name.size : Int))) < 0) then
    (some (-1))
  else
    ((laws_szStringS a1.Provides (w64 (a2 - (a1.Name.size : Int)))).bind fun x4 =>
    if decide (x4 < 0) then
      (some (-1))
    else
      ((laws_szTermSS a1.Needs x4).bind fun x7 =>
      if decide (x7 < 0) then
        (some (-1))
      else
        ((laws_szTermS a1.Bars x7).bind fun x10 =>
        if decide (x10 < 0) then
          (some (-1))
        else
          (some x10))))

noncomputable def laws_szPackS_l1b (a1 : (List Pack)) (s10 : (Int × Int)) : Option (Lp (Int × Int) (Fl Int Int)) :=
  if decide (s10.2 < (a1.length : Int)) then
    ((idx a1 s10.2).bind fun x12 =>
    (laws_szPack x12 s10.1).bind fun x14 =>
    if decide (x14 < 0) then
      (some (Lp.done (Fl.ret (-1))))
    else
      (some (Lp.go (x14, w64 (s10.2 + 1)))))
  else
    (some (Lp.done (Fl.nxt s10.1)))

noncomputable def laws_szPackS_l1 (a1 : (List Pack)) : (Int × Int) → Option (Fl Int Int) := loop (laws_szPackS_l1b a1)

noncomputable def laws_szPackS (a1 : (List Pack)) (a2 : Int) : Option Int :=
  if decide ((w64 (a2 - (a1.length : Int))) < 0) then
    (some (-1))
  else
    ((laws_szPackS_l1 a1 (w64 (a2 - (a1.length : Int)), 0)).bind (Fl.go some fun v17 =>
    some v17))

noncomputable def laws_szInt64S (a1 : (List Int)) (a2 : Int) : Option Int :=
  if decide ((w64 (a2 - (a1.length : Int))) < 0) then
    (some (-1))
  else
    (some (w64 (a2 - (a1.length : Int))))

noncomputable def laws_szInt64SS_l1b (a1 : (List (List Int))) (s10 : (Int × Int)) : Option (Lp (Int × Int) (Fl Int Int)) :=
  if decide (s10.2 < (a1.length : Int)) then
    ((idx a1 s10.2).bind fun x12 =>
    (laws_szInt64S x12 s10.1).bind fun x14 =>
    if decide (x14 < 0) then
      (some (Lp.done (Fl.ret (-1))))
    else
      (some (Lp.go (x14, w64 (s10.2 + 1)))))
  else
    (some (Lp.done (Fl.nxt s10.1)))

noncomputable def laws_szInt64SS_l1 (a1 : (List (List Int))) : (Int × Int) → Option (Fl Int Int) := loop (laws_szInt64SS_l1b a1)

noncomputable def laws_szInt64SS (a1 : (List (List Int))) (a2 : Int) : Option Int :=
  if decide ((w64 (a2 - (a1.length : Int))) < 0) then
    (some (-1))
  else
    ((laws_szInt64SS_l1 a1 (w64 (a2 - (a1.length : Int)), 0)).bind (Fl.go some fun v17 =>
    some v17))

noncomputable def laws_toVersion (a1 : Version) : Option Version :=
  some a1

noncomputable def laws_toStringS_l1b (a1 : (List ByteArray)) (s9 : ((List ByteArray) × Int)) : Option (Lp ((List ByteArray) × Int) (List ByteArray)) :=
  if decide (s9.2 < (a1.length : Int)) then
    ((idx a1 s9.2).bind fun x11 =>
    (idx s9.1 s9.2).bind fun x13 =>
    some (Lp.go (s9.1.set s9.2.toNat x11, w64 (s9.2 + 1))))
  else
    (some (Lp.done s9.1))

noncomputable def laws_toStringS_l1 (a1 : (List ByteArray)) : ((List ByteArray) × Int) → Option (List ByteArray) := loop (laws_toStringS_l1b a1)

noncomputable def laws_toStringS (a1 : (List ByteArray)) : Option (List ByteArray) :=
  (mk 16 (a1.length : Int) ByteArray.empty).bind fun x2 =>
  (laws_toStringS_l1 a1 (x2, 0)).bind fun v15 =>
  some v15

noncomputable def laws_toTerm (a1 : Term) : Option Term :=
  (laws_toVersion a1.Low).bind fun x2 =>
  (laws_toVersion a1.High).bind fun x4 =>
  some ({ Name := a1.Name, Low := x2, High := x4 } : Term)

noncomputable def laws_toTermS_l1b (a1 : (List Term)) (s11 : ((List Term) × Int)) : Option (Lp ((List Term) × Int) (List Term)) :=
  if decide (s11.2 < (a1.length : Int)) then
    ((idx a1 s11.2).bind fun x13 =>
    (laws_toTerm x13).bind fun x15 =>
    (idx s11.1 s11.2).bind fun x17 =>
    some (Lp.go (s11.1.set s11.2.toNat x15, w64 (s11.2 + 1))))
  else
    (some (Lp.done s11.1))

noncomputable def laws_toTermS_l1 (a1 : (List Term)) : ((List Term) × Int) → Option (List Term) := loop (laws_toTermS_l1b a1)

noncomputable def laws_toTermS (a1 : (List Term)) : Option (List Term) :=
  (mk 64 (a1.length : Int) ({ Name := ByteArray.empty, Low := ({ A := 0, B := 0, C := 0 } : Version), High := ({ A := 0, B := 0, C := 0 } : Version) } : Term)).bind fun x2 =>
  (laws_toTermS_l1 a1 (x2, 0)).bind fun v19 =>
  some v19

noncomputable def laws_toTermSS_l1b (a1 : (List (List Term))) (s11 : ((List (List Term)) × Int)) : Option (Lp ((List (List Term)) × Int) (List (List Term))) :=
  if decide (s11.2 < (a1.length : Int)) then
    ((idx a1 s11.2).bind fun x13 =>
    (laws_toTermS x13).bind fun x15 =>
    (idx s11.1 s11.2).bind fun x17 =>
    some (Lp.go (s11.1.set s11.2.toNat x15, w64 (s11.2 + 1))))
  else
    (some (Lp.done s11.1))

noncomputable def laws_toTermSS_l1 (a1 : (List (List Term))) : ((List (List Term)) × Int) → Option (List (List Term)) := loop (laws_toTermSS_l1b a1)

noncomputable def laws_toTermSS (a1 : (List (List Term))) : Option (List (List Term)) :=
  (mk 24 (a1.length : Int) ([] : List Term)).bind fun x2 =>
  (laws_toTermSS_l1 a1 (x2, 0)).bind fun v19 =>
  some v19

noncomputable def laws_toPack (a1 : Pack) : Option Pack :=
  (laws_toVersion a1.Version).bind fun x2 =>
  (laws_toStringS a1.Provides).bind fun x4 =>
  (laws_toTermSS a1.Needs).bind fun x6 =>
  (laws_toTermS a1.Bars).bind fun x8 =>
  some ({ Name := a1.Name, Version := x2, Size := a1.Size, Provides := x4, Needs := x6, Bars := x8 } : Pack)

noncomputable def laws_toPackS_l1b (a1 : (List Pack)) (s11 : ((List Pack) × Int)) : Option (Lp ((List Pack) × Int) (List Pack)) :=
  if decide (s11.2 < (a1.length : Int)) then
    ((idx a1 s11.2).bind fun x13 =>
    (laws_toPack x13).bind fun x15 =>
    (idx s11.1 s11.2).bind fun x17 =>
    some (Lp.go (s11.1.set s11.2.toNat x15, w64 (s11.2 + 1))))
  else
    (some (Lp.done s11.1))

noncomputable def laws_toPackS_l1 (a1 : (List Pack)) : ((List Pack) × Int) → Option (List Pack) := loop (laws_toPackS_l1b a1)

noncomputable def laws_toPackS (a1 : (List Pack)) : Option (List Pack) :=
  (mk 120 (a1.length : Int) ({ Name := ByteArray.empty, Version := ({ A := 0, B := 0, C := 0 } : Version), Size := 0, Provides := ([] : List ByteArray), Needs := ([] : List (List Term)), Bars := ([] : List Term) } : Pack)).bind fun x2 =>
  (laws_toPackS_l1 a1 (x2, 0)).bind fun v19 =>
  some v19

noncomputable def laws_toInt64S_l1b (a1 : (List Int)) (s9 : ((List Int) × Int)) : Option (Lp ((List Int) × Int) (List Int)) :=
  if decide (s9.2 < (a1.length : Int)) then
    ((idx a1 s9.2).bind fun x11 =>
    (idx s9.1 s9.2).bind fun x13 =>
    some (Lp.go (s9.1.set s9.2.toNat x11, w64 (s9.2 + 1))))
  else
    (some (Lp.done s9.1))

noncomputable def laws_toInt64S_l1 (a1 : (List Int)) : ((List Int) × Int) → Option (List Int) := loop (laws_toInt64S_l1b a1)

noncomputable def laws_toInt64S (a1 : (List Int)) : Option (List Int) :=
  (mk 8 (a1.length : Int) 0).bind fun x2 =>
  (laws_toInt64S_l1 a1 (x2, 0)).bind fun v15 =>
  some v15

noncomputable def laws_toInt64SS_l1b (a1 : (List (List Int))) (s11 : ((List (List Int)) × Int)) : Option (Lp ((List (List Int)) × Int) (List (List Int))) :=
  if decide (s11.2 < (a1.length : Int)) then
    ((idx a1 s11.2).bind fun x13 =>
    (laws_toInt64S x13).bind fun x15 =>
    (idx s11.1 s11.2).bind fun x17 =>
    some (Lp.go (s11.1.set s11.2.toNat x15, w64 (s11.2 + 1))))
  else
    (some (Lp.done s11.1))

noncomputable def laws_toInt64SS_l1 (a1 : (List (List Int))) : ((List (List Int)) × Int) → Option (List (List Int)) := loop (laws_toInt64SS_l1b a1)

noncomputable def laws_toInt64SS (a1 : (List (List Int))) : Option (List (List Int)) :=
  (mk 24 (a1.length : Int) ([] : List Int)).bind fun x2 =>
  (laws_toInt64SS_l1 a1 (x2, 0)).bind fun v19 =>
  some v19

noncomputable def spec_l1Letter (a1 : Int) : Option Bool :=
  if decide (a1 ≥ 97) then
    (some (decide (a1 ≤ 122)))
  else
    (some false)

noncomputable def spec_l1Digit (a1 : Int) : Option Bool :=
  if decide (a1 ≥ 48) then
    (some (decide (a1 ≤ 57)))
  else
    (some false)

noncomputable def spec_l1Name (a1 : Int) : Option Bool :=
  (spec_l1Letter a1).bind fun x2 =>
  if x2 then
    (some true)
  else
    ((spec_l1Digit a1).bind fun x5 =>
    if x5 then
      (some true)
    else
      (some (a1 == 95)))

noncomputable def spec_NameFault_l1b (a1 : ByteArray) (s16 : Int) : Option (Lp Int (Fl Int Unit)) :=
  if decide (s16 < (a1.size : Int)) then
    ((bidx a1 s16).bind fun x18 =>
    (spec_l1Name x18).bind fun x20 =>
    if !x20 then
      (some (Lp.done (Fl.ret 5)))
    else
      (some (Lp.go (w64 (s16 + 1)))))
  else
    (some (Lp.done (Fl.nxt ())))

noncomputable def spec_NameFault_l1 (a1 : ByteArray) : Int → Option (Fl Int Unit) := loop (spec_NameFault_l1b a1)

noncomputable def spec_NameFault (a1 : ByteArray) : Option Int :=
  (if decide ((a1.size : Int) < 1) then
      (some true)
    else
      (if decide ((a1.size : Int) > 12) then
        (some true)
      else
        ((bidx a1 0).bind fun x4 =>
        (spec_l1Letter x4).bind fun x6 =>
        some (!x6)))).bind fun v8 =>
  if v8 then
    (some 5)
  else
    ((spec_NameFault_l1 a1 0).bind (Fl.go some fun v23 =>
    some 0))

noncomputable def spec_l1In (a1 : Int) (a2 : Int) (a3 : Int) : Option Bool :=
  if decide (a1 ≥ a2) then
    (some (decide (a1 ≤ a3)))
  else
    (some false)

noncomputable def spec_VersionFault (a1 : Version) : Option Int :=
  (spec_l1In a1.A 0 999).bind fun x2 =>
  (if !x2 then
      (some true)
    else
      ((spec_l1In a1.B 0 999).bind fun x5 =>
      if !x5 then
        (some true)
      else
        ((spec_l1In a1.C 0 999).bind fun x8 =>
        some (!x8)))).bind fun v10 =>
  if v10 then
    (some 3)
  else
    (some 0)

noncomputable def spec_l2Holds_l1b (a1 : (List ByteArray)) (a2 : ByteArray) (s7 : Int) : Option (Lp Int (Fl Bool Unit)) :=
  if decide (s7 < (a1.length : Int)) then
    ((idx a1 s7).bind fun x9 =>
    if seq x9 a2 then
      (some (Lp.done (Fl.ret true)))
    else
      (some (Lp.go (w64 (s7 + 1)))))
  else
    (some (Lp.done (Fl.nxt ())))

noncomputable def spec_l2Holds_l1 (a1 : (List ByteArray)) (a2 : ByteArray) : Int → Option (Fl Bool Unit) := loop (spec_l2Holds_l1b a1 a2)

noncomputable def spec_l2Holds (a1 : (List ByteArray)) (a2 : ByteArray) : Option Bool :=
  (spec_l2Holds_l1 a1 a2 0).bind (Fl.go some fun v12 =>
  some false)

noncomputable def spec_l1Top  : Option Version :=
  some ({ A := 1000, B := 0, C := 0 } : Version)

noncomputable def spec_l1Sign (a1 : Int) (a2 : Int) : Option Int :=
  if decide (a1 < a2) then
    (some (-1))
  else
    (if decide (a1 > a2) then
      (some 1)
    else
      (some 0))

noncomputable def spec_CompareVersions (a1 : Version) (a2 : Version) : Option Int :=
  (spec_l1Sign a1.A a2.A).bind fun x3 =>
  if x3 != 0 then
    (some x3)
  else
    ((spec_l1Sign a1.B a2.B).bind fun x6 =>
    if x6 != 0 then
      (some x6)
    else
      ((spec_l1Sign a1.C a2.C).bind fun x9 =>
      some x9))

noncomputable def spec_TermFault (a1 : Term) : Option Int :=
  (spec_NameFault a1.Name).bind fun x2 =>
  if x2 != 0 then
    (some x2)
  else
    ((spec_VersionFault a1.Low).bind fun x5 =>
    if x5 != 0 then
      (some x5)
    else
      ((spec_l1Top).bind fun x8 =>
      (if !(a1.High.A == x8.A && (a1.High.B == x8.B && (a1.High.C == x8.C && true))) then
          ((spec_VersionFault a1.High).bind fun x11 =>
          some (x11 != 0))
        else
          (some false)).bind fun v13 =>
      if v13 then
        (some 3)
      else
        ((spec_CompareVersions a1.Low a1.High).bind fun x15 =>
        if decide (x15 ≥ 0) then
          (some 1)
        else
          (some 0))))

noncomputable def spec_l2Terms_l1b (a1 : (List Term)) (s8 : Int) : Option (Lp Int (Fl Int Unit)) :=
  if decide (s8 < (a1.length : Int)) then
    ((idx a1 s8).bind fun x10 =>
    (spec_TermFault x10).bind fun x12 =>
    if x12 != 0 then
      (some (Lp.done (Fl.ret x12)))
    else
      (some (Lp.go (w64 (s8 + 1)))))
  else
    (some (Lp.done (Fl.nxt ())))

noncomputable def spec_l2Terms_l1 (a1 : (List Term)) : Int → Option (Fl Int Unit) := loop (spec_l2Terms_l1b a1)

noncomputable def spec_l2Terms (a1 : (List Term)) : Option Int :=
  (spec_l2Terms_l1 a1 0).bind (Fl.go some fun v15 =>
  some 0)

noncomputable def spec_PackFault_l3b (a1 : Pack) (s70 : Int) : Option (Lp Int (Fl Int Unit)) :=
  if decide (s70 < (a1.Needs.length : Int)) then
    ((idx a1.Needs s70).bind fun x72 =>
    if (x72.length : Int) == 0 then
      (some (Lp.done (Fl.ret 1)))
    else
      ((idx a1.Needs s70).bind fun x75 =>
      (spec_l2Terms x75).bind fun x77 =>
      if x77 != 0 then
        (some (Lp.done (Fl.ret x77)))
      else
        (some (Lp.go (w64 (s70 + 1))))))
  else
    (some (Lp.done (Fl.nxt ())))

noncomputable def spec_PackFault_l3 (a1 : Pack) : Int → Option (Fl Int Unit) := loop (spec_PackFault_l3b a1)

noncomputable def spec_PackFault_l2b (a1 : Pack) (s42 : Int) : Option (Lp Int (Fl Int Unit)) :=
  if decide (s42 < (a1.Provides.length : Int)) then
    ((idx a1.Provides s42).bind fun x44 =>
    (spec_NameFault x44).bind fun x46 =>
    if x46 != 0 then
      (some (Lp.done (Fl.ret x46)))
    else
      ((idx a1.Provides s42).bind fun x49 =>
      (if seq x49 a1.Name then
          (some true)
        else
          ((lsub a1.Provides 0 s42).bind fun x52 =>
          (idx a1.Provides s42).bind fun x54 =>
          (spec_l2Holds x52 x54).bind fun x56 =>
          some x56)).bind fun v58 =>
      if v58 then
        (some (Lp.done (Fl.ret 6)))
      else
        (some (Lp.go (w64 (s42 + 1))))))
  else
    (some (Lp.done (Fl.nxt ())))

noncomputable def spec_PackFault_l2 (a1 : Pack) : Int → Option (Fl Int Unit) := loop (spec_PackFault_l2b a1)

noncomputable def spec_PackFault_l1b (a1 : Pack) (s19 : Int) : Option (Lp Int (Fl Int Unit)) :=
  if decide (s19 < (a1.Needs.length : Int)) then
    ((idx a1.Needs s19).bind fun x21 =>
    if decide ((x21.length : Int) > 4) then
      (some (Lp.done (Fl.ret 2)))
    else
      (some (Lp.go (w64 (s19 + 1)))))
  else
    (some (Lp.done (Fl.nxt ())))

noncomputable def spec_PackFault_l1 (a1 : Pack) : Int → Option (Fl Int Unit) := loop (spec_PackFault_l1b a1)

noncomputable def spec_PackFault (a1 : Pack) : Option Int :=
  (spec_NameFault a1.Name).bind fun x2 =>
  if x2 != 0 then
    (some x2)
  else
    ((spec_VersionFault a1.Version).bind fun x5 =>
    if x5 != 0 then
      (some x5)
    else
      ((spec_l1In a1.Size 1 200).bind fun x8 =>
      if !x8 then
        (some 3)
      else
        ((if decide ((a1.Provides.length : Int) > 4) then
            (some true)
          else
            (if decide ((a1.Needs.length : Int) > 4) then
              (some true)
            else
              (some (decide ((a1.Bars.length : Int) > 4))))).bind fun v13 =>
        if v13 then
          (some 2)
        else
          ((spec_PackFault_l1 a1 0).bind (Fl.go some fun v24 =>
          (spec_PackFault_l2 a1 0).bind (Fl.go some fun v60 =>
          (spec_PackFault_l3 a1 0).bind (Fl.go some fun v80 =>
          (spec_l2Terms a1.Bars).bind fun x81 =>
          some x81)))))))

noncomputable def spec_l2Find_l1b (a1 : (List Pack)) (a2 : ByteArray) (a3 : Version) (s14 : Int) : Option (Lp Int (Fl Int Unit)) :=
  if decide (s14 < (a1.length : Int)) then
    ((idx a1 s14).bind fun x16 =>
    (if seq x16.Name a2 then
        ((idx a1 s14).bind fun x19 =>
        (spec_CompareVersions x19.Version a3).bind fun x21 =>
        some (x21 == 0))
      else
        (some false)).bind fun v23 =>
    if v23 then
      (some (Lp.done (Fl.ret s14)))
    else
      (some (Lp.go (w64 (s14 + 1)))))
  else
    (some (Lp.done (Fl.nxt ())))

noncomputable def spec_l2Find_l1 (a1 : (List Pack)) (a2 : ByteArray) (a3 : Version) : Int → Option (Fl Int Unit) := loop (spec_l2Find_l1b a1 a2 a3)

noncomputable def spec_l2Find (a1 : (List Pack)) (a2 : ByteArray) (a3 : Version) : Option Int :=
  (spec_l2Find_l1 a1 a2 a3 0).bind (Fl.go some fun v25 =>
  some (-1))

noncomputable def spec_CatalogFault_l1b (a1 : (List Pack)) (s18 : Int) : Option (Lp Int (Fl Int Unit)) :=
  if decide (s18 < (a1.length : Int)) then
    ((idx a1 s18).bind fun x20 =>
    (spec_PackFault x20).bind fun x22 =>
    if x22 != 0 then
      (some (Lp.done (Fl.ret x22)))
    else
      ((lsub a1 0 s18).bind fun x25 =>
      (idx a1 s18).bind fun x27 =>
      (idx a1 s18).bind fun x29 =>
      (spec_l2Find x25 x27.Name x29.Version).bind fun x31 =>
      if decide (x31 ≥ 0) then
        (some (Lp.done (Fl.ret 6)))
      else
        (some (Lp.go (w64 (s18 + 1))))))
  else
    (some (Lp.done (Fl.nxt ())))

noncomputable def spec_CatalogFault_l1 (a1 : (List Pack)) : Int → Option (Fl Int Unit) := loop (spec_CatalogFault_l1b a1)

noncomputable def spec_CatalogFault (a1 : (List Pack)) : Option Int :=
  if decide ((a1.length : Int) > 24) then
    (some 2)
  else
    ((spec_CatalogFault_l1 a1 0).bind (Fl.go some fun v34 =>
    some 0))

noncomputable def spec_l3Set_l1b (a1 : (List Pack)) (a2 : (List Int)) (s16 : Int) : Option (Lp Int (Fl Bool Unit)) :=
  if decide (s16 < (a2.length : Int)) then
    ((idx a2 s16).bind fun x18 =>
    (spec_l1In x18 0 (w64 ((a1.length : Int) - 1))).bind fun x20 =>
    (if !x20 then
        (some true)
      else
        (if decide (s16 > 0) then
          ((idx a2 s16).bind fun x24 =>
          (idx a2 (w64 (s16 - 1))).bind fun x26 =>
          some (decide (x24 ≤ x26)))
        else
          (some false))).bind fun v28 =>
    if v28 then
      (some (Lp.done (Fl.ret false)))
    else
      (some (Lp.go (w64 (s16 + 1)))))
  else
    (some (Lp.done (Fl.nxt ())))

noncomputable def spec_l3Set_l1 (a1 : (List Pack)) (a2 : (List Int)) : Int → Option (Fl Bool Unit) := loop (spec_l3Set_l1b a1 a2)

noncomputable def spec_l3Set (a1 : (List Pack)) (a2 : (List Int)) : Option Bool :=
  (spec_l3Set_l1 a1 a2 0).bind (Fl.go some fun v30 =>
  some true)

noncomputable def spec_l1Decimal_r (g : Int → Option ByteArray) (s : Int) : Option ByteArray :=
  match s with
  | a1 =>
  if decide (a1 < 10) then
    (some (b2s [IntKind.u8.wrap (w64 (48 + a1))]))
  else
    ((g (w64 (a1.tdiv 10))).bind fun x3 =>
    (cat x3 (b2s [IntKind.u8.wrap (w64 (48 + (a1.tmod 10)))])).bind fun x5 =>
    some x5)

noncomputable def spec_l1Decimal (a1 : Int) : Option ByteArray := recF spec_l1Decimal_r 64 a1

noncomputable def spec_FormatVersion (a1 : Version) : Option ByteArray :=
  (spec_VersionFault a1).bind fun x2 =>
  if x2 != 0 then
    (some (bs []))
  else
    ((spec_l1Decimal a1.A).bind fun x5 =>
    (cat x5 (bs [46])).bind fun x7 =>
    (spec_l1Decimal a1.B).bind fun x9 =>
    (cat x7 x9).bind fun x11 =>
    (cat x11 (bs [46])).bind fun x13 =>
    (spec_l1Decimal a1.C).bind fun x15 =>
    (cat x13 x15).bind fun x17 =>
    some x17)

noncomputable def spec_FormatTerm (a1 : Term) : Option ByteArray :=
  (spec_TermFault a1).bind fun x2 =>
  if x2 != 0 then
    (some (bs []))
  else
    ((spec_CompareVersions a1.Low ({ A := 0, B := 0, C := 0 } : Version)).bind fun x5 =>
    (if x5 != 0 then
        ((cat a1.Name (bs [62, 61])).bind fun x8 =>
        (spec_FormatVersion a1.Low).bind fun x10 =>
        (cat x8 x10).bind fun x12 =>
        some x12)
      else
        (some a1.Name)).bind fun v14 =>
    (spec_l1Top).bind fun x15 =>
    (if !(a1.High.A == x15.A && (a1.High.B == x15.B && (a1.High.C == x15.C && true))) then
        ((cat v14 (bs [60])).bind fun x18 =>
        (spec_FormatVersion a1.High).bind fun x20 =>
        (cat x18 x20).bind fun x22 =>
        some x22)
      else
        (some v14)).bind fun v24 =>
    some v24)

noncomputable def spec_l3Text_l1b (a1 : (List Pack)) (a2 : (List Int)) (s22 : (ByteArray × Int)) : Option (Lp (ByteArray × Int) ByteArray) :=
  if decide (s22.2 < (a2.length : Int)) then
    ((idx a2 s22.2).bind fun x24 =>
    (idx a1 x24).bind fun x26 =>
    (cat s22.1 x26.Name).bind fun x28 =>
    (cat x28 (bs [32])).bind fun x30 =>
    (idx a2 s22.2).bind fun x32 =>
    (idx a1 x32).bind fun x34 =>
    (spec_FormatVersion x34.Version).bind fun x36 =>
    (cat x30 x36).bind fun x38 =>
    (cat x38 (bs [10])).bind fun x40 =>
    some (Lp.go (x40, w64 (s22.2 + 1))))
  else
    (some (Lp.done s22.1))

noncomputable def spec_l3Text_l1 (a1 : (List Pack)) (a2 : (List Int)) : (ByteArray × Int) → Option ByteArray := loop (spec_l3Text_l1b a1 a2)

noncomputable def spec_l3Text (a1 : (List Pack)) (a2 : (List Int)) : Option ByteArray :=
  (spec_l3Text_l1 a1 a2 (bs [], 0)).bind fun v42 =>
  some v42

noncomputable def spec_l9Text_l2b (a1 : (List Pack)) (a3 : (List (List Int))) (s37 : (ByteArray × Int)) : Option (Lp (ByteArray × Int) ByteArray) :=
  if decide (s37.2 < (a3.length : Int)) then
    ((cat s37.1 (bs [115, 116, 101, 112, 10])).bind fun x39 =>
    (idx a3 s37.2).bind fun x41 =>
    (spec_l3Text a1 x41).bind fun x43 =>
    (cat x39 x43).bind fun x45 =>
    some (Lp.go (x45, w64 (s37.2 + 1))))
  else
    (some (Lp.done s37.1))

noncomputable def spec_l9Text_l2 (a1 : (List Pack)) (a3 : (List (List Int))) : (ByteArray × Int) → Option ByteArray := loop (spec_l9Text_l2b a1 a3)

noncomputable def spec_l9Text_l1b (a1 : (List Pack)) (a2 : (List Term)) (a3 : (List (List Int))) (s15 : (ByteArray × Int)) : Option (Lp (ByteArray × Int) ByteArray) :=
  if decide (s15.2 < (a2.length : Int)) then
    ((cat s15.1 (bs [114, 111, 111, 116, 32])).bind fun x17 =>
    (idx a2 s15.2).bind fun x19 =>
    (spec_FormatTerm x19).bind fun x21 =>
    (cat x17 x21).bind fun x23 =>
    (cat x23 (bs [10])).bind fun x25 =>
    some (Lp.go (x25, w64 (s15.2 + 1))))
  else
    (some (Lp.done s15.1))

noncomputable def spec_l9Text_l1 (a1 : (List Pack)) (a2 : (List Term)) (a3 : (List (List Int))) : (ByteArray × Int) → Option ByteArray := loop (spec_l9Text_l1b a1 a2 a3)

noncomputable def spec_l9Text (a1 : (List Pack)) (a2 : (List Term)) (a3 : (List (List Int))) : Option ByteArray :=
  (spec_l9Text_l1 a1 a2 a3 (bs [], 0)).bind fun v27 =>
  (spec_l9Text_l2 a1 a3 (v27, 0)).bind fun v47 =>
  some v47

noncomputable def spec_PlanText_l1b (a1 : (List Pack)) (a2 : (List Term)) (a3 : (List (List Int))) (s17 : Int) : Option (Lp Int (Fl ByteArray Unit)) :=
  if decide (s17 < (a3.length : Int)) then
    ((idx a3 s17).bind fun x19 =>
    (spec_l3Set a1 x19).bind fun x21 =>
    if !x21 then
      (some (Lp.done (Fl.ret (bs []))))
    else
      (some (Lp.go (w64 (s17 + 1)))))
  else
    (some (Lp.done (Fl.nxt ())))

noncomputable def spec_PlanText_l1 (a1 : (List Pack)) (a2 : (List Term)) (a3 : (List (List Int))) : Int → Option (Fl ByteArray Unit) := loop (spec_PlanText_l1b a1 a2 a3)

noncomputable def spec_PlanText (a1 : (List Pack)) (a2 : (List Term)) (a3 : (List (List Int))) : Option ByteArray :=
  (spec_CatalogFault a1).bind fun x4 =>
  (if x4 != 0 then
      (some true)
    else
      ((spec_l2Terms a2).bind fun x7 =>
      some (x7 != 0))).bind fun v9 =>
  if v9 then
    (some (bs []))
  else
    ((spec_PlanText_l1 a1 a2 a3 0).bind (Fl.go some fun v24 =>
    (spec_l9Text a1 a2 a3).bind fun x25 =>
    some x25))

noncomputable def impl_isNameByte (a1 : Int) : Option Bool :=
  if decide (a1 ≥ 97) then
    (if decide (a1 ≤ 122) then
      (some true)
    else
      (if decide (a1 ≥ 48) then
        (if decide (a1 ≤ 57) then
          (some true)
        else
          (some (a1 == 95)))
      else
        (some (a1 == 95))))
  else
    (if decide (a1 ≥ 48) then
      (if decide (a1 ≤ 57) then
        (some true)
      else
        (some (a1 == 95)))
    else
      (some (a1 == 95)))

noncomputable def impl_NameFault_l1b (a1 : ByteArray) (s17 : Int) : Option (Lp Int (Fl Int Unit)) :=
  if decide (s17 < (a1.size : Int)) then
    ((bidx a1 s17).bind fun x19 =>
    (impl_isNameByte x19).bind fun x21 =>
    if !x21 then
      (some (Lp.done (Fl.ret 5)))
    else
      (some (Lp.go (w64 (s17 + 1)))))
  else
    (some (Lp.done (Fl.nxt ())))

noncomputable def impl_NameFault_l1 (a1 : ByteArray) : Int → Option (Fl Int Unit) := loop (impl_NameFault_l1b a1)

noncomputable def impl_NameFault (a1 : ByteArray) : Option Int :=
  (if decide ((a1.size : Int) < 1) then
      (some true)
    else
      (if decide ((a1.size : Int) > 12) then
        (some true)
      else
        ((bidx a1 0).bind fun x4 =>
        if decide (x4 < 97) then
          (some true)
        else
          ((bidx a1 0).bind fun x7 =>
          some (decide (x7 > 122)))))).bind fun v9 =>
  if v9 then
    (some 5)
  else
    ((impl_NameFault_l1 a1 0).bind (Fl.go some fun v24 =>
    some 0))

noncomputable def impl_within (a1 : Int) (a2 : Int) (a3 : Int) : Option Bool :=
  if decide (a2 ≤ a1) then
    (some (decide (a1 ≤ a3)))
  else
    (some false)

noncomputable def impl_VersionFault (a1 : Version) : Option Int :=
  (impl_within a1.A 0 999).bind fun x2 =>
  (if !x2 then
      (some true)
    else
      ((impl_within a1.B 0 999).bind fun x5 =>
      if !x5 then
        (some true)
      else
        ((impl_within a1.C 0 999).bind fun x8 =>
        some (!x8)))).bind fun v10 =>
  if v10 then
    (some 3)
  else
    (some 0)

noncomputable def impl_firstCode_l1b (a1 : (List Int)) (s6 : Int) : Option (Lp Int (Fl Int Unit)) :=
  if decide (s6 < (a1.length : Int)) then
    ((idx a1 s6).bind fun x8 =>
    if x8 != 0 then
      (some (Lp.done (Fl.ret x8)))
    else
      (some (Lp.go (w64 (s6 + 1)))))
  else
    (some (Lp.done (Fl.nxt ())))

noncomputable def impl_firstCode_l1 (a1 : (List Int)) : Int → Option (Fl Int Unit) := loop (impl_firstCode_l1b a1)

noncomputable def impl_firstCode (a1 : (List Int)) : Option Int :=
  (impl_firstCode_l1 a1 0).bind (Fl.go some fun v11 =>
  some 0)

noncomputable def impl_PackFault_1 (a1 : (List Term)) : Option Bool :=
  some (decide ((a1.length : Int) > 4))

noncomputable def slices_IndexFunc_LLimplTerm_impl_PackFault_1_l1b (a1 : (List (List Term))) (s8 : Int) : Option (Lp Int (Fl Int Unit)) :=
  if decide (s8 < (a1.length : Int)) then
    ((idx a1 s8).bind fun x10 =>
    (impl_PackFault_1 x10).bind fun x12 =>
    if x12 then
      (some (Lp.done (Fl.ret s8)))
    else
      (some (Lp.go (w64 (s8 + 1)))))
  else
    (some (Lp.done (Fl.nxt ())))

noncomputable def slices_IndexFunc_LLimplTerm_impl_PackFault_1_l1 (a1 : (List (List Term))) : Int → Option (Fl Int Unit) := loop (slices_IndexFunc_LLimplTerm_impl_PackFault_1_l1b a1)

noncomputable def slices_IndexFunc_LLimplTerm_impl_PackFault_1 (a1 : (List (List Term))) : Option Int :=
  (slices_IndexFunc_LLimplTerm_impl_PackFault_1_l1 a1 0).bind (Fl.go some fun v15 =>
  some (-1))

noncomputable def slices_ContainsFunc_LLimplTerm_impl_PackFault_1 (a1 : (List (List Term))) : Option Bool :=
  (slices_IndexFunc_LLimplTerm_impl_PackFault_1 a1).bind fun x2 =>
  some (decide (x2 ≥ 0))

noncomputable def slices_Index_Lstring_l1b (a1 : (List ByteArray)) (a2 : ByteArray) (s7 : Int) : Option (Lp Int (Fl Int Unit)) :=
  if decide (s7 < (a1.length : Int)) then
    ((idx a1 s7).bind fun x9 =>
    if seq a2 x9 then
      (some (Lp.done (Fl.ret s7)))
    else
      (some (Lp.go (w64 (s7 + 1)))))
  else
    (some (Lp.done (Fl.nxt ())))

noncomputable def slices_Index_Lstring_l1 (a1 : (List ByteArray)) (a2 : ByteArray) : Int → Option (Fl Int Unit) := loop (slices_Index_Lstring_l1b a1 a2)

noncomputable def slices_Index_Lstring (a1 : (List ByteArray)) (a2 : ByteArray) : Option Int :=
  (slices_Index_Lstring_l1 a1 a2 0).bind (Fl.go some fun v12 =>
  some (-1))

noncomputable def slices_Contains_Lstring (a1 : (List ByteArray)) (a2 : ByteArray) : Option Bool :=
  (slices_Index_Lstring a1 a2).bind fun x3 =>
  some (decide (x3 ≥ 0))

noncomputable def impl_top  : Option Version :=
  some ({ A := 1000, B := 0, C := 0 } : Version)

noncomputable def cmp_isNaN_int64 (a1 : Int) : Option Bool :=
  some (a1 != a1)

noncomputable def cmp_Compare_int64 (a1 : Int) (a2 : Int) : Option Int :=
  (cmp_isNaN_int64 a1).bind fun x3 =>
  (cmp_isNaN_int64 a2).bind fun x5 =>
  if x3 then
    (if x5 then
      (some 0)
    else
      (some (-1)))
  else
    (if x5 then
      (some 1)
    else
      (if decide (a1 < a2) then
        (some (-1))
      else
        (if decide (a1 > a2) then
          (some 1)
        else
          (some 0))))

noncomputable def cmp_Or_int_l1b (a1 : (List Int)) (s6 : Int) : Option (Lp Int (Fl Int Unit)) :=
  if decide (s6 < (a1.length : Int)) then
    ((idx a1 s6).bind fun x8 =>
    if x8 != 0 then
      (some (Lp.done (Fl.ret x8)))
    else
      (some (Lp.go (w64 (s6 + 1)))))
  else
    (some (Lp.done (Fl.nxt ())))

noncomputable def cmp_Or_int_l1 (a1 : (List Int)) : Int → Option (Fl Int Unit) := loop (cmp_Or_int_l1b a1)

noncomputable def cmp_Or_int (a1 : (List Int)) : Option Int :=
  (cmp_Or_int_l1 a1 0).bind (Fl.go some fun v11 =>
  some 0)

noncomputable def impl_compare (a1 : Version) (a2 : Version) : Option Int :=
  (cmp_Compare_int64 a1.A a2.A).bind fun x3 =>
  (cmp_Compare_int64 a1.B a2.B).bind fun x5 =>
  (cmp_Compare_int64 a1.C a2.C).bind fun x7 =>
  (cmp_Or_int [x3, x5, x7]).bind fun x9 =>
  some x9

noncomputable def impl_TermFault (a1 : Term) : Option Int :=
  (impl_NameFault a1.Name).bind fun x2 =>
  if x2 != 0 then
    (some x2)
  else
    ((impl_VersionFault a1.Low).bind fun x5 =>
    if x5 != 0 then
      (some x5)
    else
      ((impl_top).bind fun x8 =>
      (if !(a1.High.A == x8.A && (a1.High.B == x8.B && (a1.High.C == x8.C && true))) then
          ((impl_VersionFault a1.High).bind fun x11 =>
          some (x11 != 0))
        else
          (some false)).bind fun v13 =>
      if v13 then
        (some 3)
      else
        ((impl_compare a1.Low a1.High).bind fun x15 =>
        if decide (x15 ≥ 0) then
          (some 1)
        else
          (some 0))))

noncomputable def impl_termsFault_l1b (a1 : (List Term)) (s8 : Int) : Option (Lp Int (Fl Int Unit)) :=
  if decide (s8 < (a1.length : Int)) then
    ((idx a1 s8).bind fun x10 =>
    (impl_TermFault x10).bind fun x12 =>
    if x12 != 0 then
      (some (Lp.done (Fl.ret x12)))
    else
      (some (Lp.go (w64 (s8 + 1)))))
  else
    (some (Lp.done (Fl.nxt ())))

noncomputable def impl_termsFault_l1 (a1 : (List Term)) : Int → Option (Fl Int Unit) := loop (impl_termsFault_l1b a1)

noncomputable def impl_termsFault (a1 : (List Term)) : Option Int :=
  (impl_termsFault_l1 a1 0).bind (Fl.go some fun v15 =>
  some 0)

noncomputable def impl_PackFault_l2b (a1 : Pack) (s54 : Int) : Option (Lp Int (Fl Int Unit)) :=
  if decide (s54 < (a1.Needs.length : Int)) then
    ((idx a1.Needs s54).bind fun x56 =>
    if (x56.length : Int) == 0 then
      (some (Lp.done (Fl.ret 1)))
    else
      ((impl_termsFault x56).bind fun x59 =>
      if x59 != 0 then
        (some (Lp.done (Fl.ret x59)))
      else
        (some (Lp.go (w64 (s54 + 1))))))
  else
    (some (Lp.done (Fl.nxt ())))

noncomputable def impl_PackFault_l2 (a1 : Pack) : Int → Option (Fl Int Unit) := loop (impl_PackFault_l2b a1)

noncomputable def impl_PackFault_l1b (a1 : Pack) (s32 : Int) : Option (Lp Int (Fl Int Unit)) :=
  if decide (s32 < (a1.Provides.length : Int)) then
    ((idx a1.Provides s32).bind fun x34 =>
    (impl_NameFault x34).bind fun x36 =>
    if x36 != 0 then
      (some (Lp.done (Fl.ret x36)))
    else
      ((if seq x34 a1.Name then
          (some true)
        else
          ((lsub a1.Provides 0 s32).bind fun x40 =>
          (slices_Contains_Lstring x40 x34).bind fun x42 =>
          some x42)).bind fun v44 =>
      if v44 then
        (some (Lp.done (Fl.ret 6)))
      else
        (some (Lp.go (w64 (s32 + 1))))))
  else
    (some (Lp.done (Fl.nxt ())))

noncomputable def impl_PackFault_l1 (a1 : Pack) : Int → Option (Fl Int Unit) := loop (impl_PackFault_l1b a1)

noncomputable def impl_PackFault (a1 : Pack) : Option Int :=
  (impl_NameFault a1.Name).bind fun x2 =>
  (impl_VersionFault a1.Version).bind fun x4 =>
  (impl_firstCode [x2, x4]).bind fun x6 =>
  if x6 != 0 then
    (some x6)
  else
    ((impl_within a1.Size 1 200).bind fun x9 =>
    if !x9 then
      (some 3)
    else
      ((if decide ((a1.Provides.length : Int) > 4) then
          (some true)
        else
          (if decide ((a1.Needs.length : Int) > 4) then
            (some true)
          else
            (if decide ((a1.Bars.length : Int) > 4) then
              (some true)
            else
              ((slices_ContainsFunc_LLimplTerm_impl_PackFault_1 a1.Needs).bind fun x15 =>
              some x15)))).bind fun v17 =>
      if v17 then
        (some 2)
      else
        ((impl_PackFault_l1 a1 0).bind (Fl.go some fun v46 =>
        (impl_PackFault_l2 a1 0).bind (Fl.go some fun v62 =>
        (impl_termsFault a1.Bars).bind fun x63 =>
        some x63)))))

noncomputable def impl_find_1 (a1 : Pack) (a2 : ByteArray) (a3 : Version) : Option Bool :=
  if seq a1.Name a2 then
    (some (a1.Version.A == a3.A && (a1.Version.B == a3.B && (a1.Version.C == a3.C && true))))
  else
    (some false)

noncomputable def slices_IndexFunc_LimplPack_impl_find_1_l1b (a1 : (List Pack)) (a2 : ByteArray) (a3 : Version) (s10 : Int) : Option (Lp Int (Fl Int Unit)) :=
  if decide (s10 < (a1.length : Int)) then
    ((idx a1 s10).bind fun x12 =>
    (impl_find_1 x12 a2 a3).bind fun x14 =>
    if x14 then
      (some (Lp.done (Fl.ret s10)))
    else
      (some (Lp.go (w64 (s10 + 1)))))
  else
    (some (Lp.done (Fl.nxt ())))

noncomputable def slices_IndexFunc_LimplPack_impl_find_1_l1 (a1 : (List Pack)) (a2 : ByteArray) (a3 : Version) : Int → Option (Fl Int Unit) := loop (slices_IndexFunc_LimplPack_impl_find_1_l1b a1 a2 a3)

noncomputable def slices_IndexFunc_LimplPack_impl_find_1 (a1 : (List Pack)) (a2 : ByteArray) (a3 : Version) : Option Int :=
  (slices_IndexFunc_LimplPack_impl_find_1_l1 a1 a2 a3 0).bind (Fl.go some fun v17 =>
  some (-1))

noncomputable def impl_find (a1 : (List Pack)) (a2 : ByteArray) (a3 : Version) : Option Int :=
  (slices_IndexFunc_LimplPack_impl_find_1 a1 a2 a3).bind fun x4 =>
  some x4

noncomputable def impl_CatalogFault_l1b (a1 : (List Pack)) (s14 : Int) : Option (Lp Int (Fl Int Unit)) :=
  if decide (s14 < (a1.length : Int)) then
    ((idx a1 s14).bind fun x16 =>
    (impl_PackFault x16).bind fun x18 =>
    if x18 != 0 then
      (some (Lp.done (Fl.ret x18)))
    else
      ((lsub a1 0 s14).bind fun x21 =>
      (impl_find x21 x16.Name x16.Version).bind fun x23 =>
      if decide (x23 ≥ 0) then
        (some (Lp.done (Fl.ret 6)))
      else
        (some (Lp.go (w64 (s14 + 1))))))
  else
    (some (Lp.done (Fl.nxt ())))

noncomputable def impl_CatalogFault_l1 (a1 : (List Pack)) : Int → Option (Fl Int Unit) := loop (impl_CatalogFault_l1b a1)

noncomputable def impl_CatalogFault (a1 : (List Pack)) : Option Int :=
  if decide ((a1.length : Int) > 24) then
    (some 2)
  else
    ((impl_CatalogFault_l1 a1 0).bind (Fl.go some fun v26 =>
    some 0))

noncomputable def impl_arePlaces_1 (a1 : Int) (a2 : (List Pack)) : Option Bool :=
  (impl_within a1 0 (w64 ((a2.length : Int) - 1))).bind fun x3 =>
  some (!x3)

noncomputable def slices_IndexFunc_Lint64_impl_arePlaces_1_l1b (a1 : (List Int)) (a2 : (List Pack)) (s9 : Int) : Option (Lp Int (Fl Int Unit)) :=
  if decide (s9 < (a1.length : Int)) then
    ((idx a1 s9).bind fun x11 =>
    (impl_arePlaces_1 x11 a2).bind fun x13 =>
    if x13 then
      (some (Lp.done (Fl.ret s9)))
    else
      (some (Lp.go (w64 (s9 + 1)))))
  else
    (some (Lp.done (Fl.nxt ())))

noncomputable def slices_IndexFunc_Lint64_impl_arePlaces_1_l1 (a1 : (List Int)) (a2 : (List Pack)) : Int → Option (Fl Int Unit) := loop (slices_IndexFunc_Lint64_impl_arePlaces_1_l1b a1 a2)

noncomputable def slices_IndexFunc_Lint64_impl_arePlaces_1 (a1 : (List Int)) (a2 : (List Pack)) : Option Int :=
  (slices_IndexFunc_Lint64_impl_arePlaces_1_l1 a1 a2 0).bind (Fl.go some fun v16 =>
  some (-1))

noncomputable def slices_ContainsFunc_Lint64_impl_arePlaces_1 (a1 : (List Int)) (a2 : (List Pack)) : Option Bool :=
  (slices_IndexFunc_Lint64_impl_arePlaces_1 a1 a2).bind fun x3 =>
  some (decide (x3 ≥ 0))

noncomputable def impl_arePlaces (a1 : (List Pack)) (a2 : (List Int)) : Option Bool :=
  (slices_ContainsFunc_Lint64_impl_arePlaces_1 a2 a1).bind fun x3 =>
  some (!x3)

noncomputable def impl_SetFault_l1b (a1 : (List Pack)) (a2 : (List Int)) (s12 : Int) : Option (Lp Int (Fl Int Unit)) :=
  if decide (s12 < (a2.length : Int)) then
    ((idx a2 s12).bind fun x14 =>
    (idx a2 (w64 (s12 - 1))).bind fun x16 =>
    if decide (x14 ≤ x16) then
      (some (Lp.done (Fl.ret 1)))
    else
      (some (Lp.go (w64 (s12 + 1)))))
  else
    (some (Lp.done (Fl.nxt ())))

noncomputable def impl_SetFault_l1 (a1 : (List Pack)) (a2 : (List Int)) : Int → Option (Fl Int Unit) := loop (impl_SetFault_l1b a1 a2)

noncomputable def impl_SetFault (a1 : (List Pack)) (a2 : (List Int)) : Option Int :=
  (impl_CatalogFault a1).bind fun x3 =>
  if x3 != 0 then
    (some x3)
  else
    ((impl_SetFault_l1 a1 a2 1).bind (Fl.go some fun v19 =>
    (impl_arePlaces a1 a2).bind fun x20 =>
    if !x20 then
      (some 1)
    else
      (some 0)))

noncomputable def impl_PlanText_1 (a1 : (List Int)) (a2 : (List Pack)) : Option Bool :=
  (impl_SetFault a2 a1).bind fun x3 =>
  some (x3 != 0)

noncomputable def slices_IndexFunc_LLint64_impl_PlanText_1_l1b (a1 : (List (List Int))) (a2 : (List Pack)) (s9 : Int) : Option (Lp Int (Fl Int Unit)) :=
  if decide (s9 < (a1.length : Int)) then
    ((idx a1 s9).bind fun x11 =>
    (impl_PlanText_1 x11 a2).bind fun x13 =>
    if x13 then
      (some (Lp.done (Fl.ret s9)))
    else
      (some (Lp.go (w64 (s9 + 1)))))
  else
    (some (Lp.done (Fl.nxt ())))

noncomputable def slices_IndexFunc_LLint64_impl_PlanText_1_l1 (a1 : (List (List Int))) (a2 : (List Pack)) : Int → Option (Fl Int Unit) := loop (slices_IndexFunc_LLint64_impl_PlanText_1_l1b a1 a2)

noncomputable def slices_IndexFunc_LLint64_impl_PlanText_1 (a1 : (List (List Int))) (a2 : (List Pack)) : Option Int :=
  (slices_IndexFunc_LLint64_impl_PlanText_1_l1 a1 a2 0).bind (Fl.go some fun v16 =>
  some (-1))

noncomputable def slices_ContainsFunc_LLint64_impl_PlanText_1 (a1 : (List (List Int))) (a2 : (List Pack)) : Option Bool :=
  (slices_IndexFunc_LLint64_impl_PlanText_1 a1 a2).bind fun x3 =>
  some (decide (x3 ≥ 0))

noncomputable def strconv_FormatInt (a1 a2 : Int) : Option ByteArray := if a2 = 10 ∧ -9223372036854775808 ≤ a1 ∧ a1 ≤ 9223372036854775807 then some ⟨(Lib.itoa a1).toArray⟩ else none

noncomputable def impl_dec (a1 : Int) : Option ByteArray :=
  (strconv_FormatInt a1 10).bind fun x2 =>
  some x2

noncomputable def impl_Version_text (a1 : Version) : Option ByteArray :=
  (impl_dec a1.A).bind fun x2 =>
  (cat x2 (bs [46])).bind fun x4 =>
  (impl_dec a1.B).bind fun x6 =>
  (cat x4 x6).bind fun x8 =>
  (cat x8 (bs [46])).bind fun x10 =>
  (impl_dec a1.C).bind fun x12 =>
  (cat x10 x12).bind fun x14 =>
  some x14

noncomputable def impl_FormatTerm (a1 : Term) : Option ByteArray :=
  (impl_TermFault a1).bind fun x2 =>
  if x2 != 0 then
    (some (bs []))
  else
    ((if !(a1.Low.A == 0 && (a1.Low.B == 0 && (a1.Low.C == 0 && true))) then
        ((impl_Version_text a1.Low).bind fun x6 =>
        (cat (bs [62, 61]) x6).bind fun x8 =>
        (cat a1.Name x8).bind fun x10 =>
        some x10)
      else
        (some a1.Name)).bind fun v12 =>
    (impl_top).bind fun x13 =>
    (if !(a1.High.A == x13.A && (a1.High.B == x13.B && (a1.High.C == x13.C && true))) then
        ((impl_Version_text a1.High).bind fun x16 =>
        (cat (bs [60]) x16).bind fun x18 =>
        (cat v12 x18).bind fun x20 =>
        some x20)
      else
        (some v12)).bind fun v22 =>
    some v22)

noncomputable def strings_Join (a1 : List ByteArray) (a2 : ByteArray) : Option ByteArray := if a1.length ≤ 140737488355328 ∧ (Lib.join (a1.map (·.data.toList)) a2.data.toList).length ≤ 140737488355328 then some ⟨(Lib.join (a1.map (·.data.toList)) a2.data.toList).toArray⟩ else none

noncomputable def impl_joined (a1 : (List ByteArray)) : Option ByteArray :=
  (strings_Join a1 (bs [32])).bind fun x2 =>
  some x2

noncomputable def impl_setText_l1b (a1 : (List Pack)) (a2 : (List Int)) (s18 : (ByteArray × Int)) : Option (Lp (ByteArray × Int) ByteArray) :=
  if decide (s18.2 < (a2.length : Int)) then
    ((idx a2 s18.2).bind fun x20 =>
    (idx a1 x20).bind fun x22 =>
    (idx a1 x20).bind fun x24 =>
    (impl_Version_text x24.Version).bind fun x26 =>
    (impl_joined [x22.Name, x26]).bind fun x28 =>
    (cat x28 (bs [10])).bind fun x30 =>
    (cat s18.1 x30).bind fun x32 =>
    some (Lp.go (x32, w64 (s18.2 + 1))))
  else
    (some (Lp.done s18.1))

noncomputable def impl_setText_l1 (a1 : (List Pack)) (a2 : (List Int)) : (ByteArray × Int) → Option ByteArray := loop (impl_setText_l1b a1 a2)

noncomputable def impl_setText (a1 : (List Pack)) (a2 : (List Int)) : Option ByteArray :=
  (impl_setText_l1 a1 a2 (bs [], 0)).bind fun v34 =>
  some v34

noncomputable def impl_planText_l2b (a1 : (List Pack)) (a3 : (List (List Int))) (s37 : (ByteArray × Int)) : Option (Lp (ByteArray × Int) ByteArray) :=
  if decide (s37.2 < (a3.length : Int)) then
    ((idx a3 s37.2).bind fun x39 =>
    (impl_setText a1 x39).bind fun x41 =>
    (cat (bs [115, 116, 101, 112, 10]) x41).bind fun x43 =>
    (cat s37.1 x43).bind fun x45 =>
    some (Lp.go (x45, w64 (s37.2 + 1))))
  else
    (some (Lp.done s37.1))

noncomputable def impl_planText_l2 (a1 : (List Pack)) (a3 : (List (List Int))) : (ByteArray × Int) → Option ByteArray := loop (impl_planText_l2b a1 a3)

noncomputable def impl_planText_l1b (a1 : (List Pack)) (a2 : (List Term)) (a3 : (List (List Int))) (s15 : (ByteArray × Int)) : Option (Lp (ByteArray × Int) ByteArray) :=
  if decide (s15.2 < (a2.length : Int)) then
    ((idx a2 s15.2).bind fun x17 =>
    (impl_FormatTerm x17).bind fun x19 =>
    (cat (bs [114, 111, 111, 116, 32]) x19).bind fun x21 =>
    (cat x21 (bs [10])).bind fun x23 =>
    (cat s15.1 x23).bind fun x25 =>
    some (Lp.go (x25, w64 (s15.2 + 1))))
  else
    (some (Lp.done s15.1))

noncomputable def impl_planText_l1 (a1 : (List Pack)) (a2 : (List Term)) (a3 : (List (List Int))) : (ByteArray × Int) → Option ByteArray := loop (impl_planText_l1b a1 a2 a3)

noncomputable def impl_planText (a1 : (List Pack)) (a2 : (List Term)) (a3 : (List (List Int))) : Option ByteArray :=
  (impl_planText_l1 a1 a2 a3 (bs [], 0)).bind fun v27 =>
  (impl_planText_l2 a1 a3 (v27, 0)).bind fun v47 =>
  some v47

noncomputable def impl_PlanText (a1 : (List Pack)) (a2 : (List Term)) (a3 : (List (List Int))) : Option ByteArray :=
  (impl_CatalogFault a1).bind fun x4 =>
  (if x4 != 0 then
      (some true)
    else
      ((impl_termsFault a2).bind fun x7 =>
      if x7 != 0 then
        (some true)
      else
        ((slices_ContainsFunc_LLint64_impl_PlanText_1 a3 a1).bind fun x10 =>
        some x10))).bind fun v12 =>
  if v12 then
    (some (bs []))
  else
    ((impl_planText a1 a2 a3).bind fun x14 =>
    some x14)

noncomputable def laws_eqVersion (a1 : Version) (a2 : Version) : Option Bool :=
  if a1.A != a2.A then
    (some false)
  else
    (if a1.B != a2.B then
      (some false)
    else
      (if a1.C != a2.C then
        (some false)
      else
        (some true)))

noncomputable def laws_eqStringS_l1b (a1 : (List ByteArray)) (a2 : (List ByteArray)) (s10 : Int) : Option (Lp Int (Fl Bool Unit)) :=
  if decide (s10 < (a1.length : Int)) then
    ((idx a1 s10).bind fun x12 =>
    (idx a2 s10).bind fun x14 =>
    if !(seq x12 x14) then
      (some (Lp.done (Fl.ret false)))
    else
      (some (Lp.go (w64 (s10 + 1)))))
  else
    (some (Lp.done (Fl.nxt ())))

noncomputable def laws_eqStringS_l1 (a1 : (List ByteArray)) (a2 : (List ByteArray)) : Int → Option (Fl Bool Unit) := loop (laws_eqStringS_l1b a1 a2)

noncomputable def laws_eqStringS (a1 : (List ByteArray)) (a2 : (List ByteArray)) : Option Bool :=
  if (a1.length : Int) != (a2.length : Int) then
    (some false)
  else
    ((laws_eqStringS_l1 a1 a2 0).bind (Fl.go some fun v17 =>
    some true))

noncomputable def laws_eqTerm (a1 : Term) (a2 : Term) : Option Bool :=
  if !(seq a1.Name a2.Name) then
    (some false)
  else
    ((laws_eqVersion a1.Low a2.Low).bind fun x4 =>
    if !x4 then
      (some false)
    else
      ((laws_eqVersion a1.High a2.High).bind fun x7 =>
      if !x7 then
        (some false)
      else
        (some true)))

noncomputable def laws_eqTermS_l1b (a1 : (List Term)) (a2 : (List Term)) (s12 : Int) : Option (Lp Int (Fl Bool Unit)) :=
  if decide (s12 < (a1.length : Int)) then
    ((idx a1 s12).bind fun x14 =>
    (idx a2 s12).bind fun x16 =>
    (laws_eqTerm x14 x16).bind fun x18 =>
    if !x18 then
      (some (Lp.done (Fl.ret false)))
    else
      (some (Lp.go (w64 (s12 + 1)))))
  else
    (some (Lp.done (Fl.nxt ())))

noncomputable def laws_eqTermS_l1 (a1 : (List Term)) (a2 : (List Term)) : Int → Option (Fl Bool Unit) := loop (laws_eqTermS_l1b a1 a2)

noncomputable def laws_eqTermS (a1 : (List Term)) (a2 : (List Term)) : Option Bool :=
  if (a1.length : Int) != (a2.length : Int) then
    (some false)
  else
    ((laws_eqTermS_l1 a1 a2 0).bind (Fl.go some fun v21 =>
    some true))

noncomputable def laws_eqTermSS_l1b (a1 : (List (List Term))) (a2 : (List (List Term))) (s12 : Int) : Option (Lp Int (Fl Bool Unit)) :=
  if decide (s12 < (a1.length : Int)) then
    ((idx a1 s12).bind fun x14 =>
    (idx a2 s12).bind fun x16 =>
    (laws_eqTermS x14 x16).bind fun x18 =>
    if !x18 then
      (some (Lp.done (Fl.ret false)))
    else
      (some (Lp.go (w64 (s12 + 1)))))
  else
    (some (Lp.done (Fl.nxt ())))

noncomputable def laws_eqTermSS_l1 (a1 : (List (List Term))) (a2 : (List (List Term))) : Int → Option (Fl Bool Unit) := loop (laws_eqTermSS_l1b a1 a2)

noncomputable def laws_eqTermSS (a1 : (List (List Term))) (a2 : (List (List Term))) : Option Bool :=
  if (a1.length : Int) != (a2.length : Int) then
    (some false)
  else
    ((laws_eqTermSS_l1 a1 a2 0).bind (Fl.go some fun v21 =>
    some true))

noncomputable def laws_eqPack (a1 : Pack) (a2 : Pack) : Option Bool :=
  if !(seq a1.Name a2.Name) then
    (some false)
  else
    ((laws_eqVersion a1.Version a2.Version).bind fun x4 =>
    if !x4 then
      (some false)
    else
      (if a1.Size != a2.Size then
        (some false)
      else
        ((laws_eqStringS a1.Provides a2.Provides).bind fun x8 =>
        if !x8 then
          (some false)
        else
          ((laws_eqTermSS a1.Needs a2.Needs).bind fun x11 =>
          if !x11 then
            (some false)
          else
            ((laws_eqTermS a1.Bars a2.Bars).bind fun x14 =>
            if !x14 then
              (some false)
            else
              (some true))))))

noncomputable def laws_eqPackS_l1b (a1 : (List Pack)) (a2 : (List Pack)) (s12 : Int) : Option (Lp Int (Fl Bool Unit)) :=
  if decide (s12 < (a1.length : Int)) then
    ((idx a1 s12).bind fun x14 =>
    (idx a2 s12).bind fun x16 =>
    (laws_eqPack x14 x16).bind fun x18 =>
    if !x18 then
      (some (Lp.done (Fl.ret false)))
    else
      (some (Lp.go (w64 (s12 + 1)))))
  else
    (some (Lp.done (Fl.nxt ())))

noncomputable def laws_eqPackS_l1 (a1 : (List Pack)) (a2 : (List Pack)) : Int → Option (Fl Bool Unit) := loop (laws_eqPackS_l1b a1 a2)

noncomputable def laws_eqPackS (a1 : (List Pack)) (a2 : (List Pack)) : Option Bool :=
  if (a1.length : Int) != (a2.length : Int) then
    (some false)
  else
    ((laws_eqPackS_l1 a1 a2 0).bind (Fl.go some fun v21 =>
    some true))

noncomputable def laws_eqInt64S_l1b (a1 : (List Int)) (a2 : (List Int)) (s10 : Int) : Option (Lp Int (Fl Bool Unit)) :=
  if decide (s10 < (a1.length : Int)) then
    ((idx a1 s10).bind fun x12 =>
    (idx a2 s10).bind fun x14 =>
    if x12 != x14 then
      (some (Lp.done (Fl.ret false)))
    else
      (some (Lp.go (w64 (s10 + 1)))))
  else
    (some (Lp.done (Fl.nxt ())))

noncomputable def laws_eqInt64S_l1 (a1 : (List Int)) (a2 : (List Int)) : Int → Option (Fl Bool Unit) := loop (laws_eqInt64S_l1b a1 a2)

noncomputable def laws_eqInt64S (a1 : (List Int)) (a2 : (List Int)) : Option Bool :=
  if (a1.length : Int) != (a2.length : Int) then
    (some false)
  else
    ((laws_eqInt64S_l1 a1 a2 0).bind (Fl.go some fun v17 =>
    some true))

noncomputable def laws_eqInt64SS_l1b (a1 : (List (List Int))) (a2 : (List (List Int))) (s12 : Int) : Option (Lp Int (Fl Bool Unit)) :=
  if decide (s12 < (a1.length : Int)) then
    ((idx a1 s12).bind fun x14 =>
    (idx a2 s12).bind fun x16 =>
    (laws_eqInt64S x14 x16).bind fun x18 =>
    if !x18 then
      (some (Lp.done (Fl.ret false)))
    else
      (some (Lp.go (w64 (s12 + 1)))))
  else
    (some (Lp.done (Fl.nxt ())))

noncomputable def laws_eqInt64SS_l1 (a1 : (List (List Int))) (a2 : (List (List Int))) : Int → Option (Fl Bool Unit) := loop (laws_eqInt64SS_l1b a1 a2)

noncomputable def laws_eqInt64SS (a1 : (List (List Int))) (a2 : (List (List Int))) : Option Bool :=
  if (a1.length : Int) != (a2.length : Int) then
    (some false)
  else
    ((laws_eqInt64SS_l1 a1 a2 0).bind (Fl.go some fun v21 =>
    some true))

noncomputable def laws_FnExactPlanText (a1 : (List Pack)) (a2 : (List Term)) (a3 : (List (List Int))) : Option Bool :=
  (laws_szPackS a1 1048576).bind fun x4 =>
  if decide (x4 < 0) then
    (some true)
  else
    ((laws_szTermS a2 x4).bind fun x7 =>
    if decide (x7 < 0) then
      (some true)
    else
      ((laws_szInt64SS a3 x7).bind fun x10 =>
      if decide (x10 < 0) then
        (some true)
      else
        ((laws_toPackS a1).bind fun x13 =>
        (laws_toTermS a2).bind fun x15 =>
        (laws_toInt64SS a3).bind fun x17 =>
        (spec_PlanText x13 x15 x17).bind fun x19 =>
        (laws_toPackS a1).bind fun x21 =>
        (laws_toTermS a2).bind fun x23 =>
        (laws_toInt64SS a3).bind fun x25 =>
        (impl_PlanText x21 x23 x25).bind fun x27 =>
        if !(seq x27 x19) then
          (some false)
        else
          ((laws_toPackS a1).bind fun x30 =>
          (laws_eqPackS x21 x30).bind fun x32 =>
          if !x32 then
            (some false)
          else
            ((laws_toTermS a2).bind fun x35 =>
            (laws_eqTermS x23 x35).bind fun x37 =>
            if !x37 then
              (some false)
            else
              ((laws_toInt64SS a3).bind fun x40 =>
              (laws_eqInt64SS x25 x40).bind fun x42 =>
              if !x42 then
                (some false)
              else
                (some true)))))))

end Go.Told

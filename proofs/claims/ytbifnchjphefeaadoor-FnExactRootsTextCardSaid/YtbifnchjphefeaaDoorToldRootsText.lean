import Derived.Test.YtbifnchjphefeaaDoorIm46
set_option linter.unusedVariables false
set_option maxRecDepth 4000
namespace Go.Told
open Go Go.Im

structure Version where
  A : Int
  B : Int
  C : Int
  deriving DecidableEq

def Version.enc (x : Version) : List D := [.sc (.int .i64 x.A), .sc (.int .i64 x.B), .sc (.int .i64 x.C)]

theorem Version.fl (x : Version) : flatC (Version.enc x) := (flatK flat_sc (flatK flat_sc (flatK flat_sc flatN)))

structure Term where
  Name : ByteArray
  Low : Version
  High : Version
  deriving DecidableEq

def Term.enc (x : Term) : List D := [.sc (.string x.Name), .sc (.int .i64 x.Low.A), .sc (.int .i64 x.Low.B), .sc (.int .i64 x.Low.C), .sc (.int .i64 x.High.A), .sc (.int .i64 x.High.B), .sc (.int .i64 x.High.C)]

theorem Term.fl (x : Term) : flatC (Term.enc x) := (flatK flat_sc (flatK flat_sc (flatK flat_sc (flatK flat_sc (flatK flat_sc (flatK flat_sc (flatK flat_sc flatN)))))))

noncomputable def laws_szTerm (a1 : Term) (a2 : Int) : Option Int :=
  if decide ((w64 (a2 - (a1.Name.size : Int))) < 0) then
    (some (-1))
  else
    (some (w64 (a2 - (a1.Name.size : Int))))

noncomputable def laws_szTermS_l1b (a1 : (List Term)) (s10 : (Int × Int)) : Option (Lp (Int × Int) (Fl Int Int)) :=
  if decide (s10.2 < (a1.length : Int)) then
    ((idx a1 s10.2).bind fun x12 =>
    (laws_szTerm x12 s10.1).bind fun x14 =>
    if decide (x14 < 0) then
      (some (Lp.done (Fl.ret (-1))))
    else
      (some (Lp.go (x14, w64 (s10.2 + 1)))))
  else
    (some (Lp.done (Fl.nxt s10.1)))

noncomputable def laws_szTermS_l1 (a1 : (List Term)) : (Int × Int) → Option (Fl Int Int) := loop (laws_szTermS_l1b a1)

noncomputable def laws_szTermS (a1 : (List Term)) (a2 : Int) : Option Int :=
  if decide ((w64 (a2 - (a1.length : Int))) < 0) then
    (some (-1))
  else
    ((laws_szTermS_l1 a1 (w64 (a2 - (a1.length : Int)), 0)).bind (Fl.go some fun v17 =>
    some v17))

noncomputable def laws_toVersion (a1 : Version) : Option Version :=
  some a1

noncomputable def laws_toTerm (a1 : Term) : Option Term :=
  (laws_toVersion a1.Low).bind fun x2 =>
  (laws_toVersion a1.High).bind fun x4 =>
  some ({ Name := a1.Name, Low := x2, High := x4 } : Term)

noncomputable def laws_toTermS_l1b (a1 : (List Term)) (s11 : ((List Term) × Int)) : Option (Lp ((List Term) × Int) (List Term)) :=
  if decide (s11.2 < (a1.length : Int)) then
    ((idx a1 s11.2).bind fun x13 =>
    (laws_toTerm x13).bind fun x15 =>
    (idx s11.1 s11.2).bind fun x17 =>
    some (Lp.go (s11.1.set s11.2.toNat x15, w64 (s11.2 + 1))))
  else
    (some (Lp.done s11.1))

noncomputable def laws_toTermS_l1 (a1 : (List Term)) : ((List Term) × Int) → Option (List Term) := loop (laws_toTermS_l1b a1)

noncomputable def laws_toTermS (a1 : (List Term)) : Option (List Term) :=
  (mk 64 (a1.length : Int) ({ Name := ByteArray.empty, Low := ({ A := 0, B := 0, C := 0 } : Version), High := ({ A := 0, B := 0, C := 0 } : Version) } : Term)).bind fun x2 =>
  (laws_toTermS_l1 a1 (x2, 0)).bind fun v19 =>
  some v19

noncomputable def spec_l1Letter (a1 : Int) : Option Bool :=
  if decide (a1 ≥ 97) then
    (some (decide (a1 ≤ 122)))
  else
    (some false)

noncomputable def spec_l1Digit (a1 : Int) : Option Bool :=
  if decide (a1 ≥ 48) then
    (some (decide (a1 ≤ 57)))
  else
    (some false)

noncomputable def spec_l1Name (a1 : Int) : Option Bool :=
  (spec_l1Letter a1).bind fun x2 =>
  if x2 then
    (some true)
  else
    ((spec_l1Digit a1).bind fun x5 =>
    if x5 then
      (some true)
    else
      (some (a1 == 95)))

noncomputable def spec_NameFault_l1b (a1 : ByteArray) (s16 : Int) : Option (Lp Int (Fl Int Unit)) :=
  if decide (s16 < (a1.size : Int)) then
    ((bidx a1 s16).bind fun x18 =>
    (spec_l1Name x18).bind fun x20 =>
    if !x20 then
      (some (Lp.done (Fl.ret 5)))
    else
      (some (Lp.go (w64 (s16 + 1)))))
  else
    (some (Lp.done (Fl.nxt ())))

noncomputable def spec_NameFault_l1 (a1 : ByteArray) : Int → Option (Fl Int Unit) := loop (spec_NameFault_l1b a1)

noncomputable def spec_NameFault (a1 : ByteArray) : Option Int :=
  (if decide ((a1.size : Int) < 1) then
      (some true)
    else
      (if decide ((a1.size : Int) > 12) then
        (some true)
      else
        ((bidx a1 0).bind fun x4 =>
        (spec_l1Letter x4).bind fun x6 =>
        some (!x6)))).bind fun v8 =>
  if v8 then
    (some 5)
  else
    ((spec_NameFault_l1 a1 0).bind (Fl.go some fun v23 =>
    some 0))

noncomputable def spec_l1In (a1 : Int) (a2 : Int) (a3 : Int) : Option Bool :=
  if decide (a1 ≥ a2) then
    (some (decide (a1 ≤ a3)))
  else
    (some false)

noncomputable def spec_VersionFault (a1 : Version) : Option Int :=
  (spec_l1In a1.A 0 999).bind fun x2 =>
  (if !x2 then
      (some true)
    else
      ((spec_l1In a1.B 0 999).bind fun x5 =>
      if !x5 then
        (some true)
      else
        ((spec_l1In a1.C 0 999).bind fun x8 =>
        some (!x8)))).bind fun v10 =>
  if v10 then
    (some 3)
  else
    (some 0)

noncomputable def spec_l1Top  : Option Version :=
  some ({ A := 1000, B := 0, C := 0 } : Version)

noncomputable def spec_l1Sign (a1 : Int) (a2 : Int) : Option Int :=
  if decide (a1 < a2) then
    (some (-1))
  else
    (if decide (a1 > a2) then
      (some 1)
    else
      (some 0))

noncomputable def spec_CompareVersions (a1 : Version) (a2 : Version) : Option Int :=
  (spec_l1Sign a1.A a2.A).bind fun x3 =>
  if x3 != 0 then
    (some x3)
  else
    ((spec_l1Sign a1.B a2.B).bind fun x6 =>
    if x6 != 0 then
      (some x6)
    else
      ((spec_l1Sign a1.C a2.C).bind fun x9 =>
      some x9))

noncomputable def spec_TermFault (a1 : Term) : Option Int :=
  (spec_NameFault a1.Name).bind fun x2 =>
  if x2 != 0 then
    (some x2)
  else
    ((spec_VersionFault a1.Low).bind fun x5 =>
    if x5 != 0 then
      (some x5)
    else
      ((spec_l1Top).bind fun x8 =>
      (if !(a1.High.A == x8.A && (a1.High.B == x8.B && (a1.High.C == x8.C && true))) then
          ((spec_VersionFault a1.High).bind fun x11 =>
          some (x11 != 0))
        else
          (some false)).bind fun v13 =>
      if v13 then
        (some 3)
      else
        ((spec_CompareVersions a1.Low a1.High).bind fun x15 =>
        if decide (x15 ≥ 0) then
          (some 1)
        else
          (some 0))))

noncomputable def spec_l2Terms_l1b (a1 : (List Term)) (s8 : Int) : Option (Lp Int (Fl Int Unit)) :=
  if decide (s8 < (a1.length : Int)) then
    ((idx a1 s8).bind fun x10 =>
    (spec_TermFault x10).bind fun x12 =>
    if x12 != 0 then
      (some (Lp.done (Fl.ret x12)))
    else
      (some (Lp.go (w64 (s8 + 1)))))
  else
    (some (Lp.done (Fl.nxt ())))

noncomputable def spec_l2Terms_l1 (a1 : (List Term)) : Int → Option (Fl Int Unit) := loop (spec_l2Terms_l1b a1)

noncomputable def spec_l2Terms (a1 : (List Term)) : Option Int :=
  (spec_l2Terms_l1 a1 0).bind (Fl.go some fun v15 =>
  some 0)

noncomputable def spec_l1Decimal_r (g : Int → Option ByteArray) (s : Int) : Option ByteArray :=
  match s with
  | a1 =>
  if decide (a1 < 10) then
    (some (b2s [IntKind.u8.wrap (w64 (48 + a1))]))
  else
    ((g (w64 (a1.tdiv 10))).bind fun x3 =>
    (cat x3 (b2s [IntKind.u8.wrap (w64 (48 + (a1.tmod 10)))])).bind fun x5 =>
    some x5)

noncomputable def spec_l1Decimal (a1 : Int) : Option ByteArray := recF spec_l1Decimal_r 64 a1

noncomputable def spec_FormatVersion (a1 : Version) : Option ByteArray :=
  (spec_VersionFault a1).bind fun x2 =>
  if x2 != 0 then
    (some (bs []))
  else
    ((spec_l1Decimal a1.A).bind fun x5 =>
    (cat x5 (bs [46])).bind fun x7 =>
    (spec_l1Decimal a1.B).bind fun x9 =>
    (cat x7 x9).bind fun x11 =>
    (cat x11 (bs [46])).bind fun x13 =>
    (spec_l1Decimal a1.C).bind fun x15 =>
    (cat x13 x15).bind fun x17 =>
    some x17)

noncomputable def spec_FormatTerm (a1 : Term) : Option ByteArray :=
  (spec_TermFault a1).bind fun x2 =>
  if x2 != 0 then
    (some (bs []))
  else
    ((spec_CompareVersions a1.Low ({ A := 0, B := 0, C := 0 } : Version)).bind fun x5 =>
    (if x5 != 0 then
        ((cat a1.Name (bs [62, 61])).bind fun x8 =>
        (spec_FormatVersion a1.Low).bind fun x10 =>
        (cat x8 x10).bind fun x12 =>
        some x12)
      else
        (some a1.Name)).bind fun v14 =>
    (spec_l1Top).bind fun x15 =>
    (if !(a1.High.A == x15.A && (a1.High.B == x15.B && (a1.High.C == x15.C && true))) then
        ((cat v14 (bs [60])).bind fun x18 =>
        (spec_FormatVersion a1.High).bind fun x20 =>
        (cat x18 x20).bind fun x22 =>
        some x22)
      else
        (some v14)).bind fun v24 =>
    some v24)

noncomputable def spec_l8Text_l1b (a1 : (List Term)) (s11 : (ByteArray × Int)) : Option (Lp (ByteArray × Int) ByteArray) :=
  if decide (s11.2 < (a1.length : Int)) then
    ((idx a1 s11.2).bind fun x13 =>
    (spec_FormatTerm x13).bind fun x15 =>
    (cat s11.1 x15).bind fun x17 =>
    (cat x17 (bs [10])).bind fun x19 =>
    some (Lp.go (x19, w64 (s11.2 + 1))))
  else
    (some (Lp.done s11.1))

noncomputable def spec_l8Text_l1 (a1 : (List Term)) : (ByteArray × Int) → Option ByteArray := loop (spec_l8Text_l1b a1)

noncomputable def spec_l8Text (a1 : (List Term)) : Option ByteArray :=
  (spec_l8Text_l1 a1 (bs [], 0)).bind fun v21 =>
  some v21

noncomputable def spec_RootsText (a1 : (List Term)) : Option ByteArray :=
  (spec_l2Terms a1).bind fun x2 =>
  if x2 != 0 then
    (some (bs []))
  else
    ((spec_l8Text a1).bind fun x5 =>
    some x5)

noncomputable def impl_isNameByte (a1 : Int) : Option Bool :=
  if decide (a1 ≥ 97) then
    (if decide (a1 ≤ 122) then
      (some true)
    else
      (if decide (a1 ≥ 48) then
        (if decide (a1 ≤ 57) then
          (some true)
        else
          (some (a1 == 95)))
      else
        (some (a1 == 95))))
  else
    (if decide (a1 ≥ 48) then
      (if decide (a1 ≤ 57) then
        (some true)
      else
        (some (a1 == 95)))
    else
      (some (a1 == 95)))

noncomputable def impl_NameFault_l1b (a1 : ByteArray) (s17 : Int) : Option (Lp Int (Fl Int Unit)) :=
  if decide (s17 < (a1.size : Int)) then
    ((bidx a1 s17).bind fun x19 =>
    (impl_isNameByte x19).bind fun x21 =>
    if !x21 then
      (some (Lp.done (Fl.ret 5)))
    else
      (some (Lp.go (w64 (s17 + 1)))))
  else
    (some (Lp.done (Fl.nxt ())))

noncomputable def impl_NameFault_l1 (a1 : ByteArray) : Int → Option (Fl Int Unit) := loop (impl_NameFault_l1b a1)

noncomputable def impl_NameFault (a1 : ByteArray) : Option Int :=
  (if decide ((a1.size : Int) < 1) then
      (some true)
    else
      (if decide ((a1.size : Int) > 12) then
        (some true)
      else
        ((bidx a1 0).bind fun x4 =>
        if decide (x4 < 97) then
          (some true)
        else
          ((bidx a1 0).bind fun x7 =>
          some (decide (x7 > 122)))))).bind fun v9 =>
  if v9 then
    (some 5)
  else
    ((impl_NameFault_l1 a1 0).bind (Fl.go some fun v24 =>
    some 0))

noncomputable def impl_within (a1 : Int) (a2 : Int) (a3 : Int) : Option Bool :=
  if decide (a2 ≤ a1) then
    (some (decide (a1 ≤ a3)))
  else
    (some false)

noncomputable def impl_VersionFault (a1 : Version) : Option Int :=
  (impl_within a1.A 0 999).bind fun x2 =>
  (if !x2 then
      (some true)
    else
      ((impl_within a1.B 0 999).bind fun x5 =>
      if !x5 then
        (some true)
      else
        ((impl_within a1.C 0 999).bind fun x8 =>
        some (!x8)))).bind fun v10 =>
  if v10 then
    (some 3)
  else
    (some 0)

noncomputable def impl_top  : Option Version :=
  some ({ A := 1000, B := 0, C := 0 } : Version)

noncomputable def cmp_isNaN_int64 (a1 : Int) : Option Bool :=
  some (a1 != a1)

noncomputable def cmp_Compare_int64 (a1 : Int) (a2 : Int) : Option Int :=
  (cmp_isNaN_int64 a1).bind fun x3 =>
  (cmp_isNaN_int64 a2).bind fun x5 =>
  if x3 then
    (if x5 then
      (some 0)
    else
      (some (-1)))
  else
    (if x5 then
      (some 1)
    else
      (if decide (a1 < a2) then
        (some (-1))
      else
        (if decide (a1 > a2) then
          (some 1)
        else
          (some 0))))

noncomputable def cmp_Or_int_l1b (a1 : (List Int)) (s6 : Int) : Option (Lp Int (Fl Int Unit)) :=
  if decide (s6 < (a1.length : Int)) then
    ((idx a1 s6).bind fun x8 =>
    if x8 != 0 then
      (some (Lp.done (Fl.ret x8)))
    else
      (some (Lp.go (w64 (s6 + 1)))))
  else
    (some (Lp.done (Fl.nxt ())))

noncomputable def cmp_Or_int_l1 (a1 : (List Int)) : Int → Option (Fl Int Unit) := loop (cmp_Or_int_l1b a1)

noncomputable def cmp_Or_int (a1 : (List Int)) : Option Int :=
  (cmp_Or_int_l1 a1 0).bind (Fl.go some fun v11 =>
  some 0)

noncomputable def impl_compare (a1 : Version) (a2 : Version) : Option Int :=
  (cmp_Compare_int64 a1.A a2.A).bind fun x3 =>
  (cmp_Compare_int64 a1.B a2.B).bind fun x5 =>
  (cmp_Compare_int64 a1.C a2.C).bind fun x7 =>
  (cmp_Or_int [x3, x5, x7]).bind fun x9 =>
  some x9

noncomputable def impl_TermFault (a1 : Term) : Option Int :=
  (impl_NameFault a1.Name).bind fun x2 =>
  if x2 != 0 then
    (some x2)
  else
    ((impl_VersionFault a1.Low).bind fun x5 =>
    if x5 != 0 then
      (some x5)
    else
      ((impl_top).bind fun x8 =>
      (if !(a1.High.A == x8.A && (a1.High.B == x8.B && (a1.High.C == x8.C && true))) then
          ((impl_VersionFault a1.High).bind fun x11 =>
          some (x11 != 0))
        else
          (some false)).bind fun v13 =>
      if v13 then
        (some 3)
      else
        ((impl_compare a1.Low a1.High).bind fun x15 =>
        if decide (x15 ≥ 0) then
          (some 1)
        else
          (some 0))))

noncomputable def impl_termsFault_l1b (a1 : (List Term)) (s8 : Int) : Option (Lp Int (Fl Int Unit)) :=
  if decide (s8 < (a1.length : Int)) then
    ((idx a1 s8).bind fun x10 =>
    (impl_TermFault x10).bind fun x12 =>
    if x12 != 0 then
      (some (Lp.done (Fl.ret x12)))
    else
      (some (Lp.go (w64 (s8 + 1)))))
  else
    (some (Lp.done (Fl.nxt ())))

noncomputable def impl_termsFault_l1 (a1 : (List Term)) : Int → Option (Fl Int Unit) := loop (impl_termsFault_l1b a1)

noncomputable def impl_termsFault (a1 : (List Term)) : Option Int :=
  (impl_termsFault_l1 a1 0).bind (Fl.go some fun v15 =>
  some 0)

noncomputable def strconv_FormatInt (a1 a2 : Int) : Option ByteArray := if a2 = 10 ∧ -9223372036854775808 ≤ a1 ∧ a1 ≤ 9223372036854775807 then some ⟨(Lib.itoa a1).toArray⟩ else none

noncomputable def impl_dec (a1 : Int) : Option ByteArray :=
  (strconv_FormatInt a1 10).bind fun x2 =>
  some x2

noncomputable def impl_Version_text (a1 : Version) : Option ByteArray :=
  (impl_dec a1.A).bind fun x2 =>
  (cat x2 (bs [46])).bind fun x4 =>
  (impl_dec a1.B).bind fun x6 =>
  (cat x4 x6).bind fun x8 =>
  (cat x8 (bs [46])).bind fun x10 =>
  (impl_dec a1.C).bind fun x12 =>
  (cat x10 x12).bind fun x14 =>
  some x14

noncomputable def impl_FormatTerm (a1 : Term) : Option ByteArray :=
  (impl_TermFault a1).bind fun x2 =>
  if x2 != 0 then
    (some (bs []))
  else
    ((if !(a1.Low.A == 0 && (a1.Low.B == 0 && (a1.Low.C == 0 && true))) then
        ((impl_Version_text a1.Low).bind fun x6 =>
        (cat (bs [62, 61]) x6).bind fun x8 =>
        (cat a1.Name x8).bind fun x10 =>
        some x10)
      else
        (some a1.Name)).bind fun v12 =>
    (impl_top).bind fun x13 =>
    (if !(a1.High.A == x13.A && (a1.High.B == x13.B && (a1.High.C == x13.C && true))) then
        ((impl_Version_text a1.High).bind fun x16 =>
        (cat (bs [60]) x16).bind fun x18 =>
        (cat v12 x18).bind fun x20 =>
        some x20)
      else
        (some v12)).bind fun v22 =>
    some v22)

noncomputable def impl_RootsText_l1b (a1 : (List Term)) (s14 : (ByteArray × Int)) : Option (Lp (ByteArray × Int) ByteArray) :=
  if decide (s14.2 < (a1.length : Int)) then
    ((idx a1 s14.2).bind fun x16 =>
    (impl_FormatTerm x16).bind fun x18 =>
    (cat x18 (bs [10])).bind fun x20 =>
    (cat s14.1 x20).bind fun x22 =>
    some (Lp.go (x22, w64 (s14.2 + 1))))
  else
    (some (Lp.done s14.1))

noncomputable def impl_RootsText_l1 (a1 : (List Term)) : (ByteArray × Int) → Option ByteArray := loop (impl_RootsText_l1b a1)

noncomputable def impl_RootsText (a1 : (List Term)) : Option ByteArray :=
  (impl_termsFault a1).bind fun x2 =>
  if x2 != 0 then
    (some (bs []))
  else
    ((impl_RootsText_l1 a1 (bs [], 0)).bind fun v24 =>
    some v24)

noncomputable def laws_eqVersion (a1 : Version) (a2 : Version) : Option Bool :=
  if a1.A != a2.A then
    (some false)
  else
    (if a1.B != a2.B then
      (some false)
    else
      (if a1.C != a2.C then
        (some false)
      else
        (some true)))

noncomputable def laws_eqTerm (a1 : Term) (a2 : Term) : Option Bool :=
  if !(seq a1.Name a2.Name) then
    (some false)
  else
    ((laws_eqVersion a1.Low a2.Low).bind fun x4 =>
    if !x4 then
      (some false)
    else
      ((laws_eqVersion a1.High a2.High).bind fun x7 =>
      if !x7 then
        (some false)
      else
        (some true)))

noncomputable def laws_eqTermS_l1b (a1 : (List Term)) (a2 : (List Term)) (s12 : Int) : Option (Lp Int (Fl Bool Unit)) :=
  if decide (s12 < (a1.length : Int)) then
    ((idx a1 s12).bind fun x14 =>
    (idx a2 s12).bind fun x16 =>
    (laws_eqTerm x14 x16).bind fun x18 =>
    if !x18 then
      (some (Lp.done (Fl.ret false)))
    else
      (some (Lp.go (w64 (s12 + 1)))))
  else
    (some (Lp.done (Fl.nxt ())))

noncomputable def laws_eqTermS_l1 (a1 : (List Term)) (a2 : (List Term)) : Int → Option (Fl Bool Unit) := loop (laws_eqTermS_l1b a1 a2)

noncomputable def laws_eqTermS (a1 : (List Term)) (a2 : (List Term)) : Option Bool :=
  if (a1.length : Int) != (a2.length : Int) then
    (some false)
  else
    ((laws_eqTermS_l1 a1 a2 0).bind (Fl.go some fun v21 =>
    some true))

noncomputable def laws_FnExactRootsText (a1 : (List Term)) : Option Bool :=
  (laws_szTermS a1 1048576).bind fun x2 =>
  if decide (x2 < 0) then
    (some true)
  else
    ((laws_toTermS a1).bind fun x5 =>
    (spec_RootsText x5).bind fun x7 =>
    (laws_toTermS a1).bind fun x9 =>
    (impl_RootsText x9).bind fun x11 =>
    if !(seq x11 x7) then
      (some false)
    else
      ((laws_toTermS a1).bind fun x14 =>
      (laws_eqTermS x9 x14).bind fun x16 =>
      if !x16 then
        (some false)
      else
        (some true)))

end Go.Told

import Derived.Test.YtedpgkmkdhlcaaaIm42
set_option linter.unusedVariables false
set_option maxRecDepth 4000
namespace Go.Told
open Go Go.Im

structure Version where
  A : Int
  B : Int
  C : Int
  deriving DecidableEq

def Version.enc (x : Version) : List D := [.sc (.int .i64 x.A), .sc (.int .i64 x.B), .sc (.int .i64 x.C)]

theorem Version.fl (x : Version) : flatC (Version.enc x) := (flatK flat_sc (flatK flat_sc (flatK flat_sc flatN)))

structure Term where
  Name : ByteArray
  Low : Version
  High : Version
  deriving DecidableEq

def Term.enc (x : Term) : List D := [.sc (.string x.Name), .sc (.int .i64 x.Low.A), .sc (.int .i64 x.Low.B), .sc (.int .i64 x.Low.C), .sc (.int .i64 x.High.A), .sc (.int .i64 x.High.B), .sc (.int .i64 x.High.C)]

theorem Term.fl (x : Term) : flatC (Term.enc x) := (flatK flat_sc (flatK flat_sc (flatK flat_sc (flatK flat_sc (flatK flat_sc (flatK flat_sc (flatK flat_sc flatN)))))))

noncomputable def laws_szTerm (a1 : Term) (a2 : Int) : Option Int :=
  if decide ((w64 (a2 - (a1.Name.size : Int))) < 0) then
    (some (-1))
  else
    (some (w64 (a2 - (a1.Name.size : Int))))

noncomputable def laws_szTermS_l1b (a1 : (List Term)) (s10 : (Int × Int)) : Option (Lp (Int × Int) (Fl Int Int)) :=
  if decide (s10.2 < (a1.length : Int)) then
    ((idx a1 s10.2).bind fun x12 =>
    (laws_szTerm x12 s10.1).bind fun x14 =>
    if decide (x14 < 0) then
      (some (Lp.done (Fl.ret (-1))))
    else
      (some (Lp.go (x14, w64 (s10.2 + 1)))))
  else
    (some (Lp.done (Fl.nxt s10.1)))

noncomputable def laws_szTermS_l1 (a1 : (List Term)) : (Int × Int) → Option (Fl Int Int) := loop (laws_szTermS_l1b a1)

noncomputable def laws_szTermS (a1 : (List Term)) (a2 : Int) : Option Int :=
  if decide ((w64 (a2 - (a1.length : Int))) < 0) then
    (some (-1))
  else
    ((laws_szTermS_l1 a1 (w64 (a2 - (a1.length : Int)), 0)).bind (Fl.go some fun v17 =>
    some v17))

noncomputable def laws_toVersion (a1 : Version) : Option Version :=
  some a1

noncomputable def laws_toTerm (a1 : Term) : Option Term :=
  (laws_toVersion a1.Low).bind fun x2 =>
  (laws_toVersion a1.High).bind fun x4 =>
  some ({ Name := a1.Name, Low := x2, High := x4 } : Term)

noncomputable def laws_toTermS_l1b (a1 : (List Term)) (s11 : ((List Term) × Int)) : Option (Lp ((List Term) × Int) (List Term)) :=
  if decide (s11.2 < (a1.length : Int)) then
    ((idx a1 s11.2).bind fun x13 =>
    (laws_toTerm x13).bind fun x15 =>
    (idx s11.1 s11.2).bind fun x17 =>
    some (Lp.go (s11.1.set s11.2.toNat x15, w64 (s11.2 + 1))))
  else
    (some (Lp.done s11.1))

noncomputable def laws_toTermS_l1 (a1 : (List Term)) : ((List Term) × Int) → Option (List Term) := loop (laws_toTermS_l1b a1)

noncomputable def laws_toTermS (a1 : (List Term)) : Option (List Term) :=
  (mk 64 (a1.length : Int) ({ Name := ByteArray.empty, Low := ({ A := 0, B := 0, C := 0 } : Version), High := ({ A := 0, B := 0, C := 0 } : Version) } : Term)).bind fun x2 =>
  (laws_toTermS_l1 a1 (x2, 0)).bind fun v19 =>
  some v19

noncomputable def spec_AsksWithout_l1b (a1 : (List Term)) (a2 : ByteArray) (s12 : ((List Term) × Int)) : Option (Lp ((List Term) × Int) (List Term)) :=
  if decide (s12.2 < (a1.length : Int)) then
    ((idx a1 s12.2).bind fun x14 =>
    (if !(seq x14.Name a2) then
        ((idx a1 s12.2).bind fun x17 =>
        (app 64 s12.1 [x17]).bind fun x19 =>
        some x19)
      else
        (some s12.1)).bind fun v21 =>
    some (Lp.go (v21, w64 (s12.2 + 1))))
  else
    (some (Lp.done s12.1))

noncomputable def spec_AsksWithout_l1 (a1 : (List Term)) (a2 : ByteArray) : ((List Term) × Int) → Option (List Term) := loop (spec_AsksWithout_l1b a1 a2)

noncomputable def spec_AsksWithout (a1 : (List Term)) (a2 : ByteArray) : Option (List Term) :=
  (spec_AsksWithout_l1 a1 a2 (([] : List Term), 0)).bind fun v22 =>
  some v22

noncomputable def slices_Clone_LimplTerm (a1 : (List Term)) : Option (List Term) :=
  (app 64 ([] : List Term) a1).bind fun x3 =>
  some x3

noncomputable def impl_AsksWithout_1 (a1 : Term) (a2 : ByteArray) : Option Bool :=
  some (seq a1.Name a2)

noncomputable def slices_IndexFunc_LimplTermr_impl_AsksWithout_1_l1b (a1 : (List Term)) (a2 : ByteArray) (s9 : Int) : Option (Lp Int (Fl Int Unit)) :=
  if decide (s9 < (a1.length : Int)) then
    ((idx a1 s9).bind fun x11 =>
    (impl_AsksWithout_1 x11 a2).bind fun x13 =>
    if x13 then
      (some (Lp.done (Fl.ret s9)))
    else
      (some (Lp.go (w64 (s9 + 1)))))
  else
    (some (Lp.done (Fl.nxt ())))

noncomputable def slices_IndexFunc_LimplTermr_impl_AsksWithout_1_l1 (a1 : (List Term)) (a2 : ByteArray) : Int → Option (Fl Int Unit) := loop (slices_IndexFunc_LimplTermr_impl_AsksWithout_1_l1b a1 a2)

noncomputable def slices_IndexFunc_LimplTermr_impl_AsksWithout_1 (a1 : (List Term)) (a2 : ByteArray) : Option Int :=
  (slices_IndexFunc_LimplTermr_impl_AsksWithout_1_l1 a1 a2 0).bind (Fl.go some fun v16 =>
  some (-1))

noncomputable def slices_DeleteFunc_LimplTermr_impl_AsksWithout_1_l1b (a2 : ByteArray) (s15 : ((List Term) × Int × Int)) : Option (Lp ((List Term) × Int × Int) ((List Term) × Int)) :=
  if decide (s15.2.2 < (s15.1.length : Int)) then
    ((idx s15.1 s15.2.2).bind fun x17 =>
    (impl_AsksWithout_1 x17 a2).bind fun x19 =>
    (if !x19 then
        ((idx s15.1 s15.2.1).bind fun x22 =>
        some (s15.1.set s15.2.1.toNat x17, w64 (s15.2.1 + 1)))
      else
        (some (s15.1, s15.2.1))).bind fun v24 =>
    some (Lp.go (v24.1, v24.2, w64 (s15.2.2 + 1))))
  else
    (some (Lp.done (s15.1, s15.2.1)))

noncomputable def slices_DeleteFunc_LimplTermr_impl_AsksWithout_1_l1 (a2 : ByteArray) : ((List Term) × Int × Int) → Option ((List Term) × Int) := loop (slices_DeleteFunc_LimplTermr_impl_AsksWithout_1_l1b a2)

noncomputable def slices_DeleteFunc_LimplTermr_impl_AsksWithout_1 (a1 : (List Term)) (a2 : ByteArray) : Option (List Term) :=
  (slices_IndexFunc_LimplTermr_impl_AsksWithout_1 a1 a2).bind fun x3 =>
  if x3 == (-1) then
    (some a1)
  else
    ((slices_DeleteFunc_LimplTermr_impl_AsksWithout_1_l1 a2 (a1, x3, w64 (x3 + 1))).bind fun v25 =>
    (lsub v25.1 v25.2 (v25.1.length : Int)).bind fun x26 =>
    (clrw v25.1 v25.2 x26.length ({ Name := ByteArray.empty, Low := ({ A := 0, B := 0, C := 0 } : Version), High := ({ A := 0, B := 0, C := 0 } : Version) } : Term)).bind fun x28 =>
    (lsub x28 0 v25.2).bind fun x30 =>
    some x30)

noncomputable def impl_AsksWithout (a1 : (List Term)) (a2 : ByteArray) : Option (List Term) :=
  (slices_Clone_LimplTerm a1).bind fun x3 =>
  (slices_DeleteFunc_LimplTermr_impl_AsksWithout_1 x3 a2).bind fun x5 =>
  some x5

noncomputable def laws_eqVersion (a1 : Version) (a2 : Version) : Option Bool :=
  if a1.A != a2.A then
    (some false)
  else
    (if a1.B != a2.B then
      (some false)
    else
      (if a1.C != a2.C then
        (some false)
      else
        (some true)))

noncomputable def laws_eqTerm (a1 : Term) (a2 : Term) : Option Bool :=
  if !(seq a1.Name a2.Name) then
    (some false)
  else
    ((laws_eqVersion a1.Low a2.Low).bind fun x4 =>
    if !x4 then
      (some false)
    else
      ((laws_eqVersion a1.High a2.High).bind fun x7 =>
      if !x7 then
        (some false)
      else
        (some true)))

noncomputable def laws_eqTermS_l1b (a1 : (List Term)) (a2 : (List Term)) (s12 : Int) : Option (Lp Int (Fl Bool Unit)) :=
  if decide (s12 < (a1.length : Int)) then
    ((idx a1 s12).bind fun x14 =>
    (idx a2 s12).bind fun x16 =>
    (laws_eqTerm x14 x16).bind fun x18 =>
    if !x18 then
      (some (Lp.done (Fl.ret false)))
    else
      (some (Lp.go (w64 (s12 + 1)))))
  else
    (some (Lp.done (Fl.nxt ())))

noncomputable def laws_eqTermS_l1 (a1 : (List Term)) (a2 : (List Term)) : Int → Option (Fl Bool Unit) := loop (laws_eqTermS_l1b a1 a2)

noncomputable def laws_eqTermS (a1 : (List Term)) (a2 : (List Term)) : Option Bool :=
  if (a1.length : Int) != (a2.length : Int) then
    (some false)
  else
    ((laws_eqTermS_l1 a1 a2 0).bind (Fl.go some fun v21 =>
    some true))

noncomputable def laws_markText_l1b  (s6 : (Int × ByteArray)) : Option (Lp (Int × ByteArray) ByteArray) :=
  if decide (s6.1 > 0) then
    ((cat (b2s [IntKind.u8.wrap (w64 (48 + (s6.1.tmod 10)))]) s6.2).bind fun x8 =>
    some (Lp.go (w64 (s6.1.tdiv 10), x8)))
  else
    (some (Lp.done s6.2))

noncomputable def laws_markText_l1  : (Int × ByteArray) → Option ByteArray := loop laws_markText_l1b

noncomputable def laws_markText (a1 : Int) : Option ByteArray :=
  if decide (a1 ≤ 0) then
    (some (bs [109, 48]))
  else
    ((laws_markText_l1 (a1, bs [])).bind fun v10 =>
    (cat (bs [109]) v10).bind fun x11 =>
    some x11)

noncomputable def laws_markTermSr_l1b  (s20 : ((List Term) × Int × Int)) : Option (Lp ((List Term) × Int × Int) ((List Term) × Int)) :=
  if decide (s20.2.2 < (s20.1.length : Int)) then
    ((laws_markText s20.2.1).bind fun x22 =>
    (idx s20.1 s20.2.2).bind fun x24 =>
    (idx (s20.1.set s20.2.2.toNat ({ Name := x22, Low := x24.Low, High := x24.High } : Term)) s20.2.2).bind fun x26 =>
    (idx ((s20.1.set s20.2.2.toNat ({ Name := x22, Low := x24.Low, High := x24.High } : Term)).set s20.2.2.toNat ({ Name := x26.Name, Low := ({ A := w64 (s20.2.1 + 1), B := x26.Low.B, C := x26.Low.C } : Version), High := x26.High } : Term)) s20.2.2).bind fun x28 =>
    (idx (((s20.1.set s20.2.2.toNat ({ Name := x22, Low := x24.Low, High := x24.High } : Term)).set s20.2.2.toNat ({ Name := x26.Name, Low := ({ A := w64 (s20.2.1 + 1), B := x26.Low.B, C := x26.Low.C } : Version), High := x26.High } : Term)).set s20.2.2.toNat ({ Name := x28.Name, Low := ({ A := x28.Low.A, B := w64 ((w64 (s20.2.1 + 1)) + 1), C := x28.Low.C } : Version), High := x28.High } : Term)) s20.2.2).bind fun x30 =>
    (idx ((((s20.1.set s20.2.2.toNat ({ Name := x22, Low := x24.Low, High := x24.High } : Term)).set s20.2.2.toNat ({ Name := x26.Name, Low := ({ A := w64 (s20.2.1 + 1), B := x26.Low.B, C := x26.Low.C } : Version), High := x26.High } : Term)).set s20.2.2.toNat ({ Name := x28.Name, Low := ({ A := x28.Low.A, B := w64 ((w64 (s20.2.1 + 1)) + 1), C := x28.Low.C } : Version), High := x28.High } : Term)).set s20.2.2.toNat ({ Name := x30.Name, Low := ({ A := x30.Low.A, B := x30.Low.B, C := w64 ((w64 ((w64 (s20.2.1 + 1)) + 1)) + 1) } : Version), High := x30.High } : Term)) s20.2.2).bind fun x32 =>
    (idx (((((s20.1.set s20.2.2.toNat ({ Name := x22, Low := x24.Low, High := x24.High } : Term)).set s20.2.2.toNat ({ Name := x26.Name, Low := ({ A := w64 (s20.2.1 + 1), B := x26.Low.B, C := x26.Low.C } : Version), High := x26.High } : Term)).set s20.2.2.toNat ({ Name := x28.Name, Low := ({ A := x28.Low.A, B := w64 ((w64 (s20.2.1 + 1)) + 1), C := x28.Low.C } : Version), High := x28.High } : Term)).set s20.2.2.toNat ({ Name := x30.Name, Low := ({ A := x30.Low.A, B := x30.Low.B, C := w64 ((w64 ((w64 (s20.2.1 + 1)) + 1)) + 1) } : Version), High := x30.High } : Term)).set s20.2.2.toNat ({ Name := x32.Name, Low := x32.Low, High := ({ A := w64 ((w64 ((w64 ((w64 (s20.2.1 + 1)) + 1)) + 1)) + 1), B := x32.High.B, C := x32.High.C } : Version) } : Term)) s20.2.2).bind fun x34 =>
    (idx ((((((s20.1.set s20.2.2.toNat ({ Name := x22, Low := x24.Low, High := x24.High } : Term)).set s20.2.2.toNat ({ Name := x26.Name, Low := ({ A := w64 (s20.2.1 + 1), B := x26.Low.B, C := x26.Low.C } : Version), High := x26.High } : Term)).set s20.2.2.toNat ({ Name := x28.Name, Low := ({ A := x28.Low.A, B := w64 ((w64 (s20.2.1 + 1)) + 1), C := x28.Low.C } : Version), High := x28.High } : Term)).set s20.2.2.toNat ({ Name := x30.Name, Low := ({ A := x30.Low.A, B := x30.Low.B, C := w64 ((w64 ((w64 (s20.2.1 + 1)) + 1)) + 1) } : Version), High := x30.High } : Term)).set s20.2.2.toNat ({ Name := x32.Name, Low := x32.Low, High := ({ A := w64 ((w64 ((w64 ((w64 (s20.2.1 + 1)) + 1)) + 1)) + 1), B := x32.High.B, C := x32.High.C } : Version) } : Term)).set s20.2.2.toNat ({ Name := x34.Name, Low := x34.Low, High := ({ A := x34.High.A, B := w64 ((w64 ((w64 ((w64 ((w64 (s20.2.1 + 1)) + 1)) + 1)) + 1)) + 1), C := x34.High.C } : Version) } : Term)) s20.2.2).bind fun x36 =>
    some (Lp.go (((((((s20.1.set s20.2.2.toNat ({ Name := x22, Low := x24.Low, High := x24.High } : Term)).set s20.2.2.toNat ({ Name := x26.Name, Low := ({ A := w64 (s20.2.1 + 1), B := x26.Low.B, C := x26.Low.C } : Version), High := x26.High } : Term)).set s20.2.2.toNat ({ Name := x28.Name, Low := ({ A := x28.Low.A, B := w64 ((w64 (s20.2.1 + 1)) + 1), C := x28.Low.C } : Version), High := x28.High } : Term)).set s20.2.2.toNat ({ Name := x30.Name, Low := ({ A := x30.Low.A, B := x30.Low.B, C := w64 ((w64 ((w64 (s20.2.1 + 1)) + 1)) + 1) } : Version), High := x30.High } : Term)).set s20.2.2.toNat ({ Name := x32.Name, Low := x32.Low, High := ({ A := w64 ((w64 ((w64 ((w64 (s20.2.1 + 1)) + 1)) + 1)) + 1), B := x32.High.B, C := x32.High.C } : Version) } : Term)).set s20.2.2.toNat ({ Name := x34.Name, Low := x34.Low, High := ({ A := x34.High.A, B := w64 ((w64 ((w64 ((w64 ((w64 (s20.2.1 + 1)) + 1)) + 1)) + 1)) + 1), C := x34.High.C } : Version) } : Term)).set s20.2.2.toNat ({ Name := x36.Name, Low := x36.Low, High := ({ A := x36.High.A, B := x36.High.B, C := w64 ((w64 ((w64 ((w64 ((w64 ((w64 (s20.2.1 + 1)) + 1)) + 1)) + 1)) + 1)) + 1) } : Version) } : Term), w64 ((w64 ((w64 ((w64 ((w64 ((w64 ((w64 (s20.2.1 + 1)) + 1)) + 1)) + 1)) + 1)) + 1)) + 1), w64 (s20.2.2 + 1))))
  else
    (some (Lp.done (s20.1, s20.2.1)))

noncomputable def laws_markTermSr_l1  : ((List Term) × Int × Int) → Option ((List Term) × Int) := loop laws_markTermSr_l1b

noncomputable def laws_markTermSr (a1 : (List Term)) (a2 : Int) : Option (Int × (List Term)) :=
  (laws_markTermSr_l1 (a1, a2, 0)).bind fun v38 =>
  some (v38.2, v38.1)

noncomputable def laws_heldTermS_l1b (a1 : (List Term)) (s27 : (Int × Int)) : Option (Lp (Int × Int) (Fl Int Int)) :=
  if decide (s27.2 < (a1.length : Int)) then
    ((idx a1 s27.2).bind fun x29 =>
    (laws_markText s27.1).bind fun x31 =>
    if !(seq x29.Name x31) then
      (some (Lp.done (Fl.ret (-1))))
    else
      ((idx a1 s27.2).bind fun x34 =>
      if x34.Low.A != (w64 (s27.1 + 1)) then
        (some (Lp.done (Fl.ret (-1))))
      else
        ((idx a1 s27.2).bind fun x37 =>
        if x37.Low.B != (w64 ((w64 (s27.1 + 1)) + 1)) then
          (some (Lp.done (Fl.ret (-1))))
        else
          ((idx a1 s27.2).bind fun x40 =>
          if x40.Low.C != (w64 ((w64 ((w64 (s27.1 + 1)) + 1)) + 1)) then
            (some (Lp.done (Fl.ret (-1))))
          else
            ((idx a1 s27.2).bind fun x43 =>
            if x43.High.A != (w64 ((w64 ((w64 ((w64 (s27.1 + 1)) + 1)) + 1)) + 1)) then
              (some (Lp.done (Fl.ret (-1))))
            else
              ((idx a1 s27.2).bind fun x46 =>
              if x46.High.B != (w64 ((w64 ((w64 ((w64 ((w64 (s27.1 + 1)) + 1)) + 1)) + 1)) + 1)) then
                (some (Lp.done (Fl.ret (-1))))
              else
                ((idx a1 s27.2).bind fun x49 =>
                if x49.High.C != (w64 ((w64 ((w64 ((w64 ((w64 ((w64 (s27.1 + 1)) + 1)) + 1)) + 1)) + 1)) + 1)) then
                  (some (Lp.done (Fl.ret (-1))))
                else
                  (some (Lp.go (w64 ((w64 ((w64 ((w64 ((w64 ((w64 ((w64 (s27.1 + 1)) + 1)) + 1)) + 1)) + 1)) + 1)) + 1), w64 (s27.2 + 1)))))))))))
  else
    (some (Lp.done (Fl.nxt s27.1)))

noncomputable def laws_heldTermS_l1 (a1 : (List Term)) : (Int × Int) → Option (Fl Int Int) := loop (laws_heldTermS_l1b a1)

noncomputable def laws_heldTermS (a1 : (List Term)) (a2 : Int) : Option Int :=
  (laws_heldTermS_l1 a1 (a2, 0)).bind (Fl.go some fun v52 =>
  some v52)

noncomputable def laws_FnExactAsksWithout (a1 : (List Term)) (a2 : ByteArray) : Option Bool :=
  if decide ((a2.size : Int) > 1048576) then
    (some true)
  else
    ((laws_szTermS a1 1048576).bind fun x4 =>
    if decide (x4 < 0) then
      (some true)
    else
      ((laws_toTermS a1).bind fun x7 =>
      (spec_AsksWithout x7 a2).bind fun x9 =>
      (laws_toTermS a1).bind fun x11 =>
      (impl_AsksWithout x11 a2).bind fun x13 =>
      (laws_eqTermS x13 x9).bind fun x15 =>
      if !x15 then
        (some false)
      else
        ((laws_toTermS a1).bind fun x18 =>
        (laws_eqTermS x11 x18).bind fun x20 =>
        if !x20 then
          (some false)
        else
          ((laws_markTermSr x11 1).bind fun x23 =>
          (if decide (x23.1 < 0) then
              (some true)
            else
              ((laws_eqTermS x13 x9).bind fun x26 =>
              some (!x26))).bind fun v28 =>
          if v28 then
            (some false)
          else
            ((laws_markTermSr x13 1).bind fun x30 =>
            (same x30.2 x13).bind fun u32 =>
            (laws_heldTermS x30.2 1).bind fun x34 =>
            if decide (x34 < 0) then
              (some false)
            else
              (if x34 != x30.1 then
                (some false)
              else
                ((laws_toTermS a1).bind fun x38 =>
                (impl_AsksWithout x38 a2).bind fun x40 =>
                (laws_eqTermS x40 x9).bind fun x42 =>
                if !x42 then
                  (some false)
                else
                  ((laws_heldTermS x30.2 1).bind fun x45 =>
                  if decide (x45 < 0) then
                    (some false)
                  else
                    (if x45 != x30.1 then
                      (some false)
                    else
                      (some true))))))))))

end Go.Told

import Derived.Test.YtbifnchjphefeaaDoorImF
set_option linter.unusedVariables false
set_option maxRecDepth 4000
namespace Go.Told
open Go Go.Im


noncomputable def spec_l1In (a1 : Int) (a2 : Int) (a3 : Int) : Option Bool :=
  if decide (a1 ≥ a2) then
    (some (decide (a1 ≤ a3)))
  else
    (some false)

noncomputable def spec_l1Decimal_r (g : Int → Option ByteArray) (s : Int) : Option ByteArray :=
  match s with
  | a1 =>
  if decide (a1 < 10) then
    (some (b2s [IntKind.u8.wrap (w64 (48 + a1))]))
  else
    ((g (w64 (a1.tdiv 10))).bind fun x3 =>
    (cat x3 (b2s [IntKind.u8.wrap (w64 (48 + (a1.tmod 10)))])).bind fun x5 =>
    some x5)

noncomputable def spec_l1Decimal (a1 : Int) : Option ByteArray := recF spec_l1Decimal_r 64 a1

noncomputable def spec_GenPath (a1 : Int) : Option ByteArray :=
  (spec_l1In a1 1 999999).bind fun x2 =>
  if !x2 then
    (some (bs []))
  else
    ((spec_l1Decimal (w64 (1000000 + a1))).bind fun x5 =>
    (ssub x5 1 (x5.size : Int)).bind fun x7 =>
    (cat (bs [103, 101, 110, 47]) x7).bind fun x9 =>
    some x9)

noncomputable def impl_within (a1 : Int) (a2 : Int) (a3 : Int) : Option Bool :=
  if decide (a2 ≤ a1) then
    (some (decide (a1 ≤ a3)))
  else
    (some false)

noncomputable def strconv_FormatInt (a1 a2 : Int) : Option ByteArray := if a2 = 10 ∧ -9223372036854775808 ≤ a1 ∧ a1 ≤ 9223372036854775807 then some ⟨(Lib.itoa a1).toArray⟩ else none

noncomputable def impl_dec (a1 : Int) : Option ByteArray :=
  (strconv_FormatInt a1 10).bind fun x2 =>
  some x2

noncomputable def strings_Repeat (a1 : ByteArray) (a2 : Int) : Option ByteArray := if 0 ≤ a2 ∧ a2 ≤ 9223372036854775807 ∧ a1.size * a2.toNat ≤ 140737488355328 then some ⟨(Lib.repeatL a1.data.toList a2.toNat).toArray⟩ else none

noncomputable def impl_genPath (a1 : Int) : Option ByteArray :=
  (impl_dec a1).bind fun x2 =>
  (strings_Repeat (bs [48]) (w64 (6 - (x2.size : Int)))).bind fun x4 =>
  (cat (bs [103, 101, 110, 47]) x4).bind fun x6 =>
  (cat x6 x2).bind fun x8 =>
  some x8

noncomputable def impl_GenPath (a1 : Int) : Option ByteArray :=
  (impl_within a1 1 999999).bind fun x2 =>
  if !x2 then
    (some (bs []))
  else
    ((impl_genPath a1).bind fun x5 =>
    some x5)

noncomputable def laws_FnExactGenPath (a1 : Int) : Option Bool :=
  (spec_GenPath a1).bind fun x2 =>
  (impl_GenPath a1).bind fun x4 =>
  if !(seq x4 x2) then
    (some false)
  else
    (some true)

end Go.Told

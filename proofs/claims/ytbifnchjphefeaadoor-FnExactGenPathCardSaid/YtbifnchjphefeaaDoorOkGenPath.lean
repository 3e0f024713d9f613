import Derived.Test.YtbifnchjphefeaaDoorToldGenPath
import Derived.Test.YtbifnchjphefeaaDoorShelf
import Derived.Test.YtbifnchjphefeaaDoorProg
set_option linter.unusedVariables false
set_option maxRecDepth 4000
namespace Go.Told
open Go Go.Im Go.Proofs

noncomputable def c24 : Code := (Tryd.f24.body).getD .skip

theorem spec_l1In.ok (a1 : Int) (a2 : Int) (a3 : Int) : Ok Tryd.prog 24 [iv a1, iv a2, iv a3] [] ((spec_l1In a1 a2 a3).map fun r => (bv r, [])) := by
  refine Ok_of3 c24 Tryd.f24 0 15 (fun q => ?_)
  unfold spec_l1In
  refine J_g 2 [] [(0, iv a1), (1, iv a2), (2, iv a3)] [] orcN ?_
  refine J_ite (fun h4 => ?_) (fun h4 => ?_)
  · refine J_g 6 [] [(6, bv (decide (a1 ≤ a3)))] [] (orcL 3 [(9, bv (decide (a1 ≥ a2)))] [] h4 orcN) ?_
    exact J_r1 rfl
  · refine J_g 6 [] [(6, bv false)] [] (orcL 3 [(9, bv (decide (a1 ≥ a2)))] [] h4 orcN) ?_
    exact J_r1 rfl

noncomputable def c25 : Code := (Tryd.f25.body).getD .skip

theorem spec_l1Decimal.ok (a1 : Int) : Ok Tryd.prog 25 [iv a1] [] ((spec_l1Decimal a1).map fun r => (sv r, [])) := by
  have key : ∀ (n : Nat) (a1 : Int), Ok Tryd.prog 25 [iv a1] [] ((recF spec_l1Decimal_r n a1).map fun r => (sv r, [])) := by
    intro n
    induction n with
    | zero => intro a1; exact Ok_none
    | succ n ih =>
      intro a1
      refine Ok_of3 c25 Tryd.f25 0 20 (fun q => ?_)
      unfold recF spec_l1Decimal_r
      refine J_g 2 [] [(0, iv a1)] [] orcN ?_
      refine J_g 12 [] [(0, iv a1), (4, bv (decide (a1 < 10)))] [] orcN ?_
      refine J_if2 4 (fun h2 => ?_) (fun h2 => ?_)
      · refine J_g 52 [] [(2, sv (b2s [IntKind.u8.wrap (w64 (48 + a1))]))] [] (orcC 3 (x_bp 74 5 1 0 eU8 [IntKind.u8.wrap (w64 (48 + a1))] [0] [(.tmp 7)] [uv (IntKind.u8.wrap (w64 (48 + a1)))]) (orcC 4 (x_b2sr (xs := [IntKind.u8.wrap (w64 (48 + a1))]) 74 9 5 0 (.tmp 8)) orcN)) ?_
        exact J_r1 rfl
      · refine J_bind (fun x3 h4 => ?_)
        refine J_bind (fun x5 h6 => ?_)
        refine J_g 14 [] [(2, sv x5)] [] (orcC 2 (x_c0 [(.tmp 11)] [2] (ih (w64 (a1.tdiv 10))) h4) (orcC 7 (x_bp 74 5 1 0 eU8 [IntKind.u8.wrap (w64 (48 + (a1.tmod 10)))] [0] [(.tmp 16)] [uv (IntKind.u8.wrap (w64 (48 + (a1.tmod 10))))]) (orcC 8 (x_b2sr (xs := [IntKind.u8.wrap (w64 (48 + (a1.tmod 10)))]) 74 9 5 0 (.tmp 17)) (orcC 9 (x_cat 9 9 (.tmp 12) (.tmp 18) h6) orcN)))) ?_
        exact J_r1 rfl
  exact key 64 a1

noncomputable def c7 : Code := (Tryd.f7.body).getD .skip

theorem spec_GenPath.ok (a1 : Int) : Ok Tryd.prog 7 [iv a1] [] ((spec_GenPath a1).map fun r => (sv r, [])) := by
  refine Ok_of3 c7 Tryd.f7 0 11 (fun q => ?_)
  unfold spec_GenPath
  refine J_g 2 [] [(0, iv a1)] [] orcN ?_
  refine J_bind (fun x2 h3 => ?_)
  refine J_g 12 [] [(0, iv a1), (5, bv (!x2))] [] (orcC 1 (x_c0 [(.tmp 3), (.const (.int .i64 1)), (.const (.int .i64 999999))] [2, 2, 2] (spec_l1In.ok a1 1 999999) h3) orcN) ?_
  refine J_if2 5 (fun h4 => ?_) (fun h4 => ?_)
  · refine J_g 52 [] [(2, sv (bs []))] [] orcN ?_
    exact J_r1 rfl
  · refine J_bind (fun x5 h6 => ?_)
    refine J_bind (fun x7 h8 => ?_)
    refine J_bind (fun x9 h10 => ?_)
    refine J_g 14 [] [(2, sv x9)] [] (orcC 2 (x_c0 [(.tmp 7)] [2] (spec_l1Decimal.ok (w64 (1000000 + a1))) h6) (orcC 3 (x_ss 9 (.tmp 8) (some (.const (.int .i64 1))) none h8) (orcC 4 (x_cat 9 9 (.const (.string (bs [103, 101, 110, 47]))) (.tmp 9) h10) orcN))) ?_
    exact J_r1 rfl

noncomputable def c26 : Code := (Tryd.f26.body).getD .skip

theorem impl_within.ok (a1 : Int) (a2 : Int) (a3 : Int) : Ok Tryd.prog 26 [iv a1, iv a2, iv a3] [] ((impl_within a1 a2 a3).map fun r => (bv r, [])) := by
  refine Ok_of3 c26 Tryd.f26 0 15 (fun q => ?_)
  unfold impl_within
  refine J_g 2 [] [(0, iv a1), (1, iv a2), (2, iv a3)] [] orcN ?_
  refine J_ite (fun h4 => ?_) (fun h4 => ?_)
  · refine J_g 6 [] [(6, bv (decide (a1 ≤ a3)))] [] (orcL 3 [(9, bv (decide (a2 ≤ a1)))] [] h4 orcN) ?_
    exact J_r1 rfl
  · refine J_g 6 [] [(6, bv false)] [] (orcL 3 [(9, bv (decide (a2 ≤ a1)))] [] h4 orcN) ?_
    exact J_r1 rfl

theorem strconv_FormatInt.ok (a1 a2 : Int) : Ok Tryd.prog 75 [iv a1, iv a2] [] ((strconv_FormatInt a1 a2).map fun r => (sv r, [])) := by
  unfold strconv_FormatInt
  split
  · rename_i h
    obtain ⟨rfl, h0, h1⟩ := h
    exact Ok_grow (vs := [.int .i64 a1, .int .i64 10]) (fun w hG => Tryd.strconv_FormatInt_10 a1 h0 h1 w (tabIs_of (g := 1) hG (by kernel_rfl) (by kernel_rfl)))
  · exact fun _ h => by cases h

noncomputable def c52 : Code := (Tryd.f52.body).getD .skip

theorem impl_dec.ok (a1 : Int) : Ok Tryd.prog 52 [iv a1] [] ((impl_dec a1).map fun r => (sv r, [])) := by
  refine Ok_of3 c52 Tryd.f52 0 5 (fun q => ?_)
  unfold impl_dec
  refine J_g 2 [] [(0, iv a1)] [] orcN ?_
  refine J_bind (fun x2 h3 => ?_)
  refine J_g 6 [] [(2, sv x2)] [] (orcC 1 (x_c0 [(.tmp 3), (.const (.int .i64 10))] [2, 3] (strconv_FormatInt.ok a1 10) h3) orcN) ?_
  exact J_r1 rfl

theorem strings_Repeat.ok (a1 : ByteArray) (a2 : Int) : Ok Tryd.prog 53 [sv a1, iv a2] [] ((strings_Repeat a1 a2).map fun r => (sv r, [])) := by
  unfold strings_Repeat
  split
  · rename_i h
    obtain ⟨h0, h1, h2⟩ := h
    obtain ⟨n, rfl⟩ := Int.eq_ofNat_of_zero_le h0
    exact Ok_below (vs := [.string a1, .int .i64 n]) (fun w => Tryd.strings_Repeat a1 n w (by omega) h2)
  · exact fun _ h => by cases h

noncomputable def c27 : Code := (Tryd.f27.body).getD .skip

theorem impl_genPath.ok (a1 : Int) : Ok Tryd.prog 27 [iv a1] [] ((impl_genPath a1).map fun r => (sv r, [])) := by
  refine Ok_of3 c27 Tryd.f27 0 13 (fun q => ?_)
  unfold impl_genPath
  refine J_g 2 [] [(0, iv a1)] [] orcN ?_
  refine J_bind (fun x2 h3 => ?_)
  refine J_g 6 [] [(3, sv x2)] [] (orcC 1 (x_c0 [(.tmp 4)] [2] (impl_dec.ok a1) h3) orcN) ?_
  refine J_bind (fun x4 h5 => ?_)
  refine J_bind (fun x6 h7 => ?_)
  refine J_bind (fun x8 h9 => ?_)
  refine J_g 14 [] [(2, sv x8)] [] (orcC 3 (x_c0 [(.const (.string (bs [48]))), (.tmp 8)] [9, 3] (strings_Repeat.ok (bs [48]) (w64 (6 - (x2.size : Int)))) h5) (orcC 4 (x_cat 9 9 (.const (.string (bs [103, 101, 110, 47]))) (.tmp 9) h7) (orcC 6 (x_cat 9 9 (.tmp 10) (.tmp 11) h9) orcN))) ?_
  exact J_r1 rfl

noncomputable def c8 : Code := (Tryd.f8.body).getD .skip

theorem impl_GenPath.ok (a1 : Int) : Ok Tryd.prog 8 [iv a1] [] ((impl_GenPath a1).map fun r => (sv r, [])) := by
  refine Ok_of3 c8 Tryd.f8 0 8 (fun q => ?_)
  unfold impl_GenPath
  refine J_g 2 [] [(0, iv a1)] [] orcN ?_
  refine J_bind (fun x2 h3 => ?_)
  refine J_g 12 [] [(0, iv a1), (5, bv (!x2))] [] (orcC 1 (x_c0 [(.tmp 3), (.const (.int .i64 1)), (.const (.int .i64 999999))] [2, 2, 2] (impl_within.ok a1 1 999999) h3) orcN) ?_
  refine J_if2 5 (fun h4 => ?_) (fun h4 => ?_)
  · refine J_g 52 [] [(2, sv (bs []))] [] orcN ?_
    exact J_r1 rfl
  · refine J_bind (fun x5 h6 => ?_)
    refine J_g 14 [] [(2, sv x5)] [] (orcC 1 (x_c0 [(.tmp 6)] [2] (impl_genPath.ok a1) h6) orcN) ?_
    exact J_r1 rfl

noncomputable def c3 : Code := (Tryd.f3.body).getD .skip

theorem laws_FnExactGenPath.ok (a1 : Int) : Ok Tryd.prog 3 [iv a1] [] ((laws_FnExactGenPath a1).map fun r => (bv r, [])) := by
  refine Ok_of3 c3 Tryd.f3 0 12 (fun q => ?_)
  unfold laws_FnExactGenPath
  refine J_g 2 [] [(0, iv a1)] [] orcN ?_
  refine J_bind (fun x2 h3 => ?_)
  refine J_g 6 [] [(0, iv a1), (3, sv x2)] [] (orcC 1 (x_c0 [(.tmp 5)] [2] (spec_GenPath.ok a1) h3) orcN) ?_
  refine J_bind (fun x4 h5 => ?_)
  refine J_g 14 [] [(3, sv x2), (4, sv x4)] [] (orcC 1 (x_c0 [(.tmp 7)] [2] (impl_GenPath.ok a1) h5) orcN) ?_
  refine J_g 60 [] [(11, bv (!(seq x4 x2)))] [] orcN ?_
  refine J_if2 11 (fun h6 => ?_) (fun h6 => ?_)
  · refine J_g 244 [] [(2, bv false)] [] orcN ?_
    exact J_r1 rfl
  · refine J_g 62 [] [(2, bv true)] [] orcN ?_
    exact J_r1 rfl

end Go.Told

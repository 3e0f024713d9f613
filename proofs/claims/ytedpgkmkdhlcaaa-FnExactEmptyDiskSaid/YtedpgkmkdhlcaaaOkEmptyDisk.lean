import Derived.Test.YtedpgkmkdhlcaaaToldEmptyDisk
import Derived.Test.YtedpgkmkdhlcaaaProg
set_option linter.unusedVariables false
set_option maxRecDepth 4000
namespace Go.Told
open Go Go.Im Go.Proofs

noncomputable def c59 : Code := (Try.f59.body).getD .skip

theorem spec_l1In.ok (a1 : Int) (a2 : Int) (a3 : Int) : Ok Try.prog 59 [iv a1, iv a2, iv a3] [] ((spec_l1In a1 a2 a3).map fun r => (bv r, [])) := by
  refine Ok_of3 c59 Try.f59 0 15 (fun q => ?_)
  unfold spec_l1In
  refine J_g 2 [] [(0, iv a1), (1, iv a2), (2, iv a3)] [] orcN ?_
  refine J_ite (fun h4 => ?_) (fun h4 => ?_)
  · refine J_g 6 [] [(6, bv (decide (a1 ≤ a3)))] [] (orcL 3 [(9, bv (decide (a1 ≥ a2)))] [] h4 orcN) ?_
    exact J_r1 rfl
  · refine J_g 6 [] [(6, bv false)] [] (orcL 3 [(9, bv (decide (a1 ≥ a2)))] [] h4 orcN) ?_
    exact J_r1 rfl

noncomputable def c13 : Code := (Try.f13.body).getD .skip

theorem spec_EmptyDisk.ok (a1 : Int) : Ok Try.prog 13 [iv a1] [] ((spec_EmptyDisk a1).map fun r => (.ag (DiskResult.enc true r), [])) := by
  refine Ok_of3 c13 Try.f13 0 10 (fun q => ?_)
  unfold spec_EmptyDisk
  refine J_g 2 [(0, 0)] [(0, iv a1), (2, pp 0)] [(0, .box [iv 0, nv, iv 0, iv 0, iv 0, bv false])] orcN ?_
  refine J_bind (fun x2 h3 => ?_)
  refine J_g 12 [] [(0, iv a1), (2, pp 0), (5, bv (!x2))] [(0, .box [iv 0, nv, iv 0, iv 0, iv 0, bv false])] (orcC 1 (x_c0 [(.tmp 3), (.const (.int .i64 0)), (.const (.int .i64 20000))] [2, 2, 2] (spec_l1In.ok a1 0 20000) h3) orcN) ?_
  refine J_if2 5 (fun h4 => ?_) (fun h4 => ?_)
  · refine J_g 52 [] [(2, pp 0)] [(0, .box [iv 3, nv, iv 0, iv 0, iv 0, bv false])] orcN ?_
    exact J_rm (ds := [.ag [iv 3, nv, iv 0, iv 0, iv 0, bv false]]) (ds' := [.ag [iv 3, so 2 (File.enc true) ([] : List File), iv 0, iv 0, iv 0, bv false]]) (.cons (.ag (.keep rfl (.nilsl true 2 (.keep rfl (.keep rfl (.keep rfl (.keep rfl (.nil)))))))) (.nil) (by decide)) rfl
  · refine J_g 14 [] [(2, pp 0)] [(0, .box [iv 0, nv, iv a1, iv 0, iv (-1), bv false])] orcN ?_
    exact J_rm (ds := [.ag [iv 0, nv, iv a1, iv 0, iv (-1), bv false]]) (ds' := [.ag [iv 0, so 2 (File.enc true) ([] : List File), iv a1, iv 0, iv (-1), bv false]]) (.cons (.ag (.keep rfl (.nilsl true 2 (.keep rfl (.keep rfl (.keep rfl (.keep rfl (.nil)))))))) (.nil) (by decide)) rfl

noncomputable def c60 : Code := (Try.f60.body).getD .skip

theorem impl_within.ok (a1 : Int) (a2 : Int) (a3 : Int) : Ok Try.prog 60 [iv a1, iv a2, iv a3] [] ((impl_within a1 a2 a3).map fun r => (bv r, [])) := by
  refine Ok_of3 c60 Try.f60 0 15 (fun q => ?_)
  unfold impl_within
  refine J_g 2 [] [(0, iv a1), (1, iv a2), (2, iv a3)] [] orcN ?_
  refine J_ite (fun h4 => ?_) (fun h4 => ?_)
  · refine J_g 6 [] [(6, bv (decide (a1 ≤ a3)))] [] (orcL 3 [(9, bv (decide (a2 ≤ a1)))] [] h4 orcN) ?_
    exact J_r1 rfl
  · refine J_g 6 [] [(6, bv false)] [] (orcL 3 [(9, bv (decide (a2 ≤ a1)))] [] h4 orcN) ?_
    exact J_r1 rfl

noncomputable def c14 : Code := (Try.f14.body).getD .skip

theorem impl_EmptyDisk.ok (a1 : Int) : Ok Try.prog 14 [iv a1] [] ((impl_EmptyDisk a1).map fun r => (.ag (DiskResult.enc true r), [])) := by
  refine Ok_of3 c14 Try.f14 0 10 (fun q => ?_)
  unfold impl_EmptyDisk
  refine J_g 2 [(0, 0)] [(0, iv a1), (2, pp 0)] [(0, .box [iv 0, nv, iv 0, iv 0, iv 0, bv false])] orcN ?_
  refine J_bind (fun x2 h3 => ?_)
  refine J_g 12 [] [(0, iv a1), (2, pp 0), (5, bv (!x2))] [(0, .box [iv 0, nv, iv 0, iv 0, iv 0, bv false])] (orcC 1 (x_c0 [(.tmp 3), (.const (.int .i64 0)), (.const (.int .i64 20000))] [2, 2, 2] (impl_within.ok a1 0 20000) h3) orcN) ?_
  refine J_if2 5 (fun h4 => ?_) (fun h4 => ?_)
  · refine J_g 52 [] [(2, pp 0)] [(0, .box [iv 3, nv, iv 0, iv 0, iv 0, bv false])] orcN ?_
    exact J_rm (ds := [.ag [iv 3, nv, iv 0, iv 0, iv 0, bv false]]) (ds' := [.ag [iv 3, so 2 (File.enc true) ([] : List File), iv 0, iv 0, iv 0, bv false]]) (.cons (.ag (.keep rfl (.nilsl true 2 (.keep rfl (.keep rfl (.keep rfl (.keep rfl (.nil)))))))) (.nil) (by decide)) rfl
  · refine J_g 14 [] [(2, pp 0)] [(0, .box [iv 0, nv, iv a1, iv 0, iv (-1), bv false])] orcN ?_
    exact J_rm (ds := [.ag [iv 0, nv, iv a1, iv 0, iv (-1), bv false]]) (ds' := [.ag [iv 0, so 2 (File.enc true) ([] : List File), iv a1, iv 0, iv (-1), bv false]]) (.cons (.ag (.keep rfl (.nilsl true 2 (.keep rfl (.keep rfl (.keep rfl (.keep rfl (.nil)))))))) (.nil) (by decide)) rfl

noncomputable def c57 : Code := (Try.f57.body).getD .skip

theorem laws_eqByteS_l1.ok (a1 : (List Int)) (a2 : (List Int)) (q : Wd) (kn : Unit → Option (D × List Ent)) (hk : ∀ v : Unit, J (q.g Try.prog 57 0 26) c57 (atI c57 15) (St.mk' [] []) (some v) kn) :
    ∀ s10 : Int, J (q.g Try.prog 57 0 26) c57 (atI c57 116) (St.mk' [(0, sl 1 eU8 a1), (1, sl 1 eU8 a2), (5, iv s10)] []) (laws_eqByteS_l1 a1 a2 s10) (Fl.go (fun r : Bool => some (bv r, [])) kn) := by
  refine J_lp (fun g ih s10 => ?_)
  unfold laws_eqByteS_l1b
  refine J_g 464 [] [(0, sl 1 eU8 a1), (1, sl 1 eU8 a2), (5, iv s10), (14, bv (decide (s10 < (a1.length : Int))))] [] orcN ?_
  refine J_if2 14 (fun h11 => ?_) (fun h11 => ?_)
  · refine J_bind (fun x12 h13 => ?_)
    refine J_bind (fun x14 h15 => ?_)
    refine J_g 1864 [] [(0, sl 1 eU8 a1), (1, sl 1 eU8 a2), (5, iv s10), (25, bv (x12 != x14))] [] (orcC 2 (x_ix (kk := .i64) 68 5 1 eU8 (.tmp 17) (.tmp 18) h13) (orcC 6 (x_ix (kk := .i64) 68 5 1 eU8 (.tmp 21) (.tmp 22) h15) orcN)) ?_
    refine J_if2 25 (fun h16 => ?_) (fun h16 => ?_)
    · refine J_g 7460 [] [(4, bv false)] [] orcN ?_
      exact J_r1 rfl
    · refine J_g 467 [] [(0, sl 1 eU8 a1), (1, sl 1 eU8 a2), (5, iv (w64 (s10 + 1)))] [] orcN ?_
      exact J_q (J_b (ih (w64 (s10 + 1)))) rfl
  · exact J_qw (hk ()) rfl

theorem laws_eqByteS.ok (a1 : (List Int)) (a2 : (List Int)) : Ok Try.prog 57 [sl 1 eU8 a1, sl 1 eU8 a2] [] ((laws_eqByteS a1 a2).map fun r => (bv r, [])) := by
  refine Ok_of3 c57 Try.f57 0 26 (fun q => ?_)
  unfold laws_eqByteS
  refine J_g 2 [] [(0, sl 1 eU8 a1), (1, sl 1 eU8 a2)] [] orcN ?_
  refine J_g 12 [] [(0, sl 1 eU8 a1), (1, sl 1 eU8 a2), (10, bv ((a1.length : Int) != (a2.length : Int)))] [] orcN ?_
  refine J_if2 10 (fun h3 => ?_) (fun h3 => ?_)
  · refine J_g 52 [] [(4, bv false)] [] orcN ?_
    exact J_r1 rfl
  · refine J_g 28 [] [(0, sl 1 eU8 a1), (1, sl 1 eU8 a2), (5, iv 0)] [] orcN ?_
    refine J_lqF (K0 := (fun r : Bool => some (bv r, []))) (fun _ => rfl) (laws_eqByteS_l1.ok a1 a2 q _ (fun v17 => J_j ?_) 0)
    refine J_g 30 [] [(4, bv true)] [] orcN ?_
    exact J_r1 rfl

noncomputable def c84 : Code := (Try.f84.body).getD .skip

theorem laws_eqFile.ok (a1 : File) (a2 : File) : Ok Try.prog 84 [.ag (File.enc false a1), .ag (File.enc false a2)] [] ((laws_eqFile a1 a2).map fun r => (bv r, [])) := by
  refine Ok_of3 c84 Try.f84 0 16 (fun q => ?_)
  unfold laws_eqFile
  refine J_g 2 [(0, 0), (1, 1)] [(2, pp 0), (3, pp 1)] [(0, .box (File.enc false a1)), (1, .box (File.enc false a2))] orcN ?_
  refine J_g 12 [] [(2, pp 0), (3, pp 1), (9, bv (!(seq a1.Path a2.Path)))] [(0, .box (File.enc false a1)), (1, .box (File.enc false a2))] orcN ?_
  refine J_if2 9 (fun h3 => ?_) (fun h3 => ?_)
  · refine J_g 52 [] [(4, bv false)] [] orcN ?_
    exact J_r1 rfl
  · refine J_bind (fun x4 h5 => ?_)
    refine J_g 28 [] [(15, bv (!x4))] [] (orcC 4 (x_c0 [(.tmp 11), (.tmp 13)] [68, 68] (laws_eqByteS.ok a1.Data a2.Data) h5) orcN) ?_
    refine J_if2 15 (fun h6 => ?_) (fun h6 => ?_)
    · refine J_g 116 [] [(4, bv false)] [] orcN ?_
      exact J_r1 rfl
    · refine J_g 30 [] [(4, bv true)] [] orcN ?_
      exact J_r1 rfl

noncomputable def c75 : Code := (Try.f75.body).getD .skip

theorem laws_eqFileS_l1.ok (a1 : (List File)) (a2 : (List File)) (q : Wd) (kn : Unit → Option (D × List Ent)) (hk : ∀ v : Unit, J (q.g Try.prog 75 0 27) c75 (atI c75 15) (St.mk' [] []) (some v) kn) :
    ∀ s12 : Int, J (q.g Try.prog 75 0 27) c75 (atI c75 116) (St.mk' [(0, sl 2 (File.enc false) a1), (1, sl 2 (File.enc false) a2), (5, iv s12)] []) (laws_eqFileS_l1 a1 a2 s12) (Fl.go (fun r : Bool => some (bv r, [])) kn) := by
  refine J_lp (fun g ih s12 => ?_)
  unfold laws_eqFileS_l1b
  refine J_g 464 [] [(0, sl 2 (File.enc false) a1), (1, sl 2 (File.enc false) a2), (5, iv s12), (14, bv (decide (s12 < (a1.length : Int))))] [] orcN ?_
  refine J_if2 14 (fun h13 => ?_) (fun h13 => ?_)
  · refine J_bind (fun x14 h15 => ?_)
    refine J_bind (fun x16 h17 => ?_)
    refine J_bind (fun x18 h19 => ?_)
    refine J_g 1864 [] [(0, sl 2 (File.enc false) a1), (1, sl 2 (File.enc false) a2), (5, iv s12), (26, bv (!x18))] [] (orcC 2 (x_ix (kk := .i64) 22 70 2 (File.enc false) (.tmp 17) (.tmp 18) h15) (orcC 6 (x_ix (kk := .i64) 22 70 2 (File.enc false) (.tmp 21) (.tmp 22) h17) (orcC 8 (x_c0 [(.tmp 20), (.tmp 24)] [70, 70] (laws_eqFile.ok x14 x16) h19) orcN))) ?_
    refine J_if2 26 (fun h20 => ?_) (fun h20 => ?_)
    · refine J_g 7460 [] [(4, bv false)] [] orcN ?_
      exact J_r1 rfl
    · refine J_g 467 [] [(0, sl 2 (File.enc false) a1), (1, sl 2 (File.enc false) a2), (5, iv (w64 (s12 + 1)))] [] orcN ?_
      exact J_q (J_b (ih (w64 (s12 + 1)))) rfl
  · exact J_qw (hk ()) rfl

theorem laws_eqFileS.ok (a1 : (List File)) (a2 : (List File)) : Ok Try.prog 75 [sl 2 (File.enc false) a1, sl 2 (File.enc false) a2] [] ((laws_eqFileS a1 a2).map fun r => (bv r, [])) := by
  refine Ok_of3 c75 Try.f75 0 27 (fun q => ?_)
  unfold laws_eqFileS
  refine J_g 2 [] [(0, sl 2 (File.enc false) a1), (1, sl 2 (File.enc false) a2)] [] orcN ?_
  refine J_g 12 [] [(0, sl 2 (File.enc false) a1), (1, sl 2 (File.enc false) a2), (10, bv ((a1.length : Int) != (a2.length : Int)))] [] orcN ?_
  refine J_if2 10 (fun h3 => ?_) (fun h3 => ?_)
  · refine J_g 52 [] [(4, bv false)] [] orcN ?_
    exact J_r1 rfl
  · refine J_g 28 [] [(0, sl 2 (File.enc false) a1), (1, sl 2 (File.enc false) a2), (5, iv 0)] [] orcN ?_
    refine J_lqF (K0 := (fun r : Bool => some (bv r, []))) (fun _ => rfl) (laws_eqFileS_l1.ok a1 a2 q _ (fun v21 => J_j ?_) 0)
    refine J_g 30 [] [(4, bv true)] [] orcN ?_
    exact J_r1 rfl

noncomputable def c34 : Code := (Try.f34.body).getD .skip

theorem laws_eqDisk.ok (a1 : Disk) (a2 : Disk) : Ok Try.prog 34 [.ag (Disk.enc false a1), .ag (Disk.enc false a2)] [] ((laws_eqDisk a1 a2).map fun r => (bv r, [])) := by
  refine Ok_of3 c34 Try.f34 0 31 (fun q => ?_)
  unfold laws_eqDisk
  refine J_g 2 [(0, 0), (1, 1)] [(2, pp 0), (3, pp 1)] [(0, .box (Disk.enc false a1)), (1, .box (Disk.enc false a2))] orcN ?_
  refine J_bind (fun x3 h4 => ?_)
  refine J_g 12 [] [(2, pp 0), (3, pp 1), (10, bv (!x3))] [(0, .box (Disk.enc false a1)), (1, .box (Disk.enc false a2))] (orcC 4 (x_c0 [(.tmp 6), (.tmp 8)] [22, 22] (laws_eqFileS.ok a1.Files a2.Files) h4) orcN) ?_
  refine J_if2 10 (fun h5 => ?_) (fun h5 => ?_)
  · refine J_g 52 [] [(4, bv false)] [] orcN ?_
    exact J_r1 rfl
  · refine J_g 28 [] [(2, pp 0), (3, pp 1), (15, bv (a1.Budget != a2.Budget))] [(0, .box (Disk.enc false a1)), (1, .box (Disk.enc false a2))] orcN ?_
    refine J_if2 15 (fun h6 => ?_) (fun h6 => ?_)
    · refine J_g 116 [] [(4, bv false)] [] orcN ?_
      exact J_r1 rfl
    · refine J_g 60 [] [(2, pp 0), (3, pp 1), (20, bv (a1.Writes != a2.Writes))] [(0, .box (Disk.enc false a1)), (1, .box (Disk.enc false a2))] orcN ?_
      refine J_if2 20 (fun h7 => ?_) (fun h7 => ?_)
      · refine J_g 244 [] [(4, bv false)] [] orcN ?_
        exact J_r1 rfl
      · refine J_g 124 [] [(2, pp 0), (3, pp 1), (25, bv (a1.Stop != a2.Stop))] [(0, .box (Disk.enc false a1)), (1, .box (Disk.enc false a2))] orcN ?_
        refine J_if2 25 (fun h8 => ?_) (fun h8 => ?_)
        · refine J_g 500 [] [(4, bv false)] [] orcN ?_
          exact J_r1 rfl
        · refine J_g 252 [] [(30, bv (!(a1.Down == a2.Down)))] [] orcN ?_
          refine J_if2 30 (fun h9 => ?_) (fun h9 => ?_)
          · refine J_g 1012 [] [(4, bv false)] [] orcN ?_
            exact J_r1 rfl
          · refine J_g 254 [] [(4, bv true)] [] orcN ?_
            exact J_r1 rfl

noncomputable def c15 : Code := (Try.f15.body).getD .skip

theorem laws_eqDiskResult.ok (a1 : DiskResult) (a2 : DiskResult) : Ok Try.prog 15 [.ag (DiskResult.enc false a1), .ag (DiskResult.enc false a2)] [] ((laws_eqDiskResult a1 a2).map fun r => (bv r, [])) := by
  refine Ok_of3 c15 Try.f15 0 16 (fun q => ?_)
  unfold laws_eqDiskResult
  refine J_g 2 [(0, 0), (1, 1)] [(2, pp 0), (3, pp 1)] [(0, .box (DiskResult.enc false a1)), (1, .box (DiskResult.enc false a2))] orcN ?_
  refine J_g 12 [] [(2, pp 0), (3, pp 1), (9, bv (a1.Code != a2.Code))] [(0, .box (DiskResult.enc false a1)), (1, .box (DiskResult.enc false a2))] orcN ?_
  refine J_if2 9 (fun h3 => ?_) (fun h3 => ?_)
  · refine J_g 52 [] [(4, bv false)] [] orcN ?_
    exact J_r1 rfl
  · refine J_bind (fun x4 h5 => ?_)
    refine J_g 28 [] [(15, bv (!x4))] [] (orcC 4 (x_c0 [(.tmp 11), (.tmp 13)] [24, 24] (laws_eqDisk.ok a1.Disk a2.Disk) h5) orcN) ?_
    refine J_if2 15 (fun h6 => ?_) (fun h6 => ?_)
    · refine J_g 116 [] [(4, bv false)] [] orcN ?_
      exact J_r1 rfl
    · refine J_g 30 [] [(4, bv true)] [] orcN ?_
      exact J_r1 rfl

noncomputable def c64 : Code := (Try.f64.body).getD .skip

theorem laws_markText_l1.ok  (q : Wd) (kn : ByteArray → Option (D × List Ent)) (hk : ∀ v : ByteArray, J (q.g Try.prog 64 0 20) c64 (atI c64 31) (St.mk' [(3, sv v)] []) (some v) kn) :
    ∀ s6 : (Int × ByteArray), J (q.g Try.prog 64 0 20) c64 (atI c64 120) (St.mk' [(0, iv s6.1), (3, sv s6.2)] []) (laws_markText_l1 s6) kn := by
  refine J_lp (fun g ih s6 => ?_)
  unfold laws_markText_l1b
  refine J_g 480 [] [(0, iv s6.1), (3, sv s6.2), (7, bv (decide (s6.1 > 0)))] [] orcN ?_
  refine J_if2 7 (fun h7 => ?_) (fun h7 => ?_)
  · refine J_bind (fun x8 h9 => ?_)
    refine J_g 964 [] [(0, iv s6.1), (3, sv x8)] [] (orcC 4 (x_bp 68 5 1 0 eU8 [IntKind.u8.wrap (w64 (48 + (s6.1.tmod 10)))] [0] [(.tmp 11)] [uv (IntKind.u8.wrap (w64 (48 + (s6.1.tmod 10))))]) (orcC 5 (x_b2sr (xs := [IntKind.u8.wrap (w64 (48 + (s6.1.tmod 10)))]) 68 9 5 0 (.tmp 12)) (orcC 7 (x_cat 9 9 (.tmp 13) (.tmp 14) h9) orcN))) ?_
    refine J_g 965 [] [(0, iv (w64 (s6.1.tdiv 10))), (3, sv x8)] [] orcN ?_
    exact J_q (J_b (ih (w64 (s6.1.tdiv 10), x8))) rfl
  · exact J_qw (hk s6.2) rfl

theorem laws_markText.ok (a1 : Int) : Ok Try.prog 64 [iv a1] [] ((laws_markText a1).map fun r => (sv r, [])) := by
  refine Ok_of3 c64 Try.f64 0 20 (fun q => ?_)
  unfold laws_markText
  refine J_g 2 [] [(0, iv a1)] [] orcN ?_
  refine J_g 12 [] [(0, iv a1), (5, bv (decide (a1 ≤ 0)))] [] orcN ?_
  refine J_if2 5 (fun h2 => ?_) (fun h2 => ?_)
  · refine J_g 52 [] [(2, sv (bs [109, 48]))] [] orcN ?_
    exact J_r1 rfl
  · refine J_g 14 [] [(0, iv a1), (3, sv (bs []))] [] orcN ?_
    refine J_lq (laws_markText_l1.ok q _ (fun v10 => J_j ?_) (a1, bs []))
    refine J_bind (fun x11 h12 => ?_)
    refine J_g 62 [] [(2, sv x11)] [] (orcC 1 (x_cat 9 9 (.const (.string (bs [109]))) (.tmp 18) h12) orcN) ?_
    exact J_r1 rfl

noncomputable def c58 : Code := (Try.f58.body).getD .skip

theorem laws_markByteSr_l1.ok  (q : Wd) (kn : ((List Int) × Int) → Option (D × List Ent)) (hk : ∀ v : ((List Int) × Int), J (q.g Try.prog 58 1 20) c58 (atI c58 7) (St.mk' [(1, iv v.2)] [(0, rE 1 eU8 v.1)]) (some v) kn) :
    ∀ s6 : ((List Int) × Int × Int), J (q.g Try.prog 58 1 20) c58 (atI c58 52) (St.mk' [(0, rr 0 s6.1), (1, iv s6.2.1), (5, iv s6.2.2)] [(0, rE 1 eU8 s6.1)]) (laws_markByteSr_l1 s6) kn := by
  refine J_lp (fun g ih s6 => ?_)
  unfold laws_markByteSr_l1b
  refine J_g 208 [] [(0, rr 0 s6.1), (1, iv s6.2.1), (5, iv s6.2.2), (9, bv (decide (s6.2.2 < (s6.1.length : Int))))] [(0, rE 1 eU8 s6.1)] orcN ?_
  refine J_if2 9 (fun h7 => ?_) (fun h7 => ?_)
  · refine J_bind (fun x8 h9 => ?_)
    refine J_g 840 [] [(0, rr 0 s6.1), (1, iv s6.2.1), (5, iv s6.2.2)] [(0, rE 1 eU8 (s6.1.set s6.2.2.toNat (IntKind.u8.wrap (s6.2.1))))] (orcC 4 (x_ixr (kk := .i64) 68 5 1 0 eU8 (.tmp 12) (.tmp 13) h9) (orcD 5 (x_st (b := IntKind.u8.wrap (s6.2.1)) 5 1 0 0 eU8 (uv (IntKind.u8.wrap (s6.2.1))) (.tmp 16) (.tmp 15) h9 rfl) orcN)) ?_
    refine J_st (σ' := St.mk' [(0, rr 0 (s6.1.set s6.2.2.toNat (IntKind.u8.wrap (s6.2.1)))), (1, iv s6.2.1), (5, iv s6.2.2)] [(0, rE 1 eU8 (s6.1.set s6.2.2.toNat (IntKind.u8.wrap (s6.2.1))))]) (by simp only [rr, List.length_set]) ?_
    refine J_g 841 [] [(0, rr 0 (s6.1.set s6.2.2.toNat (IntKind.u8.wrap (s6.2.1)))), (1, iv (w64 (s6.2.1 + 1))), (5, iv s6.2.2)] [(0, rE 1 eU8 (s6.1.set s6.2.2.toNat (IntKind.u8.wrap (s6.2.1))))] orcN ?_
    refine J_g 211 [] [(0, rr 0 (s6.1.set s6.2.2.toNat (IntKind.u8.wrap (s6.2.1)))), (1, iv (w64 (s6.2.1 + 1))), (5, iv (w64 (s6.2.2 + 1)))] [(0, rE 1 eU8 (s6.1.set s6.2.2.toNat (IntKind.u8.wrap (s6.2.1))))] orcN ?_
    exact J_q (J_b (ih (s6.1.set s6.2.2.toNat (IntKind.u8.wrap (s6.2.1)), w64 (s6.2.1 + 1), w64 (s6.2.2 + 1)))) rfl
  · exact J_qw (hk (s6.1, s6.2.1)) rfl

theorem laws_markByteSr.ok (a1 : (List Int)) (a2 : Int) : Ok Try.prog 58 [rr 0 a1, iv a2] [rE 1 eU8 a1] ((laws_markByteSr a1 a2).map fun r => (iv r.1, [rE 1 eU8 r.2])) := by
  refine Ok_of3 c58 Try.f58 1 20 (fun q => ?_)
  unfold laws_markByteSr
  refine J_g 2 [] [(0, rr 0 a1), (1, iv a2)] [(0, rE 1 eU8 a1)] orcN ?_
  refine J_g 12 [] [(0, rr 0 a1), (1, iv a2), (5, iv 0)] [(0, rE 1 eU8 a1)] orcN ?_
  refine J_lq (laws_markByteSr_l1.ok q _ (fun v10 => J_j ?_) (a1, a2, 0))
  refine J_g 14 [] [(4, iv v10.2)] [(0, rE 1 eU8 v10.1)] orcN ?_
  exact J_r1 rfl

noncomputable def c76 : Code := (Try.f76.body).getD .skip

theorem laws_markFileSr_l1.ok  (q : Wd) (kn : ((List File) × Int) → Option (D × List Ent)) (hk : ∀ v : ((List File) × Int), J (q.g Try.prog 76 1 28) c76 (atI c76 7) (St.mk' [(1, iv v.2)] [(0, rE 2 (File.enc true) v.1)]) (some v) kn) :
    ∀ s14 : ((List File) × Int × Int), J (q.g Try.prog 76 1 28) c76 (atI c76 52) (St.mk' [(0, rr 0 s14.1), (1, iv s14.2.1), (5, iv s14.2.2)] [(0, rE 2 (File.enc true) s14.1)]) (laws_markFileSr_l1 s14) kn := by
  refine J_lp (fun g ih s14 => ?_)
  unfold laws_markFileSr_l1b
  refine J_g 208 [] [(0, rr 0 s14.1), (1, iv s14.2.1), (5, iv s14.2.2), (9, bv (decide (s14.2.2 < (s14.1.length : Int))))] [(0, rE 2 (File.enc true) s14.1)] orcN ?_
  refine J_if2 9 (fun h15 => ?_) (fun h15 => ?_)
  · refine J_bind (fun x16 h17 => ?_)
    refine J_bind (fun x18 h19 => ?_)
    refine J_g 840 [] [(0, rr 0 s14.1), (1, iv s14.2.1), (5, iv s14.2.2)] [(0, rE 2 (File.enc true) (s14.1.set s14.2.2.toNat ({ Path := x16, Data := x18.Data } : File)))] (orcC 3 (x_c0 [(.tmp 14)] [3] (laws_markText.ok s14.2.1) h17) (orcC 4 (x_ixr (kk := .i64) 22 70 2 0 (File.enc true) (.tmp 12) (.tmp 13) h19) (orcD 6 (x_st (b := ({ Path := x16, Data := x18.Data } : File)) 9 2 0 0 (File.enc true) (sv x16) (.tmp 17) (.tmp 15) h19 rfl) orcN))) ?_
    refine J_st (σ' := St.mk' [(0, rr 0 (s14.1.set s14.2.2.toNat ({ Path := x16, Data := x18.Data } : File))), (1, iv s14.2.1), (5, iv s14.2.2)] [(0, rE 2 (File.enc true) (s14.1.set s14.2.2.toNat ({ Path := x16, Data := x18.Data } : File)))]) (by simp only [rr, List.length_set]) ?_
    refine J_g 1682 [] [(0, rr 0 (s14.1.set s14.2.2.toNat ({ Path := x16, Data := x18.Data } : File))), (1, iv (w64 (s14.2.1 + 1))), (5, iv s14.2.2)] [(0, rE 2 (File.enc true) (s14.1.set s14.2.2.toNat ({ Path := x16, Data := x18.Data } : File)))] orcN ?_
    refine J_bind (fun x20 h21 => ?_)
    refine J_lendT (ix := s14.2.2) (enc := (File.enc true)) 0 1 1 h21 rfl rfl (by kernel_rfl) ?_
    refine J_wk [(0, rr 0 (s14.1.set s14.2.2.toNat ({ Path := x16, Data := x18.Data } : File))), (1, iv (w64 (s14.2.1 + 1))), (5, iv s14.2.2)] [(0, .lent 2 ((s14.1.set s14.2.2.toNat ({ Path := x16, Data := x18.Data } : File)).map (File.enc true)) s14.2.2.toNat 1 1 x20.Data.length), (1, rE 1 eU8 x20.Data)] (by kernel_rfl) ?_
    refine J_bind (fun x22 h23 => ?_)
    refine J_g 1683 [] [(0, rr 0 (s14.1.set s14.2.2.toNat ({ Path := x16, Data := x18.Data } : File))), (1, iv x22.1), (5, iv s14.2.2)] [(0, .lent 2 ((s14.1.set s14.2.2.toNat ({ Path := x16, Data := x18.Data } : File)).map (File.enc true)) s14.2.2.toNat 1 1 x20.Data.length), (1, rE 1 eU8 x22.2)] (orcC 2 (x_ixl (kk := .i64) 22 70 2 0 (File.enc true) (.tmp 20) (.tmp 21) s14.2.2.toNat 1 1 x20.Data.length h21) (orcC 4 (x_ldl 68 0 (.tmp 23) 2 (File.enc true) (s14.1.set s14.2.2.toNat ({ Path := x16, Data := x18.Data } : File)) s14.2.2.toNat 1 1 x20.Data.length) (orcC 6 (x_c1 («as» := [rr 1 x20.Data, iv (w64 (s14.2.1 + 1))]) [(.tmp 24), (.tmp 25)] [68, 3] false [(1, rE 1 eU8 x20.Data)] [1] (.cons (.rf rfl) (.cons (.same rfl) (.nil))) (laws_markByteSr.ok x20.Data (w64 (s14.2.1 + 1))) h23 (.same rfl rfl)) orcN))) ?_
    refine J_bind (fun u24 h25 => ?_)
    refine J_backT (ix := s14.2.2) (enc := (File.enc true)) (b := ({ Path := x20.Path, Data := x22.2 } : File)) 0 1 1 h21 rfl rfl rfl rfl (same_len h25) (Nat.le_of_ble_eq_true rfl) ((List.length_map _).trans (same_len h25)) ?_
    refine J_wk [(0, rr 0 (s14.1.set s14.2.2.toNat ({ Path := x16, Data := x18.Data } : File))), (1, iv x22.1), (5, iv s14.2.2)] [(0, rE 2 (File.enc true) ((s14.1.set s14.2.2.toNat ({ Path := x16, Data := x18.Data } : File)).set s14.2.2.toNat ({ Path := x20.Path, Data := x22.2 } : File)))] (by kernel_rfl) ?_
    refine J_st (σ' := St.mk' [(0, rr 0 ((s14.1.set s14.2.2.toNat ({ Path := x16, Data := x18.Data } : File)).set s14.2.2.toNat ({ Path := x20.Path, Data := x22.2 } : File))), (1, iv x22.1), (5, iv s14.2.2)] [(0, rE 2 (File.enc true) ((s14.1.set s14.2.2.toNat ({ Path := x16, Data := x18.Data } : File)).set s14.2.2.toNat ({ Path := x20.Path, Data := x22.2 } : File)))]) (by simp only [rr, List.length_set]) ?_
    refine J_g 211 [] [(0, rr 0 ((s14.1.set s14.2.2.toNat ({ Path := x16, Data := x18.Data } : File)).set s14.2.2.toNat ({ Path := x20.Path, Data := x22.2 } : File))), (1, iv x22.1), (5, iv (w64 (s14.2.2 + 1)))] [(0, rE 2 (File.enc true) ((s14.1.set s14.2.2.toNat ({ Path := x16, Data := x18.Data } : File)).set s14.2.2.toNat ({ Path := x20.Path, Data := x22.2 } : File)))] orcN ?_
    exact J_q (J_b (ih ((s14.1.set s14.2.2.toNat ({ Path := x16, Data := x18.Data } : File)).set s14.2.2.toNat ({ Path := x20.Path, Data := x22.2 } : File), x22.1, w64 (s14.2.2 + 1)))) rfl
  · exact J_qw (hk (s14.1, s14.2.1)) rfl

theorem laws_markFileSr.ok (a1 : (List File)) (a2 : Int) : Ok Try.prog 76 [rr 0 a1, iv a2] [rE 2 (File.enc true) a1] ((laws_markFileSr a1 a2).map fun r => (iv r.1, [rE 2 (File.enc true) r.2])) := by
  refine Ok_of3 c76 Try.f76 1 28 (fun q => ?_)
  unfold laws_markFileSr
  refine J_g 2 [] [(0, rr 0 a1), (1, iv a2)] [(0, rE 2 (File.enc true) a1)] orcN ?_
  refine J_g 12 [] [(0, rr 0 a1), (1, iv a2), (5, iv 0)] [(0, rE 2 (File.enc true) a1)] orcN ?_
  refine J_lq (laws_markFileSr_l1.ok q _ (fun v26 => J_j ?_) (a1, a2, 0))
  refine J_g 14 [] [(4, iv v26.2)] [(0, rE 2 (File.enc true) v26.1)] orcN ?_
  exact J_r1 rfl

noncomputable def c35 : Code := (Try.f35.body).getD .skip

theorem laws_markDiskg.ok (a1 : Disk) (a2 : Int) : Ok Try.prog 35 [.ag [rr 0 a1.Files, iv a1.Budget, iv a1.Writes, iv a1.Stop, bv a1.Down], iv a2] [rE 2 (File.enc true) a1.Files] ((laws_markDiskg a1 a2).map fun r => (iv r.1, [rE 2 (File.enc true) r.2])) := by
  refine Ok_of3 c35 Try.f35 1 10 (fun q => ?_)
  unfold laws_markDiskg
  refine J_g 2 [(0, 1)] [(1, iv a2), (2, pp 1)] [(0, rE 2 (File.enc true) a1.Files), (1, .box [rr 0 a1.Files, iv a1.Budget, iv a1.Writes, iv a1.Stop, bv a1.Down])] orcN ?_
  refine J_bind (fun x3 h4 => ?_)
  refine J_g 6 [] [(1, iv x3.1)] [(0, rE 2 (File.enc true) x3.2)] (orcC 3 (x_c1 («as» := [rr 0 a1.Files, iv a2]) [(.tmp 6), (.tmp 7)] [22, 3] false [(0, rE 2 (File.enc true) a1.Files)] [0] (.cons (.rf rfl) (.cons (.same rfl) (.nil))) (laws_markFileSr.ok a1.Files a2) h4 (.same rfl rfl)) orcN) ?_
  refine J_bind (fun u5 h6 => ?_)
  refine J_g 14 [] [(4, iv x3.1)] [(0, rE 2 (File.enc true) x3.2)] orcN ?_
  exact J_r1 rfl

noncomputable def c16 : Code := (Try.f16.body).getD .skip

theorem laws_markDiskResultg.ok (a1 : DiskResult) (a2 : Int) : Ok Try.prog 16 [.ag [iv a1.Code, rr 0 a1.Disk.Files, iv a1.Disk.Budget, iv a1.Disk.Writes, iv a1.Disk.Stop, bv a1.Disk.Down], iv a2] [rE 2 (File.enc true) a1.Disk.Files] ((laws_markDiskResultg a1 a2).map fun r => (iv r.1, [rE 2 (File.enc true) r.2])) := by
  refine Ok_of3 c16 Try.f16 1 10 (fun q => ?_)
  unfold laws_markDiskResultg
  refine J_g 2 [(0, 1)] [(1, iv a2), (2, pp 1)] [(0, rE 2 (File.enc true) a1.Disk.Files), (1, .box [iv a1.Code, rr 0 a1.Disk.Files, iv a1.Disk.Budget, iv a1.Disk.Writes, iv a1.Disk.Stop, bv a1.Disk.Down])] orcN ?_
  refine J_bind (fun x3 h4 => ?_)
  refine J_g 6 [] [(1, iv x3.1)] [(0, rE 2 (File.enc true) x3.2)] (orcC 3 (x_c1 («as» := [.ag [rr 0 a1.Disk.Files, iv a1.Disk.Budget, iv a1.Disk.Writes, iv a1.Disk.Stop, bv a1.Disk.Down], iv a2]) [(.tmp 6), (.tmp 7)] [24, 3] false [(0, rE 2 (File.enc true) a1.Disk.Files)] [0] (.cons (.ag (.cons (.rf rfl) (.cons (.same rfl) (.cons (.same rfl) (.cons (.same rfl) (.cons (.same rfl) (.nil))))))) (.cons (.same rfl) (.nil))) (laws_markDiskg.ok a1.Disk a2) h4 (.same rfl rfl)) orcN) ?_
  refine J_bind (fun u5 h6 => ?_)
  refine J_g 14 [] [(4, iv x3.1)] [(0, rE 2 (File.enc true) x3.2)] orcN ?_
  exact J_r1 rfl

noncomputable def c113 : Code := (Try.f113.body).getD .skip

theorem laws_heldByteS_l1.ok (a1 : (List Int)) (q : Wd) (kn : Int → Option (D × List Ent)) (hk : ∀ v : Int, J (q.g Try.prog 113 0 22) c113 (atI c113 7) (St.mk' [(1, iv v)] []) (some v) kn) :
    ∀ s7 : (Int × Int), J (q.g Try.prog 113 0 22) c113 (atI c113 52) (St.mk' [(0, sl 1 eU8 a1), (1, iv s7.1), (5, iv s7.2)] []) (laws_heldByteS_l1 a1 s7) (Fl.go (fun r : Int => some (iv r, [])) kn) := by
  refine J_lp (fun g ih s7 => ?_)
  unfold laws_heldByteS_l1b
  refine J_g 208 [] [(0, sl 1 eU8 a1), (1, iv s7.1), (5, iv s7.2), (9, bv (decide (s7.2 < (a1.length : Int))))] [] orcN ?_
  refine J_if2 9 (fun h8 => ?_) (fun h8 => ?_)
  · refine J_bind (fun x9 h10 => ?_)
    refine J_g 1680 [] [(0, sl 1 eU8 a1), (1, iv s7.1), (5, iv s7.2), (18, bv (x9 != (IntKind.u8.wrap (s7.1))))] [] (orcC 2 (x_ix (kk := .i64) 68 5 1 eU8 (.tmp 12) (.tmp 13) h10) orcN) ?_
    refine J_if2 18 (fun h11 => ?_) (fun h11 => ?_)
    · refine J_g 6724 [] [(4, iv (-1))] [] orcN ?_
      exact J_r1 rfl
    · refine J_g 841 [] [(0, sl 1 eU8 a1), (1, iv (w64 (s7.1 + 1))), (5, iv s7.2)] [] orcN ?_
      refine J_g 211 [] [(0, sl 1 eU8 a1), (1, iv (w64 (s7.1 + 1))), (5, iv (w64 (s7.2 + 1)))] [] orcN ?_
      exact J_q (J_b (ih (w64 (s7.1 + 1), w64 (s7.2 + 1)))) rfl
  · exact J_qw (hk s7.1) rfl

theorem laws_heldByteS.ok (a1 : (List Int)) (a2 : Int) : Ok Try.prog 113 [sl 1 eU8 a1, iv a2] [] ((laws_heldByteS a1 a2).map fun r => (iv r, [])) := by
  refine Ok_of3 c113 Try.f113 0 22 (fun q => ?_)
  unfold laws_heldByteS
  refine J_g 2 [] [(0, sl 1 eU8 a1), (1, iv a2)] [] orcN ?_
  refine J_g 12 [] [(0, sl 1 eU8 a1), (1, iv a2), (5, iv 0)] [] orcN ?_
  refine J_lqF (K0 := (fun r : Int => some (iv r, []))) (fun _ => rfl) (laws_heldByteS_l1.ok a1 q _ (fun v12 => J_j ?_) (a2, 0))
  refine J_g 14 [] [(4, iv v12)] [] orcN ?_
  exact J_r1 rfl

noncomputable def c102 : Code := (Try.f102.body).getD .skip

theorem laws_heldFileS_l1.ok (a1 : (List File)) (q : Wd) (kn : Int → Option (D × List Ent)) (hk : ∀ v : Int, J (q.g Try.prog 102 0 32) c102 (atI c102 7) (St.mk' [(1, iv v)] []) (some v) kn) :
    ∀ s14 : (Int × Int), J (q.g Try.prog 102 0 32) c102 (atI c102 52) (St.mk' [(0, sl 2 (File.enc false) a1), (1, iv s14.1), (5, iv s14.2)] []) (laws_heldFileS_l1 a1 s14) (Fl.go (fun r : Int => some (iv r, [])) kn) := by
  refine J_lp (fun g ih s14 => ?_)
  unfold laws_heldFileS_l1b
  refine J_g 208 [] [(0, sl 2 (File.enc false) a1), (1, iv s14.1), (5, iv s14.2), (9, bv (decide (s14.2 < (a1.length : Int))))] [] orcN ?_
  refine J_if2 9 (fun h15 => ?_) (fun h15 => ?_)
  · refine J_bind (fun x16 h17 => ?_)
    refine J_bind (fun x18 h19 => ?_)
    refine J_g 1680 [] [(0, sl 2 (File.enc false) a1), (1, iv s14.1), (5, iv s14.2), (19, bv (!(seq x16.Path x18)))] [] (orcC 2 (x_ix (kk := .i64) 22 70 2 (File.enc false) (.tmp 12) (.tmp 13) h17) (orcC 6 (x_c0 [(.tmp 17)] [3] (laws_markText.ok s14.1) h19) orcN)) ?_
    refine J_if2 19 (fun h20 => ?_) (fun h20 => ?_)
    · refine J_g 6724 [] [(4, iv (-1))] [] orcN ?_
      exact J_r1 rfl
    · refine J_g 1682 [] [(0, sl 2 (File.enc false) a1), (1, iv (w64 (s14.1 + 1))), (5, iv s14.2)] [] orcN ?_
      refine J_bind (fun x21 h22 => ?_)
      refine J_bind (fun x23 h24 => ?_)
      refine J_g 3366 [] [(0, sl 2 (File.enc false) a1), (1, iv x23), (5, iv s14.2)] [] (orcC 2 (x_ix (kk := .i64) 22 70 2 (File.enc false) (.tmp 22) (.tmp 23) h22) (orcC 6 (x_c0 [(.tmp 26), (.tmp 27)] [68, 3] (laws_heldByteS.ok x21.Data (w64 (s14.1 + 1))) h24) orcN)) ?_
      refine J_g 6734 [] [(0, sl 2 (File.enc false) a1), (1, iv x23), (5, iv s14.2), (30, bv (decide (x23 < 0)))] [] orcN ?_
      refine J_if2 30 (fun h25 => ?_) (fun h25 => ?_)
      · refine J_g 26940 [] [(4, iv (-1))] [] orcN ?_
        exact J_r1 rfl
      · refine J_g 211 [] [(0, sl 2 (File.enc false) a1), (1, iv x23), (5, iv (w64 (s14.2 + 1)))] [] orcN ?_
        exact J_q (J_b (ih (x23, w64 (s14.2 + 1)))) rfl
  · exact J_qw (hk s14.1) rfl

theorem laws_heldFileS.ok (a1 : (List File)) (a2 : Int) : Ok Try.prog 102 [sl 2 (File.enc false) a1, iv a2] [] ((laws_heldFileS a1 a2).map fun r => (iv r, [])) := by
  refine Ok_of3 c102 Try.f102 0 32 (fun q => ?_)
  unfold laws_heldFileS
  refine J_g 2 [] [(0, sl 2 (File.enc false) a1), (1, iv a2)] [] orcN ?_
  refine J_g 12 [] [(0, sl 2 (File.enc false) a1), (1, iv a2), (5, iv 0)] [] orcN ?_
  refine J_lqF (K0 := (fun r : Int => some (iv r, []))) (fun _ => rfl) (laws_heldFileS_l1.ok a1 q _ (fun v26 => J_j ?_) (a2, 0))
  refine J_g 14 [] [(4, iv v26)] [] orcN ?_
  exact J_r1 rfl

noncomputable def c61 : Code := (Try.f61.body).getD .skip

theorem laws_heldDisk.ok (a1 : Disk) (a2 : Int) : Ok Try.prog 61 [.ag (Disk.enc false a1), iv a2] [] ((laws_heldDisk a1 a2).map fun r => (iv r, [])) := by
  refine Ok_of3 c61 Try.f61 0 12 (fun q => ?_)
  unfold laws_heldDisk
  refine J_g 2 [(0, 0)] [(1, iv a2), (2, pp 0)] [(0, .box (Disk.enc false a1))] orcN ?_
  refine J_bind (fun x3 h4 => ?_)
  refine J_g 6 [] [(1, iv x3)] [] (orcC 3 (x_c0 [(.tmp 6), (.tmp 7)] [22, 3] (laws_heldFileS.ok a1.Files a2) h4) orcN) ?_
  refine J_g 28 [] [(1, iv x3), (10, bv (decide (x3 < 0)))] [] orcN ?_
  refine J_if2 10 (fun h5 => ?_) (fun h5 => ?_)
  · refine J_g 116 [] [(4, iv (-1))] [] orcN ?_
    exact J_r1 rfl
  · refine J_g 30 [] [(4, iv x3)] [] orcN ?_
    exact J_r1 rfl

noncomputable def c17 : Code := (Try.f17.body).getD .skip

theorem laws_heldDiskResult.ok (a1 : DiskResult) (a2 : Int) : Ok Try.prog 17 [.ag (DiskResult.enc false a1), iv a2] [] ((laws_heldDiskResult a1 a2).map fun r => (iv r, [])) := by
  refine Ok_of3 c17 Try.f17 0 12 (fun q => ?_)
  unfold laws_heldDiskResult
  refine J_g 2 [(0, 0)] [(1, iv a2), (2, pp 0)] [(0, .box (DiskResult.enc false a1))] orcN ?_
  refine J_bind (fun x3 h4 => ?_)
  refine J_g 6 [] [(1, iv x3)] [] (orcC 3 (x_c0 [(.tmp 6), (.tmp 7)] [24, 3] (laws_heldDisk.ok a1.Disk a2) h4) orcN) ?_
  refine J_g 28 [] [(1, iv x3), (10, bv (decide (x3 < 0)))] [] orcN ?_
  refine J_if2 10 (fun h5 => ?_) (fun h5 => ?_)
  · refine J_g 116 [] [(4, iv (-1))] [] orcN ?_
    exact J_r1 rfl
  · refine J_g 30 [] [(4, iv x3)] [] orcN ?_
    exact J_r1 rfl

noncomputable def c3 : Code := (Try.f3.body).getD .skip

theorem laws_FnExactEmptyDisk.ok (a1 : Int) : Ok Try.prog 3 [iv a1] [] ((laws_FnExactEmptyDisk a1).map fun r => (bv r, [])) := by
  refine Ok_of3 c3 Try.f3 0 41 (fun q => ?_)
  unfold laws_FnExactEmptyDisk
  refine J_g 2 [] [(0, iv a1)] [] orcN ?_
  refine J_bind (fun x2 h3 => ?_)
  refine J_g 6 [(2, 1)] [(0, iv a1), (3, pp 1)] [(0, rE 2 (File.enc true) x2.Disk.Files), (1, .box [iv x2.Code, rr 0 x2.Disk.Files, iv x2.Disk.Budget, iv x2.Disk.Writes, iv x2.Disk.Stop, bv x2.Disk.Down])] (orcC 1 (x_c1 («as» := [iv a1]) [(.tmp 8)] [2] false [] [] (.cons (.same rfl) (.nil)) (spec_EmptyDisk.ok a1) h3 (.ag (.cons (.same rfl rfl) (.cons (.own 0) (.cons (.same rfl rfl) (.cons (.same rfl rfl) (.cons (.same rfl rfl) (.cons (.same rfl rfl) (.nil))))))))) orcN) ?_
  refine J_bind (fun x4 h5 => ?_)
  refine J_g 14 [(2, 3)] [(0, iv a1), (3, pp 1), (4, pp 3)] [(0, rE 2 (File.enc true) x2.Disk.Files), (1, .box [iv x2.Code, rr 0 x2.Disk.Files, iv x2.Disk.Budget, iv x2.Disk.Writes, iv x2.Disk.Stop, bv x2.Disk.Down]), (2, rE 2 (File.enc true) x4.Disk.Files), (3, .box [iv x4.Code, rr 2 x4.Disk.Files, iv x4.Disk.Budget, iv x4.Disk.Writes, iv x4.Disk.Stop, bv x4.Disk.Down])] (orcC 1 (x_c1 («as» := [iv a1]) [(.tmp 10)] [2] false [] [] (.cons (.same rfl) (.nil)) (impl_EmptyDisk.ok a1) h5 (.ag (.cons (.same rfl rfl) (.cons (.own 2) (.cons (.same rfl rfl) (.cons (.same rfl rfl) (.cons (.same rfl rfl) (.cons (.same rfl rfl) (.nil))))))))) orcN) ?_
  refine J_bind (fun x6 h7 => ?_)
  refine J_g 60 [] [(0, iv a1), (3, pp 1), (4, pp 3), (15, bv (!x6))] [(0, rE 2 (File.enc true) x2.Disk.Files), (1, .box [iv x2.Code, rr 0 x2.Disk.Files, iv x2.Disk.Budget, iv x2.Disk.Writes, iv x2.Disk.Stop, bv x2.Disk.Down]), (2, rE 2 (File.enc true) x4.Disk.Files), (3, .box [iv x4.Code, rr 2 x4.Disk.Files, iv x4.Disk.Budget, iv x4.Disk.Writes, iv x4.Disk.Stop, bv x4.Disk.Down])] (orcC 2 (x_c1 («as» := [.ag [iv x4.Code, rr 2 x4.Disk.Files, iv x4.Disk.Budget, iv x4.Disk.Writes, iv x4.Disk.Stop, bv x4.Disk.Down], .ag [iv x2.Code, rr 0 x2.Disk.Files, iv x2.Disk.Budget, iv x2.Disk.Writes, iv x2.Disk.Stop, bv x2.Disk.Down]]) [(.tmp 12), (.tmp 13)] [26, 26] true [(2, rE 2 (File.enc true) x4.Disk.Files), (0, rE 2 (File.enc true) x2.Disk.Files)] [] (.cons (.ag (.cons (.same rfl) (.cons (am_b (.head _) (File.ro true) rfl) (.cons (.same rfl) (.cons (.same rfl) (.cons (.same rfl) (.cons (.same rfl) (.nil)))))))) (.cons (.ag (.cons (.same rfl) (.cons (am_b (.tail _ (.head _)) (File.ro true) rfl) (.cons (.same rfl) (.cons (.same rfl) (.cons (.same rfl) (.cons (.same rfl) (.nil)))))))) (.nil))) (laws_eqDiskResult.ok x4 x2) h7 (.same rfl rfl) (hbor := fun _ => ⟨rfl, flat_sc⟩)) orcN) ?_
  refine J_if2 15 (fun h8 => ?_) (fun h8 => ?_)
  · refine J_g 244 [] [(2, bv false)] [] orcN ?_
    exact J_r1 rfl
  · refine J_g 62 [] [(0, iv a1), (3, pp 1), (4, pp 3), (5, iv 1)] [(0, rE 2 (File.enc true) x2.Disk.Files), (1, .box [iv x2.Code, rr 0 x2.Disk.Files, iv x2.Disk.Budget, iv x2.Disk.Writes, iv x2.Disk.Stop, bv x2.Disk.Down]), (2, rE 2 (File.enc true) x4.Disk.Files), (3, .box [iv x4.Code, rr 2 x4.Disk.Files, iv x4.Disk.Budget, iv x4.Disk.Writes, iv x4.Disk.Stop, bv x4.Disk.Down])] orcN ?_
    refine J_bind (fun x9 h10 => ?_)
    refine J_g 126 [] [(0, iv a1), (3, pp 1), (4, pp 3), (5, iv x9.1)] [(0, rE 2 (File.enc true) x2.Disk.Files), (1, .box [iv x2.Code, rr 0 x2.Disk.Files, iv x2.Disk.Budget, iv x2.Disk.Writes, iv x2.Disk.Stop, bv x2.Disk.Down]), (2, rE 2 (File.enc true) x9.2), (3, .box [iv x4.Code, rr 2 x4.Disk.Files, iv x4.Disk.Budget, iv x4.Disk.Writes, iv x4.Disk.Stop, bv x4.Disk.Down])] (orcC 2 (x_c1 («as» := [.ag [iv x4.Code, rr 2 x4.Disk.Files, iv x4.Disk.Budget, iv x4.Disk.Writes, iv x4.Disk.Stop, bv x4.Disk.Down], iv 1]) [(.tmp 16), (.tmp 17)] [26, 3] false [(2, rE 2 (File.enc true) x4.Disk.Files)] [2] (.cons (.ag (.cons (.same rfl) (.cons (.rf rfl) (.cons (.same rfl) (.cons (.same rfl) (.cons (.same rfl) (.cons (.same rfl) (.nil)))))))) (.cons (.same rfl) (.nil))) (laws_markDiskResultg.ok x4 1) h10 (.same rfl rfl)) orcN) ?_
    refine J_bind (fun u11 h12 => ?_)
    refine J_st (σ' := St.mk' [(0, iv a1), (3, pp 1), (4, pp 3), (5, iv x9.1)] [(0, rE 2 (File.enc true) x2.Disk.Files), (1, .box [iv x2.Code, rr 0 x2.Disk.Files, iv x2.Disk.Budget, iv x2.Disk.Writes, iv x2.Disk.Stop, bv x2.Disk.Down]), (2, rE 2 (File.enc true) x9.2), (3, .box [iv x4.Code, rr 2 x9.2, iv x4.Disk.Budget, iv x4.Disk.Writes, iv x4.Disk.Stop, bv x4.Disk.Down])]) (by simp only [rr, List.length_set, same_len h12]) ?_
    refine J_g 254 [] [(0, iv a1), (3, pp 1), (4, pp 3), (5, iv x9.1), (6, iv 1)] [(0, rE 2 (File.enc true) x2.Disk.Files), (1, .box [iv x2.Code, rr 0 x2.Disk.Files, iv x2.Disk.Budget, iv x2.Disk.Writes, iv x2.Disk.Stop, bv x2.Disk.Down]), (2, rE 2 (File.enc true) x9.2), (3, .box [iv x4.Code, rr 2 x9.2, iv x4.Disk.Budget, iv x4.Disk.Writes, iv x4.Disk.Stop, bv x4.Disk.Down])] orcN ?_
    refine J_bind (fun x13 h14 => ?_)
    refine J_g 510 [] [(0, iv a1), (3, pp 1), (4, pp 3), (5, iv x9.1), (6, iv x13)] [(0, rE 2 (File.enc true) x2.Disk.Files), (1, .box [iv x2.Code, rr 0 x2.Disk.Files, iv x2.Disk.Budget, iv x2.Disk.Writes, iv x2.Disk.Stop, bv x2.Disk.Down]), (2, rE 2 (File.enc true) x9.2), (3, .box [iv x4.Code, rr 2 x9.2, iv x4.Disk.Budget, iv x4.Disk.Writes, iv x4.Disk.Stop, bv x4.Disk.Down])] (orcC 2 (x_c1 («as» := [.ag [iv x4.Code, rr 2 x9.2, iv x4.Disk.Budget, iv x4.Disk.Writes, iv x4.Disk.Stop, bv x4.Disk.Down], iv 1]) [(.tmp 19), (.tmp 20)] [26, 3] true [(2, rE 2 (File.enc true) x9.2)] [] (.cons (.ag (.cons (.same rfl) (.cons (am_b (.head _) (File.ro true) rfl) (.cons (.same rfl) (.cons (.same rfl) (.cons (.same rfl) (.cons (.same rfl) (.nil)))))))) (.cons (.same rfl) (.nil))) (laws_heldDiskResult.ok ({ Code := x4.Code, Disk := ({ Files := x9.2, Budget := x4.Disk.Budget, Writes := x4.Disk.Writes, Stop := x4.Disk.Stop, Down := x4.Disk.Down } : Disk) } : DiskResult) 1) h14 (.same rfl rfl) (hbor := fun _ => ⟨rfl, flat_sc⟩)) orcN) ?_
    refine J_g 2044 [] [(0, iv a1), (3, pp 1), (4, pp 3), (5, iv x9.1), (6, iv x13), (23, bv (decide (x13 < 0)))] [(0, rE 2 (File.enc true) x2.Disk.Files), (1, .box [iv x2.Code, rr 0 x2.Disk.Files, iv x2.Disk.Budget, iv x2.Disk.Writes, iv x2.Disk.Stop, bv x2.Disk.Down]), (2, rE 2 (File.enc true) x9.2), (3, .box [iv x4.Code, rr 2 x9.2, iv x4.Disk.Budget, iv x4.Disk.Writes, iv x4.Disk.Stop, bv x4.Disk.Down])] orcN ?_
    refine J_if2 23 (fun h15 => ?_) (fun h15 => ?_)
    · refine J_g 8180 [] [(2, bv false)] [] orcN ?_
      exact J_r1 rfl
    · refine J_g 4092 [] [(0, iv a1), (3, pp 1), (4, pp 3), (5, iv x9.1), (26, bv (x13 != x9.1))] [(0, rE 2 (File.enc true) x2.Disk.Files), (1, .box [iv x2.Code, rr 0 x2.Disk.Files, iv x2.Disk.Budget, iv x2.Disk.Writes, iv x2.Disk.Stop, bv x2.Disk.Down]), (2, rE 2 (File.enc true) x9.2), (3, .box [iv x4.Code, rr 2 x9.2, iv x4.Disk.Budget, iv x4.Disk.Writes, iv x4.Disk.Stop, bv x4.Disk.Down])] orcN ?_
      refine J_if2 26 (fun h16 => ?_) (fun h16 => ?_)
      · refine J_g 16372 [] [(2, bv false)] [] orcN ?_
        exact J_r1 rfl
      · refine J_bind (fun x17 h18 => ?_)
        refine J_g 4094 [(2, 5)] [(3, pp 1), (4, pp 3), (5, iv x9.1), (7, pp 5)] [(0, rE 2 (File.enc true) x2.Disk.Files), (1, .box [iv x2.Code, rr 0 x2.Disk.Files, iv x2.Disk.Budget, iv x2.Disk.Writes, iv x2.Disk.Stop, bv x2.Disk.Down]), (2, rE 2 (File.enc true) x9.2), (3, .box [iv x4.Code, rr 2 x9.2, iv x4.Disk.Budget, iv x4.Disk.Writes, iv x4.Disk.Stop, bv x4.Disk.Down]), (4, rE 2 (File.enc true) x17.Disk.Files), (5, .box [iv x17.Code, rr 4 x17.Disk.Files, iv x17.Disk.Budget, iv x17.Disk.Writes, iv x17.Disk.Stop, bv x17.Disk.Down])] (orcC 1 (x_c1 («as» := [iv a1]) [(.tmp 27)] [2] false [] [] (.cons (.same rfl) (.nil)) (impl_EmptyDisk.ok a1) h18 (.ag (.cons (.same rfl rfl) (.cons (.own 4) (.cons (.same rfl rfl) (.cons (.same rfl rfl) (.cons (.same rfl rfl) (.cons (.same rfl rfl) (.nil))))))))) orcN) ?_
        refine J_bind (fun x19 h20 => ?_)
        refine J_g 16380 [] [(4, pp 3), (5, iv x9.1), (32, bv (!x19))] [(2, rE 2 (File.enc true) x9.2), (3, .box [iv x4.Code, rr 2 x9.2, iv x4.Disk.Budget, iv x4.Disk.Writes, iv x4.Disk.Stop, bv x4.Disk.Down])] (orcC 2 (x_c1 («as» := [.ag [iv x17.Code, rr 4 x17.Disk.Files, iv x17.Disk.Budget, iv x17.Disk.Writes, iv x17.Disk.Stop, bv x17.Disk.Down], .ag [iv x2.Code, rr 0 x2.Disk.Files, iv x2.Disk.Budget, iv x2.Disk.Writes, iv x2.Disk.Stop, bv x2.Disk.Down]]) [(.tmp 29), (.tmp 30)] [26, 26] true [(4, rE 2 (File.enc true) x17.Disk.Files), (0, rE 2 (File.enc true) x2.Disk.Files)] [] (.cons (.ag (.cons (.same rfl) (.cons (am_b (.head _) (File.ro true) rfl) (.cons (.same rfl) (.cons (.same rfl) (.cons (.same rfl) (.cons (.same rfl) (.nil)))))))) (.cons (.ag (.cons (.same rfl) (.cons (am_b (.tail _ (.head _)) (File.ro true) rfl) (.cons (.same rfl) (.cons (.same rfl) (.cons (.same rfl) (.cons (.same rfl) (.nil)))))))) (.nil))) (laws_eqDiskResult.ok x17 x2) h20 (.same rfl rfl) (hbor := fun _ => ⟨rfl, flat_sc⟩)) orcN) ?_
        refine J_if2 32 (fun h21 => ?_) (fun h21 => ?_)
        · refine J_g 65524 [] [(2, bv false)] [] orcN ?_
          exact J_r1 rfl
        · refine J_g 16382 [] [(4, pp 3), (5, iv x9.1), (6, iv 1)] [(2, rE 2 (File.enc true) x9.2), (3, .box [iv x4.Code, rr 2 x9.2, iv x4.Disk.Budget, iv x4.Disk.Writes, iv x4.Disk.Stop, bv x4.Disk.Down])] orcN ?_
          refine J_bind (fun x22 h23 => ?_)
          refine J_g 32766 [] [(5, iv x9.1), (6, iv x22)] [] (orcC 2 (x_c1 («as» := [.ag [iv x4.Code, rr 2 x9.2, iv x4.Disk.Budget, iv x4.Disk.Writes, iv x4.Disk.Stop, bv x4.Disk.Down], iv 1]) [(.tmp 33), (.tmp 34)] [26, 3] true [(2, rE 2 (File.enc true) x9.2)] [] (.cons (.ag (.cons (.same rfl) (.cons (am_b (.head _) (File.ro true) rfl) (.cons (.same rfl) (.cons (.same rfl) (.cons (.same rfl) (.cons (.same rfl) (.nil)))))))) (.cons (.same rfl) (.nil))) (laws_heldDiskResult.ok ({ Code := x4.Code, Disk := ({ Files := x9.2, Budget := x4.Disk.Budget, Writes := x4.Disk.Writes, Stop := x4.Disk.Stop, Down := x4.Disk.Down } : Disk) } : DiskResult) 1) h23 (.same rfl rfl) (hbor := fun _ => ⟨rfl, flat_sc⟩)) orcN) ?_
          refine J_g 131068 [] [(5, iv x9.1), (6, iv x22), (37, bv (decide (x22 < 0)))] [] orcN ?_
          refine J_if2 37 (fun h24 => ?_) (fun h24 => ?_)
          · refine J_g 524276 [] [(2, bv false)] [] orcN ?_
            exact J_r1 rfl
          · refine J_g 262140 [] [(40, bv (x22 != x9.1))] [] orcN ?_
            refine J_if2 40 (fun h25 => ?_) (fun h25 => ?_)
            · refine J_g 1048564 [] [(2, bv false)] [] orcN ?_
              exact J_r1 rfl
            · refine J_g 262142 [] [(2, bv true)] [] orcN ?_
              exact J_r1 rfl

end Go.Told

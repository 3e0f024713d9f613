import Derived.Test.YtgapldhjcgnahaaToldTotalOf
import Derived.Test.YtgapldhjcgnahaaProg
set_option linter.unusedVariables false
set_option maxRecDepth 4000
namespace Go.Told
open Go Go.Im Go.Proofs

noncomputable def c42 : Code := (Try.f42.body).getD .skip

theorem laws_szByteS.ok (a1 : (List Int)) (a2 : Int) : Ok Try.prog 42 [.s false 1 a1.length (a1.map eU8), .sc (.int .i64 a2)] [] ((laws_szByteS a1 a2).map fun r => (.sc (.int .i64 r), [])) := by
  refine Ok_of2 (fc := c42) (fn := Try.f42) (nt := 12) (by kernel_rfl) (by kernel_rfl) (by kernel_rfl) (by simp) ?_
  intro w0 N0 O0 β0
  unfold laws_szByteS
  refine J_ctl 1 [.c 2, .c 3] (by kernel_rfl) ?_
  refine J_run [] [] [(0, .s false 1 a1.length (a1.map eU8)), (1, .sc (.int .i64 a2))] [] (by kernel_rfl) trivial (by kernel_rfl) ?_
  refine J_ctl 1 [.c 6, .c 7] (by kernel_rfl) ?_
  refine J_run [] [] [(1, .sc (.int .i64 (w64 (a2 - (a1.length : Int)))))] [] (by kernel_rfl) trivial (by kernel_rfl) ?_
  refine J_ctl 2 [.c 28, .c 29, .c 15] (by kernel_rfl) ?_
  refine J_run [] [] [(1, .sc (.int .i64 (w64 (a2 - (a1.length : Int))))), (10, .sc (.bool (decide ((w64 (a2 - (a1.length : Int))) < 0))))] [] (by kernel_rfl) trivial (by kernel_rfl) ?_
  refine J_ite (fun h3 => ?_) (fun h3 => ?_)
  · refine J_lit (t := 10) (b := (decide ((w64 (a2 - (a1.length : Int))) < 0))) true rfl h3 ?_
    refine J_ctl 2 [.c 116, .c 117, .c 15] (by kernel_rfl) ?_
    refine J_run [] [] [(4, .sc (.int .i64 (-1)))] [] (by kernel_rfl) trivial (by kernel_rfl) ?_
    exact J_ret0 (fn := Try.f42) (rs := [.tmp 4]) (ds := [.sc (.int .i64 (-1))]) (ds' := [.sc (.int .i64 (-1))]) (.inr ⟨_, _, rfl, by kernel_rfl⟩) (by kernel_rfl) (by kernel_rfl) (by kernel_rfl) (.cons (.cell (.keep rfl (.nil))) (.nil) (by decide)) rfl rfl
  · refine J_lit (t := 10) (b := (decide ((w64 (a2 - (a1.length : Int))) < 0))) false rfl h3 ?_
    refine J_ctl 2 [.c 15] (by kernel_rfl) ?_
    refine J_ctl 1 [.c 30, .c 31] (by kernel_rfl) ?_
    refine J_run [] [] [(4, .sc (.int .i64 (w64 (a2 - (a1.length : Int)))))] [] (by kernel_rfl) trivial (by kernel_rfl) ?_
    exact J_ret0 (fn := Try.f42) (rs := [.tmp 4]) (ds := [.sc (.int .i64 (w64 (a2 - (a1.length : Int))))]) (ds' := [.sc (.int .i64 (w64 (a2 - (a1.length : Int))))]) (.inr ⟨_, _, rfl, by kernel_rfl⟩) (by kernel_rfl) (by kernel_rfl) (by kernel_rfl) (.cons (.cell (.keep rfl (.nil))) (.nil) (by decide)) rfl rfl

noncomputable def c27 : Code := (Try.f27.body).getD .skip

theorem laws_szFile.ok (a1 : File) (a2 : Int) : Ok Try.prog 27 [.ag [.sc (.string a1.Path), .s false 1 a1.Data.length (a1.Data.map eU8)], .sc (.int .i64 a2)] [] ((laws_szFile a1 a2).map fun r => (.sc (.int .i64 r), [])) := by
  refine Ok_of2 (fc := c27) (fn := Try.f27) (nt := 19) (by kernel_rfl) (by kernel_rfl) (by kernel_rfl) (by simp) ?_
  intro w0 N0 O0 β0
  unfold laws_szFile
  refine J_ctl 1 [.c 2, .c 3] (by kernel_rfl) ?_
  refine J_run [] [(0, 0)] [(1, .sc (.int .i64 a2)), (2, .pt 0 0 0)] [(0, .box [.sc (.string a1.Path), .s false 1 a1.Data.length (a1.Data.map eU8)])] (by kernel_rfl) trivial (by kernel_rfl) ?_
  refine J_ctl 1 [.c 6, .c 7] (by kernel_rfl) ?_
  refine J_run [] [] [(1, .sc (.int .i64 (w64 (a2 - (a1.Path.size : Int))))), (2, .pt 0 0 0)] [(0, .box [.sc (.string a1.Path), .s false 1 a1.Data.length (a1.Data.map eU8)])] (by kernel_rfl) trivial (by kernel_rfl) ?_
  refine J_ctl 2 [.c 28, .c 29, .c 15] (by kernel_rfl) ?_
  refine J_run [] [] [(1, .sc (.int .i64 (w64 (a2 - (a1.Path.size : Int))))), (2, .pt 0 0 0), (11, .sc (.bool (decide ((w64 (a2 - (a1.Path.size : Int))) < 0))))] [(0, .box [.sc (.string a1.Path), .s false 1 a1.Data.length (a1.Data.map eU8)])] (by kernel_rfl) trivial (by kernel_rfl) ?_
  refine J_ite (fun h3 => ?_) (fun h3 => ?_)
  · refine J_lit (t := 11) (b := (decide ((w64 (a2 - (a1.Path.size : Int))) < 0))) true rfl h3 ?_
    refine J_ctl 2 [.c 116, .c 117, .c 15] (by kernel_rfl) ?_
    refine J_run [] [] [(4, .sc (.int .i64 (-1)))] [] (by kernel_rfl) trivial (by kernel_rfl) ?_
    exact J_ret0 (fn := Try.f27) (rs := [.tmp 4]) (ds := [.sc (.int .i64 (-1))]) (ds' := [.sc (.int .i64 (-1))]) (.inr ⟨_, _, rfl, by kernel_rfl⟩) (by kernel_rfl) (by kernel_rfl) (by kernel_rfl) (.cons (.cell (.keep rfl (.nil))) (.nil) (by decide)) rfl rfl
  · refine J_lit (t := 11) (b := (decide ((w64 (a2 - (a1.Path.size : Int))) < 0))) false rfl h3 ?_
    refine J_ctl 2 [.c 15] (by kernel_rfl) ?_
    refine J_ctl 1 [.c 30, .c 31] (by kernel_rfl) ?_
    refine J_bind (fun x4 h5 => ?_)
    refine J_run [(3, { tn := [(13, .s false 1 a1.Data.length (a1.Data.map eU8)), (14, .sc (.int .i64 (w64 (a2 - (a1.Path.size : Int)))))], out := some (.sc (.int .i64 x4)) })] [] [(1, .sc (.int .i64 x4))] [] (by kernel_rfl) ⟨orc1 (op := .call { callee := .value (.func 42), args := #[(.tmp 13), (.tmp 14)], argTypes := #[46, 3] }) (by kernel_rfl) fun ops o hop hg => v_call («as» := [.s false 1 a1.Data.length (a1.Data.map eU8), .sc (.int .i64 (w64 (a2 - (a1.Path.size : Int))))]) (bor := false) (ids := []) (hin := []) (hout := []) (news := []) hg hop (fun _ => by kernel_rfl) rfl (fun k d hk => match k, hk with | 0, rfl => ⟨(.tmp 13), rfl, (.head _)⟩ | 1, rfl => ⟨(.tmp 14), rfl, (.tail _ (.head _))⟩ | (n + 2), hk => by simp at hk) (.cons (.same rfl) (.cons (.same rfl) (.nil))) (nodupK_spec rfl) rfl (by simp) (menAll rfl) (laws_szByteS.ok a1.Data (w64 (a2 - (a1.Path.size : Int)))) (by rw [h5]; rfl) (Nat.le_of_ble_eq_true rfl) (.same rfl rfl) (nodupK_spec rfl) rfl (le_all rfl) (by simp), trivial⟩ (by kernel_rfl) ?_
    refine J_ctl 2 [.c 124, .c 125, .c 63] (by kernel_rfl) ?_
    refine J_run [] [] [(1, .sc (.int .i64 x4)), (17, .sc (.bool (decide (x4 < 0))))] [] (by kernel_rfl) trivial (by kernel_rfl) ?_
    refine J_ite (fun h6 => ?_) (fun h6 => ?_)
    · refine J_lit (t := 17) (b := (decide (x4 < 0))) true rfl h6 ?_
      refine J_ctl 2 [.c 500, .c 501, .c 63] (by kernel_rfl) ?_
      refine J_run [] [] [(4, .sc (.int .i64 (-1)))] [] (by kernel_rfl) trivial (by kernel_rfl) ?_
      exact J_ret0 (fn := Try.f27) (rs := [.tmp 4]) (ds := [.sc (.int .i64 (-1))]) (ds' := [.sc (.int .i64 (-1))]) (.inr ⟨_, _, rfl, by kernel_rfl⟩) (by kernel_rfl) (by kernel_rfl) (by kernel_rfl) (.cons (.cell (.keep rfl (.nil))) (.nil) (by decide)) rfl rfl
    · refine J_lit (t := 17) (b := (decide (x4 < 0))) false rfl h6 ?_
      refine J_ctl 2 [.c 63] (by kernel_rfl) ?_
      refine J_ctl 1 [.c 126, .c 127] (by kernel_rfl) ?_
      refine J_run [] [] [(4, .sc (.int .i64 x4))] [] (by kernel_rfl) trivial (by kernel_rfl) ?_
      exact J_ret0 (fn := Try.f27) (rs := [.tmp 4]) (ds := [.sc (.int .i64 x4)]) (ds' := [.sc (.int .i64 x4)]) (.inr ⟨_, _, rfl, by kernel_rfl⟩) (by kernel_rfl) (by kernel_rfl) (by kernel_rfl) (.cons (.cell (.keep rfl (.nil))) (.nil) (by decide)) rfl rfl

noncomputable def c16 : Code := (Try.f16.body).getD .skip

theorem laws_szFileS_l1.ok (a1 : (List File)) (w0 : World) (N0 : Nat → Prop) (O0 : List Nat) (β0 : Nat → Im.Loc) (kn : Int → Option (D × List Ent)) (hk : ∀ v : Int, J ⟨Try.prog, 16, w0, N0, O0, 0, β0, 27⟩ c16 [.c 31] (St.mk' [(1, .sc (.int .i64 v))] []) (some v) kn) :
    ∀ s10 : (Int × Int), J ⟨Try.prog, 16, w0, N0, O0, 0, β0, 27⟩ c16 [.c 244, .l 244, .b 0, .c 31] (St.mk' [(0, .s false 2 a1.length (a1.map (File.enc false))), (1, .sc (.int .i64 s10.1)), (5, .sc (.int .i64 s10.2))] []) (laws_szFileS_l1 a1 s10) (Fl.go (fun r : Int => some (.sc (.int .i64 r), [])) kn) := by
  refine J_lp (σ := fun s10 : (Int × Int) => St.mk' [(0, .s false 2 a1.length (a1.map (File.enc false))), (1, .sc (.int .i64 s10.1)), (5, .sc (.int .i64 s10.2))] []) (fun g ih s10 => ?_)
  unfold laws_szFileS_l1b
  refine J_ctl 2 [.c 976, .c 977, .c 489, .l 244, .b 0, .c 31] (by kernel_rfl) ?_
  refine J_run [] [] [(0, .s false 2 a1.length (a1.map (File.enc false))), (1, .sc (.int .i64 s10.1)), (5, .sc (.int .i64 s10.2)), (15, .sc (.bool (decide (s10.2 < (a1.length : Int)))))] [] (by kernel_rfl) trivial (by kernel_rfl) ?_
  refine J_ite (fun h11 => ?_) (fun h11 => ?_)
  · refine J_lit (t := 15) (b := (decide (s10.2 < (a1.length : Int)))) true rfl h11 ?_
    refine J_ctl 2 [.c 489, .l 244, .b 0, .c 31] (by kernel_rfl) ?_
    refine J_ctl 3 [.c 3912, .c 3913, .b 1, .c 979, .l 244, .b 0, .c 31] (by kernel_rfl) ?_
    refine J_bind (fun x12 h13 => ?_)
    refine J_bind (fun x14 h15 => ?_)
    refine J_run [(2, { tn := [(18, .s false 2 a1.length (a1.map (File.enc false))), (19, .sc (.int .i64 s10.2))], out := some (.ps ((File.enc false) x12)) }), (5, { tn := [(21, .ag [.sc (.string x12.Path), .s false 1 x12.Data.length (x12.Data.map eU8)]), (22, .sc (.int .i64 s10.1))], out := some (.sc (.int .i64 x14)) })] [] [(0, .s false 2 a1.length (a1.map (File.enc false))), (1, .sc (.int .i64 x14)), (5, .sc (.int .i64 s10.2))] [] (by kernel_rfl) ⟨orc1 (op := .indexAddr 22 (.tmp 18) (.tmp 19)) (by kernel_rfl) fun ops o hop hg => o_index (el := 48) (enc := (File.enc false)) h13 hg hop rfl (.head _) (.tail _ (.head _)) (by kernel_rfl) (by kernel_rfl), orc1 (op := .call { callee := .value (.func 27), args := #[(.tmp 21), (.tmp 22)], argTypes := #[48, 3] }) (by kernel_rfl) fun ops o hop hg => v_call («as» := [.ag [.sc (.string x12.Path), .s false 1 x12.Data.length (x12.Data.map eU8)], .sc (.int .i64 s10.1)]) (bor := false) (ids := []) (hin := []) (hout := []) (news := []) hg hop (fun _ => by kernel_rfl) rfl (fun k d hk => match k, hk with | 0, rfl => ⟨(.tmp 21), rfl, (.head _)⟩ | 1, rfl => ⟨(.tmp 22), rfl, (.tail _ (.head _))⟩ | (n + 2), hk => by simp at hk) (.cons (.same rfl) (.cons (.same rfl) (.nil))) (nodupK_spec rfl) rfl (by simp) (menAll rfl) (laws_szFile.ok x12 s10.1) (by rw [h15]; rfl) (Nat.le_of_ble_eq_true rfl) (.same rfl rfl) (nodupK_spec rfl) rfl (le_all rfl) (by simp), trivial⟩ (by kernel_rfl) ?_
    refine J_ctl 1 [.c 7826, .c 7827, .b 1, .c 979, .l 244, .b 0, .c 31] (by kernel_rfl) ?_
    refine J_run [] [] [(0, .s false 2 a1.length (a1.map (File.enc false))), (1, .sc (.int .i64 x14)), (5, .sc (.int .i64 s10.2)), (25, .sc (.bool (decide (x14 < 0))))] [] (by kernel_rfl) trivial (by kernel_rfl) ?_
    refine J_ite (fun h16 => ?_) (fun h16 => ?_)
    · refine J_lit (t := 25) (b := (decide (x14 < 0))) true rfl h16 ?_
      refine J_ctl 2 [.c 31308, .c 31309, .b 1, .c 979, .l 244, .b 0, .c 31] (by kernel_rfl) ?_
      refine J_run [] [] [(4, .sc (.int .i64 (-1)))] [] (by kernel_rfl) trivial (by kernel_rfl) ?_
      exact J_ret0 (fn := Try.f16) (rs := [.tmp 4]) (ds := [.sc (.int .i64 (-1))]) (ds' := [.sc (.int .i64 (-1))]) (.inr ⟨_, _, rfl, by kernel_rfl⟩) (by kernel_rfl) (by kernel_rfl) (by kernel_rfl) (.cons (.cell (.keep rfl (.nil))) (.nil) (by decide)) rfl rfl
    · refine J_lit (t := 25) (b := (decide (x14 < 0))) false rfl h16 ?_
      refine J_ctl 2 [.b 1, .c 979, .l 244, .b 0, .c 31] (by kernel_rfl) ?_
      refine J_ctl 1 [.c 979, .l 244, .b 0, .c 31] (by kernel_rfl) ?_
      refine J_run [] [] [(0, .s false 2 a1.length (a1.map (File.enc false))), (1, .sc (.int .i64 x14)), (5, .sc (.int .i64 (w64 (s10.2 + 1))))] [] (by kernel_rfl) trivial (by kernel_rfl) ?_
      refine J_ctl 1 [.c 244, .l 244, .b 0, .c 31] (by kernel_rfl) ?_
      refine J_wk [(0, .s false 2 a1.length (a1.map (File.enc false))), (1, .sc (.int .i64 x14)), (5, .sc (.int .i64 (w64 (s10.2 + 1))))] [] (by kernel_rfl) ?_
      exact J_q (J_bk (ih (x14, w64 (s10.2 + 1)))) rfl
  · refine J_lit (t := 15) (b := (decide (s10.2 < (a1.length : Int)))) false rfl h11 ?_
    refine J_ctl 2 [.c 31] (by kernel_rfl) ?_
    refine J_wk [(1, .sc (.int .i64 s10.1))] [] (by kernel_rfl) ?_
    exact J_q (hk s10.1) rfl

theorem laws_szFileS.ok (a1 : (List File)) (a2 : Int) : Ok Try.prog 16 [.s false 2 a1.length (a1.map (File.enc false)), .sc (.int .i64 a2)] [] ((laws_szFileS a1 a2).map fun r => (.sc (.int .i64 r), [])) := by
  refine Ok_of2 (fc := c16) (fn := Try.f16) (nt := 27) (by kernel_rfl) (by kernel_rfl) (by kernel_rfl) (by simp) ?_
  intro w0 N0 O0 β0
  unfold laws_szFileS
  refine J_ctl 1 [.c 2, .c 3] (by kernel_rfl) ?_
  refine J_run [] [] [(0, .s false 2 a1.length (a1.map (File.enc false))), (1, .sc (.int .i64 a2))] [] (by kernel_rfl) trivial (by kernel_rfl) ?_
  refine J_ctl 1 [.c 6, .c 7] (by kernel_rfl) ?_
  refine J_run [] [] [(0, .s false 2 a1.length (a1.map (File.enc false))), (1, .sc (.int .i64 (w64 (a2 - (a1.length : Int)))))] [] (by kernel_rfl) trivial (by kernel_rfl) ?_
  refine J_ctl 2 [.c 28, .c 29, .c 15] (by kernel_rfl) ?_
  refine J_run [] [] [(0, .s false 2 a1.length (a1.map (File.enc false))), (1, .sc (.int .i64 (w64 (a2 - (a1.length : Int))))), (11, .sc (.bool (decide ((w64 (a2 - (a1.length : Int))) < 0))))] [] (by kernel_rfl) trivial (by kernel_rfl) ?_
  refine J_ite (fun h3 => ?_) (fun h3 => ?_)
  · refine J_lit (t := 11) (b := (decide ((w64 (a2 - (a1.length : Int))) < 0))) true rfl h3 ?_
    refine J_ctl 2 [.c 116, .c 117, .c 15] (by kernel_rfl) ?_
    refine J_run [] [] [(4, .sc (.int .i64 (-1)))] [] (by kernel_rfl) trivial (by kernel_rfl) ?_
    exact J_ret0 (fn := Try.f16) (rs := [.tmp 4]) (ds := [.sc (.int .i64 (-1))]) (ds' := [.sc (.int .i64 (-1))]) (.inr ⟨_, _, rfl, by kernel_rfl⟩) (by kernel_rfl) (by kernel_rfl) (by kernel_rfl) (.cons (.cell (.keep rfl (.nil))) (.nil) (by decide)) rfl rfl
  · refine J_lit (t := 11) (b := (decide ((w64 (a2 - (a1.length : Int))) < 0))) false rfl h3 ?_
    refine J_ctl 2 [.c 15] (by kernel_rfl) ?_
    refine J_ctl 2 [.c 60, .c 61, .c 31] (by kernel_rfl) ?_
    refine J_run [] [] [(0, .s false 2 a1.length (a1.map (File.enc false))), (1, .sc (.int .i64 (w64 (a2 - (a1.length : Int))))), (5, .sc (.int .i64 0))] [] (by kernel_rfl) trivial (by kernel_rfl) ?_
    refine J_ctl 1 [.c 122, .b 0, .c 31] (by kernel_rfl) ?_
    refine J_ctl 1 [.c 244, .l 244, .b 0, .c 31] (by kernel_rfl) ?_
    refine J_wk [(0, .s false 2 a1.length (a1.map (File.enc false))), (1, .sc (.int .i64 (w64 (a2 - (a1.length : Int))))), (5, .sc (.int .i64 0))] [] (by kernel_rfl) ?_
    refine J_loop (K0 := (fun r : Int => some (.sc (.int .i64 r), []))) (fun _ => rfl) ?_
    refine laws_szFileS_l1.ok a1 w0 N0 O0 β0 _ (fun v17 => J_j ?_) (w64 (a2 - (a1.length : Int)), 0)
    refine J_ctl 1 [.c 62, .c 63] (by kernel_rfl) ?_
    refine J_run [] [] [(4, .sc (.int .i64 v17))] [] (by kernel_rfl) trivial (by kernel_rfl) ?_
    exact J_ret0 (fn := Try.f16) (rs := [.tmp 4]) (ds := [.sc (.int .i64 v17)]) (ds' := [.sc (.int .i64 v17)]) (.inr ⟨_, _, rfl, by kernel_rfl⟩) (by kernel_rfl) (by kernel_rfl) (by kernel_rfl) (.cons (.cell (.keep rfl (.nil))) (.nil) (by decide)) rfl rfl

noncomputable def c6 : Code := (Try.f6.body).getD .skip

theorem laws_szDisk.ok (a1 : Disk) (a2 : Int) : Ok Try.prog 6 [.ag [.s false 2 a1.Files.length (a1.Files.map (File.enc false)), .sc (.int .i64 a1.Budget), .sc (.int .i64 a1.Writes), .sc (.int .i64 a1.Stop), .sc (.bool a1.Down)], .sc (.int .i64 a2)] [] ((laws_szDisk a1 a2).map fun r => (.sc (.int .i64 r), [])) := by
  refine Ok_of2 (fc := c6) (fn := Try.f6) (nt := 12) (by kernel_rfl) (by kernel_rfl) (by kernel_rfl) (by simp) ?_
  intro w0 N0 O0 β0
  unfold laws_szDisk
  refine J_ctl 1 [.c 2, .c 3] (by kernel_rfl) ?_
  refine J_run [] [(0, 0)] [(1, .sc (.int .i64 a2)), (2, .pt 0 0 0)] [(0, .box [.s false 2 a1.Files.length (a1.Files.map (File.enc false)), .sc (.int .i64 a1.Budget), .sc (.int .i64 a1.Writes), .sc (.int .i64 a1.Stop), .sc (.bool a1.Down)])] (by kernel_rfl) trivial (by kernel_rfl) ?_
  refine J_ctl 1 [.c 6, .c 7] (by kernel_rfl) ?_
  refine J_bind (fun x3 h4 => ?_)
  refine J_run [(3, { tn := [(6, .s false 2 a1.Files.length (a1.Files.map (File.enc false))), (7, .sc (.int .i64 a2))], out := some (.sc (.int .i64 x3)) })] [] [(1, .sc (.int .i64 x3))] [] (by kernel_rfl) ⟨orc1 (op := .call { callee := .value (.func 16), args := #[(.tmp 6), (.tmp 7)], argTypes := #[22, 3] }) (by kernel_rfl) fun ops o hop hg => v_call («as» := [.s false 2 a1.Files.length (a1.Files.map (File.enc false)), .sc (.int .i64 a2)]) (bor := false) (ids := []) (hin := []) (hout := []) (news := []) hg hop (fun _ => by kernel_rfl) rfl (fun k d hk => match k, hk with | 0, rfl => ⟨(.tmp 6), rfl, (.head _)⟩ | 1, rfl => ⟨(.tmp 7), rfl, (.tail _ (.head _))⟩ | (n + 2), hk => by simp at hk) (.cons (.same rfl) (.cons (.same rfl) (.nil))) (nodupK_spec rfl) rfl (by simp) (menAll rfl) (laws_szFileS.ok a1.Files a2) (by rw [h4]; rfl) (Nat.le_of_ble_eq_true rfl) (.same rfl rfl) (nodupK_spec rfl) rfl (le_all rfl) (by simp), trivial⟩ (by kernel_rfl) ?_
  refine J_ctl 2 [.c 28, .c 29, .c 15] (by kernel_rfl) ?_
  refine J_run [] [] [(1, .sc (.int .i64 x3)), (10, .sc (.bool (decide (x3 < 0))))] [] (by kernel_rfl) trivial (by kernel_rfl) ?_
  refine J_ite (fun h5 => ?_) (fun h5 => ?_)
  · refine J_lit (t := 10) (b := (decide (x3 < 0))) true rfl h5 ?_
    refine J_ctl 2 [.c 116, .c 117, .c 15] (by kernel_rfl) ?_
    refine J_run [] [] [(4, .sc (.int .i64 (-1)))] [] (by kernel_rfl) trivial (by kernel_rfl) ?_
    exact J_ret0 (fn := Try.f6) (rs := [.tmp 4]) (ds := [.sc (.int .i64 (-1))]) (ds' := [.sc (.int .i64 (-1))]) (.inr ⟨_, _, rfl, by kernel_rfl⟩) (by kernel_rfl) (by kernel_rfl) (by kernel_rfl) (.cons (.cell (.keep rfl (.nil))) (.nil) (by decide)) rfl rfl
  · refine J_lit (t := 10) (b := (decide (x3 < 0))) false rfl h5 ?_
    refine J_ctl 2 [.c 15] (by kernel_rfl) ?_
    refine J_ctl 1 [.c 30, .c 31] (by kernel_rfl) ?_
    refine J_run [] [] [(4, .sc (.int .i64 x3))] [] (by kernel_rfl) trivial (by kernel_rfl) ?_
    exact J_ret0 (fn := Try.f6) (rs := [.tmp 4]) (ds := [.sc (.int .i64 x3)]) (ds' := [.sc (.int .i64 x3)]) (.inr ⟨_, _, rfl, by kernel_rfl⟩) (by kernel_rfl) (by kernel_rfl) (by kernel_rfl) (.cons (.cell (.keep rfl (.nil))) (.nil) (by decide)) rfl rfl

noncomputable def c44 : Code := (Try.f44.body).getD .skip

theorem laws_toByteS_l1.ok (a1 : (List Int)) (w0 : World) (N0 : Nat → Prop) (O0 : List Nat) (β0 : Nat → Im.Loc) (kn : (List Int) → Option (D × List Ent)) (hk : ∀ v : (List Int), J ⟨Try.prog, 44, w0, N0, O0, 0, β0, 22⟩ c44 [.c 15] (St.mk' [(3, .rf 0 0 v.length none)] [(0, .row 1 (v.map eU8))]) (some v) kn) :
    ∀ s9 : ((List Int) × Int), J ⟨Try.prog, 44, w0, N0, O0, 0, β0, 22⟩ c44 [.c 116, .l 116, .b 0, .c 15] (St.mk' [(0, .s false 1 a1.length (a1.map eU8)), (3, .rf 0 0 s9.1.length none), (4, .sc (.int .i64 s9.2))] [(0, .row 1 (s9.1.map eU8))]) (laws_toByteS_l1 a1 s9) kn := by
  refine J_lp (σ := fun s9 : ((List Int) × Int) => St.mk' [(0, .s false 1 a1.length (a1.map eU8)), (3, .rf 0 0 s9.1.length none), (4, .sc (.int .i64 s9.2))] [(0, .row 1 (s9.1.map eU8))]) (fun g ih s9 => ?_)
  unfold laws_toByteS_l1b
  refine J_ctl 2 [.c 464, .c 465, .c 233, .l 116, .b 0, .c 15] (by kernel_rfl) ?_
  refine J_run [] [] [(0, .s false 1 a1.length (a1.map eU8)), (3, .rf 0 0 s9.1.length none), (4, .sc (.int .i64 s9.2)), (11, .sc (.bool (decide (s9.2 < (a1.length : Int)))))] [(0, .row 1 (s9.1.map eU8))] (by kernel_rfl) trivial (by kernel_rfl) ?_
  refine J_ite (fun h10 => ?_) (fun h10 => ?_)
  · refine J_lit (t := 11) (b := (decide (s9.2 < (a1.length : Int)))) true rfl h10 ?_
    refine J_ctl 2 [.c 233, .l 116, .b 0, .c 15] (by kernel_rfl) ?_
    refine J_ctl 2 [.c 932, .b 1, .c 467, .l 116, .b 0, .c 15] (by kernel_rfl) ?_
    refine J_bind (fun x11 h12 => ?_)
    refine J_bind (fun x13 h14 => ?_)
    refine J_run [(4, { tn := [(16, .s false 1 a1.length (a1.map eU8)), (17, .sc (.int .i64 s9.2))], out := some (.ps (eU8 x11)) }), (6, { tn := [(14, .rf 0 0 s9.1.length none), (15, .sc (.int .i64 s9.2))], hn := [(0, .row 1 (s9.1.map eU8))], out := some (.pt 0 s9.2.toNat 0) }), (7, { tn := [(20, .pt 0 s9.2.toNat 0), (19, .sc (.int .u8 x11))], hn := [(0, .row 1 (s9.1.map eU8))], hx := [0], hw := [(0, .row 1 ((s9.1.set s9.2.toNat x11).map eU8))] })] [] [(0, .s false 1 a1.length (a1.map eU8)), (3, .rf 0 0 s9.1.length none), (4, .sc (.int .i64 s9.2))] [(0, .row 1 ((s9.1.set s9.2.toNat x11).map eU8))] (by kernel_rfl) ⟨orc1 (op := .indexAddr 46 (.tmp 16) (.tmp 17)) (by kernel_rfl) fun ops o hop hg => o_index (el := 5) (enc := eU8) h12 hg hop rfl (.head _) (.tail _ (.head _)) (by kernel_rfl) (by kernel_rfl), orc1 (op := .indexAddr 46 (.tmp 14) (.tmp 15)) (by kernel_rfl) fun ops o hop hg => o_index_rf (el := 5) (enc := eU8) h14 hg hop rfl (.head _) (.tail _ (.head _)) (.head _) (by kernel_rfl) (by kernel_rfl), orc1d (op := .store 5 (.tmp 20) (.tmp 19)) (by kernel_rfl) fun ops o hop hg hds => o_store_row (enc := eU8) (b := x11) (es' := [.sc (.int .u8 x11)]) (hm := []) (ts := []) h14 hg hop hds rfl (.head _) (.tail _ (.head _)) rfl rfl (by kernel_rfl) (Nat.le_of_ble_eq_true rfl) (.head _) (.keep rfl (.nil)) (fun q hq => by simp at hq), trivial⟩ (by kernel_rfl) ?_
    refine J_st (σ' := St.mk' [(0, .s false 1 a1.length (a1.map eU8)), (3, .rf 0 0 (s9.1.set s9.2.toNat x11).length none), (4, .sc (.int .i64 s9.2))] [(0, .row 1 ((s9.1.set s9.2.toNat x11).map eU8))]) (by simp only [List.length_set]) ?_
    refine J_ctl 1 [.c 467, .l 116, .b 0, .c 15] (by kernel_rfl) ?_
    refine J_run [] [] [(0, .s false 1 a1.length (a1.map eU8)), (3, .rf 0 0 (s9.1.set s9.2.toNat x11).length none), (4, .sc (.int .i64 (w64 (s9.2 + 1))))] [(0, .row 1 ((s9.1.set s9.2.toNat x11).map eU8))] (by kernel_rfl) trivial (by kernel_rfl) ?_
    refine J_ctl 1 [.c 116, .l 116, .b 0, .c 15] (by kernel_rfl) ?_
    refine J_wk [(0, .s false 1 a1.length (a1.map eU8)), (3, .rf 0 0 (s9.1.set s9.2.toNat x11).length none), (4, .sc (.int .i64 (w64 (s9.2 + 1))))] [(0, .row 1 ((s9.1.set s9.2.toNat x11).map eU8))] (by kernel_rfl) ?_
    exact J_q (J_bk (ih (s9.1.set s9.2.toNat x11, w64 (s9.2 + 1)))) rfl
  · refine J_lit (t := 11) (b := (decide (s9.2 < (a1.length : Int)))) false rfl h10 ?_
    refine J_ctl 2 [.c 15] (by kernel_rfl) ?_
    refine J_wk [(3, .rf 0 0 s9.1.length none)] [(0, .row 1 (s9.1.map eU8))] (by kernel_rfl) ?_
    exact J_q (hk s9.1) rfl

theorem laws_toByteS.ok (a1 : (List Int)) : Ok Try.prog 44 [.s false 1 a1.length (a1.map eU8)] [] ((laws_toByteS a1).map fun r => (.s true 1 r.length (r.map eU8), [])) := by
  refine Ok_of2 (fc := c44) (fn := Try.f44) (nt := 22) (by kernel_rfl) (by kernel_rfl) (by kernel_rfl) (by simp) ?_
  intro w0 N0 O0 β0
  unfold laws_toByteS
  refine J_ctl 1 [.c 2, .c 3] (by kernel_rfl) ?_
  refine J_run [] [] [(0, .s false 1 a1.length (a1.map eU8))] [] (by kernel_rfl) trivial (by kernel_rfl) ?_
  refine J_ctl 1 [.c 6, .c 7] (by kernel_rfl) ?_
  refine J_bind (fun x2 h3 => ?_)
  refine J_run [(2, { tn := [(6, .sc (.int .i64 (a1.length : Int))), (6, .sc (.int .i64 (a1.length : Int)))], out := some (.rf 0 0 x2.length none), hw := [(0, .row 1 (x2.map eU8))], fr := [0] })] [] [(0, .s false 1 a1.length (a1.map eU8)), (3, .rf 0 0 x2.length none)] [(0, .row 1 (x2.map eU8))] (by kernel_rfl) ⟨orc1 (op := .makeSlice 46 (.tmp 6) (.tmp 6)) (by kernel_rfl) fun ops o hop hg => o_mkslice (el := 5) (bytes := 1) (zv := (pureSem Try.prog (zeroValue 5)).getD default) (enc := eU8) h3 (Nat.le_of_ble_eq_true rfl) hg hop rfl (.head _) (.tail _ (.head _)) (by kernel_rfl) (by kernel_rfl) (by kernel_rfl) (.keep rfl (.nil)) rfl, trivial⟩ (by kernel_rfl) ?_
  refine J_ctl 2 [.c 28, .c 29, .c 15] (by kernel_rfl) ?_
  refine J_run [] [] [(0, .s false 1 a1.length (a1.map eU8)), (3, .rf 0 0 x2.length none), (4, .sc (.int .i64 0))] [(0, .row 1 (x2.map eU8))] (by kernel_rfl) trivial (by kernel_rfl) ?_
  refine J_ctl 1 [.c 58, .b 0, .c 15] (by kernel_rfl) ?_
  refine J_ctl 1 [.c 116, .l 116, .b 0, .c 15] (by kernel_rfl) ?_
  refine J_wk [(0, .s false 1 a1.length (a1.map eU8)), (3, .rf 0 0 x2.length none), (4, .sc (.int .i64 0))] [(0, .row 1 (x2.map eU8))] (by kernel_rfl) ?_
  refine J_bindK ?_
  refine laws_toByteS_l1.ok a1 w0 N0 O0 β0 _ (fun v15 => J_j ?_) (x2, 0)
  refine J_ctl 1 [.c 30, .c 31] (by kernel_rfl) ?_
  refine J_run [] [] [(2, .rf 0 0 v15.length none)] [(0, .row 1 (v15.map eU8))] (by kernel_rfl) trivial (by kernel_rfl) ?_
  exact J_ret0 (fn := Try.f44) (rs := [.tmp 2]) (ds := [.rf 0 0 v15.length none]) (ds' := [.s true 1 v15.length (v15.map eU8)]) (.inr ⟨_, _, rfl, by kernel_rfl⟩) (by kernel_rfl) (by kernel_rfl) (by kernel_rfl) (.cons (.cell (.move (.head _) (List.length_map _) (by decide) (.nil))) (.nil) (by decide)) rfl rfl

noncomputable def c30 : Code := (Try.f30.body).getD .skip

theorem laws_toFile.ok (a1 : File) : Ok Try.prog 30 [.ag [.sc (.string a1.Path), .s false 1 a1.Data.length (a1.Data.map eU8)]] [] ((laws_toFile a1).map fun r => (.ag [.sc (.string r.Path), .s true 1 r.Data.length (r.Data.map eU8)], [])) := by
  refine Ok_of2 (fc := c30) (fn := Try.f30) (nt := 12) (by kernel_rfl) (by kernel_rfl) (by kernel_rfl) (by simp) ?_
  intro w0 N0 O0 β0
  unfold laws_toFile
  refine J_ctl 1 [.c 2, .c 3] (by kernel_rfl) ?_
  refine J_run [] [(0, 0), (1, 1)] [(1, .pt 0 0 0), (2, .pt 1 0 0)] [(0, .box [.sc (.string a1.Path), .s false 1 a1.Data.length (a1.Data.map eU8)]), (1, .box [.sc (.string ByteArray.empty), .sc (.slice none 0 0)])] (by kernel_rfl) trivial (by kernel_rfl) ?_
  refine J_ctl 1 [.c 6, .c 7] (by kernel_rfl) ?_
  refine J_run [] [(0, 2)] [(1, .pt 0 0 0), (2, .pt 1 0 0), (3, .pt 2 0 0)] [(0, .box [.sc (.string a1.Path), .s false 1 a1.Data.length (a1.Data.map eU8)]), (1, .box [.sc (.string ByteArray.empty), .sc (.slice none 0 0)]), (2, .box [.sc (.string ByteArray.empty), .sc (.slice none 0 0)])] (by kernel_rfl) trivial (by kernel_rfl) ?_
  refine J_ctl 1 [.c 14, .c 15] (by kernel_rfl) ?_
  refine J_run [] [] [(1, .pt 0 0 0), (2, .pt 1 0 0), (3, .pt 2 0 0)] [(0, .box [.sc (.string a1.Path), .s false 1 a1.Data.length (a1.Data.map eU8)]), (1, .box [.sc (.string ByteArray.empty), .sc (.slice none 0 0)]), (2, .box [.sc (.string a1.Path), .sc (.slice none 0 0)])] (by kernel_rfl) trivial (by kernel_rfl) ?_
  refine J_ctl 1 [.c 30, .c 31] (by kernel_rfl) ?_
  refine J_bind (fun x2 h3 => ?_)
  refine J_run [(2, { tn := [(8, .s false 1 a1.Data.length (a1.Data.map eU8))], out := some (.rf 3 0 x2.length none), hw := [(3, .row 1 (x2.map eU8))], fr := [3] })] [] [(2, .pt 1 0 0), (3, .pt 2 0 0)] [(1, .box [.sc (.string ByteArray.empty), .sc (.slice none 0 0)]), (2, .box [.sc (.string a1.Path), .rf 3 0 x2.length none]), (3, .row 1 (x2.map eU8))] (by kernel_rfl) ⟨orc1 (op := .call { callee := .value (.func 44), args := #[(.tmp 8)], argTypes := #[46] }) (by kernel_rfl) fun ops o hop hg => v_call («as» := [.s false 1 a1.Data.length (a1.Data.map eU8)]) (bor := false) (ids := []) (hin := []) (hout := []) (news := [(3, .row 1 (x2.map eU8))]) hg hop (fun _ => by kernel_rfl) rfl (fun k d hk => match k, hk with | 0, rfl => ⟨(.tmp 8), rfl, (.head _)⟩ | (n + 1), hk => by simp at hk) (.cons (.same rfl) (.nil)) (nodupK_spec rfl) rfl (by simp) (menAll rfl) (laws_toByteS.ok a1.Data) (by rw [h3]; rfl) (Nat.le_of_ble_eq_true rfl) (.own 3) (nodupK_spec rfl) rfl (le_all rfl) (by simp), trivial⟩ (by kernel_rfl) ?_
  refine J_ctl 1 [.c 62, .c 63] (by kernel_rfl) ?_
  refine J_run [] [] [(2, .pt 1 0 0)] [(1, .box [.sc (.string a1.Path), .rf 3 0 x2.length none]), (3, .row 1 (x2.map eU8))] (by kernel_rfl) trivial (by kernel_rfl) ?_
  exact J_ret0 (fn := Try.f30) (rs := [.cell 2 51]) (ds := [.ag [.sc (.string a1.Path), .rf 3 0 x2.length none]]) (ds' := [.ag [.sc (.string a1.Path), .s true 1 x2.length (x2.map eU8)]]) (.inr ⟨_, _, rfl, by kernel_rfl⟩) (by kernel_rfl) (by kernel_rfl) (by kernel_rfl) (.cons (.ag (.keep rfl (.move (.tail _ (.head _)) (List.length_map _) (by decide) (.nil)))) (.nil) (by decide)) rfl rfl

noncomputable def c19 : Code := (Try.f19.body).getD .skip

theorem laws_toFileS_l1.ok (a1 : (List File)) (w0 : World) (N0 : Nat → Prop) (O0 : List Nat) (β0 : Nat → Im.Loc) (kn : (List File) → Option (D × List Ent)) (hk : ∀ v : (List File), J ⟨Try.prog, 19, w0, N0, O0, 0, β0, 23⟩ c19 [.c 15] (St.mk' [(3, .rf 0 0 v.length none)] [(0, .row 2 (v.map (File.enc true)))]) (some v) kn) :
    ∀ s11 : ((List File) × Int), J ⟨Try.prog, 19, w0, N0, O0, 0, β0, 23⟩ c19 [.c 116, .l 116, .b 0, .c 15] (St.mk' [(0, .s false 2 a1.length (a1.map (File.enc false))), (3, .rf 0 0 s11.1.length none), (4, .sc (.int .i64 s11.2))] [(0, .row 2 (s11.1.map (File.enc true)))]) (laws_toFileS_l1 a1 s11) kn := by
  refine J_lp (σ := fun s11 : ((List File) × Int) => St.mk' [(0, .s false 2 a1.length (a1.map (File.enc false))), (3, .rf 0 0 s11.1.length none), (4, .sc (.int .i64 s11.2))] [(0, .row 2 (s11.1.map (File.enc true)))]) (fun g ih s11 => ?_)
  unfold laws_toFileS_l1b
  refine J_ctl 2 [.c 464, .c 465, .c 233, .l 116, .b 0, .c 15] (by kernel_rfl) ?_
  refine J_run [] [] [(0, .s false 2 a1.length (a1.map (File.enc false))), (3, .rf 0 0 s11.1.length none), (4, .sc (.int .i64 s11.2)), (11, .sc (.bool (decide (s11.2 < (a1.length : Int)))))] [(0, .row 2 (s11.1.map (File.enc true)))] (by kernel_rfl) trivial (by kernel_rfl) ?_
  refine J_ite (fun h12 => ?_) (fun h12 => ?_)
  · refine J_lit (t := 11) (b := (decide (s11.2 < (a1.length : Int)))) true rfl h12 ?_
    refine J_ctl 2 [.c 233, .l 116, .b 0, .c 15] (by kernel_rfl) ?_
    refine J_ctl 2 [.c 932, .b 1, .c 467, .l 116, .b 0, .c 15] (by kernel_rfl) ?_
    refine J_bind (fun x13 h14 => ?_)
    refine J_bind (fun x15 h16 => ?_)
    refine J_bind (fun x17 h18 => ?_)
    refine J_run [(4, { tn := [(16, .s false 2 a1.length (a1.map (File.enc false))), (17, .sc (.int .i64 s11.2))], out := some (.ps ((File.enc false) x13)) }), (6, { tn := [(19, .ag [.sc (.string x13.Path), .s false 1 x13.Data.length (x13.Data.map eU8)])], out := some (.ag [.sc (.string x15.Path), .rf 1 0 x15.Data.length none]), hw := [(1, .row 1 (x15.Data.map eU8))], fr := [1] }), (7, { tn := [(14, .rf 0 0 s11.1.length none), (15, .sc (.int .i64 s11.2))], hn := [(0, .row 2 (s11.1.map (File.enc true)))], out := some (.pt 0 s11.2.toNat 0) }), (8, { tn := [(21, .pt 0 s11.2.toNat 0), (20, .ag [.sc (.string x15.Path), .rf 1 0 x15.Data.length none])], hn := [(0, .row 2 (s11.1.map (File.enc true))), (1, .row 1 (x15.Data.map eU8))], hx := [0, 1], hw := [(0, .row 2 ((s11.1.set s11.2.toNat x15).map (File.enc true)))] })] [] [(0, .s false 2 a1.length (a1.map (File.enc false))), (3, .rf 0 0 s11.1.length none), (4, .sc (.int .i64 s11.2))] [(0, .row 2 ((s11.1.set s11.2.toNat x15).map (File.enc true)))] (by kernel_rfl) ⟨orc1 (op := .indexAddr 22 (.tmp 16) (.tmp 17)) (by kernel_rfl) fun ops o hop hg => o_index (el := 48) (enc := (File.enc false)) h14 hg hop rfl (.head _) (.tail _ (.head _)) (by kernel_rfl) (by kernel_rfl), orc1 (op := .call { callee := .value (.func 30), args := #[(.tmp 19)], argTypes := #[48] }) (by kernel_rfl) fun ops o hop hg => v_call («as» := [.ag [.sc (.string x13.Path), .s false 1 x13.Data.length (x13.Data.map eU8)]]) (bor := false) (ids := []) (hin := []) (hout := []) (news := [(1, .row 1 (x15.Data.map eU8))]) hg hop (fun _ => by kernel_rfl) rfl (fun k d hk => match k, hk with | 0, rfl => ⟨(.tmp 19), rfl, (.head _)⟩ | (n + 1), hk => by simp at hk) (.cons (.same rfl) (.nil)) (nodupK_spec rfl) rfl (by simp) (menAll rfl) (laws_toFile.ok x13) (by rw [h16]; rfl) (Nat.le_of_ble_eq_true rfl) (.ag (.cons (.same rfl rfl) (.cons (.own 1) (.nil)))) (nodupK_spec rfl) rfl (le_all rfl) (by simp), orc1 (op := .indexAddr 29 (.tmp 14) (.tmp 15)) (by kernel_rfl) fun ops o hop hg => o_index_rf (el := 51) (enc := (File.enc true)) h18 hg hop rfl (.head _) (.tail _ (.head _)) (.head _) (by kernel_rfl) (by kernel_rfl), orc1d (op := .store 51 (.tmp 21) (.tmp 20)) (by kernel_rfl) fun ops o hop hg hds => o_store_row (enc := (File.enc true)) (b := x15) (es' := [.sc (.string x15.Path), .s true 1 x15.Data.length (x15.Data.map eU8)]) (hm := [(1, .row 1 (x15.Data.map eU8))]) (ts := [1]) h18 hg hop hds rfl (.head _) (.tail _ (.head _)) rfl rfl (by kernel_rfl) (Nat.le_of_ble_eq_true rfl) (.head _) (.keep rfl (.move (.head _) (List.length_map _) (by decide) (.nil))) (fun q hq => ⟨List.mem_cons_of_mem _ hq, mem_ne rfl q hq⟩), trivial⟩ (by kernel_rfl) ?_
    refine J_st (σ' := St.mk' [(0, .s false 2 a1.length (a1.map (File.enc false))), (3, .rf 0 0 (s11.1.set s11.2.toNat x15).length none), (4, .sc (.int .i64 s11.2))] [(0, .row 2 ((s11.1.set s11.2.toNat x15).map (File.enc true)))]) (by simp only [List.length_set]) ?_
    refine J_ctl 1 [.c 467, .l 116, .b 0, .c 15] (by kernel_rfl) ?_
    refine J_run [] [] [(0, .s false 2 a1.length (a1.map (File.enc false))), (3, .rf 0 0 (s11.1.set s11.2.toNat x15).length none), (4, .sc (.int .i64 (w64 (s11.2 + 1))))] [(0, .row 2 ((s11.1.set s11.2.toNat x15).map (File.enc true)))] (by kernel_rfl) trivial (by kernel_rfl) ?_
    refine J_ctl 1 [.c 116, .l 116, .b 0, .c 15] (by kernel_rfl) ?_
    refine J_wk [(0, .s false 2 a1.length (a1.map (File.enc false))), (3, .rf 0 0 (s11.1.set s11.2.toNat x15).length none), (4, .sc (.int .i64 (w64 (s11.2 + 1))))] [(0, .row 2 ((s11.1.set s11.2.toNat x15).map (File.enc true)))] (by kernel_rfl) ?_
    exact J_q (J_bk (ih (s11.1.set s11.2.toNat x15, w64 (s11.2 + 1)))) rfl
  · refine J_lit (t := 11) (b := (decide (s11.2 < (a1.length : Int)))) false rfl h12 ?_
    refine J_ctl 2 [.c 15] (by kernel_rfl) ?_
    refine J_wk [(3, .rf 0 0 s11.1.length none)] [(0, .row 2 (s11.1.map (File.enc true)))] (by kernel_rfl) ?_
    exact J_q (hk s11.1) rfl

theorem laws_toFileS.ok (a1 : (List File)) : Ok Try.prog 19 [.s false 2 a1.length (a1.map (File.enc false))] [] ((laws_toFileS a1).map fun r => (.s true 2 r.length (r.map (File.enc true)), [])) := by
  refine Ok_of2 (fc := c19) (fn := Try.f19) (nt := 23) (by kernel_rfl) (by kernel_rfl) (by kernel_rfl) (by simp) ?_
  intro w0 N0 O0 β0
  unfold laws_toFileS
  refine J_ctl 1 [.c 2, .c 3] (by kernel_rfl) ?_
  refine J_run [] [] [(0, .s false 2 a1.length (a1.map (File.enc false)))] [] (by kernel_rfl) trivial (by kernel_rfl) ?_
  refine J_ctl 1 [.c 6, .c 7] (by kernel_rfl) ?_
  refine J_bind (fun x2 h3 => ?_)
  refine J_run [(2, { tn := [(6, .sc (.int .i64 (a1.length : Int))), (6, .sc (.int .i64 (a1.length : Int)))], out := some (.rf 0 0 x2.length none), hw := [(0, .row 2 (x2.map (File.enc true)))], fr := [0] })] [] [(0, .s false 2 a1.length (a1.map (File.enc false))), (3, .rf 0 0 x2.length none)] [(0, .row 2 (x2.map (File.enc true)))] (by kernel_rfl) ⟨orc1 (op := .makeSlice 29 (.tmp 6) (.tmp 6)) (by kernel_rfl) fun ops o hop hg => o_mkslice (el := 51) (bytes := 40) (zv := (pureSem Try.prog (zeroValue 51)).getD default) (enc := (File.enc true)) h3 (Nat.le_of_ble_eq_true rfl) hg hop rfl (.head _) (.tail _ (.head _)) (by kernel_rfl) (by kernel_rfl) (by kernel_rfl) (.keep rfl (.nilsl true 1 (.nil))) rfl, trivial⟩ (by kernel_rfl) ?_
  refine J_ctl 2 [.c 28, .c 29, .c 15] (by kernel_rfl) ?_
  refine J_run [] [] [(0, .s false 2 a1.length (a1.map (File.enc false))), (3, .rf 0 0 x2.length none), (4, .sc (.int .i64 0))] [(0, .row 2 (x2.map (File.enc true)))] (by kernel_rfl) trivial (by kernel_rfl) ?_
  refine J_ctl 1 [.c 58, .b 0, .c 15] (by kernel_rfl) ?_
  refine J_ctl 1 [.c 116, .l 116, .b 0, .c 15] (by kernel_rfl) ?_
  refine J_wk [(0, .s false 2 a1.length (a1.map (File.enc false))), (3, .rf 0 0 x2.length none), (4, .sc (.int .i64 0))] [(0, .row 2 (x2.map (File.enc true)))] (by kernel_rfl) ?_
  refine J_bindK ?_
  refine laws_toFileS_l1.ok a1 w0 N0 O0 β0 _ (fun v19 => J_j ?_) (x2, 0)
  refine J_ctl 1 [.c 30, .c 31] (by kernel_rfl) ?_
  refine J_run [] [] [(2, .rf 0 0 v19.length none)] [(0, .row 2 (v19.map (File.enc true)))] (by kernel_rfl) trivial (by kernel_rfl) ?_
  exact J_ret0 (fn := Try.f19) (rs := [.tmp 2]) (ds := [.rf 0 0 v19.length none]) (ds' := [.s true 2 v19.length (v19.map (File.enc true))]) (.inr ⟨_, _, rfl, by kernel_rfl⟩) (by kernel_rfl) (by kernel_rfl) (by kernel_rfl) (.cons (.cell (.move (.head _) (List.length_map _) (by decide) (.nil))) (.nil) (by decide)) rfl rfl

noncomputable def c8 : Code := (Try.f8.body).getD .skip

theorem laws_toDisk.ok (a1 : Disk) : Ok Try.prog 8 [.ag [.s false 2 a1.Files.length (a1.Files.map (File.enc false)), .sc (.int .i64 a1.Budget), .sc (.int .i64 a1.Writes), .sc (.int .i64 a1.Stop), .sc (.bool a1.Down)]] [] ((laws_toDisk a1).map fun r => (.ag [.s true 2 r.Files.length (r.Files.map (File.enc true)), .sc (.int .i64 r.Budget), .sc (.int .i64 r.Writes), .sc (.int .i64 r.Stop), .sc (.bool r.Down)], [])) := by
  refine Ok_of2 (fc := c8) (fn := Try.f8) (nt := 21) (by kernel_rfl) (by kernel_rfl) (by kernel_rfl) (by simp) ?_
  intro w0 N0 O0 β0
  unfold laws_toDisk
  refine J_ctl 1 [.c 2, .c 3] (by kernel_rfl) ?_
  refine J_run [] [(0, 0), (1, 1)] [(1, .pt 0 0 0), (2, .pt 1 0 0)] [(0, .box [.s false 2 a1.Files.length (a1.Files.map (File.enc false)), .sc (.int .i64 a1.Budget), .sc (.int .i64 a1.Writes), .sc (.int .i64 a1.Stop), .sc (.bool a1.Down)]), (1, .box [.sc (.slice none 0 0), .sc (.int .i64 0), .sc (.int .i64 0), .sc (.int .i64 0), .sc (.bool false)])] (by kernel_rfl) trivial (by kernel_rfl) ?_
  refine J_ctl 1 [.c 6, .c 7] (by kernel_rfl) ?_
  refine J_run [] [(0, 2)] [(1, .pt 0 0 0), (2, .pt 1 0 0), (3, .pt 2 0 0)] [(0, .box [.s false 2 a1.Files.length (a1.Files.map (File.enc false)), .sc (.int .i64 a1.Budget), .sc (.int .i64 a1.Writes), .sc (.int .i64 a1.Stop), .sc (.bool a1.Down)]), (1, .box [.sc (.slice none 0 0), .sc (.int .i64 0), .sc (.int .i64 0), .sc (.int .i64 0), .sc (.bool false)]), (2, .box [.sc (.slice none 0 0), .sc (.int .i64 0), .sc (.int .i64 0), .sc (.int .i64 0), .sc (.bool false)])] (by kernel_rfl) trivial (by kernel_rfl) ?_
  refine J_ctl 1 [.c 14, .c 15] (by kernel_rfl) ?_
  refine J_bind (fun x2 h3 => ?_)
  refine J_run [(2, { tn := [(5, .s false 2 a1.Files.length (a1.Files.map (File.enc false)))], out := some (.rf 3 0 x2.length none), hw := [(3, .row 2 (x2.map (File.enc true)))], fr := [3] })] [] [(1, .pt 0 0 0), (2, .pt 1 0 0), (3, .pt 2 0 0)] [(0, .box [.s false 2 a1.Files.length (a1.Files.map (File.enc false)), .sc (.int .i64 a1.Budget), .sc (.int .i64 a1.Writes), .sc (.int .i64 a1.Stop), .sc (.bool a1.Down)]), (1, .box [.sc (.slice none 0 0), .sc (.int .i64 0), .sc (.int .i64 0), .sc (.int .i64 0), .sc (.bool false)]), (2, .box [.rf 3 0 x2.length none, .sc (.int .i64 0), .sc (.int .i64 0), .sc (.int .i64 0), .sc (.bool false)]), (3, .row 2 (x2.map (File.enc true)))] (by kernel_rfl) ⟨orc1 (op := .call { callee := .value (.func 19), args := #[(.tmp 5)], argTypes := #[22] }) (by kernel_rfl) fun ops o hop hg => v_call («as» := [.s false 2 a1.Files.length (a1.Files.map (File.enc false))]) (bor := false) (ids := []) (hin := []) (hout := []) (news := [(3, .row 2 (x2.map (File.enc true)))]) hg hop (fun _ => by kernel_rfl) rfl (fun k d hk => match k, hk with | 0, rfl => ⟨(.tmp 5), rfl, (.head _)⟩ | (n + 1), hk => by simp at hk) (.cons (.same rfl) (.nil)) (nodupK_spec rfl) rfl (by simp) (menAll rfl) (laws_toFileS.ok a1.Files) (by rw [h3]; rfl) (Nat.le_of_ble_eq_true rfl) (.own 3) (nodupK_spec rfl) rfl (le_all rfl) (by simp), trivial⟩ (by kernel_rfl) ?_
  refine J_ctl 1 [.c 30, .c 31] (by kernel_rfl) ?_
  refine J_run [] [] [(1, .pt 0 0 0), (2, .pt 1 0 0), (3, .pt 2 0 0)] [(0, .box [.s false 2 a1.Files.length (a1.Files.map (File.enc false)), .sc (.int .i64 a1.Budget), .sc (.int .i64 a1.Writes), .sc (.int .i64 a1.Stop), .sc (.bool a1.Down)]), (1, .box [.sc (.slice none 0 0), .sc (.int .i64 0), .sc (.int .i64 0), .sc (.int .i64 0), .sc (.bool false)]), (2, .box [.rf 3 0 x2.length none, .sc (.int .i64 a1.Budget), .sc (.int .i64 0), .sc (.int .i64 0), .sc (.bool false)]), (3, .row 2 (x2.map (File.enc true)))] (by kernel_rfl) trivial (by kernel_rfl) ?_
  refine J_ctl 1 [.c 62, .c 63] (by kernel_rfl) ?_
  refine J_run [] [] [(1, .pt 0 0 0), (2, .pt 1 0 0), (3, .pt 2 0 0)] [(0, .box [.s false 2 a1.Files.length (a1.Files.map (File.enc false)), .sc (.int .i64 a1.Budget), .sc (.int .i64 a1.Writes), .sc (.int .i64 a1.Stop), .sc (.bool a1.Down)]), (1, .box [.sc (.slice none 0 0), .sc (.int .i64 0), .sc (.int .i64 0), .sc (.int .i64 0), .sc (.bool false)]), (2, .box [.rf 3 0 x2.length none, .sc (.int .i64 a1.Budget), .sc (.int .i64 a1.Writes), .sc (.int .i64 0), .sc (.bool false)]), (3, .row 2 (x2.map (File.enc true)))] (by kernel_rfl) trivial (by kernel_rfl) ?_
  refine J_ctl 1 [.c 126, .c 127] (by kernel_rfl) ?_
  refine J_run [] [] [(1, .pt 0 0 0), (2, .pt 1 0 0), (3, .pt 2 0 0)] [(0, .box [.s false 2 a1.Files.length (a1.Files.map (File.enc false)), .sc (.int .i64 a1.Budget), .sc (.int .i64 a1.Writes), .sc (.int .i64 a1.Stop), .sc (.bool a1.Down)]), (1, .box [.sc (.slice none 0 0), .sc (.int .i64 0), .sc (.int .i64 0), .sc (.int .i64 0), .sc (.bool false)]), (2, .box [.rf 3 0 x2.length none, .sc (.int .i64 a1.Budget), .sc (.int .i64 a1.Writes), .sc (.int .i64 a1.Stop), .sc (.bool false)]), (3, .row 2 (x2.map (File.enc true)))] (by kernel_rfl) trivial (by kernel_rfl) ?_
  refine J_ctl 1 [.c 254, .c 255] (by kernel_rfl) ?_
  refine J_run [] [] [(2, .pt 1 0 0), (3, .pt 2 0 0)] [(1, .box [.sc (.slice none 0 0), .sc (.int .i64 0), .sc (.int .i64 0), .sc (.int .i64 0), .sc (.bool false)]), (2, .box [.rf 3 0 x2.length none, .sc (.int .i64 a1.Budget), .sc (.int .i64 a1.Writes), .sc (.int .i64 a1.Stop), .sc (.bool a1.Down)]), (3, .row 2 (x2.map (File.enc true)))] (by kernel_rfl) trivial (by kernel_rfl) ?_
  refine J_ctl 1 [.c 510, .c 511] (by kernel_rfl) ?_
  refine J_run [] [] [(2, .pt 1 0 0)] [(1, .box [.rf 3 0 x2.length none, .sc (.int .i64 a1.Budget), .sc (.int .i64 a1.Writes), .sc (.int .i64 a1.Stop), .sc (.bool a1.Down)]), (3, .row 2 (x2.map (File.enc true)))] (by kernel_rfl) trivial (by kernel_rfl) ?_
  exact J_ret0 (fn := Try.f8) (rs := [.cell 2 31]) (ds := [.ag [.rf 3 0 x2.length none, .sc (.int .i64 a1.Budget), .sc (.int .i64 a1.Writes), .sc (.int .i64 a1.Stop), .sc (.bool a1.Down)]]) (ds' := [.ag [.s true 2 x2.length (x2.map (File.enc true)), .sc (.int .i64 a1.Budget), .sc (.int .i64 a1.Writes), .sc (.int .i64 a1.Stop), .sc (.bool a1.Down)]]) (.inr ⟨_, _, rfl, by kernel_rfl⟩) (by kernel_rfl) (by kernel_rfl) (by kernel_rfl) (.cons (.ag (.move (.tail _ (.head _)) (List.length_map _) (by decide) (.keep rfl (.keep rfl (.keep rfl (.keep rfl (.nil))))))) (.nil) (by decide)) rfl rfl

noncomputable def c28 : Code := (Try.f28.body).getD .skip

theorem spec_l1In.ok (a1 : Int) (a2 : Int) (a3 : Int) : Ok Try.prog 28 [.sc (.int .i64 a1), .sc (.int .i64 a2), .sc (.int .i64 a3)] [] ((spec_l1In a1 a2 a3).map fun r => (.sc (.bool r), [])) := by
  refine Ok_of2 (fc := c28) (fn := Try.f28) (nt := 15) (by kernel_rfl) (by kernel_rfl) (by kernel_rfl) (by simp) ?_
  intro w0 N0 O0 β0
  unfold spec_l1In
  refine J_ctl 1 [.c 2, .c 3] (by kernel_rfl) ?_
  refine J_run [] [] [(0, .sc (.int .i64 a1)), (1, .sc (.int .i64 a2)), (2, .sc (.int .i64 a3))] [] (by kernel_rfl) trivial (by kernel_rfl) ?_
  refine J_ctl 1 [.c 6, .c 7] (by kernel_rfl) ?_
  refine J_ite (fun h4 => ?_) (fun h4 => ?_)
  · refine J_run [(3, { tn := [(9, .sc (.bool (decide (a1 ≥ a2))))], out := some (.sc (.bool true)) })] [] [(6, .sc (.bool (decide (a1 ≤ a3))))] [] (by kernel_rfl) ⟨orcA (id := none) [(9, .sc (.bool (decide (a1 ≥ a2))))] [] { tn := [(9, .sc (.bool (decide (a1 ≥ a2))))], out := some (.sc (.bool (decide (a1 ≥ a2)))) } (by kernel_rfl) rfl (by rw [h4]), trivial⟩ (by kernel_rfl) ?_
    exact J_ret0 (fn := Try.f28) (rs := [.tmp 6]) (ds := [.sc (.bool (decide (a1 ≤ a3)))]) (ds' := [.sc (.bool (decide (a1 ≤ a3)))]) (.inr ⟨_, _, rfl, by kernel_rfl⟩) (by kernel_rfl) (by kernel_rfl) (by kernel_rfl) (.cons (.cell (.keep rfl (.nil))) (.nil) (by decide)) rfl rfl
  · refine J_run [(3, { tn := [(9, .sc (.bool (decide (a1 ≥ a2))))], out := some (.sc (.bool false)) })] [] [(6, .sc (.bool false))] [] (by kernel_rfl) ⟨orcA (id := none) [(9, .sc (.bool (decide (a1 ≥ a2))))] [] { tn := [(9, .sc (.bool (decide (a1 ≥ a2))))], out := some (.sc (.bool (decide (a1 ≥ a2)))) } (by kernel_rfl) rfl (by rw [h4]), trivial⟩ (by kernel_rfl) ?_
    exact J_ret0 (fn := Try.f28) (rs := [.tmp 6]) (ds := [.sc (.bool false)]) (ds' := [.sc (.bool false)]) (.inr ⟨_, _, rfl, by kernel_rfl⟩) (by kernel_rfl) (by kernel_rfl) (by kernel_rfl) (.cons (.cell (.keep rfl (.nil))) (.nil) (by decide)) rfl rfl

noncomputable def c60 : Code := (Try.f60.body).getD .skip

theorem spec_l1Letter.ok (a1 : Int) : Ok Try.prog 60 [.sc (.int .u8 a1)] [] ((spec_l1Letter a1).map fun r => (.sc (.bool r), [])) := by
  refine Ok_of2 (fc := c60) (fn := Try.f60) (nt := 9) (by kernel_rfl) (by kernel_rfl) (by kernel_rfl) (by simp) ?_
  intro w0 N0 O0 β0
  unfold spec_l1Letter
  refine J_ctl 1 [.c 2, .c 3] (by kernel_rfl) ?_
  refine J_run [] [] [(0, .sc (.int .u8 a1))] [] (by kernel_rfl) trivial (by kernel_rfl) ?_
  refine J_ctl 1 [.c 6, .c 7] (by kernel_rfl) ?_
  refine J_ite (fun h2 => ?_) (fun h2 => ?_)
  · refine J_run [(2, { tn := [(4, .sc (.bool (decide (a1 ≥ 97))))], out := some (.sc (.bool true)) })] [] [(2, .sc (.bool (decide (a1 ≤ 122))))] [] (by kernel_rfl) ⟨orcA (id := none) [(4, .sc (.bool (decide (a1 ≥ 97))))] [] { tn := [(4, .sc (.bool (decide (a1 ≥ 97))))], out := some (.sc (.bool (decide (a1 ≥ 97)))) } (by kernel_rfl) rfl (by rw [h2]), trivial⟩ (by kernel_rfl) ?_
    exact J_ret0 (fn := Try.f60) (rs := [.tmp 2]) (ds := [.sc (.bool (decide (a1 ≤ 122)))]) (ds' := [.sc (.bool (decide (a1 ≤ 122)))]) (.inr ⟨_, _, rfl, by kernel_rfl⟩) (by kernel_rfl) (by kernel_rfl) (by kernel_rfl) (.cons (.cell (.keep rfl (.nil))) (.nil) (by decide)) rfl rfl
  · refine J_run [(2, { tn := [(4, .sc (.bool (decide (a1 ≥ 97))))], out := some (.sc (.bool false)) })] [] [(2, .sc (.bool false))] [] (by kernel_rfl) ⟨orcA (id := none) [(4, .sc (.bool (decide (a1 ≥ 97))))] [] { tn := [(4, .sc (.bool (decide (a1 ≥ 97))))], out := some (.sc (.bool (decide (a1 ≥ 97)))) } (by kernel_rfl) rfl (by rw [h2]), trivial⟩ (by kernel_rfl) ?_
    exact J_ret0 (fn := Try.f60) (rs := [.tmp 2]) (ds := [.sc (.bool false)]) (ds' := [.sc (.bool false)]) (.inr ⟨_, _, rfl, by kernel_rfl⟩) (by kernel_rfl) (by kernel_rfl) (by kernel_rfl) (.cons (.cell (.keep rfl (.nil))) (.nil) (by decide)) rfl rfl

noncomputable def c47 : Code := (Try.f47.body).getD .skip

theorem spec_l1Digit.ok (a1 : Int) : Ok Try.prog 47 [.sc (.int .u8 a1)] [] ((spec_l1Digit a1).map fun r => (.sc (.bool r), [])) := by
  refine Ok_of2 (fc := c47) (fn := Try.f47) (nt := 9) (by kernel_rfl) (by kernel_rfl) (by kernel_rfl) (by simp) ?_
  intro w0 N0 O0 β0
  unfold spec_l1Digit
  refine J_ctl 1 [.c 2, .c 3] (by kernel_rfl) ?_
  refine J_run [] [] [(0, .sc (.int .u8 a1))] [] (by kernel_rfl) trivial (by kernel_rfl) ?_
  refine J_ctl 1 [.c 6, .c 7] (by kernel_rfl) ?_
  refine J_ite (fun h2 => ?_) (fun h2 => ?_)
  · refine J_run [(2, { tn := [(4, .sc (.bool (decide (a1 ≥ 48))))], out := some (.sc (.bool true)) })] [] [(2, .sc (.bool (decide (a1 ≤ 57))))] [] (by kernel_rfl) ⟨orcA (id := none) [(4, .sc (.bool (decide (a1 ≥ 48))))] [] { tn := [(4, .sc (.bool (decide (a1 ≥ 48))))], out := some (.sc (.bool (decide (a1 ≥ 48)))) } (by kernel_rfl) rfl (by rw [h2]), trivial⟩ (by kernel_rfl) ?_
    exact J_ret0 (fn := Try.f47) (rs := [.tmp 2]) (ds := [.sc (.bool (decide (a1 ≤ 57)))]) (ds' := [.sc (.bool (decide (a1 ≤ 57)))]) (.inr ⟨_, _, rfl, by kernel_rfl⟩) (by kernel_rfl) (by kernel_rfl) (by kernel_rfl) (.cons (.cell (.keep rfl (.nil))) (.nil) (by decide)) rfl rfl
  · refine J_run [(2, { tn := [(4, .sc (.bool (decide (a1 ≥ 48))))], out := some (.sc (.bool false)) })] [] [(2, .sc (.bool false))] [] (by kernel_rfl) ⟨orcA (id := none) [(4, .sc (.bool (decide (a1 ≥ 48))))] [] { tn := [(4, .sc (.bool (decide (a1 ≥ 48))))], out := some (.sc (.bool (decide (a1 ≥ 48)))) } (by kernel_rfl) rfl (by rw [h2]), trivial⟩ (by kernel_rfl) ?_
    exact J_ret0 (fn := Try.f47) (rs := [.tmp 2]) (ds := [.sc (.bool false)]) (ds' := [.sc (.bool false)]) (.inr ⟨_, _, rfl, by kernel_rfl⟩) (by kernel_rfl) (by kernel_rfl) (by kernel_rfl) (.cons (.cell (.keep rfl (.nil))) (.nil) (by decide)) rfl rfl

noncomputable def c53 : Code := (Try.f53.body).getD .skip

theorem spec_l1Name.ok (a1 : Int) : Ok Try.prog 53 [.sc (.int .u8 a1)] [] ((spec_l1Name a1).map fun r => (.sc (.bool r), [])) := by
  refine Ok_of2 (fc := c53) (fn := Try.f53) (nt := 13) (by kernel_rfl) (by kernel_rfl) (by kernel_rfl) (by simp) ?_
  intro w0 N0 O0 β0
  unfold spec_l1Name
  refine J_ctl 1 [.c 2, .c 3] (by kernel_rfl) ?_
  refine J_run [] [] [(0, .sc (.int .u8 a1))] [] (by kernel_rfl) trivial (by kernel_rfl) ?_
  refine J_ctl 1 [.c 6, .c 7] (by kernel_rfl) ?_
  refine J_bind (fun x2 h3 => ?_)
  refine J_ite (fun h4 => ?_) (fun h4 => ?_)
  · refine J_run [(1, { tn := [(3, .sc (.int .u8 a1))], out := some (.sc (.bool x2)) }), (2, { tn := [(4, .sc (.bool x2))], out := some (.sc (.bool true)) })] [] [(2, .sc (.bool true))] [] (by kernel_rfl) ⟨orc1 (op := .call { callee := .value (.func 60), args := #[(.tmp 3)], argTypes := #[5] }) (by kernel_rfl) fun ops o hop hg => v_call («as» := [.sc (.int .u8 a1)]) (bor := false) (ids := []) (hin := []) (hout := []) (news := []) hg hop (fun _ => by kernel_rfl) rfl (fun k d hk => match k, hk with | 0, rfl => ⟨(.tmp 3), rfl, (.head _)⟩ | (n + 1), hk => by simp at hk) (.cons (.same rfl) (.nil)) (nodupK_spec rfl) rfl (by simp) (menAll rfl) (spec_l1Letter.ok a1) (by rw [h3]; rfl) (Nat.le_of_ble_eq_true rfl) (.same rfl rfl) (nodupK_spec rfl) rfl (le_all rfl) (by simp), orcA (id := none) [(4, .sc (.bool x2))] [] { tn := [(4, .sc (.bool x2))], out := some (.sc (.bool x2)) } (by kernel_rfl) rfl (by rw [h4]), trivial⟩ (by kernel_rfl) ?_
    exact J_ret0 (fn := Try.f53) (rs := [.tmp 2]) (ds := [.sc (.bool true)]) (ds' := [.sc (.bool true)]) (.inr ⟨_, _, rfl, by kernel_rfl⟩) (by kernel_rfl) (by kernel_rfl) (by kernel_rfl) (.cons (.cell (.keep rfl (.nil))) (.nil) (by decide)) rfl rfl
  · refine J_bind (fun x5 h6 => ?_)
    refine J_ite (fun h7 => ?_) (fun h7 => ?_)
    · refine J_run [(1, { tn := [(3, .sc (.int .u8 a1))], out := some (.sc (.bool x2)) }), (2, { tn := [(4, .sc (.bool x2))], out := some (.sc (.bool false)) }), (4, { tn := [(5, .sc (.bool false)), (6, .sc (.int .u8 a1))], out := some (.sc (.bool x5)) }), (6, { tn := [(8, .sc (.bool x5))], out := some (.sc (.bool true)) })] [] [(2, .sc (.bool true))] [] (by kernel_rfl) ⟨orc1 (op := .call { callee := .value (.func 60), args := #[(.tmp 3)], argTypes := #[5] }) (by kernel_rfl) fun ops o hop hg => v_call («as» := [.sc (.int .u8 a1)]) (bor := false) (ids := []) (hin := []) (hout := []) (news := []) hg hop (fun _ => by kernel_rfl) rfl (fun k d hk => match k, hk with | 0, rfl => ⟨(.tmp 3), rfl, (.head _)⟩ | (n + 1), hk => by simp at hk) (.cons (.same rfl) (.nil)) (nodupK_spec rfl) rfl (by simp) (menAll rfl) (spec_l1Letter.ok a1) (by rw [h3]; rfl) (Nat.le_of_ble_eq_true rfl) (.same rfl rfl) (nodupK_spec rfl) rfl (le_all rfl) (by simp), orcA (id := none) [(4, .sc (.bool x2))] [] { tn := [(4, .sc (.bool x2))], out := some (.sc (.bool x2)) } (by kernel_rfl) rfl (by rw [h4]), orcG (c := { tn := [(6, .sc (.int .u8 a1))], out := some (.sc (.bool x5)) }) (op := .call { callee := .value (.func 47), args := #[(.tmp 6)], argTypes := #[5] }) (g := 2) (t := 5) (b := false) (by kernel_rfl) (by kernel_rfl) fun ops o hop hg => v_call («as» := [.sc (.int .u8 a1)]) (bor := false) (ids := []) (hin := []) (hout := []) (news := []) hg hop (fun _ => by kernel_rfl) rfl (fun k d hk => match k, hk with | 0, rfl => ⟨(.tmp 6), rfl, (.head _)⟩ | (n + 1), hk => by simp at hk) (.cons (.same rfl) (.nil)) (nodupK_spec rfl) rfl (by simp) (menAll rfl) (spec_l1Digit.ok a1) (by rw [h6]; rfl) (Nat.le_of_ble_eq_true rfl) (.same rfl rfl) (nodupK_spec rfl) rfl (le_all rfl) (by simp), orcA (id := none) [(8, .sc (.bool x5))] [] { tn := [(8, .sc (.bool x5))], out := some (.sc (.bool x5)) } (by kernel_rfl) rfl (by rw [h7]), trivial⟩ (by kernel_rfl) ?_
      exact J_ret0 (fn := Try.f53) (rs := [.tmp 2]) (ds := [.sc (.bool true)]) (ds' := [.sc (.bool true)]) (.inr ⟨_, _, rfl, by kernel_rfl⟩) (by kernel_rfl) (by kernel_rfl) (by kernel_rfl) (.cons (.cell (.keep rfl (.nil))) (.nil) (by decide)) rfl rfl
    · refine J_run [(1, { tn := [(3, .sc (.int .u8 a1))], out := some (.sc (.bool x2)) }), (2, { tn := [(4, .sc (.bool x2))], out := some (.sc (.bool false)) }), (4, { tn := [(5, .sc (.bool false)), (6, .sc (.int .u8 a1))], out := some (.sc (.bool x5)) }), (6, { tn := [(8, .sc (.bool x5))], out := some (.sc (.bool false)) })] [] [(2, .sc (.bool (a1 == 95)))] [] (by kernel_rfl) ⟨orc1 (op := .call { callee := .value (.func 60), args := #[(.tmp 3)], argTypes := #[5] }) (by kernel_rfl) fun ops o hop hg => v_call («as» := [.sc (.int .u8 a1)]) (bor := false) (ids := []) (hin := []) (hout := []) (news := []) hg hop (fun _ => by kernel_rfl) rfl (fun k d hk => match k, hk with | 0, rfl => ⟨(.tmp 3), rfl, (.head _)⟩ | (n + 1), hk => by simp at hk) (.cons (.same rfl) (.nil)) (nodupK_spec rfl) rfl (by simp) (menAll rfl) (spec_l1Letter.ok a1) (by rw [h3]; rfl) (Nat.le_of_ble_eq_true rfl) (.same rfl rfl) (nodupK_spec rfl) rfl (le_all rfl) (by simp), orcA (id := none) [(4, .sc (.bool x2))] [] { tn := [(4, .sc (.bool x2))], out := some (.sc (.bool x2)) } (by kernel_rfl) rfl (by rw [h4]), orcG (c := { tn := [(6, .sc (.int .u8 a1))], out := some (.sc (.bool x5)) }) (op := .call { callee := .value (.func 47), args := #[(.tmp 6)], argTypes := #[5] }) (g := 2) (t := 5) (b := false) (by kernel_rfl) (by kernel_rfl) fun ops o hop hg => v_call («as» := [.sc (.int .u8 a1)]) (bor := false) (ids := []) (hin := []) (hout := []) (news := []) hg hop (fun _ => by kernel_rfl) rfl (fun k d hk => match k, hk with | 0, rfl => ⟨(.tmp 6), rfl, (.head _)⟩ | (n + 1), hk => by simp at hk) (.cons (.same rfl) (.nil)) (nodupK_spec rfl) rfl (by simp) (menAll rfl) (spec_l1Digit.ok a1) (by rw [h6]; rfl) (Nat.le_of_ble_eq_true rfl) (.same rfl rfl) (nodupK_spec rfl) rfl (le_all rfl) (by simp), orcA (id := none) [(8, .sc (.bool x5))] [] { tn := [(8, .sc (.bool x5))], out := some (.sc (.bool x5)) } (by kernel_rfl) rfl (by rw [h7]), trivial⟩ (by kernel_rfl) ?_
      exact J_ret0 (fn := Try.f53) (rs := [.tmp 2]) (ds := [.sc (.bool (a1 == 95))]) (ds' := [.sc (.bool (a1 == 95))]) (.inr ⟨_, _, rfl, by kernel_rfl⟩) (by kernel_rfl) (by kernel_rfl) (by kernel_rfl) (.cons (.cell (.keep rfl (.nil))) (.nil) (by decide)) rfl rfl

noncomputable def c43 : Code := (Try.f43.body).getD .skip

theorem spec_l7Byte.ok (a1 : Int) : Ok Try.prog 43 [.sc (.int .u8 a1)] [] ((spec_l7Byte a1).map fun r => (.sc (.bool r), [])) := by
  refine Ok_of2 (fc := c43) (fn := Try.f43) (nt := 17) (by kernel_rfl) (by kernel_rfl) (by kernel_rfl) (by simp) ?_
  intro w0 N0 O0 β0
  unfold spec_l7Byte
  refine J_ctl 1 [.c 2, .c 3] (by kernel_rfl) ?_
  refine J_run [] [] [(0, .sc (.int .u8 a1))] [] (by kernel_rfl) trivial (by kernel_rfl) ?_
  refine J_ctl 1 [.c 6, .c 7] (by kernel_rfl) ?_
  refine J_bind (fun x2 h3 => ?_)
  refine J_ite (fun h4 => ?_) (fun h4 => ?_)
  · refine J_run [(1, { tn := [(3, .sc (.int .u8 a1))], out := some (.sc (.bool x2)) }), (2, { tn := [(4, .sc (.bool x2))], out := some (.sc (.bool true)) })] [] [(2, .sc (.bool true))] [] (by kernel_rfl) ⟨orc1 (op := .call { callee := .value (.func 53), args := #[(.tmp 3)], argTypes := #[5] }) (by kernel_rfl) fun ops o hop hg => v_call («as» := [.sc (.int .u8 a1)]) (bor := false) (ids := []) (hin := []) (hout := []) (news := []) hg hop (fun _ => by kernel_rfl) rfl (fun k d hk => match k, hk with | 0, rfl => ⟨(.tmp 3), rfl, (.head _)⟩ | (n + 1), hk => by simp at hk) (.cons (.same rfl) (.nil)) (nodupK_spec rfl) rfl (by simp) (menAll rfl) (spec_l1Name.ok a1) (by rw [h3]; rfl) (Nat.le_of_ble_eq_true rfl) (.same rfl rfl) (nodupK_spec rfl) rfl (le_all rfl) (by simp), orcA (id := none) [(4, .sc (.bool x2))] [] { tn := [(4, .sc (.bool x2))], out := some (.sc (.bool x2)) } (by kernel_rfl) rfl (by rw [h4]), trivial⟩ (by kernel_rfl) ?_
    exact J_ret0 (fn := Try.f43) (rs := [.tmp 2]) (ds := [.sc (.bool true)]) (ds' := [.sc (.bool true)]) (.inr ⟨_, _, rfl, by kernel_rfl⟩) (by kernel_rfl) (by kernel_rfl) (by kernel_rfl) (.cons (.cell (.keep rfl (.nil))) (.nil) (by decide)) rfl rfl
  · refine J_ite (fun h5 => ?_) (fun h5 => ?_)
    · refine J_run [(1, { tn := [(3, .sc (.int .u8 a1))], out := some (.sc (.bool x2)) }), (2, { tn := [(4, .sc (.bool x2))], out := some (.sc (.bool false)) }), (6, { tn := [(8, .sc (.bool (a1 == 46)))], out := some (.sc (.bool true)) })] [] [(2, .sc (.bool true))] [] (by kernel_rfl) ⟨orc1 (op := .call { callee := .value (.func 53), args := #[(.tmp 3)], argTypes := #[5] }) (by kernel_rfl) fun ops o hop hg => v_call («as» := [.sc (.int .u8 a1)]) (bor := false) (ids := []) (hin := []) (hout := []) (news := []) hg hop (fun _ => by kernel_rfl) rfl (fun k d hk => match k, hk with | 0, rfl => ⟨(.tmp 3), rfl, (.head _)⟩ | (n + 1), hk => by simp at hk) (.cons (.same rfl) (.nil)) (nodupK_spec rfl) rfl (by simp) (menAll rfl) (spec_l1Name.ok a1) (by rw [h3]; rfl) (Nat.le_of_ble_eq_true rfl) (.same rfl rfl) (nodupK_spec rfl) rfl (le_all rfl) (by simp), orcA (id := none) [(4, .sc (.bool x2))] [] { tn := [(4, .sc (.bool x2))], out := some (.sc (.bool x2)) } (by kernel_rfl) rfl (by rw [h4]), orcA (id := none) [(8, .sc (.bool (a1 == 46)))] [] { tn := [(8, .sc (.bool (a1 == 46)))], out := some (.sc (.bool (a1 == 46))) } (by kernel_rfl) rfl (by rw [h5]), trivial⟩ (by kernel_rfl) ?_
      exact J_ret0 (fn := Try.f43) (rs := [.tmp 2]) (ds := [.sc (.bool true)]) (ds' := [.sc (.bool true)]) (.inr ⟨_, _, rfl, by kernel_rfl⟩) (by kernel_rfl) (by kernel_rfl) (by kernel_rfl) (.cons (.cell (.keep rfl (.nil))) (.nil) (by decide)) rfl rfl
    · refine J_ite (fun h6 => ?_) (fun h6 => ?_)
      · refine J_run [(1, { tn := [(3, .sc (.int .u8 a1))], out := some (.sc (.bool x2)) }), (2, { tn := [(4, .sc (.bool x2))], out := some (.sc (.bool false)) }), (6, { tn := [(8, .sc (.bool (a1 == 46)))], out := some (.sc (.bool false)) }), (10, { tn := [(12, .sc (.bool (a1 == 45)))], out := some (.sc (.bool true)) })] [] [(2, .sc (.bool true))] [] (by kernel_rfl) ⟨orc1 (op := .call { callee := .value (.func 53), args := #[(.tmp 3)], argTypes := #[5] }) (by kernel_rfl) fun ops o hop hg => v_call («as» := [.sc (.int .u8 a1)]) (bor := false) (ids := []) (hin := []) (hout := []) (news := []) hg hop (fun _ => by kernel_rfl) rfl (fun k d hk => match k, hk with | 0, rfl => ⟨(.tmp 3), rfl, (.head _)⟩ | (n + 1), hk => by simp at hk) (.cons (.same rfl) (.nil)) (nodupK_spec rfl) rfl (by simp) (menAll rfl) (spec_l1Name.ok a1) (by rw [h3]; rfl) (Nat.le_of_ble_eq_true rfl) (.same rfl rfl) (nodupK_spec rfl) rfl (le_all rfl) (by simp), orcA (id := none) [(4, .sc (.bool x2))] [] { tn := [(4, .sc (.bool x2))], out := some (.sc (.bool x2)) } (by kernel_rfl) rfl (by rw [h4]), orcA (id := none) [(8, .sc (.bool (a1 == 46)))] [] { tn := [(8, .sc (.bool (a1 == 46)))], out := some (.sc (.bool (a1 == 46))) } (by kernel_rfl) rfl (by rw [h5]), orcA (id := none) [(12, .sc (.bool (a1 == 45)))] [] { tn := [(12, .sc (.bool (a1 == 45)))], out := some (.sc (.bool (a1 == 45))) } (by kernel_rfl) rfl (by rw [h6]), trivial⟩ (by kernel_rfl) ?_
        exact J_ret0 (fn := Try.f43) (rs := [.tmp 2]) (ds := [.sc (.bool true)]) (ds' := [.sc (.bool true)]) (.inr ⟨_, _, rfl, by kernel_rfl⟩) (by kernel_rfl) (by kernel_rfl) (by kernel_rfl) (.cons (.cell (.keep rfl (.nil))) (.nil) (by decide)) rfl rfl
      · refine J_run [(1, { tn := [(3, .sc (.int .u8 a1))], out := some (.sc (.bool x2)) }), (2, { tn := [(4, .sc (.bool x2))], out := some (.sc (.bool false)) }), (6, { tn := [(8, .sc (.bool (a1 == 46)))], out := some (.sc (.bool false)) }), (10, { tn := [(12, .sc (.bool (a1 == 45)))], out := some (.sc (.bool false)) })] [] [(2, .sc (.bool (a1 == 47)))] [] (by kernel_rfl) ⟨orc1 (op := .call { callee := .value (.func 53), args := #[(.tmp 3)], argTypes := #[5] }) (by kernel_rfl) fun ops o hop hg => v_call («as» := [.sc (.int .u8 a1)]) (bor := false) (ids := []) (hin := []) (hout := []) (news := []) hg hop (fun _ => by kernel_rfl) rfl (fun k d hk => match k, hk with | 0, rfl => ⟨(.tmp 3), rfl, (.head _)⟩ | (n + 1), hk => by simp at hk) (.cons (.same rfl) (.nil)) (nodupK_spec rfl) rfl (by simp) (menAll rfl) (spec_l1Name.ok a1) (by rw [h3]; rfl) (Nat.le_of_ble_eq_true rfl) (.same rfl rfl) (nodupK_spec rfl) rfl (le_all rfl) (by simp), orcA (id := none) [(4, .sc (.bool x2))] [] { tn := [(4, .sc (.bool x2))], out := some (.sc (.bool x2)) } (by kernel_rfl) rfl (by rw [h4]), orcA (id := none) [(8, .sc (.bool (a1 == 46)))] [] { tn := [(8, .sc (.bool (a1 == 46)))], out := some (.sc (.bool (a1 == 46))) } (by kernel_rfl) rfl (by rw [h5]), orcA (id := none) [(12, .sc (.bool (a1 == 45)))] [] { tn := [(12, .sc (.bool (a1 == 45)))], out := some (.sc (.bool (a1 == 45))) } (by kernel_rfl) rfl (by rw [h6]), trivial⟩ (by kernel_rfl) ?_
        exact J_ret0 (fn := Try.f43) (rs := [.tmp 2]) (ds := [.sc (.bool (a1 == 47))]) (ds' := [.sc (.bool (a1 == 47))]) (.inr ⟨_, _, rfl, by kernel_rfl⟩) (by kernel_rfl) (by kernel_rfl) (by kernel_rfl) (.cons (.cell (.keep rfl (.nil))) (.nil) (by decide)) rfl rfl

noncomputable def c29 : Code := (Try.f29.body).getD .skip

theorem spec_PathFault_l1.ok (a1 : ByteArray) (w0 : World) (N0 : Nat → Prop) (O0 : List Nat) (β0 : Nat → Im.Loc) (kn : Unit → Option (D × List Ent)) (hk : ∀ v : Unit, J ⟨Try.prog, 29, w0, N0, O0, 0, β0, 23⟩ c29 [.c 15] (St.mk' [] []) (some v) kn) :
    ∀ s11 : Int, J ⟨Try.prog, 29, w0, N0, O0, 0, β0, 23⟩ c29 [.c 116, .l 116, .b 0, .c 15] (St.mk' [(0, .sc (.string a1)), (3, .sc (.int .i64 s11))] []) (spec_PathFault_l1 a1 s11) (Fl.go (fun r : Int => some (.sc (.int .i64 r), [])) kn) := by
  refine J_lp (σ := fun s11 : Int => St.mk' [(0, .sc (.string a1)), (3, .sc (.int .i64 s11))] []) (fun g ih s11 => ?_)
  unfold spec_PathFault_l1b
  refine J_ctl 2 [.c 464, .c 465, .c 233, .l 116, .b 0, .c 15] (by kernel_rfl) ?_
  refine J_run [] [] [(0, .sc (.string a1)), (3, .sc (.int .i64 s11)), (15, .sc (.bool (decide (s11 < (a1.size : Int)))))] [] (by kernel_rfl) trivial (by kernel_rfl) ?_
  refine J_ite (fun h12 => ?_) (fun h12 => ?_)
  · refine J_lit (t := 15) (b := (decide (s11 < (a1.size : Int)))) true rfl h12 ?_
    refine J_ctl 2 [.c 233, .l 116, .b 0, .c 15] (by kernel_rfl) ?_
    refine J_ctl 3 [.c 1864, .c 1865, .b 1, .c 467, .l 116, .b 0, .c 15] (by kernel_rfl) ?_
    refine J_bind (fun x13 h14 => ?_)
    refine J_bind (fun x15 h16 => ?_)
    refine J_run [(2, { tn := [(18, .sc (.string a1)), (19, .sc (.int .i64 s11))], out := some (.sc (.int .u8 x13)) }), (3, { tn := [(20, .sc (.int .u8 x13))], out := some (.sc (.bool x15)) })] [] [(0, .sc (.string a1)), (3, .sc (.int .i64 s11)), (22, .sc (.bool (!x15)))] [] (by kernel_rfl) ⟨orc1 (op := .index 9 (.tmp 18) (.tmp 19)) (by kernel_rfl) fun ops o hop hg => o_bidx h14 hg hop rfl (.head _) (.tail _ (.head _)) (by kernel_rfl), orc1 (op := .call { callee := .value (.func 43), args := #[(.tmp 20)], argTypes := #[5] }) (by kernel_rfl) fun ops o hop hg => v_call («as» := [.sc (.int .u8 x13)]) (bor := false) (ids := []) (hin := []) (hout := []) (news := []) hg hop (fun _ => by kernel_rfl) rfl (fun k d hk => match k, hk with | 0, rfl => ⟨(.tmp 20), rfl, (.head _)⟩ | (n + 1), hk => by simp at hk) (.cons (.same rfl) (.nil)) (nodupK_spec rfl) rfl (by simp) (menAll rfl) (spec_l7Byte.ok x13) (by rw [h16]; rfl) (Nat.le_of_ble_eq_true rfl) (.same rfl rfl) (nodupK_spec rfl) rfl (le_all rfl) (by simp), trivial⟩ (by kernel_rfl) ?_
    refine J_ite (fun h17 => ?_) (fun h17 => ?_)
    · refine J_lit (t := 22) (b := (!x15)) true rfl h17 ?_
      refine J_ctl 2 [.c 7460, .c 7461, .b 1, .c 467, .l 116, .b 0, .c 15] (by kernel_rfl) ?_
      refine J_run [] [] [(2, .sc (.int .i64 5))] [] (by kernel_rfl) trivial (by kernel_rfl) ?_
      exact J_ret0 (fn := Try.f29) (rs := [.tmp 2]) (ds := [.sc (.int .i64 5)]) (ds' := [.sc (.int .i64 5)]) (.inr ⟨_, _, rfl, by kernel_rfl⟩) (by kernel_rfl) (by kernel_rfl) (by kernel_rfl) (.cons (.cell (.keep rfl (.nil))) (.nil) (by decide)) rfl rfl
    · refine J_lit (t := 22) (b := (!x15)) false rfl h17 ?_
      refine J_ctl 2 [.b 1, .c 467, .l 116, .b 0, .c 15] (by kernel_rfl) ?_
      refine J_ctl 1 [.c 467, .l 116, .b 0, .c 15] (by kernel_rfl) ?_
      refine J_run [] [] [(0, .sc (.string a1)), (3, .sc (.int .i64 (w64 (s11 + 1))))] [] (by kernel_rfl) trivial (by kernel_rfl) ?_
      refine J_ctl 1 [.c 116, .l 116, .b 0, .c 15] (by kernel_rfl) ?_
      refine J_wk [(0, .sc (.string a1)), (3, .sc (.int .i64 (w64 (s11 + 1))))] [] (by kernel_rfl) ?_
      exact J_q (J_bk (ih (w64 (s11 + 1)))) rfl
  · refine J_lit (t := 15) (b := (decide (s11 < (a1.size : Int)))) false rfl h12 ?_
    refine J_ctl 2 [.c 15] (by kernel_rfl) ?_
    refine J_wk [] [] (by kernel_rfl) ?_
    exact J_q (hk ()) rfl

theorem spec_PathFault.ok (a1 : ByteArray) : Ok Try.prog 29 [.sc (.string a1)] [] ((spec_PathFault a1).map fun r => (.sc (.int .i64 r), [])) := by
  refine Ok_of2 (fc := c29) (fn := Try.f29) (nt := 23) (by kernel_rfl) (by kernel_rfl) (by kernel_rfl) (by simp) ?_
  intro w0 N0 O0 β0
  unfold spec_PathFault
  refine J_ctl 1 [.c 2, .c 3] (by kernel_rfl) ?_
  refine J_run [] [] [(0, .sc (.string a1))] [] (by kernel_rfl) trivial (by kernel_rfl) ?_
  refine J_ctl 2 [.c 12, .c 13, .c 7] (by kernel_rfl) ?_
  refine J_join [.c 13, .c 7] (fun v3 : Bool => St.mk' [(0, .sc (.string a1)), (11, .sc (.bool v3))] []) (fun v3 => ?_) (fun jv3 => ?_)
  · refine J_ite (fun h4 => ?_) (fun h4 => ?_)
    · refine J_lit (t := 11) (b := v3) true rfl h4 ?_
      refine J_ctl 2 [.c 52, .c 53, .c 7] (by kernel_rfl) ?_
      refine J_run [] [] [(2, .sc (.int .i64 5))] [] (by kernel_rfl) trivial (by kernel_rfl) ?_
      exact J_ret0 (fn := Try.f29) (rs := [.tmp 2]) (ds := [.sc (.int .i64 5)]) (ds' := [.sc (.int .i64 5)]) (.inr ⟨_, _, rfl, by kernel_rfl⟩) (by kernel_rfl) (by kernel_rfl) (by kernel_rfl) (.cons (.cell (.keep rfl (.nil))) (.nil) (by decide)) rfl rfl
    · refine J_lit (t := 11) (b := v3) false rfl h4 ?_
      refine J_ctl 2 [.c 7] (by kernel_rfl) ?_
      refine J_ctl 2 [.c 28, .c 29, .c 15] (by kernel_rfl) ?_
      refine J_run [] [] [(0, .sc (.string a1)), (3, .sc (.int .i64 0))] [] (by kernel_rfl) trivial (by kernel_rfl) ?_
      refine J_ctl 1 [.c 58, .b 0, .c 15] (by kernel_rfl) ?_
      refine J_ctl 1 [.c 116, .l 116, .b 0, .c 15] (by kernel_rfl) ?_
      refine J_wk [(0, .sc (.string a1)), (3, .sc (.int .i64 0))] [] (by kernel_rfl) ?_
      refine J_loop (K0 := (fun r : Int => some (.sc (.int .i64 r), []))) (fun _ => rfl) ?_
      refine spec_PathFault_l1.ok a1 w0 N0 O0 β0 _ (fun v18 => J_j ?_) 0
      refine J_ctl 1 [.c 30, .c 31] (by kernel_rfl) ?_
      refine J_run [] [] [(2, .sc (.int .i64 0))] [] (by kernel_rfl) trivial (by kernel_rfl) ?_
      exact J_ret0 (fn := Try.f29) (rs := [.tmp 2]) (ds := [.sc (.int .i64 0)]) (ds' := [.sc (.int .i64 0)]) (.inr ⟨_, _, rfl, by kernel_rfl⟩) (by kernel_rfl) (by kernel_rfl) (by kernel_rfl) (.cons (.cell (.keep rfl (.nil))) (.nil) (by decide)) rfl rfl
  · refine J_ite (fun h2 => ?_) (fun h2 => ?_)
    · refine J_run [(3, { tn := [(6, .sc (.bool (decide ((a1.size : Int) < 1))))], out := some (.sc (.bool true)) })] [] [(0, .sc (.string a1)), (11, .sc (.bool true))] [] (by kernel_rfl) ⟨orcA (id := none) [(6, .sc (.bool (decide ((a1.size : Int) < 1))))] [] { tn := [(6, .sc (.bool (decide ((a1.size : Int) < 1))))], out := some (.sc (.bool (decide ((a1.size : Int) < 1)))) } (by kernel_rfl) rfl (by rw [h2]), trivial⟩ (by kernel_rfl) ?_
      refine J_wk [(0, .sc (.string a1)), (11, .sc (.bool true))] [] (by kernel_rfl) ?_
      exact J_q (J_j (jv3 true)) rfl
    · refine J_run [(3, { tn := [(6, .sc (.bool (decide ((a1.size : Int) < 1))))], out := some (.sc (.bool false)) })] [] [(0, .sc (.string a1)), (11, .sc (.bool (decide ((a1.size : Int) > 40))))] [] (by kernel_rfl) ⟨orcA (id := none) [(6, .sc (.bool (decide ((a1.size : Int) < 1))))] [] { tn := [(6, .sc (.bool (decide ((a1.size : Int) < 1))))], out := some (.sc (.bool (decide ((a1.size : Int) < 1)))) } (by kernel_rfl) rfl (by rw [h2]), trivial⟩ (by kernel_rfl) ?_
      refine J_wk [(0, .sc (.string a1)), (11, .sc (.bool (decide ((a1.size : Int) > 40))))] [] (by kernel_rfl) ?_
      exact J_q (J_j (jv3 (decide ((a1.size : Int) > 40)))) rfl

noncomputable def c18 : Code := (Try.f18.body).getD .skip

theorem spec_l7Total_l1.ok (a1 : Disk) (w0 : World) (N0 : Nat → Prop) (O0 : List Nat) (β0 : Nat → Im.Loc) (kn : Int → Option (D × List Ent)) (hk : ∀ v : Int, J ⟨Try.prog, 18, w0, N0, O0, 1, β0, 26⟩ c18 [.c 15] (St.mk' [(3, .sc (.int .i64 v))] [(0, .box [.s false 2 a1.Files.length (a1.Files.map (File.enc false)), .sc (.int .i64 a1.Budget), .sc (.int .i64 a1.Writes), .sc (.int .i64 a1.Stop), .sc (.bool a1.Down)])]) (some v) kn) :
    ∀ s5 : (Int × Int), J ⟨Try.prog, 18, w0, N0, O0, 1, β0, 26⟩ c18 [.c 116, .l 116, .b 0, .c 15] (St.mk' [(0, .pt 0 0 0), (3, .sc (.int .i64 s5.1)), (4, .sc (.int .i64 s5.2))] [(0, .box [.s false 2 a1.Files.length (a1.Files.map (File.enc false)), .sc (.int .i64 a1.Budget), .sc (.int .i64 a1.Writes), .sc (.int .i64 a1.Stop), .sc (.bool a1.Down)])]) (spec_l7Total_l1 a1 s5) kn := by
  refine J_lp (σ := fun s5 : (Int × Int) => St.mk' [(0, .pt 0 0 0), (3, .sc (.int .i64 s5.1)), (4, .sc (.int .i64 s5.2))] [(0, .box [.s false 2 a1.Files.length (a1.Files.map (File.enc false)), .sc (.int .i64 a1.Budget), .sc (.int .i64 a1.Writes), .sc (.int .i64 a1.Stop), .sc (.bool a1.Down)])]) (fun g ih s5 => ?_)
  unfold spec_l7Total_l1b
  refine J_ctl 2 [.c 464, .c 465, .c 233, .l 116, .b 0, .c 15] (by kernel_rfl) ?_
  refine J_run [] [] [(0, .pt 0 0 0), (3, .sc (.int .i64 s5.1)), (4, .sc (.int .i64 s5.2)), (11, .sc (.bool (decide (s5.2 < (a1.Files.length : Int)))))] [(0, .box [.s false 2 a1.Files.length (a1.Files.map (File.enc false)), .sc (.int .i64 a1.Budget), .sc (.int .i64 a1.Writes), .sc (.int .i64 a1.Stop), .sc (.bool a1.Down)])] (by kernel_rfl) trivial (by kernel_rfl) ?_
  refine J_ite (fun h6 => ?_) (fun h6 => ?_)
  · refine J_lit (t := 11) (b := (decide (s5.2 < (a1.Files.length : Int)))) true rfl h6 ?_
    refine J_ctl 2 [.c 233, .l 116, .b 0, .c 15] (by kernel_rfl) ?_
    refine J_ctl 2 [.c 932, .b 1, .c 467, .l 116, .b 0, .c 15] (by kernel_rfl) ?_
    refine J_bind (fun x7 h8 => ?_)
    refine J_run [(6, { tn := [(18, .s false 2 a1.Files.length (a1.Files.map (File.enc false))), (19, .sc (.int .i64 s5.2))], out := some (.ps ((File.enc false) x7)) })] [] [(0, .pt 0 0 0), (3, .sc (.int .i64 (w64 (s5.1 + (x7.Data.length : Int))))), (4, .sc (.int .i64 s5.2))] [(0, .box [.s false 2 a1.Files.length (a1.Files.map (File.enc false)), .sc (.int .i64 a1.Budget), .sc (.int .i64 a1.Writes), .sc (.int .i64 a1.Stop), .sc (.bool a1.Down)])] (by kernel_rfl) ⟨orc1 (op := .indexAddr 29 (.tmp 18) (.tmp 19)) (by kernel_rfl) fun ops o hop hg => o_index (el := 51) (enc := (File.enc false)) h8 hg hop rfl (.head _) (.tail _ (.head _)) (by kernel_rfl) (by kernel_rfl), trivial⟩ (by kernel_rfl) ?_
    refine J_ctl 1 [.c 467, .l 116, .b 0, .c 15] (by kernel_rfl) ?_
    refine J_run [] [] [(0, .pt 0 0 0), (3, .sc (.int .i64 (w64 (s5.1 + (x7.Data.length : Int))))), (4, .sc (.int .i64 (w64 (s5.2 + 1))))] [(0, .box [.s false 2 a1.Files.length (a1.Files.map (File.enc false)), .sc (.int .i64 a1.Budget), .sc (.int .i64 a1.Writes), .sc (.int .i64 a1.Stop), .sc (.bool a1.Down)])] (by kernel_rfl) trivial (by kernel_rfl) ?_
    refine J_ctl 1 [.c 116, .l 116, .b 0, .c 15] (by kernel_rfl) ?_
    refine J_wk [(0, .pt 0 0 0), (3, .sc (.int .i64 (w64 (s5.1 + (x7.Data.length : Int))))), (4, .sc (.int .i64 (w64 (s5.2 + 1))))] [(0, .box [.s false 2 a1.Files.length (a1.Files.map (File.enc false)), .sc (.int .i64 a1.Budget), .sc (.int .i64 a1.Writes), .sc (.int .i64 a1.Stop), .sc (.bool a1.Down)])] (by kernel_rfl) ?_
    exact J_q (J_bk (ih (w64 (s5.1 + (x7.Data.length : Int)), w64 (s5.2 + 1)))) rfl
  · refine J_lit (t := 11) (b := (decide (s5.2 < (a1.Files.length : Int)))) false rfl h6 ?_
    refine J_ctl 2 [.c 15] (by kernel_rfl) ?_
    refine J_wk [(3, .sc (.int .i64 s5.1))] [(0, .box [.s false 2 a1.Files.length (a1.Files.map (File.enc false)), .sc (.int .i64 a1.Budget), .sc (.int .i64 a1.Writes), .sc (.int .i64 a1.Stop), .sc (.bool a1.Down)])] (by kernel_rfl) ?_
    exact J_q (hk s5.1) rfl

theorem spec_l7Total.ok (a1 : Disk) : Ok Try.prog 18 [.pt 0 0 0] [.box [.s false 2 a1.Files.length (a1.Files.map (File.enc false)), .sc (.int .i64 a1.Budget), .sc (.int .i64 a1.Writes), .sc (.int .i64 a1.Stop), .sc (.bool a1.Down)]] ((spec_l7Total a1).map fun r => (.sc (.int .i64 r), [.box [.s false 2 a1.Files.length (a1.Files.map (File.enc false)), .sc (.int .i64 a1.Budget), .sc (.int .i64 a1.Writes), .sc (.int .i64 a1.Stop), .sc (.bool a1.Down)]])) := by
  refine Ok_of2 (fc := c18) (fn := Try.f18) (nt := 26) (by kernel_rfl) (by kernel_rfl) (by kernel_rfl) (by simp) ?_
  intro w0 N0 O0 β0
  unfold spec_l7Total
  refine J_ctl 1 [.c 2, .c 3] (by kernel_rfl) ?_
  refine J_run [] [] [(0, .pt 0 0 0)] [(0, .box [.s false 2 a1.Files.length (a1.Files.map (File.enc false)), .sc (.int .i64 a1.Budget), .sc (.int .i64 a1.Writes), .sc (.int .i64 a1.Stop), .sc (.bool a1.Down)])] (by kernel_rfl) trivial (by kernel_rfl) ?_
  refine J_ctl 1 [.c 6, .c 7] (by kernel_rfl) ?_
  refine J_run [] [] [(0, .pt 0 0 0), (3, .sc (.int .i64 0))] [(0, .box [.s false 2 a1.Files.length (a1.Files.map (File.enc false)), .sc (.int .i64 a1.Budget), .sc (.int .i64 a1.Writes), .sc (.int .i64 a1.Stop), .sc (.bool a1.Down)])] (by kernel_rfl) trivial (by kernel_rfl) ?_
  refine J_ctl 2 [.c 28, .c 29, .c 15] (by kernel_rfl) ?_
  refine J_run [] [] [(0, .pt 0 0 0), (3, .sc (.int .i64 0)), (4, .sc (.int .i64 0))] [(0, .box [.s false 2 a1.Files.length (a1.Files.map (File.enc false)), .sc (.int .i64 a1.Budget), .sc (.int .i64 a1.Writes), .sc (.int .i64 a1.Stop), .sc (.bool a1.Down)])] (by kernel_rfl) trivial (by kernel_rfl) ?_
  refine J_ctl 1 [.c 58, .b 0, .c 15] (by kernel_rfl) ?_
  refine J_ctl 1 [.c 116, .l 116, .b 0, .c 15] (by kernel_rfl) ?_
  refine J_wk [(0, .pt 0 0 0), (3, .sc (.int .i64 0)), (4, .sc (.int .i64 0))] [(0, .box [.s false 2 a1.Files.length (a1.Files.map (File.enc false)), .sc (.int .i64 a1.Budget), .sc (.int .i64 a1.Writes), .sc (.int .i64 a1.Stop), .sc (.bool a1.Down)])] (by kernel_rfl) ?_
  refine J_bindK ?_
  refine spec_l7Total_l1.ok a1 w0 N0 O0 β0 _ (fun v9 => J_j ?_) (0, 0)
  refine J_ctl 1 [.c 30, .c 31] (by kernel_rfl) ?_
  refine J_run [] [] [(2, .sc (.int .i64 v9))] [(0, .box [.s false 2 a1.Files.length (a1.Files.map (File.enc false)), .sc (.int .i64 a1.Budget), .sc (.int .i64 a1.Writes), .sc (.int .i64 a1.Stop), .sc (.bool a1.Down)])] (by kernel_rfl) trivial (by kernel_rfl) ?_
  exact J_ret1 (fn := Try.f18) (rs := [.tmp 2]) (ds := [.sc (.int .i64 v9)]) (ds' := [.sc (.int .i64 v9)]) (hout := [.box [.s false 2 a1.Files.length (a1.Files.map (File.enc false)), .sc (.int .i64 a1.Budget), .sc (.int .i64 a1.Writes), .sc (.int .i64 a1.Stop), .sc (.bool a1.Down)]]) (.inr ⟨_, _, rfl, by kernel_rfl⟩) (by kernel_rfl) (by kernel_rfl) (by kernel_rfl) (.cons (.cell (.keep rfl (.nil))) (.nil) (by decide)) rfl rfl (by kernel_rfl) (Nat.le_of_ble_eq_true rfl) rfl rfl

noncomputable def c17 : Code := (Try.f17.body).getD .skip

theorem spec_DiskFault_l1.ok (a1 : Disk) (w0 : World) (N0 : Nat → Prop) (O0 : List Nat) (β0 : Nat → Im.Loc) (kn : Unit → Option (D × List Ent)) (hk : ∀ v : Unit, J ⟨Try.prog, 17, w0, N0, O0, 0, β0, 72⟩ c17 [.c 31] (St.mk' [(1, .pt 0 0 0)] [(0, .box [.s false 2 a1.Files.length (a1.Files.map (File.enc false)), .sc (.int .i64 a1.Budget), .sc (.int .i64 a1.Writes), .sc (.int .i64 a1.Stop), .sc (.bool a1.Down)])]) (some v) kn) :
    ∀ s29 : Int, J ⟨Try.prog, 17, w0, N0, O0, 0, β0, 72⟩ c17 [.c 244, .l 244, .b 0, .c 31] (St.mk' [(1, .pt 0 0 0), (3, .sc (.int .i64 s29))] [(0, .box [.s false 2 a1.Files.length (a1.Files.map (File.enc false)), .sc (.int .i64 a1.Budget), .sc (.int .i64 a1.Writes), .sc (.int .i64 a1.Stop), .sc (.bool a1.Down)])]) (spec_DiskFault_l1 a1 s29) (Fl.go (fun r : Int => some (.sc (.int .i64 r), [])) kn) := by
  refine J_lp (σ := fun s29 : Int => St.mk' [(1, .pt 0 0 0), (3, .sc (.int .i64 s29))] [(0, .box [.s false 2 a1.Files.length (a1.Files.map (File.enc false)), .sc (.int .i64 a1.Budget), .sc (.int .i64 a1.Writes), .sc (.int .i64 a1.Stop), .sc (.bool a1.Down)])]) (fun g ih s29 => ?_)
  unfold spec_DiskFault_l1b
  refine J_ctl 2 [.c 976, .c 977, .c 489, .l 244, .b 0, .c 31] (by kernel_rfl) ?_
  refine J_run [] [] [(1, .pt 0 0 0), (3, .sc (.int .i64 s29)), (29, .sc (.bool (decide (s29 < (a1.Files.length : Int)))))] [(0, .box [.s false 2 a1.Files.length (a1.Files.map (File.enc false)), .sc (.int .i64 a1.Budget), .sc (.int .i64 a1.Writes), .sc (.int .i64 a1.Stop), .sc (.bool a1.Down)])] (by kernel_rfl) trivial (by kernel_rfl) ?_
  refine J_ite (fun h30 => ?_) (fun h30 => ?_)
  · refine J_lit (t := 29) (b := (decide (s29 < (a1.Files.length : Int)))) true rfl h30 ?_
    refine J_ctl 2 [.c 489, .l 244, .b 0, .c 31] (by kernel_rfl) ?_
    refine J_ctl 4 [.c 7824, .c 7825, .c 3913, .b 1, .c 979, .l 244, .b 0, .c 31] (by kernel_rfl) ?_
    refine J_bind (fun x31 h32 => ?_)
    refine J_bind (fun x33 h34 => ?_)
    refine J_run [(3, { tn := [(33, .s false 2 a1.Files.length (a1.Files.map (File.enc false))), (34, .sc (.int .i64 s29))], out := some (.ps ((File.enc false) x31)) }), (6, { tn := [(37, .sc (.string x31.Path))], out := some (.sc (.int .i64 x33)) })] [] [(1, .pt 0 0 0), (3, .sc (.int .i64 s29)), (4, .sc (.int .i64 x33))] [(0, .box [.s false 2 a1.Files.length (a1.Files.map (File.enc false)), .sc (.int .i64 a1.Budget), .sc (.int .i64 a1.Writes), .sc (.int .i64 a1.Stop), .sc (.bool a1.Down)])] (by kernel_rfl) ⟨orc1 (op := .indexAddr 29 (.tmp 33) (.tmp 34)) (by kernel_rfl) fun ops o hop hg => o_index (el := 51) (enc := (File.enc false)) h32 hg hop rfl (.head _) (.tail _ (.head _)) (by kernel_rfl) (by kernel_rfl), orc1 (op := .call { callee := .value (.func 29), args := #[(.tmp 37)], argTypes := #[9] }) (by kernel_rfl) fun ops o hop hg => v_call («as» := [.sc (.string x31.Path)]) (bor := false) (ids := []) (hin := []) (hout := []) (news := []) hg hop (fun _ => by kernel_rfl) rfl (fun k d hk => match k, hk with | 0, rfl => ⟨(.tmp 37), rfl, (.head _)⟩ | (n + 1), hk => by simp at hk) (.cons (.same rfl) (.nil)) (nodupK_spec rfl) rfl (by simp) (menAll rfl) (spec_PathFault.ok x31.Path) (by rw [h34]; rfl) (Nat.le_of_ble_eq_true rfl) (.same rfl rfl) (nodupK_spec rfl) rfl (le_all rfl) (by simp), trivial⟩ (by kernel_rfl) ?_
    refine J_ctl 1 [.c 15650, .c 15651, .c 3913, .b 1, .c 979, .l 244, .b 0, .c 31] (by kernel_rfl) ?_
    refine J_run [] [] [(1, .pt 0 0 0), (3, .sc (.int .i64 s29)), (4, .sc (.int .i64 x33)), (40, .sc (.bool (x33 != 0)))] [(0, .box [.s false 2 a1.Files.length (a1.Files.map (File.enc false)), .sc (.int .i64 a1.Budget), .sc (.int .i64 a1.Writes), .sc (.int .i64 a1.Stop), .sc (.bool a1.Down)])] (by kernel_rfl) trivial (by kernel_rfl) ?_
    refine J_ite (fun h35 => ?_) (fun h35 => ?_)
    · refine J_lit (t := 40) (b := (x33 != 0)) true rfl h35 ?_
      refine J_ctl 2 [.c 62604, .c 62605, .c 3913, .b 1, .c 979, .l 244, .b 0, .c 31] (by kernel_rfl) ?_
      refine J_run [] [] [(2, .sc (.int .i64 x33))] [] (by kernel_rfl) trivial (by kernel_rfl) ?_
      exact J_ret0 (fn := Try.f17) (rs := [.tmp 2]) (ds := [.sc (.int .i64 x33)]) (ds' := [.sc (.int .i64 x33)]) (.inr ⟨_, _, rfl, by kernel_rfl⟩) (by kernel_rfl) (by kernel_rfl) (by kernel_rfl) (.cons (.cell (.keep rfl (.nil))) (.nil) (by decide)) rfl rfl
    · refine J_lit (t := 40) (b := (x33 != 0)) false rfl h35 ?_
      refine J_ctl 2 [.c 3913, .b 1, .c 979, .l 244, .b 0, .c 31] (by kernel_rfl) ?_
      refine J_ctl 2 [.c 15652, .c 15653, .c 7827, .b 1, .c 979, .l 244, .b 0, .c 31] (by kernel_rfl) ?_
      refine J_join [.c 15653, .c 7827, .b 1, .c 979, .l 244, .b 0, .c 31] (fun v41 : Bool => St.mk' [(1, .pt 0 0 0), (3, .sc (.int .i64 s29)), (59, .sc (.bool v41))] [(0, .box [.s false 2 a1.Files.length (a1.Files.map (File.enc false)), .sc (.int .i64 a1.Budget), .sc (.int .i64 a1.Writes), .sc (.int .i64 a1.Stop), .sc (.bool a1.Down)])]) (fun v41 => ?_) (fun jv41 => ?_)
      · refine J_ite (fun h42 => ?_) (fun h42 => ?_)
        · refine J_lit (t := 59) (b := v41) true rfl h42 ?_
          refine J_ctl 2 [.c 62612, .c 62613, .c 7827, .b 1, .c 979, .l 244, .b 0, .c 31] (by kernel_rfl) ?_
          refine J_run [] [] [(2, .sc (.int .i64 1))] [] (by kernel_rfl) trivial (by kernel_rfl) ?_
          exact J_ret0 (fn := Try.f17) (rs := [.tmp 2]) (ds := [.sc (.int .i64 1)]) (ds' := [.sc (.int .i64 1)]) (.inr ⟨_, _, rfl, by kernel_rfl⟩) (by kernel_rfl) (by kernel_rfl) (by kernel_rfl) (.cons (.cell (.keep rfl (.nil))) (.nil) (by decide)) rfl rfl
        · refine J_lit (t := 59) (b := v41) false rfl h42 ?_
          refine J_ctl 2 [.c 7827, .b 1, .c 979, .l 244, .b 0, .c 31] (by kernel_rfl) ?_
          refine J_ctl 1 [.c 15654, .c 15655, .b 1, .c 979, .l 244, .b 0, .c 31] (by kernel_rfl) ?_
          refine J_bind (fun x43 h44 => ?_)
          refine J_run [(3, { tn := [(61, .s false 2 a1.Files.length (a1.Files.map (File.enc false))), (62, .sc (.int .i64 s29))], out := some (.ps ((File.enc false) x43)) })] [] [(1, .pt 0 0 0), (3, .sc (.int .i64 s29)), (67, .sc (.bool (decide ((x43.Data.length : Int) > 4000))))] [(0, .box [.s false 2 a1.Files.length (a1.Files.map (File.enc false)), .sc (.int .i64 a1.Budget), .sc (.int .i64 a1.Writes), .sc (.int .i64 a1.Stop), .sc (.bool a1.Down)])] (by kernel_rfl) ⟨orc1 (op := .indexAddr 29 (.tmp 61) (.tmp 62)) (by kernel_rfl) fun ops o hop hg => o_index (el := 51) (enc := (File.enc false)) h44 hg hop rfl (.head _) (.tail _ (.head _)) (by kernel_rfl) (by kernel_rfl), trivial⟩ (by kernel_rfl) ?_
          refine J_ite (fun h45 => ?_) (fun h45 => ?_)
          · refine J_lit (t := 67) (b := (decide ((x43.Data.length : Int) > 4000))) true rfl h45 ?_
            refine J_ctl 2 [.c 62620, .c 62621, .b 1, .c 979, .l 244, .b 0, .c 31] (by kernel_rfl) ?_
            refine J_run [] [] [(2, .sc (.int .i64 2))] [] (by kernel_rfl) trivial (by kernel_rfl) ?_
            exact J_ret0 (fn := Try.f17) (rs := [.tmp 2]) (ds := [.sc (.int .i64 2)]) (ds' := [.sc (.int .i64 2)]) (.inr ⟨_, _, rfl, by kernel_rfl⟩) (by kernel_rfl) (by kernel_rfl) (by kernel_rfl) (.cons (.cell (.keep rfl (.nil))) (.nil) (by decide)) rfl rfl
          · refine J_lit (t := 67) (b := (decide ((x43.Data.length : Int) > 4000))) false rfl h45 ?_
            refine J_ctl 2 [.b 1, .c 979, .l 244, .b 0, .c 31] (by kernel_rfl) ?_
            refine J_ctl 1 [.c 979, .l 244, .b 0, .c 31] (by kernel_rfl) ?_
            refine J_run [] [] [(1, .pt 0 0 0), (3, .sc (.int .i64 (w64 (s29 + 1))))] [(0, .box [.s false 2 a1.Files.length (a1.Files.map (File.enc false)), .sc (.int .i64 a1.Budget), .sc (.int .i64 a1.Writes), .sc (.int .i64 a1.Stop), .sc (.bool a1.Down)])] (by kernel_rfl) trivial (by kernel_rfl) ?_
            refine J_ctl 1 [.c 244, .l 244, .b 0, .c 31] (by kernel_rfl) ?_
            refine J_wk [(1, .pt 0 0 0), (3, .sc (.int .i64 (w64 (s29 + 1))))] [(0, .box [.s false 2 a1.Files.length (a1.Files.map (File.enc false)), .sc (.int .i64 a1.Budget), .sc (.int .i64 a1.Writes), .sc (.int .i64 a1.Stop), .sc (.bool a1.Down)])] (by kernel_rfl) ?_
            exact J_q (J_bk (ih (w64 (s29 + 1)))) rfl
      · refine J_ite (fun h36 => ?_) (fun h36 => ?_)
        · refine J_bind (fun x37 h38 => ?_)
          refine J_bind (fun x39 h40 => ?_)
          refine J_run [(2, { tn := [(43, .sc (.bool (decide (s29 > 0))))], out := some (.sc (.bool true)) }), (6, { tn := [(44, .sc (.bool true)), (46, .s false 2 a1.Files.length (a1.Files.map (File.enc false))), (47, .sc (.int .i64 s29))], out := some (.ps ((File.enc false) x37)) }), (13, { tn := [(44, .sc (.bool true)), (52, .s false 2 a1.Files.length (a1.Files.map (File.enc false))), (54, .sc (.int .i64 (w64 (s29 - 1))))], out := some (.ps ((File.enc false) x39)) })] [] [(1, .pt 0 0 0), (3, .sc (.int .i64 s29)), (59, .sc (.bool (slt x37.Path x39.Path || seq x37.Path x39.Path)))] [(0, .box [.s false 2 a1.Files.length (a1.Files.map (File.enc false)), .sc (.int .i64 a1.Budget), .sc (.int .i64 a1.Writes), .sc (.int .i64 a1.Stop), .sc (.bool a1.Down)])] (by kernel_rfl) ⟨orcA (id := none) [(43, .sc (.bool (decide (s29 > 0))))] [] { tn := [(43, .sc (.bool (decide (s29 > 0))))], out := some (.sc (.bool (decide (s29 > 0)))) } (by kernel_rfl) rfl (by rw [h36]), orcG (c := { tn := [(46, .s false 2 a1.Files.length (a1.Files.map (File.enc false))), (47, .sc (.int .i64 s29))], out := some (.ps ((File.enc false) x37)) }) (op := .indexAddr 29 (.tmp 46) (.tmp 47)) (g := 2) (t := 44) (b := true) (by kernel_rfl) (by kernel_rfl) fun ops o hop hg => o_index (el := 51) (enc := (File.enc false)) h38 hg hop rfl (.head _) (.tail _ (.head _)) (by kernel_rfl) (by kernel_rfl), orcG (c := { tn := [(52, .s false 2 a1.Files.length (a1.Files.map (File.enc false))), (54, .sc (.int .i64 (w64 (s29 - 1))))], out := some (.ps ((File.enc false) x39)) }) (op := .indexAddr 29 (.tmp 52) (.tmp 54)) (g := 2) (t := 44) (b := true) (by kernel_rfl) (by kernel_rfl) fun ops o hop hg => o_index (el := 51) (enc := (File.enc false)) h40 hg hop rfl (.head _) (.tail _ (.head _)) (by kernel_rfl) (by kernel_rfl), trivial⟩ (by kernel_rfl) ?_
          refine J_wk [(1, .pt 0 0 0), (3, .sc (.int .i64 s29)), (59, .sc (.bool (slt x37.Path x39.Path || seq x37.Path x39.Path)))] [(0, .box [.s false 2 a1.Files.length (a1.Files.map (File.enc false)), .sc (.int .i64 a1.Budget), .sc (.int .i64 a1.Writes), .sc (.int .i64 a1.Stop), .sc (.bool a1.Down)])] (by kernel_rfl) ?_
          exact J_q (J_j (jv41 (slt x37.Path x39.Path || seq x37.Path x39.Path))) rfl
        · refine J_run [(2, { tn := [(43, .sc (.bool (decide (s29 > 0))))], out := some (.sc (.bool false)) })] [] [(1, .pt 0 0 0), (3, .sc (.int .i64 s29)), (59, .sc (.bool false))] [(0, .box [.s false 2 a1.Files.length (a1.Files.map (File.enc false)), .sc (.int .i64 a1.Budget), .sc (.int .i64 a1.Writes), .sc (.int .i64 a1.Stop), .sc (.bool a1.Down)])] (by kernel_rfl) ⟨orcA (id := none) [(43, .sc (.bool (decide (s29 > 0))))] [] { tn := [(43, .sc (.bool (decide (s29 > 0))))], out := some (.sc (.bool (decide (s29 > 0)))) } (by kernel_rfl) rfl (by rw [h36]), trivial⟩ (by kernel_rfl) ?_
          refine J_wk [(1, .pt 0 0 0), (3, .sc (.int .i64 s29)), (59, .sc (.bool false))] [(0, .box [.s false 2 a1.Files.length (a1.Files.map (File.enc false)), .sc (.int .i64 a1.Budget), .sc (.int .i64 a1.Writes), .sc (.int .i64 a1.Stop), .sc (.bool a1.Down)])] (by kernel_rfl) ?_
          exact J_q (J_j (jv41 false)) rfl
  · refine J_lit (t := 29) (b := (decide (s29 < (a1.Files.length : Int)))) false rfl h30 ?_
    refine J_ctl 2 [.c 31] (by kernel_rfl) ?_
    refine J_wk [(1, .pt 0 0 0)] [(0, .box [.s false 2 a1.Files.length (a1.Files.map (File.enc false)), .sc (.int .i64 a1.Budget), .sc (.int .i64 a1.Writes), .sc (.int .i64 a1.Stop), .sc (.bool a1.Down)])] (by kernel_rfl) ?_
    exact J_q (hk ()) rfl

theorem spec_DiskFault.ok (a1 : Disk) : Ok Try.prog 17 [.ag [.s false 2 a1.Files.length (a1.Files.map (File.enc false)), .sc (.int .i64 a1.Budget), .sc (.int .i64 a1.Writes), .sc (.int .i64 a1.Stop), .sc (.bool a1.Down)]] [] ((spec_DiskFault a1).map fun r => (.sc (.int .i64 r), [])) := by
  refine Ok_of2 (fc := c17) (fn := Try.f17) (nt := 72) (by kernel_rfl) (by kernel_rfl) (by kernel_rfl) (by simp) ?_
  intro w0 N0 O0 β0
  unfold spec_DiskFault
  refine J_ctl 1 [.c 2, .c 3] (by kernel_rfl) ?_
  refine J_run [] [(0, 0)] [(1, .pt 0 0 0)] [(0, .box [.s false 2 a1.Files.length (a1.Files.map (File.enc false)), .sc (.int .i64 a1.Budget), .sc (.int .i64 a1.Writes), .sc (.int .i64 a1.Stop), .sc (.bool a1.Down)])] (by kernel_rfl) trivial (by kernel_rfl) ?_
  refine J_ctl 2 [.c 12, .c 13, .c 7] (by kernel_rfl) ?_
  refine J_bind (fun x2 h3 => ?_)
  refine J_join [.c 13, .c 7] (fun v10 : Bool => St.mk' [(1, .pt 0 0 0), (20, .sc (.bool v10))] [(0, .box [.s false 2 a1.Files.length (a1.Files.map (File.enc false)), .sc (.int .i64 a1.Budget), .sc (.int .i64 a1.Writes), .sc (.int .i64 a1.Stop), .sc (.bool a1.Down)])]) (fun v10 => ?_) (fun jv10 => ?_)
  · refine J_ite (fun h11 => ?_) (fun h11 => ?_)
    · refine J_lit (t := 20) (b := v10) true rfl h11 ?_
      refine J_ctl 2 [.c 52, .c 53, .c 7] (by kernel_rfl) ?_
      refine J_run [] [] [(2, .sc (.int .i64 3))] [] (by kernel_rfl) trivial (by kernel_rfl) ?_
      exact J_ret0 (fn := Try.f17) (rs := [.tmp 2]) (ds := [.sc (.int .i64 3)]) (ds' := [.sc (.int .i64 3)]) (.inr ⟨_, _, rfl, by kernel_rfl⟩) (by kernel_rfl) (by kernel_rfl) (by kernel_rfl) (.cons (.cell (.keep rfl (.nil))) (.nil) (by decide)) rfl rfl
    · refine J_lit (t := 20) (b := v10) false rfl h11 ?_
      refine J_ctl 2 [.c 7] (by kernel_rfl) ?_
      refine J_ctl 2 [.c 28, .c 29, .c 15] (by kernel_rfl) ?_
      refine J_run [] [] [(1, .pt 0 0 0), (24, .sc (.bool (decide ((a1.Files.length : Int) > 120))))] [(0, .box [.s false 2 a1.Files.length (a1.Files.map (File.enc false)), .sc (.int .i64 a1.Budget), .sc (.int .i64 a1.Writes), .sc (.int .i64 a1.Stop), .sc (.bool a1.Down)])] (by kernel_rfl) trivial (by kernel_rfl) ?_
      refine J_ite (fun h12 => ?_) (fun h12 => ?_)
      · refine J_lit (t := 24) (b := (decide ((a1.Files.length : Int) > 120))) true rfl h12 ?_
        refine J_ctl 2 [.c 116, .c 117, .c 15] (by kernel_rfl) ?_
        refine J_run [] [] [(2, .sc (.int .i64 2))] [] (by kernel_rfl) trivial (by kernel_rfl) ?_
        exact J_ret0 (fn := Try.f17) (rs := [.tmp 2]) (ds := [.sc (.int .i64 2)]) (ds' := [.sc (.int .i64 2)]) (.inr ⟨_, _, rfl, by kernel_rfl⟩) (by kernel_rfl) (by kernel_rfl) (by kernel_rfl) (.cons (.cell (.keep rfl (.nil))) (.nil) (by decide)) rfl rfl
      · refine J_lit (t := 24) (b := (decide ((a1.Files.length : Int) > 120))) false rfl h12 ?_
        refine J_ctl 2 [.c 15] (by kernel_rfl) ?_
        refine J_ctl 2 [.c 60, .c 61, .c 31] (by kernel_rfl) ?_
        refine J_run [] [] [(1, .pt 0 0 0), (3, .sc (.int .i64 0))] [(0, .box [.s false 2 a1.Files.length (a1.Files.map (File.enc false)), .sc (.int .i64 a1.Budget), .sc (.int .i64 a1.Writes), .sc (.int .i64 a1.Stop), .sc (.bool a1.Down)])] (by kernel_rfl) trivial (by kernel_rfl) ?_
        refine J_ctl 1 [.c 122, .b 0, .c 31] (by kernel_rfl) ?_
        refine J_ctl 1 [.c 244, .l 244, .b 0, .c 31] (by kernel_rfl) ?_
        refine J_wk [(1, .pt 0 0 0), (3, .sc (.int .i64 0))] [(0, .box [.s false 2 a1.Files.length (a1.Files.map (File.enc false)), .sc (.int .i64 a1.Budget), .sc (.int .i64 a1.Writes), .sc (.int .i64 a1.Stop), .sc (.bool a1.Down)])] (by kernel_rfl) ?_
        refine J_loop (K0 := (fun r : Int => some (.sc (.int .i64 r), []))) (fun _ => rfl) ?_
        refine spec_DiskFault_l1.ok a1 w0 N0 O0 β0 _ (fun v46 => J_j ?_) 0
        refine J_ctl 2 [.c 124, .c 125, .c 63] (by kernel_rfl) ?_
        refine J_bind (fun x47 h48 => ?_)
        refine J_run [(0, { tn := [(1, .pt 0 0 0)], hn := [(0, .box [.s false 2 a1.Files.length (a1.Files.map (File.enc false)), .sc (.int .i64 a1.Budget), .sc (.int .i64 a1.Writes), .sc (.int .i64 a1.Stop), .sc (.bool a1.Down)])], out := some (.sc (.int .i64 x47)) })] [] [(71, .sc (.bool (decide (x47 > a1.Budget))))] [] (by kernel_rfl) ⟨orc1 (op := .call { callee := .value (.func 18), args := #[(.tmp 1)], argTypes := #[39] }) (by kernel_rfl) fun ops o hop hg => valid_ro (c := { tn := [(1, .pt 0 0 0)], hn := [(0, .box [.s false 2 a1.Files.length (a1.Files.map (File.enc false)), .sc (.int .i64 a1.Budget), .sc (.int .i64 a1.Writes), .sc (.int .i64 a1.Stop), .sc (.bool a1.Down)])], out := some (.sc (.int .i64 x47)), hx := [0], hw := [(0, .box [.s false 2 a1.Files.length (a1.Files.map (File.enc false)), .sc (.int .i64 a1.Budget), .sc (.int .i64 a1.Writes), .sc (.int .i64 a1.Stop), .sc (.bool a1.Down)])] }) [(0, .box [.s false 2 a1.Files.length (a1.Files.map (File.enc false)), .sc (.int .i64 a1.Budget), .sc (.int .i64 a1.Writes), .sc (.int .i64 a1.Stop), .sc (.bool a1.Down)])] [] (fun _ h => h) rfl rfl rfl (nodupK_spec rfl) (v_call («as» := [.pt 0 0 0]) (bor := false) (ids := [0]) (hin := [.box [.s false 2 a1.Files.length (a1.Files.map (File.enc false)), .sc (.int .i64 a1.Budget), .sc (.int .i64 a1.Writes), .sc (.int .i64 a1.Stop), .sc (.bool a1.Down)]]) (hout := [.box [.s false 2 a1.Files.length (a1.Files.map (File.enc false)), .sc (.int .i64 a1.Budget), .sc (.int .i64 a1.Writes), .sc (.int .i64 a1.Stop), .sc (.bool a1.Down)]]) (news := []) hg hop (fun _ => by kernel_rfl) rfl (fun k d hk => match k, hk with | 0, rfl => ⟨(.tmp 1), rfl, (.head _)⟩ | (n + 1), hk => by simp at hk) (.cons (.pt rfl) (.nil)) (nodupK_spec rfl) rfl (fun _ h => h) (menAll rfl) (spec_l7Total.ok a1) (by rw [h48]; rfl) (Nat.le_of_ble_eq_true rfl) (.same rfl rfl) (nodupK_spec rfl) rfl (le_all rfl) (by simp)), trivial⟩ (by kernel_rfl) ?_
        refine J_ite (fun h49 => ?_) (fun h49 => ?_)
        · refine J_lit (t := 71) (b := (decide (x47 > a1.Budget))) true rfl h49 ?_
          refine J_ctl 2 [.c 500, .c 501, .c 63] (by kernel_rfl) ?_
          refine J_run [] [] [(2, .sc (.int .i64 8))] [] (by kernel_rfl) trivial (by kernel_rfl) ?_
          exact J_ret0 (fn := Try.f17) (rs := [.tmp 2]) (ds := [.sc (.int .i64 8)]) (ds' := [.sc (.int .i64 8)]) (.inr ⟨_, _, rfl, by kernel_rfl⟩) (by kernel_rfl) (by kernel_rfl) (by kernel_rfl) (.cons (.cell (.keep rfl (.nil))) (.nil) (by decide)) rfl rfl
        · refine J_lit (t := 71) (b := (decide (x47 > a1.Budget))) false rfl h49 ?_
          refine J_ctl 2 [.c 63] (by kernel_rfl) ?_
          refine J_ctl 1 [.c 126, .c 127] (by kernel_rfl) ?_
          refine J_run [] [] [(2, .sc (.int .i64 0))] [] (by kernel_rfl) trivial (by kernel_rfl) ?_
          exact J_ret0 (fn := Try.f17) (rs := [.tmp 2]) (ds := [.sc (.int .i64 0)]) (ds' := [.sc (.int .i64 0)]) (.inr ⟨_, _, rfl, by kernel_rfl⟩) (by kernel_rfl) (by kernel_rfl) (by kernel_rfl) (.cons (.cell (.keep rfl (.nil))) (.nil) (by decide)) rfl rfl
  · refine J_ite (fun h4 => ?_) (fun h4 => ?_)
    · refine J_run [(2, { tn := [(6, .sc (.int .i64 a1.Budget))], out := some (.sc (.bool x2)) }), (4, { tn := [(8, .sc (.bool (!x2)))], out := some (.sc (.bool true)) })] [] [(1, .pt 0 0 0), (20, .sc (.bool true))] [(0, .box [.s false 2 a1.Files.length (a1.Files.map (File.enc false)), .sc (.int .i64 a1.Budget), .sc (.int .i64 a1.Writes), .sc (.int .i64 a1.Stop), .sc (.bool a1.Down)])] (by kernel_rfl) ⟨orc1 (op := .call { callee := .value (.func 28), args := #[(.tmp 6), (.const (.int .i64 0)), (.const (.int .i64 20000))], argTypes := #[2, 2, 2] }) (by kernel_rfl) fun ops o hop hg => v_call («as» := [.sc (.int .i64 a1.Budget), .sc (.int .i64 0), .sc (.int .i64 20000)]) (bor := false) (ids := []) (hin := []) (hout := []) (news := []) hg hop (fun _ => by kernel_rfl) rfl (fun k d hk => match k, hk with | 0, rfl => ⟨(.tmp 6), rfl, (.head _)⟩ | 1, rfl => ⟨(.const (.int .i64 0)), rfl, rfl⟩ | 2, rfl => ⟨(.const (.int .i64 20000)), rfl, rfl⟩ | (n + 3), hk => by simp at hk) (.cons (.same rfl) (.cons (.same rfl) (.cons (.same rfl) (.nil)))) (nodupK_spec rfl) rfl (by simp) (menAll rfl) (spec_l1In.ok a1.Budget 0 20000) (by rw [h3]; rfl) (Nat.le_of_ble_eq_true rfl) (.same rfl rfl) (nodupK_spec rfl) rfl (le_all rfl) (by simp), orcA (id := none) [(8, .sc (.bool (!x2)))] [] { tn := [(8, .sc (.bool (!x2)))], out := some (.sc (.bool (!x2))) } (by kernel_rfl) rfl (by rw [h4]), trivial⟩ (by kernel_rfl) ?_
      refine J_wk [(1, .pt 0 0 0), (20, .sc (.bool true))] [(0, .box [.s false 2 a1.Files.length (a1.Files.map (File.enc false)), .sc (.int .i64 a1.Budget), .sc (.int .i64 a1.Writes), .sc (.int .i64 a1.Stop), .sc (.bool a1.Down)])] (by kernel_rfl) ?_
      exact J_q (J_j (jv10 true)) rfl
    · refine J_bind (fun x5 h6 => ?_)
      refine J_ite (fun h7 => ?_) (fun h7 => ?_)
      · refine J_run [(2, { tn := [(6, .sc (.int .i64 a1.Budget))], out := some (.sc (.bool x2)) }), (4, { tn := [(8, .sc (.bool (!x2)))], out := some (.sc (.bool false)) }), (7, { tn := [(9, .sc (.bool false)), (11, .sc (.int .i64 a1.Writes))], out := some (.sc (.bool x5)) }), (10, { tn := [(14, .sc (.bool (!x5)))], out := some (.sc (.bool true)) })] [] [(1, .pt 0 0 0), (20, .sc (.bool true))] [(0, .box [.s false 2 a1.Files.length (a1.Files.map (File.enc false)), .sc (.int .i64 a1.Budget), .sc (.int .i64 a1.Writes), .sc (.int .i64 a1.Stop), .sc (.bool a1.Down)])] (by kernel_rfl) ⟨orc1 (op := .call { callee := .value (.func 28), args := #[(.tmp 6), (.const (.int .i64 0)), (.const (.int .i64 20000))], argTypes := #[2, 2, 2] }) (by kernel_rfl) fun ops o hop hg => v_call («as» := [.sc (.int .i64 a1.Budget), .sc (.int .i64 0), .sc (.int .i64 20000)]) (bor := false) (ids := []) (hin := []) (hout := []) (news := []) hg hop (fun _ => by kernel_rfl) rfl (fun k d hk => match k, hk with | 0, rfl => ⟨(.tmp 6), rfl, (.head _)⟩ | 1, rfl => ⟨(.const (.int .i64 0)), rfl, rfl⟩ | 2, rfl => ⟨(.const (.int .i64 20000)), rfl, rfl⟩ | (n + 3), hk => by simp at hk) (.cons (.same rfl) (.cons (.same rfl) (.cons (.same rfl) (.nil)))) (nodupK_spec rfl) rfl (by simp) (menAll rfl) (spec_l1In.ok a1.Budget 0 20000) (by rw [h3]; rfl) (Nat.le_of_ble_eq_true rfl) (.same rfl rfl) (nodupK_spec rfl) rfl (le_all rfl) (by simp), orcA (id := none) [(8, .sc (.bool (!x2)))] [] { tn := [(8, .sc (.bool (!x2)))], out := some (.sc (.bool (!x2))) } (by kernel_rfl) rfl (by rw [h4]), orcG (c := { tn := [(11, .sc (.int .i64 a1.Writes))], out := some (.sc (.bool x5)) }) (op := .call { callee := .value (.func 28), args := #[(.tmp 11), (.const (.int .i64 0)), (.const (.int .i64 1000000000))], argTypes := #[2, 2, 2] }) (g := 4) (t := 9) (b := false) (by kernel_rfl) (by kernel_rfl) fun ops o hop hg => v_call («as» := [.sc (.int .i64 a1.Writes), .sc (.int .i64 0), .sc (.int .i64 1000000000)]) (bor := false) (ids := []) (hin := []) (hout := []) (news := []) hg hop (fun _ => by kernel_rfl) rfl (fun k d hk => match k, hk with | 0, rfl => ⟨(.tmp 11), rfl, (.head _)⟩ | 1, rfl => ⟨(.const (.int .i64 0)), rfl, rfl⟩ | 2, rfl => ⟨(.const (.int .i64 1000000000)), rfl, rfl⟩ | (n + 3), hk => by simp at hk) (.cons (.same rfl) (.cons (.same rfl) (.cons (.same rfl) (.nil)))) (nodupK_spec rfl) rfl (by simp) (menAll rfl) (spec_l1In.ok a1.Writes 0 1000000000) (by rw [h6]; rfl) (Nat.le_of_ble_eq_true rfl) (.same rfl rfl) (nodupK_spec rfl) rfl (le_all rfl) (by simp), orcA (id := none) [(14, .sc (.bool (!x5)))] [] { tn := [(14, .sc (.bool (!x5)))], out := some (.sc (.bool (!x5))) } (by kernel_rfl) rfl (by rw [h7]), trivial⟩ (by kernel_rfl) ?_
        refine J_wk [(1, .pt 0 0 0), (20, .sc (.bool true))] [(0, .box [.s false 2 a1.Files.length (a1.Files.map (File.enc false)), .sc (.int .i64 a1.Budget), .sc (.int .i64 a1.Writes), .sc (.int .i64 a1.Stop), .sc (.bool a1.Down)])] (by kernel_rfl) ?_
        exact J_q (J_j (jv10 true)) rfl
      · refine J_bind (fun x8 h9 => ?_)
        refine J_run [(2, { tn := [(6, .sc (.int .i64 a1.Budget))], out := some (.sc (.bool x2)) }), (4, { tn := [(8, .sc (.bool (!x2)))], out := some (.sc (.bool false)) }), (7, { tn := [(9, .sc (.bool false)), (11, .sc (.int .i64 a1.Writes))], out := some (.sc (.bool x5)) }), (10, { tn := [(14, .sc (.bool (!x5)))], out := some (.sc (.bool false)) }), (13, { tn := [(15, .sc (.bool false)), (17, .sc (.int .i64 a1.Stop))], out := some (.sc (.bool x8)) })] [] [(1, .pt 0 0 0), (20, .sc (.bool (!x8)))] [(0, .box [.s false 2 a1.Files.length (a1.Files.map (File.enc false)), .sc (.int .i64 a1.Budget), .sc (.int .i64 a1.Writes), .sc (.int .i64 a1.Stop), .sc (.bool a1.Down)])] (by kernel_rfl) ⟨orc1 (op := .call { callee := .value (.func 28), args := #[(.tmp 6), (.const (.int .i64 0)), (.const (.int .i64 20000))], argTypes := #[2, 2, 2] }) (by kernel_rfl) fun ops o hop hg => v_call («as» := [.sc (.int .i64 a1.Budget), .sc (.int .i64 0), .sc (.int .i64 20000)]) (bor := false) (ids := []) (hin := []) (hout := []) (news := []) hg hop (fun _ => by kernel_rfl) rfl (fun k d hk => match k, hk with | 0, rfl => ⟨(.tmp 6), rfl, (.head _)⟩ | 1, rfl => ⟨(.const (.int .i64 0)), rfl, rfl⟩ | 2, rfl => ⟨(.const (.int .i64 20000)), rfl, rfl⟩ | (n + 3), hk => by simp at hk) (.cons (.same rfl) (.cons (.same rfl) (.cons (.same rfl) (.nil)))) (nodupK_spec rfl) rfl (by simp) (menAll rfl) (spec_l1In.ok a1.Budget 0 20000) (by rw [h3]; rfl) (Nat.le_of_ble_eq_true rfl) (.same rfl rfl) (nodupK_spec rfl) rfl (le_all rfl) (by simp), orcA (id := none) [(8, .sc (.bool (!x2)))] [] { tn := [(8, .sc (.bool (!x2)))], out := some (.sc (.bool (!x2))) } (by kernel_rfl) rfl (by rw [h4]), orcG (c := { tn := [(11, .sc (.int .i64 a1.Writes))], out := some (.sc (.bool x5)) }) (op := .call { callee := .value (.func 28), args := #[(.tmp 11), (.const (.int .i64 0)), (.const (.int .i64 1000000000))], argTypes := #[2, 2, 2] }) (g := 4) (t := 9) (b := false) (by kernel_rfl) (by kernel_rfl) fun ops o hop hg => v_call («as» := [.sc (.int .i64 a1.Writes), .sc (.int .i64 0), .sc (.int .i64 1000000000)]) (bor := false) (ids := []) (hin := []) (hout := []) (news := []) hg hop (fun _ => by kernel_rfl) rfl (fun k d hk => match k, hk with | 0, rfl => ⟨(.tmp 11), rfl, (.head _)⟩ | 1, rfl => ⟨(.const (.int .i64 0)), rfl, rfl⟩ | 2, rfl => ⟨(.const (.int .i64 1000000000)), rfl, rfl⟩ | (n + 3), hk => by simp at hk) (.cons (.same rfl) (.cons (.same rfl) (.cons (.same rfl) (.nil)))) (nodupK_spec rfl) rfl (by simp) (menAll rfl) (spec_l1In.ok a1.Writes 0 1000000000) (by rw [h6]; rfl) (Nat.le_of_ble_eq_true rfl) (.same rfl rfl) (nodupK_spec rfl) rfl (le_all rfl) (by simp), orcA (id := none) [(14, .sc (.bool (!x5)))] [] { tn := [(14, .sc (.bool (!x5)))], out := some (.sc (.bool (!x5))) } (by kernel_rfl) rfl (by rw [h7]), orcG (c := { tn := [(17, .sc (.int .i64 a1.Stop))], out := some (.sc (.bool x8)) }) (op := .call { callee := .value (.func 28), args := #[(.tmp 17), (.const (.int .i64 (-1))), (.const (.int .i64 1000000000))], argTypes := #[2, 2, 2] }) (g := 10) (t := 15) (b := false) (by kernel_rfl) (by kernel_rfl) fun ops o hop hg => v_call («as» := [.sc (.int .i64 a1.Stop), .sc (.int .i64 (-1)), .sc (.int .i64 1000000000)]) (bor := false) (ids := []) (hin := []) (hout := []) (news := []) hg hop (fun _ => by kernel_rfl) rfl (fun k d hk => match k, hk with | 0, rfl => ⟨(.tmp 17), rfl, (.head _)⟩ | 1, rfl => ⟨(.const (.int .i64 (-1))), rfl, rfl⟩ | 2, rfl => ⟨(.const (.int .i64 1000000000)), rfl, rfl⟩ | (n + 3), hk => by simp at hk) (.cons (.same rfl) (.cons (.same rfl) (.cons (.same rfl) (.nil)))) (nodupK_spec rfl) rfl (by simp) (menAll rfl) (spec_l1In.ok a1.Stop (-1) 1000000000) (by rw [h9]; rfl) (Nat.le_of_ble_eq_true rfl) (.same rfl rfl) (nodupK_spec rfl) rfl (le_all rfl) (by simp), trivial⟩ (by kernel_rfl) ?_
        refine J_wk [(1, .pt 0 0 0), (20, .sc (.bool (!x8)))] [(0, .box [.s false 2 a1.Files.length (a1.Files.map (File.enc false)), .sc (.int .i64 a1.Budget), .sc (.int .i64 a1.Writes), .sc (.int .i64 a1.Stop), .sc (.bool a1.Down)])] (by kernel_rfl) ?_
        exact J_q (J_j (jv10 (!x8))) rfl

noncomputable def c7 : Code := (Try.f7.body).getD .skip

theorem spec_TotalOf.ok (a1 : Disk) : Ok Try.prog 7 [.ag [.s false 2 a1.Files.length (a1.Files.map (File.enc false)), .sc (.int .i64 a1.Budget), .sc (.int .i64 a1.Writes), .sc (.int .i64 a1.Stop), .sc (.bool a1.Down)]] [] ((spec_TotalOf a1).map fun r => (.ag [.sc (.int .i64 r.Code), .sc (.int .i64 r.Value)], [])) := by
  refine Ok_of2 (fc := c7) (fn := Try.f7) (nt := 12) (by kernel_rfl) (by kernel_rfl) (by kernel_rfl) (by simp) ?_
  intro w0 N0 O0 β0
  unfold spec_TotalOf
  refine J_ctl 1 [.c 2, .c 3] (by kernel_rfl) ?_
  refine J_run [] [(0, 0), (1, 1)] [(1, .pt 0 0 0), (2, .pt 1 0 0)] [(0, .box [.s false 2 a1.Files.length (a1.Files.map (File.enc false)), .sc (.int .i64 a1.Budget), .sc (.int .i64 a1.Writes), .sc (.int .i64 a1.Stop), .sc (.bool a1.Down)]), (1, .box [.sc (.int .i64 0), .sc (.int .i64 0)])] (by kernel_rfl) trivial (by kernel_rfl) ?_
  refine J_ctl 2 [.c 12, .c 13, .c 7] (by kernel_rfl) ?_
  refine J_bind (fun x2 h3 => ?_)
  refine J_run [(1, { tn := [(4, .ag [.s false 2 a1.Files.length (a1.Files.map (File.enc false)), .sc (.int .i64 a1.Budget), .sc (.int .i64 a1.Writes), .sc (.int .i64 a1.Stop), .sc (.bool a1.Down)])], out := some (.sc (.int .i64 x2)) })] [] [(1, .pt 0 0 0), (2, .pt 1 0 0), (3, .sc (.int .i64 x2))] [(0, .box [.s false 2 a1.Files.length (a1.Files.map (File.enc false)), .sc (.int .i64 a1.Budget), .sc (.int .i64 a1.Writes), .sc (.int .i64 a1.Stop), .sc (.bool a1.Down)]), (1, .box [.sc (.int .i64 0), .sc (.int .i64 0)])] (by kernel_rfl) ⟨orc1 (op := .call { callee := .value (.func 17), args := #[(.tmp 4)], argTypes := #[31] }) (by kernel_rfl) fun ops o hop hg => v_call («as» := [.ag [.s false 2 a1.Files.length (a1.Files.map (File.enc false)), .sc (.int .i64 a1.Budget), .sc (.int .i64 a1.Writes), .sc (.int .i64 a1.Stop), .sc (.bool a1.Down)]]) (bor := false) (ids := []) (hin := []) (hout := []) (news := []) hg hop (fun _ => by kernel_rfl) rfl (fun k d hk => match k, hk with | 0, rfl => ⟨(.tmp 4), rfl, (.head _)⟩ | (n + 1), hk => by simp at hk) (.cons (.same rfl) (.nil)) (nodupK_spec rfl) rfl (by simp) (menAll rfl) (spec_DiskFault.ok a1) (by rw [h3]; rfl) (Nat.le_of_ble_eq_true rfl) (.same rfl rfl) (nodupK_spec rfl) rfl (le_all rfl) (by simp), trivial⟩ (by kernel_rfl) ?_
  refine J_ctl 1 [.c 26, .c 27, .c 7] (by kernel_rfl) ?_
  refine J_run [] [] [(1, .pt 0 0 0), (2, .pt 1 0 0), (3, .sc (.int .i64 x2)), (7, .sc (.bool (x2 != 0)))] [(0, .box [.s false 2 a1.Files.length (a1.Files.map (File.enc false)), .sc (.int .i64 a1.Budget), .sc (.int .i64 a1.Writes), .sc (.int .i64 a1.Stop), .sc (.bool a1.Down)]), (1, .box [.sc (.int .i64 0), .sc (.int .i64 0)])] (by kernel_rfl) trivial (by kernel_rfl) ?_
  refine J_ite (fun h4 => ?_) (fun h4 => ?_)
  · refine J_lit (t := 7) (b := (x2 != 0)) true rfl h4 ?_
    refine J_ctl 2 [.c 108, .c 109, .c 7] (by kernel_rfl) ?_
    refine J_run [] [] [(2, .pt 1 0 0)] [(1, .box [.sc (.int .i64 x2), .sc (.int .i64 0)])] (by kernel_rfl) trivial (by kernel_rfl) ?_
    exact J_ret0 (fn := Try.f7) (rs := [.cell 2 27]) (ds := [.ag [.sc (.int .i64 x2), .sc (.int .i64 0)]]) (ds' := [.ag [.sc (.int .i64 x2), .sc (.int .i64 0)]]) (.inr ⟨_, _, rfl, by kernel_rfl⟩) (by kernel_rfl) (by kernel_rfl) (by kernel_rfl) (.cons (.ag (.keep rfl (.keep rfl (.nil)))) (.nil) (by decide)) rfl rfl
  · refine J_lit (t := 7) (b := (x2 != 0)) false rfl h4 ?_
    refine J_ctl 2 [.c 7] (by kernel_rfl) ?_
    refine J_ctl 1 [.c 14, .c 15] (by kernel_rfl) ?_
    refine J_bind (fun x5 h6 => ?_)
    refine J_run [(0, { tn := [(1, .pt 0 0 0)], hn := [(0, .box [.s false 2 a1.Files.length (a1.Files.map (File.enc false)), .sc (.int .i64 a1.Budget), .sc (.int .i64 a1.Writes), .sc (.int .i64 a1.Stop), .sc (.bool a1.Down)])], out := some (.sc (.int .i64 x5)) })] [] [(2, .pt 1 0 0)] [(1, .box [.sc (.int .i64 0), .sc (.int .i64 x5)])] (by kernel_rfl) ⟨orc1 (op := .call { callee := .value (.func 18), args := #[(.tmp 1)], argTypes := #[39] }) (by kernel_rfl) fun ops o hop hg => valid_ro (c := { tn := [(1, .pt 0 0 0)], hn := [(0, .box [.s false 2 a1.Files.length (a1.Files.map (File.enc false)), .sc (.int .i64 a1.Budget), .sc (.int .i64 a1.Writes), .sc (.int .i64 a1.Stop), .sc (.bool a1.Down)])], out := some (.sc (.int .i64 x5)), hx := [0], hw := [(0, .box [.s false 2 a1.Files.length (a1.Files.map (File.enc false)), .sc (.int .i64 a1.Budget), .sc (.int .i64 a1.Writes), .sc (.int .i64 a1.Stop), .sc (.bool a1.Down)])] }) [(0, .box [.s false 2 a1.Files.length (a1.Files.map (File.enc false)), .sc (.int .i64 a1.Budget), .sc (.int .i64 a1.Writes), .sc (.int .i64 a1.Stop), .sc (.bool a1.Down)])] [] (fun _ h => h) rfl rfl rfl (nodupK_spec rfl) (v_call («as» := [.pt 0 0 0]) (bor := false) (ids := [0]) (hin := [.box [.s false 2 a1.Files.length (a1.Files.map (File.enc false)), .sc (.int .i64 a1.Budget), .sc (.int .i64 a1.Writes), .sc (.int .i64 a1.Stop), .sc (.bool a1.Down)]]) (hout := [.box [.s false 2 a1.Files.length (a1.Files.map (File.enc false)), .sc (.int .i64 a1.Budget), .sc (.int .i64 a1.Writes), .sc (.int .i64 a1.Stop), .sc (.bool a1.Down)]]) (news := []) hg hop (fun _ => by kernel_rfl) rfl (fun k d hk => match k, hk with | 0, rfl => ⟨(.tmp 1), rfl, (.head _)⟩ | (n + 1), hk => by simp at hk) (.cons (.pt rfl) (.nil)) (nodupK_spec rfl) rfl (fun _ h => h) (menAll rfl) (spec_l7Total.ok a1) (by rw [h6]; rfl) (Nat.le_of_ble_eq_true rfl) (.same rfl rfl) (nodupK_spec rfl) rfl (le_all rfl) (by simp)), trivial⟩ (by kernel_rfl) ?_
    exact J_ret0 (fn := Try.f7) (rs := [.cell 2 27]) (ds := [.ag [.sc (.int .i64 0), .sc (.int .i64 x5)]]) (ds' := [.ag [.sc (.int .i64 0), .sc (.int .i64 x5)]]) (.inr ⟨_, _, rfl, by kernel_rfl⟩) (by kernel_rfl) (by kernel_rfl) (by kernel_rfl) (.cons (.ag (.keep rfl (.keep rfl (.nil)))) (.nil) (by decide)) rfl rfl

noncomputable def c31 : Code := (Try.f31.body).getD .skip

theorem impl_within.ok (a1 : Int) (a2 : Int) (a3 : Int) : Ok Try.prog 31 [.sc (.int .i64 a1), .sc (.int .i64 a2), .sc (.int .i64 a3)] [] ((impl_within a1 a2 a3).map fun r => (.sc (.bool r), [])) := by
  refine Ok_of2 (fc := c31) (fn := Try.f31) (nt := 15) (by kernel_rfl) (by kernel_rfl) (by kernel_rfl) (by simp) ?_
  intro w0 N0 O0 β0
  unfold impl_within
  refine J_ctl 1 [.c 2, .c 3] (by kernel_rfl) ?_
  refine J_run [] [] [(0, .sc (.int .i64 a1)), (1, .sc (.int .i64 a2)), (2, .sc (.int .i64 a3))] [] (by kernel_rfl) trivial (by kernel_rfl) ?_
  refine J_ctl 1 [.c 6, .c 7] (by kernel_rfl) ?_
  refine J_ite (fun h4 => ?_) (fun h4 => ?_)
  · refine J_run [(3, { tn := [(9, .sc (.bool (decide (a2 ≤ a1))))], out := some (.sc (.bool true)) })] [] [(6, .sc (.bool (decide (a1 ≤ a3))))] [] (by kernel_rfl) ⟨orcA (id := none) [(9, .sc (.bool (decide (a2 ≤ a1))))] [] { tn := [(9, .sc (.bool (decide (a2 ≤ a1))))], out := some (.sc (.bool (decide (a2 ≤ a1)))) } (by kernel_rfl) rfl (by rw [h4]), trivial⟩ (by kernel_rfl) ?_
    exact J_ret0 (fn := Try.f31) (rs := [.tmp 6]) (ds := [.sc (.bool (decide (a1 ≤ a3)))]) (ds' := [.sc (.bool (decide (a1 ≤ a3)))]) (.inr ⟨_, _, rfl, by kernel_rfl⟩) (by kernel_rfl) (by kernel_rfl) (by kernel_rfl) (.cons (.cell (.keep rfl (.nil))) (.nil) (by decide)) rfl rfl
  · refine J_run [(3, { tn := [(9, .sc (.bool (decide (a2 ≤ a1))))], out := some (.sc (.bool false)) })] [] [(6, .sc (.bool false))] [] (by kernel_rfl) ⟨orcA (id := none) [(9, .sc (.bool (decide (a2 ≤ a1))))] [] { tn := [(9, .sc (.bool (decide (a2 ≤ a1))))], out := some (.sc (.bool (decide (a2 ≤ a1)))) } (by kernel_rfl) rfl (by rw [h4]), trivial⟩ (by kernel_rfl) ?_
    exact J_ret0 (fn := Try.f31) (rs := [.tmp 6]) (ds := [.sc (.bool false)]) (ds' := [.sc (.bool false)]) (.inr ⟨_, _, rfl, by kernel_rfl⟩) (by kernel_rfl) (by kernel_rfl) (by kernel_rfl) (.cons (.cell (.keep rfl (.nil))) (.nil) (by decide)) rfl rfl

noncomputable def c45 : Code := (Try.f45.body).getD .skip

theorem impl_isNameByte.ok (a1 : Int) : Ok Try.prog 45 [.sc (.int .u8 a1)] [] ((impl_isNameByte a1).map fun r => (.sc (.bool r), [])) := by
  refine Ok_of2 (fc := c45) (fn := Try.f45) (nt := 21) (by kernel_rfl) (by kernel_rfl) (by kernel_rfl) (by simp) ?_
  intro w0 N0 O0 β0
  unfold impl_isNameByte
  refine J_ctl 1 [.c 2, .c 3] (by kernel_rfl) ?_
  refine J_run [] [] [(0, .sc (.int .u8 a1))] [] (by kernel_rfl) trivial (by kernel_rfl) ?_
  refine J_ctl 1 [.c 6, .c 7] (by kernel_rfl) ?_
  refine J_ite (fun h2 => ?_) (fun h2 => ?_)
  · refine J_ite (fun h3 => ?_) (fun h3 => ?_)
    · refine J_run [(2, { tn := [(4, .sc (.bool (decide (a1 ≥ 97))))], out := some (.sc (.bool true)) }), (6, { tn := [(8, .sc (.bool (decide (a1 ≤ 122))))], out := some (.sc (.bool true)) }), (9, { tn := [(9, .sc (.bool true))], out := some (.sc undef) }), (10, { tn := [(12, .sc undef)], out := some (.sc undef) }), (11, { tn := [(12, .sc undef)], out := some (.sc undef) })] [] [(2, .sc (.bool true))] [] (by kernel_rfl) ⟨orcA (id := none) [(4, .sc (.bool (decide (a1 ≥ 97))))] [] { tn := [(4, .sc (.bool (decide (a1 ≥ 97))))], out := some (.sc (.bool (decide (a1 ≥ 97)))) } (by kernel_rfl) rfl (by rw [h2]), orcA (id := none) [(8, .sc (.bool (decide (a1 ≤ 122))))] [] { tn := [(8, .sc (.bool (decide (a1 ≤ 122))))], out := some (.sc (.bool (decide (a1 ≤ 122)))) } (by kernel_rfl) rfl (by rw [h3]), orcU (i := 9) (g := 6) (t := 9) (b := false) (.inl rfl) (by kernel_rfl) (by kernel_rfl), orcU (i := 10) (g := 9) (t := 12) (b := true) (.inr rfl) (by kernel_rfl) (by kernel_rfl), orcU (i := 11) (g := 9) (t := 12) (b := true) (.inr rfl) (by kernel_rfl) (by kernel_rfl), trivial⟩ (by kernel_rfl) ?_
      exact J_ret0 (fn := Try.f45) (rs := [.tmp 2]) (ds := [.sc (.bool true)]) (ds' := [.sc (.bool true)]) (.inr ⟨_, _, rfl, by kernel_rfl⟩) (by kernel_rfl) (by kernel_rfl) (by kernel_rfl) (.cons (.cell (.keep rfl (.nil))) (.nil) (by decide)) rfl rfl
    · refine J_ite (fun h4 => ?_) (fun h4 => ?_)
      · refine J_ite (fun h5 => ?_) (fun h5 => ?_)
        · refine J_run [(2, { tn := [(4, .sc (.bool (decide (a1 ≥ 97))))], out := some (.sc (.bool true)) }), (6, { tn := [(8, .sc (.bool (decide (a1 ≤ 122))))], out := some (.sc (.bool false)) }), (9, { tn := [(9, .sc (.bool false)), (11, .sc (.bool (decide (a1 ≥ 48))))], out := some (.sc (.bool true)) }), (14, { tn := [(16, .sc (.bool (decide (a1 ≤ 57))))], out := some (.sc (.bool true)) })] [] [(2, .sc (.bool true))] [] (by kernel_rfl) ⟨orcA (id := none) [(4, .sc (.bool (decide (a1 ≥ 97))))] [] { tn := [(4, .sc (.bool (decide (a1 ≥ 97))))], out := some (.sc (.bool (decide (a1 ≥ 97)))) } (by kernel_rfl) rfl (by rw [h2]), orcA (id := none) [(8, .sc (.bool (decide (a1 ≤ 122))))] [] { tn := [(8, .sc (.bool (decide (a1 ≤ 122))))], out := some (.sc (.bool (decide (a1 ≤ 122)))) } (by kernel_rfl) rfl (by rw [h3]), orcAG (g := 6) (t := 9) (b := false) (id := none) [(11, .sc (.bool (decide (a1 ≥ 48))))] [] { tn := [(11, .sc (.bool (decide (a1 ≥ 48))))], out := some (.sc (.bool (decide (a1 ≥ 48)))) } (by kernel_rfl) (by kernel_rfl) rfl (by rw [h4]), orcA (id := none) [(16, .sc (.bool (decide (a1 ≤ 57))))] [] { tn := [(16, .sc (.bool (decide (a1 ≤ 57))))], out := some (.sc (.bool (decide (a1 ≤ 57)))) } (by kernel_rfl) rfl (by rw [h5]), trivial⟩ (by kernel_rfl) ?_
          exact J_ret0 (fn := Try.f45) (rs := [.tmp 2]) (ds := [.sc (.bool true)]) (ds' := [.sc (.bool true)]) (.inr ⟨_, _, rfl, by kernel_rfl⟩) (by kernel_rfl) (by kernel_rfl) (by kernel_rfl) (.cons (.cell (.keep rfl (.nil))) (.nil) (by decide)) rfl rfl
        · refine J_run [(2, { tn := [(4, .sc (.bool (decide (a1 ≥ 97))))], out := some (.sc (.bool true)) }), (6, { tn := [(8, .sc (.bool (decide (a1 ≤ 122))))], out := some (.sc (.bool false)) }), (9, { tn := [(9, .sc (.bool false)), (11, .sc (.bool (decide (a1 ≥ 48))))], out := some (.sc (.bool true)) }), (14, { tn := [(16, .sc (.bool (decide (a1 ≤ 57))))], out := some (.sc (.bool false)) })] [] [(2, .sc (.bool (a1 == 95)))] [] (by kernel_rfl) ⟨orcA (id := none) [(4, .sc (.bool (decide (a1 ≥ 97))))] [] { tn := [(4, .sc (.bool (decide (a1 ≥ 97))))], out := some (.sc (.bool (decide (a1 ≥ 97)))) } (by kernel_rfl) rfl (by rw [h2]), orcA (id := none) [(8, .sc (.bool (decide (a1 ≤ 122))))] [] { tn := [(8, .sc (.bool (decide (a1 ≤ 122))))], out := some (.sc (.bool (decide (a1 ≤ 122)))) } (by kernel_rfl) rfl (by rw [h3]), orcAG (g := 6) (t := 9) (b := false) (id := none) [(11, .sc (.bool (decide (a1 ≥ 48))))] [] { tn := [(11, .sc (.bool (decide (a1 ≥ 48))))], out := some (.sc (.bool (decide (a1 ≥ 48)))) } (by kernel_rfl) (by kernel_rfl) rfl (by rw [h4]), orcA (id := none) [(16, .sc (.bool (decide (a1 ≤ 57))))] [] { tn := [(16, .sc (.bool (decide (a1 ≤ 57))))], out := some (.sc (.bool (decide (a1 ≤ 57)))) } (by kernel_rfl) rfl (by rw [h5]), trivial⟩ (by kernel_rfl) ?_
          exact J_ret0 (fn := Try.f45) (rs := [.tmp 2]) (ds := [.sc (.bool (a1 == 95))]) (ds' := [.sc (.bool (a1 == 95))]) (.inr ⟨_, _, rfl, by kernel_rfl⟩) (by kernel_rfl) (by kernel_rfl) (by kernel_rfl) (.cons (.cell (.keep rfl (.nil))) (.nil) (by decide)) rfl rfl
      · refine J_run [(2, { tn := [(4, .sc (.bool (decide (a1 ≥ 97))))], out := some (.sc (.bool true)) }), (6, { tn := [(8, .sc (.bool (decide (a1 ≤ 122))))], out := some (.sc (.bool false)) }), (9, { tn := [(9, .sc (.bool false)), (11, .sc (.bool (decide (a1 ≥ 48))))], out := some (.sc (.bool false)) })] [] [(2, .sc (.bool (a1 == 95)))] [] (by kernel_rfl) ⟨orcA (id := none) [(4, .sc (.bool (decide (a1 ≥ 97))))] [] { tn := [(4, .sc (.bool (decide (a1 ≥ 97))))], out := some (.sc (.bool (decide (a1 ≥ 97)))) } (by kernel_rfl) rfl (by rw [h2]), orcA (id := none) [(8, .sc (.bool (decide (a1 ≤ 122))))] [] { tn := [(8, .sc (.bool (decide (a1 ≤ 122))))], out := some (.sc (.bool (decide (a1 ≤ 122)))) } (by kernel_rfl) rfl (by rw [h3]), orcAG (g := 6) (t := 9) (b := false) (id := none) [(11, .sc (.bool (decide (a1 ≥ 48))))] [] { tn := [(11, .sc (.bool (decide (a1 ≥ 48))))], out := some (.sc (.bool (decide (a1 ≥ 48)))) } (by kernel_rfl) (by kernel_rfl) rfl (by rw [h4]), trivial⟩ (by kernel_rfl) ?_
        exact J_ret0 (fn := Try.f45) (rs := [.tmp 2]) (ds := [.sc (.bool (a1 == 95))]) (ds' := [.sc (.bool (a1 == 95))]) (.inr ⟨_, _, rfl, by kernel_rfl⟩) (by kernel_rfl) (by kernel_rfl) (by kernel_rfl) (.cons (.cell (.keep rfl (.nil))) (.nil) (by decide)) rfl rfl
  · refine J_ite (fun h6 => ?_) (fun h6 => ?_)
    · refine J_ite (fun h7 => ?_) (fun h7 => ?_)
      · refine J_run [(2, { tn := [(4, .sc (.bool (decide (a1 ≥ 97))))], out := some (.sc (.bool false)) }), (9, { tn := [(9, .sc (.bool false)), (11, .sc (.bool (decide (a1 ≥ 48))))], out := some (.sc (.bool true)) }), (14, { tn := [(16, .sc (.bool (decide (a1 ≤ 57))))], out := some (.sc (.bool true)) })] [] [(2, .sc (.bool true))] [] (by kernel_rfl) ⟨orcA (id := none) [(4, .sc (.bool (decide (a1 ≥ 97))))] [] { tn := [(4, .sc (.bool (decide (a1 ≥ 97))))], out := some (.sc (.bool (decide (a1 ≥ 97)))) } (by kernel_rfl) rfl (by rw [h2]), orcAG (g := 6) (t := 9) (b := false) (id := none) [(11, .sc (.bool (decide (a1 ≥ 48))))] [] { tn := [(11, .sc (.bool (decide (a1 ≥ 48))))], out := some (.sc (.bool (decide (a1 ≥ 48)))) } (by kernel_rfl) (by kernel_rfl) rfl (by rw [h6]), orcA (id := none) [(16, .sc (.bool (decide (a1 ≤ 57))))] [] { tn := [(16, .sc (.bool (decide (a1 ≤ 57))))], out := some (.sc (.bool (decide (a1 ≤ 57)))) } (by kernel_rfl) rfl (by rw [h7]), trivial⟩ (by kernel_rfl) ?_
        exact J_ret0 (fn := Try.f45) (rs := [.tmp 2]) (ds := [.sc (.bool true)]) (ds' := [.sc (.bool true)]) (.inr ⟨_, _, rfl, by kernel_rfl⟩) (by kernel_rfl) (by kernel_rfl) (by kernel_rfl) (.cons (.cell (.keep rfl (.nil))) (.nil) (by decide)) rfl rfl
      · refine J_run [(2, { tn := [(4, .sc (.bool (decide (a1 ≥ 97))))], out := some (.sc (.bool false)) }), (9, { tn := [(9, .sc (.bool false)), (11, .sc (.bool (decide (a1 ≥ 48))))], out := some (.sc (.bool true)) }), (14, { tn := [(16, .sc (.bool (decide (a1 ≤ 57))))], out := some (.sc (.bool false)) })] [] [(2, .sc (.bool (a1 == 95)))] [] (by kernel_rfl) ⟨orcA (id := none) [(4, .sc (.bool (decide (a1 ≥ 97))))] [] { tn := [(4, .sc (.bool (decide (a1 ≥ 97))))], out := some (.sc (.bool (decide (a1 ≥ 97)))) } (by kernel_rfl) rfl (by rw [h2]), orcAG (g := 6) (t := 9) (b := false) (id := none) [(11, .sc (.bool (decide (a1 ≥ 48))))] [] { tn := [(11, .sc (.bool (decide (a1 ≥ 48))))], out := some (.sc (.bool (decide (a1 ≥ 48)))) } (by kernel_rfl) (by kernel_rfl) rfl (by rw [h6]), orcA (id := none) [(16, .sc (.bool (decide (a1 ≤ 57))))] [] { tn := [(16, .sc (.bool (decide (a1 ≤ 57))))], out := some (.sc (.bool (decide (a1 ≤ 57)))) } (by kernel_rfl) rfl (by rw [h7]), trivial⟩ (by kernel_rfl) ?_
        exact J_ret0 (fn := Try.f45) (rs := [.tmp 2]) (ds := [.sc (.bool (a1 == 95))]) (ds' := [.sc (.bool (a1 == 95))]) (.inr ⟨_, _, rfl, by kernel_rfl⟩) (by kernel_rfl) (by kernel_rfl) (by kernel_rfl) (.cons (.cell (.keep rfl (.nil))) (.nil) (by decide)) rfl rfl
    · refine J_run [(2, { tn := [(4, .sc (.bool (decide (a1 ≥ 97))))], out := some (.sc (.bool false)) }), (9, { tn := [(9, .sc (.bool false)), (11, .sc (.bool (decide (a1 ≥ 48))))], out := some (.sc (.bool false)) })] [] [(2, .sc (.bool (a1 == 95)))] [] (by kernel_rfl) ⟨orcA (id := none) [(4, .sc (.bool (decide (a1 ≥ 97))))] [] { tn := [(4, .sc (.bool (decide (a1 ≥ 97))))], out := some (.sc (.bool (decide (a1 ≥ 97)))) } (by kernel_rfl) rfl (by rw [h2]), orcAG (g := 6) (t := 9) (b := false) (id := none) [(11, .sc (.bool (decide (a1 ≥ 48))))] [] { tn := [(11, .sc (.bool (decide (a1 ≥ 48))))], out := some (.sc (.bool (decide (a1 ≥ 48)))) } (by kernel_rfl) (by kernel_rfl) rfl (by rw [h6]), trivial⟩ (by kernel_rfl) ?_
      exact J_ret0 (fn := Try.f45) (rs := [.tmp 2]) (ds := [.sc (.bool (a1 == 95))]) (ds' := [.sc (.bool (a1 == 95))]) (.inr ⟨_, _, rfl, by kernel_rfl⟩) (by kernel_rfl) (by kernel_rfl) (by kernel_rfl) (.cons (.cell (.keep rfl (.nil))) (.nil) (by decide)) rfl rfl

noncomputable def c32 : Code := (Try.f32.body).getD .skip

theorem impl_PathFault_l1.ok (a1 : ByteArray) (w0 : World) (N0 : Nat → Prop) (O0 : List Nat) (β0 : Nat → Im.Loc) (kn : Unit → Option (D × List Ent)) (hk : ∀ v : Unit, J ⟨Try.prog, 32, w0, N0, O0, 0, β0, 37⟩ c32 [.c 15] (St.mk' [] []) (some v) kn) :
    ∀ s15 : Int, J ⟨Try.prog, 32, w0, N0, O0, 0, β0, 37⟩ c32 [.c 116, .l 116, .b 0, .c 15] (St.mk' [(0, .sc (.string a1)), (14, .sc (.int .i64 (a1.size : Int))), (15, .sc (.int .i64 s15))] []) (impl_PathFault_l1 a1 s15) (Fl.go (fun r : Int => some (.sc (.int .i64 r), [])) kn) := by
  refine J_lp (σ := fun s15 : Int => St.mk' [(0, .sc (.string a1)), (14, .sc (.int .i64 (a1.size : Int))), (15, .sc (.int .i64 s15))] []) (fun g ih s15 => ?_)
  unfold impl_PathFault_l1b
  refine J_ctl 1 [.c 232, .c 233, .l 116, .b 0, .c 15] (by kernel_rfl) ?_
  refine J_run [] [] [(0, .sc (.string a1)), (14, .sc (.int .i64 (a1.size : Int))), (15, .sc (.int .i64 s15)), (16, .sc (.bool (decide (s15 < (a1.size : Int)))))] [] (by kernel_rfl) trivial (by kernel_rfl) ?_
  refine J_ctl 1 [.c 466, .c 467, .l 116, .b 0, .c 15] (by kernel_rfl) ?_
  refine J_ite (fun h16 => ?_) (fun h16 => ?_)
  · refine J_lit (t := 16) (b := (decide (s15 < (a1.size : Int)))) true rfl h16 ?_
    refine J_ctl 2 [.c 467, .l 116, .b 0, .c 15] (by kernel_rfl) ?_
    refine J_ctl 3 [.c 3736, .c 3737, .b 1, .c 935, .l 116, .b 0, .c 15] (by kernel_rfl) ?_
    refine J_run [] [] [(0, .sc (.string a1)), (3, .sc (.int .i64 s15)), (14, .sc (.int .i64 (a1.size : Int))), (15, .sc (.int .i64 s15))] [] (by kernel_rfl) trivial (by kernel_rfl) ?_
    refine J_ctl 1 [.c 7474, .c 7475, .b 1, .c 935, .l 116, .b 0, .c 15] (by kernel_rfl) ?_
    refine J_bind (fun x17 h18 => ?_)
    refine J_run [(2, { tn := [(18, .sc (.string a1)), (19, .sc (.int .i64 s15))], out := some (.sc (.int .u8 x17)) })] [] [(0, .sc (.string a1)), (4, .sc (.int .u8 x17)), (14, .sc (.int .i64 (a1.size : Int))), (15, .sc (.int .i64 s15))] [] (by kernel_rfl) ⟨orc1 (op := .index 9 (.tmp 18) (.tmp 19)) (by kernel_rfl) fun ops o hop hg => o_bidx h18 hg hop rfl (.head _) (.tail _ (.head _)) (by kernel_rfl), trivial⟩ (by kernel_rfl) ?_
    refine J_ctl 1 [.c 14950, .c 14951, .b 1, .c 935, .l 116, .b 0, .c 15] (by kernel_rfl) ?_
    refine J_bind (fun x19 h20 => ?_)
    refine J_join [.c 14951, .b 1, .c 935, .l 116, .b 0, .c 15] (fun v24 : Bool => St.mk' [(0, .sc (.string a1)), (14, .sc (.int .i64 (a1.size : Int))), (15, .sc (.int .i64 s15)), (35, .sc (.bool v24))] []) (fun v24 => ?_) (fun jv24 => ?_)
    · refine J_ite (fun h25 => ?_) (fun h25 => ?_)
      · refine J_lit (t := 35) (b := v24) true rfl h25 ?_
        refine J_ctl 2 [.c 59804, .c 59805, .b 1, .c 935, .l 116, .b 0, .c 15] (by kernel_rfl) ?_
        refine J_run [] [] [(2, .sc (.int .i64 5))] [] (by kernel_rfl) trivial (by kernel_rfl) ?_
        exact J_ret0 (fn := Try.f32) (rs := [.tmp 2]) (ds := [.sc (.int .i64 5)]) (ds' := [.sc (.int .i64 5)]) (.inr ⟨_, _, rfl, by kernel_rfl⟩) (by kernel_rfl) (by kernel_rfl) (by kernel_rfl) (.cons (.cell (.keep rfl (.nil))) (.nil) (by decide)) rfl rfl
      · refine J_lit (t := 35) (b := v24) false rfl h25 ?_
        refine J_ctl 2 [.b 1, .c 935, .l 116, .b 0, .c 15] (by kernel_rfl) ?_
        refine J_ctl 1 [.c 935, .l 116, .b 0, .c 15] (by kernel_rfl) ?_
        refine J_run [] [] [(0, .sc (.string a1)), (14, .sc (.int .i64 (a1.size : Int))), (15, .sc (.int .i64 (w64 (s15 + 1))))] [] (by kernel_rfl) trivial (by kernel_rfl) ?_
        refine J_ctl 1 [.c 116, .l 116, .b 0, .c 15] (by kernel_rfl) ?_
        refine J_wk [(0, .sc (.string a1)), (14, .sc (.int .i64 (a1.size : Int))), (15, .sc (.int .i64 (w64 (s15 + 1))))] [] (by kernel_rfl) ?_
        exact J_q (J_bk (ih (w64 (s15 + 1)))) rfl
    · refine J_ite (fun h21 => ?_) (fun h21 => ?_)
      · refine J_ite (fun h22 => ?_) (fun h22 => ?_)
        · refine J_ite (fun h23 => ?_) (fun h23 => ?_)
          · refine J_run [(1, { tn := [(21, .sc (.int .u8 x17))], out := some (.sc (.bool x19)) }), (3, { tn := [(23, .sc (.bool (!x19)))], out := some (.sc (.bool true)) }), (7, { tn := [(27, .sc (.bool (x17 != 46)))], out := some (.sc (.bool true)) }), (11, { tn := [(31, .sc (.bool (x17 != 45)))], out := some (.sc (.bool true)) })] [] [(0, .sc (.string a1)), (14, .sc (.int .i64 (a1.size : Int))), (15, .sc (.int .i64 s15)), (35, .sc (.bool (x17 != 47)))] [] (by kernel_rfl) ⟨orc1 (op := .call { callee := .value (.func 45), args := #[(.tmp 21)], argTypes := #[5] }) (by kernel_rfl) fun ops o hop hg => v_call («as» := [.sc (.int .u8 x17)]) (bor := false) (ids := []) (hin := []) (hout := []) (news := []) hg hop (fun _ => by kernel_rfl) rfl (fun k d hk => match k, hk with | 0, rfl => ⟨(.tmp 21), rfl, (.head _)⟩ | (n + 1), hk => by simp at hk) (.cons (.same rfl) (.nil)) (nodupK_spec rfl) rfl (by simp) (menAll rfl) (impl_isNameByte.ok x17) (by rw [h20]; rfl) (Nat.le_of_ble_eq_true rfl) (.same rfl rfl) (nodupK_spec rfl) rfl (le_all rfl) (by simp), orcA (id := none) [(23, .sc (.bool (!x19)))] [] { tn := [(23, .sc (.bool (!x19)))], out := some (.sc (.bool (!x19))) } (by kernel_rfl) rfl (by rw [h21]), orcA (id := none) [(27, .sc (.bool (x17 != 46)))] [] { tn := [(27, .sc (.bool (x17 != 46)))], out := some (.sc (.bool (x17 != 46))) } (by kernel_rfl) rfl (by rw [h22]), orcA (id := none) [(31, .sc (.bool (x17 != 45)))] [] { tn := [(31, .sc (.bool (x17 != 45)))], out := some (.sc (.bool (x17 != 45))) } (by kernel_rfl) rfl (by rw [h23]), trivial⟩ (by kernel_rfl) ?_
            refine J_wk [(0, .sc (.string a1)), (14, .sc (.int .i64 (a1.size : Int))), (15, .sc (.int .i64 s15)), (35, .sc (.bool (x17 != 47)))] [] (by kernel_rfl) ?_
            exact J_q (J_j (jv24 (x17 != 47))) rfl
          · refine J_run [(1, { tn := [(21, .sc (.int .u8 x17))], out := some (.sc (.bool x19)) }), (3, { tn := [(23, .sc (.bool (!x19)))], out := some (.sc (.bool true)) }), (7, { tn := [(27, .sc (.bool (x17 != 46)))], out := some (.sc (.bool true)) }), (11, { tn := [(31, .sc (.bool (x17 != 45)))], out := some (.sc (.bool false)) })] [] [(0, .sc (.string a1)), (14, .sc (.int .i64 (a1.size : Int))), (15, .sc (.int .i64 s15)), (35, .sc (.bool false))] [] (by kernel_rfl) ⟨orc1 (op := .call { callee := .value (.func 45), args := #[(.tmp 21)], argTypes := #[5] }) (by kernel_rfl) fun ops o hop hg => v_call («as» := [.sc (.int .u8 x17)]) (bor := false) (ids := []) (hin := []) (hout := []) (news := []) hg hop (fun _ => by kernel_rfl) rfl (fun k d hk => match k, hk with | 0, rfl => ⟨(.tmp 21), rfl, (.head _)⟩ | (n + 1), hk => by simp at hk) (.cons (.same rfl) (.nil)) (nodupK_spec rfl) rfl (by simp) (menAll rfl) (impl_isNameByte.ok x17) (by rw [h20]; rfl) (Nat.le_of_ble_eq_true rfl) (.same rfl rfl) (nodupK_spec rfl) rfl (le_all rfl) (by simp), orcA (id := none) [(23, .sc (.bool (!x19)))] [] { tn := [(23, .sc (.bool (!x19)))], out := some (.sc (.bool (!x19))) } (by kernel_rfl) rfl (by rw [h21]), orcA (id := none) [(27, .sc (.bool (x17 != 46)))] [] { tn := [(27, .sc (.bool (x17 != 46)))], out := some (.sc (.bool (x17 != 46))) } (by kernel_rfl) rfl (by rw [h22]), orcA (id := none) [(31, .sc (.bool (x17 != 45)))] [] { tn := [(31, .sc (.bool (x17 != 45)))], out := some (.sc (.bool (x17 != 45))) } (by kernel_rfl) rfl (by rw [h23]), trivial⟩ (by kernel_rfl) ?_
            refine J_wk [(0, .sc (.string a1)), (14, .sc (.int .i64 (a1.size : Int))), (15, .sc (.int .i64 s15)), (35, .sc (.bool false))] [] (by kernel_rfl) ?_
            exact J_q (J_j (jv24 false)) rfl
        · refine J_run [(1, { tn := [(21, .sc (.int .u8 x17))], out := some (.sc (.bool x19)) }), (3, { tn := [(23, .sc (.bool (!x19)))], out := some (.sc (.bool true)) }), (7, { tn := [(27, .sc (.bool (x17 != 46)))], out := some (.sc (.bool false)) })] [] [(0, .sc (.string a1)), (14, .sc (.int .i64 (a1.size : Int))), (15, .sc (.int .i64 s15)), (35, .sc (.bool false))] [] (by kernel_rfl) ⟨orc1 (op := .call { callee := .value (.func 45), args := #[(.tmp 21)], argTypes := #[5] }) (by kernel_rfl) fun ops o hop hg => v_call («as» := [.sc (.int .u8 x17)]) (bor := false) (ids := []) (hin := []) (hout := []) (news := []) hg hop (fun _ => by kernel_rfl) rfl (fun k d hk => match k, hk with | 0, rfl => ⟨(.tmp 21), rfl, (.head _)⟩ | (n + 1), hk => by simp at hk) (.cons (.same rfl) (.nil)) (nodupK_spec rfl) rfl (by simp) (menAll rfl) (impl_isNameByte.ok x17) (by rw [h20]; rfl) (Nat.le_of_ble_eq_true rfl) (.same rfl rfl) (nodupK_spec rfl) rfl (le_all rfl) (by simp), orcA (id := none) [(23, .sc (.bool (!x19)))] [] { tn := [(23, .sc (.bool (!x19)))], out := some (.sc (.bool (!x19))) } (by kernel_rfl) rfl (by rw [h21]), orcA (id := none) [(27, .sc (.bool (x17 != 46)))] [] { tn := [(27, .sc (.bool (x17 != 46)))], out := some (.sc (.bool (x17 != 46))) } (by kernel_rfl) rfl (by rw [h22]), trivial⟩ (by kernel_rfl) ?_
          refine J_wk [(0, .sc (.string a1)), (14, .sc (.int .i64 (a1.size : Int))), (15, .sc (.int .i64 s15)), (35, .sc (.bool false))] [] (by kernel_rfl) ?_
          exact J_q (J_j (jv24 false)) rfl
      · refine J_run [(1, { tn := [(21, .sc (.int .u8 x17))], out := some (.sc (.bool x19)) }), (3, { tn := [(23, .sc (.bool (!x19)))], out := some (.sc (.bool false)) })] [] [(0, .sc (.string a1)), (14, .sc (.int .i64 (a1.size : Int))), (15, .sc (.int .i64 s15)), (35, .sc (.bool false))] [] (by kernel_rfl) ⟨orc1 (op := .call { callee := .value (.func 45), args := #[(.tmp 21)], argTypes := #[5] }) (by kernel_rfl) fun ops o hop hg => v_call («as» := [.sc (.int .u8 x17)]) (bor := false) (ids := []) (hin := []) (hout := []) (news := []) hg hop (fun _ => by kernel_rfl) rfl (fun k d hk => match k, hk with | 0, rfl => ⟨(.tmp 21), rfl, (.head _)⟩ | (n + 1), hk => by simp at hk) (.cons (.same rfl) (.nil)) (nodupK_spec rfl) rfl (by simp) (menAll rfl) (impl_isNameByte.ok x17) (by rw [h20]; rfl) (Nat.le_of_ble_eq_true rfl) (.same rfl rfl) (nodupK_spec rfl) rfl (le_all rfl) (by simp), orcA (id := none) [(23, .sc (.bool (!x19)))] [] { tn := [(23, .sc (.bool (!x19)))], out := some (.sc (.bool (!x19))) } (by kernel_rfl) rfl (by rw [h21]), trivial⟩ (by kernel_rfl) ?_
        refine J_wk [(0, .sc (.string a1)), (14, .sc (.int .i64 (a1.size : Int))), (15, .sc (.int .i64 s15)), (35, .sc (.bool false))] [] (by kernel_rfl) ?_
        exact J_q (J_j (jv24 false)) rfl
  · refine J_lit (t := 16) (b := (decide (s15 < (a1.size : Int)))) false rfl h16 ?_
    refine J_ctl 2 [.c 15] (by kernel_rfl) ?_
    refine J_wk [] [] (by kernel_rfl) ?_
    exact J_q (hk ()) rfl

theorem impl_PathFault.ok (a1 : ByteArray) : Ok Try.prog 32 [.sc (.string a1)] [] ((impl_PathFault a1).map fun r => (.sc (.int .i64 r), [])) := by
  refine Ok_of2 (fc := c32) (fn := Try.f32) (nt := 37) (by kernel_rfl) (by kernel_rfl) (by kernel_rfl) (by simp) ?_
  intro w0 N0 O0 β0
  unfold impl_PathFault
  refine J_ctl 1 [.c 2, .c 3] (by kernel_rfl) ?_
  refine J_run [] [] [(0, .sc (.string a1))] [] (by kernel_rfl) trivial (by kernel_rfl) ?_
  refine J_ctl 2 [.c 12, .c 13, .c 7] (by kernel_rfl) ?_
  refine J_join [.c 13, .c 7] (fun v3 : Bool => St.mk' [(0, .sc (.string a1)), (12, .sc (.bool v3))] []) (fun v3 => ?_) (fun jv3 => ?_)
  · refine J_ite (fun h4 => ?_) (fun h4 => ?_)
    · refine J_lit (t := 12) (b := v3) true rfl h4 ?_
      refine J_ctl 2 [.c 52, .c 53, .c 7] (by kernel_rfl) ?_
      refine J_run [] [] [(2, .sc (.int .i64 5))] [] (by kernel_rfl) trivial (by kernel_rfl) ?_
      exact J_ret0 (fn := Try.f32) (rs := [.tmp 2]) (ds := [.sc (.int .i64 5)]) (ds' := [.sc (.int .i64 5)]) (.inr ⟨_, _, rfl, by kernel_rfl⟩) (by kernel_rfl) (by kernel_rfl) (by kernel_rfl) (.cons (.cell (.keep rfl (.nil))) (.nil) (by decide)) rfl rfl
    · refine J_lit (t := 12) (b := v3) false rfl h4 ?_
      refine J_ctl 2 [.c 7] (by kernel_rfl) ?_
      refine J_ctl 2 [.c 28, .c 29, .c 15] (by kernel_rfl) ?_
      refine J_run [] [] [(0, .sc (.string a1)), (14, .sc (.int .i64 (a1.size : Int))), (15, .sc (.int .i64 0))] [] (by kernel_rfl) trivial (by kernel_rfl) ?_
      refine J_ctl 1 [.c 58, .b 0, .c 15] (by kernel_rfl) ?_
      refine J_ctl 1 [.c 116, .l 116, .b 0, .c 15] (by kernel_rfl) ?_
      refine J_wk [(0, .sc (.string a1)), (14, .sc (.int .i64 (a1.size : Int))), (15, .sc (.int .i64 0))] [] (by kernel_rfl) ?_
      refine J_loop (K0 := (fun r : Int => some (.sc (.int .i64 r), []))) (fun _ => rfl) ?_
      refine impl_PathFault_l1.ok a1 w0 N0 O0 β0 _ (fun v26 => J_j ?_) 0
      refine J_ctl 1 [.c 30, .c 31] (by kernel_rfl) ?_
      refine J_run [] [] [(2, .sc (.int .i64 0))] [] (by kernel_rfl) trivial (by kernel_rfl) ?_
      exact J_ret0 (fn := Try.f32) (rs := [.tmp 2]) (ds := [.sc (.int .i64 0)]) (ds' := [.sc (.int .i64 0)]) (.inr ⟨_, _, rfl, by kernel_rfl⟩) (by kernel_rfl) (by kernel_rfl) (by kernel_rfl) (.cons (.cell (.keep rfl (.nil))) (.nil) (by decide)) rfl rfl
  · refine J_ite (fun h2 => ?_) (fun h2 => ?_)
    · refine J_run [(3, { tn := [(7, .sc (.bool (decide ((a1.size : Int) < 1))))], out := some (.sc (.bool true)) })] [] [(0, .sc (.string a1)), (12, .sc (.bool true))] [] (by kernel_rfl) ⟨orcA (id := none) [(7, .sc (.bool (decide ((a1.size : Int) < 1))))] [] { tn := [(7, .sc (.bool (decide ((a1.size : Int) < 1))))], out := some (.sc (.bool (decide ((a1.size : Int) < 1)))) } (by kernel_rfl) rfl (by rw [h2]), trivial⟩ (by kernel_rfl) ?_
      refine J_wk [(0, .sc (.string a1)), (12, .sc (.bool true))] [] (by kernel_rfl) ?_
      exact J_q (J_j (jv3 true)) rfl
    · refine J_run [(3, { tn := [(7, .sc (.bool (decide ((a1.size : Int) < 1))))], out := some (.sc (.bool false)) })] [] [(0, .sc (.string a1)), (12, .sc (.bool (decide ((a1.size : Int) > 40))))] [] (by kernel_rfl) ⟨orcA (id := none) [(7, .sc (.bool (decide ((a1.size : Int) < 1))))] [] { tn := [(7, .sc (.bool (decide ((a1.size : Int) < 1))))], out := some (.sc (.bool (decide ((a1.size : Int) < 1)))) } (by kernel_rfl) rfl (by rw [h2]), trivial⟩ (by kernel_rfl) ?_
      refine J_wk [(0, .sc (.string a1)), (12, .sc (.bool (decide ((a1.size : Int) > 40))))] [] (by kernel_rfl) ?_
      exact J_q (J_j (jv3 (decide ((a1.size : Int) > 40)))) rfl

noncomputable def c21 : Code := (Try.f21.body).getD .skip

theorem impl_Disk_total_l1.ok (a1 : Disk) (w0 : World) (N0 : Nat → Prop) (O0 : List Nat) (β0 : Nat → Im.Loc) (kn : Int → Option (D × List Ent)) (hk : ∀ v : Int, J ⟨Try.prog, 21, w0, N0, O0, 0, β0, 20⟩ c21 [.c 15] (St.mk' [(3, .sc (.int .i64 v))] []) (some v) kn) :
    ∀ s5 : (Int × Int), J ⟨Try.prog, 21, w0, N0, O0, 0, β0, 20⟩ c21 [.c 116, .l 116, .b 0, .c 15] (St.mk' [(3, .sc (.int .i64 s5.1)), (7, .s false 2 a1.Files.length (a1.Files.map (File.enc false))), (8, .sc (.int .i64 (a1.Files.length : Int))), (9, .sc (.int .i64 s5.2))] []) (impl_Disk_total_l1 a1 s5) kn := by
  refine J_lp (σ := fun s5 : (Int × Int) => St.mk' [(3, .sc (.int .i64 s5.1)), (7, .s false 2 a1.Files.length (a1.Files.map (File.enc false))), (8, .sc (.int .i64 (a1.Files.length : Int))), (9, .sc (.int .i64 s5.2))] []) (fun g ih s5 => ?_)
  unfold impl_Disk_total_l1b
  refine J_ctl 1 [.c 232, .c 233, .l 116, .b 0, .c 15] (by kernel_rfl) ?_
  refine J_run [] [] [(3, .sc (.int .i64 s5.1)), (7, .s false 2 a1.Files.length (a1.Files.map (File.enc false))), (8, .sc (.int .i64 (a1.Files.length : Int))), (9, .sc (.int .i64 s5.2)), (10, .sc (.bool (decide (s5.2 < (a1.Files.length : Int)))))] [] (by kernel_rfl) trivial (by kernel_rfl) ?_
  refine J_ctl 1 [.c 466, .c 467, .l 116, .b 0, .c 15] (by kernel_rfl) ?_
  refine J_ite (fun h6 => ?_) (fun h6 => ?_)
  · refine J_lit (t := 10) (b := (decide (s5.2 < (a1.Files.length : Int)))) true rfl h6 ?_
    refine J_ctl 2 [.c 467, .l 116, .b 0, .c 15] (by kernel_rfl) ?_
    refine J_ctl 3 [.c 3736, .c 3737, .b 1, .c 935, .l 116, .b 0, .c 15] (by kernel_rfl) ?_
    refine J_bind (fun x7 h8 => ?_)
    refine J_run [(0, { tn := [(7, .s false 2 a1.Files.length (a1.Files.map (File.enc false))), (9, .sc (.int .i64 s5.2))], out := some (.ps ((File.enc false) x7)) })] [(2, 0)] [(3, .sc (.int .i64 s5.1)), (5, .pt 0 0 0), (7, .s false 2 a1.Files.length (a1.Files.map (File.enc false))), (8, .sc (.int .i64 (a1.Files.length : Int))), (9, .sc (.int .i64 s5.2))] [(0, .box [.sc (.string x7.Path), .s false 1 x7.Data.length (x7.Data.map eU8)])] (by kernel_rfl) ⟨orc1 (op := .indexAddr 29 (.tmp 7) (.tmp 9)) (by kernel_rfl) fun ops o hop hg => o_index (el := 51) (enc := (File.enc false)) h8 hg hop rfl (.head _) (.tail _ (.head _)) (by kernel_rfl) (by kernel_rfl), trivial⟩ (by kernel_rfl) ?_
    refine J_run [] [] [(3, .sc (.int .i64 (w64 (s5.1 + (x7.Data.length : Int))))), (7, .s false 2 a1.Files.length (a1.Files.map (File.enc false))), (8, .sc (.int .i64 (a1.Files.length : Int))), (9, .sc (.int .i64 s5.2))] [] (by kernel_rfl) trivial (by kernel_rfl) ?_
    refine J_ctl 1 [.c 935, .l 116, .b 0, .c 15] (by kernel_rfl) ?_
    refine J_run [] [] [(3, .sc (.int .i64 (w64 (s5.1 + (x7.Data.length : Int))))), (7, .s false 2 a1.Files.length (a1.Files.map (File.enc false))), (8, .sc (.int .i64 (a1.Files.length : Int))), (9, .sc (.int .i64 (w64 (s5.2 + 1))))] [] (by kernel_rfl) trivial (by kernel_rfl) ?_
    refine J_ctl 1 [.c 116, .l 116, .b 0, .c 15] (by kernel_rfl) ?_
    refine J_wk [(3, .sc (.int .i64 (w64 (s5.1 + (x7.Data.length : Int))))), (7, .s false 2 a1.Files.length (a1.Files.map (File.enc false))), (8, .sc (.int .i64 (a1.Files.length : Int))), (9, .sc (.int .i64 (w64 (s5.2 + 1))))] [] (by kernel_rfl) ?_
    exact J_q (J_bk (ih (w64 (s5.1 + (x7.Data.length : Int)), w64 (s5.2 + 1)))) rfl
  · refine J_lit (t := 10) (b := (decide (s5.2 < (a1.Files.length : Int)))) false rfl h6 ?_
    refine J_ctl 2 [.c 15] (by kernel_rfl) ?_
    refine J_wk [(3, .sc (.int .i64 s5.1))] [] (by kernel_rfl) ?_
    exact J_q (hk s5.1) rfl

theorem impl_Disk_total.ok (a1 : Disk) : Ok Try.prog 21 [.ag [.s false 2 a1.Files.length (a1.Files.map (File.enc false)), .sc (.int .i64 a1.Budget), .sc (.int .i64 a1.Writes), .sc (.int .i64 a1.Stop), .sc (.bool a1.Down)]] [] ((impl_Disk_total a1).map fun r => (.sc (.int .i64 r), [])) := by
  refine Ok_of2 (fc := c21) (fn := Try.f21) (nt := 20) (by kernel_rfl) (by kernel_rfl) (by kernel_rfl) (by simp) ?_
  intro w0 N0 O0 β0
  unfold impl_Disk_total
  refine J_ctl 1 [.c 2, .c 3] (by kernel_rfl) ?_
  refine J_run [] [(0, 0)] [(1, .pt 0 0 0)] [(0, .box [.s false 2 a1.Files.length (a1.Files.map (File.enc false)), .sc (.int .i64 a1.Budget), .sc (.int .i64 a1.Writes), .sc (.int .i64 a1.Stop), .sc (.bool a1.Down)])] (by kernel_rfl) trivial (by kernel_rfl) ?_
  refine J_ctl 1 [.c 6, .c 7] (by kernel_rfl) ?_
  refine J_run [] [] [(1, .pt 0 0 0), (3, .sc (.int .i64 0))] [(0, .box [.s false 2 a1.Files.length (a1.Files.map (File.enc false)), .sc (.int .i64 a1.Budget), .sc (.int .i64 a1.Writes), .sc (.int .i64 a1.Stop), .sc (.bool a1.Down)])] (by kernel_rfl) trivial (by kernel_rfl) ?_
  refine J_ctl 2 [.c 28, .c 29, .c 15] (by kernel_rfl) ?_
  refine J_run [] [] [(3, .sc (.int .i64 0)), (7, .s false 2 a1.Files.length (a1.Files.map (File.enc false))), (8, .sc (.int .i64 (a1.Files.length : Int))), (9, .sc (.int .i64 0))] [] (by kernel_rfl) trivial (by kernel_rfl) ?_
  refine J_ctl 1 [.c 58, .b 0, .c 15] (by kernel_rfl) ?_
  refine J_ctl 1 [.c 116, .l 116, .b 0, .c 15] (by kernel_rfl) ?_
  refine J_wk [(3, .sc (.int .i64 0)), (7, .s false 2 a1.Files.length (a1.Files.map (File.enc false))), (8, .sc (.int .i64 (a1.Files.length : Int))), (9, .sc (.int .i64 0))] [] (by kernel_rfl) ?_
  refine J_bindK ?_
  refine impl_Disk_total_l1.ok a1 w0 N0 O0 β0 _ (fun v9 => J_j ?_) (0, 0)
  refine J_ctl 1 [.c 30, .c 31] (by kernel_rfl) ?_
  refine J_run [] [] [(2, .sc (.int .i64 v9))] [] (by kernel_rfl) trivial (by kernel_rfl) ?_
  exact J_ret0 (fn := Try.f21) (rs := [.tmp 2]) (ds := [.sc (.int .i64 v9)]) (ds' := [.sc (.int .i64 v9)]) (.inr ⟨_, _, rfl, by kernel_rfl⟩) (by kernel_rfl) (by kernel_rfl) (by kernel_rfl) (.cons (.cell (.keep rfl (.nil))) (.nil) (by decide)) rfl rfl

noncomputable def c20 : Code := (Try.f20.body).getD .skip

theorem impl_DiskFault_l1.ok (a1 : Disk) (w0 : World) (N0 : Nat → Prop) (O0 : List Nat) (β0 : Nat → Im.Loc) (kn : Unit → Option (D × List Ent)) (hk : ∀ v : Unit, J ⟨Try.prog, 20, w0, N0, O0, 0, β0, 68⟩ c20 [.c 15] (St.mk' [(1, .pt 0 0 0)] [(0, .box [.s false 2 a1.Files.length (a1.Files.map (File.enc false)), .sc (.int .i64 a1.Budget), .sc (.int .i64 a1.Writes), .sc (.int .i64 a1.Stop), .sc (.bool a1.Down)])]) (some v) kn) :
    ∀ s25 : Int, J ⟨Try.prog, 20, w0, N0, O0, 0, β0, 68⟩ c20 [.c 116, .l 116, .b 1, .c 15] (St.mk' [(1, .pt 0 0 0), (29, .s false 2 a1.Files.length (a1.Files.map (File.enc false))), (30, .sc (.int .i64 (a1.Files.length : Int))), (31, .sc (.int .i64 s25))] [(0, .box [.s false 2 a1.Files.length (a1.Files.map (File.enc false)), .sc (.int .i64 a1.Budget), .sc (.int .i64 a1.Writes), .sc (.int .i64 a1.Stop), .sc (.bool a1.Down)])]) (impl_DiskFault_l1 a1 s25) (Fl.go (fun r : Int => some (.sc (.int .i64 r), [])) kn) := by
  refine J_lp (σ := fun s25 : Int => St.mk' [(1, .pt 0 0 0), (29, .s false 2 a1.Files.length (a1.Files.map (File.enc false))), (30, .sc (.int .i64 (a1.Files.length : Int))), (31, .sc (.int .i64 s25))] [(0, .box [.s false 2 a1.Files.length (a1.Files.map (File.enc false)), .sc (.int .i64 a1.Budget), .sc (.int .i64 a1.Writes), .sc (.int .i64 a1.Stop), .sc (.bool a1.Down)])]) (fun g ih s25 => ?_)
  unfold impl_DiskFault_l1b
  refine J_ctl 1 [.c 232, .c 233, .l 116, .b 1, .c 15] (by kernel_rfl) ?_
  refine J_run [] [] [(1, .pt 0 0 0), (29, .s false 2 a1.Files.length (a1.Files.map (File.enc false))), (30, .sc (.int .i64 (a1.Files.length : Int))), (31, .sc (.int .i64 s25)), (32, .sc (.bool (decide (s25 < (a1.Files.length : Int)))))] [(0, .box [.s false 2 a1.Files.length (a1.Files.map (File.enc false)), .sc (.int .i64 a1.Budget), .sc (.int .i64 a1.Writes), .sc (.int .i64 a1.Stop), .sc (.bool a1.Down)])] (by kernel_rfl) trivial (by kernel_rfl) ?_
  refine J_ctl 1 [.c 466, .c 467, .l 116, .b 1, .c 15] (by kernel_rfl) ?_
  refine J_ite (fun h26 => ?_) (fun h26 => ?_)
  · refine J_lit (t := 32) (b := (decide (s25 < (a1.Files.length : Int)))) true rfl h26 ?_
    refine J_ctl 2 [.c 467, .l 116, .b 1, .c 15] (by kernel_rfl) ?_
    refine J_ctl 3 [.c 3736, .c 3737, .b 2, .c 935, .l 116, .b 1, .c 15] (by kernel_rfl) ?_
    refine J_bind (fun x27 h28 => ?_)
    refine J_run [(1, { tn := [(29, .s false 2 a1.Files.length (a1.Files.map (File.enc false))), (31, .sc (.int .i64 s25))], out := some (.ps ((File.enc false) x27)) })] [(3, 1)] [(1, .pt 0 0 0), (3, .sc (.int .i64 s25)), (4, .pt 1 0 0), (29, .s false 2 a1.Files.length (a1.Files.map (File.enc false))), (30, .sc (.int .i64 (a1.Files.length : Int))), (31, .sc (.int .i64 s25))] [(0, .box [.s false 2 a1.Files.length (a1.Files.map (File.enc false)), .sc (.int .i64 a1.Budget), .sc (.int .i64 a1.Writes), .sc (.int .i64 a1.Stop), .sc (.bool a1.Down)]), (1, .box [.sc (.string x27.Path), .s false 1 x27.Data.length (x27.Data.map eU8)])] (by kernel_rfl) ⟨orc1 (op := .indexAddr 29 (.tmp 29) (.tmp 31)) (by kernel_rfl) fun ops o hop hg => o_index (el := 51) (enc := (File.enc false)) h28 hg hop rfl (.head _) (.tail _ (.head _)) (by kernel_rfl) (by kernel_rfl), trivial⟩ (by kernel_rfl) ?_
    refine J_ctl 2 [.c 14948, .c 14949, .c 7475, .b 2, .c 935, .l 116, .b 1, .c 15] (by kernel_rfl) ?_
    refine J_bind (fun x29 h30 => ?_)
    refine J_run [(2, { tn := [(37, .sc (.string x27.Path))], out := some (.sc (.int .i64 x29)) })] [] [(1, .pt 0 0 0), (3, .sc (.int .i64 s25)), (4, .pt 1 0 0), (5, .sc (.int .i64 x29)), (29, .s false 2 a1.Files.length (a1.Files.map (File.enc false))), (30, .sc (.int .i64 (a1.Files.length : Int))), (31, .sc (.int .i64 s25))] [(0, .box [.s false 2 a1.Files.length (a1.Files.map (File.enc false)), .sc (.int .i64 a1.Budget), .sc (.int .i64 a1.Writes), .sc (.int .i64 a1.Stop), .sc (.bool a1.Down)]), (1, .box [.sc (.string x27.Path), .s false 1 x27.Data.length (x27.Data.map eU8)])] (by kernel_rfl) ⟨orc1 (op := .call { callee := .value (.func 32), args := #[(.tmp 37)], argTypes := #[9] }) (by kernel_rfl) fun ops o hop hg => v_call («as» := [.sc (.string x27.Path)]) (bor := false) (ids := []) (hin := []) (hout := []) (news := []) hg hop (fun _ => by kernel_rfl) rfl (fun k d hk => match k, hk with | 0, rfl => ⟨(.tmp 37), rfl, (.head _)⟩ | (n + 1), hk => by simp at hk) (.cons (.same rfl) (.nil)) (nodupK_spec rfl) rfl (by simp) (menAll rfl) (impl_PathFault.ok x27.Path) (by rw [h30]; rfl) (Nat.le_of_ble_eq_true rfl) (.same rfl rfl) (nodupK_spec rfl) rfl (le_all rfl) (by simp), trivial⟩ (by kernel_rfl) ?_
    refine J_ctl 1 [.c 29898, .c 29899, .c 7475, .b 2, .c 935, .l 116, .b 1, .c 15] (by kernel_rfl) ?_
    refine J_run [] [] [(1, .pt 0 0 0), (3, .sc (.int .i64 s25)), (4, .pt 1 0 0), (5, .sc (.int .i64 x29)), (29, .s false 2 a1.Files.length (a1.Files.map (File.enc false))), (30, .sc (.int .i64 (a1.Files.length : Int))), (31, .sc (.int .i64 s25)), (40, .sc (.bool (x29 != 0)))] [(0, .box [.s false 2 a1.Files.length (a1.Files.map (File.enc false)), .sc (.int .i64 a1.Budget), .sc (.int .i64 a1.Writes), .sc (.int .i64 a1.Stop), .sc (.bool a1.Down)]), (1, .box [.sc (.string x27.Path), .s false 1 x27.Data.length (x27.Data.map eU8)])] (by kernel_rfl) trivial (by kernel_rfl) ?_
    refine J_ite (fun h31 => ?_) (fun h31 => ?_)
    · refine J_lit (t := 40) (b := (x29 != 0)) true rfl h31 ?_
      refine J_ctl 2 [.c 119596, .c 119597, .c 7475, .b 2, .c 935, .l 116, .b 1, .c 15] (by kernel_rfl) ?_
      refine J_run [] [] [(2, .sc (.int .i64 x29))] [] (by kernel_rfl) trivial (by kernel_rfl) ?_
      exact J_ret0 (fn := Try.f20) (rs := [.tmp 2]) (ds := [.sc (.int .i64 x29)]) (ds' := [.sc (.int .i64 x29)]) (.inr ⟨_, _, rfl, by kernel_rfl⟩) (by kernel_rfl) (by kernel_rfl) (by kernel_rfl) (.cons (.cell (.keep rfl (.nil))) (.nil) (by decide)) rfl rfl
    · refine J_lit (t := 40) (b := (x29 != 0)) false rfl h31 ?_
      refine J_ctl 2 [.c 7475, .b 2, .c 935, .l 116, .b 1, .c 15] (by kernel_rfl) ?_
      refine J_ctl 2 [.c 29900, .c 29901, .b 3, .b 2, .c 935, .l 116, .b 1, .c 15] (by kernel_rfl) ?_
      refine J_join [.c 29901, .b 3, .b 2, .c 935, .l 116, .b 1, .c 15] (fun v35 : Bool => St.mk' [(1, .pt 0 0 0), (4, .pt 1 0 0), (29, .s false 2 a1.Files.length (a1.Files.map (File.enc false))), (30, .sc (.int .i64 (a1.Files.length : Int))), (31, .sc (.int .i64 s25)), (42, .sc (.bool v35))] [(0, .box [.s false 2 a1.Files.length (a1.Files.map (File.enc false)), .sc (.int .i64 a1.Budget), .sc (.int .i64 a1.Writes), .sc (.int .i64 a1.Stop), .sc (.bool a1.Down)]), (1, .box [.sc (.string x27.Path), .s false 1 x27.Data.length (x27.Data.map eU8)])]) (fun v35 => ?_) (fun jv35 => ?_)
      · refine J_ite (fun h36 => ?_) (fun h36 => ?_)
        · refine J_lit (t := 42) (b := v35) true rfl h36 ?_
          refine J_ctl 2 [.c 119604, .c 119605, .b 3, .b 2, .c 935, .l 116, .b 1, .c 15] (by kernel_rfl) ?_
          refine J_run [] [] [(2, .sc (.int .i64 1))] [] (by kernel_rfl) trivial (by kernel_rfl) ?_
          exact J_ret0 (fn := Try.f20) (rs := [.tmp 2]) (ds := [.sc (.int .i64 1)]) (ds' := [.sc (.int .i64 1)]) (.inr ⟨_, _, rfl, by kernel_rfl⟩) (by kernel_rfl) (by kernel_rfl) (by kernel_rfl) (.cons (.cell (.keep rfl (.nil))) (.nil) (by decide)) rfl rfl
        · refine J_lit (t := 42) (b := v35) false rfl h36 ?_
          refine J_ctl 2 [.c 119606, .c 119607, .b 3, .b 2, .c 935, .l 116, .b 1, .c 15] (by kernel_rfl) ?_
          refine J_run [] [] [(1, .pt 0 0 0), (29, .s false 2 a1.Files.length (a1.Files.map (File.enc false))), (30, .sc (.int .i64 (a1.Files.length : Int))), (31, .sc (.int .i64 s25)), (57, .sc (.bool (decide ((x27.Data.length : Int) > 4000))))] [(0, .box [.s false 2 a1.Files.length (a1.Files.map (File.enc false)), .sc (.int .i64 a1.Budget), .sc (.int .i64 a1.Writes), .sc (.int .i64 a1.Stop), .sc (.bool a1.Down)])] (by kernel_rfl) trivial (by kernel_rfl) ?_
          refine J_ite (fun h37 => ?_) (fun h37 => ?_)
          · refine J_lit (t := 57) (b := (decide ((x27.Data.length : Int) > 4000))) true rfl h37 ?_
            refine J_ctl 2 [.c 478428, .c 478429, .b 3, .b 2, .c 935, .l 116, .b 1, .c 15] (by kernel_rfl) ?_
            refine J_run [] [] [(2, .sc (.int .i64 2))] [] (by kernel_rfl) trivial (by kernel_rfl) ?_
            exact J_ret0 (fn := Try.f20) (rs := [.tmp 2]) (ds := [.sc (.int .i64 2)]) (ds' := [.sc (.int .i64 2)]) (.inr ⟨_, _, rfl, by kernel_rfl⟩) (by kernel_rfl) (by kernel_rfl) (by kernel_rfl) (.cons (.cell (.keep rfl (.nil))) (.nil) (by decide)) rfl rfl
          · refine J_lit (t := 57) (b := (decide ((x27.Data.length : Int) > 4000))) false rfl h37 ?_
            refine J_ctl 2 [.b 3, .b 2, .c 935, .l 116, .b 1, .c 15] (by kernel_rfl) ?_
            refine J_ctl 2 [.c 935, .l 116, .b 1, .c 15] (by kernel_rfl) ?_
            refine J_run [] [] [(1, .pt 0 0 0), (29, .s false 2 a1.Files.length (a1.Files.map (File.enc false))), (30, .sc (.int .i64 (a1.Files.length : Int))), (31, .sc (.int .i64 (w64 (s25 + 1))))] [(0, .box [.s false 2 a1.Files.length (a1.Files.map (File.enc false)), .sc (.int .i64 a1.Budget), .sc (.int .i64 a1.Writes), .sc (.int .i64 a1.Stop), .sc (.bool a1.Down)])] (by kernel_rfl) trivial (by kernel_rfl) ?_
            refine J_ctl 1 [.c 116, .l 116, .b 1, .c 15] (by kernel_rfl) ?_
            refine J_wk [(1, .pt 0 0 0), (29, .s false 2 a1.Files.length (a1.Files.map (File.enc false))), (30, .sc (.int .i64 (a1.Files.length : Int))), (31, .sc (.int .i64 (w64 (s25 + 1))))] [(0, .box [.s false 2 a1.Files.length (a1.Files.map (File.enc false)), .sc (.int .i64 a1.Budget), .sc (.int .i64 a1.Writes), .sc (.int .i64 a1.Stop), .sc (.bool a1.Down)])] (by kernel_rfl) ?_
            exact J_q (J_bk (ih (w64 (s25 + 1)))) rfl
      · refine J_ite (fun h32 => ?_) (fun h32 => ?_)
        · refine J_bind (fun x33 h34 => ?_)
          refine J_run [(2, { tn := [(44, .sc (.bool (decide (s25 > 0))))], out := some (.sc (.bool true)) }), (9, { tn := [(45, .sc (.bool true)), (49, .s false 2 a1.Files.length (a1.Files.map (File.enc false))), (51, .sc (.int .i64 (w64 (s25 - 1))))], out := some (.ps ((File.enc false) x33)) })] [] [(1, .pt 0 0 0), (4, .pt 1 0 0), (29, .s false 2 a1.Files.length (a1.Files.map (File.enc false))), (30, .sc (.int .i64 (a1.Files.length : Int))), (31, .sc (.int .i64 s25)), (42, .sc (.bool (slt x27.Path x33.Path || seq x27.Path x33.Path)))] [(0, .box [.s false 2 a1.Files.length (a1.Files.map (File.enc false)), .sc (.int .i64 a1.Budget), .sc (.int .i64 a1.Writes), .sc (.int .i64 a1.Stop), .sc (.bool a1.Down)]), (1, .box [.sc (.string x27.Path), .s false 1 x27.Data.length (x27.Data.map eU8)])] (by kernel_rfl) ⟨orcA (id := none) [(44, .sc (.bool (decide (s25 > 0))))] [] { tn := [(44, .sc (.bool (decide (s25 > 0))))], out := some (.sc (.bool (decide (s25 > 0)))) } (by kernel_rfl) rfl (by rw [h32]), orcG (c := { tn := [(49, .s false 2 a1.Files.length (a1.Files.map (File.enc false))), (51, .sc (.int .i64 (w64 (s25 - 1))))], out := some (.ps ((File.enc false) x33)) }) (op := .indexAddr 29 (.tmp 49) (.tmp 51)) (g := 2) (t := 45) (b := true) (by kernel_rfl) (by kernel_rfl) fun ops o hop hg => o_index (el := 51) (enc := (File.enc false)) h34 hg hop rfl (.head _) (.tail _ (.head _)) (by kernel_rfl) (by kernel_rfl), trivial⟩ (by kernel_rfl) ?_
          refine J_wk [(1, .pt 0 0 0), (4, .pt 1 0 0), (29, .s false 2 a1.Files.length (a1.Files.map (File.enc false))), (30, .sc (.int .i64 (a1.Files.length : Int))), (31, .sc (.int .i64 s25)), (42, .sc (.bool (slt x27.Path x33.Path || seq x27.Path x33.Path)))] [(0, .box [.s false 2 a1.Files.length (a1.Files.map (File.enc false)), .sc (.int .i64 a1.Budget), .sc (.int .i64 a1.Writes), .sc (.int .i64 a1.Stop), .sc (.bool a1.Down)]), (1, .box [.sc (.string x27.Path), .s false 1 x27.Data.length (x27.Data.map eU8)])] (by kernel_rfl) ?_
          exact J_q (J_j (jv35 (slt x27.Path x33.Path || seq x27.Path x33.Path))) rfl
        · refine J_run [(2, { tn := [(44, .sc (.bool (decide (s25 > 0))))], out := some (.sc (.bool false)) })] [] [(1, .pt 0 0 0), (4, .pt 1 0 0), (29, .s false 2 a1.Files.length (a1.Files.map (File.enc false))), (30, .sc (.int .i64 (a1.Files.length : Int))), (31, .sc (.int .i64 s25)), (42, .sc (.bool false))] [(0, .box [.s false 2 a1.Files.length (a1.Files.map (File.enc false)), .sc (.int .i64 a1.Budget), .sc (.int .i64 a1.Writes), .sc (.int .i64 a1.Stop), .sc (.bool a1.Down)]), (1, .box [.sc (.string x27.Path), .s false 1 x27.Data.length (x27.Data.map eU8)])] (by kernel_rfl) ⟨orcA (id := none) [(44, .sc (.bool (decide (s25 > 0))))] [] { tn := [(44, .sc (.bool (decide (s25 > 0))))], out := some (.sc (.bool (decide (s25 > 0)))) } (by kernel_rfl) rfl (by rw [h32]), trivial⟩ (by kernel_rfl) ?_
          refine J_wk [(1, .pt 0 0 0), (4, .pt 1 0 0), (29, .s false 2 a1.Files.length (a1.Files.map (File.enc false))), (30, .sc (.int .i64 (a1.Files.length : Int))), (31, .sc (.int .i64 s25)), (42, .sc (.bool false))] [(0, .box [.s false 2 a1.Files.length (a1.Files.map (File.enc false)), .sc (.int .i64 a1.Budget), .sc (.int .i64 a1.Writes), .sc (.int .i64 a1.Stop), .sc (.bool a1.Down)]), (1, .box [.sc (.string x27.Path), .s false 1 x27.Data.length (x27.Data.map eU8)])] (by kernel_rfl) ?_
          exact J_q (J_j (jv35 false)) rfl
  · refine J_lit (t := 32) (b := (decide (s25 < (a1.Files.length : Int)))) false rfl h26 ?_
    refine J_ctl 2 [.c 15] (by kernel_rfl) ?_
    refine J_wk [(1, .pt 0 0 0)] [(0, .box [.s false 2 a1.Files.length (a1.Files.map (File.enc false)), .sc (.int .i64 a1.Budget), .sc (.int .i64 a1.Writes), .sc (.int .i64 a1.Stop), .sc (.bool a1.Down)])] (by kernel_rfl) ?_
    exact J_q (hk ()) rfl

theorem impl_DiskFault.ok (a1 : Disk) : Ok Try.prog 20 [.ag [.s false 2 a1.Files.length (a1.Files.map (File.enc false)), .sc (.int .i64 a1.Budget), .sc (.int .i64 a1.Writes), .sc (.int .i64 a1.Stop), .sc (.bool a1.Down)]] [] ((impl_DiskFault a1).map fun r => (.sc (.int .i64 r), [])) := by
  refine Ok_of2 (fc := c20) (fn := Try.f20) (nt := 68) (by kernel_rfl) (by kernel_rfl) (by kernel_rfl) (by simp) ?_
  intro w0 N0 O0 β0
  unfold impl_DiskFault
  refine J_ctl 1 [.c 2, .c 3] (by kernel_rfl) ?_
  refine J_run [] [(0, 0)] [(1, .pt 0 0 0)] [(0, .box [.s false 2 a1.Files.length (a1.Files.map (File.enc false)), .sc (.int .i64 a1.Budget), .sc (.int .i64 a1.Writes), .sc (.int .i64 a1.Stop), .sc (.bool a1.Down)])] (by kernel_rfl) trivial (by kernel_rfl) ?_
  refine J_ctl 3 [.c 24, .c 25, .b 0, .c 7] (by kernel_rfl) ?_
  refine J_bind (fun x2 h3 => ?_)
  refine J_join [.c 25, .b 0, .c 7] (fun v10 : Bool => St.mk' [(1, .pt 0 0 0), (6, .sc (.bool v10))] [(0, .box [.s false 2 a1.Files.length (a1.Files.map (File.enc false)), .sc (.int .i64 a1.Budget), .sc (.int .i64 a1.Writes), .sc (.int .i64 a1.Stop), .sc (.bool a1.Down)])]) (fun v10 => ?_) (fun jv10 => ?_)
  · refine J_ite (fun h11 => ?_) (fun h11 => ?_)
    · refine J_lit (t := 6) (b := v10) true rfl h11 ?_
      refine J_ctl 2 [.c 100, .c 101, .b 0, .c 7] (by kernel_rfl) ?_
      refine J_run [] [] [(2, .sc (.int .i64 3))] [] (by kernel_rfl) trivial (by kernel_rfl) ?_
      exact J_ret0 (fn := Try.f20) (rs := [.tmp 2]) (ds := [.sc (.int .i64 3)]) (ds' := [.sc (.int .i64 3)]) (.inr ⟨_, _, rfl, by kernel_rfl⟩) (by kernel_rfl) (by kernel_rfl) (by kernel_rfl) (.cons (.cell (.keep rfl (.nil))) (.nil) (by decide)) rfl rfl
    · refine J_lit (t := 6) (b := v10) false rfl h11 ?_
      refine J_ctl 2 [.c 102, .c 103, .b 0, .c 7] (by kernel_rfl) ?_
      refine J_run [] [] [(1, .pt 0 0 0), (23, .sc (.bool (decide ((a1.Files.length : Int) > 120))))] [(0, .box [.s false 2 a1.Files.length (a1.Files.map (File.enc false)), .sc (.int .i64 a1.Budget), .sc (.int .i64 a1.Writes), .sc (.int .i64 a1.Stop), .sc (.bool a1.Down)])] (by kernel_rfl) trivial (by kernel_rfl) ?_
      refine J_ite (fun h12 => ?_) (fun h12 => ?_)
      · refine J_lit (t := 23) (b := (decide ((a1.Files.length : Int) > 120))) true rfl h12 ?_
        refine J_ctl 2 [.c 412, .c 413, .b 0, .c 7] (by kernel_rfl) ?_
        refine J_run [] [] [(2, .sc (.int .i64 2))] [] (by kernel_rfl) trivial (by kernel_rfl) ?_
        exact J_ret0 (fn := Try.f20) (rs := [.tmp 2]) (ds := [.sc (.int .i64 2)]) (ds' := [.sc (.int .i64 2)]) (.inr ⟨_, _, rfl, by kernel_rfl⟩) (by kernel_rfl) (by kernel_rfl) (by kernel_rfl) (.cons (.cell (.keep rfl (.nil))) (.nil) (by decide)) rfl rfl
      · refine J_lit (t := 23) (b := (decide ((a1.Files.length : Int) > 120))) false rfl h12 ?_
        refine J_ctl 2 [.b 0, .c 7] (by kernel_rfl) ?_
        refine J_ctl 3 [.c 28, .c 29, .c 15] (by kernel_rfl) ?_
        refine J_run [] [] [(1, .pt 0 0 0), (29, .s false 2 a1.Files.length (a1.Files.map (File.enc false))), (30, .sc (.int .i64 (a1.Files.length : Int))), (31, .sc (.int .i64 0))] [(0, .box [.s false 2 a1.Files.length (a1.Files.map (File.enc false)), .sc (.int .i64 a1.Budget), .sc (.int .i64 a1.Writes), .sc (.int .i64 a1.Stop), .sc (.bool a1.Down)])] (by kernel_rfl) trivial (by kernel_rfl) ?_
        refine J_ctl 1 [.c 58, .b 1, .c 15] (by kernel_rfl) ?_
        refine J_ctl 1 [.c 116, .l 116, .b 1, .c 15] (by kernel_rfl) ?_
        refine J_wk [(1, .pt 0 0 0), (29, .s false 2 a1.Files.length (a1.Files.map (File.enc false))), (30, .sc (.int .i64 (a1.Files.length : Int))), (31, .sc (.int .i64 0))] [(0, .box [.s false 2 a1.Files.length (a1.Files.map (File.enc false)), .sc (.int .i64 a1.Budget), .sc (.int .i64 a1.Writes), .sc (.int .i64 a1.Stop), .sc (.bool a1.Down)])] (by kernel_rfl) ?_
        refine J_loop (K0 := (fun r : Int => some (.sc (.int .i64 r), []))) (fun _ => rfl) ?_
        refine impl_DiskFault_l1.ok a1 w0 N0 O0 β0 _ (fun v38 => J_j ?_) 0
        refine J_ctl 2 [.c 60, .c 61, .c 31] (by kernel_rfl) ?_
        refine J_bind (fun x39 h40 => ?_)
        refine J_run [(1, { tn := [(63, .ag [.s false 2 a1.Files.length (a1.Files.map (File.enc false)), .sc (.int .i64 a1.Budget), .sc (.int .i64 a1.Writes), .sc (.int .i64 a1.Stop), .sc (.bool a1.Down)])], out := some (.sc (.int .i64 x39)) })] [] [(67, .sc (.bool (decide (x39 > a1.Budget))))] [] (by kernel_rfl) ⟨orc1 (op := .call { callee := .value (.func 21), args := #[(.tmp 63)], argTypes := #[31] }) (by kernel_rfl) fun ops o hop hg => v_call («as» := [.ag [.s false 2 a1.Files.length (a1.Files.map (File.enc false)), .sc (.int .i64 a1.Budget), .sc (.int .i64 a1.Writes), .sc (.int .i64 a1.Stop), .sc (.bool a1.Down)]]) (bor := false) (ids := []) (hin := []) (hout := []) (news := []) hg hop (fun _ => by kernel_rfl) rfl (fun k d hk => match k, hk with | 0, rfl => ⟨(.tmp 63), rfl, (.head _)⟩ | (n + 1), hk => by simp at hk) (.cons (.same rfl) (.nil)) (nodupK_spec rfl) rfl (by simp) (menAll rfl) (impl_Disk_total.ok a1) (by rw [h40]; rfl) (Nat.le_of_ble_eq_true rfl) (.same rfl rfl) (nodupK_spec rfl) rfl (le_all rfl) (by simp), trivial⟩ (by kernel_rfl) ?_
        refine J_ite (fun h41 => ?_) (fun h41 => ?_)
        · refine J_lit (t := 67) (b := (decide (x39 > a1.Budget))) true rfl h41 ?_
          refine J_ctl 2 [.c 244, .c 245, .c 31] (by kernel_rfl) ?_
          refine J_run [] [] [(2, .sc (.int .i64 8))] [] (by kernel_rfl) trivial (by kernel_rfl) ?_
          exact J_ret0 (fn := Try.f20) (rs := [.tmp 2]) (ds := [.sc (.int .i64 8)]) (ds' := [.sc (.int .i64 8)]) (.inr ⟨_, _, rfl, by kernel_rfl⟩) (by kernel_rfl) (by kernel_rfl) (by kernel_rfl) (.cons (.cell (.keep rfl (.nil))) (.nil) (by decide)) rfl rfl
        · refine J_lit (t := 67) (b := (decide (x39 > a1.Budget))) false rfl h41 ?_
          refine J_ctl 2 [.c 31] (by kernel_rfl) ?_
          refine J_ctl 1 [.c 62, .c 63] (by kernel_rfl) ?_
          refine J_run [] [] [(2, .sc (.int .i64 0))] [] (by kernel_rfl) trivial (by kernel_rfl) ?_
          exact J_ret0 (fn := Try.f20) (rs := [.tmp 2]) (ds := [.sc (.int .i64 0)]) (ds' := [.sc (.int .i64 0)]) (.inr ⟨_, _, rfl, by kernel_rfl⟩) (by kernel_rfl) (by kernel_rfl) (by kernel_rfl) (.cons (.cell (.keep rfl (.nil))) (.nil) (by decide)) rfl rfl
  · refine J_ite (fun h4 => ?_) (fun h4 => ?_)
    · refine J_run [(2, { tn := [(8, .sc (.int .i64 a1.Budget))], out := some (.sc (.bool x2)) }), (4, { tn := [(10, .sc (.bool (!x2)))], out := some (.sc (.bool true)) })] [] [(1, .pt 0 0 0), (6, .sc (.bool true))] [(0, .box [.s false 2 a1.Files.length (a1.Files.map (File.enc false)), .sc (.int .i64 a1.Budget), .sc (.int .i64 a1.Writes), .sc (.int .i64 a1.Stop), .sc (.bool a1.Down)])] (by kernel_rfl) ⟨orc1 (op := .call { callee := .value (.func 31), args := #[(.tmp 8), (.const (.int .i64 0)), (.const (.int .i64 20000))], argTypes := #[2, 2, 2] }) (by kernel_rfl) fun ops o hop hg => v_call («as» := [.sc (.int .i64 a1.Budget), .sc (.int .i64 0), .sc (.int .i64 20000)]) (bor := false) (ids := []) (hin := []) (hout := []) (news := []) hg hop (fun _ => by kernel_rfl) rfl (fun k d hk => match k, hk with | 0, rfl => ⟨(.tmp 8), rfl, (.head _)⟩ | 1, rfl => ⟨(.const (.int .i64 0)), rfl, rfl⟩ | 2, rfl => ⟨(.const (.int .i64 20000)), rfl, rfl⟩ | (n + 3), hk => by simp at hk) (.cons (.same rfl) (.cons (.same rfl) (.cons (.same rfl) (.nil)))) (nodupK_spec rfl) rfl (by simp) (menAll rfl) (impl_within.ok a1.Budget 0 20000) (by rw [h3]; rfl) (Nat.le_of_ble_eq_true rfl) (.same rfl rfl) (nodupK_spec rfl) rfl (le_all rfl) (by simp), orcA (id := none) [(10, .sc (.bool (!x2)))] [] { tn := [(10, .sc (.bool (!x2)))], out := some (.sc (.bool (!x2))) } (by kernel_rfl) rfl (by rw [h4]), trivial⟩ (by kernel_rfl) ?_
      refine J_wk [(1, .pt 0 0 0), (6, .sc (.bool true))] [(0, .box [.s false 2 a1.Files.length (a1.Files.map (File.enc false)), .sc (.int .i64 a1.Budget), .sc (.int .i64 a1.Writes), .sc (.int .i64 a1.Stop), .sc (.bool a1.Down)])] (by kernel_rfl) ?_
      exact J_q (J_j (jv10 true)) rfl
    · refine J_bind (fun x5 h6 => ?_)
      refine J_ite (fun h7 => ?_) (fun h7 => ?_)
      · refine J_run [(2, { tn := [(8, .sc (.int .i64 a1.Budget))], out := some (.sc (.bool x2)) }), (4, { tn := [(10, .sc (.bool (!x2)))], out := some (.sc (.bool false)) }), (7, { tn := [(11, .sc (.bool false)), (13, .sc (.int .i64 a1.Writes))], out := some (.sc (.bool x5)) }), (10, { tn := [(16, .sc (.bool (!x5)))], out := some (.sc (.bool true)) })] [] [(1, .pt 0 0 0), (6, .sc (.bool true))] [(0, .box [.s false 2 a1.Files.length (a1.Files.map (File.enc false)), .sc (.int .i64 a1.Budget), .sc (.int .i64 a1.Writes), .sc (.int .i64 a1.Stop), .sc (.bool a1.Down)])] (by kernel_rfl) ⟨orc1 (op := .call { callee := .value (.func 31), args := #[(.tmp 8), (.const (.int .i64 0)), (.const (.int .i64 20000))], argTypes := #[2, 2, 2] }) (by kernel_rfl) fun ops o hop hg => v_call («as» := [.sc (.int .i64 a1.Budget), .sc (.int .i64 0), .sc (.int .i64 20000)]) (bor := false) (ids := []) (hin := []) (hout := []) (news := []) hg hop (fun _ => by kernel_rfl) rfl (fun k d hk => match k, hk with | 0, rfl => ⟨(.tmp 8), rfl, (.head _)⟩ | 1, rfl => ⟨(.const (.int .i64 0)), rfl, rfl⟩ | 2, rfl => ⟨(.const (.int .i64 20000)), rfl, rfl⟩ | (n + 3), hk => by simp at hk) (.cons (.same rfl) (.cons (.same rfl) (.cons (.same rfl) (.nil)))) (nodupK_spec rfl) rfl (by simp) (menAll rfl) (impl_within.ok a1.Budget 0 20000) (by rw [h3]; rfl) (Nat.le_of_ble_eq_true rfl) (.same rfl rfl) (nodupK_spec rfl) rfl (le_all rfl) (by simp), orcA (id := none) [(10, .sc (.bool (!x2)))] [] { tn := [(10, .sc (.bool (!x2)))], out := some (.sc (.bool (!x2))) } (by kernel_rfl) rfl (by rw [h4]), orcG (c := { tn := [(13, .sc (.int .i64 a1.Writes))], out := some (.sc (.bool x5)) }) (op := .call { callee := .value (.func 31), args := #[(.tmp 13), (.const (.int .i64 0)), (.const (.int .i64 1000000000))], argTypes := #[2, 2, 2] }) (g := 4) (t := 11) (b := false) (by kernel_rfl) (by kernel_rfl) fun ops o hop hg => v_call («as» := [.sc (.int .i64 a1.Writes), .sc (.int .i64 0), .sc (.int .i64 1000000000)]) (bor := false) (ids := []) (hin := []) (hout := []) (news := []) hg hop (fun _ => by kernel_rfl) rfl (fun k d hk => match k, hk with | 0, rfl => ⟨(.tmp 13), rfl, (.head _)⟩ | 1, rfl => ⟨(.const (.int .i64 0)), rfl, rfl⟩ | 2, rfl => ⟨(.const (.int .i64 1000000000)), rfl, rfl⟩ | (n + 3), hk => by simp at hk) (.cons (.same rfl) (.cons (.same rfl) (.cons (.same rfl) (.nil)))) (nodupK_spec rfl) rfl (by simp) (menAll rfl) (impl_within.ok a1.Writes 0 1000000000) (by rw [h6]; rfl) (Nat.le_of_ble_eq_true rfl) (.same rfl rfl) (nodupK_spec rfl) rfl (le_all rfl) (by simp), orcA (id := none) [(16, .sc (.bool (!x5)))] [] { tn := [(16, .sc (.bool (!x5)))], out := some (.sc (.bool (!x5))) } (by kernel_rfl) rfl (by rw [h7]), trivial⟩ (by kernel_rfl) ?_
        refine J_wk [(1, .pt 0 0 0), (6, .sc (.bool true))] [(0, .box [.s false 2 a1.Files.length (a1.Files.map (File.enc false)), .sc (.int .i64 a1.Budget), .sc (.int .i64 a1.Writes), .sc (.int .i64 a1.Stop), .sc (.bool a1.Down)])] (by kernel_rfl) ?_
        exact J_q (J_j (jv10 true)) rfl
      · refine J_bind (fun x8 h9 => ?_)
        refine J_run [(2, { tn := [(8, .sc (.int .i64 a1.Budget))], out := some (.sc (.bool x2)) }), (4, { tn := [(10, .sc (.bool (!x2)))], out := some (.sc (.bool false)) }), (7, { tn := [(11, .sc (.bool false)), (13, .sc (.int .i64 a1.Writes))], out := some (.sc (.bool x5)) }), (10, { tn := [(16, .sc (.bool (!x5)))], out := some (.sc (.bool false)) }), (13, { tn := [(17, .sc (.bool false)), (19, .sc (.int .i64 a1.Stop))], out := some (.sc (.bool x8)) })] [] [(1, .pt 0 0 0), (6, .sc (.bool (!x8)))] [(0, .box [.s false 2 a1.Files.length (a1.Files.map (File.enc false)), .sc (.int .i64 a1.Budget), .sc (.int .i64 a1.Writes), .sc (.int .i64 a1.Stop), .sc (.bool a1.Down)])] (by kernel_rfl) ⟨orc1 (op := .call { callee := .value (.func 31), args := #[(.tmp 8), (.const (.int .i64 0)), (.const (.int .i64 20000))], argTypes := #[2, 2, 2] }) (by kernel_rfl) fun ops o hop hg => v_call («as» := [.sc (.int .i64 a1.Budget), .sc (.int .i64 0), .sc (.int .i64 20000)]) (bor := false) (ids := []) (hin := []) (hout := []) (news := []) hg hop (fun _ => by kernel_rfl) rfl (fun k d hk => match k, hk with | 0, rfl => ⟨(.tmp 8), rfl, (.head _)⟩ | 1, rfl => ⟨(.const (.int .i64 0)), rfl, rfl⟩ | 2, rfl => ⟨(.const (.int .i64 20000)), rfl, rfl⟩ | (n + 3), hk => by simp at hk) (.cons (.same rfl) (.cons (.same rfl) (.cons (.same rfl) (.nil)))) (nodupK_spec rfl) rfl (by simp) (menAll rfl) (impl_within.ok a1.Budget 0 20000) (by rw [h3]; rfl) (Nat.le_of_ble_eq_true rfl) (.same rfl rfl) (nodupK_spec rfl) rfl (le_all rfl) (by simp), orcA (id := none) [(10, .sc (.bool (!x2)))] [] { tn := [(10, .sc (.bool (!x2)))], out := some (.sc (.bool (!x2))) } (by kernel_rfl) rfl (by rw [h4]), orcG (c := { tn := [(13, .sc (.int .i64 a1.Writes))], out := some (.sc (.bool x5)) }) (op := .call { callee := .value (.func 31), args := #[(.tmp 13), (.const (.int .i64 0)), (.const (.int .i64 1000000000))], argTypes := #[2, 2, 2] }) (g := 4) (t := 11) (b := false) (by kernel_rfl) (by kernel_rfl) fun ops o hop hg => v_call («as» := [.sc (.int .i64 a1.Writes), .sc (.int .i64 0), .sc (.int .i64 1000000000)]) (bor := false) (ids := []) (hin := []) (hout := []) (news := []) hg hop (fun _ => by kernel_rfl) rfl (fun k d hk => match k, hk with | 0, rfl => ⟨(.tmp 13), rfl, (.head _)⟩ | 1, rfl => ⟨(.const (.int .i64 0)), rfl, rfl⟩ | 2, rfl => ⟨(.const (.int .i64 1000000000)), rfl, rfl⟩ | (n + 3), hk => by simp at hk) (.cons (.same rfl) (.cons (.same rfl) (.cons (.same rfl) (.nil)))) (nodupK_spec rfl) rfl (by simp) (menAll rfl) (impl_within.ok a1.Writes 0 1000000000) (by rw [h6]; rfl) (Nat.le_of_ble_eq_true rfl) (.same rfl rfl) (nodupK_spec rfl) rfl (le_all rfl) (by simp), orcA (id := none) [(16, .sc (.bool (!x5)))] [] { tn := [(16, .sc (.bool (!x5)))], out := some (.sc (.bool (!x5))) } (by kernel_rfl) rfl (by rw [h7]), orcG (c := { tn := [(19, .sc (.int .i64 a1.Stop))], out := some (.sc (.bool x8)) }) (op := .call { callee := .value (.func 31), args := #[(.tmp 19), (.const (.int .i64 (-1))), (.const (.int .i64 1000000000))], argTypes := #[2, 2, 2] }) (g := 10) (t := 17) (b := false) (by kernel_rfl) (by kernel_rfl) fun ops o hop hg => v_call («as» := [.sc (.int .i64 a1.Stop), .sc (.int .i64 (-1)), .sc (.int .i64 1000000000)]) (bor := false) (ids := []) (hin := []) (hout := []) (news := []) hg hop (fun _ => by kernel_rfl) rfl (fun k d hk => match k, hk with | 0, rfl => ⟨(.tmp 19), rfl, (.head _)⟩ | 1, rfl => ⟨(.const (.int .i64 (-1))), rfl, rfl⟩ | 2, rfl => ⟨(.const (.int .i64 1000000000)), rfl, rfl⟩ | (n + 3), hk => by simp at hk) (.cons (.same rfl) (.cons (.same rfl) (.cons (.same rfl) (.nil)))) (nodupK_spec rfl) rfl (by simp) (menAll rfl) (impl_within.ok a1.Stop (-1) 1000000000) (by rw [h9]; rfl) (Nat.le_of_ble_eq_true rfl) (.same rfl rfl) (nodupK_spec rfl) rfl (le_all rfl) (by simp), trivial⟩ (by kernel_rfl) ?_
        refine J_wk [(1, .pt 0 0 0), (6, .sc (.bool (!x8)))] [(0, .box [.s false 2 a1.Files.length (a1.Files.map (File.enc false)), .sc (.int .i64 a1.Budget), .sc (.int .i64 a1.Writes), .sc (.int .i64 a1.Stop), .sc (.bool a1.Down)])] (by kernel_rfl) ?_
        exact J_q (J_j (jv10 (!x8))) rfl

noncomputable def c9 : Code := (Try.f9.body).getD .skip

theorem impl_TotalOf.ok (a1 : Disk) : Ok Try.prog 9 [.ag [.s false 2 a1.Files.length (a1.Files.map (File.enc false)), .sc (.int .i64 a1.Budget), .sc (.int .i64 a1.Writes), .sc (.int .i64 a1.Stop), .sc (.bool a1.Down)]] [] ((impl_TotalOf a1).map fun r => (.ag [.sc (.int .i64 r.Code), .sc (.int .i64 r.Value)], [])) := by
  refine Ok_of2 (fc := c9) (fn := Try.f9) (nt := 13) (by kernel_rfl) (by kernel_rfl) (by kernel_rfl) (by simp) ?_
  intro w0 N0 O0 β0
  unfold impl_TotalOf
  refine J_ctl 1 [.c 2, .c 3] (by kernel_rfl) ?_
  refine J_run [] [(0, 0), (1, 1)] [(1, .pt 0 0 0), (2, .pt 1 0 0)] [(0, .box [.s false 2 a1.Files.length (a1.Files.map (File.enc false)), .sc (.int .i64 a1.Budget), .sc (.int .i64 a1.Writes), .sc (.int .i64 a1.Stop), .sc (.bool a1.Down)]), (1, .box [.sc (.int .i64 0), .sc (.int .i64 0)])] (by kernel_rfl) trivial (by kernel_rfl) ?_
  refine J_ctl 2 [.c 12, .c 13, .c 7] (by kernel_rfl) ?_
  refine J_bind (fun x2 h3 => ?_)
  refine J_run [(1, { tn := [(4, .ag [.s false 2 a1.Files.length (a1.Files.map (File.enc false)), .sc (.int .i64 a1.Budget), .sc (.int .i64 a1.Writes), .sc (.int .i64 a1.Stop), .sc (.bool a1.Down)])], out := some (.sc (.int .i64 x2)) })] [] [(1, .pt 0 0 0), (2, .pt 1 0 0), (3, .sc (.int .i64 x2))] [(0, .box [.s false 2 a1.Files.length (a1.Files.map (File.enc false)), .sc (.int .i64 a1.Budget), .sc (.int .i64 a1.Writes), .sc (.int .i64 a1.Stop), .sc (.bool a1.Down)]), (1, .box [.sc (.int .i64 0), .sc (.int .i64 0)])] (by kernel_rfl) ⟨orc1 (op := .call { callee := .value (.func 20), args := #[(.tmp 4)], argTypes := #[31] }) (by kernel_rfl) fun ops o hop hg => v_call («as» := [.ag [.s false 2 a1.Files.length (a1.Files.map (File.enc false)), .sc (.int .i64 a1.Budget), .sc (.int .i64 a1.Writes), .sc (.int .i64 a1.Stop), .sc (.bool a1.Down)]]) (bor := false) (ids := []) (hin := []) (hout := []) (news := []) hg hop (fun _ => by kernel_rfl) rfl (fun k d hk => match k, hk with | 0, rfl => ⟨(.tmp 4), rfl, (.head _)⟩ | (n + 1), hk => by simp at hk) (.cons (.same rfl) (.nil)) (nodupK_spec rfl) rfl (by simp) (menAll rfl) (impl_DiskFault.ok a1) (by rw [h3]; rfl) (Nat.le_of_ble_eq_true rfl) (.same rfl rfl) (nodupK_spec rfl) rfl (le_all rfl) (by simp), trivial⟩ (by kernel_rfl) ?_
  refine J_ctl 1 [.c 26, .c 27, .c 7] (by kernel_rfl) ?_
  refine J_run [] [] [(1, .pt 0 0 0), (2, .pt 1 0 0), (3, .sc (.int .i64 x2)), (7, .sc (.bool (x2 != 0)))] [(0, .box [.s false 2 a1.Files.length (a1.Files.map (File.enc false)), .sc (.int .i64 a1.Budget), .sc (.int .i64 a1.Writes), .sc (.int .i64 a1.Stop), .sc (.bool a1.Down)]), (1, .box [.sc (.int .i64 0), .sc (.int .i64 0)])] (by kernel_rfl) trivial (by kernel_rfl) ?_
  refine J_ite (fun h4 => ?_) (fun h4 => ?_)
  · refine J_lit (t := 7) (b := (x2 != 0)) true rfl h4 ?_
    refine J_ctl 2 [.c 108, .c 109, .c 7] (by kernel_rfl) ?_
    refine J_run [] [] [(2, .pt 1 0 0)] [(1, .box [.sc (.int .i64 x2), .sc (.int .i64 0)])] (by kernel_rfl) trivial (by kernel_rfl) ?_
    exact J_ret0 (fn := Try.f9) (rs := [.cell 2 27]) (ds := [.ag [.sc (.int .i64 x2), .sc (.int .i64 0)]]) (ds' := [.ag [.sc (.int .i64 x2), .sc (.int .i64 0)]]) (.inr ⟨_, _, rfl, by kernel_rfl⟩) (by kernel_rfl) (by kernel_rfl) (by kernel_rfl) (.cons (.ag (.keep rfl (.keep rfl (.nil)))) (.nil) (by decide)) rfl rfl
  · refine J_lit (t := 7) (b := (x2 != 0)) false rfl h4 ?_
    refine J_ctl 2 [.c 7] (by kernel_rfl) ?_
    refine J_ctl 1 [.c 14, .c 15] (by kernel_rfl) ?_
    refine J_bind (fun x5 h6 => ?_)
    refine J_run [(1, { tn := [(10, .ag [.s false 2 a1.Files.length (a1.Files.map (File.enc false)), .sc (.int .i64 a1.Budget), .sc (.int .i64 a1.Writes), .sc (.int .i64 a1.Stop), .sc (.bool a1.Down)])], out := some (.sc (.int .i64 x5)) })] [] [(2, .pt 1 0 0)] [(1, .box [.sc (.int .i64 0), .sc (.int .i64 x5)])] (by kernel_rfl) ⟨orc1 (op := .call { callee := .value (.func 21), args := #[(.tmp 10)], argTypes := #[31] }) (by kernel_rfl) fun ops o hop hg => v_call («as» := [.ag [.s false 2 a1.Files.length (a1.Files.map (File.enc false)), .sc (.int .i64 a1.Budget), .sc (.int .i64 a1.Writes), .sc (.int .i64 a1.Stop), .sc (.bool a1.Down)]]) (bor := false) (ids := []) (hin := []) (hout := []) (news := []) hg hop (fun _ => by kernel_rfl) rfl (fun k d hk => match k, hk with | 0, rfl => ⟨(.tmp 10), rfl, (.head _)⟩ | (n + 1), hk => by simp at hk) (.cons (.same rfl) (.nil)) (nodupK_spec rfl) rfl (by simp) (menAll rfl) (impl_Disk_total.ok a1) (by rw [h6]; rfl) (Nat.le_of_ble_eq_true rfl) (.same rfl rfl) (nodupK_spec rfl) rfl (le_all rfl) (by simp), trivial⟩ (by kernel_rfl) ?_
    exact J_ret0 (fn := Try.f9) (rs := [.cell 2 27]) (ds := [.ag [.sc (.int .i64 0), .sc (.int .i64 x5)]]) (ds' := [.ag [.sc (.int .i64 0), .sc (.int .i64 x5)]]) (.inr ⟨_, _, rfl, by kernel_rfl⟩) (by kernel_rfl) (by kernel_rfl) (by kernel_rfl) (.cons (.ag (.keep rfl (.keep rfl (.nil)))) (.nil) (by decide)) rfl rfl

noncomputable def c10 : Code := (Try.f10.body).getD .skip

theorem laws_eqIntResult.ok (a1 : IntResult) (a2 : IntResult) : Ok Try.prog 10 [.ag [.sc (.int .i64 a1.Code), .sc (.int .i64 a1.Value)], .ag [.sc (.int .i64 a2.Code), .sc (.int .i64 a2.Value)]] [] ((laws_eqIntResult a1 a2).map fun r => (.sc (.bool r), [])) := by
  refine Ok_of2 (fc := c10) (fn := Try.f10) (nt := 15) (by kernel_rfl) (by kernel_rfl) (by kernel_rfl) (by simp) ?_
  intro w0 N0 O0 β0
  unfold laws_eqIntResult
  refine J_ctl 1 [.c 2, .c 3] (by kernel_rfl) ?_
  refine J_run [] [(0, 0), (1, 1)] [(2, .pt 0 0 0), (3, .pt 1 0 0)] [(0, .box [.sc (.int .i64 a1.Code), .sc (.int .i64 a1.Value)]), (1, .box [.sc (.int .i64 a2.Code), .sc (.int .i64 a2.Value)])] (by kernel_rfl) trivial (by kernel_rfl) ?_
  refine J_ctl 2 [.c 12, .c 13, .c 7] (by kernel_rfl) ?_
  refine J_run [] [] [(2, .pt 0 0 0), (3, .pt 1 0 0), (9, .sc (.bool (a1.Code != a2.Code)))] [(0, .box [.sc (.int .i64 a1.Code), .sc (.int .i64 a1.Value)]), (1, .box [.sc (.int .i64 a2.Code), .sc (.int .i64 a2.Value)])] (by kernel_rfl) trivial (by kernel_rfl) ?_
  refine J_ite (fun h3 => ?_) (fun h3 => ?_)
  · refine J_lit (t := 9) (b := (a1.Code != a2.Code)) true rfl h3 ?_
    refine J_ctl 2 [.c 52, .c 53, .c 7] (by kernel_rfl) ?_
    refine J_run [] [] [(4, .sc (.bool false))] [] (by kernel_rfl) trivial (by kernel_rfl) ?_
    exact J_ret0 (fn := Try.f10) (rs := [.tmp 4]) (ds := [.sc (.bool false)]) (ds' := [.sc (.bool false)]) (.inr ⟨_, _, rfl, by kernel_rfl⟩) (by kernel_rfl) (by kernel_rfl) (by kernel_rfl) (.cons (.cell (.keep rfl (.nil))) (.nil) (by decide)) rfl rfl
  · refine J_lit (t := 9) (b := (a1.Code != a2.Code)) false rfl h3 ?_
    refine J_ctl 2 [.c 7] (by kernel_rfl) ?_
    refine J_ctl 2 [.c 28, .c 29, .c 15] (by kernel_rfl) ?_
    refine J_run [] [] [(14, .sc (.bool (a1.Value != a2.Value)))] [] (by kernel_rfl) trivial (by kernel_rfl) ?_
    refine J_ite (fun h4 => ?_) (fun h4 => ?_)
    · refine J_lit (t := 14) (b := (a1.Value != a2.Value)) true rfl h4 ?_
      refine J_ctl 2 [.c 116, .c 117, .c 15] (by kernel_rfl) ?_
      refine J_run [] [] [(4, .sc (.bool false))] [] (by kernel_rfl) trivial (by kernel_rfl) ?_
      exact J_ret0 (fn := Try.f10) (rs := [.tmp 4]) (ds := [.sc (.bool false)]) (ds' := [.sc (.bool false)]) (.inr ⟨_, _, rfl, by kernel_rfl⟩) (by kernel_rfl) (by kernel_rfl) (by kernel_rfl) (.cons (.cell (.keep rfl (.nil))) (.nil) (by decide)) rfl rfl
    · refine J_lit (t := 14) (b := (a1.Value != a2.Value)) false rfl h4 ?_
      refine J_ctl 2 [.c 15] (by kernel_rfl) ?_
      refine J_ctl 1 [.c 30, .c 31] (by kernel_rfl) ?_
      refine J_run [] [] [(4, .sc (.bool true))] [] (by kernel_rfl) trivial (by kernel_rfl) ?_
      exact J_ret0 (fn := Try.f10) (rs := [.tmp 4]) (ds := [.sc (.bool true)]) (ds' := [.sc (.bool true)]) (.inr ⟨_, _, rfl, by kernel_rfl⟩) (by kernel_rfl) (by kernel_rfl) (by kernel_rfl) (.cons (.cell (.keep rfl (.nil))) (.nil) (by decide)) rfl rfl

noncomputable def c46 : Code := (Try.f46.body).getD .skip

theorem laws_eqByteS_l1.ok (a1 : (List Int)) (a2 : (List Int)) (w0 : World) (N0 : Nat → Prop) (O0 : List Nat) (β0 : Nat → Im.Loc) (kn : Unit → Option (D × List Ent)) (hk : ∀ v : Unit, J ⟨Try.prog, 46, w0, N0, O0, 0, β0, 26⟩ c46 [.c 15] (St.mk' [] []) (some v) kn) :
    ∀ s10 : Int, J ⟨Try.prog, 46, w0, N0, O0, 0, β0, 26⟩ c46 [.c 116, .l 116, .b 0, .c 15] (St.mk' [(0, .s false 1 a1.length (a1.map eU8)), (1, .s false 1 a2.length (a2.map eU8)), (5, .sc (.int .i64 s10))] []) (laws_eqByteS_l1 a1 a2 s10) (Fl.go (fun r : Bool => some (.sc (.bool r), [])) kn) := by
  refine J_lp (σ := fun s10 : Int => St.mk' [(0, .s false 1 a1.length (a1.map eU8)), (1, .s false 1 a2.length (a2.map eU8)), (5, .sc (.int .i64 s10))] []) (fun g ih s10 => ?_)
  unfold laws_eqByteS_l1b
  refine J_ctl 2 [.c 464, .c 465, .c 233, .l 116, .b 0, .c 15] (by kernel_rfl) ?_
  refine J_run [] [] [(0, .s false 1 a1.length (a1.map eU8)), (1, .s false 1 a2.length (a2.map eU8)), (5, .sc (.int .i64 s10)), (14, .sc (.bool (decide (s10 < (a1.length : Int)))))] [] (by kernel_rfl) trivial (by kernel_rfl) ?_
  refine J_ite (fun h11 => ?_) (fun h11 => ?_)
  · refine J_lit (t := 14) (b := (decide (s10 < (a1.length : Int)))) true rfl h11 ?_
    refine J_ctl 2 [.c 233, .l 116, .b 0, .c 15] (by kernel_rfl) ?_
    refine J_ctl 3 [.c 1864, .c 1865, .b 1, .c 467, .l 116, .b 0, .c 15] (by kernel_rfl) ?_
    refine J_bind (fun x12 h13 => ?_)
    refine J_bind (fun x14 h15 => ?_)
    refine J_run [(2, { tn := [(17, .s false 1 a1.length (a1.map eU8)), (18, .sc (.int .i64 s10))], out := some (.ps (eU8 x12)) }), (6, { tn := [(21, .s false 1 a2.length (a2.map eU8)), (22, .sc (.int .i64 s10))], out := some (.ps (eU8 x14)) })] [] [(0, .s false 1 a1.length (a1.map eU8)), (1, .s false 1 a2.length (a2.map eU8)), (5, .sc (.int .i64 s10)), (25, .sc (.bool (x12 != x14)))] [] (by kernel_rfl) ⟨orc1 (op := .indexAddr 46 (.tmp 17) (.tmp 18)) (by kernel_rfl) fun ops o hop hg => o_index (el := 5) (enc := eU8) h13 hg hop rfl (.head _) (.tail _ (.head _)) (by kernel_rfl) (by kernel_rfl), orc1 (op := .indexAddr 46 (.tmp 21) (.tmp 22)) (by kernel_rfl) fun ops o hop hg => o_index (el := 5) (enc := eU8) h15 hg hop rfl (.head _) (.tail _ (.head _)) (by kernel_rfl) (by kernel_rfl), trivial⟩ (by kernel_rfl) ?_
    refine J_ite (fun h16 => ?_) (fun h16 => ?_)
    · refine J_lit (t := 25) (b := (x12 != x14)) true rfl h16 ?_
      refine J_ctl 2 [.c 7460, .c 7461, .b 1, .c 467, .l 116, .b 0, .c 15] (by kernel_rfl) ?_
      refine J_run [] [] [(4, .sc (.bool false))] [] (by kernel_rfl) trivial (by kernel_rfl) ?_
      exact J_ret0 (fn := Try.f46) (rs := [.tmp 4]) (ds := [.sc (.bool false)]) (ds' := [.sc (.bool false)]) (.inr ⟨_, _, rfl, by kernel_rfl⟩) (by kernel_rfl) (by kernel_rfl) (by kernel_rfl) (.cons (.cell (.keep rfl (.nil))) (.nil) (by decide)) rfl rfl
    · refine J_lit (t := 25) (b := (x12 != x14)) false rfl h16 ?_
      refine J_ctl 2 [.b 1, .c 467, .l 116, .b 0, .c 15] (by kernel_rfl) ?_
      refine J_ctl 1 [.c 467, .l 116, .b 0, .c 15] (by kernel_rfl) ?_
      refine J_run [] [] [(0, .s false 1 a1.length (a1.map eU8)), (1, .s false 1 a2.length (a2.map eU8)), (5, .sc (.int .i64 (w64 (s10 + 1))))] [] (by kernel_rfl) trivial (by kernel_rfl) ?_
      refine J_ctl 1 [.c 116, .l 116, .b 0, .c 15] (by kernel_rfl) ?_
      refine J_wk [(0, .s false 1 a1.length (a1.map eU8)), (1, .s false 1 a2.length (a2.map eU8)), (5, .sc (.int .i64 (w64 (s10 + 1))))] [] (by kernel_rfl) ?_
      exact J_q (J_bk (ih (w64 (s10 + 1)))) rfl
  · refine J_lit (t := 14) (b := (decide (s10 < (a1.length : Int)))) false rfl h11 ?_
    refine J_ctl 2 [.c 15] (by kernel_rfl) ?_
    refine J_wk [] [] (by kernel_rfl) ?_
    exact J_q (hk ()) rfl

theorem laws_eqByteS.ok (a1 : (List Int)) (a2 : (List Int)) : Ok Try.prog 46 [.s false 1 a1.length (a1.map eU8), .s false 1 a2.length (a2.map eU8)] [] ((laws_eqByteS a1 a2).map fun r => (.sc (.bool r), [])) := by
  refine Ok_of2 (fc := c46) (fn := Try.f46) (nt := 26) (by kernel_rfl) (by kernel_rfl) (by kernel_rfl) (by simp) ?_
  intro w0 N0 O0 β0
  unfold laws_eqByteS
  refine J_ctl 1 [.c 2, .c 3] (by kernel_rfl) ?_
  refine J_run [] [] [(0, .s false 1 a1.length (a1.map eU8)), (1, .s false 1 a2.length (a2.map eU8))] [] (by kernel_rfl) trivial (by kernel_rfl) ?_
  refine J_ctl 2 [.c 12, .c 13, .c 7] (by kernel_rfl) ?_
  refine J_run [] [] [(0, .s false 1 a1.length (a1.map eU8)), (1, .s false 1 a2.length (a2.map eU8)), (10, .sc (.bool ((a1.length : Int) != (a2.length : Int))))] [] (by kernel_rfl) trivial (by kernel_rfl) ?_
  refine J_ite (fun h3 => ?_) (fun h3 => ?_)
  · refine J_lit (t := 10) (b := ((a1.length : Int) != (a2.length : Int))) true rfl h3 ?_
    refine J_ctl 2 [.c 52, .c 53, .c 7] (by kernel_rfl) ?_
    refine J_run [] [] [(4, .sc (.bool false))] [] (by kernel_rfl) trivial (by kernel_rfl) ?_
    exact J_ret0 (fn := Try.f46) (rs := [.tmp 4]) (ds := [.sc (.bool false)]) (ds' := [.sc (.bool false)]) (.inr ⟨_, _, rfl, by kernel_rfl⟩) (by kernel_rfl) (by kernel_rfl) (by kernel_rfl) (.cons (.cell (.keep rfl (.nil))) (.nil) (by decide)) rfl rfl
  · refine J_lit (t := 10) (b := ((a1.length : Int) != (a2.length : Int))) false rfl h3 ?_
    refine J_ctl 2 [.c 7] (by kernel_rfl) ?_
    refine J_ctl 2 [.c 28, .c 29, .c 15] (by kernel_rfl) ?_
    refine J_run [] [] [(0, .s false 1 a1.length (a1.map eU8)), (1, .s false 1 a2.length (a2.map eU8)), (5, .sc (.int .i64 0))] [] (by kernel_rfl) trivial (by kernel_rfl) ?_
    refine J_ctl 1 [.c 58, .b 0, .c 15] (by kernel_rfl) ?_
    refine J_ctl 1 [.c 116, .l 116, .b 0, .c 15] (by kernel_rfl) ?_
    refine J_wk [(0, .s false 1 a1.length (a1.map eU8)), (1, .s false 1 a2.length (a2.map eU8)), (5, .sc (.int .i64 0))] [] (by kernel_rfl) ?_
    refine J_loop (K0 := (fun r : Bool => some (.sc (.bool r), []))) (fun _ => rfl) ?_
    refine laws_eqByteS_l1.ok a1 a2 w0 N0 O0 β0 _ (fun v17 => J_j ?_) 0
    refine J_ctl 1 [.c 30, .c 31] (by kernel_rfl) ?_
    refine J_run [] [] [(4, .sc (.bool true))] [] (by kernel_rfl) trivial (by kernel_rfl) ?_
    exact J_ret0 (fn := Try.f46) (rs := [.tmp 4]) (ds := [.sc (.bool true)]) (ds' := [.sc (.bool true)]) (.inr ⟨_, _, rfl, by kernel_rfl⟩) (by kernel_rfl) (by kernel_rfl) (by kernel_rfl) (.cons (.cell (.keep rfl (.nil))) (.nil) (by decide)) rfl rfl

noncomputable def c33 : Code := (Try.f33.body).getD .skip

theorem laws_eqFile.ok (a1 : File) (a2 : File) : Ok Try.prog 33 [.ag [.sc (.string a1.Path), .s false 1 a1.Data.length (a1.Data.map eU8)], .ag [.sc (.string a2.Path), .s false 1 a2.Data.length (a2.Data.map eU8)]] [] ((laws_eqFile a1 a2).map fun r => (.sc (.bool r), [])) := by
  refine Ok_of2 (fc := c33) (fn := Try.f33) (nt := 16) (by kernel_rfl) (by kernel_rfl) (by kernel_rfl) (by simp) ?_
  intro w0 N0 O0 β0
  unfold laws_eqFile
  refine J_ctl 1 [.c 2, .c 3] (by kernel_rfl) ?_
  refine J_run [] [(0, 0), (1, 1)] [(2, .pt 0 0 0), (3, .pt 1 0 0)] [(0, .box [.sc (.string a1.Path), .s false 1 a1.Data.length (a1.Data.map eU8)]), (1, .box [.sc (.string a2.Path), .s false 1 a2.Data.length (a2.Data.map eU8)])] (by kernel_rfl) trivial (by kernel_rfl) ?_
  refine J_ctl 2 [.c 12, .c 13, .c 7] (by kernel_rfl) ?_
  refine J_run [] [] [(2, .pt 0 0 0), (3, .pt 1 0 0), (9, .sc (.bool (!(seq a1.Path a2.Path))))] [(0, .box [.sc (.string a1.Path), .s false 1 a1.Data.length (a1.Data.map eU8)]), (1, .box [.sc (.string a2.Path), .s false 1 a2.Data.length (a2.Data.map eU8)])] (by kernel_rfl) trivial (by kernel_rfl) ?_
  refine J_ite (fun h3 => ?_) (fun h3 => ?_)
  · refine J_lit (t := 9) (b := (!(seq a1.Path a2.Path))) true rfl h3 ?_
    refine J_ctl 2 [.c 52, .c 53, .c 7] (by kernel_rfl) ?_
    refine J_run [] [] [(4, .sc (.bool false))] [] (by kernel_rfl) trivial (by kernel_rfl) ?_
    exact J_ret0 (fn := Try.f33) (rs := [.tmp 4]) (ds := [.sc (.bool false)]) (ds' := [.sc (.bool false)]) (.inr ⟨_, _, rfl, by kernel_rfl⟩) (by kernel_rfl) (by kernel_rfl) (by kernel_rfl) (.cons (.cell (.keep rfl (.nil))) (.nil) (by decide)) rfl rfl
  · refine J_lit (t := 9) (b := (!(seq a1.Path a2.Path))) false rfl h3 ?_
    refine J_ctl 2 [.c 7] (by kernel_rfl) ?_
    refine J_ctl 2 [.c 28, .c 29, .c 15] (by kernel_rfl) ?_
    refine J_bind (fun x4 h5 => ?_)
    refine J_run [(4, { tn := [(11, .s false 1 a1.Data.length (a1.Data.map eU8)), (13, .s false 1 a2.Data.length (a2.Data.map eU8))], out := some (.sc (.bool x4)) })] [] [(15, .sc (.bool (!x4)))] [] (by kernel_rfl) ⟨orc1 (op := .call { callee := .value (.func 46), args := #[(.tmp 11), (.tmp 13)], argTypes := #[46, 46] }) (by kernel_rfl) fun ops o hop hg => v_call («as» := [.s false 1 a1.Data.length (a1.Data.map eU8), .s false 1 a2.Data.length (a2.Data.map eU8)]) (bor := false) (ids := []) (hin := []) (hout := []) (news := []) hg hop (fun _ => by kernel_rfl) rfl (fun k d hk => match k, hk with | 0, rfl => ⟨(.tmp 11), rfl, (.head _)⟩ | 1, rfl => ⟨(.tmp 13), rfl, (.tail _ (.head _))⟩ | (n + 2), hk => by simp at hk) (.cons (.same rfl) (.cons (.same rfl) (.nil))) (nodupK_spec rfl) rfl (by simp) (menAll rfl) (laws_eqByteS.ok a1.Data a2.Data) (by rw [h5]; rfl) (Nat.le_of_ble_eq_true rfl) (.same rfl rfl) (nodupK_spec rfl) rfl (le_all rfl) (by simp), trivial⟩ (by kernel_rfl) ?_
    refine J_ite (fun h6 => ?_) (fun h6 => ?_)
    · refine J_lit (t := 15) (b := (!x4)) true rfl h6 ?_
      refine J_ctl 2 [.c 116, .c 117, .c 15] (by kernel_rfl) ?_
      refine J_run [] [] [(4, .sc (.bool false))] [] (by kernel_rfl) trivial (by kernel_rfl) ?_
      exact J_ret0 (fn := Try.f33) (rs := [.tmp 4]) (ds := [.sc (.bool false)]) (ds' := [.sc (.bool false)]) (.inr ⟨_, _, rfl, by kernel_rfl⟩) (by kernel_rfl) (by kernel_rfl) (by kernel_rfl) (.cons (.cell (.keep rfl (.nil))) (.nil) (by decide)) rfl rfl
    · refine J_lit (t := 15) (b := (!x4)) false rfl h6 ?_
      refine J_ctl 2 [.c 15] (by kernel_rfl) ?_
      refine J_ctl 1 [.c 30, .c 31] (by kernel_rfl) ?_
      refine J_run [] [] [(4, .sc (.bool true))] [] (by kernel_rfl) trivial (by kernel_rfl) ?_
      exact J_ret0 (fn := Try.f33) (rs := [.tmp 4]) (ds := [.sc (.bool true)]) (ds' := [.sc (.bool true)]) (.inr ⟨_, _, rfl, by kernel_rfl⟩) (by kernel_rfl) (by kernel_rfl) (by kernel_rfl) (.cons (.cell (.keep rfl (.nil))) (.nil) (by decide)) rfl rfl

noncomputable def c22 : Code := (Try.f22.body).getD .skip

theorem laws_eqFileS_l1.ok (a1 : (List File)) (a2 : (List File)) (w0 : World) (N0 : Nat → Prop) (O0 : List Nat) (β0 : Nat → Im.Loc) (kn : Unit → Option (D × List Ent)) (hk : ∀ v : Unit, J ⟨Try.prog, 22, w0, N0, O0, 0, β0, 27⟩ c22 [.c 15] (St.mk' [] []) (some v) kn) :
    ∀ s12 : Int, J ⟨Try.prog, 22, w0, N0, O0, 0, β0, 27⟩ c22 [.c 116, .l 116, .b 0, .c 15] (St.mk' [(0, .s false 2 a1.length (a1.map (File.enc false))), (1, .s false 2 a2.length (a2.map (File.enc false))), (5, .sc (.int .i64 s12))] []) (laws_eqFileS_l1 a1 a2 s12) (Fl.go (fun r : Bool => some (.sc (.bool r), [])) kn) := by
  refine J_lp (σ := fun s12 : Int => St.mk' [(0, .s false 2 a1.length (a1.map (File.enc false))), (1, .s false 2 a2.length (a2.map (File.enc false))), (5, .sc (.int .i64 s12))] []) (fun g ih s12 => ?_)
  unfold laws_eqFileS_l1b
  refine J_ctl 2 [.c 464, .c 465, .c 233, .l 116, .b 0, .c 15] (by kernel_rfl) ?_
  refine J_run [] [] [(0, .s false 2 a1.length (a1.map (File.enc false))), (1, .s false 2 a2.length (a2.map (File.enc false))), (5, .sc (.int .i64 s12)), (14, .sc (.bool (decide (s12 < (a1.length : Int)))))] [] (by kernel_rfl) trivial (by kernel_rfl) ?_
  refine J_ite (fun h13 => ?_) (fun h13 => ?_)
  · refine J_lit (t := 14) (b := (decide (s12 < (a1.length : Int)))) true rfl h13 ?_
    refine J_ctl 2 [.c 233, .l 116, .b 0, .c 15] (by kernel_rfl) ?_
    refine J_ctl 3 [.c 1864, .c 1865, .b 1, .c 467, .l 116, .b 0, .c 15] (by kernel_rfl) ?_
    refine J_bind (fun x14 h15 => ?_)
    refine J_bind (fun x16 h17 => ?_)
    refine J_bind (fun x18 h19 => ?_)
    refine J_run [(2, { tn := [(17, .s false 2 a1.length (a1.map (File.enc false))), (18, .sc (.int .i64 s12))], out := some (.ps ((File.enc false) x14)) }), (6, { tn := [(21, .s false 2 a2.length (a2.map (File.enc false))), (22, .sc (.int .i64 s12))], out := some (.ps ((File.enc false) x16)) }), (8, { tn := [(20, .ag [.sc (.string x14.Path), .s false 1 x14.Data.length (x14.Data.map eU8)]), (24, .ag [.sc (.string x16.Path), .s false 1 x16.Data.length (x16.Data.map eU8)])], out := some (.sc (.bool x18)) })] [] [(0, .s false 2 a1.length (a1.map (File.enc false))), (1, .s false 2 a2.length (a2.map (File.enc false))), (5, .sc (.int .i64 s12)), (26, .sc (.bool (!x18)))] [] (by kernel_rfl) ⟨orc1 (op := .indexAddr 29 (.tmp 17) (.tmp 18)) (by kernel_rfl) fun ops o hop hg => o_index (el := 51) (enc := (File.enc false)) h15 hg hop rfl (.head _) (.tail _ (.head _)) (by kernel_rfl) (by kernel_rfl), orc1 (op := .indexAddr 29 (.tmp 21) (.tmp 22)) (by kernel_rfl) fun ops o hop hg => o_index (el := 51) (enc := (File.enc false)) h17 hg hop rfl (.head _) (.tail _ (.head _)) (by kernel_rfl) (by kernel_rfl), orc1 (op := .call { callee := .value (.func 33), args := #[(.tmp 20), (.tmp 24)], argTypes := #[51, 51] }) (by kernel_rfl) fun ops o hop hg => v_call («as» := [.ag [.sc (.string x14.Path), .s false 1 x14.Data.length (x14.Data.map eU8)], .ag [.sc (.string x16.Path), .s false 1 x16.Data.length (x16.Data.map eU8)]]) (bor := false) (ids := []) (hin := []) (hout := []) (news := []) hg hop (fun _ => by kernel_rfl) rfl (fun k d hk => match k, hk with | 0, rfl => ⟨(.tmp 20), rfl, (.head _)⟩ | 1, rfl => ⟨(.tmp 24), rfl, (.tail _ (.head _))⟩ | (n + 2), hk => by simp at hk) (.cons (.same rfl) (.cons (.same rfl) (.nil))) (nodupK_spec rfl) rfl (by simp) (menAll rfl) (laws_eqFile.ok x14 x16) (by rw [h19]; rfl) (Nat.le_of_ble_eq_true rfl) (.same rfl rfl) (nodupK_spec rfl) rfl (le_all rfl) (by simp), trivial⟩ (by kernel_rfl) ?_
    refine J_ite (fun h20 => ?_) (fun h20 => ?_)
    · refine J_lit (t := 26) (b := (!x18)) true rfl h20 ?_
      refine J_ctl 2 [.c 7460, .c 7461, .b 1, .c 467, .l 116, .b 0, .c 15] (by kernel_rfl) ?_
      refine J_run [] [] [(4, .sc (.bool false))] [] (by kernel_rfl) trivial (by kernel_rfl) ?_
      exact J_ret0 (fn := Try.f22) (rs := [.tmp 4]) (ds := [.sc (.bool false)]) (ds' := [.sc (.bool false)]) (.inr ⟨_, _, rfl, by kernel_rfl⟩) (by kernel_rfl) (by kernel_rfl) (by kernel_rfl) (.cons (.cell (.keep rfl (.nil))) (.nil) (by decide)) rfl rfl
    · refine J_lit (t := 26) (b := (!x18)) false rfl h20 ?_
      refine J_ctl 2 [.b 1, .c 467, .l 116, .b 0, .c 15] (by kernel_rfl) ?_
      refine J_ctl 1 [.c 467, .l 116, .b 0, .c 15] (by kernel_rfl) ?_
      refine J_run [] [] [(0, .s false 2 a1.length (a1.map (File.enc false))), (1, .s false 2 a2.length (a2.map (File.enc false))), (5, .sc (.int .i64 (w64 (s12 + 1))))] [] (by kernel_rfl) trivial (by kernel_rfl) ?_
      refine J_ctl 1 [.c 116, .l 116, .b 0, .c 15] (by kernel_rfl) ?_
      refine J_wk [(0, .s false 2 a1.length (a1.map (File.enc false))), (1, .s false 2 a2.length (a2.map (File.enc false))), (5, .sc (.int .i64 (w64 (s12 + 1))))] [] (by kernel_rfl) ?_
      exact J_q (J_bk (ih (w64 (s12 + 1)))) rfl
  · refine J_lit (t := 14) (b := (decide (s12 < (a1.length : Int)))) false rfl h13 ?_
    refine J_ctl 2 [.c 15] (by kernel_rfl) ?_
    refine J_wk [] [] (by kernel_rfl) ?_
    exact J_q (hk ()) rfl

theorem laws_eqFileS.ok (a1 : (List File)) (a2 : (List File)) : Ok Try.prog 22 [.s false 2 a1.length (a1.map (File.enc false)), .s false 2 a2.length (a2.map (File.enc false))] [] ((laws_eqFileS a1 a2).map fun r => (.sc (.bool r), [])) := by
  refine Ok_of2 (fc := c22) (fn := Try.f22) (nt := 27) (by kernel_rfl) (by kernel_rfl) (by kernel_rfl) (by simp) ?_
  intro w0 N0 O0 β0
  unfold laws_eqFileS
  refine J_ctl 1 [.c 2, .c 3] (by kernel_rfl) ?_
  refine J_run [] [] [(0, .s false 2 a1.length (a1.map (File.enc false))), (1, .s false 2 a2.length (a2.map (File.enc false)))] [] (by kernel_rfl) trivial (by kernel_rfl) ?_
  refine J_ctl 2 [.c 12, .c 13, .c 7] (by kernel_rfl) ?_
  refine J_run [] [] [(0, .s false 2 a1.length (a1.map (File.enc false))), (1, .s false 2 a2.length (a2.map (File.enc false))), (10, .sc (.bool ((a1.length : Int) != (a2.length : Int))))] [] (by kernel_rfl) trivial (by kernel_rfl) ?_
  refine J_ite (fun h3 => ?_) (fun h3 => ?_)
  · refine J_lit (t := 10) (b := ((a1.length : Int) != (a2.length : Int))) true rfl h3 ?_
    refine J_ctl 2 [.c 52, .c 53, .c 7] (by kernel_rfl) ?_
    refine J_run [] [] [(4, .sc (.bool false))] [] (by kernel_rfl) trivial (by kernel_rfl) ?_
    exact J_ret0 (fn := Try.f22) (rs := [.tmp 4]) (ds := [.sc (.bool false)]) (ds' := [.sc (.bool false)]) (.inr ⟨_, _, rfl, by kernel_rfl⟩) (by kernel_rfl) (by kernel_rfl) (by kernel_rfl) (.cons (.cell (.keep rfl (.nil))) (.nil) (by decide)) rfl rfl
  · refine J_lit (t := 10) (b := ((a1.length : Int) != (a2.length : Int))) false rfl h3 ?_
    refine J_ctl 2 [.c 7] (by kernel_rfl) ?_
    refine J_ctl 2 [.c 28, .c 29, .c 15] (by kernel_rfl) ?_
    refine J_run [] [] [(0, .s false 2 a1.length (a1.map (File.enc false))), (1, .s false 2 a2.length (a2.map (File.enc false))), (5, .sc (.int .i64 0))] [] (by kernel_rfl) trivial (by kernel_rfl) ?_
    refine J_ctl 1 [.c 58, .b 0, .c 15] (by kernel_rfl) ?_
    refine J_ctl 1 [.c 116, .l 116, .b 0, .c 15] (by kernel_rfl) ?_
    refine J_wk [(0, .s false 2 a1.length (a1.map (File.enc false))), (1, .s false 2 a2.length (a2.map (File.enc false))), (5, .sc (.int .i64 0))] [] (by kernel_rfl) ?_
    refine J_loop (K0 := (fun r : Bool => some (.sc (.bool r), []))) (fun _ => rfl) ?_
    refine laws_eqFileS_l1.ok a1 a2 w0 N0 O0 β0 _ (fun v21 => J_j ?_) 0
    refine J_ctl 1 [.c 30, .c 31] (by kernel_rfl) ?_
    refine J_run [] [] [(4, .sc (.bool true))] [] (by kernel_rfl) trivial (by kernel_rfl) ?_
    exact J_ret0 (fn := Try.f22) (rs := [.tmp 4]) (ds := [.sc (.bool true)]) (ds' := [.sc (.bool true)]) (.inr ⟨_, _, rfl, by kernel_rfl⟩) (by kernel_rfl) (by kernel_rfl) (by kernel_rfl) (.cons (.cell (.keep rfl (.nil))) (.nil) (by decide)) rfl rfl

noncomputable def c11 : Code := (Try.f11.body).getD .skip

theorem laws_eqDisk.ok (a1 : Disk) (a2 : Disk) : Ok Try.prog 11 [.ag [.s false 2 a1.Files.length (a1.Files.map (File.enc false)), .sc (.int .i64 a1.Budget), .sc (.int .i64 a1.Writes), .sc (.int .i64 a1.Stop), .sc (.bool a1.Down)], .ag [.s false 2 a2.Files.length (a2.Files.map (File.enc false)), .sc (.int .i64 a2.Budget), .sc (.int .i64 a2.Writes), .sc (.int .i64 a2.Stop), .sc (.bool a2.Down)]] [] ((laws_eqDisk a1 a2).map fun r => (.sc (.bool r), [])) := by
  refine Ok_of2 (fc := c11) (fn := Try.f11) (nt := 31) (by kernel_rfl) (by kernel_rfl) (by kernel_rfl) (by simp) ?_
  intro w0 N0 O0 β0
  unfold laws_eqDisk
  refine J_ctl 1 [.c 2, .c 3] (by kernel_rfl) ?_
  refine J_run [] [(0, 0), (1, 1)] [(2, .pt 0 0 0), (3, .pt 1 0 0)] [(0, .box [.s false 2 a1.Files.length (a1.Files.map (File.enc false)), .sc (.int .i64 a1.Budget), .sc (.int .i64 a1.Writes), .sc (.int .i64 a1.Stop), .sc (.bool a1.Down)]), (1, .box [.s false 2 a2.Files.length (a2.Files.map (File.enc false)), .sc (.int .i64 a2.Budget), .sc (.int .i64 a2.Writes), .sc (.int .i64 a2.Stop), .sc (.bool a2.Down)])] (by kernel_rfl) trivial (by kernel_rfl) ?_
  refine J_ctl 2 [.c 12, .c 13, .c 7] (by kernel_rfl) ?_
  refine J_bind (fun x3 h4 => ?_)
  refine J_run [(4, { tn := [(6, .s false 2 a1.Files.length (a1.Files.map (File.enc false))), (8, .s false 2 a2.Files.length (a2.Files.map (File.enc false)))], out := some (.sc (.bool x3)) })] [] [(2, .pt 0 0 0), (3, .pt 1 0 0), (10, .sc (.bool (!x3)))] [(0, .box [.s false 2 a1.Files.length (a1.Files.map (File.enc false)), .sc (.int .i64 a1.Budget), .sc (.int .i64 a1.Writes), .sc (.int .i64 a1.Stop), .sc (.bool a1.Down)]), (1, .box [.s false 2 a2.Files.length (a2.Files.map (File.enc false)), .sc (.int .i64 a2.Budget), .sc (.int .i64 a2.Writes), .sc (.int .i64 a2.Stop), .sc (.bool a2.Down)])] (by kernel_rfl) ⟨orc1 (op := .call { callee := .value (.func 22), args := #[(.tmp 6), (.tmp 8)], argTypes := #[29, 29] }) (by kernel_rfl) fun ops o hop hg => v_call («as» := [.s false 2 a1.Files.length (a1.Files.map (File.enc false)), .s false 2 a2.Files.length (a2.Files.map (File.enc false))]) (bor := false) (ids := []) (hin := []) (hout := []) (news := []) hg hop (fun _ => by kernel_rfl) rfl (fun k d hk => match k, hk with | 0, rfl => ⟨(.tmp 6), rfl, (.head _)⟩ | 1, rfl => ⟨(.tmp 8), rfl, (.tail _ (.head _))⟩ | (n + 2), hk => by simp at hk) (.cons (.same rfl) (.cons (.same rfl) (.nil))) (nodupK_spec rfl) rfl (by simp) (menAll rfl) (laws_eqFileS.ok a1.Files a2.Files) (by rw [h4]; rfl) (Nat.le_of_ble_eq_true rfl) (.same rfl rfl) (nodupK_spec rfl) rfl (le_all rfl) (by simp), trivial⟩ (by kernel_rfl) ?_
  refine J_ite (fun h5 => ?_) (fun h5 => ?_)
  · refine J_lit (t := 10) (b := (!x3)) true rfl h5 ?_
    refine J_ctl 2 [.c 52, .c 53, .c 7] (by kernel_rfl) ?_
    refine J_run [] [] [(4, .sc (.bool false))] [] (by kernel_rfl) trivial (by kernel_rfl) ?_
    exact J_ret0 (fn := Try.f11) (rs := [.tmp 4]) (ds := [.sc (.bool false)]) (ds' := [.sc (.bool false)]) (.inr ⟨_, _, rfl, by kernel_rfl⟩) (by kernel_rfl) (by kernel_rfl) (by kernel_rfl) (.cons (.cell (.keep rfl (.nil))) (.nil) (by decide)) rfl rfl
  · refine J_lit (t := 10) (b := (!x3)) false rfl h5 ?_
    refine J_ctl 2 [.c 7] (by kernel_rfl) ?_
    refine J_ctl 2 [.c 28, .c 29, .c 15] (by kernel_rfl) ?_
    refine J_run [] [] [(2, .pt 0 0 0), (3, .pt 1 0 0), (15, .sc (.bool (a1.Budget != a2.Budget)))] [(0, .box [.s false 2 a1.Files.length (a1.Files.map (File.enc false)), .sc (.int .i64 a1.Budget), .sc (.int .i64 a1.Writes), .sc (.int .i64 a1.Stop), .sc (.bool a1.Down)]), (1, .box [.s false 2 a2.Files.length (a2.Files.map (File.enc false)), .sc (.int .i64 a2.Budget), .sc (.int .i64 a2.Writes), .sc (.int .i64 a2.Stop), .sc (.bool a2.Down)])] (by kernel_rfl) trivial (by kernel_rfl) ?_
    refine J_ite (fun h6 => ?_) (fun h6 => ?_)
    · refine J_lit (t := 15) (b := (a1.Budget != a2.Budget)) true rfl h6 ?_
      refine J_ctl 2 [.c 116, .c 117, .c 15] (by kernel_rfl) ?_
      refine J_run [] [] [(4, .sc (.bool false))] [] (by kernel_rfl) trivial (by kernel_rfl) ?_
      exact J_ret0 (fn := Try.f11) (rs := [.tmp 4]) (ds := [.sc (.bool false)]) (ds' := [.sc (.bool false)]) (.inr ⟨_, _, rfl, by kernel_rfl⟩) (by kernel_rfl) (by kernel_rfl) (by kernel_rfl) (.cons (.cell (.keep rfl (.nil))) (.nil) (by decide)) rfl rfl
    · refine J_lit (t := 15) (b := (a1.Budget != a2.Budget)) false rfl h6 ?_
      refine J_ctl 2 [.c 15] (by kernel_rfl) ?_
      refine J_ctl 2 [.c 60, .c 61, .c 31] (by kernel_rfl) ?_
      refine J_run [] [] [(2, .pt 0 0 0), (3, .pt 1 0 0), (20, .sc (.bool (a1.Writes != a2.Writes)))] [(0, .box [.s false 2 a1.Files.length (a1.Files.map (File.enc false)), .sc (.int .i64 a1.Budget), .sc (.int .i64 a1.Writes), .sc (.int .i64 a1.Stop), .sc (.bool a1.Down)]), (1, .box [.s false 2 a2.Files.length (a2.Files.map (File.enc false)), .sc (.int .i64 a2.Budget), .sc (.int .i64 a2.Writes), .sc (.int .i64 a2.Stop), .sc (.bool a2.Down)])] (by kernel_rfl) trivial (by kernel_rfl) ?_
      refine J_ite (fun h7 => ?_) (fun h7 => ?_)
      · refine J_lit (t := 20) (b := (a1.Writes != a2.Writes)) true rfl h7 ?_
        refine J_ctl 2 [.c 244, .c 245, .c 31] (by kernel_rfl) ?_
        refine J_run [] [] [(4, .sc (.bool false))] [] (by kernel_rfl) trivial (by kernel_rfl) ?_
        exact J_ret0 (fn := Try.f11) (rs := [.tmp 4]) (ds := [.sc (.bool false)]) (ds' := [.sc (.bool false)]) (.inr ⟨_, _, rfl, by kernel_rfl⟩) (by kernel_rfl) (by kernel_rfl) (by kernel_rfl) (.cons (.cell (.keep rfl (.nil))) (.nil) (by decide)) rfl rfl
      · refine J_lit (t := 20) (b := (a1.Writes != a2.Writes)) false rfl h7 ?_
        refine J_ctl 2 [.c 31] (by kernel_rfl) ?_
        refine J_ctl 2 [.c 124, .c 125, .c 63] (by kernel_rfl) ?_
        refine J_run [] [] [(2, .pt 0 0 0), (3, .pt 1 0 0), (25, .sc (.bool (a1.Stop != a2.Stop)))] [(0, .box [.s false 2 a1.Files.length (a1.Files.map (File.enc false)), .sc (.int .i64 a1.Budget), .sc (.int .i64 a1.Writes), .sc (.int .i64 a1.Stop), .sc (.bool a1.Down)]), (1, .box [.s false 2 a2.Files.length (a2.Files.map (File.enc false)), .sc (.int .i64 a2.Budget), .sc (.int .i64 a2.Writes), .sc (.int .i64 a2.Stop), .sc (.bool a2.Down)])] (by kernel_rfl) trivial (by kernel_rfl) ?_
        refine J_ite (fun h8 => ?_) (fun h8 => ?_)
        · refine J_lit (t := 25) (b := (a1.Stop != a2.Stop)) true rfl h8 ?_
          refine J_ctl 2 [.c 500, .c 501, .c 63] (by kernel_rfl) ?_
          refine J_run [] [] [(4, .sc (.bool false))] [] (by kernel_rfl) trivial (by kernel_rfl) ?_
          exact J_ret0 (fn := Try.f11) (rs := [.tmp 4]) (ds := [.sc (.bool false)]) (ds' := [.sc (.bool false)]) (.inr ⟨_, _, rfl, by kernel_rfl⟩) (by kernel_rfl) (by kernel_rfl) (by kernel_rfl) (.cons (.cell (.keep rfl (.nil))) (.nil) (by decide)) rfl rfl
        · refine J_lit (t := 25) (b := (a1.Stop != a2.Stop)) false rfl h8 ?_
          refine J_ctl 2 [.c 63] (by kernel_rfl) ?_
          refine J_ctl 2 [.c 252, .c 253, .c 127] (by kernel_rfl) ?_
          refine J_run [] [] [(30, .sc (.bool (!(a1.Down == a2.Down))))] [] (by kernel_rfl) trivial (by kernel_rfl) ?_
          refine J_ite (fun h9 => ?_) (fun h9 => ?_)
          · refine J_lit (t := 30) (b := (!(a1.Down == a2.Down))) true rfl h9 ?_
            refine J_ctl 2 [.c 1012, .c 1013, .c 127] (by kernel_rfl) ?_
            refine J_run [] [] [(4, .sc (.bool false))] [] (by kernel_rfl) trivial (by kernel_rfl) ?_
            exact J_ret0 (fn := Try.f11) (rs := [.tmp 4]) (ds := [.sc (.bool false)]) (ds' := [.sc (.bool false)]) (.inr ⟨_, _, rfl, by kernel_rfl⟩) (by kernel_rfl) (by kernel_rfl) (by kernel_rfl) (.cons (.cell (.keep rfl (.nil))) (.nil) (by decide)) rfl rfl
          · refine J_lit (t := 30) (b := (!(a1.Down == a2.Down))) false rfl h9 ?_
            refine J_ctl 2 [.c 127] (by kernel_rfl) ?_
            refine J_ctl 1 [.c 254, .c 255] (by kernel_rfl) ?_
            refine J_run [] [] [(4, .sc (.bool true))] [] (by kernel_rfl) trivial (by kernel_rfl) ?_
            exact J_ret0 (fn := Try.f11) (rs := [.tmp 4]) (ds := [.sc (.bool true)]) (ds' := [.sc (.bool true)]) (.inr ⟨_, _, rfl, by kernel_rfl⟩) (by kernel_rfl) (by kernel_rfl) (by kernel_rfl) (.cons (.cell (.keep rfl (.nil))) (.nil) (by decide)) rfl rfl

noncomputable def c3 : Code := (Try.f3.body).getD .skip

theorem laws_FnExactTotalOf.ok (a1 : Disk) : Ok Try.prog 3 [.ag [.s false 2 a1.Files.length (a1.Files.map (File.enc false)), .sc (.int .i64 a1.Budget), .sc (.int .i64 a1.Writes), .sc (.int .i64 a1.Stop), .sc (.bool a1.Down)]] [] ((laws_FnExactTotalOf a1).map fun r => (.sc (.bool r), [])) := by
  refine Ok_of2 (fc := c3) (fn := Try.f3) (nt := 28) (by kernel_rfl) (by kernel_rfl) (by kernel_rfl) (by simp) ?_
  intro w0 N0 O0 β0
  unfold laws_FnExactTotalOf
  refine J_ctl 1 [.c 2, .c 3] (by kernel_rfl) ?_
  refine J_run [] [(0, 0)] [(1, .pt 0 0 0)] [(0, .box [.s false 2 a1.Files.length (a1.Files.map (File.enc false)), .sc (.int .i64 a1.Budget), .sc (.int .i64 a1.Writes), .sc (.int .i64 a1.Stop), .sc (.bool a1.Down)])] (by kernel_rfl) trivial (by kernel_rfl) ?_
  refine J_ctl 1 [.c 6, .c 7] (by kernel_rfl) ?_
  refine J_run [] [] [(1, .pt 0 0 0), (3, .sc (.int .i64 1048576))] [(0, .box [.s false 2 a1.Files.length (a1.Files.map (File.enc false)), .sc (.int .i64 a1.Budget), .sc (.int .i64 a1.Writes), .sc (.int .i64 a1.Stop), .sc (.bool a1.Down)])] (by kernel_rfl) trivial (by kernel_rfl) ?_
  refine J_ctl 1 [.c 14, .c 15] (by kernel_rfl) ?_
  refine J_bind (fun x2 h3 => ?_)
  refine J_run [(2, { tn := [(7, .ag [.s false 2 a1.Files.length (a1.Files.map (File.enc false)), .sc (.int .i64 a1.Budget), .sc (.int .i64 a1.Writes), .sc (.int .i64 a1.Stop), .sc (.bool a1.Down)]), (8, .sc (.int .i64 1048576))], out := some (.sc (.int .i64 x2)) })] [] [(1, .pt 0 0 0), (3, .sc (.int .i64 x2))] [(0, .box [.s false 2 a1.Files.length (a1.Files.map (File.enc false)), .sc (.int .i64 a1.Budget), .sc (.int .i64 a1.Writes), .sc (.int .i64 a1.Stop), .sc (.bool a1.Down)])] (by kernel_rfl) ⟨orc1 (op := .call { callee := .value (.func 6), args := #[(.tmp 7), (.tmp 8)], argTypes := #[24, 3] }) (by kernel_rfl) fun ops o hop hg => v_call («as» := [.ag [.s false 2 a1.Files.length (a1.Files.map (File.enc false)), .sc (.int .i64 a1.Budget), .sc (.int .i64 a1.Writes), .sc (.int .i64 a1.Stop), .sc (.bool a1.Down)], .sc (.int .i64 1048576)]) (bor := false) (ids := []) (hin := []) (hout := []) (news := []) hg hop (fun _ => by kernel_rfl) rfl (fun k d hk => match k, hk with | 0, rfl => ⟨(.tmp 7), rfl, (.head _)⟩ | 1, rfl => ⟨(.tmp 8), rfl, (.tail _ (.head _))⟩ | (n + 2), hk => by simp at hk) (.cons (.same rfl) (.cons (.same rfl) (.nil))) (nodupK_spec rfl) rfl (by simp) (menAll rfl) (laws_szDisk.ok a1 1048576) (by rw [h3]; rfl) (Nat.le_of_ble_eq_true rfl) (.same rfl rfl) (nodupK_spec rfl) rfl (le_all rfl) (by simp), trivial⟩ (by kernel_rfl) ?_
  refine J_ctl 2 [.c 60, .c 61, .c 31] (by kernel_rfl) ?_
  refine J_run [] [] [(1, .pt 0 0 0), (11, .sc (.bool (decide (x2 < 0))))] [(0, .box [.s false 2 a1.Files.length (a1.Files.map (File.enc false)), .sc (.int .i64 a1.Budget), .sc (.int .i64 a1.Writes), .sc (.int .i64 a1.Stop), .sc (.bool a1.Down)])] (by kernel_rfl) trivial (by kernel_rfl) ?_
  refine J_ite (fun h4 => ?_) (fun h4 => ?_)
  · refine J_lit (t := 11) (b := (decide (x2 < 0))) true rfl h4 ?_
    refine J_ctl 2 [.c 244, .c 245, .c 31] (by kernel_rfl) ?_
    refine J_run [] [] [(2, .sc (.bool true))] [] (by kernel_rfl) trivial (by kernel_rfl) ?_
    exact J_ret0 (fn := Try.f3) (rs := [.tmp 2]) (ds := [.sc (.bool true)]) (ds' := [.sc (.bool true)]) (.inr ⟨_, _, rfl, by kernel_rfl⟩) (by kernel_rfl) (by kernel_rfl) (by kernel_rfl) (.cons (.cell (.keep rfl (.nil))) (.nil) (by decide)) rfl rfl
  · refine J_lit (t := 11) (b := (decide (x2 < 0))) false rfl h4 ?_
    refine J_ctl 2 [.c 31] (by kernel_rfl) ?_
    refine J_ctl 1 [.c 62, .c 63] (by kernel_rfl) ?_
    refine J_bind (fun x5 h6 => ?_)
    refine J_bind (fun x7 h8 => ?_)
    refine J_run [(1, { tn := [(12, .ag [.s false 2 a1.Files.length (a1.Files.map (File.enc false)), .sc (.int .i64 a1.Budget), .sc (.int .i64 a1.Writes), .sc (.int .i64 a1.Stop), .sc (.bool a1.Down)])], out := some (.ag [.rf 1 0 x5.Files.length none, .sc (.int .i64 x5.Budget), .sc (.int .i64 x5.Writes), .sc (.int .i64 x5.Stop), .sc (.bool x5.Down)]), hw := [(1, .row 2 (x5.Files.map (File.enc true)))], fr := [1] }), (2, { tn := [(13, .ag [.rf 1 0 x5.Files.length none, .sc (.int .i64 x5.Budget), .sc (.int .i64 x5.Writes), .sc (.int .i64 x5.Stop), .sc (.bool x5.Down)])], hn := [(1, .row 2 (x5.Files.map (File.enc true)))], out := some (.ag [.sc (.int .i64 x7.Code), .sc (.int .i64 x7.Value)]) })] [(3, 2)] [(1, .pt 0 0 0), (4, .pt 2 0 0)] [(0, .box [.s false 2 a1.Files.length (a1.Files.map (File.enc false)), .sc (.int .i64 a1.Budget), .sc (.int .i64 a1.Writes), .sc (.int .i64 a1.Stop), .sc (.bool a1.Down)]), (2, .box [.sc (.int .i64 x7.Code), .sc (.int .i64 x7.Value)])] (by kernel_rfl) ⟨orc1 (op := .call { callee := .value (.func 8), args := #[(.tmp 12)], argTypes := #[24] }) (by kernel_rfl) fun ops o hop hg => v_call («as» := [.ag [.s false 2 a1.Files.length (a1.Files.map (File.enc false)), .sc (.int .i64 a1.Budget), .sc (.int .i64 a1.Writes), .sc (.int .i64 a1.Stop), .sc (.bool a1.Down)]]) (bor := false) (ids := []) (hin := []) (hout := []) (news := [(1, .row 2 (x5.Files.map (File.enc true)))]) hg hop (fun _ => by kernel_rfl) rfl (fun k d hk => match k, hk with | 0, rfl => ⟨(.tmp 12), rfl, (.head _)⟩ | (n + 1), hk => by simp at hk) (.cons (.same rfl) (.nil)) (nodupK_spec rfl) rfl (by simp) (menAll rfl) (laws_toDisk.ok a1) (by rw [h6]; rfl) (Nat.le_of_ble_eq_true rfl) (.ag (.cons (.own 1) (.cons (.same rfl rfl) (.cons (.same rfl rfl) (.cons (.same rfl rfl) (.cons (.same rfl rfl) (.nil))))))) (nodupK_spec rfl) rfl (le_all rfl) (by simp), orc1 (op := .call { callee := .value (.func 7), args := #[(.tmp 13)], argTypes := #[31] }) (by kernel_rfl) fun ops o hop hg => v_call («as» := [.ag [.rf 1 0 x5.Files.length none, .sc (.int .i64 x5.Budget), .sc (.int .i64 x5.Writes), .sc (.int .i64 x5.Stop), .sc (.bool x5.Down)]]) (bor := true) (ids := []) (hin := []) (hout := []) (news := []) hg hop (fun _ => by kernel_rfl) rfl (fun k d hk => match k, hk with | 0, rfl => ⟨(.tmp 13), rfl, (.head _)⟩ | (n + 1), hk => by simp at hk) (.cons (.ag (.cons (.bor (.head _) (by simp) (by simp) (ro_map (File.ro true) _ rfl (by simp))) (.cons (.same rfl) (.cons (.same rfl) (.cons (.same rfl) (.cons (.same rfl) (.nil))))))) (.nil)) (nodupK_spec rfl) rfl (by simp) (menAll rfl) (spec_TotalOf.ok x5) (by rw [h8]; rfl) (Nat.le_of_ble_eq_true rfl) (.ag (.cons (.same rfl rfl) (.cons (.same rfl rfl) (.nil)))) (nodupK_spec rfl) rfl (le_all rfl) (fun _ => ⟨rfl, by repeat (first | trivial | constructor)⟩), trivial⟩ (by kernel_rfl) ?_
    refine J_ctl 1 [.c 126, .c 127] (by kernel_rfl) ?_
    refine J_bind (fun x9 h10 => ?_)
    refine J_run [(1, { tn := [(15, .ag [.s false 2 a1.Files.length (a1.Files.map (File.enc false)), .sc (.int .i64 a1.Budget), .sc (.int .i64 a1.Writes), .sc (.int .i64 a1.Stop), .sc (.bool a1.Down)])], out := some (.ag [.rf 3 0 x9.Files.length none, .sc (.int .i64 x9.Budget), .sc (.int .i64 x9.Writes), .sc (.int .i64 x9.Stop), .sc (.bool x9.Down)]), hw := [(3, .row 2 (x9.Files.map (File.enc true)))], fr := [3] })] [(2, 4)] [(1, .pt 0 0 0), (4, .pt 2 0 0), (5, .pt 4 0 0)] [(0, .box [.s false 2 a1.Files.length (a1.Files.map (File.enc false)), .sc (.int .i64 a1.Budget), .sc (.int .i64 a1.Writes), .sc (.int .i64 a1.Stop), .sc (.bool a1.Down)]), (2, .box [.sc (.int .i64 x7.Code), .sc (.int .i64 x7.Value)]), (3, .row 2 (x9.Files.map (File.enc true))), (4, .box [.rf 3 0 x9.Files.length none, .sc (.int .i64 x9.Budget), .sc (.int .i64 x9.Writes), .sc (.int .i64 x9.Stop), .sc (.bool x9.Down)])] (by kernel_rfl) ⟨orc1 (op := .call { callee := .value (.func 8), args := #[(.tmp 15)], argTypes := #[24] }) (by kernel_rfl) fun ops o hop hg => v_call («as» := [.ag [.s false 2 a1.Files.length (a1.Files.map (File.enc false)), .sc (.int .i64 a1.Budget), .sc (.int .i64 a1.Writes), .sc (.int .i64 a1.Stop), .sc (.bool a1.Down)]]) (bor := false) (ids := []) (hin := []) (hout := []) (news := [(3, .row 2 (x9.Files.map (File.enc true)))]) hg hop (fun _ => by kernel_rfl) rfl (fun k d hk => match k, hk with | 0, rfl => ⟨(.tmp 15), rfl, (.head _)⟩ | (n + 1), hk => by simp at hk) (.cons (.same rfl) (.nil)) (nodupK_spec rfl) rfl (by simp) (menAll rfl) (laws_toDisk.ok a1) (by rw [h10]; rfl) (Nat.le_of_ble_eq_true rfl) (.ag (.cons (.own 3) (.cons (.same rfl rfl) (.cons (.same rfl rfl) (.cons (.same rfl rfl) (.cons (.same rfl rfl) (.nil))))))) (nodupK_spec rfl) rfl (le_all rfl) (by simp), trivial⟩ (by kernel_rfl) ?_
    refine J_ctl 1 [.c 254, .c 255] (by kernel_rfl) ?_
    refine J_bind (fun x11 h12 => ?_)
    refine J_run [(1, { tn := [(17, .ag [.rf 3 0 x9.Files.length none, .sc (.int .i64 x9.Budget), .sc (.int .i64 x9.Writes), .sc (.int .i64 x9.Stop), .sc (.bool x9.Down)])], hn := [(3, .row 2 (x9.Files.map (File.enc true)))], out := some (.ag [.sc (.int .i64 x11.Code), .sc (.int .i64 x11.Value)]) })] [(2, 5)] [(1, .pt 0 0 0), (4, .pt 2 0 0), (5, .pt 4 0 0), (6, .pt 5 0 0)] [(0, .box [.s false 2 a1.Files.length (a1.Files.map (File.enc false)), .sc (.int .i64 a1.Budget), .sc (.int .i64 a1.Writes), .sc (.int .i64 a1.Stop), .sc (.bool a1.Down)]), (2, .box [.sc (.int .i64 x7.Code), .sc (.int .i64 x7.Value)]), (3, .row 2 (x9.Files.map (File.enc true))), (4, .box [.rf 3 0 x9.Files.length none, .sc (.int .i64 x9.Budget), .sc (.int .i64 x9.Writes), .sc (.int .i64 x9.Stop), .sc (.bool x9.Down)]), (5, .box [.sc (.int .i64 x11.Code), .sc (.int .i64 x11.Value)])] (by kernel_rfl) ⟨orc1 (op := .call { callee := .value (.func 9), args := #[(.tmp 17)], argTypes := #[31] }) (by kernel_rfl) fun ops o hop hg => v_call («as» := [.ag [.rf 3 0 x9.Files.length none, .sc (.int .i64 x9.Budget), .sc (.int .i64 x9.Writes), .sc (.int .i64 x9.Stop), .sc (.bool x9.Down)]]) (bor := true) (ids := []) (hin := []) (hout := []) (news := []) hg hop (fun _ => by kernel_rfl) rfl (fun k d hk => match k, hk with | 0, rfl => ⟨(.tmp 17), rfl, (.head _)⟩ | (n + 1), hk => by simp at hk) (.cons (.ag (.cons (.bor (.head _) (by simp) (by simp) (ro_map (File.ro true) _ rfl (by simp))) (.cons (.same rfl) (.cons (.same rfl) (.cons (.same rfl) (.cons (.same rfl) (.nil))))))) (.nil)) (nodupK_spec rfl) rfl (by simp) (menAll rfl) (impl_TotalOf.ok x9) (by rw [h12]; rfl) (Nat.le_of_ble_eq_true rfl) (.ag (.cons (.same rfl rfl) (.cons (.same rfl rfl) (.nil)))) (nodupK_spec rfl) rfl (le_all rfl) (fun _ => ⟨rfl, by repeat (first | trivial | constructor)⟩), trivial⟩ (by kernel_rfl) ?_
    refine J_ctl 2 [.c 1020, .c 1021, .c 511] (by kernel_rfl) ?_
    refine J_bind (fun x13 h14 => ?_)
    refine J_run [(2, { tn := [(19, .ag [.sc (.int .i64 x11.Code), .sc (.int .i64 x11.Value)]), (20, .ag [.sc (.int .i64 x7.Code), .sc (.int .i64 x7.Value)])], out := some (.sc (.bool x13)) })] [] [(1, .pt 0 0 0), (5, .pt 4 0 0), (22, .sc (.bool (!x13)))] [(0, .box [.s false 2 a1.Files.length (a1.Files.map (File.enc false)), .sc (.int .i64 a1.Budget), .sc (.int .i64 a1.Writes), .sc (.int .i64 a1.Stop), .sc (.bool a1.Down)]), (3, .row 2 (x9.Files.map (File.enc true))), (4, .box [.rf 3 0 x9.Files.length none, .sc (.int .i64 x9.Budget), .sc (.int .i64 x9.Writes), .sc (.int .i64 x9.Stop), .sc (.bool x9.Down)])] (by kernel_rfl) ⟨orc1 (op := .call { callee := .value (.func 10), args := #[(.tmp 19), (.tmp 20)], argTypes := #[27, 27] }) (by kernel_rfl) fun ops o hop hg => v_call («as» := [.ag [.sc (.int .i64 x11.Code), .sc (.int .i64 x11.Value)], .ag [.sc (.int .i64 x7.Code), .sc (.int .i64 x7.Value)]]) (bor := false) (ids := []) (hin := []) (hout := []) (news := []) hg hop (fun _ => by kernel_rfl) rfl (fun k d hk => match k, hk with | 0, rfl => ⟨(.tmp 19), rfl, (.head _)⟩ | 1, rfl => ⟨(.tmp 20), rfl, (.tail _ (.head _))⟩ | (n + 2), hk => by simp at hk) (.cons (.same rfl) (.cons (.same rfl) (.nil))) (nodupK_spec rfl) rfl (by simp) (menAll rfl) (laws_eqIntResult.ok x11 x7) (by rw [h14]; rfl) (Nat.le_of_ble_eq_true rfl) (.same rfl rfl) (nodupK_spec rfl) rfl (le_all rfl) (by simp), trivial⟩ (by kernel_rfl) ?_
    refine J_ite (fun h15 => ?_) (fun h15 => ?_)
    · refine J_lit (t := 22) (b := (!x13)) true rfl h15 ?_
      refine J_ctl 2 [.c 4084, .c 4085, .c 511] (by kernel_rfl) ?_
      refine J_run [] [] [(2, .sc (.bool false))] [] (by kernel_rfl) trivial (by kernel_rfl) ?_
      exact J_ret0 (fn := Try.f3) (rs := [.tmp 2]) (ds := [.sc (.bool false)]) (ds' := [.sc (.bool false)]) (.inr ⟨_, _, rfl, by kernel_rfl⟩) (by kernel_rfl) (by kernel_rfl) (by kernel_rfl) (.cons (.cell (.keep rfl (.nil))) (.nil) (by decide)) rfl rfl
    · refine J_lit (t := 22) (b := (!x13)) false rfl h15 ?_
      refine J_ctl 2 [.c 511] (by kernel_rfl) ?_
      refine J_ctl 2 [.c 2044, .c 2045, .c 1023] (by kernel_rfl) ?_
      refine J_bind (fun x16 h17 => ?_)
      refine J_bind (fun x18 h19 => ?_)
      refine J_run [(2, { tn := [(24, .ag [.s false 2 a1.Files.length (a1.Files.map (File.enc false)), .sc (.int .i64 a1.Budget), .sc (.int .i64 a1.Writes), .sc (.int .i64 a1.Stop), .sc (.bool a1.Down)])], out := some (.ag [.rf 5 0 x16.Files.length none, .sc (.int .i64 x16.Budget), .sc (.int .i64 x16.Writes), .sc (.int .i64 x16.Stop), .sc (.bool x16.Down)]), hw := [(5, .row 2 (x16.Files.map (File.enc true)))], fr := [5] }), (3, { tn := [(23, .ag [.rf 3 0 x9.Files.length none, .sc (.int .i64 x9.Budget), .sc (.int .i64 x9.Writes), .sc (.int .i64 x9.Stop), .sc (.bool x9.Down)]), (25, .ag [.rf 5 0 x16.Files.length none, .sc (.int .i64 x16.Budget), .sc (.int .i64 x16.Writes), .sc (.int .i64 x16.Stop), .sc (.bool x16.Down)])], hn := [(3, .row 2 (x9.Files.map (File.enc true))), (5, .row 2 (x16.Files.map (File.enc true)))], out := some (.sc (.bool x18)) })] [] [(27, .sc (.bool (!x18)))] [] (by kernel_rfl) ⟨orc1 (op := .call { callee := .value (.func 8), args := #[(.tmp 24)], argTypes := #[24] }) (by kernel_rfl) fun ops o hop hg => v_call («as» := [.ag [.s false 2 a1.Files.length (a1.Files.map (File.enc false)), .sc (.int .i64 a1.Budget), .sc (.int .i64 a1.Writes), .sc (.int .i64 a1.Stop), .sc (.bool a1.Down)]]) (bor := false) (ids := []) (hin := []) (hout := []) (news := [(5, .row 2 (x16.Files.map (File.enc true)))]) hg hop (fun _ => by kernel_rfl) rfl (fun k d hk => match k, hk with | 0, rfl => ⟨(.tmp 24), rfl, (.head _)⟩ | (n + 1), hk => by simp at hk) (.cons (.same rfl) (.nil)) (nodupK_spec rfl) rfl (by simp) (menAll rfl) (laws_toDisk.ok a1) (by rw [h17]; rfl) (Nat.le_of_ble_eq_true rfl) (.ag (.cons (.own 5) (.cons (.same rfl rfl) (.cons (.same rfl rfl) (.cons (.same rfl rfl) (.cons (.same rfl rfl) (.nil))))))) (nodupK_spec rfl) rfl (le_all rfl) (by simp), orc1 (op := .call { callee := .value (.func 11), args := #[(.tmp 23), (.tmp 25)], argTypes := #[31, 31] }) (by kernel_rfl) fun ops o hop hg => v_call («as» := [.ag [.rf 3 0 x9.Files.length none, .sc (.int .i64 x9.Budget), .sc (.int .i64 x9.Writes), .sc (.int .i64 x9.Stop), .sc (.bool x9.Down)], .ag [.rf 5 0 x16.Files.length none, .sc (.int .i64 x16.Budget), .sc (.int .i64 x16.Writes), .sc (.int .i64 x16.Stop), .sc (.bool x16.Down)]]) (bor := true) (ids := []) (hin := []) (hout := []) (news := []) hg hop (fun _ => by kernel_rfl) rfl (fun k d hk => match k, hk with | 0, rfl => ⟨(.tmp 23), rfl, (.head _)⟩ | 1, rfl => ⟨(.tmp 25), rfl, (.tail _ (.head _))⟩ | (n + 2), hk => by simp at hk) (.cons (.ag (.cons (.bor (.head _) (by simp) (by simp) (ro_map (File.ro true) _ rfl (by simp))) (.cons (.same rfl) (.cons (.same rfl) (.cons (.same rfl) (.cons (.same rfl) (.nil))))))) (.cons (.ag (.cons (.bor (.tail _ (.head _)) (by simp) (by simp) (ro_map (File.ro true) _ rfl (by simp))) (.cons (.same rfl) (.cons (.same rfl) (.cons (.same rfl) (.cons (.same rfl) (.nil))))))) (.nil))) (nodupK_spec rfl) rfl (by simp) (menAll rfl) (laws_eqDisk.ok x9 x16) (by rw [h19]; rfl) (Nat.le_of_ble_eq_true rfl) (.same rfl rfl) (nodupK_spec rfl) rfl (le_all rfl) (fun _ => ⟨rfl, by repeat (first | trivial | constructor)⟩), trivial⟩ (by kernel_rfl) ?_
      refine J_ite (fun h20 => ?_) (fun h20 => ?_)
      · refine J_lit (t := 27) (b := (!x18)) true rfl h20 ?_
        refine J_ctl 2 [.c 8180, .c 8181, .c 1023] (by kernel_rfl) ?_
        refine J_run [] [] [(2, .sc (.bool false))] [] (by kernel_rfl) trivial (by kernel_rfl) ?_
        exact J_ret0 (fn := Try.f3) (rs := [.tmp 2]) (ds := [.sc (.bool false)]) (ds' := [.sc (.bool false)]) (.inr ⟨_, _, rfl, by kernel_rfl⟩) (by kernel_rfl) (by kernel_rfl) (by kernel_rfl) (.cons (.cell (.keep rfl (.nil))) (.nil) (by decide)) rfl rfl
      · refine J_lit (t := 27) (b := (!x18)) false rfl h20 ?_
        refine J_ctl 2 [.c 1023] (by kernel_rfl) ?_
        refine J_ctl 1 [.c 2046, .c 2047] (by kernel_rfl) ?_
        refine J_run [] [] [(2, .sc (.bool true))] [] (by kernel_rfl) trivial (by kernel_rfl) ?_
        exact J_ret0 (fn := Try.f3) (rs := [.tmp 2]) (ds := [.sc (.bool true)]) (ds' := [.sc (.bool true)]) (.inr ⟨_, _, rfl, by kernel_rfl⟩) (by kernel_rfl) (by kernel_rfl) (by kernel_rfl) (.cons (.cell (.keep rfl (.nil))) (.nil) (by decide)) rfl rfl

end Go.Told

/- The program's PathFault and the reference's PathFault give the same code for every path: proved for all strings that the guard lets in. Conditions: none beyond the statement's own. -/
import Derived.Test.YtiafikjlfeibhaaPFnExactPathFaultx1
namespace Go.Proofs.Ytiafikjlfeibhaa.Pure
open Go.RowKit Go.Proofs.Ytiafikjlfeibhaa.PFnExactPathFault Go.Proofs.YtiafikjlfeibhaaW.PrintWords Go.Proofs.YtiafikjlfeibhaaW.PrintLast

def nmB (c : Int) : Bool := decide ((97 ≤ c ∧ c ≤ 122) ∨ (48 ≤ c ∧ c ≤ 57) ∨ c = 95)
def okB (c : Int) : Bool := decide ((97 ≤ c ∧ c ≤ 122) ∨ (48 ≤ c ∧ c ≤ 57) ∨ c = 95 ∨ c = 46 ∨ c = 45 ∨ c = 47)

theorem byte_spec (c : Int) : spec_l7Byte.f c = some (okB c) := by
  have h1 : spec_l1Letter.f c = some (decide (97 ≤ c ∧ c ≤ 122)) := by
    unfold spec_l1Letter.f; grind
  have h2 : spec_l1Digit.f c = some (decide (48 ≤ c ∧ c ≤ 57)) := by
    unfold spec_l1Digit.f; grind
  have h3 : spec_l1Name.f c = some (nmB c) := by
    unfold spec_l1Name.f nmB
    rw [h1, h2]
    simp only [Option.bind_some]
    grind
  unfold spec_l7Byte.f
  rw [h3]
  simp only [Option.bind_some]
  unfold nmB okB
  grind

theorem byte_impl (c : Int) : impl_isNameByte.f c = some (nmB c) := by
  unfold impl_isNameByte.f nmB
  grind

theorem both (s : ByteArray) (hn : s.size ≤ 1048576) (d : Nat) : ∀ (k : Nat) (i : Int), 0 ≤ i → i ≤ s.size → (s.size : Int) - i = d → d < k →
    ∃ r, spec_PathFault.l0 k s i = some r ∧ impl_PathFault.l0 k s (s.size : Int) i = some r := by
  induction d with
  | zero =>
    intro k i h0 h1 hd hk
    obtain ⟨k, rfl⟩ : ∃ m, k = m + 1 := ⟨k - 1, by omega⟩
    exact ⟨0, by simp only [spec_PathFault.l0]; rw [if_neg (by omega)], by simp only [impl_PathFault.l0]; rw [if_neg (by omega)]⟩
  | succ d ih =>
    intro k i h0 h1 hd hk
    obtain ⟨k, rfl⟩ : ∃ m, k = m + 1 := ⟨k - 1, by omega⟩
    have hlt : i < (s.size : Int) := by omega
    have hw : wrap64 (i + 1) = i + 1 := by unfold wrap64; omega
    obtain ⟨r, hr1, hr2⟩ := ih k (i + 1) (by omega) (by omega) (by omega) (by omega)
    simp only [spec_PathFault.l0, impl_PathFault.l0]
    rw [if_pos hlt, if_pos h0, if_pos hlt, if_pos h0, if_pos hlt, byte_spec, byte_impl]
    simp only [Option.bind_some, hw, hr1, hr2]
    by_cases hg : okB (bt s i) = true
    · refine ⟨r, by rw [if_pos hg], ?_⟩
      by_cases hm : nmB (bt s i) = true
      · rw [if_pos hm]
      · rw [if_neg hm]
        have : bt s i = 46 ∨ bt s i = 45 ∨ bt s i = 47 := by
          unfold okB at hg; unfold nmB at hm; simp at hg hm; omega
        (repeat' split) <;> first | rfl | omega
    · refine ⟨5, by rw [if_neg hg], ?_⟩
      have h4 : ¬ nmB (bt s i) = true ∧ bt s i ≠ 46 ∧ bt s i ≠ 45 ∧ bt s i ≠ 47 := by
        unfold okB at hg; unfold nmB; simp at hg ⊢; omega
      rw [if_neg h4.1, if_neg h4.2.1, if_neg h4.2.2.1, if_neg h4.2.2.2]

theorem FnExactPathFault : laws_FnExactPathFault.Pure := by
  intro s hn
  by_cases hb : (s.size : Int) > 1048576
  · exact ⟨0, by unfold laws_FnExactPathFault.f; rw [if_pos hb]⟩
  · refine ⟨s.size + 3, ?_⟩
    obtain ⟨r, h1, h2⟩ := both s (by omega) s.size (s.size + 2) 0 (by omega) (by omega) (by omega) (by omega)
    have key : ∃ r, spec_PathFault.f (s.size + 3) s = some r ∧ impl_PathFault.f (s.size + 3) s = some r := by
      unfold spec_PathFault.f impl_PathFault.f
      by_cases c1 : (s.size : Int) < 1
      · rw [if_pos c1, if_pos c1]; exact ⟨5, by simp [spec_PathFault.j0], by simp [impl_PathFault.j0]⟩
      · rw [if_neg c1, if_neg c1]
        simp only [spec_PathFault.j0, impl_PathFault.j0]
        by_cases c2 : (s.size : Int) > 40
        · exact ⟨5, by simp [c2], by simp [c2]⟩
        · exact ⟨r, by simp only [c2, decide_false, Bool.false_eq_true, if_false]; exact h1, by simp only [c2, decide_false, Bool.false_eq_true, if_false]; exact h2⟩
    obtain ⟨r, h1, h2⟩ := key
    unfold laws_FnExactPathFault.f
    rw [if_neg hb, h1, h2]
    simp

end Go.Proofs.Ytiafikjlfeibhaa.Pure

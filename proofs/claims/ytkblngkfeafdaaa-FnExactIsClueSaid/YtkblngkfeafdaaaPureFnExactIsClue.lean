/- IsClue: program and reference tell the same of every clue (numbers alone). -/
import Derived.Test.YtkblngkfeafdaaaPFnExactIsCluex1
namespace Go.Proofs.Ytkblngkfeafdaaa.Pure
open Go.RowKit Go.Proofs.Ytkblngkfeafdaaa.PFnExactIsClue Go.Proofs.YtkblngkfeafdaaaW.PrintWords Go.Proofs.YtkblngkfeafdaaaW.PrintLast

def clueB (k a b : Int) : Bool :=
  decide (0 ≤ b ∧ b ≤ 20 ∧ ((k = 0 ∧ 0 ≤ a ∧ a ≤ 1) ∨ (k = 1 ∧ 0 ≤ a ∧ a ≤ 3) ∨ (k = 2 ∧ a = 0 ∧ b < 2) ∨ (k = 3 ∧ 0 ≤ a ∧ a ≤ 2 ∧ b < 2) ∨ (k = 4 ∧ a = 0) ∨ (k = 5 ∧ a = 0 ∧ 2 ≤ b ∧ b ≤ 9)))

theorem l1In_eq (n lo hi : Int) : spec_l1In.f n lo hi = some (decide (lo ≤ n ∧ n ≤ hi)) := by
  unfold spec_l1In.f
  by_cases h : n ≥ lo
  · rw [if_pos h]; congr 1; simp; intro _; omega
  · rw [if_neg h]; congr 1; simp; intro; omega
theorem within_eq (n lo hi : Int) : impl_within.f n lo hi = some (decide (lo ≤ n ∧ n ≤ hi)) := by
  unfold impl_within.f
  by_cases h : lo ≤ n
  · rw [if_pos h]; congr 1; simp; intro _; omega
  · rw [if_neg h]; congr 1; simp; intro; omega

theorem spec_eq (k a b : Int) : spec_pzClue.f k a b = some (clueB k a b) := by
  unfold spec_pzClue.f clueB
  simp only [l1In_eq, Option.bind_some]
  by_cases hb : 0 ≤ b ∧ b ≤ 20
  · rw [if_pos (by simpa using hb)]
    by_cases h0 : k = 0
    · subst h0; simp [hb]
    rw [if_neg h0]
    by_cases h1 : k = 1
    · subst h1; simp [hb]
    rw [if_neg h1]
    by_cases h2 : k = 2
    · subst h2; by_cases ha : a = 0 <;> simp [hb, ha]
    rw [if_neg h2]
    by_cases h3 : k = 3
    · subst h3; by_cases ha : 0 ≤ a ∧ a ≤ 2
      · simp [hb, ha]
      · have : ¬ (0 ≤ a ∧ a ≤ 2 ∧ b < 2) := fun h => ha ⟨h.1, h.2.1⟩
        simp [hb, ha, this]
    rw [if_neg h3]
    by_cases h4 : k = 4
    · subst h4; by_cases ha : a = 0 <;> simp [hb, ha]
    rw [if_neg h4]
    by_cases h5 : k = 5
    · subst h5; by_cases ha : a = 0 <;> simp [hb, ha]
    · rw [if_neg h5]; simp [hb, h0, h1, h2, h3, h4, h5]
  · rw [if_neg (by simpa using hb)]
    congr 1
    symm
    apply decide_eq_false
    rintro ⟨x, y, _⟩
    exact hb ⟨x, y⟩

theorem impl_eq (k a b : Int) : impl_IsClue.f 1 k a b = some (clueB k a b) := by
  unfold impl_IsClue.f clueB
  simp only [within_eq, Option.bind_some]
  by_cases hk : 0 ≤ k ∧ k ≤ 5
  · rw [if_pos (by simpa using hk), if_pos hk.1, if_pos (by simp; omega)]
    have : k = 0 ∨ k = 1 ∨ k = 2 ∨ k = 3 ∨ k = 4 ∨ k = 5 := by omega
    rcases this with rfl | rfl | rfl | rfl | rfl | rfl
    all_goals
      by_cases ha : 0 ≤ a
      all_goals by_cases hb : 0 ≤ b
      all_goals simp [impl_IsClue.j0, within_eq, rd, ha, hb]
      all_goals try split
      all_goals try (simp; omega)
      all_goals try omega
      all_goals (congr 1; rw [Bool.eq_iff_iff]; simp; omega)
  · rw [if_neg (by simpa using hk)]
    congr 1
    symm
    apply decide_eq_false
    omega

theorem FnExactIsClue : ∀ (a0_0 : Int) (a0_1 : Int) (a0_2 : Int), ((Lit.int .i64 a0_0).wf = true ∧ (Lit.int .i64 a0_1).wf = true ∧ (Lit.int .i64 a0_2).wf = true) → ∃ k, laws_FnExactIsClue.f k a0_0 a0_1 a0_2 = some true := by
  intro k a b _
  refine ⟨1, ?_⟩
  unfold laws_FnExactIsClue.f laws_toClue.f spec_IsClue.f
  simp [spec_eq, impl_eq]

end Go.Proofs.Ytkblngkfeafdaaa.Pure

/- The pages of two sizes together are no fewer than those of the sum, and at most one more. Conditions: none. -/
import Derived.Test.YtebhcnjffeoghaaYClassPagesx1
namespace Go.Proofs.Ytebhcnjffeoghaa.Pure
open Go.RowKit Go.Proofs.Ytebhcnjffeoghaa.X Go.Proofs.Ytebhcnjffeoghaa.YClassPages Go.Proofs.YtebhcnjffeoghaaW.PrintWords Go.Proofs.YtebhcnjffeoghaaW.PrintLast Go.Proofs.YtebhcnjffeoghaaW.PrintMore

namespace ClassPagesAid
theorem wf64 {a : Int} (h : (Lit.int .i64 a).wf = true) : -9223372036854775808 ≤ a ∧ a ≤ 9223372036854775807 := by
  simpa [Lit.wf, IntKind.min, IntKind.max, IntKind.bits, IntKind.signed] using h
theorem w64 {a : Int} (h0 : -9223372036854775808 ≤ a) (h1 : a ≤ 9223372036854775807) : wrap64 a = a := by unfold wrap64; omega
theorem lives_eq : assartlaw03_lives.f = some true := by decide +kernel
theorem pages_lo {n : Int} (h : n < 1) : pagesN n = 0 := by unfold pagesN; rw [if_pos h]
theorem pages_hi {n : Int} (h : 1 ≤ n) (h1 : n ≤ 9223372036854775807) : pagesN n = (n - 1) / 32 + 1 := by
  unfold pagesN
  rw [if_neg (by omega), w64 (a := n - 1) (by omega) (by omega), Int.tdiv_eq_ediv_of_nonneg (by omega), w64 (a := (n - 1) / 32) (by omega) (by omega), w64 (by omega) (by omega)]
theorem ofN_cases (n : Int) : (n ≤ 1 ∧ ofN n = 0) ∨ (1 < n ∧ n ≤ 2 ∧ ofN n = 1) ∨ (2 < n ∧ n ≤ 4 ∧ ofN n = 2) ∨ (4 < n ∧ n ≤ 8 ∧ ofN n = 3) ∨ (8 < n ∧ n ≤ 16 ∧ ofN n = 4) ∨ (16 < n ∧ ofN n = -1) := by
  by_cases h0 : n ≤ 1
  · exact .inl ⟨h0, ofN_0 n h0⟩
  by_cases h1 : n ≤ 2
  · exact .inr (.inl ⟨by omega, h1, ofN_1 n h1 (by omega)⟩)
  by_cases h2 : n ≤ 4
  · exact .inr (.inr (.inl ⟨by omega, h2, ofN_2 n h2 (by omega)⟩))
  by_cases h3 : n ≤ 8
  · exact .inr (.inr (.inr (.inl ⟨by omega, h3, ofN_3 n h3 (by omega)⟩)))
  by_cases h4 : n ≤ 16
  · exact .inr (.inr (.inr (.inr (.inl ⟨by omega, h4, ofN_4 n h4 (by omega)⟩))))
  · exact .inr (.inr (.inr (.inr (.inr ⟨by omega, ofN_5 n (by omega)⟩))))
theorem al_cases {a : Int} (h : alignedB a = true) : a = 1 ∨ a = 2 ∨ a = 4 ∨ a = 8 ∨ a = 16 ∨ a = 32 ∨ a = 64 ∨ a = 128 := by
  unfold alignedB at h
  simp only [Bool.or_eq_true, beq_iff_eq] at h
  omega
theorem mn_0 {n : Int} : mn n 0 < 1 := by unfold mn; split <;> omega
end ClassPagesAid
open ClassPagesAid

theorem ClassPages : assartlaw03_ClassPages.Pure := by
  intro n m hn hm
  have n1 := wf64 hn
  have m1 := wf64 hm
  refine ⟨1, ?_⟩
  have j : assartlaw03_ClassPages.j0 1 n m true = some true := by
    simp only [assartlaw03_ClassPages.j0, if_true]
    unfold class_Pages.f
    rw [pages_lo mn_0, lives_eq]; rfl
  unfold assartlaw03_ClassPages.f
  by_cases h0 : n < 1
  · rw [if_pos h0]; exact j
  by_cases h1 : m < 1
  · rw [if_neg h0, if_pos h1]; exact j
  by_cases h2 : n > 1152921504606846976
  · rw [if_neg h0, if_neg h1, if_pos h2]; exact j
  rw [if_neg h0, if_neg h1, if_neg h2]
  by_cases h3 : m > 1152921504606846976
  · rw [decide_eq_true h3]; exact j
  rw [decide_eq_false h3]
  simp only [assartlaw03_ClassPages.j0, Bool.false_eq_true, if_false]
  unfold class_Pages.f
  rw [w64 (a := n + m) (by omega) (by omega), pages_hi (n := n) (by omega) (by omega), pages_hi (n := m) (by omega) (by omega), pages_hi (n := n + m) (by omega) (by omega), lives_eq]
  simp only [Option.bind_some]
  rw [w64 (a := (n - 1) / 32 + 1 + ((m - 1) / 32 + 1)) (by omega) (by omega), w64 (a := (n + m - 1) / 32 + 1 + 1) (by omega) (by omega), w64 (a := 32 * ((n - 1) / 32 + 1)) (by omega) (by omega), w64 (a := 32 * ((n - 1) / 32 + 1) - n) (by omega) (by omega)]
  rw [if_pos (by omega), if_pos (by omega), if_pos (by omega), if_pos (by omega)]

end Go.Proofs.Ytebhcnjffeoghaa.Pure

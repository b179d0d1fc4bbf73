/- The class and the pages of any size, and the words and blocks of any class, are the reference's. Conditions: none. -/
import Derived.Test.YtebhcnjffeoghaaYClassSizesx1
namespace Go.Proofs.Ytebhcnjffeoghaa.Pure
open Go.RowKit Go.Proofs.Ytebhcnjffeoghaa.X Go.Proofs.Ytebhcnjffeoghaa.YClassSizes Go.Proofs.YtebhcnjffeoghaaW.PrintWords Go.Proofs.YtebhcnjffeoghaaW.PrintLast Go.Proofs.YtebhcnjffeoghaaW.PrintMore

namespace ClassSizesAid
theorem wf64 {a : Int} (h : (Lit.int .i64 a).wf = true) : -9223372036854775808 ≤ a ∧ a ≤ 9223372036854775807 := by
  simpa [Lit.wf, IntKind.min, IntKind.max, IntKind.bits, IntKind.signed] using h
theorem w64 {a : Int} (h0 : -9223372036854775808 ≤ a) (h1 : a ≤ 9223372036854775807) : wrap64 a = a := by unfold wrap64; omega
theorem lives_eq : assartlaw03_lives.f = some true := by decide +kernel
theorem pages_lo {n : Int} (h : n < 1) : pagesN n = 0 := by unfold pagesN; rw [if_pos h]
theorem pages_hi {n : Int} (h : 1 ≤ n) (h1 : n ≤ 9223372036854775807) : pagesN n = (n - 1) / 32 + 1 := by
  unfold pagesN
  rw [if_neg (by omega), w64 (a := n - 1) (by omega) (by omega), Int.tdiv_eq_ediv_of_nonneg (by omega), w64 (a := (n - 1) / 32) (by omega) (by omega), w64 (by omega) (by omega)]
theorem ofN_cases (n : Int) : (n ≤ 1 ∧ ofN n = 0) ∨ (1 < n ∧ n ≤ 2 ∧ ofN n = 1) ∨ (2 < n ∧ n ≤ 4 ∧ ofN n = 2) ∨ (4 < n ∧ n ≤ 8 ∧ ofN n = 3) ∨ (8 < n ∧ n ≤ 16 ∧ ofN n = 4) ∨ (16 < n ∧ ofN n = -1) := by
  by_cases h0 : n ≤ 1
  · exact .inl ⟨h0, ofN_0 n h0⟩
  by_cases h1 : n ≤ 2
  · exact .inr (.inl ⟨by omega, h1, ofN_1 n h1 (by omega)⟩)
  by_cases h2 : n ≤ 4
  · exact .inr (.inr (.inl ⟨by omega, h2, ofN_2 n h2 (by omega)⟩))
  by_cases h3 : n ≤ 8
  · exact .inr (.inr (.inr (.inl ⟨by omega, h3, ofN_3 n h3 (by omega)⟩)))
  by_cases h4 : n ≤ 16
  · exact .inr (.inr (.inr (.inr (.inl ⟨by omega, h4, ofN_4 n h4 (by omega)⟩))))
  · exact .inr (.inr (.inr (.inr (.inr ⟨by omega, ofN_5 n (by omega)⟩))))
theorem al_cases {a : Int} (h : alignedB a = true) : a = 1 ∨ a = 2 ∨ a = 4 ∨ a = 8 ∨ a = 16 ∨ a = 32 ∨ a = 64 ∨ a = 128 := by
  unfold alignedB at h
  simp only [Bool.or_eq_true, beq_iff_eq] at h
  omega
theorem rsize (k : Nat) (c : Int) : assartref03_Size.f (k + 8) c = some (sizeN c) := by
  by_cases h0 : c < 0
  · unfold assartref03_Size.f
    rw [if_pos h0]
    have : sizeN c = 0 := by unfold sizeN; rw [if_neg (by omega), if_neg (by omega), if_neg (by omega), if_neg (by omega), if_neg (by omega)]
    rw [this]; simp [assartref03_Size.j0]
  by_cases h1 : c > 4
  · unfold assartref03_Size.f
    rw [if_neg h0, decide_eq_true h1]
    have : sizeN c = 0 := by unfold sizeN; rw [if_neg (by omega), if_neg (by omega), if_neg (by omega), if_neg (by omega), if_neg (by omega)]
    rw [this]; simp [assartref03_Size.j0]
  have : c = 0 ∨ c = 1 ∨ c = 2 ∨ c = 3 ∨ c = 4 := by omega
  rcases this with rfl | rfl | rfl | rfl | rfl <;> simp [assartref03_Size.f, assartref03_Size.j0, assartref03_Size.l0, sizeN, wrap64]
theorem rof_step (k : Nat) (a : Int) (c : Int) (h0 : 0 ≤ c) (h1 : c < 5) : assartref03_Of.l0 (k + 9) a c = if sizeN c ≥ a then some c else assartref03_Of.l0 (k + 8) a (c + 1) := by
  simp only [assartref03_Of.l0]
  rw [if_pos h1, rsize k c]
  simp only [Option.bind_some]
  rw [w64 (a := c + 1) (by omega) (by omega)]
theorem rof_end (k : Nat) (a : Int) : assartref03_Of.l0 (k + 1) a 5 = some (-1) := by simp [assartref03_Of.l0]
theorem rof (a : Int) (k : Nat) : assartref03_Of.f (k + 14) a = some (ofN a) := by
  unfold assartref03_Of.f
  rw [rof_step (k + 5) a 0 (by omega) (by omega), rof_step (k + 4) a (0 + 1) (by omega) (by omega), rof_step (k + 3) a (0 + 1 + 1) (by omega) (by omega), rof_step (k + 2) a (0 + 1 + 1 + 1) (by omega) (by omega), rof_step (k + 1) a (0 + 1 + 1 + 1 + 1) (by omega) (by omega)]
  rw [show (0 + 1 + 1 + 1 + 1 + 1 : Int) = 5 from rfl, rof_end]
  rw [show sizeN 0 = 1 from rfl, show sizeN (0 + 1) = 2 from rfl, show sizeN (0 + 1 + 1) = 4 from rfl, show sizeN (0 + 1 + 1 + 1) = 8 from rfl, show sizeN (0 + 1 + 1 + 1 + 1) = 16 from rfl]
  rcases ofN_cases a with ⟨h, e⟩ | ⟨h, h', e⟩ | ⟨h, h', e⟩ | ⟨h, h', e⟩ | ⟨h, h', e⟩ | ⟨h, e⟩ <;> rw [e]
  · rw [if_pos (by omega)]
  · rw [if_neg (by omega), if_pos (by omega)]; rfl
  · rw [if_neg (by omega), if_neg (by omega), if_pos (by omega)]; rfl
  · rw [if_neg (by omega), if_neg (by omega), if_neg (by omega), if_pos (by omega)]; rfl
  · rw [if_neg (by omega), if_neg (by omega), if_neg (by omega), if_neg (by omega), if_pos (by omega)]; rfl
  · rw [if_neg (by omega), if_neg (by omega), if_neg (by omega), if_neg (by omega), if_neg (by omega)]
theorem rpages (n : Int) : assartref03_Pages.f n = some (pagesN n) := by
  unfold assartref03_Pages.f pagesN
  by_cases h : n < 1
  · rw [if_pos h, if_pos h]
  · rw [if_neg h, if_neg h]
theorem rslots (k : Nat) (c : Int) : assartref03_Slots.f (k + 8) c = some (slotsN c) := by
  unfold assartref03_Slots.f
  by_cases h0 : c < 0
  · rw [if_pos h0]
    unfold slotsN; rw [if_neg (by omega), if_neg (by omega), if_neg (by omega), if_neg (by omega), if_neg (by omega)]
  by_cases h1 : c > 4
  · rw [if_neg h0, if_pos h1]
    unfold slotsN; rw [if_neg (by omega), if_neg (by omega), if_neg (by omega), if_neg (by omega), if_neg (by omega)]
  rw [if_neg h0, if_neg h1, rsize]
  have : c = 0 ∨ c = 1 ∨ c = 2 ∨ c = 3 ∨ c = 4 := by omega
  rcases this with rfl | rfl | rfl | rfl | rfl <;> decide +kernel
end ClassSizesAid
open ClassSizesAid

theorem ClassSizes : assartlaw03_ClassSizes.Pure := by
  intro a c _ _
  refine ⟨20, ?_⟩
  unfold assartlaw03_ClassSizes.f class_Of.f class_Pages.f class_Size.f class_Slots.f
  rw [rof a 6, rpages, rsize 12 c, rslots 12 c, lives_eq]
  simp

end Go.Proofs.Ytebhcnjffeoghaa.Pure

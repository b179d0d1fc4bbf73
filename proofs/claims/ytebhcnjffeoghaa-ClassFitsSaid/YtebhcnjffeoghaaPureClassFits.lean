/- The kind of block of any size and alignment is the reference's. Conditions: none. -/
import Derived.Test.YtebhcnjffeoghaaYClassFitsx1
namespace Go.Proofs.Ytebhcnjffeoghaa.Pure
open Go.RowKit Go.Proofs.Ytebhcnjffeoghaa.X Go.Proofs.Ytebhcnjffeoghaa.YClassFits Go.Proofs.YtebhcnjffeoghaaW.PrintWords Go.Proofs.YtebhcnjffeoghaaW.PrintLast Go.Proofs.YtebhcnjffeoghaaW.PrintMore

namespace ClassFitsAid
theorem wf64 {a : Int} (h : (Lit.int .i64 a).wf = true) : -9223372036854775808 ≤ a ∧ a ≤ 9223372036854775807 := by
  simpa [Lit.wf, IntKind.min, IntKind.max, IntKind.bits, IntKind.signed] using h
theorem w64 {a : Int} (h0 : -9223372036854775808 ≤ a) (h1 : a ≤ 9223372036854775807) : wrap64 a = a := by unfold wrap64; omega
theorem lives_eq : assartlaw03_lives.f = some true := by decide +kernel
theorem pages_lo {n : Int} (h : n < 1) : pagesN n = 0 := by unfold pagesN; rw [if_pos h]
theorem pages_hi {n : Int} (h : 1 ≤ n) (h1 : n ≤ 9223372036854775807) : pagesN n = (n - 1) / 32 + 1 := by
  unfold pagesN
  rw [if_neg (by omega), w64 (a := n - 1) (by omega) (by omega), Int.tdiv_eq_ediv_of_nonneg (by omega), w64 (a := (n - 1) / 32) (by omega) (by omega), w64 (by omega) (by omega)]
theorem ofN_cases (n : Int) : (n ≤ 1 ∧ ofN n = 0) ∨ (1 < n ∧ n ≤ 2 ∧ ofN n = 1) ∨ (2 < n ∧ n ≤ 4 ∧ ofN n = 2) ∨ (4 < n ∧ n ≤ 8 ∧ ofN n = 3) ∨ (8 < n ∧ n ≤ 16 ∧ ofN n = 4) ∨ (16 < n ∧ ofN n = -1) := by
  by_cases h0 : n ≤ 1
  · exact .inl ⟨h0, ofN_0 n h0⟩
  by_cases h1 : n ≤ 2
  · exact .inr (.inl ⟨by omega, h1, ofN_1 n h1 (by omega)⟩)
  by_cases h2 : n ≤ 4
  · exact .inr (.inr (.inl ⟨by omega, h2, ofN_2 n h2 (by omega)⟩))
  by_cases h3 : n ≤ 8
  · exact .inr (.inr (.inr (.inl ⟨by omega, h3, ofN_3 n h3 (by omega)⟩)))
  by_cases h4 : n ≤ 16
  · exact .inr (.inr (.inr (.inr (.inl ⟨by omega, h4, ofN_4 n h4 (by omega)⟩))))
  · exact .inr (.inr (.inr (.inr (.inr ⟨by omega, ofN_5 n (by omega)⟩))))
theorem al_cases {a : Int} (h : alignedB a = true) : a = 1 ∨ a = 2 ∨ a = 4 ∨ a = 8 ∨ a = 16 ∨ a = 32 ∨ a = 64 ∨ a = 128 := by
  unfold alignedB at h
  simp only [Bool.or_eq_true, beq_iff_eq] at h
  omega
theorem rsize (k : Nat) (c : Int) : assartref03_Size.f (k + 8) c = some (sizeN c) := by
  by_cases h0 : c < 0
  · unfold assartref03_Size.f
    rw [if_pos h0]
    have : sizeN c = 0 := by unfold sizeN; rw [if_neg (by omega), if_neg (by omega), if_neg (by omega), if_neg (by omega), if_neg (by omega)]
    rw [this]; simp [assartref03_Size.j0]
  by_cases h1 : c > 4
  · unfold assartref03_Size.f
    rw [if_neg h0, decide_eq_true h1]
    have : sizeN c = 0 := by unfold sizeN; rw [if_neg (by omega), if_neg (by omega), if_neg (by omega), if_neg (by omega), if_neg (by omega)]
    rw [this]; simp [assartref03_Size.j0]
  have : c = 0 ∨ c = 1 ∨ c = 2 ∨ c = 3 ∨ c = 4 := by omega
  rcases this with rfl | rfl | rfl | rfl | rfl <;> simp [assartref03_Size.f, assartref03_Size.j0, assartref03_Size.l0, sizeN, wrap64]
theorem rof_step (k : Nat) (a : Int) (c : Int) (h0 : 0 ≤ c) (h1 : c < 5) : assartref03_Of.l0 (k + 9) a c = if sizeN c ≥ a then some c else assartref03_Of.l0 (k + 8) a (c + 1) := by
  simp only [assartref03_Of.l0]
  rw [if_pos h1, rsize k c]
  simp only [Option.bind_some]
  rw [w64 (a := c + 1) (by omega) (by omega)]
theorem rof_end (k : Nat) (a : Int) : assartref03_Of.l0 (k + 1) a 5 = some (-1) := by simp [assartref03_Of.l0]
theorem rof (a : Int) (k : Nat) : assartref03_Of.f (k + 14) a = some (ofN a) := by
  unfold assartref03_Of.f
  rw [rof_step (k + 5) a 0 (by omega) (by omega), rof_step (k + 4) a (0 + 1) (by omega) (by omega), rof_step (k + 3) a (0 + 1 + 1) (by omega) (by omega), rof_step (k + 2) a (0 + 1 + 1 + 1) (by omega) (by omega), rof_step (k + 1) a (0 + 1 + 1 + 1 + 1) (by omega) (by omega)]
  rw [show (0 + 1 + 1 + 1 + 1 + 1 : Int) = 5 from rfl, rof_end]
  rw [show sizeN 0 = 1 from rfl, show sizeN (0 + 1) = 2 from rfl, show sizeN (0 + 1 + 1) = 4 from rfl, show sizeN (0 + 1 + 1 + 1) = 8 from rfl, show sizeN (0 + 1 + 1 + 1 + 1) = 16 from rfl]
  rcases ofN_cases a with ⟨h, e⟩ | ⟨h, h', e⟩ | ⟨h, h', e⟩ | ⟨h, h', e⟩ | ⟨h, h', e⟩ | ⟨h, e⟩ <;> rw [e]
  · rw [if_pos (by omega)]
  · rw [if_neg (by omega), if_pos (by omega)]; rfl
  · rw [if_neg (by omega), if_neg (by omega), if_pos (by omega)]; rfl
  · rw [if_neg (by omega), if_neg (by omega), if_neg (by omega), if_pos (by omega)]; rfl
  · rw [if_neg (by omega), if_neg (by omega), if_neg (by omega), if_neg (by omega), if_pos (by omega)]; rfl
  · rw [if_neg (by omega), if_neg (by omega), if_neg (by omega), if_neg (by omega), if_neg (by omega)]
theorem rpages (n : Int) : assartref03_Pages.f n = some (pagesN n) := by
  unfold assartref03_Pages.f pagesN
  by_cases h : n < 1
  · rw [if_pos h, if_pos h]
  · rw [if_neg h, if_neg h]
theorem rpow_step (k : Nat) (a p : Int) (h0 : 0 ≤ p) (h : p ≤ 128) : assartref03_power.l0 (k + 1) a p = if p = a then some true else assartref03_power.l0 k a (p * 2) := by
  simp only [assartref03_power.l0]
  rw [if_pos h, w64 (a := p * 2) (by omega) (by omega)]
theorem rpow_end (k : Nat) (a : Int) : assartref03_power.l0 (k + 1) a 256 = some false := by simp [assartref03_power.l0]
theorem rpow (a : Int) (k : Nat) : assartref03_power.f (k + 9) a = some (alignedB a) := by
  unfold assartref03_power.f
  rw [rpow_step (k + 8) a 1 (by omega) (by omega), rpow_step (k + 7) a (1 * 2) (by omega) (by omega), rpow_step (k + 6) a (1 * 2 * 2) (by omega) (by omega), rpow_step (k + 5) a (1 * 2 * 2 * 2) (by omega) (by omega), rpow_step (k + 4) a (1 * 2 * 2 * 2 * 2) (by omega) (by omega), rpow_step (k + 3) a (1 * 2 * 2 * 2 * 2 * 2) (by omega) (by omega), rpow_step (k + 2) a (1 * 2 * 2 * 2 * 2 * 2 * 2) (by omega) (by omega), rpow_step (k + 1) a (1 * 2 * 2 * 2 * 2 * 2 * 2 * 2) (by omega) (by omega)]
  rw [show (1 * 2 * 2 * 2 * 2 * 2 * 2 * 2 * 2 : Int) = 256 from rfl, rpow_end]
  by_cases h : alignedB a = true
  · rw [h]
    rcases al_cases h with rfl | rfl | rfl | rfl | rfl | rfl | rfl | rfl <;> rfl
  · have h' : alignedB a = false := by simpa using h
    rw [h']
    unfold alignedB at h'
    simp only [Bool.or_eq_false_iff, beq_eq_false_iff_ne] at h'
    obtain ⟨⟨⟨⟨⟨⟨⟨n0, n1⟩, n2⟩, n3⟩, n4⟩, n5⟩, n6⟩, n7⟩ := h'
    rw [if_neg (by omega), if_neg (by omega), if_neg (by omega), if_neg (by omega), if_neg (by omega), if_neg (by omega), if_neg (by omega), if_neg (by omega)]
theorem ofN_mono {a b : Int} (h : a ≤ b) (hb : b ≤ 16) : ofN a ≤ ofN b := by
  rcases ofN_cases a with ⟨h, e⟩ | ⟨h, h', e⟩ | ⟨h, h', e⟩ | ⟨h, h', e⟩ | ⟨h, h', e⟩ | ⟨h, e⟩ <;> rcases ofN_cases b with ⟨g, f⟩ | ⟨g, g', f⟩ | ⟨g, g', f⟩ | ⟨g, g', f⟩ | ⟨g, g', f⟩ | ⟨g, f⟩ <;> omega
theorem mx_of {a b : Int} (ha : a ≤ 16) (hb : b ≤ 16) : mx (ofN a) (ofN b) = ofN (mx a b) := by
  by_cases h : a < b
  · rw [X.mx_lt h]
    have := ofN_mono (Int.le_of_lt h) hb
    unfold mx; split <;> omega
  · rw [X.mx_ge h]
    have := ofN_mono (show b ≤ a by omega) ha
    unfold mx; split <;> omega
theorem mx_le {a b c : Int} : mx a b ≤ c ↔ a ≤ c ∧ b ≤ c := by unfold mx; split <;> omega
theorem rfit (a0 a1 : Int) (k : Nat) : assartref03_Fit.f (k + 20) a0 a1 = some (fitN a0 a1) := by
  unfold assartref03_Fit.f fitN
  by_cases h0 : a0 < 0
  · rw [if_pos h0, if_pos h0]; simp [assartref03_Fit.j0]
  rw [if_neg h0, if_neg h0, rpow a1 (k + 11)]
  simp only [Option.bind_some]
  by_cases h1 : alignedB a1 = true
  · rw [if_pos h1, h1]
    simp only [assartref03_Fit.j0, Bool.not_true, Bool.false_eq_true, if_false]
    by_cases h2 : a0 ≤ 16
    · rw [if_pos h2]
      by_cases h3 : a1 ≤ 16
      · rw [decide_eq_true h3, if_pos (mx_le.2 ⟨h2, h3⟩)]
        simp only [assartref03_Fit.j1, if_true]
        rw [rof a0 (k + 4), rof a1 (k + 4)]
        simp only [Option.bind_some]
        rw [mx_of h2 h3]
      · rw [decide_eq_false h3, if_neg (fun h => h3 (mx_le.1 h).2)]
        simp only [assartref03_Fit.j1, Bool.false_eq_true, if_false]
        rw [rpages]; simp only [Option.bind_some]
    · rw [if_neg h2, if_neg (fun h => h2 (mx_le.1 h).1)]
      simp only [assartref03_Fit.j1, Bool.false_eq_true, if_false]
      rw [rpages]; simp only [Option.bind_some]
  · have h1' : alignedB a1 = false := by simpa using h1
    rw [if_neg h1, h1']; simp [assartref03_Fit.j0]
end ClassFitsAid
open ClassFitsAid

theorem ClassFits : assartlaw03_ClassFits.Pure := by
  intro a c _ _
  refine ⟨20, ?_⟩
  unfold assartlaw03_ClassFits.f class_Fit.f
  rw [rfit a c 0, lives_eq]
  simp

end Go.Proofs.Ytebhcnjffeoghaa.Pure

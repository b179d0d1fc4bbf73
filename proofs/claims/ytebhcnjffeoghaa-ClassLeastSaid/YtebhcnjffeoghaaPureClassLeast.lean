/- The class of a size is great enough and no lesser one is, greater sizes have no lesser classes, and a class's blocks fill a page. Conditions: none. -/
import Derived.Test.YtebhcnjffeoghaaYClassLeastx1
namespace Go.Proofs.Ytebhcnjffeoghaa.Pure
open Go.RowKit Go.Proofs.Ytebhcnjffeoghaa.X Go.Proofs.Ytebhcnjffeoghaa.YClassLeast Go.Proofs.YtebhcnjffeoghaaW.PrintWords Go.Proofs.YtebhcnjffeoghaaW.PrintLast Go.Proofs.YtebhcnjffeoghaaW.PrintMore

namespace ClassLeastAid
theorem wf64 {a : Int} (h : (Lit.int .i64 a).wf = true) : -9223372036854775808 ≤ a ∧ a ≤ 9223372036854775807 := by
  simpa [Lit.wf, IntKind.min, IntKind.max, IntKind.bits, IntKind.signed] using h
theorem w64 {a : Int} (h0 : -9223372036854775808 ≤ a) (h1 : a ≤ 9223372036854775807) : wrap64 a = a := by unfold wrap64; omega
theorem lives_eq : assartlaw03_lives.f = some true := by decide +kernel
theorem pages_lo {n : Int} (h : n < 1) : pagesN n = 0 := by unfold pagesN; rw [if_pos h]
theorem pages_hi {n : Int} (h : 1 ≤ n) (h1 : n ≤ 9223372036854775807) : pagesN n = (n - 1) / 32 + 1 := by
  unfold pagesN
  rw [if_neg (by omega), w64 (a := n - 1) (by omega) (by omega), Int.tdiv_eq_ediv_of_nonneg (by omega), w64 (a := (n - 1) / 32) (by omega) (by omega), w64 (by omega) (by omega)]
theorem ofN_cases (n : Int) : (n ≤ 1 ∧ ofN n = 0) ∨ (1 < n ∧ n ≤ 2 ∧ ofN n = 1) ∨ (2 < n ∧ n ≤ 4 ∧ ofN n = 2) ∨ (4 < n ∧ n ≤ 8 ∧ ofN n = 3) ∨ (8 < n ∧ n ≤ 16 ∧ ofN n = 4) ∨ (16 < n ∧ ofN n = -1) := by
  by_cases h0 : n ≤ 1
  · exact .inl ⟨h0, ofN_0 n h0⟩
  by_cases h1 : n ≤ 2
  · exact .inr (.inl ⟨by omega, h1, ofN_1 n h1 (by omega)⟩)
  by_cases h2 : n ≤ 4
  · exact .inr (.inr (.inl ⟨by omega, h2, ofN_2 n h2 (by omega)⟩))
  by_cases h3 : n ≤ 8
  · exact .inr (.inr (.inr (.inl ⟨by omega, h3, ofN_3 n h3 (by omega)⟩)))
  by_cases h4 : n ≤ 16
  · exact .inr (.inr (.inr (.inr (.inl ⟨by omega, h4, ofN_4 n h4 (by omega)⟩))))
  · exact .inr (.inr (.inr (.inr (.inr ⟨by omega, ofN_5 n (by omega)⟩))))
theorem al_cases {a : Int} (h : alignedB a = true) : a = 1 ∨ a = 2 ∨ a = 4 ∨ a = 8 ∨ a = 16 ∨ a = 32 ∨ a = 64 ∨ a = 128 := by
  unfold alignedB at h
  simp only [Bool.or_eq_true, beq_iff_eq] at h
  omega
theorem round (k : Nat) (n m d : Int) (h0 : 0 ≤ d) (h1 : d < 5) : assartlaw03_ClassLeast.l0 (k + 2) n m (ofN n) d = assartlaw03_ClassLeast.l0 k n m (ofN n) (d + 1) := by
  simp only [assartlaw03_ClassLeast.l0]
  rw [if_pos h1]
  unfold class_Size.f class_Slots.f
  simp only [Option.bind_some]
  have hd : d = 0 ∨ d = 1 ∨ d = 2 ∨ d = 3 ∨ d = 4 := by omega
  have j : assartlaw03_ClassLeast.j1 (k + 1) n m (ofN n) d false = assartlaw03_ClassLeast.l0 k n m (ofN n) (d + 1) := by
    simp only [assartlaw03_ClassLeast.j1, Bool.false_eq_true, if_false]
    unfold class_Size.f
    simp only [Option.bind_some]
    rw [w64 (a := d + 1) (by omega) (by omega)]
    rcases hd with rfl | rfl | rfl | rfl | rfl <;> simp only [sizeN, Int.reduceEq, if_true, if_false] <;> rcases ofN_cases n with ⟨h, e⟩ | ⟨h, h', e⟩ | ⟨h, h', e⟩ | ⟨h, h', e⟩ | ⟨h, h', e⟩ | ⟨h, e⟩ <;> rw [e] <;> first
      | (rw [if_pos (by omega), if_neg (by simp; omega)])
      | (rw [if_neg (by omega), if_neg (by omega)])
  rcases hd with rfl | rfl | rfl | rfl | rfl
  · rw [if_pos (by decide +kernel), if_neg (by decide)]; exact j
  all_goals
    rw [if_pos (by decide +kernel), if_pos (by decide)]
    refine Eq.trans (congrArg (assartlaw03_ClassLeast.j1 (k + 1) n m (ofN n) _) ?_) j
    decide +kernel
end ClassLeastAid
open ClassLeastAid

theorem ClassLeast : assartlaw03_ClassLeast.Pure := by
  intro n m _ _
  refine ⟨11, ?_⟩
  unfold assartlaw03_ClassLeast.f class_Of.f
  simp only [Option.bind_some]
  rw [round 9 n m 0 (by omega) (by omega), round 7 n m (0 + 1) (by omega) (by omega), round 5 n m (0 + 1 + 1) (by omega) (by omega), round 3 n m (0 + 1 + 1 + 1) (by omega) (by omega), round 1 n m (0 + 1 + 1 + 1 + 1) (by omega) (by omega)]
  simp only [assartlaw03_ClassLeast.l0]
  rw [if_neg (by decide), lives_eq]
  unfold class_Of.f
  simp only [Option.bind_some]
  by_cases h : n > m
  · rw [if_pos h]
    rcases ofN_cases n with ⟨h, e⟩ | ⟨h, h', e⟩ | ⟨h, h', e⟩ | ⟨h, h', e⟩ | ⟨h, h', e⟩ | ⟨h, e⟩ <;> rw [e] <;> rfl
  rw [if_neg h]
  rcases ofN_cases n with ⟨g, e⟩ | ⟨g, g', e⟩ | ⟨g, g', e⟩ | ⟨g, g', e⟩ | ⟨g, g', e⟩ | ⟨g, e⟩ <;> rw [e] <;> rcases ofN_cases m with ⟨u, f⟩ | ⟨u, u', f⟩ | ⟨u, u', f⟩ | ⟨u, u', f⟩ | ⟨u, u', f⟩ | ⟨u, f⟩ <;> rw [f] <;> first
    | (exfalso; omega)
    | (rw [if_neg (by omega), if_neg (by omega), if_pos (by omega), if_pos (by omega)])
    | (rw [if_neg (by omega), if_pos (by omega), if_pos (by omega)])
    | (rw [if_pos (by omega), if_pos (by omega), if_pos (by omega)])

end Go.Proofs.Ytebhcnjffeoghaa.Pure

/- A block, wherever one of its kind may stand, stands at a multiple of its alignment. Conditions: none. -/
import Derived.Test.YtebhcnjffeoghaaYClassAlignedx1
namespace Go.Proofs.Ytebhcnjffeoghaa.Pure
open Go.RowKit Go.Proofs.Ytebhcnjffeoghaa.X Go.Proofs.Ytebhcnjffeoghaa.YClassAligned Go.Proofs.YtebhcnjffeoghaaW.PrintWords Go.Proofs.YtebhcnjffeoghaaW.PrintLast Go.Proofs.YtebhcnjffeoghaaW.PrintMore

namespace ClassAlignedAid
theorem wf64 {a : Int} (h : (Lit.int .i64 a).wf = true) : -9223372036854775808 ≤ a ∧ a ≤ 9223372036854775807 := by
  simpa [Lit.wf, IntKind.min, IntKind.max, IntKind.bits, IntKind.signed] using h
theorem w64 {a : Int} (h0 : -9223372036854775808 ≤ a) (h1 : a ≤ 9223372036854775807) : wrap64 a = a := by unfold wrap64; omega
theorem lives_eq : assartlaw03_lives.f = some true := by decide +kernel
theorem pages_lo {n : Int} (h : n < 1) : pagesN n = 0 := by unfold pagesN; rw [if_pos h]
theorem pages_hi {n : Int} (h : 1 ≤ n) (h1 : n ≤ 9223372036854775807) : pagesN n = (n - 1) / 32 + 1 := by
  unfold pagesN
  rw [if_neg (by omega), w64 (a := n - 1) (by omega) (by omega), Int.tdiv_eq_ediv_of_nonneg (by omega), w64 (a := (n - 1) / 32) (by omega) (by omega), w64 (by omega) (by omega)]
theorem ofN_cases (n : Int) : (n ≤ 1 ∧ ofN n = 0) ∨ (1 < n ∧ n ≤ 2 ∧ ofN n = 1) ∨ (2 < n ∧ n ≤ 4 ∧ ofN n = 2) ∨ (4 < n ∧ n ≤ 8 ∧ ofN n = 3) ∨ (8 < n ∧ n ≤ 16 ∧ ofN n = 4) ∨ (16 < n ∧ ofN n = -1) := by
  by_cases h0 : n ≤ 1
  · exact .inl ⟨h0, ofN_0 n h0⟩
  by_cases h1 : n ≤ 2
  · exact .inr (.inl ⟨by omega, h1, ofN_1 n h1 (by omega)⟩)
  by_cases h2 : n ≤ 4
  · exact .inr (.inr (.inl ⟨by omega, h2, ofN_2 n h2 (by omega)⟩))
  by_cases h3 : n ≤ 8
  · exact .inr (.inr (.inr (.inl ⟨by omega, h3, ofN_3 n h3 (by omega)⟩)))
  by_cases h4 : n ≤ 16
  · exact .inr (.inr (.inr (.inr (.inl ⟨by omega, h4, ofN_4 n h4 (by omega)⟩))))
  · exact .inr (.inr (.inr (.inr (.inr ⟨by omega, ofN_5 n (by omega)⟩))))
theorem al_cases {a : Int} (h : alignedB a = true) : a = 1 ∨ a = 2 ∨ a = 4 ∨ a = 8 ∨ a = 16 ∨ a = 32 ∨ a = 64 ∨ a = 128 := by
  unfold alignedB at h
  simp only [Bool.or_eq_true, beq_iff_eq] at h
  omega
theorem mx_le {a b c : Int} : mx a b ≤ c ↔ a ≤ c ∧ b ≤ c := by unfold mx; split <;> omega
theorem mx_1 {n : Int} (h0 : 0 ≤ n) (h : n ≤ 1048576) : 1 ≤ mx n 1 ∧ mx n 1 ≤ 1048576 ∧ n ≤ mx n 1 := by unfold mx; split <;> omega
theorem u64 (n : Int) : IntKind.u64.wrap n = n % 18446744073709551616 := by simp [IntKind.wrap, IntKind.bits, IntKind.signed]
theorem tm {a b : Int} (h0 : 0 ≤ a) : Int.tmod a b = a % b := Int.tmod_eq_emod_of_nonneg h0
theorem ww {x y : Int} (h0 : 0 ≤ x) (h1 : x ≤ 40000) (h2 : 0 ≤ y) (h3 : y ≤ 1000) : wrap64 (x + wrap64 y) = x + y := by unfold wrap64; omega
theorem ofN_all {m : Int} (h0 : 0 ≤ m) (h : m ≤ 16) : m ≤ sizeN (ofN m) ∧ ((ofN m = 0 ∧ sizeN (ofN m) = 1 ∧ slotsN (ofN m) = 32) ∨ (ofN m = 1 ∧ sizeN (ofN m) = 2 ∧ slotsN (ofN m) = 16) ∨ (ofN m = 2 ∧ sizeN (ofN m) = 4 ∧ slotsN (ofN m) = 8) ∨ (ofN m = 3 ∧ sizeN (ofN m) = 8 ∧ slotsN (ofN m) = 4) ∨ (ofN m = 4 ∧ sizeN (ofN m) = 16 ∧ slotsN (ofN m) = 2)) := by
  rcases ofN_cases m with ⟨h, e⟩ | ⟨h, h', e⟩ | ⟨h, h', e⟩ | ⟨h, h', e⟩ | ⟨h, h', e⟩ | ⟨h, e⟩ <;> rw [e] <;> simp [sizeN, slotsN] <;> omega
end ClassAlignedAid
open ClassAlignedAid

theorem ClassAligned : assartlaw03_ClassAligned.Pure := by
  intro n a page slot hn ha hp hs
  have n1 := wf64 hn
  unfold assartlaw03_ClassAligned.f
  rw [lives_eq]
  by_cases h : n > 1048576
  · rw [if_pos h]; rfl
  rw [if_neg h]
  unfold class_Fit.f
  simp only [Option.bind_some]
  have hpg : wrap64 (Int.tmod (IntKind.u64.wrap page) 1024) = page % 1024 := by
    rw [u64, tm (by omega), w64 (by omega) (by omega)]; omega
  rw [hpg]
  obtain ⟨pg, hpg'⟩ : ∃ pg, pg = page % 1024 := ⟨_, rfl⟩
  rw [← hpg']
  have q0 : 0 ≤ pg := by omega
  have q1 : pg < 1024 := by omega
  clear hpg hpg'
  by_cases h0 : n < 0
  · have : fitN n a = (0, 0, 0, 2) := by unfold fitN; rw [if_pos h0]
    rw [this]; rfl
  by_cases h1 : alignedB a = true
  · by_cases h2 : mx n a ≤ 16
    · have : fitN n a = (ofN (mx n a), 0, 0, 0) := by unfold fitN; rw [if_neg h0, if_pos h1, if_pos h2]
      rw [this]
      have hm := mx_le.1 (show mx n a ≤ mx n a by omega)
      obtain ⟨s1, s2⟩ := ofN_all (m := mx n a) (by omega) h2
      simp only [if_true]
      unfold class_Slots.f class_Size.f
      simp only [Option.bind_some]
      have hsl : ∀ s : Int, 1 ≤ s → s ≤ 32 → IntKind.u64.wrap (mx 1 s) = s := by
        intro s g0 g1
        rw [u64]; unfold mx; split <;> omega
      have hst : ∀ s : Int, 1 ≤ s → s ≤ 32 → 0 ≤ wrap64 (Int.tmod (IntKind.u64.wrap slot) s) ∧ wrap64 (Int.tmod (IntKind.u64.wrap slot) s) < s := by
        intro s g0 g1
        have e1 := Int.emod_nonneg (slot % 18446744073709551616) (show s ≠ 0 by omega)
        have e2 := Int.emod_lt_of_pos (slot % 18446744073709551616) (show 0 < s by omega)
        rw [u64, tm (by omega), w64 (by omega) (by omega)]
        exact ⟨e1, e2⟩
      have hsz : 1 ≤ sizeN (ofN (mx n a)) ∧ sizeN (ofN (mx n a)) ≤ 16 ∧ 1 ≤ slotsN (ofN (mx n a)) ∧ slotsN (ofN (mx n a)) ≤ 32 ∧ 0 ≤ ofN (mx n a) := by omega
      rw [if_pos (by omega), hsl _ (by omega) (by omega), if_neg (by omega)]
      obtain ⟨t0, t1⟩ := hst (slotsN (ofN (mx n a))) (by omega) (by omega)
      generalize wrap64 (Int.tmod (IntKind.u64.wrap slot) (slotsN (ofN (mx n a)))) = st at t0 t1 ⊢
      have ha8 := al_cases h1
      rw [if_neg (by omega)]
      have key : Int.tmod (wrap64 (wrap64 (128 + wrap64 (32 * pg)) + wrap64 (st * sizeN (ofN (mx n a))))) a = 0 := by
        rw [w64 (a := 32 * pg) (by omega) (by omega), w64 (a := 128 + 32 * pg) (by omega) (by omega)]
        rcases s2 with ⟨e0, e1, e2⟩ | ⟨e0, e1, e2⟩ | ⟨e0, e1, e2⟩ | ⟨e0, e1, e2⟩ | ⟨e0, e1, e2⟩
        all_goals
          rw [e1] at s1 ⊢
          rw [e2] at t1
          rcases ha8 with rfl | rfl | rfl | rfl | rfl | rfl | rfl | rfl
          all_goals first
            | (exfalso; omega)
            | (rw [ww (by omega) (by omega) (by omega) (by omega), tm (by omega)]; omega)
      rw [if_pos key, if_pos (by omega)]
    · have : fitN n a = (-1, pagesN (mx n 1), mx 1 (wrap64 (Int.tdiv a 32)), 0) := by unfold fitN; rw [if_neg h0, if_pos h1, if_neg h2]
      rw [this]
      obtain ⟨m1, m2, m3⟩ := mx_1 (show 0 ≤ n by omega) (show n ≤ 1048576 by omega)
      have hp := pages_hi m1 (by omega)
      simp only [if_true]
      rw [if_neg (by omega), hp]
      have ha8 := al_cases h1
      have hs : ∃ s, mx 1 (wrap64 (Int.tdiv a 32)) = s ∧ 1 ≤ s ∧ s ≤ 4 ∧ Int.tmod (wrap64 (128 + wrap64 (wrap64 (32 * pg) * s))) a = 0 := by
        rcases ha8 with rfl | rfl | rfl | rfl | rfl | rfl | rfl | rfl
        · refine ⟨1, by decide +kernel, by omega, by omega, ?_⟩
          rw [w64 (a := 32 * pg) (by omega) (by omega), w64 (a := 32 * pg * 1) (by omega) (by omega), w64 (by omega) (by omega), tm (by omega)]; omega
        · refine ⟨1, by decide +kernel, by omega, by omega, ?_⟩
          rw [w64 (a := 32 * pg) (by omega) (by omega), w64 (a := 32 * pg * 1) (by omega) (by omega), w64 (by omega) (by omega), tm (by omega)]; omega
        · refine ⟨1, by decide +kernel, by omega, by omega, ?_⟩
          rw [w64 (a := 32 * pg) (by omega) (by omega), w64 (a := 32 * pg * 1) (by omega) (by omega), w64 (by omega) (by omega), tm (by omega)]; omega
        · refine ⟨1, by decide +kernel, by omega, by omega, ?_⟩
          rw [w64 (a := 32 * pg) (by omega) (by omega), w64 (a := 32 * pg * 1) (by omega) (by omega), w64 (by omega) (by omega), tm (by omega)]; omega
        · refine ⟨1, by decide +kernel, by omega, by omega, ?_⟩
          rw [w64 (a := 32 * pg) (by omega) (by omega), w64 (a := 32 * pg * 1) (by omega) (by omega), w64 (by omega) (by omega), tm (by omega)]; omega
        · refine ⟨1, by decide +kernel, by omega, by omega, ?_⟩
          rw [w64 (a := 32 * pg) (by omega) (by omega), w64 (a := 32 * pg * 1) (by omega) (by omega), w64 (by omega) (by omega), tm (by omega)]; omega
        · refine ⟨2, by decide +kernel, by omega, by omega, ?_⟩
          rw [w64 (a := 32 * pg) (by omega) (by omega), w64 (a := 32 * pg * 2) (by omega) (by omega), w64 (by omega) (by omega), tm (by omega)]; omega
        · refine ⟨4, by decide +kernel, by omega, by omega, ?_⟩
          rw [w64 (a := 32 * pg) (by omega) (by omega), w64 (a := 32 * pg * 4) (by omega) (by omega), w64 (by omega) (by omega), tm (by omega)]; omega
      obtain ⟨s, es, g0, g1, key⟩ := hs
      rw [es, if_pos (by omega), if_neg (by omega), if_pos key, w64 (a := 32 * ((mx n 1 - 1) / 32 + 1)) (by omega) (by omega), if_pos (by omega), w64 (a := (mx n 1 - 1) / 32 + 1 - 1) (by omega) (by omega), w64 (a := 32 * ((mx n 1 - 1) / 32 + 1 - 1)) (by omega) (by omega), if_pos (by omega)]
  · have : fitN n a = (0, 0, 0, 2) := by unfold fitN; rw [if_neg h0, if_neg h1]
    rw [this]; rfl

end Go.Proofs.Ytebhcnjffeoghaa.Pure

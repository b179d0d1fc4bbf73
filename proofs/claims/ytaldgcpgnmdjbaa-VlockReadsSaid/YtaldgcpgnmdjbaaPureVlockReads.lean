/- What any word says as a lock's, and whether it is fresh, equals the reference's answer. Conditions: none. -/
import Derived.Test.YtaldgcpgnmdjbaaPVlockReadsx1
namespace Go.Proofs.Ytaldgcpgnmdjbaa.Pure
open Go.RowKit Go.Proofs.Ytaldgcpgnmdjbaa.PVlockReads Go.Proofs.YtaldgcpgnmdjbaaW.PrintWords Go.Proofs.YtaldgcpgnmdjbaaW.PrintLast

namespace VlockReadsAid
theorem wf64 {a : Int} (h : (Lit.int .i64 a).wf = true) : -9223372036854775808 ≤ a ∧ a ≤ 9223372036854775807 := by
  simpa [Lit.wf, IntKind.min, IntKind.max, IntKind.bits, IntKind.signed] using h
theorem wraps (n : Int) (h0 : 0 ≤ n) (h1 : n < 2 ^ 63) : IntKind.i64.wrap n = n := by rw [IntKind.wrap_i64]; omega
theorem and1 {a : Int} (h0 : 0 ≤ a) (h1 : a ≤ 9223372036854775807) : Go.bits .and .i64 a 1 = a % 2 :=
  bits_mask .i64 63 (by decide) wraps 1 (by decide) a h0 (by omega)
theorem or1 {a : Int} (h0 : 0 ≤ a) (h1 : a < 64) : Go.bits .or .i64 (wrap64 (a * 2)) 1 = 2 * a + 1 := by
  have e : wrap64 (a * 2) = 2 * a := by unfold wrap64; omega
  rw [e]
  exact bits_join .i64 63 (by decide) wraps 1 (2 * a) 1 (by omega) (by omega) (by omega) (by decide) (by decide) (by decide)
theorem vfree_eq (a : Int) : vlock_Free.f a = some (if a < 0 ∨ 1099511627776 < a then -1 else 2 * a) := by
  unfold vlock_Free.f
  by_cases h : a < 0
  · rw [if_pos h, if_pos (Or.inl h)]
  · rw [if_neg h]
    by_cases h2 : a > 1099511627776
    · rw [if_pos h2, if_pos (Or.inr h2)]
    · rw [if_neg h2, if_neg (by omega)]; congr 1; unfold wrap64; omega
theorem vheld_eq (a : Int) : vlock_Held.f a = some (if a < 0 ∨ 64 ≤ a then -1 else 2 * a + 1) := by
  unfold vlock_Held.f
  by_cases h : a < 0
  · rw [if_pos h, if_pos (Or.inl h)]
  · rw [if_neg h]
    by_cases h2 : a ≥ 64
    · rw [if_pos h2, if_pos (Or.inr h2)]
    · rw [if_neg h2, if_neg (by omega), or1 (by omega) (by omega)]
theorem vversion_eq {a : Int} (h1 : a ≤ 9223372036854775807) : vlock_Version.f a = some (if a < 0 ∨ a % 2 = 1 ∨ 1099511627776 < a / 2 then (0, false) else (a / 2, true)) := by
  unfold vlock_Version.f
  by_cases h : a < 0
  · rw [if_pos h, if_pos (Or.inl h)]
  · rw [if_neg h, and1 (by omega) h1]
    by_cases h2 : a % 2 = 1
    · rw [if_pos h2, if_pos (Or.inr (Or.inl h2))]
    · rw [if_neg h2]
      by_cases h3 : a / 2 > 1099511627776
      · rw [if_pos h3, if_pos (Or.inr (Or.inr h3))]
      · rw [if_neg h3, if_neg (by omega)]
theorem lives_eq : assartlaw05_lives.f = some true := by decide +kernel
theorem vowner_eq {a : Int} (h1 : a ≤ 9223372036854775807) : vlock_Owner.f a = some (if a < 0 ∨ a % 2 = 0 ∨ 64 ≤ a / 2 then (0, false) else (a / 2, true)) := by
  unfold vlock_Owner.f
  by_cases h : a < 0
  · rw [if_pos h, if_pos (Or.inl h)]
  · rw [if_neg h, and1 (by omega) h1]
    by_cases h2 : a % 2 = 0
    · rw [if_pos h2, if_pos (Or.inr (Or.inl h2))]
    · rw [if_neg h2]
      by_cases h3 : a / 2 ≥ 64
      · rw [if_pos h3, if_pos (Or.inr (Or.inr h3))]
      · rw [if_neg h3, if_neg (by omega)]
theorem vfresh_eq {a : Int} (h1 : a ≤ 9223372036854775807) (l : Int) : vlock_Fresh.f a l = some (decide (0 ≤ a ∧ a % 2 = 0 ∧ a / 2 ≤ 1099511627776 ∧ a / 2 ≤ l)) := by
  unfold vlock_Fresh.f
  rw [vversion_eq h1]; simp only [Option.bind_some]
  by_cases h : a < 0 ∨ a % 2 = 1 ∨ 1099511627776 < a / 2
  · rw [if_pos h]
    rw [if_neg (by simp)]
    congr 1; symm; apply decide_eq_false; omega
  · rw [if_neg h]
    rw [if_pos rfl]
    congr 1; apply decide_eq_decide.2; omega
theorem half {a : Int} (h0 : 0 ≤ a) (h1 : a ≤ 9223372036854775807) : wrap64 (Int.tdiv a 2) = a / 2 ∧ Int.tmod a 2 = a % 2 := by
  rw [Int.tdiv_eq_ediv_of_nonneg h0, Int.tmod_eq_emod_of_nonneg h0]
  exact ⟨by unfold wrap64; omega, rfl⟩
theorem rversion_eq {a : Int} (h1 : a ≤ 9223372036854775807) : assartref05_Version.f a = some (if a < 0 ∨ a % 2 = 1 ∨ 1099511627776 < a / 2 then (0, false) else (a / 2, true)) := by
  unfold assartref05_Version.f
  by_cases h : a < 0
  · rw [if_pos h, if_pos (Or.inl h)]
  · rw [if_neg h, (half (by omega) h1).1, (half (by omega) h1).2]
    by_cases h2 : a % 2 = 0
    · rw [if_pos h2]
      by_cases h3 : a / 2 > 1099511627776
      · rw [if_pos h3, if_pos (Or.inr (Or.inr h3))]
      · rw [if_neg h3, if_neg (by omega)]
    · rw [if_neg h2, if_pos (by omega)]
theorem rowner_eq {a : Int} (h1 : a ≤ 9223372036854775807) : assartref05_Owner.f a = some (if a < 0 ∨ a % 2 = 0 ∨ 64 ≤ a / 2 then (0, false) else (a / 2, true)) := by
  unfold assartref05_Owner.f
  by_cases h : a < 0
  · rw [if_pos h, if_pos (Or.inl h)]
  · rw [if_neg h, (half (by omega) h1).1, (half (by omega) h1).2]
    by_cases h2 : a % 2 = 1
    · rw [if_pos h2]
      by_cases h3 : a / 2 ≥ 64
      · rw [if_pos h3, if_pos (Or.inr (Or.inr h3))]
      · rw [if_neg h3, if_neg (by omega)]
    · rw [if_neg h2, if_pos (by omega)]
theorem rfresh_eq {a : Int} (h1 : a ≤ 9223372036854775807) (l : Int) : assartref05_Fresh.f a l = some (decide (0 ≤ a ∧ a % 2 = 0 ∧ a / 2 ≤ 1099511627776 ∧ a / 2 ≤ l)) := by
  unfold assartref05_Fresh.f
  rw [rversion_eq h1]; simp only [Option.bind_some]
  by_cases h : a < 0 ∨ a % 2 = 1 ∨ 1099511627776 < a / 2
  · rw [if_pos h]
    rw [if_neg (by simp)]
    congr 1; symm; apply decide_eq_false; omega
  · rw [if_neg h]
    rw [if_pos rfl]
    congr 1; apply decide_eq_decide.2; omega
end VlockReadsAid
open VlockReadsAid

theorem VlockReads : assartlaw05_VlockReads.Pure := by
  intro a b ha _
  have h1 := (wf64 ha).2
  unfold assartlaw05_VlockReads.f
  rw [vversion_eq h1, rversion_eq h1, vowner_eq h1, rowner_eq h1, vfresh_eq h1, rfresh_eq h1, lives_eq]
  simp

end Go.Proofs.Ytaldgcpgnmdjbaa.Pure

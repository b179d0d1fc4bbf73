/- Of any version and worker the word of vlock equals the reference's word. Conditions: none. -/
import Derived.Test.YtaldgcpgnmdjbaaPVlockWordsx1
namespace Go.Proofs.Ytaldgcpgnmdjbaa.Pure
open Go.RowKit Go.Proofs.Ytaldgcpgnmdjbaa.PVlockWords Go.Proofs.YtaldgcpgnmdjbaaW.PrintWords Go.Proofs.YtaldgcpgnmdjbaaW.PrintLast

namespace VlockWordsAid
theorem wf64 {a : Int} (h : (Lit.int .i64 a).wf = true) : -9223372036854775808 ≤ a ∧ a ≤ 9223372036854775807 := by
  simpa [Lit.wf, IntKind.min, IntKind.max, IntKind.bits, IntKind.signed] using h
theorem wraps (n : Int) (h0 : 0 ≤ n) (h1 : n < 2 ^ 63) : IntKind.i64.wrap n = n := by rw [IntKind.wrap_i64]; omega
theorem and1 {a : Int} (h0 : 0 ≤ a) (h1 : a ≤ 9223372036854775807) : Go.bits .and .i64 a 1 = a % 2 :=
  bits_mask .i64 63 (by decide) wraps 1 (by decide) a h0 (by omega)
theorem or1 {a : Int} (h0 : 0 ≤ a) (h1 : a < 64) : Go.bits .or .i64 (wrap64 (a * 2)) 1 = 2 * a + 1 := by
  have e : wrap64 (a * 2) = 2 * a := by unfold wrap64; omega
  rw [e]
  exact bits_join .i64 63 (by decide) wraps 1 (2 * a) 1 (by omega) (by omega) (by omega) (by decide) (by decide) (by decide)
theorem vfree_eq (a : Int) : vlock_Free.f a = some (if a < 0 ∨ 1099511627776 < a then -1 else 2 * a) := by
  unfold vlock_Free.f
  by_cases h : a < 0
  · rw [if_pos h, if_pos (Or.inl h)]
  · rw [if_neg h]
    by_cases h2 : a > 1099511627776
    · rw [if_pos h2, if_pos (Or.inr h2)]
    · rw [if_neg h2, if_neg (by omega)]; congr 1; unfold wrap64; omega
theorem vheld_eq (a : Int) : vlock_Held.f a = some (if a < 0 ∨ 64 ≤ a then -1 else 2 * a + 1) := by
  unfold vlock_Held.f
  by_cases h : a < 0
  · rw [if_pos h, if_pos (Or.inl h)]
  · rw [if_neg h]
    by_cases h2 : a ≥ 64
    · rw [if_pos h2, if_pos (Or.inr h2)]
    · rw [if_neg h2, if_neg (by omega), or1 (by omega) (by omega)]
theorem vversion_eq {a : Int} (h1 : a ≤ 9223372036854775807) : vlock_Version.f a = some (if a < 0 ∨ a % 2 = 1 ∨ 1099511627776 < a / 2 then (0, false) else (a / 2, true)) := by
  unfold vlock_Version.f
  by_cases h : a < 0
  · rw [if_pos h, if_pos (Or.inl h)]
  · rw [if_neg h, and1 (by omega) h1]
    by_cases h2 : a % 2 = 1
    · rw [if_pos h2, if_pos (Or.inr (Or.inl h2))]
    · rw [if_neg h2]
      by_cases h3 : a / 2 > 1099511627776
      · rw [if_pos h3, if_pos (Or.inr (Or.inr h3))]
      · rw [if_neg h3, if_neg (by omega)]
theorem lives_eq : assartlaw05_lives.f = some true := by decide +kernel
theorem refree_eq (a : Int) : assartref05_Free.f a = some (if a < 0 ∨ 1099511627776 < a then -1 else 2 * a) := by
  unfold assartref05_Free.f
  by_cases h : a < 0
  · rw [if_pos h, if_pos (Or.inl h)]
  · rw [if_neg h]
    by_cases h2 : a > 1099511627776
    · rw [if_pos h2, if_pos (Or.inr h2)]
    · rw [if_neg h2, if_neg (by omega)]; congr 1; unfold wrap64; omega
theorem reheld_eq (a : Int) : assartref05_Held.f a = some (if a < 0 ∨ 64 ≤ a then -1 else 2 * a + 1) := by
  unfold assartref05_Held.f
  by_cases h : a < 0
  · rw [if_pos h, if_pos (Or.inl h)]
  · rw [if_neg h]
    by_cases h2 : a ≥ 64
    · rw [if_pos h2, if_pos (Or.inr h2)]
    · rw [if_neg h2, if_neg (by omega)]; congr 1; unfold wrap64; omega
end VlockWordsAid
open VlockWordsAid

theorem VlockWords : assartlaw05_VlockWords.Pure := by
  intro a b _ _
  unfold assartlaw05_VlockWords.f
  rw [vfree_eq, refree_eq, vheld_eq, reheld_eq, lives_eq]
  simp

end Go.Proofs.Ytaldgcpgnmdjbaa.Pure

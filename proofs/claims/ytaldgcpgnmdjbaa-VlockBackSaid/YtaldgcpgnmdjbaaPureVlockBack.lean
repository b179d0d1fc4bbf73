/- What vlock tells of a word leads back to that word, no word is both free and held, and of a version or a worker that may not be there is none. Conditions: none. -/
import Derived.Test.YtaldgcpgnmdjbaaPVlockBackx1
namespace Go.Proofs.Ytaldgcpgnmdjbaa.Pure
open Go.RowKit Go.Proofs.Ytaldgcpgnmdjbaa.PVlockBack Go.Proofs.YtaldgcpgnmdjbaaW.PrintWords Go.Proofs.YtaldgcpgnmdjbaaW.PrintLast

namespace VlockBackAid
theorem wf64 {a : Int} (h : (Lit.int .i64 a).wf = true) : -9223372036854775808 ≤ a ∧ a ≤ 9223372036854775807 := by
  simpa [Lit.wf, IntKind.min, IntKind.max, IntKind.bits, IntKind.signed] using h
theorem wraps (n : Int) (h0 : 0 ≤ n) (h1 : n < 2 ^ 63) : IntKind.i64.wrap n = n := by rw [IntKind.wrap_i64]; omega
theorem and1 {a : Int} (h0 : 0 ≤ a) (h1 : a ≤ 9223372036854775807) : Go.bits .and .i64 a 1 = a % 2 :=
  bits_mask .i64 63 (by decide) wraps 1 (by decide) a h0 (by omega)
theorem or1 {a : Int} (h0 : 0 ≤ a) (h1 : a < 64) : Go.bits .or .i64 (wrap64 (a * 2)) 1 = 2 * a + 1 := by
  have e : wrap64 (a * 2) = 2 * a := by unfold wrap64; omega
  rw [e]
  exact bits_join .i64 63 (by decide) wraps 1 (2 * a) 1 (by omega) (by omega) (by omega) (by decide) (by decide) (by decide)
theorem vfree_eq (a : Int) : vlock_Free.f a = some (if a < 0 ∨ 1099511627776 < a then -1 else 2 * a) := by
  unfold vlock_Free.f
  by_cases h : a < 0
  · rw [if_pos h, if_pos (Or.inl h)]
  · rw [if_neg h]
    by_cases h2 : a > 1099511627776
    · rw [if_pos h2, if_pos (Or.inr h2)]
    · rw [if_neg h2, if_neg (by omega)]; congr 1; unfold wrap64; omega
theorem vheld_eq (a : Int) : vlock_Held.f a = some (if a < 0 ∨ 64 ≤ a then -1 else 2 * a + 1) := by
  unfold vlock_Held.f
  by_cases h : a < 0
  · rw [if_pos h, if_pos (Or.inl h)]
  · rw [if_neg h]
    by_cases h2 : a ≥ 64
    · rw [if_pos h2, if_pos (Or.inr h2)]
    · rw [if_neg h2, if_neg (by omega), or1 (by omega) (by omega)]
theorem vversion_eq {a : Int} (h1 : a ≤ 9223372036854775807) : vlock_Version.f a = some (if a < 0 ∨ a % 2 = 1 ∨ 1099511627776 < a / 2 then (0, false) else (a / 2, true)) := by
  unfold vlock_Version.f
  by_cases h : a < 0
  · rw [if_pos h, if_pos (Or.inl h)]
  · rw [if_neg h, and1 (by omega) h1]
    by_cases h2 : a % 2 = 1
    · rw [if_pos h2, if_pos (Or.inr (Or.inl h2))]
    · rw [if_neg h2]
      by_cases h3 : a / 2 > 1099511627776
      · rw [if_pos h3, if_pos (Or.inr (Or.inr h3))]
      · rw [if_neg h3, if_neg (by omega)]
theorem lives_eq : assartlaw05_lives.f = some true := by decide +kernel
theorem vowner_eq {a : Int} (h1 : a ≤ 9223372036854775807) : vlock_Owner.f a = some (if a < 0 ∨ a % 2 = 0 ∨ 64 ≤ a / 2 then (0, false) else (a / 2, true)) := by
  unfold vlock_Owner.f
  by_cases h : a < 0
  · rw [if_pos h, if_pos (Or.inl h)]
  · rw [if_neg h, and1 (by omega) h1]
    by_cases h2 : a % 2 = 0
    · rw [if_pos h2, if_pos (Or.inr (Or.inl h2))]
    · rw [if_neg h2]
      by_cases h3 : a / 2 ≥ 64
      · rw [if_pos h3, if_pos (Or.inr (Or.inr h3))]
      · rw [if_neg h3, if_neg (by omega)]
end VlockBackAid
open VlockBackAid

theorem VlockBack : assartlaw05_VlockBack.Pure := by
  intro n w hn hw
  have n1 := wf64 hn
  have w1 := wf64 hw
  refine ⟨1, ?_⟩
  have j : assartlaw05_VlockBack.j0 1 n false = some true := by
    simp only [assartlaw05_VlockBack.j0]
    rw [vfree_eq, vheld_eq, lives_eq]
    simp only [Option.bind_some, Bool.false_eq_true, if_false]
    have f1 : (if n < 0 ∨ 1099511627776 < n then (-1 : Int) else 2 * n) ≤ 9223372036854775807 := by split <;> omega
    have f2 : (if n < 0 ∨ 64 ≤ n then (-1 : Int) else 2 * n + 1) ≤ 9223372036854775807 := by split <;> omega
    rw [vversion_eq f1, vowner_eq f2]
    simp only [Option.bind_some]
    have e1 : (if (if n < 0 ∨ 1099511627776 < n then (-1 : Int) else 2 * n) < 0 ∨ (if n < 0 ∨ 1099511627776 < n then (-1 : Int) else 2 * n) % 2 = 1 ∨ 1099511627776 < (if n < 0 ∨ 1099511627776 < n then (-1 : Int) else 2 * n) / 2 then ((0, false) : Int × Bool) else ((if n < 0 ∨ 1099511627776 < n then (-1 : Int) else 2 * n) / 2, true)) = if n < 0 ∨ 1099511627776 < n then (0, false) else (n, true) := by
      by_cases h : n < 0 ∨ 1099511627776 < n
      · simp only [if_pos h]; rw [if_pos (by omega)]
      · simp only [if_neg h]; rw [if_neg (by omega)]; congr 1; omega
    have e2 : (if (if n < 0 ∨ 64 ≤ n then (-1 : Int) else 2 * n + 1) < 0 ∨ (if n < 0 ∨ 64 ≤ n then (-1 : Int) else 2 * n + 1) % 2 = 0 ∨ 64 ≤ (if n < 0 ∨ 64 ≤ n then (-1 : Int) else 2 * n + 1) / 2 then ((0, false) : Int × Bool) else ((if n < 0 ∨ 64 ≤ n then (-1 : Int) else 2 * n + 1) / 2, true)) = if n < 0 ∨ 64 ≤ n then (0, false) else (n, true) := by
      by_cases h : n < 0 ∨ 64 ≤ n
      · simp only [if_pos h]; rw [if_pos (by omega)]
      · simp only [if_neg h]; rw [if_neg (by omega)]; congr 1; omega
    rw [e1, e2]
    by_cases h : n < 0 ∨ 1099511627776 < n <;> by_cases h' : n < 0 ∨ 64 ≤ n <;> simp [h, h']
  unfold assartlaw05_VlockBack.f
  rw [vversion_eq w1.2, vowner_eq w1.2]
  simp only [Option.bind_some]
  by_cases h : w < 0 ∨ w % 2 = 1 ∨ 1099511627776 < w / 2
  · rw [if_pos h]
    by_cases h' : w < 0 ∨ w % 2 = 0 ∨ 64 ≤ w / 2
    · rw [if_pos h']; simpa using j
    · rw [if_neg h']
      simp only [if_true, Bool.false_eq_true, if_false]
      rw [vheld_eq, if_neg (by omega)]
      simp only [Option.bind_some]
      have e : (2 * (w / 2) + 1 != w) = false := by simp; omega
      rw [e]; exact j
  · rw [if_neg h, if_pos (show w < 0 ∨ w % 2 = 0 ∨ 64 ≤ w / 2 by omega)]
    rw [if_pos rfl, if_neg (by simp)]
    rw [vfree_eq, if_neg (by omega)]
    simp only [Option.bind_some]
    rw [if_pos (by omega)]; exact j

end Go.Proofs.Ytaldgcpgnmdjbaa.Pure

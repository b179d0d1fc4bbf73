/- A bit that is set is had, one that is cleared is not, no other bit changes, and set and cleared the word is as it was if the bit was 0. Conditions: none. -/
import Derived.Test.YtichbeeplpembaaYSlotsOnex1
import Derived.Test.YtichbeeplpembaaBits
namespace Go.Proofs.Ytichbeeplpembaa.Pure
open Go.RowKit Go.Proofs.Ytichbeeplpembaa.X Go.Proofs.Ytichbeeplpembaa.YSlotsOne Go.Proofs.YtichbeeplpembaaW.PrintWords Go.Proofs.YtichbeeplpembaaW.PrintLast Go.Proofs.YtichbeeplpembaaW.PrintMore

namespace SlotsOneAid
theorem wf64 {a : Int} (h : (Lit.int .i64 a).wf = true) : -9223372036854775808 ≤ a ∧ a ≤ 9223372036854775807 := by
  simpa [Lit.wf, IntKind.min, IntKind.max, IntKind.bits, IntKind.signed] using h
theorem w64 {a : Int} (h0 : -9223372036854775808 ≤ a) (h1 : a ≤ 9223372036854775807) : wrap64 a = a := by unfold wrap64; omega
theorem lives_eq : assartlaw04_lives.f = some true := by decide +kernel
theorem hasE (x i : Int) : slots_Has.f x i = some (hasB x i) := rfl
theorem setE (x i : Int) : slots_Set.f x i = some (setN x i) := rfl
theorem clrE (x i : Int) : slots_Clear.f x i = some (clrN x i) := rfl
theorem firstE (x n : Int) : slots_First.f x n = some (firstFrom x (placesN n)) := rfl
theorem countE (x n : Int) : slots_Count.f x n = some (countFrom x (placesN n) : Int) := rfl
theorem listE (x n : Int) : slots_List.f x n = some (listFrom x (placesN n)) := rfl
end SlotsOneAid
open SlotsOneAid

theorem SlotsOne : assartlaw04_SlotsOne.Pure := by
  intro x i j hx _ _
  have hw := wf64 hx
  refine ⟨2, ?_⟩
  unfold assartlaw04_SlotsOne.f
  by_cases hi : 0 ≤ i ∧ i < 32
  · rw [if_neg (by omega), decide_eq_false (by omega)]
    obtain ⟨n, rfl⟩ := Int.eq_ofNat_of_zero_le hi.1
    have hn : n < 32 := by omega
    have key : assartlaw04_SlotsOne.j1 1 x n (setN x n) (clrN x n) false = some true := by
      simp only [assartlaw04_SlotsOne.j1, Bool.false_eq_true, if_false]
      rw [hasE, setE, clrE, lives_eq]
      simp only [Option.bind_some]
      by_cases hb : hasB x n = true
      · rw [if_pos hb, if_pos (set_had x n hn hw.1 hw.2 hb), if_pos (set_clr x n hn hw.1 hw.2 hb)]
      · have hb' : hasB x n = false := by simpa using hb
        rw [if_neg hb, if_pos (clr_had x n hn hw.1 hw.2 hb'), if_pos (clr_set x n hn hw.1 hw.2 hb')]
    simp only [assartlaw04_SlotsOne.j0, Bool.false_eq_true, if_false]
    rw [setE, clrE]
    simp only [Option.bind_some]
    rw [hasE, hasE, has_set x n n hn, has_clr x n n hn]
    simp only [Option.bind_some, decide_true, Bool.or_true, Bool.not_true, Bool.and_false, if_true, Bool.false_eq_true, if_false]
    by_cases hj : j = (n : Int)
    · rw [if_pos hj]; exact key
    · rw [if_neg hj, hasE, hasE, hasE]
      simp only [Option.bind_some]
      have e1 : hasB (setN x n) j = hasB x j ∧ hasB (clrN x n) j = hasB x j := by
        by_cases hjr : 0 ≤ j
        · obtain ⟨m, rfl⟩ := Int.eq_ofNat_of_zero_le hjr
          rw [has_set x n m hn, has_clr x n m hn, decide_eq_false (by omega)]; simp
        · rw [has_out _ _ (by omega), has_out _ _ (by omega), has_out _ _ (by omega)]; simp
      rw [e1.1, e1.2]
      simp only [bne_self_eq_false, Bool.false_eq_true, if_false]
      exact key
  · have j0 : assartlaw04_SlotsOne.j0 2 x i j true = some true := by
      simp only [assartlaw04_SlotsOne.j0, if_true]
      rw [setE, clrE, hasE, lives_eq, set_out x i (by omega) hw.1 hw.2, clr_out x i (by omega) hw.1 hw.2, has_out x i (by omega)]
      simp
    by_cases h0 : i < 0
    · rw [if_pos h0]; exact j0
    · rw [if_neg h0, decide_eq_true (by omega)]; exact j0

end Go.Proofs.Ytichbeeplpembaa.Pure

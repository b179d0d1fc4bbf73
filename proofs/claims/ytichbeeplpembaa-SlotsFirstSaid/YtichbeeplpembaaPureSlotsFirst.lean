/- The first bit that is 0 is 0 and all below it are 1, with it set there is one more, and without one all are 1. Conditions: none. -/
import Derived.Test.YtichbeeplpembaaYSlotsFirstx1
import Derived.Test.YtichbeeplpembaaBits
namespace Go.Proofs.Ytichbeeplpembaa.Pure
open Go.RowKit Go.Proofs.Ytichbeeplpembaa.X Go.Proofs.Ytichbeeplpembaa.YSlotsFirst Go.Proofs.YtichbeeplpembaaW.PrintWords Go.Proofs.YtichbeeplpembaaW.PrintLast Go.Proofs.YtichbeeplpembaaW.PrintMore

namespace SlotsFirstAid
theorem wf64 {a : Int} (h : (Lit.int .i64 a).wf = true) : -9223372036854775808 ≤ a ∧ a ≤ 9223372036854775807 := by
  simpa [Lit.wf, IntKind.min, IntKind.max, IntKind.bits, IntKind.signed] using h
theorem w64 {a : Int} (h0 : -9223372036854775808 ≤ a) (h1 : a ≤ 9223372036854775807) : wrap64 a = a := by unfold wrap64; omega
theorem lives_eq : assartlaw04_lives.f = some true := by decide +kernel
theorem hasE (x i : Int) : slots_Has.f x i = some (hasB x i) := rfl
theorem setE (x i : Int) : slots_Set.f x i = some (setN x i) := rfl
theorem clrE (x i : Int) : slots_Clear.f x i = some (clrN x i) := rfl
theorem firstE (x n : Int) : slots_First.f x n = some (firstFrom x (placesN n)) := rfl
theorem countE (x n : Int) : slots_Count.f x n = some (countFrom x (placesN n) : Int) := rfl
theorem listE (x n : Int) : slots_List.f x n = some (listFrom x (placesN n)) := rfl
theorem count_all (x : Int) (c : Nat) (h : ∀ i, i < c → hasB x i = true) : countFrom x c = c := by
  unfold countFrom countL
  rw [List.filter_eq_self.2, upto_length]
  intro p hp
  simp only [upto, List.mem_map, List.mem_range] at hp
  obtain ⟨i, hi, rfl⟩ := hp
  exact h i hi
theorem first_cases (x : Int) (c : Nat) : (firstFrom x c = -1 ∧ ∀ i, i < c → hasB x i = true) ∨ ∃ k : Nat, k < c ∧ firstFrom x c = k ∧ hasB x k = false ∧ ∀ i, i < k → hasB x i = true := by
  by_cases h : ∃ k, k < c ∧ hasB x k = false ∧ ∀ i, i < k → hasB x i = true
  · obtain ⟨k, hk, hb, ha⟩ := h
    refine .inr ⟨k, hk, firstFrom_some x c k hk ?_ hb, hb, ha⟩
    intro p hp
    simp only [upto, List.mem_map, List.mem_range] at hp
    obtain ⟨i, hi, rfl⟩ := hp
    exact ha i hi
  · have ha : ∀ i, i < c → hasB x i = true := by
      intro i
      induction i using Nat.strongRecOn with
      | _ i ih =>
        intro hi
        cases hb : hasB x i with
        | true => rfl
        | false => exact absurd ⟨i, hi, hb, fun q hq => ih q hq (by omega)⟩ h
    refine .inl ⟨firstFrom_none x c ?_, ha⟩
    intro p hp
    simp only [upto, List.mem_map, List.mem_range] at hp
    obtain ⟨i, hi, rfl⟩ := hp
    exact ha i hi
theorem count_succ (x : Int) (c : Nat) : countFrom x (c + 1) = countFrom x c + if hasB x c = true then 1 else 0 := by
  unfold countFrom
  rw [upto_succ]
  cases hb : hasB x c with
  | true => rw [countL_hit]; rfl
  | false => rw [countL_miss]; rfl
theorem count_set (x : Int) (k : Nat) (h32 : k < 32) (hb : hasB x k = false) (c : Nat) : countFrom (setN x k) c = countFrom x c + if k < c then 1 else 0 := by
  induction c with
  | zero => rfl
  | succ c ih =>
    rw [count_succ, count_succ, ih, has_set x k c h32]
    by_cases e : c = k
    · subst e; rw [hb]; simp
    · rw [decide_eq_false e, Bool.or_false]
      by_cases h : k < c
      · rw [if_pos h, if_pos (show k < c + 1 by omega)]; omega
      · rw [if_neg h, if_neg (show ¬ k < c + 1 by omega)]; omega
theorem count_le (x : Int) (c : Nat) : countFrom x c ≤ c := by
  unfold countFrom
  have := countL_le (upto (fun j => ((j : Int), hasB x j)) c)
  rwa [upto_length] at this
theorem places_mx (n : Int) : mx 0 (mn n 32) = (placesN n : Int) := by
  have := placesN_cases n
  unfold mx mn; split <;> split at * <;> omega
end SlotsFirstAid
open SlotsFirstAid

theorem SlotsFirst : assartlaw04_SlotsFirst.Pure := by
  intro x n hx _
  have hw := wf64 hx
  refine ⟨1, ?_⟩
  unfold assartlaw04_SlotsFirst.f
  rw [firstE, places_mx]
  simp only [Option.bind_some]
  have hc := placesN_cases n
  rcases first_cases x (placesN n) with ⟨e, ha⟩ | ⟨k, hk, e, hb, ha⟩
  · rw [e, if_pos (by decide), if_pos rfl, countE, lives_eq]
    simp only [Option.bind_some]
    rw [count_all x _ ha, if_pos rfl]
  · rw [e, if_neg (by omega), if_neg (by omega), hasE]
    simp only [Option.bind_some]
    rw [hb, if_neg (by simp), countE]
    simp only [Option.bind_some]
    have hpk : placesN (k : Int) = k := by have := placesN_cases (k : Int); omega
    rw [hpk, count_all x k ha]
    simp only [bne_self_eq_false, assartlaw04_SlotsFirst.j0, Bool.false_eq_true, if_false]
    rw [setE, Option.bind_some, countE, Option.bind_some, countE, Option.bind_some, lives_eq, Option.bind_some]
    have := count_le x (placesN n)
    rw [count_set x k (by omega) hb, if_pos hk, w64 (by omega) (by omega), if_pos (by omega)]

end Go.Proofs.Ytichbeeplpembaa.Pure

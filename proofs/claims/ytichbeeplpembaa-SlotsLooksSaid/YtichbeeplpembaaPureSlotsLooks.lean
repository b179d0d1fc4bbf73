/- Of any word the first bit that is 0, how many are 1, and which, are the reference's. Conditions: none. -/
import Derived.Test.YtichbeeplpembaaYSlotsLooksx2
import Derived.Test.YtichbeeplpembaaBits
namespace Go.Proofs.Ytichbeeplpembaa.Pure
open Go.RowKit Go.Proofs.Ytichbeeplpembaa.X Go.Proofs.Ytichbeeplpembaa.YSlotsLooks Go.Proofs.YtichbeeplpembaaW.PrintWords Go.Proofs.YtichbeeplpembaaW.PrintLast Go.Proofs.YtichbeeplpembaaW.PrintMore

namespace SlotsLooksAid
theorem wf64 {a : Int} (h : (Lit.int .i64 a).wf = true) : -9223372036854775808 ≤ a ∧ a ≤ 9223372036854775807 := by
  simpa [Lit.wf, IntKind.min, IntKind.max, IntKind.bits, IntKind.signed] using h
theorem w64 {a : Int} (h0 : -9223372036854775808 ≤ a) (h1 : a ≤ 9223372036854775807) : wrap64 a = a := by unfold wrap64; omega
theorem lives_eq : assartlaw04_lives.f = some true := by decide +kernel
theorem hasE (x i : Int) : slots_Has.f x i = some (hasB x i) := rfl
theorem setE (x i : Int) : slots_Set.f x i = some (setN x i) := rfl
theorem clrE (x i : Int) : slots_Clear.f x i = some (clrN x i) := rfl
theorem firstE (x n : Int) : slots_First.f x n = some (firstFrom x (placesN n)) := rfl
theorem countE (x n : Int) : slots_Count.f x n = some (countFrom x (placesN n) : Int) := rfl
theorem listE (x n : Int) : slots_List.f x n = some (listFrom x (placesN n)) := rfl
theorem u64 (n : Int) : IntKind.u64.wrap n = n % 18446744073709551616 := by simp [IntKind.wrap, IntKind.bits, IntKind.signed]
theorem bit_loop (d : Nat) : ∀ (k : Nat) (i p u : Nat), i = p + d → i < 32 → u < 18446744073709551616 → d < k → assartref04_bit.l0 k (i : Int) (u : Int) (p : Int) = some (((u / 2 ^ d) % 2 : Nat) : Int) := by
  induction d with
  | zero =>
    intro k i p u hi h32 hu hk
    obtain ⟨k, rfl⟩ : ∃ m, k = m + 1 := ⟨k - 1, by omega⟩
    simp only [assartref04_bit.l0]
    rw [if_neg (by omega), Int.tmod_eq_emod_of_nonneg (by omega)]
    simp
  | succ d ih =>
    intro k i p u hi h32 hu hk
    obtain ⟨k, rfl⟩ : ∃ m, k = m + 1 := ⟨k - 1, by omega⟩
    simp only [assartref04_bit.l0]
    rw [if_pos (by omega), w64 (a := (p : Int) + 1) (by omega) (by omega), Int.tdiv_eq_ediv_of_nonneg (by omega), u64]
    have e : ((u : Int) / 2) % 18446744073709551616 = ((u / 2 : Nat) : Int) := by omega
    rw [e]
    have := ih k i (p + 1) (u / 2) (by omega) h32 (by omega) (by omega)
    rw [show ((p : Int) + 1) = ((p + 1 : Nat) : Int) by omega, this, Nat.div_div_eq_div_mul, Nat.pow_succ, Nat.mul_comm]
theorem unat (x : Int) : IntKind.u64.wrap x = ((BitVec.ofInt 64 x).toNat : Int) := by
  rw [u64, BitVec.toNat_ofInt]; omega
theorem rhas (x i : Int) (k : Nat) (hk : 40 ≤ k) : assartref04_Has.f k x i = some (hasB x i) := by
  unfold assartref04_Has.f assartref04_bits.f
  by_cases h0 : i ≥ 0
  · rw [if_pos h0]
    simp only [Option.bind_some]
    by_cases h1 : i < 32
    · rw [decide_eq_true h1, if_pos rfl]
      unfold assartref04_bit.f
      obtain ⟨j, rfl⟩ := Int.eq_ofNat_of_zero_le h0
      rw [unat]
      have hu : (BitVec.ofInt 64 x).toNat < 18446744073709551616 := (BitVec.ofInt 64 x).isLt
      have := bit_loop j k j 0 (BitVec.ofInt 64 x).toNat (by omega) (by omega) hu (by omega)
      rw [show (0 : Int) = ((0 : Nat) : Int) from rfl, this]
      simp only [Option.bind_some]
      rw [has_lsb x j (by omega), BitVec.getLsbD, Nat.testBit_eq_decide_div_mod_eq]
      congr 1
      by_cases e : (BitVec.ofInt 64 x).toNat / 2 ^ j % 2 = 1
      · rw [e]; simp
      · have : (BitVec.ofInt 64 x).toNat / 2 ^ j % 2 = 0 := by omega
        rw [this]; simp
    · rw [decide_eq_false h1, if_neg (by simp), has_out x i (by omega)]
  · rw [if_neg h0]
    simp only [Option.bind_some]
    rw [if_neg (by simp), has_out x i (by omega)]
theorem places_test (p : Nat) (n : Int) (hp : p ≤ 32) : (p < placesN n) ↔ ((p : Int) < 32 ∧ (p : Int) < n) := by
  have := placesN_cases n
  omega
theorem first_step (k p : Nat) (x n : Int) (hp : p < placesN n) (hk : 40 ≤ k) : assartref04_First.l0 (k + 2) x n p = if hasB x p = true then assartref04_First.l0 k x n ((p + 1 : Nat) : Int) else some (p : Int) := by
  have := placesN_cases n
  have ht := (places_test p n (by omega)).1 hp
  simp only [assartref04_First.l0]
  rw [if_pos ht.1, decide_eq_true ht.2]
  simp only [assartref04_First.j1, if_true]
  rw [rhas x p k hk]
  simp only [Option.bind_some]
  rw [w64 (a := (p : Int) + 1) (by omega) (by omega)]
  rfl
theorem first_end (k : Nat) (x n : Int) : assartref04_First.l0 (k + 2) x n (placesN n : Int) = some (-1) := by
  have := placesN_cases n
  simp only [assartref04_First.l0]
  by_cases h : (placesN n : Int) < 32
  · rw [if_pos h, decide_eq_false (by omega)]; simp [assartref04_First.j1]
  · rw [if_neg h]; simp [assartref04_First.j1]
theorem first_loop (x n : Int) (d : Nat) : ∀ (p k : Nat), p + d = placesN n → 2 * d + 42 ≤ k → (∀ q ∈ upto (fun j => ((j : Int), hasB x j)) p, q.2 = true) → assartref04_First.l0 k x n (p : Int) = some (firstFrom x (placesN n)) := by
  induction d with
  | zero =>
    intro p k hp hk ha
    obtain rfl : p = placesN n := by omega
    obtain ⟨k, rfl⟩ : ∃ m, k = m + 2 := ⟨k - 2, by omega⟩
    rw [first_end, firstFrom_none x _ ha]
  | succ d ih =>
    intro p k hp hk ha
    obtain ⟨k, rfl⟩ : ∃ m, k = m + 2 := ⟨k - 2, by omega⟩
    rw [first_step k p x n (by omega) (by omega)]
    cases hb : hasB x p with
    | true =>
      rw [if_pos rfl]
      refine ih (p + 1) k (by omega) (by omega) ?_
      rw [upto_succ]
      intro q hq
      rcases List.mem_append.1 hq with h | h
      · exact ha q h
      · simp at h; subst h; exact hb
    | false =>
      rw [if_neg (by simp), firstFrom_some x _ p (by omega) ha hb]
theorem list_step (k p : Nat) (x n : Int) (l : List Int) (hl : l.length ≤ 40) (hp : p < placesN n) (hk : 40 ≤ k) : assartref04_List.l0 (k + 2) x n l p = assartref04_List.l0 k x n (if hasB x p = true then l ++ [(p : Int)] else l) ((p + 1 : Nat) : Int) := by
  have := placesN_cases n
  have ht := (places_test p n (by omega)).1 hp
  simp only [assartref04_List.l0]
  rw [if_pos ht.1, decide_eq_true ht.2]
  simp only [assartref04_List.j1, if_true]
  rw [rhas x p k hk]
  simp only [Option.bind_some]
  rw [w64 (a := (p : Int) + 1) (by omega) (by omega), if_pos (show l.length < 17592186044416 by omega)]
  cases hb : hasB x p <;> simp
theorem list_end (k : Nat) (x n : Int) (l : List Int) : assartref04_List.l0 (k + 2) x n l (placesN n : Int) = some l := by
  have := placesN_cases n
  simp only [assartref04_List.l0]
  by_cases h : (placesN n : Int) < 32
  · rw [if_pos h, decide_eq_false (by omega)]; simp [assartref04_List.j1]
  · rw [if_neg h]; simp [assartref04_List.j1]
theorem list_loop (x n : Int) (d : Nat) : ∀ (p k : Nat), p + d = placesN n → 2 * d + 42 ≤ k → assartref04_List.l0 k x n (listFrom x p) (p : Int) = some (listFrom x (placesN n)) := by
  induction d with
  | zero =>
    intro p k hp hk
    obtain rfl : p = placesN n := by omega
    obtain ⟨k, rfl⟩ : ∃ m, k = m + 2 := ⟨k - 2, by omega⟩
    rw [list_end]
  | succ d ih =>
    intro p k hp hk
    have := placesN_cases n
    obtain ⟨k, rfl⟩ : ∃ m, k = m + 2 := ⟨k - 2, by omega⟩
    have hl : (listFrom x p).length ≤ 40 := by
      have := listL_le (upto (fun j => ((j : Int), hasB x j)) p)
      rw [upto_length] at this
      unfold listFrom; omega
    rw [list_step k p x n _ hl (by omega) (by omega)]
    have e : (if hasB x p = true then listFrom x p ++ [(p : Int)] else listFrom x p) = listFrom x (p + 1) := by
      unfold listFrom
      rw [upto_succ]
      cases hb : hasB x p with
      | true => rw [if_pos rfl, listL_hit]
      | false => rw [if_neg (by simp), listL_miss]
    rw [e]
    exact ih (p + 1) k (by omega) (by omega)
theorem same_loop (l : List Int) (hl : l.length ≤ 40) (d : Nat) : ∀ (p k : Nat), p + d = l.length → d < k → assartlaw01_Ints_Same.l0 k l l (p : Int) = some true := by
  induction d with
  | zero =>
    intro p k hp hk
    obtain ⟨k, rfl⟩ : ∃ m, k = m + 1 := ⟨k - 1, by omega⟩
    simp only [assartlaw01_Ints_Same.l0]
    rw [if_neg (by omega)]
  | succ d ih =>
    intro p k hp hk
    obtain ⟨k, rfl⟩ : ∃ m, k = m + 1 := ⟨k - 1, by omega⟩
    simp only [assartlaw01_Ints_Same.l0]
    rw [if_pos (by omega), if_pos (by omega), if_pos (by omega), if_pos (by simp), w64 (a := (p : Int) + 1) (by omega) (by omega)]
    exact ih (p + 1) k (by omega) (by omega)
theorem count_list (x : Int) (c : Nat) : (countFrom x c : Int) = ((listFrom x c).length : Int) := by
  unfold countFrom listFrom countL listL; simp
theorem list_le (x n : Int) : (listFrom x (placesN n)).length ≤ 40 := by
  have := listL_le (upto (fun j => ((j : Int), hasB x j)) (placesN n))
  rw [upto_length] at this
  have := placesN_cases n
  unfold listFrom; omega
end SlotsLooksAid
open SlotsLooksAid

theorem SlotsLooks : assartlaw04_SlotsLooks.Pure := by
  intro x n hx _
  have hc := placesN_cases n
  refine ⟨200, ?_⟩
  unfold assartlaw04_SlotsLooks.f assartref04_Count.f assartref04_First.f assartref04_List.f
  rw [firstE, countE, listE]
  have e1 := first_loop x n (placesN n) 0 200 (by omega) (by omega) (by intro q hq; simp [upto] at hq)
  have e2 := list_loop x n (placesN n) 0 200 (by omega) (by omega)
  rw [show listFrom x 0 = [] from rfl] at e2
  simp only [Int.natCast_zero] at e1 e2
  rw [e1, e2]
  simp only [Option.bind_some]
  rw [if_pos (by simp), count_list, if_pos (by simp)]
  unfold assartlaw01_Ints_Same.f
  have e3 := same_loop (listFrom x (placesN n)) (list_le x n) (listFrom x (placesN n)).length 0 200 (by omega) (by have := list_le x n; omega)
  simp only [Int.natCast_zero] at e3
  rw [if_pos (by simp), e3, lives_eq]
  rfl

end Go.Proofs.Ytichbeeplpembaa.Pure

/- Of any word and bit, whether it is had, and the word with it and without it, are the reference's. Conditions: none. -/
import Derived.Test.YtichbeeplpembaaYSlotsTurnsx1
import Derived.Test.YtichbeeplpembaaBits
namespace Go.Proofs.Ytichbeeplpembaa.Pure
open Go.RowKit Go.Proofs.Ytichbeeplpembaa.X Go.Proofs.Ytichbeeplpembaa.YSlotsTurns Go.Proofs.YtichbeeplpembaaW.PrintWords Go.Proofs.YtichbeeplpembaaW.PrintLast Go.Proofs.YtichbeeplpembaaW.PrintMore

namespace SlotsTurnsAid
theorem wf64 {a : Int} (h : (Lit.int .i64 a).wf = true) : -9223372036854775808 ≤ a ∧ a ≤ 9223372036854775807 := by
  simpa [Lit.wf, IntKind.min, IntKind.max, IntKind.bits, IntKind.signed] using h
theorem w64 {a : Int} (h0 : -9223372036854775808 ≤ a) (h1 : a ≤ 9223372036854775807) : wrap64 a = a := by unfold wrap64; omega
theorem lives_eq : assartlaw04_lives.f = some true := by decide +kernel
theorem hasE (x i : Int) : slots_Has.f x i = some (hasB x i) := rfl
theorem setE (x i : Int) : slots_Set.f x i = some (setN x i) := rfl
theorem clrE (x i : Int) : slots_Clear.f x i = some (clrN x i) := rfl
theorem firstE (x n : Int) : slots_First.f x n = some (firstFrom x (placesN n)) := rfl
theorem countE (x n : Int) : slots_Count.f x n = some (countFrom x (placesN n) : Int) := rfl
theorem listE (x n : Int) : slots_List.f x n = some (listFrom x (placesN n)) := rfl
theorem u64 (n : Int) : IntKind.u64.wrap n = n % 18446744073709551616 := by simp [IntKind.wrap, IntKind.bits, IntKind.signed]
theorem bit_loop (d : Nat) : ∀ (k : Nat) (i p u : Nat), i = p + d → i < 32 → u < 18446744073709551616 → d < k → assartref04_bit.l0 k (i : Int) (u : Int) (p : Int) = some (((u / 2 ^ d) % 2 : Nat) : Int) := by
  induction d with
  | zero =>
    intro k i p u hi h32 hu hk
    obtain ⟨k, rfl⟩ : ∃ m, k = m + 1 := ⟨k - 1, by omega⟩
    simp only [assartref04_bit.l0]
    rw [if_neg (by omega), Int.tmod_eq_emod_of_nonneg (by omega)]
    simp
  | succ d ih =>
    intro k i p u hi h32 hu hk
    obtain ⟨k, rfl⟩ : ∃ m, k = m + 1 := ⟨k - 1, by omega⟩
    simp only [assartref04_bit.l0]
    rw [if_pos (by omega), w64 (a := (p : Int) + 1) (by omega) (by omega), Int.tdiv_eq_ediv_of_nonneg (by omega), u64]
    have e : ((u : Int) / 2) % 18446744073709551616 = ((u / 2 : Nat) : Int) := by omega
    rw [e]
    have := ih k i (p + 1) (u / 2) (by omega) h32 (by omega) (by omega)
    rw [show ((p : Int) + 1) = ((p + 1 : Nat) : Int) by omega, this, Nat.div_div_eq_div_mul, Nat.pow_succ, Nat.mul_comm]
theorem unat (x : Int) : IntKind.u64.wrap x = ((BitVec.ofInt 64 x).toNat : Int) := by
  rw [u64, BitVec.toNat_ofInt]; omega
theorem rhas (x i : Int) (k : Nat) (hk : 40 ≤ k) : assartref04_Has.f k x i = some (hasB x i) := by
  unfold assartref04_Has.f assartref04_bits.f
  by_cases h0 : i ≥ 0
  · rw [if_pos h0]
    simp only [Option.bind_some]
    by_cases h1 : i < 32
    · rw [decide_eq_true h1, if_pos rfl]
      unfold assartref04_bit.f
      obtain ⟨j, rfl⟩ := Int.eq_ofNat_of_zero_le h0
      rw [unat]
      have hu : (BitVec.ofInt 64 x).toNat < 18446744073709551616 := (BitVec.ofInt 64 x).isLt
      have := bit_loop j k j 0 (BitVec.ofInt 64 x).toNat (by omega) (by omega) hu (by omega)
      rw [show (0 : Int) = ((0 : Nat) : Int) from rfl, this]
      simp only [Option.bind_some]
      rw [has_lsb x j (by omega), BitVec.getLsbD, Nat.testBit_eq_decide_div_mod_eq]
      congr 1
      by_cases e : (BitVec.ofInt 64 x).toNat / 2 ^ j % 2 = 1
      · rw [e]; simp
      · have : (BitVec.ofInt 64 x).toNat / 2 ^ j % 2 = 0 := by omega
        rw [this]; simp
    · rw [decide_eq_false h1, if_neg (by simp), has_out x i (by omega)]
  · rw [if_neg h0]
    simp only [Option.bind_some]
    rw [if_neg (by simp), has_out x i (by omega)]
theorem worth_loop (d : Nat) : ∀ (k : Nat) (i p u : Nat), i = p + d → i < 32 → u = 2 ^ p → d < k → assartref04_worth.l0 k (i : Int) (u : Int) (p : Int) = some ((2 ^ i : Nat) : Int) := by
  induction d with
  | zero =>
    intro k i p u hi h32 hu hk
    obtain ⟨k, rfl⟩ : ∃ m, k = m + 1 := ⟨k - 1, by omega⟩
    simp only [assartref04_worth.l0]
    rw [if_neg (by omega), hu, hi]; rfl
  | succ d ih =>
    intro k i p u hi h32 hu hk
    obtain ⟨k, rfl⟩ : ∃ m, k = m + 1 := ⟨k - 1, by omega⟩
    simp only [assartref04_worth.l0]
    have hp : 2 ^ p < 2 ^ 32 := Nat.pow_lt_pow_right (by decide) (by omega)
    rw [if_pos (by omega), w64 (a := (p : Int) + 1) (by omega) (by omega), u64]
    have e : ((u : Int) * 2) % 18446744073709551616 = ((u * 2 : Nat) : Int) := by omega
    rw [e]
    have := ih k i (p + 1) (u * 2) (by omega) h32 (by rw [hu, Nat.pow_succ]) (by omega)
    rw [show ((p : Int) + 1) = ((p + 1 : Nat) : Int) by omega, this]
theorem rworth (i : Nat) (h : i < 32) (k : Nat) (hk : 40 ≤ k) : assartref04_worth.f k (i : Int) = some ((2 ^ i : Nat) : Int) :=
  worth_loop i k i 0 1 (by omega) h rfl (by omega)
theorem back (v : BitVec 64) : wrap64 (v.toNat : Int) = v.toInt := by
  rw [BitVec.toInt_eq_toNat_cond]
  have := v.isLt
  unfold wrap64; split <;> omega
theorem rset (x i : Int) (h0 : -9223372036854775808 ≤ x) (h1 : x ≤ 9223372036854775807) (k : Nat) (hk : 40 ≤ k) : assartref04_Set.f k x i = some (setN x i) := by
  unfold assartref04_Set.f
  rw [rhas x i k hk]
  unfold assartref04_bits.f
  by_cases hi : 0 ≤ i ∧ i < 32
  · rw [if_pos hi.1, decide_eq_true hi.2]
    simp only [Option.bind_some, if_true]
    obtain ⟨j, rfl⟩ := Int.eq_ofNat_of_zero_le hi.1
    have hj : j < 32 := by omega
    by_cases hb : hasB x j = true
    · rw [if_pos hb, set_had x j hj h0 h1 hb]
    · have hb' : hasB x j = false := by simpa using hb
      rw [if_neg hb, rworth j hj k hk]
      simp only [Option.bind_some]
      rw [unat x, u64]
      have e : ((BitVec.ofInt 64 x).toNat + ((2 ^ j : Nat) : Int)) % 18446744073709551616 = ((BitVec.ofInt 64 x + BitVec.twoPow 64 j).toNat : Int) := by
        rw [BitVec.toNat_add, BitVec.toNat_twoPow]
        have : 2 ^ j < 2 ^ 64 := Nat.pow_lt_pow_right (by decide) (by omega)
        rw [Nat.mod_eq_of_lt this]; omega
      rw [e, back]
      have e2 : BitVec.ofInt 64 x + BitVec.twoPow 64 j = BitVec.ofInt 64 x ||| BitVec.twoPow 64 j := by
        apply BitVec.add_eq_or_of_and_eq_zero
        rw [BitVec.and_twoPow]
        rw [has_lsb x j hj] at hb'
        simp [hb']
      rw [e2, ← set_bv x j hj, toInt_ofInt (set_in _ _).1 (set_in _ _).2]
  · rw [set_out x i (by omega) h0 h1]
    by_cases h2 : i ≥ 0
    · rw [if_pos h2, decide_eq_false (by omega)]; simp
    · rw [if_neg h2]; simp
theorem rclr (x i : Int) (h0 : -9223372036854775808 ≤ x) (h1 : x ≤ 9223372036854775807) (k : Nat) (hk : 40 ≤ k) : assartref04_Clear.f k x i = some (clrN x i) := by
  unfold assartref04_Clear.f
  rw [rhas x i k hk]
  simp only [Option.bind_some]
  by_cases hi : 0 ≤ i ∧ i < 32
  · obtain ⟨j, rfl⟩ := Int.eq_ofNat_of_zero_le hi.1
    have hj : j < 32 := by omega
    by_cases hb : hasB x j = true
    · rw [if_pos hb, rworth j hj k hk]
      simp only [Option.bind_some]
      rw [unat x, u64]
      have hp : 2 ^ j < 2 ^ 64 := Nat.pow_lt_pow_right (by decide) (by omega)
      have e : ((BitVec.ofInt 64 x).toNat - ((2 ^ j : Nat) : Int)) % 18446744073709551616 = ((BitVec.ofInt 64 x - BitVec.twoPow 64 j).toNat : Int) := by
        rw [BitVec.toNat_sub, BitVec.toNat_twoPow, Nat.mod_eq_of_lt hp]
        omega
      rw [e, back]
      have e2 : BitVec.ofInt 64 x - BitVec.twoPow 64 j = BitVec.ofInt 64 x &&& ~~~ BitVec.twoPow 64 j := by
        rw [has_lsb x j hj] at hb
        have e3 : BitVec.ofInt 64 x = (BitVec.ofInt 64 x &&& ~~~ BitVec.twoPow 64 j) + BitVec.twoPow 64 j := by
          rw [BitVec.add_eq_or_of_and_eq_zero]
          · apply BitVec.eq_of_getLsbD_eq
            intro q hq
            rw [BitVec.getLsbD_or, BitVec.getLsbD_and, BitVec.getLsbD_not, BitVec.getLsbD_twoPow]
            by_cases e : j = q
            · subst e; simp [hb]; omega
            · simp [e]; omega
          · rw [BitVec.and_assoc, BitVec.not_and_self]; simp
        exact (congrArg (fun z => z - BitVec.twoPow 64 j) e3).trans (BitVec.add_sub_cancel _ _)
      rw [e2, ← clr_bv x j hj, toInt_ofInt (clr_in _ _).1 (clr_in _ _).2]
    · have hb' : hasB x j = false := by simpa using hb
      rw [if_neg hb, clr_had x j hj h0 h1 hb']
  · rw [has_out x i (by omega), if_neg (by simp), clr_out x i (by omega) h0 h1]
end SlotsTurnsAid
open SlotsTurnsAid

theorem SlotsTurns : assartlaw04_SlotsTurns.Pure := by
  intro x i hx _
  have hw := wf64 hx
  refine ⟨40, ?_⟩
  unfold assartlaw04_SlotsTurns.f
  rw [hasE, setE, clrE, rhas x i 40 (by omega), rset x i hw.1 hw.2 40 (by omega), rclr x i hw.1 hw.2 40 (by omega), lives_eq]
  simp

end Go.Proofs.Ytichbeeplpembaa.Pure

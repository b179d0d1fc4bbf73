/- Bits of words: what and, or and and-not of a word with one bit tell, in terms of its bits. Conditions: none. -/
import Derived.Test.YtichbeeplpembaaXSlots
import Derived.Test.YtichbeeplpembaaWMore
namespace Go.Proofs.Ytichbeeplpembaa.X
open Go.RowKit

theorem wrap_toInt (v : BitVec 64) : IntKind.i64.wrap (v.toNat : Int) = v.toInt := by
  rw [IntKind.wrap_i64, BitVec.toInt_eq_toNat_cond]
  have := v.isLt
  split <;> omega
theorem and_eq (a b : Int) : Go.bits .and .i64 a b = (BitVec.ofInt 64 a &&& BitVec.ofInt 64 b).toInt := wrap_toInt _
theorem or_eq (a b : Int) : Go.bits .or .i64 a b = (BitVec.ofInt 64 a ||| BitVec.ofInt 64 b).toInt := wrap_toInt _
theorem andNot_eq (a b : Int) : Go.bits .andNot .i64 a b = (BitVec.ofInt 64 a &&& ~~~ BitVec.ofInt 64 b).toInt := wrap_toInt _
theorem ofInt_toInt (v : BitVec 64) : BitVec.ofInt 64 v.toInt = v := by simp
theorem toInt_ofInt {x : Int} (h0 : -9223372036854775808 ≤ x) (h1 : x ≤ 9223372036854775807) : (BitVec.ofInt 64 x).toInt = x := by
  rw [BitVec.toInt_ofInt]; simp [Int.bmod]; omega
theorem mask_bv (i : Nat) (h : i < 32) : BitVec.ofInt 64 (maskN i) = BitVec.twoPow 64 i := by
  have : maskN i = ((2 ^ i : Nat) : Int) := by unfold maskN; rw [if_neg (by omega), if_neg (by omega)]; simp
  rw [this]
  apply BitVec.eq_of_toNat_eq
  rw [BitVec.ofInt_natCast, BitVec.toNat_ofNat, BitVec.toNat_twoPow]
theorem mask_out (i : Int) (h : i < 0 ∨ 32 ≤ i) : maskN i = 0 := by
  unfold maskN
  by_cases h0 : i < 0
  · rw [if_pos h0]
  · rw [if_neg h0, if_pos (by omega)]
theorem has_lsb (x : Int) (i : Nat) (h : i < 32) : hasB x i = (BitVec.ofInt 64 x).getLsbD i := by
  unfold hasB
  rw [and_eq, mask_bv i h, BitVec.and_twoPow]
  cases hb : (BitVec.ofInt 64 x).getLsbD i with
  | false => simp
  | true =>
    simp only [if_true]
    rw [bne_iff_ne]
    intro e
    have e2 : BitVec.twoPow 64 i = 0#64 := by
      apply BitVec.eq_of_toInt_eq; rw [e]; rfl
    have e3 := congrArg (fun v => v.getLsbD i) e2
    simp [BitVec.getLsbD_twoPow] at e3
    omega
theorem has_out (x i : Int) (h : i < 0 ∨ 32 ≤ i) : hasB x i = false := by
  unfold hasB
  rw [and_eq, mask_out i h]
  simp
def setN (x i : Int) : Int := Go.bits .or .i64 x (maskN i)
def clrN (x i : Int) : Int := Go.bits .andNot .i64 x (maskN i)
theorem set_bv (x : Int) (i : Nat) (h : i < 32) : BitVec.ofInt 64 (setN x i) = BitVec.ofInt 64 x ||| BitVec.twoPow 64 i := by
  unfold setN; rw [or_eq, mask_bv i h, ofInt_toInt]
theorem clr_bv (x : Int) (i : Nat) (h : i < 32) : BitVec.ofInt 64 (clrN x i) = BitVec.ofInt 64 x &&& ~~~ BitVec.twoPow 64 i := by
  unfold clrN; rw [andNot_eq, mask_bv i h, ofInt_toInt]
theorem set_out (x i : Int) (h : i < 0 ∨ 32 ≤ i) (h0 : -9223372036854775808 ≤ x) (h1 : x ≤ 9223372036854775807) : setN x i = x := by
  unfold setN; rw [or_eq, mask_out i h, show BitVec.ofInt 64 0 = 0#64 from rfl, BitVec.or_zero]
  exact toInt_ofInt h0 h1
theorem clr_out (x i : Int) (h : i < 0 ∨ 32 ≤ i) (h0 : -9223372036854775808 ≤ x) (h1 : x ≤ 9223372036854775807) : clrN x i = x := by
  unfold clrN; rw [andNot_eq, mask_out i h, show BitVec.ofInt 64 0 = 0#64 from rfl, BitVec.not_zero, BitVec.and_allOnes]
  exact toInt_ofInt h0 h1
theorem bv_inj {a b : Int} (ha0 : -9223372036854775808 ≤ a) (ha1 : a ≤ 9223372036854775807) (hb0 : -9223372036854775808 ≤ b) (hb1 : b ≤ 9223372036854775807) (h : BitVec.ofInt 64 a = BitVec.ofInt 64 b) : a = b := by
  rw [← toInt_ofInt ha0 ha1, ← toInt_ofInt hb0 hb1, h]
theorem set_in (x i : Int) : -9223372036854775808 ≤ setN x i ∧ setN x i ≤ 9223372036854775807 := by
  unfold setN; rw [or_eq]
  have := BitVec.le_toInt (BitVec.ofInt 64 x ||| BitVec.ofInt 64 (maskN i))
  have := BitVec.toInt_lt (x := (BitVec.ofInt 64 x ||| BitVec.ofInt 64 (maskN i)))
  simp at *; omega
theorem clr_in (x i : Int) : -9223372036854775808 ≤ clrN x i ∧ clrN x i ≤ 9223372036854775807 := by
  unfold clrN; rw [andNot_eq]
  have := BitVec.le_toInt (BitVec.ofInt 64 x &&& ~~~ BitVec.ofInt 64 (maskN i))
  have := BitVec.toInt_lt (x := (BitVec.ofInt 64 x &&& ~~~ BitVec.ofInt 64 (maskN i)))
  simp at *; omega
theorem has_set (x : Int) (i j : Nat) (hi : i < 32) : hasB (setN x i) j = (hasB x j || decide (j = i)) := by
  by_cases hj : j < 32
  · rw [has_lsb _ j hj, has_lsb _ j hj, set_bv x i hi, BitVec.getLsbD_or, BitVec.getLsbD_twoPow]
    congr 1
    by_cases e : j = i
    · subst e; simp; omega
    · simp [e, Ne.symm e]
  · rw [has_out _ _ (by omega), has_out _ _ (by omega)]; simp; omega
theorem has_clr (x : Int) (i j : Nat) (hi : i < 32) : hasB (clrN x i) j = (hasB x j && !decide (j = i)) := by
  by_cases hj : j < 32
  · rw [has_lsb _ j hj, has_lsb _ j hj, clr_bv x i hi, BitVec.getLsbD_and, BitVec.getLsbD_not, BitVec.getLsbD_twoPow]
    congr 1
    by_cases e : j = i
    · subst e; simp
    · simp [e, Ne.symm e]; omega
  · rw [has_out _ _ (by omega), has_out _ _ (by omega)]; simp
theorem set_had (x : Int) (i : Nat) (hi : i < 32) (h0 : -9223372036854775808 ≤ x) (h1 : x ≤ 9223372036854775807) (h : hasB x i = true) : setN x i = x := by
  refine bv_inj (set_in _ _).1 (set_in _ _).2 h0 h1 ?_
  rw [set_bv x i hi]
  rw [has_lsb x i hi] at h
  apply BitVec.eq_of_getLsbD_eq
  intro j hj
  rw [BitVec.getLsbD_or, BitVec.getLsbD_twoPow]
  by_cases e : i = j
  · subst e; simp [h]
  · simp [e]
theorem clr_had (x : Int) (i : Nat) (hi : i < 32) (h0 : -9223372036854775808 ≤ x) (h1 : x ≤ 9223372036854775807) (h : hasB x i = false) : clrN x i = x := by
  refine bv_inj (clr_in _ _).1 (clr_in _ _).2 h0 h1 ?_
  rw [clr_bv x i hi]
  rw [has_lsb x i hi] at h
  apply BitVec.eq_of_getLsbD_eq
  intro j hj
  rw [BitVec.getLsbD_and, BitVec.getLsbD_not, BitVec.getLsbD_twoPow]
  by_cases e : i = j
  · subst e; simp [h]
  · simp [e]; omega
theorem set_clr (x : Int) (i : Nat) (hi : i < 32) (h0 : -9223372036854775808 ≤ x) (h1 : x ≤ 9223372036854775807) (h : hasB x i = true) : setN (clrN x i) i = x := by
  refine bv_inj (set_in _ _).1 (set_in _ _).2 h0 h1 ?_
  rw [set_bv _ i hi, clr_bv x i hi]
  rw [has_lsb x i hi] at h
  apply BitVec.eq_of_getLsbD_eq
  intro j hj
  rw [BitVec.getLsbD_or, BitVec.getLsbD_and, BitVec.getLsbD_not, BitVec.getLsbD_twoPow]
  by_cases e : i = j
  · subst e; simp [h]; omega
  · simp [e]; omega
theorem clr_set (x : Int) (i : Nat) (hi : i < 32) (h0 : -9223372036854775808 ≤ x) (h1 : x ≤ 9223372036854775807) (h : hasB x i = false) : clrN (setN x i) i = x := by
  refine bv_inj (clr_in _ _).1 (clr_in _ _).2 h0 h1 ?_
  rw [clr_bv _ i hi, set_bv x i hi]
  rw [has_lsb x i hi] at h
  apply BitVec.eq_of_getLsbD_eq
  intro j hj
  rw [BitVec.getLsbD_and, BitVec.getLsbD_or, BitVec.getLsbD_not, BitVec.getLsbD_twoPow]
  by_cases e : i = j
  · subst e; simp [h]
  · simp [e]; omega

end Go.Proofs.Ytichbeeplpembaa.X

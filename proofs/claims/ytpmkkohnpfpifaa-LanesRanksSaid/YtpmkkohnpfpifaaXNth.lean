/- How many weaves there are and which the i-th one is: Count and Nth of lanes and of the reference as plain functions, with their contracts. Conditions: none. -/
import Derived.Test.YtpmkkohnpfpifaaYlanes_Nthx1
import Derived.Test.YtpmkkohnpfpifaaYassartref36_Nthx1
namespace Go.Proofs.Ytpmkkohnpfpifaa.X
open Go.RowKit Go.Proofs.YtpmkkohnpfpifaaW.PrintWords Go.Proofs.YtpmkkohnpfpifaaW.PrintLast Go.Proofs.YtpmkkohnpfpifaaW.PrintMore

def mayN (a b : Int) : Prop := 0 ≤ a ∧ a ≤ 30 ∧ 0 ≤ b ∧ b ≤ 30
instance (a b : Int) : Decidable (mayN a b) := inferInstanceAs (Decidable (0 ≤ a ∧ a ≤ 30 ∧ 0 ≤ b ∧ b ≤ 30))
def countN (a b : Int) : Int := if mayN a b then (C a.toNat b.toNat : Int) else 0
theorem countN_nat (a b : Nat) (ha : a ≤ 30) (hb : b ≤ 30) : countN (a : Int) (b : Int) = (C a b : Int) := by
  unfold countN
  rw [if_pos (show mayN a b from ⟨by omega, by omega, by omega, by omega⟩), Int.toNat_natCast, Int.toNat_natCast]
/-- How many weaves of a and b steps begin with a step of the first row. -/
def F : Nat → Nat → Nat
  | 0, _ => 0
  | a + 1, b => C a b
/-- The i-th weave of a and b steps; n is their sum. -/
def weave : Nat → Nat → Nat → Nat → List Int
  | 0, _, _, _ => []
  | n + 1, a, b, i => if i < F a b then 0 :: weave n (a - 1) b i else 1 :: weave n a (b - 1) (i - F a b)
theorem F_add (a b : Nat) (h : 0 < b) : C a b = F a b + C a (b - 1) := by
  obtain ⟨b, rfl⟩ : ∃ q, b = q + 1 := ⟨b - 1, by omega⟩
  cases a with
  | zero => simp [F, C_row]
  | succ a => simp only [F, Nat.add_sub_cancel]; exact C_succ a b
theorem F_nil (a : Nat) : F (a + 1) 0 = 1 := C_zero a
def nthN (a b i : Int) : List Int × Int := if mayN a b ∧ 0 ≤ i ∧ i < countN a b then (weave (a.toNat + b.toNat) a.toNat b.toNat i.toNat, 0) else ([], 2)

/-! ### lanes -/
theorem may_lanes (a b : Int) : Ylanes_Nth.lanes_may.f a b = some (decide (mayN a b)) := by
  unfold Ylanes_Nth.lanes_may.f mayN mn mx
  by_cases h : b < a
  · rw [if_pos h]
    by_cases h2 : b ≥ 0
    · rw [if_pos h2, if_neg (by omega)]; congr 1; apply decide_eq_decide.2; omega
    · rw [if_neg h2]; congr 1; symm; apply decide_eq_false; omega
  · rw [if_neg h]
    by_cases h2 : a ≥ 0
    · rw [if_pos h2]; congr 1; apply decide_eq_decide.2; split <;> omega
    · rw [if_neg h2]; congr 1; symm; apply decide_eq_false; omega
theorem tabN_len (a b : Nat) : ((tabN a b).length : Int) = (a : Int) + 1 := by unfold tabN; simp
theorem tabN_rd (a b i : Nat) (h : i ≤ a) : Ylanes_Nth.rd_L1 (tabN a b) (i : Int) = rowN b i := by
  unfold Ylanes_Nth.rd_L1 tabN; simp [List.getD, show i < a + 1 by omega]
theorem rowN_rd (b i q : Nat) (h : q ≤ b) : rd (rowN b i) (q : Int) = (C i q : Int) := by unfold rowN; rw [rd_map _ _ q (by omega)]
theorem table_nat (a b : Nat) (ha : a ≤ 30) (hb : b ≤ 30) : X.lanes_table.f (a : Int) (b : Int) = some (tabN a b) := by
  unfold X.lanes_table.f; rw [if_pos (by omega), Int.toNat_natCast, Int.toNat_natCast]
theorem count_lanes (a b : Int) : Ylanes_Nth.lanes_Count.f a b = some (countN a b) := by
  unfold Ylanes_Nth.lanes_Count.f
  rw [may_lanes, Option.bind_some]
  by_cases h : mayN a b
  · rw [if_pos (by simpa using h)]
    obtain ⟨h0, h1, h2, h3⟩ := h
    obtain ⟨a, rfl⟩ := Int.eq_ofNat_of_zero_le h0
    obtain ⟨b, rfl⟩ := Int.eq_ofNat_of_zero_le h2
    rw [table_nat a b (by omega) (by omega), Option.bind_some, tabN_len, if_pos (by omega), if_pos (by omega), if_pos (by omega), tabN_rd a b a (Nat.le_refl _), rowN_len, if_pos (by omega), rowN_rd b a b (Nat.le_refl _), countN_nat a b (by omega) (by omega)]
  · rw [if_neg (by simpa using h)]; unfold countN; rw [if_neg h]
theorem below_lanes (A B a b : Nat) (ha : a ≤ A) (hb : b ≤ B) (hA : A ≤ 30) : Ylanes_Nth.lanes_below.f (tabN A B) (a : Int) (b : Int) = some (F a b : Int) := by
  unfold Ylanes_Nth.lanes_below.f
  cases a with
  | zero => rw [if_pos (by omega)]; rfl
  | succ a =>
    rw [if_neg (by omega), w64 (a := ((a + 1 : Nat) : Int) - 1) (by omega) (by omega), show ((a + 1 : Nat) : Int) - 1 = (a : Int) by omega, tabN_len, if_pos (by omega), if_pos (by omega), if_pos (by omega), tabN_rd A B a (by omega), rowN_len, if_pos (by omega), rowN_rd B a b hb]
    rfl
theorem nth_loop (A B : Nat) (hA : A ≤ 30) (hB : B ≤ 30) (n : Nat) : ∀ (a b i k : Nat) (out : List Int), a + b = n → a ≤ A → b ≤ B → i < C a b → out.length + n ≤ 60 → n < k →
    Ylanes_Nth.lanes_Nth.l0 k (a : Int) (b : Int) (i : Int) (tabN A B) out = some (out ++ weave n a b i, 0) := by
  induction n with
  | zero =>
    intro a b i k out hn ha hb hi ho hk
    obtain ⟨k, rfl⟩ : ∃ m, k = m + 1 := ⟨k - 1, by omega⟩
    simp only [Ylanes_Nth.lanes_Nth.l0]
    rw [w64 (by omega) (by omega), if_neg (by omega)]
    simp [weave]
  | succ n ih =>
    intro a b i k out hn ha hb hi ho hk
    obtain ⟨k, rfl⟩ : ∃ m, k = m + 1 := ⟨k - 1, by omega⟩
    simp only [Ylanes_Nth.lanes_Nth.l0]
    have hc := C_bound a b (by omega) (by omega)
    rw [w64 (a := (a : Int) + b) (by omega) (by omega), if_pos (by omega), below_lanes A B a b ha hb hA, Option.bind_some]
    simp only [weave]
    by_cases h : i < F a b
    · rw [if_pos (by omega), if_pos (by omega), if_pos h]
      cases a with
      | zero => simp [F] at h
      | succ a =>
        rw [w64 (by omega) (by omega), show ((a + 1 : Nat) : Int) - 1 = (a : Int) by omega, Nat.add_sub_cancel]
        rw [ih a b i k (out ++ [0]) (by omega) (by omega) hb h (by simp; omega) (by omega)]
        simp
    · rw [if_neg (by omega), if_pos (by omega), if_neg h]
      have hb0 : 0 < b := by
        rcases Nat.eq_zero_or_pos b with rfl | hb0
        · cases a with
          | zero => omega
          | succ a => rw [C_zero] at hi; rw [F_nil] at h; omega
        · exact hb0
      have hf := F_add a b hb0
      rw [w64 (a := (b : Int) - 1) (by omega) (by omega), w64 (a := (i : Int) - (F a b : Int)) (by omega) (by omega), show (b : Int) - 1 = ((b - 1 : Nat) : Int) by omega, show (i : Int) - (F a b : Int) = ((i - F a b : Nat) : Int) by omega]
      rw [ih a (b - 1) (i - F a b) k (out ++ [1]) (by omega) ha (by omega) (by omega) (by simp; omega) (by omega)]
      simp
theorem nth_lanes (a b i : Int) : Ylanes_Nth.lanes_Nth.f 100 a b i = some (nthN a b i) := by
  unfold Ylanes_Nth.lanes_Nth.f nthN
  have j : Ylanes_Nth.lanes_Nth.j0 100 a b i true = some (([], 2) : List Int × Int) := by simp [Ylanes_Nth.lanes_Nth.j0]
  rw [may_lanes, Option.bind_some]
  by_cases h : mayN a b
  · rw [if_pos (by simpa using h)]
    by_cases h0 : i < 0
    · rw [if_pos h0, j, if_neg (by omega)]
    rw [if_neg h0, count_lanes, Option.bind_some]
    by_cases h1 : i ≥ countN a b
    · rw [decide_eq_true h1, j, if_neg (by omega)]
    rw [decide_eq_false h1, if_pos ⟨h, by omega, by omega⟩]
    obtain ⟨g0, g1, g2, g3⟩ := h
    obtain ⟨a, rfl⟩ := Int.eq_ofNat_of_zero_le g0
    obtain ⟨b, rfl⟩ := Int.eq_ofNat_of_zero_le g2
    obtain ⟨i, rfl⟩ := Int.eq_ofNat_of_zero_le (show 0 ≤ i by omega)
    rw [countN_nat a b (by omega) (by omega)] at h1
    simp only [Ylanes_Nth.lanes_Nth.j0, Bool.false_eq_true, if_false]
    rw [table_nat a b (by omega) (by omega), Option.bind_some, w64 (by omega) (by omega), if_pos (by omega), if_pos (by omega), nth_loop a b (by omega) (by omega) (a + b) a b i 99 [] rfl (Nat.le_refl _) (Nat.le_refl _) (by omega) (by simp; omega) (by omega)]
    simp
  · rw [if_neg (by simpa using h), j, if_neg (fun hh => h hh.1)]

/-! ### the reference -/
theorem may_ref (a b : Int) : Yassartref36_Nth.assartref36_may.f a b = some (decide (mayN a b)) := by
  unfold Yassartref36_Nth.assartref36_may.f mayN
  by_cases h0 : a ≥ 0
  · rw [if_pos h0]
    by_cases h1 : b ≥ 0
    · rw [if_pos h1]
      by_cases h2 : a ≤ 30
      · rw [if_pos h2]; congr 1; apply decide_eq_decide.2; omega
      · rw [if_neg h2]; congr 1; symm; apply decide_eq_false; omega
    · rw [if_neg h1]; congr 1; symm; apply decide_eq_false; omega
  · rw [if_neg h0]; congr 1; symm; apply decide_eq_false; omega
def fillR (b i : Nat) : List Int := (List.range (b + 1)).map fun c => if c < i then 1 else 0
def mixR (b n i : Nat) : List Int := (List.range (b + 1)).map fun c => if c < i then (C (n + 1) c : Int) else (C n c : Int)
theorem fill_all (a b : Nat) (_ha : a ≤ 30) (hb : b ≤ 30) (d : Nat) : ∀ (k i : Nat), i + d = b + 1 → d < k → Yassartref36_Nth.assartref36_Count.l0 k (a : Int) (b : Int) (fillR b i) (i : Int) = Yassartref36_Nth.assartref36_Count.l1 (k - d - 1) (a : Int) (b : Int) (rowN b 0) 1 := by
  induction d with
  | zero =>
    intro k i hi hk
    obtain ⟨k, rfl⟩ : ∃ m, k = m + 1 := ⟨k - 1, by omega⟩
    simp only [Yassartref36_Nth.assartref36_Count.l0]
    rw [if_neg (by omega)]
    have : fillR b i = rowN b 0 := by
      unfold fillR rowN
      apply map_congr
      intro j hj
      rw [if_pos (by omega), C_row]; rfl
    rw [this]; rfl
  | succ d ih =>
    intro k i hi hk
    obtain ⟨k, rfl⟩ : ∃ m, k = m + 1 := ⟨k - 1, by omega⟩
    simp only [Yassartref36_Nth.assartref36_Count.l0]
    have hl : ((fillR b i).length : Int) = (b : Int) + 1 := by unfold fillR; simp
    rw [if_pos (by omega), if_pos (by omega), if_pos (by omega), w64 (by omega) (by omega)]
    have : (fillR b i).set (i : Int).toNat 1 = fillR b (i + 1) := by
      rw [Int.toNat_natCast]
      unfold fillR
      rw [map_set]
      apply map_congr
      intro j hj
      by_cases e : j = i
      · subst e; rw [if_pos rfl, if_pos (by omega)]
      · rw [if_neg e]
        by_cases h2 : j < i
        · rw [if_pos h2, if_pos (by omega)]
        · rw [if_neg h2, if_neg (by omega)]
    rw [this, show (i : Int) + 1 = ((i + 1 : Nat) : Int) by omega, ih k (i + 1) (by omega) (by omega)]
    congr 1; omega
theorem mix_all (a b n : Nat) (ha : a ≤ 30) (hb : b ≤ 30) (hn : n < a) (d : Nat) : ∀ (k i : Nat), 1 ≤ i → i + d = b + 1 → d < k →
    Yassartref36_Nth.assartref36_Count.l2 k (a : Int) (b : Int) (mixR b n i) ((n + 1 : Nat) : Int) (i : Int) = Yassartref36_Nth.assartref36_Count.l1 (k - d - 1) (a : Int) (b : Int) (rowN b (n + 1)) ((n + 2 : Nat) : Int) := by
  induction d with
  | zero =>
    intro k i h1 hi hk
    obtain ⟨k, rfl⟩ : ∃ m, k = m + 1 := ⟨k - 1, by omega⟩
    simp only [Yassartref36_Nth.assartref36_Count.l2]
    rw [if_neg (by omega), w64 (by omega) (by omega)]
    have : mixR b n i = rowN b (n + 1) := by
      unfold mixR rowN
      apply map_congr
      intro j hj
      rw [if_pos (by omega)]
    rw [this]; rfl
  | succ d ih =>
    intro k i h1 hi hk
    obtain ⟨k, rfl⟩ : ∃ m, k = m + 1 := ⟨k - 1, by omega⟩
    obtain ⟨p, rfl⟩ : ∃ p, i = p + 1 := ⟨i - 1, by omega⟩
    simp only [Yassartref36_Nth.assartref36_Count.l2]
    have hl : ((mixR b n (p + 1)).length : Int) = (b : Int) + 1 := by unfold mixR; simp
    rw [if_pos (by omega), if_pos (by omega), if_pos (by omega), w64 (a := ((p + 1 : Nat) : Int) - 1) (by omega) (by omega), show ((p + 1 : Nat) : Int) - 1 = (p : Int) by omega, if_pos (by omega), if_pos (by omega), w64 (a := ((p + 1 : Nat) : Int) + 1) (by omega) (by omega)]
    have r1 : rd (mixR b n (p + 1)) ((p + 1 : Nat) : Int) = (C n (p + 1) : Int) := by unfold mixR; rw [rd_map _ _ (p + 1) (by omega), if_neg (by omega)]
    have r2 : rd (mixR b n (p + 1)) (p : Int) = (C (n + 1) p : Int) := by unfold mixR; rw [rd_map _ _ p (by omega), if_pos (by omega)]
    have hs := C_succ n p
    have hb1 := C_bound (n + 1) (p + 1) (by omega) (by omega)
    rw [r1, r2, w64 (by omega) (by omega), show (C n (p + 1) : Int) + (C (n + 1) p : Int) = (C (n + 1) (p + 1) : Int) by omega]
    have : (mixR b n (p + 1)).set ((p + 1 : Nat) : Int).toNat (C (n + 1) (p + 1) : Int) = mixR b n (p + 2) := by
      rw [Int.toNat_natCast]
      unfold mixR
      rw [map_set]
      apply map_congr
      intro j hj
      by_cases e : j = p + 1
      · subst e; rw [if_pos rfl, if_pos (by omega)]
      · rw [if_neg e]
        by_cases h2 : j < p + 1
        · rw [if_pos h2, if_pos (by omega)]
        · rw [if_neg h2, if_neg (by omega)]
    rw [this, show ((p + 1 : Nat) : Int) + 1 = ((p + 2 : Nat) : Int) by omega, ih k (p + 2) (by omega) (by omega) (by omega)]
    congr 1; omega
theorem rows_all (a b : Nat) (ha : a ≤ 30) (hb : b ≤ 30) (d : Nat) : ∀ (k n : Nat), n + d = a → 40 * d < k → Yassartref36_Nth.assartref36_Count.l1 k (a : Int) (b : Int) (rowN b n) ((n + 1 : Nat) : Int) = some (C a b : Int) := by
  induction d with
  | zero =>
    intro k n hn hk
    obtain ⟨k, rfl⟩ : ∃ m, k = m + 1 := ⟨k - 1, by omega⟩
    obtain rfl : n = a := by omega
    simp only [Yassartref36_Nth.assartref36_Count.l1]
    rw [if_neg (by omega), rowN_len, if_pos (by omega), if_pos (by omega), rowN_rd b n b (Nat.le_refl _)]
  | succ d ih =>
    intro k n hn hk
    obtain ⟨k, rfl⟩ : ∃ m, k = m + 1 := ⟨k - 1, by omega⟩
    simp only [Yassartref36_Nth.assartref36_Count.l1]
    rw [if_pos (by omega)]
    have h1 : rowN b n = mixR b n 1 := by
      unfold rowN mixR
      apply map_congr
      intro j hj
      by_cases e : j < 1
      · obtain rfl : j = 0 := by omega
        rw [if_pos e, C_zero, C_zero]
      · rw [if_neg e]
    have := mix_all a b n ha hb (by omega) b k 1 (Nat.le_refl _) (by omega) (by omega)
    rw [show ((1 : Nat) : Int) = 1 from rfl] at this
    rw [h1, this]
    exact ih _ (n + 1) (by omega) (by omega)
theorem count_ref (a b : Int) (k : Nat) (hk : 1500 ≤ k) : Yassartref36_Nth.assartref36_Count.f k a b = some (countN a b) := by
  unfold Yassartref36_Nth.assartref36_Count.f
  rw [may_ref, Option.bind_some]
  by_cases h : mayN a b
  · rw [if_pos (by simpa using h)]
    obtain ⟨h0, h1, h2, h3⟩ := h
    obtain ⟨a, rfl⟩ := Int.eq_ofNat_of_zero_le h0
    obtain ⟨b, rfl⟩ := Int.eq_ofNat_of_zero_le h2
    rw [w64 (a := (b : Int) + 1) (by omega) (by omega), if_pos (by omega), if_pos (by omega)]
    have e : List.replicate ((b : Int) + 1).toNat (0 : Int) = fillR b 0 := by
      rw [show ((b : Int) + 1).toNat = b + 1 by omega]
      unfold fillR
      apply List.ext_getElem
      · simp
      · intro c h1 h2; simp
    have f := fill_all a b (by omega) (by omega) (b + 1) k 0 (by omega) (by omega)
    rw [show ((0 : Nat) : Int) = 0 from rfl] at f
    rw [e, f]
    have := rows_all a b (by omega) (by omega) a (k - (b + 1) - 1) 0 (by omega) (by omega)
    rw [show ((0 + 1 : Nat) : Int) = 1 from rfl] at this
    rw [this, countN_nat a b (by omega) (by omega)]
  · rw [if_neg (by simpa using h)]; unfold countN; rw [if_neg h]
theorem first_ref (a b : Nat) (ha : a ≤ 30) (hb : b ≤ 30) (h : 0 < a) (k : Nat) (hk : 1500 ≤ k) : Yassartref36_Nth.assartref36_Count.f k (wrap64 ((a : Int) - 1)) (b : Int) = some (F a b : Int) := by
  cases a with
  | zero => omega
  | succ a => rw [w64 (by omega) (by omega), show ((a + 1 : Nat) : Int) - 1 = (a : Int) by omega, count_ref _ _ k hk, countN_nat a b (by omega) (by omega)]; rfl
theorem nth_loop_ref (n : Nat) : ∀ (a b i k : Nat) (out : List Int), a + b = n → a ≤ 30 → b ≤ 30 → i < C a b → out.length + n ≤ 60 → n + 1500 < k →
    Yassartref36_Nth.assartref36_Nth.l0 k (a : Int) (b : Int) (i : Int) out = some (out ++ weave n a b i, 0) := by
  induction n with
  | zero =>
    intro a b i k out hn ha hb hi ho hk
    obtain ⟨k, rfl⟩ : ∃ m, k = m + 1 := ⟨k - 1, by omega⟩
    simp only [Yassartref36_Nth.assartref36_Nth.l0]
    rw [w64 (by omega) (by omega), if_neg (by omega)]
    simp [weave]
  | succ n ih =>
    intro a b i k out hn ha hb hi ho hk
    obtain ⟨k, rfl⟩ : ∃ m, k = m + 1 := ⟨k - 1, by omega⟩
    simp only [Yassartref36_Nth.assartref36_Nth.l0]
    have hc := C_bound a b (by omega) (by omega)
    rw [w64 (a := (a : Int) + b) (by omega) (by omega), if_pos (by omega)]
    simp only [weave]
    have zeroWay (a : Nat) (hn : a + 1 + b = n + 1) (ha : a + 1 ≤ 30) (h : i < F (a + 1) b) : Yassartref36_Nth.assartref36_Nth.l0 k (wrap64 (((a + 1 : Nat) : Int) - 1)) (b : Int) (i : Int) (out ++ [0]) = some (out ++ 0 :: weave n (a + 1 - 1) b i, 0) := by
      rw [w64 (by omega) (by omega), show ((a + 1 : Nat) : Int) - 1 = (a : Int) by omega, Nat.add_sub_cancel]
      rw [ih a b i k (out ++ [0]) (by omega) (by omega) hb h (by simp; omega) (by omega)]
      simp
    have oneWay (h : ¬ i < F a b) : Yassartref36_Nth.assartref36_Nth.l0 k (a : Int) (wrap64 ((b : Int) - 1)) (wrap64 ((i : Int) - (F a b : Int))) (out ++ [1]) = some (out ++ 1 :: weave n a (b - 1) (i - F a b), 0) := by
      have hb0 : 0 < b := by
        rcases Nat.eq_zero_or_pos b with rfl | hb0
        · cases a with
          | zero => omega
          | succ a => rw [C_zero] at hi; rw [F_nil] at h; omega
        · exact hb0
      have hf := F_add a b hb0
      rw [w64 (a := (b : Int) - 1) (by omega) (by omega), w64 (a := (i : Int) - (F a b : Int)) (by omega) (by omega), show (b : Int) - 1 = ((b - 1 : Nat) : Int) by omega, show (i : Int) - (F a b : Int) = ((i - F a b : Nat) : Int) by omega]
      rw [ih a (b - 1) (i - F a b) k (out ++ [1]) (by omega) ha (by omega) (by omega) (by simp; omega) (by omega)]
      simp
    cases a with
    | zero =>
      have h : ¬ i < F 0 b := by simp [F]
      rw [if_neg (by omega), if_neg (by omega), if_pos (by omega), if_neg h]
      exact oneWay h
    | succ a =>
      rw [if_pos (by omega), first_ref (a + 1) b ha hb (by omega) k (by omega), Option.bind_some]
      by_cases h : i < F (a + 1) b
      · rw [if_pos (by omega), if_pos (by omega), if_pos h]
        exact zeroWay a hn ha h
      · rw [if_neg (by omega), if_pos (by omega), if_neg h]
        exact oneWay h
theorem nth_ref (a b i : Int) : Yassartref36_Nth.assartref36_Nth.f 1600 a b i = some (nthN a b i) := by
  unfold Yassartref36_Nth.assartref36_Nth.f nthN
  have j : Yassartref36_Nth.assartref36_Nth.j0 1600 a b i true = some (([], 2) : List Int × Int) := by simp [Yassartref36_Nth.assartref36_Nth.j0]
  rw [may_ref, Option.bind_some]
  by_cases h : mayN a b
  · rw [if_pos (by simpa using h)]
    by_cases h0 : i < 0
    · rw [if_pos h0, j, if_neg (by omega)]
    rw [if_neg h0, count_ref a b 1600 (by omega), Option.bind_some]
    by_cases h1 : i ≥ countN a b
    · rw [decide_eq_true h1, j, if_neg (by omega)]
    rw [decide_eq_false h1, if_pos ⟨h, by omega, by omega⟩]
    obtain ⟨g0, g1, g2, g3⟩ := h
    obtain ⟨a, rfl⟩ := Int.eq_ofNat_of_zero_le g0
    obtain ⟨b, rfl⟩ := Int.eq_ofNat_of_zero_le g2
    obtain ⟨i, rfl⟩ := Int.eq_ofNat_of_zero_le (show 0 ≤ i by omega)
    rw [countN_nat a b (by omega) (by omega)] at h1
    simp only [Yassartref36_Nth.assartref36_Nth.j0, Bool.false_eq_true, if_false]
    rw [nth_loop_ref (a + b) a b i 1599 [] rfl (by omega) (by omega) (by omega) (by simp; omega) (by omega)]
    simp
  · rw [if_neg (by simpa using h), j, if_neg (fun hh => h hh.1)]

/-! ### the contracts -/
def lanes_Count.f (a0 : Int) (a1 : Int) : Option (Int) := some (countN a0 a1)
theorem lanes_Count.calls (a0 : Int) (a1 : Int) (r : Int) (w : World) (h : X.lanes_Count.f a0 a1 = some r) :
    Calls Try.prog 9 #[.int .i64 a0, .int .i64 a1] w fun e w' => e = .returned (.int .i64 r) ∧ Below w.heap.size w w' :=
  Ylanes_Nth.lanes_Count.calls a0 a1 r w ((count_lanes a0 a1).trans h)
def assartref36_Count.f (a0 : Int) (a1 : Int) : Option (Int) := some (countN a0 a1)
theorem assartref36_Count.calls (a0 : Int) (a1 : Int) (r : Int) (w : World) (h : X.assartref36_Count.f a0 a1 = some r) :
    Calls Try.prog 10 #[.int .i64 a0, .int .i64 a1] w fun e w' => e = .returned (.int .i64 r) ∧ Below w.heap.size w w' :=
  Yassartref36_Nth.assartref36_Count.calls 1500 a0 a1 r w ((count_ref a0 a1 1500 (Nat.le_refl _)).trans h)
def lanes_Nth.f (a0 : Int) (a1 : Int) (a2 : Int) : Option (List Int × Int) := some (nthN a0 a1 a2)
theorem lanes_Nth.calls (a0 : Int) (a1 : Int) (a2 : Int) (r1 : List Int) (r2 : Int) (w : World) (h : X.lanes_Nth.f a0 a1 a2 = some (r1, r2)) :
    Calls Try.prog 7 #[.int .i64 a0, .int .i64 a1, .int .i64 a2] w fun e w' => ∃ v0_ : Value, e = .returned (.tuple #[v0_, .int .i64 r2]) ∧ Kd.R (Kd.int .i64) 3 w' w.heap.size (fun _ => True) v0_ r1 ∧ Below w.heap.size w w' :=
  Ylanes_Nth.lanes_Nth.calls 100 a0 a1 a2 r1 r2 w ((nth_lanes a0 a1 a2).trans h)
def assartref36_Nth.f (a0 : Int) (a1 : Int) (a2 : Int) : Option (List Int × Int) := some (nthN a0 a1 a2)
theorem assartref36_Nth.calls (a0 : Int) (a1 : Int) (a2 : Int) (r1 : List Int) (r2 : Int) (w : World) (h : X.assartref36_Nth.f a0 a1 a2 = some (r1, r2)) :
    Calls Try.prog 8 #[.int .i64 a0, .int .i64 a1, .int .i64 a2] w fun e w' => ∃ v0_ : Value, e = .returned (.tuple #[v0_, .int .i64 r2]) ∧ Kd.R (Kd.int .i64) 3 w' w.heap.size (fun _ => True) v0_ r1 ∧ Below w.heap.size w w' :=
  Yassartref36_Nth.assartref36_Nth.calls 1600 a0 a1 a2 r1 r2 w ((nth_ref a0 a1 a2).trans h)

end Go.Proofs.Ytpmkkohnpfpifaa.X

/- Plain: a number's digits, and what digits tell. Conditions: none. -/
namespace Go.Proofs.YtkachkmmjlboeaaDoor.X
set_option linter.unusedVariables false
set_option linter.unusedSimpArgs false

def dig (d : Nat) : UInt8 := UInt8.ofNat (48 + d)
def dgF : Nat → Nat → List UInt8
  | 0, _ => []
  | k + 1, n => if n < 10 then [dig n] else dgF k (n / 10) ++ [dig (n % 10)]
def dgs (n : Nat) : List UInt8 := dgF 25 n
def numL (n : Int) : List UInt8 := if n < 0 then 45 :: dgs n.natAbs else dgs n.natAbs
def isD (c : UInt8) : Bool := decide (48 ≤ c.toNat) && decide (c.toNat ≤ 57)
def val (l : List UInt8) : Nat := l.foldl (fun a c => 10 * a + (c.toNat - 48)) 0

theorem dig_nat (d : Nat) (h : d < 10) : (dig d).toNat = 48 + d := by
  unfold dig
  rw [UInt8.toNat_ofNat']
  omega
theorem isD_dig (d : Nat) (h : d < 10) : isD (dig d) = true := by unfold isD; rw [dig_nat d h]; simp; omega
theorem dgF_all (k n : Nat) : ∀ c ∈ dgF k n, isD c = true := by
  induction k generalizing n with
  | zero => intro c h; cases h
  | succ k ih =>
    intro c h
    unfold dgF at h
    split at h
    · rw [List.mem_singleton] at h; subst h; exact isD_dig n (by assumption)
    · rw [List.mem_append, List.mem_singleton] at h
      rcases h with h | h
      · exact ih _ c h
      · subst h; exact isD_dig _ (Nat.mod_lt _ (by omega))
theorem val_snoc (l : List UInt8) (c : UInt8) : val (l ++ [c]) = 10 * val l + (c.toNat - 48) := by unfold val; rw [List.foldl_append]; rfl
theorem dgF_val (k : Nat) : ∀ n, n < 10 ^ k → val (dgF k n) = n ∨ k = 0 := by
  induction k with
  | zero => intro n h; exact .inr rfl
  | succ k ih =>
    intro n h
    left
    unfold dgF
    split
    · rename_i h1; unfold val; simp only [List.foldl_cons, List.foldl_nil]; rw [dig_nat n h1]; omega
    · rename_i h1
      have h2 : n / 10 < 10 ^ k := by rw [Nat.pow_succ] at h; omega
      rw [val_snoc, dig_nat _ (Nat.mod_lt _ (by omega))]
      rcases ih (n / 10) h2 with h3 | h3
      · rw [h3]; omega
      · subst h3; simp at h2; omega
theorem dgF_len (k : Nat) : ∀ n j, n < 10 ^ j → 1 ≤ j → (dgF k n).length ≤ j := by
  induction k with
  | zero => intro n j _ _; exact Nat.zero_le _
  | succ k ih =>
    intro n j h hj
    unfold dgF
    split
    · simpa using hj
    · rename_i h1
      rw [List.length_append, List.length_singleton]
      obtain ⟨j, rfl⟩ : ∃ i, j = i + 1 := ⟨j - 1, by omega⟩
      have h2 : n / 10 < 10 ^ j := by rw [Nat.pow_succ] at h; omega
      rcases Nat.eq_zero_or_pos j with h3 | h3
      · subst h3; simp at h2; omega
      · have := ih (n / 10) j h2 h3; omega
theorem dgF_ne (k n : Nat) : dgF (k + 1) n ≠ [] := by unfold dgF; split <;> simp
/-- Digits without noughts ahead. -/
def tidy (l : List UInt8) : Bool := match l with
  | [] => false
  | [c] => isD c
  | c :: r => isD c && (c != 48) && r.all isD
theorem tidy_all {l : List UInt8} (h : tidy l = true) : l.all isD = true ∧ l ≠ [] := by
  unfold tidy at h
  split at h
  · cases h
  · simp [h]
  · simp only [Bool.and_eq_true] at h; exact ⟨by rw [List.all_cons, h.1.1, Bool.true_and]; exact h.2, by simp⟩
theorem dgF_head (k : Nat) : ∀ n, 10 ≤ n → n < 10 ^ k → ∃ c r, dgF k n = c :: r ∧ c ≠ 48 := by
  induction k with
  | zero => intro n h1 h2; simp at h2; omega
  | succ k ih =>
    intro n h1 h2
    have h3 : n / 10 < 10 ^ k := by rw [Nat.pow_succ] at h2; omega
    unfold dgF
    rw [if_neg (by omega)]
    by_cases h4 : n / 10 < 10
    · cases k with
      | zero => simp at h3; omega
      | succ k =>
        unfold dgF
        rw [if_pos h4]
        refine ⟨_, _, rfl, ?_⟩
        intro e
        have := congrArg UInt8.toNat e
        rw [dig_nat _ h4] at this
        change 48 + n / 10 = 48 at this
        omega
    · obtain ⟨c, r, e, hc⟩ := ih (n / 10) (by omega) h3
      exact ⟨c, r ++ [dig (n % 10)], by rw [e]; rfl, hc⟩
theorem dgF_tidy (k n : Nat) (h : n < 10 ^ (k + 1)) : tidy (dgF (k + 1) n) = true := by
  by_cases h1 : n < 10
  · unfold dgF; rw [if_pos h1]; exact isD_dig n h1
  · obtain ⟨c, r, e, hc⟩ := dgF_head (k + 1) n (by omega) h
    have ha := dgF_all (k + 1) n
    rw [e] at ha ⊢
    unfold tidy
    cases r with
    | nil => exact ha c (by simp)
    | cons d r =>
      simp only [Bool.and_eq_true, bne_iff_ne, ne_eq]
      refine ⟨⟨ha c (by simp), hc⟩, ?_⟩
      rw [List.all_eq_true]
      exact fun x hx => ha x (List.mem_cons_of_mem _ hx)
theorem isD_dig_of {c : UInt8} (h : isD c = true) : dig (c.toNat - 48) = c := by
  unfold isD at h
  simp only [Bool.and_eq_true, decide_eq_true_eq] at h
  unfold dig
  rw [show 48 + (c.toNat - 48) = c.toNat by omega]
  exact UInt8.ofNat_toNat
theorem isD_lt {c : UInt8} (h : isD c = true) : c.toNat - 48 < 10 := by
  unfold isD at h
  simp only [Bool.and_eq_true, decide_eq_true_eq] at h
  omega
theorem tidy_init {l : List UInt8} {c : UInt8} (hl : l ≠ []) (h : tidy (l ++ [c]) = true) : tidy l = true ∧ 1 ≤ val l := by
  cases l with
  | nil => exact absurd rfl hl
  | cons a r =>
    have h1 : isD a = true ∧ a ≠ 48 ∧ (r ++ [c]).all isD = true := by
      unfold tidy at h
      cases r with
      | nil => simp at h; exact ⟨h.1.1, h.1.2, by simp [h.2]⟩
      | cons b r => simp at h; exact ⟨h.1.1, h.1.2, by simp; exact h.2⟩
    have h2 : r.all isD = true := by have := h1.2.2; rw [List.all_append, Bool.and_eq_true] at this; exact this.1
    refine ⟨?_, ?_⟩
    · unfold tidy
      cases r with
      | nil => exact h1.1
      | cons b r => simp only [Bool.and_eq_true, bne_iff_ne, ne_eq]; exact ⟨⟨h1.1, h1.2.1⟩, h2⟩
    · have ha : 1 ≤ a.toNat - 48 := by
        have h3 := h1.1
        unfold isD at h3
        simp only [Bool.and_eq_true, decide_eq_true_eq] at h3
        have h4 : a.toNat ≠ 48 := fun e => h1.2.1 (by
          have := UInt8.ofNat_toNat (x := a)
          rw [e] at this
          exact this.symm)
        omega
      have mono : ∀ (r : List UInt8) (x : Nat), 1 ≤ x → 1 ≤ r.foldl (fun a c => 10 * a + (c.toNat - 48)) x := by
        intro r
        induction r with
        | nil => intro x hx; exact hx
        | cons b r ih => intro x hx; exact ih (10 * x + (b.toNat - 48)) (by omega)
      exact mono r (10 * 0 + (a.toNat - 48)) (by omega)
theorem snoc_ind {P : List UInt8 → Prop} (h0 : P []) (h1 : ∀ l c, P l → P (l ++ [c])) : ∀ l, P l := by
  intro l
  have : ∀ n (l : List UInt8), l.length = n → P l := by
    intro n
    induction n with
    | zero => intro l h; rw [List.eq_nil_of_length_eq_zero h]; exact h0
    | succ n ih =>
      intro l h
      have hne : l ≠ [] := by intro e; subst e; simp at h
      rw [← List.dropLast_concat_getLast hne]
      exact h1 _ _ (ih _ (by simp [h]))
  exact this l.length l rfl
/-- Digits without noughts ahead are their number's. -/
theorem tidy_dgF : ∀ (l : List UInt8), tidy l = true → ∀ k, l.length ≤ k → dgF k (val l) = l := by
  intro l
  induction l using snoc_ind with
  | h0 => intro h; cases h
  | h1 l c ih =>
    intro h k hk
    rw [List.length_append, List.length_singleton] at hk
    obtain ⟨k, rfl⟩ : ∃ m, k = m + 1 := ⟨k - 1, by omega⟩
    have hall := (tidy_all h).1
    rw [List.all_append, Bool.and_eq_true] at hall
    have hc : isD c = true := by simpa using hall.2
    rw [val_snoc]
    unfold dgF
    by_cases hl : l = []
    · subst hl
      have e : val ([] : List UInt8) = 0 := rfl
      rw [e, Nat.mul_zero, Nat.zero_add, if_pos (isD_lt hc), isD_dig_of hc]
      rfl
    · obtain ⟨ht, hv⟩ := tidy_init hl h
      have hd := isD_lt hc
      rw [if_neg (by omega), show (10 * val l + (c.toNat - 48)) / 10 = val l by omega, show (10 * val l + (c.toNat - 48)) % 10 = c.toNat - 48 by omega, isD_dig_of hc, ih ht k (by omega)]
theorem val_lt : ∀ (l : List UInt8), l.all isD = true → val l < 10 ^ l.length := by
  intro l
  induction l using snoc_ind with
  | h0 => intro _; decide
  | h1 l c ih =>
    intro h
    rw [List.all_append, Bool.and_eq_true] at h
    have hd := isD_lt (c := c) (by simpa using h.2)
    have := ih h.1
    rw [val_snoc, List.length_append, List.length_singleton, Nat.pow_succ]
    omega
theorem dgs_tidy (n : Nat) (h : n < 10 ^ 20) : tidy (dgs n) = true := dgF_tidy 24 n (by omega)
theorem dgs_val (n : Nat) (h : n < 10 ^ 20) : val (dgs n) = n := by
  rcases dgF_val 25 n (by omega) with h | h
  · exact h
  · cases h
theorem dgs_of (l : List UInt8) (h : tidy l = true) (hl : l.length ≤ 25) : dgs (val l) = l := tidy_dgF l h 25 hl

/-- The number that has a text: a sign, digits. -/
def rdL (l : List UInt8) : Option Int :=
  match l with
  | 45 :: r => if tidy r = true ∧ r.length ≤ 19 ∧ 1 ≤ val r ∧ val r ≤ 9223372036854775808 then some (-(val r : Int)) else none
  | r => if tidy r = true ∧ r.length ≤ 19 ∧ val r ≤ 9223372036854775807 then some (val r : Int) else none
def In64 (n : Int) : Prop := -9223372036854775808 ≤ n ∧ n ≤ 9223372036854775807
theorem dgs_45 (n : Nat) (h : n < 10 ^ 20) (r : List UInt8) : dgs n ≠ 45 :: r := by
  intro e
  have h1 := (tidy_all (dgs_tidy n h)).1
  rw [e] at h1
  simp [isD] at h1
theorem rdL_num (n : Int) (h : In64 n) : rdL (numL n) = some n := by
  obtain ⟨h0, h1⟩ := h
  have hb : n.natAbs < 10 ^ 19 := by omega
  have ht := dgs_tidy n.natAbs (by omega)
  have hv := dgs_val n.natAbs (by omega)
  have hl : (dgs n.natAbs).length ≤ 19 := dgF_len 25 _ 19 hb (by omega)
  unfold numL
  by_cases c : n < 0
  · rw [if_pos c]
    show (if tidy (dgs n.natAbs) = true ∧ (dgs n.natAbs).length ≤ 19 ∧ 1 ≤ val (dgs n.natAbs) ∧ val (dgs n.natAbs) ≤ 9223372036854775808 then some (-(val (dgs n.natAbs) : Int)) else none) = some n
    rw [if_pos ⟨ht, hl, by omega, by omega⟩, hv]
    congr 1; omega
  · rw [if_neg c]
    unfold rdL
    split
    · rename_i r e; exact absurd e (dgs_45 _ (by omega) r)
    · rw [if_pos ⟨ht, hl, by omega⟩, hv]
      congr 1; omega
theorem num_rdL (l : List UInt8) (n : Int) (h : rdL l = some n) : numL n = l ∧ In64 n := by
  unfold rdL at h
  split at h
  · rename_i r
    split at h
    · rename_i c
      obtain rfl := Option.some.inj h
      refine ⟨?_, by unfold In64; omega⟩
      unfold numL
      rw [if_pos (by omega), show (-(val r : Int)).natAbs = val r by omega, dgs_of r c.1 (by omega)]
    · cases h
  · split at h
    · rename_i c
      obtain rfl := Option.some.inj h
      refine ⟨?_, by unfold In64; omega⟩
      unfold numL
      rw [if_neg (by omega), show ((val l : Nat) : Int).natAbs = val l by omega, dgs_of l c.1 (by omega)]
    · cases h
theorem numL_len (n : Int) (h : In64 n) : (numL n).length ≤ 20 := by
  obtain ⟨h0, h1⟩ := h
  have hl : (dgs n.natAbs).length ≤ 19 := dgF_len 25 _ 19 (by omega) (by omega)
  unfold numL
  split
  · rw [List.length_cons]; omega
  · omega
theorem numL_ne (n : Int) : numL n ≠ [] := by
  unfold numL; split
  · simp
  · exact dgF_ne 24 _
/-- In a number's text stand a sign and digits alone. -/
theorem numL_chars (n : Int) : ∀ c ∈ numL n, c = 45 ∨ isD c = true := by
  intro c h
  unfold numL at h
  split at h
  · rcases List.mem_cons.1 h with h | h
    · exact .inl h
    · exact .inr (dgF_all _ _ c h)
  · exact .inr (dgF_all _ _ c h)
end Go.Proofs.YtkachkmmjlboeaaDoor.X

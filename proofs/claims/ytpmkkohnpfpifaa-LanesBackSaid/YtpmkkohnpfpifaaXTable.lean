/- The table of all numbers of weaves up to some, as numbers: what lanes.table tells of rows that may be. Conditions: none. -/
import Derived.Test.YtpmkkohnpfpifaaYlanes_tablex1
namespace Go.Proofs.Ytpmkkohnpfpifaa.X
open Go.RowKit Go.Proofs.Ytpmkkohnpfpifaa.Ylanes_table Go.Proofs.YtpmkkohnpfpifaaW.PrintWords Go.Proofs.YtpmkkohnpfpifaaW.PrintLast

/-- How many weaves there are of i steps and q steps. -/
def C : Nat → Nat → Nat
  | 0, _ => 1
  | _ + 1, 0 => 1
  | i + 1, q + 1 => C i (q + 1) + C (i + 1) q
theorem C_zero (i : Nat) : C i 0 = 1 := by cases i <;> simp [C]
theorem C_row (q : Nat) : C 0 q = 1 := by simp [C]
theorem C_succ (i q : Nat) : C (i + 1) (q + 1) = C i (q + 1) + C (i + 1) q := by simp [C]
theorem C_le (i q : Nat) : C i q ≤ 2 ^ (i + q) := by
  induction i generalizing q with
  | zero => rw [C_row]; exact Nat.one_le_two_pow
  | succ i ih =>
    induction q with
    | zero => rw [C_zero]; exact Nat.one_le_two_pow
    | succ q ihq =>
      rw [C_succ]
      have := ih (q + 1)
      have e : 2 ^ (i + 1 + (q + 1)) = 2 ^ (i + (q + 1)) + 2 ^ (i + 1 + q) := by
        rw [show i + 1 + (q + 1) = (i + (q + 1)) + 1 by omega, show i + 1 + q = i + (q + 1) by omega, Nat.pow_succ]; omega
      omega
theorem C_pos (i q : Nat) : 1 ≤ C i q := by
  induction i generalizing q with
  | zero => rw [C_row]; exact Nat.le_refl _
  | succ i ih =>
    cases q with
    | zero => rw [C_zero]; exact Nat.le_refl _
    | succ q => rw [C_succ]; have := ih (q + 1); omega
theorem C_comm (i q : Nat) : C i q = C q i := by
  induction i generalizing q with
  | zero => rw [C_row, C_zero]
  | succ i ih =>
    induction q with
    | zero => rw [C_zero, C_row]
    | succ q ihq => rw [C_succ, C_succ, ih (q + 1), ihq]; omega
theorem C_bound (i q : Nat) (hi : i ≤ 31) (hq : q ≤ 31) : C i q ≤ 4611686018427387904 := by
  have h := C_le i q
  have : 2 ^ (i + q) ≤ 2 ^ 62 := Nat.pow_le_pow_right (by decide) (by omega)
  omega

theorem w64 {a : Int} (h0 : -9223372036854775808 ≤ a) (h1 : a ≤ 9223372036854775807) : wrap64 a = a := by unfold wrap64; omega
theorem map_set {α : Type} (n : Nat) (f : Nat → α) (i : Nat) (v : α) : ((List.range n).map f).set i v = (List.range n).map fun j => if j = i then v else f j := by
  apply List.ext_getElem
  · simp
  · intro j h1 h2
    simp at h1 h2
    rw [List.getElem_set]
    simp
    by_cases e : i = j
    · subst e; simp
    · simp [e, Ne.symm e]
theorem map_congr {α : Type} (n : Nat) (f g : Nat → α) (h : ∀ j, j < n → f j = g j) : (List.range n).map f = (List.range n).map g := by
  apply List.map_congr_left
  intro j hj
  exact h j (by simpa using hj)
theorem rd_map (n : Nat) (f : Nat → Int) (i : Nat) (h : i < n) : rd ((List.range n).map f) (i : Int) = f i := by
  unfold rd; simp [List.getD, h]
theorem rdL_map (n : Nat) (f : Nat → List Int) (i : Nat) (h : i < n) : rd_L1 ((List.range n).map f) (i : Int) = f i := by
  unfold rd_L1; simp [List.getD, h]

def rowP (b i q : Nat) : List Int := (List.range (b + 1)).map fun c => if c < q then (C i c : Int) else 0
def rowN (b i : Nat) : List Int := (List.range (b + 1)).map fun c => (C i c : Int)
def tabP (a b i q : Nat) : List (List Int) := (List.range (a + 1)).map fun j => if j < i then rowN b j else if j = i then rowP b i q else []
def tabS (a b i : Nat) : List (List Int) := (List.range (a + 1)).map fun j => if j < i then rowN b j else []
def tabN (a b : Nat) : List (List Int) := (List.range (a + 1)).map fun j => rowN b j
theorem rowP_all (b i : Nat) : rowP b i (b + 1) = rowN b i := by
  unfold rowP rowN
  apply map_congr
  intro j hj
  rw [if_pos hj]
theorem tabP_all (a b i : Nat) : tabP a b i (b + 1) = tabS a b (i + 1) := by
  unfold tabP tabS
  apply map_congr
  intro j hj
  rw [rowP_all]
  by_cases h : j < i
  · rw [if_pos h, if_pos (by omega)]
  · rw [if_neg h]
    by_cases e : j = i
    · subst e; rw [if_pos rfl, if_pos (by omega)]
    · rw [if_neg e, if_neg (by omega)]
theorem rowP_set (b i q : Nat) (h : q ≤ b) : (rowP b i q).set q (C i q : Int) = rowP b i (q + 1) := by
  unfold rowP
  rw [map_set]
  apply map_congr
  intro j hj
  by_cases e : j = q
  · subst e; rw [if_pos rfl, if_pos (by omega)]
  · rw [if_neg e]
    by_cases h2 : j < q
    · rw [if_pos h2, if_pos (by omega)]
    · rw [if_neg h2, if_neg (by omega)]
theorem tabP_set (a b i q : Nat) (_h : q ≤ b) : (tabP a b i q).set i (rowP b i (q + 1)) = tabP a b i (q + 1) := by
  unfold tabP
  rw [map_set]
  apply map_congr
  intro j hj
  by_cases e : j = i
  · subst e; rw [if_pos rfl, if_neg (by omega), if_pos rfl]
  · rw [if_neg e, if_neg e, if_neg e]
theorem tabS_set (a b i : Nat) : (tabS a b i).set i (List.replicate (b + 1) 0) = tabP a b i 0 := by
  unfold tabS tabP
  rw [map_set]
  apply map_congr
  intro j hj
  by_cases e : j = i
  · subst e; rw [if_pos rfl, if_neg (by omega), if_pos rfl]
    unfold rowP
    apply List.ext_getElem
    · simp
    · intro c h1 h2; simp
  · rw [if_neg e, if_neg e]
theorem tabP_len (a b i q : Nat) : ((tabP a b i q).length : Int) = (a : Int) + 1 := by unfold tabP; simp
theorem tabP_rd (a b i q : Nat) (h : i ≤ a) : rd_L1 (tabP a b i q) (i : Int) = rowP b i q := by
  unfold tabP; rw [rdL_map _ _ i (by omega), if_neg (by omega), if_pos rfl]
theorem tabP_up (a b i q : Nat) (h : i + 1 ≤ a) : rd_L1 (tabP a b (i + 1) q) (i : Int) = rowN b i := by
  unfold tabP; rw [rdL_map _ _ i (by omega), if_pos (by omega)]
theorem rowP_len (b i q : Nat) : ((rowP b i q).length : Int) = (b : Int) + 1 := by unfold rowP; simp
theorem rowN_len (b i : Nat) : ((rowN b i).length : Int) = (b : Int) + 1 := by unfold rowN; simp

theorem l1_step (k a b i q : Nat) (hi : i ≤ a) (ha : a ≤ 30) (hq : q ≤ b) (hb : b ≤ 30) :
    lanes_table.l1 (k + 1) (b : Int) (tabP a b i q) (i : Int) ((a : Int) + 1) (i : Int) ((b : Int) + 1) (q : Int) = lanes_table.l1 k (b : Int) (tabP a b i (q + 1)) (i : Int) ((a : Int) + 1) (i : Int) ((b : Int) + 1) ((q + 1 : Nat) : Int) := by
  simp only [lanes_table.l1]
  rw [if_pos (by omega), w64 (a := (q : Int) + 1) (by omega) (by omega), tabP_rd a b i q hi, tabP_len, rowP_len]
  have e1 : ((q : Int) + 1) = ((q + 1 : Nat) : Int) := by omega
  cases i with
  | zero =>
    rw [if_pos (by omega), if_pos (by omega), if_pos (by omega), if_pos (by omega), if_pos (by omega)]
    have := rowP_set b 0 q hq
    rw [C_row] at this
    simp only [Int.toNat_natCast] at this ⊢
    rw [show ((1 : Nat) : Int) = 1 from rfl] at this
    rw [this, tabP_set a b 0 q hq, e1]
  | succ i =>
    rw [if_neg (by omega)]
    cases q with
    | zero =>
      rw [if_pos (by omega), if_pos (by omega), if_pos (by omega), if_pos (by omega), if_pos (by omega)]
      have := rowP_set b (i + 1) 0 hq
      rw [C_zero] at this
      simp only [Int.toNat_natCast] at this ⊢
      rw [show ((1 : Nat) : Int) = 1 from rfl] at this
      rw [this, tabP_set a b (i + 1) 0 hq, e1]
    | succ q =>
      rw [if_neg (by omega), w64 (a := ((i + 1 : Nat) : Int) - 1) (by omega) (by omega), w64 (a := ((q + 1 : Nat) : Int) - 1) (by omega) (by omega)]
      rw [show ((i + 1 : Nat) : Int) - 1 = (i : Int) by omega, show ((q + 1 : Nat) : Int) - 1 = (q : Int) by omega]
      rw [tabP_up a b i (q + 1) hi, rowN_len]
      rw [if_pos (by omega), if_pos (by omega), if_pos (by omega), if_pos (by omega), if_pos (by omega), if_pos (by omega), if_pos (by omega), if_pos (by omega), if_pos (by omega)]
      have r1 : rd (rowN b i) ((q + 1 : Nat) : Int) = (C i (q + 1) : Int) := by unfold rowN; rw [rd_map _ _ (q + 1) (by omega)]
      have r2 : rd (rowP b (i + 1) (q + 1)) (q : Int) = (C (i + 1) q : Int) := by unfold rowP; rw [rd_map _ _ q (by omega), if_pos (by omega)]
      rw [r1, r2]
      have b1 := C_bound i (q + 1) (by omega) (by omega)
      have b2 := C_bound (i + 1) q (by omega) (by omega)
      have b3 := C_bound (i + 1) (q + 1) (by omega) (by omega)
      have hs := C_succ i q
      rw [w64 (by omega) (by omega)]
      have := rowP_set b (i + 1) (q + 1) hq
      rw [C_succ] at this
      simp only [Int.toNat_natCast] at this ⊢
      rw [show ((C i (q + 1) + C (i + 1) q : Nat) : Int) = (C i (q + 1) : Int) + (C (i + 1) q : Int) by omega] at this
      rw [this, tabP_set a b (i + 1) (q + 1) hq, e1]
theorem l1_all (a b i : Nat) (hi : i ≤ a) (ha : a ≤ 30) (hb : b ≤ 30) (d : Nat) : ∀ (k q : Nat), q + d = b + 1 → d < k →
    lanes_table.l1 k (b : Int) (tabP a b i q) (i : Int) ((a : Int) + 1) (i : Int) ((b : Int) + 1) (q : Int) = lanes_table.l0 (k - d - 1) (b : Int) (tabS a b (i + 1)) ((a : Int) + 1) ((i + 1 : Nat) : Int) := by
  induction d with
  | zero =>
    intro k q hq hk
    obtain ⟨k, rfl⟩ : ∃ m, k = m + 1 := ⟨k - 1, by omega⟩
    obtain rfl : q = b + 1 := by omega
    simp only [lanes_table.l1]
    rw [if_neg (by omega), w64 (a := (i : Int) + 1) (by omega) (by omega), tabP_all]
    rfl
  | succ d ih =>
    intro k q hq hk
    obtain ⟨k, rfl⟩ : ∃ m, k = m + 1 := ⟨k - 1, by omega⟩
    rw [l1_step k a b i q hi ha (by omega) hb, ih k (q + 1) (by omega) (by omega)]
    congr 1; omega
theorem l0_all (a b : Nat) (ha : a ≤ 30) (hb : b ≤ 30) (d : Nat) : ∀ (k i : Nat), i + d = a + 1 → d * 40 < k →
    lanes_table.l0 k (b : Int) (tabS a b i) ((a : Int) + 1) (i : Int) = some (tabN a b) := by
  induction d with
  | zero =>
    intro k i hi hk
    obtain ⟨k, rfl⟩ : ∃ m, k = m + 1 := ⟨k - 1, by omega⟩
    simp only [lanes_table.l0]
    rw [if_neg (by omega)]
    congr 1
    unfold tabS tabN
    apply map_congr
    intro j hj
    rw [if_pos (by omega)]
  | succ d ih =>
    intro k i hi hk
    obtain ⟨k, rfl⟩ : ∃ m, k = m + 1 := ⟨k - 1, by omega⟩
    simp only [lanes_table.l0]
    have hl : ((tabS a b i).length : Int) = (a : Int) + 1 := by unfold tabS; simp
    rw [if_pos (by omega), w64 (a := (b : Int) + 1) (by omega) (by omega), if_pos (by omega), if_pos (by omega), if_pos (by omega), if_pos (by omega), Option.bind_some]
    rw [show ((b : Int) + 1).toNat = b + 1 by omega, Int.toNat_natCast, tabS_set, tabP_rd a b i 0 (by omega), rowP_len]
    have := l1_all a b i (by omega) ha hb (b + 1) k 0 (by omega) (by omega)
    rw [show ((0 : Nat) : Int) = 0 from rfl] at this
    rw [this]
    exact ih _ (i + 1) (by omega) (by omega)
theorem table_is (a b : Nat) (ha : a ≤ 30) (hb : b ≤ 30) : Ylanes_table.lanes_table.f 2000 (a : Int) (b : Int) = some (tabN a b) := by
  unfold Ylanes_table.lanes_table.f
  rw [w64 (a := (a : Int) + 1) (by omega) (by omega), if_pos (by omega), if_pos (by omega), Option.bind_some]
  have e : List.replicate ((a : Int) + 1).toNat ([] : List Int) = tabS a b 0 := by
    rw [show ((a : Int) + 1).toNat = a + 1 by omega]
    unfold tabS
    apply List.ext_getElem
    · simp
    · intro c h1 h2; simp
  rw [e]
  have hl : ((tabS a b 0).length : Int) = (a : Int) + 1 := by unfold tabS; simp
  rw [hl]
  exact l0_all a b ha hb (a + 1) 2000 0 (by omega) (by omega)
def lanes_table.f (a0 : Int) (a1 : Int) : Option (List (List Int)) := if 0 ≤ a0 ∧ a0 ≤ 30 ∧ 0 ≤ a1 ∧ a1 ≤ 30 then some (tabN a0.toNat a1.toNat) else none
theorem lanes_table.calls (a0 : Int) (a1 : Int) (r : List (List Int)) (w : World) (h : lanes_table.f a0 a1 = some r) :
    Calls Try.prog 18 #[.int .i64 a0, .int .i64 a1] w fun e w' => ∃ v0_ : Value, e = .returned (v0_) ∧ Kd.S (Kd.slice 3 (Kd.int .i64)) 22 w' w.heap.size (fun _ => True) v0_ r ∧ Below w.heap.size w w' := by
  unfold X.lanes_table.f at h
  by_cases hc : 0 ≤ a0 ∧ a0 ≤ 30 ∧ 0 ≤ a1 ∧ a1 ≤ 30
  · rw [if_pos hc] at h
    obtain ⟨a, rfl⟩ := Int.eq_ofNat_of_zero_le hc.1
    obtain ⟨b, rfl⟩ := Int.eq_ofNat_of_zero_le hc.2.2.1
    refine Ylanes_table.lanes_table.calls 2000 (a : Int) (b : Int) r w ?_
    rw [table_is a b (by omega) (by omega)]
    simpa using h
  · rw [if_neg hc] at h; cases h

end Go.Proofs.Ytpmkkohnpfpifaa.X

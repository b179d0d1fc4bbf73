/- Contracts of the layers 30 and 31, and plain facts on texts, one behind the other: Plain: a number's digits, and what digits tell. Conditions: none. | callcode.Num: contract by hand. Conditions: none. | The reference's Num and Read: what they tell. Conditions: none. | callcode.magnitude: contract by hand. Conditions: none. | callcode.Read: contract by hand. Conditions: none. | A text's pieces: the program's Fields and the reference's. Conditions: none. | callcode.forms and part.of. Conditions: none. | part.of; a call in memory; the plain text of a call. Conditions: none. | callcode.Call: contract by hand. Conditions: none. | callcode.Call: contract by hand. Conditions: none. | callcode's form.read: contract by hand. Conditions: none. | callcode.Parse: contract by hand. Conditions: none. | Plain: calls as texts, there and back. Conditions: none. | Plain: entries and scripts as texts, there and back. Conditions: none. -/
import Derived.Test.YtdaagoagfenadaaDoorYAllx0
import Derived.Deep.RegionHeld3
import Derived.IntWalk
import Derived.WalkLawsBesides
import Derived.Lib.OthersKept
import Derived.Test.YtdaagoagfenadaaDoorShelf
import Derived.Lib.SplitLaws
import Derived.BigQuiet
import Derived.Test.YtdaagoagfenadaaDoorYAllf25
import Derived.Test.YtdaagoagfenadaaDoorYAllf30
import Derived.Test.YtdaagoagfenadaaDoorYAllf31
namespace Go.Proofs.YtdaagoagfenadaaDoor.X
set_option linter.unusedVariables false
set_option linter.unusedSimpArgs false

def dig (d : Nat) : UInt8 := UInt8.ofNat (48 + d)
def dgF : Nat → Nat → List UInt8
  | 0, _ => []
  | k + 1, n => if n < 10 then [dig n] else dgF k (n / 10) ++ [dig (n % 10)]
def dgs (n : Nat) : List UInt8 := dgF 25 n
def numL (n : Int) : List UInt8 := if n < 0 then 45 :: dgs n.natAbs else dgs n.natAbs
def isD (c : UInt8) : Bool := decide (48 ≤ c.toNat) && decide (c.toNat ≤ 57)
def val (l : List UInt8) : Nat := l.foldl (fun a c => 10 * a + (c.toNat - 48)) 0

theorem dig_nat (d : Nat) (h : d < 10) : (dig d).toNat = 48 + d := by
  unfold dig
  rw [UInt8.toNat_ofNat']
  omega
theorem isD_dig (d : Nat) (h : d < 10) : isD (dig d) = true := by unfold isD; rw [dig_nat d h]; simp; omega
theorem dgF_all (k n : Nat) : ∀ c ∈ dgF k n, isD c = true := by
  induction k generalizing n with
  | zero => intro c h; cases h
  | succ k ih =>
    intro c h
    unfold dgF at h
    split at h
    · rw [List.mem_singleton] at h; subst h; exact isD_dig n (by assumption)
    · rw [List.mem_append, List.mem_singleton] at h
      rcases h with h | h
      · exact ih _ c h
      · subst h; exact isD_dig _ (Nat.mod_lt _ (by omega))
theorem val_snoc (l : List UInt8) (c : UInt8) : val (l ++ [c]) = 10 * val l + (c.toNat - 48) := by unfold val; rw [List.foldl_append]; rfl
theorem dgF_val (k : Nat) : ∀ n, n < 10 ^ k → val (dgF k n) = n ∨ k = 0 := by
  induction k with
  | zero => intro n h; exact .inr rfl
  | succ k ih =>
    intro n h
    left
    unfold dgF
    split
    · rename_i h1; unfold val; simp only [List.foldl_cons, List.foldl_nil]; rw [dig_nat n h1]; omega
    · rename_i h1
      have h2 : n / 10 < 10 ^ k := by rw [Nat.pow_succ] at h; omega
      rw [val_snoc, dig_nat _ (Nat.mod_lt _ (by omega))]
      rcases ih (n / 10) h2 with h3 | h3
      · rw [h3]; omega
      · subst h3; simp at h2; omega
theorem dgF_len (k : Nat) : ∀ n j, n < 10 ^ j → 1 ≤ j → (dgF k n).length ≤ j := by
  induction k with
  | zero => intro n j _ _; exact Nat.zero_le _
  | succ k ih =>
    intro n j h hj
    unfold dgF
    split
    · simpa using hj
    · rename_i h1
      rw [List.length_append, List.length_singleton]
      obtain ⟨j, rfl⟩ : ∃ i, j = i + 1 := ⟨j - 1, by omega⟩
      have h2 : n / 10 < 10 ^ j := by rw [Nat.pow_succ] at h; omega
      rcases Nat.eq_zero_or_pos j with h3 | h3
      · subst h3; simp at h2; omega
      · have := ih (n / 10) j h2 h3; omega
theorem dgF_ne (k n : Nat) : dgF (k + 1) n ≠ [] := by unfold dgF; split <;> simp
/-- Digits without noughts ahead. -/
def tidy (l : List UInt8) : Bool := match l with
  | [] => false
  | [c] => isD c
  | c :: r => isD c && (c != 48) && r.all isD
theorem tidy_all {l : List UInt8} (h : tidy l = true) : l.all isD = true ∧ l ≠ [] := by
  unfold tidy at h
  split at h
  · cases h
  · simp [h]
  · simp only [Bool.and_eq_true] at h; exact ⟨by rw [List.all_cons, h.1.1, Bool.true_and]; exact h.2, by simp⟩
theorem dgF_head (k : Nat) : ∀ n, 10 ≤ n → n < 10 ^ k → ∃ c r, dgF k n = c :: r ∧ c ≠ 48 := by
  induction k with
  | zero => intro n h1 h2; simp at h2; omega
  | succ k ih =>
    intro n h1 h2
    have h3 : n / 10 < 10 ^ k := by rw [Nat.pow_succ] at h2; omega
    unfold dgF
    rw [if_neg (by omega)]
    by_cases h4 : n / 10 < 10
    · cases k with
      | zero => simp at h3; omega
      | succ k =>
        unfold dgF
        rw [if_pos h4]
        refine ⟨_, _, rfl, ?_⟩
        intro e
        have := congrArg UInt8.toNat e
        rw [dig_nat _ h4] at this
        change 48 + n / 10 = 48 at this
        omega
    · obtain ⟨c, r, e, hc⟩ := ih (n / 10) (by omega) h3
      exact ⟨c, r ++ [dig (n % 10)], by rw [e]; rfl, hc⟩
theorem dgF_tidy (k n : Nat) (h : n < 10 ^ (k + 1)) : tidy (dgF (k + 1) n) = true := by
  by_cases h1 : n < 10
  · unfold dgF; rw [if_pos h1]; exact isD_dig n h1
  · obtain ⟨c, r, e, hc⟩ := dgF_head (k + 1) n (by omega) h
    have ha := dgF_all (k + 1) n
    rw [e] at ha ⊢
    unfold tidy
    cases r with
    | nil => exact ha c (by simp)
    | cons d r =>
      simp only [Bool.and_eq_true, bne_iff_ne, ne_eq]
      refine ⟨⟨ha c (by simp), hc⟩, ?_⟩
      rw [List.all_eq_true]
      exact fun x hx => ha x (List.mem_cons_of_mem _ hx)
theorem isD_dig_of {c : UInt8} (h : isD c = true) : dig (c.toNat - 48) = c := by
  unfold isD at h
  simp only [Bool.and_eq_true, decide_eq_true_eq] at h
  unfold dig
  rw [show 48 + (c.toNat - 48) = c.toNat by omega]
  exact UInt8.ofNat_toNat
theorem isD_lt {c : UInt8} (h : isD c = true) : c.toNat - 48 < 10 := by
  unfold isD at h
  simp only [Bool.and_eq_true, decide_eq_true_eq] at h
  omega
theorem tidy_init {l : List UInt8} {c : UInt8} (hl : l ≠ []) (h : tidy (l ++ [c]) = true) : tidy l = true ∧ 1 ≤ val l := by
  cases l with
  | nil => exact absurd rfl hl
  | cons a r =>
    have h1 : isD a = true ∧ a ≠ 48 ∧ (r ++ [c]).all isD = true := by
      unfold tidy at h
      cases r with
      | nil => simp at h; exact ⟨h.1.1, h.1.2, by simp [h.2]⟩
      | cons b r => simp at h; exact ⟨h.1.1, h.1.2, by simp; exact h.2⟩
    have h2 : r.all isD = true := by have := h1.2.2; rw [List.all_append, Bool.and_eq_true] at this; exact this.1
    refine ⟨?_, ?_⟩
    · unfold tidy
      cases r with
      | nil => exact h1.1
      | cons b r => simp only [Bool.and_eq_true, bne_iff_ne, ne_eq]; exact ⟨⟨h1.1, h1.2.1⟩, h2⟩
    · have ha : 1 ≤ a.toNat - 48 := by
        have h3 := h1.1
        unfold isD at h3
        simp only [Bool.and_eq_true, decide_eq_true_eq] at h3
        have h4 : a.toNat ≠ 48 := fun e => h1.2.1 (by
          have := UInt8.ofNat_toNat (x := a)
          rw [e] at this
          exact this.symm)
        omega
      have mono : ∀ (r : List UInt8) (x : Nat), 1 ≤ x → 1 ≤ r.foldl (fun a c => 10 * a + (c.toNat - 48)) x := by
        intro r
        induction r with
        | nil => intro x hx; exact hx
        | cons b r ih => intro x hx; exact ih (10 * x + (b.toNat - 48)) (by omega)
      exact mono r (10 * 0 + (a.toNat - 48)) (by omega)
theorem snoc_ind {P : List UInt8 → Prop} (h0 : P []) (h1 : ∀ l c, P l → P (l ++ [c])) : ∀ l, P l := by
  intro l
  have : ∀ n (l : List UInt8), l.length = n → P l := by
    intro n
    induction n with
    | zero => intro l h; rw [List.eq_nil_of_length_eq_zero h]; exact h0
    | succ n ih =>
      intro l h
      have hne : l ≠ [] := by intro e; subst e; simp at h
      rw [← List.dropLast_concat_getLast hne]
      exact h1 _ _ (ih _ (by simp [h]))
  exact this l.length l rfl
/-- Digits without noughts ahead are their number's. -/
theorem tidy_dgF : ∀ (l : List UInt8), tidy l = true → ∀ k, l.length ≤ k → dgF k (val l) = l := by
  intro l
  induction l using snoc_ind with
  | h0 => intro h; cases h
  | h1 l c ih =>
    intro h k hk
    rw [List.length_append, List.length_singleton] at hk
    obtain ⟨k, rfl⟩ : ∃ m, k = m + 1 := ⟨k - 1, by omega⟩
    have hall := (tidy_all h).1
    rw [List.all_append, Bool.and_eq_true] at hall
    have hc : isD c = true := by simpa using hall.2
    rw [val_snoc]
    unfold dgF
    by_cases hl : l = []
    · subst hl
      have e : val ([] : List UInt8) = 0 := rfl
      rw [e, Nat.mul_zero, Nat.zero_add, if_pos (isD_lt hc), isD_dig_of hc]
      rfl
    · obtain ⟨ht, hv⟩ := tidy_init hl h
      have hd := isD_lt hc
      rw [if_neg (by omega), show (10 * val l + (c.toNat - 48)) / 10 = val l by omega, show (10 * val l + (c.toNat - 48)) % 10 = c.toNat - 48 by omega, isD_dig_of hc, ih ht k (by omega)]
theorem val_lt : ∀ (l : List UInt8), l.all isD = true → val l < 10 ^ l.length := by
  intro l
  induction l using snoc_ind with
  | h0 => intro _; decide
  | h1 l c ih =>
    intro h
    rw [List.all_append, Bool.and_eq_true] at h
    have hd := isD_lt (c := c) (by simpa using h.2)
    have := ih h.1
    rw [val_snoc, List.length_append, List.length_singleton, Nat.pow_succ]
    omega
theorem dgs_tidy (n : Nat) (h : n < 10 ^ 20) : tidy (dgs n) = true := dgF_tidy 24 n (by omega)
theorem dgs_val (n : Nat) (h : n < 10 ^ 20) : val (dgs n) = n := by
  rcases dgF_val 25 n (by omega) with h | h
  · exact h
  · cases h
theorem dgs_of (l : List UInt8) (h : tidy l = true) (hl : l.length ≤ 25) : dgs (val l) = l := tidy_dgF l h 25 hl

/-- The number that has a text: a sign, digits. -/
def rdL (l : List UInt8) : Option Int :=
  match l with
  | 45 :: r => if tidy r = true ∧ r.length ≤ 19 ∧ 1 ≤ val r ∧ val r ≤ 9223372036854775808 then some (-(val r : Int)) else none
  | r => if tidy r = true ∧ r.length ≤ 19 ∧ val r ≤ 9223372036854775807 then some (val r : Int) else none
def In64 (n : Int) : Prop := -9223372036854775808 ≤ n ∧ n ≤ 9223372036854775807
theorem dgs_45 (n : Nat) (h : n < 10 ^ 20) (r : List UInt8) : dgs n ≠ 45 :: r := by
  intro e
  have h1 := (tidy_all (dgs_tidy n h)).1
  rw [e] at h1
  simp [isD] at h1
theorem rdL_num (n : Int) (h : In64 n) : rdL (numL n) = some n := by
  obtain ⟨h0, h1⟩ := h
  have hb : n.natAbs < 10 ^ 19 := by omega
  have ht := dgs_tidy n.natAbs (by omega)
  have hv := dgs_val n.natAbs (by omega)
  have hl : (dgs n.natAbs).length ≤ 19 := dgF_len 25 _ 19 hb (by omega)
  unfold numL
  by_cases c : n < 0
  · rw [if_pos c]
    show (if tidy (dgs n.natAbs) = true ∧ (dgs n.natAbs).length ≤ 19 ∧ 1 ≤ val (dgs n.natAbs) ∧ val (dgs n.natAbs) ≤ 9223372036854775808 then some (-(val (dgs n.natAbs) : Int)) else none) = some n
    rw [if_pos ⟨ht, hl, by omega, by omega⟩, hv]
    congr 1; omega
  · rw [if_neg c]
    unfold rdL
    split
    · rename_i r e; exact absurd e (dgs_45 _ (by omega) r)
    · rw [if_pos ⟨ht, hl, by omega⟩, hv]
      congr 1; omega
theorem num_rdL (l : List UInt8) (n : Int) (h : rdL l = some n) : numL n = l ∧ In64 n := by
  unfold rdL at h
  split at h
  · rename_i r
    split at h
    · rename_i c
      obtain rfl := Option.some.inj h
      refine ⟨?_, by unfold In64; omega⟩
      unfold numL
      rw [if_pos (by omega), show (-(val r : Int)).natAbs = val r by omega, dgs_of r c.1 (by omega)]
    · cases h
  · split at h
    · rename_i c
      obtain rfl := Option.some.inj h
      refine ⟨?_, by unfold In64; omega⟩
      unfold numL
      rw [if_neg (by omega), show ((val l : Nat) : Int).natAbs = val l by omega, dgs_of l c.1 (by omega)]
    · cases h
theorem numL_len (n : Int) (h : In64 n) : (numL n).length ≤ 20 := by
  obtain ⟨h0, h1⟩ := h
  have hl : (dgs n.natAbs).length ≤ 19 := dgF_len 25 _ 19 (by omega) (by omega)
  unfold numL
  split
  · rw [List.length_cons]; omega
  · omega
theorem numL_ne (n : Int) : numL n ≠ [] := by
  unfold numL; split
  · simp
  · exact dgF_ne 24 _
/-- In a number's text stand a sign and digits alone. -/
theorem numL_chars (n : Int) : ∀ c ∈ numL n, c = 45 ∨ isD c = true := by
  intro c h
  unfold numL at h
  split at h
  · rcases List.mem_cons.1 h with h | h
    · exact .inl h
    · exact .inr (dgF_all _ _ c h)
  · exact .inr (dgF_all _ _ c h)
end Go.Proofs.YtdaagoagfenadaaDoor.X
namespace Go.Proofs.YtdaagoagfenadaaDoor.X
open Go.RowKit Go.Proofs.YtdaagoagfenadaaDoor.YAll Go.Proofs.YtdaagoagfenadaaDoorW.PrintWords Go.Proofs.YtdaagoagfenadaaDoorW.PrintLast Go.Proofs.YtdaagoagfenadaaDoorW.PrintMore
set_option linter.unusedVariables false
set_option linter.unusedSimpArgs false

def bs (l : List UInt8) : ByteArray := ⟨l.toArray⟩
def c8 (c : UInt8) : Value := .int .u8 (c.toNat : Int)
/-- At block q lies an array of twenty bytes, of which the last ones are acc. -/
structure Arr (w : World) (q : Nat) (acc : List UInt8) : Prop where
  ex : ∃ C, w.heap[q]? = some (.cells C 83) ∧ C.size = 20 ∧ C.toList.drop (20 - acc.length) = acc.map c8
  len : acc.length ≤ 20
theorem drop_set (l : List Value) (i : Nat) (v : Value) (h : i < l.length) : (l.set i v).drop i = v :: l.drop (i + 1) := by
  rw [List.drop_set, if_neg (by omega), Nat.sub_self, List.drop_eq_getElem_cons h]
  rfl
theorem Arr.put {w : World} {q : Nat} {acc : List UInt8} (h : Arr w q acc) (i : Nat) (hi : i + acc.length + 1 = 20) (c : UInt8) : Arr (w.setCell ⟨q, i, none⟩ (c8 c)) q (c :: acc) := by
  obtain ⟨C, hC, hs, hd⟩ := h.ex
  refine ⟨⟨C.setIfInBounds i (c8 c), blk_set hC i _, by simpa using hs, ?_⟩, by rw [List.length_cons]; omega⟩
  rw [List.length_cons, show 20 - (acc.length + 1) = i by omega]
  have e : (C.setIfInBounds i (c8 c)).toList = C.toList.set i (c8 c) := by simp
  rw [e, drop_set _ _ _ (by simp [hs]; omega), List.map_cons, show i + 1 = 20 - acc.length by omega, hd]
theorem Arr.cell {w : World} {q : Nat} {acc : List UInt8} (h : Arr w q acc) (i : Nat) (hi : i < 20) : ∃ u, w.cell? ⟨q, i, none⟩ = some u ∧ w.frozen? ⟨q, i, none⟩ = false := by
  obtain ⟨C, hC, hs, hd⟩ := h.ex
  exact ⟨C[i]'(by omega), by rw [blk_cell hC]; simp [hs, hi], blk_frozen hC i⟩
theorem bthen {w v w' : World} (h : Below w.heap.size w v) (k : Below v.heap.size v w') : Below w.heap.size w w' := h.trans (k.mono h.size)
theorem ballo {w v : World} (h : Below w.heap.size w v) (o : Obj) : Below w.heap.size w (v.alloc o) := h.alloc h.size o
theorem Arr.C {w : World} {q : Nat} {acc : List UInt8} (h : Arr w q acc) : Kd.C (Kd.int .u8) w (some ⟨q, 20 - acc.length, none⟩) acc.length (acc.map fun c => (c.toNat : Int)) := by
  obtain ⟨C, hC, hs, hd⟩ := h.ex
  have hl := h.len
  refine ⟨by simp, by omega, fun hp => ⟨_, rfl, fun j p hj => ?_⟩⟩
  rw [List.getElem?_map] at hj
  obtain ⟨c, hc, rfl⟩ := Option.map_eq_some_iff.1 hj
  have hj2 : j < acc.length := (List.getElem?_eq_some_iff.1 hc).1
  refine ⟨[c8 c], rfl, rfl, fun i u hu => ?_⟩
  have hi : i < 1 := (List.getElem?_eq_some_iff.1 hu).1
  obtain rfl : i = 0 := by omega
  rw [Addr.add_lit, blk_cell hC]
  have e := congrArg (fun l => l[j]?) hd
  simp only [List.getElem?_drop, List.getElem?_map, hc, Option.map_some] at e
  rw [← Array.getElem?_toList, show 20 - acc.length + (j * (Kd.int IntKind.u8).sz + 0) = 20 - acc.length + j by rw [show (Kd.int IntKind.u8).sz = 1 from rfl]; omega, e]
  exact hu
theorem back8 : ∀ l : List UInt8, (l.map fun c => (c.toNat : Int)).map (fun n => UInt8.ofNat n.toNat) = l
  | [] => rfl
  | c :: l => by
    rw [List.map_cons, List.map_cons, back8 l]
    have e : UInt8.ofNat ((c.toNat : Int).toNat) = c := by
      rw [Int.toNat_natCast]
      exact UInt8.ofNat_toNat
    rw [e]
theorem strOfNums_bs (l : List UInt8) : strOfNums (l.map fun c => (c.toNat : Int)) = bs l := by
  unfold strOfNums
  rw [back8 l]
  rfl
theorem bs_size (l : List UInt8) : (bs l).size = l.length := by unfold bs; rfl
theorem bs_append (l m : List UInt8) : bs l ++ bs m = bs (l ++ m) := by
  apply ByteArray.ext
  simp [bs]
theorem elem54 : Tryd.prog.elem 83 = 5 := by kernel_rfl
set_option maxRecDepth 100000 in
theorem cut54 (q k : Nat) (hk : k ≤ 20) (W : World) : (Instr.sliceAt 83 (.pointer (some ⟨q, 0, none⟩)) (some (.int .i64 (k : Int))) none none).run Tryd.prog W = .ok (.slice (some (if 20 = k then ⟨q, 0, none⟩ else ⟨q, k, none⟩)) (20 - k) (20 - k)) W := by
  have hl : Tryd.prog.arrayLen 83 = 20 := by kernel_rfl
  rw [run_sliceAt_array_l W 83 ⟨q, 0, none⟩ (by kernel_rfl) .i64 (k : Int) (by omega) (by rw [hl]; omega), hl]
  have hs : (sizeOf (Tryd.prog.elem 83)).run Tryd.prog W = .ok 1 W := by rw [elem54]; go_simp
  rw [hs]
  simp only [Result.andThen, slicedAt, Int.toNat_natCast, Nat.mul_one]
  congr 2
  split
  · rfl
  · rw [Addr.add_lit, Nat.zero_add]
set_option maxRecDepth 100000 in
set_option maxHeartbeats 2000000 in
theorem num_pos (n : Int) (w : World) (h0 : 0 ≤ n) (h1 : n ≤ 9223372036854775807) : Calls Tryd.prog 22 #[.int .i64 n] w fun e w' => e = .returned (.string (bs (numL n))) ∧ Below w.heap.size w w' := by
  have b0 : decide (n < 0) = false := decide_eq_false (by omega)
  go_enter Tryd.func22, Tryd.ntmps22
  go_wp2
  go_loopg [3, 5] 20 (fun kq v3 v5 w' => ∃ (u a : Int) (acc : List UInt8), v3 = .int .u64 u ∧ v5 = .int .i64 a ∧ 0 ≤ u ∧ Aside0 (u ≤ 18446744073709551615) ∧ a ≤ 20 ∧ a = (kq : Int) ∧ kq + acc.length = 20 ∧ Aside0 (dgF (kq + 5) u.toNat ++ acc = dgs n.natAbs) ∧ Aside0 (Arr w' w.heap.size acc) ∧ Aside0 (Below w.heap.size w w'))
  case atStart => exact ⟨n, 20, [], rfl, rfl, h0, ⟨by omega⟩, by omega, rfl, rfl, ⟨by rw [List.append_nil, show n.toNat = n.natAbs by omega]; rfl⟩, ⟨⟨⟨_, blk_new w _, rfl, rfl⟩, by simp⟩⟩, ⟨ballo (Below.refl _ _) _⟩⟩
  case round =>
    obtain ⟨u, a, acc, rfl, rfl, hu0, HU, ha, hk, hacc, HD, HA, HB⟩ := hrel
    have HN := Aside0.mk (And.intro h0 h1)
    clear h0 h1
    cases gk with
    | zero =>
      exfalso
      have h2 := congrArg List.length HD.out
      rw [List.length_append] at h2
      have h3 : (dgs n.natAbs).length ≤ 19 := dgF_len 25 _ 19 (by have := HN.out; omega) (by omega)
      omega
    | succ k =>
      obtain ⟨c, hc, hf⟩ := HA.out.cell k (by omega)
      have ek : a.toNat = k + 1 := by omega
      have a1 : 1 ≤ a := by omega
      obtain ⟨v, hv⟩ : ∃ v, IntKind.u64.wrap (u.tdiv 10) = v := ⟨_, rfl⟩
      have hv2 : v = u / 10 := by have := HU.out; rw [← hv, Int.tdiv_eq_ediv_of_nonneg hu0]; exact IntWalk.u64_in _ ⟨by omega, by omega⟩
      have HV := Aside0.mk hv2
      have hu10 : 0 ≤ u % 10 ∧ u % 10 < 10 := by omega
      have ec : (Value.int .u8 (48 + u % 10)) = c8 (dig (u % 10).toNat) := by unfold c8; rw [dig_nat _ (by omega)]; congr 1; omega
      have HA2 := Aside0.mk (HA.out.put k (by omega) (dig (u % 10).toNat))
      rw [← ec] at HA2
      have HB2 : Aside0 (Below w.heap.size w (wr.setCell ⟨w.heap.size, k, none⟩ (.int .u8 (48 + u % 10)))) := ⟨HB.out.setCell (Nat.le_refl _) _⟩
      have HD2 := HD.out
      have HK := Aside0.mk (And.intro hacc hk)
      rw [show k + 1 + 5 = (k + 5) + 1 by omega] at HD2
      unfold dgF at HD2
      obtain ⟨W, hW⟩ : ∃ W, wr.setCell ⟨w.heap.size, k, none⟩ (.int .u8 (48 + u % 10)) = W := ⟨_, rfl⟩
      rw [hW] at HA2 HB2
      by_cases hz : u < 10
      · have hz0 : (v == 0) = true := by rw [hv2]; simp; omega
        rw [if_pos (by omega)] at HD2
        have HD3 := Aside0.mk (show dig (u % 10).toNat :: acc = dgs n.natAbs by rw [show (u % 10).toNat = u.toNat by omega]; exact HD2)
        have hcut := cut54 w.heap.size k (by omega)
        rw [if_neg (by omega)] at hcut
        have hcv : (convert 69 9 (.slice (some ⟨w.heap.size, k, none⟩) (20 - k) (20 - k))).run Tryd.prog W = .ok (.string (bs (dgs n.natAbs))) W := by
          have h2 := HA2.out.C
          rw [List.length_cons, show 20 - (acc.length + 1) = k by omega, show acc.length + 1 = 20 - k by omega] at h2
          have h3 := Kd.C_string (P := Tryd.prog) (src := 69) (dst := 9) (e := 5) (c := 20 - k) Tryd.underlying69 Tryd.underlying5 Tryd.underlying9 h2
          rw [strOfNums_bs, HD3.out] at h3
          exact h3
        clear hz hv2 HD2 HD hacc hu10 ec HA
        go_wp2_with fail
        go_ret
        exact ⟨by rw [show numL n = dgs n.natAbs from by unfold numL; rw [if_neg (by have := HN.out; omega)]]; rfl, HB2.out⟩
      · have hz0 : (v == 0) = false := by rw [hv2]; simp; omega
        rw [if_neg (by omega)] at HD2
        have HD3 := Aside0.mk (show dgF (k + 5) (u.toNat / 10) ++ (dig (u % 10).toNat :: acc) = dgs n.natAbs by rw [show (u % 10).toNat = u.toNat % 10 by omega]; rw [List.append_assoc] at HD2; exact HD2)
        have HU2 := HU.out
        have HZ := Aside0.mk hu0
        clear hz hv2 HD2 HD hacc hu10 ec HA HU2
        go_wp2_with fail
        go_roundg k
        case measure => omega
        case rel =>
          have h1 := HV.out
          have h2 := HK.out
          have h3 := HZ.out
          refine ⟨v, (k : Int), dig (u % 10).toNat :: acc, rfl, rfl, by omega, ⟨by have := HU.out; omega⟩, by omega, rfl, by rw [List.length_cons]; omega, ⟨?_⟩, HA2, HB2⟩
          rw [show v.toNat = u.toNat / 10 by omega]
          exact HD3.out
set_option maxRecDepth 100000 in
set_option maxHeartbeats 2000000 in
theorem num_neg (n : Int) (w : World) (h0 : n < 0) (h1 : -9223372036854775808 ≤ n) : Calls Tryd.prog 22 #[.int .i64 n] w fun e w' => e = .returned (.string (bs (numL n))) ∧ Below w.heap.size w w' := by
  have b0 : decide (n < 0) = true := decide_eq_true h0
  have hneg : IntKind.u64.wrap (-(IntKind.u64.wrap n)) = -n := by simp [IntKind.wrap, IntKind.bits, IntKind.signed]; omega
  go_enter Tryd.func22, Tryd.ntmps22
  go_wp2
  go_loopg [3, 5] 20 (fun kq v3 v5 w' => ∃ (u a : Int) (acc : List UInt8), v3 = .int .u64 u ∧ v5 = .int .i64 a ∧ 0 ≤ u ∧ Aside0 (u ≤ 18446744073709551615) ∧ a ≤ 20 ∧ a = (kq : Int) ∧ kq + acc.length = 20 ∧ Aside0 (dgF (kq + 5) u.toNat ++ acc = dgs n.natAbs) ∧ Aside0 (Arr w' w.heap.size acc) ∧ Aside0 (Below w.heap.size w w'))
  case atStart => exact ⟨-n, 20, [], rfl, rfl, by omega, ⟨by omega⟩, by omega, rfl, rfl, ⟨by rw [List.append_nil, show (-n).toNat = n.natAbs by omega]; rfl⟩, ⟨⟨⟨_, blk_new w _, rfl, rfl⟩, by simp⟩⟩, ⟨ballo (Below.refl _ _) _⟩⟩
  case round =>
    obtain ⟨u, a, acc, rfl, rfl, hu0, HU, ha, hk, hacc, HD, HA, HB⟩ := hrel
    have HN := Aside0.mk (And.intro h0 h1)
    clear h0 h1
    cases gk with
    | zero =>
      exfalso
      have h2 := congrArg List.length HD.out
      rw [List.length_append] at h2
      have h3 : (dgs n.natAbs).length ≤ 19 := dgF_len 25 _ 19 (by have := HN.out; omega) (by omega)
      omega
    | succ k =>
      obtain ⟨c, hc, hf⟩ := HA.out.cell k (by omega)
      have ek : a.toNat = k + 1 := by omega
      have a1 : 1 ≤ a := by omega
      obtain ⟨v, hv⟩ : ∃ v, IntKind.u64.wrap (u.tdiv 10) = v := ⟨_, rfl⟩
      have hv2 : v = u / 10 := by have := HU.out; rw [← hv, Int.tdiv_eq_ediv_of_nonneg hu0]; exact IntWalk.u64_in _ ⟨by omega, by omega⟩
      have HV := Aside0.mk hv2
      have hu10 : 0 ≤ u % 10 ∧ u % 10 < 10 := by omega
      have ec : (Value.int .u8 (48 + u % 10)) = c8 (dig (u % 10).toNat) := by unfold c8; rw [dig_nat _ (by omega)]; congr 1; omega
      have HA2 := Aside0.mk (HA.out.put k (by omega) (dig (u % 10).toNat))
      rw [← ec] at HA2
      have HB2 : Aside0 (Below w.heap.size w (wr.setCell ⟨w.heap.size, k, none⟩ (.int .u8 (48 + u % 10)))) := ⟨HB.out.setCell (Nat.le_refl _) _⟩
      have HD2 := HD.out
      have HK := Aside0.mk (And.intro hacc hk)
      rw [show k + 1 + 5 = (k + 5) + 1 by omega] at HD2
      unfold dgF at HD2
      obtain ⟨W, hW⟩ : ∃ W, wr.setCell ⟨w.heap.size, k, none⟩ (.int .u8 (48 + u % 10)) = W := ⟨_, rfl⟩
      rw [hW] at HA2 HB2
      by_cases hz : u < 10
      · have hz0 : (v == 0) = true := by rw [hv2]; simp; omega
        rw [if_pos (by omega)] at HD2
        have HD3 := Aside0.mk (show dig (u % 10).toNat :: acc = dgs n.natAbs by rw [show (u % 10).toNat = u.toNat by omega]; exact HD2)
        have hcut := cut54 w.heap.size k (by omega)
        rw [if_neg (by omega)] at hcut
        have hcv : (convert 69 9 (.slice (some ⟨w.heap.size, k, none⟩) (20 - k) (20 - k))).run Tryd.prog W = .ok (.string (bs (dgs n.natAbs))) W := by
          have h2 := HA2.out.C
          rw [List.length_cons, show 20 - (acc.length + 1) = k by omega, show acc.length + 1 = 20 - k by omega] at h2
          have h3 := Kd.C_string (P := Tryd.prog) (src := 69) (dst := 9) (e := 5) (c := 20 - k) Tryd.underlying69 Tryd.underlying5 Tryd.underlying9 h2
          rw [strOfNums_bs, HD3.out] at h3
          exact h3
        have hsz : ¬ (9223372036854775807 < 1 + (bs (dgs n.natAbs)).size) := by
          have := dgF_len 25 n.natAbs 19 (by have := HN.out; omega) (by omega)
          rw [bs_size, show (dgs n.natAbs).length = (dgF 25 n.natAbs).length from rfl]; omega
        clear hz hv2 HD2 HD hacc hu10 ec HA
        go_wp2_with fail
        go_ret
        exact ⟨by rw [show numL n = 45 :: dgs n.natAbs from by unfold numL; rw [if_pos HN.out.1]]; exact congrArg (fun x => Ending.returned (.string x)) (bs_append [45] (dgs n.natAbs)), HB2.out⟩
      · have hz0 : (v == 0) = false := by rw [hv2]; simp; omega
        rw [if_neg (by omega)] at HD2
        have HD3 := Aside0.mk (show dgF (k + 5) (u.toNat / 10) ++ (dig (u % 10).toNat :: acc) = dgs n.natAbs by rw [show (u % 10).toNat = u.toNat % 10 by omega]; rw [List.append_assoc] at HD2; exact HD2)
        have HU2 := HU.out
        have HZ := Aside0.mk hu0
        clear hz hv2 HD2 HD hacc hu10 ec HA HU2
        go_wp2_with fail
        go_roundg k
        case measure => omega
        case rel =>
          have h1 := HV.out
          have h2 := HK.out
          have h3 := HZ.out
          refine ⟨v, (k : Int), dig (u % 10).toNat :: acc, rfl, rfl, by omega, ⟨by have := HU.out; omega⟩, by omega, rfl, by rw [List.length_cons]; omega, ⟨?_⟩, HA2, HB2⟩
          rw [show v.toNat = u.toNat / 10 by omega]
          exact HD3.out
end Go.Proofs.YtdaagoagfenadaaDoor.X
namespace Go.Proofs.YtdaagoagfenadaaDoor.X
open Go.RowKit Go.Proofs.YtdaagoagfenadaaDoor.YAll Go.Proofs.YtdaagoagfenadaaDoorW.PrintWords Go.Proofs.YtdaagoagfenadaaDoorW.PrintLast Go.Proofs.YtdaagoagfenadaaDoorW.PrintMore
set_option linter.unusedVariables false
set_option linter.unusedSimpArgs false

theorem num_calls (n : Int) (w : World) (h : In64 n) : Calls Tryd.prog 22 #[.int .i64 n] w fun e w' => e = .returned (.string (bs (numL n))) ∧ Below w.heap.size w w' := by
  by_cases c : n < 0
  · exact num_neg n w c h.1
  · exact num_pos n w (by omega) h.2
theorem w64 {a : Int} (h0 : -9223372036854775808 ≤ a) (h1 : a ≤ 9223372036854775807) : wrap64 a = a := by unfold wrap64; omega
theorem bs_list (l : List UInt8) : (bs l).toList = l := by
  rw [ByteArray.toList_eq]
  rfl
theorem one_digit (u : Nat) (h : u ≤ 18446744073709551615) : strOfNums [(IntKind.u64.wrap (48 + (Int.tmod (u : Int) 10))) % 256] = bs [dig (u % 10)] := by
  have e : (IntKind.u64.wrap (48 + (Int.tmod (u : Int) 10))) % 256 = ((dig (u % 10)).toNat : Int) := by
    rw [dig_nat _ (Nat.mod_lt _ (by omega)), Int.tmod_eq_emod_of_nonneg (by omega), IntWalk.u64_in _ ⟨by omega, by omega⟩]
    omega
  rw [e]
  exact strOfNums_bs [dig (u % 10)]
def finN (n : Int) (l : List UInt8) : ByteArray := if n < 0 then bs (45 :: l) else bs l
theorem refnum_end (n : Int) (l : List UInt8) (k : Nat) (hl : l ≠ []) (hs : l.length ≤ 100) : assartref30_Num.l0 (k + 1) n 0 (bs l) = some (finN n l) := by
  simp only [assartref30_Num.l0]
  rw [if_neg (by omega), bs_list, if_neg hl]
  unfold finN
  by_cases c : n < 0
  · rw [if_pos c, if_pos c, if_pos (by rw [bs_size]; omega)]
    exact congrArg some (bs_append [45] l)
  · rw [if_neg c, if_neg c]
theorem refnum_l (n : Int) : ∀ (f u : Nat) (acc : List UInt8) (k : Nat), u < 10 ^ (f + 1) → u ≤ 18446744073709551615 → (0 < u ∨ acc = []) → acc.length + f ≤ 50 → f + 2 ≤ k → assartref30_Num.l0 k n (u : Int) (bs acc) = some (finN n (dgF (f + 1) u ++ acc)) := by
  intro f
  induction f with
  | zero =>
    intro u acc k hu hb hc hl hk
    obtain ⟨k, rfl⟩ : ∃ m, k = m + 1 + 1 := ⟨k - 2, by omega⟩
    have e : dgF (0 + 1) u ++ acc = dig (u % 10) :: acc := by unfold dgF; rw [if_pos (by simpa using hu), Nat.mod_eq_of_lt (by simpa using hu)]; rfl
    have step : assartref30_Num.l0 (k + 1) n (IntKind.u64.wrap (Int.tdiv (u : Int) 10)) (strOfNums [(IntKind.u64.wrap (48 + (Int.tmod (u : Int) 10))) % 256] ++ bs acc) = some (finN n (dig (u % 10) :: acc)) := by
      rw [one_digit u hb, bs_append, Int.tdiv_eq_ediv_of_nonneg (by omega), IntWalk.u64_in _ ⟨by omega, by omega⟩, show (u : Int) / 10 = 0 by simp at hu; omega]
      exact refnum_end n _ k (by simp) (by simp; omega)
    have sz : (strOfNums [(IntKind.u64.wrap (48 + (Int.tmod (u : Int) 10))) % 256]).size + (bs acc).size ≤ 9223372036854775807 := by rw [one_digit u hb, bs_size, bs_size]; simp; omega
    rw [e, assartref30_Num.l0]
    simp only [Option.bind_some]
    by_cases c : (u : Int) > 0
    · rw [if_pos c, if_pos sz, step]
    · rw [if_neg c, if_pos (by rw [bs_list]; exact hc.resolve_left (by omega)), if_pos sz, step]
  | succ f ih =>
    intro u acc k hu hb hc hl hk
    obtain ⟨k, rfl⟩ : ∃ m, k = m + 1 := ⟨k - 1, by omega⟩
    have step : assartref30_Num.l0 k n (IntKind.u64.wrap (Int.tdiv (u : Int) 10)) (strOfNums [(IntKind.u64.wrap (48 + (Int.tmod (u : Int) 10))) % 256] ++ bs acc) = some (finN n (dgF (f + 1 + 1) u ++ acc)) := by
      rw [one_digit u hb, bs_append, Int.tdiv_eq_ediv_of_nonneg (by omega), IntWalk.u64_in _ ⟨by omega, by omega⟩, show (u : Int) / 10 = ((u / 10 : Nat) : Int) by omega]
      by_cases c : u < 10
      · rw [show u / 10 = 0 by omega]
        have e : dgF (f + 1 + 1) u ++ acc = dig (u % 10) :: acc := by unfold dgF; rw [if_pos c, Nat.mod_eq_of_lt c]; rfl
        rw [e]
        obtain ⟨k, rfl⟩ : ∃ m, k = m + 1 := ⟨k - 1, by omega⟩
        exact refnum_end n _ k (by simp) (by simp; omega)
      · have e : dgF (f + 1 + 1) u ++ acc = dgF (f + 1) (u / 10) ++ (dig (u % 10) :: acc) := by
          show (if u < 10 then [dig u] else dgF (f + 1) (u / 10) ++ [dig (u % 10)]) ++ acc = _
          rw [if_neg c, List.append_assoc]; rfl
        rw [e]
        exact ih (u / 10) (dig (u % 10) :: acc) k (by rw [Nat.pow_succ] at hu; omega) (by omega) (.inl (by omega)) (by rw [List.length_cons]; omega) (by omega)
    have sz : (strOfNums [(IntKind.u64.wrap (48 + (Int.tmod (u : Int) 10))) % 256]).size + (bs acc).size ≤ 9223372036854775807 := by rw [one_digit u hb, bs_size, bs_size]; simp; omega
    rw [assartref30_Num.l0]
    simp only [Option.bind_some]
    by_cases c : (u : Int) > 0
    · rw [if_pos c, if_pos sz, step]
    · rw [if_neg c, if_pos (by rw [bs_list]; exact hc.resolve_left (by omega)), if_pos sz, step]
theorem refnum_f (n : Int) (h : In64 n) (k : Nat) : assartref30_Num.f (k + 40) n = some (bs (numL n)) := by
  have key := refnum_l n 24 n.natAbs [] (k + 39) (by have := h.1; have := h.2; omega) (by have := h.1; have := h.2; omega) (.inr rfl) (by simp) (by omega)
  rw [List.append_nil] at key
  have e : (bs [] : ByteArray) = ⟨#[]⟩ := rfl
  rw [e] at key
  unfold assartref30_Num.f
  by_cases c : n < 0
  · rw [if_pos c, show IntKind.u64.wrap (-(IntKind.u64.wrap n)) = (n.natAbs : Int) by have := h.1; simp [IntKind.wrap, IntKind.bits, IntKind.signed]; omega]
    simp only [assartref30_Num.j0]
    rw [key]
    unfold finN numL
    rw [if_pos c, if_pos c]
    rfl
  · rw [if_neg c, show IntKind.u64.wrap n = (n.natAbs : Int) by have := h.2; rw [IntWalk.u64_in _ ⟨by omega, by omega⟩]; omega]
    simp only [assartref30_Num.j0]
    rw [key]
    unfold finN numL
    rw [if_neg c, if_neg c]
    rfl

/-! ### Read -/
def rdV (l : List UInt8) : Int × Bool := match rdL l with
  | some n => (n, true)
  | none => (0, false)
theorem bt_bs (l : List UInt8) (i : Nat) (h : i < l.length) : bt (bs l) (i : Int) = ((l[i]).toNat : Int) := by
  unfold bt
  rw [dif_pos (by rw [bs_size]; simpa using h)]
  rfl
/-- A whole number of 64 bits, unsigned. -/
def md (x : Nat) : Nat := x % 18446744073709551616
theorem md_of {x : Nat} (h : x < 18446744073709551616) : md x = x := Nat.mod_eq_of_lt h
theorem md_0 : md 0 = 0 := md_of (by decide)
theorem md_step (x d : Nat) (h0 : 48 ≤ d) (h1 : d ≤ 57) : IntKind.u64.wrap ((IntKind.u64.wrap (10 * (md x : Int))) + (((d : Int) - 48) % 256)) = (md (10 * x + (d - 48)) : Int) := by
  unfold md
  rw [IntKind.wrap_u64, IntKind.wrap_u64]
  omega
theorem neg_wrap (v : Nat) (h1 : 1 ≤ v) (h2 : v ≤ 9223372036854775808) : wrap64 (IntKind.u64.wrap (-(v : Int))) = -(v : Int) := by
  rw [IntKind.wrap_u64]
  unfold wrap64
  omega
theorem in_wrap (a : Int) : In64 (wrap64 a) := by unfold In64 wrap64; omega
/-- The number that is told. -/
def nOf : Bool → Int → Int
  | true, U => wrap64 (IntKind.u64.wrap (-U))
  | false, U => wrap64 U
theorem nOf_true (U : Int) : nOf true U = wrap64 (IntKind.u64.wrap (-U)) := by rw [nOf]
theorem nOf_false (U : Int) : nOf false U = wrap64 U := by rw [nOf]
theorem in_nOf (neg : Bool) (U : Int) : In64 (nOf neg U) := by
  cases neg with
  | true => rw [nOf_true]; exact in_wrap _
  | false => rw [nOf_false]; exact in_wrap _
def endR (l : List UInt8) (neg : Bool) (U : Int) : Option (Int × Bool) := if numL (nOf neg U) = l then some (nOf neg U, true) else some (0, false)
theorem refread_l (l : List UInt8) (neg : Bool) (hl : l.length ≤ 1000) (m : Nat) : ∀ (d i : Nat) (x : Nat), i + d = l.length → assartref30_Read.l0 (d + (m + 41)) (bs l) (if neg then 1 else 0) (md x : Int) (i : Int) = if (l.drop i).all isD = true then endR l neg (md ((l.drop i).foldl (fun a c => 10 * a + (c.toNat - 48)) x) : Int) else some (0, false) := by
  intro d
  induction d with
  | zero =>
    intro i x hi
    rw [show 0 + (m + 41) = (m + 40) + 1 by omega, assartref30_Read.l0]
    rw [if_neg (by rw [bs_size]; omega), List.drop_eq_nil_of_le (by omega)]
    simp only [List.all_nil, if_true, List.foldl_nil]
    unfold endR
    cases neg with
    | true =>
      rw [if_pos (by rfl), refnum_f _ (in_wrap _) m, Option.bind_some, bs_list, bs_list, nOf_true]
    | false =>
      rw [if_neg (by decide), refnum_f _ (in_wrap _) m, Option.bind_some, bs_list, bs_list, nOf_false]
  | succ d ih =>
    intro i x hi
    have hlt : i < l.length := by omega
    rw [show d + 1 + (m + 41) = (d + (m + 41)) + 1 by omega, assartref30_Read.l0]
    rw [if_pos (by rw [bs_size]; omega), if_pos (by omega), bt_bs l i hlt, List.drop_eq_getElem_cons hlt, List.all_cons]
    by_cases c1 : ((l[i]).toNat : Int) < 48
    · rw [if_pos c1, if_neg (by unfold isD; simp; omega)]
    · by_cases c2 : ((l[i]).toNat : Int) > 57
      · rw [if_neg c1, if_pos c2, if_neg (by unfold isD; simp; omega)]
      · rw [if_neg c1, if_neg c2]
        have hd : isD l[i] = true := by unfold isD; simp; omega
        have hx := md_step x (l[i]).toNat (by omega) (by omega)
        rw [hx, w64 (a := (i : Int) + 1) (by omega) (by omega), show (i : Int) + 1 = ((i + 1 : Nat) : Int) by omega, ih (i + 1) _ (by omega), hd, Bool.true_and]
        simp only [List.foldl_cons]
theorem refread_end (l r : List UInt8) (neg : Bool) (hr : l = (if neg then 45 :: r else r)) (h45 : neg = false → ∀ t, l ≠ 45 :: t) (hd : r.all isD = true) (hlen : r.length ≤ 1000) : endR l neg (md (val r) : Int) = some (rdV l) := by
  unfold endR
  obtain ⟨n, hn⟩ : ∃ n, nOf neg (md (val r) : Int) = n := ⟨_, rfl⟩
  have hin : In64 n := by rw [← hn]; exact in_nOf _ _
  rw [hn]
  unfold rdV
  by_cases c : numL n = l
  · rw [if_pos c, ← c, rdL_num n hin]
  · rw [if_neg c]
    cases e : rdL l with
    | none => rfl
    | some m =>
      exfalso
      apply c
      have h1 := num_rdL l m e
      have : m = n := by
        cases neg with
        | true =>
          have hr2 : l = 45 :: r := hr
          subst hr2
          clear hr
          have e2 : (if tidy r = true ∧ r.length ≤ 19 ∧ 1 ≤ val r ∧ val r ≤ 9223372036854775808 then some (-(val r : Int)) else none) = some m := e
          clear e
          have e := e2
          split at e
          · rename_i hc
            obtain rfl := Option.some.inj e
            rw [← hn, nOf_true, md_of (by omega), neg_wrap _ hc.2.2.1 hc.2.2.2]
          · cases e
        | false =>
          have hr2 : l = r := hr
          subst hr2
          clear hr
          unfold rdL at e
          split at e
          · rename_i t; exact absurd rfl (h45 rfl t)
          · split at e
            · rename_i hc
              obtain rfl := Option.some.inj e
              rw [← hn, nOf_false, md_of (by omega), w64 (by omega) (by omega)]
            · cases e
      rw [← this]
      exact h1.1
theorem rdV_none {l : List UInt8} (h : rdL l = none) : rdV l = (0, false) := by unfold rdV; rw [h]
theorem rdL_some {l : List UInt8} {n : Int} (h : rdL l = some n) : l ≠ [] ∧ l.length ≤ 20 ∧ (if l.head? = some 45 then l.tail else l).all isD = true := by
  unfold rdL at h
  split at h
  · rename_i r
    split at h
    · rename_i c
      exact ⟨by simp, by simp; omega, by simpa using (tidy_all c.1).1⟩
    · cases h
  · rename_i hx
    split at h
    · rename_i c
      refine ⟨(tidy_all c.1).2, by omega, ?_⟩
      rw [if_neg (by intro e; cases l with | nil => cases e | cons a t => simp at e; subst e; exact hx t rfl)]
      exact (tidy_all c.1).1
    · cases h
theorem refread_f (l : List UInt8) : assartref30_Read.f 100 (bs l) = some (rdV l) := by
  unfold assartref30_Read.f
  rw [bs_size]
  by_cases c0 : (l.length : Int) < 1
  · rw [if_pos c0]
    simp only [assartref30_Read.j0]
    rw [if_pos trivial]
    have : l = [] := List.eq_nil_of_length_eq_zero (by omega)
    subst this
    rfl
  rw [if_neg c0]
  simp only [assartref30_Read.j0]
  by_cases c1 : (l.length : Int) > 20
  · rw [if_pos (by simp; omega)]
    congr 1
    cases e : rdL l with
    | none => exact (rdV_none e).symm
    | some m => have := (rdL_some e).2.1; omega
  rw [if_neg (by simp; omega), if_pos (by rw [bs_size]; omega)]
  have hb := bt_bs l 0 (by omega)
  rw [Int.natCast_zero] at hb
  rw [hb]
  obtain ⟨a, t, rfl⟩ : ∃ a t, l = a :: t := by cases l with
    | nil => simp at c0
    | cons a t => exact ⟨a, t, rfl⟩
  simp only [List.getElem_cons_zero]
  rw [List.length_cons] at c0 c1
  by_cases c2 : (a.toNat : Int) = 45
  · have ha : a = 45 := by
      have := UInt8.ofNat_toNat (x := a)
      rw [show a.toNat = 45 by omega] at this
      exact this.symm
    subst ha
    rw [if_pos c2]
    simp only [assartref30_Read.j1]
    have key := refread_l (45 :: t) true (by simp; omega) (57 - t.length) t.length 1 0 (by simp; omega)
    rw [show t.length + (57 - t.length + 41) = 98 by omega] at key
    simp only [if_true] at key
    rw [md_0, Int.natCast_zero, show ((1 : Nat) : Int) = 1 from rfl] at key
    rw [key]
    have ed : List.drop 1 (45 :: t) = t := rfl
    rw [ed]
    by_cases hd : t.all isD = true
    · rw [if_pos hd]
      exact refread_end (45 :: t) t true rfl (fun h => by cases h) hd (by omega)
    · rw [if_neg hd]
      congr 1
      cases e : rdL (45 :: t) with
      | none => exact (rdV_none e).symm
      | some m => have := (rdL_some e).2.2; simp at this; simp at hd; obtain ⟨x, hx, hx2⟩ := hd; rw [this x hx] at hx2; cases hx2
  · rw [if_neg c2]
    simp only [assartref30_Read.j1]
    have ha : a ≠ 45 := fun e => c2 (by rw [e]; rfl)
    have key := refread_l (a :: t) false (by simp; omega) (56 - t.length) (t.length + 1) 0 0 (by simp)
    rw [show t.length + 1 + (56 - t.length + 41) = 98 by omega] at key
    simp only [Bool.false_eq_true, if_false] at key
    rw [md_0, Int.natCast_zero] at key
    rw [key]
    rw [List.drop_zero]
    by_cases hd : (a :: t).all isD = true
    · rw [if_pos hd]
      exact refread_end (a :: t) (a :: t) false rfl (fun _ t' e => ha (by injection e)) hd (by simp; omega)
    · rw [if_neg hd]
      congr 1
      cases e : rdL (a :: t) with
      | none => exact (rdV_none e).symm
      | some m =>
        have h3 := (rdL_some e).2.2
        rw [if_neg (by simpa using ha)] at h3
        exact absurd h3 hd
end Go.Proofs.YtdaagoagfenadaaDoor.X
namespace Go.Proofs.YtdaagoagfenadaaDoor.X
open Go.RowKit Go.Proofs.YtdaagoagfenadaaDoor.YAll Go.Proofs.YtdaagoagfenadaaDoorW.PrintWords Go.Proofs.YtdaagoagfenadaaDoorW.PrintLast Go.Proofs.YtdaagoagfenadaaDoorW.PrintMore
set_option linter.unusedVariables false
set_option linter.unusedSimpArgs false

def mag (l : List UInt8) : Nat × Bool := if tidy l = true ∧ l.length ≤ 19 then (val l, true) else (0, false)
def MagPost (w : World) (r : Nat × Bool) (e : Ending) (w' : World) : Prop := e = .returned (.tuple #[.int .u64 (r.1 : Int), .bool r.2]) ∧ Below w.heap.size w w'
theorem mag_none (l : List UInt8) (h : tidy l = false ∨ 19 < l.length) : mag l = (0, false) := by
  unfold mag
  rw [if_neg]
  rintro ⟨h1, h2⟩
  rcases h with h | h
  · rw [h] at h1; cases h1
  · omega
theorem mag_empty (w : World) : Calls Tryd.prog 46 #[.string (bs [])] w (MagPost w (mag [])) := by
  rw [mag_none [] (.inl rfl)]
  obtain ⟨s, hs⟩ : ∃ s, bs [] = s := ⟨_, rfl⟩
  rw [hs]
  have e0 : (s.toList = []) = True := eq_true (by rw [← hs, bs_list])
  have e1 : s.toList.isEmpty = true := by rw [← hs, bs_list]; rfl
  clear hs
  go_enter Tryd.func46, Tryd.ntmps46
  go_wp2
  go_ret2
  exact ⟨rfl, Below.refl _ _⟩
theorem mag_long (l : List UInt8) (w : World) (h : 19 < l.length) : Calls Tryd.prog 46 #[.string (bs l)] w (MagPost w (mag l)) := by
  rw [mag_none l (.inr h)]
  obtain ⟨s, hs⟩ : ∃ s, bs l = s := ⟨_, rfl⟩
  have hz : s.size = l.length := by rw [← hs]; exact bs_size l
  rw [hs]
  have e0 : (s.toList = []) = False := eq_false (by rw [← hs, bs_list]; intro e; rw [e] at h; simp at h)
  have e1 : (!s.toList.isEmpty) = true := by rw [← hs, bs_list]; cases l with | nil => simp at h | cons a r => rfl
  have e2 : decide ((s.size : Int) > 19) = true := decide_eq_true (by omega)
  have e3 : decide ((19 : Int) < (s.size : Int)) = true := decide_eq_true (by omega)
  have e4 : decide (19 < s.size) = true := decide_eq_true (by omega)
  clear h hs hz
  go_enter Tryd.func46, Tryd.ntmps46
  go_wp2
  go_ret2
  exact ⟨rfl, Below.refl _ _⟩

theorem mag_zero (a b : UInt8) (r : List UInt8) (w : World) (h : (a :: b :: r).length ≤ 19) (ha : a = 48) : Calls Tryd.prog 46 #[.string (bs (a :: b :: r))] w (MagPost w (mag (a :: b :: r))) := by
  rw [mag_none (a :: b :: r) (.inl (by subst ha; simp [tidy]))]
  have hb := bt_bs (a :: b :: r) 0 (by simp)
  obtain ⟨s, hs⟩ : ∃ s, bs (a :: b :: r) = s := ⟨_, rfl⟩
  have hz : s.size = r.length + 2 := by rw [← hs, bs_size]; rfl
  rw [hs] at hb ⊢
  have e0 : (s.toList = []) = False := eq_false (by rw [← hs, bs_list]; simp)
  have e1 : s.toList.isEmpty = false := by rw [← hs, bs_list]; rfl
  have e7 : ∀ h : 0 < s.size, ((s[0]'h).toNat : Int) = 48 := fun h => by
    have h2 := bt_at s 0 h
    rw [show ((0 : Nat) : Int) = 0 from rfl] at hb
    exact h2.trans (hb.trans (by subst ha; rfl))
  rw [List.length_cons, List.length_cons] at h
  have e3 : decide ((19 : Int) < (s.size : Int)) = false := decide_eq_false (by omega)
  have e5 : decide ((1 : Int) < (s.size : Int)) = true := decide_eq_true (by omega)
  have e6 : 0 < s.size := by omega
  clear h hs hz hb ha
  go_enter Tryd.func46, Tryd.ntmps46
  go_wp2
  go_ret2
  exact ⟨rfl, Below.refl _ _⟩
/-- What the rest of a text lets the number be: the loop's answer. -/
def magF : List UInt8 → Nat → Nat × Bool
  | [], u => (u, true)
  | c :: r, u => if isD c = true then magF r (10 * u + (c.toNat - 48)) else (0, false)
theorem magF_eq : ∀ (r : List UInt8) (u : Nat), magF r u = if r.all isD = true then (r.foldl (fun a c => 10 * a + (c.toNat - 48)) u, true) else (0, false)
  | [], u => rfl
  | c :: r, u => by
    unfold magF
    rw [magF_eq r, List.all_cons]
    by_cases h : isD c = true
    · rw [if_pos h, h, Bool.true_and]; rfl
    · rw [if_neg h, Bool.eq_false_iff.2 h, Bool.false_and]; rfl
theorem iter_below (w : World) (s : ByteArray) : Below w.heap.size w (w.iter s 0) := ballo (Below.refl _ _) _
theorem mag_main (l : List UInt8) (w : World) (h0 : l ≠ []) (h : l.length ≤ 19) (h1 : l.head? = some 48 → l.length = 1) : Calls Tryd.prog 46 #[.string (bs l)] w (MagPost w (magF l 0)) := by
  obtain ⟨R, hR⟩ : ∃ R, magF l 0 = R := ⟨_, rfl⟩
  rw [hR]
  obtain ⟨s, hs⟩ : ∃ s, bs l = s := ⟨_, rfl⟩
  have hz : s.size = l.length := by rw [← hs, bs_size]
  have hpos : 0 < l.length := by cases l with | nil => exact absurd rfl h0 | cons a r => simp
  have hb : ∀ i (hi : i < l.length) (h : i < s.size), ((s[i]'h).toNat : Int) = ((l[i]).toNat : Int) := by
    intro i hi h
    have h2 := bt_bs l i hi
    rw [hs] at h2
    have h3 := bt_at s (i : Int) (by simpa using h)
    simp only [Int.toNat_natCast] at h3
    exact h3.trans h2
  have hg : (∀ h : 0 < s.size, (((s[0]'h).toNat : Int) == 48) = false) ∨ ((∀ h : 0 < s.size, (((s[0]'h).toNat : Int) == 48) = true) ∧ decide ((1 : Int) < (s.size : Int)) = false) := by
    by_cases c : l.length = 1
    · cases e : ((((l[0]'hpos).toNat : Int)) == 48) with
      | true => exact .inr ⟨fun h => by rw [hb 0 hpos h]; exact e, decide_eq_false (by omega)⟩
      | false => exact .inl (fun h => by rw [hb 0 hpos h]; exact e)
    · left
      intro h
      rw [hb 0 hpos h]
      rw [beq_eq_false_iff_ne]
      intro e
      apply c
      apply h1
      have e2 : (l[0]) = 48 := by
        have := UInt8.ofNat_toNat (x := l[0])
        rw [show (l[0]).toNat = 48 by omega] at this
        exact this.symm
      rw [List.head?_eq_getElem?, List.getElem?_eq_getElem hpos, e2]
  rw [hs]
  have e0 : (s.toList = []) = False := eq_false (by rw [← hs, bs_list]; exact h0)
  have e1 : s.toList.isEmpty = false := by rw [← hs, bs_list]; cases l with | nil => exact absurd rfl h0 | cons a r => rfl
  have e3 : decide ((19 : Int) < (s.size : Int)) = false := decide_eq_false (by omega)
  have e6 : 0 < s.size := by omega
  have HB := Aside0.mk hb
  have HZ := Aside0.mk (And.intro hz h)
  have HR := Aside0.mk hR
  clear h0 h h1 hs hz hpos hb hR
  rcases hg with g | ⟨g, g2⟩
  · go_enter Tryd.func46, Tryd.ntmps46
    go_wp2_with fail
    go_loopg [4] l.length (fun kq v4 w' => ∃ (u i : Nat), v4 = .int .u64 (u : Int) ∧ Aside0 (i + kq = l.length) ∧ Aside0 (magF (l.drop i) u = R) ∧ Aside0 (u < 10 ^ i) ∧ Aside0 (w'.heap[w.heap.size]? = some (.stringIter s i)) ∧ Aside0 (Below w.heap.size w w'))
    case atStart => exact ⟨0, 0, rfl, ⟨by omega⟩, ⟨by rw [List.drop_zero]; exact HR.out⟩, ⟨by decide⟩, ⟨World.iter_heap w s 0⟩, ⟨iter_below w s⟩⟩
    case round =>
      obtain ⟨u, i, rfl, HI, HM, HU, HT, HX⟩ := hrel
      by_cases hp : i < s.size
      · have hl : i < l.length := by have := HZ.out; omega
        obtain ⟨k, rfl⟩ : ∃ k, gk = k + 1 := ⟨gk - 1, by have := HI.out; omega⟩
        have hM := HM.out
        rw [List.drop_eq_getElem_cons hl, magF] at hM
        obtain ⟨rn, hrn⟩ : ∃ rn : Int, ((Utf8.decode s i).1 : Int) = rn := ⟨_, rfl⟩
        have hby := HB.out i hl hp
        have hnx : ∀ ty, (Instr.next (.pointer (some ⟨w.heap.size, 0, none⟩)) true ty).run Tryd.prog wr = _ := fun ty => Lib.run_next_any_at wr w.heap.size s i ty HT.out hp
        rw [hrn] at hnx
        by_cases hd : isD l[i] = true
        · rw [if_pos hd] at hM
          have hd2 := hd
          unfold isD at hd2
          simp only [Bool.and_eq_true, decide_eq_true_eq] at hd2
          have ha : (s[i]'hp).toNat < 128 := by omega
          have hdec := decode_ascii s i hp ha
          have hrn2 : rn = ((l[i]).toNat : Int) := by rw [← hrn, hdec]; exact hby
          rw [hdec] at hnx
          have c1 : decide (rn < 48) = false := decide_eq_false (by omega)
          have c2 : decide ((57 : Int) < rn) = false := decide_eq_false (by omega)
          have hu : (u : Int) < 10 ^ 18 := by
            have h1 := HU.out
            have h2 := HZ.out
            have : u < 10 ^ 18 := Nat.lt_of_lt_of_le h1 (Nat.pow_le_pow_right (by omega) (by omega))
            exact_mod_cast this
          have w1 : IntKind.u64.wrap (10 * (u : Int)) = 10 * (u : Int) := IntWalk.u64_in _ ⟨by omega, by omega⟩
          have w2 : IntKind.u64.wrap (rn - 48) = rn - 48 := IntWalk.u64_in _ ⟨by omega, by omega⟩
          have w3 : IntKind.u64.wrap (10 * (u : Int) + (rn - 48)) = ((10 * u + ((l[i]).toNat - 48) : Nat) : Int) := by rw [IntWalk.u64_in _ ⟨by omega, by omega⟩]; omega
          have r0 : (48 : Int) ≤ rn := by omega
          have r1 : rn ≤ 57 := by omega
          have HM2 := Aside0.mk hM
          have HU2 : Aside0 (10 * u + ((l[i]).toNat - 48) < 10 ^ (i + 1)) := ⟨by have := HU.out; rw [Nat.pow_succ]; omega⟩
          have HP := Aside0.mk hp
          have HT2 := Aside0.mk (Lib.iterAt_heap wr w.heap.size s i (i + 1) HT.out)
          have HX2 := Aside0.mk (Lib.below_iterAt HX.out (k := w.heap.size) (Nat.le_refl _) s (i + 1))
          obtain ⟨u2, hu2⟩ : ∃ u2, 10 * u + ((l[i]).toNat - 48) = u2 := ⟨_, rfl⟩
          rw [hu2] at HM2 HU2 w3
          simp only at hnx
          clear hM hrn hby hd hd2 hdec hrn2 hu hu2 hl hp ha
          go_wp2_with fail
          go_roundg k
          case measure => omega
          case rel => exact ⟨u2, i + 1, rfl, ⟨by have := HI.out; omega⟩, HM2, HU2, HT2, HX2⟩
        · rw [if_neg hd] at hM
          subst hM
          have HX2 := Aside0.mk (Lib.below_iterAt HX.out (k := w.heap.size) (Nat.le_refl _) s (i + (Utf8.decode s i).2))
          have hd3 : rn < 48 ∨ 57 < rn := by
            by_cases ha : (s[i]'hp).toNat < 128
            · have hdec := decode_ascii s i hp ha
              have hrn2 : rn = ((l[i]).toNat : Int) := by rw [← hrn, hdec]; exact hby
              unfold isD at hd
              simp only [Bool.and_eq_true, decide_eq_true_eq] at hd
              omega
            · have := (decode_high s i hp (by omega)).1
              omega
          have hcc : decide (rn < 48) = true ∨ (decide (rn < 48) = false ∧ decide ((57 : Int) < rn) = true) := by
            by_cases c : rn < 48
            · exact .inl (decide_eq_true c)
            · exact .inr ⟨decide_eq_false c, decide_eq_true (by omega)⟩
          clear hd3 hrn hby hd hl hp
          rcases hcc with c1 | ⟨c1, c2⟩
          all_goals
            go_wp2_with fail
            go_ret2
            exact ⟨rfl, HX2.out⟩
      · have hl : l.length ≤ i := by have := HZ.out; omega
        have hM := HM.out
        rw [List.drop_eq_nil_of_le hl, magF] at hM
        subst hM
        have hnx : ∀ ty, (Instr.next (.pointer (some ⟨w.heap.size, 0, none⟩)) true ty).run Tryd.prog wr = _ := fun ty => Lib.run_next_end_at wr w.heap.size s i ty HT.out hp
        clear hp hl
        go_wp2_with fail
        go_ret2
        exact ⟨rfl, HX.out⟩
  · go_enter Tryd.func46, Tryd.ntmps46
    go_wp2_with fail
    go_loopg [4] l.length (fun kq v4 w' => ∃ (u i : Nat), v4 = .int .u64 (u : Int) ∧ Aside0 (i + kq = l.length) ∧ Aside0 (magF (l.drop i) u = R) ∧ Aside0 (u < 10 ^ i) ∧ Aside0 (w'.heap[w.heap.size]? = some (.stringIter s i)) ∧ Aside0 (Below w.heap.size w w'))
    case atStart => exact ⟨0, 0, rfl, ⟨by omega⟩, ⟨by rw [List.drop_zero]; exact HR.out⟩, ⟨by decide⟩, ⟨World.iter_heap w s 0⟩, ⟨iter_below w s⟩⟩
    case round =>
      obtain ⟨u, i, rfl, HI, HM, HU, HT, HX⟩ := hrel
      by_cases hp : i < s.size
      · have hl : i < l.length := by have := HZ.out; omega
        obtain ⟨k, rfl⟩ : ∃ k, gk = k + 1 := ⟨gk - 1, by have := HI.out; omega⟩
        have hM := HM.out
        rw [List.drop_eq_getElem_cons hl, magF] at hM
        obtain ⟨rn, hrn⟩ : ∃ rn : Int, ((Utf8.decode s i).1 : Int) = rn := ⟨_, rfl⟩
        have hby := HB.out i hl hp
        have hnx : ∀ ty, (Instr.next (.pointer (some ⟨w.heap.size, 0, none⟩)) true ty).run Tryd.prog wr = _ := fun ty => Lib.run_next_any_at wr w.heap.size s i ty HT.out hp
        rw [hrn] at hnx
        by_cases hd : isD l[i] = true
        · rw [if_pos hd] at hM
          have hd2 := hd
          unfold isD at hd2
          simp only [Bool.and_eq_true, decide_eq_true_eq] at hd2
          have ha : (s[i]'hp).toNat < 128 := by omega
          have hdec := decode_ascii s i hp ha
          have hrn2 : rn = ((l[i]).toNat : Int) := by rw [← hrn, hdec]; exact hby
          rw [hdec] at hnx
          have c1 : decide (rn < 48) = false := decide_eq_false (by omega)
          have c2 : decide ((57 : Int) < rn) = false := decide_eq_false (by omega)
          have hu : (u : Int) < 10 ^ 18 := by
            have h1 := HU.out
            have h2 := HZ.out
            have : u < 10 ^ 18 := Nat.lt_of_lt_of_le h1 (Nat.pow_le_pow_right (by omega) (by omega))
            exact_mod_cast this
          have w1 : IntKind.u64.wrap (10 * (u : Int)) = 10 * (u : Int) := IntWalk.u64_in _ ⟨by omega, by omega⟩
          have w2 : IntKind.u64.wrap (rn - 48) = rn - 48 := IntWalk.u64_in _ ⟨by omega, by omega⟩
          have w3 : IntKind.u64.wrap (10 * (u : Int) + (rn - 48)) = ((10 * u + ((l[i]).toNat - 48) : Nat) : Int) := by rw [IntWalk.u64_in _ ⟨by omega, by omega⟩]; omega
          have r0 : (48 : Int) ≤ rn := by omega
          have r1 : rn ≤ 57 := by omega
          have HM2 := Aside0.mk hM
          have HU2 : Aside0 (10 * u + ((l[i]).toNat - 48) < 10 ^ (i + 1)) := ⟨by have := HU.out; rw [Nat.pow_succ]; omega⟩
          have HP := Aside0.mk hp
          have HT2 := Aside0.mk (Lib.iterAt_heap wr w.heap.size s i (i + 1) HT.out)
          have HX2 := Aside0.mk (Lib.below_iterAt HX.out (k := w.heap.size) (Nat.le_refl _) s (i + 1))
          obtain ⟨u2, hu2⟩ : ∃ u2, 10 * u + ((l[i]).toNat - 48) = u2 := ⟨_, rfl⟩
          rw [hu2] at HM2 HU2 w3
          simp only at hnx
          clear hM hrn hby hd hd2 hdec hrn2 hu hu2 hl hp ha
          go_wp2_with fail
          go_roundg k
          case measure => omega
          case rel => exact ⟨u2, i + 1, rfl, ⟨by have := HI.out; omega⟩, HM2, HU2, HT2, HX2⟩
        · rw [if_neg hd] at hM
          subst hM
          have HX2 := Aside0.mk (Lib.below_iterAt HX.out (k := w.heap.size) (Nat.le_refl _) s (i + (Utf8.decode s i).2))
          have hd3 : rn < 48 ∨ 57 < rn := by
            by_cases ha : (s[i]'hp).toNat < 128
            · have hdec := decode_ascii s i hp ha
              have hrn2 : rn = ((l[i]).toNat : Int) := by rw [← hrn, hdec]; exact hby
              unfold isD at hd
              simp only [Bool.and_eq_true, decide_eq_true_eq] at hd
              omega
            · have := (decode_high s i hp (by omega)).1
              omega
          have hcc : decide (rn < 48) = true ∨ (decide (rn < 48) = false ∧ decide ((57 : Int) < rn) = true) := by
            by_cases c : rn < 48
            · exact .inl (decide_eq_true c)
            · exact .inr ⟨decide_eq_false c, decide_eq_true (by omega)⟩
          clear hd3 hrn hby hd hl hp
          rcases hcc with c1 | ⟨c1, c2⟩
          all_goals
            go_wp2_with fail
            go_ret2
            exact ⟨rfl, HX2.out⟩
      · have hl : l.length ≤ i := by have := HZ.out; omega
        have hM := HM.out
        rw [List.drop_eq_nil_of_le hl, magF] at hM
        subst hM
        have hnx : ∀ ty, (Instr.next (.pointer (some ⟨w.heap.size, 0, none⟩)) true ty).run Tryd.prog wr = _ := fun ty => Lib.run_next_end_at wr w.heap.size s i ty HT.out hp
        clear hp hl
        go_wp2_with fail
        go_ret2
        exact ⟨rfl, HX.out⟩
end Go.Proofs.YtdaagoagfenadaaDoor.X
namespace Go.Proofs.YtdaagoagfenadaaDoor.X
open Go.RowKit Go.Proofs.YtdaagoagfenadaaDoor.YAll Go.Proofs.YtdaagoagfenadaaDoorW.PrintWords Go.Proofs.YtdaagoagfenadaaDoorW.PrintLast Go.Proofs.YtdaagoagfenadaaDoorW.PrintMore
set_option linter.unusedVariables false
set_option linter.unusedSimpArgs false

theorem tidy_of (l : List UInt8) (h0 : l ≠ []) (h1 : l.head? = some 48 → l.length = 1) (h : l.all isD = true) : tidy l = true := by
  cases l with
  | nil => exact absurd rfl h0
  | cons a r =>
    rw [List.all_cons, Bool.and_eq_true] at h
    unfold tidy
    cases r with
    | nil => exact h.1
    | cons b r =>
      simp only [Bool.and_eq_true, bne_iff_ne, ne_eq]
      refine ⟨⟨h.1, fun e => ?_⟩, h.2⟩
      have := h1 (by rw [e]; rfl)
      simp at this
theorem mag_calls (l : List UInt8) (w : World) : Calls Tryd.prog 46 #[.string (bs l)] w (MagPost w (mag l)) := by
  by_cases h0 : l = []
  · subst h0; exact mag_empty w
  by_cases h1 : 19 < l.length
  · exact mag_long l w h1
  by_cases h2 : l.head? = some 48 → l.length = 1
  · have e : mag l = magF l 0 := by
      rw [magF_eq]
      unfold mag
      by_cases h3 : l.all isD = true
      · rw [if_pos h3, if_pos ⟨tidy_of l h0 h2 h3, by omega⟩]; rfl
      · rw [if_neg h3, if_neg (fun hh => h3 (tidy_all hh.1).1)]
    rw [e]
    exact mag_main l w h0 (by omega) h2
  · obtain ⟨ha, hb⟩ : l.head? = some 48 ∧ l.length ≠ 1 := Classical.not_imp.1 h2
    cases l with
    | nil => exact absurd rfl h0
    | cons a r =>
      cases r with
      | nil => exact absurd rfl hb
      | cons b r => exact mag_zero a b r w (by omega) (by simpa using ha)
theorem mag_to (l : List UInt8) (v : Int) (b : Bool) (w : World) (hv : ((mag l).1 : Int) = v) (hb : (mag l).2 = b) : Calls Tryd.prog 46 #[.string (bs l)] w fun e w' => e = .returned (.tuple #[.int .u64 v, .bool b]) ∧ Below w.heap.size w w' := by
  subst hv hb
  exact mag_calls l w
theorem mag_lt (l : List UInt8) : (mag l).1 < 10000000000000000000 := by
  unfold mag
  split
  · rename_i h
    have h1 := val_lt l (tidy_all h.1).1
    have h2 : 10 ^ l.length ≤ 10 ^ 19 := Nat.pow_le_pow_right (by omega) h.2
    show val l < _
    omega
  · decide
theorem has_minus (r : List UInt8) (w : World) : Calls Tryd.prog 45 #[.string (bs (45 :: r)), .string ⟨#[45]⟩] w fun e w' => e = .returned (.bool true) ∧ w' = w := by
  have h := Tryd.strings_HasPrefix (bs (45 :: r)) ⟨#[45]⟩ w
  exact h
theorem has_none (l : List UInt8) (h : ∀ r, l ≠ 45 :: r) (w : World) : Calls Tryd.prog 45 #[.string (bs l), .string ⟨#[45]⟩] w fun e w' => e = .returned (.bool false) ∧ w' = w := by
  have h1 := Tryd.strings_HasPrefix (bs l) ⟨#[45]⟩ w
  have e : Lib.hasPrefix (bs l).data.toList (⟨#[45]⟩ : ByteArray).data.toList = false := by
    show Lib.hasPrefix l [45] = false
    unfold Lib.hasPrefix
    cases l with
    | nil => rfl
    | cons a r =>
      have : a ≠ 45 := fun e => h r (by rw [e])
      simp [List.isPrefixOf]
      exact fun e => this e.symm
  rw [e] at h1
  exact h1
theorem trim_minus (r : List UInt8) (w : World) : Calls Tryd.prog 47 #[.string (bs (45 :: r)), .string ⟨#[45]⟩] w fun e w' => e = .returned (.string (bs r)) ∧ w' = w := by
  have h := Tryd.strings_TrimPrefix (bs (45 :: r)) ⟨#[45]⟩ w
  exact h
theorem trim_none (l : List UInt8) (h : ∀ r, l ≠ 45 :: r) (w : World) : Calls Tryd.prog 47 #[.string (bs l), .string ⟨#[45]⟩] w fun e w' => e = .returned (.string (bs l)) ∧ w' = w := by
  have h1 := Tryd.strings_TrimPrefix (bs l) ⟨#[45]⟩ w
  have e : Lib.trimPrefix (bs l).data.toList (⟨#[45]⟩ : ByteArray).data.toList = l := by
    show Lib.trimPrefix l [45] = l
    unfold Lib.trimPrefix Lib.hasPrefix
    cases l with
    | nil => rfl
    | cons a r =>
      have : a ≠ 45 := fun e => h r (by rw [e])
      rw [if_neg]
      simp [List.isPrefixOf]
      exact fun e => this e.symm
  rw [e] at h1
  exact h1

def ReadPost (w : World) (r : Int × Bool) (e : Ending) (w' : World) : Prop := e = .returned (.tuple #[.int .i64 r.1, .bool r.2]) ∧ Below w.heap.size w w'
theorem mag_ok (r : List UInt8) (h : (mag r).2 = true) : tidy r = true ∧ r.length ≤ 19 ∧ (mag r).1 = val r := by
  unfold mag at h ⊢
  split
  · rename_i c; exact ⟨c.1, c.2, rfl⟩
  · rename_i c; rw [if_neg c] at h; cases h
theorem mag_no (r : List UInt8) (h : (mag r).2 = false) : ¬ (tidy r = true ∧ r.length ≤ 19) := by
  unfold mag at h
  split at h
  · cases h
  · assumption
theorem rdV_minus (r : List UInt8) : rdV (45 :: r) = if tidy r = true ∧ r.length ≤ 19 ∧ 1 ≤ val r ∧ val r ≤ 9223372036854775808 then (-(val r : Int), true) else (0, false) := by
  have e : rdL (45 :: r) = if tidy r = true ∧ r.length ≤ 19 ∧ 1 ≤ val r ∧ val r ≤ 9223372036854775808 then some (-(val r : Int)) else none := rfl
  unfold rdV
  rw [e]
  by_cases c : tidy r = true ∧ r.length ≤ 19 ∧ 1 ≤ val r ∧ val r ≤ 9223372036854775808
  · rw [if_pos c, if_pos c]
  · rw [if_neg c, if_neg c]
theorem rdV_plain (l : List UInt8) (h : ∀ r, l ≠ 45 :: r) : rdV l = if tidy l = true ∧ l.length ≤ 19 ∧ val l ≤ 9223372036854775807 then ((val l : Int), true) else (0, false) := by
  have e : rdL l = if tidy l = true ∧ l.length ≤ 19 ∧ val l ≤ 9223372036854775807 then some (val l : Int) else none := by
    unfold rdL
    split
    · rename_i r; exact absurd rfl (h r)
    · rfl
  unfold rdV
  rw [e]
  by_cases c : tidy l = true ∧ l.length ≤ 19 ∧ val l ≤ 9223372036854775807
  · rw [if_pos c, if_pos c]
  · rw [if_neg c, if_neg c]
def BIG : Int := 9223372036854775808
set_option maxRecDepth 100000 in
set_option maxHeartbeats 2000000 in
theorem read_minus (r : List UInt8) (w : World) : Calls Tryd.prog 28 #[.string (bs (45 :: r))] w (ReadPost w (rdV (45 :: r))) := by
  rw [rdV_minus]
  cases hb : (mag r).2 with
  | false =>
    rw [if_neg (fun c => mag_no r hb ⟨c.1, c.2.1⟩)]
    have HB := Aside0.mk hb
    clear hb
    go_enter Tryd.func28, Tryd.ntmps28
    go_wp2_with (first | (go_at_call 45; refine (has_minus r _).mono ?_; rintro e w1 ⟨rfl, rfl⟩) | (go_at_call 47; refine (trim_minus r _).mono ?_; rintro e w1 ⟨rfl, rfl⟩) | (go_at_call 46; refine (mag_to r _ false _ rfl HB.out).mono ?_; rintro e w2 ⟨rfl, hB⟩; have HB2 := Aside0.mk hB; clear hB))
    go_ret2
    exact ⟨rfl, HB2.out⟩
  | true =>
    obtain ⟨h1, h2, h3⟩ := mag_ok r hb
    have hlt := mag_lt r
    rw [h3] at hlt
    obtain ⟨v, hv⟩ : ∃ v : Int, ((mag r).1 : Int) = v := ⟨_, rfl⟩
    have hv2 : v = (val r : Int) := by rw [← hv, h3]
    have HB := Aside0.mk (And.intro hb hv)
    by_cases c0 : val r = 0
    · rw [if_neg (fun c => by omega)]
      have z0 : (v == 0) = true := by rw [hv2, c0]; rfl
      clear hb h1 h2 h3 hlt hv hv2 c0
      go_enter Tryd.func28, Tryd.ntmps28
      go_wp2_with (first | (go_at_call 45; refine (has_minus r _).mono ?_; rintro e w1 ⟨rfl, rfl⟩) | (go_at_call 47; refine (trim_minus r _).mono ?_; rintro e w1 ⟨rfl, rfl⟩) | (go_at_call 46; refine (mag_to r v true _ HB.out.2 HB.out.1).mono ?_; rintro e w2 ⟨rfl, hB⟩; have HB2 := Aside0.mk hB; clear hB))
      go_ret2
      exact ⟨rfl, HB2.out⟩
    · have z0 : (v == 0) = false := by rw [beq_eq_false_iff_ne]; omega
      by_cases c1 : val r ≤ 9223372036854775808
      · rw [if_pos ⟨h1, h2, by omega, c1⟩]
        have z1 : decide (v ≤ 9223372036854775808) = true := decide_eq_true (by omega)
        have z2 : wrap64 (IntKind.u64.wrap (-v)) = -(val r : Int) := by rw [hv2]; exact neg_wrap _ (by omega) c1
        clear hb h1 h2 h3 hlt hv hv2 c0 c1
        go_enter Tryd.func28, Tryd.ntmps28
        go_wp2_with (first | (go_at_call 45; refine (has_minus r _).mono ?_; rintro e w1 ⟨rfl, rfl⟩) | (go_at_call 47; refine (trim_minus r _).mono ?_; rintro e w1 ⟨rfl, rfl⟩) | (go_at_call 46; refine (mag_to r v true _ HB.out.2 HB.out.1).mono ?_; rintro e w2 ⟨rfl, hB⟩; have HB2 := Aside0.mk hB; clear hB))
        go_ret2
        exact ⟨by first | rfl | (rw [z2]; rfl), HB2.out⟩
      · rw [if_neg (fun c => c1 c.2.2.2)]
        have z1 : decide (v ≤ 9223372036854775808) = false := decide_eq_false (by omega)
        clear hb h1 h2 h3 hlt hv hv2 c0 c1
        go_enter Tryd.func28, Tryd.ntmps28
        go_wp2_with (first | (go_at_call 45; refine (has_minus r _).mono ?_; rintro e w1 ⟨rfl, rfl⟩) | (go_at_call 47; refine (trim_minus r _).mono ?_; rintro e w1 ⟨rfl, rfl⟩) | (go_at_call 46; refine (mag_to r v true _ HB.out.2 HB.out.1).mono ?_; rintro e w2 ⟨rfl, hB⟩; have HB2 := Aside0.mk hB; clear hB))
        go_ret2
        exact ⟨rfl, HB2.out⟩
set_option maxRecDepth 100000 in
set_option maxHeartbeats 2000000 in
theorem read_plain (l : List UInt8) (h : ∀ r, l ≠ 45 :: r) (w : World) : Calls Tryd.prog 28 #[.string (bs l)] w (ReadPost w (rdV l)) := by
  rw [rdV_plain l h]
  have HP := Aside0.mk h
  clear h
  cases hb : (mag l).2 with
  | false =>
    rw [if_neg (fun c => mag_no l hb ⟨c.1, c.2.1⟩)]
    have HB := Aside0.mk hb
    clear hb
    go_enter Tryd.func28, Tryd.ntmps28
    go_wp2_with (first | (go_at_call 45; refine (has_none l HP.out _).mono ?_; rintro e w1 ⟨rfl, rfl⟩) | (go_at_call 47; refine (trim_none l HP.out _).mono ?_; rintro e w1 ⟨rfl, rfl⟩) | (go_at_call 46; refine (mag_to l _ false _ rfl HB.out).mono ?_; rintro e w2 ⟨rfl, hB⟩; have HB2 := Aside0.mk hB; clear hB))
    go_ret2
    exact ⟨rfl, HB2.out⟩
  | true =>
    obtain ⟨h1, h2, h3⟩ := mag_ok l hb
    obtain ⟨v, hv⟩ : ∃ v : Int, ((mag l).1 : Int) = v := ⟨_, rfl⟩
    have hv2 : v = (val l : Int) := by rw [← hv, h3]
    have HB := Aside0.mk (And.intro hb hv)
    by_cases c1 : val l ≤ 9223372036854775807
    · rw [if_pos ⟨h1, h2, c1⟩]
      have z1 : decide (v ≤ 9223372036854775807) = true := decide_eq_true (by omega)
      have z2 : wrap64 v = (val l : Int) := by rw [hv2]; exact w64 (by omega) (by omega)
      clear hb h1 h2 h3 hv hv2 c1
      go_enter Tryd.func28, Tryd.ntmps28
      go_wp2_with (first | (go_at_call 45; refine (has_none l HP.out _).mono ?_; rintro e w1 ⟨rfl, rfl⟩) | (go_at_call 47; refine (trim_none l HP.out _).mono ?_; rintro e w1 ⟨rfl, rfl⟩) | (go_at_call 46; refine (mag_to l v true _ HB.out.2 HB.out.1).mono ?_; rintro e w2 ⟨rfl, hB⟩; have HB2 := Aside0.mk hB; clear hB))
      go_ret2
      exact ⟨by first | rfl | (rw [z2]; rfl), HB2.out⟩
    · rw [if_neg (fun c => c1 c.2.2)]
      have z1 : decide (v ≤ 9223372036854775807) = false := decide_eq_false (by omega)
      clear hb h1 h2 h3 hv hv2 c1
      go_enter Tryd.func28, Tryd.ntmps28
      go_wp2_with (first | (go_at_call 45; refine (has_none l HP.out _).mono ?_; rintro e w1 ⟨rfl, rfl⟩) | (go_at_call 47; refine (trim_none l HP.out _).mono ?_; rintro e w1 ⟨rfl, rfl⟩) | (go_at_call 46; refine (mag_to l v true _ HB.out.2 HB.out.1).mono ?_; rintro e w2 ⟨rfl, hB⟩; have HB2 := Aside0.mk hB; clear hB))
      go_ret2
      exact ⟨rfl, HB2.out⟩
theorem read_calls (l : List UInt8) (w : World) : Calls Tryd.prog 28 #[.string (bs l)] w (ReadPost w (rdV l)) := by
  by_cases h : ∃ r, l = 45 :: r
  · obtain ⟨r, rfl⟩ := h
    exact read_minus r w
  · exact read_plain l (fun r e => h ⟨r, e⟩) w
theorem refread_calls (l : List UInt8) (w : World) : Calls Tryd.prog 31 #[.string (bs l)] w (ReadPost w (rdV l)) :=
  assartref30_Read.calls 100 (bs l) _ _ w (refread_f l)
theorem refnum_calls (n : Int) (w : World) (h : In64 n) : Calls Tryd.prog 25 #[.int .i64 n] w fun e w' => e = .returned (.string (bs (numL n))) ∧ Below w.heap.size w w' :=
  assartref30_Num.calls 40 n _ w (refnum_f n h 0)
end Go.Proofs.YtdaagoagfenadaaDoor.X
namespace Go.Proofs.YtdaagoagfenadaaDoor.X
open Go.RowKit Go.Proofs.YtdaagoagfenadaaDoor.YAll Go.Proofs.YtdaagoagfenadaaDoorW.PrintWords Go.Proofs.YtdaagoagfenadaaDoorW.PrintLast Go.Proofs.YtdaagoagfenadaaDoorW.PrintMore
set_option linter.unusedVariables false
set_option linter.unusedSimpArgs false

/-- A text's pieces between single blanks. -/
def flds : List UInt8 → List (List UInt8)
  | [] => [[]]
  | c :: r => if c = 32 then [] :: flds r else match flds r with
    | f :: fs => (c :: f) :: fs
    | [] => [[c]]
theorem flds_ne (l : List UInt8) : flds l ≠ [] := by
  cases l with
  | nil => simp [flds]
  | cons c r => unfold flds; split <;> (try split) <;> simp
theorem flds_cons (l : List UInt8) : ∃ f fs, flds l = f :: fs := by
  cases h : flds l with
  | nil => exact absurd h (flds_ne l)
  | cons f fs => exact ⟨f, fs, rfl⟩
theorem split_flds : ∀ (l : List UInt8), Lib.splitK [32] 0 (l.count 32) l = flds l
  | [] => rfl
  | c :: r => by
    have ih := split_flds r
    by_cases hc : c = 32
    · subst hc
      rw [List.count_cons_self]
      unfold Lib.splitK
      have e : Lib.index (32 :: r) [32] = 0 := by rw [Lib.index_one]; unfold Lib.indexByte; rw [if_pos (by rfl)]
      rw [e, if_neg (by decide)]
      show [] :: Lib.splitK [32] 0 (r.count 32) r = flds (32 :: r)
      rw [ih]
      conv => rhs; unfold flds
      rw [if_pos rfl]
    · have hcnt : (c :: r).count 32 = r.count 32 := by rw [List.count_cons]; simp [hc]
      rw [hcnt]
      conv => rhs; unfold flds
      rw [if_neg hc]
      obtain ⟨k, hk⟩ : ∃ k, r.count 32 = k := ⟨_, rfl⟩
      rw [hk] at ih ⊢
      cases k with
      | zero =>
        rw [← ih]
        rfl
      | succ k =>
        have hix : Lib.index (c :: r) [32] = if Lib.index r [32] == -1 then -1 else Lib.index r [32] + 1 := by
          rw [Lib.index_one, Lib.index_one]
          conv => lhs; unfold Lib.indexByte
          rw [if_neg (by simpa using hc)]
        have hne : Lib.index r [32] ≠ -1 := by
          rw [Lib.index_one]
          intro e
          have h0 := Lib.indexByte_none e
          have : r.count 32 = 0 := List.count_eq_zero.2 (fun hm => by
            obtain ⟨j, hj⟩ := List.getElem?_of_mem hm
            exact h0 j hj)
          omega
        have hge : -1 ≤ Lib.index r [32] := by rw [Lib.index_one]; exact Lib.indexByte_ge _ _
        obtain ⟨i, hi⟩ : ∃ i : Nat, Lib.index r [32] = i := ⟨(Lib.index r [32]).toNat, by omega⟩
        unfold Lib.splitK at ih ⊢
        rw [hix, hi]
        rw [hi] at ih
        have q1 : ((i : Int) == -1) = false := by simp
        have q2 : ((i : Int) + 1 == -1) = false := by simp; omega
        rw [q1] at ih ⊢
        simp only [Bool.false_eq_true, if_false, q2] at ih ⊢
        rw [← ih]
        simp only [Int.toNat_natCast, Nat.add_zero, List.length_singleton]
        rw [show ((i : Int) + 1).toNat = i + 1 by omega]
        rfl
theorem flds_len (l : List UInt8) : (flds l).length = l.count 32 + 1 := by
  induction l with
  | nil => rfl
  | cons c r ih =>
    unfold flds
    by_cases hc : c = 32
    · rw [if_pos hc, List.length_cons, ih, hc, List.count_cons_self]
    · rw [if_neg hc]
      obtain ⟨f, fs, e⟩ := flds_cons r
      rw [e] at ih ⊢
      rw [List.count_cons]
      simp [hc]
      simpa using ih
/-- What the library's Split tells. -/
theorem split_bs (l : List UInt8) : Lib.splitB ⟨#[32]⟩ 0 (Lib.countB (bs l) ⟨#[32]⟩) (bs l) = (flds l).map bs := by
  have h := Lib.splitB_data ⟨#[32]⟩ 0 (Lib.countB (bs l) ⟨#[32]⟩) (bs l)
  have hc : Lib.countB (bs l) ⟨#[32]⟩ = l.count 32 := Lib.count_one 32 l
  rw [hc] at h ⊢
  have h2 : (Lib.splitB ⟨#[32]⟩ 0 (l.count 32) (bs l)).map (·.data.toList) = flds l := h.trans (split_flds l)
  have back : ∀ xs : List ByteArray, (xs.map (·.data.toList)).map bs = xs := by
    intro xs
    rw [List.map_map]
    conv => rhs; rw [← List.map_id xs]
    apply List.map_congr_left
    intro x _
    apply ByteArray.ext
    simp [bs]
  rw [← h2, back]
theorem count_bs (l : List UInt8) : Lib.countB (bs l) ⟨#[32]⟩ + 1 = (flds l).length := by rw [flds_len]; exact congrArg (· + 1) (Lib.count_one 32 l)
/-- A row of texts. -/
def Txt (w : World) (A : Option Addr) (n : Nat) (ls : List (List UInt8)) : Prop := Kd.C Kd.string w A n (ls.map bs)
/-- A row of texts of the call's own is told; all that was is as it was. -/
def TRow (w : World) (ls : List (List UInt8)) (e : Ending) (w' : World) : Prop := ∃ b, e = .returned (.slice (some ⟨b, 0, none⟩) ls.length ls.length) ∧ b < w'.heap.size ∧ Txt w' (some ⟨b, 0, none⟩) ls.length ls ∧ Below w.heap.size w w'
def Mx (w : World) : Prop := ∃ m, w.cell? ⟨0, 0, none⟩ = some (.int .i64 m)
theorem Mx.below {w w' : World} (h : Mx w) (hb : Below w.heap.size w w') : Mx w' := by obtain ⟨m, hm⟩ := h; exact ⟨m, pw_cell_below hb hm⟩
theorem fields_calls (l : List UInt8) (w : World) (hm : Mx w) (hl : l.length ≤ 2000000) : Calls Tryd.prog 48 #[.string (bs l)] w (TRow w (flds l)) := by
  obtain ⟨m, hm⟩ := hm
  have HM := Aside0.mk hm
  have HL := Aside0.mk hl
  clear hm hl
  go_enter Tryd.func48, Tryd.ntmps48
  go_wp2_with (go_at_call 58; refine (Tryd.strings_Split (bs l) ⟨#[32]⟩ m _ (by rw [bs_size]; have := HL.out; omega) HM.out (by decide)).mono ?_; rintro e w1 ⟨rfl, hw⟩; rw [count_bs l]; rw [split_bs l] at hw; have HW := Aside0.mk hw; clear hw)
  go_ret
  refine ⟨w.heap.size, rfl, by rw [HW.out]; exact blk_lt (blk_new w _), ?_, by rw [HW.out]; exact ballo (Below.refl _ _) _⟩
  rw [HW.out]
  refine ⟨by simp, by have := HL.out; have := flds_len l; have := List.count_le_length (a := (32 : UInt8)) (l := l); omega, fun _ => ⟨_, rfl, fun j p hj => ?_⟩⟩
  have hb := blk_new w (.cells ((List.map bs (flds l)).map Value.string).toArray 9)
  refine ⟨[.string p], rfl, rfl, fun i u hu => ?_⟩
  have hi : i < 1 := (List.getElem?_eq_some_iff.1 hu).1
  obtain rfl : i = 0 := by omega
  rw [Addr.add_lit, blk_cell hb]
  have e : Kd.string.sz = 1 := rfl
  rw [e]
  simp only [Nat.mul_one, Nat.add_zero, Nat.zero_add, List.getElem?_toArray, List.getElem?_map]
  rw [List.getElem?_map] at hj
  rw [hj]
  exact hu

/-! ### the reference's Fields -/
def fl (pre rest : List UInt8) : List (List UInt8) := match flds rest with
  | f :: fs => (pre ++ f) :: fs
  | [] => [pre]
theorem fl_nil (rest : List UInt8) : fl [] rest = flds rest := by
  unfold fl
  obtain ⟨f, fs, e⟩ := flds_cons rest
  rw [e]; rfl
theorem fl_blank (pre rest : List UInt8) : fl pre (32 :: rest) = pre :: flds rest := by
  unfold fl
  have e : flds (32 :: rest) = [] :: flds rest := by conv => lhs; unfold flds
                                                     rw [if_pos rfl]
  rw [e]
  simp
theorem fl_other (pre rest : List UInt8) (c : UInt8) (h : c ≠ 32) : fl pre (c :: rest) = fl (pre ++ [c]) rest := by
  unfold fl
  obtain ⟨f, fs, e⟩ := flds_cons rest
  have e2 : flds (c :: rest) = (c :: f) :: fs := by
    conv => lhs; unfold flds
    rw [if_neg h, e]
  rw [e, e2]
  simp
theorem bs_extract (l : List UInt8) (a b : Nat) : (bs l).extract a b = bs ((l.take b).drop a) := by
  apply ByteArray.ext
  apply Array.ext'
  rw [Lib.extract_data]
  simp [bs, List.drop_take]
theorem refflds_l (l : List UInt8) (hl : l.length ≤ 2000000) : ∀ (d i a k : Nat) (out : List ByteArray), i + d = l.length → a ≤ i → out.length ≤ i → d + 3 ≤ k → assartref30_Fields.l0 k (bs l) out (a : Int) (i : Int) = some (out ++ (fl ((l.take i).drop a) (l.drop i)).map bs) := by
  intro d
  induction d with
  | zero =>
    intro i a k out hi ha ho hk
    obtain ⟨k, rfl⟩ : ∃ m, k = m + 1 + 1 := ⟨k - 2, by omega⟩
    rw [assartref30_Fields.l0, bs_size]
    rw [if_pos (by omega), if_pos (by omega), if_pos (by omega), if_pos (by omega), if_pos (by omega)]
    rw [assartref30_Fields.l0, bs_size, w64 (by omega) (by omega), if_neg (by omega)]
    rw [bs_extract]
    have e1 : l.drop i = [] := List.drop_eq_nil_of_le (by omega)
    rw [e1]
    simp [fl, flds]
  | succ d ih =>
    intro i a k out hi ha ho hk
    obtain ⟨k, rfl⟩ : ∃ m, k = m + 1 := ⟨k - 1, by omega⟩
    have hlt : i < l.length := by omega
    rw [assartref30_Fields.l0, bs_size]
    rw [if_pos (by omega), if_neg (by omega), if_pos (by omega), if_pos (by omega), bt_bs l i hlt, List.drop_eq_getElem_cons hlt, w64 (a := (i : Int) + 1) (by omega) (by omega)]
    have n1 : (i : Int) + 1 = ((i + 1 : Nat) : Int) := by omega
    have t1 : l.take (i + 1) = l.take i ++ [l[i]] := by rw [List.take_add_one, List.getElem?_eq_getElem hlt]; rfl
    by_cases c : ((l[i]).toNat : Int) = 32
    · have hc : l[i] = 32 := by
        have := UInt8.ofNat_toNat (x := l[i])
        rw [show (l[i]).toNat = 32 by omega] at this
        exact this.symm
      have e1 : (l.take (i + 1)).drop (i + 1) = [] := List.drop_eq_nil_of_le (by rw [List.length_take]; omega)
      rw [if_pos c, if_pos (by omega), if_pos (by omega), if_pos (by omega), n1, bs_extract]
      rw [show ((i : Int)).toNat = i by omega, show ((a : Int)).toNat = a by omega]
      rw [ih (i + 1) (i + 1) k _ (by omega) (by omega) (by simp; omega) (by omega), hc, fl_blank]
      rw [e1, fl_nil]
      simp
    · have hc : l[i] ≠ 32 := fun e => c (by rw [e]; rfl)
      rw [if_neg c, n1, ih (i + 1) a k out (by omega) (by omega) (by omega) (by omega), fl_other _ _ _ hc, t1, List.drop_append_of_le_length (by rw [List.length_take]; omega)]
theorem refflds_f (l : List UInt8) (hl : l.length ≤ 2000000) : assartref30_Fields.f (l.length + 3) (bs l) = some ((flds l).map bs) := by
  unfold assartref30_Fields.f
  have h := refflds_l l hl l.length 0 0 (l.length + 3) [] (by omega) (by omega) (by simp) (by omega)
  simp only [List.take_zero, List.drop_zero, List.drop_nil, List.nil_append, fl_nil] at h
  exact h
end Go.Proofs.YtdaagoagfenadaaDoor.X
namespace Go.Proofs.YtdaagoagfenadaaDoor.X
open Go.RowKit Go.Proofs.YtdaagoagfenadaaDoor.YAll Go.Proofs.YtdaagoagfenadaaDoorW.PrintWords Go.Proofs.YtdaagoagfenadaaDoorW.PrintLast Go.Proofs.YtdaagoagfenadaaDoorW.PrintMore
set_option linter.unusedVariables false
set_option linter.unusedSimpArgs false

/-- The forms: a kind's word and which numbers (0 Addr, 1 Size, 2 Align, 3 Value). -/
def formL : List (List UInt8 × List Nat) := [([109, 97, 108, 108, 111, 99], [1]), ([102, 114, 101, 101], [0]), ([99, 97, 108, 108, 111, 99], [1]), ([114, 101, 97, 108, 108, 111, 99], [0, 1]), ([97, 108, 105, 103, 110, 101, 100], [1, 2]), ([117, 115, 97, 98, 108, 101], [0]), ([102, 108, 117, 115, 104], []), ([116, 114, 105, 109], []), ([101, 120, 105, 116], []), ([115, 116, 97, 116, 115], []), ([108, 111, 97, 100], [0]), ([115, 116, 111, 114, 101], [0, 3])]
def wd (k : Nat) : List UInt8 := (formL.getD k ([], [])).1
def pt (k : Nat) : List Nat := (formL.getD k ([], [])).2
/-- A row of parts. -/
def PtsAt (w : World) (A : Option Addr) (ps : List Nat) : Prop := ps ≠ [] → ∃ b, A = some ⟨b, 0, none⟩ ∧ w.heap[b]? = some (.cells (ps.map fun (p : Nat) => Value.int .i64 (p : Int)).toArray 90)
def FormsV (w : World) (vs : Array Value) : Prop := vs.size = 24 ∧ ∀ k, k < 12 → ∃ A, vs[2 * k]? = some (.string (bs (wd k))) ∧ vs[2 * k + 1]? = some (.slice A (pt k).length (pt k).length) ∧ PtsAt w A (pt k)
theorem size_al (w : World) (o : Obj) : (w.alloc o).heap.size = w.heap.size + 1 := Array.size_push _
theorem blk_newq (w : World) (o : Obj) {q : Nat} (h : q = w.heap.size) : (w.alloc o).heap[q]? = some o := by subst h; exact blk_new w o
theorem wp_store_row {P : Program} {op : Oper} {a : Act} {w : World} {K : Act → World → Prop} {Q : Exit → Act → World → Prop} (ty : TypeId) (x y : Operand) (ho : op.op = .store ty x y)
    (g : Nat) (c c' : Array Value) (hx : a.eval x = .pointer (some ⟨g, 0, none⟩)) (hy : a.eval y = .agg c') (hg : w.heap[g]? = some (.cells c ty))
    (hi : (P.info? ty).map (·.size) = some c'.size) (hs : c.size = c'.size) (h1 : c'.all (·.oneCell') = true) (w0 : World) (hw0 : w0.heap.size ≤ g) (hb : Below w0.heap.size w0 w)
    (F : World → Array Value → Prop) (hF : ∀ W : World, (∀ j, j ≠ g → W.heap[j]? = w.heap[j]?) → F W c')
    (h : ∀ W : World, W.heap[g]? = some (.cells c' ty) → F W c' → Below w0.heap.size w0 W → K (a.put op.dst undef) W) : op.wp P a w K Q := by
  unfold Oper.wp execOp
  have e := run_storeVar_row (P := P) w g ty ty c c' hg hi hs h1
  simp only [ho, hx, hy, Instr.storeAt, Instr.sureAddr, Sem.run_bind, Sem.run_pure, Result.andThen_ok, e]
  exact h _ (setRow_heap w g c c' ty (0, 0) hg) (hF _ (fun j hj => setRow_other w g j c' hj)) (hb.trans ⟨rfl, rfl, rfl, by simp [World.setRow], fun k hk => setRow_other w g k c' (by omega)⟩)
set_option maxRecDepth 100000 in
set_option maxHeartbeats 2000000 in
theorem forms_calls (w : World) : Calls Tryd.prog 39 #[] w fun e w' => ∃ vs, e = .returned (.agg vs) ∧ FormsV w' vs ∧ Below w.heap.size w w' := by
  go_enter Tryd.func39, Tryd.ntmps39
  iterate 75 (first | go_values | go_skip | go_guarded | go_step | go_upon)
  refine wp_store_row 88 (.tmp 0) (.tmp 21) rfl w.heap.size _ _ rfl rfl (by repeat (first | exact blk_new _ _ | refine blk_alloc ?_ _)) (by kernel_rfl) (by kernel_rfl) (by kernel_rfl) w (Nat.le_refl _) (by repeat (first | exact Below.refl _ _ | refine ballo ?_ _)) FormsV ?hF ?_
  case hF =>
    intro W HO
    have G1 : W.heap[w.heap.size + 1]? = some (.cells #[Value.int .i64 1] 90) := (HO _ (by omega)).trans (by refine blk_alloc ?_ _; refine blk_alloc ?_ _; refine blk_alloc ?_ _; refine blk_alloc ?_ _; refine blk_alloc ?_ _; refine blk_alloc ?_ _; refine blk_alloc ?_ _; exact blk_newq _ _ (by simp only [size_al]))
    have G2 : W.heap[w.heap.size + 1 + 1]? = some (.cells #[Value.int .i64 0] 90) := (HO _ (by omega)).trans (by refine blk_alloc ?_ _; refine blk_alloc ?_ _; refine blk_alloc ?_ _; refine blk_alloc ?_ _; refine blk_alloc ?_ _; refine blk_alloc ?_ _; exact blk_newq _ _ (by simp only [size_al]))
    have G3 : W.heap[w.heap.size + 1 + 1 + 1]? = some (.cells #[Value.int .i64 1] 90) := (HO _ (by omega)).trans (by refine blk_alloc ?_ _; refine blk_alloc ?_ _; refine blk_alloc ?_ _; refine blk_alloc ?_ _; refine blk_alloc ?_ _; exact blk_newq _ _ (by simp only [size_al]))
    have G4 : W.heap[w.heap.size + 1 + 1 + 1 + 1]? = some (.cells #[Value.int .i64 0, Value.int .i64 1] 90) := (HO _ (by omega)).trans (by refine blk_alloc ?_ _; refine blk_alloc ?_ _; refine blk_alloc ?_ _; refine blk_alloc ?_ _; exact blk_newq _ _ (by simp only [size_al]))
    have G5 : W.heap[w.heap.size + 1 + 1 + 1 + 1 + 1]? = some (.cells #[Value.int .i64 1, Value.int .i64 2] 90) := (HO _ (by omega)).trans (by refine blk_alloc ?_ _; refine blk_alloc ?_ _; refine blk_alloc ?_ _; exact blk_newq _ _ (by simp only [size_al]))
    have G6 : W.heap[w.heap.size + 1 + 1 + 1 + 1 + 1 + 1]? = some (.cells #[Value.int .i64 0] 90) := (HO _ (by omega)).trans (by refine blk_alloc ?_ _; refine blk_alloc ?_ _; exact blk_newq _ _ (by simp only [size_al]))
    have G7 : W.heap[w.heap.size + 1 + 1 + 1 + 1 + 1 + 1 + 1]? = some (.cells #[Value.int .i64 0] 90) := (HO _ (by omega)).trans (by refine blk_alloc ?_ _; exact blk_newq _ _ (by simp only [size_al]))
    have G8 : W.heap[w.heap.size + 1 + 1 + 1 + 1 + 1 + 1 + 1 + 1]? = some (.cells #[Value.int .i64 0, Value.int .i64 3] 90) := (HO _ (by omega)).trans (by exact blk_newq _ _ (by simp only [size_al]))
    refine ⟨rfl, fun k hk => ?_⟩
    have hk2 : k = 0 ∨ k = 1 ∨ k = 2 ∨ k = 3 ∨ k = 4 ∨ k = 5 ∨ k = 6 ∨ k = 7 ∨ k = 8 ∨ k = 9 ∨ k = 10 ∨ k = 11 := by omega
    rcases hk2 with rfl | rfl | rfl | rfl | rfl | rfl | rfl | rfl | rfl | rfl | rfl | rfl
    · exact ⟨some ⟨w.heap.size + 1, 0, none⟩, rfl, rfl, fun _ => ⟨w.heap.size + 1, rfl, G1⟩⟩
    · exact ⟨some ⟨w.heap.size + 1 + 1, 0, none⟩, rfl, rfl, fun _ => ⟨w.heap.size + 1 + 1, rfl, G2⟩⟩
    · exact ⟨some ⟨w.heap.size + 1 + 1 + 1, 0, none⟩, rfl, rfl, fun _ => ⟨w.heap.size + 1 + 1 + 1, rfl, G3⟩⟩
    · exact ⟨some ⟨w.heap.size + 1 + 1 + 1 + 1, 0, none⟩, rfl, rfl, fun _ => ⟨w.heap.size + 1 + 1 + 1 + 1, rfl, G4⟩⟩
    · exact ⟨some ⟨w.heap.size + 1 + 1 + 1 + 1 + 1, 0, none⟩, rfl, rfl, fun _ => ⟨w.heap.size + 1 + 1 + 1 + 1 + 1, rfl, G5⟩⟩
    · exact ⟨some ⟨w.heap.size + 1 + 1 + 1 + 1 + 1 + 1, 0, none⟩, rfl, rfl, fun _ => ⟨w.heap.size + 1 + 1 + 1 + 1 + 1 + 1, rfl, G6⟩⟩
    · exact ⟨none, rfl, rfl, fun h => (h rfl).elim⟩
    · exact ⟨none, rfl, rfl, fun h => (h rfl).elim⟩
    · exact ⟨none, rfl, rfl, fun h => (h rfl).elim⟩
    · exact ⟨none, rfl, rfl, fun h => (h rfl).elim⟩
    · exact ⟨some ⟨w.heap.size + 1 + 1 + 1 + 1 + 1 + 1 + 1, 0, none⟩, rfl, rfl, fun _ => ⟨w.heap.size + 1 + 1 + 1 + 1 + 1 + 1 + 1, rfl, G7⟩⟩
    · exact ⟨some ⟨w.heap.size + 1 + 1 + 1 + 1 + 1 + 1 + 1 + 1, 0, none⟩, rfl, rfl, fun _ => ⟨w.heap.size + 1 + 1 + 1 + 1 + 1 + 1 + 1 + 1, rfl, G8⟩⟩

  intro W HQ HF HB
  have HQ2 := Aside0.mk HQ
  have HF2 := Aside0.mk HF
  clear HQ HF
  go_wp2
  (try simp only [Exit.inBlock, Exit.then])
  refine bodyPost_ret (results_single (r := .cell 0 88) rfl (.cell w.heap.size _ _ (0, 0) (.array 12 87) rfl HQ2.out Tryd.underlying88 rfl (by kernel_rfl) .nil)) rfl ?_
  exact ⟨_, rfl, HF2.out, HB⟩
end Go.Proofs.YtdaagoagfenadaaDoor.X
namespace Go.Proofs.YtdaagoagfenadaaDoor.X
open Go.RowKit Go.Proofs.YtdaagoagfenadaaDoor.YAll Go.Proofs.YtdaagoagfenadaaDoorW.PrintWords Go.Proofs.YtdaagoagfenadaaDoorW.PrintLast Go.Proofs.YtdaagoagfenadaaDoorW.PrintMore
set_option linter.unusedVariables false
set_option linter.unusedSimpArgs false

theorem of_calls (p : Nat) (hp : p < 4) (b : Nat) (w : World) : Calls Tryd.prog 40 #[.int .i64 (p : Int), .pointer (some ⟨b, 0, none⟩)] w fun e w' => e = .returned (.pointer (some ⟨b, p + 1, none⟩)) ∧ w' = w := by
  have h : p = 0 ∨ p = 1 ∨ p = 2 ∨ p = 3 := by omega
  rcases h with rfl | rfl | rfl | rfl
  all_goals
    go_enter Tryd.func40, Tryd.ntmps40
    go_wp2
    go_ret
    exact ⟨rfl, rfl⟩
/-- At block b lies a call: kind, Addr, Size, Align, Value. -/
def CallAt (w : World) (b : Nat) (c : List Int) : Prop := w.heap[b]? = some (.cells (c.map (Value.int .i64)).toArray 23)
theorem CallAt.cell {w : World} {b : Nat} {c : List Int} (h : CallAt w b c) (i : Nat) (hi : i < c.length) : w.cell? ⟨b, i, none⟩ = some (.int .i64 (c.getD i 0)) := by
  rw [blk_cell h]
  simp [hi]
theorem CallAt.frozen {w : World} {b : Nat} {c : List Int} (h : CallAt w b c) (i : Nat) : w.frozen? ⟨b, i, none⟩ = false := blk_frozen h i
theorem CallAt.set {w : World} {b : Nat} {c : List Int} (h : CallAt w b c) (i : Nat) (x : Int) : CallAt (w.setCell ⟨b, i, none⟩ (.int .i64 x)) b (c.set i x) := by
  have h2 := blk_set h i (.int .i64 x)
  unfold CallAt
  rw [h2]
  simp [List.map_set]
theorem CallAt.far {w : World} {b g : Nat} {c : List Int} (h : CallAt w b c) (i : Nat) (v : Value) (hn : b ≠ g) : CallAt (w.setCell ⟨g, i, none⟩ v) b c := blk_far h hn v
theorem CallAt.below {w w' : World} {b : Nat} {c : List Int} (h : CallAt w b c) (hb : Below w.heap.size w w') : CallAt w' b c := blk_below h hb
theorem CallAt.alloc {w : World} {b : Nat} {c : List Int} (h : CallAt w b c) (o : Obj) : CallAt (w.alloc o) b c := blk_alloc h o
theorem PtsAt.below {w w' : World} {A : Option Addr} {ps : List Nat} (h : PtsAt w A ps) (hb : Below w.heap.size w w') : PtsAt w' A ps := fun hn => by
  obtain ⟨b, rfl, h2⟩ := h hn
  exact ⟨b, rfl, blk_below h2 hb⟩
theorem PtsAt.set {w : World} {A : Option Addr} {ps : List Nat} {g : Nat} {t : TypeId} {cs : Array Value} (h : PtsAt w A ps) (hg : w.heap[g]? = some (.cells cs t)) (ht : t ≠ 90) (i : Nat) (u : Value) : PtsAt (w.setCell ⟨g, i, none⟩ u) A ps := fun hn => by
  obtain ⟨b, rfl, h2⟩ := h hn
  refine ⟨b, rfl, blk_far h2 ?_ u⟩
  rintro rfl
  rw [hg] at h2
  injection h2 with h2
  injection h2 with _ h2
  exact ht h2
theorem PtsAt.grown {w w' : World} {A : Option Addr} {ps : List Nat} {v : Value} (h : PtsAt w A ps) (hg : w.grownBy w' v.ownBlock) (ht : ∀ k, v.ownBlock = some k → ∃ cells, w.heap[k]? = some (.cells cells 9 (0, 0))) : PtsAt w' A ps := fun hn => by
  obtain ⟨b, rfl, h2⟩ := h hn
  refine ⟨b, rfl, blk_grown h2 hg ?_⟩
  intro e
  obtain ⟨cells, h3⟩ := ht b e.symm
  rw [h3] at h2
  injection h2 with h2
  injection h2 with _ h2
  cases h2
theorem pt_lt (k : Nat) : ∀ p ∈ pt k, p < 4 := by
  by_cases h : k < 12
  · have h2 : ∀ k < 12, ∀ p ∈ pt k, p < 4 := by decide
    exact h2 k h
  · have e : pt k = [] := by unfold pt; rw [List.getD_eq_getElem?_getD, List.getElem?_eq_none (by show 12 ≤ k; omega)]; rfl
    rw [e]; simp
/-! ### a call's text -/
def jns (sp : UInt8) : List (List UInt8) → List UInt8
  | [] => []
  | [w] => w
  | w :: v :: r => w ++ sp :: jns sp (v :: r)
abbrev jn := jns 32
def plainC (c : List Int) (ps : List Nat) : List Int := ps.foldl (fun q p => q.set (p + 1) (c.getD (p + 1) 0)) [c.getD 0 0, 0, 0, 0, 0]
def wordsC (c : List Int) (ps : List Nat) : List (List UInt8) := ps.map fun p => numL (c.getD (p + 1) 0)
theorem list5 (l : List Int) (h : l.length = 5) : ∃ a b c d e, l = [a, b, c, d, e] := by
  match l, h with
  | [a, b, c, d, e], _ => exact ⟨a, b, c, d, e, rfl⟩
theorem CallAt.five {w : World} {b : Nat} {y0 y1 y2 y3 y4 : Int} (h : CallAt w b [y0, y1, y2, y3, y4]) : w.cell? ⟨b, 0, none⟩ = some (.int .i64 y0) ∧ w.cell? ⟨b, 1, none⟩ = some (.int .i64 y1) ∧ w.cell? ⟨b, 2, none⟩ = some (.int .i64 y2) ∧ w.cell? ⟨b, 3, none⟩ = some (.int .i64 y3) ∧ w.cell? ⟨b, 4, none⟩ = some (.int .i64 y4) := ⟨blk_cell h 0, blk_cell h 1, blk_cell h 2, blk_cell h 3, blk_cell h 4⟩
theorem jns_len (sp : UInt8) (M : Nat) : ∀ ls : List (List UInt8), (∀ w ∈ ls, w.length ≤ M) → (jns sp ls).length ≤ ls.length * (M + 1)
  | [], _ => by simp [jns]
  | [w], h => by have := h w (by simp); simp [jns]; omega
  | w :: v :: r, h => by
    have h1 := h w (by simp)
    have h2 := jns_len sp M (v :: r) (fun x hx => h x (by simp [hx]))
    unfold jns
    rw [List.length_append, List.length_cons, List.length_cons, Nat.add_mul]
    omega
theorem wd_len (k : Nat) : (wd k).length ≤ 7 := by
  by_cases h : k < 12
  · have h2 : ∀ k < 12, (wd k).length ≤ 7 := by decide
    exact h2 k h
  · have e : wd k = [] := by unfold wd; rw [List.getD_eq_getElem?_getD, List.getElem?_eq_none (by show 12 ≤ k; omega)]; rfl
    rw [e]; simp
theorem pt_len (k : Nat) : (pt k).length ≤ 2 := by
  by_cases h : k < 12
  · have h2 : ∀ k < 12, (pt k).length ≤ 2 := by decide
    exact h2 k h
  · have e : pt k = [] := by unfold pt; rw [List.getD_eq_getElem?_getD, List.getElem?_eq_none (by show 12 ≤ k; omega)]; rfl
    rw [e]; simp
theorem plainC_len (c : List Int) (ps : List Nat) : (plainC c ps).length = 5 := by
  unfold plainC
  have h : ∀ (ps : List Nat) (q : List Int), q.length = 5 → (ps.foldl (fun q p => q.set (p + 1) (c.getD (p + 1) 0)) q).length = 5 := by
    intro ps
    induction ps with
    | nil => intro q hq; exact hq
    | cons p ps ih => intro q hq; exact ih _ (by rw [List.length_set]; exact hq)
  exact h ps _ rfl
theorem take_next {α : Type} (l : List α) (i : Nat) (h : i < l.length) : l.take (i + 1) = l.take i ++ [l[i]] := by rw [List.take_add_one, List.getElem?_eq_getElem h]; rfl
theorem plainC_next (c : List Int) (ps : List Nat) (i : Nat) (h : i < ps.length) : plainC c (ps.take (i + 1)) = (plainC c (ps.take i)).set (ps[i] + 1) (c.getD (ps[i] + 1) 0) := by
  rw [take_next ps i h]
  unfold plainC
  rw [List.foldl_append]
  rfl
theorem wordsC_next (c : List Int) (ps : List Nat) (i : Nat) (h : i < ps.length) : wordsC c (ps.take (i + 1)) = wordsC c (ps.take i) ++ [numL (c.getD (ps[i] + 1) 0)] := by
  rw [take_next ps i h]
  unfold wordsC
  rw [List.map_append]
  rfl
def callT (c : List Int) : List UInt8 × Int :=
  if c.getD 0 0 < 1 ∨ 12 < c.getD 0 0 then ([], 2)
  else if plainC c (pt (c.getD 0 0 - 1).toNat) = c then (jn (wd (c.getD 0 0 - 1).toNat :: wordsC c (pt (c.getD 0 0 - 1).toNat)), 0) else ([], 2)
theorem jns_join (sp : UInt8) : ∀ l : List (List UInt8), Lib.join l [sp] = jns sp l
  | [] => rfl
  | [w] => Lib.join_one w [sp]
  | w :: v :: r => by
    have := jns_join sp (v :: r)
    rw [Lib.join_cons] at this ⊢
    unfold jns
    rw [← this]
    simp [Lib.joinTail]
theorem index_forms {w : World} {vs : Array Value} (h : FormsV w vs) (k : Nat) (hk : k < 12) : ∃ A, PtsAt w A (pt k) ∧ ∀ w', (Instr.index 88 (.agg vs) (.int .i64 (k : Int))).run Tryd.prog w' = .ok (.agg #[.string (bs (wd k)), .slice A (pt k).length (pt k).length]) w' := by
  obtain ⟨hs, h⟩ := h
  obtain ⟨A, h1, h2, h3⟩ := h k hk
  refine ⟨A, h3, fun w' => ?_⟩
  unfold Instr.index
  have hz : ∀ v, (sizeOf 87).run Tryd.prog v = .ok 2 v := by intro v; go_simp
  have ha : ∀ v, (isAgg 87).run Tryd.prog v = .ok true v := by intro v; go_simp
  have he : vs.extract (k * 2) (k * 2 + 2) = #[.string (bs (wd k)), .slice A (pt k).length (pt k).length] := by
    apply Array.ext'
    rw [Array.toList_extract]
    rw [← Array.getElem?_toList] at h1 h2
    have hl : vs.toList.length = 24 := by simp [hs]
    rw [List.extract_eq_take_drop]
    rw [show k * 2 + 2 - k * 2 = 2 by omega]
    rw [show k * 2 = 2 * k by omega, List.drop_eq_getElem_cons (by omega), List.drop_eq_getElem_cons (by omega)]
    rw [List.getElem?_eq_getElem (by omega)] at h1 h2
    rw [Option.some.inj h1, Option.some.inj h2]
    rfl
  simp only [asIntOf, Sem.run_bind, Sem.run_pure, Result.andThen_ok, run_underlying Tryd.underlying88]
  rw [if_pos (by omega)]
  simp only [part, Sem.run_bind, Sem.run_pure, Result.andThen_ok, hz, ha, Int.toNat_natCast, if_true, he]
theorem callT_ne (c : List Int) (k : Nat) (h : c.getD 0 0 - 1 = (k : Int)) (h1 : 1 ≤ c.getD 0 0) (h2 : c.getD 0 0 ≤ 12) (hn : plainC c (pt k) ≠ c) : callT c = ([], 2) := by
  unfold callT
  rw [if_neg (by omega), h, Int.toNat_natCast, if_neg hn]
theorem callT_eq (c : List Int) (k : Nat) (h : c.getD 0 0 - 1 = (k : Int)) (h1 : 1 ≤ c.getD 0 0) (h2 : c.getD 0 0 ≤ 12) (hn : plainC c (pt k) = c) : callT c = (jn (wd k :: wordsC c (pt k)), 0) := by
  unfold callT
  rw [if_neg (by omega), h, Int.toNat_natCast, if_pos hn]
theorem words_len (c : List Int) (k : Nat) (hc : ∀ x ∈ c, In64 x) : (jn (wd k :: wordsC c (pt k))).length ≤ 63 := by
  have h := jns_len 32 20 (wd k :: wordsC c (pt k)) (fun w hw => by
    rcases List.mem_cons.1 hw with rfl | hw
    · have := wd_len k; omega
    · obtain ⟨p, hp, rfl⟩ := List.mem_map.1 hw
      apply numL_len
      rw [List.getD_eq_getElem?_getD]
      cases e : c[p + 1]? with
      | none => exact ⟨by decide, by decide⟩
      | some x => exact hc x (List.mem_of_getElem? e))
  have h2 := pt_len k
  have h3 : (wordsC c (pt k)).length = (pt k).length := List.length_map _
  rw [List.length_cons, h3] at h
  have : ((pt k).length + 1) * (20 + 1) ≤ 63 := by omega
  exact Nat.le_trans h this
theorem getD_in (c : List Int) (hc : ∀ x ∈ c, In64 x) (i : Nat) : In64 (c.getD i 0) := by
  rw [List.getD_eq_getElem?_getD]
  cases e : c[i]? with
  | none => exact ⟨by decide, by decide⟩
  | some x => exact hc x (List.mem_of_getElem? e)
end Go.Proofs.YtdaagoagfenadaaDoor.X
namespace Go.Proofs.YtdaagoagfenadaaDoor.X
open Go.RowKit Go.Proofs.YtdaagoagfenadaaDoor.YAll Go.Proofs.YtdaagoagfenadaaDoorW.PrintWords Go.Proofs.YtdaagoagfenadaaDoorW.PrintLast Go.Proofs.YtdaagoagfenadaaDoorW.PrintMore
set_option linter.unusedVariables false
set_option linter.unusedSimpArgs false

/-- A row of texts of the call's own. -/
def Ws (w : World) (base : Nat) (v : Value) (ls : List (List UInt8)) : Prop := Kd.R Kd.string 9 w base (fun _ => True) v (ls.map bs)
theorem join_calls (sp : UInt8) (v : Value) (ls : List (List UInt8)) (base : Nat) (w : World) (h : Ws w base v ls) (hne : ls ≠ []) (hc : ls.length ≤ 140737488355328) (hlen : (jns sp ls).length ≤ 140737488355328) :
    Calls Tryd.prog 38 #[v, .string ⟨#[sp]⟩] w fun e w' => e = .returned (.string (bs (jns sp ls))) ∧ Below w.heap.size w w' := by
  have hp : 0 < (ls.map bs).length := by rw [List.length_map]; exact List.length_pos_iff.2 hne
  obtain ⟨g, cap, rfl, hb, hl, cells, hcl⟩ := Kd.R_form h hp
  obtain ⟨hn, hcap, hC⟩ := Kd.R_reads' h
  have e1 : (ls.map bs).map (·.data.toList) = ls := by
    rw [List.map_map]
    conv => rhs; rw [← List.map_id ls]
    apply List.map_congr_left
    intro x _
    simp [bs]
  have hj := Tryd.strings_Join g 0 cap (ls.map bs) ⟨#[sp]⟩ w (fun j x hx => by
    obtain ⟨hA, hB, hD⟩ := hC
    obtain ⟨a, ha, hcell⟩ := hD (by simpa using hp)
    obtain rfl := Option.some.inj ha
    obtain ⟨cs, h1, h2, h3⟩ := hcell j x hx
    have hk : cs = [.string x] := h2
    subst hk
    have := h3 0 _ rfl
    rw [Addr.add_lit, show (0 : Nat) + (j * Kd.string.sz + 0) = 0 + j by rw [show Kd.string.sz = 1 from rfl]; omega] at this
    exact this) hl (by rw [List.length_map]; exact hc) hcap (by rw [e1]; show (Lib.join ls [sp]).length ≤ _; rw [jns_join]; exact hlen)
  rw [e1] at hj
  have e2 : Lib.join ls [sp] = jns sp ls := jns_join sp ls
  have e3 : (⟨(Lib.join ls (ByteArray.data ⟨#[sp]⟩).toList).toArray⟩ : ByteArray) = bs (jns sp ls) := by
    show bs (Lib.join ls [sp]) = _
    rw [e2]
  rw [e3] at hj
  exact hj
theorem ws_new (w : World) (base : Nat) (hb : base ≤ w.heap.size) (l : List UInt8) : Ws (w.alloc (.cells #[.string (bs l)] 9)) base (.slice (some ⟨w.heap.size, 0, none⟩) 1 1) [l] :=
  Kd.R_of_own (h1 := fun _ => rfl) ⟨rfl, Or.inr ⟨w.heap.size, 1, #[.string (bs l)], rfl, hb, blk_new w _, Nat.le_refl _, by decide, rfl, rfl⟩⟩ (fun _ _ => trivial)
theorem CallAt.grown {w w' : World} {b base : Nat} {c : List Int} {v : Value} {ls : List (List UInt8)} (h : CallAt w b c) (hR : Ws w base v ls) (hg : w.grownBy w' v.ownBlock) : CallAt w' b c := blk_grown h hg (Kd.R_ne hR h (by decide))
theorem PtsAt.grownW {w w' : World} {base : Nat} {A : Option Addr} {ps : List Nat} {v : Value} {ls : List (List UInt8)} (h : PtsAt w A ps) (hR : Ws w base v ls) (hg : w.grownBy w' v.ownBlock) : PtsAt w' A ps := h.grown hg (Kd.R_typed hR)
end Go.Proofs.YtdaagoagfenadaaDoor.X
namespace Go.Proofs.YtdaagoagfenadaaDoor.X
open Go.RowKit Go.Proofs.YtdaagoagfenadaaDoor.YAll Go.Proofs.YtdaagoagfenadaaDoorW.PrintWords Go.Proofs.YtdaagoagfenadaaDoorW.PrintLast Go.Proofs.YtdaagoagfenadaaDoorW.PrintMore
set_option linter.unusedVariables false
set_option linter.unusedSimpArgs false

def CallPost (w : World) (c : List Int) (e : Ending) (w' : World) : Prop := e = .returned (.tuple #[.string (bs (callT c).1), .int .i64 (callT c).2]) ∧ Below w.heap.size w w'
theorem blk2 {w : World} {g : Nat} {t : TypeId} {x y : Value} (h : w.heap[g]? = some (.cells #[x, y] t)) : w.cell? ⟨g, 0, none⟩ = some x ∧ w.cell? ⟨g, 1, none⟩ = some y ∧ ∀ i, w.frozen? ⟨g, i, none⟩ = false := ⟨blk_cell h 0, blk_cell h 1, fun i => blk_frozen h i⟩
theorem set2_blk {w : World} {g : Nat} {t : TypeId} {x y : Value} (h : w.heap[g]? = some (.cells #[x, y] t)) (x' y' : Value) : ((w.setCell ⟨g, 0, none⟩ x').setCell ⟨g, 1, none⟩ y').heap[g]? = some (.cells #[x', y'] t) := blk_set (blk_set h 0 x') 1 y'
theorem call_low (kd a s al v : Int) (w : World) (h : kd < 1) : Calls Tryd.prog 24 #[.agg #[.int .i64 kd, .int .i64 a, .int .i64 s, .int .i64 al, .int .i64 v]] w (CallPost w [kd, a, s, al, v]) := by
  have b0 : decide (kd < 1) = true := decide_eq_true h
  go_enter Tryd.func24, Tryd.ntmps24
  go_wp2
  go_ret2
  refine ⟨?_, ballo (Below.refl _ _) _⟩
  have e : callT [kd, a, s, al, v] = ([], 2) := by exact if_pos (Or.inl h)
  rw [e]; rfl
theorem call_high (kd a s al v : Int) (w : World) (h : 12 < kd) : Calls Tryd.prog 24 #[.agg #[.int .i64 kd, .int .i64 a, .int .i64 s, .int .i64 al, .int .i64 v]] w (CallPost w [kd, a, s, al, v]) := by
  have b0 : decide (kd < 1) = false := decide_eq_false (by omega)
  have b1 : decide (12 < kd) = true := decide_eq_true h
  go_enter Tryd.func24, Tryd.ntmps24
  go_wp2
  go_ret2
  refine ⟨?_, ballo (Below.refl _ _) _⟩
  have e : callT [kd, a, s, al, v] = ([], 2) := by exact if_pos (Or.inr h)
  rw [e]; rfl
set_option maxRecDepth 100000 in
set_option maxHeartbeats 2000000 in
theorem call_mid (kd a s al v : Int) (w : World) (h1 : 1 ≤ kd) (h2 : kd ≤ 12) (hc : ∀ x ∈ [kd, a, s, al, v], In64 x) : Calls Tryd.prog 24 #[.agg #[.int .i64 kd, .int .i64 a, .int .i64 s, .int .i64 al, .int .i64 v]] w (CallPost w [kd, a, s, al, v]) := by
  have b0 : decide (kd < 1) = false := decide_eq_false (by omega)
  have b1 : decide (12 < kd) = false := decide_eq_false (by omega)
  obtain ⟨k, hk⟩ : ∃ k : Nat, kd - 1 = (k : Int) := ⟨(kd - 1).toNat, by omega⟩
  have hk12 : k < 12 := by omega
  have ew : IntKind.i64.wrap (kd - 1) = (k : Int) := by rw [hk]; exact IntWalk.i64_in _ (by omega)
  have HC := Aside0.mk hc
  have HK := Aside0.mk hk
  clear hc hk
  go_enter Tryd.func24, Tryd.ntmps24
  go_upto_region 3 with fail
  generalize hw1 : w.alloc (Obj.cells #[.int .i64 kd, .int .i64 a, .int .i64 s, .int .i64 al, .int .i64 v] 23) = w1
  have HQ1 : Aside0 (CallAt w1 w.heap.size [kd, a, s, al, v]) := ⟨by rw [← hw1]; exact blk_new w _⟩
  have HB1 : Aside0 (Below w.heap.size w w1) := ⟨by rw [← hw1]; exact ballo (Below.refl _ _) _⟩
  have HL1 : Aside0 (w1.heap.size = w.heap.size + 1) := ⟨by rw [← hw1]; exact size_al _ _⟩
  clear hw1
  go_cut [4] (fun s4 wx => ∃ (g : Nat) (A : Option Addr), s4 = .pointer (some ⟨g, 0, none⟩) ∧ Aside0 (wx.heap[g]? = some (.cells #[.string (bs (wd k)), .slice A (pt k).length (pt k).length] 87)) ∧ Aside0 (PtsAt wx A (pt k)) ∧ Aside0 (w1.heap.size ≤ g) ∧ Aside0 (Below w1.heap.size w1 wx))
  case first =>
    have KS : Aside0 (∀ w', Below w1.heap.size w1 w' → w'.cell? ⟨w.heap.size, 0, none⟩ = some (.int .i64 kd)) := ⟨fun w' hb => pw_cell_below hb (HQ1.out.cell 0 (Nat.succ_pos _))⟩
    have HBW := Aside0.mk (below_drew (Below.refl w1.heap.size w1))
    have HBN := Aside0.mk (below_drew (ballo (Below.refl w1.heap.size w1) (Obj.cells #[.string ⟨#[]⟩, .slice none 0 0] 87)))
    have HQN := Aside0.mk (blk_drew (blk_new w1 (Obj.cells #[.string ⟨#[]⟩, .slice none 0 0] 87)))
    go_region_held3 (fun w' => w'.cell? ⟨w.heap.size, 0, none⟩ = some (.int .i64 kd))
      (first | (with_reducible exact KS.out _ HBW.out) | (with_reducible exact KS.out _ HBN.out) | (with_reducible exact KS.out _ hX) | (with_reducible exact KS.out _ (ballo hX _)) | (with_reducible exact KS.out _ ((hX.setCell (Nat.le_refl _) _).setCell (Nat.le_refl _) _)) | (with_reducible exact KS.out _ (hX.setCell (Nat.le_refl _) _)) | exact KS.out _ hX)
      (first
        | (go_at_call 39; refine (forms_calls _).mono ?_; rintro e w2 ⟨vs, rfl, hF, hB2⟩; have hX : Below w1.heap.size w1 w2 := bthen HBW.out hB2; obtain ⟨A, hP, hix⟩ := index_forms hF k hk12; obtain ⟨e0, e1, ef⟩ := blk2 (blk_new w2 (Obj.cells #[.string ⟨#[]⟩, .slice none 0 0] 87)))
        | (go_at_call 39; refine (forms_calls _).mono ?_; rintro e w2 ⟨vs, rfl, hF, hB2⟩; have hX : Below w1.heap.size w1 w2 := bthen HBN.out hB2; obtain ⟨A, hP, hix⟩ := index_forms hF k hk12; have qn2 := blk_below HQN.out hB2; obtain ⟨e0, e1, ef⟩ := blk2 qn2))
    all_goals
      go_wp2_with fail
      go_meet
      first
        | exact ⟨w2.heap.size, A, rfl, ⟨blk_new w2 _⟩, ⟨hP.below (ballo (Below.refl _ _) _)⟩, ⟨hX.size⟩, ⟨ballo hX _⟩⟩
        | exact ⟨w1.heap.size, A, rfl, ⟨set2_blk qn2 _ _⟩, ⟨PtsAt.set (hP.set qn2 (by decide) 0 _) (blk_set qn2 0 _) (by decide) 1 _⟩, ⟨Nat.le_refl _⟩, ⟨(hX.setCell (Nat.le_refl _) _).setCell (Nat.le_refl _) _⟩⟩
  case rest =>
    obtain ⟨wx, rfl⟩ : ∃ wx : World, wx = wc := ⟨_, rfl⟩
    obtain ⟨g, A, rfl, HG, HP, Hg, HX⟩ := hcut
    obtain ⟨g0, g1, gf⟩ := blk2 HG.out
    have c1 := (HQ1.out.below HX.out).cell 0 (Nat.succ_pos _)
    simp only [List.getD_cons_zero] at c1
    have HZ := Aside0.mk (And.intro h1 h2)
    clear h1 h2 ew
    have QX := HQ1.out.below HX.out
    have c2 := (QX.alloc (Obj.cells #[.string (bs (wd k))] 9)).cell 0 (Nat.succ_pos _)
    simp only [List.getD_cons_zero] at c2
    have g2 := (blk2 (blk_alloc (blk_alloc HG.out (Obj.cells #[.string (bs (wd k))] 9)) (Obj.cells #[.int .i64 kd, .int .i64 0, .int .i64 0, .int .i64 0, .int .i64 0] 23))).2.1
    go_wp2_with fail
    have S1 := ws_new wx w.heap.size (by have h1 := HL1.out; have h2 := HX.out.size; omega) (wd k)
    have P0 := (blk_newq (wx.alloc (Obj.cells #[.string (bs (wd k))] 9)) (Obj.cells #[.int .i64 kd, .int .i64 0, .int .i64 0, .int .i64 0, .int .i64 0] 23) (q := wx.heap.size + 1) (size_al _ _).symm)
    have S2 := Kd.R_alloc S1 (Obj.cells #[.int .i64 kd, .int .i64 0, .int .i64 0, .int .i64 0, .int .i64 0] 23)
    have B2 := ballo (ballo (bthen HB1.out HX.out) (Obj.cells #[.string (bs (wd k))] 9)) (Obj.cells #[.int .i64 kd, .int .i64 0, .int .i64 0, .int .i64 0, .int .i64 0] 23)
    have P2 := (HP.out.below (ballo (ballo (Below.refl _ _) (Obj.cells #[.string (bs (wd k))] 9)) (Obj.cells #[.int .i64 kd, .int .i64 0, .int .i64 0, .int .i64 0, .int .i64 0] 23)))
    have Q2 := ((QX.alloc (Obj.cells #[.string (bs (wd k))] 9)).alloc (Obj.cells #[.int .i64 kd, .int .i64 0, .int .i64 0, .int .i64 0, .int .i64 0] 23))
    generalize (wx.alloc (Obj.cells #[.string (bs (wd k))] 9)).alloc (Obj.cells #[.int .i64 kd, .int .i64 0, .int .i64 0, .int .i64 0, .int .i64 0] 23) = w6 at *
    have hq6 : w.heap.size < wx.heap.size + 1 := by have h1 := HL1.out; have h2 := HX.out.size; omega
    generalize wx.heap.size + 1 = q6 at *
    have L1 : Aside0 (Ws w6 w.heap.size (.slice (some ⟨wx.heap.size, 0, none⟩) 1 1) [wd k]) := ⟨S2⟩
    have L2 : Aside0 (CallAt w6 q6 [kd, 0, 0, 0, 0]) := ⟨P0⟩
    have L3 := Aside0.mk Q2
    have L4 := Aside0.mk P2
    have L5 := Aside0.mk B2
    clear S1 S2 P0 B2 P2 Q2 QX c2 g2 g0 g1 gf c1 HG HP Hg HX
    have HQN : Aside0 (w.heap.size < q6) := ⟨hq6⟩
    clear hq6 HQ1 HB1 HL1
    have hn0 : (0 : Int) ≤ ((pt k).length : Int) := by omega
    obtain ⟨c, hcc⟩ : ∃ c, [kd, a, s, al, v] = c := ⟨_, rfl⟩
    rw [hcc] at HC L3
    have hk0 : c.getD 0 0 = kd := by rw [← hcc]; rfl
    have hc5 : c.length = 5 := by rw [← hcc]; rfl
    have hpl : plainC c [] = [kd, 0, 0, 0, 0] := by rw [← hk0]; rfl
    rw [← hpl] at L2
    have L6 := Aside0.mk (And.intro hcc hc5)
    clear hk0 hc5 hpl hcc
    go_loopg [31, 5] (pt k).length (fun kq v31 v5 w' => ∃ (i : Int), v31 = .int .i64 i ∧ 0 ≤ i ∧ i + (kq : Int) = ((pt k).length : Int) ∧ Aside0 (Ws w' w.heap.size v5 (wd k :: wordsC c ((pt k).take i.toNat))) ∧ Aside0 (CallAt w' w.heap.size c) ∧ Aside0 (CallAt w' q6 (plainC c ((pt k).take i.toNat))) ∧ Aside0 (PtsAt w' A (pt k)) ∧ Aside0 (Below w.heap.size w w'))
    case atStart => exact ⟨0, rfl, Int.le_refl _, by omega, L1, L3, L2, L4, L5⟩
    case round =>
      obtain ⟨i, rfl, hi0, hi, HW, HA, HQ, HP, HB⟩ := hrel
      clear L1 L2 L3 L4 L5
      cases gk with
      | zero =>
        have hlt : decide (i < ((pt k).length : Int)) = false := decide_eq_false (by omega)
        have et : (pt k).take i.toNat = pt k := List.take_of_length_le (by omega)
        rw [et] at HW HQ
        obtain ⟨y0, y1, y2, y3, y4, hy⟩ := list5 _ (plainC_len c (pt k))
        have HQ2 := HQ.out
        rw [hy] at HQ2
        have HA2 := HA.out
        rw [← L6.out.1] at HA2
        obtain ⟨q0, q1, q2, q3, q4⟩ := HQ2.five
        obtain ⟨a0, a1, a2, a3, a4⟩ := HA2.five
        have HY := Aside0.mk hy
        clear hy HQ2 HA2
        go_wp2_with (go_at_call 38; go_loud (refine (join_calls 32 u5 (wd k :: wordsC c (pt k)) _ _ HW.out (by simp) (by have h2 := pt_len k; have h3 : (wordsC c (pt k)).length = (pt k).length := List.length_map _; rw [List.length_cons, h3]; omega) (Nat.le_trans (words_len c k HC.out) (by decide))).mono ?_; rintro e w2 ⟨rfl, hB2⟩))
        all_goals
          go_ret2
          have hk0 : c.getD 0 0 = kd := by rw [← L6.out.1]; rfl
          rw [L6.out.1]
          first
            | refine ⟨?_, HB.out⟩
              rw [callT_ne c k (by rw [hk0]; exact HK.out) (by rw [hk0]; exact HZ.out.1) (by rw [hk0]; exact HZ.out.2) (fun e => by
                have e2 := HY.out.symm.trans (e.trans L6.out.1.symm)
                simp only [List.cons.injEq, and_true] at e2
                obtain ⟨e0, e1, e2, e3, e4⟩ := e2
                contradiction)]
              rfl
            | refine ⟨?_, bthen HB.out hB2⟩
              rw [callT_eq c k (by rw [hk0]; exact HK.out) (by rw [hk0]; exact HZ.out.1) (by rw [hk0]; exact HZ.out.2) (by rw [HY.out, ← L6.out.1]; simp [*])]
              rfl
      | succ gk =>
        have hlt : decide (i < ((pt k).length : Int)) = true := decide_eq_true (by omega)
        have hin : i.toNat < (pt k).length := by omega
        obtain ⟨b, rfl, hb⟩ := HP.out (by intro e; rw [e] at hin; simp at hin)
        obtain ⟨p, hp⟩ : ∃ p, (pt k)[i.toNat] = p := ⟨_, rfl⟩
        have hp4 : p < 4 := by rw [← hp]; exact pt_lt k _ (List.getElem_mem _)
        have cb : wr.cell? ⟨b, i.toNat, none⟩ = some (.int .i64 (p : Int)) := by rw [blk_cell hb]; simp [hin, hp]
        obtain ⟨x, hx⟩ : ∃ x, c.getD (p + 1) 0 = x := ⟨_, rfl⟩
        have hxI : In64 x := by rw [← hx]; exact getD_in c HC.out _
        have ca := HA.out.cell (p + 1) (by rw [L6.out.2]; omega)
        rw [hx] at ca
        have cq := HQ.out.cell (p + 1) (by rw [plainC_len]; omega)
        have cf := HQ.out.frozen (p + 1)
        have ca2 := (HA.out.far (p + 1) (.int .i64 x) (Nat.ne_of_lt HQN.out)).cell (p + 1) (by rw [L6.out.2]; omega)
        rw [hx] at ca2
        have HPB := Aside0.mk hb
        have HXX := Aside0.mk (And.intro hx (And.intro hxI (And.intro hp hin)))
        clear hx hb hxI hp
        go_wp2_with (first
          | (go_at_call 40; refine (of_calls p hp4 _ _).mono ?_; rintro e w1 ⟨rfl, rfl⟩)
          | (go_at_call 22; refine (num_calls x _ HXX.out.2.1).mono ?_; rintro e w1 ⟨rfl, hB1⟩; have HB1 := Aside0.mk hB1; clear hB1)
          | ((with_reducible refine gate_builtin (b := .append) (xs := #[.tmp 42, .tmp 48]) rfl ?_); at_builtin; refine Kd.R_append Kd.string (w0 := w) w.heap.size rfl (.tmp 42) (.tmp 48) 64 9 (.string ⟨#[]⟩) 16 rfl Tryd.underlying64 info9 rfl (by decide) (by omega) u5 _ (bs (numL x)) [.string (bs (numL x))] (fun _ => True) (fun _ => False) rfl rfl ?aP (fun _ hk => hk.elim) ?aF (Kd.R_below (Kd.R_set HW.out HQ.out (by decide) (p + 1) (.int .i64 x)) HB1.out) ?aB ?aS ?aL ?_; (case aP => exact rfl); (case aF => exact (fun _ _ => trivial)); (case aB => exact bthen (HB.out.setCell (Nat.le_of_lt HQN.out) _) HB1.out); (case aS => exact (bthen (HB.out.setCell (Nat.le_of_lt HQN.out) _) HB1.out).size); (case aL => have h2 := pt_len k; have h3 := HXX.out.2.2.2; simp only [List.length_map, List.length_cons, wordsC, List.length_take]; omega); intro v9 w9 ho hb9 hg9 hat9; have HO9 := Aside0.mk ho; have HB9 := Aside0.mk hb9; have HG9 := Aside0.mk hg9; clear ho hb9 hg9 hat9))
        go_roundg gk
        case measure => omega
        case rel =>
          obtain ⟨hx, hxI, hp, hin2⟩ := HXX.out
          have e1 : (i + 1).toNat = i.toNat + 1 := by omega
          have ew := wordsC_next c (pt k) i.toNat hin
          have ep := plainC_next c (pt k) i.toNat hin
          rw [hp, hx] at ew ep
          have hR := Kd.R_below (Kd.R_set HW.out HQ.out (by decide) (p + 1) (.int .i64 x)) HB1.out
          have hA9 := CallAt.grown ((HA.out.far (p + 1) (.int .i64 x) (Nat.ne_of_lt HQN.out)).below HB1.out) hR HG9.out
          have hQ9 := CallAt.grown ((HQ.out.set (p + 1) x).below HB1.out) hR HG9.out
          have hP9 := PtsAt.grownW ((HP.out.set HQ.out (by decide) (p + 1) (.int .i64 x)).below HB1.out) hR HG9.out
          refine ⟨i + 1, by rw [w64 (by omega) (by have := pt_len k; omega)], by omega, by omega, ⟨?_⟩, ⟨hA9⟩, ⟨?_⟩, ⟨hP9⟩, HB9⟩
          · rw [e1, ew]
            have := HO9.out
            rw [show List.map bs (wd k :: wordsC c (List.take i.toNat (pt k))) ++ [bs (numL x)] = List.map bs (wd k :: (wordsC c (List.take i.toNat (pt k)) ++ [numL x])) by simp] at this
            exact this
          · rw [e1, ep]
            exact hQ9
theorem call_calls (kd a s al v : Int) (w : World) (hc : ∀ x ∈ [kd, a, s, al, v], In64 x) : Calls Tryd.prog 24 #[.agg #[.int .i64 kd, .int .i64 a, .int .i64 s, .int .i64 al, .int .i64 v]] w (CallPost w [kd, a, s, al, v]) := by
  by_cases h1 : kd < 1
  · exact call_low kd a s al v w h1
  · by_cases h2 : 12 < kd
    · exact call_high kd a s al v w h2
    · exact call_mid kd a s al v w (by omega) (by omega) hc
end Go.Proofs.YtdaagoagfenadaaDoor.X
namespace Go.Proofs.YtdaagoagfenadaaDoor.X
open Go.RowKit Go.Proofs.YtdaagoagfenadaaDoor.YAll Go.Proofs.YtdaagoagfenadaaDoorW.PrintWords Go.Proofs.YtdaagoagfenadaaDoorW.PrintLast Go.Proofs.YtdaagoagfenadaaDoorW.PrintMore
set_option linter.unusedVariables false
set_option linter.unusedSimpArgs false

/-- A row of texts. -/
def TxtAt (w : World) (B : Option Addr) (ws : List (List UInt8)) : Prop := ws ≠ [] → ∃ b o, B = some ⟨b, o, none⟩ ∧ b < w.heap.size ∧ ∀ j x, ws[j]? = some x → w.cell? ⟨b, o + j, none⟩ = some (.string (bs x))
theorem TxtAt.below {w w' : World} {B : Option Addr} {ws : List (List UInt8)} (h : TxtAt w B ws) (hb : Below w.heap.size w w') : TxtAt w' B ws := fun hn => by
  obtain ⟨b, o, rfl, hl, hc⟩ := h hn
  exact ⟨b, o, rfl, Nat.lt_of_lt_of_le hl hb.size, fun j x hj => pw_cell_below hb (hc j x hj)⟩
theorem CallAt.set5 {w : World} {g : Nat} {c : List Int} (h : CallAt w g c) (hl : c.length = 5) (y0 y1 y2 y3 y4 : Int) : CallAt (((((w.setCell ⟨g, 0, none⟩ (.int .i64 y0)).setCell ⟨g, 1, none⟩ (.int .i64 y1)).setCell ⟨g, 2, none⟩ (.int .i64 y2)).setCell ⟨g, 3, none⟩ (.int .i64 y3)).setCell ⟨g, 4, none⟩ (.int .i64 y4)) g [y0, y1, y2, y3, y4] := by
  obtain ⟨a, b, d, e, f, rfl⟩ := list5 _ hl
  exact ((((h.set 0 y0).set 1 y1).set 2 y2).set 3 y3).set 4 y4
theorem below5 {w0 w : World} {g : Nat} (h : Below w0.heap.size w0 w) (hg : w0.heap.size ≤ g) (y0 y1 y2 y3 y4 : Value) : Below w0.heap.size w0 (((((w.setCell ⟨g, 0, none⟩ y0).setCell ⟨g, 1, none⟩ y1).setCell ⟨g, 2, none⟩ y2).setCell ⟨g, 3, none⟩ y3).setCell ⟨g, 4, none⟩ y4) := ((((h.setCell hg _).setCell hg _).setCell hg _).setCell hg _).setCell hg _
def zero5 : List Int := [0, 0, 0, 0, 0]
def rdF : List Nat → List (List UInt8) → List Int → List Int × Bool
  | [], _, q => (q, true)
  | _ :: _, [], _ => (zero5, false)
  | p :: ps, w :: ws, q => if (rdV w).2 then rdF ps ws (q.set (p + 1) (rdV w).1) else (zero5, false)
def readF (kd : Int) (ps : List Nat) (ws : List (List UInt8)) : List Int × Bool := if ws.length = ps.length then rdF ps ws [kd, 0, 0, 0, 0] else (zero5, false)
theorem rdF_next (ps : List Nat) (ws : List (List UInt8)) (q : List Int) (i : Nat) (h : i < ps.length) (h2 : i < ws.length) : rdF (ps.drop i) (ws.drop i) q = if (rdV ws[i]).2 then rdF (ps.drop (i + 1)) (ws.drop (i + 1)) (q.set (ps[i] + 1) (rdV ws[i]).1) else (zero5, false) := by
  rw [List.drop_eq_getElem_cons h, List.drop_eq_getElem_cons h2]
  conv => lhs; unfold rdF
def FormPost (w : World) (r : List Int × Bool) (e : Ending) (w' : World) : Prop := e = .returned (.tuple #[.agg (r.1.map (Value.int .i64)).toArray, .bool r.2]) ∧ Below w.heap.size w w'
theorem form_res {fn : Func} (tmps : Array Value) (w : World) (g : Nat) (q : List Int) (h : fn.results = #[.cell 6 23, .tmp 7]) (hp : tmps.getD 6 undef = .pointer (some ⟨g, 0, none⟩)) (hq : CallAt w g q) (hl : q.length = 5) : (results fn tmps).run Tryd.prog w = .ok (.tuple #[.agg (q.map (Value.int .i64)).toArray, tmps.getD 7 undef]) w := by
  have hi : (Tryd.prog.info? 23).map (·.size) = some 5 := by kernel_rfl
  obtain ⟨fl, hu⟩ : ∃ fl, Tryd.prog.underlying 23 = some (.struct fl) := ⟨_, Tryd.underlying23⟩
  exact results_list (rs := [.cell 6 23, .tmp 7]) h (by simp) (.cell g _ _ (0, 0) _ hp hq hu rfl (by rw [hi]; simp [hl]) (.tmp .nil))
set_option maxRecDepth 100000 in
set_option maxHeartbeats 2000000 in
theorem form_ne (s : ByteArray) (A : Option Addr) (ps : List Nat) (kd : Int) (B : Option Addr) (ws : List (List UInt8)) (m : Nat) (w : World) (hl2 : ws.length ≤ 3000000) (hp2 : ps.length ≤ 2) (hne : ws.length ≠ ps.length) :
    Calls Tryd.prog 49 #[.agg #[.string s, .slice A ps.length ps.length], .int .i64 kd, .slice B ws.length m] w (FormPost w (zero5, false)) := by
  have b0 : ((ws.length : Int) == (ps.length : Int)) = false := by simp; omega
  have b1 : ((ws.length : Int) != (ps.length : Int)) = true := by simp; omega
  have b2 : ¬ ((ws.length : Int) = (ps.length : Int)) := by omega
  have HX := Aside0.mk (And.intro hl2 (And.intro hp2 hne))
  clear hl2 hp2 hne
  go_enter Tryd.func49, Tryd.ntmps49
  go_wp2_with fail
  (try simp only [Exit.inBlock, Exit.then])
  refine bodyPost_ret (form_res _ _ (w.heap.size + 1) zero5 rfl rfl (blk_alloc (blk_newq _ _ (size_al _ _).symm) _) rfl) rfl ?_
  exact ⟨rfl, ballo (ballo (ballo (Below.refl _ _) _) _) _⟩
set_option maxRecDepth 100000 in
set_option maxHeartbeats 2000000 in
theorem form_eq (s : ByteArray) (A : Option Addr) (ps : List Nat) (kd : Int) (B : Option Addr) (ws : List (List UInt8)) (m : Nat) (w : World) (hP : PtsAt w A ps) (hp4 : ∀ p ∈ ps, p < 4) (hW : TxtAt w B ws) (hp2 : ps.length ≤ 2) (hne : ws.length = ps.length) :
    Calls Tryd.prog 49 #[.agg #[.string s, .slice A ps.length ps.length], .int .i64 kd, .slice B ws.length m] w (FormPost w (rdF ps ws [kd, 0, 0, 0, 0])) := by
  rw [hne]
  have HX := Aside0.mk (And.intro hP (And.intro hp4 (And.intro hW (And.intro hp2 hne))))
  clear hP hp4 hW hp2 hne
  go_enter Tryd.func49, Tryd.ntmps49
  go_wp2_with fail
  have Q6 : CallAt ((((w.alloc (Obj.cells #[.string s, .slice A ps.length ps.length] 87)).alloc (Obj.cells #[.int .i64 0, .int .i64 0, .int .i64 0, .int .i64 0, .int .i64 0] 23)).alloc (Obj.cells #[.int .i64 kd, .int .i64 0, .int .i64 0, .int .i64 0, .int .i64 0] 23))) (w.heap.size + 1) zero5 := blk_alloc (blk_newq _ _ (size_al _ _).symm) _
  have Q8 : CallAt ((((w.alloc (Obj.cells #[.string s, .slice A ps.length ps.length] 87)).alloc (Obj.cells #[.int .i64 0, .int .i64 0, .int .i64 0, .int .i64 0, .int .i64 0] 23)).alloc (Obj.cells #[.int .i64 kd, .int .i64 0, .int .i64 0, .int .i64 0, .int .i64 0] 23))) (w.heap.size + 1 + 1) [kd, 0, 0, 0, 0] := blk_newq _ _ (by rw [size_al, size_al])
  have B0 := ballo (ballo (ballo (Below.refl w.heap.size w) (Obj.cells #[.string s, .slice A ps.length ps.length] 87)) (Obj.cells #[.int .i64 0, .int .i64 0, .int .i64 0, .int .i64 0, .int .i64 0] 23)) (Obj.cells #[.int .i64 kd, .int .i64 0, .int .i64 0, .int .i64 0, .int .i64 0] 23)
  generalize (((w.alloc (Obj.cells #[.string s, .slice A ps.length ps.length] 87)).alloc (Obj.cells #[.int .i64 0, .int .i64 0, .int .i64 0, .int .i64 0, .int .i64 0] 23)).alloc (Obj.cells #[.int .i64 kd, .int .i64 0, .int .i64 0, .int .i64 0, .int .i64 0] 23)) = w6 at *
  have hq : w.heap.size ≤ w.heap.size + 1 ∧ w.heap.size ≤ w.heap.size + 1 + 1 ∧ w.heap.size + 1 ≠ w.heap.size + 1 + 1 := by omega
  generalize hq8 : w.heap.size + 1 + 1 = q8 at *
  generalize hq6 : w.heap.size + 1 = q6 at *
  have L1 := Aside0.mk Q6
  have L2 := Aside0.mk Q8
  have L3 := Aside0.mk B0
  have HQ0 := Aside0.mk hq
  clear Q6 Q8 B0 hq hq6 hq8
  have hn0 : (0 : Int) ≤ (ps.length : Int) := by omega
  go_loopg [25] ps.length (fun kq v25 w' => ∃ (i : Int) (q : List Int), v25 = .int .i64 i ∧ 0 ≤ i ∧ i + (kq : Int) = (ps.length : Int) ∧ Aside0 (CallAt w' q6 zero5) ∧ Aside0 (CallAt w' q8 q) ∧ Aside0 (q.length = 5) ∧ Aside0 (rdF (ps.drop i.toNat) (ws.drop i.toNat) q = rdF ps ws [kd, 0, 0, 0, 0]) ∧ Aside0 (Below w.heap.size w w'))
  case atStart => exact ⟨0, [kd, 0, 0, 0, 0], rfl, Int.le_refl _, by omega, L1, L2, ⟨rfl⟩, ⟨rfl⟩, L3⟩
  case round =>
    obtain ⟨i, q, rfl, hi0, hi, H6, H8, H5, HR, HB⟩ := hrel
    clear L1 L2 L3
    cases gk with
    | zero =>
      have hlt : decide (i < (ps.length : Int)) = false := decide_eq_false (by omega)
      obtain ⟨y0, y1, y2, y3, y4, rfl⟩ := list5 _ H5.out
      obtain ⟨q0, q1, q2, q3, q4⟩ := H8.out.five
      obtain ⟨z0, z1, z2, z3, z4⟩ := CallAt.five H6.out
      have zf := H6.out.frozen
      go_wp2_with fail
      (try simp only [Exit.inBlock, Exit.then])
      refine bodyPost_ret (form_res _ _ q6 [y0, y1, y2, y3, y4] rfl rfl (H6.out.set5 rfl y0 y1 y2 y3 y4) rfl) rfl ?_
      have e1 : ps.drop i.toNat = [] := List.drop_eq_nil_of_le (by omega)
      have hr := HR.out
      rw [e1] at hr
      rw [← hr]
      exact ⟨rfl, below5 HB.out HQ0.out.1 _ _ _ _ _⟩
    | succ gk =>
      have hlt : decide (i < (ps.length : Int)) = true := decide_eq_true (by omega)
      obtain ⟨hP, hp4, hW, hp2, hne⟩ := HX.out
      have hin : i.toNat < ps.length := by omega
      have hin2 : i.toNat < ws.length := by omega
      obtain ⟨b, rfl, hb⟩ := hP (by intro e; rw [e] at hin; simp at hin)
      obtain ⟨b2, o2, rfl, hb2, hw2⟩ := hW (by intro e; rw [e] at hin2; simp at hin2)
      obtain ⟨p, hp⟩ : ∃ p, ps[i.toNat] = p := ⟨_, rfl⟩
      obtain ⟨t, ht⟩ : ∃ t, ws[i.toNat] = t := ⟨_, rfl⟩
      have hpp : p < 4 := by rw [← hp]; exact hp4 _ (List.getElem_mem _)
      have cb : wr.cell? ⟨b, i.toNat, none⟩ = some (.int .i64 (p : Int)) := pw_cell_below HB.out (by rw [blk_cell hb]; simp [hin, hp])
      have cw : wr.cell? ⟨b2, o2 + i.toNat, none⟩ = some (.string (bs t)) := pw_cell_below HB.out (hw2 _ _ (by rw [List.getElem?_eq_getElem hin2, ht]))
      have HN := Aside0.mk (rdF_next ps ws q i.toNat hin hin2)
      rw [hp, ht] at HN
      have HNE := Aside0.mk hne
      have HP2 := Aside0.mk hp2
      clear hP hp4 hW hp2 hne hb hw2 hp ht HX
      cases hok : (rdV t).2 with
      | false =>
        obtain ⟨z0, z1, z2, z3, z4⟩ := CallAt.five H6.out
        have zf := H6.out.frozen
        go_wp2_with (go_at_call 28; go_loud (refine (read_calls t _).mono ?_; rintro e w2 ⟨rfl, hB2⟩; simp only [hok]; have Z := CallAt.five (H6.out.below hB2); obtain ⟨z0', z1', z2', z3', z4'⟩ := Z; have zf2 := (H6.out.below hB2).frozen))
        (try simp only [Exit.inBlock, Exit.then])
        refine bodyPost_ret (form_res _ _ q6 zero5 rfl rfl ((H6.out.below hB2).set5 rfl 0 0 0 0 0) rfl) rfl ?_
        have hr := HR.out
        rw [HN.out, hok, if_neg (by decide)] at hr
        rw [← hr]
        exact ⟨rfl, below5 (bthen HB.out hB2) HQ0.out.1 _ _ _ _ _⟩
      | true =>
        go_wp2_with (first
          | (go_at_call 28; go_loud (refine (read_calls t _).mono ?_; rintro e w2 ⟨rfl, hB2⟩; simp only [hok]; have h8 := (H8.out.below hB2).cell (p + 1) (by rw [H5.out]; omega); have f8 := (H8.out.below hB2).frozen (p + 1)))
          | (go_at_call 40; refine (of_calls p hpp _ _).mono ?_; rintro e w1 ⟨rfl, rfl⟩))
        go_roundg gk
        case measure => omega
        case rel =>
          have e1 : (i + 1).toNat = i.toNat + 1 := by omega
          have hr := HR.out
          rw [HN.out, hok, if_pos rfl] at hr
          have hp2 := HP2.out
          exact ⟨i + 1, q.set (p + 1) (rdV t).1, by rw [w64 (by omega) (by omega)], by omega, by omega, ⟨(H6.out.below hB2).far (p + 1) _ HQ0.out.2.2⟩, ⟨(H8.out.below hB2).set (p + 1) _⟩, ⟨by rw [List.length_set]; exact H5.out⟩, ⟨by rw [e1]; exact hr⟩, ⟨(bthen HB.out hB2).setCell HQ0.out.2.1 _⟩⟩
theorem form_calls (s : ByteArray) (A : Option Addr) (ps : List Nat) (kd : Int) (B : Option Addr) (ws : List (List UInt8)) (m : Nat) (w : World) (hP : PtsAt w A ps) (hp4 : ∀ p ∈ ps, p < 4) (hW : TxtAt w B ws) (hp2 : ps.length ≤ 2) (hl2 : ws.length ≤ 3000000) :
    Calls Tryd.prog 49 #[.agg #[.string s, .slice A ps.length ps.length], .int .i64 kd, .slice B ws.length m] w (FormPost w (readF kd ps ws)) := by
  unfold readF
  by_cases h : ws.length = ps.length
  · rw [if_pos h]
    exact form_eq s A ps kd B ws m w hP hp4 hW hp2 h
  · rw [if_neg h]
    exact form_ne s A ps kd B ws m w hl2 hp2 h
end Go.Proofs.YtdaagoagfenadaaDoor.X
namespace Go.Proofs.YtdaagoagfenadaaDoor.X
open Go.RowKit Go.Proofs.YtdaagoagfenadaaDoor.YAll Go.Proofs.YtdaagoagfenadaaDoorW.PrintWords Go.Proofs.YtdaagoagfenadaaDoorW.PrintLast Go.Proofs.YtdaagoagfenadaaDoorW.PrintMore
set_option linter.unusedVariables false
set_option linter.unusedSimpArgs false

def parseL (w0 : List UInt8) (rest : List (List UInt8)) : List Nat → List Int × Int
  | [] => (zero5, 4)
  | k :: ks => if wd k = w0 ∧ (readF ((k : Int) + 1) (pt k) rest).2 = true then ((readF ((k : Int) + 1) (pt k) rest).1, 0) else parseL w0 rest ks
def parseT (s : List UInt8) : List Int × Int := match flds s with
  | w0 :: rest => parseL w0 rest (List.range 12)
  | [] => (zero5, 4)
theorem parseL_next (w0 : List UInt8) (rest : List (List UInt8)) (k : Nat) (hk : k < 12) : parseL w0 rest ((List.range 12).drop k) = if wd k = w0 ∧ (readF ((k : Int) + 1) (pt k) rest).2 = true then ((readF ((k : Int) + 1) (pt k) rest).1, 0) else parseL w0 rest ((List.range 12).drop (k + 1)) := by
  have e : (List.range 12).drop k = k :: (List.range 12).drop (k + 1) := by
    rw [List.drop_eq_getElem_cons (by rw [List.length_range]; exact hk), List.getElem_range]
  rw [e]
  conv => lhs; unfold parseL
theorem rdF_len (ps : List Nat) : ∀ (ws : List (List UInt8)) (q : List Int), q.length = 5 → (rdF ps ws q).1.length = 5 := by
  induction ps with
  | nil => intro ws q h; exact h
  | cons p ps ih =>
    intro ws q h
    cases ws with
    | nil => rfl
    | cons t ws =>
      unfold rdF
      split
      · exact ih ws _ (by rw [List.length_set]; exact h)
      · rfl
theorem readF_len (kd : Int) (ps : List Nat) (ws : List (List UInt8)) : (readF kd ps ws).1.length = 5 := by
  unfold readF
  split
  · exact rdF_len ps ws _ rfl
  · rfl
theorem bs_inj {a b : List UInt8} (h : bs a = bs b) : a = b := by
  have := congrArg (fun x => x.data.toList) h
  simpa [bs] using this
/-- A row of texts, text by text. -/
theorem txt_cell {w : World} {b n : Nat} {ls : List (List UInt8)} (h : Txt w (some ⟨b, 0, none⟩) n ls) (j : Nat) (x : List UInt8) (hj : ls[j]? = some x) : w.cell? ⟨b, j, none⟩ = some (.string (bs x)) := by
  obtain ⟨h1, h2, h3⟩ := h
  have hp : 0 < n := by have := h1; rw [List.length_map] at this; have := (List.getElem?_eq_some_iff.1 hj).1; omega
  obtain ⟨a, ha, hc⟩ := h3 hp
  obtain rfl := Option.some.inj ha
  obtain ⟨cs, k1, k2, k3⟩ := hc j (bs x) (by rw [List.getElem?_map, hj]; rfl)
  have hk : cs = [.string (bs x)] := k2
  subst hk
  have := k3 0 _ rfl
  rw [Addr.add_lit, show (0 : Nat) + (j * Kd.string.sz + 0) = j by rw [show Kd.string.sz = 1 from rfl]; omega] at this
  exact this
theorem txt_tail {w : World} {b n : Nat} {w0 : List UInt8} {rest : List (List UInt8)} (h : Txt w (some ⟨b, 0, none⟩) n (w0 :: rest)) (hb : b < w.heap.size) (A : Option Addr) (hA : rest ≠ [] → A = some ⟨b, 1, none⟩) : TxtAt w A rest := fun hn => ⟨b, 1, hA hn, hb, fun j x hj => by rw [Nat.add_comm]; exact txt_cell h (j + 1) x (by simpa using hj)⟩
theorem call_res {fn : Func} {p u : Tmp} (tmps : Array Value) (w : World) (g : Nat) (q : List Int) (h : fn.results = #[.cell p 23, .tmp u]) (hp : tmps.getD p undef = .pointer (some ⟨g, 0, none⟩)) (hq : CallAt w g q) (hl : q.length = 5) : (results fn tmps).run Tryd.prog w = .ok (.tuple #[.agg (q.map (Value.int .i64)).toArray, tmps.getD u undef]) w := by
  have hi : (Tryd.prog.info? 23).map (·.size) = some 5 := by kernel_rfl
  obtain ⟨fl, hu⟩ : ∃ fl, Tryd.prog.underlying 23 = some (.struct fl) := ⟨_, Tryd.underlying23⟩
  exact results_list (rs := [.cell p 23, .tmp u]) h (by simp) (.cell g _ _ (0, 0) _ hp hq hu rfl (by rw [hi]; simp [hl]) (.tmp .nil))
set_option maxRecDepth 100000 in
set_option maxHeartbeats 2000000 in
theorem parse_calls (l : List UInt8) (w : World) (hm : Mx w) (hl : l.length ≤ 2000000) : Calls Tryd.prog 29 #[.string (bs l)] w fun e w' => e = .returned (.tuple #[.agg ((parseT l).1.map (Value.int .i64)).toArray, .int .i64 (parseT l).2]) ∧ Below w.heap.size w w' := by
  obtain ⟨w0, rest, hf⟩ := flds_cons l
  have HPT : Aside0 (parseL w0 rest (List.range 12) = parseT l) := ⟨by unfold parseT; rw [hf]⟩
  have HRL : Aside0 (rest.length ≤ 2000000) := ⟨by have h1 := flds_len l; rw [hf] at h1; have h2 := List.count_le_length (a := (32 : UInt8)) (l := l); rw [List.length_cons] at h1; omega⟩
  have HM := Aside0.mk hm
  have HL := Aside0.mk hl
  clear hm hl
  go_enter Tryd.func29, Tryd.ntmps29
  have HM1 : Aside0 (Mx (w.alloc (Obj.cells #[.int .i64 0, .int .i64 0, .int .i64 0, .int .i64 0, .int .i64 0] 23))) := ⟨HM.out.below (ballo (Below.refl _ _) _)⟩
  have Q2 : Aside0 (CallAt (w.alloc (Obj.cells #[.int .i64 0, .int .i64 0, .int .i64 0, .int .i64 0, .int .i64 0] 23)) w.heap.size zero5) := ⟨blk_new w _⟩
  have B2 : Aside0 (Below w.heap.size w (w.alloc (Obj.cells #[.int .i64 0, .int .i64 0, .int .i64 0, .int .i64 0, .int .i64 0] 23))) := ⟨ballo (Below.refl _ _) _⟩
  go_wp2_with (first
    | (go_at_call 48; go_loud (refine (fields_calls l _ HM1.out HL.out).mono ?_; rintro e w1 ⟨b, rfl, hbl, hT, hB1⟩; rw [hf] at hT ⊢; have HB1 := Aside0.mk hB1; have HT1 := Aside0.mk (And.intro hbl hT); clear hB1 hbl hT))
    | (go_at_call 39; refine (forms_calls _).mono ?_; rintro e w2 ⟨vs, rfl, hF, hB2⟩; have HB2 := Aside0.mk hB2; have HF := Aside0.mk hF; clear hB2 hF))
  have QX : Aside0 (CallAt w2 w.heap.size zero5) := ⟨(Q2.out.below HB1.out).below HB2.out⟩
  have BX : Aside0 (Below w.heap.size w w2) := ⟨bthen (bthen B2.out HB1.out) HB2.out⟩
  have TX : Aside0 (b < w2.heap.size ∧ Txt w2 (some ⟨b, 0, none⟩) (w0 :: rest).length (w0 :: rest)) := ⟨Nat.lt_of_lt_of_le HT1.out.1 HB2.out.size, Kd.C_below HT1.out.2 HB2.out⟩
  clear Q2 B2 HB1 HB2 HT1 HM1 hf
  have hlen : (0 : Int) < 12 := by decide
  go_loopg [12] 12 (fun kq v12 w' => ∃ (i : Int), v12 = .int .i64 i ∧ 0 ≤ i ∧ i + (kq : Int) = 12 ∧ Aside0 (parseL w0 rest ((List.range 12).drop i.toNat) = parseT l) ∧ Aside0 (Below w2.heap.size w2 w'))
  case atStart => exact ⟨0, rfl, Int.le_refl _, by omega, HPT, ⟨Below.refl _ _⟩⟩
  case round =>
    obtain ⟨i, rfl, hi0, hi, HP, HB⟩ := hrel
    cases gk with
    | zero =>
      have hlt : decide (i < 12) = false := decide_eq_false (by omega)
      obtain ⟨z0, z1, z2, z3, z4⟩ := CallAt.five (QX.out.below HB.out)
      have zf := (QX.out.below HB.out).frozen
      go_wp2_with fail
      (try simp only [Exit.inBlock, Exit.then])
      refine bodyPost_ret (call_res (p := 2) (u := 3) _ _ w.heap.size zero5 rfl rfl ((QX.out.below HB.out).set5 rfl 0 0 0 0 0) rfl) rfl ?_
      have hp := HP.out
      rw [show (List.range 12).drop i.toNat = [] from List.drop_eq_nil_of_le (by rw [List.length_range]; omega)] at hp
      rw [← hp]
      exact ⟨rfl, below5 (bthen BX.out HB.out) (Nat.le_refl _) _ _ _ _ _⟩
    | succ gk =>
      have hlt : decide (i < 12) = true := decide_eq_true (by omega)
      obtain ⟨k, hk⟩ : ∃ k : Nat, (k : Int) = i := ⟨i.toNat, by omega⟩
      have hk12 : k < 12 := by omega
      obtain ⟨A, hPA, hix⟩ := index_forms HF.out k hk12
      rw [hk] at hix
      have HN := Aside0.mk (parseL_next w0 rest k hk12)
      rw [show i.toNat = k by omega] at HP
      rw [HP.out, hk] at HN
      obtain ⟨t0, ht0⟩ : ∃ t0, wd k = t0 := ⟨_, rfl⟩
      rw [ht0] at HN hix
      clear ht0
      have HK := Aside0.mk (And.intro hk hk12)
      have HPA := Aside0.mk hPA
      clear hk hk12 hPA
      have G4 := blk_new wr (Obj.cells #[.string (bs t0), .slice A (pt k).length (pt k).length] 87)
      have B4 := ballo HB.out (Obj.cells #[.string (bs t0), .slice A (pt k).length (pt k).length] 87)
      obtain ⟨g0, g1, gf⟩ := blk2 G4
      have tb := pw_cell_below B4 (txt_cell TX.out.2 0 w0 rfl)
      have HG4 := Aside0.mk (And.intro G4 B4)
      clear G4 B4
      have hn0 : (0 : Int) < ((w0 :: rest).length : Int) := by rw [List.length_cons]; omega
      have hn1 : 0 < (w0 :: rest).length := by rw [List.length_cons]; omega
      by_cases hw : t0 = w0
      · subst hw
        go_upto_region 5 with fail
        go_quiet (fail)
        go_upto_region 6 with fail
        have G5 := blk_drewN HG4.out.1 nq
        have B5 := pw_below_drewN HG4.out.2 nq
        generalize (wr.alloc (Obj.cells #[.string (bs t0), .slice A (pt k).length (pt k).length] 87)).drewN nq = w5 at *
        generalize wr.heap.size = g4 at *
        have HG5 := Aside0.mk G5
        have HB5 := Aside0.mk B5
        clear G5 B5 HG4 g0 g1 gf tb hix
        have e1 : IntKind.i64.wrap (i + 1) = i + 1 := IntWalk.i64_in _ (by omega)
        obtain ⟨r, hr⟩ : ∃ r, readF (i + 1) (pt k) rest = r := ⟨_, rfl⟩
        have hr5 : r.1.length = 5 := by rw [← hr]; exact readF_len _ _ _
        go_cut [7, 8] (fun s7 s8 wx => ∃ (g : Nat), s7 = .pointer (some ⟨g, 0, none⟩) ∧ s8 = .bool r.2 ∧ Aside0 (CallAt wx g r.1) ∧ Aside0 (w5.heap.size ≤ g) ∧ Aside0 (Below w5.heap.size w5 wx))
        case first =>
          have KS : Aside0 (∀ w', Below w5.heap.size w5 w' → w'.cell? ⟨g4, 0, none⟩ = some (.string (bs t0)) ∧ w'.cell? ⟨g4, 1, none⟩ = some (.slice A (pt k).length (pt k).length)) := ⟨fun w' hb => ⟨pw_cell_below hb (blk2 HG5.out).1, pw_cell_below hb (blk2 HG5.out).2.1⟩⟩
          have HBW := Aside0.mk (below_drew (Below.refl w5.heap.size w5))
          have HBN := Aside0.mk (below_drew (ballo (Below.refl w5.heap.size w5) (Obj.cells #[.int .i64 0, .int .i64 0, .int .i64 0, .int .i64 0, .int .i64 0] 23)))
          have HQN := Aside0.mk (blk_drew (blk_new w5 (Obj.cells #[.int .i64 0, .int .i64 0, .int .i64 0, .int .i64 0, .int .i64 0] 23)))
          obtain ⟨y0, y1, y2, y3, y4, hy⟩ := list5 _ hr5
          cases rest with
          | nil =>
            simp only [List.length_nil, Nat.zero_add]
            go_region_held3 (fun w' => w'.cell? ⟨g4, 0, none⟩ = some (.string (bs t0)) ∧ w'.cell? ⟨g4, 1, none⟩ = some (.slice A (pt k).length (pt k).length))
              (first | (with_reducible exact KS.out _ HBW.out) | (with_reducible exact KS.out _ HBN.out) | (with_reducible exact KS.out _ hX) | (with_reducible exact KS.out _ (ballo hX _)) | (with_reducible exact KS.out _ (below5 hX (Nat.le_refl _) _ _ _ _ _)) | exact KS.out _ hX)
              (first
                | (go_at_call 49; go_loud (refine (form_calls (bs t0) A (pt k) (i + 1) _ ([]) _ _ (HPA.out.below (bthen HB5.out HBW.out)) (pt_lt k) (txt_tail (Kd.C_below TX.out.2 (bthen HB5.out HBW.out)) (Nat.lt_of_lt_of_le TX.out.1 (bthen HB5.out HBW.out).size) _ (fun h => (h rfl).elim)) (pt_len k) (Nat.le_trans HRL.out (by decide))).mono ?_; rintro e w7 ⟨rfl, hB7⟩; rw [hr]; have hX : Below w5.heap.size w5 w7 := bthen HBW.out hB7; skip))
                | (go_at_call 49; go_loud (refine (form_calls (bs t0) A (pt k) (i + 1) _ ([]) _ _ (HPA.out.below (bthen HB5.out HBN.out)) (pt_lt k) (txt_tail (Kd.C_below TX.out.2 (bthen HB5.out HBN.out)) (Nat.lt_of_lt_of_le TX.out.1 (bthen HB5.out HBN.out).size) _ (fun h => (h rfl).elim)) (pt_len k) (Nat.le_trans HRL.out (by decide))).mono ?_; rintro e w7 ⟨rfl, hB7⟩; rw [hr]; have hX : Below w5.heap.size w5 w7 := bthen HBN.out hB7; have qn2 : CallAt w7 w5.heap.size zero5 := blk_below HQN.out hB7; obtain ⟨z0, z1, z2, z3, z4⟩ := CallAt.five qn2; have zf := qn2.frozen)))
            all_goals
              go_wp2_with fail
              go_meet
              first
                | exact ⟨w7.heap.size, rfl, rfl, ⟨by rw [hy]; exact blk_new w7 _⟩, ⟨hX.size⟩, ⟨ballo hX _⟩⟩
                | exact ⟨w5.heap.size, rfl, rfl, ⟨by rw [hy]; exact qn2.set5 rfl y0 y1 y2 y3 y4⟩, ⟨Nat.le_refl _⟩, ⟨below5 hX (Nat.le_refl _) _ _ _ _ _⟩⟩
          | cons t1 ts =>
            simp only [List.length_cons]
            have s1 : (1 : Int) ≤ ((ts.length + 1 + 1 : Nat) : Int) := by omega
            have s2 : (1 : Int) ≤ (ts.length : Int) + 1 + 1 := by omega
            have s3 : ¬ (ts.length + 1 + 1 = 1) := by omega
            have s4 : (0 : Int) ≤ (ts.length : Int) + 1 := by omega
            go_region_held3 (fun w' => w'.cell? ⟨g4, 0, none⟩ = some (.string (bs t0)) ∧ w'.cell? ⟨g4, 1, none⟩ = some (.slice A (pt k).length (pt k).length))
              (first | (with_reducible exact KS.out _ HBW.out) | (with_reducible exact KS.out _ HBN.out) | (with_reducible exact KS.out _ hX) | (with_reducible exact KS.out _ (ballo hX _)) | (with_reducible exact KS.out _ (below5 hX (Nat.le_refl _) _ _ _ _ _)) | exact KS.out _ hX)
              (first
                | (go_at_call 49; go_loud (refine (form_calls (bs t0) A (pt k) (i + 1) _ (t1 :: ts) _ _ (HPA.out.below (bthen HB5.out HBW.out)) (pt_lt k) (txt_tail (Kd.C_below TX.out.2 (bthen HB5.out HBW.out)) (Nat.lt_of_lt_of_le TX.out.1 (bthen HB5.out HBW.out).size) _ (fun _ => rfl)) (pt_len k) (Nat.le_trans HRL.out (by decide))).mono ?_; rintro e w7 ⟨rfl, hB7⟩; rw [hr]; have hX : Below w5.heap.size w5 w7 := bthen HBW.out hB7; skip))
                | (go_at_call 49; go_loud (refine (form_calls (bs t0) A (pt k) (i + 1) _ (t1 :: ts) _ _ (HPA.out.below (bthen HB5.out HBN.out)) (pt_lt k) (txt_tail (Kd.C_below TX.out.2 (bthen HB5.out HBN.out)) (Nat.lt_of_lt_of_le TX.out.1 (bthen HB5.out HBN.out).size) _ (fun _ => rfl)) (pt_len k) (Nat.le_trans HRL.out (by decide))).mono ?_; rintro e w7 ⟨rfl, hB7⟩; rw [hr]; have hX : Below w5.heap.size w5 w7 := bthen HBN.out hB7; have qn2 : CallAt w7 w5.heap.size zero5 := blk_below HQN.out hB7; obtain ⟨z0, z1, z2, z3, z4⟩ := CallAt.five qn2; have zf := qn2.frozen)))
            all_goals
              go_wp2_with fail
              go_meet
              first
                | exact ⟨w7.heap.size, rfl, rfl, ⟨by rw [hy]; exact blk_new w7 _⟩, ⟨hX.size⟩, ⟨ballo hX _⟩⟩
                | exact ⟨w5.heap.size, rfl, rfl, ⟨by rw [hy]; exact qn2.set5 rfl y0 y1 y2 y3 y4⟩, ⟨Nat.le_refl _⟩, ⟨below5 hX (Nat.le_refl _) _ _ _ _ _⟩⟩
        case rest =>
          obtain ⟨wx, rfl⟩ : ∃ wx : World, wx = wc := ⟨_, rfl⟩
          obtain ⟨g, rfl, rfl, HG, Hg, HX⟩ := hcut
          have hn := HN.out
          rw [hr] at hn
          have HN2 := Aside0.mk hn
          have HRR := Aside0.mk hr
          clear hn HN hr
          cases hok : r.2 with
          | true =>
            obtain ⟨y0, y1, y2, y3, y4, hy⟩ := list5 _ hr5
            have HG2 := HG.out
            rw [hy] at HG2
            obtain ⟨a0, a1, a2, a3, a4⟩ := HG2.five
            have q2 := QX.out.below (bthen HB5.out HX.out)
            obtain ⟨z0, z1, z2, z3, z4⟩ := CallAt.five q2
            have zf := q2.frozen
            have HQ2 := Aside0.mk q2
            have HY := Aside0.mk hy
            clear q2 hy HG2
            go_wp2_with fail
            (try simp only [Exit.inBlock, Exit.then])
            refine bodyPost_ret (call_res (p := 2) (u := 3) _ _ w.heap.size [y0, y1, y2, y3, y4] rfl rfl (HQ2.out.set5 rfl y0 y1 y2 y3 y4) rfl) rfl ?_
            have hn := HN2.out
            rw [if_pos ⟨by trivial, hok⟩, HY.out] at hn
            rw [hn]
            exact ⟨rfl, below5 (bthen BX.out (bthen HB5.out HX.out)) (Nat.le_refl _) _ _ _ _ _⟩
          | false =>
            go_wp2_with fail
            go_roundg gk
            case measure => omega
            case rel =>
              have hk := HK.out
              refine ⟨i + 1, rfl, by omega, by omega, ⟨?_⟩, ⟨bthen HB5.out HX.out⟩⟩
              rw [show (i + 1).toNat = k + 1 by omega, HN2.out, if_neg (fun h => by rw [hok] at h; exact absurd h.2 (by decide))]
      · have n2 : ((bs t0).toList == (bs w0).toList) = false := by rw [bs_list, bs_list]; simp [hw]
        go_upto_region 5 with fail
        go_quiet (fail)
        go_wp2_with fail
        go_roundg gk
        case measure => omega
        case rel =>
          have hk := HK.out
          refine ⟨i + 1, rfl, by omega, by omega, ⟨?_⟩, ⟨pw_below_drewN HG4.out.2 _⟩⟩
          rw [show (i + 1).toNat = k + 1 by omega, HN.out, if_neg (fun h => hw h.1)]
end Go.Proofs.YtdaagoagfenadaaDoor.X
namespace Go.Proofs.YtdaagoagfenadaaDoor.X
set_option linter.unusedVariables false
set_option linter.unusedSimpArgs false
theorem jn_flds : ∀ s : List UInt8, jns 32 (flds s) = s
  | [] => rfl
  | c :: r => by
    have ih := jn_flds r
    obtain ⟨f, fs, hf⟩ := flds_cons r
    rw [hf] at ih
    by_cases hc : c = 32
    · subst hc
      rw [show flds (32 :: r) = [] :: flds r by conv => lhs; unfold flds
                                                rw [if_pos rfl], hf]
      show [] ++ 32 :: jns 32 (f :: fs) = _
      rw [ih]; rfl
    · have e : flds (c :: r) = (c :: f) :: fs := by
        conv => lhs; unfold flds
        rw [if_neg hc, hf]
      rw [e]
      cases fs with
      | nil => show c :: f = _; rw [← ih]; rfl
      | cons g gs =>
        show (c :: f) ++ 32 :: jns 32 (g :: gs) = _
        rw [← ih]; rfl
theorem flds_one : ∀ w : List UInt8, (∀ c ∈ w, c ≠ 32) → flds w = [w]
  | [], _ => rfl
  | c :: w, h => by
    conv => lhs; unfold flds
    rw [if_neg (h c (List.mem_cons_self ..)), flds_one w (fun d hd => h d (List.mem_cons_of_mem _ hd))]
theorem flds_app (r : List UInt8) : ∀ w : List UInt8, (∀ c ∈ w, c ≠ 32) → flds (w ++ 32 :: r) = w :: flds r
  | [], _ => by
    show flds (32 :: r) = _
    conv => lhs; unfold flds
    rw [if_pos rfl]
  | c :: w, h => by
    show flds (c :: (w ++ 32 :: r)) = _
    conv => lhs; unfold flds
    rw [if_neg (h c (List.mem_cons_self ..)), flds_app r w (fun d hd => h d (List.mem_cons_of_mem _ hd))]
theorem flds_jn : ∀ ws : List (List UInt8), ws ≠ [] → (∀ w ∈ ws, ∀ c ∈ w, c ≠ 32) → flds (jns 32 ws) = ws
  | [], h, _ => absurd rfl h
  | [w], _, h => flds_one w (h w (by simp))
  | w :: v :: r, _, h => by
    show flds (w ++ 32 :: jns 32 (v :: r)) = _
    rw [flds_app _ w (h w (by simp)), flds_jn (v :: r) (by simp) (fun x hx => h x (List.mem_cons_of_mem _ hx))]
theorem num_no (n : Int) : ∀ c ∈ numL n, c ≠ 32 := by
  intro c hc e
  subst e
  rcases numL_chars n 32 hc with h | h
  · exact absurd h (by decide)
  · exact absurd h (by decide)
theorem wd_no : ∀ k, k < 12 → ∀ c ∈ wd k, c ≠ 32 := by decide +kernel
theorem wd_inj : ∀ j, j < 12 → ∀ k, k < 12 → wd j = wd k → j = k := by decide +kernel
theorem pt_nodup : ∀ k, k < 12 → (pt k).Nodup := by decide +kernel
theorem rdV_num' (n : Int) (h : In64 n) : rdV (numL n) = (n, true) := by unfold rdV; rw [rdL_num n h]
theorem rdV_ok {l : List UInt8} (h : (rdV l).2 = true) : numL (rdV l).1 = l ∧ In64 (rdV l).1 := by
  unfold rdV at h ⊢
  cases e : rdL l with
  | none => rw [e] at h; cases h
  | some n => exact num_rdL l n e
def setA (c : List Int) (ps : List Nat) (q : List Int) : List Int := ps.foldl (fun q p => q.set (p + 1) (c.getD (p + 1) 0)) q
theorem rdF_of (c : List Int) (hc : ∀ x ∈ c, In64 x) : ∀ (ps : List Nat) (q : List Int), rdF ps (wordsC c ps) q = (setA c ps q, true)
  | [], q => rfl
  | p :: ps, q => by
    show rdF (p :: ps) (numL (c.getD (p + 1) 0) :: wordsC c ps) q = _
    unfold rdF
    rw [rdV_num' _ (getD_in c hc _), if_pos rfl, rdF_of c hc ps]
    rfl
theorem of_rdF (x : List Int) : ∀ (ps : List Nat) (ws : List (List UInt8)) (q : List Int), rdF ps ws q = (x, true) → ws.length = ps.length → ps.Nodup → (∀ p ∈ ps, p + 1 < q.length) →
    ws = wordsC x ps ∧ setA x ps q = x ∧ (∀ j, (∀ p ∈ ps, p + 1 ≠ j) → x.getD j 0 = q.getD j 0) ∧ (∀ p ∈ ps, In64 (x.getD (p + 1) 0))
  | [], ws, q, h, hl, _, _ => by
    obtain rfl := List.length_eq_zero_iff.1 hl
    have h1 : q = x := congrArg Prod.fst h
    subst h1
    exact ⟨rfl, rfl, fun _ _ => rfl, fun p hp => by cases hp⟩
  | p :: ps, [], q, h, hl, _, _ => by cases hl
  | p :: ps, w :: ws, q, h, hl, hn, hq => by
    unfold rdF at h
    split at h
    · rename_i hok
      obtain ⟨hp, hn2⟩ := List.nodup_cons.1 hn
      obtain ⟨i1, i2, i3, i4⟩ := of_rdF x ps ws (q.set (p + 1) (rdV w).1) h (by simpa using hl) hn2 (fun p hp => by rw [List.length_set]; exact hq p (List.mem_cons_of_mem _ hp))
      obtain ⟨h1, h2⟩ := rdV_ok hok
      have hx : x.getD (p + 1) 0 = (rdV w).1 := by
        rw [i3 (p + 1) (fun j hj e => hp (by have : j = p := by omega
                                             rw [← this]; exact hj))]
        have := hq p (List.mem_cons_self ..)
        simp [List.getD, this]
      refine ⟨?_, ?_, ?_, ?_⟩
      · show w :: ws = numL (x.getD (p + 1) 0) :: wordsC x ps
        rw [hx, h1, ← i1]
      · show setA x ps (q.set (p + 1) (x.getD (p + 1) 0)) = x
        rw [hx]; exact i2
      · intro j hj
        rw [i3 j (fun p hp => hj p (List.mem_cons_of_mem _ hp))]
        have := hj p (List.mem_cons_self ..)
        simp [List.getD, List.getElem?_set_ne this]
      · intro j hj
        rcases List.mem_cons.1 hj with rfl | hj
        · rw [hx]; exact h2
        · exact i4 j hj
    · cases h
theorem setA_in (c : List Int) : ∀ (ps : List Nat) (q : List Int), (∀ p ∈ ps, In64 (c.getD (p + 1) 0)) → (∀ x ∈ q, In64 x) → ∀ x ∈ setA c ps q, In64 x
  | [], q, _, hq => hq
  | p :: ps, q, hc, hq => setA_in c ps _ (fun p hp => hc p (List.mem_cons_of_mem _ hp)) (fun x hx => by
      rcases List.mem_or_eq_of_mem_set hx with h | h
      · exact hq x h
      · rw [h]; exact hc p (List.mem_cons_self ..))
theorem parseL_find (w0 : List UInt8) (rest : List (List UInt8)) (k : Nat) (hw : wd k = w0) (hr : (readF ((k : Int) + 1) (pt k) rest).2 = true) : ∀ ks : List Nat, k ∈ ks → (∀ j ∈ ks, wd j = wd k → j = k) → parseL w0 rest ks = ((readF ((k : Int) + 1) (pt k) rest).1, 0)
  | [], h, _ => by cases h
  | j :: ks, h, hi => by
    unfold parseL
    by_cases hj : wd j = w0
    · obtain rfl : j = k := hi j (List.mem_cons_self ..) (hj.trans hw.symm)
      rw [if_pos ⟨hj, hr⟩]
    · rw [if_neg (fun e => hj e.1)]
      refine parseL_find w0 rest k hw hr ks ?_ (fun i hi' => hi i (List.mem_cons_of_mem _ hi'))
      rcases List.mem_cons.1 h with rfl | h
      · exact absurd hw hj
      · exact h
theorem parseL_found (w0 : List UInt8) (rest : List (List UInt8)) : ∀ ks : List Nat, (parseL w0 rest ks = (zero5, 4)) ∨ ∃ k ∈ ks, wd k = w0 ∧ (readF ((k : Int) + 1) (pt k) rest).2 = true ∧ parseL w0 rest ks = ((readF ((k : Int) + 1) (pt k) rest).1, 0)
  | [] => .inl rfl
  | j :: ks => by
    unfold parseL
    by_cases h : wd j = w0 ∧ (readF ((j : Int) + 1) (pt j) rest).2 = true
    · rw [if_pos h]
      exact .inr ⟨j, List.mem_cons_self .., h.1, h.2, rfl⟩
    · rw [if_neg h]
      rcases parseL_found w0 rest ks with h | ⟨k, hk, h⟩
      · exact .inl h
      · exact .inr ⟨k, List.mem_cons_of_mem _ hk, h⟩
theorem call_back (c : List Int) (hc : ∀ x ∈ c, In64 x) : callT c = ([], 2) ∨ ((callT c).2 = 0 ∧ (callT c).1.length ≤ 63 ∧ parseT (callT c).1 = (c, 0)) := by
  by_cases h : c.getD 0 0 < 1 ∨ 12 < c.getD 0 0
  · exact .inl (if_pos h)
  · obtain ⟨k, hk⟩ : ∃ k : Nat, c.getD 0 0 - 1 = (k : Int) := ⟨(c.getD 0 0 - 1).toNat, by omega⟩
    have hk12 : k < 12 := by omega
    by_cases hp : plainC c (pt k) = c
    · right
      rw [callT_eq c k hk (by omega) (by omega) hp]
      refine ⟨rfl, words_len c k hc, ?_⟩
      have e : flds (jn (wd k :: wordsC c (pt k))) = wd k :: wordsC c (pt k) := flds_jn _ (by simp) (fun w hw => by
        rcases List.mem_cons.1 hw with rfl | hw
        · exact wd_no k hk12
        · obtain ⟨p, _, rfl⟩ := List.mem_map.1 hw
          exact num_no _)
      have hr : readF ((k : Int) + 1) (pt k) (wordsC c (pt k)) = (c, true) := by
        unfold readF
        rw [if_pos (by simp [wordsC]), rdF_of c hc]
        have : plainC c (pt k) = setA c (pt k) [c.getD 0 0, 0, 0, 0, 0] := rfl
        rw [this, show c.getD 0 0 = (k : Int) + 1 by omega] at hp
        rw [hp]
      unfold parseT
      rw [e]
      show parseL (wd k) (wordsC c (pt k)) (List.range 12) = _
      rw [parseL_find (wd k) _ k rfl (by rw [hr]) _ (List.mem_range.2 hk12) (fun j hj => wd_inj j (List.mem_range.1 hj) k hk12), hr]
    · exact .inl (callT_ne c k hk (by omega) (by omega) hp)
theorem parse_back (s : List UInt8) : parseT s = (zero5, 4) ∨ ∃ x : List Int, parseT s = (x, 0) ∧ x.length = 5 ∧ (∀ e ∈ x, In64 e) ∧ callT x = (s, 0) := by
  obtain ⟨w0, rest, hf⟩ := flds_cons s
  have hp : parseT s = parseL w0 rest (List.range 12) := by unfold parseT; rw [hf]
  rw [hp]
  rcases parseL_found w0 rest (List.range 12) with h | ⟨k, hk, hw, hr, h⟩
  · exact .inl h
  · right
    have hk12 := List.mem_range.1 hk
    obtain ⟨x, hx⟩ : ∃ x, (readF ((k : Int) + 1) (pt k) rest).1 = x := ⟨_, rfl⟩
    rw [h, hx]
    have h5 : x.length = 5 := by rw [← hx]; exact readF_len _ _ _
    unfold readF at hx hr
    split at hx
    · rename_i hl
      rw [if_pos hl] at hr
      have hrd : rdF (pt k) rest [(k : Int) + 1, 0, 0, 0, 0] = (x, true) := Prod.ext hx hr
      obtain ⟨i1, i2, i3, i4⟩ := of_rdF x (pt k) rest _ hrd hl (pt_nodup k hk12) (fun p hp => by have := pt_lt k p hp; simp only [List.length_cons, List.length_nil]; omega)
      have hx0 : x.getD 0 0 = (k : Int) + 1 := i3 0 (fun p _ => by omega)
      refine ⟨x, rfl, h5, ?_, ?_⟩
      · rw [← i2]
        exact setA_in x (pt k) _ i4 (fun y hy => by
          simp only [List.mem_cons, List.not_mem_nil, or_false] at hy
          unfold In64
          rcases hy with h | h | h | h | h <;> omega)
      · rw [callT_eq x k (by omega) (by omega) (by omega) (by show setA x (pt k) [x.getD 0 0, 0, 0, 0, 0] = x; rw [hx0]; exact i2), ← i1, hw]
        show (jns 32 (w0 :: rest), _) = _
        rw [← hf, jn_flds]
    · rename_i hl
      rw [if_neg hl] at hr
      cases hr
end Go.Proofs.YtdaagoagfenadaaDoor.X
namespace Go.Proofs.YtdaagoagfenadaaDoor.X
set_option linter.unusedVariables false
set_option linter.unusedSimpArgs false
def stepW : List UInt8 := [115, 116, 101, 112]
def callW : List UInt8 := [99, 97, 108, 108]
def moveW : List UInt8 := [109, 111, 118, 101]
def zero8 : List Int := [0, 0, 0, 0, 0, 0, 0, 0]
/-- An entry's text: its kind, its worker, its number, its call. -/
def lineT (k w n : Int) (c : List Int) : List UInt8 × Int :=
  if k = 0 ∧ c = zero5 then (jn [stepW, numL w, numL n], 0)
  else if k = 2 ∧ c = zero5 then (jn [moveW, numL w, numL n], 0)
  else if k = 1 ∧ n = 0 ∧ (callT c).2 = 0 then (jn [callW, numL w, (callT c).1], 0)
  else ([], 2)
/-- A text up to its first blank, and what stands behind that. -/
def cutB : List UInt8 → List UInt8 × List UInt8
  | [] => ([], [])
  | c :: r => if c = 32 then ([], r) else (c :: (cutB r).1, (cutB r).2)
/-- The entry of a text. -/
def entT (s : List UInt8) : List Int × Int :=
  if (rdV (cutB (cutB s).2).1).2 = true then
    if (cutB s).1 = stepW then
      (if (rdV (cutB (cutB s).2).2).2 = true then ([0, (rdV (cutB (cutB s).2).1).1, (rdV (cutB (cutB s).2).2).1, 0, 0, 0, 0, 0], 0) else (zero8, 4))
    else if (cutB s).1 = moveW then
      (if (rdV (cutB (cutB s).2).2).2 = true then ([2, (rdV (cutB (cutB s).2).1).1, (rdV (cutB (cutB s).2).2).1, 0, 0, 0, 0, 0], 0) else (zero8, 4))
    else if (cutB s).1 = callW then
      (if (parseT (cutB (cutB s).2).2).2 = 0 then (1 :: (rdV (cutB (cutB s).2).1).1 :: 0 :: (parseT (cutB (cutB s).2).2).1, 0) else (zero8, 4))
    else (zero8, 4)
  else (zero8, 4)
theorem cutB_app (r : List UInt8) : ∀ w : List UInt8, (∀ c ∈ w, c ≠ 32) → cutB (w ++ 32 :: r) = (w, r)
  | [], _ => by
    show cutB (32 :: r) = _
    unfold cutB
    rw [if_pos rfl]
  | c :: w, h => by
    show cutB (c :: (w ++ 32 :: r)) = _
    unfold cutB
    rw [if_neg (h c (List.mem_cons_self ..)), cutB_app r w (fun d hd => h d (List.mem_cons_of_mem _ hd))]
/-- There is a blank, or nothing is behind. -/
theorem cutB_or : ∀ s : List UInt8, s = (cutB s).1 ++ 32 :: (cutB s).2 ∨ (s = (cutB s).1 ∧ (cutB s).2 = [])
  | [] => .inr ⟨rfl, rfl⟩
  | c :: r => by
    unfold cutB
    by_cases hc : c = 32
    · rw [if_pos hc, hc]; exact .inl rfl
    · rw [if_neg hc]
      rcases cutB_or r with h | ⟨h, h2⟩
      · exact .inl (congrArg (c :: ·) h)
      · exact .inr ⟨congrArg (c :: ·) h, h2⟩
theorem rdV_nil : rdV [] = (0, false) := by decide +kernel
theorem parseT_nil : (parseT []).2 ≠ 0 := by decide +kernel
def ent8 (k w n : Int) (c : List Int) : List Int := k :: w :: n :: c
theorem jn3 (a b c : List UInt8) : jn [a, b, c] = a ++ 32 :: (b ++ 32 :: c) := rfl
theorem line_back (k w n : Int) (c : List Int) (hw : In64 w) (hn : In64 n) (hc : ∀ x ∈ c, In64 x) : lineT k w n c = ([], 2) ∨ ((lineT k w n c).2 = 0 ∧ entT (lineT k w n c).1 = (ent8 k w n c, 0)) := by
  have hs : ∀ c ∈ stepW, c ≠ 32 := by decide
  have hm : ∀ c ∈ moveW, c ≠ 32 := by decide
  have hcw : ∀ c ∈ callW, c ≠ 32 := by decide
  unfold lineT
  by_cases h1 : k = 0 ∧ c = zero5
  · rw [if_pos h1]
    obtain ⟨rfl, rfl⟩ := h1
    right
    refine ⟨rfl, ?_⟩
    show entT (jn [stepW, numL w, numL n]) = _
    unfold entT
    rw [jn3, cutB_app _ _ hs, cutB_app _ _ (num_no w), rdV_num' w hw, rdV_num' n hn, if_pos rfl, if_pos rfl, if_pos rfl]
    rfl
  · rw [if_neg h1]
    by_cases h2 : k = 2 ∧ c = zero5
    · rw [if_pos h2]
      obtain ⟨rfl, rfl⟩ := h2
      right
      refine ⟨rfl, ?_⟩
      show entT (jn [moveW, numL w, numL n]) = _
      unfold entT
      rw [jn3, cutB_app _ _ hm, cutB_app _ _ (num_no w), rdV_num' w hw, rdV_num' n hn, if_pos rfl, if_neg (show ¬ (moveW = stepW) by decide), if_pos rfl, if_pos rfl]
      rfl
    · rw [if_neg h2]
      by_cases h3 : k = 1 ∧ n = 0 ∧ (callT c).2 = 0
      · rw [if_pos h3]
        obtain ⟨rfl, rfl, h3⟩ := h3
        right
        refine ⟨rfl, ?_⟩
        rcases call_back c hc with h4 | ⟨_, _, h4⟩
        · rw [h4] at h3; cases h3
        · show entT (jn [callW, numL w, (callT c).1]) = _
          unfold entT
          rw [jn3, cutB_app _ _ hcw, cutB_app _ _ (num_no w), rdV_num' w hw, h4, if_pos rfl, if_neg (show ¬ (callW = stepW) by decide), if_neg (show ¬ (callW = moveW) by decide), if_pos rfl, if_pos rfl]
          rfl
      · rw [if_neg h3]; exact .inl rfl
theorem ent_back (s : List UInt8) : entT s = (zero8, 4) ∨ ∃ k w n c, entT s = (ent8 k w n c, 0) ∧ c.length = 5 ∧ In64 k ∧ In64 w ∧ In64 n ∧ (∀ x ∈ c, In64 x) ∧ lineT k w n c = (s, 0) := by
  unfold entT
  obtain ⟨a, r, hs⟩ : ∃ a r, cutB s = (a, r) := ⟨_, _, rfl⟩
  obtain ⟨b, q, hr⟩ : ∃ b q, cutB r = (b, q) := ⟨_, _, rfl⟩
  have e1 := cutB_or s
  have e2 := cutB_or r
  rw [hs] at e1
  rw [hr] at e2
  rw [hs]
  show (if (rdV (cutB r).1).2 = true then _ else _) = _ ∨ _
  rw [hr]
  have z5 : ∀ x ∈ zero5, In64 x := by intro x hx; simp only [zero5, List.mem_cons, List.not_mem_nil, or_false] at hx; unfold In64; omega
  by_cases hb : (rdV b).2 = true
  · have hb' : (rdV (b, q).1).2 = true := hb
    rw [if_pos hb']
    obtain ⟨n1, n2⟩ := rdV_ok hb
    have hbn : b ≠ [] := by rintro rfl; rw [rdV_nil] at hb; cases hb
    -- behind the worker stands a blank, if the rest is no empty text
    have hfull : q ≠ [] → s = jn [a, b, q] := by
      intro hq
      have h2 : r = b ++ 32 :: q := by
        rcases e2 with h | ⟨_, h⟩
        · exact h
        · exact absurd h hq
      rcases e1 with h | ⟨_, h⟩
      · rw [jn3, h, h2]
      · have h3 : r = [] := h
        rw [h2] at h3
        exact absurd (List.append_eq_nil_iff.1 h3).1 hbn
    have i0 : In64 0 := by unfold In64; omega
    have i1 : In64 1 := by unfold In64; omega
    have i2 : In64 2 := by unfold In64; omega
    by_cases hst : a = stepW
    · have hst' : (a, r).1 = stepW := hst
      rw [if_pos hst']
      by_cases hq : (rdV q).2 = true
      · have hq' : (rdV (b, q).2).2 = true := hq
        rw [if_pos hq']
        obtain ⟨m1, m2⟩ := rdV_ok hq
        have hqn : q ≠ [] := by rintro rfl; rw [rdV_nil] at hq; cases hq
        refine .inr ⟨0, (rdV b).1, (rdV q).1, zero5, rfl, rfl, i0, n2, m2, z5, ?_⟩
        unfold lineT
        rw [if_pos ⟨rfl, rfl⟩, n1, m1, ← hst, ← hfull hqn]
      · have hq' : ¬ (rdV (b, q).2).2 = true := hq
        rw [if_neg hq']; exact .inl rfl
    · have hst' : ¬ (a, r).1 = stepW := hst
      rw [if_neg hst']
      by_cases hmv : a = moveW
      · have hmv' : (a, r).1 = moveW := hmv
        rw [if_pos hmv']
        by_cases hq : (rdV q).2 = true
        · have hq' : (rdV (b, q).2).2 = true := hq
          rw [if_pos hq']
          obtain ⟨m1, m2⟩ := rdV_ok hq
          have hqn : q ≠ [] := by rintro rfl; rw [rdV_nil] at hq; cases hq
          refine .inr ⟨2, (rdV b).1, (rdV q).1, zero5, rfl, rfl, i2, n2, m2, z5, ?_⟩
          unfold lineT
          rw [if_neg (fun h => by cases h.1), if_pos ⟨rfl, rfl⟩, n1, m1, ← hmv, ← hfull hqn]
        · have hq' : ¬ (rdV (b, q).2).2 = true := hq
          rw [if_neg hq']; exact .inl rfl
      · have hmv' : ¬ (a, r).1 = moveW := hmv
        rw [if_neg hmv']
        by_cases hcl : a = callW
        · have hcl' : (a, r).1 = callW := hcl
          rw [if_pos hcl']
          by_cases hq : (parseT q).2 = 0
          · have hq' : (parseT (b, q).2).2 = 0 := hq
            rw [if_pos hq']
            have hqn : q ≠ [] := by rintro rfl; exact parseT_nil hq
            rcases parse_back q with h | ⟨x, h1, h5, hI, h2⟩
            · rw [h] at hq; cases hq
            · refine .inr ⟨1, (rdV b).1, 0, x, ?_, h5, i1, n2, i0, hI, ?_⟩
              · show (1 :: (rdV b).1 :: 0 :: (parseT q).1, (0 : Int)) = _
                rw [h1]; rfl
              · unfold lineT
                rw [if_neg (fun h => by cases h.1), if_neg (fun h => by cases h.1), if_pos ⟨rfl, rfl, by rw [h2]⟩, n1, h2, ← hcl]
                show (jn [a, b, q], (0 : Int)) = _
                rw [← hfull hqn]
          · have hq' : ¬ (parseT (b, q).2).2 = 0 := hq
            rw [if_neg hq']; exact .inl rfl
        · have hcl' : ¬ (a, r).1 = callW := hcl
          rw [if_neg hcl']; exact .inl rfl
  · have hb' : ¬ (rdV (b, q).1).2 = true := hb
    rw [if_neg hb']; exact .inl rfl
end Go.Proofs.YtdaagoagfenadaaDoor.X

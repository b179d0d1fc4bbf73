/- There are as many weaves as with one step less in one row, and with one less in the other one, together, and as many with the rows changed. Conditions: none. -/
import Derived.Test.YtpmkkohnpfpifaaYLanesSumsx1
namespace Go.Proofs.Ytpmkkohnpfpifaa.Pure
open Go.RowKit Go.Proofs.Ytpmkkohnpfpifaa.X Go.Proofs.Ytpmkkohnpfpifaa.YLanesSums Go.Proofs.YtpmkkohnpfpifaaW.PrintWords Go.Proofs.YtpmkkohnpfpifaaW.PrintLast Go.Proofs.YtpmkkohnpfpifaaW.PrintMore

namespace LanesSumsAid
theorem wf64 {a : Int} (h : (Lit.int .i64 a).wf = true) : -9223372036854775808 ≤ a ∧ a ≤ 9223372036854775807 := by
  simpa [Lit.wf, IntKind.min, IntKind.max, IntKind.bits, IntKind.signed] using h
theorem same_loop (l : List Int) (hl : l.length ≤ 9223372036854775807) (d : Nat) : ∀ (p k : Nat), p + d = l.length → d < k → assartlaw01_Ints_Same.l0 k l l (p : Int) = some true := by
  induction d with
  | zero =>
    intro p k hp hk
    obtain ⟨k, rfl⟩ : ∃ m, k = m + 1 := ⟨k - 1, by omega⟩
    simp only [assartlaw01_Ints_Same.l0]
    rw [if_neg (by omega)]
  | succ d ih =>
    intro p k hp hk
    obtain ⟨k, rfl⟩ : ∃ m, k = m + 1 := ⟨k - 1, by omega⟩
    simp only [assartlaw01_Ints_Same.l0]
    rw [if_pos (by omega), if_pos (by omega), if_pos (by omega), if_pos (by simp), w64 (a := (p : Int) + 1) (by omega) (by omega)]
    exact ih (p + 1) k (by omega) (by omega)
theorem same_eq (l : List Int) (hl : l.length ≤ 9223372036854775807) (k : Nat) (hk : l.length < k) : assartlaw01_Ints_Same.f k l l = some true := by
  unfold assartlaw01_Ints_Same.f
  rw [if_pos rfl]
  exact same_loop l hl l.length 0 k (by omega) hk
theorem C11 : C 1 1 = 2 := by rw [C_succ 0 0, C_row, C_zero]
theorem C21 : C 2 1 = 3 := by rw [C_succ 1 0, C_zero, C11]
theorem count21 : countN 2 1 = 3 := by
  rw [show (2 : Int) = ((2 : Nat) : Int) from rfl, show (1 : Int) = ((1 : Nat) : Int) from rfl, countN_nat 2 1 (by omega) (by omega), C21]; rfl
theorem weave3 : weave 3 2 1 1 = [0, 1, 0] := by
  have h2 : F 2 1 = 2 := C11
  have h1 : F 1 1 = 1 := C_row 1
  have h0 : F 1 0 = 1 := C_row 0
  simp [weave, h2, h1, h0]
theorem nth211 : nthN 2 1 1 = ([0, 1, 0], 0) := by
  unfold nthN
  rw [count21, if_pos ⟨⟨by omega, by omega, by omega, by omega⟩, by omega, by omega⟩]
  exact congrArg (fun x => (x, (0 : Int))) weave3
theorem lives_eq : assartlaw36_lives.f 100 = some true := by
  unfold assartlaw36_lives.f lanes_Nth.f lanes_Count.f
  rw [nth211, count21, Option.bind_some, Option.bind_some, if_pos rfl, same_eq _ (by simp) 100 (by simp), Option.bind_some, if_pos rfl]
  rfl
theorem weave_len (n : Nat) : ∀ a b i, (weave n a b i).length = n := by
  induction n with
  | zero => intro a b i; rfl
  | succ n ih =>
    intro a b i
    simp only [weave]
    split <;> simp [ih]
theorem nth_len (a b i : Int) : (nthN a b i).1.length ≤ 60 := by
  unfold nthN
  by_cases h : mayN a b ∧ 0 ≤ i ∧ i < countN a b
  · rw [if_pos h]
    obtain ⟨h0, h1, h2, h3⟩ := h.1
    simp only [weave_len]; omega
  · rw [if_neg h]; simp
theorem lives_any (k : Nat) (h : 100 ≤ k) : assartlaw36_lives.f k = some true := by
  obtain ⟨d, rfl⟩ : ∃ d, k = 100 + d := ⟨k - 100, by omega⟩
  induction d with
  | zero => exact lives_eq
  | succ d ih => exact assartlaw36_lives.mono _ _ (ih (by omega))
end LanesSumsAid
open LanesSumsAid

theorem LanesSums : assartlaw36_LanesSums.Pure := by
  intro a b ha hb
  have wa := wf64 ha
  have wb := wf64 hb
  refine ⟨101, ?_⟩
  have cE : ∀ x y, lanes_Count.f x y = some (countN x y) := fun _ _ => rfl
  have j (h : a < 1 ∨ b < 1 ∨ 30 < a ∨ 30 < b) : assartlaw36_LanesSums.j0 101 a b true = some true := by
    simp only [assartlaw36_LanesSums.j0, if_true]
    rw [cE, Option.bind_some, lives_eq]
    have hz : (countN a b = 0) ↔ ¬ mayN a b := by
      unfold countN
      by_cases hm : mayN a b
      · rw [if_pos hm]
        have := C_pos a.toNat b.toNat
        constructor
        · intro e; omega
        · intro e; exact absurd hm e
      · rw [if_neg hm]; exact ⟨fun _ => hm, fun _ => rfl⟩
    have hm : mayN a b ↔ (0 ≤ a ∧ a ≤ 30 ∧ 0 ≤ b ∧ b ≤ 30) := Iff.rfl
    by_cases h1 : a < 0
    · rw [if_pos h1, if_pos (by simp; exact hz.2 (fun hh => by have := hm.1 hh; omega))]; rfl
    rw [if_neg h1]
    by_cases h2 : b < 0
    · rw [if_pos h2, if_pos (by simp; exact hz.2 (fun hh => by have := hm.1 hh; omega))]; rfl
    rw [if_neg h2]
    by_cases h3 : a > 30
    · rw [if_pos h3, if_pos (by simp; exact hz.2 (fun hh => by have := hm.1 hh; omega))]; rfl
    rw [if_neg h3]
    have e : (countN a b == 0) = decide (b > 30) := by
      by_cases h4 : b > 30
      · rw [decide_eq_true h4]; simp; exact hz.2 (fun hh => by have := hm.1 hh; omega)
      · rw [decide_eq_false h4]; simp; intro e; exact hz.1 e (hm.2 (by omega))
    rw [e, if_pos (by simp)]; rfl
  unfold assartlaw36_LanesSums.f
  by_cases h1 : a < 1
  · rw [if_pos h1]; exact j (by omega)
  rw [if_neg h1]
  by_cases h2 : b < 1
  · rw [if_pos h2]; exact j (by omega)
  rw [if_neg h2]
  by_cases h3 : a > 30
  · rw [if_pos h3]; exact j (by omega)
  rw [if_neg h3]
  by_cases h4 : b > 30
  · rw [decide_eq_true h4]; exact j (by omega)
  rw [decide_eq_false h4]
  simp only [assartlaw36_LanesSums.j0, Bool.false_eq_true, if_false]
  obtain ⟨p, rfl⟩ : ∃ p : Nat, a = ((p + 1 : Nat) : Int) := ⟨(a - 1).toNat, by omega⟩
  obtain ⟨q, rfl⟩ : ∃ q : Nat, b = ((q + 1 : Nat) : Int) := ⟨(b - 1).toNat, by omega⟩
  rw [w64 (a := ((p + 1 : Nat) : Int) - 1) (by omega) (by omega), w64 (a := ((q + 1 : Nat) : Int) - 1) (by omega) (by omega), show ((p + 1 : Nat) : Int) - 1 = (p : Int) by omega, show ((q + 1 : Nat) : Int) - 1 = (q : Int) by omega]
  rw [cE, cE, cE, cE, countN_nat (p + 1) (q + 1) (by omega) (by omega), countN_nat p (q + 1) (by omega) (by omega), countN_nat (p + 1) q (by omega) (by omega), countN_nat (q + 1) (p + 1) (by omega) (by omega)]
  have hs := C_succ p q
  have hb1 := C_bound (p + 1) (q + 1) (by omega) (by omega)
  rw [Option.bind_some, Option.bind_some, Option.bind_some, w64 (by omega) (by omega), if_pos (by omega), Option.bind_some, Option.bind_some, C_comm (q + 1) (p + 1), if_pos rfl, lives_eq, Option.bind_some]

end Go.Proofs.Ytpmkkohnpfpifaa.Pure

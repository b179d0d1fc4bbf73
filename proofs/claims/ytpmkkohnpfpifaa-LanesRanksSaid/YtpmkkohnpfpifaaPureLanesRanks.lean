/- Which weave any list is, and the next one, is the reference's. Conditions: none. -/
import Derived.Test.YtpmkkohnpfpifaaYLanesRanksx1
namespace Go.Proofs.Ytpmkkohnpfpifaa.Pure
open Go.RowKit Go.Proofs.Ytpmkkohnpfpifaa.X Go.Proofs.Ytpmkkohnpfpifaa.YLanesRanks Go.Proofs.YtpmkkohnpfpifaaW.PrintWords Go.Proofs.YtpmkkohnpfpifaaW.PrintLast Go.Proofs.YtpmkkohnpfpifaaW.PrintMore

namespace LanesRanksAid
theorem wf64 {a : Int} (h : (Lit.int .i64 a).wf = true) : -9223372036854775808 ≤ a ∧ a ≤ 9223372036854775807 := by
  simpa [Lit.wf, IntKind.min, IntKind.max, IntKind.bits, IntKind.signed] using h
theorem same_loop (l : List Int) (hl : l.length ≤ 9223372036854775807) (d : Nat) : ∀ (p k : Nat), p + d = l.length → d < k → assartlaw01_Ints_Same.l0 k l l (p : Int) = some true := by
  induction d with
  | zero =>
    intro p k hp hk
    obtain ⟨k, rfl⟩ : ∃ m, k = m + 1 := ⟨k - 1, by omega⟩
    simp only [assartlaw01_Ints_Same.l0]
    rw [if_neg (by omega)]
  | succ d ih =>
    intro p k hp hk
    obtain ⟨k, rfl⟩ : ∃ m, k = m + 1 := ⟨k - 1, by omega⟩
    simp only [assartlaw01_Ints_Same.l0]
    rw [if_pos (by omega), if_pos (by omega), if_pos (by omega), if_pos (by simp), w64 (a := (p : Int) + 1) (by omega) (by omega)]
    exact ih (p + 1) k (by omega) (by omega)
theorem same_eq (l : List Int) (hl : l.length ≤ 9223372036854775807) (k : Nat) (hk : l.length < k) : assartlaw01_Ints_Same.f k l l = some true := by
  unfold assartlaw01_Ints_Same.f
  rw [if_pos rfl]
  exact same_loop l hl l.length 0 k (by omega) hk
theorem C11 : C 1 1 = 2 := by rw [C_succ 0 0, C_row, C_zero]
theorem C21 : C 2 1 = 3 := by rw [C_succ 1 0, C_zero, C11]
theorem count21 : countN 2 1 = 3 := by
  rw [show (2 : Int) = ((2 : Nat) : Int) from rfl, show (1 : Int) = ((1 : Nat) : Int) from rfl, countN_nat 2 1 (by omega) (by omega), C21]; rfl
theorem weave3 : weave 3 2 1 1 = [0, 1, 0] := by
  have h2 : F 2 1 = 2 := C11
  have h1 : F 1 1 = 1 := C_row 1
  have h0 : F 1 0 = 1 := C_row 0
  simp [weave, h2, h1, h0]
theorem nth211 : nthN 2 1 1 = ([0, 1, 0], 0) := by
  unfold nthN
  rw [count21, if_pos ⟨⟨by omega, by omega, by omega, by omega⟩, by omega, by omega⟩]
  exact congrArg (fun x => (x, (0 : Int))) weave3
theorem lives_eq : assartlaw36_lives.f 100 = some true := by
  unfold assartlaw36_lives.f lanes_Nth.f lanes_Count.f
  rw [nth211, count21, Option.bind_some, Option.bind_some, if_pos rfl, same_eq _ (by simp) 100 (by simp), Option.bind_some, if_pos rfl]
  rfl
theorem weave_len (n : Nat) : ∀ a b i, (weave n a b i).length = n := by
  induction n with
  | zero => intro a b i; rfl
  | succ n ih =>
    intro a b i
    simp only [weave]
    split <;> simp [ih]
theorem nth_len (a b i : Int) : (nthN a b i).1.length ≤ 60 := by
  unfold nthN
  by_cases h : mayN a b ∧ 0 ≤ i ∧ i < countN a b
  · rw [if_pos h]
    obtain ⟨h0, h1, h2, h3⟩ := h.1
    simp only [weave_len]; omega
  · rw [if_neg h]; simp
theorem lives_any (k : Nat) (h : 100 ≤ k) : assartlaw36_lives.f k = some true := by
  obtain ⟨d, rfl⟩ : ∃ d, k = 100 + d := ⟨k - 100, by omega⟩
  induction d with
  | zero => exact lives_eq
  | succ d ih => exact assartlaw36_lives.mono _ _ (ih (by omega))
theorem next_len (l : List Int) : (nextN l).1.length ≤ l.length := by
  unfold nextN
  by_cases h : goodN l
  · rw [if_pos h, next_weave l h.1]
    by_cases h2 : rankW l (zs l) (os l) + 1 < C (zs l) (os l)
    · rw [if_pos h2]; simp [weave_len]
    · rw [if_neg h2]; simp
  · rw [if_neg h]; simp
end LanesRanksAid
open LanesRanksAid

theorem LanesRanks : assartlaw36_LanesRanks.Pure := by
  intro l _ hb _
  have hl : l.length ≤ 4611686018427387904 := by omega
  have hn := next_len l
  refine ⟨l.length + 101, ?_⟩
  unfold assartlaw36_LanesRanks.f lanes_Rank.f assartref36_Rank.f lanes_Next.f assartref36_Next.f
  rw [if_pos hl, if_pos hl, Option.bind_some, Option.bind_some, Option.bind_some, Option.bind_some, if_pos rfl, if_pos rfl, same_eq _ (by omega) _ (by omega), Option.bind_some, if_pos rfl, if_pos (by simp), lives_any _ (by omega), Option.bind_some]

end Go.Proofs.Ytpmkkohnpfpifaa.Pure

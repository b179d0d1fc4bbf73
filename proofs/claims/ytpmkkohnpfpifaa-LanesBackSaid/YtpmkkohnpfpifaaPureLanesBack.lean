/- The i-th weave's rank is i; a weave is the one of its rank; the next one's rank is one more. Conditions: none. -/
import Derived.Test.YtpmkkohnpfpifaaYLanesBackx1
namespace Go.Proofs.Ytpmkkohnpfpifaa.Pure
open Go.RowKit Go.Proofs.Ytpmkkohnpfpifaa.X Go.Proofs.Ytpmkkohnpfpifaa.YLanesBack Go.Proofs.YtpmkkohnpfpifaaW.PrintWords Go.Proofs.YtpmkkohnpfpifaaW.PrintLast Go.Proofs.YtpmkkohnpfpifaaW.PrintMore

namespace LanesBackAid
theorem wf64 {a : Int} (h : (Lit.int .i64 a).wf = true) : -9223372036854775808 ≤ a ∧ a ≤ 9223372036854775807 := by
  simpa [Lit.wf, IntKind.min, IntKind.max, IntKind.bits, IntKind.signed] using h
theorem same_loop (l : List Int) (hl : l.length ≤ 9223372036854775807) (d : Nat) : ∀ (p k : Nat), p + d = l.length → d < k → assartlaw01_Ints_Same.l0 k l l (p : Int) = some true := by
  induction d with
  | zero =>
    intro p k hp hk
    obtain ⟨k, rfl⟩ : ∃ m, k = m + 1 := ⟨k - 1, by omega⟩
    simp only [assartlaw01_Ints_Same.l0]
    rw [if_neg (by omega)]
  | succ d ih =>
    intro p k hp hk
    obtain ⟨k, rfl⟩ : ∃ m, k = m + 1 := ⟨k - 1, by omega⟩
    simp only [assartlaw01_Ints_Same.l0]
    rw [if_pos (by omega), if_pos (by omega), if_pos (by omega), if_pos (by simp), w64 (a := (p : Int) + 1) (by omega) (by omega)]
    exact ih (p + 1) k (by omega) (by omega)
theorem same_eq (l : List Int) (hl : l.length ≤ 9223372036854775807) (k : Nat) (hk : l.length < k) : assartlaw01_Ints_Same.f k l l = some true := by
  unfold assartlaw01_Ints_Same.f
  rw [if_pos rfl]
  exact same_loop l hl l.length 0 k (by omega) hk
theorem C11 : C 1 1 = 2 := by rw [C_succ 0 0, C_row, C_zero]
theorem C21 : C 2 1 = 3 := by rw [C_succ 1 0, C_zero, C11]
theorem count21 : countN 2 1 = 3 := by
  rw [show (2 : Int) = ((2 : Nat) : Int) from rfl, show (1 : Int) = ((1 : Nat) : Int) from rfl, countN_nat 2 1 (by omega) (by omega), C21]; rfl
theorem weave3 : weave 3 2 1 1 = [0, 1, 0] := by
  have h2 : F 2 1 = 2 := C11
  have h1 : F 1 1 = 1 := C_row 1
  have h0 : F 1 0 = 1 := C_row 0
  simp [weave, h2, h1, h0]
theorem nth211 : nthN 2 1 1 = ([0, 1, 0], 0) := by
  unfold nthN
  rw [count21, if_pos ⟨⟨by omega, by omega, by omega, by omega⟩, by omega, by omega⟩]
  exact congrArg (fun x => (x, (0 : Int))) weave3
theorem lives_eq : assartlaw36_lives.f 100 = some true := by
  unfold assartlaw36_lives.f lanes_Nth.f lanes_Count.f
  rw [nth211, count21, Option.bind_some, Option.bind_some, if_pos rfl, same_eq _ (by simp) 100 (by simp), Option.bind_some, if_pos rfl]
  rfl
theorem weave_len (n : Nat) : ∀ a b i, (weave n a b i).length = n := by
  induction n with
  | zero => intro a b i; rfl
  | succ n ih =>
    intro a b i
    simp only [weave]
    split <;> simp [ih]
theorem nth_len (a b i : Int) : (nthN a b i).1.length ≤ 60 := by
  unfold nthN
  by_cases h : mayN a b ∧ 0 ≤ i ∧ i < countN a b
  · rw [if_pos h]
    obtain ⟨h0, h1, h2, h3⟩ := h.1
    simp only [weave_len]; omega
  · rw [if_neg h]; simp
theorem lives_any (k : Nat) (h : 100 ≤ k) : assartlaw36_lives.f k = some true := by
  obtain ⟨d, rfl⟩ : ∃ d, k = 100 + d := ⟨k - 100, by omega⟩
  induction d with
  | zero => exact lives_eq
  | succ d ih => exact assartlaw36_lives.mono _ _ (ih (by omega))
theorem next_len (l : List Int) : (nextN l).1.length ≤ l.length := by
  unfold nextN
  by_cases h : goodN l
  · rw [if_pos h, next_weave l h.1]
    by_cases h2 : rankW l (zs l) (os l) + 1 < C (zs l) (os l)
    · rw [if_pos h2]; simp [weave_len]
    · rw [if_neg h2]; simp
  · rw [if_neg h]; simp
theorem rank_weave (a b i : Int) (hm : mayN a b) (h0 : 0 ≤ i) (h1 : i < countN a b) : rankN (nthN a b i).1 = (i, 0) ∧ (nthN a b i).2 = 0 ∧ ((nthN a b i).1.length : Int) = a + b := by
  have hm' := hm
  obtain ⟨g0, g1, g2, g3⟩ := hm
  obtain ⟨a, rfl⟩ := Int.eq_ofNat_of_zero_le g0
  obtain ⟨b, rfl⟩ := Int.eq_ofNat_of_zero_le g2
  obtain ⟨i, rfl⟩ := Int.eq_ofNat_of_zero_le h0
  unfold nthN
  rw [if_pos ⟨hm', h0, h1⟩]
  rw [countN_nat a b (by omega) (by omega)] at h1
  simp only [Int.toNat_natCast]
  obtain ⟨w1, w2, w3, w4⟩ := weave_good (a + b) a b i rfl (by omega)
  refine ⟨?_, trivial, by rw [weave_len]; omega⟩
  unfold rankN
  rw [if_pos ⟨w1, by rw [w2, w3]; exact hm'⟩, w2, w3, w4]
theorem rank_good (l : List Int) (h : goodN l) : nthN (zs l) (os l) (rankN l).1 = (l, 0) ∧ (rankN l).1 = (rankW l (zs l) (os l) : Int) ∧ (rankN l).2 = 0 := by
  have hlt := rank_lt l h.1
  have hw := weave_rank l h.1
  have hlen := len_split l h.1
  obtain ⟨h0, h1, h2, h3⟩ := h.2
  have hm := h.2
  unfold rankN
  rw [if_pos h]
  refine ⟨?_, rfl, rfl⟩
  unfold nthN
  simp only []
  rw [countN_nat (zs l) (os l) (by omega) (by omega), if_pos ⟨hm, by omega, by omega⟩]
  simp only [Int.toNat_natCast]
  rw [← hlen, hw]
theorem next_good (l : List Int) (h : goodN l) : ((nextN l).2 = true ∧ rankN (nextN l).1 = ((rankN l).1 + 1, 0)) ∨ ((nextN l).2 = false ∧ (rankN l).1 + 1 = countN (zs l) (os l)) := by
  have hlt := rank_lt l h.1
  have hlen := len_split l h.1
  obtain ⟨h0, h1, h2, h3⟩ := h.2
  have hm := h.2
  obtain ⟨_, hr, _⟩ := rank_good l h
  rw [hr, countN_nat (zs l) (os l) (by omega) (by omega)]
  unfold nextN
  rw [if_pos h, next_weave l h.1]
  by_cases h4 : rankW l (zs l) (os l) + 1 < C (zs l) (os l)
  · rw [if_pos h4]
    obtain ⟨w1, w2, w3, w4⟩ := weave_good l.length (zs l) (os l) (rankW l (zs l) (os l) + 1) hlen.symm h4
    refine .inl ⟨rfl, ?_⟩
    simp only []
    unfold rankN
    rw [if_pos ⟨w1, by rw [w2, w3]; exact hm⟩, w2, w3, w4]; rfl
  · rw [if_neg h4]; exact .inr ⟨rfl, by omega⟩
theorem count_loop (l : List Int) (hl : l.length ≤ 4611686018427387904) (n : Int) (d : Nat) : ∀ (p b k : Nat), p + d = l.length → b ≤ p → d + 1 < k →
    ∃ k', k = k' + d ∧ assartlaw36_LanesBack.l0 k l n (b : Int) (p : Int) = assartlaw36_LanesBack.l0 k' l n ((b + os (l.drop p) : Nat) : Int) (l.length : Int) := by
  induction d with
  | zero =>
    intro p b k hp hb hk
    refine ⟨k, rfl, ?_⟩
    rw [List.drop_of_length_le (by omega), show p = l.length by omega]
    rfl
  | succ d ih =>
    intro p b k hp hb hk
    obtain ⟨k, rfl⟩ : ∃ m, k = m + 1 := ⟨k - 1, by omega⟩
    have e : ∀ x : Int, assartlaw36_LanesBack.l0 (k + 1) l n x (p : Int) = if rd l (p : Int) = 1 then assartlaw36_LanesBack.l0 k l n (wrap64 (x + 1)) ((p + 1 : Nat) : Int) else assartlaw36_LanesBack.l0 k l n x ((p + 1 : Nat) : Int) := by
      intro x
      simp only [assartlaw36_LanesBack.l0]
      rw [if_pos (by omega), if_pos (by omega), w64 (a := (p : Int) + 1) (by omega) (by omega)]
      rfl
    rw [e, drop_rd l p (by omega), os_cons]
    by_cases h1 : rd l (p : Int) = 1
    · obtain ⟨k', hk', hh⟩ := ih (p + 1) (b + 1) k (by omega) (by omega) (by omega)
      refine ⟨k', by omega, ?_⟩
      rw [if_pos h1, if_pos h1, w64 (by omega) (by omega), show (b : Int) + 1 = ((b + 1 : Nat) : Int) by omega, hh, show b + 1 + os (l.drop (p + 1)) = b + (os (l.drop (p + 1)) + 1) by omega]
    · obtain ⟨k', hk', hh⟩ := ih (p + 1) b k (by omega) (by omega) (by omega)
      refine ⟨k', by omega, ?_⟩
      rw [if_neg h1, if_neg h1, hh]; rfl
theorem j2_true (l : List Int) (h : goodN l) (hl : l.length ≤ 4611686018427387904) (k : Nat) (hk : 101 ≤ k) : assartlaw36_LanesBack.j2 k l (rankN l).1 (os l : Int) false = some true := by
  obtain ⟨k, rfl⟩ : ∃ m, k = m + 1 := ⟨k - 1, by omega⟩
  have hlen := len_split l h.1
  have hnl := next_len l
  obtain ⟨h0, h1, h2, h3⟩ := h.2
  have hlt := rank_lt l h.1
  have hb := C_bound (zs l) (os l) (by omega) (by omega)
  obtain ⟨_, hr, _⟩ := rank_good l h
  simp only [assartlaw36_LanesBack.j2]
  rw [if_neg (by decide)]
  unfold lanes_Next.f lanes_Count.f
  rw [if_pos hl, Option.bind_some]
  rcases next_good l h with ⟨e1, e2⟩ | ⟨e1, e2⟩
  · rw [if_pos e1]
    unfold lanes_Rank.f
    rw [if_pos (by omega), Option.bind_some, e2, hr, w64 (by omega) (by omega), if_pos rfl, if_pos rfl, lives_any _ (by omega), Option.bind_some]
  · rw [e1, if_neg (by decide), Option.bind_some, w64 (a := (l.length : Int) - (os l : Int)) (by omega) (by omega), show (l.length : Int) - (os l : Int) = (zs l : Int) by omega, ← e2, hr, w64 (by omega) (by omega), if_pos (by omega), lives_any _ (by omega), Option.bind_some]
theorem j0_true (l : List Int) (hl : l.length ≤ 4611686018427387904) : assartlaw36_LanesBack.j0 (2 * l.length + 200) l = some true := by
  simp only [assartlaw36_LanesBack.j0]
  unfold lanes_Rank.f
  rw [if_pos hl, Option.bind_some]
  by_cases h : goodN l
  · obtain ⟨hn, hr, h0⟩ := rank_good l h
    have hlen := len_split l h.1
    rw [if_pos h0]
    obtain ⟨k', hk', hh⟩ := count_loop l hl (rankN l).1 l.length 0 0 (2 * l.length + 199) (by omega) (by omega) (by omega)
    rw [List.drop_zero, Nat.zero_add] at hh
    refine hh.trans ?_
    obtain ⟨k', rfl⟩ : ∃ m, k' = m + 1 := ⟨k' - 1, by omega⟩
    simp only [assartlaw36_LanesBack.l0]
    rw [if_neg (by omega), w64 (by omega) (by omega), show (l.length : Int) - (os l : Int) = (zs l : Int) by omega]
    unfold lanes_Nth.f
    rw [hn, Option.bind_some, if_pos rfl, same_eq _ (show l.length ≤ _ by omega) _ (show l.length < _ by omega), Option.bind_some]
    exact j2_true l h hl _ (by omega)
  · unfold rankN
    rw [if_neg h, if_neg (by decide), if_pos rfl, lives_any _ (by omega), Option.bind_some]
end LanesBackAid
open LanesBackAid

theorem LanesBack : assartlaw36_LanesBack.Pure := by
  intro a b i l _ _ _ _ hb _
  have hl : l.length ≤ 4611686018427387904 := by omega
  refine ⟨2 * l.length + 200, ?_⟩
  unfold assartlaw36_LanesBack.f lanes_Nth.f
  rw [Option.bind_some]
  by_cases h : mayN a b ∧ 0 ≤ i ∧ i < countN a b
  · obtain ⟨h1, h2, h3⟩ := rank_weave a b i h.1 h.2.1 h.2.2
    obtain ⟨g0, g1, g2, g3⟩ := h.1
    have hnl := nth_len a b i
    unfold lanes_Rank.f
    rw [if_pos h2, if_pos (by omega), Option.bind_some, h1, if_pos rfl, if_pos rfl, w64 (by omega) (by omega), if_pos h3]
    exact j0_true l hl
  · rw [if_neg (by unfold nthN; rw [if_neg h]; decide)]
    exact j0_true l hl

end Go.Proofs.Ytpmkkohnpfpifaa.Pure

/- Two laws of the arena, walked by hand: which sizes an arena may have; an arena that is none answers so. Conditions: none. -/
import Derived.Test.YtahkfgeaegdbjaaXLives
namespace Go.Proofs.Ytahkfgeaegdbjaa.X
open Go.RowKit Go.Proofs.YtahkfgeaegdbjaaW.PrintWords
set_option linter.unusedVariables false
set_option linter.unusedSimpArgs false

theorem len_to {w : World} {q g : Nat} {ws : List Int} {c : Int} (h : Ar w q g ws c) (n : Int) (hn : (ws.length : Int) = n) : Calls Try.prog 10 #[.pointer (some ⟨q, 0, none⟩)] w fun e w' => e = .returned (.int .i64 n) ∧ w' = w := by
  subst hn
  exact len_calls w q g ws c h
theorem sizes_walk (n : Int) (w : World) : Calls Try.prog 3 #[.int .i64 n] w fun e w' => e = .returned (.bool true) ∧ Below w.heap.size w w' := by
  by_cases c0 : n > 4000 ∧ n < 1048574
  · have b0 : decide ((4000 : Int) < n) = true := decide_eq_true c0.1
    have b1 : decide (n < 1048574) = true := decide_eq_true c0.2
    clear c0
    go_enter Try.func3, Try.ntmps3
    go_wp2_with (go_at_call 8; refine (lives_calls _).mono ?_; rintro e w1 ⟨rfl, hB⟩)
    go_ret
    exact ⟨rfl, hB⟩
  have bb : (decide ((4000 : Int) < n) = false) ∨ (decide ((4000 : Int) < n) = true ∧ decide (n < 1048574) = false) := by
    by_cases h : (4000 : Int) < n
    · exact .inr ⟨decide_eq_true h, decide_eq_false (fun hh => c0 ⟨h, hh⟩)⟩
    · exact .inl (decide_eq_false h)
  clear c0
  by_cases c1 : n < 1 ∨ 1048576 < n
  · have bc : (decide (n < 1) = true) ∨ (decide (n < 1) = false ∧ decide ((1048576 : Int) < n) = true) := by
      by_cases h : n < 1
      · exact .inl (decide_eq_true h)
      · exact .inr ⟨decide_eq_false h, decide_eq_true (by omega)⟩
    have HC := Aside0.mk c1
    clear c1
    rcases bb with bb | ⟨bb, bb2⟩ <;> rcases bc with bc | ⟨bc, bc2⟩
    all_goals
      go_enter Try.func3, Try.ntmps3
      go_wp2_with (first | (go_at_call 9; refine (new_bad n _ HC.out).mono ?_; rintro e w1 ⟨rfl, rfl⟩) | (go_at_call 8; refine (lives_calls _).mono ?_; rintro e w2 ⟨rfl, hB⟩))
      go_ret
      exact ⟨rfl, hB⟩
  · have b2 : decide (n < 1) = false := decide_eq_false (by omega)
    have b3 : decide ((1048576 : Int) < n) = false := decide_eq_false (by omega)
    have HC := Aside0.mk (And.intro (show 1 ≤ n by omega) (show n ≤ 1048576 by omega))
    have HL := Aside0.mk (show ((List.replicate n.toNat (0 : Int)).length : Int) = n by rw [List.length_replicate]; omega)
    clear c1
    rcases bb with bb | ⟨bb, bb2⟩
    all_goals
      go_enter Try.func3, Try.ntmps3
      go_wp2_with (first | (go_at_call 9; refine (new_calls n _ HC.out.1 HC.out.2).mono ?_; rintro e w1 ⟨q, g, rfl, hA, hq, hg, hB1⟩) | (go_at_call 10; refine (len_to hA n HL.out).mono ?_; rintro e w3 ⟨rfl, rfl⟩) | (go_at_call 11; refine (count_calls _ q g _ _ hA).mono ?_; rintro e w4 ⟨rfl, rfl⟩) | (go_at_call 8; refine (lives_calls _).mono ?_; rintro e w2 ⟨rfl, hB⟩))
      go_ret
      exact ⟨rfl, hB1.trans (hB.mono hB1.size)⟩

theorem nil_walk (a x : Int) (w : World) : Calls Try.prog 7 #[.int .i64 a, .int .i64 x] w fun e w' => e = .returned (.bool true) ∧ Below w.heap.size w w' := by
  go_enter Try.func7, Try.ntmps7
  go_wp2_with (first | (go_at_call 14; refine (load_nil _ a).mono ?_; rintro e w1 ⟨rfl, hB1⟩) | (go_at_call 17; refine (store_nil _ a x).mono ?_; rintro e w2 ⟨rfl, hB2⟩) | (go_at_call 18; refine (swap_nil _ a x x).mono ?_; rintro e w3 ⟨rfl, hB3⟩) | (go_at_call 13; refine (bump_nil _ a x).mono ?_; rintro e w4 ⟨rfl, hB4⟩) | (go_at_call 10; refine (len_nil _).mono ?_; rintro e w5 ⟨rfl, rfl⟩) | (go_at_call 11; refine (count_nil _).mono ?_; rintro e w6 ⟨rfl, rfl⟩) | (go_at_call 15; refine (words_nil _).mono ?_; rintro e w7 ⟨rfl, rfl⟩) | (go_at_call 20; refine (copy_nil _).mono ?_; rintro e w8 ⟨rfl, rfl⟩) | (go_at_call 8; refine (lives_calls _).mono ?_; rintro e w9 ⟨rfl, hB9⟩))
  go_ret
  have h2 := hB1.trans (hB2.mono hB1.size)
  have h3 := h2.trans (hB3.mono h2.size)
  have h4 := h3.trans (hB4.mono h3.size)
  exact ⟨rfl, h4.trans (hB9.mono h4.size)⟩

end Go.Proofs.Ytahkfgeaegdbjaa.X

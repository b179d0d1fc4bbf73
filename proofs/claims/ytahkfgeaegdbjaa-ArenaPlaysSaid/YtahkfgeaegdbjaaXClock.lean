/- A word that is bumped tells rising numbers, each once, up to the end, and then stays: the walk by hand. Conditions: none. -/
import Derived.Test.YtahkfgeaegdbjaaXFill
namespace Go.Proofs.Ytahkfgeaegdbjaa.X
open Go.RowKit Go.Proofs.YtahkfgeaegdbjaaW.PrintWords Go.Proofs.YtahkfgeaegdbjaaW.PrintLast Go.Proofs.YtahkfgeaegdbjaaW.PrintMore
set_option linter.unusedVariables false
set_option linter.unusedSimpArgs false

theorem lit_C (w : World) (f : Int) : Kd.C (Kd.int .i64) (w.alloc (.cells #[.int .i64 f] 3)) (some ⟨w.heap.size, 0, none⟩) 1 [f] := by
  have h := own_lit w 0 3 .i64 [f] (Nat.zero_le _) (by simp)
  exact (Kd.R_reads' (Kd.R_of_own (enc := Value.int .i64) (h1 := fun _ => rfl) (ok := fun _ => True) (xs := [f]) (by simpa [nums, encs] using h) (fun _ _ => trivial))).2.2
theorem in1 (l : Int) : inR [l] 0 := ⟨by decide, by simp⟩
theorem rd1 (l : Int) : rd [l] 0 = l := by simp [rd]

set_option maxHeartbeats 2000000 in
theorem clock_walk (f m t : Int) (w : World) : Calls Try.prog 4 #[.int .i64 f, .int .i64 m, .int .i64 t] w fun e w' => e = .returned (.bool true) ∧ Below w.heap.size w w' := by
  by_cases h0 : t < 0
  · have b0 : decide (t < 0) = true := decide_eq_true h0
    clear h0
    go_enter Try.func4, Try.ntmps4
    go_wp2_with (go_at_call 8; refine (lives_calls _).mono ?_; rintro e w1 ⟨rfl, hB⟩)
    go_ret
    exact ⟨rfl, hB⟩
  have b0 : decide (t < 0) = false := decide_eq_false h0
  by_cases h1 : 100 < t
  · have b1 : decide (100 < t) = true := decide_eq_true h1
    clear h0 h1
    go_enter Try.func4, Try.ntmps4
    go_wp2_with (go_at_call 8; refine (lives_calls _).mono ?_; rintro e w1 ⟨rfl, hB⟩)
    go_ret
    exact ⟨rfl, hB⟩
  have b1 : decide (100 < t) = false := decide_eq_false h1
  by_cases h2 : f < 0
  · have b2 : decide (f < 0) = true := decide_eq_true h2
    clear h0 h1 h2
    go_enter Try.func4, Try.ntmps4
    go_wp2_with (go_at_call 8; refine (lives_calls _).mono ?_; rintro e w1 ⟨rfl, hB⟩)
    go_ret
    exact ⟨rfl, hB⟩
  have b2 : decide (f < 0) = false := decide_eq_false h2
  by_cases h3 : 1125899906842624 < f
  · have b3 : decide (1125899906842624 < f) = true := decide_eq_true h3
    clear h0 h1 h2 h3
    go_enter Try.func4, Try.ntmps4
    go_wp2_with (go_at_call 8; refine (lives_calls _).mono ?_; rintro e w1 ⟨rfl, hB⟩)
    go_ret
    exact ⟨rfl, hB⟩
  have b3 : decide (1125899906842624 < f) = false := decide_eq_false h3
  by_cases h4 : m < 0
  · have b4 : decide (m < 0) = true := decide_eq_true h4
    clear h0 h1 h2 h3 h4
    go_enter Try.func4, Try.ntmps4
    go_wp2_with (go_at_call 8; refine (lives_calls _).mono ?_; rintro e w1 ⟨rfl, hB⟩)
    go_ret
    exact ⟨rfl, hB⟩
  have b4 : decide (m < 0) = false := decide_eq_false h4
  by_cases h5 : 1125899906842624 < m
  · have b5 : decide (1125899906842624 < m) = true := decide_eq_true h5
    clear h0 h1 h2 h3 h4 h5
    go_enter Try.func4, Try.ntmps4
    go_wp2_with (go_at_call 8; refine (lives_calls _).mono ?_; rintro e w1 ⟨rfl, hB⟩)
    go_ret
    exact ⟨rfl, hB⟩
  have b5 : decide (1125899906842624 < m) = false := decide_eq_false h5
  have HI := Aside0.mk (And.intro h0 (And.intro h1 (And.intro h2 (And.intro h3 (And.intro h4 h5)))))
  clear h0 h1 h2 h3 h4 h5
  go_enter Try.func4, Try.ntmps4
  go_wp2_with (go_at_call 12; refine (filled_calls _ 1 [f] _ (lit_C w f) (by simp) (by simp)).mono ?_; rintro e w1 ⟨q, g, rfl, hA, hq, hg, hB⟩)
  have hB0 := ((Below.refl w.heap.size w).alloc (Nat.le_refl _) (.cells #[.int .i64 f] 3)).trans (hB.mono (by simp))
  have hq0 : w.heap.size ≤ q := by simp at hq; omega
  have hg0 : w.heap.size ≤ g := by simp at hg; omega
  go_loopg [8, 9] t.toNat (fun kq v8 v9 w' => ∃ (l i c : Int), v8 = .int .i64 l ∧ v9 = .int .i64 i ∧ 0 ≤ i ∧ i + (kq : Int) = t ∧ Aside0 (f ≤ l ∧ (l ≤ f ∨ l ≤ m)) ∧ Aside0 (Ar w' q g [l] c) ∧ Below w.heap.size w w')
  case atStart => exact ⟨f, 0, _, rfl, rfl, by omega, by have := HI.out; omega, ⟨by omega, .inl (by omega)⟩, ⟨hA⟩, hB0⟩
  case round =>
    clear hA hB hB0 hq hg
    obtain ⟨l, i, c, rfl, rfl, hi0, hik, HL, HA, hbel⟩ := hrel
    by_cases hlt : i < t
    · have hd : decide (i < t) = true := decide_eq_true hlt
      obtain ⟨gk, rfl⟩ : ∃ k, gk = k + 1 := ⟨gk - 1, by omega⟩
      have HM := Aside0.mk (And.intro hi0 (And.intro hik hlt))
      clear hi0 hik hlt
      by_cases hm : l < m
      · have hd2 : decide (l < m) = true := decide_eq_true hm
        have hw : wrap64 (l + 1) = l + 1 := by have := HI.out; have := HL.out; rw [w64 (by omega) (by omega)]
        have HW := Aside0.mk (And.intro hw hm)
        have HS : Aside0 ((if inR [l] 0 then [l].set (0 : Int).toNat (buN (rd [l] 0) m) else [l]) = [wrap64 (l + 1)]) := ⟨by rw [if_pos (in1 l), rd1, buN, if_neg (by omega)]; rfl⟩
        have HT : Aside0 ((if inR [l] 0 then buN (rd [l] 0) m else 0) = wrap64 (l + 1)) := ⟨by rw [if_pos (in1 l), rd1, buN, if_neg (by omega)]⟩
        have HE : Aside0 ((if inR [l] 0 then buE (rd [l] 0) m else 3) = 0) := ⟨by rw [if_pos (in1 l), rd1, buE, if_neg (by omega)]⟩
        clear hm hw
        go_wp2_with (go_at_call 13; refine (bump_to HA.out 0 m _ _ _ 0 HS.out rfl HT.out HE.out).mono ?_; rintro e w2 ⟨rfl, hA2, hK⟩)
        go_roundg gk
        case measure => omega
        case rel =>
          obtain ⟨hi0, hik, hlt⟩ := HM.out
          obtain ⟨hw, hm⟩ := HW.out
          have := HI.out
          have := HL.out
          exact ⟨wrap64 (l + 1), i + 1, _, rfl, by rw [w64 (by omega) (by omega)], by omega, by omega, ⟨by omega, by omega⟩, ⟨hA2⟩, Keep.below hbel hK hbel.size hq0 hg0⟩
      · have hd2 : decide (l < m) = false := decide_eq_false hm
        have HS : Aside0 ((if inR [l] 0 then [l].set (0 : Int).toNat (buN (rd [l] 0) m) else [l]) = [l]) := ⟨by rw [if_pos (in1 l), rd1, buN, if_pos (by omega)]; rfl⟩
        have HT : Aside0 ((if inR [l] 0 then buN (rd [l] 0) m else 0) = l) := ⟨by rw [if_pos (in1 l), rd1, buN, if_pos (by omega)]⟩
        have HE : Aside0 ((if inR [l] 0 then buE (rd [l] 0) m else 3) = 8) := ⟨by rw [if_pos (in1 l), rd1, buE, if_pos (by omega)]⟩
        clear hm
        go_wp2_with (go_at_call 13; refine (bump_to HA.out 0 m _ _ _ 8 HS.out rfl HT.out HE.out).mono ?_; rintro e w2 ⟨rfl, hA2, hK⟩)
        go_roundg gk
        case measure => omega
        case rel =>
          obtain ⟨hi0, hik, hlt⟩ := HM.out
          have := HI.out
          have := HL.out
          exact ⟨l, i + 1, _, rfl, by rw [w64 (by omega) (by omega)], by omega, by omega, ⟨by omega, by omega⟩, ⟨hA2⟩, Keep.below hbel hK hbel.size hq0 hg0⟩
    · have hd : decide (i < t) = false := decide_eq_false hlt
      have HT : Aside0 ((if inR [l] 0 then rd [l] 0 else 0) = l) := ⟨by rw [if_pos (in1 l), rd1]⟩
      have HE : Aside0 ((if inR [l] 0 then (0 : Int) else 3) = 0) := ⟨if_pos (in1 l)⟩
      clear hi0 hik hlt
      go_wp2_with (first | (go_at_call 14; refine (load_to HA.out 0 _ _ 0 rfl HT.out HE.out).mono ?_; rintro e w2 ⟨rfl, hA2, hK⟩) | (go_at_call 8; refine (lives_calls _).mono ?_; rintro e w3 ⟨rfl, hB3⟩))
      go_ret
      have h2 := Keep.below hbel hK hbel.size hq0 hg0
      exact ⟨rfl, h2.trans (hB3.mono h2.size)⟩

end Go.Proofs.Ytahkfgeaegdbjaa.X

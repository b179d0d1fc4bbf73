/- The printed function of ScriptCleans tells true. Conditions: none. -/
import Derived.Test.YtdaagoagfenadaaDoorXScrS
import Derived.Test.YtdaagoagfenadaaDoorYTwf18
import Derived.Test.YtdaagoagfenadaaDoorYTwf19
import Derived.Test.YtdaagoagfenadaaDoorYTwf20
import Derived.Test.YtdaagoagfenadaaDoorYTwf21
import Derived.Test.YtdaagoagfenadaaDoorYTwf7
namespace Go.Proofs.YtdaagoagfenadaaDoor.X
open Go.RowKit Go.Proofs.YtdaagoagfenadaaDoor.YTw Go.Proofs.YtdaagoagfenadaaDoorW.PrintWords Go.Proofs.YtdaagoagfenadaaDoorW.PrintLast Go.Proofs.YtdaagoagfenadaaDoorW.PrintMore
set_option linter.unusedVariables false
set_option linter.unusedSimpArgs false
/-- Does an entry do anything? -/
def rightB (c0 c1 : Int) (x : S25) : Bool := if x.f1 < 0 then false else if x.f1 ≥ c0 then false else if x.f0 = 0 then true else if x.f0 = 1 then true else if x.f0 = 2 then (if x.f2 ≥ 0 then decide (x.f2 < c1) else false) else false
theorem refright_f (c0 c1 c2 c3 c4 c5 c6 c7 c8 c9 c10 : Int) (x : S25) : assartref31_Right.f c0 c1 c2 c3 c4 c5 c6 c7 c8 c9 c10 x.f0 x.f1 x.f2 x.f3.f0 x.f3.f1 x.f3.f2 x.f3.f3 x.f3.f4 = some (rightB c0 c1 x) := by
  unfold assartref31_Right.f rightB
  split
  · rfl
  · split
    · rfl
    · split
      · rfl
      · split
        · rfl
        · split
          · split
            · rfl
            · rfl
          · rfl
theorem right_j1 (k : Nat) (z : Int) (b : Bool) (c0 c1 c2 c3 c4 c5 c6 c7 c8 c9 c10 : Int) (x : S25) : script_Right.j1 (k + 1) z b c0 c1 c2 c3 c4 c5 c6 c7 c8 c9 c10 x.f0 x.f1 x.f2 x.f3.f0 x.f3.f1 x.f3.f2 x.f3.f3 x.f3.f4 = some (if b = true then true else if z = 2 then (if x.f2 ≥ 0 then decide (x.f2 < c1) else false) else false) := by
  rw [script_Right.j1]
  split
  · rfl
  · split
    · split
      · rfl
      · rfl
    · rfl
theorem right_f (k : Nat) (c0 c1 c2 c3 c4 c5 c6 c7 c8 c9 c10 : Int) (x : S25) : script_Right.f (k + 1 + 1) c0 c1 c2 c3 c4 c5 c6 c7 c8 c9 c10 x.f0 x.f1 x.f2 x.f3.f0 x.f3.f1 x.f3.f2 x.f3.f3 x.f3.f4 = some (rightB c0 c1 x) := by
  unfold script_Right.f rightB
  by_cases h1 : x.f1 < 0
  · rw [if_pos h1, if_pos h1, script_Right.j0, if_pos rfl]
  · rw [if_neg h1, if_neg h1, script_Right.j0]
    by_cases h2 : x.f1 ≥ c0
    · rw [decide_eq_true h2, if_pos rfl, if_pos h2]
    · rw [decide_eq_false h2, if_neg (by decide), if_neg h2]
      by_cases h3 : x.f0 = 0
      · rw [if_pos h3, if_pos h3, right_j1, if_pos (by rw [h3]; rfl)]
      · rw [if_neg h3, if_neg h3, right_j1]
        by_cases h4 : x.f0 = 1
        · rw [if_pos h4, if_pos (by rw [h4]; rfl)]
        · rw [if_neg h4, if_neg (by simpa using h4)]
theorem eta_S (x : S25) : (⟨x.f0, x.f1, x.f2, ⟨x.f3.f0, x.f3.f1, x.f3.f2, x.f3.f3, x.f3.f4⟩⟩ : S25) = x := rfl
theorem clean_run (c0 c1 c2 c3 c4 c5 c6 c7 c8 c9 c10 : Int) (l : List S25) (hl : l.length ≤ 100000) : ∀ (d i k : Nat) (acc : List S25), i + d = l.length → acc.length ≤ i → script_Clean.l0 (k + 1 + 1 + 1 + d) acc l (l.length : Int) (i : Int) c0 c1 c2 c3 c4 c5 c6 c7 c8 c9 c10 = some (acc ++ (l.drop i).filter (rightB c0 c1))
  | 0, i, k, acc, hi, ha => by
    rw [show k + 1 + 1 + 1 + 0 = (k + 1 + 1) + 1 by rfl, script_Clean.l0, if_neg (by omega), List.drop_eq_nil_of_le (by omega)]
    simp
  | d + 1, i, k, acc, hi, ha => by
    have hin : i < l.length := by omega
    rw [show k + 1 + 1 + 1 + (d + 1) = (k + 1 + 1 + 1 + d) + 1 by omega, script_Clean.l0, if_pos (by omega), if_pos (by omega), if_pos (by omega), drop_rd l i hin]
    obtain ⟨x, hx⟩ : ∃ x, rd_T25 l (i : Int) = x := ⟨_, rfl⟩
    rw [hx, show k + 1 + 1 + 1 + d = (k + 1 + d) + 1 + 1 by omega, right_f, Option.bind_some, eta_S, w64n i (by omega), List.filter_cons]
    by_cases hr : rightB c0 c1 x = true
    · rw [if_pos hr, if_pos hr, if_pos (by omega), show (k + 1 + d) + 1 + 1 = k + 1 + 1 + 1 + d by omega, clean_run c0 c1 c2 c3 c4 c5 c6 c7 c8 c9 c10 l hl d (i + 1) k (acc ++ [x]) (by omega) (by simp; omega)]
      simp
    · rw [if_neg hr, if_neg hr, show (k + 1 + d) + 1 + 1 = k + 1 + 1 + 1 + d by omega, clean_run c0 c1 c2 c3 c4 c5 c6 c7 c8 c9 c10 l hl d (i + 1) k acc (by omega) (by omega)]
theorem refclean_run (c0 c1 c2 c3 c4 c5 c6 c7 c8 c9 c10 : Int) (l : List S25) (hl : l.length ≤ 100000) : ∀ (d i k : Nat) (acc : List S25), i + d = l.length → acc.length ≤ i → assartref31_Clean.l0 (k + 1 + d) l acc (i : Int) c0 c1 c2 c3 c4 c5 c6 c7 c8 c9 c10 = some (acc ++ (l.drop i).filter (rightB c0 c1))
  | 0, i, k, acc, hi, ha => by
    rw [show k + 1 + 0 = k + 1 by rfl, assartref31_Clean.l0, if_neg (by omega), List.drop_eq_nil_of_le (by omega)]
    simp
  | d + 1, i, k, acc, hi, ha => by
    have hin : i < l.length := by omega
    rw [show k + 1 + (d + 1) = (k + 1 + d) + 1 by omega, assartref31_Clean.l0, if_pos (by omega), if_pos (by omega), drop_rd l i hin]
    obtain ⟨x, hx⟩ : ∃ x, rd_T25 l (i : Int) = x := ⟨_, rfl⟩
    rw [hx, refright_f, Option.bind_some, eta_S, w64n i (by omega), List.filter_cons]
    by_cases hr : rightB c0 c1 x = true
    · rw [if_pos hr, if_pos hr, if_pos (by omega), refclean_run c0 c1 c2 c3 c4 c5 c6 c7 c8 c9 c10 l hl d (i + 1) k (acc ++ [x]) (by omega) (by simp; omega)]
      simp
    · rw [if_neg hr, if_neg hr, refclean_run c0 c1 c2 c3 c4 c5 c6 c7 c8 c9 c10 l hl d (i + 1) k acc (by omega) (by omega)]
theorem cleans_run (c0 c1 c2 c3 c4 c5 c6 c7 c8 c9 c10 : Int) (l : List S25) (hl : l.length ≤ 5000) : ∀ (d i k : Nat), i + d = l.length → 200000 ≤ k → assartlaw31_ScriptCleans.l0 (k + 1 + d) l (i : Int) c0 c1 c2 c3 c4 c5 c6 c7 c8 c9 c10 = some true
  | 0, i, k, hi, hk => by
    rw [show k + 1 + 0 = k + 1 by rfl, assartlaw31_ScriptCleans.l0, if_neg (by omega)]
    have h1 := clean_run c0 c1 c2 c3 c4 c5 c6 c7 c8 c9 c10 l (by omega) l.length 0 (k - 3 - l.length) [] (by omega) (Nat.le_refl _)
    have h2 := refclean_run c0 c1 c2 c3 c4 c5 c6 c7 c8 c9 c10 l (by omega) l.length 0 (k - 1 - l.length) [] (by omega) (Nat.le_refl _)
    rw [show k - 3 - l.length + 1 + 1 + 1 + l.length = k by omega] at h1
    rw [show k - 1 - l.length + 1 + l.length = k by omega] at h2
    have e1 : script_Clean.f k c0 c1 c2 c3 c4 c5 c6 c7 c8 c9 c10 l = some (l.filter (rightB c0 c1)) := h1
    have e2 : assartref31_Clean.f k c0 c1 c2 c3 c4 c5 c6 c7 c8 c9 c10 l = some (l.filter (rightB c0 c1)) := h2
    have hf : (l.filter (rightB c0 c1)).length ≤ 5000 := Nat.le_trans (List.length_filter_le _ _) hl
    rw [e1, Option.bind_some, e2, Option.bind_some, same31_f _ (by omega) k (by omega), Option.bind_some, if_pos rfl, lives_f]
    rfl
  | d + 1, i, k, hi, hk => by
    have hin : i < l.length := by omega
    rw [show k + 1 + (d + 1) = (k + 1 + d) + 1 by omega, assartlaw31_ScriptCleans.l0, if_pos (by omega), if_pos (by omega)]
    obtain ⟨x, hx⟩ : ∃ x, rd_T25 l (i : Int) = x := ⟨_, rfl⟩
    have e : script_Right.f (k + 1 + d) c0 c1 c2 c3 c4 c5 c6 c7 c8 c9 c10 x.f0 x.f1 x.f2 x.f3.f0 x.f3.f1 x.f3.f2 x.f3.f3 x.f3.f4 = some (rightB c0 c1 x) := by
      have := right_f (k - 1 + d) c0 c1 c2 c3 c4 c5 c6 c7 c8 c9 c10 x
      rw [show k - 1 + d + 1 + 1 = k + 1 + d by omega] at this
      exact this
    rw [hx, e, Option.bind_some, refright_f, Option.bind_some, if_neg (by simp), w64n i (by omega)]
    exact cleans_run c0 c1 c2 c3 c4 c5 c6 c7 c8 c9 c10 l hl d (i + 1) k (by omega) hk
theorem cleans_law (c0 c1 c2 c3 c4 c5 c6 c7 c8 c9 c10 : Int) (l : List S25) : assartlaw31_ScriptCleans.f (200000 + 1 + l.length) c0 c1 c2 c3 c4 c5 c6 c7 c8 c9 c10 l = some true := by
  unfold assartlaw31_ScriptCleans.f
  by_cases hb : 5000 < l.length
  · rw [if_pos (by omega), lives_f]; rfl
  · rw [if_neg (by omega)]
    exact cleans_run c0 c1 c2 c3 c4 c5 c6 c7 c8 c9 c10 l (by omega) l.length 0 200000 (by omega) (Nat.le_refl _)
end Go.Proofs.YtdaagoagfenadaaDoor.X

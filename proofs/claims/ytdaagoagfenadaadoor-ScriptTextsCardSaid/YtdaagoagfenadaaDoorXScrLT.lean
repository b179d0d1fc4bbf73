/- The printed function of ScriptTexts tells true. Conditions: none. -/
import Derived.Test.YtdaagoagfenadaaDoorXScrG
import Derived.Test.YtdaagoagfenadaaDoorXScrS
import Derived.Test.YtdaagoagfenadaaDoorYTwf4
import Derived.Test.YtdaagoagfenadaaDoorMC
namespace Go.Proofs.YtdaagoagfenadaaDoor.X
open Go.RowKit Go.Proofs.YtdaagoagfenadaaDoor.YTw Go.Proofs.YtdaagoagfenadaaDoorW.PrintWords Go.Proofs.YtdaagoagfenadaaDoorW.PrintLast Go.Proofs.YtdaagoagfenadaaDoorW.PrintMore
set_option linter.unusedVariables false
set_option linter.unusedSimpArgs false
theorem parse_f (s : List UInt8) : script_Parse.f (bs s) = some (parseTT s) := rfl
theorem parse_len (s : List UInt8) : (parseTT s).1.length ≤ 4096 := by
  by_cases h : (parseTT s).2 = 0
  · obtain ⟨m, hm⟩ : ∃ m, parseTT s = (m, 0) := ⟨_, Prod.ext rfl h⟩
    rw [hm]
    unfold parseTT at hm
    split at hm
    · cases hm
    · exact (parseG_ok _ _ _ hm).2.2
  · rw [parse_fail s h]; decide
theorem texts_law (l : List S25) (h : ∀ x ∈ l, inS x) (s : List UInt8) : assartlaw31_ScriptTexts.f (200000 + 1) l (bs s) = some true := by
  unfold assartlaw31_ScriptTexts.f
  have hl : ∀ k, assartlaw31_ScriptTexts.j0 (k + 1) l (bs s) true = some true := by
    intro k
    rw [assartlaw31_ScriptTexts.j0]
    rw [if_pos rfl, lives_f]
    rfl
  by_cases hb : 5000 < l.length
  · rw [if_pos (by omega)]; exact hl 200000
  · rw [if_neg (by omega), bs_size]
    by_cases hc : 70000 < s.length
    · rw [decide_eq_true (by omega)]; exact hl 200000
    · rw [decide_eq_false (by omega)]
      rw [assartlaw31_ScriptTexts.j0]
      rw [if_neg (by decide), print_f l h, Option.bind_some, refprint_f l h 200000 (by omega), Option.bind_some, parse_f, Option.bind_some, refparse31_f s (by omega) 200000 (by omega), Option.bind_some, if_pos rfl, if_pos rfl, same31_f _ (by have := parse_len s; omega) 200000 (by omega), Option.bind_some, if_pos rfl, if_pos rfl, lives_f]
      rfl
end Go.Proofs.YtdaagoagfenadaaDoor.X

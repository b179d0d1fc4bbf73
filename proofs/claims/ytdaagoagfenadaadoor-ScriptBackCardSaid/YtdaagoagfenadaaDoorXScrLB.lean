/- The printed function of ScriptBack tells true. Conditions: none. -/
import Derived.Test.YtdaagoagfenadaaDoorXScrS
import Derived.Test.YtdaagoagfenadaaDoorYTwf5
import Derived.Test.YtdaagoagfenadaaDoorMC
import Derived.Test.YtdaagoagfenadaaDoorYTwf17
namespace Go.Proofs.YtdaagoagfenadaaDoor.X
open Go.RowKit Go.Proofs.YtdaagoagfenadaaDoor.YTw Go.Proofs.YtdaagoagfenadaaDoorW.PrintWords Go.Proofs.YtdaagoagfenadaaDoorW.PrintLast Go.Proofs.YtdaagoagfenadaaDoorW.PrintMore
set_option linter.unusedVariables false
set_option linter.unusedSimpArgs false
theorem parse_f (s : List UInt8) : script_Parse.f (bs s) = some (parseTT s) := rfl
theorem back_j1 (k : Nat) (s : List UInt8) : assartlaw31_ScriptBack.j1 (k + 1) (bs s) = some true := by
  rw [assartlaw31_ScriptBack.j1]
  rw [parse_f, Option.bind_some]
  by_cases h0 : (parseTT s).2 = 0
  · obtain ⟨m, hm⟩ : ∃ m, parseTT s = (m, 0) := ⟨_, Prod.ext rfl h0⟩
    obtain ⟨h1, h2⟩ := print_parse s m hm
    rw [hm, if_pos rfl]
    show (script_Print.f m).bind _ = _
    rw [print_f m h2, h1, Option.bind_some, if_pos rfl, if_pos rfl, lives_f]
    rfl
  · rw [if_neg h0, parse_fail s h0, if_pos (show ((([] : List S25).length : Int) = 0) by rfl), lives_f]
    rfl
theorem back_law (l : List S25) (h : ∀ x ∈ l, inS x) (s : List UInt8) : assartlaw31_ScriptBack.f (200000 + 1 + 1) l (bs s) = some true := by
  unfold assartlaw31_ScriptBack.f
  have hl : ∀ k, assartlaw31_ScriptBack.j0 (k + 1) l (bs s) true = some true := by
    intro k
    rw [assartlaw31_ScriptBack.j0]
    rw [if_pos rfl, lives_f]
    rfl
  by_cases hb : 5000 < l.length
  · rw [if_pos (by omega)]; exact hl (200000 + 1)
  · rw [if_neg (by omega), bs_size]
    by_cases hc : 70000 < s.length
    · rw [decide_eq_true (by omega)]; exact hl (200000 + 1)
    · rw [decide_eq_false (by omega)]
      rw [assartlaw31_ScriptBack.j0]
      rw [if_neg (by decide), print_f l h, Option.bind_some]
      by_cases h0 : (printT l).2 = 0
      · obtain ⟨t, ht⟩ : ∃ t, printT l = (t, 0) := ⟨_, Prod.ext rfl h0⟩
        rw [ht, if_pos rfl]
        show (script_Parse.f (bs t)).bind _ = _
        rw [parse_f, parse_print l t h ht, Option.bind_some, if_pos rfl]
        show (assartlaw31_Script_Same.f (200000 + 1) l l).bind _ = _
        rw [same31_f l (by omega) (200000 + 1) (by omega), Option.bind_some, if_pos rfl]
        exact back_j1 200000 s
      · rw [if_neg h0, print_fail l h0, if_pos (bs_list []), back_j1 200000 s]
end Go.Proofs.YtdaagoagfenadaaDoor.X

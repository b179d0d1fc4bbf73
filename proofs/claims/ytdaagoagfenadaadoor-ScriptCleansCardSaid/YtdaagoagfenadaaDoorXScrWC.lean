/- ScriptCleans: the call returns true. Conditions: none. -/
import Derived.Test.YtdaagoagfenadaaDoorXScrC
import Derived.Test.YtdaagoagfenadaaDoorYTwf7
namespace Go.Proofs.YtdaagoagfenadaaDoor.X
open Go.RowKit Go.Proofs.YtdaagoagfenadaaDoor.YTw Go.Proofs.YtdaagoagfenadaaDoorW.PrintWords Go.Proofs.YtdaagoagfenadaaDoorW.PrintLast Go.Proofs.YtdaagoagfenadaaDoorW.PrintMore
set_option linter.unusedVariables false
set_option linter.unusedSimpArgs false
theorem list11 (l : List Int) (h : l.length = 11) : ∃ c0 c1 c2 c3 c4 c5 c6 c7 c8 c9 c10, l = [c0, c1, c2, c3, c4, c5, c6, c7, c8, c9, c10] := by
  match l, h with
  | [c0, c1, c2, c3, c4, c5, c6, c7, c8, c9, c10], _ => exact ⟨_, _, _, _, _, _, _, _, _, _, _, rfl⟩
theorem cleans_walk (q : List Int) (hq : q.length = 11) (A : Option Addr) (c : Nat) (l : List S25) (w : World) (hC : Kd.C k25 w A l.length l) (hc : l.length ≤ c) (hm : Mx w) :
    Calls Tryd.prog 7 #[.agg (q.map (Value.int .i64)).toArray, .slice A l.length c] w fun e w' => e = .returned (.bool true) ∧ Below w.heap.size w w' := by
  obtain ⟨c0, c1, c2, c3, c4, c5, c6, c7, c8, c9, c10, rfl⟩ := list11 q hq
  exact assartlaw31_ScriptCleans.calls _ c0 c1 c2 c3 c4 c5 c6 c7 c8 c9 c10 A c l true w hC hc (cleans_law c0 c1 c2 c3 c4 c5 c6 c7 c8 c9 c10 l) hm
end Go.Proofs.YtdaagoagfenadaaDoor.X

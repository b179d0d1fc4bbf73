/- ScriptLines: the call returns true, where the text is not too great. Conditions: none. -/
import Derived.Test.YtdaagoagfenadaaDoorXScrLL
import Derived.Test.YtdaagoagfenadaaDoorYTwf3
namespace Go.Proofs.YtdaagoagfenadaaDoor.X
open Go.RowKit Go.Proofs.YtdaagoagfenadaaDoor.YTw Go.Proofs.YtdaagoagfenadaaDoorW.PrintWords Go.Proofs.YtdaagoagfenadaaDoorW.PrintLast Go.Proofs.YtdaagoagfenadaaDoorW.PrintMore
set_option linter.unusedVariables false
set_option linter.unusedSimpArgs false
theorem lines_walk (l : List Int) (hl : l.length = 8) (hI : ∀ x ∈ l, In64 x) (y : List UInt8) (hy : y.length ≤ 2000000) (w : World) (hm : Mx w) :
    Calls Tryd.prog 3 #[.agg (l.map (Value.int .i64)).toArray, .string (bs y)] w fun e w' => e = .returned (.bool true) ∧ Below w.heap.size w w' := by
  obtain ⟨e0, e1, e2, e3, e4, e5, e6, e7, rfl⟩ := list8 l hl
  exact assartlaw31_ScriptLines.calls e0 e1 e2 e3 e4 e5 e6 e7 (bs y) true w (lines_law ⟨e0, e1, e2, ⟨e3, e4, e5, e6, e7⟩⟩ hI y hy) hm
end Go.Proofs.YtdaagoagfenadaaDoor.X

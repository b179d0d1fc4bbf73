/- ScriptTexts: the call returns true. Conditions: none. -/
import Derived.Test.YtdaagoagfenadaaDoorXScrLT
import Derived.Test.YtdaagoagfenadaaDoorYTwf4
namespace Go.Proofs.YtdaagoagfenadaaDoor.X
open Go.RowKit Go.Proofs.YtdaagoagfenadaaDoor.YTw Go.Proofs.YtdaagoagfenadaaDoorW.PrintWords Go.Proofs.YtdaagoagfenadaaDoorW.PrintLast Go.Proofs.YtdaagoagfenadaaDoorW.PrintMore
set_option linter.unusedVariables false
set_option linter.unusedSimpArgs false
theorem texts_walk (A : Option Addr) (c : Nat) (l : List S25) (w : World) (hC : Kd.C k25 w A l.length l) (hc : l.length ≤ c) (hI : ∀ x ∈ l, inS x) (y : List UInt8) (hm : Mx w) :
    Calls Tryd.prog 4 #[.slice A l.length c, .string (bs y)] w fun e w' => e = .returned (.bool true) ∧ Below w.heap.size w w' :=
  assartlaw31_ScriptTexts.calls _ A c l (bs y) true w hC hc (texts_law l hI y) hm
end Go.Proofs.YtdaagoagfenadaaDoor.X

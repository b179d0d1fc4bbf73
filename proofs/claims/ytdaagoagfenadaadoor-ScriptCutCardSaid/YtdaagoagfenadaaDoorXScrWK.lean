/- ScriptCut: the call returns true. Conditions: none. -/
import Derived.Test.YtdaagoagfenadaaDoorXScrLC
import Derived.Test.YtdaagoagfenadaaDoorYTwf6
namespace Go.Proofs.YtdaagoagfenadaaDoor.X
open Go.RowKit Go.Proofs.YtdaagoagfenadaaDoor.YTw Go.Proofs.YtdaagoagfenadaaDoorW.PrintWords Go.Proofs.YtdaagoagfenadaaDoorW.PrintLast Go.Proofs.YtdaagoagfenadaaDoorW.PrintMore
set_option linter.unusedVariables false
set_option linter.unusedSimpArgs false
theorem cut_walk (A B : Option Addr) (c d : Nat) (l m : List S25) (n : Int) (w : World) (hC : Kd.C k25 w A l.length l) (hc : l.length ≤ c) (hI : ∀ x ∈ l, inS x) (hD : Kd.C k25 w B m.length m) (hd : m.length ≤ d) (hJ : ∀ x ∈ m, inS x) (hm : Mx w) :
    Calls Tryd.prog 6 #[.slice A l.length c, .slice B m.length d, .int .i64 n] w fun e w' => e = .returned (.bool true) ∧ Below w.heap.size w w' :=
  assartlaw31_ScriptCut.calls _ A c l B d m n true w hC hc hD hd (cut_law l m hI hJ n) hm
end Go.Proofs.YtdaagoagfenadaaDoor.X

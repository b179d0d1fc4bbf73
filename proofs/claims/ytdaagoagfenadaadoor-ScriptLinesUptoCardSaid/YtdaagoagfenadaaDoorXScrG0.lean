/- What the printed functions of the references tell. Conditions: none. -/
import Derived.Test.YtdaagoagfenadaaDoorMC
import Derived.Test.YtdaagoagfenadaaDoorXScrF
import Derived.Test.YtdaagoagfenadaaDoorMR
namespace Go.Proofs.YtdaagoagfenadaaDoor.X
open Go.RowKit Go.Proofs.YtdaagoagfenadaaDoor.YTw Go.Proofs.YtdaagoagfenadaaDoorW.PrintWords Go.Proofs.YtdaagoagfenadaaDoorW.PrintLast Go.Proofs.YtdaagoagfenadaaDoorW.PrintMore
set_option linter.unusedVariables false
set_option linter.unusedSimpArgs false
theorem refline_f (x : S25) (h : inS x) : assartref31_Line.f x.f0 x.f1 x.f2 x.f3.f0 x.f3.f1 x.f3.f2 x.f3.f3 x.f3.f4 = some (bs (lineS x).1, (lineS x).2) := if_pos (inS_all h)
theorem refentry_f (a : List UInt8) (h : a.length ≤ 2000000) : assartref31_Entry.f (bs a) = some (t9 (entT a)) := if_pos (by rw [bs_size]; exact h)
end Go.Proofs.YtdaagoagfenadaaDoor.X

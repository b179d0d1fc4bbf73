/- The printed function of ScriptLines tells true. Conditions: none. -/
import Derived.Test.YtdaagoagfenadaaDoorXScrG0
import Derived.Test.YtdaagoagfenadaaDoorYTwf3
namespace Go.Proofs.YtdaagoagfenadaaDoor.X
open Go.RowKit Go.Proofs.YtdaagoagfenadaaDoor.YTw Go.Proofs.YtdaagoagfenadaaDoorW.PrintWords Go.Proofs.YtdaagoagfenadaaDoorW.PrintLast Go.Proofs.YtdaagoagfenadaaDoorW.PrintMore
set_option linter.unusedVariables false
set_option linter.unusedSimpArgs false
theorem lines_law (x : S25) (h : inS x) (s : List UInt8) (hs : s.length ≤ 2000000) : assartlaw31_ScriptLines.f x.f0 x.f1 x.f2 x.f3.f0 x.f3.f1 x.f3.f2 x.f3.f3 x.f3.f4 (bs s) = some true := by
  unfold assartlaw31_ScriptLines.f
  have h1 := line_f x h
  have h2 := refline_f x h
  have h3 := entry_f s hs
  have h4 := refentry_f s hs
  rw [h1, Option.bind_some, h2, Option.bind_some, h3, Option.bind_some, h4, Option.bind_some, if_pos rfl, if_pos rfl, if_pos (by simp), if_pos rfl, lives_f]
  rfl
end Go.Proofs.YtdaagoagfenadaaDoor.X

/- Each Go function told here does what the Lean function of its name says, and where a law stands here: it returns true for every input. Conditions: none. Written by a program of this work (wip/tools/xprint.py) out of the translation. -/
import Derived.Test.YtdaagoagfenadaaDoorProg
import Derived.Below
import Derived.Deep.Draws
import Derived.Deep.AppendLies
import Derived.Maps.AppendAt
import Derived.OwnWalk
import Derived.Laws.BytesArg
import Derived.Laws.MakeOwn
import Derived.Laws.OwnMore
import Derived.Deep.OwnRows
import Derived.Tactics
import Derived.Lib.ConvBytes
import Derived.Laws.Slices
import Derived.WalkKit
import Derived.KernelRfl
import Derived.RowKit3
import Derived.Deep.LoopGhost
import Derived.Deep.QuietTactic
import Derived.BigQuiet
import Derived.WideLaws
import Derived.Deep.DeepCutAuto
import Derived.Deep.CutBlock
import Derived.Deep.RegionHeld3
import Derived.Laws.Rows
import Derived.Lib.AppendStr
import Derived.ArgAppend
import Derived.Laws.IdiomCopy
import Derived.OrdersHeld
import Derived.Laws.BitsLemmas
import Derived.RowKit
import Derived.Test.YtdaagoagfenadaaDoorWWords
import Derived.Test.YtdaagoagfenadaaDoorWLast
import Derived.Test.YtdaagoagfenadaaDoorWTab
import Derived.Test.YtdaagoagfenadaaDoorWFour
import Derived.Test.YtdaagoagfenadaaDoorWQPut
import Derived.Test.YtdaagoagfenadaaDoorWApart
import Derived.Test.YtdaagoagfenadaaDoorWArr
import Derived.Test.YtdaagoagfenadaaDoorWZeros
import Derived.Test.YtdaagoagfenadaaDoorWFoot
import Derived.Test.YtdaagoagfenadaaDoorWKept
import Derived.Test.YtdaagoagfenadaaDoorWShare
import Derived.Test.YtdaagoagfenadaaDoorWN
import Derived.Test.YtdaagoagfenadaaDoorWFootNe
import Derived.Test.YtdaagoagfenadaaDoorWAt
import Derived.Test.YtdaagoagfenadaaDoorWEqStruct
import Derived.Test.YtdaagoagfenadaaDoorWRepsOne
import Derived.Test.YtdaagoagfenadaaDoorWInv
import Derived.Test.YtdaagoagfenadaaDoorWInvWords
import Derived.Test.YtdaagoagfenadaaDoorWGuard
import Derived.Test.YtdaagoagfenadaaDoorWNEv
import Derived.Test.YtdaagoagfenadaaDoorWMore
namespace Go.Proofs.YtdaagoagfenadaaDoor.YAll
open Go.RowKit Go.Proofs.YtdaagoagfenadaaDoorW.PrintWords Go.Proofs.YtdaagoagfenadaaDoorW.PrintLast Go.Proofs.YtdaagoagfenadaaDoorW.PrintMore
attribute [local go_sem] max2_int min2_int max_two min_two max_three min_three max_four min_four   -- for this text's walks alone
set_option linter.unusedVariables false
set_option linter.unusedSimpArgs false



def errW : Option Int → Value
  | none => .nilIface
  | some c => .iface 0 (.int .i64 c)
theorem errW_none : errW none = .nilIface := rfl
theorem errW_some (c : Int) : errW (some c) = .iface 0 (.int .i64 c) := rfl

theorem info3 : (Tryd.prog.info? 3).map (fun i => (i.zero, i.size, i.bytes)) = some (some (.int .i64 0), 1, 8) := by kernel_rfl
theorem info5 : (Tryd.prog.info? 5).map (fun i => (i.zero, i.size, i.bytes)) = some (some (.int .u8 0), 1, 1) := by kernel_rfl
theorem info9 : (Tryd.prog.info? 9).map (fun i => (i.zero, i.size, i.bytes)) = some (some (.string ⟨#[]⟩), 1, 16) := by kernel_rfl
-- the values' own types

end Go.Proofs.YtdaagoagfenadaaDoor.YAll

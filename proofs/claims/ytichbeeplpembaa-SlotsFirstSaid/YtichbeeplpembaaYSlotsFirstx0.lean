/- Each Go function told here does what the Lean function of its name says, and where a law stands here: it returns true for every input. Conditions: none. Written by a program of this work (wip/tools/xprint.py) out of the translation. -/
import Derived.Test.YtichbeeplpembaaProg
import Derived.Below
import Derived.Deep.Draws
import Derived.Deep.AppendLies
import Derived.Maps.AppendAt
import Derived.OwnWalk
import Derived.Laws.BytesArg
import Derived.Laws.MakeOwn
import Derived.Laws.OwnMore
import Derived.Deep.OwnRows
import Derived.Tactics
import Derived.Lib.ConvBytes
import Derived.Laws.Slices
import Derived.WalkKit
import Derived.KernelRfl
import Derived.RowKit3
import Derived.Deep.LoopGhost
import Derived.Deep.QuietTactic
import Derived.BigQuiet
import Derived.WideLaws
import Derived.Deep.DeepCutAuto
import Derived.Deep.CutBlock
import Derived.Deep.RegionHeld3
import Derived.Laws.Rows
import Derived.Lib.AppendStr
import Derived.ArgAppend
import Derived.Laws.IdiomCopy
import Derived.OrdersHeld
import Derived.Laws.BitsLemmas
import Derived.RowKit
import Derived.Test.YtichbeeplpembaaXSlots
import Derived.Test.YtichbeeplpembaaWWords
import Derived.Test.YtichbeeplpembaaWLast
import Derived.Test.YtichbeeplpembaaWTab
import Derived.Test.YtichbeeplpembaaWFour
import Derived.Test.YtichbeeplpembaaWQPut
import Derived.Test.YtichbeeplpembaaWApart
import Derived.Test.YtichbeeplpembaaWArr
import Derived.Test.YtichbeeplpembaaWZeros
import Derived.Test.YtichbeeplpembaaWFoot
import Derived.Test.YtichbeeplpembaaWKept
import Derived.Test.YtichbeeplpembaaWShare
import Derived.Test.YtichbeeplpembaaWN
import Derived.Test.YtichbeeplpembaaWFootNe
import Derived.Test.YtichbeeplpembaaWAt
import Derived.Test.YtichbeeplpembaaWEqStruct
import Derived.Test.YtichbeeplpembaaWRepsOne
import Derived.Test.YtichbeeplpembaaWInv
import Derived.Test.YtichbeeplpembaaWInvWords
import Derived.Test.YtichbeeplpembaaWGuard
import Derived.Test.YtichbeeplpembaaWNEv
import Derived.Test.YtichbeeplpembaaWMore
namespace Go.Proofs.Ytichbeeplpembaa.YSlotsFirst
open Go.RowKit Go.Proofs.Ytichbeeplpembaa.X Go.Proofs.YtichbeeplpembaaW.PrintWords Go.Proofs.YtichbeeplpembaaW.PrintLast Go.Proofs.YtichbeeplpembaaW.PrintMore
attribute [local go_sem] max2_int min2_int max_two min_two max_three min_three max_four min_four   -- for this text's walks alone
set_option linter.unusedVariables false
set_option linter.unusedSimpArgs false



def errW : Option Int → Value
  | none => .nilIface
  | some c => .iface 0 (.int .i64 c)
theorem errW_none : errW none = .nilIface := rfl
theorem errW_some (c : Int) : errW (some c) = .iface 0 (.int .i64 c) := rfl

-- the values' own types

end Go.Proofs.Ytichbeeplpembaa.YSlotsFirst

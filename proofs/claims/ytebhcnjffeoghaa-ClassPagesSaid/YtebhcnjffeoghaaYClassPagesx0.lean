/- Each Go function told here does what the Lean function of its name says, and where a law stands here: it returns true for every input. Conditions: none. Written by a program of this work (wip/tools/xprint.py) out of the translation. -/
import Derived.Test.YtebhcnjffeoghaaProg
import Derived.Below
import Derived.Deep.Draws
import Derived.Deep.AppendLies
import Derived.Maps.AppendAt
import Derived.OwnWalk
import Derived.Laws.BytesArg
import Derived.Laws.MakeOwn
import Derived.Laws.OwnMore
import Derived.Deep.OwnRows
import Derived.Tactics
import Derived.Lib.ConvBytes
import Derived.Laws.Slices
import Derived.WalkKit
import Derived.KernelRfl
import Derived.RowKit3
import Derived.Deep.LoopGhost
import Derived.Deep.QuietTactic
import Derived.BigQuiet
import Derived.WideLaws
import Derived.Deep.DeepCutAuto
import Derived.Deep.CutBlock
import Derived.Deep.RegionHeld3
import Derived.Laws.Rows
import Derived.Lib.AppendStr
import Derived.ArgAppend
import Derived.Laws.IdiomCopy
import Derived.OrdersHeld
import Derived.Laws.BitsLemmas
import Derived.RowKit
import Derived.Test.YtebhcnjffeoghaaXClass
import Derived.Test.YtebhcnjffeoghaaXClassFit
import Derived.Test.YtebhcnjffeoghaaWWords
import Derived.Test.YtebhcnjffeoghaaWLast
import Derived.Test.YtebhcnjffeoghaaWTab
import Derived.Test.YtebhcnjffeoghaaWFour
import Derived.Test.YtebhcnjffeoghaaWQPut
import Derived.Test.YtebhcnjffeoghaaWApart
import Derived.Test.YtebhcnjffeoghaaWArr
import Derived.Test.YtebhcnjffeoghaaWZeros
import Derived.Test.YtebhcnjffeoghaaWFoot
import Derived.Test.YtebhcnjffeoghaaWKept
import Derived.Test.YtebhcnjffeoghaaWShare
import Derived.Test.YtebhcnjffeoghaaWN
import Derived.Test.YtebhcnjffeoghaaWFootNe
import Derived.Test.YtebhcnjffeoghaaWAt
import Derived.Test.YtebhcnjffeoghaaWEqStruct
import Derived.Test.YtebhcnjffeoghaaWRepsOne
import Derived.Test.YtebhcnjffeoghaaWInv
import Derived.Test.YtebhcnjffeoghaaWInvWords
import Derived.Test.YtebhcnjffeoghaaWGuard
import Derived.Test.YtebhcnjffeoghaaWNEv
import Derived.Test.YtebhcnjffeoghaaWMore
namespace Go.Proofs.Ytebhcnjffeoghaa.YClassPages
open Go.RowKit Go.Proofs.Ytebhcnjffeoghaa.X Go.Proofs.YtebhcnjffeoghaaW.PrintWords Go.Proofs.YtebhcnjffeoghaaW.PrintLast Go.Proofs.YtebhcnjffeoghaaW.PrintMore
attribute [local go_sem] max2_int min2_int max_two min_two max_three min_three max_four min_four   -- for this text's walks alone
set_option linter.unusedVariables false
set_option linter.unusedSimpArgs false



def errW : Option Int → Value
  | none => .nilIface
  | some c => .iface 0 (.int .i64 c)
theorem errW_none : errW none = .nilIface := rfl
theorem errW_some (c : Int) : errW (some c) = .iface 0 (.int .i64 c) := rfl

-- the values' own types

end Go.Proofs.Ytebhcnjffeoghaa.YClassPages

/- Each Go function told here does what the Lean function of its name says, and where a law stands here: it returns true for every input. Conditions: none. Written by a program of this work (wip/tools/xprint.py) out of the translation. -/
import Derived.Test.YtahkfgeaegdbjaaProg
import Derived.Below
import Derived.Deep.Draws
import Derived.Deep.AppendLies
import Derived.Maps.AppendAt
import Derived.OwnWalk
import Derived.Laws.BytesArg
import Derived.Laws.MakeOwn
import Derived.Laws.OwnMore
import Derived.Deep.OwnRows
import Derived.Tactics
import Derived.Lib.ConvBytes
import Derived.Laws.Slices
import Derived.WalkKit
import Derived.KernelRfl
import Derived.RowKit3
import Derived.Deep.LoopGhost
import Derived.Deep.QuietTactic
import Derived.BigQuiet
import Derived.WideLaws
import Derived.Deep.DeepCutAuto
import Derived.Deep.CutBlock
import Derived.Deep.RegionHeld3
import Derived.Laws.Rows
import Derived.Lib.AppendStr
import Derived.ArgAppend
import Derived.Laws.IdiomCopy
import Derived.OrdersHeld
import Derived.Laws.BitsLemmas
import Derived.RowKit
import Derived.Test.YtahkfgeaegdbjaaWWords
import Derived.Test.YtahkfgeaegdbjaaWLast
import Derived.Test.YtahkfgeaegdbjaaWTab
import Derived.Test.YtahkfgeaegdbjaaWFour
import Derived.Test.YtahkfgeaegdbjaaWQPut
import Derived.Test.YtahkfgeaegdbjaaWApart
import Derived.Test.YtahkfgeaegdbjaaWArr
import Derived.Test.YtahkfgeaegdbjaaWZeros
import Derived.Test.YtahkfgeaegdbjaaWFoot
import Derived.Test.YtahkfgeaegdbjaaWKept
import Derived.Test.YtahkfgeaegdbjaaWShare
import Derived.Test.YtahkfgeaegdbjaaWN
import Derived.Test.YtahkfgeaegdbjaaWFootNe
import Derived.Test.YtahkfgeaegdbjaaWAt
import Derived.Test.YtahkfgeaegdbjaaWEqStruct
import Derived.Test.YtahkfgeaegdbjaaWRepsOne
import Derived.Test.YtahkfgeaegdbjaaWInv
import Derived.Test.YtahkfgeaegdbjaaWInvWords
import Derived.Test.YtahkfgeaegdbjaaWGuard
import Derived.Test.YtahkfgeaegdbjaaWNEv
import Derived.Test.YtahkfgeaegdbjaaWMore
namespace Go.Proofs.Ytahkfgeaegdbjaa.Yassartlaw01_Ints_Same
open Go.RowKit Go.Proofs.YtahkfgeaegdbjaaW.PrintWords Go.Proofs.YtahkfgeaegdbjaaW.PrintLast Go.Proofs.YtahkfgeaegdbjaaW.PrintMore
attribute [local go_sem] max2_int min2_int max_two min_two max_three min_three max_four min_four   -- for this text's walks alone
set_option linter.unusedVariables false
set_option linter.unusedSimpArgs false



def errW : Option Int → Value
  | none => .nilIface
  | some c => .iface 0 (.int .i64 c)
theorem errW_none : errW none = .nilIface := rfl
theorem errW_some (c : Int) : errW (some c) = .iface 0 (.int .i64 c) := rfl

-- the values' own types

end Go.Proofs.Ytahkfgeaegdbjaa.Yassartlaw01_Ints_Same

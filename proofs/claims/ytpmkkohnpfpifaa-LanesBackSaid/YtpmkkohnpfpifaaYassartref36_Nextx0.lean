/- Each Go function told here does what the Lean function of its name says, and where a law stands here: it returns true for every input. Conditions: none. Written by a program of this work (wip/tools/xprint.py) out of the translation. -/
import Derived.Test.YtpmkkohnpfpifaaProg
import Derived.Below
import Derived.Deep.Draws
import Derived.Deep.AppendLies
import Derived.Maps.AppendAt
import Derived.OwnWalk
import Derived.Laws.BytesArg
import Derived.Laws.MakeOwn
import Derived.Laws.OwnMore
import Derived.Deep.OwnRows
import Derived.Tactics
import Derived.Lib.ConvBytes
import Derived.Laws.Slices
import Derived.WalkKit
import Derived.KernelRfl
import Derived.RowKit3
import Derived.Deep.LoopGhost
import Derived.Deep.QuietTactic
import Derived.BigQuiet
import Derived.WideLaws
import Derived.Deep.DeepCutAuto
import Derived.Deep.CutBlock
import Derived.Deep.RegionHeld3
import Derived.Laws.Rows
import Derived.Lib.AppendStr
import Derived.ArgAppend
import Derived.Laws.IdiomCopy
import Derived.OrdersHeld
import Derived.Laws.BitsLemmas
import Derived.RowKit
import Derived.Test.YtpmkkohnpfpifaaXNth
import Derived.Test.YtpmkkohnpfpifaaXRows
import Derived.Test.YtpmkkohnpfpifaaWWords
import Derived.Test.YtpmkkohnpfpifaaWLast
import Derived.Test.YtpmkkohnpfpifaaWTab
import Derived.Test.YtpmkkohnpfpifaaWFour
import Derived.Test.YtpmkkohnpfpifaaWQPut
import Derived.Test.YtpmkkohnpfpifaaWApart
import Derived.Test.YtpmkkohnpfpifaaWArr
import Derived.Test.YtpmkkohnpfpifaaWZeros
import Derived.Test.YtpmkkohnpfpifaaWFoot
import Derived.Test.YtpmkkohnpfpifaaWKept
import Derived.Test.YtpmkkohnpfpifaaWShare
import Derived.Test.YtpmkkohnpfpifaaWN
import Derived.Test.YtpmkkohnpfpifaaWFootNe
import Derived.Test.YtpmkkohnpfpifaaWAt
import Derived.Test.YtpmkkohnpfpifaaWEqStruct
import Derived.Test.YtpmkkohnpfpifaaWRepsOne
import Derived.Test.YtpmkkohnpfpifaaWInv
import Derived.Test.YtpmkkohnpfpifaaWInvWords
import Derived.Test.YtpmkkohnpfpifaaWGuard
import Derived.Test.YtpmkkohnpfpifaaWNEv
import Derived.Test.YtpmkkohnpfpifaaWMore
namespace Go.Proofs.Ytpmkkohnpfpifaa.Yassartref36_Next
open Go.RowKit Go.Proofs.Ytpmkkohnpfpifaa.X Go.Proofs.YtpmkkohnpfpifaaW.PrintWords Go.Proofs.YtpmkkohnpfpifaaW.PrintLast Go.Proofs.YtpmkkohnpfpifaaW.PrintMore
attribute [local go_sem] max2_int min2_int max_two min_two max_three min_three max_four min_four   -- for this text's walks alone
set_option linter.unusedVariables false
set_option linter.unusedSimpArgs false



def errW : Option Int → Value
  | none => .nilIface
  | some c => .iface 0 (.int .i64 c)
theorem errW_none : errW none = .nilIface := rfl
theorem errW_some (c : Int) : errW (some c) = .iface 0 (.int .i64 c) := rfl

-- the values' own types

end Go.Proofs.Ytpmkkohnpfpifaa.Yassartref36_Next

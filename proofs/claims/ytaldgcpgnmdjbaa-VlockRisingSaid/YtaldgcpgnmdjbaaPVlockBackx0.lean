-- PRINTED BY print.sh 35421559b90ae4d0a3588c463048766b98c2df88dd9212a6774a882060cdf62d: not written by this session
import Derived.Test.YtaldgcpgnmdjbaaProg
import Derived.Below
import Derived.Deep.Draws
import Derived.Deep.AppendLies
import Derived.Maps.AppendAt
import Derived.OwnWalk
import Derived.Laws.BytesArg
import Derived.Laws.MakeOwn
import Derived.Laws.OwnMore
import Derived.Deep.OwnRows
import Derived.Tactics
import Derived.Lib.ConvBytes
import Derived.Laws.Slices
import Derived.WalkKit
import Derived.KernelRfl
import Derived.RowKit3
import Derived.Deep.LoopGhost
import Derived.Deep.QuietTactic
import Derived.BigQuiet
import Derived.WideLaws
import Derived.Deep.DeepCutAuto
import Derived.Deep.CutBlock
import Derived.Deep.RegionHeld3
import Derived.Laws.Rows
import Derived.Lib.AppendStr
import Derived.ArgAppend
import Derived.Laws.IdiomCopy
import Derived.OrdersHeld
import Derived.Laws.BitsLemmas
import Derived.RowKit
import Derived.Test.YtaldgcpgnmdjbaaWWords
import Derived.Test.YtaldgcpgnmdjbaaWLast
import Derived.Test.YtaldgcpgnmdjbaaWTab
import Derived.Test.YtaldgcpgnmdjbaaWFour
import Derived.Test.YtaldgcpgnmdjbaaWQPut
import Derived.Test.YtaldgcpgnmdjbaaWApart
import Derived.Test.YtaldgcpgnmdjbaaWArr
import Derived.Test.YtaldgcpgnmdjbaaWZeros
import Derived.Test.YtaldgcpgnmdjbaaWFoot
import Derived.Test.YtaldgcpgnmdjbaaWKept
import Derived.Test.YtaldgcpgnmdjbaaWShare
import Derived.Test.YtaldgcpgnmdjbaaWN
import Derived.Test.YtaldgcpgnmdjbaaWFootNe
import Derived.Test.YtaldgcpgnmdjbaaWAt
import Derived.Test.YtaldgcpgnmdjbaaWEqStruct
import Derived.Test.YtaldgcpgnmdjbaaWRepsOne
import Derived.Test.YtaldgcpgnmdjbaaWInv
import Derived.Test.YtaldgcpgnmdjbaaWInvWords
import Derived.Test.YtaldgcpgnmdjbaaWGuard
import Derived.Test.YtaldgcpgnmdjbaaWNEv
import Derived.Test.YtaldgcpgnmdjbaaWMore
namespace Go.Proofs.Ytaldgcpgnmdjbaa.PVlockBack
open Go.RowKit Go.Proofs.YtaldgcpgnmdjbaaW.PrintWords Go.Proofs.YtaldgcpgnmdjbaaW.PrintLast Go.Proofs.YtaldgcpgnmdjbaaW.PrintMore
attribute [local go_sem] max2_int min2_int max_two min_two max_three min_three max_four min_four   -- for this text's walks alone
set_option linter.unusedVariables false
set_option linter.unusedSimpArgs false



def errW : Option Int → Value
  | none => .nilIface
  | some c => .iface 0 (.int .i64 c)
theorem errW_none : errW none = .nilIface := rfl
theorem errW_some (c : Int) : errW (some c) = .iface 0 (.int .i64 c) := rfl

-- the values' own types

end Go.Proofs.Ytaldgcpgnmdjbaa.PVlockBack

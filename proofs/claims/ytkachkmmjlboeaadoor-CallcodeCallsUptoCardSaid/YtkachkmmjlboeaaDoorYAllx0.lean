/- Each Go function told here does what the Lean function of its name says, and where a law stands here: it returns true for every input. Conditions: none. Written by a program of this work (wip/tools/xprint.py) out of the translation. -/
import Derived.Test.YtkachkmmjlboeaaDoorProg
import Derived.Below
import Derived.Deep.Draws
import Derived.Deep.AppendLies
import Derived.Maps.AppendAt
import Derived.OwnWalk
import Derived.Laws.BytesArg
import Derived.Laws.MakeOwn
import Derived.Laws.OwnMore
import Derived.Deep.OwnRows
import Derived.Tactics
import Derived.Lib.ConvBytes
import Derived.Laws.Slices
import Derived.WalkKit
import Derived.KernelRfl
import Derived.RowKit3
import Derived.Deep.LoopGhost
import Derived.Deep.QuietTactic
import Derived.BigQuiet
import Derived.WideLaws
import Derived.Deep.DeepCutAuto
import Derived.Deep.CutBlock
import Derived.Deep.RegionHeld3
import Derived.Laws.Rows
import Derived.Lib.AppendStr
import Derived.ArgAppend
import Derived.Laws.IdiomCopy
import Derived.OrdersHeld
import Derived.Laws.BitsLemmas
import Derived.RowKit
import Derived.Test.YtkachkmmjlboeaaDoorWWords
import Derived.Test.YtkachkmmjlboeaaDoorWLast
import Derived.Test.YtkachkmmjlboeaaDoorWTab
import Derived.Test.YtkachkmmjlboeaaDoorWFour
import Derived.Test.YtkachkmmjlboeaaDoorWQPut
import Derived.Test.YtkachkmmjlboeaaDoorWApart
import Derived.Test.YtkachkmmjlboeaaDoorWArr
import Derived.Test.YtkachkmmjlboeaaDoorWZeros
import Derived.Test.YtkachkmmjlboeaaDoorWFoot
import Derived.Test.YtkachkmmjlboeaaDoorWKept
import Derived.Test.YtkachkmmjlboeaaDoorWShare
import Derived.Test.YtkachkmmjlboeaaDoorWN
import Derived.Test.YtkachkmmjlboeaaDoorWFootNe
import Derived.Test.YtkachkmmjlboeaaDoorWAt
import Derived.Test.YtkachkmmjlboeaaDoorWEqStruct
import Derived.Test.YtkachkmmjlboeaaDoorWRepsOne
import Derived.Test.YtkachkmmjlboeaaDoorWInv
import Derived.Test.YtkachkmmjlboeaaDoorWInvWords
import Derived.Test.YtkachkmmjlboeaaDoorWGuard
import Derived.Test.YtkachkmmjlboeaaDoorWNEv
import Derived.Test.YtkachkmmjlboeaaDoorWMore
namespace Go.Proofs.YtkachkmmjlboeaaDoor.YAll
open Go.RowKit Go.Proofs.YtkachkmmjlboeaaDoorW.PrintWords Go.Proofs.YtkachkmmjlboeaaDoorW.PrintLast Go.Proofs.YtkachkmmjlboeaaDoorW.PrintMore
attribute [local go_sem] max2_int min2_int max_two min_two max_three min_three max_four min_four   -- for this text's walks alone
set_option linter.unusedVariables false
set_option linter.unusedSimpArgs false



def errW : Option Int → Value
  | none => .nilIface
  | some c => .iface 0 (.int .i64 c)
theorem errW_none : errW none = .nilIface := rfl
theorem errW_some (c : Int) : errW (some c) = .iface 0 (.int .i64 c) := rfl

theorem info3 : (Tryd.prog.info? 3).map (fun i => (i.zero, i.size, i.bytes)) = some (some (.int .i64 0), 1, 8) := by kernel_rfl
theorem info5 : (Tryd.prog.info? 5).map (fun i => (i.zero, i.size, i.bytes)) = some (some (.int .u8 0), 1, 1) := by kernel_rfl
theorem info9 : (Tryd.prog.info? 9).map (fun i => (i.zero, i.size, i.bytes)) = some (some (.string ⟨#[]⟩), 1, 16) := by kernel_rfl
-- the values' own types

end Go.Proofs.YtkachkmmjlboeaaDoor.YAll

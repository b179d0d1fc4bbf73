/- Of any steps each answer, and all blocks of all classes, are as the document says: the walk by hand, put together. Conditions: none. -/
import Derived.Test.YtmgphebhfecfmaaXPlays
namespace Go.Proofs.Ytmgphebhfecfmaa.X
open Go.RowKit
set_option linter.unusedVariables false
theorem plays_all (A : Option Addr) (n cp : Nat) (b : Int) (w : World) (hA : ActsAt w A n) : Calls Try.prog 4 #[.slice A n cp, .int .i64 b] w fun e w' => e = .returned (.bool true) ∧ Below w.heap.size w w' := by
  by_cases hn : n ≤ 100
  · exact plays_walk A n cp b w hn hA
  · exact plays_long A n cp b w (by omega)
end Go.Proofs.Ytmgphebhfecfmaa.X

/- What is pushed is popped, and leaves the purse as it was; what is in it is had: the walk by hand, put together. Conditions: none. -/
import Derived.Test.YtmgphebhfecfmaaXBackIn
namespace Go.Proofs.Ytmgphebhfecfmaa.X
open Go.RowKit
set_option linter.unusedVariables false
theorem back_walk (A : Option Addr) (n cp : Nat) (c a : Int) (w : World) (hA : ActsAt w A n) : Calls Try.prog 3 #[.slice A n cp, .int .i64 c, .int .i64 a] w fun e w' => e = .returned (.bool true) ∧ Below w.heap.size w w' := by
  by_cases hn : n ≤ 60
  · by_cases hc : 0 ≤ c ∧ c < 5
    · exact back_in A n cp c a w hn hA hc
    · exact back_out A n cp c a w hn hA hc
  · exact back_long A n cp c a w (by omega)
end Go.Proofs.Ytmgphebhfecfmaa.X

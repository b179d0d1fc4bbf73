/- Of any steps each answer is as the document says: the walk by hand, put together. Conditions: none. -/
import Derived.Test.YtccnfckogcdpcaaXQPlays
namespace Go.Proofs.Ytccnfckogcdpcaa.X
open Go.RowKit
theorem qplays_all (A : Option Addr) (n cp : Nat) (b : Int) (w : World) (hA : ActsAt w A n) : Calls Try.prog 4 #[.int .i64 b, .slice A n cp] w fun e w' => e = .returned (.bool true) ∧ Below w.heap.size w w' := by
  by_cases hn : n ≤ 200
  · exact qplays_walk A n cp b w hn hA
  · exact qplays_long A n cp b w (by omega)
end Go.Proofs.Ytccnfckogcdpcaa.X

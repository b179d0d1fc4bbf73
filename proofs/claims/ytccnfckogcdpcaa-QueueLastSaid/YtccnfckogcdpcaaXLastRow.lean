/- The last things of a list: the walk, as the row needs it. Conditions: none. -/
import Derived.Test.YtccnfckogcdpcaaXLastLaw
namespace Go.Proofs.Ytccnfckogcdpcaa.X
open Go.RowKit Go.Proofs.YtccnfckogcdpcaaW.PrintWords
theorem last_row (A : Option Addr) (n cp : Nat) (k : Int) (w : World) (h : ∃ l : List Int, n = l.length ∧ Kd.C (Kd.int .i64) w A l.length l ∧ l.length ≤ cp ∧ (A = none → l.length = 0 ∧ cp = 0)) (hk : (Lit.int .i64 k).wf = true) : Calls Try.prog 5 #[.slice A n cp, .int .i64 k] w fun e w' => e = .returned (.bool true) ∧ Below w.heap.size w w' := by
  obtain ⟨l, rfl, hC, hc, hA⟩ := h
  have hb : -9223372036854775808 ≤ k ∧ k ≤ 9223372036854775807 := by
    simp [Lit.wf, IntKind.min, IntKind.max, IntKind.bits, IntKind.signed] at hk
    omega
  exact last_law A cp l k w hC ⟨hc, hA⟩ (by omega) (by omega)
end Go.Proofs.Ytccnfckogcdpcaa.X

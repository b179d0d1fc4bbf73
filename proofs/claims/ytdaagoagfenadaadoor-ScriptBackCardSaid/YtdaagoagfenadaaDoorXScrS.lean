/- A script is the same as itself. Conditions: none. -/
import Derived.Test.YtdaagoagfenadaaDoorMC
import Derived.Test.YtdaagoagfenadaaDoorXScrF
import Derived.Test.YtdaagoagfenadaaDoorYTwf17
namespace Go.Proofs.YtdaagoagfenadaaDoor.X
open Go.RowKit Go.Proofs.YtdaagoagfenadaaDoor.YTw Go.Proofs.YtdaagoagfenadaaDoorW.PrintWords Go.Proofs.YtdaagoagfenadaaDoorW.PrintLast Go.Proofs.YtdaagoagfenadaaDoorW.PrintMore
set_option linter.unusedVariables false
set_option linter.unusedSimpArgs false
theorem upO31 {α : Type} {f : Nat → Option α} (h : ∀ k, LeO (f k) (f (k + 1))) {r : α} : ∀ (d k : Nat), f k = some r → f (k + d) = some r
  | 0, k, e => e
  | d + 1, k, e => h (k + d) r (upO31 h d k e)
theorem upTo31 {α : Type} {f : Nat → Option α} (h : ∀ k, LeO (f k) (f (k + 1))) {r : α} {k k' : Nat} (hk : k ≤ k') (e : f k = some r) : f k' = some r := by
  have := upO31 h (k' - k) k e
  rwa [show k + (k' - k) = k' by omega] at this
theorem same31_run (l : List S25) (hl : l.length ≤ 100000) : ∀ (d i : Nat), i + d = l.length → assartlaw31_Script_Same.l0 (d + 1) l l (i : Int) = some true
  | 0, i, hi => by
    unfold assartlaw31_Script_Same.l0
    rw [if_neg (by omega)]
  | d + 1, i, hi => by
    unfold assartlaw31_Script_Same.l0
    rw [if_pos (by omega), if_pos (by omega), if_pos (by omega), if_neg (by simp), w64n i (by omega)]
    exact same31_run l hl d (i + 1) (by omega)
theorem same31_f (l : List S25) (hl : l.length ≤ 100000) (K : Nat) (hK : 100001 ≤ K) : assartlaw31_Script_Same.f K l l = some true := by
  unfold assartlaw31_Script_Same.f
  rw [if_pos rfl]
  exact upTo31 (f := fun k => assartlaw31_Script_Same.l0 k l l 0) (fun k => assartlaw31_Script_Same.mono_l k _ _ _) (by omega) (same31_run l hl l.length 0 (by omega))
end Go.Proofs.YtdaagoagfenadaaDoor.X

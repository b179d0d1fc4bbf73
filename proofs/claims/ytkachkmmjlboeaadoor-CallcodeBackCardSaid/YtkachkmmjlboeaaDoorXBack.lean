/- CallcodeBack: the walk. Conditions: none. -/
import Derived.Test.YtkachkmmjlboeaaDoorXLives
namespace Go.Proofs.YtkachkmmjlboeaaDoor.X
open Go.RowKit Go.Proofs.YtkachkmmjlboeaaDoor.YAll Go.Proofs.YtkachkmmjlboeaaDoorW.PrintWords Go.Proofs.YtkachkmmjlboeaaDoorW.PrintLast Go.Proofs.YtkachkmmjlboeaaDoorW.PrintMore
set_option linter.unusedVariables false
set_option linter.unusedSimpArgs false
theorem rdV_num (n : Int) (h : In64 n) : rdV (numL n) = (n, true) := by unfold rdV; rw [rdL_num n h]
theorem read_to (l : List UInt8) (v : Int) (b : Bool) (w : World) (h : rdV l = (v, b)) : Calls Tryd.prog 8 #[.string (bs l)] w fun e w' => e = .returned (.tuple #[.int .i64 v, .bool b]) ∧ Below w.heap.size w w' := by
  have := read_calls l w
  unfold ReadPost at this
  rw [h] at this
  exact this
set_option maxRecDepth 100000 in
set_option maxHeartbeats 20000000 in
theorem back_walk (n : Int) (hI : In64 n) (y : List UInt8) (w : World) (hm : Mx w) :
    Calls Tryd.prog 6 #[.int .i64 n, .string (bs y)] w fun e w' => e = .returned (.bool true) ∧ Below w.heap.size w w' := by
  have HM := Aside0.mk hm
  have HI := Aside0.mk hI
  clear hI hm
  cases hr : rdL y with
  | some m =>
    have HR := Aside0.mk (show rdV y = (m, true) by unfold rdV; rw [hr])
    obtain ⟨h1, h2⟩ := num_rdL y m hr
    have HN := Aside0.mk h2
    clear hr h2
    have HY := Aside0.mk h1
    clear h1
    go_enter Tryd.func6, Tryd.ntmps6
    go_wp2_with (first
      | (go_at_call 15; have _z := HB4; (with_reducible refine (lives_calls _ (HM.out.below HB4.out)).mono ?_); rintro e w5 ⟨rfl, hB5⟩; have HB5 := Aside0.mk (bthen HB4.out hB5); clear hB5)
      | (go_at_call 10; have _z := HB3; (with_reducible refine (num_calls m _ HN.out).mono ?_); rintro e w4 ⟨rfl, hB4⟩; have HB4 := Aside0.mk (bthen HB3.out hB4); clear hB4; rw [HY.out])
      | (go_at_call 10; (with_reducible refine (num_calls n _ HI.out).mono ?_); rintro e w1 ⟨rfl, hB1⟩; have HB1 := Aside0.mk hB1; clear hB1)
      | (go_at_call 8; have _z := HB2; (with_reducible refine (read_to y m true _ HR.out).mono ?_); rintro e w3 ⟨rfl, hB3⟩; have HB3 := Aside0.mk (bthen HB2.out hB3); clear hB3)
      | (go_at_call 8; have _z := HB1; (with_reducible refine (read_to (numL n) n true _ (rdV_num n HI.out)).mono ?_); rintro e w2 ⟨rfl, hB2⟩; have HB2 := Aside0.mk (bthen HB1.out hB2); clear hB2))
    go_ret
    exact ⟨rfl, HB5.out⟩
  | none =>
    have HR := Aside0.mk (show rdV y = (0, false) by unfold rdV; rw [hr])
    clear hr
    go_enter Tryd.func6, Tryd.ntmps6
    go_wp2_with (first
      | (go_at_call 15; have _z := HB3; (with_reducible refine (lives_calls _ (HM.out.below HB3.out)).mono ?_); rintro e w5 ⟨rfl, hB5⟩; have HB5 := Aside0.mk (bthen HB3.out hB5); clear hB5)
      | (go_at_call 10; (with_reducible refine (num_calls n _ HI.out).mono ?_); rintro e w1 ⟨rfl, hB1⟩; have HB1 := Aside0.mk hB1; clear hB1)
      | (go_at_call 8; have _z := HB2; (with_reducible refine (read_to y 0 false _ HR.out).mono ?_); rintro e w3 ⟨rfl, hB3⟩; have HB3 := Aside0.mk (bthen HB2.out hB3); clear hB3)
      | (go_at_call 8; have _z := HB1; (with_reducible refine (read_to (numL n) n true _ (rdV_num n HI.out)).mono ?_); rintro e w2 ⟨rfl, hB2⟩; have HB2 := Aside0.mk (bthen HB1.out hB2); clear hB2))
    go_ret
    exact ⟨rfl, HB5.out⟩
end Go.Proofs.YtkachkmmjlboeaaDoor.X

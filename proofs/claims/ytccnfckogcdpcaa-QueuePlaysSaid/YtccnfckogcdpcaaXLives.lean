/- The document's example: told. Conditions: none. -/
import Derived.Test.YtccnfckogcdpcaaXQueue
namespace Go.Proofs.Ytccnfckogcdpcaa.X
open Go.Conc Go.RowKit Go.Proofs.YtccnfckogcdpcaaW.PrintWords
set_option linter.unusedVariables false
set_option linter.unusedSimpArgs false

theorem lives_calls (w : World) : Calls Try.prog 6 #[] w fun e w' => e = .returned (.bool true) ∧ Below w.heap.size w w' := by
  go_enter Try.func6, Try.ntmps6
  go_wp2_with fail
  refine (new_calls 2 w).mono ?_
  rintro _ w1 ⟨q, g, hq, hg, rfl, h1, b1⟩
  replace h1 : Qu w1 q g 2 (([] : List Int).map (Value.int .i64)) 0 := h1
  go_wp2_with fail
  refine (put_calls h1 1).mono ?_
  rintro _ w2 ⟨rfl, k2, h2⟩
  replace h2 : Qu w2 q g 2 (([1] : List Int).map (Value.int .i64)) 0 := h2
  go_wp2_with fail
  refine (put_calls h2 2).mono ?_
  rintro _ w3 ⟨rfl, k3, h3⟩
  replace h3 : Qu w3 q g 2 (([1, 2] : List Int).map (Value.int .i64)) 0 := h3
  go_wp2_with fail
  refine (put_calls h3 3).mono ?_
  rintro _ w4 ⟨rfl, k4, h4⟩
  replace h4 : Qu w4 q g 2 (([1, 2] : List Int).map (Value.int .i64)) 1 := h4
  go_wp2_with fail
  refine (take_calls h4).mono ?_
  rintro _ w5 ⟨rfl, k5, h5⟩
  replace h5 : Qu w5 q g 2 (([2] : List Int).map (Value.int .i64)) 1 := h5



  go_wp2_with fail
  refine (missed_calls h5).mono ?_
  rintro _ _ ⟨rfl, rfl⟩
  go_wp2_with fail
  refine (len_calls h5).mono ?_
  rintro _ _ ⟨rfl, rfl⟩


  go_wp2_with fail
  refine bodyPost_ret (v := .bool true) (by simp [results, Try.results6, go_sem]) rfl ⟨rfl, ?_⟩
  exact Keep.below b1 (((k2.trans k3).trans k4).trans k5) b1.size hq hg

end Go.Proofs.Ytccnfckogcdpcaa.X

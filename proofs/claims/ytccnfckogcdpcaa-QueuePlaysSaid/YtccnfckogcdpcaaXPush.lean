/- Push of the program's queue, and every function at a queue that is none. Conditions: none. -/
import Derived.Test.YtccnfckogcdpcaaXLives
namespace Go.Proofs.Ytccnfckogcdpcaa.X
open Go.Conc Go.RowKit Go.Proofs.YtccnfckogcdpcaaW.PrintWords
set_option linter.unusedVariables false
set_option linter.unusedSimpArgs false

def pushV (cap : Nat) (l : List Int) (x : Int) : Int := if cap = 0 then x else if l.length = cap then l.headD 0 else 0
def pushB (cap : Nat) (l : List Int) : Bool := decide (cap = 0 ∨ l.length = cap)
def pushL (cap : Nat) (l : List Int) (x : Int) : List Int := if cap = 0 then l else if l.length = cap then l.tail ++ [x] else l ++ [x]
theorem push_calls {w : World} {q g cap : Nat} {l : List Int} {m : Int} (h : Qu w q g cap (l.map (Value.int .i64)) m) (hl : l.length ≤ cap) (x : Int) :
    Calls Try.prog 18 #[.pointer (some ⟨q, 0, none⟩), .int .i64 x] w fun e w' => e = .returned (.tuple #[.int .i64 (pushV cap l x), .bool (pushB cap l)]) ∧ Keep w w' q g ∧ Qu w' q g cap ((pushL cap l x).map (Value.int .i64)) m := by
  have hL : (((List.map (Value.int .i64) l).length : Nat) : Int) = (l.length : Int) := by rw [List.length_map]
  unfold pushV pushB pushL
  by_cases h0 : cap = 0
  · rw [if_pos h0, if_pos h0, decide_eq_true (Or.inl h0)]
    have e0 : ((cap : Nat) : Int) = 0 := by omega
    clear h0
    go_enter Try.func18, Try.ntmps18
    go_wp2_with (go_at_call 24; refine (room_calls h).mono ?_; rintro _ _ ⟨rfl, rfl⟩; rw [e0])
    exact bodyPost_ret (v := .tuple #[.int .i64 x, .bool true]) (by simp [results, Try.results18, go_sem]) rfl ⟨rfl, Keep.refl _ _ _, h⟩
  · rw [if_neg h0, if_neg h0]
    have e0 : (((cap : Nat) : Int) == 0) = false := beq_eq_false_iff_ne.2 (by omega)
    by_cases h1 : l.length = cap
    · rw [if_pos h1, if_pos h1, decide_eq_true (Or.inr h1)]
      have e1 : (((l.length : Nat) : Int) == ((cap : Nat) : Int)) = true := beq_iff_eq.2 (by omega)
      have e2 : decide ((l.tail).length < cap) = true := decide_eq_true (by rw [List.length_tail]; omega)
      have e3 : qp cap l.tail x = l.tail ++ [x] := by unfold qp; rw [if_pos (of_decide_eq_true e2)]
      have e4 : qm cap l.tail m = m := by unfold qm; rw [if_pos (of_decide_eq_true e2)]
      clear h0 h1
      go_enter Try.func18, Try.ntmps18
      go_wp2_with first | (go_at_call 24; refine (room_calls h).mono ?_; rintro _ _ ⟨rfl, rfl⟩) | (go_at_call 20; refine (len_calls h).mono ?_; rintro _ _ ⟨rfl, rfl⟩; rw [hL]) | (go_at_call 16; refine (take_calls h).mono ?_; rintro _ w1 ⟨rfl, k1, h1⟩) | (go_at_call 14; refine (put_calls h1 x).mono ?_; rw [e2, e3, e4]; rintro _ w2 ⟨rfl, k2, h2⟩)
      exact bodyPost_ret (v := .tuple #[.int .i64 (l.headD 0), .bool true]) (by simp [results, Try.results18, go_sem]) rfl ⟨rfl, k1.trans k2, h2⟩
    · rw [if_neg h1, if_neg h1, decide_eq_false (by omega)]
      have e1 : (((l.length : Nat) : Int) == ((cap : Nat) : Int)) = false := beq_eq_false_iff_ne.2 (by omega)
      have e2 : decide (l.length < cap) = true := decide_eq_true (by omega)
      have e3 : qp cap l x = l ++ [x] := by unfold qp; rw [if_pos (of_decide_eq_true e2)]
      have e4 : qm cap l m = m := by unfold qm; rw [if_pos (of_decide_eq_true e2)]
      clear h0 h1
      go_enter Try.func18, Try.ntmps18
      go_wp2_with first | (go_at_call 24; refine (room_calls h).mono ?_; rintro _ _ ⟨rfl, rfl⟩) | (go_at_call 20; refine (len_calls h).mono ?_; rintro _ _ ⟨rfl, rfl⟩; rw [hL]) | (go_at_call 14; refine (put_calls h x).mono ?_; rw [e2, e3, e4]; rintro _ w2 ⟨rfl, k2, h2⟩)
      exact bodyPost_ret (v := .tuple #[.int .i64 0, .bool false]) (by simp [results, Try.results18, go_sem]) rfl ⟨rfl, k2, h2⟩
theorem push_len {cap : Nat} {l : List Int} (x : Int) (h : l.length ≤ cap) : (pushL cap l x).length ≤ cap := by
  unfold pushL
  split
  · exact h
  · split
    · rw [List.length_append, List.length_tail]; simp; omega
    · rw [List.length_append]; simp; omega

theorem put_nil (x : Int) (w : World) : Calls Try.prog 14 #[.pointer none, .int .i64 x] w fun e w' => e = .returned (.bool false) ∧ w' = w := by
  go_enter Try.func14, Try.ntmps14
  go_wp2_with fail
  exact bodyPost_ret (v := .bool false) (by simp [results, Try.results14, go_sem]) rfl ⟨rfl, rfl⟩

theorem take_nil (x : Int) (w : World) : Calls Try.prog 16 #[.pointer none] w fun e w' => e = .returned (.tuple #[.int .i64 0, .bool false]) ∧ w' = w := by
  go_enter Try.func16, Try.ntmps16
  go_wp2_with fail
  exact bodyPost_ret (v := .tuple #[.int .i64 0, .bool false]) (by simp [results, Try.results16, go_sem]) rfl ⟨rfl, rfl⟩

theorem len_nil (x : Int) (w : World) : Calls Try.prog 20 #[.pointer none] w fun e w' => e = .returned (.int .i64 0) ∧ w' = w := by
  go_enter Try.func20, Try.ntmps20
  go_wp2_with fail
  exact bodyPost_ret (v := .int .i64 0) (by simp [results, Try.results20, go_sem]) rfl ⟨rfl, rfl⟩

theorem missed_nil (x : Int) (w : World) : Calls Try.prog 21 #[.pointer none] w fun e w' => e = .returned (.int .i64 0) ∧ w' = w := by
  go_enter Try.func21, Try.ntmps21
  go_wp2_with fail
  exact bodyPost_ret (v := .int .i64 0) (by simp [results, Try.results21, go_sem]) rfl ⟨rfl, rfl⟩

theorem room_nil (x : Int) (w : World) : Calls Try.prog 24 #[.pointer none] w fun e w' => e = .returned (.int .i64 0) ∧ w' = w := by
  go_enter Try.func24, Try.ntmps24
  go_wp2_with fail
  exact bodyPost_ret (v := .int .i64 0) (by simp [results, Try.results24, go_sem]) rfl ⟨rfl, rfl⟩

theorem push_nil (x : Int) (w : World) : Calls Try.prog 18 #[.pointer none, .int .i64 x] w fun e w' => e = .returned (.tuple #[.int .i64 x, .bool true]) ∧ w' = w := by
  go_enter Try.func18, Try.ntmps18
  go_wp2_with (go_at_call 24; refine (room_nil 0 w).mono ?_; rintro _ _ ⟨rfl, rfl⟩)
  exact bodyPost_ret (v := .tuple #[.int .i64 x, .bool true]) (by simp [results, Try.results18, go_sem]) rfl ⟨rfl, rfl⟩

end Go.Proofs.Ytccnfckogcdpcaa.X

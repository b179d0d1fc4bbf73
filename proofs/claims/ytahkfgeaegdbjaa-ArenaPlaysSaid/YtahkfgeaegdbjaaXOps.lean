/- An access to an arena's word: Load, Store, Swap and Bump, by contracts. Conditions: none. -/
import Derived.Test.YtahkfgeaegdbjaaXOn
namespace Go.Proofs.Ytahkfgeaegdbjaa.X
open Go.RowKit Go.Proofs.YtahkfgeaegdbjaaW.PrintWords
set_option linter.unusedVariables false
set_option linter.unusedSimpArgs false

def inR (ws : List Int) (a : Int) : Prop := 0 ≤ a ∧ a < ws.length
instance (ws : List Int) (a : Int) : Decidable (inR ws a) := inferInstanceAs (Decidable (_ ∧ _))
def cntN (ws : List Int) (c a : Int) : Int := if inR ws a then wrap64 (c + 1) else c

theorem load_calls (w : World) (q g : Nat) (ws : List Int) (c a : Int) (h : Ar w q g ws c) : Calls Try.prog 14 #[.pointer (some ⟨q, 0, none⟩), .int .i64 a] w fun e w' => e = .returned (.tuple #[.int .i64 (if inR ws a then rd ws a else 0), .int .i64 (if inR ws a then 0 else 3)]) ∧ Ar w' q g (if inR ws a then ws.set a.toNat (rd ws a) else ws) (cntN ws c a) ∧ Keep w w' q g := by
  by_cases hr : inR ws a
  · rw [if_pos hr, cntN, if_pos hr]
    try rw [if_pos hr]
    try rw [if_pos hr]
    go_enter Try.func14, Try.ntmps14
    go_wp2_with (go_at_call 22; refine (on_load _ q g ws c a h hr.1 hr.2 ).mono ?_; rintro e w1 ⟨rfl, hA, hK⟩)
    go_ret2
    exact ⟨rfl, hA, (Keep.refl w q g).trans hK⟩
  · rw [if_neg hr, cntN, if_neg hr]
    try rw [if_neg hr]
    try rw [if_neg hr]
    go_enter Try.func14, Try.ntmps14
    go_wp2_with (go_at_call 22; refine (on_out _ _ q g ws c a h (by unfold inR at hr; omega)).mono ?_; rintro e w1 ⟨rfl, hB⟩)
    go_ret2
    exact ⟨rfl, Ar.below h hB h.lq h.lg, (Keep.refl w q g).trans (Keep.of_below hB)⟩
theorem load_nil (w : World) (a : Int) : Calls Try.prog 14 #[.pointer none, .int .i64 a] w fun e w' => e = .returned (.tuple #[.int .i64 (0), .int .i64 (1)]) ∧ Below w.heap.size w w' := by
  go_enter Try.func14, Try.ntmps14
  go_wp2_with (go_at_call 22; refine (on_nil _ _ a).mono ?_; rintro e w1 ⟨rfl, hB⟩)
  go_ret2
  exact ⟨rfl, (Below.refl _ w).trans (hB.mono (by simp))⟩

theorem store_calls (w : World) (q g : Nat) (ws : List Int) (c a : Int) (x : Int) (h : Ar w q g ws c) : Calls Try.prog 17 #[.pointer (some ⟨q, 0, none⟩), .int .i64 a, .int .i64 x] w fun e w' => e = .returned (.int .i64 (if inR ws a then 0 else 3)) ∧ Ar w' q g (if inR ws a then ws.set a.toNat x else ws) (cntN ws c a) ∧ Keep w w' q g := by
  by_cases hr : inR ws a
  · rw [if_pos hr, cntN, if_pos hr]
    try rw [if_pos hr]
    try rw [if_pos hr]
    go_enter Try.func17, Try.ntmps17
    go_wp2_with (go_at_call 22; refine (on_store _ q g ws c a (h.alloc _) hr.1 hr.2 w.heap.size x (by simp) (by first | (simp; done) | (simp; omega)) (by have := h.lq; omega)).mono ?_; rintro e w1 ⟨rfl, hA, hK⟩)
    go_ret
    exact ⟨rfl, hA, (Keep.of_below ((Below.refl _ w).alloc (by simp) _)).trans hK⟩
  · rw [if_neg hr, cntN, if_neg hr]
    try rw [if_neg hr]
    try rw [if_neg hr]
    go_enter Try.func17, Try.ntmps17
    go_wp2_with (go_at_call 22; refine (on_out _ _ q g ws c a (h.alloc _) (by unfold inR at hr; omega)).mono ?_; rintro e w1 ⟨rfl, hB⟩)
    go_ret
    exact ⟨rfl, Ar.below (h.alloc _) hB (h.alloc _).lq (h.alloc _).lg, (Keep.of_below ((Below.refl _ w).alloc (by simp) _)).trans (Keep.of_below hB)⟩
theorem store_nil (w : World) (a : Int) (x : Int) : Calls Try.prog 17 #[.pointer none, .int .i64 a, .int .i64 x] w fun e w' => e = .returned (.int .i64 (1)) ∧ Below w.heap.size w w' := by
  go_enter Try.func17, Try.ntmps17
  go_wp2_with (go_at_call 22; refine (on_nil _ _ a).mono ?_; rintro e w1 ⟨rfl, hB⟩)
  go_ret
  exact ⟨rfl, ((Below.refl _ w).alloc (by simp) _).trans (hB.mono (by simp))⟩

theorem swap_calls (w : World) (q g : Nat) (ws : List Int) (c a : Int) (old x : Int) (h : Ar w q g ws c) : Calls Try.prog 18 #[.pointer (some ⟨q, 0, none⟩), .int .i64 a, .int .i64 old, .int .i64 x] w fun e w' => e = .returned (.tuple #[.int .i64 (if inR ws a then rd ws a else 0), .int .i64 (if inR ws a then 0 else 3)]) ∧ Ar w' q g (if inR ws a then ws.set a.toNat (swN (rd ws a) old x) else ws) (cntN ws c a) ∧ Keep w w' q g := by
  by_cases hr : inR ws a
  · rw [if_pos hr, cntN, if_pos hr]
    try rw [if_pos hr]
    try rw [if_pos hr]
    go_enter Try.func18, Try.ntmps18
    go_wp2_with (go_at_call 22; refine (on_swap _ q g ws c a ((h.alloc _).alloc _) hr.1 hr.2 w.heap.size old (by simp) (by first | (simp; done) | (simp; omega)) (by have := h.lq; omega) (w.heap.size + 1) x (by simp) (by first | (simp; done) | (simp; omega)) (by have := h.lq; omega)).mono ?_; rintro e w1 ⟨rfl, hA, hK⟩)
    go_ret2
    exact ⟨rfl, hA, (Keep.of_below (((Below.refl _ w).alloc (by simp) _).alloc (by simp) _)).trans hK⟩
  · rw [if_neg hr, cntN, if_neg hr]
    try rw [if_neg hr]
    try rw [if_neg hr]
    go_enter Try.func18, Try.ntmps18
    go_wp2_with (go_at_call 22; refine (on_out _ _ q g ws c a ((h.alloc _).alloc _) (by unfold inR at hr; omega)).mono ?_; rintro e w1 ⟨rfl, hB⟩)
    go_ret2
    exact ⟨rfl, Ar.below ((h.alloc _).alloc _) hB ((h.alloc _).alloc _).lq ((h.alloc _).alloc _).lg, (Keep.of_below (((Below.refl _ w).alloc (by simp) _).alloc (by simp) _)).trans (Keep.of_below hB)⟩
theorem swap_nil (w : World) (a : Int) (old x : Int) : Calls Try.prog 18 #[.pointer none, .int .i64 a, .int .i64 old, .int .i64 x] w fun e w' => e = .returned (.tuple #[.int .i64 (0), .int .i64 (1)]) ∧ Below w.heap.size w w' := by
  go_enter Try.func18, Try.ntmps18
  go_wp2_with (go_at_call 22; refine (on_nil _ _ a).mono ?_; rintro e w1 ⟨rfl, hB⟩)
  go_ret2
  exact ⟨rfl, (((Below.refl _ w).alloc (by simp) _).alloc (by simp) _).trans (hB.mono (by simp; omega))⟩

theorem bump_calls (w : World) (q g : Nat) (ws : List Int) (c a : Int) (most : Int) (h : Ar w q g ws c) : Calls Try.prog 13 #[.pointer (some ⟨q, 0, none⟩), .int .i64 a, .int .i64 most] w fun e w' => e = .returned (.tuple #[.int .i64 (if inR ws a then buN (rd ws a) most else 0), .int .i64 (if inR ws a then buE (rd ws a) most else 3)]) ∧ Ar w' q g (if inR ws a then ws.set a.toNat (buN (rd ws a) most) else ws) (cntN ws c a) ∧ Keep w w' q g := by
  by_cases hr : inR ws a
  · rw [if_pos hr, cntN, if_pos hr]
    try rw [if_pos hr]
    try rw [if_pos hr]
    go_enter Try.func13, Try.ntmps13
    go_wp2_with (go_at_call 22; refine (on_bump _ q g ws c a (h.alloc _) hr.1 hr.2 w.heap.size most (by simp) (by first | (simp; done) | (simp; omega)) (by have := h.lq; omega)).mono ?_; rintro e w1 ⟨rfl, hA, hK⟩)
    go_ret2
    exact ⟨rfl, hA, (Keep.of_below ((Below.refl _ w).alloc (by simp) _)).trans hK⟩
  · rw [if_neg hr, cntN, if_neg hr]
    try rw [if_neg hr]
    try rw [if_neg hr]
    go_enter Try.func13, Try.ntmps13
    go_wp2_with (go_at_call 22; refine (on_out _ _ q g ws c a (h.alloc _) (by unfold inR at hr; omega)).mono ?_; rintro e w1 ⟨rfl, hB⟩)
    go_ret2
    exact ⟨rfl, Ar.below (h.alloc _) hB (h.alloc _).lq (h.alloc _).lg, (Keep.of_below ((Below.refl _ w).alloc (by simp) _)).trans (Keep.of_below hB)⟩
theorem bump_nil (w : World) (a : Int) (most : Int) : Calls Try.prog 13 #[.pointer none, .int .i64 a, .int .i64 most] w fun e w' => e = .returned (.tuple #[.int .i64 (0), .int .i64 (1)]) ∧ Below w.heap.size w w' := by
  go_enter Try.func13, Try.ntmps13
  go_wp2_with (go_at_call 22; refine (on_nil _ _ a).mono ?_; rintro e w1 ⟨rfl, hB⟩)
  go_ret2
  exact ⟨rfl, ((Below.refl _ w).alloc (by simp) _).trans (hB.mono (by simp))⟩

end Go.Proofs.Ytahkfgeaegdbjaa.X

/- An access to an arena's word: what arena.on does with each of the four functions that it is handed. Conditions: none. -/
import Derived.Test.YtahkfgeaegdbjaaXNew
namespace Go.Proofs.Ytahkfgeaegdbjaa.X
open Go.RowKit Go.Proofs.YtahkfgeaegdbjaaW.PrintWords
set_option linter.unusedVariables false
set_option linter.unusedSimpArgs false

theorem keep_drewN (w : World) (n q g : Nat) : Keep w (w.drewN n) q g := ⟨rfl, rfl, rfl, Nat.le_refl _, fun _ _ _ _ => rfl⟩
theorem load1_calls (x : Int) (w : World) : Calls Try.prog 24 #[.int .i64 x] w fun e w' => e = .returned (.tuple #[.int .i64 x, .int .i64 x, .int .i64 0]) ∧ w' = w := by
  go_enter Try.func24, Try.ntmps24
  go_wp2
  go_ret3
  exact ⟨rfl, rfl⟩
theorem store1_calls (x y : Int) (b : Nat) (w : World) (h : w.cell? ⟨b, 0, none⟩ = some (.int .i64 y)) : Calls Try.prog 25 #[.int .i64 x, .pointer (some ⟨b, 0, none⟩)] w fun e w' => e = .returned (.tuple #[.int .i64 y, .int .i64 0, .int .i64 0]) ∧ w' = w := by
  go_enter Try.func25, Try.ntmps25
  go_wp2
  go_ret3
  exact ⟨rfl, rfl⟩
def swN (was old x : Int) : Int := if was = old then x else was
theorem swap1_calls (was old x : Int) (b d : Nat) (w : World) (h : w.cell? ⟨b, 0, none⟩ = some (.int .i64 old)) (h2 : w.cell? ⟨d, 0, none⟩ = some (.int .i64 x)) : Calls Try.prog 26 #[.int .i64 was, .pointer (some ⟨b, 0, none⟩), .pointer (some ⟨d, 0, none⟩)] w fun e w' => e = .returned (.tuple #[.int .i64 (swN was old x), .int .i64 was, .int .i64 0]) ∧ w' = w := by
  by_cases e : was = old
  · have b0 : (was == old) = true := beq_iff_eq.2 e
    rw [show swN was old x = x from if_pos e]
    clear e
    go_enter Try.func26, Try.ntmps26
    go_wp2
    go_ret3
    exact ⟨rfl, rfl⟩
  · have b0 : (was == old) = false := beq_eq_false_iff_ne.2 e
    rw [show swN was old x = was from if_neg e]
    clear e
    go_enter Try.func26, Try.ntmps26
    go_wp2
    go_ret3
    exact ⟨rfl, rfl⟩
def buN (was most : Int) : Int := if most ≤ was then was else wrap64 (was + 1)
def buE (was most : Int) : Int := if most ≤ was then 8 else 0
theorem bump1_calls (was most : Int) (b : Nat) (w : World) (h : w.cell? ⟨b, 0, none⟩ = some (.int .i64 most)) : Calls Try.prog 23 #[.int .i64 was, .pointer (some ⟨b, 0, none⟩)] w fun e w' => e = .returned (.tuple #[.int .i64 (buN was most), .int .i64 (buN was most), .int .i64 (buE was most)]) ∧ w' = w := by
  by_cases e : most ≤ was
  · have b0 : decide (most ≤ was) = true := decide_eq_true e
    rw [show buN was most = was from if_pos e, show buE was most = 8 from if_pos e]
    clear e
    go_enter Try.func23, Try.ntmps23
    go_wp2
    go_ret3
    exact ⟨rfl, rfl⟩
  · have b0 : decide (most ≤ was) = false := decide_eq_false e
    rw [show buN was most = wrap64 (was + 1) from if_neg e, show buE was most = 0 from if_neg e]
    clear e
    go_enter Try.func23, Try.ntmps23
    go_wp2
    go_ret3
    exact ⟨rfl, rfl⟩

theorem on_load (w : World) (q g : Nat) (ws : List Int) (c a : Int) (h : Ar w q g ws c) (h0 : 0 ≤ a) (h1 : a < ws.length) : Calls Try.prog 22 #[.pointer (some ⟨q, 0, none⟩), .int .i64 a, .agg #[.func (.func 24) #[] #[]]] w fun e w' => e = .returned (.tuple #[.int .i64 (rd ws a), .int .i64 (0)]) ∧ Ar w' q g (ws.set a.toNat (rd ws a)) (wrap64 (c + 1)) ∧ Keep w w' q g := by
  have k0 : ∀ o, (w.alloc o).cell? ⟨q, 0, none⟩ = _ := fun o => (h.alloc o).c0
  have k1 : ∀ o, (w.alloc o).cell? ⟨q, 1, none⟩ = _ := fun o => (h.alloc o).c1
  have kf : ∀ o, (w.alloc o).frozen? ⟨q, 1, none⟩ = _ := fun o => (h.alloc o).f1
  have hb := Aside0.mk (fun o => (h.alloc o).count (wrap64 (c + 1)))
  have l0 : ∀ o, ((w.alloc o).setCell ⟨q, 1, none⟩ (.int .i64 (wrap64 (c + 1)))).cell? ⟨q, 0, none⟩ = _ := fun o => ((h.alloc o).count (wrap64 (c + 1))).c0
  have la : ∀ o, ((w.alloc o).setCell ⟨q, 1, none⟩ (.int .i64 (wrap64 (c + 1)))).cell? ⟨g, a.toNat, none⟩ = some (.int .i64 (rd ws a)) := fun o => (((h.alloc o).count (wrap64 (c + 1))).at_ a h0 h1).1
  have lf : ∀ o, ((w.alloc o).setCell ⟨q, 1, none⟩ (.int .i64 (wrap64 (c + 1)))).frozen? ⟨g, a.toNat, none⟩ = false := fun o => (((h.alloc o).count (wrap64 (c + 1))).at_ a h0 h1).2
  have lb : ∀ u, ((w.alloc (.cells #[u] 57)).setCell ⟨q, 1, none⟩ (.int .i64 (wrap64 (c + 1)))).cell? ⟨w.heap.size, 0, none⟩ = some u := fun u => by
    have := h.lq
    rw [World.cell?_setCell_other _ _ _ _ (by first | (simp; done) | (simp; omega))]; simp
  have b0 : decide (a < 0) = false := decide_eq_false (by omega)
  have b1 : decide ((ws.length : Int) ≤ a) = false := decide_eq_false (by omega)
  have p0 : (0 ≤ a) = True := eq_true h0
  have p1 : (a < (ws.length : Int)) = True := eq_true h1
  clear h h0 h1
  go_enter Try.func22, Try.ntmps22
  go_wp2
  go_quiet ((go_at_call 24; exact Calls.quiet_of_same (load1_calls _ _)))
  go_wp2
  go_ret2
  refine ⟨rfl, ((hb.out _).drewN _).put _ _, ?_⟩
  exact (((Keep.of_below ((Below.refl _ w).alloc (Nat.le_refl _) _)).trans (Keep.set (.inl rfl) _)).trans (keep_drewN _ _ _ _)).trans (Keep.set (.inr rfl) _)

theorem on_store (w : World) (q g : Nat) (ws : List Int) (c a : Int) (h : Ar w q g ws c) (h0 : 0 ≤ a) (h1 : a < ws.length) (b : Nat) (x : Int) (hb1 : w.cell? ⟨b, 0, none⟩ = some (.int .i64 x)) (hb2 : b < w.heap.size) (hb3 : q ≠ b) : Calls Try.prog 22 #[.pointer (some ⟨q, 0, none⟩), .int .i64 a, .agg #[.func (.func 25) #[] #[.pointer (some ⟨b, 0, none⟩)]]] w fun e w' => e = .returned (.tuple #[.int .i64 (0), .int .i64 (0)]) ∧ Ar w' q g (ws.set a.toNat (x)) (wrap64 (c + 1)) ∧ Keep w w' q g := by
  have k0 : ∀ o, (w.alloc o).cell? ⟨q, 0, none⟩ = _ := fun o => (h.alloc o).c0
  have k1 : ∀ o, (w.alloc o).cell? ⟨q, 1, none⟩ = _ := fun o => (h.alloc o).c1
  have kf : ∀ o, (w.alloc o).frozen? ⟨q, 1, none⟩ = _ := fun o => (h.alloc o).f1
  have hb := Aside0.mk (fun o => (h.alloc o).count (wrap64 (c + 1)))
  have l0 : ∀ o, ((w.alloc o).setCell ⟨q, 1, none⟩ (.int .i64 (wrap64 (c + 1)))).cell? ⟨q, 0, none⟩ = _ := fun o => ((h.alloc o).count (wrap64 (c + 1))).c0
  have la : ∀ o, ((w.alloc o).setCell ⟨q, 1, none⟩ (.int .i64 (wrap64 (c + 1)))).cell? ⟨g, a.toNat, none⟩ = some (.int .i64 (rd ws a)) := fun o => (((h.alloc o).count (wrap64 (c + 1))).at_ a h0 h1).1
  have lf : ∀ o, ((w.alloc o).setCell ⟨q, 1, none⟩ (.int .i64 (wrap64 (c + 1)))).frozen? ⟨g, a.toNat, none⟩ = false := fun o => (((h.alloc o).count (wrap64 (c + 1))).at_ a h0 h1).2
  have lb : ∀ u, ((w.alloc (.cells #[u] 57)).setCell ⟨q, 1, none⟩ (.int .i64 (wrap64 (c + 1)))).cell? ⟨w.heap.size, 0, none⟩ = some u := fun u => by
    have := h.lq
    rw [World.cell?_setCell_other _ _ _ _ (by first | (simp; done) | (simp; omega))]; simp
  have lb' : ∀ o, ((w.alloc o).setCell ⟨q, 1, none⟩ (.int .i64 (wrap64 (c + 1)))).cell? ⟨b, 0, none⟩ = some (.int .i64 x) := fun o => by
    rw [World.cell?_setCell_other _ _ _ _ (by first | (simp; done) | (simp; omega)), World.cell?_alloc_lt _ _ _ hb2]; exact hb1
  have b0 : decide (a < 0) = false := decide_eq_false (by omega)
  have b1 : decide ((ws.length : Int) ≤ a) = false := decide_eq_false (by omega)
  have p0 : (0 ≤ a) = True := eq_true h0
  have p1 : (a < (ws.length : Int)) = True := eq_true h1
  clear h h0 h1
  go_enter Try.func22, Try.ntmps22
  go_wp2
  go_quiet ((go_at_call 25; exact Calls.quiet_of_same (store1_calls _ x b _ (by simpa using lb' _))))
  go_wp2
  go_ret2
  refine ⟨rfl, ((hb.out _).drewN _).put _ _, ?_⟩
  exact (((Keep.of_below ((Below.refl _ w).alloc (Nat.le_refl _) _)).trans (Keep.set (.inl rfl) _)).trans (keep_drewN _ _ _ _)).trans (Keep.set (.inr rfl) _)

theorem on_swap (w : World) (q g : Nat) (ws : List Int) (c a : Int) (h : Ar w q g ws c) (h0 : 0 ≤ a) (h1 : a < ws.length) (b : Nat) (old : Int) (hb1 : w.cell? ⟨b, 0, none⟩ = some (.int .i64 old)) (hb2 : b < w.heap.size) (hb3 : q ≠ b) (d : Nat) (x : Int) (hd1 : w.cell? ⟨d, 0, none⟩ = some (.int .i64 x)) (hd2 : d < w.heap.size) (hd3 : q ≠ d) : Calls Try.prog 22 #[.pointer (some ⟨q, 0, none⟩), .int .i64 a, .agg #[.func (.func 26) #[] #[.pointer (some ⟨b, 0, none⟩), .pointer (some ⟨d, 0, none⟩)]]] w fun e w' => e = .returned (.tuple #[.int .i64 (rd ws a), .int .i64 (0)]) ∧ Ar w' q g (ws.set a.toNat (swN (rd ws a) old x)) (wrap64 (c + 1)) ∧ Keep w w' q g := by
  have k0 : ∀ o, (w.alloc o).cell? ⟨q, 0, none⟩ = _ := fun o => (h.alloc o).c0
  have k1 : ∀ o, (w.alloc o).cell? ⟨q, 1, none⟩ = _ := fun o => (h.alloc o).c1
  have kf : ∀ o, (w.alloc o).frozen? ⟨q, 1, none⟩ = _ := fun o => (h.alloc o).f1
  have hb := Aside0.mk (fun o => (h.alloc o).count (wrap64 (c + 1)))
  have l0 : ∀ o, ((w.alloc o).setCell ⟨q, 1, none⟩ (.int .i64 (wrap64 (c + 1)))).cell? ⟨q, 0, none⟩ = _ := fun o => ((h.alloc o).count (wrap64 (c + 1))).c0
  have la : ∀ o, ((w.alloc o).setCell ⟨q, 1, none⟩ (.int .i64 (wrap64 (c + 1)))).cell? ⟨g, a.toNat, none⟩ = some (.int .i64 (rd ws a)) := fun o => (((h.alloc o).count (wrap64 (c + 1))).at_ a h0 h1).1
  have lf : ∀ o, ((w.alloc o).setCell ⟨q, 1, none⟩ (.int .i64 (wrap64 (c + 1)))).frozen? ⟨g, a.toNat, none⟩ = false := fun o => (((h.alloc o).count (wrap64 (c + 1))).at_ a h0 h1).2
  have lb : ∀ u, ((w.alloc (.cells #[u] 57)).setCell ⟨q, 1, none⟩ (.int .i64 (wrap64 (c + 1)))).cell? ⟨w.heap.size, 0, none⟩ = some u := fun u => by
    have := h.lq
    rw [World.cell?_setCell_other _ _ _ _ (by first | (simp; done) | (simp; omega))]; simp
  have lb' : ∀ o, ((w.alloc o).setCell ⟨q, 1, none⟩ (.int .i64 (wrap64 (c + 1)))).cell? ⟨b, 0, none⟩ = some (.int .i64 old) := fun o => by
    rw [World.cell?_setCell_other _ _ _ _ (by first | (simp; done) | (simp; omega)), World.cell?_alloc_lt _ _ _ hb2]; exact hb1
  have ld : ∀ o, ((w.alloc o).setCell ⟨q, 1, none⟩ (.int .i64 (wrap64 (c + 1)))).cell? ⟨d, 0, none⟩ = some (.int .i64 x) := fun o => by
    rw [World.cell?_setCell_other _ _ _ _ (by first | (simp; done) | (simp; omega)), World.cell?_alloc_lt _ _ _ hd2]; exact hd1
  have b0 : decide (a < 0) = false := decide_eq_false (by omega)
  have b1 : decide ((ws.length : Int) ≤ a) = false := decide_eq_false (by omega)
  have p0 : (0 ≤ a) = True := eq_true h0
  have p1 : (a < (ws.length : Int)) = True := eq_true h1
  clear h h0 h1
  go_enter Try.func22, Try.ntmps22
  go_wp2
  go_quiet ((go_at_call 26; exact Calls.quiet_of_same (swap1_calls _ old x b d _ (by simpa using lb' _) (by simpa using ld _))))
  go_wp2
  go_ret2
  refine ⟨rfl, ((hb.out _).drewN _).put _ _, ?_⟩
  exact (((Keep.of_below ((Below.refl _ w).alloc (Nat.le_refl _) _)).trans (Keep.set (.inl rfl) _)).trans (keep_drewN _ _ _ _)).trans (Keep.set (.inr rfl) _)

theorem on_bump (w : World) (q g : Nat) (ws : List Int) (c a : Int) (h : Ar w q g ws c) (h0 : 0 ≤ a) (h1 : a < ws.length) (b : Nat) (most : Int) (hb1 : w.cell? ⟨b, 0, none⟩ = some (.int .i64 most)) (hb2 : b < w.heap.size) (hb3 : q ≠ b) : Calls Try.prog 22 #[.pointer (some ⟨q, 0, none⟩), .int .i64 a, .agg #[.func (.func 23) #[] #[.pointer (some ⟨b, 0, none⟩)]]] w fun e w' => e = .returned (.tuple #[.int .i64 (buN (rd ws a) most), .int .i64 (buE (rd ws a) most)]) ∧ Ar w' q g (ws.set a.toNat (buN (rd ws a) most)) (wrap64 (c + 1)) ∧ Keep w w' q g := by
  have k0 : ∀ o, (w.alloc o).cell? ⟨q, 0, none⟩ = _ := fun o => (h.alloc o).c0
  have k1 : ∀ o, (w.alloc o).cell? ⟨q, 1, none⟩ = _ := fun o => (h.alloc o).c1
  have kf : ∀ o, (w.alloc o).frozen? ⟨q, 1, none⟩ = _ := fun o => (h.alloc o).f1
  have hb := Aside0.mk (fun o => (h.alloc o).count (wrap64 (c + 1)))
  have l0 : ∀ o, ((w.alloc o).setCell ⟨q, 1, none⟩ (.int .i64 (wrap64 (c + 1)))).cell? ⟨q, 0, none⟩ = _ := fun o => ((h.alloc o).count (wrap64 (c + 1))).c0
  have la : ∀ o, ((w.alloc o).setCell ⟨q, 1, none⟩ (.int .i64 (wrap64 (c + 1)))).cell? ⟨g, a.toNat, none⟩ = some (.int .i64 (rd ws a)) := fun o => (((h.alloc o).count (wrap64 (c + 1))).at_ a h0 h1).1
  have lf : ∀ o, ((w.alloc o).setCell ⟨q, 1, none⟩ (.int .i64 (wrap64 (c + 1)))).frozen? ⟨g, a.toNat, none⟩ = false := fun o => (((h.alloc o).count (wrap64 (c + 1))).at_ a h0 h1).2
  have lb : ∀ u, ((w.alloc (.cells #[u] 57)).setCell ⟨q, 1, none⟩ (.int .i64 (wrap64 (c + 1)))).cell? ⟨w.heap.size, 0, none⟩ = some u := fun u => by
    have := h.lq
    rw [World.cell?_setCell_other _ _ _ _ (by first | (simp; done) | (simp; omega))]; simp
  have lb' : ∀ o, ((w.alloc o).setCell ⟨q, 1, none⟩ (.int .i64 (wrap64 (c + 1)))).cell? ⟨b, 0, none⟩ = some (.int .i64 most) := fun o => by
    rw [World.cell?_setCell_other _ _ _ _ (by first | (simp; done) | (simp; omega)), World.cell?_alloc_lt _ _ _ hb2]; exact hb1
  have b0 : decide (a < 0) = false := decide_eq_false (by omega)
  have b1 : decide ((ws.length : Int) ≤ a) = false := decide_eq_false (by omega)
  have p0 : (0 ≤ a) = True := eq_true h0
  have p1 : (a < (ws.length : Int)) = True := eq_true h1
  clear h h0 h1
  go_enter Try.func22, Try.ntmps22
  go_wp2
  go_quiet ((go_at_call 23; exact Calls.quiet_of_same (bump1_calls _ most b _ (by simpa using lb' _))))
  go_wp2
  go_ret2
  refine ⟨rfl, ((hb.out _).drewN _).put _ _, ?_⟩
  exact (((Keep.of_below ((Below.refl _ w).alloc (Nat.le_refl _) _)).trans (Keep.set (.inl rfl) _)).trans (keep_drewN _ _ _ _)).trans (Keep.set (.inr rfl) _)

theorem on_out (fv : Value) (w : World) (q g : Nat) (ws : List Int) (c a : Int) (h : Ar w q g ws c) (h0 : a < 0 ∨ (ws.length : Int) ≤ a) : Calls Try.prog 22 #[.pointer (some ⟨q, 0, none⟩), .int .i64 a, .agg #[fv]] w fun e w' => e = .returned (.tuple #[.int .i64 0, .int .i64 3]) ∧ Below w.heap.size w w' := by
  have k0 : ∀ o, (w.alloc o).cell? ⟨q, 0, none⟩ = _ := fun o => (h.alloc o).c0
  by_cases e : a < 0
  · have b0 : decide (a < 0) = true := decide_eq_true e
    clear h h0 e
    go_enter Try.func22, Try.ntmps22
    go_wp2
    go_ret2
    exact ⟨rfl, by repeat (first | exact Below.refl _ _ | apply Below.drew | (refine Below.alloc ?_ (Nat.le_refl _) _))⟩
  · have b0 : decide (a < 0) = false := decide_eq_false e
    have b1 : decide ((ws.length : Int) ≤ a) = true := decide_eq_true (by omega)
    clear h h0 e
    go_enter Try.func22, Try.ntmps22
    go_wp2
    go_ret2
    exact ⟨rfl, by repeat (first | exact Below.refl _ _ | apply Below.drew | (refine Below.alloc ?_ (Nat.le_refl _) _))⟩
theorem on_nil (fv : Value) (w : World) (a : Int) : Calls Try.prog 22 #[.pointer none, .int .i64 a, .agg #[fv]] w fun e w' => e = .returned (.tuple #[.int .i64 0, .int .i64 1]) ∧ Below w.heap.size w w' := by
  go_enter Try.func22, Try.ntmps22
  go_wp2
  go_ret2
  exact ⟨rfl, by repeat (first | exact Below.refl _ _ | apply Below.drew | (refine Below.alloc ?_ (Nat.le_refl _) _))⟩

end Go.Proofs.Ytahkfgeaegdbjaa.X

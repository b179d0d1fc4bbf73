/- The document's example, and a purse behind some steps: contracts by hand. Conditions: none. -/
import Derived.Test.YtmgphebhfecfmaaXOps
import Derived.Deep.DeepCutAuto
namespace Go.Proofs.Ytmgphebhfecfmaa.X
open Go.RowKit Go.Proofs.Ytmgphebhfecfmaa.PPursePlays Go.Proofs.YtmgphebhfecfmaaW.PrintWords Go.Proofs.YtmgphebhfecfmaaW.PrintLast Go.Proofs.YtmgphebhfecfmaaW.PrintMore
set_option linter.unusedVariables false
set_option linter.unusedSimpArgs false

theorem blk5 {w : World} {g : Nat} {T : TypeId} {a b c d e : Value} (h : w.heap[g]? = some (.cells #[a, b, c, d, e] T)) : w.cell? ⟨g, 0, none⟩ = some a ∧ w.cell? ⟨g, 1, none⟩ = some b ∧ w.cell? ⟨g, 2, none⟩ = some c ∧ w.cell? ⟨g, 3, none⟩ = some d ∧ w.cell? ⟨g, 4, none⟩ = some e :=
  ⟨blk_cell h 0, blk_cell h 1, blk_cell h 2, blk_cell h 3, blk_cell h 4⟩
theorem bnext {w v w' : World} {o : Obj} (h : Below w.heap.size w v) (k : Below (v.alloc o).heap.size (v.alloc o) w') : Below w.heap.size w w' :=
  (h.alloc h.size o).trans (k.mono (by have := h.size; simp only [World.size_alloc]; omega))
theorem bthen {w v w' : World} (h : Below w.heap.size w v) (k : Below v.heap.size v w') : Below w.heap.size w w' := h.trans (k.mono h.size)
theorem bdraw {w v w' : World} {n : Nat} (h : Below w.heap.size w v) (k : Below (v.drewN n).heap.size (v.drewN n) w') : Below w.heap.size w w' := bthen (pw_below_drewN h n) k
theorem ballo {w v : World} (h : Below w.heap.size w v) (o : Obj) : Below w.heap.size w (v.alloc o) := h.alloc h.size o
def no5 : Nat → List Int := fun _ => []
def nosv : Nat → Sv := fun _ => ⟨none, 0, 0⟩
theorem pr_none (w : World) : PR w nosv no5 := fun _ _ => ⟨rfl, Nat.le_refl _, fun _ => ⟨rfl, rfl⟩, Kd.C_nil _ _⟩
def X1 : Nat → List Int := pushX no5 2 7 4
def X2 : Nat → List Int := pushX X1 2 8 4
theorem ok1 : pushOk no5 2 4 = true := by decide +kernel
theorem ok2 : pushOk X1 2 4 = true := by decide +kernel
theorem ok3 : popOk X2 2 = true := by decide +kernel
theorem v3 : popV X2 2 = 8 := by decide +kernel
theorem a3 : allN (popX X2 2) = [7] := by decide +kernel
theorem l2 : ((listN X2 2).length : Int) = 2 := by decide +kernel
theorem l0 : ((listN no5 2).length : Int) = 0 := by decide +kernel
theorem t0 : total no5 ≤ 1000000 := by decide +kernel
theorem t1 : total X1 ≤ 1000000 := by decide +kernel
theorem t2 : total X2 ≤ 1000000 := by decide +kernel
theorem t3 : total (popX X2 2) ≤ 1000000 := by decide +kernel
theorem len_to (P : Nat → Sv) (X : Nat → List Int) (c n : Int) (w : World) (h : PR w P X) (hn : ((listN X c).length : Int) = n) : Calls Try.prog 17 #[.agg #[.slice (P 0).A (P 0).n (P 0).c, .slice (P 1).A (P 1).n (P 1).c, .slice (P 2).A (P 2).n (P 2).c, .slice (P 3).A (P 3).n (P 3).c, .slice (P 4).A (P 4).n (P 4).c], .int .i64 c] w fun e w' => e = .returned (.int .i64 n) ∧ Below w.heap.size w w' := by
  subst hn
  exact len_any P X c w h
theorem push_to (P : Nat → Sv) (X : Nat → List Int) (c a limit : Int) (b : Bool) (w : World) (h : PR w P X) (hb : total X ≤ 1000000) (hk : pushOk X c limit = b) : Calls Try.prog 7 #[.agg #[.slice (P 0).A (P 0).n (P 0).c, .slice (P 1).A (P 1).n (P 1).c, .slice (P 2).A (P 2).n (P 2).c, .slice (P 3).A (P 3).n (P 3).c, .slice (P 4).A (P 4).n (P 4).c], .int .i64 c, .int .i64 a, .int .i64 limit] w fun e w' => ∃ P' : Nat → Sv, e = .returned (.tuple #[.agg #[.slice (P' 0).A (P' 0).n (P' 0).c, .slice (P' 1).A (P' 1).n (P' 1).c, .slice (P' 2).A (P' 2).n (P' 2).c, .slice (P' 3).A (P' 3).n (P' 3).c, .slice (P' 4).A (P' 4).n (P' 4).c], .bool b]) ∧ PR w' P' (pushX X c a limit) ∧ Below w.heap.size w w' := by
  subst hk
  exact push_any P X c a limit w h hb
theorem pop_to (P : Nat → Sv) (X : Nat → List Int) (c x : Int) (b : Bool) (w : World) (h : PR w P X) (hb : total X ≤ 1000000) (hk : popOk X c = b) (hv : popV X c = x) : Calls Try.prog 10 #[.agg #[.slice (P 0).A (P 0).n (P 0).c, .slice (P 1).A (P 1).n (P 1).c, .slice (P 2).A (P 2).n (P 2).c, .slice (P 3).A (P 3).n (P 3).c, .slice (P 4).A (P 4).n (P 4).c], .int .i64 c] w fun e w' => ∃ P' : Nat → Sv, e = .returned (.tuple #[.agg #[.slice (P' 0).A (P' 0).n (P' 0).c, .slice (P' 1).A (P' 1).n (P' 1).c, .slice (P' 2).A (P' 2).n (P' 2).c, .slice (P' 3).A (P' 3).n (P' 3).c, .slice (P' 4).A (P' 4).n (P' 4).c], .int .i64 x, .bool b]) ∧ PR w' P' (popX X c) ∧ Below w.heap.size w w' := by
  subst hk hv
  exact pop_any P X c w h hb
theorem lit_sl (w : World) (x : Int) : Sl (w.alloc (.cells #[.int .i64 x] 3)) ⟨some ⟨w.heap.size, 0, none⟩, 1, 1⟩ [x] := by
  obtain ⟨s, hv, hs, _⟩ := sl_own (own_lit w w.heap.size 3 .i64 [x] (Nat.le_refl _) (by simp)) rfl
  obtain ⟨A, n, c⟩ := s
  simp only [List.length_singleton] at hv
  cases hv
  exact hs
theorem push_nil (w : World) : Calls Try.prog 7 #[.agg #[.slice none 0 0, .slice none 0 0, .slice none 0 0, .slice none 0 0, .slice none 0 0], .int .i64 2, .int .i64 7, .int .i64 4] w fun e w' => ∃ P' : Nat → Sv, e = .returned (.tuple #[.agg #[.slice (P' 0).A (P' 0).n (P' 0).c, .slice (P' 1).A (P' 1).n (P' 1).c, .slice (P' 2).A (P' 2).n (P' 2).c, .slice (P' 3).A (P' 3).n (P' 3).c, .slice (P' 4).A (P' 4).n (P' 4).c], .bool true]) ∧ PR w' P' X1 ∧ Below w.heap.size w w' := push_to nosv no5 2 7 4 true w (pr_none w) t0 ok1
theorem len_nil (w : World) : Calls Try.prog 17 #[.agg #[.slice none 0 0, .slice none 0 0, .slice none 0 0, .slice none 0 0, .slice none 0 0], .int .i64 2] w fun e w' => e = .returned (.int .i64 0) ∧ Below w.heap.size w w' := len_to nosv no5 2 0 w (pr_none w) l0
set_option maxHeartbeats 2000000 in
theorem lives_calls (w : World) : Calls Try.prog 5 #[] w fun e w' => e = .returned (.bool true) ∧ Below w.heap.size w w' := by
  go_enter Try.func5, Try.ntmps5
  go_wp2_with fail
  refine (push_nil _).mono ?_
  rintro e w1 ⟨P1, rfl, h1, hB1⟩
  have H1 := Aside0.mk h1
  have B1 := Aside0.mk hB1
  clear h1 hB1
  go_wp2_with fail
  refine (push_to P1 X1 2 8 4 true _ (H1.out.below ?_) t1 ok2).mono ?_
  · repeat (first | (with_reducible exact Below.refl _ _) | refine Below.setCell ?_ (by first | exact Nat.le_refl _ | exact Nat.le_succ _) _ | refine Below.alloc ?_ (by first | exact Nat.le_refl _ | exact Nat.le_succ _ | simp) _ | apply Below.drew | apply pw_below_drewN)
  rintro e w2 ⟨P2, rfl, h2, hB2⟩
  have H2 := Aside0.mk h2
  have B2 := Aside0.mk hB2
  clear h2 hB2
  go_wp2_with fail
  refine (pop_to P2 X2 2 8 true _ (H2.out.below ?_) t2 ok3 v3).mono ?_
  · repeat (first | (with_reducible exact Below.refl _ _) | refine Below.setCell ?_ (by first | exact Nat.le_refl _ | exact Nat.le_succ _) _ | refine Below.alloc ?_ (by first | exact Nat.le_refl _ | exact Nat.le_succ _ | simp) _ | apply Below.drew | apply pw_below_drewN)
  rintro e w3 ⟨P3, rfl, h3, hB3⟩
  have H3 := Aside0.mk h3
  have B3 := Aside0.mk hB3
  clear h3 hB3
  go_wp2_with fail
  refine (all_calls P3 _ _ (H3.out.below ?_) t3).mono ?_
  · repeat (first | (with_reducible exact Below.refl _ _) | refine Below.setCell ?_ (by first | exact Nat.le_refl _ | exact Nat.le_succ _) _ | refine Below.alloc ?_ (by first | exact Nat.le_refl _ | exact Nat.le_succ _ | simp) _ | apply Below.drew | apply pw_below_drewN)
  rintro e w4 ⟨s', rfl, h4, hB4⟩
  have q0 := Aside0.mk (blk_below (blk_alloc (blk_below (blk_alloc (blk_below (blk_alloc (blk_below (blk_new w _) B1.out) _) B2.out) _) B3.out) _) hB4)
  have q2 := Aside0.mk (blk_below (blk_alloc (blk_below (blk_new w2 _) B3.out) _) hB4)
  have H4 := Aside0.mk h4
  have B4 := Aside0.mk hB4
  clear h4 hB4
  go_wp2_with fail
  refine (same_sl s' ⟨some ⟨w4.heap.size, 0, none⟩, 1, 1⟩ _ [7] _ (H4.out.below ((Below.refl _ _).alloc (Nat.le_refl _) _)) (lit_sl w4 7) a3.symm (by rw [a3]; decide)).mono ?_
  rintro e w5 ⟨rfl, ⟨n5, rfl⟩⟩
  obtain ⟨d0, d1, d2, d3, d4⟩ := blk5 (blk_alloc q2.out (.cells #[.int .i64 7] 3))
  go_wp2_with fail
  refine (len_to P2 X2 2 2 _ (H2.out.below ?_) l2).mono ?_
  · exact pw_below_drewN (ballo (bnext (bnext (Below.refl _ _) B3.out) B4.out) _) _
  rintro e w6 ⟨rfl, hB6⟩
  obtain ⟨e0, e1, e2, e3, e4⟩ := blk5 (blk_below (blk_drewN (blk_alloc q0.out _) _) hB6)
  have B6 := Aside0.mk hB6
  clear hB6
  go_wp2_with fail
  refine (len_nil _).mono ?_
  rintro e w7 ⟨rfl, hB7⟩
  have B7 := Aside0.mk hB7
  clear hB7
  go_wp2_with fail
  go_ret
  exact ⟨rfl, bthen (bdraw (ballo (bnext (bnext (bnext (bnext (Below.refl _ _) B1.out) B2.out) B3.out) B4.out) _) B6.out) B7.out⟩

end Go.Proofs.Ytmgphebhfecfmaa.X

/- What is pushed is popped, and leaves the purse as it was; what is in it is had: the walk by hand. Conditions: none. -/
import Derived.Test.YtmgphebhfecfmaaXAfter
import Derived.Deep.RegionHeld3
namespace Go.Proofs.Ytmgphebhfecfmaa.X
open Go.RowKit Go.Proofs.Ytmgphebhfecfmaa.PPursePlays Go.Proofs.YtmgphebhfecfmaaW.PrintWords Go.Proofs.YtmgphebhfecfmaaW.PrintLast Go.Proofs.YtmgphebhfecfmaaW.PrintMore
set_option linter.unusedVariables false
set_option linter.unusedSimpArgs false

theorem upd_same {α : Type} (X : Nat → α) (k : Nat) (v : α) : upd X k v k = v := by simp [upd]
theorem upd_back {α : Type} (X : Nat → α) (k : Nat) (v : α) : upd (upd X k v) k (X k) = X := by
  funext i
  unfold upd
  by_cases h : i = k
  · rw [if_pos h, h]
  · rw [if_neg h, if_neg h]
theorem push_ok {X : Nat → List Int} {c : Int} (h : total X ≤ 60) : pushOk X c 1000 = decide (0 ≤ c ∧ c < 5) := by
  unfold pushOk
  by_cases hc : 0 ≤ c ∧ c < 5
  · rw [decide_eq_true hc]
    refine decide_eq_true ⟨hc.1, hc.2, ?_⟩
    have := le_total X c.toNat (by omega)
    omega
  · rw [decide_eq_false hc]
    exact decide_eq_false (fun hh => hc ⟨hh.1, hh.2.1⟩)
theorem back_facts {X : Nat → List Int} {c a : Int} (h : total X ≤ 60) (hc : 0 ≤ c ∧ c < 5) :
    pushOk X c 1000 = true ∧ popOk (pushX X c a 1000) c = true ∧ popV (pushX X c a 1000) c = a ∧ popX (pushX X c a 1000) c = X ∧ total (pushX X c a 1000) = total X + 1 := by
  have h1 : pushOk X c 1000 = true := by rw [push_ok h, decide_eq_true hc]
  have h2 : pushX X c a 1000 = upd X c.toNat (X c.toNat ++ [a]) := by unfold pushX; rw [if_pos h1]
  have h3 : (upd X c.toNat (X c.toNat ++ [a])) c.toNat = X c.toNat ++ [a] := upd_same _ _ _
  have h4 : popOk (upd X c.toNat (X c.toNat ++ [a])) c = true := decide_eq_true ⟨hc.1, hc.2, by rw [h3]; simp⟩
  rw [h2]
  refine ⟨h1, h4, ?_, ?_, ?_⟩
  · unfold popV
    rw [if_pos h4, h3]
    simp [rd, List.getD]
  · unfold popX
    rw [if_pos h4, h3]
    have e : (X c.toNat ++ [a]).take ((X c.toNat ++ [a]).length - 1) = X c.toNat := by simp
    rw [e]
    exact upd_back _ _ _
  · rcases cls_nat hc with rfl | rfl | rfl | rfl | rfl <;> simp [total, upd] <;> omega
theorem pr_read (s : Sv) (l : List Int) (w : World) (h : Sl w s l) (i : Int) (h0 : 0 ≤ i) (h1 : i < l.length) : ∃ ad, s.A = some ad ∧ w.cell? (ad.add i.toNat) = some (.int .i64 (rd l i)) :=
  Kd.at_int h.C i h0 (by rw [h.len]; omega)
theorem has_rd (l : List Int) (i : Int) (h0 : 0 ≤ i) (h1 : i < l.length) : hasN l (rd l i) = true := by
  unfold hasN
  rw [List.any_eq_true]
  refine ⟨rd l i, ?_, by simp⟩
  have e : rd l i = l[i.toNat]'(by omega) := by simp [rd, List.getD, show i.toNat < l.length by omega]
  rw [e]
  exact List.getElem_mem _
theorem has_to (P : Nat → Sv) (X : Nat → List Int) (x : Int) (w : World) (h : PR w P X) (hb : total X ≤ 1000000) (hx : hasN (allN X) x = true) : Calls Try.prog 11 #[.agg #[.slice (P 0).A (P 0).n (P 0).c, .slice (P 1).A (P 1).n (P 1).c, .slice (P 2).A (P 2).n (P 2).c, .slice (P 3).A (P 3).n (P 3).c, .slice (P 4).A (P 4).n (P 4).c], .int .i64 x] w fun e w' => e = .returned (.bool true) ∧ Below w.heap.size w w' := by
  have := has_calls P X x w h hb
  rw [hx] at this
  exact this
theorem blk10 {w : World} {g k : Nat} {T U : TypeId} {a b c d e p q r s t : Value} (h : w.heap[g]? = some (.cells #[a, b, c, d, e] T)) (h' : w.heap[k]? = some (.cells #[p, q, r, s, t] U)) : w.cell? ⟨g, 0, none⟩ = some a ∧ w.cell? ⟨g, 1, none⟩ = some b ∧ w.cell? ⟨g, 2, none⟩ = some c ∧ w.cell? ⟨g, 3, none⟩ = some d ∧ w.cell? ⟨g, 4, none⟩ = some e ∧ w.cell? ⟨k, 0, none⟩ = some p ∧ w.cell? ⟨k, 1, none⟩ = some q ∧ w.cell? ⟨k, 2, none⟩ = some r ∧ w.cell? ⟨k, 3, none⟩ = some s ∧ w.cell? ⟨k, 4, none⟩ = some t :=
  ⟨blk_cell h 0, blk_cell h 1, blk_cell h 2, blk_cell h 3, blk_cell h 4, blk_cell h' 0, blk_cell h' 1, blk_cell h' 2, blk_cell h' 3, blk_cell h' 4⟩
theorem back_long (A : Option Addr) (n cp : Nat) (c a : Int) (w : World) (h : 60 < (n : Int)) : Calls Try.prog 3 #[.slice A n cp, .int .i64 c, .int .i64 a] w fun e w' => e = .returned (.bool true) ∧ Below w.heap.size w w' := by
  have b0 : decide ((60 : Int) < (n : Int)) = true := decide_eq_true h
  clear h
  go_enter Try.func3, Try.ntmps3
  go_wp2_with (go_at_call 5; refine (lives_calls _).mono ?_; rintro e w1 ⟨rfl, hB⟩)
  go_ret
  exact ⟨rfl, hB⟩
set_option maxHeartbeats 4000000 in
theorem back_out (A : Option Addr) (n cp : Nat) (c a : Int) (w : World) (hn : n ≤ 60) (hA : ActsAt w A n) (hc : ¬ (0 ≤ c ∧ c < 5)) : Calls Try.prog 3 #[.slice A n cp, .int .i64 c, .int .i64 a] w fun e w' => e = .returned (.bool true) ∧ Below w.heap.size w w' := by
  have b0 : decide ((60 : Int) < (n : Int)) = false := decide_eq_false (by omega)
  have HA := Aside0.mk hA
  have HN := Aside0.mk hn
  have HC := Aside0.mk hc
  clear hA hn
  have hc2 : c < 0 ∨ (decide (c < 0) = false ∧ 4 < c) := by
    by_cases h : c < 0
    · exact .inl h
    · exact .inr ⟨decide_eq_false h, by omega⟩
  clear hc
  rcases hc2 with c0 | ⟨c0, c1⟩
  · 
    go_enter Try.func3, Try.ntmps3
    go_wp2_with fail
    refine (after_calls A n cp _ HA.out (by have := HN.out; omega)).mono ?_
    rintro e wA ⟨P0, X0, rfl, hP0, hT0, hB0⟩
    have HP0 := Aside0.mk hP0
    have HT0 := Aside0.mk (Nat.le_trans hT0 HN.out)
    have HB0 := Aside0.mk hB0
    clear hP0 hT0 hB0
    go_wp2_with fail
    refine (push_to P0 X0 c a 1000 false _ (HP0.out.below (ballo (Below.refl _ _) _)) (by have := HT0.out; omega) (by rw [push_ok HT0.out, decide_eq_false HC.out])).mono ?_
    rintro e wB ⟨P1, rfl, hP1, hB1⟩
    have HP1 : Aside0 (PR wB P1 X0) := ⟨by
      have h := hP1
      unfold pushX at h
      rw [push_ok HT0.out, decide_eq_false HC.out, if_neg (by simp)] at h
      exact h⟩
    have q0 := blk_alloc (blk_below (blk_new wA (.cells #[.slice (P0 0).A (P0 0).n (P0 0).c, .slice (P0 1).A (P0 1).n (P0 1).c, .slice (P0 2).A (P0 2).n (P0 2).c, .slice (P0 3).A (P0 3).n (P0 3).c, .slice (P0 4).A (P0 4).n (P0 4).c] 27)) hB1) (.cells #[.slice (P1 0).A (P1 0).n (P1 0).c, .slice (P1 1).A (P1 1).n (P1 1).c, .slice (P1 2).A (P1 2).n (P1 2).c, .slice (P1 3).A (P1 3).n (P1 3).c, .slice (P1 4).A (P1 4).n (P1 4).c] 27)
    have q1 := blk_new wB (.cells #[.slice (P1 0).A (P1 0).n (P1 0).c, .slice (P1 1).A (P1 1).n (P1 1).c, .slice (P1 2).A (P1 2).n (P1 2).c, .slice (P1 3).A (P1 3).n (P1 3).c, .slice (P1 4).A (P1 4).n (P1 4).c] 27)
    obtain ⟨d0, d1, d2, d3, d4⟩ := blk5 q0
    obtain ⟨e0, e1, e2, e3, e4⟩ := blk5 q1
    have HB1 := Aside0.mk hB1
    have HQ0 := Aside0.mk q0
    have HQ1 := Aside0.mk q1
    clear hP1 hB1 q0 q1
    go_wp2_with fail
    refine wp_region_held_drew (S := fun w' => w'.cell? ⟨wA.heap.size, 0, none⟩ = some (.slice (P0 0).A (P0 0).n (P0 0).c) ∧ w'.cell? ⟨wA.heap.size, 1, none⟩ = some (.slice (P0 1).A (P0 1).n (P0 1).c) ∧ w'.cell? ⟨wA.heap.size, 2, none⟩ = some (.slice (P0 2).A (P0 2).n (P0 2).c) ∧ w'.cell? ⟨wA.heap.size, 3, none⟩ = some (.slice (P0 3).A (P0 3).n (P0 3).c) ∧ w'.cell? ⟨wA.heap.size, 4, none⟩ = some (.slice (P0 4).A (P0 4).n (P0 4).c) ∧ w'.cell? ⟨wB.heap.size, 0, none⟩ = some (.slice (P1 0).A (P1 0).n (P1 0).c) ∧ w'.cell? ⟨wB.heap.size, 1, none⟩ = some (.slice (P1 1).A (P1 1).n (P1 1).c) ∧ w'.cell? ⟨wB.heap.size, 2, none⟩ = some (.slice (P1 2).A (P1 2).n (P1 2).c) ∧ w'.cell? ⟨wB.heap.size, 3, none⟩ = some (.slice (P1 3).A (P1 3).n (P1 3).c) ∧ w'.cell? ⟨wB.heap.size, 4, none⟩ = some (.slice (P1 4).A (P1 4).n (P1 4).c)) (by kernel_rfl) (by first | exact ⟨d0, d1, d2, d3, d4, e0, e1, e2, e3, e4⟩ | (dsimp only; exact ⟨d0, d1, d2, d3, d4, e0, e1, e2, e3, e4⟩)) (fun hS => ?_)
    refine wpAnyH_take (i := 0) (v := ?_) rfl (by kernel_rfl) (by kernel_rfl) (by kernel_rfl) (fun _ _ _ h => h) (Or.inl ⟨by rfl, ?_⟩) hS ?_
    rotate_left
    · intro wS hW; (try dsimp only at hW); obtain ⟨W0, W1, W2, W3, W4, W5, W6, W7, W8, W9⟩ := hW; go_simp; (try with_reducible rfl)
    try simp only [List.getElem_toArray, List.getElem_cons_zero, List.getElem_cons_succ, Act.put, List.setIfInBounds_toArray, List.set_cons_zero, List.set_cons_succ]
    refine wpAnyH_take (i := 1) (v := ?_) rfl (by kernel_rfl) (by kernel_rfl) (by kernel_rfl) (fun _ _ _ h => h) (Or.inl ⟨by rfl, ?_⟩) hS ?_
    rotate_left
    · intro wS hW; (try dsimp only at hW); obtain ⟨W0, W1, W2, W3, W4, W5, W6, W7, W8, W9⟩ := hW; go_simp; (try with_reducible rfl)
    try simp only [List.getElem_toArray, List.getElem_cons_zero, List.getElem_cons_succ, Act.put, List.setIfInBounds_toArray, List.set_cons_zero, List.set_cons_succ]
    refine wpAnyH_take (i := 2) (v := ?_) rfl (by kernel_rfl) (by kernel_rfl) (by kernel_rfl) (fun _ _ _ h => h) (Or.inl ⟨by rfl, ?_⟩) hS ?_
    rotate_left
    · intro wS hW; (try dsimp only at hW); obtain ⟨W0, W1, W2, W3, W4, W5, W6, W7, W8, W9⟩ := hW; go_simp; (try with_reducible rfl)
    try simp only [List.getElem_toArray, List.getElem_cons_zero, List.getElem_cons_succ, Act.put, List.setIfInBounds_toArray, List.set_cons_zero, List.set_cons_succ]
    refine wpAnyH_take (i := 3) (v := undef) rfl (by kernel_rfl) (by kernel_rfl) (by kernel_rfl) (fun _ _ _ h => h) (Or.inr ⟨by rfl, rfl⟩) hS ?_
    try simp only [List.getElem_toArray, List.getElem_cons_zero, List.getElem_cons_succ, Act.put, List.setIfInBounds_toArray, List.set_cons_zero, List.set_cons_succ]
    refine wpAnyH_take (i := 4) (v := undef) rfl (by kernel_rfl) (by kernel_rfl) (by kernel_rfl) (fun _ _ _ h => h) (Or.inr ⟨by rfl, rfl⟩) hS ?_
    try simp only [List.getElem_toArray, List.getElem_cons_zero, List.getElem_cons_succ, Act.put, List.setIfInBounds_toArray, List.set_cons_zero, List.set_cons_succ]
    refine wpAnyH_take (i := 5) (v := ?_) rfl (by kernel_rfl) (by kernel_rfl) (by kernel_rfl) (fun _ _ _ h => h) (Or.inl ⟨by rfl, ?_⟩) hS ?_
    rotate_left
    · intro wS hW; (try dsimp only at hW); obtain ⟨W0, W1, W2, W3, W4, W5, W6, W7, W8, W9⟩ := hW; go_simp; (try with_reducible rfl)
    try simp only [List.getElem_toArray, List.getElem_cons_zero, List.getElem_cons_succ, Act.put, List.setIfInBounds_toArray, List.set_cons_zero, List.set_cons_succ]
    refine wpAnyH_take (i := 6) (v := ?_) rfl (by kernel_rfl) (by kernel_rfl) (by kernel_rfl) (fun _ _ _ h => h) (Or.inl ⟨by rfl, ?_⟩) hS ?_
    rotate_left
    · intro wS hW; (try dsimp only at hW); obtain ⟨W0, W1, W2, W3, W4, W5, W6, W7, W8, W9⟩ := hW; go_simp; (try with_reducible rfl)
    try simp only [List.getElem_toArray, List.getElem_cons_zero, List.getElem_cons_succ, Act.put, List.setIfInBounds_toArray, List.set_cons_zero, List.set_cons_succ]
    refine wpAnyH_take (i := 7) (v := ?_) rfl (by kernel_rfl) (by kernel_rfl) (by kernel_rfl) (fun _ _ _ h => h) (Or.inl ⟨by rfl, ?_⟩) hS ?_
    rotate_left
    · intro wS hW; (try dsimp only at hW); obtain ⟨W0, W1, W2, W3, W4, W5, W6, W7, W8, W9⟩ := hW; go_simp; (try with_reducible rfl)
    try simp only [List.getElem_toArray, List.getElem_cons_zero, List.getElem_cons_succ, Act.put, List.setIfInBounds_toArray, List.set_cons_zero, List.set_cons_succ]
    refine wpAnyH_take (i := 9) (v := ?_) rfl (by kernel_rfl) (by kernel_rfl) (by kernel_rfl) (fun _ _ _ h => h) (Or.inl ⟨by rfl, ?_⟩) hS ?_
    rotate_left
    · intro wS hW; (try dsimp only at hW); obtain ⟨W0, W1, W2, W3, W4, W5, W6, W7, W8, W9⟩ := hW; go_simp; (try with_reducible rfl)
    try simp only [List.getElem_toArray, List.getElem_cons_zero, List.getElem_cons_succ, Act.put, List.setIfInBounds_toArray, List.set_cons_zero, List.set_cons_succ]
    refine wpAnyH_ready (rs := [8]) (by kernel_rfl) (by simp) ?_
    refine AllReadyH.cons rfl (fun K hK => ?_) AllReadyH.nil
    try simp only [List.getElem_toArray, List.getElem_cons_zero, List.getElem_cons_succ, Act.put, List.setIfInBounds_toArray, List.set_cons_zero, List.set_cons_succ]
    go_simp
    refine (all_calls P1 X0 _ (HP1.out.below (below_drew (ballo (Below.refl _ _) _))) (by have := HT0.out; omega)).mono ?_
    rintro e wC ⟨s1, rfl, hs1, hB2⟩
    refine hK.out _ _ (by first | exact blk10 (blk_below (blk_drew HQ0.out) hB2) (blk_below (blk_drew HQ1.out) hB2) | (dsimp only; exact blk10 (blk_below (blk_drew HQ0.out) hB2) (blk_below (blk_drew HQ1.out) hB2))) (fun hS2 => ?_)
    clear hS hK K
    have hS := hS2
    clear hS2
    try simp only [List.getElem_toArray, List.getElem_cons_zero, List.getElem_cons_succ, Act.put, List.setIfInBounds_toArray, List.set_cons_zero, List.set_cons_succ]
    refine wpAnyH_ready (rs := [10]) (by kernel_rfl) (by simp) ?_
    refine AllReadyH.cons rfl (fun K hK => ?_) AllReadyH.nil
    try simp only [List.getElem_toArray, List.getElem_cons_zero, List.getElem_cons_succ, Act.put, List.setIfInBounds_toArray, List.set_cons_zero, List.set_cons_succ]
    go_simp
    refine (all_calls P0 X0 _ (HP0.out.below (bthen (below_drew (ballo (bnext (Below.refl _ _) HB1.out) _)) hB2)) (by have := HT0.out; omega)).mono ?_
    rintro e wD ⟨s2, rfl, hs2, hB3⟩
    refine hK.out _ _ (by first | exact blk10 (blk_below (blk_below (blk_drew HQ0.out) hB2) hB3) (blk_below (blk_below (blk_drew HQ1.out) hB2) hB3) | (dsimp only; exact blk10 (blk_below (blk_below (blk_drew HQ0.out) hB2) hB3) (blk_below (blk_below (blk_drew HQ1.out) hB2) hB3))) (fun hS2 => ?_)
    clear hS hK K
    have hS := hS2
    clear hS2
    try simp only [List.getElem_toArray, List.getElem_cons_zero, List.getElem_cons_succ, Act.put, List.setIfInBounds_toArray, List.set_cons_zero, List.set_cons_succ]
    refine wpAnyH_ready (rs := [11]) (by kernel_rfl) (by simp) ?_
    refine AllReadyH.cons rfl (fun K hK => ?_) AllReadyH.nil
    try simp only [List.getElem_toArray, List.getElem_cons_zero, List.getElem_cons_succ, Act.put, List.setIfInBounds_toArray, List.set_cons_zero, List.set_cons_succ]
    go_simp
    refine (same_sl s1 s2 _ _ _ (hs1.below hB3) hs2 rfl (by rw [allN_len]; have := HT0.out; omega)).mono ?_
    rintro e wE ⟨rfl, ⟨nd, rfl⟩⟩
    refine hK.out _ _ (by first | exact blk10 (blk_drewN (blk_below (blk_below (blk_drew HQ0.out) hB2) hB3) nd) (blk_drewN (blk_below (blk_below (blk_drew HQ1.out) hB2) hB3) nd) | (dsimp only; exact blk10 (blk_drewN (blk_below (blk_below (blk_drew HQ0.out) hB2) hB3) nd) (blk_drewN (blk_below (blk_below (blk_drew HQ1.out) hB2) hB3) nd))) (fun hS2 => ?_)
    clear hS hK K
    have hS := hS2
    clear hS2
    try simp only [List.getElem_toArray, List.getElem_cons_zero, List.getElem_cons_succ, Act.put, List.setIfInBounds_toArray, List.set_cons_zero, List.set_cons_succ]
    refine wpAnyH_take (i := 12) (v := ?_) rfl (by kernel_rfl) (by kernel_rfl) (by kernel_rfl) (fun _ _ _ h => h) (Or.inl ⟨by rfl, ?_⟩) hS ?_
    rotate_left
    · intro wS hW; (try dsimp only at hW); obtain ⟨W0, W1, W2, W3, W4, W5, W6, W7, W8, W9⟩ := hW; go_simp; (try with_reducible rfl)
    try simp only [List.getElem_toArray, List.getElem_cons_zero, List.getElem_cons_succ, Act.put, List.setIfInBounds_toArray, List.set_cons_zero, List.set_cons_succ]
    refine wpAnyH_take (i := 13) (v := ?_) rfl (by kernel_rfl) (by kernel_rfl) (by kernel_rfl) (fun _ _ _ h => h) (Or.inl ⟨by rfl, ?_⟩) hS ?_
    rotate_left
    · intro wS hW; (try dsimp only at hW); obtain ⟨W0, W1, W2, W3, W4, W5, W6, W7, W8, W9⟩ := hW; go_simp; (try with_reducible rfl)
    try simp only [List.getElem_toArray, List.getElem_cons_zero, List.getElem_cons_succ, Act.put, List.setIfInBounds_toArray, List.set_cons_zero, List.set_cons_succ]
    refine wpAnyH_ready (rs := [14]) (by kernel_rfl) (by simp) ?_
    refine AllReadyH.cons rfl (fun K hK => ?_) AllReadyH.nil
    try simp only [List.getElem_toArray, List.getElem_cons_zero, List.getElem_cons_succ, Act.put, List.setIfInBounds_toArray, List.set_cons_zero, List.set_cons_succ]
    go_simp
    refine (lives_calls _).mono ?_
    rintro e wF ⟨rfl, hB5⟩
    refine hK.out _ _ (by first | exact blk10 (blk_below (blk_drewN (blk_below (blk_below (blk_drew HQ0.out) hB2) hB3) nd) hB5) (blk_below (blk_drewN (blk_below (blk_below (blk_drew HQ1.out) hB2) hB3) nd) hB5) | (dsimp only; exact blk10 (blk_below (blk_drewN (blk_below (blk_below (blk_drew HQ0.out) hB2) hB3) nd) hB5) (blk_below (blk_drewN (blk_below (blk_below (blk_drew HQ1.out) hB2) hB3) nd) hB5))) (fun hS2 => ?_)
    clear hS hK K
    have hS := hS2
    clear hS2
    try simp only [List.getElem_toArray, List.getElem_cons_zero, List.getElem_cons_succ, Act.put, List.setIfInBounds_toArray, List.set_cons_zero, List.set_cons_succ]
    refine wpAnyH_take (i := 15) (v := ?_) rfl (by kernel_rfl) (by kernel_rfl) (by kernel_rfl) (fun _ _ _ h => h) (Or.inl ⟨by rfl, ?_⟩) hS ?_
    rotate_left
    · intro wS hW; (try dsimp only at hW); obtain ⟨W0, W1, W2, W3, W4, W5, W6, W7, W8, W9⟩ := hW; go_simp; (try with_reducible rfl)
    try simp only [List.getElem_toArray, List.getElem_cons_zero, List.getElem_cons_succ, Act.put, List.setIfInBounds_toArray, List.set_cons_zero, List.set_cons_succ]
    refine wpAnyH_take (i := 16) (v := ?_) rfl (by kernel_rfl) (by kernel_rfl) (by kernel_rfl) (fun _ _ _ h => h) (Or.inl ⟨by rfl, ?_⟩) hS ?_
    rotate_left
    · intro wS hW; (try dsimp only at hW); obtain ⟨W0, W1, W2, W3, W4, W5, W6, W7, W8, W9⟩ := hW; go_simp; (try with_reducible rfl)
    try simp only [List.getElem_toArray, List.getElem_cons_zero, List.getElem_cons_succ, Act.put, List.setIfInBounds_toArray, List.set_cons_zero, List.set_cons_succ]
    refine wpAnyH_done (by kernel_rfl) ?_ _
    clear hS
    go_wp2_with fail
    go_ret
    exact ⟨rfl, bthen (bthen (pw_below_drewN (bthen (bthen (below_drew (ballo (bnext HB0.out HB1.out) _)) hB2) hB3) nd) hB5) (Below.refl _ _)⟩
  · 
    go_enter Try.func3, Try.ntmps3
    go_wp2_with fail
    refine (after_calls A n cp _ HA.out (by have := HN.out; omega)).mono ?_
    rintro e wA ⟨P0, X0, rfl, hP0, hT0, hB0⟩
    have HP0 := Aside0.mk hP0
    have HT0 := Aside0.mk (Nat.le_trans hT0 HN.out)
    have HB0 := Aside0.mk hB0
    clear hP0 hT0 hB0
    go_wp2_with fail
    refine (push_to P0 X0 c a 1000 false _ (HP0.out.below (ballo (Below.refl _ _) _)) (by have := HT0.out; omega) (by rw [push_ok HT0.out, decide_eq_false HC.out])).mono ?_
    rintro e wB ⟨P1, rfl, hP1, hB1⟩
    have HP1 : Aside0 (PR wB P1 X0) := ⟨by
      have h := hP1
      unfold pushX at h
      rw [push_ok HT0.out, decide_eq_false HC.out, if_neg (by simp)] at h
      exact h⟩
    have q0 := blk_alloc (blk_below (blk_new wA (.cells #[.slice (P0 0).A (P0 0).n (P0 0).c, .slice (P0 1).A (P0 1).n (P0 1).c, .slice (P0 2).A (P0 2).n (P0 2).c, .slice (P0 3).A (P0 3).n (P0 3).c, .slice (P0 4).A (P0 4).n (P0 4).c] 27)) hB1) (.cells #[.slice (P1 0).A (P1 0).n (P1 0).c, .slice (P1 1).A (P1 1).n (P1 1).c, .slice (P1 2).A (P1 2).n (P1 2).c, .slice (P1 3).A (P1 3).n (P1 3).c, .slice (P1 4).A (P1 4).n (P1 4).c] 27)
    have q1 := blk_new wB (.cells #[.slice (P1 0).A (P1 0).n (P1 0).c, .slice (P1 1).A (P1 1).n (P1 1).c, .slice (P1 2).A (P1 2).n (P1 2).c, .slice (P1 3).A (P1 3).n (P1 3).c, .slice (P1 4).A (P1 4).n (P1 4).c] 27)
    obtain ⟨d0, d1, d2, d3, d4⟩ := blk5 q0
    obtain ⟨e0, e1, e2, e3, e4⟩ := blk5 q1
    have HB1 := Aside0.mk hB1
    have HQ0 := Aside0.mk q0
    have HQ1 := Aside0.mk q1
    clear hP1 hB1 q0 q1
    go_wp2_with fail
    refine wp_region_held_drew (S := fun w' => w'.cell? ⟨wA.heap.size, 0, none⟩ = some (.slice (P0 0).A (P0 0).n (P0 0).c) ∧ w'.cell? ⟨wA.heap.size, 1, none⟩ = some (.slice (P0 1).A (P0 1).n (P0 1).c) ∧ w'.cell? ⟨wA.heap.size, 2, none⟩ = some (.slice (P0 2).A (P0 2).n (P0 2).c) ∧ w'.cell? ⟨wA.heap.size, 3, none⟩ = some (.slice (P0 3).A (P0 3).n (P0 3).c) ∧ w'.cell? ⟨wA.heap.size, 4, none⟩ = some (.slice (P0 4).A (P0 4).n (P0 4).c) ∧ w'.cell? ⟨wB.heap.size, 0, none⟩ = some (.slice (P1 0).A (P1 0).n (P1 0).c) ∧ w'.cell? ⟨wB.heap.size, 1, none⟩ = some (.slice (P1 1).A (P1 1).n (P1 1).c) ∧ w'.cell? ⟨wB.heap.size, 2, none⟩ = some (.slice (P1 2).A (P1 2).n (P1 2).c) ∧ w'.cell? ⟨wB.heap.size, 3, none⟩ = some (.slice (P1 3).A (P1 3).n (P1 3).c) ∧ w'.cell? ⟨wB.heap.size, 4, none⟩ = some (.slice (P1 4).A (P1 4).n (P1 4).c)) (by kernel_rfl) (by first | exact ⟨d0, d1, d2, d3, d4, e0, e1, e2, e3, e4⟩ | (dsimp only; exact ⟨d0, d1, d2, d3, d4, e0, e1, e2, e3, e4⟩)) (fun hS => ?_)
    refine wpAnyH_take (i := 0) (v := ?_) rfl (by kernel_rfl) (by kernel_rfl) (by kernel_rfl) (fun _ _ _ h => h) (Or.inl ⟨by rfl, ?_⟩) hS ?_
    rotate_left
    · intro wS hW; (try dsimp only at hW); obtain ⟨W0, W1, W2, W3, W4, W5, W6, W7, W8, W9⟩ := hW; go_simp; (try with_reducible rfl)
    try simp only [List.getElem_toArray, List.getElem_cons_zero, List.getElem_cons_succ, Act.put, List.setIfInBounds_toArray, List.set_cons_zero, List.set_cons_succ]
    refine wpAnyH_take (i := 1) (v := ?_) rfl (by kernel_rfl) (by kernel_rfl) (by kernel_rfl) (fun _ _ _ h => h) (Or.inl ⟨by rfl, ?_⟩) hS ?_
    rotate_left
    · intro wS hW; (try dsimp only at hW); obtain ⟨W0, W1, W2, W3, W4, W5, W6, W7, W8, W9⟩ := hW; go_simp; (try with_reducible rfl)
    try simp only [List.getElem_toArray, List.getElem_cons_zero, List.getElem_cons_succ, Act.put, List.setIfInBounds_toArray, List.set_cons_zero, List.set_cons_succ]
    refine wpAnyH_take (i := 2) (v := ?_) rfl (by kernel_rfl) (by kernel_rfl) (by kernel_rfl) (fun _ _ _ h => h) (Or.inl ⟨by rfl, ?_⟩) hS ?_
    rotate_left
    · intro wS hW; (try dsimp only at hW); obtain ⟨W0, W1, W2, W3, W4, W5, W6, W7, W8, W9⟩ := hW; go_simp; (try with_reducible rfl)
    try simp only [List.getElem_toArray, List.getElem_cons_zero, List.getElem_cons_succ, Act.put, List.setIfInBounds_toArray, List.set_cons_zero, List.set_cons_succ]
    refine wpAnyH_take (i := 3) (v := ?_) rfl (by kernel_rfl) (by kernel_rfl) (by kernel_rfl) (fun _ _ _ h => h) (Or.inl ⟨by rfl, ?_⟩) hS ?_
    rotate_left
    · intro wS hW; (try dsimp only at hW); obtain ⟨W0, W1, W2, W3, W4, W5, W6, W7, W8, W9⟩ := hW; go_simp; (try with_reducible rfl)
    try simp only [List.getElem_toArray, List.getElem_cons_zero, List.getElem_cons_succ, Act.put, List.setIfInBounds_toArray, List.set_cons_zero, List.set_cons_succ]
    refine wpAnyH_take (i := 4) (v := ?_) rfl (by kernel_rfl) (by kernel_rfl) (by kernel_rfl) (fun _ _ _ h => h) (Or.inl ⟨by rfl, ?_⟩) hS ?_
    rotate_left
    · intro wS hW; (try dsimp only at hW); obtain ⟨W0, W1, W2, W3, W4, W5, W6, W7, W8, W9⟩ := hW; go_simp; (try with_reducible rfl)
    try simp only [List.getElem_toArray, List.getElem_cons_zero, List.getElem_cons_succ, Act.put, List.setIfInBounds_toArray, List.set_cons_zero, List.set_cons_succ]
    refine wpAnyH_take (i := 5) (v := ?_) rfl (by kernel_rfl) (by kernel_rfl) (by kernel_rfl) (fun _ _ _ h => h) (Or.inl ⟨by rfl, ?_⟩) hS ?_
    rotate_left
    · intro wS hW; (try dsimp only at hW); obtain ⟨W0, W1, W2, W3, W4, W5, W6, W7, W8, W9⟩ := hW; go_simp; (try with_reducible rfl)
    try simp only [List.getElem_toArray, List.getElem_cons_zero, List.getElem_cons_succ, Act.put, List.setIfInBounds_toArray, List.set_cons_zero, List.set_cons_succ]
    refine wpAnyH_take (i := 6) (v := ?_) rfl (by kernel_rfl) (by kernel_rfl) (by kernel_rfl) (fun _ _ _ h => h) (Or.inl ⟨by rfl, ?_⟩) hS ?_
    rotate_left
    · intro wS hW; (try dsimp only at hW); obtain ⟨W0, W1, W2, W3, W4, W5, W6, W7, W8, W9⟩ := hW; go_simp; (try with_reducible rfl)
    try simp only [List.getElem_toArray, List.getElem_cons_zero, List.getElem_cons_succ, Act.put, List.setIfInBounds_toArray, List.set_cons_zero, List.set_cons_succ]
    refine wpAnyH_take (i := 7) (v := ?_) rfl (by kernel_rfl) (by kernel_rfl) (by kernel_rfl) (fun _ _ _ h => h) (Or.inl ⟨by rfl, ?_⟩) hS ?_
    rotate_left
    · intro wS hW; (try dsimp only at hW); obtain ⟨W0, W1, W2, W3, W4, W5, W6, W7, W8, W9⟩ := hW; go_simp; (try with_reducible rfl)
    try simp only [List.getElem_toArray, List.getElem_cons_zero, List.getElem_cons_succ, Act.put, List.setIfInBounds_toArray, List.set_cons_zero, List.set_cons_succ]
    refine wpAnyH_take (i := 9) (v := ?_) rfl (by kernel_rfl) (by kernel_rfl) (by kernel_rfl) (fun _ _ _ h => h) (Or.inl ⟨by rfl, ?_⟩) hS ?_
    rotate_left
    · intro wS hW; (try dsimp only at hW); obtain ⟨W0, W1, W2, W3, W4, W5, W6, W7, W8, W9⟩ := hW; go_simp; (try with_reducible rfl)
    try simp only [List.getElem_toArray, List.getElem_cons_zero, List.getElem_cons_succ, Act.put, List.setIfInBounds_toArray, List.set_cons_zero, List.set_cons_succ]
    refine wpAnyH_ready (rs := [8]) (by kernel_rfl) (by simp) ?_
    refine AllReadyH.cons rfl (fun K hK => ?_) AllReadyH.nil
    try simp only [List.getElem_toArray, List.getElem_cons_zero, List.getElem_cons_succ, Act.put, List.setIfInBounds_toArray, List.set_cons_zero, List.set_cons_succ]
    go_simp
    refine (all_calls P1 X0 _ (HP1.out.below (below_drew (ballo (Below.refl _ _) _))) (by have := HT0.out; omega)).mono ?_
    rintro e wC ⟨s1, rfl, hs1, hB2⟩
    refine hK.out _ _ (by first | exact blk10 (blk_below (blk_drew HQ0.out) hB2) (blk_below (blk_drew HQ1.out) hB2) | (dsimp only; exact blk10 (blk_below (blk_drew HQ0.out) hB2) (blk_below (blk_drew HQ1.out) hB2))) (fun hS2 => ?_)
    clear hS hK K
    have hS := hS2
    clear hS2
    try simp only [List.getElem_toArray, List.getElem_cons_zero, List.getElem_cons_succ, Act.put, List.setIfInBounds_toArray, List.set_cons_zero, List.set_cons_succ]
    refine wpAnyH_ready (rs := [10]) (by kernel_rfl) (by simp) ?_
    refine AllReadyH.cons rfl (fun K hK => ?_) AllReadyH.nil
    try simp only [List.getElem_toArray, List.getElem_cons_zero, List.getElem_cons_succ, Act.put, List.setIfInBounds_toArray, List.set_cons_zero, List.set_cons_succ]
    go_simp
    refine (all_calls P0 X0 _ (HP0.out.below (bthen (below_drew (ballo (bnext (Below.refl _ _) HB1.out) _)) hB2)) (by have := HT0.out; omega)).mono ?_
    rintro e wD ⟨s2, rfl, hs2, hB3⟩
    refine hK.out _ _ (by first | exact blk10 (blk_below (blk_below (blk_drew HQ0.out) hB2) hB3) (blk_below (blk_below (blk_drew HQ1.out) hB2) hB3) | (dsimp only; exact blk10 (blk_below (blk_below (blk_drew HQ0.out) hB2) hB3) (blk_below (blk_below (blk_drew HQ1.out) hB2) hB3))) (fun hS2 => ?_)
    clear hS hK K
    have hS := hS2
    clear hS2
    try simp only [List.getElem_toArray, List.getElem_cons_zero, List.getElem_cons_succ, Act.put, List.setIfInBounds_toArray, List.set_cons_zero, List.set_cons_succ]
    refine wpAnyH_ready (rs := [11]) (by kernel_rfl) (by simp) ?_
    refine AllReadyH.cons rfl (fun K hK => ?_) AllReadyH.nil
    try simp only [List.getElem_toArray, List.getElem_cons_zero, List.getElem_cons_succ, Act.put, List.setIfInBounds_toArray, List.set_cons_zero, List.set_cons_succ]
    go_simp
    refine (same_sl s1 s2 _ _ _ (hs1.below hB3) hs2 rfl (by rw [allN_len]; have := HT0.out; omega)).mono ?_
    rintro e wE ⟨rfl, ⟨nd, rfl⟩⟩
    refine hK.out _ _ (by first | exact blk10 (blk_drewN (blk_below (blk_below (blk_drew HQ0.out) hB2) hB3) nd) (blk_drewN (blk_below (blk_below (blk_drew HQ1.out) hB2) hB3) nd) | (dsimp only; exact blk10 (blk_drewN (blk_below (blk_below (blk_drew HQ0.out) hB2) hB3) nd) (blk_drewN (blk_below (blk_below (blk_drew HQ1.out) hB2) hB3) nd))) (fun hS2 => ?_)
    clear hS hK K
    have hS := hS2
    clear hS2
    try simp only [List.getElem_toArray, List.getElem_cons_zero, List.getElem_cons_succ, Act.put, List.setIfInBounds_toArray, List.set_cons_zero, List.set_cons_succ]
    refine wpAnyH_take (i := 12) (v := ?_) rfl (by kernel_rfl) (by kernel_rfl) (by kernel_rfl) (fun _ _ _ h => h) (Or.inl ⟨by rfl, ?_⟩) hS ?_
    rotate_left
    · intro wS hW; (try dsimp only at hW); obtain ⟨W0, W1, W2, W3, W4, W5, W6, W7, W8, W9⟩ := hW; go_simp; (try with_reducible rfl)
    try simp only [List.getElem_toArray, List.getElem_cons_zero, List.getElem_cons_succ, Act.put, List.setIfInBounds_toArray, List.set_cons_zero, List.set_cons_succ]
    refine wpAnyH_take (i := 13) (v := ?_) rfl (by kernel_rfl) (by kernel_rfl) (by kernel_rfl) (fun _ _ _ h => h) (Or.inl ⟨by rfl, ?_⟩) hS ?_
    rotate_left
    · intro wS hW; (try dsimp only at hW); obtain ⟨W0, W1, W2, W3, W4, W5, W6, W7, W8, W9⟩ := hW; go_simp; (try with_reducible rfl)
    try simp only [List.getElem_toArray, List.getElem_cons_zero, List.getElem_cons_succ, Act.put, List.setIfInBounds_toArray, List.set_cons_zero, List.set_cons_succ]
    refine wpAnyH_ready (rs := [14]) (by kernel_rfl) (by simp) ?_
    refine AllReadyH.cons rfl (fun K hK => ?_) AllReadyH.nil
    try simp only [List.getElem_toArray, List.getElem_cons_zero, List.getElem_cons_succ, Act.put, List.setIfInBounds_toArray, List.set_cons_zero, List.set_cons_succ]
    go_simp
    refine (lives_calls _).mono ?_
    rintro e wF ⟨rfl, hB5⟩
    refine hK.out _ _ (by first | exact blk10 (blk_below (blk_drewN (blk_below (blk_below (blk_drew HQ0.out) hB2) hB3) nd) hB5) (blk_below (blk_drewN (blk_below (blk_below (blk_drew HQ1.out) hB2) hB3) nd) hB5) | (dsimp only; exact blk10 (blk_below (blk_drewN (blk_below (blk_below (blk_drew HQ0.out) hB2) hB3) nd) hB5) (blk_below (blk_drewN (blk_below (blk_below (blk_drew HQ1.out) hB2) hB3) nd) hB5))) (fun hS2 => ?_)
    clear hS hK K
    have hS := hS2
    clear hS2
    try simp only [List.getElem_toArray, List.getElem_cons_zero, List.getElem_cons_succ, Act.put, List.setIfInBounds_toArray, List.set_cons_zero, List.set_cons_succ]
    refine wpAnyH_take (i := 15) (v := ?_) rfl (by kernel_rfl) (by kernel_rfl) (by kernel_rfl) (fun _ _ _ h => h) (Or.inl ⟨by rfl, ?_⟩) hS ?_
    rotate_left
    · intro wS hW; (try dsimp only at hW); obtain ⟨W0, W1, W2, W3, W4, W5, W6, W7, W8, W9⟩ := hW; go_simp; (try with_reducible rfl)
    try simp only [List.getElem_toArray, List.getElem_cons_zero, List.getElem_cons_succ, Act.put, List.setIfInBounds_toArray, List.set_cons_zero, List.set_cons_succ]
    refine wpAnyH_take (i := 16) (v := ?_) rfl (by kernel_rfl) (by kernel_rfl) (by kernel_rfl) (fun _ _ _ h => h) (Or.inl ⟨by rfl, ?_⟩) hS ?_
    rotate_left
    · intro wS hW; (try dsimp only at hW); obtain ⟨W0, W1, W2, W3, W4, W5, W6, W7, W8, W9⟩ := hW; go_simp; (try with_reducible rfl)
    try simp only [List.getElem_toArray, List.getElem_cons_zero, List.getElem_cons_succ, Act.put, List.setIfInBounds_toArray, List.set_cons_zero, List.set_cons_succ]
    refine wpAnyH_done (by kernel_rfl) ?_ _
    clear hS
    go_wp2_with fail
    go_ret
    exact ⟨rfl, bthen (bthen (pw_below_drewN (bthen (bthen (below_drew (ballo (bnext HB0.out HB1.out) _)) hB2) hB3) nd) hB5) (Below.refl _ _)⟩

end Go.Proofs.Ytmgphebhfecfmaa.X

/- (a class that there is) What is pushed is popped, and leaves the purse as it was; what is in it is had: the walk by hand. Conditions: none. -/
import Derived.Test.YtmgphebhfecfmaaXBack
import Derived.Deep.RegionHeld3
namespace Go.Proofs.Ytmgphebhfecfmaa.X
open Go.RowKit Go.Proofs.Ytmgphebhfecfmaa.PPursePlays Go.Proofs.YtmgphebhfecfmaaW.PrintWords Go.Proofs.YtmgphebhfecfmaaW.PrintLast Go.Proofs.YtmgphebhfecfmaaW.PrintMore
set_option linter.unusedVariables false
set_option linter.unusedSimpArgs false

set_option maxHeartbeats 4000000 in
theorem back_in (A : Option Addr) (n cp : Nat) (c a : Int) (w : World) (hn : n ≤ 60) (hA : ActsAt w A n) (hc : 0 ≤ c ∧ c < 5) : Calls Try.prog 3 #[.slice A n cp, .int .i64 c, .int .i64 a] w fun e w' => e = .returned (.bool true) ∧ Below w.heap.size w w' := by
  have b0 : decide ((60 : Int) < (n : Int)) = false := decide_eq_false (by omega)
  have HA := Aside0.mk hA
  have HN := Aside0.mk hn
  have HC := Aside0.mk hc
  clear hA hn hc
  go_enter Try.func3, Try.ntmps3
  go_wp2_with fail
  refine (after_calls A n cp _ HA.out (by have := HN.out; omega)).mono ?_
  rintro e wA ⟨P0, X0, rfl, hP0, hT0, hB0⟩
  have HP0 := Aside0.mk hP0
  have HT0 := Aside0.mk (Nat.le_trans hT0 HN.out)
  have HB0 := Aside0.mk hB0
  have HF := Aside0.mk (back_facts (a := a) HT0.out HC.out)
  clear hP0 hT0 hB0
  go_wp2_with fail
  refine (push_to P0 X0 c a 1000 true _ (HP0.out.below (ballo (Below.refl _ _) _)) (by have := HT0.out; omega) HF.out.1).mono ?_
  rintro e wB ⟨P1, rfl, hP1, hB1⟩
  have q0 := blk_alloc (blk_below (blk_new wA (.cells #[.slice (P0 0).A (P0 0).n (P0 0).c, .slice (P0 1).A (P0 1).n (P0 1).c, .slice (P0 2).A (P0 2).n (P0 2).c, .slice (P0 3).A (P0 3).n (P0 3).c, .slice (P0 4).A (P0 4).n (P0 4).c] 27)) hB1) (.cells #[.slice (P1 0).A (P1 0).n (P1 0).c, .slice (P1 1).A (P1 1).n (P1 1).c, .slice (P1 2).A (P1 2).n (P1 2).c, .slice (P1 3).A (P1 3).n (P1 3).c, .slice (P1 4).A (P1 4).n (P1 4).c] 27)
  have q1 := blk_new wB (.cells #[.slice (P1 0).A (P1 0).n (P1 0).c, .slice (P1 1).A (P1 1).n (P1 1).c, .slice (P1 2).A (P1 2).n (P1 2).c, .slice (P1 3).A (P1 3).n (P1 3).c, .slice (P1 4).A (P1 4).n (P1 4).c] 27)
  have HP1 := Aside0.mk hP1
  have HB1 := Aside0.mk hB1
  have HQ0 := Aside0.mk q0
  have HQ1 := Aside0.mk q1
  clear hP1 hB1 q0 q1
  go_wp2_with fail
  refine (pop_to P1 _ c a true _ (HP1.out.below (ballo (Below.refl _ _) _)) (by rw [HF.out.2.2.2.2]; have := HT0.out; omega) HF.out.2.1 HF.out.2.2.1).mono ?_
  rintro e wC ⟨P2, rfl, hP2, hB2⟩
  rw [HF.out.2.2.2.1] at hP2
  have HP2 := Aside0.mk hP2
  have HB2 := Aside0.mk hB2
  have HQ0 := Aside0.mk (blk_alloc (blk_below HQ0.out hB2) (.cells #[.slice (P2 0).A (P2 0).n (P2 0).c, .slice (P2 1).A (P2 1).n (P2 1).c, .slice (P2 2).A (P2 2).n (P2 2).c, .slice (P2 3).A (P2 3).n (P2 3).c, .slice (P2 4).A (P2 4).n (P2 4).c] 27))
  have HQ1 := Aside0.mk (blk_alloc (blk_below HQ1.out hB2) (.cells #[.slice (P2 0).A (P2 0).n (P2 0).c, .slice (P2 1).A (P2 1).n (P2 1).c, .slice (P2 2).A (P2 2).n (P2 2).c, .slice (P2 3).A (P2 3).n (P2 3).c, .slice (P2 4).A (P2 4).n (P2 4).c] 27))
  have HQ2 := Aside0.mk (blk_new wC (.cells #[.slice (P2 0).A (P2 0).n (P2 0).c, .slice (P2 1).A (P2 1).n (P2 1).c, .slice (P2 2).A (P2 2).n (P2 2).c, .slice (P2 3).A (P2 3).n (P2 3).c, .slice (P2 4).A (P2 4).n (P2 4).c] 27))
  clear hP2 hB2
  obtain ⟨d0, d1, d2, d3, d4⟩ := blk5 HQ1.out
  go_wp2_with fail
  refine (all_calls P1 _ _ (HP1.out.below (ballo (bnext (Below.refl _ _) HB2.out) _)) (by rw [HF.out.2.2.2.2]; have := HT0.out; omega)).mono ?_
  rintro e wD ⟨⟨A13, n13, c13⟩, rfl, hs, hB3⟩
  have HS := Aside0.mk hs
  have HB3 := Aside0.mk hB3
  have HQ0 := Aside0.mk (blk_below HQ0.out hB3)
  have HQ1 := Aside0.mk (blk_below HQ1.out hB3)
  have HQ2 := Aside0.mk (blk_below HQ2.out hB3)
  have HL1 : Aside0 (n13 = total X0 + 1) := ⟨by have h := hs.len; rw [allN_len, HF.out.2.2.2.2] at h; exact h⟩
  clear hs hB3 d0 d1 d2 d3 d4
  go_wp2_with fail
  go_loopg [14] n13 (fun kq v14 w' => ∃ (i : Int), v14 = .int .i64 i ∧ 0 ≤ i ∧ i + (kq : Int) = n13 ∧ Below wD.heap.size wD w')
  case atStart => exact ⟨0, rfl, by omega, by omega, Below.refl _ _⟩
  case round =>
    obtain ⟨i, rfl, hi0, hik, hbel⟩ := hrel
    by_cases hlt : i < (n13 : Int)
    · have hd : decide (i < (n13 : Int)) = true := decide_eq_true hlt
      obtain ⟨gk, rfl⟩ : ∃ k, gk = k + 1 := ⟨gk - 1, by omega⟩
      have hlen : n13 = _ := HS.out.len
      obtain ⟨ad, ead, hc⟩ := pr_read ⟨A13, n13, c13⟩ _ _ (HS.out.below hbel) i hi0 (by omega)
      change A13 = some ad at ead
      cases ead
      have HH := Aside0.mk (has_rd (allN (pushX X0 c a 1000)) i hi0 (by omega))
      obtain ⟨x, HX⟩ : ∃ x, Aside0 (rd (allN (pushX X0 c a 1000)) i = x) := ⟨_, ⟨rfl⟩⟩
      rw [HX.out] at hc HH
      have p0 : (0 ≤ i) = True := eq_true hi0
      have q0 : (i < (n13 : Int)) = True := eq_true hlt
      obtain ⟨d0, d1, d2, d3, d4⟩ := blk5 (blk_below HQ1.out hbel)
      have HI := Aside0.mk (And.intro hi0 (And.intro hik hlt))
      clear hi0 hik hlt hlen
      go_wp2_with fail
      refine wp_region_tail 5 (by kernel_rfl) (by kernel_rfl) (fun _ _ _ _ _ h => h) ?_
      simp only [List.take_succ_cons, List.take_zero, List.drop_succ_cons, List.drop_zero]
      repeat still_step
      refine wpStill_nil ?_
      go_wp2_with fail
      refine (has_to P1 _ x _ (HP1.out.below (below_drew (bthen (bthen (ballo (bnext (Below.refl _ _) HB2.out) _) HB3.out) hbel))) (by rw [HF.out.2.2.2.2]; have := HT0.out; omega) HH.out).mono ?_
      rintro e wr2 ⟨rfl, hB4⟩
      go_wp2_with fail
      go_roundg gk
      case measure => omega
      case rel =>
        obtain ⟨hi0, hik, hlt⟩ := HI.out
        have := HL1.out
        have := HT0.out
        exact ⟨i + 1, by rw [w64 (by omega) (by omega)], by omega, by omega, bthen (below_drew hbel) hB4⟩
    · have hd : decide (i < (n13 : Int)) = false := decide_eq_false hlt
      have HR2 : Aside0 (Below wC.heap.size wC wr) := ⟨bthen (bnext (Below.refl _ _) HB3.out) hbel⟩
      have HR0 : Aside0 (Below wA.heap.size wA wr) := ⟨bthen (bnext (bnext (bnext (Below.refl _ _) HB1.out) HB2.out) HB3.out) hbel⟩
      have HRw : Aside0 (Below w.heap.size w wr) := ⟨bthen HB0.out HR0.out⟩
      have HS2 := Aside0.mk (blk_below HQ2.out hbel)
      have HS0 := Aside0.mk (blk_below HQ0.out hbel)
      clear hi0 hik hlt hbel
      go_wp2_with fail
      refine wp_region_held_drew (S := fun w' => w'.cell? ⟨wC.heap.size, 0, none⟩ = some (.slice (P2 0).A (P2 0).n (P2 0).c) ∧ w'.cell? ⟨wC.heap.size, 1, none⟩ = some (.slice (P2 1).A (P2 1).n (P2 1).c) ∧ w'.cell? ⟨wC.heap.size, 2, none⟩ = some (.slice (P2 2).A (P2 2).n (P2 2).c) ∧ w'.cell? ⟨wC.heap.size, 3, none⟩ = some (.slice (P2 3).A (P2 3).n (P2 3).c) ∧ w'.cell? ⟨wC.heap.size, 4, none⟩ = some (.slice (P2 4).A (P2 4).n (P2 4).c) ∧ w'.cell? ⟨wA.heap.size, 0, none⟩ = some (.slice (P0 0).A (P0 0).n (P0 0).c) ∧ w'.cell? ⟨wA.heap.size, 1, none⟩ = some (.slice (P0 1).A (P0 1).n (P0 1).c) ∧ w'.cell? ⟨wA.heap.size, 2, none⟩ = some (.slice (P0 2).A (P0 2).n (P0 2).c) ∧ w'.cell? ⟨wA.heap.size, 3, none⟩ = some (.slice (P0 3).A (P0 3).n (P0 3).c) ∧ w'.cell? ⟨wA.heap.size, 4, none⟩ = some (.slice (P0 4).A (P0 4).n (P0 4).c)) (by kernel_rfl) (by first | exact blk10 HS2.out HS0.out | (dsimp only; exact blk10 HS2.out HS0.out)) (fun hS => ?_)
      refine wpAnyH_take (i := 0) (v := ?_) rfl (by kernel_rfl) (by kernel_rfl) (by kernel_rfl) (fun _ _ _ h => h) (Or.inl ⟨by rfl, ?_⟩) hS ?_
      rotate_left
      · intro wS hW; (try dsimp only at hW); obtain ⟨W0, W1, W2, W3, W4, W5, W6, W7, W8, W9⟩ := hW; go_simp; (try with_reducible rfl)
      try simp only [List.getElem_toArray, List.getElem_cons_zero, List.getElem_cons_succ, Act.put, List.setIfInBounds_toArray, List.set_cons_zero, List.set_cons_succ]
      refine wpAnyH_take (i := 1) (v := ?_) rfl (by kernel_rfl) (by kernel_rfl) (by kernel_rfl) (fun _ _ _ h => h) (Or.inl ⟨by rfl, ?_⟩) hS ?_
      rotate_left
      · intro wS hW; (try dsimp only at hW); obtain ⟨W0, W1, W2, W3, W4, W5, W6, W7, W8, W9⟩ := hW; go_simp; (try with_reducible rfl)
      try simp only [List.getElem_toArray, List.getElem_cons_zero, List.getElem_cons_succ, Act.put, List.setIfInBounds_toArray, List.set_cons_zero, List.set_cons_succ]
      refine wpAnyH_take (i := 2) (v := ?_) rfl (by kernel_rfl) (by kernel_rfl) (by kernel_rfl) (fun _ _ _ h => h) (Or.inl ⟨by rfl, ?_⟩) hS ?_
      rotate_left
      · intro wS hW; (try dsimp only at hW); obtain ⟨W0, W1, W2, W3, W4, W5, W6, W7, W8, W9⟩ := hW; go_simp; (try with_reducible rfl)
      try simp only [List.getElem_toArray, List.getElem_cons_zero, List.getElem_cons_succ, Act.put, List.setIfInBounds_toArray, List.set_cons_zero, List.set_cons_succ]
      refine wpAnyH_take (i := 3) (v := ?_) rfl (by kernel_rfl) (by kernel_rfl) (by kernel_rfl) (fun _ _ _ h => h) (Or.inl ⟨by rfl, ?_⟩) hS ?_
      rotate_left
      · intro wS hW; (try dsimp only at hW); obtain ⟨W0, W1, W2, W3, W4, W5, W6, W7, W8, W9⟩ := hW; go_simp; (try with_reducible rfl)
      try simp only [List.getElem_toArray, List.getElem_cons_zero, List.getElem_cons_succ, Act.put, List.setIfInBounds_toArray, List.set_cons_zero, List.set_cons_succ]
      refine wpAnyH_take (i := 4) (v := ?_) rfl (by kernel_rfl) (by kernel_rfl) (by kernel_rfl) (fun _ _ _ h => h) (Or.inl ⟨by rfl, ?_⟩) hS ?_
      rotate_left
      · intro wS hW; (try dsimp only at hW); obtain ⟨W0, W1, W2, W3, W4, W5, W6, W7, W8, W9⟩ := hW; go_simp; (try with_reducible rfl)
      try simp only [List.getElem_toArray, List.getElem_cons_zero, List.getElem_cons_succ, Act.put, List.setIfInBounds_toArray, List.set_cons_zero, List.set_cons_succ]
      refine wpAnyH_take (i := 5) (v := ?_) rfl (by kernel_rfl) (by kernel_rfl) (by kernel_rfl) (fun _ _ _ h => h) (Or.inl ⟨by rfl, ?_⟩) hS ?_
      rotate_left
      · intro wS hW; (try dsimp only at hW); obtain ⟨W0, W1, W2, W3, W4, W5, W6, W7, W8, W9⟩ := hW; go_simp; (try with_reducible rfl)
      try simp only [List.getElem_toArray, List.getElem_cons_zero, List.getElem_cons_succ, Act.put, List.setIfInBounds_toArray, List.set_cons_zero, List.set_cons_succ]
      refine wpAnyH_take (i := 6) (v := ?_) rfl (by kernel_rfl) (by kernel_rfl) (by kernel_rfl) (fun _ _ _ h => h) (Or.inl ⟨by rfl, ?_⟩) hS ?_
      rotate_left
      · intro wS hW; (try dsimp only at hW); obtain ⟨W0, W1, W2, W3, W4, W5, W6, W7, W8, W9⟩ := hW; go_simp; (try with_reducible rfl)
      try simp only [List.getElem_toArray, List.getElem_cons_zero, List.getElem_cons_succ, Act.put, List.setIfInBounds_toArray, List.set_cons_zero, List.set_cons_succ]
      refine wpAnyH_take (i := 7) (v := ?_) rfl (by kernel_rfl) (by kernel_rfl) (by kernel_rfl) (fun _ _ _ h => h) (Or.inl ⟨by rfl, ?_⟩) hS ?_
      rotate_left
      · intro wS hW; (try dsimp only at hW); obtain ⟨W0, W1, W2, W3, W4, W5, W6, W7, W8, W9⟩ := hW; go_simp; (try with_reducible rfl)
      try simp only [List.getElem_toArray, List.getElem_cons_zero, List.getElem_cons_succ, Act.put, List.setIfInBounds_toArray, List.set_cons_zero, List.set_cons_succ]
      refine wpAnyH_take (i := 9) (v := ?_) rfl (by kernel_rfl) (by kernel_rfl) (by kernel_rfl) (fun _ _ _ h => h) (Or.inl ⟨by rfl, ?_⟩) hS ?_
      rotate_left
      · intro wS hW; (try dsimp only at hW); obtain ⟨W0, W1, W2, W3, W4, W5, W6, W7, W8, W9⟩ := hW; go_simp; (try with_reducible rfl)
      try simp only [List.getElem_toArray, List.getElem_cons_zero, List.getElem_cons_succ, Act.put, List.setIfInBounds_toArray, List.set_cons_zero, List.set_cons_succ]
      refine wpAnyH_ready (rs := [8]) (by kernel_rfl) (by simp) ?_
      refine AllReadyH.cons rfl (fun K hK => ?_) AllReadyH.nil
      try simp only [List.getElem_toArray, List.getElem_cons_zero, List.getElem_cons_succ, Act.put, List.setIfInBounds_toArray, List.set_cons_zero, List.set_cons_succ]
      go_simp
      refine (all_calls P2 X0 _ (HP2.out.below (below_drew HR2.out)) (by have := HT0.out; omega)).mono ?_
      rintro e wE ⟨s1, rfl, hs1, hE1⟩
      refine hK.out _ _ (by first | exact blk10 (blk_below (blk_drew HS2.out) hE1) (blk_below (blk_drew HS0.out) hE1) | (dsimp only; exact blk10 (blk_below (blk_drew HS2.out) hE1) (blk_below (blk_drew HS0.out) hE1))) (fun hS2 => ?_)
      clear hS hK K
      have hS := hS2
      clear hS2
      try simp only [List.getElem_toArray, List.getElem_cons_zero, List.getElem_cons_succ, Act.put, List.setIfInBounds_toArray, List.set_cons_zero, List.set_cons_succ]
      refine wpAnyH_ready (rs := [10]) (by kernel_rfl) (by simp) ?_
      refine AllReadyH.cons rfl (fun K hK => ?_) AllReadyH.nil
      try simp only [List.getElem_toArray, List.getElem_cons_zero, List.getElem_cons_succ, Act.put, List.setIfInBounds_toArray, List.set_cons_zero, List.set_cons_succ]
      go_simp
      refine (all_calls P0 X0 _ (HP0.out.below (bthen (below_drew HR0.out) hE1)) (by have := HT0.out; omega)).mono ?_
      rintro e wF ⟨s2, rfl, hs2, hE2⟩
      refine hK.out _ _ (by first | exact blk10 (blk_below (blk_below (blk_drew HS2.out) hE1) hE2) (blk_below (blk_below (blk_drew HS0.out) hE1) hE2) | (dsimp only; exact blk10 (blk_below (blk_below (blk_drew HS2.out) hE1) hE2) (blk_below (blk_below (blk_drew HS0.out) hE1) hE2))) (fun hS2 => ?_)
      clear hS hK K
      have hS := hS2
      clear hS2
      try simp only [List.getElem_toArray, List.getElem_cons_zero, List.getElem_cons_succ, Act.put, List.setIfInBounds_toArray, List.set_cons_zero, List.set_cons_succ]
      refine wpAnyH_ready (rs := [11]) (by kernel_rfl) (by simp) ?_
      refine AllReadyH.cons rfl (fun K hK => ?_) AllReadyH.nil
      try simp only [List.getElem_toArray, List.getElem_cons_zero, List.getElem_cons_succ, Act.put, List.setIfInBounds_toArray, List.set_cons_zero, List.set_cons_succ]
      go_simp
      refine (same_sl s1 s2 _ _ _ (hs1.below hE2) hs2 rfl (by rw [allN_len]; have := HT0.out; omega)).mono ?_
      rintro e wG ⟨rfl, ⟨nd, rfl⟩⟩
      refine hK.out _ _ (by first | exact blk10 (blk_drewN (blk_below (blk_below (blk_drew HS2.out) hE1) hE2) nd) (blk_drewN (blk_below (blk_below (blk_drew HS0.out) hE1) hE2) nd) | (dsimp only; exact blk10 (blk_drewN (blk_below (blk_below (blk_drew HS2.out) hE1) hE2) nd) (blk_drewN (blk_below (blk_below (blk_drew HS0.out) hE1) hE2) nd))) (fun hS2 => ?_)
      clear hS hK K
      have hS := hS2
      clear hS2
      try simp only [List.getElem_toArray, List.getElem_cons_zero, List.getElem_cons_succ, Act.put, List.setIfInBounds_toArray, List.set_cons_zero, List.set_cons_succ]
      refine wpAnyH_take (i := 12) (v := ?_) rfl (by kernel_rfl) (by kernel_rfl) (by kernel_rfl) (fun _ _ _ h => h) (Or.inl ⟨by rfl, ?_⟩) hS ?_
      rotate_left
      · intro wS hW; (try dsimp only at hW); obtain ⟨W0, W1, W2, W3, W4, W5, W6, W7, W8, W9⟩ := hW; go_simp; (try with_reducible rfl)
      try simp only [List.getElem_toArray, List.getElem_cons_zero, List.getElem_cons_succ, Act.put, List.setIfInBounds_toArray, List.set_cons_zero, List.set_cons_succ]
      refine wpAnyH_take (i := 13) (v := ?_) rfl (by kernel_rfl) (by kernel_rfl) (by kernel_rfl) (fun _ _ _ h => h) (Or.inl ⟨by rfl, ?_⟩) hS ?_
      rotate_left
      · intro wS hW; (try dsimp only at hW); obtain ⟨W0, W1, W2, W3, W4, W5, W6, W7, W8, W9⟩ := hW; go_simp; (try with_reducible rfl)
      try simp only [List.getElem_toArray, List.getElem_cons_zero, List.getElem_cons_succ, Act.put, List.setIfInBounds_toArray, List.set_cons_zero, List.set_cons_succ]
      refine wpAnyH_take (i := 14) (v := ?_) rfl (by kernel_rfl) (by kernel_rfl) (by kernel_rfl) (fun _ _ _ h => h) (Or.inl ⟨by rfl, ?_⟩) hS ?_
      rotate_left
      · intro wS hW; (try dsimp only at hW); obtain ⟨W0, W1, W2, W3, W4, W5, W6, W7, W8, W9⟩ := hW; go_simp; (try with_reducible rfl)
      try simp only [List.getElem_toArray, List.getElem_cons_zero, List.getElem_cons_succ, Act.put, List.setIfInBounds_toArray, List.set_cons_zero, List.set_cons_succ]
      refine wpAnyH_take (i := 15) (v := ?_) rfl (by kernel_rfl) (by kernel_rfl) (by kernel_rfl) (fun _ _ _ h => h) (Or.inl ⟨by rfl, ?_⟩) hS ?_
      rotate_left
      · intro wS hW; (try dsimp only at hW); obtain ⟨W0, W1, W2, W3, W4, W5, W6, W7, W8, W9⟩ := hW; go_simp; (try with_reducible rfl)
      try simp only [List.getElem_toArray, List.getElem_cons_zero, List.getElem_cons_succ, Act.put, List.setIfInBounds_toArray, List.set_cons_zero, List.set_cons_succ]
      refine wpAnyH_take (i := 16) (v := ?_) rfl (by kernel_rfl) (by kernel_rfl) (by kernel_rfl) (fun _ _ _ h => h) (Or.inl ⟨by rfl, ?_⟩) hS ?_
      rotate_left
      · intro wS hW; (try dsimp only at hW); obtain ⟨W0, W1, W2, W3, W4, W5, W6, W7, W8, W9⟩ := hW; go_simp; (try with_reducible rfl)
      try simp only [List.getElem_toArray, List.getElem_cons_zero, List.getElem_cons_succ, Act.put, List.setIfInBounds_toArray, List.set_cons_zero, List.set_cons_succ]
      refine wpAnyH_ready (rs := [17]) (by kernel_rfl) (by simp) ?_
      refine AllReadyH.cons rfl (fun K hK => ?_) AllReadyH.nil
      try simp only [List.getElem_toArray, List.getElem_cons_zero, List.getElem_cons_succ, Act.put, List.setIfInBounds_toArray, List.set_cons_zero, List.set_cons_succ]
      go_simp
      refine (all_calls P0 X0 _ (HP0.out.below (pw_below_drewN (bthen (bthen (below_drew HR0.out) hE1) hE2) nd)) (by have := HT0.out; omega)).mono ?_
      rintro e wH ⟨s3, rfl, hs3, hE3⟩
      refine hK.out _ _ (by first | exact blk10 (blk_below (blk_drewN (blk_below (blk_below (blk_drew HS2.out) hE1) hE2) nd) hE3) (blk_below (blk_drewN (blk_below (blk_below (blk_drew HS0.out) hE1) hE2) nd) hE3) | (dsimp only; exact blk10 (blk_below (blk_drewN (blk_below (blk_below (blk_drew HS2.out) hE1) hE2) nd) hE3) (blk_below (blk_drewN (blk_below (blk_below (blk_drew HS0.out) hE1) hE2) nd) hE3))) (fun hS2 => ?_)
      clear hS hK K
      have hS := hS2
      clear hS2
      try simp only [List.getElem_toArray, List.getElem_cons_zero, List.getElem_cons_succ, Act.put, List.setIfInBounds_toArray, List.set_cons_zero, List.set_cons_succ]
      have hw3 : IntKind.i64.wrap (((s3.n : Nat) : Int) + 1) = (n13 : Int) := by have hl3 := hs3.len; rw [allN_len] at hl3; rw [hl3, HL1.out]; rw [IntWalk.i64_in _ (by have := HT0.out; omega)]; omega
      refine wpAnyH_take (i := 18) (v := ?_) rfl (by kernel_rfl) (by kernel_rfl) (by kernel_rfl) (fun _ _ _ h => h) (Or.inl ⟨by rfl, ?_⟩) hS ?_
      rotate_left
      · intro wS hW; (try dsimp only at hW); obtain ⟨W0, W1, W2, W3, W4, W5, W6, W7, W8, W9⟩ := hW; go_simp; (try with_reducible rfl)
      try simp only [List.getElem_toArray, List.getElem_cons_zero, List.getElem_cons_succ, Act.put, List.setIfInBounds_toArray, List.set_cons_zero, List.set_cons_succ]
      refine wpAnyH_take (i := 19) (v := ?_) rfl (by kernel_rfl) (by kernel_rfl) (by kernel_rfl) (fun _ _ _ h => h) (Or.inl ⟨by rfl, ?_⟩) hS ?_
      rotate_left
      · intro wS hW; (try dsimp only at hW); obtain ⟨W0, W1, W2, W3, W4, W5, W6, W7, W8, W9⟩ := hW; go_simp; (try with_reducible rfl)
      try simp only [List.getElem_toArray, List.getElem_cons_zero, List.getElem_cons_succ, Act.put, List.setIfInBounds_toArray, List.set_cons_zero, List.set_cons_succ]
      refine wpAnyH_take (i := 20) (v := ?_) rfl (by kernel_rfl) (by kernel_rfl) (by kernel_rfl) (fun _ _ _ h => h) (Or.inl ⟨by rfl, ?_⟩) hS ?_
      rotate_left
      · intro wS hW; (try dsimp only at hW); obtain ⟨W0, W1, W2, W3, W4, W5, W6, W7, W8, W9⟩ := hW; go_simp; (try with_reducible rfl)
      try simp only [List.getElem_toArray, List.getElem_cons_zero, List.getElem_cons_succ, Act.put, List.setIfInBounds_toArray, List.set_cons_zero, List.set_cons_succ]
      refine wpAnyH_take (i := 21) (v := ?_) rfl (by kernel_rfl) (by kernel_rfl) (by kernel_rfl) (fun _ _ _ h => h) (Or.inl ⟨by rfl, ?_⟩) hS ?_
      rotate_left
      · intro wS hW; (try dsimp only at hW); obtain ⟨W0, W1, W2, W3, W4, W5, W6, W7, W8, W9⟩ := hW; go_simp; (try with_reducible rfl)
      try simp only [List.getElem_toArray, List.getElem_cons_zero, List.getElem_cons_succ, Act.put, List.setIfInBounds_toArray, List.set_cons_zero, List.set_cons_succ]
      refine wpAnyH_take (i := 22) (v := ?_) rfl (by kernel_rfl) (by kernel_rfl) (by kernel_rfl) (fun _ _ _ h => h) (Or.inl ⟨by rfl, ?_⟩) hS ?_
      rotate_left
      · intro wS hW; (try dsimp only at hW); obtain ⟨W0, W1, W2, W3, W4, W5, W6, W7, W8, W9⟩ := hW; go_simp; (try with_reducible rfl)
      try simp only [List.getElem_toArray, List.getElem_cons_zero, List.getElem_cons_succ, Act.put, List.setIfInBounds_toArray, List.set_cons_zero, List.set_cons_succ]
      refine wpAnyH_ready (rs := [23]) (by kernel_rfl) (by simp) ?_
      refine AllReadyH.cons rfl (fun K hK => ?_) AllReadyH.nil
      try simp only [List.getElem_toArray, List.getElem_cons_zero, List.getElem_cons_succ, Act.put, List.setIfInBounds_toArray, List.set_cons_zero, List.set_cons_succ]
      go_simp
      refine (lives_calls _).mono ?_
      rintro e wI ⟨rfl, hE4⟩
      refine hK.out _ _ (by first | exact blk10 (blk_below (blk_below (blk_drewN (blk_below (blk_below (blk_drew HS2.out) hE1) hE2) nd) hE3) hE4) (blk_below (blk_below (blk_drewN (blk_below (blk_below (blk_drew HS0.out) hE1) hE2) nd) hE3) hE4) | (dsimp only; exact blk10 (blk_below (blk_below (blk_drewN (blk_below (blk_below (blk_drew HS2.out) hE1) hE2) nd) hE3) hE4) (blk_below (blk_below (blk_drewN (blk_below (blk_below (blk_drew HS0.out) hE1) hE2) nd) hE3) hE4))) (fun hS2 => ?_)
      clear hS hK K
      have hS := hS2
      clear hS2
      try simp only [List.getElem_toArray, List.getElem_cons_zero, List.getElem_cons_succ, Act.put, List.setIfInBounds_toArray, List.set_cons_zero, List.set_cons_succ]
      refine wpAnyH_take (i := 24) (v := ?_) rfl (by kernel_rfl) (by kernel_rfl) (by kernel_rfl) (fun _ _ _ h => h) (Or.inl ⟨by rfl, ?_⟩) hS ?_
      rotate_left
      · intro wS hW; (try dsimp only at hW); obtain ⟨W0, W1, W2, W3, W4, W5, W6, W7, W8, W9⟩ := hW; go_simp; (try with_reducible rfl)
      try simp only [List.getElem_toArray, List.getElem_cons_zero, List.getElem_cons_succ, Act.put, List.setIfInBounds_toArray, List.set_cons_zero, List.set_cons_succ]
      refine wpAnyH_take (i := 25) (v := ?_) rfl (by kernel_rfl) (by kernel_rfl) (by kernel_rfl) (fun _ _ _ h => h) (Or.inl ⟨by rfl, ?_⟩) hS ?_
      rotate_left
      · intro wS hW; (try dsimp only at hW); obtain ⟨W0, W1, W2, W3, W4, W5, W6, W7, W8, W9⟩ := hW; go_simp; (try with_reducible rfl)
      try simp only [List.getElem_toArray, List.getElem_cons_zero, List.getElem_cons_succ, Act.put, List.setIfInBounds_toArray, List.set_cons_zero, List.set_cons_succ]
      refine wpAnyH_done (by kernel_rfl) ?_ _
      clear hS
      go_wp2_with fail
      go_ret
      exact ⟨rfl, bthen (bthen (pw_below_drewN (bthen (bthen (below_drew HRw.out) hE1) hE2) nd) hE3) hE4⟩


end Go.Proofs.Ytmgphebhfecfmaa.X

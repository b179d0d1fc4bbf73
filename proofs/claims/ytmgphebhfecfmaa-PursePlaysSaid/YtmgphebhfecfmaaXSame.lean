/- Whether a purse has what the reference's has, walked by hand. Conditions: none. -/
import Derived.Test.YtmgphebhfecfmaaXRefPop
import Derived.Test.YtmgphebhfecfmaaXBack
namespace Go.Proofs.Ytmgphebhfecfmaa.X
open Go.RowKit Go.Proofs.Ytmgphebhfecfmaa.PPursePlays Go.Proofs.YtmgphebhfecfmaaW.PrintWords Go.Proofs.YtmgphebhfecfmaaW.PrintLast Go.Proofs.YtmgphebhfecfmaaW.PrintMore
set_option linter.unusedVariables false
set_option linter.unusedSimpArgs false

theorem blk6 {w : World} {g k : Nat} {T U : TypeId} {a b c d e p : Value} (h : w.heap[g]? = some (.cells #[a, b, c, d, e] T)) (h' : w.heap[k]? = some (.cells #[p] U)) : w.cell? ⟨g, 0, none⟩ = some a ∧ w.cell? ⟨g, 1, none⟩ = some b ∧ w.cell? ⟨g, 2, none⟩ = some c ∧ w.cell? ⟨g, 3, none⟩ = some d ∧ w.cell? ⟨g, 4, none⟩ = some e ∧ w.cell? ⟨k, 0, none⟩ = some p :=
  ⟨blk_cell h 0, blk_cell h 1, blk_cell h 2, blk_cell h 3, blk_cell h 4, blk_cell h' 0⟩
theorem list_to (P : Nat → Sv) (X : Nat → List Int) (L : List S55) (c : Int) (w : World) (h : PR w P X) (hf : Fits X L) (hb : total X ≤ 1000000) : Calls Try.prog 22 #[.agg #[.slice (P 0).A (P 0).n (P 0).c, .slice (P 1).A (P 1).n (P 1).c, .slice (P 2).A (P 2).n (P 2).c, .slice (P 3).A (P 3).n (P 3).c, .slice (P 4).A (P 4).n (P 4).c], .int .i64 c] w fun e w' => ∃ s' : Sv, e = .returned (.slice s'.A s'.n s'.c) ∧ Sl w' s' (rlist L c) ∧ Below w.heap.size w w' := by
  rw [← hf.list]
  exact list_any P X c w h hb
theorem r_sl {w : World} {base : Nat} {v : Value} {xs : List Int} (h : Kd.R (Kd.int .i64) 3 w base (fun _ => True) v xs) : ∃ s : Sv, v = .slice s.A s.n s.c ∧ Sl w s xs := by
  obtain ⟨s, h1, h2, _⟩ := sl_own (Kd.own_of_R h) rfl
  exact ⟨s, h1, h2⟩
theorem rlist_calls (A : Option Addr) (c0 : Nat) (L : List S55) (c : Int) (w : World) (hC : Kd.C k55 w A L.length L) (hc : L.length ≤ c0) (hl : L.length ≤ 1000000) : Calls Try.prog 21 #[.agg #[.slice A L.length c0], .int .i64 c] w fun e w' => ∃ s' : Sv, e = .returned (.slice s'.A s'.n s'.c) ∧ Sl w' s' (rlist L c) ∧ Below w.heap.size w w' := by
  refine (assartref13_Purse_List.calls (L.length + 1) A c0 L c _ w hC hc (list_f L c hl _ (by omega))).mono ?_
  rintro e w' ⟨v, rfl, hR, hB⟩
  obtain ⟨s, rfl, hs⟩ := r_sl hR
  exact ⟨s, rfl, hs, hB⟩
theorem rall_calls (A : Option Addr) (c0 : Nat) (L : List S55) (w : World) (hC : Kd.C k55 w A L.length L) (hc : L.length ≤ c0) (hl : L.length ≤ 1000000) : Calls Try.prog 23 #[.agg #[.slice A L.length c0]] w fun e w' => ∃ s' : Sv, e = .returned (.slice s'.A s'.n s'.c) ∧ Sl w' s' (rall L) ∧ Below w.heap.size w w' := by
  refine (assartref13_Purse_All.calls (L.length + 10) A c0 L _ w hC hc (all_f L hl)).mono ?_
  rintro e w' ⟨v, rfl, hR, hB⟩
  obtain ⟨s, rfl, hs⟩ := r_sl hR
  exact ⟨s, rfl, hs, hB⟩
theorem of_calls (P : Nat → Sv) (w : World) : Calls Try.prog 14 #[.agg #[.slice (P 0).A (P 0).n (P 0).c, .slice (P 1).A (P 1).n (P 1).c, .slice (P 2).A (P 2).n (P 2).c, .slice (P 3).A (P 3).n (P 3).c, .slice (P 4).A (P 4).n (P 4).c]] w fun e w' => e = .returned (.agg #[.slice (P 0).A (P 0).n (P 0).c, .slice (P 1).A (P 1).n (P 1).c, .slice (P 2).A (P 2).n (P 2).c, .slice (P 3).A (P 3).n (P 3).c, .slice (P 4).A (P 4).n (P 4).c]) ∧ Below w.heap.size w w' := by
  go_enter Try.func14, Try.ntmps14
  go_wp2
  refine bodyPost_ret (v := .agg #[.slice (P 0).A (P 0).n (P 0).c, .slice (P 1).A (P 1).n (P 1).c, .slice (P 2).A (P 2).n (P 2).c, .slice (P 3).A (P 3).n (P 3).c, .slice (P 4).A (P 4).n (P 4).c]) (by simp [results, Try.results14, go_sem]) rfl ⟨rfl, ?_⟩
  repeat (first | (with_reducible exact Below.refl _ _) | refine Below.setCell ?_ (by first | exact Nat.le_refl _ | exact Nat.le_succ _) _ | refine Below.alloc ?_ (by first | exact Nat.le_refl _ | exact Nat.le_succ _ | simp) _)
set_option maxHeartbeats 4000000 in
theorem ksame_calls (P : Nat → Sv) (X : Nat → List Int) (A : Option Addr) (c0 : Nat) (L : List S55) (w : World) (hP : PR w P X) (hC : Kd.C k55 w A L.length L) (hc0 : L.length ≤ c0) (hF : Fits X L) (hT : total X ≤ 1000) (hL : L.length ≤ 1000) : Calls Try.prog 15 #[.agg #[.slice (P 0).A (P 0).n (P 0).c, .slice (P 1).A (P 1).n (P 1).c, .slice (P 2).A (P 2).n (P 2).c, .slice (P 3).A (P 3).n (P 3).c, .slice (P 4).A (P 4).n (P 4).c], .agg #[.slice A L.length c0]] w fun e w' => e = .returned (.bool true) ∧ Below w.heap.size w w' := by
  have HP := Aside0.mk hP
  have HC := Aside0.mk hC
  have HC0 := Aside0.mk hc0
  have HF := Aside0.mk hF
  have HT := Aside0.mk hT
  have HL := Aside0.mk hL
  clear hP hC hc0 hF hT hL
  go_enter Try.func15, Try.ntmps15
  go_wp2
  obtain ⟨WW, HE⟩ : ∃ WW, Aside0 (WW = ((w.alloc (.cells #[.slice (P 0).A (P 0).n (P 0).c, .slice (P 1).A (P 1).n (P 1).c, .slice (P 2).A (P 2).n (P 2).c, .slice (P 3).A (P 3).n (P 3).c, .slice (P 4).A (P 4).n (P 4).c] 48)).alloc (.cells #[.slice A L.length c0] 40)).alloc (.cells #[.slice (P 0).A (P 0).n (P 0).c, .slice (P 1).A (P 1).n (P 1).c, .slice (P 2).A (P 2).n (P 2).c, .slice (P 3).A (P 3).n (P 3).c, .slice (P 4).A (P 4).n (P 4).c] 27)) := ⟨_, ⟨rfl⟩⟩
  rw [← HE.out]
  have HW : Aside0 (Below w.heap.size w WW) := ⟨by rw [HE.out]; exact ballo (ballo (ballo (Below.refl _ _) _) _) _⟩
  have HQp : Aside0 (WW.heap[w.heap.size + 2]? = some (.cells #[.slice (P 0).A (P 0).n (P 0).c, .slice (P 1).A (P 1).n (P 1).c, .slice (P 2).A (P 2).n (P 2).c, .slice (P 3).A (P 3).n (P 3).c, .slice (P 4).A (P 4).n (P 4).c] 27)) := ⟨by rw [HE.out]; have hq := blk_new ((w.alloc (.cells #[.slice (P 0).A (P 0).n (P 0).c, .slice (P 1).A (P 1).n (P 1).c, .slice (P 2).A (P 2).n (P 2).c, .slice (P 3).A (P 3).n (P 3).c, .slice (P 4).A (P 4).n (P 4).c] 48)).alloc (.cells #[.slice A L.length c0] 40)) (.cells #[.slice (P 0).A (P 0).n (P 0).c, .slice (P 1).A (P 1).n (P 1).c, .slice (P 2).A (P 2).n (P 2).c, .slice (P 3).A (P 3).n (P 3).c, .slice (P 4).A (P 4).n (P 4).c] 27); simp only [World.size_alloc] at hq; exact hq⟩
  have HQr : Aside0 (WW.heap[w.heap.size + 1]? = some (.cells #[.slice A L.length c0] 40)) := ⟨by rw [HE.out]; have hq := blk_new (w.alloc (.cells #[.slice (P 0).A (P 0).n (P 0).c, .slice (P 1).A (P 1).n (P 1).c, .slice (P 2).A (P 2).n (P 2).c, .slice (P 3).A (P 3).n (P 3).c, .slice (P 4).A (P 4).n (P 4).c] 48)) (.cells #[.slice A L.length c0] 40); simp only [World.size_alloc] at hq; exact blk_alloc hq _⟩
  clear HE
  go_loopg [6] 7 (fun kq v6 w' => ∃ (c : Int), v6 = .int .i64 c ∧ c + (kq : Int) = 6 ∧ -1 ≤ c ∧ Below WW.heap.size WW w')
  case atStart => exact ⟨-1, rfl, by omega, by omega, Below.refl _ _⟩
  case round =>
    obtain ⟨c, rfl, hk, hc1, hbel⟩ := hrel
    by_cases hlt : c ≤ 5
    · have hd : decide (c ≤ 5) = true := decide_eq_true hlt
      obtain ⟨gk, rfl⟩ : ∃ m, gk = m + 1 := ⟨gk - 1, by omega⟩
      have HI := Aside0.mk (And.intro hk hc1)
      clear hk hc1 hlt
      go_wp2_with fail
      refine wp_region_held_drew (S := fun w' => w'.cell? ⟨(w.heap.size + 2), 0, none⟩ = some (.slice (P 0).A (P 0).n (P 0).c) ∧ w'.cell? ⟨(w.heap.size + 2), 1, none⟩ = some (.slice (P 1).A (P 1).n (P 1).c) ∧ w'.cell? ⟨(w.heap.size + 2), 2, none⟩ = some (.slice (P 2).A (P 2).n (P 2).c) ∧ w'.cell? ⟨(w.heap.size + 2), 3, none⟩ = some (.slice (P 3).A (P 3).n (P 3).c) ∧ w'.cell? ⟨(w.heap.size + 2), 4, none⟩ = some (.slice (P 4).A (P 4).n (P 4).c) ∧ w'.cell? ⟨w.heap.size + 1, 0, none⟩ = some (.slice A L.length c0)) (by kernel_rfl) (by first | exact blk6 (blk_drew (blk_below HQp.out hbel)) (blk_drew (blk_below HQr.out hbel)) | (dsimp only; exact blk6 (blk_drew (blk_below HQp.out hbel)) (blk_drew (blk_below HQr.out hbel)))) (fun hS => ?_)
      refine wpAnyH_take (i := 0) (v := ?_) rfl (by kernel_rfl) (by kernel_rfl) (by kernel_rfl) (fun _ _ _ h => h) (Or.inl ⟨by rfl, ?_⟩) hS ?_
      rotate_left
      · intro wS hW; (try dsimp only at hW); obtain ⟨W0, W1, W2, W3, W4, W5⟩ := hW; go_simp; (try with_reducible rfl)
      try simp only [List.getElem_toArray, List.getElem_cons_zero, List.getElem_cons_succ, Act.put, List.setIfInBounds_toArray, List.set_cons_zero, List.set_cons_succ]
      refine wpAnyH_take (i := 1) (v := ?_) rfl (by kernel_rfl) (by kernel_rfl) (by kernel_rfl) (fun _ _ _ h => h) (Or.inl ⟨by rfl, ?_⟩) hS ?_
      rotate_left
      · intro wS hW; (try dsimp only at hW); obtain ⟨W0, W1, W2, W3, W4, W5⟩ := hW; go_simp; (try with_reducible rfl)
      try simp only [List.getElem_toArray, List.getElem_cons_zero, List.getElem_cons_succ, Act.put, List.setIfInBounds_toArray, List.set_cons_zero, List.set_cons_succ]
      refine wpAnyH_take (i := 3) (v := ?_) rfl (by kernel_rfl) (by kernel_rfl) (by kernel_rfl) (fun _ _ _ h => h) (Or.inl ⟨by rfl, ?_⟩) hS ?_
      rotate_left
      · intro wS hW; (try dsimp only at hW); obtain ⟨W0, W1, W2, W3, W4, W5⟩ := hW; go_simp; (try with_reducible rfl)
      try simp only [List.getElem_toArray, List.getElem_cons_zero, List.getElem_cons_succ, Act.put, List.setIfInBounds_toArray, List.set_cons_zero, List.set_cons_succ]
      refine wpAnyH_take (i := 4) (v := ?_) rfl (by kernel_rfl) (by kernel_rfl) (by kernel_rfl) (fun _ _ _ h => h) (Or.inl ⟨by rfl, ?_⟩) hS ?_
      rotate_left
      · intro wS hW; (try dsimp only at hW); obtain ⟨W0, W1, W2, W3, W4, W5⟩ := hW; go_simp; (try with_reducible rfl)
      try simp only [List.getElem_toArray, List.getElem_cons_zero, List.getElem_cons_succ, Act.put, List.setIfInBounds_toArray, List.set_cons_zero, List.set_cons_succ]
      refine wpAnyH_ready (rs := [2]) (by kernel_rfl) (by simp) ?_
      refine AllReadyH.cons rfl (fun K hK => ?_) AllReadyH.nil
      try simp only [List.getElem_toArray, List.getElem_cons_zero, List.getElem_cons_succ, Act.put, List.setIfInBounds_toArray, List.set_cons_zero, List.set_cons_succ]
      go_simp
      refine (list_to P X L c _ (HP.out.below (bthen HW.out (below_drew hbel))) HF.out (by have := HT.out; omega)).mono ?_
      rintro e w1 ⟨s1, rfl, hs1, hE1⟩
      refine hK.out _ _ (by first | exact blk6 (blk_below (blk_drew (blk_below HQp.out hbel)) hE1) (blk_below (blk_drew (blk_below HQr.out hbel)) hE1) | (dsimp only; exact blk6 (blk_below (blk_drew (blk_below HQp.out hbel)) hE1) (blk_below (blk_drew (blk_below HQr.out hbel)) hE1))) (fun hS2 => ?_)
      clear hS hK K
      have hS := hS2
      clear hS2
      try simp only [List.getElem_toArray, List.getElem_cons_zero, List.getElem_cons_succ, Act.put, List.setIfInBounds_toArray, List.set_cons_zero, List.set_cons_succ]
      refine wpAnyH_ready (rs := [5]) (by kernel_rfl) (by simp) ?_
      refine AllReadyH.cons rfl (fun K hK => ?_) AllReadyH.nil
      try simp only [List.getElem_toArray, List.getElem_cons_zero, List.getElem_cons_succ, Act.put, List.setIfInBounds_toArray, List.set_cons_zero, List.set_cons_succ]
      go_simp
      refine (rlist_calls A c0 L c _ (Kd.C_below HC.out (bthen (bthen HW.out (below_drew hbel)) hE1)) HC0.out (by have := HL.out; omega)).mono ?_
      rintro e w2 ⟨s2, rfl, hs2, hE2⟩
      refine hK.out _ _ (by first | exact blk6 (blk_below (blk_below (blk_drew (blk_below HQp.out hbel)) hE1) hE2) (blk_below (blk_below (blk_drew (blk_below HQr.out hbel)) hE1) hE2) | (dsimp only; exact blk6 (blk_below (blk_below (blk_drew (blk_below HQp.out hbel)) hE1) hE2) (blk_below (blk_below (blk_drew (blk_below HQr.out hbel)) hE1) hE2))) (fun hS2 => ?_)
      clear hS hK K
      have hS := hS2
      clear hS2
      try simp only [List.getElem_toArray, List.getElem_cons_zero, List.getElem_cons_succ, Act.put, List.setIfInBounds_toArray, List.set_cons_zero, List.set_cons_succ]
      refine wpAnyH_ready (rs := [6]) (by kernel_rfl) (by simp) ?_
      refine AllReadyH.cons rfl (fun K hK => ?_) AllReadyH.nil
      try simp only [List.getElem_toArray, List.getElem_cons_zero, List.getElem_cons_succ, Act.put, List.setIfInBounds_toArray, List.set_cons_zero, List.set_cons_succ]
      go_simp
      refine (same_sl s1 s2 _ _ _ (hs1.below hE2) hs2 rfl (by have := rlist_len L c; have := HL.out; omega)).mono ?_
      rintro e w3 ⟨rfl, ⟨nd, rfl⟩⟩
      refine hK.out _ _ (by first | exact blk6 (blk_drewN (blk_below (blk_below (blk_drew (blk_below HQp.out hbel)) hE1) hE2) nd) (blk_drewN (blk_below (blk_below (blk_drew (blk_below HQr.out hbel)) hE1) hE2) nd) | (dsimp only; exact blk6 (blk_drewN (blk_below (blk_below (blk_drew (blk_below HQp.out hbel)) hE1) hE2) nd) (blk_drewN (blk_below (blk_below (blk_drew (blk_below HQr.out hbel)) hE1) hE2) nd))) (fun hS2 => ?_)
      clear hS hK K
      have hS := hS2
      clear hS2
      try simp only [List.getElem_toArray, List.getElem_cons_zero, List.getElem_cons_succ, Act.put, List.setIfInBounds_toArray, List.set_cons_zero, List.set_cons_succ]
      refine wpAnyH_take (i := 7) (v := ?_) rfl (by kernel_rfl) (by kernel_rfl) (by kernel_rfl) (fun _ _ _ h => h) (Or.inl ⟨by rfl, ?_⟩) hS ?_
      rotate_left
      · intro wS hW; (try dsimp only at hW); obtain ⟨W0, W1, W2, W3, W4, W5⟩ := hW; go_simp; (try with_reducible rfl)
      try simp only [List.getElem_toArray, List.getElem_cons_zero, List.getElem_cons_succ, Act.put, List.setIfInBounds_toArray, List.set_cons_zero, List.set_cons_succ]
      refine wpAnyH_take (i := 8) (v := ?_) rfl (by kernel_rfl) (by kernel_rfl) (by kernel_rfl) (fun _ _ _ h => h) (Or.inl ⟨by rfl, ?_⟩) hS ?_
      rotate_left
      · intro wS hW; (try dsimp only at hW); obtain ⟨W0, W1, W2, W3, W4, W5⟩ := hW; go_simp; (try with_reducible rfl)
      try simp only [List.getElem_toArray, List.getElem_cons_zero, List.getElem_cons_succ, Act.put, List.setIfInBounds_toArray, List.set_cons_zero, List.set_cons_succ]
      refine wpAnyH_take (i := 9) (v := ?_) rfl (by kernel_rfl) (by kernel_rfl) (by kernel_rfl) (fun _ _ _ h => h) (Or.inl ⟨by rfl, ?_⟩) hS ?_
      rotate_left
      · intro wS hW; (try dsimp only at hW); obtain ⟨W0, W1, W2, W3, W4, W5⟩ := hW; go_simp; (try with_reducible rfl)
      try simp only [List.getElem_toArray, List.getElem_cons_zero, List.getElem_cons_succ, Act.put, List.setIfInBounds_toArray, List.set_cons_zero, List.set_cons_succ]
      refine wpAnyH_take (i := 10) (v := ?_) rfl (by kernel_rfl) (by kernel_rfl) (by kernel_rfl) (fun _ _ _ h => h) (Or.inl ⟨by rfl, ?_⟩) hS ?_
      rotate_left
      · intro wS hW; (try dsimp only at hW); obtain ⟨W0, W1, W2, W3, W4, W5⟩ := hW; go_simp; (try with_reducible rfl)
      try simp only [List.getElem_toArray, List.getElem_cons_zero, List.getElem_cons_succ, Act.put, List.setIfInBounds_toArray, List.set_cons_zero, List.set_cons_succ]
      refine wpAnyH_take (i := 12) (v := ?_) rfl (by kernel_rfl) (by kernel_rfl) (by kernel_rfl) (fun _ _ _ h => h) (Or.inl ⟨by rfl, ?_⟩) hS ?_
      rotate_left
      · intro wS hW; (try dsimp only at hW); obtain ⟨W0, W1, W2, W3, W4, W5⟩ := hW; go_simp; (try with_reducible rfl)
      try simp only [List.getElem_toArray, List.getElem_cons_zero, List.getElem_cons_succ, Act.put, List.setIfInBounds_toArray, List.set_cons_zero, List.set_cons_succ]
      refine wpAnyH_take (i := 13) (v := ?_) rfl (by kernel_rfl) (by kernel_rfl) (by kernel_rfl) (fun _ _ _ h => h) (Or.inl ⟨by rfl, ?_⟩) hS ?_
      rotate_left
      · intro wS hW; (try dsimp only at hW); obtain ⟨W0, W1, W2, W3, W4, W5⟩ := hW; go_simp; (try with_reducible rfl)
      try simp only [List.getElem_toArray, List.getElem_cons_zero, List.getElem_cons_succ, Act.put, List.setIfInBounds_toArray, List.set_cons_zero, List.set_cons_succ]
      refine wpAnyH_ready (rs := [11]) (by kernel_rfl) (by simp) ?_
      refine AllReadyH.cons rfl (fun K hK => ?_) AllReadyH.nil
      try simp only [List.getElem_toArray, List.getElem_cons_zero, List.getElem_cons_succ, Act.put, List.setIfInBounds_toArray, List.set_cons_zero, List.set_cons_succ]
      go_simp
      refine (len_to P X c ((rlist L c).length : Int) _ (HP.out.below (pw_below_drewN (bthen (bthen (bthen HW.out (below_drew hbel)) hE1) hE2) nd)) (by rw [HF.out.list])).mono ?_
      rintro e w4 ⟨rfl, hE4⟩
      refine hK.out _ _ (by first | exact blk6 (blk_below (blk_drewN (blk_below (blk_below (blk_drew (blk_below HQp.out hbel)) hE1) hE2) nd) hE4) (blk_below (blk_drewN (blk_below (blk_below (blk_drew (blk_below HQr.out hbel)) hE1) hE2) nd) hE4) | (dsimp only; exact blk6 (blk_below (blk_drewN (blk_below (blk_below (blk_drew (blk_below HQp.out hbel)) hE1) hE2) nd) hE4) (blk_below (blk_drewN (blk_below (blk_below (blk_drew (blk_below HQr.out hbel)) hE1) hE2) nd) hE4))) (fun hS2 => ?_)
      clear hS hK K
      have hS := hS2
      clear hS2
      try simp only [List.getElem_toArray, List.getElem_cons_zero, List.getElem_cons_succ, Act.put, List.setIfInBounds_toArray, List.set_cons_zero, List.set_cons_succ]
      refine wpAnyH_ready (rs := [14]) (by kernel_rfl) (by simp) ?_
      refine AllReadyH.cons rfl (fun K hK => ?_) AllReadyH.nil
      try simp only [List.getElem_toArray, List.getElem_cons_zero, List.getElem_cons_succ, Act.put, List.setIfInBounds_toArray, List.set_cons_zero, List.set_cons_succ]
      go_simp
      refine (rlist_calls A c0 L c _ (Kd.C_below HC.out (bthen (pw_below_drewN (bthen (bthen (bthen HW.out (below_drew hbel)) hE1) hE2) nd) hE4)) HC0.out (by have := HL.out; omega)).mono ?_
      rintro e w5 ⟨⟨A5, n5, c5⟩, rfl, hs5, hE5⟩
      obtain rfl : n5 = (rlist L c).length := hs5.len
      refine hK.out _ _ (by first | exact blk6 (blk_below (blk_below (blk_drewN (blk_below (blk_below (blk_drew (blk_below HQp.out hbel)) hE1) hE2) nd) hE4) hE5) (blk_below (blk_below (blk_drewN (blk_below (blk_below (blk_drew (blk_below HQr.out hbel)) hE1) hE2) nd) hE4) hE5) | (dsimp only; exact blk6 (blk_below (blk_below (blk_drewN (blk_below (blk_below (blk_drew (blk_below HQp.out hbel)) hE1) hE2) nd) hE4) hE5) (blk_below (blk_below (blk_drewN (blk_below (blk_below (blk_drew (blk_below HQr.out hbel)) hE1) hE2) nd) hE4) hE5))) (fun hS2 => ?_)
      clear hS hK K
      have hS := hS2
      clear hS2
      try simp only [List.getElem_toArray, List.getElem_cons_zero, List.getElem_cons_succ, Act.put, List.setIfInBounds_toArray, List.set_cons_zero, List.set_cons_succ]
      refine wpAnyH_take (i := 15) (v := ?_) rfl (by kernel_rfl) (by kernel_rfl) (by kernel_rfl) (fun _ _ _ h => h) (Or.inl ⟨by rfl, ?_⟩) hS ?_
      rotate_left
      · intro wS hW; (try dsimp only at hW); obtain ⟨W0, W1, W2, W3, W4, W5⟩ := hW; go_simp; (try with_reducible rfl)
      try simp only [List.getElem_toArray, List.getElem_cons_zero, List.getElem_cons_succ, Act.put, List.setIfInBounds_toArray, List.set_cons_zero, List.set_cons_succ]
      refine wpAnyH_take (i := 16) (v := ?_) rfl (by kernel_rfl) (by kernel_rfl) (by kernel_rfl) (fun _ _ _ h => h) (Or.inl ⟨by rfl, ?_⟩) hS ?_
      rotate_left
      · intro wS hW; (try dsimp only at hW); obtain ⟨W0, W1, W2, W3, W4, W5⟩ := hW; go_simp; (try with_reducible rfl)
      try simp only [List.getElem_toArray, List.getElem_cons_zero, List.getElem_cons_succ, Act.put, List.setIfInBounds_toArray, List.set_cons_zero, List.set_cons_succ]
      refine wpAnyH_take (i := 17) (v := ?_) rfl (by kernel_rfl) (by kernel_rfl) (by kernel_rfl) (fun _ _ _ h => h) (Or.inl ⟨by rfl, ?_⟩) hS ?_
      rotate_left
      · intro wS hW; (try dsimp only at hW); obtain ⟨W0, W1, W2, W3, W4, W5⟩ := hW; go_simp; (try with_reducible rfl)
      try simp only [List.getElem_toArray, List.getElem_cons_zero, List.getElem_cons_succ, Act.put, List.setIfInBounds_toArray, List.set_cons_zero, List.set_cons_succ]
      refine wpAnyH_done (by kernel_rfl) ?_ _
      have hbel2 : Below WW.heap.size WW w5 := bthen (bthen (pw_below_drewN (bthen (bthen (below_drew hbel) hE1) hE2) nd) hE4) hE5
      clear hS
      go_wp2_with fail
      go_roundg gk
      case measure => omega
      case rel =>
        obtain ⟨hk, hc1⟩ := HI.out
        exact ⟨c + 1, by rw [w64 (by omega) (by omega)], by omega, by omega, hbel2⟩
    · have hd : decide (c ≤ 5) = false := decide_eq_false hlt
      clear hk hc1 hlt
      go_wp2_with fail
      refine wp_region_held_drew (S := fun w' => w'.cell? ⟨(w.heap.size + 2), 0, none⟩ = some (.slice (P 0).A (P 0).n (P 0).c) ∧ w'.cell? ⟨(w.heap.size + 2), 1, none⟩ = some (.slice (P 1).A (P 1).n (P 1).c) ∧ w'.cell? ⟨(w.heap.size + 2), 2, none⟩ = some (.slice (P 2).A (P 2).n (P 2).c) ∧ w'.cell? ⟨(w.heap.size + 2), 3, none⟩ = some (.slice (P 3).A (P 3).n (P 3).c) ∧ w'.cell? ⟨(w.heap.size + 2), 4, none⟩ = some (.slice (P 4).A (P 4).n (P 4).c) ∧ w'.cell? ⟨w.heap.size + 1, 0, none⟩ = some (.slice A L.length c0)) (by kernel_rfl) (by first | exact blk6 (blk_drew (blk_below HQp.out hbel)) (blk_drew (blk_below HQr.out hbel)) | (dsimp only; exact blk6 (blk_drew (blk_below HQp.out hbel)) (blk_drew (blk_below HQr.out hbel)))) (fun hS => ?_)
      refine wpAnyH_take (i := 0) (v := ?_) rfl (by kernel_rfl) (by kernel_rfl) (by kernel_rfl) (fun _ _ _ h => h) (Or.inl ⟨by rfl, ?_⟩) hS ?_
      rotate_left
      · intro wS hW; (try dsimp only at hW); obtain ⟨W0, W1, W2, W3, W4, W5⟩ := hW; go_simp; (try with_reducible rfl)
      try simp only [List.getElem_toArray, List.getElem_cons_zero, List.getElem_cons_succ, Act.put, List.setIfInBounds_toArray, List.set_cons_zero, List.set_cons_succ]
      refine wpAnyH_take (i := 2) (v := ?_) rfl (by kernel_rfl) (by kernel_rfl) (by kernel_rfl) (fun _ _ _ h => h) (Or.inl ⟨by rfl, ?_⟩) hS ?_
      rotate_left
      · intro wS hW; (try dsimp only at hW); obtain ⟨W0, W1, W2, W3, W4, W5⟩ := hW; go_simp; (try with_reducible rfl)
      try simp only [List.getElem_toArray, List.getElem_cons_zero, List.getElem_cons_succ, Act.put, List.setIfInBounds_toArray, List.set_cons_zero, List.set_cons_succ]
      refine wpAnyH_ready (rs := [1]) (by kernel_rfl) (by simp) ?_
      refine AllReadyH.cons rfl (fun K hK => ?_) AllReadyH.nil
      try simp only [List.getElem_toArray, List.getElem_cons_zero, List.getElem_cons_succ, Act.put, List.setIfInBounds_toArray, List.set_cons_zero, List.set_cons_succ]
      go_simp
      refine (all_calls P X _ (HP.out.below (bthen HW.out (below_drew hbel))) (by have := HT.out; omega)).mono ?_
      rintro e w1 ⟨s1, rfl, hs1, hE1⟩
      refine hK.out _ _ (by first | exact blk6 (blk_below (blk_drew (blk_below HQp.out hbel)) hE1) (blk_below (blk_drew (blk_below HQr.out hbel)) hE1) | (dsimp only; exact blk6 (blk_below (blk_drew (blk_below HQp.out hbel)) hE1) (blk_below (blk_drew (blk_below HQr.out hbel)) hE1))) (fun hS2 => ?_)
      clear hS hK K
      have hS := hS2
      clear hS2
      try simp only [List.getElem_toArray, List.getElem_cons_zero, List.getElem_cons_succ, Act.put, List.setIfInBounds_toArray, List.set_cons_zero, List.set_cons_succ]
      refine wpAnyH_ready (rs := [3]) (by kernel_rfl) (by simp) ?_
      refine AllReadyH.cons rfl (fun K hK => ?_) AllReadyH.nil
      try simp only [List.getElem_toArray, List.getElem_cons_zero, List.getElem_cons_succ, Act.put, List.setIfInBounds_toArray, List.set_cons_zero, List.set_cons_succ]
      go_simp
      refine (rall_calls A c0 L _ (Kd.C_below HC.out (bthen (bthen HW.out (below_drew hbel)) hE1)) HC0.out (by have := HL.out; omega)).mono ?_
      rintro e w2 ⟨s2, rfl, hs2, hE2⟩
      refine hK.out _ _ (by first | exact blk6 (blk_below (blk_below (blk_drew (blk_below HQp.out hbel)) hE1) hE2) (blk_below (blk_below (blk_drew (blk_below HQr.out hbel)) hE1) hE2) | (dsimp only; exact blk6 (blk_below (blk_below (blk_drew (blk_below HQp.out hbel)) hE1) hE2) (blk_below (blk_below (blk_drew (blk_below HQr.out hbel)) hE1) hE2))) (fun hS2 => ?_)
      clear hS hK K
      have hS := hS2
      clear hS2
      try simp only [List.getElem_toArray, List.getElem_cons_zero, List.getElem_cons_succ, Act.put, List.setIfInBounds_toArray, List.set_cons_zero, List.set_cons_succ]
      refine wpAnyH_ready (rs := [4]) (by kernel_rfl) (by simp) ?_
      refine AllReadyH.cons rfl (fun K hK => ?_) AllReadyH.nil
      try simp only [List.getElem_toArray, List.getElem_cons_zero, List.getElem_cons_succ, Act.put, List.setIfInBounds_toArray, List.set_cons_zero, List.set_cons_succ]
      go_simp
      refine (same_sl s1 s2 _ _ _ (hs1.below hE2) hs2 HF.out.allN.symm (by rw [allN_len]; have := HT.out; omega)).mono ?_
      rintro e w3 ⟨rfl, ⟨nd, rfl⟩⟩
      refine hK.out _ _ (by first | exact blk6 (blk_drewN (blk_below (blk_below (blk_drew (blk_below HQp.out hbel)) hE1) hE2) nd) (blk_drewN (blk_below (blk_below (blk_drew (blk_below HQr.out hbel)) hE1) hE2) nd) | (dsimp only; exact blk6 (blk_drewN (blk_below (blk_below (blk_drew (blk_below HQp.out hbel)) hE1) hE2) nd) (blk_drewN (blk_below (blk_below (blk_drew (blk_below HQr.out hbel)) hE1) hE2) nd))) (fun hS2 => ?_)
      clear hS hK K
      have hS := hS2
      clear hS2
      try simp only [List.getElem_toArray, List.getElem_cons_zero, List.getElem_cons_succ, Act.put, List.setIfInBounds_toArray, List.set_cons_zero, List.set_cons_succ]
      refine wpAnyH_take (i := 5) (v := ?_) rfl (by kernel_rfl) (by kernel_rfl) (by kernel_rfl) (fun _ _ _ h => h) (Or.inl ⟨by rfl, ?_⟩) hS ?_
      rotate_left
      · intro wS hW; (try dsimp only at hW); obtain ⟨W0, W1, W2, W3, W4, W5⟩ := hW; go_simp; (try with_reducible rfl)
      try simp only [List.getElem_toArray, List.getElem_cons_zero, List.getElem_cons_succ, Act.put, List.setIfInBounds_toArray, List.set_cons_zero, List.set_cons_succ]
      refine wpAnyH_done (by kernel_rfl) ?_ _
      clear hS
      go_wp2_with fail
      go_ret
      exact ⟨rfl, pw_below_drewN (bthen (bthen (bthen HW.out (below_drew hbel)) hE1) hE2) nd⟩

end Go.Proofs.Ytmgphebhfecfmaa.X

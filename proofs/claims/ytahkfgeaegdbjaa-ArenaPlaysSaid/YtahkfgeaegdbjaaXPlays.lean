/- Any accesses, one by one: both arenas answer the same: the walk by hand. Conditions: none. -/
import Derived.Test.YtahkfgeaegdbjaaXStep
import Derived.Test.YtahkfgeaegdbjaaXSizes
import Derived.Deep.RegionHeld3
namespace Go.Proofs.Ytahkfgeaegdbjaa.X
open Go.RowKit Go.Proofs.YtahkfgeaegdbjaaW.PrintWords Go.Proofs.YtahkfgeaegdbjaaW.PrintLast Go.Proofs.YtahkfgeaegdbjaaW.PrintMore
set_option linter.unusedVariables false
set_option linter.unusedSimpArgs false

/-- A row of steps in memory, four numbers each. -/
def ActsAt (w : World) (A : Option Addr) (n : Nat) : Prop := 0 < n → ∃ ad : Addr, A = some ad ∧ ∀ i, i < n → ∀ j, j < 4 → ∃ v : Int, w.cell? (ad.add (i * 4 + j)) = some (.int .i64 v)

theorem bad_walk (n : Int) (A0 : Option Addr) (c0 m : Nat) (w : World) (h : 2000 < n ∨ 200 < (m : Int)) : Calls Try.prog 6 #[.int .i64 n, .slice A0 m c0] w fun e w' => e = .returned (.bool true) ∧ Below w.heap.size w w' := by
  by_cases h0 : 2000 < n
  · have b0 : decide (2000 < n) = true := decide_eq_true h0
    clear h h0
    go_enter Try.func6, Try.ntmps6
    go_wp2_with (go_at_call 8; refine (lives_calls _).mono ?_; rintro e w1 ⟨rfl, hB⟩)
    go_ret
    exact ⟨rfl, hB⟩
  · have b0 : decide (2000 < n) = false := decide_eq_false h0
    have b1 : decide (200 < (m : Int)) = true := decide_eq_true (by omega)
    clear h h0
    go_enter Try.func6, Try.ntmps6
    go_wp2_with (go_at_call 8; refine (lives_calls _).mono ?_; rintro e w1 ⟨rfl, hB⟩)
    go_ret
    exact ⟨rfl, hB⟩
theorem none_walk (n : Int) (A0 : Option Addr) (c0 m : Nat) (w : World) (h : n < 1) (hm : m ≤ 200) : Calls Try.prog 6 #[.int .i64 n, .slice A0 m c0] w fun e w' => e = .returned (.bool true) ∧ Below w.heap.size w w' := by
  have b0 : decide (2000 < n) = false := decide_eq_false (by omega)
  have b1 : decide (200 < (m : Int)) = false := decide_eq_false (by omega)
  have HN := Aside0.mk h
  clear h hm
  go_enter Try.func6, Try.ntmps6
  go_wp2_with (first | (go_at_call 9; refine (new_bad n _ (.inl HN.out)).mono ?_; rintro e w1 ⟨rfl, rfl⟩) | (go_at_call 19; refine (rnew_bad n _ (.inl HN.out)).mono ?_; rintro e w2 ⟨rfl, rfl⟩) | (go_at_call 8; refine (lives_calls _).mono ?_; rintro e w3 ⟨rfl, hB⟩))
  go_ret
  exact ⟨rfl, hB⟩

theorem Pair.drew {w : World} {q g q2 g2 : Nat} {ws : List Int} {c : Int} (h : Pair w q g q2 g2 ws c) : Pair w.drew q g q2 g2 ws c := ⟨h.m.drew, h.r.drew, h.d1, h.d2, h.d3, h.d4⟩
theorem Keep4.undrew {w w' : World} {q g q2 g2 : Nat} (h : Keep4 w.drew w' q g q2 g2) : Keep4 w w' q g q2 g2 := ⟨h.os, h.tape, h.output, h.size, h.block⟩
theorem held_less {P : Program} {ops : Array Oper} {Q : Exit → Act → World → Prop} {md : Region.Mode} {S S' : World → Prop} (hs : ∀ w, S' w → S w) : ∀ (f : Nat) (listed : Array Bool) (a : Act) (w : World), wpAnyH P md ops Q S' f listed a w → wpAnyH P md ops Q S f listed a w
  | 0, _, _, _, h => h
  | f + 1, _, _, _, h => ⟨h.1, fun i hi => wpOp_mono (fun a' w' h' => ⟨hs _ h'.1, held_less hs f _ a' w' h'.2⟩) (h.2 i hi)⟩
set_option maxHeartbeats 4000000 in
theorem main_walk (n : Int) (A0 : Option Addr) (c0 m : Nat) (w : World) (h0 : 1 ≤ n) (h1 : n ≤ 2000) (hm : m ≤ 200) (hA : ActsAt w A0 m) : Calls Try.prog 6 #[.int .i64 n, .slice A0 m c0] w fun e w' => e = .returned (.bool true) ∧ Below w.heap.size w w' := by
  have b0 : decide (2000 < n) = false := decide_eq_false (by omega)
  have b1 : decide (200 < (m : Int)) = false := decide_eq_false (by omega)
  have HN := Aside0.mk (And.intro h0 (And.intro h1 hm))
  have HA := Aside0.mk hA
  clear h0 h1 hm hA
  go_enter Try.func6, Try.ntmps6
  go_wp2_with (first | (go_at_call 9; refine (new_calls n _ HN.out.1 (by have := HN.out; omega)).mono ?_; rintro e w1 ⟨q, g, rfl, hA1, hq1, hg1, hB1⟩) | (go_at_call 19; refine (rnew_calls n _ HN.out.1 (by have := HN.out; omega)).mono ?_; rintro e w2 ⟨q2, g2, rfl, hA2, hq2, hg2, hB2⟩))
  have P0 : Pair w2 q g q2 g2 (List.replicate n.toNat 0) 0 := ⟨hA1.below hB2 hA1.lq hA1.lg, hA2, by have := hA1.lq; omega, by have := hA1.lq; omega, by have := hA1.lg; omega, by have := hA1.lg; omega⟩
  have B0 := hB1.trans (hB2.mono hB1.size)
  have Q2 : w.heap.size ≤ q2 := Nat.le_trans hB1.size hq2
  have G2 : w.heap.size ≤ g2 := Nat.le_trans hB1.size hg2
  go_loopg [5, 8, 9] m (fun kq v5 v8 v9 w' => ∃ (i : Int) (q g : Nat) (ws : List Int) (c : Int), v5 = .pointer (some ⟨q, 0, none⟩) ∧ v8 = .int .i64 i ∧ 0 ≤ i ∧ i + (kq : Int) = m ∧ Aside0 (Pair w' q g q2 g2 ws c) ∧ Aside0 ((ws.length : Int) = n ∧ w.heap.size ≤ q ∧ w.heap.size ≤ g) ∧ Below w.heap.size w w')
  case atStart => exact ⟨0, q, g, _, _, rfl, rfl, by omega, by omega, ⟨P0⟩, ⟨by have := HN.out; simp; omega, hq1, hg1⟩, B0⟩
  case round =>
    clear P0 B0 hA1 hA2 hB1 hB2 hq1 hg1 hq2 hg2
    obtain ⟨i, q, g, ws, c, rfl, rfl, hi0, hik, HP, HW, hbel⟩ := hrel
    by_cases hlt : i < (m : Int)
    · have hd : decide (i < (m : Int)) = true := decide_eq_true hlt
      obtain ⟨gk, rfl⟩ : ∃ k, gk = k + 1 := ⟨gk - 1, by omega⟩
      obtain ⟨ad, ead, hc⟩ := HA.out (by omega)
      cases ead
      obtain ⟨k, hk⟩ := hc i.toNat (by omega) 0 (by omega)
      obtain ⟨a, ha⟩ := hc i.toNat (by omega) 1 (by omega)
      obtain ⟨x, hx⟩ := hc i.toNat (by omega) 2 (by omega)
      obtain ⟨y, hy⟩ := hc i.toNat (by omega) 3 (by omega)
      have p0 : (0 ≤ i) = True := eq_true hi0
      have q0 : (i < (m : Int)) = True := eq_true hlt
      rw [Nat.add_zero] at hk
      rw [add_field _ _ _ (by omega)] at ha hx hy
      have KS : Aside0 (∀ w', Below w.heap.size w w' → (w'.cell? (ad.add (i.toNat * 4)) = some (.int .i64 k) ∧ w'.cell? ⟨(ad.add (i.toNat * 4)).block, (ad.add (i.toNat * 4)).off + 1, none⟩ = some (.int .i64 a) ∧ w'.cell? ⟨(ad.add (i.toNat * 4)).block, (ad.add (i.toNat * 4)).off + 2, none⟩ = some (.int .i64 x) ∧ w'.cell? ⟨(ad.add (i.toNat * 4)).block, (ad.add (i.toNat * 4)).off + 3, none⟩ = some (.int .i64 y))) := ⟨fun w' hb => ⟨pw_cell_below hb hk, pw_cell_below hb ha, pw_cell_below hb hx, pw_cell_below hb hy⟩⟩
      have HI := Aside0.mk (And.intro hi0 (And.intro hik hlt))
      have HB := Aside0.mk hbel
      have hk2 := (KS.out _ hbel).1
      clear hi0 hik hlt hc hk ha hx hy
      by_cases e4 : k = 4
      · have b4 : (k == 4) = true := beq_iff_eq.2 e4
        clear e4
        go_wp2_with (go_at_call 20; refine (copy_calls wr q g ws c HP.out.m (by have := HW.out; have := HN.out; omega)).mono ?_; rintro e w3 ⟨q3, g3, rfl, hA3, hq3, hg3, hB3⟩)
        have HB3 := Aside0.mk (HB.out.trans (hB3.mono HB.out.size))
        have HP3 : Aside0 (Pair w3 q g q2 g2 ws c) := ⟨⟨HP.out.m.below hB3 HP.out.m.lq HP.out.m.lg, HP.out.r.below hB3 HP.out.r.lq HP.out.r.lg, HP.out.d1, HP.out.d2, HP.out.d3, HP.out.d4⟩⟩
        have HA3 := Aside0.mk hA3
        have HQ3 : Aside0 (q3 ≠ q ∧ q3 ≠ g ∧ g3 ≠ q ∧ g3 ≠ g ∧ q3 ≠ q2 ∧ q3 ≠ g2 ∧ g3 ≠ q2 ∧ g3 ≠ g2 ∧ w.heap.size ≤ q3 ∧ w.heap.size ≤ g3) := ⟨by have := HP.out.m.lq; have := HP.out.m.lg; have := HP.out.r.lq; have := HP.out.r.lg; have := HB.out.size; omega⟩
        clear hA3 hq3 hg3 hB3
        obtain ⟨r4, HE4⟩ : ∃ r4 : Int, Aside0 ((if inR ws a then (0 : Int) else 3) = r4) := ⟨_, ⟨rfl⟩⟩
        go_region_held3 (fun w' => w'.cell? ⟨(ad.add (i.toNat * 4)).block, (ad.add (i.toNat * 4)).off + 1, none⟩ = some (.int .i64 a) ∧ w'.cell? ⟨(ad.add (i.toNat * 4)).block, (ad.add (i.toNat * 4)).off + 2, none⟩ = some (.int .i64 x))
          (first | exact ⟨(KS.out _ (below_drew HB3.out)).2.1, (KS.out _ (below_drew HB3.out)).2.2.1⟩ | exact ⟨(KS.out _ HB4.out).2.1, (KS.out _ HB4.out).2.2.1⟩)
          (first | (go_at_call 17; refine (store_to HP3.out.m.drew a x _ _ r4 rfl rfl HE4.out).mono ?_; rintro e w4 ⟨rfl, hA4, hK4⟩; have HB4 := Aside0.mk (Keep.below HB3.out hK4.undrew HB3.out.size HW.out.2.1 HW.out.2.2); have HK4 := Aside0.mk hK4.undrew; clear hA4 hK4))
        go_wp2_with fail
        have HP4' : Pair w4 q3 g3 q2 g2 ws c := ⟨HA3.out.keep HK4.out HQ3.out.1 HQ3.out.2.1 HQ3.out.2.2.1 HQ3.out.2.2.2.1, HP3.out.r.keep HK4.out HP.out.d1.symm HP.out.d3.symm HP.out.d2.symm HP.out.d4.symm, HQ3.out.2.2.2.2.1, HQ3.out.2.2.2.2.2.1, HQ3.out.2.2.2.2.2.2.1, HQ3.out.2.2.2.2.2.2.2.1⟩
        have HB4' := HB4.out
        have HQ4 := Aside0.mk (And.intro HQ3.out.2.2.2.2.2.2.2.2.1 (And.intro HQ3.out.2.2.2.2.2.2.2.2.2 trivial))
        clear HB4 HK4 hk2 HP3 HA3 HQ3 HB3
        have HP4 := Aside0.mk HP4'
        have HB4 := Aside0.mk (HB4')
        refine wp_region_held_drew (S := fun w' => w'.cell? (ad.add (i.toNat * 4)) = some (.int .i64 k) ∧ w'.cell? ⟨(ad.add (i.toNat * 4)).block, (ad.add (i.toNat * 4)).off + 1, none⟩ = some (.int .i64 a) ∧ w'.cell? ⟨(ad.add (i.toNat * 4)).block, (ad.add (i.toNat * 4)).off + 2, none⟩ = some (.int .i64 x) ∧ w'.cell? ⟨(ad.add (i.toNat * 4)).block, (ad.add (i.toNat * 4)).off + 3, none⟩ = some (.int .i64 y)) (by kernel_rfl) (by first | exact (KS.out _ (below_drew HB4.out)) | (dsimp only; exact (KS.out _ (below_drew HB4.out)))) (fun hS => ?_)
        refine wpAnyH_take (i := 0) (v := ?_) rfl (by kernel_rfl) (by kernel_rfl) (by kernel_rfl) (fun _ _ _ h => h) (Or.inl ⟨by rfl, ?_⟩) hS ?_
        rotate_left
        · intro wS hW; (try dsimp only at hW); obtain ⟨W0, W1, W2, W3⟩ := hW; go_simp; (try with_reducible rfl)
        try simp only [List.getElem_toArray, List.getElem_cons_zero, List.getElem_cons_succ, Act.put, List.setIfInBounds_toArray, List.set_cons_zero, List.set_cons_succ]
        refine wpAnyH_take (i := 1) (v := ?_) rfl (by kernel_rfl) (by kernel_rfl) (by kernel_rfl) (fun _ _ _ h => h) (Or.inl ⟨by rfl, ?_⟩) hS ?_
        rotate_left
        · intro wS hW; (try dsimp only at hW); obtain ⟨W0, W1, W2, W3⟩ := hW; go_simp; (try with_reducible rfl)
        try simp only [List.getElem_toArray, List.getElem_cons_zero, List.getElem_cons_succ, Act.put, List.setIfInBounds_toArray, List.set_cons_zero, List.set_cons_succ]
        refine wpAnyH_take (i := 2) (v := ?_) rfl (by kernel_rfl) (by kernel_rfl) (by kernel_rfl) (fun _ _ _ h => h) (Or.inl ⟨by rfl, ?_⟩) hS ?_
        rotate_left
        · intro wS hW; (try dsimp only at hW); obtain ⟨W0, W1, W2, W3⟩ := hW; go_simp; (try with_reducible rfl)
        try simp only [List.getElem_toArray, List.getElem_cons_zero, List.getElem_cons_succ, Act.put, List.setIfInBounds_toArray, List.set_cons_zero, List.set_cons_succ]
        refine wpAnyH_take (i := 3) (v := ?_) rfl (by kernel_rfl) (by kernel_rfl) (by kernel_rfl) (fun _ _ _ h => h) (Or.inl ⟨by rfl, ?_⟩) hS ?_
        rotate_left
        · intro wS hW; (try dsimp only at hW); obtain ⟨W0, W1, W2, W3⟩ := hW; go_simp; (try with_reducible rfl)
        try simp only [List.getElem_toArray, List.getElem_cons_zero, List.getElem_cons_succ, Act.put, List.setIfInBounds_toArray, List.set_cons_zero, List.set_cons_succ]
        refine wpAnyH_take (i := 4) (v := ?_) rfl (by kernel_rfl) (by kernel_rfl) (by kernel_rfl) (fun _ _ _ h => h) (Or.inl ⟨by rfl, ?_⟩) hS ?_
        rotate_left
        · intro wS hW; (try dsimp only at hW); obtain ⟨W0, W1, W2, W3⟩ := hW; go_simp; (try with_reducible rfl)
        try simp only [List.getElem_toArray, List.getElem_cons_zero, List.getElem_cons_succ, Act.put, List.setIfInBounds_toArray, List.set_cons_zero, List.set_cons_succ]
        refine wpAnyH_take (i := 5) (v := ?_) rfl (by kernel_rfl) (by kernel_rfl) (by kernel_rfl) (fun _ _ _ h => h) (Or.inl ⟨by rfl, ?_⟩) hS ?_
        rotate_left
        · intro wS hW; (try dsimp only at hW); obtain ⟨W0, W1, W2, W3⟩ := hW; go_simp; (try with_reducible rfl)
        try simp only [List.getElem_toArray, List.getElem_cons_zero, List.getElem_cons_succ, Act.put, List.setIfInBounds_toArray, List.set_cons_zero, List.set_cons_succ]
        refine wpAnyH_take (i := 6) (v := ?_) rfl (by kernel_rfl) (by kernel_rfl) (by kernel_rfl) (fun _ _ _ h => h) (Or.inl ⟨by rfl, ?_⟩) hS ?_
        rotate_left
        · intro wS hW; (try dsimp only at hW); obtain ⟨W0, W1, W2, W3⟩ := hW; go_simp; (try with_reducible rfl)
        try simp only [List.getElem_toArray, List.getElem_cons_zero, List.getElem_cons_succ, Act.put, List.setIfInBounds_toArray, List.set_cons_zero, List.set_cons_succ]
        refine wpAnyH_take (i := 7) (v := ?_) rfl (by kernel_rfl) (by kernel_rfl) (by kernel_rfl) (fun _ _ _ h => h) (Or.inl ⟨by rfl, ?_⟩) hS ?_
        rotate_left
        · intro wS hW; (try dsimp only at hW); obtain ⟨W0, W1, W2, W3⟩ := hW; go_simp; (try with_reducible rfl)
        try simp only [List.getElem_toArray, List.getElem_cons_zero, List.getElem_cons_succ, Act.put, List.setIfInBounds_toArray, List.set_cons_zero, List.set_cons_succ]
        refine wpAnyH_take (i := 8) (v := ?_) rfl (by kernel_rfl) (by kernel_rfl) (by kernel_rfl) (fun _ _ _ h => h) (Or.inl ⟨by rfl, ?_⟩) hS ?_
        rotate_left
        · intro wS hW; (try dsimp only at hW); obtain ⟨W0, W1, W2, W3⟩ := hW; go_simp; (try with_reducible rfl)
        try simp only [List.getElem_toArray, List.getElem_cons_zero, List.getElem_cons_succ, Act.put, List.setIfInBounds_toArray, List.set_cons_zero, List.set_cons_succ]
        refine wpAnyH_ready (rs := [9]) (by kernel_rfl) (by simp) ?_
        refine AllReadyH.cons rfl (fun K hK => ?_) AllReadyH.nil
        try simp only [List.getElem_toArray, List.getElem_cons_zero, List.getElem_cons_succ, Act.put, List.setIfInBounds_toArray, List.set_cons_zero, List.set_cons_succ]
        go_simp
        refine (step_calls _ q3 g3 q2 g2 ws c k a x y HP4.out.drew).mono ?_
        rintro e w5 ⟨rfl, ws', c', hl, hP, hK⟩
        have HP5 := Aside0.mk hP
        have HL5 := Aside0.mk hl
        have HB5 := Aside0.mk (Keep4.below HB4.out hK.undrew HB4.out.size HQ4.out.1 HQ4.out.2.1 Q2 G2)
        clear hP hl hK
        refine hK.out _ _ (by first | exact (KS.out _ HB5.out) | (dsimp only; exact (KS.out _ HB5.out))) (fun hS2 => ?_)
        clear hS hK K
        have hS := hS2
        clear hS2
        try simp only [List.getElem_toArray, List.getElem_cons_zero, List.getElem_cons_succ, Act.put, List.setIfInBounds_toArray, List.set_cons_zero, List.set_cons_succ]
        refine held_less (S' := fun w' => w'.cell? ⟨q2, 1, none⟩ = some (.int .i64 c') ∧ Below w.heap.size w w') (fun w' h => KS.out _ h.2) _ _ _ _ ?_
        replace hS : (fun w' : World => w'.cell? ⟨q2, 1, none⟩ = some (.int .i64 c') ∧ Below w.heap.size w w') w5 := ⟨HP5.out.r.c1, HB5.out⟩
        refine wpAnyH_take (i := 10) (v := ?_) rfl (by kernel_rfl) (by kernel_rfl) (by kernel_rfl) (fun _ _ _ h => h) (Or.inl ⟨by rfl, ?_⟩) hS ?_
        rotate_left
        · intro wS hW; (try dsimp only at hW); obtain ⟨W0, W1⟩ := hW; go_simp; (try with_reducible rfl)
        try simp only [List.getElem_toArray, List.getElem_cons_zero, List.getElem_cons_succ, Act.put, List.setIfInBounds_toArray, List.set_cons_zero, List.set_cons_succ]
        refine wpAnyH_take (i := 11) (v := ?_) rfl (by kernel_rfl) (by kernel_rfl) (by kernel_rfl) (fun _ _ _ h => h) (Or.inl ⟨by rfl, ?_⟩) hS ?_
        rotate_left
        · intro wS hW; (try dsimp only at hW); obtain ⟨W0, W1⟩ := hW; go_simp; (try with_reducible rfl)
        try simp only [List.getElem_toArray, List.getElem_cons_zero, List.getElem_cons_succ, Act.put, List.setIfInBounds_toArray, List.set_cons_zero, List.set_cons_succ]
        refine wpAnyH_take (i := 12) (v := ?_) rfl (by kernel_rfl) (by kernel_rfl) (by kernel_rfl) (fun _ _ _ h => h) (Or.inl ⟨by rfl, ?_⟩) hS ?_
        rotate_left
        · intro wS hW; (try dsimp only at hW); obtain ⟨W0, W1⟩ := hW; go_simp; (try with_reducible rfl)
        try simp only [List.getElem_toArray, List.getElem_cons_zero, List.getElem_cons_succ, Act.put, List.setIfInBounds_toArray, List.set_cons_zero, List.set_cons_succ]
        refine wpAnyH_take (i := 13) (v := ?_) rfl (by kernel_rfl) (by kernel_rfl) (by kernel_rfl) (fun _ _ _ h => h) (Or.inl ⟨by rfl, ?_⟩) hS ?_
        rotate_left
        · intro wS hW; (try dsimp only at hW); obtain ⟨W0, W1⟩ := hW; go_simp; (try with_reducible rfl)
        try simp only [List.getElem_toArray, List.getElem_cons_zero, List.getElem_cons_succ, Act.put, List.setIfInBounds_toArray, List.set_cons_zero, List.set_cons_succ]
        refine wpAnyH_take (i := 15) (v := ?_) rfl (by kernel_rfl) (by kernel_rfl) (by kernel_rfl) (fun _ _ _ h => h) (Or.inl ⟨by rfl, ?_⟩) hS ?_
        rotate_left
        · intro wS hW; (try dsimp only at hW); obtain ⟨W0, W1⟩ := hW; go_simp; (try with_reducible rfl)
        try simp only [List.getElem_toArray, List.getElem_cons_zero, List.getElem_cons_succ, Act.put, List.setIfInBounds_toArray, List.set_cons_zero, List.set_cons_succ]
        refine wpAnyH_take (i := 16) (v := ?_) rfl (by kernel_rfl) (by kernel_rfl) (by kernel_rfl) (fun _ _ _ h => h) (Or.inl ⟨by rfl, ?_⟩) hS ?_
        rotate_left
        · intro wS hW; (try dsimp only at hW); obtain ⟨W0, W1⟩ := hW; go_simp; (try with_reducible rfl)
        try simp only [List.getElem_toArray, List.getElem_cons_zero, List.getElem_cons_succ, Act.put, List.setIfInBounds_toArray, List.set_cons_zero, List.set_cons_succ]
        refine wpAnyH_take (i := 17) (v := ?_) rfl (by kernel_rfl) (by kernel_rfl) (by kernel_rfl) (fun _ _ _ h => h) (Or.inl ⟨by rfl, ?_⟩) hS ?_
        rotate_left
        · intro wS hW; (try dsimp only at hW); obtain ⟨W0, W1⟩ := hW; go_simp; (try with_reducible rfl)
        try simp only [List.getElem_toArray, List.getElem_cons_zero, List.getElem_cons_succ, Act.put, List.setIfInBounds_toArray, List.set_cons_zero, List.set_cons_succ]
        refine wpAnyH_take (i := 18) (v := ?_) rfl (by kernel_rfl) (by kernel_rfl) (by kernel_rfl) (fun _ _ _ h => h) (Or.inl ⟨by rfl, ?_⟩) hS ?_
        rotate_left
        · intro wS hW; (try dsimp only at hW); obtain ⟨W0, W1⟩ := hW; go_simp; (try with_reducible rfl)
        try simp only [List.getElem_toArray, List.getElem_cons_zero, List.getElem_cons_succ, Act.put, List.setIfInBounds_toArray, List.set_cons_zero, List.set_cons_succ]
        refine wpAnyH_ready (rs := [14]) (by kernel_rfl) (by simp) ?_
        refine AllReadyH.cons rfl (fun K hK => ?_) AllReadyH.nil
        try simp only [List.getElem_toArray, List.getElem_cons_zero, List.getElem_cons_succ, Act.put, List.setIfInBounds_toArray, List.set_cons_zero, List.set_cons_succ]
        go_simp
        refine (count_calls _ q3 g3 _ _ HP5.out.m).mono ?_
        rintro e w6 ⟨rfl, rfl⟩
        refine hK.out _ _ (by first | exact hS | (dsimp only; exact hS)) (fun hS2 => ?_)
        clear hS hK K
        have hS := hS2
        clear hS2
        try simp only [List.getElem_toArray, List.getElem_cons_zero, List.getElem_cons_succ, Act.put, List.setIfInBounds_toArray, List.set_cons_zero, List.set_cons_succ]
        refine wpAnyH_take (i := 19) (v := ?_) rfl (by kernel_rfl) (by kernel_rfl) (by kernel_rfl) (fun _ _ _ h => h) (Or.inl ⟨by rfl, ?_⟩) hS ?_
        rotate_left
        · intro wS hW; (try dsimp only at hW); obtain ⟨W0, W1⟩ := hW; go_simp; (try with_reducible rfl)
        try simp only [List.getElem_toArray, List.getElem_cons_zero, List.getElem_cons_succ, Act.put, List.setIfInBounds_toArray, List.set_cons_zero, List.set_cons_succ]
        refine wpAnyH_take (i := 20) (v := ?_) rfl (by kernel_rfl) (by kernel_rfl) (by kernel_rfl) (fun _ _ _ h => h) (Or.inl ⟨by rfl, ?_⟩) hS ?_
        rotate_left
        · intro wS hW; (try dsimp only at hW); obtain ⟨W0, W1⟩ := hW; go_simp; (try with_reducible rfl)
        try simp only [List.getElem_toArray, List.getElem_cons_zero, List.getElem_cons_succ, Act.put, List.setIfInBounds_toArray, List.set_cons_zero, List.set_cons_succ]
        refine wpAnyH_done (by kernel_rfl) ?_ _
        clear hS
        go_wp2_with fail
        go_roundg gk
        case measure => omega
        case rel =>
          obtain ⟨hi0, hik, hlt⟩ := HI.out
          have hn := HN.out
          exact ⟨i + 1, q3, g3, ws', c', rfl, by rw [w64 (by omega) (by omega)], by omega, by omega, ⟨HP5.out⟩, ⟨by rw [HL5.out]; exact HW.out.1, HQ4.out.1, HQ4.out.2.1⟩, HB5.out⟩
      · have b4 : (k == 4) = false := beq_eq_false_iff_ne.2 e4
        clear e4
        go_wp2_with fail
        have HQ4 := Aside0.mk (And.intro HW.out.2.1 (And.intro HW.out.2.2 trivial))
        have HP4' := HP.out
        have HB4' := HB.out
        clear hk2
        have HP4 := Aside0.mk HP4'
        have HB4 := Aside0.mk (HB4')
        refine wp_region_held_drew (S := fun w' => w'.cell? (ad.add (i.toNat * 4)) = some (.int .i64 k) ∧ w'.cell? ⟨(ad.add (i.toNat * 4)).block, (ad.add (i.toNat * 4)).off + 1, none⟩ = some (.int .i64 a) ∧ w'.cell? ⟨(ad.add (i.toNat * 4)).block, (ad.add (i.toNat * 4)).off + 2, none⟩ = some (.int .i64 x) ∧ w'.cell? ⟨(ad.add (i.toNat * 4)).block, (ad.add (i.toNat * 4)).off + 3, none⟩ = some (.int .i64 y)) (by kernel_rfl) (by first | exact (KS.out _ (below_drew HB4.out)) | (dsimp only; exact (KS.out _ (below_drew HB4.out)))) (fun hS => ?_)
        refine wpAnyH_take (i := 0) (v := ?_) rfl (by kernel_rfl) (by kernel_rfl) (by kernel_rfl) (fun _ _ _ h => h) (Or.inl ⟨by rfl, ?_⟩) hS ?_
        rotate_left
        · intro wS hW; (try dsimp only at hW); obtain ⟨W0, W1, W2, W3⟩ := hW; go_simp; (try with_reducible rfl)
        try simp only [List.getElem_toArray, List.getElem_cons_zero, List.getElem_cons_succ, Act.put, List.setIfInBounds_toArray, List.set_cons_zero, List.set_cons_succ]
        refine wpAnyH_take (i := 1) (v := ?_) rfl (by kernel_rfl) (by kernel_rfl) (by kernel_rfl) (fun _ _ _ h => h) (Or.inl ⟨by rfl, ?_⟩) hS ?_
        rotate_left
        · intro wS hW; (try dsimp only at hW); obtain ⟨W0, W1, W2, W3⟩ := hW; go_simp; (try with_reducible rfl)
        try simp only [List.getElem_toArray, List.getElem_cons_zero, List.getElem_cons_succ, Act.put, List.setIfInBounds_toArray, List.set_cons_zero, List.set_cons_succ]
        refine wpAnyH_take (i := 2) (v := ?_) rfl (by kernel_rfl) (by kernel_rfl) (by kernel_rfl) (fun _ _ _ h => h) (Or.inl ⟨by rfl, ?_⟩) hS ?_
        rotate_left
        · intro wS hW; (try dsimp only at hW); obtain ⟨W0, W1, W2, W3⟩ := hW; go_simp; (try with_reducible rfl)
        try simp only [List.getElem_toArray, List.getElem_cons_zero, List.getElem_cons_succ, Act.put, List.setIfInBounds_toArray, List.set_cons_zero, List.set_cons_succ]
        refine wpAnyH_take (i := 3) (v := ?_) rfl (by kernel_rfl) (by kernel_rfl) (by kernel_rfl) (fun _ _ _ h => h) (Or.inl ⟨by rfl, ?_⟩) hS ?_
        rotate_left
        · intro wS hW; (try dsimp only at hW); obtain ⟨W0, W1, W2, W3⟩ := hW; go_simp; (try with_reducible rfl)
        try simp only [List.getElem_toArray, List.getElem_cons_zero, List.getElem_cons_succ, Act.put, List.setIfInBounds_toArray, List.set_cons_zero, List.set_cons_succ]
        refine wpAnyH_take (i := 4) (v := ?_) rfl (by kernel_rfl) (by kernel_rfl) (by kernel_rfl) (fun _ _ _ h => h) (Or.inl ⟨by rfl, ?_⟩) hS ?_
        rotate_left
        · intro wS hW; (try dsimp only at hW); obtain ⟨W0, W1, W2, W3⟩ := hW; go_simp; (try with_reducible rfl)
        try simp only [List.getElem_toArray, List.getElem_cons_zero, List.getElem_cons_succ, Act.put, List.setIfInBounds_toArray, List.set_cons_zero, List.set_cons_succ]
        refine wpAnyH_take (i := 5) (v := ?_) rfl (by kernel_rfl) (by kernel_rfl) (by kernel_rfl) (fun _ _ _ h => h) (Or.inl ⟨by rfl, ?_⟩) hS ?_
        rotate_left
        · intro wS hW; (try dsimp only at hW); obtain ⟨W0, W1, W2, W3⟩ := hW; go_simp; (try with_reducible rfl)
        try simp only [List.getElem_toArray, List.getElem_cons_zero, List.getElem_cons_succ, Act.put, List.setIfInBounds_toArray, List.set_cons_zero, List.set_cons_succ]
        refine wpAnyH_take (i := 6) (v := ?_) rfl (by kernel_rfl) (by kernel_rfl) (by kernel_rfl) (fun _ _ _ h => h) (Or.inl ⟨by rfl, ?_⟩) hS ?_
        rotate_left
        · intro wS hW; (try dsimp only at hW); obtain ⟨W0, W1, W2, W3⟩ := hW; go_simp; (try with_reducible rfl)
        try simp only [List.getElem_toArray, List.getElem_cons_zero, List.getElem_cons_succ, Act.put, List.setIfInBounds_toArray, List.set_cons_zero, List.set_cons_succ]
        refine wpAnyH_take (i := 7) (v := ?_) rfl (by kernel_rfl) (by kernel_rfl) (by kernel_rfl) (fun _ _ _ h => h) (Or.inl ⟨by rfl, ?_⟩) hS ?_
        rotate_left
        · intro wS hW; (try dsimp only at hW); obtain ⟨W0, W1, W2, W3⟩ := hW; go_simp; (try with_reducible rfl)
        try simp only [List.getElem_toArray, List.getElem_cons_zero, List.getElem_cons_succ, Act.put, List.setIfInBounds_toArray, List.set_cons_zero, List.set_cons_succ]
        refine wpAnyH_take (i := 8) (v := ?_) rfl (by kernel_rfl) (by kernel_rfl) (by kernel_rfl) (fun _ _ _ h => h) (Or.inl ⟨by rfl, ?_⟩) hS ?_
        rotate_left
        · intro wS hW; (try dsimp only at hW); obtain ⟨W0, W1, W2, W3⟩ := hW; go_simp; (try with_reducible rfl)
        try simp only [List.getElem_toArray, List.getElem_cons_zero, List.getElem_cons_succ, Act.put, List.setIfInBounds_toArray, List.set_cons_zero, List.set_cons_succ]
        refine wpAnyH_ready (rs := [9]) (by kernel_rfl) (by simp) ?_
        refine AllReadyH.cons rfl (fun K hK => ?_) AllReadyH.nil
        try simp only [List.getElem_toArray, List.getElem_cons_zero, List.getElem_cons_succ, Act.put, List.setIfInBounds_toArray, List.set_cons_zero, List.set_cons_succ]
        go_simp
        refine (step_calls _ q g q2 g2 ws c k a x y HP4.out.drew).mono ?_
        rintro e w5 ⟨rfl, ws', c', hl, hP, hK⟩
        have HP5 := Aside0.mk hP
        have HL5 := Aside0.mk hl
        have HB5 := Aside0.mk (Keep4.below HB4.out hK.undrew HB4.out.size HQ4.out.1 HQ4.out.2.1 Q2 G2)
        clear hP hl hK
        refine hK.out _ _ (by first | exact (KS.out _ HB5.out) | (dsimp only; exact (KS.out _ HB5.out))) (fun hS2 => ?_)
        clear hS hK K
        have hS := hS2
        clear hS2
        try simp only [List.getElem_toArray, List.getElem_cons_zero, List.getElem_cons_succ, Act.put, List.setIfInBounds_toArray, List.set_cons_zero, List.set_cons_succ]
        refine held_less (S' := fun w' => w'.cell? ⟨q2, 1, none⟩ = some (.int .i64 c') ∧ Below w.heap.size w w') (fun w' h => KS.out _ h.2) _ _ _ _ ?_
        replace hS : (fun w' : World => w'.cell? ⟨q2, 1, none⟩ = some (.int .i64 c') ∧ Below w.heap.size w w') w5 := ⟨HP5.out.r.c1, HB5.out⟩
        refine wpAnyH_take (i := 10) (v := ?_) rfl (by kernel_rfl) (by kernel_rfl) (by kernel_rfl) (fun _ _ _ h => h) (Or.inl ⟨by rfl, ?_⟩) hS ?_
        rotate_left
        · intro wS hW; (try dsimp only at hW); obtain ⟨W0, W1⟩ := hW; go_simp; (try with_reducible rfl)
        try simp only [List.getElem_toArray, List.getElem_cons_zero, List.getElem_cons_succ, Act.put, List.setIfInBounds_toArray, List.set_cons_zero, List.set_cons_succ]
        refine wpAnyH_take (i := 11) (v := ?_) rfl (by kernel_rfl) (by kernel_rfl) (by kernel_rfl) (fun _ _ _ h => h) (Or.inl ⟨by rfl, ?_⟩) hS ?_
        rotate_left
        · intro wS hW; (try dsimp only at hW); obtain ⟨W0, W1⟩ := hW; go_simp; (try with_reducible rfl)
        try simp only [List.getElem_toArray, List.getElem_cons_zero, List.getElem_cons_succ, Act.put, List.setIfInBounds_toArray, List.set_cons_zero, List.set_cons_succ]
        refine wpAnyH_take (i := 12) (v := ?_) rfl (by kernel_rfl) (by kernel_rfl) (by kernel_rfl) (fun _ _ _ h => h) (Or.inl ⟨by rfl, ?_⟩) hS ?_
        rotate_left
        · intro wS hW; (try dsimp only at hW); obtain ⟨W0, W1⟩ := hW; go_simp; (try with_reducible rfl)
        try simp only [List.getElem_toArray, List.getElem_cons_zero, List.getElem_cons_succ, Act.put, List.setIfInBounds_toArray, List.set_cons_zero, List.set_cons_succ]
        refine wpAnyH_take (i := 13) (v := ?_) rfl (by kernel_rfl) (by kernel_rfl) (by kernel_rfl) (fun _ _ _ h => h) (Or.inl ⟨by rfl, ?_⟩) hS ?_
        rotate_left
        · intro wS hW; (try dsimp only at hW); obtain ⟨W0, W1⟩ := hW; go_simp; (try with_reducible rfl)
        try simp only [List.getElem_toArray, List.getElem_cons_zero, List.getElem_cons_succ, Act.put, List.setIfInBounds_toArray, List.set_cons_zero, List.set_cons_succ]
        refine wpAnyH_take (i := 15) (v := ?_) rfl (by kernel_rfl) (by kernel_rfl) (by kernel_rfl) (fun _ _ _ h => h) (Or.inl ⟨by rfl, ?_⟩) hS ?_
        rotate_left
        · intro wS hW; (try dsimp only at hW); obtain ⟨W0, W1⟩ := hW; go_simp; (try with_reducible rfl)
        try simp only [List.getElem_toArray, List.getElem_cons_zero, List.getElem_cons_succ, Act.put, List.setIfInBounds_toArray, List.set_cons_zero, List.set_cons_succ]
        refine wpAnyH_take (i := 16) (v := ?_) rfl (by kernel_rfl) (by kernel_rfl) (by kernel_rfl) (fun _ _ _ h => h) (Or.inl ⟨by rfl, ?_⟩) hS ?_
        rotate_left
        · intro wS hW; (try dsimp only at hW); obtain ⟨W0, W1⟩ := hW; go_simp; (try with_reducible rfl)
        try simp only [List.getElem_toArray, List.getElem_cons_zero, List.getElem_cons_succ, Act.put, List.setIfInBounds_toArray, List.set_cons_zero, List.set_cons_succ]
        refine wpAnyH_take (i := 17) (v := ?_) rfl (by kernel_rfl) (by kernel_rfl) (by kernel_rfl) (fun _ _ _ h => h) (Or.inl ⟨by rfl, ?_⟩) hS ?_
        rotate_left
        · intro wS hW; (try dsimp only at hW); obtain ⟨W0, W1⟩ := hW; go_simp; (try with_reducible rfl)
        try simp only [List.getElem_toArray, List.getElem_cons_zero, List.getElem_cons_succ, Act.put, List.setIfInBounds_toArray, List.set_cons_zero, List.set_cons_succ]
        refine wpAnyH_take (i := 18) (v := ?_) rfl (by kernel_rfl) (by kernel_rfl) (by kernel_rfl) (fun _ _ _ h => h) (Or.inl ⟨by rfl, ?_⟩) hS ?_
        rotate_left
        · intro wS hW; (try dsimp only at hW); obtain ⟨W0, W1⟩ := hW; go_simp; (try with_reducible rfl)
        try simp only [List.getElem_toArray, List.getElem_cons_zero, List.getElem_cons_succ, Act.put, List.setIfInBounds_toArray, List.set_cons_zero, List.set_cons_succ]
        refine wpAnyH_ready (rs := [14]) (by kernel_rfl) (by simp) ?_
        refine AllReadyH.cons rfl (fun K hK => ?_) AllReadyH.nil
        try simp only [List.getElem_toArray, List.getElem_cons_zero, List.getElem_cons_succ, Act.put, List.setIfInBounds_toArray, List.set_cons_zero, List.set_cons_succ]
        go_simp
        refine (count_calls _ q g _ _ HP5.out.m).mono ?_
        rintro e w6 ⟨rfl, rfl⟩
        refine hK.out _ _ (by first | exact hS | (dsimp only; exact hS)) (fun hS2 => ?_)
        clear hS hK K
        have hS := hS2
        clear hS2
        try simp only [List.getElem_toArray, List.getElem_cons_zero, List.getElem_cons_succ, Act.put, List.setIfInBounds_toArray, List.set_cons_zero, List.set_cons_succ]
        refine wpAnyH_take (i := 19) (v := ?_) rfl (by kernel_rfl) (by kernel_rfl) (by kernel_rfl) (fun _ _ _ h => h) (Or.inl ⟨by rfl, ?_⟩) hS ?_
        rotate_left
        · intro wS hW; (try dsimp only at hW); obtain ⟨W0, W1⟩ := hW; go_simp; (try with_reducible rfl)
        try simp only [List.getElem_toArray, List.getElem_cons_zero, List.getElem_cons_succ, Act.put, List.setIfInBounds_toArray, List.set_cons_zero, List.set_cons_succ]
        refine wpAnyH_take (i := 20) (v := ?_) rfl (by kernel_rfl) (by kernel_rfl) (by kernel_rfl) (fun _ _ _ h => h) (Or.inl ⟨by rfl, ?_⟩) hS ?_
        rotate_left
        · intro wS hW; (try dsimp only at hW); obtain ⟨W0, W1⟩ := hW; go_simp; (try with_reducible rfl)
        try simp only [List.getElem_toArray, List.getElem_cons_zero, List.getElem_cons_succ, Act.put, List.setIfInBounds_toArray, List.set_cons_zero, List.set_cons_succ]
        refine wpAnyH_done (by kernel_rfl) ?_ _
        clear hS
        go_wp2_with fail
        go_roundg gk
        case measure => omega
        case rel =>
          obtain ⟨hi0, hik, hlt⟩ := HI.out
          have hn := HN.out
          exact ⟨i + 1, q, g, ws', c', rfl, by rw [w64 (by omega) (by omega)], by omega, by omega, ⟨HP5.out⟩, ⟨by rw [HL5.out]; exact HW.out.1, HQ4.out.1, HQ4.out.2.1⟩, HB5.out⟩
    · have hd : decide (i < (m : Int)) = false := decide_eq_false hlt
      have hr0 := HP.out.r.c0
      have HB := Aside0.mk hbel
      have HC := Aside0.mk HP.out.r.C
      have HL := Aside0.mk (show ws.length ≤ 1048576 by have := HN.out; have := HW.out; omega)
      have HNl : Aside0 (((ws.length : Nat) : Int) = n) := ⟨HW.out.1⟩
      clear hi0 hik hlt hbel
      go_wp2_with fail
      go_region_held3 (fun w' => w'.cell? ⟨q2, 0, none⟩ = some (.slice (some ⟨g2, 0, none⟩) ws.length ws.length))
        (first | exact hr0 | exact (HP.out.r.below (below_drew (Below.refl _ _)) HP.out.r.lq HP.out.r.lg).c0 | exact hS7 | exact hS8 | exact hS9)
        (first
          | (go_at_call 10; refine (len_to HP.out.m.drew n HNl.out).mono ?_; rintro e w7 ⟨rfl, rfl⟩)
          | (go_at_call 15; refine (words_to HP.out.m.drew ws.length rfl HL.out).mono ?_; rintro e w7 ⟨b, rfl, hC7, hB7⟩; have HB7 := Aside0.mk (Below.trans (below_drew (Below.refl wr.heap.size wr)) hB7); have HC7 := Aside0.mk hC7; have hS7 := (HP.out.r.below HB7.out HP.out.r.lq HP.out.r.lg).c0; clear hC7 hB7)
          | (go_at_call 16; refine (same_calls ws.length _ _ ws.length ws.length ws _ HC7.out (Nat.le_refl _) (Kd.C_below HC.out HB7.out) (Nat.le_refl _)).mono ?_; rintro e w8 ⟨rfl, ⟨nd, rfl⟩⟩; have HB8 := Aside0.mk (pw_below_drewN HB7.out nd); have hS8 := (HP.out.r.below HB8.out HP.out.r.lq HP.out.r.lg).c0)
          | (go_at_call 8; refine (lives_calls _).mono ?_; rintro e w9 ⟨rfl, hB9⟩; have HB9 := Aside0.mk (HB8.out.trans (hB9.mono HB8.out.size)); have hS9 := (HP.out.r.below HB9.out HP.out.r.lq HP.out.r.lg).c0; clear hB9))
      go_wp2_with fail
      go_ret
      exact ⟨rfl, HB.out.trans (HB9.out.mono HB.out.size)⟩
theorem plays_walk (n : Int) (A0 : Option Addr) (c0 m : Nat) (w : World) (hA : ActsAt w A0 m) : Calls Try.prog 6 #[.int .i64 n, .slice A0 m c0] w fun e w' => e = .returned (.bool true) ∧ Below w.heap.size w w' := by
  by_cases h : 2000 < n ∨ 200 < (m : Int)
  · exact bad_walk n A0 c0 m w h
  · by_cases h1 : n < 1
    · exact none_walk n A0 c0 m w h1 (by omega)
    · exact main_walk n A0 c0 m w (by omega) (by omega) (by omega) hA

end Go.Proofs.Ytahkfgeaegdbjaa.X

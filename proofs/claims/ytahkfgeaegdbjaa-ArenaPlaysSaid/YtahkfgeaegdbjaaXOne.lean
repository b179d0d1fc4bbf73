/- An access changes at most the word at its address, and is counted once: the walk by hand. Conditions: none. -/
import Derived.Test.YtahkfgeaegdbjaaXSt
namespace Go.Proofs.Ytahkfgeaegdbjaa.X
open Go.RowKit Go.Proofs.Ytahkfgeaegdbjaa.Yassartlaw01_Ints_Same Go.Proofs.YtahkfgeaegdbjaaW.PrintWords Go.Proofs.YtahkfgeaegdbjaaW.PrintLast Go.Proofs.YtahkfgeaegdbjaaW.PrintMore
set_option linter.unusedVariables false
set_option linter.unusedSimpArgs false

theorem words_to {w : World} {q g : Nat} {ws : List Int} {c : Int} (h : Ar w q g ws c) (n : Nat) (hn : ws.length = n) (hl : n ≤ 1048576) : Calls Try.prog 15 #[.pointer (some ⟨q, 0, none⟩)] w fun e w' => ∃ b, e = .returned (.slice (some ⟨b, 0, none⟩) n n) ∧ Kd.C (Kd.int .i64) w' (some ⟨b, 0, none⟩) n ws ∧ Below w.heap.size w w' := by
  subst hn
  refine (words_calls w q g ws c h hl).mono ?_
  rintro e w' ⟨b, rfl, hown, _, _, hB⟩
  exact ⟨b, rfl, (Kd.R_reads' (Kd.R_of_own (enc := Value.int .i64) (h1 := fun _ => rfl) (ok := fun _ => True) hown (fun _ _ => trivial))).2.2, hB⟩
theorem load_acc {w : World} {q g : Nat} {ws : List Int} {c : Int} (h : Ar w q g ws c) (a : Int) : Calls Try.prog 14 #[.pointer (some ⟨q, 0, none⟩), .int .i64 a] w fun e w' => ∃ ws3 t r, e = .returned (.tuple #[.int .i64 t, .int .i64 r]) ∧ Ar w' q g ws3 (cntN ws c a) ∧ Near ws ws3 a ∧ Keep w w' q g := by
  refine (load_calls w q g ws c a h).mono ?_
  rintro e w' ⟨rfl, h1, h2⟩
  exact ⟨_, _, _, rfl, h1, Near.set _ _ _, h2⟩
theorem store_acc {w : World} {q g : Nat} {ws : List Int} {c : Int} (h : Ar w q g ws c) (a x : Int) : Calls Try.prog 17 #[.pointer (some ⟨q, 0, none⟩), .int .i64 a, .int .i64 x] w fun e w' => ∃ ws3 r, e = .returned (.int .i64 r) ∧ Ar w' q g ws3 (cntN ws c a) ∧ Near ws ws3 a ∧ Keep w w' q g := by
  refine (store_calls w q g ws c a x h).mono ?_
  rintro e w' ⟨rfl, h1, h2⟩
  exact ⟨_, _, rfl, h1, Near.set _ _ _, h2⟩
theorem swap_acc {w : World} {q g : Nat} {ws : List Int} {c : Int} (h : Ar w q g ws c) (a x y : Int) : Calls Try.prog 18 #[.pointer (some ⟨q, 0, none⟩), .int .i64 a, .int .i64 x, .int .i64 y] w fun e w' => ∃ ws3 t r, e = .returned (.tuple #[.int .i64 t, .int .i64 r]) ∧ Ar w' q g ws3 (cntN ws c a) ∧ Near ws ws3 a ∧ Keep w w' q g := by
  refine (swap_calls w q g ws c a x y h).mono ?_
  rintro e w' ⟨rfl, h1, h2⟩
  exact ⟨_, _, _, rfl, h1, Near.set _ _ _, h2⟩
theorem bump_acc {w : World} {q g : Nat} {ws : List Int} {c : Int} (h : Ar w q g ws c) (a x : Int) : Calls Try.prog 13 #[.pointer (some ⟨q, 0, none⟩), .int .i64 a, .int .i64 x] w fun e w' => ∃ ws3 t r, e = .returned (.tuple #[.int .i64 t, .int .i64 r]) ∧ Ar w' q g ws3 (cntN ws c a) ∧ Near ws ws3 a ∧ Keep w w' q g := by
  refine (bump_calls w q g ws c a x h).mono ?_
  rintro e w' ⟨rfl, h1, h2⟩
  exact ⟨_, _, _, rfl, h1, Near.set _ _ _, h2⟩

theorem count_to {w : World} {q g : Nat} {ws : List Int} {c : Int} (h : Ar w q g ws c) (n : Int) (hn : c = n) : Calls Try.prog 11 #[.pointer (some ⟨q, 0, none⟩)] w fun e w' => e = .returned (.int .i64 n) ∧ w' = w := by
  subst hn
  exact count_calls w q g ws c h
set_option maxHeartbeats 4000000 in
theorem one_walk (A0 : Option Addr) (c0 : Nat) (l0 : List Int) (k a x y : Int) (w : World) (hC : Kd.C (Kd.int .i64) w A0 l0.length l0) (hc : l0.length ≤ c0) :
    Calls Try.prog 5 #[.slice A0 l0.length c0, .agg #[.int .i64 k, .int .i64 a, .int .i64 x, .int .i64 y]] w fun e w' => e = .returned (.bool true) ∧ Below w.heap.size w w' := by
  by_cases g0 : (l0.length : Int) < 1
  · have b0 : decide ((l0.length : Int) < 1) = true := decide_eq_true g0
    clear g0 hC hc
    go_enter Try.func5, Try.ntmps5
    go_wp2_with (go_at_call 8; refine (lives_calls _).mono ?_; rintro e w1 ⟨rfl, hB⟩)
    go_ret
    exact ⟨rfl, ((Below.refl w.heap.size w).alloc (Nat.le_refl _) _).trans (hB.mono (by simp))⟩
  have b0 : decide ((l0.length : Int) < 1) = false := decide_eq_false g0
  by_cases g1 : (300 : Int) < (l0.length : Int)
  · have b1 : decide ((300 : Int) < (l0.length : Int)) = true := decide_eq_true g1
    clear g0 g1 hC hc
    go_enter Try.func5, Try.ntmps5
    go_wp2_with (go_at_call 8; refine (lives_calls _).mono ?_; rintro e w1 ⟨rfl, hB⟩)
    go_ret
    exact ⟨rfl, ((Below.refl w.heap.size w).alloc (Nat.le_refl _) _).trans (hB.mono (by simp))⟩
  have b1 : decide ((300 : Int) < (l0.length : Int)) = false := decide_eq_false g1
  have HC := Aside0.mk (Kd.C_below hC ((Below.refl w.heap.size w).alloc (Nat.le_refl _) (.cells #[.int .i64 k, .int .i64 a, .int .i64 x, .int .i64 y] 36)))
  have HL := Aside0.mk (And.intro hc (And.intro (show 1 ≤ l0.length by omega) (show l0.length ≤ 300 by omega)))
  clear g0 g1 hC hc
  have hk : k = 0 ∨ k = 1 ∨ k = 2 ∨ ((k == 0) = false ∧ (k == 1) = false ∧ (k == 2) = false) := by
    by_cases e0 : k = 0
    · exact .inl e0
    by_cases e1 : k = 1
    · exact .inr (.inl e1)
    by_cases e2 : k = 2
    · exact .inr (.inr (.inl e2))
    exact .inr (.inr (.inr ⟨beq_eq_false_iff_ne.2 e0, beq_eq_false_iff_ne.2 e1, beq_eq_false_iff_ne.2 e2⟩))
  rcases hk with rfl | rfl | rfl | ⟨k0, k1, k2⟩
  all_goals
    go_enter Try.func5, Try.ntmps5
    go_wp2_with (first
      | (go_at_call 12; refine (filled_calls A0 c0 l0 _ HC.out HL.out.2.1 HL.out.2.2).mono ?_; rintro e w1 ⟨q, g, rfl, hA, hq, hg, hB⟩; have S1 := Aside0.mk (St.start hA hq hg hB); clear hA hq hg hB)
      | (go_at_call 15; refine (words_to S3.out.ar l0.length N3.out.1 (by have := HL.out; omega)).mono ?_; rintro e w4 ⟨b', rfl, hC4, hB4⟩; have S4 := Aside0.mk (S3.out.grow hB4); have C4 := Aside0.mk hC4; clear hC4 hB4)
      | (go_at_call 15; refine (words_to S1.out.ar l0.length rfl (by have := HL.out; omega)).mono ?_; rintro e w2 ⟨b, rfl, hC2, hB2⟩; have S2 := Aside0.mk (S1.out.grow hB2); have C2 := Aside0.mk hC2; clear hC2 hB2)
      | (go_at_call 16; refine (same_calls l0.length _ A0 l0.length c0 l0 _ C2.out (Nat.le_refl _) (Kd.C_below HC.out S2.out.bel) HL.out.1).mono ?_; rintro e w' ⟨rfl, ⟨nd, rfl⟩⟩; have S2' := Aside0.mk (S2.out.grow (pw_below_drewN (Below.refl _ _) nd)); have x0 := S2'.out.b0; have x1 := S2'.out.b1; have x2 := S2'.out.b2; have x3 := S2'.out.b3)
      | (go_at_call 11; refine (count_calls _ q g _ _ S2'.out.ar).mono ?_; rintro e w5 ⟨rfl, rfl⟩)
      | (go_at_call 14; refine (load_acc S2'.out.ar a).mono ?_; rintro e w3 ⟨ws3, t3, r3, rfl, hA3, hN3, hK3⟩; have S3 := Aside0.mk (S2'.out.keep hK3 hA3); have N3 := Aside0.mk hN3; clear hA3 hN3 hK3)
      | (go_at_call 17; refine (store_acc S2'.out.ar a x).mono ?_; rintro e w3 ⟨ws3, r3, rfl, hA3, hN3, hK3⟩; have S3 := Aside0.mk (S2'.out.keep hK3 hA3); have N3 := Aside0.mk hN3; clear hA3 hN3 hK3)
      | (go_at_call 18; refine (swap_acc S2'.out.ar a x y).mono ?_; rintro e w3 ⟨ws3, t3, r3, rfl, hA3, hN3, hK3⟩; have S3 := Aside0.mk (S2'.out.keep hK3 hA3); have N3 := Aside0.mk hN3; clear hA3 hN3 hK3)
      | (go_at_call 13; refine (bump_acc S2'.out.ar a x).mono ?_; rintro e w3 ⟨ws3, t3, r3, rfl, hA3, hN3, hK3⟩; have S3 := Aside0.mk (S2'.out.keep hK3 hA3); have N3 := Aside0.mk hN3; clear hA3 hN3 hK3))
    clear x0 x1 x2 x3
    go_loopg [8] l0.length (fun kq v8 w' => ∃ (i : Int), v8 = .int .i64 i ∧ 0 ≤ i ∧ i + (kq : Int) = l0.length ∧ Below w4.heap.size w4 w')
    case atStart => exact ⟨0, rfl, by omega, by omega, by repeat (first | exact Below.refl _ _ | apply Below.drew | apply pw_below_drewN)⟩
    case round =>
      obtain ⟨i, rfl, hi0, hik, hbel⟩ := hrel
      have S5 := Aside0.mk (S4.out.grow hbel)
      have y1 := S5.out.b1
      by_cases hlt : i < (l0.length : Int)
      · have hd : decide (i < (l0.length : Int)) = true := decide_eq_true hlt
        obtain ⟨gk, rfl⟩ : ∃ m, gk = m + 1 := ⟨gk - 1, by omega⟩
        have HM := Aside0.mk (And.intro hi0 (And.intro hik hlt))
        by_cases ea : i = a
        · subst ea
          clear hi0 hik hlt
          go_wp2
          go_quiet (fail)
          go_wp2
          go_roundg gk
          case measure => omega
          case rel =>
            obtain ⟨hi0, hik, hlt⟩ := HM.out
            have := HL.out
            exact ⟨i + 1, by rw [w64 (by omega) (by omega)], by omega, by omega, by repeat (first | exact hbel | apply Below.drew | apply pw_below_drewN)⟩
        · have hne : (i != a) = true := bne_iff_ne.2 ea
          have hne2 : (i == a) = false := beq_eq_false_iff_ne.2 ea
          obtain ⟨ad, ead, hx⟩ := Kd.at_int (Kd.C_below HC.out S5.out.bel) i hi0 hlt
          cases ead
          obtain ⟨ad2, ead2, hy⟩ := Kd.at_int (Kd.C_below C4.out hbel) i hi0 hlt
          cases ead2
          rw [N3.out.2 i hi0 hlt ea, Addr.add_lit, Nat.zero_add] at hy
          have p0 : (0 ≤ i) = True := eq_true hi0
          have q0 : (i < (l0.length : Int)) = True := eq_true hlt
          clear ea hi0 hik hlt
          go_wp2
          go_quiet (fail)
          go_wp2
          go_roundg gk
          case measure => omega
          case rel =>
            obtain ⟨hi0, hik, hlt⟩ := HM.out
            have := HL.out
            exact ⟨i + 1, by rw [w64 (by omega) (by omega)], by omega, by omega, by repeat (first | exact hbel | apply Below.drew | apply pw_below_drewN)⟩
      · have hd : decide (i < (l0.length : Int)) = false := decide_eq_false hlt
        clear hi0 hik hlt hbel
        by_cases e0 : 0 ≤ a
        · have d0 : decide (0 ≤ a) = true := decide_eq_true e0
          by_cases e1 : a < (l0.length : Int)
          · have d1 : decide (a < (l0.length : Int)) = true := decide_eq_true e1
            have HN : Aside0 (cntN l0 (l0.length : Int) a = wrap64 ((l0.length : Int) + 1)) := ⟨if_pos ⟨e0, e1⟩⟩
            clear e0 e1
            go_wp2_with (first | (go_at_call 11; refine (count_to S5.out.ar _ HN.out).mono ?_; rintro e w5 ⟨rfl, rfl⟩) | (go_at_call 8; refine (lives_calls _).mono ?_; rintro e w6 ⟨rfl, hB6⟩))
            go_ret
            have h5 := ((Below.refl w.heap.size w).alloc (Nat.le_refl _) _).trans (S5.out.bel.mono (by simp))
            exact ⟨rfl, h5.trans (hB6.mono h5.size)⟩
          · have d1 : decide (a < (l0.length : Int)) = false := decide_eq_false e1
            have HN : Aside0 (cntN l0 (l0.length : Int) a = (l0.length : Int)) := ⟨if_neg (fun hh => e1 hh.2)⟩
            have hne : ((l0.length : Int) == wrap64 ((l0.length : Int) + 1)) = false := beq_eq_false_iff_ne.2 (by have := HL.out; rw [w64 (by omega) (by omega)]; omega)
            clear e0 e1
            go_wp2_with (first | (go_at_call 11; refine (count_to S5.out.ar _ HN.out).mono ?_; rintro e w5 ⟨rfl, rfl⟩) | (go_at_call 8; refine (lives_calls _).mono ?_; rintro e w6 ⟨rfl, hB6⟩))
            go_ret
            have h5 := ((Below.refl w.heap.size w).alloc (Nat.le_refl _) _).trans (S5.out.bel.mono (by simp))
            exact ⟨rfl, h5.trans (hB6.mono h5.size)⟩
        · have d0 : decide (0 ≤ a) = false := decide_eq_false e0
          have HN : Aside0 (cntN l0 (l0.length : Int) a = (l0.length : Int)) := ⟨if_neg (fun hh => e0 hh.1)⟩
          have hne : ((l0.length : Int) == wrap64 ((l0.length : Int) + 1)) = false := beq_eq_false_iff_ne.2 (by have := HL.out; rw [w64 (by omega) (by omega)]; omega)
          clear e0
          go_wp2_with (first | (go_at_call 11; refine (count_to S5.out.ar _ HN.out).mono ?_; rintro e w5 ⟨rfl, rfl⟩) | (go_at_call 8; refine (lives_calls _).mono ?_; rintro e w6 ⟨rfl, hB6⟩))
          go_ret
          have h5 := ((Below.refl w.heap.size w).alloc (Nat.le_refl _) _).trans (S5.out.bel.mono (by simp))
          exact ⟨rfl, h5.trans (hB6.mono h5.size)⟩

end Go.Proofs.Ytahkfgeaegdbjaa.X

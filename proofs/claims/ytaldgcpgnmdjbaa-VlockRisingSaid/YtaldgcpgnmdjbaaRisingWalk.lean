/- The walk of VlockRising: greater versions have greater words, a fresh word is fresh with any greater limit, and a held word never is. Conditions: none. -/
import Derived.Test.YtaldgcpgnmdjbaaPVlockBackx1
namespace Go.Proofs.Ytaldgcpgnmdjbaa.Pure
set_option linter.unusedVariables false
set_option linter.unusedSimpArgs false
open Go.RowKit Go.Proofs.Ytaldgcpgnmdjbaa.PVlockBack Go.Proofs.YtaldgcpgnmdjbaaW.PrintWords Go.Proofs.YtaldgcpgnmdjbaaW.PrintLast Go.Proofs.YtaldgcpgnmdjbaaW.PrintMore

namespace VlockRisingAid
theorem wf64 {a : Int} (h : (Lit.int .i64 a).wf = true) : -9223372036854775808 ≤ a ∧ a ≤ 9223372036854775807 := by
  simpa [Lit.wf, IntKind.min, IntKind.max, IntKind.bits, IntKind.signed] using h
theorem wraps (n : Int) (h0 : 0 ≤ n) (h1 : n < 2 ^ 63) : IntKind.i64.wrap n = n := by rw [IntKind.wrap_i64]; omega
theorem and1 {a : Int} (h0 : 0 ≤ a) (h1 : a ≤ 9223372036854775807) : Go.bits .and .i64 a 1 = a % 2 :=
  bits_mask .i64 63 (by decide) wraps 1 (by decide) a h0 (by omega)
theorem or1 {a : Int} (h0 : 0 ≤ a) (h1 : a < 64) : Go.bits .or .i64 (wrap64 (a * 2)) 1 = 2 * a + 1 := by
  have e : wrap64 (a * 2) = 2 * a := by unfold wrap64; omega
  rw [e]
  exact bits_join .i64 63 (by decide) wraps 1 (2 * a) 1 (by omega) (by omega) (by omega) (by decide) (by decide) (by decide)
theorem vfree_eq (a : Int) : vlock_Free.f a = some (if a < 0 ∨ 1099511627776 < a then -1 else 2 * a) := by
  unfold vlock_Free.f
  by_cases h : a < 0
  · rw [if_pos h, if_pos (Or.inl h)]
  · rw [if_neg h]
    by_cases h2 : a > 1099511627776
    · rw [if_pos h2, if_pos (Or.inr h2)]
    · rw [if_neg h2, if_neg (by omega)]; congr 1; unfold wrap64; omega
theorem vheld_eq (a : Int) : vlock_Held.f a = some (if a < 0 ∨ 64 ≤ a then -1 else 2 * a + 1) := by
  unfold vlock_Held.f
  by_cases h : a < 0
  · rw [if_pos h, if_pos (Or.inl h)]
  · rw [if_neg h]
    by_cases h2 : a ≥ 64
    · rw [if_pos h2, if_pos (Or.inr h2)]
    · rw [if_neg h2, if_neg (by omega), or1 (by omega) (by omega)]
theorem vversion_eq {a : Int} (h1 : a ≤ 9223372036854775807) : vlock_Version.f a = some (if a < 0 ∨ a % 2 = 1 ∨ 1099511627776 < a / 2 then (0, false) else (a / 2, true)) := by
  unfold vlock_Version.f
  by_cases h : a < 0
  · rw [if_pos h, if_pos (Or.inl h)]
  · rw [if_neg h, and1 (by omega) h1]
    by_cases h2 : a % 2 = 1
    · rw [if_pos h2, if_pos (Or.inr (Or.inl h2))]
    · rw [if_neg h2]
      by_cases h3 : a / 2 > 1099511627776
      · rw [if_pos h3, if_pos (Or.inr (Or.inr h3))]
      · rw [if_neg h3, if_neg (by omega)]
theorem lives_eq : assartlaw05_lives.f = some true := by decide +kernel
theorem vowner_eq {a : Int} (h1 : a ≤ 9223372036854775807) : vlock_Owner.f a = some (if a < 0 ∨ a % 2 = 0 ∨ 64 ≤ a / 2 then (0, false) else (a / 2, true)) := by
  unfold vlock_Owner.f
  by_cases h : a < 0
  · rw [if_pos h, if_pos (Or.inl h)]
  · rw [if_neg h, and1 (by omega) h1]
    by_cases h2 : a % 2 = 0
    · rw [if_pos h2, if_pos (Or.inr (Or.inl h2))]
    · rw [if_neg h2]
      by_cases h3 : a / 2 ≥ 64
      · rw [if_pos h3, if_pos (Or.inr (Or.inr h3))]
      · rw [if_neg h3, if_neg (by omega)]
theorem vfresh_eq {a : Int} (h1 : a ≤ 9223372036854775807) (l : Int) : vlock_Fresh.f a l = some (decide (0 ≤ a ∧ a % 2 = 0 ∧ a / 2 ≤ 1099511627776 ∧ a / 2 ≤ l)) := by
  unfold vlock_Fresh.f
  rw [vversion_eq h1]; simp only [Option.bind_some]
  by_cases h : a < 0 ∨ a % 2 = 1 ∨ 1099511627776 < a / 2
  · rw [if_pos h]
    rw [if_neg (by simp)]
    congr 1; symm; apply decide_eq_false; omega
  · rw [if_neg h]
    rw [if_pos rfl]
    congr 1; apply decide_eq_decide.2; omega
end VlockRisingAid
open VlockRisingAid
attribute [local go_sem] max2_int min2_int max_two min_two max_three min_three max_four min_four

set_option maxHeartbeats 4000000 in
set_option maxRecDepth 100000 in
theorem rising_calls (a0 a1 a2 a3 a4 : Int) (h0 : (Lit.int .i64 a0).wf = true) (h1 : (Lit.int .i64 a1).wf = true) (h2 : (Lit.int .i64 a2).wf = true) (w : World) :
    Calls Try.prog 6 #[.int .i64 a0, .int .i64 a1, .int .i64 a2, .int .i64 a3, .int .i64 a4] w fun e w' => e = .returned (.bool true) ∧ Drawn0 w w' := by
  have hb0 := wf64 h0
  have hb1 := wf64 h1
  have hb2 := wf64 h2
  obtain ⟨t108, A60, T108⟩ : ∃ t, vlock_Free.f a0 = some t ∧ Aside0 (t = if a0 < 0 ∨ 1099511627776 < a0 then -1 else 2 * a0) := ⟨_, vfree_eq a0, ⟨rfl⟩⟩
  obtain ⟨t109, A70, T109⟩ : ∃ t, vlock_Free.f a1 = some t ∧ Aside0 (t = if a1 < 0 ∨ 1099511627776 < a1 then -1 else 2 * a1) := ⟨_, vfree_eq a1, ⟨rfl⟩⟩
  obtain ⟨⟨t110, t111⟩, A120, T110⟩ : ∃ t, vlock_Owner.f a2 = some t ∧ Aside0 (t = if a2 < 0 ∨ a2 % 2 = 0 ∨ 64 ≤ a2 / 2 then ((0, false) : Int × Bool) else (a2 / 2, true)) := ⟨_, vowner_eq hb2.2, ⟨rfl⟩⟩
  obtain ⟨t112, A140, T112⟩ : ∃ t, vlock_Fresh.f a2 a3 = some t ∧ Aside0 (t = decide (0 ≤ a2 ∧ a2 % 2 = 0 ∧ a2 / 2 ≤ 1099511627776 ∧ a2 / 2 ≤ a3)) := ⟨_, vfresh_eq hb2.2 a3, ⟨rfl⟩⟩
  obtain ⟨t114, A150, T114⟩ : ∃ t, vlock_Fresh.f a2 a4 = some t ∧ Aside0 (t = decide (0 ≤ a2 ∧ a2 % 2 = 0 ∧ a2 / 2 ≤ 1099511627776 ∧ a2 / 2 ≤ a4)) := ⟨_, vfresh_eq hb2.2 a4, ⟨rfl⟩⟩
  have A6 := Aside0.mk A60; clear A60
  have A7 := Aside0.mk A70; clear A70
  have A12 := Aside0.mk A120; clear A120
  have A14 := Aside0.mk A140; clear A140
  have A15 := Aside0.mk A150; clear A150
  have AL := Aside0.mk lives_eq
  have K0 : Aside0 (¬ (t111 = true ∧ t112 = true)) := ⟨fun ⟨x, y⟩ => by
    have e1 := T110.out; have e2 := T112.out
    rw [y] at e2; have e2 := of_decide_eq_true e2.symm
    rw [if_pos (by omega)] at e1; simp at e1; rw [e1.2] at x; exact absurd x (by decide)⟩
  have K1 : Aside0 (a3 ≤ a4 → t112 = true → t114 = true) := ⟨fun x y => by
    have e2 := T112.out; have e3 := T114.out
    rw [y] at e2; have e2 := of_decide_eq_true e2.symm
    rw [e3]; apply decide_eq_true; omega⟩
  have K2 : Aside0 (¬ t108 = -1 → ¬ t109 = -1 → (decide (a0 < a1) != decide (t108 < t109)) = false) := ⟨fun x y => by
    have e1 := T108.out; have e2 := T109.out
    by_cases c : a0 < 0 ∨ 1099511627776 < a0
    · rw [if_pos c] at e1; exact absurd e1 x
    · rw [if_neg c] at e1
      by_cases c' : a1 < 0 ∨ 1099511627776 < a1
      · rw [if_pos c'] at e2; exact absurd e2 y
      · rw [if_neg c'] at e2
        rw [e1, e2, bne_eq_false_iff_eq]; apply decide_eq_decide.2; omega⟩
  clear T108 T109 T110 T112 T114 hb0 hb1 hb2 h0 h1 h2
  go_enter Try.func6, Try.ntmps6
  go_upto_region 3 with (first | ((with_reducible refine gate_callee (f := 7) rfl ?_); refine goesL_ (some 16) rfl rfl Try.func7 (by kernel_rfl) rfl #[.int .i64 a0] rfl (by (try simp only [List.map_toArray, List.map_cons, List.map_nil]); first | done | rfl | (simp only [List.length_drop, List.length_take]; rfl)) ?_; (with_reducible refine (vlock_Free.calls a0 t108 _ A6.out).mono ?_); rintro e w' ⟨rfl, ⟨nd, rfl⟩⟩; refine ⟨_, rfl, ?_⟩) | ((with_reducible refine gate_callee (f := 7) rfl ?_); refine goesL_ (some 18) rfl rfl Try.func7 (by kernel_rfl) rfl #[.int .i64 a1] rfl (by (try simp only [List.map_toArray, List.map_cons, List.map_nil]); first | done | rfl | (simp only [List.length_drop, List.length_take]; rfl)) ?_; (with_reducible refine (vlock_Free.calls a1 t109 _ A7.out).mono ?_); rintro e w' ⟨rfl, ⟨nd, rfl⟩⟩; refine ⟨_, rfl, ?_⟩))
  (try simp only [Act.put, List.setIfInBounds_toArray, List.set_cons_zero, List.set_cons_succ])
  go_cut [33] (fun v33 wc => v33 = .bool false ∧ Drawn0 w wc)
  case first =>
    by_cases c9 : t108 = (-1)
    · have c9b0 : (t108 == (-1)) = true := beq_iff_eq.mpr c9
      have c9b1 : (t108 != (-1)) = false := bne_eq_false_iff_eq.mpr c9
      clear c9 K0 K1 K2
      go_wp2
      go_meet
      case rel => exact ⟨rfl, by repeat (first | exact Drawn0.refl _ | apply Drawn0.step)⟩
    · have c9b0 : (t108 == (-1)) = false := beq_eq_false_iff_ne.mpr c9
      have c9b1 : (t108 != (-1)) = true := bne_iff_ne.mpr c9
      by_cases c10 : t109 = (-1)
      · have c10b0 : (t109 == (-1)) = true := beq_iff_eq.mpr c10
        have c10b1 : (t109 != (-1)) = false := bne_eq_false_iff_eq.mpr c10
        clear c10 c9 K0 K1 K2
        go_wp2
        go_meet
        case rel => exact ⟨rfl, by repeat (first | exact Drawn0.refl _ | apply Drawn0.step)⟩
      · have c10b0 : (t109 == (-1)) = false := beq_eq_false_iff_ne.mpr c10
        have c10b1 : (t109 != (-1)) = true := bne_iff_ne.mpr c10
        have k2 := Aside0.mk (K2.out c9 c10)
        clear c10 c9 K0 K1 K2
        go_wp2
        go_meet
        case rel => exact ⟨congrArg Value.bool k2.out, by repeat (first | exact Drawn0.refl _ | apply Drawn0.step)⟩
  case rest =>
    clear K2
    obtain ⟨rfl, ⟨mc7, rfl⟩⟩ := hcut
    by_cases c16 : a3 ≤ a4
    · have c16b0 : decide (a3 ≤ a4) = true := decide_eq_true c16
      cases t112 with
      | true =>
        cases t111 with
        | true => exact absurd ⟨rfl, rfl⟩ K0.out
        | false =>
          obtain rfl : t114 = true := K1.out c16 rfl
          clear K0 K1 c16
          go_wp2_with (first | ((with_reducible refine gate_callee (f := 14) rfl ?_); refine goesL_ (some 36) rfl rfl Try.func14 (by kernel_rfl) rfl #[.int .i64 a2] rfl (by (try simp only [List.map_toArray, List.map_cons, List.map_nil]); first | done | rfl | (simp only [List.length_drop, List.length_take]; rfl)) ?_; (with_reducible refine (vlock_Owner.calls a2 t110 false _ A12.out).mono ?_); rintro e w' ⟨rfl, ⟨nd, rfl⟩⟩; refine ⟨_, rfl, ?_⟩) | (go_at_call 16; (with_reducible refine (vlock_Fresh.calls a2 a4 true _ A15.out).mono ?_); rintro e w' ⟨rfl, ⟨nd, rfl⟩⟩) | (go_at_call 16; (with_reducible refine (vlock_Fresh.calls a2 a3 true _ A14.out).mono ?_); rintro e w' ⟨rfl, ⟨nd, rfl⟩⟩) | ((with_reducible refine gate_callee (f := 11) rfl ?_); refine goesL_ (some 61) rfl rfl Try.func11 (by kernel_rfl) rfl #[] rfl (by (try simp only [List.map_toArray, List.map_cons, List.map_nil]); first | done | rfl | (simp only [List.length_drop, List.length_take]; rfl)) ?_; (with_reducible refine (assartlaw05_lives.calls true _ AL.out).mono ?_); rintro e w' ⟨rfl, ⟨nd, rfl⟩⟩; refine ⟨_, rfl, ?_⟩))
          go_ret
          exact ⟨by first | rfl | (simp; done) | (simp [*]; done), by repeat (first | exact Drawn0.refl _ | apply Drawn0.step)⟩
      | false =>
        clear K0 K1 c16
        cases t111 with
        | true =>
          go_wp2_with (first | ((with_reducible refine gate_callee (f := 14) rfl ?_); refine goesL_ (some 36) rfl rfl Try.func14 (by kernel_rfl) rfl #[.int .i64 a2] rfl (by (try simp only [List.map_toArray, List.map_cons, List.map_nil]); first | done | rfl | (simp only [List.length_drop, List.length_take]; rfl)) ?_; (with_reducible refine (vlock_Owner.calls a2 t110 true _ A12.out).mono ?_); rintro e w' ⟨rfl, ⟨nd, rfl⟩⟩; refine ⟨_, rfl, ?_⟩) | (go_at_call 16; (with_reducible refine (vlock_Fresh.calls a2 a3 false _ A14.out).mono ?_); rintro e w' ⟨rfl, ⟨nd, rfl⟩⟩) | ((with_reducible refine gate_callee (f := 11) rfl ?_); refine goesL_ (some 61) rfl rfl Try.func11 (by kernel_rfl) rfl #[] rfl (by (try simp only [List.map_toArray, List.map_cons, List.map_nil]); first | done | rfl | (simp only [List.length_drop, List.length_take]; rfl)) ?_; (with_reducible refine (assartlaw05_lives.calls true _ AL.out).mono ?_); rintro e w' ⟨rfl, ⟨nd, rfl⟩⟩; refine ⟨_, rfl, ?_⟩))
          go_ret
          exact ⟨by first | rfl | (simp; done) | (simp [*]; done), by repeat (first | exact Drawn0.refl _ | apply Drawn0.step)⟩
        | false =>
          go_wp2_with (first | ((with_reducible refine gate_callee (f := 14) rfl ?_); refine goesL_ (some 36) rfl rfl Try.func14 (by kernel_rfl) rfl #[.int .i64 a2] rfl (by (try simp only [List.map_toArray, List.map_cons, List.map_nil]); first | done | rfl | (simp only [List.length_drop, List.length_take]; rfl)) ?_; (with_reducible refine (vlock_Owner.calls a2 t110 false _ A12.out).mono ?_); rintro e w' ⟨rfl, ⟨nd, rfl⟩⟩; refine ⟨_, rfl, ?_⟩) | (go_at_call 16; (with_reducible refine (vlock_Fresh.calls a2 a3 false _ A14.out).mono ?_); rintro e w' ⟨rfl, ⟨nd, rfl⟩⟩) | ((with_reducible refine gate_callee (f := 11) rfl ?_); refine goesL_ (some 61) rfl rfl Try.func11 (by kernel_rfl) rfl #[] rfl (by (try simp only [List.map_toArray, List.map_cons, List.map_nil]); first | done | rfl | (simp only [List.length_drop, List.length_take]; rfl)) ?_; (with_reducible refine (assartlaw05_lives.calls true _ AL.out).mono ?_); rintro e w' ⟨rfl, ⟨nd, rfl⟩⟩; refine ⟨_, rfl, ?_⟩))
          go_ret
          exact ⟨by first | rfl | (simp; done) | (simp [*]; done), by repeat (first | exact Drawn0.refl _ | apply Drawn0.step)⟩
    · have c16b0 : decide (a3 ≤ a4) = false := decide_eq_false c16
      clear K1 c16
      cases t111 with
      | true =>
        cases t112 with
        | true => exact absurd ⟨rfl, rfl⟩ K0.out
        | false =>
          clear K0
          go_wp2_with (first | ((with_reducible refine gate_callee (f := 14) rfl ?_); refine goesL_ (some 36) rfl rfl Try.func14 (by kernel_rfl) rfl #[.int .i64 a2] rfl (by (try simp only [List.map_toArray, List.map_cons, List.map_nil]); first | done | rfl | (simp only [List.length_drop, List.length_take]; rfl)) ?_; (with_reducible refine (vlock_Owner.calls a2 t110 true _ A12.out).mono ?_); rintro e w' ⟨rfl, ⟨nd, rfl⟩⟩; refine ⟨_, rfl, ?_⟩) | (go_at_call 16; (with_reducible refine (vlock_Fresh.calls a2 a3 false _ A14.out).mono ?_); rintro e w' ⟨rfl, ⟨nd, rfl⟩⟩) | ((with_reducible refine gate_callee (f := 11) rfl ?_); refine goesL_ (some 61) rfl rfl Try.func11 (by kernel_rfl) rfl #[] rfl (by (try simp only [List.map_toArray, List.map_cons, List.map_nil]); first | done | rfl | (simp only [List.length_drop, List.length_take]; rfl)) ?_; (with_reducible refine (assartlaw05_lives.calls true _ AL.out).mono ?_); rintro e w' ⟨rfl, ⟨nd, rfl⟩⟩; refine ⟨_, rfl, ?_⟩))
          go_ret
          exact ⟨by first | rfl | (simp; done) | (simp [*]; done), by repeat (first | exact Drawn0.refl _ | apply Drawn0.step)⟩
      | false =>
        clear K0
        go_wp2_with (first | ((with_reducible refine gate_callee (f := 14) rfl ?_); refine goesL_ (some 36) rfl rfl Try.func14 (by kernel_rfl) rfl #[.int .i64 a2] rfl (by (try simp only [List.map_toArray, List.map_cons, List.map_nil]); first | done | rfl | (simp only [List.length_drop, List.length_take]; rfl)) ?_; (with_reducible refine (vlock_Owner.calls a2 t110 false _ A12.out).mono ?_); rintro e w' ⟨rfl, ⟨nd, rfl⟩⟩; refine ⟨_, rfl, ?_⟩) | ((with_reducible refine gate_callee (f := 11) rfl ?_); refine goesL_ (some 61) rfl rfl Try.func11 (by kernel_rfl) rfl #[] rfl (by (try simp only [List.map_toArray, List.map_cons, List.map_nil]); first | done | rfl | (simp only [List.length_drop, List.length_take]; rfl)) ?_; (with_reducible refine (assartlaw05_lives.calls true _ AL.out).mono ?_); rintro e w' ⟨rfl, ⟨nd, rfl⟩⟩; refine ⟨_, rfl, ?_⟩))
        go_ret
        exact ⟨by first | rfl | (simp; done) | (simp [*]; done), by repeat (first | exact Drawn0.refl _ | apply Drawn0.step)⟩

theorem rising_walk (a0 a1 a2 a3 a4 : Int) (w : World) (w0 : (Lit.int .i64 a0).wf = true) (w1 : (Lit.int .i64 a1).wf = true) (w2 : (Lit.int .i64 a2).wf = true) :
    Calls Try.prog 6 #[.int .i64 a0, .int .i64 a1, .int .i64 a2, .int .i64 a3, .int .i64 a4] w fun e w' => e = .returned (.bool true) ∧ Below w.heap.size w w' := by
  refine (rising_calls a0 a1 a2 a3 a4 w0 w1 w2 w).mono ?_
  rintro e w' ⟨rfl, hd⟩
  exact ⟨rfl, hd.below⟩

end Go.Proofs.Ytaldgcpgnmdjbaa.Pure

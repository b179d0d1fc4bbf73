/- The reference's arena: contracts by hand. Conditions: none. -/
import Derived.Test.YtahkfgeaegdbjaaXWords
namespace Go.Proofs.Ytahkfgeaegdbjaa.X
open Go.RowKit Go.Proofs.YtahkfgeaegdbjaaW.PrintWords
set_option linter.unusedVariables false
set_option linter.unusedSimpArgs false

theorem has_in (w : World) (q g : Nat) (ws : List Int) (c a : Int) (h : Ar w q g ws c) (hr : inR ws a) : Calls Try.prog 31 #[.pointer (some ⟨q, 0, none⟩), .int .i64 a] w fun e w' => e = .returned (.bool true) ∧ w' = w.setCell ⟨q, 1, none⟩ (.int .i64 (wrap64 (c + 1))) := by
  have c0 := h.c0
  have c1 := h.c1
  have f1 := h.f1
  have b0 : decide (a < 0) = false := decide_eq_false (by have := hr.1; omega)
  have b1 : decide ((ws.length : Int) ≤ a) = false := decide_eq_false (by have := hr.2; omega)
  clear h hr
  go_enter Try.func31, Try.ntmps31
  go_wp2
  go_ret
  exact ⟨rfl, rfl⟩
theorem has_out (w : World) (q g : Nat) (ws : List Int) (c a : Int) (h : Ar w q g ws c) (hr : ¬ inR ws a) : Calls Try.prog 31 #[.pointer (some ⟨q, 0, none⟩), .int .i64 a] w fun e w' => e = .returned (.bool false) ∧ w' = w := by
  have c0 := h.c0
  by_cases e : a < 0
  · have b0 : decide (a < 0) = true := decide_eq_true e
    clear h hr e
    go_enter Try.func31, Try.ntmps31
    go_wp2
    go_ret
    exact ⟨rfl, rfl⟩
  · have b0 : decide (a < 0) = false := decide_eq_false e
    have b1 : decide ((ws.length : Int) ≤ a) = true := decide_eq_true (by unfold inR at hr; omega)
    clear h hr e
    go_enter Try.func31, Try.ntmps31
    go_wp2
    go_ret
    exact ⟨rfl, rfl⟩
theorem set_same (ws : List Int) (a : Int) : ws.set a.toNat (rd ws a) = ws := by
  apply List.ext_getElem
  · simp
  · intro j h1 h2
    rw [List.getElem_set]
    by_cases e : a.toNat = j
    · rw [if_pos e]; simp [rd, List.getD, e, h2]
    · rw [if_neg e]

theorem rload_calls (w : World) (q g : Nat) (ws : List Int) (c a : Int) (h : Ar w q g ws c) : Calls Try.prog 27 #[.pointer (some ⟨q, 0, none⟩), .int .i64 a] w fun e w' => e = .returned (.tuple #[.int .i64 (if inR ws a then rd ws a else 0), .int .i64 (if inR ws a then 0 else 3)]) ∧ Ar w' q g (if inR ws a then ws.set a.toNat (rd ws a) else ws) (cntN ws c a) ∧ Keep w w' q g := by
  by_cases hr : inR ws a
  · rw [if_pos hr, cntN, if_pos hr]
    try rw [if_pos hr]
    try rw [if_pos hr]
    have h2 := h.count (wrap64 (c + 1))
    have HA := Aside0.mk h
    have HA2 := Aside0.mk h2
    have l0 := h2.c0
    have la := (h2.at_ a hr.1 hr.2).1
    have lf := (h2.at_ a hr.1 hr.2).2
    have p0 : (0 ≤ a) = True := eq_true hr.1
    have p1 : (a < (ws.length : Int)) = True := eq_true hr.2
    have HR := Aside0.mk hr
    clear h h2 hr
    rw [set_same]
    go_enter Try.func27, Try.ntmps27
    go_wp2_with (go_at_call 31; refine (has_in w q g ws c a HA.out HR.out).mono ?_; rintro e w1 ⟨rfl, rfl⟩)
    go_ret2
    exact ⟨rfl, HA2.out, Keep.set (.inl rfl) _⟩
  · rw [if_neg hr, cntN, if_neg hr]
    try rw [if_neg hr]
    try rw [if_neg hr]
    have HA := Aside0.mk h
    have HR := Aside0.mk hr
    clear h hr
    go_enter Try.func27, Try.ntmps27
    go_wp2_with (go_at_call 31; refine (has_out w q g ws c a HA.out HR.out).mono ?_; rintro e w1 ⟨rfl, rfl⟩)
    go_ret2
    exact ⟨rfl, HA.out, Keep.refl _ _ _⟩

theorem rstore_calls (w : World) (q g : Nat) (ws : List Int) (c a : Int) (x : Int) (h : Ar w q g ws c) : Calls Try.prog 28 #[.pointer (some ⟨q, 0, none⟩), .int .i64 a, .int .i64 x] w fun e w' => e = .returned (.int .i64 (if inR ws a then 0 else 3)) ∧ Ar w' q g (if inR ws a then ws.set a.toNat x else ws) (cntN ws c a) ∧ Keep w w' q g := by
  by_cases hr : inR ws a
  · rw [if_pos hr, cntN, if_pos hr]
    try rw [if_pos hr]
    try rw [if_pos hr]
    have h2 := h.count (wrap64 (c + 1))
    have HA := Aside0.mk h
    have HA2 := Aside0.mk h2
    have l0 := h2.c0
    have la := (h2.at_ a hr.1 hr.2).1
    have lf := (h2.at_ a hr.1 hr.2).2
    have p0 : (0 ≤ a) = True := eq_true hr.1
    have p1 : (a < (ws.length : Int)) = True := eq_true hr.2
    have HR := Aside0.mk hr
    clear h h2 hr
    go_enter Try.func28, Try.ntmps28
    go_wp2_with (go_at_call 31; refine (has_in w q g ws c a HA.out HR.out).mono ?_; rintro e w1 ⟨rfl, rfl⟩)
    go_ret
    exact ⟨rfl, HA2.out.put _ _, (Keep.set (.inl rfl) _).trans (Keep.set (.inr rfl) _)⟩
  · rw [if_neg hr, cntN, if_neg hr]
    try rw [if_neg hr]
    try rw [if_neg hr]
    have HA := Aside0.mk h
    have HR := Aside0.mk hr
    clear h hr
    go_enter Try.func28, Try.ntmps28
    go_wp2_with (go_at_call 31; refine (has_out w q g ws c a HA.out HR.out).mono ?_; rintro e w1 ⟨rfl, rfl⟩)
    go_ret
    exact ⟨rfl, HA.out, Keep.refl _ _ _⟩

theorem rswap_calls (w : World) (q g : Nat) (ws : List Int) (c a : Int) (old x : Int) (h : Ar w q g ws c) : Calls Try.prog 29 #[.pointer (some ⟨q, 0, none⟩), .int .i64 a, .int .i64 old, .int .i64 x] w fun e w' => e = .returned (.tuple #[.int .i64 (if inR ws a then rd ws a else 0), .int .i64 (if inR ws a then 0 else 3)]) ∧ Ar w' q g (if inR ws a then ws.set a.toNat (swN (rd ws a) old x) else ws) (cntN ws c a) ∧ Keep w w' q g := by
  by_cases hr : inR ws a
  · rw [if_pos hr, cntN, if_pos hr]
    try rw [if_pos hr]
    try rw [if_pos hr]
    have h2 := h.count (wrap64 (c + 1))
    have HA := Aside0.mk h
    have HA2 := Aside0.mk h2
    have l0 := h2.c0
    have la := (h2.at_ a hr.1 hr.2).1
    have lf := (h2.at_ a hr.1 hr.2).2
    have p0 : (0 ≤ a) = True := eq_true hr.1
    have p1 : (a < (ws.length : Int)) = True := eq_true hr.2
    have HR := Aside0.mk hr
    clear h h2 hr
    by_cases e : rd ws a = old
    · have b0 : (rd ws a == old) = true := beq_iff_eq.2 e
      rw [show swN (rd ws a) old x = x from if_pos e]
      clear e
      go_enter Try.func29, Try.ntmps29
      go_wp2_with (go_at_call 31; refine (has_in w q g ws c a HA.out HR.out).mono ?_; rintro e w1 ⟨rfl, rfl⟩)
      go_ret2
      exact ⟨rfl, HA2.out.put _ _, (Keep.set (.inl rfl) _).trans (Keep.set (.inr rfl) _)⟩
    · have b0 : (rd ws a == old) = false := beq_eq_false_iff_ne.2 e
      rw [show swN (rd ws a) old x = rd ws a from if_neg e, set_same]
      clear e
      go_enter Try.func29, Try.ntmps29
      go_wp2_with (go_at_call 31; refine (has_in w q g ws c a HA.out HR.out).mono ?_; rintro e w1 ⟨rfl, rfl⟩)
      go_ret2
      exact ⟨rfl, HA2.out, Keep.set (.inl rfl) _⟩
  · rw [if_neg hr, cntN, if_neg hr]
    try rw [if_neg hr]
    try rw [if_neg hr]
    have HA := Aside0.mk h
    have HR := Aside0.mk hr
    clear h hr
    go_enter Try.func29, Try.ntmps29
    go_wp2_with (go_at_call 31; refine (has_out w q g ws c a HA.out HR.out).mono ?_; rintro e w1 ⟨rfl, rfl⟩)
    go_ret2
    exact ⟨rfl, HA.out, Keep.refl _ _ _⟩

theorem rbump_calls (w : World) (q g : Nat) (ws : List Int) (c a : Int) (most : Int) (h : Ar w q g ws c) : Calls Try.prog 30 #[.pointer (some ⟨q, 0, none⟩), .int .i64 a, .int .i64 most] w fun e w' => e = .returned (.tuple #[.int .i64 (if inR ws a then buN (rd ws a) most else 0), .int .i64 (if inR ws a then buE (rd ws a) most else 3)]) ∧ Ar w' q g (if inR ws a then ws.set a.toNat (buN (rd ws a) most) else ws) (cntN ws c a) ∧ Keep w w' q g := by
  by_cases hr : inR ws a
  · rw [if_pos hr, cntN, if_pos hr]
    try rw [if_pos hr]
    try rw [if_pos hr]
    have h2 := h.count (wrap64 (c + 1))
    have HA := Aside0.mk h
    have HA2 := Aside0.mk h2
    have l0 := h2.c0
    have la := (h2.at_ a hr.1 hr.2).1
    have lf := (h2.at_ a hr.1 hr.2).2
    have p0 : (0 ≤ a) = True := eq_true hr.1
    have p1 : (a < (ws.length : Int)) = True := eq_true hr.2
    have HR := Aside0.mk hr
    clear h h2 hr
    by_cases e : most ≤ rd ws a
    · have b0 : decide (most ≤ rd ws a) = true := decide_eq_true e
      rw [show buN (rd ws a) most = rd ws a from if_pos e, show buE (rd ws a) most = 8 from if_pos e, set_same]
      clear e
      go_enter Try.func30, Try.ntmps30
      go_wp2_with (go_at_call 31; refine (has_in w q g ws c a HA.out HR.out).mono ?_; rintro e w1 ⟨rfl, rfl⟩)
      go_ret2
      exact ⟨rfl, HA2.out, Keep.set (.inl rfl) _⟩
    · have b0 : decide (most ≤ rd ws a) = false := decide_eq_false e
      rw [show buN (rd ws a) most = wrap64 (rd ws a + 1) from if_neg e, show buE (rd ws a) most = 0 from if_neg e]
      have h3 := HA2.out.put a.toNat (wrap64 (rd ws a + 1))
      have m0 := h3.c0
      rw [List.length_set] at m0
      have ma : ((w.setCell ⟨q, 1, none⟩ (.int .i64 (wrap64 (c + 1)))).setCell ⟨g, a.toNat, none⟩ (.int .i64 (wrap64 (rd ws a + 1)))).cell? ⟨g, a.toNat, none⟩ = some (.int .i64 (wrap64 (rd ws a + 1))) := World.cell?_setCell_same _ _ _ la
      have H3 := Aside0.mk h3
      clear e h3
      go_enter Try.func30, Try.ntmps30
      go_wp2_with (go_at_call 31; refine (has_in w q g ws c a HA.out HR.out).mono ?_; rintro e w1 ⟨rfl, rfl⟩)
      go_ret2
      exact ⟨rfl, H3.out, (Keep.set (.inl rfl) _).trans (Keep.set (.inr rfl) _)⟩
  · rw [if_neg hr, cntN, if_neg hr]
    try rw [if_neg hr]
    try rw [if_neg hr]
    have HA := Aside0.mk h
    have HR := Aside0.mk hr
    clear h hr
    go_enter Try.func30, Try.ntmps30
    go_wp2_with (go_at_call 31; refine (has_out w q g ws c a HA.out HR.out).mono ?_; rintro e w1 ⟨rfl, rfl⟩)
    go_ret2
    exact ⟨rfl, HA.out, Keep.refl _ _ _⟩

theorem rnew_calls (n : Int) (w : World) (h0 : 1 ≤ n) (h1 : n ≤ 1048576) : Calls Try.prog 19 #[.int .i64 n] w fun e w' => ∃ q g, e = .returned (.pointer (some ⟨q, 0, none⟩)) ∧ Ar w' q g (List.replicate n.toNat 0) 0 ∧ w.heap.size ≤ q ∧ w.heap.size ≤ g ∧ Below w.heap.size w w' := by
  obtain ⟨m, rfl⟩ := Int.eq_ofNat_of_zero_le (show 0 ≤ n by omega)
  have b0 : decide ((m : Int) < 1) = false := decide_eq_false (by omega)
  have b1 : decide ((1048576 : Int) < (m : Int)) = false := decide_eq_false (by omega)
  have HM := Aside0.mk (And.intro h0 h1)
  have hmk := print_make (P := Try.prog) 30 3 .i64 8 Try.underlying30 info3 (by decide) m (by omega)
  clear h0 h1
  go_enter Try.func19, Try.ntmps19
  go_wp2
  go_ret
  have hown := own_made w 0 3 .i64 m (Nat.zero_le _) (by have := HM.out; omega)
  have e : (List.replicate m (0 : Int)).length = m := List.length_replicate
  refine ⟨_, _, rfl, ?_, by simp, Nat.le_refl _, ((Below.refl _ _).alloc (Nat.le_refl _) _).alloc (by simp) _⟩
  have h2 := ar_box (w.alloc (.cells (madeCells #[.int .i64 0] m) 3)) w.heap.size (List.replicate m (0 : Int)) 0 49 (by rw [e]; exact hown) (by simp)
  rw [e] at h2
  simpa using h2
theorem rnew_bad (n : Int) (w : World) (h : n < 1 ∨ 1048576 < n) : Calls Try.prog 19 #[.int .i64 n] w fun e w' => e = .returned (.pointer none) ∧ w' = w := by
  by_cases h0 : n < 1
  · have b0 : decide (n < 1) = true := decide_eq_true h0
    clear h h0
    go_enter Try.func19, Try.ntmps19
    go_wp2
    go_ret
    exact ⟨rfl, rfl⟩
  · have b0 : decide (n < 1) = false := decide_eq_false h0
    have b1 : decide ((1048576 : Int) < n) = true := decide_eq_true (by omega)
    clear h h0
    go_enter Try.func19, Try.ntmps19
    go_wp2
    go_ret
    exact ⟨rfl, rfl⟩

end Go.Proofs.Ytahkfgeaegdbjaa.X

/- Each Go function told here does what the Lean function of its name says, and where a law stands here: it returns true for every input. Conditions: none. Written by a program of this work (wip/tools/xprint.py) out of the translation. -/
import Derived.Test.YtichbeeplpembaaYSlotsOnex0
namespace Go.Proofs.Ytichbeeplpembaa.YSlotsOne
open Go.RowKit Go.Proofs.Ytichbeeplpembaa.X Go.Proofs.YtichbeeplpembaaW.PrintWords Go.Proofs.YtichbeeplpembaaW.PrintLast Go.Proofs.YtichbeeplpembaaW.PrintMore
attribute [local go_sem] max2_int min2_int max_two min_two max_three min_three max_four min_four   -- for this text's walks alone
set_option linter.unusedVariables false
set_option linter.unusedSimpArgs false

-- by hand: function 22 (slots_mask)
/-! ### slots_Has: function 8 -/
def slots_Has.f (a0 : Int) (a1 : Int) : Option (Bool) := (slots_mask.f a1).bind fun t101 => (some ((Go.bits .and .i64 a0 t101) != 0))
set_option maxHeartbeats 8000000 in
set_option maxRecDepth 100000 in
theorem slots_Has.calls (a0 : Int) (a1 : Int) (r : Bool) (w : World) (h : slots_Has.f a0 a1 = some r) :
    Calls Try.prog 8 #[.int .i64 a0, .int .i64 a1] w fun e w' => e = .returned (.bool r) ∧ Drawn0 w w' := by
  have H : ((slots_mask.f a1).bind fun t101 => (some ((Go.bits .and .i64 a0 t101) != 0))) = some r := h
  clear h
  replace H := Option.bind_eq_some_iff.mp H
  obtain ⟨t101, A30, H⟩ := H
  replace H : (some ((Go.bits .and .i64 a0 t101) != 0)) = some r := H
  have A3 := Aside0.mk A30
  clear A30
  obtain rfl := Option.some.inj H
  go_enter Try.func8, Try.ntmps8
  go_wp2_with (first | ((with_reducible refine gate_callee (f := 22) rfl ?_); refine goesL_ (some 7) rfl rfl Try.func22 (by kernel_rfl) rfl #[.int .i64 a1] rfl (by (try simp only [List.map_toArray, List.map_cons, List.map_nil]); first | done | rfl | (simp only [List.length_drop, List.length_take]; rfl)) ?_; (with_reducible refine (slots_mask.calls a1 t101 _ A3.out).mono ?_); rintro e w' ⟨rfl, ⟨nd, rfl⟩⟩; refine ⟨_, rfl, ?_⟩))
  go_ret
  exact ⟨by first | rfl | (simp; done) | (simp [*]; done), by repeat (first | exact Drawn0.refl _ | apply Drawn0.step)⟩

/-! ### slots_Set: function 10 -/
def slots_Set.f (a0 : Int) (a1 : Int) : Option (Int) := (slots_mask.f a1).bind fun t102 => (some (Go.bits .or .i64 a0 t102))
set_option maxHeartbeats 8000000 in
set_option maxRecDepth 100000 in
theorem slots_Set.calls (a0 : Int) (a1 : Int) (r : Int) (w : World) (h : slots_Set.f a0 a1 = some r) :
    Calls Try.prog 10 #[.int .i64 a0, .int .i64 a1] w fun e w' => e = .returned (.int .i64 r) ∧ Drawn0 w w' := by
  have H : ((slots_mask.f a1).bind fun t102 => (some (Go.bits .or .i64 a0 t102))) = some r := h
  clear h
  replace H := Option.bind_eq_some_iff.mp H
  obtain ⟨t102, A30, H⟩ := H
  replace H : (some (Go.bits .or .i64 a0 t102)) = some r := H
  have A3 := Aside0.mk A30
  clear A30
  obtain rfl := Option.some.inj H
  go_enter Try.func10, Try.ntmps10
  go_wp2_with (first | ((with_reducible refine gate_callee (f := 22) rfl ?_); refine goesL_ (some 7) rfl rfl Try.func22 (by kernel_rfl) rfl #[.int .i64 a1] rfl (by (try simp only [List.map_toArray, List.map_cons, List.map_nil]); first | done | rfl | (simp only [List.length_drop, List.length_take]; rfl)) ?_; (with_reducible refine (slots_mask.calls a1 t102 _ A3.out).mono ?_); rintro e w' ⟨rfl, ⟨nd, rfl⟩⟩; refine ⟨_, rfl, ?_⟩))
  go_ret
  exact ⟨by first | rfl | (simp; done) | (simp [*]; done), by repeat (first | exact Drawn0.refl _ | apply Drawn0.step)⟩

/-! ### slots_Clear: function 12 -/
def slots_Clear.f (a0 : Int) (a1 : Int) : Option (Int) := (slots_mask.f a1).bind fun t103 => (some (Go.bits .andNot .i64 a0 t103))
set_option maxHeartbeats 8000000 in
set_option maxRecDepth 100000 in
theorem slots_Clear.calls (a0 : Int) (a1 : Int) (r : Int) (w : World) (h : slots_Clear.f a0 a1 = some r) :
    Calls Try.prog 12 #[.int .i64 a0, .int .i64 a1] w fun e w' => e = .returned (.int .i64 r) ∧ Drawn0 w w' := by
  have H : ((slots_mask.f a1).bind fun t103 => (some (Go.bits .andNot .i64 a0 t103))) = some r := h
  clear h
  replace H := Option.bind_eq_some_iff.mp H
  obtain ⟨t103, A30, H⟩ := H
  replace H : (some (Go.bits .andNot .i64 a0 t103)) = some r := H
  have A3 := Aside0.mk A30
  clear A30
  obtain rfl := Option.some.inj H
  go_enter Try.func12, Try.ntmps12
  go_wp2_with (first | ((with_reducible refine gate_callee (f := 22) rfl ?_); refine goesL_ (some 7) rfl rfl Try.func22 (by kernel_rfl) rfl #[.int .i64 a1] rfl (by (try simp only [List.map_toArray, List.map_cons, List.map_nil]); first | done | rfl | (simp only [List.length_drop, List.length_take]; rfl)) ?_; (with_reducible refine (slots_mask.calls a1 t103 _ A3.out).mono ?_); rintro e w' ⟨rfl, ⟨nd, rfl⟩⟩; refine ⟨_, rfl, ?_⟩))
  go_ret
  exact ⟨by first | rfl | (simp; done) | (simp [*]; done), by repeat (first | exact Drawn0.refl _ | apply Drawn0.step)⟩

-- by hand: function 15 (slots_First)
-- by hand: function 16 (slots_Count)
/-! ### assartlaw04_lives: function 14 -/
def assartlaw04_lives.f  : Option (Bool) := (slots_First.f 11 32).bind fun t104 => (if t104 = 2 then ((slots_Count.f 11 32).bind fun t105 => (if t105 = 3 then ((slots_Set.f 9 1).bind fun t106 => (if t106 = 11 then ((slots_Clear.f 11 1).bind fun t107 => (if t107 = 9 then ((slots_Has.f 8 3).bind fun t108 => (some t108)) else (some false))) else (some false))) else (some false))) else (some false))
set_option maxHeartbeats 8000000 in
set_option maxRecDepth 100000 in
theorem assartlaw04_lives.calls  (r : Bool) (w : World) (h : assartlaw04_lives.f  = some r) :
    Calls Try.prog 14 #[] w fun e w' => e = .returned (.bool r) ∧ Below w.heap.size w w' := by
  have HB := Aside0.mk (Below.refl w.heap.size w)
  have H : ((slots_First.f 11 32).bind fun t104 => (if t104 = 2 then ((slots_Count.f 11 32).bind fun t105 => (if t105 = 3 then ((slots_Set.f 9 1).bind fun t106 => (if t106 = 11 then ((slots_Clear.f 11 1).bind fun t107 => (if t107 = 9 then ((slots_Has.f 8 3).bind fun t108 => (some t108)) else (some false))) else (some false))) else (some false))) else (some false))) = some r := h
  clear h
  replace H := Option.bind_eq_some_iff.mp H
  obtain ⟨t104, A10, H⟩ := H
  replace H : (if t104 = 2 then ((slots_Count.f 11 32).bind fun t105 => (if t105 = 3 then ((slots_Set.f 9 1).bind fun t106 => (if t106 = 11 then ((slots_Clear.f 11 1).bind fun t107 => (if t107 = 9 then ((slots_Has.f 8 3).bind fun t108 => (some t108)) else (some false))) else (some false))) else (some false))) else (some false)) = some r := H
  have A1 := Aside0.mk A10
  clear A10
  by_cases c2 : t104 = 2
  · rw [if_pos c2] at H
    have c2b0 : (t104 == 2) = true := beq_iff_eq.mpr c2
    have c2b1 : (t104 != 2) = false := bne_eq_false_iff_eq.mpr c2
    clear c2
    replace H := Option.bind_eq_some_iff.mp H
    obtain ⟨t105, A30, H⟩ := H
    replace H : (if t105 = 3 then ((slots_Set.f 9 1).bind fun t106 => (if t106 = 11 then ((slots_Clear.f 11 1).bind fun t107 => (if t107 = 9 then ((slots_Has.f 8 3).bind fun t108 => (some t108)) else (some false))) else (some false))) else (some false)) = some r := H
    have A3 := Aside0.mk A30
    clear A30
    by_cases c4 : t105 = 3
    · rw [if_pos c4] at H
      have c4b0 : (t105 == 3) = true := beq_iff_eq.mpr c4
      have c4b1 : (t105 != 3) = false := bne_eq_false_iff_eq.mpr c4
      clear c4
      replace H := Option.bind_eq_some_iff.mp H
      obtain ⟨t106, A50, H⟩ := H
      replace H : (if t106 = 11 then ((slots_Clear.f 11 1).bind fun t107 => (if t107 = 9 then ((slots_Has.f 8 3).bind fun t108 => (some t108)) else (some false))) else (some false)) = some r := H
      have A5 := Aside0.mk A50
      clear A50
      by_cases c6 : t106 = 11
      · rw [if_pos c6] at H
        have c6b0 : (t106 == 11) = true := beq_iff_eq.mpr c6
        have c6b1 : (t106 != 11) = false := bne_eq_false_iff_eq.mpr c6
        clear c6
        replace H := Option.bind_eq_some_iff.mp H
        obtain ⟨t107, A70, H⟩ := H
        replace H : (if t107 = 9 then ((slots_Has.f 8 3).bind fun t108 => (some t108)) else (some false)) = some r := H
        have A7 := Aside0.mk A70
        clear A70
        by_cases c8 : t107 = 9
        · rw [if_pos c8] at H
          have c8b0 : (t107 == 9) = true := beq_iff_eq.mpr c8
          have c8b1 : (t107 != 9) = false := bne_eq_false_iff_eq.mpr c8
          clear c8
          replace H := Option.bind_eq_some_iff.mp H
          obtain ⟨t108, A90, H⟩ := H
          replace H : (some t108) = some r := H
          have A9 := Aside0.mk A90
          clear A90
          obtain rfl := Option.some.inj H
          go_enter Try.func14, Try.ntmps14
          go_wp2_with (first | ((with_reducible refine gate_callee (f := 15) rfl ?_); refine goesL_ (some 1) rfl rfl Try.func15 (by kernel_rfl) rfl #[.int .i64 11, .int .i64 32] rfl (by (try simp only [List.map_toArray, List.map_cons, List.map_nil]); first | done | rfl | (simp only [List.length_drop, List.length_take]; rfl)) ?_; (with_reducible refine (slots_First.calls 11 32 t104 _ A1.out).mono ?_); rintro e w10 ⟨rfl, hb⟩; refine ⟨_, rfl, ?_⟩; have n0_ := Aside0.mk (below_step (by repeat (first | (with_reducible first | exact HB.out | apply below_alloc | apply pw_below_drewN | apply below_drew1) | exact HB.out)) hb); clear HB; have HB := n0_; clear n0_; (try clear hb); (try clear hb2); (try clear hk); (try clear hi)) | (go_at_call 16; (with_reducible refine (slots_Count.calls 11 32 t105 _ A3.out).mono ?_); rintro e w11 ⟨rfl, hb⟩; have n0_ := Aside0.mk (below_step (by repeat (first | (with_reducible first | exact HB.out | apply below_alloc | apply pw_below_drewN | apply below_drew1) | exact HB.out)) hb); clear HB; have HB := n0_; clear n0_; (try clear hb); (try clear hb2); (try clear hk); (try clear hi)) | (go_at_call 10; (with_reducible refine (slots_Set.calls 9 1 t106 _ A5.out).mono ?_); rintro e w' ⟨rfl, ⟨nd, rfl⟩⟩) | (go_at_call 12; (with_reducible refine (slots_Clear.calls 11 1 t107 _ A7.out).mono ?_); rintro e w' ⟨rfl, ⟨nd, rfl⟩⟩) | (go_at_call 8; (with_reducible refine (slots_Has.calls 8 3 t108 _ A9.out).mono ?_); rintro e w' ⟨rfl, ⟨nd, rfl⟩⟩))
          go_ret
          exact ⟨by first | rfl | (simp [errW_none, errW_some] <;> rfl) | (simp [*, errW_none, errW_some] <;> rfl), by repeat (first | (with_reducible first | exact HB.out | apply below_alloc | apply pw_below_drewN | apply below_drew1) | exact HB.out)⟩
        · rw [if_neg c8] at H
          have c8b0 : (t107 == 9) = false := beq_eq_false_iff_ne.mpr c8
          have c8b1 : (t107 != 9) = true := bne_iff_ne.mpr c8
          obtain rfl := Option.some.inj H
          go_enter Try.func14, Try.ntmps14
          go_wp2_with (first | ((with_reducible refine gate_callee (f := 15) rfl ?_); refine goesL_ (some 1) rfl rfl Try.func15 (by kernel_rfl) rfl #[.int .i64 11, .int .i64 32] rfl (by (try simp only [List.map_toArray, List.map_cons, List.map_nil]); first | done | rfl | (simp only [List.length_drop, List.length_take]; rfl)) ?_; (with_reducible refine (slots_First.calls 11 32 t104 _ A1.out).mono ?_); rintro e w12 ⟨rfl, hb⟩; refine ⟨_, rfl, ?_⟩; have n0_ := Aside0.mk (below_step (by repeat (first | (with_reducible first | exact HB.out | apply below_alloc | apply pw_below_drewN | apply below_drew1) | exact HB.out)) hb); clear HB; have HB := n0_; clear n0_; (try clear hb); (try clear hb2); (try clear hk); (try clear hi)) | (go_at_call 16; (with_reducible refine (slots_Count.calls 11 32 t105 _ A3.out).mono ?_); rintro e w13 ⟨rfl, hb⟩; have n0_ := Aside0.mk (below_step (by repeat (first | (with_reducible first | exact HB.out | apply below_alloc | apply pw_below_drewN | apply below_drew1) | exact HB.out)) hb); clear HB; have HB := n0_; clear n0_; (try clear hb); (try clear hb2); (try clear hk); (try clear hi)) | (go_at_call 10; (with_reducible refine (slots_Set.calls 9 1 t106 _ A5.out).mono ?_); rintro e w' ⟨rfl, ⟨nd, rfl⟩⟩) | (go_at_call 12; (with_reducible refine (slots_Clear.calls 11 1 t107 _ A7.out).mono ?_); rintro e w' ⟨rfl, ⟨nd, rfl⟩⟩))
          go_ret
          exact ⟨by first | rfl | (simp [errW_none, errW_some] <;> rfl) | (simp [*, errW_none, errW_some] <;> rfl), by repeat (first | (with_reducible first | exact HB.out | apply below_alloc | apply pw_below_drewN | apply below_drew1) | exact HB.out)⟩
      · rw [if_neg c6] at H
        have c6b0 : (t106 == 11) = false := beq_eq_false_iff_ne.mpr c6
        have c6b1 : (t106 != 11) = true := bne_iff_ne.mpr c6
        obtain rfl := Option.some.inj H
        go_enter Try.func14, Try.ntmps14
        go_wp2_with (first | ((with_reducible refine gate_callee (f := 15) rfl ?_); refine goesL_ (some 1) rfl rfl Try.func15 (by kernel_rfl) rfl #[.int .i64 11, .int .i64 32] rfl (by (try simp only [List.map_toArray, List.map_cons, List.map_nil]); first | done | rfl | (simp only [List.length_drop, List.length_take]; rfl)) ?_; (with_reducible refine (slots_First.calls 11 32 t104 _ A1.out).mono ?_); rintro e w14 ⟨rfl, hb⟩; refine ⟨_, rfl, ?_⟩; have n0_ := Aside0.mk (below_step (by repeat (first | (with_reducible first | exact HB.out | apply below_alloc | apply pw_below_drewN | apply below_drew1) | exact HB.out)) hb); clear HB; have HB := n0_; clear n0_; (try clear hb); (try clear hb2); (try clear hk); (try clear hi)) | (go_at_call 16; (with_reducible refine (slots_Count.calls 11 32 t105 _ A3.out).mono ?_); rintro e w15 ⟨rfl, hb⟩; have n0_ := Aside0.mk (below_step (by repeat (first | (with_reducible first | exact HB.out | apply below_alloc | apply pw_below_drewN | apply below_drew1) | exact HB.out)) hb); clear HB; have HB := n0_; clear n0_; (try clear hb); (try clear hb2); (try clear hk); (try clear hi)) | (go_at_call 10; (with_reducible refine (slots_Set.calls 9 1 t106 _ A5.out).mono ?_); rintro e w' ⟨rfl, ⟨nd, rfl⟩⟩))
        go_ret
        exact ⟨by first | rfl | (simp [errW_none, errW_some] <;> rfl) | (simp [*, errW_none, errW_some] <;> rfl), by repeat (first | (with_reducible first | exact HB.out | apply below_alloc | apply pw_below_drewN | apply below_drew1) | exact HB.out)⟩
    · rw [if_neg c4] at H
      have c4b0 : (t105 == 3) = false := beq_eq_false_iff_ne.mpr c4
      have c4b1 : (t105 != 3) = true := bne_iff_ne.mpr c4
      obtain rfl := Option.some.inj H
      go_enter Try.func14, Try.ntmps14
      go_wp2_with (first | ((with_reducible refine gate_callee (f := 15) rfl ?_); refine goesL_ (some 1) rfl rfl Try.func15 (by kernel_rfl) rfl #[.int .i64 11, .int .i64 32] rfl (by (try simp only [List.map_toArray, List.map_cons, List.map_nil]); first | done | rfl | (simp only [List.length_drop, List.length_take]; rfl)) ?_; (with_reducible refine (slots_First.calls 11 32 t104 _ A1.out).mono ?_); rintro e w16 ⟨rfl, hb⟩; refine ⟨_, rfl, ?_⟩; have n0_ := Aside0.mk (below_step (by repeat (first | (with_reducible first | exact HB.out | apply below_alloc | apply pw_below_drewN | apply below_drew1) | exact HB.out)) hb); clear HB; have HB := n0_; clear n0_; (try clear hb); (try clear hb2); (try clear hk); (try clear hi)) | (go_at_call 16; (with_reducible refine (slots_Count.calls 11 32 t105 _ A3.out).mono ?_); rintro e w17 ⟨rfl, hb⟩; have n0_ := Aside0.mk (below_step (by repeat (first | (with_reducible first | exact HB.out | apply below_alloc | apply pw_below_drewN | apply below_drew1) | exact HB.out)) hb); clear HB; have HB := n0_; clear n0_; (try clear hb); (try clear hb2); (try clear hk); (try clear hi)))
      go_ret
      exact ⟨by first | rfl | (simp [errW_none, errW_some] <;> rfl) | (simp [*, errW_none, errW_some] <;> rfl), by repeat (first | (with_reducible first | exact HB.out | apply below_alloc | apply pw_below_drewN | apply below_drew1) | exact HB.out)⟩
  · rw [if_neg c2] at H
    have c2b0 : (t104 == 2) = false := beq_eq_false_iff_ne.mpr c2
    have c2b1 : (t104 != 2) = true := bne_iff_ne.mpr c2
    obtain rfl := Option.some.inj H
    go_enter Try.func14, Try.ntmps14
    go_wp2_with (first | ((with_reducible refine gate_callee (f := 15) rfl ?_); refine goesL_ (some 1) rfl rfl Try.func15 (by kernel_rfl) rfl #[.int .i64 11, .int .i64 32] rfl (by (try simp only [List.map_toArray, List.map_cons, List.map_nil]); first | done | rfl | (simp only [List.length_drop, List.length_take]; rfl)) ?_; (with_reducible refine (slots_First.calls 11 32 t104 _ A1.out).mono ?_); rintro e w18 ⟨rfl, hb⟩; refine ⟨_, rfl, ?_⟩; have n0_ := Aside0.mk (below_step (by repeat (first | (with_reducible first | exact HB.out | apply below_alloc | apply pw_below_drewN | apply below_drew1) | exact HB.out)) hb); clear HB; have HB := n0_; clear n0_; (try clear hb); (try clear hb2); (try clear hk); (try clear hi)))
    go_ret
    exact ⟨by first | rfl | (simp [errW_none, errW_some] <;> rfl) | (simp [*, errW_none, errW_some] <;> rfl), by repeat (first | (with_reducible first | exact HB.out | apply below_alloc | apply pw_below_drewN | apply below_drew1) | exact HB.out)⟩

/-! ### assartlaw04_SlotsOne: function 4 -/
mutual
def assartlaw04_SlotsOne.j0 : Nat → Int → Int → Int → Bool → Option (Bool)
  | 0, _, _, _, _ => none
  | k + 1, x0, x1, x2, x14 => if x14 = true then ((slots_Set.f x0 x1).bind fun t109 => (if t109 = x0 then ((slots_Clear.f x0 x1).bind fun t110 => (if t110 = x0 then ((slots_Has.f x0 x1).bind fun t111 => (if t111 = true then (some false) else ((assartlaw04_lives.f).bind fun t112 => (some t112)))) else (some false))) else (some false))) else ((slots_Set.f x0 x1).bind fun t113 => ((slots_Clear.f x0 x1).bind fun t114 => ((slots_Has.f t113 x1).bind fun t115 => (if t115 = true then ((slots_Has.f t114 x1).bind fun t116 => (if t116 = true then (assartlaw04_SlotsOne.j1 k x0 x1 t113 t114 true) else (if x2 = x1 then (assartlaw04_SlotsOne.j1 k x0 x1 t113 t114 false) else ((slots_Has.f t113 x2).bind fun t117 => ((slots_Has.f x0 x2).bind fun t118 => (if (t117 != t118) = true then (assartlaw04_SlotsOne.j1 k x0 x1 t113 t114 true) else ((slots_Has.f t114 x2).bind fun t119 => ((slots_Has.f x0 x2).bind fun t120 => (assartlaw04_SlotsOne.j1 k x0 x1 t113 t114 (t119 != t118)))))))))) else (assartlaw04_SlotsOne.j1 k x0 x1 t113 t114 true)))))
def assartlaw04_SlotsOne.j1 : Nat → Int → Int → Int → Int → Bool → Option (Bool)
  | 0, _, _, _, _, _ => none
  | k + 1, x0, x1, x7, x8, x73 => if x73 = true then (some false) else ((slots_Has.f x0 x1).bind fun t121 => (if t121 = true then (if x7 = x0 then ((slots_Set.f x8 x1).bind fun t122 => (if t122 = x0 then ((assartlaw04_lives.f).bind fun t123 => (some t123)) else (some false))) else (some false)) else (if x8 = x0 then ((slots_Clear.f x7 x1).bind fun t124 => (if t124 = x0 then ((assartlaw04_lives.f).bind fun t125 => (some t125)) else (some false))) else (some false))))
end
def assartlaw04_SlotsOne.f (k : Nat) (a0 : Int) (a1 : Int) (a2 : Int) : Option (Bool) := if a1 < 0 then (assartlaw04_SlotsOne.j0 k a0 a1 a2 true) else (assartlaw04_SlotsOne.j0 k a0 a1 a2 (decide (a1 ≥ 32)))
theorem assartlaw04_SlotsOne.mono_l : ∀ k, (∀ y0 y1 y2 y3, LeO (assartlaw04_SlotsOne.j0 k y0 y1 y2 y3) (assartlaw04_SlotsOne.j0 (k + 1) y0 y1 y2 y3)) ∧ (∀ y0 y1 y2 y3 y4, LeO (assartlaw04_SlotsOne.j1 k y0 y1 y2 y3 y4) (assartlaw04_SlotsOne.j1 (k + 1) y0 y1 y2 y3 y4))
  | 0 => ⟨fun _ _ _ _ r h => by simp [assartlaw04_SlotsOne.j0] at h, fun _ _ _ _ _ r h => by simp [assartlaw04_SlotsOne.j1] at h⟩
  | k + 1 => by
    obtain ⟨ih0, ih1⟩ := assartlaw04_SlotsOne.mono_l k
    refine ⟨?_, ?_⟩
    · intro y0 y1 y2 y3
      unfold assartlaw04_SlotsOne.j0
      repeat' first
      | (with_reducible exact ih0 _ _ _ _)
      | (with_reducible exact ih1 _ _ _ _ _)
      | (with_reducible exact LeO.refl _)
      | (with_reducible exact LeO.none _)
      | (with_reducible refine LeO.ite ?_ ?_)
      | (with_reducible refine LeO.bind ?_ (fun _ => ?_))
      | exact ih0 _ _ _ _
      | exact ih1 _ _ _ _ _
      | exact LeO.none _
      | refine LeO.ite ?_ ?_
      | refine LeO.bind ?_ (fun _ => ?_)
    · intro y0 y1 y2 y3 y4
      unfold assartlaw04_SlotsOne.j1
      repeat' first
      | (with_reducible exact ih0 _ _ _ _)
      | (with_reducible exact ih1 _ _ _ _ _)
      | (with_reducible exact LeO.refl _)
      | (with_reducible exact LeO.none _)
      | (with_reducible refine LeO.ite ?_ ?_)
      | (with_reducible refine LeO.bind ?_ (fun _ => ?_))
      | exact ih0 _ _ _ _
      | exact ih1 _ _ _ _ _
      | exact LeO.none _
      | refine LeO.ite ?_ ?_
      | refine LeO.bind ?_ (fun _ => ?_)
theorem assartlaw04_SlotsOne.mono : ∀ a0 a1 a2 k, LeO (assartlaw04_SlotsOne.f k a0 a1 a2) (assartlaw04_SlotsOne.f (k + 1) a0 a1 a2) := by
  intro a0 a1 a2 k
  obtain ⟨ih0, ih1⟩ := assartlaw04_SlotsOne.mono_l k
  unfold assartlaw04_SlotsOne.f
  repeat' first
      | (with_reducible exact ih0 _ _ _ _)
      | (with_reducible exact ih1 _ _ _ _ _)
      | (with_reducible exact LeO.refl _)
      | (with_reducible exact LeO.none _)
      | (with_reducible refine LeO.ite ?_ ?_)
      | (with_reducible refine LeO.bind ?_ (fun _ => ?_))
      | exact ih0 _ _ _ _
      | exact ih1 _ _ _ _ _
      | exact LeO.none _
      | refine LeO.ite ?_ ?_
      | refine LeO.bind ?_ (fun _ => ?_)
set_option maxHeartbeats 8000000 in
set_option maxRecDepth 100000 in
theorem assartlaw04_SlotsOne.calls (k : Nat) (a0 : Int) (a1 : Int) (a2 : Int) (r : Bool) (w : World) (h : assartlaw04_SlotsOne.f k a0 a1 a2 = some r) :
    Calls Try.prog 4 #[.int .i64 a0, .int .i64 a1, .int .i64 a2] w fun e w' => e = .returned (.bool r) ∧ Below w.heap.size w w' := by
  have HB := Aside0.mk (Below.refl w.heap.size w)
  have H : (if a1 < 0 then (assartlaw04_SlotsOne.j0 k a0 a1 a2 true) else (assartlaw04_SlotsOne.j0 k a0 a1 a2 (decide (a1 ≥ 32)))) = some r := h
  clear h
  have HC4 := Aside0.mk H
  clear H
  go_enter Try.func4, Try.ntmps4
  go_upto_region 1 with (fail)
  go_cut [14] (fun v14 wc => ∃ (kq : Nat) (x14_3 : Bool), v14 = .bool x14_3 ∧ Aside0 (assartlaw04_SlotsOne.j0 kq a0 a1 a2 x14_3 = some r) ∧ Aside0 (kq ≤ k) ∧ Aside0 (Below w.heap.size w wc))
  case first =>
    have H := HC4.out
    clear HC4
    by_cases c5 : a1 < 0
    · rw [if_pos c5] at H
      have c5b0 : decide (a1 < 0) = true := decide_eq_true c5
      (try (have c5b1 : decide (0 ≤ a1) = false := decide_eq_false (by omega)))
      clear c5
      (first | rw [c5b0] | (simp only [i64_w, i32_w]; rw [c5b0]) | skip)
      have H' := Aside0.mk H
      clear H
      go_wp2
      go_meet
      case rel => exact ⟨_, (true), (by first | rfl | (simp; done) | (simp [*]; done)), H', ⟨by first | omega | exact Nat.le_refl _⟩, ⟨by repeat (first | (with_reducible first | exact HB.out | apply below_alloc | apply pw_below_drewN | apply below_drew1) | exact HB.out)⟩⟩
    · rw [if_neg c5] at H
      have c5b0 : decide (a1 < 0) = false := decide_eq_false c5
      (try (have c5b1 : decide (0 ≤ a1) = true := decide_eq_true (by omega)))
      clear c5
      (first | rw [c5b0] | (simp only [i64_w, i32_w]; rw [c5b0]) | skip)
      have H' := Aside0.mk H
      clear H
      go_wp2
      go_meet
      case rel => exact ⟨_, (decide (a1 ≥ 32)), (by first | rfl | (simp; done) | (simp [*]; done)), H', ⟨by first | omega | exact Nat.le_refl _⟩, ⟨by repeat (first | (with_reducible first | exact HB.out | apply below_alloc | apply pw_below_drewN | apply below_drew1) | exact HB.out)⟩⟩
  case rest =>
    clear HC4
    try clear p2
    try clear c4
    try clear c5
    try clear c5b0
    try clear c5b1
    obtain ⟨kq, x14_3, rfl, HA, HJ3, HB⟩ := hcut
    cases kq with
    | zero => exact absurd HA.out (by simp [assartlaw04_SlotsOne.j0])
    | succ kj3 =>
      have H := HA.out
      clear HA
      simp only [assartlaw04_SlotsOne.j0] at H
      by_cases c6 : x14_3 = true
      · subst c6
        have H1 : ((slots_Set.f a0 a1).bind fun t109 => (if t109 = a0 then ((slots_Clear.f a0 a1).bind fun t110 => (if t110 = a0 then ((slots_Has.f a0 a1).bind fun t111 => (if t111 = true then (some false) else ((assartlaw04_lives.f).bind fun t112 => (some t112)))) else (some false))) else (some false))) = some r := by rw [if_pos rfl] at H; exact H
        clear H
        have H := H1
        clear H1
        replace H := Option.bind_eq_some_iff.mp H
        obtain ⟨t109, A70, H⟩ := H
        replace H : (if t109 = a0 then ((slots_Clear.f a0 a1).bind fun t110 => (if t110 = a0 then ((slots_Has.f a0 a1).bind fun t111 => (if t111 = true then (some false) else ((assartlaw04_lives.f).bind fun t112 => (some t112)))) else (some false))) else (some false)) = some r := H
        have A7 := Aside0.mk A70
        clear A70
        by_cases c8 : t109 = a0
        · rw [if_pos c8] at H
          have c8b0 : (t109 == a0) = true := beq_iff_eq.mpr c8
          have c8b1 : (t109 != a0) = false := bne_eq_false_iff_eq.mpr c8
          clear c8
          replace H := Option.bind_eq_some_iff.mp H
          obtain ⟨t110, A90, H⟩ := H
          replace H : (if t110 = a0 then ((slots_Has.f a0 a1).bind fun t111 => (if t111 = true then (some false) else ((assartlaw04_lives.f).bind fun t112 => (some t112)))) else (some false)) = some r := H
          have A9 := Aside0.mk A90
          clear A90
          by_cases c10 : t110 = a0
          · rw [if_pos c10] at H
            have c10b0 : (t110 == a0) = true := beq_iff_eq.mpr c10
            have c10b1 : (t110 != a0) = false := bne_eq_false_iff_eq.mpr c10
            clear c10
            replace H := Option.bind_eq_some_iff.mp H
            obtain ⟨t111, A110, H⟩ := H
            replace H : (if t111 = true then (some false) else ((assartlaw04_lives.f).bind fun t112 => (some t112))) = some r := H
            have A11 := Aside0.mk A110
            clear A110
            by_cases c12 : t111 = true
            · subst c12
              have H1 : (some false) = some r := by rw [if_pos rfl] at H; exact H
              clear H
              have H := H1
              clear H1
              obtain rfl := Option.some.inj H
              go_wp2_with (first | ((with_reducible refine gate_callee (f := 10) rfl ?_); refine goesL_ (some 17) rfl rfl Try.func10 (by kernel_rfl) rfl #[.int .i64 a0, .int .i64 a1] rfl (by (try simp only [List.map_toArray, List.map_cons, List.map_nil]); first | done | rfl | (simp only [List.length_drop, List.length_take]; rfl)) ?_; (with_reducible refine (slots_Set.calls a0 a1 t109 _ A7.out).mono ?_); rintro e w' ⟨rfl, ⟨nd, rfl⟩⟩; refine ⟨_, rfl, ?_⟩) | (go_at_call 12; (with_reducible refine (slots_Clear.calls a0 a1 t110 _ A9.out).mono ?_); rintro e w' ⟨rfl, ⟨nd, rfl⟩⟩) | (go_at_call 8; (with_reducible refine (slots_Has.calls a0 a1 true _ A11.out).mono ?_); rintro e w' ⟨rfl, ⟨nd, rfl⟩⟩))
              go_ret
              exact ⟨by first | rfl | (simp [errW_none, errW_some] <;> rfl) | (simp [*, errW_none, errW_some] <;> rfl), by repeat (first | (with_reducible first | exact HB.out | apply below_alloc | apply pw_below_drewN | apply below_drew1) | exact HB.out)⟩
            · replace c12 := Bool.eq_false_iff.mpr c12
              subst c12
              have H1 : ((assartlaw04_lives.f).bind fun t112 => (some t112)) = some r := by rw [if_neg (show ¬ (false = true) by decide)] at H; exact H
              clear H
              have H := H1
              clear H1
              replace H := Option.bind_eq_some_iff.mp H
              obtain ⟨t112, A130, H⟩ := H
              replace H : (some t112) = some r := H
              have A13 := Aside0.mk A130
              clear A130
              obtain rfl := Option.some.inj H
              go_wp2_with (first | ((with_reducible refine gate_callee (f := 10) rfl ?_); refine goesL_ (some 17) rfl rfl Try.func10 (by kernel_rfl) rfl #[.int .i64 a0, .int .i64 a1] rfl (by (try simp only [List.map_toArray, List.map_cons, List.map_nil]); first | done | rfl | (simp only [List.length_drop, List.length_take]; rfl)) ?_; (with_reducible refine (slots_Set.calls a0 a1 t109 _ A7.out).mono ?_); rintro e w' ⟨rfl, ⟨nd, rfl⟩⟩; refine ⟨_, rfl, ?_⟩) | (go_at_call 12; (with_reducible refine (slots_Clear.calls a0 a1 t110 _ A9.out).mono ?_); rintro e w' ⟨rfl, ⟨nd, rfl⟩⟩) | (go_at_call 8; (with_reducible refine (slots_Has.calls a0 a1 false _ A11.out).mono ?_); rintro e w' ⟨rfl, ⟨nd, rfl⟩⟩) | (go_at_call 14; (with_reducible refine (assartlaw04_lives.calls  t112 _ A13.out).mono ?_); rintro e w14 ⟨rfl, hb⟩; have n0_ := Aside0.mk (below_step (by repeat (first | (with_reducible first | exact HB.out | apply below_alloc | apply pw_below_drewN | apply below_drew1) | exact HB.out)) hb); clear HB; have HB := n0_; clear n0_; (try clear hb); (try clear hb2); (try clear hk); (try clear hi)))
              go_ret
              exact ⟨by first | rfl | (simp [errW_none, errW_some] <;> rfl) | (simp [*, errW_none, errW_some] <;> rfl), by repeat (first | (with_reducible first | exact HB.out | apply below_alloc | apply pw_below_drewN | apply below_drew1) | exact HB.out)⟩
          · rw [if_neg c10] at H
            have c10b0 : (t110 == a0) = false := beq_eq_false_iff_ne.mpr c10
            have c10b1 : (t110 != a0) = true := bne_iff_ne.mpr c10
            obtain rfl := Option.some.inj H
            go_wp2_with (first | ((with_reducible refine gate_callee (f := 10) rfl ?_); refine goesL_ (some 17) rfl rfl Try.func10 (by kernel_rfl) rfl #[.int .i64 a0, .int .i64 a1] rfl (by (try simp only [List.map_toArray, List.map_cons, List.map_nil]); first | done | rfl | (simp only [List.length_drop, List.length_take]; rfl)) ?_; (with_reducible refine (slots_Set.calls a0 a1 t109 _ A7.out).mono ?_); rintro e w' ⟨rfl, ⟨nd, rfl⟩⟩; refine ⟨_, rfl, ?_⟩) | (go_at_call 12; (with_reducible refine (slots_Clear.calls a0 a1 t110 _ A9.out).mono ?_); rintro e w' ⟨rfl, ⟨nd, rfl⟩⟩))
            go_ret
            exact ⟨by first | rfl | (simp [errW_none, errW_some] <;> rfl) | (simp [*, errW_none, errW_some] <;> rfl), by repeat (first | (with_reducible first | exact HB.out | apply below_alloc | apply pw_below_drewN | apply below_drew1) | exact HB.out)⟩
        · rw [if_neg c8] at H
          have c8b0 : (t109 == a0) = false := beq_eq_false_iff_ne.mpr c8
          have c8b1 : (t109 != a0) = true := bne_iff_ne.mpr c8
          obtain rfl := Option.some.inj H
          go_wp2_with (first | ((with_reducible refine gate_callee (f := 10) rfl ?_); refine goesL_ (some 17) rfl rfl Try.func10 (by kernel_rfl) rfl #[.int .i64 a0, .int .i64 a1] rfl (by (try simp only [List.map_toArray, List.map_cons, List.map_nil]); first | done | rfl | (simp only [List.length_drop, List.length_take]; rfl)) ?_; (with_reducible refine (slots_Set.calls a0 a1 t109 _ A7.out).mono ?_); rintro e w' ⟨rfl, ⟨nd, rfl⟩⟩; refine ⟨_, rfl, ?_⟩))
          go_ret
          exact ⟨by first | rfl | (simp [errW_none, errW_some] <;> rfl) | (simp [*, errW_none, errW_some] <;> rfl), by repeat (first | (with_reducible first | exact HB.out | apply below_alloc | apply pw_below_drewN | apply below_drew1) | exact HB.out)⟩
      · replace c6 := Bool.eq_false_iff.mpr c6
        subst c6
        have H1 : ((slots_Set.f a0 a1).bind fun t113 => ((slots_Clear.f a0 a1).bind fun t114 => ((slots_Has.f t113 a1).bind fun t115 => (if t115 = true then ((slots_Has.f t114 a1).bind fun t116 => (if t116 = true then (assartlaw04_SlotsOne.j1 kj3 a0 a1 t113 t114 true) else (if a2 = a1 then (assartlaw04_SlotsOne.j1 kj3 a0 a1 t113 t114 false) else ((slots_Has.f t113 a2).bind fun t117 => ((slots_Has.f a0 a2).bind fun t118 => (if (t117 != t118) = true then (assartlaw04_SlotsOne.j1 kj3 a0 a1 t113 t114 true) else ((slots_Has.f t114 a2).bind fun t119 => ((slots_Has.f a0 a2).bind fun t120 => (assartlaw04_SlotsOne.j1 kj3 a0 a1 t113 t114 (t119 != t118)))))))))) else (assartlaw04_SlotsOne.j1 kj3 a0 a1 t113 t114 true))))) = some r := by rw [if_neg (show ¬ (false = true) by decide)] at H; exact H
        clear H
        have H := H1
        clear H1
        replace H := Option.bind_eq_some_iff.mp H
        obtain ⟨t113, A150, H⟩ := H
        replace H : ((slots_Clear.f a0 a1).bind fun t114 => ((slots_Has.f t113 a1).bind fun t115 => (if t115 = true then ((slots_Has.f t114 a1).bind fun t116 => (if t116 = true then (assartlaw04_SlotsOne.j1 kj3 a0 a1 t113 t114 true) else (if a2 = a1 then (assartlaw04_SlotsOne.j1 kj3 a0 a1 t113 t114 false) else ((slots_Has.f t113 a2).bind fun t117 => ((slots_Has.f a0 a2).bind fun t118 => (if (t117 != t118) = true then (assartlaw04_SlotsOne.j1 kj3 a0 a1 t113 t114 true) else ((slots_Has.f t114 a2).bind fun t119 => ((slots_Has.f a0 a2).bind fun t120 => (assartlaw04_SlotsOne.j1 kj3 a0 a1 t113 t114 (t119 != t118)))))))))) else (assartlaw04_SlotsOne.j1 kj3 a0 a1 t113 t114 true)))) = some r := H
        have A15 := Aside0.mk A150
        clear A150
        replace H := Option.bind_eq_some_iff.mp H
        obtain ⟨t114, A160, H⟩ := H
        replace H : ((slots_Has.f t113 a1).bind fun t115 => (if t115 = true then ((slots_Has.f t114 a1).bind fun t116 => (if t116 = true then (assartlaw04_SlotsOne.j1 kj3 a0 a1 t113 t114 true) else (if a2 = a1 then (assartlaw04_SlotsOne.j1 kj3 a0 a1 t113 t114 false) else ((slots_Has.f t113 a2).bind fun t117 => ((slots_Has.f a0 a2).bind fun t118 => (if (t117 != t118) = true then (assartlaw04_SlotsOne.j1 kj3 a0 a1 t113 t114 true) else ((slots_Has.f t114 a2).bind fun t119 => ((slots_Has.f a0 a2).bind fun t120 => (assartlaw04_SlotsOne.j1 kj3 a0 a1 t113 t114 (t119 != t118)))))))))) else (assartlaw04_SlotsOne.j1 kj3 a0 a1 t113 t114 true))) = some r := H
        have A16 := Aside0.mk A160
        clear A160
        have HC17 := Aside0.mk H
        clear H
        go_upto_region 5 with (first | ((with_reducible refine gate_callee (f := 10) rfl ?_); refine goesL_ (some 38) rfl rfl Try.func10 (by kernel_rfl) rfl #[.int .i64 a0, .int .i64 a1] rfl (by (try simp only [List.map_toArray, List.map_cons, List.map_nil]); first | done | rfl | (simp only [List.length_drop, List.length_take]; rfl)) ?_; (with_reducible refine (slots_Set.calls a0 a1 t113 _ A15.out).mono ?_); rintro e w' ⟨rfl, ⟨nd, rfl⟩⟩; refine ⟨_, rfl, ?_⟩) | ((with_reducible refine gate_callee (f := 12) rfl ?_); refine goesL_ (some 41) rfl rfl Try.func12 (by kernel_rfl) rfl #[.int .i64 a0, .int .i64 a1] rfl (by (try simp only [List.map_toArray, List.map_cons, List.map_nil]); first | done | rfl | (simp only [List.length_drop, List.length_take]; rfl)) ?_; (with_reducible refine (slots_Clear.calls a0 a1 t114 _ A16.out).mono ?_); rintro e w' ⟨rfl, ⟨nd, rfl⟩⟩; refine ⟨_, rfl, ?_⟩))
        (try simp only [Act.put, List.setIfInBounds_toArray, List.set_cons_zero, List.set_cons_succ])
        go_cut [73] (fun v73 wc => ∃ (kq : Nat) (x73_16 : Bool), v73 = .bool x73_16 ∧ Aside0 (assartlaw04_SlotsOne.j1 kq a0 a1 t113 t114 x73_16 = some r) ∧ Aside0 (kq ≤ kj3) ∧ Aside0 (Below w.heap.size w wc))
        case first =>
          have H := HC17.out
          clear HC17
          replace H := Option.bind_eq_some_iff.mp H
          obtain ⟨t115, A180, H⟩ := H
          replace H : (if t115 = true then ((slots_Has.f t114 a1).bind fun t116 => (if t116 = true then (assartlaw04_SlotsOne.j1 kj3 a0 a1 t113 t114 true) else (if a2 = a1 then (assartlaw04_SlotsOne.j1 kj3 a0 a1 t113 t114 false) else ((slots_Has.f t113 a2).bind fun t117 => ((slots_Has.f a0 a2).bind fun t118 => (if (t117 != t118) = true then (assartlaw04_SlotsOne.j1 kj3 a0 a1 t113 t114 true) else ((slots_Has.f t114 a2).bind fun t119 => ((slots_Has.f a0 a2).bind fun t120 => (assartlaw04_SlotsOne.j1 kj3 a0 a1 t113 t114 (t119 != t118)))))))))) else (assartlaw04_SlotsOne.j1 kj3 a0 a1 t113 t114 true)) = some r := H
          have A18 := Aside0.mk A180
          clear A180
          by_cases c19 : t115 = true
          · subst c19
            have H1 : ((slots_Has.f t114 a1).bind fun t116 => (if t116 = true then (assartlaw04_SlotsOne.j1 kj3 a0 a1 t113 t114 true) else (if a2 = a1 then (assartlaw04_SlotsOne.j1 kj3 a0 a1 t113 t114 false) else ((slots_Has.f t113 a2).bind fun t117 => ((slots_Has.f a0 a2).bind fun t118 => (if (t117 != t118) = true then (assartlaw04_SlotsOne.j1 kj3 a0 a1 t113 t114 true) else ((slots_Has.f t114 a2).bind fun t119 => ((slots_Has.f a0 a2).bind fun t120 => (assartlaw04_SlotsOne.j1 kj3 a0 a1 t113 t114 (t119 != t118)))))))))) = some r := by rw [if_pos rfl] at H; exact H
            clear H
            have H := H1
            clear H1
            replace H := Option.bind_eq_some_iff.mp H
            obtain ⟨t116, A200, H⟩ := H
            replace H : (if t116 = true then (assartlaw04_SlotsOne.j1 kj3 a0 a1 t113 t114 true) else (if a2 = a1 then (assartlaw04_SlotsOne.j1 kj3 a0 a1 t113 t114 false) else ((slots_Has.f t113 a2).bind fun t117 => ((slots_Has.f a0 a2).bind fun t118 => (if (t117 != t118) = true then (assartlaw04_SlotsOne.j1 kj3 a0 a1 t113 t114 true) else ((slots_Has.f t114 a2).bind fun t119 => ((slots_Has.f a0 a2).bind fun t120 => (assartlaw04_SlotsOne.j1 kj3 a0 a1 t113 t114 (t119 != t118))))))))) = some r := H
            have A20 := Aside0.mk A200
            clear A200
            by_cases c21 : t116 = true
            · subst c21
              have H1 : (assartlaw04_SlotsOne.j1 kj3 a0 a1 t113 t114 true) = some r := by rw [if_pos rfl] at H; exact H
              clear H
              have H := H1
              clear H1
              have H' := Aside0.mk H
              clear H
              go_wp2_with (first | ((with_reducible refine gate_callee (f := 8) rfl ?_); refine goesL_ (some 44) rfl rfl Try.func8 (by kernel_rfl) rfl #[.int .i64 t113, .int .i64 a1] rfl (by (try simp only [List.map_toArray, List.map_cons, List.map_nil]); first | done | rfl | (simp only [List.length_drop, List.length_take]; rfl)) ?_; (with_reducible refine (slots_Has.calls t113 a1 true _ A18.out).mono ?_); rintro e w' ⟨rfl, ⟨nd, rfl⟩⟩; refine ⟨_, rfl, ?_⟩) | (go_at_call 8; (with_reducible refine (slots_Has.calls t114 a1 true _ A20.out).mono ?_); rintro e w' ⟨rfl, ⟨nd, rfl⟩⟩))
              go_meet
              case rel => exact ⟨_, (true), (by first | rfl | (simp; done) | (simp [*]; done)), H', ⟨by have := HJ3.out; first | omega | exact Nat.le_refl _⟩, ⟨by repeat (first | (with_reducible first | exact HB.out | apply below_alloc | apply pw_below_drewN | apply below_drew1) | exact HB.out)⟩⟩
            · replace c21 := Bool.eq_false_iff.mpr c21
              subst c21
              have H1 : (if a2 = a1 then (assartlaw04_SlotsOne.j1 kj3 a0 a1 t113 t114 false) else ((slots_Has.f t113 a2).bind fun t117 => ((slots_Has.f a0 a2).bind fun t118 => (if (t117 != t118) = true then (assartlaw04_SlotsOne.j1 kj3 a0 a1 t113 t114 true) else ((slots_Has.f t114 a2).bind fun t119 => ((slots_Has.f a0 a2).bind fun t120 => (assartlaw04_SlotsOne.j1 kj3 a0 a1 t113 t114 (t119 != t118)))))))) = some r := by rw [if_neg (show ¬ (false = true) by decide)] at H; exact H
              clear H
              have H := H1
              clear H1
              by_cases c22 : a2 = a1
              · rw [if_pos c22] at H
                have c22b0 : (a2 == a1) = true := beq_iff_eq.mpr c22
                have c22b1 : (a2 != a1) = false := bne_eq_false_iff_eq.mpr c22
                clear c22
                (first | rw [c22b0] | (simp only [i64_w, i32_w]; rw [c22b0]) | skip)
                have H' := Aside0.mk H
                clear H
                go_wp2_with (first | ((with_reducible refine gate_callee (f := 8) rfl ?_); refine goesL_ (some 44) rfl rfl Try.func8 (by kernel_rfl) rfl #[.int .i64 t113, .int .i64 a1] rfl (by (try simp only [List.map_toArray, List.map_cons, List.map_nil]); first | done | rfl | (simp only [List.length_drop, List.length_take]; rfl)) ?_; (with_reducible refine (slots_Has.calls t113 a1 true _ A18.out).mono ?_); rintro e w' ⟨rfl, ⟨nd, rfl⟩⟩; refine ⟨_, rfl, ?_⟩) | (go_at_call 8; (with_reducible refine (slots_Has.calls t114 a1 false _ A20.out).mono ?_); rintro e w' ⟨rfl, ⟨nd, rfl⟩⟩))
                go_meet
                case rel => exact ⟨_, (false), (by first | rfl | (simp; done) | (simp [*]; done)), H', ⟨by have := HJ3.out; first | omega | exact Nat.le_refl _⟩, ⟨by repeat (first | (with_reducible first | exact HB.out | apply below_alloc | apply pw_below_drewN | apply below_drew1) | exact HB.out)⟩⟩
              · rw [if_neg c22] at H
                have c22b0 : (a2 == a1) = false := beq_eq_false_iff_ne.mpr c22
                have c22b1 : (a2 != a1) = true := bne_iff_ne.mpr c22
                (first | rw [c22b0] | (simp only [i64_w, i32_w]; rw [c22b0]) | skip)
                replace H := Option.bind_eq_some_iff.mp H
                obtain ⟨t117, A230, H⟩ := H
                replace H : ((slots_Has.f a0 a2).bind fun t118 => (if (t117 != t118) = true then (assartlaw04_SlotsOne.j1 kj3 a0 a1 t113 t114 true) else ((slots_Has.f t114 a2).bind fun t119 => ((slots_Has.f a0 a2).bind fun t120 => (assartlaw04_SlotsOne.j1 kj3 a0 a1 t113 t114 (t119 != t118)))))) = some r := H
                have A23 := Aside0.mk A230
                clear A230
                replace H := Option.bind_eq_some_iff.mp H
                obtain ⟨t118, A240, H⟩ := H
                replace H : (if (t117 != t118) = true then (assartlaw04_SlotsOne.j1 kj3 a0 a1 t113 t114 true) else ((slots_Has.f t114 a2).bind fun t119 => ((slots_Has.f a0 a2).bind fun t120 => (assartlaw04_SlotsOne.j1 kj3 a0 a1 t113 t114 (t119 != t118))))) = some r := H
                have A24 := Aside0.mk A240
                clear A240
                by_cases c25 : (t117 != t118) = true
                · rw [if_pos c25] at H
                  have c25b0 : (t117 != t118) = true := c25
                  (try (have c25b1 : decide (t117 = t118) = false := by simpa using c25))
                  (try (have c25b2 : (t117 == t118) = false := by simpa using c25))
                  (try (have c25b3 : ¬ (t117 = t118) := by simpa using c25))
                  clear c25
                  have H' := Aside0.mk H
                  clear H
                  go_wp2_with (first | ((with_reducible refine gate_callee (f := 8) rfl ?_); refine goesL_ (some 44) rfl rfl Try.func8 (by kernel_rfl) rfl #[.int .i64 t113, .int .i64 a1] rfl (by (try simp only [List.map_toArray, List.map_cons, List.map_nil]); first | done | rfl | (simp only [List.length_drop, List.length_take]; rfl)) ?_; (with_reducible refine (slots_Has.calls t113 a1 true _ A18.out).mono ?_); rintro e w' ⟨rfl, ⟨nd, rfl⟩⟩; refine ⟨_, rfl, ?_⟩) | (go_at_call 8; (with_reducible refine (slots_Has.calls t114 a1 false _ A20.out).mono ?_); rintro e w' ⟨rfl, ⟨nd, rfl⟩⟩) | (go_at_call 8; (with_reducible refine (slots_Has.calls t113 a2 t117 _ A23.out).mono ?_); rintro e w' ⟨rfl, ⟨nd, rfl⟩⟩) | (go_at_call 8; (with_reducible refine (slots_Has.calls a0 a2 t118 _ A24.out).mono ?_); rintro e w' ⟨rfl, ⟨nd, rfl⟩⟩))
                  go_meet
                  case rel => exact ⟨_, (true), (by first | rfl | (simp; done) | (simp [*]; done)), H', ⟨by have := HJ3.out; first | omega | exact Nat.le_refl _⟩, ⟨by repeat (first | (with_reducible first | exact HB.out | apply below_alloc | apply pw_below_drewN | apply below_drew1) | exact HB.out)⟩⟩
                · rw [if_neg c25] at H
                  have c25b0 : (t117 != t118) = false := by simpa using c25
                  (try (have c25b1 : decide (t117 = t118) = true := by simpa using c25))
                  (try (have c25b2 : (t117 == t118) = true := by simpa using c25))
                  clear c25
                  replace H := Option.bind_eq_some_iff.mp H
                  obtain ⟨t119, A260, H⟩ := H
                  replace H : ((slots_Has.f a0 a2).bind fun t120 => (assartlaw04_SlotsOne.j1 kj3 a0 a1 t113 t114 (t119 != t118))) = some r := H
                  have A26 := Aside0.mk A260
                  clear A260
                  replace H := Option.bind_eq_some_iff.mp H
                  obtain ⟨t120, A270, H⟩ := H
                  replace H : (assartlaw04_SlotsOne.j1 kj3 a0 a1 t113 t114 (t119 != t118)) = some r := H
                  have A27 := Aside0.mk A270
                  clear A270
                  obtain rfl : t118 = t120 := Option.some.inj (A24.out.symm.trans A27.out)
                  have H' := Aside0.mk H
                  clear H
                  go_wp2_with (first | ((with_reducible refine gate_callee (f := 8) rfl ?_); refine goesL_ (some 44) rfl rfl Try.func8 (by kernel_rfl) rfl #[.int .i64 t113, .int .i64 a1] rfl (by (try simp only [List.map_toArray, List.map_cons, List.map_nil]); first | done | rfl | (simp only [List.length_drop, List.length_take]; rfl)) ?_; (with_reducible refine (slots_Has.calls t113 a1 true _ A18.out).mono ?_); rintro e w' ⟨rfl, ⟨nd, rfl⟩⟩; refine ⟨_, rfl, ?_⟩) | (go_at_call 8; (with_reducible refine (slots_Has.calls t114 a1 false _ A20.out).mono ?_); rintro e w' ⟨rfl, ⟨nd, rfl⟩⟩) | (go_at_call 8; (with_reducible refine (slots_Has.calls t113 a2 t117 _ A23.out).mono ?_); rintro e w' ⟨rfl, ⟨nd, rfl⟩⟩) | (go_at_call 8; (with_reducible refine (slots_Has.calls a0 a2 t118 _ A24.out).mono ?_); rintro e w' ⟨rfl, ⟨nd, rfl⟩⟩) | (go_at_call 8; (with_reducible refine (slots_Has.calls t114 a2 t119 _ A26.out).mono ?_); rintro e w' ⟨rfl, ⟨nd, rfl⟩⟩) | (go_at_call 8; (with_reducible refine (slots_Has.calls a0 a2 t118 _ A27.out).mono ?_); rintro e w' ⟨rfl, ⟨nd, rfl⟩⟩))
                  go_meet
                  case rel => exact ⟨_, ((t119 != t118)), (by first | rfl | (simp; done) | (simp [*]; done)), H', ⟨by have := HJ3.out; first | omega | exact Nat.le_refl _⟩, ⟨by repeat (first | (with_reducible first | exact HB.out | apply below_alloc | apply pw_below_drewN | apply below_drew1) | exact HB.out)⟩⟩
          · replace c19 := Bool.eq_false_iff.mpr c19
            subst c19
            have H1 : (assartlaw04_SlotsOne.j1 kj3 a0 a1 t113 t114 true) = some r := by rw [if_neg (show ¬ (false = true) by decide)] at H; exact H
            clear H
            have H := H1
            clear H1
            have H' := Aside0.mk H
            clear H
            go_wp2_with (first | ((with_reducible refine gate_callee (f := 8) rfl ?_); refine goesL_ (some 44) rfl rfl Try.func8 (by kernel_rfl) rfl #[.int .i64 t113, .int .i64 a1] rfl (by (try simp only [List.map_toArray, List.map_cons, List.map_nil]); first | done | rfl | (simp only [List.length_drop, List.length_take]; rfl)) ?_; (with_reducible refine (slots_Has.calls t113 a1 false _ A18.out).mono ?_); rintro e w' ⟨rfl, ⟨nd, rfl⟩⟩; refine ⟨_, rfl, ?_⟩))
            go_meet
            case rel => exact ⟨_, (true), (by first | rfl | (simp; done) | (simp [*]; done)), H', ⟨by have := HJ3.out; first | omega | exact Nat.le_refl _⟩, ⟨by repeat (first | (with_reducible first | exact HB.out | apply below_alloc | apply pw_below_drewN | apply below_drew1) | exact HB.out)⟩⟩
        case rest =>
          clear HC17
          try clear c1
          try clear c2
          try clear p2
          try clear c4
          try clear c5
          try clear c5b0
          try clear c5b1
          try clear c6
          try clear c8
          try clear c8b0
          try clear c8b1
          try clear c10
          try clear c10b0
          try clear c10b1
          try clear c12
          try clear c19
          try clear c21
          try clear c22
          try clear c22b0
          try clear c22b1
          try clear c25
          try clear c25b0
          try clear c25b1
          try clear c25b2
          try clear p2
          obtain ⟨kq, x73_16, rfl, HA, HJ16, HB⟩ := hcut
          cases kq with
          | zero => exact absurd HA.out (by simp [assartlaw04_SlotsOne.j1])
          | succ kj16 =>
            have H := HA.out
            clear HA
            simp only [assartlaw04_SlotsOne.j1] at H
            by_cases c28 : x73_16 = true
            · subst c28
              have H1 : (some false) = some r := by rw [if_pos rfl] at H; exact H
              clear H
              have H := H1
              clear H1
              obtain rfl := Option.some.inj H
              go_wp2
              go_ret
              exact ⟨by first | rfl | (simp [errW_none, errW_some] <;> rfl) | (simp [*, errW_none, errW_some] <;> rfl), by repeat (first | (with_reducible first | exact HB.out | apply below_alloc | apply pw_below_drewN | apply below_drew1) | exact HB.out)⟩
            · replace c28 := Bool.eq_false_iff.mpr c28
              subst c28
              have H1 : ((slots_Has.f a0 a1).bind fun t121 => (if t121 = true then (if t113 = a0 then ((slots_Set.f t114 a1).bind fun t122 => (if t122 = a0 then ((assartlaw04_lives.f).bind fun t123 => (some t123)) else (some false))) else (some false)) else (if t114 = a0 then ((slots_Clear.f t113 a1).bind fun t124 => (if t124 = a0 then ((assartlaw04_lives.f).bind fun t125 => (some t125)) else (some false))) else (some false)))) = some r := by rw [if_neg (show ¬ (false = true) by decide)] at H; exact H
              clear H
              have H := H1
              clear H1
              replace H := Option.bind_eq_some_iff.mp H
              obtain ⟨t121, A290, H⟩ := H
              replace H : (if t121 = true then (if t113 = a0 then ((slots_Set.f t114 a1).bind fun t122 => (if t122 = a0 then ((assartlaw04_lives.f).bind fun t123 => (some t123)) else (some false))) else (some false)) else (if t114 = a0 then ((slots_Clear.f t113 a1).bind fun t124 => (if t124 = a0 then ((assartlaw04_lives.f).bind fun t125 => (some t125)) else (some false))) else (some false))) = some r := H
              have A29 := Aside0.mk A290
              clear A290
              by_cases c30 : t121 = true
              · subst c30
                have H1 : (if t113 = a0 then ((slots_Set.f t114 a1).bind fun t122 => (if t122 = a0 then ((assartlaw04_lives.f).bind fun t123 => (some t123)) else (some false))) else (some false)) = some r := by rw [if_pos rfl] at H; exact H
                clear H
                have H := H1
                clear H1
                by_cases c31 : t113 = a0
                · rw [if_pos c31] at H
                  have c31b0 : (t113 == a0) = true := beq_iff_eq.mpr c31
                  have c31b1 : (t113 != a0) = false := bne_eq_false_iff_eq.mpr c31
                  clear c31
                  replace H := Option.bind_eq_some_iff.mp H
                  obtain ⟨t122, A320, H⟩ := H
                  replace H : (if t122 = a0 then ((assartlaw04_lives.f).bind fun t123 => (some t123)) else (some false)) = some r := H
                  have A32 := Aside0.mk A320
                  clear A320
                  by_cases c33 : t122 = a0
                  · rw [if_pos c33] at H
                    have c33b0 : (t122 == a0) = true := beq_iff_eq.mpr c33
                    have c33b1 : (t122 != a0) = false := bne_eq_false_iff_eq.mpr c33
                    clear c33
                    replace H := Option.bind_eq_some_iff.mp H
                    obtain ⟨t123, A340, H⟩ := H
                    replace H : (some t123) = some r := H
                    have A34 := Aside0.mk A340
                    clear A340
                    obtain rfl := Option.some.inj H
                    go_wp2_with (first | ((with_reducible refine gate_callee (f := 8) rfl ?_); refine goesL_ (some 76) rfl rfl Try.func8 (by kernel_rfl) rfl #[.int .i64 a0, .int .i64 a1] rfl (by (try simp only [List.map_toArray, List.map_cons, List.map_nil]); first | done | rfl | (simp only [List.length_drop, List.length_take]; rfl)) ?_; (with_reducible refine (slots_Has.calls a0 a1 true _ A29.out).mono ?_); rintro e w' ⟨rfl, ⟨nd, rfl⟩⟩; refine ⟨_, rfl, ?_⟩) | (go_at_call 10; (with_reducible refine (slots_Set.calls t114 a1 t122 _ A32.out).mono ?_); rintro e w' ⟨rfl, ⟨nd, rfl⟩⟩) | (go_at_call 14; (with_reducible refine (assartlaw04_lives.calls  t123 _ A34.out).mono ?_); rintro e w35 ⟨rfl, hb⟩; have n0_ := Aside0.mk (below_step (by repeat (first | (with_reducible first | exact HB.out | apply below_alloc | apply pw_below_drewN | apply below_drew1) | exact HB.out)) hb); clear HB; have HB := n0_; clear n0_; (try clear hb); (try clear hb2); (try clear hk); (try clear hi)))
                    go_ret
                    exact ⟨by first | rfl | (simp [errW_none, errW_some] <;> rfl) | (simp [*, errW_none, errW_some] <;> rfl), by repeat (first | (with_reducible first | exact HB.out | apply below_alloc | apply pw_below_drewN | apply below_drew1) | exact HB.out)⟩
                  · rw [if_neg c33] at H
                    have c33b0 : (t122 == a0) = false := beq_eq_false_iff_ne.mpr c33
                    have c33b1 : (t122 != a0) = true := bne_iff_ne.mpr c33
                    obtain rfl := Option.some.inj H
                    go_wp2_with (first | ((with_reducible refine gate_callee (f := 8) rfl ?_); refine goesL_ (some 76) rfl rfl Try.func8 (by kernel_rfl) rfl #[.int .i64 a0, .int .i64 a1] rfl (by (try simp only [List.map_toArray, List.map_cons, List.map_nil]); first | done | rfl | (simp only [List.length_drop, List.length_take]; rfl)) ?_; (with_reducible refine (slots_Has.calls a0 a1 true _ A29.out).mono ?_); rintro e w' ⟨rfl, ⟨nd, rfl⟩⟩; refine ⟨_, rfl, ?_⟩) | (go_at_call 10; (with_reducible refine (slots_Set.calls t114 a1 t122 _ A32.out).mono ?_); rintro e w' ⟨rfl, ⟨nd, rfl⟩⟩))
                    go_ret
                    exact ⟨by first | rfl | (simp [errW_none, errW_some] <;> rfl) | (simp [*, errW_none, errW_some] <;> rfl), by repeat (first | (with_reducible first | exact HB.out | apply below_alloc | apply pw_below_drewN | apply below_drew1) | exact HB.out)⟩
                · rw [if_neg c31] at H
                  have c31b0 : (t113 == a0) = false := beq_eq_false_iff_ne.mpr c31
                  have c31b1 : (t113 != a0) = true := bne_iff_ne.mpr c31
                  obtain rfl := Option.some.inj H
                  go_wp2_with (first | ((with_reducible refine gate_callee (f := 8) rfl ?_); refine goesL_ (some 76) rfl rfl Try.func8 (by kernel_rfl) rfl #[.int .i64 a0, .int .i64 a1] rfl (by (try simp only [List.map_toArray, List.map_cons, List.map_nil]); first | done | rfl | (simp only [List.length_drop, List.length_take]; rfl)) ?_; (with_reducible refine (slots_Has.calls a0 a1 true _ A29.out).mono ?_); rintro e w' ⟨rfl, ⟨nd, rfl⟩⟩; refine ⟨_, rfl, ?_⟩))
                  go_ret
                  exact ⟨by first | rfl | (simp [errW_none, errW_some] <;> rfl) | (simp [*, errW_none, errW_some] <;> rfl), by repeat (first | (with_reducible first | exact HB.out | apply below_alloc | apply pw_below_drewN | apply below_drew1) | exact HB.out)⟩
              · replace c30 := Bool.eq_false_iff.mpr c30
                subst c30
                have H1 : (if t114 = a0 then ((slots_Clear.f t113 a1).bind fun t124 => (if t124 = a0 then ((assartlaw04_lives.f).bind fun t125 => (some t125)) else (some false))) else (some false)) = some r := by rw [if_neg (show ¬ (false = true) by decide)] at H; exact H
                clear H
                have H := H1
                clear H1
                by_cases c36 : t114 = a0
                · rw [if_pos c36] at H
                  have c36b0 : (t114 == a0) = true := beq_iff_eq.mpr c36
                  have c36b1 : (t114 != a0) = false := bne_eq_false_iff_eq.mpr c36
                  clear c36
                  replace H := Option.bind_eq_some_iff.mp H
                  obtain ⟨t124, A370, H⟩ := H
                  replace H : (if t124 = a0 then ((assartlaw04_lives.f).bind fun t125 => (some t125)) else (some false)) = some r := H
                  have A37 := Aside0.mk A370
                  clear A370
                  by_cases c38 : t124 = a0
                  · rw [if_pos c38] at H
                    have c38b0 : (t124 == a0) = true := beq_iff_eq.mpr c38
                    have c38b1 : (t124 != a0) = false := bne_eq_false_iff_eq.mpr c38
                    clear c38
                    replace H := Option.bind_eq_some_iff.mp H
                    obtain ⟨t125, A390, H⟩ := H
                    replace H : (some t125) = some r := H
                    have A39 := Aside0.mk A390
                    clear A390
                    obtain rfl := Option.some.inj H
                    go_wp2_with (first | ((with_reducible refine gate_callee (f := 8) rfl ?_); refine goesL_ (some 76) rfl rfl Try.func8 (by kernel_rfl) rfl #[.int .i64 a0, .int .i64 a1] rfl (by (try simp only [List.map_toArray, List.map_cons, List.map_nil]); first | done | rfl | (simp only [List.length_drop, List.length_take]; rfl)) ?_; (with_reducible refine (slots_Has.calls a0 a1 false _ A29.out).mono ?_); rintro e w' ⟨rfl, ⟨nd, rfl⟩⟩; refine ⟨_, rfl, ?_⟩) | (go_at_call 12; (with_reducible refine (slots_Clear.calls t113 a1 t124 _ A37.out).mono ?_); rintro e w' ⟨rfl, ⟨nd, rfl⟩⟩) | (go_at_call 14; (with_reducible refine (assartlaw04_lives.calls  t125 _ A39.out).mono ?_); rintro e w40 ⟨rfl, hb⟩; have n0_ := Aside0.mk (below_step (by repeat (first | (with_reducible first | exact HB.out | apply below_alloc | apply pw_below_drewN | apply below_drew1) | exact HB.out)) hb); clear HB; have HB := n0_; clear n0_; (try clear hb); (try clear hb2); (try clear hk); (try clear hi)))
                    go_ret
                    exact ⟨by first | rfl | (simp [errW_none, errW_some] <;> rfl) | (simp [*, errW_none, errW_some] <;> rfl), by repeat (first | (with_reducible first | exact HB.out | apply below_alloc | apply pw_below_drewN | apply below_drew1) | exact HB.out)⟩
                  · rw [if_neg c38] at H
                    have c38b0 : (t124 == a0) = false := beq_eq_false_iff_ne.mpr c38
                    have c38b1 : (t124 != a0) = true := bne_iff_ne.mpr c38
                    obtain rfl := Option.some.inj H
                    go_wp2_with (first | ((with_reducible refine gate_callee (f := 8) rfl ?_); refine goesL_ (some 76) rfl rfl Try.func8 (by kernel_rfl) rfl #[.int .i64 a0, .int .i64 a1] rfl (by (try simp only [List.map_toArray, List.map_cons, List.map_nil]); first | done | rfl | (simp only [List.length_drop, List.length_take]; rfl)) ?_; (with_reducible refine (slots_Has.calls a0 a1 false _ A29.out).mono ?_); rintro e w' ⟨rfl, ⟨nd, rfl⟩⟩; refine ⟨_, rfl, ?_⟩) | (go_at_call 12; (with_reducible refine (slots_Clear.calls t113 a1 t124 _ A37.out).mono ?_); rintro e w' ⟨rfl, ⟨nd, rfl⟩⟩))
                    go_ret
                    exact ⟨by first | rfl | (simp [errW_none, errW_some] <;> rfl) | (simp [*, errW_none, errW_some] <;> rfl), by repeat (first | (with_reducible first | exact HB.out | apply below_alloc | apply pw_below_drewN | apply below_drew1) | exact HB.out)⟩
                · rw [if_neg c36] at H
                  have c36b0 : (t114 == a0) = false := beq_eq_false_iff_ne.mpr c36
                  have c36b1 : (t114 != a0) = true := bne_iff_ne.mpr c36
                  obtain rfl := Option.some.inj H
                  go_wp2_with (first | ((with_reducible refine gate_callee (f := 8) rfl ?_); refine goesL_ (some 76) rfl rfl Try.func8 (by kernel_rfl) rfl #[.int .i64 a0, .int .i64 a1] rfl (by (try simp only [List.map_toArray, List.map_cons, List.map_nil]); first | done | rfl | (simp only [List.length_drop, List.length_take]; rfl)) ?_; (with_reducible refine (slots_Has.calls a0 a1 false _ A29.out).mono ?_); rintro e w' ⟨rfl, ⟨nd, rfl⟩⟩; refine ⟨_, rfl, ?_⟩))
                  go_ret
                  exact ⟨by first | rfl | (simp [errW_none, errW_some] <;> rfl) | (simp [*, errW_none, errW_some] <;> rfl), by repeat (first | (with_reducible first | exact HB.out | apply below_alloc | apply pw_below_drewN | apply below_drew1) | exact HB.out)⟩

/-- THE ONE PURE STATEMENT of assartlaw04_SlotsOne: yours. -/
def assartlaw04_SlotsOne.Pure : Prop := ∀ (a0 : Int) (a1 : Int) (a2 : Int), (Lit.int .i64 a0).wf = true → (Lit.int .i64 a1).wf = true → (Lit.int .i64 a2).wf = true → ∃ k, assartlaw04_SlotsOne.f k a0 a1 a2 = some true
theorem assartlaw04_SlotsOne.walk (P : assartlaw04_SlotsOne.Pure) (a0 : Int) (a1 : Int) (a2 : Int) (w : World) (w0 : (Lit.int .i64 a0).wf = true) (w1 : (Lit.int .i64 a1).wf = true) (w2 : (Lit.int .i64 a2).wf = true) :
    Calls Try.prog 4 #[.int .i64 a0, .int .i64 a1, .int .i64 a2] w fun e w' => e = .returned (.bool true) ∧ Below w.heap.size w w' := by
  obtain ⟨k, h⟩ := P a0 a1 a2 w0 w1 w2
  refine (assartlaw04_SlotsOne.calls k a0 a1 a2 true w h).mono ?_
  rintro e w' ⟨rfl, hd⟩
  exact ⟨rfl, hd⟩

end Go.Proofs.Ytichbeeplpembaa.YSlotsOne

/- Each Go function told here does what the Lean function of its name says, and where a law stands here: it returns true for every input. Conditions: none. Written by a program of this work (wip/tools/xprint.py) out of the translation. -/
import Derived.Test.YtpmkkohnpfpifaaYlanes_tablex0
namespace Go.Proofs.Ytpmkkohnpfpifaa.Ylanes_table
open Go.RowKit Go.Proofs.Ytpmkkohnpfpifaa.X Go.Proofs.YtpmkkohnpfpifaaW.PrintWords Go.Proofs.YtpmkkohnpfpifaaW.PrintLast Go.Proofs.YtpmkkohnpfpifaaW.PrintMore
attribute [local go_sem] max2_int min2_int max_two min_two max_three min_three max_four min_four   -- for this text's walks alone
set_option linter.unusedVariables false
set_option linter.unusedSimpArgs false

/-! ### lanes_table: function 18 -/
mutual
def lanes_table.l0 : Nat → Int → List (List Int) → Int → Int → Option ((List (List Int)))
  | 0, _, _, _, _ => none
  | k + 1, x1, x5, x12, x13 => if x13 < x12 then (if 0 ≤ (wrap64 (x1 + 1)) then (if (wrap64 (x1 + 1) : Int).toNat ≤ 35184372088832 then (if 0 ≤ x13 then (if x13 < (x5.length : Int) then ((some (x5.set (x13 : Int).toNat (List.replicate (wrap64 (x1 + 1) : Int).toNat 0) : List (List Int))).bind fun y107 => (lanes_table.l1 k x1 y107 x13 x12 x13 ((rd_L1 y107 x13).length : Int) 0)) else (none)) else (none)) else (none)) else (none)) else (some x5)
def lanes_table.l1 : Nat → Int → List (List Int) → Int → Int → Int → Int → Int → Option ((List (List Int)))
  | 0, _, _, _, _, _, _, _ => none
  | k + 1, x1, x5, x6, x12, x13, x26, x27 => if x27 < x26 then (if x6 = 0 then (if 0 ≤ x6 then (if x6 < (x5.length : Int) then (if 0 ≤ x27 then (if x27 < ((rd_L1 x5 x6).length : Int) then (lanes_table.l1 k x1 (x5.set (x6 : Int).toNat ((rd_L1 x5 x6).set (x27 : Int).toNat 1)) x6 x12 x13 x26 (wrap64 (x27 + 1))) else (none)) else (none)) else (none)) else (none)) else (if x27 = 0 then (if 0 ≤ x6 then (if x6 < (x5.length : Int) then (if 0 ≤ x27 then (if x27 < ((rd_L1 x5 x6).length : Int) then (lanes_table.l1 k x1 (x5.set (x6 : Int).toNat ((rd_L1 x5 x6).set (x27 : Int).toNat 1)) x6 x12 x13 x26 (wrap64 (x27 + 1))) else (none)) else (none)) else (none)) else (none)) else (if 0 ≤ x6 then (if x6 < (x5.length : Int) then (if 0 ≤ (wrap64 (x6 - 1)) then (if (wrap64 (x6 - 1)) < (x5.length : Int) then (if 0 ≤ x27 then (if x27 < ((rd_L1 x5 (wrap64 (x6 - 1))).length : Int) then (if 0 ≤ (wrap64 (x27 - 1)) then (if (wrap64 (x27 - 1)) < ((rd_L1 x5 x6).length : Int) then (if x27 < ((rd_L1 x5 x6).length : Int) then (lanes_table.l1 k x1 (x5.set (x6 : Int).toNat ((rd_L1 x5 x6).set (x27 : Int).toNat (wrap64 ((rd (rd_L1 x5 (wrap64 (x6 - 1))) x27) + (rd (rd_L1 x5 x6) (wrap64 (x27 - 1))))))) x6 x12 x13 x26 (wrap64 (x27 + 1))) else (none)) else (none)) else (none)) else (none)) else (none)) else (none)) else (none)) else (none)) else (none)))) else (lanes_table.l0 k x1 x5 x12 (wrap64 (x13 + 1)))
end
def lanes_table.f (k : Nat) (a0 : Int) (a1 : Int) : Option ((List (List Int))) := if 0 ≤ (wrap64 (a0 + 1)) then (if (wrap64 (a0 + 1) : Int).toNat ≤ 11728124029610 then ((some (List.replicate (wrap64 (a0 + 1) : Int).toNat [] : List (List Int))).bind fun y101 => (lanes_table.l0 k a1 y101 (y101.length : Int) 0)) else (none)) else (none)
theorem lanes_table.mono_l : ∀ k, (∀ y0 y1 y2 y3, LeO (lanes_table.l0 k y0 y1 y2 y3) (lanes_table.l0 (k + 1) y0 y1 y2 y3)) ∧ (∀ y0 y1 y2 y3 y4 y5 y6, LeO (lanes_table.l1 k y0 y1 y2 y3 y4 y5 y6) (lanes_table.l1 (k + 1) y0 y1 y2 y3 y4 y5 y6))
  | 0 => ⟨fun _ _ _ _ r h => by simp [lanes_table.l0] at h, fun _ _ _ _ _ _ _ r h => by simp [lanes_table.l1] at h⟩
  | k + 1 => by
    obtain ⟨ih0, ih1⟩ := lanes_table.mono_l k
    refine ⟨?_, ?_⟩
    · intro y0 y1 y2 y3
      unfold lanes_table.l0
      repeat' first
      | (with_reducible exact ih0 _ _ _ _)
      | (with_reducible exact ih1 _ _ _ _ _ _ _)
      | (with_reducible exact LeO.refl _)
      | (with_reducible exact LeO.none _)
      | (with_reducible refine LeO.ite ?_ ?_)
      | (with_reducible refine LeO.bind ?_ (fun _ => ?_))
      | exact ih0 _ _ _ _
      | exact ih1 _ _ _ _ _ _ _
      | exact LeO.none _
      | refine LeO.ite ?_ ?_
      | refine LeO.bind ?_ (fun _ => ?_)
    · intro y0 y1 y2 y3 y4 y5 y6
      unfold lanes_table.l1
      repeat' first
      | (with_reducible exact ih0 _ _ _ _)
      | (with_reducible exact ih1 _ _ _ _ _ _ _)
      | (with_reducible exact LeO.refl _)
      | (with_reducible exact LeO.none _)
      | (with_reducible refine LeO.ite ?_ ?_)
      | (with_reducible refine LeO.bind ?_ (fun _ => ?_))
      | exact ih0 _ _ _ _
      | exact ih1 _ _ _ _ _ _ _
      | exact LeO.none _
      | refine LeO.ite ?_ ?_
      | refine LeO.bind ?_ (fun _ => ?_)
theorem lanes_table.mono : ∀ a0 a1 k, LeO (lanes_table.f k a0 a1) (lanes_table.f (k + 1) a0 a1) := by
  intro a0 a1 k
  obtain ⟨ih0, ih1⟩ := lanes_table.mono_l k
  unfold lanes_table.f
  repeat' first
      | (with_reducible exact ih0 _ _ _ _)
      | (with_reducible exact ih1 _ _ _ _ _ _ _)
      | (with_reducible exact LeO.refl _)
      | (with_reducible exact LeO.none _)
      | (with_reducible refine LeO.ite ?_ ?_)
      | (with_reducible refine LeO.bind ?_ (fun _ => ?_))
      | exact ih0 _ _ _ _
      | exact ih1 _ _ _ _ _ _ _
      | exact LeO.none _
      | refine LeO.ite ?_ ?_
      | refine LeO.bind ?_ (fun _ => ?_)
def lanes_table.T11 : Bool × List (List Nat × List Nat) := (true, [([], []), ([], []), ([0, 1], [0, 1]), ([2], [2]), ([], []), ([], []), ([], []), ([6], [6]), ([5, 7], [5, 7]), ([8], [8]), ([], []), ([9, 10], [9, 10]), ([11], [11]), ([], []), ([], []), ([13, 14], [13, 14]), ([15], [15]), ([], []), ([17], [17]), ([16, 18], [16, 18]), ([19], [19]), ([12, 20], [12, 20]), ([3, 4, 0, 1, 2, 3, 4, 5, 6, 7, 8, 9, 10, 11, 12, 13, 14, 15, 16, 17, 18, 19, 20, 21], [3, 4]), ([22, 21, 0, 1, 2, 3, 4, 5, 6, 7, 8, 9, 10, 11, 12, 13, 14, 15, 16, 17, 18, 19, 20, 21], [21, 22])])
def lanes_table.B11 : List Nat := [0, 0, 3, 7, 0, 0, 0, 64, 224, 480, 0, 2016, 4064, 0, 0, 24576, 57344, 0, 131072, 516096, 1040384, 2097120, 4194303, 8388607]
theorem lanes_table.tab11 : rtab .any (opsOf Try.f18 11) = lanes_table.T11 := by kernel_rfl
theorem lanes_table.bits11 : waitsOk lanes_table.T11.2 lanes_table.B11 = true := by kernel_rfl
set_option maxHeartbeats 8000000 in
set_option maxRecDepth 100000 in
theorem lanes_table.calls (k : Nat) (a0 : Int) (a1 : Int) (r : List (List Int)) (w : World) (h : lanes_table.f k a0 a1 = some r) :
    Calls Try.prog 18 #[.int .i64 a0, .int .i64 a1] w fun e w' => ∃ v0_ : Value, e = .returned (v0_) ∧ Kd.S (Kd.slice 3 (Kd.int .i64)) 22 w' w.heap.size (fun _ => True) v0_ r ∧ Below w.heap.size w w' := by
  have HB := Aside0.mk (Below.refl w.heap.size w)
  have H : (if 0 ≤ (wrap64 (a0 + 1)) then (if (wrap64 (a0 + 1) : Int).toNat ≤ 11728124029610 then ((some (List.replicate (wrap64 (a0 + 1) : Int).toNat [] : List (List Int))).bind fun y101 => (lanes_table.l0 k a1 y101 (y101.length : Int) 0)) else (none)) else (none)) = some r := h
  clear h
  obtain ⟨ji3, hji3⟩ : ∃ j_ : Int, (wrap64 (a0 + 1)) = j_ := ⟨_, rfl⟩
  replace H : (if 0 ≤ (ji3) then (if (ji3 : Int).toNat ≤ 11728124029610 then ((some (List.replicate (ji3 : Int).toNat [] : List (List Int))).bind fun y101 => (lanes_table.l0 k a1 y101 (y101.length : Int) 0)) else (none)) else (none)) = some r := by first | (rw [hji3] at H; exact H) | (simp only [hji3] at H ⊢; exact H)
  have hji3w : (IntKind.i64.wrap (a0 + 1)) = ji3 := (i64_w _).trans hji3
  by_cases c4 : 0 ≤ (ji3)
  · rw [if_pos c4] at H
    have c4b0 := eq_true c4
    have c4b1 : decide (0 ≤ (ji3)) = true := decide_eq_true c4
    clear c4
    by_cases c5 : (ji3 : Int).toNat ≤ 11728124029610
    · rw [if_pos c5] at H
      have c5b0 := eq_true c5
      have c5b1 : decide ((ji3 : Int).toNat ≤ 11728124029610) = true := decide_eq_true c5
      clear c5
      obtain ⟨y101, hy101⟩ : ∃ y_ : List (List Int), y_ = (List.replicate (ji3 : Int).toNat []) := ⟨_, rfl⟩
      replace H : (lanes_table.l0 k a1 y101 (y101.length : Int) 0) = some r := by first | (rw [hy101]; with_reducible exact H) | (have H2_ := (Option.bind_some _ _).symm.trans H; rw [hy101]; with_reducible exact H2_) | (have H2_ := (Option.bind_some _ _).symm.trans H; with_reducible exact H2_) | with_reducible exact H | (rw [hy101]; exact H) | exact H
      have Ny101 := Aside0.mk hy101
      clear hy101
      have H' := Aside0.mk H
      clear H
      go_enter Try.func18, Try.ntmps18
      go_wp2_with (first | ((with_reducible refine gate_dst (N := 10) rfl ?_); refine Kd.S_make (Kd.slice 3 (Kd.int .i64)) _ 22 rfl (N := 10) rfl 41 _ _ rfl ji3 rfl rfl Try.underlying41 (.slice none 0 0) 24 info22 rfl (by decide) (by omega) [] (ok := fun _ => True) (okp := fun _ => True) ⟨_, rfl, Kd.R_nil _ _ _ _ _⟩ (fun _ hk => hk) trivial (of_decide_eq_true (by first | (with_reducible assumption) | assumption)) (Nat.le_trans (Nat.mul_le_mul_right _ (of_decide_eq_true (by first | (with_reducible assumption) | assumption) : ji3.toNat ≤ 11728124029610)) (by omega)) (Below.refl _ _) (Nat.le_refl _) ?_; intro v102 w6 ho7 hb hg_ hnew_; clear hg_ hnew_; (first | rw [← Ny101.out] at ho7 | (simp only [Int.reduceToNat] at ho7; rw [← Ny101.out] at ho7)); have n0_ := Aside0.mk (Kd.S_lower ho7 (below_size (by repeat (first | (with_reducible first | exact HB.out | apply below_alloc | apply pw_below_drewN | apply below_drew1) | exact HB.out)))); have n1_ := Aside0.mk (below_step (by repeat (first | (with_reducible first | exact HB.out | apply below_alloc | apply pw_below_drewN | apply below_drew1) | exact HB.out)) hb); clear HB; have HO103 := n0_; have HB := n1_; clear n0_ n1_; clear hb ho7; obtain ⟨Ao8, co8, eo8⟩ := Kd.S_slice HO103.out; subst eo8))
      go_loopg [13] k (fun kq v13 w' => ∃ (x5_1 : List (List Int)) (x13_1 : Int), v13 = .int .i64 x13_1 ∧ Aside0 (lanes_table.l0 kq a1 x5_1 (y101.length : Int) x13_1 = some r) ∧ Aside0 (kq ≤ k) ∧ Aside0 (Kd.S (Kd.slice 3 (Kd.int .i64)) 22 w' w.heap.size (fun _ => True) (.slice Ao8 y101.length co8) x5_1) ∧ Aside0 (Below w.heap.size w w'))
      case atStart => exact ⟨(y101), (0), (by first | rfl | (simp; done) | (simp [*]; done)), H', ⟨Nat.le_refl _⟩, ⟨by (with_reducible repeat (first | apply Kd.S_alloc | apply Kd.S_drewN | apply Kd.S_drew)); exact HO103.out⟩, ⟨by repeat (first | (with_reducible first | exact HB.out | apply below_alloc | apply pw_below_drewN | apply below_drew1) | exact HB.out)⟩⟩
      case round =>
        clear H'
        try clear c1
        try clear p2
        try clear c4
        try clear c4b0
        try clear c4b1
        try clear c5
        try clear c5b0
        try clear c5b1
        try clear p6
        obtain ⟨x5_1, x13_1, rfl, HA, HK1, HO_5, HB⟩ := hrel
        have hl5_1 := (Kd.S_reads' HO_5.out).1
        rw [hl5_1] at HO_5
        (try simp only [hl5_1])
        cases gk with
        | zero => exact absurd HA.out (by simp [lanes_table.l0])
        | succ k1 =>
          have H := HA.out
          clear HA
          simp only [lanes_table.l0] at H
          by_cases c9 : x13_1 < (y101.length : Int)
          · rw [if_pos c9] at H
            have c9b0 : decide (x13_1 < (y101.length : Int)) = true := decide_eq_true c9
            (try (have c9b1 : decide ((y101.length : Int) ≤ x13_1) = false := decide_eq_false (by omega)))
            clear c9
            obtain ⟨ji10, hji10⟩ : ∃ j_ : Int, (wrap64 (a1 + 1)) = j_ := ⟨_, rfl⟩
            replace H : (if 0 ≤ (ji10) then (if (ji10 : Int).toNat ≤ 35184372088832 then (if 0 ≤ x13_1 then (if x13_1 < (x5_1.length : Int) then ((some (x5_1.set (x13_1 : Int).toNat (List.replicate (ji10 : Int).toNat 0) : List (List Int))).bind fun y107 => (lanes_table.l1 k1 a1 y107 x13_1 (y101.length : Int) x13_1 ((rd_L1 y107 x13_1).length : Int) 0)) else (none)) else (none)) else (none)) else (none)) = some r := by first | (rw [hji10] at H; exact H) | (simp only [hji10] at H ⊢; exact H)
            have hji10w : (IntKind.i64.wrap (a1 + 1)) = ji10 := (i64_w _).trans hji10
            by_cases c11 : 0 ≤ (ji10)
            · rw [if_pos c11] at H
              have c11b0 := eq_true c11
              have c11b1 : decide (0 ≤ (ji10)) = true := decide_eq_true c11
              clear c11
              by_cases c12 : (ji10 : Int).toNat ≤ 35184372088832
              · rw [if_pos c12] at H
                have c12b0 := eq_true c12
                have c12b1 : decide ((ji10 : Int).toNat ≤ 35184372088832) = true := decide_eq_true c12
                clear c12
                obtain ⟨y104, hy104⟩ : ∃ y_ : List Int, y_ = (List.replicate (ji10 : Int).toNat 0) := ⟨_, rfl⟩
                replace H : (if 0 ≤ x13_1 then (if x13_1 < (x5_1.length : Int) then ((some (x5_1.set (x13_1 : Int).toNat y104 : List (List Int))).bind fun y107 => (lanes_table.l1 k1 a1 y107 x13_1 (y101.length : Int) x13_1 ((rd_L1 y107 x13_1).length : Int) 0)) else (none)) else (none)) = some r := by first | (rw [hy104]; with_reducible exact H) | (have H2_ := (Option.bind_some _ _).symm.trans H; rw [hy104]; with_reducible exact H2_) | (have H2_ := (Option.bind_some _ _).symm.trans H; with_reducible exact H2_) | with_reducible exact H | (rw [hy104]; exact H) | exact H
                have Ny104 := Aside0.mk hy104
                clear hy104
                by_cases c13 : 0 ≤ x13_1
                · rw [if_pos c13] at H
                  have c13b0 : decide (0 ≤ x13_1) = true := decide_eq_true c13
                  (try (have c13b1 : decide (x13_1 < 0) = false := decide_eq_false (by omega)))
                  clear c13
                  by_cases c14 : x13_1 < (x5_1.length : Int)
                  · rw [if_pos c14] at H
                    have c14b0 : decide (x13_1 < (x5_1.length : Int)) = true := decide_eq_true c14
                    (try (have c14b1 : decide ((x5_1.length : Int) ≤ x13_1) = false := decide_eq_false (by omega)))
                    clear c14
                    obtain ⟨y107, hy107⟩ : ∃ y_ : List (List Int), y_ = (x5_1.set (x13_1 : Int).toNat y104) := ⟨_, rfl⟩
                    replace H : (lanes_table.l1 k1 a1 y107 x13_1 (y101.length : Int) x13_1 ((rd_L1 y107 x13_1).length : Int) 0) = some r := by first | (rw [hy107]; with_reducible exact H) | (have H2_ := (Option.bind_some _ _).symm.trans H; rw [hy107]; with_reducible exact H2_) | (have H2_ := (Option.bind_some _ _).symm.trans H; with_reducible exact H2_) | with_reducible exact H | (rw [hy107]; exact H) | exact H
                    have Ny107 := Aside0.mk hy107
                    clear hy107
                    have H' := Aside0.mk H
                    clear H
                    go_wp2_with (first | ((with_reducible refine gate_dst (N := 20) rfl ?_); refine Kd.R_make (Kd.int .i64) _ 3 rfl (N := 20) rfl 22 _ _ rfl ji10 rfl rfl Try.underlying22 (.int .i64 0) 8 info3 rfl (by decide) (by omega) 0 (ok := fun _ => True) (okp := fun _ => True) rfl (fun _ hk => hk) trivial (of_decide_eq_true (by first | (with_reducible assumption) | assumption)) (Nat.le_trans (Nat.mul_le_mul_right _ (of_decide_eq_true (by first | (with_reducible assumption) | assumption) : ji10.toNat ≤ 35184372088832)) (by omega)) (Below.refl _ _) (Nat.le_refl _) ?_; intro v105 w16 ho17 hb hg_ hnew_; clear hg_ hnew_; (first | rw [← Ny104.out] at ho17 | (simp only [Int.reduceToNat] at ho17; rw [← Ny104.out] at ho17)); have n0_ := Aside0.mk (Kd.S_elder' (by (with_reducible repeat (first | apply Kd.S_alloc | apply Kd.S_drewN | apply Kd.S_drew)); exact HO_5.out) (Kd.R_base ho17) hb); have n1_ := Aside0.mk (Kd.R_lower ho17 (below_size (by repeat (first | (with_reducible first | exact HB.out | apply below_alloc | apply pw_below_drewN | apply below_drew1) | exact HB.out)))); have n2_ := Aside0.mk (below_step (by repeat (first | (with_reducible first | exact HB.out | apply below_alloc | apply pw_below_drewN | apply below_drew1) | exact HB.out)) hb); clear HO_5; clear HB; have HO_5 := n0_; have HO106 := n1_; have HB := n2_; clear n0_ n1_ n2_; clear hb ho17; obtain ⟨Av105, cv105, rfl⟩ := Kd.R_slice HO106.out; have p15 : 0 ≤ (x13_1 : Int) := of_decide_eq_true (by first | (with_reducible assumption) | assumption); have q15 : (x13_1 : Int) < ((x5_1.length : Int) : Int) := of_decide_eq_true (by first | (with_reducible assumption) | assumption); obtain ⟨go15, co15, eo15, gb15, gl15, cl15, HG15⟩ := Kd.S_form HO_5.out (by omega); (first | cases eo15 | (injection eo15 with ea_ en_ ec_; (first | subst ea_ | (injection ea_ with ea_; subst ea_)); subst ec_; clear en_)); have GB15 := Aside0.mk gb15; have GG15 := Aside0.mk HG15; clear gb15 gl15 HG15; obtain ⟨_, ce15, hcl15, hM15, hcc15, hfr15, _, _⟩ := Kd.S_elem HO_5.out [] (x13_1 : Int) p15 q15; obtain ⟨ve15_0, rfl, ge15_0⟩ := hM15; have hx15_0 := hcc15 0 _ rfl; have hf15_0 := hfr15 0; (try simp only [show ((Kd.slice 3 (Kd.int .i64))).sz = 1 from rfl, Nat.mul_one, Nat.add_zero] at hx15_0); (try simp only [show ((Kd.slice 3 (Kd.int .i64))).sz = 1 from rfl, Nat.mul_one, Nat.add_zero] at hf15_0); (try clear hcl15); (try clear hcc15); (try clear hfr15); (try clear hM15); replace p15 := eq_true p15; replace q15 := eq_true q15; have n_ := Aside0.mk (Kd.S_mono (ok' := (fun k_ => some k_ ≠ ((.slice Av105 y104.length cv105 : Value) : Value).ownBlock)) HO_5.out (fun k_ hk => hk.2)); clear HO_5; have HO_5 := n_; clear n_; have HX18 := Aside0.mk (show Kd.S (Kd.slice 3 (Kd.int .i64)) 22 w16 w.heap.size (fun k_ => ((fun _ => True)) k_ ∧ ¬ ((fun k_ => some k_ = ((.slice Av105 y104.length cv105 : Value) : Value).ownBlock)) k_) (.slice (some ⟨go15, 0, none⟩) x5_1.length co8) x5_1 from (by (with_reducible repeat (first | apply Kd.S_alloc | apply Kd.S_drewN | apply Kd.S_drew)); exact Kd.S_mono HO_5.out (fun k_ hk => ⟨trivial, fun e_ => hk e_⟩))); obtain ⟨oki18, ce18, hcl18, hM18, hcc18, hfr18, hoki18, hH18⟩ := Kd.S_elem HX18.out [] (x13_1 : Int) (of_decide_eq_true (by first | (with_reducible assumption) | assumption)) (by have h_ : (x13_1 : Int) < ((x5_1.length : Int) : Int) := of_decide_eq_true (by first | (with_reducible assumption) | assumption); first | exact h_ | (have e_ := (Kd.S_reads' HO_5.out).1; omega) | simpa using h_); obtain ⟨ve18_0, rfl, ge18_0⟩ := hM18; have HP18 := Kd.S_seg hH18 (of_decide_eq_true (by first | (with_reducible assumption) | assumption)) (by have h_ : (x13_1 : Int) < ((x5_1.length : Int) : Int) := of_decide_eq_true (by first | (with_reducible assumption) | assumption); first | exact h_ | (have e_ := (Kd.S_reads' HO_5.out).1; omega) | simpa using h_) (seg := [(.slice Av105 y104.length cv105 : Value)]) (j := 0) (show 1 ≤ 1 from by decide) (x' := y104) (Kd.M_row (Kd.R_mono (Kd.R_tight rfl (Kd.R_mono (ok' := fun k_ => ((fun _ => True)) k_ ∧ k_ ≠ go15) (Kd.R_apart' (HO106.out) (Kd.S_typed HO_5.out) (by decide)) (fun k_ hk => ⟨trivial, fun e_ => (hk.2) (by rw [e_]; rfl)⟩))) (fun _ h_ => Or.inr (h_)))) (fun _ hk => hk) (fun k_ hk_ => ((Kd.R_mono (ok' := fun k_ => ((fun _ => True)) k_ ∧ k_ ≠ go15) (Kd.R_apart' (HO106.out) (Kd.S_typed HO_5.out) (by decide)) (fun k_ hk => ⟨trivial, fun e_ => (hk.2) (by rw [e_]; rfl)⟩))).1 k_ hk_.symm); have hx18_0 := hcc18 0 _ rfl; (try simp only [show ((Kd.slice 3 (Kd.int .i64))).sz = 1 from rfl, Nat.mul_one, Nat.add_zero] at hx18_0); have hf18_0 := hfr18 0; (try simp only [show ((Kd.slice 3 (Kd.int .i64))).sz = 1 from rfl, Nat.mul_one, Nat.add_zero] at hf18_0); (try clear hcl18); (try clear hcc18); (try clear hfr18); (try clear hM18); (try clear hoki18); (try clear hH18); (try simp only [show ((Kd.slice 3 (Kd.int .i64))).sz = 1 from rfl, Nat.mul_one, Nat.add_zero] at HP18)) | ((with_reducible refine gate_store (t := 22) (p := 21) rfl ?_); refine store_event (t := 22) (p := 21) (v := ?vo_w19) (w1 := (w16.setCell ⟨go15, (x13_1 : Int).toNat, none⟩ ((.slice Av105 y104.length cv105 : Value)))) ?hg ?ho ?hn ?hr ?_; (case ho => rfl); (case hg => rfl); (case hn => rfl); (case hr => first | (go_simp; done) | (go_simp; rfl)); intro w19 hw; have hg : w16.grownBy w19 (some go15) := (by rw [hw]; exact HP18.2); have hp_ : Kd.S (Kd.slice 3 (Kd.int .i64)) 22 w19 w.heap.size (fun _ => True) (.slice (some ⟨go15, 0, none⟩) x5_1.length co8) y107 := (by rw [hw, Ny107.out]; exact HP18.1); clear HP18; have n0_ := Aside0.mk (hp_); have n1_ := Aside0.mk ((by rw [hw]; exact below_set (HB.out) GB15.out : Below w.heap.size w w19)); clear HO_5; clear HB; clear HO106; have HO_5 := n0_; have HB := n1_; clear n0_ n1_; clear hg hw hp_; have p108 : 0 ≤ (x13_1 : Int) := of_decide_eq_true (by first | (with_reducible assumption) | assumption); have q108 : x13_1 < (y107.length : Int) := (by have h_ : (x13_1 : Int) < ((x5_1.length : Int) : Int) := of_decide_eq_true (by first | (with_reducible assumption) | assumption); first | (have e_ := (Kd.S_reads' HO_5.out).1; omega) | simpa only [Ny107.out, List.length_set] using h_); have ql108 : ((x13_1 : Int) < ((x5_1.length : Int) : Int)) = True := eq_true (of_decide_eq_true (by first | (with_reducible assumption) | assumption)); obtain ⟨ad108, A108_0, c108_0, e108, hx108_0, hl108_0, hi108_0⟩ := at_L1 (Kd.S_reads' HO_5.out).2.2 x13_1 p108 q108; obtain rfl : (⟨go15, 0, none⟩ : Addr) = ad108 := (by injection e108); obtain ⟨ce108, hce108, hMe108, hcc108⟩ := Kd.S_get HO_5.out [] x13_1 p108 (by first | exact q108 | exact of_decide_eq_true (by first | (with_reducible assumption) | assumption) | (have e_ := (Kd.S_reads' HO_5.out).1; omega)); obtain ⟨ve108_0, rfl, ge108_0⟩ := hMe108; have hv108_0 := hcc108 0 _ rfl; rw [Nat.add_zero, show ((Kd.slice 3 (Kd.int .i64))).sz = 1 from rfl, Nat.mul_one] at hv108_0; replace hv108_0 := Option.some.inj (hv108_0.symm.trans hx108_0); rw [hv108_0] at ge108_0; have HL108_0 := Aside0.mk (show Kd.R (Kd.int .i64) 3 _ _ _ _ (rd_L1 y107 x13_1) from ge108_0); clear hv108_0 ge108_0; have HX108_0 := Aside0.mk hx108_0; clear hcc108 hce108; (first | simp only [add_plain] at hx108_0 | simp only [add_at] at hx108_0 | simp only [Addr.add, Nat.zero_add] at hx108_0 | skip); have HR108_0 := Aside0.mk hi108_0; have HC108_0 := Aside0.mk hl108_0; clear hi108_0 hl108_0; replace p108 := eq_true p108; replace q108 := eq_true q108))
                    go_loopg [27] k1 (fun kq v27 w' => ∃ (x5_2 : List (List Int)) (x27_2 : Int), v27 = .int .i64 x27_2 ∧ Aside0 (lanes_table.l1 kq a1 x5_2 x13_1 (y101.length : Int) x13_1 ((rd_L1 y107 x13_1).length : Int) x27_2 = some r) ∧ Aside0 (kq ≤ k1) ∧ Aside0 (Kd.S (Kd.slice 3 (Kd.int .i64)) 22 w' w.heap.size (fun _ => True) (.slice (some ⟨go15, 0, none⟩) x5_1.length co8) x5_2) ∧ Aside0 (Below w.heap.size w w'))
                    case atStart => exact ⟨(y107), (0), (by first | rfl | (simp; done) | (simp [*]; done)), H', ⟨Nat.le_refl _⟩, ⟨by (try simp only [hl5_1]); (with_reducible repeat (first | apply Kd.S_alloc | apply Kd.S_drewN | apply Kd.S_drew)); exact HO_5.out⟩, ⟨by repeat (first | (with_reducible first | exact HB.out | apply below_alloc | apply pw_below_drewN | apply below_drew1) | exact HB.out)⟩⟩
                    case round =>
                      clear H'
                      try clear c1
                      try clear p1
                      try clear q1
                      try clear hx1
                      try clear p2
                      try clear c4
                      try clear c4b0
                      try clear c4b1
                      try clear c5
                      try clear c5b0
                      try clear c5b1
                      try clear p6
                      try clear c9
                      try clear c9b0
                      try clear c9b1
                      try clear c10
                      try clear p10
                      try clear q10
                      try clear hx10
                      try clear c11
                      try clear c11b0
                      try clear c11b1
                      try clear c12
                      try clear c12b0
                      try clear c12b1
                      try clear c13
                      try clear c13b0
                      try clear c13b1
                      try clear c14
                      try clear c14b0
                      try clear c14b1
                      try clear c15
                      try clear p15
                      try clear q15
                      try clear hx15
                      try clear hf15
                      try clear c18
                      try clear hx18
                      try clear hf18
                      try clear hx108_0
                      try clear hx15_0
                      try clear hx18_0
                      try clear p108
                      try clear p15
                      try clear p2
                      try clear p6
                      try clear q108
                      try clear q15
                      obtain ⟨x5_2, x27_2, rfl, HA, HK2, HO_5, HB⟩ := hrel
                      have hl5_2 := (Kd.S_reads' HO_5.out).1
                      rw [hl5_2] at HO_5
                      (try simp only [hl5_2])
                      cases gk with
                      | zero => exact absurd HA.out (by simp [lanes_table.l1])
                      | succ k2 =>
                        have H := HA.out
                        clear HA
                        simp only [lanes_table.l1] at H
                        by_cases c20 : x27_2 < ((rd_L1 y107 x13_1).length : Int)
                        · rw [if_pos c20] at H
                          have c20b0 : decide (x27_2 < ((rd_L1 y107 x13_1).length : Int)) = true := decide_eq_true c20
                          (try (have c20b1 : decide (((rd_L1 y107 x13_1).length : Int) ≤ x27_2) = false := decide_eq_false (by omega)))
                          clear c20
                          by_cases c21 : x13_1 = 0
                          · rw [if_pos c21] at H
                            have c21b0 : (x13_1 == 0) = true := beq_iff_eq.mpr c21
                            have c21b1 : (x13_1 != 0) = false := bne_eq_false_iff_eq.mpr c21
                            clear c21
                            by_cases c22 : 0 ≤ x13_1
                            · rw [if_pos c22] at H
                              have c22b0 : decide (0 ≤ x13_1) = true := decide_eq_true c22
                              (try (have c22b1 : decide (x13_1 < 0) = false := decide_eq_false (by omega)))
                              clear c22
                              by_cases c23 : x13_1 < (x5_2.length : Int)
                              · rw [if_pos c23] at H
                                have c23b0 : decide (x13_1 < (x5_2.length : Int)) = true := decide_eq_true c23
                                (try (have c23b1 : decide ((x5_2.length : Int) ≤ x13_1) = false := decide_eq_false (by omega)))
                                clear c23
                                by_cases c24 : 0 ≤ x27_2
                                · rw [if_pos c24] at H
                                  have c24b0 : decide (0 ≤ x27_2) = true := decide_eq_true c24
                                  (try (have c24b1 : decide (x27_2 < 0) = false := decide_eq_false (by omega)))
                                  clear c24
                                  by_cases c25 : x27_2 < ((rd_L1 x5_2 x13_1).length : Int)
                                  · rw [if_pos c25] at H
                                    have c25b0 : decide (x27_2 < ((rd_L1 x5_2 x13_1).length : Int)) = true := decide_eq_true c25
                                    (try (have c25b1 : decide (((rd_L1 x5_2 x13_1).length : Int) ≤ x27_2) = false := decide_eq_false (by omega)))
                                    clear c25
                                    obtain ⟨y110, hy110⟩ : ∃ y_ : List Int, y_ = ((rd_L1 x5_2 x13_1).set (x27_2 : Int).toNat 1) := ⟨_, rfl⟩
                                    replace H : (lanes_table.l1 k2 a1 (x5_2.set (x13_1 : Int).toNat y110) x13_1 (y101.length : Int) x13_1 ((rd_L1 y107 x13_1).length : Int) (wrap64 (x27_2 + 1))) = some r := by first | (rw [hy110]; with_reducible exact H) | (have H2_ := (Option.bind_some _ _).symm.trans H; rw [hy110]; with_reducible exact H2_) | (have H2_ := (Option.bind_some _ _).symm.trans H; with_reducible exact H2_) | with_reducible exact H | (rw [hy110]; exact H) | exact H
                                    have Ny110 := Aside0.mk hy110
                                    clear hy110
                                    obtain ⟨y112, hy112⟩ : ∃ y_ : List (List Int), y_ = (x5_2.set (x13_1 : Int).toNat y110) := ⟨_, rfl⟩
                                    replace H : (lanes_table.l1 k2 a1 y112 x13_1 (y101.length : Int) x13_1 ((rd_L1 y107 x13_1).length : Int) (wrap64 (x27_2 + 1))) = some r := by first | (rw [hy112]; with_reducible exact H) | (have H2_ := (Option.bind_some _ _).symm.trans H; rw [hy112]; with_reducible exact H2_) | (have H2_ := (Option.bind_some _ _).symm.trans H; with_reducible exact H2_) | with_reducible exact H | (rw [hy112]; exact H) | exact H
                                    have Ny112 := Aside0.mk hy112
                                    clear hy112
                                    have H' := Aside0.mk H
                                    clear H
                                    have p109 : 0 ≤ (x13_1 : Int) := of_decide_eq_true (by first | (with_reducible assumption) | assumption)
                                    have q109 : x13_1 < (x5_2.length : Int) := of_decide_eq_true (by first | (with_reducible assumption) | assumption)
                                    obtain ⟨ad109, A109_0, c109_0, e109, hx109_0, hl109_0, hi109_0⟩ := at_L1 (Kd.S_reads' HO_5.out).2.2 x13_1 p109 q109
                                    obtain rfl : (⟨go15, 0, none⟩ : Addr) = ad109 := (by injection e109)
                                    obtain ⟨ce109, hce109, hMe109, hcc109⟩ := Kd.S_get HO_5.out [] x13_1 p109 (by first | exact q109 | exact of_decide_eq_true (by first | (with_reducible assumption) | assumption) | (have e_ := (Kd.S_reads' HO_5.out).1; omega))
                                    obtain ⟨ve109_0, rfl, ge109_0⟩ := hMe109
                                    have hv109_0 := hcc109 0 _ rfl
                                    rw [Nat.add_zero, show ((Kd.slice 3 (Kd.int .i64))).sz = 1 from rfl, Nat.mul_one] at hv109_0
                                    replace hv109_0 := Option.some.inj (hv109_0.symm.trans hx109_0)
                                    rw [hv109_0] at ge109_0
                                    have HL109_0 := Aside0.mk (show Kd.R (Kd.int .i64) 3 _ _ _ _ (rd_L1 x5_2 x13_1) from ge109_0)
                                    clear hv109_0 ge109_0
                                    have HX109_0 := Aside0.mk hx109_0
                                    clear hcc109 hce109
                                    (first | simp only [add_plain] at hx109_0 | simp only [add_at] at hx109_0 | simp only [Addr.add, Nat.zero_add] at hx109_0 | skip)
                                    have HR109_0 := Aside0.mk hi109_0
                                    have HC109_0 := Aside0.mk hl109_0
                                    clear hi109_0 hl109_0
                                    replace p109 := eq_true p109
                                    replace q109 := eq_true q109
                                    have p26 : 0 ≤ (x27_2 : Int) := of_decide_eq_true (by first | (with_reducible assumption) | assumption)
                                    have q26 : (x27_2 : Int) < (((rd_L1 x5_2 x13_1).length : Int) : Int) := of_decide_eq_true (by first | (with_reducible assumption) | assumption)
                                    obtain ⟨go26, co26, eo26, gb26, gl26, cl26, HG26⟩ := Kd.R_form HL109_0.out (by omega)
                                    (first | cases eo26 | (injection eo26 with ea_ en_ ec_; (first | subst ea_ | (injection ea_ with ea_; subst ea_)); subst ec_; clear en_))
                                    have GB26 := Aside0.mk gb26
                                    have GG26 := Aside0.mk HG26
                                    clear gb26 gl26 HG26
                                    obtain ⟨hx26_0, hf26_0⟩ := Kd.R_celln 0 HL109_0.out (x27_2 : Int) p26 q26
                                    replace p26 := eq_true p26
                                    replace q26 := eq_true q26
                                    have hq27 : (x13_1 : Int) < (x5_2.length : Int) := (by have h_ : (x13_1 : Int) < ((x5_2.length : Int) : Int) := of_decide_eq_true (by first | (with_reducible assumption) | assumption); first | exact h_ | (have e_ := (Kd.S_reads' HO_5.out).1; omega) | simpa only [List.length_set, List.length_set] using h_)
                                    obtain ⟨oki27, ce27, hcl27, hM27, hcc27, hok27, hbk27⟩ := Kd.S_borrow HO_5.out [] (x13_1 : Int) (of_decide_eq_true (by first | (with_reducible assumption) | assumption)) hq27
                                    obtain ⟨ve27_0, rfl, ge27_0⟩ := hM27
                                    have hv27 := hcc27 0 _ rfl
                                    rw [Nat.add_zero, show ((Kd.slice 3 (Kd.int .i64))).sz = 1 from rfl, Nat.mul_one] at hv27
                                    replace hv27 := Option.some.inj (hv27.symm.trans HX109_0.out)
                                    subst hv27
                                    clear hcc27 hcl27
                                    replace ge27_0 := (show Kd.R (Kd.int .i64) 3 _ _ _ _ (rd_L1 x5_2 x13_1) from ge27_0)
                                    have HP27 := Kd.R_putg ge27_0 (x27_2 : Int) 1
                                    go_wp2_with (first | ((with_reducible refine gate_store (t := 3) (p := 41) rfl ?_); refine store_event (t := 3) (p := 41) (v := ?vo_w28) (w1 := (wr.setCell ⟨go26, (x27_2 : Int).toNat, none⟩ (.int .i64 1))) ?hg ?ho ?hn ?hr ?_; (case ho => rfl); (case hg => rfl); (case hn => rfl); (case hr => first | (go_simp; done) | (go_simp; rfl)); intro w28 hw; have hg : wr.grownBy w28 (some go26) := (by rw [hw]; exact HP27.2); have hz_ : Kd.R (Kd.int .i64) 3 w28 w.heap.size oki27 (.slice (some ⟨go26, 0, none⟩) (rd_L1 x5_2 x13_1).length c109_0) y110 := (by rw [hw, Ny110.out]; exact HP27.1); have hp_ : Kd.S (Kd.slice 3 (Kd.int .i64)) 22 w28 w.heap.size (fun _ => True) (.slice (some ⟨go15, 0, none⟩) x5_2.length co8) y112 := (by rw [Ny112.out]; exact hbk27 hg (fun k_ e_ => by injection e_ with e_; subst e_; exact ge27_0.1 _ rfl) (Kd.M_row hz_)); have hm_ := Kd.R_mono hz_ hok27; clear HP27 hbk27; have n0_ := Aside0.mk (hp_); have n1_ := Aside0.mk ((by rw [hw]; exact below_set (HB.out) GB26.out : Below w.heap.size w w28)); have n2_ := Aside0.mk (hm_); have n3_ := Aside0.mk ((Kd.R_reads' hm_).2.1); clear HO_5; clear HB; clear HL109_0; have HO_5 := n0_; have HB := n1_; have HL125 := n2_; have HC111 := n3_; clear n0_ n1_ n2_ n3_; clear hg hw hp_ hz_ hm_ hok27))
                                    (try simp only [← hl5_2])
                                    go_roundg k2
                                    case measure => have := HK1.out; have := HK2.out; omega
                                    case rel => exact ⟨(y112), (wrap64 (x27_2 + 1)), (by first | rfl | (simp; done) | (simp [*]; done)), H', ⟨by have := HK1.out; have := HK2.out; omega⟩, ⟨by (try simp only [hl5_1]); (try simp only [hl5_2]); (with_reducible repeat (first | apply Kd.S_alloc | apply Kd.S_drewN | apply Kd.S_drew)); exact HO_5.out⟩, ⟨by repeat (first | (with_reducible first | exact HB.out | apply below_alloc | apply pw_below_drewN | apply below_drew1) | exact HB.out)⟩⟩
                                  · rw [if_neg c25] at H
                                    exact absurd H (by simp)
                                · rw [if_neg c24] at H
                                  exact absurd H (by simp)
                              · rw [if_neg c23] at H
                                exact absurd H (by simp)
                            · rw [if_neg c22] at H
                              exact absurd H (by simp)
                          · rw [if_neg c21] at H
                            have c21b0 : (x13_1 == 0) = false := beq_eq_false_iff_ne.mpr c21
                            have c21b1 : (x13_1 != 0) = true := bne_iff_ne.mpr c21
                            by_cases c29 : x27_2 = 0
                            · rw [if_pos c29] at H
                              have c29b0 : (x27_2 == 0) = true := beq_iff_eq.mpr c29
                              have c29b1 : (x27_2 != 0) = false := bne_eq_false_iff_eq.mpr c29
                              clear c29
                              by_cases c30 : 0 ≤ x13_1
                              · rw [if_pos c30] at H
                                have c30b0 : decide (0 ≤ x13_1) = true := decide_eq_true c30
                                (try (have c30b1 : decide (x13_1 < 0) = false := decide_eq_false (by omega)))
                                clear c30
                                by_cases c31 : x13_1 < (x5_2.length : Int)
                                · rw [if_pos c31] at H
                                  have c31b0 : decide (x13_1 < (x5_2.length : Int)) = true := decide_eq_true c31
                                  (try (have c31b1 : decide ((x5_2.length : Int) ≤ x13_1) = false := decide_eq_false (by omega)))
                                  clear c31
                                  by_cases c32 : 0 ≤ x27_2
                                  · rw [if_pos c32] at H
                                    have c32b0 : decide (0 ≤ x27_2) = true := decide_eq_true c32
                                    (try (have c32b1 : decide (x27_2 < 0) = false := decide_eq_false (by omega)))
                                    clear c32
                                    by_cases c33 : x27_2 < ((rd_L1 x5_2 x13_1).length : Int)
                                    · rw [if_pos c33] at H
                                      have c33b0 : decide (x27_2 < ((rd_L1 x5_2 x13_1).length : Int)) = true := decide_eq_true c33
                                      (try (have c33b1 : decide (((rd_L1 x5_2 x13_1).length : Int) ≤ x27_2) = false := decide_eq_false (by omega)))
                                      clear c33
                                      obtain ⟨y114, hy114⟩ : ∃ y_ : List Int, y_ = ((rd_L1 x5_2 x13_1).set (x27_2 : Int).toNat 1) := ⟨_, rfl⟩
                                      replace H : (lanes_table.l1 k2 a1 (x5_2.set (x13_1 : Int).toNat y114) x13_1 (y101.length : Int) x13_1 ((rd_L1 y107 x13_1).length : Int) (wrap64 (x27_2 + 1))) = some r := by first | (rw [hy114]; with_reducible exact H) | (have H2_ := (Option.bind_some _ _).symm.trans H; rw [hy114]; with_reducible exact H2_) | (have H2_ := (Option.bind_some _ _).symm.trans H; with_reducible exact H2_) | with_reducible exact H | (rw [hy114]; exact H) | exact H
                                      have Ny114 := Aside0.mk hy114
                                      clear hy114
                                      obtain ⟨y116, hy116⟩ : ∃ y_ : List (List Int), y_ = (x5_2.set (x13_1 : Int).toNat y114) := ⟨_, rfl⟩
                                      replace H : (lanes_table.l1 k2 a1 y116 x13_1 (y101.length : Int) x13_1 ((rd_L1 y107 x13_1).length : Int) (wrap64 (x27_2 + 1))) = some r := by first | (rw [hy116]; with_reducible exact H) | (have H2_ := (Option.bind_some _ _).symm.trans H; rw [hy116]; with_reducible exact H2_) | (have H2_ := (Option.bind_some _ _).symm.trans H; with_reducible exact H2_) | with_reducible exact H | (rw [hy116]; exact H) | exact H
                                      have Ny116 := Aside0.mk hy116
                                      clear hy116
                                      have H' := Aside0.mk H
                                      clear H
                                      have p113 : 0 ≤ (x13_1 : Int) := of_decide_eq_true (by first | (with_reducible assumption) | assumption)
                                      have q113 : x13_1 < (x5_2.length : Int) := of_decide_eq_true (by first | (with_reducible assumption) | assumption)
                                      obtain ⟨ad113, A113_0, c113_0, e113, hx113_0, hl113_0, hi113_0⟩ := at_L1 (Kd.S_reads' HO_5.out).2.2 x13_1 p113 q113
                                      obtain rfl : (⟨go15, 0, none⟩ : Addr) = ad113 := (by injection e113)
                                      obtain ⟨ce113, hce113, hMe113, hcc113⟩ := Kd.S_get HO_5.out [] x13_1 p113 (by first | exact q113 | exact of_decide_eq_true (by first | (with_reducible assumption) | assumption) | (have e_ := (Kd.S_reads' HO_5.out).1; omega))
                                      obtain ⟨ve113_0, rfl, ge113_0⟩ := hMe113
                                      have hv113_0 := hcc113 0 _ rfl
                                      rw [Nat.add_zero, show ((Kd.slice 3 (Kd.int .i64))).sz = 1 from rfl, Nat.mul_one] at hv113_0
                                      replace hv113_0 := Option.some.inj (hv113_0.symm.trans hx113_0)
                                      rw [hv113_0] at ge113_0
                                      have HL113_0 := Aside0.mk (show Kd.R (Kd.int .i64) 3 _ _ _ _ (rd_L1 x5_2 x13_1) from ge113_0)
                                      clear hv113_0 ge113_0
                                      have HX113_0 := Aside0.mk hx113_0
                                      clear hcc113 hce113
                                      (first | simp only [add_plain] at hx113_0 | simp only [add_at] at hx113_0 | simp only [Addr.add, Nat.zero_add] at hx113_0 | skip)
                                      have HR113_0 := Aside0.mk hi113_0
                                      have HC113_0 := Aside0.mk hl113_0
                                      clear hi113_0 hl113_0
                                      replace p113 := eq_true p113
                                      replace q113 := eq_true q113
                                      have p34 : 0 ≤ (x27_2 : Int) := of_decide_eq_true (by first | (with_reducible assumption) | assumption)
                                      have q34 : (x27_2 : Int) < (((rd_L1 x5_2 x13_1).length : Int) : Int) := of_decide_eq_true (by first | (with_reducible assumption) | assumption)
                                      obtain ⟨go34, co34, eo34, gb34, gl34, cl34, HG34⟩ := Kd.R_form HL113_0.out (by omega)
                                      (first | cases eo34 | (injection eo34 with ea_ en_ ec_; (first | subst ea_ | (injection ea_ with ea_; subst ea_)); subst ec_; clear en_))
                                      have GB34 := Aside0.mk gb34
                                      have GG34 := Aside0.mk HG34
                                      clear gb34 gl34 HG34
                                      obtain ⟨hx34_0, hf34_0⟩ := Kd.R_celln 0 HL113_0.out (x27_2 : Int) p34 q34
                                      replace p34 := eq_true p34
                                      replace q34 := eq_true q34
                                      have hq35 : (x13_1 : Int) < (x5_2.length : Int) := (by have h_ : (x13_1 : Int) < ((x5_2.length : Int) : Int) := of_decide_eq_true (by first | (with_reducible assumption) | assumption); first | exact h_ | (have e_ := (Kd.S_reads' HO_5.out).1; omega) | simpa only [List.length_set, List.length_set] using h_)
                                      obtain ⟨oki35, ce35, hcl35, hM35, hcc35, hok35, hbk35⟩ := Kd.S_borrow HO_5.out [] (x13_1 : Int) (of_decide_eq_true (by first | (with_reducible assumption) | assumption)) hq35
                                      obtain ⟨ve35_0, rfl, ge35_0⟩ := hM35
                                      have hv35 := hcc35 0 _ rfl
                                      rw [Nat.add_zero, show ((Kd.slice 3 (Kd.int .i64))).sz = 1 from rfl, Nat.mul_one] at hv35
                                      replace hv35 := Option.some.inj (hv35.symm.trans HX113_0.out)
                                      subst hv35
                                      clear hcc35 hcl35
                                      replace ge35_0 := (show Kd.R (Kd.int .i64) 3 _ _ _ _ (rd_L1 x5_2 x13_1) from ge35_0)
                                      have HP35 := Kd.R_putg ge35_0 (x27_2 : Int) 1
                                      go_wp2_with (first | ((with_reducible refine gate_store (t := 3) (p := 41) rfl ?_); refine store_event (t := 3) (p := 41) (v := ?vo_w36) (w1 := (wr.setCell ⟨go34, (x27_2 : Int).toNat, none⟩ (.int .i64 1))) ?hg ?ho ?hn ?hr ?_; (case ho => rfl); (case hg => rfl); (case hn => rfl); (case hr => first | (go_simp; done) | (go_simp; rfl)); intro w36 hw; have hg : wr.grownBy w36 (some go34) := (by rw [hw]; exact HP35.2); have hz_ : Kd.R (Kd.int .i64) 3 w36 w.heap.size oki35 (.slice (some ⟨go34, 0, none⟩) (rd_L1 x5_2 x13_1).length c113_0) y114 := (by rw [hw, Ny114.out]; exact HP35.1); have hp_ : Kd.S (Kd.slice 3 (Kd.int .i64)) 22 w36 w.heap.size (fun _ => True) (.slice (some ⟨go15, 0, none⟩) x5_2.length co8) y116 := (by rw [Ny116.out]; exact hbk35 hg (fun k_ e_ => by injection e_ with e_; subst e_; exact ge35_0.1 _ rfl) (Kd.M_row hz_)); have hm_ := Kd.R_mono hz_ hok35; clear HP35 hbk35; have n0_ := Aside0.mk (hp_); have n1_ := Aside0.mk ((by rw [hw]; exact below_set (HB.out) GB34.out : Below w.heap.size w w36)); have n2_ := Aside0.mk (hm_); have n3_ := Aside0.mk ((Kd.R_reads' hm_).2.1); clear HO_5; clear HB; clear HL113_0; have HO_5 := n0_; have HB := n1_; have HL126 := n2_; have HC115 := n3_; clear n0_ n1_ n2_ n3_; clear hg hw hp_ hz_ hm_ hok35))
                                      (try simp only [← hl5_2])
                                      go_roundg k2
                                      case measure => have := HK1.out; have := HK2.out; omega
                                      case rel => exact ⟨(y116), (wrap64 (x27_2 + 1)), (by first | rfl | (simp; done) | (simp [*]; done)), H', ⟨by have := HK1.out; have := HK2.out; omega⟩, ⟨by (try simp only [hl5_1]); (try simp only [hl5_2]); (with_reducible repeat (first | apply Kd.S_alloc | apply Kd.S_drewN | apply Kd.S_drew)); exact HO_5.out⟩, ⟨by repeat (first | (with_reducible first | exact HB.out | apply below_alloc | apply pw_below_drewN | apply below_drew1) | exact HB.out)⟩⟩
                                    · rw [if_neg c33] at H
                                      exact absurd H (by simp)
                                  · rw [if_neg c32] at H
                                    exact absurd H (by simp)
                                · rw [if_neg c31] at H
                                  exact absurd H (by simp)
                              · rw [if_neg c30] at H
                                exact absurd H (by simp)
                            · rw [if_neg c29] at H
                              have c29b0 : (x27_2 == 0) = false := beq_eq_false_iff_ne.mpr c29
                              have c29b1 : (x27_2 != 0) = true := bne_iff_ne.mpr c29
                              by_cases c37 : 0 ≤ x13_1
                              · rw [if_pos c37] at H
                                have c37b0 : decide (0 ≤ x13_1) = true := decide_eq_true c37
                                (try (have c37b1 : decide (x13_1 < 0) = false := decide_eq_false (by omega)))
                                clear c37
                                by_cases c38 : x13_1 < (x5_2.length : Int)
                                · rw [if_pos c38] at H
                                  have c38b0 : decide (x13_1 < (x5_2.length : Int)) = true := decide_eq_true c38
                                  (try (have c38b1 : decide ((x5_2.length : Int) ≤ x13_1) = false := decide_eq_false (by omega)))
                                  clear c38
                                  obtain ⟨ji39, hji39⟩ : ∃ j_ : Int, (wrap64 (x13_1 - 1)) = j_ := ⟨_, rfl⟩
                                  replace H : (if 0 ≤ (ji39) then (if (ji39) < (x5_2.length : Int) then (if 0 ≤ x27_2 then (if x27_2 < ((rd_L1 x5_2 (ji39)).length : Int) then (if 0 ≤ (wrap64 (x27_2 - 1)) then (if (wrap64 (x27_2 - 1)) < ((rd_L1 x5_2 x13_1).length : Int) then (if x27_2 < ((rd_L1 x5_2 x13_1).length : Int) then (lanes_table.l1 k2 a1 (x5_2.set (x13_1 : Int).toNat ((rd_L1 x5_2 x13_1).set (x27_2 : Int).toNat (wrap64 ((rd (rd_L1 x5_2 (ji39)) x27_2) + (rd (rd_L1 x5_2 x13_1) (wrap64 (x27_2 - 1))))))) x13_1 (y101.length : Int) x13_1 ((rd_L1 y107 x13_1).length : Int) (wrap64 (x27_2 + 1))) else (none)) else (none)) else (none)) else (none)) else (none)) else (none)) else (none)) = some r := by first | (rw [hji39] at H; exact H) | (simp only [hji39] at H ⊢; exact H)
                                  have hji39w : (IntKind.i64.wrap (x13_1 - 1)) = ji39 := (i64_w _).trans hji39
                                  by_cases c40 : 0 ≤ (ji39)
                                  · rw [if_pos c40] at H
                                    have c40b0 : decide (0 ≤ (ji39)) = true := decide_eq_true c40
                                    (try (have c40b1 : decide ((ji39) < 0) = false := decide_eq_false (by omega)))
                                    clear c40
                                    by_cases c41 : (ji39) < (x5_2.length : Int)
                                    · rw [if_pos c41] at H
                                      have c41b0 : decide ((ji39) < (x5_2.length : Int)) = true := decide_eq_true c41
                                      (try (have c41b1 : decide ((x5_2.length : Int) ≤ (ji39)) = false := decide_eq_false (by omega)))
                                      clear c41
                                      by_cases c42 : 0 ≤ x27_2
                                      · rw [if_pos c42] at H
                                        have c42b0 : decide (0 ≤ x27_2) = true := decide_eq_true c42
                                        (try (have c42b1 : decide (x27_2 < 0) = false := decide_eq_false (by omega)))
                                        clear c42
                                        by_cases c43 : x27_2 < ((rd_L1 x5_2 (ji39)).length : Int)
                                        · rw [if_pos c43] at H
                                          have c43b0 : decide (x27_2 < ((rd_L1 x5_2 (ji39)).length : Int)) = true := decide_eq_true c43
                                          (try (have c43b1 : decide (((rd_L1 x5_2 (ji39)).length : Int) ≤ x27_2) = false := decide_eq_false (by omega)))
                                          clear c43
                                          obtain ⟨ji44, hji44⟩ : ∃ j_ : Int, (wrap64 (x27_2 - 1)) = j_ := ⟨_, rfl⟩
                                          replace H : (if 0 ≤ (ji44) then (if (ji44) < ((rd_L1 x5_2 x13_1).length : Int) then (if x27_2 < ((rd_L1 x5_2 x13_1).length : Int) then (lanes_table.l1 k2 a1 (x5_2.set (x13_1 : Int).toNat ((rd_L1 x5_2 x13_1).set (x27_2 : Int).toNat (wrap64 ((rd (rd_L1 x5_2 (ji39)) x27_2) + (rd (rd_L1 x5_2 x13_1) (ji44)))))) x13_1 (y101.length : Int) x13_1 ((rd_L1 y107 x13_1).length : Int) (wrap64 (x27_2 + 1))) else (none)) else (none)) else (none)) = some r := by first | (rw [hji44] at H; exact H) | (simp only [hji44] at H ⊢; exact H)
                                          have hji44w : (IntKind.i64.wrap (x27_2 - 1)) = ji44 := (i64_w _).trans hji44
                                          by_cases c45 : 0 ≤ (ji44)
                                          · rw [if_pos c45] at H
                                            have c45b0 : decide (0 ≤ (ji44)) = true := decide_eq_true c45
                                            (try (have c45b1 : decide ((ji44) < 0) = false := decide_eq_false (by omega)))
                                            clear c45
                                            by_cases c46 : (ji44) < ((rd_L1 x5_2 x13_1).length : Int)
                                            · rw [if_pos c46] at H
                                              have c46b0 : decide ((ji44) < ((rd_L1 x5_2 x13_1).length : Int)) = true := decide_eq_true c46
                                              (try (have c46b1 : decide (((rd_L1 x5_2 x13_1).length : Int) ≤ (ji44)) = false := decide_eq_false (by omega)))
                                              clear c46
                                              by_cases c47 : x27_2 < ((rd_L1 x5_2 x13_1).length : Int)
                                              · rw [if_pos c47] at H
                                                have c47b0 : decide (x27_2 < ((rd_L1 x5_2 x13_1).length : Int)) = true := decide_eq_true c47
                                                (try (have c47b1 : decide (((rd_L1 x5_2 x13_1).length : Int) ≤ x27_2) = false := decide_eq_false (by omega)))
                                                clear c47
                                                obtain ⟨y122, hy122⟩ : ∃ y_ : List Int, y_ = ((rd_L1 x5_2 x13_1).set (x27_2 : Int).toNat (wrap64 ((rd (rd_L1 x5_2 (ji39)) x27_2) + (rd (rd_L1 x5_2 x13_1) (ji44))))) := ⟨_, rfl⟩
                                                replace H : (lanes_table.l1 k2 a1 (x5_2.set (x13_1 : Int).toNat y122) x13_1 (y101.length : Int) x13_1 ((rd_L1 y107 x13_1).length : Int) (wrap64 (x27_2 + 1))) = some r := by first | (rw [hy122]; with_reducible exact H) | (have H2_ := (Option.bind_some _ _).symm.trans H; rw [hy122]; with_reducible exact H2_) | (have H2_ := (Option.bind_some _ _).symm.trans H; with_reducible exact H2_) | with_reducible exact H | (rw [hy122]; exact H) | exact H
                                                have Ny122 := Aside0.mk hy122
                                                clear hy122
                                                obtain ⟨y124, hy124⟩ : ∃ y_ : List (List Int), y_ = (x5_2.set (x13_1 : Int).toNat y122) := ⟨_, rfl⟩
                                                replace H : (lanes_table.l1 k2 a1 y124 x13_1 (y101.length : Int) x13_1 ((rd_L1 y107 x13_1).length : Int) (wrap64 (x27_2 + 1))) = some r := by first | (rw [hy124]; with_reducible exact H) | (have H2_ := (Option.bind_some _ _).symm.trans H; rw [hy124]; with_reducible exact H2_) | (have H2_ := (Option.bind_some _ _).symm.trans H; with_reducible exact H2_) | with_reducible exact H | (rw [hy124]; exact H) | exact H
                                                have Ny124 := Aside0.mk hy124
                                                clear hy124
                                                have H' := Aside0.mk H
                                                clear H
                                                try go_wp2
                                                have n0_ := Aside0.mk (Kd.S_drew HO_5.out)
                                                have n1_ := Aside0.mk (below_drew1 HB.out)
                                                clear HO_5
                                                clear HB
                                                have HO_5 := n0_
                                                have HB := n1_
                                                clear n0_ n1_
                                                have p117 : 0 ≤ (x13_1 : Int) := of_decide_eq_true (by first | (with_reducible assumption) | assumption)
                                                have q117 : x13_1 < (x5_2.length : Int) := of_decide_eq_true (by first | (with_reducible assumption) | assumption)
                                                obtain ⟨ad117, A117_0, c117_0, e117, hx117_0, hl117_0, hi117_0⟩ := at_L1 (Kd.S_reads' HO_5.out).2.2 x13_1 p117 q117
                                                obtain rfl : (⟨go15, 0, none⟩ : Addr) = ad117 := (by injection e117)
                                                obtain ⟨ce117, hce117, hMe117, hcc117⟩ := Kd.S_get HO_5.out [] x13_1 p117 (by first | exact q117 | exact of_decide_eq_true (by first | (with_reducible assumption) | assumption) | (have e_ := (Kd.S_reads' HO_5.out).1; omega))
                                                obtain ⟨ve117_0, rfl, ge117_0⟩ := hMe117
                                                have hv117_0 := hcc117 0 _ rfl
                                                rw [Nat.add_zero, show ((Kd.slice 3 (Kd.int .i64))).sz = 1 from rfl, Nat.mul_one] at hv117_0
                                                replace hv117_0 := Option.some.inj (hv117_0.symm.trans hx117_0)
                                                rw [hv117_0] at ge117_0
                                                have HL117_0 := Aside0.mk (show Kd.R (Kd.int .i64) 3 _ _ _ _ (rd_L1 x5_2 x13_1) from ge117_0)
                                                clear hv117_0 ge117_0
                                                have HX117_0 := Aside0.mk hx117_0
                                                clear hcc117 hce117
                                                (first | simp only [add_plain] at hx117_0 | simp only [add_at] at hx117_0 | simp only [Addr.add, Nat.zero_add] at hx117_0 | skip)
                                                have HR117_0 := Aside0.mk hi117_0
                                                have HC117_0 := Aside0.mk hl117_0
                                                clear hi117_0 hl117_0
                                                replace p117 := eq_true p117
                                                replace q117 := eq_true q117
                                                have p118 : 0 ≤ ((ji39) : Int) := of_decide_eq_true (by first | (with_reducible assumption) | assumption)
                                                have q118 : (ji39) < (x5_2.length : Int) := of_decide_eq_true (by first | (with_reducible assumption) | assumption)
                                                obtain ⟨ad118, A118_0, c118_0, e118, hx118_0, hl118_0, hi118_0⟩ := at_L1 (Kd.S_reads' HO_5.out).2.2 (ji39) p118 q118
                                                obtain rfl : (⟨go15, 0, none⟩ : Addr) = ad118 := (by injection e118)
                                                obtain ⟨ce118, hce118, hMe118, hcc118⟩ := Kd.S_get HO_5.out [] (ji39) p118 (by first | exact q118 | exact of_decide_eq_true (by first | (with_reducible assumption) | assumption) | (have e_ := (Kd.S_reads' HO_5.out).1; omega))
                                                obtain ⟨ve118_0, rfl, ge118_0⟩ := hMe118
                                                have hv118_0 := hcc118 0 _ rfl
                                                rw [Nat.add_zero, show ((Kd.slice 3 (Kd.int .i64))).sz = 1 from rfl, Nat.mul_one] at hv118_0
                                                replace hv118_0 := Option.some.inj (hv118_0.symm.trans hx118_0)
                                                rw [hv118_0] at ge118_0
                                                have HL118_0 := Aside0.mk (show Kd.R (Kd.int .i64) 3 _ _ _ _ (rd_L1 x5_2 (ji39)) from ge118_0)
                                                clear hv118_0 ge118_0
                                                have HX118_0 := Aside0.mk hx118_0
                                                clear hcc118 hce118
                                                (first | simp only [add_plain] at hx118_0 | simp only [add_at] at hx118_0 | simp only [Addr.add, Nat.zero_add] at hx118_0 | skip)
                                                have HR118_0 := Aside0.mk hi118_0
                                                have HC118_0 := Aside0.mk hl118_0
                                                clear hi118_0 hl118_0
                                                replace p118 := eq_true p118
                                                replace q118 := eq_true q118
                                                have p119 : 0 ≤ (x27_2 : Int) := of_decide_eq_true (by first | (with_reducible assumption) | assumption)
                                                have q119 : x27_2 < ((rd_L1 x5_2 (ji39)).length : Int) := of_decide_eq_true (by first | (with_reducible assumption) | assumption)
                                                obtain ⟨ad119, e119, hx119_0⟩ := Kd.at_int (by repeat (first | (with_reducible exact HR118_0.out) | (with_reducible refine Kd.C_alloc ?_ _) | (with_reducible refine Kd.C_drewN ?_ _) | (with_reducible refine Kd.C_drew ?_) | exact HR118_0.out)) x27_2 p119 q119
                                                cases e119
                                                replace p119 := eq_true p119
                                                replace q119 := eq_true q119
                                                have p120 : 0 ≤ (x13_1 : Int) := of_decide_eq_true (by first | (with_reducible assumption) | assumption)
                                                have q120 : x13_1 < (x5_2.length : Int) := of_decide_eq_true (by first | (with_reducible assumption) | assumption)
                                                obtain ⟨ad120, A120_0, c120_0, e120, hx120_0, hl120_0, hi120_0⟩ := at_L1 (Kd.S_reads' HO_5.out).2.2 x13_1 p120 q120
                                                obtain rfl : (⟨go15, 0, none⟩ : Addr) = ad120 := (by injection e120)
                                                obtain ⟨ce120, hce120, hMe120, hcc120⟩ := Kd.S_get HO_5.out [] x13_1 p120 (by first | exact q120 | exact of_decide_eq_true (by first | (with_reducible assumption) | assumption) | (have e_ := (Kd.S_reads' HO_5.out).1; omega))
                                                obtain ⟨ve120_0, rfl, ge120_0⟩ := hMe120
                                                have hv120_0 := hcc120 0 _ rfl
                                                rw [Nat.add_zero, show ((Kd.slice 3 (Kd.int .i64))).sz = 1 from rfl, Nat.mul_one] at hv120_0
                                                replace hv120_0 := Option.some.inj (hv120_0.symm.trans hx120_0)
                                                rw [hv120_0] at ge120_0
                                                have HL120_0 := Aside0.mk (show Kd.R (Kd.int .i64) 3 _ _ _ _ (rd_L1 x5_2 x13_1) from ge120_0)
                                                clear hv120_0 ge120_0
                                                have HX120_0 := Aside0.mk hx120_0
                                                clear hcc120 hce120
                                                (first | simp only [add_plain] at hx120_0 | simp only [add_at] at hx120_0 | simp only [Addr.add, Nat.zero_add] at hx120_0 | skip)
                                                have HR120_0 := Aside0.mk hi120_0
                                                have HC120_0 := Aside0.mk hl120_0
                                                clear hi120_0 hl120_0
                                                replace p120 := eq_true p120
                                                replace q120 := eq_true q120
                                                have ea_ := Option.some.inj (hx117_0.symm.trans hx120_0)
                                                injection ea_ with ea_ en_ ec_
                                                subst ea_
                                                subst ec_
                                                clear en_
                                                have p121 : 0 ≤ ((ji44) : Int) := of_decide_eq_true (by first | (with_reducible assumption) | assumption)
                                                have q121 : (ji44) < ((rd_L1 x5_2 x13_1).length : Int) := of_decide_eq_true (by first | (with_reducible assumption) | assumption)
                                                obtain ⟨ad121, e121, hx121_0⟩ := Kd.at_int (by repeat (first | (with_reducible exact HR120_0.out) | (with_reducible refine Kd.C_alloc ?_ _) | (with_reducible refine Kd.C_drewN ?_ _) | (with_reducible refine Kd.C_drew ?_) | exact HR120_0.out)) (ji44) p121 q121
                                                cases e121
                                                replace p121 := eq_true p121
                                                replace q121 := eq_true q121
                                                have p48 : 0 ≤ (x27_2 : Int) := of_decide_eq_true (by first | (with_reducible assumption) | assumption)
                                                have q48 : (x27_2 : Int) < (((rd_L1 x5_2 x13_1).length : Int) : Int) := of_decide_eq_true (by first | (with_reducible assumption) | assumption)
                                                obtain ⟨go48, co48, eo48, gb48, gl48, cl48, HG48⟩ := Kd.R_form HL117_0.out (by omega)
                                                (first | cases eo48 | (injection eo48 with ea_ en_ ec_; (first | subst ea_ | (injection ea_ with ea_; subst ea_)); subst ec_; clear en_))
                                                have GB48 := Aside0.mk gb48
                                                have GG48 := Aside0.mk HG48
                                                clear gb48 gl48 HG48
                                                (first | simp only [add_plain] at hx121_0 | skip)
                                                obtain ⟨hx48_0, hf48_0⟩ := Kd.R_celln 0 HL117_0.out (x27_2 : Int) p48 q48
                                                replace p48 := eq_true p48
                                                replace q48 := eq_true q48
                                                have hq50 : (x13_1 : Int) < (x5_2.length : Int) := (by have h_ : (x13_1 : Int) < ((x5_2.length : Int) : Int) := of_decide_eq_true (by first | (with_reducible assumption) | assumption); first | exact h_ | (have e_ := (Kd.S_reads' HO_5.out).1; omega) | simpa only [List.length_set, List.length_set] using h_)
                                                obtain ⟨oki50, ce50, hcl50, hM50, hcc50, hok50, hbk50⟩ := Kd.S_borrow HO_5.out [] (x13_1 : Int) (of_decide_eq_true (by first | (with_reducible assumption) | assumption)) hq50
                                                obtain ⟨ve50_0, rfl, ge50_0⟩ := hM50
                                                have hv50 := hcc50 0 _ rfl
                                                rw [Nat.add_zero, show ((Kd.slice 3 (Kd.int .i64))).sz = 1 from rfl, Nat.mul_one] at hv50
                                                replace hv50 := Option.some.inj (hv50.symm.trans HX117_0.out)
                                                subst hv50
                                                clear hcc50 hcl50
                                                replace ge50_0 := (show Kd.R (Kd.int .i64) 3 _ _ _ _ (rd_L1 x5_2 x13_1) from ge50_0)
                                                have HP50 := Kd.R_putg ge50_0 (x27_2 : Int) (wrap64 ((rd (rd_L1 x5_2 (ji39)) x27_2) + (rd (rd_L1 x5_2 x13_1) (ji44))))
                                                rw [← Ny122.out] at HP50
                                                have HS50 := hbk50 HP50.2 (fun k_ e_ => by injection e_ with e_; subst e_; exact ge50_0.1 _ rfl) (x' := y122) (Kd.M_row HP50.1)
                                                rw [← Ny124.out] at HS50
                                                have HQ50 := Aside0.mk HS50
                                                clear HP50 HS50 hbk50 hok50
                                                refine start_ (n := 24) (S := fun w' => w'.cell? ⟨go15, (x13_1).toNat, none⟩ = some (.slice (some ⟨go48, 0, none⟩) (rd_L1 x5_2 x13_1).length c117_0) ∧ w'.cell? ⟨go15, ((ji39)).toNat, none⟩ = some (.slice (some ad119) (rd_L1 x5_2 (ji39)).length c118_0) ∧ w'.cell? (ad119.add (x27_2).toNat) = some (.int .i64 (rd (rd_L1 x5_2 (ji39)) x27_2)) ∧ w'.cell? ⟨go15, (x13_1).toNat, none⟩ = some (.slice (some ⟨go48, 0, none⟩) (rd_L1 x5_2 x13_1).length c117_0) ∧ w'.cell? ⟨go48, ((ji44)).toNat, none⟩ = some (.int .i64 (rd (rd_L1 x5_2 x13_1) (ji44)))) (ds := [23]) #[false, false, false, false, false, false, false, false, false, false, false, false, false, false, false, false, false, false, false, false, false, false, false, false] (by kernel_rfl) rfl rfl ⟨hx117_0, hx118_0, hx119_0, hx120_0, hx121_0⟩ (fun hHeld => ?_); refine with_tabW lanes_table.tab11 lanes_table.bits11 (fun HT_ HW_ => ?_)
                                                generalize wr.drew = w49 at HO_5 HB GG48 HL117_0 HL118_0 HL120_0 HQ50 HR117_0 HR118_0 HR120_0 HX117_0 HX118_0 HX120_0 hf48_0 hx117_0 hx118_0 hx119_0 hx120_0 hx121_0 hx48_0 hHeld ⊢
                                                refine pure_ (i := 0) (N := some 42) (v := ?_) (a' := ?_) #[true, false, false, false, false, false, false, false, false, false, false, false, false, false, false, false, false, false, false, false, false, false, false, false] rfl rfl (any_of HT_.out (by kernel_rfl)) (fun _ _ _ h => h) (Or.inl ⟨by rfl, ?_⟩) ?_ ?_
                                                rotate_left
                                                · intro w'
                                                  go_simp
                                                  with_reducible rfl
                                                rotate_left
                                                · simp only [Act.put, List.setIfInBounds_toArray, List.set_cons_zero, List.set_cons_succ, i64_w, i32_w]
                                                  rfl
                                                refine pure_ (i := 1) (N := some 43) (v := ?_) (a' := ?_) #[true, true, false, false, false, false, false, false, false, false, false, false, false, false, false, false, false, false, false, false, false, false, false, false] rfl rfl (any_of HT_.out (by kernel_rfl)) (fun _ _ _ h => h) (Or.inl ⟨by rfl, ?_⟩) ?_ ?_
                                                rotate_left
                                                · intro w'
                                                  go_simp
                                                  with_reducible rfl
                                                rotate_left
                                                · simp only [Act.put, List.setIfInBounds_toArray, List.set_cons_zero, List.set_cons_succ, i64_w, i32_w]
                                                  rfl
                                                refine pure_ (i := 2) (N := some 44) (v := ?_) (a' := ?_) #[true, true, true, false, false, false, false, false, false, false, false, false, false, false, false, false, false, false, false, false, false, false, false, false] rfl rfl (any_of HT_.out (by kernel_rfl)) (fun _ _ _ h => h) (Or.inl ⟨by rfl, ?_⟩) ?_ ?_
                                                rotate_left
                                                · intro w'
                                                  go_simp
                                                  with_reducible rfl
                                                rotate_left
                                                · simp only [Act.put, List.setIfInBounds_toArray, List.set_cons_zero, List.set_cons_succ, i64_w, i32_w]
                                                  rfl
                                                refine pure_ (i := 4) (N := some 46) (v := ?_) (a' := ?_) #[true, true, true, false, true, false, false, false, false, false, false, false, false, false, false, false, false, false, false, false, false, false, false, false] rfl rfl (any_of HT_.out (by kernel_rfl)) (fun _ _ _ h => h) (Or.inl ⟨by rfl, ?_⟩) ?_ ?_
                                                rotate_left
                                                · intro w'
                                                  go_simp
                                                  with_reducible rfl
                                                rotate_left
                                                · simp only [Act.put, List.setIfInBounds_toArray, List.set_cons_zero, List.set_cons_succ, i64_w, i32_w]
                                                  rfl
                                                refine pure_ (i := 5) (N := some 47) (v := ?_) (a' := ?_) #[true, true, true, false, true, true, false, false, false, false, false, false, false, false, false, false, false, false, false, false, false, false, false, false] rfl rfl (any_of HT_.out (by kernel_rfl)) (fun _ _ _ h => h) (Or.inl ⟨by rfl, ?_⟩) ?_ ?_
                                                rotate_left
                                                · intro w'
                                                  go_simp
                                                  with_reducible rfl
                                                rotate_left
                                                · simp only [Act.put, List.setIfInBounds_toArray, List.set_cons_zero, List.set_cons_succ, i64_w, i32_w]
                                                  rfl
                                                refine pure_ (i := 6) (N := some 48) (v := ?_) (a' := ?_) #[true, true, true, false, true, true, true, false, false, false, false, false, false, false, false, false, false, false, false, false, false, false, false, false] rfl rfl (any_of HT_.out (by kernel_rfl)) (fun _ _ _ h => h) (Or.inl ⟨by rfl, ?_⟩) ?_ ?_
                                                rotate_left
                                                · intro w'
                                                  go_simp
                                                  with_reducible rfl
                                                rotate_left
                                                · simp only [Act.put, List.setIfInBounds_toArray, List.set_cons_zero, List.set_cons_succ, i64_w, i32_w]
                                                  rfl
                                                refine pure_ (i := 7) (N := some 49) (v := ?_) (a' := ?_) #[true, true, true, false, true, true, true, true, false, false, false, false, false, false, false, false, false, false, false, false, false, false, false, false] rfl rfl (any_of HT_.out (by kernel_rfl)) (fun _ _ _ h => h) (Or.inl ⟨by rfl, ?_⟩) ?_ ?_
                                                rotate_left
                                                · intro w'
                                                  go_simp
                                                  with_reducible rfl
                                                rotate_left
                                                · simp only [Act.put, List.setIfInBounds_toArray, List.set_cons_zero, List.set_cons_succ, i64_w, i32_w]
                                                  rfl
                                                refine pure_ (i := 8) (N := some 50) (v := ?_) (a' := ?_) #[true, true, true, false, true, true, true, true, true, false, false, false, false, false, false, false, false, false, false, false, false, false, false, false] rfl rfl (any_of HT_.out (by kernel_rfl)) (fun _ _ _ h => h) (Or.inl ⟨by rfl, ?_⟩) ?_ ?_
                                                rotate_left
                                                · intro w'
                                                  go_simp
                                                  with_reducible rfl
                                                rotate_left
                                                · simp only [Act.put, List.setIfInBounds_toArray, List.set_cons_zero, List.set_cons_succ, i64_w, i32_w]
                                                  rfl
                                                refine pure_ (i := 10) (N := some 52) (v := ?_) (a' := ?_) #[true, true, true, false, true, true, true, true, true, false, true, false, false, false, false, false, false, false, false, false, false, false, false, false] rfl rfl (any_of HT_.out (by kernel_rfl)) (fun _ _ _ h => h) (Or.inl ⟨by rfl, ?_⟩) ?_ ?_
                                                rotate_left
                                                · intro w'
                                                  go_simp
                                                  with_reducible rfl
                                                rotate_left
                                                · simp only [Act.put, List.setIfInBounds_toArray, List.set_cons_zero, List.set_cons_succ, i64_w, i32_w]
                                                  rfl
                                                refine pure_ (i := 13) (N := some 55) (v := ?_) (a' := ?_) #[true, true, true, false, true, true, true, true, true, false, true, false, false, true, false, false, false, false, false, false, false, false, false, false] rfl rfl (any_of HT_.out (by kernel_rfl)) (fun _ _ _ h => h) (Or.inl ⟨by rfl, ?_⟩) ?_ ?_
                                                rotate_left
                                                · intro w'
                                                  go_simp
                                                  with_reducible rfl
                                                rotate_left
                                                · simp only [Act.put, List.setIfInBounds_toArray, List.set_cons_zero, List.set_cons_succ, i64_w, i32_w]
                                                  rfl
                                                refine pure_ (i := 14) (N := some 56) (v := ?_) (a' := ?_) #[true, true, true, false, true, true, true, true, true, false, true, false, false, true, true, false, false, false, false, false, false, false, false, false] rfl rfl (any_of HT_.out (by kernel_rfl)) (fun _ _ _ h => h) (Or.inl ⟨by rfl, ?_⟩) ?_ ?_
                                                rotate_left
                                                · intro w'
                                                  go_simp
                                                  with_reducible rfl
                                                rotate_left
                                                · simp only [Act.put, List.setIfInBounds_toArray, List.set_cons_zero, List.set_cons_succ, i64_w, i32_w]
                                                  rfl
                                                refine pure_ (i := 15) (N := some 57) (v := ?_) (a' := ?_) #[true, true, true, false, true, true, true, true, true, false, true, false, false, true, true, true, false, false, false, false, false, false, false, false] rfl rfl (any_of HT_.out (by kernel_rfl)) (fun _ _ _ h => h) (Or.inl ⟨by rfl, ?_⟩) ?_ ?_
                                                rotate_left
                                                · intro w'
                                                  go_simp
                                                  with_reducible rfl
                                                rotate_left
                                                · simp only [Act.put, List.setIfInBounds_toArray, List.set_cons_zero, List.set_cons_succ, i64_w, i32_w]
                                                  rfl
                                                refine pure_ (i := 17) (N := some 59) (v := ?_) (a' := ?_) #[true, true, true, false, true, true, true, true, true, false, true, false, false, true, true, true, false, true, false, false, false, false, false, false] rfl rfl (any_of HT_.out (by kernel_rfl)) (fun _ _ _ h => h) (Or.inl ⟨by rfl, ?_⟩) ?_ ?_
                                                rotate_left
                                                · intro w'
                                                  go_simp
                                                  with_reducible rfl
                                                rotate_left
                                                · simp only [Act.put, List.setIfInBounds_toArray, List.set_cons_zero, List.set_cons_succ, i64_w, i32_w]
                                                  rfl
                                                refine pure_ (i := 18) (N := some 60) (v := ?_) (a' := ?_) #[true, true, true, false, true, true, true, true, true, false, true, false, false, true, true, true, false, true, true, false, false, false, false, false] rfl rfl (any_of HT_.out (by kernel_rfl)) (fun _ _ _ h => h) (Or.inl ⟨by rfl, ?_⟩) ?_ ?_
                                                rotate_left
                                                · intro w'
                                                  go_simp
                                                  with_reducible rfl
                                                rotate_left
                                                · simp only [Act.put, List.setIfInBounds_toArray, List.set_cons_zero, List.set_cons_succ, i64_w, i32_w]
                                                  rfl
                                                refine take_ (i := 3) (N := some 45) (v := ?_) (a' := ?_) #[true, true, true, true, true, true, true, true, true, false, true, false, false, true, true, true, false, true, true, false, false, false, false, false] rfl rfl (take_ofW HT_.out HW_.out (by kernel_rfl)) (fun _ _ _ h => h) (Or.inl ⟨by rfl, ?_⟩) hHeld ?_ ?_
                                                rotate_left
                                                · rintro w' ⟨s0, s1, s2, s3, s4⟩
                                                  go_simp
                                                  with_reducible rfl
                                                rotate_left
                                                · simp only [Act.put, List.setIfInBounds_toArray, List.set_cons_zero, List.set_cons_succ, i64_w, i32_w]
                                                  rfl
                                                refine take_ (i := 9) (N := some 51) (v := ?_) (a' := ?_) #[true, true, true, true, true, true, true, true, true, true, true, false, false, true, true, true, false, true, true, false, false, false, false, false] rfl rfl (take_ofW HT_.out HW_.out (by kernel_rfl)) (fun _ _ _ h => h) (Or.inl ⟨by rfl, ?_⟩) hHeld ?_ ?_
                                                rotate_left
                                                · rintro w' ⟨s0, s1, s2, s3, s4⟩
                                                  go_simp
                                                  with_reducible rfl
                                                rotate_left
                                                · simp only [Act.put, List.setIfInBounds_toArray, List.set_cons_zero, List.set_cons_succ, i64_w, i32_w]
                                                  rfl
                                                refine pure_ (i := 11) (N := some 53) (v := ?_) (a' := ?_) #[true, true, true, true, true, true, true, true, true, true, true, true, false, true, true, true, false, true, true, false, false, false, false, false] rfl rfl (any_of HT_.out (by kernel_rfl)) (fun _ _ _ h => h) (Or.inl ⟨by rfl, ?_⟩) ?_ ?_
                                                rotate_left
                                                · intro w'
                                                  go_simp
                                                  with_reducible rfl
                                                rotate_left
                                                · simp only [Act.put, List.setIfInBounds_toArray, List.set_cons_zero, List.set_cons_succ, i64_w, i32_w]
                                                  rfl
                                                refine take_ (i := 12) (N := some 54) (v := ?_) (a' := ?_) #[true, true, true, true, true, true, true, true, true, true, true, true, true, true, true, true, false, true, true, false, false, false, false, false] rfl rfl (take_ofW HT_.out HW_.out (by kernel_rfl)) (fun _ _ _ h => h) (Or.inl ⟨by rfl, ?_⟩) hHeld ?_ ?_
                                                rotate_left
                                                · rintro w' ⟨s0, s1, s2, s3, s4⟩
                                                  go_simp
                                                  with_reducible rfl
                                                rotate_left
                                                · simp only [Act.put, List.setIfInBounds_toArray, List.set_cons_zero, List.set_cons_succ, i64_w, i32_w]
                                                  rfl
                                                refine take_ (i := 16) (N := some 58) (v := ?_) (a' := ?_) #[true, true, true, true, true, true, true, true, true, true, true, true, true, true, true, true, true, true, true, false, false, false, false, false] rfl rfl (take_ofW HT_.out HW_.out (by kernel_rfl)) (fun _ _ _ h => h) (Or.inl ⟨by rfl, ?_⟩) hHeld ?_ ?_
                                                rotate_left
                                                · rintro w' ⟨s0, s1, s2, s3, s4⟩
                                                  go_simp
                                                  with_reducible rfl
                                                rotate_left
                                                · simp only [Act.put, List.setIfInBounds_toArray, List.set_cons_zero, List.set_cons_succ, i64_w, i32_w]
                                                  rfl
                                                refine pure_ (i := 19) (N := some 61) (v := ?_) (a' := ?_) #[true, true, true, true, true, true, true, true, true, true, true, true, true, true, true, true, true, true, true, true, false, false, false, false] rfl rfl (any_of HT_.out (by kernel_rfl)) (fun _ _ _ h => h) (Or.inl ⟨by rfl, ?_⟩) ?_ ?_
                                                rotate_left
                                                · intro w'
                                                  go_simp
                                                  with_reducible rfl
                                                rotate_left
                                                · simp only [Act.put, List.setIfInBounds_toArray, List.set_cons_zero, List.set_cons_succ, i64_w, i32_w]
                                                  rfl
                                                refine take_ (i := 20) (N := some 62) (v := ?_) (a' := ?_) #[true, true, true, true, true, true, true, true, true, true, true, true, true, true, true, true, true, true, true, true, true, false, false, false] rfl rfl (take_ofW HT_.out HW_.out (by kernel_rfl)) (fun _ _ _ h => h) (Or.inl ⟨by rfl, ?_⟩) hHeld ?_ ?_
                                                rotate_left
                                                · rintro w' ⟨s0, s1, s2, s3, s4⟩
                                                  go_simp
                                                  with_reducible rfl
                                                rotate_left
                                                · simp only [Act.put, List.setIfInBounds_toArray, List.set_cons_zero, List.set_cons_succ, i64_w, i32_w]
                                                  rfl
                                                refine pure_ (i := 21) (N := some 63) (v := ?_) (a' := ?_) #[true, true, true, true, true, true, true, true, true, true, true, true, true, true, true, true, true, true, true, true, true, true, false, false] rfl rfl (any_of HT_.out (by kernel_rfl)) (fun _ _ _ h => h) (Or.inl ⟨by rfl, ?_⟩) ?_ ?_
                                                rotate_left
                                                · intro w'
                                                  go_simp
                                                  with_reducible rfl
                                                rotate_left
                                                · simp only [Act.put, List.setIfInBounds_toArray, List.set_cons_zero, List.set_cons_succ, i64_w, i32_w]
                                                  rfl
                                                refine pure_ (i := 22) (N := some 64) (v := ?_) (a' := ?_) #[true, true, true, true, true, true, true, true, true, true, true, true, true, true, true, true, true, true, true, true, true, true, true, false] rfl rfl (any_of HT_.out (by kernel_rfl)) (fun _ _ _ h => h) (Or.inl ⟨by rfl, ?_⟩) ?_ ?_
                                                rotate_left
                                                · intro w'
                                                  go_simp
                                                  with_reducible rfl
                                                rotate_left
                                                · simp only [Act.put, List.setIfInBounds_toArray, List.set_cons_zero, List.set_cons_succ, i64_w, i32_w]
                                                  rfl
                                                refine last_ (i := 23) (N := none) #[true, true, true, true, true, true, true, true, true, true, true, true, true, true, true, true, true, true, true, true, true, true, true, true] rfl rfl (one_of HT_.out (by kernel_rfl)) (by decide) (fun K hK => ?_)
                                                refine skip_ (w1 := ?_) (by rfl) rfl ?_ ?_
                                                rotate_left
                                                · go_simp
                                                  rfl
                                                refine hK.out _ _ ?_
                                                clear hK K
                                                refine done_ (done_of HT_.out (by kernel_rfl)) ?_
                                                try go_wp2
                                                (try simp only [← hl5_2])
                                                go_roundg k2
                                                case measure => have := HK1.out; have := HK2.out; omega
                                                case rel => exact ⟨(y124), (wrap64 (x27_2 + 1)), (by first | rfl | (simp; done) | (simp [*]; done)), H', ⟨by have := HK1.out; have := HK2.out; omega⟩, ⟨by (try simp only [hl5_1]); (try simp only [hl5_2]); (with_reducible repeat (first | apply Kd.S_alloc | apply Kd.S_drewN | apply Kd.S_drew)); exact HQ50.out⟩, ⟨by repeat (first | (with_reducible first | exact HB.out | apply below_alloc | apply pw_below_drewN | apply below_drew1 | refine below_set ?_ GB48.out) | exact HB.out)⟩⟩
                                              · rw [if_neg c47] at H
                                                exact absurd H (by simp)
                                            · rw [if_neg c46] at H
                                              exact absurd H (by simp)
                                          · rw [if_neg c45] at H
                                            exact absurd H (by simp)
                                        · rw [if_neg c43] at H
                                          exact absurd H (by simp)
                                      · rw [if_neg c42] at H
                                        exact absurd H (by simp)
                                    · rw [if_neg c41] at H
                                      exact absurd H (by simp)
                                  · rw [if_neg c40] at H
                                    exact absurd H (by simp)
                                · rw [if_neg c38] at H
                                  exact absurd H (by simp)
                              · rw [if_neg c37] at H
                                exact absurd H (by simp)
                        · rw [if_neg c20] at H
                          have c20b0 : decide (x27_2 < ((rd_L1 y107 x13_1).length : Int)) = false := decide_eq_false c20
                          (try (have c20b1 : decide (((rd_L1 y107 x13_1).length : Int) ≤ x27_2) = true := decide_eq_true (by omega)))
                          clear c20
                          have H' := Aside0.mk H
                          clear H
                          go_wp2
                          (try simp only [← hl5_1, ← hl5_2])
                          go_roundg k2
                          case measure => have := HK1.out; have := HK2.out; omega
                          case rel => exact ⟨(x5_2), (wrap64 (x13_1 + 1)), (by first | rfl | (simp; done) | (simp [*]; done)), H', ⟨by have := HK1.out; have := HK2.out; omega⟩, ⟨by (try simp only [hl5_1]); (try simp only [hl5_2]); (with_reducible repeat (first | apply Kd.S_alloc | apply Kd.S_drewN | apply Kd.S_drew)); exact HO_5.out⟩, ⟨by repeat (first | (with_reducible first | exact HB.out | apply below_alloc | apply pw_below_drewN | apply below_drew1) | exact HB.out)⟩⟩
                  · rw [if_neg c14] at H
                    exact absurd H (by simp)
                · rw [if_neg c13] at H
                  exact absurd H (by simp)
              · rw [if_neg c12] at H
                exact absurd H (by simp)
            · rw [if_neg c11] at H
              exact absurd H (by simp)
          · rw [if_neg c9] at H
            have c9b0 : decide (x13_1 < (y101.length : Int)) = false := decide_eq_false c9
            (try (have c9b1 : decide ((y101.length : Int) ≤ x13_1) = true := decide_eq_true (by omega)))
            rw [hl5_1] at c9b0
            (try rw [hl5_1] at c9b1)
            clear c9
            obtain rfl := Option.some.inj H
            go_wp2
            go_ret
            exact ⟨_, by first | rfl | (simp [errW_none, errW_some] <;> rfl) | (simp only [← hji3]; first | rfl | (simp [errW_none, errW_some] <;> rfl)) | (simp [*, errW_none, errW_some] <;> rfl), by (with_reducible repeat (first | apply Kd.S_alloc | apply Kd.S_drewN | apply Kd.S_drew)); exact HO_5.out, by repeat (first | (with_reducible first | exact HB.out | apply below_alloc | apply pw_below_drewN | apply below_drew1) | exact HB.out)⟩
    · rw [if_neg c5] at H
      exact absurd H (by simp)
  · rw [if_neg c4] at H
    exact absurd H (by simp)

end Go.Proofs.Ytpmkkohnpfpifaa.Ylanes_table

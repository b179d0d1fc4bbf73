/- The last things of a list are as the document says: the walk. Conditions: none. -/
import Derived.Test.YtccnfckogcdpcaaXLast
import Derived.Test.YtccnfckogcdpcaaPQueueLastx1
namespace Go.Proofs.Ytccnfckogcdpcaa.X
open Go.Conc Go.RowKit Go.Proofs.Ytccnfckogcdpcaa.PQueueLast Go.Proofs.YtccnfckogcdpcaaW.PrintWords Go.Proofs.YtccnfckogcdpcaaW.PrintLast Go.Proofs.YtccnfckogcdpcaaW.PrintMore
set_option linter.unusedVariables false
set_option linter.unusedSimpArgs false
theorem w64 {a : Int} (h0 : -9223372036854775808 ≤ a) (h1 : a < 9223372036854775808) : wrap64 a = a := by unfold wrap64; omega
theorem same_loop (l : List Int) (hl : l.length ≤ 1000000) (d : Nat) : ∀ (p k : Nat), p + d = l.length → d < k → assartlaw01_Ints_Same.l0 k l l (p : Int) = some true := by
  induction d with
  | zero =>
    intro p k hp hk
    obtain ⟨k, rfl⟩ : ∃ m, k = m + 1 := ⟨k - 1, by omega⟩
    simp only [assartlaw01_Ints_Same.l0]
    rw [if_neg (by omega)]
  | succ d ih =>
    intro p k hp hk
    obtain ⟨k, rfl⟩ : ∃ m, k = m + 1 := ⟨k - 1, by omega⟩
    simp only [assartlaw01_Ints_Same.l0]
    rw [if_pos (by omega), if_pos (by omega), if_pos (by omega), if_pos (by simp), w64 (a := (p : Int) + 1) (by omega) (by omega)]
    exact ih (p + 1) k (by omega) (by omega)
theorem same_to (A B : Option Addr) (c c' n n' : Nat) (l : List Int) (w : World) (e : n = l.length) (e' : n' = l.length) (h : Kd.C (Kd.int .i64) w A l.length l) (hc : l.length ≤ c) (h' : Kd.C (Kd.int .i64) w B l.length l) (hc' : l.length ≤ c') (hl : l.length ≤ 1000000) : Calls Try.prog 23 #[.slice A n c, .slice B n' c'] w fun e w' => e = .returned (.bool true) ∧ Drawn0 w w' := by
  subst e e'
  exact assartlaw01_Ints_Same.calls (l.length + 1) A c l B c' l true w h hc h' hc' (by
    unfold assartlaw01_Ints_Same.f
    rw [if_pos rfl]
    exact same_loop l hl l.length 0 _ (by omega) (by omega))
theorem last_long (A : Option Addr) (n cp : Nat) (k : Int) (w : World) (h : 2000 < (n : Int)) : Calls Try.prog 5 #[.slice A n cp, .int .i64 k] w fun e w' => e = .returned (.bool true) ∧ Below w.heap.size w w' := by
  have b0 : decide ((2000 : Int) < (n : Int)) = true := decide_eq_true h
  clear h
  go_enter Try.func5, Try.ntmps5
  go_wp2_with (go_at_call 6; refine (lives_calls _).mono ?_; rintro e w9 ⟨rfl, hB⟩)
  go_ret
  exact ⟨rfl, hB⟩
/-- What a cut of the list is. -/
theorem cut_to (A : Option Addr) (cp : Nat) (l : List Int) (j : Int) (w : World) (hC : Kd.C (Kd.int .i64) w A l.length l) (hc : l.length ≤ cp) (h0 : 0 ≤ j) (hj : j ≤ (l.length : Int)) : ∃ A' m c', (∀ W : World, (Instr.slice 42 (.slice A l.length cp) (some (.int .i64 j)) none none).run Try.prog W = .ok (.slice A' m c') W) ∧ Kd.C (Kd.int .i64) w A' m (l.drop j.toNat) ∧ m ≤ c' ∧ m = (l.drop j.toNat).length := by
  have hi3 : ∃ i, Try.prog.info? 3 = some i ∧ i.size = 1 := by
    have h : (Try.prog.info? 3).map (·.size) = some 1 := by kernel_rfl
    obtain ⟨i, hi, hb⟩ := Option.map_eq_some_iff.1 h
    exact ⟨i, hi, hb⟩
  obtain ⟨i3, hi, hsz⟩ := hi3
  obtain ⟨A', hrun, hrd, hln⟩ := print_drop_of (P := Try.prog) (.int .i64) (0 : Int) 42 3 .i64 Try.underlying42 hi hsz A cp l j h0 hj hc
  exact ⟨A', _, _, hrun, Kd.C_of_reads (d := (0 : Int)) (h1 := fun _ => rfl) (hrd w (Kd.reads_of_C hC)), hln, rfl⟩
theorem drawn_below {w w1 w2 : World} (h : Below w.heap.size w w1) (hD : Drawn0 w1 w2) : Aside0 (Below w.heap.size w w2) := by
  obtain ⟨nd, rfl⟩ := hD
  exact ⟨pw_below_drewN h nd⟩
theorem same_to2 (A B : Option Addr) (c c' n n' : Nat) (l : List Int) (w : World) (e : n = l.length) (e' : n' = l.length) (h : Kd.C (Kd.int .i64) w A n l) (hc : n ≤ c) (h' : Kd.C (Kd.int .i64) w B n' l) (hc' : n' ≤ c') (hl : l.length ≤ 1000000) : Calls Try.prog 23 #[.slice A n c, .slice B n' c'] w fun e w' => e = .returned (.bool true) ∧ Drawn0 w w' := by
  subst e e'
  exact same_to A B c c' _ _ l w rfl rfl h hc h' hc' hl

set_option maxRecDepth 100000 in
set_option maxHeartbeats 2000000 in
theorem last_walk_a (A : Option Addr) (cp : Nat) (l : List Int) (k : Int) (w : World) (hC : Kd.C (Kd.int .i64) w A l.length l) (hA : InRow A l.length cp) (hn : l.length ≤ 2000) (hk0 : -9223372036854775808 ≤ k) (hkm : k < 9223372036854775808) (h : (l.length : Int) ≤ k ∧ 0 < k) : Calls Try.prog 5 #[.slice A l.length cp, .int .i64 k] w fun e w' => e = .returned (.bool true) ∧ Below w.heap.size w w' := by
  have b0 : decide ((2000 : Int) < (l.length : Int)) = false := decide_eq_false (by omega)
  have HA := Aside0.mk hA
  have HC := Aside0.mk hC
  have HN := Aside0.mk (And.intro hn (And.intro hk0 hkm))
  have b1 : decide ((l.length : Int) ≤ k) = true := decide_eq_true h.1
  have hwr := IntWalk.i64_in ((l.length : Int) - k) (by omega)
  obtain ⟨A', m, c', hrun, hC', hmc, hm⟩ := cut_to A cp l (0) w hC hA.1 (by omega) (by omega)
  obtain ⟨X, hX⟩ : ∃ X, X = lastN l k := ⟨_, rfl⟩
  have HX := Aside0.mk hX.symm
  have hE : l = lastN l k := by unfold lastN; rw [if_neg (by omega), show l.length - k.toNat = 0 by omega, List.drop_zero]
  have HM : Aside0 (l.length = X.length ∧ Kd.C (Kd.int .i64) w A l.length X ∧ l.length ≤ cp ∧ X.length ≤ 1000000) := by
    rw [← hX] at hE
    subst hE
    exact ⟨rfl, hC, hA.1, by omega⟩
  clear hn hA hC hC' hmc hm hX hE
  go_enter Try.func5, Try.ntmps5
  go_wp2_with first
      | (go_at_call 16; refine (take_nil 0 _).mono ?_; rintro _ vv ⟨rfl, ev⟩; obtain rfl := ev.symm)
      | (go_at_call 18; refine (push_nil k _).mono ?_; rintro _ vv ⟨rfl, ev⟩; obtain rfl := ev.symm)
      | (go_at_call 22; refine (last_calls A cp l _ w HC.out HA.out HN.out.1 HN.out.2.2).mono ?_; unfold LastPost; rw [HX.out]; rintro _ w1 ⟨A2, c2, rfl, hC2, hc2, hB2⟩; have G2 := Aside0.mk (And.intro hC2 (And.intro hc2 hB2)); clear hC2 hc2 hB2)
      | (go_at_call 23; refine (same_to2 A2 A c2 cp X.length l.length X w1 rfl HM.out.1 G2.out.1 G2.out.2.1 (Kd.C_below HM.out.2.1 G2.out.2.2) HM.out.2.2.1 HM.out.2.2.2).mono ?_; rintro _ w2 ⟨rfl, hD⟩; have B3 := drawn_below G2.out.2.2 hD; clear hD)
      | (go_at_call 14; refine (put_nil k _).mono ?_; rintro _ vv ⟨rfl, ev⟩; obtain rfl := ev.symm)
      | (go_at_call 20; refine (len_nil 0 _).mono ?_; rintro _ vv ⟨rfl, ev⟩; obtain rfl := ev.symm)
      | (go_at_call 21; refine (missed_nil 0 _).mono ?_; rintro _ vv ⟨rfl, ev⟩; obtain rfl := ev.symm)
      | (go_at_call 6; refine (lives_calls _).mono ?_; rintro e w9 ⟨rfl, hB⟩)

  all_goals go_ret
  all_goals exact ⟨rfl, bthen B3.out hB⟩

set_option maxRecDepth 100000 in
set_option maxHeartbeats 2000000 in
theorem last_walk_b (A : Option Addr) (cp : Nat) (l : List Int) (k : Int) (w : World) (hC : Kd.C (Kd.int .i64) w A l.length l) (hA : InRow A l.length cp) (hn : l.length ≤ 2000) (hk0 : -9223372036854775808 ≤ k) (hkm : k < 9223372036854775808) (h : k ≤ 0 ∧ 0 < l.length) : Calls Try.prog 5 #[.slice A l.length cp, .int .i64 k] w fun e w' => e = .returned (.bool true) ∧ Below w.heap.size w w' := by
  have b0 : decide ((2000 : Int) < (l.length : Int)) = false := decide_eq_false (by omega)
  have HA := Aside0.mk hA
  have HC := Aside0.mk hC
  have HN := Aside0.mk (And.intro hn (And.intro hk0 hkm))
  have b1 : decide ((l.length : Int) ≤ k) = false := decide_eq_false (by omega)
  have hwr := IntWalk.i64_in ((l.length : Int)) (by omega)
  have hw64 : wrap64 (l.length : Int) = (l.length : Int) := IntWalk.wrap64_in _ (by omega)
  have hpos : (0 < l.length) = True := eq_true h.2
  have hpoi : ((0 : Int) < (l.length : Int)) = True := eq_true (by omega)
  obtain ⟨A', m, c', hrun, hC', hmc, hm⟩ := cut_to A cp l ((l.length : Int)) w hC hA.1 (by omega) (by omega)
  obtain ⟨X, hX⟩ : ∃ X, X = lastN l k := ⟨_, rfl⟩
  have HX := Aside0.mk hX.symm
  have hE : l.drop ((l.length : Int)).toNat = lastN l k := by unfold lastN; rw [if_pos (by omega), List.drop_eq_nil_of_le (by rw [Int.toNat_natCast]; exact Nat.le_refl _)]
  have HM : Aside0 (m = X.length ∧ Kd.C (Kd.int .i64) w A' m X ∧ m ≤ c' ∧ X.length ≤ 1000000) := by
    rw [← hX] at hE
    subst hE
    exact ⟨hm, hC', hmc, by rw [List.length_drop]; omega⟩
  clear hn hA hC hC' hmc hm hX hE
  go_enter Try.func5, Try.ntmps5
  go_wp2_with first
      | (go_at_call 16; refine (take_nil 0 _).mono ?_; rintro _ vv ⟨rfl, ev⟩; obtain rfl := ev.symm)
      | (go_at_call 18; refine (push_nil k _).mono ?_; rintro _ vv ⟨rfl, ev⟩; obtain rfl := ev.symm)
      | (go_at_call 22; refine (last_calls A cp l _ w HC.out HA.out HN.out.1 HN.out.2.2).mono ?_; unfold LastPost; rw [HX.out]; rintro _ w1 ⟨A2, c2, rfl, hC2, hc2, hB2⟩; have G2 := Aside0.mk (And.intro hC2 (And.intro hc2 hB2)); clear hC2 hc2 hB2)
      | (go_at_call 23; refine (same_to2 A2 A' c2 c' X.length m X w1 rfl HM.out.1 G2.out.1 G2.out.2.1 (Kd.C_below HM.out.2.1 G2.out.2.2) HM.out.2.2.1 HM.out.2.2.2).mono ?_; rintro _ w2 ⟨rfl, hD⟩; have B3 := drawn_below G2.out.2.2 hD; clear hD)
      | (go_at_call 14; refine (put_nil k _).mono ?_; rintro _ vv ⟨rfl, ev⟩; obtain rfl := ev.symm)
      | (go_at_call 20; refine (len_nil 0 _).mono ?_; rintro _ vv ⟨rfl, ev⟩; obtain rfl := ev.symm)
      | (go_at_call 21; refine (missed_nil 0 _).mono ?_; rintro _ vv ⟨rfl, ev⟩; obtain rfl := ev.symm)
      | (go_at_call 6; refine (lives_calls _).mono ?_; rintro e w9 ⟨rfl, hB⟩)

  all_goals go_ret
  all_goals exact ⟨rfl, bthen B3.out hB⟩

set_option maxRecDepth 100000 in
set_option maxHeartbeats 2000000 in
theorem last_walk_c (A : Option Addr) (cp : Nat) (l : List Int) (k : Int) (w : World) (hC : Kd.C (Kd.int .i64) w A l.length l) (hA : InRow A l.length cp) (hn : l.length ≤ 2000) (hk0 : -9223372036854775808 ≤ k) (hkm : k < 9223372036854775808) (h : 0 < k ∧ k < (l.length : Int)) : Calls Try.prog 5 #[.slice A l.length cp, .int .i64 k] w fun e w' => e = .returned (.bool true) ∧ Below w.heap.size w w' := by
  have b0 : decide ((2000 : Int) < (l.length : Int)) = false := decide_eq_false (by omega)
  have HA := Aside0.mk hA
  have HC := Aside0.mk hC
  have HN := Aside0.mk (And.intro hn (And.intro hk0 hkm))
  have b1 : decide ((l.length : Int) ≤ k) = false := decide_eq_false (by omega)
  have hwr := IntWalk.i64_in ((l.length : Int) - k) (by omega)
  obtain ⟨A', m, c', hrun, hC', hmc, hm⟩ := cut_to A cp l (((l.length : Int) - k)) w hC hA.1 (by omega) (by omega)
  obtain ⟨X, hX⟩ : ∃ X, X = lastN l k := ⟨_, rfl⟩
  have HX := Aside0.mk hX.symm
  have hE : l.drop (((l.length : Int) - k)).toNat = lastN l k := by unfold lastN; rw [if_neg (by omega)]; congr 1; omega
  have HM : Aside0 (m = X.length ∧ Kd.C (Kd.int .i64) w A' m X ∧ m ≤ c' ∧ X.length ≤ 1000000) := by
    rw [← hX] at hE
    subst hE
    exact ⟨hm, hC', hmc, by rw [List.length_drop]; omega⟩
  clear hn hA hC hC' hmc hm hX hE
  go_enter Try.func5, Try.ntmps5
  go_wp2_with first
      | (go_at_call 16; refine (take_nil 0 _).mono ?_; rintro _ vv ⟨rfl, ev⟩; obtain rfl := ev.symm)
      | (go_at_call 18; refine (push_nil k _).mono ?_; rintro _ vv ⟨rfl, ev⟩; obtain rfl := ev.symm)
      | (go_at_call 22; refine (last_calls A cp l _ w HC.out HA.out HN.out.1 HN.out.2.2).mono ?_; unfold LastPost; rw [HX.out]; rintro _ w1 ⟨A2, c2, rfl, hC2, hc2, hB2⟩; have G2 := Aside0.mk (And.intro hC2 (And.intro hc2 hB2)); clear hC2 hc2 hB2)
      | (go_at_call 23; refine (same_to2 A2 A' c2 c' X.length m X w1 rfl HM.out.1 G2.out.1 G2.out.2.1 (Kd.C_below HM.out.2.1 G2.out.2.2) HM.out.2.2.1 HM.out.2.2.2).mono ?_; rintro _ w2 ⟨rfl, hD⟩; have B3 := drawn_below G2.out.2.2 hD; clear hD)
      | (go_at_call 14; refine (put_nil k _).mono ?_; rintro _ vv ⟨rfl, ev⟩; obtain rfl := ev.symm)
      | (go_at_call 20; refine (len_nil 0 _).mono ?_; rintro _ vv ⟨rfl, ev⟩; obtain rfl := ev.symm)
      | (go_at_call 21; refine (missed_nil 0 _).mono ?_; rintro _ vv ⟨rfl, ev⟩; obtain rfl := ev.symm)
      | (go_at_call 6; refine (lives_calls _).mono ?_; rintro e w9 ⟨rfl, hB⟩)

  all_goals go_ret
  all_goals exact ⟨rfl, bthen B3.out hB⟩

set_option maxRecDepth 100000 in
set_option maxHeartbeats 2000000 in
theorem last_walk_z (A : Option Addr) (cp : Nat) (k : Int) (w : World) (hA : InRow A 0 cp) (hk0 : -9223372036854775808 ≤ k) (h : k < 0) : Calls Try.prog 5 #[.slice A 0 cp, .int .i64 0] w fun e w' => e = .returned (.bool true) ∧ Below w.heap.size w w' := by
  have hC : Kd.C (Kd.int .i64) w A 0 ([] : List Int) := ⟨rfl, by simp, fun h => absurd h (Nat.lt_irrefl 0)⟩
  have HA := Aside0.mk hA
  have HC := Aside0.mk hC
  obtain ⟨A', m, c', hrun, hC', hmc, hm⟩ := cut_to A cp [] 0 w hC hA.1 (by omega) (by simp)
  rw [List.drop_nil] at hC' hm
  rw [List.length_nil] at hrun
  obtain rfl : m = 0 := hm
  have hX : lastN [] (0) = [] := by unfold lastN; rw [if_pos (by omega)]
  have HX := Aside0.mk hX
  have HM : Aside0 (Kd.C (Kd.int .i64) w A 0 ([] : List Int) ∧ 0 ≤ cp) := ⟨⟨rfl, by simp, fun h => absurd h (Nat.lt_irrefl 0)⟩, Nat.zero_le _⟩
  clear hA hC hC' hmc hX
  clear h hk0
  go_enter Try.func5, Try.ntmps5
  go_wp2_with first
      | (go_at_call 16; refine (take_nil 0 _).mono ?_; rintro _ vv ⟨rfl, ev⟩; obtain rfl := ev.symm)
      | (go_at_call 18; refine (push_nil (0) _).mono ?_; rintro _ vv ⟨rfl, ev⟩; obtain rfl := ev.symm)
      | (go_at_call 22; refine (last_none A cp [] (0) w (by omega)).mono ?_; unfold LastPost; rw [HX.out]; rintro _ w1 ⟨A2, c2, rfl, hC2, hc2, hB2⟩; have G2 := Aside0.mk (And.intro hC2 (And.intro hc2 hB2)); clear hC2 hc2 hB2; rw [List.length_nil])
      | (go_at_call 23; refine (same_to2 A2 A c2 cp 0 0 [] w1 rfl rfl G2.out.1 G2.out.2.1 (Kd.C_below HM.out.1 G2.out.2.2) HM.out.2 (by simp)).mono ?_; rintro _ w2 ⟨rfl, hD⟩; have B3 := drawn_below G2.out.2.2 hD; clear hD)
      | (go_at_call 14; refine (put_nil (0) _).mono ?_; rintro _ vv ⟨rfl, ev⟩; obtain rfl := ev.symm)
      | (go_at_call 20; refine (len_nil 0 _).mono ?_; rintro _ vv ⟨rfl, ev⟩; obtain rfl := ev.symm)
      | (go_at_call 21; refine (missed_nil 0 _).mono ?_; rintro _ vv ⟨rfl, ev⟩; obtain rfl := ev.symm)
      | (go_at_call 6; refine (lives_calls _).mono ?_; rintro e w9 ⟨rfl, hB⟩)

  all_goals go_ret
  all_goals exact ⟨rfl, bthen B3.out hB⟩

set_option maxRecDepth 100000 in
set_option maxHeartbeats 2000000 in
theorem last_walk_n (A : Option Addr) (cp : Nat) (k : Int) (w : World) (hA : InRow A 0 cp) (hk0 : -9223372036854775808 ≤ k) (h : k < 0) : Calls Try.prog 5 #[.slice A 0 cp, .int .i64 k] w fun e w' => e = .returned (.bool true) ∧ Below w.heap.size w w' := by
  have hC : Kd.C (Kd.int .i64) w A 0 ([] : List Int) := ⟨rfl, by simp, fun h => absurd h (Nat.lt_irrefl 0)⟩
  have HA := Aside0.mk hA
  have HC := Aside0.mk hC
  obtain ⟨A', m, c', hrun, hC', hmc, hm⟩ := cut_to A cp [] 0 w hC hA.1 (by omega) (by simp)
  rw [List.drop_nil] at hC' hm
  rw [List.length_nil] at hrun
  obtain rfl : m = 0 := hm
  have hX : lastN [] (k) = [] := by unfold lastN; rw [if_pos (by omega)]
  have HX := Aside0.mk hX
  have HM : Aside0 (Kd.C (Kd.int .i64) w A' 0 ([] : List Int) ∧ 0 ≤ c') := ⟨⟨rfl, by simp, fun h => absurd h (Nat.lt_irrefl 0)⟩, Nat.zero_le _⟩
  clear hA hC hC' hmc hX
  have hd : decide ((0 : Int) ≤ k) = false := decide_eq_false (by omega)
  go_enter Try.func5, Try.ntmps5
  go_wp2_with first
      | (go_at_call 16; refine (take_nil 0 _).mono ?_; rintro _ vv ⟨rfl, ev⟩; obtain rfl := ev.symm)
      | (go_at_call 18; refine (push_nil (k) _).mono ?_; rintro _ vv ⟨rfl, ev⟩; obtain rfl := ev.symm)
      | (go_at_call 22; refine (last_none A cp [] (k) w (by omega)).mono ?_; unfold LastPost; rw [HX.out]; rintro _ w1 ⟨A2, c2, rfl, hC2, hc2, hB2⟩; have G2 := Aside0.mk (And.intro hC2 (And.intro hc2 hB2)); clear hC2 hc2 hB2; rw [List.length_nil])
      | (go_at_call 23; refine (same_to2 A2 A' c2 c' 0 0 [] w1 rfl rfl G2.out.1 G2.out.2.1 (Kd.C_below HM.out.1 G2.out.2.2) HM.out.2 (by simp)).mono ?_; rintro _ w2 ⟨rfl, hD⟩; have B3 := drawn_below G2.out.2.2 hD; clear hD)
      | (go_at_call 14; refine (put_nil (k) _).mono ?_; rintro _ vv ⟨rfl, ev⟩; obtain rfl := ev.symm)
      | (go_at_call 20; refine (len_nil 0 _).mono ?_; rintro _ vv ⟨rfl, ev⟩; obtain rfl := ev.symm)
      | (go_at_call 21; refine (missed_nil 0 _).mono ?_; rintro _ vv ⟨rfl, ev⟩; obtain rfl := ev.symm)
      | (go_at_call 6; refine (lives_calls _).mono ?_; rintro e w9 ⟨rfl, hB⟩)

  all_goals go_ret
  all_goals exact ⟨rfl, bthen B3.out hB⟩

theorem last_law (A : Option Addr) (cp : Nat) (l : List Int) (k : Int) (w : World) (hC : Kd.C (Kd.int .i64) w A l.length l) (hA : InRow A l.length cp) (hk0 : -9223372036854775808 ≤ k) (hkm : k < 9223372036854775808) : Calls Try.prog 5 #[.slice A l.length cp, .int .i64 k] w fun e w' => e = .returned (.bool true) ∧ Below w.heap.size w w' := by
  by_cases hn : l.length ≤ 2000
  · by_cases hl : 0 < l.length
    · rcases (show (l.length : Int) ≤ k ∧ 0 < k ∨ k ≤ 0 ∧ 0 < l.length ∨ 0 < k ∧ k < (l.length : Int) by omega) with h | h | h
      · exact last_walk_a A cp l k w hC hA hn hk0 hkm h
      · exact last_walk_b A cp l k w hC hA hn hk0 hkm h
      · exact last_walk_c A cp l k w hC hA hn hk0 hkm h
    · obtain rfl : l = [] := List.eq_nil_of_length_eq_zero (by omega)
      rcases (show k < 0 ∨ k = 0 ∨ 0 < k by omega) with h | rfl | h
      · exact last_walk_n A cp k w hA hk0 h
      · exact last_walk_z A cp (-1) w hA (by omega) (by omega)
      · exact last_walk_a A cp [] k w hC hA hn hk0 hkm ⟨by simp; omega, h⟩
  · exact last_long A _ cp k w (by omega)

end Go.Proofs.Ytccnfckogcdpcaa.X

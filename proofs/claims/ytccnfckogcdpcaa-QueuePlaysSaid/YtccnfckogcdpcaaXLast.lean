/- The last things of a list: the program's answer, walked by hand. Conditions: none. -/
import Derived.Test.YtccnfckogcdpcaaXPush
namespace Go.Proofs.Ytccnfckogcdpcaa.X
open Go.Conc Go.RowKit Go.Proofs.YtccnfckogcdpcaaW.PrintWords
set_option linter.unusedVariables false
set_option linter.unusedSimpArgs false

theorem infoI : (Try.prog.info? 3).map (fun i => (i.zero, i.size, i.bytes)) = some (some (.int .i64 0), 1, 8) := by kernel_rfl
theorem bthen {w v w' : World} (h : Below w.heap.size w v) (k : Below v.heap.size v w') : Below w.heap.size w w' := h.trans (k.mono h.size)
theorem r_keep {w w' : World} {q g base e : Nat} {ok : Nat → Prop} {v : Value} {xs : List Int} (h : Kd.R (Kd.int .i64) e w base ok v xs) (hk : Keep w w' q g) (hq : q < base) (hg : g < base) : Kd.R (Kd.int .i64) e w' base ok v xs :=
  Kd.R_mono (Kd.R_step (Kd.R_bound h) (fun k ho hlt => hk.block k hlt (by have := ho.2.1; omega) (by have := ho.2.1; omega))) (fun _ h => h.1)
def lastN (l : List Int) (k : Int) : List Int := if k < 1 then [] else l.drop (l.length - k.toNat)
def LastPost (l : List Int) (k : Int) (w : World) (e : Ending) (w' : World) : Prop := ∃ A' c', e = .returned (.slice A' (lastN l k).length c') ∧ Kd.C (Kd.int .i64) w' A' (lastN l k).length (lastN l k) ∧ (lastN l k).length ≤ c' ∧ Below w.heap.size w w'
theorem last_none (A : Option Addr) (cp : Nat) (l : List Int) (k : Int) (w : World) (hk : k < 1) : Calls Try.prog 22 #[.slice A l.length cp, .int .i64 k] w (LastPost l k w) := by
  have d0 : decide (k < 1) = true := decide_eq_true hk
  have hx : lastN l k = [] := by unfold lastN; rw [if_pos hk]
  unfold LastPost
  rw [hx]
  clear hx hk
  go_enter Try.func22, Try.ntmps22
  go_wp2
  go_ret
  exact ⟨none, 0, rfl, Kd.C_nil _ _, Nat.le_refl _, Below.refl _ _⟩
/-- What waits after the first i of the list have been pushed. -/
def win (l : List Int) (cap i : Nat) : List Int := (l.take i).drop (i - cap)
theorem win_len (l : List Int) (cap i : Nat) (h : i ≤ l.length) : (win l cap i).length = min i cap := by
  unfold win; rw [List.length_drop, List.length_take]; omega
theorem win_next (l : List Int) (cap i : Nat) (hc : 0 < cap) (h : i < l.length) : pushL cap (win l cap i) (rd l (i : Int)) = win l cap (i + 1) := by
  have hl := win_len l cap i (by omega)
  have hx : rd l (i : Int) = l[i] := by simp [rd, List.getD, h]
  have ht : l.take (i + 1) = l.take i ++ [l[i]] := List.take_succ_eq_append_getElem h
  unfold pushL
  rw [if_neg (by omega), hx]
  by_cases hi : i < cap
  · rw [if_neg (by omega)]
    unfold win
    rw [show i - cap = 0 by omega, show i + 1 - cap = 0 by omega, List.drop_zero, List.drop_zero, ht]
  · rw [if_pos (by omega)]
    unfold win
    rw [List.tail_drop, ht, List.drop_append_of_le_length (by rw [List.length_take]; omega), show i - cap + 1 = i + 1 - cap by omega]
set_option maxRecDepth 100000 in
set_option maxHeartbeats 8000000 in
theorem last_queue (A : Option Addr) (cp : Nat) (l : List Int) (k : Int) (w : World) (hC : Kd.C (Kd.int .i64) w A l.length l) (hn : l.length ≤ 2000) (hk : 1 ≤ k) (hk2 : k ≤ 1024) : Calls Try.prog 22 #[.slice A l.length cp, .int .i64 k] w (LastPost l k w) := by
  have d0 : decide (k < 1) = false := decide_eq_false (by omega)
  have d1 : decide ((1024 : Int) < k) = false := decide_eq_false (by omega)
  have hcap : capOf k = k.toNat := by unfold capOf; omega
  have hx : lastN l k = win l (capOf k) l.length := by unfold lastN win; rw [if_neg (by omega), hcap, List.take_length]
  have HC := Aside0.mk hC
  have HN := Aside0.mk hn
  have HK := Aside0.mk (show 0 < capOf k by omega)
  unfold LastPost
  rw [hx]
  obtain ⟨C, eC⟩ : ∃ C, C = capOf k := ⟨_, rfl⟩
  rw [← eC] at HK
  rw [← eC]
  clear hC hn hcap hx hk hk2
  go_enter Try.func22, Try.ntmps22
  go_wp2_with (go_at_call 12; refine (new_calls k w).mono ?_; rintro _ w1 ⟨q, g, hq, hg, rfl, h1, hb1⟩)
  rw [← eC] at h1
  have H1 := Aside0.mk (And.intro hq (And.intro hg (And.intro h1 hb1)))
  clear hq hg h1 hb1 eC
  go_loopg [28] l.length (fun kq v28 w' => ∃ (i : Int), v28 = .int .i64 i ∧ 0 ≤ i ∧ i + (kq : Int) = l.length ∧ Aside0 (Qu w' q g C ((win l C i.toNat).map (Value.int .i64)) 0) ∧ Below w.heap.size w w')
  case atStart =>
    refine ⟨0, rfl, by omega, by omega, ⟨?_⟩, H1.out.2.2.2⟩
    have e1 : win l C (0 : Int).toNat = [] := by unfold win; simp
    rw [e1]; exact H1.out.2.2.1
  case round =>
    obtain ⟨i, rfl, hi0, hik, HQ, hbel⟩ := hrel
    by_cases hlt : i < (l.length : Int)
    · have hd : decide (i < (l.length : Int)) = true := decide_eq_true hlt
      obtain ⟨gk, rfl⟩ : ∃ k, gk = k + 1 := ⟨gk - 1, by omega⟩
      obtain ⟨ad, ead, hc⟩ := Kd.at_int (Kd.C_below HC.out hbel) i hi0 hlt
      cases ead
      have p0 : (0 ≤ i) = True := eq_true hi0
      have q0 : (i < (l.length : Int)) = True := eq_true hlt
      have F := Aside0.mk (win_next l C i.toNat HK.out (by omega))
      have HW := Aside0.mk (win_len l C i.toNat (by omega))
      have HI := Aside0.mk (And.intro hi0 (And.intro hik hlt))
      clear hi0 hik hlt
      go_wp2_with (go_at_call 18; refine (push_calls HQ.out (by rw [HW.out]; omega) (rd l i)).mono ?_; rintro _ w2 ⟨rfl, k2, h2⟩)
      go_roundg gk
      case measure => have := HI.out; omega
      case rel =>
        have hI := HI.out
        have hN := HN.out
        have hf := F.out
        rw [show ((i.toNat : Nat) : Int) = i by omega] at hf
        rw [hf] at h2
        refine ⟨i + 1, ?_, by omega, by omega, ⟨?_⟩, Keep.below hbel k2 hbel.size H1.out.1 H1.out.2.1⟩
        · congr 1; first | rfl | rw [IntWalk.i64_in _ (by omega)] | rw [IntWalk.wrap64_in _ (by omega)]
        · rw [show (i + 1).toNat = i.toNat + 1 by omega]; exact h2
    · have hd : decide (i < (l.length : Int)) = false := decide_eq_false hlt
      obtain rfl : (l.length : Int) = i := by omega
      rw [Int.toNat_natCast] at HQ
      obtain ⟨L, eL⟩ : ∃ L, L = win l C l.length := ⟨_, rfl⟩
      have hll : L.length ≤ 2000 := by rw [eL, win_len l C l.length (Nat.le_refl _)]; have := HN.out; omega
      rw [← eL] at HQ
      have HL := Aside0.mk hll
      have HE := Aside0.mk eL
      clear hi0 hik hlt eL hll
      obtain ⟨B, eB⟩ : ∃ B, B = wr.heap.size := ⟨_, rfl⟩
      have HQ0 := Aside0.mk (And.intro HQ.out.lq HQ.out.lg)
      rw [← eB] at HQ0
      have hB : Aside0 (B ≤ wr.heap.size ∧ w.heap.size ≤ B) := ⟨by omega, by rw [eB]; exact hbel.size⟩
      clear eB
      go_wp2_with fail
      go_loopg [8] L.length (fun kq v8 w' => ∃ j : Nat, j + kq = L.length ∧ Aside0 (Kd.R (Kd.int .i64) 3 w' B (fun _ => True) v8 (L.take j)) ∧ Aside0 (Qu w' q g C ((L.drop j).map (Value.int .i64)) 0) ∧ Below w.heap.size w w' ∧ Aside0 (B ≤ w'.heap.size))
      case atStart =>
        refine ⟨0, by omega, ⟨?_⟩, ⟨?_⟩, hbel, ⟨hB.out.1⟩⟩
        · rw [List.take_zero]; exact Kd.R_nil _ _ _ _ _
        · rw [List.drop_zero]; exact HQ.out
      case round =>
        obtain ⟨j, hj, HR, HQ2, hbel2, hsz⟩ := hrel
        have hlen : ((List.map (Value.int .i64) (L.drop j)).length : Int) = ((L.length - j : Nat) : Int) := by rw [List.length_map, List.length_drop]
        by_cases hlt : j < L.length
        · have hd2 : decide (0 < L.length - j) = true := decide_eq_true (by omega)
          obtain ⟨gk, rfl⟩ : ∃ k, gk = k + 1 := ⟨gk - 1, by omega⟩
          have ht : L.take (j + 1) = L.take j ++ [(L.drop j).headD 0] := by
            rw [List.take_succ_eq_append_getElem hlt, List.headD_eq_head?_getD, List.head?_drop]; simp [hlt]
          have htl : (L.drop j).tail = L.drop (j + 1) := by rw [List.tail_drop]
          have HT := Aside0.mk (And.intro hj (And.intro hlt ht))
          clear hj hlt ht
          obtain ⟨y, ey⟩ : ∃ y, y = (L.drop j).headD 0 := ⟨_, rfl⟩
          rw [← ey] at HT
          have HY := Aside0.mk ey
          clear ey
          go_wp2_with first | (go_at_call 20; refine (len_calls HQ2.out).mono ?_; rintro _ _ ⟨rfl, rfl⟩; rw [hlen]) | (go_at_call 16; refine (take_calls HQ2.out).mono ?_; rw [← HY.out, htl]; rintro _ w5 ⟨rfl, k5, h5⟩; have HR5 := Aside0.mk (r_keep HR.out k5 HQ0.out.1 HQ0.out.2); have H5 := Aside0.mk (And.intro k5 h5); clear k5 h5) | (at_builtin; go_loud (refine Kd.R_append (w0 := w5) (Kd.int .i64) B rfl (.tmp 44) (.tmp 46) 42 3 (.int .i64 0) 8 rfl Try.underlying42 infoI rfl (by decide) (by decide) _ (L.take j) y [.int .i64 y] (fun _ => True) (fun _ => False) rfl rfl rfl (fun _ hk => hk.elim) (fun _ _ => trivial) HR5.out (Below.refl _ _) (Nat.le_trans hsz.out H5.out.1.size) (by have := HL.out; rw [List.length_take]; omega) ?_); intro v6 w6 hR6 hB6 hg6 hat6)
          go_roundg gk
          case measure => have := HT.out; omega
          case rel =>
            have hT := HT.out
            have hBw : Below w.heap.size w w5 := Keep.below hbel2 H5.out.1 hbel2.size H1.out.1 H1.out.2.1
            refine ⟨j + 1, by omega, ⟨by rw [hT.2.2]; exact hR6⟩, ⟨H5.out.2.below hB6 HQ0.out.1 HQ0.out.2⟩, hBw.trans (hB6.mono hB.out.2), ⟨?_⟩⟩
            have h1 := hsz.out
            have h2 := H5.out.1.size
            have h3 := hB6.size
            omega
        · have hd2 : decide (0 < L.length - j) = false := decide_eq_false (by omega)
          obtain rfl : L.length = j := by omega
          rw [List.take_length] at HR
          clear hj hlt
          go_wp2_with (go_at_call 20; refine (len_calls HQ2.out).mono ?_; rintro _ _ ⟨rfl, rfl⟩; rw [hlen])
          obtain ⟨A', c', rfl, hc', hC'⟩ := Kd.R_reads HR.out
          go_ret
          rw [← HE.out]
          exact ⟨A', c', rfl, hC', hc', hbel2⟩

set_option maxHeartbeats 8000000 in
theorem last_big_a (ad : Addr) (cp : Nat) (l : List Int) (k : Int) (w : World) (hC : Kd.C (Kd.int .i64) w (some ad) l.length l) (hc : l.length ≤ cp) (hn : l.length ≤ 2000) (hk : 1024 < k) (hkm : k < 9223372036854775808) (hkl : k < (l.length : Int)) : Calls Try.prog 22 #[.slice (some ad) l.length cp, .int .i64 k] w (LastPost l k w) := by
  have d0 : decide (k < 1) = false := decide_eq_false (by omega)
  have d1 : decide ((1024 : Int) < k) = true := decide_eq_true hk
  have hx : lastN l k = l.drop (((l.length : Int) - k).toNat) := by unfold lastN; rw [if_neg (by omega)]; congr 1; omega
  have hw := IntWalk.i64_in ((l.length : Int) - k) (by omega)
  have hne : (cp = ((l.length : Int) - k).toNat) = False := eq_false (by omega)
  have hml : (((l.length : Int) - k).toNat) ≤ l.length := by omega
  have HD := Kd.C_drop (m := ((l.length : Int) - k).toNat) hC hml (Nat.le_refl _)
  have hCd : Kd.C (Kd.int .i64) w (some (ad.add ((l.length : Int) - k).toNat)) (l.length - (((l.length : Int) - k).toNat)) (l.drop (((l.length : Int) - k).toNat)) := by
    obtain ⟨_, h2, h3⟩ := Kd.C_drop (c := cp) (m := ((l.length : Int) - k).toNat) hC hml hc
    rw [if_neg (show ¬ cp = (((l.length : Int) - k).toNat) by omega)] at h3
    rw [List.length_drop] at h2 h3
    refine ⟨List.length_drop, h2, ?_⟩
    first | exact h3 | (intro hp; obtain ⟨ad', e, h4⟩ := h3 hp; exact ⟨ad', by rw [← e]; simp [Kd.int, Kd.scalar], h4⟩)
  have HC := Aside0.mk hCd
  have HN := Aside0.mk hn
  unfold LastPost
  rw [hx]
  clear hC hn hx hk HD hCd
  go_enter Try.func22, Try.ntmps22
  go_wp2_with (at_builtin; go_loud (refine Kd.R_append_row (Value.int .i64) (0 : Int) (h1 := fun _ => rfl) (w0 := w) w.heap.size rfl (.tmp 15) (.tmp 22) 42 3 (.int .i64 0) 8 rfl Try.underlying42 infoI rfl (by decide) (.slice (some ⟨w.heap.size, 0, none⟩) 0 0) [] (l.drop (((l.length : Int) - k).toNat)) (some (ad.add ((l.length : Int) - k).toNat)) (l.length - (((l.length : Int) - k).toNat)) (cp - ((l.length : Int) - k).toNat) (fun _ => True) rfl rfl (fun _ _ => trivial) (Kd.R_of_own (own_lit w w.heap.size 3 .i64 [] (Nat.le_refl _) (by simp)) (fun _ _ => trivial)) (Kd.C_below HC.out ((Below.refl _ _).alloc (Nat.le_refl _) _)) ((Below.refl _ _).alloc (Nat.le_refl _) _) (by simp) (by have := HN.out; simp; omega) ?_); intro v1 w1 hR hB hg hat)
  all_goals try omega
  rw [List.nil_append] at hR
  obtain ⟨A', c', rfl, hc', hC'⟩ := Kd.R_reads hR
  go_ret
  exact ⟨A', c', rfl, hC', hc', hB⟩

set_option maxHeartbeats 8000000 in
theorem last_big_b (ad : Addr) (cp : Nat) (l : List Int) (k : Int) (w : World) (hC : Kd.C (Kd.int .i64) w (some ad) l.length l) (hc : l.length ≤ cp) (hn : l.length ≤ 2000) (hk : 1024 < k) (hkm : k < 9223372036854775808) (hkl : (l.length : Int) ≤ k) (h0 : 0 < l.length) : Calls Try.prog 22 #[.slice (some ad) l.length cp, .int .i64 k] w (LastPost l k w) := by
  have d0 : decide (k < 1) = false := decide_eq_false (by omega)
  have d1 : decide ((1024 : Int) < k) = true := decide_eq_true hk
  have hx : lastN l k = l.drop (0) := by unfold lastN; rw [if_neg (by omega)]; congr 1; omega
  have hw := IntWalk.i64_in ((l.length : Int) - k) (by omega)
  have hne : (cp = 0) = False := eq_false (by omega)
  have hml : (0) ≤ l.length := by omega
  have HD := Kd.C_drop (m := 0) hC hml (Nat.le_refl _)
  have hCd : Kd.C (Kd.int .i64) w (some (ad.add 0)) (l.length - (0)) (l.drop (0)) := by
    obtain ⟨_, h2, h3⟩ := Kd.C_drop (c := cp) (m := 0) hC hml hc
    rw [if_neg (show ¬ cp = (0) by omega)] at h3
    rw [List.length_drop] at h2 h3
    refine ⟨List.length_drop, h2, ?_⟩
    first | exact h3 | (intro hp; obtain ⟨ad', e, h4⟩ := h3 hp; exact ⟨ad', by rw [← e]; simp [Kd.int, Kd.scalar], h4⟩)
  have HC := Aside0.mk hCd
  have HN := Aside0.mk hn
  unfold LastPost
  rw [hx]
  clear hC hn hx hk HD hCd
  go_enter Try.func22, Try.ntmps22
  go_wp2_with (at_builtin; go_loud (refine Kd.R_append_row (Value.int .i64) (0 : Int) (h1 := fun _ => rfl) (w0 := w) w.heap.size rfl (.tmp 15) (.tmp 22) 42 3 (.int .i64 0) 8 rfl Try.underlying42 infoI rfl (by decide) (.slice (some ⟨w.heap.size, 0, none⟩) 0 0) [] (l.drop (0)) (some (ad.add 0)) (l.length - (0)) (cp - 0) (fun _ => True) rfl rfl (fun _ _ => trivial) (Kd.R_of_own (own_lit w w.heap.size 3 .i64 [] (Nat.le_refl _) (by simp)) (fun _ _ => trivial)) (Kd.C_below HC.out ((Below.refl _ _).alloc (Nat.le_refl _) _)) ((Below.refl _ _).alloc (Nat.le_refl _) _) (by simp) (by have := HN.out; simp; omega) ?_); intro v1 w1 hR hB hg hat)
  all_goals try omega
  rw [List.nil_append] at hR
  obtain ⟨A', c', rfl, hc', hC'⟩ := Kd.R_reads hR
  go_ret
  exact ⟨A', c', rfl, hC', hc', hB⟩

set_option maxHeartbeats 8000000 in
theorem last_big_c (ad : Addr) (k : Int) (w : World) (hk : 1024 < k) (hkm : k < 9223372036854775808) : Calls Try.prog 22 #[.slice (some ad) 0 0, .int .i64 k] w (LastPost [] k w) := by
  have d0 : decide (k < 1) = false := decide_eq_false (by omega)
  have d1 : decide ((1024 : Int) < k) = true := decide_eq_true hk
  have hx : lastN [] k = [] := by unfold lastN; rw [if_neg (by omega)]; simp
  have hw := IntWalk.i64_in ((0 : Int) - k) (by omega)
  have hw2 := IntWalk.i64_in (-k) (by omega)
  have HC : ∀ w' : World, Kd.C (Kd.int .i64) w' (some ad) 0 ([] : List Int) := fun w' => ⟨rfl, by simp, fun h => absurd h (Nat.lt_irrefl 0)⟩
  have HC := Aside0.mk HC
  unfold LastPost
  rw [hx]
  have HK := Aside0.mk hk
  clear hx hk
  go_enter Try.func22, Try.ntmps22
  go_wp2_with (at_builtin; go_loud (refine Kd.R_append_row (Value.int .i64) (0 : Int) (h1 := fun _ => rfl) (w0 := w) w.heap.size rfl (.tmp 15) (.tmp 22) 42 3 (.int .i64 0) 8 rfl Try.underlying42 infoI rfl (by decide) (.slice (some ⟨w.heap.size, 0, none⟩) 0 0) [] [] (some ad) 0 0 (fun _ => True) rfl rfl (fun _ _ => trivial) (Kd.R_of_own (own_lit w w.heap.size 3 .i64 [] (Nat.le_refl _) (by simp)) (fun _ _ => trivial)) (HC.out _) ((Below.refl _ _).alloc (Nat.le_refl _) _) (by simp) (by simp) ?_); intro v1 w1 hR hB hg hat)
  all_goals try (have := HK.out; omega)
  rw [List.nil_append] at hR
  obtain ⟨A', c', rfl, hc', hC'⟩ := Kd.R_reads hR
  go_ret
  exact ⟨A', ⟨c', rfl⟩, hC', hB⟩

set_option maxHeartbeats 8000000 in
theorem last_big_d (ad : Addr) (cp : Nat) (hcp : 0 < cp) (k : Int) (w : World) (hk : 1024 < k) (hkm : k < 9223372036854775808) : Calls Try.prog 22 #[.slice (some ad) 0 cp, .int .i64 k] w (LastPost [] k w) := by
  have d0 : decide (k < 1) = false := decide_eq_false (by omega)
  have d1 : decide ((1024 : Int) < k) = true := decide_eq_true hk
  have hx : lastN [] k = [] := by unfold lastN; rw [if_neg (by omega)]; simp
  have hw := IntWalk.i64_in ((0 : Int) - k) (by omega)
  have hw2 := IntWalk.i64_in (-k) (by omega)
  have hne : (cp = 0) = False := eq_false (by omega)
  have HC : ∀ w' : World, Kd.C (Kd.int .i64) w' (some (ad.add 0)) 0 ([] : List Int) := fun w' => ⟨rfl, by simp, fun h => absurd h (Nat.lt_irrefl 0)⟩
  have HC := Aside0.mk HC
  unfold LastPost
  rw [hx]
  have HK := Aside0.mk hk
  clear hx hk
  go_enter Try.func22, Try.ntmps22
  go_wp2_with (at_builtin; go_loud (refine Kd.R_append_row (Value.int .i64) (0 : Int) (h1 := fun _ => rfl) (w0 := w) w.heap.size rfl (.tmp 15) (.tmp 22) 42 3 (.int .i64 0) 8 rfl Try.underlying42 infoI rfl (by decide) (.slice (some ⟨w.heap.size, 0, none⟩) 0 0) [] [] (some (ad.add 0)) 0 (cp - 0) (fun _ => True) rfl rfl (fun _ _ => trivial) (Kd.R_of_own (own_lit w w.heap.size 3 .i64 [] (Nat.le_refl _) (by simp)) (fun _ _ => trivial)) (HC.out _) ((Below.refl _ _).alloc (Nat.le_refl _) _) (by simp) (by simp) ?_); intro v1 w1 hR hB hg hat)
  all_goals try (have := HK.out; omega)
  rw [List.nil_append] at hR
  obtain ⟨A', c', rfl, hc', hC'⟩ := Kd.R_reads hR
  go_ret
  exact ⟨A', ⟨c', rfl⟩, hC', hB⟩

set_option maxHeartbeats 8000000 in
theorem last_big_e  (k : Int) (w : World) (hk : 1024 < k) (hkm : k < 9223372036854775808) : Calls Try.prog 22 #[.slice none 0 0, .int .i64 k] w (LastPost [] k w) := by
  have d0 : decide (k < 1) = false := decide_eq_false (by omega)
  have d1 : decide ((1024 : Int) < k) = true := decide_eq_true hk
  have hx : lastN [] k = [] := by unfold lastN; rw [if_neg (by omega)]; simp
  have hw := IntWalk.i64_in ((0 : Int) - k) (by omega)
  have hw2 := IntWalk.i64_in (-k) (by omega)
  have HC : ∀ w' : World, Kd.C (Kd.int .i64) w' none 0 ([] : List Int) := fun w' => ⟨rfl, by simp, fun h => absurd h (Nat.lt_irrefl 0)⟩
  have HC := Aside0.mk HC
  unfold LastPost
  rw [hx]
  have HK := Aside0.mk hk
  clear hx hk
  go_enter Try.func22, Try.ntmps22
  go_wp2_with (at_builtin; go_loud (refine Kd.R_append_row (Value.int .i64) (0 : Int) (h1 := fun _ => rfl) (w0 := w) w.heap.size rfl (.tmp 15) (.tmp 22) 42 3 (.int .i64 0) 8 rfl Try.underlying42 infoI rfl (by decide) (.slice (some ⟨w.heap.size, 0, none⟩) 0 0) [] [] none 0 0 (fun _ => True) rfl rfl (fun _ _ => trivial) (Kd.R_of_own (own_lit w w.heap.size 3 .i64 [] (Nat.le_refl _) (by simp)) (fun _ _ => trivial)) (HC.out _) ((Below.refl _ _).alloc (Nat.le_refl _) _) (by simp) (by simp) ?_); intro v1 w1 hR hB hg hat)
  all_goals try (have := HK.out; omega)
  rw [List.nil_append] at hR
  obtain ⟨A', c', rfl, hc', hC'⟩ := Kd.R_reads hR
  go_ret
  exact ⟨A', ⟨c', rfl⟩, hC', hB⟩

/-- A slice value of whole numbers, as it is handed in. -/
def InRow (A : Option Addr) (n c : Nat) : Prop := n ≤ c ∧ (A = none → n = 0 ∧ c = 0)
theorem last_calls (A : Option Addr) (cp : Nat) (l : List Int) (k : Int) (w : World) (hC : Kd.C (Kd.int .i64) w A l.length l) (hA : InRow A l.length cp) (hn : l.length ≤ 2000) (hkm : k < 9223372036854775808) : Calls Try.prog 22 #[.slice A l.length cp, .int .i64 k] w (LastPost l k w) := by
  by_cases h1 : k < 1
  · exact last_none A cp l k w h1
  by_cases h2 : k ≤ 1024
  · exact last_queue A cp l k w hC hn (by omega) h2
  by_cases h0 : 0 < l.length
  · obtain ⟨ad, rfl, _⟩ := hC.2.2 h0
    by_cases h3 : k < (l.length : Int)
    · exact last_big_a ad cp l k w hC hA.1 hn (by omega) hkm h3
    · exact last_big_b ad cp l k w hC hA.1 hn (by omega) hkm (by omega) h0
  · obtain rfl : l = [] := List.eq_nil_of_length_eq_zero (by omega)
    cases A with
    | none =>
      obtain ⟨_, rfl⟩ := hA.2 rfl
      exact last_big_e k w (by omega) hkm
    | some ad =>
      by_cases h4 : 0 < cp
      · exact last_big_d ad cp h4 k w (by omega) hkm
      · obtain rfl : cp = 0 := by omega
        exact last_big_c ad k w (by omega) hkm

end Go.Proofs.Ytccnfckogcdpcaa.X

/- All blocks of a purse, and whether one is in it: contracts by hand. Conditions: none. -/
import Derived.Test.YtmgphebhfecfmaaXPurseB
import Derived.Test.YtmgphebhfecfmaaPPursePlaysx1
namespace Go.Proofs.Ytmgphebhfecfmaa.X
open Go.RowKit Go.Proofs.Ytmgphebhfecfmaa.PPursePlays Go.Proofs.YtmgphebhfecfmaaW.PrintWords Go.Proofs.YtmgphebhfecfmaaW.PrintLast Go.Proofs.YtmgphebhfecfmaaW.PrintMore
set_option linter.unusedVariables false
set_option linter.unusedSimpArgs false

def allN (X : Nat → List Int) : List Int := X 0 ++ X 1 ++ X 2 ++ X 3 ++ X 4
def pre (X : Nat → List Int) : Nat → List Int
  | 0 => []
  | k + 1 => pre X k ++ X k
theorem allN_pre (X : Nat → List Int) : pre X 5 = allN X := by simp [pre, allN]
def total (X : Nat → List Int) : Nat := (X 0).length + (X 1).length + (X 2).length + (X 3).length + (X 4).length
theorem pre_len (X : Nat → List Int) (k : Nat) (h : k < 5) : (pre X k).length + (X k).length ≤ total X := by
  have : k = 0 ∨ k = 1 ∨ k = 2 ∨ k = 3 ∨ k = 4 := by omega
  rcases this with rfl | rfl | rfl | rfl | rfl <;> simp [pre, total] <;> omega
theorem box_arr0 (P : Nat → Sv) (w : World) : (Instr.index 25 (.agg #[.slice (P 0).A (P 0).n (P 0).c, .slice (P 1).A (P 1).n (P 1).c, .slice (P 2).A (P 2).n (P 2).c, .slice (P 3).A (P 3).n (P 3).c, .slice (P 4).A (P 4).n (P 4).c]) (.int .i64 0)).run Try.prog w = .ok (.slice (P 0).A (P 0).n (P 0).c) w := by kernel_rfl
theorem box_arr1 (P : Nat → Sv) (w : World) : (Instr.index 25 (.agg #[.slice (P 0).A (P 0).n (P 0).c, .slice (P 1).A (P 1).n (P 1).c, .slice (P 2).A (P 2).n (P 2).c, .slice (P 3).A (P 3).n (P 3).c, .slice (P 4).A (P 4).n (P 4).c]) (.int .i64 1)).run Try.prog w = .ok (.slice (P 1).A (P 1).n (P 1).c) w := by kernel_rfl
theorem box_arr2 (P : Nat → Sv) (w : World) : (Instr.index 25 (.agg #[.slice (P 0).A (P 0).n (P 0).c, .slice (P 1).A (P 1).n (P 1).c, .slice (P 2).A (P 2).n (P 2).c, .slice (P 3).A (P 3).n (P 3).c, .slice (P 4).A (P 4).n (P 4).c]) (.int .i64 2)).run Try.prog w = .ok (.slice (P 2).A (P 2).n (P 2).c) w := by kernel_rfl
theorem box_arr3 (P : Nat → Sv) (w : World) : (Instr.index 25 (.agg #[.slice (P 0).A (P 0).n (P 0).c, .slice (P 1).A (P 1).n (P 1).c, .slice (P 2).A (P 2).n (P 2).c, .slice (P 3).A (P 3).n (P 3).c, .slice (P 4).A (P 4).n (P 4).c]) (.int .i64 3)).run Try.prog w = .ok (.slice (P 3).A (P 3).n (P 3).c) w := by kernel_rfl
theorem box_arr4 (P : Nat → Sv) (w : World) : (Instr.index 25 (.agg #[.slice (P 0).A (P 0).n (P 0).c, .slice (P 1).A (P 1).n (P 1).c, .slice (P 2).A (P 2).n (P 2).c, .slice (P 3).A (P 3).n (P 3).c, .slice (P 4).A (P 4).n (P 4).c]) (.int .i64 4)).run Try.prog w = .ok (.slice (P 4).A (P 4).n (P 4).c) w := by kernel_rfl

set_option maxHeartbeats 2000000 in
theorem all_calls (P : Nat → Sv) (X : Nat → List Int) (w : World) (h : PR w P X) (hb : total X ≤ 1000000) : Calls Try.prog 8 #[.agg #[.slice (P 0).A (P 0).n (P 0).c, .slice (P 1).A (P 1).n (P 1).c, .slice (P 2).A (P 2).n (P 2).c, .slice (P 3).A (P 3).n (P 3).c, .slice (P 4).A (P 4).n (P 4).c]] w fun e w' => ∃ s', e = .returned (.slice s'.A s'.n s'.c) ∧ Sl w' s' (allN X) ∧ Below w.heap.size w w' := by
  have H := Aside0.mk h
  have HB := Aside0.mk hb
  clear h hb
  go_enter Try.func8, Try.ntmps8
  go_wp2
  go_loopg [3, 8] 5 (fun kq v3 v8 w' => ∃ k : Nat, v8 = .int .i64 (k : Int) ∧ k + kq = 5 ∧ Aside0 (Kd.R (Kd.int .i64) 3 w' w.heap.size (fun _ => True) v3 (pre X k)) ∧ Below w.heap.size w w')
  case atStart => exact ⟨0, rfl, by omega, ⟨Kd.R_nil _ _ _ _ _⟩, (Below.refl _ _).alloc (Nat.le_refl _) _⟩
  case round =>
    obtain ⟨k, rfl, hk, HR, hbel⟩ := hrel
    have hk5 : k = 0 ∨ k = 1 ∨ k = 2 ∨ k = 3 ∨ k = 4 ∨ k = 5 := by omega
    rcases hk5 with rfl | rfl | rfl | rfl | rfl | rfl
    · obtain ⟨gk, rfl⟩ : ∃ m, gk = m + 1 := ⟨gk - 1, by omega⟩
      have ix := box_arr0 P
      go_wp2_with (at_builtin; go_loud (refine Kd.R_append_row (Value.int .i64) (0 : Int) (h1 := fun _ => rfl) (w0 := w) w.heap.size rfl (.tmp 11) (.tmp 12) 24 3 (.int .i64 0) 8 rfl Try.underlying24 info3 rfl (by decide) _ (pre X 0) (X 0) (P 0).A (P 0).n (P 0).c (fun _ => True) rfl rfl (fun _ _ => trivial) HR.out (Kd.C_below (H.out 0 (by omega)).C hbel) hbel hbel.size (by have := pre_len X 0 (by omega); have := HB.out; have := (H.out 0 (by omega)).len; omega) ?_); intro v1 w1 hR hB hg hat)
      go_roundg gk
      case measure => omega
      case rel => exact ⟨1, rfl, by omega, ⟨hR⟩, hB⟩
    · obtain ⟨gk, rfl⟩ : ∃ m, gk = m + 1 := ⟨gk - 1, by omega⟩
      have ix := box_arr1 P
      go_wp2_with (at_builtin; go_loud (refine Kd.R_append_row (Value.int .i64) (0 : Int) (h1 := fun _ => rfl) (w0 := w) w.heap.size rfl (.tmp 11) (.tmp 12) 24 3 (.int .i64 0) 8 rfl Try.underlying24 info3 rfl (by decide) _ (pre X 1) (X 1) (P 1).A (P 1).n (P 1).c (fun _ => True) rfl rfl (fun _ _ => trivial) HR.out (Kd.C_below (H.out 1 (by omega)).C hbel) hbel hbel.size (by have := pre_len X 1 (by omega); have := HB.out; have := (H.out 1 (by omega)).len; omega) ?_); intro v1 w1 hR hB hg hat)
      go_roundg gk
      case measure => omega
      case rel => exact ⟨2, rfl, by omega, ⟨hR⟩, hB⟩
    · obtain ⟨gk, rfl⟩ : ∃ m, gk = m + 1 := ⟨gk - 1, by omega⟩
      have ix := box_arr2 P
      go_wp2_with (at_builtin; go_loud (refine Kd.R_append_row (Value.int .i64) (0 : Int) (h1 := fun _ => rfl) (w0 := w) w.heap.size rfl (.tmp 11) (.tmp 12) 24 3 (.int .i64 0) 8 rfl Try.underlying24 info3 rfl (by decide) _ (pre X 2) (X 2) (P 2).A (P 2).n (P 2).c (fun _ => True) rfl rfl (fun _ _ => trivial) HR.out (Kd.C_below (H.out 2 (by omega)).C hbel) hbel hbel.size (by have := pre_len X 2 (by omega); have := HB.out; have := (H.out 2 (by omega)).len; omega) ?_); intro v1 w1 hR hB hg hat)
      go_roundg gk
      case measure => omega
      case rel => exact ⟨3, rfl, by omega, ⟨hR⟩, hB⟩
    · obtain ⟨gk, rfl⟩ : ∃ m, gk = m + 1 := ⟨gk - 1, by omega⟩
      have ix := box_arr3 P
      go_wp2_with (at_builtin; go_loud (refine Kd.R_append_row (Value.int .i64) (0 : Int) (h1 := fun _ => rfl) (w0 := w) w.heap.size rfl (.tmp 11) (.tmp 12) 24 3 (.int .i64 0) 8 rfl Try.underlying24 info3 rfl (by decide) _ (pre X 3) (X 3) (P 3).A (P 3).n (P 3).c (fun _ => True) rfl rfl (fun _ _ => trivial) HR.out (Kd.C_below (H.out 3 (by omega)).C hbel) hbel hbel.size (by have := pre_len X 3 (by omega); have := HB.out; have := (H.out 3 (by omega)).len; omega) ?_); intro v1 w1 hR hB hg hat)
      go_roundg gk
      case measure => omega
      case rel => exact ⟨4, rfl, by omega, ⟨hR⟩, hB⟩
    · obtain ⟨gk, rfl⟩ : ∃ m, gk = m + 1 := ⟨gk - 1, by omega⟩
      have ix := box_arr4 P
      go_wp2_with (at_builtin; go_loud (refine Kd.R_append_row (Value.int .i64) (0 : Int) (h1 := fun _ => rfl) (w0 := w) w.heap.size rfl (.tmp 11) (.tmp 12) 24 3 (.int .i64 0) 8 rfl Try.underlying24 info3 rfl (by decide) _ (pre X 4) (X 4) (P 4).A (P 4).n (P 4).c (fun _ => True) rfl rfl (fun _ _ => trivial) HR.out (Kd.C_below (H.out 4 (by omega)).C hbel) hbel hbel.size (by have := pre_len X 4 (by omega); have := HB.out; have := (H.out 4 (by omega)).len; omega) ?_); intro v1 w1 hR hB hg hat)
      go_roundg gk
      case measure => omega
      case rel => exact ⟨5, rfl, by omega, ⟨hR⟩, hB⟩
    · go_wp2
      rw [allN_pre] at HR
      obtain ⟨s', hv, hs, _⟩ := sl_own (Kd.own_of_R HR.out) rfl
      go_ret
      exact ⟨s', by rw [hv]; rfl, hs, hbel⟩

theorem allN_len (X : Nat → List Int) : (allN X).length = total X := by simp [allN, total]; omega
def hasN (l : List Int) (a : Int) : Bool := l.any (· == a)
theorem w64 {a : Int} (h0 : -9223372036854775808 ≤ a) (h1 : a < 9223372036854775808) : wrap64 a = a := by unfold wrap64; omega
theorem index_loop (l : List Int) (a : Int) (hl : l.length ≤ 1000000) (d : Nat) : ∀ (p k : Nat), p + d = l.length → d < k → ∃ r : Int, slices_Index_int_int.l0 k l a (l.length : Int) (p : Int) = some r ∧ (0 ≤ r ↔ a ∈ l.drop p) := by
  induction d with
  | zero =>
    intro p k hp hk
    obtain ⟨k, rfl⟩ : ∃ m, k = m + 1 := ⟨k - 1, by omega⟩
    simp only [slices_Index_int_int.l0]
    rw [if_neg (by omega), List.drop_eq_nil_of_le (by omega)]
    exact ⟨-1, rfl, by simp⟩
  | succ d ih =>
    intro p k hp hk
    obtain ⟨k, rfl⟩ : ∃ m, k = m + 1 := ⟨k - 1, by omega⟩
    simp only [slices_Index_int_int.l0]
    have hlt : p < l.length := by omega
    have e : rd l (p : Int) = l[p] := by simp [rd, List.getD, hlt]
    rw [if_pos (by omega), if_pos (by omega), if_pos (by omega), e]
    have ed := List.drop_eq_getElem_cons hlt
    by_cases h : a = l[p]
    · rw [if_pos h]
      exact ⟨p, rfl, fun _ => by rw [ed, h]; exact List.mem_cons_self, fun _ => by omega⟩
    · rw [if_neg h, w64 (a := (p : Int) + 1) (by omega) (by omega)]
      obtain ⟨r, h1, h2⟩ := ih (p + 1) k (by omega) (by omega)
      refine ⟨r, h1, ?_⟩
      rw [h2, ed, List.mem_cons]
      simp [h]
theorem contains_f (l : List Int) (a : Int) (hl : l.length ≤ 1000000) : slices_Contains_int_int.f (l.length + 1) l a = some (hasN l a) := by
  obtain ⟨r, h1, h2⟩ := index_loop l a hl l.length 0 (l.length + 1) (by omega) (by omega)
  unfold slices_Contains_int_int.f slices_Index_int_int.f
  rw [show ((0 : Nat) : Int) = 0 from rfl] at h1
  rw [h1, Option.bind_some, List.drop_zero] at *
  congr 1
  rw [Bool.eq_iff_iff, decide_eq_true_iff]
  change 0 ≤ r ↔ _
  rw [h2]
  simp [hasN]
theorem has_calls (P : Nat → Sv) (X : Nat → List Int) (a : Int) (w : World) (h : PR w P X) (hb : total X ≤ 1000000) : Calls Try.prog 11 #[.agg #[.slice (P 0).A (P 0).n (P 0).c, .slice (P 1).A (P 1).n (P 1).c, .slice (P 2).A (P 2).n (P 2).c, .slice (P 3).A (P 3).n (P 3).c, .slice (P 4).A (P 4).n (P 4).c], .int .i64 a] w fun e w' => e = .returned (.bool (hasN (allN X) a)) ∧ Below w.heap.size w w' := by
  have H := Aside0.mk h
  have HB := Aside0.mk hb
  clear h hb
  go_enter Try.func11, Try.ntmps11
  go_wp2_with (first
    | (go_at_call 8; refine (all_calls P X _ (H.out.below ((Below.refl _ _).alloc (Nat.le_refl _) _)) HB.out).mono ?_; rintro e w1 ⟨⟨A', n', c'⟩, rfl, hs, hB⟩; obtain ⟨hn, hle, _, hC⟩ := hs; obtain rfl : n' = (allN X).length := hn; have HC := Aside0.mk hC; have HL := Aside0.mk hle; clear hC hle)
    | (go_at_call 19; refine (slices_Contains_int_int.calls ((allN X).length + 1) A' c' (allN X) a _ _ HC.out HL.out (contains_f _ _ (by rw [allN_len]; exact HB.out))).mono ?_; rintro e w2 ⟨rfl, hD⟩))
  go_ret
  exact ⟨rfl, ((Below.refl w.heap.size w).alloc (Nat.le_refl _) _).trans ((hB.trans (hD.below.mono hB.size)).mono (by simp only [World.size_alloc]; omega))⟩

end Go.Proofs.Ytmgphebhfecfmaa.X

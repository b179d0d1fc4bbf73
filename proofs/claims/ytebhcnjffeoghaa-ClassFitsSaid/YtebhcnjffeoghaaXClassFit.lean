/- What class.Pages and class.Fit tell: their contracts, walked by hand over those of XClass. Conditions: none. -/
import Derived.Test.YtebhcnjffeoghaaXClass
import Derived.Test.YtebhcnjffeoghaaWMore
namespace Go.Proofs.Ytebhcnjffeoghaa.X
open Go.RowKit Go.Proofs.YtebhcnjffeoghaaW.PrintWords Go.Proofs.YtebhcnjffeoghaaW.PrintLast Go.Proofs.YtebhcnjffeoghaaW.PrintMore
set_option linter.unusedVariables false
set_option linter.unusedSimpArgs false

def pagesN (n : Int) : Int := if n < 1 then 0 else wrap64 (wrap64 (Int.tdiv (wrap64 (n - 1)) 32) + 1)
def class_Pages.f (a0 : Int) : Option (Int) := some (pagesN a0)
theorem class_Pages.calls (a0 : Int) (r : Int) (w : World) (h : class_Pages.f a0 = some r) :
    Calls Try.prog 11 #[.int .i64 a0] w fun e w' => e = .returned (.int .i64 r) ∧ Drawn0 w w' := by
  obtain rfl : pagesN a0 = r := Option.some.inj h
  clear h
  by_cases hlo : a0 < 1
  · have hz : pagesN a0 = 0 := by unfold pagesN; rw [if_pos hlo]
    rw [hz]; clear hz
    go_enter Try.func11, Try.ntmps11
    go_wp2
    go_ret
    exact ⟨rfl, Drawn0.refl _⟩
  · have hz : pagesN a0 = wrap64 (wrap64 (Int.tdiv (wrap64 (a0 - 1)) 32) + 1) := by unfold pagesN; rw [if_neg hlo]
    rw [hz]; clear hz
    have hb : decide (a0 < 1) = false := decide_eq_false hlo
    clear hlo
    go_enter Try.func11, Try.ntmps11
    go_wp2
    go_ret
    exact ⟨rfl, Drawn0.refl _⟩

def fitN (a0 a1 : Int) : Int × Int × Int × Int :=
  if a0 < 0 then (0, 0, 0, 2) else if alignedB a1 = true then (if mx a0 a1 ≤ 16 then (ofN (mx a0 a1), 0, 0, 0) else (-1, pagesN (mx a0 1), mx 1 (wrap64 (Int.tdiv a1 32)), 0)) else (0, 0, 0, 2)
def class_Fit.f (a0 : Int) (a1 : Int) : Option (Int × Int × Int × Int) := some (fitN a0 a1)

theorem mx_lt {a b : Int} (h : a < b) : mx a b = b := by unfold mx; rw [if_pos h]
theorem mx_ge {a b : Int} (h : ¬ a < b) : mx a b = a := by unfold mx; rw [if_neg h]

set_option maxHeartbeats 4000000 in
theorem class_Fit.calls (a0 : Int) (a1 : Int) (r1 : Int) (r2 : Int) (r3 : Int) (r4 : Int) (w : World) (h : class_Fit.f a0 a1 = some (r1, r2, r3, r4)) :
    Calls Try.prog 18 #[.int .i64 a0, .int .i64 a1] w fun e w' => e = .returned (.tuple #[.int .i64 r1, .int .i64 r2, .int .i64 r3, .int .i64 r4]) ∧ Below w.heap.size w w' := by
  have h : fitN a0 a1 = (r1, r2, r3, r4) := Option.some.inj h
  by_cases hlo : a0 < 0
  · have hz : fitN a0 a1 = (0, 0, 0, 2) := by unfold fitN; rw [if_pos hlo]
    rw [hz] at h; clear hz
    obtain ⟨rfl, rfl, rfl, rfl⟩ := h
    go_enter Try.func18, Try.ntmps18
    go_wp2_with fail
    refine bodyPost_ret (results_list (rs := [.tmp 4, .tmp 5, .tmp 6, .tmp 7]) rfl (by simp) (.tmp (.tmp (.tmp (.tmp .nil))))) rfl ?_
    exact ⟨rfl, Below.refl _ _⟩
  · by_cases ha : alignedB a1 = true
    · by_cases hm : mx a0 a1 ≤ 16
      · have hz : fitN a0 a1 = (ofN (mx a0 a1), 0, 0, 0) := by unfold fitN; rw [if_neg hlo, if_pos ha, if_pos hm]
        rw [hz] at h; clear hz
        obtain ⟨rfl, rfl, rfl, rfl⟩ := h
        have HA := Aside0.mk (show class_aligned.f a1 = some true from congrArg some ha)
        clear ha h
        by_cases c : a0 < a1
        · rw [mx_lt c] at hm ⊢
          go_enter Try.func18, Try.ntmps18
          go_wp2_with (first | (go_at_call 23; refine (class_aligned.calls _ true _ HA.out).mono ?_; rintro e w1 ⟨rfl, hb⟩) | (go_at_call 9; refine (class_Of.calls _ _ _ rfl).mono ?_; rintro e w2 ⟨rfl, hb2⟩))
          refine bodyPost_ret (results_list (rs := [.tmp 4, .tmp 5, .tmp 6, .tmp 7]) rfl (by simp) (.tmp (.tmp (.tmp (.tmp .nil))))) rfl ?_
          exact ⟨rfl, hb.trans (hb2.mono hb.size)⟩
        · rw [mx_ge c] at hm ⊢
          go_enter Try.func18, Try.ntmps18
          go_wp2_with (first | (go_at_call 23; refine (class_aligned.calls _ true _ HA.out).mono ?_; rintro e w1 ⟨rfl, hb⟩) | (go_at_call 9; refine (class_Of.calls _ _ _ rfl).mono ?_; rintro e w2 ⟨rfl, hb2⟩))
          refine bodyPost_ret (results_list (rs := [.tmp 4, .tmp 5, .tmp 6, .tmp 7]) rfl (by simp) (.tmp (.tmp (.tmp (.tmp .nil))))) rfl ?_
          exact ⟨rfl, hb.trans (hb2.mono hb.size)⟩
      · have hz : fitN a0 a1 = (-1, pagesN (mx a0 1), mx 1 (wrap64 (Int.tdiv a1 32)), 0) := by unfold fitN; rw [if_neg hlo, if_pos ha, if_neg hm]
        rw [hz] at h; clear hz
        obtain ⟨rfl, rfl, rfl, rfl⟩ := h
        have HA := Aside0.mk (show class_aligned.f a1 = some true from congrArg some ha)
        clear ha h
        by_cases c : a0 < a1
        · rw [mx_lt c] at hm
          by_cases c2 : a0 < 1
          · rw [mx_lt c2]
            by_cases c3 : 1 < wrap64 (Int.tdiv a1 32)
            · rw [mx_lt c3]
              go_enter Try.func18, Try.ntmps18
              go_wp2_with (first | (go_at_call 23; refine (class_aligned.calls _ true _ HA.out).mono ?_; rintro e w1 ⟨rfl, hb⟩) | (go_at_call 11; refine (class_Pages.calls _ _ _ rfl).mono ?_; rintro e w2 ⟨rfl, ⟨nd, rfl⟩⟩))
              refine bodyPost_ret (results_list (rs := [.tmp 4, .tmp 5, .tmp 6, .tmp 7]) rfl (by simp) (.tmp (.tmp (.tmp (.tmp .nil))))) rfl ?_
              exact ⟨rfl, pw_below_drewN hb _⟩
            · rw [mx_ge c3]
              go_enter Try.func18, Try.ntmps18
              go_wp2_with (first | (go_at_call 23; refine (class_aligned.calls _ true _ HA.out).mono ?_; rintro e w1 ⟨rfl, hb⟩) | (go_at_call 11; refine (class_Pages.calls _ _ _ rfl).mono ?_; rintro e w2 ⟨rfl, ⟨nd, rfl⟩⟩))
              refine bodyPost_ret (results_list (rs := [.tmp 4, .tmp 5, .tmp 6, .tmp 7]) rfl (by simp) (.tmp (.tmp (.tmp (.tmp .nil))))) rfl ?_
              exact ⟨rfl, pw_below_drewN hb _⟩
          · rw [mx_ge c2]
            by_cases c3 : 1 < wrap64 (Int.tdiv a1 32)
            · rw [mx_lt c3]
              go_enter Try.func18, Try.ntmps18
              go_wp2_with (first | (go_at_call 23; refine (class_aligned.calls _ true _ HA.out).mono ?_; rintro e w1 ⟨rfl, hb⟩) | (go_at_call 11; refine (class_Pages.calls _ _ _ rfl).mono ?_; rintro e w2 ⟨rfl, ⟨nd, rfl⟩⟩))
              refine bodyPost_ret (results_list (rs := [.tmp 4, .tmp 5, .tmp 6, .tmp 7]) rfl (by simp) (.tmp (.tmp (.tmp (.tmp .nil))))) rfl ?_
              exact ⟨rfl, pw_below_drewN hb _⟩
            · rw [mx_ge c3]
              go_enter Try.func18, Try.ntmps18
              go_wp2_with (first | (go_at_call 23; refine (class_aligned.calls _ true _ HA.out).mono ?_; rintro e w1 ⟨rfl, hb⟩) | (go_at_call 11; refine (class_Pages.calls _ _ _ rfl).mono ?_; rintro e w2 ⟨rfl, ⟨nd, rfl⟩⟩))
              refine bodyPost_ret (results_list (rs := [.tmp 4, .tmp 5, .tmp 6, .tmp 7]) rfl (by simp) (.tmp (.tmp (.tmp (.tmp .nil))))) rfl ?_
              exact ⟨rfl, pw_below_drewN hb _⟩
        · rw [mx_ge c] at hm
          by_cases c2 : a0 < 1
          · exact absurd hm (by omega)
          · rw [mx_ge c2]
            by_cases c3 : 1 < wrap64 (Int.tdiv a1 32)
            · rw [mx_lt c3]
              go_enter Try.func18, Try.ntmps18
              go_wp2_with (first | (go_at_call 23; refine (class_aligned.calls _ true _ HA.out).mono ?_; rintro e w1 ⟨rfl, hb⟩) | (go_at_call 11; refine (class_Pages.calls _ _ _ rfl).mono ?_; rintro e w2 ⟨rfl, ⟨nd, rfl⟩⟩))
              refine bodyPost_ret (results_list (rs := [.tmp 4, .tmp 5, .tmp 6, .tmp 7]) rfl (by simp) (.tmp (.tmp (.tmp (.tmp .nil))))) rfl ?_
              exact ⟨rfl, pw_below_drewN hb _⟩
            · rw [mx_ge c3]
              go_enter Try.func18, Try.ntmps18
              go_wp2_with (first | (go_at_call 23; refine (class_aligned.calls _ true _ HA.out).mono ?_; rintro e w1 ⟨rfl, hb⟩) | (go_at_call 11; refine (class_Pages.calls _ _ _ rfl).mono ?_; rintro e w2 ⟨rfl, ⟨nd, rfl⟩⟩))
              refine bodyPost_ret (results_list (rs := [.tmp 4, .tmp 5, .tmp 6, .tmp 7]) rfl (by simp) (.tmp (.tmp (.tmp (.tmp .nil))))) rfl ?_
              exact ⟨rfl, pw_below_drewN hb _⟩
    · have ha' : alignedB a1 = false := by simpa using ha
      have hz : fitN a0 a1 = (0, 0, 0, 2) := by unfold fitN; rw [if_neg hlo, if_neg ha]
      rw [hz] at h; clear hz
      obtain ⟨rfl, rfl, rfl, rfl⟩ := h
      have HA := Aside0.mk (show class_aligned.f a1 = some false from congrArg some ha')
      clear ha ha'
      go_enter Try.func18, Try.ntmps18
      go_wp2_with (go_at_call 23; refine (class_aligned.calls _ false _ HA.out).mono ?_; rintro e w1 ⟨rfl, hb⟩)
      refine bodyPost_ret (results_list (rs := [.tmp 4, .tmp 5, .tmp 6, .tmp 7]) rfl (by simp) (.tmp (.tmp (.tmp (.tmp .nil))))) rfl ?_
      exact ⟨rfl, hb⟩

end Go.Proofs.Ytebhcnjffeoghaa.X

/- callcode.Read: contract by hand. Conditions: none. -/
import Derived.Test.YtkachkmmjlboeaaDoorXMag
import Derived.Test.YtkachkmmjlboeaaDoorShelf
namespace Go.Proofs.YtkachkmmjlboeaaDoor.X
open Go.RowKit Go.Proofs.YtkachkmmjlboeaaDoor.YAll Go.Proofs.YtkachkmmjlboeaaDoorW.PrintWords Go.Proofs.YtkachkmmjlboeaaDoorW.PrintLast Go.Proofs.YtkachkmmjlboeaaDoorW.PrintMore
set_option linter.unusedVariables false
set_option linter.unusedSimpArgs false

theorem tidy_of (l : List UInt8) (h0 : l ≠ []) (h1 : l.head? = some 48 → l.length = 1) (h : l.all isD = true) : tidy l = true := by
  cases l with
  | nil => exact absurd rfl h0
  | cons a r =>
    rw [List.all_cons, Bool.and_eq_true] at h
    unfold tidy
    cases r with
    | nil => exact h.1
    | cons b r =>
      simp only [Bool.and_eq_true, bne_iff_ne, ne_eq]
      refine ⟨⟨h.1, fun e => ?_⟩, h.2⟩
      have := h1 (by rw [e]; rfl)
      simp at this
theorem mag_calls (l : List UInt8) (w : World) : Calls Tryd.prog 23 #[.string (bs l)] w (MagPost w (mag l)) := by
  by_cases h0 : l = []
  · subst h0; exact mag_empty w
  by_cases h1 : 19 < l.length
  · exact mag_long l w h1
  by_cases h2 : l.head? = some 48 → l.length = 1
  · have e : mag l = magF l 0 := by
      rw [magF_eq]
      unfold mag
      by_cases h3 : l.all isD = true
      · rw [if_pos h3, if_pos ⟨tidy_of l h0 h2 h3, by omega⟩]; rfl
      · rw [if_neg h3, if_neg (fun hh => h3 (tidy_all hh.1).1)]
    rw [e]
    exact mag_main l w h0 (by omega) h2
  · obtain ⟨ha, hb⟩ : l.head? = some 48 ∧ l.length ≠ 1 := Classical.not_imp.1 h2
    cases l with
    | nil => exact absurd rfl h0
    | cons a r =>
      cases r with
      | nil => exact absurd rfl hb
      | cons b r => exact mag_zero a b r w (by omega) (by simpa using ha)
theorem mag_to (l : List UInt8) (v : Int) (b : Bool) (w : World) (hv : ((mag l).1 : Int) = v) (hb : (mag l).2 = b) : Calls Tryd.prog 23 #[.string (bs l)] w fun e w' => e = .returned (.tuple #[.int .u64 v, .bool b]) ∧ Below w.heap.size w w' := by
  subst hv hb
  exact mag_calls l w
theorem mag_lt (l : List UInt8) : (mag l).1 < 10000000000000000000 := by
  unfold mag
  split
  · rename_i h
    have h1 := val_lt l (tidy_all h.1).1
    have h2 : 10 ^ l.length ≤ 10 ^ 19 := Nat.pow_le_pow_right (by omega) h.2
    show val l < _
    omega
  · decide
theorem has_minus (r : List UInt8) (w : World) : Calls Tryd.prog 22 #[.string (bs (45 :: r)), .string ⟨#[45]⟩] w fun e w' => e = .returned (.bool true) ∧ w' = w := by
  have h := Tryd.strings_HasPrefix (bs (45 :: r)) ⟨#[45]⟩ w
  exact h
theorem has_none (l : List UInt8) (h : ∀ r, l ≠ 45 :: r) (w : World) : Calls Tryd.prog 22 #[.string (bs l), .string ⟨#[45]⟩] w fun e w' => e = .returned (.bool false) ∧ w' = w := by
  have h1 := Tryd.strings_HasPrefix (bs l) ⟨#[45]⟩ w
  have e : Lib.hasPrefix (bs l).data.toList (⟨#[45]⟩ : ByteArray).data.toList = false := by
    show Lib.hasPrefix l [45] = false
    unfold Lib.hasPrefix
    cases l with
    | nil => rfl
    | cons a r =>
      have : a ≠ 45 := fun e => h r (by rw [e])
      simp [List.isPrefixOf]
      exact fun e => this e.symm
  rw [e] at h1
  exact h1
theorem trim_minus (r : List UInt8) (w : World) : Calls Tryd.prog 24 #[.string (bs (45 :: r)), .string ⟨#[45]⟩] w fun e w' => e = .returned (.string (bs r)) ∧ w' = w := by
  have h := Tryd.strings_TrimPrefix (bs (45 :: r)) ⟨#[45]⟩ w
  exact h
theorem trim_none (l : List UInt8) (h : ∀ r, l ≠ 45 :: r) (w : World) : Calls Tryd.prog 24 #[.string (bs l), .string ⟨#[45]⟩] w fun e w' => e = .returned (.string (bs l)) ∧ w' = w := by
  have h1 := Tryd.strings_TrimPrefix (bs l) ⟨#[45]⟩ w
  have e : Lib.trimPrefix (bs l).data.toList (⟨#[45]⟩ : ByteArray).data.toList = l := by
    show Lib.trimPrefix l [45] = l
    unfold Lib.trimPrefix Lib.hasPrefix
    cases l with
    | nil => rfl
    | cons a r =>
      have : a ≠ 45 := fun e => h r (by rw [e])
      rw [if_neg]
      simp [List.isPrefixOf]
      exact fun e => this e.symm
  rw [e] at h1
  exact h1

def ReadPost (w : World) (r : Int × Bool) (e : Ending) (w' : World) : Prop := e = .returned (.tuple #[.int .i64 r.1, .bool r.2]) ∧ Below w.heap.size w w'
theorem mag_ok (r : List UInt8) (h : (mag r).2 = true) : tidy r = true ∧ r.length ≤ 19 ∧ (mag r).1 = val r := by
  unfold mag at h ⊢
  split
  · rename_i c; exact ⟨c.1, c.2, rfl⟩
  · rename_i c; rw [if_neg c] at h; cases h
theorem mag_no (r : List UInt8) (h : (mag r).2 = false) : ¬ (tidy r = true ∧ r.length ≤ 19) := by
  unfold mag at h
  split at h
  · cases h
  · assumption
theorem rdV_minus (r : List UInt8) : rdV (45 :: r) = if tidy r = true ∧ r.length ≤ 19 ∧ 1 ≤ val r ∧ val r ≤ 9223372036854775808 then (-(val r : Int), true) else (0, false) := by
  have e : rdL (45 :: r) = if tidy r = true ∧ r.length ≤ 19 ∧ 1 ≤ val r ∧ val r ≤ 9223372036854775808 then some (-(val r : Int)) else none := rfl
  unfold rdV
  rw [e]
  by_cases c : tidy r = true ∧ r.length ≤ 19 ∧ 1 ≤ val r ∧ val r ≤ 9223372036854775808
  · rw [if_pos c, if_pos c]
  · rw [if_neg c, if_neg c]
theorem rdV_plain (l : List UInt8) (h : ∀ r, l ≠ 45 :: r) : rdV l = if tidy l = true ∧ l.length ≤ 19 ∧ val l ≤ 9223372036854775807 then ((val l : Int), true) else (0, false) := by
  have e : rdL l = if tidy l = true ∧ l.length ≤ 19 ∧ val l ≤ 9223372036854775807 then some (val l : Int) else none := by
    unfold rdL
    split
    · rename_i r; exact absurd rfl (h r)
    · rfl
  unfold rdV
  rw [e]
  by_cases c : tidy l = true ∧ l.length ≤ 19 ∧ val l ≤ 9223372036854775807
  · rw [if_pos c, if_pos c]
  · rw [if_neg c, if_neg c]
def BIG : Int := 9223372036854775808
set_option maxRecDepth 100000 in
set_option maxHeartbeats 2000000 in
theorem read_minus (r : List UInt8) (w : World) : Calls Tryd.prog 8 #[.string (bs (45 :: r))] w (ReadPost w (rdV (45 :: r))) := by
  rw [rdV_minus]
  cases hb : (mag r).2 with
  | false =>
    rw [if_neg (fun c => mag_no r hb ⟨c.1, c.2.1⟩)]
    have HB := Aside0.mk hb
    clear hb
    go_enter Tryd.func8, Tryd.ntmps8
    go_wp2_with (first | (go_at_call 22; refine (has_minus r _).mono ?_; rintro e w1 ⟨rfl, rfl⟩) | (go_at_call 24; refine (trim_minus r _).mono ?_; rintro e w1 ⟨rfl, rfl⟩) | (go_at_call 23; refine (mag_to r _ false _ rfl HB.out).mono ?_; rintro e w2 ⟨rfl, hB⟩; have HB2 := Aside0.mk hB; clear hB))
    go_ret2
    exact ⟨rfl, HB2.out⟩
  | true =>
    obtain ⟨h1, h2, h3⟩ := mag_ok r hb
    have hlt := mag_lt r
    rw [h3] at hlt
    obtain ⟨v, hv⟩ : ∃ v : Int, ((mag r).1 : Int) = v := ⟨_, rfl⟩
    have hv2 : v = (val r : Int) := by rw [← hv, h3]
    have HB := Aside0.mk (And.intro hb hv)
    by_cases c0 : val r = 0
    · rw [if_neg (fun c => by omega)]
      have z0 : (v == 0) = true := by rw [hv2, c0]; rfl
      clear hb h1 h2 h3 hlt hv hv2 c0
      go_enter Tryd.func8, Tryd.ntmps8
      go_wp2_with (first | (go_at_call 22; refine (has_minus r _).mono ?_; rintro e w1 ⟨rfl, rfl⟩) | (go_at_call 24; refine (trim_minus r _).mono ?_; rintro e w1 ⟨rfl, rfl⟩) | (go_at_call 23; refine (mag_to r v true _ HB.out.2 HB.out.1).mono ?_; rintro e w2 ⟨rfl, hB⟩; have HB2 := Aside0.mk hB; clear hB))
      go_ret2
      exact ⟨rfl, HB2.out⟩
    · have z0 : (v == 0) = false := by rw [beq_eq_false_iff_ne]; omega
      by_cases c1 : val r ≤ 9223372036854775808
      · rw [if_pos ⟨h1, h2, by omega, c1⟩]
        have z1 : decide (v ≤ 9223372036854775808) = true := decide_eq_true (by omega)
        have z2 : wrap64 (IntKind.u64.wrap (-v)) = -(val r : Int) := by rw [hv2]; exact neg_wrap _ (by omega) c1
        clear hb h1 h2 h3 hlt hv hv2 c0 c1
        go_enter Tryd.func8, Tryd.ntmps8
        go_wp2_with (first | (go_at_call 22; refine (has_minus r _).mono ?_; rintro e w1 ⟨rfl, rfl⟩) | (go_at_call 24; refine (trim_minus r _).mono ?_; rintro e w1 ⟨rfl, rfl⟩) | (go_at_call 23; refine (mag_to r v true _ HB.out.2 HB.out.1).mono ?_; rintro e w2 ⟨rfl, hB⟩; have HB2 := Aside0.mk hB; clear hB))
        go_ret2
        exact ⟨by first | rfl | (rw [z2]; rfl), HB2.out⟩
      · rw [if_neg (fun c => c1 c.2.2.2)]
        have z1 : decide (v ≤ 9223372036854775808) = false := decide_eq_false (by omega)
        clear hb h1 h2 h3 hlt hv hv2 c0 c1
        go_enter Tryd.func8, Tryd.ntmps8
        go_wp2_with (first | (go_at_call 22; refine (has_minus r _).mono ?_; rintro e w1 ⟨rfl, rfl⟩) | (go_at_call 24; refine (trim_minus r _).mono ?_; rintro e w1 ⟨rfl, rfl⟩) | (go_at_call 23; refine (mag_to r v true _ HB.out.2 HB.out.1).mono ?_; rintro e w2 ⟨rfl, hB⟩; have HB2 := Aside0.mk hB; clear hB))
        go_ret2
        exact ⟨rfl, HB2.out⟩
set_option maxRecDepth 100000 in
set_option maxHeartbeats 2000000 in
theorem read_plain (l : List UInt8) (h : ∀ r, l ≠ 45 :: r) (w : World) : Calls Tryd.prog 8 #[.string (bs l)] w (ReadPost w (rdV l)) := by
  rw [rdV_plain l h]
  have HP := Aside0.mk h
  clear h
  cases hb : (mag l).2 with
  | false =>
    rw [if_neg (fun c => mag_no l hb ⟨c.1, c.2.1⟩)]
    have HB := Aside0.mk hb
    clear hb
    go_enter Tryd.func8, Tryd.ntmps8
    go_wp2_with (first | (go_at_call 22; refine (has_none l HP.out _).mono ?_; rintro e w1 ⟨rfl, rfl⟩) | (go_at_call 24; refine (trim_none l HP.out _).mono ?_; rintro e w1 ⟨rfl, rfl⟩) | (go_at_call 23; refine (mag_to l _ false _ rfl HB.out).mono ?_; rintro e w2 ⟨rfl, hB⟩; have HB2 := Aside0.mk hB; clear hB))
    go_ret2
    exact ⟨rfl, HB2.out⟩
  | true =>
    obtain ⟨h1, h2, h3⟩ := mag_ok l hb
    obtain ⟨v, hv⟩ : ∃ v : Int, ((mag l).1 : Int) = v := ⟨_, rfl⟩
    have hv2 : v = (val l : Int) := by rw [← hv, h3]
    have HB := Aside0.mk (And.intro hb hv)
    by_cases c1 : val l ≤ 9223372036854775807
    · rw [if_pos ⟨h1, h2, c1⟩]
      have z1 : decide (v ≤ 9223372036854775807) = true := decide_eq_true (by omega)
      have z2 : wrap64 v = (val l : Int) := by rw [hv2]; exact w64 (by omega) (by omega)
      clear hb h1 h2 h3 hv hv2 c1
      go_enter Tryd.func8, Tryd.ntmps8
      go_wp2_with (first | (go_at_call 22; refine (has_none l HP.out _).mono ?_; rintro e w1 ⟨rfl, rfl⟩) | (go_at_call 24; refine (trim_none l HP.out _).mono ?_; rintro e w1 ⟨rfl, rfl⟩) | (go_at_call 23; refine (mag_to l v true _ HB.out.2 HB.out.1).mono ?_; rintro e w2 ⟨rfl, hB⟩; have HB2 := Aside0.mk hB; clear hB))
      go_ret2
      exact ⟨by first | rfl | (rw [z2]; rfl), HB2.out⟩
    · rw [if_neg (fun c => c1 c.2.2)]
      have z1 : decide (v ≤ 9223372036854775807) = false := decide_eq_false (by omega)
      clear hb h1 h2 h3 hv hv2 c1
      go_enter Tryd.func8, Tryd.ntmps8
      go_wp2_with (first | (go_at_call 22; refine (has_none l HP.out _).mono ?_; rintro e w1 ⟨rfl, rfl⟩) | (go_at_call 24; refine (trim_none l HP.out _).mono ?_; rintro e w1 ⟨rfl, rfl⟩) | (go_at_call 23; refine (mag_to l v true _ HB.out.2 HB.out.1).mono ?_; rintro e w2 ⟨rfl, hB⟩; have HB2 := Aside0.mk hB; clear hB))
      go_ret2
      exact ⟨rfl, HB2.out⟩
theorem read_calls (l : List UInt8) (w : World) : Calls Tryd.prog 8 #[.string (bs l)] w (ReadPost w (rdV l)) := by
  by_cases h : ∃ r, l = 45 :: r
  · obtain ⟨r, rfl⟩ := h
    exact read_minus r w
  · exact read_plain l (fun r e => h ⟨r, e⟩) w
theorem refread_calls (l : List UInt8) (w : World) : Calls Tryd.prog 9 #[.string (bs l)] w (ReadPost w (rdV l)) :=
  assartref30_Read.calls 100 (bs l) _ _ w (refread_f l)
theorem refnum_calls (n : Int) (w : World) (h : In64 n) : Calls Tryd.prog 11 #[.int .i64 n] w fun e w' => e = .returned (.string (bs (numL n))) ∧ Below w.heap.size w w' :=
  assartref30_Num.calls 40 n _ w (refnum_f n h 0)
end Go.Proofs.YtkachkmmjlboeaaDoor.X

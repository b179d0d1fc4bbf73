/- Which weave a list is and the next one: Rank of lanes and of the reference, and the reference's Next, as plain functions, with their contracts. Conditions: none. -/
import Derived.Test.YtpmkkohnpfpifaaYlanes_Rankx1
import Derived.Test.YtpmkkohnpfpifaaYassartref36_Nextx1
namespace Go.Proofs.Ytpmkkohnpfpifaa.X
open Go.RowKit Go.Proofs.YtpmkkohnpfpifaaW.PrintWords Go.Proofs.YtpmkkohnpfpifaaW.PrintLast Go.Proofs.YtpmkkohnpfpifaaW.PrintMore

theorem okB_cons (x : Int) (l : List Int) : okB (x :: l) = true ↔ (x = 0 ∨ x = 1) ∧ okB l = true := by
  unfold okB; simp
theorem zs_cons (x : Int) (l : List Int) : zs (x :: l) = zs l + (if x = 0 then 1 else 0) := by
  unfold zs; rw [List.count_cons]; simp
theorem os_cons (x : Int) (l : List Int) : os (x :: l) = os l + (if x = 1 then 1 else 0) := by
  unfold os; rw [List.count_cons]; simp
theorem zs0 (l : List Int) : zs (0 :: l) = zs l + 1 := by rw [zs_cons]; simp
theorem zs1 (l : List Int) : zs (1 :: l) = zs l := by rw [zs_cons]; simp
theorem os0 (l : List Int) : os (0 :: l) = os l := by rw [os_cons]; simp
theorem os1 (l : List Int) : os (1 :: l) = os l + 1 := by rw [os_cons]; simp
theorem len_split : ∀ (l : List Int), okB l = true → l.length = zs l + os l
  | [], _ => rfl
  | x :: l, h => by
    obtain ⟨hx, hl⟩ := (okB_cons x l).1 h
    have ih := len_split l hl
    rcases hx with rfl | rfl
    · rw [zs0, os0, List.length_cons]; omega
    · rw [zs1, os1, List.length_cons]; omega

/-- Which weave of a and b steps a list is. -/
def rankW : List Int → Nat → Nat → Nat
  | [], _, _ => 0
  | x :: l, a, b => if x = 0 then rankW l (a - 1) b else F a b + rankW l a (b - 1)
/-- The next weave. -/
def nextW : List Int → Option (List Int)
  | [] => none
  | x :: l => match nextW l with
    | some m => some (x :: m)
    | none => if x = 0 ∧ 0 < os l then some (1 :: (List.replicate (zs l + 1) 0 ++ List.replicate (os l - 1) 1)) else none
def goodN (l : List Int) : Prop := okB l = true ∧ mayN (zs l) (os l)
instance (l : List Int) : Decidable (goodN l) := inferInstanceAs (Decidable (_ ∧ _))
def rankN (l : List Int) : Int × Int := if goodN l then ((rankW l (zs l) (os l) : Int), 0) else (0, 2)
def nextN (l : List Int) : List Int × Bool := if goodN l then (match nextW l with | some m => (m, true) | none => ([], false)) else ([], false)

theorem F_succ (a b : Nat) : F (a + 1) b = C a b := rfl
theorem rank0 (l : List Int) (a b : Nat) : rankW (0 :: l) a b = rankW l (a - 1) b := by simp [rankW]
theorem rank1 (l : List Int) (a b : Nat) : rankW (1 :: l) a b = F a b + rankW l a (b - 1) := by simp [rankW]
theorem F_le (a b : Nat) : F a b ≤ C a b := by
  cases a with
  | zero => exact Nat.zero_le _
  | succ a =>
    cases b with
    | zero => rw [F_succ, C_zero, C_zero]; exact Nat.le_refl _
    | succ b => rw [F_succ, C_succ]; omega
theorem rank_lt : ∀ (l : List Int), okB l = true → rankW l (zs l) (os l) < C (zs l) (os l)
  | [], _ => by simp [rankW, zs, os, C]
  | x :: l, h => by
    obtain ⟨hx, hl⟩ := (okB_cons x l).1 h
    have ih := rank_lt l hl
    rcases hx with rfl | rfl
    · rw [zs0, os0, rank0, Nat.add_sub_cancel]
      have := F_le (zs l + 1) (os l)
      rw [F_succ] at this
      omega
    · rw [zs1, os1, rank1, Nat.add_sub_cancel, F_add (zs l) (os l + 1) (by omega), Nat.add_sub_cancel]
      omega
theorem weave_zero (b : Nat) : ∀ a, weave (a + b) a b 0 = List.replicate a 0 ++ List.replicate b 1
  | 0 => by
    rw [Nat.zero_add]
    induction b with
    | zero => rfl
    | succ b ih =>
      simp only [weave]
      rw [if_neg (by simp [F]), show F 0 (b + 1) = 0 from rfl, Nat.add_sub_cancel, ih]
      rfl
  | a + 1 => by
    rw [show a + 1 + b = (a + b) + 1 by omega]
    simp only [weave]
    rw [F_succ, if_pos (show 0 < C a b from C_pos a b), Nat.add_sub_cancel, weave_zero b a]
    rfl
theorem weave_rank : ∀ (l : List Int), okB l = true → weave l.length (zs l) (os l) (rankW l (zs l) (os l)) = l
  | [], _ => rfl
  | x :: l, h => by
    obtain ⟨hx, hl⟩ := (okB_cons x l).1 h
    have ih := weave_rank l hl
    have hlt := rank_lt l hl
    rcases hx with rfl | rfl
    · rw [zs0, os0, rank0, Nat.add_sub_cancel, List.length_cons]
      simp only [weave]
      rw [F_succ, if_pos hlt, Nat.add_sub_cancel, ih]
    · rw [zs1, os1, rank1, Nat.add_sub_cancel, List.length_cons]
      simp only [weave]
      rw [if_neg (by omega), Nat.add_sub_cancel, Nat.add_sub_cancel_left, ih]
theorem next_weave : ∀ (l : List Int), okB l = true → nextW l = if rankW l (zs l) (os l) + 1 < C (zs l) (os l) then some (weave l.length (zs l) (os l) (rankW l (zs l) (os l) + 1)) else none
  | [], _ => by simp [nextW, rankW, zs, os, C]
  | x :: l, h => by
    obtain ⟨hx, hl⟩ := (okB_cons x l).1 h
    have ih := next_weave l hl
    have hlt := rank_lt l hl
    have hlen := len_split l hl
    rcases hx with rfl | rfl
    · rw [zs0, os0, rank0, Nat.add_sub_cancel, List.length_cons]
      simp only [nextW, weave]
      rw [ih, F_succ]
      have hle := F_le (zs l + 1) (os l)
      rw [F_succ] at hle
      by_cases h1 : rankW l (zs l) (os l) + 1 < C (zs l) (os l)
      · have g1 : rankW l (zs l) (os l) + 1 < C (zs l + 1) (os l) := by omega
        simp only [if_pos h1, if_pos g1, Nat.add_sub_cancel]
      · rw [if_neg h1, if_neg h1]
        by_cases h2 : 0 < os l
        · have ha := F_add (zs l + 1) (os l) h2
          rw [F_succ] at ha
          have hp := C_pos (zs l + 1) (os l - 1)
          have hz := weave_zero (os l - 1) (zs l + 1)
          rw [if_pos ⟨trivial, h2⟩, if_pos (by omega), show rankW l (zs l) (os l) + 1 - C (zs l) (os l) = 0 by omega, show l.length = zs l + 1 + (os l - 1) by omega, hz]
        · have e : os l = 0 := by omega
          rw [e, C_zero] at hlt
          rw [if_neg (fun hh => h2 hh.2), if_neg (by rw [e, C_zero]; omega)]
    · rw [zs1, os1, rank1, Nat.add_sub_cancel, List.length_cons]
      simp only [nextW, weave]
      have ha := F_add (zs l) (os l + 1) (by omega)
      rw [Nat.add_sub_cancel] at ha
      rw [ih]
      by_cases h1 : rankW l (zs l) (os l) + 1 < C (zs l) (os l)
      · have g1 : F (zs l) (os l + 1) + rankW l (zs l) (os l) + 1 < C (zs l) (os l + 1) := by omega
        have g2 : ¬ F (zs l) (os l + 1) + rankW l (zs l) (os l) + 1 < F (zs l) (os l + 1) := by omega
        simp only [if_pos h1, if_pos g1, if_neg g2, Nat.add_sub_cancel, show F (zs l) (os l + 1) + rankW l (zs l) (os l) + 1 - F (zs l) (os l + 1) = rankW l (zs l) (os l) + 1 by omega]
      · rw [if_neg h1, if_neg (show ¬ F (zs l) (os l + 1) + rankW l (zs l) (os l) + 1 < C (zs l) (os l + 1) by omega)]
        simp only [show ¬ ((1 : Int) = 0 ∧ 0 < os l) from fun hh => absurd hh.1 (by decide), if_false]

/-! ### the weave's own rows -/
theorem weave_good (n : Nat) : ∀ a b i, a + b = n → i < C a b → okB (weave n a b i) = true ∧ zs (weave n a b i) = a ∧ os (weave n a b i) = b ∧ rankW (weave n a b i) a b = i := by
  induction n with
  | zero =>
    intro a b i hn hi
    obtain rfl : a = 0 := by omega
    obtain rfl : b = 0 := by omega
    rw [C_row] at hi
    refine ⟨rfl, rfl, rfl, ?_⟩
    simp only [weave, rankW]; omega
  | succ n ih =>
    intro a b i hn hi
    simp only [weave]
    by_cases h : i < F a b
    · rw [if_pos h]
      obtain ⟨a, rfl⟩ : ∃ m, a = m + 1 := by
        cases a with
        | zero => exact absurd h (by simp [F])
        | succ a => exact ⟨a, rfl⟩
      rw [F_succ] at h
      rw [Nat.add_sub_cancel]
      obtain ⟨h1, h2, h3, h4⟩ := ih a b i (by omega) h
      exact ⟨(okB_cons _ _).2 ⟨.inl rfl, h1⟩, by rw [zs0, h2], by rw [os0, h3], by rw [rank0, Nat.add_sub_cancel, h4]⟩
    · rw [if_neg h]
      have hb : 0 < b := by
        rcases Nat.eq_zero_or_pos b with rfl | hb
        · cases a with
          | zero => omega
          | succ a => rw [C_zero] at hi; rw [F_nil] at h; omega
        · exact hb
      obtain ⟨b, rfl⟩ : ∃ m, b = m + 1 := ⟨b - 1, by omega⟩
      have ha := F_add a (b + 1) hb
      rw [Nat.add_sub_cancel] at ha ⊢
      obtain ⟨h1, h2, h3, h4⟩ := ih a b (i - F a (b + 1)) (by omega) (by omega)
      refine ⟨(okB_cons _ _).2 ⟨.inr rfl, h1⟩, by rw [zs1, h2], by rw [os1, h3], ?_⟩
      rw [rank1, Nat.add_sub_cancel, h4]; omega

theorem drop_rd (l : List Int) (p : Nat) (h : p < l.length) : l.drop p = rd l (p : Int) :: l.drop (p + 1) := by
  rw [List.drop_eq_getElem_cons h]
  simp [rd, List.getD, h]
theorem steps_loop (l : List Int) (hl : l.length ≤ 4611686018427387904) (d : Nat) : ∀ (p a b k : Nat), p + d = l.length → a + b ≤ p → d < k →
    Yassartref36_Next.assartref36_steps.l0 k l (a : Int) (b : Int) (p : Int) = some (if okB (l.drop p) = true then (((a + zs (l.drop p) : Nat) : Int), ((b + os (l.drop p) : Nat) : Int), decide (mayN ((a + zs (l.drop p) : Nat) : Int) ((b + os (l.drop p) : Nat) : Int))) else (0, 0, false)) := by
  induction d with
  | zero =>
    intro p a b k hp hab hk
    obtain ⟨k, rfl⟩ : ∃ m, k = m + 1 := ⟨k - 1, by omega⟩
    simp only [Yassartref36_Next.assartref36_steps.l0]
    have e : l.drop p = [] := List.drop_of_length_le (by omega)
    have hm := may_ref (a : Int) (b : Int)
    rw [if_neg (by omega), e, show Yassartref36_Next.assartref36_may.f (a : Int) (b : Int) = some (decide (mayN a b)) from hm, Option.bind_some, if_pos (show okB [] = true from rfl)]
    rfl
  | succ d ih =>
    intro p a b k hp hab hk
    obtain ⟨k, rfl⟩ : ∃ m, k = m + 1 := ⟨k - 1, by omega⟩
    simp only [Yassartref36_Next.assartref36_steps.l0]
    rw [if_pos (by omega), if_pos (by omega), drop_rd l p (by omega), w64 (a := (p : Int) + 1) (by omega) (by omega), w64 (a := (a : Int) + 1) (by omega) (by omega), w64 (a := (b : Int) + 1) (by omega) (by omega)]
    by_cases h0 : rd l (p : Int) = 0
    · have hh := ih (p + 1) (a + 1) b k (by omega) (by omega) (by omega)
      simp only [Int.natCast_add, Int.natCast_one] at hh
      rw [if_pos h0, hh, h0, zs0, os0]
      by_cases hk2 : okB (l.drop (p + 1)) = true
      · rw [if_pos hk2, if_pos ((okB_cons _ _).2 ⟨.inl rfl, hk2⟩), show a + (zs (l.drop (p + 1)) + 1) = a + 1 + zs (l.drop (p + 1)) by omega]; simp only [Int.natCast_add, Int.natCast_one]
      · rw [if_neg hk2, if_neg (fun hh => hk2 ((okB_cons _ _).1 hh).2)]
    · rw [if_neg h0]
      by_cases h1 : rd l (p : Int) = 1
      · have hh := ih (p + 1) a (b + 1) k (by omega) (by omega) (by omega)
        simp only [Int.natCast_add, Int.natCast_one] at hh
        rw [if_pos h1, hh, h1, zs1, os1]
        by_cases hk2 : okB (l.drop (p + 1)) = true
        · rw [if_pos hk2, if_pos ((okB_cons _ _).2 ⟨.inr rfl, hk2⟩), show b + (os (l.drop (p + 1)) + 1) = b + 1 + os (l.drop (p + 1)) by omega]; simp only [Int.natCast_add, Int.natCast_one]
        · rw [if_neg hk2, if_neg (fun hh => hk2 ((okB_cons _ _).1 hh).2)]
      · rw [if_neg h1, if_neg (fun hh => by rcases ((okB_cons _ _).1 hh).1 with e | e <;> contradiction)]
theorem steps_ref (l : List Int) (hl : l.length ≤ 4611686018427387904) (k : Nat) (hk : l.length < k) : Yassartref36_Next.assartref36_steps.f k l = some (rowsN l) := by
  unfold Yassartref36_Next.assartref36_steps.f rowsN
  have h := steps_loop l hl l.length 0 0 0 k (by omega) (by omega) hk
  simpa using h

/-! ### Rank -/
theorem rankL_loop (A B : Nat) (hA : A ≤ 30) (hB : B ≤ 30) (l : List Int) (hl : l.length ≤ 4611686018427387904) (d : Nat) : ∀ (p a b n k : Nat), p + d = l.length → okB (l.drop p) = true → zs (l.drop p) = a → os (l.drop p) = b → a ≤ A → b ≤ B → n + C a b ≤ 4611686018427387904 → d < k →
    Ylanes_Rank.lanes_Rank.l0 k (a : Int) (b : Int) (tabN A B) (n : Int) l (l.length : Int) (p : Int) = some (((n + rankW (l.drop p) a b : Nat) : Int), 0) := by
  induction d with
  | zero =>
    intro p a b n k hp hok ha hb haA hbB hn hk
    obtain ⟨k, rfl⟩ : ∃ m, k = m + 1 := ⟨k - 1, by omega⟩
    simp only [Ylanes_Rank.lanes_Rank.l0]
    rw [if_neg (by omega), show l.drop p = [] from List.drop_of_length_le (by omega)]
    rfl
  | succ d ih =>
    intro p a b n k hp hok ha hb haA hbB hn hk
    obtain ⟨k, rfl⟩ : ∃ m, k = m + 1 := ⟨k - 1, by omega⟩
    have hd := drop_rd l p (by omega)
    rw [hd] at hok ha hb ⊢
    obtain ⟨hx, hok⟩ := (okB_cons _ _).1 hok
    simp only [Ylanes_Rank.lanes_Rank.l0]
    rw [if_pos (by omega), if_pos (by omega), if_pos (by omega), w64 (a := (p : Int) + 1) (by omega) (by omega)]
    rcases hx with hx | hx
    · rw [hx, zs0] at ha
      rw [hx, os0] at hb
      subst ha
      have hc := F_le (zs (l.drop (p + 1)) + 1) b
      rw [F_succ] at hc
      have hh := ih (p + 1) (zs (l.drop (p + 1))) b n k (by omega) hok rfl hb (by omega) hbB (by omega) (by omega)
      rw [if_pos hx, w64 (by omega) (by omega), hx, rank0, Nat.add_sub_cancel, show ((zs (l.drop (p + 1)) + 1 : Nat) : Int) - 1 = (zs (l.drop (p + 1)) : Int) by omega]
      exact hh
    · rw [hx, zs1] at ha
      rw [hx, os1] at hb
      subst hb
      have ha2 := F_add a (os (l.drop (p + 1)) + 1) (by omega)
      rw [Nat.add_sub_cancel] at ha2
      have hbl := below_lanes A B a (os (l.drop (p + 1)) + 1) haA hbB hA
      have hh := ih (p + 1) a (os (l.drop (p + 1))) (n + F a (os (l.drop (p + 1)) + 1)) k (by omega) hok ha rfl haA (by omega) (by omega) (by omega)
      rw [if_neg (by rw [hx]; decide), show Ylanes_Rank.lanes_below.f (tabN A B) (a : Int) ((os (l.drop (p + 1)) + 1 : Nat) : Int) = some (F a (os (l.drop (p + 1)) + 1) : Int) from hbl, Option.bind_some, w64 (a := ((os (l.drop (p + 1)) + 1 : Nat) : Int) - 1) (by omega) (by omega), w64 (by omega) (by omega), hx, rank1, Nat.add_sub_cancel, show ((os (l.drop (p + 1)) + 1 : Nat) : Int) - 1 = (os (l.drop (p + 1)) : Int) by omega]
      rw [show (n : Int) + (F a (os (l.drop (p + 1)) + 1) : Int) = ((n + F a (os (l.drop (p + 1)) + 1) : Nat) : Int) by omega, ← Nat.add_assoc]
      exact hh
theorem rank_lanes (l : List Int) (hl : l.length ≤ 4611686018427387904) (k : Nat) (hk : l.length < k) : Ylanes_Rank.lanes_Rank.f k l = some (rankN l) := by
  unfold Ylanes_Rank.lanes_Rank.f lanes_rows.f rowsN rankN
  rw [if_pos hl, Option.bind_some]
  by_cases h : okB l = true
  · rw [if_pos h]
    by_cases hm : mayN (zs l) (os l)
    · have hm' := hm
      obtain ⟨h0, h1, h2, h3⟩ := hm
      have hlen := len_split l h
      have hb := C_bound (zs l) (os l) (by omega) (by omega)
      rw [if_pos (by simpa using hm'), if_pos ⟨h, hm'⟩]
      have ht := table_nat (zs l) (os l) (by omega) (by omega)
      have hr := rankL_loop (zs l) (os l) (by omega) (by omega) l hl l.length 0 (zs l) (os l) 0 k (by omega) h rfl rfl (Nat.le_refl _) (Nat.le_refl _) (by omega) hk
      simp only [ht, Option.bind_some]
      rw [List.drop_zero, Nat.zero_add] at hr
      exact hr
    · rw [if_neg (by simpa using hm), if_neg (fun hh => hm hh.2)]
  · rw [if_neg h, if_neg (by simp), if_neg (fun hh => h hh.1)]

theorem rankR_loop (l : List Int) (hl : l.length ≤ 4611686018427387904) (d : Nat) : ∀ (p a b n k : Nat), p + d = l.length → okB (l.drop p) = true → zs (l.drop p) = a → os (l.drop p) = b → a ≤ 30 → b ≤ 30 → n + C a b ≤ 4611686018427387904 → d < k →
    Yassartref36_Next.assartref36_Rank.l0 k l (a : Int) (b : Int) (n : Int) (p : Int) = some (((n + rankW (l.drop p) a b : Nat) : Int), 0) := by
  induction d with
  | zero =>
    intro p a b n k hp hok ha hb haA hbB hn hk
    obtain ⟨k, rfl⟩ : ∃ m, k = m + 1 := ⟨k - 1, by omega⟩
    simp only [Yassartref36_Next.assartref36_Rank.l0]
    rw [if_neg (by omega), show l.drop p = [] from List.drop_of_length_le (by omega)]
    rfl
  | succ d ih =>
    intro p a b n k hp hok ha hb haA hbB hn hk
    obtain ⟨k, rfl⟩ : ∃ m, k = m + 1 := ⟨k - 1, by omega⟩
    have hd := drop_rd l p (by omega)
    rw [hd] at hok ha hb ⊢
    obtain ⟨hx, hok⟩ := (okB_cons _ _).1 hok
    simp only [Yassartref36_Next.assartref36_Rank.l0]
    rw [if_pos (by omega), if_pos (by omega), w64 (a := (p : Int) + 1) (by omega) (by omega)]
    rcases hx with hx | hx
    · rw [hx, zs0] at ha
      rw [hx, os0] at hb
      subst ha
      have hc := F_le (zs (l.drop (p + 1)) + 1) b
      rw [F_succ] at hc
      have hh := ih (p + 1) (zs (l.drop (p + 1))) b n k (by omega) hok rfl hb (by omega) hbB (by omega) (by omega)
      rw [if_pos hx, w64 (by omega) (by omega), hx, rank0, Nat.add_sub_cancel, show ((zs (l.drop (p + 1)) + 1 : Nat) : Int) - 1 = (zs (l.drop (p + 1)) : Int) by omega]
      exact hh
    · rw [hx, zs1] at ha
      rw [hx, os1] at hb
      subst hb
      have ha2 := F_add a (os (l.drop (p + 1)) + 1) (by omega)
      rw [Nat.add_sub_cancel] at ha2
      have hh := ih (p + 1) a (os (l.drop (p + 1))) (n + F a (os (l.drop (p + 1)) + 1)) k (by omega) hok ha rfl haA (by omega) (by omega) (by omega)
      rw [if_neg (by rw [hx]; decide), hx, rank1, Nat.add_sub_cancel, w64 (a := ((os (l.drop (p + 1)) + 1 : Nat) : Int) - 1) (by omega) (by omega), show ((os (l.drop (p + 1)) + 1 : Nat) : Int) - 1 = (os (l.drop (p + 1)) : Int) by omega, ← Nat.add_assoc]
      cases a with
      | zero =>
        rw [if_neg (by omega)]
        exact hh
      | succ a =>
        have hcn := countN_nat a (os (l.drop (p + 1)) + 1) (by omega) hbB
        rw [if_pos (by omega), w64 (a := ((a + 1 : Nat) : Int) - 1) (by omega) (by omega), show ((a + 1 : Nat) : Int) - 1 = (a : Int) by omega]
        rw [show assartref36_Count.f (a : Int) ((os (l.drop (p + 1)) + 1 : Nat) : Int) = some (C a (os (l.drop (p + 1)) + 1) : Int) from congrArg some hcn, Option.bind_some]
        rw [F_succ] at ha2 hh ⊢
        rw [w64 (by omega) (by omega), show (n : Int) + (C a (os (l.drop (p + 1)) + 1) : Int) = ((n + C a (os (l.drop (p + 1)) + 1) : Nat) : Int) by omega]
        exact hh
theorem rank_ref (l : List Int) (hl : l.length ≤ 4611686018427387904) (k : Nat) (hk : l.length < k) : Yassartref36_Next.assartref36_Rank.f k l = some (rankN l) := by
  unfold Yassartref36_Next.assartref36_Rank.f
  rw [steps_ref l hl k hk, Option.bind_some]
  unfold rowsN rankN
  by_cases h : okB l = true
  · rw [if_pos h]
    by_cases hm : mayN (zs l) (os l)
    · have hm' := hm
      obtain ⟨h0, h1, h2, h3⟩ := hm
      have hb := C_bound (zs l) (os l) (by omega) (by omega)
      rw [if_pos (by simpa using hm'), if_pos ⟨h, hm'⟩]
      have hr := rankR_loop l hl l.length 0 (zs l) (os l) 0 k (by omega) h rfl rfl (by omega) (by omega) (by omega) hk
      rw [List.drop_zero, Nat.zero_add] at hr
      exact hr
    · rw [if_neg (by simpa using hm), if_neg (fun hh => hm hh.2)]
  · rw [if_neg h, if_neg (by simp), if_neg (fun hh => h hh.1)]
theorem next_ref (l : List Int) (hl : l.length ≤ 4611686018427387904) (k : Nat) (hk : l.length < k) : Yassartref36_Next.assartref36_Next.f k l = some (nextN l) := by
  unfold Yassartref36_Next.assartref36_Next.f
  rw [steps_ref l hl k hk, Option.bind_some, rank_ref l hl k hk, Option.bind_some]
  unfold rowsN rankN nextN
  by_cases h : okB l = true
  · rw [if_pos h]
    by_cases hm : mayN (zs l) (os l)
    · have hm' := hm
      obtain ⟨h0, h1, h2, h3⟩ := hm
      have hb := C_bound (zs l) (os l) (by omega) (by omega)
      have hlt := rank_lt l h
      rw [if_pos (by simpa using hm'), if_pos ⟨h, hm'⟩, if_pos ⟨h, hm'⟩]
      have hcn := countN_nat (zs l) (os l) (by omega) (by omega)
      rw [show assartref36_Count.f (zs l : Int) (os l : Int) = some (C (zs l) (os l) : Int) from congrArg some hcn, Option.bind_some]
      rw [w64 (by omega) (by omega), next_weave l h]
      by_cases hr : rankW l (zs l) (os l) + 1 < C (zs l) (os l)
      · rw [if_neg (by omega), if_pos hr]
        unfold assartref36_Nth.f nthN
        rw [Option.bind_some, hcn, if_pos ⟨hm', by omega, by omega⟩]
        simp only [Int.toNat_natCast]
        rw [show ((rankW l (zs l) (os l) : Int) + 1).toNat = rankW l (zs l) (os l) + 1 by omega, len_split l h]
      · rw [if_pos (by omega), if_neg hr]
    · rw [if_neg (by simpa using hm), if_neg (fun hh => hm hh.2)]
  · rw [if_neg h, if_neg (by simp), if_neg (fun hh => h hh.1)]

end Go.Proofs.Ytpmkkohnpfpifaa.X

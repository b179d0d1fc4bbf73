/- A purse's functions at any class; the document's example; a purse behind some steps: contracts by hand. Conditions: none. -/
import Derived.Test.YtmgphebhfecfmaaXPurse0
import Derived.Test.YtmgphebhfecfmaaXPurse1
import Derived.Test.YtmgphebhfecfmaaXPurse2
import Derived.Test.YtmgphebhfecfmaaXPurse3
import Derived.Test.YtmgphebhfecfmaaXPurse4
import Derived.Test.YtmgphebhfecfmaaXPurseA
namespace Go.Proofs.Ytmgphebhfecfmaa.X
open Go.RowKit Go.Proofs.Ytmgphebhfecfmaa.PPursePlays Go.Proofs.YtmgphebhfecfmaaW.PrintWords Go.Proofs.YtmgphebhfecfmaaW.PrintLast Go.Proofs.YtmgphebhfecfmaaW.PrintMore
set_option linter.unusedVariables false
set_option linter.unusedSimpArgs false

def pushOk (X : Nat → List Int) (c limit : Int) : Bool := decide (0 ≤ c ∧ c < 5 ∧ ((X c.toNat).length : Int) < limit)
def pushX (X : Nat → List Int) (c a limit : Int) : Nat → List Int := if pushOk X c limit = true then upd X c.toNat (X c.toNat ++ [a]) else X
def popOk (X : Nat → List Int) (c : Int) : Bool := decide (0 ≤ c ∧ c < 5 ∧ 0 < (X c.toNat).length)
def popX (X : Nat → List Int) (c : Int) : Nat → List Int := if popOk X c = true then upd X c.toNat ((X c.toNat).take ((X c.toNat).length - 1)) else X
def popV (X : Nat → List Int) (c : Int) : Int := if popOk X c = true then rd (X c.toNat) (((X c.toNat).length : Int) - 1) else 0
def listN (X : Nat → List Int) (c : Int) : List Int := if 0 ≤ c ∧ c < 5 then X c.toNat else []
theorem le_total (X : Nat → List Int) (k : Nat) (h : k < 5) : (X k).length ≤ total X := by have := pre_len X k h; omega
theorem cls_nat {c : Int} (h : 0 ≤ c ∧ c < 5) : c = 0 ∨ c = 1 ∨ c = 2 ∨ c = 3 ∨ c = 4 := by omega

theorem push_any (P : Nat → Sv) (X : Nat → List Int) (c a limit : Int) (w : World) (h : PR w P X) (hb : total X ≤ 1000000) : Calls Try.prog 7 #[.agg #[.slice (P 0).A (P 0).n (P 0).c, .slice (P 1).A (P 1).n (P 1).c, .slice (P 2).A (P 2).n (P 2).c, .slice (P 3).A (P 3).n (P 3).c, .slice (P 4).A (P 4).n (P 4).c], .int .i64 c, .int .i64 a, .int .i64 limit] w fun e w' => ∃ P' : Nat → Sv, e = .returned (.tuple #[.agg #[.slice (P' 0).A (P' 0).n (P' 0).c, .slice (P' 1).A (P' 1).n (P' 1).c, .slice (P' 2).A (P' 2).n (P' 2).c, .slice (P' 3).A (P' 3).n (P' 3).c, .slice (P' 4).A (P' 4).n (P' 4).c], .bool (pushOk X c limit)]) ∧ PR w' P' (pushX X c a limit) ∧ Below w.heap.size w w' := by
  by_cases hc : 0 ≤ c ∧ c < 5
  · by_cases hl : ((X c.toNat).length : Int) < limit
    · have ho : pushOk X c limit = true := decide_eq_true ⟨hc.1, hc.2, hl⟩
      rw [pushX, ho, if_pos rfl]
      rcases cls_nat hc with rfl | rfl | rfl | rfl | rfl
      · refine (push_in0 P X a limit w h hl (Nat.le_trans (le_total X 0 (by omega)) hb)).mono ?_
        rintro e w' ⟨s', rfl, h1, h2⟩
        exact ⟨upd P 0 s', rfl, h1, h2⟩
      · refine (push_in1 P X a limit w h hl (Nat.le_trans (le_total X 1 (by omega)) hb)).mono ?_
        rintro e w' ⟨s', rfl, h1, h2⟩
        exact ⟨upd P 1 s', rfl, h1, h2⟩
      · refine (push_in2 P X a limit w h hl (Nat.le_trans (le_total X 2 (by omega)) hb)).mono ?_
        rintro e w' ⟨s', rfl, h1, h2⟩
        exact ⟨upd P 2 s', rfl, h1, h2⟩
      · refine (push_in3 P X a limit w h hl (Nat.le_trans (le_total X 3 (by omega)) hb)).mono ?_
        rintro e w' ⟨s', rfl, h1, h2⟩
        exact ⟨upd P 3 s', rfl, h1, h2⟩
      · refine (push_in4 P X a limit w h hl (Nat.le_trans (le_total X 4 (by omega)) hb)).mono ?_
        rintro e w' ⟨s', rfl, h1, h2⟩
        exact ⟨upd P 4 s', rfl, h1, h2⟩
    · have ho : pushOk X c limit = false := decide_eq_false (fun hh => hl hh.2.2)
      rw [pushX, ho, if_neg (by simp)]
      rcases cls_nat hc with rfl | rfl | rfl | rfl | rfl
      · refine (push_full0 P X a limit w h (by first | exact Int.not_lt.1 hl | omega)).mono ?_
        rintro e w' ⟨rfl, h2⟩
        exact ⟨P, rfl, h.below h2, h2⟩
      · refine (push_full1 P X a limit w h (by first | exact Int.not_lt.1 hl | omega)).mono ?_
        rintro e w' ⟨rfl, h2⟩
        exact ⟨P, rfl, h.below h2, h2⟩
      · refine (push_full2 P X a limit w h (by first | exact Int.not_lt.1 hl | omega)).mono ?_
        rintro e w' ⟨rfl, h2⟩
        exact ⟨P, rfl, h.below h2, h2⟩
      · refine (push_full3 P X a limit w h (by first | exact Int.not_lt.1 hl | omega)).mono ?_
        rintro e w' ⟨rfl, h2⟩
        exact ⟨P, rfl, h.below h2, h2⟩
      · refine (push_full4 P X a limit w h (by first | exact Int.not_lt.1 hl | omega)).mono ?_
        rintro e w' ⟨rfl, h2⟩
        exact ⟨P, rfl, h.below h2, h2⟩
  · have ho : pushOk X c limit = false := decide_eq_false (fun hh => hc ⟨hh.1, hh.2.1⟩)
    rw [pushX, ho, if_neg (by simp)]
    refine (push_out P c a limit w (by omega)).mono ?_
    rintro e w' ⟨rfl, h2⟩
    exact ⟨P, rfl, h.below h2, h2⟩
theorem pop_any (P : Nat → Sv) (X : Nat → List Int) (c : Int) (w : World) (h : PR w P X) (hb : total X ≤ 1000000) : Calls Try.prog 10 #[.agg #[.slice (P 0).A (P 0).n (P 0).c, .slice (P 1).A (P 1).n (P 1).c, .slice (P 2).A (P 2).n (P 2).c, .slice (P 3).A (P 3).n (P 3).c, .slice (P 4).A (P 4).n (P 4).c], .int .i64 c] w fun e w' => ∃ P' : Nat → Sv, e = .returned (.tuple #[.agg #[.slice (P' 0).A (P' 0).n (P' 0).c, .slice (P' 1).A (P' 1).n (P' 1).c, .slice (P' 2).A (P' 2).n (P' 2).c, .slice (P' 3).A (P' 3).n (P' 3).c, .slice (P' 4).A (P' 4).n (P' 4).c], .int .i64 (popV X c), .bool (popOk X c)]) ∧ PR w' P' (popX X c) ∧ Below w.heap.size w w' := by
  by_cases hc : 0 ≤ c ∧ c < 5
  · by_cases hl : 0 < (X c.toNat).length
    · have ho : popOk X c = true := decide_eq_true ⟨hc.1, hc.2, hl⟩
      rw [popX, popV, ho, if_pos rfl, if_pos rfl]
      rcases cls_nat hc with rfl | rfl | rfl | rfl | rfl
      · refine (pop_in0 P X w h hl (Nat.le_trans (le_total X 0 (by omega)) hb)).mono ?_
        rintro e w' ⟨s', rfl, h1, h2⟩
        exact ⟨upd P 0 s', rfl, h1, h2⟩
      · refine (pop_in1 P X w h hl (Nat.le_trans (le_total X 1 (by omega)) hb)).mono ?_
        rintro e w' ⟨s', rfl, h1, h2⟩
        exact ⟨upd P 1 s', rfl, h1, h2⟩
      · refine (pop_in2 P X w h hl (Nat.le_trans (le_total X 2 (by omega)) hb)).mono ?_
        rintro e w' ⟨s', rfl, h1, h2⟩
        exact ⟨upd P 2 s', rfl, h1, h2⟩
      · refine (pop_in3 P X w h hl (Nat.le_trans (le_total X 3 (by omega)) hb)).mono ?_
        rintro e w' ⟨s', rfl, h1, h2⟩
        exact ⟨upd P 3 s', rfl, h1, h2⟩
      · refine (pop_in4 P X w h hl (Nat.le_trans (le_total X 4 (by omega)) hb)).mono ?_
        rintro e w' ⟨s', rfl, h1, h2⟩
        exact ⟨upd P 4 s', rfl, h1, h2⟩
    · have ho : popOk X c = false := decide_eq_false (fun hh => hl hh.2.2)
      rw [popX, popV, ho, if_neg (by simp), if_neg (by simp)]
      rcases cls_nat hc with rfl | rfl | rfl | rfl | rfl
      · refine (pop_empty0 P X w h (Nat.eq_zero_of_not_pos hl)).mono ?_
        rintro e w' ⟨rfl, h2⟩
        exact ⟨P, rfl, h.below h2, h2⟩
      · refine (pop_empty1 P X w h (Nat.eq_zero_of_not_pos hl)).mono ?_
        rintro e w' ⟨rfl, h2⟩
        exact ⟨P, rfl, h.below h2, h2⟩
      · refine (pop_empty2 P X w h (Nat.eq_zero_of_not_pos hl)).mono ?_
        rintro e w' ⟨rfl, h2⟩
        exact ⟨P, rfl, h.below h2, h2⟩
      · refine (pop_empty3 P X w h (Nat.eq_zero_of_not_pos hl)).mono ?_
        rintro e w' ⟨rfl, h2⟩
        exact ⟨P, rfl, h.below h2, h2⟩
      · refine (pop_empty4 P X w h (Nat.eq_zero_of_not_pos hl)).mono ?_
        rintro e w' ⟨rfl, h2⟩
        exact ⟨P, rfl, h.below h2, h2⟩
  · have ho : popOk X c = false := decide_eq_false (fun hh => hc ⟨hh.1, hh.2.1⟩)
    rw [popX, popV, ho, if_neg (by simp), if_neg (by simp)]
    refine (pop_out P c w (by omega)).mono ?_
    rintro e w' ⟨rfl, h2⟩
    exact ⟨P, rfl, h.below h2, h2⟩
theorem len_any (P : Nat → Sv) (X : Nat → List Int) (c : Int) (w : World) (h : PR w P X) : Calls Try.prog 17 #[.agg #[.slice (P 0).A (P 0).n (P 0).c, .slice (P 1).A (P 1).n (P 1).c, .slice (P 2).A (P 2).n (P 2).c, .slice (P 3).A (P 3).n (P 3).c, .slice (P 4).A (P 4).n (P 4).c], .int .i64 c] w fun e w' => e = .returned (.int .i64 ((listN X c).length : Int)) ∧ Below w.heap.size w w' := by
  by_cases hc : 0 ≤ c ∧ c < 5
  · rw [listN, if_pos hc]
    rcases cls_nat hc with rfl | rfl | rfl | rfl | rfl
    · exact len_in0 P X w h
    · exact len_in1 P X w h
    · exact len_in2 P X w h
    · exact len_in3 P X w h
    · exact len_in4 P X w h
  · rw [listN, if_neg hc]
    exact len_out P c w (by omega)
theorem list_any (P : Nat → Sv) (X : Nat → List Int) (c : Int) (w : World) (h : PR w P X) (hb : total X ≤ 1000000) : Calls Try.prog 22 #[.agg #[.slice (P 0).A (P 0).n (P 0).c, .slice (P 1).A (P 1).n (P 1).c, .slice (P 2).A (P 2).n (P 2).c, .slice (P 3).A (P 3).n (P 3).c, .slice (P 4).A (P 4).n (P 4).c], .int .i64 c] w fun e w' => ∃ s' : Sv, e = .returned (.slice s'.A s'.n s'.c) ∧ Sl w' s' (listN X c) ∧ Below w.heap.size w w' := by
  by_cases hc : 0 ≤ c ∧ c < 5
  · rw [listN, if_pos hc]
    rcases cls_nat hc with rfl | rfl | rfl | rfl | rfl
    · exact list_in0 P X w h (Nat.le_trans (le_total X 0 (by omega)) hb)
    · exact list_in1 P X w h (Nat.le_trans (le_total X 1 (by omega)) hb)
    · exact list_in2 P X w h (Nat.le_trans (le_total X 2 (by omega)) hb)
    · exact list_in3 P X w h (Nat.le_trans (le_total X 3 (by omega)) hb)
    · exact list_in4 P X w h (Nat.le_trans (le_total X 4 (by omega)) hb)
  · rw [listN, if_neg hc]
    refine (list_out P c w (by omega)).mono ?_
    rintro e w' ⟨rfl, h2⟩
    exact ⟨⟨none, 0, 0⟩, rfl, ⟨rfl, Nat.le_refl _, fun _ => ⟨rfl, rfl⟩, Kd.C_nil _ _⟩, h2⟩
theorem same_loop (l : List Int) (hl : l.length ≤ 1000000) (d : Nat) : ∀ (p k : Nat), p + d = l.length → d < k → assartlaw01_Ints_Same.l0 k l l (p : Int) = some true := by
  induction d with
  | zero =>
    intro p k hp hk
    obtain ⟨k, rfl⟩ : ∃ m, k = m + 1 := ⟨k - 1, by omega⟩
    simp only [assartlaw01_Ints_Same.l0]
    rw [if_neg (by omega)]
  | succ d ih =>
    intro p k hp hk
    obtain ⟨k, rfl⟩ : ∃ m, k = m + 1 := ⟨k - 1, by omega⟩
    simp only [assartlaw01_Ints_Same.l0]
    rw [if_pos (by omega), if_pos (by omega), if_pos (by omega), if_pos (by simp), w64 (a := (p : Int) + 1) (by omega) (by omega)]
    exact ih (p + 1) k (by omega) (by omega)
/-- Two slices that read the same are the same. -/
theorem same_sl (s t : Sv) (l m : List Int) (w : World) (h : Sl w s l) (h' : Sl w t m) (hm : m = l) (hl : l.length ≤ 1000000) : Calls Try.prog 9 #[.slice s.A s.n s.c, .slice t.A t.n t.c] w fun e w' => e = .returned (.bool true) ∧ Drawn0 w w' := by
  subst hm
  obtain ⟨A, n, c⟩ := s
  obtain ⟨B, n', c'⟩ := t
  obtain ⟨hn, hc, _, hC⟩ := h
  obtain ⟨hn', hc', _, hC'⟩ := h'
  simp only at hn hc hC hn' hc' hC'
  subst hn
  subst hn'
  exact assartlaw01_Ints_Same.calls (m.length + 1) A c m B c' m true w hC hc hC' hc' (by
    unfold assartlaw01_Ints_Same.f
    rw [if_pos rfl]
    exact same_loop m hl m.length 0 _ (by omega) (by omega))

end Go.Proofs.Ytmgphebhfecfmaa.X

/- shrink.Least and the reference's: contracts by hand. Conditions: none. -/
import Derived.Test.YtlockojfinmddaaXScript
namespace Go.Proofs.Ytlockojfinmddaa.X
open Go.RowKit Go.Proofs.Ytlockojfinmddaa.PShrinkScripts Go.Proofs.YtlockojfinmddaaW.PrintWords Go.Proofs.YtlockojfinmddaaW.PrintLast Go.Proofs.YtlockojfinmddaaW.PrintMore
set_option linter.unusedVariables false
set_option linter.unusedSimpArgs false

def leastK (h : List S39 → Bool) (l : List S39) : Nat → Bool
  | 0 => true
  | k + 1 => !h (wout l ((l.length : Int) - ((k : Int) + 1)) 1) && leastK h l k
theorem leastK_iff (h : List S39 → Bool) (l : List S39) : ∀ k, leastK h l k = true ↔ ∀ i : Int, (l.length : Int) - k ≤ i → i < l.length → h (wout l i 1) = false
  | 0 => ⟨fun _ i h1 h2 => by omega, fun _ => rfl⟩
  | k + 1 => by
    unfold leastK
    rw [Bool.and_eq_true, leastK_iff h l k]
    constructor
    · rintro ⟨h1, h2⟩ i h3 h4
      by_cases e : i = (l.length : Int) - ((k : Int) + 1)
      · rw [e]; simpa using h1
      · exact h2 i (by omega) h4
    · intro hh
      exact ⟨by rw [hh _ (by omega) (by omega)]; rfl, fun i h3 h4 => hh i (by omega) h4⟩
theorem leastB_eq (h : List S39 → Bool) (l : List S39) : leastB h l = (h l && leastK h l l.length) := by
  unfold leastB
  congr 1
  rw [Bool.eq_iff_iff, leastK_iff, List.all_eq_true]
  constructor
  · intro hh i h1 h2
    have := hh i.toNat (List.mem_range.2 (by omega))
    rw [show ((i.toNat : Nat) : Int) = i by omega] at this
    simpa using this
  · intro hh i hi
    rw [hh i (by omega) (by have := List.mem_range.1 hi; omega)]
    rfl
theorem least_none (A : Option Addr) (c : Nat) (l : List S39) (w : World) : Calls Try.prog 14 #[.slice A l.length c, .nilFunc] w fun e w' => e = .returned (.bool false) ∧ Below w.heap.size w w' := by
  have hnil : ∀ w : World, (binOp .eql 30 .nilFunc .nilFunc).run Try.prog w = .ok (.bool true) w := eql_nil
  go_enter Try.func14, Try.ntmps14
  go_wp2
  go_ret
  exact ⟨rfl, Below.refl _ _⟩
theorem least_no (P : Qs) (A : Option Addr) (c : Nat) (l : List S39) (w : World) (hq : Qu w P) (hC : Kd.C k39 w A l.length l) (hl : l.length ≤ 1000) (hh : P.h l = false) : Calls Try.prog 14 #[.slice A l.length c, .func (.func 21) #[] #[.pointer (some ⟨P.b, 0, none⟩)]] w fun e w' => e = .returned (.bool false) ∧ Below w.heap.size w w' := by
  have HQ := Aside0.mk hq
  have HC := Aside0.mk hC
  have HL := Aside0.mk hl
  have HH := Aside0.mk hh
  have hnil : ∀ (w : World) (x : Value), (binOp .eql 30 (.func (.func 21) #[] #[x]) .nilFunc).run Try.prog w = .ok (.bool false) w := eql_fn
  clear hq hC hl hh
  go_enter Try.func14, Try.ntmps14
  go_wp2_with (first
    | (go_at_call 17; refine (clone_calls A c l _ HC.out HL.out).mono ?_; rintro e w1 ⟨A1, c1, rfl, hR, hB⟩; have HB := Aside0.mk hB; have HR1 := Aside0.mk hR; clear hB hR)
    | (go_at_call 21; refine (ask_to P A1 c1 l false _ (HQ.out.below HB.out) (row_len HR1.out).2.1 (row_len HR1.out).1 HL.out HH.out).mono ?_; rintro e w2 ⟨rfl, hB⟩; have HB2 := Aside0.mk (bthen HB.out hB); clear hB))
  go_ret
  exact ⟨rfl, HB2.out⟩
theorem without_n (A : Option Addr) (c n : Nat) (l : List S39) (fr many : Int) (m : List S39) (w : World) (hC : Kd.C k39 w A l.length l) (hc : l.length ≤ c) (hl : l.length ≤ 1000) (hm : m = wout l fr many) (hn : l.length = n) : Calls Try.prog 8 #[.slice A n c, .int .i64 fr, .int .i64 many] w (Row w m) := by
  subst hm hn
  exact without_calls A c l fr many w hC hc hl
set_option maxHeartbeats 2000000 in
theorem least_yes (P : Qs) (A : Option Addr) (c n : Nat) (l : List S39) (w : World) (hq : Qu w P) (hC : Kd.C k39 w A l.length l) (hc : l.length ≤ c) (hl : l.length ≤ 1000) (hn : l.length = n) (hh : P.h l = true) : Calls Try.prog 14 #[.slice A n c, .func (.func 21) #[] #[.pointer (some ⟨P.b, 0, none⟩)]] w fun e w' => e = .returned (.bool (leastK P.h l n)) ∧ Below w.heap.size w w' := by
  obtain ⟨r, hr⟩ : ∃ r, leastK P.h l n = r := ⟨_, rfl⟩
  rw [hr]
  have HR := Aside0.mk hr
  have HQ := Aside0.mk hq
  have HC := Aside0.mk hC
  have HL := Aside0.mk (And.intro hl hc)
  have HH := Aside0.mk hh
  have HN := Aside0.mk hn
  have hnil : ∀ (w : World) (x : Value), (binOp .eql 30 (.func (.func 21) #[] #[x]) .nilFunc).run Try.prog w = .ok (.bool false) w := eql_fn
  have b1 : (n : Int) ≤ 1000 := by omega
  clear hq hC hc hl hh hn hr
  go_enter Try.func14, Try.ntmps14
  go_wp2_with (first
    | (go_at_call 17; refine (clone_to A c n l _ HC.out HL.out.1 HN.out).mono ?_; rintro e w1 ⟨A1, c1, rfl, hR, hB⟩; have HB := Aside0.mk hB; have HR1 := Aside0.mk hR; clear hB hR)
    | (go_at_call 21; refine (ask_to P A1 c1 l true _ (HQ.out.below HB.out) (row_len HR1.out).2.1 (row_len HR1.out).1 HL.out.1 HH.out).mono ?_; rintro e w2 ⟨rfl, hB⟩; have HB2 := Aside0.mk (bthen HB.out hB); clear hB))
  go_loopg [5, 17] n (fun kq v5 v17 w' => ∃ i : Int, v17 = .int .i64 i ∧ 0 ≤ i ∧ i + (kq : Int) = n ∧ Aside0 (leastK P.h l kq = r) ∧ Aside0 (Below w.heap.size w w'))
  case atStart => exact ⟨0, rfl, by omega, by omega, HR, HB2⟩
  case round =>
    clear HB2 HB HR1
    obtain ⟨i, rfl, hi0, hik, HP, HX⟩ := hrel
    by_cases hlt : i < (n : Int)
    · have hd : decide (i < (n : Int)) = true := decide_eq_true hlt
      obtain ⟨k, rfl⟩ : ∃ k, gk = k + 1 := ⟨gk - 1, by omega⟩
      have hP := HP.out
      unfold leastK at hP
      rw [HN.out, show (n : Int) - ((k : Int) + 1) = i by omega] at hP
      have HI := Aside0.mk (And.intro hi0 (And.intro hik hlt))
      obtain ⟨m, hm⟩ : ∃ m, m = wout l i 1 := ⟨_, rfl⟩
      rw [← hm] at hP
      have HML := Aside0.mk (show m.length ≤ 1000 by rw [hm]; exact Nat.le_trans (wout_len l i 1) HL.out.1)
      have HM := Aside0.mk hm
      clear hi0 hik hlt hm
      by_cases hb : P.h m = true
      · rw [hb] at hP
        have HB := Aside0.mk hb
        obtain rfl : false = r := hP
        clear hb
        go_wp2_with (first
          | (go_at_call 8; refine (without_n A c n l i 1 m wr (Kd.C_below HC.out HX.out) HL.out.2 HL.out.1 HM.out HN.out).mono ?_; rintro e w4 ⟨A4, c4, rfl, hR, hB⟩; have HB4 := Aside0.mk hB; have HR4 := Aside0.mk hR; clear hB hR)
          | (go_at_call 21; refine (ask_to P A4 c4 m true _ ((HQ.out.below HX.out).below HB4.out) (row_len HR4.out).2.1 (row_len HR4.out).1 HML.out HB.out).mono ?_; rintro e w5 ⟨rfl, hB⟩; have HB5 := Aside0.mk (bthen (bthen HX.out HB4.out) hB); clear hB))
        go_ret
        exact ⟨rfl, HB5.out⟩
      · have hb := Bool.eq_false_iff.2 hb
        rw [hb] at hP
        have HB := Aside0.mk hb
        have HP2 := Aside0.mk (show leastK P.h l k = r from hP)
        clear hb hP
        go_wp2_with (first
          | (go_at_call 8; refine (without_n A c n l i 1 m wr (Kd.C_below HC.out HX.out) HL.out.2 HL.out.1 HM.out HN.out).mono ?_; rintro e w4 ⟨A4, c4, rfl, hR, hB⟩; have HB4 := Aside0.mk hB; have HR4 := Aside0.mk hR; clear hB hR)
          | (go_at_call 21; refine (ask_to P A4 c4 m false _ ((HQ.out.below HX.out).below HB4.out) (row_len HR4.out).2.1 (row_len HR4.out).1 HML.out HB.out).mono ?_; rintro e w5 ⟨rfl, hB⟩; have HB5 := Aside0.mk (bthen (bthen HX.out HB4.out) hB); clear hB))
        go_roundg k
        case measure => omega
        case rel =>
          have := HI.out
          exact ⟨i + 1, by rw [w64 (by omega) (by omega)], by omega, by omega, HP2, HB5⟩
    · have hd : decide (i < (n : Int)) = false := decide_eq_false hlt
      obtain rfl : gk = 0 := by omega
      obtain rfl : true = r := HP.out
      clear hlt
      go_wp2
      go_ret
      exact ⟨rfl, HX.out⟩
theorem least_calls (P : Qs) (A : Option Addr) (c : Nat) (l : List S39) (w : World) (hq : Qu w P) (hC : Kd.C k39 w A l.length l) (hc : l.length ≤ c) (hl : l.length ≤ 1000) : Calls Try.prog 14 #[.slice A l.length c, P.fn] w fun e w' => e = .returned (.bool (leastB P.h l)) ∧ Below w.heap.size w w' := by
  unfold Qs.fn
  rw [leastB_eq]
  by_cases hh : P.h l = true
  · rw [hh, Bool.true_and]
    exact least_yes P A c l.length l w hq hC hc hl rfl hh
  · have hf := Bool.eq_false_iff.2 hh
    rw [hf, Bool.false_and]
    exact least_no P A c l w hq hC hl hf

end Go.Proofs.Ytlockojfinmddaa.X

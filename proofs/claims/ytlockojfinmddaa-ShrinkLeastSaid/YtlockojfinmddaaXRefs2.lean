/- The reference's Script, put together, and its Least: contracts by hand. Conditions: none. -/
import Derived.Test.YtlockojfinmddaaXRefs
namespace Go.Proofs.Ytlockojfinmddaa.X
open Go.RowKit Go.Proofs.Ytlockojfinmddaa.PShrinkScripts Go.Proofs.YtlockojfinmddaaW.PrintWords Go.Proofs.YtlockojfinmddaaW.PrintLast Go.Proofs.YtlockojfinmddaaW.PrintMore
set_option linter.unusedVariables false
set_option linter.unusedSimpArgs false

theorem rscript_no (P : Qs) (A : Option Addr) (c : Nat) (l : List S39) (w : World) (hq : Qr w P) (hC : Kd.C k39 w A l.length l) (hc : l.length ≤ c) (hl : l.length ≤ 1000) (hh : P.h l = false) : Calls Try.prog 13 #[.agg #[.slice P.A P.ws.length P.c, .int .i64 P.each, .int .i64 P.most], .slice A l.length c] w (Got w l) := by
  have HQ := Aside0.mk (Qu.made hq)
  have HC := Aside0.mk (Kd.C_alloc hC (.cells #[.slice P.A P.ws.length P.c, .int .i64 P.each, .int .i64 P.most] 24))
  have HL := Aside0.mk (And.intro hl hc)
  have HH := Aside0.mk hh
  clear hq hC hc hl hh
  go_enter Try.func13, Try.ntmps13
  go_wp2_with (go_at_call 16; refine (holds_to P A c l false _ HQ.out.qr HC.out HL.out.2 HL.out.1 HH.out).mono ?_; rintro e w1 ⟨rfl, hB⟩; have HB1 := Aside0.mk hB; clear hB)
  go_ret
  exact ⟨A, c, rfl, HL.out.2, Kd.C_below HC.out HB1.out, bthen (ballo (Below.refl _ _) _) HB1.out⟩
theorem rscript_empty (P : Qs) (A : Option Addr) (c : Nat) (w : World) (hq : Qr w P) (hC : Kd.C k39 w A ([] : List S39).length []) (hh : P.h [] = true) : Calls Try.prog 13 #[.agg #[.slice P.A P.ws.length P.c, .int .i64 P.each, .int .i64 P.most], .slice A 0 c] w (Got w []) := by
  have HQ := Aside0.mk (Qu.made hq)
  have HC := Aside0.mk (Kd.C_alloc hC (.cells #[.slice P.A P.ws.length P.c, .int .i64 P.each, .int .i64 P.most] 24))
  have HH := Aside0.mk hh
  clear hq hC hh
  go_enter Try.func13, Try.ntmps13
  go_wp2_with (go_at_call 16; refine (holds_n P A c 0 [] true _ HQ.out.qr HC.out (Nat.zero_le _) (by simp) HH.out rfl).mono ?_; rintro e w1 ⟨rfl, hB⟩; have HB1 := Aside0.mk hB; clear hB)
  go_ret
  exact ⟨A, c, rfl, Nat.zero_le _, Kd.C_below HC.out HB1.out, bthen (ballo (Below.refl _ _) _) HB1.out⟩
theorem rscript_calls (P : Qs) (A : Option Addr) (c : Nat) (l : List S39) (w : World) (hq : Qr w P) (hC : Kd.C k39 w A l.length l) (hc : l.length ≤ c) (hl : l.length ≤ 1000) : Calls Try.prog 13 #[.agg #[.slice P.A P.ws.length P.c, .int .i64 P.each, .int .i64 P.most], .slice A l.length c] w (Got w (script P.h l)) := by
  by_cases hh : P.h l = true
  · rcases Nat.eq_zero_or_pos l.length with h0 | h0
    · have e := List.eq_nil_of_length_eq_zero h0
      subst e
      rw [show script P.h [] = [] from by unfold script; rw [if_pos (.inr rfl)]]
      exact rscript_empty P A c w hq hC hh
    · exact rscript_main P A c l.length l w hq hC hc hl rfl h0 hh
  · have hf := Bool.eq_false_iff.2 hh
    rw [script_not P.h l hf]
    exact rscript_no P A c l w hq hC hc hl hf
theorem rleast_no (P : Qs) (A : Option Addr) (c : Nat) (l : List S39) (w : World) (hq : Qr w P) (hC : Kd.C k39 w A l.length l) (hc : l.length ≤ c) (hl : l.length ≤ 1000) (hh : P.h l = false) : Calls Try.prog 15 #[.agg #[.slice P.A P.ws.length P.c, .int .i64 P.each, .int .i64 P.most], .slice A l.length c] w fun e w' => e = .returned (.bool false) ∧ Below w.heap.size w w' := by
  have HQ := Aside0.mk (Qu.made hq)
  have HC := Aside0.mk (Kd.C_alloc hC (.cells #[.slice P.A P.ws.length P.c, .int .i64 P.each, .int .i64 P.most] 24))
  have HL := Aside0.mk (And.intro hl hc)
  have HH := Aside0.mk hh
  clear hq hC hc hl hh
  go_enter Try.func15, Try.ntmps15
  go_wp2_with (go_at_call 16; refine (holds_to P A c l false _ HQ.out.qr HC.out HL.out.2 HL.out.1 HH.out).mono ?_; rintro e w1 ⟨rfl, hB⟩; have HB1 := Aside0.mk hB; clear hB)
  go_ret
  exact ⟨rfl, bthen (ballo (Below.refl _ _) _) HB1.out⟩
theorem Qu.three {w0 w : World} {P : Qs} (h : Qu w (P.at_ w0.heap.size)) : w.cell? ⟨w0.heap.size, 0, none⟩ = some (.slice P.A P.ws.length P.c) ∧ w.cell? ⟨w0.heap.size, 1, none⟩ = some (.int .i64 P.each) ∧ w.cell? ⟨w0.heap.size, 2, none⟩ = some (.int .i64 P.most) := ⟨blk_cell h.blk 0, blk_cell h.blk 1, blk_cell h.blk 2⟩
set_option maxHeartbeats 2000000 in
theorem rleast_yes (P : Qs) (A : Option Addr) (c n : Nat) (l : List S39) (w : World) (hq : Qr w P) (hC : Kd.C k39 w A l.length l) (hc : l.length ≤ c) (hl : l.length ≤ 1000) (hn : l.length = n) (hh : P.h l = true) : Calls Try.prog 15 #[.agg #[.slice P.A P.ws.length P.c, .int .i64 P.each, .int .i64 P.most], .slice A n c] w fun e w' => e = .returned (.bool (leastK P.h l n)) ∧ Below w.heap.size w w' := by
  obtain ⟨r, hr⟩ : ∃ r, leastK P.h l n = r := ⟨_, rfl⟩
  rw [hr]
  have HR := Aside0.mk hr
  have HQ := Aside0.mk (Qu.made hq)
  have HC := Aside0.mk (Kd.C_alloc hC (.cells #[.slice P.A P.ws.length P.c, .int .i64 P.each, .int .i64 P.most] 24))
  have HL := Aside0.mk (And.intro hl hc)
  have HH := Aside0.mk hh
  have HN := Aside0.mk hn
  have b1 : (n : Int) ≤ 1000 := by omega
  clear hq hC hc hl hh hn hr
  go_enter Try.func15, Try.ntmps15
  go_wp2_with (go_at_call 16; refine (holds_n P A c n l true _ HQ.out.qr HC.out HL.out.2 HL.out.1 HH.out HN.out).mono ?_; rintro e w1 ⟨rfl, hB⟩; have HB1 := Aside0.mk hB; have Q1 := Aside0.mk (HQ.out.below hB); have C1 := Aside0.mk (Kd.C_below HC.out hB); clear hB)
  go_loopg [5] n (fun kq v5 w' => ∃ i : Int, v5 = .int .i64 i ∧ 0 ≤ i ∧ i + (kq : Int) = n ∧ Aside0 (leastK P.h l kq = r) ∧ Aside0 (Kd.C k39 w' A l.length l) ∧ Aside0 (Qu w' (P.at_ w.heap.size)) ∧ Aside0 (Below w.heap.size w w'))
  case atStart => exact ⟨0, rfl, by omega, by omega, HR, C1, Q1, ⟨bthen (ballo (Below.refl _ _) _) HB1.out⟩⟩
  case round =>
    clear C1 Q1 HB1 HQ HC
    obtain ⟨i, rfl, hi0, hik, HP, HC, HQ, HX⟩ := hrel
    by_cases hlt : i < (n : Int)
    · have hd : decide (i < (n : Int)) = true := decide_eq_true hlt
      obtain ⟨k, rfl⟩ : ∃ k, gk = k + 1 := ⟨gk - 1, by omega⟩
      have hP := HP.out
      unfold leastK at hP
      rw [HN.out, show (n : Int) - ((k : Int) + 1) = i by omega] at hP
      have HI := Aside0.mk (And.intro hi0 (And.intro hik hlt))
      obtain ⟨m, hm⟩ : ∃ m, m = wout l i 1 := ⟨_, rfl⟩
      rw [← hm] at hP
      have HML := Aside0.mk (show m.length ≤ 1000 by rw [hm]; exact Nat.le_trans (wout_len l i 1) HL.out.1)
      have HM := Aside0.mk hm
      clear hi0 hik hlt hm
      by_cases hb : P.h m = true
      · rw [hb] at hP
        have HB := Aside0.mk hb
        obtain rfl : false = r := hP
        clear hb
        go_wp2_with fail
        have KS : Aside0 (∀ w', Below wr.heap.size wr w' → (w'.cell? ⟨w.heap.size, 0, none⟩ = some (.slice P.A P.ws.length P.c) ∧ w'.cell? ⟨w.heap.size, 1, none⟩ = some (.int .i64 P.each) ∧ w'.cell? ⟨w.heap.size, 2, none⟩ = some (.int .i64 P.most))) := ⟨fun w' hb => (HQ.out.below hb).three⟩
        have HW := Aside0.mk (below_drew (Below.refl wr.heap.size wr))
        go_region_held3 (fun w' => w'.cell? ⟨w.heap.size, 0, none⟩ = some (.slice P.A P.ws.length P.c) ∧ w'.cell? ⟨w.heap.size, 1, none⟩ = some (.int .i64 P.each) ∧ w'.cell? ⟨w.heap.size, 2, none⟩ = some (.int .i64 P.most))
          (first | (with_reducible exact KS.out _ HW.out) | (with_reducible exact KS.out _ HB4.out) | (with_reducible exact KS.out _ HB5.out) | exact KS.out _ HW.out)
          (first
            | (go_at_call 10; refine (rwithout_n A c n l i 1 m _ (Kd.C_below HC.out HW.out) HL.out.2 HL.out.1 HM.out HN.out).mono ?_; rintro e w4 ⟨A4, c4, rfl, hR, hB⟩; have HB4 := Aside0.mk (bthen HW.out hB); have HR4 := Aside0.mk hR; clear hB hR)
            | (go_at_call 16; refine (holds_to P A4 c4 m true _ (HQ.out.below HB4.out).qr (row_len HR4.out).2.1 (row_len HR4.out).1 HML.out HB.out).mono ?_; rintro e w5 ⟨rfl, hB⟩; have HB5 := Aside0.mk (bthen HB4.out hB); clear hB))
        go_wp2_with fail
        go_ret
        exact ⟨rfl, bthen HX.out HB5.out⟩
      · have hb := Bool.eq_false_iff.2 hb
        rw [hb] at hP
        have HB := Aside0.mk hb
        have HP2 := Aside0.mk (show leastK P.h l k = r from hP)
        clear hb hP
        go_wp2_with fail
        have KS : Aside0 (∀ w', Below wr.heap.size wr w' → (w'.cell? ⟨w.heap.size, 0, none⟩ = some (.slice P.A P.ws.length P.c) ∧ w'.cell? ⟨w.heap.size, 1, none⟩ = some (.int .i64 P.each) ∧ w'.cell? ⟨w.heap.size, 2, none⟩ = some (.int .i64 P.most))) := ⟨fun w' hb => (HQ.out.below hb).three⟩
        have HW := Aside0.mk (below_drew (Below.refl wr.heap.size wr))
        go_region_held3 (fun w' => w'.cell? ⟨w.heap.size, 0, none⟩ = some (.slice P.A P.ws.length P.c) ∧ w'.cell? ⟨w.heap.size, 1, none⟩ = some (.int .i64 P.each) ∧ w'.cell? ⟨w.heap.size, 2, none⟩ = some (.int .i64 P.most))
          (first | (with_reducible exact KS.out _ HW.out) | (with_reducible exact KS.out _ HB4.out) | (with_reducible exact KS.out _ HB5.out) | exact KS.out _ HW.out)
          (first
            | (go_at_call 10; refine (rwithout_n A c n l i 1 m _ (Kd.C_below HC.out HW.out) HL.out.2 HL.out.1 HM.out HN.out).mono ?_; rintro e w4 ⟨A4, c4, rfl, hR, hB⟩; have HB4 := Aside0.mk (bthen HW.out hB); have HR4 := Aside0.mk hR; clear hB hR)
            | (go_at_call 16; refine (holds_to P A4 c4 m false _ (HQ.out.below HB4.out).qr (row_len HR4.out).2.1 (row_len HR4.out).1 HML.out HB.out).mono ?_; rintro e w5 ⟨rfl, hB⟩; have HB5 := Aside0.mk (bthen HB4.out hB); clear hB))
        go_wp2_with fail
        go_roundg k
        case measure => omega
        case rel =>
          have := HI.out
          exact ⟨i + 1, by rw [w64 (by omega) (by omega)], by omega, by omega, HP2, ⟨Kd.C_below HC.out HB5.out⟩, ⟨HQ.out.below HB5.out⟩, ⟨bthen HX.out HB5.out⟩⟩
    · have hd : decide (i < (n : Int)) = false := decide_eq_false hlt
      obtain rfl : gk = 0 := by omega
      obtain rfl : true = r := HP.out
      clear hlt
      go_wp2
      go_ret
      exact ⟨rfl, HX.out⟩
theorem rleast_calls (P : Qs) (A : Option Addr) (c : Nat) (l : List S39) (w : World) (hq : Qr w P) (hC : Kd.C k39 w A l.length l) (hc : l.length ≤ c) (hl : l.length ≤ 1000) : Calls Try.prog 15 #[.agg #[.slice P.A P.ws.length P.c, .int .i64 P.each, .int .i64 P.most], .slice A l.length c] w fun e w' => e = .returned (.bool (leastB P.h l)) ∧ Below w.heap.size w w' := by
  rw [leastB_eq]
  by_cases hh : P.h l = true
  · rw [hh, Bool.true_and]
    exact rleast_yes P A c l.length l w hq hC hc hl rfl hh
  · have hf := Bool.eq_false_iff.2 hh
    rw [hf, Bool.false_and]
    exact rleast_no P A c l w hq hC hc hl hf

end Go.Proofs.Ytlockojfinmddaa.X

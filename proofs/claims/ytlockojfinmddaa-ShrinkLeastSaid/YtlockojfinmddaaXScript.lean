/- shrink.Script: contract by hand. Conditions: none. -/
import Derived.Test.YtlockojfinmddaaXPass
namespace Go.Proofs.Ytlockojfinmddaa.X
open Go.RowKit Go.Proofs.Ytlockojfinmddaa.PShrinkScripts Go.Proofs.YtlockojfinmddaaW.PrintWords Go.Proofs.YtlockojfinmddaaW.PrintLast Go.Proofs.YtlockojfinmddaaW.PrintMore
set_option linter.unusedVariables false
set_option linter.unusedSimpArgs false

/-- A row of entries is told, to be read; all that was is as it was. -/
def Got (w : World) (l : List S39) (e : Ending) (w' : World) : Prop := ∃ A c, e = .returned (.slice A l.length c) ∧ l.length ≤ c ∧ Kd.C k39 w' A l.length l ∧ Below w.heap.size w w'
theorem half_calls (a : Int) (w : World) (h0 : 0 ≤ a) (h1 : a ≤ 1000) : Calls Try.prog 19 #[.int .i64 a] w fun e w' => e = .returned (.int .i64 (halfN a)) ∧ w' = w := by
  unfold halfN
  go_enter Try.func19, Try.ntmps19
  go_wp2
  go_ret
  exact ⟨rfl, rfl⟩
theorem pass_to (q : Nat) (P : Qs) (A : Option Addr) (c : Nat) (l : List S39) (many : Int) (r : List S39 × Bool) (b : Bool) (w : World) (h : Sh w q P A c l) (hl : l.length ≤ 1000) (h1 : 1 ≤ many) (h2 : many ≤ 1000) (hr : passF P.h many l.length l 0 false = r) (hb : r.2 = b) : Calls Try.prog 20 #[.pointer (some ⟨q, 0, none⟩), .int .i64 many] w fun e w' => e = .returned (.bool b) ∧ Kq w w' q ∧ ∃ A c, Sh w' q P A c r.1 := by
  subst hr hb
  exact pass_calls q P A c l many w h hl h1 h2
/-- The shrinker's box, made. -/
theorem Sh.new {w w1 : World} {P : Qs} {A : Option Addr} {c : Nat} {l : List S39} (hq : Qu w P) (hb : Below w.heap.size w w1) (hR : Kd.R k39 39 w1 w.heap.size (fun _ => True) (.slice A l.length c) l) : Sh (w1.alloc (.cells #[.slice A l.length c, P.fn] 44)) w1.heap.size P A c l := by
  have h := row_len hR
  have hlt : ∀ ad, A = some ad → ad.block ≠ w1.heap.size := fun ad e => by subst e; have := Kd.R_lt hR _ rfl; omega
  refine ⟨blk_new w1 _, Kd.C_alloc h.2.1 _, h.1, hlt, (hq.below hb).below (ballo (Below.refl _ _) _), ?_, ?_⟩
  · have := blk_lt (hq.below hb).blk; omega
  · exact Kd.far_C (0 : Int) (hq.below hb).row (Nat.le_refl _)
theorem eql_nil (w : World) : (binOp .eql 30 .nilFunc .nilFunc).run Try.prog w = .ok (.bool true) w := by kernel_rfl
theorem eql_fn (w : World) (x : Value) : (binOp .eql 30 (.func (.func 21) #[] #[x]) .nilFunc).run Try.prog w = .ok (.bool false) w := by kernel_rfl
theorem none_calls (A : Option Addr) (c : Nat) (l : List S39) (w : World) (hC : Kd.C k39 w A l.length l) (hl : l.length ≤ 1000) : Calls Try.prog 11 #[.slice A l.length c, .nilFunc] w (Got w l) := by
  have HC := Aside0.mk hC
  have HL := Aside0.mk hl
  have hnil : ∀ w : World, (binOp .eql 30 .nilFunc .nilFunc).run Try.prog w = .ok (.bool true) w := eql_nil
  clear hC hl
  go_enter Try.func11, Try.ntmps11
  go_wp2_with (go_at_call 17; refine (clone_calls A c l _ HC.out HL.out).mono ?_; rintro e w1 ⟨A1, c1, rfl, hR, hB⟩; have HR := Aside0.mk hR; clear hR)
  go_ret
  have h := row_len HR.out
  exact ⟨A1, c1, rfl, h.1, Kd.C_alloc h.2.1 _, ballo hB _⟩

theorem Sh.got {w0 w : World} {q : Nat} {P : Qs} {A : Option Addr} {c : Nat} {l : List S39} (h : Sh w q P A c l) (hb : Below w0.heap.size w0 w) : Got w0 l (.returned (.slice A l.length c)) w := ⟨A, c, rfl, h.cap, h.row, hb⟩
theorem clone_to (A : Option Addr) (c n : Nat) (l : List S39) (w : World) (hC : Kd.C k39 w A l.length l) (hl : l.length ≤ 1000) (hn : l.length = n) : Calls Try.prog 17 #[.slice A n c] w (Row w l) := by
  subst hn
  exact clone_calls A c l w hC hl
/-- Nothing is asked of no entries. -/
theorem script_empty (P : Qs) (A : Option Addr) (c : Nat) (w : World) (hq : Qu w P) (hC : Kd.C k39 w A ([] : List S39).length []) : Calls Try.prog 11 #[.slice A 0 c, .func (.func 21) #[] #[.pointer (some ⟨P.b, 0, none⟩)]] w (Got w []) := by
  have HQ := Aside0.mk hq
  have HC := Aside0.mk hC
  have hnil : ∀ (w : World) (x : Value), (binOp .eql 30 (.func (.func 21) #[] #[x]) .nilFunc).run Try.prog w = .ok (.bool false) w := eql_fn
  clear hq hC
  go_enter Try.func11, Try.ntmps11
  go_wp2_with (go_at_call 17; refine (clone_calls A c [] _ HC.out (by simp)).mono ?_; rintro e w1 ⟨A1, c1, rfl, hR, hB⟩; have HR := Aside0.mk hR; clear hR)
  go_ret
  have h := row_len HR.out
  exact ⟨A1, c1, rfl, h.1, Kd.C_alloc h.2.1 _, ballo hB _⟩
theorem script_no (P : Qs) (A : Option Addr) (c n : Nat) (l : List S39) (w : World) (hq : Qu w P) (hC : Kd.C k39 w A l.length l) (hc : l.length ≤ c) (hl : l.length ≤ 1000) (hn : l.length = n) (h0 : (n == 0) = false) (hh : P.h l = false) : Calls Try.prog 11 #[.slice A n c, .func (.func 21) #[] #[.pointer (some ⟨P.b, 0, none⟩)]] w (Got w l) := by
  have HQ := Aside0.mk hq
  have HC := Aside0.mk hC
  have HL := Aside0.mk hl
  have HH := Aside0.mk hh
  have HN := Aside0.mk hn
  have h1 : ((n : Int) == 0) = false := by simp at h0 ⊢; omega
  have hnil : ∀ (w : World) (x : Value), (binOp .eql 30 (.func (.func 21) #[] #[x]) .nilFunc).run Try.prog w = .ok (.bool false) w := eql_fn
  clear hq hC hc hl hh hn
  go_enter Try.func11, Try.ntmps11
  go_wp2_with (first
    | (go_at_call 17; refine (clone_to A c n l _ HC.out HL.out HN.out).mono ?_; rintro e w1 ⟨A1, c1, rfl, hR, hB⟩; have HB := Aside0.mk hB; have S1 := Aside0.mk (Sh.new HQ.out hB hR); clear hB hR)
    | (go_at_call 21; go_loud (refine (ask_to P A1 c1 l false _ S1.out.qu S1.out.row S1.out.cap HL.out HH.out).mono ?_; rintro e w2 ⟨rfl, hB⟩; have S2 := Aside0.mk (S1.out.below hB); have HB2 := Aside0.mk (bthen (ballo HB.out _) hB); have y0 : w2.cell? ⟨w1.heap.size, 0, none⟩ = some (.slice A1 l.length c1) := blk_cell S2.out.blk 0; clear hB)))
  go_ret
  exact S2.out.got HB2.out

theorem halfN_bd (n : Int) (h : 1 ≤ n) : 1 ≤ halfN n ∧ halfN n ≤ n := by unfold halfN; omega
theorem halfN_lt (n : Int) (h : 2 ≤ n) : halfN n < n := by unfold halfN; omega
theorem half_to (a r : Int) (w : World) (h0 : 0 ≤ a) (h1 : a ≤ 1000) (hr : halfN a = r) : Calls Try.prog 19 #[.int .i64 a] w fun e w' => e = .returned (.int .i64 r) ∧ w' = w := by
  subst hr
  exact half_calls a w h0 h1
set_option maxHeartbeats 4000000 in
theorem script_main (P : Qs) (A : Option Addr) (c n : Nat) (l : List S39) (w : World) (hq : Qu w P) (hC : Kd.C k39 w A l.length l) (hc : l.length ≤ c) (hl : l.length ≤ 1000) (hn : l.length = n) (h0 : 1 ≤ n) (hh : P.h l = true) : Calls Try.prog 11 #[.slice A n c, .func (.func 21) #[] #[.pointer (some ⟨P.b, 0, none⟩)]] w (Got w (script P.h l)) := by
  obtain ⟨M, hM⟩ : ∃ M, halveF P.h n (halfN n) l = M := ⟨_, rfl⟩
  obtain ⟨R, hR⟩ : ∃ R, lastF P.h (n + 1) M = R := ⟨_, rfl⟩
  have hS : script P.h l = R := by
    unfold script
    rw [if_neg (by rw [hh]; rintro (h | h) <;> first | (cases h; done) | (subst h; simp at hn; omega)), hn, hM, hR]
  rw [hS]
  have HQ := Aside0.mk hq
  have HC := Aside0.mk hC
  have HL := Aside0.mk hl
  have HH := Aside0.mk hh
  have HN := Aside0.mk hn
  have HM := Aside0.mk hM
  have HR := Aside0.mk hR
  have h1 : ((n : Int) == 0) = false := beq_eq_false_iff_ne.2 (by omega)
  have h2 : (n == 0) = false := beq_eq_false_iff_ne.2 (by omega)
  have b0 : (1 : Int) ≤ (n : Int) := by omega
  have b1 : (n : Int) ≤ 1000 := by omega
  obtain ⟨m0, hm0⟩ : ∃ m0, halfN (n : Int) = m0 := ⟨_, rfl⟩
  have HM0 := Aside0.mk hm0
  have hnil : ∀ (w : World) (x : Value), (binOp .eql 30 (.func (.func 21) #[] #[x]) .nilFunc).run Try.prog w = .ok (.bool false) w := eql_fn
  clear hq hC hc hl hh hn hM hR hS h0 hm0
  go_enter Try.func11, Try.ntmps11
  go_wp2_with (first
    | (go_at_call 17; refine (clone_to A c n l _ HC.out HL.out HN.out).mono ?_; rintro e w1 ⟨A1, c1, rfl, hR, hB⟩; have HB := Aside0.mk hB; have S1 := Aside0.mk (Sh.new HQ.out hB hR); clear hB hR)
    | (go_at_call 21; refine (ask_to P A1 c1 l true _ S1.out.qu S1.out.row S1.out.cap HL.out HH.out).mono ?_; rintro e w2 ⟨rfl, hB⟩; have S2 := Aside0.mk (S1.out.below hB); have HB2 := Aside0.mk (bthen (ballo HB.out _) hB); clear hB)
    | (go_at_call 19; refine (half_to _ m0 _ (by omega) b1 HM0.out).mono ?_; rintro e w3 ⟨rfl, rfl⟩))
  obtain ⟨q, HQq⟩ : ∃ q, Aside0 (w1.heap.size = q ∧ w.heap.size ≤ q) := ⟨w1.heap.size, ⟨rfl, HB.out.size⟩⟩
  rw [HQq.out.1] at S2 ⊢
  clear S1
  go_loopg [6] n (fun kq v6 w' => ∃ (m : Int) (l2 : List S39) (A : Option Addr) (c : Nat), v6 = .int .i64 m ∧ 1 ≤ m ∧ m ≤ 1000 ∧ m ≤ (kq : Int) + 1 ∧ Aside0 (l2.length ≤ n) ∧ Aside0 (halveF P.h kq m l2 = M) ∧ Aside0 (Sh w' q P A c l2) ∧ Aside0 (Below w.heap.size w w'))
  case atStart => exact ⟨m0, l, A1, c1, rfl, by have := halfN_bd n b0; rw [HM0.out] at this; omega, by have := halfN_bd n b0; rw [HM0.out] at this; omega, by have := halfN_bd n b0; rw [HM0.out] at this; omega, ⟨by rw [HN.out]; exact Nat.le_refl _⟩, ⟨by rw [← HM0.out]; exact HM.out⟩, S2, HB2⟩
  case round =>
    clear S2 HB2
    obtain ⟨m, l2, A2, c2, rfl, hm1, hm2, hm3, HK, HP, HS, HX⟩ := hrel
    by_cases hlt : 1 < m
    · have hd : decide (1 < m) = true := decide_eq_true hlt
      obtain ⟨k, rfl⟩ : ∃ k, gk = k + 1 := ⟨gk - 1, by omega⟩
      have hP := HP.out
      unfold halveF at hP
      rw [if_pos hlt] at hP
      obtain ⟨r, hr⟩ : ∃ r, passF P.h m l2.length l2 0 false = r := ⟨_, rfl⟩
      obtain ⟨m2, hm4⟩ : ∃ m2, halfN m = m2 := ⟨_, rfl⟩
      rw [hr, hm4] at hP
      have hrl : r.1.length ≤ n := by rw [← hr]; exact Nat.le_trans (pass_len _ _ _ _ _ _) HK.out
      have HP2 := Aside0.mk hP
      have HR2 := Aside0.mk hr
      have HR3 := Aside0.mk hrl
      have HR4 := Aside0.mk hm4
      have HM2 := Aside0.mk (And.intro (And.intro hm1 hm2) (And.intro hm3 hlt))
      have hm5 : 0 ≤ m := by omega
      clear hP hr hlt hm3 hm4 hrl
      go_wp2_with (first
        | (go_at_call 20; refine (pass_to q P A2 c2 l2 m r r.2 wr HS.out (by have := HK.out; omega) HM2.out.1.1 HM2.out.1.2 HR2.out rfl).mono ?_; rintro e w4 ⟨rfl, hk4, A4, c4, hs4⟩)
        | (go_at_call 19; refine (half_to m m2 _ hm5 HM2.out.1.2 HR4.out).mono ?_; rintro e w5 ⟨rfl, rfl⟩))
      go_roundg k
      case measure => omega
      case rel =>
        have h1 := halfN_bd m HM2.out.1.1
        have h2 := halfN_lt m (by have := HM2.out; omega)
        rw [HR4.out] at h1 h2
        have := HM2.out
        exact ⟨m2, r.1, A4, c4, rfl, by omega, by omega, by omega, HR3, HP2, ⟨hs4⟩, ⟨Kq.below HX.out hk4 HX.out.size HQq.out.2⟩⟩
    · have hd : decide (1 < m) = false := decide_eq_false hlt
      have hP : l2 = M := by
        have hP := HP.out
        cases gk with
        | zero => exact hP
        | succ k => unfold halveF at hP; rw [if_neg hlt] at hP; exact hP
      have HS2 : Aside0 (Sh wr q P A2 c2 M) := ⟨by rw [← hP]; exact HS.out⟩
      have HK2 : Aside0 (M.length ≤ n) := ⟨by rw [← hP]; exact HK.out⟩
      clear hlt hP HS HP HK
      go_wp2_with fail
      go_loopg [42] (n + 1) (fun kq v42 w' => ∃ (l2 : List S39) (A : Option Addr) (c : Nat), Aside0 (l2.length < kq ∧ l2.length ≤ n) ∧ Aside0 (lastF P.h kq l2 = R) ∧ Aside0 (Sh w' q P A c l2) ∧ Aside0 (Below w.heap.size w w'))
      case atStart => exact ⟨M, A2, c2, ⟨by have := HK2.out; omega⟩, HR, HS2, HX⟩
      case round =>
        clear HS2 HK2 HX
        obtain ⟨l2, A2, c2, HK, HP, HS, HX⟩ := hrel
        obtain ⟨k, rfl⟩ : ∃ k, gk = k + 1 := ⟨gk - 1, by have := HK.out; omega⟩
        have hP := HP.out
        unfold lastF at hP
        obtain ⟨r, hr⟩ : ∃ r, passF P.h 1 l2.length l2 0 false = r := ⟨_, rfl⟩
        rw [hr] at hP
        have hrl : r.1.length ≤ l2.length := by rw [← hr]; exact pass_len _ _ _ _ _ _
        have hrs : r.2 = true → r.1.length < l2.length := by
          intro hb
          rw [← hr] at hb ⊢
          rcases pass_less P.h 1 (by omega) l2.length l2 0 false (by omega) hb with e | e
          · cases e
          · exact e
        have HR2 := Aside0.mk hr
        have HR3 := Aside0.mk hrl
        have HR4 := Aside0.mk hrs
        clear hr hrl hrs
        by_cases hb : r.2 = true
        · rw [if_pos hb] at hP
          have HB2 := Aside0.mk hb
          have HP2 := Aside0.mk hP
          clear hP hb
          go_wp2_with (go_at_call 20; refine (pass_to q P A2 c2 l2 1 r true wr HS.out (by have := HK.out; have := HN.out; have := HL.out; omega) (by omega) (by omega) HR2.out HB2.out).mono ?_; rintro e w4 ⟨rfl, hk4, A4, c4, hs4⟩)
          go_roundg k
          case measure => omega
          case rel =>
            have h1 := HR4.out HB2.out
            have := HK.out
            exact ⟨r.1, A4, c4, ⟨by omega⟩, HP2, ⟨hs4⟩, ⟨Kq.below HX.out hk4 HX.out.size HQq.out.2⟩⟩
        · rw [if_neg hb] at hP
          have HB2 := Aside0.mk (Bool.eq_false_iff.2 hb)
          have HP2 := Aside0.mk hP
          clear hP hb
          go_wp2_with (go_at_call 20; refine (pass_to q P A2 c2 l2 1 r false wr HS.out (by have := HK.out; have := HN.out; have := HL.out; omega) (by omega) (by omega) HR2.out HB2.out).mono ?_; rintro e w4 ⟨rfl, hk4, A4, c4, hs4⟩; rw [HP2.out] at hs4; have HS4 := Aside0.mk hs4; have y0 : w4.cell? ⟨q, 0, none⟩ = some (.slice A4 R.length c4) := blk_cell hs4.blk 0; have HK4 := Aside0.mk hk4; clear hs4 hk4)
          go_ret
          exact HS4.out.got (Kq.below HX.out HK4.out HX.out.size HQq.out.2)
theorem script_calls (P : Qs) (A : Option Addr) (c : Nat) (l : List S39) (w : World) (hq : Qu w P) (hC : Kd.C k39 w A l.length l) (hc : l.length ≤ c) (hl : l.length ≤ 1000) : Calls Try.prog 11 #[.slice A l.length c, P.fn] w (Got w (script P.h l)) := by
  unfold Qs.fn
  rcases Nat.eq_zero_or_pos l.length with h0 | h0
  · have e := List.eq_nil_of_length_eq_zero h0
    subst e
    rw [show script P.h [] = [] from by unfold script; rw [if_pos (.inr rfl)]]
    exact script_empty P A c w hq hC
  · by_cases hh : P.h l = true
    · exact script_main P A c l.length l w hq hC hc hl rfl h0 hh
    · have hf := Bool.eq_false_iff.2 hh
      rw [script_not P.h l hf]
      exact script_no P A c l.length l w hq hC hc hl rfl (beq_eq_false_iff_ne.2 (by omega)) hf

end Go.Proofs.Ytlockojfinmddaa.X

/- The reference's once, Script and Least: contracts by hand. Conditions: none. -/
import Derived.Test.YtlockojfinmddaaXLeast
namespace Go.Proofs.Ytlockojfinmddaa.X
open Go.RowKit Go.Proofs.Ytlockojfinmddaa.PShrinkScripts Go.Proofs.YtlockojfinmddaaW.PrintWords Go.Proofs.YtlockojfinmddaaW.PrintLast Go.Proofs.YtlockojfinmddaaW.PrintMore
set_option linter.unusedVariables false
set_option linter.unusedSimpArgs false

theorem rwithout_n (A : Option Addr) (c n : Nat) (l : List S39) (fr many : Int) (m : List S39) (w : World) (hC : Kd.C k39 w A l.length l) (hc : l.length ≤ c) (hl : l.length ≤ 1000) (hm : m = wout l fr many) (hn : l.length = n) : Calls Try.prog 10 #[.slice A n c, .int .i64 fr, .int .i64 many] w (Row w m) := by
  subst hm hn
  refine (assartref37_Without.calls _ A c l fr many _ w hC hc (without_f l fr many (by omega))).mono ?_
  rintro e w' ⟨v, rfl, hR, hB⟩
  exact Row.of hR hB
/-- The question's box, made at b. -/
def Qs.at_ (P : Qs) (b : Nat) : Qs := { P with b := b }
theorem Qu.made {w : World} {P : Qs} (h : Qr w P) : Qu (w.alloc (.cells #[.slice P.A P.ws.length P.c, .int .i64 P.each, .int .i64 P.most] 24)) (P.at_ w.heap.size) :=
  ⟨⟨Kd.C_alloc h.row _, h.cap, h.small⟩, blk_new w _⟩
theorem Qu.qr {w : World} {P : Qs} {b : Nat} (h : Qu w (P.at_ b)) : Qr w P := ⟨h.row, h.cap, h.small⟩
theorem qh (P : Qs) (b : Nat) : (P.at_ b).h = P.h := rfl
theorem holds_to (P : Qs) (A : Option Addr) (c : Nat) (l : List S39) (r : Bool) (w : World) (h : Qr w P) (hC : Kd.C k39 w A l.length l) (hc : l.length ≤ c) (hl : l.length ≤ 1000) (hr : P.h l = r) : Calls Try.prog 16 #[.agg #[.slice P.A P.ws.length P.c, .int .i64 P.each, .int .i64 P.most], .slice A l.length c] w fun e w' => e = .returned (.bool r) ∧ Below w.heap.size w w' := by
  subst hr
  exact holds_calls P A c l w h hC hc hl
theorem holds_n (P : Qs) (A : Option Addr) (c n : Nat) (l : List S39) (r : Bool) (w : World) (h : Qr w P) (hC : Kd.C k39 w A l.length l) (hc : l.length ≤ c) (hl : l.length ≤ 1000) (hr : P.h l = r) (hn : l.length = n) : Calls Try.prog 16 #[.agg #[.slice P.A P.ws.length P.c, .int .i64 P.each, .int .i64 P.most], .slice A n c] w fun e w' => e = .returned (.bool r) ∧ Below w.heap.size w w' := by
  subst hn
  exact holds_to P A c l r w h hC hc hl hr
def OncePost (w : World) (r : List S39 × Bool) (e : Ending) (w' : World) : Prop := ∃ A c, e = .returned (.tuple #[.slice A r.1.length c, .bool r.2]) ∧ r.1.length ≤ c ∧ Kd.C k39 w' A r.1.length r.1 ∧ Below w.heap.size w w'
set_option maxHeartbeats 4000000 in
theorem once_calls (P : Qs) (A : Option Addr) (c : Nat) (l : List S39) (many : Int) (r : List S39 × Bool) (w : World) (hq : Qr w P) (hC : Kd.C k39 w A l.length l) (hc : l.length ≤ c) (hl : l.length ≤ 1000) (h1 : 1 ≤ many) (h2 : many ≤ 1000) (hr : passF P.h many l.length l 0 false = r) : Calls Try.prog 22 #[.agg #[.slice P.A P.ws.length P.c, .int .i64 P.each, .int .i64 P.most], .slice A l.length c, .int .i64 many] w (OncePost w r) := by
  have HQ := Aside0.mk (Qu.made hq)
  have HC := Aside0.mk hC
  have HL := Aside0.mk (And.intro hl hc)
  have HR := Aside0.mk hr
  clear hq hC hl hc hr
  go_enter Try.func22, Try.ntmps22
  go_wp2
  go_loopg [1, 8, 9, 10] l.length (fun kq v1 v8 v9 v10 w' => ∃ (a : Int) (less : Bool) (l2 : List S39) (A : Option Addr) (c : Nat), v1 = .slice A l2.length c ∧ v8 = .bool less ∧ v9 = .int .i64 a ∧ 0 ≤ a ∧ a ≤ 2000 ∧ Aside0 ((l2.length : Int) - a ≤ kq ∧ l2.length ≤ 1000 ∧ l2.length ≤ c) ∧ Aside0 (passF P.h many kq l2 a less = r) ∧ Aside0 (Kd.C k39 w' A l2.length l2) ∧ Aside0 (Qu w' (P.at_ w.heap.size)) ∧ Aside0 (Below w.heap.size w w'))
  case atStart => exact ⟨0, false, l, A, c, rfl, rfl, rfl, by omega, by omega, ⟨by omega, HL.out.1, HL.out.2⟩, HR, ⟨Kd.C_alloc HC.out _⟩, HQ, ⟨ballo (Below.refl _ _) _⟩⟩
  case round =>
    obtain ⟨a, less, l2, A2, c2, rfl, rfl, rfl, ha0, ha1, HK, HP, HS, HQ2, HX⟩ := hrel
    by_cases hlt : a < (l2.length : Int)
    · have hd : decide (a < (l2.length : Int)) = true := decide_eq_true hlt
      obtain ⟨gk, rfl⟩ : ∃ k, gk = k + 1 := ⟨gk - 1, by have := HK.out; omega⟩
      have hP := HP.out
      unfold passF at hP
      rw [if_pos hlt] at hP
      have HW := Aside0.mk (wout_less l2 a many ha0 hlt h1)
      have hlt2 : a ≤ 1000 := by have := HK.out; omega
      obtain ⟨m, hm⟩ : ∃ m, m = wout l2 a many := ⟨_, rfl⟩
      rw [← hm] at hP HW
      have HM := Aside0.mk hm
      clear hlt hm
      by_cases hb : P.h m = true
      · rw [if_pos hb] at hP
        have HP2 := Aside0.mk hP
        have HB := Aside0.mk hb
        clear hP hb
        go_wp2_with (first
          | (go_at_call 10; refine (rwithout_n A2 c2 _ l2 a many m wr HS.out HK.out.2.2 HK.out.2.1 HM.out rfl).mono ?_; rintro e w3 ⟨A3, c3, rfl, hR, hB⟩; have HB3 := Aside0.mk hB; have HR3 := Aside0.mk hR; have Q3 := Aside0.mk (HQ2.out.below hB); have y0 : w3.cell? ⟨w.heap.size, 0, none⟩ = some (.slice P.A P.ws.length P.c) := blk_cell Q3.out.blk 0; have y1 : w3.cell? ⟨w.heap.size, 1, none⟩ = some (.int .i64 P.each) := blk_cell Q3.out.blk 1; have y2 : w3.cell? ⟨w.heap.size, 2, none⟩ = some (.int .i64 P.most) := blk_cell Q3.out.blk 2; clear hB hR)
          | (go_at_call 16; refine (holds_to P A3 c3 m true _ Q3.out.qr (row_len HR3.out).2.1 (row_len HR3.out).1 (by have := HW.out; have := HK.out; omega) HB.out).mono ?_; rintro e w5 ⟨rfl, hB⟩; have HB5 := Aside0.mk hB; clear hB))
        go_roundg gk
        case measure => omega
        case rel =>
          have := HW.out
          have := HK.out
          have h := row_len HR3.out
          exact ⟨a, true, m, A3, c3, rfl, rfl, rfl, ha0, ha1, ⟨by omega, by omega, h.1⟩, HP2, ⟨Kd.C_below h.2.1 HB5.out⟩, ⟨Q3.out.below HB5.out⟩, ⟨bthen (bthen HX.out HB3.out) HB5.out⟩⟩
      · rw [if_neg hb] at hP
        have HP2 := Aside0.mk hP
        have HB := Aside0.mk (Bool.eq_false_iff.2 hb)
        clear hP hb
        go_wp2_with (first
          | (go_at_call 10; refine (rwithout_n A2 c2 _ l2 a many m wr HS.out HK.out.2.2 HK.out.2.1 HM.out rfl).mono ?_; rintro e w3 ⟨A3, c3, rfl, hR, hB⟩; have HB3 := Aside0.mk hB; have HR3 := Aside0.mk hR; have Q3 := Aside0.mk (HQ2.out.below hB); have y0 : w3.cell? ⟨w.heap.size, 0, none⟩ = some (.slice P.A P.ws.length P.c) := blk_cell Q3.out.blk 0; have y1 : w3.cell? ⟨w.heap.size, 1, none⟩ = some (.int .i64 P.each) := blk_cell Q3.out.blk 1; have y2 : w3.cell? ⟨w.heap.size, 2, none⟩ = some (.int .i64 P.most) := blk_cell Q3.out.blk 2; clear hB hR)
          | (go_at_call 16; refine (holds_to P A3 c3 m false _ Q3.out.qr (row_len HR3.out).2.1 (row_len HR3.out).1 (by have := HW.out; have := HK.out; omega) HB.out).mono ?_; rintro e w5 ⟨rfl, hB⟩; have HB5 := Aside0.mk hB; clear hB))
        go_roundg gk
        case measure => omega
        case rel =>
          have := HK.out
          exact ⟨a + many, less, l2, A2, c2, rfl, rfl, by first | rfl | (congr 1; rw [w64 (by omega) (by omega)]), by omega, by omega, ⟨by omega, by omega, by omega⟩, HP2, ⟨Kd.C_below HS.out (bthen HB3.out HB5.out)⟩, ⟨Q3.out.below HB5.out⟩, ⟨bthen (bthen HX.out HB3.out) HB5.out⟩⟩
    · have hd : decide (a < (l2.length : Int)) = false := decide_eq_false hlt
      have hP : (l2, less) = r := by
        have hP := HP.out
        cases gk with
        | zero => exact hP
        | succ k => unfold passF at hP; rw [if_neg hlt] at hP; exact hP
      subst hP
      clear hlt
      go_wp2
      go_ret2
      exact ⟨A2, c2, rfl, HK.out.2.2, HS.out, HX.out⟩

theorem once_to (P : Qs) (A : Option Addr) (c n : Nat) (l : List S39) (many : Int) (r : List S39 × Bool) (w : World) (hq : Qr w P) (hC : Kd.C k39 w A l.length l) (hc : l.length ≤ c) (hl : l.length ≤ 1000) (h1 : 1 ≤ many) (h2 : many ≤ 1000) (hr : passF P.h many l.length l 0 false = r) (hn : l.length = n) : Calls Try.prog 22 #[.agg #[.slice P.A P.ws.length P.c, .int .i64 P.each, .int .i64 P.most], .slice A n c, .int .i64 many] w (OncePost w r) := by
  subst hn
  exact once_calls P A c l many r w hq hC hc hl h1 h2 hr
theorem halfN_eq (n : Int) : (n + 1) / 2 = halfN n := by unfold halfN; omega
set_option maxHeartbeats 4000000 in
theorem rscript_main (P : Qs) (A : Option Addr) (c n : Nat) (l : List S39) (w : World) (hq : Qr w P) (hC : Kd.C k39 w A l.length l) (hc : l.length ≤ c) (hl : l.length ≤ 1000) (hn : l.length = n) (h0 : 1 ≤ n) (hh : P.h l = true) : Calls Try.prog 13 #[.agg #[.slice P.A P.ws.length P.c, .int .i64 P.each, .int .i64 P.most], .slice A n c] w (Got w (script P.h l)) := by
  obtain ⟨M, hM⟩ : ∃ M, halveF P.h n (halfN n) l = M := ⟨_, rfl⟩
  obtain ⟨R, hR⟩ : ∃ R, lastF P.h (n + 1) M = R := ⟨_, rfl⟩
  have hS : script P.h l = R := by
    unfold script
    rw [if_neg (by rw [hh]; rintro (h | h) <;> first | (cases h; done) | (subst h; simp at hn; omega)), hn, hM, hR]
  rw [hS]
  have HQ := Aside0.mk (Qu.made hq)
  have HC := Aside0.mk (Kd.C_alloc hC (.cells #[.slice P.A P.ws.length P.c, .int .i64 P.each, .int .i64 P.most] 24))
  have HL := Aside0.mk (And.intro hl hc)
  have HH := Aside0.mk hh
  have HN := Aside0.mk hn
  have HM := Aside0.mk hM
  have HR := Aside0.mk hR
  have h1 : ((n : Int) == 0) = false := beq_eq_false_iff_ne.2 (by omega)
  have h2 : (n == 0) = false := beq_eq_false_iff_ne.2 (by omega)
  have b0 : (1 : Int) ≤ (n : Int) := by omega
  have b1 : (n : Int) ≤ 1000 := by omega
  clear hq hC hc hl hh hn hM hR hS h0
  go_enter Try.func13, Try.ntmps13
  go_wp2_with (go_at_call 16; refine (holds_n P A c n l true _ HQ.out.qr HC.out HL.out.2 HL.out.1 HH.out HN.out).mono ?_; rintro e w1 ⟨rfl, hB⟩; have HB1 := Aside0.mk hB; have Q1 := Aside0.mk (HQ.out.below hB); have C1 := Aside0.mk (Kd.C_below HC.out hB); clear hB)
  go_loopg [1, 5] n (fun kq v1 v5 w' => ∃ (m : Int) (l2 : List S39) (A : Option Addr) (c : Nat), v1 = .slice A l2.length c ∧ v5 = .int .i64 m ∧ 1 ≤ m ∧ m ≤ 1000 ∧ m ≤ (kq : Int) + 1 ∧ Aside0 (l2.length ≤ n ∧ l2.length ≤ c) ∧ Aside0 (halveF P.h kq m l2 = M) ∧ Aside0 (Kd.C k39 w' A l2.length l2) ∧ Aside0 (Qu w' (P.at_ w.heap.size)) ∧ Aside0 (Below w.heap.size w w'))
  case atStart => exact ⟨halfN n, l, A, c, by rw [HN.out], by rw [← halfN_eq], by have := halfN_bd n b0; omega, by have := halfN_bd n b0; omega, by have := halfN_bd n b0; omega, ⟨by rw [HN.out]; exact Nat.le_refl _, HL.out.2⟩, HM, C1, Q1, ⟨bthen (ballo (Below.refl _ _) _) HB1.out⟩⟩
  case round =>
    clear C1 Q1 HB1
    obtain ⟨m, l2, A2, c2, rfl, rfl, hm1, hm2, hm3, HK, HP, HS, HQ2, HX⟩ := hrel
    by_cases hlt : 1 < m
    · have hd : decide (1 < m) = true := decide_eq_true hlt
      obtain ⟨k, rfl⟩ : ∃ k, gk = k + 1 := ⟨gk - 1, by omega⟩
      have hP := HP.out
      unfold halveF at hP
      rw [if_pos hlt] at hP
      obtain ⟨r, hr⟩ : ∃ r, passF P.h m l2.length l2 0 false = r := ⟨_, rfl⟩
      rw [hr] at hP
      have hrl : r.1.length ≤ n := by rw [← hr]; exact Nat.le_trans (pass_len _ _ _ _ _ _) HK.out.1
      have HP2 := Aside0.mk hP
      have HR2 := Aside0.mk hr
      have HR3 := Aside0.mk hrl
      have HM2 := Aside0.mk (And.intro (And.intro hm1 hm2) (And.intro hm3 hlt))
      have y0 : wr.cell? ⟨w.heap.size, 0, none⟩ = some (.slice P.A P.ws.length P.c) := blk_cell HQ2.out.blk 0; have y1 : wr.cell? ⟨w.heap.size, 1, none⟩ = some (.int .i64 P.each) := blk_cell HQ2.out.blk 1; have y2 : wr.cell? ⟨w.heap.size, 2, none⟩ = some (.int .i64 P.most) := blk_cell HQ2.out.blk 2
      clear hP hr hlt hm3 hrl
      go_wp2_with (go_at_call 22; refine (once_calls P A2 c2 l2 m r wr HQ2.out.qr HS.out HK.out.2 (by have := HK.out; omega) HM2.out.1.1 HM2.out.1.2 HR2.out).mono ?_; rintro e w4 ⟨A4, c4, rfl, hc4, hC4, hB4⟩; have H4 := Aside0.mk (And.intro hc4 (And.intro hC4 hB4)); clear hc4 hC4 hB4)
      go_roundg k
      case measure => omega
      case rel =>
        have h1 := halfN_bd m HM2.out.1.1
        have h2 := halfN_lt m (by have := HM2.out; omega)
        have := HM2.out
        exact ⟨halfN m, r.1, A4, c4, rfl, by rw [← halfN_eq], by omega, by omega, by omega, ⟨HR3.out, H4.out.1⟩, HP2, ⟨H4.out.2.1⟩, ⟨HQ2.out.below H4.out.2.2⟩, ⟨bthen HX.out H4.out.2.2⟩⟩
    · have hd : decide (1 < m) = false := decide_eq_false hlt
      have hP : l2 = M := by
        have hP := HP.out
        cases gk with
        | zero => exact hP
        | succ k => unfold halveF at hP; rw [if_neg hlt] at hP; exact hP
      subst hP
      clear hlt HP HM
      go_wp2_with fail
      obtain ⟨M, hM⟩ : ∃ M, M = l2 := ⟨_, rfl⟩
      rw [← hM] at HR HK HS
      have HM := Aside0.mk hM
      clear hM
      go_loopg [1, 6] (n + 1) (fun kq v1 v6 w' => ∃ (l3 : List S39) (less : Bool) (A : Option Addr) (c : Nat), v1 = .slice A l3.length c ∧ v6 = .bool less ∧ Aside0 (l3.length ≤ n ∧ l3.length ≤ c) ∧ Aside0 ((less = true ∧ l3.length < kq ∧ lastF P.h kq l3 = R) ∨ (less = false ∧ l3 = R)) ∧ Aside0 (Kd.C k39 w' A l3.length l3) ∧ Aside0 (Qu w' (P.at_ w.heap.size)) ∧ Aside0 (Below w.heap.size w w'))
      case atStart => exact ⟨M, true, A2, c2, by rw [HM.out], rfl, HK, ⟨.inl ⟨rfl, by have := HK.out; omega, HR.out⟩⟩, HS, HQ2, HX⟩
      case round =>
        clear HM HK HS HQ2 HX
        obtain ⟨l3, less, A3, c3, rfl, rfl, HK, HP, HS, HQ2, HX⟩ := hrel
        cases less with
        | false =>
          have hP : l3 = R := by
            rcases HP.out with ⟨h, _⟩ | ⟨_, h⟩
            · cases h
            · exact h
          subst hP
          go_wp2
          go_ret
          exact ⟨A3, c3, rfl, HK.out.2, HS.out, HX.out⟩
        | true =>
          have hP : l3.length < gk ∧ lastF P.h gk l3 = R := by
            rcases HP.out with ⟨_, h⟩ | ⟨h, _⟩
            · exact h
            · cases h
          obtain ⟨hk, hP⟩ := hP
          obtain ⟨k, rfl⟩ : ∃ k, gk = k + 1 := ⟨gk - 1, by omega⟩
          unfold lastF at hP
          obtain ⟨r, hr⟩ : ∃ r, passF P.h 1 l3.length l3 0 false = r := ⟨_, rfl⟩
          rw [hr] at hP
          have hrl : r.1.length ≤ l3.length := by rw [← hr]; exact pass_len _ _ _ _ _ _
          have hrs : r.2 = true → r.1.length < l3.length := by
            intro hb
            rw [← hr] at hb ⊢
            rcases pass_less P.h 1 (by omega) l3.length l3 0 false (by omega) hb with e | e
            · cases e
            · exact e
          have HR2 := Aside0.mk hr
          have HR3 := Aside0.mk (And.intro hrl (And.intro hrs (And.intro hk hP)))
          have y0 : wr.cell? ⟨w.heap.size, 0, none⟩ = some (.slice P.A P.ws.length P.c) := blk_cell HQ2.out.blk 0; have y1 : wr.cell? ⟨w.heap.size, 1, none⟩ = some (.int .i64 P.each) := blk_cell HQ2.out.blk 1; have y2 : wr.cell? ⟨w.heap.size, 2, none⟩ = some (.int .i64 P.most) := blk_cell HQ2.out.blk 2
          clear hr hrl hrs hP hk
          go_wp2_with (go_at_call 22; refine (once_calls P A3 c3 l3 1 r wr HQ2.out.qr HS.out HK.out.2 (by have := HK.out; omega) (by omega) (by omega) HR2.out).mono ?_; rintro e w4 ⟨A4, c4, rfl, hc4, hC4, hB4⟩; have H4 := Aside0.mk (And.intro hc4 (And.intro hC4 hB4)); clear hc4 hC4 hB4)
          go_roundg k
          case measure => omega
          case rel =>
            have h := HR3.out
            have hK := HK.out
            refine ⟨r.1, r.2, A4, c4, rfl, rfl, ⟨by omega, H4.out.1⟩, ⟨?_⟩, ⟨H4.out.2.1⟩, ⟨HQ2.out.below H4.out.2.2⟩, ⟨bthen HX.out H4.out.2.2⟩⟩
            by_cases hb : r.2 = true
            · have h2 := h.2.2.2
              rw [if_pos hb] at h2
              exact .inl ⟨hb, by have := h.2.1 hb; omega, h2⟩
            · have h2 := h.2.2.2
              rw [if_neg hb] at h2
              exact .inr ⟨Bool.eq_false_iff.2 hb, h2⟩

end Go.Proofs.Ytlockojfinmddaa.X
